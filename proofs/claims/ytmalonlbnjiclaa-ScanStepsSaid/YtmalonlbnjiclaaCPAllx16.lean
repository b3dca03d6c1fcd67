-- Began as a text printed by a turned copy of print.py; two lines are added (fix16.py). Not trusted: Lean checks it.
import Derived.Test.YtmalonlbnjiclaaCPAllx0
import Derived.Test.YtmalonlbnjiclaaCPAllx11
import Derived.Test.YtmalonlbnjiclaaCPAllx12
import Derived.Test.YtmalonlbnjiclaaCPAllx13
import Derived.Test.YtmalonlbnjiclaaCPAllx14
import Derived.Test.YtmalonlbnjiclaaCPAllx15
namespace Go.Proofs.Ytmalonlbnjiclaa.PAll
open Go.RowKit Go.Proofs.YtmalonlbnjiclaaW.PrintWords Go.Proofs.YtmalonlbnjiclaaW.PrintLast Go.Proofs.YtmalonlbnjiclaaW.PrintMore
attribute [local go_sem] max2_int min2_int max_two min_two max_three min_three max_four min_four   -- for this text's walks alone
set_option linter.unusedVariables false
set_option linter.unusedSimpArgs false
/-! ### pascalineref08_Next: function 14 -/
mutual
def pascalineref08_Next.j1 : Nat → ByteArray → Int → Int → Option (Int × Int × Int × ByteArray × Int × Int)
  | 0, _, _, _ => none
  | k + 1, x0, x6, x8 => if (wrap64 (x8 - x6)) > 32 then ((pascalineref08_bad.f x6 x8 140).bind fun bt266 => (some (bt266.1, bt266.2.1, bt266.2.2.1, bt266.2.2.2.1, bt266.2.2.2.2.1, bt266.2.2.2.2.2))) else (if 0 ≤ x6 then (if x6 ≤ x8 then (if x8 ≤ (x0.size : Int) then ((pascalineref08_Key.f k (x0.extract (x6 : Int).toNat (x8 : Int).toNat)).bind fun t272 => (if t272 = true then (some (5, x6, x8, x0.extract (x6 : Int).toNat (x8 : Int).toNat, 0, 0)) else (some (1, x6, x8, x0.extract (x6 : Int).toNat (x8 : Int).toNat, 0, 0)))) else (none)) else (none)) else (none))
def pascalineref08_Next.l0 : Nat → ByteArray → Int → Int → Option (Int × Int × Int × ByteArray × Int × Int)
  | 0, _, _, _ => none
  | k + 1, x0, x6, x8 => if x8 < (x0.size : Int) then (if 0 ≤ x8 then ((pascalineref08_letter.f (bt x0 x8)).bind fun t264 => (if t264 = true then (pascalineref08_Next.l0 k x0 x6 (wrap64 (x8 + 1))) else ((pascalineref08_digit.f (bt x0 x8)).bind fun t265 => (if t265 = true then (pascalineref08_Next.l0 k x0 x6 (wrap64 (x8 + 1))) else (pascalineref08_Next.j1 k x0 x6 x8))))) else (none)) else (pascalineref08_Next.j1 k x0 x6 x8)
def pascalineref08_Next.l1 : Nat → ByteArray → Int → Int → Option (Int × Int × Int × ByteArray × Int × Int)
  | 0, _, _, _ => none
  | k + 1, x0, x6, x8 => if x8 < (x0.size : Int) then (if 0 ≤ x8 then (if (bt x0 x8) ≥ 32 then (if (bt x0 x8) ≤ 126 then (if (bt x0 x8) = 34 then (if x8 = (x0.size : Int) then ((pascalineref08_bad.f x6 x8 82).bind fun bt310 => (some (bt310.1, bt310.2.1, bt310.2.2.1, bt310.2.2.2.1, bt310.2.2.2.2.1, bt310.2.2.2.2.2))) else (if 0 ≤ (wrap64 (x6 + 1)) then (if (wrap64 (x6 + 1)) ≤ x8 then (if x8 ≤ (x0.size : Int) then (some (4, x6, wrap64 (x8 + 1), x0.extract ((wrap64 (x6 + 1)) : Int).toNat (x8 : Int).toNat, 0, 0)) else (none)) else (none)) else (none))) else (pascalineref08_Next.l1 k x0 x6 (wrap64 (x8 + 1)))) else (if x8 = (x0.size : Int) then ((pascalineref08_bad.f x6 x8 82).bind fun bt316 => (some (bt316.1, bt316.2.1, bt316.2.2.1, bt316.2.2.2.1, bt316.2.2.2.2.1, bt316.2.2.2.2.2))) else (if (bt x0 x8) = 34 then (if 0 ≤ (wrap64 (x6 + 1)) then (if (wrap64 (x6 + 1)) ≤ x8 then (if x8 ≤ (x0.size : Int) then (some (4, x6, wrap64 (x8 + 1), x0.extract ((wrap64 (x6 + 1)) : Int).toNat (x8 : Int).toNat, 0, 0)) else (none)) else (none)) else (none)) else ((pascalineref08_bad.f x6 x8 82).bind fun bt322 => (some (bt322.1, bt322.2.1, bt322.2.2.1, bt322.2.2.2.1, bt322.2.2.2.2.1, bt322.2.2.2.2.2)))))) else (if x8 = (x0.size : Int) then ((pascalineref08_bad.f x6 x8 82).bind fun bt328 => (some (bt328.1, bt328.2.1, bt328.2.2.1, bt328.2.2.2.1, bt328.2.2.2.2.1, bt328.2.2.2.2.2))) else (if (bt x0 x8) = 34 then (if 0 ≤ (wrap64 (x6 + 1)) then (if (wrap64 (x6 + 1)) ≤ x8 then (if x8 ≤ (x0.size : Int) then (some (4, x6, wrap64 (x8 + 1), x0.extract ((wrap64 (x6 + 1)) : Int).toNat (x8 : Int).toNat, 0, 0)) else (none)) else (none)) else (none)) else ((pascalineref08_bad.f x6 x8 82).bind fun bt334 => (some (bt334.1, bt334.2.1, bt334.2.2.1, bt334.2.2.2.1, bt334.2.2.2.2.1, bt334.2.2.2.2.2)))))) else (none)) else (if x8 = (x0.size : Int) then ((pascalineref08_bad.f x6 x8 82).bind fun bt340 => (some (bt340.1, bt340.2.1, bt340.2.2.1, bt340.2.2.2.1, bt340.2.2.2.2.1, bt340.2.2.2.2.2))) else (if 0 ≤ x8 then (none) else (none)))
def pascalineref08_Next.j3 : Nat → ByteArray → Int → Int → Bool → Option (Int × Int × Int × ByteArray × Int × Int)
  | 0, _, _, _, _ => none
  | k + 1, x0, x6, x9, x216 => if x216 = true then (if 0 ≤ x6 then (if x6 ≤ (wrap64 (x6 + 2)) then (if (wrap64 (x6 + 2)) ≤ (x0.size : Int) then (some (6, x6, wrap64 (x6 + 2), x0.extract (x6 : Int).toNat ((wrap64 (x6 + 2)) : Int).toNat, 0, 0)) else (none)) else (none)) else (none)) else (pascalineref08_Next.l2 k x0 x6 x9 (⟨#[43, 45, 42, 61, 35, 60, 62, 40, 41, 91, 93, 46, 44, 59, 58, 94, 124]⟩ : ByteArray) 0)
def pascalineref08_Next.l2 : Nat → ByteArray → Int → Int → ByteArray → Int → Option (Int × Int × Int × ByteArray × Int × Int)
  | 0, _, _, _, _, _ => none
  | k + 1, x0, x6, x9, x10, x11 => if x11 < (x10.size : Int) then (if 0 ≤ x11 then (if (bt x10 x11) = x9 then (if 0 ≤ x6 then (if x6 ≤ (wrap64 (x6 + 1)) then (if (wrap64 (x6 + 1)) ≤ (x0.size : Int) then (some (6, x6, wrap64 (x6 + 1), x0.extract (x6 : Int).toNat ((wrap64 (x6 + 1)) : Int).toNat, 0, 0)) else (none)) else (none)) else (none)) else (pascalineref08_Next.l2 k x0 x6 x9 x10 (wrap64 (x11 + 1)))) else (none)) else ((pascalineref08_bad.f x6 (wrap64 (x6 + 1)) 83).bind fun bt349 => (some (bt349.1, bt349.2.1, bt349.2.2.1, bt349.2.2.2.1, bt349.2.2.2.2.1, bt349.2.2.2.2.2)))
end
def pascalineref08_Next.f (k : Nat) (a0 : ByteArray) (a1 : Int) : Option (Int × Int × Int × ByteArray × Int × Int) := (pascalineref08_blanks.f k a0 a1).bind fun bt255 => (if bt255.2 = true then (if bt255.1 = (a0.size : Int) then (some (0, bt255.1, bt255.1, (⟨#[]⟩ : ByteArray), 0, 0)) else (if 0 ≤ bt255.1 then (if bt255.1 < (a0.size : Int) then ((pascalineref08_letter.f (bt a0 bt255.1)).bind fun t263 => (if t263 = true then (pascalineref08_Next.l0 k a0 bt255.1 bt255.1) else ((pascalineref08_digit.f (bt a0 bt255.1)).bind fun t273 => (if t273 = true then ((pascalineref08_number.f k a0 bt255.1).bind fun bt274 => (some (bt274.1, bt274.2.1, bt274.2.2.1, bt274.2.2.2.1, bt274.2.2.2.2.1, bt274.2.2.2.2.2))) else (if (bt a0 bt255.1) = 36 then ((pascalineref08_hex.f k a0 bt255.1).bind fun bt280 => (some (bt280.1, bt280.2.1, bt280.2.2.1, bt280.2.2.2.1, bt280.2.2.2.2.1, bt280.2.2.2.2.2))) else (if (bt a0 bt255.1) = 39 then (if (wrap64 (bt255.1 + 2)) < (a0.size : Int) then (if 0 ≤ (wrap64 (bt255.1 + 1)) then (if (wrap64 (bt255.1 + 1)) < (a0.size : Int) then (if (bt a0 (wrap64 (bt255.1 + 1))) ≥ 32 then (if (bt a0 (wrap64 (bt255.1 + 1))) ≤ 126 then (if 0 ≤ (wrap64 (bt255.1 + 2)) then (if (bt a0 (wrap64 (bt255.1 + 2))) = 39 then (if bt255.1 ≤ (wrap64 (bt255.1 + 3)) then (if (wrap64 (bt255.1 + 3)) ≤ (a0.size : Int) then (some (3, bt255.1, wrap64 (bt255.1 + 3), a0.extract (bt255.1 : Int).toNat ((wrap64 (bt255.1 + 3)) : Int).toNat, wrap32 (bt a0 (wrap64 (bt255.1 + 1))), 0)) else (none)) else (none)) else ((pascalineref08_bad.f bt255.1 (wrap64 (bt255.1 + 1)) 82).bind fun bt286 => (some (bt286.1, bt286.2.1, bt286.2.2.1, bt286.2.2.2.1, bt286.2.2.2.2.1, bt286.2.2.2.2.2)))) else (none)) else ((pascalineref08_bad.f bt255.1 (wrap64 (bt255.1 + 1)) 82).bind fun bt292 => (some (bt292.1, bt292.2.1, bt292.2.2.1, bt292.2.2.2.1, bt292.2.2.2.2.1, bt292.2.2.2.2.2)))) else ((pascalineref08_bad.f bt255.1 (wrap64 (bt255.1 + 1)) 82).bind fun bt298 => (some (bt298.1, bt298.2.1, bt298.2.2.1, bt298.2.2.2.1, bt298.2.2.2.2.1, bt298.2.2.2.2.2)))) else (none)) else (none)) else ((pascalineref08_bad.f bt255.1 (wrap64 (bt255.1 + 1)) 82).bind fun bt304 => (some (bt304.1, bt304.2.1, bt304.2.2.1, bt304.2.2.2.1, bt304.2.2.2.2.1, bt304.2.2.2.2.2)))) else (if (bt a0 bt255.1) = 34 then (pascalineref08_Next.l1 k a0 bt255.1 (wrap64 (bt255.1 + 1))) else ((pascalineref08_two.f a0 bt255.1 58 61).bind fun t346 => (if t346 = true then (pascalineref08_Next.j3 k a0 bt255.1 (bt a0 bt255.1) true) else ((pascalineref08_two.f a0 bt255.1 60 61).bind fun t347 => (if t347 = true then (pascalineref08_Next.j3 k a0 bt255.1 (bt a0 bt255.1) true) else ((pascalineref08_two.f a0 bt255.1 62 61).bind fun t348 => (pascalineref08_Next.j3 k a0 bt255.1 (bt a0 bt255.1) t348))))))))))))) else (none)) else (none))) else ((pascalineref08_bad.f a1 (a0.size : Int) 81).bind fun bt257 => (some (bt257.1, bt257.2.1, bt257.2.2.1, bt257.2.2.2.1, bt257.2.2.2.2.1, bt257.2.2.2.2.2))))
theorem pascalineref08_Next.mono_l : ∀ k, (∀ y0 y1 y2, LeO (pascalineref08_Next.j1 k y0 y1 y2) (pascalineref08_Next.j1 (k + 1) y0 y1 y2)) ∧ (∀ y0 y1 y2, LeO (pascalineref08_Next.l0 k y0 y1 y2) (pascalineref08_Next.l0 (k + 1) y0 y1 y2)) ∧ (∀ y0 y1 y2, LeO (pascalineref08_Next.l1 k y0 y1 y2) (pascalineref08_Next.l1 (k + 1) y0 y1 y2)) ∧ (∀ y0 y1 y2 y3, LeO (pascalineref08_Next.j3 k y0 y1 y2 y3) (pascalineref08_Next.j3 (k + 1) y0 y1 y2 y3)) ∧ (∀ y0 y1 y2 y3 y4, LeO (pascalineref08_Next.l2 k y0 y1 y2 y3 y4) (pascalineref08_Next.l2 (k + 1) y0 y1 y2 y3 y4))
  | 0 => ⟨fun _ _ _ r h => by simp [pascalineref08_Next.j1] at h, fun _ _ _ r h => by simp [pascalineref08_Next.l0] at h, fun _ _ _ r h => by simp [pascalineref08_Next.l1] at h, fun _ _ _ _ r h => by simp [pascalineref08_Next.j3] at h, fun _ _ _ _ _ r h => by simp [pascalineref08_Next.l2] at h⟩
  | k + 1 => by
    obtain ⟨ih0, ih1, ih2, ih3, ih4⟩ := pascalineref08_Next.mono_l k
    refine ⟨?_, ?_, ?_, ?_, ?_⟩
    · intro y0 y1 y2
      unfold pascalineref08_Next.j1
      repeat' first
      | (with_reducible exact ih0 _ _ _)
      | (with_reducible exact ih1 _ _ _)
      | (with_reducible exact ih2 _ _ _)
      | (with_reducible exact ih3 _ _ _ _)
      | (with_reducible exact ih4 _ _ _ _ _)
      | (with_reducible exact pascalineref08_Key.mono _ _)
      | (with_reducible exact pascalineref08_blanks.mono _ _ _)
      | (with_reducible exact pascalineref08_hex.mono _ _ _)
      | (with_reducible exact pascalineref08_number.mono _ _ _)
      | (with_reducible exact LeO.refl _)
      | (with_reducible exact LeO.none _)
      | (with_reducible refine LeO.ite ?_ ?_)
      | (with_reducible refine LeO.bind ?_ (fun _ => ?_))
      | exact ih0 _ _ _
      | exact ih1 _ _ _
      | exact ih2 _ _ _
      | exact ih3 _ _ _ _
      | exact ih4 _ _ _ _ _
      | exact pascalineref08_Key.mono _ _
      | exact pascalineref08_blanks.mono _ _ _
      | exact pascalineref08_hex.mono _ _ _
      | exact pascalineref08_number.mono _ _ _
      | exact LeO.none _
      | refine LeO.ite ?_ ?_
      | refine LeO.bind ?_ (fun _ => ?_)
    · intro y0 y1 y2
      unfold pascalineref08_Next.l0
      repeat' first
      | (with_reducible exact ih0 _ _ _)
      | (with_reducible exact ih1 _ _ _)
      | (with_reducible exact ih2 _ _ _)
      | (with_reducible exact ih3 _ _ _ _)
      | (with_reducible exact ih4 _ _ _ _ _)
      | (with_reducible exact pascalineref08_Key.mono _ _)
      | (with_reducible exact pascalineref08_blanks.mono _ _ _)
      | (with_reducible exact pascalineref08_hex.mono _ _ _)
      | (with_reducible exact pascalineref08_number.mono _ _ _)
      | (with_reducible exact LeO.refl _)
      | (with_reducible exact LeO.none _)
      | (with_reducible refine LeO.ite ?_ ?_)
      | (with_reducible refine LeO.bind ?_ (fun _ => ?_))
      | exact ih0 _ _ _
      | exact ih1 _ _ _
      | exact ih2 _ _ _
      | exact ih3 _ _ _ _
      | exact ih4 _ _ _ _ _
      | exact pascalineref08_Key.mono _ _
      | exact pascalineref08_blanks.mono _ _ _
      | exact pascalineref08_hex.mono _ _ _
      | exact pascalineref08_number.mono _ _ _
      | exact LeO.none _
      | refine LeO.ite ?_ ?_
      | refine LeO.bind ?_ (fun _ => ?_)
    · intro y0 y1 y2
      unfold pascalineref08_Next.l1
      repeat' first
      | (with_reducible exact ih0 _ _ _)
      | (with_reducible exact ih1 _ _ _)
      | (with_reducible exact ih2 _ _ _)
      | (with_reducible exact ih3 _ _ _ _)
      | (with_reducible exact ih4 _ _ _ _ _)
      | (with_reducible exact pascalineref08_Key.mono _ _)
      | (with_reducible exact pascalineref08_blanks.mono _ _ _)
      | (with_reducible exact pascalineref08_hex.mono _ _ _)
      | (with_reducible exact pascalineref08_number.mono _ _ _)
      | (with_reducible exact LeO.refl _)
      | (with_reducible exact LeO.none _)
      | (with_reducible refine LeO.ite ?_ ?_)
      | (with_reducible refine LeO.bind ?_ (fun _ => ?_))
      | exact ih0 _ _ _
      | exact ih1 _ _ _
      | exact ih2 _ _ _
      | exact ih3 _ _ _ _
      | exact ih4 _ _ _ _ _
      | exact pascalineref08_Key.mono _ _
      | exact pascalineref08_blanks.mono _ _ _
      | exact pascalineref08_hex.mono _ _ _
      | exact pascalineref08_number.mono _ _ _
      | exact LeO.none _
      | refine LeO.ite ?_ ?_
      | refine LeO.bind ?_ (fun _ => ?_)
    · intro y0 y1 y2 y3
      unfold pascalineref08_Next.j3
      repeat' first
      | (with_reducible exact ih0 _ _ _)
      | (with_reducible exact ih1 _ _ _)
      | (with_reducible exact ih2 _ _ _)
      | (with_reducible exact ih3 _ _ _ _)
      | (with_reducible exact ih4 _ _ _ _ _)
      | (with_reducible exact pascalineref08_Key.mono _ _)
      | (with_reducible exact pascalineref08_blanks.mono _ _ _)
      | (with_reducible exact pascalineref08_hex.mono _ _ _)
      | (with_reducible exact pascalineref08_number.mono _ _ _)
      | (with_reducible exact LeO.refl _)
      | (with_reducible exact LeO.none _)
      | (with_reducible refine LeO.ite ?_ ?_)
      | (with_reducible refine LeO.bind ?_ (fun _ => ?_))
      | exact ih0 _ _ _
      | exact ih1 _ _ _
      | exact ih2 _ _ _
      | exact ih3 _ _ _ _
      | exact ih4 _ _ _ _ _
      | exact pascalineref08_Key.mono _ _
      | exact pascalineref08_blanks.mono _ _ _
      | exact pascalineref08_hex.mono _ _ _
      | exact pascalineref08_number.mono _ _ _
      | exact LeO.none _
      | refine LeO.ite ?_ ?_
      | refine LeO.bind ?_ (fun _ => ?_)
    · intro y0 y1 y2 y3 y4
      unfold pascalineref08_Next.l2
      repeat' first
      | (with_reducible exact ih0 _ _ _)
      | (with_reducible exact ih1 _ _ _)
      | (with_reducible exact ih2 _ _ _)
      | (with_reducible exact ih3 _ _ _ _)
      | (with_reducible exact ih4 _ _ _ _ _)
      | (with_reducible exact pascalineref08_Key.mono _ _)
      | (with_reducible exact pascalineref08_blanks.mono _ _ _)
      | (with_reducible exact pascalineref08_hex.mono _ _ _)
      | (with_reducible exact pascalineref08_number.mono _ _ _)
      | (with_reducible exact LeO.refl _)
      | (with_reducible exact LeO.none _)
      | (with_reducible refine LeO.ite ?_ ?_)
      | (with_reducible refine LeO.bind ?_ (fun _ => ?_))
      | exact ih0 _ _ _
      | exact ih1 _ _ _
      | exact ih2 _ _ _
      | exact ih3 _ _ _ _
      | exact ih4 _ _ _ _ _
      | exact pascalineref08_Key.mono _ _
      | exact pascalineref08_blanks.mono _ _ _
      | exact pascalineref08_hex.mono _ _ _
      | exact pascalineref08_number.mono _ _ _
      | exact LeO.none _
      | refine LeO.ite ?_ ?_
      | refine LeO.bind ?_ (fun _ => ?_)
theorem pascalineref08_Next.mono : ∀ a0 a1 k, LeO (pascalineref08_Next.f k a0 a1) (pascalineref08_Next.f (k + 1) a0 a1) := by
  intro a0 a1 k
  obtain ⟨ih0, ih1, ih2, ih3, ih4⟩ := pascalineref08_Next.mono_l k
  unfold pascalineref08_Next.f
  repeat' first
      | (with_reducible exact ih0 _ _ _)
      | (with_reducible exact ih1 _ _ _)
      | (with_reducible exact ih2 _ _ _)
      | (with_reducible exact ih3 _ _ _ _)
      | (with_reducible exact ih4 _ _ _ _ _)
      | (with_reducible exact pascalineref08_Key.mono _ _)
      | (with_reducible exact pascalineref08_blanks.mono _ _ _)
      | (with_reducible exact pascalineref08_hex.mono _ _ _)
      | (with_reducible exact pascalineref08_number.mono _ _ _)
      | (with_reducible exact LeO.refl _)
      | (with_reducible exact LeO.none _)
      | (with_reducible refine LeO.ite ?_ ?_)
      | (with_reducible refine LeO.bind ?_ (fun _ => ?_))
      | exact ih0 _ _ _
      | exact ih1 _ _ _
      | exact ih2 _ _ _
      | exact ih3 _ _ _ _
      | exact ih4 _ _ _ _ _
      | exact pascalineref08_Key.mono _ _
      | exact pascalineref08_blanks.mono _ _ _
      | exact pascalineref08_hex.mono _ _ _
      | exact pascalineref08_number.mono _ _ _
      | exact LeO.none _
      | refine LeO.ite ?_ ?_
      | refine LeO.bind ?_ (fun _ => ?_)
def pascalineref08_Next.T22 : Bool × List (List Nat × List Nat) := (true, [([], []), ([], []), ([1], [1]), ([], []), ([], []), ([], []), ([5], [5]), ([3, 4, 6], [3, 4, 6]), ([], []), ([], []), ([9], [9]), ([8, 10], [8, 10]), ([11], [11]), ([0, 2, 7, 12], [0, 2, 7, 12]), ([13, 0, 1, 2, 3, 4, 5, 6, 7, 8, 9, 10, 11, 12, 13], [13]), ([14, 0, 1, 2, 3, 4, 5, 6, 7, 8, 9, 10, 11, 12, 13, 14], [])])
def pascalineref08_Next.B22 : List Nat := [0, 0, 2, 0, 0, 0, 32, 120, 0, 0, 512, 1792, 3840, 8191, 16383, 32767]
theorem pascalineref08_Next.tab22 : rtab .any (opsOf Try.f14 22) = pascalineref08_Next.T22 := by kernel_rfl
theorem pascalineref08_Next.bits22 : waitsOk pascalineref08_Next.T22.2 pascalineref08_Next.B22 = true := by kernel_rfl
set_option maxHeartbeats 8000000 in
set_option maxRecDepth 100000 in
theorem pascalineref08_Next.calls (k : Nat) (a0 : ByteArray) (a1 : Int) (r1 : Int) (r2 : Int) (r3 : Int) (r4 : ByteArray) (r5 : Int) (r6 : Int) (w : World) (h : pascalineref08_Next.f k a0 a1 = some (r1, r2, r3, r4, r5, r6)) :
  Calls Try.prog 14 #[.string a0, .int .i64 a1] w fun e w' => e = .returned (.tuple #[.agg #[.int .i64 r1, .int .i64 r2, .int .i64 r3, .string r4, .int .i32 r5], .int .i64 r6]) ∧ Below w.heap.size w w' := by
 have hu33 := Try.underlying33
 have HB := Aside0.mk (Below.refl w.heap.size w)
 have H : ((pascalineref08_blanks.f k a0 a1).bind fun bt255 => (if bt255.2 = true then (if bt255.1 = (a0.size : Int) then (some (0, bt255.1, bt255.1, (⟨#[]⟩ : ByteArray), 0, 0)) else (if 0 ≤ bt255.1 then (if bt255.1 < (a0.size : Int) then ((pascalineref08_letter.f (bt a0 bt255.1)).bind fun t263 => (if t263 = true then (pascalineref08_Next.l0 k a0 bt255.1 bt255.1) else ((pascalineref08_digit.f (bt a0 bt255.1)).bind fun t273 => (if t273 = true then ((pascalineref08_number.f k a0 bt255.1).bind fun bt274 => (some (bt274.1, bt274.2.1, bt274.2.2.1, bt274.2.2.2.1, bt274.2.2.2.2.1, bt274.2.2.2.2.2))) else (if (bt a0 bt255.1) = 36 then ((pascalineref08_hex.f k a0 bt255.1).bind fun bt280 => (some (bt280.1, bt280.2.1, bt280.2.2.1, bt280.2.2.2.1, bt280.2.2.2.2.1, bt280.2.2.2.2.2))) else (if (bt a0 bt255.1) = 39 then (if (wrap64 (bt255.1 + 2)) < (a0.size : Int) then (if 0 ≤ (wrap64 (bt255.1 + 1)) then (if (wrap64 (bt255.1 + 1)) < (a0.size : Int) then (if (bt a0 (wrap64 (bt255.1 + 1))) ≥ 32 then (if (bt a0 (wrap64 (bt255.1 + 1))) ≤ 126 then (if 0 ≤ (wrap64 (bt255.1 + 2)) then (if (bt a0 (wrap64 (bt255.1 + 2))) = 39 then (if bt255.1 ≤ (wrap64 (bt255.1 + 3)) then (if (wrap64 (bt255.1 + 3)) ≤ (a0.size : Int) then (some (3, bt255.1, wrap64 (bt255.1 + 3), a0.extract (bt255.1 : Int).toNat ((wrap64 (bt255.1 + 3)) : Int).toNat, wrap32 (bt a0 (wrap64 (bt255.1 + 1))), 0)) else (none)) else (none)) else ((pascalineref08_bad.f bt255.1 (wrap64 (bt255.1 + 1)) 82).bind fun bt286 => (some (bt286.1, bt286.2.1, bt286.2.2.1, bt286.2.2.2.1, bt286.2.2.2.2.1, bt286.2.2.2.2.2)))) else (none)) else ((pascalineref08_bad.f bt255.1 (wrap64 (bt255.1 + 1)) 82).bind fun bt292 => (some (bt292.1, bt292.2.1, bt292.2.2.1, bt292.2.2.2.1, bt292.2.2.2.2.1, bt292.2.2.2.2.2)))) else ((pascalineref08_bad.f bt255.1 (wrap64 (bt255.1 + 1)) 82).bind fun bt298 => (some (bt298.1, bt298.2.1, bt298.2.2.1, bt298.2.2.2.1, bt298.2.2.2.2.1, bt298.2.2.2.2.2)))) else (none)) else (none)) else ((pascalineref08_bad.f bt255.1 (wrap64 (bt255.1 + 1)) 82).bind fun bt304 => (some (bt304.1, bt304.2.1, bt304.2.2.1, bt304.2.2.2.1, bt304.2.2.2.2.1, bt304.2.2.2.2.2)))) else (if (bt a0 bt255.1) = 34 then (pascalineref08_Next.l1 k a0 bt255.1 (wrap64 (bt255.1 + 1))) else ((pascalineref08_two.f a0 bt255.1 58 61).bind fun t346 => (if t346 = true then (pascalineref08_Next.j3 k a0 bt255.1 (bt a0 bt255.1) true) else ((pascalineref08_two.f a0 bt255.1 60 61).bind fun t347 => (if t347 = true then (pascalineref08_Next.j3 k a0 bt255.1 (bt a0 bt255.1) true) else ((pascalineref08_two.f a0 bt255.1 62 61).bind fun t348 => (pascalineref08_Next.j3 k a0 bt255.1 (bt a0 bt255.1) t348))))))))))))) else (none)) else (none))) else ((pascalineref08_bad.f a1 (a0.size : Int) 81).bind fun bt257 => (some (bt257.1, bt257.2.1, bt257.2.2.1, bt257.2.2.2.1, bt257.2.2.2.2.1, bt257.2.2.2.2.2))))) = some (r1, r2, r3, r4, r5, r6) := h
 clear h
 replace H := Option.bind_eq_some_iff.mp H
 obtain ⟨⟨t255, t256⟩, A30, H⟩ := H
 replace H : (if t256 = true then (if t255 = (a0.size : Int) then (some (0, t255, t255, (⟨#[]⟩ : ByteArray), 0, 0)) else (if 0 ≤ t255 then (if t255 < (a0.size : Int) then ((pascalineref08_letter.f (bt a0 t255)).bind fun t263 => (if t263 = true then (pascalineref08_Next.l0 k a0 t255 t255) else ((pascalineref08_digit.f (bt a0 t255)).bind fun t273 => (if t273 = true then ((pascalineref08_number.f k a0 t255).bind fun bt274 => (some (bt274.1, bt274.2.1, bt274.2.2.1, bt274.2.2.2.1, bt274.2.2.2.2.1, bt274.2.2.2.2.2))) else (if (bt a0 t255) = 36 then ((pascalineref08_hex.f k a0 t255).bind fun bt280 => (some (bt280.1, bt280.2.1, bt280.2.2.1, bt280.2.2.2.1, bt280.2.2.2.2.1, bt280.2.2.2.2.2))) else (if (bt a0 t255) = 39 then (if (wrap64 (t255 + 2)) < (a0.size : Int) then (if 0 ≤ (wrap64 (t255 + 1)) then (if (wrap64 (t255 + 1)) < (a0.size : Int) then (if (bt a0 (wrap64 (t255 + 1))) ≥ 32 then (if (bt a0 (wrap64 (t255 + 1))) ≤ 126 then (if 0 ≤ (wrap64 (t255 + 2)) then (if (bt a0 (wrap64 (t255 + 2))) = 39 then (if t255 ≤ (wrap64 (t255 + 3)) then (if (wrap64 (t255 + 3)) ≤ (a0.size : Int) then (some (3, t255, wrap64 (t255 + 3), a0.extract (t255 : Int).toNat ((wrap64 (t255 + 3)) : Int).toNat, wrap32 (bt a0 (wrap64 (t255 + 1))), 0)) else (none)) else (none)) else ((pascalineref08_bad.f t255 (wrap64 (t255 + 1)) 82).bind fun bt286 => (some (bt286.1, bt286.2.1, bt286.2.2.1, bt286.2.2.2.1, bt286.2.2.2.2.1, bt286.2.2.2.2.2)))) else (none)) else ((pascalineref08_bad.f t255 (wrap64 (t255 + 1)) 82).bind fun bt292 => (some (bt292.1, bt292.2.1, bt292.2.2.1, bt292.2.2.2.1, bt292.2.2.2.2.1, bt292.2.2.2.2.2)))) else ((pascalineref08_bad.f t255 (wrap64 (t255 + 1)) 82).bind fun bt298 => (some (bt298.1, bt298.2.1, bt298.2.2.1, bt298.2.2.2.1, bt298.2.2.2.2.1, bt298.2.2.2.2.2)))) else (none)) else (none)) else ((pascalineref08_bad.f t255 (wrap64 (t255 + 1)) 82).bind fun bt304 => (some (bt304.1, bt304.2.1, bt304.2.2.1, bt304.2.2.2.1, bt304.2.2.2.2.1, bt304.2.2.2.2.2)))) else (if (bt a0 t255) = 34 then (pascalineref08_Next.l1 k a0 t255 (wrap64 (t255 + 1))) else ((pascalineref08_two.f a0 t255 58 61).bind fun t346 => (if t346 = true then (pascalineref08_Next.j3 k a0 t255 (bt a0 t255) true) else ((pascalineref08_two.f a0 t255 60 61).bind fun t347 => (if t347 = true then (pascalineref08_Next.j3 k a0 t255 (bt a0 t255) true) else ((pascalineref08_two.f a0 t255 62 61).bind fun t348 => (pascalineref08_Next.j3 k a0 t255 (bt a0 t255) t348))))))))))))) else (none)) else (none))) else ((pascalineref08_bad.f a1 (a0.size : Int) 81).bind fun bt257 => (some (bt257.1, bt257.2.1, bt257.2.2.1, bt257.2.2.2.1, bt257.2.2.2.2.1, bt257.2.2.2.2.2)))) = some (r1, r2, r3, r4, r5, r6) := H
 have A3 := Aside0.mk A30
 clear A30
 by_cases c4 : t256 = true
 ·subst c4
  have H1 : (if t255 = (a0.size : Int) then (some (0, t255, t255, (⟨#[]⟩ : ByteArray), 0, 0)) else (if 0 ≤ t255 then (if t255 < (a0.size : Int) then ((pascalineref08_letter.f (bt a0 t255)).bind fun t263 => (if t263 = true then (pascalineref08_Next.l0 k a0 t255 t255) else ((pascalineref08_digit.f (bt a0 t255)).bind fun t273 => (if t273 = true then ((pascalineref08_number.f k a0 t255).bind fun bt274 => (some (bt274.1, bt274.2.1, bt274.2.2.1, bt274.2.2.2.1, bt274.2.2.2.2.1, bt274.2.2.2.2.2))) else (if (bt a0 t255) = 36 then ((pascalineref08_hex.f k a0 t255).bind fun bt280 => (some (bt280.1, bt280.2.1, bt280.2.2.1, bt280.2.2.2.1, bt280.2.2.2.2.1, bt280.2.2.2.2.2))) else (if (bt a0 t255) = 39 then (if (wrap64 (t255 + 2)) < (a0.size : Int) then (if 0 ≤ (wrap64 (t255 + 1)) then (if (wrap64 (t255 + 1)) < (a0.size : Int) then (if (bt a0 (wrap64 (t255 + 1))) ≥ 32 then (if (bt a0 (wrap64 (t255 + 1))) ≤ 126 then (if 0 ≤ (wrap64 (t255 + 2)) then (if (bt a0 (wrap64 (t255 + 2))) = 39 then (if t255 ≤ (wrap64 (t255 + 3)) then (if (wrap64 (t255 + 3)) ≤ (a0.size : Int) then (some (3, t255, wrap64 (t255 + 3), a0.extract (t255 : Int).toNat ((wrap64 (t255 + 3)) : Int).toNat, wrap32 (bt a0 (wrap64 (t255 + 1))), 0)) else (none)) else (none)) else ((pascalineref08_bad.f t255 (wrap64 (t255 + 1)) 82).bind fun bt286 => (some (bt286.1, bt286.2.1, bt286.2.2.1, bt286.2.2.2.1, bt286.2.2.2.2.1, bt286.2.2.2.2.2)))) else (none)) else ((pascalineref08_bad.f t255 (wrap64 (t255 + 1)) 82).bind fun bt292 => (some (bt292.1, bt292.2.1, bt292.2.2.1, bt292.2.2.2.1, bt292.2.2.2.2.1, bt292.2.2.2.2.2)))) else ((pascalineref08_bad.f t255 (wrap64 (t255 + 1)) 82).bind fun bt298 => (some (bt298.1, bt298.2.1, bt298.2.2.1, bt298.2.2.2.1, bt298.2.2.2.2.1, bt298.2.2.2.2.2)))) else (none)) else (none)) else ((pascalineref08_bad.f t255 (wrap64 (t255 + 1)) 82).bind fun bt304 => (some (bt304.1, bt304.2.1, bt304.2.2.1, bt304.2.2.2.1, bt304.2.2.2.2.1, bt304.2.2.2.2.2)))) else (if (bt a0 t255) = 34 then (pascalineref08_Next.l1 k a0 t255 (wrap64 (t255 + 1))) else ((pascalineref08_two.f a0 t255 58 61).bind fun t346 => (if t346 = true then (pascalineref08_Next.j3 k a0 t255 (bt a0 t255) true) else ((pascalineref08_two.f a0 t255 60 61).bind fun t347 => (if t347 = true then (pascalineref08_Next.j3 k a0 t255 (bt a0 t255) true) else ((pascalineref08_two.f a0 t255 62 61).bind fun t348 => (pascalineref08_Next.j3 k a0 t255 (bt a0 t255) t348))))))))))))) else (none)) else (none))) = some (r1, r2, r3, r4, r5, r6) := by rw [if_pos rfl] at H; exact H
  clear H
  have H := H1
  clear H1
  by_cases c5 : t255 = (a0.size : Int)
  ·rw [if_pos c5] at H
   have c5b0 : (t255 == (a0.size : Int)) = true := beq_iff_eq.mpr c5
   have c5b1 : (t255 != (a0.size : Int)) = false := bne_eq_false_iff_eq.mpr c5
   clear c5
   simp only [Option.some.injEq, Prod.mk.injEq] at H
   obtain ⟨rfl, rfl, rfl, rfl, rfl, rfl⟩ := H
   go_enter Try.func14, Try.ntmps14
   go_wp2_with (first | ((with_reducible refine gate_dst (N := 4) rfl ?_); refine box_event ?hg (N := 4) ?hd (cs := #[.int .i64 0, .int .i64 0, .int .i64 0, .string (⟨#[]⟩ : ByteArray), .int .i32 0]) (t := 33) ?hr ?_; (case hd => rfl); (case hg => rfl); (case hr => first | (go_simp; done) | (go_simp; rfl)); intro gb254 hg w6 hbox hb; have n0_ := Aside0.mk (below_step (by repeat (first | (with_reducible first | exact HB.out | apply below_alloc | apply pw_below_drewN | apply below_drew1) | exact HB.out)) hb); have n1_ := Aside0.mk (hbox); have n2_ := Aside0.mk ((by rw [hg]; exact (below_size (by repeat (first | (with_reducible first | exact HB.out | apply below_alloc | apply pw_below_drewN | apply below_drew1) | exact HB.out))) : w.heap.size ≤ gb254)); have n3_ := Aside0.mk ((by rw [hg]; exact (below_size (by repeat (first | (with_reducible first | exact HB.out | apply below_alloc | apply pw_below_drewN | apply below_drew1) | exact HB.out))) : w.heap.size ≤ gb254)); clear HB; have HB := n0_; have BK254 := n1_; have GW254 := n2_; have GE254 := n3_; clear n0_ n1_ n2_ n3_; clear hb hbox hg) | ((with_reducible refine gate_callee (f := 19) rfl ?_); refine goesL_ (some 15) rfl rfl Try.func19 (by kernel_rfl) rfl #[.string a0, .int .i64 a1] rfl (by (try simp only [List.map_toArray, List.map_cons, List.map_nil]); first | done | rfl | (simp only [List.length_drop, List.length_take]; rfl)) ?_; (with_reducible refine (pascalineref08_blanks.calls k a0 a1 t255 true _ A3.out).mono ?_); rintro e w' ⟨rfl, ⟨nd, rfl⟩⟩; refine ⟨_, rfl, ?_⟩; (try (rw [drewN_self w6]; generalize hq_ : World.drewN w6 _ = w6; have n0_ : Aside0 (w6.heap[gb254]? = some (.cells #[.int .i64 0, .int .i64 0, .int .i64 0, .string (⟨#[]⟩ : ByteArray), .int .i32 0] 33 (0, 0))) := ⟨by rw [← hq_]; exact (by (with_reducible repeat (first | refine blk_drewN ?_ _ | refine blk_drew ?_ | refine blk_alloc ?_ _)); exact BK254.out)⟩; have n1_ : Aside0 (Below w.heap.size w w6) := ⟨by rw [← hq_]; exact (by repeat (first | (with_reducible first | exact HB.out | apply below_alloc | apply pw_below_drewN | apply below_drew1 | refine below_set ?_ GE254.out) | exact HB.out))⟩; clear BK254 HB hq_; have BK254 := n0_; have HB := n1_; clear n0_ n1_)); have hcz7_0 : w6.cell? ⟨gb254, 0, none⟩ = some (.int .i64 0) := (blk_cell BK254.out 0).trans rfl; have hcz7_1 : w6.cell? ⟨gb254, 1, none⟩ = some (.int .i64 0) := (blk_cell BK254.out 1).trans rfl; have hcz7_2 : w6.cell? ⟨gb254, 2, none⟩ = some (.int .i64 0) := (blk_cell BK254.out 2).trans rfl; have hcz7_3 : w6.cell? ⟨gb254, 3, none⟩ = some (.string (⟨#[]⟩ : ByteArray)) := (blk_cell BK254.out 3).trans rfl; have hcz7_4 : w6.cell? ⟨gb254, 4, none⟩ = some (.int .i32 0) := (blk_cell BK254.out 4).trans rfl; have hfz7_0 := blk_frozen BK254.out 0; have hfz7_1 := blk_frozen BK254.out 1; have hfz7_2 := blk_frozen BK254.out 2; have hfz7_3 := blk_frozen BK254.out 3; have hfz7_4 := blk_frozen BK254.out 4))
   refine bodyPost_ret (results_ct rfl _ _ gb254 33 #[.int .i64 0, .int .i64 t255, .int .i64 t255, .string (⟨#[]⟩ : ByteArray), .int .i32 0] (0, 0) _ rfl (by (with_reducible repeat (first | refine blk_drewN ?_ _ | refine blk_drew ?_ | refine blk_alloc ?_ _)); refine blk_put (cs := #[.int .i64 0, .int .i64 t255, .int .i64 t255, .string (⟨#[]⟩ : ByteArray), .int .i32 0]) ?_ 4 _ rfl; (with_reducible repeat (first | refine blk_drewN ?_ _ | refine blk_drew ?_ | refine blk_alloc ?_ _)); refine blk_put (cs := #[.int .i64 0, .int .i64 t255, .int .i64 t255, .string (⟨#[]⟩ : ByteArray), .int .i32 0]) ?_ 3 _ rfl; (with_reducible repeat (first | refine blk_drewN ?_ _ | refine blk_drew ?_ | refine blk_alloc ?_ _)); refine blk_put (cs := #[.int .i64 0, .int .i64 t255, .int .i64 0, .string (⟨#[]⟩ : ByteArray), .int .i32 0]) ?_ 2 _ rfl; (with_reducible repeat (first | refine blk_drewN ?_ _ | refine blk_drew ?_ | refine blk_alloc ?_ _)); refine blk_put (cs := #[.int .i64 0, .int .i64 0, .int .i64 0, .string (⟨#[]⟩ : ByteArray), .int .i32 0]) ?_ 1 _ rfl; (with_reducible repeat (first | refine blk_drewN ?_ _ | refine blk_drew ?_ | refine blk_alloc ?_ _)); refine blk_put (cs := #[.int .i64 0, .int .i64 0, .int .i64 0, .string (⟨#[]⟩ : ByteArray), .int .i32 0]) ?_ 0 _ rfl; (with_reducible repeat (first | refine blk_drewN ?_ _ | refine blk_drew ?_ | refine blk_alloc ?_ _)); exact BK254.out) Try.underlying33 rfl (by kernel_rfl)) rfl ?_
   exact ⟨by first | rfl | (simp [errW_none, errW_some] <;> rfl) | (simp [*, errW_none, errW_some] <;> rfl), by repeat (first | (with_reducible first | exact HB.out | apply below_alloc | apply pw_below_drewN | apply below_drew1 | refine below_set ?_ GE254.out) | exact HB.out)⟩
  ·rw [if_neg c5] at H
   have c5b0 : (t255 == (a0.size : Int)) = false := beq_eq_false_iff_ne.mpr c5
   have c5b1 : (t255 != (a0.size : Int)) = true := bne_iff_ne.mpr c5
   by_cases c8 : 0 ≤ t255
   ·rw [if_pos c8] at H
    have c8b0 : decide (0 ≤ t255) = true := decide_eq_true c8
    clear c8
    by_cases c9 : t255 < (a0.size : Int)
    ·rw [if_pos c9] at H
     have c9b0 : decide (t255 < (a0.size : Int)) = true := decide_eq_true c9
     clear c9
     replace H := Option.bind_eq_some_iff.mp H
     obtain ⟨t263, A110, H⟩ := H
     replace H : (if t263 = true then (pascalineref08_Next.l0 k a0 t255 t255) else ((pascalineref08_digit.f (bt a0 t255)).bind fun t273 => (if t273 = true then ((pascalineref08_number.f k a0 t255).bind fun bt274 => (some (bt274.1, bt274.2.1, bt274.2.2.1, bt274.2.2.2.1, bt274.2.2.2.2.1, bt274.2.2.2.2.2))) else (if (bt a0 t255) = 36 then ((pascalineref08_hex.f k a0 t255).bind fun bt280 => (some (bt280.1, bt280.2.1, bt280.2.2.1, bt280.2.2.2.1, bt280.2.2.2.2.1, bt280.2.2.2.2.2))) else (if (bt a0 t255) = 39 then (if (wrap64 (t255 + 2)) < (a0.size : Int) then (if 0 ≤ (wrap64 (t255 + 1)) then (if (wrap64 (t255 + 1)) < (a0.size : Int) then (if (bt a0 (wrap64 (t255 + 1))) ≥ 32 then (if (bt a0 (wrap64 (t255 + 1))) ≤ 126 then (if 0 ≤ (wrap64 (t255 + 2)) then (if (bt a0 (wrap64 (t255 + 2))) = 39 then (if t255 ≤ (wrap64 (t255 + 3)) then (if (wrap64 (t255 + 3)) ≤ (a0.size : Int) then (some (3, t255, wrap64 (t255 + 3), a0.extract (t255 : Int).toNat ((wrap64 (t255 + 3)) : Int).toNat, wrap32 (bt a0 (wrap64 (t255 + 1))), 0)) else (none)) else (none)) else ((pascalineref08_bad.f t255 (wrap64 (t255 + 1)) 82).bind fun bt286 => (some (bt286.1, bt286.2.1, bt286.2.2.1, bt286.2.2.2.1, bt286.2.2.2.2.1, bt286.2.2.2.2.2)))) else (none)) else ((pascalineref08_bad.f t255 (wrap64 (t255 + 1)) 82).bind fun bt292 => (some (bt292.1, bt292.2.1, bt292.2.2.1, bt292.2.2.2.1, bt292.2.2.2.2.1, bt292.2.2.2.2.2)))) else ((pascalineref08_bad.f t255 (wrap64 (t255 + 1)) 82).bind fun bt298 => (some (bt298.1, bt298.2.1, bt298.2.2.1, bt298.2.2.2.1, bt298.2.2.2.2.1, bt298.2.2.2.2.2)))) else (none)) else (none)) else ((pascalineref08_bad.f t255 (wrap64 (t255 + 1)) 82).bind fun bt304 => (some (bt304.1, bt304.2.1, bt304.2.2.1, bt304.2.2.2.1, bt304.2.2.2.2.1, bt304.2.2.2.2.2)))) else (if (bt a0 t255) = 34 then (pascalineref08_Next.l1 k a0 t255 (wrap64 (t255 + 1))) else ((pascalineref08_two.f a0 t255 58 61).bind fun t346 => (if t346 = true then (pascalineref08_Next.j3 k a0 t255 (bt a0 t255) true) else ((pascalineref08_two.f a0 t255 60 61).bind fun t347 => (if t347 = true then (pascalineref08_Next.j3 k a0 t255 (bt a0 t255) true) else ((pascalineref08_two.f a0 t255 62 61).bind fun t348 => (pascalineref08_Next.j3 k a0 t255 (bt a0 t255) t348)))))))))))) = some (r1, r2, r3, r4, r5, r6) := H
     have A11 := Aside0.mk A110
     clear A110
     by_cases c12 : t263 = true
     ·subst c12
      have H1 : (pascalineref08_Next.l0 k a0 t255 t255) = some (r1, r2, r3, r4, r5, r6) := by rw [if_pos rfl] at H; exact H
      clear H
      have H := H1
      clear H1
      have HC13 := Aside0.mk H
      clear H
      go_enter Try.func14, Try.ntmps14
      go_upto_block 1 with (first | ((with_reducible refine gate_dst (N := 4) rfl ?_); refine box_event ?hg (N := 4) ?hd (cs := #[.int .i64 0, .int .i64 0, .int .i64 0, .string (⟨#[]⟩ : ByteArray), .int .i32 0]) (t := 33) ?hr ?_; (case hd => rfl); (case hg => rfl); (case hr => first | (go_simp; done) | (go_simp; rfl)); intro gb254 hg w14 hbox hb; have n0_ := Aside0.mk (below_step (by repeat (first | (with_reducible first | exact HB.out | apply below_alloc | apply pw_below_drewN | apply below_drew1) | exact HB.out)) hb); have n1_ := Aside0.mk (hbox); have n2_ := Aside0.mk ((by rw [hg]; exact (below_size (by repeat (first | (with_reducible first | exact HB.out | apply below_alloc | apply pw_below_drewN | apply below_drew1) | exact HB.out))) : w.heap.size ≤ gb254)); have n3_ := Aside0.mk ((by rw [hg]; exact (below_size (by repeat (first | (with_reducible first | exact HB.out | apply below_alloc | apply pw_below_drewN | apply below_drew1) | exact HB.out))) : w.heap.size ≤ gb254)); clear HB; have HB := n0_; have BK254 := n1_; have GW254 := n2_; have GE254 := n3_; clear n0_ n1_ n2_ n3_; clear hb hbox hg) | ((with_reducible refine gate_callee (f := 19) rfl ?_); refine goesL_ (some 15) rfl rfl Try.func19 (by kernel_rfl) rfl #[.string a0, .int .i64 a1] rfl (by (try simp only [List.map_toArray, List.map_cons, List.map_nil]); first | done | rfl | (simp only [List.length_drop, List.length_take]; rfl)) ?_; (with_reducible refine (pascalineref08_blanks.calls k a0 a1 t255 true _ A3.out).mono ?_); rintro e w' ⟨rfl, ⟨nd, rfl⟩⟩; refine ⟨_, rfl, ?_⟩; have p10 : 0 ≤ (t255 : Int) := of_decide_eq_true (by first | (with_reducible assumption) | assumption); have q10 : t255 < (a0.size : Int) := of_decide_eq_true (by first | (with_reducible assumption) | assumption); have hx10 := bt_at a0 t255; replace p10 := eq_true p10; replace q10 := eq_true q10) | ((with_reducible refine gate_callee (f := 21) rfl ?_); refine goesL_ (some 39) rfl rfl Try.func21 (by kernel_rfl) rfl #[.int .u8 (bt a0 t255)] rfl (by (try simp only [List.map_toArray, List.map_cons, List.map_nil]); first | done | rfl | (simp only [List.length_drop, List.length_take]; rfl)) ?_; (with_reducible refine (pascalineref08_letter.calls (bt a0 t255) true _ A11.out).mono ?_); rintro e w' ⟨rfl, ⟨nd, rfl⟩⟩; refine ⟨_, rfl, ?_⟩))
      (try simp only [Act.put, List.setIfInBounds_toArray, List.set_cons_zero, List.set_cons_succ])
      go_cut [8] (fun v8 wc => ∃ (kq : Nat) (x8_12 : Int), v8 = .int .i64 x8_12 ∧ Aside0 (pascalineref08_Next.j1 kq a0 t255 x8_12 = some (r1, r2, r3, r4, r5, r6)) ∧ Aside0 (kq ≤ k) ∧ Aside0 (wc.heap[gb254]? = some (.cells #[.int .i64 0, .int .i64 0, .int .i64 0, .string (⟨#[]⟩ : ByteArray), .int .i32 0] 33 (0, 0))) ∧ Aside0 (Below w.heap.size w wc))
      case first =>
       have H := HC13.out
       clear HC13
       have H' := Aside0.mk H
       clear H
       go_wp2
       go_loopg [8] k (fun kq v8 w' => ∃ (x8_1 : Int), v8 = .int .i64 x8_1 ∧ Aside0 (pascalineref08_Next.l0 kq a0 t255 x8_1 = some (r1, r2, r3, r4, r5, r6)) ∧ Aside0 (kq ≤ k) ∧ Aside0 (w'.heap[gb254]? = some (.cells #[.int .i64 0, .int .i64 0, .int .i64 0, .string (⟨#[]⟩ : ByteArray), .int .i32 0] 33 (0, 0))) ∧ Aside0 (Below w.heap.size w w'))
       case atStart => exact ⟨(t255), (by first | rfl | (simp; done) | (simp [*]; done)), H', ⟨Nat.le_refl _⟩, ⟨by (with_reducible repeat (first | refine blk_drewN ?_ _ | refine blk_drew ?_ | refine blk_alloc ?_ _)); exact BK254.out⟩, ⟨by repeat (first | (with_reducible first | exact HB.out | apply below_alloc | apply pw_below_drewN | apply below_drew1 | refine below_set ?_ GE254.out) | exact HB.out)⟩⟩
       case round =>
        clear H'
        try clear c1
        try clear p1
        try clear q1
        try clear hx1
        try clear c2
        try clear p2
        try clear p3
        try clear c4
        try clear c5
        try clear c5b0
        try clear c5b1
        try clear p6
        try clear c8
        try clear c8b0
        try clear c9
        try clear c9b0
        try clear p10
        try clear q10
        try clear hx10
        try clear c12
        try clear c14
        try clear hcz7_0
        try clear hcz7_1
        try clear hcz7_2
        try clear hcz7_3
        try clear hcz7_4
        try clear hfz7_0
        try clear hfz7_1
        try clear hfz7_2
        try clear hfz7_3
        try clear hfz7_4
        try clear p10
        try clear q10
        obtain ⟨x8_1, rfl, HA, HK1, BK254, HB⟩ := hrel
        cases gk with
        | zero => exact absurd HA.out (by simp [pascalineref08_Next.l0])
        | succ k1 =>
         have H := HA.out
         clear HA
         simp only [pascalineref08_Next.l0] at H
         by_cases c15 : x8_1 < (a0.size : Int)
         ·rw [if_pos c15] at H
          have c15b0 : decide (x8_1 < (a0.size : Int)) = true := decide_eq_true c15
          clear c15
          (first | rw [c15b0] | (simp only [i64_w, i32_w]; rw [c15b0]) | skip)
          by_cases c16 : 0 ≤ x8_1
          ·rw [if_pos c16] at H
           have c16b0 : decide (0 ≤ x8_1) = true := decide_eq_true c16
           clear c16
           replace H := Option.bind_eq_some_iff.mp H
           obtain ⟨t264, A180, H⟩ := H
           replace H : (if t264 = true then (pascalineref08_Next.l0 k1 a0 t255 (wrap64 (x8_1 + 1))) else ((pascalineref08_digit.f (bt a0 x8_1)).bind fun t265 => (if t265 = true then (pascalineref08_Next.l0 k1 a0 t255 (wrap64 (x8_1 + 1))) else (pascalineref08_Next.j1 k1 a0 t255 x8_1)))) = some (r1, r2, r3, r4, r5, r6) := H
           have A18 := Aside0.mk A180
           clear A180
           by_cases c19 : t264 = true
           ·subst c19
            have H1 : (pascalineref08_Next.l0 k1 a0 t255 (wrap64 (x8_1 + 1))) = some (r1, r2, r3, r4, r5, r6) := by rw [if_pos rfl] at H; exact H
            clear H
            have H := H1
            clear H1
            have H' := Aside0.mk H
            clear H
            have p17 : 0 ≤ (x8_1 : Int) := of_decide_eq_true (by first | (with_reducible assumption) | assumption)
            have q17 : x8_1 < (a0.size : Int) := of_decide_eq_true (by first | (with_reducible assumption) | assumption)
            have hx17 := bt_at a0 x8_1
            replace p17 := eq_true p17
            replace q17 := eq_true q17
            go_wp2_with (first | (go_at_call 21; (with_reducible refine (pascalineref08_letter.calls (bt a0 x8_1) true _ A18.out).mono ?_); rintro e w' ⟨rfl, ⟨nd, rfl⟩⟩))
            go_roundg k1
            case measure => have := HK1.out; omega
            case rel => exact ⟨(wrap64 (x8_1 + 1)), (by first | rfl | (simp; done) | (simp [*]; done)), H', ⟨by have := HK1.out; omega⟩, ⟨by (with_reducible repeat (first | refine blk_drewN ?_ _ | refine blk_drew ?_ | refine blk_alloc ?_ _)); exact BK254.out⟩, ⟨by repeat (first | (with_reducible first | exact HB.out | apply below_alloc | apply pw_below_drewN | apply below_drew1 | refine below_set ?_ GE254.out) | exact HB.out)⟩⟩
           ·replace c19 := Bool.eq_false_iff.mpr c19
            subst c19
            have H1 : ((pascalineref08_digit.f (bt a0 x8_1)).bind fun t265 => (if t265 = true then (pascalineref08_Next.l0 k1 a0 t255 (wrap64 (x8_1 + 1))) else (pascalineref08_Next.j1 k1 a0 t255 x8_1))) = some (r1, r2, r3, r4, r5, r6) := by rw [if_neg (show ¬ (false = true) by decide)] at H; exact H
            clear H
            have H := H1
            clear H1
            replace H := Option.bind_eq_some_iff.mp H
            obtain ⟨t265, A210, H⟩ := H
            replace H : (if t265 = true then (pascalineref08_Next.l0 k1 a0 t255 (wrap64 (x8_1 + 1))) else (pascalineref08_Next.j1 k1 a0 t255 x8_1)) = some (r1, r2, r3, r4, r5, r6) := H
            have A21 := Aside0.mk A210
            clear A210
            by_cases c22 : t265 = true
            ·subst c22
             have H1 : (pascalineref08_Next.l0 k1 a0 t255 (wrap64 (x8_1 + 1))) = some (r1, r2, r3, r4, r5, r6) := by rw [if_pos rfl] at H; exact H
             clear H
             have H := H1
             clear H1
             have H' := Aside0.mk H
             clear H
             have p17 : 0 ≤ (x8_1 : Int) := of_decide_eq_true (by first | (with_reducible assumption) | assumption)
             have q17 : x8_1 < (a0.size : Int) := of_decide_eq_true (by first | (with_reducible assumption) | assumption)
             have hx17 := bt_at a0 x8_1
             replace p17 := eq_true p17
             replace q17 := eq_true q17
             go_wp2_with (first | (go_at_call 21; (with_reducible refine (pascalineref08_letter.calls (bt a0 x8_1) false _ A18.out).mono ?_); rintro e w' ⟨rfl, ⟨nd, rfl⟩⟩; have p20 : 0 ≤ (x8_1 : Int) := of_decide_eq_true (by first | (with_reducible assumption) | assumption); have q20 : x8_1 < (a0.size : Int) := of_decide_eq_true (by first | (with_reducible assumption) | assumption); have hx20 := bt_at a0 x8_1; replace p20 := eq_true p20; replace q20 := eq_true q20) | (go_at_call 22; (with_reducible refine (pascalineref08_digit.calls (bt a0 x8_1) true _ A21.out).mono ?_); rintro e w' ⟨rfl, ⟨nd, rfl⟩⟩))
             go_roundg k1
             case measure => have := HK1.out; omega
             case rel => exact ⟨(wrap64 (x8_1 + 1)), (by first | rfl | (simp; done) | (simp [*]; done)), H', ⟨by have := HK1.out; omega⟩, ⟨by (with_reducible repeat (first | refine blk_drewN ?_ _ | refine blk_drew ?_ | refine blk_alloc ?_ _)); exact BK254.out⟩, ⟨by repeat (first | (with_reducible first | exact HB.out | apply below_alloc | apply pw_below_drewN | apply below_drew1 | refine below_set ?_ GE254.out) | exact HB.out)⟩⟩
            ·replace c22 := Bool.eq_false_iff.mpr c22
             subst c22
             have H1 : (pascalineref08_Next.j1 k1 a0 t255 x8_1) = some (r1, r2, r3, r4, r5, r6) := by rw [if_neg (show ¬ (false = true) by decide)] at H; exact H
             clear H
             have H := H1
             clear H1
             have H' := Aside0.mk H
             clear H
             have p17 : 0 ≤ (x8_1 : Int) := of_decide_eq_true (by first | (with_reducible assumption) | assumption)
             have q17 : x8_1 < (a0.size : Int) := of_decide_eq_true (by first | (with_reducible assumption) | assumption)
             have hx17 := bt_at a0 x8_1
             replace p17 := eq_true p17
             replace q17 := eq_true q17
             go_wp2_with (first | (go_at_call 21; (with_reducible refine (pascalineref08_letter.calls (bt a0 x8_1) false _ A18.out).mono ?_); rintro e w' ⟨rfl, ⟨nd, rfl⟩⟩; have p20 : 0 ≤ (x8_1 : Int) := of_decide_eq_true (by first | (with_reducible assumption) | assumption); have q20 : x8_1 < (a0.size : Int) := of_decide_eq_true (by first | (with_reducible assumption) | assumption); have hx20 := bt_at a0 x8_1; replace p20 := eq_true p20; replace q20 := eq_true q20) | (go_at_call 22; (with_reducible refine (pascalineref08_digit.calls (bt a0 x8_1) false _ A21.out).mono ?_); rintro e w' ⟨rfl, ⟨nd, rfl⟩⟩))
             go_meet
             case rel => exact ⟨_, (x8_1), (by first | rfl | (simp; done) | (simp [*]; done)), H', ⟨by have := HK1.out; first | omega | exact Nat.le_refl _⟩, ⟨by (with_reducible repeat (first | refine blk_drewN ?_ _ | refine blk_drew ?_ | refine blk_alloc ?_ _)); exact BK254.out⟩, ⟨by repeat (first | (with_reducible first | exact HB.out | apply below_alloc | apply pw_below_drewN | apply below_drew1 | refine below_set ?_ GE254.out) | exact HB.out)⟩⟩
          ·rw [if_neg c16] at H
           exact absurd H (by simp)
         ·rw [if_neg c15] at H
          have c15b0 : decide (x8_1 < (a0.size : Int)) = false := decide_eq_false c15
          clear c15
          (first | rw [c15b0] | (simp only [i64_w, i32_w]; rw [c15b0]) | skip)
          have H' := Aside0.mk H
          clear H
          go_wp2
          go_meet
          case rel => exact ⟨_, (x8_1), (by first | rfl | (simp; done) | (simp [*]; done)), H', ⟨by have := HK1.out; first | omega | exact Nat.le_refl _⟩, ⟨by (with_reducible repeat (first | refine blk_drewN ?_ _ | refine blk_drew ?_ | refine blk_alloc ?_ _)); exact BK254.out⟩, ⟨by repeat (first | (with_reducible first | exact HB.out | apply below_alloc | apply pw_below_drewN | apply below_drew1 | refine below_set ?_ GE254.out) | exact HB.out)⟩⟩
      case rest =>
       clear HC13
       try clear c1
       try clear p1
       try clear q1
       try clear hx1
       try clear c2
       try clear p2
       try clear q2
       try clear hx2
       try clear p3
       try clear c4
       try clear c5
       try clear c5b0
       try clear c5b1
       try clear p6
       try clear c8
       try clear c8b0
       try clear c9
       try clear c9b0
       try clear p10
       try clear q10
       try clear hx10
       try clear c12
       try clear c14
       try clear c15
       try clear c15b0
       try clear c16
       try clear c16b0
       try clear p17
       try clear q17
       try clear hx17
       try clear c19
       try clear p20
       try clear q20
       try clear hx20
       try clear c21
       try clear c22
       try clear hcz7_0
       try clear hcz7_1
       try clear hcz7_2
       try clear hcz7_3
       try clear hcz7_4
       try clear hfz7_0
       try clear hfz7_1
       try clear hfz7_2
       try clear hfz7_3
       try clear hfz7_4
       try clear p1
       try clear p10
       try clear p17
       try clear p2
       try clear p20
       try clear p3
       try clear p6
       try clear q1
       try clear q10
       try clear q17
       try clear q20
       obtain ⟨kq, x8_12, rfl, HA, HJ12, BK254, HB⟩ := hcut
       cases kq with
       | zero => exact absurd HA.out (by simp [pascalineref08_Next.j1])
       | succ kj12 =>
        have H := HA.out
        clear HA
        simp only [pascalineref08_Next.j1] at H
        by_cases c23 : (wrap64 (x8_12 - t255)) > 32
        ·rw [if_pos c23] at H
         have c23b0 : decide (32 < (wrap64 (x8_12 - t255))) = true := decide_eq_true c23
         clear c23
         replace H := Option.bind_eq_some_iff.mp H
         obtain ⟨⟨t266, t267, t268, t269, t270, t271⟩, A240, H⟩ := H
         replace H : (some (t266, t267, t268, t269, t270, t271)) = some (r1, r2, r3, r4, r5, r6) := H
         have A24 := Aside0.mk A240
         clear A240
         simp only [Option.some.injEq, Prod.mk.injEq] at H
         obtain ⟨rfl, rfl, rfl, rfl, rfl, rfl⟩ := H
         go_wp2_with (first | ((with_reducible refine gate_callee (f := 20) rfl ?_); refine goesL_ (some 64) rfl rfl Try.func20 (by kernel_rfl) rfl #[.int .i64 t255, .int .i64 x8_12, .int .i64 140] rfl (by (try simp only [List.map_toArray, List.map_cons, List.map_nil]); first | done | rfl | (simp only [List.length_drop, List.length_take]; rfl)) ?_; (with_reducible refine (pascalineref08_bad.calls t255 x8_12 140 t266 t267 t268 t269 t270 t271 _ A24.out).mono ?_); rintro e w25 ⟨rfl, hb⟩; refine ⟨_, rfl, ?_⟩; have n0_ := Aside0.mk (blk_below (g := gb254) (o := .cells #[.int .i64 0, .int .i64 0, .int .i64 0, .string (⟨#[]⟩ : ByteArray), .int .i32 0] 33 (0, 0)) (by (with_reducible repeat (first | refine blk_drewN ?_ _ | refine blk_drew ?_ | refine blk_alloc ?_ _)); exact BK254.out) hb); have n1_ := Aside0.mk (below_step (by repeat (first | (with_reducible first | exact HB.out | apply below_alloc | apply pw_below_drewN | apply below_drew1 | refine below_set ?_ GE254.out) | exact HB.out)) hb); clear BK254; clear HB; have BK254 := n0_; have HB := n1_; clear n0_ n1_; (try clear hb); (try clear hb2); (try clear hk); (try clear hi); have hcz26_0 : w25.cell? ⟨gb254, 0, none⟩ = some (.int .i64 0) := (blk_cell BK254.out 0).trans rfl; have hcz26_1 : w25.cell? ⟨gb254, 1, none⟩ = some (.int .i64 0) := (blk_cell BK254.out 1).trans rfl; have hcz26_2 : w25.cell? ⟨gb254, 2, none⟩ = some (.int .i64 0) := (blk_cell BK254.out 2).trans rfl; have hcz26_3 : w25.cell? ⟨gb254, 3, none⟩ = some (.string (⟨#[]⟩ : ByteArray)) := (blk_cell BK254.out 3).trans rfl; have hcz26_4 : w25.cell? ⟨gb254, 4, none⟩ = some (.int .i32 0) := (blk_cell BK254.out 4).trans rfl; have hfz26_0 := blk_frozen BK254.out 0; have hfz26_1 := blk_frozen BK254.out 1; have hfz26_2 := blk_frozen BK254.out 2; have hfz26_3 := blk_frozen BK254.out 3; have hfz26_4 := blk_frozen BK254.out 4))
         refine bodyPost_ret (results_ct rfl _ _ gb254 33 #[.int .i64 t266, .int .i64 t267, .int .i64 t268, .string t269, .int .i32 t270] (0, 0) _ rfl (by (with_reducible repeat (first | refine blk_drewN ?_ _ | refine blk_drew ?_ | refine blk_alloc ?_ _)); refine blk_put (cs := #[.int .i64 t266, .int .i64 t267, .int .i64 t268, .string t269, .int .i32 0]) ?_ 4 _ rfl; (with_reducible repeat (first | refine blk_drewN ?_ _ | refine blk_drew ?_ | refine blk_alloc ?_ _)); refine blk_put (cs := #[.int .i64 t266, .int .i64 t267, .int .i64 t268, .string (⟨#[]⟩ : ByteArray), .int .i32 0]) ?_ 3 _ rfl; (with_reducible repeat (first | refine blk_drewN ?_ _ | refine blk_drew ?_ | refine blk_alloc ?_ _)); refine blk_put (cs := #[.int .i64 t266, .int .i64 t267, .int .i64 0, .string (⟨#[]⟩ : ByteArray), .int .i32 0]) ?_ 2 _ rfl; (with_reducible repeat (first | refine blk_drewN ?_ _ | refine blk_drew ?_ | refine blk_alloc ?_ _)); refine blk_put (cs := #[.int .i64 t266, .int .i64 0, .int .i64 0, .string (⟨#[]⟩ : ByteArray), .int .i32 0]) ?_ 1 _ rfl; (with_reducible repeat (first | refine blk_drewN ?_ _ | refine blk_drew ?_ | refine blk_alloc ?_ _)); refine blk_put (cs := #[.int .i64 0, .int .i64 0, .int .i64 0, .string (⟨#[]⟩ : ByteArray), .int .i32 0]) ?_ 0 _ rfl; (with_reducible repeat (first | refine blk_drewN ?_ _ | refine blk_drew ?_ | refine blk_alloc ?_ _)); exact BK254.out) Try.underlying33 rfl (by kernel_rfl)) rfl ?_
         exact ⟨by first | rfl | (simp [errW_none, errW_some] <;> rfl) | (simp [*, errW_none, errW_some] <;> rfl), by repeat (first | (with_reducible first | exact HB.out | apply below_alloc | apply pw_below_drewN | apply below_drew1 | refine below_set ?_ GE254.out) | exact HB.out)⟩
        ·rw [if_neg c23] at H
         have c23b0 : decide (32 < (wrap64 (x8_12 - t255))) = false := decide_eq_false c23
         clear c23
         by_cases c27 : 0 ≤ t255
         ·rw [if_pos c27] at H
          have c27b0 := eq_true c27
          have c27b1 : decide (0 ≤ t255) = true := decide_eq_true c27
          clear c27
          by_cases c28 : t255 ≤ x8_12
          ·rw [if_pos c28] at H
           have c28b0 := eq_true c28
           have c28b1 : decide (t255 ≤ x8_12) = true := decide_eq_true c28
           clear c28
           by_cases c29 : x8_12 ≤ (a0.size : Int)
           ·rw [if_pos c29] at H
            have c29b0 := eq_true c29
            have c29b1 : decide (x8_12 ≤ (a0.size : Int)) = true := decide_eq_true c29
            clear c29
            replace H := Option.bind_eq_some_iff.mp H
            obtain ⟨t272, A300, H⟩ := H
            replace H : (if t272 = true then (some (5, t255, x8_12, a0.extract (t255 : Int).toNat (x8_12 : Int).toNat, 0, 0)) else (some (1, t255, x8_12, a0.extract (t255 : Int).toNat (x8_12 : Int).toNat, 0, 0))) = some (r1, r2, r3, r4, r5, r6) := H
            have A30 := Aside0.mk A300
            clear A300
            by_cases c31 : t272 = true
            ·subst c31
             have H1 : (some (5, t255, x8_12, a0.extract (t255 : Int).toNat (x8_12 : Int).toNat, 0, 0)) = some (r1, r2, r3, r4, r5, r6) := by rw [if_pos rfl] at H; exact H
             clear H
             have H := H1
             clear H1
             have c32b0 := eq_true (of_decide_eq_true (by first | (with_reducible assumption) | assumption) : 0 ≤ t255)
             have c33b0 := eq_true (of_decide_eq_true (by first | (with_reducible assumption) | assumption) : t255 ≤ x8_12)
             have c34b0 := eq_true (of_decide_eq_true (by first | (with_reducible assumption) | assumption) : x8_12 ≤ (a0.size : Int))
             simp only [Option.some.injEq, Prod.mk.injEq] at H
             obtain ⟨rfl, rfl, rfl, rfl, rfl, rfl⟩ := H
             go_wp2_with (first | ((with_reducible refine gate_callee (f := 16) rfl ?_); refine goesL_ (some 71) rfl rfl Try.func16 (by kernel_rfl) rfl #[.string (a0.extract (t255 : Int).toNat (x8_12 : Int).toNat)] rfl (by (try simp only [List.map_toArray, List.map_cons, List.map_nil]); first | done | rfl | (simp only [List.length_drop, List.length_take]; rfl)) ?_; (with_reducible refine (pascalineref08_Key.calls kj12 (a0.extract (t255 : Int).toNat (x8_12 : Int).toNat) true _ A30.out).mono ?_); rintro e w35 ⟨rfl, hb⟩; refine ⟨_, rfl, ?_⟩; have n0_ := Aside0.mk (blk_below (g := gb254) (o := .cells #[.int .i64 0, .int .i64 0, .int .i64 0, .string (⟨#[]⟩ : ByteArray), .int .i32 0] 33 (0, 0)) (by (with_reducible repeat (first | refine blk_drewN ?_ _ | refine blk_drew ?_ | refine blk_alloc ?_ _)); exact BK254.out) hb); have n1_ := Aside0.mk (below_step (by repeat (first | (with_reducible first | exact HB.out | apply below_alloc | apply pw_below_drewN | apply below_drew1 | refine below_set ?_ GE254.out) | exact HB.out)) hb); clear BK254; clear HB; have BK254 := n0_; have HB := n1_; clear n0_ n1_; (try clear hb); (try clear hb2); (try clear hk); (try clear hi); have hcz36_0 : w35.cell? ⟨gb254, 0, none⟩ = some (.int .i64 0) := (blk_cell BK254.out 0).trans rfl; have hcz36_1 : w35.cell? ⟨gb254, 1, none⟩ = some (.int .i64 0) := (blk_cell BK254.out 1).trans rfl; have hcz36_2 : w35.cell? ⟨gb254, 2, none⟩ = some (.int .i64 0) := (blk_cell BK254.out 2).trans rfl; have hcz36_3 : w35.cell? ⟨gb254, 3, none⟩ = some (.string (⟨#[]⟩ : ByteArray)) := (blk_cell BK254.out 3).trans rfl; have hcz36_4 : w35.cell? ⟨gb254, 4, none⟩ = some (.int .i32 0) := (blk_cell BK254.out 4).trans rfl; have hfz36_0 := blk_frozen BK254.out 0; have hfz36_1 := blk_frozen BK254.out 1; have hfz36_2 := blk_frozen BK254.out 2; have hfz36_3 := blk_frozen BK254.out 3; have hfz36_4 := blk_frozen BK254.out 4))
             refine bodyPost_ret (results_ct rfl _ _ gb254 33 #[.int .i64 5, .int .i64 t255, .int .i64 x8_12, .string (a0.extract (t255 : Int).toNat (x8_12 : Int).toNat), .int .i32 0] (0, 0) _ rfl (by (with_reducible repeat (first | refine blk_drewN ?_ _ | refine blk_drew ?_ | refine blk_alloc ?_ _)); refine blk_put (cs := #[.int .i64 5, .int .i64 t255, .int .i64 x8_12, .string (a0.extract (t255 : Int).toNat (x8_12 : Int).toNat), .int .i32 0]) ?_ 4 _ rfl; (with_reducible repeat (first | refine blk_drewN ?_ _ | refine blk_drew ?_ | refine blk_alloc ?_ _)); refine blk_put (cs := #[.int .i64 5, .int .i64 t255, .int .i64 x8_12, .string (⟨#[]⟩ : ByteArray), .int .i32 0]) ?_ 3 _ rfl; (with_reducible repeat (first | refine blk_drewN ?_ _ | refine blk_drew ?_ | refine blk_alloc ?_ _)); refine blk_put (cs := #[.int .i64 5, .int .i64 t255, .int .i64 0, .string (⟨#[]⟩ : ByteArray), .int .i32 0]) ?_ 2 _ rfl; (with_reducible repeat (first | refine blk_drewN ?_ _ | refine blk_drew ?_ | refine blk_alloc ?_ _)); refine blk_put (cs := #[.int .i64 5, .int .i64 0, .int .i64 0, .string (⟨#[]⟩ : ByteArray), .int .i32 0]) ?_ 1 _ rfl; (with_reducible repeat (first | refine blk_drewN ?_ _ | refine blk_drew ?_ | refine blk_alloc ?_ _)); refine blk_put (cs := #[.int .i64 0, .int .i64 0, .int .i64 0, .string (⟨#[]⟩ : ByteArray), .int .i32 0]) ?_ 0 _ rfl; (with_reducible repeat (first | refine blk_drewN ?_ _ | refine blk_drew ?_ | refine blk_alloc ?_ _)); exact BK254.out) Try.underlying33 rfl (by kernel_rfl)) rfl ?_
             exact ⟨by first | rfl | (simp [errW_none, errW_some] <;> rfl) | (simp [*, errW_none, errW_some] <;> rfl), by repeat (first | (with_reducible first | exact HB.out | apply below_alloc | apply pw_below_drewN | apply below_drew1 | refine below_set ?_ GE254.out) | exact HB.out)⟩
            ·replace c31 := Bool.eq_false_iff.mpr c31
             subst c31
             have H1 : (some (1, t255, x8_12, a0.extract (t255 : Int).toNat (x8_12 : Int).toNat, 0, 0)) = some (r1, r2, r3, r4, r5, r6) := by rw [if_neg (show ¬ (false = true) by decide)] at H; exact H
             clear H
             have H := H1
             clear H1
             have c37b0 := eq_true (of_decide_eq_true (by first | (with_reducible assumption) | assumption) : 0 ≤ t255)
             have c38b0 := eq_true (of_decide_eq_true (by first | (with_reducible assumption) | assumption) : t255 ≤ x8_12)
             have c39b0 := eq_true (of_decide_eq_true (by first | (with_reducible assumption) | assumption) : x8_12 ≤ (a0.size : Int))
             simp only [Option.some.injEq, Prod.mk.injEq] at H
             obtain ⟨rfl, rfl, rfl, rfl, rfl, rfl⟩ := H
             go_wp2_with (first | ((with_reducible refine gate_callee (f := 16) rfl ?_); refine goesL_ (some 71) rfl rfl Try.func16 (by kernel_rfl) rfl #[.string (a0.extract (t255 : Int).toNat (x8_12 : Int).toNat)] rfl (by (try simp only [List.map_toArray, List.map_cons, List.map_nil]); first | done | rfl | (simp only [List.length_drop, List.length_take]; rfl)) ?_; (with_reducible refine (pascalineref08_Key.calls kj12 (a0.extract (t255 : Int).toNat (x8_12 : Int).toNat) false _ A30.out).mono ?_); rintro e w40 ⟨rfl, hb⟩; refine ⟨_, rfl, ?_⟩; have n0_ := Aside0.mk (blk_below (g := gb254) (o := .cells #[.int .i64 0, .int .i64 0, .int .i64 0, .string (⟨#[]⟩ : ByteArray), .int .i32 0] 33 (0, 0)) (by (with_reducible repeat (first | refine blk_drewN ?_ _ | refine blk_drew ?_ | refine blk_alloc ?_ _)); exact BK254.out) hb); have n1_ := Aside0.mk (below_step (by repeat (first | (with_reducible first | exact HB.out | apply below_alloc | apply pw_below_drewN | apply below_drew1 | refine below_set ?_ GE254.out) | exact HB.out)) hb); clear BK254; clear HB; have BK254 := n0_; have HB := n1_; clear n0_ n1_; (try clear hb); (try clear hb2); (try clear hk); (try clear hi); have hcz41_0 : w40.cell? ⟨gb254, 0, none⟩ = some (.int .i64 0) := (blk_cell BK254.out 0).trans rfl; have hcz41_1 : w40.cell? ⟨gb254, 1, none⟩ = some (.int .i64 0) := (blk_cell BK254.out 1).trans rfl; have hcz41_2 : w40.cell? ⟨gb254, 2, none⟩ = some (.int .i64 0) := (blk_cell BK254.out 2).trans rfl; have hcz41_3 : w40.cell? ⟨gb254, 3, none⟩ = some (.string (⟨#[]⟩ : ByteArray)) := (blk_cell BK254.out 3).trans rfl; have hcz41_4 : w40.cell? ⟨gb254, 4, none⟩ = some (.int .i32 0) := (blk_cell BK254.out 4).trans rfl; have hfz41_0 := blk_frozen BK254.out 0; have hfz41_1 := blk_frozen BK254.out 1; have hfz41_2 := blk_frozen BK254.out 2; have hfz41_3 := blk_frozen BK254.out 3; have hfz41_4 := blk_frozen BK254.out 4))
             refine bodyPost_ret (results_ct rfl _ _ gb254 33 #[.int .i64 1, .int .i64 t255, .int .i64 x8_12, .string (a0.extract (t255 : Int).toNat (x8_12 : Int).toNat), .int .i32 0] (0, 0) _ rfl (by (with_reducible repeat (first | refine blk_drewN ?_ _ | refine blk_drew ?_ | refine blk_alloc ?_ _)); refine blk_put (cs := #[.int .i64 1, .int .i64 t255, .int .i64 x8_12, .string (a0.extract (t255 : Int).toNat (x8_12 : Int).toNat), .int .i32 0]) ?_ 4 _ rfl; (with_reducible repeat (first | refine blk_drewN ?_ _ | refine blk_drew ?_ | refine blk_alloc ?_ _)); refine blk_put (cs := #[.int .i64 1, .int .i64 t255, .int .i64 x8_12, .string (⟨#[]⟩ : ByteArray), .int .i32 0]) ?_ 3 _ rfl; (with_reducible repeat (first | refine blk_drewN ?_ _ | refine blk_drew ?_ | refine blk_alloc ?_ _)); refine blk_put (cs := #[.int .i64 1, .int .i64 t255, .int .i64 0, .string (⟨#[]⟩ : ByteArray), .int .i32 0]) ?_ 2 _ rfl; (with_reducible repeat (first | refine blk_drewN ?_ _ | refine blk_drew ?_ | refine blk_alloc ?_ _)); refine blk_put (cs := #[.int .i64 1, .int .i64 0, .int .i64 0, .string (⟨#[]⟩ : ByteArray), .int .i32 0]) ?_ 1 _ rfl; (with_reducible repeat (first | refine blk_drewN ?_ _ | refine blk_drew ?_ | refine blk_alloc ?_ _)); refine blk_put (cs := #[.int .i64 0, .int .i64 0, .int .i64 0, .string (⟨#[]⟩ : ByteArray), .int .i32 0]) ?_ 0 _ rfl; (with_reducible repeat (first | refine blk_drewN ?_ _ | refine blk_drew ?_ | refine blk_alloc ?_ _)); exact BK254.out) Try.underlying33 rfl (by kernel_rfl)) rfl ?_
             exact ⟨by first | rfl | (simp [errW_none, errW_some] <;> rfl) | (simp [*, errW_none, errW_some] <;> rfl), by repeat (first | (with_reducible first | exact HB.out | apply below_alloc | apply pw_below_drewN | apply below_drew1 | refine below_set ?_ GE254.out) | exact HB.out)⟩
           ·rw [if_neg c29] at H
            exact absurd H (by simp)
          ·rw [if_neg c28] at H
           exact absurd H (by simp)
         ·rw [if_neg c27] at H
          exact absurd H (by simp)
     ·replace c12 := Bool.eq_false_iff.mpr c12
      subst c12
      have H1 : ((pascalineref08_digit.f (bt a0 t255)).bind fun t273 => (if t273 = true then ((pascalineref08_number.f k a0 t255).bind fun bt274 => (some (bt274.1, bt274.2.1, bt274.2.2.1, bt274.2.2.2.1, bt274.2.2.2.2.1, bt274.2.2.2.2.2))) else (if (bt a0 t255) = 36 then ((pascalineref08_hex.f k a0 t255).bind fun bt280 => (some (bt280.1, bt280.2.1, bt280.2.2.1, bt280.2.2.2.1, bt280.2.2.2.2.1, bt280.2.2.2.2.2))) else (if (bt a0 t255) = 39 then (if (wrap64 (t255 + 2)) < (a0.size : Int) then (if 0 ≤ (wrap64 (t255 + 1)) then (if (wrap64 (t255 + 1)) < (a0.size : Int) then (if (bt a0 (wrap64 (t255 + 1))) ≥ 32 then (if (bt a0 (wrap64 (t255 + 1))) ≤ 126 then (if 0 ≤ (wrap64 (t255 + 2)) then (if (bt a0 (wrap64 (t255 + 2))) = 39 then (if t255 ≤ (wrap64 (t255 + 3)) then (if (wrap64 (t255 + 3)) ≤ (a0.size : Int) then (some (3, t255, wrap64 (t255 + 3), a0.extract (t255 : Int).toNat ((wrap64 (t255 + 3)) : Int).toNat, wrap32 (bt a0 (wrap64 (t255 + 1))), 0)) else (none)) else (none)) else ((pascalineref08_bad.f t255 (wrap64 (t255 + 1)) 82).bind fun bt286 => (some (bt286.1, bt286.2.1, bt286.2.2.1, bt286.2.2.2.1, bt286.2.2.2.2.1, bt286.2.2.2.2.2)))) else (none)) else ((pascalineref08_bad.f t255 (wrap64 (t255 + 1)) 82).bind fun bt292 => (some (bt292.1, bt292.2.1, bt292.2.2.1, bt292.2.2.2.1, bt292.2.2.2.2.1, bt292.2.2.2.2.2)))) else ((pascalineref08_bad.f t255 (wrap64 (t255 + 1)) 82).bind fun bt298 => (some (bt298.1, bt298.2.1, bt298.2.2.1, bt298.2.2.2.1, bt298.2.2.2.2.1, bt298.2.2.2.2.2)))) else (none)) else (none)) else ((pascalineref08_bad.f t255 (wrap64 (t255 + 1)) 82).bind fun bt304 => (some (bt304.1, bt304.2.1, bt304.2.2.1, bt304.2.2.2.1, bt304.2.2.2.2.1, bt304.2.2.2.2.2)))) else (if (bt a0 t255) = 34 then (pascalineref08_Next.l1 k a0 t255 (wrap64 (t255 + 1))) else ((pascalineref08_two.f a0 t255 58 61).bind fun t346 => (if t346 = true then (pascalineref08_Next.j3 k a0 t255 (bt a0 t255) true) else ((pascalineref08_two.f a0 t255 60 61).bind fun t347 => (if t347 = true then (pascalineref08_Next.j3 k a0 t255 (bt a0 t255) true) else ((pascalineref08_two.f a0 t255 62 61).bind fun t348 => (pascalineref08_Next.j3 k a0 t255 (bt a0 t255) t348))))))))))) = some (r1, r2, r3, r4, r5, r6) := by rw [if_neg (show ¬ (false = true) by decide)] at H; exact H
      clear H
      have H := H1
      clear H1
      replace H := Option.bind_eq_some_iff.mp H
      obtain ⟨t273, A420, H⟩ := H
      replace H : (if t273 = true then ((pascalineref08_number.f k a0 t255).bind fun bt274 => (some (bt274.1, bt274.2.1, bt274.2.2.1, bt274.2.2.2.1, bt274.2.2.2.2.1, bt274.2.2.2.2.2))) else (if (bt a0 t255) = 36 then ((pascalineref08_hex.f k a0 t255).bind fun bt280 => (some (bt280.1, bt280.2.1, bt280.2.2.1, bt280.2.2.2.1, bt280.2.2.2.2.1, bt280.2.2.2.2.2))) else (if (bt a0 t255) = 39 then (if (wrap64 (t255 + 2)) < (a0.size : Int) then (if 0 ≤ (wrap64 (t255 + 1)) then (if (wrap64 (t255 + 1)) < (a0.size : Int) then (if (bt a0 (wrap64 (t255 + 1))) ≥ 32 then (if (bt a0 (wrap64 (t255 + 1))) ≤ 126 then (if 0 ≤ (wrap64 (t255 + 2)) then (if (bt a0 (wrap64 (t255 + 2))) = 39 then (if t255 ≤ (wrap64 (t255 + 3)) then (if (wrap64 (t255 + 3)) ≤ (a0.size : Int) then (some (3, t255, wrap64 (t255 + 3), a0.extract (t255 : Int).toNat ((wrap64 (t255 + 3)) : Int).toNat, wrap32 (bt a0 (wrap64 (t255 + 1))), 0)) else (none)) else (none)) else ((pascalineref08_bad.f t255 (wrap64 (t255 + 1)) 82).bind fun bt286 => (some (bt286.1, bt286.2.1, bt286.2.2.1, bt286.2.2.2.1, bt286.2.2.2.2.1, bt286.2.2.2.2.2)))) else (none)) else ((pascalineref08_bad.f t255 (wrap64 (t255 + 1)) 82).bind fun bt292 => (some (bt292.1, bt292.2.1, bt292.2.2.1, bt292.2.2.2.1, bt292.2.2.2.2.1, bt292.2.2.2.2.2)))) else ((pascalineref08_bad.f t255 (wrap64 (t255 + 1)) 82).bind fun bt298 => (some (bt298.1, bt298.2.1, bt298.2.2.1, bt298.2.2.2.1, bt298.2.2.2.2.1, bt298.2.2.2.2.2)))) else (none)) else (none)) else ((pascalineref08_bad.f t255 (wrap64 (t255 + 1)) 82).bind fun bt304 => (some (bt304.1, bt304.2.1, bt304.2.2.1, bt304.2.2.2.1, bt304.2.2.2.2.1, bt304.2.2.2.2.2)))) else (if (bt a0 t255) = 34 then (pascalineref08_Next.l1 k a0 t255 (wrap64 (t255 + 1))) else ((pascalineref08_two.f a0 t255 58 61).bind fun t346 => (if t346 = true then (pascalineref08_Next.j3 k a0 t255 (bt a0 t255) true) else ((pascalineref08_two.f a0 t255 60 61).bind fun t347 => (if t347 = true then (pascalineref08_Next.j3 k a0 t255 (bt a0 t255) true) else ((pascalineref08_two.f a0 t255 62 61).bind fun t348 => (pascalineref08_Next.j3 k a0 t255 (bt a0 t255) t348)))))))))) = some (r1, r2, r3, r4, r5, r6) := H
      have A42 := Aside0.mk A420
      clear A420
      by_cases c43 : t273 = true
      ·subst c43
       have H1 : ((pascalineref08_number.f k a0 t255).bind fun bt274 => (some (bt274.1, bt274.2.1, bt274.2.2.1, bt274.2.2.2.1, bt274.2.2.2.2.1, bt274.2.2.2.2.2))) = some (r1, r2, r3, r4, r5, r6) := by rw [if_pos rfl] at H; exact H
       clear H
       have H := H1
       clear H1
       replace H := Option.bind_eq_some_iff.mp H
       obtain ⟨⟨t274, t275, t276, t277, t278, t279⟩, A440, H⟩ := H
       replace H : (some (t274, t275, t276, t277, t278, t279)) = some (r1, r2, r3, r4, r5, r6) := H
       have A44 := Aside0.mk A440
       clear A440
       simp only [Option.some.injEq, Prod.mk.injEq] at H
       obtain ⟨rfl, rfl, rfl, rfl, rfl, rfl⟩ := H
       go_enter Try.func14, Try.ntmps14
       go_wp2_with (first | ((with_reducible refine gate_dst (N := 4) rfl ?_); refine box_event ?hg (N := 4) ?hd (cs := #[.int .i64 0, .int .i64 0, .int .i64 0, .string (⟨#[]⟩ : ByteArray), .int .i32 0]) (t := 33) ?hr ?_; (case hd => rfl); (case hg => rfl); (case hr => first | (go_simp; done) | (go_simp; rfl)); intro gb254 hg w45 hbox hb; have n0_ := Aside0.mk (below_step (by repeat (first | (with_reducible first | exact HB.out | apply below_alloc | apply pw_below_drewN | apply below_drew1) | exact HB.out)) hb); have n1_ := Aside0.mk (hbox); have n2_ := Aside0.mk ((by rw [hg]; exact (below_size (by repeat (first | (with_reducible first | exact HB.out | apply below_alloc | apply pw_below_drewN | apply below_drew1) | exact HB.out))) : w.heap.size ≤ gb254)); have n3_ := Aside0.mk ((by rw [hg]; exact (below_size (by repeat (first | (with_reducible first | exact HB.out | apply below_alloc | apply pw_below_drewN | apply below_drew1) | exact HB.out))) : w.heap.size ≤ gb254)); clear HB; have HB := n0_; have BK254 := n1_; have GW254 := n2_; have GE254 := n3_; clear n0_ n1_ n2_ n3_; clear hb hbox hg) | ((with_reducible refine gate_callee (f := 19) rfl ?_); refine goesL_ (some 15) rfl rfl Try.func19 (by kernel_rfl) rfl #[.string a0, .int .i64 a1] rfl (by (try simp only [List.map_toArray, List.map_cons, List.map_nil]); first | done | rfl | (simp only [List.length_drop, List.length_take]; rfl)) ?_; (with_reducible refine (pascalineref08_blanks.calls k a0 a1 t255 true _ A3.out).mono ?_); rintro e w' ⟨rfl, ⟨nd, rfl⟩⟩; refine ⟨_, rfl, ?_⟩; (try (rw [drewN_self w45]; generalize hq_ : World.drewN w45 _ = w45; have n0_ : Aside0 (w45.heap[gb254]? = some (.cells #[.int .i64 0, .int .i64 0, .int .i64 0, .string (⟨#[]⟩ : ByteArray), .int .i32 0] 33 (0, 0))) := ⟨by rw [← hq_]; exact (by (with_reducible repeat (first | refine blk_drewN ?_ _ | refine blk_drew ?_ | refine blk_alloc ?_ _)); exact BK254.out)⟩; have n1_ : Aside0 (Below w.heap.size w w45) := ⟨by rw [← hq_]; exact (by repeat (first | (with_reducible first | exact HB.out | apply below_alloc | apply pw_below_drewN | apply below_drew1 | refine below_set ?_ GE254.out) | exact HB.out))⟩; clear BK254 HB hq_; have BK254 := n0_; have HB := n1_; clear n0_ n1_)); have p10 : 0 ≤ (t255 : Int) := of_decide_eq_true (by first | (with_reducible assumption) | assumption); have q10 : t255 < (a0.size : Int) := of_decide_eq_true (by first | (with_reducible assumption) | assumption); have hx10 := bt_at a0 t255; replace p10 := eq_true p10; replace q10 := eq_true q10) | ((with_reducible refine gate_callee (f := 21) rfl ?_); refine goesL_ (some 39) rfl rfl Try.func21 (by kernel_rfl) rfl #[.int .u8 (bt a0 t255)] rfl (by (try simp only [List.map_toArray, List.map_cons, List.map_nil]); first | done | rfl | (simp only [List.length_drop, List.length_take]; rfl)) ?_; (with_reducible refine (pascalineref08_letter.calls (bt a0 t255) false _ A11.out).mono ?_); rintro e w' ⟨rfl, ⟨nd, rfl⟩⟩; refine ⟨_, rfl, ?_⟩; (try (rw [drewN_self w45]; generalize hq_ : World.drewN w45 _ = w45; have n0_ : Aside0 (w45.heap[gb254]? = some (.cells #[.int .i64 0, .int .i64 0, .int .i64 0, .string (⟨#[]⟩ : ByteArray), .int .i32 0] 33 (0, 0))) := ⟨by rw [← hq_]; exact (by (with_reducible repeat (first | refine blk_drewN ?_ _ | refine blk_drew ?_ | refine blk_alloc ?_ _)); exact BK254.out)⟩; have n1_ : Aside0 (Below w.heap.size w w45) := ⟨by rw [← hq_]; exact (by repeat (first | (with_reducible first | exact HB.out | apply below_alloc | apply pw_below_drewN | apply below_drew1 | refine below_set ?_ GE254.out) | exact HB.out))⟩; clear BK254 HB hq_; have BK254 := n0_; have HB := n1_; clear n0_ n1_))) | ((with_reducible refine gate_callee (f := 22) rfl ?_); refine goesL_ (some 88) rfl rfl Try.func22 (by kernel_rfl) rfl #[.int .u8 (bt a0 t255)] rfl (by (try simp only [List.map_toArray, List.map_cons, List.map_nil]); first | done | rfl | (simp only [List.length_drop, List.length_take]; rfl)) ?_; (with_reducible refine (pascalineref08_digit.calls (bt a0 t255) true _ A42.out).mono ?_); rintro e w' ⟨rfl, ⟨nd, rfl⟩⟩; refine ⟨_, rfl, ?_⟩; (try (rw [drewN_self w45]; generalize hq_ : World.drewN w45 _ = w45; have n0_ : Aside0 (w45.heap[gb254]? = some (.cells #[.int .i64 0, .int .i64 0, .int .i64 0, .string (⟨#[]⟩ : ByteArray), .int .i32 0] 33 (0, 0))) := ⟨by rw [← hq_]; exact (by (with_reducible repeat (first | refine blk_drewN ?_ _ | refine blk_drew ?_ | refine blk_alloc ?_ _)); exact BK254.out)⟩; have n1_ : Aside0 (Below w.heap.size w w45) := ⟨by rw [← hq_]; exact (by repeat (first | (with_reducible first | exact HB.out | apply below_alloc | apply pw_below_drewN | apply below_drew1 | refine below_set ?_ GE254.out) | exact HB.out))⟩; clear BK254 HB hq_; have BK254 := n0_; have HB := n1_; clear n0_ n1_))) | ((with_reducible refine gate_callee (f := 23) rfl ?_); refine goesL_ (some 91) rfl rfl Try.func23 (by kernel_rfl) rfl #[.string a0, .int .i64 t255] rfl (by (try simp only [List.map_toArray, List.map_cons, List.map_nil]); first | done | rfl | (simp only [List.length_drop, List.length_take]; rfl)) ?_; (with_reducible refine (pascalineref08_number.calls k a0 t255 t274 t275 t276 t277 t278 t279 _ A44.out).mono ?_); rintro e w46 ⟨rfl, hb⟩; refine ⟨_, rfl, ?_⟩; have n0_ := Aside0.mk (blk_below (g := gb254) (o := .cells #[.int .i64 0, .int .i64 0, .int .i64 0, .string (⟨#[]⟩ : ByteArray), .int .i32 0] 33 (0, 0)) (by (with_reducible repeat (first | refine blk_drewN ?_ _ | refine blk_drew ?_ | refine blk_alloc ?_ _)); exact BK254.out) hb); have n1_ := Aside0.mk (below_step (by repeat (first | (with_reducible first | exact HB.out | apply below_alloc | apply pw_below_drewN | apply below_drew1 | refine below_set ?_ GE254.out) | exact HB.out)) hb); clear BK254; clear HB; have BK254 := n0_; have HB := n1_; clear n0_ n1_; (try clear hb); (try clear hb2); (try clear hk); (try clear hi); have hcz47_0 : w46.cell? ⟨gb254, 0, none⟩ = some (.int .i64 0) := (blk_cell BK254.out 0).trans rfl; have hcz47_1 : w46.cell? ⟨gb254, 1, none⟩ = some (.int .i64 0) := (blk_cell BK254.out 1).trans rfl; have hcz47_2 : w46.cell? ⟨gb254, 2, none⟩ = some (.int .i64 0) := (blk_cell BK254.out 2).trans rfl; have hcz47_3 : w46.cell? ⟨gb254, 3, none⟩ = some (.string (⟨#[]⟩ : ByteArray)) := (blk_cell BK254.out 3).trans rfl; have hcz47_4 : w46.cell? ⟨gb254, 4, none⟩ = some (.int .i32 0) := (blk_cell BK254.out 4).trans rfl; have hfz47_0 := blk_frozen BK254.out 0; have hfz47_1 := blk_frozen BK254.out 1; have hfz47_2 := blk_frozen BK254.out 2; have hfz47_3 := blk_frozen BK254.out 3; have hfz47_4 := blk_frozen BK254.out 4))
       refine bodyPost_ret (results_ct rfl _ _ gb254 33 #[.int .i64 t274, .int .i64 t275, .int .i64 t276, .string t277, .int .i32 t278] (0, 0) _ rfl (by (with_reducible repeat (first | refine blk_drewN ?_ _ | refine blk_drew ?_ | refine blk_alloc ?_ _)); refine blk_put (cs := #[.int .i64 t274, .int .i64 t275, .int .i64 t276, .string t277, .int .i32 0]) ?_ 4 _ rfl; (with_reducible repeat (first | refine blk_drewN ?_ _ | refine blk_drew ?_ | refine blk_alloc ?_ _)); refine blk_put (cs := #[.int .i64 t274, .int .i64 t275, .int .i64 t276, .string (⟨#[]⟩ : ByteArray), .int .i32 0]) ?_ 3 _ rfl; (with_reducible repeat (first | refine blk_drewN ?_ _ | refine blk_drew ?_ | refine blk_alloc ?_ _)); refine blk_put (cs := #[.int .i64 t274, .int .i64 t275, .int .i64 0, .string (⟨#[]⟩ : ByteArray), .int .i32 0]) ?_ 2 _ rfl; (with_reducible repeat (first | refine blk_drewN ?_ _ | refine blk_drew ?_ | refine blk_alloc ?_ _)); refine blk_put (cs := #[.int .i64 t274, .int .i64 0, .int .i64 0, .string (⟨#[]⟩ : ByteArray), .int .i32 0]) ?_ 1 _ rfl; (with_reducible repeat (first | refine blk_drewN ?_ _ | refine blk_drew ?_ | refine blk_alloc ?_ _)); refine blk_put (cs := #[.int .i64 0, .int .i64 0, .int .i64 0, .string (⟨#[]⟩ : ByteArray), .int .i32 0]) ?_ 0 _ rfl; (with_reducible repeat (first | refine blk_drewN ?_ _ | refine blk_drew ?_ | refine blk_alloc ?_ _)); exact BK254.out) Try.underlying33 rfl (by kernel_rfl)) rfl ?_
       exact ⟨by first | rfl | (simp [errW_none, errW_some] <;> rfl) | (simp [*, errW_none, errW_some] <;> rfl), by repeat (first | (with_reducible first | exact HB.out | apply below_alloc | apply pw_below_drewN | apply below_drew1 | refine below_set ?_ GE254.out) | exact HB.out)⟩
      ·replace c43 := Bool.eq_false_iff.mpr c43
       subst c43
       have H1 : (if (bt a0 t255) = 36 then ((pascalineref08_hex.f k a0 t255).bind fun bt280 => (some (bt280.1, bt280.2.1, bt280.2.2.1, bt280.2.2.2.1, bt280.2.2.2.2.1, bt280.2.2.2.2.2))) else (if (bt a0 t255) = 39 then (if (wrap64 (t255 + 2)) < (a0.size : Int) then (if 0 ≤ (wrap64 (t255 + 1)) then (if (wrap64 (t255 + 1)) < (a0.size : Int) then (if (bt a0 (wrap64 (t255 + 1))) ≥ 32 then (if (bt a0 (wrap64 (t255 + 1))) ≤ 126 then (if 0 ≤ (wrap64 (t255 + 2)) then (if (bt a0 (wrap64 (t255 + 2))) = 39 then (if t255 ≤ (wrap64 (t255 + 3)) then (if (wrap64 (t255 + 3)) ≤ (a0.size : Int) then (some (3, t255, wrap64 (t255 + 3), a0.extract (t255 : Int).toNat ((wrap64 (t255 + 3)) : Int).toNat, wrap32 (bt a0 (wrap64 (t255 + 1))), 0)) else (none)) else (none)) else ((pascalineref08_bad.f t255 (wrap64 (t255 + 1)) 82).bind fun bt286 => (some (bt286.1, bt286.2.1, bt286.2.2.1, bt286.2.2.2.1, bt286.2.2.2.2.1, bt286.2.2.2.2.2)))) else (none)) else ((pascalineref08_bad.f t255 (wrap64 (t255 + 1)) 82).bind fun bt292 => (some (bt292.1, bt292.2.1, bt292.2.2.1, bt292.2.2.2.1, bt292.2.2.2.2.1, bt292.2.2.2.2.2)))) else ((pascalineref08_bad.f t255 (wrap64 (t255 + 1)) 82).bind fun bt298 => (some (bt298.1, bt298.2.1, bt298.2.2.1, bt298.2.2.2.1, bt298.2.2.2.2.1, bt298.2.2.2.2.2)))) else (none)) else (none)) else ((pascalineref08_bad.f t255 (wrap64 (t255 + 1)) 82).bind fun bt304 => (some (bt304.1, bt304.2.1, bt304.2.2.1, bt304.2.2.2.1, bt304.2.2.2.2.1, bt304.2.2.2.2.2)))) else (if (bt a0 t255) = 34 then (pascalineref08_Next.l1 k a0 t255 (wrap64 (t255 + 1))) else ((pascalineref08_two.f a0 t255 58 61).bind fun t346 => (if t346 = true then (pascalineref08_Next.j3 k a0 t255 (bt a0 t255) true) else ((pascalineref08_two.f a0 t255 60 61).bind fun t347 => (if t347 = true then (pascalineref08_Next.j3 k a0 t255 (bt a0 t255) true) else ((pascalineref08_two.f a0 t255 62 61).bind fun t348 => (pascalineref08_Next.j3 k a0 t255 (bt a0 t255) t348))))))))) = some (r1, r2, r3, r4, r5, r6) := by rw [if_neg (show ¬ (false = true) by decide)] at H; exact H
       clear H
       have H := H1
       clear H1
       by_cases c48 : (bt a0 t255) = 36
       ·rw [if_pos c48] at H
        have c48b0 : ((bt a0 t255) == 36) = true := beq_iff_eq.mpr c48
        have c48b1 : ((bt a0 t255) != 36) = false := bne_eq_false_iff_eq.mpr c48
        clear c48
        replace H := Option.bind_eq_some_iff.mp H
        obtain ⟨⟨t280, t281, t282, t283, t284, t285⟩, A490, H⟩ := H
        replace H : (some (t280, t281, t282, t283, t284, t285)) = some (r1, r2, r3, r4, r5, r6) := H
        have A49 := Aside0.mk A490
        clear A490
        simp only [Option.some.injEq, Prod.mk.injEq] at H
        obtain ⟨rfl, rfl, rfl, rfl, rfl, rfl⟩ := H
        go_enter Try.func14, Try.ntmps14
        go_wp2_with (first | ((with_reducible refine gate_dst (N := 4) rfl ?_); refine box_event ?hg (N := 4) ?hd (cs := #[.int .i64 0, .int .i64 0, .int .i64 0, .string (⟨#[]⟩ : ByteArray), .int .i32 0]) (t := 33) ?hr ?_; (case hd => rfl); (case hg => rfl); (case hr => first | (go_simp; done) | (go_simp; rfl)); intro gb254 hg w50 hbox hb; have n0_ := Aside0.mk (below_step (by repeat (first | (with_reducible first | exact HB.out | apply below_alloc | apply pw_below_drewN | apply below_drew1) | exact HB.out)) hb); have n1_ := Aside0.mk (hbox); have n2_ := Aside0.mk ((by rw [hg]; exact (below_size (by repeat (first | (with_reducible first | exact HB.out | apply below_alloc | apply pw_below_drewN | apply below_drew1) | exact HB.out))) : w.heap.size ≤ gb254)); have n3_ := Aside0.mk ((by rw [hg]; exact (below_size (by repeat (first | (with_reducible first | exact HB.out | apply below_alloc | apply pw_below_drewN | apply below_drew1) | exact HB.out))) : w.heap.size ≤ gb254)); clear HB; have HB := n0_; have BK254 := n1_; have GW254 := n2_; have GE254 := n3_; clear n0_ n1_ n2_ n3_; clear hb hbox hg) | ((with_reducible refine gate_callee (f := 19) rfl ?_); refine goesL_ (some 15) rfl rfl Try.func19 (by kernel_rfl) rfl #[.string a0, .int .i64 a1] rfl (by (try simp only [List.map_toArray, List.map_cons, List.map_nil]); first | done | rfl | (simp only [List.length_drop, List.length_take]; rfl)) ?_; (with_reducible refine (pascalineref08_blanks.calls k a0 a1 t255 true _ A3.out).mono ?_); rintro e w' ⟨rfl, ⟨nd, rfl⟩⟩; refine ⟨_, rfl, ?_⟩; (try (rw [drewN_self w50]; generalize hq_ : World.drewN w50 _ = w50; have n0_ : Aside0 (w50.heap[gb254]? = some (.cells #[.int .i64 0, .int .i64 0, .int .i64 0, .string (⟨#[]⟩ : ByteArray), .int .i32 0] 33 (0, 0))) := ⟨by rw [← hq_]; exact (by (with_reducible repeat (first | refine blk_drewN ?_ _ | refine blk_drew ?_ | refine blk_alloc ?_ _)); exact BK254.out)⟩; have n1_ : Aside0 (Below w.heap.size w w50) := ⟨by rw [← hq_]; exact (by repeat (first | (with_reducible first | exact HB.out | apply below_alloc | apply pw_below_drewN | apply below_drew1 | refine below_set ?_ GE254.out) | exact HB.out))⟩; clear BK254 HB hq_; have BK254 := n0_; have HB := n1_; clear n0_ n1_)); have p10 : 0 ≤ (t255 : Int) := of_decide_eq_true (by first | (with_reducible assumption) | assumption); have q10 : t255 < (a0.size : Int) := of_decide_eq_true (by first | (with_reducible assumption) | assumption); have hx10 := bt_at a0 t255; replace p10 := eq_true p10; replace q10 := eq_true q10) | ((with_reducible refine gate_callee (f := 21) rfl ?_); refine goesL_ (some 39) rfl rfl Try.func21 (by kernel_rfl) rfl #[.int .u8 (bt a0 t255)] rfl (by (try simp only [List.map_toArray, List.map_cons, List.map_nil]); first | done | rfl | (simp only [List.length_drop, List.length_take]; rfl)) ?_; (with_reducible refine (pascalineref08_letter.calls (bt a0 t255) false _ A11.out).mono ?_); rintro e w' ⟨rfl, ⟨nd, rfl⟩⟩; refine ⟨_, rfl, ?_⟩; (try (rw [drewN_self w50]; generalize hq_ : World.drewN w50 _ = w50; have n0_ : Aside0 (w50.heap[gb254]? = some (.cells #[.int .i64 0, .int .i64 0, .int .i64 0, .string (⟨#[]⟩ : ByteArray), .int .i32 0] 33 (0, 0))) := ⟨by rw [← hq_]; exact (by (with_reducible repeat (first | refine blk_drewN ?_ _ | refine blk_drew ?_ | refine blk_alloc ?_ _)); exact BK254.out)⟩; have n1_ : Aside0 (Below w.heap.size w w50) := ⟨by rw [← hq_]; exact (by repeat (first | (with_reducible first | exact HB.out | apply below_alloc | apply pw_below_drewN | apply below_drew1 | refine below_set ?_ GE254.out) | exact HB.out))⟩; clear BK254 HB hq_; have BK254 := n0_; have HB := n1_; clear n0_ n1_))) | ((with_reducible refine gate_callee (f := 22) rfl ?_); refine goesL_ (some 88) rfl rfl Try.func22 (by kernel_rfl) rfl #[.int .u8 (bt a0 t255)] rfl (by (try simp only [List.map_toArray, List.map_cons, List.map_nil]); first | done | rfl | (simp only [List.length_drop, List.length_take]; rfl)) ?_; (with_reducible refine (pascalineref08_digit.calls (bt a0 t255) false _ A42.out).mono ?_); rintro e w' ⟨rfl, ⟨nd, rfl⟩⟩; refine ⟨_, rfl, ?_⟩; (try (rw [drewN_self w50]; generalize hq_ : World.drewN w50 _ = w50; have n0_ : Aside0 (w50.heap[gb254]? = some (.cells #[.int .i64 0, .int .i64 0, .int .i64 0, .string (⟨#[]⟩ : ByteArray), .int .i32 0] 33 (0, 0))) := ⟨by rw [← hq_]; exact (by (with_reducible repeat (first | refine blk_drewN ?_ _ | refine blk_drew ?_ | refine blk_alloc ?_ _)); exact BK254.out)⟩; have n1_ : Aside0 (Below w.heap.size w w50) := ⟨by rw [← hq_]; exact (by repeat (first | (with_reducible first | exact HB.out | apply below_alloc | apply pw_below_drewN | apply below_drew1 | refine below_set ?_ GE254.out) | exact HB.out))⟩; clear BK254 HB hq_; have BK254 := n0_; have HB := n1_; clear n0_ n1_))) | ((with_reducible refine gate_callee (f := 24) rfl ?_); refine goesL_ (some 99) rfl rfl Try.func24 (by kernel_rfl) rfl #[.string a0, .int .i64 t255] rfl (by (try simp only [List.map_toArray, List.map_cons, List.map_nil]); first | done | rfl | (simp only [List.length_drop, List.length_take]; rfl)) ?_; (with_reducible refine (pascalineref08_hex.calls k a0 t255 t280 t281 t282 t283 t284 t285 _ A49.out).mono ?_); rintro e w51 ⟨rfl, hb⟩; refine ⟨_, rfl, ?_⟩; have n0_ := Aside0.mk (blk_below (g := gb254) (o := .cells #[.int .i64 0, .int .i64 0, .int .i64 0, .string (⟨#[]⟩ : ByteArray), .int .i32 0] 33 (0, 0)) (by (with_reducible repeat (first | refine blk_drewN ?_ _ | refine blk_drew ?_ | refine blk_alloc ?_ _)); exact BK254.out) hb); have n1_ := Aside0.mk (below_step (by repeat (first | (with_reducible first | exact HB.out | apply below_alloc | apply pw_below_drewN | apply below_drew1 | refine below_set ?_ GE254.out) | exact HB.out)) hb); clear BK254; clear HB; have BK254 := n0_; have HB := n1_; clear n0_ n1_; (try clear hb); (try clear hb2); (try clear hk); (try clear hi); have hcz52_0 : w51.cell? ⟨gb254, 0, none⟩ = some (.int .i64 0) := (blk_cell BK254.out 0).trans rfl; have hcz52_1 : w51.cell? ⟨gb254, 1, none⟩ = some (.int .i64 0) := (blk_cell BK254.out 1).trans rfl; have hcz52_2 : w51.cell? ⟨gb254, 2, none⟩ = some (.int .i64 0) := (blk_cell BK254.out 2).trans rfl; have hcz52_3 : w51.cell? ⟨gb254, 3, none⟩ = some (.string (⟨#[]⟩ : ByteArray)) := (blk_cell BK254.out 3).trans rfl; have hcz52_4 : w51.cell? ⟨gb254, 4, none⟩ = some (.int .i32 0) := (blk_cell BK254.out 4).trans rfl; have hfz52_0 := blk_frozen BK254.out 0; have hfz52_1 := blk_frozen BK254.out 1; have hfz52_2 := blk_frozen BK254.out 2; have hfz52_3 := blk_frozen BK254.out 3; have hfz52_4 := blk_frozen BK254.out 4))
        refine bodyPost_ret (results_ct rfl _ _ gb254 33 #[.int .i64 t280, .int .i64 t281, .int .i64 t282, .string t283, .int .i32 t284] (0, 0) _ rfl (by (with_reducible repeat (first | refine blk_drewN ?_ _ | refine blk_drew ?_ | refine blk_alloc ?_ _)); refine blk_put (cs := #[.int .i64 t280, .int .i64 t281, .int .i64 t282, .string t283, .int .i32 0]) ?_ 4 _ rfl; (with_reducible repeat (first | refine blk_drewN ?_ _ | refine blk_drew ?_ | refine blk_alloc ?_ _)); refine blk_put (cs := #[.int .i64 t280, .int .i64 t281, .int .i64 t282, .string (⟨#[]⟩ : ByteArray), .int .i32 0]) ?_ 3 _ rfl; (with_reducible repeat (first | refine blk_drewN ?_ _ | refine blk_drew ?_ | refine blk_alloc ?_ _)); refine blk_put (cs := #[.int .i64 t280, .int .i64 t281, .int .i64 0, .string (⟨#[]⟩ : ByteArray), .int .i32 0]) ?_ 2 _ rfl; (with_reducible repeat (first | refine blk_drewN ?_ _ | refine blk_drew ?_ | refine blk_alloc ?_ _)); refine blk_put (cs := #[.int .i64 t280, .int .i64 0, .int .i64 0, .string (⟨#[]⟩ : ByteArray), .int .i32 0]) ?_ 1 _ rfl; (with_reducible repeat (first | refine blk_drewN ?_ _ | refine blk_drew ?_ | refine blk_alloc ?_ _)); refine blk_put (cs := #[.int .i64 0, .int .i64 0, .int .i64 0, .string (⟨#[]⟩ : ByteArray), .int .i32 0]) ?_ 0 _ rfl; (with_reducible repeat (first | refine blk_drewN ?_ _ | refine blk_drew ?_ | refine blk_alloc ?_ _)); exact BK254.out) Try.underlying33 rfl (by kernel_rfl)) rfl ?_
        exact ⟨by first | rfl | (simp [errW_none, errW_some] <;> rfl) | (simp [*, errW_none, errW_some] <;> rfl), by repeat (first | (with_reducible first | exact HB.out | apply below_alloc | apply pw_below_drewN | apply below_drew1 | refine below_set ?_ GE254.out) | exact HB.out)⟩
       ·rw [if_neg c48] at H
        have c48b0 : ((bt a0 t255) == 36) = false := beq_eq_false_iff_ne.mpr c48
        have c48b1 : ((bt a0 t255) != 36) = true := bne_iff_ne.mpr c48
        by_cases c53 : (bt a0 t255) = 39
        ·rw [if_pos c53] at H
         have c53b0 : ((bt a0 t255) == 39) = true := beq_iff_eq.mpr c53
         have c53b1 : ((bt a0 t255) != 39) = false := bne_eq_false_iff_eq.mpr c53
         clear c53
         by_cases c54 : (wrap64 (t255 + 2)) < (a0.size : Int)
         ·rw [if_pos c54] at H
          have c54b0 : decide ((wrap64 (t255 + 2)) < (a0.size : Int)) = true := decide_eq_true c54
          clear c54
          obtain ⟨ji55, hji55⟩ : ∃ j_ : Int, (wrap64 (t255 + 1)) = j_ := ⟨_, rfl⟩
          replace H : (if 0 ≤ (ji55) then (if (ji55) < (a0.size : Int) then (if (bt a0 (ji55)) ≥ 32 then (if (bt a0 (ji55)) ≤ 126 then (if 0 ≤ (wrap64 (t255 + 2)) then (if (bt a0 (wrap64 (t255 + 2))) = 39 then (if t255 ≤ (wrap64 (t255 + 3)) then (if (wrap64 (t255 + 3)) ≤ (a0.size : Int) then (some (3, t255, wrap64 (t255 + 3), a0.extract (t255 : Int).toNat ((wrap64 (t255 + 3)) : Int).toNat, wrap32 (bt a0 (ji55)), 0)) else (none)) else (none)) else ((pascalineref08_bad.f t255 (ji55) 82).bind fun bt286 => (some (bt286.1, bt286.2.1, bt286.2.2.1, bt286.2.2.2.1, bt286.2.2.2.2.1, bt286.2.2.2.2.2)))) else (none)) else ((pascalineref08_bad.f t255 (ji55) 82).bind fun bt292 => (some (bt292.1, bt292.2.1, bt292.2.2.1, bt292.2.2.2.1, bt292.2.2.2.2.1, bt292.2.2.2.2.2)))) else ((pascalineref08_bad.f t255 (ji55) 82).bind fun bt298 => (some (bt298.1, bt298.2.1, bt298.2.2.1, bt298.2.2.2.1, bt298.2.2.2.2.1, bt298.2.2.2.2.2)))) else (none)) else (none)) = some (r1, r2, r3, r4, r5, r6) := by first | (rw [hji55] at H; exact H) | (simp only [hji55] at H ⊢; exact H)
          (try rw [hji55] at A3)
          (try rw [hji55] at A11)
          (try rw [hji55] at A42)
          have hji55w : (IntKind.i64.wrap (t255 + 1)) = ji55 := (i64_w _).trans hji55
          by_cases c56 : 0 ≤ (ji55)
          ·rw [if_pos c56] at H
           have c56b0 : decide (0 ≤ (ji55)) = true := decide_eq_true c56
           clear c56
           by_cases c57 : (ji55) < (a0.size : Int)
           ·rw [if_pos c57] at H
            have c57b0 : decide ((ji55) < (a0.size : Int)) = true := decide_eq_true c57
            clear c57
            by_cases c59 : (bt a0 (ji55)) ≥ 32
            ·rw [if_pos c59] at H
             have c59b0 : decide (32 ≤ (bt a0 (ji55))) = true := decide_eq_true c59
             clear c59
             by_cases c61 : (bt a0 (ji55)) ≤ 126
             ·rw [if_pos c61] at H
              have c61b0 : decide ((bt a0 (ji55)) ≤ 126) = true := decide_eq_true c61
              clear c61
              obtain ⟨ji62, hji62⟩ : ∃ j_ : Int, (wrap64 (t255 + 2)) = j_ := ⟨_, rfl⟩
              replace H : (if 0 ≤ (ji62) then (if (bt a0 (ji62)) = 39 then (if t255 ≤ (wrap64 (t255 + 3)) then (if (wrap64 (t255 + 3)) ≤ (a0.size : Int) then (some (3, t255, wrap64 (t255 + 3), a0.extract (t255 : Int).toNat ((wrap64 (t255 + 3)) : Int).toNat, wrap32 (bt a0 (ji55)), 0)) else (none)) else (none)) else ((pascalineref08_bad.f t255 (ji55) 82).bind fun bt286 => (some (bt286.1, bt286.2.1, bt286.2.2.1, bt286.2.2.2.1, bt286.2.2.2.2.1, bt286.2.2.2.2.2)))) else (none)) = some (r1, r2, r3, r4, r5, r6) := by first | (rw [hji62] at H; exact H) | (simp only [hji62] at H ⊢; exact H)
              (try rw [hji62] at c54b0)
              (try rw [hji62] at A3)
              (try rw [hji62] at A11)
              (try rw [hji62] at A42)
              have hji62w : (IntKind.i64.wrap (t255 + 2)) = ji62 := (i64_w _).trans hji62
              by_cases c63 : 0 ≤ (ji62)
              ·rw [if_pos c63] at H
               have c63b0 : decide (0 ≤ (ji62)) = true := decide_eq_true c63
               clear c63
               by_cases c65 : (bt a0 (ji62)) = 39
               ·rw [if_pos c65] at H
                have c65b0 : ((bt a0 (ji62)) == 39) = true := beq_iff_eq.mpr c65
                have c65b1 : ((bt a0 (ji62)) != 39) = false := bne_eq_false_iff_eq.mpr c65
                clear c65
                have c66b0 := eq_true (of_decide_eq_true (by first | (with_reducible assumption) | assumption) : 0 ≤ t255)
                by_cases c67 : t255 ≤ (wrap64 (t255 + 3))
                ·rw [if_pos c67] at H
                 have c67b0 := eq_true c67
                 have c67b1 : decide (t255 ≤ (wrap64 (t255 + 3))) = true := decide_eq_true c67
                 by_cases c68 : (wrap64 (t255 + 3)) ≤ (a0.size : Int)
                 ·rw [if_pos c68] at H
                  have c68b0 := eq_true c68
                  have c68b1 : decide ((wrap64 (t255 + 3)) ≤ (a0.size : Int)) = true := decide_eq_true c68
                  simp only [Option.some.injEq, Prod.mk.injEq] at H
                  obtain ⟨rfl, rfl, rfl, rfl, rfl, rfl⟩ := H
                  go_enter Try.func14, Try.ntmps14
                  try go_wp2_with (first | ((with_reducible refine gate_dst (N := 4) rfl ?_); refine box_event ?hg (N := 4) ?hd (cs := #[.int .i64 0, .int .i64 0, .int .i64 0, .string (⟨#[]⟩ : ByteArray), .int .i32 0]) (t := 33) ?hr ?_; (case hd => rfl); (case hg => rfl); (case hr => first | (go_simp; done) | (go_simp; rfl)); intro gb254 hg w70 hbox hb; have n0_ := Aside0.mk (below_step (by repeat (first | (with_reducible first | exact HB.out | apply below_alloc | apply pw_below_drewN | apply below_drew1) | exact HB.out)) hb); have n1_ := Aside0.mk (hbox); have n2_ := Aside0.mk ((by rw [hg]; exact (below_size (by repeat (first | (with_reducible first | exact HB.out | apply below_alloc | apply pw_below_drewN | apply below_drew1) | exact HB.out))) : w.heap.size ≤ gb254)); have n3_ := Aside0.mk ((by rw [hg]; exact (below_size (by repeat (first | (with_reducible first | exact HB.out | apply below_alloc | apply pw_below_drewN | apply below_drew1) | exact HB.out))) : w.heap.size ≤ gb254)); clear HB; have HB := n0_; have BK254 := n1_; have GW254 := n2_; have GE254 := n3_; clear n0_ n1_ n2_ n3_; clear hb hbox hg) | ((with_reducible refine gate_callee (f := 19) rfl ?_); refine goesL_ (some 15) rfl rfl Try.func19 (by kernel_rfl) rfl #[.string a0, .int .i64 a1] rfl (by (try simp only [List.map_toArray, List.map_cons, List.map_nil]); first | done | rfl | (simp only [List.length_drop, List.length_take]; rfl)) ?_; (with_reducible refine (pascalineref08_blanks.calls k a0 a1 t255 true _ A3.out).mono ?_); rintro e w' ⟨rfl, ⟨nd, rfl⟩⟩; refine ⟨_, rfl, ?_⟩; (try (rw [drewN_self w70]; generalize hq_ : World.drewN w70 _ = w70; have n0_ : Aside0 (w70.heap[gb254]? = some (.cells #[.int .i64 0, .int .i64 0, .int .i64 0, .string (⟨#[]⟩ : ByteArray), .int .i32 0] 33 (0, 0))) := ⟨by rw [← hq_]; exact (by (with_reducible repeat (first | refine blk_drewN ?_ _ | refine blk_drew ?_ | refine blk_alloc ?_ _)); exact BK254.out)⟩; have n1_ : Aside0 (Below w.heap.size w w70) := ⟨by rw [← hq_]; exact (by repeat (first | (with_reducible first | exact HB.out | apply below_alloc | apply pw_below_drewN | apply below_drew1 | refine below_set ?_ GE254.out) | exact HB.out))⟩; clear BK254 HB hq_; have BK254 := n0_; have HB := n1_; clear n0_ n1_)); have p10 : 0 ≤ (t255 : Int) := of_decide_eq_true (by first | (with_reducible assumption) | assumption); have q10 : t255 < (a0.size : Int) := of_decide_eq_true (by first | (with_reducible assumption) | assumption); have hx10 := bt_at a0 t255; replace p10 := eq_true p10; replace q10 := eq_true q10) | ((with_reducible refine gate_callee (f := 21) rfl ?_); refine goesL_ (some 39) rfl rfl Try.func21 (by kernel_rfl) rfl #[.int .u8 (bt a0 t255)] rfl (by (try simp only [List.map_toArray, List.map_cons, List.map_nil]); first | done | rfl | (simp only [List.length_drop, List.length_take]; rfl)) ?_; (with_reducible refine (pascalineref08_letter.calls (bt a0 t255) false _ A11.out).mono ?_); rintro e w' ⟨rfl, ⟨nd, rfl⟩⟩; refine ⟨_, rfl, ?_⟩; (try (rw [drewN_self w70]; generalize hq_ : World.drewN w70 _ = w70; have n0_ : Aside0 (w70.heap[gb254]? = some (.cells #[.int .i64 0, .int .i64 0, .int .i64 0, .string (⟨#[]⟩ : ByteArray), .int .i32 0] 33 (0, 0))) := ⟨by rw [← hq_]; exact (by (with_reducible repeat (first | refine blk_drewN ?_ _ | refine blk_drew ?_ | refine blk_alloc ?_ _)); exact BK254.out)⟩; have n1_ : Aside0 (Below w.heap.size w w70) := ⟨by rw [← hq_]; exact (by repeat (first | (with_reducible first | exact HB.out | apply below_alloc | apply pw_below_drewN | apply below_drew1 | refine below_set ?_ GE254.out) | exact HB.out))⟩; clear BK254 HB hq_; have BK254 := n0_; have HB := n1_; clear n0_ n1_))) | ((with_reducible refine gate_callee (f := 22) rfl ?_); refine goesL_ (some 88) rfl rfl Try.func22 (by kernel_rfl) rfl #[.int .u8 (bt a0 t255)] rfl (by (try simp only [List.map_toArray, List.map_cons, List.map_nil]); first | done | rfl | (simp only [List.length_drop, List.length_take]; rfl)) ?_; (with_reducible refine (pascalineref08_digit.calls (bt a0 t255) false _ A42.out).mono ?_); rintro e w' ⟨rfl, ⟨nd, rfl⟩⟩; refine ⟨_, rfl, ?_⟩; (try (rw [drewN_self w70]; generalize hq_ : World.drewN w70 _ = w70; have n0_ : Aside0 (w70.heap[gb254]? = some (.cells #[.int .i64 0, .int .i64 0, .int .i64 0, .string (⟨#[]⟩ : ByteArray), .int .i32 0] 33 (0, 0))) := ⟨by rw [← hq_]; exact (by (with_reducible repeat (first | refine blk_drewN ?_ _ | refine blk_drew ?_ | refine blk_alloc ?_ _)); exact BK254.out)⟩; have n1_ : Aside0 (Below w.heap.size w w70) := ⟨by rw [← hq_]; exact (by repeat (first | (with_reducible first | exact HB.out | apply below_alloc | apply pw_below_drewN | apply below_drew1 | refine below_set ?_ GE254.out) | exact HB.out))⟩; clear BK254 HB hq_; have BK254 := n0_; have HB := n1_; clear n0_ n1_)); have p58 : 0 ≤ ((ji55) : Int) := of_decide_eq_true (by first | (with_reducible assumption) | assumption); have q58 : (ji55) < (a0.size : Int) := of_decide_eq_true (by first | (with_reducible assumption) | assumption); have hx58 := bt_at a0 (ji55); replace p58 := eq_true p58; replace q58 := eq_true q58; have p60 : 0 ≤ ((ji55) : Int) := of_decide_eq_true (by first | (with_reducible assumption) | assumption); have q60 : (ji55) < (a0.size : Int) := of_decide_eq_true (by first | (with_reducible assumption) | assumption); have hx60 := bt_at a0 (ji55); replace p60 := eq_true p60; replace q60 := eq_true q60; have p64 : 0 ≤ ((ji62) : Int) := of_decide_eq_true (by first | (with_reducible assumption) | assumption); have q64 : (ji62) < (a0.size : Int) := of_decide_eq_true (by first | (with_reducible assumption) | assumption); have hx64 := bt_at a0 (ji62); replace p64 := eq_true p64; replace q64 := eq_true q64))
                  have n0_ := Aside0.mk (blk_drew BK254.out)
                  have n1_ := Aside0.mk (below_drew1 HB.out)
                  clear BK254
                  clear HB
                  have BK254 := n0_
                  have HB := n1_
                  clear n0_ n1_
                  have p69 : 0 ≤ ((ji55) : Int) := of_decide_eq_true (by first | (with_reducible assumption) | assumption)
                  have q69 : (ji55) < (a0.size : Int) := of_decide_eq_true (by first | (with_reducible assumption) | assumption)
                  have hx69 := bt_at a0 (ji55)
                  replace p69 := eq_true p69
                  replace q69 := eq_true q69
                  refine start_ (n := 16) (S := fun w' => True) (ds := []) #[false, false, false, false, false, false, false, false, false, false, false, false, false, false, false, false] (by kernel_rfl) rfl rfl trivial (fun hHeld => ?_); refine with_tabW pascalineref08_Next.tab22 pascalineref08_Next.bits22 (fun HT_ HW_ => ?_)
                  generalize w70.drew = w71 at BK254 HB hHeld ⊢
                  refine pure_ (i := 0) (N := some 131) (v := ?_) (a' := ?_) #[true, false, false, false, false, false, false, false, false, false, false, false, false, false, false, false] rfl rfl (any_of HT_.out (by kernel_rfl)) (fun _ _ _ h => h) (Or.inl ⟨by rfl, ?_⟩) ?_ ?_
                  rotate_left
                  ·intro w'
                   go_simp
                   with_reducible rfl
                  rotate_left
                  ·simp only [Act.put, List.setIfInBounds_toArray, List.set_cons_zero, List.set_cons_succ, i64_w, i32_w]
                   rfl
                  refine pure_ (i := 1) (N := some 132) (v := ?_) (a' := ?_) #[true, true, false, false, false, false, false, false, false, false, false, false, false, false, false, false] rfl rfl (any_of HT_.out (by kernel_rfl)) (fun _ _ _ h => h) (Or.inl ⟨by rfl, ?_⟩) ?_ ?_
                  rotate_left
                  ·intro w'
                   go_simp
                   with_reducible rfl
                  rotate_left
                  ·simp only [Act.put, List.setIfInBounds_toArray, List.set_cons_zero, List.set_cons_succ, i64_w, i32_w]
                   rfl
                  refine pure_ (i := 2) (N := some 133) (v := ?_) (a' := ?_) #[true, true, true, false, false, false, false, false, false, false, false, false, false, false, false, false] rfl rfl (any_of HT_.out (by kernel_rfl)) (fun _ _ _ h => h) (Or.inl ⟨by rfl, ?_⟩) ?_ ?_
                  rotate_left
                  ·intro w'
                   go_simp
                   with_reducible rfl
                  rotate_left
                  ·simp only [Act.put, List.setIfInBounds_toArray, List.set_cons_zero, List.set_cons_succ, i64_w, i32_w]
                   rfl
                  refine pure_ (i := 3) (N := some 134) (v := ?_) (a' := ?_) #[true, true, true, true, false, false, false, false, false, false, false, false, false, false, false, false] rfl rfl (any_of HT_.out (by kernel_rfl)) (fun _ _ _ h => h) (Or.inl ⟨by rfl, ?_⟩) ?_ ?_
                  rotate_left
                  ·intro w'
                   go_simp
                   with_reducible rfl
                  rotate_left
                  ·simp only [Act.put, List.setIfInBounds_toArray, List.set_cons_zero, List.set_cons_succ, i64_w, i32_w]
                   rfl
                  refine pure_ (i := 4) (N := some 135) (v := ?_) (a' := ?_) #[true, true, true, true, true, false, false, false, false, false, false, false, false, false, false, false] rfl rfl (any_of HT_.out (by kernel_rfl)) (fun _ _ _ h => h) (Or.inl ⟨by rfl, ?_⟩) ?_ ?_
                  rotate_left
                  ·intro w'
                   go_simp
                   with_reducible rfl
                  rotate_left
                  ·simp only [Act.put, List.setIfInBounds_toArray, List.set_cons_zero, List.set_cons_succ, i64_w, i32_w]
                   rfl
                  refine pure_ (i := 5) (N := some 136) (v := ?_) (a' := ?_) #[true, true, true, true, true, true, false, false, false, false, false, false, false, false, false, false] rfl rfl (any_of HT_.out (by kernel_rfl)) (fun _ _ _ h => h) (Or.inl ⟨by rfl, ?_⟩) ?_ ?_
                  rotate_left
                  ·intro w'
                   go_simp
                   with_reducible rfl
                  rotate_left
                  ·simp only [Act.put, List.setIfInBounds_toArray, List.set_cons_zero, List.set_cons_succ, i64_w, i32_w]
                   rfl
                  refine pure_ (i := 6) (N := some 137) (v := ?_) (a' := ?_) #[true, true, true, true, true, true, true, false, false, false, false, false, false, false, false, false] rfl rfl (any_of HT_.out (by kernel_rfl)) (fun _ _ _ h => h) (Or.inl ⟨by rfl, ?_⟩) ?_ ?_
                  rotate_left
                  ·intro w'
                   go_simp
                   with_reducible rfl
                  rotate_left
                  ·simp only [Act.put, List.setIfInBounds_toArray, List.set_cons_zero, List.set_cons_succ, i64_w, i32_w]
                   rfl
                  refine pure_ (i := 7) (N := some 138) (v := ?_) (a' := ?_) #[true, true, true, true, true, true, true, true, false, false, false, false, false, false, false, false] rfl rfl (any_of HT_.out (by kernel_rfl)) (fun _ _ _ h => h) (Or.inl ⟨by rfl, ?_⟩) ?_ ?_
                  rotate_left
                  ·intro w'
                   go_simp
                   with_reducible rfl
                  rotate_left
                  ·simp only [Act.put, List.setIfInBounds_toArray, List.set_cons_zero, List.set_cons_succ, i64_w, i32_w]
                   rfl
                  refine pure_ (i := 8) (N := some 139) (v := ?_) (a' := ?_) #[true, true, true, true, true, true, true, true, true, false, false, false, false, false, false, false] rfl rfl (any_of HT_.out (by kernel_rfl)) (fun _ _ _ h => h) (Or.inl ⟨by rfl, ?_⟩) ?_ ?_
                  rotate_left
                  ·intro w'
                   go_simp
                   with_reducible rfl
                  rotate_left
                  ·simp only [Act.put, List.setIfInBounds_toArray, List.set_cons_zero, List.set_cons_succ, i64_w, i32_w]
                   rfl
                  refine pure_ (i := 9) (N := some 140) (v := ?_) (a' := ?_) #[true, true, true, true, true, true, true, true, true, true, false, false, false, false, false, false] rfl rfl (any_of HT_.out (by kernel_rfl)) (fun _ _ _ h => h) (Or.inl ⟨by rfl, ?_⟩) ?_ ?_
                  rotate_left
                  ·intro w'
                   go_simp
                   with_reducible rfl
                  rotate_left
                  ·simp only [Act.put, List.setIfInBounds_toArray, List.set_cons_zero, List.set_cons_succ, i64_w, i32_w]
                   rfl
                  refine pure_ (i := 10) (N := some 141) (v := ?_) (a' := ?_) #[true, true, true, true, true, true, true, true, true, true, true, false, false, false, false, false] rfl rfl (any_of HT_.out (by kernel_rfl)) (fun _ _ _ h => h) (Or.inl ⟨by rfl, ?_⟩) ?_ ?_
                  rotate_left
                  ·intro w'
                   go_simp
                   with_reducible rfl
                  rotate_left
                  ·simp only [Act.put, List.setIfInBounds_toArray, List.set_cons_zero, List.set_cons_succ, i64_w, i32_w]
                   rfl
                  refine take_ (i := 11) (N := some 142) (v := ?_) (a' := ?_) #[true, true, true, true, true, true, true, true, true, true, true, true, false, false, false, false] rfl rfl (take_ofW HT_.out HW_.out (by kernel_rfl)) (fun _ _ _ h => h) (Or.inl ⟨by rfl, ?_⟩) hHeld ?_ ?_
                  rotate_left
                  ·intro w' _
                   go_simp
                   with_reducible rfl
                  rotate_left
                  ·simp only [Act.put, List.setIfInBounds_toArray, List.set_cons_zero, List.set_cons_succ, i64_w, i32_w]
                   rfl
                  refine pure_ (i := 12) (N := some 143) (v := ?_) (a' := ?_) #[true, true, true, true, true, true, true, true, true, true, true, true, true, false, false, false] rfl rfl (any_of HT_.out (by kernel_rfl)) (fun _ _ _ h => h) (Or.inl ⟨by rfl, ?_⟩) ?_ ?_
                  rotate_left
                  ·intro w'
                   go_simp
                   with_reducible rfl
                  rotate_left
                  ·simp only [Act.put, List.setIfInBounds_toArray, List.set_cons_zero, List.set_cons_succ, i64_w, i32_w]
                   rfl
                  refine pure_ (i := 13) (N := some 144) (v := ?_) (a' := ?_) #[true, true, true, true, true, true, true, true, true, true, true, true, true, true, false, false] rfl rfl (any_of HT_.out (by kernel_rfl)) (fun _ _ _ h => h) (Or.inl ⟨by rfl, ?_⟩) ?_ ?_
                  rotate_left
                  ·intro w'
                   go_simp
                   with_reducible rfl
                  rotate_left
                  ·simp only [Act.put, List.setIfInBounds_toArray, List.set_cons_zero, List.set_cons_succ, i64_w, i32_w]
                   rfl
                  refine one_ (i := 14) (N := none) #[true, true, true, true, true, true, true, true, true, true, true, true, true, true, true, false] rfl rfl (one_of HT_.out (by kernel_rfl)) (by decide) (fun K hK => ?_)
                  have hs72 : w71.cell? ⟨gb254, 0, none⟩ = some (.int .i64 0) := (blk_cell BK254.out 0).trans rfl
                  have hfs72 := blk_frozen BK254.out 0
                  have hs73 : w71.cell? ⟨gb254, 1, none⟩ = some (.int .i64 0) := (blk_cell BK254.out 1).trans rfl
                  have hfs73 := blk_frozen BK254.out 1
                  have hs74 : w71.cell? ⟨gb254, 2, none⟩ = some (.int .i64 0) := (blk_cell BK254.out 2).trans rfl
                  have hfs74 := blk_frozen BK254.out 2
                  have hs75 : w71.cell? ⟨gb254, 3, none⟩ = some (.string (⟨#[]⟩ : ByteArray)) := (blk_cell BK254.out 3).trans rfl
                  have hfs75 := blk_frozen BK254.out 3
                  have hs76 : w71.cell? ⟨gb254, 4, none⟩ = some (.int .i32 0) := (blk_cell BK254.out 4).trans rfl
                  have hfs76 := blk_frozen BK254.out 4
                  refine skip_ (w1 := ?_) (by rfl) rfl ?_ ?_
                  rotate_left
                  ·go_simp
                   rfl
                  refine hK.out _ _ trivial (fun hHeld => ?_)
                  clear hK K
                  refine pure_ (i := 15) (N := some 5) (v := ?_) (a' := ?_) #[true, true, true, true, true, true, true, true, true, true, true, true, true, true, true, true] rfl rfl (any_of HT_.out (by kernel_rfl)) (fun _ _ _ h => h) (Or.inl ⟨by rfl, ?_⟩) ?_ ?_
                  rotate_left
                  ·intro w'
                   go_simp
                   with_reducible rfl
                  rotate_left
                  ·simp only [Act.put, List.setIfInBounds_toArray, List.set_cons_zero, List.set_cons_succ, i64_w, i32_w]
                   rfl
                  refine done_ (done_of HT_.out (by kernel_rfl)) ?_
                  try go_wp2
                  refine bodyPost_ret (results_ct rfl _ _ gb254 33 #[.int .i64 3, .int .i64 t255, .int .i64 (wrap64 (t255 + 3)), .string (a0.extract (t255 : Int).toNat ((wrap64 (t255 + 3)) : Int).toNat), .int .i32 (wrap32 (bt a0 (ji55)))] (0, 0) _ rfl (by (with_reducible repeat (first | refine blk_drewN ?_ _ | refine blk_drew ?_ | refine blk_alloc ?_ _)); refine blk_put (cs := #[.int .i64 3, .int .i64 t255, .int .i64 (wrap64 (t255 + 3)), .string (a0.extract (t255 : Int).toNat ((wrap64 (t255 + 3)) : Int).toNat), .int .i32 0]) ?_ 4 _ rfl; (with_reducible repeat (first | refine blk_drewN ?_ _ | refine blk_drew ?_ | refine blk_alloc ?_ _)); refine blk_put (cs := #[.int .i64 3, .int .i64 t255, .int .i64 (wrap64 (t255 + 3)), .string (⟨#[]⟩ : ByteArray), .int .i32 0]) ?_ 3 _ rfl; (with_reducible repeat (first | refine blk_drewN ?_ _ | refine blk_drew ?_ | refine blk_alloc ?_ _)); refine blk_put (cs := #[.int .i64 3, .int .i64 t255, .int .i64 0, .string (⟨#[]⟩ : ByteArray), .int .i32 0]) ?_ 2 _ rfl; (with_reducible repeat (first | refine blk_drewN ?_ _ | refine blk_drew ?_ | refine blk_alloc ?_ _)); refine blk_put (cs := #[.int .i64 3, .int .i64 0, .int .i64 0, .string (⟨#[]⟩ : ByteArray), .int .i32 0]) ?_ 1 _ rfl; (with_reducible repeat (first | refine blk_drewN ?_ _ | refine blk_drew ?_ | refine blk_alloc ?_ _)); refine blk_put (cs := #[.int .i64 0, .int .i64 0, .int .i64 0, .string (⟨#[]⟩ : ByteArray), .int .i32 0]) ?_ 0 _ rfl; (with_reducible repeat (first | refine blk_drewN ?_ _ | refine blk_drew ?_ | refine blk_alloc ?_ _)); exact BK254.out) Try.underlying33 rfl (by kernel_rfl)) rfl ?_
                  exact ⟨by first | rfl | (simp [errW_none, errW_some] <;> rfl) | (simp only [← hji55, ← hji62]; first | rfl | (simp [errW_none, errW_some] <;> rfl)) | (simp [*, errW_none, errW_some] <;> rfl), by repeat (first | (with_reducible first | exact HB.out | apply below_alloc | apply pw_below_drewN | apply below_drew1 | refine below_set ?_ GE254.out) | exact HB.out)⟩
                 ·rw [if_neg c68] at H
                  exact absurd H (by simp)
                ·rw [if_neg c67] at H
                 exact absurd H (by simp)
               ·rw [if_neg c65] at H
                have c65b0 : ((bt a0 (ji62)) == 39) = false := beq_eq_false_iff_ne.mpr c65
                have c65b1 : ((bt a0 (ji62)) != 39) = true := bne_iff_ne.mpr c65
                replace H := Option.bind_eq_some_iff.mp H
                obtain ⟨⟨t286, t287, t288, t289, t290, t291⟩, A770, H⟩ := H
                replace H : (some (t286, t287, t288, t289, t290, t291)) = some (r1, r2, r3, r4, r5, r6) := H
                have A77 := Aside0.mk A770
                clear A770
                simp only [Option.some.injEq, Prod.mk.injEq] at H
                obtain ⟨rfl, rfl, rfl, rfl, rfl, rfl⟩ := H
                go_enter Try.func14, Try.ntmps14
                go_wp2_with (first | ((with_reducible refine gate_dst (N := 4) rfl ?_); refine box_event ?hg (N := 4) ?hd (cs := #[.int .i64 0, .int .i64 0, .int .i64 0, .string (⟨#[]⟩ : ByteArray), .int .i32 0]) (t := 33) ?hr ?_; (case hd => rfl); (case hg => rfl); (case hr => first | (go_simp; done) | (go_simp; rfl)); intro gb254 hg w78 hbox hb; have n0_ := Aside0.mk (below_step (by repeat (first | (with_reducible first | exact HB.out | apply below_alloc | apply pw_below_drewN | apply below_drew1) | exact HB.out)) hb); have n1_ := Aside0.mk (hbox); have n2_ := Aside0.mk ((by rw [hg]; exact (below_size (by repeat (first | (with_reducible first | exact HB.out | apply below_alloc | apply pw_below_drewN | apply below_drew1) | exact HB.out))) : w.heap.size ≤ gb254)); have n3_ := Aside0.mk ((by rw [hg]; exact (below_size (by repeat (first | (with_reducible first | exact HB.out | apply below_alloc | apply pw_below_drewN | apply below_drew1) | exact HB.out))) : w.heap.size ≤ gb254)); clear HB; have HB := n0_; have BK254 := n1_; have GW254 := n2_; have GE254 := n3_; clear n0_ n1_ n2_ n3_; clear hb hbox hg) | ((with_reducible refine gate_callee (f := 19) rfl ?_); refine goesL_ (some 15) rfl rfl Try.func19 (by kernel_rfl) rfl #[.string a0, .int .i64 a1] rfl (by (try simp only [List.map_toArray, List.map_cons, List.map_nil]); first | done | rfl | (simp only [List.length_drop, List.length_take]; rfl)) ?_; (with_reducible refine (pascalineref08_blanks.calls k a0 a1 t255 true _ A3.out).mono ?_); rintro e w' ⟨rfl, ⟨nd, rfl⟩⟩; refine ⟨_, rfl, ?_⟩; (try (rw [drewN_self w78]; generalize hq_ : World.drewN w78 _ = w78; have n0_ : Aside0 (w78.heap[gb254]? = some (.cells #[.int .i64 0, .int .i64 0, .int .i64 0, .string (⟨#[]⟩ : ByteArray), .int .i32 0] 33 (0, 0))) := ⟨by rw [← hq_]; exact (by (with_reducible repeat (first | refine blk_drewN ?_ _ | refine blk_drew ?_ | refine blk_alloc ?_ _)); exact BK254.out)⟩; have n1_ : Aside0 (Below w.heap.size w w78) := ⟨by rw [← hq_]; exact (by repeat (first | (with_reducible first | exact HB.out | apply below_alloc | apply pw_below_drewN | apply below_drew1 | refine below_set ?_ GE254.out) | exact HB.out))⟩; clear BK254 HB hq_; have BK254 := n0_; have HB := n1_; clear n0_ n1_)); have p10 : 0 ≤ (t255 : Int) := of_decide_eq_true (by first | (with_reducible assumption) | assumption); have q10 : t255 < (a0.size : Int) := of_decide_eq_true (by first | (with_reducible assumption) | assumption); have hx10 := bt_at a0 t255; replace p10 := eq_true p10; replace q10 := eq_true q10) | ((with_reducible refine gate_callee (f := 21) rfl ?_); refine goesL_ (some 39) rfl rfl Try.func21 (by kernel_rfl) rfl #[.int .u8 (bt a0 t255)] rfl (by (try simp only [List.map_toArray, List.map_cons, List.map_nil]); first | done | rfl | (simp only [List.length_drop, List.length_take]; rfl)) ?_; (with_reducible refine (pascalineref08_letter.calls (bt a0 t255) false _ A11.out).mono ?_); rintro e w' ⟨rfl, ⟨nd, rfl⟩⟩; refine ⟨_, rfl, ?_⟩; (try (rw [drewN_self w78]; generalize hq_ : World.drewN w78 _ = w78; have n0_ : Aside0 (w78.heap[gb254]? = some (.cells #[.int .i64 0, .int .i64 0, .int .i64 0, .string (⟨#[]⟩ : ByteArray), .int .i32 0] 33 (0, 0))) := ⟨by rw [← hq_]; exact (by (with_reducible repeat (first | refine blk_drewN ?_ _ | refine blk_drew ?_ | refine blk_alloc ?_ _)); exact BK254.out)⟩; have n1_ : Aside0 (Below w.heap.size w w78) := ⟨by rw [← hq_]; exact (by repeat (first | (with_reducible first | exact HB.out | apply below_alloc | apply pw_below_drewN | apply below_drew1 | refine below_set ?_ GE254.out) | exact HB.out))⟩; clear BK254 HB hq_; have BK254 := n0_; have HB := n1_; clear n0_ n1_))) | ((with_reducible refine gate_callee (f := 22) rfl ?_); refine goesL_ (some 88) rfl rfl Try.func22 (by kernel_rfl) rfl #[.int .u8 (bt a0 t255)] rfl (by (try simp only [List.map_toArray, List.map_cons, List.map_nil]); first | done | rfl | (simp only [List.length_drop, List.length_take]; rfl)) ?_; (with_reducible refine (pascalineref08_digit.calls (bt a0 t255) false _ A42.out).mono ?_); rintro e w' ⟨rfl, ⟨nd, rfl⟩⟩; refine ⟨_, rfl, ?_⟩; (try (rw [drewN_self w78]; generalize hq_ : World.drewN w78 _ = w78; have n0_ : Aside0 (w78.heap[gb254]? = some (.cells #[.int .i64 0, .int .i64 0, .int .i64 0, .string (⟨#[]⟩ : ByteArray), .int .i32 0] 33 (0, 0))) := ⟨by rw [← hq_]; exact (by (with_reducible repeat (first | refine blk_drewN ?_ _ | refine blk_drew ?_ | refine blk_alloc ?_ _)); exact BK254.out)⟩; have n1_ : Aside0 (Below w.heap.size w w78) := ⟨by rw [← hq_]; exact (by repeat (first | (with_reducible first | exact HB.out | apply below_alloc | apply pw_below_drewN | apply below_drew1 | refine below_set ?_ GE254.out) | exact HB.out))⟩; clear BK254 HB hq_; have BK254 := n0_; have HB := n1_; clear n0_ n1_)); have p58 : 0 ≤ ((ji55) : Int) := of_decide_eq_true (by first | (with_reducible assumption) | assumption); have q58 : (ji55) < (a0.size : Int) := of_decide_eq_true (by first | (with_reducible assumption) | assumption); have hx58 := bt_at a0 (ji55); replace p58 := eq_true p58; replace q58 := eq_true q58; have p60 : 0 ≤ ((ji55) : Int) := of_decide_eq_true (by first | (with_reducible assumption) | assumption); have q60 : (ji55) < (a0.size : Int) := of_decide_eq_true (by first | (with_reducible assumption) | assumption); have hx60 := bt_at a0 (ji55); replace p60 := eq_true p60; replace q60 := eq_true q60; have p64 : 0 ≤ ((ji62) : Int) := of_decide_eq_true (by first | (with_reducible assumption) | assumption); have q64 : (ji62) < (a0.size : Int) := of_decide_eq_true (by first | (with_reducible assumption) | assumption); have hx64 := bt_at a0 (ji62); replace p64 := eq_true p64; replace q64 := eq_true q64) | ((with_reducible refine gate_callee (f := 20) rfl ?_); refine goesL_ (some 148) rfl rfl Try.func20 (by kernel_rfl) rfl #[.int .i64 t255, .int .i64 ji55, .int .i64 82] rfl (by (try simp only [List.map_toArray, List.map_cons, List.map_nil]); first | done | (simp only [hji55]; rfl) | rfl | (simp only [List.length_drop, List.length_take]; rfl)) ?_; (with_reducible refine (pascalineref08_bad.calls t255 ji55 82 t286 t287 t288 t289 t290 t291 _ A77.out).mono ?_); rintro e w79 ⟨rfl, hb⟩; refine ⟨_, rfl, ?_⟩; have n0_ := Aside0.mk (blk_below (g := gb254) (o := .cells #[.int .i64 0, .int .i64 0, .int .i64 0, .string (⟨#[]⟩ : ByteArray), .int .i32 0] 33 (0, 0)) (by (with_reducible repeat (first | refine blk_drewN ?_ _ | refine blk_drew ?_ | refine blk_alloc ?_ _)); exact BK254.out) hb); have n1_ := Aside0.mk (below_step (by repeat (first | (with_reducible first | exact HB.out | apply below_alloc | apply pw_below_drewN | apply below_drew1 | refine below_set ?_ GE254.out) | exact HB.out)) hb); clear BK254; clear HB; have BK254 := n0_; have HB := n1_; clear n0_ n1_; (try clear hb); (try clear hb2); (try clear hk); (try clear hi); have hcz80_0 : w79.cell? ⟨gb254, 0, none⟩ = some (.int .i64 0) := (blk_cell BK254.out 0).trans rfl; have hcz80_1 : w79.cell? ⟨gb254, 1, none⟩ = some (.int .i64 0) := (blk_cell BK254.out 1).trans rfl; have hcz80_2 : w79.cell? ⟨gb254, 2, none⟩ = some (.int .i64 0) := (blk_cell BK254.out 2).trans rfl; have hcz80_3 : w79.cell? ⟨gb254, 3, none⟩ = some (.string (⟨#[]⟩ : ByteArray)) := (blk_cell BK254.out 3).trans rfl; have hcz80_4 : w79.cell? ⟨gb254, 4, none⟩ = some (.int .i32 0) := (blk_cell BK254.out 4).trans rfl; have hfz80_0 := blk_frozen BK254.out 0; have hfz80_1 := blk_frozen BK254.out 1; have hfz80_2 := blk_frozen BK254.out 2; have hfz80_3 := blk_frozen BK254.out 3; have hfz80_4 := blk_frozen BK254.out 4))
                refine bodyPost_ret (results_ct rfl _ _ gb254 33 #[.int .i64 t286, .int .i64 t287, .int .i64 t288, .string t289, .int .i32 t290] (0, 0) _ rfl (by (with_reducible repeat (first | refine blk_drewN ?_ _ | refine blk_drew ?_ | refine blk_alloc ?_ _)); refine blk_put (cs := #[.int .i64 t286, .int .i64 t287, .int .i64 t288, .string t289, .int .i32 0]) ?_ 4 _ rfl; (with_reducible repeat (first | refine blk_drewN ?_ _ | refine blk_drew ?_ | refine blk_alloc ?_ _)); refine blk_put (cs := #[.int .i64 t286, .int .i64 t287, .int .i64 t288, .string (⟨#[]⟩ : ByteArray), .int .i32 0]) ?_ 3 _ rfl; (with_reducible repeat (first | refine blk_drewN ?_ _ | refine blk_drew ?_ | refine blk_alloc ?_ _)); refine blk_put (cs := #[.int .i64 t286, .int .i64 t287, .int .i64 0, .string (⟨#[]⟩ : ByteArray), .int .i32 0]) ?_ 2 _ rfl; (with_reducible repeat (first | refine blk_drewN ?_ _ | refine blk_drew ?_ | refine blk_alloc ?_ _)); refine blk_put (cs := #[.int .i64 t286, .int .i64 0, .int .i64 0, .string (⟨#[]⟩ : ByteArray), .int .i32 0]) ?_ 1 _ rfl; (with_reducible repeat (first | refine blk_drewN ?_ _ | refine blk_drew ?_ | refine blk_alloc ?_ _)); refine blk_put (cs := #[.int .i64 0, .int .i64 0, .int .i64 0, .string (⟨#[]⟩ : ByteArray), .int .i32 0]) ?_ 0 _ rfl; (with_reducible repeat (first | refine blk_drewN ?_ _ | refine blk_drew ?_ | refine blk_alloc ?_ _)); exact BK254.out) Try.underlying33 rfl (by kernel_rfl)) rfl ?_
                exact ⟨by first | rfl | (simp [errW_none, errW_some] <;> rfl) | (simp only [← hji55, ← hji62]; first | rfl | (simp [errW_none, errW_some] <;> rfl)) | (simp [*, errW_none, errW_some] <;> rfl), by repeat (first | (with_reducible first | exact HB.out | apply below_alloc | apply pw_below_drewN | apply below_drew1 | refine below_set ?_ GE254.out) | exact HB.out)⟩
              ·rw [if_neg c63] at H
               exact absurd H (by simp)
             ·rw [if_neg c61] at H
              have c61b0 : decide ((bt a0 (ji55)) ≤ 126) = false := decide_eq_false c61
              clear c61
              replace H := Option.bind_eq_some_iff.mp H
              obtain ⟨⟨t292, t293, t294, t295, t296, t297⟩, A810, H⟩ := H
              replace H : (some (t292, t293, t294, t295, t296, t297)) = some (r1, r2, r3, r4, r5, r6) := H
              have A81 := Aside0.mk A810
              clear A810
              simp only [Option.some.injEq, Prod.mk.injEq] at H
              obtain ⟨rfl, rfl, rfl, rfl, rfl, rfl⟩ := H
              go_enter Try.func14, Try.ntmps14
              go_wp2_with (first | ((with_reducible refine gate_dst (N := 4) rfl ?_); refine box_event ?hg (N := 4) ?hd (cs := #[.int .i64 0, .int .i64 0, .int .i64 0, .string (⟨#[]⟩ : ByteArray), .int .i32 0]) (t := 33) ?hr ?_; (case hd => rfl); (case hg => rfl); (case hr => first | (go_simp; done) | (go_simp; rfl)); intro gb254 hg w82 hbox hb; have n0_ := Aside0.mk (below_step (by repeat (first | (with_reducible first | exact HB.out | apply below_alloc | apply pw_below_drewN | apply below_drew1) | exact HB.out)) hb); have n1_ := Aside0.mk (hbox); have n2_ := Aside0.mk ((by rw [hg]; exact (below_size (by repeat (first | (with_reducible first | exact HB.out | apply below_alloc | apply pw_below_drewN | apply below_drew1) | exact HB.out))) : w.heap.size ≤ gb254)); have n3_ := Aside0.mk ((by rw [hg]; exact (below_size (by repeat (first | (with_reducible first | exact HB.out | apply below_alloc | apply pw_below_drewN | apply below_drew1) | exact HB.out))) : w.heap.size ≤ gb254)); clear HB; have HB := n0_; have BK254 := n1_; have GW254 := n2_; have GE254 := n3_; clear n0_ n1_ n2_ n3_; clear hb hbox hg) | ((with_reducible refine gate_callee (f := 19) rfl ?_); refine goesL_ (some 15) rfl rfl Try.func19 (by kernel_rfl) rfl #[.string a0, .int .i64 a1] rfl (by (try simp only [List.map_toArray, List.map_cons, List.map_nil]); first | done | rfl | (simp only [List.length_drop, List.length_take]; rfl)) ?_; (with_reducible refine (pascalineref08_blanks.calls k a0 a1 t255 true _ A3.out).mono ?_); rintro e w' ⟨rfl, ⟨nd, rfl⟩⟩; refine ⟨_, rfl, ?_⟩; (try (rw [drewN_self w82]; generalize hq_ : World.drewN w82 _ = w82; have n0_ : Aside0 (w82.heap[gb254]? = some (.cells #[.int .i64 0, .int .i64 0, .int .i64 0, .string (⟨#[]⟩ : ByteArray), .int .i32 0] 33 (0, 0))) := ⟨by rw [← hq_]; exact (by (with_reducible repeat (first | refine blk_drewN ?_ _ | refine blk_drew ?_ | refine blk_alloc ?_ _)); exact BK254.out)⟩; have n1_ : Aside0 (Below w.heap.size w w82) := ⟨by rw [← hq_]; exact (by repeat (first | (with_reducible first | exact HB.out | apply below_alloc | apply pw_below_drewN | apply below_drew1 | refine below_set ?_ GE254.out) | exact HB.out))⟩; clear BK254 HB hq_; have BK254 := n0_; have HB := n1_; clear n0_ n1_)); have p10 : 0 ≤ (t255 : Int) := of_decide_eq_true (by first | (with_reducible assumption) | assumption); have q10 : t255 < (a0.size : Int) := of_decide_eq_true (by first | (with_reducible assumption) | assumption); have hx10 := bt_at a0 t255; replace p10 := eq_true p10; replace q10 := eq_true q10) | ((with_reducible refine gate_callee (f := 21) rfl ?_); refine goesL_ (some 39) rfl rfl Try.func21 (by kernel_rfl) rfl #[.int .u8 (bt a0 t255)] rfl (by (try simp only [List.map_toArray, List.map_cons, List.map_nil]); first | done | rfl | (simp only [List.length_drop, List.length_take]; rfl)) ?_; (with_reducible refine (pascalineref08_letter.calls (bt a0 t255) false _ A11.out).mono ?_); rintro e w' ⟨rfl, ⟨nd, rfl⟩⟩; refine ⟨_, rfl, ?_⟩; (try (rw [drewN_self w82]; generalize hq_ : World.drewN w82 _ = w82; have n0_ : Aside0 (w82.heap[gb254]? = some (.cells #[.int .i64 0, .int .i64 0, .int .i64 0, .string (⟨#[]⟩ : ByteArray), .int .i32 0] 33 (0, 0))) := ⟨by rw [← hq_]; exact (by (with_reducible repeat (first | refine blk_drewN ?_ _ | refine blk_drew ?_ | refine blk_alloc ?_ _)); exact BK254.out)⟩; have n1_ : Aside0 (Below w.heap.size w w82) := ⟨by rw [← hq_]; exact (by repeat (first | (with_reducible first | exact HB.out | apply below_alloc | apply pw_below_drewN | apply below_drew1 | refine below_set ?_ GE254.out) | exact HB.out))⟩; clear BK254 HB hq_; have BK254 := n0_; have HB := n1_; clear n0_ n1_))) | ((with_reducible refine gate_callee (f := 22) rfl ?_); refine goesL_ (some 88) rfl rfl Try.func22 (by kernel_rfl) rfl #[.int .u8 (bt a0 t255)] rfl (by (try simp only [List.map_toArray, List.map_cons, List.map_nil]); first | done | rfl | (simp only [List.length_drop, List.length_take]; rfl)) ?_; (with_reducible refine (pascalineref08_digit.calls (bt a0 t255) false _ A42.out).mono ?_); rintro e w' ⟨rfl, ⟨nd, rfl⟩⟩; refine ⟨_, rfl, ?_⟩; (try (rw [drewN_self w82]; generalize hq_ : World.drewN w82 _ = w82; have n0_ : Aside0 (w82.heap[gb254]? = some (.cells #[.int .i64 0, .int .i64 0, .int .i64 0, .string (⟨#[]⟩ : ByteArray), .int .i32 0] 33 (0, 0))) := ⟨by rw [← hq_]; exact (by (with_reducible repeat (first | refine blk_drewN ?_ _ | refine blk_drew ?_ | refine blk_alloc ?_ _)); exact BK254.out)⟩; have n1_ : Aside0 (Below w.heap.size w w82) := ⟨by rw [← hq_]; exact (by repeat (first | (with_reducible first | exact HB.out | apply below_alloc | apply pw_below_drewN | apply below_drew1 | refine below_set ?_ GE254.out) | exact HB.out))⟩; clear BK254 HB hq_; have BK254 := n0_; have HB := n1_; clear n0_ n1_)); have p58 : 0 ≤ ((ji55) : Int) := of_decide_eq_true (by first | (with_reducible assumption) | assumption); have q58 : (ji55) < (a0.size : Int) := of_decide_eq_true (by first | (with_reducible assumption) | assumption); have hx58 := bt_at a0 (ji55); replace p58 := eq_true p58; replace q58 := eq_true q58; have p60 : 0 ≤ ((ji55) : Int) := of_decide_eq_true (by first | (with_reducible assumption) | assumption); have q60 : (ji55) < (a0.size : Int) := of_decide_eq_true (by first | (with_reducible assumption) | assumption); have hx60 := bt_at a0 (ji55); replace p60 := eq_true p60; replace q60 := eq_true q60) | ((with_reducible refine gate_callee (f := 20) rfl ?_); refine goesL_ (some 148) rfl rfl Try.func20 (by kernel_rfl) rfl #[.int .i64 t255, .int .i64 ji55, .int .i64 82] rfl (by (try simp only [List.map_toArray, List.map_cons, List.map_nil]); first | done | (simp only [hji55]; rfl) | rfl | (simp only [List.length_drop, List.length_take]; rfl)) ?_; (with_reducible refine (pascalineref08_bad.calls t255 ji55 82 t292 t293 t294 t295 t296 t297 _ A81.out).mono ?_); rintro e w83 ⟨rfl, hb⟩; refine ⟨_, rfl, ?_⟩; have n0_ := Aside0.mk (blk_below (g := gb254) (o := .cells #[.int .i64 0, .int .i64 0, .int .i64 0, .string (⟨#[]⟩ : ByteArray), .int .i32 0] 33 (0, 0)) (by (with_reducible repeat (first | refine blk_drewN ?_ _ | refine blk_drew ?_ | refine blk_alloc ?_ _)); exact BK254.out) hb); have n1_ := Aside0.mk (below_step (by repeat (first | (with_reducible first | exact HB.out | apply below_alloc | apply pw_below_drewN | apply below_drew1 | refine below_set ?_ GE254.out) | exact HB.out)) hb); clear BK254; clear HB; have BK254 := n0_; have HB := n1_; clear n0_ n1_; (try clear hb); (try clear hb2); (try clear hk); (try clear hi); have hcz84_0 : w83.cell? ⟨gb254, 0, none⟩ = some (.int .i64 0) := (blk_cell BK254.out 0).trans rfl; have hcz84_1 : w83.cell? ⟨gb254, 1, none⟩ = some (.int .i64 0) := (blk_cell BK254.out 1).trans rfl; have hcz84_2 : w83.cell? ⟨gb254, 2, none⟩ = some (.int .i64 0) := (blk_cell BK254.out 2).trans rfl; have hcz84_3 : w83.cell? ⟨gb254, 3, none⟩ = some (.string (⟨#[]⟩ : ByteArray)) := (blk_cell BK254.out 3).trans rfl; have hcz84_4 : w83.cell? ⟨gb254, 4, none⟩ = some (.int .i32 0) := (blk_cell BK254.out 4).trans rfl; have hfz84_0 := blk_frozen BK254.out 0; have hfz84_1 := blk_frozen BK254.out 1; have hfz84_2 := blk_frozen BK254.out 2; have hfz84_3 := blk_frozen BK254.out 3; have hfz84_4 := blk_frozen BK254.out 4))
              refine bodyPost_ret (results_ct rfl _ _ gb254 33 #[.int .i64 t292, .int .i64 t293, .int .i64 t294, .string t295, .int .i32 t296] (0, 0) _ rfl (by (with_reducible repeat (first | refine blk_drewN ?_ _ | refine blk_drew ?_ | refine blk_alloc ?_ _)); refine blk_put (cs := #[.int .i64 t292, .int .i64 t293, .int .i64 t294, .string t295, .int .i32 0]) ?_ 4 _ rfl; (with_reducible repeat (first | refine blk_drewN ?_ _ | refine blk_drew ?_ | refine blk_alloc ?_ _)); refine blk_put (cs := #[.int .i64 t292, .int .i64 t293, .int .i64 t294, .string (⟨#[]⟩ : ByteArray), .int .i32 0]) ?_ 3 _ rfl; (with_reducible repeat (first | refine blk_drewN ?_ _ | refine blk_drew ?_ | refine blk_alloc ?_ _)); refine blk_put (cs := #[.int .i64 t292, .int .i64 t293, .int .i64 0, .string (⟨#[]⟩ : ByteArray), .int .i32 0]) ?_ 2 _ rfl; (with_reducible repeat (first | refine blk_drewN ?_ _ | refine blk_drew ?_ | refine blk_alloc ?_ _)); refine blk_put (cs := #[.int .i64 t292, .int .i64 0, .int .i64 0, .string (⟨#[]⟩ : ByteArray), .int .i32 0]) ?_ 1 _ rfl; (with_reducible repeat (first | refine blk_drewN ?_ _ | refine blk_drew ?_ | refine blk_alloc ?_ _)); refine blk_put (cs := #[.int .i64 0, .int .i64 0, .int .i64 0, .string (⟨#[]⟩ : ByteArray), .int .i32 0]) ?_ 0 _ rfl; (with_reducible repeat (first | refine blk_drewN ?_ _ | refine blk_drew ?_ | refine blk_alloc ?_ _)); exact BK254.out) Try.underlying33 rfl (by kernel_rfl)) rfl ?_
              exact ⟨by first | rfl | (simp [errW_none, errW_some] <;> rfl) | (simp only [← hji55]; first | rfl | (simp [errW_none, errW_some] <;> rfl)) | (simp [*, errW_none, errW_some] <;> rfl), by repeat (first | (with_reducible first | exact HB.out | apply below_alloc | apply pw_below_drewN | apply below_drew1 | refine below_set ?_ GE254.out) | exact HB.out)⟩
            ·rw [if_neg c59] at H
             have c59b0 : decide (32 ≤ (bt a0 (ji55))) = false := decide_eq_false c59
             clear c59
             replace H := Option.bind_eq_some_iff.mp H
             obtain ⟨⟨t298, t299, t300, t301, t302, t303⟩, A850, H⟩ := H
             replace H : (some (t298, t299, t300, t301, t302, t303)) = some (r1, r2, r3, r4, r5, r6) := H
             have A85 := Aside0.mk A850
             clear A850
             simp only [Option.some.injEq, Prod.mk.injEq] at H
             obtain ⟨rfl, rfl, rfl, rfl, rfl, rfl⟩ := H
             go_enter Try.func14, Try.ntmps14
             go_wp2_with (first | ((with_reducible refine gate_dst (N := 4) rfl ?_); refine box_event ?hg (N := 4) ?hd (cs := #[.int .i64 0, .int .i64 0, .int .i64 0, .string (⟨#[]⟩ : ByteArray), .int .i32 0]) (t := 33) ?hr ?_; (case hd => rfl); (case hg => rfl); (case hr => first | (go_simp; done) | (go_simp; rfl)); intro gb254 hg w86 hbox hb; have n0_ := Aside0.mk (below_step (by repeat (first | (with_reducible first | exact HB.out | apply below_alloc | apply pw_below_drewN | apply below_drew1) | exact HB.out)) hb); have n1_ := Aside0.mk (hbox); have n2_ := Aside0.mk ((by rw [hg]; exact (below_size (by repeat (first | (with_reducible first | exact HB.out | apply below_alloc | apply pw_below_drewN | apply below_drew1) | exact HB.out))) : w.heap.size ≤ gb254)); have n3_ := Aside0.mk ((by rw [hg]; exact (below_size (by repeat (first | (with_reducible first | exact HB.out | apply below_alloc | apply pw_below_drewN | apply below_drew1) | exact HB.out))) : w.heap.size ≤ gb254)); clear HB; have HB := n0_; have BK254 := n1_; have GW254 := n2_; have GE254 := n3_; clear n0_ n1_ n2_ n3_; clear hb hbox hg) | ((with_reducible refine gate_callee (f := 19) rfl ?_); refine goesL_ (some 15) rfl rfl Try.func19 (by kernel_rfl) rfl #[.string a0, .int .i64 a1] rfl (by (try simp only [List.map_toArray, List.map_cons, List.map_nil]); first | done | rfl | (simp only [List.length_drop, List.length_take]; rfl)) ?_; (with_reducible refine (pascalineref08_blanks.calls k a0 a1 t255 true _ A3.out).mono ?_); rintro e w' ⟨rfl, ⟨nd, rfl⟩⟩; refine ⟨_, rfl, ?_⟩; (try (rw [drewN_self w86]; generalize hq_ : World.drewN w86 _ = w86; have n0_ : Aside0 (w86.heap[gb254]? = some (.cells #[.int .i64 0, .int .i64 0, .int .i64 0, .string (⟨#[]⟩ : ByteArray), .int .i32 0] 33 (0, 0))) := ⟨by rw [← hq_]; exact (by (with_reducible repeat (first | refine blk_drewN ?_ _ | refine blk_drew ?_ | refine blk_alloc ?_ _)); exact BK254.out)⟩; have n1_ : Aside0 (Below w.heap.size w w86) := ⟨by rw [← hq_]; exact (by repeat (first | (with_reducible first | exact HB.out | apply below_alloc | apply pw_below_drewN | apply below_drew1 | refine below_set ?_ GE254.out) | exact HB.out))⟩; clear BK254 HB hq_; have BK254 := n0_; have HB := n1_; clear n0_ n1_)); have p10 : 0 ≤ (t255 : Int) := of_decide_eq_true (by first | (with_reducible assumption) | assumption); have q10 : t255 < (a0.size : Int) := of_decide_eq_true (by first | (with_reducible assumption) | assumption); have hx10 := bt_at a0 t255; replace p10 := eq_true p10; replace q10 := eq_true q10) | ((with_reducible refine gate_callee (f := 21) rfl ?_); refine goesL_ (some 39) rfl rfl Try.func21 (by kernel_rfl) rfl #[.int .u8 (bt a0 t255)] rfl (by (try simp only [List.map_toArray, List.map_cons, List.map_nil]); first | done | rfl | (simp only [List.length_drop, List.length_take]; rfl)) ?_; (with_reducible refine (pascalineref08_letter.calls (bt a0 t255) false _ A11.out).mono ?_); rintro e w' ⟨rfl, ⟨nd, rfl⟩⟩; refine ⟨_, rfl, ?_⟩; (try (rw [drewN_self w86]; generalize hq_ : World.drewN w86 _ = w86; have n0_ : Aside0 (w86.heap[gb254]? = some (.cells #[.int .i64 0, .int .i64 0, .int .i64 0, .string (⟨#[]⟩ : ByteArray), .int .i32 0] 33 (0, 0))) := ⟨by rw [← hq_]; exact (by (with_reducible repeat (first | refine blk_drewN ?_ _ | refine blk_drew ?_ | refine blk_alloc ?_ _)); exact BK254.out)⟩; have n1_ : Aside0 (Below w.heap.size w w86) := ⟨by rw [← hq_]; exact (by repeat (first | (with_reducible first | exact HB.out | apply below_alloc | apply pw_below_drewN | apply below_drew1 | refine below_set ?_ GE254.out) | exact HB.out))⟩; clear BK254 HB hq_; have BK254 := n0_; have HB := n1_; clear n0_ n1_))) | ((with_reducible refine gate_callee (f := 22) rfl ?_); refine goesL_ (some 88) rfl rfl Try.func22 (by kernel_rfl) rfl #[.int .u8 (bt a0 t255)] rfl (by (try simp only [List.map_toArray, List.map_cons, List.map_nil]); first | done | rfl | (simp only [List.length_drop, List.length_take]; rfl)) ?_; (with_reducible refine (pascalineref08_digit.calls (bt a0 t255) false _ A42.out).mono ?_); rintro e w' ⟨rfl, ⟨nd, rfl⟩⟩; refine ⟨_, rfl, ?_⟩; (try (rw [drewN_self w86]; generalize hq_ : World.drewN w86 _ = w86; have n0_ : Aside0 (w86.heap[gb254]? = some (.cells #[.int .i64 0, .int .i64 0, .int .i64 0, .string (⟨#[]⟩ : ByteArray), .int .i32 0] 33 (0, 0))) := ⟨by rw [← hq_]; exact (by (with_reducible repeat (first | refine blk_drewN ?_ _ | refine blk_drew ?_ | refine blk_alloc ?_ _)); exact BK254.out)⟩; have n1_ : Aside0 (Below w.heap.size w w86) := ⟨by rw [← hq_]; exact (by repeat (first | (with_reducible first | exact HB.out | apply below_alloc | apply pw_below_drewN | apply below_drew1 | refine below_set ?_ GE254.out) | exact HB.out))⟩; clear BK254 HB hq_; have BK254 := n0_; have HB := n1_; clear n0_ n1_)); have p58 : 0 ≤ ((ji55) : Int) := of_decide_eq_true (by first | (with_reducible assumption) | assumption); have q58 : (ji55) < (a0.size : Int) := of_decide_eq_true (by first | (with_reducible assumption) | assumption); have hx58 := bt_at a0 (ji55); replace p58 := eq_true p58; replace q58 := eq_true q58) | ((with_reducible refine gate_callee (f := 20) rfl ?_); refine goesL_ (some 148) rfl rfl Try.func20 (by kernel_rfl) rfl #[.int .i64 t255, .int .i64 ji55, .int .i64 82] rfl (by (try simp only [List.map_toArray, List.map_cons, List.map_nil]); first | done | (simp only [hji55]; rfl) | rfl | (simp only [List.length_drop, List.length_take]; rfl)) ?_; (with_reducible refine (pascalineref08_bad.calls t255 ji55 82 t298 t299 t300 t301 t302 t303 _ A85.out).mono ?_); rintro e w87 ⟨rfl, hb⟩; refine ⟨_, rfl, ?_⟩; have n0_ := Aside0.mk (blk_below (g := gb254) (o := .cells #[.int .i64 0, .int .i64 0, .int .i64 0, .string (⟨#[]⟩ : ByteArray), .int .i32 0] 33 (0, 0)) (by (with_reducible repeat (first | refine blk_drewN ?_ _ | refine blk_drew ?_ | refine blk_alloc ?_ _)); exact BK254.out) hb); have n1_ := Aside0.mk (below_step (by repeat (first | (with_reducible first | exact HB.out | apply below_alloc | apply pw_below_drewN | apply below_drew1 | refine below_set ?_ GE254.out) | exact HB.out)) hb); clear BK254; clear HB; have BK254 := n0_; have HB := n1_; clear n0_ n1_; (try clear hb); (try clear hb2); (try clear hk); (try clear hi); have hcz88_0 : w87.cell? ⟨gb254, 0, none⟩ = some (.int .i64 0) := (blk_cell BK254.out 0).trans rfl; have hcz88_1 : w87.cell? ⟨gb254, 1, none⟩ = some (.int .i64 0) := (blk_cell BK254.out 1).trans rfl; have hcz88_2 : w87.cell? ⟨gb254, 2, none⟩ = some (.int .i64 0) := (blk_cell BK254.out 2).trans rfl; have hcz88_3 : w87.cell? ⟨gb254, 3, none⟩ = some (.string (⟨#[]⟩ : ByteArray)) := (blk_cell BK254.out 3).trans rfl; have hcz88_4 : w87.cell? ⟨gb254, 4, none⟩ = some (.int .i32 0) := (blk_cell BK254.out 4).trans rfl; have hfz88_0 := blk_frozen BK254.out 0; have hfz88_1 := blk_frozen BK254.out 1; have hfz88_2 := blk_frozen BK254.out 2; have hfz88_3 := blk_frozen BK254.out 3; have hfz88_4 := blk_frozen BK254.out 4))
             refine bodyPost_ret (results_ct rfl _ _ gb254 33 #[.int .i64 t298, .int .i64 t299, .int .i64 t300, .string t301, .int .i32 t302] (0, 0) _ rfl (by (with_reducible repeat (first | refine blk_drewN ?_ _ | refine blk_drew ?_ | refine blk_alloc ?_ _)); refine blk_put (cs := #[.int .i64 t298, .int .i64 t299, .int .i64 t300, .string t301, .int .i32 0]) ?_ 4 _ rfl; (with_reducible repeat (first | refine blk_drewN ?_ _ | refine blk_drew ?_ | refine blk_alloc ?_ _)); refine blk_put (cs := #[.int .i64 t298, .int .i64 t299, .int .i64 t300, .string (⟨#[]⟩ : ByteArray), .int .i32 0]) ?_ 3 _ rfl; (with_reducible repeat (first | refine blk_drewN ?_ _ | refine blk_drew ?_ | refine blk_alloc ?_ _)); refine blk_put (cs := #[.int .i64 t298, .int .i64 t299, .int .i64 0, .string (⟨#[]⟩ : ByteArray), .int .i32 0]) ?_ 2 _ rfl; (with_reducible repeat (first | refine blk_drewN ?_ _ | refine blk_drew ?_ | refine blk_alloc ?_ _)); refine blk_put (cs := #[.int .i64 t298, .int .i64 0, .int .i64 0, .string (⟨#[]⟩ : ByteArray), .int .i32 0]) ?_ 1 _ rfl; (with_reducible repeat (first | refine blk_drewN ?_ _ | refine blk_drew ?_ | refine blk_alloc ?_ _)); refine blk_put (cs := #[.int .i64 0, .int .i64 0, .int .i64 0, .string (⟨#[]⟩ : ByteArray), .int .i32 0]) ?_ 0 _ rfl; (with_reducible repeat (first | refine blk_drewN ?_ _ | refine blk_drew ?_ | refine blk_alloc ?_ _)); exact BK254.out) Try.underlying33 rfl (by kernel_rfl)) rfl ?_
             exact ⟨by first | rfl | (simp [errW_none, errW_some] <;> rfl) | (simp only [← hji55]; first | rfl | (simp [errW_none, errW_some] <;> rfl)) | (simp [*, errW_none, errW_some] <;> rfl), by repeat (first | (with_reducible first | exact HB.out | apply below_alloc | apply pw_below_drewN | apply below_drew1 | refine below_set ?_ GE254.out) | exact HB.out)⟩
           ·rw [if_neg c57] at H
            exact absurd H (by simp)
          ·rw [if_neg c56] at H
           exact absurd H (by simp)
         ·rw [if_neg c54] at H
          have c54b0 : decide ((wrap64 (t255 + 2)) < (a0.size : Int)) = false := decide_eq_false c54
          clear c54
          replace H := Option.bind_eq_some_iff.mp H
          obtain ⟨⟨t304, t305, t306, t307, t308, t309⟩, A890, H⟩ := H
          replace H : (some (t304, t305, t306, t307, t308, t309)) = some (r1, r2, r3, r4, r5, r6) := H
          have A89 := Aside0.mk A890
          clear A890
          simp only [Option.some.injEq, Prod.mk.injEq] at H
          obtain ⟨rfl, rfl, rfl, rfl, rfl, rfl⟩ := H
          go_enter Try.func14, Try.ntmps14
          go_wp2_with (first | ((with_reducible refine gate_dst (N := 4) rfl ?_); refine box_event ?hg (N := 4) ?hd (cs := #[.int .i64 0, .int .i64 0, .int .i64 0, .string (⟨#[]⟩ : ByteArray), .int .i32 0]) (t := 33) ?hr ?_; (case hd => rfl); (case hg => rfl); (case hr => first | (go_simp; done) | (go_simp; rfl)); intro gb254 hg w90 hbox hb; have n0_ := Aside0.mk (below_step (by repeat (first | (with_reducible first | exact HB.out | apply below_alloc | apply pw_below_drewN | apply below_drew1) | exact HB.out)) hb); have n1_ := Aside0.mk (hbox); have n2_ := Aside0.mk ((by rw [hg]; exact (below_size (by repeat (first | (with_reducible first | exact HB.out | apply below_alloc | apply pw_below_drewN | apply below_drew1) | exact HB.out))) : w.heap.size ≤ gb254)); have n3_ := Aside0.mk ((by rw [hg]; exact (below_size (by repeat (first | (with_reducible first | exact HB.out | apply below_alloc | apply pw_below_drewN | apply below_drew1) | exact HB.out))) : w.heap.size ≤ gb254)); clear HB; have HB := n0_; have BK254 := n1_; have GW254 := n2_; have GE254 := n3_; clear n0_ n1_ n2_ n3_; clear hb hbox hg) | ((with_reducible refine gate_callee (f := 19) rfl ?_); refine goesL_ (some 15) rfl rfl Try.func19 (by kernel_rfl) rfl #[.string a0, .int .i64 a1] rfl (by (try simp only [List.map_toArray, List.map_cons, List.map_nil]); first | done | rfl | (simp only [List.length_drop, List.length_take]; rfl)) ?_; (with_reducible refine (pascalineref08_blanks.calls k a0 a1 t255 true _ A3.out).mono ?_); rintro e w' ⟨rfl, ⟨nd, rfl⟩⟩; refine ⟨_, rfl, ?_⟩; (try (rw [drewN_self w90]; generalize hq_ : World.drewN w90 _ = w90; have n0_ : Aside0 (w90.heap[gb254]? = some (.cells #[.int .i64 0, .int .i64 0, .int .i64 0, .string (⟨#[]⟩ : ByteArray), .int .i32 0] 33 (0, 0))) := ⟨by rw [← hq_]; exact (by (with_reducible repeat (first | refine blk_drewN ?_ _ | refine blk_drew ?_ | refine blk_alloc ?_ _)); exact BK254.out)⟩; have n1_ : Aside0 (Below w.heap.size w w90) := ⟨by rw [← hq_]; exact (by repeat (first | (with_reducible first | exact HB.out | apply below_alloc | apply pw_below_drewN | apply below_drew1 | refine below_set ?_ GE254.out) | exact HB.out))⟩; clear BK254 HB hq_; have BK254 := n0_; have HB := n1_; clear n0_ n1_)); have p10 : 0 ≤ (t255 : Int) := of_decide_eq_true (by first | (with_reducible assumption) | assumption); have q10 : t255 < (a0.size : Int) := of_decide_eq_true (by first | (with_reducible assumption) | assumption); have hx10 := bt_at a0 t255; replace p10 := eq_true p10; replace q10 := eq_true q10) | ((with_reducible refine gate_callee (f := 21) rfl ?_); refine goesL_ (some 39) rfl rfl Try.func21 (by kernel_rfl) rfl #[.int .u8 (bt a0 t255)] rfl (by (try simp only [List.map_toArray, List.map_cons, List.map_nil]); first | done | rfl | (simp only [List.length_drop, List.length_take]; rfl)) ?_; (with_reducible refine (pascalineref08_letter.calls (bt a0 t255) false _ A11.out).mono ?_); rintro e w' ⟨rfl, ⟨nd, rfl⟩⟩; refine ⟨_, rfl, ?_⟩; (try (rw [drewN_self w90]; generalize hq_ : World.drewN w90 _ = w90; have n0_ : Aside0 (w90.heap[gb254]? = some (.cells #[.int .i64 0, .int .i64 0, .int .i64 0, .string (⟨#[]⟩ : ByteArray), .int .i32 0] 33 (0, 0))) := ⟨by rw [← hq_]; exact (by (with_reducible repeat (first | refine blk_drewN ?_ _ | refine blk_drew ?_ | refine blk_alloc ?_ _)); exact BK254.out)⟩; have n1_ : Aside0 (Below w.heap.size w w90) := ⟨by rw [← hq_]; exact (by repeat (first | (with_reducible first | exact HB.out | apply below_alloc | apply pw_below_drewN | apply below_drew1 | refine below_set ?_ GE254.out) | exact HB.out))⟩; clear BK254 HB hq_; have BK254 := n0_; have HB := n1_; clear n0_ n1_))) | ((with_reducible refine gate_callee (f := 22) rfl ?_); refine goesL_ (some 88) rfl rfl Try.func22 (by kernel_rfl) rfl #[.int .u8 (bt a0 t255)] rfl (by (try simp only [List.map_toArray, List.map_cons, List.map_nil]); first | done | rfl | (simp only [List.length_drop, List.length_take]; rfl)) ?_; (with_reducible refine (pascalineref08_digit.calls (bt a0 t255) false _ A42.out).mono ?_); rintro e w' ⟨rfl, ⟨nd, rfl⟩⟩; refine ⟨_, rfl, ?_⟩; (try (rw [drewN_self w90]; generalize hq_ : World.drewN w90 _ = w90; have n0_ : Aside0 (w90.heap[gb254]? = some (.cells #[.int .i64 0, .int .i64 0, .int .i64 0, .string (⟨#[]⟩ : ByteArray), .int .i32 0] 33 (0, 0))) := ⟨by rw [← hq_]; exact (by (with_reducible repeat (first | refine blk_drewN ?_ _ | refine blk_drew ?_ | refine blk_alloc ?_ _)); exact BK254.out)⟩; have n1_ : Aside0 (Below w.heap.size w w90) := ⟨by rw [← hq_]; exact (by repeat (first | (with_reducible first | exact HB.out | apply below_alloc | apply pw_below_drewN | apply below_drew1 | refine below_set ?_ GE254.out) | exact HB.out))⟩; clear BK254 HB hq_; have BK254 := n0_; have HB := n1_; clear n0_ n1_))) | ((with_reducible refine gate_callee (f := 20) rfl ?_); refine goesL_ (some 148) rfl rfl Try.func20 (by kernel_rfl) rfl #[.int .i64 t255, .int .i64 (wrap64 (t255 + 1)), .int .i64 82] rfl (by (try simp only [List.map_toArray, List.map_cons, List.map_nil]); first | done | rfl | (simp only [List.length_drop, List.length_take]; rfl)) ?_; (with_reducible refine (pascalineref08_bad.calls t255 (wrap64 (t255 + 1)) 82 t304 t305 t306 t307 t308 t309 _ A89.out).mono ?_); rintro e w91 ⟨rfl, hb⟩; refine ⟨_, rfl, ?_⟩; have n0_ := Aside0.mk (blk_below (g := gb254) (o := .cells #[.int .i64 0, .int .i64 0, .int .i64 0, .string (⟨#[]⟩ : ByteArray), .int .i32 0] 33 (0, 0)) (by (with_reducible repeat (first | refine blk_drewN ?_ _ | refine blk_drew ?_ | refine blk_alloc ?_ _)); exact BK254.out) hb); have n1_ := Aside0.mk (below_step (by repeat (first | (with_reducible first | exact HB.out | apply below_alloc | apply pw_below_drewN | apply below_drew1 | refine below_set ?_ GE254.out) | exact HB.out)) hb); clear BK254; clear HB; have BK254 := n0_; have HB := n1_; clear n0_ n1_; (try clear hb); (try clear hb2); (try clear hk); (try clear hi); have hcz92_0 : w91.cell? ⟨gb254, 0, none⟩ = some (.int .i64 0) := (blk_cell BK254.out 0).trans rfl; have hcz92_1 : w91.cell? ⟨gb254, 1, none⟩ = some (.int .i64 0) := (blk_cell BK254.out 1).trans rfl; have hcz92_2 : w91.cell? ⟨gb254, 2, none⟩ = some (.int .i64 0) := (blk_cell BK254.out 2).trans rfl; have hcz92_3 : w91.cell? ⟨gb254, 3, none⟩ = some (.string (⟨#[]⟩ : ByteArray)) := (blk_cell BK254.out 3).trans rfl; have hcz92_4 : w91.cell? ⟨gb254, 4, none⟩ = some (.int .i32 0) := (blk_cell BK254.out 4).trans rfl; have hfz92_0 := blk_frozen BK254.out 0; have hfz92_1 := blk_frozen BK254.out 1; have hfz92_2 := blk_frozen BK254.out 2; have hfz92_3 := blk_frozen BK254.out 3; have hfz92_4 := blk_frozen BK254.out 4))
          refine bodyPost_ret (results_ct rfl _ _ gb254 33 #[.int .i64 t304, .int .i64 t305, .int .i64 t306, .string t307, .int .i32 t308] (0, 0) _ rfl (by (with_reducible repeat (first | refine blk_drewN ?_ _ | refine blk_drew ?_ | refine blk_alloc ?_ _)); refine blk_put (cs := #[.int .i64 t304, .int .i64 t305, .int .i64 t306, .string t307, .int .i32 0]) ?_ 4 _ rfl; (with_reducible repeat (first | refine blk_drewN ?_ _ | refine blk_drew ?_ | refine blk_alloc ?_ _)); refine blk_put (cs := #[.int .i64 t304, .int .i64 t305, .int .i64 t306, .string (⟨#[]⟩ : ByteArray), .int .i32 0]) ?_ 3 _ rfl; (with_reducible repeat (first | refine blk_drewN ?_ _ | refine blk_drew ?_ | refine blk_alloc ?_ _)); refine blk_put (cs := #[.int .i64 t304, .int .i64 t305, .int .i64 0, .string (⟨#[]⟩ : ByteArray), .int .i32 0]) ?_ 2 _ rfl; (with_reducible repeat (first | refine blk_drewN ?_ _ | refine blk_drew ?_ | refine blk_alloc ?_ _)); refine blk_put (cs := #[.int .i64 t304, .int .i64 0, .int .i64 0, .string (⟨#[]⟩ : ByteArray), .int .i32 0]) ?_ 1 _ rfl; (with_reducible repeat (first | refine blk_drewN ?_ _ | refine blk_drew ?_ | refine blk_alloc ?_ _)); refine blk_put (cs := #[.int .i64 0, .int .i64 0, .int .i64 0, .string (⟨#[]⟩ : ByteArray), .int .i32 0]) ?_ 0 _ rfl; (with_reducible repeat (first | refine blk_drewN ?_ _ | refine blk_drew ?_ | refine blk_alloc ?_ _)); exact BK254.out) Try.underlying33 rfl (by kernel_rfl)) rfl ?_
          exact ⟨by first | rfl | (simp [errW_none, errW_some] <;> rfl) | (simp [*, errW_none, errW_some] <;> rfl), by repeat (first | (with_reducible first | exact HB.out | apply below_alloc | apply pw_below_drewN | apply below_drew1 | refine below_set ?_ GE254.out) | exact HB.out)⟩
        ·rw [if_neg c53] at H
         have c53b0 : ((bt a0 t255) == 39) = false := beq_eq_false_iff_ne.mpr c53
         have c53b1 : ((bt a0 t255) != 39) = true := bne_iff_ne.mpr c53
         by_cases c93 : (bt a0 t255) = 34
         ·rw [if_pos c93] at H
          have c93b0 : ((bt a0 t255) == 34) = true := beq_iff_eq.mpr c93
          have c93b1 : ((bt a0 t255) != 34) = false := bne_eq_false_iff_eq.mpr c93
          clear c93
          have H' := Aside0.mk H
          clear H
          go_enter Try.func14, Try.ntmps14
          go_wp2_with (first | ((with_reducible refine gate_dst (N := 4) rfl ?_); refine box_event ?hg (N := 4) ?hd (cs := #[.int .i64 0, .int .i64 0, .int .i64 0, .string (⟨#[]⟩ : ByteArray), .int .i32 0]) (t := 33) ?hr ?_; (case hd => rfl); (case hg => rfl); (case hr => first | (go_simp; done) | (go_simp; rfl)); intro gb254 hg w94 hbox hb; have n0_ := Aside0.mk (below_step (by repeat (first | (with_reducible first | exact HB.out | apply below_alloc | apply pw_below_drewN | apply below_drew1) | exact HB.out)) hb); have n1_ := Aside0.mk (hbox); have n2_ := Aside0.mk ((by rw [hg]; exact (below_size (by repeat (first | (with_reducible first | exact HB.out | apply below_alloc | apply pw_below_drewN | apply below_drew1) | exact HB.out))) : w.heap.size ≤ gb254)); have n3_ := Aside0.mk ((by rw [hg]; exact (below_size (by repeat (first | (with_reducible first | exact HB.out | apply below_alloc | apply pw_below_drewN | apply below_drew1) | exact HB.out))) : w.heap.size ≤ gb254)); clear HB; have HB := n0_; have BK254 := n1_; have GW254 := n2_; have GE254 := n3_; clear n0_ n1_ n2_ n3_; clear hb hbox hg) | ((with_reducible refine gate_callee (f := 19) rfl ?_); refine goesL_ (some 15) rfl rfl Try.func19 (by kernel_rfl) rfl #[.string a0, .int .i64 a1] rfl (by (try simp only [List.map_toArray, List.map_cons, List.map_nil]); first | done | rfl | (simp only [List.length_drop, List.length_take]; rfl)) ?_; (with_reducible refine (pascalineref08_blanks.calls k a0 a1 t255 true _ A3.out).mono ?_); rintro e w' ⟨rfl, ⟨nd, rfl⟩⟩; refine ⟨_, rfl, ?_⟩; have p10 : 0 ≤ (t255 : Int) := of_decide_eq_true (by first | (with_reducible assumption) | assumption); have q10 : t255 < (a0.size : Int) := of_decide_eq_true (by first | (with_reducible assumption) | assumption); have hx10 := bt_at a0 t255; replace p10 := eq_true p10; replace q10 := eq_true q10) | ((with_reducible refine gate_callee (f := 21) rfl ?_); refine goesL_ (some 39) rfl rfl Try.func21 (by kernel_rfl) rfl #[.int .u8 (bt a0 t255)] rfl (by (try simp only [List.map_toArray, List.map_cons, List.map_nil]); first | done | rfl | (simp only [List.length_drop, List.length_take]; rfl)) ?_; (with_reducible refine (pascalineref08_letter.calls (bt a0 t255) false _ A11.out).mono ?_); rintro e w' ⟨rfl, ⟨nd, rfl⟩⟩; refine ⟨_, rfl, ?_⟩) | ((with_reducible refine gate_callee (f := 22) rfl ?_); refine goesL_ (some 88) rfl rfl Try.func22 (by kernel_rfl) rfl #[.int .u8 (bt a0 t255)] rfl (by (try simp only [List.map_toArray, List.map_cons, List.map_nil]); first | done | rfl | (simp only [List.length_drop, List.length_take]; rfl)) ?_; (with_reducible refine (pascalineref08_digit.calls (bt a0 t255) false _ A42.out).mono ?_); rintro e w' ⟨rfl, ⟨nd, rfl⟩⟩; refine ⟨_, rfl, ?_⟩))
          go_loopg [8] k (fun kq v8 w' => ∃ (x8_1 : Int), v8 = .int .i64 x8_1 ∧ Aside0 (pascalineref08_Next.l1 kq a0 t255 x8_1 = some (r1, r2, r3, r4, r5, r6)) ∧ Aside0 (kq ≤ k) ∧ Aside0 (w'.heap[gb254]? = some (.cells #[.int .i64 0, .int .i64 0, .int .i64 0, .string (⟨#[]⟩ : ByteArray), .int .i32 0] 33 (0, 0))) ∧ Aside0 (Below w.heap.size w w'))
          case atStart => exact ⟨(wrap64 (t255 + 1)), (by first | rfl | (simp; done) | (simp [*]; done)), H', ⟨Nat.le_refl _⟩, ⟨by (with_reducible repeat (first | refine blk_drewN ?_ _ | refine blk_drew ?_ | refine blk_alloc ?_ _)); exact BK254.out⟩, ⟨by repeat (first | (with_reducible first | exact HB.out | apply below_alloc | apply pw_below_drewN | apply below_drew1 | refine below_set ?_ GE254.out) | exact HB.out)⟩⟩
          case round =>
           clear H'
           try clear c1
           try clear p1
           try clear q1
           try clear hx1
           try clear c2
           try clear p2
           try clear q2
           try clear hx2
           try clear c3
           try clear p3
           try clear c4
           try clear c5
           try clear c5b0
           try clear c5b1
           try clear p5
           try clear q5
           try clear hx5
           try clear c6
           try clear p6
           try clear q6
           try clear hx6
           try clear c8
           try clear c8b0
           try clear c9
           try clear c9b0
           try clear p10
           try clear q10
           try clear hx10
           try clear c12
           try clear c14
           try clear c15
           try clear c15b0
           try clear c16
           try clear c16b0
           try clear p17
           try clear q17
           try clear hx17
           try clear c19
           try clear c20
           try clear p20
           try clear q20
           try clear hx20
           try clear c21
           try clear c22
           try clear c23
           try clear c23b0
           try clear c24
           try clear c27
           try clear c27b0
           try clear c27b1
           try clear c28
           try clear c28b0
           try clear c28b1
           try clear c29
           try clear c29b0
           try clear c29b1
           try clear c31
           try clear c32
           try clear c32b0
           try clear p32
           try clear c33
           try clear c33b0
           try clear c34
           try clear c34b0
           try clear c37
           try clear c37b0
           try clear c38
           try clear c38b0
           try clear c39
           try clear c39b0
           try clear c43
           try clear c48
           try clear c48b0
           try clear c48b1
           try clear c53
           try clear c53b0
           try clear c53b1
           try clear c54
           try clear c54b0
           try clear c56
           try clear c56b0
           try clear c57
           try clear c57b0
           try clear p58
           try clear q58
           try clear hx58
           try clear c59
           try clear c59b0
           try clear p60
           try clear q60
           try clear hx60
           try clear c61
           try clear c61b0
           try clear c63
           try clear c63b0
           try clear p64
           try clear q64
           try clear hx64
           try clear c65
           try clear c65b0
           try clear c65b1
           try clear c66
           try clear c66b0
           try clear c67
           try clear c67b0
           try clear c67b1
           try clear c68
           try clear c68b0
           try clear c68b1
           try clear p69
           try clear q69
           try clear hx69
           try clear c93
           try clear c93b0
           try clear c93b1
           try clear hcz26_0
           try clear hcz26_1
           try clear hcz26_2
           try clear hcz26_3
           try clear hcz26_4
           try clear hcz36_0
           try clear hcz36_1
           try clear hcz36_2
           try clear hcz36_3
           try clear hcz36_4
           try clear hcz41_0
           try clear hcz41_1
           try clear hcz41_2
           try clear hcz41_3
           try clear hcz41_4
           try clear hcz47_0
           try clear hcz47_1
           try clear hcz47_2
           try clear hcz47_3
           try clear hcz47_4
           try clear hcz52_0
           try clear hcz52_1
           try clear hcz52_2
           try clear hcz52_3
           try clear hcz52_4
           try clear hcz7_0
           try clear hcz7_1
           try clear hcz7_2
           try clear hcz7_3
           try clear hcz7_4
           try clear hcz80_0
           try clear hcz80_1
           try clear hcz80_2
           try clear hcz80_3
           try clear hcz80_4
           try clear hcz84_0
           try clear hcz84_1
           try clear hcz84_2
           try clear hcz84_3
           try clear hcz84_4
           try clear hcz88_0
           try clear hcz88_1
           try clear hcz88_2
           try clear hcz88_3
           try clear hcz88_4
           try clear hcz92_0
           try clear hcz92_1
           try clear hcz92_2
           try clear hcz92_3
           try clear hcz92_4
           try clear hfz26_0
           try clear hfz26_1
           try clear hfz26_2
           try clear hfz26_3
           try clear hfz26_4
           try clear hfz36_0
           try clear hfz36_1
           try clear hfz36_2
           try clear hfz36_3
           try clear hfz36_4
           try clear hfz41_0
           try clear hfz41_1
           try clear hfz41_2
           try clear hfz41_3
           try clear hfz41_4
           try clear hfz47_0
           try clear hfz47_1
           try clear hfz47_2
           try clear hfz47_3
           try clear hfz47_4
           try clear hfz52_0
           try clear hfz52_1
           try clear hfz52_2
           try clear hfz52_3
           try clear hfz52_4
           try clear hfz7_0
           try clear hfz7_1
           try clear hfz7_2
           try clear hfz7_3
           try clear hfz7_4
           try clear hfz80_0
           try clear hfz80_1
           try clear hfz80_2
           try clear hfz80_3
           try clear hfz80_4
           try clear hfz84_0
           try clear hfz84_1
           try clear hfz84_2
           try clear hfz84_3
           try clear hfz84_4
           try clear hfz88_0
           try clear hfz88_1
           try clear hfz88_2
           try clear hfz88_3
           try clear hfz88_4
           try clear hfz92_0
           try clear hfz92_1
           try clear hfz92_2
           try clear hfz92_3
           try clear hfz92_4
           try clear p1
           try clear p10
           try clear p17
           try clear p2
           try clear p20
           try clear p3
           try clear p58
           try clear p6
           try clear p60
           try clear p64
           try clear p69
           try clear q1
           try clear q10
           try clear q17
           try clear q2
           try clear q20
           try clear q58
           try clear q60
           try clear q64
           try clear q69
           obtain ⟨x8_1, rfl, HA, HK1, BK254, HB⟩ := hrel
           cases gk with
           | zero => exact absurd HA.out (by simp [pascalineref08_Next.l1])
           | succ k1 =>
            have H := HA.out
            clear HA
            simp only [pascalineref08_Next.l1] at H
            by_cases c95 : x8_1 < (a0.size : Int)
            ·rw [if_pos c95] at H
             have c95b0 : decide (x8_1 < (a0.size : Int)) = true := decide_eq_true c95
             clear c95
             by_cases c96 : 0 ≤ x8_1
             ·rw [if_pos c96] at H
              have c96b0 : decide (0 ≤ x8_1) = true := decide_eq_true c96
              clear c96
              by_cases c98 : (bt a0 x8_1) ≥ 32
              ·rw [if_pos c98] at H
               have c98b0 : decide (32 ≤ (bt a0 x8_1)) = true := decide_eq_true c98
               clear c98
               by_cases c100 : (bt a0 x8_1) ≤ 126
               ·rw [if_pos c100] at H
                have c100b0 : decide ((bt a0 x8_1) ≤ 126) = true := decide_eq_true c100
                clear c100
                by_cases c102 : (bt a0 x8_1) = 34
                ·rw [if_pos c102] at H
                 have c102b0 : ((bt a0 x8_1) == 34) = true := beq_iff_eq.mpr c102
                 have c102b1 : ((bt a0 x8_1) != 34) = false := bne_eq_false_iff_eq.mpr c102
                 clear c102
                 by_cases c103 : x8_1 = (a0.size : Int)
                 ·rw [if_pos c103] at H
                  have c103b0 : (x8_1 == (a0.size : Int)) = true := beq_iff_eq.mpr c103
                  have c103b1 : (x8_1 != (a0.size : Int)) = false := bne_eq_false_iff_eq.mpr c103
                  clear c103
                  replace H := Option.bind_eq_some_iff.mp H
                  obtain ⟨⟨t310, t311, t312, t313, t314, t315⟩, A1040, H⟩ := H
                  replace H : (some (t310, t311, t312, t313, t314, t315)) = some (r1, r2, r3, r4, r5, r6) := H
                  have A104 := Aside0.mk A1040
                  clear A1040
                  simp only [Option.some.injEq, Prod.mk.injEq] at H
                  obtain ⟨rfl, rfl, rfl, rfl, rfl, rfl⟩ := H
                  have p97 : 0 ≤ (x8_1 : Int) := of_decide_eq_true (by first | (with_reducible assumption) | assumption)
                  have q97 : x8_1 < (a0.size : Int) := of_decide_eq_true (by first | (with_reducible assumption) | assumption)
                  have hx97 := bt_at a0 x8_1
                  replace p97 := eq_true p97
                  replace q97 := eq_true q97
                  have p99 : 0 ≤ (x8_1 : Int) := of_decide_eq_true (by first | (with_reducible assumption) | assumption)
                  have q99 : x8_1 < (a0.size : Int) := of_decide_eq_true (by first | (with_reducible assumption) | assumption)
                  have hx99 := bt_at a0 x8_1
                  replace p99 := eq_true p99
                  replace q99 := eq_true q99
                  have p101 : 0 ≤ (x8_1 : Int) := of_decide_eq_true (by first | (with_reducible assumption) | assumption)
                  have q101 : x8_1 < (a0.size : Int) := of_decide_eq_true (by first | (with_reducible assumption) | assumption)
                  have hx101 := bt_at a0 x8_1
                  replace p101 := eq_true p101
                  replace q101 := eq_true q101
                  go_wp2_with (first | ((with_reducible refine gate_callee (f := 20) rfl ?_); refine goesL_ (some 192) rfl rfl Try.func20 (by kernel_rfl) rfl #[.int .i64 t255, .int .i64 x8_1, .int .i64 82] rfl (by (try simp only [List.map_toArray, List.map_cons, List.map_nil]); first | done | rfl | (simp only [List.length_drop, List.length_take]; rfl)) ?_; (with_reducible refine (pascalineref08_bad.calls t255 x8_1 82 t310 t311 t312 t313 t314 t315 _ A104.out).mono ?_); rintro e w105 ⟨rfl, hb⟩; refine ⟨_, rfl, ?_⟩; have n0_ := Aside0.mk (blk_below (g := gb254) (o := .cells #[.int .i64 0, .int .i64 0, .int .i64 0, .string (⟨#[]⟩ : ByteArray), .int .i32 0] 33 (0, 0)) (by (with_reducible repeat (first | refine blk_drewN ?_ _ | refine blk_drew ?_ | refine blk_alloc ?_ _)); exact BK254.out) hb); have n1_ := Aside0.mk (below_step (by repeat (first | (with_reducible first | exact HB.out | apply below_alloc | apply pw_below_drewN | apply below_drew1 | refine below_set ?_ GE254.out) | exact HB.out)) hb); clear BK254; clear HB; have BK254 := n0_; have HB := n1_; clear n0_ n1_; (try clear hb); (try clear hb2); (try clear hk); (try clear hi); have hcz106_0 : w105.cell? ⟨gb254, 0, none⟩ = some (.int .i64 0) := (blk_cell BK254.out 0).trans rfl; have hcz106_1 : w105.cell? ⟨gb254, 1, none⟩ = some (.int .i64 0) := (blk_cell BK254.out 1).trans rfl; have hcz106_2 : w105.cell? ⟨gb254, 2, none⟩ = some (.int .i64 0) := (blk_cell BK254.out 2).trans rfl; have hcz106_3 : w105.cell? ⟨gb254, 3, none⟩ = some (.string (⟨#[]⟩ : ByteArray)) := (blk_cell BK254.out 3).trans rfl; have hcz106_4 : w105.cell? ⟨gb254, 4, none⟩ = some (.int .i32 0) := (blk_cell BK254.out 4).trans rfl; have hfz106_0 := blk_frozen BK254.out 0; have hfz106_1 := blk_frozen BK254.out 1; have hfz106_2 := blk_frozen BK254.out 2; have hfz106_3 := blk_frozen BK254.out 3; have hfz106_4 := blk_frozen BK254.out 4))
                  refine bodyPost_ret (results_ct rfl _ _ gb254 33 #[.int .i64 t310, .int .i64 t311, .int .i64 t312, .string t313, .int .i32 t314] (0, 0) _ rfl (by (with_reducible repeat (first | refine blk_drewN ?_ _ | refine blk_drew ?_ | refine blk_alloc ?_ _)); refine blk_put (cs := #[.int .i64 t310, .int .i64 t311, .int .i64 t312, .string t313, .int .i32 0]) ?_ 4 _ rfl; (with_reducible repeat (first | refine blk_drewN ?_ _ | refine blk_drew ?_ | refine blk_alloc ?_ _)); refine blk_put (cs := #[.int .i64 t310, .int .i64 t311, .int .i64 t312, .string (⟨#[]⟩ : ByteArray), .int .i32 0]) ?_ 3 _ rfl; (with_reducible repeat (first | refine blk_drewN ?_ _ | refine blk_drew ?_ | refine blk_alloc ?_ _)); refine blk_put (cs := #[.int .i64 t310, .int .i64 t311, .int .i64 0, .string (⟨#[]⟩ : ByteArray), .int .i32 0]) ?_ 2 _ rfl; (with_reducible repeat (first | refine blk_drewN ?_ _ | refine blk_drew ?_ | refine blk_alloc ?_ _)); refine blk_put (cs := #[.int .i64 t310, .int .i64 0, .int .i64 0, .string (⟨#[]⟩ : ByteArray), .int .i32 0]) ?_ 1 _ rfl; (with_reducible repeat (first | refine blk_drewN ?_ _ | refine blk_drew ?_ | refine blk_alloc ?_ _)); refine blk_put (cs := #[.int .i64 0, .int .i64 0, .int .i64 0, .string (⟨#[]⟩ : ByteArray), .int .i32 0]) ?_ 0 _ rfl; (with_reducible repeat (first | refine blk_drewN ?_ _ | refine blk_drew ?_ | refine blk_alloc ?_ _)); exact BK254.out) Try.underlying33 rfl (by kernel_rfl)) rfl ?_
                  exact ⟨by first | rfl | (simp [errW_none, errW_some] <;> rfl) | (simp [*, errW_none, errW_some] <;> rfl), by repeat (first | (with_reducible first | exact HB.out | apply below_alloc | apply pw_below_drewN | apply below_drew1 | refine below_set ?_ GE254.out) | exact HB.out)⟩
                 ·rw [if_neg c103] at H
                  have c103b0 : (x8_1 == (a0.size : Int)) = false := beq_eq_false_iff_ne.mpr c103
                  have c103b1 : (x8_1 != (a0.size : Int)) = true := bne_iff_ne.mpr c103
                  obtain ⟨ji108, hji108⟩ : ∃ j_ : Int, (wrap64 (t255 + 1)) = j_ := ⟨_, rfl⟩
                  replace H : (if 0 ≤ (ji108) then (if (ji108) ≤ x8_1 then (if x8_1 ≤ (a0.size : Int) then (some (4, t255, wrap64 (x8_1 + 1), a0.extract ((ji108) : Int).toNat (x8_1 : Int).toNat, 0, 0)) else (none)) else (none)) else (none)) = some (r1, r2, r3, r4, r5, r6) := by first | (rw [hji108] at H; exact H) | (simp only [hji108] at H ⊢; exact H)
                  have hji108w : (IntKind.i64.wrap (t255 + 1)) = ji108 := (i64_w _).trans hji108
                  by_cases c109 : 0 ≤ (ji108)
                  ·rw [if_pos c109] at H
                   have c109b0 := eq_true c109
                   have c109b1 : decide (0 ≤ (ji108)) = true := decide_eq_true c109
                   clear c109
                   by_cases c110 : (ji108) ≤ x8_1
                   ·rw [if_pos c110] at H
                    have c110b0 := eq_true c110
                    have c110b1 : decide ((ji108) ≤ x8_1) = true := decide_eq_true c110
                    clear c110
                    by_cases c111 : x8_1 ≤ (a0.size : Int)
                    ·rw [if_pos c111] at H
                     have c111b0 := eq_true c111
                     have c111b1 : decide (x8_1 ≤ (a0.size : Int)) = true := decide_eq_true c111
                     clear c111
                     simp only [Option.some.injEq, Prod.mk.injEq] at H
                     obtain ⟨rfl, rfl, rfl, rfl, rfl, rfl⟩ := H
                     have p97 : 0 ≤ (x8_1 : Int) := of_decide_eq_true (by first | (with_reducible assumption) | assumption)
                     have q97 : x8_1 < (a0.size : Int) := of_decide_eq_true (by first | (with_reducible assumption) | assumption)
                     have hx97 := bt_at a0 x8_1
                     replace p97 := eq_true p97
                     replace q97 := eq_true q97
                     have p99 : 0 ≤ (x8_1 : Int) := of_decide_eq_true (by first | (with_reducible assumption) | assumption)
                     have q99 : x8_1 < (a0.size : Int) := of_decide_eq_true (by first | (with_reducible assumption) | assumption)
                     have hx99 := bt_at a0 x8_1
                     replace p99 := eq_true p99
                     replace q99 := eq_true q99
                     have p101 : 0 ≤ (x8_1 : Int) := of_decide_eq_true (by first | (with_reducible assumption) | assumption)
                     have q101 : x8_1 < (a0.size : Int) := of_decide_eq_true (by first | (with_reducible assumption) | assumption)
                     have hx101 := bt_at a0 x8_1
                     replace p101 := eq_true p101
                     replace q101 := eq_true q101
                     have p107 : 0 ≤ (x8_1 : Int) := of_decide_eq_true (by first | (with_reducible assumption) | assumption)
                     have q107 : x8_1 < (a0.size : Int) := of_decide_eq_true (by first | (with_reducible assumption) | assumption)
                     have hx107 := bt_at a0 x8_1
                     replace p107 := eq_true p107
                     replace q107 := eq_true q107
                     have hcz112_0 : wr.cell? ⟨gb254, 0, none⟩ = some (.int .i64 0) := (blk_cell BK254.out 0).trans rfl
                     have hcz112_1 : wr.cell? ⟨gb254, 1, none⟩ = some (.int .i64 0) := (blk_cell BK254.out 1).trans rfl
                     have hcz112_2 : wr.cell? ⟨gb254, 2, none⟩ = some (.int .i64 0) := (blk_cell BK254.out 2).trans rfl
                     have hcz112_3 : wr.cell? ⟨gb254, 3, none⟩ = some (.string (⟨#[]⟩ : ByteArray)) := (blk_cell BK254.out 3).trans rfl
                     have hcz112_4 : wr.cell? ⟨gb254, 4, none⟩ = some (.int .i32 0) := (blk_cell BK254.out 4).trans rfl
                     have hfz112_0 := blk_frozen BK254.out 0
                     have hfz112_1 := blk_frozen BK254.out 1
                     have hfz112_2 := blk_frozen BK254.out 2
                     have hfz112_3 := blk_frozen BK254.out 3
                     have hfz112_4 := blk_frozen BK254.out 4
                     go_wp2
                     refine bodyPost_ret (results_ct rfl _ _ gb254 33 #[.int .i64 4, .int .i64 t255, .int .i64 (wrap64 (x8_1 + 1)), .string (a0.extract ((ji108) : Int).toNat (x8_1 : Int).toNat), .int .i32 0] (0, 0) _ rfl (by (with_reducible repeat (first | refine blk_drewN ?_ _ | refine blk_drew ?_ | refine blk_alloc ?_ _)); refine blk_put (cs := #[.int .i64 4, .int .i64 t255, .int .i64 (wrap64 (x8_1 + 1)), .string (a0.extract ((ji108) : Int).toNat (x8_1 : Int).toNat), .int .i32 0]) ?_ 4 _ rfl; (with_reducible repeat (first | refine blk_drewN ?_ _ | refine blk_drew ?_ | refine blk_alloc ?_ _)); refine blk_put (cs := #[.int .i64 4, .int .i64 t255, .int .i64 (wrap64 (x8_1 + 1)), .string (⟨#[]⟩ : ByteArray), .int .i32 0]) ?_ 3 _ rfl; (with_reducible repeat (first | refine blk_drewN ?_ _ | refine blk_drew ?_ | refine blk_alloc ?_ _)); refine blk_put (cs := #[.int .i64 4, .int .i64 t255, .int .i64 0, .string (⟨#[]⟩ : ByteArray), .int .i32 0]) ?_ 2 _ rfl; (with_reducible repeat (first | refine blk_drewN ?_ _ | refine blk_drew ?_ | refine blk_alloc ?_ _)); refine blk_put (cs := #[.int .i64 4, .int .i64 0, .int .i64 0, .string (⟨#[]⟩ : ByteArray), .int .i32 0]) ?_ 1 _ rfl; (with_reducible repeat (first | refine blk_drewN ?_ _ | refine blk_drew ?_ | refine blk_alloc ?_ _)); refine blk_put (cs := #[.int .i64 0, .int .i64 0, .int .i64 0, .string (⟨#[]⟩ : ByteArray), .int .i32 0]) ?_ 0 _ rfl; (with_reducible repeat (first | refine blk_drewN ?_ _ | refine blk_drew ?_ | refine blk_alloc ?_ _)); exact BK254.out) Try.underlying33 rfl (by kernel_rfl)) rfl ?_
                     exact ⟨by first | rfl | (simp [errW_none, errW_some] <;> rfl) | (simp only [← hji108]; first | rfl | (simp [errW_none, errW_some] <;> rfl)) | (simp [*, errW_none, errW_some] <;> rfl), by repeat (first | (with_reducible first | exact HB.out | apply below_alloc | apply pw_below_drewN | apply below_drew1 | refine below_set ?_ GE254.out) | exact HB.out)⟩
                    ·rw [if_neg c111] at H
                     exact absurd H (by simp)
                   ·rw [if_neg c110] at H
                    exact absurd H (by simp)
                  ·rw [if_neg c109] at H
                   exact absurd H (by simp)
                ·rw [if_neg c102] at H
                 have c102b0 : ((bt a0 x8_1) == 34) = false := beq_eq_false_iff_ne.mpr c102
                 have c102b1 : ((bt a0 x8_1) != 34) = true := bne_iff_ne.mpr c102
                 have H' := Aside0.mk H
                 clear H
                 have p97 : 0 ≤ (x8_1 : Int) := of_decide_eq_true (by first | (with_reducible assumption) | assumption)
                 have q97 : x8_1 < (a0.size : Int) := of_decide_eq_true (by first | (with_reducible assumption) | assumption)
                 have hx97 := bt_at a0 x8_1
                 replace p97 := eq_true p97
                 replace q97 := eq_true q97
                 have p99 : 0 ≤ (x8_1 : Int) := of_decide_eq_true (by first | (with_reducible assumption) | assumption)
                 have q99 : x8_1 < (a0.size : Int) := of_decide_eq_true (by first | (with_reducible assumption) | assumption)
                 have hx99 := bt_at a0 x8_1
                 replace p99 := eq_true p99
                 replace q99 := eq_true q99
                 have p101 : 0 ≤ (x8_1 : Int) := of_decide_eq_true (by first | (with_reducible assumption) | assumption)
                 have q101 : x8_1 < (a0.size : Int) := of_decide_eq_true (by first | (with_reducible assumption) | assumption)
                 have hx101 := bt_at a0 x8_1
                 replace p101 := eq_true p101
                 replace q101 := eq_true q101
                 go_wp2
                 go_roundg k1
                 case measure => have := HK1.out; omega
                 case rel => exact ⟨(wrap64 (x8_1 + 1)), (by first | rfl | (simp; done) | (simp [*]; done)), H', ⟨by have := HK1.out; omega⟩, ⟨by (with_reducible repeat (first | refine blk_drewN ?_ _ | refine blk_drew ?_ | refine blk_alloc ?_ _)); exact BK254.out⟩, ⟨by repeat (first | (with_reducible first | exact HB.out | apply below_alloc | apply pw_below_drewN | apply below_drew1 | refine below_set ?_ GE254.out) | exact HB.out)⟩⟩
               ·rw [if_neg c100] at H
                have c100b0 : decide ((bt a0 x8_1) ≤ 126) = false := decide_eq_false c100
                clear c100
                by_cases c113 : x8_1 = (a0.size : Int)
                ·rw [if_pos c113] at H
                 have c113b0 : (x8_1 == (a0.size : Int)) = true := beq_iff_eq.mpr c113
                 have c113b1 : (x8_1 != (a0.size : Int)) = false := bne_eq_false_iff_eq.mpr c113
                 clear c113
                 replace H := Option.bind_eq_some_iff.mp H
                 obtain ⟨⟨t316, t317, t318, t319, t320, t321⟩, A1140, H⟩ := H
                 replace H : (some (t316, t317, t318, t319, t320, t321)) = some (r1, r2, r3, r4, r5, r6) := H
                 have A114 := Aside0.mk A1140
                 clear A1140
                 simp only [Option.some.injEq, Prod.mk.injEq] at H
                 obtain ⟨rfl, rfl, rfl, rfl, rfl, rfl⟩ := H
                 have p97 : 0 ≤ (x8_1 : Int) := of_decide_eq_true (by first | (with_reducible assumption) | assumption)
                 have q97 : x8_1 < (a0.size : Int) := of_decide_eq_true (by first | (with_reducible assumption) | assumption)
                 have hx97 := bt_at a0 x8_1
                 replace p97 := eq_true p97
                 replace q97 := eq_true q97
                 have p99 : 0 ≤ (x8_1 : Int) := of_decide_eq_true (by first | (with_reducible assumption) | assumption)
                 have q99 : x8_1 < (a0.size : Int) := of_decide_eq_true (by first | (with_reducible assumption) | assumption)
                 have hx99 := bt_at a0 x8_1
                 replace p99 := eq_true p99
                 replace q99 := eq_true q99
                 go_wp2_with (first | ((with_reducible refine gate_callee (f := 20) rfl ?_); refine goesL_ (some 192) rfl rfl Try.func20 (by kernel_rfl) rfl #[.int .i64 t255, .int .i64 x8_1, .int .i64 82] rfl (by (try simp only [List.map_toArray, List.map_cons, List.map_nil]); first | done | rfl | (simp only [List.length_drop, List.length_take]; rfl)) ?_; (with_reducible refine (pascalineref08_bad.calls t255 x8_1 82 t316 t317 t318 t319 t320 t321 _ A114.out).mono ?_); rintro e w115 ⟨rfl, hb⟩; refine ⟨_, rfl, ?_⟩; have n0_ := Aside0.mk (blk_below (g := gb254) (o := .cells #[.int .i64 0, .int .i64 0, .int .i64 0, .string (⟨#[]⟩ : ByteArray), .int .i32 0] 33 (0, 0)) (by (with_reducible repeat (first | refine blk_drewN ?_ _ | refine blk_drew ?_ | refine blk_alloc ?_ _)); exact BK254.out) hb); have n1_ := Aside0.mk (below_step (by repeat (first | (with_reducible first | exact HB.out | apply below_alloc | apply pw_below_drewN | apply below_drew1 | refine below_set ?_ GE254.out) | exact HB.out)) hb); clear BK254; clear HB; have BK254 := n0_; have HB := n1_; clear n0_ n1_; (try clear hb); (try clear hb2); (try clear hk); (try clear hi); have hcz116_0 : w115.cell? ⟨gb254, 0, none⟩ = some (.int .i64 0) := (blk_cell BK254.out 0).trans rfl; have hcz116_1 : w115.cell? ⟨gb254, 1, none⟩ = some (.int .i64 0) := (blk_cell BK254.out 1).trans rfl; have hcz116_2 : w115.cell? ⟨gb254, 2, none⟩ = some (.int .i64 0) := (blk_cell BK254.out 2).trans rfl; have hcz116_3 : w115.cell? ⟨gb254, 3, none⟩ = some (.string (⟨#[]⟩ : ByteArray)) := (blk_cell BK254.out 3).trans rfl; have hcz116_4 : w115.cell? ⟨gb254, 4, none⟩ = some (.int .i32 0) := (blk_cell BK254.out 4).trans rfl; have hfz116_0 := blk_frozen BK254.out 0; have hfz116_1 := blk_frozen BK254.out 1; have hfz116_2 := blk_frozen BK254.out 2; have hfz116_3 := blk_frozen BK254.out 3; have hfz116_4 := blk_frozen BK254.out 4))
                 refine bodyPost_ret (results_ct rfl _ _ gb254 33 #[.int .i64 t316, .int .i64 t317, .int .i64 t318, .string t319, .int .i32 t320] (0, 0) _ rfl (by (with_reducible repeat (first | refine blk_drewN ?_ _ | refine blk_drew ?_ | refine blk_alloc ?_ _)); refine blk_put (cs := #[.int .i64 t316, .int .i64 t317, .int .i64 t318, .string t319, .int .i32 0]) ?_ 4 _ rfl; (with_reducible repeat (first | refine blk_drewN ?_ _ | refine blk_drew ?_ | refine blk_alloc ?_ _)); refine blk_put (cs := #[.int .i64 t316, .int .i64 t317, .int .i64 t318, .string (⟨#[]⟩ : ByteArray), .int .i32 0]) ?_ 3 _ rfl; (with_reducible repeat (first | refine blk_drewN ?_ _ | refine blk_drew ?_ | refine blk_alloc ?_ _)); refine blk_put (cs := #[.int .i64 t316, .int .i64 t317, .int .i64 0, .string (⟨#[]⟩ : ByteArray), .int .i32 0]) ?_ 2 _ rfl; (with_reducible repeat (first | refine blk_drewN ?_ _ | refine blk_drew ?_ | refine blk_alloc ?_ _)); refine blk_put (cs := #[.int .i64 t316, .int .i64 0, .int .i64 0, .string (⟨#[]⟩ : ByteArray), .int .i32 0]) ?_ 1 _ rfl; (with_reducible repeat (first | refine blk_drewN ?_ _ | refine blk_drew ?_ | refine blk_alloc ?_ _)); refine blk_put (cs := #[.int .i64 0, .int .i64 0, .int .i64 0, .string (⟨#[]⟩ : ByteArray), .int .i32 0]) ?_ 0 _ rfl; (with_reducible repeat (first | refine blk_drewN ?_ _ | refine blk_drew ?_ | refine blk_alloc ?_ _)); exact BK254.out) Try.underlying33 rfl (by kernel_rfl)) rfl ?_
                 exact ⟨by first | rfl | (simp [errW_none, errW_some] <;> rfl) | (simp [*, errW_none, errW_some] <;> rfl), by repeat (first | (with_reducible first | exact HB.out | apply below_alloc | apply pw_below_drewN | apply below_drew1 | refine below_set ?_ GE254.out) | exact HB.out)⟩
                ·rw [if_neg c113] at H
                 have c113b0 : (x8_1 == (a0.size : Int)) = false := beq_eq_false_iff_ne.mpr c113
                 have c113b1 : (x8_1 != (a0.size : Int)) = true := bne_iff_ne.mpr c113
                 by_cases c118 : (bt a0 x8_1) = 34
                 ·rw [if_pos c118] at H
                  have c118b0 : ((bt a0 x8_1) == 34) = true := beq_iff_eq.mpr c118
                  have c118b1 : ((bt a0 x8_1) != 34) = false := bne_eq_false_iff_eq.mpr c118
                  clear c118
                  obtain ⟨ji119, hji119⟩ : ∃ j_ : Int, (wrap64 (t255 + 1)) = j_ := ⟨_, rfl⟩
                  replace H : (if 0 ≤ (ji119) then (if (ji119) ≤ x8_1 then (if x8_1 ≤ (a0.size : Int) then (some (4, t255, wrap64 (x8_1 + 1), a0.extract ((ji119) : Int).toNat (x8_1 : Int).toNat, 0, 0)) else (none)) else (none)) else (none)) = some (r1, r2, r3, r4, r5, r6) := by first | (rw [hji119] at H; exact H) | (simp only [hji119] at H ⊢; exact H)
                  have hji119w : (IntKind.i64.wrap (t255 + 1)) = ji119 := (i64_w _).trans hji119
                  by_cases c120 : 0 ≤ (ji119)
                  ·rw [if_pos c120] at H
                   have c120b0 := eq_true c120
                   have c120b1 : decide (0 ≤ (ji119)) = true := decide_eq_true c120
                   clear c120
                   by_cases c121 : (ji119) ≤ x8_1
                   ·rw [if_pos c121] at H
                    have c121b0 := eq_true c121
                    have c121b1 : decide ((ji119) ≤ x8_1) = true := decide_eq_true c121
                    clear c121
                    by_cases c122 : x8_1 ≤ (a0.size : Int)
                    ·rw [if_pos c122] at H
                     have c122b0 := eq_true c122
                     have c122b1 : decide (x8_1 ≤ (a0.size : Int)) = true := decide_eq_true c122
                     clear c122
                     simp only [Option.some.injEq, Prod.mk.injEq] at H
                     obtain ⟨rfl, rfl, rfl, rfl, rfl, rfl⟩ := H
                     have p97 : 0 ≤ (x8_1 : Int) := of_decide_eq_true (by first | (with_reducible assumption) | assumption)
                     have q97 : x8_1 < (a0.size : Int) := of_decide_eq_true (by first | (with_reducible assumption) | assumption)
                     have hx97 := bt_at a0 x8_1
                     replace p97 := eq_true p97
                     replace q97 := eq_true q97
                     have p99 : 0 ≤ (x8_1 : Int) := of_decide_eq_true (by first | (with_reducible assumption) | assumption)
                     have q99 : x8_1 < (a0.size : Int) := of_decide_eq_true (by first | (with_reducible assumption) | assumption)
                     have hx99 := bt_at a0 x8_1
                     replace p99 := eq_true p99
                     replace q99 := eq_true q99
                     have p117 : 0 ≤ (x8_1 : Int) := of_decide_eq_true (by first | (with_reducible assumption) | assumption)
                     have q117 : x8_1 < (a0.size : Int) := of_decide_eq_true (by first | (with_reducible assumption) | assumption)
                     have hx117 := bt_at a0 x8_1
                     replace p117 := eq_true p117
                     replace q117 := eq_true q117
                     have hcz123_0 : wr.cell? ⟨gb254, 0, none⟩ = some (.int .i64 0) := (blk_cell BK254.out 0).trans rfl
                     have hcz123_1 : wr.cell? ⟨gb254, 1, none⟩ = some (.int .i64 0) := (blk_cell BK254.out 1).trans rfl
                     have hcz123_2 : wr.cell? ⟨gb254, 2, none⟩ = some (.int .i64 0) := (blk_cell BK254.out 2).trans rfl
                     have hcz123_3 : wr.cell? ⟨gb254, 3, none⟩ = some (.string (⟨#[]⟩ : ByteArray)) := (blk_cell BK254.out 3).trans rfl
                     have hcz123_4 : wr.cell? ⟨gb254, 4, none⟩ = some (.int .i32 0) := (blk_cell BK254.out 4).trans rfl
                     have hfz123_0 := blk_frozen BK254.out 0
                     have hfz123_1 := blk_frozen BK254.out 1
                     have hfz123_2 := blk_frozen BK254.out 2
                     have hfz123_3 := blk_frozen BK254.out 3
                     have hfz123_4 := blk_frozen BK254.out 4
                     go_wp2
                     refine bodyPost_ret (results_ct rfl _ _ gb254 33 #[.int .i64 4, .int .i64 t255, .int .i64 (wrap64 (x8_1 + 1)), .string (a0.extract ((ji119) : Int).toNat (x8_1 : Int).toNat), .int .i32 0] (0, 0) _ rfl (by (with_reducible repeat (first | refine blk_drewN ?_ _ | refine blk_drew ?_ | refine blk_alloc ?_ _)); refine blk_put (cs := #[.int .i64 4, .int .i64 t255, .int .i64 (wrap64 (x8_1 + 1)), .string (a0.extract ((ji119) : Int).toNat (x8_1 : Int).toNat), .int .i32 0]) ?_ 4 _ rfl; (with_reducible repeat (first | refine blk_drewN ?_ _ | refine blk_drew ?_ | refine blk_alloc ?_ _)); refine blk_put (cs := #[.int .i64 4, .int .i64 t255, .int .i64 (wrap64 (x8_1 + 1)), .string (⟨#[]⟩ : ByteArray), .int .i32 0]) ?_ 3 _ rfl; (with_reducible repeat (first | refine blk_drewN ?_ _ | refine blk_drew ?_ | refine blk_alloc ?_ _)); refine blk_put (cs := #[.int .i64 4, .int .i64 t255, .int .i64 0, .string (⟨#[]⟩ : ByteArray), .int .i32 0]) ?_ 2 _ rfl; (with_reducible repeat (first | refine blk_drewN ?_ _ | refine blk_drew ?_ | refine blk_alloc ?_ _)); refine blk_put (cs := #[.int .i64 4, .int .i64 0, .int .i64 0, .string (⟨#[]⟩ : ByteArray), .int .i32 0]) ?_ 1 _ rfl; (with_reducible repeat (first | refine blk_drewN ?_ _ | refine blk_drew ?_ | refine blk_alloc ?_ _)); refine blk_put (cs := #[.int .i64 0, .int .i64 0, .int .i64 0, .string (⟨#[]⟩ : ByteArray), .int .i32 0]) ?_ 0 _ rfl; (with_reducible repeat (first | refine blk_drewN ?_ _ | refine blk_drew ?_ | refine blk_alloc ?_ _)); exact BK254.out) Try.underlying33 rfl (by kernel_rfl)) rfl ?_
                     exact ⟨by first | rfl | (simp [errW_none, errW_some] <;> rfl) | (simp only [← hji119]; first | rfl | (simp [errW_none, errW_some] <;> rfl)) | (simp [*, errW_none, errW_some] <;> rfl), by repeat (first | (with_reducible first | exact HB.out | apply below_alloc | apply pw_below_drewN | apply below_drew1 | refine below_set ?_ GE254.out) | exact HB.out)⟩
                    ·rw [if_neg c122] at H
                     exact absurd H (by simp)
                   ·rw [if_neg c121] at H
                    exact absurd H (by simp)
                  ·rw [if_neg c120] at H
                   exact absurd H (by simp)
                 ·rw [if_neg c118] at H
                  have c118b0 : ((bt a0 x8_1) == 34) = false := beq_eq_false_iff_ne.mpr c118
                  have c118b1 : ((bt a0 x8_1) != 34) = true := bne_iff_ne.mpr c118
                  replace H := Option.bind_eq_some_iff.mp H
                  obtain ⟨⟨t322, t323, t324, t325, t326, t327⟩, A1240, H⟩ := H
                  replace H : (some (t322, t323, t324, t325, t326, t327)) = some (r1, r2, r3, r4, r5, r6) := H
                  have A124 := Aside0.mk A1240
                  clear A1240
                  simp only [Option.some.injEq, Prod.mk.injEq] at H
                  obtain ⟨rfl, rfl, rfl, rfl, rfl, rfl⟩ := H
                  have p97 : 0 ≤ (x8_1 : Int) := of_decide_eq_true (by first | (with_reducible assumption) | assumption)
                  have q97 : x8_1 < (a0.size : Int) := of_decide_eq_true (by first | (with_reducible assumption) | assumption)
                  have hx97 := bt_at a0 x8_1
                  replace p97 := eq_true p97
                  replace q97 := eq_true q97
                  have p99 : 0 ≤ (x8_1 : Int) := of_decide_eq_true (by first | (with_reducible assumption) | assumption)
                  have q99 : x8_1 < (a0.size : Int) := of_decide_eq_true (by first | (with_reducible assumption) | assumption)
                  have hx99 := bt_at a0 x8_1
                  replace p99 := eq_true p99
                  replace q99 := eq_true q99
                  have p117 : 0 ≤ (x8_1 : Int) := of_decide_eq_true (by first | (with_reducible assumption) | assumption)
                  have q117 : x8_1 < (a0.size : Int) := of_decide_eq_true (by first | (with_reducible assumption) | assumption)
                  have hx117 := bt_at a0 x8_1
                  replace p117 := eq_true p117
                  replace q117 := eq_true q117
                  go_wp2_with (first | ((with_reducible refine gate_callee (f := 20) rfl ?_); refine goesL_ (some 192) rfl rfl Try.func20 (by kernel_rfl) rfl #[.int .i64 t255, .int .i64 x8_1, .int .i64 82] rfl (by (try simp only [List.map_toArray, List.map_cons, List.map_nil]); first | done | rfl | (simp only [List.length_drop, List.length_take]; rfl)) ?_; (with_reducible refine (pascalineref08_bad.calls t255 x8_1 82 t322 t323 t324 t325 t326 t327 _ A124.out).mono ?_); rintro e w125 ⟨rfl, hb⟩; refine ⟨_, rfl, ?_⟩; have n0_ := Aside0.mk (blk_below (g := gb254) (o := .cells #[.int .i64 0, .int .i64 0, .int .i64 0, .string (⟨#[]⟩ : ByteArray), .int .i32 0] 33 (0, 0)) (by (with_reducible repeat (first | refine blk_drewN ?_ _ | refine blk_drew ?_ | refine blk_alloc ?_ _)); exact BK254.out) hb); have n1_ := Aside0.mk (below_step (by repeat (first | (with_reducible first | exact HB.out | apply below_alloc | apply pw_below_drewN | apply below_drew1 | refine below_set ?_ GE254.out) | exact HB.out)) hb); clear BK254; clear HB; have BK254 := n0_; have HB := n1_; clear n0_ n1_; (try clear hb); (try clear hb2); (try clear hk); (try clear hi); have hcz126_0 : w125.cell? ⟨gb254, 0, none⟩ = some (.int .i64 0) := (blk_cell BK254.out 0).trans rfl; have hcz126_1 : w125.cell? ⟨gb254, 1, none⟩ = some (.int .i64 0) := (blk_cell BK254.out 1).trans rfl; have hcz126_2 : w125.cell? ⟨gb254, 2, none⟩ = some (.int .i64 0) := (blk_cell BK254.out 2).trans rfl; have hcz126_3 : w125.cell? ⟨gb254, 3, none⟩ = some (.string (⟨#[]⟩ : ByteArray)) := (blk_cell BK254.out 3).trans rfl; have hcz126_4 : w125.cell? ⟨gb254, 4, none⟩ = some (.int .i32 0) := (blk_cell BK254.out 4).trans rfl; have hfz126_0 := blk_frozen BK254.out 0; have hfz126_1 := blk_frozen BK254.out 1; have hfz126_2 := blk_frozen BK254.out 2; have hfz126_3 := blk_frozen BK254.out 3; have hfz126_4 := blk_frozen BK254.out 4))
                  refine bodyPost_ret (results_ct rfl _ _ gb254 33 #[.int .i64 t322, .int .i64 t323, .int .i64 t324, .string t325, .int .i32 t326] (0, 0) _ rfl (by (with_reducible repeat (first | refine blk_drewN ?_ _ | refine blk_drew ?_ | refine blk_alloc ?_ _)); refine blk_put (cs := #[.int .i64 t322, .int .i64 t323, .int .i64 t324, .string t325, .int .i32 0]) ?_ 4 _ rfl; (with_reducible repeat (first | refine blk_drewN ?_ _ | refine blk_drew ?_ | refine blk_alloc ?_ _)); refine blk_put (cs := #[.int .i64 t322, .int .i64 t323, .int .i64 t324, .string (⟨#[]⟩ : ByteArray), .int .i32 0]) ?_ 3 _ rfl; (with_reducible repeat (first | refine blk_drewN ?_ _ | refine blk_drew ?_ | refine blk_alloc ?_ _)); refine blk_put (cs := #[.int .i64 t322, .int .i64 t323, .int .i64 0, .string (⟨#[]⟩ : ByteArray), .int .i32 0]) ?_ 2 _ rfl; (with_reducible repeat (first | refine blk_drewN ?_ _ | refine blk_drew ?_ | refine blk_alloc ?_ _)); refine blk_put (cs := #[.int .i64 t322, .int .i64 0, .int .i64 0, .string (⟨#[]⟩ : ByteArray), .int .i32 0]) ?_ 1 _ rfl; (with_reducible repeat (first | refine blk_drewN ?_ _ | refine blk_drew ?_ | refine blk_alloc ?_ _)); refine blk_put (cs := #[.int .i64 0, .int .i64 0, .int .i64 0, .string (⟨#[]⟩ : ByteArray), .int .i32 0]) ?_ 0 _ rfl; (with_reducible repeat (first | refine blk_drewN ?_ _ | refine blk_drew ?_ | refine blk_alloc ?_ _)); exact BK254.out) Try.underlying33 rfl (by kernel_rfl)) rfl ?_
                  exact ⟨by first | rfl | (simp [errW_none, errW_some] <;> rfl) | (simp [*, errW_none, errW_some] <;> rfl), by repeat (first | (with_reducible first | exact HB.out | apply below_alloc | apply pw_below_drewN | apply below_drew1 | refine below_set ?_ GE254.out) | exact HB.out)⟩
              ·rw [if_neg c98] at H
               have c98b0 : decide (32 ≤ (bt a0 x8_1)) = false := decide_eq_false c98
               clear c98
               by_cases c127 : x8_1 = (a0.size : Int)
               ·rw [if_pos c127] at H
                have c127b0 : (x8_1 == (a0.size : Int)) = true := beq_iff_eq.mpr c127
                have c127b1 : (x8_1 != (a0.size : Int)) = false := bne_eq_false_iff_eq.mpr c127
                clear c127
                replace H := Option.bind_eq_some_iff.mp H
                obtain ⟨⟨t328, t329, t330, t331, t332, t333⟩, A1280, H⟩ := H
                replace H : (some (t328, t329, t330, t331, t332, t333)) = some (r1, r2, r3, r4, r5, r6) := H
                have A128 := Aside0.mk A1280
                clear A1280
                simp only [Option.some.injEq, Prod.mk.injEq] at H
                obtain ⟨rfl, rfl, rfl, rfl, rfl, rfl⟩ := H
                have p97 : 0 ≤ (x8_1 : Int) := of_decide_eq_true (by first | (with_reducible assumption) | assumption)
                have q97 : x8_1 < (a0.size : Int) := of_decide_eq_true (by first | (with_reducible assumption) | assumption)
                have hx97 := bt_at a0 x8_1
                replace p97 := eq_true p97
                replace q97 := eq_true q97
                go_wp2_with (first | ((with_reducible refine gate_callee (f := 20) rfl ?_); refine goesL_ (some 192) rfl rfl Try.func20 (by kernel_rfl) rfl #[.int .i64 t255, .int .i64 x8_1, .int .i64 82] rfl (by (try simp only [List.map_toArray, List.map_cons, List.map_nil]); first | done | rfl | (simp only [List.length_drop, List.length_take]; rfl)) ?_; (with_reducible refine (pascalineref08_bad.calls t255 x8_1 82 t328 t329 t330 t331 t332 t333 _ A128.out).mono ?_); rintro e w129 ⟨rfl, hb⟩; refine ⟨_, rfl, ?_⟩; have n0_ := Aside0.mk (blk_below (g := gb254) (o := .cells #[.int .i64 0, .int .i64 0, .int .i64 0, .string (⟨#[]⟩ : ByteArray), .int .i32 0] 33 (0, 0)) (by (with_reducible repeat (first | refine blk_drewN ?_ _ | refine blk_drew ?_ | refine blk_alloc ?_ _)); exact BK254.out) hb); have n1_ := Aside0.mk (below_step (by repeat (first | (with_reducible first | exact HB.out | apply below_alloc | apply pw_below_drewN | apply below_drew1 | refine below_set ?_ GE254.out) | exact HB.out)) hb); clear BK254; clear HB; have BK254 := n0_; have HB := n1_; clear n0_ n1_; (try clear hb); (try clear hb2); (try clear hk); (try clear hi); have hcz130_0 : w129.cell? ⟨gb254, 0, none⟩ = some (.int .i64 0) := (blk_cell BK254.out 0).trans rfl; have hcz130_1 : w129.cell? ⟨gb254, 1, none⟩ = some (.int .i64 0) := (blk_cell BK254.out 1).trans rfl; have hcz130_2 : w129.cell? ⟨gb254, 2, none⟩ = some (.int .i64 0) := (blk_cell BK254.out 2).trans rfl; have hcz130_3 : w129.cell? ⟨gb254, 3, none⟩ = some (.string (⟨#[]⟩ : ByteArray)) := (blk_cell BK254.out 3).trans rfl; have hcz130_4 : w129.cell? ⟨gb254, 4, none⟩ = some (.int .i32 0) := (blk_cell BK254.out 4).trans rfl; have hfz130_0 := blk_frozen BK254.out 0; have hfz130_1 := blk_frozen BK254.out 1; have hfz130_2 := blk_frozen BK254.out 2; have hfz130_3 := blk_frozen BK254.out 3; have hfz130_4 := blk_frozen BK254.out 4))
                refine bodyPost_ret (results_ct rfl _ _ gb254 33 #[.int .i64 t328, .int .i64 t329, .int .i64 t330, .string t331, .int .i32 t332] (0, 0) _ rfl (by (with_reducible repeat (first | refine blk_drewN ?_ _ | refine blk_drew ?_ | refine blk_alloc ?_ _)); refine blk_put (cs := #[.int .i64 t328, .int .i64 t329, .int .i64 t330, .string t331, .int .i32 0]) ?_ 4 _ rfl; (with_reducible repeat (first | refine blk_drewN ?_ _ | refine blk_drew ?_ | refine blk_alloc ?_ _)); refine blk_put (cs := #[.int .i64 t328, .int .i64 t329, .int .i64 t330, .string (⟨#[]⟩ : ByteArray), .int .i32 0]) ?_ 3 _ rfl; (with_reducible repeat (first | refine blk_drewN ?_ _ | refine blk_drew ?_ | refine blk_alloc ?_ _)); refine blk_put (cs := #[.int .i64 t328, .int .i64 t329, .int .i64 0, .string (⟨#[]⟩ : ByteArray), .int .i32 0]) ?_ 2 _ rfl; (with_reducible repeat (first | refine blk_drewN ?_ _ | refine blk_drew ?_ | refine blk_alloc ?_ _)); refine blk_put (cs := #[.int .i64 t328, .int .i64 0, .int .i64 0, .string (⟨#[]⟩ : ByteArray), .int .i32 0]) ?_ 1 _ rfl; (with_reducible repeat (first | refine blk_drewN ?_ _ | refine blk_drew ?_ | refine blk_alloc ?_ _)); refine blk_put (cs := #[.int .i64 0, .int .i64 0, .int .i64 0, .string (⟨#[]⟩ : ByteArray), .int .i32 0]) ?_ 0 _ rfl; (with_reducible repeat (first | refine blk_drewN ?_ _ | refine blk_drew ?_ | refine blk_alloc ?_ _)); exact BK254.out) Try.underlying33 rfl (by kernel_rfl)) rfl ?_
                exact ⟨by first | rfl | (simp [errW_none, errW_some] <;> rfl) | (simp [*, errW_none, errW_some] <;> rfl), by repeat (first | (with_reducible first | exact HB.out | apply below_alloc | apply pw_below_drewN | apply below_drew1 | refine below_set ?_ GE254.out) | exact HB.out)⟩
               ·rw [if_neg c127] at H
                have c127b0 : (x8_1 == (a0.size : Int)) = false := beq_eq_false_iff_ne.mpr c127
                have c127b1 : (x8_1 != (a0.size : Int)) = true := bne_iff_ne.mpr c127
                by_cases c132 : (bt a0 x8_1) = 34
                ·rw [if_pos c132] at H
                 have c132b0 : ((bt a0 x8_1) == 34) = true := beq_iff_eq.mpr c132
                 have c132b1 : ((bt a0 x8_1) != 34) = false := bne_eq_false_iff_eq.mpr c132
                 clear c132
                 obtain ⟨ji133, hji133⟩ : ∃ j_ : Int, (wrap64 (t255 + 1)) = j_ := ⟨_, rfl⟩
                 replace H : (if 0 ≤ (ji133) then (if (ji133) ≤ x8_1 then (if x8_1 ≤ (a0.size : Int) then (some (4, t255, wrap64 (x8_1 + 1), a0.extract ((ji133) : Int).toNat (x8_1 : Int).toNat, 0, 0)) else (none)) else (none)) else (none)) = some (r1, r2, r3, r4, r5, r6) := by first | (rw [hji133] at H; exact H) | (simp only [hji133] at H ⊢; exact H)
                 have hji133w : (IntKind.i64.wrap (t255 + 1)) = ji133 := (i64_w _).trans hji133
                 by_cases c134 : 0 ≤ (ji133)
                 ·rw [if_pos c134] at H
                  have c134b0 := eq_true c134
                  have c134b1 : decide (0 ≤ (ji133)) = true := decide_eq_true c134
                  clear c134
                  by_cases c135 : (ji133) ≤ x8_1
                  ·rw [if_pos c135] at H
                   have c135b0 := eq_true c135
                   have c135b1 : decide ((ji133) ≤ x8_1) = true := decide_eq_true c135
                   clear c135
                   by_cases c136 : x8_1 ≤ (a0.size : Int)
                   ·rw [if_pos c136] at H
                    have c136b0 := eq_true c136
                    have c136b1 : decide (x8_1 ≤ (a0.size : Int)) = true := decide_eq_true c136
                    clear c136
                    simp only [Option.some.injEq, Prod.mk.injEq] at H
                    obtain ⟨rfl, rfl, rfl, rfl, rfl, rfl⟩ := H
                    have p97 : 0 ≤ (x8_1 : Int) := of_decide_eq_true (by first | (with_reducible assumption) | assumption)
                    have q97 : x8_1 < (a0.size : Int) := of_decide_eq_true (by first | (with_reducible assumption) | assumption)
                    have hx97 := bt_at a0 x8_1
                    replace p97 := eq_true p97
                    replace q97 := eq_true q97
                    have p131 : 0 ≤ (x8_1 : Int) := of_decide_eq_true (by first | (with_reducible assumption) | assumption)
                    have q131 : x8_1 < (a0.size : Int) := of_decide_eq_true (by first | (with_reducible assumption) | assumption)
                    have hx131 := bt_at a0 x8_1
                    replace p131 := eq_true p131
                    replace q131 := eq_true q131
                    have hcz137_0 : wr.cell? ⟨gb254, 0, none⟩ = some (.int .i64 0) := (blk_cell BK254.out 0).trans rfl
                    have hcz137_1 : wr.cell? ⟨gb254, 1, none⟩ = some (.int .i64 0) := (blk_cell BK254.out 1).trans rfl
                    have hcz137_2 : wr.cell? ⟨gb254, 2, none⟩ = some (.int .i64 0) := (blk_cell BK254.out 2).trans rfl
                    have hcz137_3 : wr.cell? ⟨gb254, 3, none⟩ = some (.string (⟨#[]⟩ : ByteArray)) := (blk_cell BK254.out 3).trans rfl
                    have hcz137_4 : wr.cell? ⟨gb254, 4, none⟩ = some (.int .i32 0) := (blk_cell BK254.out 4).trans rfl
                    have hfz137_0 := blk_frozen BK254.out 0
                    have hfz137_1 := blk_frozen BK254.out 1
                    have hfz137_2 := blk_frozen BK254.out 2
                    have hfz137_3 := blk_frozen BK254.out 3
                    have hfz137_4 := blk_frozen BK254.out 4
                    go_wp2
                    refine bodyPost_ret (results_ct rfl _ _ gb254 33 #[.int .i64 4, .int .i64 t255, .int .i64 (wrap64 (x8_1 + 1)), .string (a0.extract ((ji133) : Int).toNat (x8_1 : Int).toNat), .int .i32 0] (0, 0) _ rfl (by (with_reducible repeat (first | refine blk_drewN ?_ _ | refine blk_drew ?_ | refine blk_alloc ?_ _)); refine blk_put (cs := #[.int .i64 4, .int .i64 t255, .int .i64 (wrap64 (x8_1 + 1)), .string (a0.extract ((ji133) : Int).toNat (x8_1 : Int).toNat), .int .i32 0]) ?_ 4 _ rfl; (with_reducible repeat (first | refine blk_drewN ?_ _ | refine blk_drew ?_ | refine blk_alloc ?_ _)); refine blk_put (cs := #[.int .i64 4, .int .i64 t255, .int .i64 (wrap64 (x8_1 + 1)), .string (⟨#[]⟩ : ByteArray), .int .i32 0]) ?_ 3 _ rfl; (with_reducible repeat (first | refine blk_drewN ?_ _ | refine blk_drew ?_ | refine blk_alloc ?_ _)); refine blk_put (cs := #[.int .i64 4, .int .i64 t255, .int .i64 0, .string (⟨#[]⟩ : ByteArray), .int .i32 0]) ?_ 2 _ rfl; (with_reducible repeat (first | refine blk_drewN ?_ _ | refine blk_drew ?_ | refine blk_alloc ?_ _)); refine blk_put (cs := #[.int .i64 4, .int .i64 0, .int .i64 0, .string (⟨#[]⟩ : ByteArray), .int .i32 0]) ?_ 1 _ rfl; (with_reducible repeat (first | refine blk_drewN ?_ _ | refine blk_drew ?_ | refine blk_alloc ?_ _)); refine blk_put (cs := #[.int .i64 0, .int .i64 0, .int .i64 0, .string (⟨#[]⟩ : ByteArray), .int .i32 0]) ?_ 0 _ rfl; (with_reducible repeat (first | refine blk_drewN ?_ _ | refine blk_drew ?_ | refine blk_alloc ?_ _)); exact BK254.out) Try.underlying33 rfl (by kernel_rfl)) rfl ?_
                    exact ⟨by first | rfl | (simp [errW_none, errW_some] <;> rfl) | (simp only [← hji133]; first | rfl | (simp [errW_none, errW_some] <;> rfl)) | (simp [*, errW_none, errW_some] <;> rfl), by repeat (first | (with_reducible first | exact HB.out | apply below_alloc | apply pw_below_drewN | apply below_drew1 | refine below_set ?_ GE254.out) | exact HB.out)⟩
                   ·rw [if_neg c136] at H
                    exact absurd H (by simp)
                  ·rw [if_neg c135] at H
                   exact absurd H (by simp)
                 ·rw [if_neg c134] at H
                  exact absurd H (by simp)
                ·rw [if_neg c132] at H
                 have c132b0 : ((bt a0 x8_1) == 34) = false := beq_eq_false_iff_ne.mpr c132
                 have c132b1 : ((bt a0 x8_1) != 34) = true := bne_iff_ne.mpr c132
                 replace H := Option.bind_eq_some_iff.mp H
                 obtain ⟨⟨t334, t335, t336, t337, t338, t339⟩, A1380, H⟩ := H
                 replace H : (some (t334, t335, t336, t337, t338, t339)) = some (r1, r2, r3, r4, r5, r6) := H
                 have A138 := Aside0.mk A1380
                 clear A1380
                 simp only [Option.some.injEq, Prod.mk.injEq] at H
                 obtain ⟨rfl, rfl, rfl, rfl, rfl, rfl⟩ := H
                 have p97 : 0 ≤ (x8_1 : Int) := of_decide_eq_true (by first | (with_reducible assumption) | assumption)
                 have q97 : x8_1 < (a0.size : Int) := of_decide_eq_true (by first | (with_reducible assumption) | assumption)
                 have hx97 := bt_at a0 x8_1
                 replace p97 := eq_true p97
                 replace q97 := eq_true q97
                 have p131 : 0 ≤ (x8_1 : Int) := of_decide_eq_true (by first | (with_reducible assumption) | assumption)
                 have q131 : x8_1 < (a0.size : Int) := of_decide_eq_true (by first | (with_reducible assumption) | assumption)
                 have hx131 := bt_at a0 x8_1
                 replace p131 := eq_true p131
                 replace q131 := eq_true q131
                 go_wp2_with (first | ((with_reducible refine gate_callee (f := 20) rfl ?_); refine goesL_ (some 192) rfl rfl Try.func20 (by kernel_rfl) rfl #[.int .i64 t255, .int .i64 x8_1, .int .i64 82] rfl (by (try simp only [List.map_toArray, List.map_cons, List.map_nil]); first | done | rfl | (simp only [List.length_drop, List.length_take]; rfl)) ?_; (with_reducible refine (pascalineref08_bad.calls t255 x8_1 82 t334 t335 t336 t337 t338 t339 _ A138.out).mono ?_); rintro e w139 ⟨rfl, hb⟩; refine ⟨_, rfl, ?_⟩; have n0_ := Aside0.mk (blk_below (g := gb254) (o := .cells #[.int .i64 0, .int .i64 0, .int .i64 0, .string (⟨#[]⟩ : ByteArray), .int .i32 0] 33 (0, 0)) (by (with_reducible repeat (first | refine blk_drewN ?_ _ | refine blk_drew ?_ | refine blk_alloc ?_ _)); exact BK254.out) hb); have n1_ := Aside0.mk (below_step (by repeat (first | (with_reducible first | exact HB.out | apply below_alloc | apply pw_below_drewN | apply below_drew1 | refine below_set ?_ GE254.out) | exact HB.out)) hb); clear BK254; clear HB; have BK254 := n0_; have HB := n1_; clear n0_ n1_; (try clear hb); (try clear hb2); (try clear hk); (try clear hi); have hcz140_0 : w139.cell? ⟨gb254, 0, none⟩ = some (.int .i64 0) := (blk_cell BK254.out 0).trans rfl; have hcz140_1 : w139.cell? ⟨gb254, 1, none⟩ = some (.int .i64 0) := (blk_cell BK254.out 1).trans rfl; have hcz140_2 : w139.cell? ⟨gb254, 2, none⟩ = some (.int .i64 0) := (blk_cell BK254.out 2).trans rfl; have hcz140_3 : w139.cell? ⟨gb254, 3, none⟩ = some (.string (⟨#[]⟩ : ByteArray)) := (blk_cell BK254.out 3).trans rfl; have hcz140_4 : w139.cell? ⟨gb254, 4, none⟩ = some (.int .i32 0) := (blk_cell BK254.out 4).trans rfl; have hfz140_0 := blk_frozen BK254.out 0; have hfz140_1 := blk_frozen BK254.out 1; have hfz140_2 := blk_frozen BK254.out 2; have hfz140_3 := blk_frozen BK254.out 3; have hfz140_4 := blk_frozen BK254.out 4))
                 refine bodyPost_ret (results_ct rfl _ _ gb254 33 #[.int .i64 t334, .int .i64 t335, .int .i64 t336, .string t337, .int .i32 t338] (0, 0) _ rfl (by (with_reducible repeat (first | refine blk_drewN ?_ _ | refine blk_drew ?_ | refine blk_alloc ?_ _)); refine blk_put (cs := #[.int .i64 t334, .int .i64 t335, .int .i64 t336, .string t337, .int .i32 0]) ?_ 4 _ rfl; (with_reducible repeat (first | refine blk_drewN ?_ _ | refine blk_drew ?_ | refine blk_alloc ?_ _)); refine blk_put (cs := #[.int .i64 t334, .int .i64 t335, .int .i64 t336, .string (⟨#[]⟩ : ByteArray), .int .i32 0]) ?_ 3 _ rfl; (with_reducible repeat (first | refine blk_drewN ?_ _ | refine blk_drew ?_ | refine blk_alloc ?_ _)); refine blk_put (cs := #[.int .i64 t334, .int .i64 t335, .int .i64 0, .string (⟨#[]⟩ : ByteArray), .int .i32 0]) ?_ 2 _ rfl; (with_reducible repeat (first | refine blk_drewN ?_ _ | refine blk_drew ?_ | refine blk_alloc ?_ _)); refine blk_put (cs := #[.int .i64 t334, .int .i64 0, .int .i64 0, .string (⟨#[]⟩ : ByteArray), .int .i32 0]) ?_ 1 _ rfl; (with_reducible repeat (first | refine blk_drewN ?_ _ | refine blk_drew ?_ | refine blk_alloc ?_ _)); refine blk_put (cs := #[.int .i64 0, .int .i64 0, .int .i64 0, .string (⟨#[]⟩ : ByteArray), .int .i32 0]) ?_ 0 _ rfl; (with_reducible repeat (first | refine blk_drewN ?_ _ | refine blk_drew ?_ | refine blk_alloc ?_ _)); exact BK254.out) Try.underlying33 rfl (by kernel_rfl)) rfl ?_
                 exact ⟨by first | rfl | (simp [errW_none, errW_some] <;> rfl) | (simp [*, errW_none, errW_some] <;> rfl), by repeat (first | (with_reducible first | exact HB.out | apply below_alloc | apply pw_below_drewN | apply below_drew1 | refine below_set ?_ GE254.out) | exact HB.out)⟩
             ·rw [if_neg c96] at H
              exact absurd H (by simp)
            ·rw [if_neg c95] at H
             have c95b0 : decide (x8_1 < (a0.size : Int)) = false := decide_eq_false c95
             clear c95
             by_cases c141 : x8_1 = (a0.size : Int)
             ·rw [if_pos c141] at H
              have c141b0 : (x8_1 == (a0.size : Int)) = true := beq_iff_eq.mpr c141
              have c141b1 : (x8_1 != (a0.size : Int)) = false := bne_eq_false_iff_eq.mpr c141
              clear c141
              replace H := Option.bind_eq_some_iff.mp H
              obtain ⟨⟨t340, t341, t342, t343, t344, t345⟩, A1420, H⟩ := H
              replace H : (some (t340, t341, t342, t343, t344, t345)) = some (r1, r2, r3, r4, r5, r6) := H
              have A142 := Aside0.mk A1420
              clear A1420
              simp only [Option.some.injEq, Prod.mk.injEq] at H
              obtain ⟨rfl, rfl, rfl, rfl, rfl, rfl⟩ := H
              go_wp2_with (first | ((with_reducible refine gate_callee (f := 20) rfl ?_); refine goesL_ (some 192) rfl rfl Try.func20 (by kernel_rfl) rfl #[.int .i64 t255, .int .i64 x8_1, .int .i64 82] rfl (by (try simp only [List.map_toArray, List.map_cons, List.map_nil]); first | done | rfl | (simp only [List.length_drop, List.length_take]; rfl)) ?_; (with_reducible refine (pascalineref08_bad.calls t255 x8_1 82 t340 t341 t342 t343 t344 t345 _ A142.out).mono ?_); rintro e w143 ⟨rfl, hb⟩; refine ⟨_, rfl, ?_⟩; have n0_ := Aside0.mk (blk_below (g := gb254) (o := .cells #[.int .i64 0, .int .i64 0, .int .i64 0, .string (⟨#[]⟩ : ByteArray), .int .i32 0] 33 (0, 0)) (by (with_reducible repeat (first | refine blk_drewN ?_ _ | refine blk_drew ?_ | refine blk_alloc ?_ _)); exact BK254.out) hb); have n1_ := Aside0.mk (below_step (by repeat (first | (with_reducible first | exact HB.out | apply below_alloc | apply pw_below_drewN | apply below_drew1 | refine below_set ?_ GE254.out) | exact HB.out)) hb); clear BK254; clear HB; have BK254 := n0_; have HB := n1_; clear n0_ n1_; (try clear hb); (try clear hb2); (try clear hk); (try clear hi); have hcz144_0 : w143.cell? ⟨gb254, 0, none⟩ = some (.int .i64 0) := (blk_cell BK254.out 0).trans rfl; have hcz144_1 : w143.cell? ⟨gb254, 1, none⟩ = some (.int .i64 0) := (blk_cell BK254.out 1).trans rfl; have hcz144_2 : w143.cell? ⟨gb254, 2, none⟩ = some (.int .i64 0) := (blk_cell BK254.out 2).trans rfl; have hcz144_3 : w143.cell? ⟨gb254, 3, none⟩ = some (.string (⟨#[]⟩ : ByteArray)) := (blk_cell BK254.out 3).trans rfl; have hcz144_4 : w143.cell? ⟨gb254, 4, none⟩ = some (.int .i32 0) := (blk_cell BK254.out 4).trans rfl; have hfz144_0 := blk_frozen BK254.out 0; have hfz144_1 := blk_frozen BK254.out 1; have hfz144_2 := blk_frozen BK254.out 2; have hfz144_3 := blk_frozen BK254.out 3; have hfz144_4 := blk_frozen BK254.out 4))
              refine bodyPost_ret (results_ct rfl _ _ gb254 33 #[.int .i64 t340, .int .i64 t341, .int .i64 t342, .string t343, .int .i32 t344] (0, 0) _ rfl (by (with_reducible repeat (first | refine blk_drewN ?_ _ | refine blk_drew ?_ | refine blk_alloc ?_ _)); refine blk_put (cs := #[.int .i64 t340, .int .i64 t341, .int .i64 t342, .string t343, .int .i32 0]) ?_ 4 _ rfl; (with_reducible repeat (first | refine blk_drewN ?_ _ | refine blk_drew ?_ | refine blk_alloc ?_ _)); refine blk_put (cs := #[.int .i64 t340, .int .i64 t341, .int .i64 t342, .string (⟨#[]⟩ : ByteArray), .int .i32 0]) ?_ 3 _ rfl; (with_reducible repeat (first | refine blk_drewN ?_ _ | refine blk_drew ?_ | refine blk_alloc ?_ _)); refine blk_put (cs := #[.int .i64 t340, .int .i64 t341, .int .i64 0, .string (⟨#[]⟩ : ByteArray), .int .i32 0]) ?_ 2 _ rfl; (with_reducible repeat (first | refine blk_drewN ?_ _ | refine blk_drew ?_ | refine blk_alloc ?_ _)); refine blk_put (cs := #[.int .i64 t340, .int .i64 0, .int .i64 0, .string (⟨#[]⟩ : ByteArray), .int .i32 0]) ?_ 1 _ rfl; (with_reducible repeat (first | refine blk_drewN ?_ _ | refine blk_drew ?_ | refine blk_alloc ?_ _)); refine blk_put (cs := #[.int .i64 0, .int .i64 0, .int .i64 0, .string (⟨#[]⟩ : ByteArray), .int .i32 0]) ?_ 0 _ rfl; (with_reducible repeat (first | refine blk_drewN ?_ _ | refine blk_drew ?_ | refine blk_alloc ?_ _)); exact BK254.out) Try.underlying33 rfl (by kernel_rfl)) rfl ?_
              exact ⟨by first | rfl | (simp [errW_none, errW_some] <;> rfl) | (simp [*, errW_none, errW_some] <;> rfl), by repeat (first | (with_reducible first | exact HB.out | apply below_alloc | apply pw_below_drewN | apply below_drew1 | refine below_set ?_ GE254.out) | exact HB.out)⟩
             ·rw [if_neg c141] at H
              have c141b0 : (x8_1 == (a0.size : Int)) = false := beq_eq_false_iff_ne.mpr c141
              have c141b1 : (x8_1 != (a0.size : Int)) = true := bne_iff_ne.mpr c141
              by_cases c145 : 0 ≤ x8_1
              ·rw [if_pos c145] at H
               exact absurd H (by simp)
              ·rw [if_neg c145] at H
               exact absurd H (by simp)
         ·rw [if_neg c93] at H
          have c93b0 : ((bt a0 t255) == 34) = false := beq_eq_false_iff_ne.mpr c93
          have c93b1 : ((bt a0 t255) != 34) = true := bne_iff_ne.mpr c93
          have HC146 := Aside0.mk H
          clear H
          go_enter Try.func14, Try.ntmps14
          go_upto_region 31 with (first | ((with_reducible refine gate_dst (N := 4) rfl ?_); refine box_event ?hg (N := 4) ?hd (cs := #[.int .i64 0, .int .i64 0, .int .i64 0, .string (⟨#[]⟩ : ByteArray), .int .i32 0]) (t := 33) ?hr ?_; (case hd => rfl); (case hg => rfl); (case hr => first | (go_simp; done) | (go_simp; rfl)); intro gb254 hg w147 hbox hb; have n0_ := Aside0.mk (below_step (by repeat (first | (with_reducible first | exact HB.out | apply below_alloc | apply pw_below_drewN | apply below_drew1) | exact HB.out)) hb); have n1_ := Aside0.mk (hbox); have n2_ := Aside0.mk ((by rw [hg]; exact (below_size (by repeat (first | (with_reducible first | exact HB.out | apply below_alloc | apply pw_below_drewN | apply below_drew1) | exact HB.out))) : w.heap.size ≤ gb254)); have n3_ := Aside0.mk ((by rw [hg]; exact (below_size (by repeat (first | (with_reducible first | exact HB.out | apply below_alloc | apply pw_below_drewN | apply below_drew1) | exact HB.out))) : w.heap.size ≤ gb254)); clear HB; have HB := n0_; have BK254 := n1_; have GW254 := n2_; have GE254 := n3_; clear n0_ n1_ n2_ n3_; clear hb hbox hg) | ((with_reducible refine gate_callee (f := 19) rfl ?_); refine goesL_ (some 15) rfl rfl Try.func19 (by kernel_rfl) rfl #[.string a0, .int .i64 a1] rfl (by (try simp only [List.map_toArray, List.map_cons, List.map_nil]); first | done | rfl | (simp only [List.length_drop, List.length_take]; rfl)) ?_; (with_reducible refine (pascalineref08_blanks.calls k a0 a1 t255 true _ A3.out).mono ?_); rintro e w' ⟨rfl, ⟨nd, rfl⟩⟩; refine ⟨_, rfl, ?_⟩; have p10 : 0 ≤ (t255 : Int) := of_decide_eq_true (by first | (with_reducible assumption) | assumption); have q10 : t255 < (a0.size : Int) := of_decide_eq_true (by first | (with_reducible assumption) | assumption); have hx10 := bt_at a0 t255; replace p10 := eq_true p10; replace q10 := eq_true q10) | ((with_reducible refine gate_callee (f := 21) rfl ?_); refine goesL_ (some 39) rfl rfl Try.func21 (by kernel_rfl) rfl #[.int .u8 (bt a0 t255)] rfl (by (try simp only [List.map_toArray, List.map_cons, List.map_nil]); first | done | rfl | (simp only [List.length_drop, List.length_take]; rfl)) ?_; (with_reducible refine (pascalineref08_letter.calls (bt a0 t255) false _ A11.out).mono ?_); rintro e w' ⟨rfl, ⟨nd, rfl⟩⟩; refine ⟨_, rfl, ?_⟩) | ((with_reducible refine gate_callee (f := 22) rfl ?_); refine goesL_ (some 88) rfl rfl Try.func22 (by kernel_rfl) rfl #[.int .u8 (bt a0 t255)] rfl (by (try simp only [List.map_toArray, List.map_cons, List.map_nil]); first | done | rfl | (simp only [List.length_drop, List.length_take]; rfl)) ?_; (with_reducible refine (pascalineref08_digit.calls (bt a0 t255) false _ A42.out).mono ?_); rintro e w' ⟨rfl, ⟨nd, rfl⟩⟩; refine ⟨_, rfl, ?_⟩))
          (try simp only [Act.put, List.setIfInBounds_toArray, List.set_cons_zero, List.set_cons_succ])
          go_cut [216] (fun v216 wc => ∃ (kq : Nat) (x216_145 : Bool), v216 = .bool x216_145 ∧ Aside0 (pascalineref08_Next.j3 kq a0 t255 (bt a0 t255) x216_145 = some (r1, r2, r3, r4, r5, r6)) ∧ Aside0 (kq ≤ k) ∧ Aside0 (wc.heap[gb254]? = some (.cells #[.int .i64 0, .int .i64 0, .int .i64 0, .string (⟨#[]⟩ : ByteArray), .int .i32 0] 33 (0, 0))) ∧ Aside0 (Below w.heap.size w wc))
          case first =>
           have H := HC146.out
           clear HC146
           replace H := Option.bind_eq_some_iff.mp H
           obtain ⟨t346, A1480, H⟩ := H
           replace H : (if t346 = true then (pascalineref08_Next.j3 k a0 t255 (bt a0 t255) true) else ((pascalineref08_two.f a0 t255 60 61).bind fun t347 => (if t347 = true then (pascalineref08_Next.j3 k a0 t255 (bt a0 t255) true) else ((pascalineref08_two.f a0 t255 62 61).bind fun t348 => (pascalineref08_Next.j3 k a0 t255 (bt a0 t255) t348))))) = some (r1, r2, r3, r4, r5, r6) := H
           have A148 := Aside0.mk A1480
           clear A1480
           by_cases c149 : t346 = true
           ·subst c149
            have H1 : (pascalineref08_Next.j3 k a0 t255 (bt a0 t255) true) = some (r1, r2, r3, r4, r5, r6) := by rw [if_pos rfl] at H; exact H
            clear H
            have H := H1
            clear H1
            have H' := Aside0.mk H
            clear H
            go_wp2_with (first | ((with_reducible refine gate_callee (f := 25) rfl ?_); refine goesL_ (some 206) rfl rfl Try.func25 (by kernel_rfl) rfl #[.string a0, .int .i64 t255, .int .u8 58, .int .u8 61] rfl (by (try simp only [List.map_toArray, List.map_cons, List.map_nil]); first | done | rfl | (simp only [List.length_drop, List.length_take]; rfl)) ?_; (with_reducible refine (pascalineref08_two.calls a0 t255 58 61 true _ A148.out).mono ?_); rintro e w' ⟨rfl, ⟨nd, rfl⟩⟩; refine ⟨_, rfl, ?_⟩))
            go_meet
            case rel => exact ⟨_, (true), (by first | rfl | (simp; done) | (simp [*]; done)), H', ⟨by first | omega | exact Nat.le_refl _⟩, ⟨by (with_reducible repeat (first | refine blk_drewN ?_ _ | refine blk_drew ?_ | refine blk_alloc ?_ _)); exact BK254.out⟩, ⟨by repeat (first | (with_reducible first | exact HB.out | apply below_alloc | apply pw_below_drewN | apply below_drew1 | refine below_set ?_ GE254.out) | exact HB.out)⟩⟩
           ·replace c149 := Bool.eq_false_iff.mpr c149
            subst c149
            have H1 : ((pascalineref08_two.f a0 t255 60 61).bind fun t347 => (if t347 = true then (pascalineref08_Next.j3 k a0 t255 (bt a0 t255) true) else ((pascalineref08_two.f a0 t255 62 61).bind fun t348 => (pascalineref08_Next.j3 k a0 t255 (bt a0 t255) t348)))) = some (r1, r2, r3, r4, r5, r6) := by rw [if_neg (show ¬ (false = true) by decide)] at H; exact H
            clear H
            have H := H1
            clear H1
            replace H := Option.bind_eq_some_iff.mp H
            obtain ⟨t347, A1500, H⟩ := H
            replace H : (if t347 = true then (pascalineref08_Next.j3 k a0 t255 (bt a0 t255) true) else ((pascalineref08_two.f a0 t255 62 61).bind fun t348 => (pascalineref08_Next.j3 k a0 t255 (bt a0 t255) t348))) = some (r1, r2, r3, r4, r5, r6) := H
            have A150 := Aside0.mk A1500
            clear A1500
            by_cases c151 : t347 = true
            ·subst c151
             have H1 : (pascalineref08_Next.j3 k a0 t255 (bt a0 t255) true) = some (r1, r2, r3, r4, r5, r6) := by rw [if_pos rfl] at H; exact H
             clear H
             have H := H1
             clear H1
             have H' := Aside0.mk H
             clear H
             go_wp2_with (first | ((with_reducible refine gate_callee (f := 25) rfl ?_); refine goesL_ (some 206) rfl rfl Try.func25 (by kernel_rfl) rfl #[.string a0, .int .i64 t255, .int .u8 58, .int .u8 61] rfl (by (try simp only [List.map_toArray, List.map_cons, List.map_nil]); first | done | rfl | (simp only [List.length_drop, List.length_take]; rfl)) ?_; (with_reducible refine (pascalineref08_two.calls a0 t255 58 61 false _ A148.out).mono ?_); rintro e w' ⟨rfl, ⟨nd, rfl⟩⟩; refine ⟨_, rfl, ?_⟩) | (go_at_call 25; (with_reducible refine (pascalineref08_two.calls a0 t255 60 61 true _ A150.out).mono ?_); rintro e w' ⟨rfl, ⟨nd, rfl⟩⟩))
             go_meet
             case rel => exact ⟨_, (true), (by first | rfl | (simp; done) | (simp [*]; done)), H', ⟨by first | omega | exact Nat.le_refl _⟩, ⟨by (with_reducible repeat (first | refine blk_drewN ?_ _ | refine blk_drew ?_ | refine blk_alloc ?_ _)); exact BK254.out⟩, ⟨by repeat (first | (with_reducible first | exact HB.out | apply below_alloc | apply pw_below_drewN | apply below_drew1 | refine below_set ?_ GE254.out) | exact HB.out)⟩⟩
            ·replace c151 := Bool.eq_false_iff.mpr c151
             subst c151
             have H1 : ((pascalineref08_two.f a0 t255 62 61).bind fun t348 => (pascalineref08_Next.j3 k a0 t255 (bt a0 t255) t348)) = some (r1, r2, r3, r4, r5, r6) := by rw [if_neg (show ¬ (false = true) by decide)] at H; exact H
             clear H
             have H := H1
             clear H1
             replace H := Option.bind_eq_some_iff.mp H
             obtain ⟨t348, A1520, H⟩ := H
             replace H : (pascalineref08_Next.j3 k a0 t255 (bt a0 t255) t348) = some (r1, r2, r3, r4, r5, r6) := H
             have A152 := Aside0.mk A1520
             clear A1520
             have H' := Aside0.mk H
             clear H
             go_wp2_with (first | ((with_reducible refine gate_callee (f := 25) rfl ?_); refine goesL_ (some 206) rfl rfl Try.func25 (by kernel_rfl) rfl #[.string a0, .int .i64 t255, .int .u8 58, .int .u8 61] rfl (by (try simp only [List.map_toArray, List.map_cons, List.map_nil]); first | done | rfl | (simp only [List.length_drop, List.length_take]; rfl)) ?_; (with_reducible refine (pascalineref08_two.calls a0 t255 58 61 false _ A148.out).mono ?_); rintro e w' ⟨rfl, ⟨nd, rfl⟩⟩; refine ⟨_, rfl, ?_⟩) | (go_at_call 25; (with_reducible refine (pascalineref08_two.calls a0 t255 60 61 false _ A150.out).mono ?_); rintro e w' ⟨rfl, ⟨nd, rfl⟩⟩) | (go_at_call 25; (with_reducible refine (pascalineref08_two.calls a0 t255 62 61 t348 _ A152.out).mono ?_); rintro e w' ⟨rfl, ⟨nd, rfl⟩⟩))
             go_meet
             case rel => exact ⟨_, (t348), (by first | rfl | (simp; done) | (simp [*]; done)), H', ⟨by first | omega | exact Nat.le_refl _⟩, ⟨by (with_reducible repeat (first | refine blk_drewN ?_ _ | refine blk_drew ?_ | refine blk_alloc ?_ _)); exact BK254.out⟩, ⟨by repeat (first | (with_reducible first | exact HB.out | apply below_alloc | apply pw_below_drewN | apply below_drew1 | refine below_set ?_ GE254.out) | exact HB.out)⟩⟩
          case rest =>
           clear HC146
           try clear c1
           try clear p1
           try clear q1
           try clear hx1
           try clear c2
           try clear p2
           try clear q2
           try clear p3
           try clear p5
           try clear q5
           try clear c6
           try clear p6
           try clear q6
           try clear hx6
           try clear c9
           try clear p9
           try clear q9
           try clear hx9
           try clear c10
           try clear p10
           try clear q10
           try clear hx10
           try clear c11
           try clear p11
           try clear q11
           try clear hx11
           try clear c12
           try clear c13
           try clear p13
           try clear q13
           try clear hx13
           try clear c14
           try clear c15
           try clear p17
           try clear q17
           try clear c19
           try clear c20
           try clear p20
           try clear q20
           try clear c21
           try clear c22
           try clear c25
           try clear p58
           try clear q58
           try clear p60
           try clear q60
           try clear p64
           try clear q64
           try clear hx64
           try clear c65
           try clear c65b0
           try clear c65b1
           try clear c66
           try clear c66b0
           try clear c67
           try clear c67b0
           try clear c67b1
           try clear c68
           try clear c68b0
           try clear c68b1
           try clear p69
           try clear q69
           try clear hx69
           try clear c93
           try clear c93b0
           try clear c93b1
           try clear c95
           try clear c95b0
           try clear c96
           try clear c96b0
           try clear p97
           try clear q97
           try clear hx97
           try clear c98
           try clear c98b0
           try clear p99
           try clear q99
           try clear hx99
           try clear c100
           try clear c100b0
           try clear p101
           try clear q101
           try clear hx101
           try clear c102
           try clear c102b0
           try clear c102b1
           try clear c103
           try clear c103b0
           try clear c103b1
           try clear p107
           try clear q107
           try clear hx107
           try clear c109
           try clear c109b0
           try clear c109b1
           try clear c110
           try clear c110b0
           try clear c110b1
           try clear c111
           try clear c111b0
           try clear c111b1
           try clear c113
           try clear c113b0
           try clear c113b1
           try clear p117
           try clear q117
           try clear hx117
           try clear c118
           try clear c118b0
           try clear c118b1
           try clear c120
           try clear c120b0
           try clear c120b1
           try clear c121
           try clear c121b0
           try clear c121b1
           try clear c122
           try clear c122b0
           try clear c122b1
           try clear c127
           try clear c127b0
           try clear c127b1
           try clear p131
           try clear q131
           try clear hx131
           try clear c132
           try clear c132b0
           try clear c132b1
           try clear c134
           try clear c134b0
           try clear c134b1
           try clear c135
           try clear c135b0
           try clear c135b1
           try clear c136
           try clear c136b0
           try clear c136b1
           try clear c141
           try clear c141b0
           try clear c141b1
           try clear c145
           try clear c149
           try clear c151
           try clear hcz106_0
           try clear hcz106_1
           try clear hcz106_2
           try clear hcz106_3
           try clear hcz106_4
           try clear hcz112_0
           try clear hcz112_1
           try clear hcz112_2
           try clear hcz112_3
           try clear hcz112_4
           try clear hcz116_0
           try clear hcz116_1
           try clear hcz116_2
           try clear hcz116_3
           try clear hcz116_4
           try clear hcz123_0
           try clear hcz123_1
           try clear hcz123_2
           try clear hcz123_3
           try clear hcz123_4
           try clear hcz126_0
           try clear hcz126_1
           try clear hcz126_2
           try clear hcz126_3
           try clear hcz126_4
           try clear hcz130_0
           try clear hcz130_1
           try clear hcz130_2
           try clear hcz130_3
           try clear hcz130_4
           try clear hcz137_0
           try clear hcz137_1
           try clear hcz137_2
           try clear hcz137_3
           try clear hcz137_4
           try clear hcz140_0
           try clear hcz140_1
           try clear hcz140_2
           try clear hcz140_3
           try clear hcz140_4
           try clear hcz144_0
           try clear hcz144_1
           try clear hcz144_2
           try clear hcz144_3
           try clear hcz144_4
           try clear hcz26_0
           try clear hcz26_1
           try clear hcz26_2
           try clear hcz26_3
           try clear hcz26_4
           try clear hcz36_0
           try clear hcz36_1
           try clear hcz36_2
           try clear hcz36_3
           try clear hcz36_4
           try clear hcz41_0
           try clear hcz41_1
           try clear hcz41_2
           try clear hcz41_3
           try clear hcz41_4
           try clear hcz47_0
           try clear hcz47_1
           try clear hcz47_2
           try clear hcz47_3
           try clear hcz47_4
           try clear hcz52_0
           try clear hcz52_1
           try clear hcz52_2
           try clear hcz52_3
           try clear hcz52_4
           try clear hcz7_0
           try clear hcz7_1
           try clear hcz7_2
           try clear hcz7_3
           try clear hcz7_4
           try clear hcz80_0
           try clear hcz80_1
           try clear hcz80_2
           try clear hcz80_3
           try clear hcz80_4
           try clear hcz84_0
           try clear hcz84_1
           try clear hcz84_2
           try clear hcz84_3
           try clear hcz84_4
           try clear hcz88_0
           try clear hcz88_1
           try clear hcz88_2
           try clear hcz88_3
           try clear hcz88_4
           try clear hcz92_0
           try clear hcz92_1
           try clear hcz92_2
           try clear hcz92_3
           try clear hcz92_4
           try clear hfz106_0
           try clear hfz106_1
           try clear hfz106_2
           try clear hfz106_3
           try clear hfz106_4
           try clear hfz112_0
           try clear hfz112_1
           try clear hfz112_2
           try clear hfz112_3
           try clear hfz112_4
           try clear hfz116_0
           try clear hfz116_1
           try clear hfz116_2
           try clear hfz116_3
           try clear hfz116_4
           try clear hfz123_0
           try clear hfz123_1
           try clear hfz123_2
           try clear hfz123_3
           try clear hfz123_4
           try clear hfz126_0
           try clear hfz126_1
           try clear hfz126_2
           try clear hfz126_3
           try clear hfz126_4
           try clear hfz130_0
           try clear hfz130_1
           try clear hfz130_2
           try clear hfz130_3
           try clear hfz130_4
           try clear hfz137_0
           try clear hfz137_1
           try clear hfz137_2
           try clear hfz137_3
           try clear hfz137_4
           try clear hfz140_0
           try clear hfz140_1
           try clear hfz140_2
           try clear hfz140_3
           try clear hfz140_4
           try clear hfz144_0
           try clear hfz144_1
           try clear hfz144_2
           try clear hfz144_3
           try clear hfz144_4
           try clear hfz26_0
           try clear hfz26_1
           try clear hfz26_2
           try clear hfz26_3
           try clear hfz26_4
           try clear hfz36_0
           try clear hfz36_1
           try clear hfz36_2
           try clear hfz36_3
           try clear hfz36_4
           try clear hfz41_0
           try clear hfz41_1
           try clear hfz41_2
           try clear hfz41_3
           try clear hfz41_4
           try clear hfz47_0
           try clear hfz47_1
           try clear hfz47_2
           try clear hfz47_3
           try clear hfz47_4
           try clear hfz52_0
           try clear hfz52_1
           try clear hfz52_2
           try clear hfz52_3
           try clear hfz52_4
           try clear hfz7_0
           try clear hfz7_1
           try clear hfz7_2
           try clear hfz7_3
           try clear hfz7_4
           try clear hfz80_0
           try clear hfz80_1
           try clear hfz80_2
           try clear hfz80_3
           try clear hfz80_4
           try clear hfz84_0
           try clear hfz84_1
           try clear hfz84_2
           try clear hfz84_3
           try clear hfz84_4
           try clear hfz88_0
           try clear hfz88_1
           try clear hfz88_2
           try clear hfz88_3
           try clear hfz88_4
           try clear hfz92_0
           try clear hfz92_1
           try clear hfz92_2
           try clear hfz92_3
           try clear hfz92_4
           try clear p1
           try clear p10
           try clear p101
           try clear p107
           try clear p117
           try clear p131
           try clear p17
           try clear p2
           try clear p20
           try clear p3
           try clear p58
           try clear p6
           try clear p60
           try clear p64
           try clear p69
           try clear p97
           try clear p99
           try clear q1
           try clear q10
           try clear q101
           try clear q107
           try clear q117
           try clear q131
           try clear q17
           try clear q2
           try clear q20
           try clear q58
           try clear q60
           try clear q64
           try clear q69
           try clear q97
           try clear q99
           obtain ⟨kq, x216_145, rfl, HA, HJ145, BK254, HB⟩ := hcut
           cases kq with
           | zero => exact absurd HA.out (by simp [pascalineref08_Next.j3])
           | succ kj145 =>
            have H := HA.out
            clear HA
            simp only [pascalineref08_Next.j3] at H
            by_cases c153 : x216_145 = true
            ·subst c153
             have H1 : (if 0 ≤ t255 then (if t255 ≤ (wrap64 (t255 + 2)) then (if (wrap64 (t255 + 2)) ≤ (a0.size : Int) then (some (6, t255, wrap64 (t255 + 2), a0.extract (t255 : Int).toNat ((wrap64 (t255 + 2)) : Int).toNat, 0, 0)) else (none)) else (none)) else (none)) = some (r1, r2, r3, r4, r5, r6) := by rw [if_pos rfl] at H; exact H
             clear H
             have H := H1
             clear H1
             by_cases c154 : 0 ≤ t255
             ·rw [if_pos c154] at H
              have c154b0 := eq_true c154
              have c154b1 : decide (0 ≤ t255) = true := decide_eq_true c154
              clear c154
              by_cases c155 : t255 ≤ (wrap64 (t255 + 2))
              ·rw [if_pos c155] at H
               have c155b0 := eq_true c155
               have c155b1 : decide (t255 ≤ (wrap64 (t255 + 2))) = true := decide_eq_true c155
               by_cases c156 : (wrap64 (t255 + 2)) ≤ (a0.size : Int)
               ·rw [if_pos c156] at H
                have c156b0 := eq_true c156
                have c156b1 : decide ((wrap64 (t255 + 2)) ≤ (a0.size : Int)) = true := decide_eq_true c156
                simp only [Option.some.injEq, Prod.mk.injEq] at H
                obtain ⟨rfl, rfl, rfl, rfl, rfl, rfl⟩ := H
                have hcz157_0 : wc.cell? ⟨gb254, 0, none⟩ = some (.int .i64 0) := (blk_cell BK254.out 0).trans rfl
                have hcz157_1 : wc.cell? ⟨gb254, 1, none⟩ = some (.int .i64 0) := (blk_cell BK254.out 1).trans rfl
                have hcz157_2 : wc.cell? ⟨gb254, 2, none⟩ = some (.int .i64 0) := (blk_cell BK254.out 2).trans rfl
                have hcz157_3 : wc.cell? ⟨gb254, 3, none⟩ = some (.string (⟨#[]⟩ : ByteArray)) := (blk_cell BK254.out 3).trans rfl
                have hcz157_4 : wc.cell? ⟨gb254, 4, none⟩ = some (.int .i32 0) := (blk_cell BK254.out 4).trans rfl
                have hfz157_0 := blk_frozen BK254.out 0
                have hfz157_1 := blk_frozen BK254.out 1
                have hfz157_2 := blk_frozen BK254.out 2
                have hfz157_3 := blk_frozen BK254.out 3
                have hfz157_4 := blk_frozen BK254.out 4
                go_wp2
                refine bodyPost_ret (results_ct rfl _ _ gb254 33 #[.int .i64 6, .int .i64 t255, .int .i64 (wrap64 (t255 + 2)), .string (a0.extract (t255 : Int).toNat ((wrap64 (t255 + 2)) : Int).toNat), .int .i32 0] (0, 0) _ rfl (by (with_reducible repeat (first | refine blk_drewN ?_ _ | refine blk_drew ?_ | refine blk_alloc ?_ _)); refine blk_put (cs := #[.int .i64 6, .int .i64 t255, .int .i64 (wrap64 (t255 + 2)), .string (a0.extract (t255 : Int).toNat ((wrap64 (t255 + 2)) : Int).toNat), .int .i32 0]) ?_ 4 _ rfl; (with_reducible repeat (first | refine blk_drewN ?_ _ | refine blk_drew ?_ | refine blk_alloc ?_ _)); refine blk_put (cs := #[.int .i64 6, .int .i64 t255, .int .i64 (wrap64 (t255 + 2)), .string (⟨#[]⟩ : ByteArray), .int .i32 0]) ?_ 3 _ rfl; (with_reducible repeat (first | refine blk_drewN ?_ _ | refine blk_drew ?_ | refine blk_alloc ?_ _)); refine blk_put (cs := #[.int .i64 6, .int .i64 t255, .int .i64 0, .string (⟨#[]⟩ : ByteArray), .int .i32 0]) ?_ 2 _ rfl; (with_reducible repeat (first | refine blk_drewN ?_ _ | refine blk_drew ?_ | refine blk_alloc ?_ _)); refine blk_put (cs := #[.int .i64 6, .int .i64 0, .int .i64 0, .string (⟨#[]⟩ : ByteArray), .int .i32 0]) ?_ 1 _ rfl; (with_reducible repeat (first | refine blk_drewN ?_ _ | refine blk_drew ?_ | refine blk_alloc ?_ _)); refine blk_put (cs := #[.int .i64 0, .int .i64 0, .int .i64 0, .string (⟨#[]⟩ : ByteArray), .int .i32 0]) ?_ 0 _ rfl; (with_reducible repeat (first | refine blk_drewN ?_ _ | refine blk_drew ?_ | refine blk_alloc ?_ _)); exact BK254.out) Try.underlying33 rfl (by kernel_rfl)) rfl ?_
                exact ⟨by first | rfl | (simp [errW_none, errW_some] <;> rfl) | (simp [*, errW_none, errW_some] <;> rfl), by repeat (first | (with_reducible first | exact HB.out | apply below_alloc | apply pw_below_drewN | apply below_drew1 | refine below_set ?_ GE254.out) | exact HB.out)⟩
               ·rw [if_neg c156] at H
                exact absurd H (by simp)
              ·rw [if_neg c155] at H
               exact absurd H (by simp)
             ·rw [if_neg c154] at H
              exact absurd H (by simp)
            ·replace c153 := Bool.eq_false_iff.mpr c153
             subst c153
             have H1 : (pascalineref08_Next.l2 kj145 a0 t255 (bt a0 t255) (⟨#[43, 45, 42, 61, 35, 60, 62, 40, 41, 91, 93, 46, 44, 59, 58, 94, 124]⟩ : ByteArray) 0) = some (r1, r2, r3, r4, r5, r6) := by rw [if_neg (show ¬ (false = true) by decide)] at H; exact H
             clear H
             have H := H1
             clear H1
             have H' := Aside0.mk H
             clear H
             go_wp2
             go_loopg [11] kj145 (fun kq v11 w' => ∃ (x11_2 : Int) (x255000_2 : Int) (x255001_2 : Int) (x255002_2 : Int) (x255003_2 : ByteArray) (x255004_2 : Int), v11 = .int .i64 x11_2 ∧ Aside0 (pascalineref08_Next.l2 kq a0 t255 (bt a0 t255) (⟨#[43, 45, 42, 61, 35, 60, 62, 40, 41, 91, 93, 46, 44, 59, 58, 94, 124]⟩ : ByteArray) x11_2 = some (r1, r2, r3, r4, r5, r6)) ∧ Aside0 (kq ≤ kj145) ∧ Aside0 (w'.heap[gb254]? = some (.cells #[.int .i64 x255000_2, .int .i64 x255001_2, .int .i64 x255002_2, .string x255003_2, .int .i32 x255004_2] 33 (0, 0))) ∧ Aside0 (Below w.heap.size w w'))
             case atStart => exact ⟨(0), (0), (0), (0), ((⟨#[]⟩ : ByteArray)), (0), (by first | rfl | (simp; done) | (simp [*]; done)), H', ⟨Nat.le_refl _⟩, ⟨by (with_reducible repeat (first | refine blk_drewN ?_ _ | refine blk_drew ?_ | refine blk_alloc ?_ _)); exact BK254.out⟩, ⟨by repeat (first | (with_reducible first | exact HB.out | apply below_alloc | apply pw_below_drewN | apply below_drew1 | refine below_set ?_ GE254.out) | exact HB.out)⟩⟩
             case round =>
              clear H'
              try clear c1
              try clear p1
              try clear q1
              try clear hx1
              try clear c2
              try clear p2
              try clear q2
              try clear p3
              try clear p5
              try clear q5
              try clear c6
              try clear p6
              try clear q6
              try clear hx6
              try clear c9
              try clear p9
              try clear q9
              try clear hx9
              try clear c10
              try clear p10
              try clear q10
              try clear hx10
              try clear c11
              try clear p11
              try clear q11
              try clear hx11
              try clear c12
              try clear c13
              try clear p13
              try clear q13
              try clear hx13
              try clear c14
              try clear c15
              try clear p17
              try clear q17
              try clear c19
              try clear c20
              try clear p20
              try clear q20
              try clear c21
              try clear c22
              try clear c25
              try clear p58
              try clear q58
              try clear p60
              try clear q60
              try clear p64
              try clear q64
              try clear hx64
              try clear c65
              try clear c65b0
              try clear c65b1
              try clear c66
              try clear c66b0
              try clear c67
              try clear c67b0
              try clear c67b1
              try clear c68
              try clear c68b0
              try clear c68b1
              try clear p69
              try clear q69
              try clear hx69
              try clear c93
              try clear c93b0
              try clear c93b1
              try clear c95
              try clear c95b0
              try clear c96
              try clear c96b0
              try clear p97
              try clear q97
              try clear hx97
              try clear c98
              try clear c98b0
              try clear p99
              try clear q99
              try clear hx99
              try clear c100
              try clear c100b0
              try clear p101
              try clear q101
              try clear hx101
              try clear c102
              try clear c102b0
              try clear c102b1
              try clear c103
              try clear c103b0
              try clear c103b1
              try clear p107
              try clear q107
              try clear hx107
              try clear c109
              try clear c109b0
              try clear c109b1
              try clear c110
              try clear c110b0
              try clear c110b1
              try clear c111
              try clear c111b0
              try clear c111b1
              try clear c113
              try clear c113b0
              try clear c113b1
              try clear p117
              try clear q117
              try clear hx117
              try clear c118
              try clear c118b0
              try clear c118b1
              try clear c120
              try clear c120b0
              try clear c120b1
              try clear c121
              try clear c121b0
              try clear c121b1
              try clear c122
              try clear c122b0
              try clear c122b1
              try clear c127
              try clear c127b0
              try clear c127b1
              try clear p131
              try clear q131
              try clear hx131
              try clear c132
              try clear c132b0
              try clear c132b1
              try clear c134
              try clear c134b0
              try clear c134b1
              try clear c135
              try clear c135b0
              try clear c135b1
              try clear c136
              try clear c136b0
              try clear c136b1
              try clear c141
              try clear c141b0
              try clear c141b1
              try clear c145
              try clear c149
              try clear c151
              try clear c153
              try clear c154
              try clear c154b0
              try clear c154b1
              try clear c155
              try clear c155b0
              try clear c155b1
              try clear c156
              try clear c156b0
              try clear c156b1
              try clear hcz106_0
              try clear hcz106_1
              try clear hcz106_2
              try clear hcz106_3
              try clear hcz106_4
              try clear hcz112_0
              try clear hcz112_1
              try clear hcz112_2
              try clear hcz112_3
              try clear hcz112_4
              try clear hcz116_0
              try clear hcz116_1
              try clear hcz116_2
              try clear hcz116_3
              try clear hcz116_4
              try clear hcz123_0
              try clear hcz123_1
              try clear hcz123_2
              try clear hcz123_3
              try clear hcz123_4
              try clear hcz126_0
              try clear hcz126_1
              try clear hcz126_2
              try clear hcz126_3
              try clear hcz126_4
              try clear hcz130_0
              try clear hcz130_1
              try clear hcz130_2
              try clear hcz130_3
              try clear hcz130_4
              try clear hcz137_0
              try clear hcz137_1
              try clear hcz137_2
              try clear hcz137_3
              try clear hcz137_4
              try clear hcz140_0
              try clear hcz140_1
              try clear hcz140_2
              try clear hcz140_3
              try clear hcz140_4
              try clear hcz144_0
              try clear hcz144_1
              try clear hcz144_2
              try clear hcz144_3
              try clear hcz144_4
              try clear hcz157_0
              try clear hcz157_1
              try clear hcz157_2
              try clear hcz157_3
              try clear hcz157_4
              try clear hcz26_0
              try clear hcz26_1
              try clear hcz26_2
              try clear hcz26_3
              try clear hcz26_4
              try clear hcz36_0
              try clear hcz36_1
              try clear hcz36_2
              try clear hcz36_3
              try clear hcz36_4
              try clear hcz41_0
              try clear hcz41_1
              try clear hcz41_2
              try clear hcz41_3
              try clear hcz41_4
              try clear hcz47_0
              try clear hcz47_1
              try clear hcz47_2
              try clear hcz47_3
              try clear hcz47_4
              try clear hcz52_0
              try clear hcz52_1
              try clear hcz52_2
              try clear hcz52_3
              try clear hcz52_4
              try clear hcz7_0
              try clear hcz7_1
              try clear hcz7_2
              try clear hcz7_3
              try clear hcz7_4
              try clear hcz80_0
              try clear hcz80_1
              try clear hcz80_2
              try clear hcz80_3
              try clear hcz80_4
              try clear hcz84_0
              try clear hcz84_1
              try clear hcz84_2
              try clear hcz84_3
              try clear hcz84_4
              try clear hcz88_0
              try clear hcz88_1
              try clear hcz88_2
              try clear hcz88_3
              try clear hcz88_4
              try clear hcz92_0
              try clear hcz92_1
              try clear hcz92_2
              try clear hcz92_3
              try clear hcz92_4
              try clear hfz106_0
              try clear hfz106_1
              try clear hfz106_2
              try clear hfz106_3
              try clear hfz106_4
              try clear hfz112_0
              try clear hfz112_1
              try clear hfz112_2
              try clear hfz112_3
              try clear hfz112_4
              try clear hfz116_0
              try clear hfz116_1
              try clear hfz116_2
              try clear hfz116_3
              try clear hfz116_4
              try clear hfz123_0
              try clear hfz123_1
              try clear hfz123_2
              try clear hfz123_3
              try clear hfz123_4
              try clear hfz126_0
              try clear hfz126_1
              try clear hfz126_2
              try clear hfz126_3
              try clear hfz126_4
              try clear hfz130_0
              try clear hfz130_1
              try clear hfz130_2
              try clear hfz130_3
              try clear hfz130_4
              try clear hfz137_0
              try clear hfz137_1
              try clear hfz137_2
              try clear hfz137_3
              try clear hfz137_4
              try clear hfz140_0
              try clear hfz140_1
              try clear hfz140_2
              try clear hfz140_3
              try clear hfz140_4
              try clear hfz144_0
              try clear hfz144_1
              try clear hfz144_2
              try clear hfz144_3
              try clear hfz144_4
              try clear hfz157_0
              try clear hfz157_1
              try clear hfz157_2
              try clear hfz157_3
              try clear hfz157_4
              try clear hfz26_0
              try clear hfz26_1
              try clear hfz26_2
              try clear hfz26_3
              try clear hfz26_4
              try clear hfz36_0
              try clear hfz36_1
              try clear hfz36_2
              try clear hfz36_3
              try clear hfz36_4
              try clear hfz41_0
              try clear hfz41_1
              try clear hfz41_2
              try clear hfz41_3
              try clear hfz41_4
              try clear hfz47_0
              try clear hfz47_1
              try clear hfz47_2
              try clear hfz47_3
              try clear hfz47_4
              try clear hfz52_0
              try clear hfz52_1
              try clear hfz52_2
              try clear hfz52_3
              try clear hfz52_4
              try clear hfz7_0
              try clear hfz7_1
              try clear hfz7_2
              try clear hfz7_3
              try clear hfz7_4
              try clear hfz80_0
              try clear hfz80_1
              try clear hfz80_2
              try clear hfz80_3
              try clear hfz80_4
              try clear hfz84_0
              try clear hfz84_1
              try clear hfz84_2
              try clear hfz84_3
              try clear hfz84_4
              try clear hfz88_0
              try clear hfz88_1
              try clear hfz88_2
              try clear hfz88_3
              try clear hfz88_4
              try clear hfz92_0
              try clear hfz92_1
              try clear hfz92_2
              try clear hfz92_3
              try clear hfz92_4
              try clear p1
              try clear p10
              try clear p101
              try clear p107
              try clear p11
              try clear p117
              try clear p13
              try clear p131
              try clear p17
              try clear p2
              try clear p20
              try clear p3
              try clear p5
              try clear p58
              try clear p6
              try clear p60
              try clear p64
              try clear p69
              try clear p9
              try clear p97
              try clear p99
              try clear q1
              try clear q10
              try clear q101
              try clear q107
              try clear q11
              try clear q117
              try clear q13
              try clear q131
              try clear q17
              try clear q2
              try clear q20
              try clear q5
              try clear q58
              try clear q6
              try clear q60
              try clear q64
              try clear q69
              try clear q9
              try clear q97
              try clear q99
              obtain ⟨x11_2, x255000_2, x255001_2, x255002_2, x255003_2, x255004_2, rfl, HA, HK2, BK254, HB⟩ := hrel
              cases gk with
              | zero => exact absurd HA.out (by simp [pascalineref08_Next.l2])
              | succ k2 =>
               have H := HA.out
               clear HA
               simp only [pascalineref08_Next.l2] at H
               by_cases c158 : x11_2 < ((⟨#[43, 45, 42, 61, 35, 60, 62, 40, 41, 91, 93, 46, 44, 59, 58, 94, 124]⟩ : ByteArray).size : Int)
               ·rw [if_pos c158] at H
                have c158b0 : decide (x11_2 < ((⟨#[43, 45, 42, 61, 35, 60, 62, 40, 41, 91, 93, 46, 44, 59, 58, 94, 124]⟩ : ByteArray).size : Int)) = true := decide_eq_true c158
                clear c158
                by_cases c159 : 0 ≤ x11_2
                ·rw [if_pos c159] at H
                 have c159b0 : decide (0 ≤ x11_2) = true := decide_eq_true c159
                 clear c159
                 by_cases c161 : (bt (⟨#[43, 45, 42, 61, 35, 60, 62, 40, 41, 91, 93, 46, 44, 59, 58, 94, 124]⟩ : ByteArray) x11_2) = (bt a0 t255)
                 ·rw [if_pos c161] at H
                  have c161b0 : ((bt (⟨#[43, 45, 42, 61, 35, 60, 62, 40, 41, 91, 93, 46, 44, 59, 58, 94, 124]⟩ : ByteArray) x11_2) == (bt a0 t255)) = true := beq_iff_eq.mpr c161
                  have c161b1 : ((bt (⟨#[43, 45, 42, 61, 35, 60, 62, 40, 41, 91, 93, 46, 44, 59, 58, 94, 124]⟩ : ByteArray) x11_2) != (bt a0 t255)) = false := bne_eq_false_iff_eq.mpr c161
                  clear c161
                  by_cases c162 : 0 ≤ t255
                  ·rw [if_pos c162] at H
                   have c162b0 := eq_true c162
                   have c162b1 : decide (0 ≤ t255) = true := decide_eq_true c162
                   clear c162
                   by_cases c163 : t255 ≤ (wrap64 (t255 + 1))
                   ·rw [if_pos c163] at H
                    have c163b0 := eq_true c163
                    have c163b1 : decide (t255 ≤ (wrap64 (t255 + 1))) = true := decide_eq_true c163
                    by_cases c164 : (wrap64 (t255 + 1)) ≤ (a0.size : Int)
                    ·rw [if_pos c164] at H
                     have c164b0 := eq_true c164
                     have c164b1 : decide ((wrap64 (t255 + 1)) ≤ (a0.size : Int)) = true := decide_eq_true c164
                     simp only [Option.some.injEq, Prod.mk.injEq] at H
                     obtain ⟨rfl, rfl, rfl, rfl, rfl, rfl⟩ := H
                     have p160 : 0 ≤ (x11_2 : Int) := of_decide_eq_true (by first | (with_reducible assumption) | assumption)
                     have q160 : x11_2 < (17 : Int) := of_decide_eq_true (by first | (with_reducible assumption) | assumption)
                     have hx160 := bt_at (⟨#[43, 45, 42, 61, 35, 60, 62, 40, 41, 91, 93, 46, 44, 59, 58, 94, 124]⟩ : ByteArray) x11_2
                     replace p160 := eq_true p160
                     replace q160 := eq_true q160
                     have hcz165_0 : wr.cell? ⟨gb254, 0, none⟩ = some (.int .i64 x255000_2) := (blk_cell BK254.out 0).trans rfl
                     have hcz165_1 : wr.cell? ⟨gb254, 1, none⟩ = some (.int .i64 x255001_2) := (blk_cell BK254.out 1).trans rfl
                     have hcz165_2 : wr.cell? ⟨gb254, 2, none⟩ = some (.int .i64 x255002_2) := (blk_cell BK254.out 2).trans rfl
                     have hcz165_3 : wr.cell? ⟨gb254, 3, none⟩ = some (.string x255003_2) := (blk_cell BK254.out 3).trans rfl
                     have hcz165_4 : wr.cell? ⟨gb254, 4, none⟩ = some (.int .i32 x255004_2) := (blk_cell BK254.out 4).trans rfl
                     have hfz165_0 := blk_frozen BK254.out 0
                     have hfz165_1 := blk_frozen BK254.out 1
                     have hfz165_2 := blk_frozen BK254.out 2
                     have hfz165_3 := blk_frozen BK254.out 3
                     have hfz165_4 := blk_frozen BK254.out 4
                     go_wp2
                     refine bodyPost_ret (results_ct rfl _ _ gb254 33 #[.int .i64 6, .int .i64 t255, .int .i64 (wrap64 (t255 + 1)), .string (a0.extract (t255 : Int).toNat ((wrap64 (t255 + 1)) : Int).toNat), .int .i32 0] (0, 0) _ rfl (by (with_reducible repeat (first | refine blk_drewN ?_ _ | refine blk_drew ?_ | refine blk_alloc ?_ _)); refine blk_put (cs := #[.int .i64 6, .int .i64 t255, .int .i64 (wrap64 (t255 + 1)), .string (a0.extract (t255 : Int).toNat ((wrap64 (t255 + 1)) : Int).toNat), .int .i32 x255004_2]) ?_ 4 _ rfl; (with_reducible repeat (first | refine blk_drewN ?_ _ | refine blk_drew ?_ | refine blk_alloc ?_ _)); refine blk_put (cs := #[.int .i64 6, .int .i64 t255, .int .i64 (wrap64 (t255 + 1)), .string x255003_2, .int .i32 x255004_2]) ?_ 3 _ rfl; (with_reducible repeat (first | refine blk_drewN ?_ _ | refine blk_drew ?_ | refine blk_alloc ?_ _)); refine blk_put (cs := #[.int .i64 6, .int .i64 t255, .int .i64 x255002_2, .string x255003_2, .int .i32 x255004_2]) ?_ 2 _ rfl; (with_reducible repeat (first | refine blk_drewN ?_ _ | refine blk_drew ?_ | refine blk_alloc ?_ _)); refine blk_put (cs := #[.int .i64 6, .int .i64 x255001_2, .int .i64 x255002_2, .string x255003_2, .int .i32 x255004_2]) ?_ 1 _ rfl; (with_reducible repeat (first | refine blk_drewN ?_ _ | refine blk_drew ?_ | refine blk_alloc ?_ _)); refine blk_put (cs := #[.int .i64 x255000_2, .int .i64 x255001_2, .int .i64 x255002_2, .string x255003_2, .int .i32 x255004_2]) ?_ 0 _ rfl; (with_reducible repeat (first | refine blk_drewN ?_ _ | refine blk_drew ?_ | refine blk_alloc ?_ _)); exact BK254.out) Try.underlying33 rfl (by kernel_rfl)) rfl ?_
                     exact ⟨by first | rfl | (simp [errW_none, errW_some] <;> rfl) | (simp [*, errW_none, errW_some] <;> rfl), by repeat (first | (with_reducible first | exact HB.out | apply below_alloc | apply pw_below_drewN | apply below_drew1 | refine below_set ?_ GE254.out) | exact HB.out)⟩
                    ·rw [if_neg c164] at H
                     exact absurd H (by simp)
                   ·rw [if_neg c163] at H
                    exact absurd H (by simp)
                  ·rw [if_neg c162] at H
                   exact absurd H (by simp)
                 ·rw [if_neg c161] at H
                  have c161b0 : ((bt (⟨#[43, 45, 42, 61, 35, 60, 62, 40, 41, 91, 93, 46, 44, 59, 58, 94, 124]⟩ : ByteArray) x11_2) == (bt a0 t255)) = false := beq_eq_false_iff_ne.mpr c161
                  have c161b1 : ((bt (⟨#[43, 45, 42, 61, 35, 60, 62, 40, 41, 91, 93, 46, 44, 59, 58, 94, 124]⟩ : ByteArray) x11_2) != (bt a0 t255)) = true := bne_iff_ne.mpr c161
                  have H' := Aside0.mk H
                  clear H
                  have p160 : 0 ≤ (x11_2 : Int) := of_decide_eq_true (by first | (with_reducible assumption) | assumption)
                  have q160 : x11_2 < (17 : Int) := of_decide_eq_true (by first | (with_reducible assumption) | assumption)
                  have hx160 := bt_at (⟨#[43, 45, 42, 61, 35, 60, 62, 40, 41, 91, 93, 46, 44, 59, 58, 94, 124]⟩ : ByteArray) x11_2
                  replace p160 := eq_true p160
                  replace q160 := eq_true q160
                  go_wp2
                  go_roundg k2
                  case measure => have := HJ145.out; have := HK2.out; omega
                  case rel => exact ⟨(wrap64 (x11_2 + 1)), (x255000_2), (x255001_2), (x255002_2), (x255003_2), (x255004_2), (by first | rfl | (simp; done) | (simp [*]; done)), H', ⟨by have := HJ145.out; have := HK2.out; omega⟩, ⟨by (with_reducible repeat (first | refine blk_drewN ?_ _ | refine blk_drew ?_ | refine blk_alloc ?_ _)); exact BK254.out⟩, ⟨by repeat (first | (with_reducible first | exact HB.out | apply below_alloc | apply pw_below_drewN | apply below_drew1 | refine below_set ?_ GE254.out) | exact HB.out)⟩⟩
                ·rw [if_neg c159] at H
                 exact absurd H (by simp)
               ·rw [if_neg c158] at H
                have c158b0 : decide (x11_2 < ((⟨#[43, 45, 42, 61, 35, 60, 62, 40, 41, 91, 93, 46, 44, 59, 58, 94, 124]⟩ : ByteArray).size : Int)) = false := decide_eq_false c158
                have c158x : decide (x11_2 < (17 : Int)) = false := decide_eq_false (show ¬ x11_2 < (17 : Int) from c158)
                clear c158
                replace H := Option.bind_eq_some_iff.mp H
                obtain ⟨⟨t349, t350, t351, t352, t353, t354⟩, A1660, H⟩ := H
                replace H : (some (t349, t350, t351, t352, t353, t354)) = some (r1, r2, r3, r4, r5, r6) := H
                have A166 := Aside0.mk A1660
                clear A1660
                simp only [Option.some.injEq, Prod.mk.injEq] at H
                obtain ⟨rfl, rfl, rfl, rfl, rfl, rfl⟩ := H
                go_wp2_with (first | ((with_reducible refine gate_callee (f := 20) rfl ?_); refine goesL_ (some 249) rfl rfl Try.func20 (by kernel_rfl) rfl #[.int .i64 t255, .int .i64 (wrap64 (t255 + 1)), .int .i64 83] rfl (by (try simp only [List.map_toArray, List.map_cons, List.map_nil]); first | done | rfl | (simp only [List.length_drop, List.length_take]; rfl)) ?_; (with_reducible refine (pascalineref08_bad.calls t255 (wrap64 (t255 + 1)) 83 t349 t350 t351 t352 t353 t354 _ A166.out).mono ?_); rintro e w167 ⟨rfl, hb⟩; refine ⟨_, rfl, ?_⟩; have n0_ := Aside0.mk (blk_below (g := gb254) (o := .cells #[.int .i64 x255000_2, .int .i64 x255001_2, .int .i64 x255002_2, .string x255003_2, .int .i32 x255004_2] 33 (0, 0)) (by (with_reducible repeat (first | refine blk_drewN ?_ _ | refine blk_drew ?_ | refine blk_alloc ?_ _)); exact BK254.out) hb); have n1_ := Aside0.mk (below_step (by repeat (first | (with_reducible first | exact HB.out | apply below_alloc | apply pw_below_drewN | apply below_drew1 | refine below_set ?_ GE254.out) | exact HB.out)) hb); clear BK254; clear HB; have BK254 := n0_; have HB := n1_; clear n0_ n1_; (try clear hb); (try clear hb2); (try clear hk); (try clear hi); have hcz168_0 : w167.cell? ⟨gb254, 0, none⟩ = some (.int .i64 x255000_2) := (blk_cell BK254.out 0).trans rfl; have hcz168_1 : w167.cell? ⟨gb254, 1, none⟩ = some (.int .i64 x255001_2) := (blk_cell BK254.out 1).trans rfl; have hcz168_2 : w167.cell? ⟨gb254, 2, none⟩ = some (.int .i64 x255002_2) := (blk_cell BK254.out 2).trans rfl; have hcz168_3 : w167.cell? ⟨gb254, 3, none⟩ = some (.string x255003_2) := (blk_cell BK254.out 3).trans rfl; have hcz168_4 : w167.cell? ⟨gb254, 4, none⟩ = some (.int .i32 x255004_2) := (blk_cell BK254.out 4).trans rfl; have hfz168_0 := blk_frozen BK254.out 0; have hfz168_1 := blk_frozen BK254.out 1; have hfz168_2 := blk_frozen BK254.out 2; have hfz168_3 := blk_frozen BK254.out 3; have hfz168_4 := blk_frozen BK254.out 4))
                refine bodyPost_ret (results_ct rfl _ _ gb254 33 #[.int .i64 t349, .int .i64 t350, .int .i64 t351, .string t352, .int .i32 t353] (0, 0) _ rfl (by (with_reducible repeat (first | refine blk_drewN ?_ _ | refine blk_drew ?_ | refine blk_alloc ?_ _)); refine blk_put (cs := #[.int .i64 t349, .int .i64 t350, .int .i64 t351, .string t352, .int .i32 x255004_2]) ?_ 4 _ rfl; (with_reducible repeat (first | refine blk_drewN ?_ _ | refine blk_drew ?_ | refine blk_alloc ?_ _)); refine blk_put (cs := #[.int .i64 t349, .int .i64 t350, .int .i64 t351, .string x255003_2, .int .i32 x255004_2]) ?_ 3 _ rfl; (with_reducible repeat (first | refine blk_drewN ?_ _ | refine blk_drew ?_ | refine blk_alloc ?_ _)); refine blk_put (cs := #[.int .i64 t349, .int .i64 t350, .int .i64 x255002_2, .string x255003_2, .int .i32 x255004_2]) ?_ 2 _ rfl; (with_reducible repeat (first | refine blk_drewN ?_ _ | refine blk_drew ?_ | refine blk_alloc ?_ _)); refine blk_put (cs := #[.int .i64 t349, .int .i64 x255001_2, .int .i64 x255002_2, .string x255003_2, .int .i32 x255004_2]) ?_ 1 _ rfl; (with_reducible repeat (first | refine blk_drewN ?_ _ | refine blk_drew ?_ | refine blk_alloc ?_ _)); refine blk_put (cs := #[.int .i64 x255000_2, .int .i64 x255001_2, .int .i64 x255002_2, .string x255003_2, .int .i32 x255004_2]) ?_ 0 _ rfl; (with_reducible repeat (first | refine blk_drewN ?_ _ | refine blk_drew ?_ | refine blk_alloc ?_ _)); exact BK254.out) Try.underlying33 rfl (by kernel_rfl)) rfl ?_
                exact ⟨by first | rfl | (simp [errW_none, errW_some] <;> rfl) | (simp [*, errW_none, errW_some] <;> rfl), by repeat (first | (with_reducible first | exact HB.out | apply below_alloc | apply pw_below_drewN | apply below_drew1 | refine below_set ?_ GE254.out) | exact HB.out)⟩
    ·rw [if_neg c9] at H
     exact absurd H (by simp)
   ·rw [if_neg c8] at H
    exact absurd H (by simp)
 ·replace c4 := Bool.eq_false_iff.mpr c4
  subst c4
  have H1 : ((pascalineref08_bad.f a1 (a0.size : Int) 81).bind fun bt257 => (some (bt257.1, bt257.2.1, bt257.2.2.1, bt257.2.2.2.1, bt257.2.2.2.2.1, bt257.2.2.2.2.2))) = some (r1, r2, r3, r4, r5, r6) := by rw [if_neg (show ¬ (false = true) by decide)] at H; exact H
  clear H
  have H := H1
  clear H1
  replace H := Option.bind_eq_some_iff.mp H
  obtain ⟨⟨t257, t258, t259, t260, t261, t262⟩, A1690, H⟩ := H
  replace H : (some (t257, t258, t259, t260, t261, t262)) = some (r1, r2, r3, r4, r5, r6) := H
  have A169 := Aside0.mk A1690
  clear A1690
  simp only [Option.some.injEq, Prod.mk.injEq] at H
  obtain ⟨rfl, rfl, rfl, rfl, rfl, rfl⟩ := H
  go_enter Try.func14, Try.ntmps14
  go_wp2_with (first | ((with_reducible refine gate_dst (N := 4) rfl ?_); refine box_event ?hg (N := 4) ?hd (cs := #[.int .i64 0, .int .i64 0, .int .i64 0, .string (⟨#[]⟩ : ByteArray), .int .i32 0]) (t := 33) ?hr ?_; (case hd => rfl); (case hg => rfl); (case hr => first | (go_simp; done) | (go_simp; rfl)); intro gb254 hg w170 hbox hb; have n0_ := Aside0.mk (below_step (by repeat (first | (with_reducible first | exact HB.out | apply below_alloc | apply pw_below_drewN | apply below_drew1) | exact HB.out)) hb); have n1_ := Aside0.mk (hbox); have n2_ := Aside0.mk ((by rw [hg]; exact (below_size (by repeat (first | (with_reducible first | exact HB.out | apply below_alloc | apply pw_below_drewN | apply below_drew1) | exact HB.out))) : w.heap.size ≤ gb254)); have n3_ := Aside0.mk ((by rw [hg]; exact (below_size (by repeat (first | (with_reducible first | exact HB.out | apply below_alloc | apply pw_below_drewN | apply below_drew1) | exact HB.out))) : w.heap.size ≤ gb254)); clear HB; have HB := n0_; have BK254 := n1_; have GW254 := n2_; have GE254 := n3_; clear n0_ n1_ n2_ n3_; clear hb hbox hg) | ((with_reducible refine gate_callee (f := 19) rfl ?_); refine goesL_ (some 15) rfl rfl Try.func19 (by kernel_rfl) rfl #[.string a0, .int .i64 a1] rfl (by (try simp only [List.map_toArray, List.map_cons, List.map_nil]); first | done | rfl | (simp only [List.length_drop, List.length_take]; rfl)) ?_; (with_reducible refine (pascalineref08_blanks.calls k a0 a1 t255 false _ A3.out).mono ?_); rintro e w' ⟨rfl, ⟨nd, rfl⟩⟩; refine ⟨_, rfl, ?_⟩; (try (rw [drewN_self w170]; generalize hq_ : World.drewN w170 _ = w170; have n0_ : Aside0 (w170.heap[gb254]? = some (.cells #[.int .i64 0, .int .i64 0, .int .i64 0, .string (⟨#[]⟩ : ByteArray), .int .i32 0] 33 (0, 0))) := ⟨by rw [← hq_]; exact (by (with_reducible repeat (first | refine blk_drewN ?_ _ | refine blk_drew ?_ | refine blk_alloc ?_ _)); exact BK254.out)⟩; have n1_ : Aside0 (Below w.heap.size w w170) := ⟨by rw [← hq_]; exact (by repeat (first | (with_reducible first | exact HB.out | apply below_alloc | apply pw_below_drewN | apply below_drew1 | refine below_set ?_ GE254.out) | exact HB.out))⟩; clear BK254 HB hq_; have BK254 := n0_; have HB := n1_; clear n0_ n1_))) | ((with_reducible refine gate_callee (f := 20) rfl ?_); refine goesL_ (some 23) rfl rfl Try.func20 (by kernel_rfl) rfl #[.int .i64 a1, .int .i64 (a0.size : Int), .int .i64 81] rfl (by (try simp only [List.map_toArray, List.map_cons, List.map_nil]); first | done | rfl | (simp only [List.length_drop, List.length_take]; rfl)) ?_; (with_reducible refine (pascalineref08_bad.calls a1 (a0.size : Int) 81 t257 t258 t259 t260 t261 t262 _ A169.out).mono ?_); rintro e w171 ⟨rfl, hb⟩; refine ⟨_, rfl, ?_⟩; have n0_ := Aside0.mk (blk_below (g := gb254) (o := .cells #[.int .i64 0, .int .i64 0, .int .i64 0, .string (⟨#[]⟩ : ByteArray), .int .i32 0] 33 (0, 0)) (by (with_reducible repeat (first | refine blk_drewN ?_ _ | refine blk_drew ?_ | refine blk_alloc ?_ _)); exact BK254.out) hb); have n1_ := Aside0.mk (below_step (by repeat (first | (with_reducible first | exact HB.out | apply below_alloc | apply pw_below_drewN | apply below_drew1 | refine below_set ?_ GE254.out) | exact HB.out)) hb); clear BK254; clear HB; have BK254 := n0_; have HB := n1_; clear n0_ n1_; (try clear hb); (try clear hb2); (try clear hk); (try clear hi); have hcz172_0 : w171.cell? ⟨gb254, 0, none⟩ = some (.int .i64 0) := (blk_cell BK254.out 0).trans rfl; have hcz172_1 : w171.cell? ⟨gb254, 1, none⟩ = some (.int .i64 0) := (blk_cell BK254.out 1).trans rfl; have hcz172_2 : w171.cell? ⟨gb254, 2, none⟩ = some (.int .i64 0) := (blk_cell BK254.out 2).trans rfl; have hcz172_3 : w171.cell? ⟨gb254, 3, none⟩ = some (.string (⟨#[]⟩ : ByteArray)) := (blk_cell BK254.out 3).trans rfl; have hcz172_4 : w171.cell? ⟨gb254, 4, none⟩ = some (.int .i32 0) := (blk_cell BK254.out 4).trans rfl; have hfz172_0 := blk_frozen BK254.out 0; have hfz172_1 := blk_frozen BK254.out 1; have hfz172_2 := blk_frozen BK254.out 2; have hfz172_3 := blk_frozen BK254.out 3; have hfz172_4 := blk_frozen BK254.out 4))
  refine bodyPost_ret (results_ct rfl _ _ gb254 33 #[.int .i64 t257, .int .i64 t258, .int .i64 t259, .string t260, .int .i32 t261] (0, 0) _ rfl (by (with_reducible repeat (first | refine blk_drewN ?_ _ | refine blk_drew ?_ | refine blk_alloc ?_ _)); refine blk_put (cs := #[.int .i64 t257, .int .i64 t258, .int .i64 t259, .string t260, .int .i32 0]) ?_ 4 _ rfl; (with_reducible repeat (first | refine blk_drewN ?_ _ | refine blk_drew ?_ | refine blk_alloc ?_ _)); refine blk_put (cs := #[.int .i64 t257, .int .i64 t258, .int .i64 t259, .string (⟨#[]⟩ : ByteArray), .int .i32 0]) ?_ 3 _ rfl; (with_reducible repeat (first | refine blk_drewN ?_ _ | refine blk_drew ?_ | refine blk_alloc ?_ _)); refine blk_put (cs := #[.int .i64 t257, .int .i64 t258, .int .i64 0, .string (⟨#[]⟩ : ByteArray), .int .i32 0]) ?_ 2 _ rfl; (with_reducible repeat (first | refine blk_drewN ?_ _ | refine blk_drew ?_ | refine blk_alloc ?_ _)); refine blk_put (cs := #[.int .i64 t257, .int .i64 0, .int .i64 0, .string (⟨#[]⟩ : ByteArray), .int .i32 0]) ?_ 1 _ rfl; (with_reducible repeat (first | refine blk_drewN ?_ _ | refine blk_drew ?_ | refine blk_alloc ?_ _)); refine blk_put (cs := #[.int .i64 0, .int .i64 0, .int .i64 0, .string (⟨#[]⟩ : ByteArray), .int .i32 0]) ?_ 0 _ rfl; (with_reducible repeat (first | refine blk_drewN ?_ _ | refine blk_drew ?_ | refine blk_alloc ?_ _)); exact BK254.out) Try.underlying33 rfl (by kernel_rfl)) rfl ?_
  exact ⟨by first | rfl | (simp [errW_none, errW_some] <;> rfl) | (simp [*, errW_none, errW_some] <;> rfl), by repeat (first | (with_reducible first | exact HB.out | apply below_alloc | apply pw_below_drewN | apply below_drew1 | refine below_set ?_ GE254.out) | exact HB.out)⟩
end Go.Proofs.Ytmalonlbnjiclaa.PAll
