/- The texts Qd, one behind the other. -/
import Derived.Deep.RegionHeld3
import Derived.Test.YtehdhmhpmkkneaaMSame
/- SymfileMakes: the law's walk. -/
namespace Go.Proofs.Ytehdhmhpmkkneaa
open Go.RowKit Go.Proofs.YtehdhmhpmkkneaaW.PrintWords Go.Proofs.YtehdhmhpmkkneaaW.PrintLast Go.Proofs.YtehdhmhpmkkneaaW.PrintMore Go.Proofs.Ytehdhmhpmkkneaa.PAll

theorem made_key (m : ByteArray) (l2 : List S93) (l3 : List S80) : fileS m (keyOf80 m l3) l2 l3 ≠ 142 := by
  have hm : ∀ x : S80, mayS x ≠ 142 := fun x => by
    unfold mayS tailS
    repeat' split
    all_goals decide
  have he : ∀ (l : List S80) (seen : List (List UInt8)), expS seen l ≠ 142 := fun l => by
    induction l with
    | nil => intro seen; rw [expS]; decide
    | cons x r ih =>
      intro seen
      rw [expS]
      split
      · split
        · decide
        · exact ih _
      · exact hm x
  have hi : ∀ (l : List S93) (seen : List (List UInt8)), impS seen l ≠ 142 := fun l => by
    induction l with
    | nil => intro seen; rw [impS]; decide
    | cons x r ih =>
      intro seen
      rw [impS]
      split
      · split
        · decide
        · exact ih _
      · decide
  unfold fileS impsS
  rw [if_pos rfl]
  repeat' split
  all_goals first | decide | exact he _ _ | exact hi _ _

theorem bool_iff {a b : Bool} (h : a = true ↔ b = true) : a = b := by cases a <;> cases b <;> simp_all

set_option maxHeartbeats 4000000 in
set_option maxRecDepth 100000 in
theorem symfileMakes_any (m m' : ByteArray) (z z' : Int) (A2 A3 A2' A3' : Option Addr) (c2 c3 c2' c3' : Nat) (l2 l2' : List S93) (l3 l3' : List S80) (w : World) (h : FileAt A2 A3 c2 c3 l2 l3 w) (h' : FileAt A2' A3' c2' c3' l2' l3' w)
    (h2 : ∀ x ∈ l2, x.f0.size ≤ 9223372036854775807) (h3 : ∀ x ∈ l3, Ok80 x) :
    Calls Try.prog 11 #[fileV m z A2 A3 l2.length l3.length c2 c3, fileV m' z' A2' A3' l2'.length l3'.length c2' c3'] w fun e w' => e = .returned (.bool true) ∧ Below w.heap.size w w' := by
  have F := Lib.hid h
  have F' := Lib.hid h'
  have H2 := Lib.hid h2
  have H3 := Lib.hid h3
  clear h h' h2 h3
  obtain ⟨W, HW⟩ : ∃ W, Hid (W = (w.alloc (.cells #[.string m, .int .u32 z, .slice A2 l2.length c2, .slice A3 l3.length c3] 75)).alloc (.cells #[.string m', .int .u32 z', .slice A2' l2'.length c2', .slice A3' l3'.length c3'] 75)) := ⟨_, Lib.hid rfl⟩
  obtain ⟨N, HN⟩ : ∃ N, Hid (N = w.heap.size) := ⟨_, Lib.hid rfl⟩
  have K0 : W.heap[N]? = some (.cells #[.string m, .int .u32 z, .slice A2 l2.length c2, .slice A3 l3.length c3] 75) := by
    rw [HW.out, HN.out]
    simpa using (Below.heap_alloc (w.alloc (.cells #[.string m, .int .u32 z, .slice A2 l2.length c2, .slice A3 l3.length c3] 75)) (.cells #[.string m', .int .u32 z', .slice A2' l2'.length c2', .slice A3' l3'.length c3'] 75) w.heap.size (by simp)).trans (heap_alloc_new w (.cells #[.string m, .int .u32 z, .slice A2 l2.length c2, .slice A3 l3.length c3] 75))
  have K1 : W.heap[N + 1]? = some (.cells #[.string m', .int .u32 z', .slice A2' l2'.length c2', .slice A3' l3'.length c3'] 75) := by
    rw [HW.out, HN.out]
    simpa using heap_alloc_new (w.alloc (.cells #[.string m, .int .u32 z, .slice A2 l2.length c2, .slice A3 l3.length c3] 75)) (.cells #[.string m', .int .u32 z', .slice A2' l2'.length c2', .slice A3' l3'.length c3'] 75)
  have x0 := blk_cell K0 0
  have x1 := blk_cell K0 1
  have x2 := blk_cell K0 2
  have x3 := blk_cell K0 3
  have x4 := blk_cell K1 0
  have x5 := blk_cell K1 1
  have x6 := blk_cell K1 2
  have x7 := blk_cell K1 3
  simp only [List.getElem?_toArray, List.getElem?_cons_zero, List.getElem?_cons_succ] at x0 x1 x2 x3 x4 x5 x6 x7
  have N0 := Lib.hid (blk_lt K0)
  have N1 := Lib.hid (blk_lt K1)
  have bW : Below w.heap.size w W := by rw [HW.out]; exact ((Below.refl _ _).alloc (Nat.le_refl _) _).alloc (by simp) _
  have BW := Lib.hid bW
  clear K0 K1 bW
  go_enter Try.func11, Try.ntmps11
  go_wp2_with fail
  rw [← HW.out]
  refine (awake14 _).mono ?_
  rintro e w1 ⟨rfl, b1⟩
  have B1 := Lib.hid (BW.out.trans (b1.mono BW.out.size))
  have a0 := (b1.cell (p := ⟨N, 0, none⟩) N0.out).trans x0
  have a1 := (b1.cell (p := ⟨N, 1, none⟩) N0.out).trans x1
  have a2 := (b1.cell (p := ⟨N, 2, none⟩) N0.out).trans x2
  have a3 := (b1.cell (p := ⟨N, 3, none⟩) N0.out).trans x3
  have a4 := (b1.cell (p := ⟨N + 1, 0, none⟩) N1.out).trans x4
  have a5 := (b1.cell (p := ⟨N + 1, 1, none⟩) N1.out).trans x5
  have a6 := (b1.cell (p := ⟨N + 1, 2, none⟩) N1.out).trans x6
  have a7 := (b1.cell (p := ⟨N + 1, 3, none⟩) N1.out).trans x7
  have P0 := Lib.hid (Nat.lt_of_lt_of_le N0.out b1.size)
  have P1 := Lib.hid (Nat.lt_of_lt_of_le N1.out b1.size)
  clear b1 BW N0 N1 x0 x1 x2 x3 x4 x5 x6 x7
  rw [← HN.out]
  obtain ⟨sm, hsm, hcall⟩ := file_small (m := m) z w1 (F.out.below B1.out)
  have SM := Lib.hid hsm
  have HC := Lib.hid hcall
  clear hsm hcall
  go_wp2_with fail
  refine HC.out.mono ?_
  rintro e w2 ⟨rfl, b2⟩
  have B2 := Lib.hid (B1.out.trans (b2.mono B1.out.size))
  have x0 := (b2.cell (p := ⟨N, 0, none⟩) P0.out).trans a0
  have x1 := (b2.cell (p := ⟨N, 1, none⟩) P0.out).trans a1
  have x2 := (b2.cell (p := ⟨N, 2, none⟩) P0.out).trans a2
  have x3 := (b2.cell (p := ⟨N, 3, none⟩) P0.out).trans a3
  have x4 := (b2.cell (p := ⟨N + 1, 0, none⟩) P1.out).trans a4
  have x5 := (b2.cell (p := ⟨N + 1, 1, none⟩) P1.out).trans a5
  have x6 := (b2.cell (p := ⟨N + 1, 2, none⟩) P1.out).trans a6
  have x7 := (b2.cell (p := ⟨N + 1, 3, none⟩) P1.out).trans a7
  have N0 := Lib.hid (Nat.lt_of_lt_of_le P0.out b2.size)
  have N1 := Lib.hid (Nat.lt_of_lt_of_le P1.out b2.size)
  clear b2 B1 P0 P1 HC a0 a1 a2 a3 a4 a5 a6 a7
  cases sm
  · go_wp2
    go_ret
    exact ⟨rfl, B2.out⟩
  have SF := Lib.hid (SM.out rfl)
  have OK := Lib.hid (SF.out.ok H2.out H3.out)
  clear SM
  obtain ⟨sm, _, hcall⟩ := file_small (m := m') z' w2 (F'.out.below B2.out)
  have HC := Lib.hid hcall
  clear hcall
  go_wp2_with fail
  refine HC.out.mono ?_
  rintro e w3 ⟨rfl, b3⟩
  have B3 := Lib.hid (B2.out.trans (b3.mono B2.out.size))
  have a0 := (b3.cell (p := ⟨N, 0, none⟩) N0.out).trans x0
  have a1 := (b3.cell (p := ⟨N, 1, none⟩) N0.out).trans x1
  have a2 := (b3.cell (p := ⟨N, 2, none⟩) N0.out).trans x2
  have a3 := (b3.cell (p := ⟨N, 3, none⟩) N0.out).trans x3
  have a4 := (b3.cell (p := ⟨N + 1, 0, none⟩) N1.out).trans x4
  have a5 := (b3.cell (p := ⟨N + 1, 1, none⟩) N1.out).trans x5
  have a6 := (b3.cell (p := ⟨N + 1, 2, none⟩) N1.out).trans x6
  have a7 := (b3.cell (p := ⟨N + 1, 3, none⟩) N1.out).trans x7
  have P0 := Lib.hid (Nat.lt_of_lt_of_le N0.out b3.size)
  have P1 := Lib.hid (Nat.lt_of_lt_of_le N1.out b3.size)
  clear b3 B2 N0 N1 HC x0 x1 x2 x3 x4 x5 x6 x7
  cases sm
  · go_wp2
    go_ret
    exact ⟨rfl, B3.out⟩
  go_wp2_with fail
  refine (file_make m A2 A3 c2 c3 l2 l3 _ (F.out.below B3.out) OK.out (by have := SF.out.s2; omega) (by have := SF.out.s3.1; omega)).mono ?_
  rintro e w4 ⟨B2, B3', d2, d3, rfl, fb, b4⟩
  have B4 := Lib.hid (B3.out.trans (b4.mono B3.out.size))
  have FM := Lib.hid fb
  have x0 := (b4.cell (p := ⟨N, 0, none⟩) P0.out).trans a0
  have x1 := (b4.cell (p := ⟨N, 1, none⟩) P0.out).trans a1
  have x2 := (b4.cell (p := ⟨N, 2, none⟩) P0.out).trans a2
  have x3 := (b4.cell (p := ⟨N, 3, none⟩) P0.out).trans a3
  have x4 := (b4.cell (p := ⟨N + 1, 0, none⟩) P1.out).trans a4
  have x5 := (b4.cell (p := ⟨N + 1, 1, none⟩) P1.out).trans a5
  have x6 := (b4.cell (p := ⟨N + 1, 2, none⟩) P1.out).trans a6
  have x7 := (b4.cell (p := ⟨N + 1, 3, none⟩) P1.out).trans a7
  have N0 := Lib.hid (Nat.lt_of_lt_of_le P0.out b4.size)
  have N1 := Lib.hid (Nat.lt_of_lt_of_le P1.out b4.size)
  have KE := Lib.hid (made_key m l2 l3)
  have CR : Hid (∀ ww, FileAt B2 B3' d2 d3 l2 l3 ww → Calls Try.prog 55 #[fileV m (keyOf80 m l3) B2 B3' l2.length l3.length d2 d3] ww fun e w' => e = .returned (.int .i64 (fileS m (keyOf80 m l3) l2 l3)) ∧ Below ww.heap.size ww w') := Lib.hid (fun ww hf => file_rcheck _ ww hf OK.out)
  clear fb b4 B3 P0 P1 a0 a1 a2 a3 a4 a5 a6 a7
  generalize fileS m (keyOf80 m l3) l2 l3 = fs at *
  generalize keyOf80 m l3 = key at *
  have ba : Below w4.heap.size w4 (w4.alloc (.cells #[.string m, .int .u32 key, .slice B2 l2.length d2, .slice B3' l3.length d3] 75)) := (Below.refl _ _).alloc (Nat.le_refl _) _
  have KM := heap_alloc_new w4 (.cells #[.string m, .int .u32 key, .slice B2 l2.length d2, .slice B3' l3.length d3] 75)
  obtain ⟨V, HV⟩ : ∃ V, Hid (V = w4.alloc (.cells #[.string m, .int .u32 key, .slice B2 l2.length d2, .slice B3' l3.length d3] 75)) := ⟨_, Lib.hid rfl⟩
  obtain ⟨M, HM⟩ : ∃ M, Hid (M = w4.heap.size) := ⟨_, Lib.hid rfl⟩
  rw [← HV.out] at ba KM
  rw [← HM.out] at KM
  have a0 := (ba.cell (p := ⟨N, 0, none⟩) N0.out).trans x0
  have a1 := (ba.cell (p := ⟨N, 1, none⟩) N0.out).trans x1
  have a2 := (ba.cell (p := ⟨N, 2, none⟩) N0.out).trans x2
  have a3 := (ba.cell (p := ⟨N, 3, none⟩) N0.out).trans x3
  have a4 := (ba.cell (p := ⟨N + 1, 0, none⟩) N1.out).trans x4
  have a5 := (ba.cell (p := ⟨N + 1, 1, none⟩) N1.out).trans x5
  have a6 := (ba.cell (p := ⟨N + 1, 2, none⟩) N1.out).trans x6
  have a7 := (ba.cell (p := ⟨N + 1, 3, none⟩) N1.out).trans x7
  have a8 := blk_cell KM 0
  have a9 := blk_cell KM 1
  have a10 := blk_cell KM 2
  have a11 := blk_cell KM 3
  simp only [List.getElem?_toArray, List.getElem?_cons_zero, List.getElem?_cons_succ] at a8 a9 a10 a11
  have P0 := Lib.hid (Nat.lt_of_lt_of_le N0.out ba.size)
  have P1 := Lib.hid (Nat.lt_of_lt_of_le N1.out ba.size)
  have P2 := Lib.hid (blk_lt KM)
  have BV := Lib.hid (B4.out.trans (ba.mono B4.out.size))
  have FV := Lib.hid (FM.out.below ba)
  clear ba KM FM N0 N1 x0 x1 x2 x3 x4 x5 x6 x7 B4
  go_wp2_with fail
  rw [← HV.out, ← HM.out]
  refine (file_ref56 m key B2 B3' _ _ d2 d3 _).mono ?_
  rintro e w5 ⟨rfl, b5⟩
  have B5 := Lib.hid (BV.out.trans (b5.mono BV.out.size))
  have F5 := Lib.hid (FV.out.below b5)
  have x0 := (b5.cell (p := ⟨N, 0, none⟩) P0.out).trans a0
  have x1 := (b5.cell (p := ⟨N, 1, none⟩) P0.out).trans a1
  have x2 := (b5.cell (p := ⟨N, 2, none⟩) P0.out).trans a2
  have x3 := (b5.cell (p := ⟨N, 3, none⟩) P0.out).trans a3
  have x4 := (b5.cell (p := ⟨N + 1, 0, none⟩) P1.out).trans a4
  have x5 := (b5.cell (p := ⟨N + 1, 1, none⟩) P1.out).trans a5
  have x6 := (b5.cell (p := ⟨N + 1, 2, none⟩) P1.out).trans a6
  have x7 := (b5.cell (p := ⟨N + 1, 3, none⟩) P1.out).trans a7
  have x8 := (b5.cell (p := ⟨M, 0, none⟩) P2.out).trans a8
  have x9 := (b5.cell (p := ⟨M, 1, none⟩) P2.out).trans a9
  have x10 := (b5.cell (p := ⟨M, 2, none⟩) P2.out).trans a10
  have x11 := (b5.cell (p := ⟨M, 3, none⟩) P2.out).trans a11
  have N0 := Lib.hid (Nat.lt_of_lt_of_le P0.out b5.size)
  have N1 := Lib.hid (Nat.lt_of_lt_of_le P1.out b5.size)
  have N2 := Lib.hid (Nat.lt_of_lt_of_le P2.out b5.size)
  clear b5 BV FV P0 P1 P2 a0 a1 a2 a3 a4 a5 a6 a7 a8 a9 a10 a11
  go_wp2_with fail
  refine (CR.out _ F5.out).mono ?_
  rintro e w6 ⟨rfl, b6⟩
  have B6 := Lib.hid (B5.out.trans (b6.mono B5.out.size))
  have F6 := Lib.hid (F5.out.below b6)
  have y0 := (b6.cell (p := ⟨N, 0, none⟩) N0.out).trans x0
  have y1 := (b6.cell (p := ⟨N, 1, none⟩) N0.out).trans x1
  have y2 := (b6.cell (p := ⟨N, 2, none⟩) N0.out).trans x2
  have y3 := (b6.cell (p := ⟨N, 3, none⟩) N0.out).trans x3
  have y4 := (b6.cell (p := ⟨N + 1, 0, none⟩) N1.out).trans x4
  have y5 := (b6.cell (p := ⟨N + 1, 1, none⟩) N1.out).trans x5
  have y6 := (b6.cell (p := ⟨N + 1, 2, none⟩) N1.out).trans x6
  have y7 := (b6.cell (p := ⟨N + 1, 3, none⟩) N1.out).trans x7
  have y8 := (b6.cell (p := ⟨M, 0, none⟩) N2.out).trans x8
  have y9 := (b6.cell (p := ⟨M, 1, none⟩) N2.out).trans x9
  have y10 := (b6.cell (p := ⟨M, 2, none⟩) N2.out).trans x10
  have y11 := (b6.cell (p := ⟨M, 3, none⟩) N2.out).trans x11
  have P0 := Lib.hid (Nat.lt_of_lt_of_le N0.out b6.size)
  have P1 := Lib.hid (Nat.lt_of_lt_of_le N1.out b6.size)
  have P2 := Lib.hid (Nat.lt_of_lt_of_le N2.out b6.size)
  clear b6 B5 F5 N0 N1 N2 x0 x1 x2 x3 x4 x5 x6 x7 x8 x9 x10 x11
  have bd : Below w6.heap.size w6 w6.drew := (Below.refl _ _).drew
  have BD := Lib.hid (B6.out.trans (bd.mono B6.out.size))
  have FD := Lib.hid (F6.out.below bd)
  have GD := Lib.hid (F.out.below BD.out)
  have GD' := Lib.hid (F'.out.below BD.out)
  clear bd B6 F6
  have ke : (fs != 142) = true := bne_iff_ne.2 KE.out
  go_wp2
  go_region_held3 (fun w' => w'.cell? ⟨N, 0, none⟩ = some (.string m) ∧ w'.cell? ⟨N, 1, none⟩ = some (.int .u32 z) ∧ w'.cell? ⟨N, 2, none⟩ = some (.slice A2 l2.length c2) ∧ w'.cell? ⟨N, 3, none⟩ = some (.slice A3 l3.length c3) ∧ w'.cell? ⟨N + 1, 0, none⟩ = some (.string m') ∧ w'.cell? ⟨N + 1, 1, none⟩ = some (.int .u32 z') ∧ w'.cell? ⟨N + 1, 2, none⟩ = some (.slice A2' l2'.length c2') ∧ w'.cell? ⟨N + 1, 3, none⟩ = some (.slice A3' l3'.length c3') ∧ w'.cell? ⟨M, 0, none⟩ = some (.string m) ∧ w'.cell? ⟨M, 1, none⟩ = some (.int .u32 key) ∧ w'.cell? ⟨M, 2, none⟩ = some (.slice B2 l2.length d2) ∧ w'.cell? ⟨M, 3, none⟩ = some (.slice B3' l3.length d3)) (first | exact ⟨y0, y1, y2, y3, y4, y5, y6, y7, y8, y9, y10, y11⟩ | exact ⟨ya0, ya1, ya2, ya3, ya4, ya5, ya6, ya7, ya8, ya9, ya10, ya11⟩ | exact ⟨yb0, yb1, yb2, yb3, yb4, yb5, yb6, yb7, yb8, yb9, yb10, yb11⟩ | exact ⟨yc0, yc1, yc2, yc3, yc4, yc5, yc6, yc7, yc8, yc9, yc10, yc11⟩ | exact ⟨yd0, yd1, yd2, yd3, yd4, yd5, yd6, yd7, yd8, yd9, yd10, yd11⟩ | exact ⟨ye0, ye1, ye2, ye3, ye4, ye5, ye6, ye7, ye8, ye9, ye10, ye11⟩ | go_keep) (first
    | (go_at_call_of 60 (Value.agg #[Value.string m, Value.int .u32 key, Value.slice B2 l2.length d2, Value.slice B3' l3.length d3]); refine (file_is m m key key B2 B3' A2 A3 d2 d3 c2 c3 l2 l2 l3 l3 _ FD.out GD.out).mono ?_; rintro e wa ⟨r, rfl, hr, ba⟩; obtain rfl := hr.2 ⟨rfl, rfl, rfl, rfl⟩; have Ba := Lib.hid (BD.out.trans (ba.mono BD.out.size)); have Ga := Lib.hid (GD.out.below ba); have Ga' := Lib.hid (GD'.out.below ba); have Q0 := Lib.hid (Nat.lt_of_lt_of_le P0.out ba.size); have Q1 := Lib.hid (Nat.lt_of_lt_of_le P1.out ba.size); have Q2 := Lib.hid (Nat.lt_of_lt_of_le P2.out ba.size); have ya0 := (ba.cell (p := ⟨N, 0, none⟩) P0.out).trans y0; have ya1 := (ba.cell (p := ⟨N, 1, none⟩) P0.out).trans y1; have ya2 := (ba.cell (p := ⟨N, 2, none⟩) P0.out).trans y2; have ya3 := (ba.cell (p := ⟨N, 3, none⟩) P0.out).trans y3; have ya4 := (ba.cell (p := ⟨N + 1, 0, none⟩) P1.out).trans y4; have ya5 := (ba.cell (p := ⟨N + 1, 1, none⟩) P1.out).trans y5; have ya6 := (ba.cell (p := ⟨N + 1, 2, none⟩) P1.out).trans y6; have ya7 := (ba.cell (p := ⟨N + 1, 3, none⟩) P1.out).trans y7; have ya8 := (ba.cell (p := ⟨M, 0, none⟩) P2.out).trans y8; have ya9 := (ba.cell (p := ⟨M, 1, none⟩) P2.out).trans y9; have ya10 := (ba.cell (p := ⟨M, 2, none⟩) P2.out).trans y10; have ya11 := (ba.cell (p := ⟨M, 3, none⟩) P2.out).trans y11; clear hr ba)
    | (go_at_call 61; refine (file_same m m z z A2 A3 A2 A3 c2 c3 c2 c3 l2 l2 l3 l3 _ Gd.out Gd.out).mono ?_; rintro e we ⟨r, rfl, hr, be⟩; obtain rfl := hr.2 ⟨rfl, rfl, rfl, rfl⟩; have Be := Lib.hid (Bd.out.trans (be.mono Bd.out.size)); have ye0 := (be.cell (p := ⟨N, 0, none⟩) V0.out).trans yd0; have ye1 := (be.cell (p := ⟨N, 1, none⟩) V0.out).trans yd1; have ye2 := (be.cell (p := ⟨N, 2, none⟩) V0.out).trans yd2; have ye3 := (be.cell (p := ⟨N, 3, none⟩) V0.out).trans yd3; have ye4 := (be.cell (p := ⟨N + 1, 0, none⟩) V1.out).trans yd4; have ye5 := (be.cell (p := ⟨N + 1, 1, none⟩) V1.out).trans yd5; have ye6 := (be.cell (p := ⟨N + 1, 2, none⟩) V1.out).trans yd6; have ye7 := (be.cell (p := ⟨N + 1, 3, none⟩) V1.out).trans yd7; have ye8 := (be.cell (p := ⟨M, 0, none⟩) V2.out).trans yd8; have ye9 := (be.cell (p := ⟨M, 1, none⟩) V2.out).trans yd9; have ye10 := (be.cell (p := ⟨M, 2, none⟩) V2.out).trans yd10; have ye11 := (be.cell (p := ⟨M, 3, none⟩) V2.out).trans yd11; clear hr be)
    | (go_at_call 61; refine (file_same m m' z z' A2 A3 A2' A3' c2 c3 c2' c3' l2 l2' l3 l3' _ Ga.out Ga'.out).mono ?_; rintro e wb ⟨r1, rfl, hr, bb⟩; have R1 := Lib.hid hr; have Bb := Lib.hid (Ba.out.trans (bb.mono Ba.out.size)); have Gb := Lib.hid (Ga.out.below bb); have Gb' := Lib.hid (Ga'.out.below bb); have T0 := Lib.hid (Nat.lt_of_lt_of_le Q0.out bb.size); have T1 := Lib.hid (Nat.lt_of_lt_of_le Q1.out bb.size); have T2 := Lib.hid (Nat.lt_of_lt_of_le Q2.out bb.size); have yb0 := (bb.cell (p := ⟨N, 0, none⟩) Q0.out).trans ya0; have yb1 := (bb.cell (p := ⟨N, 1, none⟩) Q0.out).trans ya1; have yb2 := (bb.cell (p := ⟨N, 2, none⟩) Q0.out).trans ya2; have yb3 := (bb.cell (p := ⟨N, 3, none⟩) Q0.out).trans ya3; have yb4 := (bb.cell (p := ⟨N + 1, 0, none⟩) Q1.out).trans ya4; have yb5 := (bb.cell (p := ⟨N + 1, 1, none⟩) Q1.out).trans ya5; have yb6 := (bb.cell (p := ⟨N + 1, 2, none⟩) Q1.out).trans ya6; have yb7 := (bb.cell (p := ⟨N + 1, 3, none⟩) Q1.out).trans ya7; have yb8 := (bb.cell (p := ⟨M, 0, none⟩) Q2.out).trans ya8; have yb9 := (bb.cell (p := ⟨M, 1, none⟩) Q2.out).trans ya9; have yb10 := (bb.cell (p := ⟨M, 2, none⟩) Q2.out).trans ya10; have yb11 := (bb.cell (p := ⟨M, 3, none⟩) Q2.out).trans ya11; clear hr bb)
    | (go_at_call 56; refine (file_ref56 m' z' A2' A3' _ _ c2' c3' _).mono ?_; rintro e wc ⟨rfl, bc⟩; have Bc := Lib.hid (Bb.out.trans (bc.mono Bb.out.size)); have Gc := Lib.hid (Gb.out.below bc); have Gc' := Lib.hid (Gb'.out.below bc); have U0 := Lib.hid (Nat.lt_of_lt_of_le T0.out bc.size); have U1 := Lib.hid (Nat.lt_of_lt_of_le T1.out bc.size); have U2 := Lib.hid (Nat.lt_of_lt_of_le T2.out bc.size); have yc0 := (bc.cell (p := ⟨N, 0, none⟩) T0.out).trans yb0; have yc1 := (bc.cell (p := ⟨N, 1, none⟩) T0.out).trans yb1; have yc2 := (bc.cell (p := ⟨N, 2, none⟩) T0.out).trans yb2; have yc3 := (bc.cell (p := ⟨N, 3, none⟩) T0.out).trans yb3; have yc4 := (bc.cell (p := ⟨N + 1, 0, none⟩) T1.out).trans yb4; have yc5 := (bc.cell (p := ⟨N + 1, 1, none⟩) T1.out).trans yb5; have yc6 := (bc.cell (p := ⟨N + 1, 2, none⟩) T1.out).trans yb6; have yc7 := (bc.cell (p := ⟨N + 1, 3, none⟩) T1.out).trans yb7; have yc8 := (bc.cell (p := ⟨M, 0, none⟩) T2.out).trans yb8; have yc9 := (bc.cell (p := ⟨M, 1, none⟩) T2.out).trans yb9; have yc10 := (bc.cell (p := ⟨M, 2, none⟩) T2.out).trans yb10; have yc11 := (bc.cell (p := ⟨M, 3, none⟩) T2.out).trans yb11; clear bc)
    | (go_at_call_of 60 (Value.agg #[Value.string m, Value.int .u32 z, Value.slice A2 l2.length c2, Value.slice A3 l3.length c3]); refine (file_is m m' z z' A2 A3 A2' A3' c2 c3 c2' c3' l2 l2' l3 l3' _ Gc.out Gc'.out).mono ?_; rintro e wd ⟨r2, rfl, hr, bd⟩; obtain rfl : r2 = r1 := bool_iff (hr.trans R1.out.symm); have Bd := Lib.hid (Bc.out.trans (bd.mono Bc.out.size)); have Gd := Lib.hid (Gc.out.below bd); have V0 := Lib.hid (Nat.lt_of_lt_of_le U0.out bd.size); have V1 := Lib.hid (Nat.lt_of_lt_of_le U1.out bd.size); have V2 := Lib.hid (Nat.lt_of_lt_of_le U2.out bd.size); have yd0 := (bd.cell (p := ⟨N, 0, none⟩) U0.out).trans yc0; have yd1 := (bd.cell (p := ⟨N, 1, none⟩) U0.out).trans yc1; have yd2 := (bd.cell (p := ⟨N, 2, none⟩) U0.out).trans yc2; have yd3 := (bd.cell (p := ⟨N, 3, none⟩) U0.out).trans yc3; have yd4 := (bd.cell (p := ⟨N + 1, 0, none⟩) U1.out).trans yc4; have yd5 := (bd.cell (p := ⟨N + 1, 1, none⟩) U1.out).trans yc5; have yd6 := (bd.cell (p := ⟨N + 1, 2, none⟩) U1.out).trans yc6; have yd7 := (bd.cell (p := ⟨N + 1, 3, none⟩) U1.out).trans yc7; have yd8 := (bd.cell (p := ⟨M, 0, none⟩) U2.out).trans yc8; have yd9 := (bd.cell (p := ⟨M, 1, none⟩) U2.out).trans yc9; have yd10 := (bd.cell (p := ⟨M, 2, none⟩) U2.out).trans yc10; have yd11 := (bd.cell (p := ⟨M, 3, none⟩) U2.out).trans yc11; clear hr bd))
  go_wp2
  go_ret
  exact ⟨rfl, Be.out⟩
end Go.Proofs.Ytehdhmhpmkkneaa

