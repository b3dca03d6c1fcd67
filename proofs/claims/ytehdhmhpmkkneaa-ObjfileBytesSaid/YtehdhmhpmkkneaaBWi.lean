/- Wi. -/
import Derived.Deep.RegionHeld3
import Derived.Test.YtehdhmhpmkkneaaBWf
import Derived.Test.YtehdhmhpmkkneaaBWg
import Derived.Test.YtehdhmhpmkkneaaBWh
/- ObjfileBytes: the law's walk. -/
namespace Go.Proofs.Ytehdhmhpmkkneaa
open Go.RowKit Go.Proofs.YtehdhmhpmkkneaaW.PrintWords Go.Proofs.YtehdhmhpmkkneaaW.PrintLast Go.Proofs.YtehdhmhpmkkneaaW.PrintMore Go.Proofs.Ytehdhmhpmkkneaa.PAll
set_option maxHeartbeats 8000000 in
set_option maxRecDepth 100000 in
theorem objfileBytes_any (m : ByteArray) (z d e y : Int) (A2 A3 A4 A5 : Option Addr) (c2 c3 c4 c5 : Nat) (l2 : List S93) (l3 : List Int) (l4 : List S134) (l5 : List S131) (w : World) (h : ObjAt A2 A3 A4 A5 c2 c3 c4 c5 l2 l3 l4 l5 w) (h1 : m.size ≤ 9223372036854775807) (h2 : ∀ x ∈ l2, x.f0.size ≤ 9223372036854775807) (h3 : l2.length ≤ 9223372036854775807) (o2 : ∀ x ∈ l2, Ok93 x) (o3 : ∀ x ∈ l3, 0 ≤ x ∧ x ≤ 4294967295) (hz : 0 ≤ z ∧ z ≤ 4294967295) :
    Calls Try.prog 13 #[objV m z d e y A2 A3 A4 A5 c2 c3 c4 c5 l2 l3 l4 l5] w fun en w' => en = .returned (.bool true) ∧ Below w.heap.size w w' := by
  have FA := Lib.hid h
  have H1 := Lib.hid h1
  have H2 := Lib.hid h2
  have H3 := Lib.hid h3
  have O2 := Lib.hid o2
  have O3h := Lib.hid o3
  have HZ := Lib.hid hz
  clear h h1 h2 h3 o2 o3 hz
  obtain ⟨W, HW⟩ : ∃ W, Hid (W = w.alloc (.cells #[.string m, .int .u32 z, .slice A2 l2.length c2, .slice A3 l3.length c3, .slice A4 l4.length c4, .slice A5 l5.length c5, .int .i64 d, .int .i64 e, .int .i64 y] 60)) := ⟨_, Lib.hid rfl⟩
  obtain ⟨Q, HQ⟩ : ∃ Q, Hid (Q = w.heap.size) := ⟨_, Lib.hid rfl⟩
  have bx := heap_alloc_new w (.cells #[.string m, .int .u32 z, .slice A2 l2.length c2, .slice A3 l3.length c3, .slice A4 l4.length c4, .slice A5 l5.length c5, .int .i64 d, .int .i64 e, .int .i64 y] 60)
  rw [← HW.out, ← HQ.out] at bx
  have bW : Below w.heap.size w W := by rw [HW.out]; exact (Below.refl _ _).alloc (Nat.le_refl _) _
  have BW := Lib.hid bW
  have K := Lib.hid bx
  clear bx bW
  go_enter Try.func13, Try.ntmps13
  go_wp2_with fail
  rw [← HW.out]
  refine (pascalinelaw15_awake.calls 40 true _ awake15).mono ?_
  rintro en w1 ⟨rfl, b1⟩
  have B1 := Lib.hid (BW.out.trans (b1.mono BW.out.size))
  have K1 := Lib.hid ((b1.block _ (blk_lt K.out)).trans K.out)
  clear b1 BW K
  rw [← HQ.out]
  have x0 := blk_cell K1.out 0
  have x1 := blk_cell K1.out 1
  have x2 := blk_cell K1.out 2
  have x3 := blk_cell K1.out 3
  have x4 := blk_cell K1.out 4
  have x5 := blk_cell K1.out 5
  have x6 := blk_cell K1.out 6
  have x7 := blk_cell K1.out 7
  have x8 := blk_cell K1.out 8
  simp only [List.getElem?_toArray, List.getElem?_cons_zero, List.getElem?_cons_succ] at x0 x1 x2 x3 x4 x5 x6 x7 x8
  obtain ⟨sm, hcall⟩ := obj_small m z d e y w1 (FA.out.below B1.out)
  have HC := Lib.hid hcall
  clear hcall
  go_wp2_with fail
  refine HC.out.mono ?_
  rintro en w2 ⟨rfl, b2⟩
  have B2 := Lib.hid (B1.out.trans (b2.mono B1.out.size))
  have K2 := Lib.hid ((b2.block _ (blk_lt K1.out)).trans K1.out)
  clear b2 B1 HC K1 x0 x1 x2 x3 x4 x5 x6 x7 x8
  cases sm
  · go_wp2
    go_ret
    exact ⟨rfl, B2.out⟩
  have x0 := blk_cell K2.out 0
  have x1 := blk_cell K2.out 1
  have x2 := blk_cell K2.out 2
  have x3 := blk_cell K2.out 3
  have x4 := blk_cell K2.out 4
  have x5 := blk_cell K2.out 5
  have x6 := blk_cell K2.out 6
  have x7 := blk_cell K2.out 7
  have x8 := blk_cell K2.out 8
  simp only [List.getElem?_toArray, List.getElem?_cons_zero, List.getElem?_cons_succ] at x0 x1 x2 x3 x4 x5 x6 x7 x8
  go_wp2_with fail
  refine (oencode m z d e y A2 A3 A4 A5 c2 c3 c4 c5 l2 l3 l4 l5 _ (FA.out.below B2.out) H1.out H2.out O2.out O3h.out HZ.out).mono ?_
  rintro en w3 ⟨v, rfl, hv0, hv1, b3⟩
  have V0 := Lib.hid hv0
  have V1 := Lib.hid hv1
  have B3 := Lib.hid (B2.out.trans (b3.mono B2.out.size))
  have K3 := Lib.hid ((b3.block _ (blk_lt K2.out)).trans K2.out)
  have HS := Lib.hid B2.out.size
  clear b3 hv0 hv1 B2 K2 x0 x1 x2 x3 x4 x5 x6 x7 x8
  have x0 := blk_cell K3.out 0
  have x1 := blk_cell K3.out 1
  have x2 := blk_cell K3.out 2
  have x3 := blk_cell K3.out 3
  have x4 := blk_cell K3.out 4
  have x5 := blk_cell K3.out 5
  have x6 := blk_cell K3.out 6
  have x7 := blk_cell K3.out 7
  have x8 := blk_cell K3.out 8
  simp only [List.getElem?_toArray, List.getElem?_cons_zero, List.getElem?_cons_succ] at x0 x1 x2 x3 x4 x5 x6 x7 x8
  go_wp2_with fail
  refine (ref38 m z A2 A3 A4 A5 _ _ _ _ c2 c3 c4 c5 d e y _).mono ?_
  rintro en w4 ⟨rfl, b4⟩
  have B4 := Lib.hid (B3.out.trans (b4.mono B3.out.size))
  have K4 := Lib.hid ((b4.block _ (blk_lt K3.out)).trans K3.out)
  have D4 := Lib.hid b4
  clear b4 B3 K3 x0 x1 x2 x3 x4 x5 x6 x7 x8
  go_wp2_with fail
  refine (obj_rcheck m z d e y _ (FA.out.below B4.out) H1.out H2.out H3.out).mono ?_
  rintro en w5 ⟨rfl, b5⟩
  have B5 := Lib.hid (B4.out.trans (b5.mono B4.out.size))
  have K5 := Lib.hid ((b5.block _ (blk_lt K4.out)).trans K4.out)
  have D5 := Lib.hid (D4.out.trans (b5.mono D4.out.size))
  clear b5 B4 K4 D4
  by_cases hf : objS m l2 l3 l4 l5 d e y = 0
  rotate_left
  · obtain rfl := V1.out hf
    have e1 : (objS m l2 l3 l4 l5 d e y != 0) = true := bne_iff_ne.2 hf
    have e2 : (objS m l2 l3 l4 l5 d e y == objS m l2 l3 l4 l5 d e y) = true := beq_self_eq_true _
    generalize objS m l2 l3 l4 l5 d e y = fs at *
    clear hf V0 V1
    go_wp2
    go_ret
    exact ⟨rfl, B5.out⟩
  have O3 := Lib.hid (V0.out hf)
  have FI := Lib.hid (obj_fits m l2 l3 l4 l5 d e y hf)
  have RF : Hid (∀ ww, ObjAt A2 A3 A4 A5 c2 c3 c4 c5 l2 l3 l4 l5 ww → Calls Try.prog 69 #[objV m z d e y A2 A3 A4 A5 c2 c3 c4 c5 l2 l3 l4 l5] ww (Got ww (objB m z l2 l3 l4 l5 d e y))) := Lib.hid (fun ww hww => obytes m z d e y A2 A3 A4 A5 c2 c3 c4 c5 l2 l3 l4 l5 ww hww FI.out O2.out O3h.out HZ.out)
  have DE : Hid (∀ (A : Option Addr) (n c : Nat) (ww : World), ReadsInt ww .u8 A n (objB m z l2 l3 l4 l5 d e y) → Calls Try.prog 68 #[.slice A n c] ww fun en w' => ∃ B2 B3 B4 B5 d2 d3 d4 d5, en = .returned (.tuple #[objV m z d e y B2 B3 B4 B5 d2 d3 d4 d5 l2 l3 l4 l5, .int .i64 0]) ∧ ObjAt B2 B3 B4 B5 d2 d3 d4 d5 l2 l3 l4 l5 w' ∧ Below ww.heap.size ww w') := Lib.hid (fun A n c ww hr => odecode m z d e y l2 l3 l4 l5 A n c ww hr (objB_all m z l2 l3 l4 l5 d e y O2.out O3h.out HZ.out) hf)
  have FS := Lib.hid (objB_le m z l2 l3 l4 l5 d e y FI.out)
  clear V0 V1
  generalize objB m z l2 l3 l4 l5 d e y = FB at *
  rw [hf]
  clear hf
  have O5 := Lib.hid (pw_own_below O3.out D5.out)
  obtain ⟨A, c, rfl⟩ := own_slice O5.out
  obtain ⟨A', c', ev, hr⟩ := own_reads O5.out
  injection ev with ev _ ec
  subst ev ec
  have HR := Lib.hid hr
  clear hr O3 D5
  go_wp2_with fail
  refine (DE.out A _ c _ HR.out).mono ?_
  rintro en w6 ⟨B2, B3', B4', B5', d2, d3, d4, d5, rfl, fg, b6⟩
  have FG := Lib.hid fg
  have B6 := Lib.hid (B5.out.trans (b6.mono B5.out.size))
  have K6 := Lib.hid ((b6.block _ (blk_lt K5.out)).trans K5.out)
  have O6 := Lib.hid (pw_own_below O5.out b6)
  clear fg b6 B5 K5 O5 HR DE
  obtain ⟨V, HV⟩ : ∃ V, Hid (V = w6.alloc (.cells #[.string m, .int .u32 z, .slice B2 l2.length d2, .slice B3' l3.length d3, .slice B4' l4.length d4, .slice B5' l5.length d5, .int .i64 d, .int .i64 e, .int .i64 y] 60)) := ⟨_, Lib.hid rfl⟩
  obtain ⟨M, HM⟩ : ∃ M, Hid (M = w6.heap.size) := ⟨_, Lib.hid rfl⟩
  have ba : Below w6.heap.size w6 V := by rw [HV.out]; exact (Below.refl _ _).alloc (Nat.le_refl _) _
  have KM := heap_alloc_new w6 (.cells #[.string m, .int .u32 z, .slice B2 l2.length d2, .slice B3' l3.length d3, .slice B4' l4.length d4, .slice B5' l5.length d5, .int .i64 d, .int .i64 e, .int .i64 y] 60)
  rw [← HV.out, ← HM.out] at KM
  have K7 := Lib.hid ((ba.block _ (blk_lt K6.out)).trans K6.out)
  have bd : Below w6.heap.size w6 V.drew := ba.drew
  have B := Lib.hid (B6.out.trans (bd.mono B6.out.size))
  have F := Lib.hid (FA.out.below B.out)
  have G := Lib.hid (FG.out.below bd)
  have O := Lib.hid (pw_own_below O6.out bd)
  have Q0 := Lib.hid (blk_lt K7.out)
  have Q1 := Lib.hid (blk_lt KM)
  have y0 := blk_cell K7.out 0
  have y1 := blk_cell K7.out 1
  have y2 := blk_cell K7.out 2
  have y3 := blk_cell K7.out 3
  have y4 := blk_cell K7.out 4
  have y5 := blk_cell K7.out 5
  have y6 := blk_cell K7.out 6
  have y7 := blk_cell K7.out 7
  have y8 := blk_cell K7.out 8
  have y9 := blk_cell KM 0
  have y10 := blk_cell KM 1
  have y11 := blk_cell KM 2
  have y12 := blk_cell KM 3
  have y13 := blk_cell KM 4
  have y14 := blk_cell KM 5
  have y15 := blk_cell KM 6
  have y16 := blk_cell KM 7
  have y17 := blk_cell KM 8
  simp only [List.getElem?_toArray, List.getElem?_cons_zero, List.getElem?_cons_succ] at y0 y1 y2 y3 y4 y5 y6 y7 y8 y9 y10 y11 y12 y13 y14 y15 y16 y17
  clear ba bd KM K6 K7 B6 FG O6
  go_wp2
  rw [← HV.out, ← HM.out]
  go_region_held3 (fun w' => w'.cell? ⟨Q, 0, none⟩ = some (.string m) ∧ w'.cell? ⟨Q, 1, none⟩ = some (.int .u32 z) ∧ w'.cell? ⟨Q, 2, none⟩ = some (.slice A2 l2.length c2) ∧ w'.cell? ⟨Q, 3, none⟩ = some (.slice A3 l3.length c3) ∧ w'.cell? ⟨Q, 4, none⟩ = some (.slice A4 l4.length c4) ∧ w'.cell? ⟨Q, 5, none⟩ = some (.slice A5 l5.length c5) ∧ w'.cell? ⟨Q, 6, none⟩ = some (.int .i64 d) ∧ w'.cell? ⟨Q, 7, none⟩ = some (.int .i64 e) ∧ w'.cell? ⟨Q, 8, none⟩ = some (.int .i64 y) ∧ w'.cell? ⟨M, 0, none⟩ = some (.string m) ∧ w'.cell? ⟨M, 1, none⟩ = some (.int .u32 z) ∧ w'.cell? ⟨M, 2, none⟩ = some (.slice B2 l2.length d2) ∧ w'.cell? ⟨M, 3, none⟩ = some (.slice B3' l3.length d3) ∧ w'.cell? ⟨M, 4, none⟩ = some (.slice B4' l4.length d4) ∧ w'.cell? ⟨M, 5, none⟩ = some (.slice B5' l5.length d5) ∧ w'.cell? ⟨M, 6, none⟩ = some (.int .i64 d) ∧ w'.cell? ⟨M, 7, none⟩ = some (.int .i64 e) ∧ w'.cell? ⟨M, 8, none⟩ = some (.int .i64 y)) (first | exact ⟨y0, y1, y2, y3, y4, y5, y6, y7, y8, y9, y10, y11, y12, y13, y14, y15, y16, y17⟩ | exact ⟨ya0, ya1, ya2, ya3, ya4, ya5, ya6, ya7, ya8, ya9, ya10, ya11, ya12, ya13, ya14, ya15, ya16, ya17⟩ | exact ⟨yb0, yb1, yb2, yb3, yb4, yb5, yb6, yb7, yb8, yb9, yb10, yb11, yb12, yb13, yb14, yb15, yb16, yb17⟩ | exact ⟨yc0, yc1, yc2, yc3, yc4, yc5, yc6, yc7, yc8, yc9, yc10, yc11, yc12, yc13, yc14, yc15, yc16, yc17⟩ | exact ⟨yd0, yd1, yd2, yd3, yd4, yd5, yd6, yd7, yd8, yd9, yd10, yd11, yd12, yd13, yd14, yd15, yd16, yd17⟩ | exact ⟨ye0, ye1, ye2, ye3, ye4, ye5, ye6, ye7, ye8, ye9, ye10, ye11, ye12, ye13, ye14, ye15, ye16, ye17⟩ | go_keep) (first
    | (go_at_call 70; refine (obj_is m z l2 l3 l4 l5 d e y _ Fd.out Gd.out FI.out.n2 FI.out.n3 FI.out.n4 FI.out.n5).mono ?_; rintro en we ⟨rfl, be⟩; have Be := Lib.hid (Bd.out.trans (be.mono Bd.out.size)); have Fe := Lib.hid (Fd.out.below be); have Ge := Lib.hid (Gd.out.below be); have Qe0 := Lib.hid (Nat.lt_of_lt_of_le Qd0.out be.size); have Qe1 := Lib.hid (Nat.lt_of_lt_of_le Qd1.out be.size); have ye0 := (be.cell (p := ⟨Q, 0, none⟩) Qd0.out).trans yd0; have ye1 := (be.cell (p := ⟨Q, 1, none⟩) Qd0.out).trans yd1; have ye2 := (be.cell (p := ⟨Q, 2, none⟩) Qd0.out).trans yd2; have ye3 := (be.cell (p := ⟨Q, 3, none⟩) Qd0.out).trans yd3; have ye4 := (be.cell (p := ⟨Q, 4, none⟩) Qd0.out).trans yd4; have ye5 := (be.cell (p := ⟨Q, 5, none⟩) Qd0.out).trans yd5; have ye6 := (be.cell (p := ⟨Q, 6, none⟩) Qd0.out).trans yd6; have ye7 := (be.cell (p := ⟨Q, 7, none⟩) Qd0.out).trans yd7; have ye8 := (be.cell (p := ⟨Q, 8, none⟩) Qd0.out).trans yd8; have ye9 := (be.cell (p := ⟨M, 0, none⟩) Qd1.out).trans yd9; have ye10 := (be.cell (p := ⟨M, 1, none⟩) Qd1.out).trans yd10; have ye11 := (be.cell (p := ⟨M, 2, none⟩) Qd1.out).trans yd11; have ye12 := (be.cell (p := ⟨M, 3, none⟩) Qd1.out).trans yd12; have ye13 := (be.cell (p := ⟨M, 4, none⟩) Qd1.out).trans yd13; have ye14 := (be.cell (p := ⟨M, 5, none⟩) Qd1.out).trans yd14; have ye15 := (be.cell (p := ⟨M, 6, none⟩) Qd1.out).trans yd15; have ye16 := (be.cell (p := ⟨M, 7, none⟩) Qd1.out).trans yd16; have ye17 := (be.cell (p := ⟨M, 8, none⟩) Qd1.out).trans yd17; clear be)
    | (go_at_call 17; refine (rsame _ _ _ _ FB FB _ (by have := FS.out; omega) Ob.out Yb.out).mono ?_; rintro en wc ⟨rfl, dc⟩; have bc := dc.below; have Bc := Lib.hid (Bb.out.trans (bc.mono Bb.out.size)); have Fc := Lib.hid (Fb.out.below bc); have Gc := Lib.hid (Gb.out.below bc); have Qc0 := Lib.hid (Nat.lt_of_lt_of_le Qb0.out bc.size); have Qc1 := Lib.hid (Nat.lt_of_lt_of_le Qb1.out bc.size); have yc0 := (bc.cell (p := ⟨Q, 0, none⟩) Qb0.out).trans yb0; have yc1 := (bc.cell (p := ⟨Q, 1, none⟩) Qb0.out).trans yb1; have yc2 := (bc.cell (p := ⟨Q, 2, none⟩) Qb0.out).trans yb2; have yc3 := (bc.cell (p := ⟨Q, 3, none⟩) Qb0.out).trans yb3; have yc4 := (bc.cell (p := ⟨Q, 4, none⟩) Qb0.out).trans yb4; have yc5 := (bc.cell (p := ⟨Q, 5, none⟩) Qb0.out).trans yb5; have yc6 := (bc.cell (p := ⟨Q, 6, none⟩) Qb0.out).trans yb6; have yc7 := (bc.cell (p := ⟨Q, 7, none⟩) Qb0.out).trans yb7; have yc8 := (bc.cell (p := ⟨Q, 8, none⟩) Qb0.out).trans yb8; have yc9 := (bc.cell (p := ⟨M, 0, none⟩) Qb1.out).trans yb9; have yc10 := (bc.cell (p := ⟨M, 1, none⟩) Qb1.out).trans yb10; have yc11 := (bc.cell (p := ⟨M, 2, none⟩) Qb1.out).trans yb11; have yc12 := (bc.cell (p := ⟨M, 3, none⟩) Qb1.out).trans yb12; have yc13 := (bc.cell (p := ⟨M, 4, none⟩) Qb1.out).trans yb13; have yc14 := (bc.cell (p := ⟨M, 5, none⟩) Qb1.out).trans yb14; have yc15 := (bc.cell (p := ⟨M, 6, none⟩) Qb1.out).trans yb15; have yc16 := (bc.cell (p := ⟨M, 7, none⟩) Qb1.out).trans yb16; have yc17 := (bc.cell (p := ⟨M, 8, none⟩) Qb1.out).trans yb17; have zc : decide (FB = FB) = true := decide_eq_true rfl; clear bc dc)
    | (go_at_call 69; refine (RF.out _ Fa.out).mono ?_; rintro en wb ⟨u, rfl, yb, bb⟩; have Yb := Lib.hid yb; have Ob := Lib.hid (pw_own_below Oa.out bb); have Bb := Lib.hid (Ba.out.trans (bb.mono Ba.out.size)); have Fb := Lib.hid (Fa.out.below bb); have Gb := Lib.hid (Ga.out.below bb); have Qb0 := Lib.hid (Nat.lt_of_lt_of_le Qa0.out bb.size); have Qb1 := Lib.hid (Nat.lt_of_lt_of_le Qa1.out bb.size); have yb0 := (bb.cell (p := ⟨Q, 0, none⟩) Qa0.out).trans ya0; have yb1 := (bb.cell (p := ⟨Q, 1, none⟩) Qa0.out).trans ya1; have yb2 := (bb.cell (p := ⟨Q, 2, none⟩) Qa0.out).trans ya2; have yb3 := (bb.cell (p := ⟨Q, 3, none⟩) Qa0.out).trans ya3; have yb4 := (bb.cell (p := ⟨Q, 4, none⟩) Qa0.out).trans ya4; have yb5 := (bb.cell (p := ⟨Q, 5, none⟩) Qa0.out).trans ya5; have yb6 := (bb.cell (p := ⟨Q, 6, none⟩) Qa0.out).trans ya6; have yb7 := (bb.cell (p := ⟨Q, 7, none⟩) Qa0.out).trans ya7; have yb8 := (bb.cell (p := ⟨Q, 8, none⟩) Qa0.out).trans ya8; have yb9 := (bb.cell (p := ⟨M, 0, none⟩) Qa1.out).trans ya9; have yb10 := (bb.cell (p := ⟨M, 1, none⟩) Qa1.out).trans ya10; have yb11 := (bb.cell (p := ⟨M, 2, none⟩) Qa1.out).trans ya11; have yb12 := (bb.cell (p := ⟨M, 3, none⟩) Qa1.out).trans ya12; have yb13 := (bb.cell (p := ⟨M, 4, none⟩) Qa1.out).trans ya13; have yb14 := (bb.cell (p := ⟨M, 5, none⟩) Qa1.out).trans ya14; have yb15 := (bb.cell (p := ⟨M, 6, none⟩) Qa1.out).trans ya15; have yb16 := (bb.cell (p := ⟨M, 7, none⟩) Qa1.out).trans ya16; have yb17 := (bb.cell (p := ⟨M, 8, none⟩) Qa1.out).trans ya17; obtain ⟨Au, cu, rfl⟩ := own_slice yb; clear yb bb)
    | (go_at_call 38; refine (ref38 m z A2 A3 A4 A5 _ _ _ _ c2 c3 c4 c5 d e y _).mono ?_; rintro en wd ⟨rfl, bd⟩; have Bd := Lib.hid (Bc.out.trans (bd.mono Bc.out.size)); have Fd := Lib.hid (Fc.out.below bd); have Gd := Lib.hid (Gc.out.below bd); have Qd0 := Lib.hid (Nat.lt_of_lt_of_le Qc0.out bd.size); have Qd1 := Lib.hid (Nat.lt_of_lt_of_le Qc1.out bd.size); have yd0 := (bd.cell (p := ⟨Q, 0, none⟩) Qc0.out).trans yc0; have yd1 := (bd.cell (p := ⟨Q, 1, none⟩) Qc0.out).trans yc1; have yd2 := (bd.cell (p := ⟨Q, 2, none⟩) Qc0.out).trans yc2; have yd3 := (bd.cell (p := ⟨Q, 3, none⟩) Qc0.out).trans yc3; have yd4 := (bd.cell (p := ⟨Q, 4, none⟩) Qc0.out).trans yc4; have yd5 := (bd.cell (p := ⟨Q, 5, none⟩) Qc0.out).trans yc5; have yd6 := (bd.cell (p := ⟨Q, 6, none⟩) Qc0.out).trans yc6; have yd7 := (bd.cell (p := ⟨Q, 7, none⟩) Qc0.out).trans yc7; have yd8 := (bd.cell (p := ⟨Q, 8, none⟩) Qc0.out).trans yc8; have yd9 := (bd.cell (p := ⟨M, 0, none⟩) Qc1.out).trans yc9; have yd10 := (bd.cell (p := ⟨M, 1, none⟩) Qc1.out).trans yc10; have yd11 := (bd.cell (p := ⟨M, 2, none⟩) Qc1.out).trans yc11; have yd12 := (bd.cell (p := ⟨M, 3, none⟩) Qc1.out).trans yc12; have yd13 := (bd.cell (p := ⟨M, 4, none⟩) Qc1.out).trans yc13; have yd14 := (bd.cell (p := ⟨M, 5, none⟩) Qc1.out).trans yc14; have yd15 := (bd.cell (p := ⟨M, 6, none⟩) Qc1.out).trans yc15; have yd16 := (bd.cell (p := ⟨M, 7, none⟩) Qc1.out).trans yc16; have yd17 := (bd.cell (p := ⟨M, 8, none⟩) Qc1.out).trans yc17; clear bd)
    | (go_at_call 38; refine (ref38 m z A2 A3 A4 A5 _ _ _ _ c2 c3 c4 c5 d e y _).mono ?_; rintro en wa ⟨rfl, ba⟩; have Oa := Lib.hid (pw_own_below O.out ba); have Ba := Lib.hid (B.out.trans (ba.mono B.out.size)); have Fa := Lib.hid (F.out.below ba); have Ga := Lib.hid (G.out.below ba); have Qa0 := Lib.hid (Nat.lt_of_lt_of_le Q0.out ba.size); have Qa1 := Lib.hid (Nat.lt_of_lt_of_le Q1.out ba.size); have ya0 := (ba.cell (p := ⟨Q, 0, none⟩) Q0.out).trans y0; have ya1 := (ba.cell (p := ⟨Q, 1, none⟩) Q0.out).trans y1; have ya2 := (ba.cell (p := ⟨Q, 2, none⟩) Q0.out).trans y2; have ya3 := (ba.cell (p := ⟨Q, 3, none⟩) Q0.out).trans y3; have ya4 := (ba.cell (p := ⟨Q, 4, none⟩) Q0.out).trans y4; have ya5 := (ba.cell (p := ⟨Q, 5, none⟩) Q0.out).trans y5; have ya6 := (ba.cell (p := ⟨Q, 6, none⟩) Q0.out).trans y6; have ya7 := (ba.cell (p := ⟨Q, 7, none⟩) Q0.out).trans y7; have ya8 := (ba.cell (p := ⟨Q, 8, none⟩) Q0.out).trans y8; have ya9 := (ba.cell (p := ⟨M, 0, none⟩) Q1.out).trans y9; have ya10 := (ba.cell (p := ⟨M, 1, none⟩) Q1.out).trans y10; have ya11 := (ba.cell (p := ⟨M, 2, none⟩) Q1.out).trans y11; have ya12 := (ba.cell (p := ⟨M, 3, none⟩) Q1.out).trans y12; have ya13 := (ba.cell (p := ⟨M, 4, none⟩) Q1.out).trans y13; have ya14 := (ba.cell (p := ⟨M, 5, none⟩) Q1.out).trans y14; have ya15 := (ba.cell (p := ⟨M, 6, none⟩) Q1.out).trans y15; have ya16 := (ba.cell (p := ⟨M, 7, none⟩) Q1.out).trans y16; have ya17 := (ba.cell (p := ⟨M, 8, none⟩) Q1.out).trans y17; clear ba))
  go_wp2
  go_ret
  exact ⟨rfl, Be.out⟩
end Go.Proofs.Ytehdhmhpmkkneaa
