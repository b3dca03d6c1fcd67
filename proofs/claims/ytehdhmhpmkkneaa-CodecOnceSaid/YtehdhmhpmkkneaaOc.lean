/- The walk of the law CodecOnce. -/
import Derived.Test.YtehdhmhpmkkneaaOn
namespace Go.Proofs.Ytehdhmhpmkkneaa
open Go.RowKit Go.Proofs.YtehdhmhpmkkneaaW.PrintWords Go.Proofs.Ytehdhmhpmkkneaa.PAll

set_option maxHeartbeats 16000000 in
set_option maxRecDepth 100000 in
theorem codecOnce_any (A : Option Addr) (n c : Nat) (xs : List Int) (w : World) (hr : ReadsInt w .u8 A n xs) (hok : AllB xs) (hc : n ≤ c) :
    Calls Try.prog 8 #[.slice A n c] w fun e w' => e = .returned (.bool true) ∧ Below w.heap.size w w' := by
  obtain rfl := hr.1
  have HR := Lib.hid hr
  have HR0 := Lib.hid hr
  have OK := Lib.hid hok
  have HC := Lib.hid hc
  have HN := Lib.hid hr.2.1
  clear hr hok hc
  by_cases h200 : xs.length > 200
  · go_enter Try.func8, Try.ntmps8
    go_wp2_with (go_at_call 15; refine (awake12 _).mono ?_; rintro e w1 ⟨rfl, hb1⟩; have B1 := Lib.hid hb1; clear hb1)
    go_ret
    exact ⟨rfl, B1.out⟩
  have HX : Hid (xs.length ≤ 200) := Lib.hid (by omega)
  have h2 : (xs.length : Int) ≤ 200 := by omega
  clear h200
  go_enter Try.func8, Try.ntmps8
  go_wp2_with (go_at_call 15; refine (awake12 _).mono ?_; rintro e w1 ⟨rfl, hb1⟩; have B1 := Lib.hid hb1; clear hb1)
  obtain ⟨w2, ew2⟩ : ∃ w2, w2 = ((w1.alloc (.cells #[.slice none 0 0] 26)).alloc (.cells #[.slice none 0 0] 26)).alloc (.cells #[.slice none 0 0] 26) := ⟨_, rfl⟩
  have s2 : w2.heap.size = w1.heap.size + 1 + 1 + 1 := by rw [ew2]; simp
  have B2 : Hid (Below w.heap.size w w2) := Lib.hid (by rw [ew2]; have := B1.out.size; exact ((B1.out.alloc (by omega) _).alloc (by simp; omega) _).alloc (by simp; omega) _)
  have Z1 : Hid (Wr 0 w2 w1.heap.size (.slice none 0 0) []) := Lib.hid (by rw [ew2]; exact ((wr_new 0 w1 (by omega)).below ((Below.refl _ _).alloc (Nat.le_refl _) _)).below ((Below.refl _ _).alloc (Nat.le_refl _) _))
  have Z2 : Hid (Wr 0 w2 (w1.heap.size + 1) (.slice none 0 0) []) := Lib.hid (by rw [ew2]; have h := (wr_new 0 (w1.alloc (.cells #[.slice none 0 0] 26)) (by omega)).below ((Below.refl _ _).alloc (Nat.le_refl _) (.cells #[.slice none 0 0] 26)); simpa using h)
  have Z3 : Hid (Wr 0 w2 (w1.heap.size + 1 + 1) (.slice none 0 0) []) := Lib.hid (by rw [ew2]; have h := wr_new 0 ((w1.alloc (.cells #[.slice none 0 0] 26)).alloc (.cells #[.slice none 0 0] 26)) (by omega); simpa using h)
  have HW : Hid (w.heap.size ≤ w1.heap.size) := Lib.hid B1.out.size
  rw [← ew2]
  have S2 := Lib.hid s2
  clear ew2 s2 h2
  refine (creadN A _ c xs w2 (HR.out.below B2.out) OK.out (by have := HX.out; omega)).mono ?_
  rintro e w3 ⟨g1, rfl, r1, l1, b1⟩
  have s3 : Stp w2 w3 0 := Stp.below b1
  have B3 := Lib.hid (B2.out.trans (b1.mono B2.out.size))
  have R1 := Lib.hid r1
  have L1 := Lib.hid l1
  have lt1 := Lib.hid r1.lt
  have Z1 := Lib.hid (Z1.out.stp (Stp.below (x := w2.heap.size) b1) (by have := blk_lt Z1.out.1; omega))
  have Z2 := Lib.hid (Z2.out.stp (Stp.below (x := w2.heap.size) b1) (by have := blk_lt Z2.out.1; omega))
  have Z3 := Lib.hid (Z3.out.stp (Stp.below (x := w2.heap.size) b1) (by have := blk_lt Z3.out.1; omega))
  clear r1 l1 b1 s3
  go_wp2_with fail
  refine (creadN A _ c xs w3 (HR.out.below B3.out) OK.out (by have := HX.out; omega)).mono ?_
  rintro e w4 ⟨g2, rfl, r2, l2, b2⟩
  have s4 : Stp w3 w4 0 := Stp.below b2
  have B4 := Lib.hid (B3.out.trans (b2.mono B3.out.size))
  have R2 := Lib.hid r2
  have L2 := Lib.hid l2
  have lt2 := Lib.hid r2.lt
  have Z1 := Lib.hid (Z1.out.stp (Stp.below (x := w3.heap.size) b2) (by have := blk_lt Z1.out.1; omega))
  have Z2 := Lib.hid (Z2.out.stp (Stp.below (x := w3.heap.size) b2) (by have := blk_lt Z2.out.1; omega))
  have Z3 := Lib.hid (Z3.out.stp (Stp.below (x := w3.heap.size) b2) (by have := blk_lt Z3.out.1; omega))
  have R1 := Lib.hid (R1.out.belowR b2)
  clear r2 l2 b2 s4
  go_wp2_with fail
  refine (creadN A _ c xs w4 (HR.out.below B4.out) OK.out (by have := HX.out; omega)).mono ?_
  rintro e w5 ⟨g3, rfl, r3, l3, b3⟩
  have s5 : Stp w4 w5 0 := Stp.below b3
  have B5 := Lib.hid (B4.out.trans (b3.mono B4.out.size))
  have R3 := Lib.hid r3
  have L3 := Lib.hid l3
  have lt3 := Lib.hid r3.lt
  have Z1 := Lib.hid (Z1.out.stp (Stp.below (x := w4.heap.size) b3) (by have := blk_lt Z1.out.1; omega))
  have Z2 := Lib.hid (Z2.out.stp (Stp.below (x := w4.heap.size) b3) (by have := blk_lt Z2.out.1; omega))
  have Z3 := Lib.hid (Z3.out.stp (Stp.below (x := w4.heap.size) b3) (by have := blk_lt Z3.out.1; omega))
  have R1 := Lib.hid (R1.out.belowR b3)
  have R2 := Lib.hid (R2.out.belowR b3)
  clear r3 l3 b3 s5
  have HG : Hid (w.heap.size ≤ w1.heap.size ∧ w1.heap.size + 1 + 1 < g1 ∧ g1 < g2 ∧ g2 < g3) := Lib.hid (by have := HW.out; have := S2.out; have := L1.out; have := L2.out; have := L3.out; have := lt1.out; have := lt2.out; omega)
  clear L1 L2 L3 lt1 lt2 lt3 S2 B1 B2 B3 B4 HR
  have bd := countS_bd 9223372036854775807 ⟨xs, 0⟩ OK.out
  have ON := once1 9223372036854775807 xs OK.out
  have CC : ∀ w0, IsR w0 w5 g1 ⟨xs, 0⟩ → Below w0.heap.size w0 w5 → _ := fun w0 hi hb => ccount w0 _ _ _ 9223372036854775807 (by omega) hi hb
  generalize (countS 9223372036854775807 ⟨xs, 0⟩) = q at bd ON CC
  obtain ⟨v1, q1⟩ := q
  simp only at bd ON CC
  have BD1 := Lib.hid bd
  have ON1 := Lib.hid ON
  have CC1 := Lib.hid CC
  clear bd ON CC
  go_wp2_with fail
  refine (R1.out.call CC1.out).mono ?_
  rintro e w6 ⟨rfl, r, st⟩
  have hd := R1.out.hd
  have R1 := Lib.hid r
  clear r CC1
  have R2 := Lib.hid (R2.out.step st (by have := HG.out; omega) hd)
  have R3 := Lib.hid (R3.out.step st (by have := HG.out; omega) hd)
  have Z1 := Lib.hid (Z1.out.stp st (by have := HG.out; omega))
  have Z2 := Lib.hid (Z2.out.stp st (by have := HG.out; omega))
  have Z3 := Lib.hid (Z3.out.stp st (by have := HG.out; omega))
  have B6 := Lib.hid (B5.out.trans (st.low (by have := HG.out; omega) B5.out.size))
  clear st hd B5
  go_wp2_with fail
  refine (Wn.call (wcountI 0 _ _ [] v1 _ Z1.out (by simp) BD1.out.2.2)).mono ?_
  rintro e w7 ⟨rfl, wn, st⟩
  have hd : Hd w6 w1.heap.size := Z1.out.hd
  have W1 := Lib.hid (wn.mono (S' := g3 + 1) R3.out.lt)
  clear wn Z1 BD1
  have R1 := Lib.hid (R1.out.step st (by have := HG.out; omega) hd)
  have R2 := Lib.hid (R2.out.step st (by have := HG.out; omega) hd)
  have R3 := Lib.hid (R3.out.step st (by have := HG.out; omega) hd)
  have Z2 := Lib.hid (Z2.out.stp st (by have := HG.out; omega))
  have Z3 := Lib.hid (Z3.out.stp st (by have := HG.out; omega))
  have B7 := Lib.hid (B6.out.trans (st.low (by have := HG.out; omega) B6.out.size))
  clear st hd B6
  have bd := numS_bd ⟨xs, 0⟩ OK.out
  have ON := once2 xs OK.out
  have CC : ∀ w0, IsR w0 w7 g2 ⟨xs, 0⟩ → Below w0.heap.size w0 w7 → _ := fun w0 hi hb => cnumber w0 _ _ _ hi hb
  generalize (numS ⟨xs, 0⟩) = q at bd ON CC
  obtain ⟨v2, q2⟩ := q
  simp only at bd ON CC
  have BD2 := Lib.hid bd
  have ON2 := Lib.hid ON
  have CC2 := Lib.hid CC
  clear bd ON CC
  go_wp2_with fail
  refine (R2.out.call CC2.out).mono ?_
  rintro e w8 ⟨rfl, r, st⟩
  have hd := R2.out.hd
  have R2 := Lib.hid r
  clear r CC2
  have R1 := Lib.hid (R1.out.step st (by have := HG.out; omega) hd)
  have R3 := Lib.hid (R3.out.step st (by have := HG.out; omega) hd)
  have W1 := Lib.hid (W1.out.step st (by have := HG.out; omega) (by have := HG.out; omega))
  have Z2 := Lib.hid (Z2.out.stp st (by have := HG.out; omega))
  have Z3 := Lib.hid (Z3.out.stp st (by have := HG.out; omega))
  have B8 := Lib.hid (B7.out.trans (st.low (by have := HG.out; omega) B7.out.size))
  clear st hd B7
  go_wp2_with fail
  refine (Wn.call (wnumber 0 _ _ [] v2 _ Z2.out (by simp) BD2.out.1 BD2.out.2)).mono ?_
  rintro e w9 ⟨rfl, wn, st⟩
  have hd : Hd w8 (w1.heap.size + 1) := Z2.out.hd
  have W2 := Lib.hid (wn.mono (S' := g3 + 1) R3.out.lt)
  clear wn Z2 BD2
  have R1 := Lib.hid (R1.out.step st (by have := HG.out; omega) hd)
  have R2 := Lib.hid (R2.out.step st (by have := HG.out; omega) hd)
  have R3 := Lib.hid (R3.out.step st (by have := HG.out; omega) hd)
  have W1 := Lib.hid (W1.out.step st (by have := HG.out; omega) (by have := HG.out; omega))
  have Z3 := Lib.hid (Z3.out.stp st (by have := HG.out; omega))
  have B9 := Lib.hid (B8.out.trans (st.low (by have := HG.out; omega) B8.out.size))
  clear st hd B8
  have bd := textS_bd 1000 ⟨xs, 0⟩ OK.out (by omega)
  have ON := once3 1000 xs OK.out
  have CC : ∀ w0, IsR w0 w9 g3 ⟨xs, 0⟩ → Below w0.heap.size w0 w9 → _ := fun w0 hi hb => ctext w0 _ _ _ 1000 (by omega) hi hb
  generalize (textS 1000 ⟨xs, 0⟩) = q at bd ON CC
  obtain ⟨v3, q3⟩ := q
  simp only at bd ON CC
  have BD3 := Lib.hid bd
  have ON3 := Lib.hid ON
  have CC3 := Lib.hid CC
  clear bd ON CC
  go_wp2_with fail
  refine (R3.out.call CC3.out).mono ?_
  rintro e w10 ⟨rfl, r, st⟩
  have hd := R3.out.hd
  have R3 := Lib.hid r
  clear r CC3
  have R1 := Lib.hid (R1.out.step st (by have := HG.out; omega) hd)
  have R2 := Lib.hid (R2.out.step st (by have := HG.out; omega) hd)
  have W1 := Lib.hid (W1.out.step st (by have := HG.out; omega) (by have := HG.out; omega))
  have W2 := Lib.hid (W2.out.step st (by have := HG.out; omega) (by have := HG.out; omega))
  have Z3 := Lib.hid (Z3.out.stp st (by have := HG.out; omega))
  have B10 := Lib.hid (B9.out.trans (st.low (by have := HG.out; omega) B9.out.size))
  clear st hd B9
  go_wp2_with fail
  refine (Wn.call (wtext 0 _ _ [] v3 _ Z3.out (by simp) (by have := BD3.out; omega))).mono ?_
  rintro e w11 ⟨rfl, wn, st⟩
  have hd : Hd w10 (w1.heap.size + 1 + 1) := Z3.out.hd
  have W3 := Lib.hid (wn.mono (S' := g3 + 1) R3.out.lt)
  clear wn Z3 BD3
  have R1 := Lib.hid (R1.out.step st (by have := HG.out; omega) hd)
  have R2 := Lib.hid (R2.out.step st (by have := HG.out; omega) hd)
  have R3 := Lib.hid (R3.out.step st (by have := HG.out; omega) hd)
  have W1 := Lib.hid (W1.out.step st (by have := HG.out; omega) (by have := HG.out; omega))
  have W2 := Lib.hid (W2.out.step st (by have := HG.out; omega) (by have := HG.out; omega))
  have B11 := Lib.hid (B10.out.trans (st.low (by have := HG.out; omega) B10.out.size))
  clear st hd B10
  obtain ⟨x1, ex1⟩ : ∃ x, x = (endS q1).err := ⟨_, rfl⟩
  have EX1 := Lib.hid ex1
  clear ex1
  obtain ⟨x2, ex2⟩ : ∃ x, x = (endS q2).err := ⟨_, rfl⟩
  have EX2 := Lib.hid ex2
  clear ex2
  obtain ⟨x3, ex3⟩ : ∃ x, x = (endS q3).err := ⟨_, rfl⟩
  have EX3 := Lib.hid ex3
  clear ex3
  go_wp2_with fail
  refine (R1.out.call (fun w0 hi hb => cend w0 _ _ _ hi hb)).mono ?_
  rintro e w12 ⟨rfl, r, st⟩
  have hd := R1.out.hd
  clear r
  have R2 := Lib.hid (R2.out.step st (by have := HG.out; omega) hd)
  have R3 := Lib.hid (R3.out.step st (by have := HG.out; omega) hd)
  have W1 := Lib.hid (W1.out.step st (by have := HG.out; omega) (by have := HG.out; omega))
  have W2 := Lib.hid (W2.out.step st (by have := HG.out; omega) (by have := HG.out; omega))
  have W3 := Lib.hid (W3.out.step st (by have := HG.out; omega) (by have := HG.out; omega))
  have B12 := Lib.hid (B11.out.trans (st.low (by have := HG.out; omega) B11.out.size))
  clear st hd B11
  rw [← EX1.out]
  by_cases z1 : x1 = 0
  · have W1' := W1.out
    rw [ON1.out (EX1.out.symm.trans z1)] at W1'
    obtain ⟨u1, hu1, _⟩ := W1'
    have U1 := Lib.hid hu1
    clear hu1
    have zt1 : (x1 == 0) = true := beq_iff_eq.2 z1
    have zf1 : (x1 != 0) = false := by rw [z1]; rfl
    clear z1
    go_wp2_with fail
    refine (wbytes 0 _ _ xs w12 U1.out (by have := HX.out; omega)).mono ?_
    rintro e w13 ⟨u, rfl, ho, b⟩
    obtain ⟨A1, c1, rfl⟩ := own_slice ho
    have O1 := Lib.hid ho
    have B13 := Lib.hid (B12.out.trans (b.mono B12.out.size))
    have R2 := Lib.hid (R2.out.belowR b)
    have R3 := Lib.hid (R3.out.belowR b)
    have W2 := Lib.hid (W2.out.belowW b)
    have W3 := Lib.hid (W3.out.belowW b)
    clear ho b B12
    go_wp2_with fail
    refine (rsameA (by have := HX.out; omega) O1.out (HR0.out.below B13.out) HC.out).mono ?_
    rintro e w14 ⟨rfl, d⟩
    have B14 := Lib.hid (B13.out.trans (d.below.mono B13.out.size))
    have R2 := Lib.hid (R2.out.belowR d.below)
    have R3 := Lib.hid (R3.out.belowR d.below)
    have W2 := Lib.hid (W2.out.belowW d.below)
    have W3 := Lib.hid (W3.out.belowW d.below)
    clear d B13 O1
    simp only [decide_true]
    go_wp2_with fail
    refine (R2.out.call (fun w0 hi hb => cend w0 _ _ _ hi hb)).mono ?_
    rintro e w15 ⟨rfl, r, st⟩
    have hd := R2.out.hd
    clear r
    have R3 := Lib.hid (R3.out.step st (by have := HG.out; omega) hd)
    have W2 := Lib.hid (W2.out.step st (by have := HG.out; omega) (by have := HG.out; omega))
    have W3 := Lib.hid (W3.out.step st (by have := HG.out; omega) (by have := HG.out; omega))
    have B15 := Lib.hid (B14.out.trans (st.low (by have := HG.out; omega) B14.out.size))
    clear st hd B14
    rw [← EX2.out]
    by_cases z2 : x2 = 0
    · have W2' := W2.out
      rw [ON2.out (EX2.out.symm.trans z2)] at W2'
      obtain ⟨u2, hu2, _⟩ := W2'
      have U2 := Lib.hid hu2
      clear hu2
      have zt2 : (x2 == 0) = true := beq_iff_eq.2 z2
      have zf2 : (x2 != 0) = false := by rw [z2]; rfl
      clear z2
      go_wp2_with fail
      refine (wbytes 0 _ _ xs w15 U2.out (by have := HX.out; omega)).mono ?_
      rintro e w16 ⟨u, rfl, ho, b⟩
      obtain ⟨A2, c2, rfl⟩ := own_slice ho
      have O2 := Lib.hid ho
      have B16 := Lib.hid (B15.out.trans (b.mono B15.out.size))
      have R3 := Lib.hid (R3.out.belowR b)
      have W3 := Lib.hid (W3.out.belowW b)
      clear ho b B15
      go_wp2_with fail
      refine (rsameA (by have := HX.out; omega) O2.out (HR0.out.below B16.out) HC.out).mono ?_
      rintro e w17 ⟨rfl, d⟩
      have B17 := Lib.hid (B16.out.trans (d.below.mono B16.out.size))
      have R3 := Lib.hid (R3.out.belowR d.below)
      have W3 := Lib.hid (W3.out.belowW d.below)
      clear d B16 O2
      simp only [decide_true]
      go_wp2_with fail
      refine (R3.out.call (fun w0 hi hb => cend w0 _ _ _ hi hb)).mono ?_
      rintro e w18 ⟨rfl, r, st⟩
      have hd := R3.out.hd
      clear r
      have W3 := Lib.hid (W3.out.step st (by have := HG.out; omega) (by have := HG.out; omega))
      have B18 := Lib.hid (B17.out.trans (st.low (by have := HG.out; omega) B17.out.size))
      clear st hd B17
      rw [← EX3.out]
      by_cases z3 : x3 = 0
      · have W3' := W3.out
        rw [ON3.out (EX3.out.symm.trans z3)] at W3'
        obtain ⟨u3, hu3, _⟩ := W3'
        have U3 := Lib.hid hu3
        clear hu3
        have zt3 : (x3 == 0) = true := beq_iff_eq.2 z3
        have zf3 : (x3 != 0) = false := by rw [z3]; rfl
        clear z3
        go_wp2_with fail
        refine (wbytes 0 _ _ xs w18 U3.out (by have := HX.out; omega)).mono ?_
        rintro e w19 ⟨u, rfl, ho, b⟩
        obtain ⟨A3, c3, rfl⟩ := own_slice ho
        have O3 := Lib.hid ho
        have B19 := Lib.hid (B18.out.trans (b.mono B18.out.size))
        clear ho b B18
        go_wp2_with fail
        refine (rsameA (by have := HX.out; omega) O3.out (HR0.out.below B19.out) HC.out).mono ?_
        rintro e w20 ⟨rfl, d⟩
        have B20 := Lib.hid (B19.out.trans (d.below.mono B19.out.size))
        clear d B19 O3
        simp only [decide_true]
        go_wp2
        go_ret
        exact ⟨rfl, B20.out⟩
      · have zt3 : (x3 == 0) = false := beq_eq_false_iff_ne.2 z3
        have zf3 : (x3 != 0) = true := bne_iff_ne.2 z3
        clear z3
        go_wp2
        go_ret
        exact ⟨rfl, B18.out⟩
    · have zt2 : (x2 == 0) = false := beq_eq_false_iff_ne.2 z2
      have zf2 : (x2 != 0) = true := bne_iff_ne.2 z2
      clear z2
      go_wp2_with fail
      refine (R3.out.call (fun w0 hi hb => cend w0 _ _ _ hi hb)).mono ?_
      rintro e w16 ⟨rfl, r, st⟩
      have hd := R3.out.hd
      clear r
      have W3 := Lib.hid (W3.out.step st (by have := HG.out; omega) (by have := HG.out; omega))
      have B16 := Lib.hid (B15.out.trans (st.low (by have := HG.out; omega) B15.out.size))
      clear st hd B15
      rw [← EX3.out]
      by_cases z3 : x3 = 0
      · have W3' := W3.out
        rw [ON3.out (EX3.out.symm.trans z3)] at W3'
        obtain ⟨u3, hu3, _⟩ := W3'
        have U3 := Lib.hid hu3
        clear hu3
        have zt3 : (x3 == 0) = true := beq_iff_eq.2 z3
        have zf3 : (x3 != 0) = false := by rw [z3]; rfl
        clear z3
        go_wp2_with fail
        refine (wbytes 0 _ _ xs w16 U3.out (by have := HX.out; omega)).mono ?_
        rintro e w17 ⟨u, rfl, ho, b⟩
        obtain ⟨A3, c3, rfl⟩ := own_slice ho
        have O3 := Lib.hid ho
        have B17 := Lib.hid (B16.out.trans (b.mono B16.out.size))
        clear ho b B16
        go_wp2_with fail
        refine (rsameA (by have := HX.out; omega) O3.out (HR0.out.below B17.out) HC.out).mono ?_
        rintro e w18 ⟨rfl, d⟩
        have B18 := Lib.hid (B17.out.trans (d.below.mono B17.out.size))
        clear d B17 O3
        simp only [decide_true]
        go_wp2
        go_ret
        exact ⟨rfl, B18.out⟩
      · have zt3 : (x3 == 0) = false := beq_eq_false_iff_ne.2 z3
        have zf3 : (x3 != 0) = true := bne_iff_ne.2 z3
        clear z3
        go_wp2
        go_ret
        exact ⟨rfl, B16.out⟩
  · have zt1 : (x1 == 0) = false := beq_eq_false_iff_ne.2 z1
    have zf1 : (x1 != 0) = true := bne_iff_ne.2 z1
    clear z1
    go_wp2_with fail
    refine (R2.out.call (fun w0 hi hb => cend w0 _ _ _ hi hb)).mono ?_
    rintro e w13 ⟨rfl, r, st⟩
    have hd := R2.out.hd
    clear r
    have R3 := Lib.hid (R3.out.step st (by have := HG.out; omega) hd)
    have W2 := Lib.hid (W2.out.step st (by have := HG.out; omega) (by have := HG.out; omega))
    have W3 := Lib.hid (W3.out.step st (by have := HG.out; omega) (by have := HG.out; omega))
    have B13 := Lib.hid (B12.out.trans (st.low (by have := HG.out; omega) B12.out.size))
    clear st hd B12
    rw [← EX2.out]
    by_cases z2 : x2 = 0
    · have W2' := W2.out
      rw [ON2.out (EX2.out.symm.trans z2)] at W2'
      obtain ⟨u2, hu2, _⟩ := W2'
      have U2 := Lib.hid hu2
      clear hu2
      have zt2 : (x2 == 0) = true := beq_iff_eq.2 z2
      have zf2 : (x2 != 0) = false := by rw [z2]; rfl
      clear z2
      go_wp2_with fail
      refine (wbytes 0 _ _ xs w13 U2.out (by have := HX.out; omega)).mono ?_
      rintro e w14 ⟨u, rfl, ho, b⟩
      obtain ⟨A2, c2, rfl⟩ := own_slice ho
      have O2 := Lib.hid ho
      have B14 := Lib.hid (B13.out.trans (b.mono B13.out.size))
      have R3 := Lib.hid (R3.out.belowR b)
      have W3 := Lib.hid (W3.out.belowW b)
      clear ho b B13
      go_wp2_with fail
      refine (rsameA (by have := HX.out; omega) O2.out (HR0.out.below B14.out) HC.out).mono ?_
      rintro e w15 ⟨rfl, d⟩
      have B15 := Lib.hid (B14.out.trans (d.below.mono B14.out.size))
      have R3 := Lib.hid (R3.out.belowR d.below)
      have W3 := Lib.hid (W3.out.belowW d.below)
      clear d B14 O2
      simp only [decide_true]
      go_wp2_with fail
      refine (R3.out.call (fun w0 hi hb => cend w0 _ _ _ hi hb)).mono ?_
      rintro e w16 ⟨rfl, r, st⟩
      have hd := R3.out.hd
      clear r
      have W3 := Lib.hid (W3.out.step st (by have := HG.out; omega) (by have := HG.out; omega))
      have B16 := Lib.hid (B15.out.trans (st.low (by have := HG.out; omega) B15.out.size))
      clear st hd B15
      rw [← EX3.out]
      by_cases z3 : x3 = 0
      · have W3' := W3.out
        rw [ON3.out (EX3.out.symm.trans z3)] at W3'
        obtain ⟨u3, hu3, _⟩ := W3'
        have U3 := Lib.hid hu3
        clear hu3
        have zt3 : (x3 == 0) = true := beq_iff_eq.2 z3
        have zf3 : (x3 != 0) = false := by rw [z3]; rfl
        clear z3
        go_wp2_with fail
        refine (wbytes 0 _ _ xs w16 U3.out (by have := HX.out; omega)).mono ?_
        rintro e w17 ⟨u, rfl, ho, b⟩
        obtain ⟨A3, c3, rfl⟩ := own_slice ho
        have O3 := Lib.hid ho
        have B17 := Lib.hid (B16.out.trans (b.mono B16.out.size))
        clear ho b B16
        go_wp2_with fail
        refine (rsameA (by have := HX.out; omega) O3.out (HR0.out.below B17.out) HC.out).mono ?_
        rintro e w18 ⟨rfl, d⟩
        have B18 := Lib.hid (B17.out.trans (d.below.mono B17.out.size))
        clear d B17 O3
        simp only [decide_true]
        go_wp2
        go_ret
        exact ⟨rfl, B18.out⟩
      · have zt3 : (x3 == 0) = false := beq_eq_false_iff_ne.2 z3
        have zf3 : (x3 != 0) = true := bne_iff_ne.2 z3
        clear z3
        go_wp2
        go_ret
        exact ⟨rfl, B16.out⟩
    · have zt2 : (x2 == 0) = false := beq_eq_false_iff_ne.2 z2
      have zf2 : (x2 != 0) = true := bne_iff_ne.2 z2
      clear z2
      go_wp2_with fail
      refine (R3.out.call (fun w0 hi hb => cend w0 _ _ _ hi hb)).mono ?_
      rintro e w14 ⟨rfl, r, st⟩
      have hd := R3.out.hd
      clear r
      have W3 := Lib.hid (W3.out.step st (by have := HG.out; omega) (by have := HG.out; omega))
      have B14 := Lib.hid (B13.out.trans (st.low (by have := HG.out; omega) B13.out.size))
      clear st hd B13
      rw [← EX3.out]
      by_cases z3 : x3 = 0
      · have W3' := W3.out
        rw [ON3.out (EX3.out.symm.trans z3)] at W3'
        obtain ⟨u3, hu3, _⟩ := W3'
        have U3 := Lib.hid hu3
        clear hu3
        have zt3 : (x3 == 0) = true := beq_iff_eq.2 z3
        have zf3 : (x3 != 0) = false := by rw [z3]; rfl
        clear z3
        go_wp2_with fail
        refine (wbytes 0 _ _ xs w14 U3.out (by have := HX.out; omega)).mono ?_
        rintro e w15 ⟨u, rfl, ho, b⟩
        obtain ⟨A3, c3, rfl⟩ := own_slice ho
        have O3 := Lib.hid ho
        have B15 := Lib.hid (B14.out.trans (b.mono B14.out.size))
        clear ho b B14
        go_wp2_with fail
        refine (rsameA (by have := HX.out; omega) O3.out (HR0.out.below B15.out) HC.out).mono ?_
        rintro e w16 ⟨rfl, d⟩
        have B16 := Lib.hid (B15.out.trans (d.below.mono B15.out.size))
        clear d B15 O3
        simp only [decide_true]
        go_wp2
        go_ret
        exact ⟨rfl, B16.out⟩
      · have zt3 : (x3 == 0) = false := beq_eq_false_iff_ne.2 z3
        have zf3 : (x3 != 0) = true := bne_iff_ne.2 z3
        clear z3
        go_wp2
        go_ret
        exact ⟨rfl, B14.out⟩
end Go.Proofs.Ytehdhmhpmkkneaa
