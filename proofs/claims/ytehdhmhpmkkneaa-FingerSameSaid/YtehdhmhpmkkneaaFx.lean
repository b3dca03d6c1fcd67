/- Layer 13: the walk of finger.Write. -/
import Derived.Test.YtehdhmhpmkkneaaFw
namespace Go.Proofs.Ytehdhmhpmkkneaa
open Go.RowKit Go.Proofs.YtehdhmhpmkkneaaW.PrintWords Go.Proofs.Ytehdhmhpmkkneaa.PAll

theorem cnt_lt {n : Nat} (h : n ≤ 9223372036854775807) : (cnt n).length ≤ 9 := cnt_len9 h

/-- A row that came in is read still. -/
theorem cell_old {w0 w : World} (hb : Below w0.heap.size w0 w) {b off : Nat} {v : Value} (hlt : b < w0.heap.size) (h : w0.cell? ⟨b, off, none⟩ = some v) : w.cell? ⟨b, off, none⟩ = some v :=
  (hb.cell (p := ⟨b, off, none⟩) hlt).trans h

/-- Where a new block lies: it is neither the writer's nor its row. -/
theorem new_ne {B : Nat} {w : World} {g : Nat} {v : Value} {xs : List Int} (h : Wr B w g v xs) : w.heap.size ≠ g ∧ some w.heap.size ≠ v.ownBlock := by
  refine ⟨fun e => ?_, fun e => ?_⟩
  · have := h.lt; omega
  · have := own_lt h.2.2 _ e.symm; omega

/-- Not the writer's block, nor its row, then or later. -/
theorem ne_later {w w2 : World} {g : Nat} {v v2 : Value} (m : Mv w w2 g v v2) {N : Nat} (hN : N < w.heap.size) (hv : some N ≠ v.ownBlock) : some N ≠ v2.ownBlock := by
  rcases m.lies with e | ⟨b, e, hb⟩
  · rw [e]; exact hv
  · rw [e]; intro e2; injection e2 with e2; omega

set_option maxHeartbeats 1000000 in
set_option maxRecDepth 100000 in
theorem fwrite (w0 : World) (g : Nat) (v : Value) (xs : List Int) (l : List S80) (A : Option Addr) (c : Nat) (w : World) (h : Wr w0.heap.size w g v xs) (hb : Below w0.heap.size w0 w) (hr : Kd.C k80 w0 A l.length l) (hok : ∀ x ∈ l, Ok80 x)
    (hT : xs.length + (expsB l).length ≤ 1000000000) :
    Calls Try.prog 22 #[.pointer (some ⟨g, 0, none⟩), .slice A l.length c] w fun e w' => e = .returned (.tuple #[]) ∧ ∃ v', Wr w0.heap.size w' g v' (xs ++ expsB l) ∧ Mv w w' g v v' := by
  have HW := Lib.hid h
  have HB0 := Lib.hid hb
  have HR := Lib.hid hr
  have OK := Lib.hid hok
  have HT := Lib.hid hT
  have hl63 : l.length ≤ 9223372036854775807 := hr.2.1
  have HX : Hid (xs.length + (cnt l.length).length + (l.flatMap expB).length ≤ 1000000000) := Lib.hid (by unfold expsB at hT; rw [List.length_append] at hT; omega)
  clear h hb hr hok hT
  go_enter Try.func22, Try.ntmps22
  go_wp2_with fail
  refine (wcount w0.heap.size g v xs l.length _ HW.out (by have := HX.out; omega) hl63).mono ?_
  rintro e w1 ⟨rfl, v1, h1, m1⟩
  have H1 := Lib.hid h1
  have M1 := Lib.hid m1
  clear h1 m1
  have HBB : ∀ (w2 : World) (v2 : Value), Mv w w2 g v v2 → Below w0.heap.size w0 w2 := fun _ _ m => m.below HB0.out HB0.out.size HW.out.2.1 HW.out.base
  have BB := Lib.hid HBB
  clear HBB
  go_wp2
  go_loopw [14] (fun r14 wr => ∃ (k : Nat) (u : Value), k ≤ l.length ∧ r14 = .int .i64 k ∧ Hid (Wr w0.heap.size wr g u (xs ++ cnt l.length ++ (l.take k).flatMap expB)) ∧ Hid (Mv w wr g v u)) (fun r14 _ => l.length - (intOf r14).toNat)
  case atStart => exact ⟨0, v1, by omega, rfl, Lib.hid (by rw [List.take_zero, List.flatMap_nil, List.append_nil]; exact H1.out), M1⟩
  case round =>
    obtain ⟨k, u, hk, rfl, H2, M2⟩ := hrel
    by_cases hlt : k < l.length
    rotate_left
    · go_wp2
      go_end0
      refine ⟨rfl, u, ?_, M2.out⟩
      have h2 := H2.out
      rw [List.take_of_length_le (by omega), List.append_assoc] at h2
      exact h2
    obtain ⟨b, off, A4, c4, rfl, hbl, x0, x1, x2, x3, x4, l4, g4⟩ := row80 HR.out k hlt
    have bw := Lib.hid (BB.out _ _ M2.out)
    have q0 := cell_old bw.out hbl x0
    have q1 := cell_old bw.out hbl x1
    have q2 := cell_old bw.out hbl x2
    have q3 := cell_old bw.out hbl x3
    have q4 := cell_old bw.out hbl x4
    have okx := OK.out l[k] (List.getElem_mem hlt)
    have FT := Lib.hid (flat_take expB l k hlt)
    have FS := Lib.hid (flat_snoc expB l k hlt)
    generalize l[k] = x at *
    obtain ⟨f0, f1, f2, f3, f4⟩ := x
    simp only at q0 q1 q2 q3 q4 x0 x1 x2 x3 x4 l4 g4
    obtain ⟨o0, o1, o2, o3, o4, o5⟩ := okx
    simp only at o0 o1 o2 o3 o4 o5
    have G4 := Lib.hid g4
    have O1 := Lib.hid (bd64 o1).2
    have O2 := Lib.hid (bd64 o2).2
    have O3 := Lib.hid (bd32 o3)
    have O5 := Lib.hid o5
    have l63 : f4.length ≤ 9223372036854775807 := g4.2.1
    obtain ⟨ys, Y⟩ : ∃ ys, Hid (ys = xs ++ cnt l.length ++ (l.take k).flatMap expB) := ⟨_, Lib.hid rfl⟩
    have HY : Hid (ys.length + (expB ⟨f0, f1, f2, f3, f4⟩).length ≤ 1000000000) := Lib.hid (by rw [Y.out]; have := FT.out; have := HX.out; simp only [List.length_append] at *; omega)
    have HZ : Hid (ys.length + (headB ⟨f0, f1, f2, f3, f4⟩).length + (f4.flatMap parB).length ≤ 1000000000) := Lib.hid (by have := HY.out; have e : expB ⟨f0, f1, f2, f3, f4⟩ = headB ⟨f0, f1, f2, f3, f4⟩ ++ f4.flatMap parB := rfl; rw [e, List.length_append] at this; omega)
    have HD : Hid (ys.length + ((cnt f0.size).length + f0.size + (cnt f1.toNat).length + (cnt f2.toNat).length + (cnt (sgn f3)).length + (cnt f4.length).length) ≤ 1000000000) := Lib.hid (by have := HZ.out; unfold headB at this; simp only [List.length_append, bytesOf_length] at this; omega)
    rw [← Y.out] at H2
    obtain ⟨wo, Wo⟩ : ∃ wo : World, Hid (wo = wr.alloc (.cells #[.string f0, .int .i64 f1, .int .i64 f2, .int .i32 f3, .slice A4 f4.length c4] 80)) := ⟨_, Lib.hid rfl⟩
    have ba : Below wr.heap.size wr (wr.alloc (.cells #[.string f0, .int .i64 f1, .int .i64 f2, .int .i32 f3, .slice A4 f4.length c4] 80)) := (Below.refl _ _).alloc (Nat.le_refl _) _
    have H3 := Lib.hid (H2.out.below ba)
    have M3 := Lib.hid (Mv.of_below ba g u)
    have K3 := Lib.hid (heap_alloc_new wr (.cells #[.string f0, .int .i64 f1, .int .i64 f2, .int .i32 f3, .slice A4 f4.length c4] 80))
    have NG := Lib.hid (new_ne H2.out).1
    have E3 := Lib.hid (new_ne H2.out).2
    clear ba x0 x1 x2 x3 x4 g4 o0 o1 o2 o3 o4 o5 Wo
    go_wp2_with fail
    refine (wtext w0.heap.size g u ys f0 _ H3.out (by have := HD.out; omega) (by have := HD.out; omega)).mono ?_
    rintro e w4 ⟨rfl, v4, h4, m4⟩
    have K4 := Lib.hid (blk_mv m4 K3.out NG.out E3.out)
    have E4 := Lib.hid (ne_later m4 (blk_lt K3.out) E3.out)
    have H4 := Lib.hid h4
    have M4 := Lib.hid m4
    clear h4 m4
    have c4 := blk_cell K4.out 1
    simp only [List.getElem?_toArray, List.getElem?_cons_succ, List.getElem?_cons_zero] at c4
    go_wp2_with fail
    refine (wcountI w0.heap.size g v4 _ f1 _ H4.out (by have := HD.out; simp only [List.length_append, bytesOf_length]; omega) O1.out).mono ?_
    rintro e w5 ⟨rfl, v5, h5, m5⟩
    have K5 := Lib.hid (blk_mv m5 K4.out NG.out E4.out)
    have E5 := Lib.hid (ne_later m5 (blk_lt K4.out) E4.out)
    have H5 := Lib.hid h5
    have M5 := Lib.hid m5
    clear h5 m5
    have c5 := blk_cell K5.out 2
    simp only [List.getElem?_toArray, List.getElem?_cons_succ, List.getElem?_cons_zero] at c5
    go_wp2_with fail
    refine (wcountI w0.heap.size g v5 _ f2 _ H5.out (by have := HD.out; simp only [List.length_append, bytesOf_length]; omega) O2.out).mono ?_
    rintro e w6 ⟨rfl, v6, h6, m6⟩
    have K6 := Lib.hid (blk_mv m6 K5.out NG.out E5.out)
    have E6 := Lib.hid (ne_later m6 (blk_lt K5.out) E5.out)
    have H6 := Lib.hid h6
    have M6 := Lib.hid m6
    clear h6 m6
    have c6 := blk_cell K6.out 3
    simp only [List.getElem?_toArray, List.getElem?_cons_succ, List.getElem?_cons_zero] at c6
    go_wp2_with fail
    refine (wnumber w0.heap.size g v6 _ f3 _ H6.out (by have := HD.out; simp only [List.length_append, bytesOf_length]; omega) O3.out.1 O3.out.2).mono ?_
    rintro e w7 ⟨rfl, v7, h7, m7⟩
    have K7 := Lib.hid (blk_mv m7 K6.out NG.out E6.out)
    have E7 := Lib.hid (ne_later m7 (blk_lt K6.out) E6.out)
    have H7 := Lib.hid h7
    have M7 := Lib.hid m7
    clear h7 m7
    have c7 := blk_cell K7.out 4
    simp only [List.getElem?_toArray, List.getElem?_cons_succ, List.getElem?_cons_zero] at c7
    go_wp2_with fail
    refine (wcount w0.heap.size g v7 _ f4.length _ H7.out (by have := HD.out; simp only [List.length_append, bytesOf_length]; omega) l63).mono ?_
    rintro e w8 ⟨rfl, v8, h8, m8⟩
    have K8 := Lib.hid (blk_mv m8 K7.out NG.out E7.out)
    have E8 := Lib.hid (ne_later m8 (blk_lt K7.out) E7.out)
    have H8 := Lib.hid h8
    have M8 := Lib.hid m8
    clear h8 m8
    have c8 := blk_cell K8.out 4
    simp only [List.getElem?_toArray, List.getElem?_cons_succ, List.getElem?_cons_zero] at c8
    have H9 : Hid (Wr w0.heap.size w8 g v8 (ys ++ headB ⟨f0, f1, f2, f3, f4⟩)) := Lib.hid (by have h := H8.out; simp only [List.append_assoc] at h; simpa only [headB, List.append_assoc] using h)
    have M9 := Lib.hid (M2.out.trans (M3.out.trans (M4.out.trans (M5.out.trans (M6.out.trans (M7.out.trans M8.out))))))
    clear q0 q1 q2 q3 q4 c4 c5 c6 c7 H3 H4 H5 H6 H7 H8 M3 M4 M5 M6 M7 M8 K3 K4 K5 K6 K7 E3 E4 E5 E6 E7 E8 bw
    go_wp2
    obtain ⟨wo, rfl⟩ : ∃ wo : World, wo = wr := ⟨_, rfl⟩
    go_loopw [42] (fun r42 w2 => ∃ (j : Nat) (u2 : Value), j ≤ f4.length ∧ r42 = .int .i64 j ∧ Hid (Wr w0.heap.size w2 g u2 (ys ++ headB ⟨f0, f1, f2, f3, f4⟩ ++ (f4.take j).flatMap parB)) ∧ Hid (Mv w w2 g v u2)) (fun r42 _ => f4.length - (intOf r42).toNat)
    case atStart => exact ⟨0, v8, by omega, rfl, Lib.hid (by rw [List.take_zero, List.flatMap_nil, List.append_nil]; exact H9.out), M9⟩
    case round =>
      obtain ⟨j, u2, hj, rfl, J1, J2⟩ := hrel
      by_cases hjl : j < f4.length
      · obtain ⟨b2, off2, rfl, hbl2, y0, y1⟩ := row119 G4.out j hjl
        have bw2 := Lib.hid (BB.out _ _ J2.out)
        have z0 := cell_old bw2.out hbl2 y0
        have z1 := cell_old bw2.out hbl2 y1
        have okp := O5.out f4[j] (List.getElem_mem hjl)
        have FT2 := Lib.hid (flat_take parB f4 j hjl)
        have FS2 := Lib.hid (flat_snoc parB f4 j hjl)
        generalize f4[j] = pp at *
        obtain ⟨p0, p1⟩ := pp
        simp only at z0 z1
        have OP := Lib.hid (bd64 okp).2
        have PB : Hid ((parB ⟨p0, p1⟩).length = (cnt p0.toNat).length + (cnt (if p1 = true then 1 else 0)).length) := Lib.hid (by show (cnt p0.toNat ++ cnt (if p1 = true then 1 else 0)).length = _; rw [List.length_append])
        have HP : Hid (ys.length + (headB ⟨f0, f1, f2, f3, f4⟩).length + ((f4.take j).flatMap parB).length + ((cnt p0.toNat).length + (cnt (if p1 = true then 1 else 0)).length) ≤ 1000000000) := Lib.hid (by have := HZ.out; have := FT2.out; have := PB.out; omega)
        have ba : Below wr.heap.size wr (wr.alloc (.cells #[.int .i64 p0, .bool p1] 119)) := (Below.refl _ _).alloc (Nat.le_refl _) _
        have H3 := Lib.hid (J1.out.below ba)
        have M3 := Lib.hid (Mv.of_below ba g u2)
        have K3 := Lib.hid (heap_alloc_new wr (.cells #[.int .i64 p0, .bool p1] 119))
        have NG2 := Lib.hid (new_ne J1.out).1
        have E3 := Lib.hid (new_ne J1.out).2
        clear ba y0 y1 okp
        go_wp2_with fail
        refine (wcountI w0.heap.size g u2 _ p0 _ H3.out (by have := HP.out; simp only [List.length_append]; omega) OP.out).mono ?_
        rintro e w4 ⟨rfl, v4, h4, m4⟩
        have K4 := Lib.hid (blk_mv m4 K3.out NG2.out E3.out)
        have H4 := Lib.hid h4
        have M4 := Lib.hid m4
        clear h4 m4
        have c4 := blk_cell K4.out 1
        simp only [List.getElem?_toArray, List.getElem?_cons_succ, List.getElem?_cons_zero] at c4
        cases p1
        · simp only [Bool.false_eq_true, if_false] at HP PB
          go_wp2_with fail
          refine (wcountI w0.heap.size g v4 _ 0 _ H4.out (by have := HP.out; simp only [List.length_append]; omega) (by omega)).mono ?_
          rintro e w5 ⟨rfl, v5, h5, m5⟩
          have H5 := Lib.hid h5
          have M5 := Lib.hid m5
          clear h5 m5
          go_wp2
          go_roundw
          case rel =>
            refine ⟨j + 1, v5, by omega, by go_num, Lib.hid ?_, Lib.hid (J2.out.trans (M3.out.trans (M4.out.trans M5.out)))⟩
            have h := H5.out
            rw [FS2.out]
            simp only [List.append_assoc] at h ⊢
            exact h
          case measure => simp [intOf]; omega
        · simp only [if_true] at HP PB
          go_wp2_with fail
          refine (wcountI w0.heap.size g v4 _ 1 _ H4.out (by have := HP.out; simp only [List.length_append]; omega) (by omega)).mono ?_
          rintro e w5 ⟨rfl, v5, h5, m5⟩
          have H5 := Lib.hid h5
          have M5 := Lib.hid m5
          clear h5 m5
          go_wp2
          go_roundw
          case rel =>
            refine ⟨j + 1, v5, by omega, by go_num, Lib.hid ?_, Lib.hid (J2.out.trans (M3.out.trans (M4.out.trans M5.out)))⟩
            have h := H5.out
            rw [FS2.out]
            simp only [List.append_assoc] at h ⊢
            exact h
          case measure => simp [intOf]; omega
      · go_wp2
        go_roundw
        case rel =>
          refine ⟨k + 1, u2, by omega, by go_num, Lib.hid ?_, J2⟩
          have h := J1.out
          rw [List.take_of_length_le (by omega), Y.out] at h
          rw [FS.out]
          have e : expB ⟨f0, f1, f2, f3, f4⟩ = headB ⟨f0, f1, f2, f3, f4⟩ ++ f4.flatMap parB := rfl
          rw [e]
          simp only [List.append_assoc] at h ⊢
          exact h
        case measure => simp [intOf]; omega

end Go.Proofs.Ytehdhmhpmkkneaa
