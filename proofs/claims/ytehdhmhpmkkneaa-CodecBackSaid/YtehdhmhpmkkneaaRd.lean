/- Layer 12: the walks of codec.Read and of the reader's Text, Number, Word, End. -/
import Derived.Test.YtehdhmhpmkkneaaRe
import Derived.Test.YtehdhmhpmkkneaaCy
namespace Go.Proofs.Ytehdhmhpmkkneaa
open Go.RowKit Go.Proofs.YtehdhmhpmkkneaaW.PrintWords Go.Proofs.Ytehdhmhpmkkneaa.PAll

/-- Behind Read: a new reader of these bytes. -/
def NewR (w : World) (xs : List Int) (e : Ending) (w' : World) : Prop :=
  ∃ w0 g, e = .returned (.pointer (some ⟨g, 0, none⟩)) ∧ IsR w0 w' g ⟨xs, 0⟩ ∧ Below w0.heap.size w0 w' ∧ Below w.heap.size w w0

set_option maxHeartbeats 400000 in
set_option maxRecDepth 100000 in
theorem cread (A : Option Addr) (n c : Nat) (xs : List Int) (w : World) (hr : ReadsInt w .u8 A n xs) (hok : AllB xs) (hl : xs.length ≤ 1000000000) :
    Calls Try.prog 28 #[.slice A n c] w (NewR w xs) := by
  obtain rfl := hr.1
  have HR := Lib.hid hr
  have OK := Lib.hid hok
  have HL := Lib.hid hl
  have HO := Lib.hid (own_lit w w.heap.size 5 .u8 [] (Nat.le_refl _) (by simp))
  clear hr hok hl
  go_enter Try.func28, Try.ntmps28
  go_wp2_with (at_builtin; go_must (refine print_append_row (w0 := w) w.heap.size rfl _ _ 24 5 .u8 1 rfl Try.underlying24 info5 (by decide) (.slice (some ⟨w.heap.size, 0, none⟩) 0 0) [] xs A xs.length c rfl rfl HO.out (HR.out.below ((Below.refl _ _).alloc (Nat.le_refl _) _)) ((Below.refl _ w).alloc (Nat.le_refl _) _) (by simp) (by have := HL.out; simp; omega) ?_; intro v1 w1 hown hbel hgrow hlie; obtain ⟨A1, n1, cap1, rfl⟩ := own_form hown; have H6 := Lib.hid hown; have H7 := Lib.hid hbel; clear hown hlie hgrow hbel))
  go_ret
  obtain ⟨A2, c2, e2, hrd⟩ := own_reads H6.out
  injection e2 with eA eN eC
  subst eA eC
  have hn : n1 = xs.length := by simpa using eN
  subst hn
  refine ⟨w1, w1.heap.size, rfl, ⟨xs, 0, A1, cap1, heap_alloc_new w1 _, Nat.le_refl _, by simpa using own_le H6.out, ?_, ⟨Int.le_refl _, by omega, by simp⟩, OK.out, by have := HL.out; omega⟩, (Below.refl _ _).alloc (Nat.le_refl _) _, H7.out⟩
  have h2 : ReadsInt w1 .u8 A1 ([] ++ xs).length ([] ++ xs) := hrd
  simpa only [List.nil_append] using h2

theorem info5' : ∃ i, Try.prog.info? 5 = some i ∧ i.size = 1 := by
  obtain ⟨i, hi, hzz⟩ := Option.map_eq_some_iff.1 info5
  simp only [Prod.mk.injEq] at hzz
  exact ⟨i, hi, hzz.2.1⟩

set_option maxHeartbeats 1000000 in
set_option maxRecDepth 100000 in
theorem ctext (w0 w : World) (g : Nat) (s : RS) (m : Int) (hm1 : m ≤ 9223372036854775807) (h : IsR w0 w g s) (hb : Below w0.heap.size w0 w) :
    Calls Try.prog 44 #[.pointer (some ⟨g, 0, none⟩), .int .i64 m] w (RPost w0 w g (.string (textS m s).1) (textS m s).2) := by
  have HI := Lib.hid h
  have HB := Lib.hid hb
  have hbd := countS_bd m s h.bytes
  have hce := countS_err m s
  have hcc := ccount w0 w g s m hm1 h hb
  have hT : textS m s = if (countS m s).2.err = 0 then (if (countS m s).1 > (countS m s).2.xs.length then (ByteArray.empty, ⟨(countS m s).2.xs, 120⟩) else (strOfNums ((countS m s).2.xs.take (countS m s).1.toNat), ⟨(countS m s).2.xs.drop (countS m s).1.toNat, 0⟩)) else (ByteArray.empty, (countS m s).2) := rfl
  generalize countS m s = q at *
  obtain ⟨n, t⟩ := q
  simp only at hbd hce hT hcc
  have HT := Lib.hid hT
  have HC := Lib.hid hcc
  obtain ⟨n0, _, n1⟩ := hbd
  clear h hb hT hcc
  by_cases he : t.err = 0
  · have hL : leftS t = t.xs.length := by unfold leftS; rw [if_pos he]
    have HL := Lib.hid hL
    have HE := Lib.hid he
    clear hce hL he
    by_cases hn : n > t.xs.length
    · have hT : textS m s = (ByteArray.empty, ⟨t.xs, 120⟩) := by rw [HT.out, if_pos HE.out, if_pos hn]
      rw [hT]
      clear hT
      go_enter Try.func44, Try.ntmps44
      go_wp2_with fail
      refine HC.out.mono ?_
      rintro e w1 ⟨rfl, i1, b1, k1⟩
      have I1 := Lib.hid i1
      have B1 := Lib.hid b1
      have K1 := Lib.hid k1
      clear i1 b1 k1
      go_wp2_with fail
      refine (cleft w0 w1 g t I1.out).mono ?_
      rintro e w2 ⟨rfl, d2⟩
      rw [HL.out]
      have i2 := I1.out.drawn d2
      have b2 := B1.out.trans (d2.below.mono B1.out.size)
      have k2 := keep_drawn d2 g
      clear d2
      have I2 := Lib.hid i2
      have B2 := Lib.hid b2
      have K2 := Lib.hid (keep_trans K1.out k2)
      clear i2 b2 k2
      go_wp2_with fail
      refine (cfail w0 w2 g t 120 I2.out B2.out).mono ?_
      rintro e w3 ⟨rfl, i3', b3, k3⟩
      have i3 : IsR w0 w3 g ⟨t.xs, 120⟩ := by
        have h := i3'
        unfold failS at h
        rwa [if_pos HE.out] at h
      have c2 : w3.cell? ⟨g, 2, none⟩ = some (.int .i64 120) := i3.errCell
      have I3 := Lib.hid i3
      have B3 := Lib.hid b3
      have K3 := Lib.hid (keep_trans K2.out k3)
      clear i3 i3' b3 k3
      go_wp2
      go_ret
      exact ⟨rfl, I3.out, B3.out, K3.out⟩
    · have hT : textS m s = (strOfNums (t.xs.take n.toNat), ⟨t.xs.drop n.toNat, 0⟩) := by rw [HT.out, if_pos HE.out, if_neg hn]
      rw [hT]
      clear hT
      have hn' : n ≤ t.xs.length := by omega
      clear hn
      go_enter Try.func44, Try.ntmps44
      go_wp2_with fail
      refine HC.out.mono ?_
      rintro e w1 ⟨rfl, i1, b1, k1⟩
      have I1 := Lib.hid i1
      have B1 := Lib.hid b1
      have K1 := Lib.hid k1
      clear i1 b1 k1
      go_wp2_with fail
      refine (cleft w0 w1 g t I1.out).mono ?_
      rintro e w2 ⟨rfl, d2⟩
      rw [HL.out]
      have i2 := I1.out.drawn d2
      have b2 := B1.out.trans (d2.below.mono B1.out.size)
      have k2 := keep_drawn d2 g
      clear d2
      have I2 := Lib.hid i2
      have B2 := Lib.hid b2
      have K2 := Lib.hid (keep_trans K1.out k2)
      obtain ⟨f0, p, A, c, hblk, hg, hle, hrd, ⟨p0, p1, px⟩, okf, hmf⟩ := i2
      rw [HE.out] at hblk
      have BLK := Lib.hid hblk
      have c0 : w2.cell? ⟨g, 0, none⟩ = some (.slice A f0.length c) := blk_cell hblk 0
      have c1 : w2.cell? ⟨g, 1, none⟩ = some (.int .i64 p) := blk_cell hblk 1
      have c2 : w2.cell? ⟨g, 2, none⟩ = some (.int .i64 0) := blk_cell hblk 2
      have z1 := blk_frozen hblk 1
      have hpn : p + n ≤ f0.length := by rw [px, List.length_drop] at hn'; omega
      have HMF := Lib.hid hmf
      have HCL := Lib.hid hle
      have OKF := Lib.hid okf
      have HPX := Lib.hid px
      have HRD := Lib.hid hrd
      have l63 : (f0.length : Int) ≤ 140737488351232 := by omega
      clear b2 k2 hblk hmf px hrd okf hle
      obtain ⟨A', hsl, hrd', _⟩ := print_mid_int (P := Try.prog) (k := .u8) 24 5 Try.underlying24 (i := info5'.choose) info5'.choose_spec.1 info5'.choose_spec.2 A c f0 p (p + n) p0 (by omega) (by omega) HCL.out
      obtain ⟨ys, Y⟩ : ∃ ys, Hid (ys = (f0.take (p + n).toNat).drop p.toNat) := ⟨_, Lib.hid rfl⟩
      rw [← Y.out] at hsl hrd'
      have R0 := Lib.hid (hrd' w0 HRD.out)
      clear hrd'
      generalize ys.length = L at hsl R0
      generalize c - p.toNat = CC at hsl
      go_wp2
      obtain ⟨W, hW⟩ : ∃ W : World, W = w2.setCell ⟨g, 1, none⟩ (.int .i64 (p + n)) := ⟨_, rfl⟩
      have bW : W.heap[g]? = some (.cells #[.slice A f0.length c, .int .i64 (p + n), .int .i64 0] 123 (0, 0)) := by rw [hW]; exact blk_set BLK.out 1 _
      have d0 : W.cell? ⟨g, 0, none⟩ = some (.slice A f0.length c) := blk_cell bW 0
      have d1 : W.cell? ⟨g, 1, none⟩ = some (.int .i64 (p + n)) := blk_cell bW 1
      have BB : Hid (Below w0.heap.size w0 W) := Lib.hid (by rw [hW]; exact B2.out.setCell hg _)
      have KK : Hid (KeepBut w W g none) := Lib.hid (by rw [hW]; exact K2.out.set_ 1 _)
      rw [← hW]
      have BW := Lib.hid bW
      have hconv : ∀ k, (convert 24 9 (.slice A' L CC)).run Try.prog (W.drewN k) = .ok (.string (strOfNums ys)) (W.drewN k) := fun k => string_of_reads Try.underlying24 Try.underlying5 Try.underlying9 (R0.out.below (pw_below_drewN BB.out k))
      have hs : IntKind.i64.wrap p = p := by rw [IntKind.wrap_i64]; omega
      clear hW bW c0 c1 c2 z1
      go_quiet (fail)
      go_wp2
      go_ret
      have ey : ys = t.xs.take n.toNat := by rw [Y.out, HPX.out, List.drop_take]; congr 1; omega
      refine ⟨by rw [← ey]; rfl, ?_, pw_below_drewN BB.out _, ?_⟩
      · refine ⟨f0, p + n, A, c, BW.out, hg, HCL.out, HRD.out, ⟨by omega, hpn, ?_⟩, OKF.out, HMF.out⟩
        simp only
        rw [HPX.out, List.drop_drop]
        congr 1
        omega
      · exact KK.out
  · have hL : leftS t = 0 := by unfold leftS; rw [if_neg he]
    have HL := Lib.hid hL
    have hn0 : n = 0 := hce he
    subst hn0
    have hT : textS m s = (ByteArray.empty, t) := by rw [HT.out, if_neg he]
    rw [hT]
    have HE : (t.err == 0) = false := beq_eq_false_iff_ne.2 he
    have HE2 : (t.err != 0) = true := bne_iff_ne.2 he
    clear hT hL hce he
    go_enter Try.func44, Try.ntmps44
    go_wp2_with fail
    refine HC.out.mono ?_
    rintro e w1 ⟨rfl, i1, b1, k1⟩
    have I1 := Lib.hid i1
    have B1 := Lib.hid b1
    have K1 := Lib.hid k1
    clear i1 b1 k1
    go_wp2_with fail
    refine (cleft w0 w1 g t I1.out).mono ?_
    rintro e w2 ⟨rfl, d2⟩
    rw [HL.out]
    have i2 := I1.out.drawn d2
    have b2 := B1.out.trans (d2.below.mono B1.out.size)
    have k2 := keep_drawn d2 g
    clear d2
    have c2 : w2.cell? ⟨g, 2, none⟩ = some (.int .i64 t.err) := i2.errCell
    have I2 := Lib.hid i2
    have B2 := Lib.hid b2
    have K2 := Lib.hid (keep_trans K1.out k2)
    clear i2 b2 k2
    go_wp2
    go_ret
    exact ⟨rfl, I2.out, B2.out, K2.out⟩

set_option maxHeartbeats 400000 in
set_option maxRecDepth 100000 in
theorem cend (w0 w : World) (g : Nat) (s : RS) (h : IsR w0 w g s) (hb : Below w0.heap.size w0 w) :
    Calls Try.prog 45 #[.pointer (some ⟨g, 0, none⟩)] w (RPost w0 w g (.int .i64 (endS s).err) (endS s)) := by
  have HI := Lib.hid h
  have HB := Lib.hid hb
  clear h hb
  by_cases hL : leftS s > 0
  · have hE : endS s = ⟨s.xs, 121⟩ := by unfold endS; rw [if_pos hL]
    have HE := Lib.hid (leftS_pos hL)
    rw [hE]
    clear hE
    go_enter Try.func45, Try.ntmps45
    go_wp2_with fail
    refine (cleft w0 w g s HI.out).mono ?_
    rintro e w1 ⟨rfl, d1⟩
    have D1 := Lib.hid d1
    clear d1
    go_wp2_with fail
    refine (cfail w0 w1 g s 121 (HI.out.drawn D1.out) (HB.out.trans (D1.out.below.mono HB.out.size))).mono ?_
    rintro e w2 ⟨rfl, i2', b2, k2⟩
    have i2 : IsR w0 w2 g ⟨s.xs, 121⟩ := by
      have h := i2'
      unfold failS at h
      rwa [if_pos HE.out] at h
    have c2 : w2.cell? ⟨g, 2, none⟩ = some (.int .i64 121) := i2.errCell
    have I2 := Lib.hid i2
    have B2 := Lib.hid b2
    have K2 := Lib.hid (keep_trans (keep_drawn D1.out g) k2)
    clear i2 i2' b2 k2
    go_wp2
    go_ret
    exact ⟨rfl, I2.out, B2.out, K2.out⟩
  · have hE : endS s = s := by unfold endS; rw [if_neg hL]
    rw [hE]
    clear hE
    go_enter Try.func45, Try.ntmps45
    go_wp2_with fail
    refine (cleft w0 w g s HI.out).mono ?_
    rintro e w1 ⟨rfl, d1⟩
    have D1 := Lib.hid d1
    have c2 : w1.cell? ⟨g, 2, none⟩ = some (.int .i64 s.err) := (HI.out.drawn d1).errCell
    clear d1
    go_wp2
    go_ret
    exact ⟨rfl, HI.out.drawn D1.out, HB.out.trans (D1.out.below.mono HB.out.size), keep_drawn D1.out g⟩

set_option maxHeartbeats 400000 in
set_option maxRecDepth 100000 in
theorem cnumber (w0 w : World) (g : Nat) (s : RS) (h : IsR w0 w g s) (hb : Below w0.heap.size w0 w) :
    Calls Try.prog 42 #[.pointer (some ⟨g, 0, none⟩)] w (RPost w0 w g (.int .i32 (numS s).1) (numS s).2) := by
  have hbd := countS_bd 4294967295 s h.bytes
  have HC := Lib.hid (ccount w0 w g s 4294967295 (by omega) h hb)
  have hN : numS s = (if (countS 4294967295 s).1 % 2 = 1 then -(((countS 4294967295 s).1 + 1) / 2) else (countS 4294967295 s).1 / 2, (countS 4294967295 s).2) := rfl
  rw [hN]
  clear hN h hb
  generalize countS 4294967295 s = q at *
  obtain ⟨n, t⟩ := q
  simp only at hbd
  simp only
  obtain ⟨n0, n1, n2⟩ := hbd
  have n3 : n ≤ 4294967295 := by omega
  have KA := and1 n n0 (by omega)
  clear n1 n2
  by_cases h1 : n % 2 = 1
  · rw [if_pos h1]
    rw [h1] at KA
    have KT : wrap32 (wrap64 (-(Int.tdiv (n + 1) 2))) = -((n + 1) / 2) := by
      rw [Int.tdiv_eq_ediv_of_nonneg (by omega)]
      unfold wrap64 wrap32
      omega
    have H1 := Lib.hid h1
    clear h1
    go_enter Try.func42, Try.ntmps42
    go_wp2_with fail
    refine HC.out.mono ?_
    rintro e w1 ⟨rfl, i1, b1, k1⟩
    have I1 := Lib.hid i1
    have B1 := Lib.hid b1
    have K1 := Lib.hid k1
    clear i1 b1 k1
    go_wp2
    go_ret
    refine ⟨?_, I1.out, B1.out, K1.out⟩
    first | rfl | (rw [← KT]; rfl)
  · rw [if_neg h1]
    have h0 : n % 2 = 0 := by omega
    rw [h0] at KA
    have KT : wrap32 (n / 2) = n / 2 := by unfold wrap32; omega
    have H1 := Lib.hid h1
    clear h1 h0
    go_enter Try.func42, Try.ntmps42
    go_wp2_with fail
    refine HC.out.mono ?_
    rintro e w1 ⟨rfl, i1, b1, k1⟩
    have I1 := Lib.hid i1
    have B1 := Lib.hid b1
    have K1 := Lib.hid k1
    clear i1 b1 k1
    go_wp2
    go_ret
    refine ⟨?_, I1.out, B1.out, K1.out⟩
    first | rfl | (rw [← KT]; rfl)
end Go.Proofs.Ytehdhmhpmkkneaa
