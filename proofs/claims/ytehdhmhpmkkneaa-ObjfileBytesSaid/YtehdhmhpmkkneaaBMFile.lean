/- MFile. -/
import Derived.Deep.RegionHeld3
import Derived.Test.YtehdhmhpmkkneaaBMReads
import Derived.Test.YtehdhmhpmkkneaaBMKey
import Derived.Test.YtehdhmhpmkkneaaBMSym2
import Derived.Test.YtehdhmhpmkkneaaBPAlly39
import Derived.Test.YtehdhmhpmkkneaaBPAlly43
import Derived.Test.YtehdhmhpmkkneaaBMSame
/- The texts Ud, Uc, Ua, Va, Vc, Vd, Ub, Ve, Vf, one behind the other. -/
/- Layer 12: the walk of the reader's Word, for one reader. -/
namespace Go.Proofs.Ytehdhmhpmkkneaa
open Go.RowKit Go.Proofs.YtehdhmhpmkkneaaW.PrintWords Go.Proofs.Ytehdhmhpmkkneaa.PAll
set_option maxHeartbeats 1000000 in
set_option maxRecDepth 100000 in
theorem cword0 (w0 w : World) (g : Nat) (s : RS) (h : IsR w0 w g s) (hb : Below w0.heap.size w0 w) :
    Calls Try.prog 47 #[.pointer (some ⟨g, 0, none⟩)] w (RPost w0 w g (.int .u32 (wordS s).1) (wordS s).2) := by
  have ok0 := h.bytes
  have bd1 := byteS_bd s ok0
  obtain ⟨q1, hq1⟩ : ∃ q, q = byteS s := ⟨_, rfl⟩
  rw [← hq1] at bd1
  have ok1 := bd1.2.2
  have bd2 := byteS_bd q1.2 ok1
  obtain ⟨q2, hq2⟩ : ∃ q, q = byteS q1.2 := ⟨_, rfl⟩
  rw [← hq2] at bd2
  have ok2 := bd2.2.2
  have bd3 := byteS_bd q2.2 ok2
  obtain ⟨q3, hq3⟩ : ∃ q, q = byteS q2.2 := ⟨_, rfl⟩
  rw [← hq3] at bd3
  have ok3 := bd3.2.2
  have bd4 := byteS_bd q3.2 ok3
  obtain ⟨q4, hq4⟩ : ∃ q, q = byteS q3.2 := ⟨_, rfl⟩
  rw [← hq4] at bd4
  have ok4 := bd4.2.2
  have hS : wordS s = if q4.2.err = 0 then (q1.1 + 256 * q2.1 + 65536 * q3.1 + 16777216 * q4.1, q4.2) else (0, q4.2) := by rw [hq4, hq3, hq2, hq1]; rfl
  rw [hS]
  have HQ1 := Lib.hid hq1
  have HQ2 := Lib.hid hq2
  have HQ3 := Lib.hid hq3
  have HQ4 := Lib.hid hq4
  have HI := Lib.hid h
  have HB := Lib.hid hb
  clear hS hq1 hq2 hq3 hq4 h hb ok0 ok1 ok2 ok3 ok4
  obtain ⟨b1, t1⟩ := q1
  obtain ⟨b2, t2⟩ := q2
  obtain ⟨b3, t3⟩ := q3
  obtain ⟨b4, t4⟩ := q4
  simp only at bd1 bd2 bd3 bd4 HQ2 HQ3 HQ4 ⊢
  have QA1 : Hid ((byteS s).1 = b1) := Lib.hid (by rw [← HQ1.out])
  have QB1 : Hid ((byteS s).2 = t1) := Lib.hid (by rw [← HQ1.out])
  have QA2 : Hid ((byteS t1).1 = b2) := Lib.hid (by rw [← HQ2.out])
  have QB2 : Hid ((byteS t1).2 = t2) := Lib.hid (by rw [← HQ2.out])
  have QA3 : Hid ((byteS t2).1 = b3) := Lib.hid (by rw [← HQ3.out])
  have QB3 : Hid ((byteS t2).2 = t3) := Lib.hid (by rw [← HQ3.out])
  have QA4 : Hid ((byteS t3).1 = b4) := Lib.hid (by rw [← HQ4.out])
  have QB4 : Hid ((byteS t3).2 = t4) := Lib.hid (by rw [← HQ4.out])
  clear HQ1 HQ2 HQ3 HQ4
  obtain ⟨l1, u1, _⟩ := bd1
  obtain ⟨l2, u2, _⟩ := bd2
  obtain ⟨l3, u3, _⟩ := bd3
  obtain ⟨l4, u4, _⟩ := bd4
  have K1 := or_0 b1 l1 u1
  have K2 := or_8 b1 b2 l1 (by omega) l2 u2
  have K3 := or_16 (b1 + 256 * b2) b3 (by omega) (by omega) l3 u3
  have K4 := or_24 (b1 + 256 * b2 + 65536 * b3) b4 (by omega) (by omega) l4 u4
  have e1 : shl .u32 (b1 % 4294967296) 0 = b1 % 4294967296 := by show IntKind.u32.wrap (b1 % 4294967296 * 1) = _; simp [IntKind.wrap, IntKind.bits, IntKind.signed]
  have e2 : shl .u32 (b2 % 4294967296) 8 = b2 % 4294967296 * 256 % 4294967296 := rfl
  have e3 : shl .u32 (b3 % 4294967296) 16 = b3 % 4294967296 * 65536 % 4294967296 := rfl
  have e4 : shl .u32 (b4 % 4294967296) 24 = b4 % 4294967296 * 16777216 % 4294967296 := rfl
  rw [e1] at K1; rw [e2] at K2; rw [e3] at K3; rw [e4] at K4
  have KK : bits .or .u32 (bits .or .u32 (bits .or .u32 (bits .or .u32 0 (b1 % 4294967296)) (b2 % 4294967296 * 256 % 4294967296)) (b3 % 4294967296 * 65536 % 4294967296)) (b4 % 4294967296 * 16777216 % 4294967296) = b1 + 256 * b2 + 65536 * b3 + 16777216 * b4 := by rw [K1, K2, K3, K4]
  clear K1 K2 K3 K4 e1 e2 e3 e4
  clear l1 u1 l2 u2 l3 u3 l4 u4
  have HE : Hid (∀ q : RS, q = q) := Lib.hid (fun _ => rfl)
  by_cases he : t4.err = 0
  · rw [if_pos he]
    have he' : (t4.err != 0) = false := by rw [he]; rfl
    clear he HE
    go_enter Try.func47, Try.ntmps47
    go_wp2
    refine wp_loop_rounds 5 ?_
    rw [rounds_succ]
    go_wp2_with fail
    refine (cbyte w0 _ g _ HI.out HB.out).mono ?_
    rintro e w1 ⟨rfl, r, bl, st⟩
    have B1 := Lib.hid bl
    clear bl
    rw [QB1.out] at r
    rw [QA1.out]
    have R1 := Lib.hid r
    have T1 := Lib.hid st
    clear r st
    go_wp2
    rw [rounds_succ]
    go_wp2_with fail
    refine (cbyte w0 _ g _ R1.out B1.out).mono ?_
    rintro e w2 ⟨rfl, r, bl, st⟩
    have B2 := Lib.hid bl
    clear bl
    rw [QB2.out] at r
    rw [QA2.out]
    have R2 := Lib.hid r
    have T2 := Lib.hid (keep_trans T1.out st)
    clear r st
    go_wp2
    rw [rounds_succ]
    go_wp2_with fail
    refine (cbyte w0 _ g _ R2.out B2.out).mono ?_
    rintro e w3 ⟨rfl, r, bl, st⟩
    have B3 := Lib.hid bl
    clear bl
    rw [QB3.out] at r
    rw [QA3.out]
    have R3 := Lib.hid r
    have T3 := Lib.hid (keep_trans T2.out st)
    clear r st
    go_wp2
    rw [rounds_succ]
    go_wp2_with fail
    refine (cbyte w0 _ g _ R3.out B3.out).mono ?_
    rintro e w4 ⟨rfl, r, bl, st⟩
    have B4 := Lib.hid bl
    clear bl
    rw [QB4.out] at r
    rw [QA4.out]
    have R4 := Lib.hid r
    have T4 := Lib.hid (keep_trans T3.out st)
    clear r st
    go_wp2
    rw [rounds_succ]
    obtain ⟨f0, p0, A0, c0, hblk, _⟩ : ∃ f0 p A c, w4.heap[g]? = some (.cells #[.slice A f0 c, .int .i64 p, .int .i64 t4.err] 123 (0, 0)) ∧ True := by
      obtain ⟨f0, p, A, c, hb, _⟩ := R4.out
      exact ⟨_, _, _, _, hb, trivial⟩
    have hc2 : w4.cell? ⟨g, 2, none⟩ = some (.int .i64 t4.err) := blk_cell hblk 2
    clear hblk
    go_wp2
    go_ret
    refine ⟨?_, R4.out, B4.out, T4.out⟩
    first | rfl | (rw [← KK]; rfl)
  · rw [if_neg he]
    have he' : (t4.err != 0) = true := bne_iff_ne.2 he
    clear he HE
    go_enter Try.func47, Try.ntmps47
    go_wp2
    refine wp_loop_rounds 5 ?_
    rw [rounds_succ]
    go_wp2_with fail
    refine (cbyte w0 _ g _ HI.out HB.out).mono ?_
    rintro e w1 ⟨rfl, r, bl, st⟩
    have B1 := Lib.hid bl
    clear bl
    rw [QB1.out] at r
    rw [QA1.out]
    have R1 := Lib.hid r
    have T1 := Lib.hid st
    clear r st
    go_wp2
    rw [rounds_succ]
    go_wp2_with fail
    refine (cbyte w0 _ g _ R1.out B1.out).mono ?_
    rintro e w2 ⟨rfl, r, bl, st⟩
    have B2 := Lib.hid bl
    clear bl
    rw [QB2.out] at r
    rw [QA2.out]
    have R2 := Lib.hid r
    have T2 := Lib.hid (keep_trans T1.out st)
    clear r st
    go_wp2
    rw [rounds_succ]
    go_wp2_with fail
    refine (cbyte w0 _ g _ R2.out B2.out).mono ?_
    rintro e w3 ⟨rfl, r, bl, st⟩
    have B3 := Lib.hid bl
    clear bl
    rw [QB3.out] at r
    rw [QA3.out]
    have R3 := Lib.hid r
    have T3 := Lib.hid (keep_trans T2.out st)
    clear r st
    go_wp2
    rw [rounds_succ]
    go_wp2_with fail
    refine (cbyte w0 _ g _ R3.out B3.out).mono ?_
    rintro e w4 ⟨rfl, r, bl, st⟩
    have B4 := Lib.hid bl
    clear bl
    rw [QB4.out] at r
    rw [QA4.out]
    have R4 := Lib.hid r
    have T4 := Lib.hid (keep_trans T3.out st)
    clear r st
    go_wp2
    rw [rounds_succ]
    obtain ⟨f0, p0, A0, c0, hblk, _⟩ : ∃ f0 p A c, w4.heap[g]? = some (.cells #[.slice A f0 c, .int .i64 p, .int .i64 t4.err] 123 (0, 0)) ∧ True := by
      obtain ⟨f0, p, A, c, hb, _⟩ := R4.out
      exact ⟨_, _, _, _, hb, trivial⟩
    have hc2 : w4.cell? ⟨g, 2, none⟩ = some (.int .i64 t4.err) := blk_cell hblk 2
    clear hblk
    go_wp2
    go_ret
    refine ⟨?_, R4.out, B4.out, T4.out⟩
    first | rfl | (rw [← KK]; rfl)
end Go.Proofs.Ytehdhmhpmkkneaa
/- Layer 14: what is read as imports, in plain words; the walk of symfile.Read. -/
namespace Go.Proofs.Ytehdhmhpmkkneaa
open Go.RowKit Go.Proofs.YtehdhmhpmkkneaaW.PrintWords Go.Proofs.YtehdhmhpmkkneaaW.PrintMore Go.Proofs.Ytehdhmhpmkkneaa.PAll
def impRd (s : RS) : S93 × RS := (⟨(textS 32 s).1, (wordS (textS 32 s).2).1⟩, (wordS (textS 32 s).2).2)
def impsGo : Nat → List S93 → RS → List S93 × RS
  | 0, l, s => (l, s)
  | k + 1, l, s => if (impRd s).2.err = 0 then impsGo k (l ++ [(impRd s).1]) (impRd s).2 else ([], (impRd s).2)
def readI (s : RS) : List S93 × RS := impsGo (countS 64 s).1.toNat [] (countS 64 s).2
theorem info93r : (Try.prog.info? 93).map (fun i => (i.zero, i.size, i.bytes)) = some (some (.agg #[.string ByteArray.empty, .int .u32 0]), 2, 24) := by kernel_rfl
def ReadPostI (w0 w : World) (g : Nat) (l : List S93) (s : RS) (e : Ending) (w' : World) : Prop :=
  ∃ v, e = .returned v ∧ Kd.R k93 93 w' w.heap.size (fun k => w.heap.size ≤ k) v l ∧ IsR w0 w' g s ∧ Below w0.heap.size w0 w' ∧ KeepBut w w' g none
set_option maxHeartbeats 4000000 in
set_option maxRecDepth 100000 in
theorem sread (w0 w : World) (g : Nat) (s : RS) (h : IsR w0 w g s) (hb : Below w0.heap.size w0 w) :
    Calls Try.prog 64 #[.pointer (some ⟨g, 0, none⟩)] w (ReadPostI w0 w g (readI s).1 (readI s).2) := by
  have M0 : Hid (Mid w0 w w g s) := Lib.hid ⟨h, hb, KeepBut.refl _ _ _⟩
  have HG := Lib.hid M0.out.lt
  have hbd := countS_bd 64 s h.bytes
  obtain ⟨n, hn⟩ : ∃ n : Nat, (countS 64 s).1 = (n : Int) := ⟨(countS 64 s).1.toNat, by omega⟩
  have hn2 : n ≤ 64 := by omega
  have HRS : Hid (impsGo n [] (countS 64 s).2 = readI s) := Lib.hid (by unfold readI; rw [hn]; rfl)
  have HNN := Lib.hid hn
  clear h hb hbd
  go_enter Try.func64, Try.ntmps64
  go_wp2_with fail
  refine (M0.out.call (fun hi hb => ccount w0 w g s 64 (by omega) hi hb)).mono ?_
  rintro e w1 ⟨rfl, m1, _⟩
  rw [hn]
  clear hn
  generalize (countS 64 s).2 = s1 at *
  generalize readI s = q at *
  obtain ⟨ql, qs⟩ := q
  simp only
  have M1 := Lib.hid m1
  clear m1 M0 HNN
  go_wp2
  go_loopw [2, 3, 7] (fun r2 r3 r7 wr => ∃ (k : Nat) (v : Value) (l : List S93) (s : RS), k ≤ n ∧ l.length ≤ k ∧ r2 = .slice none 0 0 ∧ r3 = v ∧ r7 = .int .i64 k ∧ Hid (Mid w0 w wr g s) ∧ Hid (Kd.R k93 93 wr w.heap.size (fun k => w.heap.size ≤ k) v l) ∧ Hid (impsGo (n - k) l s = (ql, qs)))
    (fun _ _ r7 _ => n - (intOf r7).toNat)
  case atStart => exact ⟨0, _, [], s1, by omega, by simp, rfl, rfl, rfl, M1, Lib.hid (Kd.R_nil _ _ _ _ _), HRS⟩
  case round =>
    obtain ⟨k, v, l, s, hk, hl, rfl, rfl, rfl, M2, RO, HE⟩ := hrel
    by_cases hlt : k < n
    rotate_left
    · have hk0 : n - k = 0 := by omega
      have HE2 := HE.out
      rw [hk0] at HE2
      have e0 : (l, s) = (ql, qs) := HE2
      injection e0 with e1 e2
      subst e1 e2
      clear HE2 hk0
      obtain ⟨A, c, rfl, _⟩ := Kd.R_reads RO.out
      go_wp2
      go_ret
      exact ⟨_, rfl, RO.out, M2.out.rd, M2.out.low, M2.out.keep⟩
    obtain ⟨d, hd⟩ : ∃ d, n - k = d + 1 := ⟨n - k - 1, by omega⟩
    have HE2 : Hid ((if (impRd s).2.err = 0 then impsGo d (l ++ [(impRd s).1]) (impRd s).2 else ([], (impRd s).2)) = (ql, qs)) := Lib.hid (by
      have h := HE.out
      rw [hd] at h
      exact h)
    have HD : Hid (n - (k + 1) = d) := Lib.hid (by omega)
    have HX : Hid (impRd s = (⟨(textS 32 s).1, (wordS (textS 32 s).2).1⟩, (wordS (textS 32 s).2).2)) := Lib.hid rfl
    clear HE hd
    obtain ⟨AO, cO, rfl, _⟩ := Kd.R_reads RO.out
    go_wp2_with fail
    refine (M2.out.call (fun hi hb => ctext w0 _ g s 32 (by omega) hi hb)).mono ?_
    rintro e w2 ⟨rfl, m3, k3⟩
    have RO2 := Lib.hid (Kd.R_keep RO.out k3 (fun k hk => by have := HG.out; omega))
    have M3 := Lib.hid m3
    clear m3 k3
    generalize (textS 32 s).1 = f0 at *
    generalize (textS 32 s).2 = t1 at *
    obtain ⟨T, hT⟩ : ∃ T, T = w2.heap.size := ⟨_, rfl⟩
    have HTG : Hid (w.heap.size ≤ T) := Lib.hid (by rw [hT]; exact M3.out.size)
    have TT : Hid ((w2.alloc (.cells #[.string f0, .int .u32 0] 93)).heap[T]? = some (.cells #[.string f0, .int .u32 0] 93 (0, 0))) := Lib.hid (by rw [hT]; exact heap_alloc_new _ _)
    have M4 := Lib.hid (M3.out.alloc (.cells #[.string f0, .int .u32 0] 93))
    have RO3 : Hid (Kd.R k93 93 (w2.alloc (.cells #[.string f0, .int .u32 0] 93)) w.heap.size (fun x => w.heap.size ≤ x ∧ x < T) (.slice AO l.length cO) l) := Lib.hid (Kd.R_alloc (Kd.R_mono (Kd.R_bound RO2.out) (fun x hx => ⟨hx.1, by have := hx.2.2.1; omega⟩)) _)
    go_wp2_with fail
    rw [← hT]
    clear hT
    refine (M4.out.call (fun hi hb => cword0 w0 _ g t1 hi hb)).mono ?_
    rintro e w3 ⟨rfl, m5, k5⟩
    have HTNG : Hid (T ≠ g) := Lib.hid (by have := HG.out; have := HTG.out; omega)
    have TT5 := Lib.hid (k5.blk TT.out HTNG.out (by simp))
    have RO5 := Lib.hid (Kd.R_keep RO3.out k5 (fun k hk => by have := HG.out; omega))
    have M5 := Lib.hid m5
    clear m5 k5
    generalize (wordS t1).1 = f1 at *
    generalize (wordS t1).2 = u at *
    have q1 := blk_cell TT5.out 1
    have z1 := blk_frozen TT5.out 1
    simp only [List.getElem?_toArray, List.getElem?_cons_zero, List.getElem?_cons_succ] at q1
    have M6 := Lib.hid (M5.out.set (j := 1) HTG.out HG.out (.int .u32 f1))
    have TT6 := Lib.hid (blk_put TT5.out 1 (.int .u32 f1) (cs' := #[.string f0, .int .u32 f1]) rfl)
    have RO6 := Lib.hid (Kd.R_far (p := ⟨T, 1, none⟩) RO5.out (fun x hx => by show x ≠ T; omega) (.int .u32 f1))
    clear M4 M5 TT TT5 RO2 RO3 RO5 M2 M3
    have ce : Hid (∀ W, Mid w0 w W g u → Calls Try.prog 31 #[.pointer (some ⟨g, 0, none⟩)] W fun e W' => e = .returned (.int .i64 u.err) ∧ Mid w0 w W' g u ∧ KeepBut W W' g none) := Lib.hid (fun W hm => hm.call (fun hi hb => cerr w0 W g u hi hb))
    go_wp2_with fail
    refine (ce.out _ M6.out).mono ?_
    rintro e wd ⟨rfl, md, kd⟩
    have MD := Lib.hid md
    have TD := Lib.hid (kd.blk TT6.out HTNG.out (by simp))
    have OD := Lib.hid (Kd.R_keep RO6.out kd (fun k hk => by have := HG.out; omega))
    clear md kd q1 z1 M6 TT6 RO6
    by_cases hue : u.err = 0
    · have HE3 : Hid (impsGo (n - (k + 1)) (l ++ [⟨f0, f1⟩]) u = (ql, qs)) := Lib.hid (by
        have h := HE2.out
        rw [HX.out] at h
        simp only at h
        rw [if_pos hue] at h
        rw [HD.out]
        exact h)
      have hu2 : (u.err != 0) = false := by rw [hue]; rfl
      clear hue
      have LD := blk_lt TD.out
      have q0 := blk_cell TD.out 0
      have q1 := blk_cell TD.out 1
      simp only [List.getElem?_toArray, List.getElem?_cons_zero, List.getElem?_cons_succ] at q0 q1
      have OD' := Lib.hid (Kd.R_mono OD.out (fun k hk => hk.1))
      go_wp2_with (at_builtin; go_must (refine Kd.R_append k93 w.heap.size rfl _ _ 55 93 (.agg #[.string ByteArray.empty, .int .u32 0]) 24 rfl Try.underlying55 info93r rfl (by decide) (by decide) (.slice AO l.length cO) l ⟨f0, f1⟩ [.string f0, .int .u32 f1] (fun k => w.heap.size ≤ k) (fun _ => False) rfl rfl (k93_mkM _ _ _ ⟨f0, f1⟩) (fun _ h => h.elim) (fun k hk => Nat.le_trans MD.out.size hk) OD'.out (Below.refl _ _) MD.out.size (by omega) ?_; intro v1 we hown hbel hgrow hlie; have ME := Lib.hid (MD.out.grown (fun k e => by have := OD.out.1 k e; omega) HG.out hgrow); have OE := Lib.hid hown; clear hown hbel hgrow hlie))
      go_roundw
      case rel =>
        refine ⟨k + 1, v1, l ++ [⟨f0, f1⟩], u, by omega, by rw [List.length_append]; simp; omega, rfl, rfl, by go_num, ?_, ?_, HE3⟩
        · exact ME
        · exact OE
      case measure => simp [intOf]; omega
    · have HE3 : ([], u) = (ql, qs) := by
        have h := HE2.out
        rw [HX.out] at h
        simp only at h
        rwa [if_neg hue] at h
      injection HE3 with e1 e2
      subst e1 e2
      have hu2 : (u.err != 0) = true := bne_iff_ne.2 hue
      clear hue
      go_wp2
      go_ret
      exact ⟨_, rfl, Kd.R_nil _ _ _ _ _, MD.out.rd, MD.out.low, MD.out.keep⟩
end Go.Proofs.Ytehdhmhpmkkneaa
/- Layer 14: the walk of symfile.Write. -/
namespace Go.Proofs.Ytehdhmhpmkkneaa
open Go.RowKit Go.Proofs.YtehdhmhpmkkneaaW.PrintWords Go.Proofs.Ytehdhmhpmkkneaa.PAll
def impB (x : S93) : List Int := (cnt x.f0.size ++ bytesOf x.f0) ++ wrd x.f1
def impsB (l : List S93) : List Int := cnt l.length ++ l.flatMap impB
theorem row93u {w : World} {A : Option Addr} {xs : List S93} (h : Kd.C k93 w A xs.length xs) (k : Nat) (hk : k < xs.length) :
    ∃ b off, A = some ⟨b, off, none⟩ ∧ b < w.heap.size ∧ w.cell? ⟨b, off + k * 2, none⟩ = some (.string xs[k].f0) ∧ w.cell? ⟨b, off + k * 2 + 1, none⟩ = some (.int .u32 xs[k].f1) := by
  obtain ⟨ad, rfl, d0, _⟩ := at_T93 h (0 : Int) (by omega) (by omega)
  obtain ⟨b, off, rfl⟩ := plain_of d0
  obtain ⟨ad, e0, c0, c1⟩ := at_T93 h (k : Int) (by omega) (by omega)
  injection e0 with e0
  subst e0
  simp only [Int.toNat_natCast] at c0 c1
  rw [plain_add] at c0 c1
  have ex : rd_T93 xs (k : Int) = xs[k] := by simp [rd_T93, hk]
  rw [ex] at c0 c1
  exact ⟨b, off, rfl, World.block_lt_of_cell? _ _ c0, c0, c1⟩
set_option maxHeartbeats 1000000 in
set_option maxRecDepth 100000 in
theorem swrite (w0 : World) (g : Nat) (v : Value) (xs : List Int) (l : List S93) (A : Option Addr) (c : Nat) (w : World) (h : Wr w0.heap.size w g v xs) (hb : Below w0.heap.size w0 w) (hr : Kd.C k93 w0 A l.length l) (hok : ∀ x ∈ l, Ok93 x)
    (hT : xs.length + (impsB l).length ≤ 1000000000) :
    Calls Try.prog 62 #[.pointer (some ⟨g, 0, none⟩), .slice A l.length c] w fun e w' => e = .returned (.tuple #[]) ∧ ∃ v', Wr w0.heap.size w' g v' (xs ++ impsB l) ∧ Mv w w' g v v' := by
  have HW := Lib.hid h
  have HB0 := Lib.hid hb
  have HR := Lib.hid hr
  have OK := Lib.hid hok
  have hl63 : l.length ≤ 9223372036854775807 := hr.2.1
  have HX : Hid (xs.length + (cnt l.length).length + (l.flatMap impB).length ≤ 1000000000) := Lib.hid (by unfold impsB at hT; rw [List.length_append] at hT; omega)
  clear h hb hr hok hT
  go_enter Try.func62, Try.ntmps62
  go_wp2_with fail
  refine (wcount w0.heap.size g v xs l.length _ HW.out (by have := HX.out; omega) hl63).mono ?_
  rintro e w1 ⟨rfl, v1, h1, m1⟩
  have H1 := Lib.hid h1
  have M1 := Lib.hid m1
  clear h1 m1
  have HBB : ∀ (w2 : World) (v2 : Value), Mv w w2 g v v2 → Below w0.heap.size w0 w2 := fun _ _ m => m.below HB0.out HB0.out.size HW.out.2.1 HW.out.base
  have BB := Lib.hid HBB
  clear HBB
  go_wp2
  go_loopw [12] (fun r12 wr => ∃ (k : Nat) (u : Value), k ≤ l.length ∧ r12 = .int .i64 k ∧ Hid (Wr w0.heap.size wr g u (xs ++ cnt l.length ++ (l.take k).flatMap impB)) ∧ Hid (Mv w wr g v u)) (fun r12 _ => l.length - (intOf r12).toNat)
  case atStart => exact ⟨0, v1, by omega, rfl, Lib.hid (by rw [List.take_zero, List.flatMap_nil, List.append_nil]; exact H1.out), M1⟩
  case round =>
    obtain ⟨k, u, hk, rfl, H2, M2⟩ := hrel
    by_cases hlt : k < l.length
    rotate_left
    · go_wp2
      go_end0
      refine ⟨rfl, u, ?_, M2.out⟩
      have h2 := H2.out
      rw [List.take_of_length_le (by omega), List.append_assoc] at h2
      exact h2
    obtain ⟨b, off, rfl, hbl, x0, x1⟩ := row93u HR.out k hlt
    have bw := Lib.hid (BB.out _ _ M2.out)
    have q0 := cell_old bw.out hbl x0
    have q1 := cell_old bw.out hbl x1
    have okx := OK.out l[k] (List.getElem_mem hlt)
    have FT := Lib.hid (flat_take impB l k hlt)
    have FS := Lib.hid (flat_snoc impB l k hlt)
    generalize l[k] = x at *
    obtain ⟨f0, f1⟩ := x
    simp only at q0 q1
    obtain ⟨o0, o1⟩ := okx
    simp only at o0 o1
    have O1 := Lib.hid (bdu32 o1)
    obtain ⟨ys, Y⟩ : ∃ ys, Hid (ys = xs ++ cnt l.length ++ (l.take k).flatMap impB) := ⟨_, Lib.hid rfl⟩
    have HY : Hid (ys.length + ((cnt f0.size).length + f0.size + 4) ≤ 1000000000) := Lib.hid (by
      rw [Y.out]
      have h1 := FT.out
      have h2 := HX.out
      have h3 : (impB ⟨f0, f1⟩).length = (cnt f0.size).length + f0.size + 4 := by
        show ((cnt f0.size ++ bytesOf f0) ++ wrd f1).length = _
        rw [List.length_append, List.length_append, bytesOf_length]
        rfl
      simp only [List.length_append] at *
      omega)
    rw [← Y.out] at H2
    have ba : Below wr.heap.size wr (wr.alloc (.cells #[.string f0, .int .u32 f1] 93)) := (Below.refl _ _).alloc (Nat.le_refl _) _
    have H3 := Lib.hid (H2.out.below ba)
    have M3 := Lib.hid (Mv.of_below ba g u)
    have K3 := Lib.hid (heap_alloc_new wr (.cells #[.string f0, .int .u32 f1] 93))
    have NG := Lib.hid (new_ne H2.out).1
    have E3 := Lib.hid (new_ne H2.out).2
    clear ba x0 x1 o0 o1
    go_wp2_with fail
    refine (wtext w0.heap.size g u ys f0 _ H3.out (by have := HY.out; omega) (by have := HY.out; omega)).mono ?_
    rintro e w4 ⟨rfl, v4, h4, m4⟩
    have K4 := Lib.hid (blk_mv m4 K3.out NG.out E3.out)
    have H4 := Lib.hid h4
    have M4 := Lib.hid m4
    clear h4 m4
    have c4 := blk_cell K4.out 1
    simp only [List.getElem?_toArray, List.getElem?_cons_succ, List.getElem?_cons_zero] at c4
    go_wp2_with fail
    refine (wword w0.heap.size g v4 _ f1 _ H4.out (by have := HY.out; simp only [List.length_append, bytesOf_length]; omega) O1.out.1 O1.out.2).mono ?_
    rintro e w5 ⟨rfl, v5, h5, m5⟩
    have H5 := Lib.hid h5
    have M5 := Lib.hid m5
    clear h5 m5
    go_wp2
    go_roundw
    case rel =>
      refine ⟨k + 1, v5, by omega, by go_num, Lib.hid ?_, Lib.hid (M2.out.trans (M3.out.trans (M4.out.trans M5.out)))⟩
      have h := H5.out
      rw [FS.out]
      have e : impB ⟨f0, f1⟩ = (cnt f0.size ++ bytesOf f0) ++ wrd f1 := rfl
      rw [e]
      rw [Y.out] at h
      simp only [List.append_assoc] at h ⊢
      exact h
    case measure => simp [intOf]; omega
end Go.Proofs.Ytehdhmhpmkkneaa
/- What is read of what was written is what it was: plain laws. -/
namespace Go.Proofs.Ytehdhmhpmkkneaa
open Go.RowKit Go.Proofs.YtehdhmhpmkkneaaW.PrintWords Go.Proofs.YtehdhmhpmkkneaaW.PrintMore Go.Proofs.Ytehdhmhpmkkneaa.PAll
theorem cntGo_cnt : ∀ (d m j : Nat) (n : Int) (rest : List Int), m < 128 ^ d → j + d ≤ 9 → (0 < j → 0 < m) → cntGo (cnt m ++ rest) j n = (n + (m : Int) * 2 ^ (7 * j), ⟨rest, 0⟩)
  | 0, m, j, n, rest, hm, hj, h0 => by
    have : m = 0 := by simpa using hm
    subst this
    by_cases hj0 : 0 < j
    · exact absurd (h0 hj0) (by omega)
    · obtain rfl : j = 0 := by omega
      rw [cnt_low (by omega)]
      simp [cntGo]
  | d + 1, m, j, n, rest, hm, hj, h0 => by
    by_cases hl : m < 128
    · rw [cnt_low hl]
      have h1 : ¬ (j = 9 ∨ (0 < j ∧ (m : Int) = 0)) := by rintro (h | ⟨h, e⟩); omega; have := h0 h; omega
      have h2 : (m : Int) < 128 := by omega
      have h3 : (m : Int) % 128 = m := by omega
      simp only [List.cons_append, List.nil_append, cntGo, if_neg h1, if_pos h2, h3]
    · rw [cnt_high hl]
      have h1 : ¬ (j = 9 ∨ (0 < j ∧ ((m % 128 + 128 : Nat) : Int) = 0)) := by rintro (h | ⟨h, e⟩) <;> omega
      have h2 : ¬ ((m % 128 + 128 : Nat) : Int) < 128 := by omega
      have h3 : ((m % 128 + 128 : Nat) : Int) % 128 = ((m % 128 : Nat) : Int) := by omega
      simp only [List.cons_append, cntGo, if_neg h1, if_neg h2, h3]
      rw [cntGo_cnt d (m / 128) (j + 1) _ rest (by rw [Nat.pow_succ] at hm; omega) (by omega) (fun _ => by omega)]
      congr 1
      rw [show 7 * (j + 1) = 7 * j + 7 by omega, Int.pow_add]
      have e : (m : Int) = ((m % 128 : Nat) : Int) + 128 * ((m / 128 : Nat) : Int) := by omega
      generalize (2 : Int) ^ (7 * j) = p
      rw [show ((m : Int) * p) = (((m % 128 : Nat) : Int) + 128 * ((m / 128 : Nat) : Int)) * p by rw [← e]]
      generalize ((m % 128 : Nat) : Int) = a
      generalize ((m / 128 : Nat) : Int) = b
      rw [Int.add_mul]
      have : 128 * b * p = b * (p * 2 ^ 7) := by
        rw [Int.mul_comm p, ← Int.mul_assoc, Int.mul_comm 128]; rfl
      omega
theorem countS_cnt (m : Int) (k : Nat) (rest : List Int) (hk : k ≤ 9223372036854775807) (hm : (k : Int) ≤ m) : countS m ⟨cnt k ++ rest, 0⟩ = ((k : Int), ⟨rest, 0⟩) := by
  have h := cntGo_cnt 9 k 0 0 rest (by omega) (by omega) (by omega)
  simp only [Nat.mul_zero, Int.pow_zero, Int.mul_one, Int.zero_add] at h
  unfold countS
  rw [if_pos rfl]
  simp only [h]
  unfold fin
  rw [if_pos rfl, if_neg (by simp only; omega)]
theorem wordS_wrd (v : Int) (rest : List Int) : wordS ⟨wrd v ++ rest, 0⟩ = (v, ⟨rest, 0⟩) := by
  show (v % 256 + 256 * (v / 256 % 256) + 65536 * (v / 65536 % 256) + 16777216 * (v / 16777216), (⟨rest, 0⟩ : RS)) = _
  congr 1
  omega
theorem strOfNums_back (t : ByteArray) : strOfNums (bytesOf t) = t := by
  have : bytesOf t = t.data.toList.map fun x => (x.toNat : Int) := rfl
  rw [this]
  obtain ⟨⟨l⟩⟩ := t
  simp [strOfNums, Function.comp_def]
theorem textS_put' (m : Int) (s : ByteArray) (rest : List Int) (hs : s.size ≤ 9223372036854775807) (hm : (s.size : Int) ≤ m) : textS m ⟨cnt s.size ++ bytesOf s ++ rest, 0⟩ = (s, ⟨rest, 0⟩) := by
  have hl := bytesOf_length s
  unfold textS
  rw [List.append_assoc, countS_cnt m s.size _ hs hm]
  simp only
  rw [if_pos trivial, if_neg (by rw [List.length_append, hl]; omega), Int.toNat_natCast, ← hl, List.take_left, List.drop_left]
  congr 1
  exact strOfNums_back s
theorem impRd_put (x : S93) (rest : List Int) (h : x.f0.size ≤ 32) : impRd ⟨impB x ++ rest, 0⟩ = (x, ⟨rest, 0⟩) := by
  have ht := textS_put' 32 x.f0 (wrd x.f1 ++ rest) (by omega) (by omega)
  unfold impRd impB
  rw [List.append_assoc _ (wrd x.f1) rest, ht, wordS_wrd]
theorem impsGo_put : ∀ (l acc : List S93) (rest : List Int), (∀ x ∈ l, x.f0.size ≤ 32) → impsGo l.length acc ⟨l.flatMap impB ++ rest, 0⟩ = (acc ++ l, ⟨rest, 0⟩)
  | [], acc, rest, _ => by
    rw [List.append_nil]
    rfl
  | x :: r, acc, rest, h => by
    rw [List.flatMap_cons, List.append_assoc, List.length_cons, impsGo, impRd_put x _ (h x (List.mem_cons_self ..)), if_pos rfl, impsGo_put r _ rest (fun y hy => h y (List.mem_cons_of_mem _ hy)), List.append_assoc]
    rfl
theorem readI_put (l : List S93) (rest : List Int) (hl : l.length ≤ 64) (h : ∀ x ∈ l, x.f0.size ≤ 32) : readI ⟨impsB l ++ rest, 0⟩ = (l, ⟨rest, 0⟩) := by
  unfold readI impsB
  rw [List.append_assoc, countS_cnt 64 l.length _ (by omega) (by omega)]
  have e : ((l.length : Int)).toNat = l.length := by omega
  simp only [e]
  rw [impsGo_put l [] rest h, List.nil_append]
/-! ### what may be, may be read -/
theorem impS_fits : ∀ (l : List S93) (seen : List (List UInt8)), impS seen l = 0 → ∀ x ∈ l, x.f0.size ≤ 32
  | [], _, _, x, hx => by cases hx
  | y :: r, seen, h, x, hx => by
    unfold impS at h
    by_cases hb : nameB y.f0 = true
    · rw [if_pos hb] at h
      by_cases hc : seen.contains y.f0.data.toList = true
      · rw [if_pos hc] at h; cases h
      · rw [if_neg hc] at h
        rcases List.mem_cons.1 hx with rfl | hx
        · exact nameB_size hb
        · exact impS_fits r _ h x hx
    · rw [if_neg hb] at h; cases h
end Go.Proofs.Ytehdhmhpmkkneaa
/- symfile.Encode, walked. -/
namespace Go.Proofs.Ytehdhmhpmkkneaa
open Go.RowKit Go.Proofs.YtehdhmhpmkkneaaW.PrintWords Go.Proofs.YtehdhmhpmkkneaaW.PrintMore Go.Proofs.Ytehdhmhpmkkneaa.PAll
def EncPost (w : World) (code : Int) (xs : List Int) (e : Ending) (w' : World) : Prop :=
  ∃ v, e = .returned (.tuple #[v, .int .i64 code]) ∧ (code = 0 → w'.ownsRow w.heap.size 5 1 v xs.length (nums .u8 xs)) ∧ (code ≠ 0 → v = .slice none 0 0) ∧ Below w.heap.size w w'
theorem own_lower {w : World} {B B' e sz n : Nat} {v : Value} {xs : List Value} (h : w.ownsRow B e sz v n xs) (hb : B' ≤ B) : w.ownsRow B' e sz v n xs := by
  obtain ⟨h1, h2⟩ := h
  refine ⟨h1, ?_⟩
  rcases h2 with h | ⟨g, cap, cur, e1, e2, r⟩
  · exact .inl h
  · exact .inr ⟨g, cap, cur, e1, Nat.le_trans hb e2, r⟩
end Go.Proofs.Ytehdhmhpmkkneaa
/- symfile.Decode, walked where the bytes are a file's that may be. -/
namespace Go.Proofs.Ytehdhmhpmkkneaa
open Go.RowKit Go.Proofs.YtehdhmhpmkkneaaW.PrintWords Go.Proofs.YtehdhmhpmkkneaaW.PrintMore Go.Proofs.Ytehdhmhpmkkneaa.PAll
end Go.Proofs.Ytehdhmhpmkkneaa
/- Layer 14: the document's imports' bytes. -/
namespace Go.Proofs.Ytehdhmhpmkkneaa
open Go.RowKit Go.Proofs.YtehdhmhpmkkneaaW.PrintWords Go.Proofs.Ytehdhmhpmkkneaa.PAll
theorem refBytesK {k : Nat} (hk : 5 ≤ k) (n : Int) (h0 : 0 ≤ n) (h1 : n ≤ 4294967295) : pascalineref01_Bytes.f k n = some (wrd n) := at_rounds (g := fun k => pascalineref01_Bytes.f k n) (fun j => pascalineref01_Bytes.mono n j) hk (refBytes n h0 h1)
theorem impB_len (x : S93) : (impB x).length = (cnt x.f0.size).length + x.f0.size + 4 := by
  show ((cnt x.f0.size ++ bytesOf x.f0) ++ wrd x.f1).length = _
  rw [List.length_append, List.length_append, bytesOf_length]
  rfl
theorem refImps (l : List S93) (hl : l.length < 9223372036854775807) (ok : ∀ x ∈ l, Ok93 x) (hs : ∀ x ∈ l, x.f0.size ≤ 1000000000) : ∀ (d i k : Nat) (acc : List Int), i + d = l.length → d + 11 ≤ k → acc.length + ((l.drop i).flatMap impB).length ≤ 1000000000 →
    pascalineref14_Write.l0 k l acc (i : Int) = some (acc ++ (l.drop i).flatMap impB)
  | 0, i, k, acc, h, hk, _ => by
    obtain ⟨k, rfl⟩ : ∃ m, k = m + 1 := ⟨k - 1, by omega⟩
    rw [List.drop_of_length_le (by omega), List.flatMap_nil, List.append_nil]
    simp only [pascalineref14_Write.l0]
    rw [if_neg (by omega)]
  | d + 1, i, k, acc, h, hk, hT => by
    obtain ⟨k, rfl⟩ : ∃ m, k = m + 1 := ⟨k - 1, by omega⟩
    have hi : i < l.length := by omega
    rw [List.drop_eq_getElem_cons hi, List.flatMap_cons, List.length_append, impB_len] at hT
    have e1 : rd_T93 l (i : Int) = l[i] := by simp [rd_T93, List.getD, hi]
    have o := bdu32 (ok _ (List.getElem_mem hi)).2
    have ih := refImps l hl ok hs d (i + 1) k (acc ++ impB l[i]) (by omega) (by omega) (by rw [List.length_append, impB_len]; omega)
    simp only [pascalineref14_Write.l0]
    rw [if_pos (by omega), if_pos (by omega), e1, refTextK (by omega) _ (hs _ (List.getElem_mem hi))]
    simp only [Option.bind_some]
    rw [if_pos (by rw [List.length_append, bytesOf_length]; omega), refBytesK (by omega) _ o.1 o.2]
    simp only [Option.bind_some]
    have hw : (wrd l[i].f1).length = 4 := rfl
    rw [if_pos (by rw [List.length_append, List.length_append, bytesOf_length, hw]; omega), wrap_succ i (by omega)]
    have e2 : acc ++ (cnt l[i].f0.size ++ bytesOf l[i].f0) ++ wrd l[i].f1 = acc ++ impB l[i] := by rw [List.append_assoc]; rfl
    rw [e2, ih, List.drop_eq_getElem_cons hi, List.flatMap_cons, List.append_assoc]
end Go.Proofs.Ytehdhmhpmkkneaa
/- A file's bytes: the document's; how many they are. -/
namespace Go.Proofs.Ytehdhmhpmkkneaa
open Go.RowKit Go.Proofs.YtehdhmhpmkkneaaW.PrintWords Go.Proofs.YtehdhmhpmkkneaaW.PrintMore Go.Proofs.Ytehdhmhpmkkneaa.PAll
theorem impsB_le : ∀ (l : List S93), (∀ x ∈ l, x.f0.size ≤ 32) → (l.flatMap impB).length ≤ 45 * l.length
  | [], _ => by simp
  | x :: r, h => by
    have h1 := impsB_le r (fun y hy => h y (List.mem_cons_of_mem _ hy))
    have h2 := h x (List.mem_cons_self ..)
    have h3 := cnt_len9 (n := x.f0.size) (by omega)
    rw [List.flatMap_cons, List.length_append, impB_len, List.length_cons]
    omega
theorem allB_app {a b : List Int} (h : AllB a) (k : AllB b) : AllB (a ++ b) := fun x hx => (List.mem_append.1 hx).elim (h x) (k x)
theorem allB_map {α : Type} {f : α → List Int} (h : ∀ x, AllB (f x)) (l : List α) : AllB (l.flatMap f) := fun x hx => by
  obtain ⟨y, _, hy⟩ := List.mem_flatMap.1 hx
  exact h y x hy
theorem allB_cnt (n : Nat) : AllB (cnt n) := by
  induction n using Nat.strongRecOn with
  | _ n ih =>
    by_cases h : n < 128
    · rw [cnt_low h]
      intro x hx
      obtain rfl := List.mem_singleton.1 hx
      omega
    · rw [cnt_high h]
      intro x hx
      rcases List.mem_cons.1 hx with rfl | hx
      · omega
      · exact ih (n / 128) (by omega) x hx
theorem allB_wrd {z : Int} (h : 0 ≤ z ∧ z ≤ 4294967295) : AllB (wrd z) := fun x hx => by
  simp only [wrd, List.mem_cons, List.not_mem_nil, or_false] at hx
  omega
theorem allB_str (s : ByteArray) : AllB (bytesOf s) := fun x hx => by
  have e : bytesOf s = s.data.toList.map fun x => (x.toNat : Int) := rfl
  rw [e] at hx
  obtain ⟨y, _, rfl⟩ := List.mem_map.1 hx
  have := y.toNat_lt
  omega
end Go.Proofs.Ytehdhmhpmkkneaa
/- SymfileBytes: the law's walk. -/
namespace Go.Proofs.Ytehdhmhpmkkneaa
open Go.RowKit Go.Proofs.YtehdhmhpmkkneaaW.PrintWords Go.Proofs.YtehdhmhpmkkneaaW.PrintLast Go.Proofs.YtehdhmhpmkkneaaW.PrintMore Go.Proofs.Ytehdhmhpmkkneaa.PAll
end Go.Proofs.Ytehdhmhpmkkneaa
