/- scan.Scanner.blank: a label and gotos; walked by hand. -/
import Derived.WalkMore
import Derived.ScopeJumps
import Derived.Deep.RegionHeld3
import Derived.Lib.Hide
import Derived.Test.YtmalonlbnjiclaaPAllx3
namespace Go
theorem wp_scope_jumps3 {P : Program} {a : Act} {w : World} {Q : Exit → Act → World → Prop} {c Z : Code} (l : Nat) (J : Act → World → Prop) (μ : Act → World → Nat) (hf : findLabel c l = some (Code.skip.seq Z))
    (pass : ∀ a w, J a w → Z.wp P (Exit.jump l (fun a' w' => J a' w' ∧ μ a' w' < μ a w) Q) a w)
    (first : (∀ a w, J a w → Z.wp P (Exit.jump l J Q) a w) → c.wp P (Exit.jump l J Q) a w) : (Code.scope c).wp P Q a w := by
  refine wp_scope_jumps l J μ hf (first fun a w h => wp_mono (pass a w h) fun e a' w' q => ?_) (fun a w h => ?_)
  · cases e with
    | goto l' => exact ⟨q.1, q.2.1⟩
    | _ => exact q
  · exact wp_seq (wp_skip (pass a w h))
theorem jump_open {P : Program} {a : Act} {w : World} {J : Act → World → Prop} {Q : Exit → Act → World → Prop} {Z : Code} {l : Nat} (h : ∀ J' : Act → World → Prop, Go.RowKit.Hid (∀ a w, J a w → J' a w) → Z.wp P (Exit.jump l J' Q) a w) : Z.wp P (Exit.jump l J Q) a w :=
  h J (Lib.hid fun _ _ h => h)
end Go
namespace Go.Proofs.Ytmalonlbnjiclaa.PAll
open Go.RowKit Go.Proofs.YtmalonlbnjiclaaW.PrintWords Go.Proofs.YtmalonlbnjiclaaW.PrintLast Go.Proofs.YtmalonlbnjiclaaW.PrintMore

/-- Where blanks and remarks end, and what is wrong. -/
def blankS (s : ByteArray) (p d : Nat) : Nat × Int :=
  if h : s.size ≤ p then (p, if d > 0 then 81 else 0)
  else if bt s (p : Int) = 40 ∧ bt s ((p : Int) + 1) = 42 then blankS s (p + 2) (d + 1)
  else if d > 0 ∧ bt s (p : Int) = 42 ∧ bt s ((p : Int) + 1) = 41 then blankS s (p + 2) (d - 1)
  else if d > 0 ∨ bt s (p : Int) = 32 ∨ bt s (p : Int) = 9 ∨ bt s (p : Int) = 10 ∨ bt s (p : Int) = 13 then blankS s (p + 1) d
  else (p, 0)
termination_by s.size - p
theorem step1 {w0 w : World} {g : Nat} {s : ByteArray} {p : Nat} (h : IsS43 w0 w g s (p : Int)) : IsS43 w0 (w.setCell ⟨g, 1, none⟩ (.int .i64 ((p : Int) + 1))) g s ((p + 1 : Nat) : Int) := IsS43.set_1 h _
theorem step2 {w0 w : World} {g : Nat} {s : ByteArray} {p : Nat} (h : IsS43 w0 w g s (p : Int)) : IsS43 w0 (w.setCell ⟨g, 1, none⟩ (.int .i64 ((p : Int) + 2))) g s ((p + 2 : Nat) : Int) := IsS43.set_1 h _
theorem meas43 {w0 w : World} {g : Nat} {s : ByteArray} {p : Nat} (h : IsS43 w0 w g s (p : Int)) : s.size - (intOf ((w.cell? ⟨g, 1, none⟩).getD undef)).toNat = s.size - p := by
  obtain ⟨H, _⟩ := h
  rw [cellS43_1 H]
  rfl
def scan_Scanner_blank.f (s : ByteArray) (at_ : Int) : Option (Int × ByteArray × Int) :=
  if 0 ≤ at_ ∧ at_ ≤ (s.size : Int) ∧ s.size ≤ 140737488351232 then some ((blankS s at_.toNat 0).2, s, ((blankS s at_.toNat 0).1 : Int)) else none

/-- Where the scope's label stands: what the frame holds. -/
inductive AtLabel (g : Nat) (F : Nat → Nat → World → Prop) : Act → World → Prop
  | mk (p d : Nat) {u1 u4 u5 u6 u7 u8 u9 u10 u11 u12 u13 u14 u15 u16 u17 u18 u19 u20 u21 u22 u23 u24 u25 u26 u27 u28 u29 u30 u31 u32 u33 u34 u35 u36 u37 u38 u39 u40 u41 u42 u43 u44 u45 u46 u47 u48 u49 u50 u51 u52 u53 u54 u55 u56 u57 u58 u59 u60 u61 u62 u63 u64 u65 u66 u67 u68 u69 u70 u71 u72 u73 u74 u75 u76 u77 u78 u79 u80 u81 u82 u83 : Value} {w : World} (h : F p d w) : AtLabel g F { tmps := #[.pointer (some ⟨g, 0, none⟩), u1, .int .i64 0, .int .i64 (d : Int), u4, u5, u6, u7, u8, u9, u10, u11, u12, u13, u14, u15, u16, u17, u18, u19, u20, u21, u22, u23, u24, u25, u26, u27, u28, u29, u30, u31, u32, u33, u34, u35, u36, u37, u38, u39, u40, u41, u42, u43, u44, u45, u46, u47, u48, u49, u50, u51, u52, u53, u54, u55, u56, u57, u58, u59, u60, u61, u62, u63, u64, u65, u66, u67, u68, u69, u70, u71, u72, u73, u74, u75, u76, u77, u78, u79, u80, u81, u82, u83], defers := [] } w

theorem peekT (s : ByteArray) (p n : Nat) (hp : p + n ≤ 1000000000000000000) : scan_Scanner_peek.f s (p : Int) (n : Int) = some (bt s ((p : Int) + n), s, (p : Int)) := by
  have hw : wrap64 ((p : Int) + n) = (p : Int) + n := by unfold wrap64; omega
  unfold scan_Scanner_peek.f
  rw [hw]
  by_cases h : (p : Int) + n ≥ s.size
  · rw [if_pos h]
    have : bt s ((p : Int) + n) = 0 := by unfold bt; rw [dif_neg (by omega)]
    rw [this]
  · rw [if_neg h, if_pos (by omega), if_pos (by omega)]
theorem peek0 (s : ByteArray) (p : Nat) (hp : p ≤ 100000000000000000) : scan_Scanner_peek.f s (p : Int) 0 = some (bt s (p : Int), s, (p : Int)) := by
  have := peekT s p 0 (by omega)
  rwa [show ((p : Int) + (0 : Nat)) = (p : Int) by omega] at this
theorem peek1 (s : ByteArray) (p : Nat) (hp : p ≤ 100000000000000000) : scan_Scanner_peek.f s (p : Int) 1 = some (bt s ((p : Int) + 1), s, (p : Int)) := peekT s p 1 (by omega)
theorem bt_in {s : ByteArray} {p : Nat} {c : Int} (hc : c ≠ 0) (h : bt s (p : Int) = c) : p < s.size := by
  unfold bt at h
  split at h
  · omega
  · exact absurd h.symm hc

set_option maxHeartbeats 400000 in
set_option maxRecDepth 100000 in
theorem blank_walk (g : Nat) (s : ByteArray) (at0 : Nat) (w0 w : World) (hI : IsS43 w0 w g s (at0 : Int)) (hB : Below w0.heap.size w0 w) (ha : at0 ≤ s.size) (hs : s.size ≤ 140737488351232) :
    Calls Try.prog 17 #[.pointer (some ⟨g, 0, none⟩)] w fun e w' => e = .returned (.int .i64 (blankS s at0 0).2) ∧ IsS43 w0 w' g s ((blankS s at0 0).1 : Int) ∧ Below w0.heap.size w0 w' ∧ KeepBut w w' g none := by
  have HI := Lib.hid hI
  have HB := Lib.hid hB
  have HS := Lib.hid hs
  have HA := Lib.hid ha
  clear hI hB hs ha
  obtain ⟨R, HR⟩ : ∃ R, Hid (R = blankS s at0 0) := ⟨_, Lib.hid rfl⟩
  rw [← HR.out]
  go_enter Try.func17, Try.ntmps17
  go_wp2
  refine wp_scope_jumps3 0 (AtLabel g (fun p d w' => Hid (p ≤ s.size ∧ d ≤ p) ∧ Hid (blankS s p d = R) ∧ Hid (IsS43 w0 w' g s (p : Int)) ∧ Hid (Below w0.heap.size w0 w') ∧ Hid (KeepBut w w' g none))) (fun _ w' => s.size - (intOf ((w'.cell? ⟨g, 1, none⟩).getD undef)).toNat) rfl ?_ ?_
  rotate_left
  · intro hpass
    go_wp2
    go_step3
    rename_i K_ Q_ hK_
    refine hK_ _ _ (hpass _ _ (.mk at0 0 ⟨Lib.hid ⟨HA.out, Nat.zero_le _⟩, Lib.hid HR.out.symm, HI, HB, Lib.hid (KeepBut.refl _ _ _)⟩))
  · intro a' w' hJ
    obtain ⟨p, d, HPD, HQ, HI0, HB0, HK0⟩ := hJ
    refine jump_open fun J' HJ => ?_
    have HP : Hid (p ≤ 140737488351232 ∧ d ≤ p) := Lib.hid (by have := HPD.out; have := HS.out; omega)
    clear HI HB
    obtain ⟨HG0, _⟩ := HI0.out
    have cz00 := cellS43_0 HG0
    have cz01 := cellS43_1 HG0
    have fz01 := blk_frozen HG0 1
    clear HG0
    have hq := HQ.out
    have hpd := HPD.out
    rw [blankS] at hq
    obtain ⟨c0, hc0⟩ : ∃ c, bt s (p : Int) = c := ⟨_, rfl⟩
    obtain ⟨c1, hc1⟩ : ∃ c, bt s ((p : Int) + 1) = c := ⟨_, rfl⟩
    have hple : p ≤ 100000000000000000 := by have := HP.out; omega
    have F0 : Hid (scan_Scanner_peek.f s (p : Int) 0 = some (c0, s, (p : Int))) := Lib.hid (by rw [← hc0]; exact peek0 s p hple)
    have F1 : Hid (scan_Scanner_peek.f s (p : Int) 1 = some (c1, s, (p : Int))) := Lib.hid (by rw [← hc1]; exact peek1 s p hple)
    have hin0 : c0 ≠ 0 → p < s.size := fun h => bt_in h hc0
    have hin1 : c1 ≠ 0 → p + 1 < s.size := fun h => bt_in (p := p + 1) h (by rw [show ((p + 1 : Nat) : Int) = (p : Int) + 1 by omega]; exact hc1)
    rw [hc0, hc1] at hq
    by_cases h40 : c0 = 40
    · have hin := hin0 (by omega)
      rw [dif_neg (by omega)] at hq
      by_cases h42 : c1 = 42
      · rw [if_pos ⟨h40, h42⟩] at hq
        have hin1' := hin1 (by omega)
        have HN := Lib.hid hq
        have b0_ : (c0 == 40) = true := by simp; omega
        have b1_ : (c1 == 42) = true := by simp; omega
        have wd_ : wrap64 ((d : Int) + 1) = ((d + 1 : Nat) : Int) := by unfold wrap64; have := HP.out; omega
        have fin_ : p + 2 ≤ s.size ∧ d + 1 ≤ p + 2 ∧ s.size - (p + 2) < s.size - p := by have := HPD.out; omega
        have FIN := Lib.hid fin_
        clear hq hpd hin0 hin1 fin_
        (try clear hin)
        (try clear hin1')
        (try clear h40)
        (try clear h42)
        (try clear h41)
        (try clear hd)
        (try clear hps)
        (try clear hb)
        (try clear hb9)
        (try clear hb10)
        (try clear hb13)
        go_wp2_with (first | ((with_reducible refine gate_callee (f := 28) rfl ?_); refine goesL_ (some 6) rfl rfl Try.func28 (by kernel_rfl) rfl #[.pointer (some ⟨g, 0, none⟩), .int .i64 0] rfl (by (try simp only [List.map_toArray, List.map_cons, List.map_nil]); first | done | rfl) ?_; (with_reducible refine (scan_Scanner_peek.calls g s (p : Int) 0 c0 s (p : Int) w0 _ HI0.out HB0.out F0.out).mono ?_); rintro e w_1 ⟨rfl, hi, hb, hk⟩; refine ⟨_, rfl, ?_⟩; have HI1 := Lib.hid hi; have HB1 := Lib.hid hb; have HK1 := Lib.hid (HK0.out.trans hk (.inl rfl)); clear hi hb hk; obtain ⟨HG1, _⟩ := HI1.out; have cz10 := cellS43_0 HG1; have cz11 := cellS43_1 HG1; have fz10 := blk_frozen HG1 0; have fz11 := blk_frozen HG1 1; clear HG1) | (go_at_call 28; (with_reducible refine (scan_Scanner_peek.calls g s (p : Int) 1 c1 s (p : Int) w0 _ HI1.out HB1.out F1.out).mono ?_); rintro e w_2 ⟨rfl, hi, hb, hk⟩; have HI2 := Lib.hid hi; have HB2 := Lib.hid hb; have HK2 := Lib.hid (HK1.out.trans hk (.inl rfl)); clear hi hb hk; obtain ⟨HG2, _⟩ := HI2.out; have cz20 := cellS43_0 HG2; have cz21 := cellS43_1 HG2; have fz20 := blk_frozen HG2 0; have fz21 := blk_frozen HG2 1; clear HG2))
        repeat (go_quiet (fail); try go_wp2)
        rw [wd_]
        refine wp_goto ⟨rfl, HJ.out _ _ ⟨.mk (p + 2) (d + 1) ⟨Lib.hid ⟨FIN.out.1, FIN.out.2.1⟩, HN, Lib.hid (step2 (HI2.out)), Lib.hid (below_set (HB2.out) (IsS43.ge HI2.out)), Lib.hid (KeepBut.set_ (HK2.out) 1 _)⟩, ?_⟩⟩
        rw [meas43 (step2 (HI2.out)), meas43 HI0.out]
        exact FIN.out.2.2
      · rw [if_neg (by omega), if_neg (by omega)] at hq
        by_cases hd : 0 < d
        · rw [if_pos (by omega)] at hq
          have HN := Lib.hid hq
          have b0_ : (c0 == 40) = true := by simp; omega
          have b1_ : (c1 == 42) = false := by simp; omega
          have b2_ : (c0 == 42) = false := by simp; omega
          have b3_ : (decide ((0 : Int) < (d : Int))) = true := by simp; omega
          have b4_ : (decide ((s.size : Int) ≤ (p : Int))) = false := by simp; omega
          have b5_ : (decide (0 < d)) = true := by simp; omega
          have b6_ : (decide (s.size ≤ p)) = false := by simp; omega
          have fin_ : p + 1 ≤ s.size ∧ d ≤ p + 1 ∧ s.size - (p + 1) < s.size - p := by have := HPD.out; omega
          have FIN := Lib.hid fin_
          clear hq hpd hin0 hin1 fin_
          (try clear hin)
          (try clear hin1')
          (try clear h40)
          (try clear h42)
          (try clear h41)
          (try clear hd)
          (try clear hps)
          (try clear hb)
          (try clear hb9)
          (try clear hb10)
          (try clear hb13)
          go_wp2_with (first | ((with_reducible refine gate_callee (f := 28) rfl ?_); refine goesL_ (some 6) rfl rfl Try.func28 (by kernel_rfl) rfl #[.pointer (some ⟨g, 0, none⟩), .int .i64 0] rfl (by (try simp only [List.map_toArray, List.map_cons, List.map_nil]); first | done | rfl) ?_; (with_reducible refine (scan_Scanner_peek.calls g s (p : Int) 0 c0 s (p : Int) w0 _ HI0.out HB0.out F0.out).mono ?_); rintro e w_1 ⟨rfl, hi, hb, hk⟩; refine ⟨_, rfl, ?_⟩; have HI1 := Lib.hid hi; have HB1 := Lib.hid hb; have HK1 := Lib.hid (HK0.out.trans hk (.inl rfl)); clear hi hb hk; obtain ⟨HG1, _⟩ := HI1.out; have cz10 := cellS43_0 HG1; have cz11 := cellS43_1 HG1; have fz10 := blk_frozen HG1 0; have fz11 := blk_frozen HG1 1; clear HG1) | (go_at_call 28; (with_reducible refine (scan_Scanner_peek.calls g s (p : Int) 1 c1 s (p : Int) w0 _ HI1.out HB1.out F1.out).mono ?_); rintro e w_2 ⟨rfl, hi, hb, hk⟩; have HI2 := Lib.hid hi; have HB2 := Lib.hid hb; have HK2 := Lib.hid (HK1.out.trans hk (.inl rfl)); clear hi hb hk; obtain ⟨HG2, _⟩ := HI2.out; have cz20 := cellS43_0 HG2; have cz21 := cellS43_1 HG2; have fz20 := blk_frozen HG2 0; have fz21 := blk_frozen HG2 1; clear HG2))
          repeat (go_quiet (fail); try go_wp2)
          refine wp_goto ⟨rfl, HJ.out _ _ ⟨.mk (p + 1) (d) ⟨Lib.hid ⟨FIN.out.1, FIN.out.2.1⟩, HN, Lib.hid (step1 (IsS43.drewN HI2.out _)), Lib.hid (below_set (pw_below_drewN HB2.out _) (IsS43.ge HI2.out)), Lib.hid (KeepBut.set_ (keep_drewN HK2.out _) 1 _)⟩, ?_⟩⟩
          rw [meas43 (step1 (IsS43.drewN HI2.out _)), meas43 HI0.out]
          exact FIN.out.2.2
        · rw [if_neg (by omega)] at hq
          have HN := Lib.hid hq
          have b0_ : (c0 == 40) = true := by simp; omega
          have b1_ : (c1 == 42) = false := by simp; omega
          have b2_ : (c0 == 42) = false := by simp; omega
          have b3_ : (decide ((0 : Int) < (d : Int))) = false := by simp; omega
          have b4_ : (decide ((s.size : Int) ≤ (p : Int))) = false := by simp; omega
          have b5_ : (c0 == 32) = false := by simp; omega
          have b6_ : (c0 == 9) = false := by simp; omega
          have b7_ : (c0 == 10) = false := by simp; omega
          have b8_ : (c0 == 13) = false := by simp; omega
          have b9_ : (decide (0 < d)) = false := by simp; omega
          have b10_ : (decide (s.size ≤ p)) = false := by simp; omega
          clear hq hpd hin0 hin1
          (try clear hin)
          (try clear hin1')
          (try clear h40)
          (try clear h42)
          (try clear h41)
          (try clear hd)
          (try clear hps)
          (try clear hb)
          (try clear hb9)
          (try clear hb10)
          (try clear hb13)
          go_wp2_with (first | ((with_reducible refine gate_callee (f := 28) rfl ?_); refine goesL_ (some 6) rfl rfl Try.func28 (by kernel_rfl) rfl #[.pointer (some ⟨g, 0, none⟩), .int .i64 0] rfl (by (try simp only [List.map_toArray, List.map_cons, List.map_nil]); first | done | rfl) ?_; (with_reducible refine (scan_Scanner_peek.calls g s (p : Int) 0 c0 s (p : Int) w0 _ HI0.out HB0.out F0.out).mono ?_); rintro e w_1 ⟨rfl, hi, hb, hk⟩; refine ⟨_, rfl, ?_⟩; have HI1 := Lib.hid hi; have HB1 := Lib.hid hb; have HK1 := Lib.hid (HK0.out.trans hk (.inl rfl)); clear hi hb hk; obtain ⟨HG1, _⟩ := HI1.out; have cz10 := cellS43_0 HG1; have cz11 := cellS43_1 HG1; have fz10 := blk_frozen HG1 0; have fz11 := blk_frozen HG1 1; clear HG1) | (go_at_call 28; (with_reducible refine (scan_Scanner_peek.calls g s (p : Int) 1 c1 s (p : Int) w0 _ HI1.out HB1.out F1.out).mono ?_); rintro e w_2 ⟨rfl, hi, hb, hk⟩; have HI2 := Lib.hid hi; have HB2 := Lib.hid hb; have HK2 := Lib.hid (HK1.out.trans hk (.inl rfl)); clear hi hb hk; obtain ⟨HG2, _⟩ := HI2.out; have cz20 := cellS43_0 HG2; have cz21 := cellS43_1 HG2; have fz20 := blk_frozen HG2 0; have fz21 := blk_frozen HG2 1; clear HG2))
          repeat (go_quiet (fail); try go_wp2)
          simp only [Exit.jump]
          go_ret
          exact ⟨by rw [← HN.out]; rfl, by rw [← HN.out]; exact (IsS43.drewN HI2.out _), (pw_below_drewN HB2.out _), (keep_drewN HK2.out _)⟩
    · by_cases hd : 0 < d
      · by_cases h42 : c0 = 42
        · have hin := hin0 (by omega)
          rw [dif_neg (by omega), if_neg (by omega)] at hq
          by_cases h41 : c1 = 41
          · have hin1' := hin1 (by omega)
            rw [if_pos ⟨hd, h42, h41⟩] at hq
            have HN := Lib.hid hq
            have b0_ : (c0 == 40) = false := by simp; omega
            have b1_ : (c0 == 42) = true := by simp; omega
            have b2_ : (c1 == 41) = true := by simp; omega
            have b3_ : (decide ((0 : Int) < (d : Int))) = true := by simp; omega
            have b4_ : (decide (0 < d)) = true := by simp; omega
            have wd_ : wrap64 ((d : Int) - 1) = ((d - 1 : Nat) : Int) := by unfold wrap64; have := HP.out; omega
            have fin_ : p + 2 ≤ s.size ∧ d - 1 ≤ p + 2 ∧ s.size - (p + 2) < s.size - p := by have := HPD.out; omega
            have FIN := Lib.hid fin_
            clear hq hpd hin0 hin1 fin_
            (try clear hin)
            (try clear hin1')
            (try clear h40)
            (try clear h42)
            (try clear h41)
            (try clear hd)
            (try clear hps)
            (try clear hb)
            (try clear hb9)
            (try clear hb10)
            (try clear hb13)
            go_wp2_with (first | ((with_reducible refine gate_callee (f := 28) rfl ?_); refine goesL_ (some 6) rfl rfl Try.func28 (by kernel_rfl) rfl #[.pointer (some ⟨g, 0, none⟩), .int .i64 0] rfl (by (try simp only [List.map_toArray, List.map_cons, List.map_nil]); first | done | rfl) ?_; (with_reducible refine (scan_Scanner_peek.calls g s (p : Int) 0 c0 s (p : Int) w0 _ HI0.out HB0.out F0.out).mono ?_); rintro e w_1 ⟨rfl, hi, hb, hk⟩; refine ⟨_, rfl, ?_⟩; have HI1 := Lib.hid hi; have HB1 := Lib.hid hb; have HK1 := Lib.hid (HK0.out.trans hk (.inl rfl)); clear hi hb hk; obtain ⟨HG1, _⟩ := HI1.out; have cz10 := cellS43_0 HG1; have cz11 := cellS43_1 HG1; have fz10 := blk_frozen HG1 0; have fz11 := blk_frozen HG1 1; clear HG1) | (go_at_call 28; (with_reducible refine (scan_Scanner_peek.calls g s (p : Int) 1 c1 s (p : Int) w0 _ HI1.out HB1.out F1.out).mono ?_); rintro e w_2 ⟨rfl, hi, hb, hk⟩; have HI2 := Lib.hid hi; have HB2 := Lib.hid hb; have HK2 := Lib.hid (HK1.out.trans hk (.inl rfl)); clear hi hb hk; obtain ⟨HG2, _⟩ := HI2.out; have cz20 := cellS43_0 HG2; have cz21 := cellS43_1 HG2; have fz20 := blk_frozen HG2 0; have fz21 := blk_frozen HG2 1; clear HG2))
            repeat (go_quiet (fail); try go_wp2)
            rw [wd_]
            refine wp_goto ⟨rfl, HJ.out _ _ ⟨.mk (p + 2) (d - 1) ⟨Lib.hid ⟨FIN.out.1, FIN.out.2.1⟩, HN, Lib.hid (step2 (HI2.out)), Lib.hid (below_set (HB2.out) (IsS43.ge HI2.out)), Lib.hid (KeepBut.set_ (HK2.out) 1 _)⟩, ?_⟩⟩
            rw [meas43 (step2 (HI2.out)), meas43 HI0.out]
            exact FIN.out.2.2
          · rw [if_neg (by omega), if_pos (by omega)] at hq
            have HN := Lib.hid hq
            have b0_ : (c0 == 40) = false := by simp; omega
            have b1_ : (c0 == 42) = true := by simp; omega
            have b2_ : (c1 == 41) = false := by simp; omega
            have b3_ : (decide ((0 : Int) < (d : Int))) = true := by simp; omega
            have b4_ : (decide ((s.size : Int) ≤ (p : Int))) = false := by simp; omega
            have b5_ : (decide (0 < d)) = true := by simp; omega
            have b6_ : (decide (s.size ≤ p)) = false := by simp; omega
            have fin_ : p + 1 ≤ s.size ∧ d ≤ p + 1 ∧ s.size - (p + 1) < s.size - p := by have := HPD.out; omega
            have FIN := Lib.hid fin_
            clear hq hpd hin0 hin1 fin_
            (try clear hin)
            (try clear hin1')
            (try clear h40)
            (try clear h42)
            (try clear h41)
            (try clear hd)
            (try clear hps)
            (try clear hb)
            (try clear hb9)
            (try clear hb10)
            (try clear hb13)
            go_wp2_with (first | ((with_reducible refine gate_callee (f := 28) rfl ?_); refine goesL_ (some 6) rfl rfl Try.func28 (by kernel_rfl) rfl #[.pointer (some ⟨g, 0, none⟩), .int .i64 0] rfl (by (try simp only [List.map_toArray, List.map_cons, List.map_nil]); first | done | rfl) ?_; (with_reducible refine (scan_Scanner_peek.calls g s (p : Int) 0 c0 s (p : Int) w0 _ HI0.out HB0.out F0.out).mono ?_); rintro e w_1 ⟨rfl, hi, hb, hk⟩; refine ⟨_, rfl, ?_⟩; have HI1 := Lib.hid hi; have HB1 := Lib.hid hb; have HK1 := Lib.hid (HK0.out.trans hk (.inl rfl)); clear hi hb hk; obtain ⟨HG1, _⟩ := HI1.out; have cz10 := cellS43_0 HG1; have cz11 := cellS43_1 HG1; have fz10 := blk_frozen HG1 0; have fz11 := blk_frozen HG1 1; clear HG1) | (go_at_call 28; (with_reducible refine (scan_Scanner_peek.calls g s (p : Int) 1 c1 s (p : Int) w0 _ HI1.out HB1.out F1.out).mono ?_); rintro e w_2 ⟨rfl, hi, hb, hk⟩; have HI2 := Lib.hid hi; have HB2 := Lib.hid hb; have HK2 := Lib.hid (HK1.out.trans hk (.inl rfl)); clear hi hb hk; obtain ⟨HG2, _⟩ := HI2.out; have cz20 := cellS43_0 HG2; have cz21 := cellS43_1 HG2; have fz20 := blk_frozen HG2 0; have fz21 := blk_frozen HG2 1; clear HG2))
            repeat (go_quiet (fail); try go_wp2)
            refine wp_goto ⟨rfl, HJ.out _ _ ⟨.mk (p + 1) (d) ⟨Lib.hid ⟨FIN.out.1, FIN.out.2.1⟩, HN, Lib.hid (step1 (IsS43.drewN HI2.out _)), Lib.hid (below_set (pw_below_drewN HB2.out _) (IsS43.ge HI2.out)), Lib.hid (KeepBut.set_ (keep_drewN HK2.out _) 1 _)⟩, ?_⟩⟩
            rw [meas43 (step1 (IsS43.drewN HI2.out _)), meas43 HI0.out]
            exact FIN.out.2.2
        · by_cases hps : s.size ≤ p
          · rw [dif_pos hps, if_pos hd] at hq
            have HN := Lib.hid hq
            have b0_ : (c0 == 40) = false := by simp; omega
            have b1_ : (c0 == 42) = false := by simp; omega
            have b2_ : (decide ((0 : Int) < (d : Int))) = true := by simp; omega
            have b3_ : (decide ((s.size : Int) ≤ (p : Int))) = true := by simp; omega
            have b4_ : (decide (0 < d)) = true := by simp; omega
            have b5_ : (decide (s.size ≤ p)) = true := by simp; omega
            clear hq hpd hin0 hin1
            (try clear hin)
            (try clear hin1')
            (try clear h40)
            (try clear h42)
            (try clear h41)
            (try clear hd)
            (try clear hps)
            (try clear hb)
            (try clear hb9)
            (try clear hb10)
            (try clear hb13)
            go_wp2_with (first | ((with_reducible refine gate_callee (f := 28) rfl ?_); refine goesL_ (some 6) rfl rfl Try.func28 (by kernel_rfl) rfl #[.pointer (some ⟨g, 0, none⟩), .int .i64 0] rfl (by (try simp only [List.map_toArray, List.map_cons, List.map_nil]); first | done | rfl) ?_; (with_reducible refine (scan_Scanner_peek.calls g s (p : Int) 0 c0 s (p : Int) w0 _ HI0.out HB0.out F0.out).mono ?_); rintro e w_1 ⟨rfl, hi, hb, hk⟩; refine ⟨_, rfl, ?_⟩; have HI1 := Lib.hid hi; have HB1 := Lib.hid hb; have HK1 := Lib.hid (HK0.out.trans hk (.inl rfl)); clear hi hb hk; obtain ⟨HG1, _⟩ := HI1.out; have cz10 := cellS43_0 HG1; have cz11 := cellS43_1 HG1; have fz10 := blk_frozen HG1 0; have fz11 := blk_frozen HG1 1; clear HG1))
            repeat (go_quiet (fail); try go_wp2)
            simp only [Exit.jump]
            go_ret
            exact ⟨by rw [← HN.out]; rfl, by rw [← HN.out]; exact (IsS43.drewN HI1.out _), (pw_below_drewN HB1.out _), (keep_drewN HK1.out _)⟩
          · rw [dif_neg hps, if_neg (by omega), if_neg (by omega), if_pos (by omega)] at hq
            have HN := Lib.hid hq
            have b0_ : (c0 == 40) = false := by simp; omega
            have b1_ : (c0 == 42) = false := by simp; omega
            have b2_ : (decide ((0 : Int) < (d : Int))) = true := by simp; omega
            have b3_ : (decide ((s.size : Int) ≤ (p : Int))) = false := by simp; omega
            have b4_ : (decide (0 < d)) = true := by simp; omega
            have b5_ : (decide (s.size ≤ p)) = false := by simp; omega
            have fin_ : p + 1 ≤ s.size ∧ d ≤ p + 1 ∧ s.size - (p + 1) < s.size - p := by have := HPD.out; omega
            have FIN := Lib.hid fin_
            clear hq hpd hin0 hin1 fin_
            (try clear hin)
            (try clear hin1')
            (try clear h40)
            (try clear h42)
            (try clear h41)
            (try clear hd)
            (try clear hps)
            (try clear hb)
            (try clear hb9)
            (try clear hb10)
            (try clear hb13)
            go_wp2_with (first | ((with_reducible refine gate_callee (f := 28) rfl ?_); refine goesL_ (some 6) rfl rfl Try.func28 (by kernel_rfl) rfl #[.pointer (some ⟨g, 0, none⟩), .int .i64 0] rfl (by (try simp only [List.map_toArray, List.map_cons, List.map_nil]); first | done | rfl) ?_; (with_reducible refine (scan_Scanner_peek.calls g s (p : Int) 0 c0 s (p : Int) w0 _ HI0.out HB0.out F0.out).mono ?_); rintro e w_1 ⟨rfl, hi, hb, hk⟩; refine ⟨_, rfl, ?_⟩; have HI1 := Lib.hid hi; have HB1 := Lib.hid hb; have HK1 := Lib.hid (HK0.out.trans hk (.inl rfl)); clear hi hb hk; obtain ⟨HG1, _⟩ := HI1.out; have cz10 := cellS43_0 HG1; have cz11 := cellS43_1 HG1; have fz10 := blk_frozen HG1 0; have fz11 := blk_frozen HG1 1; clear HG1))
            repeat (go_quiet (fail); try go_wp2)
            refine wp_goto ⟨rfl, HJ.out _ _ ⟨.mk (p + 1) (d) ⟨Lib.hid ⟨FIN.out.1, FIN.out.2.1⟩, HN, Lib.hid (step1 (IsS43.drewN HI1.out _)), Lib.hid (below_set (pw_below_drewN HB1.out _) (IsS43.ge HI1.out)), Lib.hid (KeepBut.set_ (keep_drewN HK1.out _) 1 _)⟩, ?_⟩⟩
            rw [meas43 (step1 (IsS43.drewN HI1.out _)), meas43 HI0.out]
            exact FIN.out.2.2
      · by_cases hps : s.size ≤ p
        · rw [dif_pos hps, if_neg hd] at hq
          have HN := Lib.hid hq
          have b0_ : (c0 == 40) = false := by simp; omega
          have b1_ : (decide ((0 : Int) < (d : Int))) = false := by simp; omega
          have b2_ : (decide ((s.size : Int) ≤ (p : Int))) = true := by simp; omega
          have b3_ : (decide (0 < d)) = false := by simp; omega
          have b4_ : (decide (s.size ≤ p)) = true := by simp; omega
          clear hq hpd hin0 hin1
          (try clear hin)
          (try clear hin1')
          (try clear h40)
          (try clear h42)
          (try clear h41)
          (try clear hd)
          (try clear hps)
          (try clear hb)
          (try clear hb9)
          (try clear hb10)
          (try clear hb13)
          go_wp2_with (first | ((with_reducible refine gate_callee (f := 28) rfl ?_); refine goesL_ (some 6) rfl rfl Try.func28 (by kernel_rfl) rfl #[.pointer (some ⟨g, 0, none⟩), .int .i64 0] rfl (by (try simp only [List.map_toArray, List.map_cons, List.map_nil]); first | done | rfl) ?_; (with_reducible refine (scan_Scanner_peek.calls g s (p : Int) 0 c0 s (p : Int) w0 _ HI0.out HB0.out F0.out).mono ?_); rintro e w_1 ⟨rfl, hi, hb, hk⟩; refine ⟨_, rfl, ?_⟩; have HI1 := Lib.hid hi; have HB1 := Lib.hid hb; have HK1 := Lib.hid (HK0.out.trans hk (.inl rfl)); clear hi hb hk; obtain ⟨HG1, _⟩ := HI1.out; have cz10 := cellS43_0 HG1; have cz11 := cellS43_1 HG1; have fz10 := blk_frozen HG1 0; have fz11 := blk_frozen HG1 1; clear HG1))
          repeat (go_quiet (fail); try go_wp2)
          simp only [Exit.jump]
          go_ret
          exact ⟨by rw [← HN.out]; rfl, by rw [← HN.out]; exact (IsS43.drewN HI1.out _), (pw_below_drewN HB1.out _), (keep_drewN HK1.out _)⟩
        · rw [dif_neg hps, if_neg (by omega), if_neg (by omega)] at hq
          by_cases hb : c0 = 32
          · rw [if_pos (by omega)] at hq
            have HN := Lib.hid hq
            have b0_ : (c0 == 40) = false := by simp; omega
            have b1_ : (decide ((0 : Int) < (d : Int))) = false := by simp; omega
            have b2_ : (decide ((s.size : Int) ≤ (p : Int))) = false := by simp; omega
            have b3_ : (c0 == 32) = true := by simp; omega
            have b4_ : (decide (0 < d)) = false := by simp; omega
            have b5_ : (decide (s.size ≤ p)) = false := by simp; omega
            have fin_ : p + 1 ≤ s.size ∧ d ≤ p + 1 ∧ s.size - (p + 1) < s.size - p := by have := HPD.out; omega
            have FIN := Lib.hid fin_
            clear hq hpd hin0 hin1 fin_
            (try clear hin)
            (try clear hin1')
            (try clear h40)
            (try clear h42)
            (try clear h41)
            (try clear hd)
            (try clear hps)
            (try clear hb)
            (try clear hb9)
            (try clear hb10)
            (try clear hb13)
            go_wp2_with (first | ((with_reducible refine gate_callee (f := 28) rfl ?_); refine goesL_ (some 6) rfl rfl Try.func28 (by kernel_rfl) rfl #[.pointer (some ⟨g, 0, none⟩), .int .i64 0] rfl (by (try simp only [List.map_toArray, List.map_cons, List.map_nil]); first | done | rfl) ?_; (with_reducible refine (scan_Scanner_peek.calls g s (p : Int) 0 c0 s (p : Int) w0 _ HI0.out HB0.out F0.out).mono ?_); rintro e w_1 ⟨rfl, hi, hb, hk⟩; refine ⟨_, rfl, ?_⟩; have HI1 := Lib.hid hi; have HB1 := Lib.hid hb; have HK1 := Lib.hid (HK0.out.trans hk (.inl rfl)); clear hi hb hk; obtain ⟨HG1, _⟩ := HI1.out; have cz10 := cellS43_0 HG1; have cz11 := cellS43_1 HG1; have fz10 := blk_frozen HG1 0; have fz11 := blk_frozen HG1 1; clear HG1))
            repeat (go_quiet (fail); try go_wp2)
            refine wp_goto ⟨rfl, HJ.out _ _ ⟨.mk (p + 1) (d) ⟨Lib.hid ⟨FIN.out.1, FIN.out.2.1⟩, HN, Lib.hid (step1 (IsS43.drewN HI1.out _)), Lib.hid (below_set (pw_below_drewN HB1.out _) (IsS43.ge HI1.out)), Lib.hid (KeepBut.set_ (keep_drewN HK1.out _) 1 _)⟩, ?_⟩⟩
            rw [meas43 (step1 (IsS43.drewN HI1.out _)), meas43 HI0.out]
            exact FIN.out.2.2
          · by_cases hb9 : c0 = 9
            · rw [if_pos (by omega)] at hq
              have HN := Lib.hid hq
              have b0_ : (c0 == 40) = false := by simp; omega
              have b1_ : (decide ((0 : Int) < (d : Int))) = false := by simp; omega
              have b2_ : (decide ((s.size : Int) ≤ (p : Int))) = false := by simp; omega
              have b3_ : (c0 == 32) = false := by simp; omega
              have b4_ : (c0 == 9) = true := by simp; omega
              have b5_ : (decide (0 < d)) = false := by simp; omega
              have b6_ : (decide (s.size ≤ p)) = false := by simp; omega
              have fin_ : p + 1 ≤ s.size ∧ d ≤ p + 1 ∧ s.size - (p + 1) < s.size - p := by have := HPD.out; omega
              have FIN := Lib.hid fin_
              clear hq hpd hin0 hin1 fin_
              (try clear hin)
              (try clear hin1')
              (try clear h40)
              (try clear h42)
              (try clear h41)
              (try clear hd)
              (try clear hps)
              (try clear hb)
              (try clear hb9)
              (try clear hb10)
              (try clear hb13)
              go_wp2_with (first | ((with_reducible refine gate_callee (f := 28) rfl ?_); refine goesL_ (some 6) rfl rfl Try.func28 (by kernel_rfl) rfl #[.pointer (some ⟨g, 0, none⟩), .int .i64 0] rfl (by (try simp only [List.map_toArray, List.map_cons, List.map_nil]); first | done | rfl) ?_; (with_reducible refine (scan_Scanner_peek.calls g s (p : Int) 0 c0 s (p : Int) w0 _ HI0.out HB0.out F0.out).mono ?_); rintro e w_1 ⟨rfl, hi, hb, hk⟩; refine ⟨_, rfl, ?_⟩; have HI1 := Lib.hid hi; have HB1 := Lib.hid hb; have HK1 := Lib.hid (HK0.out.trans hk (.inl rfl)); clear hi hb hk; obtain ⟨HG1, _⟩ := HI1.out; have cz10 := cellS43_0 HG1; have cz11 := cellS43_1 HG1; have fz10 := blk_frozen HG1 0; have fz11 := blk_frozen HG1 1; clear HG1))
              repeat (go_quiet (fail); try go_wp2)
              refine wp_goto ⟨rfl, HJ.out _ _ ⟨.mk (p + 1) (d) ⟨Lib.hid ⟨FIN.out.1, FIN.out.2.1⟩, HN, Lib.hid (step1 (IsS43.drewN HI1.out _)), Lib.hid (below_set (pw_below_drewN HB1.out _) (IsS43.ge HI1.out)), Lib.hid (KeepBut.set_ (keep_drewN HK1.out _) 1 _)⟩, ?_⟩⟩
              rw [meas43 (step1 (IsS43.drewN HI1.out _)), meas43 HI0.out]
              exact FIN.out.2.2
            · by_cases hb10 : c0 = 10
              · rw [if_pos (by omega)] at hq
                have HN := Lib.hid hq
                have b0_ : (c0 == 40) = false := by simp; omega
                have b1_ : (decide ((0 : Int) < (d : Int))) = false := by simp; omega
                have b2_ : (decide ((s.size : Int) ≤ (p : Int))) = false := by simp; omega
                have b3_ : (c0 == 32) = false := by simp; omega
                have b4_ : (c0 == 9) = false := by simp; omega
                have b5_ : (c0 == 10) = true := by simp; omega
                have b6_ : (decide (0 < d)) = false := by simp; omega
                have b7_ : (decide (s.size ≤ p)) = false := by simp; omega
                have fin_ : p + 1 ≤ s.size ∧ d ≤ p + 1 ∧ s.size - (p + 1) < s.size - p := by have := HPD.out; omega
                have FIN := Lib.hid fin_
                clear hq hpd hin0 hin1 fin_
                (try clear hin)
                (try clear hin1')
                (try clear h40)
                (try clear h42)
                (try clear h41)
                (try clear hd)
                (try clear hps)
                (try clear hb)
                (try clear hb9)
                (try clear hb10)
                (try clear hb13)
                go_wp2_with (first | ((with_reducible refine gate_callee (f := 28) rfl ?_); refine goesL_ (some 6) rfl rfl Try.func28 (by kernel_rfl) rfl #[.pointer (some ⟨g, 0, none⟩), .int .i64 0] rfl (by (try simp only [List.map_toArray, List.map_cons, List.map_nil]); first | done | rfl) ?_; (with_reducible refine (scan_Scanner_peek.calls g s (p : Int) 0 c0 s (p : Int) w0 _ HI0.out HB0.out F0.out).mono ?_); rintro e w_1 ⟨rfl, hi, hb, hk⟩; refine ⟨_, rfl, ?_⟩; have HI1 := Lib.hid hi; have HB1 := Lib.hid hb; have HK1 := Lib.hid (HK0.out.trans hk (.inl rfl)); clear hi hb hk; obtain ⟨HG1, _⟩ := HI1.out; have cz10 := cellS43_0 HG1; have cz11 := cellS43_1 HG1; have fz10 := blk_frozen HG1 0; have fz11 := blk_frozen HG1 1; clear HG1))
                repeat (go_quiet (fail); try go_wp2)
                refine wp_goto ⟨rfl, HJ.out _ _ ⟨.mk (p + 1) (d) ⟨Lib.hid ⟨FIN.out.1, FIN.out.2.1⟩, HN, Lib.hid (step1 (IsS43.drewN HI1.out _)), Lib.hid (below_set (pw_below_drewN HB1.out _) (IsS43.ge HI1.out)), Lib.hid (KeepBut.set_ (keep_drewN HK1.out _) 1 _)⟩, ?_⟩⟩
                rw [meas43 (step1 (IsS43.drewN HI1.out _)), meas43 HI0.out]
                exact FIN.out.2.2
              · by_cases hb13 : c0 = 13
                · rw [if_pos (by omega)] at hq
                  have HN := Lib.hid hq
                  have b0_ : (c0 == 40) = false := by simp; omega
                  have b1_ : (decide ((0 : Int) < (d : Int))) = false := by simp; omega
                  have b2_ : (decide ((s.size : Int) ≤ (p : Int))) = false := by simp; omega
                  have b3_ : (c0 == 32) = false := by simp; omega
                  have b4_ : (c0 == 9) = false := by simp; omega
                  have b5_ : (c0 == 10) = false := by simp; omega
                  have b6_ : (c0 == 13) = true := by simp; omega
                  have b7_ : (decide (0 < d)) = false := by simp; omega
                  have b8_ : (decide (s.size ≤ p)) = false := by simp; omega
                  have fin_ : p + 1 ≤ s.size ∧ d ≤ p + 1 ∧ s.size - (p + 1) < s.size - p := by have := HPD.out; omega
                  have FIN := Lib.hid fin_
                  clear hq hpd hin0 hin1 fin_
                  (try clear hin)
                  (try clear hin1')
                  (try clear h40)
                  (try clear h42)
                  (try clear h41)
                  (try clear hd)
                  (try clear hps)
                  (try clear hb)
                  (try clear hb9)
                  (try clear hb10)
                  (try clear hb13)
                  go_wp2_with (first | ((with_reducible refine gate_callee (f := 28) rfl ?_); refine goesL_ (some 6) rfl rfl Try.func28 (by kernel_rfl) rfl #[.pointer (some ⟨g, 0, none⟩), .int .i64 0] rfl (by (try simp only [List.map_toArray, List.map_cons, List.map_nil]); first | done | rfl) ?_; (with_reducible refine (scan_Scanner_peek.calls g s (p : Int) 0 c0 s (p : Int) w0 _ HI0.out HB0.out F0.out).mono ?_); rintro e w_1 ⟨rfl, hi, hb, hk⟩; refine ⟨_, rfl, ?_⟩; have HI1 := Lib.hid hi; have HB1 := Lib.hid hb; have HK1 := Lib.hid (HK0.out.trans hk (.inl rfl)); clear hi hb hk; obtain ⟨HG1, _⟩ := HI1.out; have cz10 := cellS43_0 HG1; have cz11 := cellS43_1 HG1; have fz10 := blk_frozen HG1 0; have fz11 := blk_frozen HG1 1; clear HG1))
                  repeat (go_quiet (fail); try go_wp2)
                  refine wp_goto ⟨rfl, HJ.out _ _ ⟨.mk (p + 1) (d) ⟨Lib.hid ⟨FIN.out.1, FIN.out.2.1⟩, HN, Lib.hid (step1 (IsS43.drewN HI1.out _)), Lib.hid (below_set (pw_below_drewN HB1.out _) (IsS43.ge HI1.out)), Lib.hid (KeepBut.set_ (keep_drewN HK1.out _) 1 _)⟩, ?_⟩⟩
                  rw [meas43 (step1 (IsS43.drewN HI1.out _)), meas43 HI0.out]
                  exact FIN.out.2.2
                · rw [if_neg (by omega)] at hq
                  have HN := Lib.hid hq
                  have b0_ : (c0 == 40) = false := by simp; omega
                  have b1_ : (decide ((0 : Int) < (d : Int))) = false := by simp; omega
                  have b2_ : (decide ((s.size : Int) ≤ (p : Int))) = false := by simp; omega
                  have b3_ : (c0 == 32) = false := by simp; omega
                  have b4_ : (c0 == 9) = false := by simp; omega
                  have b5_ : (c0 == 10) = false := by simp; omega
                  have b6_ : (c0 == 13) = false := by simp; omega
                  have b7_ : (decide (0 < d)) = false := by simp; omega
                  have b8_ : (decide (s.size ≤ p)) = false := by simp; omega
                  clear hq hpd hin0 hin1
                  (try clear hin)
                  (try clear hin1')
                  (try clear h40)
                  (try clear h42)
                  (try clear h41)
                  (try clear hd)
                  (try clear hps)
                  (try clear hb)
                  (try clear hb9)
                  (try clear hb10)
                  (try clear hb13)
                  go_wp2_with (first | ((with_reducible refine gate_callee (f := 28) rfl ?_); refine goesL_ (some 6) rfl rfl Try.func28 (by kernel_rfl) rfl #[.pointer (some ⟨g, 0, none⟩), .int .i64 0] rfl (by (try simp only [List.map_toArray, List.map_cons, List.map_nil]); first | done | rfl) ?_; (with_reducible refine (scan_Scanner_peek.calls g s (p : Int) 0 c0 s (p : Int) w0 _ HI0.out HB0.out F0.out).mono ?_); rintro e w_1 ⟨rfl, hi, hb, hk⟩; refine ⟨_, rfl, ?_⟩; have HI1 := Lib.hid hi; have HB1 := Lib.hid hb; have HK1 := Lib.hid (HK0.out.trans hk (.inl rfl)); clear hi hb hk; obtain ⟨HG1, _⟩ := HI1.out; have cz10 := cellS43_0 HG1; have cz11 := cellS43_1 HG1; have fz10 := blk_frozen HG1 0; have fz11 := blk_frozen HG1 1; clear HG1))
                  repeat (go_quiet (fail); try go_wp2)
                  simp only [Exit.jump]
                  go_ret
                  exact ⟨by rw [← HN.out]; rfl, by rw [← HN.out]; exact (IsS43.drewN HI1.out _), (pw_below_drewN HB1.out _), (keep_drewN HK1.out _)⟩
theorem scan_Scanner_blank.calls (g : Nat) (s0_0 : ByteArray) (s0_1 : Int) (r1 : Int) (r2 : ByteArray) (r3 : Int) (w0 w : World) (hI : IsS43 w0 w g s0_0 s0_1) (hB : Below w0.heap.size w0 w) (h : scan_Scanner_blank.f s0_0 s0_1 = some (r1, r2, r3)) :
    Calls Try.prog 17 #[.pointer (some ⟨g, 0, none⟩)] w fun e w' => e = .returned (.int .i64 r1) ∧ IsS43 w0 w' g r2 r3 ∧ Below w0.heap.size w0 w' ∧ KeepBut w w' g none := by
  unfold scan_Scanner_blank.f at h
  split at h
  · rename_i hc
    obtain ⟨h0, h1, h2⟩ := hc
    obtain ⟨n, rfl⟩ : ∃ n : Nat, s0_1 = (n : Int) := ⟨s0_1.toNat, by omega⟩
    rw [Int.toNat_natCast] at h
    simp only [Option.some.injEq, Prod.mk.injEq] at h
    obtain ⟨rfl, rfl, rfl⟩ := h
    exact blank_walk g s0_0 n w0 w hI hB (by omega) h2
  · cases h
end Go.Proofs.Ytmalonlbnjiclaa.PAll
