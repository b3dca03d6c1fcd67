/- The walk of the law CodecPuts. -/
import Derived.Test.YtehdhmhpmkkneaaPv
import Derived.Deep.QuietTactic
import Derived.BigQuiet
namespace Go.Proofs.Ytehdhmhpmkkneaa
open Go.RowKit Go.Proofs.YtehdhmhpmkkneaaW.PrintWords

theorem wr_new (B : Nat) (w : World) (h : B ≤ w.heap.size) : Wr B (w.alloc (.cells #[.slice none 0 0] 26)) w.heap.size (.slice none 0 0) [] :=
  ⟨heap_alloc_new w _, h, own_nil _ _ _ _⟩

/-- Drawn orders leave all that is read as it was. -/
theorem Drawn0.wr {w w1 : World} (h : Drawn0 w w1) {B g : Nat} {v : Value} {xs : List Int} (hw : Wr B w g v xs) : Wr B w1 g v xs := hw.below h.below

set_option maxHeartbeats 400000 in
set_option maxRecDepth 100000 in
theorem awake12 (w : World) : Calls Try.prog 15 #[] w fun e w' => e = .returned (.bool true) ∧ Below w.heap.size w w' := by
  have e1 : Hid (([] ++ cnt 300) ++ cnt (sgn (-1)) = [172, 2, 1]) := Lib.hid (by rw [cnt_high (by omega), cnt_low (n := 300 / 128) (by omega), show sgn (-1) = 1 from rfl, cnt_low (n := 1) (by omega)]; rfl)
  have HW := Lib.hid (wr_new w.heap.size w (Nat.le_refl _))
  go_enter Try.func15, Try.ntmps15
  go_wp2_with fail
  refine (wcount w.heap.size w.heap.size _ [] 300 _ HW.out (by simp) (by omega)).mono ?_
  rintro e w1 ⟨rfl, v1, h1, m1⟩
  have H1 := Lib.hid h1
  have M1 := Lib.hid m1
  clear h1 m1
  go_wp2_with fail
  refine (wnumber w.heap.size w.heap.size v1 _ (-1) w1 H1.out (by rw [cnt_high (by omega), cnt_low (n := 300 / 128) (by omega)]; simp) (by omega) (by omega)).mono ?_
  rintro e w2 ⟨rfl, v2, h2, m2⟩
  rw [e1.out] at h2
  have H2 := Lib.hid h2
  have M2 := Lib.hid m2
  clear h2 m2
  have B2 : Below w.heap.size w w2 := by
    refine (M1.out.trans M2.out).below ((Below.refl _ _).alloc (Nat.le_refl _) _) (by simp) (Nat.le_refl _) (fun k hk => ?_)
    simp [Value.ownBlock] at hk
  go_wp2_with fail
  refine (wbytes w.heap.size w.heap.size v2 _ w2 H2.out (by simp)).mono ?_
  rintro e w3 ⟨u3, rfl, ho3, b3⟩
  obtain ⟨A3, c3, rfl⟩ := own_slice ho3
  have O3 := Lib.hid ho3
  have B3 := Lib.hid b3
  have L3 := Lib.hid (own_lit w3 w3.heap.size 5 .u8 [172, 2, 1] (Nat.le_refl _) (by simp))
  clear ho3 b3
  go_wp2_with fail
  refine (rsame w2.heap.size w3.heap.size _ _ [172, 2, 1] [172, 2, 1] _ (by simp) (pw_own_below O3.out ((Below.refl _ _).alloc (Nat.le_refl _) _)) L3.out).mono ?_
  rintro e w4 ⟨rfl, d4⟩
  have B4 := Lib.hid d4.below
  have D4 := Lib.hid d4
  clear d4
  simp only [decide_true]
  go_wp2_with fail
  refine (wlen w.heap.size w.heap.size v2 [172, 2, 1] _ ((H2.out.below B3.out).below (((Below.refl _ _).alloc (Nat.le_refl _) _).trans (B4.out.mono (by simp)))) ).mono ?_
  rintro e w5 ⟨rfl, rfl⟩
  go_wp2
  go_ret
  have s2 := B2.size
  have s3 := B3.out.size
  exact ⟨rfl, B2.trans ((B3.out.mono s2).trans (((Below.refl _ _).alloc (by omega) _).trans (B4.out.mono (by simp; omega))))⟩

/-- A row of pieces that is read. -/
def Pcs (w : World) (A : Option Addr) (n : Nat) (ps : List (Int × Int × ByteArray)) : Prop :=
  ∀ k, k < n → ∃ b off, A = some ⟨b, off, none⟩ ∧ b < w.heap.size ∧ w.cell? ⟨b, off + k * 3, none⟩ = some (.int .i64 (ps.getD k (0, 0, ByteArray.empty)).1) ∧ w.cell? ⟨b, off + k * 3 + 1, none⟩ = some (.int .i64 (ps.getD k (0, 0, ByteArray.empty)).2.1) ∧
    w.cell? ⟨b, off + k * 3 + 2, none⟩ = some (.string (ps.getD k (0, 0, ByteArray.empty)).2.2) ∧ -9223372036854775808 ≤ (ps.getD k (0, 0, ByteArray.empty)).2.1 ∧ (ps.getD k (0, 0, ByteArray.empty)).2.1 ≤ 9223372036854775807 ∧ (ps.getD k (0, 0, ByteArray.empty)).2.2.size ≤ 9223372036854775807

set_option maxHeartbeats 1000000 in
set_option maxRecDepth 100000 in
theorem codecPuts_any (A : Option Addr) (n c : Nat) (ps : List (Int × Int × ByteArray)) (w : World) (hn : n ≤ 9223372036854775807) (hr : Pcs w A n ps) :
    Calls Try.prog 3 #[.slice A n c] w fun e w' => e = .returned (.bool true) ∧ Below w.heap.size w w' := by
  have HR := Lib.hid hr
  have HN := Lib.hid hn
  clear hr
  go_enter Try.func3, Try.ntmps3
  go_wp2_with (go_at_call 15; refine (awake12 _).mono ?_; rintro e w1 ⟨rfl, hb1⟩; have hs1 := hb1.size)
  clear hn
  go_loopw [2, 4, 5] (fun r2 r4 r5 wr => ∃ (k : Nat) (v : Value) (xs : List Int), k ≤ n ∧ k ≤ 60 ∧ r2 = .bool false ∧ r5 = .int .i64 k ∧ Hid (Wr w.heap.size wr w1.heap.size v xs) ∧ Hid (wr.ownsRow w.heap.size 5 1 r4 xs.length (nums .u8 xs)) ∧ Hid (Apart r4 v) ∧ Hid (Below w.heap.size w wr) ∧ Hid (xs.length ≤ 1010 * k))
    (fun _ _ r5 _ => n - (intOf r5).toNat)
  case atStart => exact ⟨0, _, [], by omega, by omega, rfl, rfl, Lib.hid (wr_new _ _ hs1), Lib.hid (own_nil _ _ _ _), Lib.hid (.inl rfl), Lib.hid (hb1.alloc hs1 _), Lib.hid (by simp)⟩
  case round =>
    obtain ⟨k, v, xs, hk, hk6, rfl, rfl, H1, H2, H3, HB, HL⟩ := hrel
    obtain ⟨A4, n4, c4, rfl⟩ := own_form H2.out
    have hsz : Hid (w.heap.size ≤ wr.heap.size) := Lib.hid HB.out.size
    by_cases hlt : k < n ∧ k < 60
    · obtain ⟨h1, h2⟩ := hlt
      obtain ⟨b, off, rfl, hbl, hc0, hc1, hc2, n0, n1, hs⟩ := HR.out k h1
      have x0 := (HB.out.cell (p := ⟨b, off + k * 3, none⟩) hbl).trans hc0
      have x1 := (HB.out.cell (p := ⟨b, off + k * 3 + 1, none⟩) hbl).trans hc1
      have x2 := (HB.out.cell (p := ⟨b, off + k * 3 + 2, none⟩) hbl).trans hc2
      generalize (ps.getD k (0, 0, ByteArray.empty)).1 = q at *
      generalize (ps.getD k (0, 0, ByteArray.empty)).2.1 = m at *
      generalize (ps.getD k (0, 0, ByteArray.empty)).2.2 = s at *
      clear hc0 hc1 hc2
      have M0 := Lib.hid n0
      have M1 := Lib.hid n1
      clear n0 n1
      by_cases h3 : s.size ≤ 1000
      · go_wp2_with fail
        refine (put_any w.heap.size w1.heap.size v _ xs xs q m s _ ⟨H1.out, H2.out, H3.out, hsz.out, by have := HL.out; omega, by have := HL.out; omega, M0.out, M1.out, h3⟩).mono ?_
        rintro e w2 ⟨v', u', rfl, p1, p2, p3, p4⟩
        have P1 := Lib.hid p1
        have P2 := Lib.hid p2
        have P3 := Lib.hid p3
        have P4 := Lib.hid (HB.out.trans p4)
        clear p1 p2 p3 p4
        go_wp2
        go_roundw
        case rel =>
          refine ⟨k + 1, v', xs ++ piece q m s, by omega, by omega, rfl, by go_num, P1, P2, P3, P4, Lib.hid ?_⟩
          have := piece_len q m s M1.out h3
          have := HL.out
          rw [List.length_append]
          omega
        case measure => simp [intOf]; omega
      · go_wp2
        go_ret
        exact ⟨rfl, HB.out⟩
    · by_cases h1 : k < n
      all_goals
        first | (have h2 : 60 ≤ k := by omega) | skip
        clear hlt
        have hX : Hid (xs.length ≤ 1000000000) := Lib.hid (by have := HL.out; omega)
        go_wp2_with fail
        refine (wbytes w.heap.size w1.heap.size v xs wr H1.out hX.out).mono ?_
        rintro e w3 ⟨u3, rfl, ho3, b3⟩
        obtain ⟨A3, c3, rfl⟩ := own_slice ho3
        have O3 := Lib.hid ho3
        have B3 := Lib.hid b3
        clear ho3 b3
        go_wp2_with fail
        refine (rsame wr.heap.size w.heap.size _ _ xs xs _ hX.out O3.out (pw_own_below H2.out B3.out)).mono ?_
        rintro e w4 ⟨rfl, d4⟩
        have B4 := Lib.hid d4.below
        clear d4
        simp only [decide_true]
        obtain ⟨A4', c4', e4⟩ := own_slice H2.out
        injection e4 with _ e5 _
        subst e5
        go_wp2_with fail
        refine (wlen w.heap.size w1.heap.size v xs _ ((H1.out.below B3.out).below B4.out)).mono ?_
        rintro e w5 ⟨rfl, rfl⟩
        go_wp2
        go_ret
        exact ⟨rfl, HB.out.trans ((B3.out.mono hsz.out).trans (B4.out.mono (by have := B3.out.size; have := hsz.out; omega)))⟩
end Go.Proofs.Ytehdhmhpmkkneaa
