/- The walk of the law's put, case by case. -/
import Derived.Test.YtehdhmhpmkkneaaPu
namespace Go.Proofs.Ytehdhmhpmkkneaa
open Go.RowKit Go.Proofs.YtehdhmhpmkkneaaW.PrintWords

/-- What put is given. -/
structure PutPre (B : Nat) (w : World) (g : Nat) (v u : Value) (xs ys : List Int) (n : Int) (s : ByteArray) : Prop where
  wr : Wr B w g v xs
  own : w.ownsRow B 5 1 u ys.length (nums .u8 ys)
  apart : Apart u v
  base : B ≤ w.heap.size
  xl : xs.length ≤ 100000000
  yl : ys.length ≤ 100000000
  n0 : -9223372036854775808 ≤ n
  n1 : n ≤ 9223372036854775807
  sl : s.size ≤ 1000

theorem PutPre.box {B : Nat} {w : World} {g : Nat} {v u : Value} {xs ys : List Int} {n : Int} {s : ByteArray} (h : PutPre B w g v u xs ys n s) (o : Obj) : PutPre B (w.alloc o) g v u xs ys n s :=
  ⟨h.wr.below ((Below.refl _ _).alloc (Nat.le_refl _) _), pw_own_below h.own ((Below.refl _ _).alloc (Nat.le_refl _) _), h.apart, by have := h.base; simp; omega, h.xl, h.yl, h.n0, h.n1, h.sl⟩
theorem PutPre.ne {B : Nat} {w : World} {g : Nat} {v u : Value} {xs ys : List Int} {n : Int} {s : ByteArray} (h : PutPre B w g v u xs ys n s) : w.heap.size ≠ g ∧ some w.heap.size ≠ v.ownBlock := by
  refine ⟨fun e => ?_, fun e => ?_⟩
  · have := h.wr.lt; omega
  · have := own_lt h.wr.2.2 _ e.symm; omega

set_option maxHeartbeats 400000 in
set_option maxRecDepth 100000 in
theorem put_0 (B g : Nat) (v u : Value) (xs ys : List Int) (n : Int) (s : ByteArray) (w : World) (h : PutPre B w g v u xs ys n s) :
    Calls Try.prog 16 #[.pointer (some ⟨g, 0, none⟩), u, .agg #[.int .i64 0, .int .i64 n, .string s]] w (PutPost B w g (xs ++ [n % 256]) (ys ++ [n % 256])) := by
  have H := Lib.hid h
  obtain ⟨A, m, c, rfl⟩ := own_form h.own
  clear h
  go_enter Try.func16, Try.ntmps16
  go_wp2_with fail
  have H1 := Lib.hid (H.out.box (.cells #[.int .i64 0, .int .i64 n, .string s] 28))
  refine (wbyte B g v xs _ _ H1.out.wr (by have := H.out.xl; omega)).mono ?_
  rintro e w2 ⟨rfl, v2, h2, m2⟩
  have hc := cell_mv m2 (N := w.heap.size) (j := 1) (x := .int .i64 n) (by simp [go_sem]) H.out.ne.1 H.out.ne.2
  have HU := Lib.hid (put_mid H1.out.wr H1.out.own H1.out.apart m2)
  have H2 := Lib.hid h2
  have M2 := Lib.hid m2
  have hB : B ≤ w2.heap.size := by have := m2.size; have := H1.out.base; omega
  clear h2 m2
  go_wp2_with (at_builtin; go_must (refine print_append_num (w0 := w2) B rfl _ _ 24 5 .u8 1 rfl Try.underlying24 info5 (by decide) (.slice A m c) ys (n % 256) rfl rfl HU.out (Below.refl _ _) hB (by have := H.out.yl; omega) ?_; intro v1 w4 hown hbel hgrow hlie; obtain ⟨A1, n1, cap1, rfl⟩ := own_form hown; have H6 := Lib.hid (put_tail H1.out.base H1.out.wr H1.out.own H1.out.apart H2.out M2.out (Below.refl _ _) hown hgrow hlie); clear hown hlie hgrow hbel))
  go_ret
  exact H6.out.pre ((Below.refl _ _).alloc H.out.base _)


theorem w32 (n : Int) : -2147483648 ≤ wrap32 n ∧ wrap32 n ≤ 2147483647 := by unfold wrap32; omega
theorem sgn_le {n : Int} (h0 : -2147483648 ≤ n) (h1 : n ≤ 2147483647) : sgn n ≤ 9223372036854775807 := by unfold sgn; split <;> omega

set_option maxHeartbeats 400000 in
set_option maxRecDepth 100000 in
theorem put_1 (B g : Nat) (v u : Value) (xs ys : List Int) (n : Int) (s : ByteArray) (w : World) (h : PutPre B w g v u xs ys n s) :
    Calls Try.prog 16 #[.pointer (some ⟨g, 0, none⟩), u, .agg #[.int .i64 1, .int .i64 n, .string s]] w (PutPost B w g (xs ++ cnt n.toNat) (ys ++ cnt n.toNat)) := by
  have H := Lib.hid h
  obtain ⟨A, m, c, rfl⟩ := own_form h.own
  clear h
  go_enter Try.func16, Try.ntmps16
  go_wp2_with fail
  have H1 := Lib.hid (H.out.box (.cells #[.int .i64 1, .int .i64 n, .string s] 28))
  refine (wcountI B g v xs n _ H1.out.wr (by have := H.out.xl; omega) H.out.n1).mono ?_
  rintro e w2 ⟨rfl, v2, h2, m2⟩
  have hc := cell_mv m2 (N := w.heap.size) (j := 1) (x := .int .i64 n) (by simp [go_sem]) H.out.ne.1 H.out.ne.2
  have HU := Lib.hid (put_mid H1.out.wr H1.out.own H1.out.apart m2)
  have H2 := Lib.hid h2
  have M2 := Lib.hid m2
  have hB : B ≤ w2.heap.size := by have := m2.size; have := H1.out.base; omega
  clear h2 m2
  go_wp2_with fail
  refine (rcount n _ H.out.n1).mono ?_
  rintro e w3 ⟨u3, rfl, ho3, hb3⟩
  obtain ⟨A3, c3, rfl, hr3⟩ := own_reads ho3
  have R3 := Lib.hid hr3
  have B3 := Lib.hid hb3
  have hB3 : B ≤ w3.heap.size := by have := hb3.size; omega
  clear ho3 hr3 hb3
  obtain ⟨zs, Z⟩ : ∃ zs, Hid (zs = cnt n.toNat) := ⟨_, Lib.hid rfl⟩
  have Z9 : Hid (zs.length ≤ 10000) := Lib.hid (by rw [Z.out]; have := cnt_len9 (n := n.toNat) (by have := H.out.n1; omega); omega)
  rw [← Z.out] at R3 ⊢
  go_wp2_with (at_builtin; go_must (refine print_append_row (w0 := w3) B rfl _ _ 24 5 .u8 1 rfl Try.underlying24 info5 (by decide) (.slice A m c) ys zs A3 zs.length c3 rfl rfl (pw_own_below HU.out B3.out) R3.out (Below.refl _ _) hB3 (by have := H.out.yl; have := Z9.out; omega) ?_; intro v1 w4 hown hbel hgrow hlie; obtain ⟨A1, n1, cap1, rfl⟩ := own_form hown; have H6 := Lib.hid (put_tail H1.out.base H1.out.wr H1.out.own H1.out.apart (Z.out ▸ H2.out) M2.out B3.out hown hgrow hlie); clear hown hlie hgrow hbel))
  go_ret
  rw [← Z.out]
  exact H6.out.pre ((Below.refl _ _).alloc H.out.base _)

set_option maxHeartbeats 400000 in
set_option maxRecDepth 100000 in
theorem put_2 (B g : Nat) (v u : Value) (xs ys : List Int) (n : Int) (s : ByteArray) (w : World) (h : PutPre B w g v u xs ys n s) :
    Calls Try.prog 16 #[.pointer (some ⟨g, 0, none⟩), u, .agg #[.int .i64 2, .int .i64 n, .string s]] w (PutPost B w g (xs ++ cnt (sgn (wrap32 n))) (ys ++ cnt (sgn (wrap32 n)))) := by
  have H := Lib.hid h
  obtain ⟨A, m, c, rfl⟩ := own_form h.own
  clear h
  go_enter Try.func16, Try.ntmps16
  go_wp2_with fail
  have H1 := Lib.hid (H.out.box (.cells #[.int .i64 2, .int .i64 n, .string s] 28))
  refine (wnumber B g v xs (wrap32 n) _ H1.out.wr (by have := H.out.xl; omega) (w32 n).1 (w32 n).2).mono ?_
  rintro e w2 ⟨rfl, v2, h2, m2⟩
  have hc := cell_mv m2 (N := w.heap.size) (j := 1) (x := .int .i64 n) (by simp [go_sem]) H.out.ne.1 H.out.ne.2
  have HU := Lib.hid (put_mid H1.out.wr H1.out.own H1.out.apart m2)
  have H2 := Lib.hid h2
  have M2 := Lib.hid m2
  have hB : B ≤ w2.heap.size := by have := m2.size; have := H1.out.base; omega
  clear h2 m2
  go_wp2_with fail
  refine (rnumber (wrap32 n) _ (w32 n).1 (w32 n).2).mono ?_
  rintro e w3 ⟨u3, rfl, ho3, hb3⟩
  obtain ⟨A3, c3, rfl, hr3⟩ := own_reads ho3
  have R3 := Lib.hid hr3
  have B3 := Lib.hid hb3
  have hB3 : B ≤ w3.heap.size := by have := hb3.size; omega
  clear ho3 hr3 hb3
  obtain ⟨zs, Z⟩ : ∃ zs, Hid (zs = cnt (sgn (wrap32 n))) := ⟨_, Lib.hid rfl⟩
  have Z9 : Hid (zs.length ≤ 10000) := Lib.hid (by rw [Z.out]; have := cnt_len9 (n := sgn (wrap32 n)) (sgn_le (w32 n).1 (w32 n).2); omega)
  rw [← Z.out] at R3 ⊢
  go_wp2_with (at_builtin; go_must (refine print_append_row (w0 := w3) B rfl _ _ 24 5 .u8 1 rfl Try.underlying24 info5 (by decide) (.slice A m c) ys zs A3 zs.length c3 rfl rfl (pw_own_below HU.out B3.out) R3.out (Below.refl _ _) hB3 (by have := H.out.yl; have := Z9.out; omega) ?_; intro v1 w4 hown hbel hgrow hlie; obtain ⟨A1, n1, cap1, rfl⟩ := own_form hown; have H6 := Lib.hid (put_tail H1.out.base H1.out.wr H1.out.own H1.out.apart (Z.out ▸ H2.out) M2.out B3.out hown hgrow hlie); clear hown hlie hgrow hbel))
  go_ret
  rw [← Z.out]
  exact H6.out.pre ((Below.refl _ _).alloc H.out.base _)

set_option maxHeartbeats 400000 in
set_option maxRecDepth 100000 in
theorem put_3 (B g : Nat) (v u : Value) (xs ys : List Int) (n : Int) (s : ByteArray) (w : World) (h : PutPre B w g v u xs ys n s) :
    Calls Try.prog 16 #[.pointer (some ⟨g, 0, none⟩), u, .agg #[.int .i64 3, .int .i64 n, .string s]] w (PutPost B w g (xs ++ wrd (n % 4294967296)) (ys ++ wrd (n % 4294967296))) := by
  have H := Lib.hid h
  obtain ⟨A, m, c, rfl⟩ := own_form h.own
  clear h
  go_enter Try.func16, Try.ntmps16
  go_wp2_with fail
  have H1 := Lib.hid (H.out.box (.cells #[.int .i64 3, .int .i64 n, .string s] 28))
  refine (wword B g v xs (n % 4294967296) _ H1.out.wr (by have := H.out.xl; omega) (by omega) (by omega)).mono ?_
  rintro e w2 ⟨rfl, v2, h2, m2⟩
  have hc := cell_mv m2 (N := w.heap.size) (j := 1) (x := .int .i64 n) (by simp [go_sem]) H.out.ne.1 H.out.ne.2
  have HU := Lib.hid (put_mid H1.out.wr H1.out.own H1.out.apart m2)
  have H2 := Lib.hid h2
  have M2 := Lib.hid m2
  have hB : B ≤ w2.heap.size := by have := m2.size; have := H1.out.base; omega
  clear h2 m2
  go_wp2_with fail
  refine (rword (n % 4294967296) _ (by omega) (by omega)).mono ?_
  rintro e w3 ⟨u3, rfl, ho3, hb3⟩
  obtain ⟨A3, c3, rfl, hr3⟩ := own_reads ho3
  have R3 := Lib.hid hr3
  have B3 := Lib.hid hb3
  have hB3 : B ≤ w3.heap.size := by have := hb3.size; omega
  clear ho3 hr3 hb3
  obtain ⟨zs, Z⟩ : ∃ zs, Hid (zs = wrd (n % 4294967296)) := ⟨_, Lib.hid rfl⟩
  have Z9 : Hid (zs.length ≤ 10000) := Lib.hid (by rw [Z.out]; simp [wrd])
  rw [← Z.out] at R3 ⊢
  go_wp2_with (at_builtin; go_must (refine print_append_row (w0 := w3) B rfl _ _ 24 5 .u8 1 rfl Try.underlying24 info5 (by decide) (.slice A m c) ys zs A3 zs.length c3 rfl rfl (pw_own_below HU.out B3.out) R3.out (Below.refl _ _) hB3 (by have := H.out.yl; have := Z9.out; omega) ?_; intro v1 w4 hown hbel hgrow hlie; obtain ⟨A1, n1, cap1, rfl⟩ := own_form hown; have H6 := Lib.hid (put_tail H1.out.base H1.out.wr H1.out.own H1.out.apart (Z.out ▸ H2.out) M2.out B3.out hown hgrow hlie); clear hown hlie hgrow hbel))
  go_ret
  rw [← Z.out]
  exact H6.out.pre ((Below.refl _ _).alloc H.out.base _)

set_option maxHeartbeats 400000 in
set_option maxRecDepth 100000 in
theorem put_4 (B g : Nat) (v u : Value) (xs ys : List Int) (n : Int) (s : ByteArray) (w : World) (h : PutPre B w g v u xs ys n s) :
    Calls Try.prog 16 #[.pointer (some ⟨g, 0, none⟩), u, .agg #[.int .i64 4, .int .i64 n, .string s]] w (PutPost B w g (xs ++ (cnt s.size ++ bytesOf s)) (ys ++ (cnt s.size ++ bytesOf s))) := by
  have H := Lib.hid h
  obtain ⟨A, m, c, rfl⟩ := own_form h.own
  clear h
  go_enter Try.func16, Try.ntmps16
  go_wp2_with fail
  have H1 := Lib.hid (H.out.box (.cells #[.int .i64 4, .int .i64 n, .string s] 28))
  refine (wtext B g v xs s _ H1.out.wr (by have := H.out.xl; omega) (by have := H.out.sl; omega)).mono ?_
  rintro e w2 ⟨rfl, v2, h2, m2⟩
  have hc := cell_mv m2 (N := w.heap.size) (j := 2) (x := .string s) (by simp [go_sem]) H.out.ne.1 H.out.ne.2
  have HU := Lib.hid (put_mid H1.out.wr H1.out.own H1.out.apart m2)
  have H2 := Lib.hid h2
  have M2 := Lib.hid m2
  have hB : B ≤ w2.heap.size := by have := m2.size; have := H1.out.base; omega
  clear h2 m2
  go_wp2_with fail
  refine (rtext s _ (by have := H.out.sl; omega)).mono ?_
  rintro e w3 ⟨u3, rfl, ho3, hb3⟩
  obtain ⟨A3, c3, rfl, hr3⟩ := own_reads ho3
  have R3 := Lib.hid hr3
  have B3 := Lib.hid hb3
  have hB3 : B ≤ w3.heap.size := by have := hb3.size; omega
  clear ho3 hr3 hb3
  obtain ⟨zs, Z⟩ : ∃ zs, Hid (zs = (cnt s.size ++ bytesOf s)) := ⟨_, Lib.hid rfl⟩
  have Z9 : Hid (zs.length ≤ 10000) := Lib.hid (by rw [Z.out]; have := cnt_len9 (n := s.size) (by have := H.out.sl; omega); have := H.out.sl; rw [List.length_append, bytesOf_length]; omega)
  rw [← Z.out] at R3 ⊢
  go_wp2_with (at_builtin; go_must (refine print_append_row (w0 := w3) B rfl _ _ 24 5 .u8 1 rfl Try.underlying24 info5 (by decide) (.slice A m c) ys zs A3 zs.length c3 rfl rfl (pw_own_below HU.out B3.out) R3.out (Below.refl _ _) hB3 (by have := H.out.yl; have := Z9.out; omega) ?_; intro v1 w4 hown hbel hgrow hlie; obtain ⟨A1, n1, cap1, rfl⟩ := own_form hown; have H6 := Lib.hid (put_tail H1.out.base H1.out.wr H1.out.own H1.out.apart (Z.out ▸ H2.out) M2.out B3.out hown hgrow hlie); clear hown hlie hgrow hbel))
  go_ret
  rw [← Z.out]
  exact H6.out.pre ((Below.refl _ _).alloc H.out.base _)

set_option maxHeartbeats 400000 in
set_option maxRecDepth 100000 in
theorem put_5 (B g : Nat) (v u : Value) (xs ys : List Int) (k n : Int) (s : ByteArray) (w : World) (h : PutPre B w g v u xs ys n s) (k0 : (k == 0) = false) (k1 : (k == 1) = false) (k2 : (k == 2) = false) (k3 : (k == 3) = false) (k4 : (k == 4) = false) :
    Calls Try.prog 16 #[.pointer (some ⟨g, 0, none⟩), u, .agg #[.int .i64 k, .int .i64 n, .string s]] w (PutPost B w g xs ys) := by
  have H := Lib.hid h
  obtain ⟨A, m, c, rfl⟩ := own_form h.own
  clear h
  go_enter Try.func16, Try.ntmps16
  go_wp2
  go_ret
  have H1 := H.out.box (.cells #[.int .i64 k, .int .i64 n, .string s] 28)
  exact ⟨v, _, rfl, H1.wr, H1.own, H1.apart, (Below.refl _ _).alloc H.out.base _⟩

theorem put_any (B g : Nat) (v u : Value) (xs ys : List Int) (k n : Int) (s : ByteArray) (w : World) (h : PutPre B w g v u xs ys n s) :
    Calls Try.prog 16 #[.pointer (some ⟨g, 0, none⟩), u, .agg #[.int .i64 k, .int .i64 n, .string s]] w (PutPost B w g (xs ++ piece k n s) (ys ++ piece k n s)) := by
  by_cases k0 : k = 0
  · subst k0; exact put_0 B g v u xs ys n s w h
  by_cases k1 : k = 1
  · subst k1; exact put_1 B g v u xs ys n s w h
  by_cases k2 : k = 2
  · subst k2; exact put_2 B g v u xs ys n s w h
  by_cases k3 : k = 3
  · subst k3; exact put_3 B g v u xs ys n s w h
  by_cases k4 : k = 4
  · subst k4; exact put_4 B g v u xs ys n s w h
  · have e : piece k n s = [] := by unfold piece; rw [if_neg k0, if_neg k1, if_neg k2, if_neg k3, if_neg k4]
    rw [e, List.append_nil, List.append_nil]
    exact put_5 B g v u xs ys k n s w h (beq_eq_false_iff_ne.2 k0) (beq_eq_false_iff_ne.2 k1) (beq_eq_false_iff_ne.2 k2) (beq_eq_false_iff_ne.2 k3) (beq_eq_false_iff_ne.2 k4)

theorem piece_len (k n : Int) (s : ByteArray) (h1 : n ≤ 9223372036854775807) (hs : s.size ≤ 1000) : (piece k n s).length ≤ 1010 := by
  unfold piece
  have a := cnt_len9 (n := n.toNat) (by omega)
  have b := cnt_len9 (n := sgn (wrap32 n)) (sgn_le (w32 n).1 (w32 n).2)
  have c := cnt_len9 (n := s.size) (by omega)
  split
  · simp
  split
  · omega
  split
  · omega
  split
  · simp [wrd]
  split
  · rw [List.length_append, bytesOf_length]; omega
  · simp

end Go.Proofs.Ytehdhmhpmkkneaa
