/- MKey. -/
import Derived.Test.YtehdhmhpmkkneaaBPAllx0
import Derived.WalkSpells
import Derived.WalkLawsBesides
import Derived.WalkSmall
import Derived.Lib.Hide
import Derived.Lib.AppendStr
import Derived.Test.YtehdhmhpmkkneaaBOp2
import Derived.Test.YtehdhmhpmkkneaaBPAllx9
/- The texts Cw, Cx, Cs, Cy, Fw, Fx, Rf, Rg, Fr, Fk, Fl, one behind the other. -/
/- Layer 12: the walks of the writer (codec.Writer): what each call puts behind the bytes that are there. -/
namespace Go.Proofs.Ytehdhmhpmkkneaa
open Go.RowKit Go.Proofs.YtehdhmhpmkkneaaW.PrintWords
theorem info5 : (Try.prog.info? 5).map (fun i => (i.zero, i.size, i.bytes)) = some (some (.int .u8 0), 1, 1) := by kernel_rfl
structure Mv (w w' : World) (g : Nat) (v v' : Value) : Prop where
  os : w'.os = w.os
  tape : w'.tape = w.tape
  output : w'.output = w.output
  size : w.heap.size ≤ w'.heap.size
  block : ∀ i, i < w.heap.size → i ≠ g → some i ≠ v.ownBlock → w'.heap[i]? = w.heap[i]?
  lies : v'.ownBlock = v.ownBlock ∨ ∃ b, v'.ownBlock = some b ∧ w.heap.size ≤ b
theorem Mv.refl (w : World) (g : Nat) (v : Value) : Mv w w g v v := ⟨rfl, rfl, rfl, Nat.le_refl _, fun _ _ _ _ => rfl, .inl rfl⟩
theorem Mv.trans {w w1 w2 : World} {g : Nat} {v v1 v2 : Value} (h : Mv w w1 g v v1) (k : Mv w1 w2 g v1 v2) : Mv w w2 g v v2 := by
  refine ⟨k.os.trans h.os, k.tape.trans h.tape, k.output.trans h.output, Nat.le_trans h.size k.size, fun i hi hg hv => ?_, ?_⟩
  · have hv1 : some i ≠ v1.ownBlock := by
      rcases h.lies with e | ⟨b, e, hb⟩
      · rw [e]; exact hv
      · rw [e]; intro e'; injection e' with e'; omega
    rw [k.block i (Nat.lt_of_lt_of_le hi h.size) hg hv1, h.block i hi hg hv]
  · rcases k.lies with e | ⟨b, e, hb⟩
    · rw [e]; exact h.lies
    · exact .inr ⟨b, e, Nat.le_trans h.size hb⟩
theorem Mv.of_below {w w1 : World} (h : Below w.heap.size w w1) (g : Nat) (v : Value) : Mv w w1 g v v :=
  ⟨h.os, h.tape, h.output, h.size, fun i hi _ _ => h.block i hi, .inl rfl⟩
theorem Mv.below {w0 w w1 : World} {B g : Nat} {v v1 : Value} (h : Mv w w1 g v v1) (hb : Below B w0 w) (hB : B ≤ w.heap.size) (hg : B ≤ g) (hv : ∀ k, v.ownBlock = some k → B ≤ k) : Below B w0 w1 :=
  hb.trans ⟨h.os, h.tape, h.output, h.size, fun i hi => h.block i (Nat.lt_of_lt_of_le hi hB) (by omega) (fun e => by have := hv i e.symm; omega)⟩
def Wr (B : Nat) (w : World) (g : Nat) (v : Value) (xs : List Int) : Prop :=
  w.heap[g]? = some (.cells #[v] 26 (0, 0)) ∧ B ≤ g ∧ w.ownsRow B 5 1 v xs.length (nums .u8 xs)
theorem Wr.lt {B : Nat} {w : World} {g : Nat} {v : Value} {xs : List Int} (h : Wr B w g v xs) : g < w.heap.size := blk_lt h.1
theorem Wr.base {B : Nat} {w : World} {g : Nat} {v : Value} {xs : List Int} (h : Wr B w g v xs) : ∀ k, v.ownBlock = some k → B ≤ k := own_base h.2.2
theorem Wr.below {B : Nat} {w w1 : World} {g : Nat} {v : Value} {xs : List Int} (h : Wr B w g v xs) (hb : Below w.heap.size w w1) : Wr B w1 g v xs :=
  ⟨blk_below h.1 hb, h.2.1, pw_own_below h.2.2 hb⟩
theorem own_form {w : World} {base n : Nat} {e : TypeId} {size : Nat} {v : Value} {xs : List Value} (h : w.ownsRow base e size v n xs) : ∃ A m c, v = .slice A m c := by
  obtain ⟨A, c, rfl⟩ := own_slice h
  exact ⟨A, _, c, rfl⟩
theorem wr_store {B : Nat} {w w1 : World} {g : Nat} {v v1 : Value} {xs ys : List Int} (h : Wr B w g v xs) (hg : w.grownBy w1 v.ownBlock) (hl : v1.ownBlock = v.ownBlock ∨ ∃ b, v1.ownBlock = some b ∧ w.heap.size ≤ b)
    (ho : w1.ownsRow B 5 1 v1 ys.length (nums .u8 ys)) : Wr B (w1.setCell ⟨g, 0, none⟩ v1) g v1 ys ∧ Mv w (w1.setCell ⟨g, 0, none⟩ v1) g v v1 := by
  obtain ⟨hb, hB, hr⟩ := h
  have hb1 := blk_grown hb hg (own_ne hr hb (by decide))
  refine ⟨⟨blk_set hb1 0 v1, hB, own_setCell ho (own_ne ho hb1 (by decide)) _⟩, ⟨hg.os, hg.tape, hg.output, by simpa [World.setCell] using hg.size, fun i hi hi1 hi2 => ?_, hl⟩⟩
  rw [Below.heap_setCell w1 ⟨g, 0, none⟩ v1 i hi1]
  exact hg.block i hi hi2
set_option maxHeartbeats 400000 in
theorem wbyte (B g : Nat) (v : Value) (xs : List Int) (b : Int) (w : World) (h : Wr B w g v xs) (hl : xs.length + 1 ≤ 140737488355328) :
    Calls Try.prog 74 #[.pointer (some ⟨g, 0, none⟩), .int .u8 b] w fun e w' => e = .returned (.tuple #[]) ∧ ∃ v', Wr B w' g v' (xs ++ [b]) ∧ Mv w w' g v v' := by
  have HW := Lib.hid h
  obtain ⟨hb, hg, ho⟩ := h
  obtain ⟨A, c, rfl⟩ := own_slice ho
  have hc := blk_cell hb 0
  simp only [List.getElem?_toArray, List.getElem?_cons_zero] at hc
  have hz := blk_frozen hb 0
  have hlt := blk_lt hb
  have HO := Lib.hid ho
  have HBK := Lib.hid hb
  have HL := Lib.hid hl
  clear ho hb hl
  go_enter Try.func74, Try.ntmps74
  go_wp2_with (at_builtin; go_must (refine print_append_num (w0 := w) B rfl _ _ 24 5 .u8 1 rfl Try.underlying24 info5 (by decide) (.slice A xs.length c) xs b rfl rfl HO.out (Below.refl _ _) (by omega) (by have := HL.out; omega) ?_; intro v1 w1 hown hbel hgrow hlie; obtain ⟨A1, n1, cap1, rfl⟩ := own_form hown; have hb1 := blk_grown HBK.out hgrow (own_ne HO.out HBK.out (by decide)); have hc1 : w1.cell? ⟨g, 0, none⟩ = some (.slice A xs.length c) := blk_cell hb1 0; have hz1 := blk_frozen hb1 0; clear hb1; have HS := Lib.hid (wr_store HW.out hgrow hlie hown); clear hown hlie hgrow hbel))
  go_end0
  exact ⟨rfl, _, HS.out⟩
end Go.Proofs.Ytehdhmhpmkkneaa
/- Layer 12: the walks of the writer's Count, Number, Word, Text, Bytes, Len. -/
namespace Go.Proofs.Ytehdhmhpmkkneaa
open Go.RowKit Go.Proofs.YtehdhmhpmkkneaaW.PrintWords Go.Proofs.YtehdhmhpmkkneaaW.PrintMore
def cnt (n : Nat) : List Int := if n < 128 then [(n : Int)] else ((n % 128 + 128 : Nat) : Int) :: cnt (n / 128)
decreasing_by omega
theorem cnt_low {n : Nat} (h : n < 128) : cnt n = [(n : Int)] := by rw [cnt, if_pos h]
theorem cnt_high {n : Nat} (h : ¬ n < 128) : cnt n = ((n % 128 + 128 : Nat) : Int) :: cnt (n / 128) := by rw [cnt, if_neg h]
theorem cnt_len (k : Nat) : ∀ n, n < 128 ^ (k + 1) → (cnt n).length ≤ k + 1 := by
  induction k with
  | zero => intro n h; rw [cnt_low (by simpa using h)]; simp
  | succ k ih =>
    intro n h
    by_cases hn : n < 128
    · rw [cnt_low hn]; simp
    · rw [cnt_high hn]
      have := ih (n / 128) (by rw [Nat.pow_succ] at h; omega)
      simp; omega
theorem cnt_len9 {n : Nat} (h : n ≤ 9223372036854775807) : (cnt n).length ≤ 9 := cnt_len 8 n (by omega)
theorem or128 (m : Nat) : bits .or .u8 ((m : Int) % 256) 128 = ((m % 128 + 128 : Nat) : Int) := by
  have key : ∀ x : Fin 256, bits BinOp.or IntKind.u8 (x.val : Int) 128 = ((x.val % 128 + 128 : Nat) : Int) := by decide +kernel
  have h := key ⟨m % 256, Nat.mod_lt _ (by decide)⟩
  simp only at h
  rw [show ((m : Int) % 256) = ((m % 256 : Nat) : Int) by simp, h]
  congr 1
  omega
section
attribute [local go_sem] max2_int max_two
set_option maxHeartbeats 400000 in
set_option maxRecDepth 100000 in
theorem wcount (B g : Nat) (v : Value) (xs : List Int) (n : Nat) (w : World) (h : Wr B w g v xs) (hl : xs.length ≤ 1000000000) (hn : n ≤ 9223372036854775807) :
    Calls Try.prog 39 #[.pointer (some ⟨g, 0, none⟩), .int .i64 n] w fun e w' => e = .returned (.tuple #[]) ∧ ∃ v', Wr B w' g v' (xs ++ cnt n) ∧ Mv w w' g v v' := by
  have HW := Lib.hid h
  have h9 := Lib.hid (cnt_len9 hn)
  have HL := Lib.hid hl
  have HN := Lib.hid hn
  clear h hl
  go_enter Try.func39, Try.ntmps39
  go_wp2
  clear hn
  go_loopw [4] (fun r4 wr => ∃ (m : Nat) (ys : List Int) (u : Value), r4 = .int .u64 m ∧ m ≤ n ∧ Hid (Wr B wr g u ys) ∧ Hid (Mv w wr g v u) ∧ Hid (ys ++ cnt m = xs ++ cnt n)) (fun r4 _ => (intOf r4).toNat)
  case atStart => exact ⟨n, xs, v, rfl, Nat.le_refl _, HW, Lib.hid (Mv.refl _ _ _), Lib.hid rfl⟩
  case round =>
    obtain ⟨m, ys, u, rfl, hm, H1, H2, H3⟩ := hrel
    have hyl : Hid (ys.length ≤ 1000000009) := Lib.hid (by
      have := congrArg List.length H3.out
      have := HL.out
      have := h9.out
      simp at *
      omega)
    by_cases h1 : m < 128
    · go_wp2_with (go_at_call 74; refine (wbyte B g u ys _ _ H1.out (by have := hyl.out; omega)).mono ?_; rintro e w2 ⟨rfl, u2, hW2, hM2⟩; have H4 := Lib.hid hW2; have H5 := Lib.hid hM2; clear hW2 hM2)
      go_end0
      refine ⟨rfl, u2, ?_, H2.out.trans H5.out⟩
      have e := H3.out
      rw [cnt_low h1] at e
      rw [← e]
      exact H4.out
    · go_wp2_with (go_at_call 74; refine (wbyte B g u ys _ _ H1.out (by have := hyl.out; omega)).mono ?_; rintro e w2 ⟨rfl, u2, hW2, hM2⟩; have H4 := Lib.hid hW2; have H5 := Lib.hid hM2; clear hW2 hM2)
      go_roundw
      case rel =>
        refine ⟨m / 128, _, u2, by simp, Nat.le_trans (Nat.div_le_self _ _) hm, H4, Lib.hid (H2.out.trans H5.out), Lib.hid ?_⟩
        have e := H3.out
        rw [cnt_high h1, ← or128] at e
        rw [← e]
        simp
      case measure => simp [intOf]; omega
end
section
attribute [local go_sem] max2_int max_two
set_option maxHeartbeats 400000 in
set_option maxRecDepth 100000 in
theorem wcount_neg (B g : Nat) (v : Value) (xs : List Int) (n : Int) (w : World) (h : Wr B w g v xs) (hl : xs.length ≤ 1000000000) (hn : n < 0) :
    Calls Try.prog 39 #[.pointer (some ⟨g, 0, none⟩), .int .i64 n] w fun e w' => e = .returned (.tuple #[]) ∧ ∃ v', Wr B w' g v' (xs ++ cnt 0) ∧ Mv w w' g v v' := by
  have HW := Lib.hid h
  have HL := Lib.hid hl
  have HC : Hid (cnt 0 = [0]) := Lib.hid (cnt_low (by omega))
  clear h hl
  go_enter Try.func39, Try.ntmps39
  go_wp2
  refine wp_loop_rounds 1 ?_
  rw [rounds_succ]
  go_wp2_with (go_at_call 74; refine (wbyte B g v xs _ _ HW.out (by have := HL.out; omega)).mono ?_; rintro e w2 ⟨rfl, u2, hW2, hM2⟩; have H4 := Lib.hid hW2; have H5 := Lib.hid hM2; clear hW2 hM2)
  go_end0
  rw [HC.out]
  exact ⟨rfl, u2, H4.out, H5.out⟩
end
theorem wcountI (B g : Nat) (v : Value) (xs : List Int) (n : Int) (w : World) (h : Wr B w g v xs) (hl : xs.length ≤ 1000000000) (hn : n ≤ 9223372036854775807) :
    Calls Try.prog 39 #[.pointer (some ⟨g, 0, none⟩), .int .i64 n] w fun e w' => e = .returned (.tuple #[]) ∧ ∃ v', Wr B w' g v' (xs ++ cnt n.toNat) ∧ Mv w w' g v v' := by
  by_cases h0 : n < 0
  · have e : n.toNat = 0 := by omega
    rw [e]
    exact wcount_neg B g v xs n w h hl h0
  · obtain ⟨m, rfl⟩ := Int.eq_ofNat_of_zero_le (a := n) (by omega)
    rw [Int.toNat_natCast]
    exact wcount B g v xs m w h hl (by omega)
def sgn (n : Int) : Nat := if n < 0 then (-2 * n - 1).toNat else (2 * n).toNat
def wrd (n : Int) : List Int := [n % 256, n / 256 % 256, n / 65536 % 256, n / 16777216]
set_option maxHeartbeats 400000 in
set_option maxRecDepth 100000 in
theorem wword (B g : Nat) (v : Value) (xs : List Int) (n : Int) (w : World) (h : Wr B w g v xs) (hl : xs.length ≤ 1000000000) (h0 : 0 ≤ n) (h1 : n ≤ 4294967295) :
    Calls Try.prog 77 #[.pointer (some ⟨g, 0, none⟩), .int .u32 n] w fun e w' => e = .returned (.tuple #[]) ∧ ∃ v', Wr B w' g v' (xs ++ wrd n) ∧ Mv w w' g v v' := by
  have HW := Lib.hid h
  obtain ⟨hb, hg, ho⟩ := h
  obtain ⟨A, c, rfl⟩ := own_slice ho
  have hc := blk_cell hb 0
  simp only [List.getElem?_toArray, List.getElem?_cons_zero] at hc
  have hz := blk_frozen hb 0
  have hlt := blk_lt hb
  have HO := Lib.hid ho
  have HBK := Lib.hid hb
  have HL := Lib.hid hl
  clear ho hb hl
  have hlit := own_reads (own_lit w B 5 .u8 (wrd n) (by omega) (by simp [wrd]))
  obtain ⟨A2, c2, e2, hreads⟩ := hlit
  injection e2 with eA eN eC
  subst eA eC
  have HR := Lib.hid hreads
  clear hreads eN
  go_enter Try.func77, Try.ntmps77
  go_wp2_with (at_builtin; go_must (refine print_append_row (w0 := w) B rfl _ _ 24 5 .u8 1 rfl Try.underlying24 info5 (by decide) (.slice A xs.length c) xs (wrd n) (some ⟨w.heap.size, 0, none⟩) 4 4 rfl rfl (HO.out.alloc _) HR.out ((Below.refl B w).alloc (by omega) _) (by simp; omega) (by have := HL.out; omega) ?_; intro v1 w1 hown hbel hgrow hlie; obtain ⟨A1, n1, cap1, rfl⟩ := own_form hown; have hgr := World.grownBy.trans (World.grownBy_alloc w _ _) hgrow; have hb1 := blk_grown HBK.out hgr (own_ne HO.out HBK.out (by decide)); have hc1 : w1.cell? ⟨g, 0, none⟩ = some (.slice A xs.length c) := blk_cell hb1 0; have hz1 := blk_frozen hb1 0; clear hb1; have HS := Lib.hid (wr_store HW.out hgr (hlie.imp id (fun ⟨b, e, hb⟩ => ⟨b, e, Nat.le_of_succ_le (by simpa using hb)⟩)) hown); clear hown hlie hgrow hbel hgr))
  go_end0
  exact ⟨rfl, _, HS.out⟩
end Go.Proofs.Ytehdhmhpmkkneaa
/- append(b, s...), s a string, b a row of the call's own: where the new row lies (b's own, or new). -/
namespace Go.Proofs.Ytehdhmhpmkkneaa
open Go.RowKit Go.Proofs.YtehdhmhpmkkneaaW.PrintWords
section
variable {P : Program} {w : World}
theorem str_lies (base : Nat) (t u ty e : TypeId) (i : TypeInfo) (ht : P.underlying t = some (.slice e)) (hu : P.underlying u = some .string) (hi : P.info? e = some i) (hz : i.zero = some (.int .u8 0)) (hsize : i.size = 1) (hby : i.bytes = 1)
    (v : Value) (n : Nat) (xs : List Value) (hown : w.ownsRow base e 1 v n xs) (s : ByteArray) (h63 : n + s.size ≤ maxLen) (hbytes : n + s.size ≤ 140737488355328)
    (v' : Value) (w' : World) (hr : (Builtin.append_ #[t, u] ty #[v, .string s]).run P w = .ok v' w') : v'.ownBlock = v.ownBlock ∨ ∃ b, v'.ownBlock = some b ∧ w.heap.size ≤ b := by
  have hxl : xs.length = n := by simpa using hown.1
  have hsmall : n + s.size ≤ 9223372036854775807 := by simp only [maxLen] at h63; omega
  rcases hown.2 with ⟨rfl, rfl⟩ | ⟨g, cap, cur, rfl, hbg, hg, hnc, hcm, hcs, htake⟩
  · obtain ⟨v2, w2, hr2, ho2, _, _⟩ := Lib.run_append_own_string (P := P) w w.heap.size t u ty e i ht hu hi hz hsize hby (.slice none 0 0) 0 [] (World.ownsRow_nil _ _ _ _) s h63 hbytes (Nat.le_refl _)
    rw [hr] at hr2
    injection hr2 with e1 _
    subst e1
    rcases hk : v'.ownBlock with _ | k
    · exact .inl rfl
    · exact .inr ⟨k, rfl, own_base ho2 k hk⟩
  · by_cases hroom : n + s.size ≤ cap
    · have hcs' : cur.size = cap := by simpa using hcs
      have hr2 := Lib.run_append_room_string (P := P) w t u ty e i ht hu hi hsize g n cap cur hg s hroom (by omega)
      rw [hr] at hr2
      injection hr2 with e1 _
      subst e1
      exact .inl rfl
    · have holds : ∀ j u, xs[j]? = some u → w.cell? ((⟨g, 0, none⟩ : Addr).add j) = some u := hown.cells (g := g) rfl
      have hr2 := Lib.run_append_grow_string (P := P) w t u ty e i (.int .u8 0) ht hu hi hz ⟨g, 0, none⟩ n cap xs (by rw [hsize]; simpa using hxl) holds s (by omega) (by omega) (by rw [hby]; exact growslice_fits (by omega) (by omega))
      rw [hr] at hr2
      injection hr2 with e1 _
      subst e1
      exact .inr ⟨_, rfl, Nat.le_refl _⟩
variable {ops : Array Oper} {rest : List Oper} {o : Oper} {a : Act} {Q : Exit → Act → World → Prop}
theorem append_str (base : Nat) (hgd : o.guard = none) (s x : Operand) (t u e : TypeId)
    (ho : o.op = .call { callee := .builtin .append, args := #[s, x], argTypes := #[t, u] })
    (ht : P.underlying t = some (.slice e)) (hu : P.underlying u = some .string) (hinfo : (P.info? e).map (fun i => (i.zero, i.size, i.bytes)) = some (some (.int .u8 0), 1, 1))
    (v : Value) (xs : List Int) (y : ByteArray) (hs : a.eval s = v) (hx : a.eval x = .string y)
    (HO : w.ownsRow base e 1 v xs.length (nums .u8 xs)) (hbase : base ≤ w.heap.size) (hl : xs.length + y.size ≤ 140737488355328)
    (h : ∀ v1 w1, w1.ownsRow base e 1 v1 (xs ++ bytesOf y).length (nums .u8 (xs ++ bytesOf y)) → w.grownBy w1 v.ownBlock → (v1.ownBlock = v.ownBlock ∨ ∃ b, v1.ownBlock = some b ∧ w.heap.size ≤ b) → wpList P ops Q rest (a.put o.dst v1) w1) :
    wpList P ops Q (o :: rest) a w := by
  obtain ⟨i0, hi, hzz⟩ := Option.map_eq_some_iff.1 hinfo
  simp only [Prod.mk.injEq] at hzz
  obtain ⟨hz0, hz1, hz2⟩ := hzz
  refine wpList_plain hgd fun K hK => ?_
  obtain ⟨v', w', hr, h2, h3, _⟩ := Lib.run_append_own_string (P := P) w base t u o.type e i0 ht hu hi hz0 hz1 hz2 v xs.length (nums .u8 xs) HO y (by simp only [maxLen]; omega) hl hbase
  have h5 := str_lies base t u o.type e i0 ht hu hi hz0 hz1 hz2 v xs.length (nums .u8 xs) HO y (by simp only [maxLen]; omega) hl v' w' hr
  have hl2 : (xs ++ bytesOf y).length = xs.length + y.size := by rw [List.length_append, bytesOf_length]
  have hc : nums .u8 (xs ++ bytesOf y) = nums .u8 xs ++ Lib.strCells y := by
    rw [nums_append]
    congr 1
    simp [nums, bytesOf, Lib.strCells]
  unfold Oper.wp execOp
  simp only [ho, resolve, invoke, builtin, Sem.run_bind, Sem.run_pure, Result.andThen_ok, List.map_toArray, List.map_cons, List.map_nil, hs, hx, hr]
  exact hK _ _ (h v' w' (by rw [hl2, hc]; exact h2) h3 h5)
end
end Go.Proofs.Ytehdhmhpmkkneaa
/- Layer 12: the walks of the writer's Text and Bytes. -/
namespace Go.Proofs.Ytehdhmhpmkkneaa
open Go.RowKit Go.Proofs.YtehdhmhpmkkneaaW.PrintWords Go.Proofs.YtehdhmhpmkkneaaW.PrintMore
set_option maxHeartbeats 400000 in
set_option maxRecDepth 100000 in
theorem wtext (B g : Nat) (v : Value) (xs : List Int) (s : ByteArray) (w : World) (h : Wr B w g v xs) (hl : xs.length ≤ 1000000000) (hs : s.size ≤ 1000000000) :
    Calls Try.prog 43 #[.pointer (some ⟨g, 0, none⟩), .string s] w fun e w' => e = .returned (.tuple #[]) ∧ ∃ v', Wr B w' g v' (xs ++ (cnt s.size ++ bytesOf s)) ∧ Mv w w' g v v' := by
  have HW := Lib.hid h
  have HL := Lib.hid hl
  have HS := Lib.hid hs
  have h9 := Lib.hid (cnt_len9 (n := s.size) (by omega))
  clear h hl
  go_enter Try.func43, Try.ntmps43
  go_wp2_with fail
  refine (wcount B g v xs s.size _ HW.out HL.out (by have := HS.out; omega)).mono ?_
  rintro e w2 ⟨rfl, u2, hW2, hM2⟩
  have H4 := Lib.hid hW2
  have H5 := Lib.hid hM2
  have hglt := hW2.2.1
  have hlt := hW2.lt
  clear hW2 hM2 hs
  obtain ⟨A, n, c, rfl⟩ := own_form H4.out.2.2
  have hc := blk_cell H4.out.1 0
  simp only [List.getElem?_toArray, List.getElem?_cons_zero] at hc
  have hz := blk_frozen H4.out.1 0
  go_wp2_with (at_builtin; go_must (refine append_str B rfl _ _ 24 9 5 rfl Try.underlying24 Try.underlying9 info5 (.slice A n c) (xs ++ cnt s.size) s rfl rfl H4.out.2.2 (by omega) (by have := HL.out; have := HS.out; have := h9.out; simp; omega) ?_; intro v1 w1 hown hgrow hlie; obtain ⟨A1, n1, cap1, rfl⟩ := own_form hown; have hb1 := blk_grown H4.out.1 hgrow (own_ne H4.out.2.2 H4.out.1 (by decide)); have hc1 : w1.cell? ⟨g, 0, none⟩ = some (.slice A n c) := blk_cell hb1 0; have hz1 := blk_frozen hb1 0; clear hb1; have H6 := Lib.hid (wr_store H4.out hgrow hlie hown); clear hown hlie hgrow))
  go_end0
  refine ⟨rfl, _, ?_, H5.out.trans H6.out.2⟩
  rw [← List.append_assoc]
  exact H6.out.1
def Got (w : World) (xs : List Int) (e : Ending) (w' : World) : Prop := ∃ v', e = .returned v' ∧ w'.ownsRow w.heap.size 5 1 v' xs.length (nums .u8 xs) ∧ Below w.heap.size w w'
set_option maxHeartbeats 400000 in
set_option maxRecDepth 100000 in
theorem wbytes (B g : Nat) (v : Value) (xs : List Int) (w : World) (h : Wr B w g v xs) (hl : xs.length ≤ 1000000000) :
    Calls Try.prog 18 #[.pointer (some ⟨g, 0, none⟩)] w (Got w xs) := by
  obtain ⟨hb, hg, ho⟩ := h
  obtain ⟨A, c, rfl⟩ := own_slice ho
  have hc : w.cell? ⟨g, 0, none⟩ = some (.slice A xs.length c) := blk_cell hb 0
  have hlt := blk_lt hb
  obtain ⟨A2, c2, e2, hreads⟩ := own_reads ho
  injection e2 with eA eN eC
  subst eA eC
  have HR := Lib.hid hreads
  have HL := Lib.hid hl
  have HO := Lib.hid (own_lit w w.heap.size 5 .u8 [] (Nat.le_refl _) (by simp))
  clear hb ho hl hreads eN
  go_enter Try.func18, Try.ntmps18
  go_wp2_with (at_builtin; go_must (refine print_append_row (w0 := w) w.heap.size rfl _ _ 24 5 .u8 1 rfl Try.underlying24 info5 (by decide) (.slice (some ⟨w.heap.size, 0, none⟩) 0 0) [] xs A xs.length c rfl rfl HO.out (HR.out.below ((Below.refl _ _).alloc (Nat.le_refl _) _)) ((Below.refl _ w).alloc (Nat.le_refl _) _) (by simp) (by have := HL.out; simp; omega) ?_; intro v1 w1 hown hbel hgrow hlie; obtain ⟨A1, n1, cap1, rfl⟩ := own_form hown; have H6 := Lib.hid hown; have H7 := Lib.hid hbel; clear hown hlie hgrow hbel))
  go_ret
  exact ⟨_, rfl, H6.out, H7.out⟩
end Go.Proofs.Ytehdhmhpmkkneaa
/- Layer 13: what finger.Write puts, in plain words; rows of exports and parameters as the walks read them. -/
namespace Go.Proofs.Ytehdhmhpmkkneaa
open Go.RowKit Go.Proofs.YtehdhmhpmkkneaaW.PrintWords Go.Proofs.Ytehdhmhpmkkneaa.PAll
def parB (p : S119) : List Int := cnt p.f0.toNat ++ cnt (if p.f1 = true then 1 else 0)
def headB (x : S80) : List Int := (cnt x.f0.size ++ bytesOf x.f0) ++ cnt x.f1.toNat ++ cnt x.f2.toNat ++ cnt (sgn x.f3) ++ cnt x.f4.length
def expB (x : S80) : List Int := headB x ++ x.f4.flatMap parB
def expsB (l : List S80) : List Int := cnt l.length ++ l.flatMap expB
theorem plain_add (b off k : Nat) : (⟨b, off, none⟩ : Addr).add k = ⟨b, off + k, none⟩ := WideShapes.add_plain _ _ _
theorem blk_mv {w w2 : World} {g : Nat} {v v2 : Value} (m2 : Mv w w2 g v v2) {N : Nat} {o : Obj} (h : w.heap[N]? = some o) (hg : N ≠ g) (hv : some N ≠ v.ownBlock) : w2.heap[N]? = some o :=
  (m2.block N (blk_lt h) hg hv).trans h
theorem flat_take {α : Type} (f : α → List Int) (l : List α) (k : Nat) (hk : k < l.length) : ((l.take k).flatMap f).length + (f l[k]).length ≤ (l.flatMap f).length := by
  have e : l = l.take k ++ (l[k] :: l.drop (k + 1)) := by rw [← List.drop_eq_getElem_cons hk, List.take_append_drop]
  have : (l.flatMap f).length = ((l.take k).flatMap f).length + ((f l[k]).length + ((l.drop (k + 1)).flatMap f).length) := by
    conv => lhs; rw [e]
    rw [List.flatMap_append, List.flatMap_cons, List.length_append, List.length_append]
  omega
theorem flat_snoc {α : Type} (f : α → List Int) (l : List α) (k : Nat) (hk : k < l.length) : (l.take (k + 1)).flatMap f = (l.take k).flatMap f ++ f l[k] := by
  rw [List.take_succ_eq_append_getElem hk, List.flatMap_append]
  simp
end Go.Proofs.Ytehdhmhpmkkneaa
/- Layer 13: the walk of finger.Write. -/
namespace Go.Proofs.Ytehdhmhpmkkneaa
open Go.RowKit Go.Proofs.YtehdhmhpmkkneaaW.PrintWords Go.Proofs.Ytehdhmhpmkkneaa.PAll
theorem cell_old {w0 w : World} (hb : Below w0.heap.size w0 w) {b off : Nat} {v : Value} (hlt : b < w0.heap.size) (h : w0.cell? ⟨b, off, none⟩ = some v) : w.cell? ⟨b, off, none⟩ = some v :=
  (hb.cell (p := ⟨b, off, none⟩) hlt).trans h
theorem new_ne {B : Nat} {w : World} {g : Nat} {v : Value} {xs : List Int} (h : Wr B w g v xs) : w.heap.size ≠ g ∧ some w.heap.size ≠ v.ownBlock := by
  refine ⟨fun e => ?_, fun e => ?_⟩
  · have := h.lt; omega
  · have := own_lt h.2.2 _ e.symm; omega
theorem ne_later {w w2 : World} {g : Nat} {v v2 : Value} (m : Mv w w2 g v v2) {N : Nat} (hN : N < w.heap.size) (hv : some N ≠ v.ownBlock) : some N ≠ v2.ownBlock := by
  rcases m.lies with e | ⟨b, e, hb⟩
  · rw [e]; exact hv
  · rw [e]; intro e2; injection e2 with e2; omega
end Go.Proofs.Ytehdhmhpmkkneaa
/- The document's Count, Number, Text, Bytes and Same (printed): what they answer, in plain words, and as contracts. -/
namespace Go.Proofs.Ytehdhmhpmkkneaa
open Go.RowKit Go.Proofs.YtehdhmhpmkkneaaW.PrintWords Go.Proofs.Ytehdhmhpmkkneaa.PAll
theorem refCount_loop : ∀ (j m : Nat) (acc : List Int), m < 128 ^ (j + 1) → m ≤ 9223372036854775807 → acc.length + j < 1000000 → pascalineref12_Count.l0 (j + 1) (m : Int) acc = some (acc ++ cnt m) := by
  intro j
  induction j with
  | zero =>
    intro m acc h hm ha
    have h1 : m < 128 := by simpa using h
    simp only [pascalineref12_Count.l0]
    rw [if_neg (by omega), if_pos (by omega), cnt_low h1]
    congr 3
    omega
  | succ j ih =>
    intro m acc h hm ha
    rw [pascalineref12_Count.l0]
    by_cases h1 : m < 128
    · rw [if_neg (by omega), if_pos (by omega), cnt_low h1]
      congr 3
      omega
    · rw [if_pos (by omega), if_pos (by omega)]
      have e1 : wrap64 (Int.tdiv (m : Int) 128) = ((m / 128 : Nat) : Int) := by
        rw [Int.tdiv_eq_ediv_of_nonneg (by omega)]
        unfold wrap64
        omega
      have e2 : wrap64 (Int.tmod (m : Int) 128 + 128) % 256 = ((m % 128 + 128 : Nat) : Int) := by
        rw [Int.tmod_eq_emod_of_nonneg (by omega)]
        unfold wrap64
        omega
      rw [e1, e2, ih (m / 128) _ (by rw [Nat.pow_succ] at h; omega) (by omega) (by rw [List.length_append]; simp only [List.length_cons, List.length_nil]; omega), cnt_high h1]
      simp
theorem refCount (n : Int) (h : n ≤ 9223372036854775807) : pascalineref12_Count.f 10 n = some (cnt n.toNat) := by
  have key : ∀ m : Nat, m ≤ 9223372036854775807 → pascalineref12_Count.j0 10 (m : Int) = some (cnt m) := by
    intro m hm
    show pascalineref12_Count.l0 9 (m : Int) [] = _
    exact refCount_loop 8 m [] (by omega) hm (by simp)
  unfold pascalineref12_Count.f
  by_cases h0 : n < 0
  · rw [if_pos h0]
    have e : n.toNat = 0 := by omega
    rw [e]
    exact key 0 (by omega)
  · rw [if_neg h0]
    have e : n = (n.toNat : Int) := by omega
    have := key n.toNat (by omega)
    rwa [← e] at this
theorem refText (s : ByteArray) (h : s.size ≤ 1000000000) : pascalineref12_Text.f 10 s = some (cnt s.size ++ bytesOf s) := by
  unfold pascalineref12_Text.f
  rw [refCount _ (by omega)]
  simp only [Option.bind_some]
  have h9 := cnt_len9 (n := s.size) (by omega)
  rw [if_pos (by simp; omega)]
  rfl
theorem refBytes (n : Int) (h0 : 0 ≤ n) (h1 : n ≤ 4294967295) : pascalineref01_Bytes.f 5 n = some (wrd n) := by
  unfold pascalineref01_Bytes.f
  have w1 : ∀ i : Int, 0 ≤ i → i < 4 → wrap64 (i + 1) = i + 1 := by intro i _ _; unfold wrap64; omega
  have step : ∀ (k : Nat) (m i : Int) (acc : List Int), 0 ≤ m → m ≤ 4294967295 → 0 ≤ i → i < 4 → acc.length < 10 → pascalineref01_Bytes.l0 (k + 1) m acc i = pascalineref01_Bytes.l0 k (m / 256) (acc ++ [m % 256]) (i + 1) := by
    intro k m i acc a b c d e
    simp only [pascalineref01_Bytes.l0]
    rw [if_pos d, if_pos (by omega), w1 i c d, Int.tdiv_eq_ediv_of_nonneg a, Int.tmod_eq_emod_of_nonneg a, Int.emod_emod_of_dvd _ (by decide), Int.emod_eq_of_lt (by omega) (by omega)]
  rw [step 4 n 0 [] h0 h1 (by decide) (by decide) (by simp), step 3 _ _ _ (by omega) (by omega) (by decide) (by decide) (by simp), step 2 _ _ _ (by omega) (by omega) (by decide) (by decide) (by simp), step 1 _ _ _ (by omega) (by omega) (by decide) (by decide) (by simp)]
  simp only [pascalineref01_Bytes.l0]
  rw [if_neg (by decide)]
  unfold wrd
  simp only [List.nil_append, List.cons_append]
  congr 5 <;> omega
end Go.Proofs.Ytehdhmhpmkkneaa
/- The document's Count, Number, Text, Bytes and Same as contracts over rows of the call's own. -/
namespace Go.Proofs.Ytehdhmhpmkkneaa
open Go.RowKit Go.Proofs.YtehdhmhpmkkneaaW.PrintWords Go.Proofs.Ytehdhmhpmkkneaa.PAll
theorem refSame_loop (xs ys : List Int) (hl : xs.length = ys.length) (hm : xs.length ≤ 1000000000000) : ∀ (d k : Nat) (i : Nat), i + d = xs.length → d < k → pascalineref01_Same.l0 k xs ys (i : Int) = some (decide (xs.drop i = ys.drop i)) := by
  intro d
  induction d with
  | zero =>
    intro k i hi hk
    obtain ⟨k, rfl⟩ : ∃ m, k = m + 1 := ⟨k - 1, by omega⟩
    rw [pascalineref01_Same.l0, if_neg (by omega), List.drop_of_length_le (by omega), List.drop_of_length_le (by omega)]
    rfl
  | succ d ih =>
    intro k i hi hk
    obtain ⟨k, rfl⟩ : ∃ m, k = m + 1 := ⟨k - 1, by omega⟩
    have w1 : wrap64 ((i : Int) + 1) = ((i + 1 : Nat) : Int) := by unfold wrap64; omega
    have hx : i < xs.length := by omega
    have hy : i < ys.length := by omega
    rw [pascalineref01_Same.l0, if_pos (by omega), if_pos (by omega), if_pos (by omega), w1, ih k (i + 1) (by omega) (by omega)]
    have e1 : rd xs (i : Int) = xs[i] := by simp [rd, hx]
    have e2 : rd ys (i : Int) = ys[i] := by simp [rd, hy]
    rw [e1, e2, List.drop_eq_getElem_cons hx, List.drop_eq_getElem_cons hy]
    by_cases h : xs[i] = ys[i]
    · rw [if_pos h]; simp only [List.cons.injEq, h, true_and]
    · rw [if_neg h]; simp only [List.cons.injEq, h, false_and, decide_false]
theorem refSame (xs ys : List Int) (hm : xs.length ≤ 1000000000000) : pascalineref01_Same.f (xs.length + 1) xs ys = some (decide (xs = ys)) := by
  unfold pascalineref01_Same.f
  by_cases h : xs.length = ys.length
  · rw [if_pos (by omega)]
    have := refSame_loop xs ys h hm xs.length (xs.length + 1) 0 (by omega) (by omega)
    simpa using this
  · rw [if_neg (by omega)]
    have : ¬ xs = ys := fun e => h (by rw [e])
    simp [this]
theorem reads_own {w : World} {B : Nat} {v : Value} {xs : List Int} (h : w.ownsRow B 5 1 v xs.length (nums .u8 xs)) : ∃ A c, v = .slice A xs.length c ∧ xs.length ≤ c ∧ Kd.C (Kd.int .u8) w A xs.length xs := by
  obtain ⟨A, c, rfl, hr⟩ := own_reads h
  exact ⟨A, c, rfl, own_le h, Kd.C_of_reads (d := (0 : Int)) (h1 := fun _ => rfl) hr⟩
theorem rsame (B B' : Nat) (v u : Value) (xs ys : List Int) (w : World) (hm : xs.length ≤ 1000000000) (hx : w.ownsRow B 5 1 v xs.length (nums .u8 xs)) (hy : w.ownsRow B' 5 1 u ys.length (nums .u8 ys)) :
    Calls Try.prog 17 #[v, u] w fun e w' => e = .returned (.bool (decide (xs = ys))) ∧ Drawn0 w w' := by
  obtain ⟨A, c, rfl, hc, hr⟩ := reads_own hx
  obtain ⟨A', c', rfl, hc', hr'⟩ := reads_own hy
  exact pascalineref01_Same.calls (xs.length + 1) A c xs A' c' ys _ w hr hc hr' hc' (refSame xs ys (by omega))
end Go.Proofs.Ytehdhmhpmkkneaa
/- Layer 13: the document's Bytes, More and Key (printed), and finger.More, Sum: what they answer, in plain words. -/
namespace Go.Proofs.Ytehdhmhpmkkneaa
open Go.RowKit Go.Proofs.YtehdhmhpmkkneaaW.PrintWords Go.Proofs.Ytehdhmhpmkkneaa.PAll
theorem refCountK {k : Nat} (hk : 10 ≤ k) (n : Int) (h : n ≤ 9223372036854775807) : pascalineref12_Count.f k n = some (cnt n.toNat) := at_rounds (g := fun k => pascalineref12_Count.f k n) (fun j => pascalineref12_Count.mono n j) hk (refCount n h)
theorem refTextK {k : Nat} (hk : 10 ≤ k) (s : ByteArray) (h : s.size ≤ 1000000000) : pascalineref12_Text.f k s = some (cnt s.size ++ bytesOf s) := at_rounds (g := fun k => pascalineref12_Text.f k s) (fun j => pascalineref12_Text.mono s j) hk (refText s h)
theorem wrap_succ (i : Nat) (h : i < 9223372036854775807) : wrap64 ((i : Int) + 1) = ((i + 1 : Nat) : Int) := by unfold wrap64; omega
end Go.Proofs.Ytehdhmhpmkkneaa
/- Layer 13: sums and keys: contracts. -/
namespace Go.Proofs.Ytehdhmhpmkkneaa
open Go.RowKit Go.Proofs.YtehdhmhpmkkneaaW.PrintWords Go.Proofs.Ytehdhmhpmkkneaa.PAll
def keyB (s : ByteArray) (l : List S80) : List Int := (cnt s.size ++ bytesOf s) ++ expsB l
theorem wr_newB (B : Nat) (w : World) (h : B ≤ w.heap.size) : Wr B (w.alloc (.cells #[.slice none 0 0] 26)) w.heap.size (.slice none 0 0) [] :=
  ⟨heap_alloc_new w _, h, own_nil _ _ _ _⟩
end Go.Proofs.Ytehdhmhpmkkneaa
/- Layer 13: the walk of the law FingerKeys. -/
namespace Go.Proofs.Ytehdhmhpmkkneaa
open Go.RowKit Go.Proofs.YtehdhmhpmkkneaaW.PrintWords Go.Proofs.Ytehdhmhpmkkneaa.PAll
def Small (l : List S80) : Prop := l.length ≤ 60 ∧ ∀ x ∈ l, x.f0.size ≤ 200 ∧ x.f4.length ≤ 60
theorem parB_len (p : S119) (ok : Ok119 p) : (parB p).length ≤ 18 := by
  have h1 := cnt_len9 (n := p.f0.toNat) (by have := (bd64 ok).2; omega)
  have h2 := cnt_len9 (n := if p.f1 = true then 1 else 0) (by split <;> omega)
  show (cnt p.f0.toNat ++ cnt (if p.f1 = true then 1 else 0)).length ≤ 18
  rw [List.length_append]
  omega
theorem flat_len {α : Type} (f : α → List Int) (m : Nat) : ∀ l : List α, (∀ x ∈ l, (f x).length ≤ m) → (l.flatMap f).length ≤ m * l.length
  | [], _ => by simp
  | x :: r, h => by
    have h1 := h x (List.mem_cons_self ..)
    have h2 := flat_len f m r (fun y hy => h y (List.mem_cons_of_mem _ hy))
    rw [List.flatMap_cons, List.length_append, List.length_cons, Nat.mul_succ]
    omega
theorem expB_len (x : S80) (ok : Ok80 x) (h0 : x.f0.size ≤ 200) (h4 : x.f4.length ≤ 60) : (expB x).length ≤ 2000 := by
  obtain ⟨o0, o1, o2, o3, o4, o5⟩ := ok
  have a := cnt_len9 (n := x.f0.size) (by omega)
  have b := cnt_len9 (n := x.f1.toNat) (by have := (bd64 o1).2; omega)
  have c := cnt_len9 (n := x.f2.toNat) (by have := (bd64 o2).2; omega)
  have d := cnt_len9 (n := sgn x.f3) (by unfold sgn; have := bd32 o3; split <;> omega)
  have e := cnt_len9 (n := x.f4.length) (by omega)
  have f := flat_len parB 18 x.f4 (fun p hp => parB_len p (o5 p hp))
  show (((cnt x.f0.size ++ bytesOf x.f0) ++ cnt x.f1.toNat ++ cnt x.f2.toNat ++ cnt (sgn x.f3) ++ cnt x.f4.length) ++ x.f4.flatMap parB).length ≤ 2000
  simp only [List.length_append, bytesOf_length]
  omega
theorem expsB_len (l : List S80) (ok : ∀ x ∈ l, Ok80 x) (h : Small l) : (expsB l).length ≤ 200000 := by
  have a := cnt_len9 (n := l.length) (by have := h.1; omega)
  have f := flat_len expB 2000 l (fun x hx => expB_len x (ok x hx) (h.2 x hx).1 (h.2 x hx).2)
  have := h.1
  unfold expsB
  rw [List.length_append]
  omega
theorem keyB_len (s : ByteArray) (l : List S80) (ok : ∀ x ∈ l, Ok80 x) (h : Small l) (hs : s.size ≤ 200) : (keyB s l).length ≤ 300000 := by
  have a := cnt_len9 (n := s.size) (by omega)
  have b := expsB_len l ok h
  unfold keyB
  simp only [List.length_append, bytesOf_length]
  omega
end Go.Proofs.Ytehdhmhpmkkneaa
