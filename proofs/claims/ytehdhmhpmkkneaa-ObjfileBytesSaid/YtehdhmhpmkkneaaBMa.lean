/- Ma. -/
import Derived.Lib.Hide
import Derived.Test.YtehdhmhpmkkneaaBMl
import Derived.Test.YtehdhmhpmkkneaaBMi
import Derived.Test.YtehdhmhpmkkneaaBPAllx18
/- symfile.imports, walked: which imports may be. Told in the form in which the printer tells a function, so that what calls it can be printed. -/
namespace Go.Proofs.Ytehdhmhpmkkneaa.PAll
open Go.RowKit Go.Proofs.YtehdhmhpmkkneaaW.PrintWords Go.Proofs.YtehdhmhpmkkneaaW.PrintLast Go.Proofs.YtehdhmhpmkkneaaW.PrintMore Go.Proofs.Ytehdhmhpmkkneaa
def symfile_imports.go (k : Nat) : List S93 → List (List UInt8) → Option Int
  | [], _ => some 0
  | x :: xs, seen => (symfile_Name.f k x.f0).bind fun t => if t = true then (if x.f0.size ≤ maxLen then (if seen.contains x.f0.data.toList then some 51 else symfile_imports.go k xs (x.f0.data.toList :: seen)) else none) else some 140
def symfile_imports.f (k : Nat) (a0 : ByteArray) (l1 : List S93) : Option Int := if (l1.length : Int) > 64 then some 243 else if a0.size ≤ maxLen then symfile_imports.go k l1 [a0.data.toList] else none
set_option maxHeartbeats 1000000 in
set_option maxRecDepth 100000 in
theorem symfile_imports.calls (k : Nat) (a0 : ByteArray) (A1 : Option Addr) (c1 : Nat) (l1 : List (S93)) (r : Int) (w : World) (hr1 : Kd.C k93 w A1 l1.length l1) (_hc1 : l1.length ≤ c1) (h : symfile_imports.f k a0 l1 = some r) :
    Calls Try.prog 94 #[.string a0, .slice A1 l1.length c1] w fun e w' => e = .returned (.int .i64 r) ∧ Below w.heap.size w w' := by
  have HR := Lib.hid hr1
  clear hr1
  unfold symfile_imports.f at h
  by_cases big : (l1.length : Int) > 64
  · rw [if_pos big] at h
    obtain rfl := Option.some.inj h
    have b1 : decide (64 < (l1.length : Int)) = true := decide_eq_true big
    have b2 : decide (64 < l1.length) = true := decide_eq_true (by omega)
    clear big
    go_enter Try.func94, Try.ntmps94
    go_wp2
    go_ret
    exact ⟨rfl, Below.refl _ _⟩
  rw [if_neg big] at h
  have b1 : decide (64 < (l1.length : Int)) = false := decide_eq_false big
  have b2 : decide (64 < l1.length) = false := decide_eq_false (by omega)
  have B64 : l1.length ≤ 64 := by omega
  clear big
  by_cases hs : a0.size ≤ maxLen
  rotate_left
  · rw [if_neg hs] at h; cases h
  rw [if_pos hs] at h
  have H := Lib.hid h
  have HS := Lib.hid hs
  clear h hs
  have hmm := @run_makeMap Try.prog
  have S0 := Lib.hid (SetAt.made w)
  go_enter Try.func94, Try.ntmps94
  go_wp2_with (refine wpList_set_store _ rfl _ _ _ (.inr rfl) w.heap.size 0 [] rfl S0.out (by decide) a0 rfl rfl HS.out ?_)
  intro w1 hset hg
  have S1 := Lib.hid hset
  have BW : Hid (Below w.heap.size w w1) := Lib.hid ((((Below.refl w.heap.size w).alloc (Nat.le_refl _) _).grown hg ((Below.refl w.heap.size w).alloc (Nat.le_refl _) _).size (fun j hj => by cases hj; exact Nat.le_refl _)))
  clear hset hg S0 b1 b2
  go_wp2
  go_loopw [16] (fun r16 wr => ∃ (i : Nat) (seen : List (List UInt8)), i ≤ l1.length ∧ r16 = .int .i64 i ∧ Hid (symfile_imports.go k (l1.drop i) seen = some r) ∧ Hid (SetAt wr w.heap.size (i + 1) seen) ∧ Hid (Below w.heap.size w wr)) (fun r16 _ => l1.length - (intOf r16).toNat)
  case atStart => exact ⟨0, _, Nat.zero_le _, rfl, by simpa using H, S1, BW⟩
  case round =>
    obtain ⟨i, seen, hi, rfl, H2, S2, B2⟩ := hrel
    clear H S1 BW
    by_cases hlt : i < l1.length
    rotate_left
    · have h2 := H2.out
      rw [List.drop_of_length_le (by omega)] at h2
      obtain rfl := Option.some.inj h2
      clear h2 H2
      go_wp2
      go_ret
      exact ⟨rfl, B2.out⟩
    have h2 := H2.out
    rw [List.drop_eq_getElem_cons hlt] at h2
    clear H2
    unfold symfile_imports.go at h2
    obtain ⟨ad, rfl, x0, x1⟩ := at_T93 HR.out (i : Int) (by omega) (by omega)
    have e0 : rd_T93 l1 (i : Int) = l1[i] := by simp [rd_T93, List.getD, hlt]
    rw [e0] at x0 x1
    generalize l1[i] = x at h2 x0 x1
    clear e0
    obtain ⟨f0, f1⟩ := x
    simp only [Int.toNat_natCast] at h2 x0 x1
    replace x0 := (B2.out.cell (World.block_lt_of_cell? w _ x0)).trans x0
    replace x1 := (B2.out.cell (World.block_lt_of_cell? w _ x1)).trans x1
    cases hn : symfile_Name.f k f0 with
    | none => rw [hn] at h2; cases h2
    | some t =>
    have HN := Lib.hid hn
    rw [hn] at h2
    replace h2 : (if t = true then (if f0.size ≤ maxLen then (if seen.contains f0.data.toList then some 51 else symfile_imports.go k (List.drop (i + 1) l1) (f0.data.toList :: seen)) else none) else some 140) = some r := h2
    clear hn
    have ba : Below wr.heap.size wr (wr.alloc (.cells #[.string f0, .int .u32 f1] 93)) := (Below.refl _ _).alloc (Nat.le_refl _) _
    have S3 := Lib.hid (S2.out.kept (World.grownBy_alloc wr (.cells #[.string f0, .int .u32 f1] 93) none) (by simp))
    have B3 := Lib.hid (B2.out.alloc (B2.out.size) (.cells #[.string f0, .int .u32 f1] 93))
    have K3 := Lib.hid (heap_alloc_new wr (.cells #[.string f0, .int .u32 f1] 93))
    clear ba
    go_wp2_with fail
    refine (symfile_Name.calls k f0 t _ HN.out).mono ?_
    rintro e w3 ⟨rfl, ⟨m, rfl⟩⟩
    cases t
    · rw [if_neg (by decide)] at h2
      obtain rfl := Option.some.inj h2
      go_wp2
      go_ret
      exact ⟨rfl, pw_below_drewN B3.out m⟩
    rw [if_pos rfl] at h2
    by_cases hs : f0.size ≤ maxLen
    rotate_left
    · rw [if_neg hs] at h2; cases h2
    rw [if_pos hs] at h2
    have HS2 := Lib.hid hs
    clear hs HN
    have S4 : Hid (SetAt ((wr.alloc (.cells #[.string f0, .int .u32 f1] 93)).drewN m) w.heap.size (i + 1) seen) := Lib.hid (S3.out.heap (by simp))
    have B4 : Hid (Below w.heap.size w ((wr.alloc (.cells #[.string f0, .int .u32 f1] 93)).drewN m)) := Lib.hid (pw_below_drewN B3.out m)
    clear S3 B3 S2 B2 x0 x1
    by_cases hc : seen.contains f0.data.toList = true
    · rw [if_pos hc] at h2
      obtain rfl := Option.some.inj h2
      go_wp2_with (at_lookup; refine wpList_set_lookup _ rfl _ _ rfl w.heap.size (i + 1) seen rfl S4.out f0 rfl HS2.out ?_; rw [hc])
      go_ret
      exact ⟨rfl, B4.out⟩
    rw [if_neg hc] at h2
    have hc' : seen.contains f0.data.toList = false := by simpa using hc
    have H4 := Lib.hid h2
    clear h2 hc
    go_wp2_with (first | (at_lookup; refine wpList_set_lookup _ rfl _ _ rfl w.heap.size (i + 1) seen rfl S4.out f0 rfl HS2.out ?_; rw [hc']) | (at_mapUpdate; refine wpList_set_store _ rfl _ _ _ (.inl rfl) w.heap.size (i + 1) seen rfl S4.out (by have := B64; unfold maxLen; omega) f0 rfl rfl HS2.out ?_; intro w5 hs5 hg5))
    go_roundw
    case rel => exact ⟨i + 1, _, hlt, by simp, H4, Lib.hid hs5, Lib.hid (B4.out.grown hg5 B4.out.size (fun j hj => by cases hj; exact Nat.le_refl _))⟩
    case measure => simp [intOf]; omega
end Go.Proofs.Ytehdhmhpmkkneaa.PAll
