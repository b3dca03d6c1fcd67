/- Layer 13: the walk of the law FingerSame. -/
import Derived.Test.YtehdhmhpmkkneaaFl
import Derived.Test.YtehdhmhpmkkneaaSb
namespace Go.Proofs.Ytehdhmhpmkkneaa
open Go.RowKit Go.Proofs.YtehdhmhpmkkneaaW.PrintWords Go.Proofs.Ytehdhmhpmkkneaa.PAll

set_option maxHeartbeats 2000000 in
set_option maxRecDepth 100000 in
theorem fingerSame_any (s : ByteArray) (a b : List S80) (A A' : Option Addr) (c c' : Nat) (w : World) (hr : Kd.C k80 w A a.length a) (hc : a.length ≤ c) (hok : ∀ x ∈ a, Ok80 x) (hr' : Kd.C k80 w A' b.length b) (hc' : b.length ≤ c') (hok' : ∀ x ∈ b, Ok80 x) (hs63 : s.size ≤ 9223372036854775807) :
    Calls Try.prog 5 #[.string s, .slice A a.length c, .slice A' b.length c'] w fun e w' => e = .returned (.bool true) ∧ Below w.heap.size w w' := by
  have HR := Lib.hid hr
  have HC := Lib.hid hc
  have OK := Lib.hid hok
  have HR' := Lib.hid hr'
  have HC' := Lib.hid hc'
  have OK' := Lib.hid hok'
  clear hr hc hok hr' hc' hok'
  go_enter Try.func5, Try.ntmps5
  go_wp2_with fail
  refine (fawake w).mono ?_
  rintro e w1 ⟨rfl, d1⟩
  have B1 := Lib.hid d1.below
  clear d1
  obtain ⟨r, hsm, hcall⟩ := lsmall a A c w1 (Kd.C_below HR.out B1.out) HC.out
  have SM := Lib.hid hsm
  have CL := Lib.hid hcall
  clear hsm hcall
  cases r
  · go_wp2_with fail
    refine CL.out.mono ?_
    rintro e w2 ⟨rfl, d2⟩
    have B2 := Lib.hid d2.below
    clear d2
    go_wp2
    go_ret
    exact ⟨rfl, B1.out.trans (B2.out.mono B1.out.size)⟩
  have SL := Lib.hid (SM.out rfl)
  go_wp2_with fail
  refine CL.out.mono ?_
  rintro e w2 ⟨rfl, d2⟩
  have B2 := Lib.hid (B1.out.trans (d2.below.mono B1.out.size))
  clear d2 CL SM
  obtain ⟨r, hsm, hcall⟩ := lsmall b A' c' w2 (Kd.C_below HR'.out B2.out) HC'.out
  have SM := Lib.hid hsm
  have CL := Lib.hid hcall
  clear hsm hcall
  cases r
  · go_wp2_with fail
    refine CL.out.mono ?_
    rintro e w3 ⟨rfl, d3⟩
    have B3 := Lib.hid d3.below
    clear d3
    go_wp2
    go_ret
    exact ⟨rfl, B2.out.trans (B3.out.mono B2.out.size)⟩
  have SL' := Lib.hid (SM.out rfl)
  by_cases hs : s.size ≤ 200
  rotate_left
  · go_wp2_with fail
    refine CL.out.mono ?_
    rintro e w3 ⟨rfl, d3⟩
    have B3 := Lib.hid d3.below
    clear d3
    go_wp2
    go_ret
    exact ⟨rfl, B2.out.trans (B3.out.mono B2.out.size)⟩
  have KL := Lib.hid (keyB_len s a OK.out SL.out hs)
  have KL' := Lib.hid (keyB_len s b OK'.out SL'.out hs)
  go_wp2_with fail
  refine CL.out.mono ?_
  rintro e w3 ⟨rfl, d3⟩
  have B3 := Lib.hid (B2.out.trans (d3.below.mono B2.out.size))
  clear d3
  go_wp2_with fail
  refine (rsame80' a b A A' c c' w3 (Kd.C_below HR.out B3.out) (Kd.C_below HR'.out B3.out)).mono ?_
  rintro e w4 ⟨r4, rfl, e4, b4⟩
  have E4 := Lib.hid e4
  have B4 := Lib.hid (B3.out.trans (b4.mono B3.out.size))
  clear e4 b4
  go_wp2_with fail
  refine (fsame a b A A' c c' w4 (Kd.C_below HR.out B4.out) HC.out (Kd.C_below HR'.out B4.out) HC'.out OK.out).mono ?_
  rintro e w5 ⟨r5, rfl, e5, b5⟩
  have B5 := Lib.hid (B4.out.trans (b5.mono B4.out.size))
  obtain rfl : r4 = r5 := by
    have := E4.out.trans e5.symm
    cases r4 <;> cases r5 <;> simp_all
  clear e5 b5
  have T1 : (r4 == r4) = true := by simp
  go_wp2_with fail
  refine (fsame a a A A c c w5 (Kd.C_below HR.out B5.out) HC.out (Kd.C_below HR.out B5.out) HC.out OK.out).mono ?_
  rintro e w6 ⟨r6, rfl, e6, b6⟩
  have B6 := Lib.hid (B5.out.trans (b6.mono B5.out.size))
  obtain rfl : r6 = true := e6.2 rfl
  clear e6 b6
  cases r4
  · go_wp2
    go_ret
    exact ⟨rfl, B6.out⟩
  obtain rfl : a = b := E4.out.1 rfl
  go_wp2_with fail
  refine (fkey s a A c w6 (Kd.C_below HR.out B6.out) OK.out (by have := KL.out; omega) (by omega)).mono ?_
  rintro e w7 ⟨rfl, b7⟩
  have B7 := Lib.hid (B6.out.trans (b7.mono B6.out.size))
  clear b7
  go_wp2_with fail
  refine (fkey s a A' c' w7 (Kd.C_below HR'.out B7.out) OK.out (by have := KL.out; omega) (by omega)).mono ?_
  rintro e w8 ⟨rfl, b8⟩
  have B8 := Lib.hid (B7.out.trans (b8.mono B7.out.size))
  clear b8
  go_wp2
  go_ret
  exact ⟨rfl, B8.out⟩
end Go.Proofs.Ytehdhmhpmkkneaa
