/- The walks of layer 18's functions (frame): what each call answers. -/
import Derived.Test.YtbbfimkibfgnaaaRows
import Derived.WalkKit
import Derived.WalkSpells
import Derived.WalkLawsBesides
namespace Go.Proofs.Ytbbfimkibfgnaaa
open Go.RowKit

def rnd (a : Int) : Int := (a + 3) / 4 * 4

set_option maxHeartbeats 400000 in
theorem local_neg (g : Nat) (a : Int) (w : World) (h : a < 0) :
    Calls Try.prog 7 #[.pointer (some ⟨g, 0, none⟩), .int .i64 a] w fun e w' => e = .returned (.tuple #[.int .i64 0, .int .i64 90]) ∧ w = w' := by
  go_enter Try.func7, Try.ntmps7
  go_wp2
  go_ret2
  exact ⟨rfl, rfl⟩

set_option maxHeartbeats 400000 in
theorem local_big (g : Nat) (a : Int) (w : World) (h : 16384 < a) :
    Calls Try.prog 7 #[.pointer (some ⟨g, 0, none⟩), .int .i64 a] w fun e w' => e = .returned (.tuple #[.int .i64 0, .int .i64 90]) ∧ w = w' := by
  go_enter Try.func7, Try.ntmps7
  go_wp2
  go_ret2
  exact ⟨rfl, rfl⟩

set_option maxHeartbeats 400000 in
theorem local_full (g : Nat) (a s : Int) (w : World) (h0 : 0 ≤ a) (h1 : a ≤ 16384) (s0 : 0 ≤ s) (s1 : s ≤ 16384) (hc : w.cell? ⟨g, 0, none⟩ = some (.int .i64 s)) (hf : 16384 - s < rnd a) :
    Calls Try.prog 7 #[.pointer (some ⟨g, 0, none⟩), .int .i64 a] w fun e w' => e = .returned (.tuple #[.int .i64 0, .int .i64 244]) ∧ w = w' := by
  unfold rnd at hf
  go_enter Try.func7, Try.ntmps7
  go_wp2
  go_ret2
  exact ⟨rfl, rfl⟩

set_option maxHeartbeats 400000 in
theorem local_ok (g : Nat) (a s : Int) (w : World) (h0 : 0 ≤ a) (h1 : a ≤ 16384) (s0 : 0 ≤ s) (s1 : s ≤ 16384) (hc : w.cell? ⟨g, 0, none⟩ = some (.int .i64 s)) (hz : w.frozen? ⟨g, 0, none⟩ = false) (hf : rnd a ≤ 16384 - s) :
    Calls Try.prog 7 #[.pointer (some ⟨g, 0, none⟩), .int .i64 a] w fun e w' => e = .returned (.tuple #[.int .i64 (-(s + rnd a)), .int .i64 0]) ∧ w.setCell ⟨g, 0, none⟩ (.int .i64 (s + rnd a)) = w' := by
  unfold rnd at hf
  go_enter Try.func7, Try.ntmps7
  go_wp2
  go_ret2
  exact ⟨rfl, rfl⟩

end Go.Proofs.Ytbbfimkibfgnaaa
