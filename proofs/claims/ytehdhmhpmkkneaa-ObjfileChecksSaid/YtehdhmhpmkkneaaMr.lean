/- ObjfileChecks: the law's walk. -/
import Derived.Deep.RegionHeld3
import Derived.Test.YtehdhmhpmkkneaaMq
import Derived.Test.YtehdhmhpmkkneaaPAlly29b
namespace Go.Proofs.Ytehdhmhpmkkneaa
open Go.RowKit Go.Proofs.YtehdhmhpmkkneaaW.PrintWords Go.Proofs.YtehdhmhpmkkneaaW.PrintLast Go.Proofs.YtehdhmhpmkkneaaW.PrintMore Go.Proofs.Ytehdhmhpmkkneaa.PAll

theorem awake15 : pascalinelaw15_awake.f 40 = some true := by decide +kernel

set_option maxHeartbeats 1000000 in
set_option maxRecDepth 100000 in
theorem ref38 (b : ByteArray) (z : Int) (A2 A3 A4 A5 : Option Addr) (n2 n3 n4 n5 c2 c3 c4 c5 : Nat) (d e y : Int) (w : World) :
    Calls Try.prog 38 #[.agg #[.string b, .int .u32 z, .slice A2 n2 c2, .slice A3 n3 c3, .slice A4 n4 c4, .slice A5 n5 c5, .int .i64 d, .int .i64 e, .int .i64 y]] w fun en w' => en = .returned (.agg #[.string b, .int .u32 z, .slice A2 n2 c2, .slice A3 n3 c3, .slice A4 n4 c4, .slice A5 n5 c5, .int .i64 d, .int .i64 e, .int .i64 y]) ∧ Below w.heap.size w w' := by
  go_enter Try.func38, Try.ntmps38
  go_wp2
  refine bodyPost_ret (results_cell_row rfl _ _ (w.heap.size + 1) 64 #[.string b, .int .u32 z, .slice A2 n2 c2, .slice A3 n3 c3, .slice A4 n4 c4, .slice A5 n5 c5, .int .i64 d, .int .i64 e, .int .i64 y] (0, 0) _ rfl (by simpa using heap_alloc_new (w.alloc (.cells #[.string b, .int .u32 z, .slice A2 n2 c2, .slice A3 n3 c3, .slice A4 n4 c4, .slice A5 n5 c5, .int .i64 d, .int .i64 e, .int .i64 y] 60)) (.cells #[.string b, .int .u32 z, .slice A2 n2 c2, .slice A3 n3 c3, .slice A4 n4 c4, .slice A5 n5 c5, .int .i64 d, .int .i64 e, .int .i64 y] 64)) Try.underlying64 rfl (by kernel_rfl)) rfl ?_
  exact ⟨rfl, ((Below.refl _ _).alloc (Nat.le_refl _) _).alloc ((Below.refl _ _).alloc (Nat.le_refl _) _).size _⟩

section
variable (b : ByteArray) (z d e y : Int) (A2 A3 A4 A5 : Option Addr) (c2 c3 c4 c5 : Nat) (l2 : List S93) (l3 : List Int) (l4 : List S134) (l5 : List S131)

/-- The object's value. -/
abbrev objV : Value := .agg #[.string b, .int .u32 z, .slice A2 l2.length c2, .slice A3 l3.length c3, .slice A4 l4.length c4, .slice A5 l5.length c5, .int .i64 d, .int .i64 e, .int .i64 y]

/-- Its rows stand in w. -/
structure ObjAt (w : World) : Prop where
  r2 : Kd.C k93 w A2 l2.length l2
  h2 : l2.length ≤ c2
  r3 : Kd.C (Kd.int .u32) w A3 l3.length l3
  h3 : l3.length ≤ c3
  r4 : Kd.C k134 w A4 l4.length l4
  h4 : l4.length ≤ c4
  r5 : Kd.C k131 w A5 l5.length l5
  h5 : l5.length ≤ c5

variable {A2 A3 A4 A5 c2 c3 c4 c5 l2 l3 l4 l5}
theorem ObjAt.below {w w' : World} (h : ObjAt A2 A3 A4 A5 c2 c3 c4 c5 l2 l3 l4 l5 w) (hb : Below w.heap.size w w') : ObjAt A2 A3 A4 A5 c2 c3 c4 c5 l2 l3 l4 l5 w' :=
  ⟨Kd.C_below h.r2 hb, h.h2, Kd.C_below h.r3 hb, h.h3, Kd.C_below h.r4 hb, h.h4, Kd.C_below h.r5 hb, h.h5⟩

theorem obj_small (w : World) (h : ObjAt A2 A3 A4 A5 c2 c3 c4 c5 l2 l3 l4 l5 w) : ∃ r, Calls Try.prog 35 #[objV b z d e y A2 A3 A4 A5 c2 c3 c4 c5 l2 l3 l4 l5] w fun en w' => en = .returned (.bool r) ∧ Below w.heap.size w w' := by
  have : ∃ r, pascalinelaw15_small.f b z l2 l3 l4 l5 d e y = some r := by
    unfold pascalinelaw15_small.f
    repeat' split
    all_goals exact ⟨_, rfl⟩
  obtain ⟨r, hr⟩ := this
  exact ⟨r, pascalinelaw15_small.calls b z A2 c2 l2 A3 c3 l3 A4 c4 l4 A5 c5 l5 d e y r w h.r2 h.h2 h.r3 h.h3 h.r4 h.h4 h.r5 h.h5 hr⟩

theorem obj_check (w : World) (h : ObjAt A2 A3 A4 A5 c2 c3 c4 c5 l2 l3 l4 l5 w) (hb : b.size ≤ 9223372036854775807) (hs : ∀ x ∈ l2, x.f0.size ≤ 9223372036854775807) :
    Calls Try.prog 36 #[objV b z d e y A2 A3 A4 A5 c2 c3 c4 c5 l2 l3 l4 l5] w fun en w' => en = .returned (.int .i64 (objS b l2 l3 l4 l5 d e y)) ∧ Below w.heap.size w w' := by
  obtain ⟨k, hk⟩ := (obj_code b z l2 l3 l4 l5 d e y hb hs).one
  exact objfile_Check.calls k b z A2 c2 l2 A3 c3 l3 A4 c4 l4 A5 c5 l5 d e y _ w h.r2 h.h2 h.r3 h.h3 h.r4 h.h4 h.r5 h.h5 hk

theorem obj_rcheck (w : World) (h : ObjAt A2 A3 A4 A5 c2 c3 c4 c5 l2 l3 l4 l5 w) (hb : b.size ≤ 9223372036854775807) (hs : ∀ x ∈ l2, x.f0.size ≤ 9223372036854775807) (hl : l2.length ≤ 9223372036854775807) :
    Calls Try.prog 37 #[objV b z d e y A2 A3 A4 A5 c2 c3 c4 c5 l2 l3 l4 l5] w fun en w' => en = .returned (.int .i64 (objS b l2 l3 l4 l5 d e y)) ∧ Below w.heap.size w w' := by
  obtain ⟨k, hk⟩ := (obj_ref b z l2 l3 l4 l5 d e y hb hs hl).one
  exact pascalineref15_Check.calls k b z A2 c2 l2 A3 c3 l3 A4 c4 l4 A5 c5 l5 d e y _ w h.r2 h.h2 h.r3 h.h3 h.r4 h.h4 h.r5 h.h5 hk
end
end Go.Proofs.Ytehdhmhpmkkneaa
