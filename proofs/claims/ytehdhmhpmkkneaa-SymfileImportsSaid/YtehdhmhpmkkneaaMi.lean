/- Two facts on types: a four-byte number's and a segment's place in memory. -/
import Derived.Test.YtehdhmhpmkkneaaPAllx0
namespace Go.Proofs.Ytehdhmhpmkkneaa.PAll
open Go.RowKit
theorem info39 : (Try.prog.info? 39).map (fun i => (i.zero, i.size, i.bytes)) = some (some (.int .u32 0), 1, 4) := by kernel_rfl
theorem info131 : (Try.prog.info? 131).map (fun i => (i.zero, i.size, i.bytes)) = some (some (.agg #[(.int .i64 0), (.int .i64 0)]), 2, 16) := by kernel_rfl
end Go.Proofs.Ytehdhmhpmkkneaa.PAll
