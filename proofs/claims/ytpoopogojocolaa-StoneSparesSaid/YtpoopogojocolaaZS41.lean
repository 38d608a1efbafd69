/- An hour's type in memory. -/
import Derived.Test.YtpoopogojocolaaZS01
namespace Go.Proofs.Ytpoopogojocolaa.P
open Go.RowKit Go.Proofs.YtpoopogojocolaaW.PrintWords Go.Proofs.YtpoopogojocolaaW.PrintLast Go.Proofs.YtpoopogojocolaaW.PrintMore
theorem info73 : (Try.prog.info? 73).map (fun i => (i.zero, i.size, i.bytes)) = some (some (.agg #[.int .i64 0, .int .i64 0, .int .i64 0]), 3, 24) := by kernel_rfl
end Go.Proofs.Ytpoopogojocolaa.P
