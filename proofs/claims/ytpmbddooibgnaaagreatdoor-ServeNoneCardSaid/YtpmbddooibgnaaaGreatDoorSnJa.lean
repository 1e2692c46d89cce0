/- ServeNone: closed facts of the row, part a. -/
import Derived.Test.YtpmbddooibgnaaaGreatDoorSnL
import Derived.JoinedOf
set_option maxRecDepth 100000
set_option maxHeartbeats 8000000
set_option linter.all false
namespace Go.Proofs.YtpmbddooibgnaaaGreatDoor
open Go
theorem jf0 : (Rows.serveNoneRow.wf (OpenSpec.ofChange Rows.serveNoneSpec)) = true := by kernel_rfl
theorem jf1 : (laidOutB Tryz.pinned.checked.prog) = true := laid_outP
theorem jf2 : (mapsRowed Tryz.pinned.checked.prog) = true := by kernel_rfl
theorem jf3 : (Tryz.f3.params.all (Tryz.pinned.checked.prog.readableRec ·)) = true := by kernel_rfl
theorem jf4 : (namedTie Tryz.pinned.checked.prog Rows.serveNoneRow.named Rows.serveNoneSpec.vars) = true := by kernel_rfl
theorem jf5 : ((Rows.serveNoneRow.stops == [])) = true := by kernel_rfl
theorem jf6 : ((Tryz.pinned.checked.prog.stops == [])) = true := by kernel_rfl
theorem jf7 : ((Rows.serveNoneRow.knobs == [])) = true := by kernel_rfl
end Go.Proofs.YtpmbddooibgnaaaGreatDoor
