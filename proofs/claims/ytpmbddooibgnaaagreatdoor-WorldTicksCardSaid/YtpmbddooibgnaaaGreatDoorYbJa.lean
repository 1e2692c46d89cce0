/- WorldTicks: closed facts of the row, part a. -/
import Derived.Test.YtpmbddooibgnaaaGreatDoorSnL
import Derived.JoinedOf
set_option maxRecDepth 100000
set_option maxHeartbeats 8000000
set_option linter.all false
namespace Go.Proofs.YtpmbddooibgnaaaGreatDoor
open Go
theorem jf0 : (Rows.worldTicksRow.wf (OpenSpec.ofChange Rows.worldTicksSpec)) = true := by kernel_rfl
theorem jf1 : (laidOutB Tryz.pinned.checked.prog) = true := laid_outP
theorem jf2 : (mapsRowed Tryz.pinned.checked.prog) = true := by kernel_rfl
theorem jf3 : (Tryz.f4.params.all (Tryz.pinned.checked.prog.readableRec ·)) = true := by kernel_rfl
theorem jf4 : (namedTie Tryz.pinned.checked.prog Rows.worldTicksRow.named Rows.worldTicksSpec.vars) = true := by kernel_rfl
theorem jf5 : ((Rows.worldTicksRow.stops == [])) = true := by kernel_rfl
theorem jf6 : ((Tryz.pinned.checked.prog.stops == [])) = true := by kernel_rfl
theorem jf7 : ((Rows.worldTicksRow.knobs == [])) = true := by kernel_rfl
end Go.Proofs.YtpmbddooibgnaaaGreatDoor
