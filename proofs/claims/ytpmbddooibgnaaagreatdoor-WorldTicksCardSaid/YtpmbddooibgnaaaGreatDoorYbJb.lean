/- WorldTicks: closed facts of the row, part b. -/
import Derived.Test.YtpmbddooibgnaaaGreatDoorRows
import Derived.JoinedOf
import Derived.Test.YtpmbddooibgnaaaGreatDoorYbV
set_option maxRecDepth 100000
set_option maxHeartbeats 8000000
set_option linter.all false
namespace Go.Proofs.YtpmbddooibgnaaaGreatDoor
open Go
theorem jf8 : ((Tryz.pinned.checked.prog.stopKnobs == [])) = true := by kernel_rfl
theorem jf9 : ((Rows.worldTicksRow.inPlace == Tryz.pinned.checked.prog.inPlace 4)) = true := by
  unfold Program.inPlace
  rw [vn_cl]
  kernel_rfl
theorem vn_u : Tryz.pinned.checked.prog.unfollowed 4 = true := by
  unfold Program.unfollowed
  rw [vn_cl]
  kernel_rfl
theorem jf10 : ((Rows.worldTicksRow.unfollowed == Tryz.pinned.checked.prog.unfollowed 4)) = true := by
  rw [vn_u]
  kernel_rfl
theorem jf11 : ((Rows.worldTicksRow.recurses == Tryz.pinned.checked.prog.recurses 4)) = true := by
  unfold Program.recurses
  rw [vn_u, Bool.true_or]
  kernel_rfl
theorem jf13 : ((Rows.worldTicksRow.maps == (Tryz.f4.params.toList ++ Rows.worldTicksSpec.plain.varTypes Tryz.pinned.checked.prog).any (Tryz.pinned.checked.prog.mapsRec ·))) = true := by kernel_rfl
theorem jf14 : ((Rows.worldTicksRow.ifaces == (Tryz.f4.params.toList ++ Rows.worldTicksSpec.plain.varTypes Tryz.pinned.checked.prog).any (Tryz.pinned.checked.prog.ifacesRec ·))) = true := by kernel_rfl
theorem jf15 : ((Rows.worldTicksRow.mapsOut == Tryz.pinned.checked.prog.mapsAmong Tryz.f4.resultTypes.toList)) = true := by kernel_rfl
end Go.Proofs.YtpmbddooibgnaaaGreatDoor
