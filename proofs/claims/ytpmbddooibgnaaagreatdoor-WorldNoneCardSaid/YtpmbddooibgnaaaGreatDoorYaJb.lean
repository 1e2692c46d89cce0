/- WorldNone: closed facts of the row, part b. -/
import Derived.Test.YtpmbddooibgnaaaGreatDoorRows
import Derived.JoinedOf
import Derived.Test.YtpmbddooibgnaaaGreatDoorYaV
set_option maxRecDepth 100000
set_option maxHeartbeats 8000000
set_option linter.all false
namespace Go.Proofs.YtpmbddooibgnaaaGreatDoor
open Go
theorem jf8 : ((Tryz.pinned.checked.prog.stopKnobs == [])) = true := by kernel_rfl
theorem jf9 : ((Rows.worldNoneRow.inPlace == Tryz.pinned.checked.prog.inPlace 5)) = true := by
  unfold Program.inPlace
  rw [vn_cl]
  kernel_rfl
theorem vn_u : Tryz.pinned.checked.prog.unfollowed 5 = true := by
  unfold Program.unfollowed
  rw [vn_cl]
  kernel_rfl
theorem jf10 : ((Rows.worldNoneRow.unfollowed == Tryz.pinned.checked.prog.unfollowed 5)) = true := by
  rw [vn_u]
  kernel_rfl
theorem jf11 : ((Rows.worldNoneRow.recurses == Tryz.pinned.checked.prog.recurses 5)) = true := by
  unfold Program.recurses
  rw [vn_u, Bool.true_or]
  kernel_rfl
theorem jf13 : ((Rows.worldNoneRow.maps == (Tryz.f5.params.toList ++ Rows.worldNoneSpec.plain.varTypes Tryz.pinned.checked.prog).any (Tryz.pinned.checked.prog.mapsRec ·))) = true := by kernel_rfl
theorem jf14 : ((Rows.worldNoneRow.ifaces == (Tryz.f5.params.toList ++ Rows.worldNoneSpec.plain.varTypes Tryz.pinned.checked.prog).any (Tryz.pinned.checked.prog.ifacesRec ·))) = true := by kernel_rfl
theorem jf15 : ((Rows.worldNoneRow.mapsOut == Tryz.pinned.checked.prog.mapsAmong Tryz.f5.resultTypes.toList)) = true := by kernel_rfl
end Go.Proofs.YtpmbddooibgnaaaGreatDoor
