/- WorldTicks: the row: its closed facts, joined. -/
import Derived.Test.YtpmbddooibgnaaaGreatDoorYbJa
import Derived.Test.YtpmbddooibgnaaaGreatDoorYbJb
import Derived.Test.YtpmbddooibgnaaaGreatDoorYbJc
import Derived.Test.YtpmbddooibgnaaaGreatDoorYbJd
import Derived.Test.YtpmbddooibgnaaaGreatDoorYbV
set_option maxRecDepth 100000
set_option maxHeartbeats 8000000
set_option linter.all false
namespace Go.Proofs.YtpmbddooibgnaaaGreatDoor
open Go
theorem and2 {a b : Bool} (h : a = true) (k : b = true) : (a && b) = true := by rw [h, k]; rfl
theorem j14 : joinedFacts Tryz.pinned.checked.prog 4 Tryz.f4 Rows.worldTicksSpec Rows.worldTicksRow = true := (and2 (and2 (and2 (and2 (and2 (and2 (and2 (and2 (and2 (and2 (and2 (and2 (and2 (and2 (and2 (and2 (and2 (and2 (and2 (and2 (and2 (and2 (and2 (and2 (and2 (and2 (and2 (and2 (and2 (and2 (and2 jf0 jf1) jf2) jf3) jf4) jf5) jf6) jf7) jf8) jf9) jf10) jf11) jf12) jf13) jf14) jf15) jf16) jf17) jf18) jf19) jf20) jf21) jf22) jf23) jf24) jf25) jf26) jf27) jf28) jf29) jf30) jf31)
end Go.Proofs.YtpmbddooibgnaaaGreatDoor
