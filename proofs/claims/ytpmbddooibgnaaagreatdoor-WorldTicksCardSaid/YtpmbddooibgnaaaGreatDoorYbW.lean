/- WorldTicks: closed facts of the witness. -/
import Derived.Test.YtpmbddooibgnaaaGreatDoorRows
import Derived.LaidLaws
import Derived.Lay
import Derived.MakeChecks
import Derived.ChangeSame
import Derived.ChangeVars
import Derived.JoinedOf
import Derived.RowKitTokens
import Derived.Handed
import Derived.ProofKit
set_option maxRecDepth 100000
set_option maxHeartbeats 8000000
namespace Go.Proofs.YtpmbddooibgnaaaGreatDoor
open Go Go.RowKit Go.ChangeShapes Go.WideShapes Go.ChangeAt
theorem own_none14 : ownKnob Tryz.prog.godebug = none := by kernel_rfl
def args14 : Array Value := #[.slice none 0 0, .bool false]
theorem wit1 (os : Os) : ((World.laidAll Tryz.prog os Rows.worldTicksRow.laid).forCall (fun _ _ => 0) ⟨#[], args14, []⟩).variablesZipB Tryz.checked.prog = true := by kernel_rfl
theorem wit2 (os : Os) : (((World.laidAll Tryz.prog os Rows.worldTicksRow.laid).forCall (fun _ _ => 0) ⟨#[], args14, []⟩).heap.toList.drop Tryz.checked.prog.globals.size).take ((begin Tryz.checked.prog (fun _ _ => 0) default).world.heap.size - Tryz.checked.prog.globals.size) = (begin Tryz.checked.prog (fun _ _ => 0) default).world.heap.toList.drop Tryz.checked.prog.globals.size := by kernel_rfl
theorem wit3 (os : Os) : Input.okWideB Tryz.checked.prog ((World.laidAll Tryz.prog os Rows.worldTicksRow.laid).forCall (fun _ _ => 0) ⟨#[], args14, []⟩) 4 ⟨#[], args14, []⟩ = true := by kernel_rfl
theorem wit4 (os : Os) {H : Type} (enc : TypeId × Value → H) : Rows.worldTicksSpec.preB enc Tryz.checked.prog Tryz.f4 [] false ((World.laidAll Tryz.prog os Rows.worldTicksRow.laid).forCall (fun _ _ => 0) ⟨#[], args14, []⟩).memory args14 8 = true := by kernel_rfl
theorem wit5 (os : Os) {H : Type} (enc : TypeId × Value → H) : Rows.worldTicksSpec.sizedB enc Tryz.checked.prog Tryz.f4 false ((World.laidAll Tryz.prog os Rows.worldTicksRow.laid).forCall (fun _ _ => 0) ⟨#[], args14, []⟩).memory args14 8 = true := by kernel_rfl
theorem wit6 (os : Os) : (World.holding Tryz.prog os ⟨#[], #[], []⟩).layFits Tryz.prog Rows.worldTicksRow.laid [] = true := by kernel_rfl
theorem wit7 (os : Os) : (World.holding Tryz.prog os ⟨#[], #[], []⟩).layIfaces Tryz.prog Rows.worldTicksRow.laid (World.laidAll Tryz.prog os Rows.worldTicksRow.laid) = true := by kernel_rfl
theorem plain14 : (Rows.worldTicksRow.laid.all fun x => x.2.handleName?.isNone) = true := by kernel_rfl
theorem wit8 (os : Os) (args : Array Value) : laidMetH Tryz.prog Rows.worldTicksRow.laid ((World.laidAll Tryz.prog os Rows.worldTicksRow.laid).forCall (fun _ _ => 0) ⟨#[], args, []⟩).memory := (MakeChecks.laidMetH_plain Tryz.prog Rows.worldTicksRow.laid _ plain14).mpr (laidMet_laidAll args (wit6 os) (wit7 os))

end Go.Proofs.YtpmbddooibgnaaaGreatDoor
