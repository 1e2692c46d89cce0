/- TreeNone: closed facts of its witness. -/
import Derived.Test.YtbfjgkafmlbpcaaGreatDoorRows
import Derived.LaidLaws
import Derived.Lay
import Derived.MakeChecks
import Derived.ChangeSame
import Derived.ChangeVars
import Derived.JoinedOf
import Derived.RowKitTokens
import Derived.Handed
import Derived.ProofKit
set_option maxRecDepth 100000
set_option maxHeartbeats 8000000
set_option linter.all false
namespace Go.Proofs.YtbfjgkafmlbpcaaGreatDoor
open Go.RowKit Go.ChangeShapes Go.WideShapes Go.ChangeAt
theorem Ig:ownKnob Tryz.prog.godebug=none:=by kernel_rfl
theorem Iq:laidOutB Tryz.prog=true:=by kernel_rfl
def rR:Array Value:=#[.agg #[.int .u8 0,.slice none 0 0,.slice none 0 0,.string ⟨#[]⟩,.bool false,.string ⟨#[]⟩,.string ⟨#[]⟩,.string ⟨#[]⟩,.slice none 0 0,.slice none 0 0,.string ⟨#[]⟩,.string ⟨#[]⟩,.int .i64 0]]
theorem Tt (os:Os):((World.laidAll Tryz.prog os Rows.treeNoneRow.laid).forCall (fun _ _=>0) ⟨#[],rR,[]⟩).variablesZipB Tryz.checked.prog=true:=by kernel_rfl
theorem Tq (os:Os):(((World.laidAll Tryz.prog os Rows.treeNoneRow.laid).forCall (fun _ _=>0) ⟨#[],rR,[]⟩).heap.toList.drop Tryz.checked.prog.globals.size).take ((begin Tryz.checked.prog (fun _ _=>0) default).world.heap.size - Tryz.checked.prog.globals.size)=(begin Tryz.checked.prog (fun _ _=>0) default).world.heap.toList.drop Tryz.checked.prog.globals.size:=by kernel_rfl
theorem Tp (os:Os):Input.okWideB Tryz.checked.prog ((World.laidAll Tryz.prog os Rows.treeNoneRow.laid).forCall (fun _ _=>0) ⟨#[],rR,[]⟩) 3 ⟨#[],rR,[]⟩=true:=by kernel_rfl
theorem Tn (os:Os){H:Type}(enc:TypeId×Value->H):Rows.treeNoneSpec.preB enc Tryz.checked.prog Tryz.f3 [] false ((World.laidAll Tryz.prog os Rows.treeNoneRow.laid).forCall (fun _ _=>0) ⟨#[],rR,[]⟩).memory rR 8=true:=by kernel_rfl
theorem Tm (os:Os){H:Type}(enc:TypeId×Value->H):Rows.treeNoneSpec.sizedB enc Tryz.checked.prog Tryz.f3 false ((World.laidAll Tryz.prog os Rows.treeNoneRow.laid).forCall (fun _ _=>0) ⟨#[],rR,[]⟩).memory rR 8=true:=by kernel_rfl
theorem Tk (os:Os):(World.holding Tryz.prog os ⟨#[],#[],[]⟩).layFits Tryz.prog Rows.treeNoneRow.laid []=true:=by kernel_rfl
theorem Tj (os:Os):(World.holding Tryz.prog os ⟨#[],#[],[]⟩).layIfaces Tryz.prog Rows.treeNoneRow.laid (World.laidAll Tryz.prog os Rows.treeNoneRow.laid)=true:=by kernel_rfl
theorem OZ:(Rows.treeNoneRow.laid.all fun x=>x.2.handleName?.isNone)=true:=by kernel_rfl
theorem Ti (os:Os)(args:Array Value):laidMetH Tryz.prog Rows.treeNoneRow.laid ((World.laidAll Tryz.prog os Rows.treeNoneRow.laid).forCall (fun _ _=>0) ⟨#[],args,[]⟩).memory:=(MakeChecks.laidMetH_plain Tryz.prog Rows.treeNoneRow.laid _ OZ).mpr (laidMet_laidAll args (Tk os) (Tj os))
end Go.Proofs.YtbfjgkafmlbpcaaGreatDoor
