/- Every type is laid out: the fact in ranges (of the kernel's memory); the world's shape in ranges. -/
import Derived.Test.YtpmbddooibgnaaaGreatDoorRows
import Derived.LaidLaws
import Derived.JoinedOf
set_option maxRecDepth 100000
set_option maxHeartbeats 8000000
set_option linter.all false
namespace Go.Proofs.YtpmbddooibgnaaaGreatDoor
open Go
theorem all_chain {f : Nat → Bool} {a n m : Nat} (h : (List.range' a n).all f = true) (k : (List.range' (a + n) m).all f = true) : (List.range' a (n + m)).all f = true := by
  rw [← List.range'_append_1, List.all_append, h, k]; rfl
theorem lo0 : (List.range' 0 62).all (rowFine Tryz.prog) = true := by kernel_rfl
theorem lo1 : (List.range' 62 62).all (rowFine Tryz.prog) = true := by kernel_rfl
theorem lo2 : (List.range' 124 62).all (rowFine Tryz.prog) = true := by kernel_rfl
theorem lo3 : (List.range' 186 62).all (rowFine Tryz.prog) = true := by kernel_rfl
theorem lo4 : (List.range' 248 62).all (rowFine Tryz.prog) = true := by kernel_rfl
theorem lo5 : (List.range' 310 62).all (rowFine Tryz.prog) = true := by kernel_rfl
theorem lo6 : (List.range' 372 62).all (rowFine Tryz.prog) = true := by kernel_rfl
theorem lo7 : (List.range' 434 62).all (rowFine Tryz.prog) = true := by kernel_rfl
theorem lo8 : (List.range' 496 62).all (rowFine Tryz.prog) = true := by kernel_rfl
theorem lo9 : (List.range' 558 62).all (rowFine Tryz.prog) = true := by kernel_rfl
theorem lo10 : (List.range' 620 62).all (rowFine Tryz.prog) = true := by kernel_rfl
theorem lo11 : (List.range' 682 59).all (rowFine Tryz.prog) = true := by kernel_rfl
theorem lo_all : (List.range' 0 741).all (rowFine Tryz.prog) = true := (all_chain (all_chain (all_chain (all_chain (all_chain (all_chain (all_chain (all_chain (all_chain (all_chain (all_chain lo0 lo1) lo2) lo3) lo4) lo5) lo6) lo7) lo8) lo9) lo10) lo11)
theorem lo_size : Tryz.prog.types.size = 741 := by kernel_rfl
theorem lo_glob : Tryz.prog.globals.all (fun g => decide (g.type < Tryz.prog.types.size)) = true := by kernel_rfl
theorem lo_func : Tryz.prog.funcs.all (fun f => f.params.all fun t => decide (t < Tryz.prog.types.size)) = true := by kernel_rfl
theorem laid_out14 : laidOutB Tryz.prog = true := by
  unfold laidOutB
  rw [lo_glob, lo_func, lo_size, List.range_eq_range', lo_all]
  rfl
theorem laid_outP : laidOutB Tryz.pinned.checked.prog = true := laid_out14
end Go.Proofs.YtpmbddooibgnaaaGreatDoor
