/- No function starts a goroutine: the fact in ranges (of the kernel's memory). -/
import Derived.Test.YtpmbddooibgnaaaGreatDoorRows
import Derived.SevenTiedAt
set_option maxRecDepth 100000
set_option maxHeartbeats 8000000
set_option linter.all false
namespace Go.Proofs.YtpmbddooibgnaaaGreatDoor
open Go
noncomputable def noGo (g : Nat) : Bool := !((Tryz.prog.funcs[g]?).any Func.goes)
theorem ng_chain {f : Nat → Bool} {a n m : Nat} (h : (List.range' a n).all f = true) (k : (List.range' (a + n) m).all f = true) : (List.range' a (n + m)).all f = true := by
  rw [← List.range'_append_1, List.all_append, h, k]; rfl
theorem ng0 : (List.range' 0 41).all noGo = true := by kernel_rfl
theorem ng1 : (List.range' 41 41).all noGo = true := by kernel_rfl
theorem ng2 : (List.range' 82 41).all noGo = true := by kernel_rfl
theorem ng3 : (List.range' 123 41).all noGo = true := by kernel_rfl
theorem ng4 : (List.range' 164 41).all noGo = true := by kernel_rfl
theorem ng5 : (List.range' 205 41).all noGo = true := by kernel_rfl
theorem ng6 : (List.range' 246 41).all noGo = true := by kernel_rfl
theorem ng7 : (List.range' 287 41).all noGo = true := by kernel_rfl
theorem ng8 : (List.range' 328 41).all noGo = true := by kernel_rfl
theorem ng9 : (List.range' 369 41).all noGo = true := by kernel_rfl
theorem ng10 : (List.range' 410 41).all noGo = true := by kernel_rfl
theorem ng11 : (List.range' 451 41).all noGo = true := by kernel_rfl
theorem ng12 : (List.range' 492 41).all noGo = true := by kernel_rfl
theorem ng13 : (List.range' 533 41).all noGo = true := by kernel_rfl
theorem ng14 : (List.range' 574 41).all noGo = true := by kernel_rfl
theorem ng15 : (List.range' 615 40).all noGo = true := by kernel_rfl
theorem ng_all : (List.range' 0 655).all noGo = true := (ng_chain (ng_chain (ng_chain (ng_chain (ng_chain (ng_chain (ng_chain (ng_chain (ng_chain (ng_chain (ng_chain (ng_chain (ng_chain (ng_chain (ng_chain ng0 ng1) ng2) ng3) ng4) ng5) ng6) ng7) ng8) ng9) ng10) ng11) ng12) ng13) ng14) ng15)
theorem ng_size : Tryz.prog.funcs.size = 655 := by kernel_rfl
theorem no_goes (g : Nat) : (Tryz.prog.funcs[g]?).any Func.goes = false := by
  by_cases h : g < Tryz.prog.funcs.size
  · have h1 := List.all_eq_true.1 ng_all g (by rw [List.mem_range'_1]; rw [ng_size] at h; omega)
    unfold noGo at h1
    simpa using h1
  · rw [Array.getElem?_eq_none (Nat.not_lt.1 h)]; rfl
theorem goes_any : Tryz.prog.funcs.any Func.goes = false := by
  rw [Array.any_eq_false]
  intro i hi hg
  have := no_goes i
  rw [Array.getElem?_eq_getElem hi] at this
  exact absurd (this.symm.trans hg) (by decide)
theorem goes_no (func : String) : Tryz.prog.goesFrom func = false := by
  unfold Program.goesFrom
  cases Tryz.prog.funcNamed func with
  | none => rfl
  | some f =>
    show Tryz.prog.goes f = false
    unfold Program.goes
    rw [goes_any, Bool.and_false, Bool.or_false]
    rw [List.any_eq_false]
    intro g _
    rw [no_goes g]
    decide
theorem goes_serve : false = Rows.serveNoneRow.goesBy Tryz.pinned.checked.prog := by
  show false = Tryz.prog.goesAt Rows.serveNoneRow.start Rows.serveNoneRow.func
  unfold Program.goesAt
  rw [goes_no]
  rfl
end Go.Proofs.YtpmbddooibgnaaaGreatDoor
