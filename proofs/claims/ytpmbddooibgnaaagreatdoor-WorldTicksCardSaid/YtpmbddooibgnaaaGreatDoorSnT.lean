/- docketlaw20, 21: the tie of their rows, in parts (each closed fact a theorem of its own, the variables' reading in groups). -/
import Derived.Test.YtpmbddooibgnaaaGreatDoorRows
import Derived.LaidByTextLater
import Derived.SevenTiedAt
import Derived.Lib.LaidIn
set_option linter.all false
namespace Go.Proofs.YtpmbddooibgnaaaGreatDoor
open Go

theorem tieIn {P : Program} {w : World} {l : List (String × DataW Unit)} (B : List Nat) (fuel : Nat) (h : (DataW.laidRun P w fuel (l.map (·.1))).map (fun x => (x.1, nodupB (x.2.map MemPlace.codeOf) && laidRowsB P w x.2 && x.2.all fun p => B.contains p.block)) = some (l, true)) : LaidIn P w l B := by
  cases hx : DataW.laidRun P w fuel (l.map (·.1)) with
  | none => rw [hx] at h; cases h
  | some x =>
    rw [hx] at h
    simp only [Option.map_some, Option.some.injEq, Prod.mk.injEq, Bool.and_eq_true] at h
    obtain ⟨h1, ⟨h2, h3⟩, h4⟩ := h
    exact LaidIn.of_run B fuel (by rw [hx, ← h1]; rfl) (by rw [hx, Option.map_some, h2]) (by rw [hx, Option.map_some, h3]) (by rw [hx, Option.map_some, h4])
theorem tieOf {P : Program} {laid : List (String × DataW Unit)} {kinds : List LaidKind} {tests : Bool} (n : Nat)
    (hw : P.worded (varsWordLater tests) = true) (hw' : P.worded (varsWordLater !tests) = false) (hroot : P.worded rootWordLater = true) (hk : laid.map (fun x => P.kindOfLater x.1) = kinds.map some)
    (hg : (P.funcNamed "gosem.cut.vars").isSome = true) (hn : varsNamedLaterB P (varsId P) laid = true) (hd : ∀ os tape, varsDone P n (varsId P) os tape = true)
    (hin : ∀ os tape, ∃ B, LaidIn P (varsWorld P n (varsId P) os tape).memory laid B) (hp : (laid.all fun x => x.2.handleName?.isNone) = true) : P.laidByTextLater laid kinds tests := by
  unfold varsNamedLaterB at hn
  cases hc : (P.funcs[varsId P]?).bind (·.body) with
  | none => simp [hc] at hn
  | some code =>
   cases hs : code.laysInOrder [] with
   | none => simp [hc, hs] at hn
   | some stored =>
    simp only [hc, hs, Bool.and_eq_true] at hn
    refine ⟨⟨hw, hw', hroot, hk⟩, varsId P, code, stored, varsId_spec hg, hc, ⟨hs, hn.1.1, hn.1.2⟩, hn.2, fun os tape _ => ?_⟩
    have d := hd os tape
    obtain ⟨B, m⟩ := hin os tape
    have m := m.met
    unfold varsDone at d
    unfold varsWorld at m
    cases hr : runN P n (Machine.entering P (World.unlaid P os) tape (varsId P) ⟨#[], #[], []⟩) with
    | next mm => simp [hr] at d
    | ended o w =>
      cases o with
      | done v => simp only [hr] at m; exact ⟨n, v, w, hr, by rw [MakeChecks.laidMetH_plain _ _ _ hp]; exact m⟩
      | _ => simp [hr] at d
def tieA : List (String × DataW Unit) := [("unicode/utf8.acceptRanges", Rows.laid_unicode_utf8_acceptRanges)]
def tieC : List (String × DataW Unit) := [("strconv.ErrSyntax", Rows.laid_strconv_ErrSyntax), ("strconv.ErrRange", Rows.laid_strconv_ErrRange)]
def tieD : List (String × DataW Unit) := [("internal/strconv.uint64pow10", Rows.laid_internal_strconv_uint64pow10), ("math/bits.deBruijn32tab", Rows.laid_math_bits_deBruijn32tab), ("math/bits.deBruijn64tab", Rows.laid_math_bits_deBruijn64tab), ("unicode.asciiFold", Rows.laid_unicode_asciiFold)]
def tieB : List (String × DataW Unit) := [("unicode.caseOrbit", Rows.laid_unicode_caseOrbit)]
theorem tie1 : Tryz.prog.worded (varsWordLater true) = true := by kernel_rfl
theorem tie2 : Tryz.prog.worded (varsWordLater !true) = false := by kernel_rfl
theorem tie3 : Tryz.prog.worded rootWordLater = true := by kernel_rfl
theorem tie4 : (tieA ++ (tieC ++ (tieD ++ tieB))).map (fun x => Tryz.prog.kindOfLater x.1) = ([.data, .sentinel, .sentinel, .data, .data, .data, .data, .data] : List LaidKind).map some := by kernel_rfl
theorem tie5 : (Tryz.prog.funcNamed "gosem.cut.vars").isSome = true := by kernel_rfl
theorem tie6 : varsNamedLaterB Tryz.prog (varsId Tryz.prog) (tieA ++ (tieC ++ (tieD ++ tieB))) = true := by kernel_rfl
theorem tie7 : ∀ os tape, varsDone Tryz.prog 400 (varsId Tryz.prog) os tape = true := fun _ _ => by kernel_rfl
theorem tieXA (os : Os) (tape : Tape) : (DataW.laidRun Tryz.prog (varsWorld Tryz.prog 400 (varsId Tryz.prog) os tape).memory 8 (tieA.map (·.1))).map (fun x => (x.1, nodupB (x.2.map MemPlace.codeOf) && laidRowsB Tryz.prog (varsWorld Tryz.prog 400 (varsId Tryz.prog) os tape).memory x.2 && x.2.all fun p => ([1] : List Nat).contains p.block)) = some (tieA, true) := by kernel_rfl
theorem tieB1 (os : Os) (tape : Tape) : (DataW.laidRun Tryz.prog (varsWorld Tryz.prog 400 (varsId Tryz.prog) os tape).memory 8 (tieB.map (·.1))).map (·.1) = some tieB := by kernel_rfl
theorem tieB2 (os : Os) (tape : Tape) : (DataW.laidRun Tryz.prog (varsWorld Tryz.prog 400 (varsId Tryz.prog) os tape).memory 8 (tieB.map (·.1))).map (fun x => nodupB (x.2.map MemPlace.codeOf)) = some true := by kernel_rfl
theorem tieB3 (os : Os) (tape : Tape) : (DataW.laidRun Tryz.prog (varsWorld Tryz.prog 400 (varsId Tryz.prog) os tape).memory 8 (tieB.map (·.1))).map (fun x => laidRowsB Tryz.prog (varsWorld Tryz.prog 400 (varsId Tryz.prog) os tape).memory x.2) = some true := by kernel_rfl
theorem tieB4 (os : Os) (tape : Tape) : (DataW.laidRun Tryz.prog (varsWorld Tryz.prog 400 (varsId Tryz.prog) os tape).memory 8 (tieB.map (·.1))).map (fun x => x.2.all fun p => ([10, (World.unlaid Tryz.prog os).heap.size + 2] : List Nat).contains p.block) = some true := by kernel_rfl
theorem tieXC (os : Os) (tape : Tape) : (DataW.laidRun Tryz.prog (varsWorld Tryz.prog 400 (varsId Tryz.prog) os tape).memory 8 (tieC.map (·.1))).map (fun x => (x.1, nodupB (x.2.map MemPlace.codeOf) && laidRowsB Tryz.prog (varsWorld Tryz.prog 400 (varsId Tryz.prog) os tape).memory x.2 && x.2.all fun p => ([5, 6, (World.unlaid Tryz.prog os).heap.size + 1, (World.unlaid Tryz.prog os).heap.size + 0] : List Nat).contains p.block)) = some (tieC, true) := by kernel_rfl
theorem tieXD (os : Os) (tape : Tape) : (DataW.laidRun Tryz.prog (varsWorld Tryz.prog 400 (varsId Tryz.prog) os tape).memory 8 (tieD.map (·.1))).map (fun x => (x.1, nodupB (x.2.map MemPlace.codeOf) && laidRowsB Tryz.prog (varsWorld Tryz.prog 400 (varsId Tryz.prog) os tape).memory x.2 && x.2.all fun p => ([2, 7, 8, 9] : List Nat).contains p.block)) = some (tieD, true) := by kernel_rfl
theorem tieT : Tryz.prog.laidByTextLater (tieA ++ (tieC ++ (tieD ++ tieB))) [.data, .sentinel, .sentinel, .data, .data, .data, .data, .data] true :=
  tieOf 400 tie1 tie2 tie3 tie4 tie5 tie6 tie7 (fun os tape => ⟨_, (tieIn _ 8 (tieXA os tape)).append ((tieIn _ 8 (tieXC os tape)).append ((tieIn _ 8 (tieXD os tape)).append (LaidIn.of_run _ 8 (tieB1 os tape) (tieB2 os tape) (tieB3 os tape) (tieB4 os tape)) (by kernel_rfl)) (by kernel_rfl)) (by kernel_rfl)⟩) (by kernel_rfl)
theorem pin_laid_unicode_utf8_first : Tryz.pinned.checked.prog.pinnedFits "unicode/utf8.first" = true := by kernel_rfl
theorem pin_laid_unicode_CaseRanges : Tryz.pinned.checked.prog.pinnedFits "unicode.CaseRanges" = true := by kernel_rfl
theorem noOwnUnsafe : Tryz.pinned.checked.prog.headLifts.contains "ownunsafe" = false := by kernel_rfl
theorem fits1 : Tryz.pinned.checked.prog.listedFits [("unicode/utf8.first", Rows.laid_unicode_utf8_first), ("unicode/utf8.acceptRanges", Rows.laid_unicode_utf8_acceptRanges), ("unicode.CaseRanges", Rows.laid_unicode_CaseRanges), ("strconv.ErrSyntax", Rows.laid_strconv_ErrSyntax), ("strconv.ErrRange", Rows.laid_strconv_ErrRange), ("internal/strconv.uint64pow10", Rows.laid_internal_strconv_uint64pow10), ("math/bits.deBruijn32tab", Rows.laid_math_bits_deBruijn32tab), ("math/bits.deBruijn64tab", Rows.laid_math_bits_deBruijn64tab), ("unicode.asciiFold", Rows.laid_unicode_asciiFold), ("unicode.caseOrbit", Rows.laid_unicode_caseOrbit)] = true := by
  unfold Program.listedFits
  rw [noOwnUnsafe]
  kernel_rfl
theorem serveNone_row_tie : Rows.serveNoneRow.laidByTextAt .later Tryz.pinned [.pinned, .data, .pinned, .sentinel, .sentinel, .data, .data, .data, .data, .data] true :=
  OpenClaim.laidByTextAt_pinned rfl rfl tieT rfl rfl rfl rfl (fun y hy _e => by
    simp only [Rows.serveNoneRow, List.zip_cons_cons, List.zip_nil_right, List.mem_cons, List.mem_nil_iff, or_false] at hy
    rcases hy with rfl | rfl | rfl | rfl | rfl | rfl | rfl | rfl | rfl | rfl
    · exact ⟨pin_laid_unicode_utf8_first, by kernel_rfl⟩
    · cases _e
    · exact ⟨pin_laid_unicode_CaseRanges, by kernel_rfl⟩
    · cases _e
    · cases _e
    · cases _e
    · cases _e
    · cases _e
    · cases _e
    · cases _e) fits1
end Go.Proofs.YtpmbddooibgnaaaGreatDoor
