/- parts -/
import Derived.Test.YtbfjgkafmlbpcaaGreatDoorT1
import Derived.Test.YtbfjgkafmlbpcaaGreatDoorRows
import Derived.LaidByTextLater
import Derived.SevenTiedAt
import Derived.Lib.LaidIn
set_option maxRecDepth 100000
set_option maxHeartbeats 8000000
set_option linter.all false
namespace Go.Proofs.YtbfjgkafmlbpcaaGreatDoor
open Go
theorem Me {P:Program}{w:World}{l:List (String×DataW Unit)}(B:List Nat)(fuel:Nat)(h:(DataW.laidRun P w fuel (l.map (·.1))).map (fun x=>(x.1,nodupB (x.2.map MemPlace.codeOf) && laidRowsB P w x.2 && x.2.all fun p=>B.contains p.block))=some (l,true)):LaidIn P w l B:=by
 cases hx:DataW.laidRun P w fuel (l.map (·.1)) with
 |none=>rw[hx] at h;cases h
 |some x=>
  rw[hx] at h
  simp only[fC,BD,uY,dU] at h
  obtain⟨h1,⟨h2,h3⟩,h4⟩:=h
  exact LaidIn.of_run B fuel (by rw[hx,<-h1];rfl) (by rw[hx,fC,h2]) (by rw[hx,fC,h3]) (by rw[hx,fC,h4])
theorem RY {P:Program}{laid:List (String×DataW Unit)}{kinds:List LaidKind}{tests:Bool}(n:Nat)
  (hw:P.worded (varsWordLater tests)=true) (hw':P.worded (varsWordLater !tests)=false) (hroot:P.worded rootWordLater=true) (hk:laid.map (fun x=>P.kindOfLater x.1)=kinds.map some)
  (hg:(P.funcNamed "gosem.cut.vars").isSome=true) (hn:varsNamedLaterB P (varsId P) laid=true) (hd:∀os tape,varsDone P n (varsId P) os tape=true)
  (hin:∀os tape,∃B,LaidIn P (varsWorld P n (varsId P) os tape).memory laid B) (hp:(laid.all fun x=>x.2.handleName?.isNone)=true):P.laidByTextLater laid kinds tests:=by
 unfold varsNamedLaterB at hn
 cases hc:(P.funcs[varsId P]?).bind (·.body) with
 |none=>simp[hc] at hn
 |some code=>
  cases hs:code.laysInOrder [] with
  |none=>simp[hc,hs] at hn
  |some stored=>
  simp only[hc,hs,dU] at hn
  refine⟨⟨hw,hw',hroot,hk⟩,varsId P,code,stored,varsId_spec hg,hc,⟨hs,hn.1.1,hn.1.2⟩,hn.2,fun os tape _=> ?_⟩
  have d:=hd os tape
  obtain⟨B,m⟩:=hin os tape
  have m:=m.met
  unfold varsDone at d
  unfold varsWorld at m
  cases hr:runN P n (Machine.entering P (World.unlaid P os) tape (varsId P) ⟨#[],#[],[]⟩) with
  |next mm=>simp[hr] at d
  |ended o w=>
   cases o with
   |done v=>simp only[hr] at m;exact⟨n,v,w,hr,by rw[MakeChecks.laidMetH_plain _ _ _ hp];exact m⟩
   |_=>simp[hr] at d
def Mh:List (String×DataW Unit):=[("unicode/utf8.acceptRanges",Rows.laid_unicode_utf8_acceptRanges),("unicode.asciiFold",Rows.laid_unicode_asciiFold)]
def EJ:List (String×DataW Unit):=[("unicode.caseOrbit",Rows.laid_unicode_caseOrbit)]
def Mg:List (String×DataW Unit):=[("strconv.ErrSyntax",Rows.laid_strconv_ErrSyntax),("strconv.ErrRange",Rows.laid_strconv_ErrRange)]
def Mf:List (String×DataW Unit):=[("internal/strconv.uint64pow10",Rows.laid_internal_strconv_uint64pow10),("math/bits.deBruijn32tab",Rows.laid_math_bits_deBruijn32tab),("math/bits.deBruijn64tab",Rows.laid_math_bits_deBruijn64tab)]
theorem TH:Tryz.prog.worded (varsWordLater true)=true:=by kernel_rfl
theorem TG:Tryz.prog.worded (varsWordLater !true)=false:=by kernel_rfl
theorem TF:Tryz.prog.worded rootWordLater=true:=by kernel_rfl
theorem TD:(Mh++(EJ++(Mg++Mf))).map (fun x=>Tryz.prog.kindOfLater x.1)=([.data,.data,.data,.sentinel,.sentinel,.data,.data,.data]:List LaidKind).map some:=by kernel_rfl
theorem TB:(Tryz.prog.funcNamed "gosem.cut.vars").isSome=true:=by kernel_rfl
theorem TA:varsNamedLaterB Tryz.prog (varsId Tryz.prog) (Mh++(EJ++(Mg++Mf)))=true:=by kernel_rfl
theorem Tz:∀os tape,varsDone Tryz.prog 400 (varsId Tryz.prog) os tape=true:=fun _ _=>by kernel_rfl
theorem RX (os:Os)(tape:Tape):(DataW.laidRun Tryz.prog (varsWorld Tryz.prog 400 (varsId Tryz.prog) os tape).memory 8 (Mh.map (·.1))).map (fun x=>(x.1,nodupB (x.2.map MemPlace.codeOf) && laidRowsB Tryz.prog (varsWorld Tryz.prog 400 (varsId Tryz.prog) os tape).memory x.2 && x.2.all fun p=>([1,3]:List Nat).contains p.block))=some (Mh,true):=by kernel_rfl
theorem R5 (os:Os)(tape:Tape):(DataW.laidRun Tryz.prog (varsWorld Tryz.prog 400 (varsId Tryz.prog) os tape).memory 8 (EJ.map (·.1))).map (·.1)=some EJ:=by kernel_rfl
theorem R4 (os:Os)(tape:Tape):(DataW.laidRun Tryz.prog (varsWorld Tryz.prog 400 (varsId Tryz.prog) os tape).memory 8 (EJ.map (·.1))).map (fun x=>nodupB (x.2.map MemPlace.codeOf))=some true:=by kernel_rfl
theorem R3 (os:Os)(tape:Tape):(DataW.laidRun Tryz.prog (varsWorld Tryz.prog 400 (varsId Tryz.prog) os tape).memory 8 (EJ.map (·.1))).map (fun x=>laidRowsB Tryz.prog (varsWorld Tryz.prog 400 (varsId Tryz.prog) os tape).memory x.2)=some true:=by kernel_rfl
theorem RZ (os:Os)(tape:Tape):(DataW.laidRun Tryz.prog (varsWorld Tryz.prog 400 (varsId Tryz.prog) os tape).memory 8 (EJ.map (·.1))).map (fun x=>x.2.all fun p=>([4,(World.unlaid Tryz.prog os).heap.size+2]:List Nat).contains p.block)=some true:=by kernel_rfl
theorem RV (os:Os)(tape:Tape):(DataW.laidRun Tryz.prog (varsWorld Tryz.prog 400 (varsId Tryz.prog) os tape).memory 8 (Mg.map (·.1))).map (fun x=>(x.1,nodupB (x.2.map MemPlace.codeOf) && laidRowsB Tryz.prog (varsWorld Tryz.prog 400 (varsId Tryz.prog) os tape).memory x.2 && x.2.all fun p=>([6,7,(World.unlaid Tryz.prog os).heap.size+1,(World.unlaid Tryz.prog os).heap.size+0]:List Nat).contains p.block))=some (Mg,true):=by kernel_rfl
theorem RU (os:Os)(tape:Tape):(DataW.laidRun Tryz.prog (varsWorld Tryz.prog 400 (varsId Tryz.prog) os tape).memory 8 (Mf.map (·.1))).map (fun x=>(x.1,nodupB (x.2.map MemPlace.codeOf) && laidRowsB Tryz.prog (varsWorld Tryz.prog 400 (varsId Tryz.prog) os tape).memory x.2 && x.2.all fun p=>([8,9,10]:List Nat).contains p.block))=some (Mf,true):=by kernel_rfl
theorem Ty:Tryz.prog.laidByTextLater (Mh++(EJ++(Mg++Mf))) [.data,.data,.data,.sentinel,.sentinel,.data,.data,.data] true:=
 RY 400 TH TG TF TD TB TA Tz (fun os tape=>⟨_,(Me _ 8 (RX os tape)).append ((LaidIn.of_run _ 8 (R5 os tape) (R4 os tape) (R3 os tape) (RZ os tape)).append ((Me _ 8 (RV os tape)).append (Me _ 8 (RU os tape)) (by kernel_rfl)) (by kernel_rfl)) (by kernel_rfl)⟩) (by kernel_rfl)
theorem oQ:Tryz.pinned.checked.prog.pinnedFits "unicode/utf8.first"=true:=by kernel_rfl
theorem oU:Tryz.pinned.checked.prog.pinnedFits "unicode.CaseRanges"=true:=by kernel_rfl
theorem Fq:Tryz.pinned.checked.prog.headLifts.contains "ownunsafe"=false:=by kernel_rfl
theorem SA:Tryz.pinned.checked.prog.listedFits [("unicode/utf8.first",Rows.laid_unicode_utf8_first),("unicode/utf8.acceptRanges",Rows.laid_unicode_utf8_acceptRanges),("unicode.asciiFold",Rows.laid_unicode_asciiFold),("unicode.caseOrbit",Rows.laid_unicode_caseOrbit),("unicode.CaseRanges",Rows.laid_unicode_CaseRanges),("strconv.ErrSyntax",Rows.laid_strconv_ErrSyntax),("strconv.ErrRange",Rows.laid_strconv_ErrRange),("internal/strconv.uint64pow10",Rows.laid_internal_strconv_uint64pow10),("math/bits.deBruijn32tab",Rows.laid_math_bits_deBruijn32tab),("math/bits.deBruijn64tab",Rows.laid_math_bits_deBruijn64tab)]=true:=by
 unfold Program.listedFits
 rw[Fq]
 kernel_rfl
theorem Dv:Rows.treeNoneRow.laidByTextAt .later Tryz.pinned [.pinned,.data,.data,.data,.pinned,.sentinel,.sentinel,.data,.data,.data] true:=
 OpenClaim.laidByTextAt_pinned rfl rfl Ty rfl rfl rfl rfl (fun y hy _e=>by
  simp only[Rows.treeNoneRow,List.zip_cons_cons,List.zip_nil_right,bM,List.mem_nil_iff,zn] at hy
  rcases hy with rfl|rfl|rfl|rfl|rfl|rfl|rfl|rfl|rfl|rfl
  ·exact⟨oQ,by kernel_rfl⟩
  ·cases _e
  ·cases _e
  ·cases _e
  ·exact⟨oU,by kernel_rfl⟩
  ·cases _e
  ·cases _e
  ·cases _e
  ·cases _e
  ·cases _e) SA
end Go.Proofs.YtbfjgkafmlbpcaaGreatDoor
