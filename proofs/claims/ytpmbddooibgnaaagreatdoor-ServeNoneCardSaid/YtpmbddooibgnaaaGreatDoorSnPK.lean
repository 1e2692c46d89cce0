/- ServeNone: what a call's world holds. The operation:, the call returns true; the input reads as it did. -/
import Derived.Test.YtpmbddooibgnaaaGreatDoorSQ
import Derived.Test.YtpmbddooibgnaaaGreatDoorRows
import Derived.Deep.Strs
import Derived.Lib.SmallJoins
import Derived.Lib.LaidU8T
import Derived.ProofKit
import Derived.LaidLaws
import Derived.Lay
import Derived.MakeChecks
import Derived.ChangeSame
import Derived.ChangeVars
import Derived.JoinedOf
import Derived.RowKitTokens
import Derived.Handed
import Derived.HandedShaped
import Derived.Shelf.Vars
set_option maxRecDepth 100000
set_option maxHeartbeats 8000000
set_option linter.all false
namespace Go.Proofs.YtpmbddooibgnaaaGreatDoor
open Go.RowKit Go.ChangeShapes Go.WideShapes Go.ChangeAt Go.Joins Go.Deep Go.Shelf Go.Lib
theorem JM {H:Type}{enc:TypeId×Value->H}{W:World}{fuel:Nat}{cs:List Value}{x:DataW H×List MemPlace}(h:DataW.trod enc Tryz.prog W 0 (fun _=>true) true fuel 23 cs=some x):
  ∃(kd cn nw:Int) (data draw:ByteArray),cs=[.int .u8 kd,.int .i64 cn,.string data,.string draw,.int .u8 nw]:=by
 obtain⟨xs,n,_,rfl,hl,hlen,hf⟩:=DataW.trod_struct Tryz.underlying23 h
 have h5:Tryz.prog.cellsOf 23=5:=by kernel_rfl
 have c5:Tryz.prog.cellsOf 5=1:=by kernel_rfl
 have c9:Tryz.prog.cellsOf 9=1:=by kernel_rfl
 have c3:Tryz.prog.cellsOf 3=1:=by kernel_rfl
 rw[h5] at hl
 match xs,hlen,cs,hl with
 |[y0,y1,y2,y3,y4],_,[v0,v1,v2,v3,v4],_=>
  have g0:=hf 0 _ rfl
  have g1:=hf 1 _ rfl
  have g2:=hf 2 _ rfl
  have g3:=hf 3 _ rfl
  have g4:=hf 4 _ rfl
  simp[c5,c9,c3] at g0 g1 g2 g3 g4
  obtain⟨z0,e0,_,_⟩:=DataW.trod_int dx g0
  obtain⟨z1,e1,_,_⟩:=DataW.trod_int bS g1
  obtain⟨b2,e2,_,_⟩:=DataW.trod_string bf g2
  obtain⟨b3,e3,_,_⟩:=DataW.trod_string bf g3
  obtain⟨z4,e4,_,_⟩:=DataW.trod_int dx g4
  simp at e0 e1 e2 e3 e4
  subst e0 e1 e2 e3 e4
  exact⟨_,_,_,_,_,rfl⟩
theorem Ra:Rows.serveNoneRow.laid=("unicode/utf8.first",Lib.firstData)::("unicode/utf8.acceptRanges",Lib.acceptData)::Rows.serveNoneRow.laid.drop 2:=by kernel_rfl
theorem Oy:∃A B,Rows.serveNoneRow.laid=A++("internal/strconv.uint64pow10",Lib.tabData .u64 Lib.pow10Tab)::B:=⟨Rows.serveNoneRow.laid.take 5,Rows.serveNoneRow.laid.drop 6,by kernel_rfl⟩
theorem Qu {W:World}(h:laidMetH Tryz.prog Rows.serveNoneRow.laid W):kQ W:=by
 rw[MakeChecks.laidMetH_plain _ _ _ (by kernel_rfl),Ra] at h
 exact utf8Tabs_of_readsT (U8Types.of196 FH) ⟨by kernel_rfl,by kernel_rfl,by kernel_rfl,by kernel_rfl,by kernel_rfl,by kernel_rfl,by kernel_rfl⟩ (Lib.laidMet.reads h (.head _)) (Lib.laidMet.reads h (.tail _ (.head _)))
theorem Sn {W:World}(h:laidMetH Tryz.prog Rows.serveNoneRow.laid W):qB W:=by
 rw[MakeChecks.laidMetH_plain _ _ _ (by kernel_rfl)] at h
 obtain⟨A,B,e⟩:=Oy
 rw[e] at h
 obtain⟨g',t',cs,fuel,p,hg',ht',hvar,hd⟩:=Lib.laidMet.reads h (bX _ (.head _))
 obtain rfl:=fU (za.symm.trans hg')
 have hty:(Tryz.prog.globals[2]?).map (·.type)=some 558:=by kernel_rfl
 obtain rfl:=fU (hty.symm.trans ht')
 unfold qB Lib.TabIs
 rw[hvar,<-Lib.cells_of_tab Fq nY (by kernel_rfl) (by kernel_rfl) hd]
theorem Q5 {W:World}(h:W.ShapedOpen Tryz.prog):jZ W:=
 Go.Proofs.cell_of_shapedOpen_int (t:=3) (zero:=#[.int .i64 0]) h (aR (by kernel_rfl)) (by kernel_rfl) rfl (by kernel_rfl) (by kernel_rfl) (by kernel_rfl)
theorem vG {H:Type}{enc:TypeId×Value->H}{a:Assume}{C:Checked}{os:Os}{f:FuncId}{fn:Func}{s:ChangeSpec}{conds:List PathCond}{apart fresh handsOn again:Bool}{X:World->Array Value->Prop}
  (hX:∀(w w':World) (args:Array Value),w.heap=w'.heap->X w args->X w' args)
  (own:ownKnob C.prog.godebug=none) (started:os.Started) (noInit:C.prog.inits.idxOf? f=none) (hfn:C.prog.funcs[f]? =some fn)
  (witness:∃(w:World) (tape:Tape) (i:Input),w.os=os/\(w.forCall tape i).Shaped C.prog/\i.vars=[]/\Input.okWide C.prog (w.forCall tape i) .any w.heap.size f i/\
   ((s.pre enc C.prog fn conds apart (w.forCall tape i).memory i.args/\X (w.forCall tape i).memory i.args)/\sizedMet enc C.prog fn (OpenSpec.ofChange s) apart (w.forCall tape i).memory i.args)/\a.holds C.prog (lone (Frame.enter C.prog f i.args .normal) [] (w.forCall tape i)))
  (contract:∀(W:World) (base:Nat) (args:Array Value) (ds gs:List (DataW H)) (before:List MemPlace),
   (∀(j:Nat) t v,fn.params[j]? =some t->args[j]? =some v->Value.okWide C.prog W .any base t v)->
   DataW.Whole enc C.prog fn.params.toList s.vars apart W args.toList ds gs before->
   conds.all (PathCond.test C.prog ⟨fn.params.toList,ds,s.plain.varTypes C.prog,gs⟩)=true->
   (DataW.weightsEach C.prog (fn.params.toList++s.plain.varTypes C.prog) (ds++gs)).all (·<=reachBytes)=true->X W args->W.ShapedOpen C.prog->
   a.holds C.prog (lone (Frame.enter C.prog f args .normal) [] W)->
   Calls C.prog f args W fun e W'=>∃v,e= .returned v/\s.post enc C.prog fn apart fresh handsOn again W args v W'):
  ReturnsInHanded a C os f .any (fun w args=>(s.pre enc C.prog fn conds apart w args/\X w args)/\sizedMet enc C.prog fn (OpenSpec.ofChange s) apart w args) (s.post enc C.prog fn apart fresh handsOn again):=by
 refine returnsInHanded_of_calls own started noInit witness ?_
 intro w tape i _ hsh _ hok hpre hholds
 obtain⟨_,_,_,fn',hfn',_,_,_,_,hval⟩:=hok
 have e:fn'=fn:=fU (hfn'.symm.trans hfn)
 subst e
 obtain⟨⟨⟨ds,gs,before,hw,hc⟩,hx⟩,hz⟩:=hpre
 have hw':=DataW.Whole.of_heap (w':=w.forCall tape i) (by rfl) hw
 refine(contract (w.forCall tape i) w.heap.size i.args ds gs before hval hw' hc (hz.weights hw) (hX _ _ _ (by rfl) hx) hsh hholds).mono fun e W' ⟨v,he,hp⟩=> ?_
 subst he
 exact ChangeSpec.post_blind hp
theorem Jq (kd cn nw:Int)(data draw:ByteArray)(w:World)(hT:kQ w)(hm:jZ w)(hw:qB w):
  Calls Tryz.prog 3 #[.agg #[.int .u8 kd,.int .i64 cn,.string data,.string draw,.int .u8 nw]] w fun e w'=>e= .returned (.bool true)/\Below w.heap.size w w':=F6 kd cn nw data draw w hT hm hw
end Go.Proofs.YtpmbddooibgnaaaGreatDoor
