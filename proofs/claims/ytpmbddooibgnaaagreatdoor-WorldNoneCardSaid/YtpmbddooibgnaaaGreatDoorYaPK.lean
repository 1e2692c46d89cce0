/- WorldNone: what a call's world holds. -/
import Derived.Test.YtpmbddooibgnaaaGreatDoorNQ
import Derived.Test.YtpmbddooibgnaaaGreatDoorRows
import Derived.Deep.Strs
import Derived.Lib.SmallJoins
import Derived.Lib.LaidU8T
import Derived.ProofKit
import Derived.LaidLaws
import Derived.Lay
import Derived.MakeChecks
import Derived.ChangeSame
import Derived.ChangeVars
import Derived.JoinedOf
import Derived.RowKitTokens
import Derived.Handed
import Derived.HandedShaped
import Derived.Shelf.Vars
set_option maxRecDepth 100000
set_option maxHeartbeats 8000000
set_option linter.all false
namespace Go.Proofs.YtpmbddooibgnaaaGreatDoor
open Go.RowKit Go.ChangeShapes Go.WideShapes Go.ChangeAt Go.Joins Go.Deep Go.Shelf Go.Lib
theorem ML {H:Type}{f:TypeId×Value->H}{W:World}{a:Nat}{g:List Value}{x:DataW H×List MemPlace}(h:DataW.trod f Tryz.prog W 0 (fun _=>true) true a 49 g=some x):
  ∃(k c n:Int) (d:ByteArray) (u v:Value),g=[.int .i64 k,.int .i64 c,.string d,.int .i64 n,u,v]:=by
 obtain⟨z,n,_,rfl,l,b,e⟩:=DataW.trod_struct Tryz.underlying49 h
 have A:Tryz.prog.cellsOf 49=6:=by kernel_rfl
 have y:Tryz.prog.cellsOf 9=1:=by kernel_rfl
 have t:Tryz.prog.cellsOf 3=1:=by kernel_rfl
 rw[A] at l
 match z,b,g,l with
 |[B,D,M,N,E,C],_,[O,J,Q,R,S,G],_=>
  have s:=e 0 _ rfl
  have i:=e 1 _ rfl
  have p:=e 2 _ rfl
  have q:=e 3 _ rfl
  simp[y,t] at s i p q
  obtain⟨I,r,_,_⟩:=DataW.trod_int bV s
  obtain⟨P,o,_,_⟩:=DataW.trod_int bV i
  obtain⟨K,m,_,_⟩:=DataW.trod_string bH p
  obtain⟨F,j,_,_⟩:=DataW.trod_int bV q
  simp at r o m j
  subst r o m j
  exact⟨_,_,_,_,_,_,rfl⟩
theorem JU:Rows.worldNoneRow.laid=("unicode/utf8.first",Lib.firstData)::("unicode/utf8.acceptRanges",Lib.acceptData)::Rows.worldNoneRow.laid.drop 2:=by kernel_rfl
theorem EK:∃A B,Rows.worldNoneRow.laid=A++("internal/strconv.uint64pow10",Lib.tabData .u64 Lib.pow10Tab)::B:=⟨Rows.worldNoneRow.laid.take 5,Rows.worldNoneRow.laid.drop 6,by kernel_rfl⟩
theorem Jl {W:World}(h:laidMetH Tryz.prog Rows.worldNoneRow.laid W):kg W:=by
 rw[MakeChecks.laidMetH_plain _ _ _ (by kernel_rfl),JU] at h
 exact utf8Tabs_of_readsT (U8Types.of196 Eg) ⟨by kernel_rfl,by kernel_rfl,by kernel_rfl,by kernel_rfl,by kernel_rfl,by kernel_rfl,by kernel_rfl⟩ (Lib.laidMet.reads h (.head _)) (Lib.laidMet.reads h (.tail _ (.head _)))
theorem O8 {W:World}(h:laidMetH Tryz.prog Rows.worldNoneRow.laid W):mZ W:=by
 rw[MakeChecks.laidMetH_plain _ _ _ (by kernel_rfl)] at h
 obtain⟨A,B,e⟩:=EK
 rw[e] at h
 obtain⟨j,i,k,f,p,d,c,a,g⟩:=Lib.laidMet.reads h (cB _ (.head _))
 obtain rfl:=dN (xY.symm.trans d)
 have b:(Tryz.prog.globals[2]?).map (·.type)=some 558:=by kernel_rfl
 obtain rfl:=dN (b.symm.trans c)
 unfold mZ Lib.TabIs
 rw[a,<-Lib.cells_of_tab wK nu (by kernel_rfl) (by kernel_rfl) g]
theorem JO {W:World}(h:W.ShapedOpen Tryz.prog):jV W:=
 Go.Proofs.cell_of_shapedOpen_int (t:=3) (zero:=#[.int .i64 0]) h (bF (by kernel_rfl)) (by kernel_rfl) rfl (by kernel_rfl) (by kernel_rfl) (by kernel_rfl)
theorem oh {H:Type}{l:TypeId×Value->H}{a:Assume}{C:Checked}{O:Os}{f:FuncId}{o:Func}{s:ChangeSpec}{m:List PathCond}{c x k q:Bool}{X:World->Array Value->Prop}
  (V:∀(w w':World) (b:Array Value),w.heap=w'.heap->X w b->X w' b)
  (N:ownKnob C.prog.godebug=none) (p:O.Started) (z:C.prog.inits.idxOf? f=none) (P:C.prog.funcs[f]? =some o)
  (r:∃(w:World) (d:Tape) (i:Input),w.os=O/\(w.forCall d i).Shaped C.prog/\i.vars=[]/\Input.okWide C.prog (w.forCall d i) .any w.heap.size f i/\
   ((s.pre l C.prog o m c (w.forCall d i).memory i.args/\X (w.forCall d i).memory i.args)/\sizedMet l C.prog o (OpenSpec.ofChange s) c (w.forCall d i).memory i.args)/\a.holds C.prog (lone (Frame.enter C.prog f i.args .normal) [] (w.forCall d i)))
  (n:∀(W:World) (A:Nat) (b:Array Value) (D E:List (DataW H)) (g:List MemPlace),
   (∀(j:Nat) t v,o.params[j]? =some t->b[j]? =some v->Value.okWide C.prog W .any A t v)->
   DataW.Whole l C.prog o.params.toList s.vars c W b.toList D E g->
   m.all (PathCond.test C.prog ⟨o.params.toList,D,s.plain.varTypes C.prog,E⟩)=true->
   (DataW.weightsEach C.prog (o.params.toList++s.plain.varTypes C.prog) (D++E)).all (·<=reachBytes)=true->X W b->W.ShapedOpen C.prog->
   a.holds C.prog (lone (Frame.enter C.prog f b .normal) [] W)->
   Calls C.prog f b W fun e R=>∃v,e= .returned v/\s.post l C.prog o c x k q W b v R):
  ReturnsInHanded a C O f .any (fun w b=>(s.pre l C.prog o m c w b/\X w b)/\sizedMet l C.prog o (OpenSpec.ofChange s) c w b) (s.post l C.prog o c x k q):=by
 refine returnsInHanded_of_calls N p z r ?_
 intro w d i _ J _ M F y
 obtain⟨_,_,_,I,B,_,_,_,_,G⟩:=M
 have e:I=o:=dN (B.symm.trans P)
 subst e
 obtain⟨⟨⟨D,E,g,Q,hc⟩,T⟩,Z⟩:=F
 have K:=DataW.Whole.of_heap (w':=w.forCall d i) (by rfl) Q
 refine(n (w.forCall d i) w.heap.size i.args D E g G K hc (Z.weights Q) (V _ _ _ (by rfl) T) J y).mono fun e R ⟨v,S,Y⟩=> ?_
 subst S
 exact ChangeSpec.post_blind Y
theorem EI (k c n:Int)(a:ByteArray)(b d:Value)(w:World)(g:kg w/\jV w/\mZ w):
  Calls Tryz.prog 5 #[.agg #[.int .i64 k,.int .i64 c,.string a,.int .i64 n,b,d]] w fun e f=>e= .returned (.bool true)/\Below w.heap.size w f:=Ba k c n a b d w g
end Go.Proofs.YtpmbddooibgnaaaGreatDoor
