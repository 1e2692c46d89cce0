/- WorldTicks: what a call's world holds. -/
import Derived.Test.YtpmbddooibgnaaaGreatDoorNR
import Derived.Test.YtpmbddooibgnaaaGreatDoorRows
import Derived.ChangeSlices
import Derived.Deep.Strs
import Derived.Lib.SmallJoins
import Derived.Lib.LaidU8T
import Derived.ProofKit
import Derived.LaidLaws
import Derived.Lay
import Derived.MakeChecks
import Derived.ChangeSame
import Derived.ChangeVars
import Derived.JoinedOf
import Derived.RowKitTokens
import Derived.Handed
import Derived.HandedShaped
import Derived.Shelf.Vars
set_option maxRecDepth 100000
set_option maxHeartbeats 8000000
set_option linter.all false
namespace Go.Proofs.YtpmbddooibgnaaaGreatDoor
open Go.RowKit Go.ChangeShapes Go.WideShapes Go.ChangeAt Go.Joins Go.Deep Go.Shelf Go.Lib
theorem addr_add {b o:Nat}(k:Nat):(⟨b,o,none⟩:Addr).add k=⟨b,o+k,none⟩:=by
 unfold Addr.add
 split
 ·rename_i h;subst h;rfl
 ·rfl
theorem MO {H:Type}{m:TypeId×Value->H}{W:World}{g:Nat}{s:List Value}{x:DataW H×List MemPlace}(h:DataW.trod m Tryz.prog W 0 (fun _=>true) true g 39 s=some x):
  ∃(r:Option Addr) (B:Nat) (l:List Int),s=[.slice r l.length B]/\∀k (_:k<l.length),∃b o,r=some ⟨b,o,none⟩/\W.cell? ⟨b,o+k,none⟩=some (.int .i64 l[k]):=by
 rcases open_ints dR bV (by kernel_rfl) h with ⟨rfl,_⟩|⟨a,d,j,p,rfl,_,C,_,t,_,v,_⟩
 ·exact⟨none,0,[],rfl,fun k q=>absurd q (oF _)⟩
 ·have t:p.length=j:=t
  have i:(p.take d).length=d:=by rw[aQ];omega
  refine⟨some a,j,p.take d,by rw[i],fun k q=> ?_⟩
  rw[i] at q
  have c:=v k (by omega)
  have y:=World.cell?_spot c
  have z:a.spot=none\/k≠0:=by
   by_cases e:k=0
   ·subst e;exact .inl (by simpa [Addr.add] using y)
   ·exact .inr e
  have n:=World.cell?_spot (v 0 (by omega))
  have f:a.spot=none:=by simpa [Addr.add] using n
  obtain⟨b,o,A⟩:=a
  have f:A=none:=f
  subst f
  rw[addr_add] at c
  refine⟨b,o,rfl,c.trans ?_⟩
  congr 2
  rw[ul]
  rw[fE,bB (by omega)]
  rfl
theorem JU:Rows.worldTicksRow.laid=("unicode/utf8.first",Lib.firstData)::("unicode/utf8.acceptRanges",Lib.acceptData)::Rows.worldTicksRow.laid.drop 2:=by kernel_rfl
theorem EK:∃A B,Rows.worldTicksRow.laid=A++("internal/strconv.uint64pow10",Lib.tabData .u64 Lib.pow10Tab)::B:=⟨Rows.worldTicksRow.laid.take 5,Rows.worldTicksRow.laid.drop 6,by kernel_rfl⟩
theorem Jl {W:World}(h:laidMetH Tryz.prog Rows.worldTicksRow.laid W):kg W:=by
 rw[MakeChecks.laidMetH_plain _ _ _ (by kernel_rfl),JU] at h
 exact utf8Tabs_of_readsT (U8Types.of196 Eg) ⟨by kernel_rfl,by kernel_rfl,by kernel_rfl,by kernel_rfl,by kernel_rfl,by kernel_rfl,by kernel_rfl⟩ (Lib.laidMet.reads h (.head _)) (Lib.laidMet.reads h (.tail _ (.head _)))
theorem O8 {W:World}(h:laidMetH Tryz.prog Rows.worldTicksRow.laid W):mZ W:=by
 rw[MakeChecks.laidMetH_plain _ _ _ (by kernel_rfl)] at h
 obtain⟨A,B,e⟩:=EK
 rw[e] at h
 obtain⟨j,i,k,f,p,d,c,a,g⟩:=Lib.laidMet.reads h (cB _ (.head _))
 obtain rfl:=dN (xY.symm.trans d)
 have b:(Tryz.prog.globals[2]?).map (·.type)=some 558:=by kernel_rfl
 obtain rfl:=dN (b.symm.trans c)
 unfold mZ Lib.TabIs
 rw[a,<-Lib.cells_of_tab wK nu (by kernel_rfl) (by kernel_rfl) g]
theorem JO {W:World}(h:W.ShapedOpen Tryz.prog):jV W:=
 Go.Proofs.cell_of_shapedOpen_int (t:=3) (zero:=#[.int .i64 0]) h (bF (by kernel_rfl)) (by kernel_rfl) rfl (by kernel_rfl) (by kernel_rfl) (by kernel_rfl)
theorem oh {H:Type}{l:TypeId×Value->H}{a:Assume}{C:Checked}{O:Os}{f:FuncId}{o:Func}{s:ChangeSpec}{m:List PathCond}{c x k q:Bool}{X:World->Array Value->Prop}
  (V:∀(w w':World) (b:Array Value),w.heap=w'.heap->X w b->X w' b)
  (N:ownKnob C.prog.godebug=none) (p:O.Started) (z:C.prog.inits.idxOf? f=none) (P:C.prog.funcs[f]? =some o)
  (r:∃(w:World) (d:Tape) (i:Input),w.os=O/\(w.forCall d i).Shaped C.prog/\i.vars=[]/\Input.okWide C.prog (w.forCall d i) .any w.heap.size f i/\
   ((s.pre l C.prog o m c (w.forCall d i).memory i.args/\X (w.forCall d i).memory i.args)/\sizedMet l C.prog o (OpenSpec.ofChange s) c (w.forCall d i).memory i.args)/\a.holds C.prog (lone (Frame.enter C.prog f i.args .normal) [] (w.forCall d i)))
  (n:∀(W:World) (A:Nat) (b:Array Value) (D E:List (DataW H)) (g:List MemPlace),
   (∀(j:Nat) t v,o.params[j]? =some t->b[j]? =some v->Value.okWide C.prog W .any A t v)->
   DataW.Whole l C.prog o.params.toList s.vars c W b.toList D E g->
   m.all (PathCond.test C.prog ⟨o.params.toList,D,s.plain.varTypes C.prog,E⟩)=true->
   (DataW.weightsEach C.prog (o.params.toList++s.plain.varTypes C.prog) (D++E)).all (·<=reachBytes)=true->X W b->W.ShapedOpen C.prog->
   a.holds C.prog (lone (Frame.enter C.prog f b .normal) [] W)->
   Calls C.prog f b W fun e R=>∃v,e= .returned v/\s.post l C.prog o c x k q W b v R):
  ReturnsInHanded a C O f .any (fun w b=>(s.pre l C.prog o m c w b/\X w b)/\sizedMet l C.prog o (OpenSpec.ofChange s) c w b) (s.post l C.prog o c x k q):=by
 refine returnsInHanded_of_calls N p z r ?_
 intro w d i _ J _ M F y
 obtain⟨_,_,_,I,B,_,_,_,_,G⟩:=M
 have e:I=o:=dN (B.symm.trans P)
 subst e
 obtain⟨⟨⟨D,E,g,Q,hc⟩,T⟩,Z⟩:=F
 have K:=DataW.Whole.of_heap (w':=w.forCall d i) (by rfl) Q
 refine(n (w.forCall d i) w.heap.size i.args D E g G K hc (Z.weights Q) (V _ _ _ (by rfl) T) J y).mono fun e R ⟨v,S,Y⟩=> ?_
 subst S
 exact ChangeSpec.post_blind Y
theorem EI (c:Option Addr)(f:Nat)(a:List Int)(d:Bool)(w:World)(i:∀k (h:k<a.length),∃b o,c=some ⟨b,o,none⟩/\w.cell? ⟨b,o+k,none⟩=some (.int .i64 a[k]))(j:kg w/\jV w/\mZ w):
  Calls Tryz.prog 4 #[.slice c a.length f,.bool d] w fun e g=>e= .returned (.bool true)/\Below w.heap.size w g:=Aq c f a d w i j
end Go.Proofs.YtpmbddooibgnaaaGreatDoor
