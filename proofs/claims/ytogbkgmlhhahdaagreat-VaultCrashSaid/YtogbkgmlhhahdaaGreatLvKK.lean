/- VaultCrash: whatever the input, the call returns true; the input reads as it did. No condition. -/
import Derived.Test.YtogbkgmlhhahdaaGreatRows
import Derived.Test.YtogbkgmlhhahdaaGreatTC
import Derived.Deep.Slices
import Derived.ProofKit
import Derived.Lib.SmallJoins
set_option maxRecDepth 100000
set_option maxHeartbeats 0
set_option linter.all false
namespace Go.Proofs.YtogbkgmlhhahdaaGreat
open Go.RowKit Go.ChangeShapes Go.WideShapes Go.ChangeAt Go.Joins Go.Deep
variable{H:Type}{W:World}
def Fw:laidOutB Tryz.prog=true:=by kernel_rfl
def Ot:ownKnob Tryz.prog.godebug=none:=by kernel_rfl
def QS {p:TypeId×Value->H}{e:Nat}{s:List Value}{x:DataW H×List MemPlace}(h:DataW.trod p Tryz.prog W 0 (fun _=>true) true e 60 s=some x):
  ∃v E,s=[v]/\Bj W gB v E:=by
 have q:Tryz.prog.cellsOf 4=1:=by kernel_rfl
 rcases open_slice1 Tryz.underlying60 q h with ⟨rfl,_⟩|⟨a,c,l,m,n,V,D,N,rfl,K,z,J,g,rfl,I⟩
 ·exact⟨_,[],rfl,Bj.nil _ _⟩
 ·have F:c<=m:=by rw[g];simp;exact z
  have d:∀i,i<c->∃b:Bool,(a.add i).spot=none/\W.cell? (a.add i)=some (.bool b):=fun i M=>by
   obtain⟨k,C⟩:=I i (by omega);obtain⟨b,r,_⟩:=DataW.trod_bool Cn C;simp at r;rw[r] at k;exact⟨b,Kn k,k⟩
  obtain⟨f,t⟩:=choose_lt d;refine⟨_,(List.range c).map f,rfl,some a,l,by simp,by simpa using z,J,fun j A=> ?_⟩;simp at A;obtain⟨b,o,B⟩:=a;have G:B=none:=(t 0 (by omega)).1;subst G;obtain⟨_,y⟩:=t j A;rw[dU] at y;exact⟨b,o,rfl,by simpa using y,id⟩
def TB {s:TypeId×Value->H}{g:Nat}{y:List Value}{x:DataW H×List MemPlace}(h:DataW.trod s Tryz.prog W 0 (fun _=>true) true g 70 y=some x):
  ∃E p,∃d:List Int,y=[.slice E d.length p]/\(d.length<=p/\p<=9223372036854775807)/\∀j (h:j<d.length),∃b o,E=some ⟨b,o,none⟩/\W.cell? ⟨b,o+j,none⟩=some (.int .u8 d[j])/\0<=d[j]/\d[j]<=255:=by
 have t:Tryz.prog.cellsOf 5=1:=by kernel_rfl
 rcases open_slice1 bG t h with ⟨rfl,_⟩|⟨a,c,q,m,n,V,D,S,rfl,Q,C,O,k,rfl,N⟩
 ·exact⟨none,0,[],rfl,⟨aD _,aS _⟩,fun j h=>by simp at h⟩
 ·have K:c<=m:=by rw[k];simp;exact C
  have e:∀i,i<c->∃z:Int,(a.add i).spot=none/\W.cell? (a.add i)=some (.int .u8 z)/\0<=z/\z<=255:=fun i R=>by
   obtain⟨l,I⟩:=N i (by omega);obtain⟨z,v,_,r⟩:=xC kX I;simp at v;rw[v] at l;simp only[Lit.wf,dG,eB] at r;exact⟨z,Kn l,l,og (by decide) r.1,og r.2 (by decide)⟩
  obtain⟨f,A⟩:=choose_lt e;refine⟨some a,q,(List.range c).map f,by simp,⟨by simpa using C,by simpa [maxLen] using O⟩,fun j F=> ?_⟩;simp at F;obtain⟨b,o,G⟩:=a;have M:G=none:=(A 0 (by omega)).1;subst M;obtain⟨_,B,J,P⟩:=A j F;rw[dU] at B;exact⟨b,o,rfl,by simpa using B,by simpa using J,by simpa using P⟩
def Ov {l:TypeId×Value->H}{w:World}{n:Nat}{k:List Value}{a:Addr}{D:DataW H}{T:List MemPlace}(P:w.cells? 0 a 4=some k)(M:DataW.trod l Tryz.prog w 0 (fun _=>true) true n 72 k=some (D,T)):
  ∃x:Ei,a.spot=none/\x.Ok w/\w.cell? a=some (.slice x.sa x.os.length x.sc)/\w.cell? (a.add 1)=some (.int .u16 x.fu)/\w.cell? (a.add 2)=some (.slice x.ka x.ks.length x.kc)/\w.cell? (a.add 3)=some (.slice x.aa x.ag.length x.ac):=by
 obtain⟨_,f,b⟩:=World.cells?_some P
 match k,f with
 |[v0,v1,v2,v3],_=>
  obtain⟨y0,y1,y2,y3,m,hx,_,z,C,y,G⟩:=Go.Joins.trod_struct4 Tryz.underlying72 M;have c0:Tryz.prog.cellsOf 34=1:=by kernel_rfl
  have R:Tryz.prog.cellsOf 62=1:=by kernel_rfl
  have S:Tryz.prog.cellsOf 60=1:=by kernel_rfl
  have V:Tryz.prog.cellsOf 70=1:=by kernel_rfl
  simp[c0,R,S,V] at z C y G;obtain⟨vo,O,v,c,d,p⟩:=QR z;obtain⟨j,F,_,t⟩:=xC Tryz.underlying62 C;obtain⟨vk,N,A,e⟩:=QS y;obtain⟨W,i,ag,E,g,s⟩:=TB G;simp at v F A E;subst v F A E;obtain⟨Y,Z,rfl,_⟩:=id c;obtain⟨I,X,rfl,_⟩:=id e;have q:=b 0 (by omega);have Q:=b 1 (by omega);have J:=b 2 (by omega);have K:=b 3 (by omega);have r:0<=j/\j<=65535:=by
   simp only[Lit.wf,dG,eB] at t;exact⟨og (by decide) t.1,og t.2 (by decide)⟩
  refine⟨⟨Y,Z,I,X,W,i,j,O,N,ag⟩,?_,⟨c,fun o B=>⟨(d o B).1,(d o B).2.1⟩,p,r,e,g,s⟩,by rw[uj] at q;simpa using q,by simpa using Q,by simpa using J,by simpa using K⟩;have:=Kn (show w.cell? (a.add 0)=some _ from q);rwa [uj] at this
def Ld {l:TypeId×Value->H}{g:Nat}{r:List Value}{x:DataW H×List MemPlace}(h:DataW.trod l Tryz.prog W 0 (fun _=>true) true g 65 r=some x):
  ∃v E,r=[v]/\ND W v E:=by
 rcases open_slice Tryz.underlying65 h with ⟨rfl,_⟩|⟨a,c,k,m,n,D,Q,rfl,O,z,N,j,rfl,M⟩
 ·exact⟨_,[],rfl,none,0,rfl,aD _,aS _,fun i e=>by simp at e⟩
 ·have p:Tryz.prog.cellsOf 72=4:=by kernel_rfl
  have I:c<=m:=by rw[j];simp;exact z
  have d:∀i,i<c->∃x:Ei,(a.add (i*4)).spot=none/\x.Ok W/\W.cell? (a.add (i*4))=some (.slice x.sa x.os.length x.sc)/\W.cell? ((a.add (i*4)).add 1)=some (.int .u16 x.fu)/\W.cell? ((a.add (i*4)).add 2)=some (.slice x.ka x.ks.length x.kc)/\W.cell? ((a.add (i*4)).add 3)=some (.slice x.aa x.ag.length x.ac):=by
   intro i e;obtain⟨G,s,C⟩:=M i (by omega);rw[p] at s;exact Ov s C
  haveI:Inhabited Ei:=⟨⟨none,0,none,0,none,0,0,[],[],[]⟩⟩
  obtain⟨f,y⟩:=choose_lt d;refine⟨_,(List.range c).map f,rfl,some a,k,by simp,by simpa using z,by simpa [maxLen] using N,fun i e=> ?_⟩;simp at e;obtain⟨P,K,F,q,A,t⟩:=y i e;obtain⟨b,o,B⟩:=a;have J:B=none:=by
   have:=(y 0 (by omega)).1;rw[rq,uj] at this;exact this
  subst J;rw[dU] at F q A t;rw[dU] at q A t;refine⟨by simpa using K,b,o,rfl,?_,?_,?_,?_⟩<;>simpa using by assumption
def Ew (J:Os)(a:J.Started)(H:Type)(enc:TypeId×Value->H):
  ReturnsInHanded {} Tryz.checked J 6 .any (Rows.vaultCrashSpec.pre6 enc Tryz.prog Tryz.f6 Rows.vaultCrashRow.domain false) (Rows.vaultCrashSpec.post enc Tryz.prog Tryz.f6 false true false false):=by
 refine returnsInHanded_of_change (C:=Tryz.checked) Ot a (by kernel_rfl) Tryz.func6
  (ChangeSpec.witness6 (enc:=enc) (C:=Tryz.checked) false ⟨#[],#[.agg #[.int .u16 0,.int .u16 0],.slice none 0 0],[]⟩ 8 (by kernel_rfl) (by kernel_rfl) (by kernel_rfl) (by kernel_rfl)) ?_
 intro W i d ds gs o c I Q _;have b:∀(j:Nat) t v,Tryz.f6.params[j]? =some t->d[j]? =some v->Value.okWide Tryz.prog W .any i t v:=c
 have f:=I;obtain⟨p,q,k,hV,rfl,qb,p9⟩:=I;have N:DataW.TrodAll enc Tryz.prog W 0 (fun _=>true) true Tryz.f6.params.toList d.toList ds p:=k;rw[Tryz.params6] at N b;obtain⟨v0,Y,d0,d1,p0,P,rfl,rfl,rfl,G,M⟩:=trodAll_two N;obtain⟨rfl,rfl⟩:=trodVars_none hV;simp only[dM] at f;have g:∀x∈p0++P,x.block<W.heap.size:=fun x l=>by have:=f.lt x (by simpa using l);simpa using this
 have y:=G;have A:=M;obtain⟨c0,c1,y0,V,m,rfl,rfl,rfl,D,r⟩:=open_agg2 Tryz.underlying64 (by kernel_rfl) (by kernel_rfl) (b 0 64 v0 rfl rfl) G;obtain⟨R,F,_,w0⟩:=xC Tryz.underlying62 D;obtain⟨K,n,_,T⟩:=xC Tryz.underlying62 r;simp at F n;subst F n;have O:∀z:Int,(Lit.int .u16 z).wf=true->0<=z/\z<=65535:=fun z B=>by
  simp only[Lit.wf,dG,eB] at B;exact⟨og (by decide) B.1,og B.2 (by decide)⟩
 obtain⟨a0,pM,Z,rfl⟩:=okWide_slice Tryz.underlying65 (b 1 65 Y rfl rfl);obtain⟨S,hf⟩:=M;obtain⟨v,X,n,E⟩:=Ld (by simpa [Value.cells] using hf);simp at n;subst n;clear k c;refine(Ii R K _ X W (O R w0) (O K T) E).mono fun e W' ⟨he,s⟩=> ?_
 subst he;refine⟨_,rfl,_,_,_,[],(y0.2++V.2)++P,[],f,?_,?_,rfl,s.frame _,fun h=>by cases h⟩
 ·exact trodAll_mk1 (shut_bool Cn true)
 ·exact trodAll_mk2 (Below.trod Fw (by kernel_rfl) (jS (by kernel_rfl)) y s (fun x l=>g x (dh _ l))) (Below.trod Fw (by kernel_rfl) (jS (by kernel_rfl)) A s (fun x l=>g x (bY _ l)))
theorem vcrash_holds:Rows.VaultCrashSaid:=
 OpenClaim.holds_of_wide (p:=Tryz.pinned) (s:=Rows.vaultCrashSpec) (c:=Rows.vaultCrashRow) 6 Tryz.f6 rfl rfl rfl rfl rfl rfl rfl ⟨rfl,rfl,rfl,rfl,rfl⟩ rfl rfl rfl rfl rfl (by kernel_rfl) Tryz.func6 (by kernel_rfl)
  (jS (by kernel_rfl)) (by unfold Func.isWrapper;first|(rw[if_pos (by decide+kernel)];kernel_rfl)|(rw[if_neg (by decide+kernel)];exact⟨rfl,rfl⟩))
  (fun d a H b _=>Ew d a H b)
#print axioms vcrash_holds
