/- parts -/
import Derived.Test.YtpmbddooibgnaaaGreatDoorN1
import Derived.OrdersHeld
import Derived.Deep.RegionHeld
set_option maxRecDepth 100000
set_option maxHeartbeats 8000000
set_option linter.all false
namespace Go.Proofs.YtpmbddooibgnaaaGreatDoor
open Go.RowKit
section
variable {P:Program} {ops:Array Oper} {Q:Exit->Act->World->Prop} {md:Region.Mode} {S:World->Prop}
def GY (md:Region.Mode)(ops:Array Oper)(j:Nat):List Nat:=
 match ops[j]? with
 |none=>[]
 |some o=>(o.after.toList.filter (Region.binds md)).map (·.on)
def marks (md:Region.Mode)(ops:Array Oper):List Nat->List Nat->List Nat
 |[],l=>l
 |i::r,l=>marks md ops r (if l.contains i then(GY md ops i).foldl (fun acc k=>if acc.contains k then acc else k::acc) l else l)
def mV (md:Region.Mode)(ops:Array Oper)(j:Nat):Bool:=
 let l:=marks md ops (List.range ops.size).reverse (GY md ops j)
 (List.range ops.size).all fun i=>i==j||l.contains i
def sM (md:Region.Mode)(ops:Array Oper)(listed:Array Bool):Prop:=∀i k,i<ops.size->k∈GY md ops i->listed.getD i true=true->listed.getD k false=true
theorem vw {j k:Nat}{a:Array Bool}(i:j∈Region.ready md ops a)(c:k∈GY md ops j):a.getD k false=true:=by
 obtain⟨_,o,g,b⟩:=mem_ready.1 i
 unfold GY at c
 rw[g] at c
 simp only[iN,List.mem_filter,Array.mem_toList_iff] at c
 obtain⟨e,⟨d,f⟩,rfl⟩:=c
 exact b e d f
theorem sM.set {j:Nat}{a:Array Bool}(h:sM md ops a)(e:j∈Region.ready md ops a):sM md ops (a.setIfInBounds j true):=by
 intro i k f c d
 by_cases b:j=i
 ·subst b;exact getD_set_true (vw e c)
 ·rw[getD_set_ne true b] at d;exact getD_set_true (h i k f c d)
theorem sM.replicate:sM md ops (Array.replicate ops.size false):=by
 intro i k a c b
 simp[a] at b
theorem wC {x:Nat}:∀(b:List Nat) (l:List Nat),x∈b.foldl (fun a k=>if a.contains k then a else k::a) l->x∈b\/x∈l
 |[],l,h=> .inr h
 |e::r,l,h=>by
  rcases wC r _ h with h|h
  ·exact .inl (bn _ h)
  ·dsimp only at h
   split at h
   ·exact .inr h
   ·rcases aW.1 h with rfl|h
    ·exact .inl (aY ..)
    ·exact .inr h
theorem qz {a:Array Bool}{i:Nat}(h:a.getD i false=true):a.getD i true=true:=by
 rcases jC i a.size with b|b
 ·simpa [b] using h
 ·simp[Fu b] at h
theorem yu {a:Array Bool}(h:sM md ops a):∀(r l:List Nat),(∀i∈r,i<ops.size)->(∀x∈l,a.getD x false=true)->∀x∈marks md ops r l,a.getD x false=true
 |[],_,_,c=>c
 |i::r,l,d,c=>by
  refine yu h r _ (fun k f=>d k (bn _ f)) ?_
  intro x b
  split at b
  ·rename_i e
   rcases wC _ _ b with b|b
   ·exact h i x (d i (aY ..)) b (qz (c i (by simpa using e)))
   ·exact c x b
  ·exact c x b
theorem CJ {i j:Nat}{a:Array Bool}(h:mV md ops j=true)(g:sM md ops a)(d:j∈Region.ready md ops a)(e:i<ops.size)(b:i≠j):a.getD i false=true:=by
 unfold mV at h
 have:=Ea.1 h i (List.mem_range.2 e)
 simp only[xH,vZ,b,false_or] at this
 refine yu g (List.range ops.size).reverse _ (fun k f=>by simpa using f) (fun x c=>vw d c) i (by simpa using this)
def ze (P:Program)(md:Region.Mode)(ops:Array Oper)(Q:Exit->Act->World->Prop)(S:World->Prop):Nat->Array Bool->Act->World->Prop
 |0,listed,a,w=>Region.ready md ops listed=[]/\Q .normal a w
 |fuel+1,listed,a,w=>
  (Region.ready md ops listed=[]->Q .normal a w)/\
  ∀i∈Region.ready md ops listed,wpOp P ops Q i (fun a' w'=>(mV md ops i=true\/S w')/\ze P md ops Q S fuel (listed.setIfInBounds i true) a' w') a w
theorem wS:∀(c:Nat) (b:Array Bool) (a:Act) (w:World),ze P md ops Q S c b a w->wpAny P md ops Q c b a w
 |0,_,_,_,h=>h
 |c+1,_,_,_,h=>⟨h.1,fun i f=>Q9 (fun g e d=>wS c _ g e d.2) (h.2 i f)⟩
theorem Gr {i:Nat}{a:Array Bool}(h:i∈Region.ready md ops a):i<ops.size:=by
 obtain⟨_,o,b,_⟩:=mem_ready.1 h
 exact(aj.1 b).1
theorem MR {i j:Nat}{a:Array Bool}(e:sM md ops a)(d:i∈Region.ready md ops a)(f:j∈Region.ready md ops a)(b:i≠j):mV md ops j=false:=by
 cases g:mV md ops j with
 |false=>rfl
 |true=>
  have c:=qz (CJ g e f (Gr d) b)
  rw[(mem_ready.1 d).1] at c
  cases c
theorem xJ {i:Nat}{r:Oper}{v:Value}(M:ops[i]? =some r)(n:∀(j:Nat) (o:Oper) F b,ops[j]? =some o->o.op≠.select F b)
  (hQ:∀c a w,Q (.panic c) (a.put r.dst v) w->Q (.panic c) a w):
  ∀(g:Nat) (d:Array Bool) (a:Act) (w:World),sM md ops d->
   (∀j s,ops[j]? =some s->j≠i->d.getD j true=false->(∀e∈s.after,Region.binds md e=true->e.on≠i)->r.apart ops s=true)->
   i∈Region.ready md ops d->YieldsIf P ops S r v a->S w->
   ze P md ops Q S g (d.setIfInBounds i true) (a.put r.dst v) w->ze P md ops Q S (g+1) d a w:=by
 intro g
 induction g with
 |zero=>
  intro d a w t _ p J C H
  refine⟨fun h=>(by rw[h] at p;cases p),fun j y=> ?_⟩
  by_cases f:j=i
  ·subst f;exact J.wpOp M C ⟨.inr C,H⟩
  ·have:=ready_mono y f
   rw[H.1] at this
   cases this
 |succ g ih=>
  intro d a w t l p J C H
  refine⟨fun h=>(by rw[h] at p;cases p),fun j y=> ?_⟩
  by_cases f:j=i
  ·subst f;exact J.wpOp M C ⟨.inr C,H⟩
  ·have h1:=H.2 j (ready_mono y f)
   have O:=MR t p y (Ne.symm f)
   obtain⟨q,s,x,B⟩:=mem_ready.1 y
   have I:∀e∈s.after,Region.binds md e=true->e.on≠i:=fun e Y Z V=>by
    have A:=B e Y Z
    have X:=(mem_ready.1 p).1
    rw[V] at A
    rcases jC i d.size with K|K
    ·simp[K] at X A;rw[X] at A;cases A
    ·simp[Fu K] at A
   have h2:=wpOp_putIf x (l j s x f q I) (fun F b=>n i r F b M) (fun F b=>n j s F b x) hQ J h1
   have m:∀k G,ops[k]? =some G->k≠i->(d.setIfInBounds j true).getD k true=false->
     (∀e∈G.after,Region.binds md e=true->e.on≠i)->r.apart ops G=true:=fun k G hk N z R=>by
    refine l k G hk N ?_ R
    by_cases E:j=k
    ·subst E;exact q
    ·rw[getD_set_ne true E] at z;exact z
   refine Q9 (fun a' W T=> ?_) h2
   have D:S W:=T.2.1.resolve_left (by rw[O];simp)
   refine⟨.inr D,ih (d.setIfInBounds j true) a' W (t.set y) m (ready_mono p (Ne.symm f)) T.1 D ?_⟩
   rw[Array.setIfInBounds_comm _ _ f]
   exact T.2.2
def Gf (md:Region.Mode)(ops:Array Oper)(q:Nat->Bool):List Nat->Array Bool->Bool
 |[],listed=>(Region.ready md ops listed).isEmpty
 |i::rest,listed=>
  (if q i then(Region.ready md ops listed).contains i && Region.free md ops listed i
   else(Region.ready md ops listed==[i]) && (!mV md ops i||rest.isEmpty)) && Gf md ops q rest (listed.setIfInBounds i true)
def nT (P:Program)(md:Region.Mode)(ops:Array Oper)(Q:Exit->Act->World->Prop)(S:World->Prop)(q:Nat->Bool):List Nat->Act->World->Prop
 |[],a,w=>Q .normal a w
 |i::rest,a,w=>
  if q i then ∃o v,ops[i]? =some o/\(∀c a w,Q (.panic c) (a.put o.dst v) w->Q (.panic c) a w)/\YieldsIf P ops S o v a/\nT P md ops Q S q rest (a.put o.dst v) w
  else wpOp P ops Q i (fun a' w'=>(mV md ops i=true\/S w')/\nT P md ops Q S q rest a' w') a w
theorem rH (r:Region.noSelect ops=true){q:Nat->Bool}:∀(d:List Nat) (c:Nat) (b:Array Bool) (a:Act) (w:World),sM md ops b->
  Gf md ops q d b=true->d.length<=c->(d=[]\/S w)->nT P md ops Q S q d a w->ze P md ops Q S c b a w
 |[],c,b,a,w,_,k,_,_,h=>by
  have m:Region.ready md ops b=[]:=by simpa [Gf] using k
  cases c with
  |zero=>exact⟨m,h⟩
  |succ c=>exact⟨fun _=>h,fun i g=>by rw[m] at g;cases g⟩
 |i::e,0,_,_,_,_,_,n,_,_=>absurd n (by simp)
 |i::e,c+1,b,a,w,l,k,n,t,h=>by
  have z:S w:=t.resolve_left (by simp)
  simp only[Gf,dA] at k
  obtain⟨g,f⟩:=k
  by_cases p:q i=true
  ·simp only[p,jQ,dA] at g
   simp only[nT,p,jQ] at h
   obtain⟨o,v,A,C,D,h⟩:=h
   exact xJ A (Region.noSelect_spec r) C c b a w l (Region.free_spec A g.2) (by simpa using g.1) D z
    (rH r e c _ _ _ (l.set (by simpa using g.1)) f (by simpa using n) (.inr z) h)
  ·rw[if_neg p,dA,vZ] at g
   simp only[nT] at h
   rw[if_neg p] at h
   have x:Region.ready md ops b=[i]:=by simpa using g.1
   refine⟨fun m=>(by rw[x] at m;cases m),fun j B=> ?_⟩
   rw[x] at B
   obtain rfl:j=i:=by simpa using B
   refine Q9 (fun G F y=>⟨y.1,rH r e c _ _ _ (l.set (by rw[x];exact cu.2 rfl)) f (by simpa using n) ?_ y.2⟩) h
   rcases y.1 with E|s
   ·have:=g.2
    simp only[E] at this
    exact .inl (by simpa using this)
   ·exact .inr s
theorem aP {e:Nat}{a:Act}{w:World}(S:World->Prop)(q:Nat->Bool)(b:List Nat)(d:P.follows .mixedOrders=true)(c:(Region.noSelect ops && decide (b.length<=ops.size) && Gf .any ops q b (Array.replicate ops.size false))=true)
  (f:S w.drew) (h:nT P .any ops Q S q b a w.drew):(Code.region e ops true).wp P Q a w:=by
 simp only[dA,dU] at c
 exact wp_region_any d (wS _ _ _ _ (rH c.1.1 b _ _ _ _ sM.replicate c.2 c.1.2 (.inr f) h))
theorem bN {q:Nat->Bool}{a:Act}{w:World}(h:Q .normal a w):nT P md ops Q S q [] a w:=h
theorem bE {q:Nat->Bool}{i:Nat}{b:List Nat}{a:Act}{w:World}{o:Oper}{v:Value}(k:q i=true)(d:ops.toList[i]? =some o)(e:∀c a w,Q (.panic c) (a.put o.dst v) w->Q (.panic c) a w)
  (j:Region.wanted o (yielded ops a.tmps)=true) (f:∀W,S W->(execOp a.eval o).run P W= .ok (.value v) W) (h:nT P md ops Q S q b (a.put o.dst v) w):nT P md ops Q S q (i::b) a w:=by
 have g:ops[i]? =some o:=by rw[<-iZ];exact d
 simp only[nT,k,jQ];exact⟨o,v,g,e,.inl ⟨j,f⟩,h⟩
theorem Pd {q:Nat->Bool}{i:Nat}{b:List Nat}{a:Act}{w:World}{o:Oper}(j:q i=true)(d:ops.toList[i]? =some o)(e:∀c a w,Q (.panic c) (a.put o.dst undef) w->Q (.panic c) a w)
  (g:Region.wanted o (yielded ops a.tmps)=false) (h:nT P md ops Q S q b (a.put o.dst undef) w):nT P md ops Q S q (i::b) a w:=by
 have f:ops[i]? =some o:=by rw[<-iZ];exact d
 simp only[nT,j,jQ];exact⟨o,undef,f,e,.inr ⟨g,rfl⟩,h⟩
theorem bT {q:Nat->Bool}{i:Nat}{b:List Nat}{a:Act}{w:World}{o:Oper}(j:q i=false)(c:ops.toList[i]? =some o)(g:Region.wanted o (yielded ops a.tmps)=true)
  (h:∀K:Act->World->Prop,Shut (∀a w,S w->nT P md ops Q S q b a w->K a w)->o.wp P a w K Q):nT P md ops Q S q (i::b) a w:=by
 have f:ops[i]? =some o:=by rw[<-iZ];exact c
 simp only[nT,j,wpOp,f,g,jQ]
 exact .inl (h _ (fun a w d e=>⟨.inr d,e⟩))
theorem jR {q:Nat->Bool}{i:Nat}{b:List Nat}{a:Act}{w:World}{o:Oper}(j:q i=false)(c:ops.toList[i]? =some o)(g:Region.wanted o (yielded ops a.tmps)=true)(d:mV md ops i=true)
  (h:∀K:Act->World->Prop,Shut (∀a w,nT P md ops Q S q b a w->K a w)->o.wp P a w K Q):nT P md ops Q S q (i::b) a w:=by
 have f:ops[i]? =some o:=by rw[<-iZ];exact c
 simp only[nT,j,wpOp,f,g,jQ]
 exact .inl (h _ (fun a w e=>⟨.inl d,e⟩))
end
end Go.Proofs.YtpmbddooibgnaaaGreatDoor
