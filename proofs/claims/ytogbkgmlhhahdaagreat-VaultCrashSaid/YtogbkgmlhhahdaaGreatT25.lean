--
import Derived.Test.YtogbkgmlhhahdaaGreatT24
set_option maxRecDepth 100000
set_option maxHeartbeats 0
set_option linter.all false
namespace Go.Proofs.YtogbkgmlhhahdaaGreat
open Go.RowKit
variable{s v:ByteArray}{l:Lg}{a b c:List Int}{n t:Nat}{S:Nat->Prop}{p:Pg}{w:World}
structure VI (σ:Dk)(l:Lg)(p:Pg):Prop where
 free:σ.oK
 ld:l.dead=false
 pd:p.dead=false
 wt:σ.waits.length<=l.used
 rc:l.last<1000000000000->∃C,lM σ l p C
def VI.v0 {a:Dk}(h:VI a l p):Vw a l p:=⟨h.free,h.ld,h.pd,h.wt⟩
def Mc {c:Dk}{d:Im}(g:VI c l p)(t:p.Ok c l)(x:l.Ok)(n:d.Ok (p.blocks c)):
  (d.ks=[]/\p.commit c l d=(c,l,p,l.last,0))\/
  (d.ks≠[]/\p.sP d/\p.commit c l d=(c,l,p,0,13))\/
  (d.ks≠[]/\¬p.sP d/\∃a f e,p.commit c l d=(a,f,e,l.last+1,0)/\VI a f e/\f.last=l.last+1/\e.skip=p.skip/\e.ring=p.ring/\a.n=c.n/\∀b,e.look Im.none a b=p.look d c b):=by
 refine(JU g.v0 t x n).imp_right (Or.imp_right ?_);rintro⟨m,k,a,f,e,j,i,s,v⟩;refine⟨m,k,a,f,e,j,⟨i.free,i.ld,i.pd,i.wt,fun y=> ?_⟩,s,v⟩;obtain⟨C,o⟩:=g.rc (by omega);rcases wO o g.free.1 g.ld g.pd n (by omega) with ⟨q,_⟩|⟨_,q,_⟩|⟨_,_,⟨_,_,_,q,_,_,_,_,_,_,_,_,_,r,_⟩|⟨_,_,_,q,_⟩⟩
 ·exact absurd q m
 ·exact absurd q k
 ·rw[j] at q
  simp only[om] at q;obtain⟨rfl,rfl,rfl,_⟩:=q;exact⟨_,r⟩
 ·rw[j] at q
  simp at q
def Qp {e:Dk}(d:VI e l p)(j:p.Ok e l):
  ∃a c,p.sync e l=(a,c,p,0)/\VI a c p/\c.last=l.last/\c.synced=l.last/\a.n=e.n/\∀i b,p.look i a b=p.look i e b:=by
 obtain⟨a,c,g,f,k,n⟩:=NY d.v0 j;refine⟨a,c,g,⟨f.free,f.ld,f.pd,f.wt,fun o=> ?_⟩,k,n⟩;obtain⟨C,m⟩:=d.rc (by omega);rcases CO m d.free.1 d.ld d.pd with ⟨_,_,q,_,_,_,_,_,_,_,r,_⟩|⟨_,_,q,_⟩
 ·rw[g] at q
  simp only[om] at q;obtain⟨rfl,rfl,_⟩:=q;exact⟨_,r⟩
 ·rw[g] at q
  simp at q
structure VJ (σ:Dk)(l:Lg)(p:Pg):Prop where
 nd:σ.dead=false
 ld:l.dead=false
 pd:p.dead=false
 wt:σ.waits.length<=l.used
 rc:l.last<1000000000000->∃C,lM σ l p C
def VI.vj {a:Dk}(h:VI a l p):VJ a l p:=⟨h.free.1,h.ld,h.pd,h.wt,h.rc⟩
def lM.cap {a:Dk}{C:Nat->Nat->List UInt8}(h:lM a l p C):a.waits.length<=l.used:=by
 obtain⟨b,c,_⟩:=h;exact c.cap
structure Sq (σ:Dk)(l:Lg)(p:Pg)(im:Im)(σ':Dk)(l':Lg)(p':Pg):Prop where
 vj:VJ σ' l' p'
 last:l'.last=l.last+1
 skip:p'.skip=p.skip
 ring:p'.ring=p.ring
 n:σ'.n=σ.n
 look:∀b,b<p.blocks σ->p'.look Im.none σ' b=p.look im σ b
 fu:σ.fuel= -1->σ'.fuel= -1
 tQ:l.synced<=l'.synced
 zW:∀C,lM σ l p C->lM σ' l' p' (uR C (l.last+1) (p.look im σ))
structure Km (σ:Dk)(l:Lg)(p:Pg)(σ':Dk)(l':Lg)(p':Pg):Prop where
 dead:σ'.dead=true
 fu:σ.fuel≠-1
 skip:p'.skip=p.skip
 n:σ'.n=σ.n
 tQ:l.synced<=l'.synced
 last:l'.last=l.last
 zW:∀C,lM σ l p C->FN σ' l' p.skip (p.blocks σ) C
structure ul (σ:Dk)(l:Lg)(p:Pg)(σ':Dk)(l':Lg):Prop where
 vj:VJ σ' l' p
 last:l'.last=l.last
 tQ:l'.synced=l.last
 n:σ'.n=σ.n
 look:∀im b,p.look im σ' b=p.look im σ b
 fu:σ.fuel= -1->σ'.fuel= -1
 wts:σ'.waits=[]
 zW:∀C,lM σ l p C->lM σ' l' p C
def JW {b:Dk}{im:Im}(c:VJ b l p)(v:im.Ok (p.blocks b))(d:l.last<1000000000000):
  (im.ks=[]/\p.commit b l im=(b,l,p,l.last,0))\/
  (im.ks≠[]/\p.sP im/\p.commit b l im=(b,l,p,0,13))\/
  (im.ks≠[]/\∃a f g,p.commit b l im=(a,f,g,l.last+1,0)/\Sq b l p im a f g)\/
  (im.ks≠[]/\∃a f g,p.commit b l im=(a,f,g,0,10)/\Km b l p a f g):=by
 obtain⟨E,n⟩:=c.rc d;rcases wO n c.nd c.ld c.pd v d with h|h|⟨j,_,⟨a,f,g,q,y,z,o,s,A,x,m,B,D,i,t⟩|⟨a,f,g,q,y,z,o,s,A,x,m⟩⟩
 ·exact .inl h
 ·exact .inr (.inl h)
 ·refine .inr (.inr (.inl ⟨j,a,f,g,q,⟨y,z,o,i.cap,fun _=>⟨_,i⟩⟩,A,m,B,D,t,s,x,fun C k=> ?_⟩))
  rcases wO k c.nd c.ld c.pd v d with ⟨e,_⟩|⟨_,_,e⟩|⟨_,_,⟨_,_,_,e,_,_,_,_,_,_,_,_,_,r,_⟩|⟨_,_,_,e,_⟩⟩
  ·exact absurd e j
  ·rw[q] at e;simp at e
  ·rw[q] at e
   simp only[om] at e;obtain⟨rfl,rfl,rfl,_⟩:=e;exact r
  ·rw[q] at e;simp at e
 ·refine .inr (.inr (.inr ⟨j,a,f,g,q,y,z,o,s,x,m,fun C k=> ?_⟩))
  rcases wO k c.nd c.ld c.pd v d with ⟨e,_⟩|⟨_,_,e⟩|⟨_,_,⟨_,_,_,e,_⟩|⟨_,_,_,e,_,_,_,_,r,_⟩⟩
  ·exact absurd e j
  ·rw[q] at e;simp at e
  ·rw[q] at e;simp at e
  ·rw[q] at e
   simp only[om] at e;obtain⟨rfl,rfl,rfl,_⟩:=e;exact r
def UN {d:Dk}(b:VJ d l p)(k:l.last<1000000000000):
  (∃a c,p.sync d l=(a,c,p,0)/\ul d l p a c)\/
  (∃a c,p.sync d l=(a,c,p.dies,10)/\Km d l p a c p.dies):=by
 obtain⟨y,g⟩:=b.rc k;rcases CO g b.nd b.ld b.pd with ⟨a,c,q,n,o,i,t,j,m,v,s,x⟩|⟨a,c,q,n,o,i,t,j,m⟩
 ·refine .inl ⟨a,c,q,⟨n,o,b.pd,s.cap,fun _=>⟨_,s⟩⟩,m,v,t,x,i,j,fun C f=> ?_⟩
  rcases CO f b.nd b.ld b.pd with ⟨_,_,e,_,_,_,_,_,_,_,r,_⟩|⟨_,_,e,_⟩
  ·rw[q] at e
   simp only[om] at e;obtain⟨rfl,rfl,_⟩:=e;exact r
  ·rw[q] at e;simp at e
 ·refine .inr ⟨a,c,q,n,o,rfl,i,j,m,fun C f=> ?_⟩
  rcases CO f b.nd b.ld b.pd with ⟨_,_,e,_⟩|⟨_,_,e,_,_,_,r,_⟩
  ·rw[q] at e;simp at e
  ·rw[q] at e
   simp only[om] at e;obtain⟨rfl,rfl,_⟩:=e;exact r
structure lU where
 k:ByteArray
 s:ByteArray
 v:ByteArray
 b:List Int
def jh (es:List lU):List Pr:=es.map fun e=>(e.k,e.s)
def je (es:List lU):List Pr:=es.map fun e=>(e.k,e.v)
def dO (es:List lU):List Int:=es.flatMap (·.b)
def wM (a b:List lU):jh (a++b)=jh a++jh b:=by simp[jh]
def nN (a b:List lU):je (a++b)=je a++je b:=by simp[je]
def iV (a b:List lU):dO (a++b)=dO a++dO b:=by simp[dO]
def FL (e:lU)(b:List lU):dO (e::b)=e.b++dO b:=by simp[dO]
def eH (a:List lU):(jh a).length=a.length:=by simp[jh]
def iR (a:List lU):(je a).length=a.length:=by simp[je]
def vL (es:List lU)(key:ByteArray):Nat:=(es.takeWhile fun e=>lt e.k key).length
def Gs (f:lU->Pr)(c:∀e,(f e).1=e.k)(b:List lU)(a:ByteArray):bX (b.map f) a=vL b a:=by
 unfold bX vL;rw[List.takeWhile_map,jX];congr 2;funext e;simp[c]
def Nj (f:lU->Pr)(i:∀e,(f e).1=e.k)(b:List lU)(a:ByteArray):
  (∀o,b[vL b a]? =some o->o.k=a->dL (b.map f) a=some (f o).2/\(∀x,kC (b.map f) a x=(b.take (vL b a)).map f++(a,x)::(b.drop (vL b a+1)).map f)/\jR (b.map f) a=(b.take (vL b a)).map f++(b.drop (vL b a+1)).map f)/\
  ((∀o,b[vL b a]? =some o->o.k≠a)->dL (b.map f) a=none/\(∀x,kC (b.map f) a x=(b.take (vL b a)).map f++(a,x)::(b.drop (vL b a)).map f)/\jR (b.map f) a=b.map f):=by
 have d:=Gs f i b a;constructor
 ·intro o j k
  obtain⟨m,_⟩:=dm.1 j;have c:pU (b.map f) a=true:=by
   unfold pU;rw[d,eZ,j];simp[i,k]
  refine⟨?_,fun x=> ?_,?_⟩
  ·unfold dL
   rw[if_pos c,d,eZ,j];rfl
  ·unfold kC
   rw[if_pos c,d,nT,if_pos (by rw[jX];exact m),gI,fT]
  ·unfold jR
   rw[if_pos c,d,gI,fT]
 ·intro g
  have c:pU (b.map f) a=false:=by
   unfold pU;rw[d,eZ];cases l:b[vL b a]? with
   |none=>rfl
   |some o=>simp[i,g o l]
  refine⟨?_,fun x=> ?_,?_⟩
  ·unfold dL
   rw[if_neg (by rw[c];simp)]
  ·unfold kC
   rw[if_neg (by rw[c];simp),d,gI,fT]
  ·unfold jR
   rw[if_neg (by rw[c];simp)]
structure uw (es:List lU)(key:ByteArray)(l o r:List lU):Prop where
 eq:es=l++o++r
 one:o=[]\/∃e,o=[e]/\e.k=key
 ls:dL (jh es) key=o.head?.map (·.s)
 lv:dL (je es) key=o.head?.map (·.v)
 is:∀s v b,kC (jh es) key s=jh (l++⟨key,s,v,b⟩::r)
 iv:∀s v b,kC (je es) key v=je (l++⟨key,s,v,b⟩::r)
 ds:jR (jh es) key=jh (l++r)
 dv:jR (je es) key=je (l++r)
def Mk (c:List lU)(a:ByteArray):∃l o r,uw c a l o r:=by
 have q:=Nj (fun e=>(e.k,e.s)) (fun _=>rfl) c a;have t:=Nj (fun e=>(e.k,e.v)) (fun _=>rfl) c a
 by_cases h:∃o,c[vL c a]? =some o/\o.k=a
 ·obtain⟨o,g,f⟩:=h
  obtain⟨y,x⟩:=dm.1 g;obtain⟨n,p,k⟩:=q.1 o g f;obtain⟨i,m,j⟩:=t.1 o g f;refine⟨c.take (vL c a),[o],c.drop (vL c a+1),?_,.inr ⟨o,rfl,f⟩,n,i,fun s v b=> ?_,fun s v b=> ?_,?_,?_⟩
  ·rw[<-x,aM,List.singleton_append,List.getElem_cons_drop,bJ]
  ·rw[wM];exact p s
  ·rw[nN];exact m v
  ·rw[wM];exact k
  ·rw[nN];exact j
 ·have d:∀o,c[vL c a]? =some o->o.k≠a:=fun o g f=>h ⟨o,g,f⟩
  obtain⟨n,p,k⟩:=q.2 d;obtain⟨i,m,j⟩:=t.2 d;refine⟨c.take (vL c a),[],c.drop (vL c a),?_,.inl rfl,n,i,fun s v b=> ?_,fun s v b=> ?_,?_,?_⟩
  ·rw[dM,bJ]
  ·rw[wM];exact p s
  ·rw[nN];exact m v
  ·rw[bJ];exact k
  ·rw[bJ];exact j
def xg.keep {l j:cK}{b i:Nat}{k:List (Nat×Nat)}(h:xg l b i k)(n:j.hasB b=true)(m:j.mem b=l.mem b):xg j b i k:=by
 obtain⟨a,_,c,d,e,f,g⟩:=h;exact⟨a,n,by rw[m];exact c,d,e,f,g⟩
def qd.keep {l f:cK}{d:Nat}{t:List UInt8}{g:List (Nat×Nat)}(h:qd l d t g)(j:∀x∈kH d g,f.hasB x=true/\f.mem x=l.mem x):qd f d t g:=by
 have e:∀b∈fV g++[d],((b:Nat):Int)∈kH d g:=fun b m=>kM m
 refine⟨h.hd.keep (j _ (e d (by simp))).1 (j _ (e d (by simp))).2,h.nd,fun i k=> ?_⟩;obtain⟨a,b,c⟩:=h.blk i k;have:=j _ (e (fV g)[i] (dh _ (bF k)));exact⟨this.1,b,this.2.trans c⟩
def ValAt.keep {d a:cK}(h:ValAt d s v b)(g:∀x∈b,a.hasB x=true/\a.mem x=d.mem x):ValAt a s v b:=by
 rcases h with h|⟨e,f,j,i,k,c⟩
 ·exact .inl h
 ·exact .inr ⟨e,f,j,i,k.keep (fun x l=>g x (by rw[c];exact l)),c⟩
def ValAt.all {b:cK}(h:ValAt b s v a):∀x∈a,b.hasB x=true/\2<=x:=by
 rcases h with ⟨_,_,rfl⟩|⟨e,f,_,_,c,rfl⟩
 ·intro x d;cases d
 ·exact c.all
def dW.WI {T:ByteArray->Option ByteArray->Int->List Pr->List Int->Prop}(d:∀k z b c x,T k z b c x->∀y∈x,2<=y){f:Option ByteArray}{l:List (ByteArray×Int)}{e:List Pr}(h:dW T f l e a):∀y∈a,2<=y:=dW.has d h
def jA.two {p:cK}:∀{h m:Nat} {n:ByteArray} {o:Option ByteArray} {b:Int} {j:List Pr} {d:List Int},jA p h m n o b j d->∀x∈d,2<=x
 |0,_,_,_,_,_,_,⟨e,c,_,_,_,_,_,_,g⟩=>by
  intro x a
  rw[g] at a
  rw[bQ.1 a]
  exact c.lo
 |h+1,_,_,_,_,_,_,⟨e,i,c,_,_,_,k,f⟩=>by
  subst k
  intro x a
  rcases bO.1 a with rfl|a
  ·exact c.lo
  ·exact dW.WI (fun _ _ _ _ _ l=>jA.two l) f x a
def ze.two {e:cK}{a:Int}{c:List Pr}(h:ze e a c b):∀x∈b,2<=x:=by
 rcases h with ⟨_,_,rfl⟩|⟨h,d⟩
 ·intro x f;cases f
 ·exact d.two
structure Own (σ:cK)(bs:List Int):Prop where
 nd:bs.Nodup
 ex:∀x,σ.hasB x=true->x=0\/x=1\/x∈bs
 size:σ.sz=countB σ.H.old σ.most+nh σ bs
def Own.D9 {i d:cK}{f g:List Int}(h:Own i f)(c:mW i d f g):Own d g:=by
 refine⟨c.nd h.nd,fun x j=> ?_,?_⟩
 ·rcases c.ex x j with y|⟨y,z⟩
  ·exact .inr (.inr y)
  ·exact(h.ex x y).imp id (fun e=>e.imp id (fun e=>absurd e z))
 ·have a:=c.size
  have b:=h.size;rw[c.H,c.most,vC c.H];omega
structure Live (σ:cK)(root:Int)(es:List lU)(tb:List Int):Prop where
 tree:ze σ root (jh es) tb
 val:∀e∈es,ValAt σ e.s e.v e.b
 own:Own σ (tb++dO es)
def Live.bb {d:cK}{a:Int}{c:List lU}{f:List Int}(h:Live d a c f):∀x∈dO c,d.hasB x=true/\2<=x:=by
 intro x b;obtain⟨e,g,b⟩:=kF.1 b;exact(h.val e g).all x b
def Live.all {e:cK}{b:Int}{d:List lU}(h:Live e b d c):∀x∈c++dO d,e.hasB x=true/\2<=x:=by
 intro x a;rcases bU.1 a with a|a
 ·exact⟨h.tree.has x a,h.tree.two x a⟩
 ·exact h.bb x a
def oN (h:(a++b).Nodup):∀x∈b,x∉a:=fun x d c=>(eD.1 h).2.2 x c x d rfl
def Jc {H D p t:cK}{O j:Int}{z l o r:List lU}{f:ByteArray}(K:Live H O z c)(hA:uw z f l o r)(X:mW H D (dO o) [])(W:mW D p [] b)(hv:ValAt p s v b)(G:Bh p c (kC (jh z) f s) n t j):
  ∃g,Live t j (l++⟨f,s,v,b⟩::r) g/\mW H t (c++dO z) (g++dO (l++⟨f,s,v,b⟩::r)):=by
 obtain⟨g,ht,G,_,_⟩:=G;have Q:=K.all;have hn:=K.own.nd;have F:=hA.eq;have pM:dO z=dO l++dO o++dO r:=by rw[F,iV,iV]
 obtain⟨R,V⟩:=nx (c++dO l++dO r);have A:(c++dO z).Perm (dO o++R):=by
  rw[pM,V];have:(c++(dO l++dO o++dO r)).Perm (c++(dO o++dO l++dO r)):=((fI).append_right _).append_left _;refine this.trans ?_;have e1:c++(dO o++dO l++dO r)=c++dO o++(dO l++dO r):=by simp
  have Y:dO o++(c++dO l++dO r)=dO o++c++(dO l++dO r):=by simp
  rw[e1,Y];exact fI.append_right _
 have i:=A.nodup_iff.1 hn;have E:∀x∈R,H.hasB x=true:=fun x d=>(Q x (A.mem_iff.2 (bY _ d))).1
 have T:=X.left (rs:=R) i E;have qc:∀x∈R,D.hasB x=true:=fun x d=>(T.new x d).1
 have Z:=W.left (rs:=R) (T.nd i) qc;have qb:=Z.nd (T.nd i);have B:(b++R).Perm (c++(b++dO l++dO r)):=by
  rw[V];have e1:b++(c++dO l++dO r)=b++c++(dO l++dO r):=by simp
  have Y:c++(b++dO l++dO r)=c++b++(dO l++dO r):=by simp
  rw[e1,Y];exact fI.append_right _
 have M:=B.nodup_iff.1 qb;have N:∀x∈b++R,p.hasB x=true:=fun x d=>(Z.new x d).1
 have c3:=G.left (rs:=b++dO l++dO r) M (fun x d=>N x (B.mem_iff.2 (bY _ d)));have J:dO (l++⟨f,s,v,b⟩::r)=dO l++(b++dO r):=by rw[iV,FL]
 have p9:(g++(b++dO l++dO r)).Perm (g++dO (l++⟨f,s,v,b⟩::r)):=by
  rw[J,<-aM (dO l)];exact(fI.append_right _).append_left _
 have C:mW H t (c++dO z) (g++dO (l++⟨f,s,v,b⟩::r)):=by
  have a:mW H p (c++dO z) (c++(b++dO l++dO r)):=(T.trans Z).perm A.symm B;exact(a.trans c3).perm (jH _) p9
 refine⟨g,⟨?_,fun e y=> ?_,K.own.D9 C⟩,C⟩
 ·rw[<-hA.is s v b];exact ht
 ·have q:∀x∈b++dO l++dO r,x∉c:=oN M
  rcases bU.1 y with y|y
  ·have k:∀x∈e.b,x∈dO l:=fun x d=>kF.2 ⟨e,y,d⟩
   refine(K.val e (by rw[F];exact dh _ (dh _ y))).keep fun x d=> ?_
   have m:x∈R:=(by rw[V];exact dh _ (bY _ (k x d)));have I:=X.frame x (E x m) (.inl (oN i x m));have P:=W.frame x I.1 (.inl (by simp));have S:=G.frame x P.1 (.inl (q x (dh _ (bY _ (k x d)))));exact⟨S.1,S.2.trans (P.2.trans I.2)⟩
  ·rcases bO.1 y with rfl|y
   ·exact hv.keep fun x d=>G.frame x (N x (dh _ d)) (.inl (q x (dh _ (dh _ d))))
   ·have k:∀x∈e.b,x∈dO r:=fun x d=>kF.2 ⟨e,y,d⟩
    refine(K.val e (by rw[F];exact bY _ y)).keep fun x d=> ?_
    have m:x∈R:=(by rw[V];exact bY _ (k x d));have I:=X.frame x (E x m) (.inl (oN i x m));have P:=W.frame x I.1 (.inl (by simp));have S:=G.frame x P.1 (.inl (q x (bY _ (k x d))));exact⟨S.1,S.2.trans (P.2.trans I.2)⟩
def Jd {v k f:cK}{s b:Int}{g l o r:List lU}{q:ByteArray}(E:Live v s g a)(M:uw g q l o r)(K:mW v k (dO o) [])(F:Bh k a (jR (jh g) q) n f b):
  ∃c,Live f b (l++r) c/\mW v f (a++dO g) (c++dO (l++r)):=by
 obtain⟨c,O,F,_,_⟩:=F;have y:=E.all;have R:=E.own.nd;have A:=M.eq;have H:dO g=dO l++dO o++dO r:=by rw[A,iV,iV]
 have i:(a++dO g).Perm (dO o++(a++(dO l++dO r))):=by
  rw[H];have:(a++(dO l++dO o++dO r)).Perm (a++(dO o++dO l++dO r)):=((fI).append_right _).append_left _;refine this.trans ?_;have S:a++(dO o++dO l++dO r)=a++dO o++(dO l++dO r):=by simp
  have P:dO o++(a++(dO l++dO r))=dO o++a++(dO l++dO r):=by simp
  rw[S,P];exact fI.append_right _
 have j:=i.nodup_iff.1 R;have B:∀x∈a++(dO l++dO r),v.hasB x=true:=fun x d=>(y x (i.mem_iff.2 (bY _ d))).1
 have G:=K.left (rs:=a++(dO l++dO r)) j B;have I:∀x∈a++(dO l++dO r),k.hasB x=true:=fun x d=>(G.new x d).1
 have p:(a++(dO l++dO r)).Nodup:=G.nd j;have Q:=F.left (rs:=dO l++dO r) p (fun x d=>I x (bY _ d));have C:mW v f (a++dO g) (c++dO (l++r)):=by
  rw[iV];exact(G.trans Q).perm i.symm (jH _)
 refine⟨c,⟨?_,fun e m=> ?_,E.own.D9 C⟩,C⟩
 ·rw[<-M.ds];exact O
 ·have t:∀x∈e.b,x∈dO l++dO r:=fun x d=>by rw[<-iV];exact kF.2 ⟨e,m,d⟩
  have D:e∈g:=by
   rw[A];rcases bU.1 m with m|m
   ·exact dh _ (dh _ m)
   ·exact bY _ m
  refine(E.val e D).keep fun x d=> ?_
  have z:=bY a (t x d);have J:=K.frame x (B x z) (.inl (oN j x z));have N:=F.frame x J.1 (.inl (oN p x (t x d)));exact⟨N.1,N.2.trans J.2⟩
def yY:∀(n:Nat) (f:Nat->Bool) (L:List Nat),L.Nodup->(∀x,x∈L↔x<n/\f x=true)->countB f n=L.length
 |0,f,L,_,h=>by
  cases L with
  |nil=>rfl
  |cons a L=>exact absurd ((h a).1 (bf ..)).1 (tN _)
 |n+1,f,L,i,h=>by
  rw[fP]
  by_cases d:f n=true
  ·have j:n∈L:=(h n).2 ⟨iL n,d⟩
   have ih:=yY n f (L.erase n) (i.erase n) (fun x=>by
    rw[i.mem_erase_iff,h]
    constructor
    ·rintro⟨a,b,c⟩;exact⟨by omega,c⟩
    ·rintro⟨a,b⟩;exact⟨by omega,by omega,b⟩)
   rw[ih,d,List.length_erase_of_mem j]
   have:=List.length_pos_of_mem j
   simp;omega
  ·have g:f n=false:=by simpa using d
   have ih:=yY n f L i (fun x=>by
    rw[h]
    constructor
    ·rintro⟨a,b⟩
     exact⟨by have:x≠n:=fun e=>d (e▸b);omega,b⟩
    ·rintro⟨a,b⟩;exact⟨by omega,b⟩)
   rw[ih,g];rfl
def Own.count {c:cK}{k:List Int}(h:Own c k)(i:c.Ok)(j:∀x∈k,c.hasB x=true/\2<=x):countB c.now c.most=2+k.length:=by
 obtain⟨L,l⟩:=nx (k.map Int.toNat);have s:=i.two;have g:∀x∈L,2<=x/\x<c.most/\c.now x=true:=by
  intro x d;rw[l] at d;obtain⟨y,p,rfl⟩:=fw.1 d;obtain⟨n,e,a,b⟩:=cK.kT (j y p).1;have:=(j y p).2;rw[e,fE];exact⟨by omega,a,b⟩
 have m:L.Nodup:=by
  rw[l];refine List.Pairwise.map _ (R:=fun a b=>a≠b/\2<=a/\2<=b) (fun a b (f:a≠b/\2<=a/\2<=b) e=>f.1 (by omega)) ?_;have:=h.nd;exact List.Pairwise.imp_of_mem (fun r o f=>⟨f,(j _ r).2,(j _ o).2⟩) this
 rw[yY c.most c.now (0::1::L) ?_ fun x=> ?_]
 ·rw[l];simp;omega
 ·refine lV.2 ⟨fun e=> ?_,lV.2 ⟨fun e=> ?_,m⟩⟩
  ·rcases bO.1 e with e|e
   ·cases e
   ·have:=(g 0 e).1;omega
  ·have:=(g 1 e).1;omega
 ·constructor
  ·intro d
   rcases bO.1 d with rfl|d
   ·exact⟨by omega,i.n0⟩
   ·rcases bO.1 d with rfl|d
    ·exact⟨by omega,i.n1⟩
    ·exact(g x d).2
  ·rintro⟨a,b⟩
   have q:c.hasB (x:Int)=true:=(by unfold cK.hasB;rw[fE,b];simp[a]);rcases h.ex x q with e|e|e
   ·have:x=0:=by omega
    subst this;exact bf ..
   ·have:x=1:=by omega
    subst this;exact aX _ (bf ..)
   ·refine aX _ (aX _ ?_)
    rw[l];exact fw.2 ⟨x,e,by simp⟩
theorem KN (t:Nat)(w:World)(h:Ki w t):
  Calls Tryz.prog 56 #[.pointer (some ⟨t,0,none⟩)] w fun e b=>e= .returned (.tuple #[])/\b=w:=by
 obtain⟨d,h⟩:=h;have c:w.cell? ⟨t,0,none⟩=some (.pointer none):=by simp[World.cell?,h]
 have a:=(ai.1 h).1;clear h;go_enter Tryz.func56,Tryz.ntmps56;go_wp2_with fail;go_end0;exact⟨rfl,rfl⟩
theorem TQ (c:VS)(a:Int)(w:World)(g:0<=a):
  Calls Tryz.prog 58 #[.iface 97 c.agg,.int .i64 a] w fun e b=>e= .returned (.pointer (some ⟨w.heap.size,0,none⟩))/\dw b w.heap.size c a 0/\b.heap.size=w.heap.size+1/\Below w.heap.size w b:=by
 have d:¬a<0:=by omega
 have f:∀w:World,(binOp BinOp.eql 158 (.iface 97 c.agg) .nilIface).run Tryz.prog w= .ok (.bool false) w:=fun _=>by kernel_rfl
 go_enter Tryz.func58,Tryz.ntmps58;go_wp2_with fail;go_ret;exact⟨rfl,aV _ _,by simp,aN _ _⟩
theorem TP (t:Nat)(f:VS)(a b:Int)(w:World)(h:dw w t f a b):
  Calls Tryz.prog 65 #[.pointer (some ⟨t,0,none⟩)] w fun e d=>e= .returned (.int .i64 a)/\d=w:=by
 obtain⟨_,g,_,_,_,_,c⟩:=cells3 h;go_enter Tryz.func65,Tryz.ntmps65
 go_wp2
 go_ret;exact⟨rfl,rfl⟩
theorem Ue (v c d:Nat)(a:Dk)(l:Lg)(p:Pg)(g:Value)(S:Nat->Prop)(w:World)(i:w.heap[v]? =some (.cells #[.pointer (some ⟨c,0,none⟩)] 88 (0,0)))(h:ji w S c d a l p g)(b:a.waits.length<=90000):
  Calls Tryz.prog 27 #[.pointer (some ⟨v,0,none⟩)] w fun e j=>e= .returned (.int .i64 (p.sync a l).2.2.2)/\∃k,ji j k c d (p.sync a l).1 (p.sync a l).2.1 (p.sync a l).2.2.1 g/\Step S k w j:=by
 have q:w.cell? ⟨v,0,none⟩=some (.pointer (some ⟨c,0,none⟩)):=by simp[World.cell?,i]
 have m:=(ai.1 i).1;have n:=ah (Uh c d a l p g S w h b);clear i h;go_enter Tryz.func27,Tryz.ntmps27;go_wp2_with (first|(go_at_call 44;go_must (refine n.out.mono ?_;rintro e o ⟨rfl,f⟩)))
 go_ret;exact⟨rfl,f⟩
def Mr (l:List UInt8)(root:Nat):Prop:=root<65536/\∃rest,l=[UInt8.ofNat root,UInt8.ofNat (root/256)]++rest
def cK.start (σ:Dk)(l:Lg)(p:Pg)(f:Nat->Bool):cK:=⟨⟨σ,l,p,f⟩,p.blocks σ,Im.none,f,countB f (p.blocks σ)⟩
def cK.Ok.start {a:Dk}{f:Nat->Bool}(q:p.Ok a l)(i:a.Ok)(j:p.dead=false)(g:a.dead=false)(k:2<=p.blocks a)(c:∀b,p.blocks a<=b->f b=false)(m:f 0=true)(o:f 1=true):(cK.start a l p f).Ok:=by
 refine⟨j,g,rfl,k,?_,c,c,m,o,(fun b n=>by cases n),(fun b _ s r=> ?_),?_,fun b _=> ?_⟩
 ·have:=i.hi
  show p.blocks a<=4096;unfold Pg.blocks;omega
 ·have e:f b=true:=s
  have d:f b=false:=r;rw[e] at d;cases d
 ·show countB (fun x=>f x||f x) (p.blocks a)<=countB f (p.blocks a)
  exact oP _ (fun x _ t=>by simpa using t)
 ·show (p.look Im.none a b).length=512
  rw[Pg.AP];unfold Im.find
  split
  ·exact q.fresh.img _ ‹_›
  ·exact i.get _
def Py (pg d:Nat)(σ:Dk)(l:Lg)(p:Pg)(f:Nat->Bool)(root:Nat)(S:Nat->Prop)(w:World)(e:Ending)(w':World):Prop:=
 ∃t tr mp S',e= .returned (.tuple #[.pointer (some ⟨t,0,none⟩),.int .i64 0])/\mp.pg=pg/\mp.d=d/\w'.heap[t]? =some (.cells (dF mp (some tr) false 0) 100 (0,0))/\dw w' tr mp root 0/\Inv (cK.start σ l p f) S' mp w'/\Step S S' w w'/\¬S' t/\¬S' tr/\w.heap.size<=t/\w.heap.size<=tr
theorem Qe (v D d:Nat)(J:Dk)(l:Lg)(p:Pg)(f:Nat->Bool)(a:Nat)(S:Nat->Prop)(w:World)(hv:w.heap[v]? =some (.cells #[.pointer (some ⟨D,0,none⟩)] 88 (0,0)))(j3:¬S v)(h:ji w S D d J l p (.pointer none))(hd:p.dead=false)(ql:J.dead=false)(h2:2<=p.blocks J)(hf:p.look Im.none J 0=bytesOf f)(x:∀b,p.blocks J<=b->f b=false)(h0:f 0=true)(h1:f 1=true)(hr:Mr (p.look Im.none J 1) a):
  Calls Tryz.prog 21 #[.pointer (some ⟨v,0,none⟩)] w (Py D d J l p f a S w):=by
 have bB:=cK.Ok.start h.ok.1 h.ok.2.1 hd ql h2 x h0 h1;have c0:w.cell? ⟨v,0,none⟩=some (.pointer (some ⟨D,0,none⟩)):=by simp[World.cell?,hv]
 have fK:=(ai.1 hv).1;have HB:=ah (QL D d J l p S w h hd);have HV:=ah hv;have jv:=ah bB;have pM:=h.sub;obtain⟨kT,kg,aA⟩:=hr;have HF:=ah (aC hf (aC x (aC h0 h1)));have iO:=ah aA;clear hv h bB hf x h0 h1 aA;go_enter Tryz.func21,Tryz.ntmps21;go_wp2_with (first|(go_at_call 40;go_must (refine HB.out.mono ?_;rintro e A ⟨G,T,rfl,X,B,q9,fB⟩;refine sO ?_)))
 refine sN ?_;have dZ:∀g,S g->¬T g:=fun g C e=>absurd (fB g e) (gG.2 (pM g C))
 have qc:=(q9.1.block v fK j3).trans HV.out;have d0:A.cell? ⟨v,0,none⟩=some (.pointer (some ⟨D,0,none⟩)):=by simp[World.cell?,qc]
 have lg:=(ai.1 qc).1;have jO:=ah (zJ D d J l p _ S A X);have jl:=ah (UR G D d J l p _ Im.none S T f A.drew (X.below ((aR _ A).drew)) (B.below ((aR _ A).drew)) hd ql h2 HF.out.1 HF.out.2.1 HF.out.2.2.1 HF.out.2.2.2);have M:=ah (aC X (aC B q9));clear qc X B q9;go_wp2_with (first|(go_at_call 42;go_must (refine jO.out.mono ?_;rintro e w2 ⟨rfl,kr⟩;subst w2))|(go_at_call 55;go_must (refine jl.out.mono ?_;rintro e w2 ⟨c,rfl,I,bA,jb⟩;refine sO ?_)))
 refine sN ?_;have r:Below A.heap.size A w2:=((aR _ A).drew).trans jb;have q8:=M.out.1.below r;have F:=M.out.2.1.below r;have Q:=tread G D d J l p _ Im.none S T 1 w2 q8 F hd ql (by omega);rw[iO.out] at Q;have Q:=ah Q;go_wp2_with (first|(go_at_call 57;go_must (refine Q.out.mono ?_;rintro e w3 ⟨rv,rfl,q,fo,R⟩;refine sO ?_)))
 refine sN ?_;obtain⟨ro,rc,rfl,r1,r2,r3,r4⟩:=aZ.form q;have aB:=UInt8.toNat_lt (UInt8.ofNat a);have di:=UInt8.toNat_lt (UInt8.ofNat (a/256));have e1:(UInt8.ofNat a).toNat=a%256:=by rw[fC]
 have e2:(UInt8.ofNat (a/256)).toNat=a/256:=by rw[fC];omega
 obtain⟨N,po,rfl,V⟩:=q.EM rfl 0 (.int .u8 ((a%256:Nat):Int)) (by simp[aI,e1]);obtain⟨lC,lJ,e',qo⟩:=q.EM rfl 1 (.int .u8 ((a/256:Nat):Int)) (by simp[aI,e2]);cases e'
 have qb:=aF w3 _ V;obtain⟨lo,bC⟩:=nx (a%256);obtain⟨O,x⟩:=nx (a/256);rw[<-bC] at V;rw[<-x] at qo;have fA:lo<256:=by omega
 have ko:O<256:=by omega
 have j:a=lo+256*O:=by omega
 have q1:IntKind.i64.wrap (lo:Int)=(lo:Int):=aG _ (by omega);have q2:IntKind.i64.wrap (O:Int)=(O:Int):=aG _ (by omega);have p1:IntKind.i64.wrap ((O:Int)*256)=((256*O:Nat):Int):=by rw[aG _ (by omega)];omega
 have o1:=wm lo O 256 a 8 rfl fA j (by omega);have lm:=ah j;obtain⟨m1,j5⟩:∃m:Nat,Hid (256*O=m):=⟨_,ah rfl⟩
 rw[j5.out] at p1 o1;have P:=ah (aC (q8.below R) (aC (F.below R) (r.trans (R.mono r.size))));have Z:=ah ((R.block c (ai.1 I).1).trans I);clear q fo e1 e2 aB di bC x j q8 F I;go_upto_region 15 with (fail)
 have y:=aN w3 (.cells #[.pointer (some ⟨G,0,none⟩),.pointer (some ⟨c,0,none⟩)] 97);have h4:=aV w3 (.cells #[.pointer (some ⟨G,0,none⟩),.pointer (some ⟨c,0,none⟩)] 97);obtain⟨sb,jF⟩:=nm w3.heap.size;obtain⟨z,fJ⟩:=nm (w3.alloc (.cells #[.pointer (some ⟨G,0,none⟩),.pointer (some ⟨c,0,none⟩)] 97));rw[fJ.out] at y h4 ⊢;rw[jF.out] at h4 ⊢;have av:=ah (show ∀W:World,Below z.heap.size z W->(W.cell? ⟨sb,0,none⟩=some (.pointer (some ⟨G,0,none⟩))/\W.cell? ⟨sb,1,none⟩=some (.pointer (some ⟨c,0,none⟩))/\W.cell? ⟨N,po,none⟩=some (.int .u8 (lo:Int))/\W.cell? ⟨N,po+1,none⟩=some (.int .u8 (O:Int))/\sb<W.heap.size/\N<W.heap.size) from fun W s=>by
  have hl:=(ai.1 h4).1
  have E:=ax qb y.size
  have h5:=(s.block sb hl).trans h4
  exact⟨by simp[World.cell?,h5],by simp[World.cell?,h5],(s.cell (p:=⟨N,po,none⟩) E).trans ((y.cell (p:=⟨N,po,none⟩) qb).trans V),(s.cell (p:=⟨N,po+1,none⟩) E).trans ((y.cell (p:=⟨N,po+1,none⟩) qb).trans qo),ax hl s.size,ax E s.size⟩)
 have af:=ah y;clear V qo h4 y;refine aP (fun W=>W.cell? ⟨sb,0,none⟩=some (.pointer (some ⟨G,0,none⟩))/\W.cell? ⟨sb,1,none⟩=some (.pointer (some ⟨c,0,none⟩))/\W.cell? ⟨N,po,none⟩=some (.int .u8 (lo:Int))/\W.cell? ⟨N,po+1,none⟩=some (.int .u8 (O:Int))/\sb<W.heap.size/\N<W.heap.size) (fun i=> !([13,15].contains i)) [0,1,2,3,4,5,6,7,8,9,10,11,12,13,14,15,16,17] rfl (by kernel_rfl) (av.out _ ((aR _ z).drew)) ?_
 repeat (refine oq ?_ rfl rfl rfl ?_ ?_;rotate_left;(focus intro W s;(try dsimp only at s);obtain⟨a0,a1,a2,a3,a4,a5⟩:=s;go_simp;first|done|with_reducible rfl);try simp only[Act.put,aj,au,ak])
 obtain⟨ms,j4⟩:∃ms:VS,ms=⟨G,D,d,c⟩:=⟨_,rfl⟩
 have dn:=ah (TQ ms (a:Int) z.drew (by omega));rw[j4] at dn;refine dI rfl rfl rfl ?_;intro K hK;go_simp;refine dn.out.mono ?_;rintro e w5 ⟨rfl,Y,-,j6⟩;have t:Below z.heap.size z w5:=((aR _ z).drew).trans j6;refine hK.out _ _ (av.out _ t) ?_
 (try simp only[Act.put,aj,au,ak])
 repeat (refine oq ?_ rfl rfl rfl ?_ ?_;rotate_left;(focus intro W s;(try dsimp only at s);obtain⟨a0,a1,a2,a3,a4,a5⟩:=s;go_simp;first|done|with_reducible rfl);try simp only[Act.put,aj,au,ak])
 refine dI rfl rfl rfl ?_;intro K hK;go_simp;have dx:=aN w5 (.cells #[.pointer (some ⟨G,0,none⟩),.pointer (some ⟨c,0,none⟩),.pointer (some ⟨z.heap.size,0,none⟩),.bool false,.int .i64 0] 100);have h6:=aV w5 (.cells #[.pointer (some ⟨G,0,none⟩),.pointer (some ⟨c,0,none⟩),.pointer (some ⟨z.heap.size,0,none⟩),.bool false,.int .i64 0] 100);have p9:=t.trans (dx.mono t.size);refine hK.out _ _ (av.out _ p9) ?_
 (try simp only[Act.put,aj,au,ak])
 repeat (refine oq ?_ rfl rfl rfl ?_ ?_;rotate_left;(focus intro W s;(try dsimp only at s);obtain⟨a0,a1,a2,a3,a4,a5⟩:=s;go_simp;first|done|with_reducible rfl);try simp only[Act.put,aj,au,ak])
 refine bR ?_;go_wp2_with fail;go_ret2;have o:=af.out.trans (p9.mono af.out.size);have bN:=(ai.1 Z.out).1;have bH:∀g,T g->w.heap.size<=g:=fB
 have E:A.heap.size<=w3.heap.size:=P.out.2.2.size;have dR:=M.out.2.2.1.size;have aB:w3.heap.size<=z.heap.size:=af.out.size;have lQ:z.heap.size<=w5.heap.size:=t.size;have k:∀g,S g->g<A.heap.size:=fun g C=>ax (pM g C) dR
 have n:∀g,T g->g<A.heap.size:=M.out.2.1.sub
 have H:A.heap.size<=c:=bA;refine⟨w5.heap.size,z.heap.size,⟨G,D,d,c⟩,fun g=>S g\/T g\/g=c,rfl,rfl,rfl,h6,?_,⟨S,T,⟨jv.out,P.out.1.below o,P.out.2.1.below o,(o.block c bN).trans Z.out,dZ,fun e=>absurd (k c e) (bg.2 H),fun e=>absurd (n c e) (bg.2 H)⟩,fun g=>H8⟩,⟨?_,fun g C=> ?_⟩,?_,?_,?_,?_⟩
 ·exact(dx.block _ (ai.1 Y).1).trans Y
 ·refine(M.out.2.2.1.trans (Keep.of_below (P.out.2.2.trans (o.mono E)) gB) (fun _ _ e=>e.elim))
 ·rcases C with C|C|C
  ·exact .inl C
  ·exact .inr (bH g C)
  ·exact .inr (by rw[C];omega)
 ·rintro(e|e|e)
  ·have:=k _ e;omega
  ·have:=n _ e;omega
  ·omega
 ·rintro(e|e|e)
  ·have:=k _ e;omega
  ·have:=n _ e;omega
  ·omega
 ·omega
 ·omega
def JA:∀(l:List Int) (a:cK),(a.frees l).tk=a.tk
 |[],_=>rfl
 |y::l,a=>JA l (a.gone y)
def uH {f:Nat}{j e:VS}{c:Option Nat}{i:Bool}{g a d:Int}(h:w.heap[t]? =some (.cells (dF j c i g) 100 (0,0)))(b:dw w f e a d):t≠f:=by
 rintro rfl;unfold dw at b;rw[h] at b;injection b with b
 injection b with _ h2
 exact absurd h2 (by decide)
def tT (l:List Int):(qG l).Perm l:=su _ _
def Qb (t z:Nat)(n:VS)(d:Int)(B:Bool)(C:Int)(i:cK)(S:Nat->Prop)(w:World)(g l o r:List lU)(E:List Int)(a:ByteArray)(h:w.heap[t]? =some (.cells (dF n (some z) B C) 100 (0,0)))(F:Inv i S n w)(I:dw w z n d 0)(D:Live i d g E)(y:uw g a l o r)(O:g.length<=4090)(K:1<=a.size/\a.size<=128):
  Calls Tryz.prog 60 #[.pointer (some ⟨t,0,none⟩),.string a] w fun e j=>e= .returned (.int .i64 0)/\∃b,Inv b S n j/\Step S S w j/\mW i b (dO o) []/\b.tk=i.tk:=by
 have s:(jh g).length<=4090:=by rw[eH];exact O
 have c:sS ((dL (jh g) a).getD ⟨#[]⟩).data.toList=none->((dL (jh g) a).getD ⟨#[]⟩).size<=1000000->dO o=[]->Calls Tryz.prog 60 #[.pointer (some ⟨t,0,none⟩),.string a] w fun e j=>e= .returned (.int .i64 0)/\∃b,Inv b S n j/\Step S S w j/\mW i b (dO o) []/\b.tk=i.tk:=by
  intro k v m;refine(Cx t z n d B C i S w (jh g) E a h F I D.tree s K k v).mono ?_;rintro e j ⟨rfl,J⟩;rw[m];exact⟨rfl,i,F.below J,Step.of_below J,mW.refl (fun x H=>by cases H),rfl⟩
 rcases y.one with rfl|⟨e,rfl,Q⟩
 ·have f:dL (jh g) a=none:=y.ls
  refine c ?_ ?_ rfl
  ·rw[f];rfl
  ·rw[f];exact aS _
 ·have f:dL (jh g) a=some e.s:=y.ls
  have P:=D.val e (by rw[y.eq];simp);have q:dO [e]=e.b:=by simp[dO]
  rcases P with ⟨k,v,m⟩|⟨p,M,k,v,m,N⟩
  ·refine c ?_ ?_ (by rw[q,m])
   ·rw[f,VA,k];exact wC _
   ·rw[f,VA,k]
    have:(strOf (0::e.v.data.toList)).size=e.v.size+1:=(by show (0::e.v.data.toList).toArray.size=e.v.data.size+1;simp);omega
  ·refine(KF t z n d B C i S w (jh g) E a e.s p e.v.data.toList M h F I D.tree s K f (by rw[k];exact yQ p v.1) (by rw[k];show [1,UInt8.ofNat p,UInt8.ofNat (p/256)].toArray.size<=_;simp) m).mono ?_
   rintro R j ⟨rfl,G,A⟩;refine⟨rfl,_,G,A,?_,JA _ _⟩;rw[q,N];exact(Ba (qG (kH p M)) i (fun x H=>(m.all x ((CQ x).1 H)).1) ((tT _).nodup_iff.2 m.nd)).perm (tT _) (jH _)
structure Bg (w:World)(S:Nat->Prop)(t tr:Nat)(mp:VS)(σ:cK)(root err:Int)(ch:Bool)(er:Int):Prop where
 tx:w.heap[t]? =some (.cells (dF mp (some tr) ch er) 100 (0,0))
 tree:dw w tr mp root err
 inv:Inv σ S mp w
 nt:¬S t
 ntr:¬S tr
def Bg.keep {w':World}{M:Nat->Prop}{b:Nat}{j:VS}{k:cK}{a c:Int}{f:Bool}{i:Int}(h:Bg w S t b j k a c f i)(d:Keep M w w')(e:∀g,S g\/g=t\/g=b->¬M g):Bg w' S t b j k a c f i:=
 ⟨(d.block t (ai.1 h.tx).1 (e t (.inr (.inl rfl)))).trans h.tx,(d.block b (ai.1 h.tree).1 (e b (.inr (.inr rfl)))).trans h.tree,h.inv.lQ d (fun g l=>e g (.inl l)),h.nt,h.ntr⟩
def Bg.below {w':World}{c:Nat}{g:VS}{i:cK}{a b:Int}{d:Bool}{f:Int}(h:Bg w S t c g i a b d f)(j:Below w.heap.size w w'):Bg w' S t c g i a b d f:=h.keep (Keep.of_below j gB) (fun _ _ e=>e)
def gM (S S':Nat->Prop)(t tr:Nat)(w w':World):Prop:=Keep (fun g=>S g\/g=t\/g=tr) w w'/\∀g,S' g->S g\/w.heap.size<=g
def gM.of {a:Nat->Prop}{tr:Nat}{b:World}(h:Step S a w b):gM S a t tr w b:=⟨h.1.mono (fun _ _ e=> .inl e),h.2⟩
def gM.trans {f c:Nat->Prop}{a:Nat}{d i:World}(h:gM S f t a w d)(k:gM f c t a d i):gM S c t a w i:=
 ⟨h.1.trans k.1 (fun g b e=>e.elim (fun x=>(h.2 g x).elim .inl (fun y=>absurd b (bg.2 y))) .inr),fun g b=>(k.2 g b).elim (fun x=>h.2 g x) (fun x=> .inr (aK h.1.size x))⟩
def gM.one {S:Nat->Prop}{t b:Nat}{w a:World}(h:Keep (· =t) w a):gM S S t b w a:=⟨h.mono (fun _ _ e=> .inr (.inl e)),fun _ c=> .inl c⟩
def gM.tree {a:Nat->Prop}{b:Nat}{c:World}(h:Keep (fun g=>S g\/g=b) w c)(d:∀g,a g->S g\/w.heap.size<=g):gM S a t b w c:=⟨h.mono (fun _ _ e=>e.imp id .inr),d⟩
def WO (σ σ':cK)(tb:List Int)(c:Nat):Prop:=∀L,σ.sz+c<=L+nh σ tb->σ.tk<=L->σ'.tk<=L
def Uc (t tr:Nat)(mp:VS)(S:Nat->Prop)(σ:cK)(ch:Bool)(es l r:List lU)(tb:List Int)(key:ByteArray)(w w':World):Prop:=
 ∃σ' S' root' tb',Bg w' S' t tr mp σ' root' 0 (ch||(dL (je es) key).isSome) 0/\Live σ' root' (l++r) tb'/\mW σ σ' (tb++dO es) (tb'++dO (l++r))/\gM S S' t tr w w'/\WO σ σ' tb (2*(es.length+1))/\((l++r).length<=299->zh σ σ' 65)
def um (t tr:Nat)(mp:VS)(S:Nat->Prop)(σ:cK)(ch:Bool)(w w':World):Prop:=
 ∃σ' S' root' err',Bg w' S' t tr mp σ' root' err' ch 12/\σ'.H=σ.H/\σ'.most=σ.most/\gM S S' t tr w w'
def Ke {b a:cK}(h:mW b a c [])(d:a.tk=b.tk):zh b a 0:=by
 have e:=h.size;have f:nh b []=0:=rfl;exact⟨by omega,fun L _ t=>by omega⟩
def Nl {b a e:cK}{k:List Int}{j:List Int}{f l o r:List lU}{d:ByteArray}{c:Int}(_:a.most=b.most)(_:a.H=b.H)(v:a.sz+nh b k=b.sz+nh b [])(q:a.tk=b.tk)(m:Bh a j (jR (jh f) d) n e c)(i:uw f d l o r)(p:(l++r).length<=299):zh b e 65:=by
 obtain⟨_,_,_,_,h⟩:=m;have s:nh b []=0:=rfl;have g:zh b a 0:=⟨by omega,fun L _ t=>by omega⟩;exact(g.trans (h (by rw[i.ds,eH];exact p))).more (by omega)
theorem SL (t A:Nat)(V:VS)(d:Int)(K:Bool)(H:cK)(S:Nat->Prop)(w:World)(v l o r:List lU)(tb:List Int)(c:ByteArray)(M:Bg w S t A V H d 0 K 0)(hL:Live H d v tb)(R:uw v c l o r)(hl:v.length<=4090)(Q:1<=c.size/\c.size<=128):
  Calls Tryz.prog 117 #[.pointer (some ⟨t,0,none⟩),.string c] w fun e w'=>(e= .returned (.tuple #[.bool (dL (je v) c).isSome,.int .i64 0])/\Uc t A V S H K v l r tb c w w')\/
   (e= .returned (.tuple #[.bool false,.int .i64 12])/\H.most+nh H tb<H.sz+2*(v.length+1)/\um t A V S H K w w'):=by
 have D:=uH M.tx M.tree;have HU:=ah (oC t V A K 0 c w M.tx);have hu:iP 0 c=0:=by unfold iP;rw[if_neg (by simp),if_neg (by omega)]
 rw[hu] at HU;have HD:=ah (Qb t A V d K 0 H S w v l o r tb c M.tx M.inv M.tree hL R hl Q);have B:=ah M;have bC:=(ai.1 M.tx).1;have di:(jh v).length<=4090:=by rw[eH];exact hl
 have Z:(dL (jh v) c).isSome=(dL (je v) c).isSome:=by rw[R.ls,R.lv];cases o.head? <;>rfl
 obtain⟨bN,s⟩:=nx ((dL (je v) c).isSome);rw[<-s] at Z;have bA:=ah Z;have W:=ah s;rw[<-s];clear M hu Z s;go_enter Tryz.func117,Tryz.ntmps117;go_wp2_with (first|(go_at_call 59;go_must (refine HU.out.mono ?_;rintro e w1 ⟨rfl,rfl⟩))|(go_at_call 60;go_must (refine HD.out.mono ?_;rintro e w1 ⟨rfl,pM,X,N,qo,C⟩;refine sO ?_)))
 refine sN ?_;have J:Bg w1 S t A V pM d 0 K 0:=⟨(N.1.block t bC B.out.nt).trans B.out.tx,(N.1.block A (ai.1 B.out.tree).1 B.out.ntr).trans B.out.tree,X,B.out.nt,B.out.ntr⟩;have dn:=hL.all;have aB:=hL.own.nd;have bH:∀x∈dO o,x∈dO v:=fun x hx=>by rw[R.eq,iV,iV];simp[hx]
 have T:ze pM d (jh v) tb:=hL.tree.keep qo (fun x hx=> .inl (fun e=>oN aB x (bH x e) hx));have O:=JL A V d pM S (jh v) tb c w1 X J.tree B.out.ntr T (eD.1 aB).1 di Q;rw[bA.out] at O;have O:=ah O;have c2:w1.cell? ⟨t,2,none⟩=some (.pointer (some ⟨A,0,none⟩)):=by simp[World.cell?,J.tx,dF]
 have q:=(ai.1 J.tx).1;have m:=ah (aC J (aC qo N));clear X N qo J T;go_wp2_with (first|(go_at_call 161;go_must (refine O.out.mono ?_;rintro e w2 (⟨rfl,P,S2,b2,F,G,y,aA,k,n⟩|⟨rfl,I,P,S2,F,G,y,av,af,k,n⟩)<;>refine sO ?_)))
 ·refine sN ?_
  have b:=(k.block t q (fun e=>e.elim B.out.nt D)).trans m.out.1.tx;have f:¬S2 t:=fun e=>(n t e).elim B.out.nt (fun x=>absurd q (bg.2 x))
  have d3:w2.cell? ⟨t,3,none⟩=some (.bool K):=by simp[World.cell?,b,dF]
  have f3:w2.frozen? ⟨t,3,none⟩=false:=by simp[World.frozen?,b]
  have dx:=(ai.1 b).1;have a:=ah (aC b (aC F (aC G (aC k n))));have z:=ah aA;have j:=ah m.out.2.1;have E:=ah C;clear b F G k n aA;cases K
  ·go_wp2_with fail
   go_ret2;have i:Keep (· =t) w2 (w2.setCell ⟨t,3,none⟩ (.bool bN)):=(Keep.refl (· =t) _).setCell (p:=⟨t,3,none⟩) (.inr rfl) _;obtain⟨Y,qb,qc⟩:=Jd hL R j.out z.out;refine .inl ⟨rfl,P,S2,b2,Y,⟨?_,?_,a.out.2.1.lQ i (fun g Q e=>f (e▸Q)),f,y⟩,qb,qc,?_,fun L r t0=> ?_,fun hc=> ?_⟩
   ·rw[<-W.out]
    simp[World.setCell,aQ,a.out.1];rfl
   ·exact(i.block A (ai.1 a.out.2.2.1).1 (fun e=>D e.symm)).trans a.out.2.2.1
   ·exact((gM.of m.out.2.2).trans (gM.tree a.out.2.2.2.1 a.out.2.2.2.2)).trans (gM.one i)
   ·obtain⟨_,_,_,ql,_⟩:=z.out
    have q8:=j.out.size;have hz:nh H []=0:=rfl;refine ql L ?_ (by rw[C];exact t0);unfold lK;rw[vC j.out.H,eH];omega
   ·exact Nl j.out.most j.out.H j.out.size E.out z.out R hc
  ·go_wp2_with fail
   go_ret2;have i:Keep (· =t) w2 (w2.setCell ⟨t,3,none⟩ (.bool true)):=(Keep.refl (· =t) _).setCell (p:=⟨t,3,none⟩) (.inr rfl) _;obtain⟨Y,qb,qc⟩:=Jd hL R j.out z.out;refine .inl ⟨rfl,P,S2,b2,Y,⟨?_,?_,a.out.2.1.lQ i (fun g Q e=>f (e▸Q)),f,y⟩,qb,qc,?_,fun L r t0=> ?_,fun hc=> ?_⟩
   ·rw[<-W.out]
    simp[World.setCell,aQ,a.out.1];rfl
   ·exact(i.block A (ai.1 a.out.2.2.1).1 (fun e=>D e.symm)).trans a.out.2.2.1
   ·exact((gM.of m.out.2.2).trans (gM.tree a.out.2.2.2.1 a.out.2.2.2.2)).trans (gM.one i)
   ·obtain⟨_,_,_,ql,_⟩:=z.out
    have q8:=j.out.size;have hz:nh H []=0:=rfl;refine ql L ?_ (by rw[C];exact t0);unfold lK;rw[vC j.out.H,eH];omega
   ·exact Nl j.out.most j.out.H j.out.size E.out z.out R hc
 ·refine sN ?_
  have b:=(k.block t q (fun e=>e.elim B.out.nt D)).trans m.out.1.tx;have f:¬S2 t:=fun e=>(n t e).elim B.out.nt (fun x=>absurd q (bg.2 x))
  have bB:=ah (FV t V (some A) K 0 12 w2 b);have a:=ah (aC b (aC F (aC G (aC k n))));have p9:=ah (aC I (aC av af));have j:=ah m.out.2.1;clear b F G k n I av af;go_wp2_with (first|(go_at_call 61;go_must (refine bB.out.mono ?_;rintro e w3 ⟨rfl,h3,i⟩)))
  go_ret2;refine .inr ⟨rfl,?_,P,S2,d,12,⟨h3,(i.block A (ai.1 a.out.2.2.1).1 (fun e=>D e.symm)).trans a.out.2.2.1,a.out.2.1.lQ i (fun g Q e=>f (e▸Q)),f,y⟩,p9.out.2.1.trans j.out.H,p9.out.2.2.trans j.out.most,((gM.of m.out.2.2).trans (gM.tree a.out.2.2.2.1 a.out.2.2.2.2)).trans (gM.one i)⟩;have q9:=p9.out.1;have q8:=j.out.size;unfold Room at q9;rw[vC j.out.H,j.out.most,eH] at q9;have:nh H []=0:=rfl;omega
def gu (value:ByteArray):Nat:=if value.size<=63 then 0 else 1+rM value.size
def Ho (t tr:Nat)(mp:VS)(S:Nat->Prop)(σ:cK)(es l r:List lU)(tb:List Int)(key value:ByteArray)(w w':World):Prop:=
 ∃σ' S' root' tb' s nb,Bg w' S' t tr mp σ' root' 0 true 0/\Live σ' root' (l++⟨key,s,value,nb⟩::r) tb'/\mW σ σ' (tb++dO es) (tb'++dO (l++⟨key,s,value,nb⟩::r))/\gM S S' t tr w w'/\WO σ σ' tb (2*(es.length+1)+gu value)/\((l++⟨key,s,value,nb⟩::r).length<=299->zh σ σ' (65+gu value))
def EW (a:ByteArray):(⟨#[0]⟩:ByteArray)++a=strOf (0::a.data.toList):=by
 apply SC;rw[ByteArray.data_append];apply FR.1;rw[sD];rfl
theorem Qa (t c:Nat)(f:VS)(d:Bool)(w:World)(b a:ByteArray)(h:w.heap[t]? =some (.cells (dF f (some c) d 0) 100 (0,0)))(m:1<=b.size/\b.size<=128)(l:49152<a.size):
  Calls Tryz.prog 23 #[.pointer (some ⟨t,0,none⟩),.string b,.string a] w fun e j=>e= .returned (.int .i64 1)/\j=w:=by
 have i:=ah (oC t f c d 0 b w h);have g:iP 0 b=0:=by unfold iP;rw[if_neg (by simp),if_neg (by omega)]
 rw[g] at i;have n:(49152:Int)<(a.size:Int):=by omega
 clear h g;go_enter Tryz.func23,Ux;go_wp2_with (first|(go_at_call 59;go_must (refine i.out.mono ?_;rintro e k ⟨rfl,rfl⟩)))
 go_ret;exact⟨rfl,rfl⟩
def xH (t v:Nat)(x:VS)(b:Int)(n:Bool)(k:cK)(S:Nat->Prop)(w:World)(c l o r:List lU)(q:List Int)(a:ByteArray)(d:Bg w S t v x k b 0 n 0)(p:Live k b c q)(f:uw c a l o r)(A:c.length<=4090)(y:1<=a.size/\a.size<=128):
  Calls Tryz.prog 36 #[.pointer (some ⟨t,0,none⟩),.string a] w fun e z=>e= .returned (.tuple #[.string ((dL (je c) a).getD ByteArray.empty),.bool (dL (je c) a).isSome,.int .i64 0])/\Below w.heap.size w z:=by
 have i:(jh c).length<=4090:=by rw[eH];exact A
 rcases f.one with rfl|⟨e,rfl,B⟩
 ·have g:dL (jh c) a=none:=f.ls
  have m:dL (je c) a=none:=f.lv;have:=VR t v x b n k S w (jh c) q a ByteArray.empty [] d.tx d.inv d.tree p.tree i y (fun s j=>by rw[g] at j;cases j);rw[g] at this;rw[m];exact this
 ·have g:dL (jh c) a=some e.s:=f.ls
  have m:dL (je c) a=some e.v:=f.lv;have:=VR t v x b n k S w (jh c) q a e.v e.b d.tx d.inv d.tree p.tree i y (fun s j=>by
   rw[g] at j;cases j
   exact p.val e (by rw[f.eq];simp))
  rw[g] at this;rw[m];exact this
theorem NP (t j:Nat)(n:VS)(c:Int)(g:Bool)(k:cK)(S:Nat->Prop)(w:World)(d l o r:List lU)(p:List Int)(b a:ByteArray)(i:Bg w S t j n k c 0 g 0)(z:Live k c d p)(A:uw d b l o r)(B:d.length<=4090)(y:1<=b.size/\b.size<=128)(D:a.size<=49152)(C:dL (je d) b=some a):
  Calls Tryz.prog 23 #[.pointer (some ⟨t,0,none⟩),.string b,.string a] w fun e x=>e= .returned (.int .i64 0)/\Below w.heap.size w x:=by
 have s:=ah (oC t n j g 0 b w i.tx);have q:iP 0 b=0:=by unfold iP;rw[if_neg (by simp),if_neg (by omega)]
 rw[q] at s;have f:=xH t j n c g k S w d l o r p b i z A B y;rw[C] at f;have f:=ah f;have E:¬(49152:Int)<(a.size:Int):=by omega
 clear i q;go_enter Tryz.func23,Ux;go_wp2_with (first|(go_at_call 59;go_must (refine s.out.mono ?_;rintro e v ⟨rfl,rfl⟩))|(go_at_call 36;go_must (refine f.out.mono ?_;rintro e v ⟨rfl,m⟩)))
 go_ret;exact⟨rfl,m⟩
def Vk (a:Nat)(e:a<65536)(w:World):(convert 70 9 (.slice (some ⟨w.heap.size,0,none⟩) 3 3)).run Tryz.prog (w.alloc (.cells #[.int .u8 1,.int .u8 ((a:Int)%256),.int .u8 ((a:Int)/256)] 5))= .ok (.string (strOf [1,UInt8.ofNat a,UInt8.ofNat (a/256)])) (w.alloc (.cells #[.int .u8 1,.int .u8 ((a:Int)%256),.int .u8 ((a:Int)/256)] 5)):=by
 have b:[Value.int .u8 1,.int .u8 ((a:Int)%256),.int .u8 ((a:Int)/256)]=aI [1,UInt8.ofNat a,UInt8.ofNat (a/256)]:=by
  simp[aI,fC];omega
 have c:Row (w.alloc (.cells #[.int .u8 1,.int .u8 ((a:Int)%256),.int .u8 ((a:Int)/256)] 5)) w.heap.size 5 (aI [1,UInt8.ofNat a,UInt8.ofNat (a/256)]):=by
  rw[<-b];exact Row.new w _ _
 have d:aZ (w.alloc (.cells #[.int .u8 1,.int .u8 ((a:Int)%256),.int .u8 ((a:Int)/256)] 5)) gB 1 (.slice (some ⟨w.heap.size,0,none⟩) 3 3) [1,UInt8.ofNat a,UInt8.ofNat (a/256)].length (aI [1,UInt8.ofNat a,UInt8.ofNat (a/256)]):=by
  have:=c.dx (S:=gB) (k:=1) (off:=0) 3 3 (by simp[aI]) id (aD _) (by simp[maxLen]);rw[dQ,aJ (by simp[aI])] at this;exact this
 exact d.strOf
theorem KE (t tr:Nat)(N:VS)(c:Int)(T:Bool)(q:cK)(S:Nat->Prop)(w:World)(B l o r:List lU)(Y:List Int)(f a:ByteArray)(hT:Bg w S t tr N q c 0 T 0)(hL:Live q c B Y)(hA:uw B f l o r)(hl:B.length<=4090)(hg:1<=f.size/\f.size<=128)(hv:a.size<=63)(n:Bool)(dZ:ByteArray)(V:(dL (je B) f).isSome=n/\(dL (je B) f).getD ByteArray.empty=dZ)(bC:n=true->(dZ.toList==a.toList)=false):
  Calls Tryz.prog 23 #[.pointer (some ⟨t,0,none⟩),.string f,.string a] w fun e w'=>(e= .returned (.int .i64 0)/\Ho t tr N S q B l r Y f a w w')\/
   (e= .returned (.int .i64 12)/\q.most+nh q Y<q.sz+2*(B.length+1)+gu a/\um t tr N S q T w w'):=by
 have M:=uH hT.tx hT.tree;have HU:=ah (oC t N tr T 0 f w hT.tx);have hu:iP 0 f=0:=by unfold iP;rw[if_neg (by simp),if_neg (by omega)]
 rw[hu] at HU;have HG:=xH t tr N c T q S w B l o r Y f hT hL hA hl hg;rw[V.1,V.2] at HG;have HG:=ah HG;have x1:¬(49152:Int)<(a.size:Int):=by omega
 have x2:¬(63:Int)<(a.size:Int):=by omega
 have hb:gu a=0:=if_pos hv;have lg:=ah hb;have x0:=hv;have K:=ah hT;have j6:(jh B).length<=4090:=by rw[eH];exact hl
 have kr:=hL.all;have fK:=hL.own.nd;have jv:∀x∈dO o,x∈dO B:=fun x hx=>by rw[hA.eq,iV,iV];simp[hx]
 have D:=hL.tree.count;rw[eH] at D;have dn:=sQ q Y;have H:(⟨#[0]⟩:ByteArray)++a=strOf (0::a.data.toList):=EW a;have Z:(strOf (0::a.data.toList)).size=a.size+1:=by show (0::a.data.toList).toArray.size=a.data.size+1;simp
 have fo:∀W:World,(Op.stringOp .add (⟨#[0]⟩:ByteArray) a).run Tryz.prog W= .ok (.string (strOf (0::a.data.toList))) W:=fun W=>by rw[<-H];exact run_string_add W _ _ (by show ((1:Nat):Int)<=_;omega) (by omega)
 have fA:=ah Z;have aA:=ah H;obtain⟨i,v⟩:=nm (strOf (0::a.data.toList));rw[v.out] at fo fA aA;have pM:=ah (aC D (aC dn hb));clear hT hu H Z hb D dn;go_enter Tryz.func23,Ux;go_wp2_with (first|(go_at_call 59;go_must (refine HU.out.mono ?_;rintro e w1 ⟨rfl,rfl⟩))|(go_at_call 36;go_must (refine HG.out.mono ?_;rintro e w1 ⟨rfl,af⟩;refine sO ?_)))
 refine sN ?_;have C:=K.out.below af;have bH:=(ai.1 C.tx).1;have HD:=ah (Qb t tr N c T 0 q S w1 B l o r Y f C.tx C.inv C.tree hL hA hl hg);have Q:=ah (aC C af);clear C af;cases n
 all_goals
  try have bC:=bC rfl
  go_wp2_with (first|(go_at_call 60;go_must (refine HD.out.mono ?_;rintro e w2 ⟨rfl,A,aB,P,av,R⟩;refine sO ?_)))
  refine sN ?_;have z:Bg w2 S t tr N A c 0 T 0:=⟨(P.1.block t bH K.out.nt).trans Q.out.1.tx,(P.1.block tr (ai.1 Q.out.1.tree).1 K.out.ntr).trans Q.out.1.tree,aB,K.out.nt,K.out.ntr⟩;have X:ze A c (jh B) Y:=hL.tree.keep av (fun x hx=> .inl (fun e=>oN fK x (jv x e) hx));have y:=(ai.1 z.tx).1;have bN:=ah ((gM.of (t:=t) (tr:=tr) (Step.of_below (S:=S) Q.out.2)).trans (gM.of P));have F:=ah av;have fB:=ah X;clear aB P av X;have di:mW A A [] []:=mW.refl (fun x hx=>by cases hx);have dR:ValAt A i a []:= .inl ⟨v.out.symm,x0,rfl⟩;have O:=ah (aC di dR);clear di dR;have jF:=ah (IU tr N c A S (jh B) Y f i w2 z.inv z.tree K.out.ntr fB.out (eD.1 fK).1 j6 ⟨hg,by have:=fA.out;omega⟩);have c2:World.cell? w2 ⟨t,2,none⟩=some (.pointer (some ⟨tr,0,none⟩)):=by simp[World.cell?,z.tx,dF]
  have bA:=ah z;clear z;go_wp2_with (first|(go_at_call 63;go_must (refine jF.out.mono ?_;rintro e w5 (⟨rfl,qb,S3,b3,G,I,E,dx,s,m⟩|⟨rfl,J,qb,S3,G,I,E,bB,fJ,s,m⟩)<;>refine sO ?_)))
  ·refine sN ?_
   have b:=(s.block t y (fun e=>e.elim K.out.nt M)).trans bA.out.tx;have j:¬S3 t:=fun e=>(m t e).elim K.out.nt (fun x=>absurd y (bg.2 x))
   have d3:w5.cell? ⟨t,3,none⟩=some (.bool T):=(by simp[World.cell?,b,dF]);have f3:w5.frozen? ⟨t,3,none⟩=false:=(by simp[World.frozen?,b]);have kT:=(ai.1 b).1;have d:=ah (aC b (aC G (aC I (aC s m))));have qc:=ah dx;clear b G I s m dx;go_wp2_with fail;go_ret;have q9:Keep (· =t) w5 (w5.setCell ⟨t,3,none⟩ (.bool true)):=(Keep.refl (· =t) _).setCell (p:=⟨t,3,none⟩) (.inr rfl) _;obtain⟨jl,jO,j3⟩:=Jc hL hA F.out O.out.1 O.out.2 qc.out;refine .inl ⟨rfl,qb,S3,b3,jl,i,_,⟨?_,?_,d.out.2.1.lQ q9 (fun g hg e=>j (e▸hg)),j,E⟩,jO,j3,?_,fun L r t0=> ?_,fun hc=> ?_⟩
   ·simp[World.setCell,aQ,d.out.1]
    rfl
   ·exact(q9.block tr (ai.1 d.out.2.2.1).1 (fun e=>M e.symm)).trans d.out.2.2.1
   ·exact(bN.out.trans (gM.tree d.out.2.2.2.1 d.out.2.2.2.2)).trans (gM.one q9)
   ·obtain⟨_,_,_,j5,_⟩:=qc.out
    have k:=F.out.trans O.out.1;have iO:=k.size;have ko:=F.out.size;have j4:=sQ q [];have q8:=pM.out;have hz:nh q []=0:=rfl;have h0:nh q []=0:=rfl;rw[q8.2.2] at r;refine j5 L ?_ ?_
    ·unfold lK
     rw[vC k.H,eH];omega
    ·rw[R];exact t0
   ·obtain⟨_,_,_,_,kg⟩:=qc.out
    have h0:=Ke F.out R;have h2:=kg (by rw[hA.is i a [],eH];exact hc);exact(h0.trans h2).more (by omega)
  ·refine sN ?_
   have b:=(s.block t y (fun e=>e.elim K.out.nt M)).trans bA.out.tx;have j:¬S3 t:=fun e=>(m t e).elim K.out.nt (fun x=>absurd y (bg.2 x))
   have jb:=ah (FV t N (some tr) T 0 12 w5 b);have d:=ah (aC b (aC G (aC I (aC s m))));have qo:=ah (aC J (aC bB fJ));clear b G I s m J bB fJ;go_wp2_with (first|(go_at_call 61;go_must (refine jb.out.mono ?_;rintro e w6 ⟨rfl,h6,ql⟩)))
   go_ret;have k:=F.out.trans O.out.1;refine .inr ⟨rfl,?_,qb,S3,c,12,⟨h6,(ql.block tr (ai.1 d.out.2.2.1).1 (fun e=>M e.symm)).trans d.out.2.2.1,d.out.2.1.lQ ql (fun g hg e=>j (e▸hg)),j,E⟩,qo.out.2.1.trans k.H,qo.out.2.2.trans k.most,(bN.out.trans (gM.tree d.out.2.2.2.1 d.out.2.2.2.2)).trans (gM.one ql)⟩;have p9:=qo.out.1;have iO:=k.size;have j4:=sQ q [];unfold Room at p9;rw[vC k.H,k.most,eH] at p9;have q8:=pM.out;have h0:nh q []=0:=rfl;rw[q8.2.2];omega
theorem NQ (t tr:Nat)(F:VS)(d:Int)(ch:Bool)(G:cK)(S:Nat->Prop)(w:World)(K l o r:List lU)(tb:List Int)(i a:ByteArray)(hT:Bg w S t tr F G d 0 ch 0)(hL:Live G d K tb)(hA:uw K i l o r)(hl:K.length<=4090)(hg:1<=i.size/\i.size<=128)(hv:63<a.size/\a.size<=49152)(C:Bool)(l6:ByteArray)(bB:(dL (je K) i).isSome=C/\(dL (je K) i).getD ByteArray.empty=l6)(j6:C=true->(l6.toList==a.toList)=false):
  Calls Tryz.prog 23 #[.pointer (some ⟨t,0,none⟩),.string i,.string a] w fun e w'=>(e= .returned (.int .i64 0)/\Ho t tr F S G K l r tb i a w w')\/
   (e= .returned (.int .i64 12)/\G.most+nh G tb<G.sz+2*(K.length+1)+gu a/\um t tr F S G ch w w'):=by
 have V:=uH hT.tx hT.tree;have HU:=ah (oC t F tr ch 0 i w hT.tx);have hu:iP 0 i=0:=by unfold iP;rw[if_neg (by simp),if_neg (by omega)]
 rw[hu] at HU;have HG:=xH t tr F d ch G S w K l o r tb i hT hL hA hl hg;rw[bB.1,bB.2] at HG;have HG:=ah HG;have x1:¬(49152:Int)<(a.size:Int):=by omega
 have x2:(63:Int)<(a.size:Int):=by omega
 have hb:gu a=1+rM a.size:=if_neg (by omega);have rJ:=ah hb;have s:=ah hT;have o6:(jh K).length<=4090:=by rw[eH];exact hl
 have rF:=hL.all;have mK:=hL.own.nd;have nH:∀x∈dO o,x∈dO K:=fun x hx=>by rw[hA.eq,iV,iV];simp[hx]
 have T:=hL.tree.count;rw[eH] at T;have lg:=sQ G tb;have Z:(⟨#[0]⟩:ByteArray)++a=strOf (0::a.data.toList):=EW a;have bH:(strOf (0::a.data.toList)).size=a.size+1:=by show (0::a.data.toList).toArray.size=a.data.size+1;simp
 have bN:∀W:World,(Op.stringOp .add (⟨#[0]⟩:ByteArray) a).run Tryz.prog W= .ok (.string (strOf (0::a.data.toList))) W:=fun W=>by rw[<-Z];exact run_string_add W _ _ (by show ((1:Nat):Int)<=_;omega) (by omega)
 have qo:=ah bH;have av:=ah Z;obtain⟨j,f⟩:=nm (strOf (0::a.data.toList));rw[f.out] at bN qo av;have H:=ah (aC T (aC lg hb));clear hT hu Z bH hb T lg;go_enter Tryz.func23,Ux;go_wp2_with (first|(go_at_call 59;go_must (refine HU.out.mono ?_;rintro e w1 ⟨rfl,rfl⟩))|(go_at_call 36;go_must (refine HG.out.mono ?_;rintro e w1 ⟨rfl,jb⟩;refine sO ?_)))
 refine sN ?_;have Q:=s.out.below jb;have kg:=(ai.1 Q.tx).1;have HD:=ah (Qb t tr F d ch 0 G S w1 K l o r tb i Q.tx Q.inv Q.tree hL hA hl hg);have q8:=ah (aC Q jb);clear Q jb;cases C
 all_goals
  try have j6:=j6 rfl
  go_wp2_with (first|(go_at_call 60;go_must (refine HD.out.mono ?_;rintro e w2 ⟨rfl,J,jF,ql,jl,q9⟩;refine sO ?_)))
  refine sN ?_;have I:Bg w2 S t tr F J d 0 ch 0:=⟨(ql.1.block t kg s.out.nt).trans q8.out.1.tx,(ql.1.block tr (ai.1 q8.out.1.tree).1 s.out.ntr).trans q8.out.1.tree,jF,s.out.nt,s.out.ntr⟩;have bC:ze J d (jh K) tb:=hL.tree.keep jl (fun x hx=> .inl (fun e=>oN mK x (nH x e) hx));have dn:=(ai.1 I.tx).1;have ko:=ah ((gM.of (t:=t) (tr:=tr) (Step.of_below (S:=S) q8.out.2)).trans (gM.of ql));have q:=ah jl;have mo:=ah bC;clear jF ql jl bC;have c0:w2.cell? ⟨t,0,none⟩=some (.pointer (some ⟨F.tx,0,none⟩)):=by simp[World.cell?,I.tx,dF]
  have c1:w2.cell? ⟨t,1,none⟩=some (.pointer (some ⟨F.mp,0,none⟩)):=by simp[World.cell?,I.tx,dF]
  have HW:=ah (Vm F J S w2 a I.inv (by omega) (by omega));have m:=ah I;clear I;go_wp2_with (first|(go_at_call 62;go_must (refine HW.out.mono ?_;rintro e w3 (⟨z,rs,O,rfl,qc,fA,bA,M,k⟩|⟨rfl,af,O,M,k,lC,kr⟩)<;>refine sO ?_)))
  ·refine sN ?_
   have fo:Bg w3 S t tr F O d 0 ch 0:=⟨(k.1.block t dn s.out.nt).trans m.out.tx,(k.1.block tr (ai.1 m.out.tree).1 s.out.ntr).trans m.out.tree,M,s.out.nt,s.out.ntr⟩;have l9:=(ai.1 fo.tx).1;have l5:z<65536:=by
    obtain⟨n,q1,q2,_⟩:=cK.kT qc.hd.has;have:=M.cap;omega
   have aA:(kH z rs).length=1+rM a.size:=by
    have e1:=qc.hd.len;have e2:a.data.toList.length=a.size:=(by show a.data.toList.length=a.data.size;simp);rw[e2] at e1;simp[kH,e1];omega
   have pM:=ah aA;have N:=ah (aC fA (show ValAt O (strOf [1,UInt8.ofNat z,UInt8.ofNat (z/256)]) a (kH z rs) from .inr ⟨z,rs,rfl,⟨l5,hv.1⟩,qc,rfl⟩));have j3:=ah (mo.out.keep fA (fun x _=> .inl (by simp)));have nJ:=ah (ko.out.trans (gM.of k));clear f qo av bN;have kT:=ah (Vk z l5 w3);have q1:IntKind.i64.wrap ((z:Int)/256)=(z:Int)/256:=aG _ (by omega);have di:=ah bA;clear aA fA qc M k bA;go_upto_region 17 with (fail)
   have oo:=kT.out;go_upto_region 18 with (fail)
   obtain⟨j,f⟩:=nm (strOf [1,UInt8.ofNat z,UInt8.ofNat (z/256)]);rw[f.out] at N ⊢;have qo:=ah (show j.size=3 by rw[<-f.out];rfl);clear oo kT;obtain⟨w4,jv,iO⟩:∃w4,w4=w3.alloc (.cells #[.int .u8 1,.int .u8 ((z:Int)%256),.int .u8 ((z:Int)/256)] 5)/\Below w3.heap.size w3 w4:=⟨_,rfl,aN _ _⟩
   rw[<-jv];have R:=fo.below iO;have lJ:=ah (nJ.out.trans (gM.of (Step.of_below (S:=S) iO)));have E:=(ai.1 R.tx).1;clear fo jv iO;have nS:=ah (IU tr F d O S (jh K) tb i j w4 R.inv R.tree s.out.ntr j3.out (eD.1 mK).1 o6 ⟨hg,by have:=qo.out;omega⟩);have c2:World.cell? w4 ⟨t,2,none⟩=some (.pointer (some ⟨tr,0,none⟩)):=(by simp[World.cell?,R.tx,dF]);have j4:=ah R;clear R;go_wp2_with (first|(go_at_call 63;go_must (refine nS.out.mono ?_;rintro e w5 (⟨rfl,dR,S3,b3,Y,p9,X,lQ,D,A⟩|⟨rfl,qb,dR,S3,Y,p9,X,j5,mr,D,A⟩)<;>refine sO ?_)))
   ·refine sN ?_
    have c:=(D.block t E (fun e=>e.elim s.out.nt V)).trans j4.out.tx;have v:¬S3 t:=fun e=>(A t e).elim s.out.nt (fun x=>absurd E (bg.2 x))
    have d3:w5.cell? ⟨t,3,none⟩=some (.bool ch):=(by simp[World.cell?,c,dF]);have f3:w5.frozen? ⟨t,3,none⟩=false:=(by simp[World.frozen?,c]);have l9:=(ai.1 c).1;have b:=ah (aC c (aC Y (aC p9 (aC D A))));have fB:=ah lQ;clear c Y p9 D A lQ;go_wp2_with fail;go_ret;have fK:Keep (· =t) w5 (w5.setCell ⟨t,3,none⟩ (.bool true)):=(Keep.refl (· =t) _).setCell (p:=⟨t,3,none⟩) (.inr rfl) _;obtain⟨nk,oH,oK⟩:=Jc hL hA q.out N.out.1 N.out.2 fB.out;refine .inl ⟨rfl,dR,S3,b3,nk,j,_,⟨?_,?_,b.out.2.1.lQ fK (fun g hg e=>v (e▸hg)),v,X⟩,oH,oK,?_,fun L r t0=> ?_,fun hc=> ?_⟩
    ·simp[World.setCell,aQ,b.out.1]
     rfl
    ·exact(fK.block tr (ai.1 b.out.2.2.1).1 (fun e=>V e.symm)).trans b.out.2.2.1
    ·exact(lJ.out.trans (gM.tree b.out.2.2.2.1 b.out.2.2.2.2)).trans (gM.one fK)
    ·obtain⟨_,_,_,o5,_⟩:=fB.out
     have y:=q.out.trans N.out.1;have jO:=y.size;have rA:=q.out.size;have oO:=sQ G (kH z rs);have P:=H.out;have hz:nh G []=0:=rfl;have lm:=pM.out;rw[P.2.2] at r;refine o5 L ?_ ?_
     ·unfold lK
      rw[vC y.H,eH];omega
     ·have e1:=di.out;have e2:a.data.toList.length=a.size:=(by show a.data.toList.length=a.data.size;simp);rw[e2,q9] at e1;omega
    ·obtain⟨_,_,_,_,o7⟩:=fB.out
     have h0:=Ke q.out q9;have h2:=o7 (by rw[hA.is j a (kH z rs),eH];exact hc);have e2:a.data.toList.length=a.size:=(by show a.data.toList.length=a.data.size;simp);have e1:=di.out;rw[e2] at e1;have P:=H.out;have k:=N.out.1.size;have rG:=sQ J (kH z rs);have hz:nh J []=0:=rfl;have lm:=pM.out;have h1:zh J O (gu a):=⟨by omega,fun L r t=>by omega⟩;exact((h0.trans h1).trans h2).more (by omega)
   ·refine sN ?_
    have c:=(D.block t E (fun e=>e.elim s.out.nt V)).trans j4.out.tx;have v:¬S3 t:=fun e=>(A t e).elim s.out.nt (fun x=>absurd E (bg.2 x))
    have dZ:=ah (FV t F (some tr) ch 0 12 w5 c);have b:=ah (aC c (aC Y (aC p9 (aC D A))));have fJ:=ah (aC qb (aC j5 mr));clear c Y p9 D A qb j5 mr;go_wp2_with (first|(go_at_call 61;go_must (refine dZ.out.mono ?_;rintro e w6 ⟨rfl,h6,B⟩)))
    go_ret;have y:=q.out.trans N.out.1;refine .inr ⟨rfl,?_,dR,S3,d,12,⟨h6,(B.block tr (ai.1 b.out.2.2.1).1 (fun e=>V e.symm)).trans b.out.2.2.1,b.out.2.1.lQ B (fun g hg e=>v (e▸hg)),v,X⟩,fJ.out.2.1.trans y.H,fJ.out.2.2.trans y.most,(lJ.out.trans (gM.tree b.out.2.2.2.1 b.out.2.2.2.2)).trans (gM.one B)⟩;have dx:=fJ.out.1;have jO:=y.size;have oO:=sQ G (kH z rs);unfold Room at dx;rw[vC y.H,y.most,eH] at dx;have P:=H.out;have lm:=pM.out;rw[P.2.2];omega
  ·refine sN ?_
   have c:=(k.1.block t dn s.out.nt).trans m.out.tx;have dZ:=ah (FV t F (some tr) ch 0 12 w3 c);have aB:=(k.1.block tr (ai.1 m.out.tree).1 s.out.ntr).trans m.out.tree;have b:=ah (aC M (aC k (aC aB (aC af (aC lC kr)))));clear c M k af lC kr aB;go_wp2_with (first|(go_at_call 61;go_must (refine dZ.out.mono ?_;rintro e w6 ⟨rfl,h6,B⟩)))
   go_ret;refine .inr ⟨rfl,?_,O,S,d,0,⟨h6,(B.block tr (ai.1 b.out.2.2.1).1 (fun e=>V e.symm)).trans b.out.2.2.1,b.out.1.lQ B (fun g hg e=>s.out.nt (e▸hg)),s.out.nt,s.out.ntr⟩,b.out.2.2.2.2.1.trans q.out.H,b.out.2.2.2.2.2.trans q.out.most,(ko.out.trans (gM.of b.out.2.1)).trans (gM.one B)⟩;have nA:=b.out.2.2.2.1;have jO:=q.out.size;have rP:=q.out.most;have P:=H.out;have e2:a.data.toList.length=a.size:=(by show a.data.toList.length=a.data.size;simp);rw[e2] at nA;rw[P.2.2];have:nh G []=0:=rfl;omega
def vR (kv:List Pr)(key:ByteArray)(most:Int):List Pr:=(kv.drop (bX kv key)).take most.toNat
def aT.set2 {B g c:Nat}{a:List Pr}(h:aT w S B 103 2 (.slice (some ⟨g,0,none⟩) n c) n (dP a))(i:Nat)(s:i<n)(t:a.length=n)(u:ByteArray):
  aT (w.setCell ⟨g,i*2+1,none⟩ (.string u)) S B 103 2 (.slice (some ⟨g,0,none⟩) n c) n (dP (a.set i (a[i].1,u)))/\Keep (· =g) w (w.setCell ⟨g,i*2+1,none⟩ (.string u))/\w.frozen? ⟨g,i*2+1,none⟩=false/\g<w.heap.size/\B<=g:=by
 obtain⟨d,e,o,q,b,m,r,l⟩:=h.row;have j:Keep (· =g) w (w.setCell ⟨g,i*2+1,none⟩ (.string u)):=Keep.setCell (M:=(· =g)) (p:=⟨g,i*2+1,none⟩) (Keep.refl _ _) (.inr rfl) _;have f:Row (w.setCell ⟨g,i*2+1,none⟩ (.string u)) g 103 (d.set (i*2+1) (.string u)):=by
  unfold Row at e ⊢;simp[World.setCell,aQ,e]
 refine⟨?_,j,e.frozen _,e.lt,b⟩;have:=f.own (S:=S) (B:=B) (k:=2) (cap:=c) n (by simpa using o) b m r l;rw[show (d.set (i*2+1) (.string u)).take (n*2)=dP (a.set i (a[i].1,u)) from by rw[<-Bv _ _ i (by omega),<-q,<-List.take_set]] at this;exact this
def yg (es:List lU)(k:Nat):List Pr:=je (es.take k)++jh (es.drop k)
def qz (a:List lU)(k:Nat):(yg a k).length=a.length:=by
 unfold yg;rw[ay,iR,eH,aH,aO];omega
def M9 (a:List lU)(k:Nat)(h:k<a.length):(yg a k)[k]'(by rw[qz];exact h)=(a[k].k,a[k].s):=by
 unfold yg;have b:(je (a.take k)).length=k:=by rw[iR,aH];omega
 rw[sj (by omega)];simp[jh,b]
def QY (a:List lU)(k:Nat)(h:k<a.length):(yg a k).set k (a[k].k,a[k].v)=yg a (k+1):=by
 unfold yg;have b:(je (a.take k)).length=k:=by rw[iR,aH];omega
 have e:jh (a.drop k)=(a[k].k,a[k].s)::jh (a.drop (k+1)):=by rw[cu h];rfl
 rw[jr _ _ (by omega),b,ru,e,au,aL h,nN];simp[je]
def QZ (a:List lU):yg a a.length=je a:=by unfold yg;simp[jh]
def OA (a:List lU):yg a 0=jh a:=by unfold yg;simp[je]
def Oc (c:List lU)(b:ByteArray)(a:Int):∃d:List lU,(∀e∈d,e∈c)/\((jh c).drop (bX (jh c) b)).take a.toNat=jh d/\vR (je c) b a=je d:=by
 refine⟨(c.drop (vL c b)).take a.toNat,fun e f=>cZ (eT f),?_,?_⟩
 ·show ((jh c).drop (bX (jh c) b)).take a.toNat=_
  unfold jh;rw[Gs (fun e=>(e.k,e.s)) (fun _=>rfl),gI,fT]
 ·unfold vR je
  rw[Gs (fun e=>(e.k,e.v)) (fun _=>rfl),gI,fT]
theorem VO (t O:Nat)(R:VS)(o:Int)(W:Bool)(T:cK)(S:Nat->Prop)(w:World)(r:List lU)(tb:List Int)(l:ByteArray)(a:Int)(y:Bg w S t O R T o 0 W 0)(hL:Live T o r tb)(hl:r.length<=4090):
  Calls Tryz.prog 29 #[.pointer (some ⟨t,0,none⟩),.string l,.int .i64 a] w fun e w'=>∃v,e= .returned (.tuple #[v,.int .i64 0])/\aT w' S w.heap.size 103 2 v (vR (je r) l a).length (dP (vR (je r) l a))/\Below w.heap.size w w':=by
 have HU:=ah (oC t R O W 0 ⟨#[107]⟩ w y.tx);have hu:iP 0 (⟨#[107]⟩:ByteArray)=0:=by decide
 rw[hu] at HU;obtain⟨m,N,q,x⟩:=Oc r l a;have G:=EX O R o T S (jh r) tb l a w y.inv y.tree hL.tree (by rw[eH];exact hl);have q:((jh r).drop (bX (jh r) l)).take a.toNat=jh m:=q;rw[q] at G;have G:=ah G;have Z:=ah (aC N x);have c2:w.cell? ⟨t,2,none⟩=some (.pointer (some ⟨O,0,none⟩)):=by simp[World.cell?,y.tx,dF]
 have qo:=(ai.1 y.tx).1;have HT:=ah y;rw[x,iR];obtain⟨n,V⟩:=nx m.length;have J:=ah V;rw[eH,<-V] at G;rw[<-V];clear y hu N q x V;go_enter Tryz.func29,Tryz.ntmps29;go_wp2_with (first|(go_at_call 59;go_must (refine HU.out.mono ?_;rintro e w1 ⟨ql,rfl⟩;subst w1))|(go_at_call 47;go_must (refine G.out.mono ?_;rintro e w1 ⟨v,rfl,b,P⟩;refine sO ?_)))
 refine sN ?_;obtain⟨ao,cp,rfl,_,_,_,_⟩:=aZ.form b.dx;rw[<-OA] at b;have Y:=ah b;have p9:=ah P;clear b P;go_wp2_with fail;go_loopw [10,11,12,35] (fun e _ _ i wr=>∃k:Nat,k<=n/\e= .int .i64 0/\i= .int .i64 k/\aT wr S w.heap.size 103 2 (.slice ao n cp) n (dP (yg m k))/\Below w.heap.size w wr) (fun _ _ _ i _=>n - (intOf i).toNat)
 case atStart=>exact⟨0,aS _,rfl,rfl,Y.out,p9.out⟩
 case round=>
  obtain⟨k,hk,rfl,rfl,j,s⟩:=hrel
  by_cases A:k<n
  ·have y1:(k:Int)<(n:Int):=by omega
   obtain⟨g,c,e,af,q9,q8,qc⟩:=j.yx (by omega);cases e
   have f:k<m.length:=(by rw[<-J.out];exact A);have hP:jo wr S (.slice (some ⟨g,0,none⟩) n cp) (yg m k):=by
    have:=j.dx;unfold jo;rw[qz,<-J.out];exact this
   obtain⟨pb,po,e1,X,Q⟩:=hP.at rfl k (by rw[qz];exact f);cases e1
   rw[M9 m k f] at X Q;rw[dX] at X Q;obtain⟨E,hE⟩:=nm (m[k]);rw[hE.out] at X Q;have H:E∈r:=Z.out.1 E (by rw[<-hE.out];exact bF f);have HV:=ah (hL.val E H);have z:=HT.out.below s;have pM:=ah j;have I:=ah s;have D:=ah z;have qb:=(ai.1 z.tx).1;clear j s z hP;go_wp2_with (first|(go_at_call 68;go_must (refine(P8 t R (some O) W 0 T S _ E.s E.v E.b (((aN wr (.cells #[.string E.k,.string E.s] 103)).block t qb).trans D.out.tx) (D.out.inv.below (aN wr (.cells #[.string E.k,.string E.s] 103))) HV.out).mono ?_;rintro e w5 ⟨M,rfl⟩;refine sO ?_)))
   refine sN ?_;have d:Below wr.heap.size wr w5:=(aN wr (.cells #[.string E.k,.string E.s] 103)).trans (M.mono (by simp));have C:=pM.out.below d;obtain⟨u1,u2,u3,u4,u5⟩:=C.set2 k A (by rw[qz,<-J.out]) E.v;have u0:w5.cell? ⟨g,k*2+1,none⟩=some (.string E.s):=(d.cell (p:=⟨g,k*2+1,none⟩) qc).trans Q;have K:(yg m k).set k (((yg m k)[k]'(by rw[qz];exact f)).1,E.v)=yg m (k+1):=by
    rw[M9 m k f,<-hE.out];exact QY m k f
   rw[K] at u1;have B:Below w.heap.size w (w5.setCell ⟨g,k*2+1,none⟩ (.string E.v)):=(I.out.trans (d.mono I.out.size)).setCell (by simpa using u5) _;have F:=ah (aC u1 B);clear u1 u2 C d M K B;go_wp2_with fail;go_roundw
   case rel=>exact⟨k+1,by omega,rfl,by go_num,F.out.1,F.out.2⟩
   case measure=>simp[intOf];omega
  ·obtain rfl:k=n:=by omega
   have y1:¬(k:Int)<(k:Int):=(by omega);rw[J.out,QZ] at j;go_wp2_with fail;go_ret2;exact⟨_,rfl,by rw[J.out];exact j,s⟩
theorem Qf (t y:Nat)(a:VS)(A:Bool)(B:Int)(l:cK)(S:Nat->Prop)(u:FrameMode)(w:World)(h:w.heap[t]? =some (.cells (dF a (some y) A B) 100 (0,0)))(c:Inv l S a w)(j:¬S t):
  CallsD Tryz.prog 31 #[.pointer (some ⟨t,0,none⟩)] u w fun e E q=>E=u/\e= .returned (.tuple #[])/\(∃b,ji q b a.pg a.d l.H.dk l.H.lg l.H.pg (.pointer none)/\∀g,b g->S g)/\q.heap[t]? =some (.cells (dF a none A B) 100 (0,0))/\Keep (fun g=>S g\/g=t) w q:=by
 obtain⟨b,T,c,m⟩:=c;have I:w.cell? ⟨t,0,none⟩=some (.pointer (some ⟨a.tx,0,none⟩)):=by simp[World.cell?,h,dF]
 have J:w.cell? ⟨t,2,none⟩=some (.pointer (some ⟨y,0,none⟩)):=by simp[World.cell?,h,dF]
 have o:=(ai.1 h).1;have G:=ah (Qn a.tx a.pg a.d _ _ _ _ _ _ b T w c.pg c.tx c.dis);have F:=ah h;have C:=ah m;have i:¬b t:=fun x=>j ((m t).2 (.inl x))
 have z:¬T t:=fun x=>j ((m t).2 (.inr (.inl x)))
 clear h c m
 go_enter_d Tryz.func31,Tryz.ntmps31
 go_wp2_with (first|(go_at_call 56;go_must (refine G.out.mono ?_;rintro e n ⟨rfl,v,_,d⟩;refine sO ?_)))
 refine sN ?_;have f:=(d.block t o (fun e=>e.elim i z)).trans F.out;have D:=(ai.1 f).1;have H:n.cell? ⟨t,2,none⟩=some (.pointer (some ⟨y,0,none⟩)):=by simp[World.cell?,f,dF]
 have K:n.frozen? ⟨t,2,none⟩=false:=by simp[World.frozen?,f]
 have s:=ah f;clear f;go_wp2_with fail;go_end0;have k:Keep (· =t) n (n.setCell ⟨t,2,none⟩ (.pointer none)):=(Keep.refl (· =t) _).setCell (p:=⟨t,2,none⟩) (.inr rfl) _;refine⟨rfl,⟨b,v.keep k (fun g r e=>i (e▸r)),fun g r=>(C.out g).2 (.inl r)⟩,?_,?_⟩
 ·simp[World.setCell,aQ,s.out]
  rfl
 ·exact(d.mono (fun g _ e=> .inl ((C.out g).2 (e.imp id .inl)))).trans (k.mono (fun g _ e=> .inr e)) (fun _ _ e=>e)
theorem qV (t g:Nat)(a:VS)(c:Bool)(d:Int)(u:FrameMode)(w:World)(h:w.heap[t]? =some (.cells (dF a (some g) c d) 100 (0,0)))(f:Ki w a.tx):
  CallsD Tryz.prog 31 #[.pointer (some ⟨t,0,none⟩)] u w fun e k b=>k=u/\e= .returned (.tuple #[])/\b.heap[t]? =some (.cells (dF a none c d) 100 (0,0))/\Keep (· =t) w b:=by
 have o:w.cell? ⟨t,0,none⟩=some (.pointer (some ⟨a.tx,0,none⟩)):=by simp[World.cell?,h,dF]
 have q:w.cell? ⟨t,2,none⟩=some (.pointer (some ⟨g,0,none⟩)):=by simp[World.cell?,h,dF]
 have r:w.frozen? ⟨t,2,none⟩=false:=by simp[World.frozen?,h]
 have i:=(ai.1 h).1;have n:=ah (KN a.tx w f);have l:=ah h;clear h f
 go_enter_d Tryz.func31,Tryz.ntmps31
 go_wp2_with (first|(go_at_call 56;go_must (refine n.out.mono ?_;rintro e m ⟨rfl,j⟩;subst m)))
 go_end0;refine⟨rfl,?_,(Keep.refl (· =t) _).setCell (p:=⟨t,2,none⟩) (.inr rfl) _⟩;simp[World.setCell,aQ,l.out];rfl
def wQ (f:Nat->Bool):(bytesOf f).length=512:=by
 have:=gU f;rwa [bP] at this
def U7 (b:VS)(a:cK)(S:Nat->Prop)(w:World)(h:Inv a S b w):
  Calls Tryz.prog 67 #[.pointer (some ⟨b.mp,0,none⟩),.iface 89 (.pointer (some ⟨b.tx,0,none⟩))] w fun e d=>e= .returned (.int .i64 0)/\Inv (a.wrote 0 (bytesOf a.now)) S b d/\Step S S w d:=by
 obtain⟨k,T,h,l⟩:=h;have j:=h.ok.most;have n:=h.ok.two;have c:=h.tx;rw[j] at c;refine(SX b.tx b.pg b.d b.mp a.most a.now a.H.old a.H.dk a.H.lg a.H.pg _ a.im k T w h.pg c h.ok.live (by omega) h.map).mono ?_;rintro e d ⟨rfl,m,i⟩;rw[<-j] at m;exact⟨rfl,⟨k,T,⟨h.ok.wrote 0 (bytesOf a.now) (wQ _) (by omega) (.inl (by omega)),h.pg.keep i.1 (fun g f e=>h.dis g f e),m,h.map.keep (i.1.block _ h.map.lt h.mpT),h.dis,h.mpS,h.mpT⟩,l⟩,i.1.mono (fun g _ e=>(l g).2 (.inr (.inl e))),fun g f=> .inl f⟩
def Na (b:VS)(a:cK)(S:Nat->Prop)(w:World)(h:Inv a S b w)(k:a.H.lg.dead=false)(d:a.H.dk.waits.length<=90000)(j:a.H.lg.last<1000000000000):
  Calls Tryz.prog 43 #[.pointer (some ⟨b.tx,0,none⟩)] w fun e f=>e= .returned (.tuple #[.int .i64 (a.H.pg.commit a.H.dk a.H.lg a.im).2.2.2.1,.int .i64 (a.H.pg.commit a.H.dk a.H.lg a.im).2.2.2.2])/\
   ∃i,ji f i b.pg b.d (a.H.pg.commit a.H.dk a.H.lg a.im).1 (a.H.pg.commit a.H.dk a.H.lg a.im).2.1 (a.H.pg.commit a.H.dk a.H.lg a.im).2.2.1 (.pointer none)/\Ki f b.tx/\Step S i w f:=by
 obtain⟨n,T,h,m⟩:=h;have r:=h.ok.most;have c:=h.tx;rw[r] at c;refine(M0 b.tx b.pg b.d a.H.dk a.H.lg a.H.pg _ a.im n T w h.pg c h.dis h.ok.live k d j).mono ?_;rintro e f ⟨rfl,i,p,q,l⟩;refine⟨rfl,i,p,q,l.1.mono (fun g _ e=>(m g).2 (e.imp id .inl)),fun g o=> ?_⟩;exact(l.2 g (.inl o)).imp (fun e=>(m g).2 (e.imp id .inl)) id
def rZ (t:Nat)(mp:VS)(S:Nat->Prop)(σ:cK)(ch:Bool)(im:Im)(w:World)(e:Ending)(w':World):Prop:=
 e= .returned (.tuple (if (σ.H.pg.commit σ.H.dk σ.H.lg im).2.2.2.2=0 then #[.int .i64 (((σ.H.pg.commit σ.H.dk σ.H.lg im).2.2.2.1:Int) - 1),.int .i64 0] else #[.int .i64 0,.int .i64 (σ.H.pg.commit σ.H.dk σ.H.lg im).2.2.2.2]))/\
 ∃S',ji w' S' mp.pg mp.d (σ.H.pg.commit σ.H.dk σ.H.lg im).1 (σ.H.pg.commit σ.H.dk σ.H.lg im).2.1 (σ.H.pg.commit σ.H.dk σ.H.lg im).2.2.1 (.pointer none)/\w'.heap[t]? =some (.cells (dF mp none ch 0) 100 (0,0))/\¬S' t/\Keep (fun g=>S g\/g=t) w w'/\∀g,S' g->S g\/w.heap.size<=g
theorem FZ (t A:Nat)(o:VS)(y:Int)(b:cK)(S:Nat->Prop)(w:World)(n:Bg w S t A o b y 0 false 0)(H:b.H.lg.dead=false)(v:b.H.dk.waits.length<=90000)(B:b.H.lg.last<1000000000000)(I:(b.H.pg.commit b.H.dk b.H.lg b.im).2.2.2.1<=1000000000000):
  Calls Tryz.prog 25 #[.pointer (some ⟨t,0,none⟩)] w (rZ t o S b false b.im w):=by
 have G:=ah (oC t o A false 0 ⟨#[107]⟩ w n.tx);have K:iP 0 (⟨#[107]⟩:ByteArray)=0:=by decide
 rw[K] at G;have p:=Na o b S w n.inv H v B;unfold rZ;generalize D:b.H.pg.commit b.H.dk b.H.lg b.im=R at p I ⊢;obtain⟨N,W,X,k,q⟩:=R;dsimp only at p I ⊢;have p:=ah p;have T:w.cell? ⟨t,0,none⟩=some (.pointer (some ⟨o.tx,0,none⟩)):=by simp[World.cell?,n.tx,dF]
 have V:w.cell? ⟨t,3,none⟩=some (.bool false):=by simp[World.cell?,n.tx,dF]
 have j:=(ai.1 n.tx).1;have Q:IntKind.i64.wrap ((k:Int) - 1)=(k:Int) - 1:=aG _ (by omega);have r:=ah n;clear n K D
 by_cases J:q=0
 ·subst J
  go_enter_defers Tryz.func25,Tryz.ntmps25
  go_wp2_with (first|(go_at_call 59;go_must (refine G.out.mono ?_;rintro e s ⟨F,rfl⟩;subst s))|(go_at_call 43;go_must (refine p.out.mono ?_;rintro e s ⟨rfl,z,l,m,a⟩)))
  have i:=(a.1.block t j r.out.nt).trans r.out.tx;have d:¬z t:=fun e=>(a.2 t e).elim r.out.nt (fun x=>absurd j (bg.2 x))
  refine jM (f:=31) (args:=#[.pointer (some ⟨t,0,none⟩)]) (by simp) (by simp[go_sem]) ?_;refine(qV t A o false 0 _ _ i m).mono ?_;rintro e M P ⟨rfl,rfl,C,c⟩;exact⟨_,by simp[results,Ap,go_sem],rfl,z,l.keep c (fun g E e=>d (e▸E)),C,d,(a.1.mono (fun g _ e=> .inl e)).trans (c.mono (fun g _ e=> .inr e)) (fun _ _ e=>e),a.2⟩
 ·have O:(q !=0)=true:=by simpa using J
  go_enter_defers Tryz.func25,Tryz.ntmps25
  go_wp2_with (first|(go_at_call 59;go_must (refine G.out.mono ?_;rintro e s ⟨F,rfl⟩;subst s))|(go_at_call 43;go_must (refine p.out.mono ?_;rintro e s ⟨rfl,z,l,m,a⟩)))
  have i:=(a.1.block t j r.out.nt).trans r.out.tx;have d:¬z t:=fun e=>(a.2 t e).elim r.out.nt (fun x=>absurd j (bg.2 x))
  refine jM (f:=31) (args:=#[.pointer (some ⟨t,0,none⟩)]) (by simp) (by simp[go_sem]) ?_;refine(qV t A o false 0 _ _ i m).mono ?_;rintro e M P ⟨rfl,rfl,C,c⟩;exact⟨.tuple #[.int .i64 0,.int .i64 q],by simp[results,Ap,go_sem],rfl,z,l.keep c (fun g E e=>d (e▸E)),C,d,(a.1.mono (fun g _ e=> .inl e)).trans (c.mono (fun g _ e=> .inr e)) (fun _ _ e=>e),a.2⟩
def Bo {R:Ending->World->Prop}{d:Nat}(b:d≠2)(e:d≠3){c:List PanicEntry}{a:Act}{v:Value}(h:bodyPostD Tryz.prog Tryz.f25 R (.panic c) (a.put (some d) v) w):bodyPostD Tryz.prog Tryz.f25 R (.panic c) a w:=by
 refine sU ?_ _ _ _ (show Leaves Tryz.prog Tryz.f25 (a.tmps.setIfInBounds d v) R a.defers (.panicking c) w from h);unfold results;rw[Ap];simp[Array.getD_eq_getD_getElem?,WG,b,e]
def pF (root:Nat):List UInt8:=[UInt8.ofNat root,UInt8.ofNat (root/256)]
def K6 (a:Nat)(d:a<65536)(w:World):gF (w.alloc (.cells #[.int .u8 ((a:Int)%256),.int .u8 ((a:Int)/256)] 5)) gB (.slice (some ⟨w.heap.size,0,none⟩) 2 2) (pF a):=by
 have b:[Value.int .u8 ((a:Int)%256),.int .u8 ((a:Int)/256)]=aI (pF a):=by
  simp[pF,aI,fC];omega
 have c:Row (w.alloc (.cells #[.int .u8 ((a:Int)%256),.int .u8 ((a:Int)/256)] 5)) w.heap.size 5 (aI (pF a)):=by
  rw[<-b];exact Row.new w _ _
 have:=c.dx (S:=gB) (k:=1) (off:=0) 2 2 (by simp[aI,pF]) id (aD _) (by simp[maxLen]);rw[dQ,aJ (by simp[aI,pF])] at this;exact this
def cK.sealed (σ:cK)(root:Nat):cK:=(σ.wrote 1 (pad (pF root))).wrote 0 (bytesOf σ.now)
theorem FY (t O:Nat)(n:VS)(b:Nat)(d:cK)(S:Nat->Prop)(w:World)(A:Bg w S t O n d b 0 true 0)(hr:b<=4096)(qb:d.H.lg.dead=false)(P:d.H.dk.waits.length<=90000)(qo:d.H.lg.last<1000000000000)(hk:(d.H.pg.commit d.H.dk d.H.lg (d.sealed b).im).2.2.2.1<=1000000000000):
  Calls Tryz.prog 25 #[.pointer (some ⟨t,0,none⟩)] w (rZ t n S d true (d.sealed b).im w):=by
 have HU:=ah (oC t n O true 0 ⟨#[107]⟩ w A.tx);have hu:iP 0 (⟨#[107]⟩:ByteArray)=0:=by decide
 rw[hu] at HU;have HR:=ah (TP O n b 0 w A.tree);have N:=aN w (.cells #[.int .u8 ((b:Int)%256),.int .u8 ((b:Int)/256)] 5);have h2:=A.inv.ok.two;have HW:=ah (xD n d S _ 1 _ (pF b) (A.inv.below N) (by omega) (K6 b (by omega) w) (by simp[pF]) (.inl (by omega)));have ql:=ah N;have q0:IntKind.i64.wrap ((b:Int)/256)=(b:Int)/256:=aG _ (by omega);have c0:w.cell? ⟨t,0,none⟩=some (.pointer (some ⟨n.tx,0,none⟩)):=by simp[World.cell?,A.tx,dF]
 have c2:w.cell? ⟨t,2,none⟩=some (.pointer (some ⟨O,0,none⟩)):=by simp[World.cell?,A.tx,dF]
 have c3:w.cell? ⟨t,3,none⟩=some (.bool true):=by simp[World.cell?,A.tx,dF]
 have qc:=(ai.1 A.tx).1;have I:=ah A;clear A hu N
 go_enter_defers Tryz.func25,Tryz.ntmps25
 go_wp2_with (first|(go_at_call 59;go_must (refine HU.out.mono ?_;rintro e p ⟨p9,rfl⟩;subst p))|(go_at_call 65;go_must (refine HR.out.mono ?_;rintro e p ⟨rfl,p9⟩;subst p))|(go_at_call 66;go_must (refine HW.out.mono ?_;rintro e p ⟨rfl,Q,X⟩;refine sO ?_)))
 refine sN ?_;have E:Step S S w p:=(Step.of_below ql.out).trans X;have j:=(E.1.block t qc I.out.nt).trans I.out.tx;have D:=(ai.1 j).1;have d0:p.cell? ⟨t,0,none⟩=some (.pointer (some ⟨n.tx,0,none⟩)):=by simp[World.cell?,j,dF]
 have d1:p.cell? ⟨t,1,none⟩=some (.pointer (some ⟨n.mp,0,none⟩)):=by simp[World.cell?,j,dF]
 have C:=U7 n (d.wrote 1 (pad (pF b))) S p.drew (Q.below ((aR _ p).drew));have Z:(d.wrote 1 (pad (pF b))).wrote 0 (bytesOf (d.wrote 1 (pad (pF b))).now)=d.sealed b:=rfl;rw[Z] at C;have C:=ah C;have T:=ah (aC j E);clear j E Z Q X;go_upto_region 11 with (fail)
 refine aP (fun W=>W.cell? ⟨t,0,none⟩=some (.pointer (some ⟨n.tx,0,none⟩))/\W.cell? ⟨t,1,none⟩=some (.pointer (some ⟨n.mp,0,none⟩))/\t<W.heap.size) (fun i=> !([11].contains i)) [0,1,2,3,4,5,6,7,8,9,10,11,12] rfl (by kernel_rfl) ⟨d0,d1,D⟩ ?_
 repeat ((refine wh (v:= ?_) rfl rfl ?_ rfl (fun W hW=> ?_) ?_);rotate_left;(focus exact fun c a w h=>Bo (by decide) (by decide) h);(focus (try dsimp only at hW);obtain⟨a0,a1,a2⟩:=hW;(go_simp;first|done|with_reducible rfl));(try simp only[Act.put,aj,au,ak]))
 refine dI rfl rfl rfl ?_;intro K hK;go_simp;refine C.out.mono ?_;rintro e w2 ⟨rfl,V,F⟩;have l:=(F.1.block t D I.out.nt).trans T.out.1;have m:=(ai.1 l).1;have g0:w2.cell? ⟨t,0,none⟩=some (.pointer (some ⟨n.tx,0,none⟩)):=by simp[World.cell?,l,dF]
 have g1:w2.cell? ⟨t,1,none⟩=some (.pointer (some ⟨n.mp,0,none⟩)):=by simp[World.cell?,l,dF]
 refine hK.out _ _ ⟨g0,g1,m⟩ ?_
 (try simp only[Act.put,aj,au,ak])
 repeat ((refine wh (v:= ?_) rfl rfl ?_ rfl (fun W hW=> ?_) ?_);rotate_left;(focus exact fun c a w h=>Bo (by decide) (by decide) h);(focus (try dsimp only at hW);obtain⟨a0,a1,a2⟩:=hW;(go_simp;first|done|with_reducible rfl));(try simp only[Act.put,aj,au,ak]))
 refine bR ?_;have M:=Na n (d.sealed b) S w2 V qb P qo;have hH:(d.sealed b).H=d.H:=rfl;rw[hH] at M;obtain⟨R,H⟩:∃R,d.H.pg.commit d.H.dk d.H.lg (d.sealed b).im=R:=⟨_,rfl⟩
 obtain⟨q9,l',p',k,q⟩:=R;rw[H] at M hk;have pM:=ah H;dsimp only at M hk;have M:=ah M;have q1:IntKind.i64.wrap ((k:Int) - 1)=(k:Int) - 1:=aG _ (by omega);have B:=ah (aC l (T.out.2.trans (((Step.of_below ((aR _ p).drew)):Step S S p p.drew).trans F)));clear H hH V F l
 by_cases hq:q=0
 ·subst hq
  go_wp2_with (first|(go_at_call 43;go_must (refine M.out.mono ?_;rintro e w3 ⟨rfl,Y,J,G,o⟩)))
  have y:=(o.1.block t m I.out.nt).trans B.out.1;have r:¬Y t:=fun e=>(o.2 t e).elim I.out.nt (fun x=>absurd m (bg.2 x))
  refine jM (f:=31) (args:=#[.pointer (some ⟨t,0,none⟩)]) (by simp) (by simp[go_sem]) ?_;refine(qV t O n true 0 _ _ y G).mono ?_;rintro e u' w4 ⟨rfl,rfl,h4,z⟩;have s:=B.out.2.trans o;refine⟨.tuple #[.int .i64 ((k:Int) - 1),.int .i64 0],by simp[results,Ap,go_sem],?_⟩;unfold rZ;rw[pM.out];exact⟨rfl,Y,J.keep z (fun g hg e=>r (e▸hg)),h4,r,(s.1.mono (fun g _ e=> .inl e)).trans (z.mono (fun g _ e=> .inr e)) (fun _ _ e=>e),s.2⟩
 ·have q8:(q !=0)=true:=by simpa using hq
  go_wp2_with (first|(go_at_call 43;go_must (refine M.out.mono ?_;rintro e w3 ⟨rfl,Y,J,G,o⟩)))
  have y:=(o.1.block t m I.out.nt).trans B.out.1;have r:¬Y t:=fun e=>(o.2 t e).elim I.out.nt (fun x=>absurd m (bg.2 x))
  refine jM (f:=31) (args:=#[.pointer (some ⟨t,0,none⟩)]) (by simp) (by simp[go_sem]) ?_;refine(qV t O n true 0 _ _ y G).mono ?_;rintro e u' w4 ⟨rfl,rfl,h4,z⟩;have s:=B.out.2.trans o;refine⟨.tuple #[.int .i64 0,.int .i64 q],by simp[results,Ap,go_sem],?_⟩;unfold rZ;rw[pM.out];exact⟨by dsimp only;rw[if_neg hq],Y,J.keep z (fun g hg e=>r (e▸hg)),h4,r,(s.1.mono (fun g _ e=> .inl e)).trans (z.mono (fun g _ e=> .inr e)) (fun _ _ e=>e),s.2⟩
