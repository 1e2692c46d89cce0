--
import Derived.Test.YtogbkgmlhhahdaaGreatT13
import Derived.Lib.Overlaps
set_option maxRecDepth 100000
set_option maxHeartbeats 0
set_option linter.all false
namespace Go.Proofs.YtogbkgmlhhahdaaGreat
open Go.RowKit
variable{l:Lg}{c:Type}
def mQ {a:Dk}(b:a.dead=false)(c:a.fuel= -1):a.fK.dead=false/\a.fK.fuel= -1:=by rw[Dk.oK.fK ⟨b,c⟩];exact⟨b,c⟩
def Ph.Ta {i c:List UInt8}{a:List Im}{m L N:Nat}{H:Nat->List UInt8}{s:Nat->List UInt8}(h:Ph l i a m L N H s)(d:l.Ok)(e:l.frm=0)(k:l.n=L):Ph l c a m L N H (tX s 0 (pad c)):=by
 have f:=d.n2;refine⟨by unfold tX;rw[if_pos rfl],h.on.set fun j _=> ?_,fun b g=> ?_⟩
 ·have:=vT l (l.start+j) f e
  omega
 ·unfold tX
  rw[if_neg (by omega)];exact h.home b g
def Ub (σ':Dk)(l' l:Lg)(ims:List Im)(L N:Nat)(H:Nat->List UInt8):Prop:=
 l'.last=l.last/\((l'.synced=l.synced/\Al σ' fun s=>qN s l ims L N H l.synced\/qN s l ims L N H l.last)\/(l'.synced=l.last/\Al σ' fun s=>qN s l ims L N H l.last))
def Fp {d:Dk}{p:Pg}{c:List Im}(h:Rest d l p c)(I:d.dead=false)(V:l.dead=false):
  (∃a,l.sync d=(a,l.all,0)/\a.dead=false/\(d.fuel= -1->a.fuel= -1)/\a.n=d.n/\a.waits=[]/\(∀x,0<x->a.get x=d.get x)/\Rest a l.all p c)\/
  (∃a,l.sync d=(a,l.dies,10)/\a.dead=true/\d.fuel≠-1/\a.n=d.n/\Ub a l.dies l c p.skip (p.blocks d) (fun b=>d.get (p.skip+b))):=by
 have f:=h.lok;have o:=h.pok;have F:=o.fit;have g:=o.frm;have i:=o.skip;have t:=o.ring;have p9:=f.sy;have Y:=h.tQ;have T:=f.n2;have m:=h.recs;obtain⟨N,y⟩:=nx (p.blocks d);rw[<-y] at m ⊢;obtain⟨H,Z⟩:∃H:Nat->List UInt8,H=fun b=>d.get (p.skip+b):=⟨_,rfl⟩
 have n:=h.all;rw[<-y,<-Z] at n;rw[<-Z] at m ⊢;have G:Ph l l.fJ c c.length p.skip N H d.get:=⟨n.get.mark,by rw[aJ (by rw[dH];omega)];exact h.on,n.get.home⟩;have A:∀s,Ph l l.fJ c c.length p.skip N H s->qN s l c p.skip N H l.synced:=fun s k=>by
  have B:Ph l l.fJ c (l.tQ c.length) p.skip N H s:=⟨k.mark,by
   have:=k.on.take (l.tQ c.length)
   rw[dz,bK (by unfold Lg.tQ;omega)] at this
   exact this,k.home⟩
  exact B.recs (l':=l) f g i.symm h.list h.len (by rw[y];exact h.bat) rfl (by unfold Lg.tQ;omega) (by unfold Lg.tQ;omega)
 have pM:l.all.first=l.first:=rfl;have D:∀s,Ph l l.all.fJ c c.length p.skip N H s->qN s l c p.skip N H l.last:=fun s k=>by
  have:=k.recs (l':=l.all) f g i.symm h.list h.len (by rw[y];exact h.bat) rfl (by show l.last+_=_;omega) (aD _);unfold qN;rw[dJ];exact this
 unfold Lg.sync;rw[V,if_neg (by simp)];rcases CK I with ⟨e,J⟩|⟨e,J⟩
 ·rw[e]
  dsimp only;rw[if_pos rfl];have Q:d.fK.flush.dead=false:=J;have r:d.fK.flush.n=d.n:=d.dZ.1;have C:∀x,d.fK.flush.get x=d.get x:=fun x=>by rw[Dk.oO,Dk.rX]
  have S:∀s,CS d.fK.flush s->Ph l l.fJ c c.length p.skip N H s:=fun s k=>by
   rw[k.none rfl,show d.fK.flush.get=d.get from funext C];exact G
  rcases I7 l.all Q (show l.frm<d.fK.flush.n by rw[r];omega) with ⟨a,P,B,M,R,v,X⟩|⟨a,P,B,M,R,v⟩
  ·left
   rw[P];dsimp only;rw[if_pos rfl];have W:∀x,0<x->a.get x=d.get x:=fun x hx=>by
    rw[X,if_neg (by show l.frm≠x;omega),C]
   have q:a.n=d.n:=R.trans r;have O:p.blocks a=N:=(by rw[y];unfold Pg.blocks;rw[q]);have z:pQ a.get l.all (l.all.last+1 - c.length) (gJ c):=h.on.congr rfl rfl rfl fun j _=>W _ (vT l _ T g).1
   refine⟨a,rfl,B,fun E=>M (mQ I E).2,q,v,W,?_⟩;refine⟨⟨f.n2,f.hi,f.st,f.us,f.la,aD _,f.ent,f.sum⟩,⟨g,i,t,by rw[q];exact F,by rw[q];exact o.fresh⟩,h.list,h.len,by show l.last<=l.last+_;omega,by rw[O,y];exact h.bat,z,?_,h.fresh,by rw[v];exact aS _,fun _=>v⟩;refine Al.none ⟨?_,?_,fun b _=>rfl⟩ v
   ·rw[X,if_pos (by show l.frm=0;exact g)]
   ·rw[aJ (by rw[dH];unfold Lg.tQ;show _<=l.last+_ - l.last;omega)]
    exact z
  ·right
   rw[P];dsimp only;rw[if_neg (by omega)];refine⟨a,rfl,B,fun E=>M (mQ I E).2,R.trans r,rfl,.inl ⟨rfl,fun s k=> ?_⟩⟩;obtain⟨s',K,g2⟩:=v s k;have K:=S s' K;rcases g2 with rfl|rfl
   ·exact .inl (A _ K)
   ·right
    rw[show l.all.frm=0 from g];exact D _ (K.Ta f g i.symm)
 ·right
  rw[e];dsimp only;rw[if_neg (by omega)];refine⟨_,rfl,J,fun E=> ?_,d.dZ.1,rfl,.inl ⟨rfl,fun s k=> .inl (m s (k.same d.dZ.2.1 d.dZ.2.2))⟩⟩;have:=(mQ I E).1;rw[J] at this;cases this
def Nc (p:Pg)(P:(Nat->List UInt8)->Prop):∀(r:List Nat) (d:Dk),d.dead=false->(∀b∈r,p.skip+b<d.n/\(p.fresh.img b).length=512)->(∀s b,b∈r->P s->P (tX s (p.skip+b) (p.fresh.img b)))->Al d P->
  (∃a,p.lay r d=(a,0)/\a.dead=false/\(d.fuel= -1->a.fuel= -1)/\a.n=d.n/\Al a P/\(∀b,a.get (p.skip+b)=if b∈r then p.fresh.img b else d.get (p.skip+b))/\∀j,j<p.skip->a.get j=d.get j)\/
  (∃a,p.lay r d=(a,10)/\a.dead=true/\d.fuel≠-1/\a.n=d.n/\Al a P)
 |[],d,h,_,_,m=> .inl ⟨d,rfl,h,id,rfl,m,fun b=>by simp,fun _ _=>rfl⟩
 |b::r,d,h,B,f,m=>by
  obtain⟨E,A⟩:=B b (bf ..)
  rw[p.zS]
  rcases Av h E (by omega:(p.fresh.img b).length<=512) with ⟨e,l⟩|⟨e,l⟩
  ·rw[e]
   dsimp only
   rw[if_pos rfl]
   have n:(d.fK.put (p.skip+b) (p.fresh.img b)).dead=false:=l
   have i:(d.fK.put (p.skip+b) (p.fresh.img b)).n=d.n:=d.dZ.1
   have k:d.fuel= -1->(d.fK.put (p.skip+b) (p.fresh.img b)).fuel= -1:=fun g=>(mQ h g).2
   have v:Al (d.fK.put (p.skip+b) (p.fresh.img b)) P:=m.fK.put fun s F=>by
    rw[zK A];exact f s b (bf ..) F
   rcases Nc p P r _ n (fun c f=>by rw[i];exact B c (aX _ f)) (fun s c G=>f s c (aX _ G)) v with ⟨a,o,z,q,y,t,D,C⟩|⟨a,o,z,q,y,t⟩
   ·refine .inl ⟨a,o,z,fun g=>q (k g),y.trans i,t,fun c=> ?_,fun j H=> ?_⟩
    ·rw[D,Dk.get_put]
     by_cases f:c∈r
     ·rw[if_pos f,if_pos (aX _ f)]
     ·rw[if_neg f]
      by_cases e:c=b
      ·subst e
       rw[if_pos rfl,if_pos (bf ..)]
       exact zK A
      ·rw[if_neg (by omega),if_neg (fun x=>(bO.1 x).elim e f),d.rX]
    ·rw[C j H,Dk.get_put,if_neg (by omega),d.rX]
   ·exact .inr ⟨a,o,z,fun g=>q (k g),y.trans i,t⟩
  ·rw[e]
   dsimp only
   rw[if_neg (by omega)]
   refine .inr ⟨_,rfl,l,fun g=> ?_,d.dZ.1,m.fK⟩
   have:=(mQ h g).1
   rw[l] at this;cases this
def G5 (h:l.Ok):(l.cut l.last).list=[]/\(l.cut l.last).used=0/\(l.cut l.last).frm=l.frm/\(l.cut l.last).n=l.n/\(l.cut l.last).last=l.last/\(l.cut l.last).synced=l.synced/\(l.cut l.last).dead=l.dead:=by
 have a:=zx l.last l.list (l.n - 1) l.start l.used (fun e b=>(h.ent e b).2);refine⟨a.1,?_,rfl,rfl,rfl,rfl,rfl⟩;show (Lg.sF l.last l.list (l.n - 1) l.start l.used).2.2=0;rw[a.2.1,h.sum];omega
def Jy {n:Dk}{p:Pg}{f:List Im}(h:Rest n l p f)(hd:n.dead=false)(W:l.dead=false)(bA:p.dead=false):
  (∃g,p.home n l=(g,l.all.cut l.last,{p with fresh:=Im.none},0)/\g.dead=false/\(n.fuel= -1->g.fuel= -1)/\g.n=n.n/\g.waits=[]/\Rest g (l.all.cut l.last) {p with fresh:=Im.none} []/\∀b,b<p.blocks n->g.get (p.skip+b)=pG f (fun b=>n.get (p.skip+b)) b)\/
  (∃g l',p.home n l=(g,l',p.dies,10)/\g.dead=true/\n.fuel≠-1/\g.n=n.n/\Ub g l' l f p.skip (p.blocks n) (fun b=>n.get (p.skip+b))):=by
 have z:=h.pok;have p9:=z.fit;have y:=z.frm;have o:=z.skip;have K:=z.ring;have a:=h.lok;have av:=a.n2;obtain⟨N,hN⟩:=nx (p.blocks n);obtain⟨H,hH⟩:∃H:Nat->List UInt8,H=fun b=>n.get (p.skip+b):=⟨_,rfl⟩
 have D:=Fp h hd W;rw[<-hN,<-hH] at D ⊢;unfold Pg.home;rcases D with ⟨t,e1,d1,R,Q,w1,g1,R1⟩|⟨t,e1,d1,R,Q,D1⟩
 rotate_left
 ·rw[e1]
  dsimp only;rw[if_neg (by omega)];exact .inr ⟨t,_,rfl,d1,R,Q,D1⟩
 rw[e1];dsimp only;rw[if_pos rfl];have pM:∀b,t.get (p.skip+b)=H b:=fun b=>by rw[hH];exact g1 _ (by omega)
 have ql:p.blocks t=N:=by rw[hN];unfold Pg.blocks;rw[Q]
 obtain⟨P,hP⟩:∃P:(Nat->List UInt8)->Prop,P=fun s=>s 0=pad l.all.fJ/\pQ s l (l.last+1 - f.length) (gJ f)/\∀b,b<N->findAll f b=none->s (p.skip+b)=H b:=⟨_,rfl⟩
 have G:∀s,P s->qN s l f p.skip N H l.last:=fun s k=>by
  rw[hP] at k;obtain⟨O,a2,a3⟩:=k;have J:Ph l l.all.fJ f f.length p.skip N (fun b=>s (p.skip+b)) s:=⟨O,by rw[aJ (by rw[dH];omega)];exact a2,fun _ _=>rfl⟩;have:=J.recs (l':=l.all) a y o.symm h.list h.len (by rw[hN];exact h.bat) rfl (by show l.last+_=_;omega) (aD _);unfold qN;rw[dJ];refine sZ.congr this fun b m=> ?_
  rw[aJ (aD _)];unfold pG;cases r:findAll f b with
  |some x=>rfl
  |none=>
   show H b=s (p.skip+b);rw[a3 b m r]
 have qb:Al t P:=fun s k=>by
  have q:=R1.all s k;rw[hP];refine⟨q.mark,?_,fun b m _=> ?_⟩
  ·have:=q.on
   rw[aJ (by rw[dH];unfold Lg.tQ;show _<=l.last+_ - l.last;omega)] at this;exact this.congr rfl rfl rfl fun _ _=>rfl
  ·rw[q.home b (by rw[ql];exact m)]
   exact pM b
 have q8:∀b∈p.fresh.ks,findAll f b=some (p.fresh.img b):=fun b m=>by
  rw[<-h.fresh b];unfold Im.find;rw[if_pos m]
 have I:=z.fresh;have Y:∀s b,b∈p.fresh.ks->P s->P (tX s (p.skip+b) (p.fresh.img b)):=fun s b m k=>by
  rw[hP] at k ⊢;obtain⟨O,a2,a3⟩:=k;have bB:=I.hi b m;refine⟨by unfold tX;rw[if_neg (by omega)];exact O,a2.set fun j _=> ?_,fun c hc r=> ?_⟩
  ·have:=vT l (l.start+j) av y
   omega
  ·unfold tX
   by_cases e:b=c
   ·subst e
    rw[q8 b m] at r;cases r
   ·rw[if_neg (by omega)]
    exact a3 c hc r
 rcases Nc p P p.fresh.ks t d1 (fun b m=>⟨by have:=I.hi b m;omega,I.img b m⟩) Y qb with ⟨d,e2,M,V,n2,A2,g2,aB⟩|⟨d,e2,M,V,n2,A2⟩
 ·rw[e2]
  dsimp only;rw[if_pos rfl];have X:∀b,b<N->d.get (p.skip+b)=pG f H b:=fun b m=>by
   rw[g2,pM];unfold pG;rw[<-h.fresh b];unfold Im.find
   split<;>rfl
  rcases CK M with ⟨e3,d3⟩|⟨e3,d3⟩
  ·rw[e3]
   dsimp only;rw[if_pos rfl];have qo:d.fK.flush.dead=false:=d3;have n3:d.fK.flush.n=n.n:=d.dZ.1.trans (n2.trans Q);have g3:∀x,d.fK.flush.get x=d.get x:=fun x=>by rw[Dk.oO,Dk.rX]
   have hc:=G5 (l:=l.all) ⟨a.n2,a.hi,a.st,a.us,a.la,aD _,a.ent,a.sum⟩;obtain⟨c,C⟩:=nx (l.all.cut l.all.last);have F:c.Ok:=(by rw[C];exact Lg.Ok.cut ⟨a.n2,a.hi,a.st,a.us,a.la,aD _,a.ent,a.sum⟩);rw[<-C] at hc;obtain⟨k1,k2,E,T,k5,k6,k7⟩:=hc;have E:c.frm=0:=E.trans y;have T:c.n=l.n:=T;have k5:c.last=l.last:=k5;have k6:c.synced=l.last:=k6;have af:∀s,CS d.fK.flush s->P s:=fun s k=>by
    rw[k.none rfl,show d.fK.flush.get=d.get from funext g3];exact A2.get
   have qc:∀s,CS d.fK.flush s->qN (tX s 0 (pad c.fJ)) l f p.skip N H l.last:=fun s k=>by
    have J:Ph c c.fJ [] 0 p.skip N (pG f H) (tX s 0 (pad c.fJ)):=⟨by unfold tX;rw[if_pos rfl],fun i B=>by simp[gJ] at B,fun b m=>by
     unfold tX
     rw[if_neg (by omega),k.none rfl,g3]
     exact X b m⟩
    have:=J.recs (l':=c) F E (T.trans o.symm) k1 (aS _) (fun im B=>by cases B) rfl (by show c.synced+0=c.last+0;rw[k6,k5]) (aD _);unfold qN;rw[dJ,aJ (aD _),<-k6];exact this
   have A:l.all.trim d.fK.flush l.all.last=if (c.mark d.fK.flush).2.2=0 then c.mark d.fK.flush else((c.mark d.fK.flush).1,l.all.dies,10):=by
    unfold Lg.trim;have hd:l.all.dead=false:=W;rw[hd,if_neg (by simp),if_neg (by show ¬l.last<l.last;omega),<-C]
   rcases I7 c qo (by rw[E,n3];omega) with ⟨v,e4,h1,h2,h3,S,h5⟩|⟨v,e4,h1,h2,h3,S⟩
   ·left
    rw[A,e4];dsimp only;rw[if_pos rfl];dsimp only;rw[if_pos rfl];have Z:v.n=n.n:=h3.trans n3;have q9:∀b,b<N->v.get (p.skip+b)=pG f H b:=fun b m=>by
     rw[h5,if_neg (by rw[E];omega),g3];exact X b m
    have aA:c=l.all.cut l.last:=C;rw[<-aA];refine⟨v,rfl,h1,fun r=>h2 (mQ M (V (R r))).2,Z,S,?_,q9⟩;refine⟨F,⟨E,by rw[T];exact o,by rw[T];exact K,by rw[T,Z];exact p9,Im.Ok.none _⟩,k1,aS _,by rw[k5,k6];omega,(fun im B=>by cases B),(fun i B=>by simp[gJ] at B),?_,fun b=>rfl,by rw[S];exact aS _,fun _=>S⟩;refine Al.none ⟨by rw[h5,if_pos E],fun i B=>by simp[gJ] at B,fun b _=>rfl⟩ S
   ·right
    rw[A,e4];dsimp only;rw[if_neg (show ¬((10:Int)=0) by omega)];dsimp only;rw[if_neg (show ¬((10:Int)=0) by omega)];refine⟨v,_,rfl,h1,fun r=>h2 (mQ M (V (R r))).2,h3.trans n3,rfl,.inr ⟨rfl,fun s k=> ?_⟩⟩;obtain⟨s',O,a2⟩:=S s k;rcases a2 with rfl|rfl
    ·exact G _ (af _ O)
    ·rw[E]
     exact qc _ O
  ·right
   rw[e3];dsimp only;rw[if_neg (by omega)];refine⟨_,_,rfl,d3,fun r=> ?_,d.dZ.1.trans (n2.trans Q),rfl,.inr ⟨rfl,fun s k=>G s (A2 s (k.same d.dZ.2.1 d.dZ.2.2))⟩⟩;have:=(mQ M (V (R r))).1;rw[d3] at this;cases this
 ·right
  rw[e2];dsimp only;rw[if_neg (by omega)];exact⟨d,_,rfl,M,fun r=>V (R r),n2.trans Q,rfl,.inr ⟨rfl,fun s k=>G s (A2 s k)⟩⟩
def Rm {v:Type}(a d b:List v)(i n c k:Nat)(q:i<n)(z:n+1<=c)(t:a.length=c*k)(r:a.take (n*k)=d)(e:b.length=k):
  (splice a ((i+1)*k) (d.drop (i*k))).length=c*k/\(splice (splice a ((i+1)*k) (d.drop (i*k))) (i*k) b).length=c*k/\
  (splice (splice a ((i+1)*k) (d.drop (i*k))) (i*k) b).take ((n+1)*k)=d.take (i*k)++b++d.drop (i*k):=by
 have s:i*k<=n*k:=bZ _ (iF q);have j:(i+1)*k<=n*k:=bZ _ q;have g:(n+1)*k<=c*k:=bZ _ z;rw[fq,kE] at j g;have l:d.length=n*k:=by rw[<-r,aH];omega
 have o:(d.drop (i*k)).length=n*k - i*k:=by rw[aO,l]
 have f:(splice a ((i+1)*k) (d.drop (i*k))).length=c*k:=by rw[eY _ _ _ (by rw[o,fq,kE];omega)];exact t
 have m:(splice (splice a ((i+1)*k) (d.drop (i*k))) (i*k) b).length=c*k:=by rw[eY _ _ _ (by rw[f];omega)];exact f
 refine⟨f,m,?_⟩;have p:(a.take (i*k)).length=i*k:=by rw[aH];omega
 have x:d.take (i*k)=a.take (i*k):=by rw[<-r,dz,bK (by omega)]
 have y:splice a ((i+1)*k) (d.drop (i*k))=a.take (i*k)++((a.drop (i*k)).take k++(d.drop (i*k)++a.drop ((i+1)*k+(d.drop (i*k)).length))):=by
  unfold splice;rw[fq,kE,SA,aM]
 rw[y,xL _ _ _ _ _ p (by rw[aH,aO,e];omega),x,<-aM,<-aM,bI (by simp only[ay,p,o,e,fq,kE];omega),aJ (by simp only[ay,p,o,e,fq,kE];omega)]
def OL {y:Type}(d a f b:List y)(i n c k:Nat)(s:i<n)(C:n+1<=c)(t:d.take (n*k)=f)(B:n*k<=d.length)(r:(d.take (i*k)++a).length=c*k)(e:b.length=k):
  (splice (d.take (i*k)++a) (i*k) b).length=c*k/\(splice (splice (d.take (i*k)++a) (i*k) b) ((i+1)*k) (f.drop (i*k))).length=c*k/\
  (splice (splice (d.take (i*k)++a) (i*k) b) ((i+1)*k) (f.drop (i*k))).take ((n+1)*k)=f.take (i*k)++b++f.drop (i*k):=by
 have v:i*k<=n*k:=bZ _ (iF s);have l:(i+1)*k<=n*k:=bZ _ s;have j:(n+1)*k<=c*k:=bZ _ C;rw[fq,kE] at l j;have p:f.length=n*k:=by rw[<-t,aH];omega
 have o:(f.drop (i*k)).length=n*k - i*k:=by rw[aO,p]
 have m:(d.take (i*k)).length=i*k:=by rw[aH];omega
 have z:f.take (i*k)=d.take (i*k):=by rw[<-t,dz,bK (by omega)]
 have x:a.length=c*k - i*k:=by rw[ay,m] at r;omega
 have g:(splice (d.take (i*k)++a) (i*k) b).length=c*k:=by rw[eY _ _ _ (by rw[r];omega)];exact r
 have q:(splice (splice (d.take (i*k)++a) (i*k) b) ((i+1)*k) (f.drop (i*k))).length=c*k:=by rw[eY _ _ _ (by rw[g,o,fq,kE];omega)];exact g
 refine⟨g,q,?_⟩;have A:splice (d.take (i*k)++a) (i*k) b=(d.take (i*k)++b)++((a.drop k).take (n*k - i*k)++(a.drop k).drop (n*k - i*k)):=by
  rw[bJ];have:=xL (d.take (i*k)) (a.take k) (a.drop k) b (i*k) m (by rw[aH,e];omega);rw[bJ] at this;rw[this,aM]
 rw[A,xL _ _ _ _ _ (by simp only[ay,m,e,fq,kE]) (by rw[o,aH,aO];omega),z,<-aM,bI (by simp only[ay,m,o,e,fq,kE];omega),aJ (by simp only[ay,m,o,e,fq,kE];omega)]
theorem LD (v:Value)(n:Nat)(r:List Value)(j:Nat)(a:List Value)(w:World)(S:Nat->Prop)(B:Nat)(C:∀g,S g->g<w.heap.size)(D:B<=w.heap.size)(h:aT w S B 103 2 v n r)(A:Row w j 103 a)(f:a.length=2)(b:∀u∈a,u.oneCell'=true)(M:n<=1000000):
  Calls Tryz.prog 114 #[v,.int .i64 n,.slice (some ⟨j,0,none⟩) 1 1] w fun e l=>∃p,e= .returned p/\aT l S B 103 2 p (n+1) (r++a)/\Keep (fun g=>v.ownBlock=some g) w l/\Below B w l:=by
 have i:Src Tryz.prog 2 52 (.slice (some ⟨j,0,none⟩) 1 1) 1 a w:=by
  have:=(A.dx (S:=gB) (k:=2) (off:=0) 1 1 (by omega) id (aD _) (by simp[maxLen])).src bL;rw[dQ,aJ (by omega)] at this;exact this b
 have z:=h;obtain⟨q,c,rfl,I,G,K,H⟩:=h.dx.form;have E:n - n=0:=by omega
 have s:=ah b;clear b;have t:=ah f;clear f;go_enter Tryz.func114,Tryz.ntmps114;go_wp2_with (at_builtin;(refine cO rfl (.tmp 23) (.tmp 24) 52 52 rfl S B 103 2 32 _ bL iK rfl (.slice q n c) _ _ rfl z (.slice (some ⟨j,0,none⟩) 1 1) _ _ rfl i C D ?_ ?_ ?_);(focus unfold maxLen;omega);(focus omega);intro x J F d m o y)
 all_goals
  go_ret;exact⟨_,rfl,d,m.mono (fun _ _ h=>by cases q<;>exact h),o⟩
theorem LC (g a n i:Nat)(q:List Value)(d:Nat)(b:List Value)(w:World)(S:Nat->Prop)(B:Nat)(h:aT w S B 103 2 (.slice (some ⟨g,0,none⟩) n a) n q)(M:∀u∈q,u.oneCell'=true)(C:Row w d 103 b)(A:d≠g)(p:b.length=2)(z:∀u∈b,u.oneCell'=true)(hn:n<=1000000)(hi:i<n)(c:n+1<=a):
  Calls Tryz.prog 114 #[.slice (some ⟨g,0,none⟩) n a,.int .i64 i,.slice (some ⟨d,0,none⟩) 1 1] w fun e R=>∃T,e= .returned T/\aT R S B 103 2 T (n+1) (q.take (i*2)++b++q.drop (i*2))/\Keep (fun k=>k=g) w R:=by
 obtain⟨j,E,x,O,J,Q,hc,y⟩:=h.row;have ql:a<=9223372036854775807:=by simpa [maxLen] using y
 have s:=h.1.1;clear h;have pM:(callFunc 158 #[.slice (some ⟨d,0,none⟩) 1 1,.slice (some ⟨g,(i+1)*2,none⟩) (n - i) (a - (i+1))]).run Tryz.prog w= .ok (.value (.bool false)) w:=by
  rw[BM Tryz.func158 (by kernel_rfl) (by kernel_rfl) (by kernel_rfl) (e:=Extern.SlicesOverlaps.overlaps #[52,52] #[4]) (by kernel_rfl)];rw[Lib.run_overlaps_apart w 52 4 103 bL 2 (fun w=>by kernel_rfl) ⟨d,0,none⟩ ⟨g,(i+1)*2,none⟩ 1 1 (n - i) (a - (i+1)) A 103 103 2 (a*2)
   (by unfold Row at C;simp[World.shape?,C,p]) (by unfold Row at E;simp[World.shape?,E,x]) (by omega) (C.frozen 0) (C.frozen 2)]
  rfl
 have k1:(0:Int)<=(i:Int):=by omega
 have k2:(i:Int)<=(a:Int):=by omega
 have k3:(0:Int)<=(i:Int)+1:=by omega
 have k4:(i:Int)+1<=(n:Int)+1:=by omega
 have k5:((i:Int)+1).toNat=i+1:=by omega
 have k6:((n:Int)+1).toNat=n+1:=by omega
 have k7:(n:Int)+1<=(a:Int):=by omega
 have k8:((i:Int)==(n:Int))=false:=by rw[fM];omega
 have k9:IntKind.i64.wrap ((i:Int)+1)=(i:Int)+1:=aG _ (by omega);have p9:¬a=i:=by omega
 have qb:(i:Int)<=(n:Int)+1:=by omega
 have qc:¬a=i+1:=by omega
 have r:aZ w.drew gB 2 (.slice (some ⟨g,i*2,none⟩) (n+1 - i) (a - i)) (n+1 - i) ((j.drop (i*2)).take ((n+1 - i)*2)):=Row.dx (w:=w.drew) E _ _ (by omega) id (by omega) (by unfold maxLen;omega);have l:((j.drop (i*2)).take ((n+1 - i)*2)).take ((n - i)*2)=q.drop (i*2):=by
  rw[dz,bK (by omega),<-O,gQ];congr 1;omega
 have m:aZ w gB 2 (.slice (some ⟨d,0,none⟩) 1 1) 1 b:=by
  have:=C.dx (S:=gB) (k:=2) (off:=0) 1 1 (by omega) id (aD _) (by simp[maxLen]);rwa [dQ,aJ (by omega)] at this
 have X:=ah x;clear x;have Z:=ah O;clear O;have D:=ah s;clear s;have f:=ah p;clear p;have v:=ah l;clear l;go_enter Tryz.func114,Tryz.ntmps114
 go_wp2
 go_region_held3 (fun _=>True) (trivial) (first|((refine zV rfl (gZ (.tmp 73) (.tmp 76) 52 52 rfl 103 2 32 _ bL iK g ((i+1)*2) 103 (n - i) (n - i) (a - (i+1)) (some ⟨g,(i+1)*2,none⟩) j ?_ E (.slice (some ⟨g,i*2,none⟩) (n+1 - i) (a - i)) ?_ (n+1 - i) (q.drop (i*2)) rfl ?_ ?_ ?_ (fun _=>rfl) ?_ ?_ ?_));(focus first|rfl|(show Value.slice _ _ _=_;congr 1;omega));(focus first|rfl|(show Value.slice _ _ _=_;congr 1<;>omega));(focus exact(Nat.min_eq_right (by omega)).symm);(focus rw[aO,D.out];omega);(focus rw[<-v.out];exact r.first (n - i) (by omega));(focus rw[aO,D.out,X.out];omega);(focus exact fun u hu=>M u (cZ hu));intro F N t))
 have o:(Builtin.firstCells 2 1 (.slice (some ⟨d,0,none⟩) 1 1)).run Tryz.prog F= .ok b.toArray F:=by
  have h1:aZ F gB 2 (.slice (some ⟨d,0,none⟩) 1 1) 1 b:=m.keep fun g' I x _=>by cases I;exact⟨t.block d x A,id⟩
  have:=h1.first (P:=Tryz.prog) 1 (aD _);rwa [aJ (by have:=f.out;omega)] at this
 obtain⟨Y,V,W⟩:=Rm j q b i n a 2 hi c X.out Z.out f.out;have M1:=ah Y;clear Y;have M2:=ah V;clear V;have M3:=ah W;clear W;go_wp2_with (first|((refine dV rfl ?_);intro K hK;(refine gZ (.tmp 80) (.tmp 81) 52 52 rfl 103 2 32 _ bL iK g (i*2) 103 1 (n+1 - i) (a - i) (some ⟨g,i*2,none⟩) _ rfl N (.slice (some ⟨d,0,none⟩) 1 1) rfl 1 b rfl ?_ ?_ o (fun _=>rfl) ?_ z ?_);(focus exact(bK (by omega)).symm);(focus rw[f.out]);(focus rw[M1.out,f.out];omega);intro w2 H G;refine hK _ _ ?_));go_ret;refine⟨_,rfl,?_,((Keep.refl (· =g) w).drew.trans t (fun _ _ h=>h)).trans G (fun _ _ h=>h)⟩;rw[<-M3.out];exact Row.own H (n+1) M2.out J Q c y
def vP (X b:List c)(a:Nat)(h:a+b.length<=X.length):(splice X a b).take (a+b.length)=X.take a++b:=by
 unfold splice;rw[<-aM,bI (by simp only[ay,aH];omega),aJ (by simp only[ay,aH];omega)]
def nD (X b:List c)(a t:Nat)(d:t<=a)(h:a<=X.length):(splice X a b).take t=X.take t:=by
 unfold splice;rw[bI (by rw[aH];omega),dz,bK d]
def JI (X b:List c)(a:Nat)(h:a<=X.length):(splice X a b).drop a=b++X.drop (a+b.length):=by
 unfold splice;rw[eU (by rw[aH];omega),dY (by rw[aH];omega),jI]
def rU (X b:List c)(a t:Nat)(f:a+b.length<=t)(h:a<=X.length):(splice X a b).drop t=X.drop t:=by
 obtain⟨d,rfl⟩:∃d,t=a+b.length+d:=⟨t - (a+b.length),by omega⟩
 have e:(splice X a b).drop (a+b.length)=X.drop (a+b.length):=by
  unfold splice;rw[<-aM];exact fO (by simp only[ay,aH];omega)
 rw[<-kK,e,kK]
def Cf {e:Type}(c a b:List e)(i:Nat)(h:i+a.length+b.length<=c.length):
  (splice (splice c i a) (i+a.length) b).length=c.length/\(splice (splice c i a) (i+a.length) b).take (i+a.length+b.length)=c.take i++a++b:=by
 have d:(splice c i a).length=c.length:=eY _ _ _ (by omega);exact⟨(eY _ _ _ (by omega)).trans d,by rw[vP _ _ _ (by omega),vP _ _ _ (by omega)]⟩
def MV {e:Type}(c a b:List e)(i:Nat)(h:i+a.length+b.length<=c.length):
  (splice (splice c (i+a.length) b) i a).length=c.length/\(splice (splice c (i+a.length) b) i a).take (i+a.length+b.length)=c.take i++a++b:=by
 have d:(splice c (i+a.length) b).length=c.length:=eY _ _ _ (by omega);refine⟨(eY _ _ _ (by omega)).trans d,?_⟩;rw[SA,vP _ _ _ (by omega),nD _ _ _ _ (by omega) (by omega)];congr 1;rw[rU _ _ _ _ (aD _) (by omega),JI _ _ _ (by omega),bI (aD _),bS]
theorem EA (g a n i:Nat)(k:List Value)(r:Value)(m:Nat)(b:List Value)(w:World)(S:Nat->Prop)(B:Nat)(K:∀g,S g->g<w.heap.size)(M:B<=w.heap.size)(h:aT w S B 9 1 (.slice (some ⟨g,0,none⟩) n a) n k)(s:aT w S B 9 1 r m b)(c:∀u∈b,u.oneCell'=true)(hn:n<=1000000)(hm:m<=1000000)(I:n=i+1)(E:0<m):
  Calls Tryz.prog 182 #[.slice (some ⟨g,0,none⟩) n a,.int .i64 i,.int .i64 ((i:Int)+1),r] w fun e l=>∃x,e= .returned x/\aT l S B 9 1 x (i+m) (k.take i++b)/\Keep (· =g) w l/\Below B w l:=by
 obtain⟨q,z,y,A,p,t,hc,f⟩:=h.row;have N:a<=9223372036854775807:=by simpa [maxLen] using f
 have G:aT w S B 9 1 (.slice (some ⟨g,0,none⟩) i a) i (k.take i):=by
  have:=Row.own z i y p t (by omega) f;rwa [show q.take (i*1)=k.take i by rw[<-A,dz,aW,aW,bK (by omega)]] at this
 have j:Src Tryz.prog 1 142 r m b w:=s.dx.src bq c;obtain⟨H,J,rfl,V,Y,Q,Z⟩:=s.dx.form;clear h s A y z;subst I;have O:(0:Int)<=(i:Int):=by omega
 have k2:(i:Int)<=(a:Int):=by omega
 have T:(0:Int)<=(i:Int)+1:=by omega
 have k4:(i:Int)+1<=(a:Int):=by omega
 have W:((i:Int)+1).toNat=i+1:=by omega
 have k6:¬(((i+m:Nat):Int)<((i+1:Nat):Int)):=by omega
 have R:¬((i:Int)+(m:Int)<(i:Int)+1):=by omega
 have C:=ah c;clear c;go_enter Uz,PI;go_wp2_with (at_builtin;(refine cO rfl (.tmp 32) (.tmp 33) 142 142 rfl S B 9 1 16 _ bq ig rfl (.slice (some ⟨g,0,none⟩) i a) _ _ rfl G (.slice H m J) _ _ rfl j K M ?_ ?_ ?_);(focus unfold maxLen;omega);(focus omega);intro D X P d o v F)
 all_goals
  go_ret;exact⟨_,rfl,d,o.mono (fun _ _ h=>by cases h;rfl),v⟩
theorem EB (g a n i:Nat)(t:List Value)(x:Value)(w:World)(S:Nat->Prop)(B:Nat)(h:aT w S B 9 1 (.slice (some ⟨g,0,none⟩) n a) n t)(z:aT w S B 9 1 x 0 [])(hn:n<=1000000)(N:n=i+1):
  Calls Tryz.prog 182 #[.slice (some ⟨g,0,none⟩) n a,.int .i64 i,.int .i64 ((i:Int)+1),x] w fun e C=>∃D,e= .returned D/\aT C S B 9 1 D i (t.take i)/\Keep (· =g) w C:=by
 obtain⟨b,J,I,E,q,A,hc,j⟩:=h.row;have P:a<=9223372036854775807:=by simpa [maxLen] using j
 have l:Src Tryz.prog 1 142 x 0 [] w:=z.dx.src bq (by simp);obtain⟨M,O,rfl,X,v2,T,v4⟩:=z.dx.form;clear h z;subst N;have m:b.take i=t.take i:=by rw[<-E,dz,aW,bK (by omega)]
 have c:b.length=a:=by omega
 have y:splice b i ([]:List Value)=b:=by simp[splice]
 have s:Row w g 9 (splice b (i*1) [])->Row w g 9 b:=by rw[aW,y];exact id
 have Q:(0:Int)<=(i:Int):=by omega
 have k2:(i:Int)<=(a:Int):=by omega
 have W:(0:Int)<=(i:Int)+1:=by omega
 have k4:(i:Int)+1<=(a:Int):=by omega
 have Y:((i:Int)+1).toNat=i+1:=by omega
 have k6:i+1 - i=1:=by omega
 have V:¬a=i:=by omega
 have f:=ah c;clear c I E;have F:=ah y;clear y s;go_enter Uz,PI;go_wp2_with (first|(refine dV rfl ?_;intro K r;(refine zk (.tmp 32) (.tmp 33) 142 142 rfl 9 1 16 _ bq ig g i a _ b rfl J (.slice M 0 O) 0 [] rfl l ?_ ?_ ?_);(focus omega);(focus have:=f.out;simp only[bV];omega);intro R v p;refine r _ _ ?_)|(refine dV rfl ?_;intro K r;(refine nu (.tmp 43) 142 rfl 9 1 16 _ bq ig rfl g i 9 1 _ (some ⟨g,i,none⟩) _ rfl v (fun _=>rfl) ?_ ?_ ?_);(focus simp only[aW,F.out,f.out];omega);(focus exact lF _ _ (by simp[Value.cells,Value.oneCell']) (by simp[Value.cells]));intro w2 G Z d o;refine r _ _ ?_))
 all_goals
  go_ret;rw[aW,F.out] at d;have H:(splice b i G).length=a:=by rw[eY _ _ _ (by have:=f.out;omega)];exact f.out
  have:=Row.own (k:=1) d i (by omega) q A (by omega) j;rw[aW,nD _ _ _ _ (aD _) (by have:=f.out;omega),m] at this;exact⟨_,rfl,this,p.trans o (fun _ _ h=>h)⟩
theorem CZ (g a n i:Nat)(l:List Value)(M:Value)(m:Nat)(b:List Value)(w:World)(S:Nat->Prop)(B:Nat)(h:aT w S B 9 1 (.slice (some ⟨g,0,none⟩) n a) n l)(pM:∀u∈l,u.oneCell'=true)(G:aT w S B 9 1 M m b)(dx:M.ownBlock≠some g)(v:∀u∈b,u.oneCell'=true)(hn:n<=1000000)(hi:i+1<n)(hm:m<=1)(N:Nat)(L:List Value)(hN:N=n - 1+m)(hL:L=l.take i++b++l.drop (i+1)):
  Calls Tryz.prog 182 #[.slice (some ⟨g,0,none⟩) n a,.int .i64 i,.int .i64 ((i:Int)+1),M] w fun e w'=>∃v',e= .returned v'/\aT w' S B 9 1 v' N L/\Keep (· =g) w w':=by
 obtain⟨c,hr,hl,hx,V,qc,hc,y⟩:=h.row;have q9:a<=9223372036854775807:=by simpa [maxLen] using y
 have E:b.length=m:=by have:=G.1.1;omega
 have A:c.length=a:=by omega
 have z:c.take n=l:=by rw[<-hx,aW]
 obtain⟨vo,vc,rfl,v1,v2,v3,v4⟩:=G.dx.form;have O:=G.dx;clear h G hl hx;obtain⟨d,rfl⟩:∃d,n=i+1+(d+1):=⟨n - (i+2),by omega⟩
 have HN:=ah hN;clear hN;have HL:=ah hL;clear hL;have k1:(0:Int)<=(i:Int):=by omega
 have k2:(i:Int)<=(a:Int):=by omega
 have k3:(0:Int)<=(i:Int)+1:=by omega
 have k4:(i:Int)+1<=(a:Int):=by omega
 have k5:((i:Int)+1).toNat=i+1:=by omega
 have j:=ah A;clear A;have Y:=ah z;clear z;have o:=ah E;clear E;go_enter Uz,PI;have k6:¬a=i+1:=by omega
 have k7:(i:Int)+1<=(i:Int)+1+((d:Int)+1):=by omega
 have k8:IntKind.i64.wrap ((i:Int)+(m:Int))=(i:Int)+(m:Int):=aG _ (by omega);have k9:i+1+(d+1) - (i+1)=d+1:=by omega
 have av:IntKind.i64.wrap ((i:Int)+(m:Int)+((d:Int)+1))=(i:Int)+(m:Int)+((d:Int)+1):=aG _ (by omega);have aB:¬((a:Int)<(i:Int)+(m:Int)+((d:Int)+1)):=by omega
 have di:((i:Int)+(m:Int)+((d:Int)+1)).toNat=i+m+(d+1):=by omega
 have bB:(0:Int)<=(i:Int)+(m:Int)+((d:Int)+1):=by omega
 have q8:(i:Int)+(m:Int)+((d:Int)+1)<=a:=by omega
 have af:(i:Int)+(m:Int)<=(i:Int)+1:=by omega
 have aA:(i:Int)<=(i:Int)+(m:Int)+((d:Int)+1):=by omega
 have bN:¬a=i:=by omega
 go_wp2_with fail;refine aP (fun _=>True) (fun _=>true) [0,1,2,3,4,5,6,7,8,9,10,11,12] rfl (by kernel_rfl) trivial ?_
 repeat (refine oq ?_ rfl rfl rfl ?_ ?_;rotate_left;(focus intro W C;(try dsimp only at C);skip;first|(go_simp;first|done|with_reducible rfl));try simp only[Act.put,aj,au,ak])
 refine bR ?_;have F:(l.drop (i+1)).length=d+1:=by rw[aO,<-Y.out,aH,j.out];omega
 have R:c.take i=l.take i:=by rw[<-Y.out,dz,bK (by omega)]
 obtain⟨s,t⟩:=Cf c b (l.drop (i+1)) i (by rw[o.out,F,j.out];omega);rw[o.out,F,R] at t;rw[o.out] at s;have r:(Builtin.firstCells 1 m (.slice vo m vc)).run Tryz.prog w.drew= .ok b.toArray w.drew:=by
  have H:=aZ.first (P:=Tryz.prog) (w:=w.drew) (O.keep fun _ _ _ h=>⟨rfl,h⟩) m (aD _);rwa [aJ (by rw[o.out];omega)] at H
 have q:∀W,Row W g 9 (splice c i b)->(Builtin.firstCells 1 (d+1) (.slice (some ⟨g,i+1,none⟩) (d+1) (a - (i+1)))).run Tryz.prog W= .ok (l.drop (i+1)).toArray W:=by
  intro W C;have H:=(Row.dx (S:=gB) (k:=1) (off:=i+1) C (d+1) (a - (i+1)) (by rw[eY _ _ _ (by rw[o.out,j.out];omega),j.out];omega) id (by omega) (by unfold maxLen;omega)).first (P:=Tryz.prog) (d+1) (aD _);rw[dz,jf,rU _ _ _ _ (by rw[o.out];omega) (by rw[j.out];omega),aW] at H;rwa [show (c.drop (i+1)).take (d+1)=l.drop (i+1) by rw[<-Y.out,gQ];congr 1;omega] at H
 have HD:=ah F;clear F;have HT:=ah R;clear R;have p:=ah s;clear s;have p9:=ah t;clear t;have qb:=ah r;clear r;have J:=ah q;clear q;have bC:¬a=i+m:=by omega
 have bH:i+m+(d+1) - (i+m)=d+1:=by omega
 have ql:(0:Int)<=(i:Int)+(m:Int):=by omega
 have dn:(i:Int)+(m:Int)<=(i:Int)+(m:Int)+((d:Int)+1):=by omega
 have qo:((i:Int)+(m:Int)).toNat=i+m:=by omega
 have bA:(i:Int)+(m:Int)+((d:Int)+1)<=(i:Int)+1+((d:Int)+1):=by omega
 go_wp2_with (first|((refine dV rfl ?_);intro K D;(refine gZ (.tmp 95) (.tmp 96) 142 142 rfl 9 1 16 _ bq ig g i 9 m (i+m+(d+1) - i) (a - i) (some ⟨g,i,none⟩) c rfl hr (.slice vo m vc) rfl m b rfl ?_ ?_ qb.out (fun _=>rfl) ?_ v ?_);(focus exact(bK (by omega)).symm);(focus rw[o.out,aW]);(focus rw[o.out,j.out];omega);intro w1 x Z;refine D _ _ (Stop.of ?_)))
 refine sN ?_;go_wp2_with fail;refine aP (fun _=>True) (fun i=> !([9].contains i)) [0,1,2,3,4,5,6,7,8,9] rfl (by kernel_rfl) trivial ?_
 repeat (refine oq ?_ rfl rfl rfl ?_ ?_;rotate_left;(focus intro W C;(try dsimp only at C);skip;first|(go_simp;first|done|with_reducible rfl));try simp only[Act.put,aj,au,ak])
 refine jC rfl rfl rfl (by kernel_rfl) ?_;intro K D;refine gZ (.tmp 103) (.tmp 106) 142 142 rfl 9 1 16 _ bq ig g (i+m) 9 (d+1) (d+1) (a - (i+m)) (some ⟨g,i+m,none⟩) _ rfl (w:=w1.drew) x (.slice (some ⟨g,i+1,none⟩) (d+1) (a - (i+1))) rfl (d+1) (l.drop (i+1)) rfl (jf _).symm (by rw[HD.out,aW]) (J.out _ x) (fun _=>rfl) ?_ (fun u hu=>pM u (cZ hu)) ?_
 ·rw[eY _ _ _ (by rw[o.out,j.out];omega),HD.out,j.out];omega
 intro w2 I Q;refine D.out _ _ (bR ?_);go_wp2_with (first|((refine dV rfl ?_);intro K D;(refine nu (.tmp 110) 142 rfl 9 1 16 _ bq ig rfl g (i+m+(d+1)) 9 _ _ _ _ rfl I ?_ ?_ ?_ ?_);(focus intro h0;first|rfl|(exfalso;omega)|(rw[if_neg (by omega)]));(focus rw[p.out,j.out];omega);(focus exact lF _ _ (by simp[Value.cells,Value.oneCell']) (by simp[Value.cells]));intro w3 zs hz T X;refine D _ _ ?_))
 all_goals
  go_ret;have f:=Row.own (k:=1) T (i+m+(d+1)) (by rw[eY _ _ _ (by rw[p.out,j.out,hz];omega),p.out,j.out,aW]) V qc (by omega) y;rw[aW,nD _ _ _ _ (aD _) (by rw[p.out,j.out];omega),p9.out] at f;refine⟨_,rfl,?_,((((Keep.refl (· =g) w).drew.trans Z (fun _ _ h=>h)).drew).trans Q (fun _ _ h=>h)).trans X (fun _ _ h=>h)⟩;rw[HL.out,show N=i+m+(d+1) by rw[HN.out];omega]
  first|exact f|(rw[‹a=i+m+(d+1)›] at f;exact f)
theorem EC (g a n i:Nat)(k:List Value)(r:Value)(m:Nat)(b:List Value)(w:World)(S:Nat->Prop)(B:Nat)(K:∀g,S g->g<w.heap.size)(M:B<=w.heap.size)(h:aT w S B 3 1 (.slice (some ⟨g,0,none⟩) n a) n k)(s:aT w S B 3 1 r m b)(c:∀u∈b,u.oneCell'=true)(hn:n<=1000000)(hm:m<=1000000)(I:n=i+1)(E:0<m):
  Calls Tryz.prog 183 #[.slice (some ⟨g,0,none⟩) n a,.int .i64 i,.int .i64 ((i:Int)+1),r] w fun e l=>∃x,e= .returned x/\aT l S B 3 1 x (i+m) (k.take i++b)/\Keep (· =g) w l/\Below B w l:=by
 obtain⟨q,z,y,A,p,t,hc,f⟩:=h.row;have N:a<=9223372036854775807:=by simpa [maxLen] using f
 have G:aT w S B 3 1 (.slice (some ⟨g,0,none⟩) i a) i (k.take i):=by
  have:=Row.own z i y p t (by omega) f;rwa [show q.take (i*1)=k.take i by rw[<-A,dz,aW,aW,bK (by omega)]] at this
 have j:Src Tryz.prog 1 93 r m b w:=s.dx.src bE c;obtain⟨H,J,rfl,V,Y,Q,Z⟩:=s.dx.form;clear h s A y z;subst I;have O:(0:Int)<=(i:Int):=by omega
 have k2:(i:Int)<=(a:Int):=by omega
 have T:(0:Int)<=(i:Int)+1:=by omega
 have k4:(i:Int)+1<=(a:Int):=by omega
 have W:((i:Int)+1).toNat=i+1:=by omega
 have k6:¬(((i+m:Nat):Int)<((i+1:Nat):Int)):=by omega
 have R:¬((i:Int)+(m:Int)<(i:Int)+1):=by omega
 have C:=ah c;clear c;go_enter Uy,PG;go_wp2_with (at_builtin;(refine cO rfl (.tmp 32) (.tmp 33) 93 93 rfl S B 3 1 8 _ bE iq rfl (.slice (some ⟨g,0,none⟩) i a) _ _ rfl G (.slice H m J) _ _ rfl j K M ?_ ?_ ?_);(focus unfold maxLen;omega);(focus omega);intro D X P d o v F)
 all_goals
  go_ret;exact⟨_,rfl,d,o.mono (fun _ _ h=>by cases h;rfl),v⟩
theorem ED (g a n i:Nat)(t:List Value)(x:Value)(w:World)(S:Nat->Prop)(B:Nat)(h:aT w S B 3 1 (.slice (some ⟨g,0,none⟩) n a) n t)(z:aT w S B 3 1 x 0 [])(hn:n<=1000000)(N:n=i+1):
  Calls Tryz.prog 183 #[.slice (some ⟨g,0,none⟩) n a,.int .i64 i,.int .i64 ((i:Int)+1),x] w fun e C=>∃D,e= .returned D/\aT C S B 3 1 D i (t.take i)/\Keep (· =g) w C:=by
 obtain⟨b,J,I,E,q,A,hc,j⟩:=h.row;have P:a<=9223372036854775807:=by simpa [maxLen] using j
 have l:Src Tryz.prog 1 93 x 0 [] w:=z.dx.src bE (by simp);obtain⟨M,O,rfl,X,v2,T,v4⟩:=z.dx.form;clear h z;subst N;have m:b.take i=t.take i:=by rw[<-E,dz,aW,bK (by omega)]
 have c:b.length=a:=by omega
 have y:splice b i ([]:List Value)=b:=by simp[splice]
 have s:Row w g 3 (splice b (i*1) [])->Row w g 3 b:=by rw[aW,y];exact id
 have Q:(0:Int)<=(i:Int):=by omega
 have k2:(i:Int)<=(a:Int):=by omega
 have W:(0:Int)<=(i:Int)+1:=by omega
 have k4:(i:Int)+1<=(a:Int):=by omega
 have Y:((i:Int)+1).toNat=i+1:=by omega
 have k6:i+1 - i=1:=by omega
 have V:¬a=i:=by omega
 have f:=ah c;clear c I E;have F:=ah y;clear y s;go_enter Uy,PG;go_wp2_with (first|(refine dV rfl ?_;intro K r;(refine zk (.tmp 32) (.tmp 33) 93 93 rfl 3 1 8 _ bE iq g i a _ b rfl J (.slice M 0 O) 0 [] rfl l ?_ ?_ ?_);(focus omega);(focus have:=f.out;simp only[bV];omega);intro R v p;refine r _ _ ?_)|(refine dV rfl ?_;intro K r;(refine nu (.tmp 43) 93 rfl 3 1 8 _ bE iq rfl g i 3 1 _ (some ⟨g,i,none⟩) _ rfl v (fun _=>rfl) ?_ ?_ ?_);(focus simp only[aW,F.out,f.out];omega);(focus exact lF _ _ (by simp[Value.cells,Value.oneCell']) (by simp[Value.cells]));intro w2 G Z d o;refine r _ _ ?_))
 all_goals
  go_ret;rw[aW,F.out] at d;have H:(splice b i G).length=a:=by rw[eY _ _ _ (by have:=f.out;omega)];exact f.out
  have:=Row.own (k:=1) d i (by omega) q A (by omega) j;rw[aW,nD _ _ _ _ (aD _) (by have:=f.out;omega),m] at this;exact⟨_,rfl,this,p.trans o (fun _ _ h=>h)⟩
theorem Da (g a n i:Nat)(l:List Value)(M:Value)(m:Nat)(b:List Value)(w:World)(S:Nat->Prop)(B:Nat)(h:aT w S B 3 1 (.slice (some ⟨g,0,none⟩) n a) n l)(pM:∀u∈l,u.oneCell'=true)(G:aT w S B 3 1 M m b)(dx:M.ownBlock≠some g)(v:∀u∈b,u.oneCell'=true)(hn:n<=1000000)(hi:i+1<n)(hm:m<=1)(N:Nat)(L:List Value)(hN:N=n - 1+m)(hL:L=l.take i++b++l.drop (i+1)):
  Calls Tryz.prog 183 #[.slice (some ⟨g,0,none⟩) n a,.int .i64 i,.int .i64 ((i:Int)+1),M] w fun e w'=>∃v',e= .returned v'/\aT w' S B 3 1 v' N L/\Keep (· =g) w w':=by
 obtain⟨c,hr,hl,hx,V,qc,hc,y⟩:=h.row;have q9:a<=9223372036854775807:=by simpa [maxLen] using y
 have E:b.length=m:=by have:=G.1.1;omega
 have A:c.length=a:=by omega
 have z:c.take n=l:=by rw[<-hx,aW]
 obtain⟨vo,vc,rfl,v1,v2,v3,v4⟩:=G.dx.form;have O:=G.dx;clear h G hl hx;obtain⟨d,rfl⟩:∃d,n=i+1+(d+1):=⟨n - (i+2),by omega⟩
 have HN:=ah hN;clear hN;have HL:=ah hL;clear hL;have k1:(0:Int)<=(i:Int):=by omega
 have k2:(i:Int)<=(a:Int):=by omega
 have k3:(0:Int)<=(i:Int)+1:=by omega
 have k4:(i:Int)+1<=(a:Int):=by omega
 have k5:((i:Int)+1).toNat=i+1:=by omega
 have j:=ah A;clear A;have Y:=ah z;clear z;have o:=ah E;clear E;go_enter Uy,PG;have k6:¬a=i+1:=by omega
 have k7:(i:Int)+1<=(i:Int)+1+((d:Int)+1):=by omega
 have k8:IntKind.i64.wrap ((i:Int)+(m:Int))=(i:Int)+(m:Int):=aG _ (by omega);have k9:i+1+(d+1) - (i+1)=d+1:=by omega
 have av:IntKind.i64.wrap ((i:Int)+(m:Int)+((d:Int)+1))=(i:Int)+(m:Int)+((d:Int)+1):=aG _ (by omega);have aB:¬((a:Int)<(i:Int)+(m:Int)+((d:Int)+1)):=by omega
 have di:((i:Int)+(m:Int)+((d:Int)+1)).toNat=i+m+(d+1):=by omega
 have bB:(0:Int)<=(i:Int)+(m:Int)+((d:Int)+1):=by omega
 have q8:(i:Int)+(m:Int)+((d:Int)+1)<=a:=by omega
 have af:(i:Int)+(m:Int)<=(i:Int)+1:=by omega
 have aA:(i:Int)<=(i:Int)+(m:Int)+((d:Int)+1):=by omega
 have bN:¬a=i:=by omega
 go_wp2_with fail;refine aP (fun _=>True) (fun _=>true) [0,1,2,3,4,5,6,7,8,9,10,11,12] rfl (by kernel_rfl) trivial ?_
 repeat (refine oq ?_ rfl rfl rfl ?_ ?_;rotate_left;(focus intro W C;(try dsimp only at C);skip;first|(go_simp;first|done|with_reducible rfl));try simp only[Act.put,aj,au,ak])
 refine bR ?_;have F:(l.drop (i+1)).length=d+1:=by rw[aO,<-Y.out,aH,j.out];omega
 have R:c.take i=l.take i:=by rw[<-Y.out,dz,bK (by omega)]
 obtain⟨s,t⟩:=Cf c b (l.drop (i+1)) i (by rw[o.out,F,j.out];omega);rw[o.out,F,R] at t;rw[o.out] at s;have r:(Builtin.firstCells 1 m (.slice vo m vc)).run Tryz.prog w.drew= .ok b.toArray w.drew:=by
  have H:=aZ.first (P:=Tryz.prog) (w:=w.drew) (O.keep fun _ _ _ h=>⟨rfl,h⟩) m (aD _);rwa [aJ (by rw[o.out];omega)] at H
 have q:∀W,Row W g 3 (splice c i b)->(Builtin.firstCells 1 (d+1) (.slice (some ⟨g,i+1,none⟩) (d+1) (a - (i+1)))).run Tryz.prog W= .ok (l.drop (i+1)).toArray W:=by
  intro W C;have H:=(Row.dx (S:=gB) (k:=1) (off:=i+1) C (d+1) (a - (i+1)) (by rw[eY _ _ _ (by rw[o.out,j.out];omega),j.out];omega) id (by omega) (by unfold maxLen;omega)).first (P:=Tryz.prog) (d+1) (aD _);rw[dz,jf,rU _ _ _ _ (by rw[o.out];omega) (by rw[j.out];omega),aW] at H;rwa [show (c.drop (i+1)).take (d+1)=l.drop (i+1) by rw[<-Y.out,gQ];congr 1;omega] at H
 have HD:=ah F;clear F;have HT:=ah R;clear R;have p:=ah s;clear s;have p9:=ah t;clear t;have qb:=ah r;clear r;have J:=ah q;clear q;have bC:¬a=i+m:=by omega
 have bH:i+m+(d+1) - (i+m)=d+1:=by omega
 have ql:(0:Int)<=(i:Int)+(m:Int):=by omega
 have dn:(i:Int)+(m:Int)<=(i:Int)+(m:Int)+((d:Int)+1):=by omega
 have qo:((i:Int)+(m:Int)).toNat=i+m:=by omega
 have bA:(i:Int)+(m:Int)+((d:Int)+1)<=(i:Int)+1+((d:Int)+1):=by omega
 go_wp2_with (first|((refine dV rfl ?_);intro K D;(refine gZ (.tmp 95) (.tmp 96) 93 93 rfl 3 1 8 _ bE iq g i 3 m (i+m+(d+1) - i) (a - i) (some ⟨g,i,none⟩) c rfl hr (.slice vo m vc) rfl m b rfl ?_ ?_ qb.out (fun _=>rfl) ?_ v ?_);(focus exact(bK (by omega)).symm);(focus rw[o.out,aW]);(focus rw[o.out,j.out];omega);intro w1 x Z;refine D _ _ (Stop.of ?_)))
 refine sN ?_;go_wp2_with fail;refine aP (fun _=>True) (fun i=> !([9].contains i)) [0,1,2,3,4,5,6,7,8,9] rfl (by kernel_rfl) trivial ?_
 repeat (refine oq ?_ rfl rfl rfl ?_ ?_;rotate_left;(focus intro W C;(try dsimp only at C);skip;first|(go_simp;first|done|with_reducible rfl));try simp only[Act.put,aj,au,ak])
 refine jC rfl rfl rfl (by kernel_rfl) ?_;intro K D;refine gZ (.tmp 103) (.tmp 106) 93 93 rfl 3 1 8 _ bE iq g (i+m) 3 (d+1) (d+1) (a - (i+m)) (some ⟨g,i+m,none⟩) _ rfl (w:=w1.drew) x (.slice (some ⟨g,i+1,none⟩) (d+1) (a - (i+1))) rfl (d+1) (l.drop (i+1)) rfl (jf _).symm (by rw[HD.out,aW]) (J.out _ x) (fun _=>rfl) ?_ (fun u hu=>pM u (cZ hu)) ?_
 ·rw[eY _ _ _ (by rw[o.out,j.out];omega),HD.out,j.out];omega
 intro w2 I Q;refine D.out _ _ (bR ?_);go_wp2_with (first|((refine dV rfl ?_);intro K D;(refine nu (.tmp 110) 93 rfl 3 1 8 _ bE iq rfl g (i+m+(d+1)) 3 _ _ _ _ rfl I ?_ ?_ ?_ ?_);(focus intro h0;first|rfl|(exfalso;omega)|(rw[if_neg (by omega)]));(focus rw[p.out,j.out];omega);(focus exact lF _ _ (by simp[Value.cells,Value.oneCell']) (by simp[Value.cells]));intro w3 zs hz T X;refine D _ _ ?_))
 all_goals
  go_ret;have f:=Row.own (k:=1) T (i+m+(d+1)) (by rw[eY _ _ _ (by rw[p.out,j.out,hz];omega),p.out,j.out,aW]) V qc (by omega) y;rw[aW,nD _ _ _ _ (aD _) (by rw[p.out,j.out];omega),p9.out] at f;refine⟨_,rfl,?_,((((Keep.refl (· =g) w).drew.trans Z (fun _ _ h=>h)).drew).trans Q (fun _ _ h=>h)).trans X (fun _ _ h=>h)⟩;rw[HL.out,show N=i+m+(d+1) by rw[HN.out];omega]
  first|exact f|(rw[‹a=i+m+(d+1)›] at f;exact f)
theorem CY (g a n i:Nat)(f:List Value)(p j m:Nat)(b:List Value)(w:World)(S:Nat->Prop)(B:Nat)(h:aT w S B 9 1 (.slice (some ⟨g,0,none⟩) n a) n f)(qo:∀u∈f,u.oneCell'=true)(Q:aT w S B 9 1 (.slice (some ⟨p,0,none⟩) m j) m b)(J:p≠g)(A:∀u∈b,u.oneCell'=true)(hn:n<=1000000)(fo:m<=1000000)(hi:i+1<n)(hm:2<=m)(p9:n - 1+m<=a)(N:Nat)(L:List Value)(hN:N=n - 1+m)(hL:L=f.take i++b++f.drop (i+1)):
  Calls Tryz.prog 182 #[.slice (some ⟨g,0,none⟩) n a,.int .i64 i,.int .i64 ((i:Int)+1),.slice (some ⟨p,0,none⟩) m j] w fun e w'=>∃v',e= .returned v'/\aT w' S B 9 1 v' N L/\Keep (· =g) w w':=by
 obtain⟨c,I,hl,hx,qc,af,hc,D⟩:=h.row;obtain⟨M,T,av,_,_,_,bH,F⟩:=Q.row;have bN:a<=9223372036854775807:=by simpa [maxLen] using D
 have aA:j<=9223372036854775807:=by simpa [maxLen] using F
 have H:b.length=m:=by have:=Q.1.1;omega
 have v:c.length=a:=by omega
 have C:M.length=j:=by omega
 have E:c.take n=f:=by rw[<-hx,aW]
 have Y:=Q.dx;clear h Q hl hx av;obtain⟨d,rfl⟩:∃d,n=i+1+(d+1):=⟨n - (i+2),by omega⟩
 have bC:(callFunc 204 #[.slice (some ⟨g,i+m,none⟩) (d+1) (a - (i+m)),.slice (some ⟨p,0,none⟩) m j]).run Tryz.prog w.drew= .ok (.value (.bool false)) w.drew:=by
  rw[BM Tryz.func204 (by kernel_rfl) (by kernel_rfl) (by kernel_rfl) (e:=Extern.SlicesOverlaps.overlaps #[142,142] #[4]) (by kernel_rfl)];rw[Lib.run_overlaps_apart w.drew 142 4 9 bq 1 (fun w=>by kernel_rfl) ⟨g,i+m,none⟩ ⟨p,0,none⟩ (d+1) (a - (i+m)) m j (Ne.symm J) 9 9 a j
   (by have r:w.drew.heap[g]? =_:=I;simp[World.shape?,r,v]) (by have r:w.drew.heap[p]? =_:=T;simp[World.shape?,r,C]) (by omega) (I.frozen _) (I.frozen _)]
  rfl
 have HN:=ah hN;clear hN;have HL:=ah hL;clear hL;have k1:(0:Int)<=(i:Int):=by omega
 have k2:(i:Int)<=(a:Int):=by omega
 have k3:(0:Int)<=(i:Int)+1:=by omega
 have k4:(i:Int)+1<=(a:Int):=by omega
 have k5:((i:Int)+1).toNat=i+1:=by omega
 have s:=ah v;clear v;have Hx:=ah E;clear E;have y:=ah H;clear H;have k6:¬a=i+1:=by omega
 have k7:(i:Int)+1<=(i:Int)+1+((d:Int)+1):=by omega
 have k8:IntKind.i64.wrap ((i:Int)+(m:Int))=(i:Int)+(m:Int):=aG _ (by omega);have k9:i+1+(d+1) - (i+1)=d+1:=by omega
 have dn:IntKind.i64.wrap ((i:Int)+(m:Int)+((d:Int)+1))=(i:Int)+(m:Int)+((d:Int)+1):=aG _ (by omega);have dR:¬((a:Int)<(i:Int)+(m:Int)+((d:Int)+1)):=by omega
 have fK:((i:Int)+(m:Int)+((d:Int)+1)).toNat=i+m+(d+1):=by omega
 have dZ:(0:Int)<=(i:Int)+(m:Int)+((d:Int)+1):=by omega
 have bB:(i:Int)+(m:Int)+((d:Int)+1)<=a:=by omega
 have di:¬((i:Int)+(m:Int)<=(i:Int)+1):=by omega
 have dx:(i:Int)<=(i:Int)+(m:Int)+((d:Int)+1):=by omega
 have fJ:¬a=i:=by omega
 have O:(f.drop (i+1)).length=d+1:=by rw[aO,<-Hx.out,aH,s.out];omega
 have hT:c.take i=f.take i:=by rw[<-Hx.out,dz,bK (by omega)]
 obtain⟨t,x⟩:=MV c b (f.drop (i+1)) i (by rw[y.out,O,s.out];omega);rw[y.out,O,hT] at x;rw[y.out] at t;have o:∀W,Keep (· =g) w W->(Builtin.firstCells 1 m (.slice (some ⟨p,0,none⟩) m j)).run Tryz.prog W= .ok b.toArray W:=by
  intro W G;have R:=aZ.first (P:=Tryz.prog) (w:=W) (Y.keep fun g' hg hl hs=>⟨G.block g' hl (fun e=>J (by cases hg;exact e)),hs⟩) m (aD _);rwa [aJ (by rw[y.out];omega)] at R
 have l:(Builtin.firstCells 1 (d+1) (.slice (some ⟨g,i+1,none⟩) (d+1) (a - (i+1)))).run Tryz.prog w.drew.drew= .ok (f.drop (i+1)).toArray w.drew.drew:=by
  have R:=(Row.dx (w:=w.drew.drew) (S:=gB) (k:=1) (off:=i+1) I (d+1) (a - (i+1)) (by rw[s.out];omega) id (by omega) (by unfold maxLen;omega)).first (P:=Tryz.prog) (d+1) (aD _);rw[dz,jf,aW] at R;rwa [show (c.drop (i+1)).take (d+1)=f.drop (i+1) by rw[<-Hx.out,gQ];congr 1;omega] at R
 have HD:=ah O;clear O;have HT:=ah hT;clear hT;have Z:=ah t;clear t;have q8:=ah x;clear x;have q9:=ah o;clear o;have X:=ah l;clear l;have fA:¬a=i+m:=by omega
 have fB:i+m+(d+1) - (i+m)=d+1:=by omega
 have aB:(0:Int)<=(i:Int)+(m:Int):=by omega
 have iO:(i:Int)+(m:Int)<=(i:Int)+(m:Int)+((d:Int)+1):=by omega
 have bA:((i:Int)+(m:Int)).toNat=i+m:=by omega
 go_enter Uz,PI;go_wp2_with fail;refine aP (fun _=>True) (fun _=>true) [0,1,2,3,4,5,6,7,8,9,10,11,12] rfl (by kernel_rfl) trivial ?_
 repeat (refine oq ?_ rfl rfl rfl ?_ ?_;rotate_left;(focus intro W G;(try dsimp only at G);skip;first|(go_simp;first|done|with_reducible rfl));try simp only[Act.put,aj,au,ak])
 refine bR ?_;go_wp2_with fail;refine aP (fun _=>True) (fun i=> !([9].contains i)) [0,1,2,3,4,5,6,7,8,9] rfl (by kernel_rfl) trivial ?_
 repeat (refine oq ?_ rfl rfl rfl ?_ ?_;rotate_left;(focus intro W G;(try dsimp only at G);skip;first|(go_simp;first|done|with_reducible rfl));try simp only[Act.put,aj,au,ak])
 refine jC rfl rfl rfl (by kernel_rfl) ?_;intro K hK;refine gZ (.tmp 126) (.tmp 129) 142 142 rfl 9 1 16 _ bq ig g (i+m) 9 (d+1) (d+1) (a - (i+m)) (some ⟨g,i+m,none⟩) _ rfl (w:=w.drew.drew) I (.slice (some ⟨g,i+1,none⟩) (d+1) (a - (i+1))) rfl (d+1) (f.drop (i+1)) rfl (jf _).symm (by rw[HD.out,aW]) X.out (fun _=>rfl) ?_ (fun u hu=>qo u (cZ hu)) ?_
 ·rw[HD.out,s.out];omega
 intro w2 V pM;refine hK.out _ _ (bR ?_);have z:Keep (· =g) w w2:=(Keep.refl (· =g) w).drew.drew.trans pM (fun _ _ h=>h);go_wp2_with (first|((refine dV rfl ?_);intro K hK;(refine gZ (.tmp 133) (.tmp 134) 142 142 rfl 9 1 16 _ bq ig g i 9 m (i+m+(d+1) - i) (a - i) (some ⟨g,i,none⟩) _ rfl V (.slice (some ⟨p,0,none⟩) m j) rfl m b rfl ?_ ?_ (q9.out _ z) (fun _=>rfl) ?_ A ?_);(focus exact(bK (by omega)).symm);(focus rw[y.out,aW]);(focus rw[eY _ _ _ (by rw[HD.out,s.out];omega),y.out,s.out];omega);intro w3 qb ql;refine hK _ _ ?_))
 go_ret;have q:=Row.own (k:=1) qb (i+m+(d+1)) (by rw[Z.out,s.out,aW]) qc af (by omega) D;rw[aW,q8.out] at q;refine⟨_,rfl,?_,z.trans ql (fun _ _ h=>h)⟩;rw[HL.out,show N=i+m+(d+1) by rw[HN.out];omega];exact q
theorem C9 (g a n i:Nat)(f:List Value)(p j m:Nat)(b:List Value)(w:World)(S:Nat->Prop)(B:Nat)(h:aT w S B 3 1 (.slice (some ⟨g,0,none⟩) n a) n f)(qo:∀u∈f,u.oneCell'=true)(Q:aT w S B 3 1 (.slice (some ⟨p,0,none⟩) m j) m b)(J:p≠g)(A:∀u∈b,u.oneCell'=true)(hn:n<=1000000)(fo:m<=1000000)(hi:i+1<n)(hm:2<=m)(p9:n - 1+m<=a)(N:Nat)(L:List Value)(hN:N=n - 1+m)(hL:L=f.take i++b++f.drop (i+1)):
  Calls Tryz.prog 183 #[.slice (some ⟨g,0,none⟩) n a,.int .i64 i,.int .i64 ((i:Int)+1),.slice (some ⟨p,0,none⟩) m j] w fun e w'=>∃v',e= .returned v'/\aT w' S B 3 1 v' N L/\Keep (· =g) w w':=by
 obtain⟨c,I,hl,hx,qc,af,hc,D⟩:=h.row;obtain⟨M,T,av,_,_,_,bH,F⟩:=Q.row;have bN:a<=9223372036854775807:=by simpa [maxLen] using D
 have aA:j<=9223372036854775807:=by simpa [maxLen] using F
 have H:b.length=m:=by have:=Q.1.1;omega
 have v:c.length=a:=by omega
 have C:M.length=j:=by omega
 have E:c.take n=f:=by rw[<-hx,aW]
 have Y:=Q.dx;clear h Q hl hx av;obtain⟨d,rfl⟩:∃d,n=i+1+(d+1):=⟨n - (i+2),by omega⟩
 have bC:(callFunc 208 #[.slice (some ⟨g,i+m,none⟩) (d+1) (a - (i+m)),.slice (some ⟨p,0,none⟩) m j]).run Tryz.prog w.drew= .ok (.value (.bool false)) w.drew:=by
  rw[BM Tryz.func208 (by kernel_rfl) (by kernel_rfl) (by kernel_rfl) (e:=Extern.SlicesOverlaps.overlaps #[93,93] #[4]) (by kernel_rfl)];rw[Lib.run_overlaps_apart w.drew 93 4 3 bE 1 (fun w=>by kernel_rfl) ⟨g,i+m,none⟩ ⟨p,0,none⟩ (d+1) (a - (i+m)) m j (Ne.symm J) 3 3 a j
   (by have r:w.drew.heap[g]? =_:=I;simp[World.shape?,r,v]) (by have r:w.drew.heap[p]? =_:=T;simp[World.shape?,r,C]) (by omega) (I.frozen _) (I.frozen _)]
  rfl
 have HN:=ah hN;clear hN;have HL:=ah hL;clear hL;have k1:(0:Int)<=(i:Int):=by omega
 have k2:(i:Int)<=(a:Int):=by omega
 have k3:(0:Int)<=(i:Int)+1:=by omega
 have k4:(i:Int)+1<=(a:Int):=by omega
 have k5:((i:Int)+1).toNat=i+1:=by omega
 have s:=ah v;clear v;have Hx:=ah E;clear E;have y:=ah H;clear H;have k6:¬a=i+1:=by omega
 have k7:(i:Int)+1<=(i:Int)+1+((d:Int)+1):=by omega
 have k8:IntKind.i64.wrap ((i:Int)+(m:Int))=(i:Int)+(m:Int):=aG _ (by omega);have k9:i+1+(d+1) - (i+1)=d+1:=by omega
 have dn:IntKind.i64.wrap ((i:Int)+(m:Int)+((d:Int)+1))=(i:Int)+(m:Int)+((d:Int)+1):=aG _ (by omega);have dR:¬((a:Int)<(i:Int)+(m:Int)+((d:Int)+1)):=by omega
 have fK:((i:Int)+(m:Int)+((d:Int)+1)).toNat=i+m+(d+1):=by omega
 have dZ:(0:Int)<=(i:Int)+(m:Int)+((d:Int)+1):=by omega
 have bB:(i:Int)+(m:Int)+((d:Int)+1)<=a:=by omega
 have di:¬((i:Int)+(m:Int)<=(i:Int)+1):=by omega
 have dx:(i:Int)<=(i:Int)+(m:Int)+((d:Int)+1):=by omega
 have fJ:¬a=i:=by omega
 have O:(f.drop (i+1)).length=d+1:=by rw[aO,<-Hx.out,aH,s.out];omega
 have hT:c.take i=f.take i:=by rw[<-Hx.out,dz,bK (by omega)]
 obtain⟨t,x⟩:=MV c b (f.drop (i+1)) i (by rw[y.out,O,s.out];omega);rw[y.out,O,hT] at x;rw[y.out] at t;have o:∀W,Keep (· =g) w W->(Builtin.firstCells 1 m (.slice (some ⟨p,0,none⟩) m j)).run Tryz.prog W= .ok b.toArray W:=by
  intro W G;have R:=aZ.first (P:=Tryz.prog) (w:=W) (Y.keep fun g' hg hl hs=>⟨G.block g' hl (fun e=>J (by cases hg;exact e)),hs⟩) m (aD _);rwa [aJ (by rw[y.out];omega)] at R
 have l:(Builtin.firstCells 1 (d+1) (.slice (some ⟨g,i+1,none⟩) (d+1) (a - (i+1)))).run Tryz.prog w.drew.drew= .ok (f.drop (i+1)).toArray w.drew.drew:=by
  have R:=(Row.dx (w:=w.drew.drew) (S:=gB) (k:=1) (off:=i+1) I (d+1) (a - (i+1)) (by rw[s.out];omega) id (by omega) (by unfold maxLen;omega)).first (P:=Tryz.prog) (d+1) (aD _);rw[dz,jf,aW] at R;rwa [show (c.drop (i+1)).take (d+1)=f.drop (i+1) by rw[<-Hx.out,gQ];congr 1;omega] at R
 have HD:=ah O;clear O;have HT:=ah hT;clear hT;have Z:=ah t;clear t;have q8:=ah x;clear x;have q9:=ah o;clear o;have X:=ah l;clear l;have fA:¬a=i+m:=by omega
 have fB:i+m+(d+1) - (i+m)=d+1:=by omega
 have aB:(0:Int)<=(i:Int)+(m:Int):=by omega
 have iO:(i:Int)+(m:Int)<=(i:Int)+(m:Int)+((d:Int)+1):=by omega
 have bA:((i:Int)+(m:Int)).toNat=i+m:=by omega
 go_enter Uy,PG;go_wp2_with fail;refine aP (fun _=>True) (fun _=>true) [0,1,2,3,4,5,6,7,8,9,10,11,12] rfl (by kernel_rfl) trivial ?_
 repeat (refine oq ?_ rfl rfl rfl ?_ ?_;rotate_left;(focus intro W G;(try dsimp only at G);skip;first|(go_simp;first|done|with_reducible rfl));try simp only[Act.put,aj,au,ak])
 refine bR ?_;go_wp2_with fail;refine aP (fun _=>True) (fun i=> !([9].contains i)) [0,1,2,3,4,5,6,7,8,9] rfl (by kernel_rfl) trivial ?_
 repeat (refine oq ?_ rfl rfl rfl ?_ ?_;rotate_left;(focus intro W G;(try dsimp only at G);skip;first|(go_simp;first|done|with_reducible rfl));try simp only[Act.put,aj,au,ak])
 refine jC rfl rfl rfl (by kernel_rfl) ?_;intro K hK;refine gZ (.tmp 126) (.tmp 129) 93 93 rfl 3 1 8 _ bE iq g (i+m) 3 (d+1) (d+1) (a - (i+m)) (some ⟨g,i+m,none⟩) _ rfl (w:=w.drew.drew) I (.slice (some ⟨g,i+1,none⟩) (d+1) (a - (i+1))) rfl (d+1) (f.drop (i+1)) rfl (jf _).symm (by rw[HD.out,aW]) X.out (fun _=>rfl) ?_ (fun u hu=>qo u (cZ hu)) ?_
 ·rw[HD.out,s.out];omega
 intro w2 V pM;refine hK.out _ _ (bR ?_);have z:Keep (· =g) w w2:=(Keep.refl (· =g) w).drew.drew.trans pM (fun _ _ h=>h);go_wp2_with (first|((refine dV rfl ?_);intro K hK;(refine gZ (.tmp 133) (.tmp 134) 93 93 rfl 3 1 8 _ bE iq g i 3 m (i+m+(d+1) - i) (a - i) (some ⟨g,i,none⟩) _ rfl V (.slice (some ⟨p,0,none⟩) m j) rfl m b rfl ?_ ?_ (q9.out _ z) (fun _=>rfl) ?_ A ?_);(focus exact(bK (by omega)).symm);(focus rw[y.out,aW]);(focus rw[eY _ _ _ (by rw[HD.out,s.out];omega),y.out,s.out];omega);intro w3 qb ql;refine hK _ _ ?_))
 go_ret;have q:=Row.own (k:=1) qb (i+m+(d+1)) (by rw[Z.out,s.out,aW]) qc af (by omega) D;rw[aW,q8.out] at q;refine⟨_,rfl,?_,z.trans ql (fun _ _ h=>h)⟩;rw[HL.out,show N=i+m+(d+1) by rw[HN.out];omega];exact q
theorem C8 (g a n i:Nat)(l:List Value)(Q X m:Nat)(b:List Value)(w:World)(S:Nat->Prop)(B:Nat)(hS:∀g,S g->g<w.heap.size)(hB:B<=w.heap.size)(h:aT w S B 9 1 (.slice (some ⟨g,0,none⟩) n a) n l)(af:∀u∈l,u.oneCell'=true)(T:aT w S B 9 1 (.slice (some ⟨Q,0,none⟩) m X) m b)(F:∀u∈b,u.oneCell'=true)(hn:n<=1000000)(fB:m<=1000000)(hi:i+1<n)(qb:a<n - 1+m)(N:Nat)(L:List Value)(hN:N=n - 1+m)(hL:L=l.take i++b++l.drop (i+1)):
  Calls Tryz.prog 182 #[.slice (some ⟨g,0,none⟩) n a,.int .i64 i,.int .i64 ((i:Int)+1),.slice (some ⟨Q,0,none⟩) m X] w fun e w'=>∃v',e= .returned v'/\aT w' S B 9 1 v' N L/\Keep gB w w':=by
 obtain⟨c,hr,A,hx,dn,jv,hc,qc⟩:=h.row;have bN:a<=9223372036854775807:=by simpa [maxLen] using qc
 have O:b.length=m:=by have:=T.1.1;omega
 have J:c.length=a:=by omega
 have H:c.take n=l:=by rw[<-hx,aW]
 have Z:=T.dx;obtain⟨vo,dZ,e0,v1,v2,_,_⟩:=T.dx.form;cases e0
 clear h T A hx;obtain⟨d,rfl⟩:∃d,n=i+1+(d+1):=⟨n - (i+2),by omega⟩
 have HN:=ah hN;clear hN;have HL:=ah hL;clear hL;have k1:(0:Int)<=(i:Int):=by omega
 have k2:(i:Int)<=(a:Int):=by omega
 have k3:(0:Int)<=(i:Int)+1:=by omega
 have k4:(i:Int)+1<=(a:Int):=by omega
 have k5:((i:Int)+1).toNat=i+1:=by omega
 have R:=ah J;clear J;have Hx:=ah H;clear H;have v:=ah O;clear O;have k6:¬a=i+1:=by omega
 have k7:(i:Int)+1<=(i:Int)+1+((d:Int)+1):=by omega
 have k8:IntKind.i64.wrap ((i:Int)+(m:Int))=(i:Int)+(m:Int):=aG _ (by omega);have k9:i+1+(d+1) - (i+1)=d+1:=by omega
 have dx:IntKind.i64.wrap ((i:Int)+(m:Int)+((d:Int)+1))=(i:Int)+(m:Int)+((d:Int)+1):=aG _ (by omega);have fo:(a:Int)<(i:Int)+(m:Int)+((d:Int)+1):=by omega
 have iO:¬a=i:=by omega
 have fJ:(i:Int)+(m:Int)+((d:Int)+1) - (i:Int)=((m+(d+1):Nat):Int):=by omega
 have fK:i+(m+(d+1))=i+m+(d+1):=by omega
 have bA:(0:Int)<=(i:Int)+(m:Int):=by omega
 have bB:((i:Int)+(m:Int)).toNat=i+m:=by omega
 have hD:(l.drop (i+1)).length=d+1:=by rw[aO,<-Hx.out,aH,R.out];omega
 have hT:c.take i=l.take i:=by rw[<-Hx.out,dz,bK (by omega)]
 have bC:g<w.heap.size:=hr.lt;have HD:=ah hD;clear hD;have HT:=ah hT;clear hT;go_enter Uz,PI;go_wp2_with fail;refine aP (fun _=>True) (fun _=>true) [0,1,2,3,4,5,6,7,8,9,10,11,12] rfl (by kernel_rfl) trivial ?_
 repeat (refine oq ?_ rfl rfl rfl ?_ ?_;rotate_left;(focus intro W hW;(try dsimp only at hW);skip;first|(go_simp;first|done|with_reducible rfl));try simp only[Act.put,aj,au,ak])
 refine bR ?_;go_wp2_with (first|(at_builtin;(refine dV rfl ?_);intro K M;go_must ((refine uz (w:=w.drew) (.tmp 63) (.tmp 66) 142 3 rfl 9 1 16 _ bq jG ig rfl (by omega) g i a (m+(d+1)) c rfl ?_ hr ?_ ?_ ?_ ?_ ?_ ?_);(focus first|rfl|(show Value.int _ _=_;congr 1;first|done|omega));(focus rw[R.out];omega);(focus omega);(focus omega);(focus unfold maxLen;omega);(focus omega);intro x I j o f jF s q;refine M _ _ (Stop.of ?_))));have o:Row I w.heap.size 9 (c.take i++j):=by rw[aW] at o;exact o
 have f:(c.take i++j).length=x:=by rw[aW,aW] at f;exact f
 have q:Keep gB w I:=(Keep.refl gB w).drew.trans q (fun _ _ h=>h);have jl:¬x=i:=by omega
 have bH:¬x=i+m:=by omega
 have di:(i:Int)<=(x:Int):=by omega
 have dR:(i:Int)+(m:Int)<=(i:Int)+(m:Int)+((d:Int)+1):=by omega
 have q9:x<=9223372036854775807:=by simpa [maxLen] using s
 have y:(c.take i).length=i:=by rw[aH,R.out];omega
 obtain⟨z,C⟩:=Cf (c.take i++j) b (l.drop (i+1)) i (by rw[v.out,HD.out,f];omega);rw[v.out,HD.out,gY y] at C;rw[v.out] at z;have r:(Builtin.firstCells 1 m (.slice (some ⟨Q,0,none⟩) m X)).run Tryz.prog I= .ok b.toArray I:=by
  have V:=aZ.first (P:=Tryz.prog) (w:=I) (Z.keep fun g' hg A hs=>⟨q.block g' A id,hs⟩) m (aD _);rwa [aJ (by rw[v.out];omega)] at V
 have p:=ah f;clear f;have pM:=ah z;clear z;have aA:=ah C;clear C;have aB:=ah r;clear r;have jb:=ah y;clear y;refine sN ?_;go_wp2_with (first|((refine dV rfl ?_);intro K M;(refine gZ (.tmp 70) (.tmp 71) 142 142 rfl 9 1 16 _ bq ig w.heap.size i 9 m (i+m+(d+1) - i) (x - i) (some ⟨w.heap.size,i,none⟩) _ ?_ o (.slice (some ⟨Q,0,none⟩) m X) rfl m b rfl ?_ ?_ aB.out (fun _=>rfl) ?_ F ?_);go_must ((focus first|rfl|(show Value.slice _ _ _=_;congr 1;omega));(focus exact(bK (by omega)).symm);(focus rw[v.out,aW]);(focus rw[p.out,v.out];omega);intro D Y p9;refine M _ _ (Stop.of ?_))));have E:Keep gB w D:=q.trans p9 (fun _ A e=>absurd A (by omega));have av:Row D g 9 c:=hr.keep E id;have G:(Builtin.firstCells 1 (d+1) (.slice (some ⟨g,i+1,none⟩) (d+1) (a - (i+1)))).run Tryz.prog D.drew= .ok (l.drop (i+1)).toArray D.drew:=by
  have V:=(Row.dx (w:=D.drew) (S:=gB) (k:=1) (off:=i+1) av (d+1) (a - (i+1)) (by rw[R.out];omega) id (by omega) (by unfold maxLen;omega)).first (P:=Tryz.prog) (d+1) (aD _);rw[dz,jf,aW] at V;rwa [show (c.drop (i+1)).take (d+1)=l.drop (i+1) by rw[<-Hx.out,gQ];congr 1;omega] at V
 have q8:=ah G;clear G;have fA:i+m+(d+1) - (i+m)=d+1:=by omega
 refine sN ?_;go_wp2_with fail;refine aP (fun _=>True) (fun i=> !([9].contains i)) [0,1,2,3,4,5,6,7,8,9] rfl (by kernel_rfl) trivial ?_
 repeat (refine oq ?_ rfl rfl rfl ?_ ?_;rotate_left;(focus intro W hW;(try dsimp only at hW);skip;first|(go_simp;first|done|with_reducible rfl));try simp only[Act.put,aj,au,ak])
 refine jC rfl rfl rfl (by kernel_rfl) ?_;intro K M;refine gZ (.tmp 78) (.tmp 81) 142 142 rfl 9 1 16 _ bq ig w.heap.size (i+m) 9 (d+1) (d+1) (x - (i+m)) (some ⟨w.heap.size,i+m,none⟩) _ rfl (w:=D.drew) Y (.slice (some ⟨g,i+1,none⟩) (d+1) (a - (i+1))) rfl (d+1) (l.drop (i+1)) rfl (jf _).symm (by rw[HD.out,aW]) q8.out (fun _=>rfl) ?_ (fun u hu=>af u (cZ hu)) ?_
 ·rw[eY _ _ _ (by rw[v.out,p.out];omega),HD.out,p.out];omega
 intro w3 ql qo;refine M.out _ _ (bR ?_)
 go_wp2
 go_ret;have t:=Row.own (S:=S) (B:=B) (k:=1) ql (i+m+(d+1)) (by rw[pM.out,p.out,aW]) hB (fun hs=>absurd (hS _ hs) (dB _)) (by omega) s;rw[aW,aA.out] at t;refine⟨_,rfl,?_,E.drew.trans qo (fun _ A e=>absurd A (by omega))⟩;rw[HL.out,show N=i+m+(d+1) by rw[HN.out];omega,<-HT.out];exact t
def K8 (v:Value)(n i:Nat)(f:List Value)(y:Value)(m:Nat)(a:List Value)(w:World)(S:Nat->Prop)(B:Nat)(J:∀g,S g->g<w.heap.size)(K:B<=w.heap.size)(h:aT w S B 9 1 v n f)(t:∀u∈f,u.oneCell'=true)(x:aT w S B 9 1 y m a)(G:∀g,v.ownBlock=some g->y.ownBlock≠some g)(b:∀u∈a,u.oneCell'=true)(C:n<=1000000)(r:m<=1000000)(R:i<n):
  Calls Tryz.prog 182 #[v,.int .i64 i,.int .i64 ((i:Int)+1),y] w fun e q=>∃d,e= .returned d/\aT q S B 9 1 d (n - 1+m) (f.take i++a++f.drop (i+1))/\Keep (fun g=>v.ownBlock=some g) w q:=by
 have D:=h.1.1;have A:=x.1.1;rw[aW] at D A;rcases h.1.2 with ⟨rfl,N⟩|⟨g,c,P,rfl,_⟩
 ·omega
 have p:=G g rfl
 by_cases z:n=i+1
 ·have Q:f.drop (i+1)=[]:=dY (by omega)
  have O:n - 1+m=i+m:=by omega
  rw[Q,O,dM]
  by_cases E:m=0
  ·subst E
   obtain rfl:a=[]:=aY A;refine(EB g c n i f y w S B h x C z).mono ?_;rintro e q ⟨d,rfl,o,j⟩;exact⟨d,rfl,by rw[dM];exact o,j.mono (fun k _ l=>by rw[l];rfl)⟩
  ·refine(EA g c n i f y m a w S B J K h x b C r z (by omega)).mono ?_
   rintro e q ⟨d,rfl,o,j,_⟩;exact⟨d,rfl,o,j.mono (fun k _ l=>by rw[l];rfl)⟩
 ·by_cases F:m<=1
  ·refine(CZ g c n i f y m a w S B h t x p b C (by omega) F _ _ rfl rfl).mono ?_
   rintro e q ⟨d,rfl,o,j⟩;exact⟨d,rfl,o,j.mono (fun k _ l=>by rw[l];rfl)⟩
  ·rcases x.1.2 with ⟨rfl,N⟩|⟨H,I,M,rfl,_⟩
   ·omega
   ·by_cases s:n - 1+m<=c
    ·refine(CY g c n i f H I m a w S B h t x (fun e=>p (by rw[e];rfl)) b C r (by omega) (by omega) s _ _ rfl rfl).mono ?_
     rintro e q ⟨d,rfl,o,j⟩;exact⟨d,rfl,o,j.mono (fun k _ l=>by rw[l];rfl)⟩
    ·refine(C8 g c n i f H I m a w S B J K h t x b C r (by omega) (by omega) _ _ rfl rfl).mono ?_
     rintro e q ⟨d,rfl,o,j⟩;exact⟨d,rfl,o,j.mono (fun _ _ l=>l.elim)⟩
theorem Db (g a n i:Nat)(l:List Value)(Q X m:Nat)(b:List Value)(w:World)(S:Nat->Prop)(B:Nat)(hS:∀g,S g->g<w.heap.size)(hB:B<=w.heap.size)(h:aT w S B 3 1 (.slice (some ⟨g,0,none⟩) n a) n l)(af:∀u∈l,u.oneCell'=true)(T:aT w S B 3 1 (.slice (some ⟨Q,0,none⟩) m X) m b)(F:∀u∈b,u.oneCell'=true)(hn:n<=1000000)(fB:m<=1000000)(hi:i+1<n)(qb:a<n - 1+m)(N:Nat)(L:List Value)(hN:N=n - 1+m)(hL:L=l.take i++b++l.drop (i+1)):
  Calls Tryz.prog 183 #[.slice (some ⟨g,0,none⟩) n a,.int .i64 i,.int .i64 ((i:Int)+1),.slice (some ⟨Q,0,none⟩) m X] w fun e w'=>∃v',e= .returned v'/\aT w' S B 3 1 v' N L/\Keep gB w w':=by
 obtain⟨c,hr,A,hx,dn,jv,hc,qc⟩:=h.row;have bN:a<=9223372036854775807:=by simpa [maxLen] using qc
 have O:b.length=m:=by have:=T.1.1;omega
 have J:c.length=a:=by omega
 have H:c.take n=l:=by rw[<-hx,aW]
 have Z:=T.dx;obtain⟨vo,dZ,e0,v1,v2,_,_⟩:=T.dx.form;cases e0
 clear h T A hx;obtain⟨d,rfl⟩:∃d,n=i+1+(d+1):=⟨n - (i+2),by omega⟩
 have HN:=ah hN;clear hN;have HL:=ah hL;clear hL;have k1:(0:Int)<=(i:Int):=by omega
 have k2:(i:Int)<=(a:Int):=by omega
 have k3:(0:Int)<=(i:Int)+1:=by omega
 have k4:(i:Int)+1<=(a:Int):=by omega
 have k5:((i:Int)+1).toNat=i+1:=by omega
 have R:=ah J;clear J;have Hx:=ah H;clear H;have v:=ah O;clear O;have k6:¬a=i+1:=by omega
 have k7:(i:Int)+1<=(i:Int)+1+((d:Int)+1):=by omega
 have k8:IntKind.i64.wrap ((i:Int)+(m:Int))=(i:Int)+(m:Int):=aG _ (by omega);have k9:i+1+(d+1) - (i+1)=d+1:=by omega
 have dx:IntKind.i64.wrap ((i:Int)+(m:Int)+((d:Int)+1))=(i:Int)+(m:Int)+((d:Int)+1):=aG _ (by omega);have fo:(a:Int)<(i:Int)+(m:Int)+((d:Int)+1):=by omega
 have iO:¬a=i:=by omega
 have fJ:(i:Int)+(m:Int)+((d:Int)+1) - (i:Int)=((m+(d+1):Nat):Int):=by omega
 have fK:i+(m+(d+1))=i+m+(d+1):=by omega
 have bA:(0:Int)<=(i:Int)+(m:Int):=by omega
 have bB:((i:Int)+(m:Int)).toNat=i+m:=by omega
 have hD:(l.drop (i+1)).length=d+1:=by rw[aO,<-Hx.out,aH,R.out];omega
 have hT:c.take i=l.take i:=by rw[<-Hx.out,dz,bK (by omega)]
 have bC:g<w.heap.size:=hr.lt;have HD:=ah hD;clear hD;have HT:=ah hT;clear hT;go_enter Uy,PG;go_wp2_with fail;refine aP (fun _=>True) (fun _=>true) [0,1,2,3,4,5,6,7,8,9,10,11,12] rfl (by kernel_rfl) trivial ?_
 repeat (refine oq ?_ rfl rfl rfl ?_ ?_;rotate_left;(focus intro W hW;(try dsimp only at hW);skip;first|(go_simp;first|done|with_reducible rfl));try simp only[Act.put,aj,au,ak])
 refine bR ?_;go_wp2_with (first|(at_builtin;(refine dV rfl ?_);intro K M;go_must ((refine uz (w:=w.drew) (.tmp 63) (.tmp 66) 93 3 rfl 3 1 8 _ bE jG iq rfl (by omega) g i a (m+(d+1)) c rfl ?_ hr ?_ ?_ ?_ ?_ ?_ ?_);(focus first|rfl|(show Value.int _ _=_;congr 1;first|done|omega));(focus rw[R.out];omega);(focus omega);(focus omega);(focus unfold maxLen;omega);(focus omega);intro x I j o f jF s q;refine M _ _ (Stop.of ?_))));have o:Row I w.heap.size 3 (c.take i++j):=by rw[aW] at o;exact o
 have f:(c.take i++j).length=x:=by rw[aW,aW] at f;exact f
 have q:Keep gB w I:=(Keep.refl gB w).drew.trans q (fun _ _ h=>h);have jl:¬x=i:=by omega
 have bH:¬x=i+m:=by omega
 have di:(i:Int)<=(x:Int):=by omega
 have dR:(i:Int)+(m:Int)<=(i:Int)+(m:Int)+((d:Int)+1):=by omega
 have q9:x<=9223372036854775807:=by simpa [maxLen] using s
 have y:(c.take i).length=i:=by rw[aH,R.out];omega
 obtain⟨z,C⟩:=Cf (c.take i++j) b (l.drop (i+1)) i (by rw[v.out,HD.out,f];omega);rw[v.out,HD.out,gY y] at C;rw[v.out] at z;have r:(Builtin.firstCells 1 m (.slice (some ⟨Q,0,none⟩) m X)).run Tryz.prog I= .ok b.toArray I:=by
  have V:=aZ.first (P:=Tryz.prog) (w:=I) (Z.keep fun g' hg A hs=>⟨q.block g' A id,hs⟩) m (aD _);rwa [aJ (by rw[v.out];omega)] at V
 have p:=ah f;clear f;have pM:=ah z;clear z;have aA:=ah C;clear C;have aB:=ah r;clear r;have jb:=ah y;clear y;refine sN ?_;go_wp2_with (first|((refine dV rfl ?_);intro K M;(refine gZ (.tmp 70) (.tmp 71) 93 93 rfl 3 1 8 _ bE iq w.heap.size i 3 m (i+m+(d+1) - i) (x - i) (some ⟨w.heap.size,i,none⟩) _ ?_ o (.slice (some ⟨Q,0,none⟩) m X) rfl m b rfl ?_ ?_ aB.out (fun _=>rfl) ?_ F ?_);go_must ((focus first|rfl|(show Value.slice _ _ _=_;congr 1;omega));(focus exact(bK (by omega)).symm);(focus rw[v.out,aW]);(focus rw[p.out,v.out];omega);intro D Y p9;refine M _ _ (Stop.of ?_))));have E:Keep gB w D:=q.trans p9 (fun _ A e=>absurd A (by omega));have av:Row D g 3 c:=hr.keep E id;have G:(Builtin.firstCells 1 (d+1) (.slice (some ⟨g,i+1,none⟩) (d+1) (a - (i+1)))).run Tryz.prog D.drew= .ok (l.drop (i+1)).toArray D.drew:=by
  have V:=(Row.dx (w:=D.drew) (S:=gB) (k:=1) (off:=i+1) av (d+1) (a - (i+1)) (by rw[R.out];omega) id (by omega) (by unfold maxLen;omega)).first (P:=Tryz.prog) (d+1) (aD _);rw[dz,jf,aW] at V;rwa [show (c.drop (i+1)).take (d+1)=l.drop (i+1) by rw[<-Hx.out,gQ];congr 1;omega] at V
 have q8:=ah G;clear G;have fA:i+m+(d+1) - (i+m)=d+1:=by omega
 refine sN ?_;go_wp2_with fail;refine aP (fun _=>True) (fun i=> !([9].contains i)) [0,1,2,3,4,5,6,7,8,9] rfl (by kernel_rfl) trivial ?_
 repeat (refine oq ?_ rfl rfl rfl ?_ ?_;rotate_left;(focus intro W hW;(try dsimp only at hW);skip;first|(go_simp;first|done|with_reducible rfl));try simp only[Act.put,aj,au,ak])
 refine jC rfl rfl rfl (by kernel_rfl) ?_;intro K M;refine gZ (.tmp 78) (.tmp 81) 93 93 rfl 3 1 8 _ bE iq w.heap.size (i+m) 3 (d+1) (d+1) (x - (i+m)) (some ⟨w.heap.size,i+m,none⟩) _ rfl (w:=D.drew) Y (.slice (some ⟨g,i+1,none⟩) (d+1) (a - (i+1))) rfl (d+1) (l.drop (i+1)) rfl (jf _).symm (by rw[HD.out,aW]) q8.out (fun _=>rfl) ?_ (fun u hu=>af u (cZ hu)) ?_
 ·rw[eY _ _ _ (by rw[v.out,p.out];omega),HD.out,p.out];omega
 intro w3 ql qo;refine M.out _ _ (bR ?_)
 go_wp2
 go_ret;have t:=Row.own (S:=S) (B:=B) (k:=1) ql (i+m+(d+1)) (by rw[pM.out,p.out,aW]) hB (fun hs=>absurd (hS _ hs) (dB _)) (by omega) s;rw[aW,aA.out] at t;refine⟨_,rfl,?_,E.drew.trans qo (fun _ A e=>absurd A (by omega))⟩;rw[HL.out,show N=i+m+(d+1) by rw[HN.out];omega,<-HT.out];exact t
def K9 (v:Value)(n i:Nat)(f:List Value)(y:Value)(m:Nat)(a:List Value)(w:World)(S:Nat->Prop)(B:Nat)(J:∀g,S g->g<w.heap.size)(K:B<=w.heap.size)(h:aT w S B 3 1 v n f)(t:∀u∈f,u.oneCell'=true)(x:aT w S B 3 1 y m a)(G:∀g,v.ownBlock=some g->y.ownBlock≠some g)(b:∀u∈a,u.oneCell'=true)(C:n<=1000000)(r:m<=1000000)(R:i<n):
  Calls Tryz.prog 183 #[v,.int .i64 i,.int .i64 ((i:Int)+1),y] w fun e q=>∃d,e= .returned d/\aT q S B 3 1 d (n - 1+m) (f.take i++a++f.drop (i+1))/\Keep (fun g=>v.ownBlock=some g) w q:=by
 have D:=h.1.1;have A:=x.1.1;rw[aW] at D A;rcases h.1.2 with ⟨rfl,N⟩|⟨g,c,P,rfl,_⟩
 ·omega
 have p:=G g rfl
 by_cases z:n=i+1
 ·have Q:f.drop (i+1)=[]:=dY (by omega)
  have O:n - 1+m=i+m:=by omega
  rw[Q,O,dM]
  by_cases E:m=0
  ·subst E
   obtain rfl:a=[]:=aY A;refine(ED g c n i f y w S B h x C z).mono ?_;rintro e q ⟨d,rfl,o,j⟩;exact⟨d,rfl,by rw[dM];exact o,j.mono (fun k _ l=>by rw[l];rfl)⟩
  ·refine(EC g c n i f y m a w S B J K h x b C r z (by omega)).mono ?_
   rintro e q ⟨d,rfl,o,j,_⟩;exact⟨d,rfl,o,j.mono (fun k _ l=>by rw[l];rfl)⟩
 ·by_cases F:m<=1
  ·refine(Da g c n i f y m a w S B h t x p b C (by omega) F _ _ rfl rfl).mono ?_
   rintro e q ⟨d,rfl,o,j⟩;exact⟨d,rfl,o,j.mono (fun k _ l=>by rw[l];rfl)⟩
  ·rcases x.1.2 with ⟨rfl,N⟩|⟨H,I,M,rfl,_⟩
   ·omega
   ·by_cases s:n - 1+m<=c
    ·refine(C9 g c n i f H I m a w S B h t x (fun e=>p (by rw[e];rfl)) b C r (by omega) (by omega) s _ _ rfl rfl).mono ?_
     rintro e q ⟨d,rfl,o,j⟩;exact⟨d,rfl,o,j.mono (fun k _ l=>by rw[l];rfl)⟩
    ·refine(Db g c n i f H I m a w S B J K h t x b C r (by omega) (by omega) _ _ rfl rfl).mono ?_
     rintro e q ⟨d,rfl,o,j⟩;exact⟨d,rfl,o,j.mono (fun _ _ l=>l.elim)⟩
