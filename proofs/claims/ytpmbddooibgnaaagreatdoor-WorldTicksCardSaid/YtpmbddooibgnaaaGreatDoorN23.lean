/- parts -/
import Derived.Test.YtpmbddooibgnaaaGreatDoorN22
set_option maxRecDepth 100000
set_option maxHeartbeats 8000000
set_option linter.all false
namespace Go.Proofs.YtpmbddooibgnaaaGreatDoor
open Go.RowKit
theorem Di (l:Lg)(B:List UInt8)(P:(Nat->List UInt8)->Prop)(q:Nat)(E:2<=l.n)(v:q<=l.n - 1)(N:∀s j x,j<q->P s->P (qP s (l.ring (l.start+l.used+j)) x)):
  ∀(k i:Nat) (b:Dk),i+k<=q->b.dead=false->l.frm+l.n<=b.n->Al b P->
  (∃a,l.qm B k i b=(a,0)/\a.dead=false/\(b.fuel= -1->a.fuel= -1)/\a.n=b.n/\a.waits.length=b.waits.length+k/\Al a P/\
   (∀j,i<=j->j<i+k->a.get (l.ring (l.start+l.used+j))=pad ((B.drop (j*512)).take 512))/\∀x,(∀j,i<=j->j<i+k->x≠l.ring (l.start+l.used+j))->a.get x=b.get x)\/
  (∃a,l.qm B k i b=(a,10)/\a.dead=true/\b.fuel≠-1/\a.n=b.n/\Al a P)
 |0,i,b,_,n,_,p=> .inl ⟨b,rfl,n,id,rfl,rfl,p,fun j S J=>absurd J (by omega),fun _ _=>rfl⟩
 |k+1,i,b,V,n,Z,p=>by
  have hr:l.ring (l.start+l.used+i)<l.frm+l.n:=by
   unfold Lg.ring
   have:=mQ (l.start+l.used+i) (by omega:0<l.n - 1)
   omega
  obtain⟨x,r⟩:∃x,x=(B.drop (i*512)).take 512:=⟨_,rfl⟩
  have F:x.length<=512:=by rw[r,aQ];omega
  rw[l.sW,<-r]
  rcases zb n (i:=l.ring (l.start+l.used+i)) (by omega) F with ⟨e,o⟩|⟨e,o⟩
  ·rw[e]
   dsimp only
   rw[if_pos rfl]
   obtain⟨d,c⟩:∃d,d=b.eu.put (l.ring (l.start+l.used+i)) x:=⟨_,rfl⟩
   rw[<-c]
   have D:d.dead=false:=by rw[c];exact o
   have K:d.n=b.n:=by rw[c];exact b.dh.1
   have f:b.fuel= -1->d.fuel= -1:=fun h=>by rw[c];exact(lM n h).2
   have z:Al d P:=by rw[c];exact p.eu.put fun s Q=>N s i _ (by omega) Q
   have G:d.waits.length=b.waits.length+1:=by rw[c];show (b.eu.waits++[_]).length=_;rw[b.dh.2.2];simp
   have g:∀y,d.get y=if l.ring (l.start+l.used+i)=y then pad x else b.get y:=fun y=>by rw[c,Dk.get_put,b.qC]
   rcases Di l B P q E v N k (i+1) d (by omega) D (by omega) z with ⟨a,t,I,A,C,H,W,X,O⟩|⟨a,t,I,A,C,H⟩
   ·refine .inl ⟨a,t,I,fun h=>A (f h),C.trans K,by rw[H,G];omega,W,fun j S J=> ?_,fun y M=> ?_⟩
    ·by_cases T:j=i
     ·subst T
      rw[O _ (fun m Y R=>FV (by omega) (by omega)),g,if_pos rfl,r]
     ·exact X j (by omega) (by omega)
    ·rw[O y (fun m Y R=>M m (by omega) (by omega)),g,if_neg (Ne.symm (M i (aC _) (by omega)))]
   ·exact .inr ⟨a,t,I,fun h=>A (f h),C.trans K,H⟩
  ·rw[e]
   dsimp only
   rw[if_neg (by omega)]
   refine .inr ⟨_,rfl,o,fun h=> ?_,b.dh.1,p.eu⟩
   have:=(lM n h).1
   rw[o] at this;cases this
def Dp (B:List UInt8):List UInt8:=B++List.replicate ((B.length+511)/512*512 - B.length) 0
theorem Ez (B:List UInt8):(Dp B).length=(B.length+511)/512*512:=by unfold Dp;simp;omega
theorem MK (B:List UInt8)(j:Nat)(h:j<(B.length+511)/512):((Dp B).drop (j*512)).take 512=pad ((B.drop (j*512)).take 512):=by
 have b:j*512<=B.length:=by omega
 have c:(j+1)*512<=(B.length+511)/512*512:=dw 512 h
 unfold Dp pad
 rw[ou b]
 by_cases a:512<=B.length - j*512
 ·rw[bW (by rw[bG];omega)]
  rw[aQ,bG,dx a]
  simp
 ·rw[List.take_append,aL (l:=B.drop (j*512)) (by rw[bG];omega),bG,List.take_replicate]
  congr 2
  omega
theorem R7 {s:Nat->List UInt8}{l:Lg}{a:Nat}{B:List UInt8}(h:∀j,j<(B.length+511)/512->s (l.ring (a+j))=pad ((B.drop (j*512)).take 512)):Ct s l a B:=
 ⟨Dp B,Ez B,by unfold Dp;rw[jc],fun j b=>by rw[h j b,MK B j b]⟩
theorem Mx {b:Dk}{l:Lg}{p:Pg}{a:List Im}(h:Rest b l p a):wide (fC a)=l.used:=by
 rw[<-h.lok.sum,h.list,wY]
theorem Kq {n:Dk}{l:Lg}{p:Pg}{c:List Im}(h:Rest n l p c)(hd:n.dead=false)(qb:l.dead=false){im:Im}(A:im.NN (p.blocks n))(hr:bZ im.bg<=l.room)(qm:l.last<1000000000000):
  (∃d,l.append n im.bg=(d,l.more im.bg,l.last+1,0)/\d.dead=false/\(n.fuel= -1->d.fuel= -1)/\d.n=n.n/\(∀b,d.get (p.skip+b)=n.get (p.skip+b))/\Rest d (l.more im.bg) {p with fresh:=p.fresh.over im} (c++[im]))\/
  (∃d,l.append n im.bg=(d,l.dies,0,10)/\d.dead=true/\n.fuel≠-1/\d.n=n.n/\Al d fun s=>pQ s l c p.skip (p.blocks n) (fun b=>n.get (p.skip+b)) l.synced):=by
 have y:=h.pok
 have S:=y.fit;have o:=y.frm;have t:=y.skip;have J:=y.ring;have f:=h.lok;have qC:=f.sy;have ql:=h.uE;have F:=h.len
 have O:=f.n2;have qy:=f.us
 have M:=Mx h
 obtain⟨z,C⟩:∃z,z=bZ im.bg:=⟨_,rfl⟩
 have qf:1<=z:=by rw[C];exact yh _
 unfold Lg.room at hr
 have pV:l.used+z<=l.n - 1:=by omega
 have Z:l.bad im.bg=0:=by
  have:=Lg.yL (l:=l) A.ok qb A.lo A.hi (by unfold Lg.room;omega)
  rwa [qa] at this
 obtain⟨N,Y⟩:∃N,N=p.blocks n:=⟨_,rfl⟩
 obtain⟨H,hH⟩:∃H:Nat->List UInt8,H=fun b=>n.get (p.skip+b):=⟨_,rfl⟩
 have E:=h.all
 rw[<-Y,<-hH] at E
 have B:∀s j x,j<z->Ph l l.d9 c (l.uE c.length) p.skip N H s->Ph l l.d9 c (l.uE c.length) p.skip N H (qP s (l.ring (l.start+l.used+j)) x):=fun s j x V K=>by
  have qo:=uM l (l.start+l.used+j) O o
  refine⟨?_,K.on.set fun i G=> ?_,fun b A=> ?_⟩
  ·unfold qP
   rw[if_neg (by omega)]
   exact K.mark
  ·have hw:=zi (fC c) (l.uE c.length)
   exact KN (l:=l) (a:=l.start) (b:=l.start+l.used) (k:=l.used) (m:=z) (aC _) (by omega) (by omega) V
  ·unfold qP
   rw[if_neg (by omega)]
   exact K.home b A
 unfold Lg.append
 rw[Z,if_neg (by simp)]
 rw[<-C]
 rcases Di l (gD (l.last+1) im.bg) _ z O (by omega) B z 0 n (by omega) hd (by omega) E with ⟨d,q1,q2,q3,P,q5,q6,q7,q8⟩|⟨d,q1,q2,q3,P,q5⟩
 ·left
  rw[q1]
  dsimp only
  rw[if_pos rfl]
  have W:({p with fresh:=p.fresh.over im}:Pg).blocks d=N:=by rw[Y];unfold Pg.blocks;rw[P]
  have X:∀x,(∀j,j<z->x≠l.ring (l.start+l.used+j))->d.get x=n.get x:=fun x hx=>q8 x fun j _ V=>hx j (by omega)
  have v:∀b,d.get (p.skip+b)=n.get (p.skip+b):=fun b=>X _ fun j _=>by
   have:=uM l (l.start+l.used+j) O o
   omega
  have g:(l.more im.bg).last+1 - (c++[im]).length=l.last+1 - c.length:=by
   show l.last+1+1 - _=_
   rw[aB,dP];omega
  have D:fC (c++[im])=fC c++[im.bg]:=by simp[fC]
  have p9:oq d.get (l.more im.bg) (l.last+1 - c.length) (fC c):=h.on.congr rfl rfl rfl fun j V=>X _ fun i G=>
   (KN (l:=l) (a:=l.start) (b:=l.start+l.used) (k:=l.used) (m:=z) (aC _) (by omega) (by omega) G).symm
  have R:Ct d.get (l.more im.bg) (l.start+wide (fC c)) (gD (l.last+1 - c.length+(fC c).length) im.bg):=by
   rw[bR,show l.last+1 - c.length+c.length=l.last+1 by omega,M]
   refine R7 fun j V=> ?_
   rw[tq] at V
   exact q7 j (aR _) (by omega)
  have I:(l.more im.bg).Ok:=by
   refine⟨f.n2,f.hi,f.st,?_,?_,?_,?_,?_⟩
   ·show l.used+bZ im.bg<=_;rw[<-C];exact pV
   ·show l.last+1<=_;omega
   ·show l.synced<=l.last+1;omega
   ·intro e Q
    rcases eB.1 Q with Q|Q
    ·have:=f.ent e Q
     exact⟨this.1,Ui this.2⟩
    ·rw[cu.1 Q]
     exact⟨yh _,aC _⟩
   ·show ((l.list++[(l.last+1,bZ im.bg)]).map (·.2)).sum=l.used+bZ im.bg
    rw[dF,jK,f.sum];simp
  refine⟨d,rfl,q2,q3,P,v,⟨I,⟨o,t,J,by rw[P];exact S,?_⟩,?_,?_,?_,?_,?_,?_,?_,?_,?_⟩⟩
  ·show (p.fresh.over im).Ok (d.n - p.skip)
   rw[P]
   exact y.fresh.over A.ok
  ·show l.list++[_]=_
   rw[g,D,ve,h.list,bR]
   congr 3
   omega
  ·rw[aB,dP]
   show _<=l.last+1
   omega
  ·rw[aB,dP]
   show l.last+1<=l.synced+_
   omega
  ·intro i G
   rw[W,Y]
   rcases eB.1 G with G|G
   ·exact h.bat i G
   ·rw[cu.1 G];exact A
  ·rw[g,D]
   exact p9.snoc R
  ·intro s K
   have q:=q6 s K
   have qc:(l.more im.bg).d9=l.d9:=by
    refine Gq ?_
    have T:=qA (l:=l) (bs:=fC c) (by rw[bR];exact h.list) (by rw[bR];exact F)
    have r:=qA (l:=l.more im.bg) (bs:=fC (c++[im])) (by
     rw[bR,g,D,ve,bR]
     show l.list++[_]=_
     rw[h.list]
     congr 3
     omega) (by rw[bR,aB,dP];show _<=l.last+1;omega)
    rw[bR] at T r
    rw[g] at r
    unfold Lg.fields
    rw[T,r];rfl
   refine⟨by rw[qc];exact q.mark,?_,fun b A=> ?_⟩
   ·rw[g,D]
    have e:(l.more im.bg).uE (c++[im]).length=l.uE c.length:=by
     unfold Lg.uE
     rw[aB,dP]
     show l.synced+_ - (l.last+1)=_
     omega
    rw[e,bW (by rw[bR];unfold Lg.uE;omega)]
    exact q.on.congr rfl rfl rfl fun _ _=>rfl
   ·rw[q.home b (by rw[<-W];exact A),hH]
    exact(v b).symm
  ·intro b
   show (p.fresh.over im).find b=_
   rw[yF,Im.Dr,h.fresh b]
   unfold Im.find
   split<;>rfl
  ·show _<=l.used+bZ im.bg
   rw[q5,<-C];have:=h.cap;omega
  ·intro e
   have e:l.synced=l.last+1:=e
   omega
 ·right
  rw[q1]
  dsimp only
  rw[if_neg (by omega)]
  refine⟨d,rfl,q2,q3,P,fun s K=> ?_⟩
  rw[<-Y,<-hH]
  exact(q5 s K).recs (l':=l) f o t.symm h.list F (by rw[Y];exact h.bat) rfl (by unfold Lg.uE;omega) (by unfold Lg.uE;omega)
def Fa (l:Lg)(ims:List Im)(N:Nat)(H:Nat->List UInt8)(C:Nat->Nat->List UInt8):Prop:=∀k,l.synced<=k->k<=l.last->∀b,b<N->C k b=oC (ims.take (k+ims.length - l.last)) H b
def mK (σ:Dk)(l:Lg)(p:Pg)(C:Nat->Nat->List UInt8):Prop:=∃ims,Rest σ l p ims/\Fa l ims (p.blocks σ) (fun b=>σ.get (p.skip+b)) C
def IC (σ:Dk)(l:Lg)(L N:Nat)(C:Nat->Nat->List UInt8):Prop:=Al σ fun s=>∃k,l.synced<=k/\k<=l.last/\sO s L N k (C k)
theorem pQ.Av {s:Nat->List UInt8}{l:Lg}{a:List Im}{L N k:Nat}{H:Nat->List UInt8}{C:Nat->Nat->List UInt8}(h:pQ s l a L N H k)(hC:Fa l a N H C)(d:l.synced<=k)(e:k<=l.last):sO s L N k (C k):=sO.congr h fun b c=>hC k d e b c
theorem Tq.Av {b:Dk}{l f:Lg}{d:List Im}{L N:Nat}{H:Nat->List UInt8}{C:Nat->Nat->List UInt8}(h:Tq b f l d L N H)(hC:Fa l d N H C)(c:l.synced<=l.last):IC b f L N C/\l.synced<=f.synced/\f.last=l.last:=by
 obtain⟨g,⟨j,i⟩|⟨j,i⟩⟩:=h
 ·refine⟨fun s a=> ?_,by omega,g⟩
  rw[g,j]
  rcases i s a with e|e
  ·exact⟨_,aC _,c,e.Av hC (aC _) c⟩
  ·exact⟨_,c,aC _,e.Av hC c (aC _)⟩
 ·refine⟨fun s a=> ?_,by omega,g⟩
  rw[g,j]
  exact⟨_,aC _,aC _,(i s a).Av hC c (aC _)⟩
theorem mK.look {a:Dk}{l:Lg}{p:Pg}{C:Nat->Nat->List UInt8}(h:mK a l p C)(b:Nat)(c:b<p.blocks a):p.look Im.none a b=C l.last b:=by
 obtain⟨d,h,hC⟩:=h
 rw[Pg.zA,h.fresh,hC l.last h.lok.sy (aC _) b c,dD,aL (aC _)]
 rfl
theorem Bj {c:Dk}{l:Lg}{p:Pg}{C:Nat->Nat->List UInt8}(h:mK c l p C)(A:c.dead=false)(f:l.dead=false)(q:p.dead=false):
  (∃a d,p.sync c l=(a,d,p,0)/\a.dead=false/\d.dead=false/\(c.fuel= -1->a.fuel= -1)/\a.n=c.n/\a.waits=[]/\d.last=l.last/\d.synced=l.last/\mK a d p C/\∀o b,p.look o a b=p.look o c b)\/
  (∃a d,p.sync c l=(a,d,p.dies,10)/\a.dead=true/\c.fuel≠-1/\a.n=c.n/\IC a d p.skip (p.blocks c) C/\l.synced<=d.synced/\d.last=l.last):=by
 obtain⟨g,h,hC⟩:=h
 have m:=h.pok.skip;have E:=h.lok.n2;have v:=h.lok.sy
 unfold Pg.sync
 rw[q,if_neg (by simp)]
 by_cases j:l.synced=l.last/\c.dead=false
 ·rw[if_pos j]
  exact .inl ⟨c,l,rfl,A,f,id,rfl,h.wt j.1,rfl,j.1,⟨g,h,hC⟩,fun _ _=>rfl⟩
 ·rw[if_neg j]
  rcases Dv h A f with ⟨a,e,s,t,i,r,F,D⟩|⟨a,e,s,t,i,r⟩
  ·rw[e]
   dsimp only
   rw[if_pos rfl]
   have z:∀b,a.get (p.skip+b)=c.get (p.skip+b):=fun b=>F _ (by omega)
   have n:p.blocks a=p.blocks c:=by unfold Pg.blocks;rw[i]
   refine .inl ⟨a,_,rfl,s,f,t,i,r,rfl,rfl,⟨g,D,fun k y B b x=> ?_⟩,fun o b=> ?_⟩
   ·have y:l.last<=k:=y
    rw[n] at x
    rw[hC k (by omega) B b x]
    show (findAll _ b).getD (c.get (p.skip+b))=(findAll _ b).getD (a.get (p.skip+b))
    rw[z];rfl
   ·unfold Pg.look
    rw[z]
  ·rw[e]
   dsimp only
   rw[if_neg (by omega)]
   have:=r.Av hC v
   exact .inr ⟨a,_,rfl,s,t,i,this⟩
def yD (C:Nat->Nat->List UInt8)(n:Nat)(x:Nat->List UInt8):Nat->Nat->List UInt8:=fun k=>if k=n then x else C k
theorem vC {d:Dk}{l:Lg}{p:Pg}{C:Nat->Nat->List UInt8}(h:mK d l p C)(hd:d.dead=false)(F:l.dead=false)(i:p.dead=false){im:Im}(hi:im.Ok (p.blocks d))(q9:l.last<1000000000000):
  (im.ks=[]/\p.commit d l im=(d,l,p,l.last,0))\/
  (im.ks≠[]/\p.ru im/\p.commit d l im=(d,l,p,0,13))\/
  (im.ks≠[]/\¬p.ru im/\((∃f r y,p.commit d l im=(f,r,y,l.last+1,0)/\f.dead=false/\r.dead=false/\y.dead=false/\(d.fuel= -1->f.fuel= -1)/\r.last=l.last+1/\l.synced<=r.synced/\y.skip=p.skip/\y.ring=p.ring/\f.n=d.n/\
    mK f r y (yD C (l.last+1) (p.look im d))/\(∀b,b<p.blocks d->y.look Im.none f b=p.look im d b)/\r.synced<=l.last)\/
   ∃f r y,p.commit d l im=(f,r,y,0,10)/\f.dead=true/\d.fuel≠-1/\y.skip=p.skip/\f.n=d.n/\IC f r p.skip (p.blocks d) C/\l.synced<=r.synced/\r.last=l.last)):=by
 by_cases z:im.ks=[]
 ·refine .inl ⟨z,?_⟩
  unfold Pg.commit
  rw[i,if_neg (by simp),if_pos z]
 by_cases R:p.ru im
 ·refine .inr (.inl ⟨z,R,?_⟩)
  unfold Pg.commit
  unfold Pg.ru at R
  rw[i,if_neg (by simp),if_neg z,if_pos R]
 refine .inr (.inr ⟨z,R,?_⟩)
 have qy:¬(p.ring<bZ im.bg\/1024<im.ks.length):=R
 have qo:0<im.ks.length:=gY.2 z
 have A:im.NN (p.blocks d):=⟨hi,qo,by omega⟩
 obtain⟨qf,h,hC⟩:=h
 have v:=h.lok.sy;have qC:=h.uE;have qb:=h.pok.ring;have q8:=h.lok.us;have qO:=h.lok.n2
 obtain⟨H,n⟩:∃H,bZ im.bg=H:=⟨_,rfl⟩
 rw[n] at qy
 obtain⟨N,W⟩:∃N,N=p.blocks d:=⟨_,rfl⟩
 rw[<-W] at hC A ⊢
 have x:(∃a c j g,p.ready d l H=(a,c,j,0)/\a.dead=false/\c.dead=false/\j.dead=false/\(d.fuel= -1->a.fuel= -1)/\a.n=d.n/\j.skip=p.skip/\j.ring=p.ring/\c.last=l.last/\l.synced<=c.synced/\H<=c.room/\Rest a c j g/\Fa c g N (fun b=>a.get (p.skip+b)) C/\(∀b,b<N->j.look im a b=p.look im d b)/\c.synced<=l.last)\/
   (∃a c,p.ready d l H=(a,c,p.dies,10)/\a.dead=true/\d.fuel≠-1/\a.n=d.n/\IC a c p.skip N C/\l.synced<=c.synced/\c.last=l.last):=by
  unfold Pg.ready
  by_cases I:l.room<H
  ·rw[if_pos I]
   rcases GR h hd F i with ⟨a,e,a1,a2,a3,a4,a5,a6⟩|⟨a,c,e,a1,a2,a3,a4⟩
   ·rw[<-W] at a6
    have B:=ES (l:=l.all) ⟨h.lok.n2,h.lok.hi,h.lok.st,h.lok.us,h.lok.la,aC _,h.lok.ent,h.lok.sum⟩
    obtain⟨k1,k2,k3,k4,X,T,k7⟩:=B
    have k2:(l.all.cut l.last).used=0:=k2
    have k4:(l.all.cut l.last).n=l.n:=k4
    have X:(l.all.cut l.last).last=l.last:=X
    have T:(l.all.cut l.last).synced=l.last:=T
    have k7:(l.all.cut l.last).dead=l.dead:=k7
    refine .inl ⟨a,_,_,[],e,a1,by rw[k7];exact F,i,a2,a3,rfl,rfl,X,by rw[T];exact v,?_,a5,fun k M Y b t=> ?_,fun b t=> ?_,eO T⟩
    ·unfold Lg.room
     rw[k2,k4];omega
    ·rw[T] at M
     rw[X] at Y
     obtain rfl:k=l.last:=by omega
     rw[hC _ v (aC _) b t,dD,aL (aC _),<-a6 b t]
     show a.get (p.skip+b)=oC (List.take _ []) _ b
     rw[Q6];rfl
    ·unfold Pg.look
     congr 1
     show (Im.none.find b).getD _=_
     have J:Im.none.find b=none:=rfl
     rw[J]
     show a.get (p.skip+b)=_
     rw[a6 b t,h.fresh b];rfl
   ·rw[<-W] at a4
    exact .inr ⟨a,c,e,a1,a2,a3,a4.Av hC v⟩
  ·rw[if_neg I]
   exact .inl ⟨d,l,p,qf,rfl,hd,F,i,id,rfl,rfl,rfl,rfl,aC _,by omega,h,hC,fun _ _=>rfl,v⟩
 rcases x with ⟨a,c,j,g,Z,b1,V,b3,b4,O,D,b7,b8,b9,ql,o,Q,S,qm⟩|⟨a,c,Z,b1,V,b3,b4,O,D⟩
 ·have E:j.blocks a=N:=by rw[W];unfold Pg.blocks;rw[O,D]
  rcases Kq o b1 V (im:=im) (by rw[E];exact A) (by rw[n];exact ql) (by omega) with ⟨m,e6,c1,c2,c3,K,c5⟩|⟨m,e6,c1,c2,c3,K⟩
  ·left
   have B:=Pg.sF i z n (by omega) Z e6
   rw[if_pos rfl] at B
   rw[b8] at B
   have pV:∀b,({j with fresh:=j.fresh.over im}:Pg).look Im.none m b=j.look im a b:=fun b=>by
    rw[Pg.Dq]
    unfold Pg.look
    rw[K]
   refine⟨m,_,_,B,c1,V,b3,fun hf=>c2 (b4 hf),?_,b9,D,b7,c3.trans O,⟨_,c5,fun k M Y b t=> ?_⟩,(fun b t=>by rw[pV,S b t]),qm⟩
   ·show c.last+1=_
    rw[b8]
   ·have p9:({j with fresh:=j.fresh.over im}:Pg).blocks m=N:=by rw[<-E];unfold Pg.blocks;rw[c3]
    rw[p9] at t
    have M:c.synced<=k:=M
    have Y:k<=c.last+1:=Y
    have qc:=o.uE
    have G:(c.more im.bg).last=c.last+1:=rfl
    rw[G]
    unfold yD
    by_cases P:k=l.last+1
    ·rw[if_pos P]
     have J:k+(g++[im]).length - (c.last+1)=(g++[im]).length:=by omega
     rw[J,aL (aC _),<-S b t]
     unfold oC Pg.look
     rw[yF,<-o.fresh b]
     show _=((im.find b).or (j.fresh.find b)).getD (m.get (j.skip+b))
     rw[K]
     cases im.find b<;>rfl
    ·rw[if_neg P,Q k M (by omega) b t]
     have J:k+(g++[im]).length - (c.last+1)=k+g.length - c.last:=by rw[aB,dP];omega
     rw[J,bW (by omega)]
     unfold oC
     show _=(findAll _ b).getD (m.get (j.skip+b))
     rw[K,D]
  ·right
   have B:=Pg.sF i z n (by omega) Z e6
   rw[if_neg (by omega)] at B
   refine⟨m,_,_,B,c1,fun hf=>c2 (b4 hf),D,c3.trans O,fun s hs=> ?_,b9,b8⟩
   have q:=K s hs
   rw[E,D] at q
   exact⟨c.synced,aC _,o.lok.sy,q.Av Q (aC _) o.lok.sy⟩
 ·right
  refine⟨a,c,p.dies,?_,b1,V,rfl,b3,b4,O,D⟩
  unfold Pg.commit
  rw[i,if_neg (by simp),if_neg z,n,if_neg (by omega),Z]
  dsimp only
  rw[if_neg (by omega)]
structure VI (σ:Dk)(l:Lg)(p:Pg):Prop where
 free:σ.nH
 ld:l.dead=false
 pd:p.dead=false
 wt:σ.waits.length<=l.used
 rc:l.last<1000000000000->∃C,mK σ l p C
theorem VI.v0 {a:Dk}{l:Lg}{p:Pg}(h:VI a l p):V6 a l p:=⟨h.free,h.ld,h.pd,h.wt⟩
theorem Ki {c:Dk}{l:Lg}{p:Pg}{d:Im}(g:VI c l p)(v:p.Ok c l)(x:l.Ok)(n:d.Ok (p.blocks c)):
  (d.ks=[]/\p.commit c l d=(c,l,p,l.last,0))\/
  (d.ks≠[]/\p.ru d/\p.commit c l d=(c,l,p,0,13))\/
  (d.ks≠[]/\¬p.ru d/\∃a f e,p.commit c l d=(a,f,e,l.last+1,0)/\VI a f e/\f.last=l.last+1/\e.skip=p.skip/\e.ring=p.ring/\a.n=c.n/\∀b,e.look Im.none a b=p.look d c b):=by
 refine(Hr g.v0 v x n).imp_right (Or.imp_right ?_)
 rintro⟨m,k,a,f,e,j,i,s,t⟩
 refine⟨m,k,a,f,e,j,⟨i.free,i.ld,i.pd,i.wt,fun o=> ?_⟩,s,t⟩
 obtain⟨C,hC⟩:=g.rc (by omega)
 rcases vC hC g.free.1 g.ld g.pd n (by omega) with ⟨q,_⟩|⟨_,q,_⟩|⟨_,_,⟨_,_,_,q,_,_,_,_,_,_,_,_,_,r,_⟩|⟨_,_,_,q,_⟩⟩
 ·exact absurd q m
 ·exact absurd q k
 ·rw[j] at q
  simp only[mP] at q
  obtain⟨rfl,rfl,rfl,_⟩:=q
  exact⟨_,r⟩
 ·rw[j] at q
  simp at q
theorem OI {d:Dk}{l:Lg}{p:Pg}(e:VI d l p)(m:p.Ok d l):
  ∃a c,p.sync d l=(a,c,p,0)/\VI a c p/\c.last=l.last/\c.synced=l.last/\a.n=d.n/\∀i b,p.look i a b=p.look i d b:=by
 obtain⟨a,c,g,f,k,n⟩:=Md e.v0 m
 refine⟨a,c,g,⟨f.free,f.ld,f.pd,f.wt,fun j=> ?_⟩,k,n⟩
 obtain⟨C,hC⟩:=e.rc (by omega)
 rcases Bj hC e.free.1 e.ld e.pd with ⟨_,_,q,_,_,_,_,_,_,_,r,_⟩|⟨_,_,q,_⟩
 ·rw[g] at q
  simp only[mP] at q
  obtain⟨rfl,rfl,_⟩:=q
  exact⟨_,r⟩
 ·rw[g] at q
  simp at q
structure VJ (σ:Dk)(l:Lg)(p:Pg):Prop where
 nd:σ.dead=false
 ld:l.dead=false
 pd:p.dead=false
 wt:σ.waits.length<=l.used
 rc:l.last<1000000000000->∃C,mK σ l p C
theorem VI.vj {a:Dk}{l:Lg}{p:Pg}(h:VI a l p):VJ a l p:=⟨h.free.1,h.ld,h.pd,h.wt,h.rc⟩
theorem mK.cap {a:Dk}{l:Lg}{p:Pg}{C:Nat->Nat->List UInt8}(h:mK a l p C):a.waits.length<=l.used:=by
 obtain⟨c,b,_⟩:=h
 exact b.cap
structure QW (σ:Dk)(l:Lg)(p:Pg)(im:Im)(σ':Dk)(l':Lg)(p':Pg):Prop where
 vj:VJ σ' l' p'
 last:l'.last=l.last+1
 skip:p'.skip=p.skip
 ring:p'.ring=p.ring
 n:σ'.n=σ.n
 look:∀b,b<p.blocks σ->p'.look Im.none σ' b=p.look im σ b
 fu:σ.fuel= -1->σ'.fuel= -1
 uE:l.synced<=l'.synced
 Av:∀C,mK σ l p C->mK σ' l' p' (yD C (l.last+1) (p.look im σ))
 syl:l'.synced<=l.last
structure LC (σ:Dk)(l:Lg)(p:Pg)(σ':Dk)(l':Lg)(p':Pg):Prop where
 dead:σ'.dead=true
 fu:σ.fuel≠-1
 skip:p'.skip=p.skip
 n:σ'.n=σ.n
 uE:l.synced<=l'.synced
 last:l'.last=l.last
 Av:∀C,mK σ l p C->IC σ' l' p.skip (p.blocks σ) C
structure TW (σ:Dk)(l:Lg)(p:Pg)(σ':Dk)(l':Lg):Prop where
 vj:VJ σ' l' p
 last:l'.last=l.last
 uE:l'.synced=l.last
 n:σ'.n=σ.n
 look:∀im b,p.look im σ' b=p.look im σ b
 fu:σ.fuel= -1->σ'.fuel= -1
 wts:σ'.waits=[]
 Av:∀C,mK σ l p C->mK σ' l' p C
theorem Ht {b:Dk}{l:Lg}{p:Pg}{im:Im}(c:VJ b l p)(s:im.Ok (p.blocks b))(d:l.last<1000000000000):
  (im.ks=[]/\p.commit b l im=(b,l,p,l.last,0))\/
  (im.ks≠[]/\p.ru im/\p.commit b l im=(b,l,p,0,13))\/
  (im.ks≠[]/\∃a f g,p.commit b l im=(a,f,g,l.last+1,0)/\QW b l p im a f g)\/
  (im.ks≠[]/\∃a f g,p.commit b l im=(a,f,g,0,10)/\LC b l p a f g):=by
 obtain⟨E,x⟩:=c.rc d
 rcases vC x c.nd c.ld c.pd s d with h|h|⟨j,_,⟨a,f,g,q,y,z,m,v,A,o,n,B,D,i,k,t⟩|⟨a,f,g,q,y,z,m,v,A,o,n⟩⟩
 ·exact .inl h
 ·exact .inr (.inl h)
 ·refine .inr (.inr (.inl ⟨j,a,f,g,q,⟨y,z,m,i.cap,fun _=>⟨_,i⟩⟩,A,n,B,D,k,v,o,(fun C hC=> ?_),t⟩))
  rcases vC hC c.nd c.ld c.pd s d with ⟨e,_⟩|⟨_,_,e⟩|⟨_,_,⟨_,_,_,e,_,_,_,_,_,_,_,_,_,r,_⟩|⟨_,_,_,e,_⟩⟩
  ·exact absurd e j
  ·rw[q] at e;simp at e
  ·rw[q] at e
   simp only[mP] at e
   obtain⟨rfl,rfl,rfl,_⟩:=e
   exact r
  ·rw[q] at e;simp at e
 ·refine .inr (.inr (.inr ⟨j,a,f,g,q,y,z,m,v,o,n,fun C hC=> ?_⟩))
  rcases vC hC c.nd c.ld c.pd s d with ⟨e,_⟩|⟨_,_,e⟩|⟨_,_,⟨_,_,_,e,_⟩|⟨_,_,_,e,_,_,_,_,r,_⟩⟩
  ·exact absurd e j
  ·rw[q] at e;simp at e
  ·rw[q] at e;simp at e
  ·rw[q] at e
   simp only[mP] at e
   obtain⟨rfl,rfl,rfl,_⟩:=e
   exact r
theorem UK {d:Dk}{l:Lg}{p:Pg}(b:VJ d l p)(f:l.last<1000000000000):
  (∃a c,p.sync d l=(a,c,p,0)/\TW d l p a c)\/
  (∃a c,p.sync d l=(a,c,p.dies,10)/\LC d l p a c p.dies):=by
 obtain⟨x,j⟩:=b.rc f
 rcases Bj j b.nd b.ld b.pd with ⟨a,c,q,m,n,g,s,k,i,v,o,t⟩|⟨a,c,q,m,n,g,s,k,i⟩
 ·refine .inl ⟨a,c,q,⟨m,n,b.pd,o.cap,fun _=>⟨_,o⟩⟩,i,v,s,t,g,k,fun C hC=> ?_⟩
  rcases Bj hC b.nd b.ld b.pd with ⟨_,_,e,_,_,_,_,_,_,_,r,_⟩|⟨_,_,e,_⟩
  ·rw[q] at e
   simp only[mP] at e
   obtain⟨rfl,rfl,_⟩:=e
   exact r
  ·rw[q] at e;simp at e
 ·refine .inr ⟨a,c,q,m,n,rfl,g,k,i,fun C hC=> ?_⟩
  rcases Bj hC b.nd b.ld b.pd with ⟨_,_,e,_⟩|⟨_,_,e,_,_,_,r,_⟩
  ·rw[q] at e;simp at e
  ·rw[q] at e
   simp only[mP] at e
   obtain⟨rfl,rfl,_⟩:=e
   exact r
structure mH where
 k:ByteArray
 s:ByteArray
 v:ByteArray
 b:List Int
def iw (es:List mH):List Pr:=es.map fun e=>(e.k,e.s)
def gV (es:List mH):List Pr:=es.map fun e=>(e.k,e.v)
def dS (es:List mH):List Int:=es.flatMap (·.b)
theorem rF (a b:List mH):iw (a++b)=iw a++iw b:=by simp[iw]
theorem mh (a b:List mH):gV (a++b)=gV a++gV b:=by simp[gV]
theorem mE (a b:List mH):dS (a++b)=dS a++dS b:=by simp[dS]
theorem D7 (e:mH)(b:List mH):dS (e::b)=e.b++dS b:=by simp[dS]
theorem gQ (a:List mH):(iw a).length=a.length:=by simp[iw]
theorem kV (a:List mH):(gV a).length=a.length:=by simp[gV]
def uz (es:List mH)(key:ByteArray):Nat:=(es.takeWhile fun e=>lt e.k key).length
theorem Ey (f:mH->Pr)(c:∀e,(f e).1=e.k)(b:List mH)(a:ByteArray):dI (b.map f) a=uz b a:=by
 unfold dI uz
 rw[List.takeWhile_map,jM]
 congr 2
 funext e
 simp[c]
theorem Le (f:mH->Pr)(j:∀e,(f e).1=e.k)(b:List mH)(a:ByteArray):
  (∀o,b[uz b a]? =some o->o.k=a->dK (b.map f) a=some (f o).2/\(∀x,jh (b.map f) a x=(b.take (uz b a)).map f++(a,x)::(b.drop (uz b a+1)).map f)/\Ng (b.map f) a=(b.take (uz b a)).map f++(b.drop (uz b a+1)).map f)/\
  ((∀o,b[uz b a]? =some o->o.k≠a)->dK (b.map f) a=none/\(∀x,jh (b.map f) a x=(b.take (uz b a)).map f++(a,x)::(b.drop (uz b a)).map f)/\Ng (b.map f) a=b.map f):=by
 have d:=Ey f j b a
 constructor
 ·intro o i l
  obtain⟨m,_⟩:=bO.1 i
  have c:qQ (b.map f) a=true:=by
   unfold qQ
   rw[d,dL,i]
   simp[j,l]
  refine⟨?_,fun x=> ?_,?_⟩
  ·unfold dK
   rw[if_pos c,d,dL,i];rfl
  ·unfold jh
   rw[if_pos c,d,Tw,if_pos (by rw[jM];exact m),iG,jy]
  ·unfold Ng
   rw[if_pos c,d,iG,jy]
 ·intro g
  have c:qQ (b.map f) a=false:=by
   unfold qQ
   rw[d,dL]
   cases k:b[uz b a]? with
   |none=>rfl
   |some o=>simp[j,g o k]
  refine⟨?_,fun x=> ?_,?_⟩
  ·unfold dK
   rw[if_neg (by rw[c];simp)]
  ·unfold jh
   rw[if_neg (by rw[c];simp),d,iG,jy]
  ·unfold Ng
   rw[if_neg (by rw[c];simp)]
structure yQ (es:List mH)(key:ByteArray)(l o r:List mH):Prop where
 eq:es=l++o++r
 one:o=[]\/∃e,o=[e]/\e.k=key
 ls:dK (iw es) key=o.head?.map (·.s)
 lv:dK (gV es) key=o.head?.map (·.v)
 is:∀s v b,jh (iw es) key s=iw (l++⟨key,s,v,b⟩::r)
 iv:∀s v b,jh (gV es) key v=gV (l++⟨key,s,v,b⟩::r)
 ds:Ng (iw es) key=iw (l++r)
 dv:Ng (gV es) key=gV (l++r)
theorem QD (c:List mH)(a:ByteArray):∃l o r,yQ c a l o r:=by
 have q:=Le (fun e=>(e.k,e.s)) (fun _=>rfl) c a
 have t:=Le (fun e=>(e.k,e.v)) (fun _=>rfl) c a
 by_cases h:∃o,c[uz c a]? =some o/\o.k=a
 ·obtain⟨o,d,f⟩:=h
  obtain⟨y,x⟩:=bO.1 d
  obtain⟨n,p,i⟩:=q.1 o d f
  obtain⟨j,k,m⟩:=t.1 o d f
  refine⟨c.take (uz c a),[o],c.drop (uz c a+1),?_,.inr ⟨o,rfl,f⟩,n,j,fun s v b=> ?_,fun s v b=> ?_,?_,?_⟩
  ·rw[<-x,bA,List.singleton_append,List.getElem_cons_drop,bM]
  ·rw[rF];exact p s
  ·rw[mh];exact k v
  ·rw[rF];exact i
  ·rw[mh];exact m
 ·have g:∀o,c[uz c a]? =some o->o.k≠a:=fun o d f=>h ⟨o,d,f⟩
  obtain⟨n,p,i⟩:=q.2 g
  obtain⟨j,k,m⟩:=t.2 g
  refine⟨c.take (uz c a),[],c.drop (uz c a),?_,.inl rfl,n,j,fun s v b=> ?_,fun s v b=> ?_,?_,?_⟩
  ·rw[dV,bM]
  ·rw[rF];exact p s
  ·rw[mh];exact k v
  ·rw[bM];exact i
  ·rw[bM];exact m
theorem vJ.keep {k j:cK}{b i:Nat}{l:List (Nat×Nat)}(h:vJ k b i l)(m:j.hasB b=true)(n:j.mem b=k.mem b):vJ j b i l:=by
 obtain⟨a,_,c,d,e,f,g⟩:=h
 exact⟨a,m,by rw[n];exact c,d,e,f,g⟩
theorem qI.keep {k f:cK}{d:Nat}{t:List UInt8}{g:List (Nat×Nat)}(h:qI k d t g)(j:∀x∈lV d g,f.hasB x=true/\f.mem x=k.mem x):qI f d t g:=by
 have e:∀b∈fP g++[d],((b:Nat):Int)∈lV d g:=fun b m=>List.mem_map_of_mem m
 refine⟨h.hd.keep (j _ (e d (by simp))).1 (j _ (e d (by simp))).2,h.nd,fun i l=> ?_⟩
 obtain⟨a,b,c⟩:=h.blk i l
 have:=j _ (e (fP g)[i] (dH _ (bJ l)))
 exact⟨this.1,b,this.2.trans c⟩
theorem ValAt.keep {c a:cK}{s v:ByteArray}{b:List Int}(h:ValAt c s v b)(l:∀x∈b,a.hasB x=true/\a.mem x=c.mem x):ValAt a s v b:=by
 rcases h with h|⟨e,f,i,j,g,d⟩
 ·exact .inl h
 ·exact .inr ⟨e,f,i,j,g.keep (fun x k=>l x (by rw[d];exact k)),d⟩
theorem ValAt.all {a:cK}{s v:ByteArray}{b:List Int}(h:ValAt a s v b):∀x∈b,a.hasB x=true/\2<=x:=by
 rcases h with ⟨_,_,rfl⟩|⟨e,f,_,_,d,rfl⟩
 ·intro x c;cases c
 ·exact d.all
theorem lW.XO {T:ByteArray->Option ByteArray->Int->List Pr->List Int->Prop}(f:∀k z b c x,T k z b c x->∀y∈x,2<=y){d:Option ByteArray}{l:List (ByteArray×Int)}{e:List Pr}{a:List Int}(h:lW T d l e a):∀y∈a,2<=y:=lW.has f h
theorem xw.two {j:cK}:∀{h m:Nat} {f:ByteArray} {o:Option ByteArray} {b:Int} {p:List Pr} {d:List Int},xw j h m f o b p d->∀x∈d,2<=x
 |0,_,_,_,_,_,_,⟨l,c,_,_,_,_,_,_,e⟩=>by
  intro x a
  rw[e] at a
  rw[cu.1 a]
  exact c.lo
 |h+1,_,_,_,_,_,_,⟨l,i,c,_,_,_,n,g⟩=>by
  subst n
  intro x a
  rcases aW.1 a with rfl|a
  ·exact c.lo
  ·exact lW.XO (fun _ _ _ _ _ k=>xw.two k) g x a
theorem yS.two {c:cK}{a:Int}{f:List Pr}{b:List Int}(h:yS c a f b):∀x∈b,2<=x:=by
 rcases h with ⟨_,_,rfl⟩|⟨h,e⟩
 ·intro x d;cases d
 ·exact e.two
structure Own (σ:cK)(bs:List Int):Prop where
 nd:bs.Nodup
 ex:∀x,σ.hasB x=true->x=0\/x=1\/x∈bs
 size:σ.sz=countB σ.H.old σ.most+nh σ bs
theorem Own.Yk {f d:cK}{i g:List Int}(h:Own f i)(c:uG f d i g):Own d g:=by
 refine⟨c.nd h.nd,fun x j=> ?_,?_⟩
 ·rcases c.ex x j with y|⟨y,z⟩
  ·exact .inr (.inr y)
  ·exact(h.ex x y).imp id (fun e=>e.imp id (fun e=>absurd e z))
 ·have a:=c.size
  have b:=h.size
  rw[c.H,c.most,Gh c.H]
  omega
structure Live (σ:cK)(root:Int)(es:List mH)(tb:List Int):Prop where
 tree:yS σ root (iw es) tb
 val:∀e∈es,ValAt σ e.s e.v e.b
 own:Own σ (tb++dS es)
theorem Live.bb {c:cK}{a:Int}{d:List mH}{f:List Int}(h:Live c a d f):∀x∈dS d,c.hasB x=true/\2<=x:=by
 intro x b
 obtain⟨e,g,b⟩:=qg.1 b
 exact(h.val e g).all x b
theorem Live.all {c:cK}{b:Int}{e:List mH}{d:List Int}(h:Live c b e d):∀x∈d++dS e,c.hasB x=true/\2<=x:=by
 intro x a
 rcases eB.1 a with a|a
 ·exact⟨h.tree.has x a,h.tree.two x a⟩
 ·exact h.bb x a
theorem vS {a b:List Int}(h:(a++b).Nodup):∀x∈b,x∉a:=fun x d c=>(Uk.1 h).2.2 x c x d rfl
theorem PU {G B j y:cK}{K k:Int}{z l o r:List mH}{b d:List Int}{g s v:ByteArray}(S:Live G K z b)(hA:yQ z g l o r)(Y:uG G B (dS o) [])(X:uG B j [] d)(hv:ValAt j s v d){n:Nat}(H:E5 j b (jh (iw z) g s) n y k):
  ∃f,Live y k (l++⟨g,s,v,d⟩::r) f/\uG G y (b++dS z) (f++dS (l++⟨g,s,v,d⟩::r)):=by
 obtain⟨f,ht,H,_,_⟩:=H
 have J:=S.all
 have hn:=S.own.nd
 have A:=hA.eq
 have qb:dS z=dS l++dS o++dS r:=by rw[A,mE,mE]
 obtain⟨R,V⟩:∃R,R=b++dS l++dS r:=⟨_,rfl⟩
 have E:(b++dS z).Perm (dS o++R):=by
  rw[qb,V]
  have:(b++(dS l++dS o++dS r)).Perm (b++(dS o++dS l++dS r)):=((lX).append_right _).append_left _
  refine this.trans ?_
  have e1:b++(dS o++dS l++dS r)=b++dS o++(dS l++dS r):=by simp
  have Z:dS o++(b++dS l++dS r)=dS o++b++(dS l++dS r):=by simp
  rw[e1,Z]
  exact lX.append_right _
 have m:=E.nodup_iff.1 hn
 have F:∀x∈R,G.hasB x=true:=fun x c=>(J x (E.mem_iff.2 (cB _ c))).1
 have T:=Y.left (rs:=R) m F
 have pV:∀x∈R,B.hasB x=true:=fun x c=>(T.new x c).1
 have W:=X.left (rs:=R) (T.nd m) pV
 have p9:=W.nd (T.nd m)
 have D:(d++R).Perm (b++(d++dS l++dS r)):=by
  rw[V]
  have e1:d++(b++dS l++dS r)=d++b++(dS l++dS r):=by simp
  have Z:b++(d++dS l++dS r)=b++d++(dS l++dS r):=by simp
  rw[e1,Z]
  exact lX.append_right _
 have M:=D.nodup_iff.1 p9
 have Q:∀x∈d++R,j.hasB x=true:=fun x c=>(W.new x c).1
 have c3:=H.left (rs:=d++dS l++dS r) M (fun x c=>Q x (D.mem_iff.2 (cB _ c)))
 have P:dS (l++⟨g,s,v,d⟩::r)=dS l++(d++dS r):=by rw[mE,D7]
 have qc:(f++(d++dS l++dS r)).Perm (f++dS (l++⟨g,s,v,d⟩::r)):=by
  rw[P,<-bA (dS l)]
  exact(lX.append_right _).append_left _
 have C:uG G y (b++dS z) (f++dS (l++⟨g,s,v,d⟩::r)):=by
  have a:uG G j (b++dS z) (b++(d++dS l++dS r)):=(T.trans W).perm E.symm D
  exact(a.trans c3).perm (LG _) qc
 refine⟨f,⟨?_,fun e t=> ?_,S.own.Yk C⟩,C⟩
 ·rw[<-hA.is s v d];exact ht
 ·have q:∀x∈d++dS l++dS r,x∉b:=vS M
  rcases eB.1 t with t|t
  ·have i:∀x∈e.b,x∈dS l:=fun x c=>qg.2 ⟨e,t,c⟩
   refine(S.val e (by rw[A];exact dH _ (dH _ t))).keep fun x c=> ?_
   have p:x∈R:=by rw[V];exact dH _ (cB _ (i x c))
   have I:=Y.frame x (F x p) (.inl (vS m x p))
   have O:=X.frame x I.1 (.inl (by simp))
   have N:=H.frame x O.1 (.inl (q x (dH _ (cB _ (i x c)))))
   exact⟨N.1,N.2.trans (O.2.trans I.2)⟩
  ·rcases aW.1 t with rfl|t
   ·exact hv.keep fun x c=>H.frame x (Q x (dH _ c)) (.inl (q x (dH _ (dH _ c))))
   ·have i:∀x∈e.b,x∈dS r:=fun x c=>qg.2 ⟨e,t,c⟩
    refine(S.val e (by rw[A];exact cB _ t)).keep fun x c=> ?_
    have p:x∈R:=by rw[V];exact cB _ (i x c)
    have I:=Y.frame x (F x p) (.inl (vS m x p))
    have O:=X.frame x I.1 (.inl (by simp))
    have N:=H.frame x O.1 (.inl (q x (cB _ (i x c))))
    exact⟨N.1,N.2.trans (O.2.trans I.2)⟩
theorem xh:∀(n:Nat) (f:Nat->Bool) (L:List Nat),L.Nodup->(∀x,x∈L↔x<n/\f x=true)->countB f n=L.length
 |0,f,L,_,h=>by
  cases L with
  |nil=>rfl
  |cons a L=>exact absurd ((h a).1 (aY ..)).1 (oF _)
 |n+1,f,L,i,h=>by
  rw[eD]
  by_cases d:f n=true
  ·have j:n∈L:=(h n).2 ⟨nP n,d⟩
   have ih:=xh n f (L.erase n) (i.erase n) (fun x=>by
    rw[i.mem_erase_iff,h]
    constructor
    ·rintro⟨a,b,c⟩;exact⟨by omega,c⟩
    ·rintro⟨a,b⟩;exact⟨by omega,by omega,b⟩)
   rw[ih,d,List.length_erase_of_mem j]
   have:=List.length_pos_of_mem j
   simp;omega
  ·have g:f n=false:=by simpa using d
   have ih:=xh n f L i (fun x=>by
    rw[h]
    constructor
    ·rintro⟨a,b⟩
     exact⟨by have:x≠n:=fun e=>d (e▸b);omega,b⟩
    ·rintro⟨a,b⟩;exact⟨by omega,b⟩)
   rw[ih,g];rfl
theorem Own.count {c:cK}{k:List Int}(h:Own c k)(i:c.Ok)(j:∀x∈k,c.hasB x=true/\2<=x):countB c.now c.most=2+k.length:=by
 obtain⟨L,l⟩:∃L:List Nat,L=k.map Int.toNat:=⟨_,rfl⟩
 have s:=i.two
 have f:∀x∈L,2<=x/\x<c.most/\c.now x=true:=by
  intro x d
  rw[l] at d
  obtain⟨y,p,rfl⟩:=iN.1 d
  obtain⟨n,e,a,b⟩:=cK.lH (j y p).1
  have:=(j y p).2
  rw[e,dz]
  exact⟨by omega,a,b⟩
 have m:L.Nodup:=by
  rw[l]
  refine List.Pairwise.map _ (R:=fun a b=>a≠b/\2<=a/\2<=b) (fun a b (g:a≠b/\2<=a/\2<=b) e=>g.1 (by omega)) ?_
  have:=h.nd
  exact List.Pairwise.imp_of_mem (fun q o g=>⟨g,(j _ q).2,(j _ o).2⟩) this
 rw[xh c.most c.now (0::1::L) ?_ fun x=> ?_]
 ·rw[l];simp;omega
 ·refine xG.2 ⟨fun e=> ?_,xG.2 ⟨fun e=> ?_,m⟩⟩
  ·rcases aW.1 e with e|e
   ·cases e
   ·have:=(f 0 e).1;omega
  ·have:=(f 1 e).1;omega
 ·constructor
  ·intro d
   rcases aW.1 d with rfl|d
   ·exact⟨by omega,i.n0⟩
   ·rcases aW.1 d with rfl|d
    ·exact⟨by omega,i.n1⟩
    ·exact(f x d).2
  ·rintro⟨a,b⟩
   have r:c.hasB (x:Int)=true:=by unfold cK.hasB;rw[dz,b];simp[a]
   rcases h.ex x r with e|e|e
   ·have:x=0:=by omega
    subst this;exact aY ..
   ·have:x=1:=by omega
    subst this;exact bn _ (aY ..)
   ·refine bn _ (bn _ ?_)
    rw[l]
    exact iN.2 ⟨x,e,by simp⟩
theorem Jm (t:Nat)(w:World)(h:Iz w t):
  Calls Tryz.prog 93 #[.pointer (some ⟨t,0,none⟩)] w fun e b=>e= .returned (.tuple #[])/\b=w:=by
 obtain⟨c,h⟩:=h
 have d:w.cell? ⟨t,0,none⟩=some (.pointer none):=by simp[World.cell?,h]
 have a:=(aj.1 h).1
 clear h
 go_enter Tryz.func93,Tryz.ntmps93
 go_wp2_with fail
 go_end0
 exact⟨rfl,rfl⟩
theorem S9 (b:VS)(a:Int)(w:World)(g:0<=a):
  Calls Tryz.prog 137 #[.iface 178 b.agg,.int .i64 a] w fun e c=>e= .returned (.pointer (some ⟨w.heap.size,0,none⟩))/\bY c w.heap.size b a 0/\c.heap.size=w.heap.size+1/\Below w.heap.size w c:=by
 have d:¬a<0:=by omega
 have f:∀w:World,(binOp BinOp.eql 265 (.iface 178 b.agg) .nilIface).run Tryz.prog w= .ok (.bool false) w:=fun _=>by kernel_rfl
 go_enter Tryz.func137,Tryz.ntmps137
 go_wp2_with fail
 go_ret
 exact⟨rfl,aH _ _,by simp,aG _ _⟩
theorem SY (t:Nat)(c:VS)(a b:Int)(w:World)(h:bY w t c a b):
  Calls Tryz.prog 117 #[.pointer (some ⟨t,0,none⟩)] w fun e f=>e= .returned (.int .i64 a)/\f=w:=by
 obtain⟨_,g,_,_,_,_,d⟩:=cells3 h
 go_enter Tryz.func117,Tryz.ntmps117
 go_wp2
 go_ret
 exact⟨rfl,rfl⟩
theorem Ws (v b d:Nat)(a:Dk)(l:Lg)(p:Pg)(f:Value)(S:Nat->Prop)(w:World)(i:w.heap[v]? =some (.cells #[.pointer (some ⟨b,0,none⟩)] 130 (0,0)))(h:iF w S b d a l p f)(c:a.waits.length<=90000):
  Calls Tryz.prog 33 #[.pointer (some ⟨v,0,none⟩)] w fun e k=>e= .returned (.int .i64 (p.sync a l).2.2.2)/\∃j,iF k j b d (p.sync a l).1 (p.sync a l).2.1 (p.sync a l).2.2.1 f/\Step S j w k:=by
 have q:w.cell? ⟨v,0,none⟩=some (.pointer (some ⟨b,0,none⟩)):=by simp[World.cell?,i]
 have m:=(aj.1 i).1
 have n:=ah (TH b d a l p f S w h c)
 clear i h
 go_enter Tryz.func33,Tryz.ntmps33
 go_wp2_with (first
  |(go_at_call 54;go_must (refine n.out.mono ?_;rintro e o ⟨rfl,g⟩)))
 go_ret
 exact⟨rfl,g⟩
def QH (l:List UInt8)(root:Nat):Prop:=root<65536/\∃rest,l=[UInt8.ofNat root,UInt8.ofNat (root/256)]++rest
def cK.start (σ:Dk)(l:Lg)(p:Pg)(f:Nat->Bool):cK:=⟨⟨σ,l,p,f⟩,p.blocks σ,Im.none,f,countB f (p.blocks σ)⟩
theorem cK.Ok.start {a:Dk}{l:Lg}{p:Pg}{f:Nat->Bool}(s:p.Ok a l)(i:a.Ok)(t:p.dead=false)(g:a.dead=false)(n:2<=p.blocks a)(c:∀b,p.blocks a<=b->f b=false)(m:f 0=true)(r:f 1=true):(cK.start a l p f).Ok:=by
 refine⟨t,g,rfl,n,?_,c,c,m,r,(fun b j=>by cases j),(fun b _ o q=> ?_),?_,fun b _=> ?_⟩
 ·have:=i.hi
  show p.blocks a<=4096
  unfold Pg.blocks;omega
 ·have e:f b=true:=o
  have d:f b=false:=q
  rw[e] at d;cases d
 ·show countB (fun x=>f x||f x) (p.blocks a)<=countB f (p.blocks a)
  exact pq _ (fun x _ k=>by simpa using k)
 ·show (p.look Im.none a b).length=512
  rw[Pg.zA]
  unfold Im.find
  split
  ·exact s.fresh.img _ ‹_›
  ·exact i.get _
def NG (pg d:Nat)(σ:Dk)(l:Lg)(p:Pg)(f:Nat->Bool)(root:Nat)(S:Nat->Prop)(w:World)(e:Ending)(w':World):Prop:=
 ∃t tr mp S',e= .returned (.tuple #[.pointer (some ⟨t,0,none⟩),.int .i64 0])/\mp.pg=pg/\mp.d=d/\w'.heap[t]? =some (.cells (cZ mp (some tr) false 0) 181 (0,0))/\bY w' tr mp root 0/\Inv (cK.start σ l p f) S' mp w'/\Step S S' w w'/\¬S' t/\¬S' tr/\w.heap.size<=t/\w.heap.size<=tr
theorem Ot (v E d:Nat)(F:Dk)(l:Lg)(p:Pg)(f:Nat->Bool)(a:Nat)(S:Nat->Prop)(w:World)(hv:w.heap[v]? =some (.cells #[.pointer (some ⟨E,0,none⟩)] 130 (0,0)))(lq:¬S v)(h:iF w S E d F l p (.pointer none))(hd:p.dead=false)(qC:F.dead=false)(h2:2<=p.blocks F)(hf:p.look Im.none F 0=bytesOf f)(z:∀b,p.blocks F<=b->f b=false)(h0:f 0=true)(h1:f 1=true)(hr:QH (p.look Im.none F 1) a):
  Calls Tryz.prog 77 #[.pointer (some ⟨v,0,none⟩)] w (NG E d F l p f a S w):=by
 have bf:=cK.Ok.start h.ok.1 h.ok.2.1 hd qC h2 z h0 h1
 have c0:w.cell? ⟨v,0,none⟩=some (.pointer (some ⟨E,0,none⟩)):=by simp[World.cell?,hv]
 have j5:=(aj.1 hv).1
 have HB:=ah (Pb E d F l p S w h hd)
 have HV:=ah hv;have kz:=ah bf
 have qc:=h.sub
 obtain⟨mD,l5,q9⟩:=hr
 have HF:=ah (au hf (au z (au h0 h1)))
 have j6:=ah q9
 clear hv h bf hf z h0 h1 q9
 go_enter Tryz.func77,Tryz.ntmps77
 go_wp2_with (first
  |(go_at_call 50;go_must (refine HB.out.mono ?_;rintro e B ⟨D,T,rfl,V,G,ql,d9⟩;refine Stop.of ?_)))
 refine Stop.on ?_
 have jb:∀g,S g->¬T g:=fun g N e=>absurd (d9 g e) (jX.2 (qc g N))
 have qO:=(ql.1.block v j5 lq).trans HV.out
 have d0:B.cell? ⟨v,0,none⟩=some (.pointer (some ⟨E,0,none⟩)):=by simp[World.cell?,qO]
 have l6:=(aj.1 qO).1
 have j3:=ah (AP E d F l p _ S B V)
 have kC:=ah (UR D E d F l p _ Im.none S T f B.drew (V.below ((aJ _ B).drew)) (G.below ((aJ _ B).drew)) hd qC h2 HF.out.1 HF.out.2.1 HF.out.2.2.1 HF.out.2.2.2)
 have H:=ah (au V (au G ql))
 clear qO V G ql
 go_wp2_with (first
  |(go_at_call 52;go_must (refine j3.out.mono ?_;rintro e w2 ⟨rfl,l9⟩;subst w2))
  |(go_at_call 135;go_must (refine kC.out.mono ?_;rintro e w2 ⟨c,rfl,J,iO,ko⟩;refine Stop.of ?_)))
 refine Stop.on ?_
 have s:Below B.heap.size B w2:=((aJ _ B).drew).trans ko
 have qf:=H.out.1.below s
 have M:=H.out.2.1.below s
 have R:=tread D E d F l p _ Im.none S T 1 w2 qf M hd qC (by omega)
 rw[j6.out] at R
 have R:=ah R
 go_wp2_with (first
  |(go_at_call 136;go_must (refine R.out.mono ?_;rintro e w3 ⟨rv,rfl,x,ai,Q⟩;refine Stop.of ?_)))
 refine Stop.on ?_
 obtain⟨ro,rc,rfl,r1,r2,r3,r4⟩:=bq.form x
 have bg:=UInt8.toNat_lt (UInt8.ofNat a)
 have fo:=UInt8.toNat_lt (UInt8.ofNat (a/256))
 have e1:(UInt8.ofNat a).toNat=a%256:=by rw[dZ]
 have e2:(UInt8.ofNat (a/256)).toNat=a/256:=by rw[dZ];omega
 obtain⟨O,po,rfl,X⟩:=x.Cq rfl 0 (.int .u8 ((a%256:Nat):Int)) (by simp[aF,e1])
 obtain⟨ng,l7,e',q8⟩:=x.Cq rfl 1 (.int .u8 ((a/256:Nat):Int)) (by simp[aF,e2])
 cases e'
 have qo:=aD w3 _ X
 obtain⟨lo,dn⟩:∃n:Nat,n=a%256:=⟨_,rfl⟩
 obtain⟨P,z⟩:∃n:Nat,n=a/256:=⟨_,rfl⟩
 rw[<-dn] at X
 rw[<-z] at q8
 have eH:lo<256:=by omega
 have lH:P<256:=by omega
 have k:a=lo+256*P:=by omega
 have q1:IntKind.i64.wrap (lo:Int)=(lo:Int):=aM _ (by omega)
 have q2:IntKind.i64.wrap (P:Int)=(P:Int):=aM _ (by omega)
 have p1:IntKind.i64.wrap ((P:Int)*256)=((256*P:Nat):Int):=by rw[aM _ (by omega)];omega
 have o1:=uQ lo P 256 a 8 rfl eH k (by omega)
 have mo:=ah k
 obtain⟨m1,jv⟩:∃m:Nat,Hid (256*P=m):=⟨_,ah rfl⟩
 rw[jv.out] at p1 o1
 have Z:=ah (au (qf.below Q) (au (M.below Q) (s.trans (Q.mono s.size))))
 have pV:=ah ((Q.block c (aj.1 J).1).trans J)
 clear x ai e1 e2 bg fo dn z k qf M J
 go_upto_region 15 with (fail)
 have A:=aG w3 (.cells #[.pointer (some ⟨D,0,none⟩),.pointer (some ⟨c,0,none⟩)] 178)
 have h4:=aH w3 (.cells #[.pointer (some ⟨D,0,none⟩),.pointer (some ⟨c,0,none⟩)] 178)
 obtain⟨Y,lG⟩:∃Y,Hid (w3.heap.size=Y):=⟨_,ah rfl⟩
 obtain⟨r,lg⟩:∃r,Hid (w3.alloc (.cells #[.pointer (some ⟨D,0,none⟩),.pointer (some ⟨c,0,none⟩)] 178)=r):=⟨_,ah rfl⟩
 rw[lg.out] at A h4 ⊢
 rw[lG.out] at h4 ⊢
 have qy:=ah (show ∀W:World,Below r.heap.size r W->(W.cell? ⟨Y,0,none⟩=some (.pointer (some ⟨D,0,none⟩))/\W.cell? ⟨Y,1,none⟩=some (.pointer (some ⟨c,0,none⟩))/\W.cell? ⟨O,po,none⟩=some (.int .u8 (lo:Int))/\W.cell? ⟨O,po+1,none⟩=some (.int .u8 (P:Int))/\Y<W.heap.size/\O<W.heap.size) from fun W q=>by
  have hl:=(aj.1 h4).1
  have I:=aA qo A.size
  have h5:=(q.block Y hl).trans h4
  exact⟨by simp[World.cell?,h5],by simp[World.cell?,h5],(q.cell (p:=⟨O,po,none⟩) I).trans ((A.cell (p:=⟨O,po,none⟩) qo).trans X),(q.cell (p:=⟨O,po+1,none⟩) I).trans ((A.cell (p:=⟨O,po+1,none⟩) qo).trans q8),aA hl q.size,aA I q.size⟩)
 have qm:=ah A
 clear X q8 h4 A
 refine aP (fun W=>W.cell? ⟨Y,0,none⟩=some (.pointer (some ⟨D,0,none⟩))/\W.cell? ⟨Y,1,none⟩=some (.pointer (some ⟨c,0,none⟩))/\W.cell? ⟨O,po,none⟩=some (.int .u8 (lo:Int))/\W.cell? ⟨O,po+1,none⟩=some (.int .u8 (P:Int))/\Y<W.heap.size/\O<W.heap.size) (fun i=> !([13,15].contains i)) [0,1,2,3,4,5,6,7,8,9,10,11,12,13,14,15,16,17] rfl (by kernel_rfl) (qy.out _ ((aJ _ r).drew)) ?_
 repeat ((refine bE (v:= ?_) rfl rfl (fun _ _ _ h=>h) rfl (fun W q=> ?_) ?_);rotate_left;(focus ((try dsimp only at q);obtain⟨a0,a1,a2,a3,a4,a5⟩:=q;(go_simp;first|done|with_reducible rfl)));(try simp only[Act.put,ak,ay,ax]))
 obtain⟨ms,kD⟩:∃ms:VS,ms=⟨D,E,d,c⟩:=⟨_,rfl⟩
 have di:=ah (S9 ms (a:Int) r.drew (by omega))
 rw[kD] at di
 refine bT rfl rfl rfl ?_;intro K hK;go_simp
 refine di.out.mono ?_;rintro e w5 ⟨rfl,qb,-,j4⟩
 have y:Below r.heap.size r w5:=((aJ _ r).drew).trans j4
 refine hK.out _ _ (qy.out _ y) ?_
 (try simp only[Act.put,ak,ay,ax])
 repeat ((refine bE (v:= ?_) rfl rfl (fun _ _ _ h=>h) rfl (fun W q=> ?_) ?_);rotate_left;(focus ((try dsimp only at q);obtain⟨a0,a1,a2,a3,a4,a5⟩:=q;(go_simp;first|done|with_reducible rfl)));(try simp only[Act.put,ak,ay,ax]))
 refine bT rfl rfl rfl ?_;intro K hK;go_simp
 have dM:=aG w5 (.cells #[.pointer (some ⟨D,0,none⟩),.pointer (some ⟨c,0,none⟩),.pointer (some ⟨r.heap.size,0,none⟩),.bool false,.int .i64 0] 181)
 have h6:=aH w5 (.cells #[.pointer (some ⟨D,0,none⟩),.pointer (some ⟨c,0,none⟩),.pointer (some ⟨r.heap.size,0,none⟩),.bool false,.int .i64 0] 181)
 have p9:=y.trans (dM.mono y.size)
 refine hK.out _ _ (qy.out _ p9) ?_
 (try simp only[Act.put,ak,ay,ax])
 repeat ((refine bE (v:= ?_) rfl rfl (fun _ _ _ h=>h) rfl (fun W q=> ?_) ?_);rotate_left;(focus ((try dsimp only at q);obtain⟨a0,a1,a2,a3,a4,a5⟩:=q;(go_simp;first|done|with_reducible rfl)));(try simp only[Act.put,ak,ay,ax]))
 refine bN ?_
 go_wp2_with fail
 go_ret2
 have t:=qm.out.trans (p9.mono qm.out.size)
 have af:=(aj.1 pV.out).1
 have av:∀g,T g->w.heap.size<=g:=d9
 have I:B.heap.size<=w3.heap.size:=Z.out.2.2.size
 have eZ:=H.out.2.2.1.size
 have bg:w3.heap.size<=r.heap.size:=qm.out.size
 have mr:r.heap.size<=w5.heap.size:=y.size
 have o:∀g,S g->g<B.heap.size:=fun g N=>aA (qc g N) eZ
 have j:∀g,T g->g<B.heap.size:=H.out.2.1.sub
 have C:B.heap.size<=c:=iO
 refine⟨w5.heap.size,r.heap.size,⟨D,E,d,c⟩,fun g=>S g\/T g\/g=c,rfl,rfl,rfl,h6,?_,⟨S,T,⟨kz.out,Z.out.1.below t,Z.out.2.1.below t,(t.block c af).trans pV.out,jb,fun e=>absurd (o c e) (aX.2 C),fun e=>absurd (j c e) (aX.2 C)⟩,fun g=>NK⟩,⟨?_,fun g N=> ?_⟩,?_,?_,?_,?_⟩
 ·exact(dM.block _ (aj.1 qb).1).trans qb
 ·refine(H.out.2.2.1.trans (Keep.of_below (Z.out.2.2.trans (t.mono I)) eG) (fun _ _ e=>e.elim))
 ·rcases N with N|N|N
  ·exact .inl N
  ·exact .inr (av g N)
  ·exact .inr (by rw[N];omega)
 ·rintro(e|e|e)
  ·have:=o _ e;omega
  ·have:=j _ e;omega
  ·omega
 ·rintro(e|e|e)
  ·have:=o _ e;omega
  ·have:=j _ e;omega
  ·omega
 ·omega
 ·omega
theorem GV:∀(l:List Int) (a:cK),(a.frees l).tk=a.tk
 |[],_=>rfl
 |y::l,a=>GV l (a.gone y)
theorem Jd {w:World}{t f:Nat}{g c:VS}{d:Option Nat}{j:Bool}{i a e:Int}(h:w.heap[t]? =some (.cells (cZ g d j i) 181 (0,0)))(b:bY w f c a e):t≠f:=by
 rintro rfl
 unfold bY at b
 rw[h] at b
 injection b with b
 injection b with _ h2
 exact absurd h2 (by decide)
theorem rX (l:List Int):(pG l).Perm l:=qM _ _
theorem Wx (t y:Nat)(j:VS)(c:Int)(C:Bool)(F:Int)(g:cK)(S:Nat->Prop)(w:World)(i l o r:List mH)(z:List Int)(a:ByteArray)(h:w.heap[t]? =some (.cells (cZ j (some y) C F) 181 (0,0)))(A:Inv g S j w)(K:bY w y j c 0)(G:Live g c i z)(hA:yQ i a l o r)(N:i.length<=4090)(J:1<=a.size/\a.size<=128):
  Calls Tryz.prog 492 #[.pointer (some ⟨t,0,none⟩),.string a] w fun e m=>e= .returned (.int .i64 0)/\∃b,Inv b S j m/\Step S S w m/\uG g b (dS o) []/\b.tk=g.tk:=by
 have s:(iw i).length<=4090:=by rw[gQ];exact N
 have d:rz ((dK (iw i) a).getD ⟨#[]⟩).data.toList=none->((dK (iw i) a).getD ⟨#[]⟩).size<=1000000->dS o=[]->Calls Tryz.prog 492 #[.pointer (some ⟨t,0,none⟩),.string a] w fun e m=>e= .returned (.int .i64 0)/\∃b,Inv b S j m/\Step S S w m/\uG g b (dS o) []/\b.tk=g.tk:=by
  intro k v n
  refine(Jb t y j c C F g S w (iw i) z a h A K G.tree s J k v).mono ?_
  rintro e m ⟨rfl,I⟩
  rw[n]
  exact⟨rfl,g,A.below I,Step.of_below I,uG.refl (fun x B=>by cases B),rfl⟩
 rcases hA.one with rfl|⟨e,rfl,Q⟩
 ·have f:dK (iw i) a=none:=hA.ls
  refine d ?_ ?_ rfl
  ·rw[f];rfl
  ·rw[f];exact aR _
 ·have f:dK (iw i) a=some e.s:=hA.ls
  have O:=G.val e (by rw[hA.eq];simp)
  have p:dS [e]=e.b:=by simp[dS]
  rcases O with ⟨k,v,n⟩|⟨q,H,k,v,n,M⟩
  ·refine d ?_ ?_ (by rw[p,n])
   ·rw[f,V8,k];exact uS _
   ·rw[f,V8,k]
    have:(strOf (0::e.v.data.toList)).size=e.v.size+1:=by show (0::e.v.data.toList).toArray.size=e.v.data.size+1;simp
    omega
  ·refine(Jc t y j c C F g S w (iw i) z a e.s q e.v.data.toList H h A K G.tree s J f (by rw[k];exact wV q v.1) (by rw[k];show [1,UInt8.ofNat q,UInt8.ofNat (q/256)].toArray.size<=_;simp) n).mono ?_
   rintro P m ⟨rfl,E,D⟩
   refine⟨rfl,_,E,D,?_,GV _ _⟩
   rw[p,M]
   exact(DX (pG (lV q H)) g (fun x B=>(n.all x ((Bo x).1 B)).1) ((rX _).nodup_iff.2 n.nd)).perm (rX _) (LG _)
structure Fg (w:World)(S:Nat->Prop)(t tr:Nat)(mp:VS)(σ:cK)(root err:Int)(ch:Bool)(er:Int):Prop where
 tx:w.heap[t]? =some (.cells (cZ mp (some tr) ch er) 181 (0,0))
 tree:bY w tr mp root err
 inv:Inv σ S mp w
 nt:¬S t
 ntr:¬S tr
theorem Fg.keep {w w':World}{S M:Nat->Prop}{t b:Nat}{i:VS}{f:cK}{a c:Int}{k:Bool}{j:Int}(h:Fg w S t b i f a c k j)(e:Keep M w w')(d:∀g,S g\/g=t\/g=b->¬M g):Fg w' S t b i f a c k j:=
 ⟨(e.block t (aj.1 h.tx).1 (d t (.inr (.inl rfl)))).trans h.tx,(e.block b (aj.1 h.tree).1 (d b (.inr (.inr rfl)))).trans h.tree,h.inv.nY e (fun g l=>d g (.inl l)),h.nt,h.ntr⟩
theorem Fg.below {w w':World}{S:Nat->Prop}{t i:Nat}{c:VS}{d:cK}{a b:Int}{g:Bool}{f:Int}(h:Fg w S t i c d a b g f)(j:Below w.heap.size w w'):Fg w' S t i c d a b g f:=h.keep (Keep.of_below j eG) (fun _ _ e=>e)
def kH (S S':Nat->Prop)(t tr:Nat)(w w':World):Prop:=Keep (fun g=>S g\/g=t\/g=tr) w w'/\∀g,S' g->S g\/w.heap.size<=g
theorem kH.of {S a:Nat->Prop}{t tr:Nat}{w b:World}(h:Step S a w b):kH S a t tr w b:=⟨h.1.mono (fun _ _ e=> .inl e),h.2⟩
theorem kH.trans {S i d:Nat->Prop}{t a:Nat}{w f c:World}(h:kH S i t a w f)(k:kH i d t a f c):kH S d t a w c:=
 ⟨h.1.trans k.1 (fun g b e=>e.elim (fun x=>(h.2 g x).elim .inl (fun y=>absurd b (aX.2 y))) .inr),fun g b=>(k.2 g b).elim (fun x=>h.2 g x) (fun x=> .inr (aI h.1.size x))⟩
theorem kH.one {S:Nat->Prop}{t b:Nat}{w a:World}(h:Keep (· =t) w a):kH S S t b w a:=⟨h.mono (fun _ _ e=> .inr (.inl e)),fun _ c=> .inl c⟩
theorem kH.tree {S a:Nat->Prop}{t b:Nat}{w c:World}(h:Keep (fun g=>S g\/g=b) w c)(d:∀g,a g->S g\/w.heap.size<=g):kH S a t b w c:=⟨h.mono (fun _ _ e=>e.imp id .inr),d⟩
def Ym (σ σ':cK)(tb:List Int)(c:Nat):Prop:=∀L,σ.sz+c<=L+nh σ tb->σ.tk<=L->σ'.tk<=L
def zS (t tr:Nat)(mp:VS)(S:Nat->Prop)(σ:cK)(ch:Bool)(w w':World):Prop:=
 ∃σ' S' root' err',Fg w' S' t tr mp σ' root' err' ch 12/\σ'.H=σ.H/\σ'.most=σ.most/\kH S S' t tr w w'
def kW (value:ByteArray):Nat:=if value.size<=63 then 0 else 1+Gi value.size
def Lp (t tr:Nat)(mp:VS)(S:Nat->Prop)(σ:cK)(es l r:List mH)(tb:List Int)(key value:ByteArray)(w w':World):Prop:=
 ∃σ' S' root' tb' s nb,Fg w' S' t tr mp σ' root' 0 true 0/\Live σ' root' (l++⟨key,s,value,nb⟩::r) tb'/\uG σ σ' (tb++dS es) (tb'++dS (l++⟨key,s,value,nb⟩::r))/\kH S S' t tr w w'/\Ym σ σ' tb (2*(es.length+1)+kW value)
theorem Ml (a:ByteArray):(⟨#[0]⟩:ByteArray)++a=strOf (0::a.data.toList):=by
 apply Q7
 rw[ByteArray.data_append]
 apply Ec.1
 rw[NV]
 rfl
theorem zl (t q:Nat)(n:VS)(b:Int)(p:Bool)(j:cK)(S:Nat->Prop)(w:World)(c l o r:List mH)(k:List Int)(a:ByteArray)(d:Fg w S t q n j b 0 p 0)(v:Live j b c k)(hA:yQ c a l o r)(z:c.length<=4090)(x:1<=a.size/\a.size<=128):
  Calls Tryz.prog 215 #[.pointer (some ⟨t,0,none⟩),.string a] w fun e y=>e= .returned (.tuple #[.string ((dK (gV c) a).getD ByteArray.empty),.bool (dK (gV c) a).isSome,.int .i64 0])/\Below w.heap.size w y:=by
 have i:(iw c).length<=4090:=by rw[gQ];exact z
 rcases hA.one with rfl|⟨e,rfl,A⟩
 ·have g:dK (iw c) a=none:=hA.ls
  have m:dK (gV c) a=none:=hA.lv
  have:=Ww t q n b p j S w (iw c) k a ByteArray.empty [] d.tx d.inv d.tree v.tree i x (fun s f=>by rw[g] at f;cases f)
  rw[g] at this
  rw[m]
  exact this
 ·have g:dK (iw c) a=some e.s:=hA.ls
  have m:dK (gV c) a=some e.v:=hA.lv
  have:=Ww t q n b p j S w (iw c) k a e.v e.b d.tx d.inv d.tree v.tree i x (fun s f=>by
   rw[g] at f;cases f
   exact v.val e (by rw[hA.eq];simp))
  rw[g] at this
  rw[m]
  exact this
theorem LV (t n:Nat)(j:VS)(c:Int)(k:Bool)(g:cK)(S:Nat->Prop)(w:World)(d l o r:List mH)(p:List Int)(b a:ByteArray)(m:Fg w S t n j g c 0 k 0)(B:Live g c d p)(hA:yQ d b l o r)(A:d.length<=4090)(z:1<=b.size/\b.size<=128)(C:a.size<=49152)(x:dK (gV d) b=some a):
  Calls Tryz.prog 411 #[.pointer (some ⟨t,0,none⟩),.string b,.string a] w fun e y=>e= .returned (.int .i64 0)/\Below w.heap.size w y:=by
 have q:=ah (vO t j n k 0 b w m.tx)
 have s:jZ 0 b=0:=by unfold jZ;rw[if_neg (by simp),if_neg (by omega)]
 rw[s] at q
 have f:=zl t n j c k g S w d l o r p b m B hA A z
 rw[x] at f
 have f:=ah f
 have D:¬(49152:Int)<(a.size:Int):=by omega
 clear m s
 go_enter Tryz.func411,Tryz.ntmps411
 go_wp2_with (first
  |(go_at_call 116;go_must (refine q.out.mono ?_;rintro e v ⟨rfl,rfl⟩))
  |(go_at_call 215;go_must (refine f.out.mono ?_;rintro e v ⟨rfl,i⟩)))
 go_ret
 exact⟨rfl,i⟩
theorem Ja (t tr:Nat)(M:VS)(d:Int)(Z:Bool)(n:cK)(S:Nat->Prop)(w:World)(q l o r:List mH)(Y:List Int)(c a:ByteArray)(hT:Fg w S t tr M n d 0 Z 0)(hL:Live n d q Y)(hA:yQ q c l o r)(hl:q.length<=4090)(hg:1<=c.size/\c.size<=128)(hv:a.size<=63)(v:Bool)(qC:ByteArray)(V:(dK (gV q) c).isSome=v/\(dK (gV q) c).getD ByteArray.empty=qC)(ai:v=true->(qC.toList==a.toList)=false)(hz:q.length<=999/\2+fM (jh (iw q) c (strOf (0::a.data.toList)))<=512):
  Calls Tryz.prog 411 #[.pointer (some ⟨t,0,none⟩),.string c,.string a] w fun e w'=>(e= .returned (.int .i64 0)/\Lp t tr M S n q l r Y c a w w')\/
   (e= .returned (.int .i64 12)/\n.most+nh n Y<n.sz+2*(q.length+1)+kW a/\zS t tr M S n Z w w'):=by
 have P:=Jd hT.tx hT.tree
 have HU:=ah (vO t M tr Z 0 c w hT.tx)
 have hu:jZ 0 c=0:=by unfold jZ;rw[if_neg (by simp),if_neg (by omega)]
 rw[hu] at HU
 have HG:=zl t tr M d Z n S w q l o r Y c hT hL hA hl hg
 rw[V.1,V.2] at HG
 have HG:=ah HG
 have x1:¬(49152:Int)<(a.size:Int):=by omega
 have x2:¬(63:Int)<(a.size:Int):=by omega
 have hb:kW a=0:=if_pos hv
 have l6:=ah hb
 have x0:=hv
 have K:=ah hT
 have lq:(iw q).length<=999:=by rw[gQ];exact hz.1
 have HZ:=ah hz.2;clear hz
 have lG:=hL.all
 have j5:=hL.own.nd
 have kD:∀x∈dS o,x∈dS q:=fun x hx=>by rw[hA.eq,mE,mE];simp[hx]
 have H:=hL.tree.count
 rw[gQ] at H
 have qO:=Gg n Y
 have F:(⟨#[0]⟩:ByteArray)++a=strOf (0::a.data.toList):=Ml a
 have p9:(strOf (0::a.data.toList)).size=a.size+1:=by show (0::a.data.toList).toArray.size=a.data.size+1;simp
 have eH:∀W:World,(Op.stringOp .add (⟨#[0]⟩:ByteArray) a).run Tryz.prog W= .ok (.string (strOf (0::a.data.toList))) W:=fun W=>by rw[<-F];exact iL W _ _ (by show ((1:Nat):Int)<=_;omega) (by omega)
 have fo:=ah p9;have dM:=ah F
 obtain⟨m,A⟩:∃s,Hid (strOf (0::a.data.toList)=s):=⟨_,ah rfl⟩
 rw[A.out] at eH fo dM HZ
 have T:=ah (au H (au qO hb))
 clear hT hu F p9 hb H qO
 go_enter Tryz.func411,Tryz.ntmps411
 go_wp2_with (first
  |(go_at_call 116;go_must (refine HU.out.mono ?_;rintro e w1 ⟨rfl,rfl⟩))
  |(go_at_call 215;go_must (refine HG.out.mono ?_;rintro e w1 ⟨rfl,qb⟩;refine Stop.of ?_)))
 refine Stop.on ?_
 have C:=K.out.below qb
 have jb:=(aj.1 C.tx).1
 have HD:=ah (Wx t tr M d Z 0 n S w1 q l o r Y c C.tx C.inv C.tree hL hA hl hg)
 have O:=ah (au C qb)
 clear C qb
 cases v
 all_goals
  try have ai:=ai rfl
  go_wp2_with (first
   |(go_at_call 492;go_must (refine HD.out.mono ?_;rintro e w2 ⟨rfl,B,q8,N,ql,af⟩;refine Stop.of ?_)))
  refine Stop.on ?_
  have D:Fg w2 S t tr M B d 0 Z 0:=⟨(N.1.block t jb K.out.nt).trans O.out.1.tx,(N.1.block tr (aj.1 O.out.1.tree).1 K.out.ntr).trans O.out.1.tree,q8,K.out.nt,K.out.ntr⟩
  have X:yS B d (iw q) Y:=hL.tree.keep ql (fun x hx=> .inl (fun e=>vS j5 x (kD x e) hx))
  have z:=(aj.1 D.tx).1
  have av:=ah ((kH.of (t:=t) (tr:=tr) (Step.of_below (S:=S) O.out.2)).trans (kH.of N))
  have Q:=ah ql
  have dn:=ah X
  clear q8 N ql X
  have q9:uG B B [] []:=uG.refl (fun x hx=>by cases hx)
  have bg:ValAt B m a []:= .inl ⟨A.out.symm,x0,rfl⟩
  have R:=ah (au q9 bg)
  clear q9 bg
  have lg:=ah (O6 tr M d B S (iw q) Y c m w2 D.inv D.tree K.out.ntr dn.out lq ⟨hg,by have:=fo.out;omega⟩ HZ.out)
  have c2:World.cell? w2 ⟨t,2,none⟩=some (.pointer (some ⟨tr,0,none⟩)):=by simp[World.cell?,D.tx,cZ]
  have d9:=ah D
  clear D
  go_wp2_with (first
   |(go_at_call 494;go_must (refine lg.out.mono ?_;rintro e w5 (⟨rfl,qm,S3,b3,J,I,G,eZ,y,k⟩|⟨rfl,E,qm,S3,J,I,G,bf,di,y,k⟩)<;>refine Stop.of ?_)))
  ·refine Stop.on ?_
   have b:=(y.block t z (fun e=>e.elim K.out.nt P)).trans d9.out.tx
   have j:¬S3 t:=fun e=>(k t e).elim K.out.nt (fun x=>absurd z (aX.2 x))
   have d3:w5.cell? ⟨t,3,none⟩=some (.bool Z):=by simp[World.cell?,b,cZ]
   have f3:w5.frozen? ⟨t,3,none⟩=false:=by simp[World.frozen?,b]
   have l5:=(aj.1 b).1
   have f:=ah (au b (au J (au I (au y k))))
   have iO:=ah eZ
   clear b J I y k eZ
   go_wp2_with fail
   go_ret
   have qc:Keep (· =t) w5 (w5.setCell ⟨t,3,none⟩ (.bool true)):=(Keep.refl (· =t) _).setCell (p:=⟨t,3,none⟩) (.inr rfl) _
   obtain⟨kz,j6,j4⟩:=PU hL hA Q.out R.out.1 R.out.2 iO.out
   refine .inl ⟨rfl,qm,S3,b3,kz,m,_,⟨?_,?_,f.out.2.1.nY qc (fun g hg e=>j (e▸hg)),j,G⟩,j6,j4,?_,fun L r t0=> ?_⟩
   ·simp[World.setCell,aK,f.out.1]
    rfl
   ·exact(qc.block tr (aj.1 f.out.2.2.1).1 (fun e=>P e.symm)).trans f.out.2.2.1
   ·exact(av.out.trans (kH.tree f.out.2.2.2.1 f.out.2.2.2.2)).trans (kH.one qc)
   ·obtain⟨_,_,_,jv,_⟩:=iO.out
    have i:=Q.out.trans R.out.1
    have kC:=i.size
    have lH:=Q.out.size
    have ko:=Gg n []
    have qo:=T.out
    have hz:nh n []=0:=rfl
    have h0:nh n []=0:=rfl
    rw[qo.2.2] at r
    refine jv L ?_ ?_
    ·unfold QI
     rw[Gh i.H,gQ]
     omega
    ·rw[af];exact t0
  ·refine Stop.on ?_
   have b:=(y.block t z (fun e=>e.elim K.out.nt P)).trans d9.out.tx
   have j:¬S3 t:=fun e=>(k t e).elim K.out.nt (fun x=>absurd z (aX.2 x))
   have j3:=ah (Uv t M (some tr) Z 0 12 w5 b)
   have f:=ah (au b (au J (au I (au y k))))
   have qf:=ah (au E (au bf di))
   clear b J I y k E bf di
   go_wp2_with (first
    |(go_at_call 333;go_must (refine j3.out.mono ?_;rintro e w6 ⟨rfl,h6,qy⟩)))
   go_ret
   have i:=Q.out.trans R.out.1
   refine .inr ⟨rfl,?_,qm,S3,d,12,⟨h6,(qy.block tr (aj.1 f.out.2.2.1).1 (fun e=>P e.symm)).trans f.out.2.2.1,f.out.2.1.nY qy (fun g hg e=>j (e▸hg)),j,G⟩,qf.out.2.1.trans i.H,qf.out.2.2.trans i.most,(av.out.trans (kH.tree f.out.2.2.2.1 f.out.2.2.2.2)).trans (kH.one qy)⟩
   have pV:=qf.out.1
   have kC:=i.size
   have ko:=Gg n []
   unfold Room at pV
   rw[Gh i.H,i.most,gQ] at pV
   have qo:=T.out
   have h0:nh n []=0:=rfl
   rw[qo.2.2]
   omega
def tZ (kv:List Pr)(key:ByteArray)(most:Int):List Pr:=(kv.drop (dI kv key)).take most.toNat
theorem aV.set2 {w:World}{S:Nat->Prop}{B g n c:Nat}{a:List Pr}(h:aV w S B 188 2 (.slice (some ⟨g,0,none⟩) n c) n (dG a))(i:Nat)(t:i<n)(s:a.length=n)(u:ByteArray):
  aV (w.setCell ⟨g,i*2+1,none⟩ (.string u)) S B 188 2 (.slice (some ⟨g,0,none⟩) n c) n (dG (a.set i (a[i].1,u)))/\Keep (· =g) w (w.setCell ⟨g,i*2+1,none⟩ (.string u))/\w.frozen? ⟨g,i*2+1,none⟩=false/\g<w.heap.size/\B<=g:=by
 obtain⟨b,e,q,o,d,j,r,m⟩:=h.row
 have l:Keep (· =g) w (w.setCell ⟨g,i*2+1,none⟩ (.string u)):=Keep.setCell (M:=(· =g)) (p:=⟨g,i*2+1,none⟩) (Keep.refl _ _) (.inr rfl) _
 have f:Row (w.setCell ⟨g,i*2+1,none⟩ (.string u)) g 188 (b.set (i*2+1) (.string u)):=by
  unfold Row at e ⊢
  simp[World.setCell,aK,e]
 refine⟨?_,l,e.frozen _,e.lt,d⟩
 have:=f.own (S:=S) (B:=B) (k:=2) (cap:=c) n (by simpa using q) d j r m
 rw[show (b.set (i*2+1) (.string u)).take (n*2)=dG (a.set i (a[i].1,u)) from by rw[<-zZ _ _ i (by omega),<-o,<-List.take_set]] at this
 exact this
def wu (es:List mH)(k:Nat):List Pr:=gV (es.take k)++iw (es.drop k)
theorem o6 (a:List mH)(k:Nat):(wu a k).length=a.length:=by
 unfold wu
 rw[aB,kV,gQ,aQ,bG];omega
theorem K4 (a:List mH)(k:Nat)(h:k<a.length):(wu a k)[k]'(by rw[o6];exact h)=(a[k].k,a[k].s):=by
 unfold wu
 have b:(gV (a.take k)).length=k:=by rw[kV,aQ];omega
 rw[qJ (by omega)]
 simp[iw,b]
theorem Py (a:List mH)(k:Nat)(h:k<a.length):(wu a k).set k (a[k].k,a[k].v)=wu a (k+1):=by
 unfold wu
 have b:(gV (a.take k)).length=k:=by rw[kV,aQ];omega
 have e:iw (a.drop k)=(a[k].k,a[k].s)::iw (a.drop (k+1)):=by rw[dB h];rfl
 rw[dO _ _ (by omega),b,kF,e,ay,aO h,mh]
 simp[gV]
theorem Pz (a:List mH):wu a a.length=gV a:=by unfold wu;simp[iw]
theorem MS (a:List mH):wu a 0=iw a:=by unfold wu;simp[gV]
theorem Mt (c:List mH)(b:ByteArray)(a:Int):∃d:List mH,(∀e∈d,e∈c)/\((iw c).drop (dI (iw c) b)).take a.toNat=iw d/\tZ (gV c) b a=gV d:=by
 refine⟨(c.drop (uz c b)).take a.toNat,fun e f=>wO (kK f),?_,?_⟩
 ·show ((iw c).drop (dI (iw c) b)).take a.toNat=_
  unfold iw
  rw[Ey (fun e=>(e.k,e.s)) (fun _=>rfl),iG,jy]
 ·unfold tZ gV
  rw[Ey (fun e=>(e.k,e.v)) (fun _=>rfl),iG,jy]
theorem Wt (t F:Nat)(Q:VS)(o:Int)(ch:Bool)(R:cK)(S:Nat->Prop)(w:World)(q:List mH)(tb:List Int)(j:ByteArray)(a:Int)(x:Fg w S t F Q R o 0 ch 0)(hL:Live R o q tb)(hl:q.length<=4090):
  Calls Tryz.prog 238 #[.pointer (some ⟨t,0,none⟩),.string j,.int .i64 a] w fun e w'=>∃v,e= .returned (.tuple #[v,.int .i64 0])/\aV w' S w.heap.size 188 2 v (tZ (gV q) j a).length (dG (tZ (gV q) j a))/\Below w.heap.size w w':=by
 have HU:=ah (vO t Q F ch 0 ⟨#[107]⟩ w x.tx)
 have hu:jZ 0 (⟨#[107]⟩:ByteArray)=0:=by decide
 rw[hu] at HU
 obtain⟨m,N,r,y⟩:=Mt q j a
 have D:=Dl F Q o R S (iw q) tb j a w x.inv x.tree hL.tree (by rw[gQ];exact hl)
 have r:((iw q).drop (dI (iw q) j)).take a.toNat=iw m:=r
 rw[r] at D
 have D:=ah D
 have pV:=ah (au N y)
 have c2:w.cell? ⟨t,2,none⟩=some (.pointer (some ⟨F,0,none⟩)):=by simp[World.cell?,x.tx,cZ]
 have qc:=(aj.1 x.tx).1
 have HT:=ah x
 rw[y,kV]
 obtain⟨n,V⟩:∃n,n=m.length:=⟨_,rfl⟩
 have J:=ah V
 rw[gQ,<-V] at D
 rw[<-V]
 clear x hu N r y V
 go_enter Tryz.func238,Tryz.ntmps238
 go_wp2_with (first
  |(go_at_call 116;go_must (refine HU.out.mono ?_;rintro e w1 ⟨qo,rfl⟩;subst w1))
  |(go_at_call 82;go_must (refine D.out.mono ?_;rintro e w1 ⟨v,rfl,b,A⟩;refine Stop.of ?_)))
 refine Stop.on ?_
 obtain⟨ao,cp,rfl,_,_,_,_⟩:=bq.form b.dM
 rw[<-MS] at b
 have Z:=ah b;have qb:=ah A
 clear b A
 go_wp2_with fail
 go_loopw [10,11,12,35] (fun e _ _ i wr=>∃k:Nat,k<=n/\e= .int .i64 0/\i= .int .i64 k/\aV wr S w.heap.size 188 2 (.slice ao n cp) n (dG (wu m k))/\Below w.heap.size w wr) (fun _ _ _ i _=>n - (intOf i).toNat)
 case atStart=>exact⟨0,aR _,rfl,rfl,Z.out,qb.out⟩
 case round=>
  obtain⟨k,hk,rfl,rfl,f,s⟩:=hrel
  by_cases I:k<n
  ·have y1:(k:Int)<(n:Int):=by omega
   obtain⟨g,c,e,qm,qf,ql,W⟩:=f.DL (by omega)
   cases e
   have l:k<m.length:=by rw[<-J.out];exact I
   have hP:sQ wr S (.slice (some ⟨g,0,none⟩) n cp) (wu m k):=by
    have:=f.dM
    unfold sQ
    rw[o6,<-J.out];exact this
   obtain⟨pb,po,e1,d0,T⟩:=hP.at rfl k (by rw[o6];exact l)
   cases e1
   rw[K4 m k l] at d0 T
   rw[fZ] at d0 T
   obtain⟨E,hE⟩:∃E,Hid (m[k]=E):=⟨_,ah rfl⟩
   rw[hE.out] at d0 T
   have G:E∈q:=pV.out.1 E (by rw[<-hE.out];exact bJ l)
   have HV:=ah (hL.val E G)
   have z:=HT.out.below s
   have p9:=ah f;have B:=ah s;have H:=ah z
   have X:=(aj.1 z.tx).1
   clear f s z hP
   go_wp2_with (first
    |(go_at_call 334;go_must (refine(Oo t Q (some F) ch 0 R S _ E.s E.v E.b (((aG wr (.cells #[.string E.k,.string E.s] 188)).block t X).trans H.out.tx) (H.out.inv.below (aG wr (.cells #[.string E.k,.string E.s] 188))) HV.out).mono ?_;rintro e Y ⟨C,rfl⟩;refine Stop.of ?_)))
   refine Stop.on ?_
   have d:Below wr.heap.size wr Y:=(aG wr (.cells #[.string E.k,.string E.s] 188)).trans (C.mono (by simp))
   have M:=p9.out.below d
   obtain⟨u1,u2,u3,u4,u5⟩:=M.set2 k I (by rw[o6,<-J.out]) E.v
   have u0:Y.cell? ⟨g,k*2+1,none⟩=some (.string E.s):=(d.cell (p:=⟨g,k*2+1,none⟩) W).trans T
   have O:(wu m k).set k (((wu m k)[k]'(by rw[o6];exact l)).1,E.v)=wu m (k+1):=by
    rw[K4 m k l,<-hE.out]
    exact Py m k l
   rw[O] at u1
   have P:Below w.heap.size w (Y.setCell ⟨g,k*2+1,none⟩ (.string E.v)):=(B.out.trans (d.mono B.out.size)).setCell (by simpa using u5) _
   have K:=ah (au u1 P)
   clear u1 u2 M d C O P
   go_wp2_with fail
   go_roundw
   case rel=>exact⟨k+1,by omega,rfl,by go_num,K.out.1,K.out.2⟩
   case measure=>simp[intOf];omega
  ·obtain rfl:k=n:=by omega
   have y1:¬(k:Int)<(k:Int):=by omega
   rw[J.out,Pz] at f
   go_wp2_with fail
   go_ret2
   exact⟨_,rfl,by rw[J.out];exact f,s⟩
theorem Ou (t y:Nat)(a:VS)(A:Bool)(D:Int)(m:cK)(S:Nat->Prop)(u:FrameMode)(w:World)(h:w.heap[t]? =some (.cells (cZ a (some y) A D) 181 (0,0)))(b:Inv m S a w)(k:¬S t):
  CallsD Tryz.prog 56 #[.pointer (some ⟨t,0,none⟩)] u w fun e F o=>F=u/\e= .returned (.tuple #[])/\(∃c,iF o c a.pg a.d m.H.dk m.H.lg m.H.pg (.pointer none)/\∀g,c g->S g)/\o.heap[t]? =some (.cells (cZ a none A D) 181 (0,0))/\Keep (fun g=>S g\/g=t) w o:=by
 obtain⟨c,T,b,n⟩:=b
 have K:w.cell? ⟨t,0,none⟩=some (.pointer (some ⟨a.tx,0,none⟩)):=by simp[World.cell?,h,cZ]
 have I:w.cell? ⟨t,2,none⟩=some (.pointer (some ⟨y,0,none⟩)):=by simp[World.cell?,h,cZ]
 have v:=(aj.1 h).1
 have G:=ah (UH a.tx a.pg a.d _ _ _ _ _ _ c T w b.pg b.tx b.dis)
 have E:=ah h
 have B:=ah n
 have i:¬c t:=fun x=>k ((n t).2 (.inl x))
 have z:¬T t:=fun x=>k ((n t).2 (.inr (.inl x)))
 clear h b n
 go_enter_d Tryz.func56,Tryz.ntmps56
 go_wp2_with (first
  |(go_at_call 93;go_must (refine G.out.mono ?_;rintro e l ⟨rfl,s,_,j⟩;refine Stop.of ?_)))
 refine Stop.on ?_
 have d:=(j.block t v (fun e=>e.elim i z)).trans E.out
 have C:=(aj.1 d).1
 have H:l.cell? ⟨t,2,none⟩=some (.pointer (some ⟨y,0,none⟩)):=by simp[World.cell?,d,cZ]
 have J:l.frozen? ⟨t,2,none⟩=false:=by simp[World.frozen?,d]
 have r:=ah d
 clear d
 go_wp2_with fail
 go_end0
 have f:Keep (· =t) l (l.setCell ⟨t,2,none⟩ (.pointer none)):=(Keep.refl (· =t) _).setCell (p:=⟨t,2,none⟩) (.inr rfl) _
 refine⟨rfl,⟨c,s.keep f (fun g q e=>i (e▸q)),fun g q=>(B.out g).2 (.inl q)⟩,?_,?_⟩
 ·simp[World.setCell,aK,r.out]
  rfl
 ·exact(j.mono (fun g _ e=> .inl ((B.out g).2 (e.imp id .inl)))).trans (f.mono (fun g _ e=> .inr e)) (fun _ _ e=>e)
theorem pW (t f:Nat)(a:VS)(c:Bool)(g:Int)(u:FrameMode)(w:World)(h:w.heap[t]? =some (.cells (cZ a (some f) c g) 181 (0,0)))(b:Iz w a.tx):
  CallsD Tryz.prog 56 #[.pointer (some ⟨t,0,none⟩)] u w fun e k d=>k=u/\e= .returned (.tuple #[])/\d.heap[t]? =some (.cells (cZ a none c g) 181 (0,0))/\Keep (· =t) w d:=by
 have r:w.cell? ⟨t,0,none⟩=some (.pointer (some ⟨a.tx,0,none⟩)):=by simp[World.cell?,h,cZ]
 have o:w.cell? ⟨t,2,none⟩=some (.pointer (some ⟨f,0,none⟩)):=by simp[World.cell?,h,cZ]
 have q:w.frozen? ⟨t,2,none⟩=false:=by simp[World.frozen?,h]
 have m:=(aj.1 h).1
 have l:=ah (Jm a.tx w b)
 have j:=ah h
 clear h b
 go_enter_d Tryz.func56,Tryz.ntmps56
 go_wp2_with (first
  |(go_at_call 93;go_must (refine l.out.mono ?_;rintro e i ⟨rfl,n⟩;subst i)))
 go_end0
 refine⟨rfl,?_,(Keep.refl (· =t) _).setCell (p:=⟨t,2,none⟩) (.inr rfl) _⟩
 simp[World.setCell,aK,j.out]
 rfl
theorem vE (f:Nat->Bool):(bytesOf f).length=512:=by
 have:=fF f
 rwa [bC] at this
theorem Vj (b:VS)(a:cK)(S:Nat->Prop)(w:World)(h:Inv a S b w):
  Calls Tryz.prog 119 #[.pointer (some ⟨b.mp,0,none⟩),.iface 123 (.pointer (some ⟨b.tx,0,none⟩))] w fun e f=>e= .returned (.int .i64 0)/\Inv (a.wrote 0 (bytesOf a.now)) S b f/\Step S S w f:=by
 obtain⟨k,T,h,m⟩:=h
 have j:=h.ok.most
 have n:=h.ok.two
 have c:=h.tx
 rw[j] at c
 refine(Rt b.tx b.pg b.d b.mp a.most a.now a.H.old a.H.dk a.H.lg a.H.pg _ a.im k T w h.pg c h.ok.live (by omega) h.map).mono ?_
 rintro e f ⟨rfl,l,i⟩
 rw[<-j] at l
 exact⟨rfl,⟨k,T,⟨h.ok.wrote 0 (bytesOf a.now) (vE _) (by omega) (.inl (by omega)),h.pg.keep i.1 (fun g d e=>h.dis g d e),l,h.map.keep (i.1.block _ h.map.lt h.mpT),h.dis,h.mpS,h.mpT⟩,m⟩,i.1.mono (fun g _ e=>(m g).2 (.inr (.inl e))),fun g d=> .inl d⟩
theorem K5 (b:VS)(a:cK)(S:Nat->Prop)(w:World)(h:Inv a S b w)(j:a.H.lg.dead=false)(c:a.H.dk.waits.length<=90000)(k:a.H.lg.last<1000000000000):
  Calls Tryz.prog 53 #[.pointer (some ⟨b.tx,0,none⟩)] w fun e i=>e= .returned (.tuple #[.int .i64 (a.H.pg.commit a.H.dk a.H.lg a.im).2.2.2.1,.int .i64 (a.H.pg.commit a.H.dk a.H.lg a.im).2.2.2.2])/\
   ∃f,iF i f b.pg b.d (a.H.pg.commit a.H.dk a.H.lg a.im).1 (a.H.pg.commit a.H.dk a.H.lg a.im).2.1 (a.H.pg.commit a.H.dk a.H.lg a.im).2.2.1 (.pointer none)/\Iz i b.tx/\Step S f w i:=by
 obtain⟨r,T,h,m⟩:=h
 have q:=h.ok.most
 have d:=h.tx
 rw[q] at d
 refine(KR b.tx b.pg b.d a.H.dk a.H.lg a.H.pg _ a.im r T w h.pg d h.dis h.ok.live j c k).mono ?_
 rintro e i ⟨rfl,f,o,n,l⟩
 refine⟨rfl,f,o,n,l.1.mono (fun g _ e=>(m g).2 (e.imp id .inl)),fun g p=> ?_⟩
 exact(l.2 g (.inl p)).imp (fun e=>(m g).2 (e.imp id .inl)) id
def qH (t:Nat)(mp:VS)(S:Nat->Prop)(σ:cK)(ch:Bool)(im:Im)(w:World)(e:Ending)(w':World):Prop:=
 e= .returned (.tuple (if (σ.H.pg.commit σ.H.dk σ.H.lg im).2.2.2.2=0 then #[.int .i64 (((σ.H.pg.commit σ.H.dk σ.H.lg im).2.2.2.1:Int) - 1),.int .i64 0] else #[.int .i64 0,.int .i64 (σ.H.pg.commit σ.H.dk σ.H.lg im).2.2.2.2]))/\
 ∃S',iF w' S' mp.pg mp.d (σ.H.pg.commit σ.H.dk σ.H.lg im).1 (σ.H.pg.commit σ.H.dk σ.H.lg im).2.1 (σ.H.pg.commit σ.H.dk σ.H.lg im).2.2.1 (.pointer none)/\w'.heap[t]? =some (.cells (cZ mp none ch 0) 181 (0,0))/\¬S' t/\Keep (fun g=>S g\/g=t) w w'/\∀g,S' g->S g\/w.heap.size<=g
theorem Ei (t A:Nat)(l:VS)(y:Int)(b:cK)(S:Nat->Prop)(w:World)(m:Fg w S t A l b y 0 false 0)(F:b.H.lg.dead=false)(z:b.H.dk.waits.length<=90000)(G:b.H.lg.last<1000000000000)(K:(b.H.pg.commit b.H.dk b.H.lg b.im).2.2.2.1<=1000000000000):
  Calls Tryz.prog 62 #[.pointer (some ⟨t,0,none⟩)] w (qH t l S b false b.im w):=by
 have D:=ah (vO t l A false 0 ⟨#[107]⟩ w m.tx)
 have J:jZ 0 (⟨#[107]⟩:ByteArray)=0:=by decide
 rw[J] at D
 have r:=K5 l b S w m.inv F z G
 unfold qH
 generalize C:b.H.pg.commit b.H.dk b.H.lg b.im=R at r K ⊢
 obtain⟨N,Q,W,k,q⟩:=R
 dsimp only at r K ⊢
 have r:=ah r
 have X:w.cell? ⟨t,0,none⟩=some (.pointer (some ⟨l.tx,0,none⟩)):=by simp[World.cell?,m.tx,cZ]
 have V:w.cell? ⟨t,3,none⟩=some (.bool false):=by simp[World.cell?,m.tx,cZ]
 have j:=(aj.1 m.tx).1
 have T:IntKind.i64.wrap ((k:Int) - 1)=(k:Int) - 1:=aM _ (by omega)
 have p:=ah m
 clear m J C
 by_cases I:q=0
 ·subst I
  go_enter_defers Tryz.func62,Tryz.ntmps62
  go_wp2_with (first
   |(go_at_call 116;go_must (refine D.out.mono ?_;rintro e s ⟨H,rfl⟩;subst s))
   |(go_at_call 53;go_must (refine r.out.mono ?_;rintro e s ⟨rfl,v,n,o,a⟩)))
  have d:=(a.1.block t j p.out.nt).trans p.out.tx
  have c:¬v t:=fun e=>(a.2 t e).elim p.out.nt (fun x=>absurd j (aX.2 x))
  refine fe (f:=56) (args:=#[.pointer (some ⟨t,0,none⟩)]) (by simp) (by simp[go_sem]) ?_
  refine(pW t A l false 0 _ _ d o).mono ?_
  rintro e O M ⟨rfl,rfl,B,i⟩
  exact⟨_,by simp[results,IY,go_sem],rfl,v,n.keep i (fun g E e=>c (e▸E)),B,c,(a.1.mono (fun g _ e=> .inl e)).trans (i.mono (fun g _ e=> .inr e)) (fun _ _ e=>e),a.2⟩
 ·have P:(q !=0)=true:=by simpa using I
  go_enter_defers Tryz.func62,Tryz.ntmps62
  go_wp2_with (first
   |(go_at_call 116;go_must (refine D.out.mono ?_;rintro e s ⟨H,rfl⟩;subst s))
   |(go_at_call 53;go_must (refine r.out.mono ?_;rintro e s ⟨rfl,v,n,o,a⟩)))
  have d:=(a.1.block t j p.out.nt).trans p.out.tx
  have c:¬v t:=fun e=>(a.2 t e).elim p.out.nt (fun x=>absurd j (aX.2 x))
  refine fe (f:=56) (args:=#[.pointer (some ⟨t,0,none⟩)]) (by simp) (by simp[go_sem]) ?_
  refine(pW t A l false 0 _ _ d o).mono ?_
  rintro e O M ⟨rfl,rfl,B,i⟩
  exact⟨.tuple #[.int .i64 0,.int .i64 q],by simp[results,IY,go_sem],rfl,v,n.keep i (fun g E e=>c (e▸E)),B,c,(a.1.mono (fun g _ e=> .inl e)).trans (i.mono (fun g _ e=> .inr e)) (fun _ _ e=>e),a.2⟩
theorem zV {R:Ending->World->Prop}{d:Nat}(e:d≠2)(b:d≠3){c:List PanicEntry}{a:Act}{v:Value}{w:World}(h:bodyPostD Tryz.prog Tryz.f62 R (.panic c) (a.put (some d) v) w):bodyPostD Tryz.prog Tryz.f62 R (.panic c) a w:=by
 refine o8 ?_ _ _ _ (show Leaves Tryz.prog Tryz.f62 (a.tmps.setIfInBounds d v) R a.defers (.panicking c) w from h)
 unfold results
 rw[IY]
 simp[za,kT,e,b]
def nV (root:Nat):List UInt8:=[UInt8.ofNat root,UInt8.ofNat (root/256)]
theorem JE (a:Nat)(d:a<65536)(w:World):fA (w.alloc (.cells #[.int .u8 ((a:Int)%256),.int .u8 ((a:Int)/256)] 5)) eG (.slice (some ⟨w.heap.size,0,none⟩) 2 2) (nV a):=by
 have b:[Value.int .u8 ((a:Int)%256),.int .u8 ((a:Int)/256)]=aF (nV a):=by
  simp[nV,aF,dZ]
  omega
 have c:Row (w.alloc (.cells #[.int .u8 ((a:Int)%256),.int .u8 ((a:Int)/256)] 5)) w.heap.size 5 (aF (nV a)):=by
  rw[<-b];exact Row.new w _ _
 have:=c.dM (S:=eG) (k:=1) (off:=0) 2 2 (by simp[aF,nV]) id (aC _) (by simp[maxLen])
 rw[dY,aL (by simp[aF,nV])] at this
 exact this
def cK.sealed (σ:cK)(root:Nat):cK:=(σ.wrote 1 (pad (nV root))).wrote 0 (bytesOf σ.now)
theorem Eh (t O:Nat)(n:VS)(b:Nat)(d:cK)(S:Nat->Prop)(w:World)(A:Fg w S t O n d b 0 true 0)(hr:b<=4096)(qc:d.H.lg.dead=false)(Q:d.H.dk.waits.length<=90000)(qf:d.H.lg.last<1000000000000)(hk:(d.H.pg.commit d.H.dk d.H.lg (d.sealed b).im).2.2.2.1<=1000000000000):
  Calls Tryz.prog 62 #[.pointer (some ⟨t,0,none⟩)] w (qH t n S d true (d.sealed b).im w):=by
 have HU:=ah (vO t n O true 0 ⟨#[107]⟩ w A.tx)
 have hu:jZ 0 (⟨#[107]⟩:ByteArray)=0:=by decide
 rw[hu] at HU
 have HR:=ah (SY O n b 0 w A.tree)
 have E:=aG w (.cells #[.int .u8 ((b:Int)%256),.int .u8 ((b:Int)/256)] 5)
 have h2:=A.inv.ok.two
 have HW:=ah (CZ n d S _ 1 _ (nV b) (A.inv.below E) (by omega) (JE b (by omega) w) (by simp[nV]) (.inl (by omega)))
 have qm:=ah E
 have q0:IntKind.i64.wrap ((b:Int)/256)=(b:Int)/256:=aM _ (by omega)
 have c0:w.cell? ⟨t,0,none⟩=some (.pointer (some ⟨n.tx,0,none⟩)):=by simp[World.cell?,A.tx,cZ]
 have c2:w.cell? ⟨t,2,none⟩=some (.pointer (some ⟨O,0,none⟩)):=by simp[World.cell?,A.tx,cZ]
 have c3:w.cell? ⟨t,3,none⟩=some (.bool true):=by simp[World.cell?,A.tx,cZ]
 have qb:=(aj.1 A.tx).1
 have J:=ah A
 clear A hu E
 go_enter_defers Tryz.func62,Tryz.ntmps62
 go_wp2_with (first
  |(go_at_call 116;go_must (refine HU.out.mono ?_;rintro e p ⟨ql,rfl⟩;subst p))
  |(go_at_call 117;go_must (refine HR.out.mono ?_;rintro e p ⟨rfl,ql⟩;subst p))
  |(go_at_call 118;go_must (refine HW.out.mono ?_;rintro e p ⟨rfl,P,T⟩;refine Stop.of ?_)))
 refine Stop.on ?_
 have N:Step S S w p:=(Step.of_below qm.out).trans T
 have j:=(N.1.block t qb J.out.nt).trans J.out.tx
 have D:=(aj.1 j).1
 have d0:p.cell? ⟨t,0,none⟩=some (.pointer (some ⟨n.tx,0,none⟩)):=by simp[World.cell?,j,cZ]
 have d1:p.cell? ⟨t,1,none⟩=some (.pointer (some ⟨n.mp,0,none⟩)):=by simp[World.cell?,j,cZ]
 have B:=Vj n (d.wrote 1 (pad (nV b))) S p.drew (P.below ((aJ _ p).drew))
 have p9:(d.wrote 1 (pad (nV b))).wrote 0 (bytesOf (d.wrote 1 (pad (nV b))).now)=d.sealed b:=rfl
 rw[p9] at B
 have B:=ah B
 have pV:=ah (au j N)
 clear j N p9 P T
 go_upto_region 11 with (fail)
 refine aP (fun W=>W.cell? ⟨t,0,none⟩=some (.pointer (some ⟨n.tx,0,none⟩))/\W.cell? ⟨t,1,none⟩=some (.pointer (some ⟨n.mp,0,none⟩))/\t<W.heap.size) (fun i=> !([11].contains i)) [0,1,2,3,4,5,6,7,8,9,10,11,12] rfl (by kernel_rfl) ⟨d0,d1,D⟩ ?_
 repeat ((refine bE (v:= ?_) rfl rfl ?_ rfl (fun W X=> ?_) ?_);rotate_left;(focus (exact fun c a w h=>zV (by decide) (by decide) h));(focus ((try dsimp only at X);obtain⟨a0,a1,a2⟩:=X;(go_simp;first|done|with_reducible rfl)));(try simp only[Act.put,ak,ay,ax]))
 refine bT rfl rfl rfl ?_;intro K hK;go_simp
 refine B.out.mono ?_;rintro e w2 ⟨rfl,Y,M⟩
 have l:=(M.1.block t D J.out.nt).trans pV.out.1
 have m:=(aj.1 l).1
 have g0:w2.cell? ⟨t,0,none⟩=some (.pointer (some ⟨n.tx,0,none⟩)):=by simp[World.cell?,l,cZ]
 have g1:w2.cell? ⟨t,1,none⟩=some (.pointer (some ⟨n.mp,0,none⟩)):=by simp[World.cell?,l,cZ]
 refine hK.out _ _ ⟨g0,g1,m⟩ ?_
 (try simp only[Act.put,ak,ay,ax])
 repeat ((refine bE (v:= ?_) rfl rfl ?_ rfl (fun W X=> ?_) ?_);rotate_left;(focus (exact fun c a w h=>zV (by decide) (by decide) h));(focus ((try dsimp only at X);obtain⟨a0,a1,a2⟩:=X;(go_simp;first|done|with_reducible rfl)));(try simp only[Act.put,ak,ay,ax]))
 refine bN ?_
 have F:=K5 n (d.sealed b) S w2 Y qc Q qf
 have hH:(d.sealed b).H=d.H:=rfl
 rw[hH] at F
 obtain⟨R,G⟩:∃R,d.H.pg.commit d.H.dk d.H.lg (d.sealed b).im=R:=⟨_,rfl⟩
 obtain⟨qo,l',p',k,q⟩:=R
 rw[G] at F hk
 have V:=ah G
 dsimp only at F hk
 have F:=ah F
 have q1:IntKind.i64.wrap ((k:Int) - 1)=(k:Int) - 1:=aM _ (by omega)
 have C:=ah (au l (pV.out.2.trans (((Step.of_below ((aJ _ p).drew)):Step S S p p.drew).trans M)))
 clear G hH Y M l
 by_cases hq:q=0
 ·subst hq
  go_wp2_with (first
   |(go_at_call 53;go_must (refine F.out.mono ?_;rintro e w3 ⟨rfl,Z,H,I,o⟩)))
  have r:=(o.1.block t m J.out.nt).trans C.out.1
  have y:¬Z t:=fun e=>(o.2 t e).elim J.out.nt (fun x=>absurd m (aX.2 x))
  refine fe (f:=56) (args:=#[.pointer (some ⟨t,0,none⟩)]) (by simp) (by simp[go_sem]) ?_
  refine(pW t O n true 0 _ _ r I).mono ?_
  rintro e u' w4 ⟨rfl,rfl,h4,s⟩
  have z:=C.out.2.trans o
  refine⟨.tuple #[.int .i64 ((k:Int) - 1),.int .i64 0],by simp[results,IY,go_sem],?_⟩
  unfold qH
  rw[V.out]
  exact⟨rfl,Z,H.keep s (fun g hg e=>y (e▸hg)),h4,y,(z.1.mono (fun g _ e=> .inl e)).trans (s.mono (fun g _ e=> .inr e)) (fun _ _ e=>e),z.2⟩
 ·have qy:(q !=0)=true:=by simpa using hq
  go_wp2_with (first
   |(go_at_call 53;go_must (refine F.out.mono ?_;rintro e w3 ⟨rfl,Z,H,I,o⟩)))
  have r:=(o.1.block t m J.out.nt).trans C.out.1
  have y:¬Z t:=fun e=>(o.2 t e).elim J.out.nt (fun x=>absurd m (aX.2 x))
  refine fe (f:=56) (args:=#[.pointer (some ⟨t,0,none⟩)]) (by simp) (by simp[go_sem]) ?_
  refine(pW t O n true 0 _ _ r I).mono ?_
  rintro e u' w4 ⟨rfl,rfl,h4,s⟩
  have z:=C.out.2.trans o
  refine⟨.tuple #[.int .i64 0,.int .i64 q],by simp[results,IY,go_sem],?_⟩
  unfold qH
  rw[V.out]
  exact⟨by dsimp only;rw[if_neg hq],Z,H.keep s (fun g hg e=>y (e▸hg)),h4,y,(z.1.mono (fun g _ e=> .inl e)).trans (s.mono (fun g _ e=> .inr e)) (fun _ _ e=>e),z.2⟩
end Go.Proofs.YtpmbddooibgnaaaGreatDoor
