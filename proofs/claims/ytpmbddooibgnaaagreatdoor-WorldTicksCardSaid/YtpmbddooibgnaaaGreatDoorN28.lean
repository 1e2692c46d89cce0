/- parts -/
import Derived.Test.YtpmbddooibgnaaaGreatDoorN7
import Derived.Test.YtpmbddooibgnaaaGreatDoorN26
import Derived.Test.YtpmbddooibgnaaaGreatDoorN27
set_option maxRecDepth 100000
set_option maxHeartbeats 8000000
set_option linter.all false
namespace Go.Proofs.YtpmbddooibgnaaaGreatDoor
open Go.RowKit
def NE (w:World)(S:Nat->Prop)(v:Value)(ks:List Bool):Prop:=∃ao c,v= .slice ao ks.length c/\ks.length<=c/\c<=maxLen/\∀j (h:j<ks.length),∃b o,ao=some ⟨b,o,none⟩/\w.cell? ⟨b,o+j,none⟩=some (.bool ks[j])/\¬S b
theorem NE.nil (w:World)(S:Nat->Prop):NE w S (.slice none 0 0) []:=⟨none,0,rfl,aC _,aR _,fun j h=>by simp at h⟩
theorem Kh (d:Nat)(b:Dk)(S:Nat->Prop)(n:Nat)(wv:Value)(v:Value)(f:List Bool)(D:World)(M:nS D S d b n wv)(hv:NE D S v f):
  Calls Tryz.prog 74 #[.pointer (some ⟨d,0,none⟩),v] D fun e w'=>e= .returned (.tuple #[])/\nS w' S d (b.mD f) n (.slice none 0 0)/\Step S S D w':=by
 obtain⟨wo,wc,rfl,g1,g2,g3,g4⟩:=bq.form M.own.dM
 obtain⟨vo,vc,rfl,v1,v2,v3⟩:=id hv
 obtain⟨c0,c1,_,_,o,j6⟩:=M.cells
 have HV:=ah v3;clear hv v3
 have bg:=ah (show ∀g (i:Nat) (u:Value),D.cell? ⟨g,i,none⟩=some u->g<D.heap.size from fun g i u h=>aD D _ h)
 go_enter Tryz.func74,Tryz.ntmps74
 go_wp2_with fail
 go_loopw [13] (fun i wr=>∃k:Nat,k<=b.waits.length/\i= .int .i64 k/\nS wr S d (b.tY f k) n (.slice wo b.waits.length wc)/\Keep (· =n) D wr) (fun i _=>b.waits.length - (intOf i).toNat)
 case atStart=>exact⟨0,aR _,rfl,by rw[b.Mk];exact M,Keep.refl _ _⟩
 case round=>
  obtain⟨k,hk,rfl,a,q⟩:=hrel
  by_cases o:k<b.waits.length
  ·obtain⟨g,lG,fo,H,l5,l6,lH⟩:=a.wait k o
   cases fo
   obtain⟨x,HX⟩:∃x,Hid (wr.heap.size=x):=⟨_,ah rfl⟩
   have ql:=a.ok.wt _ (bJ o)
   obtain⟨p,HP⟩:∃p,Hid (b.waits[k]=p):=⟨_,ah rfl⟩
   have H:wr.rangeAt g (k*513) (fq p):=by rw[<-HP.out];exact H
   have dn:p.1<b.n:=by rw[<-HP.out];exact ql.1
   have Y:=ah (show p.2.length=512 by rw[<-HP.out];exact ql.2)
   have m:=ah (iH Y.out)
   have N:∀v∈fq p,v.oneCell'=true:=EA p
   have q8:Row (wr.alloc (.cells (fq (0,zB)).toArray 241)) wr.heap.size 241 (fq (0,zB)):=Row.new wr _ _
   have af:=ah (show (fq (0,zB)).length=513 from iH gG)
   have kD:(k:Int)<(b.waits.length:Int):=by omega
   go_wp2_with (first
    |((refine bS rfl ?_);intro K hK;(refine QX 241 _ rfl g (k*513) rfl (fq p) _ H Tryz.underlying241 rfl (nE.trans (congrArg some m.out.symm)) ?_);refine hK _ _ ?_)
    |((refine bS rfl ?_);intro K hK;(refine gZ 241 rfl _ wR ?_);refine hK _ _ ?_)
    |((refine bS rfl ?_);intro K hK;(refine wp_store_row 241 _ _ rfl wr.heap.size 0 241 _ (fq p) rfl rfl q8 (nE.trans (congrArg some m.out.symm)) (by rw[af.out,m.out];omega) N ?_);intro t r pV;refine hK _ _ (Stop.of ?_)))
   refine Stop.on ?_
   rw[kZ _ _ (af.out.trans m.out.symm),HX.out] at r
   rw[HX.out] at pV
   have F:Keep (· =x) wr t:=((Keep.refl (· =x) wr).alloc (.cells (fq (0,zB)).toArray 241)).trans pV (fun _ _ e=>e)
   have eZ:¬S x:=fun e=>absurd (a.sub x e) (by rw[HX.out];exact cO _)
   have I:=a.below F (fun y V e=>eZ (e▸V))
   obtain⟨j5,_,_,_,qy,_⟩:=I.cells
   have l7:t.cell? ⟨x,0,none⟩=some (.int .i64 (p.1:Int)):=r.whole 0 _ rfl
   have q9:t.rangeAt x 1 (aF p.2):=fun y u hu=>by
    rw[uj 1]
    have:=r.whole (y+1) u hu
    rwa [fZ] at this
   have lg:=r.lt
   have E:=ah (show (aF p.2).length=512 by rw[bC,Y.out])
   have B:=fO p.2
   generalize hC:aF p.2=C at q9 E B
   have HC:=ah hC;clear hC
   rw[HX.out]
   clear q8 r pV N H
   obtain⟨cur,T,qO⟩:=I.row
   have qc:Row t.drew n 239 cur:=T
   have dM:=ah qO;clear qO
   have j4:(p.1:Int)<((b.tY f k).n:Int):=by show (p.1:Int)<(b.n:Int);omega
   have R:Keep (· =n) D t:=q.trans F (fun y V e=>absurd (aA V q.size) (by rw[e,HX.out];exact cO _))
   have l:=ah R;have ko:=ah F;have X:=ah I;have ai:=ah q
   clear R F I q
   by_cases G:k<f.length
   ·have qo:(k:Int)<(f.length:Int):=by omega
    obtain⟨vb,vq,rfl,z,bf⟩:=HV.out k G
    have p9:t.cell? ⟨vb,vq+k,none⟩=some (.bool f[k]):=(l.out.cell (p:=⟨vb,vq+k,none⟩) (bg.out _ _ _ z) (fun e=>bf (by have e:vb=n:=e;rw[e];exact M.sg))).trans z
    clear z bf
    have kz:vb<t.heap.size:=aD t _ p9
    cases O:f[k] with
    |false=>
     rw[O] at p9
     have s:f.getD k false=false:=by rw[fE,bB G,O];rfl
     have Z:=ah s;clear s
     have HB:=ah O;clear O
     go_wp2_with fail
     go_roundw
     case rel=>
      have j:=b.KJ f k o Z.out
      exact⟨k+1,by omega,by go_num,by rw[j];exact X.out,l.out⟩
     case measure=>simp[intOf];omega
    |true=>
     rw[O] at p9
     have P:f.getD k false=true:=by rw[fE,bB G,O];rfl
     have qC:=ah P;clear P
     have HB:=ah O;clear O
     go_wp2_with fail
     refine aP (fun W=>W=t.drew) (fun i=> !([9].contains i)) [0,1,2,3,4,5,6,7,8,9] rfl (by kernel_rfl) rfl ?_
     repeat ((refine bE (v:= ?_) rfl rfl (fun _ _ _ h=>h) rfl (fun W hW=> ?_) ?_);rotate_left;(focus ((try dsimp only at hW);subst hW;(go_simp;first|done|with_reducible rfl)));(try simp only[Act.put,ak,ay,ax]))
     refine bE (v:= .agg C.toArray) rfl rfl (fun _ _ _ h=>h) rfl (fun W hW=> ?_) ?_
     ·subst hW
      exact jA 239 (.tmp 34) rfl x 1 rfl C _ q9 Tryz.underlying239 rfl (tF.trans (congrArg some E.out.symm))
     simp only[Act.put,ak,ay,ax]
     repeat ((refine bE (v:= ?_) rfl rfl (fun _ _ _ h=>h) rfl (fun W hW=> ?_) ?_);rotate_left;(focus ((try dsimp only at hW);subst hW;(go_simp;first|done|with_reducible rfl)));(try simp only[Act.put,ak,ay,ax]))
     refine jR rfl rfl rfl (by kernel_rfl) ?_;intro K hK
     refine wp_store_row 239 (.tmp 36) (.tmp 35) rfl n (p.1*512) 239 cur C rfl rfl qc (tF.trans (congrArg some E.out.symm)) (by rw[E.out,dM.out];show _<=b.n*512;omega) B ?_
     intro w3 qf c
     refine hK.out _ _ ?_
     refine bN ?_
     go_wp2_with fail
     rw[<-HC.out] at qf
     have qb:=X.out.lay p.1 p.2 dn Y.out cur T qf (((Keep.refl (· =n) t).drew).trans c (fun _ _ e=>e))
     have Q:Keep (· =n) D w3:=l.out.trans (((Keep.refl (· =n) t).drew).trans c (fun _ _ e=>e)) (fun _ _ e=>e)
     have j:=b.OO f k o qC.out
     rw[HP.out] at j
     rw[<-j] at qb
     have d9:=ah qb;have di:=ah Q
     clear qb c Q j
     go_roundw
     case rel=>exact⟨k+1,by omega,by go_num,d9.out,di.out⟩
     case measure=>simp[intOf];omega
   ·have qo:¬((k:Int)<(f.length:Int)):=by omega
    have jb:decide (k<f.length)=false:=by simpa using G
    have s:f.getD k false=false:=by rw[fE,List.getElem?_eq_none (by omega)];rfl
    have Z:=ah s;clear s
    go_wp2_with fail
    go_roundw
    case rel=>
     have j:=b.KJ f k o Z.out
     exact⟨k+1,by omega,by go_num,by rw[j];exact X.out,l.out⟩
    case measure=>simp[intOf];omega
  ·obtain rfl:k=b.waits.length:=by omega
   obtain⟨_,_,_,_,qy,A⟩:=a.cells
   have jv:=A 1 (by omega)
   have j3:=A 2 (by omega)
   have iO:=A 3 (by omega)
   have eH:=a.obj
   have qm:=ah a;have ai:=ah q
   clear a q
   obtain⟨_,_,kC,lq,_,_⟩:=qm.out.cells
   go_wp2_with fail
   go_end0
   have a:=qm.out
   obtain⟨w9,J⟩:∃x:World,x=(((wr.setCell ⟨d,1,none⟩ (.slice none 0 0)).setCell ⟨d,2,none⟩ (.int .i64 (-1))).setCell ⟨d,3,none⟩ (.bool false)):=⟨_,rfl⟩
   have c:Keep (· =d) wr w9:=by
    rw[J]
    exact(((Keep.refl (· =d) wr).setCell (p:=⟨d,1,none⟩) (.inr rfl) _).setCell (p:=⟨d,2,none⟩) (.inr rfl) _).setCell (p:=⟨d,3,none⟩) (.inr rfl) _
   have av:w9.heap[d]? =some (.cells #[.slice (some ⟨n,0,none⟩) b.n b.n,.slice none 0 0,.int .i64 (-1),.bool false] 134 (0,0)):=by
    rw[J]
    simp[World.setCell,aK,eH]
    rfl
   rw[<-J]
   clear J
   refine⟨rfl,?_,(ai.out.mono (fun _ _ e=>e▸a.sg)).trans c (fun _ _ e=>e▸a.sd),fun _ hg=> .inl hg⟩
   rw[<-b.OP]
   refine⟨⟨a.ok.lo,a.ok.hi,a.ok.sec,(fun p hp=>by cases hp),?_⟩,fun y V=>aA (a.sub y V) c.size,a.sd,a.sg,a.ne,av,?_,fun i hi y u hu=> ?_,aV.nil _ _ _ _ _,(fun y V=>by cases V)⟩
   ·show (-1:Int)<=-1/\(-1:Int)<=9223372036854775807
    omega
   ·obtain⟨C,h1,h2⟩:=a.blk
    exact⟨C,(c.block n (a.sub _ a.sg) a.ne).trans h1,h2⟩
   ·exact(c.cell (p:=⟨n,i*512+y,none⟩) (a.sub _ a.sg) a.ne).trans (a.sec i hi y u hu)
theorem Ni (d:Nat)(b:Dk)(S:Nat->Prop)(v:Value)(a:List Bool)(w:World)(h:qL w S d b)(f:NE w S v a):
  Calls Tryz.prog 74 #[.pointer (some ⟨d,0,none⟩),v] w fun e w'=>e= .returned (.tuple #[])/\qL w' S d (b.mD a)/\Step S S w w':=by
 obtain⟨c,j,h⟩:=h
 refine(Kh d b S c j v a w h f).mono ?_
 rintro e w' ⟨rfl,i,g⟩
 exact⟨rfl,⟨c,_,i⟩,g⟩
theorem Live.WA {b a:cK}{c:Int}{i:List mH}{g:List Int}(h:Live b c i g)(j:∀x,a.hasB x=b.hasB x)(n:∀x,b.hasB x=true->a.mem x=b.mem x)(p:∀x,a.held x=b.held x)(l:a.sz=b.sz)(m:countB a.H.old a.most=countB b.H.old b.most):Live a c i g:=by
 have f:∀x∈g++dS i,a.hasB x=true/\a.mem x=b.mem x:=fun x d=>⟨(j x).trans (h.all x d).1,n x (h.all x d).1⟩
 refine⟨?_,fun e k=>(h.val e k).keep fun x d=>f x (cB _ (qg.2 ⟨e,k,d⟩)),⟨h.own.nd,fun x d=>h.own.ex x ((j x).symm.trans d),?_⟩⟩
 ·rcases h.tree with h|⟨h,o⟩
  ·exact .inl h
  ·exact .inr ⟨h,o.move fun x d=>f x (dH _ d)⟩
 ·rw[l,m,h.own.size]
  unfold nh
  congr 3
  funext x
  rw[p]
theorem Tz {d:Dk}{l:Lg}{p:Pg}{f:Nat->Bool}{c:Nat}{r:List mH}{q:List Int}{N:Nat}{C:Nat->List UInt8}(hB:yP d l p f c)(A:Live (cK.start d l p f) c r q)(e:p.blocks d=N)(hC:∀b,b<N->C b=p.look Im.none d b):VC N C f c r q:=fun a t i g z o j=>by
 have m:∀b,b<N->i.look Im.none a b=p.look Im.none d b:=fun b h=>(j b h).trans (hC b h)
 have s:=hB.two
 rw[e] at s
 have y:∀x,(cK.start a t i f).hasB x=(cK.start d l p f).hasB x:=fun x=>by
  show (decide (0<=x) && (decide (x.toNat<i.blocks a) && f x.toNat))=(decide (0<=x) && (decide (x.toNat<p.blocks d) && f x.toNat))
  rw[g,e]
 refine⟨⟨o,z,by rw[g];exact s,(m 0 (by omega)).trans hB.map,fun b h=>hB.hi b (by rw[e,<-g];exact h),hB.f0,hB.f1,by rw[m 1 (by omega)];exact hB.root⟩,A.WA y (fun x v=> ?_) (fun _=>rfl) ?_ ?_⟩
 ·obtain⟨n,rfl,k,_⟩:=cK.lH v
  have k:n<p.blocks d:=k
  exact m _ (by rw[dz,<-e];exact k)
 ·show (cK.start a t i f).sz=(cK.start d l p f).sz
  unfold cK.start
  rw[g,e]
  rfl
 ·show countB f (i.blocks a)=countB f (p.blocks d)
  rw[g,e]
def DV (w0:gW)(d log N dn u:Nat)(kv:List Pr)(w:World):Prop:=
 ∃Sd σ C f root es tb l ims,qL w Sd d σ/\VB w0 w Sd/\σ.dead=false/\σ.fuel= -1/\σ.waits=[]/\σ.n=N+log/\pR σ.get l (fC ims)/\l.n=log/\l.last=dn+1/\(∀im∈ims,im.NN N)/\(∀b,b<N->C b=oC ims (fun b=>σ.get (log+b)) b)/\VC N C f root es tb/\gV es=kv/\(tb++dS es).length=u
section
variable {w0:gW} {w:World} {v d log N R dn u:Nat} {kv:List Pr}
def Jr (d:Nat):Nat->Dk->Lg->Pg->Prop:=fun x σ l _=>x=d/\σ.fuel= -1/\l.synced=l.last
theorem DV.to (h:DV w0 d log N dn u kv w){D:Nat->Dk->Lg->Pg->Prop}:DV (w0.to D) d log N dn u kv w:=by
 obtain⟨g,c,C,f,a,i,e,l,b,k,m,j⟩:=h
 exact⟨g,c,C,f,a,i,e,l,b,k,m.to,j⟩
theorem qK.sync (h:qK w0 v N R dn u kv w)(P:dn<=100000000)(B:Nat->Dk->Lg->Pg->Prop)(G:∀d g l p,w0.D d g l p->g.fuel= -1)(I:∀d g l p a j,w0.D d g l p->TW g l p a j->B d a j p):
  Calls Tryz.prog 33 #[.pointer (some ⟨v,0,none⟩)] w fun e w'=>e= .returned (.int .i64 0)/\qK (w0.to B) v N R dn u kv w':=by
 obtain⟨S,x,t,g,l,p,f,k,F,E,hA,hB,r,s,D,H,M,J⟩:=h
 obtain⟨K,O,m⟩:=hA.pgr.ok
 rcases UK hA.vi (by omega) with ⟨a,j,y,c⟩|⟨_,_,_,c⟩
 ·refine(Ws v x t g l p _ S w hA.obj hA.pgr ?_).mono ?_
  ·have r:=hA.vi.wt;have s:=m.us;have D:=m.hi;omega
  rw[y]
  rintro e w' ⟨rfl,z,i,A⟩
  have i:iF w' z x t a j p (.pointer none):=i
  have q:=Tz (C:=fun b=>p.look Im.none g b) hA.base hA.live s (fun _ _=>rfl)
  have o:p.blocks a=N:=by rw[<-s];unfold Pg.blocks;rw[c.n]
  have n:=q a j p o c.vj.nd c.vj.pd fun b _=>c.look Im.none b
  exact⟨rfl,z,x,t,a,j,p,f,k,F,E,hA.step i A c.vj n.1 n.2,(hB.step A).to,⟨r.1,I _ _ _ _ _ _ r.2 c⟩,o,D,c.last.trans H,M,J⟩
 ·exact absurd (G _ _ _ _ r.2) c.fu
theorem DV.open_ (h:DV w0 d log N dn u kv w)(R:6<=log)(h2:8<=N)(hd:dn<=100000000)(X:kv.length<=4090)(V:∀i l p,Jr d d i l p->w0.D d i l p):
  Calls Tryz.prog 75 #[.pointer (some ⟨d,0,none⟩),.int .i64 log] w fun e w'=>∃v,e= .returned (.tuple #[.pointer (some ⟨v,0,none⟩),.int .i64 0])/\qK w0 v N (log - 1) dn u kv w':=by
 obtain⟨Z,i,C,f,a,A,z,l,r,hK,hB,P,G,g3,g4,T,g6,g7,Y,J,j,k,q⟩:=h
 have o:i.n - log=N:=by omega
 refine(Wu d i Z log l r C f a A z w hK P g3 R (by omega) T g6 (by rw[o];exact Y) (by rw[o];exact J) (by rw[o];exact j) (by omega) (by rw[<-kV,k];exact X)).mono ?_
 rintro e w' (⟨v,pg,c,B,x,H,rfl,hv,y,s,S,K,D,Q,F,b4,O,W,E,b8,b9,t,m⟩|⟨_,_,_,_,_,_,M,_⟩)
 ·have g:x.blocks c=N:=by unfold Pg.blocks;rw[O,b9,o]
  have n:=j c B x g D F fun b I=>m.look b (by rw[g];exact I)
  exact⟨v,rfl,H,pg,d,c,B,x,f,a,A,z,⟨hv,y,S,⟨D,Q,F,by rw[W];exact aR _,fun _=>⟨_,m⟩⟩,n.1,n.2⟩,hB.step K,⟨hB.new s,V _ _ _ ⟨rfl,b4 G,b8.trans E.symm⟩⟩,g,t,by rw[E,g7],k,q⟩
 ·exact absurd G M
end
def Aa (d N dn u:Nat)(kv:List Pr):Nat->Dk->Lg->Pg->Prop:=fun x σ l p=>x=d/\σ.fuel= -1/\l.synced=dn+1/\∃C f root es tb,mK σ l p C/\VC N (C (dn+1)) f root es tb/\gV es=kv/\(tb++dS es).length=u
theorem JW (d N dn u:Nat)(kv:List Pr):Keeps (Aa d N dn u kv) N dn:=⟨fun _ _ _ _ h=>h.2.1,fun _ x o l p i r v ⟨j,g,y,C,f,a,c,b,k,n,m⟩ t _ ⟨_,_,_,_,_,q,_⟩=>by
 have s:=q.uE;have z:=q.syl
 refine⟨j,q.fu g,by omega,_,f,a,c,b,q.Av C k,?_,m⟩
 have e:∀x,yD C (l.last+1) x (dn+1)=C (dn+1):=fun x=>by unfold yD;rw[if_neg (by omega)]
 rw[e]
 exact n⟩
section
variable {w0:gW} {w:World} {v d N R dn u dn0 u0:Nat} {kv kv0:List Pr}
theorem qK.past (h:qK w0 v N R dn u kv w)(A:dn<=100000000)(t:∀x c l p,w0.D x c l p->Jr d x c l p):qK (w0.to (Aa d N dn u kv)) v N R dn u kv w:=by
 obtain⟨S,y,r,c,l,p,f,a,k,j,hA,hB,m,e,z,g,o,n⟩:=h
 obtain⟨rfl,i,s⟩:=t _ _ _ _ m.2
 obtain⟨C,hC⟩:=hA.vi.rc (by omega)
 refine⟨S,y,r,c,l,p,f,a,k,j,hA,hB.to,⟨m.1,rfl,i,s.trans g,C,f,a,k,j,hC,Tz hA.base hA.live e fun b q=> ?_,o,n⟩,e,z,g,o,n⟩
 have:=(hC.look b (by rw[e];exact q)).symm
 rwa [g] at this
theorem qK.lose (h:qK w0 v N R dn u kv w)(T:∀x j l p,w0.D x j l p->Aa d N dn0 u0 kv0 x j l p)(x:Value)(n:List Bool)(E:∀c:Nat->Prop,VB w0 w c->NE w c x n):
  Calls Tryz.prog 74 #[.pointer (some ⟨d,0,none⟩),x] w fun e w'=>e= .returned (.tuple #[])/\DV w0 d (R+1) N dn0 u0 kv0 w':=by
 obtain⟨S,pg,H,j,l,p,f,B,es,tb,hA,hB,P,A,h3,h4,h5,h6⟩:=h
 obtain⟨rfl,pV,O,C,W,i,y,t,⟨z,a,D⟩,r,Y,V⟩:=T _ _ _ _ P.2
 obtain⟨c,Sl,Sp,lg,fb,k,I⟩:=hA.pgr
 have q:p.skip=R+1:=by have:=k.ok.ring;have:=k.ok.skip;omega
 have G:j.n=N+(R+1):=by have:=k.ok.fit;have:=k.ok.skip;unfold Pg.blocks at A;omega
 have m:VB w0 w c:=hB.keep (Keep.refl (fun _=>False) _) (fun _ _ e=>e) (fun g Q=> .inl ((I g).2 (.inl Q)))
 refine(Ni H j c x n w k.log.dk (E c m)).mono ?_
 rintro e w' ⟨rfl,s,J⟩
 have b:=(a.recs _ ⟨n,rfl⟩).Av D (aC _) a.lok.sy
 rw[O,q,A] at b
 obtain⟨F,o,Z,r2,M,X,K⟩:=b
 exact⟨rfl,c,j.mD n,C (dn0+1),W,i,y,t,F,o,s,m.step J,rfl,rfl,rfl,G,Z,r2,M,X,K,r,Y,V⟩
theorem DV.reopen (h:DV w0 d (R+1) N dn u kv w)(f:6<=R+1)(g:8<=N)(a:dn<=100000000)(i:kv.length<=4090):
  Calls Tryz.prog 75 #[.pointer (some ⟨d,0,none⟩),.int .i64 ((R+1:Nat):Int)] w fun e w'=>∃v,e= .returned (.tuple #[.pointer (some ⟨v,0,none⟩),.int .i64 0])/\qK (w0.to (Aa d N dn u kv)) v N R dn u kv w':=
 (DV.open_ (w0:=w0.to (Jr d)) h.to f g a i fun _ _ _ h=>h).mono fun e w' ⟨v,c,b⟩=>⟨v,c,qK.past (w0:=w0.to (Jr d)) (R:=R) b a fun _ _ _ _ h=>h⟩
theorem qK.WG (h:qK w0 v N R dn u kv w)(c:dn<=100000000)(b:∀x a l p,w0.D x a l p->x=d/\a.fuel= -1):
  Calls Tryz.prog 33 #[.pointer (some ⟨v,0,none⟩)] w fun e w'=>e= .returned (.int .i64 0)/\qK (w0.to (Aa d N dn u kv)) v N R dn u kv w':=
 (h.sync c (Jr d) (fun x a l p e=>(b x a l p e).2) (fun x a l p i j e q=>⟨(b x a l p e).1,q.fu (b x a l p e).2,q.uE.trans q.last.symm⟩)).mono fun e w' ⟨g,f⟩=>⟨g,qK.past (w0:=w0.to (Jr d)) f c fun _ _ _ _ h=>h⟩
end
end Go.Proofs.YtpmbddooibgnaaaGreatDoor
namespace Go.Proofs.YtpmbddooibgnaaaGreatDoor
open Go.RowKit Go.Shelf
def NM (d log v sb:Nat)(now dr:Int):List Value:=[.pointer (some ⟨d,0,none⟩),.int .i64 (log:Int),.pointer (some ⟨v,0,none⟩),.pointer (some ⟨sb,0,none⟩),.int .i64 now,.int .i64 dr]
def nG (w:World)(wb d log v sb:Nat)(now dr:Int):Prop:=w.heap[wb]? =some (.cells (NM d log v sb now dr).toArray 114 (0,0))
section
variable {w w':World} {wb d log v sb:Nat} {now dr:Int} {M:Nat->Prop}
theorem nG.lt (h:nG w wb d log v sb now dr):wb<w.heap.size:=(aj.1 h).1
theorem nG.keep (h:nG w wb d log v sb now dr)(a:Keep M w w')(b:¬M wb):nG w' wb d log v sb now dr:=(a.block wb h.lt b).trans h
theorem nG.cells (h:nG w wb d log v sb now dr):w.cell? ⟨wb,0,none⟩=some (.pointer (some ⟨d,0,none⟩))/\w.cell? ⟨wb,1,none⟩=some (.int .i64 (log:Int))/\w.cell? ⟨wb,2,none⟩=some (.pointer (some ⟨v,0,none⟩))/\w.cell? ⟨wb,3,none⟩=some (.pointer (some ⟨sb,0,none⟩))/\w.cell? ⟨wb,4,none⟩=some (.int .i64 now)/\w.cell? ⟨wb,5,none⟩=some (.int .i64 dr)/\(∀i,w.frozen? ⟨wb,i,none⟩=false)/\wb<w.heap.size:=by
 have a:=h.lt
 unfold nG at h
 exact⟨by simp[World.cell?,h,NM],by simp[World.cell?,h,NM],by simp[World.cell?,h,NM],by simp[World.cell?,h,NM],by simp[World.cell?,h,NM],by simp[World.cell?,h,NM],fun i=>by simp[World.frozen?,h],a⟩
theorem nG.XR (h:nG w wb d log v sb now dr)(a:Nat):nG (w.setCell ⟨wb,2,none⟩ (.pointer (some ⟨a,0,none⟩))) wb d log a sb now dr:=by
 unfold nG at h ⊢
 simp[World.setCell,aK,h,NM]
theorem nG.qP (h:nG w wb d log v sb now dr)(a:Nat):nG (w.setCell ⟨wb,3,none⟩ (.pointer (some ⟨a,0,none⟩))) wb d log v a now dr:=by
 unfold nG at h ⊢
 simp[World.setCell,aK,h,NM]
theorem nG.XT (h:nG w wb d log v sb now dr)(x:Int):nG (w.setCell ⟨wb,4,none⟩ (.int .i64 x)) wb d log v sb x dr:=by
 unfold nG at h ⊢
 simp[World.setCell,aK,h,NM]
theorem nG.XU (h:nG w wb d log v sb now dr)(x:Int):nG (w.setCell ⟨wb,5,none⟩ (.int .i64 x)) wb d log v sb now x:=by
 unfold nG at h ⊢
 simp[World.setCell,aK,h,NM]
end
theorem si (w:World)(b i:Nat)(x:Value):Keep (· =b) w (w.setCell ⟨b,i,none⟩ x):=(Keep.refl (· =b) w).setCell (p:=⟨b,i,none⟩) (.inr rfl) _
def Sj (b:Bool):List Pr:=if b then II else[]
def CB (b:Bool):Nat:=if b then 1 else 0
theorem Si (b:Bool):(Sj b).length<=4090:=by
 cases b
 ·exact aR _
 ·exact bF (by kernel_rfl)
theorem Ke (b:Bool):CB b<=100000000:=by cases b<;>decide
def Cr (F:Nat->Prop)(d v N R:Nat)(past cur:Bool)(w:World):Prop:=
 ∃u u0,qK ⟨F,w,Aa d N (CB past) u0 (Sj past)⟩ v N R (CB cur) u (Sj cur) w/\(cur=false->u=0)/\(past=false->u0=0)
section
variable {F M:Nat->Prop} {d v N R:Nat} {past cur:Bool} {w w':World}
theorem Cr.next (h:Cr F d v N R past cur w)(b:Keep M w w')(a:∀g,M g->F g):Cr (fun g=>F g\/(w.heap.size<=g/\g<w'.heap.size)) d v N R past cur w':=by
 obtain⟨u,u0,h,e⟩:=h
 exact⟨u,u0,h.next b a,e⟩
theorem Cr.fs (h:Cr F d v N R past cur w){g:Nat}(a:F g):g<w.heap.size:=by
 obtain⟨u,u0,h,e⟩:=h
 exact h.fs a
theorem Cr.alive (h:Cr F d v N R past cur w):
  Calls Tryz.prog 73 #[.pointer (some ⟨d,0,none⟩)] w fun e w'=>e= .returned (.bool false)/\w'=w:=by
 obtain⟨u,u0,h,e⟩:=h
 obtain⟨S,A,c,b,l,p,f,a,n,m,hA,hB,i,q,C,t,y,x⟩:=h
 obtain⟨rfl,k,_⟩:=i.2
 obtain⟨j,o,z,s,B,g,r⟩:=hA.pgr
 have:=TU c b j w g.log.dk
 rwa [hA.vi.nd] at this
theorem Cr.done (h:Cr F d v N R past cur w):
  Calls Tryz.prog 45 #[.pointer (some ⟨v,0,none⟩)] w fun e w'=>e= .returned (.int .i64 (CB cur:Int))/\w'=w:=by
 obtain⟨u,u0,h,e⟩:=h
 exact h.done (Ke cur)
theorem Cr.sync (h:Cr F d v N R past cur w):
  Calls Tryz.prog 33 #[.pointer (some ⟨v,0,none⟩)] w fun e w'=>e= .returned (.int .i64 0)/\Cr F d v N R cur cur w'/\Keep (fun g=>¬F g) w w':=by
 obtain⟨u,u0,h,b,j⟩:=h
 refine(h.WG (d:=d) (Ke cur) fun x i l p q=>⟨q.1,q.2.1⟩).mono ?_
 rintro e w' ⟨c,a⟩
 exact⟨c,⟨u,u,a.re fun g f=>f,b,b⟩,a.BS⟩
theorem Cr.mD (h:Cr F d v N R past cur w):
  Calls Tryz.prog 74 #[.pointer (some ⟨d,0,none⟩),.slice none 0 0] w fun e w'=>e= .returned (.tuple #[])/\(∃u0,DV ⟨F,w,Aa d N (CB past) u0 (Sj past)⟩ d (R+1) N (CB past) u0 (Sj past) w'/\(past=false->u0=0))/\Keep (fun g=>¬F g) w w':=by
 obtain⟨u,u0,h,e⟩:=h
 refine(h.lose (d:=d) (fun _ _ _ _ q=>q) (.slice none 0 0) [] fun c _=>NE.nil w c).mono ?_
 rintro i w' ⟨b,a⟩
 refine⟨b,⟨u0,a,e.2⟩,?_⟩
 obtain⟨_,_,_,_,_,_,_,_,_,_,h,_⟩:=a
 exact⟨h.os,h.tape,h.output,h.size,fun k _ f=>h.block k (Un.1 f)⟩
end
def Gl (g:Nat):Prop:=g=2\/g=gP.g 3\/g=gP.g 4\/g=3
def XE (on:Option Nat):Value:=match on with|none=> .int .u32 0|some _=> .int .u32 1
def XF (on:Option Nat):Value:=match on with|none=> .slice none 0 0|some k=> .slice (some ⟨k,0,none⟩) 600 600
structure WI (F G:Nat->Prop)(wb d v sb N R:Nat)(now dr:Int)(past cur:Bool)(l0:jW)(T:List jW)(on:Option Nat)(w:World):Prop where
 vs:Cr F d v N R past cur w
 wd:nG w wb d (R+1) v sb now dr
 sv:ji w sb (.pointer (some ⟨v,0,none⟩)) (l0::T) (XE on) (.int .i32 0) (XF on)
 tl:T.length=15/\∀l∈T,l.n=0/\l.held=⟨#[]⟩/\l.out=⟨#[]⟩
 gf:∀g,G g->F g
 nw:F wb/\¬G wb/\F sb/\¬G sb/\wb≠sb
 gl:∀g,Gl g->G g
 tb:kg w/\jV w/\mZ w
 nr:12<=N/\5<=R
section
variable {F G M:Nat->Prop} {wb d v sb N R:Nat} {now dr:Int} {past cur:Bool} {l0:jW} {T:List jW} {on:Option Nat} {w w':World}
theorem jr (h:kg w/\jV w/\mZ w)(b:Keep M w w')(a:∀g,M g->¬Gl g):kg w'/\jV w'/\mZ w':=
 ⟨h.1.nY b (fun e=>a _ e (.inr (.inl rfl))) (fun e=>a _ e (.inr (.inr (.inl rfl)))),h.2.1.keep b (fun e=>a _ e (.inr (.inr (.inr rfl)))),h.2.2.keep b (fun e=>a _ e (.inl rfl))⟩
theorem WI.len (h:WI F G wb d v sb N R now dr past cur l0 T on w):(l0::T).length=16:=by rw[aZ,h.tl.1]
theorem WI.V4 (h:WI F G wb d v sb N R now dr past cur l0 T on w):¬Gl wb/\¬Gl sb:=⟨fun e=>h.nw.2.1 (h.gl _ e),fun e=>h.nw.2.2.2.1 (h.gl _ e)⟩
theorem WI.TM (h:WI F G wb d v sb N R now dr past cur l0 T on w){g:Nat}(a:w.heap.size<=g):¬Gl g:=fun x=>absurd (h.vs.fs (h.gf _ (h.gl _ x))) (aX.2 a)
theorem WI.ng (h:WI F G wb d v sb N R now dr past cur l0 T on w){g:Nat}(a:w.heap.size<=g):¬G g:=fun x=>absurd (h.vs.fs (h.gf _ x)) (aX.2 a)
theorem WI.step (h:WI F G wb d v sb N R now dr past cur l0 T on w)(b:Keep M w w')(a:∀g,M g->F g/\g≠wb/\g≠sb/\¬Gl g):
  ∃c,(∀g,F g->c g)/\(∀g,w.heap.size<=g->g<w'.heap.size->c g)/\WI c G wb d v sb N R now dr past cur l0 T on w':=
 ⟨_,fun _ e=> .inl e,fun _ f i=> .inr ⟨f,i⟩,h.vs.next b fun g e=>(a g e).1,h.wd.keep b fun e=>(a _ e).2.1 rfl,h.sv.keep b fun e=>(a _ e).2.2.1 rfl,h.tl,fun g e=> .inl (h.gf g e),⟨.inl h.nw.1,h.nw.2.1,.inl h.nw.2.2.1,h.nw.2.2.2.1,h.nw.2.2.2.2⟩,h.gl,jr h.tb b fun g e=>(a g e).2.2.2,h.nr⟩
theorem WI.below (h:WI F G wb d v sb N R now dr past cur l0 T on w)(b:Below w.heap.size w w'):
  ∃a,(∀g,F g->a g)/\(∀g,w.heap.size<=g->g<w'.heap.size->a g)/\WI a G wb d v sb N R now dr past cur l0 T on w':=h.step (Keep.of_below b (fun _=>False)) fun _ e=>e.elim
theorem WI.OV {j:jW}{b:List jW}{a:Option Nat}(h:WI F G wb d v sb N R now dr past cur l0 T on w)(i:Keep M w w')(c:∀g,M g->F g/\g≠wb/\¬Gl g)(n:ji w' sb (.pointer (some ⟨v,0,none⟩)) (j::b) (XE a) (.int .i32 0) (XF a))(m:b.length=15/\∀l∈b,l.n=0/\l.held=⟨#[]⟩/\l.out=⟨#[]⟩):
  ∃f,(∀g,F g->f g)/\(∀g,w.heap.size<=g->g<w'.heap.size->f g)/\WI f G wb d v sb N R now dr past cur j b a w':=
 ⟨_,fun _ e=> .inl e,fun _ k o=> .inr ⟨k,o⟩,h.vs.next i fun g e=>(c g e).1,h.wd.keep i fun e=>(c _ e).2.1 rfl,n,m,fun g e=> .inl (h.gf g e),⟨.inl h.nw.1,h.nw.2.1,.inl h.nw.2.2.1,h.nw.2.2.2.1,h.nw.2.2.2.2⟩,h.gl,jr h.tb i fun g e=>(c g e).2.2,h.nr⟩
theorem WI.serve {f:jW}{b:List jW}{a:Option Nat}(h:WI F G wb d v sb N R now dr past cur l0 T on w)(j:Keep (· =sb) w w')(k:ji w' sb (.pointer (some ⟨v,0,none⟩)) (f::b) (XE a) (.int .i32 0) (XF a))(i:b.length=15/\∀l∈b,l.n=0/\l.held=⟨#[]⟩/\l.out=⟨#[]⟩):
  ∃c,(∀g,F g->c g)/\(∀g,w.heap.size<=g->g<w'.heap.size->c g)/\WI c G wb d v sb N R now dr past cur f b a w':=
 h.OV j (fun g e=>by rw[show g=sb from e];exact⟨h.nw.2.2.1,h.nw.2.2.2.2.symm,h.V4.2⟩) k i
theorem WI.own {a b:Int}(h:WI F G wb d v sb N R now dr past cur l0 T on w)(f:Keep (· =wb) w w')(j:nG w' wb d (R+1) v sb a b):
  ∃c,(∀g,F g->c g)/\(∀g,w.heap.size<=g->g<w'.heap.size->c g)/\WI c G wb d v sb N R a b past cur l0 T on w':=
 ⟨_,fun _ e=> .inl e,fun _ i k=> .inr ⟨i,k⟩,h.vs.next f fun g e=>by rw[show g=wb from e];exact h.nw.1,j,h.sv.keep f fun e=>h.nw.2.2.2.2 (qh e),h.tl,fun g e=> .inl (h.gf g e),⟨.inl h.nw.1,h.nw.2.1,.inl h.nw.2.2.1,h.nw.2.2.2.1,h.nw.2.2.2.2⟩,h.gl,jr h.tb f fun g e=>by rw[show g=wb from e];exact h.V4.1,h.nr⟩
end
theorem WI.WN {F G a:Nat->Prop}{wb d v sb N R:Nat}{now dr:Int}{past cur:Bool}{l0:jW}{T:List jW}{on:Option Nat}{w:World}(h:WI F G wb d v sb N R now dr past cur l0 T on w)(c:∀g,a g->F g)(b:¬a wb/\¬a sb)(e:∀g,Gl g->a g):WI F a wb d v sb N R now dr past cur l0 T on w:=
 ⟨h.vs,h.wd,h.sv,h.tl,c,⟨h.nw.1,b.1,h.nw.2.2.1,b.2,h.nw.2.2.2.2⟩,e,h.tb,h.nr⟩
def kQ (k c:Int)(data:ByteArray)(n:Int):Value:= .agg #[.int .i64 k,.int .i64 c,.string data,.int .i64 n,.slice none 0 0,.slice none 0 0]
def qE (e s:Int)(t:ByteArray)(n:Int):Value:= .agg #[.int .i64 e,.int .i64 s,.string t,.int .i64 n]
theorem mW:(Tryz.prog.info? 45).map (·.size)=some 4:=by kernel_rfl
theorem rG (w:World)(A B:Array Value)(a b:TypeId):let c:=(w.alloc (.cells A a)).alloc (.cells B b)
  c.heap[w.heap.size]? =some (.cells A a (0,0))/\c.heap[w.heap.size+1]? =some (.cells B b (0,0))/\c.heap.size=w.heap.size+2/\Below w.heap.size w c:=by
 refine⟨(mU _ _ _ (by simp)).trans (aH w _),?_,by simp,iY w _ _⟩
 have:=aH (w.alloc (.cells A a)) (.cells B b)
 rwa [bD] at this
theorem gI {d:Func}{p:Tmp}{c:TypeId}(h:d.results=#[.cell p c])(a:Array Value)(w:World)(g:Nat)(y:Value)(e:a.getD p undef= .pointer (some ⟨g,0,none⟩))(f:(loadVar c ⟨g,0,none⟩).run Tryz.prog w= .ok y w):
  (results d a).run Tryz.prog w= .ok y w:=by
 have b:a[p]?.getD undef= .pointer (some ⟨g,0,none⟩):=by simpa using e
 simp[results,h,b,asAddr,f]
theorem Ty {wb d log v sb:Nat}{now dr:Int}{w:World}(c:nG w wb d log v sb now dr)(a:Calls Tryz.prog 73 #[.pointer (some ⟨d,0,none⟩)] w fun e w'=>e= .returned (.bool false)/\w'=w):
  Calls Tryz.prog 39 #[.pointer (some ⟨wb,0,none⟩)] w fun e w'=>e= .returned (.int .i64 0)/\w'=w:=by
 obtain⟨g,_,_,_,_,_,_,i⟩:=c.cells
 have f:=ah a
 clear c a
 go_enter Tryz.func39,Tryz.ntmps39
 go_wp2_with (first
  |(go_at_call 73;go_must (refine f.out.mono ?_;rintro e b ⟨rfl,j⟩;subst b)))
 go_ret
 exact⟨rfl,rfl⟩
section
variable {F G:Nat->Prop} {wb d v sb N R:Nat} {now dr:Int} {past cur:Bool} {l0:jW} {T:List jW} {on:Option Nat} {w:World}
theorem SF {l:Nat}(h:WI F G wb d v sb N R now dr past cur (JS l) T on w)(y b r:ByteArray)(hc:lD w l y)(he:F l/\¬G l/\l≠wb/\l≠sb)(hr:y++b=r)(hs:y.size<=1000000/\b.size<=1000000):
  Calls Tryz.prog 18 #[.pointer (some ⟨wb,0,none⟩),kQ 1 0 b 0] w fun e w'=>e= .returned (qE 0 0 ⟨#[]⟩ 0)/\(∃F',(∀g,F g->F' g)/\WI F' G wb d v sb N R now dr past cur (JS l) T on w')/\lD w' l r/\Keep (fun g=>¬G g) w w':=by
 have z:=rG w #[.int .i64 1,.int .i64 0,.string b,.int .i64 0,.slice none 0 0,.slice none 0 0] #[.int .i64 0,.int .i64 0,.string ⟨#[]⟩,.int .i64 0] 49 45
 dsimp only at z
 obtain⟨q,H⟩:∃x:World,Hid ((w.alloc (.cells #[.int .i64 1,.int .i64 0,.string b,.int .i64 0,.slice none 0 0,.slice none 0 0] 49)).alloc (.cells #[.int .i64 0,.int .i64 0,.string ⟨#[]⟩,.int .i64 0] 45)=x):=⟨_,ah rfl⟩
 rw[H.out] at z
 obtain⟨a,A⟩:∃x:Nat,Hid (w.heap.size=x):=⟨_,ah rfl⟩
 rw[A.out] at z
 obtain⟨f,o,qC,s⟩:=z
 have hq:=A.out
 have s:Below w.heap.size w q:=by rw[hq];exact s
 have m:Below w.heap.size w q.drew:=s.trans ((aJ _ q).drew)
 obtain⟨F2,f2,B,h2⟩:=h.below m
 have qy:=h.wd.lt
 have qf:=h.sv.lt
 have C:=(aj.1 f).1
 have rl:=(aj.1 o).1
 have Q:F2 a/\F2 (a+1)/\¬Gl (a+1)/\wb≠a+1/\sb≠a+1/\¬G (a+1)/\wb≠a/\sb≠a:=⟨B _ (by omega) C,B _ (by omega) rl,h.TM (by omega),by omega,by omega,h.ng (by omega),by omega,by omega⟩
 have s0:q.cell? ⟨a,0,none⟩=some (.int .i64 1):=by simp[World.cell?,f]
 have s1:q.cell? ⟨a,1,none⟩=some (.int .i64 0):=by simp[World.cell?,f]
 have s2:q.cell? ⟨a,2,none⟩=some (.string b):=by simp[World.cell?,f]
 have s3:q.cell? ⟨a,3,none⟩=some (.int .i64 0):=by simp[World.cell?,f]
 have rf:∀i,q.frozen? ⟨a+1,i,none⟩=false:=fun i=>by simp[World.frozen?,o]
 have D:=hc.keep (Keep.of_below m (fun _=>False)) id
 have qm:=(aj.1 hc).1
 have HF:=ah (TF sb l y b r _ _ _ _ _ _ _ _ _ q.drew h2.sv rfl D hr hs)
 obtain⟨_,_,_,a3,_,_,_,al⟩:=h2.wd.cells
 have V:a+1≠l/\a≠l:=by omega
 have Y:¬Gl l:=fun x=>he.2.1 (h.gl _ x)
 have k:=ah (au he (au o (au f (au m (au f2 (au h2 (au V Y)))))))
 have HQ:=ah Q
 clear h hc he hr hs f o s m f2 B h2 D qy qf qm V Y Q
 go_enter CF,yZ
 rw[show kQ 1 0 b 0= .agg #[.int .i64 1,.int .i64 0,.string b,.int .i64 0,.slice none 0 0,.slice none 0 0] from rfl]
 go_upto_region 1 with (fail)
 rw[H.out]
 try rw[A.out]
 go_upto_region 5 with (fail)
 refine aP (fun W=>(W.cell? ⟨wb,3,none⟩=some (.pointer (some ⟨sb,0,none⟩))/\wb<W.heap.size)/\(W.cell? ⟨a,1,none⟩=some (.int .i64 0)/\W.cell? ⟨a,2,none⟩=some (.string b)/\a<W.heap.size)/\a+1<W.heap.size) (fun i=> !([8,10].contains i)) [0,1,2,3,4,5,6,7,8,9,10] rfl (by kernel_rfl) ⟨⟨a3,al⟩,⟨s1,s2,C⟩,rl⟩ ?_
 repeat ((refine bE (v:= ?_) rfl rfl (fun _ _ _ h=>h) rfl (fun W c=> ?_) ?_);rotate_left;(focus ((try dsimp only at c);have p0:=c.1.1;have p1:=c.1.2;have p2:=c.2.1.1;have p3:=c.2.1.2.1;have p4:=c.2.1.2.2;have p5:=c.2.2;(go_simp;first|done|with_reducible rfl)));(try simp only[Act.put,ak,ay,ax]))
 refine bT rfl rfl rfl ?_;intro K hK;go_simp
 refine HF.out.mono ?_;rintro e w3 ⟨rfl,J,j⟩
 obtain⟨F3,f3,_,h3⟩:=k.out.2.2.2.2.2.1.step j (fun g e=>by rw[show g=l from e];exact⟨k.out.2.2.2.2.1 _ k.out.1.1,k.out.1.2.2.1,k.out.1.2.2.2,k.out.2.2.2.2.2.2.2⟩)
 have p9:Row w3 (a+1) 45 [.int .i64 0,.int .i64 0,.string ⟨#[]⟩,.int .i64 0]:=(j.block (a+1) rl k.out.2.2.2.2.2.2.1.1).trans k.out.2.1
 obtain⟨_,_,_,qo,_,_,_,ql⟩:=h3.wd.cells
 have O:=(j.cell (p:=⟨a,1,none⟩) C k.out.2.2.2.2.2.2.1.2).trans s1
 have I:=(j.cell (p:=⟨a,2,none⟩) C k.out.2.2.2.2.2.2.1.2).trans s2
 have t:=aA C j.size
 have X:=aA rl j.size
 have H3:=ah (au J (au j h3))
 clear h3 J
 refine hK.out _ _ ⟨⟨qo,ql⟩,⟨O,I,t⟩,X⟩ ?_
 (try simp only[Act.put,ak,ay,ax])
 repeat ((refine bE (v:= ?_) rfl rfl (fun _ _ _ h=>h) rfl (fun W c=> ?_) ?_);rotate_left;(focus ((try dsimp only at c);have p0:=c.1.1;have p1:=c.1.2;have p2:=c.2.1.1;have p3:=c.2.1.2.1;have p4:=c.2.1.2.2;have p5:=c.2.2;(go_simp;first|done|with_reducible rfl)));(try simp only[Act.put,ak,ay,ax]))
 refine bT rfl rfl rfl ?_;intro K hK
 refine wp_store_row 45 (.tmp 4) (.tmp 26) rfl (a+1) 0 45 _ [.int .i64 0,.int .i64 0,.string ⟨#[]⟩,.int .i64 0] rfl rfl p9 mW (aC 4) (by intro v hv;simp only[aW,bQ,fJ] at hv;rcases hv with rfl|rfl|rfl|rfl<;>rfl) ?_
 intro M qc n
 obtain⟨F4,f4,qO,h4⟩:=H3.out.2.2.step n (fun g e=>by rw[show g=a+1 from e];exact⟨f3 _ HQ.out.2.1,HQ.out.2.2.2.1.symm,HQ.out.2.2.2.2.1.symm,HQ.out.2.2.1⟩)
 obtain⟨_,_,_,E,_,_,_,pV⟩:=h4.wd.cells
 have Z:=(n.cell (p:=⟨a,1,none⟩) t (fun e=>by have e:a=a+1:=e;omega)).trans O
 have S:=(n.cell (p:=⟨a,2,none⟩) t (fun e=>by have e:a=a+1:=e;omega)).trans I
 refine hK.out _ _ ⟨⟨E,pV⟩,⟨Z,S,aA t n.size⟩,aA X n.size⟩ ?_
 (try simp only[Act.put,ak,ay,ax])
 refine bN ?_
 have P:M.heap[a+1]? =some (.cells #[.int .i64 0,.int .i64 0,.string ⟨#[]⟩,.int .i64 0] 45 (0,0)):=qc
 have e0:M.cell? ⟨a+1,0,none⟩=some (.int .i64 0):=by simp[World.cell?,P]
 have e1:M.cell? ⟨a+1,1,none⟩=some (.int .i64 0):=by simp[World.cell?,P]
 have e2:M.cell? ⟨a+1,2,none⟩=some (.string ⟨#[]⟩):=by simp[World.cell?,P]
 have e3:M.cell? ⟨a+1,3,none⟩=some (.int .i64 0):=by simp[World.cell?,P]
 have HE:=ah (au n h4)
 clear h4
 go_wp2_with fail
 (try simp only[Exit.inBlock,Exit.then])
 refine dJ (gI rfl _ _ (a+1) _ rfl (jk _ (a+1) 45 45 _ (0,0) _ P kr rfl (by kernel_rfl))) rfl ?_
 exact⟨rfl,⟨F4,fun g e=>f4 _ (f3 _ (k.out.2.2.2.2.1 _ e)),HE.out.2⟩,H3.out.1.keep HE.out.1 (fun e=>k.out.2.2.2.2.2.2.1.1 (qh e)),(Keep.of_below k.out.2.2.2.1 (fun g=>¬G g)).trans H3.out.2.1 (fun g _ e=>by rw[show g=l from e];exact k.out.1.2.1)|>.trans HE.out.1 (fun g _ e=>by rw[show g=a+1 from e];exact HQ.out.2.2.2.2.2.1)⟩
theorem Lh {t y:Value}{k b:ByteArray}{n:Int}(h:WI F G wb d v sb N R now dr past cur ⟨t,y,k,n,b⟩ T on w):
  Calls Tryz.prog 18 #[.pointer (some ⟨wb,0,none⟩),kQ 4 0 ⟨#[]⟩ 0] w fun e w'=>e= .returned (qE 0 0 b 0)/\(∃F',(∀g,F g->F' g)/\WI F' G wb d v sb N R now dr past cur ⟨t,y,k,n,⟨#[]⟩⟩ T on w')/\Keep (fun g=>¬G g/\(w.heap.size<=g\/g=sb)) w w':=by
 have r:=rG w #[.int .i64 4,.int .i64 0,.string ⟨#[]⟩,.int .i64 0,.slice none 0 0,.slice none 0 0] #[.int .i64 0,.int .i64 0,.string ⟨#[]⟩,.int .i64 0] 49 45
 dsimp only at r
 obtain⟨o,H⟩:∃x:World,Hid ((w.alloc (.cells #[.int .i64 4,.int .i64 0,.string ⟨#[]⟩,.int .i64 0,.slice none 0 0,.slice none 0 0] 49)).alloc (.cells #[.int .i64 0,.int .i64 0,.string ⟨#[]⟩,.int .i64 0] 45)=x):=⟨_,ah rfl⟩
 rw[H.out] at r
 obtain⟨a,z⟩:∃x:Nat,Hid (w.heap.size=x):=⟨_,ah rfl⟩
 rw[z.out] at r
 obtain⟨c,m,qm,q⟩:=r
 have hq:=z.out
 have q:Below w.heap.size w o:=by rw[hq];exact q
 have l:Below w.heap.size w o.drew:=q.trans ((aJ _ o).drew)
 obtain⟨F2,f2,C,O⟩:=h.below l
 have ql:=h.wd.lt
 have X:=h.sv.lt
 have M:=(aj.1 c).1
 have Q:=(aj.1 m).1
 have B:F2 a/\F2 (a+1)/\¬Gl (a+1)/\wb≠a+1/\sb≠a+1/\¬G (a+1)/\wb≠a/\sb≠a:=⟨C _ (by omega) M,C _ (by omega) Q,h.TM (by omega),by omega,by omega,h.ng (by omega),by omega,by omega⟩
 have s0:o.cell? ⟨a,0,none⟩=some (.int .i64 4):=by simp[World.cell?,c]
 have s1:o.cell? ⟨a,1,none⟩=some (.int .i64 0):=by simp[World.cell?,c]
 have s2:o.cell? ⟨a,2,none⟩=some (.string ⟨#[]⟩):=by simp[World.cell?,c]
 have s3:o.cell? ⟨a,3,none⟩=some (.int .i64 0):=by simp[World.cell?,c]
 have rf:∀i,o.frozen? ⟨a+1,i,none⟩=false:=fun i=>by simp[World.frozen?,m]
 have HF:=ah (WJ sb _ _ _ _ _ t y k b n o.drew O.sv rfl)
 obtain⟨_,_,_,a3,_,_,_,al⟩:=O.wd.cells
 have s:=ah (au m (au l (au f2 (au O (au h.nw.2.2.2.1 hq)))))
 have D:=ah B
 have qf:=B.2.2.2.2.1
 clear h c m q l f2 C O ql X B
 go_enter CF,yZ
 rw[show kQ 4 0 ⟨#[]⟩ 0= .agg #[.int .i64 4,.int .i64 0,.string ⟨#[]⟩,.int .i64 0,.slice none 0 0,.slice none 0 0] from rfl]
 go_upto_region 1 with (fail)
 rw[H.out]
 try rw[z.out]
 go_upto_region 18 with (fail)
 refine aP (fun W=>(W.cell? ⟨wb,3,none⟩=some (.pointer (some ⟨sb,0,none⟩))/\wb<W.heap.size)/\(W.cell? ⟨a,1,none⟩=some (.int .i64 0)/\a<W.heap.size)) (fun i=> !([6].contains i)) [0,1,2,3,4,5,6,7,8,9,10,11] rfl (by kernel_rfl) ⟨⟨a3,al⟩,s1,M⟩ ?_
 repeat ((refine bE (v:= ?_) rfl rfl (fun _ _ _ h=>h) rfl (fun W j=> ?_) ?_);rotate_left;(focus ((try dsimp only at j);have p0:=j.1.1;have p1:=j.1.2;have p2:=j.2.1;have p3:=j.2.2;(go_simp;first|done|with_reducible rfl)));(try simp only[Act.put,ak,ay,ax]))
 refine bT rfl rfl rfl ?_;intro K hK;go_simp
 refine HF.out.mono ?_;rintro e w3 ⟨rfl,E,f⟩
 obtain⟨F3,f3,_,Y⟩:=s.out.2.2.2.1.serve f E s.out.2.2.2.1.tl
 have P:Row w3 (a+1) 45 [.int .i64 0,.int .i64 0,.string ⟨#[]⟩,.int .i64 0]:=(f.block (a+1) Q qf.symm).trans s.out.1
 obtain⟨_,_,_,p9,_,_,_,pV⟩:=Y.wd.cells
 have V:=(f.cell (p:=⟨a,1,none⟩) M D.out.2.2.2.2.2.2.2.symm).trans s1
 have Z:=aA M f.size
 have qc:=aA Q f.size
 have H3:=ah (au f Y)
 clear Y E
 refine hK.out _ _ ⟨⟨p9,pV⟩,V,Z⟩ ?_
 (try simp only[Act.put,ak,ay,ax])
 repeat ((refine bE (v:= ?_) rfl rfl (fun _ _ _ h=>h) rfl (fun W j=> ?_) ?_);rotate_left;(focus ((try dsimp only at j);have p0:=j.1.1;have p1:=j.1.2;have p2:=j.2.1;have p3:=j.2.2;(go_simp;first|done|with_reducible rfl)));(try simp only[Act.put,ak,ay,ax]))
 refine bN ?_
 go_wp2_with (first
  |((refine bS rfl ?_);intro K hK;(refine wp_store_row 45 (.tmp 4) (.tmp 71) rfl (a+1) 0 45 _ [.int .i64 0,.int .i64 0,.string b,.int .i64 0] rfl rfl P mW (aC 4) (by intro v hv;simp only[aW,bQ,fJ] at hv;rcases hv with rfl|rfl|rfl|rfl<;>rfl) ?_);intro I S A;refine hK _ _ ?_;refine Stop.of ?_))
 refine Stop.on ?_
 obtain⟨F4,f4,qo,h4⟩:=H3.out.2.step A (fun g e=>by rw[show g=a+1 from e];exact⟨f3 _ D.out.2.1,D.out.2.2.2.1.symm,D.out.2.2.2.2.1.symm,D.out.2.2.1⟩)
 have J:I.heap[a+1]? =some (.cells #[.int .i64 0,.int .i64 0,.string b,.int .i64 0] 45 (0,0)):=S
 have e0:I.cell? ⟨a+1,0,none⟩=some (.int .i64 0):=by simp[World.cell?,J]
 have e1:I.cell? ⟨a+1,1,none⟩=some (.int .i64 0):=by simp[World.cell?,J]
 have e2:I.cell? ⟨a+1,2,none⟩=some (.string b):=by simp[World.cell?,J]
 have e3:I.cell? ⟨a+1,3,none⟩=some (.int .i64 0):=by simp[World.cell?,J]
 have HE:=ah (au A h4)
 have qy:=aA qc A.size
 clear h4
 go_wp2_with fail
 (try simp only[Exit.inBlock,Exit.then])
 refine dJ (gI rfl _ _ (a+1) _ rfl (jk _ (a+1) 45 45 _ (0,0) _ J kr rfl (by kernel_rfl))) rfl ?_
 exact⟨rfl,⟨F4,fun g e=>f4 _ (f3 _ (s.out.2.2.1 _ e)),HE.out.2⟩,(Keep.of_below s.out.2.1 (fun g=>¬G g/\(w.heap.size<=g\/g=sb))).trans H3.out.1 (fun g _ e=>by rw[show g=sb from e];exact⟨s.out.2.2.2.2.1,.inr rfl⟩)|>.trans HE.out.1 (fun g _ e=>by rw[show g=a+1 from e];exact⟨D.out.2.2.2.2.2.1,.inl (by have:=s.out.2.2.2.2.2;omega)⟩)⟩
theorem SC (h:WI F G wb d v sb N R now dr past cur l0 T on w)(n a b c:Int)(h1:max n 0=a)(s:min a 1073741824=b)(B:min (now+b) 1152921504606846976=c)(Z:0<=now/\now<=1152921504606846976):
  Calls Tryz.prog 18 #[.pointer (some ⟨wb,0,none⟩),kQ 6 0 ⟨#[]⟩ n] w fun e w'=>e= .returned (qE 0 0 ⟨#[]⟩ c)/\(∃F',(∀g,F g->F' g)/\WI F' G wb d v sb N R c dr past cur l0 T on w')/\Keep (fun g=>¬G g/\(w.heap.size<=g\/g=wb)) w w':=by
 have qf:=h1;have qC:=s;have qy:=B
 have hb:0<=b/\b<=1073741824:=by omega
 have qo:IntKind.i64.wrap (now+b)=now+b:=aM _ (by omega)
 clear h1 s B
 have r:=rG w #[.int .i64 6,.int .i64 0,.string ⟨#[]⟩,.int .i64 n,.slice none 0 0,.slice none 0 0] #[.int .i64 0,.int .i64 0,.string ⟨#[]⟩,.int .i64 0] 49 45
 dsimp only at r
 obtain⟨o,D⟩:∃x:World,Hid ((w.alloc (.cells #[.int .i64 6,.int .i64 0,.string ⟨#[]⟩,.int .i64 n,.slice none 0 0,.slice none 0 0] 49)).alloc (.cells #[.int .i64 0,.int .i64 0,.string ⟨#[]⟩,.int .i64 0] 45)=x):=⟨_,ah rfl⟩
 rw[D.out] at r
 obtain⟨j,t⟩:∃x:Nat,Hid (w.heap.size=x):=⟨_,ah rfl⟩
 rw[t.out] at r
 obtain⟨k,l,ql,q⟩:=r
 have hq:=t.out
 have q:Below w.heap.size w o:=by rw[hq];exact q
 have p:Below w.heap.size w o.drew:=q.trans ((aJ _ o).drew)
 obtain⟨F2,f2,A,s⟩:=h.below p
 have p9:=h.wd.lt
 have Y:=h.sv.lt
 have Q:=(aj.1 k).1
 have V:=(aj.1 l).1
 have z:F2 j/\F2 (j+1)/\¬Gl (j+1)/\wb≠j+1/\sb≠j+1/\¬G (j+1)/\wb≠j/\sb≠j:=⟨A _ (by omega) Q,A _ (by omega) V,h.TM (by omega),by omega,by omega,h.ng (by omega),by omega,by omega⟩
 have s0:o.cell? ⟨j,0,none⟩=some (.int .i64 6):=by simp[World.cell?,k]
 have s1:o.cell? ⟨j,1,none⟩=some (.int .i64 0):=by simp[World.cell?,k]
 have s2:o.cell? ⟨j,2,none⟩=some (.string ⟨#[]⟩):=by simp[World.cell?,k]
 have s3:o.cell? ⟨j,3,none⟩=some (.int .i64 n):=by simp[World.cell?,k]
 have rf:∀i,o.frozen? ⟨j+1,i,none⟩=false:=fun i=>by simp[World.frozen?,l]
 obtain⟨_,_,_,_,a4,_,af,al⟩:=s.wd.cells
 have qc:=af 4
 have m:=s.wd.XT c
 have f:=si o.drew wb 4 (.int .i64 c)
 obtain⟨w3,I⟩:∃x:World,Hid (o.drew.setCell ⟨wb,4,none⟩ (.int .i64 c)=x):=⟨_,ah rfl⟩
 rw[I.out] at m f
 obtain⟨F3,f3,_,B⟩:=s.own f m
 have C:=z.2.2.2.1
 have S:Row w3 (j+1) 45 [.int .i64 0,.int .i64 0,.string ⟨#[]⟩,.int .i64 0]:=(f.block (j+1) V C.symm).trans l
 obtain⟨_,_,_,_,b4,_,_,bl⟩:=B.wd.cells
 have q8:=aA Q f.size
 have pV:=aA V f.size
 have O:=ah (au l (au p (au f2 (au s (au h.nw.2.1 hq)))))
 have M:=ah z
 have P:=ah (au f (au f3 B))
 clear h k l q p f2 A s p9 Y z B f3 m f af C
 go_enter CF,yZ
 rw[show kQ 6 0 ⟨#[]⟩ n= .agg #[.int .i64 6,.int .i64 0,.string ⟨#[]⟩,.int .i64 n,.slice none 0 0,.slice none 0 0] from rfl]
 go_upto_region 1 with (fail)
 rw[D.out]
 try rw[t.out]
 go_upto_region 23 with (fail)
 refine aP (fun W=>(W.cell? ⟨wb,4,none⟩=some (.int .i64 now)/\wb<W.heap.size)/\(W.cell? ⟨j,3,none⟩=some (.int .i64 n)/\j<W.heap.size)) (fun i=> !([13].contains i)) [0,1,2,3,4,5,6,7,8,9,10,11,12,13] rfl (by kernel_rfl) ⟨⟨a4,al⟩,s3,Q⟩ ?_
 repeat ((refine bE (v:= ?_) rfl rfl (fun _ _ _ h=>h) rfl (fun W E=> ?_) ?_);rotate_left;(focus ((try dsimp only at E);have p0:=E.1.1;have p1:=E.1.2;have p2:=E.2.1;have p3:=E.2.2;(go_simp;first|done|with_reducible rfl)));(try simp only[Act.put,ak,ay,ax]))
 refine jR rfl rfl rfl (by kernel_rfl) ?_;intro K hK;go_simp
 refine hK.out _ _ (bN ?_)
 rw[show (o.setCell ⟨wb,4,none⟩ (.int .i64 c)).drew=w3 from I.out]
 go_wp2_with (first
  |((refine bS rfl ?_);intro K hK;(refine wp_store_row 45 (.tmp 4) (.tmp 101) rfl (j+1) 0 45 _ [.int .i64 0,.int .i64 0,.string ⟨#[]⟩,.int .i64 c] rfl rfl S mW (aC 4) (by intro v hv;simp only[aW,bQ,fJ] at hv;rcases hv with rfl|rfl|rfl|rfl<;>rfl) ?_);intro H X y;refine hK _ _ ?_;refine Stop.of ?_))
 refine Stop.on ?_
 obtain⟨F4,f4,qm,Z⟩:=P.out.2.2.step y (fun g e=>by rw[show g=j+1 from e];exact⟨P.out.2.1 _ M.out.2.1,M.out.2.2.2.1.symm,M.out.2.2.2.2.1.symm,M.out.2.2.1⟩)
 have J:H.heap[j+1]? =some (.cells #[.int .i64 0,.int .i64 0,.string ⟨#[]⟩,.int .i64 c] 45 (0,0)):=X
 have e0:H.cell? ⟨j+1,0,none⟩=some (.int .i64 0):=by simp[World.cell?,J]
 have e1:H.cell? ⟨j+1,1,none⟩=some (.int .i64 0):=by simp[World.cell?,J]
 have e2:H.cell? ⟨j+1,2,none⟩=some (.string ⟨#[]⟩):=by simp[World.cell?,J]
 have e3:H.cell? ⟨j+1,3,none⟩=some (.int .i64 c):=by simp[World.cell?,J]
 have HE:=ah (au y Z)
 have qO:=aA pV y.size
 clear Z
 go_wp2_with fail
 (try simp only[Exit.inBlock,Exit.then])
 refine dJ (gI rfl _ _ (j+1) _ rfl (jk _ (j+1) 45 45 _ (0,0) _ J kr rfl (by kernel_rfl))) rfl ?_
 exact⟨rfl,⟨F4,fun g e=>f4 _ (P.out.2.1 _ (O.out.2.2.1 _ e)),HE.out.2⟩,(Keep.of_below O.out.2.1 (fun g=>¬G g/\(w.heap.size<=g\/g=wb))).trans P.out.1 (fun g _ e=>by rw[show g=wb from e];exact⟨O.out.2.2.2.2.1,.inr rfl⟩)|>.trans HE.out.1 (fun g _ e=>by rw[show g=j+1 from e];exact⟨M.out.2.2.2.2.2.1,.inl (by have:=O.out.2.2.2.2.2;omega)⟩)⟩
theorem J4 (T:List jW)(h:∀l∈T,l.n=0/\l.held=⟨#[]⟩/\l.out=⟨#[]⟩):nZ T=0:=DJ T fun l e=>(h l e).1
theorem Mc (T:List jW)(h:T.length=15/\∀l∈T,l.n=0/\l.held=⟨#[]⟩/\l.out=⟨#[]⟩):(T.map jW.sync).length=15/\∀l∈T.map jW.sync,l.n=0/\l.held=⟨#[]⟩/\l.out=⟨#[]⟩:=by
 refine⟨by rw[jM];exact h.1,fun l e=> ?_⟩
 obtain⟨d,f,rfl⟩:=iN.1 e
 obtain⟨a,b,c⟩:=h.2 d f
 refine⟨rfl,rfl,?_⟩
 show d.out++d.held=_
 rw[b,c]
 rfl
theorem WI.synced {F:Nat->Prop}{i c f:World}(h:WI F G wb d v sb N R now dr past cur l0 T on i)(k:Cr F d v N R cur cur c)(b:Keep (fun g=>¬F g) i c)(a:Keep (· =sb) c f)(l:ji f sb (.pointer (some ⟨v,0,none⟩)) ((l0::T).map jW.sync) (XE on) (.int .i32 0) (XF on)):
  ∃j,(∀g,F g->j g)/\WI j G wb d v sb N R now dr cur cur l0.sync (T.map jW.sync) on f:=
 ⟨_,fun _ e=> .inl e,k.next a fun g e=>(by rw[show g=sb from e];exact h.nw.2.2.1),(h.wd.keep b (fun e=>e h.nw.1)).keep a (fun e=>h.nw.2.2.2.2 e),l,Mc T h.tl,fun g e=> .inl (h.gf g e),⟨.inl h.nw.1,h.nw.2.1,.inl h.nw.2.2.1,h.nw.2.2.2.1,h.nw.2.2.2.2⟩,h.gl,jr (jr h.tb b fun g e x=>e (h.gf _ (h.gl _ x))) a fun g e=>(by rw[show g=sb from e];exact h.V4.2),h.nr⟩
theorem SE {j k:Value}{a:ByteArray}{n:Int}(h:WI F G wb d v sb N R now dr past cur ⟨j,k,a,n,⟨#[]⟩⟩ T on w)(hn:0<=n/\n<=1000)(hh:a.size<=100000):
  Calls Tryz.prog 18 #[.pointer (some ⟨wb,0,none⟩),kQ 3 0 ⟨#[]⟩ 0] w fun e w'=>e= .returned (qE 0 0 ⟨#[]⟩ n)/\(∃F' T',(∀g,F g->F' g)/\WI F' G wb d v sb N R now dr cur cur ⟨j,k,⟨#[]⟩,0,⟨#[]⟩++a⟩ T' on w')/\Keep (fun g=>¬G g) w w':=by
 have A:=rG w #[.int .i64 3,.int .i64 0,.string ⟨#[]⟩,.int .i64 0,.slice none 0 0,.slice none 0 0] #[.int .i64 0,.int .i64 0,.string ⟨#[]⟩,.int .i64 0] 49 45
 dsimp only at A
 obtain⟨y,Q⟩:∃x:World,Hid ((w.alloc (.cells #[.int .i64 3,.int .i64 0,.string ⟨#[]⟩,.int .i64 0,.slice none 0 0,.slice none 0 0] 49)).alloc (.cells #[.int .i64 0,.int .i64 0,.string ⟨#[]⟩,.int .i64 0] 45)=x):=⟨_,ah rfl⟩
 rw[Q.out] at A
 obtain⟨f,E⟩:∃x:Nat,Hid (w.heap.size=x):=⟨_,ah rfl⟩
 rw[E.out] at A
 obtain⟨m,t,qO,z⟩:=A
 have hq:=E.out
 have z:Below w.heap.size w y:=by rw[hq];exact z
 have s:Below w.heap.size w y:=z
 obtain⟨F2,f2,I,p⟩:=h.below s
 have qy:=h.wd.lt
 have ql:=h.sv.lt
 have sl:=(aj.1 m).1
 have rl:=(aj.1 t).1
 have Y:F2 f/\F2 (f+1)/\¬Gl (f+1)/\wb≠f+1/\sb≠f+1/\¬G (f+1)/\wb≠f/\sb≠f:=⟨I _ (by omega) sl,I _ (by omega) rl,h.TM (by omega),by omega,by omega,h.ng (by omega),by omega,by omega⟩
 have s0:y.cell? ⟨f,0,none⟩=some (.int .i64 3):=by simp[World.cell?,m]
 have s1:y.cell? ⟨f,1,none⟩=some (.int .i64 0):=by simp[World.cell?,m]
 have s2:y.cell? ⟨f,2,none⟩=some (.string ⟨#[]⟩):=by simp[World.cell?,m]
 have s3:y.cell? ⟨f,3,none⟩=some (.int .i64 0):=by simp[World.cell?,m]
 have rf:∀i,y.frozen? ⟨f+1,i,none⟩=false:=fun i=>by simp[World.frozen?,t]
 have B:∀l∈(⟨j,k,a,n,⟨#[]⟩⟩::T:List jW),l.held.size<=100000/\l.out.size<=100000:=by
  intro l D
  rcases aW.1 D with rfl|D
  ·exact⟨hh,(by decide:(⟨#[]⟩:ByteArray).size<=100000)⟩
  ·obtain⟨_,b,c⟩:=h.tl.2 l D
   rw[b,c];exact⟨by decide,by decide⟩
 have r:Kr (⟨j,k,a,n,⟨#[]⟩⟩::T:List jW):=by
  intro l D
  rcases aW.1 D with rfl|D
  ·exact hn
  ·rw[(h.tl.2 l D).1];decide
 have S:nZ (⟨j,k,a,n,⟨#[]⟩⟩::T:List jW)=n:=by
  show n+nZ T=n
  rw[J4 T h.tl.2,Int.add_zero]
 have qf:=ah (Ty p.wd p.vs.alive)
 have J:=WL sb _ _ _ _ (⟨j,k,a,n,⟨#[]⟩⟩::T) y p.sv p.len r
 rw[S] at J
 have qm:=ah J
 have qc:=ah (Mg sb (some ⟨v,0,none⟩) _ _ _ (⟨j,k,a,n,⟨#[]⟩⟩::T) y 0 (fun g=>¬F2 g) (fun W=>Cr F2 d v N R cur cur W) p.sv p.len B (fun e=>e p.nw.2.2.1) p.vs.sync)
 obtain⟨_,_,_,a3,_,_,_,al⟩:=p.wd.cells
 have C:=ah (au t (au s (au f2 (au p (au h.nw.2.2.2.1 (au hq h.gf))))))
 have M:=ah Y
 clear h m t z s f2 I p qy ql Y B r S J hn hh
 go_enter CF,yZ
 rw[show kQ 3 0 ⟨#[]⟩ 0= .agg #[.int .i64 3,.int .i64 0,.string ⟨#[]⟩,.int .i64 0,.slice none 0 0,.slice none 0 0] from rfl]
 go_upto_region 1 with (fail)
 rw[Q.out]
 try rw[E.out]
 go_wp2_with (first
  |(go_at_call 39;go_must (refine qf.out.mono ?_;rintro e w3 ⟨rfl,hw⟩;subst w3))
  |(go_at_call 13;go_must (refine qm.out.mono ?_;rintro e w3 ⟨rfl,hw⟩;subst w3))
  |(go_at_call 11;go_must (refine qc.out.mono ?_;rintro e w4 ⟨rfl,w3,Z,o,P⟩;refine Stop.of ?_)))
 refine Stop.on ?_
 obtain⟨_,V,q⟩:=P.resolve_left (fun e=>e.1 rfl)
 obtain⟨F4,f4,h4⟩:=WI.synced C.out.2.2.2.1 Z o q V
 have pV:Row w4 (f+1) 45 [.int .i64 0,.int .i64 0,.string ⟨#[]⟩,.int .i64 0]:=(q.block (f+1) (aA rl o.size) M.out.2.2.2.2.1.symm).trans ((o.block (f+1) rl (fun e=>e M.out.2.1)).trans C.out.1)
 have qo:=aA (aA rl o.size) q.size
 have H4:=ah (au o (au q h4))
 clear Z o q h4 V P
 go_wp2_with (first
  |((refine bS rfl ?_);intro K hK;(refine wp_store_row 45 (.tmp 4) (.tmp 56) rfl (f+1) 0 45 _ [.int .i64 0,.int .i64 0,.string ⟨#[]⟩,.int .i64 n] rfl rfl pV mW (aC 4) (by intro v hv;simp only[aW,bQ,fJ] at hv;rcases hv with rfl|rfl|rfl|rfl<;>rfl) ?_);intro O p9 H;refine hK _ _ ?_;refine Stop.of ?_))
 refine Stop.on ?_
 obtain⟨F5,f5,qC,h5⟩:=H4.out.2.2.step H (fun g e=>by rw[show g=f+1 from e];exact⟨f4 _ M.out.2.1,M.out.2.2.2.1.symm,M.out.2.2.2.2.1.symm,M.out.2.2.1⟩)
 have X:O.heap[f+1]? =some (.cells #[.int .i64 0,.int .i64 0,.string ⟨#[]⟩,.int .i64 n] 45 (0,0)):=p9
 have e0:O.cell? ⟨f+1,0,none⟩=some (.int .i64 0):=by simp[World.cell?,X]
 have e1:O.cell? ⟨f+1,1,none⟩=some (.int .i64 0):=by simp[World.cell?,X]
 have e2:O.cell? ⟨f+1,2,none⟩=some (.string ⟨#[]⟩):=by simp[World.cell?,X]
 have e3:O.cell? ⟨f+1,3,none⟩=some (.int .i64 n):=by simp[World.cell?,X]
 have HE:=ah (au H h5)
 have q8:=aA qo H.size
 clear h5
 go_wp2_with fail
 (try simp only[Exit.inBlock,Exit.then])
 refine dJ (gI rfl _ _ (f+1) _ rfl (jk _ (f+1) 45 45 _ (0,0) _ X kr rfl (by kernel_rfl))) rfl ?_
 exact⟨rfl,⟨F5,_,fun g e=>f5 _ (f4 _ (C.out.2.2.1 _ e)),HE.out.2⟩,(Keep.of_below C.out.2.1 (fun g=>¬G g)).trans H4.out.1 (fun g _ e x=>e (C.out.2.2.1 _ (C.out.2.2.2.2.2.2 _ x)))|>.trans H4.out.2.1 (fun g _ e=>by rw[show g=sb from e];exact C.out.2.2.2.2.1)|>.trans HE.out.1 (fun g _ e=>by rw[show g=f+1 from e];exact M.out.2.2.2.2.2.1)⟩
end
section
variable {F G:Nat->Prop} {wb d v sb N R:Nat} {now dr:Int} {past cur:Bool} {l0:jW} {T:List jW} {on:Option Nat} {w w':World}
theorem PZ (n:Int)(w:World)(c:mZ w)(b:0<=n/\n<=1000000):
  Calls Tryz.prog 66 #[.int .i64 n] w fun e w'=>∃a,e= .returned (.string a)/\Below w.heap.size w w':=
 (BM n ⟨(Lib.itoa n).toArray⟩ w c b (by simp)).mono fun e w' h=>⟨_,h⟩
theorem Cr.UO (h:WI F G wb d v sb N R now dr false false l0 T none w)(m:13<=R)(k:Nat)(f j:Value)(c:ByteArray)(a:ByteArray)(B:l0=⟨f,.pointer (some ⟨k,0,none⟩),⟨#[]⟩,0,c⟩)(A:xA w k j)(D:lJ w j hsP)(r:∀b,j.ownBlock=some b->F b/\b≠sb):
  Calls Tryz.prog 7 #[.pointer (some ⟨sb,0,none⟩),.int .i64 0,.int .i64 now,.string a] w fun e w'=>e= .returned (.tuple #[.int .i64 201,.int .i64 0])/\(∃s q,(∀g,F g->s g)/\WI s G wb d v sb N R now dr false true ⟨f,.pointer none,kU,1,c⟩ T (some q) w')/\Keep (fun g=>¬F g\/g=sb) w w':=by
 subst B
 obtain⟨u,u0,E,H,C⟩:=h.vs
 have i:=h.V4.2
 refine(UO (JW d N 0 u0 []) E ⟨by have:=H rfl;have:=h.nr.1;omega,m,by decide⟩ sb k f j _ c now a h.sv h.len rfl A D h.tb.1 h.tb.2.1 h.tb.2.2 ⟨h.gf _ (h.gl _ (.inr (.inl rfl))),h.gf _ (h.gl _ (.inr (.inr (.inl rfl)))),h.gf _ (h.gl _ (.inr (.inr (.inr rfl))))⟩ (h.gf _ (h.gl _ (.inl rfl))) (fun b l=>(r b l).1) h.nw.2.2.1 ⟨fun e=>i (.inl e),fun e=>i (.inr (.inl e)),fun e=>i (.inr (.inr (.inl e))),fun e=>i (.inr (.inr (.inr e))),fun b l=>(r b l).2⟩).mono ?_
 rintro e w' ⟨q,y,rfl,o,n,t,z,p⟩
 refine⟨rfl,⟨_,q,fun g e=> .inl e,⟨y,u0,o,(fun e=>nomatch e),C⟩,h.wd.keep p (fun e=>e.elim (fun e=>e h.nw.1) h.nw.2.2.2.2),n,h.tl,fun g e=> .inl (h.gf g e),⟨.inl h.nw.1,h.nw.2.1,.inl h.nw.2.2.1,h.nw.2.2.2.1,h.nw.2.2.2.2⟩,h.gl,jr h.tb p (fun g e x=>e.elim (fun e=>e (h.gf _ (h.gl _ x))) (fun e=>i (by rw[<-show g=sb from e];exact x))),h.nr⟩,p⟩
theorem XL {k:Nat}(h:WI F G wb d v sb N R now dr false false (JS k) T none w)(hc:lD w k uw)(he:F k/\¬G k/\k≠wb/\k≠sb)(kz:0<=dr/\dr<=1000)(j3:13<=R):
  Calls Tryz.prog 38 #[.pointer (some ⟨wb,0,none⟩),.int .i64 0] w fun e w'=>e= .returned (qE 0 201 ⟨#[]⟩ 0)/\(∃F' kb dn,(∀g,F g->F' g)/\WI F' G wb d v sb N R now (dr+1) false true ⟨dn,.pointer none,kU,1,⟨#[]⟩⟩ T (some kb) w')/\Keep (fun g=>¬G g) w w':=by
 have m:=aG w (.cells #[.int .i64 0,.int .i64 0,.string ⟨#[]⟩,.int .i64 0] 45)
 have r:=aH w (.cells #[.int .i64 0,.int .i64 0,.string ⟨#[]⟩,.int .i64 0] 45)
 obtain⟨w1,bg⟩:∃x:World,Hid (w.alloc (.cells #[.int .i64 0,.int .i64 0,.string ⟨#[]⟩,.int .i64 0] 45)=x):=⟨_,ah rfl⟩
 rw[bg.out] at m r
 obtain⟨f,E⟩:∃x:Nat,Hid (w.heap.size=x):=⟨_,ah rfl⟩
 rw[E.out] at r
 have j6:=E.out
 obtain⟨F1,f1,q8,h1⟩:=h.below m
 obtain⟨_,_,_,_,_,b5,bf,bl⟩:=h1.wd.cells
 have ko:=bf 5
 have n:=h1.wd.XU (dr+1)
 have a:=si w1 wb 5 (.int .i64 (dr+1))
 obtain⟨w2,qf⟩:∃x:World,Hid (w1.setCell ⟨wb,5,none⟩ (.int .i64 (dr+1))=x):=⟨_,ah rfl⟩
 rw[qf.out] at n a
 obtain⟨F2,f2,_,h2⟩:=h1.own a n
 have qc:lD w2 k uw:=(hc.keep (Keep.of_below m (fun _=>False)) id).keep a (fun e=>he.2.2.1 e)
 have HF:=ah (TF sb k uw ⟨#[]⟩ uw _ _ _ _ _ _ _ _ _ w2 h2.sv rfl qc (by kernel_rfl) ⟨bF (by kernel_rfl),by decide⟩)
 have H:=(aj.1 r).1
 have j5:=h.wd.lt
 have d9:=h.sv.lt
 have eZ:=(aj.1 hc).1
 have A:F1 f/\¬Gl f/\wb≠f/\sb≠f/\k≠f/\¬G f:=⟨q8 _ (by omega) H,h.TM (by omega),by omega,by omega,by omega,h.ng (by omega)⟩
 have qb:=(a.block f H A.2.2.1.symm).trans r
 have af:¬Gl k:=fun x=>he.2.1 (h.gl _ x)
 obtain⟨_,_,_,a3,_,_,_,al⟩:=h2.wd.cells
 have c:=ah (au he (au af (au A (au (show ∀g,F g->F2 g from fun g e=>f2 g (f1 g e)) (au (f2 _ A.1) (au h.nw.2.1 h.nw.2.2.2.1))))))
 have H2:=ah (au h2 (au m (au a (au qb j3))))
 clear h hc he m r f1 q8 h1 bf n a f2 h2 qc j5 d9 eZ A qb af H
 go_enter Tryz.func38,Tryz.ntmps38
 go_upto_region 1 with (fail)
 rw[bg.out]
 try rw[E.out]
 go_upto_region 2 with (fail)
 rw[qf.out]
 go_wp2_with (first
  |(go_at_call 9;go_must (refine HF.out.mono ?_;rintro e w3 ⟨rfl,qm,B⟩;refine Stop.of ?_)))
 refine Stop.on ?_
 obtain⟨F3,f3,_,h3⟩:=H2.out.1.step B (fun g e=>by rw[show g=k from e];exact⟨c.out.2.2.2.1 _ c.out.1.1,c.out.1.2.2.1,c.out.1.2.2.2,c.out.2.1⟩)
 have HR:=ah (MC sb k uw ⟨#[]⟩ _ _ _ _ _ _ _ _ w3 h3.sv rfl qm (fun e=>c.out.1.2.2.2 (qh e)) WO O4 h3.tb.2.1)
 have q9:=(aj.1 H2.out.2.2.2.1).1
 have D:=(B.block f q9 (fun e=>c.out.2.2.1.2.2.2.2.1 (qh e))).trans H2.out.2.2.2.1
 have jb:=(aj.1 D).1
 obtain⟨_,_,_,iO,_,_,_,eH⟩:=h3.wd.cells
 have q:=ah (au h3 (au B (au f3 D)))
 clear qm B h3 f3 D a3 al q9
 go_wp2_with (first
  |(go_at_call 12;go_must (refine HR.out.mono ?_;rintro e y ⟨rfl,V,tb,qC,fo,pV,S,l,z⟩;refine Stop.of ?_)))
 refine Stop.on ?_
 obtain⟨F4,f4,qy,h4⟩:=q.out.1.OV z (fun g e=>e.elim (fun e=>by rw[show g=sb from e];exact⟨q.out.1.nw.2.2.1,q.out.1.nw.2.2.2.2.symm,q.out.1.V4.2⟩) (fun e=>by rw[show g=k from e];exact⟨q.out.2.2.1 _ (c.out.2.2.2.1 _ c.out.1.1),c.out.1.2.2.1,c.out.2.1⟩)) qC q.out.1.tl
 have J:=(z.block f jb (fun e=>e.elim (fun e=>c.out.2.2.1.2.2.2.1 (qh e)) (fun e=>c.out.2.2.1.2.2.2.2.1 (qh e)))).trans q.out.2.2.2
 have j4:=(aj.1 J).1
 have p9:=q.out.1.sv.lt
 have I:∀b,V.ownBlock=some b->F4 b/\b≠sb:=fun b s=>⟨qy b (l.2 b s) (Xk S b s),fun e=>by have:=l.2 b s;omega⟩
 have dM:=ah (Ty h4.wd h4.vs.alive)
 obtain⟨_,_,_,c3,c4,c5,_,cl⟩:=h4.wd.cells
 have o:=I6 (aJ y.heap.size y)
 obtain⟨F5,f5,_,h5⟩:=h4.below o
 have p:=ah (au h5 (au pV (au S (au l (au z (au (show ∀g,F3 g->F5 g from fun g e=>f5 g (f4 g e)) (au J (fun b s=>(au (f5 b (I b s).1) (I b s).2:F5 b/\b≠sb)))))))))
 clear qC fo pV S l z f4 qy h4 J p9 I o f5 h5 iO eH
 go_upto_region 10 with (first
  |(go_at_call 39;go_must (refine dM.out.mono ?_;rintro e w5 ⟨rfl,hw⟩;subst w5)))
 refine aP (fun W=>W.cell? ⟨wb,3,none⟩=some (.pointer (some ⟨sb,0,none⟩))/\W.cell? ⟨wb,4,none⟩=some (.int .i64 now)/\W.cell? ⟨wb,5,none⟩=some (.int .i64 (dr+1))/\wb<W.heap.size) (fun i=> !([13,14].contains i)) [0,1,2,3,4,5,6,7,8,9,10,11,12,13,14,15,16,17,18,19] rfl (by kernel_rfl) ⟨c3,c4,c5,cl⟩ ?_
 repeat ((refine bE (v:= ?_) rfl rfl (fun _ _ _ h=>h) rfl (fun W j=> ?_) ?_);rotate_left;(focus ((try dsimp only at j);have p0:=j.1;have p1:=j.2.1;have p2:=j.2.2.1;have p3:=j.2.2.2;(go_simp;first|done|with_reducible rfl)));(try simp only[Act.put,ak,ay,ax]))
 refine bT rfl rfl rfl ?_;intro K hK;go_simp
 refine(PZ (dr+1) y.drew p.out.1.tb.2.2 (by omega)).mono ?_;rintro e w5 ⟨di,rfl,t⟩
 obtain⟨F6,f6,_,h6⟩:=p.out.1.below t
 obtain⟨_,_,_,d3,d4,d5,_,dl⟩:=h6.wd.cells
 have P:=Keep.of_below t (fun _=>False)
 have qO:xA w5 tb V:=(p.out.2.1.keep (Keep.of_below (I6 (aJ y.heap.size y)) (fun _=>False)) id).keep P id
 have av:lJ w5 V hsP:=bq.keep p.out.2.2.1 fun b s hl hs=>⟨((Keep.of_below (I6 (aJ y.heap.size y)) (fun _=>False)).trans P (M:=fun _=>False) (fun _ _ e=>e)).block b hl id,hs⟩
 have C:=Cr.UO h6 H2.out.2.2.2.2 tb _ V _ di rfl qO av (fun b s=>⟨f6 _ (p.out.2.2.2.2.2.2.2 b s).1,(p.out.2.2.2.2.2.2.2 b s).2⟩)
 have qo:=ah C
 have Z:=ah (au t (au f6 h6))
 clear C qO av P f6 h6 t
 refine hK.out _ _ ⟨d3,d4,d5,dl⟩ ?_
 (try simp only[Act.put,ak,ay,ax])
 repeat ((refine bE (v:= ?_) rfl rfl (fun _ _ _ h=>h) rfl (fun W j=> ?_) ?_);rotate_left;(focus ((try dsimp only at j);have p0:=j.1;have p1:=j.2.1;have p2:=j.2.2.1;have p3:=j.2.2.2;(go_simp;first|done|with_reducible rfl)));(try simp only[Act.put,ak,ay,ax]))
 refine bT rfl rfl rfl ?_;intro K hK;go_simp
 refine qo.out.mono ?_;rintro e w6 ⟨rfl,⟨F7,kb,f7,h7⟩,Y⟩
 obtain⟨_,_,_,g3,g4,g5,_,gl⟩:=h7.wd.cells
 refine hK.out _ _ ⟨g3,g4,g5,gl⟩ ?_
 (try simp only[Act.put,ak,ay,ax])
 repeat ((refine bE (v:= ?_) rfl rfl (fun _ _ _ h=>h) rfl (fun W j=> ?_) ?_);rotate_left;(focus ((try dsimp only at j);have p0:=j.1;have p1:=j.2.1;have p2:=j.2.2.1;have p3:=j.2.2.2;(go_simp;first|done|with_reducible rfl)));(try simp only[Act.put,ak,ay,ax]))
 refine bN ?_
 have O:F5 f:=p.out.2.2.2.2.2.1 _ (q.out.2.2.1 _ c.out.2.2.2.2.1)
 have Q:w5.heap[f]? =some (.cells #[.int .i64 0,.int .i64 0,.string ⟨#[]⟩,.int .i64 0] 45 (0,0)):=(Z.out.1.block f j4).trans p.out.2.2.2.2.2.2.1
 have ql:=(Y.block f (aj.1 Q).1 (fun e=>e.elim (fun e=>e (Z.out.2.1 _ O)) (fun e=>c.out.2.2.1.2.2.2.1 (qh e)))).trans Q
 have jv:Row w6 f 45 [.int .i64 0,.int .i64 0,.string ⟨#[]⟩,.int .i64 0]:=ql
 have H6:=ah (au Y (au f7 (au h7 O)))
 clear Y f7 h7 O Q ql
 go_wp2_with (first
  |((refine bS rfl ?_);intro K hK;(refine wp_store_row 45 (.tmp 4) (.tmp 60) rfl f 0 45 _ [.int .i64 0,.int .i64 201,.string ⟨#[]⟩,.int .i64 0] rfl rfl jv mW (aC 4) (by intro v V;simp only[aW,bQ,fJ] at V;rcases V with rfl|rfl|rfl|rfl<;>rfl) ?_);intro w7 ai X;refine hK _ _ ?_;refine Stop.of ?_))
 refine Stop.on ?_
 obtain⟨F8,f8,_,h8⟩:=H6.out.2.2.1.step X (fun g e=>by rw[show g=f from e];exact⟨H6.out.2.1 _ (Z.out.2.1 _ H6.out.2.2.2),c.out.2.2.1.2.2.1.symm,c.out.2.2.1.2.2.2.1.symm,c.out.2.2.1.2.1⟩)
 have rr:w7.heap[f]? =some (.cells #[.int .i64 0,.int .i64 201,.string ⟨#[]⟩,.int .i64 0] 45 (0,0)):=ai
 have e0:w7.cell? ⟨f,0,none⟩=some (.int .i64 0):=by simp[World.cell?,rr]
 have e1:w7.cell? ⟨f,1,none⟩=some (.int .i64 201):=by simp[World.cell?,rr]
 have e2:w7.cell? ⟨f,2,none⟩=some (.string ⟨#[]⟩):=by simp[World.cell?,rr]
 have e3:w7.cell? ⟨f,3,none⟩=some (.int .i64 0):=by simp[World.cell?,rr]
 have el:=(aj.1 rr).1
 have HE:=ah (au X (au f8 h8))
 clear ai X f8 h8
 go_wp2_with fail
 (try simp only[Exit.inBlock,Exit.then])
 refine dJ (gI rfl _ _ f _ rfl (jk _ f 45 45 _ (0,0) _ rr kr rfl (by kernel_rfl))) rfl ?_
 refine⟨rfl,⟨F8,kb,_,fun g e=>HE.out.2.1 _ (H6.out.2.1 _ (Z.out.2.1 _ (p.out.2.2.2.2.2.1 _ (q.out.2.2.1 _ (c.out.2.2.2.1 _ e))))),HE.out.2.2⟩,?_⟩
 have k1:=Keep.of_below H2.out.2.1 (fun g=>¬G g)
 have k2:=k1.trans H2.out.2.2.1 (fun g _ e=>by rw[show g=wb from e];exact c.out.2.2.2.2.2.1)
 have k3:=k2.trans q.out.2.1 (fun g _ e=>by rw[show g=k from e];exact c.out.1.2.1)
 have k4:=k3.trans p.out.2.2.2.2.1 (fun g _ e=>e.elim (fun e=>by rw[show g=sb from e];exact c.out.2.2.2.2.2.2) (fun e=>by rw[show g=k from e];exact c.out.1.2.1))
 have k5:=(k4.trans (Keep.of_below (I6 (aJ y.heap.size y)) (fun g=>¬G g)) (fun _ _ e=>e)).trans (Keep.of_below Z.out.1 (fun g=>¬G g)) (fun _ _ e=>e)
 have k6:=k5.trans H6.out.1 (fun g _ e=>e.elim (fun e x=>e (Z.out.2.1 _ (p.out.1.gf _ x))) (fun e=>by rw[show g=sb from e];exact c.out.2.2.2.2.2.2))
 exact k6.trans HE.out.1 (fun g _ e=>by rw[show g=f from e];exact c.out.2.2.1.2.2.2.2.2)
end
section
variable {F G:Nat->Prop} {wb d v sb N R:Nat} {now dr:Int} {past cur:Bool} {l0:jW} {T:List jW} {on:Option Nat} {w w':World}
theorem Du (c:Nat)(P:List Nat)(a:(c::P).length=16):∃T,newL (c::P)=JS c::T/\T.length=15/\∀l∈T,l.n=0/\l.held=⟨#[]⟩/\l.out=⟨#[]⟩:=by
 refine⟨P.map JS++List.replicate (16 - (c::P).length) XG,rfl,?_,fun l b=>Pq (c::P) l ?_⟩
 ·rw[a]
  simp only[aZ] at a
  simp;omega
 ·exact bn _ b
theorem DV.below {b:gW}{log dn u:Nat}{kv:List Pr}(h:DV b d log N dn u kv w)(e:Below w.heap.size w w'):DV b d log N dn u kv w':=by
 obtain⟨n,g,C,f,a,j,i,l,c,m,k,o⟩:=h
 exact⟨n,g,C,f,a,j,i,l,c,m.below e,k.below e,o⟩
theorem WI.anew {s r:Nat->Prop}{C H f m p:World}{o a b:Nat}{P:List Nat}(h:WI s G wb d v sb N R now dr past cur l0 T on C)(j:Keep (fun g=>¬s g) C H)(l:∀g,s g->r g)(F:Cr r d o N R past past f)(n:Keep (fun g=>¬r g) H f)(y:ji m a (.pointer (some ⟨o,0,none⟩)) (newL (b::P)) (.int .u32 0) (.int .i32 0) (.slice none 0 0))(I:(b::P).length=16)
  (hC:lD m b ⟨#[]⟩/\f.heap.size<b) (k:f.heap.size=a) (D:Below f.heap.size f m) (i:Keep (· =wb) m p) (A:nG p wb d (R+1) o a now dr):
  ∃q B,(∀g,r g->q g)/\(∀g,f.heap.size<=g->g<m.heap.size->q g)/\WI q G wb d o a N R now dr past past (JS b) B none p/\lD p b ⟨#[]⟩/\q b/\¬G b/\b≠wb/\b≠a:=by
 obtain⟨B,M,K⟩:=Du b P I
 rw[M] at y
 have Q:wb<f.heap.size:=aA (aA h.wd.lt j.size) n.size
 have t:=(aj.1 hC.1).1
 have E:∀g,f.heap.size<=g->¬G g:=fun g J x=>absurd (F.fs (l _ (h.gf _ x))) (aX.2 J)
 have c:wb≠a/\b≠wb/\b≠a:=by have:=hC.2;omega
 have z:=y.lt
 refine⟨_,B,fun _ e=> .inl (.inl e),fun g S O=> .inl (.inr ⟨S,O⟩),⟨(F.next (Keep.of_below D (fun _=>False)) (fun _ e=>e.elim)).next i fun g e=>(by rw[show g=wb from e];exact .inl (l _ h.nw.1)),A,y.keep i (fun e=>c.1 (qh e)),K,fun g e=> .inl (.inl (l _ (h.gf g e))),⟨.inl (.inl (l _ h.nw.1)),h.nw.2.1,.inl (.inr ⟨eO k,z⟩),E _ (eO k),c.1⟩,h.gl,?_,h.nr⟩,hC.1.keep i (fun e=>c.2.1 e),.inl (.inr ⟨gJ hC.2,t⟩),E _ (gJ hC.2),c.2.1,c.2.2⟩
 exact jr (jr (jr (jr h.tb j fun g e x=>e (h.gf _ (h.gl _ x))) n fun g e x=>e (l _ (h.gf _ (h.gl _ x)))) (Keep.of_below D (fun _=>False)) fun _ e=>e.elim) i fun g e=>(by rw[show g=wb from e];exact h.V4.1)
theorem JF {b:gW}{u0:Nat}(h:DV b d (R+1) N (CB past) u0 (Sj past) w)(m:past=false->u0=0)(y:12<=N/\5<=R):
  Calls Tryz.prog 75 #[.pointer (some ⟨d,0,none⟩),.int .i64 ((R+1:Nat):Int)] w fun e w'=>∃v,e= .returned (.tuple #[.pointer (some ⟨v,0,none⟩),.int .i64 0])/\Cr b.F d v N R past past w'/\Keep (fun g=>¬b.F g) w w':=by
 have t:VB ⟨b.F,w,b.D⟩ w (fun _=>False):=⟨rfl,rfl,rfl,aC _,fun _ _=>rfl,fun g i=> ?_,fun _ e=>e.elim⟩
 ·have k:DV ⟨b.F,w,b.D⟩ d (R+1) N (CB past) u0 (Sj past) w:=by
   obtain⟨s,o,C,f,c,q,p,l,j,r,a,x⟩:=h
   exact⟨s,o,C,f,c,q,p,l,j,r,⟨rfl,rfl,rfl,aC _,fun _ _=>rfl,fun g i=>aA (a.fs g i) a.size,a.lo⟩,x⟩
  refine(k.reopen (by omega) (by omega) (Ke past) (Si past)).mono ?_
  rintro e w' ⟨v,rfl,n⟩
  exact⟨v,rfl,⟨u0,u0,n.re fun g i=>i,m,m⟩,n.BS⟩
 ·obtain⟨_,_,_,_,_,_,_,_,_,_,a,_⟩:=h
  exact aA (a.fs g i) a.size
theorem Us (h:WI F G wb d v sb N R now dr past cur l0 T on w):
  Calls Tryz.prog 41 #[.pointer (some ⟨wb,0,none⟩),kQ 8 0 ⟨#[]⟩ 0] w fun e w'=>e= .returned (qE 0 0 ⟨#[]⟩ (CB past))/\(∃F' C f s T',(∀g,F g->F' g)/\WI F' G wb d C f N R now dr past past (JS s) T' none w'/\lD w' s ⟨#[]⟩/\F' s/\¬G s/\s≠wb/\s≠f)/\Keep (fun g=>¬G g) w w':=by
 have y:=rG w #[.int .i64 8,.int .i64 0,.string ⟨#[]⟩,.int .i64 0,.slice none 0 0,.slice none 0 0] #[.int .i64 0,.int .i64 0,.string ⟨#[]⟩,.int .i64 0] 49 45
 dsimp only at y
 obtain⟨w2,qo⟩:∃x:World,Hid ((w.alloc (.cells #[.int .i64 8,.int .i64 0,.string ⟨#[]⟩,.int .i64 0,.slice none 0 0,.slice none 0 0] 49)).alloc (.cells #[.int .i64 0,.int .i64 0,.string ⟨#[]⟩,.int .i64 0] 45)=x):=⟨_,ah rfl⟩
 rw[qo.out] at y
 obtain⟨a,Q⟩:∃x:Nat,Hid (w.heap.size=x):=⟨_,ah rfl⟩
 rw[Q.out] at y
 obtain⟨n,I,jb,t⟩:=y
 have hq:=Q.out
 have t:Below w.heap.size w w2:=by rw[hq];exact t
 have o:Below w.heap.size w w2.drew:=t.drew
 obtain⟨F2,f2,p9,h2⟩:=h.below o
 have fo:=h.wd.lt
 have dM:=h.sv.lt
 have sl:=(aj.1 n).1
 have rl:=(aj.1 I).1
 have q8:F2 a/\F2 (a+1)/\¬Gl (a+1)/\wb≠a+1/\sb≠a+1/\¬G (a+1)/\wb≠a/\sb≠a:=⟨p9 _ (by omega) sl,p9 _ (by omega) rl,h.TM (by omega),by omega,by omega,h.ng (by omega),by omega,by omega⟩
 have s4:w2.cell? ⟨a,4,none⟩=some (.slice none 0 0):=by simp[World.cell?,n]
 have s5:w2.cell? ⟨a,5,none⟩=some (.slice none 0 0):=by simp[World.cell?,n]
 have HC:=ah h2.vs.mD
 obtain⟨a0,_,_,_,_,_,_,al⟩:=h2.wd.cells
 have r:=ah (au I (au n (au o (au f2 (au h2 (au h.nw.2.1 hq))))))
 have A:=ah q8
 have j5:=ah (au h.gf (fun g (hg:w.heap.size<=g)=>h.ng hg))
 clear h n I t o f2 p9 h2 fo dM q8
 go_enter Tryz.func41,Tryz.ntmps41
 rw[show kQ 8 0 ⟨#[]⟩ 0= .agg #[.int .i64 8,.int .i64 0,.string ⟨#[]⟩,.int .i64 0,.slice none 0 0,.slice none 0 0] from rfl]
 go_upto_region 1 with (fail)
 rw[qo.out]
 try rw[Q.out]
 refine aP (fun W=>(W.cell? ⟨wb,0,none⟩=some (.pointer (some ⟨d,0,none⟩))/\wb<W.heap.size)/\(W.cell? ⟨a,4,none⟩=some (.slice none 0 0)/\a<W.heap.size)) (fun i=> !([6].contains i)) [0,1,2,3,4,5,6] rfl (by kernel_rfl) ⟨⟨a0,al⟩,s4,sl⟩ ?_
 repeat ((refine bE (v:= ?_) rfl rfl (fun _ _ _ h=>h) rfl (fun W b=> ?_) ?_);rotate_left;(focus ((try dsimp only at b);have p0:=b.1.1;have p1:=b.1.2;have p2:=b.2.1;have p3:=b.2.2;(go_simp;first|done|with_reducible rfl)));(try simp only[Act.put,ak,ay,ax]))
 refine bT rfl rfl rfl ?_;intro K hK;go_simp
 refine HC.out.mono ?_;rintro e w3 ⟨rfl,⟨u0,qm,av⟩,m⟩
 have X:=r.out.2.2.2.2.1.wd.keep m (fun e=>e r.out.2.2.2.2.1.nw.1)
 obtain⟨b0,b1,_,_,_,_,_,bl⟩:=X.cells
 have eH:=(m.cell (p:=⟨a,4,none⟩) sl (fun e=>e A.out.1)).trans s4
 have j3:=(m.cell (p:=⟨a,5,none⟩) sl (fun e=>e A.out.1)).trans s5
 have iO:=aA sl m.size
 have HO:=ah (fun (W:World) (b:DV ⟨F2,w2.drew,Aa d N (CB past) u0 (Sj past)⟩ d (R+1) N (CB past) u0 (Sj past) W)=>JF b av r.out.2.2.2.2.1.nr)
 have j:=ah (au qm (au m X))
 refine hK.out _ _ ⟨⟨b0,bl⟩,eH,iO⟩ ?_
 clear qm av m X
 (try simp only[Act.put,ak,ay,ax])
 refine bN ?_
 go_wp2
 go_loopw [24] (fun i wr=>i= .int .i64 0/\wr=w3) (fun _ _=>0)
 case atStart=>exact⟨rfl,rfl⟩
 case round=>
  obtain⟨rfl,d9⟩:=hrel
  subst d9
  go_upto_region 9 with (fail)
  obtain⟨b0,b1,b2,b3,b4,b5,bf,bl⟩:=j.out.2.2.cells
  have q9:Below wr.heap.size wr wr.drew:=(aJ wr.heap.size wr).drew
  refine aP (fun W=>W.cell? ⟨wb,0,none⟩=some (.pointer (some ⟨d,0,none⟩))/\W.cell? ⟨wb,1,none⟩=some (.int .i64 ((R+1:Nat):Int))/\wb<W.heap.size) (fun i=> !([8].contains i)) [0,1,2,3,4,5,6,7,8,9,10,11,12,13] rfl (by kernel_rfl) ⟨b0,b1,bl⟩ ?_
  repeat ((refine bE (v:= ?_) rfl rfl (fun _ _ _ h=>h) rfl (fun W b=> ?_) ?_);rotate_left;(focus ((try dsimp only at b);have p0:=b.1;have p1:=b.2.1;have p2:=b.2.2;(go_simp;first|done|with_reducible rfl)));(try simp only[Act.put,ak,ay,ax]))
  refine bT rfl rfl rfl ?_;intro K hK;go_simp
  refine(HO.out wr.drew (j.out.1.below q9)).mono ?_;rintro e w4 ⟨C,rfl,ql,qO⟩
  have k:Keep (fun g=>¬F2 g) wr w4:=(Keep.of_below q9 (fun g=>¬F2 g)).trans qO (fun _ _ e=>e)
  have Z:=j.out.2.2.keep k (fun e=>e r.out.2.2.2.2.1.nw.1)
  obtain⟨s,c1,_,_,_,_,cf,cl⟩:=Z.cells
  have qc:=(k.block (a+1) (aA rl j.out.2.1.size) (fun e=>e A.out.2.1)).trans ((j.out.2.1.block (a+1) rl (fun e=>e A.out.2.1)).trans r.out.1)
  have H4:=ah (au ql (au k (au Z qc)))
  refine hK.out _ _ ⟨s,c1,cl⟩ ?_
  clear ql qO k Z qc b0 b1 b2 b3 b4 b5 bf bl s c1 cf cl
  (try simp only[Act.put,ak,ay,ax])
  repeat ((refine bE (v:= ?_) rfl rfl (fun _ _ _ h=>h) rfl (fun W b=> ?_) ?_);rotate_left;(focus ((try dsimp only at b);have p0:=b.1;have p1:=b.2.1;have p2:=b.2.2;(go_simp;first|done|with_reducible rfl)));(try simp only[Act.put,ak,ay,ax]))
  refine bN ?_
  go_wp2_with (first
   |(go_at_call 15;go_must (refine(WK (some ⟨C,0,none⟩) w4).mono ?_;rintro e w5 ⟨rfl,P,hP,M,qy,l⟩;refine Stop.of ?_)))
  refine Stop.on ?_
  obtain⟨f,z⟩:∃x:Nat,Hid (w4.heap.size=x):=⟨_,ah rfl⟩
  rw[z.out] at M
  rw[z.out]
  obtain⟨cc,P,rfl⟩:∃c P',P=c::P':=by
   cases P with
   |nil=>exact absurd hP (by decide)
   |cons c P=>exact⟨c,P,rfl⟩
  have S:=qy cc (aY ..)
  have Y:=H4.out.2.2.1.keep (Keep.of_below l (fun _=>False)) id
  obtain⟨_,_,_,_,_,_,cf,cl⟩:=Y.cells
  have jv:=cf 2
  have j4:=cf 3
  have af:=Y.XR C
  have bg:=si w5 wb 2 (.pointer (some ⟨C,0,none⟩))
  have J:=af.qP f
  have q:=bg.trans (si (w5.setCell ⟨wb,2,none⟩ (.pointer (some ⟨C,0,none⟩))) wb 3 (.pointer (some ⟨f,0,none⟩))) (fun _ _ e=>e)
  obtain⟨w7,E⟩:∃x:World,Hid ((w5.setCell ⟨wb,2,none⟩ (.pointer (some ⟨C,0,none⟩))).setCell ⟨wb,3,none⟩ (.pointer (some ⟨f,0,none⟩))=x):=⟨_,ah rfl⟩
  rw[E.out] at J q
  obtain⟨F7,T7,f7,di,h7,qf⟩:=WI.anew r.out.2.2.2.2.1 j.out.2.1 (fun _ e=>e) H4.out.1 (((Keep.refl (fun g=>¬F2 g) wr).trans H4.out.2.1 (fun _ _ e=>e))) M hP S z.out l q J
  have O:a+1<w4.heap.size:=(aj.1 H4.out.2.2.2).1
  have D:=(q.block (a+1) (aA O l.size) (fun e=>A.out.2.2.2.1 (qh e))).trans ((l.block (a+1) O).trans H4.out.2.2.2)
  have eZ:Row w7 (a+1) 45 [.int .i64 0,.int .i64 0,.string ⟨#[]⟩,.int .i64 0]:=D
  have ai:f≠a+1/\cc≠a+1:=by have:=z.out;have:=S.2;omega
  have dn:=ah h7.vs.done
  have H:=ah (au l (au q (au f7 (au h7 (au qf ai)))))
  clear M qy S Y af bg J q f7 di h7 qf O D l ai cf
  go_upto_region 11 with (fail)
  rw[E.out]
  go_wp2_with (first
   |(go_at_call 45;go_must (refine dn.out.mono ?_;rintro e V ⟨rfl,hw⟩;subst V))
   |((refine bS rfl ?_);intro K hK;(refine wp_store_row 45 (.tmp 4) (.tmp 76) rfl (a+1) 0 45 _ [.int .i64 0,.int .i64 0,.string ⟨#[]⟩,.int .i64 (CB past:Int)] rfl rfl eZ mW (aC 4) (by intro v hv;simp only[aW,bQ,fJ] at hv;rcases hv with rfl|rfl|rfl|rfl<;>rfl) ?_);intro V qC pV;refine hK _ _ ?_;refine Stop.of ?_))
  refine Stop.on ?_
  obtain⟨F8,f8,_,h8⟩:=H.out.2.2.2.1.step pV (fun g e=>by rw[show g=a+1 from e];exact⟨H.out.2.2.1 _ A.out.2.1,A.out.2.2.2.1.symm,H.out.2.2.2.2.2.1.symm,A.out.2.2.1⟩)
  have rr:V.heap[a+1]? =some (.cells #[.int .i64 0,.int .i64 0,.string ⟨#[]⟩,.int .i64 (CB past:Int)] 45 (0,0)):=qC
  have e0:V.cell? ⟨a+1,0,none⟩=some (.int .i64 0):=by simp[World.cell?,rr]
  have e1:V.cell? ⟨a+1,1,none⟩=some (.int .i64 0):=by simp[World.cell?,rr]
  have e2:V.cell? ⟨a+1,2,none⟩=some (.string ⟨#[]⟩):=by simp[World.cell?,rr]
  have e3:V.cell? ⟨a+1,3,none⟩=some (.int .i64 (CB past:Int)):=by simp[World.cell?,rr]
  have el:=(aj.1 rr).1
  have HE:=ah (au pV (au f8 h8))
  clear qC pV f8 h8
  go_wp2_with fail
  (try simp only[Exit.inBlock,Exit.then])
  refine dJ (gI rfl _ _ (a+1) _ rfl (jk _ (a+1) 45 45 _ (0,0) _ rr kr rfl (by kernel_rfl))) rfl ?_
  obtain⟨q1,q2,q3,q4,q5⟩:=H.out.2.2.2.2.1
  refine⟨rfl,⟨F8,C,f,cc,T7,fun g e=>HE.out.2.1 _ (H.out.2.2.1 _ (r.out.2.2.2.1 _ e)),HE.out.2.2,q1.keep HE.out.1 (fun e=>H.out.2.2.2.2.2.2 e),HE.out.2.1 _ q2,q3,q4,q5⟩,?_⟩
  have B:∀g,G g->F2 g:=r.out.2.2.2.2.1.gf
  have k2:=Keep.of_below r.out.2.2.1 (fun g=>¬G g)
  have k4:=(k2.trans j.out.2.1 (fun g _ e x=>e (B g x))).trans H4.out.2.1 (fun g _ e x=>e (B g x))
  have k5:=k4.trans (Keep.of_below H.out.1 (fun g=>¬G g)) (fun _ _ e=>e)
  have k7:=k5.trans H.out.2.1 (fun g _ e=>by rw[show g=wb from e];exact r.out.2.2.2.2.2.1)
  exact k7.trans HE.out.1 (fun g _ e=>by rw[show g=a+1 from e];exact A.out.2.2.2.2.2.1)
end
section
variable {F G:Nat->Prop} {wb d v sb N R:Nat} {now dr:Int} {past cur:Bool} {l0:jW} {T:List jW} {on:Option Nat} {w:World}
theorem VE {A:Nat}(h:WI F G wb d v sb N R now dr false false (JS A) T none w)(hc:lD w A uw)(P:F A/\¬G A/\A≠wb/\A≠sb)(pV:0<=dr/\dr<=1000)(W:13<=R):
  Calls Tryz.prog 18 #[.pointer (some ⟨wb,0,none⟩),kQ 2 0 ⟨#[]⟩ 0] w fun e w'=>e= .returned (qE 0 201 ⟨#[]⟩ 0)/\(∃F' kb C,(∀g,F g->F' g)/\WI F' G wb d v sb N R now (dr+1) false true ⟨C,.pointer none,kU,1,⟨#[]⟩⟩ T (some kb) w')/\Keep (fun g=>¬G g) w w':=by
 have m:=rG w #[.int .i64 2,.int .i64 0,.string ⟨#[]⟩,.int .i64 0,.slice none 0 0,.slice none 0 0] #[.int .i64 0,.int .i64 0,.string ⟨#[]⟩,.int .i64 0] 49 45
 dsimp only at m
 obtain⟨r,O⟩:∃x:World,Hid ((w.alloc (.cells #[.int .i64 2,.int .i64 0,.string ⟨#[]⟩,.int .i64 0,.slice none 0 0,.slice none 0 0] 49)).alloc (.cells #[.int .i64 0,.int .i64 0,.string ⟨#[]⟩,.int .i64 0] 45)=x):=⟨_,ah rfl⟩
 rw[O.out] at m
 obtain⟨a,z⟩:∃x:Nat,Hid (w.heap.size=x):=⟨_,ah rfl⟩
 rw[z.out] at m
 obtain⟨b,k,qm,c⟩:=m
 have hq:=z.out
 have c:Below w.heap.size w r:=by rw[hq];exact c
 have p:Below w.heap.size w r:=c
 obtain⟨V,Z,B,Q⟩:=h.below p
 have p9:=h.wd.lt
 have qc:=h.sv.lt
 have sl:=(aj.1 b).1
 have rl:=(aj.1 k).1
 have l:V a/\V (a+1)/\¬Gl (a+1)/\wb≠a+1/\sb≠a+1/\¬G (a+1)/\wb≠a/\sb≠a:=⟨B _ (by omega) sl,B _ (by omega) rl,h.TM (by omega),by omega,by omega,h.ng (by omega),by omega,by omega⟩
 have s0:r.cell? ⟨a,0,none⟩=some (.int .i64 2):=by simp[World.cell?,b]
 have s1:r.cell? ⟨a,1,none⟩=some (.int .i64 0):=by simp[World.cell?,b]
 have s2:r.cell? ⟨a,2,none⟩=some (.string ⟨#[]⟩):=by simp[World.cell?,b]
 have s3:r.cell? ⟨a,3,none⟩=some (.int .i64 0):=by simp[World.cell?,b]
 have rf:∀i,r.frozen? ⟨a+1,i,none⟩=false:=fun i=>by simp[World.frozen?,k]
 have I:=hc.keep (Keep.of_below c (fun _=>False)) id
 obtain⟨j,J⟩:∃j:Nat->Prop,Hid (j=fun g=>G g\/g=a\/g=a+1):=⟨_,ah rfl⟩
 have f:(∀g,j g->V g)/\(¬j wb/\¬j sb)/\(∀g,Gl g->j g)/\¬j A:=by
  have qf:=(aj.1 hc).1
  rw[J.out]
  exact⟨fun g e=>e.elim (Q.gf g) (fun e=>e.elim (fun e=>e▸l.1) (fun e=>e▸l.2.1)),⟨fun e=>e.elim h.nw.2.1 (fun e=>by omega),fun e=>e.elim h.nw.2.2.2.1 (fun e=>by omega)⟩,fun g e=> .inl (h.gl g e),fun e=>e.elim P.2.1 (fun e=>by omega)⟩
 have HR:=ah (XL (Q.WN f.1 f.2.1 f.2.2.1) I ⟨Z _ P.1,f.2.2.2,P.2.2⟩ pV W)
 have hG:∀g,G g\/g=a\/g=a+1->j g:=fun g e=>by rw[J.out];exact e
 obtain⟨_,_,_,_,_,_,_,al⟩:=Q.wd.cells
 have o:=ah (au k (au c (au Z (au h.gl (au hG l)))))
 clear h hc P b k c p Z B Q I p9 qc l f hG
 go_enter CF,yZ
 rw[show kQ 2 0 ⟨#[]⟩ 0= .agg #[.int .i64 2,.int .i64 0,.string ⟨#[]⟩,.int .i64 0,.slice none 0 0,.slice none 0 0] from rfl]
 go_upto_region 1 with (fail)
 rw[O.out]
 try rw[z.out]
 go_wp2_with (first
  |(go_at_call 38;go_must (refine HR.out.mono ?_;rintro e w3 ⟨rfl,⟨F3,kb,C,f3,q⟩,s⟩;refine Stop.of ?_)))
 refine Stop.on ?_
 have t:j (a+1):=o.out.2.2.2.2.1 _ (.inr (.inr rfl))
 have X:Row w3 (a+1) 45 [.int .i64 0,.int .i64 0,.string ⟨#[]⟩,.int .i64 0]:=(s.block (a+1) rl (fun e=>e t)).trans o.out.1
 have E:=ah (au s (au f3 (au q t)))
 clear s f3 q t
 go_wp2_with (first
  |((refine bS rfl ?_);intro K hK;(refine wp_store_row 45 (.tmp 4) (.tmp 32) rfl (a+1) 0 45 _ [.int .i64 0,.int .i64 201,.string ⟨#[]⟩,.int .i64 0] rfl rfl X mW (aC 4) (by intro v hv;simp only[aW,bQ,fJ] at hv;rcases hv with rfl|rfl|rfl|rfl<;>rfl) ?_);intro H Y M;refine hK _ _ ?_;refine Stop.of ?_))
 refine Stop.on ?_
 have q:=E.out.2.2.1
 obtain⟨F4,f4,_,y⟩:=q.step M (fun g e=>by rw[show g=a+1 from e];exact⟨q.gf _ E.out.2.2.2,fun e=>q.nw.2.1 (e▸E.out.2.2.2),fun e=>q.nw.2.2.2.1 (e▸E.out.2.2.2),o.out.2.2.2.2.2.2.2.1⟩)
 have D:H.heap[a+1]? =some (.cells #[.int .i64 0,.int .i64 201,.string ⟨#[]⟩,.int .i64 0] 45 (0,0)):=Y
 have e0:H.cell? ⟨a+1,0,none⟩=some (.int .i64 0):=by simp[World.cell?,D]
 have e1:H.cell? ⟨a+1,1,none⟩=some (.int .i64 201):=by simp[World.cell?,D]
 have e2:H.cell? ⟨a+1,2,none⟩=some (.string ⟨#[]⟩):=by simp[World.cell?,D]
 have e3:H.cell? ⟨a+1,3,none⟩=some (.int .i64 0):=by simp[World.cell?,D]
 have S:=ah (au M (au f4 y))
 have ql:=(aj.1 D).1
 clear q y f4
 go_wp2_with fail
 (try simp only[Exit.inBlock,Exit.then])
 refine dJ (gI rfl _ _ (a+1) _ rfl (jk _ (a+1) 45 45 _ (0,0) _ D kr rfl (by kernel_rfl))) rfl ?_
 have n:∀g,G g->j g:=fun g e=>o.out.2.2.2.2.1 _ (.inl e)
 have y:=S.out.2.2
 refine⟨rfl,⟨F4,kb,C,fun g e=>S.out.2.1 _ (E.out.2.1 _ (o.out.2.2.1 _ e)),y.WN (fun g e=>y.gf _ (n g e)) ⟨fun e=>y.nw.2.1 (n _ e),fun e=>y.nw.2.2.2.1 (n _ e)⟩ o.out.2.2.2.1⟩,?_⟩
 exact((Keep.of_below o.out.2.1 (fun g=>¬G g)).trans E.out.1 (fun g _ e x=>e (n g x))).trans S.out.1 (fun g _ e=>by rw[show g=a+1 from e];exact o.out.2.2.2.2.2.2.2.2.2.2.1)
theorem Qo (h:WI F G wb d v sb N R now dr past cur l0 T on w):
  Calls Tryz.prog 18 #[.pointer (some ⟨wb,0,none⟩),kQ 8 0 ⟨#[]⟩ 0] w fun e w'=>e= .returned (qE 0 0 ⟨#[]⟩ (CB past))/\(∃F' v' q n T',(∀g,F g->F' g)/\WI F' G wb d v' q N R now dr past past (JS n) T' none w'/\lD w' n ⟨#[]⟩/\F' n/\¬G n/\n≠wb/\n≠q)/\Keep (fun g=>¬G g) w w':=by
 have p:=rG w #[.int .i64 8,.int .i64 0,.string ⟨#[]⟩,.int .i64 0,.slice none 0 0,.slice none 0 0] #[.int .i64 0,.int .i64 0,.string ⟨#[]⟩,.int .i64 0] 49 45
 dsimp only at p
 obtain⟨l,H⟩:∃x:World,Hid ((w.alloc (.cells #[.int .i64 8,.int .i64 0,.string ⟨#[]⟩,.int .i64 0,.slice none 0 0,.slice none 0 0] 49)).alloc (.cells #[.int .i64 0,.int .i64 0,.string ⟨#[]⟩,.int .i64 0] 45)=x):=⟨_,ah rfl⟩
 rw[H.out] at p
 obtain⟨a,z⟩:∃x:Nat,Hid (w.heap.size=x):=⟨_,ah rfl⟩
 rw[z.out] at p
 obtain⟨b,j,qc,c⟩:=p
 have hq:=z.out
 have c:Below w.heap.size w l:=by rw[hq];exact c
 have t:Below w.heap.size w l:=c
 obtain⟨F2,f2,D,S⟩:=h.below t
 have p9:=h.wd.lt
 have pV:=h.sv.lt
 have sl:=(aj.1 b).1
 have rl:=(aj.1 j).1
 have o:F2 a/\F2 (a+1)/\¬Gl (a+1)/\wb≠a+1/\sb≠a+1/\¬G (a+1)/\wb≠a/\sb≠a:=⟨D _ (by omega) sl,D _ (by omega) rl,h.TM (by omega),by omega,by omega,h.ng (by omega),by omega,by omega⟩
 have s0:l.cell? ⟨a,0,none⟩=some (.int .i64 8):=by simp[World.cell?,b]
 have s1:l.cell? ⟨a,1,none⟩=some (.int .i64 0):=by simp[World.cell?,b]
 have s2:l.cell? ⟨a,2,none⟩=some (.string ⟨#[]⟩):=by simp[World.cell?,b]
 have s3:l.cell? ⟨a,3,none⟩=some (.int .i64 0):=by simp[World.cell?,b]
 have rf:∀i,l.frozen? ⟨a+1,i,none⟩=false:=fun i=>by simp[World.frozen?,j]
 obtain⟨m,Q⟩:∃m:Nat->Prop,Hid (m=fun g=>G g\/g=a\/g=a+1):=⟨_,ah rfl⟩
 have k:(∀g,m g->F2 g)/\(¬m wb/\¬m sb)/\(∀g,Gl g->m g):=by
  rw[Q.out]
  exact⟨fun g e=>e.elim (S.gf g) (fun e=>e.elim (fun e=>e▸o.1) (fun e=>e▸o.2.1)),⟨fun e=>e.elim h.nw.2.1 (fun e=>by omega),fun e=>e.elim h.nw.2.2.2.1 (fun e=>by omega)⟩,fun g e=> .inl (h.gl g e)⟩
 have HR:=ah (Us (S.WN k.1 k.2.1 k.2.2))
 have hG:∀g,G g\/g=a\/g=a+1->m g:=fun g e=>by rw[Q.out];exact e
 obtain⟨_,_,_,_,_,_,_,al⟩:=S.wd.cells
 have s4:l.cell? ⟨a,4,none⟩=some (.slice none 0 0):=by simp[World.cell?,b]
 have s5:l.cell? ⟨a,5,none⟩=some (.slice none 0 0):=by simp[World.cell?,b]
 have r:=ah (au j (au c (au f2 (au h.gl (au hG o)))))
 clear h b j c t f2 D S p9 pV o k hG
 go_enter CF,yZ
 rw[show kQ 8 0 ⟨#[]⟩ 0= .agg #[.int .i64 8,.int .i64 0,.string ⟨#[]⟩,.int .i64 0,.slice none 0 0,.slice none 0 0] from rfl]
 go_upto_region 1 with (fail)
 rw[H.out]
 try rw[z.out]
 go_wp2_with (first
  |(go_at_call 41;go_must (refine HR.out.mono ?_;rintro e w3 ⟨rfl,⟨F3,v',q,n,T',f3,s,M,W,V,I,X⟩,C⟩;refine Stop.of ?_)))
 refine Stop.on ?_
 have y:m (a+1):=r.out.2.2.2.2.1 _ (.inr (.inr rfl))
 have Y:Row w3 (a+1) 45 [.int .i64 0,.int .i64 0,.string ⟨#[]⟩,.int .i64 0]:=(C.block (a+1) rl (fun e=>e y)).trans r.out.1
 have B:=ah (au C (au f3 (au s (au y (au M (au W (au V (au I X))))))))
 clear C f3 s y M W V I X
 go_wp2_with (first
  |((refine bS rfl ?_);intro K hK;(refine wp_store_row 45 (.tmp 4) (.tmp 116) rfl (a+1) 0 45 _ [.int .i64 0,.int .i64 0,.string ⟨#[]⟩,.int .i64 (CB past:Int)] rfl rfl Y mW (aC 4) (by intro v hv;simp only[aW,bQ,fJ] at hv;rcases hv with rfl|rfl|rfl|rfl<;>rfl) ?_);intro J Z O;refine hK _ _ ?_;refine Stop.of ?_))
 refine Stop.on ?_
 have s:=B.out.2.2.1
 obtain⟨F4,f4,_,A⟩:=s.step O (fun g e=>by rw[show g=a+1 from e];exact⟨s.gf _ B.out.2.2.2.1,fun e=>s.nw.2.1 (e▸B.out.2.2.2.1),fun e=>s.nw.2.2.2.1 (e▸B.out.2.2.2.1),r.out.2.2.2.2.2.2.2.1⟩)
 have E:J.heap[a+1]? =some (.cells #[.int .i64 0,.int .i64 0,.string ⟨#[]⟩,.int .i64 (CB past:Int)] 45 (0,0)):=Z
 have e0:J.cell? ⟨a+1,0,none⟩=some (.int .i64 0):=by simp[World.cell?,E]
 have e1:J.cell? ⟨a+1,1,none⟩=some (.int .i64 0):=by simp[World.cell?,E]
 have e2:J.cell? ⟨a+1,2,none⟩=some (.string ⟨#[]⟩):=by simp[World.cell?,E]
 have e3:J.cell? ⟨a+1,3,none⟩=some (.int .i64 (CB past:Int)):=by simp[World.cell?,E]
 have P:=ah (au O (au f4 A))
 have qf:=(aj.1 E).1
 clear s A f4
 go_wp2_with fail
 (try simp only[Exit.inBlock,Exit.then])
 refine dJ (gI rfl _ _ (a+1) _ rfl (jk _ (a+1) 45 45 _ (0,0) _ E kr rfl (by kernel_rfl))) rfl ?_
 have f:∀g,G g->m g:=fun g e=>r.out.2.2.2.2.1 _ (.inl e)
 have A:=P.out.2.2
 obtain⟨q0,W,V,I,X⟩:=B.out.2.2.2
 refine⟨rfl,⟨F4,v',q,n,T',fun g e=>P.out.2.1 _ (B.out.2.1 _ (r.out.2.2.1 _ e)),A.WN (fun g e=>A.gf _ (f g e)) ⟨fun e=>A.nw.2.1 (f _ e),fun e=>A.nw.2.2.2.1 (f _ e)⟩ r.out.2.2.2.1,W.keep P.out.1 (fun e=>I (by rw[show n=a+1 from e];exact q0)),P.out.2.1 _ V,fun e=>I (f _ e),X⟩,?_⟩
 exact((Keep.of_below r.out.2.1 (fun g=>¬G g)).trans B.out.1 (fun g _ e x=>e (f g x))).trans P.out.1 (fun g _ e=>by rw[show g=a+1 from e];exact r.out.2.2.2.2.2.2.2.2.2.2.1)
end
end Go.Proofs.YtpmbddooibgnaaaGreatDoor
