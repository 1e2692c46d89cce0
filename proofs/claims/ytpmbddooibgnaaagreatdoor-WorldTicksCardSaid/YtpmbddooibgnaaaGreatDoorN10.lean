/- parts -/
import Derived.Test.YtpmbddooibgnaaaGreatDoorN9
set_option maxRecDepth 100000
set_option maxHeartbeats 8000000
set_option linter.all false
namespace Go.Proofs.YtpmbddooibgnaaaGreatDoor
open Go.RowKit
theorem Uq (b d:Nat)(l:Lg)(S:Nat->Prop)(j:Option Addr)(n k:Nat)(x:Bool)(c:Int)(w:World)(h:oD w S b d l (.slice j n k) x c):
  Calls Tryz.prog 235 #[.pointer (some ⟨b,0,none⟩)] w fun e q=>∃g,e= .returned (.pointer (some ⟨g,0,none⟩))/\w.heap.size<=g/\Row q g 389 [.int .i64 l.start,.int .i64 l.used,.slice j n k]/\Below w.heap.size w q:=by
 obtain⟨_,_,_,m,r,o,_,_,_,a,_⟩:=h.cells
 have s:w.drew.cell? ⟨b,3,none⟩=some (.int .i64 l.start):=m
 have t:w.drew.cell? ⟨b,4,none⟩=some (.int .i64 l.used):=r
 have z:w.drew.cell? ⟨b,5,none⟩=some (.slice j n k):=o
 clear h
 go_enter Tryz.func235,Tryz.ntmps235
 go_wp2_with fail
 refine aP (fun W=>Below w.heap.size w W) (fun i=> !([13].contains i)) [0,1,2,3,4,5,6,7,8,9,10,11,12,13,14] rfl (by kernel_rfl) ((aJ _ w).drew) ?_
 repeat ((refine bE (v:= ?_) rfl rfl (fun _ _ _ h=>h) rfl (fun W f=> ?_) ?_);rotate_left;(focus ((try dsimp only at f);have C:=(f.cell (p:=⟨b,3,none⟩) a).trans m;have D:=(f.cell (p:=⟨b,4,none⟩) a).trans r;have B:=(f.cell (p:=⟨b,5,none⟩) a).trans o;have A:=aA a f.size;(go_simp;first|done|with_reducible rfl)));(try simp only[Act.put,ak,ay,ax]))
 refine bT rfl rfl rfl ?_;intro K y;go_simp
 refine y.out _ _ ((aG w _).drew) ?_
 repeat ((refine bE (v:= ?_) rfl rfl (fun _ _ _ h=>h) rfl (fun W f=> ?_) ?_);rotate_left;(focus ((try dsimp only at f);(go_simp;first|done|with_reducible rfl)));(try simp only[Act.put,ak,ay,ax]))
 refine bN ?_
 go_wp2_with fail
 go_ret
 exact⟨_,rfl,aC _,Row.new w _ _,(aG w _).drew⟩
theorem xR (a:Nat):∀(b:List (Nat×Nat)) (m s u:Nat),(∀e∈b,e.1<=a)->(Lg.qO a b m s u).1=[]/\(Lg.qO a b m s u).2.2=u - (b.map (·.2)).sum/\(0<m->s<m->(Lg.qO a b m s u).2.1<m)
 |[],m,s,u,_=>⟨rfl,by simp[Lg.qO],fun _ h=>h⟩
 |e::b,m,s,u,h=>by
  have d:=h e (aY ..)
  have ih:=xR a b m ((s+e.2)%m) (u - e.2) (fun x f=>h x (bn _ f))
  unfold Lg.qO
  rw[if_pos d]
  refine⟨ih.1,?_,fun c _=>ih.2.2 c (mQ _ c)⟩
  rw[ih.2.1,eP,kG]
  omega
theorem Lg.Ok.cut {l:Lg}(h:l.Ok):(l.cut l.last).Ok:=by
 have a:=xR l.last l.list (l.n - 1) l.start l.used (fun e b=>(h.ent e b).2)
 have d:=h.n2
 have c:=h.st
 refine⟨h.n2,h.hi,a.2.2 (by omega) c,?_,h.la,h.sy,?_,?_⟩
 ·show (Lg.qO l.last l.list (l.n - 1) l.start l.used).2.2<=l.n - 1
  rw[a.2.1,h.sum];omega
 ·intro e b
  have:(l.cut l.last).list=[]:=a.1
  rw[this] at b
  cases b
 ·show ((Lg.qO l.last l.list (l.n - 1) l.start l.used).1.map (fun e:Nat×Nat=>e.2)).sum=(Lg.qO l.last l.list (l.n - 1) l.start l.used).2.2
  rw[a.1,a.2.1,h.sum]
  simp
def BN (w:World)(g j:Nat):Nat:=match w.cell? ⟨g,j,none⟩ with|some (.slice _ n _)=>n|_=>0
def Lg.at_ (l:Lg)(j s u:Nat):Lg:={l with list:=l.list.drop j,start:=s,used:=u}
theorem Wi (a d:Nat)(O:Dk)(l:Lg)(Sd X:Nat->Prop)(w:World)(h:gK w Sd X a d O l)(hd:l.dead=false)(j5:l.synced=l.last)(nH:O.waits.length<=100000):
  Calls Tryz.prog 155 #[.pointer (some ⟨a,0,none⟩),.int .i64 l.last] w fun e w'=>e= .returned (.int .i64 (l.trim O l.last).2.2)/\∃og vP,gK w' og vP a d (l.trim O l.last).1 (l.trim O l.last).2.1/\Two Sd X og vP w w':=by
 obtain⟨lv,dn,c,hL⟩:=h.lg
 have T:=hL.ok
 obtain⟨c0,c1,c2,c3,c4,c5,c6,c7,c8,jv,p9⟩:=hL.cells
 rw[j5] at c7
 rw[hd] at c8
 obtain⟨la,E,rfl,y1,y2,y3,y4⟩:=bq.form ((hL.lst hd).dM (S:=eG) (fun _ _ e=>e))
 have bf:=ah (Uq a d l X la l.list.length E dn c w hL)
 have hla:=T.la
 have t0:¬((l.last:Int)<0):=by omega
 have t1:decide ((l.last:Int)<0)=false:=bU t0
 have t2:decide ((l.last:Int)<(l.last:Int))=false:=bU (by omega)
 have HH:=ah h;have HL:=ah hL;have HD:=ah hd;have zk:=ah j5
 clear h hL hd j5 c0 c1 c2 c3 c4 c5 c6
 go_enter Tryz.func155,Tryz.ntmps155
 go_wp2_with (first
  |(go_at_call 235;go_must (refine bf.out.mono ?_;rintro e w1 ⟨g1,rfl,hg1,qo,pV⟩;refine Stop.of ?_)))
 refine Stop.on ?_
 have oo:=HL.out.keep (Keep.of_below pV eG) (fun _ _ e=>e)
 obtain⟨_,_,d2,d3,d4,d5,_,_,_,vY,_⟩:=oo.cells
 have y8:g1≠a:=fun e=>by omega
 have lG:=qo.cell 0;have j3:=qo.cell 1;have l5:=qo.cell 2
 have sF:=qo.lt
 go_wp2_with fail
 obtain⟨w2,kC⟩:∃w2:World,Hid ((w1.alloc (.cells #[.int .i64 l.start,.int .i64 l.used,.slice la l.list.length E] 389))=w2):=⟨_,ah rfl⟩
 have eH:Below w1.heap.size w1 w2:=by rw[<-kC.out];exact aG w1 _
 have kD:Row w2 w1.heap.size 389 [.int .i64 l.start,.int .i64 l.used,.slice la l.list.length E]:=by rw[<-kC.out];exact Row.new w1 _ _
 obtain⟨x,HX⟩:∃x,Hid (w1.heap.size=x):=⟨_,ah rfl⟩
 rw[HX.out] at kD
 rw[kC.out,HX.out]
 have kz:=pV.trans (eH.mono pV.size)
 have zf:=HL.out.keep (Keep.of_below kz eG) (fun _ _ e=>e)
 have hxS:w.heap.size<=x:=by rw[<-HX.out];exact pV.size
 have hn0:=T.n2;have hst:=T.st;have hus:=T.us;have hhi:=T.hi
 have HB2:=ah kz;have HRX:=ah kD
 have hlen:=l.list.length
 clear pV eH kz kD qo lG j3 l5 sF oo d2 d3 d4 d5 vY y8 hg1 y1 y2 y3 y4 jv p9 c7 c8
 go_loopw [46] (fun _ wr=>∃(j n s u B:Nat) (ao:Option Addr),n+j=l.list.length/\Hid (oD wr X a d (l.at_ j s u) (.slice ao n B) dn c)/\Hid (Lg.qO l.last l.list (l.n - 1) l.start l.used=Lg.qO l.last (l.list.drop j) (l.n - 1) s u)/\Hid (Keep (· =a) w2 wr)) (fun _ wr=>BN wr a 5)
 case atStart=>exact⟨0,l.list.length,l.start,l.used,E,la,rfl,ah zf,ah rfl,ah (Keep.refl _ _)⟩
 case round=>
  obtain⟨j,n,s,u,B,ao,hnj,t,bf,HK⟩:=hrel
  obtain⟨_,_,e2,e3,e4,e5,_,_,_,jv,p9⟩:=t.out.cells
  have qm:(l.at_ j s u).dead=false:=HD.out
  have af:=(t.out.lst qm).dM (S:=eG) (fun _ _ e=>e)
  have l6:(l.at_ j s u).list.length=n:=by show (l.list.drop j).length=n;rw[bG];omega
  rw[l6] at af
  have r:=t.out.ok
  have hsj:s<l.n - 1:=r.st
  have huj:u<=l.n - 1:=r.us
  rcases Ra n with hn|hn
  ·subst hn
   obtain rfl:j=l.list.length:=by omega
   have hcut:l.at_ l.list.length s u=l.cut l.last:=by
    unfold Lg.cut
    rw[bf.out]
    rw[iP]
    show _=({l with list:=(Lg.qO l.last [] (l.n - 1) s u).1,start:=(Lg.qO l.last [] (l.n - 1) s u).2.1,used:=(Lg.qO l.last [] (l.n - 1) s u).2.2}:Lg)
    unfold Lg.at_ Lg.qO
    rw[iP]
   have zG:∀g,(Sd g\/X g)->g<w.heap.size:=fun g G=>G.elim (HH.out.dk.sub g) (HH.out.lg.sub g)
   have j4:Keep (· =a) w wr:=(Keep.of_below HB2.out (fun y=>y=a)).trans HK.out (fun _ _ e=>e)
   have J:X a:=t.out.sl
   have vz:gK wr Sd X a d O (l.cut l.last):=⟨HH.out.dk.keep j4 (fun g G e=>HH.out.dis g G (e▸J)),by rw[<-hcut];exact⟨_,_,_,t.out⟩,HH.out.dis,HH.out.fit⟩
   have nY:Two Sd X Sd X w wr:=⟨j4.mono (fun _ _ e=>e▸.inr J),fun _ G=> .inl G⟩
   have mr:Row wr x 389 [.int .i64 l.start,.int .i64 l.used,.slice la l.list.length E]:=HRX.out.keep HK.out (fun e=>by have:=t.out.sub a J;have:=HL.out.sub a J;omega)
   have hnn:¬(0:Int)<0:=by omega
   have HM:=ah (Oc a d O (l.cut l.last) Sd X wr vz HD.out nH)
   have lH:=(l.cut l.last).BJ O
   have N:=ah (show l.trim O l.last=if ((l.cut l.last).mark O).2.2=0 then(l.cut l.last).mark O else(((l.cut l.last).mark O).1,l.dies,10) by
    unfold Lg.trim
    rw[HD.out,zk.out]
    simp)
   obtain⟨κ,k,q,HKq⟩:∃κ k q,Hid ((l.cut l.last).mark O=(κ,k,q)):=⟨_,_,_,ah rfl⟩
   rw[HKq.out] at HM lH N
   have HMC:=ah lH
   have HTR:=ah nY;have HXR:=ah mr
   clear lH hcut j4 vz nY mr af e2 e3 e4
   go_wp2_with (first
    |(go_at_call 152;go_must (refine HM.out.mono ?_;rintro e w3 ⟨rfl,o5,l9,sN,j6⟩;refine Stop.of ?_)))
   refine Stop.on ?_
   have ko:=ah sN;have nN:=ah (HTR.out.trans j6)
   have di:¬(Sd x\/X x):=fun e=>by have:=zG x e;omega
   have Q:=HXR.out.keep j6.1 di
   clear sN j6
   rcases HMC.out with ⟨V,h2⟩|⟨V,h2⟩
   ·have hq:q=0:=V
    subst hq
    have HE:=ah (show l.trim O l.last=(κ,k,0) by rw[N.out];rfl)
    clear V h2 Q
    go_wp2_with fail
    go_ret
    rw[HE.out]
    exact⟨rfl,o5,l9,ko.out,nN.out⟩
   ·have hq:q=10:=V
    have hk:k=(l.cut l.last).dies:=h2
    subst hq;subst hk
    clear V h2
    have x0:=Q.cell 0;have x1:=Q.cell 1;have x2:=Q.cell 2
    have q9:=Q.lt
    obtain⟨lv3,ng,c3,av⟩:=ko.out.lg
    obtain⟨_,_,_,m3,m4,m5,_,_,_,vT,Z⟩:=av.cells
    have z3:=Z 3;have z4:=Z 4;have z5:=Z 5
    have mo:=av.row
    have HE:=ah (show l.trim O l.last=(κ,l.dies,10) by rw[N.out];rfl)
    have Y:x≠a:=fun e=>di (e▸.inr J)
    have HX3:=ah Q;have HR3:=ah mo;have ql:=ah av
    clear Q mo av
    have yB:∀(W:World),Keep (· =a) w3 W->W.cell? ⟨x,0,none⟩=some (.int .i64 l.start)/\W.cell? ⟨x,1,none⟩=some (.int .i64 l.used)/\W.cell? ⟨x,2,none⟩=some (.slice la l.list.length E)/\x<W.heap.size/\a<W.heap.size:=fun W f=>
     ⟨(f.cell (p:=⟨x,0,none⟩) q9 Y).trans x0,(f.cell (p:=⟨x,1,none⟩) q9 Y).trans x1,(f.cell (p:=⟨x,2,none⟩) q9 Y).trans x2,aA q9 f.size,aA vT f.size⟩
    have jb:=ah yB;clear yB
    have k1:=((Keep.refl (· =a) w3).setCell (p:=⟨a,3,none⟩) (.inr rfl) (.int .i64 l.start)).drew
    have r1:=HR3.out.setCell 3 (.int .i64 l.start)
    have m4':((w3.setCell ⟨a,3,none⟩ (.int .i64 l.start)).drew).cell? ⟨a,4,none⟩=some (.int .i64 (l.cut l.last).dies.used):=r1.cell 4
    have z4':((w3.setCell ⟨a,3,none⟩ (.int .i64 l.start)).drew).frozen? ⟨a,4,none⟩=false:=r1.frozen 4
    have k2:=(((Keep.refl (· =a) w3).setCell (p:=⟨a,3,none⟩) (.inr rfl) (.int .i64 l.start)).setCell (p:=⟨a,4,none⟩) (.inr rfl) (.int .i64 l.used)).drew
    have m5':(((w3.setCell ⟨a,3,none⟩ (.int .i64 l.start)).setCell ⟨a,4,none⟩ (.int .i64 l.used)).drew).cell? ⟨a,5,none⟩=some lv3:=(r1.setCell 4 (.int .i64 l.used)).cell 5
    have z5':(((w3.setCell ⟨a,3,none⟩ (.int .i64 l.start)).setCell ⟨a,4,none⟩ (.int .i64 l.used)).drew).frozen? ⟨a,5,none⟩=false:=(r1.setCell 4 (.int .i64 l.used)).frozen 5
    have r2:=r1.setCell 4 (.int .i64 l.used)
    have zH:=ah k1;have HK2:=ah k2;have z8:=ah r2
    clear k1 k2 r1 r2 x0 x1 x2
    go_wp2_with fail
    refine aP (fun W=>W.cell? ⟨x,0,none⟩=some (.int .i64 l.start)/\W.cell? ⟨x,1,none⟩=some (.int .i64 l.used)/\W.cell? ⟨x,2,none⟩=some (.slice la l.list.length E)/\x<W.heap.size/\a<W.heap.size) (fun i=> !([11,14,17].contains i)) [0,1,2,3,4,5,6,7,8,9,10,11,12,13,14,15,16,17] rfl (by kernel_rfl) (jb.out _ ((Keep.refl _ _).drew)) ?_
    repeat ((refine bE (v:= ?_) rfl rfl (fun _ _ _ h=>h) rfl (fun W f=> ?_) ?_);rotate_left;(focus ((try dsimp only at f);have r0:=f.1;have r1:=f.2.1;have r2:=f.2.2.1;have r3:=f.2.2.2.1;have r4:=f.2.2.2.2;(go_simp;first|done|with_reducible rfl)));(try simp only[Act.put,ak,ay,ax]))
    refine bT rfl rfl rfl ?_;intro K hK;go_simp
    refine hK.out _ _ (jb.out _ zH.out) ?_
    repeat ((refine bE (v:= ?_) rfl rfl (fun _ _ _ h=>h) rfl (fun W f=> ?_) ?_);rotate_left;(focus ((try dsimp only at f);have r0:=f.1;have r1:=f.2.1;have r2:=f.2.2.1;have r3:=f.2.2.2.1;have r4:=f.2.2.2.2;(go_simp;first|done|with_reducible rfl)));(try simp only[Act.put,ak,ay,ax]))
    refine bT rfl rfl rfl ?_;intro K hK;go_simp
    refine hK.out _ _ (jb.out _ HK2.out) ?_
    repeat ((refine bE (v:= ?_) rfl rfl (fun _ _ _ h=>h) rfl (fun W f=> ?_) ?_);rotate_left;(focus ((try dsimp only at f);have r0:=f.1;have r1:=f.2.1;have r2:=f.2.2.1;have r3:=f.2.2.2.1;have r4:=f.2.2.2.2;(go_simp;first|done|with_reducible rfl)));(try simp only[Act.put,ak,ay,ax]))
    refine jR rfl rfl rfl (by kernel_rfl) ?_;intro K hK;go_simp
    refine hK.out _ _ ?_
    refine bN ?_
    go_wp2_with fail
    go_ret
    rw[HE.out]
    refine⟨rfl,?_⟩
    obtain⟨C,P⟩:∃C:World,Hid ((((w3.setCell ⟨a,3,none⟩ (.int .i64 l.start)).setCell ⟨a,4,none⟩ (.int .i64 l.used)).setCell ⟨a,5,none⟩ (.slice la l.list.length E)).drew=C):=⟨_,ah rfl⟩
    have I:Row C a 288 (gH (gm d l.dies (.slice la l.list.length E)) ng c3 []):=by rw[<-P.out];exact z8.out.setCell 5 _
    have H:Keep (· =a) w3 C:=by rw[<-P.out];exact((((Keep.refl (· =a) w3).setCell (p:=⟨a,3,none⟩) (.inr rfl) _).setCell (p:=⟨a,4,none⟩) (.inr rfl) _).setCell (p:=⟨a,5,none⟩) (.inr rfl) _).drew
    rw[P.out]
    have y5:sP C l9 a d l.dies:=⟨_,ng,c3,T.dies,fun g G=>aA (ql.out.sub g G) H.size,ql.out.sl,I,(fun e=>by cases e),(fun e=>by cases e)⟩
    have vM:=ko.out.log y5 ⟨H.mono (fun _ _ e=>e▸ql.out.sl),fun _ G=> .inl G⟩ ⟨rfl,rfl⟩
    exact⟨o5,l9,vM.1,nN.out.trans vM.2⟩
  ·have hj:j<l.list.length:=by omega
   obtain⟨b,o,rfl,ai,lq⟩:=af.nth hn (by omega)
   obtain⟨e,HE⟩:∃e,Hid (l.list[j]=e):=⟨_,ah rfl⟩
   have A:l.list.drop j=e::l.list.drop (j+1):=by rw[dB hj,HE.out]
   have yE:wr.cell? ⟨b,o,none⟩=some (.int .i64 (e.1:Int)):=by
    have:=lq 0 (.int .i64 (e.1:Int)) (by show (iU (l.list.drop j))[0]? =_;rw[A];rfl)
    rwa [jD] at this
   have sW:wr.cell? ⟨b,o+1,none⟩=some (.int .i64 (e.2:Int)):=lq 1 (.int .i64 (e.2:Int)) (by show (iU (l.list.drop j))[1]? =_;rw[A];rfl)
   have mD:=r.ent e (by show e∈l.list.drop j;rw[A];exact aY ..)
   have he1:e.1<=l.last:=mD.2
   have hsum:e.2<=u:=by
    have:(l.list.drop j|>.map (·.2)).sum=u:=r.sum
    rw[A,eP,kG] at this
    omega
   have l7:b≠a:=(t.out.slv qm b rfl).2
   obtain⟨m,HM⟩:∃m,Hid (l.n - 1=m):=⟨_,ah rfl⟩
   have hm1:s<m:=by rw[<-HM.out];exact hsj
   have hm2:u<=m:=by rw[<-HM.out];exact huj
   have hm3:m<=4096:=by rw[<-HM.out];omega
   obtain⟨z,HZ⟩:∃z,Hid ((s+e.2)%m=z):=⟨_,ah rfl⟩
   obtain⟨y,HY⟩:∃y,Hid (s+e.2=y):=⟨_,ah rfl⟩
   obtain⟨v,HV⟩:∃v,Hid (u - e.2=v):=⟨_,ah rfl⟩
   have q1:IntKind.i64.wrap ((s:Int)+(e.2:Int))=(y:Int):=by rw[aM _ (by omega),<-HY.out];omega
   have q2:IntKind.i64.wrap ((l.n:Int) - 1)=(m:Int):=by rw[aM _ (by omega),<-HM.out];omega
   have q3:(y:Int)%(m:Int)=(z:Int):=by rw[<-HZ.out,<-HY.out];exact(Int.natCast_emod _ _).symm
   have q3':(y:Int).tmod (m:Int)=(z:Int):=by rw[Am (by omega)];exact q3
   have q4:¬m=0:=by omega
   have q5:IntKind.i64.wrap ((u:Int) - (e.2:Int))=(v:Int):=by rw[aM _ (by omega),<-HV.out];omega
   have p0:(0:Int)<(n:Int):=by omega
   have p1:decide ((e.1:Int)<=(l.last:Int))=true:=gq (by omega)
   have p2:(e.1:Int)<=(l.last:Int):=by omega
   have yL:wr.cell? ⟨a,2,none⟩=some (.int .i64 l.n):=e2
   have e3':wr.cell? ⟨a,3,none⟩=some (.int .i64 s):=e3
   have y7:wr.cell? ⟨a,4,none⟩=some (.int .i64 u):=e4
   clear e2 e3 e4 mD lq af A
   go_wp2_with fail
   have z3:=p9 3;have z4:=p9 4;have z5:=p9 5
   have e5':wr.drew.cell? ⟨a,5,none⟩=some (.slice (some ⟨b,o,none⟩) n B):=e5
   refine aP (fun W=>W=wr.drew) (fun i=> !([21].contains i)) [0,1,2,3,4,5,6,7,8,9,10,11,12,13,14,15,16,17,18,19,20,21] rfl (by kernel_rfl) rfl ?_
   repeat ((refine bE (v:= ?_) rfl rfl (fun _ _ _ h=>h) rfl (fun W f=> ?_) ?_);rotate_left;(focus ((try dsimp only at f);subst f;(go_simp;first|done|with_reducible rfl)));(try simp only[Act.put,ak,ay,ax]))
   refine jR rfl rfl rfl (by kernel_rfl) ?_;intro K hK;go_simp
   refine hK.out _ _ ?_
   refine bN ?_
   obtain⟨C,P⟩:∃C:World,Hid ((wr.setCell ⟨a,3,none⟩ (.int .i64 z)).drew=C):=⟨_,ah rfl⟩
   have I:Row C a 288 ((gH (gm d (l.at_ j s u) (.slice (some ⟨b,o,none⟩) n B)) dn c []).set 3 (.int .i64 z)):=by rw[<-P.out];exact t.out.row.setCell 3 _
   have H:Keep (· =a) wr C:=by rw[<-P.out];exact((Keep.refl (· =a) wr).setCell (p:=⟨a,3,none⟩) (.inr rfl) _).drew
   rw[P.out]
   have rq:C.cell? ⟨b,o,none⟩=some (.int .i64 (e.1:Int)):=(H.cell (p:=⟨b,o,none⟩) ai l7).trans yE
   have vk:C.cell? ⟨b,o+1,none⟩=some (.int .i64 (e.2:Int)):=(H.cell (p:=⟨b,o+1,none⟩) ai l7).trans sW
   have nk:=aA ai H.size
   have f4:C.drew.cell? ⟨a,4,none⟩=some (.int .i64 u):=I.cell 4
   have f5:C.drew.cell? ⟨a,5,none⟩=some (.slice (some ⟨b,o,none⟩) n B):=I.cell 5
   have fz4:C.frozen? ⟨a,4,none⟩=false:=I.frozen 4
   have rf:=I.lt
   clear yL e3' y7 e5 e5' yE sW ai z3 z4 z5 jv q1 q2 q3 q3' q4
   go_wp2_with fail
   refine aP (fun W=>W=C.drew) (fun i=> !([14].contains i)) [0,1,2,3,4,5,6,7,8,9,10,11,12,13,14] rfl (by kernel_rfl) rfl ?_
   repeat ((refine bE (v:= ?_) rfl rfl (fun _ _ _ h=>h) rfl (fun W f=> ?_) ?_);rotate_left;(focus ((try dsimp only at f);subst f;(go_simp;first|done|with_reducible rfl)));(try simp only[Act.put,ak,ay,ax]))
   refine jR rfl rfl rfl (by kernel_rfl) ?_;intro K hK;go_simp
   refine hK.out _ _ ?_
   refine bN ?_
   obtain⟨D,qc⟩:∃D:World,Hid ((C.setCell ⟨a,4,none⟩ (.int .i64 v)).drew=D):=⟨_,ah rfl⟩
   have M:Row D a 288 (((gH (gm d (l.at_ j s u) (.slice (some ⟨b,o,none⟩) n B)) dn c []).set 3 (.int .i64 z)).set 4 (.int .i64 v)):=by rw[<-qc.out];exact I.setCell 4 _
   have bg:Keep (· =a) C D:=by rw[<-qc.out];exact((Keep.refl (· =a) C).setCell (p:=⟨a,4,none⟩) (.inr rfl) _).drew
   rw[qc.out]
   have g5:D.cell? ⟨a,5,none⟩=some (.slice (some ⟨b,o,none⟩) n B):=M.cell 5
   have zA:D.frozen? ⟨a,5,none⟩=false:=M.frozen 5
   have hlt10:=M.lt
   have hle1:(1:Int)<=(n:Int):=by omega
   have hnc:n<=B:=by
    obtain⟨_,_,hv,V,_⟩:=(t.out.lst qm).dM (S:=eG) (fun _ _ e=>e)
    cases hv;rw[l6] at V;exact V
   have hle2:(n:Int)<=(B:Int):=by omega
   clear f4 f5 fz4 rq vk rf nk
   have vo:=ah M;have ol:=ah (H.trans bg (fun _ _ e=>e));clear M I H bg
   go_wp2_with fail
   have qC:∀g,(Value.slice (if B=1 then some (⟨b,o,none⟩:Addr) else some ⟨b,o+2,none⟩) (n - 1) (B - 1)).ownBlock=some g->g=b:=fun g G=>by
    split at G<;>cases G<;>rfl
   have iO:lI wr 296 2 (.slice (if B=1 then some (⟨b,o,none⟩:Addr) else some ⟨b,o+2,none⟩) (n - 1) (B - 1)) (n - 1) (iU (l.list.drop (j+1))):=by
    have h0:=t.out.lst qm
    rw[l6] at h0
    have V:=h0.after 1 (by omega)
    have e1:(iU (l.at_ j s u).list).drop (1*2)=iU (l.list.drop (j+1)):=by
     show (iU (l.list.drop j)).drop (1*2)=_
     rw[dB hj]
     rfl
    rw[e1] at V
    simpa [iA] using V
   have oO:=ah iO
   have xK:=ah qC
   clear iO qC g5 zA
   generalize (if B=1 then some (⟨b,o,none⟩:Addr) else some ⟨b,o+2,none⟩)=qb at*
   obtain⟨F,qf⟩:∃F:World,Hid (D.setCell ⟨a,5,none⟩ (.slice qb (n - 1) (B - 1))=F):=⟨_,ah rfl⟩
   have qy:Row F a 288 (gH (gm d (l.at_ (j+1) z v) (.slice qb (n - 1) (B - 1))) dn c []):=by rw[<-qf.out];exact vo.out.setCell 5 _
   have eZ:Keep (· =a) D F:=by rw[<-qf.out];exact(Keep.refl (· =a) D).setCell (p:=⟨a,5,none⟩) (.inr rfl) _
   have q8:Keep (· =a) wr F:=ol.out.trans eZ (fun _ _ e=>e)
   have R:l.list.drop j=e::l.list.drop (j+1):=by rw[dB hj,HE.out]
   have qO:(l.at_ (j+1) z v).Ok:=by
    refine⟨r.n2,r.hi,?_,?_,r.la,r.sy,fun e' he'=> ?_,?_⟩
    ·show z<l.n - 1
     rw[<-HZ.out,HM.out];exact mQ _ (by omega)
    ·show v<=l.n - 1
     have:=HV.out;omega
    ·exact r.ent e' (by show e'∈l.list.drop j;rw[R];exact bn _ he')
    ·have V:((l.list.drop j).map (fun e:Nat×Nat=>e.2)).sum=u:=r.sum
     rw[R,eP,kG] at V
     show ((l.list.drop (j+1)).map (fun e:Nat×Nat=>e.2)).sum=v
     have:=HV.out;omega
   have fo:oD F X a d (l.at_ (j+1) z v) (.slice qb (n - 1) (B - 1)) dn c:=by
    refine⟨qO,fun g G=>aA (t.out.sub g G) q8.size,t.out.sl,qy,fun _=> ?_,fun _ g G=> ?_⟩
    ·have e1:(l.at_ (j+1) z v).list.length=n - 1:=by show (l.list.drop (j+1)).length=n - 1;rw[bG];omega
     rw[e1]
     exact oO.out.keep fun g G=>q8.block g (oO.out.lt G) (by rw[xK.out g G];exact l7)
    ·rw[xK.out g G]
     exact t.out.slv qm b rfl
   have r9:=ah fo
   have zT:BN F a 5=n - 1:=by unfold BN;rw[show F.cell? ⟨a,5,none⟩=some (.slice qb (n - 1) (B - 1)) from qy.cell 5]
   have nD:BN wr a 5=n:=by unfold BN;rw[show wr.cell? ⟨a,5,none⟩=some (.slice (some ⟨b,o,none⟩) n B) from t.out.row.cell 5]
   have d9:BN F a 5<BN wr a 5:=by omega
   have dM:Lg.qO l.last l.list (l.n - 1) l.start l.used=Lg.qO l.last (l.list.drop (j+1)) (l.n - 1) z v:=by
    rw[bf.out,R]
    show (if e.1<=l.last then _ else _)=_
    rw[if_pos he1,HM.out,HZ.out,HV.out]
   have tY:=ah dM;have HKK:=ah (HK.out.trans q8 (fun _ _ e=>e));have zy:=ah d9
   clear qy eZ q8 R qO fo zT nD d9 dM
   rw[qf.out]
   go_roundw
   case rel=>exact⟨j+1,n - 1,z,v,B - 1,qb,by omega,r9,tY,HKK⟩
   case measure=>exact zy.out
end Go.Proofs.YtpmbddooibgnaaaGreatDoor
