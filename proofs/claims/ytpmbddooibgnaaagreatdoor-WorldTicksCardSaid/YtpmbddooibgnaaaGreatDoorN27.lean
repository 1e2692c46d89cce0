/- parts -/
import Derived.Test.YtpmbddooibgnaaaGreatDoorN4
import Derived.Test.YtpmbddooibgnaaaGreatDoorN11
import Derived.Test.YtpmbddooibgnaaaGreatDoorN21
import Derived.Test.YtpmbddooibgnaaaGreatDoorN22
import Derived.Test.YtpmbddooibgnaaaGreatDoorN23
import Derived.Test.YtpmbddooibgnaaaGreatDoorN24
set_option maxRecDepth 100000
set_option maxHeartbeats 8000000
set_option linter.all false
namespace Go.Proofs.YtpmbddooibgnaaaGreatDoor
open Go.RowKit
theorem fA.from {w:World}{S:Nat->Prop}{g n c a:Nat}{B:List UInt8}(h:bq w S 1 (.slice (some ⟨g,0,none⟩) n c) n (aF B))(hB:B.length=n)(f:a<=n)(d:¬c=a):fA w S (.slice (some ⟨g,a,none⟩) (n - a) (c - a)) (B.drop a):=by
 have b:=h.after a f
 rw[if_neg d] at b
 simp only[jJ,iA,eY,fZ] at b
 have e:List.drop a (aF B)=aF (B.drop a):=by simp[aF,jy]
 show bq w S 1 _ (B.drop a).length _
 rw[bG,hB,<-e]
 exact b
theorem Ld:∀b:List (List UInt8),4*b.length<=(b.map fun r=>4+r.length).sum
 |[]=>aC _
 |r::b=>by have:=Ld b;simp only[aZ,eP,kG];omega
theorem Wp (D d:Nat)(σ:Dk)(l:Lg)(Sd Sl:Nat->Prop)(y k:Nat)(a:List (List UInt8))(Z:List UInt8)(w:World)(h:gK w Sd Sl D d σ l)(hd:σ.dead=false)(hL:Xz σ l y (gD k a) Z)(hk:k<1000000000000)(ha:y<=1000000)(hb:(gD k a).length<=(l.n - 1)*512):
  Calls Tryz.prog 323 #[.pointer (some ⟨D,0,none⟩),.int .i64 y,.int .i64 k] w fun e w'=>∃v,e= .returned (.tuple #[v,.int .i64 (((gD k a).length+511)/512:Nat),.int .i64 0])/\
   aV w' eG w.heap.size 9 1 v a.length ((a.map fun r=>strOf r).map .string)/\gK w' Sd Sl D d σ l/\Two Sd Sl Sd Sl w w':=by
 have r9:=h.lg.ok
 obtain⟨lv,c0,c1,c2,_,_,_,_,_,_,I,_⟩:=h.cells
 have l7:(gD k a).length=16+(gB a).length:=by rw[rP,lC]
 obtain⟨L,HL⟩:∃L,Hid ((gD k a).length=L):=⟨_,ah rfl⟩
 obtain⟨nd,HN⟩:∃nd,Hid ((L+511)/512=nd):=⟨_,ah rfl⟩
 have hh:=r9.hi;have hn2:=r9.n2
 rw[HL.out] at hb l7 ⊢
 rw[HN.out]
 have di:1<=nd:=by rw[<-HN.out];omega
 have fo:nd<=4096:=by rw[<-HN.out];omega
 have zk:Z.length=nd*512:=by rw[hL.len,HL.out,HN.out]
 have og:=hL.beg
 have oO:∀j,j<nd->σ.get (l.ring (y+j))=(Z.drop (j*512)).take 512:=fun j hj=>hL.sec j (by rw[HL.out,HN.out];exact hj)
 rw[HL.out] at og
 have mr:=(aJ w.heap.size w).drew
 have HRg:=ah (N9 D d l Sl y w.drew (h.lg.keep (Keep.of_below mr eG) (fun _ _ e=>e)))
 have kD:l.ring y<σ.n:=by
  have:=h.fit
  have:=mQ y (show 0<l.n - 1 by omega)
  unfold Lg.ring;omega
 have yB:=ah (Lf d σ Sd (l.ring y) w.drew.drew (h.dk.below (mr.drew)) hd kD)
 rw[show σ.get (l.ring y)=Z.take 512 by have:=oO 0 (by omega);simpa using this] at yB
 have HH:=ah h;have HZs:=ah oO;have zf:=ah og;have kz:=ah zk
 clear h hL oO og zk
 go_enter Tryz.func323,Tryz.ntmps323
 go_wp2_with fail
 refine aP (fun W=>W.cell? ⟨D,0,none⟩=some (.pointer (some ⟨d,0,none⟩))/\D<W.heap.size) (fun i=> !([6,7].contains i)) [0,1,2,3,4,5,6,7,8,9,10,11,12] rfl (by kernel_rfl) ⟨c0,I⟩ ?_
 repeat ((refine bE (v:= ?_) rfl rfl (fun _ _ _ h=>h) rfl (fun W A=> ?_) ?_);rotate_left;(focus ((try dsimp only at A);have r0:=A.1;have r1:=A.2;(go_simp;first|done|with_reducible rfl)));(try simp only[Act.put,ak,ay,ax]))
 refine bT rfl rfl rfl ?_;intro K hK;go_simp
 refine HRg.out.mono ?_;rintro e w8 ⟨rfl,hw8⟩;subst w8
 refine hK.out _ _ ⟨c0,I⟩ ?_
 refine bT rfl rfl rfl ?_;intro K hK;go_simp
 refine yB.out.mono ?_;rintro e w1 ⟨v1,rfl,O,j3⟩
 have t:Below w.heap.size w w1:=mr.drew.trans j3
 refine hK.out _ _ ⟨(t.cell (p:=⟨D,0,none⟩) I).trans c0,aA I t.size⟩ ?_
 repeat ((refine bE (v:= ?_) rfl rfl (fun _ _ _ h=>h) rfl (fun W A=> ?_) ?_);rotate_left;(focus ((try dsimp only at A);have r0:=A.1;have r1:=A.2;(go_simp;first|done|with_reducible rfl)));(try simp only[Act.put,ak,ay,ax]))
 refine bN ?_
 obtain⟨g,c,rfl,hc1,hc2,tY⟩:∃g c,v1= .slice (some ⟨g,0,none⟩) 512 c/\512<=c/\c<=maxLen/\True:=by
  obtain⟨⟨zG,bf⟩,_⟩:=O
  rcases bf with ⟨_,h0⟩|⟨g,cap,cur,hv,_,_,h1,h2,_⟩
  ·omega
  ·exact⟨g,cap,hv,h1,h2,trivial⟩
 clear tY
 obtain⟨X,HX⟩:∃X,Hid (Z.take 512=X):=⟨_,ah rfl⟩
 rw[HX.out] at O
 have p9:X.length=512:=by rw[<-HX.out,aQ,kz.out];omega
 have qy:∀i j,i+j<=512->i+j<=L->(X.drop i).take j=((gD k a).drop i).take j:=fun i j h5 hj=>by
  rw[<-HX.out,nQ,jE,dx (by omega)]
  exact Te (by rw[HL.out];exact zf.out) i j (by rw[HL.out];exact hj)
 have e4:rO (X.take 4)=L:=by
  have:=qy 0 4 (by omega) (by omega)
  rw[dY,dY,Iq,HL.out] at this
  rw[this,oZ 4 L (by omega)]
 have e8:rO ((X.drop 4).take 8)=k:=by
  rw[qy 4 8 (by omega) (by omega),Kn,oZ 8 k (by omega)]
 have l9:bq w1 eG 1 (.slice (some ⟨g,0,none⟩) 512 c) 512 (aF X):=O.dM
 have mo:=LQ _ X 4 eG w1 (show fA w1 eG (.slice (some ⟨g,0,none⟩) 512 c) X by show bq w1 eG 1 _ X.length _;rw[p9];exact l9) (by omega) (by omega)
 have nk:=LQ _ (X.drop 4) 8 eG w1 (fA.from l9 p9 (by omega) (by omega)) (by rw[bG,p9];omega) (by omega)
 rw[e4] at mo
 rw[e8] at nk
 have HG1:=ah mo;have HG2:=ah nk;have HO1:=ah O;have HB1:=ah j3;have jb:=ah t
 have d0:=(t.cell (p:=⟨D,0,none⟩) I).trans c0
 have d2:=(t.cell (p:=⟨D,2,none⟩) I).trans c2
 have hl1:=aA I t.size
 have a1:IntKind.i64.wrap (L:Int)=(L:Int):=aM _ (by omega)
 have a2:=fU k (by omega)
 have a3:IntKind.i64.wrap ((l.n:Int) - 1)=((l.n - 1:Nat):Int):=by rw[aM _ (by omega)];omega
 have a4:IntKind.i64.wrap (((l.n - 1:Nat):Int)*512)=(((l.n - 1)*512:Nat):Int):=by rw[aM _ (by omega)];omega
 have t1:¬((L:Int)<16):=by omega
 have t2:¬((((l.n - 1)*512:Nat):Int)<(L:Int)):=by omega
 have t2':¬((((l.n - 1:Nat):Int)*512)<(L:Int)):=by omega
 have zH:¬((((l.n:Int) - 1)*512)<(L:Int)):=by omega
 have t3:(4:Int)<=512:=by omega
 have HBL:=ah l7
 have a5:((L:Int)+512 - 1)/512=(nd:Int):=by rw[<-HN.out];omega
 have HA:=ah (HH.out.below jb.out)
 have HO2:Hid (aV w1 eG w.heap.size 5 1 (.slice (some ⟨g,0,none⟩) 512 c) 512 (aF X)):=ah O
 clear l7
 have HXm:=ah qy;have HXl:=ah p9
 clear l9 mo nk O j3 t e4 e8 qy p9 c0 c2 hc2
 go_wp2_with (first
  |(go_at_call 322;go_must (refine HG1.out.mono ?_;rintro e w2 ⟨rfl,hw2⟩;subst w2;refine Stop.of ?_)))
 refine Stop.on ?_
 go_wp2_with (first
  |(go_at_call 322;go_must (refine HG2.out.mono ?_;rintro e w2 ⟨rfl,hw2⟩;subst w2;refine Stop.of ?_)))
 refine Stop.on ?_
 go_wp2_with fail
 rw[a5]
 clear a1 a2 a3 a4 a5 t1 t2 t2' zH t3 d0 d2 hl1
 go_loopw [9,13] (fun b i wr=>∃(j:Nat) (ao:Option Addr) (c:Nat),1<=j/\j<=nd/\i= .int .i64 j/\b= .slice ao (j*512) c/\Hid (aV wr eG w.heap.size 5 1 b (j*512) (aF (Z.take (j*512))))/\Hid (Below w.heap.size w wr)) (fun _ i _=>nd - (intOf i).toNat)
 case atStart=>
  refine⟨1,some ⟨g,0,none⟩,c,aC _,di,rfl,rfl,ah ?_,jb⟩
  rw[lK,HX.out]
  exact HO2.out
 case round=>
  obtain⟨j,ao,R,vz,hj2,rfl,rfl,q9,T⟩:=hrel
  by_cases z8:j<nd
  ·have hjI:(j:Int)<(nd:Int):=by omega
   obtain⟨z,oo⟩:∃z,Hid (y+j=z):=⟨_,ah rfl⟩
   have b1:IntKind.i64.wrap ((y:Int)+(j:Int))=(z:Int):=by rw[aM _ (by omega),<-oo.out];omega
   have N:=(aJ wr.heap.size wr).drew
   have F:=HH.out.below T.out
   have y8:=ah (N9 D d l Sl z wr.drew (F.lg.keep (Keep.of_below N eG) (fun _ _ e=>e)))
   have xK:l.ring z<σ.n:=by
    have:=HH.out.fit
    have:=mQ z (show 0<l.n - 1 by omega)
    unfold Lg.ring;omega
   have j5:=Lf d σ Sd (l.ring z) wr.drew.drew (F.dk.below N.drew) hd xK
   rw[<-oo.out,HZs.out j z8,oo.out] at j5
   have iO:=ah j5
   obtain⟨_,f0,_,_,_,_,_,_,_,_,af,_⟩:=F.cells
   have zA:=T.out.size
   obtain⟨Y,HY⟩:∃Y,Hid ((Z.drop (j*512)).take 512=Y):=⟨_,ah rfl⟩
   rw[HY.out] at iO
   clear j5 F
   go_wp2_with fail
   refine aP (fun W=>W.cell? ⟨D,0,none⟩=some (.pointer (some ⟨d,0,none⟩))/\D<W.heap.size) (fun i=> !([8,9].contains i)) [0,1,2,3,4,5,6,7,8,9,10,11,12,13,14] rfl (by kernel_rfl) ⟨f0,af⟩ ?_
   repeat ((refine bE (v:= ?_) rfl rfl (fun _ _ _ h=>h) rfl (fun W A=> ?_) ?_);rotate_left;(focus ((try dsimp only at A);have r0:=A.1;have r1:=A.2;(go_simp;first|done|with_reducible rfl)));(try simp only[Act.put,ak,ay,ax]))
   refine bT rfl rfl rfl ?_;intro K hK;go_simp
   refine y8.out.mono ?_;rintro e w8 ⟨rfl,hw8⟩;subst w8
   refine hK.out _ _ ⟨f0,af⟩ ?_
   refine bT rfl rfl rfl ?_;intro K hK;go_simp
   refine iO.out.mono ?_;rintro e w3 ⟨v3,rfl,nN,rq⟩
   have B:Below wr.heap.size wr w3:=N.drew.trans rq
   refine hK.out _ _ ⟨(B.cell (p:=⟨D,0,none⟩) af).trans f0,aA af B.size⟩ ?_
   repeat ((refine bE (v:= ?_) rfl rfl (fun _ _ _ h=>h) rfl (fun W A=> ?_) ?_);rotate_left;(focus ((try dsimp only at A);have r0:=A.1;have r1:=A.2;(go_simp;first|done|with_reducible rfl)));(try simp only[Act.put,ak,ay,ax]))
   refine bN ?_
   obtain⟨ao3,c3,rfl,_,_,_,_⟩:=bq.form nN.dM
   have eH:=nN.dM.src (P:=Tryz.prog) aU (fO _)
   have kC:=q9.out.below (w':=w3) B
   have HE:=ah (show Z.take ((j+1)*512)=Z.take (j*512)++Y by rw[<-HY.out,L9])
   obtain⟨m,Hm⟩:∃m,Hid (j*512=m):=⟨_,ah rfl⟩
   rw[Hm.out] at kC HE ⊢
   have Hm2:=ah (show (j+1)*512=m+512 by rw[<-Hm.out];omega)
   have hmb:m<=4096*512:=by rw[<-Hm.out];omega
   have hs3:=B.size
   have HB3:=ah (T.out.trans (B.mono zA))
   clear nN rq B
   go_wp2_with (first
    |(at_builtin;go_must ((refine dQ rfl (.tmp 81) (.tmp 82) 154 154 rfl eG w.heap.size 5 1 1 (.int .u8 0) aU jl rfl (.slice ao m R) m _ rfl kC (.slice ao3 512 c3) 512 (aF Y) rfl eH (fun _ h=>h.elim) ?_ ?_ ?_ ?_);(focus (omega));(focus (unfold maxLen;omega));(focus omega);intro ao4 c4 w4 qm hk4 hb4 hd4)))
   have HO4:=ah qm
   have HB4:=ah (HB3.out.trans hb4)
   clear qm hk4 hb4 hd4 kC eH
   go_roundw
   case rel=>
    refine⟨j+1,ao4,c4,by omega,by omega,by go_num,by rw[Hm2.out],ah ?_,HB4⟩
    rw[Hm2.out] at HE ⊢
    rw[HE.out,fG]
    exact HO4.out
   case measure=>simp[intOf];omega
  ·have yL:j=nd:=by omega
   subst yL
   have vk:=vz
   have x2:¬(j:Int)<(j:Int):=by omega
   have C:512<=j*512:=by omega
   have q8:L<=j*512:=by rw[<-kz.out] at C ⊢;have h1:=HN.out;have h2:=kz.out;omega
   obtain⟨⟨zG,bf⟩,hns⟩:=q9.out
   have hao:∃g2,ao=some ⟨g2,0,none⟩/\j*512<=R/\R<=maxLen:=by
    rcases bf with ⟨_,h0⟩|⟨g2,cap,cur,hv,_,_,h1,h2,_⟩
    ·omega
    ·cases hv;exact⟨g2,rfl,h1,h2⟩
   obtain⟨g2,rfl,qo,zy⟩:=hao
   clear zG bf hns
   have vM:(Z.take (j*512)).take L=gD k a:=by
    rw[jE,dx q8];exact zf.out
   have vP:bq wr eG 1 (.slice (some ⟨g2,0,none⟩) L R) L (aF (gD k a)):=by
    have:=q9.out.dM.upto L q8
    rw[eY] at this
    rwa [show (aF (Z.take (j*512))).take L=aF (gD k a) by rw[<-vM];simp[aF,iG]] at this
   have qf:16<=L:=by have:=HBL.out;omega
   have qc:512<=R:=aI C qo
   have ai:=HL.out
   have N:=(aJ wr.heap.size wr).drew
   have qb:=vP.below N
   have qC:=LQ _ ((gD k a).drop 12) 4 eG wr.drew (fA.from qb ai (by omega) (by omega)) (by rw[bG,ai];omega) (by omega)
   rw[Km,oZ 4 _ (by have:=xO (gB a);omega)] at qC
   obtain⟨sm,j6⟩:∃sm,Hid (wU (gB a)=sm):=⟨_,ah rfl⟩
   rw[j6.out] at qC
   have y7:sm<4294967296:=by rw[<-j6.out];exact xO _
   have F:=HH.out.below (T.out.drew)
   obtain⟨lv',dn,c9,lq⟩:=F.lg
   have rf:w.heap.size<=g2:=(q9.out.1.lt g2 (by simp[Value.ownBlock])).1
   have J:(gB a).length=L - 16:=by have:=HBL.out;omega
   have G:bq wr.drew (fun g=>g=D) 1 (.slice (some ⟨g2,16,none⟩) (L - 16) (R - 16)) (L - 16) (aF (gB a)):=by
    have:=fA.from qb ai qf (by omega:¬R=16)
    rw[Ir] at this
    unfold fA at this
    rw[J] at this
    refine bq.keep this fun g hg hl hs=>⟨rfl,fun e=> ?_⟩
    have h1:g=g2:=by simpa [Value.ownBlock] using hg.symm
    omega
   have ol:=AO (gm d l lv') [] D 9 288 dn c9 (.slice (some ⟨g2,16,none⟩) (L - 16) (R - 16)) (gB a) (fun g=>g=D) wr.drew rfl lq.row (by rw[J];exact G) rfl
   rw[show tL (gB a)=(sm:Int) by rw[tK,j6.out]] at ol
   have HG3:=ah qC;have HSU:=ah ol;have qO:=ah F;have nH:=ah lq;have HBD:=ah G;have HG2':=ah rf
   have z1:(L:Int)<=(R:Int):=by omega
   have z2:(12:Int)<=(L:Int):=by omega
   have z3:(16:Int)<=(L:Int):=by omega
   have z4:=fU sm (by omega)
   have z5:¬R=12:=by omega
   have z6:¬R=16:=by omega
   have z7:((L:Int) - 16)=((L - 16:Nat):Int):=by omega
   have eZ:=ah J;have HZZ:=ah (au C (au q8 (au qo (au qf qc))))
   have hbn:4*a.length<=L:=by
    have h1:4*a.length<=(gB a).length:=by rw[lC];exact Ld a
    omega
   have HIL:=ah (show a.length<=600000 by have:j<=4096:=fo;omega)
   clear vP qb qC ol F lq G rf J vM ai zy N vz hj2 vk C q8 qo qf qc y7 z8 fo di
   go_upto_region 16 with fail
   refine aP (fun W=>True) (fun i=> !([2,8].contains i)) [0,1,3,4,5,6,7,2,8,9,10] rfl (by kernel_rfl) trivial ?_
   repeat ((refine bE (v:= ?_) rfl rfl (fun _ _ _ h=>h) rfl (fun W A=> ?_) ?_);rotate_left;(focus ((try dsimp only at A);skip;(go_simp;first|done|with_reducible rfl)));(try simp only[Act.put,ak,ay,ax]))
   refine bT rfl rfl rfl ?_;intro K hK;go_simp
   refine HG3.out.mono ?_;rintro e w5 ⟨rfl,hw5⟩;subst w5
   refine hK.out _ _ trivial ?_
   repeat ((refine bE (v:= ?_) rfl rfl (fun _ _ _ h=>h) rfl (fun W A=> ?_) ?_);rotate_left;(focus ((try dsimp only at A);skip;(go_simp;first|done|with_reducible rfl)));(try simp only[Act.put,ak,ay,ax]))
   refine bT rfl rfl rfl ?_;intro K hK;go_simp
   refine HSU.out.mono ?_;rintro e w5 ⟨rfl,c5,sF,S⟩
   refine hK.out _ _ trivial ?_
   repeat ((refine bE (v:= ?_) rfl rfl (fun _ _ _ h=>h) rfl (fun W A=> ?_) ?_);rotate_left;(focus ((try dsimp only at A);skip;(go_simp;first|done|with_reducible rfl)));(try simp only[Act.put,ak,ay,ax]))
   refine bN ?_
   have hL5:=nH.out.table sF S
   have vT:gK w5 Sd Sl D d σ l:=⟨qO.out.dk.keep S (fun g hg e=>qO.out.dis g hg (e▸nH.out.sl)),⟨_,_,_,hL5⟩,qO.out.dis,qO.out.fit⟩
   have yE:Two Sd Sl Sd Sl w w5:=by
    have hb:=T.out.drew
    refine⟨(Keep.of_below hb _).trans (S.mono (fun g _ e=> .inr (e▸nH.out.sl))) (fun _ _ e=>e),fun _ hg=> .inl hg⟩
   have dM:w.heap.size<=w5.heap.size:=aI T.out.size S.size
   have d9:bq w5 eG 1 (.slice (some ⟨g2,16,none⟩) (L - 16) (R - 16)) (L - 16) (aF (gB a)):=bq.keep HBD.out fun g hg hl hs=>⟨S.block g hl hs,id⟩
   have jv:=ah (au vT (au yE dM))
   have HBD5:=ah d9
   clear sF S hL5 vT yE dM d9
   go_upto_region 20 with fail
   go_loopw [16,17,18] (fun bv rv _ wk=>∃(i:Nat) (bo:Option Addr) (bc n:Nat) (ro:Option Addr) (V:Nat),i<=a.length/\bv= .slice bo i bc/\rv= .slice ro n V/\Hid (aV wk eG w5.heap.size 9 1 bv i (((a.take i).map fun r=>strOf r).map .string))/\Hid ((gB (a.drop i)).length=n/\bq w5 eG 1 rv n (aF (gB (a.drop i))))/\Hid (Below w5.heap.size w5 wk)) (fun _ rv _ _=>(match rv with| .slice _ n _=>n|_=>0))
   case atStart=>
    refine⟨0,none,0,L - 16,some ⟨g2,16,none⟩,R - 16,aR _,rfl,rfl,ah (aV.nil _ _ _ _ _),ah ⟨?_,?_⟩,ah (aJ _ _)⟩
    ·rw[dY];exact eZ.out
    ·rw[dY];exact HBD5.out
   case round=>
    obtain⟨i,bo,bc,n,ro,V,hi,rfl,rfl,vo,nD,Q⟩:=hrel
    have hfr:=bq.form nD.out.2
    obtain⟨ro',rc',he,hnc,hcm,o5,kD⟩:=hfr
    cases he
    by_cases l5:i<a.length
    ·have av:a.drop i=a[i]::a.drop (i+1):=dB l5
     have j4:a.take (i+1)=a.take i++[a[i]]:=aO l5
     have lG:a[i].length<=L:=by
      have h1:(gB (a.drop i)).length<=(gB a).length:=by
       rw[lC,lC]
       have:a=a.take i++a.drop i:=(bM i a).symm
       conv=>rhs;rw[this]
       rw[dF,jK];omega
      rw[av,Ih] at h1
      have:=eZ.out
      omega
     obtain⟨r,hr⟩:∃r,Hid (a[i]=r):=⟨_,ah rfl⟩
     rw[hr.out] at av j4 lG
     obtain⟨q,hq⟩:∃q,Hid (r.length=q):=⟨_,ah rfl⟩
     have hv:=nD.out
     rw[av] at hv
     have mD:=Ny r (a.drop (i+1));have M:=QA r (a.drop (i+1));have pV:=Nw r (a.drop (i+1));have E:=Ih r (a.drop (i+1))
     obtain⟨Y,hY⟩:∃Y,Hid (gB (r::a.drop (i+1))=Y):=⟨_,ah rfl⟩
     obtain⟨Y2,lH⟩:∃Y2,Hid (gB (a.drop (i+1))=Y2):=⟨_,ah rfl⟩
     rw[hY.out] at hv mD M pV E
     rw[lH.out] at pV E
     rw[hq.out] at M pV E lG
     obtain⟨ko,l6⟩:=hv
     have hn:n=4+q+Y2.length:=by rw[<-ko,E]
     obtain⟨rb,f,rfl⟩:∃b o,ro=some ⟨b,o,none⟩:=o5.resolve_left (by omega)
     have nY:=l6.below Q.out
     have ng:=LQ _ Y 4 eG wr (show fA wr eG (.slice (some ⟨rb,f,none⟩) n V) Y by unfold fA;rw[ko];exact nY) (by omega) (by omega)
     rw[mD,hq.out,oZ 4 q (by have:=HZZ.out;omega)] at ng
     have s:=(nY.upto (4+q) (by omega)).after 4 (by omega)
     have H:=l6.after (4+q) (by omega)
     rw[eY] at s H
     rw[eY] at s
     rw[show (aF Y).drop (4+q)=aF Y2 by rw[<-pV];simp[aF,jy]] at H
     rw[show List.drop 4 ((aF Y).take (4+q))=aF r by rw[<-M];simp[aF,iG,jy]] at s
     rw[show 4+q - 4=q by omega] at s
     rw[show n - (4+q)=Y2.length by omega] at H
     have sN:∀W:World,(Instr.slice 154 (.slice (some ⟨rb,f,none⟩) n V) (some (.int .i64 4)) (some (.int .i64 ((4+q:Nat):Int))) none).run Tryz.prog W= .ok (.slice (if V=4 then some ⟨rb,f,none⟩ else(some (⟨rb,f,none⟩:Addr)).map fun x=>x.add 4) q (V - 4)) W:=fun W=>by
      rw[run_slice_lh W 154 _ _ _ (by kernel_rfl) .i64 .i64 4 ((4+q:Nat):Int) (by omega) (by omega) (by omega)]
      have e:(((4+q:Nat):Int)).toNat - Int.toNat 4=q:=by omega
      simp only[sliced]
      rw[e]
      rfl
     have zT:∀W:World,(Instr.slice 154 (.slice (some ⟨rb,f,none⟩) n V) (some (.int .i64 ((4+q:Nat):Int))) none none).run Tryz.prog W= .ok (.slice (if V=4+q then some ⟨rb,f,none⟩ else(some (⟨rb,f,none⟩:Addr)).map fun x=>x.add (4+q)) Y2.length (V - (4+q))) W:=fun W=>by
      rw[run_slice_l W 154 _ _ _ (by kernel_rfl) .i64 ((4+q:Nat):Int) (by omega) (by omega)]
      have e:n - (((4+q:Nat):Int)).toNat=Y2.length:=by omega
      have e2:(((4+q:Nat):Int)).toNat=4+q:=by omega
      have hsz:(sizeOf (Tryz.prog.elem 154)).run Tryz.prog W= .ok 1 W:=rfl
      simp only[sliced]
      rw[e,e2,hsz]
      simp only[Result.andThen,eY]
     obtain⟨a1,ha1⟩:∃a1,Hid ((if V=4 then some (⟨rb,f,none⟩:Addr) else(some (⟨rb,f,none⟩:Addr)).map fun x=>x.add 4)=a1):=⟨_,ah rfl⟩
     obtain⟨a2,ha2⟩:∃a2,Hid ((if V=4+q then some (⟨rb,f,none⟩:Addr) else(some (⟨rb,f,none⟩:Addr)).map fun x=>x.add (4+q))=a2):=⟨_,ah rfl⟩
     rw[ha1.out] at s sN
     rw[ha2.out] at H zT
     obtain⟨p4,sW⟩:∃p4,Hid (4+q=p4):=⟨_,ah rfl⟩
     rw[sW.out] at sN zT H
     have y1:(4:Int)<=(n:Int):=by omega
     have y2:IntKind.i64.wrap (4+(q:Int))=(p4:Int):=by rw[aM _ (by omega),<-sW.out];omega
     have y3:IntKind.i64.wrap ((n:Int) - 4)=((n - 4:Nat):Int):=by rw[aM _ (by omega)];omega
     have y4:¬((n - 4:Nat):Int)<(q:Int):=by omega
     have y5:IntKind.i64.wrap (q:Int)=(q:Int):=aM _ (by omega)
     have hcv:(convert 154 9 (.slice a1 q (V - 4))).run Tryz.prog wr= .ok (.string (strOf r)) wr:=bq.strOf (by rw[hq.out];exact s)
     have HGR:=ah ng;have HTL:=ah H;have HTK:=ah j4;have HLY:=ah (show Y2.length<n by omega)
     have HIB:=ah l5
     have hil:i+1<=1000000:=by have:=HIL.out;have:=HIB.out;omega
     clear ng H s nY l6 ko hn mD M pV E av j4 lG hnc hcm o5 kD
     go_wp2_with (first
      |(go_at_call 322;go_must (refine HGR.out.mono ?_;rintro e w6 ⟨rfl,hw6⟩;subst w6))
      |(at_builtin;go_must ((refine dQ rfl (.tmp 111) (.tmp 117) 146 146 rfl eG w5.heap.size 9 1 16 _ iq uV rfl (.slice bo i bc) _ _ rfl (vo.out.below (aG _ _)) _ 1 _ rfl (iB [_] _ 1 1 1 rfl iq rfl ?_) (fun _ h=>h.elim) ?_ ?_ ?_ ?_);(focus (simp[Value.oneCell']));(focus (simp only[bD];have:=Q.out.size;omega));(focus (unfold maxLen;omega));(focus omega);intro ao1 c1 w6 ql hk6 vY hd6)))
     have HO6:=ah ql
     have HB6:=ah (Q.out.trans (((aG wr _).mono Q.out.size).trans vY))
     clear ql hk6 vY hd6
     go_roundw
     case rel=>
      refine⟨i+1,ao1,c1,Y2.length,a2,V - p4,HIB.out,rfl,rfl,ah ?_,ah ⟨by rw[lH.out],by rw[lH.out];exact HTL.out⟩,HB6⟩
      rw[HTK.out,dF,dF]
      exact HO6.out
     case measure=>exact HLY.out
    ·obtain rfl:i=a.length:=by omega
     have hn0:n=0:=by have:=nD.out.1;rw[iP] at this;exact this.symm
     subst hn0
     go_wp2_with fail
     go_ret3
     refine⟨.slice bo a.length bc,rfl,?_,jv.out.1.below Q.out,jv.out.2.1.trans (Two.of_below Q.out)⟩
     have:=vo.out
     rw[bL,Ul] at this
     exact aV.lower this jv.out.2.2
def Bl (b:List (List UInt8)):List Value:=(b.map fun r=>strOf r).map .string
structure lT (w:World)(S:Nat->Prop)(B:Nat)(v:Value)(vs:List Value)(bs:List (List (List UInt8))):Prop where
 own:aV w S B 146 1 v vs.length vs
 len:vs.length=bs.length
 row:∀i (h:i<bs.length),∃u,vs[i]? =some u/\bq w (fun g=>S g\/v.ownBlock=some g) 1 u bs[i].length (Bl bs[i])
theorem lT.nil (w:World)(S:Nat->Prop)(B:Nat):lT w S B (.slice none 0 0) [] []:=⟨aV.nil _ _ _ _ _,rfl,fun i h=>absurd h (oF _)⟩
theorem lT.keep {w w':World}{S S':Nat->Prop}{B:Nat}{v:Value}{d:List Value}{f:List (List (List UInt8))}(h:lT w S B v d f)(j:Keep S w w')(c:∀g,S' g->S g\/w.heap.size<=g):lT w' S' B v d f:=by
 refine⟨h.own.keep fun g k b a=>⟨j.block g b a,fun e=>(c g e).elim a (fun x=>absurd b (aX.2 x))⟩,h.len,fun i l=> ?_⟩
 obtain⟨u,m,n⟩:=h.row i l
 exact⟨u,m,n.keep fun g k b a=>⟨j.block g b (fun e=>a (.inl e)),fun e=>e.elim (fun x=>(c g x).elim (fun y=>a (.inl y)) (fun y=>absurd b (aX.2 y))) (fun x=>a (.inr x))⟩⟩
theorem lT.below {w w':World}{S:Nat->Prop}{B:Nat}{v:Value}{b:List Value}{a:List (List (List UInt8))}(h:lT w S B v b a)(c:Below w.heap.size w w'):lT w' S B v b a:=h.keep (Keep.of_below c S) (fun _ e=> .inl e)
theorem lT.app {w d:World}{S:Nat->Prop}{B:Nat}{v f u:Value}{c:List Value}{j:List (List (List UInt8))}{b:List (List UInt8)}(h:lT w S B v c j)(s:aV d S B 146 1 f (c.length+1) (c++[u]))(D:Keep (fun g=>v.ownBlock=some g) w d)
  (A:bq w (fun g=>S g\/v.ownBlock=some g) 1 u b.length (Bl b)) (r:∀g,g<w.heap.size->v.ownBlock≠some g->f.ownBlock≠some g):lT d S B f (c++[u]) (j++[b]):=by
 have a:∀{n:Nat} {x:Value} {p:List Value},bq w (fun g=>S g\/v.ownBlock=some g) 1 x n p->bq d (fun g=>S g\/f.ownBlock=some g) 1 x n p:=fun k=>k.keep fun g E q l=>
  ⟨D.block g q (fun e=>l (.inr e)),fun e=>e.elim (fun y=>l (.inl y)) (fun y=>r g q (fun z=>l (.inr z)) y)⟩
 refine⟨by rw[aB,dP];exact s,by rw[aB,aB,h.len];rfl,fun i t=> ?_⟩
 by_cases m:i<j.length
 ·obtain⟨x,k,C⟩:=h.row i m
  rw[List.getElem_append_left m]
  exact⟨x,by rw[fI (by rw[h.len];exact m)];exact k,a C⟩
 ·have o:i=j.length:=by rw[aB,dP] at t;omega
  subst o
  rw[qJ (aC _)]
  refine⟨u,by rw[<-h.len,bP (aC _),kF];rfl,?_⟩
  simpa using a A
def Lg.upTo (l:Lg)(i:Nat):Lg:={l with used:=((l.list.take i).map (·.2)).sum,list:=l.list.take i}
theorem Lg.KC {l:Lg}(h:l.Ok)(i:Nat):(l.upTo i).Ok:=by
 refine⟨h.n2,h.hi,h.st,?_,h.la,h.sy,fun e a=>h.ent e (kK a),rfl⟩
 have e:=h.sum
 have b:=h.us
 have:l.list=l.list.take i++l.list.drop i:=(bM i l.list).symm
 rw[this,dF,jK] at e
 show ((l.list.take i).map (·.2)).sum<=l.n - 1
 omega
theorem Lg.xK {l:Lg}(h:l.Ok):l.upTo l.list.length=l:=by
 unfold Lg.upTo
 rw[bL,h.sum]
theorem pR.at {s:Nat->List UInt8}{l:Lg}{a:List (List (List UInt8))}(h:pR s l a)(i:Nat)(c:i<a.length):l.list[i]? =some (l.last+1 - a.length+i,bZ a[i]):=by
 rw[h.list]
 generalize l.last+1 - a.length=k
 clear h
 induction a generalizing i k with
 |nil=>exact absurd c (oF _)
 |cons b r ih=>
  cases i with
  |zero=>rfl
  |succ i=>
   rw[jI,dm,ih i (by simpa using c) (k+1),Fq]
   congr 2
   omega
theorem pR.EH {s:Nat->List UInt8}{l:Lg}{a:List (List (List UInt8))}(h:pR s l a):l.list.length=a.length:=by rw[h.list,wF]
theorem pR.Rj {s:Nat->List UInt8}{l:Lg}{a:List (List (List UInt8))}(h:pR s l a)(i:Nat):(l.upTo i).used=wide (a.take i):=by
 show ((l.list.take i).map (·.2)).sum=_
 rw[h.list,uZ,wY]
theorem pR.first {s:Nat->List UInt8}{l:Lg}{a:List (List (List UInt8))}(h:pR s l a):l.first=l.last+1 - a.length:=qA h.list h.len
theorem JM {s:Nat->List UInt8}{l:Lg}{Z:List (List (List UInt8))}{W:Dk}{Y q:Nat->Prop}{A d i F D H:Nat}{c R E:World}{p:Value}{B:Bool}{O:Int}{b:Option Addr}{j b9:Nat}(S:pR s l Z)(T:i<Z.length)(y:l.list[i]? =some (F,D))(P:(l.upTo i).used+D=H)
  (f:gK c Y q A d W (l.upTo i)) (m:oD c q A d (l.upTo i) p B O) (M:Keep (fun g=>p.ownBlock=some g) c R)
  (n:lI R 296 2 (.slice b (i+1) j) (i+1) (iU (l.upTo i).list++[.int .i64 (F:Int),.int .i64 (D:Int)])) (r:(Value.slice b (i+1) j).ownBlock=p.ownBlock\/∃g,(Value.slice b (i+1) j).ownBlock=some g/\(c.drew.alloc (.cells #[.int .i64 F,.int .i64 D] b9)).heap.size<=g)
  (o:Keep (fun g=>g=A) R E) (Q:Row E A 288 (((gH (gm d (l.upTo i) p) B O []).set 5 (.slice b (i+1) j)).set 4 (.int .i64 (H:Int)))):
  ∃X:Nat->Prop,(∀g,X g->q g\/c.heap.size<=g)/\gK E Y X A d W (l.upTo (i+1))/\Keep q c E:=by
 have C:=m.slv (show (l.upTo i).dead=false from S.dead)
 have k:Keep q c E:=(M.mono (fun g _ e=>(C g e).1)).trans o (fun g _ e=>e▸m.sl)
 have G:c.heap.size<=(c.drew.alloc (.cells #[.int .i64 F,.int .i64 D] b9)).heap.size:=by simp
 have K:∀g,(Value.slice b (i+1) j).ownBlock=some g->q g\/c.heap.size<=g:=fun g a=>by
  rcases r with e|⟨g',e,z⟩
  ·exact .inl (C g (e▸a)).1
  ·rw[e] at a;cases a;exact .inr (aI G z)
 have t:∀g,(Value.slice b (i+1) j).ownBlock=some g->g≠A:=fun g a=>by
  rcases r with e|⟨g',e,z⟩
  ·exact(C g (e▸a)).2
  ·rw[e] at a;cases a
   have h1:=m.row.lt
   have h2:c.heap.size<=g:=aI G z
   omega
 have v:∀g,(q g\/(Value.slice b (i+1) j).ownBlock=some g)->q g\/c.heap.size<=g:=fun g a=>a.elim .inl (K g)
 have N:i<l.list.length:=by rw[S.EH];exact T
 have J:l.list.take (i+1)=l.list.take i++[(F,D)]:=by
  rw[aO N]
  rw[bB N] at y
  rw[dN y]
 have I:(l.upTo (i+1)).used=H:=by
  show ((l.list.take (i+1)).map (·.2)).sum=H
  rw[J,dF,jK,<-P]
  simp[Lg.upTo]
 have V:oD E (fun g=>q g\/(Value.slice b (i+1) j).ownBlock=some g) A d (l.upTo (i+1)) (.slice b (i+1) j) B O:=by
  refine⟨Lg.KC S.ok _,fun g a=> ?_,.inl m.sl,?_,fun _=> ?_,fun _ g a=>⟨.inr a,t g a⟩⟩
  ·rcases a with a|a
   ·exact aA (m.sub g a) k.size
   ·exact aA (n.lt a) o.size
  ·have:gm d (l.upTo (i+1)) (.slice b (i+1) j)=[.pointer (some ⟨d,0,none⟩),.int .i64 l.frm,.int .i64 l.n,.int .i64 l.start,.int .i64 (H:Int),.slice b (i+1) j,.int .i64 l.last,.int .i64 l.synced,.bool l.dead]:=by
    unfold gm
    rw[I];rfl
   rw[this]
   exact Q
  ·have e1:(l.upTo (i+1)).list.length=i+1:=by show (l.list.take (i+1)).length=_;rw[aQ];omega
   have e2:iU (l.upTo (i+1)).list=iU (l.upTo i).list++[.int .i64 (F:Int),.int .i64 (D:Int)]:=by
    show iU (l.list.take (i+1))=iU (l.list.take i)++_
    rw[J,uf];rfl
   rw[e1,e2]
   exact n.keep fun g a=>o.block g (n.lt a) (t g a)
 exact⟨_,v,⟨f.dk.keep k (fun g a e=>f.dis g a e),⟨_,_,_,V⟩,fun g a e=>(v g e).elim (f.dis g a) (fun x=>absurd (f.dk.sub g a) (aX.2 x)),f.fit⟩,k⟩
theorem MN {l J:Lg}{b:List (List UInt8)}{I:List (List (List UInt8))}{D:Dk}{c f q:Nat->Prop}{F d B:Nat}{w wr r o:World}{C H:Value}{E:List Value}(hA:gK wr c f F d D l)(k:Step c (fun g=>c g\/f g) w wr)(z:lT wr (fun g=>c g\/f g) B C E I)
  (A:Two c f c f wr.drew r) (s:aV r eG wr.drew.heap.size 9 1 H b.length (Bl b)) (n:Keep f r o) (j:∀g,q g->f g\/r.heap.size<=g) (y:gK o c q F d D J):
  Step c (fun g=>c g\/q g) w o/\lT o (fun g=>c g\/q g) B C E I/\bq o (fun g=>(c g\/q g)\/C.ownBlock=some g) 1 H b.length (Bl b)/\∀g,c g\/q g->g<o.heap.size:=by
 have i:Keep (fun g=>c g\/f g) wr r:=(Keep.of_below (aJ wr.heap.size wr).drew _).trans A.1 (fun _ _ e=>e)
 have m:Keep (fun g=>c g\/f g) wr o:=i.trans n (fun _ _ e=> .inr e)
 have v:∀g,c g\/f g->g<wr.heap.size:=fun g a=>a.elim (hA.dk.sub g) (hA.lg.sub g)
 refine⟨⟨k.1.trans m (fun g a e=>(k.2 g e).elim id (fun x=>absurd a (aX.2 x))),fun g a=> ?_⟩,z.keep m fun g a=> ?_,bq.keep s.dM fun g a G _=> ?_,fun g a=>a.elim (y.dk.sub g) (y.lg.sub g)⟩
 ·rcases a with a|a
  ·exact k.2 g (.inl a)
  ·rcases j g a with a|a
   ·exact k.2 g (.inr a)
   ·exact .inr (aI (aI k.1.size i.size) a)
 ·rcases a with a|a
  ·exact .inl (.inl a)
  ·exact(j g a).elim (fun x=> .inl (.inr x)) (fun x=> .inr (aI i.size x))
 ·have t:=(s.1.lt g a).1
  have p:¬(c g\/f g):=fun e=>absurd (v g e) (aX.2 t)
  refine⟨n.block g G (fun e=>p (.inr e)),fun e=> ?_⟩
  rcases e with (e|e)|e
  ·exact p (.inl e)
  ·exact(j g e).elim (fun x=>p (.inr x)) (fun x=>absurd G (aX.2 x))
  ·exact absurd (z.own.1.lt g e).2 (aX.2 t)
theorem J2:(Tryz.prog.info? 146).map (fun i=>(i.zero,i.size,i.bytes))=some (some (.slice none 0 0),1,24):=by kernel_rfl
theorem Wm (d:Nat)(σ:Dk)(I:Nat->Prop)(n:Nat)(l:Lg)(G:List (List (List UInt8)))(w:World)(h:qL w I d σ)(hd:σ.dead=false)(hL:pR σ.get l G)(hn:l.n=n)(hfit:n<=σ.n)(hll:l.last<1000000000000):
  Calls Tryz.prog 206 #[.pointer (some ⟨d,0,none⟩),.int .i64 0,.int .i64 n] w fun e w'=>∃a Sl av vs,e= .returned (.tuple #[.pointer (some ⟨a,0,none⟩),av,.int .i64 0])/\
   gK w' I Sl a d σ l/\lT w' (fun g=>I g\/Sl g) w.heap.size av vs G/\Step I (fun g=>I g\/Sl g) w w':=by
 have di:=hL.ok
 have hn2:=di.n2;have qm:=di.hi;have p9:=di.st;have hla:=di.la;have hsy:=hL.uE;have hlen:=hL.len;have zf:=hL.frm;have qb:=di.us
 rw[hn] at hn2 qm p9 qb
 have HR:Hid (Calls Tryz.prog 150 #[.pointer (some ⟨d,0,none⟩),.int .i64 0,.int .i64 n] w fun e w'=>e= .returned (.int .i64 0)/\w'=w):=ah (Kz d σ I 0 n w h hn2 (by omega))
 have j5:=Lf d σ I 0 w h hd (by have:=h.ok.lo;omega)
 obtain⟨z,hz⟩:∃z,Hid (List.replicate (512 - l.d9.length) (0:UInt8)=z):=⟨_,ah rfl⟩
 have hX:σ.get 0=l.d9++z:=by rw[hL.mark];unfold pad;rw[hz.out]
 have qf:(l.d9++z).length=512:=by rw[<-hX];exact h.ok.get 0
 have hf:=di.fields
 have kD:∀i (hi:i<5),rO (((l.d9++z).drop (12+8*i)).take 8)=l.fields.getD i 0:=fun i hi=>by
  rw[JQ l z i hi,oZ 8 _ ?_]
  have:l.fields.getD i 0∈l.fields:=by
   rw[fE,bB (show i<l.fields.length from hi)]
   exact bJ _
  have:=hf _ this
  omega
 have f0:=kD 0 (by omega);have f1:=kD 1 (by omega);have f2:=kD 2 (by omega);have f3:=kD 3 (by omega);have f4:=kD 4 (by omega)
 have j4:=hL.first
 have g0:l.fields.getD 0 0=0:=zf
 have g1:l.fields.getD 1 0=n:=hn
 have g2:l.fields.getD 2 0=l.start:=rfl
 have g3:l.fields.getD 3 0=l.last+1 - G.length:=j4
 have g4:l.fields.getD 4 0=l.last:=hsy
 rw[g0] at f0;rw[g1] at f1;rw[g2] at f2;rw[g3] at f3;rw[g4] at f4
 rw[hX] at j5
 obtain⟨X,hXX⟩:∃X,Hid (l.d9++z=X):=⟨_,ah rfl⟩
 have hmg:=JP l z;have hhd:=MU l z;have hsm:=PD l z
 rw[hXX.out] at j5 qf f0 f1 f2 f3 f4 hmg hhd hsm
 have j5:=ah j5
 have HF:=ah (au f0 (au f1 (au f2 (au f3 f4))))
 have HM:=ah (au hmg (au hhd (au hsm qf)))
 have M:=ah hL;have HH:=ah h;have HN:=ah hn
 have nk:=ah (au hn2 (au qm (au p9 (au hla (au hsy (au hlen (au zf qb)))))))
 clear kD j4 g0 g1 g2 g3 g4 f0 f1 f2 f3 f4 hX hmg hhd hsm qf hL h hf di
 go_enter Tryz.func206,Tryz.ntmps206
 go_wp2_with (first
  |(go_at_call 150;go_must (refine HR.out.mono ?_;rintro e w1 ⟨rfl,hw1⟩;subst w1;refine Stop.of ?_)))
 refine Stop.on ?_
 go_wp2_with (first
  |(go_at_call 217;go_must (refine j5.out.mono ?_;rintro e w1 ⟨v1,rfl,nN,o5⟩;refine Stop.of ?_)))
 refine Stop.on ?_
 obtain⟨g,c,rfl,eH,eZ⟩:∃g c,v1= .slice (some ⟨g,0,none⟩) 512 c/\512<=c/\c<=maxLen:=by
  obtain⟨⟨hl0,hr0⟩,_⟩:=nN
  rcases hr0 with ⟨_,h0⟩|⟨g,vk,cur,hv,_,_,h1,h2,_⟩
  ·omega
  ·exact⟨g,vk,hv,h1,h2⟩
 have ai:w.heap.size<=g:=(nN.1.lt g (by simp[Value.ownBlock])).1
 have pV:g<w1.heap.size:=(nN.1.lt g (by simp[Value.ownBlock])).2
 have hS1:bq w1 eG 1 (.slice (some ⟨g,0,none⟩) 512 c) 512 (aF X):=nN.dM
 have rq:=aG w1 (.cells #[.slice (some ⟨g,0,none⟩) 512 c] 154)
 have jb:=aH w1 (.cells #[.slice (some ⟨g,0,none⟩) 512 c] 154)
 obtain⟨J,r9⟩:∃J:World,Hid (w1.alloc (.cells #[.slice (some ⟨g,0,none⟩) 512 c] 154)=J):=⟨_,ah rfl⟩
 have hs2:J.heap.size=w1.heap.size+1:=by rw[<-r9.out];simp
 rw[r9.out] at rq jb
 have l9:=aG J (.cells #[.int .i64 12] 3)
 have vo:=aH J (.cells #[.int .i64 12] 3)
 obtain⟨O,tY⟩:∃O:World,Hid (J.alloc (.cells #[.int .i64 12] 3)=O):=⟨_,ah rfl⟩
 have rf:O.heap.size=J.heap.size+1:=by rw[<-tY.out];simp
 rw[tY.out] at l9 vo
 have oO:=aG O (.cells (gH (gm d (Lg.new 0 n) (.slice none 0 0)) false 0 []).toArray 288)
 have A:Row (O.alloc (.cells (gH (gm d (Lg.new 0 n) (.slice none 0 0)) false 0 []).toArray 288)) O.heap.size 288 (gH (gm d (Lg.new 0 n) (.slice none 0 0)) false 0 []):=Row.new O _ _
 obtain⟨N,vz⟩:∃N:World,Hid (O.alloc (.cells (gH (gm d (Lg.new 0 n) (.slice none 0 0)) false 0 []).toArray 288)=N):=⟨_,ah rfl⟩
 have hs4:N.heap.size=O.heap.size+1:=by rw[<-vz.out];simp
 rw[vz.out] at oO A
 obtain⟨pb,j6⟩:∃pb,Hid (w1.heap.size=pb):=⟨_,ah rfl⟩
 obtain⟨pk,nH⟩:∃pk,Hid (J.heap.size=pk):=⟨_,ah rfl⟩
 obtain⟨a,sF⟩:∃a,Hid (O.heap.size=a):=⟨_,ah rfl⟩
 have bf:pb+1=pk:=by rw[<-j6.out,<-nH.out,hs2]
 have q9:pk+1=a:=by rw[<-nH.out,<-sF.out,rf]
 rw[j6.out] at jb pV;rw[nH.out] at vo;rw[sF.out] at A
 have hl2:pb<J.heap.size:=by rw[hs2,j6.out];omega
 have hl3:pk<O.heap.size:=by rw[rf,nH.out];omega
 have fo:a<N.heap.size:=by rw[hs4,sF.out];omega
 have o:=(oO.block pb (by rw[rf];omega)).trans ((l9.block pb hl2).trans jb)
 have q:=(oO.block pk hl3).trans vo
 have og:=rq.trans ((l9.trans (oO.mono l9.size)).mono rq.size)
 have k:=o5.trans (og.mono o5.size)
 have R:=hS1.below og
 have Y:=ah (au k (au ai (au bf (au q9 (au fo (au o (au q (au A (au R (au eH (au eZ (au pV (au (o5.size) j6.out)))))))))))))
 clear nN o5 hS1 rq jb l9 vo oO A hs2 rf hs4 bf q9 hl2 hl3 fo o q og k R ai pV
 have hmf:∀(fn:Fn) (first vk:Array Value) (w:World),(Instr.makeFunc fn first vk).run Tryz.prog w= .ok (.func fn first vk) w:=fun _ _ _ _=>rfl
 go_upto_region 10 with fail
 have hlc:(Tryz.zeroCells288.setIfInBounds 0 (.pointer (some ⟨d,0,none⟩))|>.setIfInBounds 1 (.int .i64 0)|>.setIfInBounds 2 (.int .i64 (n:Int)))=(gH (gm d (Lg.new 0 n) (.slice none 0 0)) false 0 []).toArray:=Dw d 0 n
 rw[hlc]
 rw[r9.out,tY.out,vz.out,j6.out,Y.out.2.2.1,Y.out.2.2.2.1]
 clear hlc
 obtain⟨k,ai,bf,q9,fo,o,q,A,R,eH,eZ,pV,qo,_⟩:=Y.out
 have hbD:=(aJ N.heap.size N).drew
 have mD:=R.below hbD
 have hglg:g≠a:=by omega
 have qf:=HM.out.2.2.2
 have E:∀W:World,Keep (fun x=>x=a) N.drew W->W.cell? ⟨pb,0,none⟩=some (.slice (some ⟨g,0,none⟩) 512 c)/\W.cell? ⟨pk,0,none⟩=some (.int .i64 12)/\pb<W.heap.size/\pk<W.heap.size/\(convert 154 9 (.slice (some ⟨g,0,none⟩) 12 c)).run Tryz.prog W= .ok (.string ⟨#[100,111,99,107,101,116,32,108,111,103,32,49]⟩) W:=by
  intro W hk
  have e1:=(hk.block pb (by show pb<N.heap.size;omega) (by omega)).trans o
  have e2:=(hk.block pk (by show pk<N.heap.size;omega) (by omega)).trans q
  refine⟨by simp[World.cell?,e1],by simp[World.cell?,e2],(aj.1 e1).1,(aj.1 e2).1,?_⟩
  have hs:bq W eG 1 (.slice (some ⟨g,0,none⟩) 512 c) 512 (aF X):=mD.keep fun x hx hl _=>⟨hk.block x hl (fun e=>by
   have:x=g:=by simpa [Value.ownBlock] using hx.symm
   omega),id⟩
  have hu:=hs.upto 12 (by omega)
  rw[eY,show (aF X).take 12=aF magic by rw[<-HM.out.1];simp[aF,iG]] at hu
  exact bq.strOf (l:=magic) hu
 have y:=ah E
 obtain⟨ha1,ha2,ha3,ha4,_⟩:=E _ (Keep.refl _ _)
 have qc:=fun (i:Nat) (hi:i<=4)=>Oi pb pk g c X i 512 N.drew (by omega) (by omega) ha1 ha2 qf (by show bq _ _ _ _ X.length _;rw[qf];exact mD) hi
 obtain⟨F0,F1,F2,F3,F4⟩:=HF.out
 have hw0:Calls Tryz.prog 321 #[.int .i64 0,.pointer (some ⟨pb,0,none⟩),.pointer (some ⟨pk,0,none⟩)] N.drew fun e w'=>e= .returned (.int .u64 0)/\w'=N.drew:=by
  have:=qc 0 (by omega)
  rw[F0] at this
  exact this
 have hw1:Calls Tryz.prog 321 #[.int .i64 1,.pointer (some ⟨pb,0,none⟩),.pointer (some ⟨pk,0,none⟩)] N.drew fun e w'=>e= .returned (.int .u64 n)/\w'=N.drew:=by
  have:=qc 1 (by omega)
  rw[F1] at this
  exact this
 obtain⟨sm,j3⟩:∃sm,Hid (wU l.lG=sm):=⟨_,ah rfl⟩
 have hsmb:sm<4294967296:=by rw[<-j3.out];exact xO _
 have hgt:=LQ _ (X.drop 52) 4 eG N.drew (fA.from mD qf (by omega:52<=512) (by omega:¬c=52)) (by rw[bG,qf];omega) (by omega)
 rw[HM.out.2.2.1,j3.out,oZ 4 sm (by omega)] at hgt
 have lH:=mD.upto 52 (by omega)
 rw[eY,show (aF X).take 52=aF l.lG by rw[<-HM.out.2.1];simp[aF,iG]] at lH
 have hrD:Row N.drew a 288 (gH (gm d (Lg.new 0 n) (.slice none 0 0)) false 0 []):=A
 have hsu:=AO (gm d (Lg.new 0 n) (.slice none 0 0)) [] a 9 288 false 0 (.slice (some ⟨g,0,none⟩) 52 c) l.lG (fun x=>x=a) N.drew rfl hrD (by
  rw[l.og]
  exact lH.keep fun x hx _ _=>⟨rfl,fun e=>by
   have:x=g:=by simpa [Value.ownBlock] using hx.symm
   omega⟩) rfl
 rw[show tL l.lG=(sm:Int) by rw[tK,j3.out]] at hsu
 have HW0:=ah hw0;have HW1:=ah hw1;have HGT:=ah hgt;have HSU:=ah hsu;have HWF:=ah qc
 have q1:=fU n (by have:=nk.out;omega)
 have q2:=fU sm (by omega)
 have q3:¬c=52:=by omega
 have q4:(52:Int)<=(c:Int):=by omega
 have q5:(12:Int)<=(c:Int):=by omega
 have q6:IntKind.i64.wrap (52:Int)=52:=aM _ (by omega)
 clear E qc hw0 hw1 hgt hsu lH hrD mD R A o q k hbD qf F0 F1 F2 F3 F4 ha1 ha2 ha3 ha4 hsmb ai bf q9 eH eZ pV qo hglg
 refine aP (fun W=>Keep (fun x=>x=a) N.drew W) (fun i=> !([7,14,24,32].contains i)) [0,1,2,3,4,5,6,8,9,7,10,11,12,13,15,16,14,17,18,19,20,21,22,23,25,26,27,28,29,30,31,24,32,33,34,35] rfl (by kernel_rfl) (Keep.refl _ _) ?_
 repeat ((refine bE (v:= ?_) rfl rfl (fun _ _ _ h=>h) rfl (fun W s=> ?_) ?_);rotate_left;(focus ((try dsimp only at s);obtain⟨r0,r1,r2,r3,r4⟩:=y.out W s;(go_simp;first|done|with_reducible rfl)));(try simp only[Act.put,ak,ay,ax]))
 refine bT rfl rfl rfl ?_;intro K hK;go_simp
 refine HW0.out.mono ?_;rintro e w5 ⟨rfl,hw5⟩;subst w5
 refine hK.out _ _ (Keep.refl _ _) ?_
 repeat ((refine bE (v:= ?_) rfl rfl (fun _ _ _ h=>h) rfl (fun W s=> ?_) ?_);rotate_left;(focus ((try dsimp only at s);obtain⟨r0,r1,r2,r3,r4⟩:=y.out W s;(go_simp;first|done|with_reducible rfl)));(try simp only[Act.put,ak,ay,ax]))
 refine bT rfl rfl rfl ?_;intro K hK;go_simp
 refine HW1.out.mono ?_;rintro e w5 ⟨rfl,hw5⟩;subst w5
 refine hK.out _ _ (Keep.refl _ _) ?_
 repeat ((refine bE (v:= ?_) rfl rfl (fun _ _ _ h=>h) rfl (fun W s=> ?_) ?_);rotate_left;(focus ((try dsimp only at s);obtain⟨r0,r1,r2,r3,r4⟩:=y.out W s;(go_simp;first|done|with_reducible rfl)));(try simp only[Act.put,ak,ay,ax]))
 refine bT rfl rfl rfl ?_;intro K hK;go_simp
 refine HGT.out.mono ?_;rintro e w5 ⟨rfl,hw5⟩;subst w5
 refine hK.out _ _ (Keep.refl _ _) ?_
 repeat ((refine bE (v:= ?_) rfl rfl (fun _ _ _ h=>h) rfl (fun W s=> ?_) ?_);rotate_left;(focus ((try dsimp only at s);obtain⟨r0,r1,r2,r3,r4⟩:=y.out W s;(go_simp;first|done|with_reducible rfl)));(try simp only[Act.put,ak,ay,ax]))
 refine bT rfl rfl rfl ?_;intro K hK;go_simp
 refine HSU.out.mono ?_;rintro e w5 ⟨rfl,c5,f,mr⟩
 refine hK.out _ _ mr ?_
 repeat ((refine bE (v:= ?_) rfl rfl (fun _ _ _ h=>h) rfl (fun W s=> ?_) ?_);rotate_left;(focus ((try dsimp only at s);obtain⟨r0,r1,r2,r3,r4⟩:=y.out W s;(go_simp;first|done|with_reducible rfl)));(try simp only[Act.put,ak,ay,ax]))
 refine bN ?_
 obtain⟨k,ai,bf,q9,fo,o,q,A,R,eH,eZ,pV,qo,ng⟩:=Y.out
 obtain⟨F0,F1,F2,F3,F4⟩:=HF.out
 have qc:∀W:World,Keep (fun x=>x=a) N.drew W->∀i:Nat,i<=4->Calls Tryz.prog 321 #[.int .i64 i,.pointer (some ⟨pb,0,none⟩),.pointer (some ⟨pk,0,none⟩)] W fun e w'=>e= .returned (.int .u64 (rO ((X.drop (12+8*i)).take 8)))/\w'=W:=fun W hk i hi=>by
  obtain⟨r0,r1,r2,r3,_⟩:=y.out W hk
  refine Oi pb pk g c X i 512 W (by omega) (by omega) r0 r1 HM.out.2.2.2 ?_ hi
  show bq _ _ _ _ X.length _
  rw[HM.out.2.2.2]
  exact(R.below (aJ N.heap.size N).drew).keep fun x hx hl _=>⟨hk.block x hl (fun e=>by
   have:x=g:=by simpa [Value.ownBlock] using hx.symm
   omega),id⟩
 have hv2:=qc w5 mr 2 (by omega);have hv4:=qc w5 mr 4 (by omega)
 rw[F2] at hv2
 rw[F4] at hv4
 have sN:=(f.setCell 3 (.int .i64 l.start)).setCell 7 (.int .i64 l.last)
 have vT:=f.setCell 3 (.int .i64 l.start)
 have P:=sN.setCell 6 (.int .i64 l.last)
 have lq:Keep (fun x=>x=a) N.drew ((w5.setCell ⟨a,3,none⟩ (.int .i64 l.start)).setCell ⟨a,7,none⟩ (.int .i64 l.last)):=(mr.setCell (p:=⟨a,3,none⟩) (.inr rfl) _).setCell (p:=⟨a,7,none⟩) (.inr rfl) _
 have dM:=lq.setCell (p:=⟨a,6,none⟩) (.inr rfl) (.int .i64 l.last)
 have hv3:=qc _ dM 3 (by omega)
 rw[F3] at hv3
 have e7:((w5.setCell ⟨a,3,none⟩ (.int .i64 l.start)).setCell ⟨a,7,none⟩ (.int .i64 l.last)).cell? ⟨a,7,none⟩=some (.int .i64 l.last):=(sN.cell 7).trans rfl
 have hlt5:=f.lt
 have b3:w5.cell? ⟨a,3,none⟩=some (.int .i64 0):=(f.cell 3).trans rfl
 have b6:w5.cell? ⟨a,6,none⟩=some (.int .i64 0):=(f.cell 6).trans rfl
 have b7:w5.cell? ⟨a,7,none⟩=some (.int .i64 0):=(f.cell 7).trans rfl
 have fw3:=f.frozen 3
 have fw6:=f.frozen 6
 have fw7:=f.frozen 7
 have fz3:=f.frozen 3
 have fz7:=vT.frozen 7
 have fz6:=sN.frozen 6
 have hl0:l.upTo 0=⟨0,n,l.start,0,[],l.last,l.last,false⟩:=by
  have h1:=M.out.frm;have h2:=HN.out;have h3:=M.out.uE;have h4:=M.out.dead
  unfold Lg.upTo
  cases l
  simp only[gT,oz,List.sum_nil,Lg.mk.injEq] at h1 h2 h3 h4 ⊢
  exact⟨h1,h2,trivial,trivial,trivial,trivial,h3,h4⟩
 have y8:Row (((w5.setCell ⟨a,3,none⟩ (.int .i64 l.start)).setCell ⟨a,7,none⟩ (.int .i64 l.last)).setCell ⟨a,6,none⟩ (.int .i64 l.last)) a 288 (gH (gm d (l.upTo 0) (.slice none 0 0)) true c5 []):=by
  rw[hl0];exact P
 have HV2:=ah hv2;have HV3:=ah hv3;have HV4:=ah hv4
 have HR7:=ah (au y8 dM)
 have z1:IntKind.i64.wrap (l.start:Int)=(l.start:Int):=aM _ (by omega)
 have z2:IntKind.i64.wrap (l.last:Int)=(l.last:Int):=aM _ (by omega)
 obtain⟨F,hF⟩:∃F,Hid (l.last+1 - G.length=F):=⟨_,ah rfl⟩
 rw[hF.out] at HV3
 have hFb:1<=F/\F<=l.last+1/\F+G.length=l.last+1:=by rw[<-hF.out];omega
 obtain⟨B,D,t⟩:=hFb
 have H:G.length<n:=by
  have h1:=Bb G
  have h2:=M.out.Rj l.list.length
  rw[M.out.EH,bL,<-M.out.EH,Lg.xK M.out.ok] at h2
  omega
 have z3:IntKind.i64.wrap (F:Int)=(F:Int):=aM _ (by omega)
 have z4:¬(l.start:Int)<0:=by omega
 have z5:IntKind.i64.wrap ((n:Int) - 1)=((n - 1:Nat):Int):=by rw[aM _ (by omega)];omega
 have z6:¬((n - 1:Nat):Int)<=(l.start:Int):=by omega
 have z6b:¬n<=l.start+1:=by omega
 have z7:¬(F:Int)<1:=by omega
 have z8:IntKind.i64.wrap ((l.last:Int)+1)=((l.last+1:Nat):Int):=by rw[aM _ (by omega)];omega
 have z9:¬((l.last+1:Nat):Int)<(F:Int):=by omega
 have z10:IntKind.i64.wrap ((l.last:Int) - (F:Int))=(l.last:Int) - (F:Int):=aM _ (by omega)
 have z11:¬(n:Int)<=(l.last:Int) - (F:Int):=by omega
 have HFF:=ah (au B (au D (au t H)))
 have e3:(((w5.setCell ⟨a,3,none⟩ (.int .i64 l.start)).setCell ⟨a,7,none⟩ (.int .i64 l.last)).setCell ⟨a,6,none⟩ (.int .i64 l.last)).cell? ⟨a,3,none⟩=some (.int .i64 l.start):=(P.cell 3).trans rfl
 have e7':(((w5.setCell ⟨a,3,none⟩ (.int .i64 l.start)).setCell ⟨a,7,none⟩ (.int .i64 l.last)).setCell ⟨a,6,none⟩ (.int .i64 l.last)).cell? ⟨a,7,none⟩=some (.int .i64 l.last):=(P.cell 7).trans rfl
 have hl7:=P.lt
 clear qc hv2 hv3 hv4 sN vT P lq dM hl0 y8 F0 F1 F2 F3 F4 B D t H k ai bf q9 fo o q A R eH eZ pV qo ng q1 q2 q3 q4 q5 q6 f mr
 go_wp2_with (first
  |(go_at_call 321;go_must (refine HV2.out.mono ?_;rintro e w6 ⟨rfl,hw6⟩;subst w6;refine Stop.of ?_)))
 refine Stop.on ?_
 go_wp2_with (first
  |(go_at_call 321;go_must (refine HV4.out.mono ?_;rintro e w6 ⟨rfl,hw6⟩;subst w6;refine Stop.of ?_)))
 refine Stop.on ?_
 go_wp2_with (first
  |(go_at_call 321;go_must (refine HV3.out.mono ?_;rintro e w6 ⟨rfl,hw6⟩;subst w6;refine Stop.of ?_)))
 refine Stop.on ?_
 go_upto_region 19 with fail
 obtain⟨w7,HW7⟩:∃w7:World,Hid ((((w5.setCell ⟨a,3,none⟩ (.int .i64 l.start)).setCell ⟨a,7,none⟩ (.int .i64 l.last)).setCell ⟨a,6,none⟩ (.int .i64 l.last))=w7):=⟨_,ah rfl⟩
 obtain⟨P,dM⟩:=HR7.out
 rw[HW7.out] at P dM ⊢
 obtain⟨k,ai,bf,q9,fo,o,q,A,R,eH,eZ,pV,qo,ng⟩:=Y.out
 have nY:Below w.heap.size w w7:=k.drew.trans (dM.fw (aI k.drew.size (aC _)) (fun g hg e=>by omega))
 have zT:w.heap.size<=a:=by omega
 have vP:oD w7 (fun x=>x=a) a d (l.upTo 0) (.slice none 0 0) true c5:=
  ⟨Lg.KC M.out.ok 0,fun x hx=>hx▸P.lt,rfl,P,fun _=>lI.nil _ _ _,fun _ g hg=>by cases hg⟩
 have hA0:gK w7 I (fun x=>x=a) a d σ (l.upTo 0):=⟨HH.out.below nY,⟨_,_,_,vP⟩,fun x hx e=>by
  have:=HH.out.sub x hx
  omega,by show l.frm+l.n<=σ.n;rw[nk.out.2.2.2.2.2.2.1,HN.out];omega⟩
 have zk:Step I (fun x=>I x\/x=a) w w7:=⟨Keep.of_below nY _,fun x hx=>hx.imp id (fun e=>by rw[e];exact zT)⟩
 have HST:=ah (au hA0 zk)
 clear P dM k ai bf q9 fo o q A R eH eZ pV qo ng nY zT vP hA0 zk b3 b6 b7 fw3 fw6 fw7 fz3 fz7 fz6 e7 e3 e7' hlt5 hl7 z3 z4 z5 z6 z7 z8 z9 z10 z11 z1 z2
 clear HR hz hXX HM HF Y y HW0 HW1 HGT HSU j3 HV2 HV3 HV4 HR7 j5 j6 nH sF r9 tY vz HW7 hmf HWF
 go_loopw [16,17,18,19,20] (fun av iv _ _ _ wr=>∃(i:Nat) (Sl:Nat->Prop) (vs:List Value),i<=G.length/\iv= .int .i64 ((F+i:Nat):Int)/\Hid (gK wr I Sl a d σ (l.upTo i))/\Hid (lT wr (fun g=>I g\/Sl g) w.heap.size av vs (G.take i))/\Hid (Step I (fun g=>I g\/Sl g) w wr)) (fun _ iv _ _ _ _=>F+G.length - (intOf iv).toNat)
 case atStart=>exact⟨0,fun x=>x=a,[],aR _,rfl,ah HST.out.1,ah (lT.nil _ _ _),ah HST.out.2⟩
 case round=>
  obtain⟨i,Sl,vs,hi,rfl,HA,vM,HSP⟩:=hrel
  obtain⟨lv,dn,c6,hLr⟩:=HA.out.lg
  obtain⟨d0,d1,d2,d3,d4,d5,d6,d7,d8,zA,_⟩:=hLr.cells
  have e7:wr.cell? ⟨a,7,none⟩=some (.int .i64 l.last):=by rw[d7];show some (Value.int .i64 (l.synced:Int))=_;rw[M.out.uE]
  have e3:wr.cell? ⟨a,3,none⟩=some (.int .i64 l.start):=d3
  obtain⟨us,qb⟩:∃us,Hid ((l.upTo i).used=us):=⟨_,ah rfl⟩
  have e4:wr.cell? ⟨a,4,none⟩=some (.int .i64 us):=by rw[d4,qb.out]
  clear d0 d1 d2 d3 d4 d5 d6 d7 d8
  by_cases S:i<G.length
  ·obtain⟨B,D,t,H⟩:=HFF.out
   have y1:((F+i:Nat):Int)<=(l.last:Int):=by omega
   have zH:=M.out.on i S
   rw[hF.out] at zH
   obtain⟨Z,p1,p2,p3⟩:=zH
   have qO:=M.out.Rj i
   rw[qb.out] at qO
   have d9:us+bZ G[i]<=n - 1:=by
    have h1:=Da G i S
    have h2:=zi G (i+1)
    have h3:=M.out.Rj l.list.length
    rw[M.out.EH,bL,<-M.out.EH,Lg.xK M.out.ok] at h3
    have:=nk.out.2.2.2.2.2.2.2
    omega
   obtain⟨nD,hat⟩:∃nD,Hid (l.start+us=nD):=⟨_,ah rfl⟩
   rw[<-qO,hat.out] at p3
   have p9:=nk.out.2.2.1
   have qm:=nk.out.2.1
   obtain⟨nd,sW⟩:∃nd,Hid (bZ G[i]=nd):=⟨_,ah rfl⟩
   rw[sW.out] at d9
   have l7:Xz σ (l.upTo i) nD (gD (F+i) G[i]) Z:=⟨p1,p2,fun j hj=>p3 j hj⟩
   have hbl:(gD (F+i) G[i]).length<=((l.upTo i).n - 1)*512:=by
    have h1:=tq (F+i) G[i]
    rw[sW.out] at h1
    show _<=(l.n - 1)*512
    rw[HN.out]
    have:nd*512<=(n - 1)*512:=dw _ (by omega)
    omega
   have l6:=Wp a d σ (l.upTo i) I Sl nD (F+i) G[i] Z wr.drew (HA.out.below (aJ _ wr).drew) hd l7 (by omega) (by rw[<-hat.out];omega) hbl
   rw[tq,sW.out] at l6
   obtain⟨b,hb⟩:∃b,Hid (G[i]=b):=⟨_,ah rfl⟩
   rw[hb.out] at l6
   obtain⟨kk,mo⟩:∃kk,Hid (F+i=kk):=⟨_,ah rfl⟩
   rw[mo.out] at l6 y1 ⊢
   have HWL:=ah l6
   have y2:IntKind.i64.wrap ((l.start:Int)+(us:Int))=(nD:Int):=by rw[aM _ (by omega),<-hat.out];omega
   have hrm:(l.upTo i).room=n - 1 - us:=by
    show l.n - 1 - (l.upTo i).used=_
    rw[qb.out,HN.out]
   have y3:¬((n - 1 - us:Nat):Int)<(nd:Int):=by omega
   obtain⟨un,hun⟩:∃un,Hid (us+nd=un):=⟨_,ah rfl⟩
   have y4:IntKind.i64.wrap ((us:Int)+(nd:Int))=(un:Int):=by rw[aM _ (by omega),<-hun.out];omega
   have y5:IntKind.i64.wrap ((kk:Int)+1)=((kk+1:Nat):Int):=by have:=mo.out;rw[aM _ (by omega)];omega
   have HI:=ah (au S (au qO (au d9 (au p9 (au qm (au B (au D (au t H))))))))
   have HRM:=ah hrm
   obtain⟨ao0,ac0,rfl,_,_,_,_⟩:=bq.form vM.out.own.dM
   clear p1 p2 p3 l7 hbl l6 qO d9 p9 qm B D t H hrm hi hLr
   go_wp2_with fail
   refine aP (fun W=>W.cell? ⟨a,3,none⟩=some (.int .i64 l.start)/\W.cell? ⟨a,4,none⟩=some (.int .i64 us)/\a<W.heap.size) (fun i=> !([11].contains i)) [0,1,2,3,4,5,6,7,8,9,10,11,12,13,14,15,16,17,18] rfl (by kernel_rfl) ⟨e3,e4,zA⟩ ?_
   repeat ((refine bE (v:= ?_) rfl rfl (fun _ _ _ h=>h) rfl (fun W s=> ?_) ?_);rotate_left;(focus ((try dsimp only at s);have r0:=s.1;have r1:=s.2.1;have r2:=s.2.2;(go_simp;first|done|with_reducible rfl)));(try simp only[Act.put,ak,ay,ax]))
   refine bT rfl rfl rfl ?_;intro K hK;go_simp
   refine HWL.out.mono ?_;rintro e J ⟨v2,rfl,qC,af,iO⟩
   obtain⟨ko,dn2,c2',m⟩:=af.lg
   obtain⟨_,_,_,m3,m4,m5,_,_,_,hlt2,_⟩:=m.cells
   have m3':J.cell? ⟨a,3,none⟩=some (.int .i64 l.start):=m3
   have m4':J.cell? ⟨a,4,none⟩=some (.int .i64 us):=by rw[m4,qb.out]
   refine hK.out _ _ ⟨m3',m4',hlt2⟩ ?_
   repeat ((refine bE (v:= ?_) rfl rfl (fun _ _ _ h=>h) rfl (fun W s=> ?_) ?_);rotate_left;(focus ((try dsimp only at s);have r0:=s.1;have r1:=s.2.1;have r2:=s.2.2;(go_simp;first|done|with_reducible rfl)));(try simp only[Act.put,ak,ay,ax]))
   refine bN ?_
   have HRO:=ah (N8 a d (l.upTo i) Sl J ⟨_,_,_,m⟩)
   rw[HRM.out] at HRO
   have H2:=ah (au qC (au af (au iO m)))
   clear m3 m4 qC af iO m e3 e4 e7 zA
   go_wp2_with (first
    |(go_at_call 98;go_must (refine HRO.out.mono ?_;rintro e O ⟨rfl,hw3⟩;subst O;refine Stop.of ?_)))
   refine Stop.on ?_
   obtain⟨qC,af,iO,m⟩:=H2.out
   obtain⟨S,qO,d9,p9,qm,B,D,t,H⟩:=HI.out
   have hlist:(l.upTo i).list.length=i:=by show (l.list.take i).length=i;rw[aQ,M.out.EH];omega
   have jv:=m.lst (show (l.upTo i).dead=false from M.out.dead)
   rw[hlist] at jv
   have hkE:Keep eG J (J.drew.alloc (.cells #[.int .i64 kk,.int .i64 nd] 296)):=((Keep.refl eG J).drew).alloc _
   have zG:=jv.keep (w':=J.drew.alloc (.cells #[.int .i64 kk,.int .i64 nd] 296)) (fun g hg=>hkE.block g (jv.lt hg) id)
   have zy:Src Tryz.prog 2 283 (.slice (some ⟨J.heap.size,0,none⟩) 1 1) 1 [.int .i64 kk,.int .i64 nd] (J.drew.alloc (.cells #[.int .i64 kk,.int .i64 nd] 296)):=iB [.int .i64 kk,.int .i64 nd] _ 2 1 1 rfl wL rfl (fun v hv=>by simp at hv;rcases hv with rfl|rfl<;>rfl)
   have hvo:=m.slv (show (l.upTo i).dead=false from M.out.dead)
   have q5:J.cell? ⟨a,5,none⟩=some ko:=m.cells.2.2.2.2.2.1
   have ql:a<J.heap.size:=m.row.lt
   have HOFE:=ah zG;have HSRC:=ah zy
   have hi9:i<=4096:=by omega
   clear zG zy jv qC af iO m3' m4' S qO d9 p9 qm B D t H
   go_wp2_with (first
    |(at_builtin;go_must (refine I8 rfl (.tmp 174) (.tmp 178) 283 283 rfl 296 2 16 _ wL Ad rfl ko i _ rfl HOFE.out _ 1 _ rfl HSRC.out (by simp only[maxLen];omega) (by omega) ?_;intro ao3 c3 O qy hk3 q8;refine Stop.of ?_)))
   refine Stop.on ?_
   have T:Keep (fun g=>ko.ownBlock=some g) J O:=(hkE.mono (fun _ _ h=>h.elim)).trans hk3 (fun _ _ h=>h)
   have hnl:¬ko.ownBlock=some a:=fun e=>(hvo a e).2 rfl
   have bg:Row O a 288 (gH (gm d (l.upTo i) ko) dn2 c2' []):=m.row.keep T hnl
   have hr4:=bg.setCell 5 (.slice ao3 (i+1) c3)
   have f:=hr4.setCell 4 (.int .i64 (un:Int))
   have x4:O.cell? ⟨a,4,none⟩=some (.int .i64 us):=(bg.cell 4).trans (by show some (Value.int .i64 ((l.upTo i).used:Int))=_;rw[qb.out])
   have x5:O.cell? ⟨a,5,none⟩=some ko:=(bg.cell 5).trans rfl
   have z4:=bg.frozen 4;have z5:=bg.frozen 5;have xl:=bg.lt
   have V:Keep (fun g=>g=a) O ((O.setCell ⟨a,5,none⟩ (.slice ao3 (i+1) c3)).setCell ⟨a,4,none⟩ (.int .i64 (un:Int))):=((Keep.refl (fun g=>g=a) O).setCell (p:=⟨a,5,none⟩) (.inr rfl) _).setCell (p:=⟨a,4,none⟩) (.inr rfl) _
   obtain⟨kC,xK⟩:∃kC:World,Hid ((O.setCell ⟨a,5,none⟩ (.slice ao3 (i+1) c3)).setCell ⟨a,4,none⟩ (.int .i64 (un:Int))=kC):=⟨_,ah rfl⟩
   rw[xK.out] at V f
   have HR5:=ah (au f (au V (au T (au qy q8))))
   clear bg hr4 f V T qy q8 hk3 hkE q5 ql m
   go_upto_region 28 with fail
   rw[xK.out]
   obtain⟨f,V,T,qy,q8⟩:=HR5.out
   obtain⟨qC,af,iO,m⟩:=H2.out
   obtain⟨S,qO,d9,p9,qm,B,D,t,H⟩:=HI.out
   have y7:l.list[i]? =some (kk,nd):=by rw[M.out.at i S,hF.out,mo.out,sW.out]
   obtain⟨Sn,yE,kz,vY⟩:=JM M.out S y7 (show (l.upTo i).used+nd=un by rw[qb.out];exact hun.out) af m T qy q8 V f
   obtain⟨C,r,l5,lG⟩:=MN HA.out HSP.out vM.out iO qC vY yE kz
   have hvs:vs.length<=4096:=by have:=vM.out.len;rw[aQ] at this;omega
   have yL:w.heap.size<=kC.heap.size:=C.1.size
   have Q:=aG kC (.cells #[v2] 146)
   have HV5:=ah (au kz (au C (au r (au l5 (au lG Q)))))
   have HOW:=ah ((r.below Q).own)
   have HS5:=ah (show ∀g,(I g\/Sn g)->g<(kC.alloc (.cells #[v2] 146)).heap.size from fun g hg=>aA (lG g hg) Q.size)
   have HWS:=ah (aI yL Q.size)
   obtain⟨vo2,vc2,rfl,_,_,_,_⟩:=bq.form qC.dM
   have HBK:=ah S
   clear f V T qy q8 qC af iO m S qO d9 p9 qm B D t H vY yE y7 kz C r l5 yL lG Q hvo hnl x4 x5 z4 z5 xl
   go_wp2_with (first
    |(at_builtin;go_must ((refine dQ rfl (.tmp 190) (.tmp 192) 243 243 rfl (fun g=>I g\/Sn g) w.heap.size 146 1 24 _ Tryz.underlying243 J2 rfl (.slice ao0 vs.length ac0) vs.length vs rfl HOW.out _ 1 _ rfl (iB [_] _ 1 1 1 rfl Tryz.underlying243 rfl ?_) HS5.out HWS.out ?_ ?_ ?_);(focus (simp[Value.oneCell']));(focus (unfold maxLen;omega));(focus omega);intro ao6 c6 w6 ol lq hb6 hd6)))
   obtain⟨kz,C,r,l5,lG,Q⟩:=HV5.out
   have oo:Keep (fun g=>(Value.slice ao0 vs.length ac0).ownBlock=some g) kC w6:=(Keep.of_below Q _).trans lq (fun _ _ e=>e)
   have E:∀g,(Value.slice ao0 vs.length ac0).ownBlock=some g->¬(I g\/Sn g):=fun g hg=>r.own.2 g hg
   have hA6:gK w6 I Sn a d σ (l.upTo (i+1)):=kz.keep oo (fun g hg e=>E g e (.inl hg)) (fun g hg e=>E g e (.inr hg))
   have hR6:lT w6 (fun g=>I g\/Sn g) w.heap.size (.slice ao6 (vs.length+1) c6) (vs++[.slice vo2 b.length vc2]) (G.take i++[b]):=(r.below Q).app ol lq (l5.keep fun g _ hl hs=>⟨Q.block g hl,hs⟩) hd6
   have yB:Step I (fun g=>I g\/Sn g) w w6:=by
    refine⟨C.1.trans oo (fun g hg e=> ?_),C.2⟩
    have:=(r.own.1.lt g e).1
    omega
   have HE:=ah (au hA6 (au hR6 yB))
   clear kz C r l5 lG Q oo E hA6 hR6 yB ol lq hb6 hd6
   go_roundw
   case rel=>
    refine⟨i+1,Sn,vs++[.slice vo2 b.length vc2],HBK.out,?_,ah HE.out.1,ah ?_,ah HE.out.2.2⟩
    ·rw[<-mo.out];congr 1
    ·rw[aO HBK.out,hb.out]
     exact HE.out.2.1
   case measure=>
    have h1:=mo.out;have h2:=HBK.out
    simp[intOf];omega
  ·obtain rfl:i=G.length:=by omega
   obtain⟨B,D,t,H⟩:=HFF.out
   have y1:¬((F+G.length:Nat):Int)<=(l.last:Int):=by omega
   clear B D t H
   go_wp2_with fail
   go_ret3
   have hA:=HA.out
   rw[<-M.out.EH,Lg.xK M.out.ok] at hA
   have hR:=vM.out
   rw[bL] at hR
   exact⟨a,Sl,_,rfl,hA,⟨vs,hR⟩,HSP.out⟩
inductive oN where
 |done:oN
 |op:Nat->oN->oN
 |fork:Nat->Nat->oN->oN->oN
def oN.JX:oN->Bool
 | .done=>true
 |_=>false
def oN.depth:oN->Nat
 | .done=>0
 | .op _ t=>t.depth+1
 | .fork _ _ t u=>max t.depth u.depth+1
section
variable {P:Program} {ops:Array Oper} {Q:Exit->Act->World->Prop} {md:Region.Mode} {S:World->Prop}
def oN.ok (md:Region.Mode)(ops:Array Oper)(q:Nat->Bool):oN->Array Bool->Bool
 | .done,listed=>(Region.ready md ops listed).isEmpty
 | .op i t,listed=>
  (if q i then(Region.ready md ops listed).contains i && Region.free md ops listed i
   else(Region.ready md ops listed==[i]) && (!mV md ops i||t.JX)) && t.ok md ops q (listed.setIfInBounds i true)
 | .fork i j t u,listed=>(Region.ready md ops listed==[i,j]) && (t.ok md ops q (listed.setIfInBounds i true) && u.ok md ops q (listed.setIfInBounds j true))
def C9 (P:Program)(md:Region.Mode)(ops:Array Oper)(Q:Exit->Act->World->Prop)(S:World->Prop)(q:Nat->Bool):oN->Act->World->Prop
 | .done,a,w=>Q .normal a w
 | .op i t,a,w=>
  if q i then ∃o v,ops[i]? =some o/\(∀c a w,Q (.panic c) (a.put o.dst v) w->Q (.panic c) a w)/\YieldsIf P ops S o v a/\C9 P md ops Q S q t (a.put o.dst v) w
  else wpOp P ops Q i (fun a' w'=>(mV md ops i=true\/S w')/\C9 P md ops Q S q t a' w') a w
 | .fork i j t u,a,w=>wpOp P ops Q i (fun a' w'=>S w'/\C9 P md ops Q S q t a' w') a w/\wpOp P ops Q j (fun a' w'=>S w'/\C9 P md ops Q S q u a' w') a w
theorem oV (x:Region.noSelect ops=true){q:Nat->Bool}:∀(t:oN) (c:Nat) (b:Array Bool) (a:Act) (w:World),sM md ops b->
  t.ok md ops q b=true->t.depth<=c->(t= .done\/S w)->C9 P md ops Q S q t a w->ze P md ops Q S c b a w
 | .done,c,b,a,w,_,d,_,_,h=>by
  have p:Region.ready md ops b=[]:=by simpa [oN.ok] using d
  cases c with
  |zero=>exact⟨p,h⟩
  |succ c=>exact⟨fun _=>h,fun i f=>by rw[p] at f;cases f⟩
 | .op i t,0,_,_,_,_,_,r,_,_=>absurd r (by simp[oN.depth])
 | .fork i j t u,0,_,_,_,_,_,r,_,_=>absurd r (by simp[oN.depth])
 | .op i t,c+1,b,a,w,e,d,r,B,h=>by
  have D:S w:=B.resolve_left (by simp)
  have l:t.depth<=c:=by simp only[oN.depth] at r;omega
  simp only[oN.ok,dA] at d
  obtain⟨f,g⟩:=d
  by_cases z:q i=true
  ·simp only[z,jQ,dA] at f
   simp only[C9,z,jQ] at h
   obtain⟨o,v,E,H,I,h⟩:=h
   exact xJ E (Region.noSelect_spec x) H c b a w e (Region.free_spec E f.2) (by simpa using f.1) I D
    (oV x t c _ _ _ (e.set (by simpa using f.1)) g l (.inr D) h)
  ·rw[if_neg z,dA,vZ] at f
   simp only[C9] at h
   rw[if_neg z] at h
   have s:Region.ready md ops b=[i]:=by simpa using f.1
   refine⟨fun p=>(by rw[s] at p;cases p),fun j y=> ?_⟩
   rw[s] at y
   obtain rfl:j=i:=by simpa using y
   refine Q9 (fun G F m=>⟨m.1,oV x t c _ _ _ (e.set (by rw[s];exact cu.2 rfl)) g l ?_ m.2⟩) h
   rcases m.1 with J|A
   ·have:=f.2
    simp only[J] at this
    refine .inl ?_
    cases t with
    |done=>rfl
    |op i t=>simp[oN.JX] at this
    |fork i j t u=>simp[oN.JX] at this
   ·exact .inr A
 | .fork i j t u,c+1,b,a,w,e,d,r,_,h=>by
  have l:t.depth<=c/\u.depth<=c:=by simp only[oN.depth] at r;omega
  simp only[oN.ok,dA,vZ] at d
  obtain⟨s,f,y⟩:=d
  simp only[C9] at h
  refine⟨fun p=>(by rw[s] at p;cases p),fun k C=> ?_⟩
  have n:=C
  rw[s] at n
  rcases aW.1 n with rfl|n
  ·exact Q9 (fun G F m=>⟨.inr m.1,oV x t c _ _ _ (e.set C) f l.1 (.inr m.1) m.2⟩) h.1
  ·obtain rfl:k=j:=by simpa using n
   exact Q9 (fun G F m=>⟨.inr m.1,oV x u c _ _ _ (e.set C) y l.2 (.inr m.1) m.2⟩) h.2
theorem Fw {d:Nat}{a:Act}{w:World}(S:World->Prop)(q:Nat->Bool)(t:oN)(c:P.follows .mixedOrders=true)(b:(Region.noSelect ops && decide (t.depth<=ops.size) && t.ok .any ops q (Array.replicate ops.size false))=true)
  (e:S w.drew) (h:C9 P .any ops Q S q t a w.drew):(Code.region d ops true).wp P Q a w:=by
 simp only[dA,dU] at b
 exact wp_region_any c (wS _ _ _ _ (oV b.1.1 t _ _ _ _ sM.replicate b.2 b.1.2 (.inr e) h))
theorem Jh {q:Nat->Bool}{a:Act}{w:World}(h:Q .normal a w):C9 P md ops Q S q .done a w:=h
theorem UD {q:Nat->Bool}{i:Nat}{t:oN}{a:Act}{w:World}{o:Oper}{v:Value}(j:q i=true)(b:ops.toList[i]? =some o)(f:∀c a w,Q (.panic c) (a.put o.dst v) w->Q (.panic c) a w)
  (g:Region.wanted o (yielded ops a.tmps)=true) (d:∀W,S W->(execOp a.eval o).run P W= .ok (.value v) W) (h:C9 P md ops Q S q t (a.put o.dst v) w):C9 P md ops Q S q (.op i t) a w:=by
 have e:ops[i]? =some o:=by rw[<-iZ];exact b
 simp only[C9,j,jQ];exact⟨o,v,e,f,.inl ⟨g,d⟩,h⟩
theorem Ji {q:Nat->Bool}{i:Nat}{t:oN}{a:Act}{w:World}{o:Oper}(g:q i=false)(b:ops.toList[i]? =some o)(f:Region.wanted o (yielded ops a.tmps)=true)
  (h:∀K:Act->World->Prop,Shut (∀a w,S w->C9 P md ops Q S q t a w->K a w)->o.wp P a w K Q):C9 P md ops Q S q (.op i t) a w:=by
 have e:ops[i]? =some o:=by rw[<-iZ];exact b
 simp only[C9,g,wpOp,e,f,jQ]
 exact .inl (h _ (fun a w c d=>⟨.inr c,d⟩))
theorem KD {q:Nat->Bool}{i j:Nat}{t u:oN}{a:Act}{w:World}{o p:Oper}(e:ops.toList[i]? =some o)(m:Region.wanted o (yielded ops a.tmps)=true)(b:ops.toList[j]? =some p)(f:Region.wanted p (yielded ops a.tmps)=true)
  (h:∀K:Act->World->Prop,Shut (∀a w,S w->C9 P md ops Q S q t a w->K a w)->o.wp P a w K Q)
  (g:∀K:Act->World->Prop,Shut (∀a w,S w->C9 P md ops Q S q u a w->K a w)->p.wp P a w K Q):C9 P md ops Q S q (.fork i j t u) a w:=by
 have l:ops[i]? =some o:=by rw[<-iZ];exact e
 have k:ops[j]? =some p:=by rw[<-iZ];exact b
 simp only[C9,wpOp,l,m,k,f,jQ]
 exact⟨.inl (h _ (fun a w c d=>⟨c,d⟩)),.inl (g _ (fun a w c d=>⟨c,d⟩))⟩
end
def rE (ims:List Im):Im:=ims.foldl Im.over Im.none
theorem EN (a:List Im)(b:Im):rE (a++[b])=(rE a).over b:=by unfold rE;rw[Cw];rfl
def partOf (m im:Im)(j:Nat):Im:=(im.ks.take j).foldl (fun m b=>m.put b (im.img b)) m
theorem uO (m a:Im)(j:Nat)(b:j<a.ks.length):partOf m a (j+1)=(partOf m a j).put a.ks[j] (a.img a.ks[j]):=by
 unfold partOf
 rw[aO b,Cw];rfl
theorem JK (m a:Im):partOf m a a.ks.length=m.over a:=by unfold partOf;rw[bL];rfl
theorem BX {a:List Im}{n:Nat}(h:∀b∈a,b.NN n):(rE a).Ok n:=by
 suffices ∀(a:List Im) (m:Im),m.Ok n->(∀b∈a,b.NN n)->(a.foldl Im.over m).Ok n from this a _ (Im.Ok.none n) h
 intro a
 induction a with
 |nil=>intro m c _;exact c
 |cons b r ih=>intro m c d;exact ih _ (c.over (d b (aY ..)).ok) fun x e=>d x (bn _ e)
theorem JL (m a:Im)(b:Nat):(m.over a).find b=(a.find b).or (m.find b):=by
 have e:(m.over a).find b=if b∈a.ks then some (a.img b) else m.find b:=by
  unfold Im.find Im.over
  rw[Im.uX]
  simp only[Im.vY]
  by_cases h:b∈a.ks
  ·simp[h]
  ·simp[h]
 rw[e]
 by_cases h:b∈a.ks
 ·have:a.find b=some (a.img b):=if_pos h
  rw[if_pos h,this];rfl
 ·have:a.find b=none:=if_neg h
  rw[if_neg h,this];rfl
theorem EO (a:List Im)(b:Nat):(rE a).find b=findAll a b:=by
 suffices ∀(a:List Im) (m:Im) (o:Option (List UInt8)),m.find b=o->(a.foldl Im.over m).find b=a.foldl (fun o c=>(c.find b).or o) o from this a _ _ rfl
 intro a
 induction a with
 |nil=>intro m o h;exact h
 |cons c r ih=>intro m o h;exact ih _ _ (by rw[JL,h])
def Pg.laid (n:Nat)(ims:List Im):Pg:={Pg.new n with fresh:=rE ims}
theorem RD {b:Nat}{x:List UInt8}(h:x.length=512):(uy b x).length=516:=by unfold uy;rw[aB,bI,h]
theorem UM {a:ByteArray}{l:List UInt8}(h:a.data.toList=l):a=strOf l:=by
 cases a
 exact congrArg ByteArray.mk (Fv (by rw[h]))
theorem uH {o:Oper}{a:Act}{W:World}{K:Act->World->Prop}{Q:Exit->Act->World->Prop}(x:Operand)(e:o.op= .load 209 x)(g b:Nat)(d:a.eval x= .pointer (some ⟨g,b,none⟩))(l:List UInt8)(f:l.length=512)(c:W.rangeAt g b (aF l))(i:K (a.put o.dst (.agg (aF l).toArray)) W):o.wp Tryz.prog a W K Q:=by
 unfold Oper.wp
 rw[jA 209 x e g b d (aF l) _ c IV rfl (jH.trans (congrArg some (by rw[bC,f])))]
 exact i
theorem BG {w W:World}{s n t:Nat->Prop}{v o d a:Nat}{j:Dk}{l:Lg}{p:Pg}{q:Value}(i:wI w s n t v o d a j l p q)(m:Below w.heap.size w W):
  ∃D,W.ownsMap Tryz.prog 3 rI a 5000 D/\∀(k:Nat) (x:List UInt8) (b:World),k<j.n - p.skip->x.length=512->b.ownsMap Tryz.prog 3 rI a 5001 (D.put (kI k) (.lit (.string x)))->W.grownBy b (some a)->wI b s n t v o d a j l {p with fresh:=p.fresh.put k x} q/\Keep (fun g=>g=a) w b:=by
 have f:=i.keep (Keep.of_below m eG) (fun _ _ e=>e)
 have H:=i.log.dk.ok.hi
 obtain⟨D,r,C,z,F,B⟩:=f.fr
 refine⟨D,r,fun k x b y A E G=> ?_⟩
 have c:=Keep.r9 G
 refine⟨f.fresh c _ (kJ.put i.ok.fresh (by omega) k x y r C z F B E) (i.ok.fresh.put k x y A),(Keep.of_below m _).trans c (fun _ _ e=>e)⟩
theorem BB {W:World}{S:Nat->Prop}{g n c:Nat}{a:List Value}(h:bq W S 1 (.slice (some ⟨g,0,none⟩) n c) n a):W.rangeAt g 0 a:=fun j v d=>by
 obtain⟨b,o,e,f⟩:=h.Cq rfl j v d
 cases e
 exact f
theorem WQ (d:Nat)(A:Dk)(Sd:Nat->Prop)(n:Nat)(l:Lg)(f:List Im)(w:World)(h:qL w Sd d A)(hd:A.dead=false)(hL:pR A.get l (fC f))(hn:l.n=n)(h2:2<=n)(nY:n<A.n)(m:∀r∈f,r.NN (A.n - n))(mD:A.waits.length<=90000)(vP:l.last<1000000000000):
  Calls Tryz.prog 127 #[.pointer (some ⟨d,0,none⟩),.int .i64 n] w fun e w'=>∃B S',e=(if ((Pg.laid n f).home A l).2.2.2=0 then .returned (.tuple #[.pointer (some ⟨B,0,none⟩),.int .i64 0]) else .returned (.tuple #[.pointer none,.int .i64 ((Pg.laid n f).home A l).2.2.2]))/\
   iF w' S' B d ((Pg.laid n f).home A l).1 ((Pg.laid n f).home A l).2.1 ((Pg.laid n f).home A l).2.2.1 (.pointer none)/\Step Sd S' w w':=by
 have ko:=O9 d A Sd n w h
 rw[if_neg (by omega)] at ko
 have HC:=ah ko;clear ko
 have hi:=h.ok.hi
 have HO:=ah (Wm d A Sd n l (fC f) w h hd hL hn (by omega) vP)
 have jb:=hL.frm
 have tY:=ah (show f.length<=4096 by
  have h1:=Bb (fC f)
  have h2:=hL.Rj l.list.length
  rw[hL.EH,bL,<-hL.EH,Lg.xK hL.ok] at h2
  have h3:=hL.ok.us
  rw[bR] at h1
  omega)
 have rf:=ah m;have HL:=ah (au jb hn)
 clear h hL jb m
 obtain⟨og,l9,p9,q,HQ⟩:∃og l9 p9 q,Hid ((Pg.laid n f).home A l=(og,l9,p9,q)):=⟨_,_,_,_,ah rfl⟩
 rw[HQ.out]
 dsimp only
 go_enter Tryz.func127,Tryz.ntmps127
 go_wp2_with (first
  |(go_at_call 88;go_must (refine HC.out.mono ?_;rintro e w1 ⟨rfl,zf⟩;subst w1)))
 go_wp2_with (first
  |(go_at_call 206;go_must (refine HO.out.mono ?_;rintro e w2 ⟨lg,Sl,av,vs,rfl,nD,eH,rq⟩;refine Stop.of ?_)))
 refine Stop.on ?_
 obtain⟨ao,ac,rfl,_,_,_,_⟩:=bq.form eH.own.dM
 have hb:=BF n nD HL.out.1 HL.out.2 nY h2
 have yL:∀w:World,(Instr.makeMap 197 none).run Tryz.prog w= .ok (.map (some w.heap.size)) (w.alloc (.map #[] 0)):=fun w=>run_makeMap _ w
 have e1:IntKind.i64.wrap ((n:Int) - 1)=((n - 1:Nat):Int):=by rw[aM _ (by omega)];omega
 obtain⟨w3,dM⟩:∃w3:World,Hid ((w2.alloc (.map #[] 0)).alloc (.cells #[.pointer (some ⟨d,0,none⟩),.pointer (some ⟨lg,0,none⟩),.int .i64 n,.int .i64 ((n - 1:Nat):Int),.map (some w2.heap.size),.pointer none,.bool false] 199)=w3):=⟨_,ah rfl⟩
 rw[dM.out] at hb
 obtain⟨B,ai⟩:∃B,Hid (w2.heap.size+1=B):=⟨_,ah rfl⟩
 rw[ai.out] at hb
 obtain⟨⟨qo,q8,qO,nN,fb,l5,mr⟩,iO⟩:=hb
 have ql:Below w2.heap.size w2 w3:=by rw[<-dM.out];exact iY w2 _ _
 obtain⟨N,hN⟩:∃N,Hid (A.n - n=N):=⟨_,ah rfl⟩
 have fo:lT w3 (fun g=>(Sd g\/Sl g)\/w2.heap.size<=g) w.heap.size (.slice ao vs.length ac) vs (fC f):=eH.keep (Keep.of_below ql _) fun g hg=>hg
 have eZ:w2.heap.size<=fb/\fb≠B:=by
  have ho:w3.heap[B]? =some (.cells #[.pointer (some ⟨d,0,none⟩),.pointer (some ⟨lg,0,none⟩),.int .i64 n,.int .i64 ((n - 1:Nat):Int),.map (some w2.heap.size),.pointer none,.bool false] 199 (0,0)):=by
   rw[<-dM.out,<-ai.out]
   have:=aH (w2.alloc (.map #[] 0)) (.cells #[.pointer (some ⟨d,0,none⟩),.pointer (some ⟨lg,0,none⟩),.int .i64 n,.int .i64 ((n - 1:Nat):Int),.map (some w2.heap.size),.pointer none,.bool false] 199)
   rwa [bD] at this
  have he:=dN (l5.obj.symm.trans ho)
  have y8:fb=w2.heap.size:=by
   injection he with he _ _
   have:=congrArg (fun a:Array Value=>a[4]?) he
   simpa using this
  have:=ai.out
  omega
 have H:=ah (au fo (au l5 (au mr (au iO (au eZ (au rq ql))))))
 have j6:=eH.len
 rw[bR] at j6
 have sW:=ah j6
 have vo:=tY.out
 clear nD eH rq l5 mr iO ql fo eZ j6
 go_upto_region 9 with fail
 rw[dM.out,ai.out]
 go_loopw [42] (fun iv wr=>∃i:Nat,i<=f.length/\iv= .int .i64 i/\Hid (wI wr qo q8 qO B nN d fb A l {Pg.new n with fresh:=rE (f.take i)} (.pointer none))/\Hid (Keep (fun g=>g=fb) w3 wr)) (fun iv _=>f.length - (intOf iv).toNat)
 case atStart=>exact⟨0,aR _,rfl,ah H.out.2.1,ah (Keep.refl _ _)⟩
 case round=>
  obtain⟨i,vY,rfl,HP,HK⟩:=hrel
  by_cases pV:i<f.length
  ·have y1:(i:Int)<(vs.length:Int):=by have:=sW.out;omega
   have qb:=H.out.1.keep (HK.out.mono (fun g _ e=> .inr (by rw[e];exact H.out.2.2.2.2.1.1))) (fun g hg=> .inl hg)
   obtain⟨u,hu,R⟩:=qb.row i (by rw[bR];exact pV)
   obtain⟨ab,af,rfl,vz⟩:=qb.own.dM.Cq rfl i u hu
   have xK:=aD wr _ vz
   obtain⟨r,bg⟩:∃r,Hid (f[i]=r):=⟨_,ah rfl⟩
   have dn:(fC f)[i]'(by rw[bR];exact pV)=r.bg:=by rw[<-bg.out];simp[fC]
   rw[dn] at R
   have di:r.bg.length=r.ks.length:=by simp[Im.bg]
   rw[di] at R
   obtain⟨uo,uc,rfl,_,_,_,_⟩:=bq.form R
   have m:=rf.out r (by rw[<-bg.out];exact bJ pV)
   rw[hN.out] at m
   have G:=m.hi
   obtain⟨m0,kC⟩:∃m0,Hid (rE (f.take i)=m0):=⟨_,ah rfl⟩
   have F:m0.Ok N:=by
    rw[<-kC.out,<-hN.out]
    exact BX fun x hx=>rf.out x (kK hx)
   have HU:=ah (au R (au m (au F (au pV hu))))
   have l7:=HP
   rw[kC.out] at l7
   clear qb hu R dn di m F
   obtain⟨wi,yE⟩:∃x:World,Hid (wr=x):=⟨_,ah rfl⟩
   go_upto_region 12 with fail
   go_loopw [48] (fun jv wk=>∃j:Nat,j<=r.ks.length/\jv= .int .i64 j/\Hid (wI wk qo q8 qO B nN d fb A l {Pg.new n with fresh:=partOf m0 r j} (.pointer none))/\Hid (Keep (fun g=>g=fb) w3 wk)) (fun jv _=>r.ks.length - (intOf jv).toNat)
   case atStart=>exact⟨0,aR _,rfl,l7,HK⟩
   case round=>
    obtain⟨j,y7,rfl,Z,qc⟩:=hrel
    by_cases lq:j<r.ks.length
    ·have y2:(j:Int)<(r.ks.length:Int):=by omega
     obtain⟨R,m,F,r9,mo⟩:=HU.out
     have ol:Keep (fun g=>(Sd g\/Sl g)\/w2.heap.size<=g) w3 wr:=qc.out.mono (fun g _ e=> .inr (by rw[e];exact H.out.2.2.2.2.1.1))
     have qb:=H.out.1.keep ol (fun g hg=> .inl hg)
     have j3:bq wr eG 1 (.slice uo r.ks.length uc) r.ks.length (Bl r.bg):=by
      obtain⟨u,hu,hr⟩:=qb.row i (by rw[bR];exact pV)
      rw[mo] at hu
      obtain rfl:=dN hu
      have dn:(fC f)[i]'(by rw[bR];exact pV)=r.bg:=by rw[<-bg.out];simp[fC]
      have di:r.bg.length=r.ks.length:=by simp[Im.bg]
      rw[dn,di] at hr
      exact hr.keep fun g _ _ _=>⟨rfl,id⟩
     obtain⟨k,M⟩:∃k,Hid (r.ks[j]=k):=⟨_,ah rfl⟩
     have V:k∈r.ks:=by rw[<-M.out];exact bJ lq
     have j5:=m.ok.hi k V
     have qy:=m.ok.img k V
     obtain⟨x,hx⟩:∃x,Hid (r.img k=x):=⟨_,ah rfl⟩
     rw[hx.out] at qy
     have o5:(Bl r.bg)[j]? =some (.string (strOf (uy k x))):=by
      unfold Bl Im.bg
      rw[dL,dL,dL,bB lq,M.out]
      rw[<-hx.out];rfl
     obtain⟨rb,ro,rfl,oO⟩:=j3.Cq rfl j _ o5
     have y5:=aD wr _ oO
     have vM:(strOf (uy k x)).size=516:=by show (uy k x).toArray.size=516;simp[RD qy]
     have sF:(strOf (uy k x)).extract 4 516=strOf x:=by
      refine UM ?_
      rw[uq,wQ]
      show ((uy k x).drop 4).take (516 - 4)=x
      unfold uy
      rw[eT (bI _ 4),aL (by omega)]
     have qC:=fun W=>RN (b8 k) (b8 (k/256)) (b8 (k/256/256)) (b8 (k/256/256/256)) x W
     have j4:rO [b8 k,b8 (k/256),b8 (k/256/256),b8 (k/256/256/256)]=k:=oZ 4 k (by have:=hN.out;omega)
     rw[j4] at qC
     have Q:∀W,Calls Tryz.prog 207 #[.string (strOf (uy k x))] W fun e w'=>e= .returned (.int .i64 k)/\w'=W.drew:=qC
     have T:(strOf x).size=512:=by show x.toArray.size=512;simp[qy]
     have lG:(strOf x).data.toList=x:=rfl
     obtain⟨s,hs⟩:∃s,Hid (strOf (uy k x)=s):=⟨_,ah rfl⟩
     obtain⟨y,hy⟩:∃y,Hid (strOf x=y):=⟨_,ah rfl⟩
     rw[hs.out] at oO vM sF Q
     rw[hy.out] at sF T lG
     have X:=ah Q
     have lH:=fun W (hb:Below wr.heap.size wr W)=>AP B d A l _ _ _ W ((wI.pack Z.out).below hb)
     have nH:({Pg.new n with fresh:=partOf m0 r j}:Pg).blocks A=N:=hN.out
     rw[nH] at lH
     have vk:=ah (lH wr.drew (aJ wr.heap.size wr).drew)
     have y3:¬(N:Int)<=(k:Int):=by omega
     obtain⟨c0,c1,c2,c3,c4,c5,c6,o,yB⟩:=Z.out.cells
     have Y:=ah (au V (au qy (au lG (au T (au j5 j4)))))
     clear R m F r9 mo ol qb j3 V j5 o5 qC Q lH nH j4 qy lG c0 c1 c2 c3 c5 c6
     go_wp2_with (first
      |(go_at_call 207;go_must (refine(X.out _).mono ?_;rintro e w6 ⟨rfl,d9⟩;subst w6))
      |(go_at_call 52;go_must (refine vk.out.mono ?_;rintro e w6 ⟨rfl,d9⟩;subst w6;refine Stop.of ?_)))
     refine Stop.on ?_
     have qf:=FY x Y.out.2.1
     have vT:∀(g c:Nat) (W:World),(Instr.arrayAt 209 (.slice (some ⟨g,0,none⟩) 512 c)).run Tryz.prog W= .ok (.pointer (some ⟨g,0,none⟩)) W:=fun g c W=>by kernel_rfl
     have I:=ah lq
     have j5:=Y.out.2.2.2.2.1
     have q9:Below wr.heap.size wr wr.drew.drew.drew:=(((aJ wr.heap.size wr).drew).drew).drew
     go_wp2_with fail
     refine Fw (fun W=>W.cell? ⟨B,4,none⟩=some (.map (some fb))/\B<W.heap.size) (fun i=> !([5,8,10,11].contains i)) (.op 0 (.op 1 (.op 2 (.op 3 (.op 4 (.op 6 (.op 7 (.fork 5 8 (.op 8 (.op 9 (.op 10 (.op 11 .done)))) (.op 9 (.fork 5 10 (.op 10 (.op 11 .done)) (.op 5 (.op 11 .done)))))))))))) rfl (by kernel_rfl) ⟨c4,o⟩ ?_
     repeat ((refine UD (v:= ?_) rfl rfl (fun _ _ _ h=>h) rfl (fun W hW=> ?_) ?_);rotate_left;(focus ((try dsimp only at hW);have r0:=hW.1;have r1:=hW.2;(go_simp;first|done|with_reducible rfl)));(try simp only[Act.put,ak,ay,ax]))
     refine KD rfl rfl rfl rfl ?_ ?_
     ·intro K E;go_simp
      refine(X.out _).mono ?_;rintro e w6 ⟨rfl,d9⟩;subst w6
      refine E.out _ _ ⟨c4,o⟩ ?_
      refine Ji rfl rfl rfl ?_;intro K E
      obtain⟨c8,w8,qm,C,l6⟩:=Hz y wr.drew.drew.drew.drew (by omega)
      rw[T] at qm C
      rw[Y.out.2.2.1] at C
      have b:Below wr.heap.size wr w8:=q9.drew.trans (l6.mono q9.drew.size)
      refine Fx 9 154 (.tmp 69) rfl y rfl _ qm ?_
      refine E.out _ _ ⟨(b.cell (p:=⟨B,4,none⟩) o).trans c4,aA o b.size⟩ ?_
      repeat ((refine UD (v:= ?_) rfl rfl (fun _ _ _ h=>h) rfl (fun W hW=> ?_) ?_);rotate_left;(focus ((try dsimp only at hW);have r0:=hW.1;have r1:=hW.2;(go_simp;first|done|with_reducible rfl)));(try simp only[Act.put,ak,ay,ax]))
      refine Ji rfl rfl rfl ?_;intro K E
      refine uH (.tmp 71) rfl _ 0 rfl x Y.out.2.1 (BB (by rw[Y.out.2.1] at C;exact C)) ?_
      refine E.out _ _ ⟨(b.cell (p:=⟨B,4,none⟩) o).trans c4,aA o b.size⟩ ?_
      refine Ji rfl rfl rfl ?_;intro K E
      obtain⟨D,hD,z⟩:=BG Z.out b
      refine mJ _ _ _ 197 rfl 3 209 iy dW rI fb 5000 D rfl hD (by simp[maxLen]) _ _ (kI k) rfl rfl (ni k (sV (k:Int) (by omega) (by have:=hN.out;omega))) (.lit (.string x)) [] qf ?_
      intro w9 O J
      obtain⟨t,G⟩:=z k x w9 (by have:=hN.out;show k<A.n - n;omega) Y.out.2.1 O J
      have P:=ah (au t (qc.out.trans G (fun _ _ e=>e)))
      refine E.out _ _ ⟨t.cells.2.2.2.2.1,t.cells.2.2.2.2.2.2.2.1⟩ ?_
      refine Jh ?_
      clear t G O J z hD
      go_wp2_with fail
      go_roundw
      case rel=>exact⟨j+1,I.out,by go_num,by rw[uO m0 r j I.out,M.out,hx.out];exact ah P.out.1,ah P.out.2⟩
      case measure=>have:=I.out;simp[intOf];omega
     ·intro K E
      obtain⟨c8,w8,qm,C,l6⟩:=Hz y wr.drew.drew.drew (by omega)
      rw[T] at qm C
      rw[Y.out.2.2.1] at C
      have b:Below wr.heap.size wr w8:=q9.trans (l6.mono q9.size)
      refine Fx 9 154 (.tmp 69) rfl y rfl _ qm ?_
      refine E.out _ _ ⟨(b.cell (p:=⟨B,4,none⟩) o).trans c4,aA o b.size⟩ ?_
      repeat ((refine UD (v:= ?_) rfl rfl (fun _ _ _ h=>h) rfl (fun W hW=> ?_) ?_);rotate_left;(focus ((try dsimp only at hW);have r0:=hW.1;have r1:=hW.2;(go_simp;first|done|with_reducible rfl)));(try simp only[Act.put,ak,ay,ax]))
      refine KD rfl rfl rfl rfl ?_ ?_
      ·intro K E;go_simp
       refine(X.out _).mono ?_;rintro e w6 ⟨rfl,d9⟩;subst w6
       refine E.out _ _ ⟨(b.cell (p:=⟨B,4,none⟩) o).trans c4,aA o b.size⟩ ?_
       refine Ji rfl rfl rfl ?_;intro K E
       refine uH (.tmp 71) rfl _ 0 rfl x Y.out.2.1 (BB (W:=w8.drew) (by rw[Y.out.2.1] at C;exact C)) ?_
       refine E.out _ _ ⟨(b.cell (p:=⟨B,4,none⟩) o).trans c4,aA o b.size⟩ ?_
       refine Ji rfl rfl rfl ?_;intro K E
       obtain⟨D,hD,z⟩:=BG Z.out b.drew
       refine mJ _ _ _ 197 rfl 3 209 iy dW rI fb 5000 D rfl hD (by simp[maxLen]) _ _ (kI k) rfl rfl (ni k (sV (k:Int) (by omega) (by have:=hN.out;omega))) (.lit (.string x)) [] qf ?_
       intro w9 O J
       obtain⟨t,G⟩:=z k x w9 (by have:=hN.out;show k<A.n - n;omega) Y.out.2.1 O J
       have P:=ah (au t (qc.out.trans G (fun _ _ e=>e)))
       refine E.out _ _ ⟨t.cells.2.2.2.2.1,t.cells.2.2.2.2.2.2.2.1⟩ ?_
       refine Jh ?_
       clear t G O J z hD
       go_wp2_with fail
       go_roundw
       case rel=>exact⟨j+1,I.out,by go_num,by rw[uO m0 r j I.out,M.out,hx.out];exact ah P.out.1,ah P.out.2⟩
       case measure=>have:=I.out;simp[intOf];omega
      ·intro K E
       refine uH (.tmp 71) rfl _ 0 rfl x Y.out.2.1 (BB (by rw[Y.out.2.1] at C;exact C)) ?_
       refine E.out _ _ ⟨(b.cell (p:=⟨B,4,none⟩) o).trans c4,aA o b.size⟩ ?_
       refine Ji rfl rfl rfl ?_;intro K E;go_simp
       refine(X.out _).mono ?_;rintro e w6 ⟨rfl,d9⟩;subst w6
       refine E.out _ _ ⟨(b.cell (p:=⟨B,4,none⟩) o).trans c4,aA o b.size⟩ ?_
       refine Ji rfl rfl rfl ?_;intro K E
       obtain⟨D,hD,z⟩:=BG Z.out b.drew
       refine mJ _ _ _ 197 rfl 3 209 iy dW rI fb 5000 D rfl hD (by simp[maxLen]) _ _ (kI k) rfl rfl (ni k (sV (k:Int) (by omega) (by have:=hN.out;omega))) (.lit (.string x)) [] qf ?_
       intro w9 O J
       obtain⟨t,G⟩:=z k x w9 (by have:=hN.out;show k<A.n - n;omega) Y.out.2.1 O J
       have P:=ah (au t (qc.out.trans G (fun _ _ e=>e)))
       refine E.out _ _ ⟨t.cells.2.2.2.2.1,t.cells.2.2.2.2.2.2.2.1⟩ ?_
       refine Jh ?_
       clear t G O J z hD
       go_wp2_with fail
       go_roundw
       case rel=>exact⟨j+1,I.out,by go_num,by rw[uO m0 r j I.out,M.out,hx.out];exact ah P.out.1,ah P.out.2⟩
       case measure=>have:=I.out;simp[intOf];omega
    ·obtain rfl:j=r.ks.length:=by omega
     have y2:¬(r.ks.length:Int)<(r.ks.length:Int):=by omega
     go_wp2_with fail
     go_roundw
     case rel=>
      refine⟨i+1,HU.out.2.2.2.1,by go_num,?_,qc⟩
      rw[aO HU.out.2.2.2.1,bg.out,EN,kC.out,<-JK]
      exact Z
     case measure=>have:=HU.out.2.2.2.1;simp[intOf];omega
  ·obtain rfl:i=f.length:=by omega
   have y1:¬((f.length:Nat):Int)<(vs.length:Int):=by have:=sW.out;omega
   have hP:=HP.out
   rw[bL] at hP
   have ng:iF wr (Three qo q8 qO) B d A l (Pg.laid n f) (.pointer none):=wI.pack hP
   have bf:=TJ B d A l (Pg.laid n f) (.pointer none) _ wr ng mD
   rw[HQ.out] at bf
   dsimp only at bf
   have HH:=ah bf
   clear bf
   have sN:Step Sd (Three qo q8 qO) w wr:=by
    have h1:=(H.out.2.2.2.2.2.1.trans H.out.2.2.2.1).eqv (S:=Sd) (S':=Three qo q8 qO) (fun _=>NK) (fun g=>(H.out.2.2.1 g).symm)
    exact h1.trans (Step.own HK.out (.inr (.inr H.out.2.1.sfb)))
   have oo:=ah sN
   clear hP ng sN
   by_cases nk:q=0
   ·subst nk
    go_wp2_with (first
     |(go_at_call 99;go_must (refine HH.out.mono ?_;rintro e w5 ⟨rfl,S5,kD,kz⟩)))
    go_ret2
    exact⟨B,rfl,S5,kD,oo.out.trans kz⟩
   ·have y3:(q !=0)=true:=by simpa using nk
    go_wp2_with (first
     |(go_at_call 99;go_must (refine HH.out.mono ?_;rintro e w5 ⟨rfl,S5,kD,kz⟩)))
    go_ret2
    exact⟨rfl,B,S5,kD,oo.out.trans kz⟩
theorem MW {i:Dk}{l:Lg}{c:List Im}{n:Nat}(o:i.Ok)(g:pR i.get l (fC c))(m:l.n=n)(q:2<=n)(j:n<i.n)(d:∀p∈c,p.NN (i.n - n))(k:i.waits=[]):Rest i l (Pg.laid n c) c:=by
 have e:=g.len
 have a:=g.list
 have f:=g.on
 rw[bR] at e a f
 refine⟨g.ok,⟨g.frm,m.symm,?_,by rw[m];exact j,?_⟩,a,e,by rw[g.uE];omega,d,f,?_,EO c,by rw[k];exact aR _,fun _=>k⟩
 ·show n - 1+1=l.n;omega
 ·exact BX d
 ·refine Al.none ⟨g.mark,?_,fun b _=>rfl⟩ k
  exact f.take _
theorem Pe {c:Dk}{l:Lg}{d:List Im}{n:Nat}{C:Nat->List UInt8}(t:c.Ok)(g:pR c.get l (fC d))(H:l.n=n)(E:2<=n)(j:n<c.n)(p:∀F∈d,F.NN (c.n - n))(M:c.waits=[])(J:c.dead=false)(hC:∀b,b<c.n - n->C b=oC d (fun b=>c.get (n+b)) b):
  (∃a i m,(Pg.laid n d).home c l=(a,i,m,0)/\a.dead=false/\i.dead=false/\m.dead=false/\(c.fuel= -1->a.fuel= -1)/\a.n=c.n/\a.waits=[]/\i.last=l.last/\i.synced=l.last/\m.skip=n/\m.ring=n - 1/\mK a i m (fun _=>C))\/
  (∃a i,(Pg.laid n d).home c l=(a,i,(Pg.laid n d).dies,10)/\a.dead=true/\c.fuel≠-1/\a.n=c.n/\Al a fun s=>sO s n (c.n - n) l.last C):=by
 have G:=MW t g H E j p M
 have f:∀{s:Nat->List UInt8},pQ s l d n (c.n - n) (fun b=>c.get (n+b)) l.last->sO s n (c.n - n) l.last C:=fun h=>by
  unfold pQ at h
  rw[dD,aL (aC _)] at h
  exact sO.congr h hC
 rcases GR G J g.dead rfl with ⟨a,e,y,z,q,r,K,I⟩|⟨a,i,e,y,z,q,r⟩
 ·left
  have N:=ES (l:=l.all) ⟨g.ok.n2,g.ok.hi,g.ok.st,g.ok.us,g.ok.la,aC _,g.ok.ent,g.ok.sum⟩
  obtain⟨R,Q,P,T,v,A,x⟩:=N
  have v:(l.all.cut l.last).last=l.last:=v
  have A:(l.all.cut l.last).synced=l.last:=A
  have x:(l.all.cut l.last).dead=l.dead:=x
  refine⟨a,_,_,e,y,x.trans g.dead,rfl,z,q,r,v,A,rfl,rfl,[],K,fun k O S b D=> ?_⟩
  have o:b<c.n - n:=by
   have:({Pg.laid n d with fresh:=Im.none}:Pg).blocks a=c.n - n:=by show a.n - n=_;rw[q]
   rwa [this] at D
  show C b=oC (List.take _ []) _ b
  rw[Q6,hC b o]
  exact(I b o).symm
 ·right
  refine⟨a,i,e,y,z,q,fun s B=> ?_⟩
  obtain⟨_,⟨_,h⟩|⟨_,h⟩⟩:=r
  ·rcases h s B with h|h
   ·rw[g.uE] at h;exact f h
   ·exact f h
  ·exact f (h s B)
def VC (N:Nat)(C:Nat->List UInt8)(f:Nat->Bool)(root:Nat)(es:List mH)(tb:List Int):Prop:=
 ∀(σ:Dk) (l:Lg) (p:Pg),p.blocks σ=N->σ.dead=false->p.dead=false->(∀b,b<N->p.look Im.none σ b=C b)->yP σ l p f root/\Live (cK.start σ l p f) root es tb
theorem Wu (d:Nat)(k:Dk)(S:Nat->Prop)(c:Nat)(l:Lg)(F:List Im)(C:Nat->List UInt8)(f:Nat->Bool)(I:Nat)(es:List mH)(tb:List Int)(w:World)(h:qL w S d k)(hd:k.dead=false)(hw:k.waits=[])(h1:6<=c)(h2:c+8<=k.n)
  (hL:pR k.get l (fC F)) (hn:l.n=c) (p:∀im∈F,im.NN (k.n - c)) (hC:∀b,b<k.n - c->C b=oC F (fun b=>k.get (c+b)) b) (hV:VC (k.n - c) C f I es tb) (qy:l.last<1000000000000) (qm:es.length<=4090):
  Calls Tryz.prog 75 #[.pointer (some ⟨d,0,none⟩),.int .i64 c] w fun e Z=>
   (∃v z a B D S',e= .returned (.tuple #[.pointer (some ⟨v,0,none⟩),.int .i64 0])/\Z.heap[v]? =some (.cells #[.pointer (some ⟨z,0,none⟩)] 130 (0,0))/\¬S' v/\w.heap.size<=v/\iF Z S' z d a B D (.pointer none)/\Step S S' w Z/\
    a.dead=false/\B.dead=false/\D.dead=false/\(k.fuel= -1->a.fuel= -1)/\a.n=k.n/\a.waits=[]/\B.last=l.last/\B.synced=l.last/\D.skip=c/\D.ring=c - 1/\mK a B D (fun _=>C))\/
   (∃a R,e= .returned (.tuple #[.pointer none,.int .i64 10])/\qL Z R d a/\Step S R w Z/\a.dead=true/\k.fuel≠-1/\a.n=k.n/\Al a fun s=>sO s c (k.n - c) l.last C):=by
 have m:=Wz d k S c w h
 have O:zN k.n c=0:=by unfold zN;rw[if_neg (by omega)]
 rw[O] at m
 have pV:=ah m
 have j:=WQ d k S c l F w h hd hL hn (by omega) (by omega) p (by rw[hw];simp) qy
 have Q:=Pe (C:=C) h.ok hL hn (by omega) (by omega) p hw hd hC
 rcases Q with ⟨a,B,D,e,y,E,A,H,X,b6,b7,b8,b9,G,r⟩|⟨a,B,e,y,E,A,H⟩
 ·rw[e] at j
  dsimp only at j
  simp only[jQ] at j
  have N:D.blocks a=k.n - c:=by unfold Pg.blocks;rw[X,b9]
  have P:=hV a B D N y A fun b hb=>r.look b (by rw[N];exact hb)
  have K:=ah j;have HV:=ah P;have HB:=ah (au y (au E (au A (au H (au X (au b6 (au b7 (au b8 (au b9 (au G r))))))))))
  clear m O j e y E A H X b6 b7 b8 b9 G r N P h hL p hC hV
  go_enter Tryz.func75,Tryz.ntmps75
  go_wp2_with (first
   |(go_at_call 48;go_must (refine pV.out.mono ?_;rintro e w1 ⟨rfl,qC⟩;subst w1)))
  go_wp2_with (first
   |(go_at_call 127;go_must (refine K.out.mono ?_;rintro e M ⟨z,S2,rfl,t,n⟩;refine Stop.of ?_)))
  refine Stop.on ?_
  have q:=aG M (.cells #[.pointer (some ⟨z,0,none⟩)] 130)
  have i:=aH M (.cells #[.pointer (some ⟨z,0,none⟩)] 130)
  obtain⟨T,W⟩:∃T:World,Hid (M.alloc (.cells #[.pointer (some ⟨z,0,none⟩)] 130)=T):=⟨_,ah rfl⟩
  rw[W.out] at q i
  have qO:=(aj.1 i).1
  have p9:=t.below q
  have o:¬S2 M.heap.size:=fun e=>absurd (t.sub _ e) (cO _)
  have m:=Ux M.heap.size z d a B D f I S2 T es tb i o p9 HV.out.1 HV.out.2 qm
  obtain⟨v,P⟩:∃v,Hid (M.heap.size=v):=⟨_,ah rfl⟩
  rw[P.out] at m i o
  have Y:=ah m
  have H3:=ah (au i (au o (au n (au q (by rw[<-P.out];exact n.1.size:w.heap.size<=v)))))
  have af:T.cell? ⟨v,0,none⟩=some (.pointer (some ⟨z,0,none⟩)):=by simp[World.cell?,i]
  clear m i o n q t p9
  go_upto_region 8 with fail
  rw[W.out,P.out]
  go_wp2_with (first
   |(go_at_call 47;go_must (refine Y.out.mono ?_;rintro e w4 ⟨rfl,S4,qo,J⟩)))
  go_ret2
  obtain⟨y,E,A,H,X,b6,b7,b8,b9,G,r⟩:=HB.out
  obtain⟨i,o,n,q,ql⟩:=H3.out
  have V:v<T.heap.size:=(aj.1 i).1
  refine .inl ⟨v,z,a,B,D,S4,rfl,(J.1.block v V o).trans i,fun e=>(J.2 v e).elim o (fun x=>absurd V (aX.2 x)),ql,qo,(n.trans (Step.of_below q)).trans J,y,E,A,H,X,b6,b7,b8,b9,G,r⟩
 ·rw[e] at j
  dsimp only at j
  simp only[show ¬((10:Int)=0) by omega,if_false] at j
  have K:=ah j;have HB:=ah (au y (au E (au A H)))
  clear m O j e y E A H h hL p hC hV
  go_enter Tryz.func75,Tryz.ntmps75
  go_wp2_with (first
   |(go_at_call 48;go_must (refine pV.out.mono ?_;rintro e w1 ⟨rfl,qC⟩;subst w1)))
  go_wp2_with (first
   |(go_at_call 127;go_must (refine K.out.mono ?_;rintro e M ⟨z,S2,rfl,t,n⟩)))
  go_ret2
  obtain⟨y,E,A,H⟩:=HB.out
  obtain⟨qb,ai,av,q9,q8,qf,qc⟩:=t
  refine .inr ⟨a,qb,rfl,qf.log.dk,⟨n.1,fun g hg=>n.2 g ((qc g).2 (.inl hg))⟩,y,E,A,H⟩
end Go.Proofs.YtpmbddooibgnaaaGreatDoor
