/- parts -/
import Derived.Test.YtpmbddooibgnaaaGreatDoorN5
import Derived.Test.YtpmbddooibgnaaaGreatDoorN21
import Derived.Test.YtpmbddooibgnaaaGreatDoorN22
import Derived.Test.YtpmbddooibgnaaaGreatDoorN23
import Derived.Lib.ValidU
import Derived.Lib.IndexAny
set_option maxRecDepth 100000
set_option maxHeartbeats 8000000
set_option linter.all false
namespace Go.Proofs.YtpmbddooibgnaaaGreatDoor
open Go.RowKit
theorem Ch {f:Nat->Bool}:∀{n m:Nat},n<=m->(∀b,n<=b->f b=false)->countB f m=countB f n
 |n,0,h,_=>by
  obtain rfl:n=0:=by omega
  rfl
 |n,m+1,h,c=>by
  rcases jC m n with a|a
  ·obtain rfl:n=m+1:=by omega
   rfl
  ·rw[eD,Ch a c,c m a]
   rfl
structure yP (σ:Dk)(l:Lg)(p:Pg)(f:Nat->Bool)(root:Nat):Prop where
 pd:p.dead=false
 sd:σ.dead=false
 two:2<=p.blocks σ
 map:p.look Im.none σ 0=bytesOf f
 hi:∀b,p.blocks σ<=b->f b=false
 f0:f 0=true
 f1:f 1=true
 root:QH (p.look Im.none σ 1) root
theorem FE (tr:Nat)(mp:VS)(root:Int)(σ:cK)(S:Nat->Prop)(k:List Pr)(tb:List Int)(w:World)(h:Inv σ S mp w)(i:bY w tr mp root 0)(j:yS σ root k tb)(m:k.length<=4090):
  Calls Tryz.prog 81 #[.pointer (some ⟨tr,0,none⟩)] w fun e a=>∃(v:Value) (L:List Int),e= .returned (.tuple #[v,.int .i64 0])/\L.Perm tb/\aV a S w.heap.size 3 1 v L.length (L.map (.int .i64))/\Below w.heap.size w a:=by
 obtain⟨n,T,l,hB,f⟩:=j.bl (by omega)
 by_cases g:root=0
 ·subst g
  refine(Ii tr mp S w i).mono ?_
  rintro e a ⟨v,rfl,d,b⟩
  rw[if_pos rfl] at hB
  have c:T=[]:=by cases hB<;>simp_all
  exact⟨v,_,rfl,by rw[<-c];exact(rX _).trans f,d,b⟩
 ·rw[if_neg g] at hB
  refine(Ij tr mp root σ S w h i g n T l hB (by have:=f.length_eq;have:=j.count;omega)).mono ?_
  rintro e a ⟨v,rfl,d,b⟩
  exact⟨v,_,rfl,(rX _).trans f,d,b⟩
theorem Mv (es:List mH):((iw es).drop (dI (iw es) ⟨#[]⟩))=iw es:=by
 have:dI (iw es) ⟨#[]⟩=0:=by
  unfold dI
  cases iw es with
  |nil=>rfl
  |cons p r=>rw[List.takeWhile_cons,BK];rfl
 rw[this,dY]
theorem U8 {w:World}{S:Nat->Prop}{B g n c:Nat}{a:List Pr}(h:aV w S B 188 2 (.slice (some ⟨g,0,none⟩) n c) n (dG a))(i:a.length=n)(k:Nat)(l:k<n):
  w.cell? ⟨g,k*2,none⟩=some (.string (a[k]'(by omega)).1)/\w.cell? ⟨g,k*2+1,none⟩=some (.string (a[k]'(by omega)).2):=by
 have f:sQ w S (.slice (some ⟨g,0,none⟩) n c) a:=by
  unfold sQ
  rw[i];exact h.dM
 obtain⟨m,j,e,d,b⟩:=f.at rfl k (by omega)
 cases e
 rw[fZ] at d b
 exact⟨d,b⟩
theorem Ux (v pg d:Nat)(σ:Dk)(l:Lg)(p:Pg)(f:Nat->Bool)(root:Nat)(S:Nat->Prop)(w:World)(es:List mH)(tb:List Int)(hv:w.heap[v]? =some (.cells #[.pointer (some ⟨pg,0,none⟩)] 130 (0,0)))(hvS:¬S v)(h:iF w S pg d σ l p (.pointer none))(hB:yP σ l p f root)(hL:Live (cK.start σ l p f) root es tb)(hl:es.length<=4090):
  Calls Tryz.prog 47 #[.pointer (some ⟨v,0,none⟩)] w fun e w'=>e= .returned (.int .i64 0)/\∃S',iF w' S' pg d σ l p (.pointer none)/\Step S S' w w':=by
 have HB:=ah (Ot v pg d σ l p f root S w hv hvS h hB.pd hB.sd hB.two hB.map hB.hi hB.f0 hB.f1 hB.root)
 have nD:p.blocks σ<=4096:=by have:=h.ok.2.1.hi;unfold Pg.blocks;omega
 have HC:=ah (Ch nD hB.hi)
 have hsub:=h.sub
 clear hv h
 go_enter_defers Tryz.func47,Tryz.ntmps47
 go_wp2_with (first
  |(go_at_call 77;go_must (refine HB.out.mono ?_;rintro e O ⟨t,tr,mp,M,rfl,zA,hd,qy,j4,N,nH,vT,hn2,vk,hlo2⟩;refine Stop.of ?_)))
 refine Stop.on ?_
 obtain⟨r,eZ⟩:∃r,r=cK.start σ l p f:=⟨_,rfl⟩
 rw[<-eZ] at N hL
 have c2:O.cell? ⟨t,2,none⟩=some (.pointer (some ⟨tr,0,none⟩)):=by simp[World.cell?,qy,cZ]
 have d9:=(aj.1 qy).1
 have yL:(iw es).length<=4090:=by rw[gQ];exact hl
 have HTB:=ah (FE tr mp root r M (iw es) tb O N j4 hL.tree yL)
 have ng:∀g,M g->g<O.heap.size:=N.sub
 have y:=N.ok
 have W:=ah (au qy (au j4 (au N nH)))
 have qc:=ah eZ
 clear qy j4 N nH eZ
 go_wp2_with (first
  |(go_at_call 81;go_must (refine HTB.out.mono ?_;rintro e w2 ⟨bv,L,rfl,dM,kD,G⟩;refine Stop.of ?_)))
 refine Stop.on ?_
 obtain⟨xo,xc,rfl,_,_,_,_⟩:=bq.form kD.dM
 have hS2:∀g,M g->g<w2.heap.size:=fun g hg=>aA (ng g hg) G.size
 have zk:L.length<=9000:=by have:=dM.length_eq;have:=hL.tree.count;omega
 have HP2:=ah dM
 go_wp2_with (first
  |(at_builtin;go_must ((refine dQ rfl (.tmp 35) (.tmp 36) 39 39 rfl M O.heap.size 3 1 8 _ dR qx rfl (.slice xo L.length xc) _ _ rfl (kD.below (aG _ _)) _ 2 _ rfl (iB [.int .i64 0,.int .i64 1] _ 1 2 2 (by simp) dR rfl ?_) (kP hS2 _) ?_ ?_ ?_ ?_);(focus (simp[Value.oneCell']));(focus (simp only[bD];have:=G.size;omega));(focus (unfold maxLen;omega));(focus omega);intro ao3 c3 w3 J hk3 mD hd3;refine Stop.of ?_)))
 refine Stop.on ?_
 have H:Below O.heap.size O w3:=(G.trans ((aG w2 _).mono G.size)).trans mD
 have hE:L.map (Value.int .i64)++[.int .i64 0,.int .i64 1]=(L++[0,1]).map (.int .i64):=by simp
 have iO:L.length+2=(L++[0,1]).length:=by simp
 rw[hE,iO] at J
 have Z:=(H.block t d9).trans W.out.1
 have d2:w3.cell? ⟨t,2,none⟩=some (.pointer (some ⟨tr,0,none⟩)):=by simp[World.cell?,Z,cZ]
 have hlt3:=(aj.1 Z).1
 have l9:=W.out.2.2.1.below H
 have bf:bY w3 tr mp root 0:=(H.block tr (aj.1 W.out.2.1).1).trans W.out.2.1
 have l5:=Dl tr mp root r M (iw es) tb ⟨#[]⟩ 262144 w3 l9 bf hL.tree yL
 rw[Mv,aL (by rw[gQ];show es.length<=(262144:Int).toNat;omega),gQ] at l5
 have HSC:=ah l5
 have vz:=ah J
 have p9:=ah H
 have HI3:=ah l9
 obtain⟨A0,qC⟩:∃A,A=L++[0,1]:=⟨_,rfl⟩
 obtain⟨n0,qf⟩:∃n,n=L.length+2:=⟨_,rfl⟩
 rw[<-iO,<-qf,<-qC] at vz
 rw[<-qf]
 have zy:=ah qC;have oo:=ah (show A0.length=n0 by rw[qC,qf];simp);have HNL:=ah (au zk qf)
 clear J H l9 l5 Z bf mD hk3 hd3 kD G dM hE iO qC qf
 go_wp2_with (first
  |(go_at_call 82;go_must (refine HSC.out.mono ?_;rintro e w4 ⟨pv,rfl,qo,l6⟩;refine Stop.of ?_)))
 refine Stop.on ?_
 obtain⟨po,pc,rfl,_,_,_,_⟩:=bq.form qo.dM
 obtain⟨n,hn⟩:∃n,n=es.length:=⟨_,rfl⟩
 have HN:=ah hn
 rw[<-hn] at qo ⊢
 have q9:=qo.base p9.out.size
 have rf:=vz.out.below l6
 have ai:=p9.out.trans (l6.mono p9.out.size)
 have HV:=ah hL.val
 have kz:=hL.own.count y hL.all
 have R:(dS es).length<=4096:=by
  have:=countB_le r.now r.most
  rw[kz,aB] at this
  have:=y.cap
  omega
 have HBN:=ah R;have zT:=ah kz
 clear R kz
 clear hn qo l6
 go_wp2_with fail
 go_loopw [5,8,9,10,11,12,51] (fun a _ _ _ _ _ i wr=>∃(k:Nat) (A:List Int),k<=n/\i= .int .i64 k/\aV wr M O.heap.size 3 1 a A.length (A.map (.int .i64))/\A.Perm (A0++dS (es.take k))/\aV wr M O.heap.size 188 2 (.slice po n pc) n (dG (iw es))/\Below O.heap.size O wr) (fun _ _ _ _ _ _ i _=>n - (intOf i).toNat)
 case atStart=>exact⟨0,A0,aR _,rfl,by rw[oo.out];exact rf,by simp[dS],q9,ai⟩
 case round=>
  clear rf q9 ai
  obtain⟨k,A,hk,rfl,Y,ql,X,V⟩:=hrel
  obtain⟨ao,ac,rfl,_,_,_,_⟩:=bq.form Y.dM
  by_cases o5:k<n
  ·have y1:(k:Int)<(n:Int):=by omega
   have ko:k<es.length:=by rw[<-HN.out];exact o5
   obtain⟨g,c,e1,_,_,hg1,zf⟩:=X.DL (by omega)
   cases e1
   obtain⟨d0,d1⟩:=U8 X (by rw[gQ];exact HN.out.symm) k o5
   obtain⟨E,hE⟩:∃E,Hid (es[k]=E):=⟨_,ah rfl⟩
   have vo:(iw es)[k]'(by rw[gQ];exact ko)=(E.k,E.s):=by rw[<-hE.out];simp[iw]
   rw[vo] at d0 d1
   have hEm:E∈es:=by rw[<-hE.out];exact bJ ko
   have oO:=ah (show dS (es.take (k+1))=dS (es.take k)++E.b by rw[aO ko,mE,hE.out];simp[dS])
   have yE:A.length+97<=20000:=by
    have e1:=ql.length_eq
    rw[aB,oo.out] at e1
    have e2:=HBN.out
    have e4:=HNL.out
    have e3:(dS (es.take k)).length<=(dS es).length:=by
     have:dS es=dS (es.take k)++dS (es.drop k):=by rw[<-mE,bM]
     rw[this,aB];omega
    omega
   have hlw:g<wr.heap.size:=zf
   have zH:∀g,M g->g<wr.heap.size:=fun g hg=>aA (ng g hg) V.size
   have vP:=ah Y;have nk:=ah ql;have og:=ah X;have z:=ah V
   clear vo Y ql X V
   rcases HV.out E hEm with ⟨s1,s2,s3⟩|⟨I,rs,s1,s2,s3,s4⟩
   ·have lq:E.s.size<=1000000:=by
     have:E.s.size=E.v.size+1:=by rw[s1];show (0::E.v.data.toList).toArray.size=E.v.data.size+1;simp
     omega
    have qb:rz E.s.data.toList=none:=by rw[s1];exact uS _
    have eH:=ah qb
    clear s1 s2 qb
    go_wp2_with (first
     |(go_at_call 83;go_must (refine(Dc E.s _ lq).mono ?_;rw[eH.out];rintro e w5 ⟨D,rfl⟩;refine Stop.of ?_)))
    refine Stop.on ?_
    have s:Below wr.heap.size wr w5:=(aG wr _).trans (D.mono (by simp))
    clear D
    go_wp2_with fail
    go_roundw
    case rel=>exact⟨k+1,A,by omega,by go_num,vP.out.below s,by rw[oO.out,s3,dV];exact nk.out,og.out.below s,z.out.trans (s.mono z.out.size)⟩
    case measure=>simp[intOf];omega
   ·have lq:E.s.size<=1000000:=by rw[s1];show [1,UInt8.ofNat I,UInt8.ofNat (I/256)].toArray.size<=_;simp
    have qb:rz E.s.data.toList=some I:=by rw[s1];exact wV I s2.1
    have eH:=ah qb;have sN:=ah s3;have HS4:=ah s4
    clear s1 s2 qb s3 s4
    go_wp2_with (first
     |(go_at_call 83;go_must (refine(Dc E.s _ lq).mono ?_;rw[eH.out];rintro e w5 ⟨D,rfl⟩;refine Stop.of ?_)))
    refine Stop.on ?_
    have s:Below wr.heap.size wr w5:=(aG wr _).trans (D.mono (by simp))
    have q:=z.out.trans (s.mono z.out.size)
    have o:=(q.block t d9).trans W.out.1
    have f0:w5.cell? ⟨t,0,none⟩=some (.pointer (some ⟨mp.tx,0,none⟩)):=by simp[World.cell?,o,cZ]
    have f1:w5.cell? ⟨t,1,none⟩=some (.pointer (some ⟨mp.mp,0,none⟩)):=by simp[World.cell?,o,cZ]
    have sF:=(aj.1 o).1
    have z8:=ah (Li mp r M w5 I _ rs (W.out.2.2.1.below q) sN.out.hd)
    have tY:=ah (au s q)
    clear D s q o
    go_wp2_with (first
     |(go_at_call 84;go_must (refine z8.out.mono ?_;rintro e w6 ⟨mv,rfl,lH,rq⟩;refine Stop.of ?_)))
    refine Stop.on ?_
    obtain⟨mo,mc,rfl,_,_,_,_⟩:=bq.form lH.dM
    have zG:(pG (lV I rs)).length<=97:=by
     rw[rY]
     have:=sN.out.hd.runs.2
     simp[lV];omega
    have F:=tY.out.1.trans (rq.mono tY.out.1.size)
    have qO:=bq.src (P:=Tryz.prog) lH.dM dR (BH _)
    have r9:=vP.out.below F
    have nY:=og.out.below F
    have hs6:∀g,M g->g<w6.heap.size:=fun g hg=>aA (zH g hg) F.size
    have hz6:O.heap.size<=w6.heap.size:=aI z.out.size F.size
    obtain⟨B,hB⟩:∃B,Hid (pG (lV I rs)=B):=⟨_,ah rfl⟩
    rw[hB.out] at zG qO ⊢
    clear lH rq
    go_wp2_with (first
     |(at_builtin;(refine dQ rfl (.tmp 75) (.tmp 76) 39 39 rfl M O.heap.size 3 1 8 _ dR qx rfl (.slice ao A.length ac) A.length _ rfl r9 (.slice mo B.length mc) B.length _ rfl qO hs6 hz6 (by unfold maxLen;omega) (by omega) ?_);go_must (intro ao7 c7 w7 dn l7 hb7 hd7;refine Stop.of ?_)))
    refine Stop.on ?_
    go_wp2_with fail
    have hAm:A.map (Value.int .i64)++B.map (.int .i64)=(A++B).map (.int .i64):=by simp
    have nN:A.length+B.length=(A++B).length:=by simp
    go_roundw
    case rel=>
     refine⟨k+1,A++B,by omega,by go_num,by rw[<-hAm,<-nN];exact dn,?_,nY.keep fun x hx hl hs=>⟨l7.block x hl (fun e=>aV.RY nY r9 (by decide) _ hx e),hs⟩,(z.out.trans (F.mono z.out.size)).trans hb7⟩
     rw[oO.out,HS4.out,<-bA]
     exact nk.out.append (by rw[<-hB.out];exact rX _)
    case measure=>simp[intOf];omega
  ·obtain rfl:k=n:=by omega
   have y1:¬(k:Int)<(k:Int):=by omega
   have bg:A.Perm (A0++dS es):=by
    have:=ql
    rwa [HN.out,bL] at this
   have C:A.Perm (0::1::(tb++dS es)):=by
    refine bg.trans ?_
    rw[zy.out]
    have e1:(L++[0,1]++dS es).Perm ([0,1]++L++dS es):=lX.append_right _
    refine e1.trans ?_
    have e2:([0,1]++L++dS es)=0::1::(L++dS es):=by simp
    rw[e2]
    exact((HP2.out.append_right _).cons _).cons _
   have K:A.length=countB f 4096:=by
    rw[C.length_eq,HC.out]
    have e1:=zT.out
    have e2:countB r.now r.most=countB f (p.blocks σ):=by rw[qc.out];rfl
    rw[e2] at e1
    rw[e1];simp;omega
   have av:∀x∈A,∃b:Nat,x=b/\b<r.most/\r.now b=true:=by
    intro x hx
    rcases aW.1 (C.mem_iff.1 hx) with rfl|hx
    ·exact⟨0,rfl,by have:=y.two;omega,y.n0⟩
    ·rcases aW.1 hx with rfl|hx
     ·exact⟨1,rfl,by have:=y.two;omega,y.n1⟩
     ·exact cK.lH (hL.all x hx).1
   have ol:A.Nodup:=by
    refine C.nodup_iff.2 (xG.2 ⟨fun e=> ?_,xG.2 ⟨fun e=> ?_,hL.own.nd⟩⟩)
    ·rcases aW.1 e with e|e
     ·cases e
     ·have:=(hL.all 0 e).2;omega
    ·have:=(hL.all 1 e).2;omega
   have yE:A.length<=4096:=by rw[K];exact countB_le f 4096
   have j6:=ah (xP _ A wr M O.heap.size Y (by omega) V.size)
   obtain⟨Q,hQ⟩:∃Q,Hid (pG A=Q):=⟨_,ah rfl⟩
   have kC:=Mh ol
   have pV:=rY A
   have lg:∀x∈pG A,x∈A:=fun x hx=>(Bo x).1 hx
   rw[hQ.out] at j6 kC pV lg
   obtain⟨m,hm⟩:∃m,m=A.length:=⟨_,rfl⟩
   rw[pV,<-hm] at j6
   rw[<-hm] at pV K yE ⊢
   have HQ:=ah (au kC (au pV (au lg av)))
   have yB:=ah K;have z:=ah V
   clear ql bg C K av ol kC pV lg hm Y X V
   go_wp2_with (first
    |(go_at_call 85;go_must (refine j6.out.mono ?_;rintro e w5 ⟨rfl,vY,D⟩;refine Stop.of ?_)))
   refine Stop.on ?_
   have q:=z.out.trans D
   have o:=(q.block t d9).trans W.out.1
   have f1:w5.cell? ⟨t,1,none⟩=some (.pointer (some ⟨mp.mp,0,none⟩)):=by simp[World.cell?,o,cZ]
   have sF:=(aj.1 o).1
   have lG:=W.out.2.2.1.below q
   have af:pJ w5 mp.mp r.most r.now r.H.old:=by obtain⟨Sp,T,hI,_⟩:=lG;exact hI.map
   have di:=ah af;have HO5:=ah vY;have fo:=ah (au o (au lG q))
   clear af vY o lG q D
   have hmc:=y.cap
   go_wp2_with fail
   go_loopw [13,14,83] (fun _ _ i wk=>∃j:Nat,j<=m/\i= .int .i64 j/\wk=w5) (fun _ _ i _=>m - (intOf i).toNat)
   case atStart=>exact⟨0,aR _,rfl,rfl⟩
   case round=>
    obtain⟨j,hj,rfl,hwk⟩:=hrel
    subst hwk
    by_cases hjm:j<m
    ·have y2:(j:Int)<(m:Int):=by omega
     have hI:pM wr M (.slice ao m ac) Q:=by
      have:=HO5.out.dM
      unfold pM
      rw[HQ.out.2.1];exact this
     have jv:j<Q.length:=by rw[HQ.out.2.1];exact hjm
     obtain⟨pb,po',rfl,q1⟩:=hI.at rfl j jv
     have hpb:=aD wr _ q1
     obtain⟨b,hb,j3,R⟩:=HQ.out.2.2.2 Q[j] (HQ.out.2.2.1 _ (bJ jv))
     have HBQ:=ah hb
     rw[hb] at q1
     have qm:=WX mp.mp r.most r.now r.H.old b wr di.out hmc (by omega)
     rw[show (decide (b<r.most) && r.now b)=true by simp[j3,R]] at qm
     have qm:=ah qm
     by_cases hj0:j=0
     ·subst hj0
      rw[jD] at q1
      clear hI hb j3 R
      go_wp2_with (first
       |(go_at_call 86;go_must (refine qm.out.mono ?_;rintro e w6 ⟨rfl,vM⟩;subst w6)))
      go_roundw
      case rel=>exact⟨1,by omega,by go_num,trivial⟩
      case measure=>simp[intOf];omega
     ·have jb:j - 1<Q.length:=by omega
      obtain⟨pb',po'',e',q2⟩:=hI.at rfl (j - 1) jb
      cases e'
      obtain⟨b2,G,_,_⟩:=HQ.out.2.2.2 Q[j - 1] (HQ.out.2.2.1 _ (bJ jb))
      have hne:¬b2=b:=by
       have:=mI.1 HQ.out.1 (j - 1) j jb jv (by omega)
       omega
      rw[G] at q2
      have y3:(0:Int)<(j:Int):=by omega
      have y4:IntKind.i64.wrap ((j:Int) - 1)=((j - 1:Nat):Int):=by rw[aM _ (by omega)];omega
      have y5:((j - 1:Nat):Int)<(m:Int):=by omega
      have y6:(0:Int)<=((j - 1:Nat):Int):=by omega
      have y7:¬(b2:Int)=(b:Int):=by omega
      have y8:((b2:Int)==(b:Int))=false:=by simpa using y7
      obtain⟨j1,xK⟩:∃x:Nat,Hid (j - 1=x):=⟨_,ah rfl⟩
      rw[xK.out] at q2 y4 y5 y6
      clear hI hb j3 R G
      go_wp2_with (first
       |(go_at_call 86;go_must (refine qm.out.mono ?_;rintro e w6 ⟨rfl,vM⟩;subst w6)))
      go_roundw
      case rel=>exact⟨j+1,by omega,by go_num,trivial⟩
      case measure=>simp[intOf];omega
    ·obtain rfl:j=m:=by omega
     have y2:¬(j:Int)<(j:Int):=by omega
     have HU:=WT mp.mp r.most r.now r.H.old wr di.out
     have q8:countB r.now 4096=j:=by rw[yB.out,qc.out];rfl
     rw[q8] at HU
     have HU:=ah HU
     have j5:=ah (au vk (au zA (au hd vT)))
     clear q8
     go_wp2_with (first
      |(go_at_call 78;go_must (refine HU.out.mono ?_;rintro e w6 ⟨rfl,vM⟩;subst w6)))
     refine fe (f:=56) (args:=#[.pointer (some ⟨t,0,none⟩)]) (by simp) (by simp[go_sem]) ?_
     refine(Ou t tr mp false 0 r M _ _ fo.out.1 fo.out.2.1 vT).mono ?_
     rintro e u' w7 ⟨rfl,rfl,⟨Sp,mr,sW⟩,h7,l7⟩
     rw[qc.out] at mr
     refine⟨_,by simp[results,Tryz.results47,go_sem],rfl,Sp,by rw[<-j5.out.2.1,<-j5.out.2.2.1];exact mr,(W.out.2.2.2.1.trans (Keep.of_below fo.out.2.2 eG) (fun _ _ e=>e.elim)).trans l7 (fun g hg e=> ?_),fun g hg=>W.out.2.2.2.2 g (sW g hg)⟩
     rcases e with e|e
     ·exact(W.out.2.2.2.2 g e).elim id (fun x=>absurd hg (aX.2 x))
     ·subst e;exact absurd hg (aX.2 j5.out.1)
def zN (n:Nat)(log:Int):Int:=if log<6\/(n:Int) - 8<log then 1 else 0
theorem Wz (d:Nat)(σ:Dk)(g:Nat->Prop)(a:Int)(w:World)(h:qL w g d σ):
  Calls Tryz.prog 48 #[.pointer (some ⟨d,0,none⟩),.int .i64 a] w fun e k=>e= .returned (.int .i64 (zN σ.n a))/\k=w:=by
 have f:=ah (G6 d σ g w h)
 have l:=h.ok.hi
 have q:IntKind.i64.wrap ((σ.n:Int) - 8)=(σ.n:Int) - 8:=aM _ (by omega)
 clear h
 unfold zN
 by_cases i:a<6
 ·rw[if_pos (.inl i)]
  go_enter Tryz.func48,Tryz.ntmps48
  go_wp2_with fail
  go_ret
  exact⟨rfl,rfl⟩
 ·by_cases j:(σ.n:Int) - 8<a
  ·rw[if_pos (.inr j)]
   go_enter Tryz.func48,Tryz.ntmps48
   go_wp2_with (first
    |(go_at_call 87;go_must (refine f.out.mono ?_;rintro e c ⟨rfl,b⟩;subst c)))
   go_ret
   exact⟨rfl,rfl⟩
  ·rw[if_neg (by omega)]
   go_enter Tryz.func48,Tryz.ntmps48
   go_wp2_with (first
    |(go_at_call 87;go_must (refine f.out.mono ?_;rintro e c ⟨rfl,b⟩;subst c)))
   go_ret
   exact⟨rfl,rfl⟩
theorem KX {a:Im}{n:Nat}(h:a.Ok n):bZ a.bg=(16+520*a.ks.length+511)/512:=by
 have e:(a.bg.map fun r=>4+r.length).sum=520*a.ks.length:=by
  unfold Im.bg
  rw[Ul]
  have b:=h.img
  revert b
  generalize a.ks=c
  intro b
  induction c with
  |nil=>rfl
  |cons k c ih=>
   rw[eP,kG,ih (fun x d=>b x (bn _ d)),aZ]
   have:=b k (aY ..)
   show 4+(leB k 4++a.img k).length+_=_
   rw[aB,bI,this];omega
 unfold bZ
 rw[e]
theorem Dk.FB:∀(k i:Nat) (σ:Dk) (j:Nat),i<=j->j<i+k->(Dk.uJ k i σ).get j=pad []
 |0,_,_,_,a,b=>absurd b (by omega)
 |k+1,i,σ,j,a,b=>by
  rw[Dk.zf,Dk.get_put]
  split
  ·rfl
  ·exact Dk.FB k i σ j a (by omega)
theorem Pn {σ:Dk}{a:Nat}(f:(Lg.new 0 a).Ok)(e:(Pg.new a).Ok σ (Lg.new 0 a))(c:σ.waits=[])(d:σ.get 0=pad (Lg.new 0 a).d9):mK σ (Lg.new 0 a) (Pg.new a) (fun _ b=>σ.get (a+b)):=
 ⟨[],⟨f,e,rfl,aC _,aC _,(fun g h=>by cases h),(fun i h=>by cases h),Al.none ⟨d,(fun i h=>by simp[fC] at h),fun b _=>rfl⟩ c,fun b=>rfl,(by rw[c];exact aC _),fun _=>c⟩,fun k _ _ b _=>by rw[Q6];rfl⟩
structure Tk (σ0:Dk)(log:Nat)(σ:Dk)(l:Lg)(p:Pg):Prop where
 vi:VI σ l p
 last:l.last=1
 synced:l.synced=1
 skip:p.skip=log
 ring:p.ring=log - 1
 n:σ.n=σ0.n
 base:yP σ l p two 0
 rc:∃C,mK σ l p C
 wts:σ.waits=[]
theorem Tk.live {σ:Dk}{l:Lg}{p:Pg}:Live (cK.start σ l p two) 0 [] []:=by
 refine⟨.inl ⟨rfl,rfl,rfl⟩,(fun e a=>by cases a),⟨List.nodup_nil,fun x b=> ?_,?_⟩⟩
 ·obtain⟨n,rfl,_,h⟩:=cK.lH b
  have h:two n=true:=h
  unfold two at h
  have:=bF h
  omega
 ·show countB (fun x=>two x||two x) (p.blocks σ)=countB two (p.blocks σ)+0
  rw[jD]
  exact jw _ (fun x _=>Bool.or_self _)
theorem Wv (d:Nat)(σ:Dk)(Sd:Nat->Prop)(f:Nat)(w:World)(h:qL w Sd d σ)(hf:σ.nH)(h1:6<=f)(h2:f+8<=σ.n)(av:σ.waits.length<=50000):
  Calls Tryz.prog 25 #[.pointer (some ⟨d,0,none⟩),.int .i64 f] w fun e w'=>∃v pg jb l' p' S',e= .returned (.tuple #[.pointer (some ⟨v,0,none⟩),.int .i64 0])/\w'.heap[v]? =some (.cells #[.pointer (some ⟨pg,0,none⟩)] 130 (0,0))/\¬S' v/\w.heap.size<=v/\iF w' S' pg d jb l' p' (.pointer none)/\Tk σ f jb l' p'/\Step Sd S' w w':=by
 have qc:=Wz d σ Sd f w h
 have lg:zN σ.n f=0:=by unfold zN;rw[if_neg (by omega)]
 rw[lg] at qc
 have l7:=ah qc
 have nk:=h.ok.hi
 have lG:=ah (WR d σ Sd f w h hf (by omega) (by omega) av)
 have ng:=h.sub
 clear h qc lg
 go_enter Tryz.func25,Tryz.ntmps25
 go_wp2_with (first
  |(go_at_call 48;go_must (refine l7.out.mono ?_;rintro e w1 ⟨rfl,R⟩;subst w1))
  |(go_at_call 49;go_must (refine lG.out.mono ?_;rintro e w1 ⟨pg,N,rfl,p,bf⟩;refine Stop.of ?_)))
 refine Stop.on ?_
 obtain⟨i,l⟩:∃i,i=(((Dk.uJ (σ.n - f) f σ).flush.put 0 (Lg.new 0 f).d9).flush):=⟨_,rfl⟩
 rw[<-l] at p
 have qy:i.n=σ.n:=by rw[l];exact Dk.zh _ _ _
 have kz:i.nH:=by rw[l];exact Dk.vM _ _ _ hf
 have R:i.waits=[]:=by rw[l];rfl
 have iO:∀j,f<=j->j<σ.n->i.get j=pad []:=fun j a b=>by
  rw[l,wX _ _ _ _ (by omega)]
  exact Dk.FB _ _ _ _ a (by omega)
 have qO:i.get 0=pad (Lg.new 0 f).d9:=by rw[l,Dk.nN,Dk.get_put,if_pos rfl]
 have ko:=ah (Pn p.ok.2.2 p.ok.1 R qO)
 clear qO
 have lH:(Pg.new f).blocks i=σ.n - f:=by unfold Pg.blocks;rw[qy];rfl
 have mo:=ah (Pb pg d i (Lg.new 0 f) (Pg.new f) N w1 p rfl)
 have ql:=p.sub
 have qb:=ah bf
 have s:=ah (au qy (au kz (au R iO)))
 clear l p bf qy kz R iO
 go_wp2_with (first
  |(go_at_call 50;go_must (refine mo.out.mono ?_;rintro e K ⟨t,T,rfl,G,fo,jv,j6⟩;refine Stop.of ?_)))
 refine Stop.on ?_
 have Y:∀g,N g->¬T g:=fun g Q e=>absurd (j6 g e) (jX.2 (ql g Q))
 have mr:=ah (AP pg d i (Lg.new 0 f) (Pg.new f) _ N K G)
 have l6:=ah (UQ t pg d i (Lg.new 0 f) (Pg.new f) _ Im.none N T K.drew (G.below ((aJ _ K).drew)) (fo.below ((aJ _ K).drew)) rfl (by omega))
 clear lH
 have kD:=ah (au G jv)
 clear G fo jv
 go_wp2_with (first
  |(go_at_call 52;go_must (refine mr.out.mono ?_;rintro e w3 ⟨rfl,nD⟩;subst w3))
  |(go_at_call 51;go_must (refine l6.out.mono ?_;rintro e w3 ⟨rfl,P,pV⟩;refine Stop.of ?_)))
 refine Stop.on ?_
 obtain⟨W,J⟩:∃W,W=Im.none.put 0 (bytesOf two):=⟨_,rfl⟩
 rw[<-J] at P
 have qm:=(kD.out.1.below ((aJ _ K).drew)).keep pV.1 (fun g Q e=>Y g Q e)
 have n:W.Ok ((Pg.new f).blocks i):=by obtain⟨_,q⟩:=P;exact q.ok
 have O:W.ks=[0]:=by rw[J];rfl
 have qo:=qm.ok
 have kC:VI i (Lg.new 0 f) (Pg.new f):=⟨s.out.2.1,rfl,rfl,by rw[s.out.2.2.1];exact aR _,fun _=>⟨_,ko.out⟩⟩
 have M:=KR t pg d i (Lg.new 0 f) (Pg.new f) _ W N T w3 qm P Y rfl rfl (by rw[s.out.2.2.1];exact aR _) (by show 0<1000000000000;omega)
 obtain⟨m,V,o,D,eH,j3,ai,qC,q9,X⟩:∃m V o,(Pg.new f).commit i (Lg.new 0 f) W=(m,V,o,1,0)/\VI m V o/\V.last=1/\o.skip=f/\o.ring=f - 1/\m.n=i.n/\∀b,o.look Im.none m b=(Pg.new f).look W i b:=by
  rcases Ki kC qo.1 qo.2.2 n with ⟨q,_⟩|⟨_,q,_⟩|⟨_,_,m,V,o,q1,q2,q3,q4,q5,q6,q7⟩
  ·rw[O] at q;cases q
  ·unfold Pg.ru at q
   rw[KX n,O] at q
   have:(Pg.new f).ring=f - 1:=rfl
   rw[this] at q
   simp at q
   omega
  ·exact⟨m,V,o,q1,q2,q3,q4,q5,q6,q7⟩
 have E:∃C,mK m V o C:=by
  rcases vC ko.out s.out.2.1.1 rfl rfl n (by show 0<1000000000000;omega) with ⟨q,_⟩|⟨_,_,q⟩|⟨_,_,⟨_,_,_,q,_,_,_,_,_,_,_,_,_,r,_⟩|⟨_,_,_,q,_⟩⟩
  ·rw[O] at q;cases q
  ·rw[D] at q;simp at q
  ·rw[D] at q
   simp only[mP] at q
   obtain⟨rfl,rfl,rfl,_⟩:=q
   exact⟨_,r⟩
  ·rw[D] at q;simp at q
 have j5:=ah E
 clear E
 rw[D] at M
 have M:=ah M
 have k:=ah (au eH (au j3 (au ai (au qC (au q9 (au X J))))))
 have eZ:=ah (kD.out.2.trans ((Step.of_below ((aJ _ K).drew):Step N N K K.drew)))
 have di:=ah pV
 clear qm P n O qo kC D eH j3 ai qC q9 X J pV
 go_wp2_with (first
  |(go_at_call 53;go_must (refine M.out.mono ?_;rintro e w4 ⟨rfl,S4,A,l9,af⟩;refine Stop.of ?_)))
 refine Stop.on ?_
 obtain⟨x,l5,I,bg,dM,j4,F,S⟩:=OI k.out.1 A.ok.1
 have H:=TH pg d m V o _ S4 w4 A (by have:=k.out.1.wt;have:=A.ok.2.2.us;have:=A.ok.2.2.hi;omega)
 have E:(∃C,mK x l5 o C)/\x.waits=[]:=by
  obtain⟨C,hC⟩:=j5.out
  rcases Bj hC k.out.1.free.1 k.out.1.ld k.out.1.pd with ⟨_,_,q,_,_,_,_,hw,_,_,r,_⟩|⟨_,_,q,_⟩
  ·rw[I] at q
   simp only[mP] at q
   obtain⟨rfl,rfl,_⟩:=q
   exact⟨⟨_,r⟩,hw⟩
  ·rw[I] at q;simp at q
 have Z:=ah E
 clear E
 rw[I] at H
 have H:=ah H
 have y:=ah (au bg (au dM (au j4 (au F S))))
 have d9:=ah af
 clear A l9 af I bg dM j4 F S
 go_wp2_with (first
  |(go_at_call 54;go_must (refine H.out.mono ?_;rintro e w5 ⟨rfl,S5,q8,qf⟩;refine Stop.of ?_)))
 refine Stop.on ?_
 go_wp2_with fail
 go_ret2
 have dn:=aG w5 (.cells #[.pointer (some ⟨pg,0,none⟩)] 130)
 have p9:=q8.sub
 have lq:w.heap.size<=w5.heap.size:=by
  have a:=qb.out.1.size;have b:=eZ.out.1.size;have c:=di.out.1.size;have d:=d9.out.1.size;have e:=qf.1.size
  omega
 have B:=k.out.2.2.1
 have z:∀b,o.look Im.none x b=(Pg.new f).look W i b:=fun b=>(y.out.2.2.2.2 Im.none b).trans (k.out.2.2.2.2.2.1 b)
 have F:x.n=σ.n:=y.out.2.2.2.1.trans (k.out.2.2.2.2.1.trans s.out.1)
 refine⟨w5.heap.size,pg,x,l5,o,S5,rfl,aH w5 _,fun e=>cO _ (p9 _ e),lq,q8.below dn,⟨y.out.1,y.out.2.1.trans k.out.2.1,y.out.2.2.1.trans k.out.2.1,B,k.out.2.2.2.1,F,?_,Z.out.1,Z.out.2⟩,?_⟩
 ·have mD:o.blocks x=σ.n - f:=by unfold Pg.blocks;rw[F,B]
  refine⟨k.out.1.pd,y.out.1.free.1,by omega,?_,fun b hb=> ?_,rfl,rfl,?_⟩
  ·rw[z,k.out.2.2.2.2.2.2]
   unfold Pg.look
   rw[Im.Cb,if_pos rfl];rfl
  ·unfold two
   exact bU (by omega)
  ·rw[z,k.out.2.2.2.2.2.2]
   have:(Pg.new f).look (Im.none.put 0 (bytesOf two)) i 1=pad []:=by
    unfold Pg.look
    rw[Im.Cb,if_neg (by omega)]
    exact s.out.2.2.2 (f+1) (by omega) (by omega)
   rw[this]
   exact⟨by omega,List.replicate 510 0,rfl⟩
 ·have h0:=qb.out.trans eZ.out
  have a:Step Sd (fun g=>N g\/T g) w K.drew:=⟨h0.1,fun g Q=>Q.elim (h0.2 g) (fun e=> .inr (aI qb.out.1.size (j6 g e)))⟩
  have b:Step Sd (fun g=>N g\/T g) w w3:=a.trans ⟨di.out.1.mono (fun g _ e=> .inr e),fun g Q=> .inl Q⟩
  have c:=b.trans d9.out
  have e:Step Sd S5 w w5:=c.trans ⟨qf.1.mono (fun g _ e=> .inl e),fun g Q=>(qf.2 g Q).imp .inl id⟩
  exact e.trans (Step.of_below dn)
structure Lm (w:World)(S:Nat->Prop)(v pg d:Nat)(σ:Dk)(l:Lg)(p:Pg)(f:Nat->Bool)(root:Nat)(es:List mH)(tb:List Int):Prop where
 obj:w.heap[v]? =some (.cells #[.pointer (some ⟨pg,0,none⟩)] 130 (0,0))
 nv:¬S v
 pgr:iF w S pg d σ l p (.pointer none)
 vi:VJ σ l p
 base:yP σ l p f root
 live:Live (cK.start σ l p f) root es tb
structure Yq (σ:cK)(root:Nat)(es:List mH)(tb:List Int):Prop where
 vi:VJ σ.H.dk σ.H.lg σ.H.pg
 base:yP σ.H.dk σ.H.lg σ.H.pg σ.H.old root
 live:Live (cK.start σ.H.dk σ.H.lg σ.H.pg σ.H.old) root es tb
structure yT (w:World)(S:Nat->Prop)(v t tr:Nat)(mp:VS)(σ:cK)(root:Int)(es:List mH)(tb:List Int)(ch:Bool)(root0:Nat)(es0:List mH)(tb0:List Int):Prop where
 obj:w.heap[v]? =some (.cells #[.pointer (some ⟨mp.pg,0,none⟩)] 130 (0,0))
 nv:¬S v
 tx:Fg w S t tr mp σ root 0 ch 0
 live:Live σ root es tb
 bas:Yq σ root0 es0 tb0
 ch:ch=false->σ=cK.start σ.H.dk σ.H.lg σ.H.pg σ.H.old/\es=es0
structure Yh (w:World)(S:Nat->Prop)(v t tr:Nat)(mp:VS)(σ:cK)(ch:Bool)(root0:Nat)(es0:List mH)(tb0:List Int):Prop where
 obj:w.heap[v]? =some (.cells #[.pointer (some ⟨mp.pg,0,none⟩)] 130 (0,0))
 nv:¬S v
 tx:∃root err,Fg w S t tr mp σ root err ch 12
 bas:Yq σ root0 es0 tb0
theorem Uy {w:World}{v t pg:Nat}{mp:VS}{tr:Option Nat}{ch:Bool}{b:Int}(h:w.heap[v]? =some (.cells #[.pointer (some ⟨pg,0,none⟩)] 130 (0,0)))(a:w.heap[t]? =some (.cells (cZ mp tr ch b) 181 (0,0))):v≠t:=by
 rintro rfl
 rw[h] at a
 injection a with a
 injection a with _ h2
 exact absurd h2 (by decide)
theorem Ri {w:World}{v t pg:Nat}{mp:VS}{root b:Int}(h:w.heap[v]? =some (.cells #[.pointer (some ⟨pg,0,none⟩)] 130 (0,0)))(a:bY w t mp root b):v≠t:=by
 rintro rfl
 unfold bY at a
 rw[h] at a
 injection a with a
 injection a with _ h2
 exact absurd h2 (by decide)
theorem yT.EB {w i:World}{S d:Nat->Prop}{v t tr:Nat}{mp:VS}(h:w.heap[v]? =some (.cells #[.pointer (some ⟨mp.pg,0,none⟩)] 130 (0,0)))(f:¬S v){ch:Bool}{k root b:Int}(c:w.heap[t]? =some (.cells (cZ mp (some tr) ch k) 181 (0,0)))(a:bY w tr mp root b)(g:kH S d t tr w i):
  i.heap[v]? =some (.cells #[.pointer (some ⟨mp.pg,0,none⟩)] 130 (0,0))/\¬d v:=by
 have j:=(aj.1 h).1
 refine⟨(g.1.block v j (fun e=> ?_)).trans h,fun e=>(g.2 v e).elim f (fun x=>absurd j (aX.2 x))⟩
 rcases e with e|e|e
 ·exact f e
 ·exact Uy h c e
 ·exact Ri h a e
theorem Lm.step {w i:World}{S S':Nat->Prop}{v pg d:Nat}{σ:Dk}{l:Lg}{p:Pg}{f:Nat->Bool}{root:Nat}{es:List mH}{tb:List Int}(h:Lm w S v pg d σ l p f root es tb){a:Dk}{b:Lg}{c:Pg}(m:iF i S' pg d a b c (.pointer none))(j:Step S S' w i)(o:VJ a b c)(k:yP a b c f root)(n:Live (cK.start a b c f) root es tb):Lm i S' v pg d a b c f root es tb:=by
 have g:=(aj.1 h.obj).1
 exact⟨(j.1.block v g h.nv).trans h.obj,fun e=>(j.2 v e).elim h.nv (fun x=>absurd g (aX.2 x)),m,o,k,n⟩
theorem yT.below {w w':World}{S:Nat->Prop}{v t tr:Nat}{mp:VS}{σ:cK}{root:Int}{es:List mH}{tb:List Int}{ch:Bool}{root0:Nat}{es0:List mH}{tb0:List Int}(h:yT w S v t tr mp σ root es tb ch root0 es0 tb0)(a:Below w.heap.size w w'):yT w' S v t tr mp σ root es tb ch root0 es0 tb0:=
 ⟨(a.block v (aj.1 h.obj).1).trans h.obj,h.nv,h.tx.below a,h.live,h.bas,h.ch⟩
theorem Gs {σ:cK}{root:Nat}{es:List mH}{tb:List Int}(m:σ.Ok)(k:Live σ root es tb)(z:root<65536){c:Dk}{g:Lg}{d:Pg}(s:d.blocks c=σ.most)(r:VJ c g d)(j:∀b,b<σ.most->d.look Im.none c b=σ.H.pg.look (σ.sealed root).im σ.H.dk b):
  yP c g d σ.now root/\Live (cK.start c g d σ.now) root es tb:=by
 have D:=m.two
 have p:∀b,b<σ.most->d.look Im.none c b=if b=0 then bytesOf σ.now else if b=1 then pad (nV root) else σ.mem (b:Nat):=by
  intro b o
  rw[j b o]
  show σ.H.pg.look ((σ.im.put 1 (pad (nV root))).put 0 (bytesOf σ.now)) σ.H.dk b=_
  rw[uR,uR]
  split
  ·rfl
  ·split
   ·rfl
   ·unfold cK.mem;rw[dz]
 refine⟨⟨r.pd,r.nd,by omega,by rw[p 0 (by omega),if_pos rfl],fun b A=>m.nhi b (by omega),m.n0,m.n1,?_⟩,?_⟩
 ·rw[p 1 (by omega),if_neg (by omega),if_pos rfl]
  exact⟨z,List.replicate (512 - (nV root).length) 0,rfl⟩
 ·have i:∀x,(cK.start c g d σ.now).hasB x=σ.hasB x:=fun x=>by
   show (decide (0<=x) && (decide (x.toNat<d.blocks c) && σ.now x.toNat))=_
   rw[s];rfl
  have l:∀x∈tb++dS es,(cK.start c g d σ.now).hasB x=true/\(cK.start c g d σ.now).mem x=σ.mem x:=by
   intro x f
   obtain⟨a,b⟩:=k.all x f
   refine⟨by rw[i];exact a,?_⟩
   obtain⟨E,v,B,_⟩:=cK.lH a
   show d.look Im.none c x.toNat=_
   rw[p _ (by omega),if_neg (by omega),if_neg (by omega)]
   congr 1
   omega
  refine⟨?_,fun e q=>(k.val e q).keep fun x f=>l x (cB _ (qg.2 ⟨e,q,f⟩)),⟨k.own.nd,fun x f=>k.own.ex x (by rw[<-i];exact f),?_⟩⟩
  ·rcases k.tree with h|⟨h,y⟩
   ·exact .inl h
   ·exact .inr ⟨h,y.move fun x f=>l x (dH _ f)⟩
  ·have C:nh (cK.start c g d σ.now) (tb++dS es)=0:=by
    unfold nh
    rw[List.filter_eq_nil_iff.2]
    ·rfl
    ·intro x f
     obtain⟨n,e,_,t⟩:=cK.lH (k.all x f).1
     have:(cK.start c g d σ.now).held x=true:=by
      show (decide (0<=x) && σ.now x.toNat)=true
      rw[e,dz,t]
      simp
     rw[this];simp
   rw[C,jD]
   exact jw _ (fun x _=>Bool.or_self _)
theorem Ms {σ:cK}{S:Nat->Prop}{mp:VS}{w:World}(h:Inv σ S mp w)(root:Nat):(σ.sealed root).im.Ok (σ.H.pg.blocks σ.H.dk)/\(σ.sealed root).im.ks.length+countB σ.H.old σ.most<=σ.tk+2/\(σ.sealed root).im.ks≠[]:=by
 have b:=h.ok
 have d:=b.most
 have i:=b.two
 obtain⟨j,T,h,_⟩:=h
 have g:σ.im.Ok σ.most:=by obtain⟨_,q⟩:=h.tx;exact q.ok
 have f:=g.put 1 (pad (nV root)) (by omega) (oI (by simp[nV]))
 have c:=f.put 0 (bytesOf σ.now) (by omega) (vE _)
 have a:(σ.sealed root).Ok:=(b.wrote 1 (pad (nV root)) (oI (by simp[nV])) (by omega) (.inl (by omega))).wrote 0 (bytesOf σ.now) (vE _) (by show 0<σ.most;omega) (.inl (by omega))
 refine⟨by rw[<-d];exact c,a.Vt c.rise,fun e=> ?_⟩
 have:0∈(σ.sealed root).im.ks:=lF.2 (.inl rfl)
 rw[e] at this;cases this
structure gW where
 F:Nat->Prop
 w:World
 D:Nat->Dk->Lg->Pg->Prop
def Xt:Nat->Dk->Lg->Pg->Prop:=fun _ σ _ _=>σ.fuel= -1
instance :Coe World gW:=⟨fun w=>⟨fun g=>g<w.heap.size,w,Xt⟩⟩
structure gW.Calm (b:gW):Prop where
 one:∀{d:Nat} {σ:Dk} {l:Lg} {p:Pg},b.D d σ l p->σ.fuel= -1
 two:∀{d:Nat} {σ σ':Dk} {l l':Lg} {p p':Pg},b.D d σ l p->σ'.fuel= -1->b.D d σ' l' p'
def gW.to (b:gW)(D:Nat->Dk->Lg->Pg->Prop):gW:=⟨b.F,b.w,D⟩
structure VB (b:gW)(w:World)(S:Nat->Prop):Prop where
 os:w.os=b.w.os
 tape:w.tape=b.w.tape
 output:w.output=b.w.output
 size:b.w.heap.size<=w.heap.size
 block:∀g,b.F g->w.heap[g]? =b.w.heap[g]?
 fs:∀g,b.F g->g<b.w.heap.size
 lo:∀g,S g->¬b.F g
theorem VB.to {b:gW}{w:World}{S:Nat->Prop}(h:VB b w S){D:Nat->Dk->Lg->Pg->Prop}:VB (b.to D) w S:=⟨h.os,h.tape,h.output,h.size,h.block,h.fs,h.lo⟩
theorem VB.of {w0 w:World}{S:Nat->Prop}(h:Below w0.heap.size w0 w)(c:∀g,S g->w0.heap.size<=g):VB w0 w S:=⟨h.os,h.tape,h.output,h.size,fun k b=>h.block k b,fun _ a=>a,fun g a=>aX.2 (c g a)⟩
theorem VB.keep {b:gW}{w w':World}{S S' M:Nat->Prop}(h:VB b w S)(c:Keep M w w')(f:∀g,b.F g->¬M g)(i:∀g,S' g->S g\/w.heap.size<=g):VB b w' S':=
 ⟨c.os.trans h.os,c.tape.trans h.tape,c.output.trans h.output,aI h.size c.size,fun g a=>(c.block g (aA (h.fs g a) h.size) (f g a)).trans (h.block g a),h.fs,fun g a d=>(i g a).elim (fun e=>h.lo g e d) (fun e=>absurd (aA (h.fs g d) h.size) (aX.2 e))⟩
theorem VB.step {b:gW}{w a:World}{S S':Nat->Prop}(h:VB b w S)(c:Step S S' w a):VB b a S':=h.keep c.1 (fun g d e=>h.lo g e d) c.2
theorem VB.Ox {b:gW}{w f:World}{S d:Nat->Prop}{t tr:Nat}(h:VB b w S)(j:¬b.F t)(c:¬b.F tr)(i:kH S d t tr w f):VB b f d:=h.keep i.1 (fun g a e=>by
  rcases e with e|e|e
  ·exact h.lo g e a
  ·exact j (e▸a)
  ·exact c (e▸a)) i.2
theorem VB.below {b:gW}{w w':World}{S:Nat->Prop}(h:VB b w S)(a:Below w.heap.size w w'):VB b w' S:=h.step (Step.of_below a)
theorem VB.new {b:gW}{w:World}{S:Nat->Prop}(h:VB b w S){g:Nat}(a:w.heap.size<=g):¬b.F g:=fun c=>absurd (aA (h.fs g c) h.size) (aX.2 a)
section
variable {w:World} {S:Nat->Prop} {v pg d:Nat} {σ:Dk} {l:Lg} {p:Pg} {f:Nat->Bool} {root:Nat} {es:List mH} {tb:List Int}
theorem Lm.begin (h:Lm w S v pg d σ l p f root es tb):
  Calls Tryz.prog 77 #[.pointer (some ⟨v,0,none⟩)] w fun e r=>∃t tr mp q,e= .returned (.tuple #[.pointer (some ⟨t,0,none⟩),.int .i64 0])/\mp.pg=pg/\mp.d=d/\yT r q v t tr mp (cK.start σ l p f) root es tb false root es tb/\Step S q w r/\w.heap.size<=t/\w.heap.size<=tr:=by
 refine(Ot v pg d σ l p f root S w h.obj h.nv h.pgr h.base.pd h.base.sd h.base.two h.base.map h.base.hi h.base.f0 h.base.f1 h.base.root).mono ?_
 rintro e z ⟨t,tr,mp,s,rfl,i,y,o,k,n,a,j,m,c,b⟩
 have g:=(aj.1 h.obj).1
 exact⟨t,tr,mp,s,rfl,i,y,⟨by rw[i];exact(a.1.block v g h.nv).trans h.obj,fun e=>(a.2 v e).elim h.nv (fun x=>absurd g (aX.2 x)),⟨o,k,n,j,m⟩,h.live,⟨h.vi,h.base,h.live⟩,fun _=>⟨rfl,rfl⟩⟩,a,c,b⟩
theorem Lm.done (h:Lm w S v pg d σ l p f root es tb)(b:(l.last:Int)<=1000000000000):
  Calls Tryz.prog 45 #[.pointer (some ⟨v,0,none⟩)] w fun e a=>e= .returned (.int .i64 ((l.last:Int) - 1))/\a=w:=Wy v pg d σ l p _ S w h.obj h.pgr b
end
section
variable {w:World} {S:Nat->Prop} {v t tr:Nat} {mp:VS} {σ:cK} {root:Int} {es:List mH} {tb:List Int} {ch:Bool} {root0:Nat} {es0:List mH} {tb0:List Int}
theorem yT.spoilt (h:yT w S v t tr mp σ root es tb ch root0 es0 tb0){e:World}(k:zS t tr mp S σ ch w e):
  ∃c d,Yh e d v t tr mp c ch root0 es0 tb0/\c.H=σ.H/\kH S d t tr w e:=by
 obtain⟨c,d,j,i,l,f,m,g⟩:=k
 obtain⟨a,b⟩:=yT.EB h.obj h.nv h.tx.tx h.tx.tree g
 refine⟨c,d,⟨a,b,⟨j,i,l⟩,?_⟩,f,g⟩
 have:=h.bas
 obtain⟨x,y,z⟩:=this
 rw[<-f] at x y z
 exact⟨x,y,z⟩
theorem yT.moved (h:yT w S v t tr mp σ root es tb ch root0 es0 tb0){j:World}{c:cK}{i:Nat->Prop}{d:Int}{e:List mH}{g:List Int}{f:Bool}(m:Fg j i t tr mp c d 0 f 0)(o:Live c d e g)(k:c.H=σ.H)(n:kH S i t tr w j)(l:f=false->c=cK.start c.H.dk c.H.lg c.H.pg c.H.old/\e=es0):yT j i v t tr mp c d e g f root0 es0 tb0:=by
 obtain⟨a,b⟩:=yT.EB h.obj h.nv h.tx.tx h.tx.tree n
 refine⟨a,b,m,o,?_,l⟩
 obtain⟨x,y,z⟩:=h.bas
 rw[<-k] at x y z
 exact⟨x,y,z⟩
theorem yT.get (h:yT w S v t tr mp σ root es tb ch root0 es0 tb0)(b:ByteArray)(g:es.length<=4090)(f:1<=b.size/\b.size<=128):
  Calls Tryz.prog 215 #[.pointer (some ⟨t,0,none⟩),.string b] w fun e c=>e= .returned (.tuple #[.string ((dK (gV es) b).getD ByteArray.empty),.bool (dK (gV es) b).isSome,.int .i64 0])/\yT c S v t tr mp σ root es tb ch root0 es0 tb0/\Below w.heap.size w c:=by
 obtain⟨a,o,r,hA⟩:=QD es b
 refine(zl t tr mp root ch σ S w es a o r tb b h.tx h.live hA g f).mono ?_
 rintro e c ⟨rfl,d⟩
 exact⟨rfl,h.below d,d⟩
end
theorem yS.O1 {σ:cK}{root:Int}{c:List Pr}{b:List Int}(h:yS σ root c b)(d:σ.most<=4096):∃n:Nat,root=n/\n<=4096:=by
 rcases h with ⟨rfl,_,_⟩|⟨_,f,a,_⟩
 ·exact⟨0,rfl,aR _⟩
 ·obtain⟨n,e,a,_⟩:=cK.lH a.has
  exact⟨n,e,by omega⟩
theorem P5 {es l o r:List mH}{a v:ByteArray}(hA:yQ es a l o r)(h:dK (gV es) a=some v):jh (gV es) a v=gV es:=by
 rw[hA.lv] at h
 rcases hA.one with rfl|⟨e,rfl,c⟩
 ·cases h
 ·have b:e.v=v:=by simpa using h
  rw[hA.iv e.s v e.b,hA.eq,mh,mh,mh,bA]
  congr 1
  simp[gV,c,b]
theorem ByteArray.bne {a b:ByteArray}(h:a≠b):(a.toList==b.toList)=false:=by
 rw[fV]
 intro e
 exact h (Q7 (Ec.1 (by rw[toList_eq,toList_eq] at e;exact e)))
def iE (kv:List Pr):Nat:=(kv.map fun p=>3+p.1.size+p.2.size).sum
theorem ValAt.le {σ:cK}{s v:ByteArray}{b:List Int}(h:ValAt σ s v b):s.size<=1+v.size:=by
 rcases h with ⟨rfl,_,_⟩|⟨a,c,rfl,⟨_,d⟩,_⟩
 ·show (0::v.data.toList).toArray.size<=1+v.data.size;simp;omega
 ·show [1,UInt8.ofNat a,UInt8.ofNat (a/256)].toArray.size<=_;simp;omega
theorem BO {σ:cK}:∀{es:List mH},(∀e∈es,ValAt σ e.s e.v e.b)->fM (iw es)<=iE (gV es)
 |[],_=>aC _
 |e::es,h=>by
  have c:=(h e (aY ..)).le
  have d:=BO (es:=es) fun x a=>h x (bn _ a)
  have b:fM (iw (e::es))=2+e.k.size+e.s.size+fM (iw es):=oW _ _
  have f:iE (gV (e::es))=3+e.k.size+e.v.size+iE (gV es):=by simp[iE,gV]
  omega
theorem yQ.Yt {σ:cK}{root:Int}{es l o r:List mH}{tb:List Int}{b a:ByteArray}(hA:yQ es b l o r)(d:Live σ root es tb):fM (jh (iw es) b (strOf (0::a.data.toList)))<=iE (jh (gV es) b a):=by
 have k:=BO (σ:=σ) (es:=l) fun e c=>d.val e (by rw[hA.eq];simp[c])
 have j:=BO (σ:=σ) (es:=r) fun e c=>d.val e (by rw[hA.eq];simp[c])
 rw[hA.iv (strOf (0::a.data.toList)) a [],hA.is (strOf (0::a.data.toList)) a []]
 have f:fM (iw (l++⟨b,strOf (0::a.data.toList),a,[]⟩::r))=fM (iw l)+(2+b.size+(strOf (0::a.data.toList)).size+fM (iw r)):=by
  rw[rF,rM];exact congrArg _ (oW _ _)
 have g:iE (gV (l++⟨b,strOf (0::a.data.toList),a,[]⟩::r))=iE (gV l)+(3+b.size+a.size+iE (gV r)):=by simp[iE,gV]
 have i:(strOf (0::a.data.toList)).size=a.size+1:=by show (0::a.data.toList).toArray.size=a.data.size+1;simp
 omega
section
variable {w:World} {S:Nat->Prop} {v t tr:Nat} {mp:VS} {σ:cK} {root:Int} {es:List mH} {tb:List Int} {ch:Bool} {root0:Nat} {es0:List mH} {tb0:List Int}
def LD (w:World)(S:Nat->Prop)(v t tr:Nat)(mp:VS)(σ:cK)(es:List mH)(tb:List Int)(ch':Bool)(root0:Nat)(es0:List mH)(tb0:List Int)(c:Nat)(qs:List Pr)(w':World):Prop:=
 ∃σ' S' root' es' tb',yT w' S' v t tr mp σ' root' es' tb' ch' root0 es0 tb0/\gV es'=qs/\σ'.H=σ.H/\σ'.most=σ.most/\kH S S' t tr w w'/\Ym σ σ' tb c/\uG σ σ' (tb++dS es) (tb'++dS es')
def TY (w:World)(S:Nat->Prop)(v t tr:Nat)(mp:VS)(σ:cK)(ch:Bool)(root0:Nat)(es0:List mH)(tb0:List Int)(w':World):Prop:=
 ∃σ' S',Yh w' S' v t tr mp σ' ch root0 es0 tb0/\σ'.H=σ.H/\kH S S' t tr w w'
theorem yT.put (h:yT w S v t tr mp σ root es tb ch root0 es0 tb0)(c b:ByteArray)(C:es.length<=4090)(B:1<=c.size/\c.size<=128)(N:b.size<=63)(D:es.length<=999/\2+iE (jh (gV es) c b)<=512):
  Calls Tryz.prog 411 #[.pointer (some ⟨t,0,none⟩),.string c,.string b] w fun e f=>
   (e= .returned (.int .i64 0)/\LD w S v t tr mp σ es tb (ch|| !decide (dK (gV es) c=some b)) root0 es0 tb0 (2*(es.length+1)+kW b) (jh (gV es) c b) f)\/
   (e= .returned (.int .i64 12)/\σ.most+nh σ tb<σ.sz+2*(es.length+1)+kW b/\TY w S v t tr mp σ ch root0 es0 tb0 f):=by
 obtain⟨a,o,r,hA⟩:=QD es c
 by_cases j:dK (gV es) c=some b
 ·refine(LV t tr mp root ch σ S w es a o r tb c b h.tx h.live hA C B (by omega) j).mono ?_
  rintro e f ⟨rfl,y⟩
  refine .inl ⟨rfl,σ,S,root,es,tb,?_,(P5 hA j).symm,rfl,rfl,kH.of (Step.of_below y),fun _ _ t=>t,uG.refl (fun x m=>(h.live.all x m).1)⟩
  have:(ch|| !decide (dK (gV es) c=some b))=ch:=by simp[j]
  rw[this]
  exact h.below y
 ·have M:(ch|| !decide (dK (gV es) c=some b))=true:=by simp[j]
  rw[M]
  have q:∀(d:Bool) (i:ByteArray),(dK (gV es) c).isSome=d/\(dK (gV es) c).getD ByteArray.empty=i->d=true->(i.toList==b.toList)=false:=by
   rintro d i ⟨H,z⟩ J
   refine ByteArray.bne fun e=>j ?_
   subst J
   obtain⟨x,m⟩:=Option.isSome_iff_exists.1 H
   rw[m] at z ⊢
   rw[<-e,<-z];rfl
  have k:∀(e:Ending) (f:World),((e= .returned (.int .i64 0)/\Lp t tr mp S σ es a r tb c b w f)\/(e= .returned (.int .i64 12)/\σ.most+nh σ tb<σ.sz+2*(es.length+1)+kW b/\zS t tr mp S σ ch w f))->
    ((e= .returned (.int .i64 0)/\LD w S v t tr mp σ es tb true root0 es0 tb0 (2*(es.length+1)+kW b) (jh (gV es) c b) f)\/(e= .returned (.int .i64 12)/\σ.most+nh σ tb<σ.sz+2*(es.length+1)+kW b/\TY w S v t tr mp σ ch root0 es0 tb0 f)):=by
   rintro e f (⟨rfl,p,E,g,n,s,G,F,P,l,A,O⟩|⟨rfl,K,I⟩)
   ·exact .inl ⟨rfl,p,E,g,_,n,h.moved F P l.H A (fun e=>by cases e),(hA.iv s b G).symm,l.H,l.most,A,O,l⟩
   ·exact .inr ⟨rfl,K,h.spoilt I⟩
  exact(Ja t tr mp root ch σ S w es a o r tb c b h.tx h.live hA C B N _ _ ⟨rfl,rfl⟩ (q _ _ ⟨rfl,rfl⟩) ⟨D.1,aI (Nat.add_le_add_left (hA.Yt h.live) 2) D.2⟩).mono k
theorem yT.scan (h:yT w S v t tr mp σ root es tb ch root0 es0 tb0)(b:ByteArray)(a:Int)(d:es.length<=4090):
  Calls Tryz.prog 238 #[.pointer (some ⟨t,0,none⟩),.string b,.int .i64 a] w fun e c=>∃v,e= .returned (.tuple #[v,.int .i64 0])/\aV c S w.heap.size 188 2 v (tZ (gV es) b a).length (dG (tZ (gV es) b a))/\Below w.heap.size w c:=
 Wt t tr mp root ch σ S w es tb b a h.tx h.live d
def NF (w:World)(S:Nat->Prop)(v t tr:Nat)(mp:VS)(σ:cK)(es:List mH)(tb:List Int)(ch:Bool)(root0:Nat)(es0:List mH)(tb0:List Int)(e:Ending)(w':World):Prop:=
 ∃S',kH S S' t tr w w'/\
  ((ch=false/\es=es0/\e= .returned (.tuple #[.int .i64 ((σ.H.lg.last:Int) - 1),.int .i64 0])/\Lm w' S' v mp.pg mp.d σ.H.dk σ.H.lg σ.H.pg σ.H.old root0 es0 tb0)\/
   (ch=true/\(∃r,(σ.sealed r).im.ks≠[]/\σ.H.pg.ru (σ.sealed r).im/\(σ.sealed r).im.Ok (σ.H.pg.blocks σ.H.dk)/\(σ.sealed r).im.ks.length+countB σ.H.old σ.most<=σ.tk+2)/\e= .returned (.tuple #[.int .i64 0,.int .i64 13])/\Lm w' S' v mp.pg mp.d σ.H.dk σ.H.lg σ.H.pg σ.H.old root0 es0 tb0)\/
   (ch=true/\e= .returned (.tuple #[.int .i64 (σ.H.lg.last:Int),.int .i64 0])/\∃(σ':Dk) (l':Lg) (p':Pg) (root':Nat) (im:Im),Lm w' S' v mp.pg mp.d σ' l' p' σ.now root' es tb/\QW σ.H.dk σ.H.lg σ.H.pg im σ' l' p'/\p'.blocks σ'=σ.most)\/
   (ch=true/\e= .returned (.tuple #[.int .i64 0,.int .i64 10])/\∃(σ':Dk) (l':Lg) (p':Pg),LC σ.H.dk σ.H.lg σ.H.pg σ' l' p'/\iF w' S' mp.pg mp.d σ' l' p' (.pointer none)/\w'.heap[v]? =some (.cells #[.pointer (some ⟨mp.pg,0,none⟩)] 130 (0,0))/\¬S' v))
theorem yT.SQ (h:yT w S v t tr mp σ root es tb ch root0 es0 tb0)(Z:σ.H.lg.last<100000000000):
  Calls Tryz.prog 62 #[.pointer (some ⟨t,0,none⟩)] w fun e f=>NF w S v t tr mp σ es tb ch root0 es0 tb0 e f/\f.heap[t]? =some (.cells (cZ mp none ch 0) 181 (0,0)):=by
 have s:=h.bas.vi
 have p:=h.tx.inv
 obtain⟨pV,p9,B⟩:σ.H.pg.Ok σ.H.dk σ.H.lg/\σ.H.dk.Ok/\σ.H.lg.Ok:=by obtain⟨Sp,T,q,_⟩:=p;exact q.pg.ok
 have n:σ.H.dk.waits.length<=90000:=by have a:=s.wt;have b:=B.us;have c:=B.hi;omega
 have d:∀{i:Nat->Prop} {f:World},Keep (fun g=>S g\/g=t) w f->(∀g,i g->S g\/w.heap.size<=g)->kH S i t tr w f:=fun a b=>⟨a.mono (fun g _ e=>e.imp id .inl),b⟩
 have m:∀{i:Nat->Prop} {f:World},kH S i t tr w f->f.heap[v]? =some (.cells #[.pointer (some ⟨mp.pg,0,none⟩)] 130 (0,0))/\¬i v:=fun a=>yT.EB h.obj h.nv h.tx.tx h.tx.tree a
 cases ch with
 |false=>
  obtain⟨Y,R⟩:=h.ch rfl
  have o:σ.im=Im.none:=by rw[Y];rfl
  have N:σ.H.pg.commit σ.H.dk σ.H.lg σ.im=(σ.H.dk,σ.H.lg,σ.H.pg,σ.H.lg.last,0):=by
   rcases Ht s (im:=σ.im) (by obtain⟨Sp,T,q,_⟩:=p;obtain⟨_,J⟩:=q.tx;have hm:=q.ok.most;rw[<-hm];exact J.ok) (by omega) with ⟨_,q⟩|⟨q,_⟩|⟨q,_⟩|⟨q,_⟩
   ·exact q
   ·rw[o] at q;exact absurd rfl q
   ·rw[o] at q;exact absurd rfl q
   ·rw[o] at q;exact absurd rfl q
  refine(Ei t tr mp root σ S w h.tx s.ld n (by omega) (by rw[N];show σ.H.lg.last<=_;omega)).mono ?_
  rintro e f ⟨rfl,i,k,x,_,H,G⟩
  rw[N] at k ⊢
  have A:=d H G
  obtain⟨a,b⟩:=m A
  exact⟨⟨i,A,.inl ⟨rfl,R,rfl,a,b,k,s,h.bas.base,h.bas.live⟩⟩,x⟩
 |true=>
  obtain⟨r,M,F⟩:=h.live.tree.O1 p.ok.cap
  obtain⟨K,W,s3⟩:=Ms p r
  have C:=h.tx
  rw[M] at C
  have l:=Ht s K (by omega)
  have I:(σ.H.pg.commit σ.H.dk σ.H.lg (σ.sealed r).im).2.2.2.1<=1000000000000:=by
   rcases l with ⟨_,q⟩|⟨_,_,q⟩|⟨_,_,_,_,q,_⟩|⟨_,_,_,_,q,_⟩
   ·rw[q];show σ.H.lg.last<=_;omega
   ·rw[q];exact aR _
   ·rw[q];show σ.H.lg.last+1<=_;omega
   ·rw[q];exact aR _
  refine(Eh t tr mp r σ S w C F s.ld n (by omega) I).mono ?_
  rintro e f ⟨rfl,i,k,x,_,H,G⟩
  have A:=d H G
  obtain⟨a,b⟩:=m A
  refine⟨⟨i,A,.inr ?_⟩,x⟩
  rcases l with ⟨q,_⟩|⟨Q,J,q⟩|⟨_,j,E,D,q,y⟩|⟨_,j,E,D,q,O⟩
  ·exact absurd q s3
  ·rw[q] at k ⊢
   exact .inl ⟨rfl,⟨r,Q,J,K,W⟩,rfl,a,b,k,s,h.bas.base,h.bas.live⟩
  ·rw[q] at k ⊢
   have z:D.blocks j=σ.most:=by rw[p.ok.most];unfold Pg.blocks;rw[y.skip,y.n]
   obtain⟨V,X⟩:=Gs p.ok (by have:=h.live;rwa [M] at this) (by omega) z y.vj (fun b P=>y.look b (by rw[<-p.ok.most];exact P))
   refine .inr (.inl ⟨rfl,?_,j,E,D,r,_,⟨a,b,k,y.vj,V,X⟩,y,z⟩)
   show Ending.returned (.tuple #[.int .i64 (((σ.H.lg.last+1:Nat):Int) - 1),.int .i64 0])=_
   rw[show ((σ.H.lg.last+1:Nat):Int) - 1=σ.H.lg.last by omega]
  ·rw[q] at k ⊢
   exact .inr (.inr ⟨rfl,rfl,j,E,D,O,k,a,b⟩)
end
def qD (kv:List Pr):Nat:=(kv.map fun p=>kW p.2).sum
theorem ValAt.cost {σ:cK}{s v:ByteArray}{b:List Int}(h:ValAt σ s v b):b.length=kW v:=by
 rcases h with ⟨_,c,rfl⟩|⟨f,g,_,⟨_,c⟩,d,rfl⟩
 ·unfold kW;rw[if_pos c];rfl
 ·unfold kW
  rw[if_neg (by omega)]
  have a:=d.hd.len
  have e:v.data.toList.length=v.size:=by show v.data.toList.length=v.data.size;simp
  rw[e] at a
  simp[lV,a];omega
theorem DZ {σ:cK}:∀{es:List mH},(∀e∈es,ValAt σ e.s e.v e.b)->(dS es).length=qD (gV es)
 |[],_=>rfl
 |e::es,h=>by
  have b:=(h e (aY ..)).cost
  have c:=DZ (es:=es) fun x a=>h x (bn _ a)
  rw[D7,aB,b,c];rfl
def qK (w0:gW)(v N R dn u:Nat)(kv:List Pr)(w:World):Prop:=
 ∃S pg d σ l p f root es tb,Lm w S v pg d σ l p f root es tb/\VB w0 w S/\(¬w0.F v/\w0.D d σ l p)/\p.blocks σ=N/\p.ring=R/\l.last=dn+1/\gV es=kv/\(tb++dS es).length=u
def sJ (w0:gW)(v t N R dn u:Nat)(kv0 kv:List Pr)(ch:Bool)(P:Nat)(w:World):Prop:=
 ∃S tr mp σ root es tb root0 es0 tb0,yT w S v t tr mp σ root es tb ch root0 es0 tb0/\VB w0 w S/\(¬w0.F v/\w0.D mp.d σ.H.dk σ.H.lg σ.H.pg)/\¬w0.F t/\¬w0.F tr/\σ.most=N/\σ.H.pg.ring=R/\σ.H.lg.last=dn+1/\gV es=kv/\gV es0=kv0/\(tb0++dS es0).length=u/\σ.tk<=P
def Yz (w0:gW)(v t N R dn u:Nat)(kv0:List Pr)(w:World):Prop:=
 ∃S tr mp σ ch root0 es0 tb0,Yh w S v t tr mp σ ch root0 es0 tb0/\VB w0 w S/\(¬w0.F v/\w0.D mp.d σ.H.dk σ.H.lg σ.H.pg)/\¬w0.F t/\¬w0.F tr/\σ.H.pg.blocks σ.H.dk=N/\σ.H.pg.ring=R/\σ.H.lg.last=dn+1/\gV es0=kv0/\(tb0++dS es0).length=u
def V7 (t:Nat)(w:World):Prop:=∃mp ch er,w.heap[t]? =some (.cells (cZ mp none ch er) 181 (0,0))
section
variable {w0:gW} {w:World} {v t N R dn u P:Nat} {kv kv0:List Pr} {ch:Bool}
theorem sJ.below {w':World}(h:sJ w0 v t N R dn u kv0 kv ch P w)(a:Below w.heap.size w w'):sJ w0 v t N R dn u kv0 kv ch P w':=by
 obtain⟨S,tr,mp,σ,root,es,tb,root0,es0,tb0,hA,hB,b⟩:=h
 exact⟨S,tr,mp,σ,root,es,tb,root0,es0,tb0,hA.below a,hB.below a,b⟩
theorem qK.make (w0:gW)(w:World)(n:Nat)(a:Nat)(d:Nat)(S:Nat->Prop)(i:VB w0 w S)(h:qL w S d (Dk.new n))(s:6<=a)(o:a+8<=n)(x:∀σ l p,Tk (Dk.new n) a σ l p->w0.D d σ l p:=by exact fun _ _ _ h=>h.vi.free.2):
  Calls Tryz.prog 25 #[.pointer (some ⟨d,0,none⟩),.int .i64 a] w fun e j=>∃v,e= .returned (.tuple #[.pointer (some ⟨v,0,none⟩),.int .i64 0])/\qK w0 v (n - a) (a - 1) 0 0 [] j:=by
 refine(Wv d (Dk.new n) S a w h ⟨rfl,rfl⟩ s o (aR _)).mono ?_
 rintro e j ⟨v,pg,g,k,y,m,rfl,c,q,f,t,b,r⟩
 refine⟨v,rfl,m,pg,d,g,k,y,two,0,[],[],⟨c,q,t,b.vi.vj,b.base,Tk.live⟩,i.step r,⟨i.new f,x _ _ _ b⟩,?_,b.ring,b.last,rfl,rfl⟩
 unfold Pg.blocks
 rw[b.n,b.skip];rfl
theorem qK.begin (h:qK w0 v N R dn u kv w):
  Calls Tryz.prog 77 #[.pointer (some ⟨v,0,none⟩)] w fun e j=>∃t,e= .returned (.tuple #[.pointer (some ⟨t,0,none⟩),.int .i64 0])/\sJ w0 v t N R dn u kv kv false (2+u) j:=by
 obtain⟨S,pg,d,σ,l,p,f,root,es,tb,hA,hB,i,o,y,r,m,k⟩:=h
 refine hA.begin.mono ?_
 rintro e j ⟨t,tr,mp,n,rfl,_,a,s,q,g,c⟩
 have b:=cK.Ok.start hA.pgr.ok.1 hA.pgr.ok.2.1 hA.base.pd hA.base.sd hA.base.two hA.base.hi hA.base.f0 hA.base.f1
 have x:countB f (p.blocks σ)=2+(tb++dS es).length:=hA.live.own.count b hA.live.all
 exact⟨t,rfl,n,tr,mp,_,root,es,tb,root,es,tb,s,hB.step q,⟨i.1,by rw[a];exact i.2⟩,hB.new g,hB.new c,o,y,r,m,m,k,by rw[<-k,<-x];exact aC _⟩
theorem qK.done (h:qK w0 v N R dn u kv w)(j:dn<=100000000):
  Calls Tryz.prog 45 #[.pointer (some ⟨v,0,none⟩)] w fun e a=>e= .returned (.int .i64 dn)/\a=w:=by
 obtain⟨S,pg,d,σ,l,p,f,root,es,tb,hA,hB,c,b,m,g,k,i⟩:=h
 refine(hA.done (by omega)).mono ?_
 rintro e a ⟨rfl,rfl⟩
 exact⟨by rw[show (l.last:Int) - 1=dn by omega],rfl⟩
theorem Lm.nY {M S:Nat->Prop}{b:World}{pg d:Nat}{σ:Dk}{l:Lg}{p:Pg}{f:Nat->Bool}{root:Nat}{es:List mH}{tb:List Int}(h:Lm w S v pg d σ l p f root es tb)(c:Keep M w b)(a:∀g,S g\/g=v->¬M g):Lm b S v pg d σ l p f root es tb:=
 ⟨(c.block v (aj.1 h.obj).1 (a v (.inr rfl))).trans h.obj,h.nv,h.pgr.keep c (fun g e=>a g (.inl e)),h.vi,h.base,h.live⟩
theorem yT.nY {M S:Nat->Prop}{b:World}{tr:Nat}{mp:VS}{σ:cK}{root:Int}{es:List mH}{tb:List Int}{root0:Nat}{es0:List mH}{tb0:List Int}(h:yT w S v t tr mp σ root es tb ch root0 es0 tb0)(c:Keep M w b)(a:∀g,S g\/g=v\/g=t\/g=tr->¬M g):yT b S v t tr mp σ root es tb ch root0 es0 tb0:=
 ⟨(c.block v (aj.1 h.obj).1 (a v (.inr (.inl rfl)))).trans h.obj,h.nv,h.tx.keep c (fun g d=>a g (d.imp id .inr)),h.live,h.bas,h.ch⟩
def gW.next (b:gW)(w w':World):gW:=⟨fun g=>b.F g\/(w.heap.size<=g/\g<w'.heap.size),w',b.D⟩
theorem VB.next {S M:Nat->Prop}{b:World}(h:VB w0 w S)(c:Keep M w b)(d:∀g,S g->g<w.heap.size):VB (w0.next w b) b S:=
 ⟨rfl,rfl,rfl,aC _,fun _ _=>rfl,fun g a=>a.elim (fun e=>aA (h.fs g e) (aI h.size c.size)) (fun e=>e.2),fun g a e=>e.elim (h.lo g a) (fun e=>absurd (d g a) (aX.2 e.1))⟩
theorem gW.no {a:World}{g:Nat}(h:¬w0.F g)(b:g<w.heap.size):¬(w0.next w a).F g:=fun e=>e.elim h (fun e=>absurd b (aX.2 e.1))
theorem qK.next {M:Nat->Prop}{b:World}(h:qK w0 v N R dn u kv w)(i:Keep M w b)(c:∀g,M g->w0.F g):qK (w0.next w b) v N R dn u kv b:=by
 obtain⟨S,pg,d,σ,l,p,f,root,es,tb,hA,hB,a,j⟩:=h
 have m:=(aj.1 hA.obj).1
 exact⟨S,pg,d,σ,l,p,f,root,es,tb,hA.nY i (fun g k e=>k.elim (fun x=>hB.lo g x (c g e)) (fun x=>a.1 (x▸c g e))),hB.next i hA.pgr.sub,⟨gW.no a.1 m,a.2⟩,j⟩
theorem sJ.next {M:Nat->Prop}{c:World}(h:sJ w0 v t N R dn u kv0 kv ch P w)(j:Keep M w c)(a:∀g,M g->w0.F g):sJ (w0.next w c) v t N R dn u kv0 kv ch P c:=by
 obtain⟨S,tr,mp,σ,root,es,tb,root0,es0,tb0,hA,hB,b,i,k,l⟩:=h
 have n:=(aj.1 hA.obj).1
 have d:=(aj.1 hA.tx.tx).1
 have f:=(aj.1 hA.tx.tree).1
 refine⟨S,tr,mp,σ,root,es,tb,root0,es0,tb0,hA.nY j (fun g m e=> ?_),hB.next j hA.tx.inv.sub,⟨gW.no b.1 n,b.2⟩,gW.no i d,gW.no k f,l⟩
 rcases m with x|x|x|x
 ·exact hB.lo g x (a g e)
 ·exact b.1 (x▸a g e)
 ·exact i (x▸a g e)
 ·exact k (x▸a g e)
theorem sJ.block (h:sJ w0 v t N R dn u kv0 kv ch P w){g:Nat}(a:w0.F g):w.heap[g]? =w0.w.heap[g]? :=by obtain⟨_,_,_,_,_,_,_,_,_,_,_,h,_⟩:=h;exact h.block g a
theorem sJ.sizes {S:Nat->Prop}{tr:Nat}{mp:VS}{σ:cK}{root:Int}{es:List mH}{tb:List Int}{root0:Nat}{es0:List mH}{tb0:List Int}(h:yT w S v t tr mp σ root es tb ch root0 es0 tb0):
  σ.sz<=2+(tb0++dS es0).length+nh σ tb+qD (gV es)/\countB σ.H.old σ.most=2+(tb0++dS es0).length:=by
 have e:=h.tx.inv
 have j:=h.live.own.size
 have i:=e.ok.most
 obtain⟨a,c,f⟩:σ.H.pg.Ok σ.H.dk σ.H.lg/\σ.H.dk.Ok/\σ.H.lg.Ok:=by obtain⟨k,T,q,_⟩:=e;exact q.pg.ok
 have hB:=h.bas.base
 have b:=cK.Ok.start a c hB.pd hB.sd hB.two hB.hi hB.f0 hB.f1
 have d:countB σ.H.old (σ.H.pg.blocks σ.H.dk)=2+(tb0++dS es0).length:=h.bas.live.own.count b h.bas.live.all
 rw[<-i] at d
 rw[zw,d] at j
 have g:=Gg σ (dS es)
 rw[DZ h.live.val] at g
 exact⟨by omega,d⟩
theorem K8 (kv:List Pr):3*kv.length<=iE kv:=by
 induction kv with
 |nil=>exact aR _
 |cons p kv ih=>simp only[iE,eP,kG,aZ] at*;omega
theorem Sg (kv:List Pr)(b a:ByteArray):3*kv.length<=iE (jh kv b a):=by
 refine aI (Nat.mul_le_mul_left 3 ?_) (K8 _)
 unfold jh
 split
 ·simp
 ·simp;omega
theorem sJ.put (h:sJ w0 v t N R dn u kv0 kv ch P w)(b a:ByteArray)(M:kv.length<=4090)(B:1<=b.size/\b.size<=128)(I:a.size<=63)(H:2+iE (jh kv b a)<=512)(K:2+u+qD kv+2*(kv.length+1)+kW a<=P):
  Calls Tryz.prog 411 #[.pointer (some ⟨t,0,none⟩),.string b,.string a] w fun e q=>
   (e= .returned (.int .i64 0)/\sJ w0 v t N R dn u kv0 (jh kv b a) (ch|| !decide (dK kv b=some a)) P q)\/
   (e= .returned (.int .i64 12)/\N<2+u+qD kv+2*(kv.length+1)+kW a/\Yz w0 v t N R dn u kv0 q):=by
 obtain⟨S,tr,mp,σ,root,es,tb,root0,es0,tb0,hA,hB,l,k,m,y,A,z,g,x,s,p⟩:=h
 obtain⟨G,O⟩:=sJ.sizes hA
 have D:es.length=kv.length:=by rw[<-g,kV]
 rw[s,g] at G
 have F:=hA.tx.inv.ok.most
 refine(hA.put b a (by omega) B I ⟨by have:=K8 kv;have:=Sg kv b a;omega,by rw[g];exact H⟩).mono ?_
 rintro e q (⟨rfl,d,n,c,r,o,j,f,i,C,J,E,T⟩|⟨rfl,Q,d,n,j,f,i⟩)
 ·refine .inl ⟨rfl,n,tr,mp,d,c,r,o,root0,es0,tb0,?_,hB.Ox k m J,⟨l.1,by rw[i];exact l.2⟩,k,m,by rw[C,y],by rw[i,A],by rw[i,z],by rw[f,g],x,s,E P (by omega) p⟩
  rw[g] at j;exact j
 ·exact .inr ⟨rfl,by omega,n,tr,mp,d,ch,root0,es0,tb0,j,hB.Ox k m i,⟨l.1,by rw[f];exact l.2⟩,k,m,by rw[f,<-F,y],by rw[f,A],by rw[f,z],x,s⟩
def KY (k:Nat):Nat:=(16+520*k+511)/512
def XC (kv:List Pr)(σ:Dk)(l:Lg)(p:Pg)(σ':Dk)(l':Lg)(p':Pg):Prop:=∃im f root es tb,QW σ l p im σ' l' p'/\gV es=kv/\yP σ' l' p' f root/\Live (cK.start σ' l' p' f) root es tb
def Yy (b:gW)(v d:Nat)(σ:Dk)(l:Lg)(p:Pg)(w:World):Prop:=∃S pg op,w.heap[v]? =some (.cells #[.pointer (some ⟨pg,0,none⟩)] 130 (0,0))/\¬S v/\iF w S pg d σ l p op/\VB b w S/\¬b.F v
def XB (b:gW)(v N R dn:Nat)(w:World):Prop:=∃d σ l p σ' l' p',b.D d σ l p/\l.last=dn+1/\p.blocks σ=N/\p.ring=R/\LC σ l p σ' l' p'/\Yy b v d σ' l' p' w
theorem sJ.Qr (h:sJ w0 v t N R dn u kv0 kv ch P w)(T:dn<=100000000)(E:Nat->Dk->Lg->Pg->Prop)(K:∀d σ l p a i m,w0.D d σ l p->l.last=dn+1->p.blocks σ=N->XC kv σ l p a i m->E d a i m):
  Calls Tryz.prog 62 #[.pointer (some ⟨t,0,none⟩)] w fun e k=>V7 t k/\(
   (ch=false/\kv=kv0/\e= .returned (.tuple #[.int .i64 dn,.int .i64 0])/\qK w0 v N R dn u kv0 k)\/
   (ch=true/\(R<KY (P - u)\/1024<P - u)/\e= .returned (.tuple #[.int .i64 0,.int .i64 13])/\qK w0 v N R dn u kv0 k)\/
   (ch=true/\e= .returned (.tuple #[.int .i64 ((dn+1:Nat):Int),.int .i64 0])/\∃J,qK (w0.to E) v N R (dn+1) J kv k)\/
   (ch=true/\e= .returned (.tuple #[.int .i64 0,.int .i64 10])/\XB w0 v N R dn k)):=by
 obtain⟨S,tr,mp,σ,root,es,tb,root0,es0,tb0,hA,hB,j,F,O,q,s,n,A,z,C,I⟩:=h
 have y:=hA.tx.inv.ok.most
 obtain⟨_,M⟩:=sJ.sizes hA
 refine(hA.SQ (by omega)).mono ?_
 rintro e k ⟨⟨x,H,(⟨rfl,f,rfl,b⟩|⟨rfl,⟨r,f,b,o,B⟩,rfl,Q⟩|⟨rfl,rfl,a,i,m,g,G,f,b,o⟩|⟨rfl,rfl,a,i,m,f,b,o,B⟩)⟩,D⟩
 all_goals have c:=hB.Ox F O H
 all_goals refine⟨⟨_,_,_,D⟩,?_⟩
 ·refine .inl ⟨rfl,by rw[<-A,<-z,f],by rw[show (σ.H.lg.last:Int) - 1=dn by omega],x,_,_,_,_,_,_,root0,es0,tb0,b,c,j,by rw[<-y,q],s,n,z,C⟩
 ·refine .inr (.inl ⟨rfl,?_,rfl,x,_,_,_,_,_,_,root0,es0,tb0,Q,c,j,by rw[<-y,q],s,n,z,C⟩)
  unfold Pg.ru at b
  rw[KX o,s] at b
  unfold KY
  rw[M,C] at B
  omega
 ·exact .inr (.inr (.inl ⟨rfl,by rw[n],_,x,_,_,a,i,m,_,g,es,tb,f,c.to,⟨j.1,K _ _ _ _ _ _ _ j.2 n (by rw[<-y,q]) ⟨G,_,_,_,_,b,A,f.base,f.live⟩⟩,by rw[o,q],by rw[b.ring,s],by rw[b.last,n],A,rfl⟩))
 ·exact .inr (.inr (.inr ⟨rfl,rfl,mp.d,_,_,_,a,i,m,j.2,n,by rw[<-y,q],s,f,x,mp.pg,_,o,B,b,c,j.1⟩))
theorem sJ.scan (h:sJ w0 v t N R dn u kv0 kv ch P w)(b:ByteArray)(a:Int)(n:kv.length<=4090):
  Calls Tryz.prog 238 #[.pointer (some ⟨t,0,none⟩),.string b,.int .i64 a] w fun e c=>∃x,e= .returned (.tuple #[x,.int .i64 0])/\aV c eG w.heap.size 188 2 x (tZ kv b a).length (dG (tZ kv b a))/\sJ w0 v t N R dn u kv0 kv ch P c/\Below w.heap.size w c:=by
 obtain⟨S,tr,mp,σ,root,es,tb,root0,es0,tb0,hA,hB,l,k,q,m,p,o,d,j⟩:=h
 refine(hA.scan b a (by rw[<-kV,d];exact n)).mono ?_
 rintro e c ⟨x,rfl,i,f⟩
 rw[d] at i
 exact⟨x,rfl,i.other (fun g _ e=>e.elim),⟨S,tr,mp,σ,root,es,tb,root0,es0,tb0,hA.below f,hB.below f,l,k,q,m,p,o,d,j⟩,f⟩
end
structure Kv (kv:List Pr)(n:Nat):Prop where
 rise:iK kv
 len:kv.length<=n
 val:∀p∈kv,p.2.size<=49152
def Vp (t:ByteArray):ByteArray:=⟨#[108]++t.data⟩
def jT.key (l:jT):ByteArray:=Vp l.token
def jT.pair (l:jT):Pr:=(l.key,strOf l.enc)
structure jT.Fit (l:jT):Prop where
 tok:l.token.size<=60
 segs:l.path.length<=12
 seg:∀s∈l.path,s.size<=64
 own:l.owner.size<=512
 till: -9223372036854775808<=l.till/\l.till<9223372036854775808
theorem Np (s:ByteArray):s.data.toList.length=s.size:=by show s.data.toList.length=s.data.size;simp
structure YD (ls:List jT):Prop where
 rise:iK (ls.map jT.pair)
 fit:∀l∈ls,l.Fit
 len:ls.length<=33
def X9 (ls:List jT)(l:jT):List jT:=ls.take (dI (ls.map jT.pair) l.key)++l::ls.drop (dI (ls.map jT.pair) l.key+(if qQ (ls.map jT.pair) l.key then 1 else 0))
def OW (s:ByteArray):Bool:=decide (0<s.size) && (!decide (s=⟨#[46]⟩) && (!decide (s=⟨#[46,46]⟩) && (decide (s.size<=64) && (Lib.validD s.data.toList && !Lib.containsAny s.data.toList [47,0]))))
def su (p:List ByteArray):Bool:=p.all OW && decide (p.length<=12)
def XP (c:UInt8):Bool:=decide (33<=c.toNat/\c.toNat<=126/\c.toNat≠60/\c.toNat≠62)
def jT.good (l:jT):Bool:=l.token.data.toList.all XP && (decide (0<l.token.size) && (decide (l.token.size<=60) && (su l.path && decide (l.owner.size<=512))))
def live (now:Int)(ls:List jT):List jT:=ls.filter fun l=>decide (now<l.till)
def Yg (ls:List jT)(l:jT)(now:Int):Int:=
 if l.good=false\/l.till<=now then 1
 else if (live now ls).any (fun x=>decide (x.token=l.token)) then 3
 else if (live now ls).any (fun x=>x.clash l) then 63
 else if 32<=(live now ls).length then 4
 else 0
def Yx (ls:List jT)(l:jT)(now:Int):List jT:=if Yg ls l now=0 then X9 (live now ls) l else ls
end Go.Proofs.YtpmbddooibgnaaaGreatDoor
namespace Go.Proofs.YtpmbddooibgnaaaGreatDoor
open Go.RowKit Go.Shelf
def kg (w:World):Prop:=Lib.Utf8Tabs (gP.g 3) (gP.g 4) w
theorem kg.below {w w':World}(h:kg w)(a:Below w.heap.size w w'):kg w':=Utf8Tabs_below h a
theorem Mq {s:ByteArray}:decide (0<s.size)= !s.toList.isEmpty:=by
 have b:=Np s
 rw[Lib.toList_data]
 cases h:s.data.toList with
 |nil=>
  rw[h,jL] at b
  rw[<-b];rfl
 |cons a l=>
  rw[h,aZ] at b
  rw[gq (by omega)];rfl
theorem FD (s:ByteArray)(w:World)(B:s.size<=9223372036854775807)(r:kg w):
  Calls Tryz.prog 324 #[.string s] w fun e k=>e= .returned (.bool (OW s))/\Below w.heap.size w k:=by
 have i:Calls Tryz.prog 249 #[.string s] w fun e k=>e= .returned (.bool (Lib.validD s.data.toList))/\Below w.heap.size w k:=Any.utf8_ValidString Eg s w B r
 have m:=ah i
 have v:=ah (fun (W:World) (h:s.size<=64)=>Qv s W h)
 have j:∀l:List UInt8,s.toList=l↔s=⟨l.toArray⟩:=fun l=>by
  rw[Lib.toList_data]
  constructor
  ·intro h;cases s;exact congrArg ByteArray.mk (Fv (by simpa using h))
  ·intro h;rw[h]
 have o:=j [46]
 have y:=j [46,46]
 unfold OW
 rw[Mq]
 obtain⟨V,t⟩:∃V,Lib.validD s.data.toList=V:=⟨_,rfl⟩
 obtain⟨C,hC⟩:∃C,Lib.containsAny s.data.toList [47,0]=C:=⟨_,rfl⟩
 rw[t] at m ⊢
 rw[hC] at v ⊢
 clear i t hC r j
 obtain⟨D1,d⟩:∃D,decide (s=⟨#[46]⟩)=D:=⟨_,rfl⟩
 obtain⟨q,c⟩:∃D,decide (s=⟨#[46,46]⟩)=D:=⟨_,rfl⟩
 rw[d,c]
 have f:(s.toList=[46])=(D1=true):=by rw[<-d,dU];exact propext o
 have g:(s.toList=[46,46])=(q=true):=by rw[<-c,dU];exact propext y
 clear d c o y
 obtain⟨E,A⟩:∃E,s.toList.isEmpty=E:=⟨_,rfl⟩
 rw[A]
 go_enter Tryz.func324,Tryz.ntmps324
 cases E with
 |true=>
  go_wp2
  go_ret
  exact⟨rfl,aJ _ _⟩
 |false=>
  cases D1 with
  |true=>
   have p:s.toList=[46]:=f▸rfl
   clear f g
   go_wp2
   go_ret
   exact⟨rfl,aJ _ _⟩
  |false=>
   have p:¬s.toList=[46]:=by rw[f];simp
   cases q with
   |true=>
    have x:s.toList=[46,46]:=g▸rfl
    clear f g
    go_wp2
    go_ret
    exact⟨rfl,aJ _ _⟩
   |false=>
    have x:¬s.toList=[46,46]:=by rw[g];simp
    clear f g
    by_cases b:s.size<=64
    ·have F:(s.size:Int)<=64:=by omega
     rw[gq b]
     cases V with
     |false=>
      go_wp2_with (first
       |(go_at_call 249;go_must (refine m.out.mono ?_;rintro e z ⟨rfl,a⟩)))
      go_ret
      exact⟨rfl,a⟩
     |true=>
      go_wp2_with (first
       |(go_at_call 249;go_must (refine m.out.mono ?_;rintro e z ⟨rfl,a⟩))
       |(go_at_call 250;go_must (refine(v.out _ b).mono ?_;rintro e G ⟨rfl,n⟩)))
      go_ret
      exact⟨by simp[p,x],a.trans (n.mono a.size)⟩
    ·have F:¬(s.size:Int)<=64:=by omega
     rw[bU b]
     go_wp2
     go_ret
     exact⟨rfl,aJ _ _⟩
theorem Ov (z:Value)(a:List ByteArray)(S:Nat->Prop)(w:World)(x:pK w S z a)(B:∀s∈a,s.size<=9223372036854775807)(D:kg w):
  Calls Tryz.prog 208 #[z] w fun e G=>e= .returned (.bool (su a))/\Below w.heap.size w G:=by
 obtain⟨X,V,rfl,Q,N,_,_⟩:=jP.form x
 have K:=ah x;have H:=ah B;have F:=ah D
 obtain⟨R,t⟩:∃R,Hid (su a=R):=⟨_,ah rfl⟩
 rw[t.out]
 clear x B D
 go_enter Tryz.func208,Tryz.ntmps208
 go_upto_region 2 with (fail)
 go_loopw [4,7] (fun _ i wr=>∃k:Nat,k<=a.length/\i= .int .i64 k/\(a.take k).all OW=true/\Below w.heap.size w wr) (fun _ i _=>a.length - (intOf i).toNat)
 case atStart=>exact⟨0,aR _,rfl,rfl,aJ _ _⟩
 case round=>
  obtain⟨k,W,rfl,b,c⟩:=hrel
  by_cases l:k<a.length
  ·have E:(k:Int)<(a.length:Int):=by omega
   obtain⟨O,T,rfl,A⟩:=jP.Cq (jP.below K.out c) rfl k (.string a[k]) (by rw[dL,bB l];rfl)
   have P:=aD wr _ A
   have n:a.take (k+1)=a.take k++[a[k]]:=aO l
   have m:=H.out a[k] (bJ l)
   have f:=bJ l
   obtain⟨q,v⟩:∃q,Hid (a[k]=q):=⟨_,ah rfl⟩
   rw[v.out] at A n m f
   have o:=FD q wr m (F.out.below c)
   obtain⟨C,hC⟩:∃C,Hid (OW q=C):=⟨_,ah rfl⟩
   rw[hC.out] at o
   have p:=ah o
   have d:=ah (au n (au b (au c f)))
   clear o n b c f m
   cases C with
   |false=>
    have r:R=false:=by
     rw[<-t.out]
     unfold su
     rw[Bool.and_eq_false_iff]
     left
     rw[List.all_eq_false]
     exact⟨q,d.out.2.2.2,by rw[hC.out];simp⟩
    go_wp2_with (first
     |(go_at_call 324;go_must (refine p.out.mono ?_;rintro e I ⟨rfl,g⟩)))
    go_ret
    exact⟨by simp[r],d.out.2.2.1.trans (g.mono d.out.2.2.1.size)⟩
   |true=>
    go_wp2_with (first
     |(go_at_call 324;go_must (refine p.out.mono ?_;rintro e I ⟨rfl,g⟩)))
    have y:=ah (d.out.2.2.1.trans (g.mono d.out.2.2.1.size))
    clear g
    go_roundw
    case rel=>
     refine⟨k+1,by omega,by go_num,?_,y.out⟩
     rw[d.out.1,List.all_append,d.out.2.1]
     simp[hC.out]
    case measure=>simp[intOf];omega
  ·obtain rfl:k=a.length:=by omega
   have M:¬(a.length:Int)<(a.length:Int):=by omega
   rw[bL] at b
   have d:=ah (au b c)
   clear b c
   by_cases j:a.length<=12
   ·have J:(a.length:Int)<=12:=by omega
    have r:R=true:=by rw[<-t.out];unfold su;rw[d.out.1,gq j];rfl
    clear j
    go_wp2_with (fail)
    go_ret
    exact⟨by simp[r],d.out.2⟩
   ·have J:¬(a.length:Int)<=12:=by omega
    have r:R=false:=by rw[<-t.out];unfold su;rw[d.out.1,bU j];rfl
    clear j
    go_wp2_with (fail)
    go_ret
    exact⟨by simp[r],d.out.2⟩
def jU:ByteArray:=⟨#[97]⟩
theorem UC (w:World):Calls Tryz.prog 165 #[.string pE] w fun e c=>e= .returned (.tuple #[.string pE,.bool true])/\c=w:=by
 have a:=ah (Gu pE ⟨#[104,116,116,112,58,47,47]⟩ w pE false (by kernel_rfl) (by kernel_rfl))
 go_enter Tryz.func165,Tryz.ntmps165
 go_wp2_with (first
  |(go_at_call 239;go_must (refine a.out.mono ?_;rintro e b ⟨rfl,d⟩;subst b)))
 go_ret2
 exact⟨rfl,rfl⟩
def XZ (c:UInt8):Bool:=decide (33<=c.toNat) && decide (c.toNat<=126) && decide (c.toNat≠63) && decide (c.toNat≠35)
theorem Uz (s:ByteArray)(w:World)(n:s.size<=1000000)(h:s.data.toList.all XZ=true):
  Calls Tryz.prog 166 #[.string s] w fun e l=>e= .returned (.bool true)/\l=w:=by
 have m:Hid (∀k (b:k<s.size),XZ (s[k]'b)=true):=ah (fun k b=>bytes_at h b)
 clear h
 go_enter Tryz.func166,Tryz.ntmps166
 go_wp2
 go_loopw [3,6] (fun _ i wr=>∃k:Nat,k<=s.size/\i= .int .i64 k/\wr=w) (fun _ i _=>s.size - (intOf i).toNat)
 case atStart=>exact⟨0,aR _,rfl,rfl⟩
 case round=>
  obtain⟨k,b,rfl,d⟩:=hrel
  subst d
  by_cases a:k<s.size
  ·have f:(k:Int)<(s.size:Int):=by omega
   have c:=m.out k a
   obtain⟨x,j⟩:∃x:UInt8,s[k]'a=x:=⟨_,rfl⟩
   rw[j] at c
   simp only[XZ,dA,dU] at c
   have p:¬((x.toNat:Int)<33):=by omega
   have g:¬((126:Int)<(x.toNat:Int)):=by omega
   have q:((x.toNat:Int)==63)=false:=by simp;omega
   have o:((x.toNat:Int)==35)=false:=by simp;omega
   clear c
   go_wp2_with fail
   go_roundw
   case rel=>exact⟨k+1,by omega,by go_num,by trivial⟩
   case measure=>simp[intOf];omega
  ·obtain rfl:k=s.size:=by omega
   have g:¬(s.size:Int)<(s.size:Int):=by omega
   go_wp2_with fail
   go_ret
   exact⟨rfl,rfl⟩
theorem Rk (w:World)(s:kg w):Calls Tryz.prog 168 #[.string jU] w fun e B=>e= .returned (.tuple #[.string jU,.bool true])/\Below w.heap.size w B:=by
 have f:=rQ.new w w.heap.size (aC _)
 have d:=aG w (.cells #[.pointer none,.slice none 0 0] 156)
 obtain⟨F,j⟩:∃x:World,Hid (w.alloc (.cells #[.pointer none,.slice none 0 0] 156)=x):=⟨_,ah rfl⟩
 rw[j.out] at d f
 obtain⟨l,k⟩:∃x:Nat,Hid (w.heap.size=x):=⟨_,ah rfl⟩
 have C:=ah s
 have q:=ah (au f d)
 clear s f d
 go_enter Tryz.func168,Tryz.ntmps168
 go_upto_region 2 with (fail)
 rw[j.out,k.out]
 go_wp2_with fail
 go_loopw [5,6] (fun i _ wr=>((i= .int .i64 0/\rQ wr w.heap.size l [])\/(i= .int .i64 1/\rQ wr w.heap.size l [97]))/\Below w.heap.size w wr) (fun i _ _=>1 - (intOf i).toNat)
 case atStart=>exact⟨.inl ⟨rfl,k.out▸q.out.1⟩,q.out.2⟩
 case round=>
  obtain⟨D,a⟩:=hrel
  rcases D with ⟨rfl,g⟩|⟨rfl,g⟩
  ·have o:=ah (SX w.heap.size l [] 97 wr g a.size (by simp) (by omega))
   have c:=ah a
   clear g a
   go_wp2_with (first
    |(go_at_call 248;go_must (refine o.out.mono ?_;rintro e E ⟨rfl,m,b⟩)))
   go_roundw
   case rel=>exact⟨.inr ⟨by go_num,m⟩,c.out.trans b⟩
   case measure=>simp[intOf]
  ·have o:=ah (DY w.heap.size l [97] wr g)
   have c:=ah a
   have t:=ah (fun (W:World) (h:kg W)=>Any.utf8_ValidString Eg jU W (by decide) h)
   have v:=ah (fun (W:World)=>Qv jU W (by decide))
   have z:Lib.validD jU.data.toList=true:=by kernel_rfl
   have y:Lib.containsAny jU.data.toList [47,0]=false:=by kernel_rfl
   rw[z] at t
   rw[y] at v
   clear g a z y
   go_wp2_with (first
    |(go_at_call 67;go_must (refine o.out.mono ?_;rintro e E ⟨rfl,b⟩))
    |(go_at_call 249;go_must (refine(t.out _ (C.out.below (c.out.trans b))).mono ?_;rintro e G ⟨rfl,p⟩))
    |(go_at_call 250;go_must (refine(v.out _).mono ?_;rintro e H ⟨rfl,n⟩)))
   go_ret2
   have A:=c.out.trans b
   have r:=A.trans (p.mono A.size)
   exact⟨rfl,r.trans (n.mono r.size)⟩
theorem UA (w:World)(M:kg w)(O:jV w):Calls Tryz.prog 109 #[.string pE] w fun e K=>∃v,e= .returned (.tuple #[v,.bool false,.int .i64 0])/\aV K eG w.heap.size 9 1 v 1 [.string jU]/\Below w.heap.size w K:=by
 have HP:=ah (Uz pE w (by decide) (by decide))
 have V:=ah (R8 pE ⟨#[47]⟩ w true (by kernel_rfl))
 have Y:=ah (UC w)
 have C:=ah (zC jU ⟨#[47]⟩ w [jU] O ⟨by decide,by decide⟩ (by kernel_rfl) (by kernel_rfl))
 have Q:=ah M
 have j:=aG w (.cells #[.string jU] 9)
 have z:=aH w (.cells #[.string jU] 9)
 have HA:=ah j
 clear M O
 go_enter Tryz.func109,Tryz.ntmps109
 go_wp2_with (first
  |(go_at_call 165;go_must (refine Y.out.mono ?_;rintro e c ⟨rfl,H⟩;subst c))
  |(go_at_call 166;go_must (refine HP.out.mono ?_;rintro e c ⟨rfl,H⟩;subst c))
  |(go_at_call 167;go_must (refine V.out.mono ?_;rintro e c ⟨rfl,H⟩;subst c))
  |(go_at_call 108;go_must (refine C.out.mono ?_;rintro e c ⟨rfl,H⟩;refine Stop.of ?_)))
 refine Stop.on ?_
 obtain⟨c,n⟩:∃x:World,Hid (w.alloc (.cells #[.string jU] 9)=x):=⟨_,ah rfl⟩
 have b:c.heap[w.heap.size]? =some (.cells #[.string jU] 9 (0,0)):=by rw[<-n.out];exact z
 have f:Below w.heap.size w c:=by rw[<-n.out];exact j
 rw[n.out]
 obtain⟨s,A⟩:∃x:Nat,Hid (w.heap.size=x):=⟨_,ah rfl⟩
 rw[A.out] at b
 rw[A.out]
 have J:=ah (au f b)
 have HQ:=ah (fun (W:World) (h:kg W)=>Rk W h)
 clear z j b f
 go_wp2_with fail
 go_loopw [7,8,10,11,12,34,53,56] (fun l d _ _ _ i _ _ wr=>((i= .int .i64 0/\l= .slice none 0 0)\/(i= .int .i64 1/\aV wr eG w.heap.size 9 1 l 1 [.string jU]))/\d= .bool false/\Below w.heap.size w wr/\wr.heap[s]? =some (.cells #[.string jU] 9 (0,0))) (fun _ _ _ _ _ i _ _ _=>1 - (intOf i).toNat)
 case atStart=>exact⟨.inl ⟨rfl,rfl⟩,rfl,J.out.1,J.out.2⟩
 case round=>
  obtain⟨T,rfl,a,t⟩:=hrel
  rcases T with ⟨rfl,rfl⟩|⟨rfl,D⟩
  ·have X:wr.cell? ⟨s,0,none⟩=some (.string jU):=by simp[World.cell?,t]
   have I:=(aj.1 t).1
   have p:=ah (au a t)
   have x1:¬((64:Int)<(jU.size:Int)):=by decide
   have x2:jU.toList.isEmpty=false:=by kernel_rfl
   have x3:(jU.toList==[46])=false:=by kernel_rfl
   have x4:(jU.toList==[46,46])=false:=by kernel_rfl
   clear a t
   go_wp2_with (first
    |(go_at_call 168;go_must (refine(HQ.out _ (Q.out.below p.out.1)).mono ?_;rintro e r ⟨rfl,y⟩;refine Stop.of ?_)))
   refine Stop.on ?_
   have k:Below w.heap.size w r:=p.out.1.trans (y.mono p.out.1.size)
   have m:=(y.block s I).trans p.out.2
   have o:=aG r (.cells #[.string jU] 9)
   have Z:(r.alloc (.cells #[.string jU] 9)).heap.size=r.heap.size+1:=by simp
   have F:aV (r.alloc (.cells #[.string jU] 9)) eG w.heap.size 9 1 (.slice none 0 0) 0 []:=aV.nil _ _ _ _ _
   clear X I
   go_wp2_with (at_builtin;go_must ((refine dQ rfl (.tmp 49) (.tmp 51) 146 146 rfl eG w.heap.size 9 1 16 _ iq uV rfl (.slice none 0 0) 0 _ rfl F (.slice (some ⟨r.heap.size,0,none⟩) 1 1) 1 [.string jU] rfl (iB [.string jU] 9 1 1 1 rfl iq rfl (by intro u N;simp only[aW,bQ,fJ] at N;subst N;rfl)) (fun g R=>R.elim) ?_ ?_ ?_ ?_);(focus (have:=k.size;have:=o.size;omega));(focus (unfold maxLen;omega));(focus omega);intro P c3 w5 q B E S))
   go_roundw
   case rel=>
    have G:=k.trans (o.mono k.size)
    exact⟨.inr ⟨by go_num,q⟩,rfl,G.trans E,(B.block s (by rw[Z];have:=(aj.1 m).1;omega) (fun e=>nomatch e)).trans ((o.block s (aj.1 m).1).trans m)⟩
   case measure=>simp[intOf]
  ·obtain⟨lo,lc,rfl,_⟩:=bq.form D.dM
   have p:=ah (au a D)
   clear a t D
   go_wp2_with fail
   go_ret3
   exact⟨_,rfl,p.out.2,p.out.1⟩
end Go.Proofs.YtpmbddooibgnaaaGreatDoor
namespace Go.Proofs.YtpmbddooibgnaaaGreatDoor
open Go.RowKit
theorem Xc (t:Nat)(w:World):Calls Tryz.prog 105 #[.pointer (some ⟨t,0,none⟩)] w fun e a=>e= .returned (.pointer (some ⟨w.heap.size,0,none⟩))/\a.heap[w.heap.size]? =some (.cells #[.pointer (some ⟨t,0,none⟩)] 298 (0,0))/\Below w.heap.size w a:=by
 go_enter Tryz.func105,Tryz.ntmps105
 go_wp2
 go_ret
 exact⟨rfl,aH w _,aG w _⟩
theorem Sk (f:Value)(w:World):Calls Tryz.prog 241 #[.slice none 0 0,f] w fun e a=>e= .returned (.int .i64 (-1))/\a=w:=by
 go_enter Tryz.func241,Tryz.ntmps241
 go_wp2
 go_loopw [5,8] (fun _ i wr=>i= .int .i64 0/\wr=w) (fun _ _ _=>0)
 case atStart=>exact⟨rfl,rfl⟩
 case round=>
  obtain⟨rfl,rfl⟩:=hrel
  go_wp2_with fail
  go_ret
  exact⟨rfl,rfl⟩
theorem SG (f:Value)(w:World):Calls Tryz.prog 162 #[.slice none 0 0,f] w fun e a=>e= .returned (.slice none 0 0)/\a=w:=by
 go_enter Tryz.func162,Tryz.ntmps162
 go_wp2_with (first
  |(go_at_call 241;go_must (refine(Sk f w).mono ?_;rintro e b ⟨rfl,rfl⟩)))
 go_ret
 exact⟨rfl,rfl⟩
theorem FM {a:ByteArray}{l:List UInt8}(h:a.data.toList=l):a=strOf l:=by
 cases a
 exact congrArg ByteArray.mk (Fv (by rw[h]))
theorem nL (l:List UInt8):(strOf l).size=l.length:=by show l.toArray.size=_;simp
theorem Ql (t:List UInt8)(n:Nat):(strOf t).extract 0 n=strOf (t.take n):=FM (by rw[uq,wQ];simp[strOf])
theorem Qm (t:List UInt8)(n:Nat):(strOf t).extract n t.length=strOf (t.drop n):=FM (by
 rw[uq,wQ]
 simp only[strOf,List.toList_toArray]
 exact aL (by simp))
def wz (w:World)(rb:Nat)(t:List UInt8):Prop:=w.heap[rb]? =some (.cells #[.string (strOf t),.bool false] 254 (0,0))
theorem wz.cells {w:World}{a:Nat}{t:List UInt8}(h:wz w a t):w.cell? ⟨a,0,none⟩=some (.string (strOf t))/\w.cell? ⟨a,1,none⟩=some (.bool false)/\w.frozen? ⟨a,0,none⟩=false/\a<w.heap.size:=by
 unfold wz at h
 exact⟨by simp[World.cell?,h],by simp[World.cell?,h],by simp[World.frozen?,h],(aj.1 h).1⟩
theorem wz.set {w:World}{a:Nat}{t:List UInt8}(h:wz w a t)(n:Nat):wz (w.setCell ⟨a,0,none⟩ (.string (strOf (t.drop n)))) a (t.drop n)/\Keep (· =a) w (w.setCell ⟨a,0,none⟩ (.string (strOf (t.drop n)))):=by
 refine⟨?_,(Keep.refl (· =a) w).setCell (p:=⟨a,0,none⟩) (.inr rfl) _⟩
 unfold wz at h ⊢
 simp[World.setCell,aK,h]
theorem U4 (a:Nat)(t:List UInt8)(n:Nat)(w:World)(h:wz w a t)(m:n<=t.length):
  Calls Tryz.prog 216 #[.pointer (some ⟨a,0,none⟩),.int .i64 n] w fun e c=>e= .returned (.string (strOf (t.take n)))/\wz c a (t.drop n)/\Keep (· =a) w c:=by
 obtain⟨s,k,r,o⟩:=h.cells
 have g:=nL t
 have v:¬(t.length:Int)<(n:Int):=by omega
 have l:(n:Int)<=(t.length:Int):=by omega
 have j:=Ql t n
 have i:=Qm t n
 have b:=ah (h.set n)
 obtain⟨p,d⟩:∃p,strOf (t.take n)=p:=⟨_,rfl⟩
 obtain⟨q,f⟩:∃q,strOf (t.drop n)=q:=⟨_,rfl⟩
 rw[d] at j ⊢;rw[f] at i b
 clear d f h
 go_enter Tryz.func216,Tryz.ntmps216
 go_wp2
 go_ret
 exact⟨rfl,b.out.1,b.out.2⟩
theorem JH (d:Nat)(v:Int)(t:List UInt8)(w:World)(h:wz w d (kR v++t))(G: -9223372036854775808<=v/\v<9223372036854775808):
  Calls Tryz.prog 134 #[.pointer (some ⟨d,0,none⟩)] w fun e x=>e= .returned (.int .i64 v)/\wz x d t/\Keep (· =d) w x:=by
 have p:=U4 d (kR v++t) 8 w h (by rw[aB,fQ];omega)
 rw[bW (by rw[fQ];omega),aL (by rw[fQ];omega),ou (by rw[fQ];omega),Fs (by rw[fQ];omega),oG] at p
 have A:=ah p
 have a:∀(i:Nat),i<8->∀W:World,(Instr.index 9 (.string (strOf (kR v))) (.int .i64 (i:Int))).run Tryz.prog W= .ok (.int .u8 (v/(256^i:Nat)%256)) W:=by
  intro i E W
  have l:(kR v)[i]? =some (UInt8.ofNat (v/(256^i:Nat)%256).toNat):=by
   unfold kR
   rw[dL,NT E];rfl
  have:=o9 (kR v) i _ l W
  rw[this]
  have b:0<=v/(256^i:Nat)%256/\v/(256^i:Nat)%256<256:=⟨Int.emod_nonneg _ (by decide),Rb _ (by decide)⟩
  congr 2
  rw[dZ]
  omega
 have c:=ah a
 have m:(strOf (kR v)).size=8:=by rw[nL,fQ]
 obtain⟨s,D⟩:∃s,Hid (strOf (kR v)=s):=⟨_,ah rfl⟩
 rw[D.out] at A c m
 have r:=L6 v G
 clear a p h
 go_enter Tryz.func134,Tryz.ntmps134
 go_wp2_with (first
  |(go_at_call 216;go_must (refine A.out.mono ?_;rintro e C ⟨rfl,f,g⟩)))
 have B:=ah (au f g)
 clear f g
 go_loopw [4,5] (fun n i wr=>∃k:Nat,k<=8/\n= .int .i64 (IntKind.i64.wrap (xL v k))/\i= .int .i64 ((k:Int) - 1)/\wr=C) (fun _ i _=>(intOf i+1).toNat)
 case atStart=>exact⟨8,aC _,by rw[OC];rfl,rfl,rfl⟩
 case round=>
  obtain⟨k,I,rfl,rfl,rfl⟩:=hrel
  by_cases q:k=0
  ·subst q
   rw[r]
   go_wp2_with fail
   go_ret
   exact⟨rfl,B.out.1,B.out.2⟩
  ·obtain⟨j,rfl⟩:∃j,k=j+1:=⟨k - 1,by omega⟩
   have a:=c.out j (by omega)
   have l:=Rn v (j+1) (by omega) (by omega)
   have b:0<=v/(256^j:Nat)%256/\v/(256^j:Nat)%256<256:=⟨Int.emod_nonneg _ (by decide),Rb _ (by decide)⟩
   have o:=Vb (xL v (j+1)) (v/(256^j:Nat)%256) l b
   rw[<-L8 v j (by omega)] at o
   have F:=ah o
   have H:=ah (aM (xL v (j+1)) (by omega))
   clear o l b
   go_wp2_with fail
   go_roundw
   case rel=>
    refine⟨j,by omega,?_,rfl,trivial⟩
    have z:=F.out
    have y:=H.out
    rw[IntWalk.i64_left] at y
    rw[IntWalk.i64_left (xL v (j+1)*256)] at z
    rw[<-z,y]
    simp
   case measure=>simp[intOf]
end Go.Proofs.YtpmbddooibgnaaaGreatDoor
namespace Go.Proofs.YtpmbddooibgnaaaGreatDoor
open Go.RowKit Go.Shelf
structure Ay (w:World)(B b:Nat)(l:List UInt8):Prop where
 lo:B<=b
 at_:∃p v,(p= .pointer none\/p= .pointer (some ⟨b,0,none⟩))/\w.heap[b]? =some (.cells #[p,v] 580 (0,0))/\aV w eG B 5 1 v l.length (aF l)
theorem Xe:liesAt Tryz.prog Tryz.prog.depth 580 (2/Tryz.prog.cellsOf 580) 0 156 1=true:=by kernel_rfl
theorem O5 (B b:Nat)(l:List UInt8)(w:World)(h:Ay w B b l):
  Calls Tryz.prog 121 #[.pointer (some ⟨b,0,none⟩)] w fun e d=>e= .returned (.tuple #[])/\(∃v,d.heap[b]? =some (.cells #[.pointer (some ⟨b,0,none⟩),v] 580 (0,0))/\aV d eG B 5 1 v l.length (aF l))/\Keep (· =b) w d:=by
 obtain⟨s,p,v,r,a,i⟩:=h
 rcases r with rfl|rfl
 ·obtain⟨j,k,f⟩:=Option.map_eq_some_iff.1 sG.sizeBuilder
  have x:w.cell? ⟨b,0,none⟩=some (.pointer none):=by simp[World.cell?,a]
  have c:w.shape? b=some (580,2):=by simp[World.shape?,a]
  have t:w.frozen? ⟨b,0,none⟩=false:=by simp[World.frozen?,a]
  have lt:=(aj.1 a).1
  go_enter Tryz.func121,Tryz.ntmps121
  go_wp2
  rw[Lib.run_to_unsafe w ⟨b,0,none⟩ wM qd k (by rw[f];decide) c (Nat.zero_lt_succ 1)]
  simp only[Result.andThen]
  rw[Oper.upon_value]
  go_wp2
  rw[Tv Tryz.func195 (by kernel_rfl) (by kernel_rfl) (by kernel_rfl) (e:=Extern.AbiNoEscape.same) (by kernel_rfl)]
  rw[Lib.run_noEscape]
  simp only[Result.andThen]
  rw[Oper.upon_value]
  go_wp2
  rw[Lib.run_from_unsafe w ⟨b,0,none⟩ qd wM k c Xe]
  simp only[Result.andThen]
  rw[Oper.upon_value]
  go_wp2
  go_end0
  have m:Keep (· =b) w (w.setCell ⟨b,0,none⟩ (.pointer (some ⟨b,0,none⟩))):=(Keep.refl (· =b) _).setCell (p:=⟨b,0,none⟩) (.inr rfl) _
  exact⟨rfl,⟨v,by simp[World.setCell,aK,a],i.keep fun g o q n=>⟨m.block g q (fun e=>i.ne a (by decide) (by rw[o,e])),n⟩⟩,m⟩
 ·refine(Any.Builder_copyCheck_used zM sG.toX72 b w (by simp[World.cell?,a])).mono ?_
  rintro e d ⟨rfl,rfl⟩
  exact⟨rfl,⟨v,a,i⟩,Keep.refl _ _⟩
theorem U5 {B b n:Nat}{w1 a:World}{f:Option Addr}{c:Nat}{v:Value}{l:List UInt8}(d:B<=b)(j:a.heap[b]? =some (.cells #[.pointer (some ⟨b,0,none⟩),v] 580 (0,0)))(k:aV a eG B 5 1 (.slice f n c) n (aF l))(m:n=l.length)(i:Below B w1 a):
  Ay (a.setCell ⟨b,1,none⟩ (.slice f n c)) B b l/\Below B w1 (a.setCell ⟨b,1,none⟩ (.slice f n c)):=by
 subst m
 have s:Keep (· =b) a (a.setCell ⟨b,1,none⟩ (.slice f l.length c)):=(Keep.refl (· =b) _).setCell (p:=⟨b,1,none⟩) (.inr rfl) _
 exact⟨⟨d,_,_,.inr rfl,by simp[World.setCell,aK,j],k.keep fun g q r o=>⟨s.block g r (fun e=>k.ne j (by decide) (by rw[q,e])),o⟩⟩,i.setCell (p:=⟨b,1,none⟩) d _⟩
theorem RH (B b:Nat)(l:List UInt8)(c:Int)(w:World)(h:Ay w B b l)(hB:B<=w.heap.size)(H:l.length<=1000000)(J:0<=c/\c<=255):
  Calls Tryz.prog 248 #[.pointer (some ⟨b,0,none⟩),.int .u8 c] w fun e t=>e= .returned .nilIface/\Ay t B b (l++[UInt8.ofNat c.toNat])/\Below B w t:=by
 have C:=ah (O5 B b l w h)
 have q:=h.lo
 clear h
 go_enter Tryz.func248,Tryz.ntmps248
 go_wp2_with (first
  |(go_at_call 121;go_must (refine C.out.mono ?_;rintro e w1 ⟨rfl,⟨v,d,i⟩,m⟩;refine Stop.of ?_)))
 refine Stop.on ?_
 obtain⟨s,r,rfl,_,_,_,_⟩:=bq.form i.dM
 have k:Below B w w1:=m.fw hB (fun g G e=>by have e:g=b:=e;omega)
 have p:=aI hB m.size
 have D:w1.cell? ⟨b,1,none⟩=some (.slice s l.length r):=by simp[World.cell?,d]
 have lt:=(aj.1 d).1
 go_wp2_with (first
  |(at_builtin;go_must ((refine dQ rfl (.tmp 11) (.tmp 13) 154 154 rfl eG B 5 1 1 (.int .u8 0) aU jl rfl (.slice s l.length r) _ _ rfl (i.below (aG _ _)) _ 1 _ rfl (iB [_] _ 1 1 1 (by simp) aU rfl ?_) (fun _ h=>h.elim) ?_ ?_ ?_ ?_);(focus (simp[Value.oneCell']));(focus (simp only[bD];omega));(focus (unfold maxLen;omega));(focus omega);intro z E x a o n A;refine Stop.of ?_)))
 refine Stop.on ?_
 have f:=(o.block b (by simp;omega) (fun e=>by
  have:=i.ne d (by decide)
  exact this e)).trans ((aG w1 _).block b lt|>.trans d)
 have I:x.cell? ⟨b,1,none⟩=some (.slice s l.length r):=by simp[World.cell?,f]
 have K:x.frozen? ⟨b,1,none⟩=false:=by simp[World.frozen?,f]
 have F:=(aj.1 f).1
 have j:aF l++[Value.int .u8 c]=aF (l++[UInt8.ofNat c.toNat]):=by
  rw[fG]
  congr 1
  simp[aF]
  omega
 rw[j] at a
 have y:=ah (U5 (w1:=w) q f a (by simp) ((k.trans ((aG w1 _).mono p)).trans n))
 clear a j
 go_wp2_with fail
 go_ret
 exact⟨rfl,y.out⟩
theorem RG (l:List UInt8)(v:Int)(k:Nat)(a:k<8):l++(kR v).take k++[UInt8.ofNat (v/(256^k:Nat)%256).toNat]=l++(kR v).take (k+1):=by
 rw[bA,aO (by rw[fQ];exact a)]
 congr 2
 simp[kR]
theorem U9 (v:Int)(k:Nat)(a:k<8):v/2^(8*(k:Int)).toNat=v/((256^k:Nat):Int):=by
 have h:k=0\/k=1\/k=2\/k=3\/k=4\/k=5\/k=6\/k=7:=by omega
 rcases h with rfl|rfl|rfl|rfl|rfl|rfl|rfl|rfl<;>rfl
theorem JJ (B b:Nat)(l:List UInt8)(v:Int)(w:World)(h:Ay w B b l)(hB:B<=w.heap.size)(G:l.length<=900000):
  Calls Tryz.prog 460 #[.pointer (some ⟨b,0,none⟩),.int .i64 v] w fun e t=>e= .returned (.pointer (some ⟨b,0,none⟩))/\Ay t B b (l++kR v)/\Below B w t:=by
 have H:=ah h
 clear h
 go_enter Tryz.func460,Tryz.ntmps460
 go_upto_region 2 with fail
 go_loopw [5,6] (fun _ i wr=>∃k:Nat,k<=8/\i= .int .i64 k/\Ay wr B b (l++(kR v).take k)/\Below B w wr) (fun _ i _=>8 - (intOf i).toNat)
 case atStart=>exact⟨0,by omega,rfl,by rw[gT,dV];exact H.out,aJ _ _⟩
 case round=>
  obtain⟨k,J,rfl,s,m⟩:=hrel
  have f:=ah (au s m)
  clear s m
  by_cases a:k<8
  ·have A:(k:Int)<8:=by omega
   have c:(l++(kR v).take k).length<=1000000:=by rw[aB,aQ];omega
   have o:Ay wr.drew B b (l++(kR v).take k):=⟨f.out.1.lo,f.out.1.at_⟩
   have g:B<=wr.drew.heap.size:=aI hB f.out.2.size
   have r:=RH B b (l++(kR v).take k) (v/(256^k:Nat)%256) wr.drew o g c ⟨Int.emod_nonneg _ (by decide),by have:=Rb (v/(256^k:Nat)) (show (0:Int)<256 by decide);omega⟩
   rw[RG l v k a] at r
   have y:=ah r
   clear r o c g
   have C:IntKind.i64.wrap (8*(k:Int))=8*(k:Int):=by rw[bX];omega
   have d:IntKind.u8.wrap (v/2^(8*(k:Int)).toNat)=v/((256^k:Nat):Int)%256:=by rw[<-U9 v k a,IntKind.wrap_u8]
   obtain⟨q,F⟩:∃q,Hid (v/((256^k:Nat):Int)=q):=⟨_,ah rfl⟩
   rw[F.out] at d y
   have z:=ah d
   clear d
   have E:=a
   clear a
   go_wp2_with fail
   refine aP (fun W=>W=wr.drew) (fun i=> !([8].contains i)) [0,1,2,3,4,5,6,7,8] rfl (by kernel_rfl) rfl ?_
   repeat ((refine bE (v:= ?_) rfl rfl (fun _ _ _ h=>h) rfl (fun W x=> ?_) ?_);rotate_left;(focus ((try dsimp only at x);subst x;(go_simp;first|done|with_reducible rfl)));(try simp only[Act.put,ak,ay,ax]))
   refine jR rfl rfl rfl (by kernel_rfl) ?_;intro K D;go_simp
   rw[z.out]
   refine y.out.mono ?_;rintro e I ⟨rfl,p,n⟩
   refine D.out _ _ ?_
   refine bN ?_
   have j:=ah (au p (f.out.2.trans ((aJ B wr).drew.trans n)))
   clear p n C
   go_wp2_with fail
   go_roundw
   case rel=>exact⟨k+1,by omega,by go_num,j.out.1,j.out.2⟩
   case measure=>simp[intOf];omega
  ·obtain rfl:k=8:=by omega
   go_wp2_with fail
   go_ret
   have e:(kR v).take 8=kR v:=aL (by rw[fQ];exact aC 8)
   rw[e] at f
   exact⟨rfl,f.out⟩
theorem ME (B b:Nat)(l:List UInt8)(w:World)(h:Ay w B b l)(s:l≠[]):
  Calls Tryz.prog 67 #[.pointer (some ⟨b,0,none⟩)] w fun e D=>e= .returned (.string ⟨l.toArray⟩)/\Below B w D:=by
 have L:=Bn
 have X:=sG
 obtain⟨C,p,v,_,o,t⟩:=h
 have d:=t.1
 have m:l.length≠0:=by simpa using s
 obtain⟨g,a,c,rfl,k,E,A,i,H,n⟩:∃g a c,v= .slice (some ⟨g,0,none⟩) l.length a/\B<=g/\w.heap[g]? =some (.cells c (zQ.t 5) (0,0))/\l.length<=a/\a<=maxLen/\c.size=a*1/\c.toList.take (l.length*1)=Lib.byteCells l:=by
  rcases d.2 with ⟨_,F⟩|⟨g,a,c,G,r⟩
  ·exact absurd F m
  ·exact⟨g,a,c,G,r⟩
 have J:w.drew.cell? ⟨b,1,none⟩=some (.slice (some ⟨g,0,none⟩) l.length a):=by
  have:w.drew.heap[b]? =some (.cells #[p,.slice (some ⟨g,0,none⟩) l.length a] 580 (0,0)):=o
  rw[Lib.cell_of_heap this];rfl
 have z:(Builtin.unsafeSliceData_ #[154] 235 #[.slice (some ⟨g,0,none⟩) l.length a]).run Tryz.prog w.drew= .ok (.pointer (some ⟨g,0,none⟩)) w.drew:=
  Lib.run_unsafeSliceData_row _ _ _ _ _ _ (by omega)
 have I:(Builtin.unsafeString_ #[235,3] 9 #[.pointer (some ⟨g,0,none⟩),.int .i64 l.length]).run Tryz.prog w.drew= .ok (.string ⟨l.toArray⟩) (w.drew.freeze ⟨g,0,none⟩ l.length):=by
  refine Lib.run_unsafeString_row w.drew 235 3 9 (zQ.t 5) L.t127 X.cellsByte g c.size (by have q:w.drew.heap[g]? =some (.cells c (zQ.t 5) (0,0)):=E;simp[World.shape?,q]) l s (by omega) (by unfold maxLen at i;omega) ?_
  intro j x y
  have:=d.cells (g:=g) rfl j (.int .u8 x.toNat) (by simp[aF,y])
  exact this
 clear t d
 have f:=L.mixed
 go_enter Tryz.func67,Tryz.ntmps67
 go_wp2
 go_region_o
 all_goals (go_wp2;go_ret;exact⟨rfl,Lib.below_freeze (I6 (aJ B w)) (p:=⟨g,0,none⟩) k _⟩)
theorem KP (B b:Nat)(l:List UInt8)(w:World)(h:Ay w B b l)(d:l≠[]):
  Calls Tryz.prog 461 #[.pointer (some ⟨b,0,none⟩)] w fun e f=>e= .returned (.string ⟨l.toArray⟩)/\Below B w f:=by
 have c:=ah (ME B b l w h d)
 clear h
 go_enter Tryz.func461,Tryz.ntmps461
 go_wp2_with (first
  |(go_at_call 67;go_must (refine c.out.mono ?_;rintro e g ⟨rfl,a⟩)))
 go_ret
 exact⟨rfl,a⟩
end Go.Proofs.YtpmbddooibgnaaaGreatDoor
