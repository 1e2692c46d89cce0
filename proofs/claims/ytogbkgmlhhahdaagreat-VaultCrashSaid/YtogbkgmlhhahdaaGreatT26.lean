--
import Derived.Test.YtogbkgmlhhahdaaGreatT25
set_option maxRecDepth 100000
set_option maxHeartbeats 0
set_option linter.all false
namespace Go.Proofs.YtogbkgmlhhahdaaGreat
open Go.RowKit
variable{a:ByteArray}{M:Nat->Prop}{b w':World}
def D5 {f:Nat->Bool}:∀{n m:Nat},n<=m->(∀b,n<=b->f b=false)->countB f m=countB f n
 |n,0,h,_=>by
  obtain rfl:n=0:=by omega
  rfl
 |n,m+1,h,c=>by
  rcases gH m n with a|a
  ·obtain rfl:n=m+1:=by omega
   rfl
  ·rw[fP,D5 a c,c m a]
   rfl
structure xq (σ:Dk)(l:Lg)(p:Pg)(f:Nat->Bool)(root:Nat):Prop where
 pd:p.dead=false
 sd:σ.dead=false
 two:2<=p.blocks σ
 map:p.look Im.none σ 0=bytesOf f
 hi:∀b,p.blocks σ<=b->f b=false
 f0:f 0=true
 f1:f 1=true
 root:Mr (p.look Im.none σ 1) root
def Ij (tr:Nat)(mp:VS)(root:Int)(σ:cK)(S:Nat->Prop)(l:List Pr)(tb:List Int)(w:World)(h:Inv σ S mp w)(j:dw w tr mp root 0)(k:ze σ root l tb)(o:l.length<=4090):
  Calls Tryz.prog 46 #[.pointer (some ⟨tr,0,none⟩)] w fun e a=>∃(v:Value) (L:List Int),e= .returned (.tuple #[v,.int .i64 0])/\L.Perm tb/\aT a S w.heap.size 3 1 v L.length (L.map (.int .i64))/\Below w.heap.size w a:=by
 obtain⟨n,T,m,b,d⟩:=k.bl (by omega)
 by_cases g:root=0
 ·subst g
  refine(J5 tr mp S w j).mono ?_;rintro e a ⟨v,rfl,f,c⟩;rw[if_pos rfl] at b;have i:T=[]:=by cases b<;>simp_all
  exact⟨v,_,rfl,by rw[<-i];exact(tT _).trans d,f,c⟩
 ·rw[if_neg g] at b
  refine(J6 tr mp root σ S w h j g n T m b (by have:=d.length_eq;have:=k.count;omega)).mono ?_;rintro e a ⟨v,rfl,f,c⟩;exact⟨v,_,rfl,(tT _).trans d,f,c⟩
def Od (es:List lU):((jh es).drop (bX (jh es) ⟨#[]⟩))=jh es:=by
 have:bX (jh es) ⟨#[]⟩=0:=by
  unfold bX;cases jh es with
  |nil=>rfl
  |cons p r=>rw[PK,zQ];rfl
 rw[this,dQ]
def U0 {w:World}{S:Nat->Prop}{B g n c:Nat}{a:List Pr}(h:aT w S B 103 2 (.slice (some ⟨g,0,none⟩) n c) n (dP a))(i:a.length=n)(k:Nat)(l:k<n):
  w.cell? ⟨g,k*2,none⟩=some (.string (a[k]'(by omega)).1)/\w.cell? ⟨g,k*2+1,none⟩=some (.string (a[k]'(by omega)).2):=by
 have e:jo w S (.slice (some ⟨g,0,none⟩) n c) a:=by
  unfold jo;rw[i];exact h.dx
 obtain⟨m,j,f,b,d⟩:=e.at rfl k (by omega);cases f
 rw[dX] at b d;exact⟨b,d⟩
theorem Qd (v pg d:Nat)(σ:Dk)(l:Lg)(p:Pg)(f:Nat->Bool)(root:Nat)(S:Nat->Prop)(w:World)(es:List lU)(tb:List Int)(hv:w.heap[v]? =some (.cells #[.pointer (some ⟨pg,0,none⟩)] 88 (0,0)))(zS:¬S v)(h:ji w S pg d σ l p (.pointer none))(W:xq σ l p f root)(hL:Live (cK.start σ l p f) root es tb)(hl:es.length<=4090):
  Calls Tryz.prog 13 #[.pointer (some ⟨v,0,none⟩)] w fun e w'=>e= .returned (.int .i64 0)/\∃S',ji w' S' pg d σ l p (.pointer none)/\Step S S' w w':=by
 have HB:=ah (Qe v pg d σ l p f root S w hv zS h W.pd W.sd W.two W.map W.hi W.f0 W.f1 W.root);have nA:p.blocks σ<=4096:=by have:=h.ok.2.1.hi;unfold Pg.blocks;omega
 have HC:=ah (D5 nA W.hi);have hsub:=h.sub;clear hv h
 go_enter_defers Tryz.func13,Tryz.ntmps13
 go_wp2_with (first|(go_at_call 21;go_must (refine HB.out.mono ?_;rintro e O ⟨t,tr,mp,M,rfl,zX,hd,q9,fA,N,rG,l6,hn2,rF,hlo2⟩;refine sO ?_)))
 refine sN ?_;obtain⟨y,ko⟩:=nx (cK.start σ l p f);rw[<-ko] at N hL;have c2:O.cell? ⟨t,2,none⟩=some (.pointer (some ⟨tr,0,none⟩)):=by simp[World.cell?,q9,dF]
 have fJ:=(ai.1 q9).1;have tQ:(jh es).length<=4090:=by rw[eH];exact hl
 have xP:=ah (Ij tr mp root y M (jh es) tb O N fA hL.tree tQ);have sP:∀g,M g->g<O.heap.size:=N.sub
 have r:=N.ok;have HX:=ah (aC q9 (aC fA (aC N rG)));have qc:=ah ko;clear q9 fA N rG ko;go_wp2_with (first|(go_at_call 46;go_must (refine xP.out.mono ?_;rintro e w2 ⟨bv,L,rfl,kg,j4,D⟩;refine sO ?_)))
 refine sN ?_;obtain⟨xo,xc,rfl,_,_,_,_⟩:=aZ.form j4.dx;have zn:∀g,M g->g<w2.heap.size:=fun g hg=>ax (sP g hg) D.size
 have zW:L.length<=9000:=by have:=kg.length_eq;have:=hL.tree.count;omega
 have xE:=ah kg;go_wp2_with (first|(at_builtin;go_must ((refine cO rfl (.tmp 35) (.tmp 36) 93 93 rfl M O.heap.size 3 1 8 _ bE iq rfl (.slice xo L.length xc) _ _ rfl (j4.below (aN _ _)) _ 2 _ rfl (gq [.int .i64 0,.int .i64 1] _ 1 2 2 (by simp) bE rfl ?_) (fe zn _) ?_ ?_ ?_ ?_);(focus simp[Value.oneCell']);(focus simp only[aU];have:=D.size;omega);(focus unfold maxLen;omega);(focus omega);intro ao3 c3 w3 J zA oO vk;refine sO ?_)))
 refine sN ?_;have H:Below O.heap.size O w3:=(D.trans ((aN w2 _).mono D.size)).trans oO;have hE:L.map (Value.int .i64)++[.int .i64 0,.int .i64 1]=(L++[0,1]).map (.int .i64):=by simp
 have jO:L.length+2=(L++[0,1]).length:=by simp
 rw[hE,jO] at J;have q8:=(H.block t fJ).trans HX.out.1;have d2:w3.cell? ⟨t,2,none⟩=some (.pointer (some ⟨tr,0,none⟩)):=by simp[World.cell?,q8,dF]
 have hlt3:=(ai.1 q8).1;have jl:=HX.out.2.2.1.below H;have aA:dw w3 tr mp root 0:=(H.block tr (ai.1 HX.out.2.1).1).trans HX.out.2.1;have fB:=EX tr mp root y M (jh es) tb ⟨#[]⟩ 262144 w3 jl aA hL.tree tQ;rw[Od,aJ (by rw[eH];show es.length<=(262144:Int).toNat;omega),eH] at fB;have HSC:=ah fB;have sF:=ah J;have Y:=ah H;have HI3:=ah jl;obtain⟨A0,af⟩:=nx (L++[0,1]);obtain⟨n0,ql⟩:=nx (L.length+2);rw[<-jO,<-ql,<-af] at sF;rw[<-ql];have zP:=ah af;have l9:=ah (show A0.length=n0 by rw[af,ql];simp);have zb:=ah (aC zW ql);clear J H jl fB q8 aA oO zA vk j4 D kg hE jO af ql;go_wp2_with (first|(go_at_call 47;go_must (refine HSC.out.mono ?_;rintro e w4 ⟨pv,rfl,av,lC⟩;refine sO ?_)))
 refine sN ?_;obtain⟨po,pc,rfl,_,_,_,_⟩:=aZ.form av.dx;obtain⟨n,hn⟩:=nx es.length;have HN:=ah hn;rw[<-hn] at av ⊢;have aB:=av.base Y.out.size;have rP:=sF.out.below lC;have bB:=Y.out.trans (lC.mono Y.out.size);have HV:=ah hL.val;have lg:=hL.own.count r hL.all;have V:(dO es).length<=4096:=by
  have:=countB_le y.now y.most;rw[lg,ay] at this;have:=r.cap;omega
 have zf:=ah V;have HCT:=ah lg;clear V lg;clear hn av lC;go_wp2_with fail;go_loopw [5,8,9,10,11,12,51] (fun a _ _ _ _ _ i wr=>∃(k:Nat) (A:List Int),k<=n/\i= .int .i64 k/\aT wr M O.heap.size 3 1 a A.length (A.map (.int .i64))/\A.Perm (A0++dO (es.take k))/\aT wr M O.heap.size 103 2 (.slice po n pc) n (dP (jh es))/\Below O.heap.size O wr) (fun _ _ _ _ _ _ i _=>n - (intOf i).toNat)
 case atStart=>exact⟨0,A0,aS _,rfl,by rw[l9.out];exact rP,by simp[dO],aB,bB⟩
 case round=>
  clear rP aB bB;obtain⟨k,A,hk,rfl,Z,qb,p9,R⟩:=hrel;obtain⟨ao,ac,rfl,_,_,_,_⟩:=aZ.form Z.dx
  by_cases lJ:k<n
  ·have y1:(k:Int)<(n:Int):=by omega
   have dZ:k<es.length:=(by rw[<-HN.out];exact lJ);obtain⟨g,c,e1,_,_,hg1,hg2⟩:=p9.yx (by omega);cases e1
   obtain⟨d0,d1⟩:=U0 p9 (by rw[eH];exact HN.out.symm) k lJ;obtain⟨E,hE⟩:=nm (es[k]);have oH:(jh es)[k]'(by rw[eH];exact dZ)=(E.k,E.s):=(by rw[<-hE.out];simp[jh]);rw[oH] at d0 d1;have yx:E∈es:=(by rw[<-hE.out];exact bF dZ);have mr:=ah (show dO (es.take (k+1))=dO (es.take k)++E.b by rw[aL dZ,iV,hE.out];simp[dO]);have nS:A.length+97<=20000:=by
    have e1:=qb.length_eq;rw[ay,l9.out] at e1;have e2:=zf.out;have e4:=zb.out;have e3:(dO (es.take k)).length<=(dO es).length:=by
     have:dO es=dO (es.take k)++dO (es.drop k):=(by rw[<-iV,bJ]);rw[this,ay];omega
    omega
   have hlw:g<wr.heap.size:=hg2;have yo:∀g,M g->g<wr.heap.size:=fun g hg=>ax (sP g hg) R.size
   have lQ:=ah Z;have rV:=ah qb;have nH:=ah p9;have C:=ah R;clear oH Z qb p9 R;rcases HV.out E yx with ⟨s1,s2,s3⟩|⟨I,rs,s1,s2,s3,s4⟩
   ·have fo:E.s.size<=1000000:=by
     have:E.s.size=E.v.size+1:=(by rw[s1];show (0::E.v.data.toList).toArray.size=E.v.data.size+1;simp);omega
    have X:sS E.s.data.toList=none:=(by rw[s1];exact wC _);have dR:=ah X;clear s1 s2 X;go_wp2_with (first|(go_at_call 48;go_must (refine(ER E.s _ fo).mono ?_;rw[dR.out];rintro e w5 ⟨G,rfl⟩;refine sO ?_)))
    refine sN ?_;have s:Below wr.heap.size wr w5:=(aN wr _).trans (G.mono (by simp));clear G;go_wp2_with fail;go_roundw
    case rel=>exact⟨k+1,A,by omega,by go_num,lQ.out.below s,by rw[mr.out,s3,dM];exact rV.out,nH.out.below s,C.out.trans (s.mono C.out.size)⟩
    case measure=>simp[intOf];omega
   ·have fo:E.s.size<=1000000:=by rw[s1];show [1,UInt8.ofNat I,UInt8.ofNat (I/256)].toArray.size<=_;simp
    have X:sS E.s.data.toList=some I:=(by rw[s1];exact yQ I s2.1);have dR:=ah X;have oo:=ah s3;have za:=ah s4;clear s1 s2 X s3 s4;go_wp2_with (first|(go_at_call 48;go_must (refine(ER E.s _ fo).mono ?_;rw[dR.out];rintro e w5 ⟨G,rfl⟩;refine sO ?_)))
    refine sN ?_;have s:Below wr.heap.size wr w5:=(aN wr _).trans (G.mono (by simp));have q:=C.out.trans (s.mono C.out.size);have o:=(q.block t fJ).trans HX.out.1;have f0:w5.cell? ⟨t,0,none⟩=some (.pointer (some ⟨mp.tx,0,none⟩)):=(by simp[World.cell?,o,dF]);have f1:w5.cell? ⟨t,1,none⟩=some (.pointer (some ⟨mp.mp,0,none⟩)):=(by simp[World.cell?,o,dF]);have rJ:=(ai.1 o).1;have z8:=ah (Nt mp y M w5 I _ rs (HX.out.2.2.1.below q) oo.out.hd);have r9:=ah (aC s q);clear G s q o;go_wp2_with (first|(go_at_call 49;go_must (refine z8.out.mono ?_;rintro e w6 ⟨mv,rfl,j5,o7⟩;refine sO ?_)))
    refine sN ?_;obtain⟨mo,mc,rfl,_,_,_,_⟩:=aZ.form j5.dx;have yK:(qG (kH I rs)).length<=97:=by
     rw[tV];have:=oo.out.hd.runs.2;simp[kH];omega
    have F:=r9.out.1.trans (o7.mono r9.out.1.size);have dn:=aZ.src (P:=Tryz.prog) j5.dx bE (rH _);have nJ:=lQ.out.below F;have rA:=nH.out.below F;have vv:∀g,M g->g<w6.heap.size:=fun g hg=>ax (yo g hg) F.size
    have yc:O.heap.size<=w6.heap.size:=aK C.out.size F.size;obtain⟨B,W⟩:=nm (qG (kH I rs));rw[W.out] at yK dn ⊢;clear j5 o7;go_wp2_with (first|(at_builtin;(refine cO rfl (.tmp 75) (.tmp 76) 93 93 rfl M O.heap.size 3 1 8 _ bE iq rfl (.slice ao A.length ac) A.length _ rfl nJ (.slice mo B.length mc) B.length _ rfl dn vv yc (by unfold maxLen;omega) (by omega) ?_);go_must (intro ao7 c7 w7 j3 dx hb7 hd7;refine sO ?_)))
    refine sN ?_;go_wp2_with fail;have xV:A.map (Value.int .i64)++B.map (.int .i64)=(A++B).map (.int .i64):=(by simp);have nk:A.length+B.length=(A++B).length:=(by simp);go_roundw
    case rel=>
     refine⟨k+1,A++B,by omega,by go_num,by rw[<-xV,<-nk];exact j3,?_,rA.keep fun x hx hl hs=>⟨dx.block x hl (fun e=>aT.Hz rA nJ (by decide) _ hx e),hs⟩,(C.out.trans (F.mono C.out.size)).trans hb7⟩;rw[mr.out,za.out,<-aM];exact rV.out.append (by rw[<-W.out];exact tT _)
    case measure=>simp[intOf];omega
  ·obtain rfl:k=n:=by omega
   have y1:¬(k:Int)<(k:Int):=(by omega);have bN:A.Perm (A0++dO es):=by
    have:=qb;rwa [HN.out,bS] at this
   have z:A.Perm (0::1::(tb++dO es)):=by
    refine bN.trans ?_;rw[zP.out];have e1:(L++[0,1]++dO es).Perm ([0,1]++L++dO es):=fI.append_right _;refine e1.trans ?_;have e2:([0,1]++L++dO es)=0::1::(L++dO es):=(by simp);rw[e2];exact((xE.out.append_right _).cons _).cons _
   have K:A.length=countB f 4096:=by
    rw[z.length_eq,HC.out];have e1:=HCT.out;have e2:countB y.now y.most=countB f (p.blocks σ):=(by rw[qc.out];rfl);rw[e2] at e1;rw[e1];simp;omega
   have di:∀x∈A,∃b:Nat,x=b/\b<y.most/\y.now b=true:=by
    intro x hx;rcases bO.1 (z.mem_iff.1 hx) with rfl|hx
    ·exact⟨0,rfl,by have:=r.two;omega,r.n0⟩
    ·rcases bO.1 hx with rfl|hx
     ·exact⟨1,rfl,by have:=r.two;omega,r.n1⟩
     ·exact cK.kT (hL.all x hx).1
   have tY:A.Nodup:=by
    refine z.nodup_iff.2 (lV.2 ⟨fun e=> ?_,lV.2 ⟨fun e=> ?_,hL.own.nd⟩⟩)
    ·rcases bO.1 e with e|e
     ·cases e
     ·have:=(hL.all 0 e).2;omega
    ·have:=(hL.all 1 e).2;omega
   have nS:A.length<=4096:=(by rw[K];exact countB_le f 4096);have lm:=ah (zu _ A wr M O.heap.size Z (by omega) R.size);obtain⟨Q,hQ⟩:=nm (qG A);have jb:=NZ tY;have pM:=tV A;have kr:∀x∈qG A,x∈A:=fun x hx=>(CQ x).1 hx
   rw[hQ.out] at lm jb pM kr;obtain⟨m,hm⟩:=nx A.length;rw[pM,<-hm] at lm;rw[<-hm] at pM K nS ⊢;have HQ:=ah (aC jb (aC pM (aC kr di)));have o6:=ah K;have C:=ah R;clear qb bN z K di tY jb pM kr hm Z p9 R;go_wp2_with (first|(go_at_call 50;go_must (refine lm.out.mono ?_;rintro e w5 ⟨rfl,mK,G⟩;refine sO ?_)))
   refine sN ?_;have q:=C.out.trans G;have o:=(q.block t fJ).trans HX.out.1;have f1:w5.cell? ⟨t,1,none⟩=some (.pointer (some ⟨mp.mp,0,none⟩)):=(by simp[World.cell?,o,dF]);have rJ:=(ai.1 o).1;have iO:=HX.out.2.2.1.below q;have bC:qJ w5 mp.mp y.most y.now y.H.old:=(by obtain⟨Sp,T,hI,_⟩:=iO;exact hI.map);have bH:=ah bC;have xK:=ah mK;have jF:=ah (aC o (aC iO q));clear bC mK o iO q G;have zm:=r.cap;go_wp2_with fail;go_loopw [13,14,83] (fun _ _ i wk=>∃j:Nat,j<=m/\i= .int .i64 j/\wk=w5) (fun _ _ i _=>m - (intOf i).toNat)
   case atStart=>exact⟨0,aS _,rfl,rfl⟩
   case round=>
    obtain⟨j,hj,rfl,vo⟩:=hrel;subst vo
    by_cases vz:j<m
    ·have y2:(j:Int)<(m:Int):=by omega
     have hI:jV wr M (.slice ao m ac) Q:=by
      have:=xK.out.dx;unfold jV;rw[HQ.out.2.1];exact this
     have j6:j<Q.length:=(by rw[HQ.out.2.1];exact vz);obtain⟨pb,po',rfl,q1⟩:=hI.at rfl j j6;have hpb:=aF wr _ q1;obtain⟨b,hb,kT,V⟩:=HQ.out.2.2.2 Q[j] (HQ.out.2.2.1 _ (bF j6));have HBQ:=ah hb;rw[hb] at q1;have qo:=Wh mp.mp y.most y.now y.H.old b wr bH.out zm (by omega);rw[show (decide (b<y.most) && y.now b)=true by simp[kT,V]] at qo;have qo:=ah qo
     by_cases vO:j=0
     ·subst vO
      rw[iG] at q1;clear hI hb kT V;go_wp2_with (first|(go_at_call 51;go_must (refine qo.out.mono ?_;rintro e w6 ⟨rfl,l5⟩;subst w6)))
      go_roundw
      case rel=>exact⟨1,by omega,by go_num,trivial⟩
      case measure=>simp[intOf];omega
     ·have fK:j - 1<Q.length:=by omega
      obtain⟨pb',po'',e',q2⟩:=hI.at rfl (j - 1) fK;cases e'
      obtain⟨b2,D,_,_⟩:=HQ.out.2.2.2 Q[j - 1] (HQ.out.2.2.1 _ (bF fK));have hne:¬b2=b:=by
       have:=gX.1 HQ.out.1 (j - 1) j fK j6 (by omega);omega
      rw[D] at q2;have y3:(0:Int)<(j:Int):=(by omega);have y4:IntKind.i64.wrap ((j:Int) - 1)=((j - 1:Nat):Int):=(by rw[aG _ (by omega)];omega);have y5:((j - 1:Nat):Int)<(m:Int):=(by omega);have y6:(0:Int)<=((j - 1:Nat):Int):=(by omega);have y7:¬(b2:Int)=(b:Int):=(by omega);have y8:((b2:Int)==(b:Int))=false:=(by simpa using y7);obtain⟨j1,rX⟩:=nm (j - 1);rw[rX.out] at q2 y4 y5 y6;clear hI hb kT V D;go_wp2_with (first|(go_at_call 51;go_must (refine qo.out.mono ?_;rintro e w6 ⟨rfl,l5⟩;subst w6)))
      go_roundw
      case rel=>exact⟨j+1,by omega,by go_num,trivial⟩
      case measure=>simp[intOf];omega
    ·obtain rfl:j=m:=by omega
     have y2:¬(j:Int)<(j:Int):=(by omega);have HU:=V9 mp.mp y.most y.now y.H.old wr bH.out;have bA:countB y.now 4096=j:=(by rw[o6.out,qc.out];rfl);rw[bA] at HU;have HU:=ah HU;have jv:=ah (aC rF (aC zX (aC hd l6)));clear bA;go_wp2_with (first|(go_at_call 52;go_must (refine HU.out.mono ?_;rintro e w6 ⟨rfl,l5⟩;subst w6)))
     refine jM (f:=31) (args:=#[.pointer (some ⟨t,0,none⟩)]) (by simp) (by simp[go_sem]) ?_;refine(Qf t tr mp false 0 y M _ _ jF.out.1 jF.out.2.1 l6).mono ?_;rintro e u' w7 ⟨rfl,rfl,⟨Sp,oK,o5⟩,h7,dx⟩;rw[qc.out] at oK;refine⟨_,by simp[results,Tryz.results13,go_sem],rfl,Sp,by rw[<-jv.out.2.1,<-jv.out.2.2.1];exact oK,(HX.out.2.2.2.1.trans (Keep.of_below jF.out.2.2 gB) (fun _ _ e=>e.elim)).trans dx (fun g hg e=> ?_),fun g hg=>HX.out.2.2.2.2 g (o5 g hg)⟩;rcases e with e|e
     ·exact(HX.out.2.2.2.2 g e).elim id (fun x=>absurd hg (bg.2 x))
     ·subst e;exact absurd hg (bg.2 jv.out.1)
def Bb (n:Nat)(log:Int):Int:=if log<6\/(n:Int) - 8<log then 1 else 0
theorem VT (d:Nat)(σ:Dk)(f:Nat->Prop)(a:Int)(w:World)(h:qK w f d σ):
  Calls Tryz.prog 37 #[.pointer (some ⟨d,0,none⟩),.int .i64 a] w fun e i=>e= .returned (.int .i64 (Bb σ.n a))/\i=w:=by
 have g:=ah (JH d σ f w h);have l:=h.ok.hi;have q:IntKind.i64.wrap ((σ.n:Int) - 8)=(σ.n:Int) - 8:=aG _ (by omega);clear h;unfold Bb
 by_cases k:a<6
 ·rw[if_pos (.inl k)]
  go_enter Tryz.func37,Tryz.ntmps37;go_wp2_with fail;go_ret;exact⟨rfl,rfl⟩
 ·by_cases j:(σ.n:Int) - 8<a
  ·rw[if_pos (.inr j)]
   go_enter Tryz.func37,Tryz.ntmps37;go_wp2_with (first|(go_at_call 9;go_must (refine g.out.mono ?_;rintro e b ⟨rfl,c⟩;subst b)))
   go_ret;exact⟨rfl,rfl⟩
  ·rw[if_neg (by omega)]
   go_enter Tryz.func37,Tryz.ntmps37;go_wp2_with (first|(go_at_call 9;go_must (refine g.out.mono ?_;rintro e b ⟨rfl,c⟩;subst b)))
   go_ret;exact⟨rfl,rfl⟩
def M8 {a:Im}{n:Nat}(h:a.Ok n):dS a.bH=(16+520*a.ks.length+511)/512:=by
 have e:(a.bH.map fun r=>4+r.length).sum=520*a.ks.length:=by
  unfold Im.bH;rw[Au];have b:=h.img
  revert b
  generalize a.ks=c;intro b
  induction c with
  |nil=>rfl
  |cons k c ih=>
   rw[dK,qg,ih (fun x d=>b x (aX _ d)),bn];have:=b k (bf ..);show 4+(leB k 4++a.img k).length+_=_;rw[ay,bW,this];omega
 unfold dS;rw[e]
def Dk.Ie:∀(k i:Nat) (σ:Dk) (j:Nat),i<=j->j<i+k->(Dk.vO k i σ).get j=pad []
 |0,_,_,_,b,a=>absurd a (by omega)
 |k+1,i,σ,j,b,a=>by
  rw[Dk.Aw,Dk.get_put]
  split
  ·rfl
  ·exact Dk.Ie k i σ j b (by omega)
def QV {σ:Dk}{a:Nat}(f:(Lg.new 0 a).Ok)(e:(Pg.new a).Ok σ (Lg.new 0 a))(c:σ.waits=[])(d:σ.get 0=pad (Lg.new 0 a).fJ):lM σ (Lg.new 0 a) (Pg.new a) (fun _ b=>σ.get (a+b)):=
 ⟨[],⟨f,e,rfl,aD _,aD _,(fun g h=>by cases h),(fun i h=>by cases h),Al.none ⟨d,(fun i h=>by simp[gJ] at h),fun b _=>rfl⟩ c,fun b=>rfl,(by rw[c];exact aD _),fun _=>c⟩,fun k _ _ b _=>by rw[Sz];rfl⟩
structure Mt (σ0:Dk)(log:Nat)(σ:Dk)(l:Lg)(p:Pg):Prop where
 vi:VI σ l p
 last:l.last=1
 synced:l.synced=1
 skip:p.skip=log
 ring:p.ring=log - 1
 n:σ.n=σ0.n
 base:xq σ l p two 0
 rc:∃C,lM σ l p C
 wts:σ.waits=[]
def Mt.live {σ:Dk}{l:Lg}{p:Pg}:Live (cK.start σ l p two) 0 [] []:=by
 refine⟨.inl ⟨rfl,rfl,rfl⟩,(fun e a=>by cases a),⟨qR,fun x b=> ?_,?_⟩⟩
 ·obtain⟨n,rfl,_,h⟩:=cK.kT b
  have h:two n=true:=h;unfold two at h;have:=jS h;omega
 ·show countB (fun x=>two x||two x) (p.blocks σ)=countB two (p.blocks σ)+0
  rw[iG];exact jW _ (fun x _=>Bool.or_self _)
theorem VQ (d:Nat)(σ:Dk)(Sd:Nat->Prop)(f:Nat)(w:World)(h:qK w Sd d σ)(hf:σ.oK)(h1:6<=f)(h2:f+8<=σ.n)(aA:σ.waits.length<=50000):
  Calls Tryz.prog 11 #[.pointer (some ⟨d,0,none⟩),.int .i64 f] w fun e w'=>∃v pg j3 l' p' S',e= .returned (.tuple #[.pointer (some ⟨v,0,none⟩),.int .i64 0])/\w'.heap[v]? =some (.cells #[.pointer (some ⟨pg,0,none⟩)] 88 (0,0))/\¬S' v/\w.heap.size<=v/\ji w' S' pg d j3 l' p' (.pointer none)/\Mt σ f j3 l' p'/\Step Sd S' w w':=by
 have qc:=VT d σ Sd f w h;have dR:Bb σ.n f=0:=by unfold Bb;rw[if_neg (by omega)]
 rw[dR] at qc;have kg:=ah qc;have l6:=h.ok.hi;have lm:=ah (V8 d σ Sd f w h hf (by omega) (by omega) aA);have lQ:=h.sub;clear h qc dR;go_enter Tryz.func11,Tryz.ntmps11;go_wp2_with (first|(go_at_call 37;go_must (refine kg.out.mono ?_;rintro e w1 ⟨rfl,G⟩;subst w1))|(go_at_call 39;go_must (refine lm.out.mono ?_;rintro e w1 ⟨pg,N,rfl,y,fB⟩;refine sO ?_)))
 refine sN ?_;obtain⟨i,l⟩:=nx ((((Dk.vO (σ.n - f) f σ).flush.put 0 (Lg.new 0 f).fJ).flush));rw[<-l] at y;have pM:i.n=σ.n:=by rw[l];exact Dk.Ay _ _ _
 have j5:i.oK:=by rw[l];exact Dk.xE _ _ _ hf
 have G:i.waits=[]:=by rw[l];rfl
 have bN:∀j,f<=j->j<σ.n->i.get j=pad []:=fun j a b=>by
  rw[l,yR _ _ _ _ (by omega)];exact Dk.Ie _ _ _ _ a (by omega)
 have jO:i.get 0=pad (Lg.new 0 f).fJ:=by rw[l,Dk.oO,Dk.get_put,if_pos rfl]
 have di:=ah (QV y.ok.2.2 y.ok.1 G jO);clear jO;have kT:(Pg.new f).blocks i=σ.n - f:=by unfold Pg.blocks;rw[pM];rfl
 have lg:=ah (QL pg d i (Lg.new 0 f) (Pg.new f) N w1 y rfl);have q8:=y.sub;have p9:=ah fB;have s:=ah (aC pM (aC j5 (aC G bN)));clear l y fB pM j5 G bN;go_wp2_with (first|(go_at_call 40;go_must (refine lg.out.mono ?_;rintro e R ⟨t,T,rfl,K,fJ,bA,av⟩;refine sO ?_)))
 refine sN ?_;have X:∀g,N g->¬T g:=fun g I e=>absurd (av g e) (gG.2 (q8 g I))
 have kr:=ah (zJ pg d i (Lg.new 0 f) (Pg.new f) _ N R K);have j6:=ah (UQ t pg d i (Lg.new 0 f) (Pg.new f) _ Im.none N T R.drew (K.below ((aR _ R).drew)) (fJ.below ((aR _ R).drew)) rfl (by omega));clear kT;have jF:=ah (aC K bA);clear K fJ bA;go_wp2_with (first|(go_at_call 42;go_must (refine kr.out.mono ?_;rintro e w3 ⟨rfl,l9⟩;subst w3))|(go_at_call 41;go_must (refine j6.out.mono ?_;rintro e w3 ⟨rfl,M,Z⟩;refine sO ?_)))
 refine sN ?_;obtain⟨im,J⟩:=nx (Im.none.put 0 (bytesOf two));rw[<-J] at M;have qb:=(jF.out.1.below ((aR _ R).drew)).keep Z.1 (fun g I e=>X g I e);have m:im.Ok ((Pg.new f).blocks i):=by obtain⟨_,q⟩:=M;exact q.ok
 have O:im.ks=[0]:=by rw[J];rfl
 have qo:=qb.ok;have jb:VI i (Lg.new 0 f) (Pg.new f):=⟨s.out.2.1,rfl,rfl,by rw[s.out.2.2.1];exact aS _,fun _=>⟨_,di.out⟩⟩;have P:=M0 t pg d i (Lg.new 0 f) (Pg.new f) _ im N T w3 qb M X rfl rfl (by rw[s.out.2.2.1];exact aS _) (by show 0<1000000000000;omega);obtain⟨n,W,o,B,fK,dZ,bC,af,j4,S⟩:∃n W o,(Pg.new f).commit i (Lg.new 0 f) im=(n,W,o,1,0)/\VI n W o/\W.last=1/\o.skip=f/\o.ring=f - 1/\n.n=i.n/\∀b,o.look Im.none n b=(Pg.new f).look im i b:=by
  rcases Mc jb qo.1 qo.2.2 m with ⟨q,_⟩|⟨_,q,_⟩|⟨_,_,n,W,o,q1,q2,q3,q4,q5,q6,q7⟩
  ·rw[O] at q;cases q
  ·unfold Pg.sP at q
   rw[M8 m,O] at q;have:(Pg.new f).ring=f - 1:=rfl;rw[this] at q;simp at q;omega
  ·exact⟨n,W,o,q1,q2,q3,q4,q5,q6,q7⟩
 have D:∃C,lM n W o C:=by
  rcases wO di.out s.out.2.1.1 rfl rfl m (by show 0<1000000000000;omega) with ⟨q,_⟩|⟨_,_,q⟩|⟨_,_,⟨_,_,_,q,_,_,_,_,_,_,_,_,_,r,_⟩|⟨_,_,_,q,_⟩⟩
  ·rw[O] at q;cases q
  ·rw[B] at q;simp at q
  ·rw[B] at q
   simp only[om] at q;obtain⟨rfl,rfl,rfl,_⟩:=q;exact⟨_,r⟩
  ·rw[B] at q;simp at q
 have bB:=ah D;clear D;rw[B] at P;have P:=ah P;have k:=ah (aC fK (aC dZ (aC bC (aC af (aC j4 (aC S J))))));have dn:=ah (jF.out.2.trans ((Step.of_below ((aR _ R).drew):Step N N R R.drew)));have iO:=ah Z;clear qb M m O qo jb B fK dZ bC af j4 S J Z;go_wp2_with (first|(go_at_call 43;go_must (refine P.out.mono ?_;rintro e w4 ⟨rfl,S4,z,lC,fA⟩;refine sO ?_)))
 refine sN ?_;obtain⟨p,l5,H,bH,jv,aB,A,Y⟩:=Qp k.out.1 z.ok.1;have Q:=Uh pg d n W o _ S4 w4 z (by have:=k.out.1.wt;have:=z.ok.2.2.us;have:=z.ok.2.2.hi;omega);have D:(∃C,lM p l5 o C)/\p.waits=[]:=by
  obtain⟨C,hC⟩:=bB.out;rcases CO hC k.out.1.free.1 k.out.1.ld k.out.1.pd with ⟨_,_,q,_,_,_,_,hw,_,_,r,_⟩|⟨_,_,q,_⟩
  ·rw[H] at q
   simp only[om] at q;obtain⟨rfl,rfl,_⟩:=q;exact⟨⟨_,r⟩,hw⟩
  ·rw[H] at q;simp at q
 have V:=ah D;clear D;rw[H] at Q;have Q:=ah Q;have x:=ah (aC bH (aC jv (aC aB (aC A Y))));have dx:=ah fA;clear z lC fA H bH jv aB A Y;go_wp2_with (first|(go_at_call 44;go_must (refine Q.out.mono ?_;rintro e w5 ⟨rfl,S5,jl,ql⟩;refine sO ?_)))
 refine sN ?_;go_wp2_with fail;go_ret2;have fo:=aN w5 (.cells #[.pointer (some ⟨pg,0,none⟩)] 88);have q9:=jl.sub;have ko:w.heap.size<=w5.heap.size:=by
  have a:=p9.out.1.size;have b:=dn.out.1.size;have c:=iO.out.1.size;have d:=dx.out.1.size;have e:=ql.1.size;omega
 have F:=k.out.2.2.1;have E:∀b,o.look Im.none p b=(Pg.new f).look im i b:=fun b=>(x.out.2.2.2.2 Im.none b).trans (k.out.2.2.2.2.2.1 b)
 have A:p.n=σ.n:=x.out.2.2.2.1.trans (k.out.2.2.2.2.1.trans s.out.1);refine⟨w5.heap.size,pg,p,l5,o,S5,rfl,aV w5 _,fun e=>dB _ (q9 _ e),ko,jl.below fo,⟨x.out.1,x.out.2.1.trans k.out.2.1,x.out.2.2.1.trans k.out.2.1,F,k.out.2.2.2.1,A,?_,V.out.1,V.out.2⟩,?_⟩
 ·have lJ:o.blocks p=σ.n - f:=by unfold Pg.blocks;rw[A,F]
  refine⟨k.out.1.pd,x.out.1.free.1,by omega,?_,fun b hb=> ?_,rfl,rfl,?_⟩
  ·rw[E,k.out.2.2.2.2.2.2]
   unfold Pg.look;rw[Im.DT,if_pos rfl];rfl
  ·unfold two
   exact bM (by omega)
  ·rw[E,k.out.2.2.2.2.2.2]
   have:(Pg.new f).look (Im.none.put 0 (bytesOf two)) i 1=pad []:=by
    unfold Pg.look;rw[Im.DT,if_neg (by omega)];exact s.out.2.2.2 (f+1) (by omega) (by omega)
   rw[this];exact⟨by omega,List.replicate 510 0,rfl⟩
 ·have h0:=p9.out.trans dn.out
  have a:Step Sd (fun g=>N g\/T g) w R.drew:=⟨h0.1,fun g I=>I.elim (h0.2 g) (fun e=> .inr (aK p9.out.1.size (av g e)))⟩;have b:Step Sd (fun g=>N g\/T g) w w3:=a.trans ⟨iO.out.1.mono (fun g _ e=> .inr e),fun g I=> .inl I⟩;have c:=b.trans dx.out;have e:Step Sd S5 w w5:=c.trans ⟨ql.1.mono (fun g _ e=> .inl e),fun g I=>(ql.2 g I).imp .inl id⟩;exact e.trans (Step.of_below fo)
theorem P9 (g:Option Addr)(c:ByteArray)(a b:Int)(w:World)(i:Calls Tryz.prog 59 #[.pointer g,.string ⟨#[107]⟩] w fun e d=>d=w/\e= .returned (.int .i64 b))(f:b≠0):
  Calls Tryz.prog 29 #[.pointer g,.string c,.int .i64 a] w fun e d=>d=w/\e= .returned (.tuple #[.slice none 0 0,.int .i64 b]):=by
 have k:(b !=0)=true:=by simp[f]
 have m:=ah i;clear i;go_enter Tryz.func29,Tryz.ntmps29;go_wp2_with (first|(go_at_call 59;go_must (refine m.out.mono ?_;rintro e j ⟨l,rfl⟩;subst j)))
 go_ret2;exact⟨rfl,rfl⟩
theorem KG (d:Option Addr)(b:Int)(w:World)(P:World->Prop)(j:Calls Tryz.prog 59 #[.pointer d,.string ⟨#[107]⟩] w fun e a=>a=w/\e= .returned (.int .i64 b))(f:b≠0)
  (i:Calls Tryz.prog 31 #[.pointer d] w fun e a=>e= .returned (.tuple #[])/\P a):
  Calls Tryz.prog 25 #[.pointer d] w fun e a=>e= .returned (.tuple #[.int .i64 0,.int .i64 b])/\P a:=by
 have k:(b !=0)=true:=by simp[f]
 have n:=ah j;have m:=ah i;clear j i
 go_enter_defers Tryz.func25,Tryz.ntmps25
 go_wp2_with (first|(go_at_call 59;go_must (refine n.out.mono ?_;rintro e g ⟨l,rfl⟩;subst g))|(go_at_call 31;go_must (refine m.out.mono ?_;rintro e g ⟨rfl,c⟩)))
 exact⟨.tuple #[.int .i64 0,.int .i64 b],by simp[results,Ap,go_sem],rfl,c⟩
structure Bf (w:World)(S:Nat->Prop)(v pg d:Nat)(σ:Dk)(l:Lg)(p:Pg)(f:Nat->Bool)(root:Nat)(es:List lU)(tb:List Int):Prop where
 obj:w.heap[v]? =some (.cells #[.pointer (some ⟨pg,0,none⟩)] 88 (0,0))
 nv:¬S v
 pgr:ji w S pg d σ l p (.pointer none)
 vi:VJ σ l p
 base:xq σ l p f root
 live:Live (cK.start σ l p f) root es tb
structure Vz (σ:cK)(root:Nat)(es:List lU)(tb:List Int):Prop where
 vi:VJ σ.H.dk σ.H.lg σ.H.pg
 base:xq σ.H.dk σ.H.lg σ.H.pg σ.H.old root
 live:Live (cK.start σ.H.dk σ.H.lg σ.H.pg σ.H.old) root es tb
structure vM (w:World)(S:Nat->Prop)(v t tr:Nat)(mp:VS)(σ:cK)(root:Int)(es:List lU)(tb:List Int)(ch:Bool)(root0:Nat)(es0:List lU)(tb0:List Int):Prop where
 obj:w.heap[v]? =some (.cells #[.pointer (some ⟨mp.pg,0,none⟩)] 88 (0,0))
 nv:¬S v
 tx:Bg w S t tr mp σ root 0 ch 0
 live:Live σ root es tb
 bas:Vz σ root0 es0 tb0
 ch:ch=false->σ=cK.start σ.H.dk σ.H.lg σ.H.pg σ.H.old/\es=es0
structure Mw (w:World)(S:Nat->Prop)(v t tr:Nat)(mp:VS)(σ:cK)(ch:Bool)(root0:Nat)(es0:List lU)(tb0:List Int):Prop where
 obj:w.heap[v]? =some (.cells #[.pointer (some ⟨mp.pg,0,none⟩)] 88 (0,0))
 nv:¬S v
 tx:∃root err,Bg w S t tr mp σ root err ch 12
 bas:Vz σ root0 es0 tb0
def Qh {w:World}{v t pg:Nat}{mp:VS}{tr:Option Nat}{ch:Bool}{b:Int}(h:w.heap[v]? =some (.cells #[.pointer (some ⟨pg,0,none⟩)] 88 (0,0)))(a:w.heap[t]? =some (.cells (dF mp tr ch b) 100 (0,0))):v≠t:=by
 rintro rfl;rw[h] at a;injection a with a
 injection a with _ h2
 exact absurd h2 (by decide)
def SN {w:World}{v t pg:Nat}{mp:VS}{root b:Int}(h:w.heap[v]? =some (.cells #[.pointer (some ⟨pg,0,none⟩)] 88 (0,0)))(a:dw w t mp root b):v≠t:=by
 rintro rfl;unfold dw at a;rw[h] at a;injection a with a
 injection a with _ h2
 exact absurd h2 (by decide)
def vM.Gx {w d:World}{S j:Nat->Prop}{v t tr:Nat}{mp:VS}(h:w.heap[v]? =some (.cells #[.pointer (some ⟨mp.pg,0,none⟩)] 88 (0,0)))(i:¬S v){ch:Bool}{k root a:Int}(b:w.heap[t]? =some (.cells (dF mp (some tr) ch k) 100 (0,0)))(c:dw w tr mp root a)(g:gM S j t tr w d):
  d.heap[v]? =some (.cells #[.pointer (some ⟨mp.pg,0,none⟩)] 88 (0,0))/\¬j v:=by
 have f:=(ai.1 h).1;refine⟨(g.1.block v f (fun e=> ?_)).trans h,fun e=>(g.2 v e).elim i (fun x=>absurd f (bg.2 x))⟩;rcases e with e|e|e
 ·exact i e
 ·exact Qh h b e
 ·exact SN h c e
def Bf.below {w:World}{S:Nat->Prop}{v pg d:Nat}{σ:Dk}{l:Lg}{p:Pg}{f:Nat->Bool}{root:Nat}{es:List lU}{tb:List Int}(h:Bf w S v pg d σ l p f root es tb)(a:Below w.heap.size w w'):Bf w' S v pg d σ l p f root es tb:=
 ⟨(a.block v (ai.1 h.obj).1).trans h.obj,h.nv,h.pgr.below a,h.vi,h.base,h.live⟩
def Bf.step {w w':World}{S S':Nat->Prop}{v pg d:Nat}{σ:Dk}{l:Lg}{p:Pg}{f:Nat->Bool}{root:Nat}{es:List lU}{tb:List Int}(h:Bf w S v pg d σ l p f root es tb){a:Dk}{c:Lg}{g:Pg}(k:ji w' S' pg d a c g (.pointer none))(i:Step S S' w w')(n:VJ a c g)(j:xq a c g f root)(m:Live (cK.start a c g f) root es tb):Bf w' S' v pg d a c g f root es tb:=by
 have b:=(ai.1 h.obj).1;exact⟨(i.1.block v b h.nv).trans h.obj,fun e=>(i.2 v e).elim h.nv (fun x=>absurd b (bg.2 x)),k,n,j,m⟩
def vM.below {w:World}{S:Nat->Prop}{v t tr:Nat}{mp:VS}{σ:cK}{root:Int}{es:List lU}{tb:List Int}{ch:Bool}{root0:Nat}{es0:List lU}{tb0:List Int}(h:vM w S v t tr mp σ root es tb ch root0 es0 tb0)(a:Below w.heap.size w w'):vM w' S v t tr mp σ root es tb ch root0 es0 tb0:=
 ⟨(a.block v (ai.1 h.obj).1).trans h.obj,h.nv,h.tx.below a,h.live,h.bas,h.ch⟩
def Jb {σ:cK}{root:Nat}{es:List lU}{tb:List Int}(m:σ.Ok)(k:Live σ root es tb)(A:root<65536){c:Dk}{i:Lg}{d:Pg}(y:d.blocks c=σ.most)(r:VJ c i d)(j:∀b,b<σ.most->d.look Im.none c b=σ.H.pg.look (σ.sealed root).im σ.H.dk b):
  xq c i d σ.now root/\Live (cK.start c i d σ.now) root es tb:=by
 have E:=m.two;have p:∀b,b<σ.most->d.look Im.none c b=if b=0 then bytesOf σ.now else if b=1 then pad (pF root) else σ.mem (b:Nat):=by
  intro b o;rw[j b o];show σ.H.pg.look ((σ.im.put 1 (pad (pF root))).put 0 (bytesOf σ.now)) σ.H.dk b=_;rw[qA,qA]
  split
  ·rfl
  ·split
   ·rfl
   ·unfold cK.mem;rw[fE]
 refine⟨⟨r.pd,r.nd,by omega,by rw[p 0 (by omega),if_pos rfl],fun b C=>m.nhi b (by omega),m.n0,m.n1,?_⟩,?_⟩
 ·rw[p 1 (by omega),if_neg (by omega),if_pos rfl]
  exact⟨A,List.replicate (512 - (pF root).length) 0,rfl⟩
 ·have g:∀x,(cK.start c i d σ.now).hasB x=σ.hasB x:=fun x=>by
   show (decide (0<=x) && (decide (x.toNat<d.blocks c) && σ.now x.toNat))=_;rw[y];rfl
  have l:∀x∈tb++dO es,(cK.start c i d σ.now).hasB x=true/\(cK.start c i d σ.now).mem x=σ.mem x:=by
   intro x f;obtain⟨a,b⟩:=k.all x f;refine⟨by rw[g];exact a,?_⟩;obtain⟨D,t,s,_⟩:=cK.kT a;show d.look Im.none c x.toNat=_;rw[p _ (by omega),if_neg (by omega),if_neg (by omega)];congr 1;omega
  refine⟨?_,fun e q=>(k.val e q).keep fun x f=>l x (bY _ (kF.2 ⟨e,q,f⟩)),⟨k.own.nd,fun x f=>k.own.ex x (by rw[<-g];exact f),?_⟩⟩
  ·rcases k.tree with h|⟨h,v⟩
   ·exact .inl h
   ·exact .inr ⟨h,v.move fun x f=>l x (dh _ f)⟩
  ·have z:nh (cK.start c i d σ.now) (tb++dO es)=0:=by
    unfold nh;rw[List.filter_eq_nil_iff.2]
    ·rfl
    ·intro x f
     obtain⟨n,e,_,B⟩:=cK.kT (k.all x f).1;have:(cK.start c i d σ.now).held x=true:=by
      show (decide (0<=x) && σ.now x.toNat)=true;rw[e,fE,B];simp
     rw[this];simp
   rw[z,iG];exact jW _ (fun x _=>Bool.or_self _)
def Ob {σ:cK}{S:Nat->Prop}{mp:VS}{w:World}(h:Inv σ S mp w)(root:Nat):(σ.sealed root).im.Ok (σ.H.pg.blocks σ.H.dk)/\(σ.sealed root).im.ks.length+countB σ.H.old σ.most<=σ.tk+2/\(σ.sealed root).im.ks≠[]:=by
 have a:=h.ok;have d:=a.most;have j:=a.two;obtain⟨i,T,h,_⟩:=h;have g:σ.im.Ok σ.most:=by obtain⟨_,q⟩:=h.tx;exact q.ok
 have f:=g.put 1 (pad (pF root)) (by omega) (pX (by simp[pF]));have c:=f.put 0 (bytesOf σ.now) (by omega) (wQ _);have b:(σ.sealed root).Ok:=(a.wrote 1 (pad (pF root)) (pX (by simp[pF])) (by omega) (.inl (by omega))).wrote 0 (bytesOf σ.now) (wQ _) (by show 0<σ.most;omega) (.inl (by omega));refine⟨by rw[<-d];exact c,b.Vb c.rise,fun e=> ?_⟩;have:0∈(σ.sealed root).im.ks:=mJ.2 (.inl rfl);rw[e] at this;cases this
structure gV where
 F:Nat->Prop
 w:World
 D:Nat->Dk->Lg->Pg->Prop
def Ur:Nat->Dk->Lg->Pg->Prop:=fun _ σ _ _=>σ.fuel= -1
instance :Coe World gV:=⟨fun w=>⟨fun g=>g<w.heap.size,w,Ur⟩⟩
structure gV.Calm (b:gV):Prop where
 one:∀{d:Nat} {σ:Dk} {l:Lg} {p:Pg},b.D d σ l p->σ.fuel= -1
 two:∀{d:Nat} {σ σ':Dk} {l l':Lg} {p p':Pg},b.D d σ l p->σ'.fuel= -1->b.D d σ' l' p'
def Nr {b:gV}(h:b.D=Ur):b.Calm:=⟨fun e=>by rw[h] at e;exact e,fun _ e=>by rw[h];exact e⟩
def gV.to (b:gV)(D:Nat->Dk->Lg->Pg->Prop):gV:=⟨b.F,b.w,D⟩
structure VB (b:gV)(w:World)(S:Nat->Prop):Prop where
 os:w.os=b.w.os
 tape:w.tape=b.w.tape
 output:w.output=b.w.output
 size:b.w.heap.size<=w.heap.size
 block:∀g,b.F g->w.heap[g]? =b.w.heap[g]?
 fs:∀g,b.F g->g<b.w.heap.size
 lo:∀g,S g->¬b.F g
def VB.to {b:gV}{w:World}{S:Nat->Prop}(h:VB b w S){D:Nat->Dk->Lg->Pg->Prop}:VB (b.to D) w S:=⟨h.os,h.tape,h.output,h.size,h.block,h.fs,h.lo⟩
def VB.nU {w0 w:World}{S:Nat->Prop}(h:VB w0 w S):Below w0.heap.size w0 w:=⟨h.os,h.tape,h.output,h.size,fun k a=>h.block k a⟩
def VB.of {w0 w:World}{S:Nat->Prop}(h:Below w0.heap.size w0 w)(c:∀g,S g->w0.heap.size<=g):VB w0 w S:=⟨h.os,h.tape,h.output,h.size,fun k b=>h.block k b,fun _ a=>a,fun g a=>bg.2 (c g a)⟩
def VB.keep {b:gV}{w:World}{S S':Nat->Prop}(h:VB b w S)(a:Keep M w w')(i:∀g,b.F g->¬M g)(f:∀g,S' g->S g\/w.heap.size<=g):VB b w' S':=
 ⟨a.os.trans h.os,a.tape.trans h.tape,a.output.trans h.output,aK h.size a.size,fun g c=>(a.block g (ax (h.fs g c) h.size) (i g c)).trans (h.block g c),h.fs,fun g c d=>(f g c).elim (fun e=>h.lo g e d) (fun e=>absurd (ax (h.fs g d) h.size) (bg.2 e))⟩
def VB.step {b:gV}{w w':World}{S S':Nat->Prop}(h:VB b w S)(a:Step S S' w w'):VB b w' S':=h.keep a.1 (fun g c e=>h.lo g e c) a.2
def VB.zn {b:gV}{w f:World}{S d:Nat->Prop}{t tr:Nat}(h:VB b w S)(j:¬b.F t)(a:¬b.F tr)(i:gM S d t tr w f):VB b f d:=h.keep i.1 (fun g c e=>by
  rcases e with e|e|e
  ·exact h.lo g e c
  ·exact j (e▸c)
  ·exact a (e▸c)) i.2
def VB.below {b:gV}{w:World}{S:Nat->Prop}(h:VB b w S)(a:Below w.heap.size w w'):VB b w' S:=h.step (Step.of_below a)
def VB.new {b:gV}{w:World}{S:Nat->Prop}(h:VB b w S){g:Nat}(c:w.heap.size<=g):¬b.F g:=fun a=>absurd (ax (h.fs g a) h.size) (bg.2 c)
section
variable {w:World} {S:Nat->Prop} {v pg d:Nat} {σ:Dk} {l:Lg} {p:Pg} {f:Nat->Bool} {root:Nat} {es:List lU} {tb:List Int}
def Bf.begin (h:Bf w S v pg d σ l p f root es tb):
  Calls Tryz.prog 21 #[.pointer (some ⟨v,0,none⟩)] w fun e q=>∃t tr mp r,e= .returned (.tuple #[.pointer (some ⟨t,0,none⟩),.int .i64 0])/\mp.pg=pg/\mp.d=d/\vM q r v t tr mp (cK.start σ l p f) root es tb false root es tb/\Step S r w q/\w.heap.size<=t/\w.heap.size<=tr:=by
 refine(Qe v pg d σ l p f root S w h.obj h.nv h.pgr h.base.pd h.base.sd h.base.two h.base.map h.base.hi h.base.f0 h.base.f1 h.base.root).mono ?_;rintro e z ⟨t,tr,mp,y,rfl,c,s,k,n,m,a,j,o,i,g⟩;have b:=(ai.1 h.obj).1;exact⟨t,tr,mp,y,rfl,c,s,⟨by rw[c];exact(a.1.block v b h.nv).trans h.obj,fun e=>(a.2 v e).elim h.nv (fun x=>absurd b (bg.2 x)),⟨k,n,m,j,o⟩,h.live,⟨h.vi,h.base,h.live⟩,fun _=>⟨rfl,rfl⟩⟩,a,i,g⟩
def Bf.check (h:Bf w S v pg d σ l p f root es tb)(i:es.length<=4090):
  Calls Tryz.prog 13 #[.pointer (some ⟨v,0,none⟩)] w fun e b=>e= .returned (.int .i64 0)/\∃a,Bf b a v pg d σ l p f root es tb/\Step S a w b:=by
 refine(Qd v pg d σ l p f root S w es tb h.obj h.nv h.pgr h.base h.live i).mono ?_;rintro e b ⟨rfl,a,g,c⟩;exact⟨rfl,a,h.step g c h.vi h.base h.live,c⟩
def Bf.blocks (h:Bf w S v pg d σ l p f root es tb):
  Calls Tryz.prog 14 #[.pointer (some ⟨v,0,none⟩)] w fun e a=>e= .returned (.int .i64 (p.blocks σ))/\Bf a S v pg d σ l p f root es tb/\Below w.heap.size w a:=by
 refine(MI v pg d σ l p _ S w h.obj h.pgr).mono ?_;rintro e a ⟨rfl,rfl⟩;have b:Below w.heap.size w w.drew:=(aR _ w).drew;exact⟨rfl,h.below b,b⟩
def Bf.done (h:Bf w S v pg d σ l p f root es tb)(b:(l.last:Int)<=1000000000000):
  Calls Tryz.prog 12 #[.pointer (some ⟨v,0,none⟩)] w fun e a=>e= .returned (.int .i64 ((l.last:Int) - 1))/\a=w:=Qc v pg d σ l p _ S w h.obj h.pgr b
end
section
variable {w:World} {S:Nat->Prop} {v t tr:Nat} {mp:VS} {σ:cK} {root:Int} {es:List lU} {tb:List Int} {ch:Bool} {root0:Nat} {es0:List lU} {tb0:List Int}
def MJ {a:Nat->Prop}(d:w.heap[v]? =some (.cells #[.pointer (some ⟨mp.pg,0,none⟩)] 88 (0,0)))(l:¬S v){o:Int}(f:w.heap[t]? =some (.cells (dF mp (some tr) ch o) 100 (0,0)))(i:Vz σ root0 es0 tb0)(m:ji b a mp.pg mp.d σ.H.dk σ.H.lg σ.H.pg (.pointer none))(k:∀g,a g->S g)(j:Keep (fun g=>S g\/g=t) w b):
  Bf b a v mp.pg mp.d σ.H.dk σ.H.lg σ.H.pg σ.H.old root0 es0 tb0/\gM S a t tr w b:=by
 have c:=(ai.1 d).1;exact⟨⟨(j.block v c (fun e=>e.elim l (Qh d f))).trans d,fun e=>l (k v e),m,i.vi,i.base,i.live⟩,j.mono (fun g _ e=>e.imp id .inl),fun g n=> .inl (k g n)⟩
def vM.abort (h:vM w S v t tr mp σ root es tb ch root0 es0 tb0):
  Calls Tryz.prog 31 #[.pointer (some ⟨t,0,none⟩)] w fun e d=>e= .returned (.tuple #[])/\∃f,Bf d f v mp.pg mp.d σ.H.dk σ.H.lg σ.H.pg σ.H.old root0 es0 tb0/\gM S f t tr w d/\d.heap[t]? =some (.cells (dF mp none ch 0) 100 (0,0))/\¬f t:=by
 refine(Qg t tr mp ch 0 σ S w h.tx.tx h.tx.inv h.tx.nt).mono ?_;rintro e d ⟨rfl,⟨i,g,c⟩,k,j⟩;obtain⟨a,b⟩:=MJ h.obj h.nv h.tx.tx h.bas g c j;exact⟨rfl,i,a,b,k,fun e=>h.tx.nt (c t e)⟩
def Mw.abort (h:Mw w S v t tr mp σ ch root0 es0 tb0):
  Calls Tryz.prog 31 #[.pointer (some ⟨t,0,none⟩)] w fun e f=>e= .returned (.tuple #[])/\∃g,Bf f g v mp.pg mp.d σ.H.dk σ.H.lg σ.H.pg σ.H.old root0 es0 tb0/\gM S g t tr w f:=by
 obtain⟨l,m,c⟩:=h.tx;refine(Qg t tr mp ch 12 σ S w c.tx c.inv c.nt).mono ?_;rintro e f ⟨rfl,⟨j,i,d⟩,_,k⟩;obtain⟨a,b⟩:=MJ h.obj h.nv c.tx h.bas i d k;exact⟨rfl,j,a,b⟩
def Mw.usable (h:Mw w S v t tr mp σ ch root0 es0 tb0)(a:ByteArray):
  Calls Tryz.prog 59 #[.pointer (some ⟨t,0,none⟩),.string a] w fun e b=>b=w/\e= .returned (.int .i64 12):=by
 obtain⟨d,f,c⟩:=h.tx;have:=oC t mp tr ch 12 a w c.tx;unfold iP at this;rwa [if_pos (by decide)] at this
def Mw.commit (h:Mw w S v t tr mp σ ch root0 es0 tb0):
  Calls Tryz.prog 25 #[.pointer (some ⟨t,0,none⟩)] w fun e b=>e= .returned (.tuple #[.int .i64 0,.int .i64 12])/\∃a,Bf b a v mp.pg mp.d σ.H.dk σ.H.lg σ.H.pg σ.H.old root0 es0 tb0/\gM S a t tr w b:=
 KG _ 12 w _ (h.usable _) (by decide) h.abort
def vM.spoilt (h:vM w S v t tr mp σ root es tb ch root0 es0 tb0){e:World}(i:um t tr mp S σ ch w e):
  ∃c d,Mw e d v t tr mp c ch root0 es0 tb0/\c.H=σ.H/\gM S d t tr w e:=by
 obtain⟨c,d,j,l,k,f,m,g⟩:=i;obtain⟨a,b⟩:=vM.Gx h.obj h.nv h.tx.tx h.tx.tree g;refine⟨c,d,⟨a,b,⟨j,l,k⟩,?_⟩,f,g⟩;have:=h.bas;obtain⟨x,y,z⟩:=this;rw[<-f] at x y z;exact⟨x,y,z⟩
def vM.moved (h:vM w S v t tr mp σ root es tb ch root0 es0 tb0){j:World}{c:cK}{i:Nat->Prop}{d:Int}{f:List lU}{g:List Int}{e:Bool}(k:Bg j i t tr mp c d 0 e 0)(o:Live c d f g)(l:c.H=σ.H)(n:gM S i t tr w j)(m:e=false->c=cK.start c.H.dk c.H.lg c.H.pg c.H.old/\f=es0):vM j i v t tr mp c d f g e root0 es0 tb0:=by
 obtain⟨a,b⟩:=vM.Gx h.obj h.nv h.tx.tx h.tx.tree n;refine⟨a,b,k,o,?_,m⟩;obtain⟨x,y,z⟩:=h.bas;rw[<-l] at x y z;exact⟨x,y,z⟩
def vM.get (h:vM w S v t tr mp σ root es tb ch root0 es0 tb0)(b:ByteArray)(f:es.length<=4090)(g:1<=b.size/\b.size<=128):
  Calls Tryz.prog 36 #[.pointer (some ⟨t,0,none⟩),.string b] w fun e c=>e= .returned (.tuple #[.string ((dL (je es) b).getD ByteArray.empty),.bool (dL (je es) b).isSome,.int .i64 0])/\vM c S v t tr mp σ root es tb ch root0 es0 tb0/\Below w.heap.size w c:=by
 obtain⟨a,o,r,i⟩:=Mk es b;refine(xH t tr mp root ch σ S w es a o r tb b h.tx h.live i f g).mono ?_;rintro e c ⟨rfl,d⟩;exact⟨rfl,h.below d,d⟩
def vM.usable (h:vM w S v t tr mp σ root es tb ch root0 es0 tb0)(a:ByteArray):
  Calls Tryz.prog 59 #[.pointer (some ⟨t,0,none⟩),.string a] w fun e b=>b=w/\e= .returned (.int .i64 (iP 0 a)):=oC t mp tr ch 0 a w h.tx.tx
end
def ze.QD {σ:cK}{root:Int}{f:List Pr}{i:List Int}(h:ze σ root f i)(j:σ.most<=4096):∃n:Nat,root=n/\n<=4096:=by
 rcases h with ⟨rfl,_,_⟩|⟨h,b⟩
 ·exact⟨0,rfl,aS _⟩
 ·have g:σ.hasB root=true:=by
   cases h with
   |zero=>obtain⟨c,a,_⟩:=b;exact a.has
   |succ h=>obtain⟨c,d,a,_⟩:=b;exact a.has
  obtain⟨n,e,a,_⟩:=cK.kT g;exact⟨n,e,by omega⟩
def Rj {es l o r:List lU}{v:ByteArray}(b:uw es a l o r)(h:dL (je es) a=some v):kC (je es) a v=je es:=by
 rw[b.lv] at h;rcases b.one with rfl|⟨e,rfl,c⟩
 ·cases h
 ·have d:e.v=v:=by simpa using h
  rw[b.iv e.s v e.b,b.eq,nN,nN,nN,aM];congr 1;simp[je,c,d]
def ByteArray.bne {b:ByteArray}(h:a≠b):(a.toList==b.toList)=false:=by
 rw[fM];intro e;exact h (SC (FR.1 (by rw[toList_eq,toList_eq] at e;exact e)))
section
variable {w:World} {S:Nat->Prop} {v t tr:Nat} {mp:VS} {σ:cK} {root:Int} {es:List lU} {tb:List Int} {ch:Bool} {root0:Nat} {es0:List lU} {tb0:List Int}
def Hu (w:World)(S:Nat->Prop)(v t tr:Nat)(mp:VS)(σ:cK)(es:List lU)(tb:List Int)(ch':Bool)(root0:Nat)(es0:List lU)(tb0:List Int)(c W:Nat)(qs:List Pr)(w':World):Prop:=
 ∃σ' S' root' es' tb',vM w' S' v t tr mp σ' root' es' tb' ch' root0 es0 tb0/\je es'=qs/\σ'.H=σ.H/\σ'.most=σ.most/\gM S S' t tr w w'/\WO σ σ' tb c/\mW σ σ' (tb++dO es) (tb'++dO es')/\(es'.length<=299->zh σ σ' W)
def R4 (w:World)(S:Nat->Prop)(v t tr:Nat)(mp:VS)(σ:cK)(ch:Bool)(root0:Nat)(es0:List lU)(tb0:List Int)(w':World):Prop:=
 ∃σ' S',Mw w' S' v t tr mp σ' ch root0 es0 tb0/\σ'.H=σ.H/\gM S S' t tr w w'
def vM.put (h:vM w S v t tr mp σ root es tb ch root0 es0 tb0)(c b:ByteArray)(y:es.length<=4090)(p:1<=c.size/\c.size<=128)(E:b.size<=49152):
  Calls Tryz.prog 23 #[.pointer (some ⟨t,0,none⟩),.string c,.string b] w fun e f=>
   (e= .returned (.int .i64 0)/\Hu w S v t tr mp σ es tb (ch|| !decide (dL (je es) c=some b)) root0 es0 tb0 (2*(es.length+1)+gu b) (65+gu b) (kC (je es) c b) f)\/
   (e= .returned (.int .i64 12)/\σ.most+nh σ tb<σ.sz+2*(es.length+1)+gu b/\R4 w S v t tr mp σ ch root0 es0 tb0 f):=by
 obtain⟨a,o,r,l⟩:=Mk es c
 by_cases m:dL (je es) c=some b
 ·refine(NP t tr mp root ch σ S w es a o r tb c b h.tx h.live l y p E m).mono ?_
  rintro e f ⟨rfl,C⟩;refine .inl ⟨rfl,σ,S,root,es,tb,?_,(Rj l m).symm,rfl,rfl,gM.of (Step.of_below C),fun _ _ t=>t,mW.refl (fun x A=>(h.live.all x A).1),fun _=>(zh.refl _).more (aS _)⟩;have:(ch|| !decide (dL (je es) c=some b))=ch:=by simp[m]
  rw[this];exact h.below C
 ·have Q:(ch|| !decide (dL (je es) c=some b))=true:=by simp[m]
  rw[Q];have k:∀(d:Bool) (j:ByteArray),(dL (je es) c).isSome=d/\(dL (je es) c).getD ByteArray.empty=j->d=true->(j.toList==b.toList)=false:=by
   rintro d j ⟨J,B⟩ F;refine ByteArray.bne fun e=>m ?_
   subst F;obtain⟨x,A⟩:=Option.isSome_iff_exists.1 J;rw[A] at B ⊢;rw[<-e,<-B];rfl
  have g:∀(e:Ending) (f:World),((e= .returned (.int .i64 0)/\Ho t tr mp S σ es a r tb c b w f)\/(e= .returned (.int .i64 12)/\σ.most+nh σ tb<σ.sz+2*(es.length+1)+gu b/\um t tr mp S σ ch w f))->
    ((e= .returned (.int .i64 0)/\Hu w S v t tr mp σ es tb true root0 es0 tb0 (2*(es.length+1)+gu b) (65+gu b) (kC (je es) c b) f)\/(e= .returned (.int .i64 12)/\σ.most+nh σ tb<σ.sz+2*(es.length+1)+gu b/\R4 w S v t tr mp σ ch root0 es0 tb0 f)):=by
   rintro e f (⟨rfl,z,P,i,q,s,G,I,R,n,D,K,H⟩|⟨rfl,O,N⟩)
   ·exact .inl ⟨rfl,z,P,i,_,q,h.moved I R n.H D (fun e=>by cases e),(l.iv s b G).symm,n.H,n.most,D,K,n,H⟩
   ·exact .inr ⟨rfl,O,h.spoilt N⟩
  by_cases M:b.size<=63
  ·exact(KE t tr mp root ch σ S w es a o r tb c b h.tx h.live l y p M _ _ ⟨rfl,rfl⟩ (k _ _ ⟨rfl,rfl⟩)).mono g
  ·exact(NQ t tr mp root ch σ S w es a o r tb c b h.tx h.live l y p ⟨by omega,E⟩ _ _ ⟨rfl,rfl⟩ (k _ _ ⟨rfl,rfl⟩)).mono g
def Rx {es l o r:List lU}(b:uw es a l o r)(h:dL (je es) a=none):l++r=es:=by
 rw[b.lv] at h;rcases b.one with rfl|⟨e,rfl,c⟩
 ·rw[b.eq,dM]
 ·cases h
theorem FW (t tr:Nat)(mp:VS)(root:Int)(ch:Bool)(σ:cK)(S:Nat->Prop)(w:World)(es l o r:List lU)(tb:List Int)(a:ByteArray)(i:Bg w S t tr mp σ root 0 ch 0)(O:Live σ root es tb)(P:uw es a l o r)(X:es.length<=4090)(z:1<=a.size/\a.size<=128)(f:dL (je es) a=none):
  Calls Tryz.prog 117 #[.pointer (some ⟨t,0,none⟩),.string a] w fun e M=>e= .returned (.tuple #[.bool false,.int .i64 0])/\Bg M S t tr mp σ root 0 ch 0/\gM S S t tr w M:=by
 have E:=uH i.tx i.tree;have R:=ah (oC t mp tr ch 0 a w i.tx);have Q:iP 0 a=0:=by unfold iP;rw[if_neg (by simp),if_neg (by omega)]
 rw[Q] at R;have J:(jh es).length<=4090:=by rw[eH];exact X
 have j:dL (jh es) a=none:=by
  rw[P.lv] at f;rw[P.ls];cases W:o.head? with
  |none=>rfl
  |some e=>rw[W] at f;cases f
 have HD:=ah (Cx t tr mp root ch 0 σ S w (jh es) tb a i.tx i.inv i.tree O.tree J z (by rw[j];rfl) (by rw[j];exact aS _));obtain⟨n,A,v⟩:=O.tree.look (by omega) a;rw[j] at v;have D:=ah i;have V:=(ai.1 i.tx).1;have G:=ah v;clear i Q f j v;go_enter Tryz.func117,Tryz.ntmps117;go_wp2_with (first|(go_at_call 59;go_must (refine R.out.mono ?_;rintro e C ⟨Y,rfl⟩;subst C))|(go_at_call 60;go_must (refine HD.out.mono ?_;rintro e C ⟨rfl,k⟩;refine sO ?_)))
 refine sN ?_;have c:=D.out.below k;have I:=ah (BF tr mp root σ S a C c.inv c.tree z.1 z.2 n A G.out);have c2:C.cell? ⟨t,2,none⟩=some (.pointer (some ⟨tr,0,none⟩)):=by simp[World.cell?,c.tx,dF]
 have N:=(ai.1 c.tx).1;have K:=ah c;clear c;go_wp2_with (first|(go_at_call 161;go_must (refine I.out.mono ?_;rintro e x ⟨rfl,q⟩;refine sO ?_)))
 refine sN ?_;have d:=K.out.below q;have T:=(ai.1 d.tx).1;have Z:x.cell? ⟨t,3,none⟩=some (.bool ch):=by simp[World.cell?,d.tx,dF]
 have f3:x.frozen? ⟨t,3,none⟩=false:=by simp[World.frozen?,d.tx]
 have m:=ah d;have B:gM S S t tr w x:=gM.of (Step.of_below (k.trans (q.mono k.size)));have F:=ah B;clear d k q B;have y:∀b:Bool,b=ch->Bg (x.setCell ⟨t,3,none⟩ (.bool b)) S t tr mp σ root 0 ch 0/\gM S S t tr w (x.setCell ⟨t,3,none⟩ (.bool b)):=by
  rintro b rfl;have s:Keep (· =t) x (x.setCell ⟨t,3,none⟩ (.bool b)):=(Keep.refl (· =t) _).setCell (p:=⟨t,3,none⟩) (.inr rfl) _;refine⟨⟨?_,(s.block tr (ai.1 m.out.tree).1 (fun e=>E e.symm)).trans m.out.tree,m.out.inv.lQ s (fun g z e=>D.out.nt (e▸z)),D.out.nt,D.out.ntr⟩,F.out.trans (gM.one s)⟩;simp[World.setCell,aQ,m.out.tx];rfl
 have H:=ah y;clear y;cases ch
 all_goals
  go_wp2_with fail;go_ret2;exact⟨rfl,H.out _ rfl⟩
def vM.delete (h:vM w S v t tr mp σ root es tb ch root0 es0 tb0)(b:ByteArray)(q:es.length<=4090)(l:1<=b.size/\b.size<=128):
  Calls Tryz.prog 117 #[.pointer (some ⟨t,0,none⟩),.string b] w fun e g=>
   (e= .returned (.tuple #[.bool (dL (je es) b).isSome,.int .i64 0])/\Hu w S v t tr mp σ es tb (ch||(dL (je es) b).isSome) root0 es0 tb0 (2*(es.length+1)) 65 (jR (je es) b) g)\/
   (e= .returned (.tuple #[.bool false,.int .i64 12])/\σ.most+nh σ tb<σ.sz+2*(es.length+1)/\R4 w S v t tr mp σ ch root0 es0 tb0 g):=by
 obtain⟨a,o,r,f⟩:=Mk es b;cases d:dL (je es) b with
 |none=>
  refine(FW t tr mp root ch σ S w es a o r tb b h.tx h.live f q l d).mono ?_;rintro e g ⟨rfl,z,s⟩;refine .inl ⟨rfl,σ,S,root,es,tb,?_,by rw[f.dv,Rx f d],rfl,rfl,s,fun _ _ t=>t,mW.refl (fun x d=>(h.live.all x d).1),fun _=>(zh.refl _).more (aS _)⟩;have:(ch||Option.isSome (none:Option ByteArray))=ch:=by simp
  rw[this];exact h.moved z h.live rfl s h.ch
 |some x=>
  refine(SL t tr mp root ch σ S w es a o r tb b h.tx h.live f q l).mono ?_;rw[d];rintro e g (⟨rfl,k,D,c,j,m,E,i,p,A,y⟩|⟨rfl,C,B⟩)
  ·have n:(ch||Option.isSome (some x))=true:=by simp
   rw[d,n] at m;rw[n];exact .inl ⟨rfl,k,D,c,_,j,h.moved m E i.H p (fun e=>by cases e),f.dv.symm,i.H,i.most,p,A,i,y⟩
  ·exact .inr ⟨rfl,C,h.spoilt B⟩
def vM.scan (h:vM w S v t tr mp σ root es tb ch root0 es0 tb0)(b:ByteArray)(a:Int)(d:es.length<=4090):
  Calls Tryz.prog 29 #[.pointer (some ⟨t,0,none⟩),.string b,.int .i64 a] w fun e c=>∃v,e= .returned (.tuple #[v,.int .i64 0])/\aT c S w.heap.size 103 2 v (vR (je es) b a).length (dP (vR (je es) b a))/\Below w.heap.size w c:=
 VO t tr mp root ch σ S w es tb b a h.tx h.live d
def vM.no (h:vM w S v t tr mp σ root es tb ch root0 es0 tb0)(c:¬(1<=a.size/\a.size<=128)):
  Calls Tryz.prog 59 #[.pointer (some ⟨t,0,none⟩),.string a] w fun e b=>b=w/\e= .returned (.int .i64 1):=by
 have:=h.usable a;unfold iP at this;rwa [if_neg (by simp),if_pos (by omega)] at this
def Px (w:World)(S:Nat->Prop)(v t tr:Nat)(mp:VS)(σ:cK)(es:List lU)(tb:List Int)(ch:Bool)(root0:Nat)(es0:List lU)(tb0:List Int)(e:Ending)(w':World):Prop:=
 ∃S',gM S S' t tr w w'/\
  ((ch=false/\es=es0/\e= .returned (.tuple #[.int .i64 ((σ.H.lg.last:Int) - 1),.int .i64 0])/\Bf w' S' v mp.pg mp.d σ.H.dk σ.H.lg σ.H.pg σ.H.old root0 es0 tb0)\/
   (ch=true/\(∃r,(σ.sealed r).im.ks≠[]/\σ.H.pg.sP (σ.sealed r).im/\(σ.sealed r).im.Ok (σ.H.pg.blocks σ.H.dk)/\(σ.sealed r).im.ks.length+countB σ.H.old σ.most<=σ.tk+2)/\e= .returned (.tuple #[.int .i64 0,.int .i64 13])/\Bf w' S' v mp.pg mp.d σ.H.dk σ.H.lg σ.H.pg σ.H.old root0 es0 tb0)\/
   (ch=true/\e= .returned (.tuple #[.int .i64 (σ.H.lg.last:Int),.int .i64 0])/\∃(σ':Dk) (l':Lg) (p':Pg) (root':Nat) (im:Im),Bf w' S' v mp.pg mp.d σ' l' p' σ.now root' es tb/\Sq σ.H.dk σ.H.lg σ.H.pg im σ' l' p'/\p'.blocks σ'=σ.most)\/
   (ch=true/\e= .returned (.tuple #[.int .i64 0,.int .i64 10])/\∃(σ':Dk) (l':Lg) (p':Pg),Km σ.H.dk σ.H.lg σ.H.pg σ' l' p'/\ji w' S' mp.pg mp.d σ' l' p' (.pointer none)/\w'.heap[v]? =some (.cells #[.pointer (some ⟨mp.pg,0,none⟩)] 88 (0,0))/\¬S' v))
def vM.commit (h:vM w S v t tr mp σ root es tb ch root0 es0 tb0)(Q:σ.H.lg.last<100000000000):
  Calls Tryz.prog 25 #[.pointer (some ⟨t,0,none⟩)] w (Px w S v t tr mp σ es tb ch root0 es0 tb0):=by
 have s:=h.bas.vi;have p:=h.tx.inv;obtain⟨pM,V,B⟩:σ.H.pg.Ok σ.H.dk σ.H.lg/\σ.H.dk.Ok/\σ.H.lg.Ok:=by obtain⟨O,T,q,_⟩:=p;exact q.pg.ok
 have m:σ.H.dk.waits.length<=90000:=by have a:=s.wt;have b:=B.us;have c:=B.hi;omega
 have d:∀{j:Nat->Prop} {n:World},Keep (fun g=>S g\/g=t) w n->(∀g,j g->S g\/w.heap.size<=g)->gM S j t tr w n:=fun a b=>⟨a.mono (fun g _ e=>e.imp id .inl),b⟩
 have l:∀{j:Nat->Prop} {n:World},gM S j t tr w n->n.heap[v]? =some (.cells #[.pointer (some ⟨mp.pg,0,none⟩)] 88 (0,0))/\¬j v:=fun a=>vM.Gx h.obj h.nv h.tx.tx h.tx.tree a
 cases ch with
 |false=>
  obtain⟨Z,R⟩:=h.ch rfl;have o:σ.im=Im.none:=by rw[Z];rfl
  have J:σ.H.pg.commit σ.H.dk σ.H.lg σ.im=(σ.H.dk,σ.H.lg,σ.H.pg,σ.H.lg.last,0):=by
   rcases JW s (im:=σ.im) (by obtain⟨O,T,q,_⟩:=p;obtain⟨_,I⟩:=q.tx;have hm:=q.ok.most;rw[<-hm];exact I.ok) (by omega) with ⟨_,q⟩|⟨q,_⟩|⟨q,_⟩|⟨q,_⟩
   ·exact q
   ·rw[o] at q;exact absurd rfl q
   ·rw[o] at q;exact absurd rfl q
   ·rw[o] at q;exact absurd rfl q
  refine(FZ t tr mp root σ S w h.tx s.ld m (by omega) (by rw[J];show σ.H.lg.last<=_;omega)).mono ?_;rintro e n ⟨rfl,j,f,_,_,E,G⟩;rw[J] at f ⊢;have A:=d E G;obtain⟨a,b⟩:=l A;exact⟨j,A,.inl ⟨rfl,R,rfl,a,b,f,s,h.bas.base,h.bas.live⟩⟩
 |true=>
  obtain⟨r,K,D⟩:=h.live.tree.QD p.ok.cap;obtain⟨M,X,s3⟩:=Ob p r;have z:=h.tx;rw[K] at z;have k:=JW s M (by omega);have F:(σ.H.pg.commit σ.H.dk σ.H.lg (σ.sealed r).im).2.2.2.1<=1000000000000:=by
   rcases k with ⟨_,q⟩|⟨_,_,q⟩|⟨_,_,_,_,q,_⟩|⟨_,_,_,_,q,_⟩
   ·rw[q];show σ.H.lg.last<=_;omega
   ·rw[q];exact aS _
   ·rw[q];show σ.H.lg.last+1<=_;omega
   ·rw[q];exact aS _
  refine(FY t tr mp r σ S w z D s.ld m (by omega) F).mono ?_;rintro e n ⟨rfl,j,f,_,_,E,G⟩;have A:=d E G;obtain⟨a,b⟩:=l A;refine⟨j,A,.inr ?_⟩;rcases k with ⟨q,_⟩|⟨Y,I,q⟩|⟨_,i,H,C,q,x⟩|⟨_,i,H,C,q,N⟩
  ·exact absurd q s3
  ·rw[q] at f ⊢
   exact .inl ⟨rfl,⟨r,Y,I,M,X⟩,rfl,a,b,f,s,h.bas.base,h.bas.live⟩
  ·rw[q] at f ⊢
   have y:C.blocks i=σ.most:=(by rw[p.ok.most];unfold Pg.blocks;rw[x.skip,x.n]);obtain⟨P,b2⟩:=Jb p.ok (by have:=h.live;rwa [K] at this) (by omega) y x.vj (fun b W=>x.look b (by rw[<-p.ok.most];exact W));refine .inr (.inl ⟨rfl,?_,i,H,C,r,_,⟨a,b,f,x.vj,P,b2⟩,x,y⟩);show Ending.returned (.tuple #[.int .i64 (((σ.H.lg.last+1:Nat):Int) - 1),.int .i64 0])=_;rw[show ((σ.H.lg.last+1:Nat):Int) - 1=σ.H.lg.last by omega]
  ·rw[q] at f ⊢
   exact .inr (.inr ⟨rfl,rfl,i,H,C,N,f,a,b⟩)
end
def lW (kv:List Pr):Nat:=(kv.map fun p=>gu p.2).sum
def ValAt.cost {σ:cK}{s v:ByteArray}{b:List Int}(h:ValAt σ s v b):b.length=gu v:=by
 rcases h with ⟨_,c,rfl⟩|⟨f,g,_,⟨_,c⟩,d,rfl⟩
 ·unfold gu;rw[if_pos c];rfl
 ·unfold gu
  rw[if_neg (by omega)];have a:=d.hd.len;have e:v.data.toList.length=v.size:=by show v.data.toList.length=v.data.size;simp
  rw[e] at a;simp[kH,a];omega
def Bc {σ:cK}:∀{es:List lU},(∀e∈es,ValAt σ e.s e.v e.b)->(dO es).length=lW (je es)
 |[],_=>rfl
 |e::es,h=>by
  have b:=(h e (bf ..)).cost
  have a:=Bc (es:=es) fun x c=>h x (aX _ c)
  rw[FL,ay,b,a];rfl
def rf (w0:gV)(v N R dn u:Nat)(kv:List Pr)(w:World):Prop:=
 ∃S pg d σ l p f root es tb,Bf w S v pg d σ l p f root es tb/\VB w0 w S/\(¬w0.F v/\w0.D d σ l p)/\p.blocks σ=N/\p.ring=R/\l.last=dn+1/\je es=kv/\(tb++dO es).length=u
def mE (w0:gV)(v t N R dn u:Nat)(kv0 kv:List Pr)(ch:Bool)(P:Nat)(w:World):Prop:=
 ∃S tr mp σ root es tb root0 es0 tb0,vM w S v t tr mp σ root es tb ch root0 es0 tb0/\VB w0 w S/\(¬w0.F v/\w0.D mp.d σ.H.dk σ.H.lg σ.H.pg)/\¬w0.F t/\¬w0.F tr/\σ.most=N/\σ.H.pg.ring=R/\σ.H.lg.last=dn+1/\je es=kv/\je es0=kv0/\(tb0++dO es0).length=u/\σ.tk<=P
def xZ (w0:gV)(v t N R dn u:Nat)(kv0:List Pr)(w:World):Prop:=
 ∃S tr mp σ ch root0 es0 tb0,Mw w S v t tr mp σ ch root0 es0 tb0/\VB w0 w S/\(¬w0.F v/\w0.D mp.d σ.H.dk σ.H.lg σ.H.pg)/\¬w0.F t/\¬w0.F tr/\σ.H.pg.blocks σ.H.dk=N/\σ.H.pg.ring=R/\σ.H.lg.last=dn+1/\je es0=kv0/\(tb0++dO es0).length=u
def WU (t:Nat)(w:World):Prop:=∃mp ch er,w.heap[t]? =some (.cells (dF mp none ch er) 100 (0,0))
section
variable {w0:gV} {w:World} {v t N R dn u P:Nat} {kv kv0:List Pr} {ch:Bool}
def rf.nU {w0:World}(h:rf w0 v N R dn u kv w):Below w0.heap.size w0 w:=by obtain⟨_,_,_,_,_,_,_,_,_,_,_,h,_⟩:=h;exact h.nU
def mE.below (h:mE w0 v t N R dn u kv0 kv ch P w)(a:Below w.heap.size w w'):mE w0 v t N R dn u kv0 kv ch P w':=by
 obtain⟨S,tr,mp,σ,root,es,tb,root0,es0,tb0,d,c,b⟩:=h;exact⟨S,tr,mp,σ,root,es,tb,root0,es0,tb0,d.below a,c.below a,b⟩
def Mw.below {S:Nat->Prop}{tr:Nat}{mp:VS}{σ:cK}{root0:Nat}{es0:List lU}{tb0:List Int}(h:Mw w S v t tr mp σ ch root0 es0 tb0)(f:Below w.heap.size w w'):Mw w' S v t tr mp σ ch root0 es0 tb0:=by
 obtain⟨a,b,⟨r,e,c⟩,d⟩:=h;exact⟨(f.block v (ai.1 a).1).trans a,b,⟨r,e,c.below f⟩,d⟩
def xZ.below (h:xZ w0 v t N R dn u kv0 w)(a:Below w.heap.size w w'):xZ w0 v t N R dn u kv0 w':=by
 obtain⟨S,tr,mp,σ,ch,root0,es0,tb0,d,c,b⟩:=h;exact⟨S,tr,mp,σ,ch,root0,es0,tb0,d.below a,c.below a,b⟩
def rf.make (w0:gV)(w:World)(n:Nat)(a:Nat)(d:Nat)(S:Nat->Prop)(j:VB w0 w S)(h:qK w S d (Dk.new n))(o:6<=a)(k:a+8<=n)(m:∀σ l p,Mt (Dk.new n) a σ l p->w0.D d σ l p:=by exact fun _ _ _ h=>h.vi.free.2):
  Calls Tryz.prog 11 #[.pointer (some ⟨d,0,none⟩),.int .i64 a] w fun e i=>∃v,e= .returned (.tuple #[.pointer (some ⟨v,0,none⟩),.int .i64 0])/\rf w0 v (n - a) (a - 1) 0 0 [] i:=by
 refine(VQ d (Dk.new n) S a w h ⟨rfl,rfl⟩ o k (aS _)).mono ?_;rintro e i ⟨v,pg,f,x,y,t,rfl,c,s,g,q,b,r⟩;refine⟨v,rfl,t,pg,d,f,x,y,two,0,[],[],⟨c,s,q,b.vi.vj,b.base,Mt.live⟩,j.step r,⟨j.new g,m _ _ _ b⟩,?_,b.ring,b.last,rfl,rfl⟩;unfold Pg.blocks;rw[b.n,b.skip];rfl
def rf.begin (h:rf w0 v N R dn u kv w):
  Calls Tryz.prog 21 #[.pointer (some ⟨v,0,none⟩)] w fun e k=>∃t,e= .returned (.tuple #[.pointer (some ⟨t,0,none⟩),.int .i64 0])/\mE w0 v t N R dn u kv kv false (2+u) k:=by
 obtain⟨S,pg,d,σ,l,p,f,root,es,tb,a,j,m,q,x,r,n,o⟩:=h;refine a.begin.mono ?_;rintro e k ⟨t,tr,mp,z,rfl,_,g,s,y,i,b⟩;have c:=cK.Ok.start a.pgr.ok.1 a.pgr.ok.2.1 a.base.pd a.base.sd a.base.two a.base.hi a.base.f0 a.base.f1;have A:countB f (p.blocks σ)=2+(tb++dO es).length:=a.live.own.count c a.live.all;exact⟨t,rfl,z,tr,mp,_,root,es,tb,root,es,tb,s,j.step y,⟨m.1,by rw[g];exact m.2⟩,j.new i,j.new b,q,x,r,n,n,o,by rw[<-o,<-A];exact aD _⟩
def rf.check (h:rf w0 v N R dn u kv w)(k:kv.length<=4090):
  Calls Tryz.prog 13 #[.pointer (some ⟨v,0,none⟩)] w fun e a=>e= .returned (.int .i64 0)/\rf w0 v N R dn u kv a:=by
 obtain⟨S,pg,d,σ,l,p,f,root,es,tb,j,r,i,c,m,g,b,q⟩:=h;refine(j.check (by rw[<-iR,b];exact k)).mono ?_;rintro e a ⟨rfl,o,s,n⟩;exact⟨rfl,o,pg,d,σ,l,p,f,root,es,tb,s,r.step n,i,c,m,g,b,q⟩
def rf.blocks (h:rf w0 v N R dn u kv w):
  Calls Tryz.prog 14 #[.pointer (some ⟨v,0,none⟩)] w fun e a=>e= .returned (.int .i64 N)/\rf w0 v N R dn u kv a:=by
 obtain⟨S,pg,d,σ,l,p,f,root,es,tb,k,o,i,b,m,g,j,n⟩:=h;refine k.blocks.mono ?_;rintro e a ⟨rfl,q,c⟩;exact⟨by rw[b],S,pg,d,σ,l,p,f,root,es,tb,q,o.below c,i,b,m,g,j,n⟩
def rf.done (h:rf w0 v N R dn u kv w)(c:dn<=100000000):
  Calls Tryz.prog 12 #[.pointer (some ⟨v,0,none⟩)] w fun e a=>e= .returned (.int .i64 dn)/\a=w:=by
 obtain⟨S,pg,d,σ,l,p,f,root,es,tb,b,o,j,g,m,i,k,n⟩:=h;refine(b.done (by omega)).mono ?_;rintro e a ⟨rfl,rfl⟩;exact⟨by rw[show (l.last:Int) - 1=dn by omega],rfl⟩
def mE.done (h:mE w0 v t N R dn u kv0 kv ch P w)(f:dn<=100000000):
  Calls Tryz.prog 12 #[.pointer (some ⟨v,0,none⟩)] w fun e a=>e= .returned (.int .i64 dn)/\a=w:=by
 obtain⟨S,tr,mp,σ,root,es,tb,root0,es0,tb0,b,p,k,g,n,i,l,o,j,m⟩:=h;obtain⟨c,T,d,_⟩:=b.tx.inv;refine(Qc v mp.pg mp.d _ _ _ _ c w b.obj d.pg (by omega)).mono ?_;rintro e a ⟨rfl,rfl⟩;exact⟨by rw[show (σ.H.lg.last:Int) - 1=dn by omega],rfl⟩
def Bf.lQ {S:Nat->Prop}{pg d:Nat}{σ:Dk}{l:Lg}{p:Pg}{f:Nat->Bool}{root:Nat}{es:List lU}{tb:List Int}(h:Bf w S v pg d σ l p f root es tb)(a:Keep M w b)(c:∀g,S g\/g=v->¬M g):Bf b S v pg d σ l p f root es tb:=
 ⟨(a.block v (ai.1 h.obj).1 (c v (.inr rfl))).trans h.obj,h.nv,h.pgr.keep a (fun g e=>c g (.inl e)),h.vi,h.base,h.live⟩
def vM.lQ {S:Nat->Prop}{tr:Nat}{mp:VS}{σ:cK}{root:Int}{es:List lU}{tb:List Int}{root0:Nat}{es0:List lU}{tb0:List Int}(h:vM w S v t tr mp σ root es tb ch root0 es0 tb0)(a:Keep M w b)(c:∀g,S g\/g=v\/g=t\/g=tr->¬M g):vM b S v t tr mp σ root es tb ch root0 es0 tb0:=
 ⟨(a.block v (ai.1 h.obj).1 (c v (.inr (.inl rfl)))).trans h.obj,h.nv,h.tx.keep a (fun g d=>c g (d.imp id .inr)),h.live,h.bas,h.ch⟩
def Mw.lQ {S:Nat->Prop}{f:World}{tr:Nat}{mp:VS}{σ:cK}{root0:Nat}{es0:List lU}{tb0:List Int}(h:Mw w S v t tr mp σ ch root0 es0 tb0)(j:Keep M w f)(i:∀g,S g\/g=v\/g=t\/g=tr->¬M g):Mw f S v t tr mp σ ch root0 es0 tb0:=by
 obtain⟨a,b,⟨r,e,c⟩,d⟩:=h;exact⟨(j.block v (ai.1 a).1 (i v (.inr (.inl rfl)))).trans a,b,⟨r,e,c.keep j (fun g k=>i g (k.imp id .inr))⟩,d⟩
def gV.next (b:gV)(w w':World):gV:=⟨fun g=>b.F g\/(w.heap.size<=g/\g<w'.heap.size),w',b.D⟩
def VB.next {S:Nat->Prop}(h:VB w0 w S)(c:Keep M w b)(d:∀g,S g->g<w.heap.size):VB (w0.next w b) b S:=
 ⟨rfl,rfl,rfl,aD _,fun _ _=>rfl,fun g a=>a.elim (fun e=>ax (h.fs g e) (aK h.size c.size)) (fun e=>e.2),fun g a e=>e.elim (h.lo g a) (fun e=>absurd (d g a) (bg.2 e.1))⟩
def gV.no {a:World}{g:Nat}(h:¬w0.F g)(b:g<w.heap.size):¬(w0.next w a).F g:=fun e=>e.elim h (fun e=>absurd b (bg.2 e.1))
def rf.next {a:World}(h:rf w0 v N R dn u kv w)(j:Keep M w a)(i:∀g,M g->w0.F g):rf (w0.next w a) v N R dn u kv a:=by
 obtain⟨S,pg,d,σ,l,p,f,root,es,tb,c,k,b,m⟩:=h;have o:=(ai.1 c.obj).1;exact⟨S,pg,d,σ,l,p,f,root,es,tb,c.lQ j (fun g n e=>n.elim (fun x=>k.lo g x (i g e)) (fun x=>b.1 (x▸i g e))),k.next j c.pgr.sub,⟨gV.no b.1 o,b.2⟩,m⟩
def mE.next {c:World}(h:mE w0 v t N R dn u kv0 kv ch P w)(k:Keep M w c)(b:∀g,M g->w0.F g):mE (w0.next w c) v t N R dn u kv0 kv ch P c:=by
 obtain⟨S,tr,mp,σ,root,es,tb,root0,es0,tb0,a,m,f,j,l,o⟩:=h;have p:=(ai.1 a.obj).1;have d:=(ai.1 a.tx.tx).1;have i:=(ai.1 a.tx.tree).1;refine⟨S,tr,mp,σ,root,es,tb,root0,es0,tb0,a.lQ k (fun g n e=> ?_),m.next k a.tx.inv.sub,⟨gV.no f.1 p,f.2⟩,gV.no j d,gV.no l i,o⟩;rcases n with x|x|x|x
 ·exact m.lo g x (b g e)
 ·exact f.1 (x▸b g e)
 ·exact j (x▸b g e)
 ·exact l (x▸b g e)
def xZ.next (h:xZ w0 v t N R dn u kv0 w)(l:Keep M w b)(a:∀g,M g->w0.F g):xZ (w0.next w b) v t N R dn u kv0 b:=by
 obtain⟨S,tr,mp,σ,ch,root0,es0,tb0,f,n,d,k,m,p⟩:=h;have q:=(ai.1 f.obj).1;obtain⟨_,_,j⟩:=f.tx;have c:=(ai.1 j.tx).1;have i:=(ai.1 j.tree).1;refine⟨S,tr,mp,σ,ch,root0,es0,tb0,f.lQ l (fun g o e=> ?_),n.next l j.inv.sub,⟨gV.no d.1 q,d.2⟩,gV.no k c,gV.no m i,p⟩;rcases o with x|x|x|x
 ·exact n.lo g x (a g e)
 ·exact d.1 (x▸a g e)
 ·exact k (x▸a g e)
 ·exact m (x▸a g e)
def mE.sizes {S:Nat->Prop}{tr:Nat}{mp:VS}{σ:cK}{root:Int}{es:List lU}{tb:List Int}{root0:Nat}{es0:List lU}{tb0:List Int}(h:vM w S v t tr mp σ root es tb ch root0 es0 tb0):
  σ.sz<=2+(tb0++dO es0).length+nh σ tb+lW (je es)/\countB σ.H.old σ.most=2+(tb0++dO es0).length:=by
 have f:=h.tx.inv;have j:=h.live.own.size;have i:=f.ok.most;obtain⟨e,b,k⟩:σ.H.pg.Ok σ.H.dk σ.H.lg/\σ.H.dk.Ok/\σ.H.lg.Ok:=by obtain⟨l,T,q,_⟩:=f;exact q.pg.ok
 have a:=h.bas.base;have c:=cK.Ok.start e b a.pd a.sd a.two a.hi a.f0 a.f1;have d:countB σ.H.old (σ.H.pg.blocks σ.H.dk)=2+(tb0++dO es0).length:=h.bas.live.own.count c h.bas.live.all;rw[<-i] at d;rw[pY,d] at j;have g:=sQ σ (dO es);rw[Bc h.live.val] at g;exact⟨by omega,d⟩
def mE.get (h:mE w0 v t N R dn u kv0 kv ch P w)(a:ByteArray)(o:kv.length<=4090)(g:1<=a.size/\a.size<=128):
  Calls Tryz.prog 36 #[.pointer (some ⟨t,0,none⟩),.string a] w fun e c=>e= .returned (.tuple #[.string ((dL kv a).getD ByteArray.empty),.bool (dL kv a).isSome,.int .i64 0])/\mE w0 v t N R dn u kv0 kv ch P c:=by
 obtain⟨S,tr,mp,σ,root,es,tb,root0,es0,tb0,m,r,k,d,p,i,l,q,b,n⟩:=h;refine(m.get a (by rw[<-iR,b];exact o) g).mono ?_;rintro e c ⟨rfl,j,f⟩;exact⟨by rw[b],S,tr,mp,σ,root,es,tb,root0,es0,tb0,j,r.below f,k,d,p,i,l,q,b,n⟩
def mE.put (h:mE w0 v t N R dn u kv0 kv ch P w)(b a:ByteArray)(T:kv.length<=4090)(D:1<=b.size/\b.size<=128)(K:a.size<=49152)(V:2+u+lW kv+2*(kv.length+1)+gu a<=P):
  Calls Tryz.prog 23 #[.pointer (some ⟨t,0,none⟩),.string b,.string a] w fun e n=>
   (e= .returned (.int .i64 0)/\mE w0 v t N R dn u kv0 (kC kv b a) (ch|| !decide (dL kv b=some a)) P n)\/
   (e= .returned (.int .i64 12)/\N<2+u+lW kv+2*(kv.length+1)+gu a/\xZ w0 v t N R dn u kv0 n):=by
 obtain⟨S,tr,mp,σ,root,es,tb,root0,es0,tb0,p,C,k,i,m,y,z,B,l,A,x,o⟩:=h;obtain⟨J,Q⟩:=mE.sizes p;have F:es.length=kv.length:=by rw[<-l,iR]
 rw[x,l] at J;have I:=p.tx.inv.ok.most;refine(p.put b a (by omega) D K).mono ?_;rintro e n (⟨rfl,d,s,c,q,r,j,f,g,H,G,E,O,_⟩|⟨rfl,M,d,s,j,f,g⟩)
 ·refine .inl ⟨rfl,s,tr,mp,d,c,q,r,root0,es0,tb0,?_,C.zn i m G,⟨k.1,by rw[g];exact k.2⟩,i,m,by rw[H,y],by rw[g,z],by rw[g,B],by rw[f,l],A,x,E P (by omega) o⟩
  rw[l] at j;exact j
 ·exact .inr ⟨rfl,by omega,s,tr,mp,d,ch,root0,es0,tb0,j,C.zn i m g,⟨k.1,by rw[f];exact k.2⟩,i,m,by rw[f,<-I,y],by rw[f,z],by rw[f,B],A,x⟩
def mE.QJ (h:mE w0 v t N R dn u kv0 kv ch P w)(b a:ByteArray)(X:kv.length<=4090)(C:1<=b.size/\b.size<=128)(M:a.size<=49152)(I:(kC kv b a).length<=299):
  Calls Tryz.prog 23 #[.pointer (some ⟨t,0,none⟩),.string b,.string a] w fun e o=>
   (e= .returned (.int .i64 0)/\mE w0 v t N R dn u kv0 (kC kv b a) (ch|| !decide (dL kv b=some a)) (P+(65+gu a)) o)\/
   (e= .returned (.int .i64 12)/\N<2+u+lW kv+2*(kv.length+1)+gu a/\xZ w0 v t N R dn u kv0 o):=by
 obtain⟨S,tr,mp,σ,root,es,tb,root0,es0,tb0,m,B,l,j,n,x,y,A,g,z,s,D⟩:=h;obtain⟨K,W⟩:=mE.sizes m;have E:es.length=kv.length:=by rw[<-g,iR]
 rw[s,g] at K;have J:=m.tx.inv.ok.most;have G:=m.tx.inv.ok.szk;refine(m.put b a (by omega) C M).mono ?_;rintro e o (⟨rfl,d,r,c,p,q,k,f,i,H,F,V,T,O⟩|⟨rfl,Q,d,r,k,f,i⟩)
 ·refine .inl ⟨rfl,r,tr,mp,d,c,p,q,root0,es0,tb0,?_,B.zn j n F,⟨l.1,by rw[i];exact l.2⟩,j,n,by rw[H,x],by rw[i,y],by rw[i,A],by rw[f,g],z,s,(O (by rw[<-iR,f,g];exact I)).2 _ (by omega) (by omega)⟩
  rw[g] at k;exact k
 ·exact .inr ⟨rfl,by omega,r,tr,mp,d,ch,root0,es0,tb0,k,B.zn j n i,⟨l.1,by rw[f];exact l.2⟩,j,n,by rw[f,<-J,x],by rw[f,y],by rw[f,A],z,s⟩
def mE.delete (h:mE w0 v t N R dn u kv0 kv ch P w)(a:ByteArray)(V:kv.length<=4090)(B:1<=a.size/\a.size<=128)(H:(jR kv a).length<=299):
  Calls Tryz.prog 117 #[.pointer (some ⟨t,0,none⟩),.string a] w fun e l=>
   (e= .returned (.tuple #[.bool (dL kv a).isSome,.int .i64 0])/\mE w0 v t N R dn u kv0 (jR kv a) (ch||(dL kv a).isSome) (P+65) l)\/
   (e= .returned (.tuple #[.bool false,.int .i64 12])/\N<2+u+lW kv+2*(kv.length+1)/\xZ w0 v t N R dn u kv0 l):=by
 obtain⟨S,tr,mp,σ,root,es,tb,root0,es0,tb0,j,A,i,g,k,s,x,z,n,y,r,C⟩:=h;obtain⟨J,T⟩:=mE.sizes j;have D:es.length=kv.length:=by rw[<-n,iR]
 rw[r,n] at J;have I:=j.tx.inv.ok.most;have F:=j.tx.inv.ok.szk;have:=j.delete a (by omega) B;rw[n] at this;refine this.mono ?_;rintro e l (⟨rfl,c,q,b,o,p,m,d,f,G,E,Q,O,K⟩|⟨rfl,M,c,q,m,d,f⟩)
 ·exact .inl ⟨rfl,q,tr,mp,c,b,o,p,root0,es0,tb0,m,A.zn g k E,⟨i.1,by rw[f];exact i.2⟩,g,k,by rw[G,s],by rw[f,x],by rw[f,z],d,y,r,(K (by rw[<-iR,d];exact H)).2 _ (by omega) (by omega)⟩
 ·exact .inr ⟨rfl,by omega,q,tr,mp,c,ch,root0,es0,tb0,m,A.zn g k f,⟨i.1,by rw[d];exact i.2⟩,g,k,by rw[d,<-I,s],by rw[d,x],by rw[d,z],y,r⟩
def mE.WH (h:mE w0 v t N R dn u kv0 kv ch P w):u<=2*kv0.length+lW kv0:=by
 obtain⟨S,tr,mp,σ,root,es,tb,root0,es0,tb0,a,m,g,e,k,f,j,l,i,c,d,b⟩:=h;have h:=a.bas.live.tree.count;rw[<-d,ay,Bc a.bas.live.val,<-c,iR];rw[eH] at h;omega
def mE.abort (h:mE w0 v t N R dn u kv0 kv ch P w):
  Calls Tryz.prog 31 #[.pointer (some ⟨t,0,none⟩)] w fun e a=>e= .returned (.tuple #[])/\rf w0 v N R dn u kv0 a/\WU t a:=by
 obtain⟨S,tr,mp,σ,root,es,tb,root0,es0,tb0,c,r,i,d,l,g,j,p,y,k,q,f⟩:=h;have o:=c.tx.inv.ok.most;refine c.abort.mono ?_;rintro e a ⟨rfl,n,s,m,x,_⟩;have b:=r.zn d l m;exact⟨rfl,⟨n,_,_,_,_,_,_,root0,es0,tb0,s,b,i,by rw[<-o,g],j,p,k,q⟩,mp,ch,0,x⟩
def xZ.commit (h:xZ w0 v t N R dn u kv0 w):
  Calls Tryz.prog 25 #[.pointer (some ⟨t,0,none⟩)] w fun e a=>e= .returned (.tuple #[.int .i64 0,.int .i64 12])/\rf w0 v N R dn u kv0 a:=by
 obtain⟨S,tr,mp,σ,ch,root0,es0,tb0,i,o,f,b,k,c,g,n,d,j⟩:=h;refine i.commit.mono ?_;rintro e a ⟨rfl,m,p,l⟩;exact⟨rfl,m,_,_,_,_,_,_,root0,es0,tb0,p,o.zn b k l,f,c,g,n,d,j⟩
def xZ.usable (h:xZ w0 v t N R dn u kv0 w)(a:ByteArray):
  Calls Tryz.prog 59 #[.pointer (some ⟨t,0,none⟩),.string a] w fun e b=>b=w/\e= .returned (.int .i64 12):=by
 obtain⟨S,tr,mp,σ,ch,root0,es0,tb0,c,_⟩:=h;exact c.usable a
def mE.no (h:mE w0 v t N R dn u kv0 kv ch P w)(c:¬(1<=a.size/\a.size<=128)):
  Calls Tryz.prog 59 #[.pointer (some ⟨t,0,none⟩),.string a] w fun e b=>b=w/\e= .returned (.int .i64 1):=by
 obtain⟨S,tr,mp,σ,root,es,tb,root0,es0,tb0,d,_⟩:=h;exact d.no c
def Fh (k:Nat):Nat:=(16+520*k+511)/512
def WA (kv:List Pr)(σ:Dk)(l:Lg)(p:Pg)(σ':Dk)(l':Lg)(p':Pg):Prop:=∃im f root es tb,Sq σ l p im σ' l' p'/\je es=kv/\xq σ' l' p' f root/\Live (cK.start σ' l' p' f) root es tb
def WT (b:gV)(v d:Nat)(σ:Dk)(l:Lg)(p:Pg)(w:World):Prop:=∃S pg op,w.heap[v]? =some (.cells #[.pointer (some ⟨pg,0,none⟩)] 88 (0,0))/\¬S v/\ji w S pg d σ l p op/\VB b w S/\¬b.F v
def qD (b:gV)(v N R dn:Nat)(w:World):Prop:=∃d σ l p σ' l' p',b.D d σ l p/\l.last=dn+1/\p.blocks σ=N/\p.ring=R/\Km σ l p σ' l' p'/\WT b v d σ' l' p' w
def mE.Nn (h:mE w0 v t N R dn u kv0 kv ch P w)(V:dn<=100000000)(E:Nat->Dk->Lg->Pg->Prop)(G:∀d σ l p a k m,w0.D d σ l p->l.last=dn+1->p.blocks σ=N->WA kv σ l p a k m->E d a k m):
  Calls Tryz.prog 25 #[.pointer (some ⟨t,0,none⟩)] w fun e n=>
   (ch=false/\kv=kv0/\e= .returned (.tuple #[.int .i64 dn,.int .i64 0])/\rf w0 v N R dn u kv0 n)\/
   (ch=true/\(R<Fh (P - u)\/1024<P - u)/\e= .returned (.tuple #[.int .i64 0,.int .i64 13])/\rf w0 v N R dn u kv0 n)\/
   (ch=true/\e= .returned (.tuple #[.int .i64 ((dn+1:Nat):Int),.int .i64 0])/\∃J,rf (w0.to E) v N R (dn+1) J kv n)\/
   (ch=true/\e= .returned (.tuple #[.int .i64 0,.int .i64 10])/\qD w0 v N R dn n):=by
 obtain⟨S,tr,mp,σ,root,es,tb,root0,es0,tb0,A,T,i,F,M,o,q,j,z,C,D,H⟩:=h;have x:=A.tx.inv.ok.most;obtain⟨_,I⟩:=mE.sizes A;refine(A.commit (by omega)).mono ?_;rintro e n ⟨y,O,(⟨rfl,f,rfl,b⟩|⟨rfl,⟨r,f,b,s,B⟩,rfl,K⟩|⟨rfl,rfl,a,k,m,g,Q,f,b,s⟩|⟨rfl,rfl,a,k,m,f,b,s,B⟩)⟩
 all_goals have c:=T.zn F M O
 ·refine .inl ⟨rfl,by rw[<-z,<-C,f],by rw[show (σ.H.lg.last:Int) - 1=dn by omega],y,_,_,_,_,_,_,root0,es0,tb0,b,c,i,by rw[<-x,o],q,j,C,D⟩
 ·refine .inr (.inl ⟨rfl,?_,rfl,y,_,_,_,_,_,_,root0,es0,tb0,K,c,i,by rw[<-x,o],q,j,C,D⟩)
  unfold Pg.sP at b;rw[M8 s,q] at b;unfold Fh;rw[I,D] at B;omega
 ·exact .inr (.inr (.inl ⟨rfl,by rw[j],_,y,_,_,a,k,m,_,g,es,tb,f,c.to,⟨i.1,G _ _ _ _ _ _ _ i.2 j (by rw[<-x,o]) ⟨Q,_,_,_,_,b,z,f.base,f.live⟩⟩,by rw[s,o],by rw[b.ring,q],by rw[b.last,j],z,rfl⟩))
 ·exact .inr (.inr (.inr ⟨rfl,rfl,mp.d,_,_,_,a,k,m,i.2,j,by rw[<-x,o],q,f,y,mp.pg,_,s,B,b,c,i.1⟩))
def mE.commit (h:mE w0 v t N R dn u kv0 kv ch P w)(c:dn<=100000000)(b:w0.Calm:=by exact Nr rfl):
  Calls Tryz.prog 25 #[.pointer (some ⟨t,0,none⟩)] w fun e a=>
   (ch=false/\kv=kv0/\e= .returned (.tuple #[.int .i64 dn,.int .i64 0])/\rf w0 v N R dn u kv0 a)\/
   (ch=true/\(R<Fh (P - u)\/1024<P - u)/\e= .returned (.tuple #[.int .i64 0,.int .i64 13])/\rf w0 v N R dn u kv0 a)\/
   (ch=true/\e= .returned (.tuple #[.int .i64 ((dn+1:Nat):Int),.int .i64 0])/\∃i,rf w0 v N R (dn+1) i kv a):=by
 refine(h.Nn c w0.D fun d σ l p f j k e _ _ ⟨_,_,_,_,_,q,_⟩=>b.two e (q.fu (b.one e))).mono ?_;rintro e a (h|h|h|⟨_,_,_,_,_,_,_,_,_,q,_,_,_,g,_⟩)
 ·exact .inl h
 ·exact .inr (.inl h)
 ·exact .inr (.inr h)
 ·exact absurd (b.one q) g.fu
def mE.scan (h:mE w0 v t N R dn u kv0 kv ch P w)(b:ByteArray)(a:Int)(p:kv.length<=4090):
  Calls Tryz.prog 29 #[.pointer (some ⟨t,0,none⟩),.string b,.int .i64 a] w fun e c=>∃x,e= .returned (.tuple #[x,.int .i64 0])/\aT c gB w.heap.size 103 2 x (vR kv b a).length (dP (vR kv b a))/\mE w0 v t N R dn u kv0 kv ch P c/\Below w.heap.size w c:=by
 obtain⟨S,tr,mp,σ,root,es,tb,root0,es0,tb0,i,s,m,k,q,l,n,r,f,o⟩:=h;refine(i.scan b a (by rw[<-iR,f];exact p)).mono ?_;rintro e c ⟨x,rfl,j,d⟩;rw[f] at j;exact⟨x,rfl,j.other (fun g _ e=>e.elim),⟨S,tr,mp,σ,root,es,tb,root0,es0,tb0,i.below d,s.below d,m,k,q,l,n,r,f,o⟩,d⟩
end
def mE.more {w0:gV}{w:World}{v t N R dn u P P':Nat}{kv kv0:List Pr}{ch:Bool}(h:mE w0 v t N R dn u kv0 kv ch P w)(i:P<=P'):mE w0 v t N R dn u kv0 kv ch P' w:=by
 obtain⟨S,tr,mp,σ,root,es,tb,root0,es0,tb0,g,n,d,b,k,c,f,l,e,j,m,a⟩:=h;exact⟨S,tr,mp,σ,root,es,tb,root0,es0,tb0,g,n,d,b,k,c,f,l,e,j,m,aK a i⟩
def Rn (k x:ByteArray):kC [] k x=[(k,x)]:=rfl
def OC (k x:ByteArray):dL [(k,x)] k=some x:=by
 have h:lt k k=false:=lt_irrefl k;have a:bX [(k,x)] k=0:=by unfold bX;simp[h]
 unfold dL pU;rw[a];simp
def mE.UX {w0:gV}{w:World}{v t N R dn u P:Nat}{kv kv0:List Pr}{ch:Bool}(h:mE w0 v t N R dn u kv0 kv ch P w)(b a:ByteArray)(f:kv.length<=4090)(d:1<=b.size/\b.size<=128)(g:a.size<=49152)(Q:Nat)(i:Q=max P (2+u+lW kv+2*(kv.length+1)+gu a))(j:2+u+lW kv+2*(kv.length+1)+gu a<=N):
  Calls Tryz.prog 23 #[.pointer (some ⟨t,0,none⟩),.string b,.string a] w fun e c=>
   e= .returned (.int .i64 0)/\mE w0 v t N R dn u kv0 (kC kv b a) (ch|| !decide (dL kv b=some a)) Q c:=by
 refine((h.more (P':=Q) (by omega)).put b a f d g (by omega)).mono ?_;rintro e c (h|⟨_,h,_⟩)
 ·exact h
 ·omega
def mE.O4 {w0:gV}{w:World}{v t N R dn u P:Nat}{kv kv0:List Pr}(h:mE w0 v t N R dn u kv0 kv true P w)(b:dn<=100000000)(g:Fh (P - u)<=R)(f:P - u<=1024)(d:w0.Calm:=by exact Nr rfl):
  Calls Tryz.prog 25 #[.pointer (some ⟨t,0,none⟩)] w fun e a=>
   e= .returned (.tuple #[.int .i64 ((dn+1:Nat):Int),.int .i64 0])/\∃c,rf w0 v N R (dn+1) c kv a:=by
 refine(h.commit b d).mono ?_;rintro e a (⟨h,_⟩|⟨_,h,_⟩|⟨_,h⟩)
 ·cases h
 ·omega
 ·exact h
theorem AX (w:World):Calls Tryz.prog 7 #[] w fun e r=>e= .returned (.bool true)/\Below w.heap.size w r:=by
 go_enter Tryz.func7,Tryz.ntmps7;go_wp2_with (first|(go_at_call 8;go_must ((refine(Wo 40 w).mono ?_);rintro e q ⟨d,S,rfl,l,f,n⟩;have o:=ah (rf.make w q 40 12 d S (VB.of f n) l (by omega) (by omega));clear l f n))|(go_at_call 11;go_must ((refine o.out.mono ?_);rintro e D ⟨v,rfl,g⟩;clear o))|(go_at_call 14;go_must ((refine g.blocks.mono ?_);rintro e s ⟨rfl,a⟩;clear g))|(go_at_call 12;go_must ((refine(a.done (by omega)).mono ?_);rintro e p ⟨rfl,A⟩;subst p))|(go_at_call 21;go_must ((refine a.begin.mono ?_);rintro e E ⟨t,rfl,c⟩;clear a))|(go_at_call 23;go_must ((refine(c.UX ⟨#[97]⟩ ⟨#[120]⟩ (by simp) ⟨by decide,by decide⟩ (by decide) 4 (by decide) (by decide)).mono ?_);rintro e x ⟨rfl,b⟩;rw[Rn] at b;clear c))|(go_at_call 36;go_must ((refine(b.get ⟨#[97]⟩ (by simp) ⟨by decide,by decide⟩).mono ?_);rw[OC];rintro e y ⟨rfl,i⟩;clear b;have m:=ah (mE.O4 i (by omega) (by decide) (by decide));clear i))|(go_at_call 25;go_must ((refine m.out.mono ?_);rintro e B ⟨rfl,z,j⟩;clear m))|(go_at_call 13;go_must ((refine(j.check (by simp)).mono ?_);rintro e C ⟨rfl,k⟩;clear j)))
 go_ret;exact⟨rfl,k.nU⟩
