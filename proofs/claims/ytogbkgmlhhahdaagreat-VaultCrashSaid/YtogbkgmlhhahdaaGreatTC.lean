--
import Derived.Test.YtogbkgmlhhahdaaGreatT30
set_option maxRecDepth 100000
set_option maxHeartbeats 0
set_option linter.all false
namespace Go.Proofs.YtogbkgmlhhahdaaGreat
open Go.RowKit
theorem KW (b a:Int)(s:0<=b/\b<=65535)(v:0<=a/\a<=65535)(w:World):
  Calls Tryz.prog 32 #[.agg #[.int .u16 b,.int .u16 a]] w fun e l=>∃d S,∃n c:Nat,e= .returned (.tuple #[.pointer (some ⟨d,0,none⟩),.int .i64 c])/\qK l S d (Dk.new n)/\Below w.heap.size w l/\(∀g,S g->w.heap.size<=g)/\6<=c/\c<=605/\c+8<=n/\n<=2112:=by
 have f:=aN w (.cells #[.int .u16 b,.int .u16 a] 64);have t:IntKind.i64.wrap a=a:=aG _ (by omega);have r:IntKind.i64.wrap b=b:=aG _ (by omega);have y:IntKind.i64.wrap (6+a%600)=6+a%600:=aG _ (by omega);have x:IntKind.i64.wrap (6+a%600+8)=6+a%600+8:=aG _ (by omega);have z:IntKind.i64.wrap (6+a%600+8+b%1500)=6+a%600+8+b%1500:=aG _ (by omega);go_enter Tryz.func32,Tryz.ntmps32;go_wp2_with (first|(go_at_call 8;go_must ((refine(Wo _ _).mono ?_);rintro e q ⟨d,S,rfl,m,j,p⟩)))
 go_ret2;obtain⟨c,i⟩:∃c:Nat,(c:Int)=6+a%600:=⟨(6+a%600).toNat,by omega⟩
 have k:jU (6+a%600+8+b%1500)=(6+a%600+8+b%1500).toNat:=by unfold jU;rw[if_neg (by omega),if_neg (by omega)]
 rw[k] at m;exact⟨d,S,_,c,by rw[i];rfl,m,f.trans (j.mono f.size),fun g o=>aK f.size (p g o),by omega,by omega,by omega,by omega⟩
structure Ei where
 sa:Option Addr
 sc:Nat
 ka:Option Addr
 kc:Nat
 aa:Option Addr
 ac:Nat
 fu:Int
 os:List Vy
 ks:List Bool
 ag:List Int
structure Ei.Ok (w:World)(x:Ei):Prop where
 ops:Kl w (.slice x.sa x.os.length x.sc) x.os
 kd:∀o∈x.os,0<=o.1/\o.1<=255
 sz:∀o∈x.os,o.2.2.1.size<=maxLen
 fu:0<=x.fu/\x.fu<=65535
 ks:Bj w gB (.slice x.ka x.ks.length x.kc) x.ks
 ac:x.ag.length<=x.ac/\x.ac<=9223372036854775807
 ag:∀j (h:j<x.ag.length),∃b o,x.aa=some ⟨b,o,none⟩/\w.cell? ⟨b,o+j,none⟩=some (.int .u8 x.ag[j])/\0<=x.ag[j]/\x.ag[j]<=255
def ND (w:World)(v:Value)(ls:List Ei):Prop:=∃ao c,v= .slice ao ls.length c/\ls.length<=c/\c<=9223372036854775807/\
 ∀i (_:i<ls.length),ls[i].Ok w/\∃b o,ao=some ⟨b,o,none⟩/\w.cell? ⟨b,o+i*4,none⟩=some (.slice ls[i].sa ls[i].os.length ls[i].sc)/\w.cell? ⟨b,o+i*4+1,none⟩=some (.int .u16 ls[i].fu)/\w.cell? ⟨b,o+i*4+2,none⟩=some (.slice ls[i].ka ls[i].ks.length ls[i].kc)/\w.cell? ⟨b,o+i*4+3,none⟩=some (.slice ls[i].aa ls[i].ag.length ls[i].ac)
theorem Ii (z0 z1:Int)(v0:Value)(E:List Ei)(w:World)(h0:0<=z0/\z0<=65535)(zf:0<=z1/\z1<=65535)(h1:ND w v0 E):
  Calls Tryz.prog 6 #[.agg #[.int .u16 z0,.int .u16 z1],v0] w fun e w'=>e= .returned (.bool true)/\Below w.heap.size w w':=by
 obtain⟨ao,ac,rfl,hac,zW,h1⟩:=h1;have yx:=ah h1;clear h1;have fJ:=aN w (.cells #[.int .u16 z0,.int .u16 z1] 64);have Q:=aV w (.cells #[.int .u16 z0,.int .u16 z1] 64);obtain⟨wa,tY⟩:=nm (w.alloc (.cells #[.int .u16 z0,.int .u16 z1] 64));rw[tY.out] at fJ Q;obtain⟨zb,l5⟩:=nm w.heap.size;rw[l5.out] at Q;have lm:=(ai.1 Q).1;have ql:=ah fJ;clear fJ;go_enter Tryz.func6,Tryz.ntmps6;go_upto_region 1 with (fail)
 rw[tY.out,l5.out]
 by_cases zA:5<E.length
 ·have x1:(5:Int)<(E.length:Int):=by omega
  go_wp2_with (first|(go_at_call 7;(refine(AX wa).mono ?_);rintro e w1 ⟨rfl,p9⟩)|(go_at_call 7;(refine(AX _).mono ?_);rintro e w2 ⟨rfl,qc⟩))
  go_ret;have q1:=ql.out.trans (p9.mono ql.out.size);exact⟨rfl,q1.trans (qc.mono q1.size)⟩
 ·have x1:decide ((5:Int)<(E.length:Int))=false:=bM (by omega)
  go_upto_region 3 with (first|(go_at_call 7;(refine(AX wa).mono ?_);rintro e w1 ⟨rfl,p9⟩;refine sO ?_))
  refine sN ?_;have qb:=(p9.block zb lm).trans Q;have rJ:=(ai.1 qb).1;have c0:w1.cell? ⟨zb,0,none⟩=some (.int .u16 z0):=by simp[World.cell?,qb]
  have c1:w1.cell? ⟨zb,1,none⟩=some (.int .u16 z1):=by simp[World.cell?,qb]
  have jv:=ah (ql.out.trans (p9.mono ql.out.size));have lQ:=ah (KW z0 z1 h0 zf w1);clear p9 Q lm;go_wp2_with (first|(go_at_call 32;go_must ((refine lQ.out.mono ?_);rintro e w2 ⟨d,S,n,lg,rfl,hD,qc,hS,l1,l2,l3,l4⟩;refine sO ?_)))
  refine sN ?_;have f:=jv.out.trans (qc.mono jv.out.size);have fA:=rf.make ⟨fun g=>g<w.heap.size,w,HD d (n - lg) [[]]⟩ w2 n lg d S ⟨f.os,f.tape,f.output,f.size,fun k hk=>f.block k hk,fun _ D=>D,fun g D=>bg.2 (aK jv.out.size (hS g D))⟩ hD l1 l3 (fun _ _ _ h=>HD.new h (by omega));obtain⟨N,hN⟩:=nx (n - lg);rw[<-hN] at fA;have rG:8<=N:=by omega
  have oO:=ah fA;have C:=ah (aC l1 (aC l2 rG));clear fA hD hS qc f l1 l2 l3 l4 qb rJ c0 c1 hN rG lQ;go_wp2_with (first|(go_at_call 11;go_must ((refine oO.out.mono ?_);rintro e w3 ⟨v,rfl,rA⟩;refine sO ?_)))
  refine sN ?_;have dn:=ah rA;clear rA oO;go_wp2_with (first|(go_at_call 20;go_must ((refine(FM.new w3).mono ?_);rintro e w4 ⟨r,rfl,j4,r9⟩;refine sO ?_)))
  refine sN ?_;have rP:=dn.out.next (M:=fun _=>False) (Keep.of_below j4 _) (fun _ e=>e.elim);have z:Below w.heap.size w w3:=by
   obtain⟨_,_,_,_,_,_,_,_,_,_,_,h,_⟩:=dn.out;exact⟨h.os,h.tape,h.output,h.size,fun k hk=>h.block k hk⟩
  have xE:=z.size;have nk:RB w (fun g=>g<w.heap.size\/(w3.heap.size<=g/\g<w4.heap.size)) (fun g=>w3.heap.size<=g/\g<w4.heap.size) w4:=
   ⟨fun g e=> .inr e,fun g D=>⟨.inl D,fun e=>by omega⟩,z.trans (j4.mono z.size)⟩
  have rV:WC w d v r N lg 0 w4:=⟨_,_,nk,[],[],Kv.nil 0,aD _,(fun m e=>by cases e),⟨0,rP⟩,r9⟩;clear dn j4 r9 rP z xE nk;go_wp2_with fail;go_loopw [7,8,10,11,12,13,14,15,16,17,18,19] (fun vv _ ii _ _ _ _ _ _ _ _ _ wr=>∃j v:Nat,j<=E.length/\ii= .int .i64 j/\vv= .pointer (some ⟨v,0,none⟩)/\WC w d v r N lg (42*j) wr) (fun _ _ ii _ _ _ _ _ _ _ _ _ _=>E.length - (intOf ii).toNat)
  case atStart=>exact⟨0,v,aS _,rfl,rfl,rV⟩
  case round=>
   clear rV;obtain⟨j,v,hj,rfl,rfl,sP⟩:=hrel
   by_cases xV:j<E.length
   ·have y1:(j:Int)<(E.length:Int):=by omega
    have y3:IntKind.i64.wrap ((j:Int)+1)=((j+1:Nat):Int):=(by rw[aG _ (by omega)];omega);obtain⟨hx,b,o,rfl,d0,d1,d2,d3⟩:=yx.out j xV;have T:b<w.heap.size:=aF w _ d0;obtain⟨x,l9⟩:=nm (E[j]);rw[l9.out] at hx d0 d1 d2 d3;obtain⟨sa,sc,ka,kc,aa,mK,fu,os,ks,A⟩:=x;obtain⟨o1,o2,o3,o4,o5,o6,o7⟩:=hx;dsimp only at d0 d1 d2 d3 o1 o2 o3 o4 o5 o6 o7;have P:∀W:World,Below w.heap.size w W->W.cell? ⟨b,o+j*4,none⟩=some (.slice sa os.length sc)/\W.cell? ⟨b,o+j*4+1,none⟩=some (.int .u16 fu)/\W.cell? ⟨b,o+j*4+2,none⟩=some (.slice ka ks.length kc)/\W.cell? ⟨b,o+j*4+3,none⟩=some (.slice aa A.length mK)/\b<W.heap.size:=fun W Y=>
     ⟨(Y.cell (p:=⟨b,o+j*4,none⟩) T).trans d0,(Y.cell (p:=⟨b,o+j*4+1,none⟩) T).trans d1,(Y.cell (p:=⟨b,o+j*4+2,none⟩) T).trans d2,(Y.cell (p:=⟨b,o+j*4+3,none⟩) T).trans d3,ax T Y.size⟩
    have pM:=ah P;obtain⟨F,F0,hB,hC⟩:=sP;obtain⟨r0,r1,r2,r3,r4⟩:=pM.out wr hB.nU;have j5:=ah (OD w d v r N lg (42*j) F F0 sa ka aa sc ks.length kc A.length mK fu os wr hB hC o1 o2 o3 o4 (by omega) ⟨by have:=C.out.1;omega,C.out.2.1⟩);have fo:=ah o5;have y5:=ah o7;clear P d0 d1 d2 d3 hB hC o1 o2 o3 o4 o5 o7 l9;obtain⟨an,zX⟩:=nm A.length;go_wp2_with (first|(go_at_call 33;go_must ((refine j5.out.mono ?_);rintro e w5 ⟨lo,rfl,dR⟩;refine sO ?_)))
    refine sN ?_;have sF:Below w.heap.size w w5:=(by obtain⟨_,_,h,_⟩:=dR;exact h.nU);clear r0 r1 r2 r3 r4 j5;obtain⟨r0,r1,r2,r3,r4⟩:=pM.out w5 sF;have l:=ah (dR.rV _ ks fo.out);clear dR sF;go_wp2_with (first|(go_at_call 28;go_must ((refine l.out.mono ?_);rintro e w6 ⟨rfl,L,L2,k,kv,oK,bC,Z,dx,nH,oo⟩;refine sO ?_)))
    refine sN ?_;have mo:k<L.length:=by
     rcases gH k L.length with h|h
     ·exact h
     ·rw[iE h] at Z;cases Z
    have fK:=dx kv (NG Z);have rX:=fK.len;have a:=ah (aC bC (aC Z (aC dx (aC nH (aC oo (aC mo (aC fK rX)))))));clear r0 r1 r2 r3 r4 l bC Z dx nH oo mo fK rX;go_wp2_with fail;obtain⟨wo,rfl⟩:=nx wr;go_loopw [13,14,15] (fun kk _ _ wr=>∃m:Nat,m<=A.length/\m<=6/\kk= .int .i64 m/\Uv w d r N lg k L L2 kv (-1) wr) (fun kk _ _ _=>A.length - (intOf kk).toNat)
    case atStart=>exact⟨0,aS _,aS _,rfl,oK⟩
    case round=>
     clear oK;obtain⟨m,hm,hm6,rfl,H⟩:=hrel;have O:Below w.heap.size w wr:=(by obtain⟨_,_,h,_⟩:=H;exact h.nU);obtain⟨r0,r1,r2,r3,r4⟩:=pM.out wr O
     by_cases zm:m<A.length/\m<6
     ·obtain⟨vk,zP⟩:=zm
      have u1:(m:Int)<(A.length:Int):=(by omega);have u2:(m:Int)<6:=(by omega);have u3:IntKind.i64.wrap ((m:Int)+1)=((m+1:Nat):Int):=(by rw[aG _ (by omega)];omega);obtain⟨b2,o2,rfl,e0,e1,e2⟩:=y5.out m vk;have X:b2<w.heap.size:=aF w _ e0;generalize A[m]=am at e0 e1 e2;have e0:=(O.cell (p:=⟨b2,o2+m,none⟩) X).trans e0;have nJ:=ax X O.size;have u4:IntKind.i64.wrap am=am:=aG _ (by omega);have tQ:=ah (H.fuel am (by omega));clear H O;go_wp2_with (first|(go_at_call 15;go_must ((refine tQ.out.mono ?_);rintro e w7 ⟨rfl,kT⟩;refine sO ?_)))
      refine sN ?_;have B:=ah (kT.open_ C.out.1 C.out.2.2 (by have:=a.out;omega) (by have:=a.out;omega) a.out.2.1);clear kT tQ e0 e1 e2 X nJ u4 r0 r1 r2 r3 r4;go_wp2_with (first|(go_at_call 10;go_must ((refine B.out.mono ?_);rintro e w8 (⟨v2,rfl,_,t⟩|⟨_,rfl,rF,t⟩)<;>refine sO ?_)))
      ·refine sN ?_
       have G:Below w.heap.size w w8:=(by obtain⟨_,_,h,_⟩:=t;exact h.nU);obtain⟨r0,r1,r2,r3,r4⟩:=pM.out w8 G;have l:=ah (t.rV a.out.2.1 _ ks fo.out);clear t G B;go_wp2_with (first|(go_at_call 28;go_must ((refine l.out.mono ?_);rintro e s ⟨rfl,I⟩;refine sO ?_)))
       refine sN ?_;have j3:=ah I;clear I l r0 r1 r2 r3 r4;go_wp2_with fail;go_roundw
       case rel=>exact⟨m+1,by omega,by omega,rfl,j3.out⟩
       case measure=>simp[intOf];omega
      ·refine sN ?_
       have G:Below w.heap.size w w8:=(by obtain⟨_,_,h,_⟩:=t;exact h.nU);obtain⟨r0,r1,r2,r3,r4⟩:=pM.out w8 G;have l:=ah (t.rV a.out.2.1 _ ks fo.out);have l6:=ah rF;clear t G B rF;go_wp2_with (first|(go_at_call 34;go_must ((refine l6.out.mono ?_);rintro e s ⟨rfl,hw⟩;subst s))|(go_at_call 28;go_must ((refine l.out.mono ?_);rintro e s ⟨rfl,I⟩;refine sO ?_)))
       refine sN ?_;have j3:=ah I;clear I l l6 r0 r1 r2 r3 r4;go_wp2_with fail;go_roundw
       case rel=>exact⟨m+1,by omega,by omega,rfl,j3.out⟩
       case measure=>simp[intOf];omega
     ·have B:=ah (H.open_ C.out.1 C.out.2.2 (by have:=a.out;omega) (by have:=a.out;omega) a.out.2.1)
      have zS:Hid (¬((m:Int)<(A.length:Int)/\(m:Int)<6)):=ah (by omega);clear H O;have hz:decide ((m:Int)<(A.length:Int))=false\/(decide ((m:Int)<(A.length:Int))=true/\decide ((m:Int)<6)=false):=by
       by_cases q:(m:Int)<(A.length:Int)
       ·exact .inr ⟨d9 q,bM (by omega)⟩
       ·exact .inl (bM q)
      rcases hz with q1|⟨q1,q2⟩
      all_goals
       (try have xP:¬(m:Int)<(A.length:Int):=of_decide_eq_false q1)
       (try have xP:(m:Int)<(A.length:Int):=jS q1)
       (try have q2':¬(m:Int)<6:=of_decide_eq_false q2)
       go_wp2_with (first|(go_at_call 10;go_must ((refine B.out.mono ?_);rintro e w8 (⟨v2,rfl,qo,_⟩|⟨xK,_⟩)<;>refine sO ?_)))
       rotate_left
       ·exact absurd rfl xK
       refine sN ?_;obtain⟨nn,q8⟩:=nm ((L++L2).length);have y7:k<nn/\nn<=1000:=by
        have h1:=a.out;have h2:=q8.out;rw[ay] at h2;omega
       have nS:=ah (qo.done (by omega));have jF:=qo.V4 (by rw[q8.out];omega);rw[q8.out] at jF;have nA:=ah jF;have kr:=ah (qo.check (by have:=a.out;omega));have v1:¬(k:Int)<(lo:Int):=(by have:=a.out;omega);have vz:¬(nn:Int) - 1<(k:Int):=(by omega);have HNB:=ah y7;clear qo B jF;go_wp2_with (first|(go_at_call 12;go_must ((refine nS.out.mono ?_);rintro e s ⟨rfl,hw⟩;subst s))|(go_at_call 35;go_must ((refine nA.out.mono ?_);rintro e s ⟨hw,rfl⟩;subst s))|(go_at_call 13;go_must ((refine kr.out.mono ?_);rintro e s ⟨rfl,fB⟩;refine sO ?_)))
       refine sN ?_;have iO:=fB.below (aR _ s).drew;have j6:=ah (iO.done (by omega));obtain⟨g,c,D,zn,z8⟩:=fB.cells a.out.2.2.2.2.2.1;have mr:s.drew.heap[r]? =some (.cells #[.slice (some ⟨g,0,none⟩) (L++L2).length c] 75 (0,0)):=D;have V:=ah (iO.cut a.out.2.1 mr);rw[q8.out] at D zn;have g0:s.cell? ⟨r,0,none⟩=some (.slice (some ⟨g,0,none⟩) nn c):=(by simp[World.cell?,D]);have g1:s.frozen? ⟨r,0,none⟩=false:=(by simp[World.frozen?,D]);have g2:=(ai.1 D).1;have q3:IntKind.i64.wrap ((k:Int)+1)=(k:Int)+1:=aG _ (by omega);have q4:(k:Int)+1<=(c:Int):=(by omega);have jb:∀W:World,(Instr.slice 73 (.slice (some ⟨g,0,none⟩) nn c) none (some (.int .i64 ((k:Int)+1))) none).run Tryz.prog W= .ok (.slice (some ⟨g,0,none⟩) (k+1) c) W:=fun W=>by
        rw[run_slice_h W 73 _ _ _ (by kernel_rfl) .i64 ((k:Int)+1) (by omega) q4];have e:((k:Int)+1).toNat=k+1:=(by omega);have vO:(sizeOf (Tryz.prog.elem 73)).run Tryz.prog W= .ok 1 W:=rfl;rw[vO,e];show Result.ok (sliced (some ⟨g,0,none⟩) 0 (k+1) c 1) W=_;unfold sliced;congr 1
        split
        ·rfl
        ·simp[Addr.add]
       have ko:=ah jb;clear jb;clear nS nA kr fB iO D mr v1 vz;go_upto_region 26 with (fail)
       refine aP (fun W=>W=s.drew) (fun i=> !([6,11].contains i)) [0,1,2,3,4,5,6,7,8,9,10,11] rfl (by kernel_rfl) rfl ?_
       repeat (refine oq ?_ rfl rfl rfl ?_ ?_;rotate_left;(focus intro W Y;(try dsimp only at Y);subst Y;go_simp;first|done|with_reducible rfl);try simp only[Act.put,aj,au,ak])
       refine dI rfl rfl rfl ?_;intro K hK;go_simp;refine j6.out.mono ?_;rintro e wx ⟨rfl,hwx⟩;subst wx;refine hK.out _ _ rfl ?_
       (try simp only[Act.put,aj,au,ak])
       repeat (refine oq ?_ rfl rfl rfl ?_ ?_;rotate_left;(focus intro W Y;(try dsimp only at Y);subst Y;have jb:=ko.out s.drew;go_simp;first|done|with_reducible rfl);try simp only[Act.put,aj,au,ak])
       refine jC rfl rfl rfl (by kernel_rfl) ?_;intro K hK;go_simp;refine hK.out _ _ ?_;refine bR ?_;obtain⟨wc,jl⟩:=nm (s.drew.setCell ⟨r,0,none⟩ (.slice (some ⟨g,0,none⟩) (k+1) c));rw[jl.out] at V;have bB:(s.setCell ⟨r,0,none⟩ (.slice (some ⟨g,0,none⟩) (k+1) c)).drew=wc:=jl.out;rw[bB];clear bB jl g0 g1 g2 ko j6 q3 q4;have hQ:=V.out;have oH:=ah (hQ.begin (by have:=a.out;omega));clear hQ V;go_wp2_with (first|(go_at_call 21;go_must (refine oH.out.mono ?_;rintro e w12 ⟨t12,rfl,bA⟩;refine sO ?_)))
       refine sN ?_;have bH:=ah bA;clear bA oH;go_wp2_with (first|(go_at_call 29;go_must (refine bH.out.mono ?_;rintro e w13 ⟨y,rfl,bN⟩;refine sO ?_)))
       refine sN ?_;have aA:=ah bN;clear bN bH;go_wp2_with (first|(go_at_call 31;go_must (refine aA.out.mono ?_;rintro e w14 ⟨rfl,aB,S1,hy⟩;refine sO ?_)))
       refine sN ?_;have jO:(L.take k).length<=1000/\kv.length<=1000:=(by have:=a.out;rw[aH];omega);have lC:=ah (aB.UW jO.1 jO.2 hy);clear aA aB hy jO;go_wp2_with (first|(go_at_call 22;go_must (refine lC.out.mono ?_;rintro e yK ⟨rt,rfl,q9,J,zz,S2,e1,e2,R⟩;refine sO ?_)))
       refine sN ?_;have dZ:=IA y zz kv yK S1 S2 J R;obtain⟨yo,yc,rfl,_⟩:=aZ.form J;obtain⟨xo,xc,rfl,_⟩:=aZ.form R;obtain⟨kn,vo⟩:=nm kv.length;rw[vo.out] at dZ e1 ⊢;have kg:=ah dZ;have av:=ah q9;clear lC q9 J R dZ;go_wp2_with (first|(go_at_call 30;go_must (refine kg.out.mono ?_;rintro e za ⟨rfl,af⟩;refine sO ?_)))
       refine sN ?_;have di:WC w d v2 r N lg (42*(j+1)) za:=(av.out.below af).next (a.out.2.2.2.2.2.2.1.le (by omega)) (fun m hm=>(a.out.2.2.1 m (eT hm)).le (by omega)) (by have:=a.out;rw[aH];omega);have lJ:=ah di;clear di kg av af e1 e2;go_wp2_with fail;go_roundw
       case rel=>exact⟨j+1,v2,by omega,rfl,rfl,lJ.out⟩
       case measure=>simp[intOf];omega
   ·obtain rfl:j=E.length:=by omega
    have y1:¬(E.length:Int)<(E.length:Int):=(by omega);obtain⟨F,F0,hB,hC⟩:=sP;have y8:=ah hB.nU;clear hB hC;go_wp2_with fail;go_ret;exact⟨rfl,y8.out⟩
