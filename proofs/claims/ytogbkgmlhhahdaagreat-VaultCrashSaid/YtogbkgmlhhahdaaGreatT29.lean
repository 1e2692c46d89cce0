--
import Derived.Test.YtogbkgmlhhahdaaGreatT26
set_option maxRecDepth 100000
set_option maxHeartbeats 0
set_option linter.all false
namespace Go.Proofs.YtogbkgmlhhahdaaGreat
open Go.RowKit
variable{l:Lg}{a:List (List (List UInt8))}{B d i n:Nat}{q:Nat->Bool}{s:Nat->List UInt8}{o:Oper}{v:Value}{W w:World}
def gF.from {S:Nat->Prop}{g c a:Nat}{B:List UInt8}(h:aZ w S 1 (.slice (some ⟨g,0,none⟩) n c) n (aI B))(f:B.length=n)(d:a<=n)(i:¬c=a):gF w S (.slice (some ⟨g,a,none⟩) (n - a) (c - a)) (B.drop a):=by
 have b:=h.after a d;rw[if_neg i] at b;simp only[iJ,dU,aW,dX] at b;have e:List.drop a (aI B)=aI (B.drop a):=by simp[aI,fT]
 show aZ w S 1 _ (B.drop a).length _;rw[aO,f,<-e];exact b
def Ni:∀b:List (List UInt8),4*b.length<=(b.map fun r=>4+r.length).sum
 |[]=>aD _
 |r::b=>by have:=Ni b;simp only[bn,dK,qg];omega
theorem VN (D d:Nat)(σ:Dk)(l:Lg)(Sd Sl:Nat->Prop)(f k:Nat)(a:List (List UInt8))(Z:List UInt8)(w:World)(h:jg w Sd Sl D d σ l)(hd:σ.dead=false)(hL:Wy σ l f (iW k a) Z)(hk:k<1000000000000)(ha:f<=1000000)(hb:(iW k a).length<=(l.n - 1)*512):
  Calls Tryz.prog 127 #[.pointer (some ⟨D,0,none⟩),.int .i64 f,.int .i64 k] w fun e w'=>∃v,e= .returned (.tuple #[v,.int .i64 (((iW k a).length+511)/512:Nat),.int .i64 0])/\
   aT w' gB w.heap.size 9 1 v a.length ((a.map fun r=>strOf r).map .string)/\jg w' Sd Sl D d σ l/\Two Sd Sl Sd Sl w w':=by
 have rA:=h.lg.ok;obtain⟨lv,c0,c1,c2,_,_,_,_,_,_,G,_⟩:=h.cells;have lJ:(iW k a).length=16+(iU a).length:=by rw[tK,mD]
 obtain⟨L,HL⟩:=nm ((iW k a).length);obtain⟨nd,HN⟩:=nm ((L+511)/512);have hh:=rA.hi;have hn2:=rA.n2;rw[HL.out] at hb lJ ⊢;rw[HN.out];have dZ:1<=nd:=by rw[<-HN.out];omega
 have dR:nd<=4096:=by rw[<-HN.out];omega
 have tQ:Z.length=nd*512:=by rw[hL.len,HL.out,HN.out]
 have jF:=hL.beg;have kT:∀j,j<nd->σ.get (l.ring (f+j))=(Z.drop (j*512)).take 512:=fun j hj=>hL.sec j (by rw[HL.out,HN.out];exact hj)
 rw[HL.out] at jF;have j3:=(aR w.heap.size w).drew;have HRg:=ah (PU D d l Sl f w.drew (h.lg.keep (Keep.of_below j3 gB) (fun _ _ e=>e)));have iO:l.ring f<σ.n:=by
  have:=h.fit;have:=mZ f (show 0<l.n - 1 by omega);unfold Lg.ring;omega
 have zb:=ah (Nk d σ Sd (l.ring f) w.drew.drew (h.dk.below (j3.drew)) hd iO);rw[show σ.get (l.ring f)=Z.take 512 by have:=kT 0 (by omega);simpa using this] at zb;have HH:=ah h;have HZs:=ah kT;have yK:=ah jF;have kr:=ah tQ;clear h hL kT jF tQ;go_enter Tryz.func127,Tryz.ntmps127;go_wp2_with fail;refine aP (fun W=>W.cell? ⟨D,0,none⟩=some (.pointer (some ⟨d,0,none⟩))/\D<W.heap.size) (fun i=> !([6,7].contains i)) [0,1,2,3,4,5,6,7,8,9,10,11,12] rfl (by kernel_rfl) ⟨c0,G⟩ ?_
 repeat (refine oq ?_ rfl rfl rfl ?_ ?_;rotate_left;(focus intro W A;(try dsimp only at A);have r0:=A.1;have r1:=A.2;go_simp;first|done|with_reducible rfl);try simp only[Act.put,aj,au,ak])
 refine dI rfl rfl rfl ?_;intro K hK;go_simp;refine HRg.out.mono ?_;rintro e w8 ⟨rfl,hw8⟩;subst w8;refine hK.out _ _ ⟨c0,G⟩ ?_;refine dI rfl rfl rfl ?_;intro K hK;go_simp;refine zb.out.mono ?_;rintro e w1 ⟨v1,rfl,R,nS⟩;have s:Below w.heap.size w w1:=j3.drew.trans nS;refine hK.out _ _ ⟨(s.cell (p:=⟨D,0,none⟩) G).trans c0,ax G s.size⟩ ?_
 repeat (refine oq ?_ rfl rfl rfl ?_ ?_;rotate_left;(focus intro W A;(try dsimp only at A);have r0:=A.1;have r1:=A.2;go_simp;first|done|with_reducible rfl);try simp only[Act.put,aj,au,ak])
 refine bR ?_;obtain⟨g,c,rfl,hc1,hc2,yo⟩:∃g c,v1= .slice (some ⟨g,0,none⟩) 512 c/\512<=c/\c<=maxLen/\True:=by
  obtain⟨⟨oo,bN⟩,_⟩:=R;rcases bN with ⟨_,h0⟩|⟨g,xP,zW,hv,_,_,h1,h2,_⟩
  ·omega
  ·exact⟨g,xP,hv,h1,h2,trivial⟩
 clear yo;obtain⟨X,HX⟩:=nm (Z.take 512);rw[HX.out] at R;have qo:X.length=512:=by rw[<-HX.out,aH,kr.out];omega
 have bA:∀i j,i+j<=512->i+j<=L->(X.drop i).take j=((iW k a).drop i).take j:=fun i j h5 hj=>by
  rw[<-HX.out,gQ,dz,bK (by omega)];exact TW (by rw[HL.out];exact yK.out) i j (by rw[HL.out];exact hj)
 have e4:tH (X.take 4)=L:=by
  have:=bA 0 4 (by omega) (by omega);rw[dQ,dQ,Kb,HL.out] at this;rw[this,qy 4 L (by omega)]
 have e8:tH ((X.drop 4).take 8)=k:=by
  rw[bA 4 8 (by omega) (by omega),Mi,qy 8 k (by omega)]
 have nJ:aZ w1 gB 1 (.slice (some ⟨g,0,none⟩) 512 c) 512 (aI X):=R.dx;have mo:=NN _ X 4 gB w1 (show gF w1 gB (.slice (some ⟨g,0,none⟩) 512 c) X by show aZ w1 gB 1 _ X.length _;rw[qo];exact nJ) (by omega) (by omega);have lC:=NN _ (X.drop 4) 8 gB w1 (gF.from nJ qo (by omega) (by omega)) (by rw[aO,qo];omega) (by omega);rw[e4] at mo;rw[e8] at lC;have HG1:=ah mo;have HG2:=ah lC;have HO1:=ah R;have HB1:=ah nS;have fJ:=ah s;have d0:=(s.cell (p:=⟨D,0,none⟩) G).trans c0;have d2:=(s.cell (p:=⟨D,2,none⟩) G).trans c2;have hl1:=ax G s.size;have a1:IntKind.i64.wrap (L:Int)=(L:Int):=aG _ (by omega);have a2:=iC k (by omega);have a3:IntKind.i64.wrap ((l.n:Int) - 1)=((l.n - 1:Nat):Int):=by rw[aG _ (by omega)];omega
 have a4:IntKind.i64.wrap (((l.n - 1:Nat):Int)*512)=(((l.n - 1)*512:Nat):Int):=by rw[aG _ (by omega)];omega
 have t1:¬((L:Int)<16):=by omega
 have t2:¬((((l.n - 1)*512:Nat):Int)<(L:Int)):=by omega
 have zm:¬((((l.n - 1:Nat):Int)*512)<(L:Int)):=by omega
 have yc:¬((((l.n:Int) - 1)*512)<(L:Int)):=by omega
 have t3:(4:Int)<=512:=by omega
 have rV:=ah lJ;have a5:((L:Int)+512 - 1)/512=(nd:Int):=by rw[<-HN.out];omega
 have HA:=ah (HH.out.below fJ.out);have HO2:Hid (aT w1 gB w.heap.size 5 1 (.slice (some ⟨g,0,none⟩) 512 c) 512 (aI X)):=ah R;clear lJ;have HXm:=ah bA;have HXl:=ah qo;clear nJ mo lC R nS s e4 e8 bA qo c0 c2 hc2;go_wp2_with (first|(go_at_call 125;go_must (refine HG1.out.mono ?_;rintro e w2 ⟨rfl,zn⟩;subst w2;refine sO ?_)))
 refine sN ?_;go_wp2_with (first|(go_at_call 125;go_must (refine HG2.out.mono ?_;rintro e w2 ⟨rfl,zn⟩;subst w2;refine sO ?_)))
 refine sN ?_;go_wp2_with fail;rw[a5];clear a1 a2 a3 a4 a5 t1 t2 zm yc t3 d0 d2 hl1;go_loopw [9,13] (fun b i wr=>∃(j:Nat) (ao:Option Addr) (c:Nat),1<=j/\j<=nd/\i= .int .i64 j/\b= .slice ao (j*512) c/\Hid (aT wr gB w.heap.size 5 1 b (j*512) (aI (Z.take (j*512))))/\Hid (Below w.heap.size w wr)) (fun _ i _=>nd - (intOf i).toNat)
 case atStart=>
  refine⟨1,some ⟨g,0,none⟩,c,aD _,dZ,rfl,rfl,ah ?_,fJ⟩;rw[kE,HX.out];exact HO2.out
 case round=>
  obtain⟨j,ao,V,rG,hj2,rfl,rfl,av,O⟩:=hrel
  by_cases oH:j<nd
  ·have hjI:(j:Int)<(nd:Int):=by omega
   obtain⟨z,l6⟩:=nm (f+j);have b1:IntKind.i64.wrap ((f:Int)+(j:Int))=(z:Int):=(by rw[aG _ (by omega),<-l6.out];omega);have Q:=(aR wr.heap.size wr).drew;have F:=HH.out.below O.out;have rP:=ah (PU D d l Sl z wr.drew (F.lg.keep (Keep.of_below Q gB) (fun _ _ e=>e)));have y7:l.ring z<σ.n:=by
    have:=HH.out.fit;have:=mZ z (show 0<l.n - 1 by omega);unfold Lg.ring;omega
   have l9:=Nk d σ Sd (l.ring z) wr.drew.drew (F.dk.below Q.drew) hd y7;rw[<-l6.out,HZs.out j oH,l6.out] at l9;have dx:=ah l9;obtain⟨_,f0,_,_,_,_,_,_,_,_,aA,_⟩:=F.cells;have vo:=O.out.size;obtain⟨Y,HY⟩:=nm ((Z.drop (j*512)).take 512);rw[HY.out] at dx;clear l9 F;go_wp2_with fail;refine aP (fun W=>W.cell? ⟨D,0,none⟩=some (.pointer (some ⟨d,0,none⟩))/\D<W.heap.size) (fun i=> !([8,9].contains i)) [0,1,2,3,4,5,6,7,8,9,10,11,12,13,14] rfl (by kernel_rfl) ⟨f0,aA⟩ ?_
   repeat (refine oq ?_ rfl rfl rfl ?_ ?_;rotate_left;(focus intro W A;(try dsimp only at A);have r0:=A.1;have r1:=A.2;go_simp;first|done|with_reducible rfl);try simp only[Act.put,aj,au,ak])
   refine dI rfl rfl rfl ?_;intro K hK;go_simp;refine rP.out.mono ?_;rintro e w8 ⟨rfl,hw8⟩;subst w8;refine hK.out _ _ ⟨f0,aA⟩ ?_;refine dI rfl rfl rfl ?_;intro K hK;go_simp;refine dx.out.mono ?_;rintro e w3 ⟨v3,rfl,l5,tY⟩;have B:Below wr.heap.size wr w3:=Q.drew.trans tY;refine hK.out _ _ ⟨(B.cell (p:=⟨D,0,none⟩) aA).trans f0,ax aA B.size⟩ ?_
   repeat (refine oq ?_ rfl rfl rfl ?_ ?_;rotate_left;(focus intro W A;(try dsimp only at A);have r0:=A.1;have r1:=A.2;go_simp;first|done|with_reducible rfl);try simp only[Act.put,aj,au,ak])
   refine bR ?_;obtain⟨z8,c3,rfl,_,_,_,_⟩:=aZ.form l5.dx;have fK:=l5.dx.src (P:=Tryz.prog) bG (iA _);have jb:=av.out.below (w':=w3) B;have HE:=ah (show Z.take ((j+1)*512)=Z.take (j*512)++Y by rw[<-HY.out,NV]);obtain⟨m,Hm⟩:=nm (j*512);rw[Hm.out] at jb HE ⊢;have o7:=ah (show (j+1)*512=m+512 by rw[<-Hm.out];omega);have hmb:m<=4096*512:=(by rw[<-Hm.out];omega);have hs3:=B.size;have HB3:=ah (O.out.trans (B.mono vo));clear l5 tY B;go_wp2_with (first|(at_builtin;go_must ((refine cO rfl (.tmp 81) (.tmp 82) 70 70 rfl gB w.heap.size 5 1 1 (.int .u8 0) bG kJ rfl (.slice ao m V) m _ rfl jb (.slice z8 512 c3) 512 (aI Y) rfl fK (fun _ h=>h.elim) ?_ ?_ ?_ ?_);(focus omega);(focus unfold maxLen;omega);(focus omega);intro ao4 c4 w4 qc hk4 za hd4)))
   have HO4:=ah qc;have HB4:=ah (HB3.out.trans za);clear qc hk4 za hd4 jb fK;go_roundw
   case rel=>
    refine⟨j+1,ao4,c4,by omega,by omega,by go_num,by rw[o7.out],ah ?_,HB4⟩;rw[o7.out] at HE ⊢;rw[HE.out,iZ];exact HO4.out
   case measure=>simp[intOf];omega
  ·have y8:j=nd:=by omega
   subst y8;have oK:=rG;have x2:¬(j:Int)<(j:Int):=(by omega);have C:512<=j*512:=(by omega);have af:L<=j*512:=(by rw[<-kr.out] at C ⊢;have h1:=HN.out;have h2:=kr.out;omega);obtain⟨⟨oo,bN⟩,hns⟩:=av.out;have hao:∃g2,ao=some ⟨g2,0,none⟩/\j*512<=V/\V<=maxLen:=by
    rcases bN with ⟨_,h0⟩|⟨g2,xP,zW,hv,_,_,h1,h2,_⟩
    ·omega
    ·cases hv;exact⟨g2,rfl,h1,h2⟩
   obtain⟨g2,rfl,ql,vk⟩:=hao;clear oo bN hns;have sP:(Z.take (j*512)).take L=iW k a:=by
    rw[dz,bK af];exact yK.out
   have rX:aZ wr gB 1 (.slice (some ⟨g2,0,none⟩) L V) L (aI (iW k a)):=by
    have:=av.out.dx.upto L af;rw[aW] at this;rwa [show (aI (Z.take (j*512))).take L=aI (iW k a) by rw[<-sP];simp[aI,gI]] at this
   have pM:16<=L:=(by have:=rV.out;omega);have q8:512<=V:=aK C ql;have aB:=HL.out;have Q:=(aR wr.heap.size wr).drew;have q9:=rX.below Q;have bC:=NN _ ((iW k a).drop 12) 4 gB wr.drew (gF.from q9 aB (by omega) (by omega)) (by rw[aO,aB];omega) (by omega);rw[Mh,qy 4 _ (by have:=zq (iU a);omega)] at bC;obtain⟨sm,jl⟩:=nm (yL (iU a));rw[jl.out] at bC;have oO:sm<4294967296:=(by rw[<-jl.out];exact zq _);have F:=HH.out.below (O.out.drew);obtain⟨lv',dn,c9,j5⟩:=F.lg;have xV:w.heap.size<=g2:=(av.out.1.lt g2 (by simp[Value.ownBlock])).1;have J:(iU a).length=L - 16:=(by have:=rV.out;omega);have H:aZ wr.drew (fun g=>g=D) 1 (.slice (some ⟨g2,16,none⟩) (L - 16) (V - 16)) (L - 16) (aI (iU a)):=by
    have:=gF.from q9 aB pM (by omega:¬V=16);rw[Kc] at this;unfold gF at this;rw[J] at this;refine aZ.keep this fun g hg hl hs=>⟨rfl,fun e=> ?_⟩
    have h1:g=g2:=(by simpa [Value.ownBlock] using hg.symm);omega
   have lm:=Cc (iI d l lv') [] D 9 224 dn c9 (.slice (some ⟨g2,16,none⟩) (L - 16) (V - 16)) (iU a) (fun g=>g=D) wr.drew rfl j5.row (by rw[J];exact H) rfl;rw[show uV (iU a)=(sm:Int) by rw[uU,jl.out]] at lm;have HG3:=ah bC;have HSU:=ah lm;have bB:=ah F;have ko:=ah j5;have HBD:=ah H;have HG2':=ah xV;have z1:(L:Int)<=(V:Int):=(by omega);have z2:(12:Int)<=(L:Int):=(by omega);have z3:(16:Int)<=(L:Int):=(by omega);have z4:=iC sm (by omega);have z5:¬V=12:=(by omega);have z6:¬V=16:=(by omega);have z7:((L:Int) - 16)=((L - 16:Nat):Int):=(by omega);have fB:=ah J;have HZZ:=ah (aC C (aC af (aC ql (aC pM q8))));have hbn:4*a.length<=L:=by
    have h1:4*a.length<=(iU a).length:=(by rw[mD];exact Ni a);omega
   have HIL:=ah (show a.length<=600000 by have:j<=4096:=dR;omega);clear rX q9 bC lm F j5 H xV J sP aB vk Q rG hj2 oK C af ql pM q8 oO oH dR dZ;go_upto_region 16 with fail
   refine aP (fun W=>True) (fun i=> !([2,8].contains i)) [0,1,3,4,5,6,7,2,8,9,10] rfl (by kernel_rfl) trivial ?_
   repeat (refine oq ?_ rfl rfl rfl ?_ ?_;rotate_left;(focus intro W A;(try dsimp only at A);skip;go_simp;first|done|with_reducible rfl);try simp only[Act.put,aj,au,ak])
   refine dI rfl rfl rfl ?_;intro K hK;go_simp;refine HG3.out.mono ?_;rintro e w5 ⟨rfl,hw5⟩;subst w5;refine hK.out _ _ trivial ?_
   repeat (refine oq ?_ rfl rfl rfl ?_ ?_;rotate_left;(focus intro W A;(try dsimp only at A);skip;go_simp;first|done|with_reducible rfl);try simp only[Act.put,aj,au,ak])
   refine dI rfl rfl rfl ?_;intro K hK;go_simp;refine HSU.out.mono ?_;rintro e w5 ⟨rfl,c5,vv,S⟩;refine hK.out _ _ trivial ?_
   repeat (refine oq ?_ rfl rfl rfl ?_ ?_;rotate_left;(focus intro W A;(try dsimp only at A);skip;go_simp;first|done|with_reducible rfl);try simp only[Act.put,aj,au,ak])
   refine bR ?_;have r9:=ko.out.table vv S;have xK:jg w5 Sd Sl D d σ l:=⟨bB.out.dk.keep S (fun g hg e=>bB.out.dis g hg (e▸ko.out.sl)),⟨_,_,_,r9⟩,bB.out.dis,bB.out.fit⟩;have xE:Two Sd Sl Sd Sl w w5:=by
    have hb:=O.out.drew;refine⟨(Keep.of_below hb _).trans (S.mono (fun g _ e=> .inr (e▸ko.out.sl))) (fun _ _ e=>e),fun _ hg=> .inl hg⟩
   have fo:w.heap.size<=w5.heap.size:=aK O.out.size S.size;have fA:aZ w5 gB 1 (.slice (some ⟨g2,16,none⟩) (L - 16) (V - 16)) (L - 16) (aI (iU a)):=aZ.keep HBD.out fun g hg hl hs=>⟨S.block g hl hs,id⟩
   have jv:=ah (aC xK (aC xE fo));have yx:=ah fA;clear vv S r9 xK xE fo fA;go_upto_region 20 with fail
   go_loopw [16,17,18] (fun bv rv _ wk=>∃(i:Nat) (bo:Option Addr) (bc n:Nat) (ro:Option Addr) (N:Nat),i<=a.length/\bv= .slice bo i bc/\rv= .slice ro n N/\Hid (aT wk gB w5.heap.size 9 1 bv i (((a.take i).map fun r=>strOf r).map .string))/\Hid ((iU (a.drop i)).length=n/\aZ w5 gB 1 rv n (aI (iU (a.drop i))))/\Hid (Below w5.heap.size w5 wk)) (fun _ rv _ _=>(match rv with| .slice _ n _=>n|_=>0))
   case atStart=>
    refine⟨0,none,0,L - 16,some ⟨g2,16,none⟩,V - 16,aS _,rfl,rfl,ah (aT.nil _ _ _ _ _),ah ⟨?_,?_⟩,ah (aR _ _)⟩
    ·rw[dQ];exact fB.out
    ·rw[dQ];exact yx.out
   case round=>
    obtain⟨i,bo,bc,n,ro,N,hi,rfl,rfl,sF,mr,T⟩:=hrel;have hfr:=aZ.form mr.out.2;obtain⟨ro',rc',he,hnc,hcm,rJ,iO⟩:=hfr;cases he
    by_cases lQ:i<a.length
    ·have di:a.drop i=a[i]::a.drop (i+1):=cu lQ
     have mK:a.take (i+1)=a.take i++[a[i]]:=aL lQ;have kg:a[i].length<=L:=by
      have h1:(iU (a.drop i)).length<=(iU a).length:=by
       rw[mD,mD];have:a=a.take i++a.drop i:=(bJ i a).symm
       conv=>rhs;rw[this]
       rw[bT,kV];omega
      rw[di,J4] at h1;have:=fB.out;omega
     obtain⟨r,hr⟩:=nm (a[i]);rw[hr.out] at di mK kg;obtain⟨q,hq⟩:=nm r.length;have hv:=mr.out;rw[di] at hv;have nA:=Pm r (a.drop (i+1));have M:=RU r (a.drop (i+1));have p9:=Pj r (a.drop (i+1));have E:=J4 r (a.drop (i+1));obtain⟨Y,hY⟩:=nm (iU (r::a.drop (i+1)));obtain⟨Y2,nH⟩:=nm (iU (a.drop (i+1)));rw[hY.out] at hv nA M p9 E;rw[nH.out] at p9 E;rw[hq.out] at M p9 E kg;obtain⟨nk,jO⟩:=hv;have hn:n=4+q+Y2.length:=(by rw[<-nk,E]);obtain⟨rb,y,rfl⟩:∃b o,ro=some ⟨b,o,none⟩:=rJ.resolve_left (by omega)
     have j6:=jO.below T.out;have j4:=NN _ Y 4 gB wr (show gF wr gB (.slice (some ⟨rb,y,none⟩) n N) Y by unfold gF;rw[nk];exact j6) (by omega) (by omega);rw[nA,hq.out,qy 4 q (by have:=HZZ.out;omega)] at j4;have t:=(j6.upto (4+q) (by omega)).after 4 (by omega);have I:=jO.after (4+q) (by omega);rw[aW] at t I;rw[aW] at t;rw[show (aI Y).drop (4+q)=aI Y2 by rw[<-p9];simp[aI,fT]] at I;rw[show List.drop 4 ((aI Y).take (4+q))=aI r by rw[<-M];simp[aI,gI,fT]] at t;rw[show 4+q - 4=q by omega] at t;rw[show n - (4+q)=Y2.length by omega] at I;have vO:∀W:World,(Instr.slice 70 (.slice (some ⟨rb,y,none⟩) n N) (some (.int .i64 4)) (some (.int .i64 ((4+q:Nat):Int))) none).run Tryz.prog W= .ok (.slice (if N=4 then some ⟨rb,y,none⟩ else(some (⟨rb,y,none⟩:Addr)).map fun x=>x.add 4) q (N - 4)) W:=fun W=>by
      rw[run_slice_lh W 70 _ _ _ (by kernel_rfl) .i64 .i64 4 ((4+q:Nat):Int) (by omega) (by omega) (by omega)];have e:(((4+q:Nat):Int)).toNat - Int.toNat 4=q:=(by omega);simp only[sliced];rw[e];rfl
     have o5:∀W:World,(Instr.slice 70 (.slice (some ⟨rb,y,none⟩) n N) (some (.int .i64 ((4+q:Nat):Int))) none none).run Tryz.prog W= .ok (.slice (if N=4+q then some ⟨rb,y,none⟩ else(some (⟨rb,y,none⟩:Addr)).map fun x=>x.add (4+q)) Y2.length (N - (4+q))) W:=fun W=>by
      rw[run_slice_l W 70 _ _ _ (by kernel_rfl) .i64 ((4+q:Nat):Int) (by omega) (by omega)];have e:n - (((4+q:Nat):Int)).toNat=Y2.length:=(by omega);have e2:(((4+q:Nat):Int)).toNat=4+q:=(by omega);have zS:(sizeOf (Tryz.prog.elem 70)).run Tryz.prog W= .ok 1 W:=rfl;simp only[sliced];rw[e,e2,zS];simp only[Result.andThen,aW]
     obtain⟨a1,zf⟩:=nm ((if N=4 then some (⟨rb,y,none⟩:Addr) else(some (⟨rb,y,none⟩:Addr)).map fun x=>x.add 4));obtain⟨a2,ha2⟩:=nm ((if N=4+q then some (⟨rb,y,none⟩:Addr) else(some (⟨rb,y,none⟩:Addr)).map fun x=>x.add (4+q)));rw[zf.out] at t vO;rw[ha2.out] at I o5;obtain⟨p4,o6⟩:∃p4,Hid (4+q=p4):=⟨_,ah rfl⟩
     rw[o6.out] at vO o5 I;have y1:(4:Int)<=(n:Int):=(by omega);have y2:IntKind.i64.wrap (4+(q:Int))=(p4:Int):=(by rw[aG _ (by omega),<-o6.out];omega);have y3:IntKind.i64.wrap ((n:Int) - 4)=((n - 4:Nat):Int):=(by rw[aG _ (by omega)];omega);have y4:¬((n - 4:Nat):Int)<(q:Int):=(by omega);have y5:IntKind.i64.wrap (q:Int)=(q:Int):=aG _ (by omega);have hcv:(convert 70 9 (.slice a1 q (N - 4))).run Tryz.prog wr= .ok (.string (strOf r)) wr:=aZ.strOf (by rw[hq.out];exact t);have HGR:=ah j4;have HTL:=ah I;have zP:=ah mK;have HLY:=ah (show Y2.length<n by omega);have rF:=ah lQ;have hil:i+1<=1000000:=(by have:=HIL.out;have:=rF.out;omega);clear j4 I t j6 jO nk hn nA M p9 E di mK kg hnc hcm rJ iO;go_wp2_with (first|(go_at_call 125;go_must (refine HGR.out.mono ?_;rintro e w6 ⟨rfl,hw6⟩;subst w6))|(at_builtin;go_must ((refine cO rfl (.tmp 111) (.tmp 117) 142 142 rfl gB w5.heap.size 9 1 16 _ bq ig rfl (.slice bo i bc) _ _ rfl (sF.out.below (aN _ _)) _ 1 _ rfl (gq [_] _ 1 1 1 rfl bq rfl ?_) (fun _ h=>h.elim) ?_ ?_ ?_ ?_);(focus simp[Value.oneCell']);(focus simp only[aU];have:=T.out.size;omega);(focus unfold maxLen;omega);(focus omega);intro zA c1 w6 qb hk6 vz zX)))
     have HO6:=ah qb;have HB6:=ah (T.out.trans (((aN wr _).mono T.out.size).trans vz));clear qb hk6 vz zX;go_roundw
     case rel=>
      refine⟨i+1,zA,c1,Y2.length,a2,N - p4,rF.out,rfl,rfl,ah ?_,ah ⟨by rw[nH.out],by rw[nH.out];exact HTL.out⟩,HB6⟩;rw[zP.out,bT,bT];exact HO6.out
     case measure=>exact HLY.out
    ·obtain rfl:i=a.length:=by omega
     have hn0:n=0:=(by have:=mr.out.1;rw[kY] at this;exact this.symm);subst hn0;go_wp2_with fail
     go_ret3
     refine⟨.slice bo a.length bc,rfl,?_,jv.out.1.below T.out,jv.out.2.1.trans (Two.of_below T.out)⟩;have:=sF.out;rw[bS,Au] at this;exact aT.lower this jv.out.2.2
def CP (b:List (List UInt8)):List Value:=(b.map fun r=>strOf r).map .string
structure mV (w:World)(S:Nat->Prop)(B:Nat)(v:Value)(vs:List Value)(bs:List (List (List UInt8))):Prop where
 own:aT w S B 142 1 v vs.length vs
 len:vs.length=bs.length
 row:∀i (h:i<bs.length),∃u,vs[i]? =some u/\aZ w (fun g=>S g\/v.ownBlock=some g) 1 u bs[i].length (CP bs[i])
def mV.nil (w:World)(S:Nat->Prop)(B:Nat):mV w S B (.slice none 0 0) [] []:=⟨aT.nil _ _ _ _ _,rfl,fun i h=>absurd h (tN _)⟩
def mV.keep {w':World}{S S':Nat->Prop}{f:List Value}{c:List (List (List UInt8))}(h:mV w S B v f c)(d:Keep S w w')(j:∀g,S' g->S g\/w.heap.size<=g):mV w' S' B v f c:=by
 refine⟨h.own.keep fun g k b a=>⟨d.block g b a,fun e=>(j g e).elim a (fun x=>absurd b (bg.2 x))⟩,h.len,fun i n=> ?_⟩;obtain⟨u,m,l⟩:=h.row i n;exact⟨u,m,l.keep fun g k b a=>⟨d.block g b (fun e=>a (.inl e)),fun e=>e.elim (fun x=>(j g x).elim (fun y=>a (.inl y)) (fun y=>absurd b (bg.2 y))) (fun x=>a (.inr x))⟩⟩
def mV.below {w':World}{S:Nat->Prop}{a:List Value}{b:List (List (List UInt8))}(h:mV w S B v a b)(c:Below w.heap.size w w'):mV w' S B v a b:=h.keep (Keep.of_below c S) (fun _ e=> .inl e)
def mV.app {c:World}{S:Nat->Prop}{d u:Value}{j:List Value}{f:List (List (List UInt8))}{b:List (List UInt8)}(h:mV w S B v j f)(s:aT c S B 142 1 d (j.length+1) (j++[u]))(r:Keep (fun g=>v.ownBlock=some g) w c)
  (A:aZ w (fun g=>S g\/v.ownBlock=some g) 1 u b.length (CP b)) (D:∀g,g<w.heap.size->v.ownBlock≠some g->d.ownBlock≠some g):mV c S B d (j++[u]) (f++[b]):=by
 have a:∀{n:Nat} {x:Value} {q:List Value},aZ w (fun g=>S g\/v.ownBlock=some g) 1 x n q->aZ c (fun g=>S g\/d.ownBlock=some g) 1 x n q:=fun o=>o.keep fun g E p m=>
  ⟨r.block g p (fun e=>m (.inr e)),fun e=>e.elim (fun y=>m (.inl y)) (fun y=>D g p (fun z=>m (.inr z)) y)⟩
 refine⟨by rw[ay,dN];exact s,by rw[ay,ay,h.len];rfl,fun i C=> ?_⟩
 by_cases l:i<f.length
 ·obtain⟨x,o,t⟩:=h.row i l
  rw[Et l];exact⟨x,by rw[eF (by rw[h.len];exact l)];exact o,a t⟩
 ·have k:i=f.length:=by rw[ay,dN] at C;omega
  subst k;rw[sj (aD _)];refine⟨u,by rw[<-h.len,dA (aD _),ru];rfl,?_⟩;simpa using a A
def Lg.upTo (l:Lg)(i:Nat):Lg:={l with used:=((l.list.take i).map (·.2)).sum,list:=l.list.take i}
def Lg.MK (h:l.Ok)(i:Nat):(l.upTo i).Ok:=by
 refine⟨h.n2,h.hi,h.st,?_,h.la,h.sy,fun e a=>h.ent e (eT a),rfl⟩;have e:=h.sum;have b:=h.us;have:l.list=l.list.take i++l.list.drop i:=(bJ i l.list).symm;rw[this,bT,kV] at e;show ((l.list.take i).map (·.2)).sum<=l.n - 1;omega
def Lg.zm (h:l.Ok):l.upTo l.list.length=l:=by
 unfold Lg.upTo;rw[bS,h.sum]
def qC.at (h:qC s l a)(i:Nat)(c:i<a.length):l.list[i]? =some (l.last+1 - a.length+i,dS a[i]):=by
 rw[h.list];generalize l.last+1 - a.length=k;clear h
 induction a generalizing i k with
 |nil=>exact absurd c (tN _)
 |cons b r ih=>
  cases i with
  |zero=>rfl
  |succ i=>
   rw[kU,eO,ih i (by simpa using c) (k+1),vG];congr 2;omega
def qC.GA (h:qC s l a):l.list.length=a.length:=by rw[h.list,yA]
def qC.SQ (h:qC s l a)(i:Nat):(l.upTo i).used=wide (a.take i):=by
 show ((l.list.take i).map (·.2)).sum=_;rw[h.list,wH,yU]
def qC.first (h:qC s l a):l.first=l.last+1 - a.length:=rR h.list h.len
def Le {W:List (List (List UInt8))}{σ:Dk}{Z p:Nat->Prop}{A E C M:Nat}{c P F:World}{q:Value}{B:Bool}{R:Int}{b:Option Addr}{k X:Nat}(T:qC s l W)(Q:i<W.length)(t:l.list[i]? =some (E,C))(V:(l.upTo i).used+C=M)
  (j:jg c Z p A d σ (l.upTo i)) (o:pV c p A d (l.upTo i) q B R) (H:Keep (fun g=>q.ownBlock=some g) c P)
  (m:mO P 229 2 (.slice b (i+1) k) (i+1) (jQ (l.upTo i).list++[.int .i64 (E:Int),.int .i64 (C:Int)])) (v:(Value.slice b (i+1) k).ownBlock=q.ownBlock\/∃g,(Value.slice b (i+1) k).ownBlock=some g/\(c.drew.alloc (.cells #[.int .i64 E,.int .i64 C] X)).heap.size<=g)
  (f:Keep (fun g=>g=A) P F) (O:Row F A 224 (((jc (iI d (l.upTo i) q) B R []).set 5 (.slice b (i+1) k)).set 4 (.int .i64 (M:Int)))):
  ∃Y:Nat->Prop,(∀g,Y g->p g\/c.heap.size<=g)/\jg F Z Y A d σ (l.upTo (i+1))/\Keep p c F:=by
 have D:=o.slv (show (l.upTo i).dead=false from T.dead);have n:Keep p c F:=(H.mono (fun g _ e=>(D g e).1)).trans f (fun g _ e=>e▸o.sl);have J:c.heap.size<=(c.drew.alloc (.cells #[.int .i64 E,.int .i64 C] X)).heap.size:=by simp
 have I:∀g,(Value.slice b (i+1) k).ownBlock=some g->p g\/c.heap.size<=g:=fun g a=>by
  rcases v with e|⟨g',e,z⟩
  ·exact .inl (D g (e▸a)).1
  ·rw[e] at a;cases a;exact .inr (aK J z)
 have r:∀g,(Value.slice b (i+1) k).ownBlock=some g->g≠A:=fun g a=>by
  rcases v with e|⟨g',e,z⟩
  ·exact(D g (e▸a)).2
  ·rw[e] at a;cases a
   have h1:=o.row.lt;have h2:c.heap.size<=g:=aK J z;omega
 have y:∀g,(p g\/(Value.slice b (i+1) k).ownBlock=some g)->p g\/c.heap.size<=g:=fun g a=>a.elim .inl (I g)
 have N:i<l.list.length:=by rw[T.GA];exact Q
 have G:l.list.take (i+1)=l.list.take i++[(E,C)]:=by
  rw[aL N];rw[bD N] at t;rw[zi t]
 have K:(l.upTo (i+1)).used=M:=by
  show ((l.list.take (i+1)).map (·.2)).sum=M;rw[G,bT,kV,<-V];simp[Lg.upTo]
 have S:pV F (fun g=>p g\/(Value.slice b (i+1) k).ownBlock=some g) A d (l.upTo (i+1)) (.slice b (i+1) k) B R:=by
  refine⟨Lg.MK T.ok _,fun g a=> ?_,.inl o.sl,?_,fun _=> ?_,fun _ g a=>⟨.inr a,r g a⟩⟩
  ·rcases a with a|a
   ·exact ax (o.sub g a) n.size
   ·exact ax (m.lt a) f.size
  ·have:iI d (l.upTo (i+1)) (.slice b (i+1) k)=[.pointer (some ⟨d,0,none⟩),.int .i64 l.frm,.int .i64 l.n,.int .i64 l.start,.int .i64 (M:Int),.slice b (i+1) k,.int .i64 l.last,.int .i64 l.synced,.bool l.dead]:=by
    unfold iI;rw[K];rfl
   rw[this];exact O
  ·have e1:(l.upTo (i+1)).list.length=i+1:=by show (l.list.take (i+1)).length=_;rw[aH];omega
   have e2:jQ (l.upTo (i+1)).list=jQ (l.upTo i).list++[.int .i64 (E:Int),.int .i64 (C:Int)]:=by
    show jQ (l.list.take (i+1))=jQ (l.list.take i)++_;rw[G,vD];rfl
   rw[e1,e2];exact m.keep fun g a=>f.block g (m.lt a) (r g a)
 exact⟨_,y,⟨j.dk.keep n (fun g a e=>j.dis g a e),⟨_,_,_,S⟩,fun g a e=>(y g e).elim (j.dis g a) (fun x=>absurd (j.dk.sub g a) (bg.2 x)),j.fit⟩,n⟩
def Ou {K:Lg}{b:List (List UInt8)}{D:List (List (List UInt8))}{J:Dk}{c i q:Nat->Prop}{E:Nat}{wr z p:World}{C I:Value}{F:List Value}(G:jg wr c i E d J l)(j:Step c (fun g=>c g\/i g) w wr)(r:mV wr (fun g=>c g\/i g) B C F D)
  (A:Two c i c i wr.drew z) (t:aT z gB wr.drew.heap.size 9 1 I b.length (CP b)) (m:Keep i z p) (k:∀g,q g->i g\/z.heap.size<=g) (s:jg p c q E d J K):
  Step c (fun g=>c g\/q g) w p/\mV p (fun g=>c g\/q g) B C F D/\aZ p (fun g=>(c g\/q g)\/C.ownBlock=some g) 1 I b.length (CP b)/\∀g,c g\/q g->g<p.heap.size:=by
 have f:Keep (fun g=>c g\/i g) wr z:=(Keep.of_below (aR wr.heap.size wr).drew _).trans A.1 (fun _ _ e=>e);have n:Keep (fun g=>c g\/i g) wr p:=f.trans m (fun _ _ e=> .inr e);have v:∀g,c g\/i g->g<wr.heap.size:=fun g a=>a.elim (G.dk.sub g) (G.lg.sub g)
 refine⟨⟨j.1.trans n (fun g a e=>(j.2 g e).elim id (fun x=>absurd a (bg.2 x))),fun g a=> ?_⟩,r.keep n fun g a=> ?_,aZ.keep t.dx fun g a H _=> ?_,fun g a=>a.elim (s.dk.sub g) (s.lg.sub g)⟩
 ·rcases a with a|a
  ·exact j.2 g (.inl a)
  ·rcases k g a with a|a
   ·exact j.2 g (.inr a)
   ·exact .inr (aK (aK j.1.size f.size) a)
 ·rcases a with a|a
  ·exact .inl (.inl a)
  ·exact(k g a).elim (fun x=> .inl (.inr x)) (fun x=> .inr (aK f.size x))
 ·have y:=(t.1.lt g a).1
  have o:¬(c g\/i g):=fun e=>absurd (v g e) (bg.2 y)
  refine⟨m.block g H (fun e=>o (.inr e)),fun e=> ?_⟩;rcases e with (e|e)|e
  ·exact o (.inl e)
  ·exact(k g e).elim (fun x=>o (.inr x)) (fun x=>absurd H (bg.2 x))
  ·exact absurd (r.own.1.lt g e).2 (bg.2 y)
def LF:(Tryz.prog.info? 142).map (fun i=>(i.zero,i.size,i.bytes))=some (some (.slice none 0 0),1,24):=by kernel_rfl
theorem VK (d:Nat)(σ:Dk)(I:Nat->Prop)(n:Nat)(l:Lg)(E:List (List (List UInt8)))(w:World)(h:qK w I d σ)(hd:σ.dead=false)(hL:qC σ.get l E)(hn:l.n=n)(hfit:n<=σ.n)(hll:l.last<1000000000000):
  Calls Tryz.prog 75 #[.pointer (some ⟨d,0,none⟩),.int .i64 0,.int .i64 n] w fun e w'=>∃a Sl av vs,e= .returned (.tuple #[.pointer (some ⟨a,0,none⟩),av,.int .i64 0])/\
   jg w' I Sl a d σ l/\mV w' (fun g=>I g\/Sl g) w.heap.size av vs E/\Step I (fun g=>I g\/Sl g) w w':=by
 have di:=hL.ok;have hn2:=di.n2;have qb:=di.hi;have p9:=di.st;have hla:=di.la;have hsy:=hL.tQ;have hlen:=hL.len;have vz:=hL.frm;have pM:=di.us;rw[hn] at hn2 qb p9 pM;have HR:Hid (Calls Tryz.prog 123 #[.pointer (some ⟨d,0,none⟩),.int .i64 0,.int .i64 n] w fun e w'=>e= .returned (.int .i64 0)/\w'=w):=ah (ME d σ I 0 n w h hn2 (by omega));have j3:=Nk d σ I 0 w h hd (by have:=h.ok.lo;omega);obtain⟨z,hz⟩:=nm (List.replicate (512 - l.fJ.length) (0:UInt8));have hX:σ.get 0=l.fJ++z:=by rw[hL.mark];unfold pad;rw[hz.out]
 have qo:(l.fJ++z).length=512:=by rw[<-hX];exact h.ok.get 0
 have hf:=di.fields;have jF:∀i (hi:i<5),tH (((l.fJ++z).drop (12+8*i)).take 8)=l.fields.getD i 0:=fun i hi=>by
  rw[Ll l z i hi,qy 8 _ ?_];have:l.fields.getD i 0∈l.fields:=by
   rw[eu,bD (show i<l.fields.length from hi)];exact bF _
  have:=hf _ this;omega
 have f0:=jF 0 (by omega);have f1:=jF 1 (by omega);have f2:=jF 2 (by omega);have f3:=jF 3 (by omega);have f4:=jF 4 (by omega);have iO:=hL.first;have g0:l.fields.getD 0 0=0:=vz;have g1:l.fields.getD 1 0=n:=hn;have g2:l.fields.getD 2 0=l.start:=rfl;have g3:l.fields.getD 3 0=l.last+1 - E.length:=iO;have g4:l.fields.getD 4 0=l.last:=hsy;rw[g0] at f0;rw[g1] at f1;rw[g2] at f2;rw[g3] at f3;rw[g4] at f4;rw[hX] at j3;obtain⟨X,hXX⟩:=nm (l.fJ++z);have yx:=Lj l z;have zb:=OB l z;have xV:=Q0 l z;rw[hXX.out] at j3 qo f0 f1 f2 f3 f4 yx zb xV;have j3:=ah j3;have HF:=ah (aC f0 (aC f1 (aC f2 (aC f3 f4))));have HM:=ah (aC yx (aC zb (aC xV qo)));have J:=ah hL;have HH:=ah h;have HN:=ah hn;have l6:=ah (aC hn2 (aC qb (aC p9 (aC hla (aC hsy (aC hlen (aC vz pM)))))));clear jF iO g0 g1 g2 g3 g4 f0 f1 f2 f3 f4 hX yx zb xV qo hL h hf di;go_enter Tryz.func75,Tryz.ntmps75;go_wp2_with (first|(go_at_call 123;go_must (refine HR.out.mono ?_;rintro e w1 ⟨rfl,yc⟩;subst w1;refine sO ?_)))
 refine sN ?_;go_wp2_with (first|(go_at_call 102;go_must (refine j3.out.mono ?_;rintro e w1 ⟨v1,rfl,nH,rJ⟩;refine sO ?_)))
 refine sN ?_;obtain⟨g,c,rfl,dx,fB⟩:∃g c,v1= .slice (some ⟨g,0,none⟩) 512 c/\512<=c/\c<=maxLen:=by
  obtain⟨⟨zn,hr0⟩,_⟩:=nH;rcases hr0 with ⟨_,h0⟩|⟨g,rA,cur,hv,_,_,h1,h2,_⟩
  ·omega
  ·exact⟨g,rA,hv,h1,h2⟩
 have bH:w.heap.size<=g:=(nH.1.lt g (by simp[Value.ownBlock])).1;have qc:g<w1.heap.size:=(nH.1.lt g (by simp[Value.ownBlock])).2;have hS1:aZ w1 gB 1 (.slice (some ⟨g,0,none⟩) 512 c) 512 (aI X):=nH.dx;have rG:=aN w1 (.cells #[.slice (some ⟨g,0,none⟩) 512 c] 70);have jl:=aV w1 (.cells #[.slice (some ⟨g,0,none⟩) 512 c] 70);obtain⟨S,rF⟩:=nm (w1.alloc (.cells #[.slice (some ⟨g,0,none⟩) 512 c] 70));have zS:S.heap.size=w1.heap.size+1:=by rw[<-rF.out];simp
 rw[rF.out] at rG jl;have kg:=aN S (.cells #[.int .i64 12] 3);have o6:=aV S (.cells #[.int .i64 12] 3);obtain⟨Q,o7⟩:=nm (S.alloc (.cells #[.int .i64 12] 3));have nJ:Q.heap.size=S.heap.size+1:=by rw[<-o7.out];simp
 rw[o7.out] at kg o6;have nk:=aN Q (.cells (jc (iI d (Lg.new 0 n) (.slice none 0 0)) false 0 []).toArray 224);have H:Row (Q.alloc (.cells (jc (iI d (Lg.new 0 n) (.slice none 0 0)) false 0 []).toArray 224)) Q.heap.size 224 (jc (iI d (Lg.new 0 n) (.slice none 0 0)) false 0 []):=Row.new Q _ _;obtain⟨V,nS⟩:=nm (Q.alloc (.cells (jc (iI d (Lg.new 0 n) (.slice none 0 0)) false 0 []).toArray 224));have hs4:V.heap.size=Q.heap.size+1:=by rw[<-nS.out];simp
 rw[nS.out] at nk H;obtain⟨pb,jv⟩:=nm w1.heap.size;obtain⟨pk,mK⟩:=nm S.heap.size;obtain⟨a,oH⟩:=nm Q.heap.size;have bC:pb+1=pk:=by rw[<-jv.out,<-mK.out,zS]
 have bB:pk+1=a:=by rw[<-mK.out,<-oH.out,nJ]
 rw[jv.out] at jl qc;rw[mK.out] at o6;rw[oH.out] at H;have hl2:pb<S.heap.size:=by rw[zS,jv.out];omega
 have hl3:pk<Q.heap.size:=by rw[nJ,mK.out];omega
 have fJ:a<V.heap.size:=by rw[hs4,oH.out];omega
 have q:=(nk.block pb (by rw[nJ];omega)).trans ((kg.block pb hl2).trans jl);have o:=(nk.block pk hl3).trans o6;have nA:=rG.trans ((kg.trans (nk.mono kg.size)).mono rG.size);have k:=rJ.trans (nA.mono rJ.size);have O:=hS1.below nA;have T:=ah (aC k (aC bH (aC bC (aC bB (aC fJ (aC q (aC o (aC H (aC O (aC dx (aC fB (aC qc (aC (rJ.size) jv.out)))))))))))));clear nH rJ hS1 rG jl kg o6 nk H zS nJ hs4 bC bB hl2 hl3 fJ q o nA k O bH qc;have hmf:∀(fn:Fn) (first rA:Array Value) (w:World),(Instr.makeFunc fn first rA).run Tryz.prog w= .ok (.func fn first rA) w:=fun _ _ _ _=>rfl
 go_upto_region 10 with fail
 have hlc:(Tryz.zeroCells224.setIfInBounds 0 (.pointer (some ⟨d,0,none⟩))|>.setIfInBounds 1 (.int .i64 0)|>.setIfInBounds 2 (.int .i64 (n:Int)))=(jc (iI d (Lg.new 0 n) (.slice none 0 0)) false 0 []).toArray:=Fq d 0 n;rw[hlc];rw[rF.out,o7.out,nS.out,jv.out,T.out.2.2.1,T.out.2.2.2.1];clear hlc;obtain⟨k,bH,bC,bB,fJ,q,o,H,O,dx,fB,qc,bN,_⟩:=T.out;have hbD:=(aR V.heap.size V).drew;have l9:=O.below hbD;have hglg:g≠a:=by omega
 have qo:=HM.out.2.2.2;have t:∀W:World,Keep (fun x=>x=a) V.drew W->W.cell? ⟨pb,0,none⟩=some (.slice (some ⟨g,0,none⟩) 512 c)/\W.cell? ⟨pk,0,none⟩=some (.int .i64 12)/\pb<W.heap.size/\pk<W.heap.size/\(convert 70 9 (.slice (some ⟨g,0,none⟩) 12 c)).run Tryz.prog W= .ok (.string ⟨#[100,111,99,107,101,116,32,108,111,103,32,49]⟩) W:=by
  intro W hk;have e1:=(hk.block pb (by show pb<V.heap.size;omega) (by omega)).trans q;have e2:=(hk.block pk (by show pk<V.heap.size;omega) (by omega)).trans o;refine⟨by simp[World.cell?,e1],by simp[World.cell?,e2],(ai.1 e1).1,(ai.1 e2).1,?_⟩;have hs:aZ W gB 1 (.slice (some ⟨g,0,none⟩) 512 c) 512 (aI X):=l9.keep fun x hx hl _=>⟨hk.block x hl (fun e=>by
   have:x=g:=by simpa [Value.ownBlock] using hx.symm
   omega),id⟩
  have hu:=hs.upto 12 (by omega);rw[aW,show (aI X).take 12=aI magic by rw[<-HM.out.1];simp[aI,gI]] at hu;exact aZ.strOf (l:=magic) hu
 have y:=ah t;obtain⟨ha1,ha2,ha3,ha4,_⟩:=t _ (Keep.refl _ _);have q8:=fun (i:Nat) (hi:i<=4)=>PZ pb pk g c X i 512 V.drew (by omega) (by omega) ha1 ha2 qo (by show aZ _ _ _ _ X.length _;rw[qo];exact l9) hi
 obtain⟨F0,F1,F2,F3,F4⟩:=HF.out;have hw0:Calls Tryz.prog 124 #[.int .i64 0,.pointer (some ⟨pb,0,none⟩),.pointer (some ⟨pk,0,none⟩)] V.drew fun e w'=>e= .returned (.int .u64 0)/\w'=V.drew:=by
  have:=q8 0 (by omega);rw[F0] at this;exact this
 have yc:Calls Tryz.prog 124 #[.int .i64 1,.pointer (some ⟨pb,0,none⟩),.pointer (some ⟨pk,0,none⟩)] V.drew fun e w'=>e= .returned (.int .u64 n)/\w'=V.drew:=by
  have:=q8 1 (by omega);rw[F1] at this;exact this
 obtain⟨sm,jb⟩:=nm (yL l.mK);have hsmb:sm<4294967296:=by rw[<-jb.out];exact zq _
 have za:=NN _ (X.drop 52) 4 gB V.drew (gF.from l9 qo (by omega:52<=512) (by omega:¬c=52)) (by rw[aO,qo];omega) (by omega);rw[HM.out.2.2.1,jb.out,qy 4 sm (by omega)] at za;have kT:=l9.upto 52 (by omega);rw[aW,show (aI X).take 52=aI l.mK by rw[<-HM.out.2.1];simp[aI,gI]] at kT;have hrD:Row V.drew a 224 (jc (iI d (Lg.new 0 n) (.slice none 0 0)) false 0 []):=H;have zX:=Cc (iI d (Lg.new 0 n) (.slice none 0 0)) [] a 9 224 false 0 (.slice (some ⟨g,0,none⟩) 52 c) l.mK (fun x=>x=a) V.drew rfl hrD (by
  rw[l.pM]
  exact kT.keep fun x hx _ _=>⟨rfl,fun e=>by
   have:x=g:=by simpa [Value.ownBlock] using hx.symm
   omega⟩) rfl
 rw[show uV l.mK=(sm:Int) by rw[uU,jb.out]] at zX;have HW0:=ah hw0;have HW1:=ah yc;have HGT:=ah za;have HSU:=ah zX;have HWF:=ah q8;have q1:=iC n (by have:=l6.out;omega);have q2:=iC sm (by omega);have q3:¬c=52:=by omega
 have q4:(52:Int)<=(c:Int):=by omega
 have q5:(12:Int)<=(c:Int):=by omega
 have q6:IntKind.i64.wrap (52:Int)=52:=aG _ (by omega);clear t q8 hw0 yc za zX kT hrD l9 O H q o k hbD qo F0 F1 F2 F3 F4 ha1 ha2 ha3 ha4 hsmb bH bC bB dx fB qc bN hglg;refine aP (fun W=>Keep (fun x=>x=a) V.drew W) (fun i=> !([7,14,24,32].contains i)) [0,1,2,3,4,5,6,8,9,7,10,11,12,13,15,16,14,17,18,19,20,21,22,23,25,26,27,28,29,30,31,24,32,33,34,35] rfl (by kernel_rfl) (Keep.refl _ _) ?_
 repeat (refine oq ?_ rfl rfl rfl ?_ ?_;rotate_left;(focus intro W s;(try dsimp only at s);obtain⟨r0,r1,r2,r3,r4⟩:=y.out W s;go_simp;first|done|with_reducible rfl);try simp only[Act.put,aj,au,ak])
 refine dI rfl rfl rfl ?_;intro K hK;go_simp;refine HW0.out.mono ?_;rintro e w5 ⟨rfl,hw5⟩;subst w5;refine hK.out _ _ (Keep.refl _ _) ?_
 repeat (refine oq ?_ rfl rfl rfl ?_ ?_;rotate_left;(focus intro W s;(try dsimp only at s);obtain⟨r0,r1,r2,r3,r4⟩:=y.out W s;go_simp;first|done|with_reducible rfl);try simp only[Act.put,aj,au,ak])
 refine dI rfl rfl rfl ?_;intro K hK;go_simp;refine HW1.out.mono ?_;rintro e w5 ⟨rfl,hw5⟩;subst w5;refine hK.out _ _ (Keep.refl _ _) ?_
 repeat (refine oq ?_ rfl rfl rfl ?_ ?_;rotate_left;(focus intro W s;(try dsimp only at s);obtain⟨r0,r1,r2,r3,r4⟩:=y.out W s;go_simp;first|done|with_reducible rfl);try simp only[Act.put,aj,au,ak])
 refine dI rfl rfl rfl ?_;intro K hK;go_simp;refine HGT.out.mono ?_;rintro e w5 ⟨rfl,hw5⟩;subst w5;refine hK.out _ _ (Keep.refl _ _) ?_
 repeat (refine oq ?_ rfl rfl rfl ?_ ?_;rotate_left;(focus intro W s;(try dsimp only at s);obtain⟨r0,r1,r2,r3,r4⟩:=y.out W s;go_simp;first|done|with_reducible rfl);try simp only[Act.put,aj,au,ak])
 refine dI rfl rfl rfl ?_;intro K hK;go_simp;refine HSU.out.mono ?_;rintro e w5 ⟨rfl,c5,f,mo⟩;refine hK.out _ _ mo ?_
 repeat (refine oq ?_ rfl rfl rfl ?_ ?_;rotate_left;(focus intro W s;(try dsimp only at s);obtain⟨r0,r1,r2,r3,r4⟩:=y.out W s;go_simp;first|done|with_reducible rfl);try simp only[Act.put,aj,au,ak])
 refine bR ?_;obtain⟨k,bH,bC,bB,fJ,q,o,H,O,dx,fB,qc,bN,l5⟩:=T.out;obtain⟨F0,F1,F2,F3,F4⟩:=HF.out;have q8:∀W:World,Keep (fun x=>x=a) V.drew W->∀i:Nat,i<=4->Calls Tryz.prog 124 #[.int .i64 i,.pointer (some ⟨pb,0,none⟩),.pointer (some ⟨pk,0,none⟩)] W fun e w'=>e= .returned (.int .u64 (tH ((X.drop (12+8*i)).take 8)))/\w'=W:=fun W hk i hi=>by
  obtain⟨r0,r1,r2,r3,_⟩:=y.out W hk;refine PZ pb pk g c X i 512 W (by omega) (by omega) r0 r1 HM.out.2.2.2 ?_ hi;show aZ _ _ _ _ X.length _;rw[HM.out.2.2.2];exact(O.below (aR V.heap.size V).drew).keep fun x hx hl _=>⟨hk.block x hl (fun e=>by
   have:x=g:=by simpa [Value.ownBlock] using hx.symm
   omega),id⟩
 have yo:=q8 w5 mo 2 (by omega);have zW:=q8 w5 mo 4 (by omega);rw[F2] at yo;rw[F4] at zW;have oo:=(f.setCell 3 (.int .i64 l.start)).setCell 7 (.int .i64 l.last);have r9:=f.setCell 3 (.int .i64 l.start);have M:=oo.setCell 6 (.int .i64 l.last);have j4:Keep (fun x=>x=a) V.drew ((w5.setCell ⟨a,3,none⟩ (.int .i64 l.start)).setCell ⟨a,7,none⟩ (.int .i64 l.last)):=(mo.setCell (p:=⟨a,3,none⟩) (.inr rfl) _).setCell (p:=⟨a,7,none⟩) (.inr rfl) _;have dR:=j4.setCell (p:=⟨a,6,none⟩) (.inr rfl) (.int .i64 l.last);have hv3:=q8 _ dR 3 (by omega);rw[F3] at hv3;have e7:((w5.setCell ⟨a,3,none⟩ (.int .i64 l.start)).setCell ⟨a,7,none⟩ (.int .i64 l.last)).cell? ⟨a,7,none⟩=some (.int .i64 l.last):=(oo.cell 7).trans rfl;have hlt5:=f.lt;have b3:w5.cell? ⟨a,3,none⟩=some (.int .i64 0):=(f.cell 3).trans rfl;have b6:w5.cell? ⟨a,6,none⟩=some (.int .i64 0):=(f.cell 6).trans rfl;have b7:w5.cell? ⟨a,7,none⟩=some (.int .i64 0):=(f.cell 7).trans rfl;have fw3:=f.frozen 3;have fw6:=f.frozen 6;have fw7:=f.frozen 7;have fz3:=f.frozen 3;have fz7:=r9.frozen 7;have fz6:=oo.frozen 6;have zn:l.upTo 0=⟨0,n,l.start,0,[],l.last,l.last,false⟩:=by
  have h1:=J.out.frm;have h2:=HN.out;have h3:=J.out.tQ;have h4:=J.out.dead;unfold Lg.upTo;cases l
  simp only[iM,iH,List.sum_nil,Lg.mk.injEq] at h1 h2 h3 h4 ⊢;exact⟨h1,h2,trivial,trivial,trivial,trivial,h3,h4⟩
 have vo:Row (((w5.setCell ⟨a,3,none⟩ (.int .i64 l.start)).setCell ⟨a,7,none⟩ (.int .i64 l.last)).setCell ⟨a,6,none⟩ (.int .i64 l.last)) a 224 (jc (iI d (l.upTo 0) (.slice none 0 0)) true c5 []):=by
  rw[zn];exact M
 have HV2:=ah yo;have y8:=ah hv3;have HV4:=ah zW;have HR7:=ah (aC vo dR);have z1:IntKind.i64.wrap (l.start:Int)=(l.start:Int):=aG _ (by omega);have z2:IntKind.i64.wrap (l.last:Int)=(l.last:Int):=aG _ (by omega);obtain⟨F,hF⟩:=nm (l.last+1 - E.length);rw[hF.out] at y8;have hFb:1<=F/\F<=l.last+1/\F+E.length=l.last+1:=by rw[<-hF.out];omega
 obtain⟨G,A,B⟩:=hFb;have C:E.length<n:=by
  have h1:=Cu E;have h2:=J.out.SQ l.list.length;rw[J.out.GA,bS,<-J.out.GA,Lg.zm J.out.ok] at h2;omega
 have z3:IntKind.i64.wrap (F:Int)=(F:Int):=aG _ (by omega);have z4:¬(l.start:Int)<0:=by omega
 have z5:IntKind.i64.wrap ((n:Int) - 1)=((n - 1:Nat):Int):=by rw[aG _ (by omega)];omega
 have z6:¬((n - 1:Nat):Int)<=(l.start:Int):=by omega
 have z6b:¬n<=l.start+1:=by omega
 have z7:¬(F:Int)<1:=by omega
 have z8:IntKind.i64.wrap ((l.last:Int)+1)=((l.last+1:Nat):Int):=by rw[aG _ (by omega)];omega
 have z9:¬((l.last+1:Nat):Int)<(F:Int):=by omega
 have z10:IntKind.i64.wrap ((l.last:Int) - (F:Int))=(l.last:Int) - (F:Int):=aG _ (by omega);have z11:¬(n:Int)<=(l.last:Int) - (F:Int):=by omega
 have HFF:=ah (aC G (aC A (aC B C)));have e3:(((w5.setCell ⟨a,3,none⟩ (.int .i64 l.start)).setCell ⟨a,7,none⟩ (.int .i64 l.last)).setCell ⟨a,6,none⟩ (.int .i64 l.last)).cell? ⟨a,3,none⟩=some (.int .i64 l.start):=(M.cell 3).trans rfl;have e7':(((w5.setCell ⟨a,3,none⟩ (.int .i64 l.start)).setCell ⟨a,7,none⟩ (.int .i64 l.last)).setCell ⟨a,6,none⟩ (.int .i64 l.last)).cell? ⟨a,7,none⟩=some (.int .i64 l.last):=(M.cell 7).trans rfl;have hl7:=M.lt;clear q8 yo hv3 zW oo r9 M j4 dR zn vo F0 F1 F2 F3 F4 G A B C k bH bC bB fJ q o H O dx fB qc bN l5 q1 q2 q3 q4 q5 q6 f mo;go_wp2_with (first|(go_at_call 124;go_must (refine HV2.out.mono ?_;rintro e w6 ⟨rfl,hw6⟩;subst w6;refine sO ?_)))
 refine sN ?_;go_wp2_with (first|(go_at_call 124;go_must (refine HV4.out.mono ?_;rintro e w6 ⟨rfl,hw6⟩;subst w6;refine sO ?_)))
 refine sN ?_;go_wp2_with (first|(go_at_call 124;go_must (refine y8.out.mono ?_;rintro e w6 ⟨rfl,hw6⟩;subst w6;refine sO ?_)))
 refine sN ?_;go_upto_region 19 with fail
 obtain⟨w7,HW7⟩:=nm ((((w5.setCell ⟨a,3,none⟩ (.int .i64 l.start)).setCell ⟨a,7,none⟩ (.int .i64 l.last)).setCell ⟨a,6,none⟩ (.int .i64 l.last)));obtain⟨M,dR⟩:=HR7.out;rw[HW7.out] at M dR ⊢;obtain⟨k,bH,bC,bB,fJ,q,o,H,O,dx,fB,qc,bN,l5⟩:=T.out;have ko:Below w.heap.size w w7:=k.drew.trans (dR.jF (aK k.drew.size (aD _)) (fun g hg e=>by omega));have vO:w.heap.size<=a:=by omega
 have sP:pV w7 (fun x=>x=a) a d (l.upTo 0) (.slice none 0 0) true c5:=
  ⟨Lg.MK J.out.ok 0,fun x hx=>hx▸M.lt,rfl,M,fun _=>mO.nil _ _ _,fun _ g hg=>by cases hg⟩
 have hA0:jg w7 I (fun x=>x=a) a d σ (l.upTo 0):=⟨HH.out.below ko,⟨_,_,_,sP⟩,fun x hx e=>by
  have:=HH.out.sub x hx
  omega,by show l.frm+l.n<=σ.n;rw[l6.out.2.2.2.2.2.2.1,HN.out];omega⟩
 have rP:Step I (fun x=>I x\/x=a) w w7:=⟨Keep.of_below ko _,fun x hx=>hx.imp id (fun e=>by rw[e];exact vO)⟩;have HST:=ah (aC hA0 rP);clear M dR k bH bC bB fJ q o H O dx fB qc bN l5 ko vO sP hA0 rP b3 b6 b7 fw3 fw6 fw7 fz3 fz7 fz6 e7 e3 e7' hlt5 hl7 z3 z4 z5 z6 z7 z8 z9 z10 z11 z1 z2;clear HR hz hXX HM HF T y HW0 HW1 HGT HSU jb HV2 y8 HV4 HR7 j3 jv mK oH rF o7 nS HW7 hmf HWF;go_loopw [16,17,18,19,20] (fun av iv _ _ _ wr=>∃(i:Nat) (Sl:Nat->Prop) (vs:List Value),i<=E.length/\iv= .int .i64 ((F+i:Nat):Int)/\Hid (jg wr I Sl a d σ (l.upTo i))/\Hid (mV wr (fun g=>I g\/Sl g) w.heap.size av vs (E.take i))/\Hid (Step I (fun g=>I g\/Sl g) w wr)) (fun _ iv _ _ _ _=>F+E.length - (intOf iv).toNat)
 case atStart=>exact⟨0,fun x=>x=a,[],aS _,rfl,ah HST.out.1,ah (mV.nil _ _ _),ah HST.out.2⟩
 case round=>
  obtain⟨i,Sl,vs,hi,rfl,HA,oO,HSP⟩:=hrel;obtain⟨lv,dn,c6,hLr⟩:=HA.out.lg;obtain⟨d0,d1,d2,d3,d4,d5,d6,d7,d8,rX,_⟩:=hLr.cells;have e7:wr.cell? ⟨a,7,none⟩=some (.int .i64 l.last):=by rw[d7];show some (Value.int .i64 (l.synced:Int))=_;rw[J.out.tQ]
  have e3:wr.cell? ⟨a,3,none⟩=some (.int .i64 l.start):=d3;obtain⟨us,pM⟩:=nm ((l.upTo i).used);have e4:wr.cell? ⟨a,4,none⟩=some (.int .i64 us):=by rw[d4,pM.out]
  clear d0 d1 d2 d3 d4 d5 d6 d7 d8
  by_cases P:i<E.length
  ·obtain⟨G,A,B,C⟩:=HFF.out
   have y1:((F+i:Nat):Int)<=(l.last:Int):=(by omega);have rV:=J.out.on i P;rw[hF.out] at rV;obtain⟨Z,p1,p2,p3⟩:=rV;have af:=J.out.SQ i;rw[pM.out] at af;have fo:us+dS E[i]<=n - 1:=by
    have h1:=EP E i P;have h2:=Az E (i+1);have h3:=J.out.SQ l.list.length;rw[J.out.GA,bS,<-J.out.GA,Lg.zm J.out.ok] at h3;have:=l6.out.2.2.2.2.2.2.2;omega
   obtain⟨yK,hat⟩:=nm (l.start+us);rw[<-af,hat.out] at p3;have p9:=l6.out.2.2.1;have qb:=l6.out.2.1;obtain⟨nd,oK⟩:=nm (dS E[i]);rw[oK.out] at fo;have j6:Wy σ (l.upTo i) yK (iW (F+i) E[i]) Z:=⟨p1,p2,fun j hj=>p3 j hj⟩;have hbl:(iW (F+i) E[i]).length<=((l.upTo i).n - 1)*512:=by
    have h1:=uM (F+i) E[i];rw[oK.out] at h1;show _<=(l.n - 1)*512;rw[HN.out];have:nd*512<=(n - 1)*512:=bZ _ (by omega);omega
   have kr:=VN a d σ (l.upTo i) I Sl yK (F+i) E[i] Z wr.drew (HA.out.below (aR _ wr).drew) hd j6 (by omega) (by rw[<-hat.out];omega) hbl;rw[uM,oK.out] at kr;obtain⟨b,hb⟩:=nm (E[i]);rw[hb.out] at kr;obtain⟨kk,lm⟩:=nm (F+i);rw[lm.out] at kr y1 ⊢;have HWL:=ah kr;have y2:IntKind.i64.wrap ((l.start:Int)+(us:Int))=(yK:Int):=(by rw[aG _ (by omega),<-hat.out];omega);have hrm:(l.upTo i).room=n - 1 - us:=by
    show l.n - 1 - (l.upTo i).used=_;rw[pM.out,HN.out]
   have y3:¬((n - 1 - us:Nat):Int)<(nd:Int):=(by omega);obtain⟨un,hun⟩:=nm (us+nd);have y4:IntKind.i64.wrap ((us:Int)+(nd:Int))=(un:Int):=(by rw[aG _ (by omega),<-hun.out];omega);have y5:IntKind.i64.wrap ((kk:Int)+1)=((kk+1:Nat):Int):=(by have:=lm.out;rw[aG _ (by omega)];omega);have HI:=ah (aC P (aC af (aC fo (aC p9 (aC qb (aC G (aC A (aC B C))))))));have HRM:=ah hrm;obtain⟨zP,zm,rfl,_,_,_,_⟩:=aZ.form oO.out.own.dx;clear p1 p2 p3 j6 hbl kr af fo p9 qb G A B C hrm hi hLr;go_wp2_with fail;refine aP (fun W=>W.cell? ⟨a,3,none⟩=some (.int .i64 l.start)/\W.cell? ⟨a,4,none⟩=some (.int .i64 us)/\a<W.heap.size) (fun i=> !([11].contains i)) [0,1,2,3,4,5,6,7,8,9,10,11,12,13,14,15,16,17,18] rfl (by kernel_rfl) ⟨e3,e4,rX⟩ ?_
   repeat (refine oq ?_ rfl rfl rfl ?_ ?_;rotate_left;(focus intro W s;(try dsimp only at s);have r0:=s.1;have r1:=s.2.1;have r2:=s.2.2;go_simp;first|done|with_reducible rfl);try simp only[Act.put,aj,au,ak])
   refine dI rfl rfl rfl ?_;intro K hK;go_simp;refine HWL.out.mono ?_;rintro e S ⟨v2,rfl,q9,aB,dZ⟩;obtain⟨j5,dn2,c2',m⟩:=aB.lg;obtain⟨_,_,_,m3,m4,m5,_,_,_,hlt2,_⟩:=m.cells;have m3':S.cell? ⟨a,3,none⟩=some (.int .i64 l.start):=m3;have m4':S.cell? ⟨a,4,none⟩=some (.int .i64 us):=(by rw[m4,pM.out]);refine hK.out _ _ ⟨m3',m4',hlt2⟩ ?_
   repeat (refine oq ?_ rfl rfl rfl ?_ ?_;rotate_left;(focus intro W s;(try dsimp only at s);have r0:=s.1;have r1:=s.2.1;have r2:=s.2.2;go_simp;first|done|with_reducible rfl);try simp only[Act.put,aj,au,ak])
   refine bR ?_;have HRO:=ah (PS a d (l.upTo i) Sl S ⟨_,_,_,m⟩);rw[HRM.out] at HRO;have H2:=ah (aC q9 (aC aB (aC dZ m)));clear m3 m4 q9 aB dZ m e3 e4 e7 rX;go_wp2_with (first|(go_at_call 86;go_must (refine HRO.out.mono ?_;rintro e Q ⟨rfl,hw3⟩;subst Q;refine sO ?_)))
   refine sN ?_;obtain⟨q9,aB,dZ,m⟩:=H2.out;obtain⟨P,af,fo,p9,qb,G,A,B,C⟩:=HI.out;have zf:(l.upTo i).list.length=i:=(by show (l.list.take i).length=i;rw[aH,J.out.GA];omega);have fK:=m.lst (show (l.upTo i).dead=false from J.out.dead);rw[zf] at fK;have hkE:Keep gB S (S.drew.alloc (.cells #[.int .i64 kk,.int .i64 nd] 229)):=((Keep.refl gB S).drew).alloc _;have vk:=fK.keep (w':=S.drew.alloc (.cells #[.int .i64 kk,.int .i64 nd] 229)) (fun g hg=>hkE.block g (fK.lt hg) id);have xE:Src Tryz.prog 2 204 (.slice (some ⟨S.heap.size,0,none⟩) 1 1) 1 [.int .i64 kk,.int .i64 nd] (S.drew.alloc (.cells #[.int .i64 kk,.int .i64 nd] 229)):=gq [.int .i64 kk,.int .i64 nd] _ 2 1 1 rfl yG rfl (fun v hv=>by simp at hv;rcases hv with rfl|rfl<;>rfl);have hvo:=m.slv (show (l.upTo i).dead=false from J.out.dead);have q5:S.cell? ⟨a,5,none⟩=some j5:=m.cells.2.2.2.2.2.1;have ql:a<S.heap.size:=m.row.lt;have HOFE:=ah vk;have HSRC:=ah xE;have hi9:i<=4096:=(by omega);clear vk xE fK q9 aB dZ m3' m4' P af fo p9 qb G A B C;go_wp2_with (first|(at_builtin;go_must (refine KA rfl (.tmp 174) (.tmp 178) 204 204 rfl 229 2 16 _ yG BA rfl j5 i _ rfl HOFE.out _ 1 _ rfl HSRC.out (by simp only[maxLen];omega) (by omega) ?_;intro zA c3 Q bA hk3 aA;refine sO ?_)))
   refine sN ?_;have Y:Keep (fun g=>j5.ownBlock=some g) S Q:=(hkE.mono (fun _ _ h=>h.elim)).trans hk3 (fun _ _ h=>h);have hnl:¬j5.ownBlock=some a:=fun e=>(hvo a e).2 rfl
   have fA:Row Q a 224 (jc (iI d (l.upTo i) j5) dn2 c2' []):=m.row.keep Y hnl;have hr4:=fA.setCell 5 (.slice zA (i+1) c3);have f:=hr4.setCell 4 (.int .i64 (un:Int));have x4:Q.cell? ⟨a,4,none⟩=some (.int .i64 us):=(fA.cell 4).trans (by show some (Value.int .i64 ((l.upTo i).used:Int))=_;rw[pM.out]);have x5:Q.cell? ⟨a,5,none⟩=some j5:=(fA.cell 5).trans rfl;have z4:=fA.frozen 4;have z5:=fA.frozen 5;have xl:=fA.lt;have R:Keep (fun g=>g=a) Q ((Q.setCell ⟨a,5,none⟩ (.slice zA (i+1) c3)).setCell ⟨a,4,none⟩ (.int .i64 (un:Int))):=((Keep.refl (fun g=>g=a) Q).setCell (p:=⟨a,5,none⟩) (.inr rfl) _).setCell (p:=⟨a,4,none⟩) (.inr rfl) _;obtain⟨o5,xK⟩:=nm ((Q.setCell ⟨a,5,none⟩ (.slice zA (i+1) c3)).setCell ⟨a,4,none⟩ (.int .i64 (un:Int)));rw[xK.out] at R f;have HR5:=ah (aC f (aC R (aC Y (aC bA aA))));clear fA hr4 f R Y bA aA hk3 hkE q5 ql m;go_upto_region 28 with fail
   rw[xK.out];obtain⟨f,R,Y,bA,aA⟩:=HR5.out;obtain⟨q9,aB,dZ,m⟩:=H2.out;obtain⟨P,af,fo,p9,qb,G,A,B,C⟩:=HI.out;have tY:l.list[i]? =some (kk,nd):=(by rw[J.out.at i P,hF.out,lm.out,oK.out]);obtain⟨Sn,xP,jO,tQ⟩:=Le J.out P tY (show (l.upTo i).used+nd=un by rw[pM.out];exact hun.out) aB m Y bA aA R f;obtain⟨D,r,lQ,lJ⟩:=Ou HA.out HSP.out oO.out dZ q9 tQ xP jO;have hvs:vs.length<=4096:=(by have:=oO.out.len;rw[aH] at this;omega);have vv:w.heap.size<=o5.heap.size:=D.1.size;have N:=aN o5 (.cells #[v2] 142);have HV5:=ah (aC jO (aC D (aC r (aC lQ (aC lJ N)))));have HOW:=ah ((r.below N).own);have HS5:=ah (show ∀g,(I g\/Sn g)->g<(o5.alloc (.cells #[v2] 142)).heap.size from fun g hg=>ax (lJ g hg) N.size);have HWS:=ah (aK vv N.size);obtain⟨vo2,vc2,rfl,_,_,_,_⟩:=aZ.form q9.dx;have y7:=ah P;clear f R Y bA aA q9 aB dZ m P af fo p9 qb G A B C tQ xP tY jO D r lQ vv lJ N hvo hnl x4 x5 z4 z5 xl;go_wp2_with (first|(at_builtin;go_must ((refine cO rfl (.tmp 190) (.tmp 192) 136 136 rfl (fun g=>I g\/Sn g) w.heap.size 142 1 24 _ Tryz.underlying136 LF rfl (.slice zP vs.length zm) vs.length vs rfl HOW.out _ 1 _ rfl (gq [_] _ 1 1 1 rfl Tryz.underlying136 rfl ?_) HS5.out HWS.out ?_ ?_ ?_);(focus simp[Value.oneCell']);(focus unfold maxLen;omega);(focus omega);intro ao6 c6 w6 lC j4 hb6 hd6)))
   obtain⟨jO,D,r,lQ,lJ,N⟩:=HV5.out;have mr:Keep (fun g=>(Value.slice zP vs.length zm).ownBlock=some g) o5 w6:=(Keep.of_below N _).trans j4 (fun _ _ e=>e);have t:∀g,(Value.slice zP vs.length zm).ownBlock=some g->¬(I g\/Sn g):=fun g hg=>r.own.2 g hg
   have hA6:jg w6 I Sn a d σ (l.upTo (i+1)):=jO.keep mr (fun g hg e=>t g e (.inl hg)) (fun g hg e=>t g e (.inr hg));have hR6:mV w6 (fun g=>I g\/Sn g) w.heap.size (.slice ao6 (vs.length+1) c6) (vs++[.slice vo2 b.length vc2]) (E.take i++[b]):=(r.below N).app lC j4 (lQ.keep fun g _ hl hs=>⟨N.block g hl,hs⟩) hd6;have sF:Step I (fun g=>I g\/Sn g) w w6:=by
    refine⟨D.1.trans mr (fun g hg e=> ?_),D.2⟩;have:=(r.own.1.lt g e).1;omega
   have HE:=ah (aC hA6 (aC hR6 sF));clear jO D r lQ lJ N mr t hA6 hR6 sF lC j4 hb6 hd6;go_roundw
   case rel=>
    refine⟨i+1,Sn,vs++[.slice vo2 b.length vc2],y7.out,?_,ah HE.out.1,ah ?_,ah HE.out.2.2⟩
    ·rw[<-lm.out];congr 1
    ·rw[aL y7.out,hb.out]
     exact HE.out.2.1
   case measure=>
    have h1:=lm.out;have h2:=y7.out;simp[intOf];omega
  ·obtain rfl:i=E.length:=by omega
   obtain⟨G,A,B,C⟩:=HFF.out;have y1:¬((F+E.length:Nat):Int)<=(l.last:Int):=(by omega);clear G A B C;go_wp2_with fail
   go_ret3
   have hA:=HA.out;rw[<-J.out.GA,Lg.zm J.out.ok] at hA;have hR:=oO.out;rw[bS] at hR;exact⟨a,Sl,_,rfl,hA,⟨vs,hR⟩,HSP.out⟩
inductive RT where
 |done:RT
 |op:Nat->RT->RT
 |fork:Nat->Nat->RT->RT->RT
def RT.LA:RT->Bool
 | .done=>true
 |_=>false
def RT.depth:RT->Nat
 | .done=>0
 | .op _ t=>t.depth+1
 | .fork _ _ t u=>max t.depth u.depth+1
section
variable {P:Program} {ops:Array Oper} {Q:Exit->Act->World->Prop} {md:Region.Mode} {S:World->Prop}
def RT.ok (md:Region.Mode)(ops:Array Oper)(q:Nat->Bool):RT->Array Bool->Bool
 | .done,listed=>(Region.ready md ops listed).isEmpty
 | .op i t,listed=>
  (if q i then(Region.ready md ops listed).contains i && Region.free md ops listed i
   else(Region.ready md ops listed==[i]) && (!ny md ops i||t.LA)) && t.ok md ops q (listed.setIfInBounds i true)
 | .fork i j t u,listed=>(Region.ready md ops listed==[i,j]) && (t.ok md ops q (listed.setIfInBounds i true) && u.ok md ops q (listed.setIfInBounds j true))
def EO (P:Program)(md:Region.Mode)(ops:Array Oper)(Q:Exit->Act->World->Prop)(S:World->Prop)(q:Nat->Bool):RT->Act->World->Prop
 | .done,a,w=>Q .normal a w
 | .op i t,a,w=>
  if q i then ∃o v,ops[i]? =some o/\(∀c a w,Q (.panic c) (a.put o.dst v) w->Q (.panic c) a w)/\YieldsIf P ops S o v a/\EO P md ops Q S q t (a.put o.dst v) w
  else wpOp P ops Q i (fun a' w'=>(ny md ops i=true\/S w')/\EO P md ops Q S q t a' w') a w
 | .fork i j t u,a,w=>wpOp P ops Q i (fun a' w'=>S w'/\EO P md ops Q S q t a' w') a w/\wpOp P ops Q j (fun a' w'=>S w'/\EO P md ops Q S q u a' w') a w
def qp (x:Region.noSelect ops=true){q:Nat->Bool}:∀(t:RT) (c:Nat) (b:Array Bool) (a:Act) (w:World),qB md ops b->
  t.ok md ops q b=true->t.depth<=c->(t= .done\/S w)->EO P md ops Q S q t a w->uF P md ops Q S c b a w
 | .done,c,b,a,w,_,d,_,_,h=>by
  have p:Region.ready md ops b=[]:=by simpa [RT.ok] using d
  cases c with
  |zero=>exact⟨p,h⟩
  |succ c=>exact⟨fun _=>h,fun i f=>by rw[p] at f;cases f⟩
 | .op i t,0,_,_,_,_,_,r,_,_=>absurd r (by simp[RT.depth])
 | .fork i j t u,0,_,_,_,_,_,r,_,_=>absurd r (by simp[RT.depth])
 | .op i t,c+1,b,a,w,e,d,r,C,h=>by
  have G:S w:=C.resolve_left (by simp)
  have g:t.depth<=c:=by simp only[RT.depth] at r;omega
  simp only[RT.ok,dG] at d
  obtain⟨f,m⟩:=d
  by_cases y:q i=true
  ·simp only[y,iX,dG] at f
   simp only[EO,y,iX] at h
   obtain⟨o,v,F,H,J,h⟩:=h
   exact uE F (Sy x) H c b a w e (Region.free_spec F f.2) (by simpa using f.1) J G
    (qp x t c _ _ _ (e.set (by simpa using f.1)) m g (.inr G) h)
  ·rw[if_neg y,dG,qQ] at f
   simp only[EO] at h
   rw[if_neg y] at h
   have s:Region.ready md ops b=[i]:=by simpa using f.1
   refine⟨fun p=>(by rw[s] at p;cases p),fun j z=> ?_⟩
   rw[s] at z
   obtain rfl:j=i:=by simpa using z
   refine y9 (fun E D l=>⟨l.1,qp x t c _ _ _ (e.set (by rw[s];exact bQ.2 rfl)) m g ?_ l.2⟩) h
   rcases l.1 with I|B
   ·have:=f.2
    simp only[I] at this
    refine .inl ?_
    cases t with
    |done=>rfl
    |op i t=>simp[RT.LA] at this
    |fork i j t u=>simp[RT.LA] at this
   ·exact .inr B
 | .fork i j t u,c+1,b,a,w,e,d,r,_,h=>by
  have g:t.depth<=c/\u.depth<=c:=by simp only[RT.depth] at r;omega
  simp only[RT.ok,dG,qQ] at d
  obtain⟨s,f,z⟩:=d
  simp only[EO] at h
  refine⟨fun p=>(by rw[s] at p;cases p),fun k A=> ?_⟩
  have n:=A
  rw[s] at n
  rcases bO.1 n with rfl|n
  ·exact y9 (fun E D l=>⟨.inr l.1,qp x t c _ _ _ (e.set A) f g.1 (.inr l.1) l.2⟩) h.1
  ·obtain rfl:k=j:=by simpa using n
   exact y9 (fun E D l=>⟨.inr l.1,qp x u c _ _ _ (e.set A) z g.2 (.inr l.1) l.2⟩) h.2
def Ia {c:Nat}{a:Act}(S:World->Prop)(q:Nat->Bool)(t:RT)(d:P.follows .mixedOrders=true)(b:(Region.noSelect ops && decide (t.depth<=ops.size) && t.ok .any ops q (Array.replicate ops.size false))=true)
  (e:S w.drew) (h:EO P .any ops Q S q t a w.drew):(Code.region c ops true).wp P Q a w:=by
 simp only[dG,eB] at b;exact wp_region_any d (uD _ _ _ _ (qp b.1.1 t _ _ _ _ qB.replicate b.2 b.1.2 (.inr e) h))
def KI {a:Act}(h:Q .normal a w):EO P md ops Q S q .done a w:=h
def UK {t:RT}{a:Act}(e:q i=true)(b:ops.toList[i]? =some o)(j:∀c a w,Q (.panic c) (a.put o.dst v) w->Q (.panic c) a w)
  (d:Region.wanted o (yielded ops a.tmps)=true) (f:∀W,S W->(execOp a.eval o).run P W= .ok (.value v) W) (h:EO P md ops Q S q t (a.put o.dst v) w):EO P md ops Q S q (.op i t) a w:=by
 have g:ops[i]? =some o:=by rw[<-gT];exact b
 simp only[EO,e,iX];exact⟨o,v,g,j,.inl ⟨d,f⟩,h⟩
def KJ {t:RT}{a:Act}(e:q i=false)(b:ops.toList[i]? =some o)(c:Region.wanted o (yielded ops a.tmps)=true)
  (h:∀K:Act->World->Prop,Shut (∀a w,S w->EO P md ops Q S q t a w->K a w)->o.wp P a w K Q):EO P md ops Q S q (.op i t) a w:=by
 have g:ops[i]? =some o:=by rw[<-gT];exact b
 simp only[EO,e,wpOp,g,c,iX];exact .inl (h _ (fun a w f d=>⟨.inr f,d⟩))
def MN {j:Nat}{t u:RT}{a:Act}{p:Oper}(d:ops.toList[i]? =some o)(k:Region.wanted o (yielded ops a.tmps)=true)(e:ops.toList[j]? =some p)(b:Region.wanted p (yielded ops a.tmps)=true)
  (h:∀K:Act->World->Prop,Shut (∀a w,S w->EO P md ops Q S q t a w->K a w)->o.wp P a w K Q)
  (g:∀K:Act->World->Prop,Shut (∀a w,S w->EO P md ops Q S q u a w->K a w)->p.wp P a w K Q):EO P md ops Q S q (.fork i j t u) a w:=by
 have l:ops[i]? =some o:=by rw[<-gT];exact d
 have m:ops[j]? =some p:=by rw[<-gT];exact e
 simp only[EO,wpOp,l,k,m,b,iX];exact⟨.inl (h _ (fun a w f c=>⟨f,c⟩)),.inl (g _ (fun a w f c=>⟨f,c⟩))⟩
end
def sW (ims:List Im):Im:=ims.foldl Im.over Im.none
def GK (a:List Im)(b:Im):sW (a++[b])=(sW a).over b:=by unfold sW;rw[Ep];rfl
def partOf (m im:Im)(j:Nat):Im:=(im.ks.take j).foldl (fun m b=>m.put b (im.img b)) m
def vZ (m a:Im)(j:Nat)(b:j<a.ks.length):partOf m a (j+1)=(partOf m a j).put a.ks[j] (a.img a.ks[j]):=by
 unfold partOf;rw[aL b,Ep];rfl
def Lb (m a:Im):partOf m a a.ks.length=m.over a:=by unfold partOf;rw[bS];rfl
def DL {a:List Im}(h:∀b∈a,b.Pz n):(sW a).Ok n:=by
 suffices ∀(a:List Im) (m:Im),m.Ok n->(∀b∈a,b.Pz n)->(a.foldl Im.over m).Ok n from this a _ (Im.Ok.none n) h
 intro a
 induction a with
 |nil=>intro m c _;exact c
 |cons b r ih=>intro m c d;exact ih _ (c.over (d b (bf ..)).ok) fun x e=>d x (aX _ e)
def Lc (m a:Im)(b:Nat):(m.over a).find b=(a.find b).or (m.find b):=by
 have e:(m.over a).find b=if b∈a.ks then some (a.img b) else m.find b:=by
  unfold Im.find Im.over;rw[Im.wG];simp only[Im.xV]
  by_cases h:b∈a.ks
  ·simp[h]
  ·simp[h]
 rw[e]
 by_cases h:b∈a.ks
 ·have:a.find b=some (a.img b):=if_pos h
  rw[if_pos h,this];rfl
 ·have:a.find b=none:=if_neg h
  rw[if_neg h,this];rfl
def GL (a:List Im)(b:Nat):(sW a).find b=findAll a b:=by
 suffices ∀(a:List Im) (m:Im) (o:Option (List UInt8)),m.find b=o->(a.foldl Im.over m).find b=a.foldl (fun o c=>(c.find b).or o) o from this a _ _ rfl
 intro a
 induction a with
 |nil=>intro m o h;exact h
 |cons c r ih=>intro m o h;exact ih _ _ (by rw[Lc,h])
def Pg.laid (n:Nat)(ims:List Im):Pg:={Pg.new n with fresh:=sW ims}
def Tg {b:Nat}{x:List UInt8}(h:x.length=512):(vK b x).length=516:=by unfold vK;rw[ay,bW,h]
def UO {a:ByteArray}{l:List UInt8}(h:a.data.toList=l):a=strOf l:=by
 cases a
 exact congrArg ByteArray.mk (Array.ext' (by rw[h]))
def vN {a:Act}{K:Act->World->Prop}{Q:Exit->Act->World->Prop}(x:Operand)(c:o.op= .load 143 x)(g b:Nat)(i:a.eval x= .pointer (some ⟨g,b,none⟩))(l:List UInt8)(d:l.length=512)(f:W.rangeAt g b (aI l))(e:K (a.put o.dst (.agg (aI l).toArray)) W):o.wp Tryz.prog a W K Q:=by
 unfold Oper.wp;rw[lH 143 x c g b i (aI l) _ f Ku rfl (kS.trans (congrArg some (by rw[bP,d])))];exact e
def Dn {v t m:Nat->Prop}{s q a:Nat}{j:Dk}{p:Pg}{y:Value}(i:yh w v t m s q d a j l p y)(n:Below w.heap.size w W):
  ∃D,W.ownsMap Tryz.prog 3 rI a 5000 D/\∀(k:Nat) (x:List UInt8) (b:World),k<j.n - p.skip->x.length=512->b.ownsMap Tryz.prog 3 rI a 5001 (D.put (kI k) (.lit (.string x)))->W.grownBy b (some a)->yh b v t m s q d a j l {p with fresh:=p.fresh.put k x} y/\Keep (fun g=>g=a) w b:=by
 have c:=i.keep (Keep.of_below n gB) (fun _ _ e=>e);have H:=i.log.dk.ok.hi;obtain⟨D,o,F,A,C,z⟩:=c.fr;refine⟨D,o,fun k x b r G E B=> ?_⟩;have f:=Keep.tY B;refine⟨c.fresh f _ (lN.put i.ok.fresh (by omega) k x r o F A C z E) (i.ok.fresh.put k x r G),(Keep.of_below n _).trans f (fun _ _ e=>e)⟩
def Dg {S:Nat->Prop}{g c:Nat}{a:List Value}(h:aZ W S 1 (.slice (some ⟨g,0,none⟩) n c) n a):W.rangeAt g 0 a:=fun j v d=>by
 obtain⟨b,o,e,f⟩:=h.EM rfl j v d
 cases e
 exact f
theorem V7 (d:Nat)(A:Dk)(Sd:Nat->Prop)(n:Nat)(l:Lg)(f:List Im)(w:World)(h:qK w Sd d A)(hd:A.dead=false)(hL:qC A.get l (gJ f))(hn:l.n=n)(h2:2<=n)(nJ:n<A.n)(m:∀t∈f,t.Pz (A.n - n))(lm:A.waits.length<=90000)(rP:l.last<1000000000000):
  Calls Tryz.prog 38 #[.pointer (some ⟨d,0,none⟩),.int .i64 n] w fun e w'=>∃C S',e=(if ((Pg.laid n f).home A l).2.2.2=0 then .returned (.tuple #[.pointer (some ⟨C,0,none⟩),.int .i64 0]) else .returned (.tuple #[.pointer none,.int .i64 ((Pg.laid n f).home A l).2.2.2]))/\
   ji w' S' C d ((Pg.laid n f).home A l).1 ((Pg.laid n f).home A l).2.1 ((Pg.laid n f).home A l).2.2.1 (.pointer none)/\Step Sd S' w w':=by
 have jF:=QK d A Sd n w h;rw[if_neg (by omega)] at jF;have HC:=ah jF;clear jF;have hi:=h.ok.hi;have HO:=ah (VK d A Sd n l (gJ f) w h hd hL hn (by omega) rP);have fA:=hL.frm;have rF:=ah (show f.length<=4096 by
  have h1:=Cu (gJ f)
  have h2:=hL.SQ l.list.length
  rw[hL.GA,bS,<-hL.GA,Lg.zm hL.ok] at h2
  have h3:=hL.ok.us
  rw[dH] at h1
  omega)
 have oo:=ah m;have HL:=ah (aC fA hn);clear h hL fA m;obtain⟨lC,l9,p9,q,HQ⟩:∃lC l9 p9 q,Hid ((Pg.laid n f).home A l=(lC,l9,p9,q)):=⟨_,_,_,_,ah rfl⟩
 rw[HQ.out];dsimp only;go_enter Tryz.func38,Tryz.ntmps38;go_wp2_with (first|(go_at_call 74;go_must (refine HC.out.mono ?_;rintro e w1 ⟨rfl,rX⟩;subst w1)))
 go_wp2_with (first|(go_at_call 75;go_must (refine HO.out.mono ?_;rintro e w2 ⟨lg,Sl,av,vs,rfl,lJ,bH,nS⟩;refine sO ?_)))
 refine sN ?_;obtain⟨ao,ac,rfl,_,_,_,_⟩:=aZ.form bH.own.dx;have hb:=Dj n lJ HL.out.1 HL.out.2 nJ h2;have sP:∀w:World,(Instr.makeMap 139 none).run Tryz.prog w= .ok (.map (some w.heap.size)) (w.alloc (.map #[] 0)):=fun w=>run_makeMap _ w
 have e1:IntKind.i64.wrap ((n:Int) - 1)=((n - 1:Nat):Int):=by rw[aG _ (by omega)];omega
 obtain⟨w3,dx⟩:=nm ((w2.alloc (.map #[] 0)).alloc (.cells #[.pointer (some ⟨d,0,none⟩),.pointer (some ⟨lg,0,none⟩),.int .i64 n,.int .i64 ((n - 1:Nat):Int),.map (some w2.heap.size),.pointer none,.bool false] 141));rw[dx.out] at hb;obtain⟨C,dR⟩:=nm (w2.heap.size+1);rw[dR.out] at hb;obtain⟨⟨q9,q8,qc,lQ,fb,kg,l6⟩,fo⟩:=hb;have qb:Below w2.heap.size w2 w3:=by rw[<-dx.out];exact gK w2 _ _
 obtain⟨N,hN⟩:=nm (A.n - n);have fJ:mV w3 (fun g=>(Sd g\/Sl g)\/w2.heap.size<=g) w.heap.size (.slice ao vs.length ac) vs (gJ f):=bH.keep (Keep.of_below qb _) fun g hg=>hg
 have fB:w2.heap.size<=fb/\fb≠C:=by
  have ho:w3.heap[C]? =some (.cells #[.pointer (some ⟨d,0,none⟩),.pointer (some ⟨lg,0,none⟩),.int .i64 n,.int .i64 ((n - 1:Nat):Int),.map (some w2.heap.size),.pointer none,.bool false] 141 (0,0)):=by
   rw[<-dx.out,<-dR.out];have:=aV (w2.alloc (.map #[] 0)) (.cells #[.pointer (some ⟨d,0,none⟩),.pointer (some ⟨lg,0,none⟩),.int .i64 n,.int .i64 ((n - 1:Nat):Int),.map (some w2.heap.size),.pointer none,.bool false] 141);rwa [aU] at this
  have he:=zi (kg.obj.symm.trans ho);have vv:fb=w2.heap.size:=by
   injection he with he _ _
   have:=congrArg (fun a:Array Value=>a[4]?) he;simpa using this
  have:=dR.out;omega
 have H:=ah (aC fJ (aC kg (aC l6 (aC fo (aC fB (aC nS qb))))));have kr:=bH.len;rw[dH] at kr;have oH:=ah kr;have rA:=rF.out;clear lJ bH nS kg l6 fo qb fJ fB kr;go_upto_region 9 with fail
 rw[dx.out,dR.out];go_loopw [42] (fun iv wr=>∃i:Nat,i<=f.length/\iv= .int .i64 i/\Hid (yh wr q9 q8 qc C lQ d fb A l {Pg.new n with fresh:=sW (f.take i)} (.pointer none))/\Hid (Keep (fun g=>g=fb) w3 wr)) (fun iv _=>f.length - (intOf iv).toNat)
 case atStart=>exact⟨0,aS _,rfl,ah H.out.2.1,ah (Keep.refl _ _)⟩
 case round=>
  obtain⟨i,vo,rfl,HP,HK⟩:=hrel
  by_cases Z:i<f.length
  ·have y1:(i:Int)<(vs.length:Int):=by have:=oH.out;omega
   have Y:=H.out.1.keep (HK.out.mono (fun g _ e=> .inr (by rw[e];exact H.out.2.2.2.2.1.1))) (fun g hg=> .inl hg);obtain⟨u,hu,R⟩:=Y.row i (by rw[dH];exact Z);obtain⟨ab,af,rfl,rJ⟩:=Y.own.dx.EM rfl i u hu;have vk:=aF wr _ rJ;obtain⟨t,dn⟩:=nm (f[i]);have bC:(gJ f)[i]'(by rw[dH];exact Z)=t.bH:=(by rw[<-dn.out];simp[gJ]);rw[bC] at R;have di:t.bH.length=t.ks.length:=(by simp[Im.bH]);rw[di] at R;obtain⟨uo,uc,rfl,_,_,_,_⟩:=aZ.form R;have m:=oo.out t (by rw[<-dn.out];exact bF Z);rw[hN.out] at m;have I:=m.hi;obtain⟨m0,j3⟩:=nm (sW (f.take i));have F:m0.Ok N:=by
    rw[<-j3.out,<-hN.out];exact DL fun x hx=>oo.out x (eT hx)
   have HU:=ah (aC R (aC m (aC F (aC Z hu))));have mo:=HP;rw[j3.out] at mo;clear Y hu R bC di m F;obtain⟨wi,tY⟩:=nm wr;go_upto_region 12 with fail
   go_loopw [48] (fun jv wk=>∃j:Nat,j<=t.ks.length/\jv= .int .i64 j/\Hid (yh wk q9 q8 qc C lQ d fb A l {Pg.new n with fresh:=partOf m0 t j} (.pointer none))/\Hid (Keep (fun g=>g=fb) w3 wk)) (fun jv _=>t.ks.length - (intOf jv).toNat)
   case atStart=>exact⟨0,aS _,rfl,mo,HK⟩
   case round=>
    obtain⟨j,r9,rfl,pM,bA⟩:=hrel
    by_cases j6:j<t.ks.length
    ·have y2:(j:Int)<(t.ks.length:Int):=by omega
     obtain⟨R,m,F,nA,oO⟩:=HU.out;have l5:Keep (fun g=>(Sd g\/Sl g)\/w2.heap.size<=g) w3 wr:=bA.out.mono (fun g _ e=> .inr (by rw[e];exact H.out.2.2.2.2.1.1));have Y:=H.out.1.keep l5 (fun g hg=> .inl hg);have fK:aZ wr gB 1 (.slice uo t.ks.length uc) t.ks.length (CP t.bH):=by
      obtain⟨u,hu,hr⟩:=Y.row i (by rw[dH];exact Z);rw[oO] at hu;obtain rfl:=zi hu;have bC:(gJ f)[i]'(by rw[dH];exact Z)=t.bH:=(by rw[<-dn.out];simp[gJ]);have di:t.bH.length=t.ks.length:=(by simp[Im.bH]);rw[bC,di] at hr;exact hr.keep fun g _ _ _=>⟨rfl,id⟩
     obtain⟨k,J⟩:=nm (t.ks[j]);have V:k∈t.ks:=(by rw[<-J.out];exact bF j6);have ko:=m.ok.hi k V;have ql:=m.ok.img k V;obtain⟨x,hx⟩:=nm (t.img k);rw[hx.out] at ql;have nH:(CP t.bH)[j]? =some (.string (strOf (vK k x))):=by
      unfold CP Im.bH;rw[eZ,eZ,eZ,bD j6,J.out];rw[<-hx.out];rfl
     obtain⟨rb,ro,rfl,o5⟩:=fK.EM rfl j _ nH;have sF:=aF wr _ o5;have o7:(strOf (vK k x)).size=516:=(by show (vK k x).toArray.size=516;simp[Tg ql]);have oK:(strOf (vK k x)).extract 4 516=strOf x:=by
      refine UO ?_;rw[H9,NI];show ((vK k x).drop 4).take (516 - 4)=x;unfold vK;rw[fO (bW _ 4),aJ (by omega)]
     have aB:=fun W=>Tx (b8 k) (b8 (k/256)) (b8 (k/256/256)) (b8 (k/256/256/256)) x W
     have j4:tH [b8 k,b8 (k/256),b8 (k/256/256),b8 (k/256/256/256)]=k:=qy 4 k (by have:=hN.out;omega);rw[j4] at aB;have Q:∀W,Calls Tryz.prog 76 #[.string (strOf (vK k x))] W fun e w'=>e= .returned (.int .i64 k)/\w'=W.drew:=aB
     have T:(strOf x).size=512:=(by show x.toArray.size=512;simp[ql]);have j5:(strOf x).data.toList=x:=rfl;obtain⟨s,hs⟩:=nm (strOf (vK k x));obtain⟨y,hy⟩:=nm (strOf x);rw[hs.out] at o5 o7 oK Q;rw[hy.out] at oK T j5;have X:=ah Q;have iO:=fun W (hb:Below wr.heap.size wr W)=>zJ C d A l _ _ _ W ((yh.pack pM.out).below hb)
     have mr:({Pg.new n with fresh:=partOf m0 t j}:Pg).blocks A=N:=hN.out;rw[mr] at iO;have rG:=ah (iO wr.drew (aR wr.heap.size wr).drew);have y3:¬(N:Int)<=(k:Int):=(by omega);obtain⟨c0,c1,c2,c3,c4,c5,c6,o,tQ⟩:=pM.out.cells;have HX:=ah (aC V (aC ql (aC j5 (aC T (aC ko j4)))));clear R m F nA oO l5 Y fK V ko nH aB Q iO mr j4 ql j5 c0 c1 c2 c3 c5 c6;go_wp2_with (first|(go_at_call 76;go_must (refine(X.out _).mono ?_;rintro e w6 ⟨rfl,bB⟩;subst w6))|(go_at_call 42;go_must (refine rG.out.mono ?_;rintro e w6 ⟨rfl,bB⟩;subst w6;refine sO ?_)))
     refine sN ?_;have aA:=IL x HX.out.2.1;have rV:∀(g c:Nat) (W:World),(Instr.arrayAt 143 (.slice (some ⟨g,0,none⟩) 512 c)).run Tryz.prog W= .ok (.pointer (some ⟨g,0,none⟩)) W:=fun g c W=>by kernel_rfl
     have G:=ah j6;have ko:=HX.out.2.2.2.2.1;have bN:Below wr.heap.size wr wr.drew.drew.drew:=(((aR wr.heap.size wr).drew).drew).drew;go_wp2_with fail;refine Ia (fun W=>W.cell? ⟨C,4,none⟩=some (.map (some fb))/\C<W.heap.size) (fun i=> !([5,8,10,11].contains i)) (.op 0 (.op 1 (.op 2 (.op 3 (.op 4 (.op 6 (.op 7 (.fork 5 8 (.op 8 (.op 9 (.op 10 (.op 11 .done)))) (.op 9 (.fork 5 10 (.op 10 (.op 11 .done)) (.op 5 (.op 11 .done)))))))))))) rfl (by kernel_rfl) ⟨c4,o⟩ ?_
     repeat ((refine UK (v:= ?_) rfl rfl (fun _ _ _ h=>h) rfl (fun W hW=> ?_) ?_);rotate_left;(focus (try dsimp only at hW);have r0:=hW.1;have r1:=hW.2;(go_simp;first|done|with_reducible rfl));(try simp only[Act.put,aj,au,ak]))
     refine MN rfl rfl rfl rfl ?_ ?_
     ·intro K E;go_simp
      refine(X.out _).mono ?_;rintro e w6 ⟨rfl,bB⟩;subst w6;refine E.out _ _ ⟨c4,o⟩ ?_;refine KJ rfl rfl rfl ?_;intro K E;obtain⟨c8,w8,qo,B,jl⟩:=Ec y wr.drew.drew.drew.drew (by omega);rw[T] at qo B;rw[HX.out.2.2.1] at B;have b:Below wr.heap.size wr w8:=bN.drew.trans (jl.mono bN.drew.size);refine Cr 9 70 (.tmp 69) rfl y rfl _ qo ?_;refine E.out _ _ ⟨(b.cell (p:=⟨C,4,none⟩) o).trans c4,ax o b.size⟩ ?_
      repeat ((refine UK (v:= ?_) rfl rfl (fun _ _ _ h=>h) rfl (fun W hW=> ?_) ?_);rotate_left;(focus (try dsimp only at hW);have r0:=hW.1;have r1:=hW.2;(go_simp;first|done|with_reducible rfl));(try simp only[Act.put,aj,au,ak]))
      refine KJ rfl rfl rfl ?_;intro K E;refine vN (.tmp 71) rfl _ 0 rfl x HX.out.2.1 (Dg (by rw[HX.out.2.1] at B;exact B)) ?_;refine E.out _ _ ⟨(b.cell (p:=⟨C,4,none⟩) o).trans c4,ax o b.size⟩ ?_;refine KJ rfl rfl rfl ?_;intro K E;obtain⟨D,hD,z⟩:=Dn pM.out b;refine nV _ _ _ 139 rfl 3 143 jD fH rI fb 5000 D rfl hD (by simp[maxLen]) _ _ (kI k) rfl rfl (oD k (uG (k:Int) (by omega) (by have:=hN.out;omega))) (.lit (.string x)) [] aA ?_;intro w9 O P;obtain⟨r,I⟩:=z k x w9 (by have:=hN.out;show k<A.n - n;omega) HX.out.2.1 O P;have M:=ah (aC r (bA.out.trans I (fun _ _ e=>e)));refine E.out _ _ ⟨r.cells.2.2.2.2.1,r.cells.2.2.2.2.2.2.2.1⟩ ?_;refine KI ?_;clear r I O P z hD;go_wp2_with fail;go_roundw
      case rel=>exact⟨j+1,G.out,by go_num,by rw[vZ m0 t j G.out,J.out,hx.out];exact ah M.out.1,ah M.out.2⟩
      case measure=>have:=G.out;simp[intOf];omega
     ·intro K E
      obtain⟨c8,w8,qo,B,jl⟩:=Ec y wr.drew.drew.drew (by omega);rw[T] at qo B;rw[HX.out.2.2.1] at B;have b:Below wr.heap.size wr w8:=bN.trans (jl.mono bN.size);refine Cr 9 70 (.tmp 69) rfl y rfl _ qo ?_;refine E.out _ _ ⟨(b.cell (p:=⟨C,4,none⟩) o).trans c4,ax o b.size⟩ ?_
      repeat ((refine UK (v:= ?_) rfl rfl (fun _ _ _ h=>h) rfl (fun W hW=> ?_) ?_);rotate_left;(focus (try dsimp only at hW);have r0:=hW.1;have r1:=hW.2;(go_simp;first|done|with_reducible rfl));(try simp only[Act.put,aj,au,ak]))
      refine MN rfl rfl rfl rfl ?_ ?_
      ·intro K E;go_simp
       refine(X.out _).mono ?_;rintro e w6 ⟨rfl,bB⟩;subst w6;refine E.out _ _ ⟨(b.cell (p:=⟨C,4,none⟩) o).trans c4,ax o b.size⟩ ?_;refine KJ rfl rfl rfl ?_;intro K E;refine vN (.tmp 71) rfl _ 0 rfl x HX.out.2.1 (Dg (W:=w8.drew) (by rw[HX.out.2.1] at B;exact B)) ?_;refine E.out _ _ ⟨(b.cell (p:=⟨C,4,none⟩) o).trans c4,ax o b.size⟩ ?_;refine KJ rfl rfl rfl ?_;intro K E;obtain⟨D,hD,z⟩:=Dn pM.out b.drew;refine nV _ _ _ 139 rfl 3 143 jD fH rI fb 5000 D rfl hD (by simp[maxLen]) _ _ (kI k) rfl rfl (oD k (uG (k:Int) (by omega) (by have:=hN.out;omega))) (.lit (.string x)) [] aA ?_;intro w9 O P;obtain⟨r,I⟩:=z k x w9 (by have:=hN.out;show k<A.n - n;omega) HX.out.2.1 O P;have M:=ah (aC r (bA.out.trans I (fun _ _ e=>e)));refine E.out _ _ ⟨r.cells.2.2.2.2.1,r.cells.2.2.2.2.2.2.2.1⟩ ?_;refine KI ?_;clear r I O P z hD;go_wp2_with fail;go_roundw
       case rel=>exact⟨j+1,G.out,by go_num,by rw[vZ m0 t j G.out,J.out,hx.out];exact ah M.out.1,ah M.out.2⟩
       case measure=>have:=G.out;simp[intOf];omega
      ·intro K E
       refine vN (.tmp 71) rfl _ 0 rfl x HX.out.2.1 (Dg (by rw[HX.out.2.1] at B;exact B)) ?_;refine E.out _ _ ⟨(b.cell (p:=⟨C,4,none⟩) o).trans c4,ax o b.size⟩ ?_;refine KJ rfl rfl rfl ?_;intro K E;go_simp;refine(X.out _).mono ?_;rintro e w6 ⟨rfl,bB⟩;subst w6;refine E.out _ _ ⟨(b.cell (p:=⟨C,4,none⟩) o).trans c4,ax o b.size⟩ ?_;refine KJ rfl rfl rfl ?_;intro K E;obtain⟨D,hD,z⟩:=Dn pM.out b.drew;refine nV _ _ _ 139 rfl 3 143 jD fH rI fb 5000 D rfl hD (by simp[maxLen]) _ _ (kI k) rfl rfl (oD k (uG (k:Int) (by omega) (by have:=hN.out;omega))) (.lit (.string x)) [] aA ?_;intro w9 O P;obtain⟨r,I⟩:=z k x w9 (by have:=hN.out;show k<A.n - n;omega) HX.out.2.1 O P;have M:=ah (aC r (bA.out.trans I (fun _ _ e=>e)));refine E.out _ _ ⟨r.cells.2.2.2.2.1,r.cells.2.2.2.2.2.2.2.1⟩ ?_;refine KI ?_;clear r I O P z hD;go_wp2_with fail;go_roundw
       case rel=>exact⟨j+1,G.out,by go_num,by rw[vZ m0 t j G.out,J.out,hx.out];exact ah M.out.1,ah M.out.2⟩
       case measure=>have:=G.out;simp[intOf];omega
    ·obtain rfl:j=t.ks.length:=by omega
     have y2:¬(t.ks.length:Int)<(t.ks.length:Int):=(by omega);go_wp2_with fail;go_roundw
     case rel=>
      refine⟨i+1,HU.out.2.2.2.1,by go_num,?_,bA⟩;rw[aL HU.out.2.2.2.1,dn.out,GK,j3.out,<-Lb];exact pM
     case measure=>have:=HU.out.2.2.2.1;simp[intOf];omega
  ·obtain rfl:i=f.length:=by omega
   have y1:¬((f.length:Nat):Int)<(vs.length:Int):=(by have:=oH.out;omega);have hP:=HP.out;rw[bS] at hP;have kT:ji wr (Three q9 q8 qc) C d A l (Pg.laid n f) (.pointer none):=yh.pack hP;have dZ:=Uj C d A l (Pg.laid n f) (.pointer none) _ wr kT lm;rw[HQ.out] at dZ;dsimp only at dZ;have HH:=ah dZ;clear dZ;have mK:Step Sd (Three q9 q8 qc) w wr:=by
    have h1:=(H.out.2.2.2.2.2.1.trans H.out.2.2.2.1).eqv (S:=Sd) (S':=Three q9 q8 qc) (fun _=>H8) (fun g=>(H.out.2.2.1 g).symm);exact h1.trans (Step.own HK.out (.inr (.inr H.out.2.1.sfb)))
   have o6:=ah mK;clear hP kT mK
   by_cases nk:q=0
   ·subst nk
    go_wp2_with (first|(go_at_call 77;go_must (refine HH.out.mono ?_;rintro e w5 ⟨rfl,S5,jb,jO⟩)))
    go_ret2;exact⟨C,rfl,S5,jb,o6.out.trans jO⟩
   ·have y3:(q !=0)=true:=by simpa using nk
    go_wp2_with (first|(go_at_call 77;go_must (refine HH.out.mono ?_;rintro e w5 ⟨rfl,S5,jb,jO⟩)))
    go_ret2;exact⟨rfl,C,S5,jb,o6.out.trans jO⟩
def OG {i:Dk}{a:List Im}(p:i.Ok)(g:qC i.get l (gJ a))(m:l.n=n)(q:2<=n)(j:n<i.n)(d:∀o∈a,o.Pz (i.n - n))(k:i.waits=[]):Rest i l (Pg.laid n a) a:=by
 have e:=g.len;have c:=g.list;have f:=g.on;rw[dH] at e c f;refine⟨g.ok,⟨g.frm,m.symm,?_,by rw[m];exact j,?_⟩,c,e,by rw[g.tQ];omega,d,f,?_,GL a,by rw[k];exact aS _,fun _=>k⟩
 ·show n - 1+1=l.n;omega
 ·exact DL d
 ·refine Al.none ⟨g.mark,?_,fun b _=>rfl⟩ k
  exact f.take _
def QO {c:Dk}{d:List Im}{C:Nat->List UInt8}(y:c.Ok)(f:qC c.get l (gJ d))(J:l.n=n)(F:2<=n)(m:n<c.n)(j:∀M∈d,M.Pz (c.n - n))(I:c.waits=[])(E:c.dead=false)(B:∀b,b<c.n - n->C b=pG d (fun b=>c.get (n+b)) b):
  (∃a i p,(Pg.laid n d).home c l=(a,i,p,0)/\a.dead=false/\i.dead=false/\p.dead=false/\(c.fuel= -1->a.fuel= -1)/\a.n=c.n/\a.waits=[]/\i.last=l.last/\i.synced=l.last/\p.skip=n/\p.ring=n - 1/\lM a i p (fun _=>C))\/
  (∃a i,(Pg.laid n d).home c l=(a,i,(Pg.laid n d).dies,10)/\a.dead=true/\c.fuel≠-1/\a.n=c.n/\Al a fun s=>sZ s n (c.n - n) l.last C):=by
 have N:=OG y f J F m j I;have g:∀{s:Nat->List UInt8},qN s l d n (c.n - n) (fun b=>c.get (n+b)) l.last->sZ s n (c.n - n) l.last C:=fun h=>by
  unfold qN at h;rw[dJ,aJ (aD _)] at h;exact sZ.congr h B
 rcases Jy N E f.dead rfl with ⟨a,e,z,A,q,v,H,K⟩|⟨a,i,e,z,A,q,v⟩
 ·left
  have O:=G5 (l:=l.all) ⟨f.ok.n2,f.ok.hi,f.ok.st,f.ok.us,f.ok.la,aD _,f.ok.ent,f.ok.sum⟩;obtain⟨P,S,Q,T,t,x,r⟩:=O;have t:(l.all.cut l.last).last=l.last:=t;have x:(l.all.cut l.last).synced=l.last:=x;have r:(l.all.cut l.last).dead=l.dead:=r;refine⟨a,_,_,e,z,r.trans f.dead,rfl,A,q,v,t,x,rfl,rfl,[],H,fun k R V b G=> ?_⟩;have o:b<c.n - n:=by
   have:({Pg.laid n d with fresh:=Im.none}:Pg).blocks a=c.n - n:=(by show a.n - n=_;rw[q]);rwa [this] at G
  show C b=pG (List.take _ []) _ b;rw[Sz,B b o];exact(K b o).symm
 ·right
  refine⟨a,i,e,z,A,q,fun s D=> ?_⟩;obtain⟨_,⟨_,h⟩|⟨_,h⟩⟩:=v
  ·rcases h s D with h|h
   ·rw[f.tQ] at h;exact g h
   ·exact g h
  ·exact g (h s D)
def VC (N:Nat)(C:Nat->List UInt8)(f:Nat->Bool)(root:Nat)(es:List lU)(tb:List Int):Prop:=
 ∀(σ:Dk) (l:Lg) (p:Pg),p.blocks σ=N->σ.dead=false->p.dead=false->(∀b,b<N->p.look Im.none σ b=C b)->xq σ l p f root/\Live (cK.start σ l p f) root es tb
theorem VP (d:Nat)(k:Dk)(S:Nat->Prop)(c:Nat)(l:Lg)(H:List Im)(C:Nat->List UInt8)(f:Nat->Bool)(I:Nat)(es:List lU)(tb:List Int)(w:World)(h:qK w S d k)(hd:k.dead=false)(hw:k.waits=[])(h1:6<=c)(h2:c+8<=k.n)
  (hL:qC k.get l (gJ H)) (hn:l.n=c) (p:∀im∈H,im.Pz (k.n - c)) (hC:∀b,b<k.n - c->C b=pG H (fun b=>k.get (c+b)) b) (hV:VC (k.n - c) C f I es tb) (av:l.last<1000000000000) (af:es.length<=4090):
  Calls Tryz.prog 10 #[.pointer (some ⟨d,0,none⟩),.int .i64 c] w fun e Z=>
   (∃v B a z D S',e= .returned (.tuple #[.pointer (some ⟨v,0,none⟩),.int .i64 0])/\Z.heap[v]? =some (.cells #[.pointer (some ⟨B,0,none⟩)] 88 (0,0))/\¬S' v/\w.heap.size<=v/\ji Z S' B d a z D (.pointer none)/\Step S S' w Z/\
    a.dead=false/\z.dead=false/\D.dead=false/\(k.fuel= -1->a.fuel= -1)/\a.n=k.n/\a.waits=[]/\z.last=l.last/\z.synced=l.last/\D.skip=c/\D.ring=c - 1/\lM a z D (fun _=>C))\/
   (∃a pM,e= .returned (.tuple #[.pointer none,.int .i64 10])/\qK Z pM d a/\Step S pM w Z/\a.dead=true/\k.fuel≠-1/\a.n=k.n/\Al a fun s=>sZ s c (k.n - c) l.last C):=by
 have n:=VT d k S c w h;have M:Bb k.n c=0:=by unfold Bb;rw[if_neg (by omega)]
 rw[M] at n;have Q:=ah n;have j:=V7 d k S c l H w h hd hL hn (by omega) (by omega) p (by rw[hw];simp) av;have T:=QO (C:=C) h.ok hL hn (by omega) (by omega) p hw hd hC;rcases T with ⟨a,z,D,e,A,G,y,F,V,b6,b7,b8,R,E,r⟩|⟨a,z,e,A,G,y,F⟩
 ·rw[e] at j
  dsimp only at j;simp only[iX] at j;have K:D.blocks a=k.n - c:=by unfold Pg.blocks;rw[V,R]
  have P:=hV a z D K A y fun b hb=>r.look b (by rw[K];exact hb)
  have J:=ah j;have HV:=ah P;have HB:=ah (aC A (aC G (aC y (aC F (aC V (aC b6 (aC b7 (aC b8 (aC R (aC E r))))))))));clear n M j e A G y F V b6 b7 b8 R E r K P h hL p hC hV;go_enter Tryz.func10,Tryz.ntmps10;go_wp2_with (first|(go_at_call 37;go_must (refine Q.out.mono ?_;rintro e w1 ⟨rfl,ql⟩;subst w1)))
  go_wp2_with (first|(go_at_call 38;go_must (refine J.out.mono ?_;rintro e O ⟨B,S2,rfl,t,m⟩;refine sO ?_)))
  refine sN ?_;have q:=aN O (.cells #[.pointer (some ⟨B,0,none⟩)] 88);have i:=aV O (.cells #[.pointer (some ⟨B,0,none⟩)] 88);obtain⟨w3,Y⟩:=nm (O.alloc (.cells #[.pointer (some ⟨B,0,none⟩)] 88));rw[Y.out] at q i;have aA:=(ai.1 i).1;have W:=t.below q;have o:¬S2 O.heap.size:=fun e=>absurd (t.sub _ e) (dB _)
  have n:=Qd O.heap.size B d a z D f I S2 w3 es tb i o W HV.out.1 HV.out.2 af;obtain⟨v,P⟩:=nm O.heap.size;rw[P.out] at n i o;have X:=ah n;have H3:=ah (aC i (aC o (aC m (aC q (by rw[<-P.out];exact m.1.size:w.heap.size<=v)))));have bA:w3.cell? ⟨v,0,none⟩=some (.pointer (some ⟨B,0,none⟩)):=by simp[World.cell?,i]
  clear n i o m q t W;go_upto_region 8 with fail
  rw[Y.out,P.out];go_wp2_with (first|(go_at_call 13;go_must (refine X.out.mono ?_;rintro e w4 ⟨rfl,S4,q8,N⟩)))
  go_ret2;obtain⟨A,G,y,F,V,b6,b7,b8,R,E,r⟩:=HB.out;obtain⟨i,o,m,q,q9⟩:=H3.out;have p9:v<w3.heap.size:=(ai.1 i).1;refine .inl ⟨v,B,a,z,D,S4,rfl,(N.1.block v p9 o).trans i,fun e=>(N.2 v e).elim o (fun x=>absurd p9 (bg.2 x)),q9,q8,(m.trans (Step.of_below q)).trans N,A,G,y,F,V,b6,b7,b8,R,E,r⟩
 ·rw[e] at j
  dsimp only at j;simp only[show ¬((10:Int)=0) by omega,if_false] at j;have J:=ah j;have HB:=ah (aC A (aC G (aC y F)));clear n M j e A G y F h hL p hC hV;go_enter Tryz.func10,Tryz.ntmps10;go_wp2_with (first|(go_at_call 37;go_must (refine Q.out.mono ?_;rintro e w1 ⟨rfl,ql⟩;subst w1)))
  go_wp2_with (first|(go_at_call 38;go_must (refine J.out.mono ?_;rintro e O ⟨B,S2,rfl,t,m⟩)))
  go_ret2;obtain⟨A,G,y,F⟩:=HB.out;obtain⟨qb,bB,bC,aB,bH,qc,qo⟩:=t;refine .inr ⟨a,qb,rfl,qc.log.dk,⟨m.1,fun g hg=>m.2 g ((qo g).2 (.inl hg))⟩,A,G,y,F⟩
def U5 {e c:Dk}{p:Pg}{C:Nat->Nat->List UInt8}(a:Mt e d c l p)(n:lM c l p C):VC (p.blocks c) (C l.last) two 0 [] []:=fun i r q j m g f=>by
 have k:∀b,b<p.blocks c->q.look Im.none i b=p.look Im.none c b:=fun b h=>(f b h).trans (n.look b h).symm
 have o:=a.base.two
 exact⟨⟨g,m,by rw[j];exact o,(k 0 (by omega)).trans a.base.map,fun b h=>a.base.hi b (by rw[<-j];exact h),a.base.f0,a.base.f1,by rw[k 1 (by omega)];exact a.base.root⟩,Mt.live⟩
