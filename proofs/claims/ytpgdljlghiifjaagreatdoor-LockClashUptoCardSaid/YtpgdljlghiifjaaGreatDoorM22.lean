/- parts -/
import Derived.Test.YtpgdljlghiifjaaGreatDoorM11
import Derived.Test.YtpgdljlghiifjaaGreatDoorM19
import Derived.Test.YtpgdljlghiifjaaGreatDoorM21
import Derived.Sort.OwnSortedInts
set_option maxRecDepth 100000
set_option maxHeartbeats 8000000
set_option linter.all false
namespace Go.Proofs.YtpgdljlghiifjaaGreatDoor
open Go.RowKit
def xu (σ σ':dF)(W:Nat):Prop:=σ'.sz<=σ.sz+W/\∀L,σ.sz+W<=L->σ.tk<=L->σ'.tk<=L
theorem xu.refl (σ:dF):xu σ σ 0:=⟨aG _,fun _ _ t=>t⟩
theorem xu.trans {σ σ1 σ2:dF}{a b:Nat}(h:xu σ σ1 a)(k:xu σ1 σ2 b):xu σ σ2 (a+b):=
 ⟨by have:=h.1;have:=k.1;omega,fun L r t=>k.2 L (by have:=h.1;omega) (h.2 L (by omega) t)⟩
theorem xu.more {σ σ':dF}{a b:Nat}(h:xu σ σ' a)(hb:a<=b):xu σ σ' b:=
 ⟨by have:=h.1;omega,fun L r t=>h.2 L (by omega) t⟩
theorem Puts.SL {σ σ':dF}{ps:List Pc}{zs:List (ByteArray×Nd)}(h:Puts σ ps zs σ'):xu σ σ' ps.length:=by
 obtain⟨e1,e2,_,_,e3⟩:=h.length
 exact⟨by omega,fun L r t=>by omega⟩
theorem vS.small {nd:Nd}{l:ByteArray}{zs:List (ByteArray×Nd)}(h:vS nd l zs)(hs:nd.size<=512):zs.length<=1:=by
 cases h with
 |none=>simp
 |one=>simp
 |leaf i hi hk hs'=>omega
 |inner i hi hk hs'=>omega
theorem F7 (ps:List Pr)(i:Nat):d9 (ps.take i)+d9 (ps.drop i)=d9 ps:=by rw[<-kH,bV]
theorem sP (ps:List ByteArray)(i:Nat):eF (ps.take i)+eF (ps.drop i)=eF ps:=by rw[<-jo,bV]
theorem F6 (ps:List Pr){i j:Nat}(h:i<=j):d9 (ps.take i)<=d9 (ps.take j):=by
 have:=jO (ps.take j) i
 rwa [dJ,bQ h] at this
theorem vT.parts {ps:List Pr}(hp:∀p∈ps,p.1.size<=128/\p.2.size<=64){i:Nat}(h1:1<=i)(hi:i<ps.length)(h:vT ⟨ps,[],[]⟩ i)(hs:Nd.size ⟨ps,[],[]⟩<=706):
  Nd.size ⟨ps.drop i,[],[]⟩<=512/\d9 (ps.take (i - 1))<=353/\Nd.size ⟨ps.take i,[],[]⟩<=550:=by
 obtain⟨c1,c2⟩:=h
 have e:∀qs:List Pr,Nd.size ⟨qs,[],[]⟩=2+d9 qs:=fun qs=>by simp[Nd.size,eF]
 rw[e] at hs c1 c2
 rw[e,e]
 have hd:=F7 ps i
 have ht:=o7 ps (i - 1) (by omega)
 rw[show i - 1+1=i by omega] at ht
 have hq:=hp _ (bD (show i - 1<ps.length by omega))
 have hlo:d9 (ps.take (i - 1))<=353:=by
  by_cases h2:1<i
  ·have:=c1 h2;simp only at this;omega
  ·rw[show i - 1=0 by omega];simp[d9]
 refine⟨?_,hlo,by omega⟩
 rcases c2 with c2|c2
 ·have hl:(ps.drop i).length<=1:=by simp only at c2;rw[aR];omega
  have:=uw (ps.drop i) (fun p hp'=>hp p (cO hp'))
  omega
 ·simp only at c2;omega
theorem vS.Tg {nd:Nd}{l:ByteArray}{zs:List (ByteArray×Nd)}(h:vS nd l zs)(hk:nd.kids=[])(hkk:nd.keys=[])(hp:∀p∈nd.pairs,p.1.size<=128/\p.2.size<=64)(hs:nd.size<=706):zs.length<=3:=by
 obtain⟨ps,ks,ns⟩:=nd
 simp only at hk hkk hp
 subst hk hkk
 cases h with
 |none=>simp
 |one=>simp
 |inner i hi hk=>exact absurd rfl hk
 |leaf i hi hk hs' h1 hc sa sb=>
  obtain⟨a,b,c⟩:=vT.parts hp h1 hi hc hs
  have e2:=sb.small a
  have e1:∀{A:List (ByteArray×Nd)},vS ⟨ps.take i,[],[]⟩ l A->A.length<=2:=by
   intro A sa
   have hp':∀p∈ps.take i,p.1.size<=128/\p.2.size<=64:=fun p hp'=>hp p (fD hp')
   cases sa with
   |none=>simp
   |one=>simp
   |inner i hi hk=>exact absurd rfl hk
   |leaf i2 hi2 hk2 hs2 h12 hc2 sa2 sb2=>
    obtain⟨a2,_,_⟩:=vT.parts hp' h12 hi2 hc2 (by omega)
    have f2:=sb2.small a2
    have hi2':i2<(ps.take i).length:=hi2
    rw[aF] at hi2'
    have f1:=sa2.small (by
     show Nd.size ⟨(ps.take i).take i2,[],[]⟩<=512
     rw[dJ,bQ (by omega)]
     have:=F6 ps (show i2<=i - 1 by omega)
     simp[Nd.size,eF];omega)
    rw[ay];omega
  have:=e1 sa
  rw[ay];omega
def Lh (K:Nat):Nat:=if K<=4 then 0 else if K<=8 then 1 else if K<=16 then 2 else if K<=32 then 3 else if K<=64 then 4 else if K<=128 then 5 else if K<=256 then 6 else if K<=512 then 7 else K
theorem uZ (n:Nat):(n<=4/\Lh n=0)\/(4<n/\n<=8/\Lh n=1)\/(8<n/\n<=16/\Lh n=2)\/(16<n/\n<=32/\Lh n=3)\/(32<n/\n<=64/\Lh n=4)\/(64<n/\n<=128/\Lh n=5)\/(128<n/\n<=256/\Lh n=6)\/(256<n/\n<=512/\Lh n=7)\/(512<n/\Lh n=n):=by
 unfold Lh
 by_cases h0:n<=4
 ·exact .inl ⟨h0,if_pos h0⟩
 rw[if_neg h0]
 by_cases h1:n<=8
 ·exact .inr (.inl ⟨by omega,h1,if_pos h1⟩)
 rw[if_neg h1]
 by_cases h2:n<=16
 ·exact .inr (.inr (.inl ⟨by omega,h2,if_pos h2⟩))
 rw[if_neg h2]
 by_cases h3:n<=32
 ·exact .inr (.inr (.inr (.inl ⟨by omega,h3,if_pos h3⟩)))
 rw[if_neg h3]
 by_cases h4:n<=64
 ·exact .inr (.inr (.inr (.inr (.inl ⟨by omega,h4,if_pos h4⟩))))
 rw[if_neg h4]
 by_cases h5:n<=128
 ·exact .inr (.inr (.inr (.inr (.inr (.inl ⟨by omega,h5,if_pos h5⟩)))))
 rw[if_neg h5]
 by_cases h6:n<=256
 ·exact .inr (.inr (.inr (.inr (.inr (.inr (.inl ⟨by omega,h6,if_pos h6⟩))))))
 rw[if_neg h6]
 by_cases h7:n<=512
 ·exact .inr (.inr (.inr (.inr (.inr (.inr (.inr (.inl ⟨by omega,h7,if_pos h7⟩)))))))
 rw[if_neg h7]
 exact .inr (.inr (.inr (.inr (.inr (.inr (.inr (.inr (⟨by omega,rfl⟩))))))))
theorem QI {a b:Nat}(h:a<=b):Lh a<=Lh b:=by
 have h1:=uZ a
 have h2:=uZ b
 omega
theorem KU {K a:Nat}(h:5<=K)(ha:2*a<=K+1):Lh a+1<=Lh K:=by
 have h1:=uZ a
 have h2:=uZ K
 omega
theorem vS.RS {nd:Nd}{l:ByteArray}{zs:List (ByteArray×Nd)}(h:vS nd l zs):nd.Ok->nd.kids≠[]->zs.length<=1+(nd.size - 1)/512*Lh nd.kids.length:=by
 induction h with
 |none h1=>intro _ hk;exact absurd h1 hk
 |one=>intro _ _;simp
 |leaf i hi hk=>intro _ hk';exact absurd hk hk'
 |@inner nd l i hi A B hk hs hi1 sa sb iha ihb=>
  intro ok _
  have h5:=(ok.big hs).2 hk
  have n1:nd.kids.take i≠[]:=fun e=>by have:=congrArg List.length e;simp only[aF,aJ] at this;omega
  have n2:nd.kids.drop i≠[]:=fun e=>by have:=congrArg List.length e;simp only[aR,aJ] at this;omega
  have a:=iha (ok.Dx i (by omega)) n1
  have b:=ihb (ok.y8 i) n2
  have hp:=ok.one hk
  have s1:Nd.size ⟨[],nd.keys.take (i - 1),nd.kids.take i⟩=2+eF (nd.keys.take (i - 1))+2*i:=by
   simp only[Nd.size,d9,iK,List.sum_nil,aF];omega
  have s2:Nd.size ⟨[],nd.keys.drop i,nd.kids.drop i⟩=2+eF (nd.keys.drop i)+2*(nd.kids.length - i):=by
   simp only[Nd.size,d9,iK,List.sum_nil,aR];omega
  have s0:nd.size=2+eF nd.keys+2*nd.kids.length:=by
   unfold Nd.size;rw[hp];simp[d9]
  have t1:=sM nd.keys (i - 1) hi
  rw[show i - 1+1=i by omega] at t1
  have t2:=sP nd.keys i
  have hl1:(nd.kids.take i).length=i:=by rw[aF];omega
  have hl2:(nd.kids.drop i).length=nd.kids.length - i:=aR
  simp only[hl1] at a
  simp only[hl2] at b
  have l1:=KU (a:=i) h5 (by omega)
  have l2:=KU (a:=nd.kids.length - i) h5 (by omega)
  obtain⟨m1,hm1⟩:∃m,m=(Nd.size ⟨[],nd.keys.take (i - 1),nd.kids.take i⟩ - 1)/512:=⟨_,rfl⟩
  obtain⟨m2,hm2⟩:∃m,m=(Nd.size ⟨[],nd.keys.drop i,nd.kids.drop i⟩ - 1)/512:=⟨_,rfl⟩
  obtain⟨m,hm⟩:∃m,m=(nd.size - 1)/512:=⟨_,rfl⟩
  have hmm:m1+m2<=m:=by rw[hm1,hm2,hm];omega
  have hm0:1<=m:=by omega
  rw[<-hm1] at a
  rw[<-hm2] at b
  rw[<-hm]
  generalize Lh nd.kids.length=K at l1 l2 ⊢
  have a':m1*Lh i<=m1*(K - 1):=qE _ (by omega)
  have b':m2*Lh (nd.kids.length - i)<=m2*(K - 1):=qE _ (by omega)
  have c':(m1+m2)*(K - 1)<=m*(K - 1):=dw _ hmm
  rw[eY] at c'
  have d':m*K=m*(K - 1)+m:=by rw[<-Nat.mul_succ];congr 1;omega
  rw[ay]
  omega
def TT (x K:Nat):Nat:=min ((511+131*x)/512*Lh K) (K/2 - 1)
theorem KT {x x' K K':Nat}(hx:x<=x')(hK:K<=K'):TT x K<=TT x' K':=by
 unfold TT
 have h1:(511+131*x)/512<=(511+131*x')/512:=Nat.div_le_div_right (by omega)
 have h2:=Nat.mul_le_mul h1 (QI hK)
 omega
theorem vS.tt {nd:Nd}{l:ByteArray}{zs:List (ByteArray×Nd)}(h:vS nd l zs)(ok:nd.Ok)(hk:nd.kids≠[]){x K:Nat}(hs:nd.size<=512+131*x)(hK:nd.kids.length<=K):zs.length<=1+TT x K:=by
 refine aH ?_ (Nat.add_le_add_left (KT (aG x) hK) 1)
 have a:=h.RS ok hk
 have b:=h.room ok
 have c:(nd.size - 1)/512*Lh nd.kids.length<=(511+131*x)/512*Lh nd.kids.length:=dw _ (Nat.div_le_div_right (by omega))
 unfold Nd.room at b
 rw[ok.one hk,if_neg hk] at b
 simp only[aJ] at b
 unfold TT
 omega
def cA (l:Nat):Nat:=[0,594,519,132,24].getD l 0
def cB (l:Nat):Nat:=[0,3,1,38].getD l 24
def cX (h:Nat):Nat:=[2,7,12,20,24,20,14,8,4].getD h 2
def Wb (h W q c:Nat):Prop:=c<=299->24*W+cA (h+1)+cB (h+1)*(q - 1)<=672+3*c/\q - 1<=cX h
theorem PO {q:Nat}(h:q<=3)(c:Nat):Wb 0 q q c:=fun _=>by
 show 24*q+594+3*(q - 1)<=672+3*c/\q - 1<=2
 omega
def QY:Bool:=(List.range 9).all fun h=>(List.range (cX h+1)).all fun x=>(List.range (299/2^h+1)).all fun k=>
 decide (24*(2+TT x (k+1+x))+cA (h+2)+cB (h+2)*TT x (k+1+x)<=cA (h+1)+cB (h+1)*x+3*(k*2^h)\/k=0) && decide (TT x (k+1+x)<=cX (h+1)\/k=0)
def TQ (j:Nat):Nat:=[2,4,8,16,32,64,128,256].getD j 512
def QX:Bool:=(List.range 8).all fun h=>(List.range (299/2^(h+1)+1)).all fun k=>(List.range 8).all fun j=>
 decide (299<k*2^(h+1)+TQ j*2^h)||(decide (24*(2+j+TT j (k+2+j))+cA (h+3)+cB (h+3)*TT j (k+2+j)<=cA (h+2)+3*(k*2^(h+1)+TQ j*2^h)) && decide (TT j (k+2+j)<=cX (h+2)))
theorem OW:QY=true:=by decide+kernel
theorem OU:QX=true:=by decide+kernel
theorem F9 {h k:Nat}(hk:1<=k)(hc:k*2^h<=299):h<9:=by
 apply jX
 intro hn
 have h1:2^9<=2^h:=mU (by omega) (by omega)
 have h2:1*2^h<=k*2^h:=dw _ hk
 omega
theorem OX {h x k:Nat}(hx:x<=cX h)(hk:2<=k)(hc:(k - 1)*2^h<=299):
  24*(2+TT x (k+x))+cA (h+2)+cB (h+2)*TT x (k+x)<=cA (h+1)+cB (h+1)*x+3*((k - 1)*2^h)/\TT x (k+x)<=cX (h+1):=by
 have hh:=F9 (show 1<=k - 1 by omega) hc
 have hd:k - 1<299/2^h+1:=Nat.lt_succ_of_le ((Nat.le_div_iff_mul_le (Nat.two_pow_pos h)).2 hc)
 have cert:=OW
 unfold QY at cert
 have c1:=lI.1 cert h (nP.2 hh)
 have c2:=lI.1 c1 x (nP.2 (by omega))
 have c3:=lI.1 c2 (k - 1) (nP.2 hd)
 rw[dx,bY,bY,show k - 1+1=k by omega] at c3
 exact⟨c3.1.resolve_right (by omega),c3.2.resolve_right (by omega)⟩
theorem RN {kb:Nat}(h2:2<=kb)(h9:kb<=299):TT 1 (kb+1)<8/\TQ (TT 1 (kb+1))<=kb:=by
 have h:=uZ (kb+1)
 have ht:TT 1 (kb+1)<=Lh (kb+1):=by unfold TT;omega
 have h8:TT 1 (kb+1)<8:=by omega
 refine⟨h8,?_⟩
 generalize TT 1 (kb+1)=j at ht h8 ⊢
 generalize Lh (kb+1)=l at h ht
 have hj:j=0\/j=1\/j=2\/j=3\/j=4\/j=5\/j=6\/j=7:=by omega
 rcases hj with rfl|rfl|rfl|rfl|rfl|rfl|rfl|rfl
 ·show 2<=kb;omega
 ·show 4<=kb;omega
 ·show 8<=kb;omega
 ·show 16<=kb;omega
 ·show 32<=kb;omega
 ·show 64<=kb;omega
 ·show 128<=kb;omega
 ·show 256<=kb;omega
theorem OV {h k kb:Nat}(h2:2<=kb)(hk:2<=k)(hc:(k - 2)*2^(h+1)+kb*2^h<=299):
  24*(2+TT 1 (kb+1)+TT (TT 1 (kb+1)) (k+TT 1 (kb+1)))+cA (h+3)+cB (h+3)*TT (TT 1 (kb+1)) (k+TT 1 (kb+1))<=cA (h+2)+3*((k - 2)*2^(h+1)+kb*2^h)/\TT (TT 1 (kb+1)) (k+TT 1 (kb+1))<=cX (h+2):=by
 have hp:=Nat.two_pow_pos h
 have hkb:kb<=299:=by
  have:kb*1<=kb*2^h:=qE _ hp
  omega
 have hh:h<8:=by
  apply jX
  intro hn
  have h1:2^8<=2^h:=mU (by omega) (by omega)
  have h3:2*2^h<=kb*2^h:=dw _ h2
  omega
 obtain⟨j8,jb⟩:=RN h2 hkb
 generalize TT 1 (kb+1)=j at j8 jb ⊢
 have hm:TQ j*2^h<=kb*2^h:=dw _ jb
 have hd:k - 2<299/2^(h+1)+1:=Nat.lt_succ_of_le ((Nat.le_div_iff_mul_le (Nat.two_pow_pos (h+1))).2 (by omega))
 have cert:=OU
 unfold QX at cert
 have c1:=lI.1 cert h (nP.2 hh)
 have c2:=lI.1 c1 (k - 2) (nP.2 hd)
 have c3:=lI.1 c2 j (nP.2 j8)
 rw[jT,dx,bY,bY,bY,show k - 2+2=k by omega] at c3
 obtain⟨a,b⟩:=c3.resolve_left (by omega)
 exact⟨by omega,b⟩
theorem M8 {h W q c C k q' J:Nat}(hw:Wb h W q c)(hk:2<=k)(hC:c+(k - 1)*2^h<=C)(hq:q'<=1+TT (q - 1) (k+(q - 1)))(hJ:J<=1):Wb (h+1) (W+J+q') q' C:=by
 intro hC9
 obtain⟨e1,e2⟩:=hw (by omega)
 obtain⟨f1,f2⟩:=OX e2 hk (by omega)
 have g1:q' - 1<=TT (q - 1) (k+(q - 1)):=by omega
 have g2:=qE (cB (h+2)) g1
 refine⟨?_,by omega⟩
 show 24*(W+J+q')+cA (h+2)+cB (h+2)*(q' - 1)<=_
 generalize cB (h+1)*(q - 1)=z1 at e1 f1
 generalize cB (h+2)*(q' - 1)=z2 at g2 ⊢
 generalize cB (h+2)*TT (q - 1) (k+(q - 1))=z3 at f1 g2
 generalize (k - 1)*2^h=z4 at hC f1
 omega
theorem PS {h W c C k kb q' jj:Nat}(hw:Wb (h+1) W 1 c)(hk:2<=k)(hkb:2<=kb)(hC:c+((k - 2)*2^(h+1)+kb*2^h)<=C)(hj:jj<=1+TT 1 (kb+1))(hq:q'<=1+TT (jj - 1) (k+(jj - 1))):Wb (h+2) (W+jj+q') q' C:=by
 intro hC9
 obtain⟨e1,e2⟩:=hw (aH (aH (Nat.le_add_right _ _) hC) hC9)
 obtain⟨f1,f2⟩:=OV hkb hk (aH (aH (Nat.le_add_left _ c) hC) hC9)
 have g1:q' - 1<=TT (TT 1 (kb+1)) (k+TT 1 (kb+1)):=by
  have:=KT (x:=jj - 1) (x':=TT 1 (kb+1)) (K:=k+(jj - 1)) (K':=k+TT 1 (kb+1)) (by omega) (by omega)
  omega
 have g2:=qE (cB (h+3)) g1
 refine⟨?_,by omega⟩
 show 24*(W+jj+q')+cA (h+3)+cB (h+3)*(q' - 1)<=_
 have e1':24*W+cA (h+2)<=672+3*c:=by
  have:cB (h+2)*(1 - 1)=0:=Nat.mul_zero _
  have e1:24*W+cA (h+2)+cB (h+2)*(1 - 1)<=672+3*c:=e1
  omega
 generalize cB (h+3)*(q' - 1)=z2 at g2 ⊢
 generalize cB (h+3)*TT (TT 1 (kb+1)) (k+TT 1 (kb+1))=z3 at f1 g2
 generalize (k - 2)*2^(h+1)+kb*2^h=z4 at hC f1
 omega
theorem Rm {h W q c:Nat}(hw:Wb h W q c)(hc:c<=299):W+(q - 1)<=65:=by
 obtain⟨e1,e2⟩:=hw hc
 have hz:24*(q - 1)<=cA (h+1)+cB (h+1)*(q - 1):=by
  match h with
  |0=>have:q - 1<=2:=e2;show 24*(q - 1)<=594+3*(q - 1);omega
  |1=>have:q - 1<=7:=e2;show 24*(q - 1)<=519+1*(q - 1);omega
  |2=>have:q - 1<=12:=e2;show 24*(q - 1)<=132+38*(q - 1);omega
  |h+3=>
   have:cB (h+3+1)=24:=by
    unfold cB
    rw[fE,gT (by simp)];rfl
   rw[this];omega
 omega
theorem Gv (ks:List ByteArray):eF (ks.drop 1)<=eF ks - 1:=by
 cases ks with
 |nil=>exact aX _
 |cons k ks=>rw[kD,fM,fo];omega
theorem EJ (x:ByteArray)(ps:List Pc)(hp:∀p∈ps,p.2.size<=128):eF (lF x ps)<=1+x.size+129*(ps.length - 1):=by
 cases ps with
 |nil=>exact aX _
 |cons p r=>
  show eF (x::r.map (·.2))<=_
  rw[kD]
  have:=sO (r.map (·.2)) (fun k hk=>by
   obtain⟨q,hq,rfl⟩:=dL.1 hk
   exact hp q (bq _ hq))
  rw[eX] at this
  simp only[bE,zU]
  omega
theorem Nd.Di {nd:Nd}{i:Nat}{ps:List Pc}(hi:i<nd.kids.length)(hkk:nd.keys.length=nd.kids.length - 1)(hp:∀p∈ps,p.2.size<=128):(nd.ql i ps).size<=nd.size+131*(ps.length - 1)/\(nd.ql i ps).kids.length+1=nd.kids.length+ps.length:=by
 have hE:(gI nd).length=nd.kids.length:=by unfold gI;rw[bE];omega
 have hiE:i<(gI nd).length:=by omega
 have e1:=sP (gI nd) i
 have e2:eF ((gI nd).drop i)=1+((gI nd)[i]).size+eF ((gI nd).drop (i+1)):=by rw[bT hiE,kD]
 have e3:(gI nd).getD i ⟨#[]⟩=(gI nd)[i]:=by rw[fE,aW hiE];rfl
 have e4:eF (gI nd)=1+eF nd.keys:=by
  unfold gI
  rw[kD];rfl
 have e5:=EJ ((gI nd).getD i ⟨#[]⟩) ps hp
 rw[e3] at e5
 have e6:=Gv ((gI nd).take i++lF ((gI nd).getD i ⟨#[]⟩) ps++(gI nd).drop (i+1))
 rw[jo,jo,e3] at e6
 have hk:(nd.ql i ps).kids.length+1=nd.kids.length+ps.length:=by
  unfold Nd.ql
  simp only[ay,aF,aR,eX]
  omega
 refine⟨?_,hk⟩
 have hs:(nd.ql i ps).size=2+d9 nd.pairs+eF (((gI nd).take i++lF ((gI nd)[i]) ps++(gI nd).drop (i+1)).drop 1)+2*(nd.ql i ps).kids.length:=by
  rw[<-e3];rfl
 rw[hs]
 unfold Nd.size
 rw[e3] at*
 omega
theorem Nd.OG {nd:Nd}{j:Nat}(hj:j+1<nd.kids.length)(hkk:nd.keys.length=nd.kids.length - 1):(nd.kE j).size<=nd.size/\(nd.kE j).kids.length+1=nd.kids.length/\(nd.kE j).keys.length=(nd.kE j).kids.length - 1:=by
 have e1:=sP nd.keys j
 have e2:eF (nd.keys.drop j)=1+(nd.keys[j]'(by omega)).size+eF (nd.keys.drop (j+1)):=by rw[bT (by omega),kD]
 have hk:(nd.kE j).kids.length+1=nd.kids.length:=by
  unfold Nd.kE
  simp only[ay,aF,aR]
  omega
 have hy:(nd.kE j).keys.length=(nd.kE j).kids.length - 1:=by
  unfold Nd.kE
  simp only[ay,aF,aR]
  omega
 refine⟨?_,hk,hy⟩
 have hs:(nd.kE j).size=2+d9 nd.pairs+eF (nd.keys.take j++nd.keys.drop (j+1))+2*(nd.kE j).kids.length:=rfl
 rw[hs,jo]
 unfold Nd.size
 omega
theorem dU.low {T:ByteArray->Option ByteArray->Int->List Pr->List Int->Prop}{m:Nat}(hT:∀k z b c x,T k z b c x->m<=c.length){hi:Option ByteArray}:∀{l:List (ByteArray×Int)} {cs:List Pr} {bs:List Int},dU T hi l cs bs->l.length*m<=cs.length
 |[],_,_,⟨e,e2⟩=>by subst e e2;simp
 |(k,b)::l,_,_,h=>by
  obtain⟨c,cs',x,bs',h1,h2,rfl,rfl⟩:=h
  have a:=hT _ _ _ _ _ h1
  have b:=dU.low hT h2
  rw[bE,eY,kM,ay]
  omega
theorem iL.pw {σ:dF}:∀{h:Nat} {lo:ByteArray} {hi:Option ByteArray} {b:Int} {cs:List Pr} {bs:List Int},iL σ h 2 lo hi b cs bs->2^h<=cs.length
 |0,_,_,_,_,_,⟨_,_,_,_,_,h5,_,_,_⟩=>dD.2 h5
 |h+1,lo,_,_,_,_,⟨nd,bs',_,ok,hk,hm,_,hr⟩=>by
  have a:=dU.low (m:=2^h) (fun _ _ _ _ _ ht=>iL.pw ht) hr
  rw[nd.mh ok hk] at a
  have b:2*2^h<=nd.kids.length*2^h:=dw _ hm
  rw[tQ]
  omega
theorem uK (σ:dF)(b:Int):xu σ (σ.gone b) 0:=by
 have hs:(σ.gone b).sz<=σ.sz:=pu _ (fun x _ hx=>by
  have hx:(gP σ.now b.toNat false x||σ.H.old x)=true:=hx
  show (σ.now x||σ.H.old x)=true
  rw[jT] at hx ⊢
  refine hx.imp (fun h=> ?_) id
  unfold gP at h
  split at h
  ·cases h
  ·exact h)
 exact⟨by omega,fun L _ t=>t⟩
theorem Cq.size {σ:dF}{S:Nat->Prop}{mp:VS}{w:World}(hI:Inv σ S mp w){b:Int}{nd:Nd}(h:Cq σ b nd):nd.size<=512:=by
 obtain⟨n,rfl,hn,_⟩:=dF.ng h.has
 obtain⟨rest,hm⟩:=h.mem
 have hl:=hI.ok.len n hn
 have hm:σ.H.pg.look σ.im σ.H.dk n=nd.enc++rest:=by
  have:σ.mem (n:Int)=σ.H.pg.look σ.im σ.H.dk n:=rfl
  rw[<-this];exact hm
 rw[hm,ay,Nd.BK] at hl
 omega
def JB (nd nd':Nd)(h z c W:Nat):Prop:=
 (W<=1/\nd'.kids.length<=nd.kids.length/\nd'.size<=nd.size)\/
 ∃hh kb,h=hh+1/\2<=kb/\z+((nd.kids.length - 2)*2^h+kb*2^hh)<=c/\2<=nd.kids.length/\W<=1+TT 1 (kb+1)/\nd'.kids.length+2=nd.kids.length+W/\nd'.size<=nd.size+131*(W - 1)
theorem L9 {A B:Nd}{k:ByteArray}(okA:A.Ok)(okB:B.Ok)(hA:A.kids≠[])(hB:B.kids≠[])(hk:k.size<=128)(sA:A.size<=512)(sB:B.size<=512)(h1:A.kids.length=1\/B.kids.length=1):(eO A B k).size<=512+131*1:=by
 have pA:=okA.one hA
 have pB:=okB.one hB
 have hs:(eO A B k).size=2+d9 (A.pairs++B.pairs)+eF (A.keys++[k]++B.keys)+2*(A.kids++B.kids).length:=by
  unfold eO;rw[if_neg hA];rfl
 rw[hs,pA,pB,jo,jo,ay]
 have e0:d9 ([]++[])=0:=rfl
 have e1:eF [k]=1+k.size:=by simp[eF]
 rw[e0,e1]
 unfold Nd.size at sA sB
 have kA:=okA.kk
 have kB:=okB.kk
 rcases h1 with h1|h1
 ·have:A.keys=[]:=bf (by omega)
  rw[this]
  have e2:eF []=0:=rfl
  omega
 ·have:B.keys=[]:=bf (by omega)
  rw[this]
  have e2:eF []=0:=rfl
  omega
theorem Tj {σ:dF}{h z:Nat}{hi:Option ByteArray}{R:List (ByteArray×Int)}{j:Nat}{cs:List Pr}{bs:List Int}{L:List (ByteArray×Int)}{k1:ByteArray}{b1:Int}{k2:ByteArray}{b2:Int}{M:List (ByteArray×Int)}{cl ca cb cm:List Pr}{bl xa xb bm:List Int}{m1 m2:Nat}{A B:Nd}{nd:Nd}{ps:List Pc}{zs:List (ByteArray×Nd)}
  (hP:J4 σ h hi R j cs bs L k1 b1 k2 b2 M cl ca cb cm bl (b1::xa) (b2::xb) bm m1 m2 z) (okA:A.Ok) (okB:B.Ok) (nA:pO σ h k1 (some k2) A ca xa) (nB:pO σ h k2 (jl M hi) B cb xb) (kA:Kids h m1 A) (kB:Kids h m2 B) (hk2:k2.size<=128) (sA:A.size<=512) (sB:B.size<=512) (okJ:(eO A B k2).Ok)
  (hspr:vS (eO A B k2) ⟨#[]⟩ zs) (hl:ps.length=zs.length) (hkey:∀p∈ps,p.2.size<=128) (hno:¬(512<(eO A B k2).size/\A.kids.length≠1/\B.kids.length≠1)) (hR:R.length=nd.kids.length) (hkk:nd.keys.length=nd.kids.length - 1):
  JB nd ((nd.kE j).ql j ps) h z cs.length ps.length:=by
 have hrow:=congrArg List.length hP.row
 simp only[ay,bE] at hrow
 have hlen:=hP.len
 obtain⟨d1,d2,d3⟩:=Nd.OG (nd:=nd) (j:=j) (by omega) hkk
 obtain⟨r1,r2⟩:=Nd.Di (nd:=nd.kE j) (i:=j) (ps:=ps) (by omega) d3 hkey
 rcases iW 512 (eO A B k2).size with h5|h5
 ·have h1:A.kids.length=1\/B.kids.length=1:=by
   apply jX
   intro hn
   exact hno ⟨h5,fun e=>hn (.inl e),fun e=>hn (.inr e)⟩
  cases h with
  |zero=>
   obtain⟨a1,_⟩:=nA
   obtain⟨b1',_⟩:=nB
   rw[a1,b1'] at h1
   simp at h1
  |succ hh=>
   have hA:=nA.1
   have hB:=nB.1
   have lA:=dU.low (m:=2^hh) (fun _ _ _ _ _ ht=>iL.pw ht) nA.2
   have lB:=dU.low (m:=2^hh) (fun _ _ _ _ _ ht=>iL.pw ht) nB.2
   rw[A.mh okA hA] at lA
   rw[B.mh okB hB] at lB
   have l1:=dU.low (m:=2^(hh+1)) (fun _ _ _ _ _ ht=>iL.pw ht) hP.l
   have l2:=dU.low (m:=2^(hh+1)) (fun _ _ _ _ _ ht=>iL.pw ht) hP.m
   have hLM:nd.kids.length - 2=L.length+M.length:=by omega
   have hcs:=congrArg List.length hP.cs
   simp only[ay] at hcs
   have hsz:=L9 okA okB hA hB hk2 sA sB h1
   have hjk:(eO A B k2).kids.length=A.kids.length+B.kids.length:=by unfold eO;rw[ay]
   have hjn:(eO A B k2).kids≠[]:=fun e=>by
    have:=dD.2 hA
    rw[e] at hjk;simp at hjk;omega
   have hm:(nd.kids.length - 2)*2^(hh+1)<=cl.length+cm.length:=by rw[hLM,eY];omega
   have hkA:m1<=A.kids.length:=kA.resolve_left (by omega)
   have hkB:m2<=B.kids.length:=kB.resolve_left (by omega)
   rcases hP.m12 with ⟨e1,e2⟩|⟨e1,e2,e3⟩|⟨e1,e2,e3⟩
   ·omega
   ·have ha1:A.kids.length=1:=by omega
    have ht:=hspr.tt okJ hjn hsz (K:=B.kids.length+1) (by omega)
    exact .inr ⟨hh,B.kids.length,rfl,by omega,by revert hm lB;generalize (nd.kids.length - 2)*2^(hh+1)=P;generalize B.kids.length*2^hh=Q;intro hm lB;omega,by omega,by omega,by omega,by omega⟩
   ·have ha1:B.kids.length=1:=by omega
    have ht:=hspr.tt okJ hjn hsz (K:=A.kids.length+1) (by omega)
    exact .inr ⟨hh,A.kids.length,rfl,by omega,by revert hm lA;generalize (nd.kids.length - 2)*2^(hh+1)=P;generalize A.kids.length*2^hh=Q;intro hm lA;omega,by omega,by omega,by omega,by omega⟩
 ·have:=hspr.small h5
  exact .inl ⟨by omega,by omega,by omega⟩
def kL (L:Nat)(σ:dF)(bs:List Int)(n:Nat):Prop:=σ.sz+2*n<=L+nh σ bs
theorem lM.AV {L:Nat}{σ σ':dF}{us bs:List Int}{n:Nat}(h:lM σ σ' us bs)(r:kL L σ us n):kL L σ' bs n:=by
 have:=h.size
 unfold kL at*
 rw[tJ h.H];omega
def Pk (σ σ':dF)(bs:List Int)(n:Nat):Prop:=∀L,kL L σ bs n->σ.tk<=L->σ'.tk<=L
theorem Pk.refl (σ:dF)(bs:List Int)(n:Nat):Pk σ σ bs n:=fun _ _ t=>t
theorem Pk.trans {σ σ1 σ2:dF}{us bs:List Int}{n:Nat}(a:Pk σ σ1 us n)(h:lM σ σ1 us bs)(b:Pk σ1 σ2 bs n):Pk σ σ2 us n:=fun L r t=>b L (h.AV r) (a L r t)
theorem xM {nd:Nd}{l:ByteArray}{zs:List (ByteArray×Nd)}(hs:vS nd l zs)(ok:nd.Ok){σ σ':dF}{ps:List Pc}(hp:Puts σ ps zs σ'){L:Nat}(hr:σ.sz+nd.room<=L)(t:σ.tk<=L):σ'.tk<=L:=by
 have e1:=hs.room ok
 obtain⟨_,e2,_,_,e3⟩:=hp.length
 omega
def Pw (mp:VS)(σ:dF)(S:Nat->Prop)(h:Nat)(lo:ByteArray)(hi:Option ByteArray)(cs:List Pr)(bs:List Int)(n:Nat)(w:World)(e:Ending)(w':World):Prop:=
 (∃v ps σ' S' bs' m,e= .returned v/\aT w' S' w.heap.size 254 2 v ps.length (lC ps)/\TL σ' h m lo hi ps cs bs'/\lM σ σ' bs bs'/\(Pk σ σ' bs n/\∃W,xu σ σ' W/\Wb h W ps.length cs.length)/\Inv σ' S' mp w'/\Step S S' w w')\/(¬Room σ bs n/\Cg mp σ S w e w')
def Fe (t:Nat)(mp:VS)(root err:Int)(key:ByteArray)(g:Nat)(cb:Array Value)(F:List Pr->List Pr)(vs:List (Nat×ByteArray))(h:Nat):Prop:=
 ∀(σ:dF) (S:Nat->Prop) (b deep:Int) (least lo:ByteArray) (hi:Option ByteArray) (cs:List Pr) (bs:List Int) (w:World),Inv σ S mp w->dA w t mp root err->¬S t->vg w S vs->iL σ h 2 lo hi b cs bs->bs.Nodup->Within lo hi key->deep+h<=40->0<=deep->least.size<=128->
  Calls Tryz.prog 112 #[.pointer (some ⟨t,0,none⟩),.int .i64 b,.int .i64 deep,.string key,.string least,.func (.func g) #[] cb] w (Pw mp σ S h lo hi (F cs) bs (cs.length+1) w)
theorem Ai {nd:Nd}{l:ByteArray}{zs:List (ByteArray×Nd)}(hs:vS nd l zs){σ σ':dF}{ps:List Pc}{lo:ByteArray}{hi:Option ByteArray}{h:Nat}{cs:List Pr}{bs:List Int}(ok:nd.Ok)(hr:pO σ h lo hi nd cs bs)(hp:Puts σ ps zs σ')(hc:PG σ)(hn:bs.Nodup)(hb:∀x∈bs,σ.hasB x=true)(hl:l.size<=128)(hroom:nd.room<=900):
  ∃m bs',TL σ' h m lo hi ps cs bs'/\lM σ σ' bs bs':=by
 have hlen:ps.length<=900:=by
  have e1:=hs.room ok
  have e2:=hp.length.1
  omega
 have hkey:=hp.keys (hs.keys ok hl)
 by_cases h2:h=0\/2<=nd.kids.length
 ·obtain⟨bs',q1,q2⟩:=wR hs (m:=2) ok hr hp hc (aG 2) (by rcases h2 with h2|h2;exact .inl h2;exact .inr h2) hn hb
  exact⟨2,bs',⟨q1,hkey,hlen,by omega,by omega,.inl rfl⟩,q2⟩
 ·obtain⟨h',rfl⟩:∃d,h=d+1:=⟨h - 1,by omega⟩
  have hk:=hr.1
  have hk1:=dD.2 hk
  obtain⟨bs',q1,q2⟩:=wR hs (m:=1) ok hr hp hc (by omega) (.inr (by omega)) hn hb
  refine⟨1,bs',⟨q1,hkey,hlen,by omega,by omega,.inr ?_⟩,q2⟩
  have e2:=hp.length.1
  have hsz:nd.size<=512:=by
   rcases iW 512 nd.size with h5|h5
   ·have:=(ok.big h5).2 hk;omega
   ·exact h5
  cases hs with
  |none h1 _=>exact absurd h1 hk
  |one _ _=>simpa using e2
  |leaf _ _ _ h2=>omega
  |inner _ _ _ h2=>omega
theorem Qr (t:Nat)(mp:VS)(root err:Int)(key:ByteArray)(g:Nat)(cb:Array Value)(F:List Pr->List Pr)(vs:List (Nat×ByteArray))(hent:∀args w,(callFunc g args).run Tryz.prog w= .ok (.enter g args) w)(hf:Ch g cb F vs)(hF:J5 F key):Fe t mp root err key g cb F vs 0:=by
 intro σ S b deep least lo hi cs bs w h ht hst hbx hT hn hw hd hd0 hl
 obtain⟨nd,h1,h2,h3,h4,h5,h6,h7,h8⟩:=hT
 subst h4 h8
 have hlen:=hF.len nd.pairs
 have hnp:=h1.fits.np
 have ok:Nd.Ok ⟨F nd.pairs,[],[]⟩:=⟨fun p hp=>by
  rcases hF.mem _ h6 p hp with h|h
  ·exact h2.pr p h
  ·exact h.2,by simp,by simp,rfl,by simp,by show (F nd.pairs).length<=2000;omega,by simp⟩
 have hc1:=BR h h1.has
 refine(Mg t mp root err b deep σ S key least nd g cb F vs hent hf w h ht hst hbx h1 h3 (by omega) h6 ok).mono ?_
 rintro e w' (⟨v,ps,zs,σ',S',rfl,p2,p3,p4,p5,p6⟩|⟨hno,hg⟩)
 rotate_left
 ·refine .inr ⟨fun hR=> ?_,hg.after (Step.refl S w) rfl rfl⟩
  have hR1:=hc1.room hR
  unfold Room at hR1;simp[nh] at hR1;unfold Nd.room at hno;simp only[iw] at hno;omega
 have hcl:=hc1.Mr h.Mr
 obtain⟨m,bs',q1,q2⟩:=Ai p3 (lo:=lo) (hi:=hi) (h:=0) (cs:=F nd.pairs) (bs:=[]) ok ⟨rfl,rfl,hF.rise _ h6,fun p hp=>by
  rcases hF.mem _ h6 p hp with h|h
  ·exact h7 p h
  ·rw[h.1];exact hw,rfl⟩ p4 hcl pQ (by simp) hl (by unfold Nd.room;simp only[iw];omega)
 refine .inl ⟨v,ps,σ',S',bs',m,rfl,p2,q1,hc1.trans q2,⟨fun L r t=>xM p3 ok p4 ?_ t,ps.length,?_,PO ?_ _⟩,p5,p6⟩
 ·have hR1:=hc1.AV r
  unfold kL at hR1;simp[nh] at hR1;unfold Nd.room;simp only[iw];omega
 ·exact((uK σ b).trans p4.SL).more (by omega)
 ·rw[p4.length.1]
  have sz:=h1.size h
  have e1:=hF.size nd.pairs
  have e2:Nd.size ⟨F nd.pairs,[],[]⟩=2+d9 (F nd.pairs):=by simp[Nd.size,eF]
  have e3:2+d9 nd.pairs<=nd.size:=by unfold Nd.size;omega
  exact p3.Tg rfl rfl ok.pr (by omega)
structure Uq (σ:dF)(h:Nat)(lo:ByteArray)(hi:Option ByteArray)(b:Int)(cs:List Pr)(bs:List Int)(key:ByteArray)(nd:Nd)(L:List (ByteArray×Int))(k:ByteArray)(kb:Int)(M:List (ByteArray×Int))(cl c cm:List Pr)(bl x bm:List Int):Prop where
 blk:Cq σ b nd
 ok:nd.Ok
 kids:2<=nd.kids.length
 row:lG nd lo (L++(k,kb)::M)
 l:dU (iL σ h 2) (some k) L cl bl
 t:iL σ h 2 k (jl M hi) kb c x
 m:dU (iL σ h 2) hi M cm bm
 cs:cs=cl++(c++cm)
 bs:bs=b::(bl++(x++bm))
 at_:L.length=iE nd.keys key
 w:Within k (jl M hi) key
 rise:uX nd.keys
 lo1:∀k1 b1 M',M=(k1,b1)::M'->lt k1 lo=false
theorem Qs {σ:dF}{h:Nat}{lo:ByteArray}{hi:Option ByteArray}{b:Int}{cs:List Pr}{bs:List Int}{key:ByteArray}(ht:iL σ (h+1) 2 lo hi b cs bs)(hw:Within lo hi key):
  ∃nd L k kb M cl c cm bl x bm,Uq σ h lo hi b cs bs key nd L k kb M cl c cm bl x bm:=by
 obtain⟨nd,bs',h1,h2,h3,h4,h5,h6⟩:=ht
 have hro:=rowOf h2 h3 lo
 have hri:=iL.rising h2 h3 h6
 obtain⟨b0,l,e,e2,e3⟩:=qd h2.kk h3 lo
 have er:nd.row lo=(lo,b0)::l:=e
 obtain⟨L,k,kb,M,q1,q2,q3,q4⟩:=Dh (b:=b0) (r:=l) (key:=key) hw.1
 rw[er] at hro h6
 rw[q1] at hro h6
 have hlows:=dU.RJ (fun k z b c x ht=>iL.content ht) (by rw[<-q1] at h6;exact h6)
 obtain⟨cl,cr,bl,br,r1,⟨c,cm,x,bm,tk,rm,rfl,rfl⟩,rfl,rfl⟩:=h6.split
 refine⟨nd,L,k,kb,M,cl,c,cm,bl,x,bm,h1,h2,h4,hro,r1,tk,rm,rfl,h5,by rw[q2,e2],⟨q3,fun y hy=> ?_⟩,hri,fun k1 b1 M' hM=> ?_⟩
 ·cases M with
  |nil=>exact hw.2 y hy
  |cons m M=>obtain⟨k1,b1⟩:=m;cases hy;exact q4 _ _ _ rfl
 ·subst hM
  have hmem:(k1,b1)∈(lo,b0)::l:=by rw[q1];simp
  rcases bX.1 hmem with h|h
  ·cases h;exact lt_irrefl _
  ·exact lt_asymm ((fw.1 hlows).1 k1 (jJ h))
theorem RV {σ:dF}{h:Nat}{lo:ByteArray}{hi:Option ByteArray}{b:Int}{cs:List Pr}{bs:List Int}{key:ByteArray}{nd:Nd}{L:List (ByteArray×Int)}{k:ByteArray}{kb:Int}{M:List (ByteArray×Int)}{cl c cm:List Pr}{bl x bm:List Int}(hE:Uq σ h lo hi b cs bs key nd L k kb M cl c cm bl x bm){F:List Pr->List Pr}(hF:J5 F key):F cs=cl++(F c++cm):=by
 rw[hE.cs,<-aN,hF.loc cl c cm,aN]
 ·intro p hp
  have:∀{l:List (ByteArray×Int)} {cl:List Pr} {bl:List Int},dU (iL σ h 2) (some k) l cl bl->∀p∈cl,lt p.1 k=true:=by
   intro l cl bl hl p hp
   cases l with
   |nil=>obtain⟨rfl,_⟩:=hl;cases hp
   |cons q l=>
    have:=dU.content (fun k z b c x ht=>iL.content ht) hl
    exact(this.within p hp).2 k rfl
  exact Bo (this hE.l p hp) hE.w.1
 ·intro p hp
  have hm:=hE.m
  cases M with
  |nil=>obtain⟨rfl,_⟩:=hm;cases hp
  |cons q M=>
   obtain⟨k1,b1⟩:=q
   have:=dU.content (fun k z b c x ht=>iL.content ht) hm
   exact Bo (hE.w.2 k1 rfl) (this.within p hp).1
theorem Bg {Lr:Nat}{σ σ2:dF}{h:Nat}{hi:Option ByteArray}{k1 k2:ByteArray}{A B:Nd}{L M:List (ByteArray×Int)}{cl ca cb cm:List Pr}{bl xa xb bm:List Int}{n:Nat}(okA:A.Ok)(okB:B.Ok)(hl:dU (iL σ h 2) (some k1) L cl bl)(hm:dU (iL σ h 2) hi M cm bm)(nA:pO σ h k1 (some k2) A ca xa)(nB:pO σ h k2 (jl M hi) B cb xb)(hr:kL Lr σ2 (bl++((xa++xb)++bm)) n)(hn:(cl++(ca++(cb++cm))).length<=n):
  σ2.sz+(eO A B k2).room<=Lr:=by
 have e1:=dU.count (fun _ _ _ _ _ ht=>iL.count ht (aG 2)) hl
 have e2:=dU.count (fun _ _ _ _ _ ht=>iL.count ht (aG 2)) hm
 have f1:=qM σ2 bl
 have f2:=qM σ2 (xa++xb)
 have f3:=qM σ2 bm
 unfold kL at hr
 rw[oL,oL] at hr
 simp only[ay] at hn f2
 cases h with
 |zero=>
  obtain⟨a1,rfl,_,_,rfl⟩:=nA
  obtain⟨b1,rfl,_,_,rfl⟩:=nB
  have:(eO A B k2).room=A.pairs.length+B.pairs.length:=by simp[Nd.room,eO,a1,b1]
  rw[this]
  simp only[aJ] at f2
  omega
 |succ h=>
  have g1:=dU.count (fun _ _ _ _ _ ht=>iL.count ht (aG 2)) nA.2
  have g2:=dU.count (fun _ _ _ _ _ ht=>iL.count ht (aG 2)) nB.2
  rw[A.mh okA nA.1] at g1
  rw[B.mh okB nB.1] at g2
  have p1:=dD.2 nA.1
  have p2:=dD.2 nB.1
  have:(eO A B k2).room<=A.kids.length+B.kids.length:=by
   simp[Nd.room,eO,okA.one nA.1,okB.one nB.1,nA.1];omega
  omega
theorem Oj (t:Nat)(mp:VS)(root err:Int)(σ:dF)(S:Nat->Prop)(nb:Nat)(nd:Nd)(i:Nat)(deep:Int)(h z:Nat)(hi:Option ByteArray)(lo:ByteArray)(R:List (ByteArray×Int))(cs:List Pr)(bs:List Int)(n:Nat)(w:World)(hI:Inv σ S mp w)(ht:dA w t mp root err)(hst:¬S t)(hn:fT w S nb nd)(ok:nd.Ok)(hR:lG nd lo R)(hM:Mid σ h hi z R i cs bs)(hnd:bs.Nodup)(hd:deep<=40)(hcs:cs.length<=n)(hl:R.length<=1160):
  Calls Tryz.prog 153 #[.pointer (some ⟨t,0,none⟩),.pointer (some ⟨nb,0,none⟩),.int .i64 i,.int .i64 deep] w fun e w'=>(e= .returned (.tuple #[])/\∃σ' S' nd' R' bs',Inv σ' S' mp w'/\fT w' S' nb nd'/\lG nd' lo R'/\dU (iL σ' h 2) hi R' cs bs'/\lM σ σ' bs bs'/\(Pk σ σ' bs n/\∃W,xu σ σ' W/\JB nd nd' h z cs.length W)/\nd'.Ok/\nd'.kids.length<=1700/\Keep (fun g=>S g\/g=nb) w w'/\∀g,S' g->S g\/w.heap.size<=g)\/(¬Room σ bs n/\Cg mp σ S w e w'):=by
 have hlen:=hR.len
 have hall:∀x∈bs,σ.hasB x=true:=by
  cases hM with
  |two hr=>exact fun x hx=>dU.has (fun _ _ _ _ _ ht=>iL.has ht) hr x hx
  |one q1 q2 q3 _=>
   intro x hx
   simp only[bO] at hx
   rcases hx with hx|hx|hx
   ·exact dU.has (fun _ _ _ _ _ ht=>iL.has ht) q1 x hx
   ·exact q2.has x hx
   ·exact dU.has (fun _ _ _ _ _ ht=>iL.has ht) q3 x hx
 by_cases hs:R.length<2\/R.length<=i
 ·refine(L8 t nb nd i deep w S hn (by omega)).mono ?_
  rintro e w' ⟨rfl,rfl⟩
  exact .inl ⟨rfl,σ,S,nd,R,bs,hI,hn,hR,hM.skip hs,lM.refl hall,⟨Pk.refl _ _ _,0,xu.refl _,.inl ⟨by omega,aG _,aG _⟩⟩,ok,by omega,Keep.refl _ _,fun g hg=> .inl hg⟩
 ·obtain⟨L,k1,b1,k2,b2,M,cl,ca,cb,cm,bl,xa,xb,bm,m1,m2,hP⟩:=hM.pair (by omega)
  rw[<-hlen.1] at hP
  have hro:=hR
  rw[hP.row] at hro
  obtain⟨dR,d1,d2,d3⟩:=Ho hro
  have hLj:=hP.len
  rw[hLj] at dR d1 d2 d3
  obtain⟨A,xa',bA,okA,nA,kA,na,rfl⟩:=sF.1 hP.a
  obtain⟨B,xb',bB,okB,nB,kB,nb',rfl⟩:=sF.1 hP.b
  have hk2:k2.size<=128:=ok.ky k2 (kN d1)
  obtain⟨nJ,okJ,lJ,lJ2⟩:=Dz okA okB nA nB na nb' hk2 bA.fits bB.fits
  have hbs:=hP.bs
  have hb12:b1≠b2:=by
   rintro rfl
   rw[hbs] at hnd
   have h1:=(dX.1 hnd).2.1
   exact(dX.1 h1).2.2 b1 (by simp) b1 (by simp) rfl
  obtain⟨c12,hB2⟩:=Mt hI bA.has bB.has hb12
  have hcl:=c12.Mr hI.Mr
  have hperm:bs.Perm ([b1,b2]++(bl++((xa'++xb')++bm))):=by
   rw[hbs]
   have e1:(b1::xa'++(b2::xb'++bm)).Perm ([b1,b2]++((xa'++xb')++bm)):=by
    show (b1::(xa'++b2::(xb'++bm))).Perm (b1::b2::((xa'++xb')++bm))
    refine List.Perm.cons _ ?_
    rw[aN]
    exact List.perm_middle
   exact(Iz bl e1).trans (List.perm_append_comm_assoc _ _ _)
  have c1:=c12.left (hperm.nodup_iff.1 hnd) (fun x hx=>hall x (hperm.mem_iff.2 (dP _ hx)))
  have hrm:=fun (hroom:Room σ bs n)=>Bg (Lr:=((σ.gone b1).gone b2).most) okA okB hP.l hP.m nA nB ((c1.perm hperm.symm (jH _)).room hroom) (by rw[<-hP.cs];exact hcs)
  have hrmL:∀L,kL L σ bs n->((σ.gone b1).gone b2).sz+(eO A B k2).room<=L:=fun L hroom=>Bg okA okB hP.l hP.m nA nB ((c1.perm hperm.symm (jH _)).AV hroom) (by rw[<-hP.cs];exact hcs)
  refine(Ol t mp root err σ S nb nd A B k2 i (min i (nd.kids.length - 2)) deep b1 b2 w hI ht hst hn (by omega) (by omega) rfl d2 d3 d1 (ok.one (by intro e;rw[e] at hlen;simp at hlen;omega)) ok.kk bA bB hB2 okJ hd (by omega)).mono ?_
  rintro e w' (⟨rfl,σ',S',nd',hI',hN',hK',hS',hres⟩|⟨hno,hg⟩)
  rotate_left
  ·exact .inr ⟨fun hroom=>absurd (hrm hroom) (fI.2 hno),hg⟩
  refine .inl ⟨rfl,σ',S',nd',?_⟩
  rcases hres with ⟨s1,s2,s3,rfl,rfl⟩|⟨ps,zs,hspr,hput,rfl,hno⟩
  ·refine⟨R,bs,hI',hN',hR,?_,lM.refl hall,⟨Pk.refl _ _ _,0,xu.refl _,.inl ⟨by omega,aG _,aG _⟩⟩,ok,by omega,hK',hS'⟩
   rw[hP.row,hP.cs,hP.bs]
   have tA:iL σ' h 2 k1 (some k2) b1 ca (b1::xa'):=sF.2 ⟨A,xa',bA,okA,nA,by
    cases h with
    |zero=>exact .inl rfl
    |succ h=>exact .inr (by have:=dD.2 nA.1;omega),na,rfl⟩
   have tB:iL σ' h 2 k2 (jl M hi) b2 cb (b2::xb'):=sF.2 ⟨B,xb',bB,okB,nB,by
    cases h with
    |zero=>exact .inl rfl
    |succ h=>exact .inr (by have:=dD.2 nB.1;omega),nb',rfl⟩
   exact dU.append (m:=(k1,b1)::(k2,b2)::M) ⟨ca,_,_,_,tA,⟨cb,_,_,_,tB,hP.m,rfl,rfl⟩,rfl,rfl⟩ hP.l
  ·obtain⟨xs,q1,q2,q3,q4,q5⟩:=Oi hP okA okB bA.fits bB.fits nA nB kA kB na nb' hk2 c12 hcl hspr hput hnd
   have hRo:=wT (ps:=ps) (by rw[<-hLj] at*;exact dR) (.inr q3)
   rw[hLj] at hRo
   have hl2:(L++kT k1 ps++M).length<=1700:=by
    have:=congrArg List.length hP.row
    simp only[ay,bE,xN] at this ⊢
    omega
   refine⟨_,_,hI',hN',hRo,q1,q2,⟨fun L r t=>xM hspr okJ hput (hrmL L r) t,ps.length,?_,Tj hP okA okB nA nB kA kB hk2 (bA.size hI) (bB.size hI) okJ hspr hput.length.1 q4 hno (by omega) ok.kk⟩,?_,by rw[hRo.len.1];exact hl2,hK',hS'⟩
   ·have:=((uK σ b1).trans (uK _ b2)).trans hput.SL
    exact this.more (by omega)
   refine hRo.ok ?_ ?_ (dU.FB (fun _ _ _ _ _ ht=>ht.top) q1) (by omega)
   ·exact ok.one (by intro e;rw[e] at hlen;simp at hlen;omega)
   ·exact Dj (fun k hk=>by
     rcases bO.1 hk with hk|hk
     ·exact ok.ky k (fD hk)
     ·exact ok.ky k (cO hk)) q4
theorem Mid.FB {σ:dF}{h z:Nat}{hi:Option ByteArray}{R:List (ByteArray×Int)}{i:Nat}{cs:List Pr}{bs:List Int}(hm:Mid σ h hi z R i cs bs):∀p∈R,1<=p.2/\p.2<=4096:=by
 cases hm with
 |two hr=>exact dU.FB (fun _ _ _ _ _ ht=>ht.top) hr
 |one q1 q2 q3 _=>
  intro p hp
  rcases bO.1 hp with hp|hp
  ·exact dU.FB (fun _ _ _ _ _ ht=>ht.top) q1 p hp
  ·rcases bX.1 hp with rfl|hp
   ·exact q2.top
   ·exact dU.FB (fun _ _ _ _ _ ht=>ht.top) q3 p hp
theorem Step.QO {S S1 S2:Nat->Prop}{w w3 w5:World}{nb:Nat}(h:Step S S1 w w3)(hk:Keep (fun g=>S1 g\/g=nb) w3 w5)(h2:∀g,S2 g->S1 g\/w3.heap.size<=g)(hnb:w.heap.size<=nb):Step S S2 w w5:=
 ⟨h.1.trans hk (fun i hi x=>x.elim (fun s=>(h.2 i s).elim id (fun y=>absurd hi (bM.2 y))) (fun e=>absurd hi (bM.2 (by rw[e];exact hnb)))),
  fun g hg=>(h2 g hg).elim (fun s=>h.2 g s) (fun y=> .inr (aH h.1.size y))⟩
theorem Dy {Lr:Nat}{σ σ0:dF}{h:Nat}{k:ByteArray}{hi:Option ByteArray}{L M:List (ByteArray×Int)}{cl c cm:List Pr}{bl x bm:List Int}(hl:dU (iL σ h 2) (some k) L cl bl)(hm:dU (iL σ h 2) hi M cm bm)(hr:kL Lr σ0 (bl++(x++bm)) ((cl++(c++cm)).length+1)):kL Lr σ0 x (c.length+1):=by
 have e1:=dU.count (fun _ _ _ _ _ ht=>iL.count ht (aG 2)) hl
 have e2:=dU.count (fun _ _ _ _ _ ht=>iL.count ht (aG 2)) hm
 have f1:=qM σ0 bl
 have f3:=qM σ0 bm
 unfold kL at*
 rw[oL,oL] at hr
 simp only[ay] at hr
 omega
theorem sI {Lr:Nat}{σ:dF}{h:Nat}{hi:Option ByteArray}{lo:ByteArray}{nd:Nd}{R:List (ByteArray×Int)}{cs:List Pr}{bs:List Int}{n:Nat}(ok:nd.Ok)(hR:lG nd lo R)(hr:dU (iL σ h 2) hi R cs bs)(hm:kL Lr σ bs n)(hn:cs.length<=n):σ.sz+nd.room<=Lr:=by
 have e1:=dU.count (fun _ _ _ _ _ ht=>iL.count ht (aG 2)) hr
 have f1:=qM σ bs
 have hl:=hR.len
 have hk:nd.kids≠[]:=fun e=>by rw[e] at hl;simp at hl;omega
 have hp:=ok.one hk
 have:nd.room<=nd.kids.length:=by
  have:=dD.2 hk
  simp[Nd.room,hp,hk];omega
 unfold kL at hm
 omega
theorem Bl {nd:Nd}{lo:ByteArray}{R:List (ByteArray×Int)}(ok:nd.Ok)(hR:lG nd lo R):nd.room<=nd.kids.length:=by
 have hl:=hR.len
 have hk:nd.kids≠[]:=fun e=>by rw[e] at hl;simp at hl;omega
 have hp:=ok.one hk
 have:=dD.2 hk
 simp[Nd.room,hp,hk];omega
theorem JL (t:Nat)(mp:VS)(root err:Int)(key:ByteArray)(g:Nat)(cb:Array Value)(F:List Pr->List Pr)(vs:List (Nat×ByteArray))(hF:J5 F key)(hks:key.size<=128)(h:Nat)(ih:Fe t mp root err key g cb F vs h):Fe t mp root err key g cb F vs (h+1):=by
 intro σ S b deep least lo hi cs bs w hI ht hst hbx hT hn hw hd hd0 hl
 have hTc:=hT.has
 obtain⟨nd,L,k,kb,M,cl,c,cm,bl,x,bm,hE⟩:=Qs hT hw
 have hFc:=RV hE hF
 have hb0:(b==0)=false:=by have:=hE.blk.lo;simp;omega
 have hlen:=hE.row.len
 have hLM:L.length+M.length+1=nd.kids.length:=by rw[hlen.1];simp;omega
 have hkne:nd.kids≠[]:=fun e=>by have:=hE.kids;rw[e] at this;simp at this
 have hke:nd.kids.isEmpty=false:=by cases hq:nd.kids with|nil=>exact absurd hq hkne|cons a b=>rfl
 have hnk:=hE.blk.fits.nk
 have hcs:=hE.cs
 have hbs:=hE.bs
 subst hbs
 have cg:=BR hI hE.blk.has
 have c0:lM σ (σ.gone b) (b::(bl++(x++bm))) (bl++(x++bm)):=cg.left (us:=[b]) (bs:=[]) (rs:=bl++(x++bm)) hn (fun y hy=>hTc y (bq _ hy))
 have n0:=c0.nd hn
 have R0:Room σ (b::(bl++(x++bm))) (cs.length+1)->Room (σ.gone b) (bl++(x++bm)) ((cl++(c++cm)).length+1):=fun hR=>by
  have:=c0.room hR
  rwa [hcs] at this
 have hbx0:∀y∈bl++(x++bm),y∉[b]:=fun y hy e=>(oH.1 hn).1 (by rw[<-bK.1 e];exact hy)
 have hh0:∀y∈bl++(x++bm),(σ.gone b).hasB y=true:=fun y hy=>(c0.new y hy).1
 have Rk:Room σ (b::(bl++(x++bm))) (cs.length+1)->Room (σ.gone b) x (c.length+1):=fun hR=>Dy (Lr:=(σ.gone b).most) hE.l hE.m (R0 hR)
 have R0L:∀Lr,kL Lr σ (b::(bl++(x++bm))) (cs.length+1)->kL Lr (σ.gone b) (bl++(x++bm)) ((cl++(c++cm)).length+1):=fun Lr hR=>by
  have:=c0.AV hR
  rwa [hcs] at this
 have RkL:∀Lr,kL Lr σ (b::(bl++(x++bm))) (cs.length+1)->kL Lr (σ.gone b) x (c.length+1):=fun Lr hR=>Dy hE.l hE.m (R0L Lr hR)
 have HR0L:=af R0L;clear R0L
 have HRkL:=af RkL;clear RkL
 have HRk:=af Rk;clear Rk
 have T0:=hE.t.keep cg (fun y hy=>hbx0 y (by simp[hy]))
 have l0:=hE.l.keep cg (fun y hy=>hbx0 y (by simp[hy]))
 have m0:=hE.m.keep cg (fun y hy=>hbx0 y (by simp[hy]))
 have hkz:∀y,jl M hi=some y->lt y k=false:=fun y hy=>by
  have hc:=T0.content
  rw[hy] at hc
  obtain⟨p,r,e⟩:=lW hc.ne
  exact lt_asymm (hc.within p (by rw[e];simp)).N8
 have nx:x.Nodup:=(dX.1 (dX.1 n0).2.1).1
 have HE:=af hE;clear hE
 have HFc:=af hFc;clear hFc
 have HCS:=af hcs;clear hcs
 have HR0:=af R0;clear R0
 have HIH:=af ih;clear ih
 have HKZ:=af hkz;clear hkz
 have HB0:=af hbx0;clear hbx0
 have HH0:=af hh0;clear hh0
 have HTC:=af hTc;clear hTc hT
 have HLM:=af hLM;clear hLM
 have HLE:=af hlen;clear hlen
 have htl:t<w.heap.size:=(aj.1 ht).1
 have hid:kb=kb:=rfl
 have hkid:nd.kids[L.length]? =some kb:=by rw[HE.out.row.2];simp
 obtain⟨hil,hkid'⟩:=dh.1 hkid
 clear hkid hid
 have HKid:=af hkid';clear hkid'
 have hil':(L.length:Int)<(nd.kids.length:Int):=by omega
 have hkl:nd.keys.length<=1000000:=by have:=HE.out.ok.kk;omega
 have HAt:=af HE.out.at_
 go_enter Tryz.func112,Tryz.ntmps112
 go_wp2_with (first
  |(go_at_call 151;go_must ((refine(FC t mp root err b deep σ S nd w hI ht hst HE.out.blk (by omega)).mono ?_);rintro e w1 ⟨nb,rfl,hn1,hI1,hs1⟩))
  |(go_at_call 144;go_must ((refine(jm nb nd _ S hn1.jd).mono ?_);rintro e w2 ⟨rfl,hw⟩;subst w2;rw[hke]))
  |(go_at_call 145;go_must ((refine(EI nb nd key _ S hn1.jd HE.out.rise hkl).mono ?_);rw[<-HAt.out];rintro e w2 ⟨rfl,hb2⟩;refine Stop.of ?_)))
 refine Stop.on ?_
 have hs2:Step S S w w2:=hs1.trans (Step.of_below hb2)
 have hN2:=hn1.jd.below hb2
 have hI2:=hI1.below hb2
 have ht2:=ht.step hst hs2
 have hbx2:=hbx.step hs2
 have hnbw:w.heap.size<=nb:=hn1.2.1
 obtain⟨hSb,v0,v1,v2,bN,N0,N1,N2⟩:=id hN2
 obtain⟨ao2,cp2,rfl,_,_,_,_⟩:=bJ.form N2
 obtain⟨pb,po,rfl,d2⟩:=N2.at rfl L.length hil
 rw[HKid.out] at d2
 have hpb:=aD w2 _ d2
 obtain⟨_,_,y2,_,_,_,ly⟩:=cells3 bN
 have hE1:=HIH.out (σ.gone b) S kb (deep+1) key k (jl M hi) c x w2 hI2 ht2.1 hst hbx2 T0 nx HE.out.w (by omega) (by omega) hks
 have HE1:=af hE1;clear hE1
 go_wp2_with (first
  |(go_at_call 112;go_must (refine HE1.out.mono ?_;rintro e w3 (⟨v,ps,σ1,S1,x',m,rfl,hown,hP,hc1,⟨hpk1,W1,hW1,hB1⟩,hI3,hs3⟩|⟨hno,rfl,τ,Sτ,g1,g2,g3,g4⟩)<;>refine Stop.of ?_)))
 rotate_left
 ·refine Stop.on ?_
  exact⟨rfl,.inr ⟨fun hR=>hno (HRk.out hR),rfl,τ,Sτ,g1,hs2.trans g2,g3,g4⟩⟩
 refine Stop.on ?_
 have hN3:=hN2.step hs3
 have hpl:=hP.len
 have hRp:=zI nb nd v ps L.length w3 S1 hI3.sub hN3 (HE.out.ok.one hkne) hown.dI hil HE.out.ok.kk (by omega) (by omega)
 have HRp:=af hRp;clear hRp
 clear y2 d2 hpb
 go_wp2_with (first
  |(go_at_call 152;go_must (refine HRp.out.mono ?_;rintro e w4 ⟨rfl,hN4,hk4⟩;refine Stop.of ?_)))
 refine Stop.on ?_
 have hS1b:¬S1 nb:=hN4.1
 have hI4:=hI3.mH hk4 (fun g hg e=>hS1b (by rw[<-e];exact hg))
 have ht3:=ht2.1.step ht2.2 hs3
 have hnbt:t≠nb:=fun e=>by rw[e] at htl;omega
 have ht4:dA w4 t mp root err:=(hk4.block t (aj.1 ht3.1).1 hnbt).trans ht3.1
 have hs4:Step S S1 w w4:=(hs2.trans hs3).QO (hk4.mono (fun _ _ h=> .inr h)) (fun g hg=> .inl hg) hnbw
 have cm1:=hc1.mid (ls:=bl) (rs:=bm) (by rw[aN];exact n0) (fun y hy=>HH0.out y (by simp[hy])) (fun y hy=>HH0.out y (by simp[hy]))
 rw[aN,aN] at cm1
 have hdl:∀y∈bl,y∉x:=fun y hy hx=>(dX.1 n0).2.2 y hy y (dO _ hx) rfl
 have hdm:∀y∈bm,y∉x:=fun y hy hx=>(dX.1 (dX.1 n0).2.1).2.2 y hx y hy rfl
 have HW1:=af (aC hW1 hB1);clear hW1 hB1
 obtain⟨R,hRo,hMidz,hRl⟩:=J3 HE.out.row (l0.keep hc1 hdl) (m0.keep hc1 hdm) hP (by have:=HLE.out.1;have:=HE.out.kids;omega) HE.out.lo1 HKZ.out
 have hRl2:R.length<=1160:=by have:=HLM.out;omega
 obtain⟨zc,hzc⟩:∃zc,zc=if ps.length=1 then(F c).length else(cl++(F c++cm)).length+1:=⟨_,rfl⟩
 have hMid:=hMidz zc (fun e=>by rw[hzc,if_pos e])
 have HZC:=af hzc;clear hzc hMidz
 have hRS:=Nd.Di (nd:=nd) (i:=L.length) (ps:=ps) hil HE.out.ok.kk hP.key
 have HRS:=af hRS;clear hRS
 have ok1:(nd.ql L.length ps).Ok:=by
  exact hRo.ok (HE.out.ok.one hkne) (Dj HE.out.ok.ky hP.key) hMid.FB (by omega)
 have n1:=cm1.nd n0
 have R1:=fun hR=>cm1.room (HR0.out hR)
 have R1L:∀Lr,kL Lr σ (b::(bl++(x++bm))) (cs.length+1)->kL Lr σ1 (bl++(x'++bm)) ((cl++(c++cm)).length+1):=fun Lr hR=>cm1.AV (HR0L.out Lr hR)
 have HR1L:=af R1L;clear R1L
 have HPK1:=af (show ∀Lr,kL Lr σ (b::(bl++(x++bm))) (cs.length+1)->σ.tk<=Lr->σ1.tk<=Lr from fun Lr hR t=>hpk1 Lr (HRkL.out Lr hR) t);clear hpk1
 have HR1:=af R1;clear R1
 have hFl:(cl++(F c++cm)).length<=(cl++(c++cm)).length+1:=by
  have:=hF.len c
  simp only[ay];omega
 have hJ:=Oj t mp root err σ1 S1 nb (nd.ql L.length ps) L.length (deep+1) h zc hi lo R (cl++(F c++cm)) (bl++(x'++bm)) _ w4 hI4 ht4 (fun x=>ht3.2 x) hN4 ok1 hRo hMid n1 (by omega) hFl hRl2
 have HJ:=af hJ;clear hJ
 have HP:=af hP;clear hP
 have HRo:=af hRo;clear hRo hRl
 have HC:=af (c0.trans cm1)
 go_wp2_with (first
  |(go_at_call 153;go_must (refine HJ.out.mono ?_;rintro e w5 (⟨rfl,σ2,S2,n2,R2,bs2,hI5,hN5,hRo2,hr2,hc2,⟨hpk2,W2,hW2,hB2⟩,ok2,hl2,hk5,hS2⟩|⟨hno,rfl,τ,Sτ,g1,g2,g3,g4⟩)<;>refine Stop.of ?_)))
 rotate_left
 ·refine Stop.on ?_
  exact⟨rfl,.inr ⟨fun hR=>hno (HR1.out hR),rfl,τ,Sτ,g1,hs4.trans g2,g3.trans HC.out.H,g4.trans HC.out.most⟩⟩
 refine Stop.on ?_
 have hs5:Step S S2 w w5:=hs4.QO hk5 hS2 hnbw
 have HW2:=af (aC hW2 hB2);clear hW2 hB2
 have ht5:=ht.step hst hs5
 have rm2:=Bl ok2 hRo2
 have rm1:=fun hR=>sI (Lr:=σ2.most) ok2 hRo2 hr2 (hc2.room (HR1.out hR)) hFl
 have HRML:=af (show ∀Lr,kL Lr σ (b::(bl++(x++bm))) (cs.length+1)->σ2.sz+n2.room<=Lr from fun Lr hR=>sI ok2 hRo2 hr2 (hc2.AV (HR1L.out Lr hR)) hFl)
 have HPK2:=af (show ∀Lr,kL Lr σ (b::(bl++(x++bm))) (cs.length+1)->σ.tk<=Lr->σ2.tk<=Lr from fun Lr hR t=>hpk2 Lr (HR1L.out Lr hR) (HPK1.out Lr hR t));clear hpk2
 have hRl2':=af hRo2
 have HNL:=af rm2
 have HRM:=af rm1
 clear rm1 rm2 hRo2
 go_wp2_with (first
  |(go_at_call 149;go_must ((refine(qj t mp root err _ σ2 S2 nb n2 least w5 hI5 ht5.1 ht5.2 hN5 ok2 (gV _)).mono ?_);rintro e w6 (⟨v6,ps6,zs,σ3,S3,rfl,p2,p3,p4,p5,p6⟩|⟨hno,rfl,τ,Sτ,g1,g2,g3,g4⟩)<;>refine Stop.of ?_)))
 rotate_left
 ·refine Stop.on ?_
  exact⟨rfl,.inr ⟨fun hR=>absurd (HRM.out hR) (fI.2 hno),rfl,τ,Sτ,g1,hs5.trans g2,g3.trans (hc2.H.trans HC.out.H),g4.trans (hc2.most.trans HC.out.most)⟩⟩
 refine Stop.on ?_
 go_wp2_with fail
 go_ret
 have hkne2:n2.kids≠[]:=fun e=>hRl2'.out.ne (by have:=hRl2'.out.2;rw[e] at this;exact List.map_eq_nil_iff.1 this.symm)
 obtain⟨m3,bs3,q1,q2⟩:=Ai p3 (lo:=lo) (hi:=hi) (h:=h+1) (cs:=cl++(F c++cm)) (bs:=bs2) ok2 ⟨hkne2,by rw[hRl2'.out.row];exact hr2⟩ p4 hI5.Mr (hc2.nd n1) (dU.has (fun _ _ _ _ _ ht=>ht.has) hr2) hl (by have:=HNL.out;have:=ok2.one hkne2;simp[Nd.room,this,hkne2];omega)
 refine .inl ⟨v6,ps6,σ3,S3,bs3,m3,rfl,p2.base hs5.1.size,?_,(HC.out.trans hc2).trans q2,⟨fun Lr hR t=>xM p3 ok2 p4 (HRML.out Lr hR) (HPK2.out Lr hR t),W1+W2+ps6.length,?_,?_⟩,p5,hs5.trans p6⟩
 ·rw[HFc.out]
  exact q1
 ·exact((((uK σ b).trans HW1.out.1).trans HW2.out.1).trans p4.SL).more (by omega)
 ·rw[HFc.out]
  have hlz:=p4.length.1
  have hk2:=HE.out.kids
  have sz:=HE.out.blk.size hI
  obtain⟨r1,r2⟩:=HRS.out
  have hlm:=HLM.out
  rcases HW2.out.2 with ⟨j1,j2,j3⟩|⟨hh,kb,rfl,hkb,hz,_,j1,j2,j3⟩
  ·have ht:=p3.tt ok2 hkne2 (x:=ps.length - 1) (K:=nd.kids.length+(ps.length - 1)) (by omega) (by omega)
   have l1:=dU.low (m:=2^h) (fun _ _ _ _ _ ht=>iL.pw ht) HE.out.l
   have l2:=dU.low (m:=2^h) (fun _ _ _ _ _ ht=>iL.pw ht) HE.out.m
   have hm:(nd.kids.length - 1)*2^h<=cl.length+cm.length:=by
    rw[show nd.kids.length - 1=L.length+M.length by omega,eY];omega
   refine M8 HW1.out.2 hk2 ?_ (by rw[hlz];exact ht) j1
   simp only[ay]
   omega
  ·have hzc:=HZC.out
   by_cases hq:ps.length=1
   ·rw[if_pos hq] at hzc
    rw[hzc] at hz
    have hB1:=HW1.out.2
    rw[hq] at hB1 r1 r2
    have ht:=p3.tt ok2 hkne2 (x:=W2 - 1) (K:=nd.kids.length+(W2 - 1)) (by omega) (by omega)
    have hkn:(nd.ql L.length ps).kids.length=nd.kids.length:=by omega
    rw[hkn] at hz
    exact PS hB1 hk2 hkb hz j1 (by rw[hlz];exact ht)
   ·rw[if_neg hq] at hzc
    omega
theorem GX (t:Nat)(mp:VS)(root err:Int)(key:ByteArray)(g:Nat)(cb:Array Value)(F:List Pr->List Pr)(vs:List (Nat×ByteArray))(hent:∀args w,(callFunc g args).run Tryz.prog w= .ok (.enter g args) w)(hf:Ch g cb F vs)(hF:J5 F key)(hks:key.size<=128):∀h,Fe t mp root err key g cb F vs h
 |0=>Qr t mp root err key g cb F vs hent hf hF
 |h+1=>JL t mp root err key g cb F vs hF hks h (GX t mp root err key g cb F vs hent hf hF hks h)
structure GN (w0:World)(S:Nat->Prop)(nb:Nat)(ks:List ByteArray)(ns:List Int)(v1 v2:Value)(wr:World):Prop where
 jR:Below w0.heap.size w0 wr
 lo:w0.heap.size<=nb
 node:wr.heap[nb]? =some (.cells #[.slice none 0 0,v1,v2] 189 (0,0))
 o1:aT wr S w0.heap.size 9 1 v1 ks.length (ks.map .string)
 o2:aT wr S w0.heap.size 3 1 v2 ns.length (ns.map (.int .i64))
theorem GN.lt {w0:World}{S:Nat->Prop}{nb:Nat}{ks:List ByteArray}{ns:List Int}{v1 v2:Value}{wr:World}(h:GN w0 S nb ks ns v1 v2 wr):nb<wr.heap.size:=(aj.1 h.node).1
theorem GN.below {w0:World}{S:Nat->Prop}{nb:Nat}{ks:List ByteArray}{ns:List Int}{v1 v2:Value}{wr wr':World}(h:GN w0 S nb ks ns v1 v2 wr)(hb:Below wr.heap.size wr wr'):GN w0 S nb ks ns v1 v2 wr':=
 ⟨h.jR.trans (hb.mono h.jR.size),h.lo,(hb.block nb h.lt).trans h.node,h.o1.below hb,h.o2.below hb⟩
theorem GN.Rz {w0:World}{S:Nat->Prop}{nb:Nat}{ks:List ByteArray}{ns ns':List Int}{v1 v2 v2':Value}{wr w':World}(h:GN w0 S nb ks ns v1 v2 wr)(hk:Keep (fun g=>v2.ownBlock=some g) wr w')(hb:Below w0.heap.size wr w')(ho:aT w' S w0.heap.size 3 1 v2' ns'.length (ns'.map (.int .i64))):GN w0 S nb ks ns' v1 v2' (w'.setCell ⟨nb,2,none⟩ v2'):=by
 have hn:w'.heap[nb]? =_:=(hk.block nb h.lt (h.o2.ne h.node (by decide))).trans h.node
 have hk5:Keep (· =nb) w' (w'.setCell ⟨nb,2,none⟩ v2'):=Keep.setCell (M:=(· =nb)) (p:=⟨nb,2,none⟩) (Keep.refl _ _) (.inr rfl) _
 have h1:aT w' S w0.heap.size 9 1 v1 ks.length (ks.map .string):=h.o1.keep fun g hg hl hs=>⟨hk.block g hl (fun e=>aT.Fg h.o1 h.o2 (by decide) g hg e),hs⟩
 refine⟨(h.jR.trans hb).setCell (by exact h.lo) _,h.lo,by simp[World.setCell,bn,hn],h1.keep fun g hg hl hs=>⟨hk5.block g hl (fun e=>h1.ne hn (by decide) (by rw[hg,e])),hs⟩,ho.keep fun g hg hl hs=>⟨hk5.block g hl (fun e=>ho.ne hn (by decide) (by rw[hg,e])),hs⟩⟩
theorem GN.RA {w0:World}{S:Nat->Prop}{nb:Nat}{ks ks':List ByteArray}{ns:List Int}{v1 v2 v1':Value}{wr w':World}(h:GN w0 S nb ks ns v1 v2 wr)(hk:Keep (fun g=>v1.ownBlock=some g) wr w')(hb:Below w0.heap.size wr w')(ho:aT w' S w0.heap.size 9 1 v1' ks'.length (ks'.map .string)):GN w0 S nb ks' ns v1' v2 (w'.setCell ⟨nb,1,none⟩ v1'):=by
 have hn:w'.heap[nb]? =_:=(hk.block nb h.lt (h.o1.ne h.node (by decide))).trans h.node
 have hk5:Keep (· =nb) w' (w'.setCell ⟨nb,1,none⟩ v1'):=Keep.setCell (M:=(· =nb)) (p:=⟨nb,1,none⟩) (Keep.refl _ _) (.inr rfl) _
 have h2:aT w' S w0.heap.size 3 1 v2 ns.length (ns.map (.int .i64)):=h.o2.keep fun g hg hl hs=>⟨hk.block g hl (fun e=>aT.Fg h.o2 h.o1 (by decide) g hg e),hs⟩
 refine⟨(h.jR.trans hb).setCell (by exact h.lo) _,h.lo,by simp[World.setCell,bn,hn],ho.keep fun g hg hl hs=>⟨hk5.block g hl (fun e=>ho.ne hn (by decide) (by rw[hg,e])),hs⟩,h2.keep fun g hg hl hs=>⟨hk5.block g hl (fun e=>h2.ne hn (by decide) (by rw[hg,e])),hs⟩⟩
def Ae (σ:dF)(root:Int)(cs:List Pr)(bs:List Int):Prop:=(root=0/\cs=[]/\bs=[])\/∃h,iL σ h 2 ⟨#[]⟩ none root cs bs
def Pv (mp:VS)(σ:dF)(S:Nat->Prop)(cs:List Pr)(bs:List Int)(n q:Nat)(w:World)(e:Ending)(w':World):Prop:=
 (∃b σ' S' bs',e= .returned (.int .i64 b)/\Ae σ' b cs bs'/\lM σ σ' bs bs'/\(Pk σ σ' bs n/\xu σ σ' q)/\Inv σ' S' mp w'/\Step S S' w w')\/(¬Room σ bs n/\Cg mp σ S w e w')
def TY:Value->Nat| .slice _ n _=>n|_=>0
def GR (mp:VS)(σ0:dF)(S0:Nat->Prop)(cs:List Pr)(bs0:List Int)(n q:Nat)(w:World)(v:Value)(wr:World):Prop:=
 ∃ps h m σ S bs,Il wr S v ps/\TL σ h m ⟨#[]⟩ none ps cs bs/\lM σ0 σ bs0 bs/\(Pk σ0 σ bs0 n/\∃W,xu σ0 σ W/\W+(ps.length - 1)<=q)/\Inv σ S mp wr/\Step S0 S w wr
theorem GL (t:Nat)(mp:VS)(root err:Int)(σ:dF)(v:Value)(ps:List Pc)(h m:Nat)(cs:List Pr)(bs:List Int)(n:Nat)(S:Nat->Prop)(w:World)(hI:Inv σ S mp w)(ht:dA w t mp root err)(hst:¬S t)(hv:Il w S v ps)(hP:TL σ h m ⟨#[]⟩ none ps cs bs)(hn:bs.Nodup)(hcs:cs.length<=n)(q:Nat)(hq:ps.length - 1<=q):
  Calls Tryz.prog 111 #[.pointer (some ⟨t,0,none⟩),v] w (Pv mp σ S cs bs n q w):=by
 have hb0:∀x∈bs,σ.hasB x=true:=dU.has (fun _ _ _ _ _ ht=>ht.has) hP.row
 have htl:t<w.heap.size:=(aj.1 ht).1
 go_enter Tryz.func111,Tryz.ntmps111
 go_wp2
 go_loopw [1,5,6,7] (fun l _ _ _ wr=>GR mp σ S cs bs n q w l wr) (fun l _ _ _ _=>TY l)
 case atStart=>exact⟨ps,h,m,σ,S,bs,hv,hP,lM.refl hb0,⟨Pk.refl _ _ _,0,xu.refl _,by omega⟩,hI,Step.refl S w⟩
 case round=>
  obtain⟨wo,rfl⟩:∃x:World,x=wr:=⟨_,rfl⟩
  obtain⟨ps,h,m,σ1,S1,bs1,hv1,hP1,hC1,hK1,hI1,hs1⟩:=hrel
  have HPK:=af hK1;clear hK1
  have HP1:=af hP1
  have HC1:=af hC1
  have hlen:=hP1.len
  clear hP1 hC1 hb0 hP hv hI
  have ht1:=ht.step hst hs1
  obtain⟨pao,pc,rfl,_,_,_,_⟩:=bJ.form hv1
  by_cases h1:1<ps.length
  ·have x1:(1:Int)<(ps.length:Int):=by omega
   have hb0:=aK wo (.cells #[.slice none 0 0,.slice none 0 0,.slice none 0 0] 189)
   have hG0:GN wo S1 wo.heap.size [] [] (.slice none 0 0) (.slice none 0 0) (wo.alloc (.cells #[.slice none 0 0,.slice none 0 0,.slice none 0 0] 189)):=
    ⟨hb0,aG _,aP wo _,aT.nil _ _ _ _ _,aT.nil _ _ _ _ _⟩
   obtain⟨pb,po,rfl⟩:∃pb po,pao=some ⟨pb,po,none⟩:=by
    obtain⟨b,o,e,_⟩:=hv1.at rfl 0 (by omega)
    exact⟨b,o,e⟩
   go_wp2_with fail
   go_loopw [6,7,19] (fun _ _ i wk=>∃(k:Nat) (v1 v2:Value),k<=ps.length/\i= .int .i64 k/\GN wo S1 wo.heap.size (((ps.take k).drop 1).map (·.2)) ((ps.take k).map (·.1)) v1 v2 wk) (fun _ _ i _=>ps.length - (intOf i).toNat)
   case atStart=>exact⟨0,_,_,aX _,rfl,by simpa using hG0⟩
   case round=>
    obtain⟨k,v1,v2,hk,rfl,hG⟩:=hrel
    by_cases hlt:k<ps.length
    ·obtain⟨ns,hns⟩:∃ns,ns=(ps.take k).map (·.1):=⟨_,rfl⟩
     obtain⟨ks,hks⟩:∃ks,ks=((ps.take k).drop 1).map (·.2):=⟨_,rfl⟩
     have hnl:ns.length=k:=by rw[hns];simp;omega
     have hkl:ks.length=k - 1:=by rw[hks];simp;omega
     rw[<-hns,<-hks] at hG
     have hns2:(ps.take (k+1)).map (·.1)=ns++[ps[k].1]:=by rw[hns,aI hlt,dz];rfl
     have HNS:=af hns2;clear hns hns2
     have hks2:((ps.take (k+1)).drop 1).map (·.2)=if k=0 then ks else ks++[ps[k].2]:=by
      rw[hks,aI hlt]
      split
      ·rename_i e;subst e;simp
      ·rw[fF (by simp;omega),dz];rfl
     have HKS:=af hks2;clear hks hks2
     obtain⟨_,_,e,d1,d2⟩:=hv1.at rfl k hlt
     cases e
     have d1':=(hG.jR.cell (p:=⟨pb,po+k*2,none⟩) (aD wo _ d1)).trans d1
     have d2':=(hG.jR.cell (p:=⟨pb,po+k*2+1,none⟩) (aD wo _ d2)).trans d2
     have hpb:=aD wr _ d1'
     have hlti:(k:Int)<(ps.length:Int):=by omega
     have hGA:=(hG.below (aK wr (.cells #[.int .i64 ps[k].1,.string ps[k].2] 254)))
     have hPA:(wr.alloc (.cells #[.int .i64 ps[k].1,.string ps[k].2] 254)).heap[wr.heap.size]? =some (.cells #[.int .i64 ps[k].1,.string ps[k].2] 254 (0,0)):=aP wr _
     clear d1 d2
     go_wp2_with fail
     generalize wr.alloc (.cells #[.int .i64 ps[k].1,.string ps[k].2] 254)=wA at hGA hPA ⊢
     have hqb:wo.heap.size<=wr.heap.size:=hG.jR.size
     have hqn:wo.heap.size<wr.heap.size:=hG.lt
     clear d1' d2' hpb hG
     generalize wr.heap.size=qb at hPA hqb hqn ⊢
     have hsub:=hI1.sub
     have o2:=hGA.o2
     rw[hnl] at o2
     obtain⟨ao2,c2,rfl,_,_,_,_⟩:=bJ.form o2.dI
     obtain⟨_,_,y2,_,_,_,ly⟩:=cells3 hGA.node
     obtain⟨z0,z1,lz⟩:wA.cell? ⟨qb,0,none⟩=some (.int .i64 ps[k].1)/\wA.cell? ⟨qb,1,none⟩=some (.string ps[k].2)/\qb<wA.heap.size:=⟨by simp[World.cell?,hPA],by simp[World.cell?,hPA],(aj.1 hPA).1⟩
     refine aS (fun W=>W.cell? ⟨wo.heap.size,2,none⟩=some (.slice ao2 k c2)/\wo.heap.size<W.heap.size/\W.cell? ⟨qb,0,none⟩=some (.int .i64 ps[k].1)/\qb<W.heap.size) (fun i=> !([7,8,11].contains i)) [0,1,2,3,4,5,6,7,8,9,10,11] rfl (by kernel_rfl) ⟨y2,ly,z0,lz⟩ ?_
     repeat ((refine bL (v:= ?_) rfl rfl (fun _ _ _ h=>h) rfl (fun W hW=> ?_) ?_);rotate_left;(focus ((try dsimp only at hW);obtain⟨q0,q1,q2,q3⟩:=hW;first|(go_simp;first|done|with_reducible rfl)));(try simp only[Act.put,ah,au,ak]))
     refine dm rfl rfl rfl ?_;intro K hK;go_simp
     have hbB:=(aK wA (.cells #[.int .i64 ps[k].1] 3)).drew
     have hGB:=hGA.below hbB
     have oB:=o2.below hbB
     obtain⟨_,_,y2,_,_,_,ly⟩:=cells3 hGB.node
     have z0B:=(hbB.cell (p:=⟨qb,0,none⟩) lz).trans z0
     have lzB:=ax lz hbB.size
     refine hK.out _ _ ⟨y2,ly,z0B,lzB⟩ ?_
     (try simp only[Act.put,ah,au,ak])
     have hPB:=(hbB.block qb lz).trans hPA
     have hsrc:Src Tryz.prog 1 151 (.slice (some ⟨wA.heap.size,0,none⟩) 1 1) 1 [.int .i64 ps[k].1] (wA.alloc (.cells #[.int .i64 ps[k].1] 3)).drew:=(mO (w:=wA) (S:=S1) (B:=wo.heap.size) (e:=3) (k:=1) [.int .i64 ps[k].1] 1 1 rfl rfl (aG _) (by simp[maxLen]) hGA.jR.size (fun g hg=>ax (hsub g hg) hGA.jR.size)).drew.dI.src bG (by intro u hu;rw[bK.1 hu];rfl)
     have hsubB:∀g,S1 g->g<(wA.alloc (.cells #[.int .i64 ps[k].1] 3)).drew.heap.size:=fun g hg=>ax (ax (hsub g hg) hGA.jR.size) hbB.size
     have hszB:=hGB.jR.size
     generalize (wA.alloc (.cells #[.int .i64 ps[k].1] 3)).drew=wB at hGB oB hPB hsrc hsubB hszB ⊢
     refine dm rfl rfl rfl ?_;intro K hK
     refine lZ (.tmp 28) (.tmp 31) 151 151 rfl S1 wo.heap.size 3 1 8 _ bG iF rfl (.slice ao2 k c2) k (ns.map (.int .i64)) rfl oB (.slice (some ⟨wA.heap.size,0,none⟩) 1 1) 1 [.int .i64 ps[k].1] rfl hsrc hsubB hszB (by unfold maxLen;omega) (by omega) ?_
     intro ao3 c3 w3 hown3 hk3 hb3 hd3
     have hG3:=hGB.Rz hk3 hb3 (ns':=ns++[ps[k].1]) (v2':= .slice ao3 (k+1) c3) (by rw[ay,lY,hnl,dz];exact hown3)
     have hN3:w3.heap[wo.heap.size]? =_:=(hk3.block _ hGB.lt (hGB.o2.ne hGB.node (by decide))).trans hGB.node
     have hP3:w3.heap[qb]? =_:=(hk3.block qb (aj.1 hPB).1 (oB.ne hPB (by decide))).trans hPB
     obtain⟨_,_,y2,_,_,yf,ly⟩:=cells3 hN3
     have z3:w3.cell? ⟨qb,0,none⟩=some (.int .i64 ps[k].1):=by simp[World.cell?,hP3]
     have l3:=(aj.1 hP3).1
     refine hK.out _ _ ⟨y2,ly,z3,l3⟩ ?_
     (try simp only[Act.put,ah,au,ak])
     repeat ((refine bL (v:= ?_) rfl rfl (fun _ _ _ h=>h) rfl (fun W hW=> ?_) ?_);rotate_left;(focus ((try dsimp only at hW);obtain⟨q0,q1,q2,q3⟩:=hW;first|(go_simp;first|done|with_reducible rfl)));(try simp only[Act.put,ah,au,ak]))
     refine jk rfl rfl rfl (by kernel_rfl) ?_;intro K hK;go_simp
     refine hK.out _ _ ?_
     refine bR ?_
     have hk4:Keep (· =wo.heap.size) w3 (w3.setCell ⟨wo.heap.size,2,none⟩ (.slice ao3 (k+1) c3)):=Keep.setCell (M:=(· =wo.heap.size)) (p:=⟨wo.heap.size,2,none⟩) (Keep.refl _ _) (.inr rfl) _
     have hP4:=(hk4.block qb l3 (by omega)).trans hP3
     generalize w3.setCell ⟨wo.heap.size,2,none⟩ (.slice ao3 (k+1) c3)=w4 at hG3 hP4 ⊢
     clear hk4 hN3 hP3 hGB oB hPB hsrc hsubB hGA hPA o2 hown3 hk3 hb3 hd3 y2 yf ly z3 l3 z0 z1 lz z0B lzB hbB hszB
     by_cases hk0:k=0
     ·have x2:¬(0:Int)<(k:Int):=by omega
      have HK0:=af hk0;clear hk0
      go_wp2_with fail
      go_roundw
      case rel=>exact⟨k+1,_,_,by omega,by go_num,by rw[HNS.out,HKS.out,if_pos HK0.out];exact hG3⟩
      case measure=>simp[intOf];omega
     ·have x2:(0:Int)<(k:Int):=by omega
      have hkn:k - 1+1=k:=by omega
      have HK0:=af hk0;clear hk0
      have o1:=hG3.o1
      rw[hkl] at o1
      have v14:bJ w4 S1 1 v1 (k - 1) (ks.map .string):=o1.dI
      obtain⟨ao5,c5,rfl,_,_,_,_⟩:=bJ.form v14
      clear v14
      obtain⟨_,y1,_,_,_,_,ly⟩:=cells3 hG3.node
      obtain⟨z1,lz⟩:w4.cell? ⟨qb,1,none⟩=some (.string ps[k].2)/\qb<w4.heap.size:=⟨by simp[World.cell?,hP4],(aj.1 hP4).1⟩
      go_wp2_with fail
      refine aS (fun W=>W.cell? ⟨wo.heap.size,1,none⟩=some (.slice ao5 (k - 1) c5)/\wo.heap.size<W.heap.size/\W.cell? ⟨qb,1,none⟩=some (.string ps[k].2)/\qb<W.heap.size) (fun i=> !([7,8,11].contains i)) [0,1,2,3,4,5,6,7,8,9,10,11] rfl (by kernel_rfl) ⟨y1,ly,z1,lz⟩ ?_
      repeat ((refine bL (v:= ?_) rfl rfl (fun _ _ _ h=>h) rfl (fun W hW=> ?_) ?_);rotate_left;(focus ((try dsimp only at hW);obtain⟨q0,q1,q2,q3⟩:=hW;first|(go_simp;first|done|with_reducible rfl)));(try simp only[Act.put,ah,au,ak]))
      refine dm rfl rfl rfl ?_;intro K hK;go_simp
      have hbB:=(aK w4 (.cells #[.string ps[k].2] 9)).drew
      have hGB:=hG3.below hbB
      have oB:=o1.below hbB
      obtain⟨_,y1,_,_,_,_,ly⟩:=cells3 hGB.node
      have z1B:=(hbB.cell (p:=⟨qb,1,none⟩) lz).trans z1
      have lzB:=ax lz hbB.size
      refine hK.out _ _ ⟨y1,ly,z1B,lzB⟩ ?_
      (try simp only[Act.put,ah,au,ak])
      have hPB:=(hbB.block qb lz).trans hP4
      have hsrc:Src Tryz.prog 1 22 (.slice (some ⟨w4.heap.size,0,none⟩) 1 1) 1 [.string ps[k].2] (w4.alloc (.cells #[.string ps[k].2] 9)).drew:=(mO (w:=w4) (S:=S1) (B:=wo.heap.size) (e:=9) (k:=1) [.string ps[k].2] 1 1 rfl rfl (aG _) (by simp[maxLen]) hG3.jR.size (fun g hg=>ax (hsub g hg) hG3.jR.size)).drew.dI.src aY (by intro u hu;rw[bK.1 hu];rfl)
      have hsubB:∀g,S1 g->g<(w4.alloc (.cells #[.string ps[k].2] 9)).drew.heap.size:=fun g hg=>ax (ax (hsub g hg) hG3.jR.size) hbB.size
      have hszB:=hGB.jR.size
      generalize (w4.alloc (.cells #[.string ps[k].2] 9)).drew=wB at hGB oB hPB hsrc hsubB hszB ⊢
      refine dm rfl rfl rfl ?_;intro K hK
      refine lZ (.tmp 41) (.tmp 44) 22 22 rfl S1 wo.heap.size 9 1 16 _ aY gD rfl (.slice ao5 (k - 1) c5) (k - 1) (ks.map .string) rfl oB (.slice (some ⟨w4.heap.size,0,none⟩) 1 1) 1 [.string ps[k].2] rfl hsrc hsubB hszB (by unfold maxLen;omega) (by omega) ?_
      intro ao6 c6 w6 hown6 hk6 hb6 hd6
      have hG6:=hGB.RA hk6 hb6 (ks':=ks++[ps[k].2]) (v1':= .slice ao6 (k - 1+1) c6) (by rw[ay,lY,hkl,dz];exact hown6)
      have hN6:w6.heap[wo.heap.size]? =_:=(hk6.block _ hGB.lt (hGB.o1.ne hGB.node (by decide))).trans hGB.node
      have hP6:w6.heap[qb]? =_:=(hk6.block qb (aj.1 hPB).1 (oB.ne hPB (by decide))).trans hPB
      obtain⟨_,y1,_,_,yf,_,ly⟩:=cells3 hN6
      have z6:w6.cell? ⟨qb,1,none⟩=some (.string ps[k].2):=by simp[World.cell?,hP6]
      have l6:=(aj.1 hP6).1
      refine hK.out _ _ ⟨y1,ly,z6,l6⟩ ?_
      (try simp only[Act.put,ah,au,ak])
      repeat ((refine bL (v:= ?_) rfl rfl (fun _ _ _ h=>h) rfl (fun W hW=> ?_) ?_);rotate_left;(focus ((try dsimp only at hW);obtain⟨q0,q1,q2,q3⟩:=hW;first|(go_simp;first|done|with_reducible rfl)));(try simp only[Act.put,ah,au,ak]))
      refine jk rfl rfl rfl (by kernel_rfl) ?_;intro K hK;go_simp
      refine hK.out _ _ ?_
      refine bR ?_
      rw[hkn] at hG6
      clear y1 yf ly z6 l6 hN6 hP6 hGB oB hPB hsrc hsubB hown6 hk6 hb6 hd6 hszB
      go_wp2_with fail
      go_roundw
      case rel=>exact⟨k+1,_,_,by omega,by go_num,by rw[HNS.out,HKS.out,if_neg HK0.out];exact hG6⟩
      case measure=>simp[intOf];omega
    ·obtain rfl:k=ps.length:=by omega
     rw[bP] at hG
     have x2:¬(ps.length:Int)<(ps.length:Int):=by omega
     have hRo:lG ⟨[],(ps.drop 1).map (·.2),ps.map (·.1)⟩ ⟨#[]⟩ (kT ⟨#[]⟩ ps):=by
      constructor
      ·rw[Dm]
       cases ps with
       |nil=>simp at h1
       |cons p r=>simp[lF]
      ·rw[Dl]
     have hm2:m=2:=HP1.out.single.resolve_right (by omega)
     subst hm2
     have ok:Nd.Ok ⟨[],(ps.drop 1).map (·.2),ps.map (·.1)⟩:=hRo.ok rfl (fun k hk=>by
      obtain⟨p,hp,rfl⟩:=dL.1 hk
      exact HP1.out.key p (cO hp)) (dU.FB (fun _ _ _ _ _ ht=>ht.top) HP1.out.row) (by rw[xN];omega)
     have hkne:(ps.map (·.1))≠[]:=fun e=>by rw[List.map_eq_nil_iff.1 e] at h1;simp at h1
     have rm2:=Bl ok hRo
     have rm1:=fun hR=>sI (Lr:=σ1.most) ok hRo HP1.out.row (HC1.out.room hR) hcs
     have HRML:=af (show ∀Lr,kL Lr σ bs n->σ1.sz+Nd.room ⟨[],(ps.drop 1).map (·.2),ps.map (·.1)⟩<=Lr from fun Lr hR=>sI ok hRo HP1.out.row (HC1.out.AV hR) hcs)
     have hnode:fT wr S1 wo.heap.size ⟨[],(ps.drop 1).map (·.2),ps.map (·.1)⟩:=⟨fun hs=>absurd (hI1.sub _ hs) (dM _),_,_,_,hG.node,bJ.nil _ _ _,hG.o1.dI,hG.o2.dI⟩
     have hIr:=hI1.below hG.jR
     have htr:=ht1.1.step ht1.2 (Step.of_below (S:=S1) hG.jR)
     obtain⟨_,_,e,d1,d2⟩:=hv1.at rfl 0 (by omega)
     cases e
     rw[tO,iX] at d2
     have d2':=(hG.jR.cell (p:=⟨pb,po+1,none⟩) (aD wo _ d2)).trans d2
     have hpb:=aD wr _ d2'
     have hlp:(0:Int)<(ps.length:Int):=by omega
     have hlp2:0<ps.length:=by omega
     have hRM:=af rm1
     have HRO:=af hRo
     have hroom2:=af rm2
     clear rm1 rm2 hRo d1 d2
     go_wp2_with (first
      |(go_at_call 149;go_must ((refine(qj t mp root err _ σ1 S1 wo.heap.size ⟨[],(ps.drop 1).map (·.2),ps.map (·.1)⟩ _ wr hIr htr.1 htr.2 hnode ok (gV _)).mono ?_);rintro e w6 (⟨v6,ps6,zs,σ3,S3,rfl,p2,p3,p4,p5,p6⟩|⟨hno,rfl,τ,Sτ,g1,g2,g3,g4⟩)<;>refine Stop.of ?_)))
     rotate_left
     ·refine Stop.on ?_
      exact⟨rfl,.inr ⟨fun hR=>absurd (hRM.out hR) (fI.2 hno),rfl,τ,Sτ,g1,(hs1.trans (Step.of_below hG.jR)).trans g2,g3.trans HC1.out.H,g4.trans HC1.out.most⟩⟩
     refine Stop.on ?_
     go_wp2_with fail
     obtain⟨m3,bs3,q1,q2⟩:=Ai p3 (lo:=⟨#[]⟩) (hi:=none) (h:=h+1) (cs:=cs) (bs:=bs1) ok ⟨hkne,by rw[HRO.out.row];exact HP1.out.row⟩ p4 hI1.Mr (HC1.out.nd hn) (dU.has (fun _ _ _ _ _ ht=>ht.has) HP1.out.row) (HP1.out.key _ (bD hlp2)) (by have:=hroom2.out;simp at this ⊢;omega)
     have hl6:ps6.length<ps.length:=by
      have e1:=p3.room ok
      have e2:=p4.length.1
      simp[Nd.room] at e1
      have:¬ps=[]:=fun e=>by rw[e] at h1;simp at h1
      rw[if_neg this] at e1
      omega
     have hl7:ps6.length<=1\/2*ps6.length<=ps.length:=by
      have e1:=p3.room ok
      have e2:=p4.length.1
      simp[Nd.room] at e1
      have:¬ps=[]:=fun e=>by rw[e] at h1;simp at h1
      rw[if_neg this] at e1
      omega
     go_roundw
     case rel=>exact⟨ps6,h+1,m3,σ3,S3,bs3,p2.dI,q1,HC1.out.trans q2,⟨fun Lr hR t=>xM p3 ok p4 (HRML.out Lr hR) (HPK.out.1 Lr hR t),by obtain⟨W,w1,w2⟩:=HPK.out.2;exact⟨W+ps6.length,w1.trans p4.SL,by omega⟩⟩,p5,(hs1.trans (Step.of_below hG.jR)).trans p6⟩
     case measure=>
      obtain⟨ao6,c6,rfl,_⟩:=bJ.form p2.dI
      exact hl6
  ·have x1:¬(1:Int)<(ps.length:Int):=by omega
   by_cases h0:ps.length=0
   ·have x0:(ps.length:Int)=0:=by omega
    have hp0:ps=[]:=bf h0
    subst hp0
    obtain⟨hc0,hb0⟩:=HP1.out.row
    have HC0:=af hc0
    have HB0:=af hb0
    clear hc0 hb0 h0 x0
    go_wp2_with fail
    go_ret
    exact .inl ⟨0,σ1,S1,bs1,rfl,.inl ⟨rfl,HC0.out,HB0.out⟩,HC1.out,⟨HPK.out.1,by obtain⟨W,w1,w2⟩:=HPK.out.2;exact w1.more (by omega)⟩,hI1,hs1⟩
   ·have h11:ps.length=1:=by omega
    obtain⟨p,hp⟩:∃p,ps=[p]:=List.length_eq_one_iff.1 h11
    subst hp
    obtain⟨c1,c2,y1,y2,hT,⟨hc2,hy2⟩,hc,hy⟩:=HP1.out.row
    subst hc2 hy2
    rw[dS] at hc hy
    subst hc hy
    have HT:=af hT;clear hT
    obtain⟨pb,po,e,d1,d2⟩:=hv1.at rfl 0 (gV 0)
    subst e
    have d1':wo.cell? ⟨pb,po,none⟩=some (.int .i64 p.1):=d1
    have hpl:pb<wo.heap.size:=aD wo _ d1
    clear d1 d2 h0 h11 h1
    go_wp2_with fail
    go_loopw [8,9,10,11] (fun x y _ _ wx=>∃(b:Int) (d h m:Nat) (σ2:dF) (S2:Nat->Prop) (bs2:List Int),x= .int .i64 b/\y= .int .i64 d/\iL σ2 h m ⟨#[]⟩ none b cs bs2/\(m=2\/d=0)/\d<=1/\lM σ σ2 bs bs2/\(Pk σ σ2 bs n/\xu σ σ2 q)/\Inv σ2 S2 mp wx/\Step S S2 w wx) (fun _ y _ _ _=>2 - (intOf y).toNat)
    case atStart=>exact⟨p.1,0,h,m,σ1,S1,_,rfl,rfl,HT.out,.inr rfl,by omega,HC1.out,⟨HPK.out.1,by obtain⟨W,w1,w2⟩:=HPK.out.2;exact w1.more (by omega)⟩,hI1,hs1⟩
    case round=>
     obtain⟨wo2,rfl⟩:∃x:World,x=wr:=⟨_,rfl⟩
     obtain⟨b,d,h2,m2,σ2,S2,bs2,rfl,rfl,hT2,hmd,hd1,hC2,hK2,hI2,hs2⟩:=hrel
     have HPK2:=af hK2;clear hK2
     obtain⟨nd,bs3,hB,ok,hNr,hKd,hne,rfl⟩:=sF.1 hT2
     have HT2:=af hT2;clear hT2
     have HC2:=af hC2;clear hC2
     have ht2:=ht.step hst hs2
     have hd40:(d:Int)<=40:=by omega
     have hnk:=hB.fits.nk
     by_cases hk1:nd.kids.length=1
     ·obtain⟨h3,rfl⟩:∃h3,h2=h3+1:=by
       cases h2 with
       |zero=>have:=hNr.1;rw[this] at hk1;simp at hk1
       |succ h3=>exact⟨h3,rfl⟩
      have hd0:d=0:=hmd.resolve_left (fun e=>by
       have:=hKd.resolve_left (by omega)
       omega)
      have x1:(nd.kids.length:Int)=1:=by omega
      have HK1:=af hk1
      have HD0:=af hd0
      have hrow:=rowOf ok hNr.1 ⟨#[]⟩
      obtain⟨b0,l,e,e2,e3⟩:=qd ok.kk hNr.1 ⟨#[]⟩
      have hl0:l=[]:=by
       have:=congrArg List.length e3
       simp at this
       exact bf (by omega)
      subst hl0
      have hr2:=hNr.2
      unfold Nd.row at hr2
      rw[e] at hr2
      obtain⟨c1,c2,y1,y2,hT3,⟨hc2,hy2⟩,hc,hy⟩:=hr2
      subst hc2 hy2
      rw[dS] at hc hy
      subst hc hy
      have E3:=af e3
      clear e e2 e3 hk1 hd0 hrow
      have cg:=BR hI2 hB.has
      have hnd3:=HC2.out.nd hn
      have cl:=cg.left (us:=[b]) (bs:=[]) (rs:=bs3) hnd3 (fun x hx=>HT2.out.has x (bq _ hx))
      have hT4:=hT3.keep cg (fun y hy e=>(oH.1 hnd3).1 (by rw[<-bK.1 e];exact hy))
      have hm:∀w,(method 475 105 mp.agg "Free").run Tryz.prog w= .ok (285,.pointer (some ⟨mp.mp,0,none⟩)) w:=fun _=>by kernel_rfl
      go_wp2_with (first
       |(go_at_call 143;go_must ((refine(mZ t mp root err b d σ2 S2 nd _ hI2 ht2.1 hB hd40).mono ?_);rintro e w1 ⟨nb,rfl,hn1,hb1⟩))
       |(go_at_call 150;go_must ((refine(oh _).mono ?_);rintro e w2 ⟨rfl,hw⟩;subst w2;refine Stop.of ?_)))
      refine Stop.on ?_
      obtain⟨_,v0,v1,v2,bN,_,_,N2⟩:=hn1.jd
      obtain⟨ao2,cp2,rfl,_,_,_,_⟩:=bJ.form N2
      obtain⟨_,_,y2,_,_,_,ly⟩:=cells3 bN
      obtain⟨tc0,_,_,_,_,_,tl0⟩:=cells3 ((hb1.block t (aj.1 ht2.1).1).trans ht2.1)
      go_wp2_with (first
       |(go_at_call 285;go_must ((refine(rH mp σ2 S2 w1 b (hI2.below hb1) hB.lo hB.has).mono ?_);rintro e w3 ⟨rfl,hI3,hs3⟩;refine Stop.of ?_)))
      refine Stop.on ?_
      obtain⟨_,v0',v1',v2',bN3,_,_,N23⟩:=hn1.jd.step hs3
      obtain⟨ao3,cp3,rfl,_,_,_,_⟩:=bJ.form N23
      obtain⟨pb2,po2,rfl,d2⟩:=N23.at rfl 0 (by rw[HK1.out];exact gV 0)
      have hk0:nd.kids[0]'(by rw[HK1.out];exact gV 0)=b0:=by
       have:=E3.out
       simp at this
       simp[this]
      rw[hk0,iX] at d2
      obtain⟨_,_,y2,_,_,_,ly⟩:=cells3 bN3
      have hp2:=aD w3 _ d2
      go_wp2_with (first
       |(go_at_call 150;go_must ((refine(oh _).mono ?_);rintro e w2 ⟨rfl,hw⟩;subst w2)))
      go_roundw
      case rel=>exact⟨b0,d+1,h3,2,σ2.gone b,S2,bs3,rfl,by go_num,hT4,.inl rfl,by have:=HD0.out;omega,HC2.out.trans cl,⟨HPK2.out.1,by have:=HPK2.out.2.trans (uK σ2 b);rwa [iX] at this⟩,hI3,(hs2.trans (Step.of_below hb1)).trans hs3⟩
      case measure=>simp[intOf];omega
     ·have x1:¬(nd.kids.length:Int)=1:=by omega
      have x1':((nd.kids.length:Int)==1)=false:=by rw[cu];omega
      have HK1:=af hk1;clear hk1
      go_wp2_with (first
       |(go_at_call 143;go_must ((refine(mZ t mp root err b d σ2 S2 nd _ hI2 ht2.1 hB hd40).mono ?_);rintro e w1 ⟨nb,rfl,hn1,hb1⟩))
       |(go_at_call 150;go_must ((refine(oh _).mono ?_);rintro e w2 ⟨rfl,hw⟩;subst w2;refine Stop.of ?_)))
      refine Stop.on ?_
      obtain⟨_,v0,v1,v2,bN,_,_,N2⟩:=hn1.jd
      obtain⟨ao2,cp2,rfl,_,_,_,_⟩:=bJ.form N2
      obtain⟨_,_,y2,_,_,_,ly⟩:=cells3 bN
      go_wp2_with fail
      go_ret
      refine .inl ⟨b,σ2,S2,_,rfl,.inr ⟨h2,sF.2 ⟨nd,bs3,hB,ok,hNr,?_,hne,rfl⟩⟩,HC2.out,HPK2.out,hI2.below hb1,hs2.trans (Step.of_below hb1)⟩
      cases h2 with
      |zero=>exact .inl rfl
      |succ h2=>exact .inr (by have:=dD.2 hNr.1;have:=HK1.out;omega)
theorem Jk (c:List Pr)(key:ByteArray)(h:∀p∈c,lt key p.1=true):dN c key=0:=uz [] c key h
theorem NI {σ:dF}{key:ByteArray}{h:Nat}{hi:Option ByteArray}(hW:∀k z b c x,iL σ h 2 k z b c x->uW σ key h b (c.drop (dN c key))):∀{l:List (ByteArray×Int)} {cs:List Pr} {bs:List Int},dU (iL σ h 2) hi l cs bs->(∀p∈cs,lt key p.1=true)->
  ∃Ls:List (List Pr),Ls.length=(l.map (·.2)).length/\(∀i (h1:i<(l.map (·.2)).length) (h2:i<Ls.length),uW σ key h (l.map (·.2))[i] Ls[i])/\Ls.flatten=cs
 |[],_,_,⟨e,_⟩,_=>⟨[],rfl,fun i h1=>absurd h1 (by simp),e.symm⟩
 |(k,b)::l,_,_,hr,hp=>by
  obtain⟨c,cs',x,bs',h1,h2,rfl,rfl⟩:=hr
  obtain⟨Ls,q1,q2,q3⟩:=NI hW h2 (fun p hp'=>hp p (dP _ hp'))
  have hw:=hW _ _ _ _ _ h1
  rw[Jk c key (fun p hp'=>hp p (dO _ hp')),fo] at hw
  refine⟨c::Ls,by simp at q1 ⊢;exact q1,fun i i1 i2=> ?_,by rw[Rb,q3]⟩
  cases i with
  |zero=>exact hw
  |succ i=>exact q2 i (by simpa using i1) (by simpa using i2)
theorem Kk {σ:dF}{key:ByteArray}{h:Nat}{hi:Option ByteArray}(hW:∀k z b c x,iL σ h 2 k z b c x->uW σ key h b (c.drop (dN c key))):∀{r:List (ByteArray×Int)} {k:ByteArray} {b:Int} {cs:List Pr} {bs:List Int},dU (iL σ h 2) hi ((k,b)::r) cs bs->
  ∃Ls:List (List Pr),Ls.length=((b::r.map (·.2)).drop (iE (r.map (·.1)) key)).length/\(∀i (h1:i<((b::r.map (·.2)).drop (iE (r.map (·.1)) key)).length) (h2:i<Ls.length),uW σ key h ((b::r.map (·.2)).drop (iE (r.map (·.1)) key))[i] Ls[i])/\Ls.flatten=cs.drop (dN cs key)
 |[],k,b,_,_,hr=>by
  obtain⟨c,cs',x,bs',h1,⟨rfl,rfl⟩,rfl,rfl⟩:=hr
  refine⟨[c.drop (dN c key)],by simp[iE],fun i i1 i2=> ?_,by simp⟩
  have:i=0:=by simp at i2;exact i2
  subst this
  exact hW _ _ _ _ _ h1
 |(k1,b1)::r,k,b,_,_,hr=>by
  obtain⟨c,cs',x,bs',h1,h2,rfl,rfl⟩:=hr
  have hT:∀k z b c x,iL σ h 2 k z b c x->Content k z c:=fun _ _ _ _ _ ht=>ht.content
  cases hlt:lt key k1 with
  |true=>
   have hc:=dU.content hT h2
   have hall:∀p∈cs',lt key p.1=true:=fun p hp=>Bo hlt (hc.within p hp).1
   obtain⟨Ls,q1,q2,q3⟩:=NI hW h2 hall
   have e:iE (((k1,b1)::r).map (·.1)) key=0:=by simp[iE,hlt]
   simp only[e,fo]
   refine⟨c.drop (dN c key)::Ls,by simp at q1 ⊢;exact q1,fun i i1 i2=> ?_,?_⟩
   ·cases i with
    |zero=>exact hW _ _ _ _ _ h1
    |succ i=>exact q2 i (by simpa using i1) (by simpa using i2)
   ·rw[Rb,q3,uz c cs' key hall,fF (o8 _ _)]
  |false=>
   obtain⟨Ls,q1,q2,q3⟩:=Kk hW h2
   have e:iE (((k1,b1)::r).map (·.1)) key=iE (r.map (·.1)) key+1:=by simp[iE,hlt]
   have hall:∀p∈c,lt p.1 key=true:=fun p hp=>Bo ((hT _ _ _ _ _ h1).within p hp|>.2 k1 rfl) hlt
   simp only[e,fM]
   refine⟨Ls,by simpa using q1,fun i i1 i2=>q2 i (by simpa using i1) i2,?_⟩
   rw[q3,Bf c cs' key hall,nR,dZ (l:=c) (by omega),eP,dB]
theorem iL.walk {σ:dF}{key:ByteArray}:∀{h m:Nat} {lo:ByteArray} {hi:Option ByteArray} {b:Int} {cs:List Pr} {bs:List Int},iL σ h m lo hi b cs bs->uW σ key h b (cs.drop (dN cs key))
 |0,_,_,_,_,_,_,⟨nd,h1,_,h3,h4,_,h6,_,_⟩=>by
  subst h4
  exact .leaf h1 h3 h6
 |h+1,m,lo,hi,b,cs,bs,⟨nd,bs',h1,h2,h3,_,_,h6⟩=>by
  have hkeys:=iL.rising h2 h3 h6
  obtain⟨b0,l,e,e2,e3⟩:=qd h2.kk h3 lo
  unfold Nd.row at h6
  rw[e] at h6
  obtain⟨Ls,q1,q2,q3⟩:=Kk (key:=key) (fun _ _ _ _ _ ht=>iL.walk ht) h6
  have e4:(l.map (·.1))=nd.keys:=e2
  have e5:b0::l.map (·.2)=nd.kids:=e3.symm
  simp only[e4,e5] at q1 q2
  rw[<-q3]
  exact .inner Ls h1 h3 hkeys q1 q2
theorem dU.pow {T:ByteArray->Option ByteArray->Int->List Pr->List Int->Prop}{p:Nat}(hT:∀k z b c x,T k z b c x->p<=c.length){hi:Option ByteArray}:∀{l:List (ByteArray×Int)} {cs:List Pr} {bs:List Int},dU T hi l cs bs->l.length*p<=cs.length
 |[],_,_,_=>by simp
 |(k,b)::l,_,_,h=>by
  obtain⟨c,cs',x,bs',h1,h2,rfl,rfl⟩:=h
  have a:=hT _ _ _ _ _ h1
  have b:=dU.pow hT h2
  simp only[ay,bE,eY,kM];omega
theorem iL.pow {σ:dF}:∀{h:Nat} {lo:ByteArray} {hi:Option ByteArray} {b:Int} {cs:List Pr} {bs:List Int},iL σ h 2 lo hi b cs bs->2^h<=cs.length
 |0,_,_,_,_,_,⟨_,_,_,_,_,h5,_,_,_⟩=>by
  rw[Nat.pow_zero]
  exact dD.2 h5
 |h+1,_,_,_,_,_,⟨nd,bs',_,h2,h3,h4,h5,h6⟩=>by
  have:=dU.pow (fun _ _ _ _ _ ht=>iL.pow ht) h6
  rw[nd.mh h2 h3] at this
  have:2*2^h<=nd.kids.length*2^h:=dw _ h4
  rw[tQ];omega
theorem iL.low {σ:dF}{h:Nat}{lo:ByteArray}{hi:Option ByteArray}{b:Int}{cs:List Pr}{bs:List Int}(ht:iL σ h 2 lo hi b cs bs)(hl:cs.length<=4095):h<=11:=by
 have h1:=ht.pow
 rcases iW 11 h with h2|h2
 ·have:2^12<=2^h:=mU (by omega) h2
  omega
 ·exact h2
theorem Ae.has {σ:dF}{root:Int}{cs:List Pr}{bs:List Int}(h:Ae σ root cs bs):∀x∈bs,σ.hasB x=true:=by
 rcases h with ⟨_,_,rfl⟩|⟨h,ht⟩
 ·simp
 ·exact ht.has
theorem Ae.count {σ:dF}{root:Int}{cs:List Pr}{bs:List Int}(h:Ae σ root cs bs):bs.length<=2*cs.length:=by
 rcases h with ⟨_,_,rfl⟩|⟨h,ht⟩
 ·simp
 ·exact ht.R6
theorem Ae.keep {σ σ':dF}{us bs':List Int}(hc:lM σ σ' us bs'){root:Int}{cs:List Pr}{bs:List Int}(h:Ae σ root cs bs)(hd:∀x∈bs,x∉us\/False):Ae σ' root cs bs:=by
 rcases h with h|⟨h,ht⟩
 ·exact .inl h
 ·exact .inr ⟨h,ht.move fun x hx=>hc.frame x (ht.has x hx) (hd x hx)⟩
theorem Ae.look {σ:dF}{root:Int}{cs:List Pr}{bs:List Int}(h:Ae σ root cs bs)(hl:cs.length<=4095)(key:ByteArray):∃n,n<=40/\Look σ key n root (eT cs key):=by
 rcases h with ⟨rfl,rfl,_⟩|⟨h,ht⟩
 ·exact⟨0,by omega,.nil⟩
 ·exact⟨h,by have:=ht.low hl;omega,ht.look ⟨by cases hq:lt key ⟨#[]⟩ with|false=>rfl|true=>(simp[lt,toList_eq] at hq;cases hb:key.data.toList<;>simp[hb,Op.bytesLess] at hq),fun y hy=>by cases hy⟩⟩
theorem Gi (k:ByteArray):lt k ⟨#[]⟩=false:=by
 cases hq:lt k ⟨#[]⟩ with
 |false=>rfl
 |true=>(simp[lt,toList_eq] at hq;cases hb:k.data.toList<;>simp[hb,Op.bytesLess] at hq)
def zC (σ:dF)(bs:List Int)(cs:List Pr)(n:Nat)(σ':dF)(b:Int):Prop:=∃bs',Ae σ' b cs bs'/\lM σ σ' bs bs'/\Pk σ σ' bs n/\(cs.length<=299->xu σ σ' 65)
theorem Kb {σ:dF}{root:Int}{cs:List Pr}{bs:List Int}(hT:Ae σ root cs bs)(hn:bs.Nodup)(hl:cs.length<=4090)(t:Nat)(mp:VS)(S:Nat->Prop)(key:ByteArray)(hks:key.size<=128)(g:Nat)(cb:Array Value)(F:List Pr->List Pr)(vs:List (Nat×ByteArray))(hent:∀args w,(callFunc g args).run Tryz.prog w= .ok (.enter g args) w)(hf:Ch g cb F vs)(hF:J5 F key)
  (W:World) (h:Inv σ S mp W) (ht:dA W t mp root 0) (hst:¬S t) (hbx:vg W S vs):EG t mp root key g cb σ S (¬Room σ bs (cs.length+1)) (zC σ bs (F cs) (cs.length+1)) W:=by
 have hFl:=hF.len cs
 rcases hT with ⟨rfl,rfl,rfl⟩|⟨h',hT⟩
 ·have ok:Nd.Ok ⟨F [],[],[]⟩:=⟨fun p hp=>by
   rcases hF.mem _ tX p hp with h|h
   ·cases h
   ·exact h.2,by simp,by simp,rfl,by simp,by simp at hFl;show (F []).length<=2000;omega,by simp⟩
  simp only[aJ] at hFl
  refine(Mf t mp 0 0 0 σ S key ⟨#[]⟩ g cb F vs hent hf W h ht hst hbx ok).mono ?_
  rintro e w1 (⟨v,ps,zs,σ',S',rfl,p2,p3,p4,p5,p6⟩|⟨hno,hg⟩)
  rotate_left
  ·refine .inr ⟨fun hR=> ?_,hg⟩
   unfold Room at hR;simp[nh] at hR;unfold Nd.room at hno;simp only[iw] at hno;omega
  obtain⟨m,bs',q1,q2⟩:=Ai p3 (lo:=⟨#[]⟩) (hi:=none) (h:=0) (cs:=F []) (bs:=[]) ok ⟨rfl,rfl,hF.rise _ tX,fun p hp=>⟨Gi _,fun y hy=>by cases hy⟩,rfl⟩ p4 h.Mr pQ (by simp) hks (by unfold Nd.room;simp only[iw];omega)
  refine .inl ⟨v,S',rfl,p6,?_⟩
  have ht1:=ht.step hst p6
  refine(GL t mp 0 0 σ' v ps 0 m (F []) bs' _ S' w1 p5 ht1.1 ht1.2 p2.dI q1 (q2.nd pQ) (by simpa using hFl) (ps.length - 1) (aG _)).mono ?_
  rintro e2 w2 (⟨b,σ2,S2,bs2,rfl,r1,r2,⟨rk,rt⟩,r3,r4⟩|⟨hno,hg⟩)
  rotate_left
  ·exact .inr ⟨fun hR=>hno (q2.room hR),hg.after (Step.refl _ _) q2.H q2.most⟩
  exact .inl ⟨b,σ2,S2,rfl,r3,r4,bs2,r1,q2.trans r2,Pk.trans (fun L r t=>xM p3 ok p4 (by unfold kL at r;simp[nh] at r;unfold Nd.room;simp only[iw];omega) t) q2 rk,fun _=>(p4.SL.trans rt).more (by
   have e1:=p4.length.1
   have e2:=p3.small (by
    have f1:=hF.size []
    have f2:d9 []=0:=rfl
    have f3:Nd.size ⟨F [],[],[]⟩=2+d9 (F []):=by simp[Nd.size,eF]
    omega)
   omega)⟩
 ·have hh:=hT.low (by omega)
  refine(GX t mp root 0 key g cb F vs hent hf hF hks h' σ S root 0 ⟨#[]⟩ ⟨#[]⟩ none cs bs W h ht hst hbx hT hn ⟨Gi _,fun y hy=>by cases hy⟩ (by omega) (by omega) (aX _)).mono ?_
  rintro e w1 (⟨v,ps,σ',S',bs',m,rfl,p2,q1,q2,⟨qk,Wn,qt,qb⟩,p5,p6⟩|hg)
  rotate_left
  ·exact .inr hg
  refine .inl ⟨v,S',rfl,p6,?_⟩
  have ht1:=ht.step hst p6
  refine(GL t mp root 0 σ' v ps h' m (F cs) bs' _ S' w1 p5 ht1.1 ht1.2 p2.dI q1 (q2.nd hn) hFl (ps.length - 1) (aG _)).mono ?_
  rintro e2 w2 (⟨b,σ2,S2,bs2,rfl,r1,r2,⟨rk,rt⟩,r3,r4⟩|⟨hno,hg⟩)
  rotate_left
  ·exact .inr ⟨fun hR=>hno (q2.room hR),hg.after (Step.refl _ _) q2.H q2.most⟩
  exact .inl ⟨b,σ2,S2,rfl,r3,r4,bs2,r1,q2.trans r2,qk.trans q2 rk,fun hc=>(qt.trans rt).more (Rm qb hc)⟩
def Sq (key value:ByteArray):Prop:=(1<=key.size/\key.size<=128)/\value.size<=64
theorem LD (kb vb:Nat)(key value:ByteArray):Ch 113 #[.pointer (some ⟨kb,0,none⟩),.pointer (some ⟨vb,0,none⟩)] (fun ps=>mI ps key value) [(kb,key),(vb,value)]:=by
 intro nb B nd S w hsub hbx hn hr hl
 exact LH kb vb nb B key value nd S w hsub (hbx (kb,key) (by simp)).1 (hbx (vb,value) (by simp)).1 (hbx (kb,key) (by simp)).2 (hbx (vb,value) (by simp)).2 hn hr hl
theorem EQ (kb:Nat)(key:ByteArray):Ch 120 #[.pointer (some ⟨kb,0,none⟩)] (fun ps=>nu ps key) [(kb,key)]:=by
 intro nb B nd S w hsub hbx hn hr hl
 exact ER kb nb B key nd S w (hbx (kb,key) (by simp)).1 hn hr (by omega)
theorem F4 (t:Nat)(mp:VS)(root:Int)(σ:dF)(S:Nat->Prop)(cs:List Pr)(bs:List Int)(key value:ByteArray)(w:World)(h:Inv σ S mp w)(ht:dA w t mp root 0)(hst:¬S t)(hT:Ae σ root cs bs)(hn:bs.Nodup)(hl:cs.length<=4090)(hg:Sq key value):
  Calls Tryz.prog 66 #[.pointer (some ⟨t,0,none⟩),.string key,.string value] w fun e w'=>(e= .returned (.int .i64 0)/\yE t mp S (zC σ bs (mI cs key value) (cs.length+1)) w w')\/(e= .returned (.int .i64 12)/\uY t mp root σ S (¬Room σ bs (cs.length+1)) w w'):=by
 refine Qb t mp root σ S _ _ key value w h.sub ht hst hg.1.1 hg.1.2 hg.2 fun W kb vb hbW hbx=> ?_
 exact Kb hT hn hl t mp S key hg.1.2 _ _ (fun ps=>mI ps key value) [(kb,key),(vb,value)] (fun _ _=>by kernel_rfl) (LD kb vb key value) (Gy key value hg.1.2 hg.2) W (h.below hbW) ((hbW.block t (aj.1 ht).1).trans ht) hst hbx
theorem DT {cs:List Pr}{key:ByteArray}(h:eT cs key=none):nu cs key=cs:=by
 unfold nu
 split
 ·rename_i hat
  obtain⟨hp,_⟩:=oV hat
  unfold eT at h
  rw[if_pos hat,aW hp] at h
  cases h
 ·rfl
theorem He (t:Nat)(mp:VS)(root:Int)(σ:dF)(S:Nat->Prop)(cs:List Pr)(bs:List Int)(key:ByteArray)(w:World)(h:Inv σ S mp w)(ht:dA w t mp root 0)(hst:¬S t)(hT:Ae σ root cs bs)(hn:bs.Nodup)(hl:cs.length<=4090)(hg:1<=key.size/\key.size<=128):
  Calls Tryz.prog 71 #[.pointer (some ⟨t,0,none⟩),.string key] w fun e w'=>(e= .returned (.tuple #[.bool (eT cs key).isSome,.int .i64 0])/\yE t mp S (zC σ bs (nu cs key) (cs.length+1)) w w')\/(e= .returned (.tuple #[.bool false,.int .i64 12])/\uY t mp root σ S (¬Room σ bs (cs.length+1)) w w'):=by
 obtain⟨n,hn40,hlk⟩:=hT.look (by omega) key
 cases hx:eT cs key with
 |none=>
  rw[hx] at hlk
  refine(zQ t mp root σ S key w h ht hg.1 hg.2 n hn40 hlk).mono ?_
  rintro e w' ⟨rfl,hb⟩
  rw[DT hx]
  exact .inl ⟨rfl,σ,S,root,h.below hb,(hb.block t (aj.1 ht).1).trans ht,hst,⟨bs,hT,lM.refl hT.has,Pk.refl _ _ _,fun _=>(xu.refl _).more (aX _)⟩,Keep.of_below hb _,fun g hg=> .inl hg⟩
 |some x=>
  rw[hx] at hlk
  refine JN t mp root σ S _ _ key x w h ht hst hg.1 hg.2 n hn40 hlk fun W kb hbW hbx=> ?_
  exact Kb hT hn hl t mp S key hg.2 _ _ (fun ps=>nu ps key) [(kb,key)] (fun _ _=>by kernel_rfl) (EQ kb key) (OI key) W (h.below hbW) ((hbW.block t (aj.1 ht).1).trans ht) hst hbx
theorem BD (t:Nat)(mp:VS)(root:Int)(σ:dF)(S:Nat->Prop)(cs:List Pr)(bs:List Int)(key:ByteArray)(w:World)(h:Inv σ S mp w)(ht:dA w t mp root 0)(hT:Ae σ root cs bs)(hl:cs.length<=4090)(hg:1<=key.size/\key.size<=128):
  Calls Tryz.prog 100 #[.pointer (some ⟨t,0,none⟩),.string key] w fun e w'=>e= .returned (.tuple #[.string ((eT cs key).getD ⟨#[]⟩),.bool (eT cs key).isSome,.int .i64 0])/\Below w.heap.size w w':=by
 obtain⟨n,hn40,hlk⟩:=hT.look (by omega) key
 exact EK t mp root σ S key _ w h ht hg.1 hg.2 n hn40 hlk
theorem LA (t:Nat)(mp:VS)(root:Int)(σ:dF)(S:Nat->Prop)(cs:List Pr)(bs:List Int)(key:ByteArray)(most:Int)(w:World)(h:Inv σ S mp w)(ht:dA w t mp root 0)(hT:Ae σ root cs bs)(hl:cs.length<=4090):
  Calls Tryz.prog 122 #[.pointer (some ⟨t,0,none⟩),.string key,.int .i64 most] w fun e w'=>∃v,e= .returned (.tuple #[v,.int .i64 0])/\aT w' S w.heap.size 130 2 v ((cs.drop (dN cs key)).take most.toNat).length (dK ((cs.drop (dN cs key)).take most.toNat))/\Below w.heap.size w w':=by
 by_cases hm:most<=0
 ·refine(Dc t mp root key most w ht (.inr hm)).mono ?_
  rintro e w' ⟨rfl,hb⟩
  refine⟨_,rfl,?_,hb⟩
  rw[show most.toNat=0 from by omega,gW]
  exact aT.nil _ _ _ _ _
 ·rcases hT with ⟨rfl,rfl,_⟩|⟨h',hT⟩
  ·refine(Dc t mp 0 key most w ht (.inl rfl)).mono ?_
   rintro e w' ⟨rfl,hb⟩
   refine⟨_,rfl,?_,hb⟩
   rw[List.drop_nil,List.take_nil]
   exact aT.nil _ _ _ _ _
  ·exact NA t mp root σ S key most _ h' w h ht (by have:=hT.top;omega) (by omega) (by have:=hT.low (by omega);omega) hT.walk (by simp only[aR];omega)
def Fo (σ:dF)(h:Nat):List Int->List Int->Prop
 |[],bs=>bs=[]
 |b::L,bs=>∃lo hi c x bs',iL σ h 2 lo hi b c x/\Fo σ h L bs'/\bs=x++bs'
inductive BL (σ:dF):Nat->List Int->List Int->Prop
 |done:BL σ 0 [] []
 |step {n:Nat} {L:List Int} {nds:List Nd} {T:List Int}:L≠[]->nds.length=L.length->(∀i (h1:i<L.length) (h2:i<nds.length),Cq σ L[i] nds[i])->BL σ n (nds.flatMap (·.kids)) T->BL σ (n+1) L (L++T)
def xE (T:List Int):List Int:=T.mergeSort fun x y=>decide (x<=y)
theorem xD (T:List Int):(xE T).length=T.length:=List.length_mergeSort _
theorem FJ {T:List Int}(x:Int):x∈xE T↔x∈T:=(yI T _).mem_iff
theorem Nv (v:Value)(T:List Int)(w:World)(S:Nat->Prop)(B:Nat)(h:aT w S B 3 1 v T.length (T.map (.int .i64)))(hl:T.length<=100000)(hB:B<=w.heap.size):
  Calls Tryz.prog 134 #[v] w fun e w'=>e= .returned (.tuple #[])/\aT w' S B 3 1 v (xE T).length ((xE T).map (.int .i64))/\Below B w w':=by
 obtain⟨⟨hxl,hr⟩,hn⟩:=h
 rcases hr with ⟨rfl,h0⟩|⟨g,cap,cur,rfl,hb,hg,h1,h2,h3,h4⟩
 ·refine(Any.slices_Sort_int_none xG none 0 w).mono ?_
  rintro e w' ⟨rfl,rfl⟩
  have hT:T=[]:=bf h0
  subst hT
  refine⟨rfl,?_,aO _ _⟩
  have:xE []=[]:=bf (xD [])
  rw[this]
  exact aT.nil _ _ _ _ _
 ·have hH:Go.Sort.Holds (Value.int .i64) w g 0 T.toArray:=holds_of_blockI hg (by rw[<-h4,bg])
  refine(Any.slices_Sort_int xG g 0 cap T w hH (aj.1 hg).1 (by omega)).mono ?_
  rintro e w' ⟨rfl,n,os,rfl⟩
  have hgb:=grownBy_sortedI (w:=w) (g:=g) (n:=n) (os:=os) (xE T).toArray
  refine⟨rfl,⟨?_,hn⟩,⟨hgb.os,hgb.tape,hgb.output,hgb.size,fun k hk=>hgb.block k (ax hk hB) (fun e=>by have:=iB e;omega)⟩⟩
  have:=ownsRow_sortedI (w:=w) (base:=B) (n:=n) (os:=os) (ts:=xE T) (xD T) hb hg h1 h2 h3
  rw[xD]
  exact this
end Go.Proofs.YtpgdljlghiifjaaGreatDoor
