--
import Derived.Test.YtogbkgmlhhahdaaGreatT21
import Derived.Sort.OwnSortedInts
set_option maxRecDepth 100000
set_option maxHeartbeats 0
set_option linter.all false
namespace Go.Proofs.YtogbkgmlhhahdaaGreat
open Go.RowKit
variable{k l:ByteArray}{M R:List (ByteArray×Int)}{T b bs d e g:List Int}{c cs f:List Pr}{a h i n:Nat}{S:Nat->Prop}{wr:World}
def zh (σ σ':cK)(W:Nat):Prop:=σ'.sz<=σ.sz+W/\∀L,σ.sz+W<=L->σ.tk<=L->σ'.tk<=L
def zh.refl (a:cK):zh a a 0:=⟨aD _,fun _ _ t=>t⟩
def zh.trans {e c d:cK}{b:Nat}(h:zh e c a)(k:zh c d b):zh e d (a+b):=
 ⟨by have:=h.1;have:=k.1;omega,fun L r t=>k.2 L (by have:=h.1;omega) (h.2 L (by omega) t)⟩
def zh.more {d c:cK}{b:Nat}(h:zh d c a)(e:a<=b):zh d c b:=
 ⟨by have:=h.1;omega,fun L r t=>h.2 L (by omega) t⟩
def Puts.VW {c a:cK}{b:List Pc}{d:List (ByteArray×Nd)}(h:Puts c b d a):zh c a b.length:=by
 obtain⟨e,g,_,_,f⟩:=h.length;exact⟨by omega,fun L r t=>by omega⟩
def xX.small {b:Nd}{c:List (ByteArray×Nd)}(h:xX b l c)(f:b.size<=512):c.length<=1:=by
 cases h with
 |none=>simp
 |one=>simp
 |leaf i e d a=>omega
 |inner i e d a=>omega
def IW (a:List Pr)(i:Nat):eG (a.take i)+eG (a.drop i)=eG a:=by rw[<-lG,bJ]
def uP (a:List ByteArray)(i:Nat):eP (a.take i)+eP (a.drop i)=eP a:=by rw[<-kz,bJ]
def IV (a:List Pr){j:Nat}(h:i<=j):eG (a.take i)<=eG (a.take j):=by
 have:=kR (a.take j) i;rwa [dz,bK h] at this
def xY.parts {a:List Pr}(j:∀p∈a,p.1.size<=128/\p.2.size<=64)(q:1<=i)(s:i<a.length)(h:xY ⟨a,[],[]⟩ i)(m:Nd.size ⟨a,[],[]⟩<=706):
  Nd.size ⟨a.drop i,[],[]⟩<=512/\eG (a.take (i - 1))<=353/\Nd.size ⟨a.take i,[],[]⟩<=550:=by
 obtain⟨g,b⟩:=h;have e:∀d:List Pr,Nd.size ⟨d,[],[]⟩=2+eG d:=fun d=>by simp[Nd.size,eP]
 rw[e] at m g b;rw[e,e];have n:=IW a i;have l:=qx a (i - 1) (by omega);rw[show i - 1+1=i by omega] at l;have o:=j _ (bF (show i - 1<a.length by omega));have f:eG (a.take (i - 1))<=353:=by
  by_cases k:1<i
  ·have:=g k;simp only at this;omega
  ·rw[show i - 1=0 by omega];simp[eG]
 refine⟨?_,f,by omega⟩;rcases b with b|b
 ·have r:(a.drop i).length<=1:=by simp only at b;rw[aO];omega
  have:=vW (a.drop i) (fun p c=>j p (cZ c));omega
 ·simp only at b;omega
def xX.Wj {f:Nd}{y:List (ByteArray×Nd)}(h:xX f l y)(d:f.kids=[])(g:f.keys=[])(r:∀p∈f.pairs,p.1.size<=128/\p.2.size<=64)(E:f.size<=706):y.length<=3:=by
 obtain⟨j,K,J⟩:=f;simp only at d g r;subst d g;cases h with
 |none=>simp
 |one=>simp
 |inner i v d=>exact absurd rfl d
 |leaf i v d B C I x H=>
  obtain⟨a,b,c⟩:=xY.parts r C v I E;have N:=H.small a;have F:∀{A:List (ByteArray×Nd)},xX ⟨j.take i,[],[]⟩ l A->A.length<=2:=by
   intro A x;have e:∀p∈j.take i,p.1.size<=128/\p.2.size<=64:=fun p e=>r p (eT e)
   cases x with
   |none=>simp
   |one=>simp
   |inner i v d=>exact absurd rfl d
   |leaf n k z D o t s q=>
    obtain⟨G,_,_⟩:=xY.parts e o k t (by omega);have O:=q.small G;have m:n<(j.take i).length:=k;rw[aH] at m;have M:=s.small (by
     show Nd.size ⟨(j.take i).take n,[],[]⟩<=512
     rw[dz,bK (by omega)]
     have:=IV j (show n<=i - 1 by omega)
     simp[Nd.size,eP];omega)
    rw[ay];omega
  have:=F x;rw[ay];omega
def Lh (K:Nat):Nat:=if K<=4 then 0 else if K<=8 then 1 else if K<=16 then 2 else if K<=32 then 3 else if K<=64 then 4 else if K<=128 then 5 else if K<=256 then 6 else if K<=512 then 7 else K
def wZ (n:Nat):(n<=4/\Lh n=0)\/(4<n/\n<=8/\Lh n=1)\/(8<n/\n<=16/\Lh n=2)\/(16<n/\n<=32/\Lh n=3)\/(32<n/\n<=64/\Lh n=4)\/(64<n/\n<=128/\Lh n=5)\/(128<n/\n<=256/\Lh n=6)\/(256<n/\n<=512/\Lh n=7)\/(512<n/\Lh n=n):=by
 unfold Lh
 by_cases g:n<=4
 ·exact .inl ⟨g,if_pos g⟩
 rw[if_neg g]
 by_cases e:n<=8
 ·exact .inr (.inl ⟨by omega,e,if_pos e⟩)
 rw[if_neg e]
 by_cases b:n<=16
 ·exact .inr (.inr (.inl ⟨by omega,b,if_pos b⟩))
 rw[if_neg b]
 by_cases i:n<=32
 ·exact .inr (.inr (.inr (.inl ⟨by omega,i,if_pos i⟩)))
 rw[if_neg i]
 by_cases c:n<=64
 ·exact .inr (.inr (.inr (.inr (.inl ⟨by omega,c,if_pos c⟩))))
 rw[if_neg c]
 by_cases f:n<=128
 ·exact .inr (.inr (.inr (.inr (.inr (.inl ⟨by omega,f,if_pos f⟩)))))
 rw[if_neg f]
 by_cases a:n<=256
 ·exact .inr (.inr (.inr (.inr (.inr (.inr (.inl ⟨by omega,a,if_pos a⟩))))))
 rw[if_neg a]
 by_cases d:n<=512
 ·exact .inr (.inr (.inr (.inr (.inr (.inr (.inr (.inl ⟨by omega,d,if_pos d⟩)))))))
 rw[if_neg d];exact .inr (.inr (.inr (.inr (.inr (.inr (.inr (.inr (⟨by omega,rfl⟩))))))))
def T9 {b:Nat}(h:a<=b):Lh a<=Lh b:=by
 have d:=wZ a;have c:=wZ b;omega
def Nv {K:Nat}(h:5<=K)(b:2*a<=K+1):Lh a+1<=Lh K:=by
 have d:=wZ a;have c:=wZ K;omega
def xX.Ve {c:Nd}{v:List (ByteArray×Nd)}(h:xX c l v):c.Ok->c.kids≠[]->v.length<=1+(c.size - 1)/512*Lh c.kids.length:=by
 induction h with
 |none E=>intro _ d;exact absurd E d
 |one=>intro _ _;simp
 |leaf i y d=>intro _ q;exact absurd d q
 |@inner c l i y A B d I C X Y r s=>
  intro k _;have x:=(k.big I).2 d;have M:c.kids.take i≠[]:=fun e=>by have:=congrArg List.length e;simp only[aH,bV] at this;omega
  have O:c.kids.drop i≠[]:=fun e=>by have:=congrArg List.length e;simp only[aO,bV] at this;omega
  have a:=r (k.Fv i (by omega)) M;have b:=s (k.AJ i) O;have G:=k.one d;have W:Nd.size ⟨[],c.keys.take (i - 1),c.kids.take i⟩=2+eP (c.keys.take (i - 1))+2*i:=by
   simp only[Nd.size,eG,iH,List.sum_nil,aH];omega
  have R:Nd.size ⟨[],c.keys.drop i,c.kids.drop i⟩=2+eP (c.keys.drop i)+2*(c.kids.length - i):=by
   simp only[Nd.size,eG,iH,List.sum_nil,aO];omega
  have T:c.size=2+eP c.keys+2*c.kids.length:=by
   unfold Nd.size;rw[G];simp[eG]
  have H:=uN c.keys (i - 1) y;rw[show i - 1+1=i by omega] at H;have P:=uP c.keys i;have t:(c.kids.take i).length=i:=by rw[aH];omega
  have p:(c.kids.drop i).length=c.kids.length - i:=aO;simp only[t] at a;simp only[p] at b;have J:=Nv (a:=i) x (by omega);have N:=Nv (a:=c.kids.length - i) x (by omega);obtain⟨n,f⟩:=nx ((Nd.size ⟨[],c.keys.take (i - 1),c.kids.take i⟩ - 1)/512);obtain⟨j,g⟩:=nx ((Nd.size ⟨[],c.keys.drop i,c.kids.drop i⟩ - 1)/512);obtain⟨m,z⟩:=nx ((c.size - 1)/512);have o:n+j<=m:=by rw[f,g,z];omega
  have F:1<=m:=by omega
  rw[<-f] at a;rw[<-g] at b;rw[<-z];generalize Lh c.kids.length=K at J N ⊢;have S:n*Lh i<=n*(K - 1):=oL _ (by omega);have Q:j*Lh (c.kids.length - i)<=j*(K - 1):=oL _ (by omega);have D:(n+j)*(K - 1)<=m*(K - 1):=bZ _ o;rw[fq] at D;have V:m*K=m*(K - 1)+m:=by rw[<-Nat.mul_succ];congr 1;omega
  rw[ay];omega
def TT (x K:Nat):Nat:=min ((511+131*x)/512*Lh K) (K/2 - 1)
def Nu {x x' K K':Nat}(d:x<=x')(b:K<=K'):TT x K<=TT x' K':=by
 unfold TT;have a:(511+131*x)/512<=(511+131*x')/512:=NE (by omega);have c:=Nat.mul_le_mul a (T9 b);omega
def xX.tt {d:Nd}{g:List (ByteArray×Nd)}(h:xX d l g)(f:d.Ok)(e:d.kids≠[]){x K:Nat}(j:d.size<=512+131*x)(i:d.kids.length<=K):g.length<=1+TT x K:=by
 refine aK ?_ (Nat.add_le_add_left (Nu (aD x) i) 1);have a:=h.Ve f e;have b:=h.room f;have c:(d.size - 1)/512*Lh d.kids.length<=(511+131*x)/512*Lh d.kids.length:=bZ _ (NE (by omega));unfold Nd.room at b;rw[f.one e,if_neg e] at b;simp only[bV] at b;unfold TT;omega
def cA (l:Nat):Nat:=[0,594,519,132,24].getD l 0
def cB (l:Nat):Nat:=[0,3,1,38].getD l 24
def cX (h:Nat):Nat:=[2,7,12,20,24,20,14,8,4].getD h 2
def Wb (h W q c:Nat):Prop:=c<=299->24*W+cA (h+1)+cB (h+1)*(q - 1)<=672+3*c/\q - 1<=cX h
def SI {q:Nat}(h:q<=3)(c:Nat):Wb 0 q q c:=fun _=>by
 show 24*q+594+3*(q - 1)<=672+3*c/\q - 1<=2
 omega
def Uq:Bool:=(List.range 9).all fun h=>(List.range (cX h+1)).all fun x=>(List.range (299/2^h+1)).all fun k=>
 decide (24*(2+TT x (k+1+x))+cA (h+2)+cB (h+2)*TT x (k+1+x)<=cA (h+1)+cB (h+1)*x+3*(k*2^h)\/k=0) && decide (TT x (k+1+x)<=cX (h+1)\/k=0)
def WB (j:Nat):Nat:=[2,4,8,16,32,64,128,256].getD j 512
def Uo:Bool:=(List.range 8).all fun h=>(List.range (299/2^(h+1)+1)).all fun k=>(List.range 8).all fun j=>
 decide (299<k*2^(h+1)+WB j*2^h)||(decide (24*(2+j+TT j (k+2+j))+cA (h+3)+cB (h+3)*TT j (k+2+j)<=cA (h+2)+3*(k*2^(h+1)+WB j*2^h)) && decide (TT j (k+2+j)<=cX (h+2)))
def RL:Uq=true:=by decide+kernel
def RI:Uo=true:=by decide+kernel
def IY {k:Nat}(a:1<=k)(d:k*2^h<=299):h<9:=by
 apply gm;intro e;have c:2^9<=2^h:=yH (by omega) (by omega);have b:1*2^h<=k*2^h:=bZ _ a;omega
def RN {x k:Nat}(j:x<=cX h)(i:2<=k)(c:(k - 1)*2^h<=299):
  24*(2+TT x (k+x))+cA (h+2)+cB (h+2)*TT x (k+x)<=cA (h+1)+cB (h+1)*x+3*((k - 1)*2^h)/\TT x (k+x)<=cX (h+1):=by
 have f:=IY (show 1<=k - 1 by omega) c;have d:k - 1<299/2^h+1:=Nat.lt_succ_of_le ((Nat.le_div_iff_mul_le (Nat.two_pow_pos h)).2 c);have a:=RL;unfold Uq at a;have g:=oZ.1 a h (ng.2 f);have e:=oZ.1 g x (ng.2 (by omega));have b:=oZ.1 e (k - 1) (ng.2 d);rw[dG,eB,eB,show k - 1+1=k by omega] at b;exact⟨b.1.resolve_right (by omega),b.2.resolve_right (by omega)⟩
def Va (f:2<=a)(e:a<=299):TT 1 (a+1)<8/\WB (TT 1 (a+1))<=a:=by
 have h:=wZ (a+1);have c:TT 1 (a+1)<=Lh (a+1):=by unfold TT;omega
 have b:TT 1 (a+1)<8:=by omega
 refine⟨b,?_⟩;generalize TT 1 (a+1)=j at c b ⊢;generalize Lh (a+1)=l at h c;have d:j=0\/j=1\/j=2\/j=3\/j=4\/j=5\/j=6\/j=7:=by omega
 rcases d with rfl|rfl|rfl|rfl|rfl|rfl|rfl|rfl
 ·show 2<=a;omega
 ·show 4<=a;omega
 ·show 8<=a;omega
 ·show 16<=a;omega
 ·show 32<=a;omega
 ·show 64<=a;omega
 ·show 128<=a;omega
 ·show 256<=a;omega
def RJ {k c:Nat}(f:2<=c)(r:2<=k)(y:(k - 2)*2^(h+1)+c*2^h<=299):
  24*(2+TT 1 (c+1)+TT (TT 1 (c+1)) (k+TT 1 (c+1)))+cA (h+3)+cB (h+3)*TT (TT 1 (c+1)) (k+TT 1 (c+1))<=cA (h+2)+3*((k - 2)*2^(h+1)+c*2^h)/\TT (TT 1 (c+1)) (k+TT 1 (c+1))<=cX (h+2):=by
 have p:=Nat.two_pow_pos h;have e:c<=299:=by
  have:c*1<=c*2^h:=oL _ p;omega
 have q:h<8:=by
  apply gm;intro v;have s:2^8<=2^h:=yH (by omega) (by omega);have t:2*2^h<=c*2^h:=bZ _ f;omega
 obtain⟨i,l⟩:=Va f e;generalize TT 1 (c+1)=j at i l ⊢;have x:WB j*2^h<=c*2^h:=bZ _ l;have m:k - 2<299/2^(h+1)+1:=Nat.lt_succ_of_le ((Nat.le_div_iff_mul_le (Nat.two_pow_pos (h+1))).2 (by omega));have d:=RI;unfold Uo at d;have n:=oZ.1 d h (ng.2 q);have o:=oZ.1 n (k - 2) (ng.2 m);have g:=oZ.1 o j (ng.2 i);rw[tO,dG,eB,eB,eB,show k - 2+2=k by omega] at g;obtain⟨a,b⟩:=g.resolve_left (by omega);exact⟨by omega,b⟩
def P6 {W q c C k J:Nat}(i:Wb h W q c)(f:2<=k)(e:c+(k - 1)*2^h<=C)(o:a<=1+TT (q - 1) (k+(q - 1)))(s:J<=1):Wb (h+1) (W+J+a) a C:=by
 intro j;obtain⟨m,g⟩:=i (by omega);obtain⟨b,v⟩:=RN g f (by omega);have l:a - 1<=TT (q - 1) (k+(q - 1)):=by omega
 have d:=oL (cB (h+2)) l;refine⟨?_,by omega⟩;show 24*(W+J+a)+cA (h+2)+cB (h+2)*(a - 1)<=_;generalize cB (h+1)*(q - 1)=r at m b;generalize cB (h+2)*(a - 1)=n at d ⊢;generalize cB (h+2)*TT (q - 1) (k+(q - 1))=t at b d;generalize (k - 1)*2^h=p at e b;omega
def SK {W c C k d b:Nat}(n:Wb (h+1) W 1 c)(m:2<=k)(g:2<=a)(f:c+((k - 2)*2^(h+1)+a*2^h)<=C)(z:b<=1+TT 1 (a+1))(s:d<=1+TT (b - 1) (k+(b - 1))):Wb (h+2) (W+b+d) d C:=by
 intro e;obtain⟨l,t⟩:=n (aK (aK (Nat.le_add_right _ _) f) e);obtain⟨j,y⟩:=RJ g m (aK (aK (Nat.le_add_left _ c) f) e);have o:d - 1<=TT (TT 1 (a+1)) (k+TT 1 (a+1)):=by
  have:=Nu (x:=b - 1) (x':=TT 1 (a+1)) (K:=k+(b - 1)) (K':=k+TT 1 (a+1)) (by omega) (by omega);omega
 have i:=oL (cB (h+3)) o;refine⟨?_,by omega⟩;show 24*(W+b+d)+cA (h+3)+cB (h+3)*(d - 1)<=_;have p:24*W+cA (h+2)<=672+3*c:=by
  have:cB (h+2)*(1 - 1)=0:=Nat.mul_zero _;have l:24*W+cA (h+2)+cB (h+2)*(1 - 1)<=672+3*c:=l;omega
 generalize cB (h+3)*(d - 1)=q at i ⊢;generalize cB (h+3)*TT (TT 1 (a+1)) (k+TT 1 (a+1))=v at j i;generalize (k - 2)*2^(h+1)+a*2^h=r at f j;omega
def UI {W q c:Nat}(b:Wb h W q c)(d:c<=299):W+(q - 1)<=65:=by
 obtain⟨e,a⟩:=b d;have f:24*(q - 1)<=cA (h+1)+cB (h+1)*(q - 1):=by
  match h with
  |0=>have:q - 1<=2:=a;show 24*(q - 1)<=594+3*(q - 1);omega
  |1=>have:q - 1<=7:=a;show 24*(q - 1)<=519+1*(q - 1);omega
  |2=>have:q - 1<=12:=a;show 24*(q - 1)<=132+38*(q - 1);omega
  |h+3=>
   have:cB (h+3+1)=24:=by
    unfold cB;rw[eu,iE (by simp)];rfl
   rw[this];omega
 omega
def Jp (a:List ByteArray):eP (a.drop 1)<=eP a - 1:=by
 cases a with
 |nil=>exact aS _
 |cons k a=>rw[lu,gy,dQ];omega
def GI (x:ByteArray)(a:List Pc)(b:∀p∈a,p.2.size<=128):eP (mI x a)<=1+x.size+129*(a.length - 1):=by
 cases a with
 |nil=>exact aS _
 |cons p r=>
  show eP (x::r.map (·.2))<=_;rw[lu];have:=uO (r.map (·.2)) (fun k c=>by
   obtain⟨q,d,rfl⟩:=fw.1 c
   exact b q (aX _ d))
  rw[jX] at this;simp only[bn,BN];omega
def Nd.E8 {nd:Nd}{ps:List Pc}(o:i<nd.kids.length)(j:nd.keys.length=nd.kids.length - 1)(c:∀p∈ps,p.2.size<=128):(nd.rG i ps).size<=nd.size+131*(ps.length - 1)/\(nd.rG i ps).kids.length+1=nd.kids.length+ps.length:=by
 have k:(iw nd).length=nd.kids.length:=by unfold iw;rw[bn];omega
 have a:i<(iw nd).length:=by omega
 have l:=uP (iw nd) i;have n:eP ((iw nd).drop i)=1+((iw nd)[i]).size+eP ((iw nd).drop (i+1)):=by rw[cu a,lu]
 have b:(iw nd).getD i ⟨#[]⟩=(iw nd)[i]:=by rw[eu,bD a];rfl
 have m:eP (iw nd)=1+eP nd.keys:=by
  unfold iw;rw[lu];rfl
 have e:=GI ((iw nd).getD i ⟨#[]⟩) ps c;rw[b] at e;have f:=Jp ((iw nd).take i++mI ((iw nd).getD i ⟨#[]⟩) ps++(iw nd).drop (i+1));rw[kz,kz,b] at f;have d:(nd.rG i ps).kids.length+1=nd.kids.length+ps.length:=by
  unfold Nd.rG;simp only[ay,aH,aO,jX];omega
 refine⟨?_,d⟩;have g:(nd.rG i ps).size=2+eG nd.pairs+eP (((iw nd).take i++mI ((iw nd)[i]) ps++(iw nd).drop (i+1)).drop 1)+2*(nd.rG i ps).kids.length:=by
  rw[<-b];rfl
 rw[g];unfold Nd.size;rw[b] at*;omega
def Nd.Rw {nd:Nd}{j:Nat}(f:j+1<nd.kids.length)(d:nd.keys.length=nd.kids.length - 1):(nd.lC j).size<=nd.size/\(nd.lC j).kids.length+1=nd.kids.length/\(nd.lC j).keys.length=(nd.lC j).kids.length - 1:=by
 have e:=uP nd.keys j;have g:eP (nd.keys.drop j)=1+(nd.keys[j]'(by omega)).size+eP (nd.keys.drop (j+1)):=by rw[cu (by omega),lu]
 have a:(nd.lC j).kids.length+1=nd.kids.length:=by
  unfold Nd.lC;simp only[ay,aH,aO];omega
 have b:(nd.lC j).keys.length=(nd.lC j).kids.length - 1:=by
  unfold Nd.lC;simp only[ay,aH,aO];omega
 refine⟨?_,a,b⟩;have c:(nd.lC j).size=2+eG nd.pairs+eP (nd.keys.take j++nd.keys.drop (j+1))+2*(nd.lC j).kids.length:=rfl;rw[c,kz];unfold Nd.size;omega
def dW.low {T:ByteArray->Option ByteArray->Int->List Pr->List Int->Prop}{m:Nat}(d:∀k z b c x,T k z b c x->m<=c.length){p:Option ByteArray}:∀{l:List (ByteArray×Int)} {f:List Pr} {i:List Int},dW T p l f i->l.length*m<=f.length
 |[],_,_,⟨e,n⟩=>by subst e n;simp
 |(k,b)::l,_,_,h=>by
  obtain⟨c,o,x,q,j,g,rfl,rfl⟩:=h
  have a:=d _ _ _ _ _ j
  have b:=dW.low d g
  rw[bn,fq,kE,ay]
  omega
def jA.pw {q:cK}:∀{h:Nat} {e:ByteArray} {p:Option ByteArray} {b:Int} {d:List Pr} {o:List Int},jA q h 2 e p b d o->2^h<=d.length
 |0,_,_,_,_,_,⟨_,_,_,_,_,l,_,_,_⟩=>dD.2 l
 |h+1,e,_,_,_,_,⟨c,j,_,i,f,g,_,k⟩=>by
  have a:=dW.low (m:=2^h) (fun _ _ _ _ _ n=>jA.pw n) k
  rw[c.nH i f] at a
  have b:2*2^h<=c.kids.length*2^h:=bZ _ g
  rw[Ar]
  omega
def wF (a:cK)(b:Int):zh a (a.gone b) 0:=by
 have d:(a.gone b).sz<=a.sz:=oP _ (fun x _ c=>by
  have c:(iB a.now b.toNat false x||a.H.old x)=true:=c
  show (a.now x||a.H.old x)=true
  rw[tO] at c ⊢
  refine c.imp (fun h=> ?_) id
  unfold iB at h
  split at h
  ·cases h
  ·exact h)
 exact⟨by omega,fun L _ t=>t⟩
def Cm.size {a:cK}{i:VS}{w:World}(f:Inv a S i w){b:Int}{e:Nd}(h:Cm a b e):e.size<=512:=by
 obtain⟨n,rfl,j,_⟩:=cK.kT h.has;obtain⟨c,d⟩:=h.mem;have g:=f.ok.len n j;have d:a.H.pg.look a.im a.H.dk n=e.enc++c:=by
  have:a.mem (n:Int)=a.H.pg.look a.im a.H.dk n:=rfl;rw[<-this];exact d
 rw[d,ay,Nd.DW] at g;omega
def JB (nd nd':Nd)(h z c W:Nat):Prop:=
 (W<=1/\nd'.kids.length<=nd.kids.length/\nd'.size<=nd.size)\/
 ∃hh kb,h=hh+1/\2<=kb/\z+((nd.kids.length - 2)*2^h+kb*2^hh)<=c/\2<=nd.kids.length/\W<=1+TT 1 (kb+1)/\nd'.kids.length+2=nd.kids.length+W/\nd'.size<=nd.size+131*(W - 1)
def OJ {A B:Nd}(b:A.Ok)(a:B.Ok)(d:A.kids≠[])(o:B.kids≠[])(p:k.size<=128)(i:A.size<=512)(l:B.size<=512)(c:A.kids.length=1\/B.kids.length=1):(eX A B k).size<=512+131*1:=by
 have f:=b.one d;have g:=a.one o;have m:(eX A B k).size=2+eG (A.pairs++B.pairs)+eP (A.keys++[k]++B.keys)+2*(A.kids++B.kids).length:=by
  unfold eX;rw[if_neg d];rfl
 rw[m,f,g,kz,kz,ay];have e:eG ([]++[])=0:=rfl;have n:eP [k]=1+k.size:=by simp[eP]
 rw[e,n];unfold Nd.size at i l;have q:=b.kk;have r:=a.kk;rcases c with c|c
 ·have:A.keys=[]:=aY (by omega)
  rw[this];have j:eP []=0:=rfl;omega
 ·have:B.keys=[]:=aY (by omega)
  rw[this];have j:eP []=0:=rfl;omega
def Wl {O:cK}{z:Nat}{hi:Option ByteArray}{j:Nat}{L:List (ByteArray×Int)}{k1:ByteArray}{Z:Int}{c:ByteArray}{b2:Int}{cl ca cb cm:List Pr}{bl xa xb bm:List Int}{N T:Nat}{A B:Nd}{nd:Nd}{ps:List Pc}{zs:List (ByteArray×Nd)}
  (f:Ms O h hi R j cs bs L k1 Z c b2 M cl ca cb cm bl (Z::xa) (b2::xb) bm N T z) (q:A.Ok) (n:B.Ok) (S:qO O h k1 (some c) A ca xa) (I:qO O h c (jZ M hi) B cb xb) (kA:Kids h N A) (kB:Kids h T B) (C:c.size<=128) (sA:A.size<=512) (sB:B.size<=512) (s:(eX A B c).Ok)
  (b:xX (eX A B c) ⟨#[]⟩ zs) (hl:ps.length=zs.length) (o:∀p∈ps,p.2.size<=128) (y:¬(512<(eX A B c).size/\A.kids.length≠1/\B.kids.length≠1)) (hR:R.length=nd.kids.length) (x:nd.keys.length=nd.kids.length - 1):
  JB nd ((nd.lC j).rG j ps) h z cs.length ps.length:=by
 have r:=congrArg List.length f.row;simp only[ay,bn] at r;have X:=f.len;obtain⟨d1,d2,d3⟩:=Nd.Rw (nd:=nd) (j:=j) (by omega) x;obtain⟨r1,r2⟩:=Nd.E8 (nd:=nd.lC j) (i:=j) (ps:=ps) (by omega) d3 o;rcases gH 512 (eX A B c).size with D|D
 ·have V:A.kids.length=1\/B.kids.length=1:=by
   apply gm;intro hn;exact y ⟨D,fun e=>hn (.inl e),fun e=>hn (.inr e)⟩
  cases h with
  |zero=>
   obtain⟨a1,_⟩:=S;obtain⟨J,_⟩:=I;rw[a1,J] at V;simp at V
  |succ a=>
   have E:=S.1;have hB:=I.1;have G:=dW.low (m:=2^a) (fun _ _ _ _ _ d=>jA.pw d) S.2;have H:=dW.low (m:=2^a) (fun _ _ _ _ _ d=>jA.pw d) I.2;rw[A.nH q E] at G;rw[B.nH n hB] at H;have l1:=dW.low (m:=2^(a+1)) (fun _ _ _ _ _ d=>jA.pw d) f.l;have l2:=dW.low (m:=2^(a+1)) (fun _ _ _ _ _ d=>jA.pw d) f.m;have W:nd.kids.length - 2=L.length+M.length:=(by omega);have F:=congrArg List.length f.cs;simp only[ay] at F;have g:=OJ q n E hB C sA sB V;have l:(eX A B c).kids.length=A.kids.length+B.kids.length:=(by unfold eX;rw[ay]);have k:(eX A B c).kids≠[]:=fun e=>by
    have:=dD.2 E;rw[e] at l;simp at l;omega
   have t:(nd.kids.length - 2)*2^(a+1)<=cl.length+cm.length:=(by rw[W,fq];omega);have p9:N<=A.kids.length:=kA.resolve_left (by omega);have pM:T<=B.kids.length:=kB.resolve_left (by omega);rcases f.m12 with ⟨Y,e2⟩|⟨Y,e2,e3⟩|⟨Y,e2,e3⟩
   ·omega
   ·have v:A.kids.length=1:=by omega
    have d:=b.tt s k g (K:=B.kids.length+1) (by omega);exact .inr ⟨a,B.kids.length,rfl,by omega,by revert t H;generalize (nd.kids.length - 2)*2^(a+1)=P;generalize B.kids.length*2^a=Q;intro t H;omega,by omega,by omega,by omega,by omega⟩
   ·have v:B.kids.length=1:=by omega
    have d:=b.tt s k g (K:=A.kids.length+1) (by omega);exact .inr ⟨a,A.kids.length,rfl,by omega,by revert t G;generalize (nd.kids.length - 2)*2^(a+1)=P;generalize A.kids.length*2^a=Q;intro t G;omega,by omega,by omega,by omega,by omega⟩
 ·have:=b.small D
  exact .inl ⟨by omega,by omega,by omega⟩
def lK (L:Nat)(σ:cK)(bs:List Int)(n:Nat):Prop:=σ.sz+2*n<=L+nh σ bs
def mW.CV {L:Nat}{d a:cK}{c:List Int}(h:mW d a b c)(r:lK L d b n):lK L a c n:=by
 have:=h.size;unfold lK at*;rw[vC h.H];omega
def Pk (σ σ':cK)(bs:List Int)(n:Nat):Prop:=∀L,lK L σ bs n->σ.tk<=L->σ'.tk<=L
def Pk.refl (a:cK)(b:List Int)(n:Nat):Pk a a b n:=fun _ _ t=>t
def Pk.trans {f c d:cK}(a:Pk f c e n)(h:mW f c e g)(b:Pk c d g n):Pk f d e n:=fun L r t=>b L (h.CV r) (a L r t)
def zG {b:Nd}{d:List (ByteArray×Nd)}(i:xX b l d)(g:b.Ok){c a:cK}{f:List Pc}(e:Puts c f d a){L:Nat}(m:c.sz+b.room<=L)(t:c.tk<=L):a.tk<=L:=by
 have j:=i.room g;obtain⟨_,n,_,_,k⟩:=e.length;omega
def Sj (mp:VS)(σ:cK)(S:Nat->Prop)(h:Nat)(lo:ByteArray)(hi:Option ByteArray)(cs:List Pr)(bs:List Int)(n:Nat)(w:World)(e:Ending)(w':World):Prop:=
 (∃v ps σ' S' bs' m,e= .returned v/\aT w' S' w.heap.size 253 2 v ps.length (mq ps)/\Wx σ' h m lo hi ps cs bs'/\mW σ σ' bs bs'/\(Pk σ σ' bs n/\∃W,zh σ σ' W/\Wb h W ps.length cs.length)/\Inv σ' S' mp w'/\Step S S' w w')\/(¬Room σ bs n/\Em mp σ S w e w')
def Ht (t:Nat)(mp:VS)(root err:Int)(key:ByteArray)(g:Nat)(cb:Array Value)(F:List Pr->List Pr)(vs:List (Nat×ByteArray))(h:Nat):Prop:=
 ∀(σ:cK) (S:Nat->Prop) (b deep:Int) (least lo:ByteArray) (hi:Option ByteArray) (cs:List Pr) (bs:List Int) (w:World),Inv σ S mp w->dw w t mp root err->¬S t->xh w S vs->jA σ h 2 lo hi b cs bs->bs.Nodup->Within lo hi key->deep+h<=40->0<=deep->least.size<=128->
  Calls Tryz.prog 111 #[.pointer (some ⟨t,0,none⟩),.int .i64 b,.int .i64 deep,.string key,.string least,.func (.func g) #[] cb] w (Sj mp σ S h lo hi (F cs) bs (cs.length+1) w)
def Ce {f:Nd}{y:List (ByteArray×Nd)}(k:xX f l y){n g:cK}{p:List Pc}{lo:ByteArray}{hi:Option ByteArray}(j:f.Ok)(t:qO n h lo hi f cs bs)(i:Puts n p y g)(A:SE n)(C:bs.Nodup)(z:∀x∈bs,n.hasB x=true)(G:l.size<=128)(o:f.room<=900):
  ∃m a,Wx g h m lo hi p cs a/\mW n g bs a:=by
 have c:p.length<=900:=by
  have I:=k.room j;have B:=i.length.1;omega
 have b:=i.keys (k.keys j G)
 by_cases e:h=0\/2<=f.kids.length
 ·obtain⟨a,r,v⟩:=yM k (m:=2) j t i A (aD 2) (by rcases e with e|e;exact .inl e;exact .inr e) C z
  exact⟨2,a,⟨r,b,c,by omega,by omega,.inl rfl⟩,v⟩
 ·obtain⟨H,rfl⟩:∃d,h=d+1:=⟨h - 1,by omega⟩
  have q:=t.1;have D:=dD.2 q;obtain⟨a,r,v⟩:=yM k (m:=1) j t i A (by omega) (.inr (by omega)) C z;refine⟨1,a,⟨r,b,c,by omega,by omega,.inr ?_⟩,v⟩;have B:=i.length.1;have F:f.size<=512:=by
   rcases gH 512 f.size with s|s
   ·have:=(j.big s).2 q;omega
   ·exact s
  cases k with
  |none E _=>exact absurd E q
  |one _ _=>simpa using B
  |leaf _ _ _ e=>omega
  |inner _ _ _ e=>omega
def TJ (t:Nat)(P:VS)(i n:Int)(j:ByteArray)(g:Nat)(G:Array Value)(F:List Pr->List Pr)(D:List (Nat×ByteArray))(o:∀f w,(callFunc g f).run Tryz.prog w= .ok (.enter g f) w)(hf:En g G F D)(q:Mv F j):Ht t P i n j g G F D 0:=by
 intro O S b s k lo hi cs bs w h W C E hT hn hw hd pM hl;obtain⟨c,y,R,h3,Z,h5,A,h7,h8⟩:=hT;subst Z h8;have N:=q.len c.pairs;have Y:=y.fits.np;have z:Nd.Ok ⟨F c.pairs,[],[]⟩:=⟨fun p H=>by
  rcases q.mem _ A p H with h|h
  ·exact R.pr p h
  ·exact h.2,by simp,by simp,rfl,by simp,by show (F c.pairs).length<=2000;omega,by simp⟩
 have d:=D8 h y.has;refine(OU t P i n b s O S j k c g G F D o hf w h W C E y h3 (by omega) A z).mono ?_;rintro e w' (⟨v,M,zs,I,S',rfl,T,B,x,Q,V⟩|⟨l,X⟩);rotate_left
 ·refine .inr ⟨fun hR=> ?_,X.after (Step.refl S w) rfl rfl⟩
  have a:=d.room hR;unfold Room at a;simp[nh] at a;unfold Nd.room at l;simp only[iX] at l;omega
 have K:=d.O7 h.O7;obtain⟨m,J,q1,q2⟩:=Ce B (lo:=lo) (hi:=hi) (h:=0) (cs:=F c.pairs) (bs:=[]) z ⟨rfl,rfl,q.rise _ A,fun p H=>by
  rcases q.mem _ A p H with h|h
  ·exact h7 p h
  ·rw[h.1];exact hw,rfl⟩ x K qR (by simp) hl (by unfold Nd.room;simp only[iX];omega)
 refine .inl ⟨v,M,I,S',J,m,rfl,T,q1,d.trans q2,⟨fun L r t=>zG B z x ?_ t,M.length,?_,SI ?_ _⟩,Q,V⟩
 ·have a:=d.CV r
  unfold lK at a;simp[nh] at a;unfold Nd.room;simp only[iX];omega
 ·exact((wF O b).trans x.VW).more (by omega)
 ·rw[x.length.1]
  have sz:=y.size h;have e1:=q.size c.pairs;have e2:Nd.size ⟨F c.pairs,[],[]⟩=2+eG (F c.pairs):=by simp[Nd.size,eP]
  have e3:2+eG c.pairs<=c.size:=by unfold Nd.size;omega
  exact B.Wj rfl rfl z.pr (by omega)
structure WR (σ:cK)(h:Nat)(lo:ByteArray)(hi:Option ByteArray)(b:Int)(cs:List Pr)(bs:List Int)(key:ByteArray)(nd:Nd)(L:List (ByteArray×Int))(k:ByteArray)(kb:Int)(M:List (ByteArray×Int))(cl c cm:List Pr)(bl x bm:List Int):Prop where
 blk:Cm σ b nd
 ok:nd.Ok
 kids:2<=nd.kids.length
 row:mM nd lo (L++(k,kb)::M)
 l:dW (jA σ h 2) (some k) L cl bl
 t:jA σ h 2 k (jZ M hi) kb c x
 m:dW (jA σ h 2) hi M cm bm
 cs:cs=cl++(c++cm)
 bs:bs=b::(bl++(x++bm))
 at_:L.length=jk nd.keys key
 w:Within k (jZ M hi) key
 rise:wW nd.keys
 lo1:∀k1 b1 M',M=(k1,b1)::M'->lt k1 lo=false
def TK {N:cK}{a:ByteArray}{C:Option ByteArray}{b:Int}{I:List Pr}{H:List Int}{key:ByteArray}(p:jA N (h+1) 2 a C b I H)(J:Within a C key):
  ∃n L k E M D c s q x A,WR N h a C b I H key n L k E M D c s q x A:=by
 obtain⟨n,pM,T,j,B,S,V,g⟩:=p;have d:=rowOf j B a;have F:=jA.rising j B g;obtain⟨t,l,e,X,e3⟩:=qm j.kk B a;have Q:n.row a=(a,t)::l:=e;obtain⟨L,k,E,M,v,q2,W,Y⟩:=E5 (b:=t) (r:=l) (key:=key) J.1;rw[Q] at d g;rw[v] at d g;have f:=dW.U8 (fun k z b c x p=>jA.content p) (by rw[<-v] at g;exact g);obtain⟨D,cr,q,br,O,⟨c,s,x,A,R,Z,rfl,rfl⟩,rfl,rfl⟩:=g.split;refine⟨n,L,k,E,M,D,c,s,q,x,A,T,j,S,d,O,R,Z,rfl,V,by rw[q2,X],⟨W,fun y K=> ?_⟩,F,fun o G M' P=> ?_⟩
 ·cases M with
  |nil=>exact J.2 y K
  |cons m M=>obtain⟨o,G⟩:=m;cases K;exact Y _ _ _ rfl
 ·subst P
  have i:(o,G)∈(a,t)::l:=by rw[v];simp
  rcases bO.1 i with h|h
  ·cases h;exact lt_irrefl _
  ·exact lt_asymm ((fU.1 f).1 o (kM h))
def Vf {o:cK}{D:ByteArray}{B:Option ByteArray}{b:Int}{m:List Pr}{t:List Int}{e:ByteArray}{v:Nd}{L:List (ByteArray×Int)}{C:Int}{d j:List Pr}{x A:List Int}(f:WR o h D B b m t e v L k C M d c j g x A){F:List Pr->List Pr}(y:Mv F e):F m=d++(F c++j):=by
 rw[f.cs,<-aM,y.loc d c j,aM]
 ·intro p a
  have:∀{l:List (ByteArray×Int)} {d:List Pr} {g:List Int},dW (jA o h 2) (some k) l d g->∀p∈d,lt p.1 k=true:=by
   intro l d g n p a;cases l with
   |nil=>obtain⟨rfl,_⟩:=n;cases a
   |cons q l=>
    have:=dW.content (fun k z b c x i=>jA.content i) n;exact(this.within p a).2 k rfl
  exact Du (this f.l p a) f.w.1
 ·intro p a
  have r:=f.m;cases M with
  |nil=>obtain⟨rfl,_⟩:=r;cases a
  |cons q M=>
   obtain⟨s,E⟩:=q;have:=dW.content (fun k z b c x i=>jA.content i) r;exact Du (f.w.2 s rfl) (this.within p a).1
def Di {Lr:Nat}{i a:cK}{t:Option ByteArray}{o e:ByteArray}{A B:Nd}{L:List (ByteArray×Int)}{x q r p:List Pr}{k j m l:List Int}(f:A.Ok)(d:B.Ok)(D:dW (jA i h 2) (some o) L x k)(F:dW (jA i h 2) t M p l)(c:qO i h o (some e) A q j)(g:qO i h e (jZ M t) B r m)(s:lK Lr a (k++((j++m)++l)) n)(E:(x++(q++(r++p))).length<=n):
  a.sz+(eX A B e).room<=Lr:=by
 have N:=dW.count (fun _ _ _ _ _ b=>jA.count b (aD 2)) D;have J:=dW.count (fun _ _ _ _ _ b=>jA.count b (aD 2)) F;have I:=sQ a k;have v:=sQ a (j++m);have O:=sQ a l;unfold lK at s;rw[pY,pY] at s;simp only[ay] at E v;cases h with
 |zero=>
  obtain⟨G,rfl,_,_,rfl⟩:=c;obtain⟨y,rfl,_,_,rfl⟩:=g;have:(eX A B e).room=A.pairs.length+B.pairs.length:=by simp[Nd.room,eX,G,y]
  rw[this];simp only[bV] at v;omega
 |succ h=>
  have C:=dW.count (fun _ _ _ _ _ b=>jA.count b (aD 2)) c.2;have z:=dW.count (fun _ _ _ _ _ b=>jA.count b (aD 2)) g.2;rw[A.nH f c.1] at C;rw[B.nH d g.1] at z;have K:=dD.2 c.1;have H:=dD.2 g.1;have:(eX A B e).room<=A.kids.length+B.kids.length:=by
   simp[Nd.room,eX,f.one c.1,d.one g.1,c.1];omega
  omega
def Rh (t:Nat)(mp:VS)(O q9:Int)(p:cK)(S:Nat->Prop)(nb:Nat)(P:Nd)(i:Nat)(s:Int)(h z:Nat)(hi:Option ByteArray)(lo:ByteArray)(R:List (ByteArray×Int))(cs:List Pr)(F:List Int)(n:Nat)(w:World)(hI:Inv p S mp w)(I:dw w t mp O q9)(di:¬S t)(hn:gN w S nb P)(J:P.Ok)(hR:mM P lo R)(hM:Mid p h hi z R i cs F)(K:F.Nodup)(hd:s<=40)(qo:cs.length<=n)(hl:R.length<=1160):
  Calls Tryz.prog 154 #[.pointer (some ⟨t,0,none⟩),.pointer (some ⟨nb,0,none⟩),.int .i64 i,.int .i64 s] w fun e w'=>(e= .returned (.tuple #[])/\∃d S' q R' qc,Inv d S' mp w'/\gN w' S' nb q/\mM q lo R'/\dW (jA d h 2) hi R' cs qc/\mW p d F qc/\(Pk p d F n/\∃W,zh p d W/\JB P q h z cs.length W)/\q.Ok/\q.kids.length<=1700/\Keep (fun g=>S g\/g=nb) w w'/\∀g,S' g->S g\/w.heap.size<=g)\/(¬Room p F n/\Em mp p S w e w'):=by
 have f:=hR.len;have G:∀x∈F,p.hasB x=true:=by
  cases hM with
  |two hr=>exact fun x E=>dW.has (fun _ _ _ _ _ I=>jA.has I) hr x E
  |one q1 q2 q3 _=>
   intro x E;simp only[bU] at E;rcases E with E|E|E
   ·exact dW.has (fun _ _ _ _ _ I=>jA.has I) q1 x E
   ·exact q2.has x E
   ·exact dW.has (fun _ _ _ _ _ I=>jA.has I) q3 x E
 by_cases hs:R.length<2\/R.length<=i
 ·refine(OI t nb P i s w S hn (by omega)).mono ?_
  rintro e w' ⟨rfl,rfl⟩;exact .inl ⟨rfl,p,S,P,R,F,hI,hn,hR,hM.skip hs,mW.refl G,⟨Pk.refl _ _ _,0,zh.refl _,.inl ⟨by omega,aD _,aD _⟩⟩,J,by omega,Keep.refl _ _,fun g hg=> .inl hg⟩
 ·obtain⟨L,k1,l,Q,D,M,cl,ca,cb,cm,bl,xa,xb,bm,m1,m2,b⟩:=hM.pair (by omega)
  rw[<-f.1] at b;have ql:=hR;rw[b.row] at ql;obtain⟨dR,d1,d2,d3⟩:=JO ql;have X:=b.len;rw[X] at dR d1 d2 d3;obtain⟨A,j,bA,C,nA,kA,na,rfl⟩:=uI.1 b.a;obtain⟨B,o,bB,y,Y,kB,pM,rfl⟩:=uI.1 b.b;have V:Q.size<=128:=J.ky Q (NG d1);obtain⟨nJ,p9,lJ,fo⟩:=Fz C y nA Y na pM V bA.fits bB.fits;have qb:=b.bs;have q8:l≠D:=by
   rintro rfl;rw[qb] at K;have h1:=(eD.1 K).2.1;exact(eD.1 h1).2.2 l (by simp) l (by simp) rfl
  obtain⟨Z,dn⟩:=O9 hI bA.has bB.has q8;have dZ:=Z.O7 hI.O7;have c:F.Perm ([l,D]++(bl++((j++o)++bm))):=by
   rw[qb];have e1:(l::j++(D::o++bm)).Perm ([l,D]++((j++o)++bm)):=by
    show (l::(j++D::(o++bm))).Perm (l::D::((j++o)++bm));refine List.Perm.cons _ ?_;rw[aM];exact List.perm_middle
   exact(qj bl e1).trans (List.perm_append_comm_assoc _ _ _)
  have c1:=Z.left (c.nodup_iff.1 K) (fun x E=>G x (c.mem_iff.2 (bY _ E)));have bN:=fun (a:Room p F n)=>Di (Lr:=((p.gone l).gone D).most) C y b.l b.m nA Y ((c1.perm c.symm (jH _)).room a) (by rw[<-b.cs];exact qo)
  have af:∀L,lK L p F n->((p.gone l).gone D).sz+(eX A B Q).room<=L:=fun L a=>Di C y b.l b.m nA Y ((c1.perm c.symm (jH _)).CV a) (by rw[<-b.cs];exact qo)
  refine(Ri t mp O q9 p S nb P A B Q i (min i (P.kids.length - 2)) s l D w hI I di hn (by omega) (by omega) rfl d2 d3 d1 (J.one (by intro e;rw[e] at f;simp at f;omega)) J.kk bA bB dn p9 hd (by omega)).mono ?_;rintro e w' (⟨rfl,d,S',q,aA,bC,aB,bH,av⟩|⟨T,hg⟩);rotate_left
  ·exact .inr ⟨fun a=>absurd (bN a) (gG.2 T),hg⟩
  refine .inl ⟨rfl,d,S',q,?_⟩;rcases av with ⟨s1,s2,s3,rfl,rfl⟩|⟨ps,zs,H,v,rfl,T⟩
  ·refine⟨R,F,aA,bC,hR,?_,mW.refl G,⟨Pk.refl _ _ _,0,zh.refl _,.inl ⟨by omega,aD _,aD _⟩⟩,J,by omega,aB,bH⟩
   rw[b.row,b.cs,b.bs];have tA:jA d h 2 k1 (some Q) l ca (l::j):=uI.2 ⟨A,j,bA,C,nA,by
    cases h with
    |zero=>exact .inl rfl
    |succ h=>exact .inr (by have:=dD.2 nA.1;omega),na,rfl⟩
   have tB:jA d h 2 Q (jZ M hi) D cb (D::o):=uI.2 ⟨B,o,bB,y,Y,by
    cases h with
    |zero=>exact .inl rfl
    |succ h=>exact .inr (by have:=dD.2 Y.1;omega),pM,rfl⟩
   exact dW.append (m:=(k1,l)::(Q,D)::M) ⟨ca,_,_,_,tA,⟨cb,_,_,_,tB,b.m,rfl,rfl⟩,rfl,rfl⟩ b.l
  ·obtain⟨xs,q1,q2,q3,q4,q5⟩:=Rf b C y bA.fits bB.fits nA Y kA kB na pM V Z dZ H v K
   have N:=yN (ps:=ps) (by rw[<-X] at*;exact dR) (.inr q3);rw[X] at N;have dx:(L++lY k1 ps++M).length<=1700:=by
    have:=congrArg List.length b.row;simp only[ay,bn,zH] at this ⊢;omega
   refine⟨_,_,aA,bC,N,q1,q2,⟨fun L r t=>zG H p9 v (af L r) t,ps.length,?_,Wl b C y nA Y kA kB V (bA.size hI) (bB.size hI) p9 H v.length.1 q4 T (by omega) J.kk⟩,?_,by rw[N.len.1];exact dx,aB,bH⟩
   ·have:=((wF p l).trans (wF _ D)).trans v.VW
    exact this.more (by omega)
   refine N.ok ?_ ?_ (dW.Ik (fun _ _ _ _ _ I=>I.top) q1) (by omega)
   ·exact J.one (by intro e;rw[e] at f;simp at f;omega)
   ·exact E9 (fun k hk=>by
     rcases bU.1 hk with hk|hk
     ·exact J.ky k (eT hk)
     ·exact J.ky k (cZ hk)) q4
def Mid.Ik {m:cK}{z:Nat}{l:Option ByteArray}(c:Mid m h l z R i f d):∀p∈R,1<=p.2/\p.2<=4096:=by
 cases c with
 |two g=>exact dW.Ik (fun _ _ _ _ _ b=>b.top) g
 |one e k j _=>
  intro p a;rcases bU.1 a with a|a
  ·exact dW.Ik (fun _ _ _ _ _ b=>b.top) e p a
  ·rcases bO.1 a with rfl|a
   ·exact k.top
   ·exact dW.Ik (fun _ _ _ _ _ b=>b.top) j p a
def Step.Ug {b f:Nat->Prop}{w a k:World}{d:Nat}(h:Step S b w a)(n:Keep (fun g=>b g\/g=d) a k)(l:∀g,f g->b g\/a.heap.size<=g)(c:w.heap.size<=d):Step S f w k:=
 ⟨h.1.trans n (fun i j x=>x.elim (fun s=>(h.2 i s).elim id (fun y=>absurd j (bg.2 y))) (fun e=>absurd j (bg.2 (by rw[e];exact c)))),fun g m=>(l g m).elim (fun s=>h.2 g s) (fun y=> .inr (aK h.1.size y))⟩
def Fx {Lr:Nat}{i a:cK}{m:Option ByteArray}{L:List (ByteArray×Int)}{j:List Pr}{x:List Int}(l:dW (jA i h 2) (some k) L j d)(n:dW (jA i h 2) m M f e)(g:lK Lr a (d++(x++e)) ((j++(c++f)).length+1)):lK Lr a x (c.length+1):=by
 have q:=dW.count (fun _ _ _ _ _ b=>jA.count b (aD 2)) l;have p:=dW.count (fun _ _ _ _ _ b=>jA.count b (aD 2)) n;have o:=sQ a d;have r:=sQ a e;unfold lK at*;rw[pY,pY] at g;simp only[ay] at g;omega
def uL {Lr:Nat}{b:cK}{m:Option ByteArray}{q:ByteArray}{a:Nd}{c:List Int}(k:a.Ok)(p:mM a q R)(l:dW (jA b h 2) m R f c)(o:lK Lr b c n)(s:f.length<=n):b.sz+a.room<=Lr:=by
 have t:=dW.count (fun _ _ _ _ _ i=>jA.count i (aD 2)) l;have r:=sQ b c;have g:=p.len;have d:a.kids≠[]:=fun e=>by rw[e] at g;simp at g;omega
 have j:=k.one d;have:a.room<=a.kids.length:=by
  have:=dD.2 d;simp[Nd.room,j,d];omega
 unfold lK at o;omega
def Dr {a:Nd}{i:ByteArray}(f:a.Ok)(g:mM a i R):a.room<=a.kids.length:=by
 have c:=g.len;have b:a.kids≠[]:=fun e=>by rw[e] at c;simp at c;omega
 have d:=f.one b;have:=dD.2 b;simp[Nd.room,d,b];omega
theorem LV (t:Nat)(mp:VS)(n I:Int)(J:ByteArray)(g:Nat)(cb:Array Value)(F:List Pr->List Pr)(vs:List (Nat×ByteArray))(hF:Mv F J)(z8:J.size<=128)(h:Nat)(ih:Ht t mp n I J g cb F vs h):Ht t mp n I J g cb F vs (h+1):=by
 intro l S b Y dx lo hi cs bs w hI G qc xP hT hn hw hd hd0 hl;have dn:=hT.has;obtain⟨nd,L,k,kb,M,cl,c,cm,q,x,o,A⟩:=TK hT hw;have nH:=Vf A hF;have hb0:(b==0)=false:=by have:=A.blk.lo;simp;omega
 have P:=A.row.len;have rF:L.length+M.length+1=nd.kids.length:=by rw[P.1];simp;omega
 have V:nd.kids≠[]:=fun e=>by have:=A.kids;rw[e] at this;simp at this
 have yc:nd.kids.isEmpty=false:=by cases hq:nd.kids with|nil=>exact absurd hq V|cons a b=>rfl
 have hnk:=A.blk.fits.nk;have ql:=A.cs;have rV:=A.bs;subst rV;have cg:=D8 hI A.blk.has;have c0:mW l (l.gone b) (b::(q++(x++o))) (q++(x++o)):=cg.left (us:=[b]) (bs:=[]) (rs:=q++(x++o)) hn (fun y j=>dn y (aX _ j));have n0:=c0.nd hn;have R0:Room l (b::(q++(x++o))) (cs.length+1)->Room (l.gone b) (q++(x++o)) ((cl++(c++cm)).length+1):=fun d=>by
  have:=c0.room d;rwa [ql] at this
 have B:∀y∈q++(x++o),y∉[b]:=fun y j e=>(lV.1 hn).1 (by rw[<-bQ.1 e];exact j)
 have lg:∀y∈q++(x++o),(l.gone b).hasB y=true:=fun y j=>(c0.new y j).1
 have Rk:Room l (b::(q++(x++o))) (cs.length+1)->Room (l.gone b) x (c.length+1):=fun d=>Fx (Lr:=(l.gone b).most) A.l A.m (R0 d)
 have fB:∀Lr,lK Lr l (b::(q++(x++o))) (cs.length+1)->lK Lr (l.gone b) (q++(x++o)) ((cl++(c++cm)).length+1):=fun Lr d=>by
  have:=c0.CV d;rwa [ql] at this
 have o6:∀Lr,lK Lr l (b::(q++(x++o))) (cs.length+1)->lK Lr (l.gone b) x (c.length+1):=fun Lr d=>Fx A.l A.m (fB Lr d)
 have nS:=ah fB;clear fB;have o5:=ah o6;clear o6;have xV:=ah Rk;clear Rk;have T0:=A.t.keep cg (fun y j=>B y (by simp[j]));have l0:=A.l.keep cg (fun y j=>B y (by simp[j]));have m0:=A.m.keep cg (fun y j=>B y (by simp[j]));have rA:∀y,jZ M hi=some y->lt y k=false:=fun y j=>by
  have hc:=T0.content;rw[j] at hc;obtain⟨p,r,e⟩:=ni hc.ne;exact lt_asymm (hc.within p (by rw[e];simp)).Q8
 have yo:x.Nodup:=(eD.1 (eD.1 n0).2.1).1;have z:=ah A;clear A;have jb:=ah nH;clear nH;have HCS:=ah ql;clear ql;have sF:=ah R0;clear R0;have tY:=ah ih;clear ih;have zn:=ah rA;clear rA;have HB0:=ah B;clear B;have l6:=ah lg;clear lg;have HTC:=ah dn;clear dn hT;have o7:=ah rF;clear rF;have HLE:=ah P;clear P;have zX:t<w.heap.size:=(ai.1 G).1;have zP:kb=kb:=rfl;have bA:nd.kids[L.length]? =some kb:=by rw[z.out.row.2];simp
 obtain⟨fK,Q⟩:=dm.1 bA;clear bA zP;have nJ:=ah Q;clear Q;have hil':(L.length:Int)<(nd.kids.length:Int):=by omega
 have zW:nd.keys.length<=1000000:=by have:=z.out.ok.kk;omega
 have sP:=ah z.out.at_;go_enter Tryz.func111,Tryz.ntmps111;go_wp2_with (first|(go_at_call 152;go_must ((refine(Il t mp n I b Y l S nd w hI G qc z.out.blk (by omega)).mono ?_);rintro e w1 ⟨nb,rfl,pM,tQ,zm⟩))|(go_at_call 121;go_must ((refine(ku nb nd _ S pM.jO).mono ?_);rintro e w2 ⟨rfl,hw⟩;subst w2;rw[yc]))|(go_at_call 122;go_must ((refine(GH nb nd J _ S pM.jO z.out.rise zW).mono ?_);rw[<-sP.out];rintro e w2 ⟨rfl,di⟩;refine sO ?_)))
 refine sN ?_;have p9:Step S S w w2:=zm.trans (Step.of_below di);have j5:=pM.jO.below di;have y8:=tQ.below di;have dZ:=G.step qc p9;have ko:=xP.step p9;have aA:w.heap.size<=nb:=pM.2.1;obtain⟨hSb,v0,v1,v2,bN,N0,N1,N2⟩:=id j5;obtain⟨ao2,cp2,rfl,_,_,_,_⟩:=aZ.form N2;obtain⟨pb,po,rfl,d2⟩:=N2.at rfl L.length fK;rw[nJ.out] at d2;have r9:=aF w2 _ d2;obtain⟨_,_,y2,_,_,_,ly⟩:=cells3 bN;have kr:=tY.out (l.gone b) S kb (Y+1) J k (jZ M hi) c x w2 y8 dZ.1 qc ko T0 yo z.out.w (by omega) (by omega) z8;have zS:=ah kr;clear kr;go_wp2_with (first|(go_at_call 111;go_must (refine zS.out.mono ?_;rintro e w3 (⟨v,ps,bH,S1,x',m,rfl,oH,hP,bC,⟨aB,W1,mr,O⟩,lJ,bB⟩|⟨T,rfl,τ,W,g1,g2,g3,g4⟩)<;>refine sO ?_)))
 rotate_left
 ·refine sN ?_
  exact⟨rfl,.inr ⟨fun d=>T (xV.out d),rfl,τ,W,g1,p9.trans g2,g3,g4⟩⟩
 refine sN ?_;have vo:=j5.step bB;have hpl:=hP.len;have l5:=Br nb nd v ps L.length w3 S1 lJ.sub vo (z.out.ok.one V) oH.dx fK z.out.ok.kk (by omega) (by omega);have HRp:=ah l5;clear l5;clear y2 d2 r9;go_wp2_with (first|(go_at_call 153;go_must (refine HRp.out.mono ?_;rintro e w4 ⟨rfl,jO,fJ⟩;refine sO ?_)))
 refine sN ?_;have oO:¬S1 nb:=jO.1;have vO:=lJ.lQ fJ (fun g hg e=>oO (by rw[<-e];exact hg));have fA:=dZ.1.step dZ.2 bB;have nk:t≠nb:=fun e=>by rw[e] at zX;omega
 have ht4:dw w4 t mp n I:=(fJ.block t (ai.1 fA.1).1 nk).trans fA.1;have nA:Step S S1 w w4:=(p9.trans bB).Ug (fJ.mono (fun _ _ h=> .inr h)) (fun g hg=> .inl hg) aA;have X:=bC.mid (ls:=q) (rs:=o) (by rw[aM];exact n0) (fun y j=>l6.out y (by simp[j])) (fun y j=>l6.out y (by simp[j]));rw[aM,aM] at X;have yx:∀y∈q,y∉x:=fun y j hx=>(eD.1 n0).2.2 y j y (dh _ hx) rfl
 have y5:∀y∈o,y∉x:=fun y j hx=>(eD.1 (eD.1 n0).2.1).2.2 y hx y j rfl
 have fo:=ah (aC mr O);clear mr O;obtain⟨R,q8,N,yK⟩:=Mq z.out.row (l0.keep bC yx) (m0.keep bC y5) hP (by have:=HLE.out.1;have:=z.out.kids;omega) z.out.lo1 zn.out;have kg:R.length<=1160:=by have:=o7.out;omega
 obtain⟨zc,D⟩:∃zc,zc=if ps.length=1 then(F c).length else(cl++(F c++cm)).length+1:=⟨_,rfl⟩
 have af:=N zc (fun e=>by rw[D,if_pos e]);have zb:=ah D;clear D N;have rG:=Nd.E8 (nd:=nd) (i:=L.length) (ps:=ps) fK z.out.ok.kk hP.key;have xK:=ah rG;clear rG;have vz:(nd.rG L.length ps).Ok:=by
  exact q8.ok (z.out.ok.one V) (E9 z.out.ok.ky hP.key) af.Ik (by omega)
 have n1:=X.nd n0;have R1:=fun d=>X.room (sF.out d)
 have mK:∀Lr,lK Lr l (b::(q++(x++o))) (cs.length+1)->lK Lr bH (q++(x'++o)) ((cl++(c++cm)).length+1):=fun Lr d=>X.CV (nS.out Lr d)
 have av:=ah mK;clear mK;have lQ:=ah (show ∀Lr,lK Lr l (b::(q++(x++o))) (cs.length+1)->l.tk<=Lr->bH.tk<=Lr from fun Lr d t=>aB Lr (o5.out Lr d) t);clear aB;have lm:=ah R1;clear R1;have dR:(cl++(F c++cm)).length<=(cl++(c++cm)).length+1:=by
  have:=hF.len c;simp only[ay];omega
 have hJ:=Rh t mp n I bH S1 nb (nd.rG L.length ps) L.length (Y+1) h zc hi lo R (cl++(F c++cm)) (q++(x'++o)) _ w4 vO ht4 (fun x=>fA.2 x) jO vz q8 af n1 (by omega) dR kg;have HJ:=ah hJ;clear hJ;have HP:=ah hP;clear hP;have HRo:=ah q8;clear q8 yK;have HC:=ah (c0.trans X);go_wp2_with (first|(go_at_call 154;go_must (refine HJ.out.mono ?_;rintro e w5 (⟨rfl,qo,S2,n2,R2,rP,kT,vv,C,Z,H,⟨q9,W2,mo,lC⟩,s,hl2,y7,zf⟩|⟨T,rfl,τ,W,g1,g2,g3,g4⟩)<;>refine sO ?_)))
 rotate_left
 ·refine sN ?_
  exact⟨rfl,.inr ⟨fun d=>T (lm.out d),rfl,τ,W,g1,nA.trans g2,g3.trans HC.out.H,g4.trans HC.out.most⟩⟩
 refine sN ?_;have qb:Step S S2 w w5:=nA.Ug y7 zf aA;have jF:=ah (aC mo lC);clear mo lC;have jl:=G.step qc qb;have oo:=Dr s C;have l9:=fun d=>uL (Lr:=qo.most) s C Z (H.room (lm.out d)) dR
 have oK:=ah (show ∀Lr,lK Lr l (b::(q++(x++o))) (cs.length+1)->qo.sz+n2.room<=Lr from fun Lr d=>uL s C Z (H.CV (av.out Lr d)) dR);have iO:=ah (show ∀Lr,lK Lr l (b::(q++(x++o))) (cs.length+1)->l.tk<=Lr->qo.tk<=Lr from fun Lr d t=>q9 Lr (av.out Lr d) (lQ.out Lr d t));clear q9;have E:=ah C;have za:=ah oo;have vk:=ah l9;clear l9 oo C;go_wp2_with (first|(go_at_call 150;go_must ((refine(rE t mp n I _ qo S2 nb n2 dx w5 kT jl.1 jl.2 vv s (iL _)).mono ?_);rintro e w6 (⟨v6,j4,zs,rX,S3,rfl,p2,p3,p4,p5,p6⟩|⟨T,rfl,τ,W,g1,g2,g3,g4⟩)<;>refine sO ?_)))
 rotate_left
 ·refine sN ?_
  exact⟨rfl,.inr ⟨fun d=>absurd (vk.out d) (gG.2 T),rfl,τ,W,g1,qb.trans g2,g3.trans (H.H.trans HC.out.H),g4.trans (H.most.trans HC.out.most)⟩⟩
 refine sN ?_;go_wp2_with fail;go_ret;have f:n2.kids≠[]:=fun e=>E.out.ne (by have:=E.out.2;rw[e] at this;exact List.map_eq_nil_iff.1 this.symm)
 obtain⟨m3,zA,q1,q2⟩:=Ce p3 (lo:=lo) (hi:=hi) (h:=h+1) (cs:=cl++(F c++cm)) (bs:=rP) s ⟨f,by rw[E.out.row];exact Z⟩ p4 kT.O7 (H.nd n1) (dW.has (fun _ _ _ _ _ G=>G.has) Z) hl (by have:=za.out;have:=s.one f;simp[Nd.room,this,f];omega);refine .inl ⟨v6,j4,rX,S3,zA,m3,rfl,p2.base qb.1.size,?_,(HC.out.trans H).trans q2,⟨fun Lr d t=>zG p3 s p4 (oK.out Lr d) (iO.out Lr d t),W1+W2+j4.length,?_,?_⟩,p5,qb.trans p6⟩
 ·rw[jb.out]
  exact q1
 ·exact((((wF l b).trans fo.out.1).trans jF.out.1).trans p4.VW).more (by omega)
 ·rw[jb.out]
  have jv:=p4.length.1;have j6:=z.out.kids;have sz:=z.out.blk.size hI;obtain⟨r1,r2⟩:=xK.out;have hlm:=o7.out;rcases jF.out.2 with ⟨j1,j2,j3⟩|⟨hh,kb,rfl,xE,hz,_,j1,j2,j3⟩
  ·have G:=p3.tt s f (x:=ps.length - 1) (K:=nd.kids.length+(ps.length - 1)) (by omega) (by omega)
   have l1:=dW.low (m:=2^h) (fun _ _ _ _ _ G=>jA.pw G) z.out.l;have l2:=dW.low (m:=2^h) (fun _ _ _ _ _ G=>jA.pw G) z.out.m;have hm:(nd.kids.length - 1)*2^h<=cl.length+cm.length:=by
    rw[show nd.kids.length - 1=L.length+M.length by omega,fq];omega
   refine P6 fo.out.2 j6 ?_ (by rw[jv];exact G) j1;simp only[ay];omega
  ·have D:=zb.out
   by_cases hq:ps.length=1
   ·rw[if_pos hq] at D
    rw[D] at hz;have O:=fo.out.2;rw[hq] at O r1 r2;have G:=p3.tt s f (x:=W2 - 1) (K:=nd.kids.length+(W2 - 1)) (by omega) (by omega);have rJ:(nd.rG L.length ps).kids.length=nd.kids.length:=(by omega);rw[rJ] at hz;exact SK O j6 xE hz j1 (by rw[jv];exact G)
   ·rw[if_neg hq] at D
    omega
def JC (t:Nat)(k:VS)(a c:Int)(b:ByteArray)(g:Nat)(f:Array Value)(F:List Pr->List Pr)(j:List (Nat×ByteArray))(e:∀d w,(callFunc g d).run Tryz.prog w= .ok (.enter g d) w)(m:En g f F j)(l:Mv F b)(i:b.size<=128):∀h,Ht t k a c b g f F j h
 |0=>TJ t k a c b g f F j e m l
 |h+1=>LV t k a c b g f F j l i h (JC t k a c b g f F j e m l i h)
structure GN (w0:World)(S:Nat->Prop)(nb:Nat)(ks:List ByteArray)(ns:List Int)(v1 v2:Value)(wr:World):Prop where
 nU:Below w0.heap.size w0 wr
 lo:w0.heap.size<=nb
 node:wr.heap[nb]? =some (.cells #[.slice none 0 0,v1,v2] 165 (0,0))
 o1:aT wr S w0.heap.size 9 1 v1 ks.length (ks.map .string)
 o2:aT wr S w0.heap.size 3 1 v2 ns.length (ns.map (.int .i64))
def GN.lt {c:World}{f:List ByteArray}{d b:Value}(h:GN c S a f e d b wr):a<wr.heap.size:=(ai.1 h.node).1
def GN.below {e:World}{c:Nat}{i:List ByteArray}{f d:Value}{a:World}(h:GN e S c i g f d wr)(b:Below wr.heap.size wr a):GN e S c i g f d a:=
 ⟨h.nU.trans (b.mono h.nU.size),h.lo,(b.block c h.lt).trans h.node,h.o1.below b,h.o2.below b⟩
def GN.UZ {i:World}{k:List ByteArray}{s ns':List Int}{l r v2':Value}{b:World}(h:GN i S a k s l r wr)(n:Keep (fun g=>r.ownBlock=some g) wr b)(t:Below i.heap.size wr b)(q:aT b S i.heap.size 3 1 v2' ns'.length (ns'.map (.int .i64))):GN i S a k ns' l v2' (b.setCell ⟨a,2,none⟩ v2'):=by
 have m:b.heap[a]? =_:=(n.block a h.lt (h.o2.ne h.node (by decide))).trans h.node;have d:Keep (· =a) b (b.setCell ⟨a,2,none⟩ v2'):=Keep.setCell (M:=(· =a)) (p:=⟨a,2,none⟩) (Keep.refl _ _) (.inr rfl) _;have o:aT b S i.heap.size 9 1 l k.length (k.map .string):=h.o1.keep fun g c f j=>⟨n.block g f (fun e=>aT.Hz h.o1 h.o2 (by decide) g c e),j⟩
 refine⟨(h.nU.trans t).setCell (by exact h.lo) _,h.lo,by simp[World.setCell,aQ,m],o.keep fun g c f j=>⟨d.block g f (fun e=>o.ne m (by decide) (by rw[c,e])),j⟩,q.keep fun g c f j=>⟨d.block g f (fun e=>q.ne m (by decide) (by rw[c,e])),j⟩⟩
def GN.QJ {i:World}{s ks':List ByteArray}{k:List Int}{q l v1':Value}{b:World}(h:GN i S a s k q l wr)(o:Keep (fun g=>q.ownBlock=some g) wr b)(t:Below i.heap.size wr b)(r:aT b S i.heap.size 9 1 v1' ks'.length (ks'.map .string)):GN i S a ks' k v1' l (b.setCell ⟨a,1,none⟩ v1'):=by
 have m:b.heap[a]? =_:=(o.block a h.lt (h.o1.ne h.node (by decide))).trans h.node;have d:Keep (· =a) b (b.setCell ⟨a,1,none⟩ v1'):=Keep.setCell (M:=(· =a)) (p:=⟨a,1,none⟩) (Keep.refl _ _) (.inr rfl) _;have n:aT b S i.heap.size 3 1 l k.length (k.map (.int .i64)):=h.o2.keep fun g c f j=>⟨o.block g f (fun e=>aT.Hz h.o2 h.o1 (by decide) g c e),j⟩
 refine⟨(h.nU.trans t).setCell (by exact h.lo) _,h.lo,by simp[World.setCell,aQ,m],r.keep fun g c f j=>⟨d.block g f (fun e=>r.ne m (by decide) (by rw[c,e])),j⟩,n.keep fun g c f j=>⟨d.block g f (fun e=>n.ne m (by decide) (by rw[c,e])),j⟩⟩
def ze (σ:cK)(root:Int)(cs:List Pr)(bs:List Int):Prop:=(root=0/\cs=[]/\bs=[])\/∃h,jA σ h 2 ⟨#[]⟩ none root cs bs
def Si (mp:VS)(σ:cK)(S:Nat->Prop)(cs:List Pr)(bs:List Int)(n q:Nat)(w:World)(e:Ending)(w':World):Prop:=
 (∃b σ' S' bs',e= .returned (.int .i64 b)/\ze σ' b cs bs'/\mW σ σ' bs bs'/\(Pk σ σ' bs n/\zh σ σ' q)/\Inv σ' S' mp w'/\Step S S' w w')\/(¬Room σ bs n/\Em mp σ S w e w')
def WK:Value->Nat| .slice _ n _=>n|_=>0
def GR (mp:VS)(σ0:cK)(S0:Nat->Prop)(cs:List Pr)(bs0:List Int)(n q:Nat)(w:World)(v:Value)(wr:World):Prop:=
 ∃ps h m σ S bs,Kk wr S v ps/\Wx σ h m ⟨#[]⟩ none ps cs bs/\mW σ0 σ bs0 bs/\(Pk σ0 σ bs0 n/\∃W,zh σ0 σ W/\W+(ps.length - 1)<=q)/\Inv σ S mp wr/\Step S0 S w wr
theorem Jz (t:Nat)(mp:VS)(Q dZ:Int)(σ:cK)(v:Value)(a:List Pc)(h m:Nat)(cs:List Pr)(bs:List Int)(n:Nat)(S:Nat->Prop)(w:World)(hI:Inv σ S mp w)(ht:dw w t mp Q dZ)(oo:¬S t)(hv:Kk w S v a)(hP:Wx σ h m ⟨#[]⟩ none a cs bs)(hn:bs.Nodup)(oK:cs.length<=n)(q:Nat)(hq:a.length - 1<=q):
  Calls Tryz.prog 110 #[.pointer (some ⟨t,0,none⟩),v] w (Si mp σ S cs bs n q w):=by
 have P:∀x∈bs,σ.hasB x=true:=dW.has (fun _ _ _ _ _ ht=>ht.has) hP.row
 have htl:t<w.heap.size:=(ai.1 ht).1;go_enter Tryz.func110,Tryz.ntmps110
 go_wp2
 go_loopw [1,5,6,7] (fun l _ _ _ wr=>GR mp σ S cs bs n q w l wr) (fun l _ _ _ _=>WK l)
 case atStart=>exact⟨a,h,m,σ,S,bs,hv,hP,mW.refl P,⟨Pk.refl _ _ _,0,zh.refl _,by omega⟩,hI,Step.refl S w⟩
 case round=>
  obtain⟨f,rfl⟩:=nx wr;obtain⟨a,h,m,aA,R,mr,af,lJ,xK,nJ,X,bA⟩:=hrel;have Z:=ah nJ;clear nJ;have E:=ah lJ;have H:=ah xK;have hlen:=lJ.len;clear lJ xK P hP hv hI;have rG:=ht.step oo bA;obtain⟨y7,pc,rfl,_,_,_,_⟩:=aZ.form af
  by_cases h1:1<a.length
  ·have x1:(1:Int)<(a.length:Int):=by omega
   have P:=aN f (.cells #[.slice none 0 0,.slice none 0 0,.slice none 0 0] 165);have hG0:GN f R f.heap.size [] [] (.slice none 0 0) (.slice none 0 0) (f.alloc (.cells #[.slice none 0 0,.slice none 0 0,.slice none 0 0] 165)):=
    ⟨P,aD _,aV f _,aT.nil _ _ _ _ _,aT.nil _ _ _ _ _⟩
   obtain⟨pb,po,rfl⟩:∃pb po,y7=some ⟨pb,po,none⟩:=by
    obtain⟨b,o,e,_⟩:=af.at rfl 0 (by omega);exact⟨b,o,e⟩
   go_wp2_with fail;go_loopw [6,7,19] (fun _ _ i wk=>∃(k:Nat) (v1 v2:Value),k<=a.length/\i= .int .i64 k/\GN f R f.heap.size (((a.take k).drop 1).map (·.2)) ((a.take k).map (·.1)) v1 v2 wk) (fun _ _ i _=>a.length - (intOf i).toNat)
   case atStart=>exact⟨0,_,_,aS _,rfl,by simpa using hG0⟩
   case round=>
    obtain⟨k,v1,v2,hk,rfl,J⟩:=hrel
    by_cases kg:k<a.length
    ·obtain⟨ns,iO⟩:=nx ((a.take k).map (·.1))
     obtain⟨ks,fJ⟩:=nx (((a.take k).drop 1).map (·.2));have vO:ns.length=k:=(by rw[iO];simp;omega);have sF:ks.length=k - 1:=(by rw[fJ];simp;omega);rw[<-iO,<-fJ] at J;have jF:(a.take (k+1)).map (·.1)=ns++[a[k].1]:=by rw[iO,aL kg,bT];rfl
     have sP:=ah jF;clear iO jF;have jv:((a.take (k+1)).drop 1).map (·.2)=if k=0 then ks else ks++[a[k].2]:=by
      rw[fJ,aL kg]
      split
      ·rename_i e;subst e;simp
      ·rw[eU (by simp;omega),bT];rfl
     have nH:=ah jv;clear fJ jv;obtain⟨_,_,e,d1,V⟩:=af.at rfl k kg;cases e
     have lm:=(J.nU.cell (p:=⟨pb,po+k*2,none⟩) (aF f _ d1)).trans d1;have lC:=(J.nU.cell (p:=⟨pb,po+k*2+1,none⟩) (aF f _ V)).trans V;have l9:=aF wr _ lm;have hlti:(k:Int)<(a.length:Int):=(by omega);have G:=(J.below (aN wr (.cells #[.int .i64 a[k].1,.string a[k].2] 253)));have O:(wr.alloc (.cells #[.int .i64 a[k].1,.string a[k].2] 253)).heap[wr.heap.size]? =some (.cells #[.int .i64 a[k].1,.string a[k].2] 253 (0,0)):=aV wr _;clear d1 V;go_wp2_with fail;generalize wr.alloc (.cells #[.int .i64 a[k].1,.string a[k].2] 253)=wA at G O ⊢;have hqb:f.heap.size<=wr.heap.size:=J.nU.size;have hqn:f.heap.size<wr.heap.size:=J.lt;clear lm lC l9 J;generalize wr.heap.size=F at O hqb hqn ⊢;have T:=X.sub;have o2:=G.o2;rw[vO] at o2;obtain⟨fK,c2,rfl,_,_,_,_⟩:=aZ.form o2.dx;obtain⟨_,_,y2,_,_,_,N⟩:=cells3 G.node;obtain⟨z0,z1,lz⟩:wA.cell? ⟨F,0,none⟩=some (.int .i64 a[k].1)/\wA.cell? ⟨F,1,none⟩=some (.string a[k].2)/\F<wA.heap.size:=⟨by simp[World.cell?,O],by simp[World.cell?,O],(ai.1 O).1⟩;refine aP (fun W=>W.cell? ⟨f.heap.size,2,none⟩=some (.slice fK k c2)/\f.heap.size<W.heap.size/\W.cell? ⟨F,0,none⟩=some (.int .i64 a[k].1)/\F<W.heap.size) (fun i=> !([7,8,11].contains i)) [0,1,2,3,4,5,6,7,8,9,10,11] rfl (by kernel_rfl) ⟨y2,N,z0,lz⟩ ?_
     repeat (refine oq ?_ rfl rfl rfl ?_ ?_;rotate_left;(focus intro W hW;(try dsimp only at hW);obtain⟨q0,q1,q2,q3⟩:=hW;first|(go_simp;first|done|with_reducible rfl));try simp only[Act.put,aj,au,ak])
     refine dI rfl rfl rfl ?_;intro K hK;go_simp;have s:=(aN wA (.cells #[.int .i64 a[k].1] 3)).drew;have c:=G.below s;have oB:=o2.below s;obtain⟨_,_,y2,_,_,_,N⟩:=cells3 c.node;have vk:=(s.cell (p:=⟨F,0,none⟩) lz).trans z0;have dR:=ax lz s.size;refine hK.out _ _ ⟨y2,N,vk,dR⟩ ?_
     (try simp only[Act.put,aj,au,ak])
     have A:=(s.block F lz).trans O;have D:Src Tryz.prog 1 93 (.slice (some ⟨wA.heap.size,0,none⟩) 1 1) 1 [.int .i64 a[k].1] (wA.alloc (.cells #[.int .i64 a[k].1] 3)).drew:=(mX (w:=wA) (S:=R) (B:=f.heap.size) (e:=3) (k:=1) [.int .i64 a[k].1] 1 1 rfl rfl (aD _) (by simp[maxLen]) G.nU.size (fun g hg=>ax (T g hg) G.nU.size)).drew.dx.src bE (by intro u hu;rw[bQ.1 hu];rfl);have j:∀g,R g->g<(wA.alloc (.cells #[.int .i64 a[k].1] 3)).drew.heap.size:=fun g hg=>ax (ax (T g hg) G.nU.size) s.size
     have C:=c.nU.size;generalize (wA.alloc (.cells #[.int .i64 a[k].1] 3)).drew=wB at c oB A D j C ⊢;refine dI rfl rfl rfl ?_;intro K hK;refine ol (.tmp 28) (.tmp 31) 93 93 rfl R f.heap.size 3 1 8 _ bE iq rfl (.slice fK k c2) k (ns.map (.int .i64)) rfl oB (.slice (some ⟨wA.heap.size,0,none⟩) 1 1) 1 [.int .i64 a[k].1] rfl D j C (by unfold maxLen;omega) (by omega) ?_;intro di c3 w3 av fB o5 yK;have I:=c.UZ fB o5 (ns':=ns++[a[k].1]) (v2':= .slice di (k+1) c3) (by rw[ay,dN,vO,bT];exact av);have mK:w3.heap[f.heap.size]? =_:=(fB.block _ c.lt (c.o2.ne c.node (by decide))).trans c.node;have fo:w3.heap[F]? =_:=(fB.block F (ai.1 A).1 (oB.ne A (by decide))).trans A;obtain⟨_,_,y2,_,_,yf,N⟩:=cells3 mK;have z3:w3.cell? ⟨F,0,none⟩=some (.int .i64 a[k].1):=(by simp[World.cell?,fo]);have l3:=(ai.1 fo).1;refine hK.out _ _ ⟨y2,N,z3,l3⟩ ?_
     (try simp only[Act.put,aj,au,ak])
     repeat (refine oq ?_ rfl rfl rfl ?_ ?_;rotate_left;(focus intro W hW;(try dsimp only at hW);obtain⟨q0,q1,q2,q3⟩:=hW;first|(go_simp;first|done|with_reducible rfl));try simp only[Act.put,aj,au,ak])
     refine jC rfl rfl rfl (by kernel_rfl) ?_;intro K hK;go_simp;refine hK.out _ _ ?_;refine bR ?_;have vz:Keep (· =f.heap.size) w3 (w3.setCell ⟨f.heap.size,2,none⟩ (.slice di (k+1) c3)):=Keep.setCell (M:=(· =f.heap.size)) (p:=⟨f.heap.size,2,none⟩) (Keep.refl _ _) (.inr rfl) _;have dx:=(vz.block F l3 (by omega)).trans fo;generalize w3.setCell ⟨f.heap.size,2,none⟩ (.slice di (k+1) c3)=w4 at I dx ⊢;clear vz mK fo c oB A D j G O o2 av fB o5 yK y2 yf N z3 l3 z0 z1 lz vk dR s C
     by_cases Y:k=0
     ·have x2:¬(0:Int)<(k:Int):=by omega
      have l5:=ah Y;clear Y;go_wp2_with fail;go_roundw
      case rel=>exact⟨k+1,_,_,by omega,by go_num,by rw[sP.out,nH.out,if_pos l5.out];exact I⟩
      case measure=>simp[intOf];omega
     ·have x2:(0:Int)<(k:Int):=by omega
      have xP:k - 1+1=k:=(by omega);have l5:=ah Y;clear Y;have o1:=I.o1;rw[sF] at o1;have rP:aZ w4 R 1 v1 (k - 1) (ks.map .string):=o1.dx;obtain⟨nk,c5,rfl,_,_,_,_⟩:=aZ.form rP;clear rP;obtain⟨_,y1,_,_,_,_,N⟩:=cells3 I.node;obtain⟨z1,lz⟩:w4.cell? ⟨F,1,none⟩=some (.string a[k].2)/\F<w4.heap.size:=⟨by simp[World.cell?,dx],(ai.1 dx).1⟩;go_wp2_with fail;refine aP (fun W=>W.cell? ⟨f.heap.size,1,none⟩=some (.slice nk (k - 1) c5)/\f.heap.size<W.heap.size/\W.cell? ⟨F,1,none⟩=some (.string a[k].2)/\F<W.heap.size) (fun i=> !([7,8,11].contains i)) [0,1,2,3,4,5,6,7,8,9,10,11] rfl (by kernel_rfl) ⟨y1,N,z1,lz⟩ ?_
      repeat (refine oq ?_ rfl rfl rfl ?_ ?_;rotate_left;(focus intro W hW;(try dsimp only at hW);obtain⟨q0,q1,q2,q3⟩:=hW;first|(go_simp;first|done|with_reducible rfl));try simp only[Act.put,aj,au,ak])
      refine dI rfl rfl rfl ?_;intro K hK;go_simp;have s:=(aN w4 (.cells #[.string a[k].2] 9)).drew;have c:=I.below s;have oB:=o1.below s;obtain⟨_,y1,_,_,_,_,N⟩:=cells3 c.node;have z1B:=(s.cell (p:=⟨F,1,none⟩) lz).trans z1;have dR:=ax lz s.size;refine hK.out _ _ ⟨y1,N,z1B,dR⟩ ?_
      (try simp only[Act.put,aj,au,ak])
      have A:=(s.block F lz).trans dx;have D:Src Tryz.prog 1 142 (.slice (some ⟨w4.heap.size,0,none⟩) 1 1) 1 [.string a[k].2] (w4.alloc (.cells #[.string a[k].2] 9)).drew:=(mX (w:=w4) (S:=R) (B:=f.heap.size) (e:=9) (k:=1) [.string a[k].2] 1 1 rfl rfl (aD _) (by simp[maxLen]) I.nU.size (fun g hg=>ax (T g hg) I.nU.size)).drew.dx.src bq (by intro u hu;rw[bQ.1 hu];rfl);have j:∀g,R g->g<(w4.alloc (.cells #[.string a[k].2] 9)).drew.heap.size:=fun g hg=>ax (ax (T g hg) I.nU.size) s.size
      have C:=c.nU.size;generalize (w4.alloc (.cells #[.string a[k].2] 9)).drew=wB at c oB A D j C ⊢;refine dI rfl rfl rfl ?_;intro K hK;refine ol (.tmp 41) (.tmp 44) 142 142 rfl R f.heap.size 9 1 16 _ bq ig rfl (.slice nk (k - 1) c5) (k - 1) (ks.map .string) rfl oB (.slice (some ⟨w4.heap.size,0,none⟩) 1 1) 1 [.string a[k].2] rfl D j C (by unfold maxLen;omega) (by omega) ?_;intro tY c6 w6 q8 dn rF y8;have xE:=c.QJ dn rF (ks':=ks++[a[k].2]) (v1':= .slice tY (k - 1+1) c6) (by rw[ay,dN,sF,bT];exact q8);have o7:w6.heap[f.heap.size]? =_:=(dn.block _ c.lt (c.o1.ne c.node (by decide))).trans c.node;have lQ:w6.heap[F]? =_:=(dn.block F (ai.1 A).1 (oB.ne A (by decide))).trans A;obtain⟨_,y1,_,_,yf,_,N⟩:=cells3 o7;have z6:w6.cell? ⟨F,1,none⟩=some (.string a[k].2):=(by simp[World.cell?,lQ]);have l6:=(ai.1 lQ).1;refine hK.out _ _ ⟨y1,N,z6,l6⟩ ?_
      (try simp only[Act.put,aj,au,ak])
      repeat (refine oq ?_ rfl rfl rfl ?_ ?_;rotate_left;(focus intro W hW;(try dsimp only at hW);obtain⟨q0,q1,q2,q3⟩:=hW;first|(go_simp;first|done|with_reducible rfl));try simp only[Act.put,aj,au,ak])
      refine jC rfl rfl rfl (by kernel_rfl) ?_;intro K hK;go_simp;refine hK.out _ _ ?_;refine bR ?_;rw[xP] at xE;clear y1 yf N z6 l6 o7 lQ c oB A D j q8 dn rF y8 C;go_wp2_with fail;go_roundw
      case rel=>exact⟨k+1,_,_,by omega,by go_num,by rw[sP.out,nH.out,if_neg l5.out];exact xE⟩
      case measure=>simp[intOf];omega
    ·obtain rfl:k=a.length:=by omega
     rw[bS] at J;have x2:¬(a.length:Int)<(a.length:Int):=(by omega);have qc:mM ⟨[],(a.drop 1).map (·.2),a.map (·.1)⟩ ⟨#[]⟩ (lY ⟨#[]⟩ a):=by
      constructor
      ·rw[Fb]
       cases a with
       |nil=>simp at h1
       |cons p r=>simp[mI]
      ·rw[Fa]
     have zA:m=2:=E.out.single.resolve_right (by omega);subst zA;have ok:Nd.Ok ⟨[],(a.drop 1).map (·.2),a.map (·.1)⟩:=qc.ok rfl (fun k hk=>by
      obtain⟨p,hp,rfl⟩:=fw.1 hk
      exact E.out.key p (cZ hp)) (dW.Ik (fun _ _ _ _ _ ht=>ht.top) E.out.row) (by rw[zH];omega)
     have nS:(a.map (·.1))≠[]:=fun e=>by rw[List.map_eq_nil_iff.1 e] at h1;simp at h1
     have rJ:=Dr ok qc;have oO:=fun hR=>uL (Lr:=aA.most) ok qc E.out.row (H.out.room hR) oK
     have tQ:=ah (show ∀Lr,lK Lr σ bs n->aA.sz+Nd.room ⟨[],(a.drop 1).map (·.2),a.map (·.1)⟩<=Lr from fun Lr hR=>uL ok qc E.out.row (H.out.CV hR) oK);have kr:gN wr R f.heap.size ⟨[],(a.drop 1).map (·.2),a.map (·.1)⟩:=⟨fun hs=>absurd (X.sub _ hs) (dB _),_,_,_,J.node,aZ.nil _ _ _,J.o1.dx,J.o2.dx⟩;have z8:=X.below J.nU;have nA:=rG.1.step rG.2 (Step.of_below (S:=R) J.nU);obtain⟨_,_,e,d1,V⟩:=af.at rfl 0 (by omega);cases e
     rw[rq,iG] at V;have lC:=(J.nU.cell (p:=⟨pb,po+1,none⟩) (aF f _ V)).trans V;have l9:=aF wr _ lC;have hlp:(0:Int)<(a.length:Int):=(by omega);have r9:0<a.length:=(by omega);have zS:=ah oO;have HRO:=ah qc;have jb:=ah rJ;clear oO rJ qc d1 V;go_wp2_with (first|(go_at_call 150;go_must ((refine(rE t mp Q dZ _ aA R f.heap.size ⟨[],(a.drop 1).map (·.2),a.map (·.1)⟩ _ wr z8 nA.1 nA.2 kr ok (iL _)).mono ?_);rintro e w6 (⟨v6,q9,zs,xV,S3,rfl,p2,p3,p4,p5,p6⟩|⟨zn,rfl,τ,zW,g1,g2,g3,g4⟩)<;>refine sO ?_)))
     rotate_left
     ·refine sN ?_
      exact⟨rfl,.inr ⟨fun hR=>absurd (zS.out hR) (gG.2 zn),rfl,τ,zW,g1,(bA.trans (Step.of_below J.nU)).trans g2,g3.trans H.out.H,g4.trans H.out.most⟩⟩
     refine sN ?_;go_wp2_with fail;obtain⟨m3,bB,q1,q2⟩:=Ce p3 (lo:=⟨#[]⟩) (hi:=none) (h:=h+1) (cs:=cs) (bs:=mr) ok ⟨nS,by rw[HRO.out.row];exact E.out.row⟩ p4 X.O7 (H.out.nd hn) (dW.has (fun _ _ _ _ _ ht=>ht.has) E.out.row) (E.out.key _ (bF r9)) (by have:=jb.out;simp at this ⊢;omega);have hl6:q9.length<a.length:=by
      have e1:=p3.room ok;have e2:=p4.length.1;simp[Nd.room] at e1;have:¬a=[]:=fun e=>by rw[e] at h1;simp at h1
      rw[if_neg this] at e1;omega
     have hl7:q9.length<=1\/2*q9.length<=a.length:=by
      have e1:=p3.room ok;have e2:=p4.length.1;simp[Nd.room] at e1;have:¬a=[]:=fun e=>by rw[e] at h1;simp at h1
      rw[if_neg this] at e1;omega
     go_roundw
     case rel=>exact⟨q9,h+1,m3,xV,S3,bB,p2.dx,q1,H.out.trans q2,⟨fun Lr hR t=>zG p3 ok p4 (tQ.out Lr hR) (Z.out.1 Lr hR t),by obtain⟨W,w1,w2⟩:=Z.out.2;exact⟨W+q9.length,w1.trans p4.VW,by omega⟩⟩,p5,(bA.trans (Step.of_below J.nU)).trans p6⟩
     case measure=>
      obtain⟨tY,c6,rfl,_⟩:=aZ.form p2.dx;exact hl6
  ·have x1:¬(1:Int)<(a.length:Int):=by omega
   by_cases h0:a.length=0
   ·have x0:(a.length:Int)=0:=by omega
    have hp0:a=[]:=aY h0;subst hp0;obtain⟨o6,P⟩:=E.out.row;have zf:=ah o6;have zX:=ah P;clear o6 P h0 x0;go_wp2_with fail;go_ret;exact .inl ⟨0,aA,R,mr,rfl,.inl ⟨rfl,zf.out,zX.out⟩,H.out,⟨Z.out.1,by obtain⟨W,w1,w2⟩:=Z.out.2;exact w1.more (by omega)⟩,X,bA⟩
   ·have vo:a.length=1:=by omega
    obtain⟨p,hp⟩:∃p,a=[p]:=List.length_eq_one_iff.1 vo
    subst hp;obtain⟨c1,c2,y1,y2,hT,⟨kT,ko⟩,hc,hy⟩:=E.out.row;subst kT ko;rw[dM] at hc hy;subst hc hy;have HT:=ah hT;clear hT;obtain⟨pb,po,e,d1,V⟩:=af.at rfl 0 (iL 0);subst e;have lm:f.cell? ⟨pb,po,none⟩=some (.int .i64 p.1):=d1;have hpl:pb<f.heap.size:=aF f _ d1;clear d1 V h0 vo h1;go_wp2_with fail;go_loopw [8,9,10,11] (fun x y _ _ wx=>∃(b:Int) (d h m:Nat) (z:cK) (S2:Nat->Prop) (j3:List Int),x= .int .i64 b/\y= .int .i64 d/\jA z h m ⟨#[]⟩ none b cs j3/\(m=2\/d=0)/\d<=1/\mW σ z bs j3/\(Pk σ z bs n/\zh σ z q)/\Inv z S2 mp wx/\Step S S2 w wx) (fun _ y _ _ _=>2 - (intOf y).toNat)
    case atStart=>exact⟨p.1,0,h,m,aA,R,_,rfl,rfl,HT.out,.inr rfl,by omega,H.out,⟨Z.out.1,by obtain⟨W,w1,w2⟩:=Z.out.2;exact w1.more (by omega)⟩,X,bA⟩
    case round=>
     obtain⟨wo2,rfl⟩:=nx wr;obtain⟨b,d,h2,m2,z,S2,j3,rfl,rfl,j5,zb,hd1,oH,vv,aB,j6⟩:=hrel;have qo:=ah vv;clear vv;obtain⟨nd,bB,hB,ok,ql,hKd,yc,rfl⟩:=uI.1 j5;have zm:=ah j5;clear j5;have lg:=ah oH;clear oH;have fA:=ht.step oo j6;have jO:(d:Int)<=40:=(by omega);have hnk:=hB.fits.nk
     by_cases pM:nd.kids.length=1
     ·obtain⟨h3,rfl⟩:∃h3,h2=h3+1:=by
       cases h2 with
       |zero=>have:=ql.1;rw[this] at pM;simp at pM
       |succ h3=>exact⟨h3,rfl⟩
      have rX:d=0:=zb.resolve_left (fun e=>by
       have:=hKd.resolve_left (by omega)
       omega)
      have x1:(nd.kids.length:Int)=1:=(by omega);have bH:=ah pM;have yx:=ah rX;have rV:=rowOf ok ql.1 ⟨#[]⟩;obtain⟨b0,l,e,e2,e3⟩:=qm ok.kk ql.1 ⟨#[]⟩;have yo:l=[]:=by
       have:=congrArg List.length e3;simp at this;exact aY (by omega)
      subst yo;have j4:=ql.2;unfold Nd.row at j4;rw[e] at j4;obtain⟨c1,c2,y1,y2,za,⟨kT,ko⟩,hc,hy⟩:=j4;subst kT ko;rw[dM] at hc hy;subst hc hy;have E3:=ah e3;clear e e2 e3 pM rX rV;have cg:=D8 aB hB.has;have jl:=lg.out.nd hn;have cl:=cg.left (us:=[b]) (bs:=[]) (rs:=bB) jl (fun x hx=>zm.out.has x (aX _ hx));have hT4:=za.keep cg (fun y hy e=>(lV.1 jl).1 (by rw[<-bQ.1 e];exact hy));have hm:∀w,(method 454 97 mp.agg "Free").run Tryz.prog w= .ok (258,.pointer (some ⟨mp.mp,0,none⟩)) w:=fun _=>by kernel_rfl
      go_wp2_with (first|(go_at_call 93;go_must ((refine(nM t mp Q dZ b d z S2 nd _ aB fA.1 hB jO).mono ?_);rintro e w1 ⟨nb,rfl,bC,p9⟩))|(go_at_call 151;go_must ((refine(pJ _).mono ?_);rintro e w2 ⟨rfl,hw⟩;subst w2;refine sO ?_)))
      refine sN ?_;obtain⟨_,v0,v1,v2,bN,_,_,N2⟩:=bC.jO;obtain⟨fK,y5,rfl,_,_,_,_⟩:=aZ.form N2;obtain⟨_,_,y2,_,_,_,N⟩:=cells3 bN;obtain⟨tc0,_,_,_,_,_,tl0⟩:=cells3 ((p9.block t (ai.1 fA.1).1).trans fA.1);go_wp2_with (first|(go_at_call 258;go_must ((refine(tZ mp z S2 w1 b (aB.below p9) hB.lo hB.has).mono ?_);rintro e w3 ⟨rfl,zP,mo⟩;refine sO ?_)))
      refine sN ?_;obtain⟨_,v0',v1',v2',bN3,_,_,rA⟩:=bC.jO.step mo;obtain⟨di,cp3,rfl,_,_,_,_⟩:=aZ.form rA;obtain⟨pb2,po2,rfl,V⟩:=rA.at rfl 0 (by rw[bH.out];exact iL 0);have Y:nd.kids[0]'(by rw[bH.out];exact iL 0)=b0:=by
       have:=E3.out;simp at this;simp[this]
      rw[Y,iG] at V;obtain⟨_,_,y2,_,_,_,N⟩:=cells3 bN3;have hp2:=aF w3 _ V;go_wp2_with (first|(go_at_call 151;go_must ((refine(pJ _).mono ?_);rintro e w2 ⟨rfl,hw⟩;subst w2)))
      go_roundw
      case rel=>exact⟨b0,d+1,h3,2,z.gone b,S2,bB,rfl,by go_num,hT4,.inl rfl,by have:=yx.out;omega,lg.out.trans cl,⟨qo.out.1,by have:=qo.out.2.trans (wF z b);rwa [iG] at this⟩,zP,(j6.trans (Step.of_below p9)).trans mo⟩
      case measure=>simp[intOf];omega
     ·have x1:¬(nd.kids.length:Int)=1:=by omega
      have x1':((nd.kids.length:Int)==1)=false:=(by rw[fM];omega);have bH:=ah pM;clear pM;go_wp2_with (first|(go_at_call 93;go_must ((refine(nM t mp Q dZ b d z S2 nd _ aB fA.1 hB jO).mono ?_);rintro e w1 ⟨nb,rfl,bC,p9⟩))|(go_at_call 151;go_must ((refine(pJ _).mono ?_);rintro e w2 ⟨rfl,hw⟩;subst w2;refine sO ?_)))
      refine sN ?_;obtain⟨_,v0,v1,v2,bN,_,_,N2⟩:=bC.jO;obtain⟨fK,y5,rfl,_,_,_,_⟩:=aZ.form N2;obtain⟨_,_,y2,_,_,_,N⟩:=cells3 bN;go_wp2_with fail;go_ret;refine .inl ⟨b,z,S2,_,rfl,.inr ⟨h2,uI.2 ⟨nd,bB,hB,ok,ql,?_,yc,rfl⟩⟩,lg.out,qo.out,aB.below p9,j6.trans (Step.of_below p9)⟩;cases h2 with
      |zero=>exact .inl rfl
      |succ h2=>exact .inr (by have:=dD.2 ql.1;have:=bH.out;omega)
def Dh (c:List Pr)(a:ByteArray)(h:∀p∈c,lt a p.1=true):bX c a=0:=vX [] c a h
def QC {j:cK}{a:ByteArray}{h:Nat}{C:Option ByteArray}(o:∀k z b c x,jA j h 2 k z b c x->wV j a h b (c.drop (bX c a))):∀{l:List (ByteArray×Int)} {m:List Pr} {v:List Int},dW (jA j h 2) C l m v->(∀p∈m,lt a p.1=true)->
  ∃f:List (List Pr),f.length=(l.map (·.2)).length/\(∀i (g:i<(l.map (·.2)).length) (n:i<f.length),wV j a h (l.map (·.2))[i] f[i])/\f.flatten=m
 |[],_,_,⟨e,_⟩,_=>⟨[],rfl,fun i g=>absurd g (by simp),e.symm⟩
 |(k,b)::l,_,_,B,r=>by
  obtain⟨c,A,x,E,g,n,rfl,rfl⟩:=B
  obtain⟨f,q,F,y⟩:=QC o n (fun p d=>r p (bY _ d))
  have s:=o _ _ _ _ _ g
  rw[Dh c a (fun p d=>r p (dh _ d)),dQ] at s
  refine⟨c::f,by simp at q ⊢;exact q,fun i D t=> ?_,by rw[UC,y]⟩
  cases i with
  |zero=>exact s
  |succ i=>exact F i (by simpa using D) (by simpa using t)
def MS {n:cK}{key:ByteArray}{h:Nat}{J:Option ByteArray}(s:∀k z b c x,jA n h 2 k z b c x->wV n key h b (c.drop (bX c key))):∀{r:List (ByteArray×Int)} {k:ByteArray} {b:Int} {y:List Pr} {I:List Int},dW (jA n h 2) J ((k,b)::r) y I->
  ∃g:List (List Pr),g.length=((b::r.map (·.2)).drop (jk (r.map (·.1)) key)).length/\(∀i (m:i<((b::r.map (·.2)).drop (jk (r.map (·.1)) key)).length) (q:i<g.length),wV n key h ((b::r.map (·.2)).drop (jk (r.map (·.1)) key))[i] g[i])/\g.flatten=y.drop (bX y key)
 |[],k,b,_,_,C=>by
  obtain⟨c,f,x,D,m,⟨rfl,rfl⟩,rfl,rfl⟩:=C
  refine⟨[c.drop (bX c key)],by simp[jk],fun i v j=> ?_,by simp⟩
  have:i=0:=by simp at j;exact j
  subst this
  exact s _ _ _ _ _ m
 |(o,F)::r,k,b,_,_,C=>by
  obtain⟨c,f,x,D,m,q,rfl,rfl⟩:=C
  have G:∀k z b c x,jA n h 2 k z b c x->Content k z c:=fun _ _ _ _ _ H=>H.content
  cases d:lt key o with
  |true=>
   have K:=dW.content G q
   have a:∀p∈f,lt key p.1=true:=fun p B=>Du d (K.within p B).1
   obtain⟨g,t,E,A⟩:=QC s q a
   have e:jk (((o,F)::r).map (·.1)) key=0:=by simp[jk,d]
   simp only[e,dQ]
   refine⟨c.drop (bX c key)::g,by simp at t ⊢;exact t,fun i v j=> ?_,?_⟩
   ·cases i with
    |zero=>exact s _ _ _ _ _ m
    |succ i=>exact E i (by simpa using v) (by simpa using j)
   ·rw[UC,A,vX c f key a,eU (nK _ _)]
  |false=>
   obtain⟨g,t,E,A⟩:=MS s q
   have e:jk (((o,F)::r).map (·.1)) key=jk (r.map (·.1)) key+1:=by simp[jk,d]
   have a:∀p∈c,lt p.1 key=true:=fun p B=>Du ((G _ _ _ _ _ m).within p B|>.2 o rfl) d
   simp only[e,gy]
   refine⟨g,by simpa using t,fun i v j=>E i (by simpa using v) j,?_⟩
   rw[A,yO c f key a,mU,dY (l:=c) (by omega),dJ,jI]
def jA.walk {q:cK}{key:ByteArray}:∀{h m:Nat} {j:ByteArray} {p:Option ByteArray} {b:Int} {f:List Pr} {n:List Int},jA q h m j p b f n->wV q key h b (f.drop (bX f key))
 |0,_,_,_,_,_,_,⟨g,i,_,d,x,_,c,_,_⟩=>by
  subst x
  exact .leaf i d c
 |h+1,m,j,p,b,f,n,⟨g,B,i,k,d,_,_,c⟩=>by
  have a:=jA.rising k d c
  obtain⟨v,l,e,z,A⟩:=qm k.kk d j
  unfold Nd.row at c
  rw[e] at c
  obtain⟨D,o,r,y⟩:=MS (key:=key) (fun _ _ _ _ _ t=>jA.walk t) c
  have C:(l.map (·.1))=g.keys:=z
  have s:v::l.map (·.2)=g.kids:=A.symm
  simp only[C,s] at o r
  rw[<-y]
  exact .inner D i d a o r
def dW.pow {T:ByteArray->Option ByteArray->Int->List Pr->List Int->Prop}{p:Nat}(d:∀k z b c x,T k z b c x->p<=c.length){n:Option ByteArray}:∀{l:List (ByteArray×Int)} {e:List Pr} {f:List Int},dW T n l e f->l.length*p<=e.length
 |[],_,_,_=>by simp
 |(k,b)::l,_,_,h=>by
  obtain⟨c,i,x,g,m,j,rfl,rfl⟩:=h
  have a:=d _ _ _ _ _ m
  have b:=dW.pow d j
  simp only[ay,bn,fq,kE];omega
def jA.pow {o:cK}:∀{h:Nat} {m:ByteArray} {n:Option ByteArray} {b:Int} {c:List Pr} {l:List Int},jA o h 2 m n b c l->2^h<=c.length
 |0,_,_,_,_,_,⟨_,_,_,_,_,d,_,_,_⟩=>by
  rw[Nat.pow_zero]
  exact dD.2 d
 |h+1,_,_,_,_,_,⟨a,f,_,g,k,i,d,e⟩=>by
  have:=dW.pow (fun _ _ _ _ _ j=>jA.pow j) e
  rw[a.nH g k] at this
  have:2*2^h<=a.kids.length*2^h:=bZ _ i
  rw[Ar];omega
def jA.low {i:cK}{f:ByteArray}{g:Option ByteArray}{b:Int}(d:jA i h 2 f g b c e)(j:c.length<=4095):h<=11:=by
 have k:=d.pow;rcases gH 11 h with a|a
 ·have:2^12<=2^h:=yH (by omega) a
  omega
 ·exact a
def ze.has {c:cK}{a:Int}{d:List Pr}(h:ze c a d b):∀x∈b,c.hasB x=true:=by
 rcases h with ⟨_,_,rfl⟩|⟨h,e⟩
 ·simp
 ·exact e.has
def ze.count {e:cK}{a:Int}{b:List Pr}{c:List Int}(h:ze e a b c):c.length<=2*b.length:=by
 rcases h with ⟨_,_,rfl⟩|⟨h,d⟩
 ·simp
 ·exact d.Vj
def ze.keep {i b:cK}(l:mW i b e d){a:Int}{c:List Int}(h:ze i a f c)(k:∀x∈c,x∉e\/False):ze b a f c:=by
 rcases h with h|⟨h,g⟩
 ·exact .inl h
 ·exact .inr ⟨h,g.move fun x j=>l.frame x (g.has x j) (k x j)⟩
def ze.look {f:cK}{b:Int}{k:List Int}(h:ze f b c k)(g:c.length<=4095)(a:ByteArray):∃n,n<=40/\Look f a n b (dL c a):=by
 rcases h with ⟨rfl,rfl,_⟩|⟨h,e⟩
 ·exact⟨0,by omega,.nil⟩
 ·exact⟨h,by have:=e.low g;omega,e.look ⟨by cases d:lt a ⟨#[]⟩ with|false=>rfl|true=>(simp[lt,toList_eq] at d;cases j:a.data.toList<;>simp[j,Op.bytesLess] at d),fun y i=>by cases i⟩⟩
def zQ (k:ByteArray):lt k ⟨#[]⟩=false:=by
 cases a:lt k ⟨#[]⟩ with
 |false=>rfl
 |true=>(simp[lt,toList_eq] at a;cases b:k.data.toList<;>simp[b,Op.bytesLess] at a)
def Bh (σ:cK)(bs:List Int)(cs:List Pr)(n:Nat)(σ':cK)(b:Int):Prop:=∃bs',ze σ' b cs bs'/\mW σ σ' bs bs'/\Pk σ σ' bs n/\(cs.length<=299->zh σ σ' 65)
def ML {z:cK}{a:Int}(O:ze z a cs bs)(hn:bs.Nodup)(hl:cs.length<=4090)(t:Nat)(x:VS)(S:Nat->Prop)(i:ByteArray)(J:i.size<=128)(g:Nat)(P:Array Value)(F:List Pr->List Pr)(M:List (Nat×ByteArray))(n:∀l w,(callFunc g l).run Tryz.prog w= .ok (.enter g l) w)(hf:En g P F M)(G:Mv F i)
  (W:World) (h:Inv z S x W) (K:dw W t x a 0) (j:¬S t) (E:xh W S M):EG t x a i g P z S (¬Room z bs (cs.length+1)) (Bh z bs (F cs) (cs.length+1)) W:=by
 have k:=G.len cs;rcases O with ⟨rfl,rfl,rfl⟩|⟨h',O⟩
 ·have V:Nd.Ok ⟨F [],[],[]⟩:=⟨fun p hp=>by
   rcases G.mem _ vI p hp with h|h
   ·cases h
   ·exact h.2,by simp,by simp,rfl,by simp,by simp at k;show (F []).length<=2000;omega,by simp⟩
  simp only[bV] at k;refine(OT t x 0 0 0 z S i ⟨#[]⟩ g P F M n hf W h K j E V).mono ?_;rintro e w1 (⟨v,D,zs,B,H,rfl,R,Q,N,X,I⟩|⟨c,s⟩);rotate_left
  ·refine .inr ⟨fun C=> ?_,s⟩
   unfold Room at C;simp[nh] at C;unfold Nd.room at c;simp only[iX] at c;omega
  obtain⟨m,q,q1,d⟩:=Ce Q (lo:=⟨#[]⟩) (hi:=none) (h:=0) (cs:=F []) (bs:=[]) V ⟨rfl,rfl,G.rise _ vI,fun p hp=>⟨zQ _,fun y hy=>by cases hy⟩,rfl⟩ N h.O7 qR (by simp) J (by unfold Nd.room;simp only[iX];omega);refine .inl ⟨v,H,rfl,I,?_⟩;have f:=K.step j I;refine(Jz t x 0 0 B v D 0 m (F []) q _ H w1 X f.1 f.2 R.dx q1 (d.nd qR) (by simpa using k) (D.length - 1) (aD _)).mono ?_;rintro e2 w2 (⟨b,A,Z,o,rfl,r1,r2,⟨T,Y⟩,r3,r4⟩|⟨c,s⟩);rotate_left
  ·exact .inr ⟨fun C=>c (d.room C),s.after (Step.refl _ _) d.H d.most⟩
  exact .inl ⟨b,A,Z,rfl,r3,r4,o,r1,d.trans r2,Pk.trans (fun L r t=>zG Q V N (by unfold lK at r;simp[nh] at r;unfold Nd.room;simp only[iX];omega) t) d T,fun _=>(N.VW.trans Y).more (by
   have e1:=N.length.1
   have e2:=Q.small (by
    have f1:=G.size []
    have f2:eG []=0:=rfl
    have f3:Nd.size ⟨F [],[],[]⟩=2+eG (F []):=by simp[Nd.size,eP]
    omega)
   omega)⟩
 ·have hh:=O.low (by omega)
  refine(JC t x a 0 i g P F M n hf G J h' z S a 0 ⟨#[]⟩ ⟨#[]⟩ none cs bs W h K j E O hn ⟨zQ _,fun y hy=>by cases hy⟩ (by omega) (by omega) (aS _)).mono ?_;rintro e w1 (⟨v,D,B,H,q,m,rfl,R,q1,d,⟨qk,Wn,qt,qb⟩,X,I⟩|s);rotate_left
  ·exact .inr s
  refine .inl ⟨v,H,rfl,I,?_⟩;have f:=K.step j I;refine(Jz t x a 0 B v D h' m (F cs) q _ H w1 X f.1 f.2 R.dx q1 (d.nd hn) k (D.length - 1) (aD _)).mono ?_;rintro e2 w2 (⟨b,A,Z,o,rfl,r1,r2,⟨T,Y⟩,r3,r4⟩|⟨c,s⟩);rotate_left
  ·exact .inr ⟨fun C=>c (d.room C),s.after (Step.refl _ _) d.H d.most⟩
  exact .inl ⟨b,A,Z,rfl,r3,r4,o,r1,d.trans r2,qk.trans d T,fun hc=>(qt.trans Y).more (UI qb hc)⟩
def Vs (key value:ByteArray):Prop:=(1<=key.size/\key.size<=128)/\value.size<=64
def Oh (f e:Nat)(b a:ByteArray):En 112 #[.pointer (some ⟨f,0,none⟩),.pointer (some ⟨e,0,none⟩)] (fun i=>kC i b a) [(f,b),(e,a)]:=by
 intro m B g S w d c l k j;exact Ol f e m B b a g S w d (c (f,b) (by simp)).1 (c (e,a) (by simp)).1 (c (f,b) (by simp)).2 (c (e,a) (by simp)).2 l k j
def GY (b:Nat)(a:ByteArray):En 194 #[.pointer (some ⟨b,0,none⟩)] (fun f=>jR f a) [(b,a)]:=by
 intro j B e S w d c i g k;exact GZ b j B a e S w (c (b,a) (by simp)).1 i g (by omega)
def IU (t:Nat)(g:VS)(c:Int)(f:cK)(S:Nat->Prop)(j:List Pr)(l:List Int)(b a:ByteArray)(w:World)(h:Inv f S g w)(m:dw w t g c 0)(i:¬S t)(s:ze f c j l)(x:l.Nodup)(v:j.length<=4090)(d:Vs b a):
  Calls Tryz.prog 63 #[.pointer (some ⟨t,0,none⟩),.string b,.string a] w fun e o=>(e= .returned (.int .i64 0)/\Ah t g S (Bh f l (kC j b a) (j.length+1)) w o)\/(e= .returned (.int .i64 12)/\wY t g c f S (¬Room f l (j.length+1)) w o):=by
 refine Tk t g c f S _ _ b a w h.sub m i d.1.1 d.1.2 d.2 fun W q p k n=> ?_
 exact ML s x v t g S b d.1.2 _ _ (fun r=>kC r b a) [(q,b),(p,a)] (fun _ _=>by kernel_rfl) (Oh q p b a) (DC b a d.1.2 d.2) W (h.below k) ((k.block t (ai.1 m).1).trans m) i n
def OZ {a:ByteArray}(h:dL c a=none):jR c a=c:=by
 unfold jR
 split
 ·rename_i b
  obtain⟨d,_⟩:=mY b;unfold dL at h;rw[if_pos b,bD d] at h;cases h
 ·rfl
def JL (t:Nat)(l:VS)(b:Int)(f:cK)(S:Nat->Prop)(k:List Pr)(o:List Int)(a:ByteArray)(w:World)(h:Inv f S l w)(m:dw w t l b 0)(j:¬S t)(q:ze f b k o)(C:o.Nodup)(B:k.length<=4090)(i:1<=a.size/\a.size<=128):
  Calls Tryz.prog 161 #[.pointer (some ⟨t,0,none⟩),.string a] w fun e r=>(e= .returned (.tuple #[.bool (dL k a).isSome,.int .i64 0])/\Ah t l S (Bh f o (jR k a) (k.length+1)) w r)\/(e= .returned (.tuple #[.bool false,.int .i64 12])/\wY t l b f S (¬Room f o (k.length+1)) w r):=by
 obtain⟨n,d,c⟩:=q.look (by omega) a;cases y:dL k a with
 |none=>
  rw[y] at c;refine(BF t l b f S a w h m i.1 i.2 n d c).mono ?_;rintro e r ⟨rfl,s⟩;rw[OZ y];exact .inl ⟨rfl,f,S,b,h.below s,(s.block t (ai.1 m).1).trans m,j,⟨o,q,mW.refl q.has,Pk.refl _ _ _,fun _=>(zh.refl _).more (aS _)⟩,Keep.of_below s _,fun g i=> .inl i⟩
 |some x=>
  rw[y] at c;refine LX t l b f S _ _ a x w h m j i.1 i.2 n d c fun W z p v=> ?_
  exact ML q C B t l S a i.2 _ _ (fun A=>jR A a) [(z,a)] (fun _ _=>by kernel_rfl) (GY z a) (JM a) W (h.below p) ((p.block t (ai.1 m).1).trans m) j v
def DK (t:Nat)(i:VS)(b:Int)(g:cK)(S:Nat->Prop)(d:List Pr)(m:List Int)(a:ByteArray)(w:World)(h:Inv g S i w)(l:dw w t i b 0)(o:ze g b d m)(p:d.length<=4090)(j:1<=a.size/\a.size<=128):
  Calls Tryz.prog 73 #[.pointer (some ⟨t,0,none⟩),.string a] w fun e k=>e= .returned (.tuple #[.string ((dL d a).getD ⟨#[]⟩),.bool (dL d a).isSome,.int .i64 0])/\Below w.heap.size w k:=by
 obtain⟨n,c,f⟩:=o.look (by omega) a;exact GJ t i b g S a _ w h l j.1 j.2 n c f
def EX (t:Nat)(g:VS)(b:Int)(l:cK)(S:Nat->Prop)(d:List Pr)(m:List Int)(c:ByteArray)(a:Int)(w:World)(h:Inv l S g w)(j:dw w t g b 0)(f:ze l b d m)(p:d.length<=4090):
  Calls Tryz.prog 47 #[.pointer (some ⟨t,0,none⟩),.string c,.int .i64 a] w fun e i=>∃v,e= .returned (.tuple #[v,.int .i64 0])/\aT i S w.heap.size 103 2 v ((d.drop (bX d c)).take a.toNat).length (dP ((d.drop (bX d c)).take a.toNat))/\Below w.heap.size w i:=by
 by_cases o:a<=0
 ·refine(EY t g b c a w j (.inr o)).mono ?_
  rintro e i ⟨rfl,k⟩;refine⟨_,rfl,?_,k⟩;rw[show a.toNat=0 from by omega,iM];exact aT.nil _ _ _ _ _
 ·rcases f with ⟨rfl,rfl,_⟩|⟨n,f⟩
  ·refine(EY t g 0 c a w j (.inl rfl)).mono ?_
   rintro e i ⟨rfl,k⟩;refine⟨_,rfl,?_,k⟩;rw[List.drop_nil,Sz];exact aT.nil _ _ _ _ _
  ·exact Qu t g b l S c a _ n w h j (by have:=f.top;omega) (by omega) (by have:=f.low (by omega);omega) f.walk (by simp only[aO];omega)
def Fo (σ:cK)(h:Nat):List Int->List Int->Prop
 |[],bs=>bs=[]
 |b::L,bs=>∃lo hi c x bs',jA σ h 2 lo hi b c x/\Fo σ h L bs'/\bs=x++bs'
def Fo.append {e:cK}{h:Nat}:∀{L M:List Int} {x y:List Int},Fo e h L x->Fo e h M y->Fo e h (L++M) (x++y)
 |[],_,_,_,d,a=>by obtain rfl:=d;exact a
 |b::L,_,_,_,⟨i,j,c,x,f,d,a,rfl⟩,g=>⟨i,j,c,x,_,d,Fo.append a g,aM _ _ _⟩
def dW.fo {d:cK}{h:Nat}{j:Option ByteArray}:∀{l:List (ByteArray×Int)} {g:List Pr} {b:List Int},dW (jA d h 2) j l g b->Fo d h (l.map (·.2)) b
 |[],_,_,⟨_,e⟩=>e
 |(k,_)::_,_,_,⟨c,_,x,a,i,f,_,e⟩=>⟨k,_,c,x,a,i,dW.fo f,e⟩
inductive BL (σ:cK):Nat->List Int->List Int->Prop
 |done:BL σ 0 [] []
 |step {n:Nat} {L:List Int} {nds:List Nd} {T:List Int}:L≠[]->nds.length=L.length->(∀i (h1:i<L.length) (h2:i<nds.length),Cm σ L[i] nds[i])->BL σ n (nds.flatMap (·.kids)) T->BL σ (n+1) L (L++T)
def BL.le {a:cK}{L:List Int}(h:BL a n L T):L.length<=T.length:=by
 cases h with
 |done=>simp
 |step _ _ _ _=>simp
def Fo.zero {j:cK}:∀{L g:List Int},Fo j 0 L g->∃a:List Nd,a.length=L.length/\(∀i (d:i<L.length) (f:i<a.length),Cm j L[i] a[i])/\a.flatMap (·.kids)=[]/\g=L
 |[],_,h=>⟨[],rfl,fun i d=>absurd d (by simp),rfl,h⟩
 |b::L,_,⟨v,t,c,x,r,⟨l,d,_,p,_,_,_,_,o⟩,f,e⟩=>by
  obtain⟨a,m,s,n,rfl⟩:=Fo.zero f
  subst e o
  refine⟨l::a,by simp[m],fun i q k=> ?_,by rw[iY,p,n];rfl,rfl⟩
  cases i with
  |zero=>exact d
  |succ i=>exact s i (by simpa using q) (by simpa using k)
def Fo.succ {j:cK}{h:Nat}:∀{L m:List Int},Fo j (h+1) L m->∃(a:List Nd) (d:List Int),a.length=L.length/\(∀i (f:i<L.length) (k:i<a.length),Cm j L[i] a[i])/\Fo j h (a.flatMap (·.kids)) d/\(L++d).Perm m/\(L≠[]->a.flatMap (·.kids)≠[])
 |[],_,h=>⟨[],[],rfl,fun i f=>absurd f (by simp),rfl,by obtain rfl:=h;exact jH _,fun h=>absurd rfl h⟩
 |b::L,_,⟨s,J,c,x,d,⟨n,g,f,B,o,_,F,E⟩,k,e⟩=>by
  obtain⟨a,y,t,H,v,C,_⟩:=Fo.succ k
  subst e F
  obtain⟨I,l,p,_,G⟩:=qm B.kk o s
  have z:Fo j h n.kids g:=by
   have:=E.fo;unfold Nd.row at this;rw[p] at this;rw[G];exact this
  refine⟨n::a,g++y,by simp[t],fun i D q=> ?_,by rw[iY];exact z.append v,?_,fun _=>by rw[iY];intro r;exact o (List.append_eq_nil_iff.1 r).1⟩
  ·cases i with
   |zero=>exact f
   |succ i=>exact H i (by simpa using D) (by simpa using q)
  ·have A:(L++(g++y)).Perm (g++(L++y)):=by
    rw[<-aM,<-aM];exact H7 _ fI
   exact(A.trans (qj _ C)).cons b
def Fo.bl {i:cK}:∀{h:Nat} {L a:List Int},L≠[]->Fo i h L a->∃T,BL i (h+1) L T/\T.Perm a
 |0,L,a,b,c=>by
  obtain⟨e,f,g,d,rfl⟩:=c.zero
  refine⟨a++[],.step b f g (by rw[d];exact .done),by rw[dM]⟩
 |h+1,L,a,b,c=>by
  obtain⟨e,l,f,g,d,k,n⟩:=c.succ
  obtain⟨T,m,j⟩:=Fo.bl (n b) d
  exact⟨L++T,.step b f g m,(qj _ j).trans k⟩
def ze.bl {d:cK}{a:Int}{g:List Pr}(h:ze d a g b)(i:g.length<=4095):∃n T,n<=12/\BL d n (if a=0 then[] else[a]) T/\T.Perm b:=by
 rcases h with ⟨rfl,_,rfl⟩|⟨h,c⟩
 ·exact⟨0,[],by omega,.done,jH _⟩
 ·have k:=c.top
  have e:=c.low i;obtain⟨T,j,f⟩:=Fo.bl (L:=[a]) (by simp) (show Fo d h [a] (b++[]) from⟨_,_,_,_,_,c,rfl,rfl⟩);rw[dM] at f;exact⟨h+1,T,by omega,by rw[if_neg (by omega)];exact j,f⟩
def qG (T:List Int):List Int:=T.mergeSort fun x y=>decide (x<=y)
def tV (T:List Int):(qG T).length=T.length:=List.length_mergeSort _
def NZ (h:T.Nodup):(qG T).Pairwise (· < ·):=by
 have d:(qG T).Pairwise fun a b=>decide (a<=b)=true:=List.pairwise_mergeSort (fun a b c d e=>by simp at*;omega) (fun a b=>by simp;omega) T
 have e:(qG T).Nodup:=(su T _).nodup_iff.2 h;exact(d.and e).imp fun {a b} ⟨d,e⟩=>by have:=jS d;omega
def CQ (x:Int):x∈qG T↔x∈T:=(su T _).mem_iff
def zu (v:Value)(T:List Int)(w:World)(S:Nat->Prop)(B:Nat)(h:aT w S B 3 1 v T.length (T.map (.int .i64)))(A:T.length<=100000)(z:B<=w.heap.size):
  Calls Tryz.prog 50 #[v] w fun e b=>e= .returned (.tuple #[])/\aT b S B 3 1 v (qG T).length ((qG T).map (.int .i64))/\Below B w b:=by
 obtain⟨⟨f,t⟩,y⟩:=h;rcases t with ⟨rfl,j⟩|⟨g,d,r,rfl,l,c,q,i,x,o⟩
 ·refine(Any.slices_Sort_int_none zw none 0 w).mono ?_
  rintro e b ⟨rfl,rfl⟩;have p:T=[]:=aY j;subst p;refine⟨rfl,?_,aR _ _⟩;have:qG []=[]:=aY (tV []);rw[this];exact aT.nil _ _ _ _ _
 ·have s:Go.Sort.Holds (Value.int .i64) w g 0 T.toArray:=holds_of_blockI c (by rw[<-o,aW])
  refine(Any.slices_Sort_int zw g 0 d T w s (ai.1 c).1 (by omega)).mono ?_;rintro e b ⟨rfl,n,os,rfl⟩;have a:=grownBy_sortedI (w:=w) (g:=g) (n:=n) (os:=os) (qG T).toArray;refine⟨rfl,⟨?_,y⟩,⟨a.os,a.tape,a.output,a.size,fun k m=>a.block k (ax m z) (fun e=>by have:=zi e;omega)⟩⟩;have:=ownsRow_sortedI (w:=w) (base:=B) (n:=n) (os:=os) (ts:=qG T) (tV T) l c q i x;rw[tV];exact this
