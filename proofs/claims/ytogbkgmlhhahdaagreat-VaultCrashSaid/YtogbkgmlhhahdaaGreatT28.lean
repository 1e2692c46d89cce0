--
import Derived.Test.YtogbkgmlhhahdaaGreatT27
set_option maxRecDepth 100000
set_option maxHeartbeats 0
set_option linter.all false
namespace Go.Proofs.YtogbkgmlhhahdaaGreat
open Go.RowKit
variable{j:Bool}{a b c:ByteArray}{d e k n:Int}{N P R i t u:Nat}{W:World}
variable {D:Nat->Dk->Lg->Pg->Prop}
structure Bx (w W:World)(t rt:Nat)(room log err:Int)(ch:Bool)(k n:Int)(key value:ByteArray):Prop where
 s:W.heap[w.heap.size]? =some (.cells #[.pointer (some ⟨t,0,none⟩),.pointer (some ⟨rt,0,none⟩),.int .i64 room,.int .i64 log,.int .i64 err,.bool ch] 130 (0,0))
 o:W.heap[w.heap.size+1]? =some (.cells #[.int .u8 k,.string key,.string value,.int .i64 n] 37 (0,0))
 r:W.heap[w.heap.size+2]? =some (.cells #[.pointer none,.pointer none,.int .i64 0,.int .i64 0,.int .i64 0,.bool false] 130 (0,0))
def Bx.keep {w m:World}{j:Nat}{b:Int}{l:Bool}(h:Bx w W t j b d e l k n c a){M:Nat->Prop}(f:Keep M W m)(i:∀g,w.heap.size<=g/\g<=w.heap.size+2->¬M g):Bx w m t j b d e l k n c a:=
 ⟨(f.block _ (ai.1 h.s).1 (i _ ⟨by omega,by omega⟩)).trans h.s,(f.block _ (ai.1 h.o).1 (i _ ⟨by omega,by omega⟩)).trans h.o,(f.block _ (ai.1 h.r).1 (i _ ⟨by omega,by omega⟩)).trans h.r⟩
def Bx.new (w:World)(t f:Nat)(b d c:Int)(g:Bool)(k n:Int)(e a:ByteArray):
  Bx w (((w.alloc (.cells #[.pointer (some ⟨t,0,none⟩),.pointer (some ⟨f,0,none⟩),.int .i64 b,.int .i64 d,.int .i64 c,.bool g] 130)).alloc (.cells #[.int .u8 k,.string e,.string a,.int .i64 n] 37)).alloc (.cells #[.pointer none,.pointer none,.int .i64 0,.int .i64 0,.int .i64 0,.bool false] 130)) t f b d c g k n e a/\
  Below w.heap.size w (((w.alloc (.cells #[.pointer (some ⟨t,0,none⟩),.pointer (some ⟨f,0,none⟩),.int .i64 b,.int .i64 d,.int .i64 c,.bool g] 130)).alloc (.cells #[.int .u8 k,.string e,.string a,.int .i64 n] 37)).alloc (.cells #[.pointer none,.pointer none,.int .i64 0,.int .i64 0,.int .i64 0,.bool false] 130))/\
  (((w.alloc (.cells #[.pointer (some ⟨t,0,none⟩),.pointer (some ⟨f,0,none⟩),.int .i64 b,.int .i64 d,.int .i64 c,.bool g] 130)).alloc (.cells #[.int .u8 k,.string e,.string a,.int .i64 n] 37)).alloc (.cells #[.pointer none,.pointer none,.int .i64 0,.int .i64 0,.int .i64 0,.bool false] 130)).heap.size=w.heap.size+3:=by
 have s:=aV w (.cells #[.pointer (some ⟨t,0,none⟩),.pointer (some ⟨f,0,none⟩),.int .i64 b,.int .i64 d,.int .i64 c,.bool g] 130);have m:=aN w (.cells #[.pointer (some ⟨t,0,none⟩),.pointer (some ⟨f,0,none⟩),.int .i64 b,.int .i64 d,.int .i64 c,.bool g] 130);have r:(w.alloc (.cells #[.pointer (some ⟨t,0,none⟩),.pointer (some ⟨f,0,none⟩),.int .i64 b,.int .i64 d,.int .i64 c,.bool g] 130)).heap.size=w.heap.size+1:=by simp
 generalize w.alloc (.cells #[.pointer (some ⟨t,0,none⟩),.pointer (some ⟨f,0,none⟩),.int .i64 b,.int .i64 d,.int .i64 c,.bool g] 130)=i at s m r ⊢;have o:=aV i (.cells #[.int .u8 k,.string e,.string a,.int .i64 n] 37);have q:=aN i (.cells #[.int .u8 k,.string e,.string a,.int .i64 n] 37);have x:(i.alloc (.cells #[.int .u8 k,.string e,.string a,.int .i64 n] 37)).heap.size=i.heap.size+1:=by simp
 generalize i.alloc (.cells #[.int .u8 k,.string e,.string a,.int .i64 n] 37)=l at o q x ⊢;have v:=aV l (.cells #[.pointer none,.pointer none,.int .i64 0,.int .i64 0,.int .i64 0,.bool false] 130);have p:=aN l (.cells #[.pointer none,.pointer none,.int .i64 0,.int .i64 0,.int .i64 0,.bool false] 130);have y:(l.alloc (.cells #[.pointer none,.pointer none,.int .i64 0,.int .i64 0,.int .i64 0,.bool false] 130)).heap.size=l.heap.size+1:=by simp
 rw[show l.heap.size=w.heap.size+2 by omega] at v;rw[r] at o;refine⟨⟨(p.block _ (by omega)).trans ((q.block _ (by omega)).trans s),(p.block _ (by omega)).trans o,v⟩,?_,by omega⟩;have j:=m.trans (q.mono m.size);exact j.trans (p.mono j.size)
def Bx.cells {w:World}{g:Nat}{c f:Int}{d:ByteArray}(h:Bx w W t g c e f j k n d b){a:Nat}(l:w.heap.size=a):
  (W.cell? ⟨a,0,none⟩=some (.pointer (some ⟨t,0,none⟩))/\W.cell? ⟨a,1,none⟩=some (.pointer (some ⟨g,0,none⟩))/\W.cell? ⟨a,2,none⟩=some (.int .i64 c)/\W.cell? ⟨a,3,none⟩=some (.int .i64 e)/\W.cell? ⟨a,4,none⟩=some (.int .i64 f)/\W.cell? ⟨a,5,none⟩=some (.bool j))/\
  (W.cell? ⟨a+1,0,none⟩=some (.int .u8 k)/\W.cell? ⟨a+1,1,none⟩=some (.string d)/\W.cell? ⟨a+1,2,none⟩=some (.string b)/\W.cell? ⟨a+1,3,none⟩=some (.int .i64 n))/\
  (W.cell? ⟨a+2,0,none⟩=some (.pointer none)/\W.cell? ⟨a+2,1,none⟩=some (.pointer none)/\W.cell? ⟨a+2,2,none⟩=some (.int .i64 0)/\W.cell? ⟨a+2,3,none⟩=some (.int .i64 0)/\W.cell? ⟨a+2,4,none⟩=some (.int .i64 0)/\W.cell? ⟨a+2,5,none⟩=some (.bool false))/\
  (∀i,W.frozen? ⟨a,i,none⟩=false)/\(∀i,W.frozen? ⟨a+2,i,none⟩=false)/\a+2<W.heap.size:=by
 subst l;have m:=(ai.1 h.r).1;refine⟨⟨?_,?_,?_,?_,?_,?_⟩,⟨?_,?_,?_,?_⟩,⟨?_,?_,?_,?_,?_,?_⟩,fun i=> ?_,fun i=> ?_,m⟩
 all_goals first|(simp[World.cell?,h.s];done)|(simp[World.cell?,h.o];done)|(simp[World.cell?,h.r];done)|(simp[World.frozen?,h.s];done)|(simp[World.frozen?,h.r];done)
theorem GD (F F0:Nat->Prop)(v r t z N R u:Nat)(p9 kv:List Pr)(qb:List (List Pr))(J:Bool)(c d k n:Int)(m a:ByteArray)(w:World)(hJ:JE D F F0 v r t z N R u qb p9 kv w)(hk:0<=k/\k<=255)(hv:a.size<=maxLen):
  Calls Tryz.prog 70 #[.pointer (some ⟨v,0,none⟩),.agg #[.pointer (some ⟨t,0,none⟩),.pointer (some ⟨z,0,none⟩),.int .i64 c,.int .i64 d,.int .i64 12,.bool J],.agg #[.int .u8 k,.string m,.string a,.int .i64 n]] w fun e w'=>e= .returned (.tuple #[qw t z c d 12 J,.bool true])/\Below w.heap.size w w':=by
 obtain⟨o,C,y⟩:=Bx.new w t z c d 12 J k n m a;obtain⟨Z,Q⟩:=nm ((((w.alloc (.cells #[.pointer (some ⟨t,0,none⟩),.pointer (some ⟨z,0,none⟩),.int .i64 c,.int .i64 d,.int .i64 12,.bool J] 130)).alloc (.cells #[.int .u8 k,.string m,.string a,.int .i64 n] 37)).alloc (.cells #[.pointer none,.pointer none,.int .i64 0,.int .i64 0,.int .i64 0,.bool false] 130)));rw[Q.out] at o C y;obtain⟨K,l⟩:=nm w.heap.size;have O:=ah (zo a n Z hv);obtain⟨⟨a0,a1,a2,a3,a4,a5⟩,⟨o0,o1,o2,W⟩,_,_,_,ls⟩:=o.cells l.out;have l0:K<Z.heap.size:=by omega
 have l1:K+1<Z.heap.size:=by omega
 have HX:=ah (aC o (aC C y));obtain⟨pM,V⟩:=nm (strOf (nC a n));rw[V.out] at O;clear o C y;go_enter Tryz.func70,Tryz.ntmps70;go_upto_region 1 with (fail)
 rw[Q.out,l.out];obtain⟨b,g⟩:=nm (K+1+1);rw[g.out];obtain⟨ob,A⟩:=nm (K+1);rw[A.out] at o0 o1 o2 W l1 ⊢;go_wp2_with (first|(go_at_call 17;go_must ((refine O.out.mono ?_);rintro e x ⟨rfl,H⟩;refine sO ?_)))
 refine sN ?_;have j:=HX.out.2.1.trans (H.mono HX.out.2.1.size);have G:=hJ.1.below j;have B:=HX.out.1.keep (Keep.of_below H (fun _=>False)) (fun _ _ e=>e);obtain⟨⟨a0,a1,a2,a3,a4,a5⟩,⟨o0,o1,o2,W⟩,⟨r0,r1,r2,r3,r4,r5⟩,_,s,ls⟩:=B.cells l.out;rw[show K+2=b from g.out] at r0 r1 r2 r3 r4 r5 s ls;rw[A.out] at o0 o1 o2 W;have l0:K<x.heap.size:=by have:=g.out;omega
 have l1:ob<x.heap.size:=by have:=g.out;have:=A.out;omega
 have f0:=s 0;have f1:=s 1;have f2:=s 2;have f3:=s 3;have f4:=s 4;have f5:=s 5;have E:=ah (aC B j);have Y:=ah (MG (some ⟨t,0,none⟩) m pM 12 x (G.usable _) (by decide));have X:=ah (Cy (some ⟨t,0,none⟩) m 12 x (G.usable _) (by decide));clear B j H G s hJ hv;obtain⟨I,q⟩:=nx ((((((x.setCell ⟨b,0,none⟩ (.pointer (some ⟨t,0,none⟩))).setCell ⟨b,1,none⟩ (.pointer (some ⟨z,0,none⟩))).setCell ⟨b,2,none⟩ (.int .i64 c)).setCell ⟨b,3,none⟩ (.int .i64 d)).setCell ⟨b,4,none⟩ (.int .i64 12)).setCell ⟨b,5,none⟩ (.bool J));have S:Keep (· =b) x I:=by
  rw[q];exact((((((Keep.refl (· =b) x).setCell (p:=⟨b,0,none⟩) (.inr rfl) _).setCell (p:=⟨b,1,none⟩) (.inr rfl) _).setCell (p:=⟨b,2,none⟩) (.inr rfl) _).setCell (p:=⟨b,3,none⟩) (.inr rfl) _).setCell (p:=⟨b,4,none⟩) (.inr rfl) _).setCell (p:=⟨b,5,none⟩) (.inr rfl) _
 have T:x.heap[b]? =some (.cells #[.pointer none,.pointer none,.int .i64 0,.int .i64 0,.int .i64 0,.bool false] 130 (0,0)):=by
  have:=E.out.1.r;rwa [show w.heap.size+2=b by have:=l.out;have:=g.out;omega] at this
 have P:I.heap[b]? =some (.cells #[.pointer (some ⟨t,0,none⟩),.pointer (some ⟨z,0,none⟩),.int .i64 c,.int .i64 d,.int .i64 12,.bool J] 130 (0,0)):=by
  rw[q];simp[World.setCell,aQ,T]
 have M:Below w.heap.size w I:=E.out.2.trans (S.jF E.out.2.size (fun i hi e=>by have:=l.out;have:=g.out;have e:i=b:=e;omega));have f:=ah (aC q (aC P M));clear q S T P M
 by_cases qc:k%8=0
 ·go_wp2_with (first|(go_at_call 23;go_must ((refine Y.out.mono ?_);rintro e w6 ⟨hw,rfl⟩;subst w6)))
  rw[<-f.out.1];refine jE (jd rfl _ I b _ (.bool true) rfl (mG I b 130 130 _ (0,0) _ f.out.2.1 kP rfl (by kernel_rfl)) rfl) rfl ?_;exact⟨rfl,f.out.2.2⟩
 ·go_wp2_with (first|(go_at_call 117;go_must ((refine X.out.mono ?_);rintro e w6 ⟨hw,rfl⟩;subst w6)))
  rw[<-f.out.1];refine jE (jd rfl _ I b _ (.bool true) rfl (mG I b 130 130 _ (0,0) _ f.out.2.1 kP rfl (by kernel_rfl)) rfl) rfl ?_;exact⟨rfl,f.out.2.2⟩
variable {D:Nat->Dk->Lg->Pg->Prop}
theorem Jh (F F0:Nat->Prop)(v r t H N R u P:Nat)(af kv:List Pr)(av:List (List Pr))(C:Bool)(f g k n:Int)(d a:ByteArray)(w:World)(hJ:JT D F F0 v r t H N R u P av af kv C w)(hk:0<=k/\k<=255)(hv:a.size<=maxLen)(c:¬tu d (if k%8=0 then strOf (nC a n) else⟨#[]⟩)):
  Calls Tryz.prog 70 #[.pointer (some ⟨v,0,none⟩),.agg #[.pointer (some ⟨t,0,none⟩),.pointer (some ⟨H,0,none⟩),.int .i64 f,.int .i64 g,.int .i64 0,.bool C],.agg #[.int .u8 k,.string d,.string a,.int .i64 n]] w fun e w'=>e= .returned (.tuple #[qw t H f g 0 C,.bool true])/\Below w.heap.size w w':=by
 obtain⟨x,O,G⟩:=Bx.new w t H f g 0 C k n d a;obtain⟨w3,qb⟩:=nm ((((w.alloc (.cells #[.pointer (some ⟨t,0,none⟩),.pointer (some ⟨H,0,none⟩),.int .i64 f,.int .i64 g,.int .i64 0,.bool C] 130)).alloc (.cells #[.int .u8 k,.string d,.string a,.int .i64 n] 37)).alloc (.cells #[.pointer none,.pointer none,.int .i64 0,.int .i64 0,.int .i64 0,.bool false] 130)));rw[qb.out] at x O G;obtain⟨W,q⟩:=nm w.heap.size;have Y:=ah (zo a n w3 hv);obtain⟨⟨a0,a1,a2,a3,a4,a5⟩,⟨o0,o1,o2,o3⟩,_,_,_,ls⟩:=x.cells q.out;have l0:W<w3.heap.size:=by omega
 have l1:W+1<w3.heap.size:=by omega
 have HX:=ah (aC x (aC O G));obtain⟨J,B⟩:=nm (strOf (nC a n));rw[B.out] at Y;clear x O G;go_enter Tryz.func70,Tryz.ntmps70;go_upto_region 1 with (fail)
 rw[qb.out,q.out];obtain⟨b,m⟩:=nm (W+1+1);rw[m.out];obtain⟨ob,K⟩:=nm (W+1);rw[K.out] at o0 o1 o2 o3 l1 ⊢;go_wp2_with (first|(go_at_call 17;go_must ((refine Y.out.mono ?_);rintro e l ⟨rfl,T⟩;refine sO ?_)))
 refine sN ?_;have o:=HX.out.2.1.trans (T.mono HX.out.2.1.size);have S:=hJ.1.below o;have M:=HX.out.1.keep (Keep.of_below T (fun _=>False)) (fun _ _ e=>e);obtain⟨⟨a0,a1,a2,a3,a4,a5⟩,⟨o0,o1,o2,o3⟩,⟨r0,r1,r2,r3,r4,r5⟩,_,z,ls⟩:=M.cells q.out;rw[show W+2=b from m.out] at r0 r1 r2 r3 r4 r5 z ls;rw[K.out] at o0 o1 o2 o3;have l0:W<l.heap.size:=by have:=m.out;omega
 have l1:ob<l.heap.size:=by have:=m.out;have:=K.out;omega
 have f0:=z 0;have f1:=z 1;have f2:=z 2;have f3:=z 3;have f4:=z 4;have f5:=z 5;have Q:=ah (aC M o);rw[B.out] at c;have p9:k%8=0->Calls Tryz.prog 23 #[.pointer (some ⟨t,0,none⟩),.string d,.string J] l fun e w'=>w'=l/\e= .returned (.int .i64 1):=fun h=>by
  rw[if_pos h] at c;exact S.Tm d J c
 have Z:¬k%8=0->Calls Tryz.prog 117 #[.pointer (some ⟨t,0,none⟩),.string d] l fun e w'=>w'=l/\e= .returned (.tuple #[.bool false,.int .i64 1]):=fun h=>by
  rw[if_neg h] at c;exact Cy (some ⟨t,0,none⟩) d 1 l (S.no fun e=>c ⟨e,by decide⟩) (by decide)
 have aA:=ah (AL d J l);have q9:=ah (AL d ⟨#[]⟩ l);have q8:=ah p9;have qo:=ah Z;have A:=ah c;clear p9 Z c;clear M o T S z hJ hv;obtain⟨V,y⟩:=nx ((((((l.setCell ⟨b,0,none⟩ (.pointer (some ⟨t,0,none⟩))).setCell ⟨b,1,none⟩ (.pointer (some ⟨H,0,none⟩))).setCell ⟨b,2,none⟩ (.int .i64 f)).setCell ⟨b,3,none⟩ (.int .i64 g)).setCell ⟨b,4,none⟩ (.int .i64 0)).setCell ⟨b,5,none⟩ (.bool C));have qc:Keep (· =b) l V:=by
  rw[y];exact((((((Keep.refl (· =b) l).setCell (p:=⟨b,0,none⟩) (.inr rfl) _).setCell (p:=⟨b,1,none⟩) (.inr rfl) _).setCell (p:=⟨b,2,none⟩) (.inr rfl) _).setCell (p:=⟨b,3,none⟩) (.inr rfl) _).setCell (p:=⟨b,4,none⟩) (.inr rfl) _).setCell (p:=⟨b,5,none⟩) (.inr rfl) _
 have ql:l.heap[b]? =some (.cells #[.pointer none,.pointer none,.int .i64 0,.int .i64 0,.int .i64 0,.bool false] 130 (0,0)):=by
  have:=Q.out.1.r;rwa [show w.heap.size+2=b by have:=q.out;have:=m.out;omega] at this
 have pM:V.heap[b]? =some (.cells #[.pointer (some ⟨t,0,none⟩),.pointer (some ⟨H,0,none⟩),.int .i64 f,.int .i64 g,.int .i64 0,.bool C] 130 (0,0)):=by
  rw[y];simp[World.setCell,aQ,ql]
 have X:Below w.heap.size w V:=Q.out.2.trans (qc.jF Q.out.2.size (fun i hi e=>by have:=q.out;have:=m.out;have e:i=b:=e;omega));have j:=ah (aC y (aC pM X));clear y qc ql pM X
 by_cases s:k%8=0
 ·have E:=A.out
  rw[if_pos s] at E;have HG:=ah aA.out;rw[bM E] at HG;have HP:=ah (q8.out s);clear E;go_wp2_with (first|(go_at_call 18;go_must ((refine HG.out.mono ?_);rintro e I ⟨hw,rfl⟩;subst I))|(go_at_call 23;go_must ((refine HP.out.mono ?_);rintro e I ⟨hw,rfl⟩;subst I)))
  rw[<-j.out.1];refine jE (jd rfl _ V b _ (.bool true) rfl (mG V b 130 130 _ (0,0) _ j.out.2.1 kP rfl (by kernel_rfl)) rfl) rfl ?_;exact⟨rfl,j.out.2.2⟩
 ·have E:=A.out
  rw[if_neg s] at E;have HG:=ah q9.out;rw[bM E] at HG;have HD:=ah (qo.out s);clear E;go_wp2_with (first|(go_at_call 18;go_must ((refine HG.out.mono ?_);rintro e I ⟨hw,rfl⟩;subst I))|(go_at_call 117;go_must ((refine HD.out.mono ?_);rintro e I ⟨hw,rfl⟩;subst I)))
  rw[<-j.out.1];refine jE (jd rfl _ V b _ (.bool true) rfl (mG V b 130 130 _ (0,0) _ j.out.2.1 kP rfl (by kernel_rfl)) rfl) rfl ?_;exact⟨rfl,j.out.2.2⟩
variable {D:Nat->Dk->Lg->Pg->Prop}
def mE.WJ {k:gV}{w:World}{v j:Nat}{c f:List Pr}{l:Bool}(h:mE k v t N R j u f c l P w)(b a:ByteArray)(n:c.length<=4090)(m:1<=b.size/\b.size<=128)(p:a.size<=49152):
  Calls Tryz.prog 23 #[.pointer (some ⟨t,0,none⟩),.string b,.string a] w fun e g=>
   (e= .returned (.int .i64 0)/\∃Q,((kC c b a).length<=299->Q<=P+(65+gu a))/\mE k v t N R j u f (kC c b a) (l|| !decide (dL c b=some a)) Q g)\/
   (e= .returned (.int .i64 12)/\N<2+u+lW c+2*(c.length+1)+gu a/\xZ k v t N R j u f g):=by
 by_cases o:(kC c b a).length<=299
 ·refine(h.QJ b a n m p o).mono ?_
  rintro e g (⟨i,d⟩|d)
  ·exact .inl ⟨i,_,fun _=>aD _,d⟩
  ·exact .inr d
 ·refine((h.more (P':=P+(2+u+lW c+2*(c.length+1)+gu a)) (by omega)).put b a n m p (by omega)).mono ?_
  rintro e g (⟨i,d⟩|d)
  ·exact .inl ⟨i,_,fun e=>absurd e o,d⟩
  ·exact .inr d
def mE.TL {f:gV}{w:World}{v d:Nat}{b c:List Pr}{i:Bool}(h:mE f v t N R d u c b i P w)(a:ByteArray)(k:b.length<=4090)(j:1<=a.size/\a.size<=128)(l:b.length<=299):
  Calls Tryz.prog 117 #[.pointer (some ⟨t,0,none⟩),.string a] w fun e g=>
   (e= .returned (.tuple #[.bool (dL b a).isSome,.int .i64 0])/\mE f v t N R d u c (jR b a) (i||(dL b a).isSome) (P+65) g)\/
   (e= .returned (.tuple #[.bool false,.int .i64 12])/\N<2+u+lW b+2*(b.length+1)/\xZ f v t N R d u c g):=
 h.delete a k j (aK (by unfold jR;split<;>simp<;>omega) l)
def Bx.set2 {w:World}{c:Int}(h:Bx w W t i d c e j k n b a){f:Nat}(l:w.heap.size=f)(x:Int):Bx w (W.setCell ⟨f,2,none⟩ (.int .i64 x)) t i x c e j k n b a/\Keep (· =f) W (W.setCell ⟨f,2,none⟩ (.int .i64 x)):=by
 subst l;have g:Keep (· =w.heap.size) W (W.setCell ⟨w.heap.size,2,none⟩ (.int .i64 x)):=(Keep.refl (· =w.heap.size) W).setCell (p:=⟨w.heap.size,2,none⟩) (.inr rfl) _;refine⟨⟨?_,(g.block _ (ai.1 h.o).1 (by omega)).trans h.o,(g.block _ (ai.1 h.r).1 (by omega)).trans h.r⟩,g⟩;simp[World.setCell,aQ,h.s]
def Bx.Oa {w:World}{b g:Int}(h:Bx w W t i b g d j k n c a){e:Nat}(l:w.heap.size=e)(x:Int):Bx w (W.setCell ⟨e,3,none⟩ (.int .i64 x)) t i b x d j k n c a/\Keep (· =e) W (W.setCell ⟨e,3,none⟩ (.int .i64 x)):=by
 subst l;have f:Keep (· =w.heap.size) W (W.setCell ⟨w.heap.size,3,none⟩ (.int .i64 x)):=(Keep.refl (· =w.heap.size) W).setCell (p:=⟨w.heap.size,3,none⟩) (.inr rfl) _;refine⟨⟨?_,(f.block _ (ai.1 h.o).1 (by omega)).trans h.o,(f.block _ (ai.1 h.r).1 (by omega)).trans h.r⟩,f⟩;simp[World.setCell,aQ,h.s]
def Bx.V3 {w:World}{b g:Int}(h:Bx w W t i b d g j k n c a){e:Nat}(l:w.heap.size=e)(x:Int):Bx w (W.setCell ⟨e,4,none⟩ (.int .i64 x)) t i b d x j k n c a/\Keep (· =e) W (W.setCell ⟨e,4,none⟩ (.int .i64 x)):=by
 subst l;have f:Keep (· =w.heap.size) W (W.setCell ⟨w.heap.size,4,none⟩ (.int .i64 x)):=(Keep.refl (· =w.heap.size) W).setCell (p:=⟨w.heap.size,4,none⟩) (.inr rfl) _;refine⟨⟨?_,(f.block _ (ai.1 h.o).1 (by omega)).trans h.o,(f.block _ (ai.1 h.r).1 (by omega)).trans h.r⟩,f⟩;simp[World.setCell,aQ,h.s]
def Bx.VZ {w:World}{b:Int}(h:Bx w W t i b d e j k n c a){f:Nat}(l:w.heap.size=f)(x:Bool):Bx w (W.setCell ⟨f,5,none⟩ (.bool x)) t i b d e x k n c a/\Keep (· =f) W (W.setCell ⟨f,5,none⟩ (.bool x)):=by
 subst l;have g:Keep (· =w.heap.size) W (W.setCell ⟨w.heap.size,5,none⟩ (.bool x)):=(Keep.refl (· =w.heap.size) W).setCell (p:=⟨w.heap.size,5,none⟩) (.inr rfl) _;refine⟨⟨?_,(g.block _ (ai.1 h.o).1 (by omega)).trans h.o,(g.block _ (ai.1 h.r).1 (by omega)).trans h.r⟩,g⟩;simp[World.setCell,aQ,h.s]
def Bx.drew {w W:World}{t e:Nat}{a c d:Int}{f:Bool}{k n:Int}{b value:ByteArray}(h:Bx w W t e a c d f k n b value):Bx w W.drew t e a c d f k n b value:=⟨h.s,h.o,h.r⟩
def jT {g:Nat}{a b c d e f:Value}(h:W.heap[g]? =some (.cells #[a,b,c,d,e,f] 130 (0,0))):
  W.cell? ⟨g,0,none⟩=some a/\W.cell? ⟨g,1,none⟩=some b/\W.cell? ⟨g,2,none⟩=some c/\W.cell? ⟨g,3,none⟩=some d/\W.cell? ⟨g,4,none⟩=some e/\W.cell? ⟨g,5,none⟩=some f/\g<W.heap.size:=by
 refine⟨?_,?_,?_,?_,?_,?_,(ai.1 h).1⟩<;>simp[World.cell?,h]
def Dp {e:Nat}{a b c d:Value}(h:W.heap[e]? =some (.cells #[a,b,c,d] 37 (0,0))):
  W.cell? ⟨e,1,none⟩=some b/\e<W.heap.size:=by
 refine⟨?_,(ai.1 h).1⟩;simp[World.cell?,h]
def Ea {F m:Nat->Prop}{v r k Q:Nat}{o:List (List Pr)}{n p:List Pr}{z:Bool}{w f C c a j:World}(J:∀g,m g->F g)(E:∀g,m g->g<w.heap.size)(A:m k){B s:Nat}(V:w.heap.size=B)(W:B+1+1=s)(h4:s<f.heap.size)
  (G:Below w.heap.size w f) (S:mE ⟨jm F w f,f,D⟩ v t N R o.length u n p z Q C) (y:Keep (fun g=>¬jm F w f g) f C) (l:Keep (· =B) C c) (d:Keep (· =k) c a) (hR:wX (jm m c a) a r k (o++[n]) p) (b:Keep (· =s) a j):
  ∃H x,Fr F m w H x j/\JT D H x v r t k N R u Q o n p z j:=by
 have z4:=G.size;have z6:=y.size;have zA:=l.size;have pM:=d.size;have Y:=b.size;have I:∀g,w.heap.size<=g->g<f.heap.size->jm F w f g:=fun g T O=> .inr ⟨T,O⟩
 refine⟨jm (jm (jm (jm F w f) C c) c a) a j,jm m c a,⟨?_,?_,?_,?_⟩,?_,?_⟩
 ·rintro g (i|i)
  ·exact .inl (.inl (.inl (.inl (J g i))))
  ·exact .inl (.inr i)
 ·exact fun g i=> .inl (.inl (.inl (.inl i)))
 ·rintro g (i|i)
  ·exact .inl i
  ·exact .inr (by omega)
 ·have K:Keep (fun g=>F g->m g) w f:=Keep.of_below G _
  have Z:=K.trans y (fun g _ e=>fun q=>absurd (Or.inl q) e);have P:=Z.trans l (fun g i e=>by have e:g=B:=e;omega);have k4:=P.trans d (fun g _ e=>by have e:g=k:=e;exact fun _=>e▸A);exact k4.trans b (fun g i e=>by have e:g=s:=e;omega)
 ·have X:=S.next l (fun g e=>by have e:g=B:=e;exact I g (by omega) (by omega))
  have M:=X.next d (fun g e=>by have e:g=k:=e;exact .inl (.inl (e▸J k A)));exact M.next b (fun g e=>by have e:g=s:=e;exact .inl (.inl (I g (by omega) (by omega))))
 ·refine hR.prog (b.mono (fun g _ e q=> ?_))
  have e:g=s:=e;rcases q with q|q
  ·have:=E g q;omega
  ·omega
def BH {F l:Nat->Prop}{v r y:Nat}{k:List (List Pr)}{j C:List Pr}{w c q b d:World}(O:∀g,l g->F g)(s:∀g,l g->g<w.heap.size){p m:Nat}(K:w.heap.size=p)(M:p+1+1=m)(W:m<c.heap.size)
  (z:Below w.heap.size w c) (I:xZ ⟨jm F w c,c,D⟩ v t N R k.length u j q) (o:Keep (fun g=>¬jm F w c g) c q) (f:Keep (· =p) q b) (T:wX l b r y (k++[j]) C) (a:Keep (· =m) b d):
  ∃A n,Fr F l w A n d/\JE D A n v r t y N R u k j C d:=by
 have V:=z.size;have X:=o.size;have Y:=f.size;have Q:=a.size;have B:∀g,w.heap.size<=g->g<c.heap.size->jm F w c g:=fun g J G=> .inr ⟨J,G⟩
 refine⟨jm (jm (jm F w c) q b) b d,l,⟨fun g i=> .inl (.inl (.inl (O g i))),fun g i=> .inl (.inl (.inl i)),fun _ i=> .inl i,?_⟩,?_,?_⟩
 ·have E:Keep (fun g=>F g->l g) w c:=Keep.of_below z _
  have S:=E.trans o (fun g _ e=>fun x=>absurd (Or.inl x) e);have H:=S.trans f (fun g i e=>by have e:g=p:=e;omega);exact H.trans a (fun g i e=>by have e:g=m:=e;omega)
 ·have P:=I.next f (fun g e=>by have e:g=p:=e;exact B g (by omega) (by omega))
  exact P.next a (fun g e=>by have e:g=m:=e;exact .inl (B g (by omega) (by omega)))
 ·refine T.prog (a.mono (fun g _ e x=> ?_))
  have e:g=m:=e;have:=s g x;omega
theorem Jf (F F0:Nat->Prop)(hF:∀g,F0 g->F g)(v r t rt N R u P:Nat)(j3 kv:List Pr)(j6:List (List Pr))(ch:Bool)(a d k n:Int)(q b:ByteArray)(w:World)(hJ:JT D F F0 v r t rt N R u P j6 j3 kv ch w)(hk:0<=k/\k<=255)(hv:b.size<=maxLen)(y:tu q (strOf (nC b n)))(xE:k%8=0)(hr:fG kv)(hl:kv.length<=4000)(yK:0<=a/\a<=100000000)(zA:0<=d/\d<=100000000)(nJ:((2+u+lW kv+2*(kv.length+1)+gu (strOf (nC b n)):Nat):Int)<=a+4*((2+gu (strOf (nC b n)):Nat):Int)):
  Calls Tryz.prog 70 #[.pointer (some ⟨v,0,none⟩),.agg #[.pointer (some ⟨t,0,none⟩),.pointer (some ⟨rt,0,none⟩),.int .i64 a,.int .i64 d,.int .i64 0,.bool ch],.agg #[.int .u8 k,.string q,.string b,.int .i64 n]] w fun e w'=>
   ∃F' av,Fr F F0 w F' av w'/\
    ((∃Q,e= .returned (.tuple #[qw t rt (a+4*((2+gu (strOf (nC b n)):Nat):Int)) (d+4*((2+gu (strOf (nC b n)):Nat):Int)+64) 0 (ch|| !decide (dL kv q=some (strOf (nC b n)))),.bool true])/\
      JT D F' av v r t rt N R u Q j6 j3 (kC kv q (strOf (nC b n))) (ch|| !decide (dL kv q=some (strOf (nC b n)))) w'/\((kC kv q (strOf (nC b n))).length<=299->Q<=P+(65+gu (strOf (nC b n)))))\/
     (e= .returned (.tuple #[qw t rt (a+4*((2+gu (strOf (nC b n)):Nat):Int)) (d+4*((2+gu (strOf (nC b n)):Nat):Int)+64) 12 ch,.bool true])/\JE D F' av v r t rt N R u j6 j3 kv w')):=by
 obtain⟨jF,o5,nA⟩:=Bx.new w t rt a d 0 ch k n q b;obtain⟨w3,r9⟩:=nm ((((w.alloc (.cells #[.pointer (some ⟨t,0,none⟩),.pointer (some ⟨rt,0,none⟩),.int .i64 a,.int .i64 d,.int .i64 0,.bool ch] 130)).alloc (.cells #[.int .u8 k,.string q,.string b,.int .i64 n] 37)).alloc (.cells #[.pointer none,.pointer none,.int .i64 0,.int .i64 0,.int .i64 0,.bool false] 130)));rw[r9.out] at jF o5 nA;obtain⟨f,c⟩:=nm w.heap.size;have rV:=ah (zo b n w3 hv);obtain⟨⟨a0,a1,a2,a3,a4,a5⟩,⟨H,G,E,C⟩,_,_,_,J⟩:=jF.cells c.out;have I:f<w3.heap.size:=by omega
 have l1:f+1<w3.heap.size:=by omega
 have HX:=ah (aC jF (aC o5 nA));obtain⟨T,bB⟩:=nm (strOf (nC b n));rw[bB.out] at rV;clear jF o5 nA;go_enter Tryz.func70,Tryz.ntmps70;go_upto_region 1 with (fail)
 rw[r9.out,c.out];obtain⟨l,m⟩:=nm (f+1+1);rw[m.out];obtain⟨ob,o⟩:=nm (f+1);rw[o.out] at H G E C l1 ⊢;go_wp2_with (first|(go_at_call 17;go_must ((refine rV.out.mono ?_);rintro e w4 ⟨rfl,rA⟩;refine sO ?_)))
 refine sN ?_;have qb:=HX.out.2.1.trans (rA.mono HX.out.2.1.size);have zf:=hJ.1.below qb;have oo:=HX.out.1.keep (Keep.of_below rA (fun _=>False)) (fun _ _ e=>e);obtain⟨⟨a0,a1,a2,a3,a4,a5⟩,⟨H,G,E,C⟩,⟨r0,r1,r2,r3,r4,r5⟩,_,s,J⟩:=oo.cells c.out;rw[show f+2=l from m.out] at r0 r1 r2 r3 r4 r5 s J;rw[o.out] at H G E C;have I:f<w4.heap.size:=by have:=m.out;omega
 have l1:ob<w4.heap.size:=by have:=m.out;have:=o.out;omega
 have f0:=s 0;have f1:=s 1;have f2:=s 2;have f3:=s 3;have f4:=s 4;have f5:=s 5;have bN:=ah (aC oo qb);rw[bB.out] at y nJ;have xP:=ah nJ;clear nJ;have xV:=y.2;obtain⟨bc,di⟩:=nm (gu T);have zP:bc<=97:=by rw[<-di.out];unfold gu rM;split<;>omega
 have X:=fun W=>QG T W (by omega)
 rw[di.out] at X;have tQ:=ah X;have vv:mE ⟨jm F w w4,w4,D⟩ v t N R j6.length u j3 kv ch P w4:=hJ.1.next (M:=fun _=>False) (Keep.of_below qb _) (fun _ e=>e.elim);have vo:=hJ.2.prog (Keep.of_below qb (fun g=>¬F0 g));have yo:=ah (vv.WJ q T (by omega) y.1 y.2);have hG:=AL q T;rw[d9 y] at hG;have HG:=ah hG;clear hG;have rJ:=ah vo;have rX:∀g,F0 g->g<w.heap.size:=fun g e=>hJ.1.fs g (hF g e)
 clear vv vo X y xV;clear oo qb rA zf s hJ hv;have bH:=ah rX;have jv:=ah hF;have vO:=ah xE;have l6:∀g,w.heap.size<=g/\g<=w.heap.size+2->jm F w w4 g:=fun g hg=> .inr ⟨hg.1,by have:=c.out;have:=m.out;omega⟩
 have nk:=ah l6;clear l6;go_wp2_with (first|(go_at_call 23;go_must ((refine yo.out.mono ?_);rintro e w6 (⟨rfl,Q,hQ,oO⟩|⟨rfl,ko,mo⟩)<;>refine sO ?_)))
 ·refine sN ?_
  have q9:=oO.jl;have af:=bN.out.1.keep q9 (fun g hg e=>e (nk.out g hg));obtain⟨⟨a0,a1,a2,a3,a4,a5⟩,⟨H,G,E,C⟩,⟨r0,r1,r2,r3,r4,r5⟩,z,s,J⟩:=af.cells c.out;rw[show f+2=l from m.out] at r0 r1 r2 r3 r4 r5 s J;rw[o.out] at H G E C;have I:f<w6.heap.size:=by have:=m.out;omega
  have l1:ob<w6.heap.size:=by have:=m.out;have:=o.out;omega
  have f2:=z 2;have f3:=z 3;have f5:=z 5;have V:=ah (aC oO (aC q9 (aC af hQ)));clear oO q9 af hQ z s;go_wp2_with (first|(go_at_call 18;go_must ((refine(HG.out w6).mono ?_);rintro e w7 ⟨hw,rfl⟩;subst w7)))
  obtain⟨pM,Y⟩:∃pM:Int,pM=((2+bc:Nat):Int):=⟨_,rfl⟩
  obtain⟨j,q8⟩:∃j:Int,j=4*pM:=⟨_,rfl⟩
  have q1:IntKind.i64.wrap (4*pM)=j:=by rw[aG _ (by omega),q8]
  have q2:IntKind.i64.wrap (a+j)=a+j:=aG _ (by omega);have q3:IntKind.i64.wrap (d+j)=d+j:=aG _ (by omega);have q4:IntKind.i64.wrap (d+j+64)=d+j+64:=aG _ (by omega);have X:=tQ.out;rw[<-Y] at X;have qc:=ah X;have qo:=ah (aC q8 Y);clear q8 X Y;refine aP (fun W=>W.cell? ⟨f,2,none⟩=some (.int .i64 a)/\f<W.heap.size/\W.frozen? ⟨f,2,none⟩=false) (fun i=> !([3,7].contains i)) [0,1,2,3,4,5,6,7] rfl (by kernel_rfl) ⟨a2,I,f2⟩ ?_
  repeat (refine oq ?_ rfl rfl rfl ?_ ?_;rotate_left;(focus intro W x;(try dsimp only at x);obtain⟨x0,x1,x2⟩:=x;go_simp;first|done|with_reducible rfl);try simp only[Act.put,aj,au,ak])
  refine dI rfl rfl rfl ?_;intro K hK;go_simp;refine(qc.out _).mono ?_;rintro e w7 ⟨iO,rfl⟩;subst w7;refine hK.out _ _ ⟨a2,I,f2⟩ ?_
  (try simp only[Act.put,aj,au,ak])
  repeat (refine oq ?_ rfl rfl rfl ?_ ?_;rotate_left;(focus intro W x;(try dsimp only at x);obtain⟨x0,x1,x2⟩:=x;go_simp;first|done|with_reducible rfl);try simp only[Act.put,aj,au,ak])
  refine jC rfl rfl rfl (by kernel_rfl) ?_;intro K hK;go_simp;refine hK.out _ _ ?_;refine bR ?_;obtain⟨B,O⟩:=V.out.2.2.1.set2 c.out (a+j);have B:=B.drew;have O:=O.drew;obtain⟨w7,iO⟩:=nm ((w6.setCell ⟨f,2,none⟩ (.int .i64 (a+j))).drew);rw[iO.out] at B O ⊢;clear a0 a1 a2 a3 a4 a5 H G E C r0 r1 r2 r3 r4 r5 J I l1 f2 f3 f5;obtain⟨⟨a0,a1,a2,a3,a4,a5⟩,⟨H,G,E,C⟩,_,z,_,J⟩:=B.cells c.out;rw[o.out] at H G E C;have I:f<w7.heap.size:=by omega
  have f3:=z 3;have fA:=ah (aC B O);clear B O z;go_wp2_with fail;refine aP (fun W=>W.cell? ⟨f,3,none⟩=some (.int .i64 d)/\f<W.heap.size/\W.frozen? ⟨f,3,none⟩=false) (fun i=> !([3,7].contains i)) [0,1,2,3,4,5,6,7] rfl (by kernel_rfl) ⟨a3,I,f3⟩ ?_
  repeat (refine oq ?_ rfl rfl rfl ?_ ?_;rotate_left;(focus intro W x;(try dsimp only at x);obtain⟨x0,x1,x2⟩:=x;go_simp;first|done|with_reducible rfl);try simp only[Act.put,aj,au,ak])
  refine dI rfl rfl rfl ?_;intro K hK;go_simp;refine(qc.out _).mono ?_;rintro e w8 ⟨dZ,rfl⟩;subst w8;refine hK.out _ _ ⟨a3,I,f3⟩ ?_
  (try simp only[Act.put,aj,au,ak])
  repeat (refine oq ?_ rfl rfl rfl ?_ ?_;rotate_left;(focus intro W x;(try dsimp only at x);obtain⟨x0,x1,x2⟩:=x;go_simp;first|done|with_reducible rfl);try simp only[Act.put,aj,au,ak])
  refine jC rfl rfl rfl (by kernel_rfl) ?_;intro K hK;go_simp;refine hK.out _ _ ?_;refine bR ?_;obtain⟨A,Z⟩:=fA.out.1.Oa c.out (d+j);have A:=A.drew;have Z:=Z.drew;obtain⟨w8,dZ⟩:=nm ((w7.setCell ⟨f,3,none⟩ (.int .i64 (d+j))).drew);rw[dZ.out] at A Z ⊢;clear a0 a1 a2 a3 a4 a5 H G E C I f3 J;obtain⟨⟨a0,a1,a2,a3,a4,a5⟩,⟨H,G,E,C⟩,_,z,_,J⟩:=A.cells c.out;rw[o.out] at H G E C;have I:f<w8.heap.size:=by omega
  have f3:=z 3;have dR:=ah (aC A (fA.out.2.trans Z (fun _ _ e=>e)));clear A Z z;go_upto_region 17 with (fail)
  obtain⟨p9,aB⟩:=dR.out.1.Oa c.out (d+j+64);obtain⟨w9,mr⟩:=nm (w8.setCell ⟨f,3,none⟩ (.int .i64 (d+j+64)));rw[mr.out] at p9 aB ⊢;have S:Keep (· =f) w6 w9:=dR.out.2.trans aB (fun _ _ e=>e);have kT:¬F0 f:=fun e=>by
   have:=bH.out f e;have:=c.out;omega
  have za:∀g,F0 g->jm F w w4 g:=fun g e=> .inl (jv.out g e)
  have bC:=(rJ.out.prog (V.out.2.1.out za)).prog (S.mono (fun g _ e hf=>kT (e▸hf)));clear a0 a1 a2 a3 a4 a5 H G E C I f3 J;obtain⟨⟨a0,a1,a2,a3,a4,a5⟩,⟨H,G,E,C⟩,_,z,_,J⟩:=p9.cells c.out;rw[o.out] at H G E C;have I:f<w9.heap.size:=by omega
  have l1:ob<w9.heap.size:=by have:=o.out;omega
  have f5:=z 5;have tY:=ah (bC.get q hr (by omega));have aA:=ah (aC p9 (aC S bC));clear p9 aB S bC z;obtain⟨lv,rF⟩:=nx ((dL kv q).getD ⟨#[]⟩);obtain⟨lb,rG⟩:=nx ((dL kv q).isSome);rw[<-rF,<-rG] at tY;have vz:=ah (aC rF rG);clear rF rG;have zS:k%8=0:=vO.out;go_upto_region 22 with (first|(go_at_call 118;go_must ((refine tY.out.mono ?_);rintro e ql ⟨rfl,hw⟩;subst ql)))
  obtain⟨nc,j4⟩:∃nc:Bool,Hid (nc=(ch|| !lb||decide (lv≠T))):=⟨_,ah rfl⟩
  obtain⟨jO,j5⟩:=aA.out.1.VZ c.out nc;obtain⟨ql,bA⟩:=nm (w9.setCell ⟨f,5,none⟩ (.bool nc));rw[bA.out] at jO j5;have kr:Keep (· =f) w6 ql:=aA.out.2.1.trans j5 (fun _ _ e=>e);have oK:=aA.out.2.2.prog (j5.mono (fun g _ e hf=>kT (e▸hf)));have nH:F0 rt:=by obtain⟨cv,Ls,_,_,_,_,_,_,_,h,_⟩:=oK;exact h
  have lJ:=bH.out rt nH;have y7:=ah (oK.put q T hr (by omega));obtain⟨⟨b0,b1,b2,b3,b4,b5⟩,⟨p0,p1,p2,p3⟩,_,_,_,yc⟩:=jO.cells c.out;rw[o.out] at p0 p1 p2 p3;have m0:f<ql.heap.size:=by omega
  have m1:ob<ql.heap.size:=by have:=o.out;omega
  have yx:=ah nH;have nS:=ah (aC jO (aC kr lJ));clear jO kr j5 oK nH lJ J yc;go_upto_region 23 with (fail)
  all_goals first
   |rw[show w9.setCell ⟨f,5,none⟩ (.bool true)=ql from by rw[<-bA.out,j4.out,show ch=true by assumption];rfl]
   |rw[show w9.setCell ⟨f,5,none⟩ (.bool (!lv.toList==T.toList))=ql from by
     rw[<-bA.out,j4.out,show ch=false from vJ.2 (by assumption),show lb=true by assumption]
     by_cases e:lv=T
     ·rw[Vv e,e];simp
     ·rw[U6 e];simp[e]]
   |rw[show w9.setCell ⟨f,5,none⟩ (.bool true)=ql from by rw[<-bA.out,j4.out,show ch=false from vJ.2 (by assumption),show lb=false from vJ.2 (by assumption)];rfl]
  all_goals
   go_wp2_with (first|(go_at_call 24;go_must ((refine y7.out.mono ?_);rintro e fo ⟨rfl,lm,fK⟩;refine sO ?_)))
   refine sN ?_;have dn:=nS.out.1.keep fK (fun g hg e=>by have e:g=rt:=e;have:=nS.out.2.2;omega);obtain⟨⟨a0,a1,a2,a3,a4,a5⟩,_,⟨r0,r1,r2,r3,r4,r5⟩,_,s,J⟩:=dn.cells c.out;rw[show f+2=l from m.out] at r0 r1 r2 r3 r4 r5 s J;have I:f<fo.heap.size:=(by have:=m.out;omega);have f0:=s 0;have f1:=s 1;have f2:=s 2;have f3:=s 3;have f4:=s 4;have f5:=s 5;have HY:=ah (aC dn (aC fK lm));clear dn fK lm s;obtain⟨kg,jb⟩:=nm ((((((fo.setCell ⟨l,0,none⟩ (.pointer (some ⟨t,0,none⟩))).setCell ⟨l,1,none⟩ (.pointer (some ⟨rt,0,none⟩))).setCell ⟨l,2,none⟩ (.int .i64 (a+j))).setCell ⟨l,3,none⟩ (.int .i64 (d+j+64))).setCell ⟨l,4,none⟩ (.int .i64 0)).setCell ⟨l,5,none⟩ (.bool nc));have l9:Keep (· =l) fo kg:=by
    rw[<-jb.out];exact((((((Keep.refl (· =l) fo).setCell (p:=⟨l,0,none⟩) (.inr rfl) _).setCell (p:=⟨l,1,none⟩) (.inr rfl) _).setCell (p:=⟨l,2,none⟩) (.inr rfl) _).setCell (p:=⟨l,3,none⟩) (.inr rfl) _).setCell (p:=⟨l,4,none⟩) (.inr rfl) _).setCell (p:=⟨l,5,none⟩) (.inr rfl) _
   have lg:fo.heap[l]? =some (.cells #[.pointer none,.pointer none,.int .i64 0,.int .i64 0,.int .i64 0,.bool false] 130 (0,0)):=by
    have:=HY.out.1.r;rwa [show w.heap.size+2=l by have:=c.out;have:=m.out;omega] at this
   have lC:kg.heap[l]? =some (.cells #[.pointer (some ⟨t,0,none⟩),.pointer (some ⟨rt,0,none⟩),.int .i64 (a+j),.int .i64 (d+j+64),.int .i64 0,.bool nc] 130 (0,0)):=by
    rw[<-jb.out];simp[World.setCell,aQ,lg]
   have lQ:=ah (aC lC l9);clear lg lC l9;go_wp2_with fail;rw[jb.out];refine jE (jd rfl _ kg l _ (.bool true) rfl (mG kg l 130 130 _ (0,0) _ lQ.out.1 kP rfl (by kernel_rfl)) rfl) rfl ?_;obtain⟨F',av,mK,zb⟩:=Ea jv.out bH.out yx.out c.out m.out (m.out▸(bN.out.1.cells c.out).2.2.2.2.2) bN.out.2 V.out.1 V.out.2.1 nS.out.2.1 HY.out.2.1 HY.out.2.2 lQ.out.2;have zm:nc=(ch|| !decide (dL kv q=some T)):=(by rw[j4.out,vz.out.1,vz.out.2];cases dL kv q<;>simp);have o7:j=4*((2+gu T:Nat):Int):=(by rw[qo.out.1,qo.out.2,di.out]);rw[bB.out];exact⟨F',av,mK,.inl ⟨Q,by rw[<-o7,<-zm];rfl,zb,V.out.2.2.2⟩⟩
 ·refine sN ?_
  have q9:=mo.jl;have af:=bN.out.1.keep q9 (fun g hg e=>e (nk.out g hg));obtain⟨⟨a0,a1,a2,a3,a4,a5⟩,⟨H,G,E,C⟩,⟨r0,r1,r2,r3,r4,r5⟩,z,s,J⟩:=af.cells c.out;rw[show f+2=l from m.out] at r0 r1 r2 r3 r4 r5 s J;rw[o.out] at H G E C;have I:f<w6.heap.size:=by have:=m.out;omega
  have l1:ob<w6.heap.size:=by have:=m.out;have:=o.out;omega
  have f2:=z 2;have f3:=z 3;have f5:=z 5;have rP:=ah ko;clear ko;have V:=ah (aC mo (aC q9 af));clear mo q9 af z s;go_wp2_with (first|(go_at_call 18;go_must ((refine(HG.out w6).mono ?_);rintro e w7 ⟨hw,rfl⟩;subst w7)))
  obtain⟨pM,Y⟩:∃pM:Int,pM=((2+bc:Nat):Int):=⟨_,rfl⟩
  obtain⟨j,q8⟩:∃j:Int,j=4*pM:=⟨_,rfl⟩
  have q1:IntKind.i64.wrap (4*pM)=j:=by rw[aG _ (by omega),q8]
  have q2:IntKind.i64.wrap (a+j)=a+j:=aG _ (by omega);have q3:IntKind.i64.wrap (d+j)=d+j:=aG _ (by omega);have q4:IntKind.i64.wrap (d+j+64)=d+j+64:=aG _ (by omega);have X:=tQ.out;rw[<-Y] at X;have qc:=ah X;have qo:=ah (aC q8 Y);clear q8 X Y;refine aP (fun W=>W.cell? ⟨f,2,none⟩=some (.int .i64 a)/\f<W.heap.size/\W.frozen? ⟨f,2,none⟩=false) (fun i=> !([3,7].contains i)) [0,1,2,3,4,5,6,7] rfl (by kernel_rfl) ⟨a2,I,f2⟩ ?_
  repeat (refine oq ?_ rfl rfl rfl ?_ ?_;rotate_left;(focus intro W x;(try dsimp only at x);obtain⟨x0,x1,x2⟩:=x;go_simp;first|done|with_reducible rfl);try simp only[Act.put,aj,au,ak])
  refine dI rfl rfl rfl ?_;intro K hK;go_simp;refine(qc.out _).mono ?_;rintro e w7 ⟨iO,rfl⟩;subst w7;refine hK.out _ _ ⟨a2,I,f2⟩ ?_
  (try simp only[Act.put,aj,au,ak])
  repeat (refine oq ?_ rfl rfl rfl ?_ ?_;rotate_left;(focus intro W x;(try dsimp only at x);obtain⟨x0,x1,x2⟩:=x;go_simp;first|done|with_reducible rfl);try simp only[Act.put,aj,au,ak])
  refine jC rfl rfl rfl (by kernel_rfl) ?_;intro K hK;go_simp;refine hK.out _ _ ?_;refine bR ?_;obtain⟨B,O⟩:=V.out.2.2.set2 c.out (a+j);have B:=B.drew;have O:=O.drew;obtain⟨w7,iO⟩:=nm ((w6.setCell ⟨f,2,none⟩ (.int .i64 (a+j))).drew);rw[iO.out] at B O ⊢;clear a0 a1 a2 a3 a4 a5 H G E C r0 r1 r2 r3 r4 r5 J I l1 f2 f3 f5;obtain⟨⟨a0,a1,a2,a3,a4,a5⟩,⟨H,G,E,C⟩,_,z,_,J⟩:=B.cells c.out;rw[o.out] at H G E C;have I:f<w7.heap.size:=by omega
  have f3:=z 3;have fA:=ah (aC B O);clear B O z;go_wp2_with fail;refine aP (fun W=>W.cell? ⟨f,3,none⟩=some (.int .i64 d)/\f<W.heap.size/\W.frozen? ⟨f,3,none⟩=false) (fun i=> !([3,7].contains i)) [0,1,2,3,4,5,6,7] rfl (by kernel_rfl) ⟨a3,I,f3⟩ ?_
  repeat (refine oq ?_ rfl rfl rfl ?_ ?_;rotate_left;(focus intro W x;(try dsimp only at x);obtain⟨x0,x1,x2⟩:=x;go_simp;first|done|with_reducible rfl);try simp only[Act.put,aj,au,ak])
  refine dI rfl rfl rfl ?_;intro K hK;go_simp;refine(qc.out _).mono ?_;rintro e w8 ⟨dZ,rfl⟩;subst w8;refine hK.out _ _ ⟨a3,I,f3⟩ ?_
  (try simp only[Act.put,aj,au,ak])
  repeat (refine oq ?_ rfl rfl rfl ?_ ?_;rotate_left;(focus intro W x;(try dsimp only at x);obtain⟨x0,x1,x2⟩:=x;go_simp;first|done|with_reducible rfl);try simp only[Act.put,aj,au,ak])
  refine jC rfl rfl rfl (by kernel_rfl) ?_;intro K hK;go_simp;refine hK.out _ _ ?_;refine bR ?_;obtain⟨A,Z⟩:=fA.out.1.Oa c.out (d+j);have A:=A.drew;have Z:=Z.drew;obtain⟨w8,dZ⟩:=nm ((w7.setCell ⟨f,3,none⟩ (.int .i64 (d+j))).drew);rw[dZ.out] at A Z ⊢;clear a0 a1 a2 a3 a4 a5 H G E C I f3 J;obtain⟨⟨a0,a1,a2,a3,a4,a5⟩,⟨H,G,E,C⟩,_,z,_,J⟩:=A.cells c.out;rw[o.out] at H G E C;have I:f<w8.heap.size:=by omega
  have f3:=z 3;have dR:=ah (aC A (fA.out.2.trans Z (fun _ _ e=>e)));clear A Z z;go_upto_region 17 with (fail)
  obtain⟨p9,aB⟩:=dR.out.1.Oa c.out (d+j+64);obtain⟨w9,mr⟩:=nm (w8.setCell ⟨f,3,none⟩ (.int .i64 (d+j+64)));rw[mr.out] at p9 aB ⊢;have S:Keep (· =f) w6 w9:=dR.out.2.trans aB (fun _ _ e=>e);have bC:=(rJ.out.prog (V.out.2.1.out (fun g e=> .inl (jv.out g e)))).prog (S.mono (fun g _ e hf=>by have:=bH.out g hf;have:=c.out;have e:g=f:=e;omega));clear a0 a1 a2 a3 a4 a5 H G E C I f3 J;obtain⟨⟨a0,a1,a2,a3,a4,a5⟩,⟨H,G,E,C⟩,_,z,_,J⟩:=p9.cells c.out;rw[o.out] at H G E C;have I:f<w9.heap.size:=by omega
  have f4:=z 4;have aA:=ah (aC p9 (aC S bC));clear p9 aB S bC z;have zW:(N:Int)<a+j:=by
   have h1:=rP.out;have h2:=xP.out;have h3:=qo.out.1;have h4:=qo.out.2;rw[di.out] at h1 h2;omega
  go_upto_region 19 with (fail)
  obtain⟨fJ,jl⟩:=aA.out.1.V3 c.out 12;obtain⟨wx,y8⟩:=nm (w9.setCell ⟨f,4,none⟩ (.int .i64 12));rw[y8.out] at fJ jl ⊢;have dx:Keep (· =f) w6 wx:=aA.out.2.1.trans jl (fun _ _ e=>e);have sP:=V.out.1.next dx (fun g e=>nk.out g (by have e:g=f:=e;have:=c.out;omega));have y5:=ah (sP.below ((aR _ wx).drew)).blocks;have sF:=aA.out.2.2.prog (jl.mono (fun g _ e hf=>by have:=bH.out g hf;have:=c.out;have e:g=f:=e;omega));clear a0 a1 a2 a3 a4 a5 H G E C I f4 J;obtain⟨_,_,⟨r0,r1,r2,r3,r4,r5⟩,_,s,J⟩:=fJ.cells c.out;rw[show f+2=l from m.out] at r0 r1 r2 r3 r4 r5 s J;have f0:=s 0;have f1:=s 1;have f2:=s 2;have f3:=s 3;have f4:=s 4;have f5:=s 5;have hs:=fJ.s;rw[c.out] at hs;have o6:wx.heap[l]? =some (.cells #[.pointer none,.pointer none,.int .i64 0,.int .i64 0,.int .i64 0,.bool false] 130 (0,0)):=by
   have:=fJ.r;rwa [show w.heap.size+2=l by have:=c.out;have:=m.out;omega] at this
  obtain⟨wz,oH⟩:=nm ((((((wx.setCell ⟨l,0,none⟩ (.pointer (some ⟨t,0,none⟩))).setCell ⟨l,1,none⟩ (.pointer (some ⟨rt,0,none⟩))).setCell ⟨l,2,none⟩ (.int .i64 (a+j))).setCell ⟨l,3,none⟩ (.int .i64 (d+j+64))).setCell ⟨l,4,none⟩ (.int .i64 12)).setCell ⟨l,5,none⟩ (.bool ch));have fB:Keep (· =l) wx wz:=by
   rw[<-oH.out];exact((((((Keep.refl (· =l) wx).setCell (p:=⟨l,0,none⟩) (.inr rfl) _).setCell (p:=⟨l,1,none⟩) (.inr rfl) _).setCell (p:=⟨l,2,none⟩) (.inr rfl) _).setCell (p:=⟨l,3,none⟩) (.inr rfl) _).setCell (p:=⟨l,4,none⟩) (.inr rfl) _).setCell (p:=⟨l,5,none⟩) (.inr rfl) _
  have l5:wz.heap[l]? =some (.cells #[.pointer (some ⟨t,0,none⟩),.pointer (some ⟨rt,0,none⟩),.int .i64 (a+j),.int .i64 (d+j+64),.int .i64 12,.bool ch] 130 (0,0)):=by
   rw[<-oH.out];simp[World.setCell,aQ,o6]
  have xK:wz.heap[f]? =some (.cells #[.pointer (some ⟨t,0,none⟩),.pointer (some ⟨rt,0,none⟩),.int .i64 (a+j),.int .i64 (d+j+64),.int .i64 12,.bool ch] 130 (0,0)):=(fB.block f (ai.1 hs).1 (by have:=m.out;omega)).trans hs;have vk:=ah (aC dx (aC sF o6));have HZ:=ah (aC fB.drew.drew l5);clear fJ jl dx sP sF o6 fB l5 s;go_wp2_with fail;refine aP (fun W=>W.heap[f]? =some (.cells #[.pointer (some ⟨t,0,none⟩),.pointer (some ⟨rt,0,none⟩),.int .i64 (a+j),.int .i64 (d+j+64),.int .i64 12,.bool ch] 130 (0,0))) (fun i=> !([7,14].contains i)) [0,1,2,3,4,5,6,7,8,9,10,11,12,13,14,15] rfl (by kernel_rfl) hs ?_
  repeat (refine oq ?_ rfl rfl rfl ?_ ?_;rotate_left;(focus intro W x;(try dsimp only at x);obtain⟨x0,x1,x2,x3,x4,x5,x6⟩:=jT x;go_simp;first|done|with_reducible rfl);try simp only[Act.put,aj,au,ak])
  refine dI rfl rfl rfl ?_;intro K hK;go_simp;refine y5.out.mono ?_;rintro e w7 ⟨rfl,rfl⟩;refine hK.out _ _ hs ?_
  (try simp only[Act.put,aj,au,ak])
  repeat (refine oq ?_ rfl rfl rfl ?_ ?_;rotate_left;(focus intro W x;(try dsimp only at x);obtain⟨x0,x1,x2,x3,x4,x5,x6⟩:=jT x;go_simp;first|done|with_reducible rfl);try simp only[Act.put,aj,au,ak])
  refine dI rfl rfl rfl ?_;intro K hK;go_simp;rw[oH.out];refine hK.out _ _ xK ?_
  (try simp only[Act.put,aj,au,ak])
  repeat (refine oq ?_ rfl rfl rfl ?_ ?_;rotate_left;(focus intro W x;(try dsimp only at x);obtain⟨x0,x1,x2,x3,x4,x5,x6⟩:=jT x;go_simp;first|done|with_reducible rfl);try simp only[Act.put,aj,au,ak])
  refine bR ?_;go_wp2_with fail;refine jE (jd rfl _ wz.drew.drew l _ _ rfl (mG wz.drew.drew l 130 130 _ (0,0) _ HZ.out.2 kP rfl (by kernel_rfl)) rfl) rfl ?_;obtain⟨F',av,mK,zn⟩:=BH jv.out bH.out c.out m.out (m.out▸(bN.out.1.cells c.out).2.2.2.2.2) bN.out.2 V.out.1 V.out.2.1 vk.out.1 vk.out.2.1 HZ.out.1;have o7:j=4*((2+gu T:Nat):Int):=by rw[qo.out.1,qo.out.2,di.out]
  rw[bB.out];exact⟨F',av,mK,.inr ⟨by rw[<-o7];rfl,zn⟩⟩
variable {D:Nat->Dk->Lg->Pg->Prop}
theorem Jg (F F0:Nat->Prop)(hF:∀g,F0 g->F g)(v r t y N R u P:Nat)(av kv:List Pr)(bA:List (List Pr))(H:Bool)(c f k n:Int)(j o:ByteArray)(w:World)(hJ:JT D F F0 v r t y N R u P bA av kv H w)(hk:0<=k/\k<=255)(hv:o.size<=maxLen)(J:1<=j.size/\j.size<=128)(vo:¬k%8=0)(hr:fG kv)(hl:kv.length<=299)(vk:0<=f/\f<=100000000)(mr:((2+u+lW kv+2*(kv.length+1):Nat):Int)<=c):
  Calls Tryz.prog 70 #[.pointer (some ⟨v,0,none⟩),.agg #[.pointer (some ⟨t,0,none⟩),.pointer (some ⟨y,0,none⟩),.int .i64 c,.int .i64 f,.int .i64 0,.bool H],.agg #[.int .u8 k,.string j,.string o,.int .i64 n]] w fun e w'=>
   ∃F' X,Fr F F0 w F' X w'/\
    ((e= .returned (.tuple #[qw t y c (f+64) 0 (H||(dL kv j).isSome),.bool true])/\
      JT D F' X v r t y N R u (P+65) bA av (jR kv j) (H||(dL kv j).isSome) w')\/
     (e= .returned (.tuple #[qw t y c (f+64) 12 H,.bool true])/\JE D F' X v r t y N R u bA av kv w')):=by
 obtain⟨bN,lm,j4⟩:=Bx.new w t y c f 0 H k n j o;obtain⟨w3,nH⟩:=nm ((((w.alloc (.cells #[.pointer (some ⟨t,0,none⟩),.pointer (some ⟨y,0,none⟩),.int .i64 c,.int .i64 f,.int .i64 0,.bool H] 130)).alloc (.cells #[.int .u8 k,.string j,.string o,.int .i64 n] 37)).alloc (.cells #[.pointer none,.pointer none,.int .i64 0,.int .i64 0,.int .i64 0,.bool false] 130)));rw[nH.out] at bN lm j4;obtain⟨m,a⟩:=nm w.heap.size;have mK:=ah (zo o n w3 hv);obtain⟨⟨a0,a1,a2,a3,a4,a5⟩,⟨o0,S,Q,O⟩,_,_,_,I⟩:=bN.cells a.out;have l0:m<w3.heap.size:=by omega
 have l1:m+1<w3.heap.size:=by omega
 have HX:=ah (aC bN (aC lm j4));obtain⟨vv,o5⟩:=nm (strOf (nC o n));rw[o5.out] at mK;clear bN lm j4;go_enter Tryz.func70,Tryz.ntmps70;go_upto_region 1 with (fail)
 rw[nH.out,a.out];obtain⟨d,b⟩:=nm (m+1+1);rw[b.out];obtain⟨ob,s⟩:=nm (m+1);rw[s.out] at o0 S Q O l1 ⊢;go_wp2_with (first|(go_at_call 17;go_must ((refine mK.out.mono ?_);rintro e w4 ⟨rfl,lQ⟩;refine sO ?_)))
 refine sN ?_;have C:=HX.out.2.1.trans (lQ.mono HX.out.2.1.size);have sP:=hJ.1.below C;have ko:=HX.out.1.keep (Keep.of_below lQ (fun _=>False)) (fun _ _ e=>e);obtain⟨⟨a0,a1,a2,a3,a4,a5⟩,⟨o0,S,Q,O⟩,⟨r0,r1,r2,r3,r4,r5⟩,_,l,I⟩:=ko.cells a.out;rw[show m+2=d from b.out] at r0 r1 r2 r3 r4 r5 l I;rw[s.out] at o0 S Q O;have l0:m<w4.heap.size:=by have:=b.out;omega
 have l1:ob<w4.heap.size:=by have:=b.out;have:=s.out;omega
 have f0:=l 0;have f1:=l 1;have f2:=l 2;have f3:=l 3;have f4:=l 4;have f5:=l 5;have ql:=ah (aC ko C);have o7:mE ⟨jm F w w4,w4,D⟩ v t N R bA.length u av kv H P w4:=hJ.1.next (M:=fun _=>False) (Keep.of_below C _) (fun _ e=>e.elim);have o6:=hJ.2.prog (Keep.of_below C (fun g=>¬F0 g));have rJ:=ah (o7.TL j (by omega) J hl);have hG:=AL j ⟨#[]⟩;rw[d9 (show tu j ⟨#[]⟩ from⟨J,by decide⟩)] at hG;have HG:=ah hG;clear hG;have l9:=ah o6;have nA:∀g,F0 g->g<w.heap.size:=fun g e=>hJ.1.fs g (hF g e)
 clear o7 o6 J;clear ko C lQ sP l hJ hv;have qc:=ah nA;have bH:=ah hF;have rF:=ah mr;clear mr;have jl:∀g,w.heap.size<=g/\g<=w.heap.size+2->jm F w w4 g:=fun g hg=> .inr ⟨hg.1,by have:=a.out;have:=b.out;omega⟩
 have j3:=ah jl;clear jl;have q4:IntKind.i64.wrap (f+64)=f+64:=aG _ (by omega);go_wp2_with (first|(go_at_call 117;go_must ((refine rJ.out.mono ?_);rintro e w6 (⟨rfl,lg⟩|⟨rfl,dx,jv⟩)<;>refine sO ?_)))
 ·refine sN ?_
  have T:=lg.jl;have V:=ql.out.1.keep T (fun g hg e=>e (j3.out g hg));obtain⟨⟨a0,a1,a2,a3,a4,a5⟩,⟨o0,S,Q,O⟩,⟨r0,r1,r2,r3,r4,r5⟩,fs,l,I⟩:=V.cells a.out;rw[show m+2=d from b.out] at r0 r1 r2 r3 r4 r5 l I;rw[s.out] at o0 S Q O;have l0:m<w6.heap.size:=by have:=b.out;omega
  have l1:ob<w6.heap.size:=by have:=b.out;have:=s.out;omega
  have f3:=fs 3;have x:=ah (aC lg (aC T V));clear lg T V fs l;go_upto_region 17 with (first|(go_at_call 18;go_must ((refine(HG.out w6).mono ?_);rintro e w7 ⟨hw,rfl⟩;subst w7)))
  obtain⟨A,z⟩:=x.out.2.2.Oa a.out (f+64);obtain⟨w9,jF⟩:=nm (w6.setCell ⟨m,3,none⟩ (.int .i64 (f+64)));rw[jF.out] at A z ⊢;have dR:¬F0 m:=fun e=>by
   have:=qc.out m e;have:=a.out;omega
  have qb:=(l9.out.prog (x.out.2.1.out (fun g e=> .inl (bH.out g e)))).prog (z.mono (fun g _ e hf=>dR (e▸hf)));clear a0 a1 a2 a3 a4 a5 o0 S Q O l0 l1 f3 I;obtain⟨⟨a0,a1,a2,a3,a4,a5⟩,⟨o0,S,Q,O⟩,_,fs,_,I⟩:=A.cells a.out;rw[s.out] at o0 S Q O;have l0:m<w9.heap.size:=by omega
  have l1:ob<w9.heap.size:=by have:=s.out;omega
  have f5:=fs 5;have oH:=ah (qb.get j hr (by omega));have Z:=ah (aC A (aC z qb));clear A z qb fs;obtain⟨lv,l5⟩:=nx ((dL kv j).getD ⟨#[]⟩);obtain⟨lb,l6⟩:=nx ((dL kv j).isSome);rw[<-l5,<-l6] at oH;have rA:=ah (aC l5 l6);clear l5 l6;go_upto_region 25 with (first|(go_at_call 118;go_must ((refine oH.out.mono ?_);rintro e Y ⟨rfl,hw⟩;subst Y)))
  obtain⟨nc,lC⟩:∃nc:Bool,Hid (nc=(H||lb)):=⟨_,ah rfl⟩
  obtain⟨af,di⟩:=Z.out.1.VZ a.out nc;obtain⟨Y,q8⟩:=nm (w9.setCell ⟨m,5,none⟩ (.bool nc));rw[q8.out] at af di;have dZ:Keep (· =m) w6 Y:=Z.out.2.1.trans di (fun _ _ e=>e);have kT:=Z.out.2.2.prog (di.mono (fun g _ e hf=>dR (e▸hf)));have j5:F0 y:=by obtain⟨cv,Ls,_,_,_,_,_,_,_,h,_⟩:=kT;exact h
  have fK:=qc.out y j5;have fo:wX F0 Y.drew r y (bA++[av]) kv:=kT;have rV:=ah (fo.delete j hr (by omega));have rP:=ah j5;have nk:=af.s;have j6:=af.o;rw[a.out] at nk j6;rw[s.out] at j6;have kg:=ah (aC af (aC dZ fK));clear af dZ di kT fo j5 fK I;go_upto_region 26 with (fail)
  all_goals
   first
   |rw[show w9.setCell ⟨m,5,none⟩ (.bool true)=Y from by rw[<-q8.out,lC.out,show H=true by assumption];rfl]
   |rw[show w9.setCell ⟨m,5,none⟩ (.bool lb)=Y from by rw[<-q8.out,lC.out,show H=false from vJ.2 (by assumption)];rfl]
   clear a0 a1 a2 a3 a4 a5 o0 S Q O l0 l1 f5;refine aP (fun W=>W.heap[m]? =some (.cells #[.pointer (some ⟨t,0,none⟩),.pointer (some ⟨y,0,none⟩),.int .i64 c,.int .i64 (f+64),.int .i64 0,.bool nc] 130 (0,0))/\W.heap[ob]? =some (.cells #[.int .u8 k,.string j,.string o,.int .i64 n] 37 (0,0))) (fun i=> !([6,8].contains i)) [0,1,2,3,4,5,6,7,8,9] rfl (by kernel_rfl) ⟨nk,j6⟩ ?_
   repeat (refine oq ?_ rfl rfl rfl ?_ ?_;rotate_left;(focus intro W G;(try dsimp only at G);obtain⟨hs,ho⟩:=G;obtain⟨x0,x1,x2,x3,x4,x5,x6⟩:=jT hs;obtain⟨y1,y2⟩:=Dp ho;go_simp;first|done|with_reducible rfl);try simp only[Act.put,aj,au,ak])
   refine dI rfl rfl rfl ?_;intro K hK;go_simp;refine rV.out.mono ?_;rintro e q9 ⟨rfl,fB,q⟩;have q:Keep (· =y) Y q9:=⟨q.os,q.tape,q.output,q.size,q.block⟩;have B:=kg.out.1.keep q (fun g hg e=>by have e:g=y:=e;have:=kg.out.2.2;omega);have pM:=B.s;have E:=B.o;rw[a.out] at pM E;rw[s.out] at E;refine hK.out _ _ ⟨pM,E⟩ ?_
   (try simp only[Act.put,aj,au,ak])
   rw[<-rA.out.2];obtain⟨_,_,⟨r0,r1,r2,r3,r4,r5⟩,_,l,I⟩:=B.cells a.out;rw[show m+2=d from b.out] at r0 r1 r2 r3 r4 r5 l I;have f0:=l 0;have f1:=l 1;have f2:=l 2;have f3:=l 3;have f4:=l 4;have f5:=l 5;have HY:=ah (aC B (aC q fB));clear B q fB l;obtain⟨dn,bB⟩:=nm ((((((q9.setCell ⟨d,0,none⟩ (.pointer (some ⟨t,0,none⟩))).setCell ⟨d,1,none⟩ (.pointer (some ⟨y,0,none⟩))).setCell ⟨d,2,none⟩ (.int .i64 c)).setCell ⟨d,3,none⟩ (.int .i64 (f+64))).setCell ⟨d,4,none⟩ (.int .i64 0)).setCell ⟨d,5,none⟩ (.bool nc));have p9:Keep (· =d) q9 dn:=by
    rw[<-bB.out];exact((((((Keep.refl (· =d) q9).setCell (p:=⟨d,0,none⟩) (.inr rfl) _).setCell (p:=⟨d,1,none⟩) (.inr rfl) _).setCell (p:=⟨d,2,none⟩) (.inr rfl) _).setCell (p:=⟨d,3,none⟩) (.inr rfl) _).setCell (p:=⟨d,4,none⟩) (.inr rfl) _).setCell (p:=⟨d,5,none⟩) (.inr rfl) _
   have fA:q9.heap[d]? =some (.cells #[.pointer none,.pointer none,.int .i64 0,.int .i64 0,.int .i64 0,.bool false] 130 (0,0)):=by
    have:=HY.out.1.r;rwa [show w.heap.size+2=d by have:=a.out;have:=b.out;omega] at this
   have fJ:dn.heap[d]? =some (.cells #[.pointer (some ⟨t,0,none⟩),.pointer (some ⟨y,0,none⟩),.int .i64 c,.int .i64 (f+64),.int .i64 0,.bool nc] 130 (0,0)):=by
    rw[<-bB.out];simp[World.setCell,aQ,fA]
   have oK:=(p9.block m (ai.1 pM).1 (by have:=b.out;omega)).trans pM;have oo:=(p9.block ob (ai.1 E).1 (by have:=b.out;have:=s.out;omega)).trans E;have iO:=ah (aC fJ p9);clear fA fJ p9
   repeat (refine oq ?_ rfl rfl rfl ?_ ?_;rotate_left;(focus intro W G;(try dsimp only at G);obtain⟨hs,ho⟩:=G;obtain⟨x0,x1,x2,x3,x4,x5,x6⟩:=jT hs;obtain⟨y1,y2⟩:=Dp ho;go_simp;first|done|with_reducible rfl);try simp only[Act.put,aj,au,ak])
   refine dI rfl rfl rfl ?_;intro K hK;go_simp;rw[bB.out];refine hK.out _ _ ⟨oK,oo⟩ ?_
   (try simp only[Act.put,aj,au,ak])
   repeat (refine oq ?_ rfl rfl rfl ?_ ?_;rotate_left;(focus intro W G;(try dsimp only at G);obtain⟨hs,ho⟩:=G;obtain⟨x0,x1,x2,x3,x4,x5,x6⟩:=jT hs;obtain⟨y1,y2⟩:=Dp ho;go_simp;first|done|with_reducible rfl);try simp only[Act.put,aj,au,ak])
   refine bR ?_;go_wp2_with fail;refine jE (jd rfl _ dn d _ _ rfl (mG dn d 130 130 _ (0,0) _ iO.out.1 kP rfl (by kernel_rfl)) rfl) rfl ?_;obtain⟨F',X,jO,sF⟩:=Ea bH.out qc.out rP.out a.out b.out (b.out▸(ql.out.1.cells a.out).2.2.2.2.2) ql.out.2 x.out.1 x.out.2.1 kg.out.2.1 HY.out.2.1 HY.out.2.2 iO.out.2;have tQ:nc=(H||(dL kv j).isSome):=(by rw[lC.out,rA.out.2]);exact⟨F',X,jO,.inl ⟨by rw[<-tQ];simp;rfl,sF⟩⟩
 ·refine sN ?_
  have T:=jv.jl;have V:=ql.out.1.keep T (fun g hg e=>e (j3.out g hg));obtain⟨⟨a0,a1,a2,a3,a4,a5⟩,⟨o0,S,Q,O⟩,⟨r0,r1,r2,r3,r4,r5⟩,fs,l,I⟩:=V.cells a.out;rw[show m+2=d from b.out] at r0 r1 r2 r3 r4 r5 l I;rw[s.out] at o0 S Q O;have l0:m<w6.heap.size:=by have:=b.out;omega
  have l1:ob<w6.heap.size:=by have:=b.out;have:=s.out;omega
  have f3:=fs 3;have mo:=ah dx;clear dx;have x:=ah (aC jv (aC T V));clear jv T V fs l;go_upto_region 17 with (first|(go_at_call 18;go_must ((refine(HG.out w6).mono ?_);rintro e w7 ⟨hw,rfl⟩;subst w7)))
  obtain⟨A,z⟩:=x.out.2.2.Oa a.out (f+64);obtain⟨w9,jF⟩:=nm (w6.setCell ⟨m,3,none⟩ (.int .i64 (f+64)));rw[jF.out] at A z ⊢;have qb:=(l9.out.prog (x.out.2.1.out (fun g e=> .inl (bH.out g e)))).prog (z.mono (fun g _ e hf=>by have:=qc.out g hf;have:=a.out;have e:g=m:=e;omega));clear a0 a1 a2 a3 a4 a5 o0 S Q O l0 l1 f3 I;obtain⟨⟨a0,a1,a2,a3,a4,a5⟩,⟨o0,S,Q,O⟩,_,fs,_,I⟩:=A.cells a.out;rw[s.out] at o0 S Q O;have l0:m<w9.heap.size:=by omega
  have f4:=fs 4;have Z:=ah (aC A (aC z qb));clear A z qb fs;have vz:(N:Int)<c:=by
   have h1:=mo.out;have h2:=rF.out;omega
  go_upto_region 19 with (fail)
  obtain⟨aB,bC⟩:=Z.out.1.V3 a.out 12;obtain⟨wx,r9⟩:=nm (w9.setCell ⟨m,4,none⟩ (.int .i64 12));rw[r9.out] at aB bC ⊢;have qo:Keep (· =m) w6 wx:=Z.out.2.1.trans bC (fun _ _ e=>e);have nS:=x.out.1.next qo (fun g e=>j3.out g (by have e:g=m:=e;have:=a.out;omega));have rX:=ah (nS.below ((aR _ wx).drew)).blocks;have nJ:=Z.out.2.2.prog (bC.mono (fun g _ e hf=>by have:=qc.out g hf;have:=a.out;have e:g=m:=e;omega));clear a0 a1 a2 a3 a4 a5 o0 S Q O l0 f4 I;obtain⟨_,_,⟨r0,r1,r2,r3,r4,r5⟩,_,l,I⟩:=aB.cells a.out;rw[show m+2=d from b.out] at r0 r1 r2 r3 r4 r5 l I;have f0:=l 0;have f1:=l 1;have f2:=l 2;have f3:=l 3;have f4:=l 4;have f5:=l 5;have hs:=aB.s;rw[a.out] at hs;have lJ:wx.heap[d]? =some (.cells #[.pointer none,.pointer none,.int .i64 0,.int .i64 0,.int .i64 0,.bool false] 130 (0,0)):=by
   have:=aB.r;rwa [show w.heap.size+2=d by have:=a.out;have:=b.out;omega] at this
  obtain⟨wz,kr⟩:=nm ((((((wx.setCell ⟨d,0,none⟩ (.pointer (some ⟨t,0,none⟩))).setCell ⟨d,1,none⟩ (.pointer (some ⟨y,0,none⟩))).setCell ⟨d,2,none⟩ (.int .i64 c)).setCell ⟨d,3,none⟩ (.int .i64 (f+64))).setCell ⟨d,4,none⟩ (.int .i64 12)).setCell ⟨d,5,none⟩ (.bool H));have aA:Keep (· =d) wx wz:=by
   rw[<-kr.out];exact((((((Keep.refl (· =d) wx).setCell (p:=⟨d,0,none⟩) (.inr rfl) _).setCell (p:=⟨d,1,none⟩) (.inr rfl) _).setCell (p:=⟨d,2,none⟩) (.inr rfl) _).setCell (p:=⟨d,3,none⟩) (.inr rfl) _).setCell (p:=⟨d,4,none⟩) (.inr rfl) _).setCell (p:=⟨d,5,none⟩) (.inr rfl) _
  have jb:wz.heap[d]? =some (.cells #[.pointer (some ⟨t,0,none⟩),.pointer (some ⟨y,0,none⟩),.int .i64 c,.int .i64 (f+64),.int .i64 12,.bool H] 130 (0,0)):=by
   rw[<-kr.out];simp[World.setCell,aQ,lJ]
  have rG:wz.heap[m]? =some (.cells #[.pointer (some ⟨t,0,none⟩),.pointer (some ⟨y,0,none⟩),.int .i64 c,.int .i64 (f+64),.int .i64 12,.bool H] 130 (0,0)):=(aA.block m (ai.1 hs).1 (by have:=b.out;omega)).trans hs;have oO:=ah (aC qo (aC nJ lJ));have HZ:=ah (aC aA.drew.drew jb);clear aB bC qo nS nJ lJ aA jb l;go_wp2_with fail;refine aP (fun W=>W.heap[m]? =some (.cells #[.pointer (some ⟨t,0,none⟩),.pointer (some ⟨y,0,none⟩),.int .i64 c,.int .i64 (f+64),.int .i64 12,.bool H] 130 (0,0))) (fun i=> !([7,14].contains i)) [0,1,2,3,4,5,6,7,8,9,10,11,12,13,14,15] rfl (by kernel_rfl) hs ?_
  repeat (refine oq ?_ rfl rfl rfl ?_ ?_;rotate_left;(focus intro W G;(try dsimp only at G);obtain⟨x0,x1,x2,x3,x4,x5,x6⟩:=jT G;go_simp;first|done|with_reducible rfl);try simp only[Act.put,aj,au,ak])
  refine dI rfl rfl rfl ?_;intro K hK;go_simp;refine rX.out.mono ?_;rintro e w7 ⟨rfl,rfl⟩;refine hK.out _ _ hs ?_
  (try simp only[Act.put,aj,au,ak])
  repeat (refine oq ?_ rfl rfl rfl ?_ ?_;rotate_left;(focus intro W G;(try dsimp only at G);obtain⟨x0,x1,x2,x3,x4,x5,x6⟩:=jT G;go_simp;first|done|with_reducible rfl);try simp only[Act.put,aj,au,ak])
  refine dI rfl rfl rfl ?_;intro K hK;go_simp;rw[kr.out];refine hK.out _ _ rG ?_
  (try simp only[Act.put,aj,au,ak])
  repeat (refine oq ?_ rfl rfl rfl ?_ ?_;rotate_left;(focus intro W G;(try dsimp only at G);obtain⟨x0,x1,x2,x3,x4,x5,x6⟩:=jT G;go_simp;first|done|with_reducible rfl);try simp only[Act.put,aj,au,ak])
  refine bR ?_;go_wp2_with fail;refine jE (jd rfl _ wz.drew.drew d _ _ rfl (mG wz.drew.drew d 130 130 _ (0,0) _ HZ.out.2 kP rfl (by kernel_rfl)) rfl) rfl ?_;obtain⟨F',X,jO,tY⟩:=BH bH.out qc.out a.out b.out (b.out▸(ql.out.1.cells a.out).2.2.2.2.2) ql.out.2 x.out.1 x.out.2.1 oO.out.1 oO.out.2.1 HZ.out.1;exact⟨F',X,jO,.inr ⟨rfl,tY⟩⟩
def cK.flushed (σ:cK)(d:Dk)(l:Lg):cK:={σ with H:={σ.H with dk:=d,lg:=l}}
def Live.turn {σ a:cK}{b:Int}{g:List lU}{f:List Int}(h:Live σ b g f)(j:∀x,a.hasB x=σ.hasB x)(k:∀x,a.mem x=σ.mem x)(o:∀x,a.held x=σ.held x)(l:a.sz=σ.sz)(n:countB a.H.old a.most=countB σ.H.old σ.most):Live a b g f:=by
 have d:∀x∈f++dO g,a.hasB x=true/\a.mem x=σ.mem x:=fun x c=>⟨(j x).trans (h.all x c).1,k x⟩
 refine⟨?_,fun e i=>(h.val e i).keep fun x c=>d x (bY _ (kF.2 ⟨e,i,c⟩)),⟨h.own.nd,fun x c=>h.own.ex x ((j x).symm.trans c),?_⟩⟩
 ·rcases h.tree with h|⟨h,m⟩
  ·exact .inl h
  ·exact .inr ⟨h,m.move fun x c=>d x (dh _ c)⟩
 ·rw[l,n,h.own.size]
  unfold nh;congr 3;funext x;rw[o]
section
variable {w:World} {v:Nat} {S:Nat->Prop} {mp:VS} {σ:cK}
def Uu (σ:cK)(d:Dk)(l:Lg):Prop:=ul σ.H.dk σ.H.lg σ.H.pg d l
def Uu.blocks {d:Dk}{l:Lg}(h:Uu σ d l):σ.H.pg.blocks d=σ.H.pg.blocks σ.H.dk:=by unfold Pg.blocks;rw[show d.n=σ.H.dk.n from ul.n h]
def Inv.sync (z:w.heap[v]? =some (.cells #[.pointer (some ⟨mp.pg,0,none⟩)] 88 (0,0)))(A:¬S v)(h:Inv σ S mp w)(F:VJ σ.H.dk σ.H.lg σ.H.pg)(B:σ.H.lg.last<1000000000000):
  Calls Tryz.prog 27 #[.pointer (some ⟨v,0,none⟩)] w fun e m=>(e= .returned (.int .i64 0)/\∃f k p,Inv (σ.flushed f k) p mp m/\Step S p w m/\Uu σ f k)\/
   (e= .returned (.int .i64 10)/\∃f k p,Km σ.H.dk σ.H.lg σ.H.pg f k σ.H.pg.dies/\ji m p mp.pg mp.d f k σ.H.pg.dies (.pointer (some ⟨mp.tx,0,none⟩))/\m.heap[v]? =some (.cells #[.pointer (some ⟨mp.pg,0,none⟩)] 88 (0,0))/\¬p v/\Step S p w m):=by
 obtain⟨y,T,h,j⟩:=h;have s:=h.pg.ok;have c:=h.ok;have t:=(ai.1 z).1;have l:σ.H.dk.waits.length<=90000:=by have K:=F.wt;have J:=s.2.2.us;have M:=s.2.2.hi;omega
 rcases UN F B with ⟨f,k,D,o⟩|⟨f,k,D,o⟩
 ·refine(Ue v mp.pg mp.d _ _ _ _ y w z h.pg l).mono ?_
  rintro e m ⟨rfl,d,n,i⟩;rw[D] at n ⊢;dsimp only at n ⊢;have H:∀g,S g->g<w.heap.size:=fun g a=>by
   rcases (j g).1 a with a|a|rfl
   ·exact h.pg.sub g a
   ·exact h.tx.sub g a
   ·exact h.map.lt
  have q:∀g,S g->¬y g->¬d g:=fun g a I e=>(i.2 g e).elim I (fun e=>absurd (H g a) (bg.2 e))
  refine .inl ⟨rfl,f,k,fun g=>d g\/T g\/g=mp.mp,⟨d,T,⟨?_,n,h.tx.keep i.1 (fun g a C=>h.dis g C a),h.map.keep (i.1.block _ h.map.lt h.mpS),fun g a E=>q g ((j g).2 (.inr (.inl E))) (fun e=>h.dis g e E) a,q _ ((j _).2 (.inr (.inr rfl))) h.mpS,h.mpT⟩,fun g=>H8⟩,⟨i.1.mono (fun g _ e=>(j g).2 (.inl e)),fun g a=> ?_⟩,o⟩
  ·exact⟨c.live,o.vj.nd,c.most.trans (Uu.blocks o).symm,c.two,c.cap,c.nhi,c.ohi,c.n0,c.n1,c.rks,c.own,c.szk,fun b G=>by
    show (σ.H.pg.look σ.im f b).length=512
    rw[o.look]
    exact c.len b G⟩
  ·rcases a with a|a|a
   ·exact(i.2 g a).imp (fun e=>(j g).2 (.inl e)) id
   ·exact .inl ((j g).2 (.inr (.inl a)))
   ·exact .inl ((j g).2 (.inr (.inr a)))
 ·refine(Ue v mp.pg mp.d _ _ _ _ y w z h.pg l).mono ?_
  rintro e m ⟨rfl,d,n,i⟩;rw[D] at n ⊢;dsimp only at n ⊢;have r:¬y v:=fun e=>A ((j v).2 (.inl e))
  exact .inr ⟨rfl,f,k,d,o,n,(i.1.block v t r).trans z,fun e=>(i.2 v e).elim r (fun x=>absurd t (bg.2 x)),i.1.mono (fun g _ e=>(j g).2 (.inl e)),fun g a=>(i.2 g a).imp (fun e=>(j g).2 (.inl e)) id⟩
def Vz.sync {a:Nat}{l:List lU}{j:List Int}(h:Vz σ a l j){c:Dk}{k:Lg}(f:Uu σ c k):Vz (σ.flushed c k) a l j:=by
 obtain⟨n,d,m⟩:=h;have e:=f.blocks;have i:∀b,σ.H.pg.look Im.none c b=σ.H.pg.look Im.none σ.H.dk b:=ul.look f Im.none
 refine⟨ul.vj f,⟨d.pd,(ul.vj f).nd,by show 2<=σ.H.pg.blocks c;rw[e];exact d.two,(i 0).trans d.map,fun b g=>d.hi b (by rw[<-e];exact g),d.f0,d.f1,?_⟩,?_⟩
 ·show Mr (σ.H.pg.look Im.none c 1) a
  rw[i 1];exact d.root
 ·refine m.turn (fun x=> ?_) (fun x=>i _) (fun x=>rfl) ?_ ?_
  ·show (decide (0<=x) && (decide (x.toNat<σ.H.pg.blocks c) && _))=_
   rw[e];rfl
  ·show countB _ (σ.H.pg.blocks c)=_
   rw[e];rfl
  ·show countB _ (σ.H.pg.blocks c)=_
   rw[e];rfl
def Cw {f:Dk}{c:Lg}{b:World}{i:Nat->Prop}(k:b.heap[v]? =some (.cells #[.pointer (some ⟨mp.pg,0,none⟩)] 88 (0,0)))(h:Inv (σ.flushed f c) i mp b)(l:Uu σ f c){a:Nat}(g:σ.H.lg.last=a+1)(n:a<=100000000):
  Calls Tryz.prog 72 #[.pointer (some ⟨v,0,none⟩)] b fun e d=>d=b/\e= .returned (.int .i64 a):=by
 obtain⟨j,T,h,_⟩:=h;have m:c.synced=a+1:=(ul.tQ l).trans g;refine(FU v mp.pg mp.d f c _ _ j b k h.pg (by omega)).mono ?_;rintro e d ⟨rfl,rfl⟩;exact⟨rfl,by rw[show (c.synced:Int) - 1=a by omega]⟩
def mE.Qq {y:gV}{n:Nat}{T m:List Pr}{I:Bool}(h:mE y v t N R n u m T I P w)(hl:n<=100000000)(Q:Nat->Dk->Lg->Pg->Prop)(hD:∀d σ l p q b,y.D d σ l p->ul σ l p q b->Q d q b p):
  Calls Tryz.prog 27 #[.pointer (some ⟨v,0,none⟩)] w fun e k=>(e= .returned (.int .i64 0)/\mE (y.to Q) v t N R n u m T I P k/\Calls Tryz.prog 72 #[.pointer (some ⟨v,0,none⟩)] k fun e F=>F=k/\e= .returned (.int .i64 n))\/
   (e= .returned (.int .i64 10)/\qD y v N R n k):=by
 obtain⟨S,C,mp,σ,o,es,tb,c,D,A,a,Y,s,h2,h3,J,K,G,h7,h8,h9,B⟩:=h;have hm:=a.tx.inv.ok.most;refine(a.tx.inv.sync a.obj a.nv a.bas.vi (by omega)).mono ?_;rintro e k (⟨rfl,f,b,z,M,r,j⟩|⟨rfl,f,b,z,i,H,q3,q4,q5⟩)
 ·have E:∀g,¬S g->g<w.heap.size->¬z g:=fun g hn hg e=>(r.2 g e).elim hn (fun e=>absurd hg (bg.2 e))
  have X:=(ai.1 a.obj).1;have lt:=(ai.1 a.tx.tx).1;have W:=(ai.1 a.tx.tree).1;have V:=(r.1.block v X a.nv).trans a.obj;refine .inl ⟨rfl,⟨z,C,mp,σ.flushed f b,o,es,tb,c,D,A,⟨V,E v a.nv X,⟨(r.1.block t lt a.tx.nt).trans a.tx.tx,(r.1.block C W a.tx.ntr).trans a.tx.tree,M,E t a.tx.nt lt,E C a.tx.ntr W⟩,a.live.turn (fun _=>rfl) (fun x=>ul.look j _ _) (fun _=>rfl) rfl rfl,a.bas.sync j,fun hc=> ?_⟩,(Y.step r).to,⟨s.1,hD _ _ _ _ _ _ s.2 j⟩,h2,h3,J,K,(ul.last j).trans G,h7,h8,h9,B⟩,Cw V M j G hl⟩;obtain⟨i,H⟩:=a.ch hc;refine⟨?_,H⟩;have O:σ.most=σ.H.pg.blocks σ.H.dk:=congrArg cK.most i;have Z:σ.im=Im.none:=congrArg cK.im i;have m3:σ.now=σ.H.old:=congrArg cK.now i;have m4:σ.tk=countB σ.H.old (σ.H.pg.blocks σ.H.dk):=congrArg cK.tk i;show (⟨⟨f,b,σ.H.pg,σ.H.old⟩,σ.most,σ.im,σ.now,σ.tk⟩:cK)=⟨⟨f,b,σ.H.pg,σ.H.old⟩,σ.H.pg.blocks f,Im.none,σ.H.old,countB σ.H.old (σ.H.pg.blocks f)⟩;rw[Uu.blocks j,<-O,Z,m3,m4,<-O]
 ·exact .inr ⟨rfl,mp.d,_,_,_,f,b,_,s.2,G,by rw[<-hm,J],K,i,z,mp.pg,_,q3,q4,H,Y.step q5,s.1⟩
def xZ.Qq {s:gV}{k:Nat}{j:List Pr}(h:xZ s v t N R k u j w)(hl:k<=100000000)(K:Nat->Dk->Lg->Pg->Prop)(Y:∀d σ l p m c,s.D d σ l p->ul σ l p m c->K d m c p):
  Calls Tryz.prog 27 #[.pointer (some ⟨v,0,none⟩)] w fun e f=>(e= .returned (.int .i64 0)/\xZ (s.to K) v t N R k u j f/\Calls Tryz.prog 72 #[.pointer (some ⟨v,0,none⟩)] f fun e E=>E=f/\e= .returned (.int .i64 k))\/
   (e= .returned (.int .i64 10)/\qD s v N R k f):=by
 obtain⟨S,z,mp,σ,V,b,B,y,⟨A,o,⟨r,W,a⟩,G⟩,Q,q,T,h3,H,I,F,h7,h8⟩:=h;refine(a.inv.sync A o G.vi (by omega)).mono ?_;rintro e f (⟨rfl,D,c,x,J,n,i⟩|⟨rfl,D,c,x,Z,q2,q3,q4,q5⟩)
 ·have C:∀g,¬S g->g<w.heap.size->¬x g:=fun g o X e=>(n.2 g e).elim o (fun e=>absurd X (bg.2 e))
  have P:=(ai.1 A).1;have lt:=(ai.1 a.tx).1;have O:=(ai.1 a.tree).1;have M:=(n.1.block v P o).trans A;exact .inl ⟨rfl,⟨x,z,mp,σ.flushed D c,V,b,B,y,⟨M,C v o P,⟨r,W,(n.1.block t lt a.nt).trans a.tx,(n.1.block z O a.ntr).trans a.tree,J,C t a.nt lt,C z a.ntr O⟩,G.sync i⟩,(Q.step n).to,⟨q.1,Y _ _ _ _ _ _ q.2 i⟩,T,h3,(Uu.blocks i).trans H,I,(ul.last i).trans F,h7,h8⟩,Cw M J i F hl⟩
 ·exact .inr ⟨rfl,mp.d,_,_,_,D,c,_,q.2,F,H,I,Z,x,mp.pg,_,q3,q4,q2,Q.step q5,q.1⟩
def xZ.done {l:gV}{a:Nat}{c:List Pr}(h:xZ l v t N R a u c w)(n:a<=100000000):
  Calls Tryz.prog 12 #[.pointer (some ⟨v,0,none⟩)] w fun e d=>e= .returned (.int .i64 a)/\d=w:=by
 obtain⟨S,B,mp,σ,q,b,k,g,⟨i,E,⟨r,p,m⟩,s⟩,G,y,o,D,x,A,F,z,C⟩:=h;obtain⟨f,T,j,_⟩:=m.inv;refine(Qc v mp.pg mp.d _ _ _ _ f w i j.pg (by omega)).mono ?_;rintro e d ⟨rfl,rfl⟩;exact⟨by rw[show (σ.H.lg.last:Int) - 1=a by omega],rfl⟩
end
def IE {c:List Pr}:fG c↔(c.map (·.1)).Pairwise (fun a b=>lt a b=true):=by unfold fG;rw[vF]
def Js (b:List Pr)(a v c:ByteArray):(kC b a v).map (·.1)=(kC b a c).map (·.1):=by unfold kC;split<;>simp[List.map_set]
def Rl {b:List Pr}{v:ByteArray}(c:a.size<=128)(d:fG b):fG (kC b a v):=by
 rw[IE,Js b a v ⟨#[]⟩,<-IE];exact(DC a ⟨#[]⟩ c (by decide)).rise b d
structure Kv (kv:List Pr)(n:Nat):Prop where
 rise:fG kv
 len:kv.length<=n
 val:∀p∈kv,p.2.size<=49152
def Kv.le {a:List Pr}{n m:Nat}(h:Kv a n)(b:n<=m):Kv a m:=⟨h.rise,aK h.len b,h.val⟩
def Kv.nil (n:Nat):Kv [] n:=⟨vI,aS _,by simp⟩
def Kv.ins {d:List Pr}{n:Nat}(h:Kv d n)(f:b.size<=128)(g:a.size<=49152):Kv (kC d b a) (n+1):=by
 refine⟨Rl f h.rise,?_,fun p c=> ?_⟩
 ·have:=h.len
  have:=(DC b ⟨#[]⟩ f (by decide)).len d;have e:=congrArg List.length (Js d b a ⟨#[]⟩);simp only[jX] at e;omega
 ·unfold kC at c
  split at c
  ·rcases List.mem_or_eq_of_mem_set c with q|rfl
   ·exact h.val p q
   ·exact g
  ·rcases bU.1 c with q|q
   ·exact h.val p (eT q)
   ·rcases bO.1 q with rfl|q
    ·exact g
    ·exact h.val p (cZ q)
def Kv.del {b:List Pr}{n:Nat}(h:Kv b n)(a:ByteArray):Kv (jR b a) n:=by
 have c:(jR b a).Sublist b:=by
  unfold jR
  split
  ·have:=(Er (b.take (bX b a))).append (UD 1 (b.drop (bX b a)))
   rw[kK,bJ] at this;exact this
  ·exact Er _
 exact⟨h.rise.sublist c,aK c.length_le h.len,fun p d=>h.val p (c.subset d)⟩
def oQ (a b:List Pr):lW (a++b)=lW a+lW b:=by simp[lW]
def ug (p:Pr)(b:List Pr):lW (p::b)=gu p.2+lW b:=rfl
def O1 (c:List Pr)(a b:ByteArray):costs (kC c a b)<=costs c+(2+gu b):=by
 have e:=bJ (bX c a) c;unfold kC costs
 split
 ·rename_i f
  obtain⟨d,_⟩:=mY f;rw[List.length_set,nT,if_pos d,oQ,ug];have i:lW c=lW (c.take (bX c a))+(gu c[bX c a].2+lW (c.drop (bX c a+1))):=by
   rw[<-ug,<-cu d,<-oQ,e]
  show _+(_+(gu b+_))<=_;omega
 ·have i:lW c=lW (c.take (bX c a))+lW (c.drop (bX c a)):=by rw[<-oQ,e]
  have g:(c.take (bX c a)++(a,b)::c.drop (bX c a)).length=c.length+1:=by simp;have:=nK c a;omega
  rw[g,oQ,ug];show _+(_+(gu b+_))<=_;omega
def O3 (a:List Pr)(b:ByteArray):costs (jR a b)<=costs a:=by
 unfold jR costs
 split
 ·rename_i d
  obtain⟨c,_⟩:=mY d;have f:lW a=lW (a.take (bX a b))+(gu a[bX a b].2+lW (a.drop (bX a b+1))):=by
   rw[<-ug,<-cu c,<-oQ,bJ]
  have e:(a.take (bX a b)++a.drop (bX a b+1)).length<=a.length:=by simp;omega
  rw[oQ];omega
 ·exact aD _
def Ka {v:ByteArray}(h:v.size<=49152):gu v<=97:=by unfold gu rM;split<;>omega
def RF {a:List Pr}{n:Nat}(h:Kv a n):costs a<=99*n:=by
 have:∀l:List Pr,(∀p∈l,p.2.size<=49152)->lW l<=97*l.length:=by
  intro l b
  induction l with
  |nil=>exact aS _
  |cons p l ih=>
   have e:=Ka (b p (bf ..));have d:=ih (fun q c=>b q (aX _ c));rw[ug,bn];omega
 have:=this a h.val;have:=h.len;unfold costs;omega
def Q7 {c b a:Nat}(f:a<=605)(e:P<=2+u+65*c+b)(d:32+64*c+4*b<=a):Fh (P - u)<=a - 1/\P - u<=1024:=by
 unfold Fh;omega
