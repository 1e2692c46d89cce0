/- parts -/
import Derived.Test.YtpmbddooibgnaaaGreatDoorN1
import Derived.Test.YtpmbddooibgnaaaGreatDoorN5
import Derived.Test.YtpmbddooibgnaaaGreatDoorN12
import Derived.Test.YtpmbddooibgnaaaGreatDoorN13
import Derived.Test.YtpmbddooibgnaaaGreatDoorN20
import Derived.Sort.OwnSortedInts
import Derived.Shelf.Strings.Builder1
set_option maxRecDepth 100000
set_option maxHeartbeats 8000000
set_option linter.all false
namespace Go.Proofs.YtpmbddooibgnaaaGreatDoor
open Go.RowKit
def Room (σ:cK)(bs:List Int)(n:Nat):Prop:=σ.sz+2*n<=σ.most+nh σ bs
def QI (L:Nat)(σ:cK)(bs:List Int)(n:Nat):Prop:=σ.sz+2*n<=L+nh σ bs
def Pk (σ σ':cK)(bs:List Int)(n:Nat):Prop:=∀L,QI L σ bs n->σ.tk<=L->σ'.tk<=L
structure Xy (F:List Pr->List Pr)(key:ByteArray):Prop where
 rise:∀c,iK c->iK (F c)
 mem:∀c,iK c->∀p∈F c,p∈c\/(p.1=key/\p.1.size<=128/\p.2.size<=64)
 len:∀c,(F c).length<=c.length+1
theorem P6 (a b:ByteArray)(C:a.size<=128)(D:b.size<=64):Xy (fun F=>jh F a b) a:=by
 refine⟨fun c k=> ?_,fun c k p n=> ?_,fun c=> ?_⟩
 ·obtain⟨G,x⟩:=qZ a c k
  unfold jh
  split
  ·rename_i g
   obtain⟨I,d⟩:=vW g
   refine mI.2 fun i j f A r=> ?_
   have:=mI.1 k i j (by simpa using f) (by simpa using A) r
   rw[List.getElem_set,List.getElem_set]
   split
   ·rename_i e;subst e
    rw[if_neg (by omega)]
    rw[d] at this;exact this
   ·split
    ·rename_i e;subst e
     rw[d] at this;exact this
    ·exact this
  ·rename_i g
   have l:∀i (h:i<c.length),dI c a<=i->lt a c[i].1=true:=by
    intro i f o
    have m:=x i f o
    cases H:lt a c[i].1 with
    |true=>rfl
    |false=>
     have e:=yx m H
     have t:i=dI c a:=by
      rcases jC (dI c a) i with E|E
      ·have y:=mI.1 k (dI c a) i (by omega) f E
       have B:=x (dI c a) (by omega) (aC _)
       rw[e] at y;rw[y] at B;cases B
      ·omega
     subst t
     exfalso
     apply g
     unfold qQ
     rw[bB f]
     simp[e]
   refine wN.2 ⟨k.sublist (List.take_sublist _ _),fD.2 ⟨fun q v=> ?_,k.sublist (List.drop_sublist _ _)⟩,fun q v z s=> ?_⟩
   ·obtain⟨i,f,rfl⟩:=nJ v
    rw[Um]
    exact l _ _ (by omega)
   ·obtain⟨i,f,rfl⟩:=nJ v
    rw[aQ] at f
    rw[ul]
    have m:=G i (by omega) (by omega)
    rcases aW.1 s with rfl|s
    ·exact m
    ·obtain⟨j,A,rfl⟩:=nJ s
     rw[Um]
     exact lt_trans m (l _ _ (by omega))
 ·unfold jh at n
  split at n
  ·rcases List.mem_or_eq_of_mem_set n with h|rfl
   ·exact .inl h
   ·exact .inr ⟨rfl,C,D⟩
  ·rcases eB.1 n with h|h
   ·exact .inl (kK h)
   ·rcases aW.1 h with rfl|h
    ·exact .inr ⟨rfl,C,D⟩
    ·exact .inl (wO h)
 ·simp only[jh]
  split<;>simp<;>omega
theorem KG {a:Nd}{l:ByteArray}{d:List (ByteArray×Nd)}(h:Q8 a l d)(b:a.pairs≠[])(e:a.size<=512):d=[(leastOf a l,a)]:=by
 cases h with
 |none _ c=>exact absurd c b
 |one _ _=>rfl
 |leaf _ _ _ c=>omega
 |inner _ _ _ c=>omega
theorem FZ {f a:cK}{c:List Pc}{l:ByteArray}{g:Nd}(h:Puts f c [(l,g)] a):∃b,c=[(b,l)]/\Wrote f b g a:=by
 match c,h with
 |[(b,k)],⟨i,e,j,d⟩=>
  cases d
  exact⟨b,by rw[show k=l from e],j⟩
 |(_,_)::_::_,⟨_,_,_,d⟩=>exact d.elim
def yS (σ:cK)(root:Int)(cs:List Pr)(bs:List Int):Prop:=(root=0/\cs=[]/\bs=[])\/∃_:Unit,xw σ 0 2 ⟨#[]⟩ none root cs bs
theorem yS.rise {c:cK}{a:Int}{b:List Pr}{d:List Int}(h:yS c a b d):iK b:=by
 rcases h with ⟨_,rfl,_⟩|⟨_,e⟩
 ·exact Cx
 ·exact e.content.rise
theorem yS.has {b:cK}{a:Int}{e:List Pr}{c:List Int}(h:yS b a e c):∀x∈c,b.hasB x=true:=by
 rcases h with ⟨_,_,rfl⟩|⟨_,d⟩
 ·simp
 ·exact d.has
theorem yS.count {d:cK}{a:Int}{c:List Pr}{b:List Int}(h:yS d a c b):b.length<=2*c.length:=by
 rcases h with ⟨_,_,rfl⟩|⟨_,e⟩
 ·simp
 ·exact e.VN
theorem yS.keep {e b:cK}{g c:List Int}(k:uG e b g c){a:Int}{j:List Pr}{d:List Int}(h:yS e a j d)(l:∀x∈d,x∉g\/False):yS b a j d:=by
 rcases h with h|⟨_,i⟩
 ·exact .inl h
 ·exact .inr ⟨(),i.move fun x f=>k.frame x (i.has x f) (l x f)⟩
theorem BK (k:ByteArray):lt k ⟨#[]⟩=false:=by
 cases a:lt k ⟨#[]⟩ with
 |false=>rfl
 |true=>(simp[lt,toList_eq] at a;cases b:k.data.toList<;>simp[b,Op.bytesLess] at a)
theorem yS.look {d:cK}{a:Int}{c:List Pr}{g:List Int}(h:yS d a c g)(e:c.length<=4095)(b:ByteArray):∃n,n<=40/\Look d b n a (dK c b):=by
 rcases h with ⟨rfl,rfl,_⟩|⟨_,i⟩
 ·exact⟨0,by omega,.nil⟩
 ·exact⟨0,by omega,i.look ⟨BK b,fun y f=>by cases f⟩⟩
def E5 (σ:cK)(bs:List Int)(cs:List Pr)(n:Nat)(σ':cK)(b:Int):Prop:=∃bs',yS σ' b cs bs'/\uG σ σ' bs bs'/\Pk σ σ' bs n/\True
theorem Rm {f:cK}{c:Int}{d:List Pr}{N:List Int}(V:yS f c d N)(hl:d.length<=999)(t:Nat)(B:VS)(S:Nat->Prop)(l:ByteArray)(g:Nat)(Y:Array Value)(F:List Pr->List Pr)(R:List (Nat×ByteArray))(z:∀s w,(callFunc g s).run Tryz.prog w= .ok (.enter g s) w)(hf:LB g Y F R)(T:Xy F l)(k:F d≠[])(hz:2+fM (F d)<=512)
  (W:World) (h:Inv f S B W) (Z:bY W t B c 0) (q:¬S t) (J:yO W S R):EG t B c l g Y f S (¬Room f N (d.length+1)) (E5 f N (F d) (d.length+1)) W:=by
 have G:=T.len d
 have o:Nd.size ⟨F d,[],[]⟩<=512:=by simp[Nd.size,iI];omega
 have D:iK d:=V.rise
 have O:∀(n:cK) (us:List Int) (b:Int) (a:cK),uG f n N us->us=[]->n.tk=f.tk->Wrote n b ⟨F d,[],[]⟩ a->Nd.Ok ⟨F d,[],[]⟩->E5 f N (F d) (d.length+1) a b:=fun n us b a hc hu hk m E=>by
  subst hu
  have K:=hc.trans (Nl m trivial)
  refine⟨[b],.inr ⟨(),_,m.blk,E,rfl,rfl,k,T.rise _ D,fun p X=>⟨BK _,fun y hy=>by cases hy⟩,rfl⟩,K,fun L r t=> ?_,trivial⟩
  have e1:=m.tk
  have e2:=K.size
  have e3:=Gg f [b]
  simp only[dP] at e3
  unfold QI at r
  omega
 rcases V with ⟨rfl,rfl,rfl⟩|⟨_,V⟩
 ·have E:Nd.Ok ⟨F [],[],[]⟩:=⟨fun p X=>by
   rcases T.mem _ Cx p X with h|h
   ·cases h
   ·exact h.2,by simp,by simp,rfl,by simp,by simp at G;show (F []).length<=2000;omega,by simp⟩
  refine(M9 t B 0 0 0 f S l ⟨#[]⟩ g Y F R z hf W h Z q J E ⟨k,o⟩).mono ?_
  rintro e w1 (⟨v,ps,zs,a,A,rfl,p2,p3,M,P,H⟩|⟨j,hg⟩)
  rotate_left
  ·refine .inr ⟨fun Q=> ?_,hg⟩
   unfold Room at Q;simp[nh] at Q;unfold Nd.room at j;simp only[jQ] at j;simp only[jL] at G;omega
  rw[KG p3 k o] at M
  obtain⟨b,rfl,m⟩:=FZ M
  refine .inl ⟨v,A,rfl,H,?_⟩
  have i:=Z.step q H
  refine(DK t B 0 0 a v b _ _ A w1 P i.1 i.2 p2.dM m.blk rfl).mono ?_
  rintro e2 w2 ⟨rfl,I⟩
  exact .inl ⟨b,a,A,rfl,P.below I,Step.of_below I,O f [] b a (uG.refl fun x hx=>by cases hx) rfl rfl m E⟩
 ·obtain⟨nd,h1,h2,h3,h4,h5,h6,h7,h8⟩:=V
  subst h4 h8
  have p9:=h1.fits.np
  have E:Nd.Ok ⟨F nd.pairs,[],[]⟩:=⟨fun p X=>by
   rcases T.mem _ h6 p X with h|h
   ·exact h2.pr p h
   ·exact h.2,by simp,by simp,rfl,by simp,by show (F nd.pairs).length<=2000;omega,by simp⟩
  have C:=Qt h h1.has
  refine(Na t B c 0 c 0 f S l ⟨#[]⟩ nd g Y F R z hf W h Z q J h1 h3 (by omega) h6 E ⟨k,o⟩).mono ?_
  rintro e w1 (⟨v,ps,zs,a,A,rfl,p2,p3,M,P,H⟩|⟨j,hg⟩)
  rotate_left
  ·refine .inr ⟨fun Q=> ?_,hg.after (Step.refl S W) rfl rfl⟩
   have hs:=C.size
   have hm:=C.most
   have pV:nh f []=0:=rfl
   unfold Room at Q;unfold Nd.room at j;simp only[jQ] at j;omega
  rw[KG p3 k o] at M
  obtain⟨b,rfl,m⟩:=FZ M
  refine .inl ⟨v,A,rfl,H,?_⟩
  have i:=Z.step q H
  refine(DK t B c 0 a v b _ _ A w1 P i.1 i.2 p2.dM m.blk rfl).mono ?_
  rintro e2 w2 ⟨rfl,I⟩
  exact .inl ⟨b,a,A,rfl,P.below I,Step.of_below I,O (f.gone c) [] b a C rfl rfl m E⟩
def VX (key value:ByteArray):Prop:=(1<=key.size/\key.size<=128)/\value.size<=64
theorem MF (e f:Nat)(b a:ByteArray):LB 545 #[.pointer (some ⟨e,0,none⟩),.pointer (some ⟨f,0,none⟩)] (fun g=>jh g b a) [(e,b),(f,a)]:=by
 intro i B k S w d c l j m
 exact MI e f i B b a k S w d (c (e,b) (by simp)).1 (c (f,a) (by simp)).1 (c (e,b) (by simp)).2 (c (f,a) (by simp)).2 l j m
theorem Vs (f:List Pr)(b a:ByteArray):jh f b a≠[]:=by
 unfold jh
 split
 ·rename_i c
  have g:=(vW c).1
  intro e
  have d:=congrArg List.length e
  rw[rU,jL] at d
  omega
 ·simp
theorem O6 (t:Nat)(f:VS)(c:Int)(d:cK)(S:Nat->Prop)(g:List Pr)(m:List Int)(b a:ByteArray)(w:World)(h:Inv d S f w)(l:bY w t f c 0)(j:¬S t)(v:yS d c g m)(s:g.length<=999)(i:VX b a)(x:2+fM (jh g b a)<=512):
  Calls Tryz.prog 494 #[.pointer (some ⟨t,0,none⟩),.string b,.string a] w fun e o=>(e= .returned (.int .i64 0)/\Fb t f S (E5 d m (jh g b a) (g.length+1)) w o)\/(e= .returned (.int .i64 12)/\Cs t f c d S (¬Room d m (g.length+1)) w o):=by
 refine RI t f c d S _ _ b a w h.sub l j i.1.1 i.1.2 i.2 fun W q p k n=> ?_
 exact Rm v s t f S b _ _ (fun r=>jh r b a) [(q,b),(p,a)] (fun _ _=>by kernel_rfl) (MF q p b a) (P6 b a i.1.2 i.2) (Vs _ _ _) x W (h.below k) ((k.block t (aj.1 l).1).trans l) j n
theorem BV (t:Nat)(i:VS)(b:Int)(f:cK)(S:Nat->Prop)(d:List Pr)(o:List Int)(a:ByteArray)(w:World)(h:Inv f S i w)(l:bY w t i b 0)(m:yS f b d o)(p:d.length<=4090)(j:1<=a.size/\a.size<=128):
  Calls Tryz.prog 332 #[.pointer (some ⟨t,0,none⟩),.string a] w fun e k=>e= .returned (.tuple #[.string ((dK d a).getD ⟨#[]⟩),.bool (dK d a).isSome,.int .i64 0])/\Below w.heap.size w k:=by
 obtain⟨n,c,g⟩:=m.look (by omega) a
 exact SA t i b f S a _ w h l j.1 j.2 n c g
theorem Dl (t:Nat)(f:VS)(b:Int)(i:cK)(S:Nat->Prop)(d:List Pr)(q:List Int)(c:ByteArray)(a:Int)(w:World)(h:Inv i S f w)(k:bY w t f b 0)(n:yS i b d q)(z:d.length<=4090):
  Calls Tryz.prog 82 #[.pointer (some ⟨t,0,none⟩),.string c,.int .i64 a] w fun e g=>∃v,e= .returned (.tuple #[v,.int .i64 0])/\aV g S w.heap.size 188 2 v ((d.drop (dI d c)).take a.toNat).length (dG ((d.drop (dI d c)).take a.toNat))/\Below w.heap.size w g:=by
 by_cases p:a<=0
 ·refine(Dm t f b c a w k (.inr p)).mono ?_
  rintro e g ⟨rfl,j⟩
  refine⟨_,rfl,?_,j⟩
  rw[show a.toNat=0 from by omega,gT]
  exact aV.nil _ _ _ _ _
 ·rcases n with ⟨rfl,rfl,_⟩|⟨_,A,l,y,r,m,B,o,x,s⟩
  ·refine(Dm t f 0 c a w k (.inl rfl)).mono ?_
   rintro e g ⟨rfl,j⟩
   refine⟨_,rfl,?_,j⟩
   rw[List.drop_nil,Q6]
   exact aV.nil _ _ _ _ _
  ·subst m
   exact OX t f b i S c a _ 0 w h k (by have:=l.lo;omega) (by omega) (by omega) (.leaf l r o) (by simp only[bG];omega)
def Fo (σ:cK)(h:Nat):List Int->List Int->Prop
 |[],bs=>bs=[]
 |b::L,bs=>∃lo hi c x bs',xw σ h 2 lo hi b c x/\Fo σ h L bs'/\bs=x++bs'
theorem Fo.append {a:cK}{h:Nat}:∀{L M:List Int} {x y:List Int},Fo a h L x->Fo a h M y->Fo a h (L++M) (x++y)
 |[],_,_,_,d,e=>by obtain rfl:=d;exact e
 |b::L,_,_,_,⟨f,i,c,x,g,d,e,rfl⟩,j=>⟨f,i,c,x,_,d,Fo.append e j,bA _ _ _⟩
theorem lW.fo {b:cK}{h:Nat}{i:Option ByteArray}:∀{l:List (ByteArray×Int)} {j:List Pr} {d:List Int},lW (xw b h 2) i l j d->Fo b h (l.map (·.2)) d
 |[],_,_,⟨_,e⟩=>e
 |(k,_)::_,_,_,⟨c,_,x,a,f,g,_,e⟩=>⟨k,_,c,x,a,f,lW.fo g,e⟩
inductive BL (σ:cK):Nat->List Int->List Int->Prop
 |done:BL σ 0 [] []
 |step {n:Nat} {L:List Int} {nds:List Nd} {T:List Int}:L≠[]->nds.length=L.length->(∀i (h1:i<L.length) (h2:i<nds.length),Fe σ L[i] nds[i])->BL σ n (nds.flatMap (·.kids)) T->BL σ (n+1) L (L++T)
theorem BL.le {a:cK}{n:Nat}{L T:List Int}(h:BL a n L T):L.length<=T.length:=by
 cases h with
 |done=>simp
 |step _ _ _ _=>simp
theorem Fo.zero {f:cK}:∀{L j:List Int},Fo f 0 L j->∃a:List Nd,a.length=L.length/\(∀i (d:i<L.length) (g:i<a.length),Fe f L[i] a[i])/\a.flatMap (·.kids)=[]/\j=L
 |[],_,h=>⟨[],rfl,fun i d=>absurd d (by simp),rfl,h⟩
 |b::L,_,⟨t,v,c,x,p,⟨o,d,_,q,_,_,_,_,k⟩,g,e⟩=>by
  obtain⟨a,l,s,m,rfl⟩:=Fo.zero g
  subst e k
  refine⟨o::a,by simp[l],fun i n r=> ?_,by rw[fK,q,m];rfl,rfl⟩
  cases i with
  |zero=>exact d
  |succ i=>exact s i (by simpa using n) (by simpa using r)
theorem Fo.succ {f:cK}{h:Nat}:∀{L n:List Int},Fo f (h+1) L n->∃(a:List Nd) (d:List Int),a.length=L.length/\(∀i (g:i<L.length) (k:i<a.length),Fe f L[i] a[i])/\Fo f h (a.flatMap (·.kids)) d/\(L++d).Perm n/\(L≠[]->a.flatMap (·.kids)≠[])
 |[],_,h=>⟨[],[],rfl,fun i g=>absurd g (by simp),rfl,by obtain rfl:=h;exact LG _,fun h=>absurd rfl h⟩
 |b::L,_,⟨s,I,c,x,d,⟨m,j,g,t,o,_,E,C⟩,k,e⟩=>by
  obtain⟨a,y,q,G,z,v,_⟩:=Fo.succ k
  subst e E
  obtain⟨J,l,F,_,A⟩:=A7 t.kk o s
  have r:Fo f h m.kids j:=by
   have:=C.fo
   unfold Nd.row at this
   rw[F] at this
   rw[A]
   exact this
  refine⟨m::a,j++y,by simp[q],fun i D B=> ?_,by rw[fK];exact r.append z,?_,fun _=>by rw[fK];intro p;exact o (List.append_eq_nil_iff.1 p).1⟩
  ·cases i with
   |zero=>exact g
   |succ i=>exact G i (by simpa using D) (by simpa using B)
  ·have H:(L++(j++y)).Perm (j++(L++y)):=by
    rw[<-bA,<-bA]
    exact List.Perm.append_right _ lX
   exact(H.trans (List.Perm.append_left _ v)).cons b
theorem Fo.bl {i:cK}:∀{h:Nat} {L a:List Int},L≠[]->Fo i h L a->∃T,BL i (h+1) L T/\T.Perm a
 |0,L,a,b,g=>by
  obtain⟨c,d,f,e,rfl⟩:=g.zero
  refine⟨a++[],.step b d f (by rw[e];exact .done),by rw[dV]⟩
 |h+1,L,a,b,g=>by
  obtain⟨c,j,d,f,e,l,m⟩:=g.succ
  obtain⟨T,k,n⟩:=Fo.bl (m b) e
  exact⟨L++T,.step b d f k,(List.Perm.append_left _ n).trans l⟩
theorem yS.bl {b:cK}{a:Int}{g:List Pr}{d:List Int}(h:yS b a g d)(i:g.length<=4095):∃n T,n<=12/\BL b n (if a=0 then[] else[a]) T/\T.Perm d:=by
 rcases h with ⟨rfl,_,rfl⟩|⟨_,f⟩
 ·exact⟨0,[],by omega,.done,LG _⟩
 ·have j:2<=a:=by obtain⟨k,c,_⟩:=f;exact c.lo
  obtain⟨T,c,e⟩:=Fo.bl (L:=[a]) (by simp) (show Fo b 0 [a] (d++[]) from⟨_,_,_,_,_,f,rfl,rfl⟩)
  rw[dV] at e
  exact⟨1,T,by omega,by rw[if_neg (by omega)];exact c,e⟩
def pG (T:List Int):List Int:=T.mergeSort fun x y=>decide (x<=y)
theorem rY (T:List Int):(pG T).length=T.length:=List.length_mergeSort _
theorem Mh {T:List Int}(h:T.Nodup):(pG T).Pairwise (· < ·):=by
 have d:(pG T).Pairwise fun a b=>decide (a<=b)=true:=List.pairwise_mergeSort (fun a b c d e=>by simp at*;omega) (fun a b=>by simp;omega) T
 have e:(pG T).Nodup:=(qM T _).nodup_iff.2 h
 exact(d.and e).imp fun {a b} ⟨d,e⟩=>by have:=bF d;omega
theorem Bo {T:List Int}(x:Int):x∈pG T↔x∈T:=(qM T _).mem_iff
theorem xP (v:Value)(T:List Int)(w:World)(S:Nat->Prop)(B:Nat)(h:aV w S B 3 1 v T.length (T.map (.int .i64)))(z:T.length<=100000)(hB:B<=w.heap.size):
  Calls Tryz.prog 85 #[v] w fun e b=>e= .returned (.tuple #[])/\aV b S B 3 1 v (pG T).length ((pG T).map (.int .i64))/\Below B w b:=by
 obtain⟨⟨x,s⟩,o⟩:=h
 rcases s with ⟨rfl,l⟩|⟨g,d,f,rfl,j,c,p,m,y,q⟩
 ·refine(Any.slices_Sort_int_none xQ none 0 w).mono ?_
  rintro e b ⟨rfl,rfl⟩
  have r:T=[]:=bK l
  subst r
  refine⟨rfl,?_,aJ _ _⟩
  have:pG []=[]:=bK (rY [])
  rw[this]
  exact aV.nil _ _ _ _ _
 ·have i:Go.Sort.Holds (Value.int .i64) w g 0 T.toArray:=holds_of_blockI c (by rw[<-q,eY])
  refine(Any.slices_Sort_int xQ g 0 d T w i (aj.1 c).1 (by omega)).mono ?_
  rintro e b ⟨rfl,n,os,rfl⟩
  have a:=grownBy_sortedI (w:=w) (g:=g) (n:=n) (os:=os) (pG T).toArray
  refine⟨rfl,⟨?_,o⟩,⟨a.os,a.tape,a.output,a.size,fun k t=>a.block k (aA t hB) (fun e=>by have:=dN e;omega)⟩⟩
  have:=ownsRow_sortedI (w:=w) (base:=B) (n:=n) (os:=os) (ts:=pG T) (rY T) j c p m y
  rw[rY]
  exact this
theorem BH (l:List Int):∀u∈l.map (Value.int .i64),u.oneCell'=true:=by
 intro u a
 obtain⟨p,_,rfl⟩:=iN.1 a
 rfl
theorem Ca (a:List Nd)(k:Nat)(h:k<a.length):(a.take (k+1)).flatMap (·.kids)=(a.take k).flatMap (·.kids)++a[k].kids:=by
 rw[aO h,nK,fK,List.flatMap_nil,dV]
theorem Qj (a:List Nd)(k:Nat):((a.take k).flatMap (·.kids)).length<=(a.flatMap (·.kids)).length:=by
 have:(a.take k).flatMap (·.kids)++(a.drop k).flatMap (·.kids)=a.flatMap (·.kids):=by rw[<-nK,bM]
 rw[<-this];simp
theorem Ii (t:Nat)(c:VS)(S:Nat->Prop)(w:World)(f:bY w t c 0 0):
  Calls Tryz.prog 81 #[.pointer (some ⟨t,0,none⟩)] w fun e d=>∃v,e= .returned (.tuple #[v,.int .i64 0])/\aV d S w.heap.size 3 1 v (pG []).length ((pG []).map (.int .i64))/\Below w.heap.size w d:=by
 obtain⟨_,m,_,_,_,_,j⟩:=cells3 f
 go_enter Tryz.func81,Tryz.ntmps81
 go_wp2_with (first
  |(go_at_call 139;go_must ((refine(nC t c 0 0 _ f).mono ?_);rintro e g ⟨rfl,n⟩;subst g)))
 go_loopw [5,6,7,8,10,11,12] (fun o l _ _ _ _ _ wr=>o= .slice none 0 0/\l= .slice none 0 0/\Below w.heap.size w wr) (fun _ _ _ _ _ _ _ _=>0)
 case atStart=>exact⟨rfl,rfl,aG w _⟩
 case round=>
  obtain⟨rfl,rfl,b⟩:=hrel
  go_wp2_with (first
   |(go_at_call 85;go_must ((refine(xP (.slice none 0 0) [] _ S w.heap.size (aV.nil _ _ _ _ _) (by simp) b.size).mono ?_);rintro e k ⟨rfl,i,a⟩)))
  go_ret2
  exact⟨_,rfl,i,b.trans a⟩
theorem Ij (t:Nat)(Q:VS)(f:Int)(σ:cK)(S:Nat->Prop)(w:World)(h:Inv σ S Q w)(ht:bY w t Q f 0)(hr:f≠0)(n:Nat)(T:List Int)(hn:n<=12)(hB:BL σ n [f] T)(hl:T.length<=9000):
  Calls Tryz.prog 81 #[.pointer (some ⟨t,0,none⟩)] w fun e w'=>∃v,e= .returned (.tuple #[v,.int .i64 0])/\aV w' S w.heap.size 3 1 v (pG T).length ((pG T).map (.int .i64))/\Below w.heap.size w w':=by
 obtain⟨_,c1,_,_,_,_,qc⟩:=cells3 ht
 have A:=h.sub
 have lG:(f==0)=false:=by simpa using hr
 have HB:=ah hB;clear hB
 have h0:aV (w.alloc (.cells #[.int .i64 f] 3)) S w.heap.size 3 1 (.slice (some ⟨w.heap.size,0,none⟩) 1 1) 1 [.int .i64 f]:=yc (w:=w) (S:=S) (B:=w.heap.size) (e:=3) (k:=1) [.int .i64 f] 1 1 rfl rfl (aC _) (by simp[maxLen]) (aC _) A
 go_enter Tryz.func81,Tryz.ntmps81
 go_wp2_with (first
  |(go_at_call 139;go_must ((refine(nC t Q f 0 _ ht).mono ?_);rintro e w1 ⟨rfl,hw⟩;subst w1)))
 go_loopw [5,6,7,8,10,11,12] (fun o l x _ _ _ _ wr=>∃(O L T':List Int) (d m:Nat),x= .int .i64 d/\d+m<=12/\aV wr S w.heap.size 3 1 o O.length (O.map (.int .i64))/\aV wr S w.heap.size 3 1 l L.length (L.map (.int .i64))/\BL σ m L T'/\O++T'=T/\Below w.heap.size w wr) (fun _ _ x _ _ _ _ _=>13 - (intOf x).toNat)
 case atStart=>exact⟨[],[f],T,0,n,rfl,by omega,aV.nil _ _ _ _ _,h0,HB.out,rfl,aG w _⟩
 case round=>
  clear h0
  obtain⟨O,L,T',d,m,rfl,j3,hO,hL,av,N,p⟩:=hrel
  have W:O.length+T'.length<=9000:=by rw[<-aB,N];exact hl
  cases av with
  |done=>
   rw[dV] at N
   have HT:=ah N;clear N
   obtain⟨ao,c,rfl,_,_,_,_⟩:=bq.form hL.dM
   go_wp2_with (first
    |(go_at_call 85;go_must ((refine(xP _ O _ S w.heap.size hO (by omega) p.size).mono ?_);rintro e w2 ⟨rfl,ho,qC⟩)))
   go_ret2
   rw[HT.out] at ho
   exact⟨_,rfl,ho,p.trans qC⟩
  |@step m _ j T2 Z q9 E p9=>
   have qb:=ah E;clear E
   have pV:=ah p9;clear p9
   have HT:=ah N;clear N
   have jv:=pV.out.le
   have C:=Qj j
   have di:=ah C;clear C
   rw[aB] at W
   obtain⟨ao,c,rfl,_,_,_,_⟩:=bq.form hL.dM
   obtain⟨oo,oc,rfl,_,_,_,_⟩:=bq.form hO.dM
   have kz:0<L.length:=gY.2 Z
   have fo:(0:Int)<(L.length:Int):=by omega
   clear Z
   have Y:(d:Int)<=40:=by omega
   obtain⟨wo,rfl⟩:∃x:World,x=wr:=⟨_,rfl⟩
   go_wp2_with fail
   go_loopw [8,10,11,12,35] (fun v _ _ _ i wk=>∃k:Nat,k<=L.length/\i= .int .i64 k/\aV wk S wo.heap.size 3 1 v ((j.take k).flatMap (·.kids)).length (((j.take k).flatMap (·.kids)).map (.int .i64))/\Below wo.heap.size wo wk) (fun _ _ _ _ i _=>L.length - (intOf i).toNat)
   case atStart=>exact⟨0,by omega,rfl,aV.nil _ _ _ _ _,aJ _ _⟩
   case round=>
    obtain⟨k,hk,rfl,R,y⟩:=hrel
    have s:=p.trans (y.mono p.size)
    obtain⟨Fk,r⟩:∃F,F=(j.take k).flatMap (·.kids):=⟨_,rfl⟩
    rw[<-r] at R
    obtain⟨vo,vc,rfl,_,_,_,_⟩:=bq.form R.dM
    by_cases K:k<L.length
    ·have J:k<j.length:=by omega
     have hb:=qb.out k K J
     obtain⟨pb,po,rfl,d1⟩:=pM.at (zs:=L) (hL.dM.below y) rfl k K
     have j6:=aD wr _ d1
     have jb:(k:Int)<(L.length:Int):=by omega
     have af:=di.out (k+1)
     rw[Ca j k J,<-r,aB] at af
     have I:=Ca j k J
     rw[<-r] at I
     clear r
     have qO:=ah I;clear I
     have ql:=h.below s
     have qo:bY wr t Q f 0:=(s.block t qc).trans ht
     go_wp2_with (first
      |(go_at_call 140;go_must ((refine(o7 t Q f 0 L[k] d σ S j[k] _ ql qo hb Y).mono ?_);rintro e w1 ⟨nb,rfl,bg,G⟩;refine Stop.of ?_)))
     refine Stop.on ?_
     obtain⟨_,v0,v1,v2,dn,_,_,V⟩:=bg.lu
     obtain⟨_,_,e2,_,_,_,kC⟩:=cells3 dn
     have z:=bq.src (P:=Tryz.prog) V dR (BH _)
     obtain⟨ko,kc,rfl,_,_,_,_⟩:=bq.form V
     have dM:=R.below G
     have D:=y.trans (G.mono y.size)
     have q:∀g,S g->g<w1.heap.size:=fun g hg=>aA (A g hg) (aI s.size G.size)
     go_wp2_with (first
      |(at_builtin;(refine dQ rfl (.tmp 49) (.tmp 53) 39 39 rfl S wo.heap.size 3 1 8 _ dR qx rfl (.slice vo Fk.length vc) Fk.length _ rfl dM (.slice ko j[k].kids.length kc) j[k].kids.length _ rfl z q D.size (by unfold maxLen;omega) (by omega) ?_);go_must (intro j5 c6 w6 M lH qy j4;refine Stop.of ?_)))
     refine Stop.on ?_
     go_wp2_with fail
     go_roundw
     case rel=>exact⟨k+1,by omega,by go_num,by rw[qO.out,aB,dF];exact M,D.trans qy⟩
     case measure=>simp[intOf];omega
    ·have bf:k=L.length:=by omega
     subst bf
     rw[<-q9,bL] at r
     have X:=ah r;clear r
     have lq:Fk.length<=9000:=by rw[X.out];omega
     have z:=bq.src (P:=Tryz.prog) (hL.dM.below y) dR (BH _)
     have q:∀g,S g->g<wr.heap.size:=fun g hg=>aA (A g hg) s.size
     have d9:=hO.below y
     clear hk K
     have iO:(j.flatMap (·.kids)).length<=9000:=by omega
     have qm:=s.size
     go_wp2_with (first
      |(at_builtin;(refine dQ rfl (.tmp 56) (.tmp 57) 39 39 rfl S w.heap.size 3 1 8 _ dR qx rfl (.slice oo O.length oc) O.length _ rfl d9 (.slice ao L.length c) L.length _ rfl z q qm (by unfold maxLen;omega) (by omega) ?_);go_must (intro lg c7 w7 H eH q8 kD;refine Stop.of ?_)))
     refine Stop.on ?_
     have ai:=R.keep (w':=w7) (S':=S) fun g qf eZ hs=>⟨eH.block g eZ (fun e=>by
      have a:=R.lo g qf
      have b:=(hO.1.lt g e).2
      omega),hs⟩
     go_wp2_with fail
     go_roundw
     case rel=>exact⟨O++L,j.flatMap (·.kids),T2,d+1,m,by go_num,by omega,by rw[aB,dF];exact H,by rw[<-X.out];exact ai.base p.size,pV.out,by rw[bA,HT.out],s.trans q8⟩
     case measure=>simp[intOf];omega
def CQ (r:Nat×Nat):List Nat:=(List.range r.2).map (r.1+ ·)
def fP (rs:List (Nat×Nat)):List Nat:=rs.flatMap CQ
theorem JD (r:Nat×Nat)(a:List (Nat×Nat)):fP (r::a)=CQ r++fP a:=rfl
theorem xS (a b:List (Nat×Nat)):fP (a++b)=fP a++fP b:=by simp[fP]
theorem uL (r:Nat×Nat):(CQ r).length=r.2:=by simp[CQ]
def Yw (rs:List (Nat×Nat))(b:Nat):List (Nat×Nat):=
 match rs.getLast? with
 |some r=>if r.1+r.2=b/\r.2<255 then rs.dropLast++[(r.1,r.2+1)] else rs++[(b,1)]
 |none=>[(b,1)]
theorem Mw (f n:Nat):CQ (f,n+1)=CQ (f,n)++[f+n]:=by simp[CQ,List.range_succ]
def E8 (rs:List (Nat×Nat)):Prop:=∀r∈rs,1<=r.2/\r.2<=255/\r.1+r.2<=65536
theorem E8.le {a:List (Nat×Nat)}(h:E8 a):a.length<=(fP a).length:=by
 induction a with
 |nil=>exact aR _
 |cons r a ih=>
  have c:=h r (aY ..)
  have:=ih (fun q b=>h q (bn _ b))
  rw[JD,aB,uL,aZ];omega
def Ce (r:Nat×Nat):List UInt8:=[UInt8.ofNat r.1,UInt8.ofNat (r.1/256),UInt8.ofNat r.2]
def encR (size:Nat)(rs:List (Nat×Nat)):List UInt8:=[177,UInt8.ofNat size,UInt8.ofNat (size/256),UInt8.ofNat rs.length]++rs.flatMap Ce
def lZ (rs:List (Nat×Nat)):List Value:=rs.flatMap fun r=>[.int .i64 r.1,.int .i64 r.2]
theorem Au (a b:List (Nat×Nat)):lZ (a++b)=lZ a++lZ b:=by simp[lZ]
theorem FT (a:List (Nat×Nat))(i:Nat)(h:i<a.length):(lZ a)[i*2]? =some (.int .i64 a[i].1)/\(lZ a)[i*2+1]? =some (.int .i64 a[i].2):=by
 induction a generalizing i with
 |nil=>simp at h
 |cons r a ih=>
  cases i with
  |zero=>exact⟨rfl,rfl⟩
  |succ i=>
   have:=ih i (by simpa using h)
   rw[show (i+1)*2=i*2+2 by omega]
   exact this
structure tQ (w:World)(S:Nat->Prop)(B lb size:Nat)(rs:List (Nat×Nat))(v:Value):Prop where
 obj:w.heap[lb]? =some (.cells #[.int .i64 size,v] 372 (0,0))
 own:aV w S B 374 2 v rs.length (lZ rs)
 lo:B<=lb
 ns:¬S lb
theorem tQ.below {w w':World}{S:Nat->Prop}{B b a:Nat}{c:List (Nat×Nat)}{v:Value}(h:tQ w S B b a c v)(d:Below w.heap.size w w'):tQ w' S B b a c v:=
 ⟨(d.block b (aj.1 h.obj).1).trans h.obj,h.own.below d,h.lo,h.ns⟩
theorem JC (a:List (Nat×Nat))(k:Nat)(h:k<a.length):fP (a.take (k+1))=fP (a.take k)++CQ a[k]:=by
 rw[aO h,xS];simp[fP]
theorem wB (a:List (Nat×Nat))(k:Nat):(fP (a.take k)).length<=(fP a).length:=by
 have:fP a=fP (a.take k)++fP (a.drop k):=by rw[<-xS,bM]
 rw[this,aB];omega
def ints (l:List Nat):List Value:=l.map fun (b:Nat)=>Value.int .i64 (b:Int)
theorem GI (a b:List Nat):ints (a++b)=ints a++ints b:=by simp[ints]
theorem Sr (l:List Nat):ints l=(l.map fun (b:Nat)=>(b:Int)).map (.int .i64):=by simp[ints]
def Kt (w:World)(S:Nat->Prop)(v:Value)(rs:List (Nat×Nat)):Prop:=bq w S 2 v rs.length (lZ rs)
theorem Kt.at {w:World}{S:Nat->Prop}{v:Value}{a:List (Nat×Nat)}{g:Option Addr}{n c:Nat}(h:Kt w S v a)(p:v= .slice g n c)(i:Nat)(m:i<a.length):
  ∃b o,g=some ⟨b,o,none⟩/\w.cell? ⟨b,o+i*2,none⟩=some (.int .i64 a[i].1)/\w.cell? ⟨b,o+i*2+1,none⟩=some (.int .i64 a[i].2):=by
 obtain⟨l,j⟩:=FT a i m
 obtain⟨k,r,rfl,_,_,_,_,_,f⟩:=h
 cases p
 obtain⟨b,o,rfl,q⟩:=f (i*2) _ l
 obtain⟨s,t,e,d⟩:=f (i*2+1) _ j
 cases e
 exact⟨b,o,rfl,q,by rw[mR];exact d⟩
theorem EY (G s:Nat)(a:List (Nat×Nat))(lv:Value)(B:Nat)(S:Nat->Prop)(w:World)(h:tQ w S B G s a lv)(hS:∀g,S g->g<w.heap.size)(Z:E8 a)(hl:(fP a).length<=1000):
  Calls Tryz.prog 144 #[.pointer (some ⟨G,0,none⟩)] w fun e w'=>∃v,e= .returned v/\aV w' S w.heap.size 3 1 v (fP a).length (ints (fP a))/\Below w.heap.size w w':=by
 obtain⟨ao,c,rfl,n0,m0,_,_⟩:=bq.form h.own.dM
 have H:=h.own.dM
 have c0:w.cell? ⟨G,0,none⟩=some (.int .i64 s):=by simp[World.cell?,h.obj]
 have c1:w.cell? ⟨G,1,none⟩=some (.slice ao a.length c):=by simp[World.cell?,h.obj]
 have pV:G<w.heap.size:=(aj.1 h.obj).1
 have qb:=Z.le
 have T:=ah Z
 have Y:=ah H
 clear h H Z
 go_enter Tryz.func144,Tryz.ntmps144
 go_wp2_with fail
 go_loopw [3,5,6,12,18] (fun o _ _ i _ wr=>∃k:Nat,k<=a.length/\i= .int .i64 k/\aV wr S w.heap.size 3 1 o (fP (a.take k)).length (ints (fP (a.take k)))/\Below w.heap.size w wr) (fun _ _ _ i _ _=>a.length - (intOf i).toNat)
 case atStart=>exact⟨0,by omega,rfl,by rw[gT];exact aV.nil _ _ _ _ _,aJ _ _⟩
 case round=>
  obtain⟨k,hk,rfl,M,D⟩:=hrel
  have P:=wB a k
  obtain⟨F,C⟩:∃F,Hid (F=fP (a.take k)):=⟨_,ah rfl⟩
  rw[<-C.out] at M P
  obtain⟨oo,oc,rfl,_,_,_,_⟩:=bq.form M.dM
  by_cases t:k<a.length
  ·have x1:(k:Int)<(a.length:Int):=by omega
   obtain⟨pb,po,rfl,W,d2⟩:=Kt.at Y.out rfl k t
   have I:=(D.cell (p:=⟨pb,po+k*2,none⟩) (aD w _ W)).trans W
   have R:=(D.cell (p:=⟨pb,po+k*2+1,none⟩) (aD w _ d2)).trans d2
   have qf:=aD wr _ I
   have HT:=ah (JC a k t)
   have q:=wB a (k+1)
   rw[HT.out,<-C.out,aB,uL] at q
   have Q:=T.out a[k] (bJ t)
   obtain⟨f,J⟩:∃f,f=a[k].1:=⟨_,rfl⟩
   obtain⟨n,K⟩:∃n,n=a[k].2:=⟨_,rfl⟩
   have r:a[k]=(f,n):=by rw[J,K]
   rw[<-J,<-K] at Q
   rw[<-J] at I
   rw[<-K] at R q
   have E:=ah r
   clear J K r W d2
   obtain⟨d,rfl⟩:∃x:World,x=wr:=⟨_,rfl⟩
   have z:=aG d (.cells #[.int .i64 f,.int .i64 n] 374)
   have hA:(d.alloc (.cells #[.int .i64 f,.int .i64 n] 374)).heap[d.heap.size]? =some (.cells #[.int .i64 f,.int .i64 n] 374 (0,0)):=aH d _
   go_wp2_with fail
   generalize ql:d.alloc (.cells #[.int .i64 f,.int .i64 n] 374)=wA at z hA ⊢
   have qO:d.heap.size<wA.heap.size:=(aj.1 hA).1
   go_loopw [3,6,18] (fun o _ i wk=>∃j:Nat,j<=n/\i= .int .i64 j/\aV wk S w.heap.size 3 1 o (F.length+j) (ints (F++CQ (f,j)))/\Below w.heap.size w wk/\wk.heap[d.heap.size]? =some (.cells #[.int .i64 f,.int .i64 n] 374 (0,0))) (fun _ _ i _=>n - (intOf i).toNat)
   case atStart=>exact⟨0,by omega,rfl,by simpa [CQ] using M.below z,D.trans (z.mono D.size),hA⟩
   case round=>
    obtain⟨j,hj,rfl,m,b,l⟩:=hrel
    obtain⟨qo,qc,rfl,_,_,_,_⟩:=bq.form m.dM
    have r0:wr.cell? ⟨d.heap.size,0,none⟩=some (.int .i64 f):=by simp[World.cell?,l]
    have q8:=(aj.1 l).1
    by_cases qC:j<n
    ·have y1:(j:Int)<(n:Int):=by omega
     have HR:=ah (Mw f j)
     have O:∀g,S g->g<wr.heap.size:=fun g hg=>aA (hS g hg) b.size
     have p9:=b.size
     go_wp2_with (first
      |(at_builtin;go_must ((refine dQ rfl (.tmp 21) (.tmp 26) 39 39 rfl S w.heap.size 3 1 8 _ dR qx rfl (.slice qo (F.length+j) qc) _ _ rfl (m.below (aG _ _)) _ 1 _ rfl (iB [.int .i64 ((f:Int)+(j:Int))] _ 1 1 1 (by simp) dR rfl ?_) (kP O _) ?_ ?_ ?_ ?_);(focus (simp[Value.oneCell']));(focus (simp only[bD];omega));(focus (unfold maxLen;omega));(focus omega);intro qm c1 w1 y V N qy)))
     go_roundw
     case rel=>
      have X:(Value.slice qo (F.length+j) qc).ownBlock≠some d.heap.size:=m.ne l (by decide)
      refine⟨j+1,by omega,by go_num,?_,(b.trans (aG wr _|>.mono b.size)).trans N,?_⟩
      ·rw[HR.out,<-bA,GI]
       have e:ints [f+j]=[.int .i64 ((f:Int)+(j:Int))]:=by simp[ints]
       rw[e]
       exact y
      ·exact(V.block d.heap.size (by simp only[bD];omega) X).trans ((mU _ _ _ (by omega)).trans l)
     case measure=>simp[intOf];omega
    ·have A:j=n:=by omega
     subst A
     go_wp2_with fail
     go_roundw
     case rel=>exact⟨k+1,by omega,by go_num,by rw[HT.out,E.out,<-C.out,aB,uL];exact m,b⟩
     case measure=>simp[intOf];omega
  ·have:k=a.length:=by omega
   subst this
   rw[bL] at C
   have x1:¬(a.length:Int)<(a.length:Int):=by omega
   go_wp2_with fail
   go_ret
   exact⟨_,rfl,by rw[<-C.out];exact M,D⟩
theorem P8:(Tryz.prog.info? 374).map (fun i=>(i.zero,i.size,i.bytes))=some (some (.agg #[.int .i64 0,.int .i64 0]),2,16):=by kernel_rfl
theorem R6 {w c:World}{S:Nat->Prop}{B a d n:Nat}{rs':List (Nat×Nat)}{v f:Value}{t:List Value}(b:w.heap[a]? =some (.cells #[.int .i64 d,v] 372 (0,0)))(i:aV w S B 374 2 v n t)(m:B<=a)(q:¬S a)(z:Keep (fun g=>v.ownBlock=some g) w c)(r:Below B w c)(o:aV c S B 374 2 f rs'.length (lZ rs')):
  tQ (c.setCell ⟨a,1,none⟩ f) S B a d rs' f/\Below B w (c.setCell ⟨a,1,none⟩ f):=by
 have k:=(aj.1 b).1
 have l:c.heap[a]? =_:=(z.block a k (i.ne b (by decide))).trans b
 have j:Keep (· =a) c (c.setCell ⟨a,1,none⟩ f):=Keep.setCell (M:=(· =a)) (p:=⟨a,1,none⟩) (Keep.refl _ _) (.inr rfl) _
 exact⟨⟨by simp[World.setCell,aK,l],o.keep fun g x y s=>⟨j.block g y (fun e=>o.ne l (by decide) (by rw[x,e])),s⟩,m,q⟩,r.setCell (by exact m) _⟩
theorem O9 (d:Nat)(a:Dk)(g:Nat->Prop)(n:Int)(w:World)(h:qL w g d a):
  Calls Tryz.prog 88 #[.pointer (some ⟨d,0,none⟩),.int .i64 n] w fun e k=>e= .returned (.int .i64 (if n<2\/(a.n:Int)<=n then 1 else 0))/\k=w:=by
 have f:=ah (G6 d a g w h)
 clear h
 by_cases i:n<2
 ·rw[if_pos (.inl i)]
  go_enter Tryz.func88,Tryz.ntmps88
  go_wp2_with fail
  go_ret
  exact⟨rfl,rfl⟩
 ·by_cases j:(a.n:Int)<=n
  ·rw[if_pos (.inr j)]
   go_enter Tryz.func88,Tryz.ntmps88
   go_wp2_with (first
    |(go_at_call 87;go_must (refine f.out.mono ?_;rintro e c ⟨rfl,b⟩;subst c)))
   go_ret
   exact⟨rfl,rfl⟩
  ·rw[if_neg (by omega)]
   go_enter Tryz.func88,Tryz.ntmps88
   go_wp2_with (first
    |(go_at_call 87;go_must (refine f.out.mono ?_;rintro e c ⟨rfl,b⟩;subst c)))
   go_ret
   exact⟨rfl,rfl⟩
def Dk.uJ:Nat->Nat->Dk->Dk
 |0,_,σ=>σ
 |k+1,i,σ=>Dk.uJ k (i+1) (σ.put i [])
theorem Dk.zf:∀(k i:Nat) (a:Dk),Dk.uJ (k+1) i a=(Dk.uJ k i a).put (i+k) []
 |0,i,a=>rfl
 |k+1,i,a=>by
  show Dk.uJ (k+1) (i+1) (a.put i [])=_
  rw[Dk.zf k (i+1)]
  show (Dk.uJ k (i+1) (a.put i [])).put (i+1+k) []=(Dk.uJ k (i+1) (a.put i [])).put (i+(k+1)) []
  rw[show i+1+k=i+(k+1) by omega]
theorem Dk.zh:∀(k i:Nat) (a:Dk),(Dk.uJ k i a).n=a.n
 |0,_,_=>rfl
 |k+1,i,a=>(Dk.zh k (i+1) (a.put i [])).trans rfl
theorem Dk.vM:∀(k i:Nat) (a:Dk),a.nH->(Dk.uJ k i a).nH
 |0,_,_,h=>h
 |k+1,i,a,h=>Dk.vM k (i+1) (a.put i []) (h.put i [])
theorem Dk.wT:∀(k i:Nat) (a:Dk),(Dk.uJ k i a).waits.length=a.waits.length+k
 |0,_,_=>rfl
 |k+1,i,a=>by
  show (Dk.uJ k (i+1) (a.put i [])).waits.length=_
  rw[Dk.wT k (i+1)]
  simp[Dk.put]
  omega
def Pg.new (n:Nat):Pg:=⟨n,n - 1,Im.none,false⟩
theorem BF {w:World}{f c:Nat->Prop}{j d:Nat}{m:Dk}{l:Lg}(n:Nat)(h:gK w f c j d m l)(s:l.frm=0)(r:l.n=n)(i:n<m.n)(x:2<=n):
  iF ((w.alloc (.map #[] 0)).alloc (.cells #[.pointer (some ⟨d,0,none⟩),.pointer (some ⟨j,0,none⟩),.int .i64 n,.int .i64 ((n - 1:Nat):Int),.map (some w.heap.size),.pointer none,.bool false] 199)) (Three f c (fun g=>g=w.heap.size\/g=w.heap.size+1)) (w.heap.size+1) d m l (Pg.new n) (.pointer none)/\
  Step (fun g=>f g\/c g) (Three f c (fun g=>g=w.heap.size\/g=w.heap.size+1)) w ((w.alloc (.map #[] 0)).alloc (.cells #[.pointer (some ⟨d,0,none⟩),.pointer (some ⟨j,0,none⟩),.int .i64 n,.int .i64 ((n - 1:Nat):Int),.map (some w.heap.size),.pointer none,.bool false] 199)):=by
 obtain⟨b,k⟩:∃b:Array Value,b=#[.pointer (some ⟨d,0,none⟩),.pointer (some ⟨j,0,none⟩),.int .i64 n,.int .i64 ((n - 1:Nat):Int),.map (some w.heap.size),.pointer none,.bool false]:=⟨_,rfl⟩
 rw[<-k]
 have q:Below w.heap.size w ((w.alloc (.map #[] 0)).alloc (.cells b 199)):=iY w _ _
 have v:kJ ((w.alloc (.map #[] 0)).alloc (.cells b 199)) w.heap.size Im.none:=(kJ.none w).block (mU _ _ _ (by simp))
 have t:((w.alloc (.map #[] 0)).alloc (.cells b 199)).heap[w.heap.size+1]? =some (.cells b 199 (0,0)):=by
  have:=aH (w.alloc (.map #[] 0)) (.cells b 199)
  rwa [bD] at this
 have y:((w.alloc (.map #[] 0)).alloc (.cells b 199)).heap.size=w.heap.size+2:=by simp
 have p:∀g,f g->g<w.heap.size:=h.dk.sub
 have o:∀g,c g->g<w.heap.size:=h.lg.sub
 refine⟨⟨f,c,_,j,w.heap.size,⟨h.below q,⟨s,r.symm,?_,by rw[r];exact i,Im.Ok.none _⟩,fun g a=> ?_,fun g a e=> ?_,fun g a e=> ?_,.inr rfl,.inl rfl,?_,v⟩,fun _=>NK⟩,(Keep.of_below q _),fun g a=> ?_⟩
 ·show n - 1+1=l.n;omega
 ·omega
 ·have:=p g e;omega
 ·have:=o g e;omega
 ·rw[t,k];rfl
 ·rcases a with a|a|a
  ·exact .inl (.inl a)
  ·exact .inl (.inr a)
  ·right;omega
theorem WR (d:Nat)(a:Dk)(s:Nat->Prop)(n:Nat)(w:World)(h:qL w s d a)(E:a.nH)(F:2<=n)(O:n<a.n)(M:a.waits.length<=50000):
  Calls Tryz.prog 49 #[.pointer (some ⟨d,0,none⟩),.int .i64 n] w fun e G=>∃K D,e= .returned (.tuple #[.pointer (some ⟨K,0,none⟩),.int .i64 0])/\
   iF G D K d (((Dk.uJ (a.n - n) n a).flush.put 0 (Lg.new 0 n).d9).flush) (Lg.new 0 n) (Pg.new n) (.pointer none)/\Step s D w G:=by
 have c:=O9 d a s n w h
 rw[if_neg (by omega)] at c
 have X:=ah c;clear c
 have Z:=h.ok.hi
 have Q:=ah h;have J:=ah E
 clear h E
 go_enter Tryz.func49,Tryz.ntmps49
 go_wp2_with (first
  |(go_at_call 88;go_must (refine X.out.mono ?_;rintro e q ⟨rfl,t⟩;subst q)))
 go_loopw [7] (fun i wr=>∃(k:Nat) (m:Nat->Prop),n+k<=a.n/\i= .int .i64 ((n+k:Nat):Int)/\Hid (qL wr m d (Dk.uJ k n a))/\Hid (Step s m w wr)) (fun i _=>a.n - (intOf i).toNat)
 case atStart=>exact⟨0,s,by omega,rfl,Q,ah (Step.refl _ _)⟩
 case round=>
  obtain⟨k,m,T,rfl,v,H⟩:=hrel
  have g:=ah (G6 d _ m wr v.out)
  rw[Dk.zh] at g
  obtain⟨j,o⟩:∃j,Hid (n+k=j):=⟨_,ah rfl⟩
  rw[o.out] at T ⊢
  by_cases A:j<a.n
  ·have I:(j:Int)<(a.n:Int):=by omega
   have l:=EQ d _ m (j:Int) (.slice none 0 0) [] wr v.out (bq.nil _ _ _) (by rw[Dk.wT];have:=o.out;omega)
   rw[(Dk.vM k n a J.out).write j [] (by rw[Dk.zh];exact A) (by simp)] at l
   have y:=ah l;clear l
   go_wp2_with (first
    |(go_at_call 87;go_must (refine g.out.mono ?_;rintro e q ⟨rfl,t⟩;subst q))
    |(go_at_call 89;go_must (refine y.out.mono ?_;rintro e N ⟨rfl,S,r,b⟩)))
   have x:=ah r;have f:=ah (H.out.trans b);clear r b
   go_roundw
   case rel=>
    refine⟨k+1,S,by have:=o.out;omega,by have:=o.out;go_num,ah ?_,f⟩
    rw[Dk.zf,o.out]
    exact x.out
   case measure=>simp[intOf];omega
  ·obtain rfl:j=a.n:=by omega
   have B:k=a.n - n:=by have:=o.out;omega
   rw[B] at v
   have R:=ah (Wo d _ m 0 n wr v.out (Dk.vM _ n a J.out) F (by rw[Dk.zh];omega) (by rw[Dk.wT];omega))
   have W:∀w:World,(Instr.makeMap 197 none).run Tryz.prog w= .ok (.map (some w.heap.size)) (w.alloc (.map #[] 0)):=fun w=>run_makeMap _ w
   have e1:IntKind.i64.wrap ((n:Int) - 1)=((n - 1:Nat):Int):=by rw[aM _ (by omega)];omega
   go_wp2_with (first
    |(go_at_call 87;go_must (refine g.out.mono ?_;rintro e q ⟨rfl,t⟩;subst q))
    |(go_at_call 90;go_must (refine R.out.mono ?_;rintro e N ⟨Y,P,V,rfl,p,b⟩;refine Stop.of ?_)))
   refine Stop.on ?_
   have z:=ah p;have f:=ah (H.out.trans b);clear p b
   go_wp2_with fail
   go_ret2
   have C:=BF n z.out rfl rfl (by show n<(((Dk.uJ (a.n - n) n a).flush.put 0 (Lg.new 0 n).d9).flush).n;have:(((Dk.uJ (a.n - n) n a).flush.put 0 (Lg.new 0 n).d9).flush).n=(Dk.uJ (a.n - n) n a).n:=rfl;rw[this,Dk.zh];exact O) F
   exact⟨_,_,rfl,C.1,f.out.trans C.2⟩
theorem uQ (a c m t:Nat)(k:Nat)(d:m=2^k)(j:a<m)(g:t=a+m*c)(e:t<9223372036854775808):bits .or .i64 (a:Int) ((m*c:Nat):Int)=(t:Int):=by
 unfold bits
 have l:m*c<18446744073709551616:=by omega
 have f:(BitVec.ofInt 64 (a:Int)|||BitVec.ofInt 64 ((m*c:Nat):Int)).toNat=t:=by
  rw[kL,kL,IG,jg,jg,jY (by omega),jY (by omega),Nat.or_comm]
  have:=pu (i:=k) (b:=a) (by omega) c
  rw[d,<-this,g,d]
  omega
 show IntKind.i64.wrap (((BitVec.ofInt 64 (a:Int)|||BitVec.ofInt 64 ((m*c:Nat):Int)).toNat:Nat):Int)=t
 rw[f,bX]
 omega
theorem o9 (l:List UInt8)(i:Nat)(b:UInt8)(h:l[i]? =some b)(W:World):(Instr.index 9 (.string (strOf l)) (.int .i64 (i:Int))).run Tryz.prog W= .ok (.int .u8 (b.toNat:Int)) W:=by
 obtain⟨d,c⟩:=bO.1 h
 have a:(strOf l).size=l.length:=by show l.toArray.size=_;simp
 rw[run_index_string W 9 (strOf l) .i64 (i:Int) bH,dif_pos ⟨by omega,by rw[a];omega⟩]
 have:(strOf l)[(i:Int).toNat]'(by rw[a];omega)=b:=by
  show l.toArray[(i:Int).toNat]'(by simpa using d)=b
  simp[c]
 rw[this]
theorem RN (d a b c:UInt8)(r:List UInt8)(w:World):
  Calls Tryz.prog 207 #[.string (strOf (d::a::b::c::r))] w fun e F=>e= .returned (.int .i64 (rO [d,a,b,c]))/\F=w.drew:=by
 have x:=d.toNat_lt;have G:=a.toNat_lt;have D:=b.toNat_lt;have K:=c.toNat_lt
 have B:∀W:World,(Instr.index 9 (.string (strOf (d::a::b::c::r))) (.int .i64 0)).run Tryz.prog W= .ok (.int .u8 (d.toNat:Int)) W:=fun W=>o9 _ 0 d rfl W
 have H:∀W:World,(Instr.index 9 (.string (strOf (d::a::b::c::r))) (.int .i64 1)).run Tryz.prog W= .ok (.int .u8 (a.toNat:Int)) W:=fun W=>o9 _ 1 a rfl W
 have N:∀W:World,(Instr.index 9 (.string (strOf (d::a::b::c::r))) (.int .i64 2)).run Tryz.prog W= .ok (.int .u8 (b.toNat:Int)) W:=fun W=>o9 _ 2 b rfl W
 have J:∀W:World,(Instr.index 9 (.string (strOf (d::a::b::c::r))) (.int .i64 3)).run Tryz.prog W= .ok (.int .u8 (c.toNat:Int)) W:=fun W=>o9 _ 3 c rfl W
 obtain⟨s,E⟩:∃s,Hid (strOf (d::a::b::c::r)=s):=⟨_,ah rfl⟩
 rw[E.out] at B H N J ⊢
 have X:IntKind.i64.wrap (d.toNat:Int)=(d.toNat:Int):=aM _ (by omega)
 have R:IntKind.i64.wrap (a.toNat:Int)=(a.toNat:Int):=aM _ (by omega)
 have Q:IntKind.i64.wrap (b.toNat:Int)=(b.toNat:Int):=aM _ (by omega)
 have V:IntKind.i64.wrap (c.toNat:Int)=(c.toNat:Int):=aM _ (by omega)
 have P:IntKind.i64.wrap ((a.toNat:Int)*256)=((256*a.toNat:Nat):Int):=by rw[aM _ (by omega)];omega
 have O:IntKind.i64.wrap ((b.toNat:Int)*65536)=((65536*b.toNat:Nat):Int):=by rw[aM _ (by omega)];omega
 have A:IntKind.i64.wrap ((c.toNat:Int)*16777216)=((16777216*c.toNat:Nat):Int):=by rw[aM _ (by omega)];omega
 obtain⟨p,g⟩:∃n,n=d.toNat+256*a.toNat:=⟨_,rfl⟩
 obtain⟨l,j⟩:∃n,n=p+65536*b.toNat:=⟨_,rfl⟩
 obtain⟨t,f⟩:∃n,n=l+16777216*c.toNat:=⟨_,rfl⟩
 have z:=uQ d.toNat a.toNat 256 p 8 rfl x g (by omega)
 have C:=uQ p b.toNat 65536 l 16 rfl (by omega) j (by omega)
 have M:=uQ l c.toNat 16777216 t 24 rfl (by omega) f (by omega)
 have I:=ah (show rO [d,a,b,c]=t by simp only[rO];omega)
 rw[I.out]
 obtain⟨Y,k⟩:∃m:Nat,Hid (256*a.toNat=m):=⟨_,ah rfl⟩
 obtain⟨S,o⟩:∃m:Nat,Hid (65536*b.toNat=m):=⟨_,ah rfl⟩
 obtain⟨T,q⟩:∃m:Nat,Hid (16777216*c.toNat=m):=⟨_,ah rfl⟩
 rw[k.out] at P z;rw[o.out] at O C;rw[q.out] at A M
 clear g j f x G D K
 go_enter Tryz.func207,Tryz.ntmps207
 go_wp2_with fail
 refine aP (fun W=>W=w.drew) (fun i=>true) [0,1,2,3,4,5,6,7,8,9,10,11,12,13,14,15,16,17,18] rfl (by kernel_rfl) rfl ?_
 repeat ((refine bE (v:= ?_) rfl rfl (fun _ _ _ h=>h) rfl (fun W y=> ?_) ?_);rotate_left;(focus ((try dsimp only at y);subst y;(go_simp;first|done|with_reducible rfl)));(try simp only[Act.put,ak,ay,ax]))
 refine bN ?_
 go_wp2_with fail
 go_ret
 exact⟨rfl,rfl⟩
theorem J9 (a:List (Nat×Nat))(k:Nat)(h:k<a.length):(a.flatMap Ce)[3*k]? =some (UInt8.ofNat a[k].1)/\(a.flatMap Ce)[3*k+1]? =some (UInt8.ofNat (a[k].1/256))/\(a.flatMap Ce)[3*k+2]? =some (UInt8.ofNat a[k].2):=by
 induction a generalizing k with
 |nil=>simp at h
 |cons r a ih=>
  cases k with
  |zero=>exact⟨rfl,rfl,rfl⟩
  |succ k=>
   have:=ih k (by simpa using h)
   rw[show 3*(k+1)=3*k+1+1+1 by omega,show 3*k+1+1+1+1=(3*k+1)+1+1+1 by omega,show 3*k+1+1+1+2=(3*k+2)+1+1+1 by omega]
   exact this
theorem EP (b:Nat)(c:List (Nat×Nat))(a:List UInt8)(k j:Nat)(u:UInt8)(d:(c.flatMap Ce)[j]? =some u)(e:k=4+j):(aF (encR b c++a))[k]? =some (.int .u8 (u.toNat:Int)):=by
 subst e
 have f:=(bO.1 d).1
 unfold aF encR
 rw[dL,bA,bP (by simp),aZ,aZ,aZ,aZ,jL,fZ,dD,fI f,d]
 rfl
theorem DR (a:Nat)(c:List (Nat×Nat))(b:List UInt8):(aF (encR a c++b))[0]? =some (.int .u8 177)/\(aF (encR a c++b))[1]? =some (.int .u8 ((UInt8.ofNat a).toNat:Int))/\(aF (encR a c++b))[2]? =some (.int .u8 ((UInt8.ofNat (a/256)).toNat:Int))/\(aF (encR a c++b))[3]? =some (.int .u8 ((UInt8.ofNat c.length).toNat:Int)):=⟨rfl,rfl,rfl,rfl⟩
def chunk (t:List UInt8)(i:Nat):List UInt8:=(t.drop (512*i)).take 512
def Gi (n:Nat):Nat:=(n+511)/512
structure vJ (σ:cK)(head:Nat)(size:Nat)(rs:List (Nat×Nat)):Prop where
 lo:2<=head
 has:σ.hasB head=true
 mem:∃rest,σ.mem head=encR size rs++rest
 ok:E8 rs
 len:(fP rs).length=Gi size
 s1:1<=size
 s2:size<=49152
theorem vJ.runs {d:cK}{b a:Nat}{c:List (Nat×Nat)}(h:vJ d b a c):c.length<=96/\(fP c).length<=96:=by
 have g:=h.ok.le
 have e:=h.len
 have f:=h.s2
 unfold Gi at e
 omega
theorem TV (mp:VS)(σ:cK)(S:Nat->Prop)(w:World)(q b:Nat)(d:List (Nat×Nat))(h:Inv σ S mp w)(hh:vJ σ q b d):
  Calls Tryz.prog 143 #[.iface 178 mp.agg,.int .i64 q] w fun e w'=>∃c v,e= .returned (.tuple #[.pointer (some ⟨c,0,none⟩),.int .i64 0])/\tQ w' S w.heap.size c b d v/\Below w.heap.size w w':=by
 have p9:=h.sub
 have ai:=BA mp σ S w q h hh.has
 obtain⟨o,Y⟩:=hh.mem
 rw[Y] at ai
 have kD:(encR b d++o).length=512:=by
  obtain⟨n,hn,nH,_⟩:=cK.lH hh.has
  rw[<-Y,hn]
  exact h.ok.len n nH
 have oo:=ah ai;clear ai
 have vk:=hh.lo
 have tY:=hh.s1
 have vY:=hh.s2
 obtain⟨vz,vT⟩:=hh.runs
 have HH:=ah hh
 obtain⟨b0,b1,b2,b3⟩:=DR b d o
 have HB:=ah (au b0 (au b1 (au b2 b3)))
 have x1:¬(q:Int)<0:=by omega
 have x2:((q:Int)==0)=false:=by simp;omega
 have x3:¬(q:Int)=0:=by omega
 clear hh Y b0 b1 b2 b3
 have hm:∀w,(method 841 178 mp.agg "Read").run Tryz.prog w= .ok (136,.pointer (some ⟨mp.tx,0,none⟩)) w:=fun _=>by kernel_rfl
 go_enter Tryz.func143,Tryz.ntmps143
 go_wp2_with (refine oo.out.mono ?_;rintro e F ⟨v,rfl,hv,j4,fo⟩;refine Stop.of ?_)
 refine Stop.on ?_
 have l6:=hv
 obtain⟨ao,cp,rfl,n0,m0,_,_⟩:=bq.form l6
 obtain⟨b0,b1,b2,b3⟩:=HB.out
 obtain⟨y,X,rfl,d0⟩:=bq.Cq hv rfl 0 _ b0
 obtain⟨_,_,e,d1⟩:=bq.Cq hv rfl 1 _ b1
 cases e
 obtain⟨_,_,e,d2⟩:=bq.Cq hv rfl 2 _ b2
 cases e
 obtain⟨_,_,e,d3⟩:=bq.Cq hv rfl 3 _ b3
 cases e
 have u3:((UInt8.ofNat d.length).toNat:Int)=(d.length:Int):=by rw[dZ];omega
 obtain⟨lo,af⟩:∃lo:Nat,lo=b%256:=⟨_,rfl⟩
 obtain⟨hi,q8⟩:∃hi:Nat,hi=b/256:=⟨_,rfl⟩
 have u1:((UInt8.ofNat b).toNat:Int)=(lo:Int):=by rw[dZ,af]
 have u2:((UInt8.ofNat (b/256)).toNat:Int)=(hi:Int):=by rw[dZ,q8];omega
 rw[u1] at d1;rw[u2] at d2;rw[u3] at d3
 have G:y<F.heap.size:=aD F _ d0
 have y5:w.heap.size<=y:=j4 y rfl
 have HV:=ah hv
 have lG:lo<256:=by omega
 have lq:hi<256:=by omega
 have qb:b=lo+256*hi:=by omega
 rw[jD] at d0
 clear b0 b1 b2 b3 u1 u2 u3 af q8 hv l6 j4 hm
 have y1:(lo:Int)<256:=by omega
 have y2:(d.length:Int)*3+4<=512:=by omega
 obtain⟨r,bg⟩:∃r:World,Hid (F.alloc (.cells #[.int .i64 0,.slice none 0 0] 372)=r):=⟨_,ah rfl⟩
 have V:Below F.heap.size F r:=by rw[<-bg.out];exact aG F _
 have R:r.heap[F.heap.size]? =some (.cells #[.int .i64 0,.slice none 0 0] 372 (0,0)):=by rw[<-bg.out];exact aH F _
 have D0:=(V.cell (p:=⟨y,X,none⟩) G).trans d0
 have D1:=(V.cell (p:=⟨y,X+1,none⟩) G).trans d1
 have D2:=(V.cell (p:=⟨y,X+2,none⟩) G).trans d2
 have D3:=(V.cell (p:=⟨y,X+3,none⟩) G).trans d3
 have J:=aA G V.size
 have HD:=ah (au D0 (au D1 (au D2 (au D3 J))))
 clear d0 d1 d2 d3 D0 D1 D2 D3
 go_upto_region 11 with (fail)
 rw[bg.out]
 obtain⟨D0,D1,D2,D3,J⟩:=HD.out
 go_wp2_with fail
 obtain⟨c,pV⟩:∃c,Hid (F.heap.size=c):=⟨_,ah rfl⟩
 have A:w.heap.size<=c:=by rw[<-pV.out];exact fo.size
 rw[pV.out] at R ⊢
 have qO:c<r.heap.size:=(aj.1 R).1
 have nY:r.drew.frozen? ⟨c,0,none⟩=false:=by show r.frozen? _=false;simp[World.frozen?,R]
 have r9:r.drew.cell? ⟨c,0,none⟩=some (.int .i64 0):=by show r.cell? _=_;simp[World.cell?,R]
 have l5:c<r.drew.heap.size:=qO
 have sF:=ah (JV lo hi b lG lq qb)
 have yL:=ah qb
 have xK:=ah kD
 clear qb y1 kD
 refine aP (fun W=>W=r.drew) (fun i=> !([13].contains i)) [0,1,2,3,4,5,6,7,8,9,10,11,12,13] rfl (by kernel_rfl) rfl ?_
 repeat ((refine bE (v:= ?_) rfl rfl (fun _ _ _ h=>h) rfl (fun W m=> ?_) ?_);rotate_left;(focus ((try dsimp only at m);subst m;have r1:r.drew.cell? ⟨y,X+1,none⟩=some (.int .u8 lo):=D1;have r2:r.drew.cell? ⟨y,X+2,none⟩=some (.int .u8 hi):=D2;have r3:y<r.drew.heap.size:=J;(go_simp;first|done|with_reducible rfl)));(try simp only[Act.put,ak,ay,ax]))
 rw[sF.out]
 refine jR rfl rfl rfl (by kernel_rfl) ?_;intro K hK;go_simp
 refine hK.out _ _ ?_
 refine bN ?_
 have dn:Keep (· =c) r (r.setCell ⟨c,0,none⟩ (.int .i64 b)).drew:=((Keep.refl (· =c) r).setCell (p:=⟨c,0,none⟩) (.inr rfl) _).drew
 have qc:(r.setCell ⟨c,0,none⟩ (.int .i64 b)).drew.heap[c]? =some (.cells #[.int .i64 b,.slice none 0 0] 372 (0,0)):=by
  show (r.setCell ⟨c,0,none⟩ (.int .i64 b)).heap[c]? =_
  simp[World.setCell,aK,R]
 generalize (r.setCell ⟨c,0,none⟩ (.int .i64 b)).drew=w3 at dn qc ⊢
 have bf:¬S c:=fun x=>absurd (p9 c x) (aX.2 A)
 have o5:tQ w3 S c c b (d.take 0) (.slice none 0 0):=⟨qc,by rw[gT];exact aV.nil _ _ _ _ _,aC _,bf⟩
 have jb:Below c F w3:=by
  have:=V
  rw[pV.out] at this
  exact this.trans (dn.fw (by omega) (fun i hi e=>by omega))
 have qy:y<c:=by rw[<-pV.out];exact G
 have D:=ah (fun (W:World) (m:Below c F W) (j:Nat) (u:Value) (hu:(aF (encR b d++o))[j]? =some u)=>(show W.cell? ⟨y,X+j,none⟩=some u from by
  obtain⟨_,_,e,dj⟩:=bq.Cq HV.out rfl j _ hu
  cases e
  exact(Q5 (w:=F) (a:=⟨y,X+j,none⟩) (m.block y qy)).trans dj))
 have j3:F.heap.size=c:=pV.out
 have av:=D.out w3 jb 3 _ (DR b d o).2.2.2
 have sW:y<w3.heap.size:=aA G (by rw[j3];exact gJ (aj.1 qc).1)
 have u3:((UInt8.ofNat d.length).toNat:Int)=(d.length:Int):=by rw[dZ];omega
 rw[u3] at av
 clear D0 D1 D2 D3 J nY r9 l5 qO dn qc R u3 y2
 go_wp2_with fail
 go_loopw [9,10,70] (fun _ _ i wr=>∃(k:Nat) (v:Value),k<=d.length/\i= .int .i64 k/\tQ wr S c c b (d.take k) v/\Below c F wr) (fun _ _ i _=>d.length - (intOf i).toNat)
 case atStart=>exact⟨0,_,by omega,rfl,o5,jb⟩
 case round=>
  obtain⟨k,v,hk,rfl,hA,hb⟩:=hrel
  have j6:(d.take k).length=k:=by rw[aQ];omega
  obtain⟨N,O⟩:=au hA.obj hA.own
  rw[j6] at O
  obtain⟨T,Q,rfl,_,_,_,_⟩:=bq.form O.dM
  have l:c<wr.heap.size:=(aj.1 N).1
  have d9:y<wr.heap.size:=Nat.lt_trans qy l
  have HA:=ah hA;clear hA j6
  by_cases qf:k<d.length
  ·have x1:(k:Int)<(d.length:Int):=by omega
   have z1:¬cp=4+3*k:=by omega
   have z2:((4:Int)+3*(k:Int))<=512:=by omega
   have z3:((4:Int)+3*(k:Int))<=(cp:Int):=by omega
   have z4:((4:Int)+3*(k:Int)).toNat=4+3*k:=by omega
   clear av
   go_upto_region 18 with (fail)
   obtain⟨f,hf⟩:∃f,f=d[k].1:=⟨_,rfl⟩
   obtain⟨n,hn⟩:∃n,n=d[k].2:=⟨_,rfl⟩
   have nD:=HH.out.ok d[k] (bJ qf)
   rw[<-hf,<-hn] at nD
   obtain⟨j0,j1,j2⟩:=J9 d k qf
   obtain⟨a1,kC⟩:∃a:Nat,a=f%256:=⟨_,rfl⟩
   obtain⟨a2,j5⟩:∃a:Nat,a=f/256:=⟨_,rfl⟩
   have v1:((UInt8.ofNat d[k].1).toNat:Int)=(a1:Int):=by rw[dZ,<-hf,kC]
   have v2:((UInt8.ofNat (d[k].1/256)).toNat:Int)=(a2:Int):=by rw[dZ,<-hf,j5];omega
   have v3:((UInt8.ofNat d[k].2).toNat:Int)=(n:Int):=by rw[dZ,<-hn];omega
   have HR:=ah (show ∀W,Below c F W->W.cell? ⟨y,X+(4+3*k),none⟩=some (.int .u8 a1)/\W.cell? ⟨y,X+(4+3*k)+1,none⟩=some (.int .u8 a2)/\W.cell? ⟨y,X+(4+3*k)+2,none⟩=some (.int .u8 n) from fun W m=>by
    have e0:=D.out W m (4+3*k) _ (EP b d o _ _ _ j0 rfl)
    have e1:=D.out W m (4+3*k+1) _ (EP b d o _ _ _ j1 (by omega))
    have e2:=D.out W m (4+3*k+2) _ (EP b d o _ _ _ j2 (by omega))
    rw[v1] at e0;rw[v2] at e1;rw[v3] at e2
    exact⟨e0,by rw[mR];exact e1,by rw[mR];exact e2⟩)
   have HF:=ah (JV a1 a2 f (by omega) (by omega) (by omega))
   have q9:IntKind.i64.wrap (n:Int)=(n:Int):=aM _ (by omega)
   have kz:=ah (show lZ (d.take (k+1))=lZ (d.take k)++[.int .i64 f,.int .i64 n] by
    rw[aO qf,Au,hf,hn];rfl)
   have l9:wr.cell? ⟨c,1,none⟩=some (.slice T k Q):=by simp[World.cell?,N]
   have mr:0<512 - (4+3*k):=by omega
   have sN:1<512 - (4+3*k):=by omega
   have lH:2<512 - (4+3*k):=by omega
   have rq:(0:Int)<((512 - (4+3*k):Nat):Int):=by omega
   have og:(1:Int)<((512 - (4+3*k):Nat):Int):=by omega
   have nk:(2:Int)<((512 - (4+3*k):Nat):Int):=by omega
   clear hf hn v1 v2 v3 j0 j1 j2 kC j5 z1 z2 z3 z4
   generalize 512 - (4+3*k)=M at*
   generalize cp - (4+3*k)=M2 at*
   refine aP (fun W=>Below c F W/\W.cell? ⟨c,1,none⟩=some (.slice T k Q)/\c<W.heap.size/\y<W.heap.size) (fun i=> !([20,21,24].contains i)) [0,1,2,3,4,5,6,7,8,9,10,11,12,13,14,15,16,17,18,19,20,21,22,23,24] rfl (by kernel_rfl) ⟨hb.drew,l9,l,d9⟩ ?_
   repeat ((refine bE (v:= ?_) rfl rfl (fun _ _ _ h=>h) rfl (fun W m=> ?_) ?_);rotate_left;(focus ((try dsimp only at m);obtain⟨r0,r1,r2,r3⟩:=m;obtain⟨r4,r5,r6⟩:=HR.out W r0;clear r0;(go_simp;first|done|with_reducible rfl)));(try simp only[Act.put,ak,ay,ax]))
   rw[HF.out]
   have C:∀g,S g->g<wr.heap.size:=fun g hg=>aA (p9 g hg) (aI A (gJ l))
   have z:Below c wr (wr.alloc (.cells #[.int .i64 f,.int .i64 n] 374)).drew:=((aG wr _).mono (gJ l)).drew
   have t:(wr.alloc (.cells #[.int .i64 f,.int .i64 n] 374)).drew.heap[c]? =_:=((aG wr (.cells #[.int .i64 f,.int .i64 n] 374)).block c l).trans N
   have H:=(O.below (aG wr (.cells #[.int .i64 f,.int .i64 n] 374))).drew
   have eZ:=(yc (w:=wr) (S:=S) (B:=c) (e:=374) (k:=2) [.int .i64 f,.int .i64 n] 1 1 rfl rfl (aC _) (by simp[maxLen]) (gJ l) C).drew.dM.src (P:=Tryz.prog) Tryz.underlying370 (by intro u hu;simp at hu;rcases hu with rfl|rfl<;>rfl)
   have rf:∀g,S g->g<(wr.alloc (.cells #[.int .i64 f,.int .i64 n] 374)).drew.heap.size:=fun g hg=>aA (C g hg) (aG wr (.cells #[.int .i64 f,.int .i64 n] 374)).size
   have mD:(wr.alloc (.cells #[.int .i64 f,.int .i64 n] 374)).drew.cell? ⟨c,1,none⟩=some (.slice T k Q):=by have:=t;simp only[World.cell?,this];rfl
   refine bT rfl rfl rfl ?_;intro K hK;go_simp
   refine hK.out _ _ ⟨hb.trans z,mD,(aj.1 t).1,aA d9 z.size⟩ ?_
   refine bT rfl rfl rfl ?_;intro K hK
   refine uI (.tmp 82) (.tmp 98) 370 370 rfl S c 374 2 16 _ Tryz.underlying370 P8 rfl (.slice T k Q) k _ rfl H _ 1 _ rfl eZ rf (aI (gJ l) z.size) (by unfold maxLen;omega) (by omega) ?_
   intro yB c3 w4 di lg eH vM
   have E:w4.heap[c]? =_:=(lg.block c (aj.1 t).1 (H.ne t (by decide))).trans t
   have qo:=R6 (rs':=d.take (k+1)) t H (aC _) bf lg eH (by rw[kz.out,aQ,show min (k+1) d.length=k+1 by omega];exact di)
   have qC:=ah qo;clear qo
   refine hK.out _ _ ⟨(hb.trans z).trans eH,by simp[World.cell?,E],(aj.1 E).1,aA (aA d9 z.size) eH.size⟩ ?_
   (try simp only[Act.put,ak,ay,ax])
   repeat ((refine bE (v:= ?_) rfl rfl (fun _ _ _ h=>h) rfl (fun W m=> ?_) ?_);rotate_left;(focus ((try dsimp only at m);obtain⟨r0,r1,r2,r3⟩:=m;clear r0;(go_simp;first|done|with_reducible rfl)));(try simp only[Act.put,ak,ay,ax]))
   have g4:w4.cell? ⟨c,1,none⟩=some (.slice T k Q):=by simp[World.cell?,E]
   have vP:w4.frozen? ⟨c,1,none⟩=false:=by simp[World.frozen?,E]
   have yE:=(aj.1 E).1
   refine jR rfl rfl rfl (by kernel_rfl) ?_;intro K hK;go_simp
   refine hK.out _ _ ?_
   refine bN ?_
   clear mr rq og nk sN lH q9
   go_wp2_with fail
   go_roundw
   case rel=>exact⟨k+1,_,by omega,by go_num,qC.out.1,(hb.trans z).trans qC.out.2⟩
   case measure=>simp[intOf];omega
  ·obtain rfl:k=d.length:=by omega
   have I:=HA.out
   rw[bL] at I
   have Z:=HH.out.len
   have C:∀g,S g->g<wr.heap.size:=fun g hg=>aA (p9 g hg) (aI A (gJ l))
   have ng:=ah (EY c b d _ c S wr.drew (show tQ wr.drew S c c b d (.slice T d.length Q) from⟨I.obj,I.own.drew,I.lo,I.ns⟩) C HH.out.ok (by omega))
   obtain⟨s5,ol⟩:∃s:Nat,s=b+512:=⟨_,rfl⟩
   obtain⟨s6,oO⟩:∃s:Nat,s=b+511:=⟨_,rfl⟩
   obtain⟨nb,ql⟩:∃s:Nat,s=Gi b:=⟨_,rfl⟩
   have q1:IntKind.i64.wrap ((b:Int)+512)=(s5:Int):=by rw[aM _ (by omega)];omega
   have q2:IntKind.i64.wrap ((s5:Int) - 1)=(s6:Int):=by rw[aM _ (by omega)];omega
   have q3:IntKind.i64.wrap ((s6:Int)/512)=(nb:Int):=by
    have e:(s6:Int)/512=(nb:Int):=by rw[ql];unfold Gi;omega
    rw[e];exact aM _ (by unfold Gi at ql;omega)
   have z0:((b:Int)==0)=false:=by simp;omega
   have z1:¬b=0:=by omega
   rw[<-ql] at Z
   have mo:=ah Z
   have iO:=ah (show ∀W,Below wr.heap.size wr W->W.cell? ⟨c,0,none⟩=some (.int .i64 b)/\c<W.heap.size from fun W m=>by
    have:=(m.block c l).trans N
    exact⟨by simp[World.cell?,this],aA l m.size⟩)
   have nN:=ah I
   clear I av ol oO ql Z O qf
   go_upto_region 20 with (fail)
   refine aP (fun W=>Below wr.heap.size wr W) (fun i=> !([7].contains i)) [0,1,2,3,4,5,6,9,10,11,12,13,14,15,7,8,16,17] rfl (by kernel_rfl) ((aJ _ wr).drew) ?_
   repeat ((refine bE (v:= ?_) rfl rfl (fun _ _ _ h=>h) rfl (fun W m=> ?_) ?_);rotate_left;(focus ((try dsimp only at m);obtain⟨r0,r1⟩:=iO.out W m;(go_simp;first|done|with_reducible rfl)));(try simp only[Act.put,ak,ay,ax]))
   refine bT rfl rfl rfl ?_;intro K hK;go_simp
   refine ng.out.mono ?_;rintro e w5 ⟨bv,rfl,dM,jv⟩
   obtain⟨xo,xc,rfl,_,_,_,_⟩:=bq.form dM.dM
   refine hK.out _ _ ((aJ _ wr).drew.trans jv) ?_
   (try simp only[Act.put,ak,ay,ax])
   have z3:=mo.out
   repeat ((refine bE (v:= ?_) rfl rfl (fun _ _ _ h=>h) rfl (fun W m=> ?_) ?_);rotate_left;(focus ((try dsimp only at m);obtain⟨r0,r1⟩:=iO.out W m;(try rw[z3]);(go_simp;first|done|with_reducible rfl)));(try simp only[Act.put,ak,ay,ax]))
   refine bN ?_
   go_wp2_with fail
   go_ret2
   have qm:Below wr.heap.size wr w5:=(aJ _ wr).drew.trans jv
   have l7:Below c F w5:=hb.trans (qm.mono (gJ l))
   have ko:=nN.out.below qm
   refine⟨c,_,rfl,⟨ko.obj,ko.own.base A,A,bf⟩,?_⟩
   exact fo.trans (l7.mono A)
def lV (head:Nat)(rs:List (Nat×Nat)):List Int:=(fP rs++[head]).map fun (b:Nat)=>(b:Int)
theorem Li (y:VS)(t:cK)(S:Nat->Prop)(w:World)(a i:Nat)(b:List (Nat×Nat))(h:Inv t S y w)(q:vJ t a i b):
  Calls Tryz.prog 84 #[.iface 178 y.agg,.int .i64 a] w fun e M=>∃v,e= .returned (.tuple #[v,.int .i64 0])/\aV M S w.heap.size 3 1 v (pG (lV a b)).length ((pG (lV a b)).map (.int .i64))/\Below w.heap.size w M:=by
 have n:=h.sub
 have Q:=q.lo
 obtain⟨T,N⟩:=q.runs
 have X:=ah (TV y t S w a i b h q)
 have Z:((a:Int)==0)=false:=by simp;omega
 have x3:¬a=0:=by omega
 have H:=ah q.ok
 have O:=ah (show ints (fP b)++[.int .i64 (a:Int)]=(lV a b).map (.int .i64) by simp[ints,lV])
 have r:=ah (show (lV a b).length=(fP b).length+1 by simp[lV])
 clear h q
 go_enter Tryz.func84,Tryz.ntmps84
 go_wp2_with (first
  |(go_at_call 143;go_must (refine X.out.mono ?_;rintro e J ⟨V,v,rfl,hA,c⟩;refine Stop.of ?_)))
 refine Stop.on ?_
 have p:∀g,S g->g<J.heap.size:=fun g A=>aA (n g A) c.size
 have C:=ah (EY V i b v w.heap.size S J hA p H.out (by omega))
 go_wp2_with (first
  |(go_at_call 144;go_must (refine C.out.mono ?_;rintro e s ⟨bv,rfl,d,l⟩;refine Stop.of ?_)))
 refine Stop.on ?_
 obtain⟨W,Y,rfl,_,_,_,_⟩:=bq.form d.dM
 have I:∀g,S g->g<s.heap.size:=fun g A=>aA (p g A) l.size
 have j:=d.base (B:=w.heap.size) c.size
 have z:w.heap.size<=s.heap.size:=aI c.size l.size
 go_wp2_with (first
  |(at_builtin;go_must ((refine dQ rfl (.tmp 23) (.tmp 25) 39 39 rfl S w.heap.size 3 1 8 _ dR qx rfl (.slice W (fP b).length Y) _ _ rfl (j.below (aG _ _)) _ 1 _ rfl (iB [.int .i64 (a:Int)] _ 1 1 1 (by simp) dR rfl ?_) (kP I _) ?_ ?_ ?_ ?_);(focus (simp[Value.oneCell']));(focus (simp only[bD];omega));(focus (unfold maxLen;omega));(focus omega);intro m K G f P x R;refine Stop.of ?_)))
 refine Stop.on ?_
 rw[O.out] at f
 have k:aV G S w.heap.size 3 1 (.slice m ((fP b).length+1) K) (lV a b).length ((lV a b).map (.int .i64)):=by rw[r.out];exact f
 have o:Below w.heap.size w G:=((c.trans (l.mono c.size)).trans (aG s _|>.mono z)).trans x
 have E:=ah (xP (.slice m ((fP b).length+1) K) (lV a b) G S w.heap.size k (by rw[r.out];omega) o.size)
 go_wp2_with (first
  |(go_at_call 85;go_must (refine E.out.mono ?_;rintro e w4 ⟨rfl,D,F⟩;refine Stop.of ?_)))
 refine Stop.on ?_
 go_wp2_with fail
 go_ret2
 exact⟨_,rfl,D,o.trans F⟩
def cK.frees (σ:cK)(l:List Int):cK:=l.foldl cK.gone σ
theorem J8 (a:cK)(l:List Int)(k:Nat)(h:k<l.length):a.frees (l.take (k+1))=(a.frees (l.take k)).gone l[k]:=by
 rw[aO h]
 unfold cK.frees
 rw[Cw];rfl
theorem BZ:∀(l:List Int) (a:cK) (x:Int),(∀y∈l,0<=y)->x∉l->(a.frees l).hasB x=a.hasB x
 |[],_,_,_,_=>rfl
 |y::l,a,x,h,b=>by
  have:=BZ l (a.gone y) x (fun z c=>h z (bn _ c)) (fun e=>b (bn _ e))
  show ((a.gone y).frees l).hasB x=_
  rw[this]
  exact cK.zG (h y (aY ..)) (fun e=>b (by rw[e];exact aY ..))
theorem DX:∀(l:List Int) (a:cK),(∀x∈l,a.hasB x=true)->l.Nodup->uG a (a.frees l) l []
 |[],a,_,_=>uG.refl (by simp)
 |y::l,a,h,d=>by
  obtain⟨i,e⟩:=xG.1 d
  have f:=DW (h y (aY ..))
  have b:=f.left (rs:=l) d (fun x c=>h x (bn _ c))
  have g:∀x∈l,(a.gone y).hasB x=true:=fun x c=>(b.new x c).1
  exact b.trans (DX l (a.gone y) g e)
structure qI (σ:cK)(head:Nat)(t:List UInt8)(rs:List (Nat×Nat)):Prop where
 hd:vJ σ head t.length rs
 nd:(lV head rs).Nodup
 blk:∀i (h:i<(fP rs).length),σ.hasB ((fP rs)[i]:Nat)=true/\2<=(fP rs)[i]/\σ.mem ((fP rs)[i]:Nat)=pad (chunk t i)
theorem qI.all {d:cK}{a:Nat}{t:List UInt8}{f:List (Nat×Nat)}(h:qI d a t f):∀x∈lV a f,d.hasB x=true/\2<=x:=by
 intro x g
 unfold lV at g
 obtain⟨b,c,rfl⟩:=iN.1 g
 rcases eB.1 c with c|c
 ·obtain⟨i,j,e⟩:=nJ c
  have:=h.blk i j
  rw[e] at this
  exact⟨this.1,by have:=this.2.1;omega⟩
 ·rw[cu.1 c]
  exact⟨h.hd.has,by have:=h.hd.lo;omega⟩
theorem Xx (g:VS)(d:cK)(S:Nat->Prop)(w:World)(a:Nat)(t:List UInt8)(C:List (Nat×Nat))(h:Inv d S g w)(z:qI d a t C):
  Calls Tryz.prog 537 #[.iface 178 g.agg,.int .i64 a] w fun e I=>e= .returned (.int .i64 0)/\Inv (d.frees (pG (lV a C))) S g I/\Step S S w I:=by
 have K:=h.sub
 have s:=ah (Li g d S w a t.length C h z.hd)
 have f:=z.all
 obtain⟨L,B⟩:∃L,L=pG (lV a C):=⟨_,rfl⟩
 have r:L.Nodup:=by rw[B];exact(qM _ _).nodup_iff.2 z.nd
 have c:∀x∈L,d.hasB x=true/\2<=x:=fun x p=>f x ((Bo x).1 (by rw[<-B];exact p))
 have T:L.length<=97:=by
  rw[B,rY]
  have:=z.hd.runs.2
  simp[lV];omega
 rw[<-B] at s ⊢
 have j:=ah c;have E:=ah r
 have N:=ah h
 have Z:∀w,(method 841 178 g.agg "Free").run Tryz.prog w= .ok (619,.pointer (some ⟨g.mp,0,none⟩)) w:=fun _=>by kernel_rfl
 clear h z f c r B
 go_enter Tryz.func537,Tryz.ntmps537
 go_wp2_with (first
  |(go_at_call 84;go_must (refine s.out.mono ?_;rintro e M ⟨bv,rfl,b,q⟩;refine Stop.of ?_)))
 refine Stop.on ?_
 obtain⟨xo,xc,rfl,_,_,_,_⟩:=bq.form b.dM
 have G:=ah b
 have A:=ah q
 clear b q
 go_wp2_with fail
 go_loopw [8,9,18] (fun _ _ i wr=>∃k:Nat,k<=L.length/\i= .int .i64 k/\Inv (d.frees (L.take k)) S g wr/\Step S S M wr) (fun _ _ i _=>L.length - (intOf i).toNat)
 case atStart=>exact⟨0,by omega,rfl,by rw[gT];exact N.out.below A.out,Step.refl _ _⟩
 case round=>
  obtain⟨k,hk,rfl,m,n⟩:=hrel
  by_cases o:k<L.length
  ·have W:(k:Int)<(L.length:Int):=by omega
   have P:=ah (J8 d L k o)
   have p:=j.out L[k] (bJ o)
   have v:L[k]∉L.take k:=fun e=>by
    obtain⟨i,Q,J⟩:=nJ e
    rw[aQ] at Q
    rw[ul] at J
    have:=(List.getElem_inj E.out).1 J
    omega
   have l:(d.frees (L.take k)).hasB L[k]=true:=by
    rw[BZ _ _ _ (fun y O=>by have:=(j.out y (kK O)).2;omega) v]
    exact p.1
   have F:=ah (GX g (d.frees (L.take k)) S wr L[k] m p.2 l)
   obtain⟨Y,po,rfl,R⟩:=pM.at (zs:=L) (G.out.step n).dM rfl k o
   have V:=aD wr _ R
   clear p v l
   go_wp2_with (refine F.out.mono ?_;rintro e X ⟨rfl,H,D⟩)
   go_roundw
   case rel=>exact⟨k+1,by omega,by go_num,by rw[P.out];exact H,n.trans D⟩
   case measure=>simp[intOf];omega
  ·obtain rfl:k=L.length:=by omega
   rw[bL] at m
   have W:¬(L.length:Int)<(L.length:Int):=by omega
   go_wp2_with fail
   go_ret
   exact⟨rfl,m,(Step.of_below A.out).trans n⟩
end Go.Proofs.YtpmbddooibgnaaaGreatDoor
namespace Go.Proofs.YtpmbddooibgnaaaGreatDoor
open Go.RowKit Go.Shelf
def zQ:Go.Shelf.Ren:=⟨fun x=>match x with|240=>121|276=>195|169=>67|n=>n,fun x=>match x with|0=>0|3=>3|4=>4|5=>5|9=>9|20=>20|37=>154|70=>153|72=>156|127=>235|164=>333|n=>n,fun n=>n⟩
theorem zM:Lays.n240 Tryz.prog zQ where
 mixed:=by kernel_rfl
 f240:=Tryz.func121.trans (congrArg some (by kernel_rfl))
 f276:=Tryz.func195.trans (congrArg some (by kernel_rfl))
 t0:=gM
 a0:=lS
 z0:=kE
 v0:=iD
 t4:=eF
 a4:=kM
 z4:=jB
 v4:=gL
 t9:=bH
 a9:=jO
 z9:=jd
 v9:=fT
 t20:=yY
 a20:=Uc
 z20:=NQ
 v20:=AY
 t70:=wM
 a70:=Tryz.isAgg153
 z70:=Tryz.sizeOf153
 v70:=Tryz.zeroValue153
 t72:=Tryz.underlying156
 a72:=Tryz.isAgg156
 z72:=Tryz.sizeOf156
 v72:=Tryz.zeroValue156
 t164:=qd
 a164:=Tryz.isAgg333
 z164:=Tryz.sizeOf333
 v164:=Tryz.zeroValue333
theorem Bn:Lays.n169 Tryz.prog zQ where
 mixed:=by kernel_rfl
 f169:=Tryz.func67.trans (congrArg some (by kernel_rfl))
 t0:=gM
 a0:=lS
 z0:=kE
 v0:=iD
 t3:=bV
 a3:=jo
 z3:=iM
 v3:=fH
 t9:=bH
 a9:=jO
 z9:=jd
 v9:=fT
 t37:=aU
 a37:=NS
 z37:=IX
 v37:=yV
 t70:=wM
 a70:=Tryz.isAgg153
 z70:=Tryz.sizeOf153
 v70:=Tryz.zeroValue153
 t72:=Tryz.underlying156
 a72:=Tryz.isAgg156
 z72:=Tryz.sizeOf156
 v72:=Tryz.zeroValue156
 t127:=Tryz.underlying235
 a127:=Tryz.isAgg235
 z127:=Tryz.sizeOf235
 v127:=Tryz.zeroValue235
theorem sG:Builder.Extra Tryz.prog zQ where
 sizeBuilder:=by kernel_rfl
 liesBuilder:=by kernel_rfl
 t5:=dX
 a5:=lQ
 z5:=ku
 v5:=iC
 infoByte:=by kernel_rfl
 cellsByte:=by kernel_rfl
 sizeByte:=by kernel_rfl
 neB5:=by decide
end Go.Proofs.YtpmbddooibgnaaaGreatDoor
namespace Go.Proofs.YtpmbddooibgnaaaGreatDoor
open Go.RowKit
structure uh (w:World)(S:Nat->Prop)(B b:Nat)(l:List UInt8):Prop where
 ns:¬S b
 at_:∃p v,(p= .pointer none\/p= .pointer (some ⟨b,0,none⟩))/\w.heap[b]? =some (.cells #[p,v] 156 (0,0))/\aV w S B 5 1 v l.length (aF l)
theorem uh.below {w w':World}{S:Nat->Prop}{B b:Nat}{l:List UInt8}(h:uh w S B b l)(a:Below w.heap.size w w'):uh w' S B b l:=by
 obtain⟨e,p,v,d,c,f⟩:=h
 exact⟨e,p,v,d,(a.block b (aj.1 c).1).trans c,f.below a⟩
theorem uh.lt {w:World}{S:Nat->Prop}{B b:Nat}{l:List UInt8}(h:uh w S B b l):b<w.heap.size:=by
 obtain⟨_,p,v,_,a,_⟩:=h
 exact(aj.1 a).1
theorem zO (B b:Nat)(l:List UInt8)(S:Nat->Prop)(w:World)(h:uh w S B b l):
  Calls Tryz.prog 121 #[.pointer (some ⟨b,0,none⟩)] w fun e c=>e= .returned (.tuple #[])/\(∃v,c.heap[b]? =some (.cells #[.pointer (some ⟨b,0,none⟩),v] 156 (0,0))/\aV c S B 5 1 v l.length (aF l))/\Keep (· =b) w c:=by
 obtain⟨n,p,v,m,a,d⟩:=h
 rcases m with rfl|rfl
 ·refine(Any.Builder_copyCheck_fresh zM sG.toX72 b w (by simp[World.cell?,a]) (by simp[World.shape?,a];rfl) (by simp[World.frozen?,a])).mono ?_
  rintro e c ⟨rfl,rfl⟩
  have f:Keep (· =b) w (w.setCell ⟨b,0,none⟩ (.pointer (some ⟨b,0,none⟩))):=(Keep.refl (· =b) _).setCell (p:=⟨b,0,none⟩) (.inr rfl) _
  refine⟨rfl,⟨v,by simp[World.setCell,aK,a],d.keep fun g j k i=>⟨f.block g k (fun e=>d.ne a (by decide) (by rw[j,e])),i⟩⟩,f⟩
 ·refine(Any.Builder_copyCheck_used zM sG.toX72 b w (by simp[World.cell?,a])).mono ?_
  rintro e c ⟨rfl,rfl⟩
  exact⟨rfl,⟨v,a,d⟩,Keep.refl _ _⟩
theorem Nz (B b:Nat)(l x:List UInt8)(D:Value)(S:Nat->Prop)(w:World)(h:uh w S B b l)(hB:B<=w.heap.size)(O:∀g,S g->g<w.heap.size)(s:bq w eG 1 D x.length (aF x))(t:∀g,D.ownBlock=some g->g≠b)(r:l.length<=1000000)(X:x.length<=1000000):
  Calls Tryz.prog 557 #[.pointer (some ⟨b,0,none⟩),D] w fun e K=>e= .returned (.tuple #[.int .i64 x.length,.nilIface])/\uh K S B b (l++x)/\Keep (fun g=>g=b\/B<=g) w K:=by
 have Y:=ah (zO B b l S w h)
 have G:=h.ns
 obtain⟨W,Z,rfl,_,_,_,_⟩:=bq.form s
 have M:=ah s
 have A:=ah (show aF l++aF x=aF (l++x) from(fG l x).symm)
 clear h s
 go_enter Tryz.func557,Tryz.ntmps557
 go_wp2_with (first
  |(go_at_call 121;go_must (refine Y.out.mono ?_;rintro e J ⟨rfl,⟨v,d,f⟩,j⟩;refine Stop.of ?_)))
 refine Stop.on ?_
 obtain⟨I,c,rfl,_,_,_,_⟩:=bq.form f.dM
 have o:=(bq.keep (S':=eG) M.out (fun g m r _=>⟨j.block g r (fun e=>t g m e),id⟩)).src (P:=Tryz.prog) aU (fO x)
 have V:J.cell? ⟨b,1,none⟩=some (.slice I l.length c):=by simp[World.cell?,d]
 have E:=(aj.1 d).1
 have F:∀g,S g->g<J.heap.size:=fun g m=>aA (O g m) j.size
 have z:=aI hB j.size
 go_wp2_with (first
  |(at_builtin;go_must ((refine dQ rfl (.tmp 12) (.tmp 13) 154 154 rfl S B 5 1 1 (.int .u8 0) aU jl rfl (.slice I l.length c) _ _ rfl f (.slice W x.length Z) _ _ rfl o F ?_ ?_ ?_ ?_);(focus (exact z));(focus (unfold maxLen;omega));(focus omega);intro y N q i k R T;refine Stop.of ?_)))
 refine Stop.on ?_
 have a:q.heap[b]? =_:=(k.block b E (f.ne d (by decide))).trans d
 have g1:q.cell? ⟨b,1,none⟩=some (.slice I l.length c):=by simp[World.cell?,a]
 have gf:q.frozen? ⟨b,1,none⟩=false:=by simp[World.frozen?,a]
 have gl:=(aj.1 a).1
 have H:=ah i
 clear i
 go_wp2_with fail
 go_ret2
 have n:Keep (· =b) q (q.setCell ⟨b,1,none⟩ (.slice y (l.length+x.length) N)):=(Keep.refl (· =b) _).setCell (p:=⟨b,1,none⟩) (.inr rfl) _
 have C:=H.out
 rw[A.out] at C
 refine⟨rfl,⟨G,_,_,.inr rfl,by simp[World.setCell,aK,a];rfl,?_⟩,?_⟩
 ·rw[aB]
  exact C.keep fun g m r Q=>⟨n.block g r (fun e=>C.ne a (by decide) (by rw[m,e])),Q⟩
 ·exact((j.mono (fun _ _ e=> .inl e)).trans (k.mono (fun g _ e=> .inr (f.lo g e))) (fun _ _ e=>e)).trans (n.mono (fun _ _ e=> .inl e)) (fun _ _ e=>e)
theorem Cm (B b:Nat)(l:List UInt8)(S:Nat->Prop)(w:World)(h:uh w S B b l):
  Calls Tryz.prog 67 #[.pointer (some ⟨b,0,none⟩)] w fun e i=>e= .returned (.string ⟨l.toArray⟩)/\Below (min B b) w i:=by
 have j:=h.lt
 obtain⟨m,p,v,k,f,g⟩:=h
 have c:=g.ne f (by decide)
 have a:(Lib.byteCells l)=aF l:=rfl
 have d:=g.base (B:=min B b) (Nat.min_le_left _ _)
 have hA:Lib.BuilderAt 156 5 (min B b) b p (Lib.byteCells l) w:=⟨Nat.min_le_right _ _,v,f,by rw[a,bC];exact d.1,c⟩
 refine(Any.Builder_String_any Bn sG (min B b) b l w ?_ (by omega))
 rcases k with rfl|rfl
 ·exact .inl hA
 ·exact .inr hA
end Go.Proofs.YtpmbddooibgnaaaGreatDoor
namespace Go.Proofs.YtpmbddooibgnaaaGreatDoor
open Go.RowKit Go.Shelf
structure rQ (w:World)(B b:Nat)(l:List UInt8):Prop where
 lo:B<=b
 at_:∃p v,(p= .pointer none\/p= .pointer (some ⟨b,0,none⟩))/\w.heap[b]? =some (.cells #[p,v] 156 (0,0))/\aV w eG B 5 1 v l.length (aF l)
theorem rQ.lt {w:World}{B b:Nat}{l:List UInt8}(h:rQ w B b l):b<w.heap.size:=by
 obtain⟨_,p,v,_,a,_⟩:=h
 exact(aj.1 a).1
theorem rQ.Ye {w:World}{B b:Nat}{l:List UInt8}(h:rQ w B b l):uh w eG B b l:=⟨id,h.at_⟩
theorem rQ.below {w w':World}{B b:Nat}{l:List UInt8}(h:rQ w B b l)(a:Below w.heap.size w w'):rQ w' B b l:=by
 obtain⟨e,p,v,d,c,f⟩:=h
 exact⟨e,p,v,d,(a.block b (aj.1 c).1).trans c,f.below a⟩
theorem rQ.new (w:World)(B:Nat)(hB:B<=w.heap.size):rQ (w.alloc (.cells #[.pointer none,.slice none 0 0] 156)) B w.heap.size []:=⟨hB,_,_,.inl rfl,aH w _,aV.nil _ _ _ _ _⟩
theorem DY (B b:Nat)(l:List UInt8)(w:World)(h:rQ w B b l):
  Calls Tryz.prog 67 #[.pointer (some ⟨b,0,none⟩)] w fun e d=>e= .returned (.string ⟨l.toArray⟩)/\Below B w d:=by
 have a:=h.lo
 refine(Cm B b l eG w h.Ye).mono ?_
 rintro e d ⟨f,c⟩
 rw[dx a] at c
 exact⟨f,c⟩
theorem Qz {B b n:Nat}{w1 a:World}{f:Option Addr}{c:Nat}{v:Value}{l:List UInt8}(d:B<=b)(j:a.heap[b]? =some (.cells #[.pointer (some ⟨b,0,none⟩),v] 156 (0,0)))(k:aV a eG B 5 1 (.slice f n c) n (aF l))(m:n=l.length)(i:Below B w1 a):
  rQ (a.setCell ⟨b,1,none⟩ (.slice f n c)) B b l/\Below B w1 (a.setCell ⟨b,1,none⟩ (.slice f n c)):=by
 subst m
 have s:Keep (· =b) a (a.setCell ⟨b,1,none⟩ (.slice f l.length c)):=(Keep.refl (· =b) _).setCell (p:=⟨b,1,none⟩) (.inr rfl) _
 exact⟨⟨d,_,_,.inr rfl,by simp[World.setCell,aK,j],k.keep fun g q r o=>⟨s.block g r (fun e=>k.ne j (by decide) (by rw[q,e])),o⟩⟩,i.setCell (p:=⟨b,1,none⟩) d _⟩
theorem SX (B b:Nat)(l:List UInt8)(c:Int)(w:World)(h:rQ w B b l)(hB:B<=w.heap.size)(H:l.length<=1000000)(J:0<=c/\c<=255):
  Calls Tryz.prog 248 #[.pointer (some ⟨b,0,none⟩),.int .u8 c] w fun e t=>e= .returned .nilIface/\rQ t B b (l++[UInt8.ofNat c.toNat])/\Below B w t:=by
 have C:=ah (zO B b l eG w h.Ye)
 have q:=h.lo
 clear h
 go_enter Tryz.func248,Tryz.ntmps248
 go_wp2_with (first
  |(go_at_call 121;go_must (refine C.out.mono ?_;rintro e w1 ⟨rfl,⟨v,d,i⟩,m⟩;refine Stop.of ?_)))
 refine Stop.on ?_
 obtain⟨s,r,rfl,_,_,_,_⟩:=bq.form i.dM
 have k:Below B w w1:=m.fw hB (fun g G e=>by have e:g=b:=e;omega)
 have p:=aI hB m.size
 have D:w1.cell? ⟨b,1,none⟩=some (.slice s l.length r):=by simp[World.cell?,d]
 have lt:=(aj.1 d).1
 go_wp2_with (first
  |(at_builtin;go_must ((refine dQ rfl (.tmp 11) (.tmp 13) 154 154 rfl eG B 5 1 1 (.int .u8 0) aU jl rfl (.slice s l.length r) _ _ rfl (i.below (aG _ _)) _ 1 _ rfl (iB [_] _ 1 1 1 (by simp) aU rfl ?_) (fun _ h=>h.elim) ?_ ?_ ?_ ?_);(focus (simp[Value.oneCell']));(focus (simp only[bD];omega));(focus (unfold maxLen;omega));(focus omega);intro z E x a o n A;refine Stop.of ?_)))
 refine Stop.on ?_
 have f:=(o.block b (by simp;omega) (fun e=>by
  have:=i.ne d (by decide)
  exact this e)).trans ((aG w1 _).block b lt|>.trans d)
 have I:x.cell? ⟨b,1,none⟩=some (.slice s l.length r):=by simp[World.cell?,f]
 have K:x.frozen? ⟨b,1,none⟩=false:=by simp[World.frozen?,f]
 have F:=(aj.1 f).1
 have j:aF l++[Value.int .u8 c]=aF (l++[UInt8.ofNat c.toNat]):=by
  rw[fG]
  congr 1
  simp[aF]
  omega
 rw[j] at a
 have y:=ah (Qz (w1:=w) q f a (by simp) ((k.trans ((aG w1 _).mono p)).trans n))
 clear a j
 go_wp2_with fail
 go_ret
 exact⟨rfl,y.out⟩
theorem Ck (B b:Nat)(l:List UInt8)(s:ByteArray)(w:World)(h:rQ w B b l)(hB:B<=w.heap.size)(J:l.length<=1000000)(G:s.size<=1000000):
  Calls Tryz.prog 65 #[.pointer (some ⟨b,0,none⟩),.string s] w fun e y=>e= .returned (.tuple #[.int .i64 s.size,.nilIface])/\rQ y B b (l++s.data.toList)/\Below B w y:=by
 have E:=ah (zO B b l eG w h.Ye)
 have p:=h.lo
 clear h
 go_enter Tryz.func65,Tryz.ntmps65
 go_wp2_with (first
  |(go_at_call 121;go_must (refine E.out.mono ?_;rintro e w1 ⟨rfl,⟨v,a,f⟩,k⟩;refine Stop.of ?_)))
 refine Stop.on ?_
 obtain⟨x,q,rfl,_,_,_,_⟩:=bq.form f.dM
 have j:Below B w w1:=k.fw hB (fun g I e=>by have e:g=b:=e;omega)
 have C:=aI hB k.size
 have F:w1.cell? ⟨b,1,none⟩=some (.slice x l.length q):=by simp[World.cell?,a]
 have lt:=(aj.1 a).1
 have t:s.data.toList.length=s.size:=by show s.data.toList.length=s.data.size;simp
 go_wp2_with (first
  |(at_builtin;go_must ((refine dQ rfl (.tmp 12) (.tmp 13) 154 9 rfl eG B 5 1 1 (.int .u8 0) aU jl rfl (.slice x l.length q) _ _ rfl f (.string s) _ _ rfl (Kw _ bH _) (fun _ h=>h.elim) ?_ ?_ ?_ ?_);(focus omega);(focus (unfold maxLen;omega));(focus omega);intro m A r i o n D;refine Stop.of ?_)))
 refine Stop.on ?_
 have c:=(o.block b lt (f.ne a (by decide))).trans a
 have K:r.cell? ⟨b,1,none⟩=some (.slice x l.length q):=by simp[World.cell?,c]
 have M:r.frozen? ⟨b,1,none⟩=false:=by simp[World.frozen?,c]
 have H:=(aj.1 c).1
 have d:aV r eG B 5 1 (.slice m (l.length+s.size) A) (l.length+s.size) (aF (l++s.data.toList)):=by rw[fG];exact i
 have z:=ah (Qz (w1:=w) p c d (by rw[aB,t]) (j.trans n))
 clear i d
 go_wp2_with fail
 go_ret2
 exact⟨rfl,z.out⟩
theorem KM (w:World):Calls Tryz.prog 35 #[.int .i64 201] w fun e a=>e= .returned (.string ⟨#[67,114,101,97,116,101,100]⟩)/\a=w:=by
 go_enter Tryz.func35,Tryz.ntmps35
 go_wp2
 go_ret
 exact⟨rfl,rfl⟩
def Sc (c:UInt8):Bool:=decide (65<=c.toNat) && decide (c.toNat<=90)||decide (97<=c.toNat) && decide (c.toNat<=122)
theorem U3 (s:ByteArray)(w:World)(q:s.size<=1000000)(p:s.toList.isEmpty=false)(h:s.data.toList.all Sc=true):
  Calls Tryz.prog 193 #[.string s] w fun e m=>e= .returned (.bool true)/\m=w:=by
 have n:Hid (∀k (c:k<s.size),Sc (s[k]'c)=true):=ah (fun k c=>bytes_at h c)
 have l:(s.toList==[])=false:=by cases t:s.toList<;>simp_all
 clear h
 go_enter Tryz.func193,Tryz.ntmps193
 go_wp2
 go_loopw [3,4,5,8] (fun _ _ _ i wr=>∃k:Nat,k<=s.size/\i= .int .i64 k/\wr=w) (fun _ _ _ i _=>s.size - (intOf i).toNat)
 case atStart=>exact⟨0,aR _,rfl,rfl⟩
 case round=>
  obtain⟨k,c,rfl,d⟩:=hrel
  subst d
  by_cases b:k<s.size
  ·have g:(k:Int)<(s.size:Int):=by omega
   have a:=n.out k b
   obtain⟨x,j⟩:∃x:UInt8,s[k]'b=x:=⟨_,rfl⟩
   rw[j] at a
   simp only[Sc,xH,dA,dU] at a
   rcases a with a|a
   ·have o:¬((97:Int)<=(x.toNat:Int)):=by omega
    have f:(65:Int)<=(x.toNat:Int):=by omega
    have r:(x.toNat:Int)<=90:=by omega
    clear a
    go_wp2_with fail
    go_roundw
    case rel=>exact⟨k+1,by omega,by go_num,by trivial⟩
    case measure=>simp[intOf];omega
   ·have o:(97:Int)<=(x.toNat:Int):=by omega
    have f:(x.toNat:Int)<=122:=by omega
    clear a
    go_wp2_with fail
    go_roundw
    case rel=>exact⟨k+1,by omega,by go_num,by trivial⟩
    case measure=>simp[intOf];omega
  ·obtain rfl:k=s.size:=by omega
   have f:¬(s.size:Int)<(s.size:Int):=by omega
   go_wp2_with fail
   go_ret
   exact⟨rfl,rfl⟩
structure QU (n n' v:ByteArray):Prop where
 ns:n.size<=1000
 n0:n.toList.isEmpty=false
 nt:n.data.toList.all Sc=true
 na:(n.data.toList.all fun b=>decide (b.toNat<128))=true
 lw:Lib.toLowerA n.data.toList=n'.data.toList
 o1:(n'.toList==[99,111,110,116,101,110,116,45,108,101,110,103,116,104])=false
 o2:(n'.toList==[99,111,110,110,101,99,116,105,111,110])=false
 o3:(n'.toList==[116,114,97,110,115,102,101,114,45,101,110,99,111,100,105,110,103])=false
 vs:v.size<=1000
 vt:v.data.toList.all LW=true
 tr:Lib.trimS v.data.toList [32,9]=v.data.toList
theorem RA (n F v:ByteArray)(w:World)(h:QU n F v):
  Calls Tryz.prog 120 #[.agg #[.string n,.string v]] w fun e P=>e= .returned (.bool true)/\Below w.heap.size w P:=by
 have l:=aG w (.cells #[.string n,.string v] 162)
 have a:=aH w (.cells #[.string n,.string v] 162)
 obtain⟨y,r⟩:∃x:World,Hid (w.alloc (.cells #[.string n,.string v] 162)=x):=⟨_,ah rfl⟩
 rw[r.out] at l a
 obtain⟨b,q⟩:∃x:Nat,Hid (w.heap.size=x):=⟨_,ah rfl⟩
 rw[q.out] at a
 have Q:y.cell? ⟨b,0,none⟩=some (.string n):=by simp[World.cell?,a]
 have J:y.cell? ⟨b,1,none⟩=some (.string v):=by simp[World.cell?,a]
 have D:=(aj.1 a).1
 have R:=ah (Dx n y F (by have:=h.ns;omega) h.na h.lw)
 have d:=ah (au h (au l a))
 have V:=h.o1;have X:=h.o2;have o3:=h.o3
 clear h l a
 go_enter Tryz.func120,Tryz.ntmps120
 go_upto_region 1 with (fail)
 rw[r.out,q.out]
 go_wp2_with (first
  |(go_at_call 192;go_must (refine R.out.mono ?_;rintro e t ⟨rfl,o⟩;refine Stop.of ?_)))
 refine Stop.on ?_
 have g:=(o.block b D).trans d.out.2.2
 have Z:t.cell? ⟨b,0,none⟩=some (.string n):=by simp[World.cell?,g]
 have Y:t.cell? ⟨b,1,none⟩=some (.string v):=by simp[World.cell?,g]
 have T:=(aj.1 g).1
 have p:=ah o
 clear o g Q J D
 go_wp2_with fail
 go_loopw [3,4,15] (fun _ _ i wr=>∃k:Nat,k<=v.size/\i= .int .i64 k/\wr=t) (fun _ _ i _=>v.size - (intOf i).toNat)
 case atStart=>exact⟨0,aR _,rfl,rfl⟩
 case round=>
  obtain⟨k,hk,rfl,C⟩:=hrel
  subst C
  by_cases s:k<v.size
  ·have H:(k:Int)<(v.size:Int):=by omega
   have S:=d.out.1.vs
   have m:=bytes_at d.out.1.vt s
   obtain⟨x,N⟩:∃x:UInt8,v[k]'s=x:=⟨_,rfl⟩
   rw[N] at m
   simp only[LW,dA,dU] at m
   have x1:¬((x.toNat:Int)<32):=by omega
   have M:((x.toNat:Int)==127)=false:=by simp;omega
   have x3:((x.toNat:Int) !=9)=true:=by simp;omega
   clear m
   go_wp2_with fail
   go_roundw
   case rel=>exact⟨k+1,by omega,by go_num,by trivial⟩
   case measure=>simp[intOf];omega
  ·obtain rfl:k=v.size:=by omega
   have M:¬(v.size:Int)<(v.size:Int):=by omega
   go_wp2_with fail
   have j:=(p.out.block b (aj.1 d.out.2.2).1).trans d.out.2.2
   have O:(v.toList==v.toList)=true:=by simp
   refine aP (fun W=>W.heap[b]? =some (.cells #[.string n,.string v] 162 (0,0))) (fun i=> !([2,6].contains i)) [0,1,2,3,4,5,7,8,6,9,10,11] rfl (by kernel_rfl) j ?_
   repeat ((refine bE (v:= ?_) rfl rfl (fun _ _ _ h=>h) rfl (fun W c=> ?_) ?_);rotate_left;(focus ((try dsimp only at c);have G:W.cell? ⟨b,0,none⟩=some (.string n):=(by simp[World.cell?,c]);have E:W.cell? ⟨b,1,none⟩=some (.string v):=(by simp[World.cell?,c]);have I:=(aj.1 c).1;(go_simp;first|done|with_reducible rfl)));(try simp only[Act.put,ak,ay,ax]))
   refine bT rfl rfl rfl ?_;intro K B;go_simp
   refine(U3 n _ (by have:=d.out.1.ns;omega) d.out.1.n0 d.out.1.nt).mono ?_;rintro e A ⟨rfl,hw⟩;subst A
   refine B.out _ _ j ?_
   (try simp only[Act.put,ak,ay,ax])
   repeat ((refine bE (v:= ?_) rfl rfl (fun _ _ _ h=>h) rfl (fun W c=> ?_) ?_);rotate_left;(focus ((try dsimp only at c);have G:W.cell? ⟨b,0,none⟩=some (.string n):=(by simp[World.cell?,c]);have E:W.cell? ⟨b,1,none⟩=some (.string v):=(by simp[World.cell?,c]);have I:=(aj.1 c).1;(go_simp;first|done|with_reducible rfl)));(try simp only[Act.put,ak,ay,ax]))
   refine bT rfl rfl rfl ?_;intro K B;go_simp
   refine(Gt v ⟨#[32,9]⟩ _ v (by have:=d.out.1.vs;omega) (by decide) (by decide) d.out.1.tr).mono ?_;rintro e A ⟨rfl,f⟩
   have f:Below wr.heap.size wr A:=(aJ wr.heap.size wr).drew.trans f
   have z:=(f.block b (aj.1 j).1).trans j
   refine B.out _ _ z ?_
   (try simp only[Act.put,ak,ay,ax])
   repeat ((refine bE (v:= ?_) rfl rfl (fun _ _ _ h=>h) rfl (fun W c=> ?_) ?_);rotate_left;(focus ((try dsimp only at c);have G:W.cell? ⟨b,0,none⟩=some (.string n):=(by simp[World.cell?,c]);have E:W.cell? ⟨b,1,none⟩=some (.string v):=(by simp[World.cell?,c]);have I:=(aj.1 c).1;(go_simp;first|done|with_reducible rfl)));(try simp only[Act.put,ak,ay,ax]))
   refine bN ?_
   go_wp2_with fail
   go_ret
   exact⟨rfl,d.out.2.1.trans ((p.out.trans (f.mono p.out.size)).mono d.out.2.1.size)⟩
end Go.Proofs.YtpmbddooibgnaaaGreatDoor
namespace Go.Proofs.YtpmbddooibgnaaaGreatDoor
open Go.RowKit
def kR (n:Int):List UInt8:=(List.range 8).map fun i=>UInt8.ofNat (n/(256^i:Nat)%256).toNat
def TB (s:ByteArray):List UInt8:=kR s.size++s.data.toList
theorem fQ (n:Int):(kR n).length=8:=by simp[kR]
structure jT where
 token:ByteArray
 path:List ByteArray
 deep:Bool
 excl:Bool
 owner:ByteArray
 till:Int
def TT (b:Bool):Int:=if b then 1 else 0
def jT.enc (l:jT):List UInt8:=kR l.till++(kR (TT l.deep)++(kR (TT l.excl)++(TB l.owner++(kR l.path.length++l.path.flatMap TB))))
def xL (n:Int)(i:Nat):Int:=(n%18446744073709551616)/(256^i:Nat)
theorem L8 (n:Int)(i:Nat)(a:i<8):xL n i=xL n (i+1)*256+n/(256^i:Nat)%256:=by
 unfold xL
 have h:i=0\/i=1\/i=2\/i=3\/i=4\/i=5\/i=6\/i=7:=by omega
 rcases h with rfl|rfl|rfl|rfl|rfl|rfl|rfl|rfl<;>simp only[Nat.reducePow,Nat.reduceAdd]<;>omega
theorem OC (n:Int):xL n 8=0:=by unfold xL;simp only[Nat.reducePow];omega
theorem Rn (n:Int)(i:Nat)(h:i<=8)(a:1<=i):0<=xL n i/\xL n i<72057594037927936:=by
 unfold xL
 have h:i=1\/i=2\/i=3\/i=4\/i=5\/i=6\/i=7\/i=8:=by omega
 rcases h with rfl|rfl|rfl|rfl|rfl|rfl|rfl|rfl<;>simp only[Nat.reducePow]<;>omega
theorem L6 (n:Int)(h: -9223372036854775808<=n/\n<9223372036854775808):IntKind.i64.wrap (xL n 0)=n:=by
 unfold xL
 rw[bX]
 simp only[Nat.reducePow]
 omega
theorem Vb (c b:Int)(d:0<=c/\c<72057594037927936)(f:0<=b/\b<256):bits .or .i64 (IntKind.i64.wrap (c*256)) b=IntKind.i64.wrap (c*256+b):=by
 obtain⟨c,rfl⟩:=Eb d.1
 obtain⟨b,rfl⟩:=Eb f.1
 have a:BitVec.ofInt 64 (IntKind.i64.wrap (((c:Nat):Int)*256))=BitVec.ofNat 64 (c*256):=by
  apply BitVec.eq_of_toNat_eq
  rw[BitVec.toNat_ofInt,jg,bX]
  omega
 have e:(BitVec.ofInt 64 (IntKind.i64.wrap (((c:Nat):Int)*256))|||BitVec.ofInt 64 ((b:Nat):Int)).toNat=c*256+b:=by
  rw[a,kL,IG,jg,jg,jY (by omega),jY (by omega)]
  have:=pu (i:=8) (b:=b) (by omega) c
  rw[show c*256=2^8*c by omega,<-this]
 unfold bits
 show IntKind.i64.wrap (((BitVec.ofInt 64 (IntKind.i64.wrap (((c:Nat):Int)*256))|||BitVec.ofInt 64 ((b:Nat):Int)).toNat:Nat):Int)=_
 rw[e]
 rfl
def within (a b:List ByteArray):Bool:=decide (b<+:a)
def jT.covers (l:jT)(p:List ByteArray):Bool:=within p l.path && (l.deep||decide (p.length=l.path.length))
def jT.clash (a b:jT):Bool:=(a.excl||b.excl) && (a.covers b.path||b.covers a.path)
end Go.Proofs.YtpmbddooibgnaaaGreatDoor
