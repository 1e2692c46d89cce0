--
import Derived.Test.YtogbkgmlhhahdaaGreatT20
import Derived.Deep.CutRange
import Derived.Deep.CutBlock
set_option maxRecDepth 100000
set_option maxHeartbeats 0
set_option linter.all false
namespace Go.Proofs.YtogbkgmlhhahdaaGreat
open Go.RowKit
variable{k l:ByteArray}{M R:List (ByteArray×Int)}{b c d e:List Int}{h m:Nat}{S:Nat->Prop}{W w:World}{a:cK}
def nh (σ:cK)(bs:List Int):Nat:=(bs.filter fun b=> !σ.held b).length
def pY (c:cK)(a b:List Int):nh c (a++b)=nh c a+nh c b:=by simp[nh]
def sQ (b:cK)(a:List Int):nh b a<=a.length:=xw _ _
def M7 {c:cK}{a:List Int}(h:a.Perm b):nh c a=nh c b:=(h.filter _).length_eq
def Cj {b:cK}(h:a.H=b.H)(x:Int):a.held x=b.held x:=by unfold cK.held;rw[h]
def vC {c b:cK}(h:b.H=c.H)(a:List Int):nh b a=nh c a:=by
 unfold nh;congr 2;funext x;rw[Cj h]
def SE (_:cK):Prop:=True
structure mW (σ σ':cK)(us bs:List Int):Prop where
 H:σ'.H=σ.H
 most:σ'.most=σ.most
 frame:∀x,σ.hasB x=true->(x∉us\/False)->σ'.hasB x=true/\σ'.mem x=σ.mem x
 new:∀x∈bs,σ'.hasB x=true/\(x∈us\/σ.hasB x=false)
 nd:us.Nodup->bs.Nodup
 size:σ'.sz+nh σ us=σ.sz+nh σ bs
 ex:∀x,σ'.hasB x=true->x∈bs\/(σ.hasB x=true/\x∉us)
def mW.refl {c:cK}{a:List Int}(h:∀x∈a,c.hasB x=true):mW c c a a:=
 ⟨rfl,rfl,fun _ h _=>⟨h,rfl⟩,fun x b=>⟨h x b,.inl b⟩,id,rfl,fun x b=>by
  by_cases d:x∈a
  ·exact .inl d
  ·exact .inr ⟨b,d⟩⟩
def mW.trans {m g i:cK}{o l n:List Int}(h:mW m g o l)(k:mW g i l n):mW m i o n:=by
 refine⟨k.H.trans h.H,k.most.trans h.most,fun x f e=> ?_,fun x f=> ?_,fun e=>k.nd (h.nd e),?_,fun x f=> ?_⟩
 ·obtain⟨a,b⟩:=h.frame x f e
  have j:x∉l\/False:=by
   rcases e with e|e
   ·refine .inl fun j=> ?_
    rcases (h.new x j).2 with y|y
    ·exact e y
    ·rw[f] at y;cases y
   ·exact e.elim
  obtain⟨c,d⟩:=k.frame x a j;exact⟨c,d.trans b⟩
 ·obtain⟨a,b⟩:=k.new x f
  refine⟨a,?_⟩;rcases b with b|b
  ·exact(h.new x b).2
  ·cases p:m.hasB x with
   |false=>exact .inr rfl
   |true=>
    refine .inl (gm fun e=> ?_);have:=(h.frame x p (.inl e)).1;rw[b] at this;cases this
 ·have a:=h.size
  have b:=k.size;rw[vC h.H,vC h.H] at b;omega
 ·rcases k.ex x f with y|⟨y,z⟩
  ·exact .inl y
  ·exact .inr ((h.ex x y).resolve_left z)
def mW.perm {j c:cK}{g i bs':List Int}(h:mW j c g i)(a:g.Perm b)(e:i.Perm bs'):mW j c b bs':=
 ⟨h.H,h.most,fun x d f=>h.frame x d (f.imp (fun y z=>y (a.mem_iff.1 z)) id),fun x d=>(h.new x (e.mem_iff.2 d)).imp id (fun y=>y.imp a.mem_iff.1 id),fun f=>(e.nodup_iff).1 (h.nd (a.nodup_iff.2 f)),by rw[<-M7 a,<-M7 e];exact h.size,fun x d=>(h.ex x d).imp e.mem_iff.1 (fun y=>⟨y.1,fun z=>y.2 (a.mem_iff.2 z)⟩)⟩
def mW.left {f d:cK}{us bs rs:List Int}(h:mW f d us bs)(j:(us++rs).Nodup)(c:∀x∈rs,f.hasB x=true):mW f d (us++rs) (bs++rs):=by
 obtain⟨m,n,i⟩:=eD.1 j;have b:∀x∈rs,x∉us:=fun x a l=>i x l x a rfl
 refine⟨h.H,h.most,fun x a k=>h.frame x a (k.imp (fun y z=>y (dh _ z)) id),fun x a=> ?_,fun _=> ?_,?_,fun x a=> ?_⟩
 ·rcases bU.1 a with a|a
  ·exact(h.new x a).imp id (fun y=>y.imp (dh _) id)
  ·exact⟨(h.frame x (c x a) (.inl (b x a))).1,.inl (bY _ a)⟩
 ·refine eD.2 ⟨h.nd m,n,fun x a y g e=> ?_⟩
  subst e;rcases (h.new x a).2 with z|z
  ·exact b x g z
  ·rw[c x g] at z;cases z
 ·have:=h.size
  rw[pY,pY];omega
 ·rcases h.ex x a with y|⟨y,z⟩
  ·exact .inl (dh _ y)
  ·by_cases c:x∈rs
   ·exact .inl (bY _ c)
   ·exact .inr ⟨y,fun e=>(bU.1 e).elim z c⟩
def mW.mid {d b:cK}{a ls rs:List Int}(h:mW d b a e)(i:(ls++a++rs).Nodup)(f:∀x∈ls,d.hasB x=true)(g:∀x∈rs,d.hasB x=true):mW d b (ls++a++rs) (ls++e++rs):=by
 have p:∀l:List Int,(l++(ls++rs)).Perm (ls++l++rs):=fun l=>by
  rw[<-aM];exact H7 _ fI
 refine(h.left (rs:=ls++rs) ((p a).nodup_iff.2 i) fun x c=> ?_).perm (p a) (p e);rcases bU.1 c with c|c
 ·exact f x c
 ·exact g x c
def mW.O7 {b:cK}(_:mW b a c d)(_:SE b):SE a:=trivial
def O8 {d f:cK}{b:Int}{g:Nd}(h:Wrote d b g f)(_:SE d):mW d f [] [b]:=by
 have c:∀x,d.hasB x=true->x≠b:=fun x a e=>by subst e;have:=h.new;rw[a] at this;cases this
 refine⟨h.held,h.most,fun x a _=>⟨(h.other x (c x a)).1.trans a,(h.other x (c x a)).2⟩,fun x a=> ?_,fun _=>by simp,?_,fun x a=> ?_⟩
 ·obtain rfl:x=b:=by simpa using a
  exact⟨h.blk.has,.inr h.new⟩
 ·rw[h.size]
  have:d.held b=false:=h.nheld;simp[nh,this]
 ·by_cases e:x=b
  ·exact .inl (by rw[e];exact bf ..)
  ·exact .inr ⟨by rw[<-(h.other x e).1];exact a,by simp⟩
def Inv.O7 {b:VS}(_:Inv a S b w):SE a:=trivial
def cK.AU {b x:Int}(e:0<=b)(c:x≠b):(a.gone b).hasB x=a.hasB x:=by
 show (decide (0<=x) && (decide (x.toNat<a.most) && iB a.now b.toNat false x.toNat))=_;unfold cK.hasB
 by_cases d:0<=x
 ·unfold iB;rw[if_neg (by omega)]
 ·simp[d]
def xW {b:Int}(l:a.hasB b=true):mW a (a.gone b) [b] []:=by
 obtain⟨n,rfl,m,d⟩:=cK.kT l;refine⟨rfl,rfl,fun x c j=>⟨?_,rfl⟩,(fun x c=>by cases c),(fun _=>qR),?_,fun x c=> .inr ?_⟩
 ·rw[cK.AU (by omega) (fun e=>(j.resolve_right id) (by simpa using e))]
  exact c
 ·show countB (fun x=>iB a.now (n:Int).toNat false x||a.H.old x) a.most+_=countB (fun x=>a.now x||a.H.old x) a.most+_
  rw[fE];have k:a.held (n:Int)=a.H.old n:=by unfold cK.held;rw[fE];simp
  simp only[nh,FQ,k,List.filter_nil,bV,iG];cases i:a.H.old n with
  |true=>
   simp only[Bool.not_true,SH,if_false,bV,iG];refine jW _ (fun x _=> ?_);unfold iB
   split
   ·rename_i e;subst e;rw[i,d];rfl
   ·rfl
  |false=>
   simp only[Bool.not_false,iX,dN];rw[<-DZ (f:=fun x=>a.now x||a.H.old x) (b:=n) (by rw[d];rfl) _ m];congr 1;refine jW _ (fun x _=> ?_);unfold iB
   split
   ·rename_i e;subst e;rw[i];rfl
   ·rfl
 ·have g:x≠(n:Int):=fun e=>by
   rw[e] at c;have:(decide ((0:Int)<=(n:Int)) && (decide ((n:Int).toNat<a.most) && iB a.now (n:Int).toNat false (n:Int).toNat))=true:=c;simp[iB] at this
  rw[cK.AU (by omega) g] at c;exact⟨c,by simpa using g⟩
def D8 {d:VS}(_:Inv a S d w){b:Int}(c:a.hasB b=true):mW a (a.gone b) [b] []:=xW c
def O9 {b:cK}{m:VS}(_:Inv b S m w){c a:Int}(l:b.hasB c=true)(g:b.hasB a=true)(d:c≠a):mW b ((b.gone c).gone a) [c,a] []/\(b.gone c).hasB a=true:=by
 have j:=xW l;have i:=(j.frame a g (.inl (by simpa using fun e=>d e.symm))).1;have k:=xW i;have f:=j.left (rs:=[a]) (by simpa using d) (fun x n=>by rw[bQ.1 n];exact g);exact⟨f.trans k,i⟩
def Cm.move {d:cK}{b:Int}{c:Nd}(h:Cm d b c)(f:a.hasB b=true)(e:a.mem b=d.mem b):Cm a b c:=
 ⟨f,h.lo,h.hi,by rw[e];exact h.mem,h.fits⟩
def dW.change {T m:ByteArray->Option ByteArray->Int->List Pr->List Int->Prop}{j:Option ByteArray}:∀{l:List (ByteArray×Int)} {i:List Pr} {a:List Int},dW T j l i a->(∀k z b c x,(∀y∈x,y∈a)->T k z b c x->m k z b c x)->dW m j l i a
 |[],_,_,h,_=>h
 |(k,b)::l,_,_,h,g=>by
  obtain⟨c,e,x,f,o,n,rfl,rfl⟩:=h
  exact⟨c,e,x,f,g _ _ _ _ _ (fun y d=>dh _ d) o,dW.change n (fun k z b c x p=>g k z b c x (fun y d=>bY _ (p y d))),rfl,rfl⟩
def jA.move {t a:cK}:∀{h m:Nat} {v:ByteArray} {s:Option ByteArray} {b:Int} {q:List Pr} {f:List Int},jA t h m v s b q f->(∀x∈f,a.hasB x=true/\a.mem x=t.mem x)->jA a h m v s b q f
 |0,_,_,_,_,_,_,⟨g,j,e,n,i,l,o,C,r⟩,d=>by
  have:=d _ (by rw[r];exact bQ.2 rfl)
  exact⟨g,j.move this.1 this.2,e,n,i,l,o,C,r⟩
 |h+1,_,_,_,_,_,_,⟨g,p,j,e,n,i,l,o⟩,d=>by
  subst l
  have:=d _ (bf ..)
  exact⟨g,p,j.move this.1 this.2,e,n,i,rfl,o.change fun k z b c x B A=>jA.move A fun y D=>d y (aX _ (B y D))⟩
def dW.has {T:ByteArray->Option ByteArray->Int->List Pr->List Int->Prop}{p:Int->Prop}(f:∀k z b c x,T k z b c x->∀y∈x,p y){n:Option ByteArray}:∀{l:List (ByteArray×Int)} {i:List Pr} {d:List Int},dW T n l i d->∀y∈d,p y
 |[],_,_,⟨_,e⟩=>by subst e;simp
 |(k,b)::l,_,_,h=>by
  obtain⟨c,m,x,o,j,g,rfl,rfl⟩:=h
  intro y a
  rcases bU.1 a with a|a
  ·exact f _ _ _ _ _ j y a
  ·exact dW.has f g y a
def jA.has {e:cK}:∀{h m:Nat} {o:ByteArray} {p:Option ByteArray} {b:Int} {k:List Pr} {d:List Int},jA e h m o p b k d->∀x∈d,e.hasB x=true
 |0,_,_,_,_,_,_,⟨f,c,_,_,_,_,_,_,i⟩=>by
  intro x a
  rw[i] at a
  rw[bQ.1 a]
  exact c.has
 |h+1,_,_,_,_,_,_,⟨f,j,c,_,_,_,l,g⟩=>by
  subst l
  intro x a
  rcases bO.1 a with rfl|a
  ·exact c.has
  ·exact dW.has (fun _ _ _ _ _ n=>jA.has n) g x a
def dW.count {T:ByteArray->Option ByteArray->Int->List Pr->List Int->Prop}(f:∀k z b c x,T k z b c x->x.length+1<=2*c.length){o:Option ByteArray}:∀{l:List (ByteArray×Int)} {g:List Pr} {d:List Int},dW T o l g d->d.length+l.length<=2*g.length
 |[],_,_,⟨e,m⟩=>by subst e m;simp
 |(k,b)::l,_,_,h=>by
  obtain⟨c,n,x,p,j,i,rfl,rfl⟩:=h
  have a:=f _ _ _ _ _ j
  have b:=dW.count f i
  simp only[ay,bn];omega
def Nd.nH (a:Nd)(b:a.Ok)(d:a.kids≠[])(c:ByteArray):(a.row c).length=a.kids.length:=by
 have:=b.kk;have:=dD.2 d;unfold Nd.row;simp;omega
def jA.count {p:cK}:∀{h m:Nat} {n:ByteArray} {o:Option ByteArray} {b:Int} {c:List Pr} {d:List Int},jA p h m n o b c d->2<=m->d.length+1<=2*c.length
 |0,_,_,_,_,_,_,⟨_,_,_,_,_,a,_,_,g⟩,_=>by
  subst g
  have:=dD.2 a
  simp;omega
 |h+1,_,_,_,_,_,_,⟨e,i,_,j,l,r,a,f⟩,q=>by
  subst a
  have:=dW.count (fun _ _ _ _ _ k=>jA.count k (aD 2)) f
  rw[e.nH j l] at this
  simp;omega
def jA.Vj {p:cK}:∀{h m:Nat} {n:ByteArray} {o:Option ByteArray} {b:Int} {c:List Pr} {e:List Int},jA p h m n o b c e->e.length<=2*c.length
 |0,_,_,_,_,_,_,⟨_,_,_,_,_,a,_,_,i⟩=>by
  subst i
  have:=dD.2 a
  simp;omega
 |h+1,_,_,_,_,_,_,⟨f,j,_,k,d,q,a,g⟩=>by
  subst a
  have:=dW.count (fun _ _ _ _ _ l=>jA.count l (aD 2)) g
  rw[f.nH k d] at this
  have:=dD.2 d
  simp;omega
def lY (lo:ByteArray):List Pc->List (ByteArray×Int)
 |[]=>[]
 |p::r=>(lo,p.1)::r.map fun q=>(q.2,q.1)
def zH (b:ByteArray)(a:List Pc):(lY b a).length=a.length:=by cases a<;>simp[lY]
def zI (c:ByteArray)(a:List Pc)(q:Pc)(b:List Pc)(d:a≠[]):lY c (a++q::b)=lY c a++lY q.2 (q::b):=by
 cases a with
 |nil=>exact absurd rfl d
 |cons p r=>simp[lY]
def xX.head {a:Nd}{v:List (ByteArray×Nd)}(h:xX a l v)(o:a.Ok)(g:a.kids≠[]\/a.pairs≠[]):∃z r,v=z::r/\z.1=leastOf a l:=by
 induction h with
 |none x t=>rcases g with h|h;exact absurd x h;exact absurd t h
 |@one a l x t=>exact⟨_,_,rfl,rfl⟩
 |@leaf a l i q A B c y f _ _ _ b s=>
  have n:a.pairs.take i≠[]:=fun e=>by have:=congrArg List.length e;simp only[aH,bV] at this;omega
  obtain⟨z,r,rfl,m⟩:=b (o.left i c) (.inr n);refine⟨z,r++B,rfl,m.trans ?_⟩;unfold leastOf;rw[c];cases j:a.pairs with
  |nil=>rw[j] at q;simp at q
  |cons p D=>
   obtain⟨i,rfl⟩:∃d,i=d+1:=⟨i - 1,by omega⟩
   rfl
 |@inner a l i q A B c y f _ _ b s=>
  have E:=(o.big y).2 c;have n:a.kids.take i≠[]:=fun e=>by have:=congrArg List.length e;simp only[aH,bV] at this;omega
  obtain⟨z,r,rfl,m⟩:=b (o.Fv i (by omega)) (.inl n);refine⟨z,r++B,rfl,m.trans ?_⟩;unfold leastOf;cases j:a.kids with
  |nil=>exact absurd j c
  |cons k C=>
   obtain⟨i,rfl⟩:∃d,i=d+1:=⟨i - 1,by omega⟩
   rfl
def Puts.split:∀{A:List (ByteArray×Nd)} {f d:cK} {e:List Pc} {B:List (ByteArray×Nd)},Puts f e (A++B) d->∃b c a,e=b++c/\Puts f b A a/\Puts a c B d
 |[],f,d,e,B,h=>⟨[],e,f,rfl,rfl,h⟩
 |z::A,f,d,e,B,h=>by
  cases e with
  |nil=>exact absurd h id
  |cons p e=>
   obtain⟨l,k,j,m⟩:=h
   obtain⟨b,c,a,rfl,i,g⟩:=Puts.split m
   exact⟨p::b,c,a,rfl,⟨l,k,j,i⟩,g⟩
def Puts.D9:∀{e:List (ByteArray×Nd)} {c b:cK} {a:List Pc},Puts c a e b->SE c->mW c b [] (a.map (·.1))
 |[],c,b,a,h,_=>by
  cases a with
  |nil=>cases h;exact mW.refl (by simp)
  |cons p a=>exact absurd h id
 |z::e,c,b,a,h,f=>by
  cases a with
  |nil=>exact absurd h id
  |cons p a=>
   obtain⟨m,l,d,j⟩:=h
   have g:=O8 d f
   have i:=(Puts.D9 j (g.O7 f)).left (rs:=[p.1]) (by simp) (fun x k=>by rw[bQ.1 k];exact d.blk.has)
   exact g.trans (i.perm (jH _) (fI (l₁:=a.map (·.1)) (l₂:=[p.1])))
def jA.keep {k:cK}(o:mW k a e c){i:ByteArray}{j:Option ByteArray}{b:Int}{f:List Pr}(g:jA k h m i j b f d)(n:∀x∈d,x∉e):jA a h m i j b f d:=
 g.move fun x l=>o.frame x (g.has x l) (.inl (n x l))
def dW.keep {i:cK}(n:mW i a e b){g:Option ByteArray}{l:List (ByteArray×Int)}{f:List Pr}(c:dW (jA i h m) g l f d)(j:∀x∈d,x∉e):dW (jA a h m) g l f d:=
 c.change fun _ _ _ _ _ o c=>c.keep n fun y k=>j y (o y k)
def xO {e c:cK}{a:List Pc}{z:ByteArray×Nd}{r:List (ByteArray×Nd)}(h:Puts e a (z::r) c):∃q b,a=q::b/\q.2=z.1:=by
 cases a with
 |nil=>exact absurd h id
 |cons q b=>obtain⟨_,d,_⟩:=h;exact⟨q,b,rfl,d⟩
def xX.TG {a:Nd}{T:List (ByteArray×Nd)}(h:xX a l T):∀{r b:cK} {d:List Pc} {lo:ByteArray} {hi:Option ByteArray},a.Ok->a.kids=[]->fG a.pairs->(∀p∈a.pairs,Within lo hi p.1)->Puts r d T b->SE r->∀m,dW (jA b 0 m) hi (lY lo d) a.pairs (d.map (·.1)):=by
 induction h with
 |@none a l W S=>
  intro r b d lo hi o f n D c k m;cases d with
  |nil=>rw[S];exact⟨rfl,rfl⟩
  |cons p d=>exact absurd c id
 |@one a l W S=>
  intro r b d lo hi o f n D c k m;cases d with
  |nil=>exact absurd c id
  |cons p d=>
   cases d with
   |cons _ _=>obtain⟨_,_,_,x⟩:=c;exact absurd x id
   |nil=>
    obtain⟨τ,h3,h4,rfl⟩:=c;exact⟨a.pairs,[],[p.1],[],⟨a,h4.blk,o,f,rfl,W.resolve_left (fun x=>x f),n,D,rfl⟩,⟨rfl,rfl⟩,by simp,rfl⟩
 |@leaf a l i hi A B f hs H _ X Y z E=>
  intro r b d lo v o _ n D c k m;obtain⟨qb,p9,pM,rfl,G,J⟩:=c.split;have F:=o.left i f;have t:=o.right i f;have P:a.pairs.take i≠[]:=fun e=>by have:=congrArg List.length e;simp only[aH,bV] at this;omega
  have K:a.pairs.drop i≠[]:=fun e=>by have:=congrArg List.length e;simp only[aO,bV] at this;omega
  obtain⟨za,ra,rfl,_⟩:=X.head F (.inr P);obtain⟨zb,rb,rfl,Q⟩:=Y.head t (.inr K);obtain⟨V,C,rfl,_⟩:=xO G;obtain⟨q,qs,rfl,Z⟩:=xO J;have g:q.2=a.pairs[i].1:=by
   rw[Z,Q];show leastOf _ _=_;unfold leastOf;rw[cu hi];rfl
  have R:∀j (s:j<a.pairs.length),j<i->lt a.pairs[j].1 a.pairs[i].1=true:=fun j s M=>gX.1 n j i s hi M
  have c2:=J.D9 ((G.D9 k).O7 k);have N:=z (lo:=lo) (hi:=some a.pairs[i].1) F rfl (n.sublist (List.take_sublist _ _)) (fun p c=>by
   obtain⟨j,s,rfl⟩:=fF c
   simp only[aH] at s
   refine⟨?_,fun y hy=> ?_⟩
   ·have:=(D _ (eT c)).1
    exact this
   ·cases hy
    rw[lT]
    exact R j (by omega) (by omega)) G k m
  have I:=E (lo:=a.pairs[i].1) (hi:=v) t rfl (n.sublist (UD _ _)) (fun p c=>by
   obtain⟨j,s,e⟩:=fF c
   refine⟨?_,(D p (cZ c)).2⟩
   rw[qE] at e
   rw[<-e]
   cases j with
   |zero=>exact lt_irrefl _
   |succ j=>
    exact lt_asymm (gX.1 n i (i+(j+1)) hi (by simp only[aO] at s;omega) (by omega))) J ((G.D9 k).O7 k) m
  rw[zI _ _ _ _ (by simp),g,bT];have O:dW (jA b 0 m) (jZ (lY a.pairs[i].1 (q::qs)) v) (lY lo (V::C)) (a.pairs.take i) ((V::C).map (·.1)):=N.keep c2 (by simp);have:=dW.append I O;rw[show Nd.pairs ⟨a.pairs.drop i,[],[]⟩=a.pairs.drop i from rfl,bJ] at this;exact this
 |@inner a l i hi A B f hs H X Y z E=>
  intro r b d lo hi o g;exact absurd g f
def QA (a:Nd)(b:ByteArray)(i:Nat)(c:1<=i):Nd.row ⟨[],a.keys.take (i - 1),a.kids.take i⟩ b=(a.row b).take i:=by
 obtain⟨i,rfl⟩:∃d,i=d+1:=⟨i - 1,by omega⟩
 unfold Nd.row;rw[Am,Am,List.take_zipWith];rfl
def QB (a:Nd)(c:ByteArray)(i:Nat)(b:i - 1<a.keys.length)(e:1<=i):Nd.row ⟨[],a.keys.drop i,a.kids.drop i⟩ a.keys[i - 1]=(a.row c).drop i:=by
 obtain⟨i,rfl⟩:∃d,i=d+1:=⟨i - 1,by omega⟩
 unfold Nd.row;rw[Am,Am,List.drop_zipWith,gy];simp only[BN] at b ⊢;rw[cu b]
def xX.Ro {b:Nd}{zs:List (ByteArray×Nd)}(h:xX b l zs):∀{v c:cK} {f:List Pc} {d:ByteArray} {k:Option ByteArray} {h m:Nat} {t:List Pr} {g:List Int},b.Ok->b.kids≠[]->dW (jA v h 2) k (b.row d) t g->Puts v f zs c->SE v->m<=2->m<=b.kids.length->
  ∃E,dW (jA c (h+1) m) k (lY d f) t E/\E.Perm (f.map (·.1)++g):=by
 induction h with
 |@none b l h1 h2=>intro v c f d k h m t g n s;exact absurd h1 s
 |@one b l h1 h2=>
  intro v c f d k h m t g n s O C y X G;have W:=C.D9 y;cases f with
  |nil=>exact absurd C id
  |cons p f=>
   cases f with
   |cons _ _=>obtain⟨_,_,_,x⟩:=C;exact absurd x id
   |nil=>
    obtain⟨τ,h3,h4,rfl⟩:=C;exact⟨p.1::g,⟨t,[],p.1::g,[],⟨b,g,h4.blk,n,s,G,rfl,O.keep W (by simp)⟩,⟨rfl,rfl⟩,by simp,by simp⟩,jH _⟩
 |@leaf b l i k A B s hs T _ sa sb I D=>intro v c f d k h m t g n o;exact absurd s o
 |@inner b l i k A B s hs T sa sb I D=>
  intro v c f d ql h m t g n _ O C y X G;have h5:=(n.big hs).2 s;obtain⟨p9,qc,qb,rfl,Z,Y⟩:=C.split;have J:=n.Fv i (by omega);have F:=n.AJ i;have H:b.kids.take i≠[]:=fun e=>by have:=congrArg List.length e;simp only[aH,bV] at this;omega
  have j:b.kids.drop i≠[]:=fun e=>by have:=congrArg List.length e;simp only[aO,bV] at this;omega
  obtain⟨za,ra,rfl,_⟩:=sa.head J (.inl H);obtain⟨zb,rb,rfl,S⟩:=sb.head F (.inl j);obtain⟨q1,M,rfl,_⟩:=xO Z;obtain⟨q,qs,rfl,K⟩:=xO Y;have o:q.2=b.keys[i - 1]:=by
   rw[K,S];show leastOf _ _=_;have:leastOf ⟨[],b.keys.drop i,b.kids.drop i⟩ b.keys[i - 1]=b.keys[i - 1]:=by
    unfold leastOf;cases K:b.kids.drop i with
    |nil=>exact absurd K j
    |cons a r=>rfl
   rw[this,this]
  have V:=Z.D9 y;have c2:=Y.D9 (V.O7 y);have er:b.row d=(b.row d).take i++(b.row d).drop i:=(bJ _ _).symm;rw[er] at O;obtain⟨cl,cm,bl,R,N,r2,rfl,rfl⟩:=O.split;rw[<-QB b d i k (by omega)] at N r2;rw[<-QA b d i (by omega)] at N;have pM:∀z,jZ (Nd.row ⟨[],b.keys.drop i,b.kids.drop i⟩ b.keys[i - 1]) z=some b.keys[i - 1]:=by
   intro z;unfold Nd.row;cases K:b.kids.drop i with
   |nil=>exact absurd K j
   |cons a r=>rfl
  rw[pM] at N;obtain⟨Q,x1,y1⟩:=I (m:=m) J H N Z y X (by simp only[aH];omega);obtain⟨P,x2,y2⟩:=D (m:=m) F j (r2.keep V (by simp)) Y (V.O7 y) X (by simp only[aO];omega);rw[zI _ _ _ _ (by simp),o,bT];refine⟨Q++P,dW.append x2 (l:=lY d (q1::M)) (x1.keep c2 (by simp)),?_⟩;refine(y1.append y2).trans ?_;generalize (q1::M).map (·.1)=A at*;generalize (q::qs).map (·.1)=B at*;have:(A++bl++(B++R)).Perm (A++B++(bl++R)):=by
   rw[aM,aM];refine qj A ?_;rw[<-aM,<-aM];exact H7 R fI
  exact this
def qO (σ:cK)(h:Nat)(lo:ByteArray)(hi:Option ByteArray)(nd:Nd)(cs:List Pr)(bs:List Int):Prop:=
 match h with
 |0=>nd.kids=[]/\nd.pairs=cs/\fG cs/\(∀p∈cs,Within lo hi p.1)/\bs=[]
 |h+1=>nd.kids≠[]/\dW (jA σ h 2) hi (nd.row lo) cs bs
def Kids (h m:Nat)(nd:Nd):Prop:=h=0\/m<=nd.kids.length
def uI {o:cK}{s:ByteArray}{r:Option ByteArray}{b:Int}{k:List Pr}{q:List Int}:jA o h m s r b k q↔∃c a,Cm o b c/\c.Ok/\qO o h s r c k a/\Kids h m c/\k≠[]/\q=b::a:=by
 cases h with
 |zero=>
  constructor
  ·rintro⟨c,f,d,i,e,g,j,l,n⟩
   exact⟨c,[],f,d,⟨i,e.symm,j,l,rfl⟩,.inl rfl,g,n⟩
  ·rintro⟨c,a,f,d,⟨i,e,g,j,rfl⟩,_,l,n⟩
   exact⟨c,f,d,i,e.symm,l,g,j,n⟩
 |succ h=>
  constructor
  ·intro p
   have t:=p.content.ne;obtain⟨c,a,f,d,i,e,g,j⟩:=p;exact⟨c,a,f,d,⟨i,j⟩,.inr e,t,g⟩
  ·rintro⟨c,a,f,d,⟨i,j⟩,e,_,g⟩
   exact⟨c,a,f,d,i,e.resolve_left (by omega),g,j⟩
def yM {f:Nd}{k:List (ByteArray×Nd)}(r:xX f l k){e b:cK}{n:List Pc}{t:ByteArray}{s:Option ByteArray}{o:List Pr}(p:f.Ok)(q:qO e h t s f o d)(j:Puts e n k b)(i:SE e)(E:m<=2)(A:Kids h m f)(D:d.Nodup)(z:∀x∈d,e.hasB x=true):
  ∃a,dW (jA b h m) s (lY t n) o a/\mW e b d a:=by
 have c:=j.D9 i;cases h with
 |zero=>
  obtain⟨g,rfl,C,B,rfl⟩:=q;exact⟨_,r.TG p g C B j i m,c⟩
 |succ h=>
  obtain⟨g,v⟩:=q;obtain⟨a,x,y⟩:=r.Ro p g v j i E (A.resolve_left (by omega));exact⟨a,x,(c.left (rs:=d) (by simpa using D) z).perm (by simp) y.symm⟩
def mM (nd:Nd)(lo:ByteArray)(R:List (ByteArray×Int)):Prop:=lo::nd.keys=R.map (·.1)/\nd.kids=R.map (·.2)
def mM.row {b:Nd}{a:ByteArray}(h:mM b a R):b.row a=R:=by
 unfold Nd.row;rw[h.1,h.2,List.zip_map'];simp
def rowOf {a:Nd}(g:a.Ok)(d:a.kids≠[])(c:ByteArray):mM a c (a.row c):=by
 obtain⟨b,l,e,i,f⟩:=qm g.kk d c;unfold Nd.row;rw[e];exact⟨by simp[i],by simp[f]⟩
def mM.len {a:Nd}{d:ByteArray}(h:mM a d R):a.kids.length=R.length/\a.keys.length+1=R.length:=by
 have c:=congrArg List.length h.1;have b:=congrArg List.length h.2;simp at c b;omega
def mM.ne {a:Nd}{b:ByteArray}(h:mM a b R):R≠[]:=fun e=>by
 have:=h.len;subst e;simp at this
def MW (lo:ByteArray):List (ByteArray×Int)->List (ByteArray×Int)
 |[]=>[]
 |(_,b)::r=>(lo,b)::r
def Fb (k:ByteArray)(a:List Pc):(lY k a).map (·.1)=mI k a:=by cases a<;>simp[lY,mI]
def Fa (k:ByteArray)(a:List Pc):(lY k a).map (·.2)=a.map (·.1):=by cases a<;>simp[lY]
def yN {c:Nd}{e:ByteArray}{b:Int}{L:List (ByteArray×Int)}{ps:List Pc}(h:mM c e (L++(k,b)::M))(d:L≠[]\/ps≠[]):mM (c.rG L.length ps) e (L++lY k ps++M):=by
 obtain⟨a,f⟩:=h;constructor
 ·cases L with
  |nil=>
   simp only[jI,dK,nW] at a;obtain⟨rfl,a⟩:=a;cases ps with
   |nil=>simp at d
   |cons p r=>
    simp only[Nd.rG,iw,a,bV,iM,jI,mI,kZ,gy,dQ,lY,dK,bT,Au,nW,true_and];rfl
  |cons l L=>
   simp only[kZ,dK,nW,bT] at a;obtain⟨rfl,a⟩:=a;have g:(iw c).getD (L.length+1) ⟨#[]⟩=k:=by
    simp[iw,a,eu]
   simp only[Nd.rG,bn,g];simp only[iw,a,jq,kZ,gy,dQ,dK,bT,Fb];congr 1;rw[bI (by simp),aJ (by simp),mU];simp
 ·simp only[Nd.rG,f,bT,dK,Fa]
  rw[bI (by simp),aJ (by simp)];congr 1;rw[mU];simp
def IJ {d:Nd}{c:ByteArray}{b:Int}(h:mM d c ((k,b)::M))(f:M≠[]):mM (d.rG 0 []) c (MW c M):=by
 obtain⟨a,e⟩:=h;simp only[dK,nW] at a;obtain⟨rfl,a⟩:=a;cases M with
 |nil=>exact absurd rfl f
 |cons m M=>
  constructor
  ·simp[Nd.rG,iw,a,mI,MW]
  ·simp[Nd.rG,e,MW]
def E5 {key:ByteArray}:∀{k:ByteArray} {b:Int} {r:List (ByteArray×Int)},lt key k=false->∃L c d M,(k,b)::r=L++(c,d)::M/\L.length=jk (r.map (·.1)) key/\lt key c=false/\∀j m n,M=(j,m)::n->lt key j=true
 |k,b,[],f=>⟨[],k,b,[],rfl,rfl,f,fun _ _ _ h=>by cases h⟩
 |k,b,(g,i)::r,f=>by
  cases a:lt key g with
  |true=>exact⟨[],k,b,(g,i)::r,rfl,by simp[jk,a],f,fun _ _ _ h=>by cases h;exact a⟩
  |false=>
   obtain⟨L,c,d,M,e,l,o,p⟩:=E5 (b:=i) (r:=r) a
   exact⟨(k,b)::L,c,d,M,by rw[e];rfl,by simp[jk,a,l],o,p⟩
structure Mv (F:List Pr->List Pr)(key:ByteArray):Prop where
 loc:∀cl c cr,(∀p∈cl,lt p.1 key=true)->(∀p∈cr,lt key p.1=true)->F (cl++c++cr)=cl++F c++cr
 rise:∀c,fG c->fG (F c)
 mem:∀c,fG c->∀p∈F c,p∈c\/(p.1=key/\p.1.size<=128/\p.2.size<=64)
 len:∀c,(F c).length<=c.length+1
 size:∀c,eG (F c)<=eG c+194
def yO (b r:List Pr)(a:ByteArray)(h:∀p∈b,lt p.1 a=true):bX (b++r) a=b.length+bX r a:=by
 unfold bX;rw[List.takeWhile_append_of_pos h,ay]
def vX (c b:List Pr)(a:ByteArray)(h:∀p∈b,lt a p.1=true):bX (c++b) a=bX c a:=by
 induction c with
 |nil=>
  cases b with
  |nil=>rfl
  |cons p r=>simp[bX,lt_asymm (h p (by simp))]
 |cons p c ih=>
  unfold bX at*;rw[kZ,PK,PK]
  split
  ·simp[ih]
  ·rfl
def yP (b c d:List Pr)(a:ByteArray)(f:∀p∈b,lt p.1 a=true)(e:∀p∈d,lt a p.1=true):bX (b++c++d) a=b.length+bX c a:=by
 rw[aM,yO _ _ _ f,vX _ _ _ e]
def FB (d c b:List Pr)(a:ByteArray)(g:∀p∈d,lt p.1 a=true)(f:∀p∈b,lt a p.1=true):pU (d++c++b) a=pU c a:=by
 unfold pU;rw[yP d c b a g f,aM,dA (by omega),dJ]
 by_cases i:bX c a<c.length
 ·rw[eF i]
 ·rw[dA (by omega),iE (l:=c) (by omega)]
  have j:=nK c a;cases b with
  |nil=>rfl
  |cons p r=>
   rw[show bX c a - c.length=0 by omega];have:=Nb (f p (by simp));simp only[List.getElem?_cons_zero,FO];exact fun e=>this e.symm
def TH (a b:ByteArray):∀d c e,(∀p∈d,lt p.1 a=true)->(∀p∈e,lt a p.1=true)->kC (d++c++e) a b=d++kC c a b++e:=by
 intro d c e k j;have i:=nK c a;unfold kC;rw[FB d c e a k j,yP d c e a k j];cases g:pU c a with
 |true=>
  obtain⟨f,_⟩:=mY g;simp only[iX];rw[aM,jr _ _ (by omega),dJ,NF _ _ f,aM]
 |false=>
  simp only[SH,if_false];rw[aM,x9,mU,aJ (by omega),dY (by omega),dJ,bI i,eU i];simp
def TM (a:ByteArray):∀b c d,(∀p∈b,lt p.1 a=true)->(∀p∈d,lt a p.1=true)->jR (b++c++d) a=b++jR c a++d:=by
 intro b c d g f;have i:=nK c a;unfold jR;rw[FB b c d a g f,yP b c d a g f];cases e:pU c a with
 |true=>
  obtain⟨j,_⟩:=mY e;simp only[iX];rw[aM,x9,mU,aJ (by omega),dY (by omega),mP,dJ,dJ,bI i,eU (by omega)];simp
 |false=>simp
def DC (a b:ByteArray)(y:a.size<=128)(G:b.size<=64):Mv (fun I=>kC I a b) a:=by
 refine⟨TH a b,fun c l=> ?_,fun c l p o=> ?_,fun c=> ?_,fun c=> ?_⟩
 ·obtain⟨J,D⟩:=lX a c l
  unfold kC
  split
  ·rename_i d
   obtain⟨k,f⟩:=mY d;refine gX.2 fun i j g F r=> ?_
   have:=gX.1 l i j (by simpa using g) (by simpa using F) r;rw[List.getElem_set,List.getElem_set]
   split
   ·rename_i e;subst e
    rw[if_neg (by omega)];rw[f] at this;exact this
   ·split
    ·rename_i e;subst e
     rw[f] at this;exact this
    ·exact this
  ·rename_i d
   have m:∀i (h:i<c.length),bX c a<=i->lt a c[i].1=true:=by
    intro i g x;have n:=D i g x;cases H:lt a c[i].1 with
    |true=>rfl
    |false=>
     have e:=wu n H;have t:i=bX c a:=by
      rcases gH (bX c a) i with C|C
      ·have A:=gX.1 l (bX c a) i (by omega) g C
       have B:=D (bX c a) (by omega) (aD _);rw[e] at A;rw[A] at B;cases B
      ·omega
     subst t;exfalso;apply d;unfold pU;rw[bD g];simp[e]
   refine yI.2 ⟨l.sublist (List.take_sublist _ _),fU.2 ⟨fun q s=> ?_,l.sublist (UD _ _)⟩,fun q s z v=> ?_⟩
   ·obtain⟨i,g,rfl⟩:=fF s
    rw[qE];exact m _ _ (by omega)
   ·obtain⟨i,g,rfl⟩:=fF s
    rw[aH] at g;rw[lT];have n:=J i (by omega) (by omega);rcases bO.1 v with rfl|v
    ·exact n
    ·obtain⟨j,F,rfl⟩:=fF v
     rw[qE];exact lt_trans n (m _ _ (by omega))
 ·unfold kC at o
  split at o
  ·rcases List.mem_or_eq_of_mem_set o with h|rfl
   ·exact .inl h
   ·exact .inr ⟨rfl,y,G⟩
  ·rcases bU.1 o with h|h
   ·exact .inl (eT h)
   ·rcases bO.1 h with rfl|h
    ·exact .inr ⟨rfl,y,G⟩
    ·exact .inl (cZ h)
 ·simp only[kC]
  split<;>simp<;>omega
 ·have K:2+(a,b).1.size+(a,b).2.size<=194:=by show 2+a.size+b.size<=194;omega
  simp only[kC]
  split
  ·rename_i d
   obtain⟨k,_⟩:=mY d;have E:eG (c.take (bX c a))+eG (c.drop (bX c a))=eG c:=(by rw[<-lG,bJ]);rw[nT,if_pos k,lG,lq];rw[cu k,lq] at E;omega
  ·have E:eG (c.take (bX c a))+eG (c.drop (bX c a))=eG c:=by rw[<-lG,bJ]
   rw[lG,lq];omega
def JM (d:ByteArray):Mv (fun g=>jR g d) d:=by
 have e:∀c,(jR c d).Sublist c:=fun c=>by
  unfold jR
  split
  ·have j:(c.take (bX c d)++c.drop (bX c d+1)).Sublist (c.take (bX c d)++c.drop (bX c d)):=
    List.Sublist.append (Er _) (List.drop_sublist_drop_left _ (by omega))
   rwa [bJ] at j
  ·exact Er _
 refine⟨TM d,fun c i=>i.sublist (e c),fun c _ p f=> .inl ((e c).mem f),fun c=>lS (e c).length_le,fun c=> ?_⟩;have:∀a b:List Pr,a.Sublist b->eG a<=eG b:=by
  intro a b h
  induction h with
  |slnil=>exact aD _
  |cons x _ ih=>rw[lq];omega
  |cons_cons x _ ih=>rw[lq,lq];omega
 exact aK (this _ _ (e c)) (Nat.le_add_right _ _)
def Room (σ:cK)(bs:List Int)(n:Nat):Prop:=σ.sz+2*n<=σ.most+nh σ bs
def mW.room {d:cK}{n:Nat}(h:mW d a b c)(r:Room d b n):Room a c n:=by
 have:=h.size;unfold Room at*;rw[h.most,vC h.H];omega
def jA.top {i:cK}{f:ByteArray}{g:Option ByteArray}{b:Int}{c:List Pr}(d:jA i h m f g b c e):1<=b/\b<=4096:=by
 obtain⟨j,_,a,_⟩:=uI.1 d;exact⟨by have:=a.lo;omega,a.hi⟩
def dW.Ik {T:ByteArray->Option ByteArray->Int->List Pr->List Int->Prop}{q:Int->Prop}(d:∀k z b c x,T k z b c x->q b){m:Option ByteArray}:∀{l:List (ByteArray×Int)} {g:List Pr} {f:List Int},dW T m l g f->∀p∈l,q p.2
 |[],_,_,_=>by simp
 |(k,b)::l,_,_,h=>by
  obtain⟨c,j,x,n,i,e,rfl,rfl⟩:=h
  intro p a
  rcases bO.1 a with rfl|a
  ·exact d _ _ _ _ _ i
  ·exact dW.Ik d e p a
def mM.ok {b:Nd}{g:ByteArray}(h:mM b g R)(a:b.pairs=[])(c:∀k∈b.keys,k.size<=128)(d:∀p∈R,1<=p.2/\p.2<=4096)(i:R.length<=2000):b.Ok:=by
 have f:=h.len;refine⟨by simp[a],c,fun k e=> ?_,by omega,fun _=>a,by simp[a],by omega⟩;rw[h.2] at e;obtain⟨p,a,rfl⟩:=fw.1 e;exact d p a
def E9 {b:Nd}{i:Nat}{c:List Pc}(h:∀k∈b.keys,k.size<=128)(f:∀p∈c,p.2.size<=128):∀k∈(b.rG i c).keys,k.size<=128:=by
 have e:∀k∈iw b,k.size<=128:=fun k a=>by
  rcases bO.1 a with rfl|a
  ·exact aS _
  ·exact h k a
 have g:((iw b).getD i ⟨#[]⟩).size<=128:=by
  rw[eu];cases d:(iw b)[i]? with
  |none=>exact aS _
  |some x=>exact e x (NG d)
 intro k a;have a:=cZ a;rcases bU.1 a with a|a
 ·rcases bU.1 a with a|a
  ·exact e k (eT a)
  ·cases c with
   |nil=>cases a
   |cons p r=>
    rcases bO.1 a with rfl|a
    ·exact g
    ·obtain⟨q,d,rfl⟩:=fw.1 a
     exact f q (aX _ d)
 ·exact e k (cZ a)
def xX.keys {c:Nd}{n:List (ByteArray×Nd)}(h:xX c l n)(b:c.Ok)(g:l.size<=128):∀z∈n,z.1.size<=128:=by
 have f:∀(c:Nd) (l:ByteArray),c.Ok->l.size<=128->(leastOf c l).size<=128:=fun c l b g=>by
  unfold leastOf
  split
  ·cases o:c.pairs with
   |nil=>exact aS _
   |cons p r=>exact(b.pr p (by rw[o];simp)).1
  ·exact g
 induction h with
 |none _ _=>simp
 |one _ _=>intro z a;rw[bQ.1 a];exact f _ _ b g
 |@leaf c l i m A B j q k _ _ _ d e=>
  intro z a;rcases bU.1 a with a|a
  ·exact d (b.left i j) g z a
  ·exact e (b.right i j) (f _ _ (b.right i j) (b.pr _ (bF m)).1) z a
 |@inner c l i m A B j q k _ _ d e=>
  intro z a;rcases bU.1 a with a|a
  ·exact d (b.Fv i (by omega)) g z a
  ·exact e (b.AJ i) (f _ _ (b.AJ i) (b.ky _ (bF m))) z a
def Puts.keys:∀{c:List (ByteArray×Nd)} {j d:cK} {a:List Pc},Puts j a c d->(∀z∈c,z.1.size<=128)->∀p∈a,p.2.size<=128
 |[],_,_,[],_,_=>by simp
 |[],_,_,_::_,h,_=>absurd h id
 |_::_,_,_,[],h,_=>absurd h id
 |z::c,_,_,p::a,h,e=>by
  obtain⟨l,g,k,i⟩:=h
  intro q b
  rcases bO.1 b with rfl|b
  ·rw[g];exact e z (by simp)
  ·exact Puts.keys i (fun y f=>e y (aX _ f)) q b
structure Wx (σ:cK)(h m:Nat)(lo:ByteArray)(hi:Option ByteArray)(ps:List Pc)(cs:List Pr)(bs:List Int):Prop where
 row:dW (jA σ h m) hi (lY lo ps) cs bs
 key:∀p∈ps,p.2.size<=128
 len:ps.length<=900
 m1:1<=m
 m2:m<=2
 single:m=2\/ps.length=1
inductive Mid (σ:cK)(h:Nat)(hi:Option ByteArray)(z:Nat):List (ByteArray×Int)->Nat->List Pr->List Int->Prop
 |two {R i cs bs}:dW (jA σ h 2) hi R cs bs->Mid σ h hi z R i cs bs
 |one {L k b M cl bl c x cm bm}:dW (jA σ h 2) (some k) L cl bl->jA σ h 1 k (jZ M hi) b c x->dW (jA σ h 2) hi M cm bm->2<=(L++(k,b)::M).length->c.length=z->Mid σ h hi z (L++(k,b)::M) L.length (cl++(c++cm)) (bl++(x++bm))
def Mq {d:cK}{F:ByteArray}{b:Int}{a:Option ByteArray}{H:Nd}{L:List (ByteArray×Int)}{B I c:List Pr}{s K x:List Int}{f:List Pc}(E:mM H F (L++(k,b)::M))(n:dW (jA d h 2) (some k) L B s)(j:dW (jA d h 2) a M I K)(g:Wx d h m k (jZ M a) f c x)(G:2<=(L++(k,b)::M).length)
  (D:∀i o O,M=(i,o)::O->lt i F=false) (t:∀y,jZ M a=some y->lt y k=false):
  ∃R,mM (H.rG L.length f) F R/\(∀z,(f.length=1->z=c.length)->Mid d h a z R L.length (B++(c++I)) (s++(x++K)))/\R.length<=L.length+f.length+M.length:=by
 cases f with
 |nil=>
  obtain⟨rfl,rfl⟩:=g.row;cases L with
  |nil=>
   obtain⟨rfl,rfl⟩:=n;cases M with
   |nil=>simp at G
   |cons q M=>
    obtain⟨i,o⟩:=q;refine⟨_,IJ E (by simp),fun z _=> .two (dW.Ig (fun z b c x e=>jA.weaken e (D i o M rfl) (fun y A=>⟨y,A,lt_irrefl y⟩)) j),by simp[MW]⟩
  |cons l L=>
   refine⟨_,yN E (.inl (by simp)),fun z _=> .two ?_,by simp[lY];omega⟩;have C:dW (jA d h 2) (jZ M a) (l::L) B s:=dW.Cv (fun Y W V X e=>jA.weaken e (lt_irrefl _) (fun y A=>⟨k,rfl,t y A⟩)) n;have:=j.append C;simpa [lY] using this
 |cons p r=>
  refine⟨_,yN E (.inr (by simp)),fun z J=> ?_,by simp[lY];omega⟩
  by_cases N:r=[]
  ·subst N
   obtain⟨Q,Z,T,x2,e,⟨rfl,rfl⟩,rfl,rfl⟩:=g.row;rw[dM] at J;rw[dM,dM];have v:jA d h 1 k (jZ M a) p.1 Q T:=e.less g.m1;have:=Mid.one (b:=p.1) n v j (by simpa using G) (J rfl).symm;simpa [lY] using this
  ·have S:m=2:=g.single.resolve_right (by cases r with|nil=>exact absurd rfl N|cons _ _=>simp)
   subst S;have P:=dW.append j g.row;rw[aM];exact .two (dW.append P n)
structure Ms (σ:cK)(h:Nat)(hi:Option ByteArray)(R:List (ByteArray×Int))(j:Nat)(cs:List Pr)(bs:List Int)(L:List (ByteArray×Int))(k1:ByteArray)(b1:Int)(k2:ByteArray)(b2:Int)(M:List (ByteArray×Int))(cl ca cb cm:List Pr)(bl xa xb bm:List Int)(m1 m2 z:Nat):Prop where
 row:R=L++(k1,b1)::(k2,b2)::M
 len:L.length=j
 l:dW (jA σ h 2) (some k1) L cl bl
 a:jA σ h m1 k1 (some k2) b1 ca xa
 b:jA σ h m2 k2 (jZ M hi) b2 cb xb
 m:dW (jA σ h 2) hi M cm bm
 cs:cs=cl++(ca++(cb++cm))
 bs:bs=bl++(xa++(xb++bm))
 m12:(m1=2/\m2=2)\/(m1=1/\m2=2/\ca.length=z)\/(m1=2/\m2=1/\cb.length=z)
def Mid.skip {d:cK}{z:Nat}{c:Option ByteArray}{i:Nat}{a:List Pr}(e:Mid d h c z R i a b)(g:R.length<2\/R.length<=i):dW (jA d h 2) c R a b:=by
 cases e with
 |two h=>exact h
 |one k j l f _=>simp at g f;omega
def Mid.pair {T:cK}{z:Nat}{S:Option ByteArray}{i:Nat}{K:List Pr}{H:List Int}(hm:Mid T h S z R i K H)(h2:2<=R.length):
  ∃L e g s p M r m n a l f o d m1 W,Ms T h S R (min i (R.length - 2)) K H L e g s p M r m n a l f o d m1 W z:=by
 cases hm with
 |two P=>
  obtain⟨j,hj⟩:=nx (min i (R.length - 2));rw[<-hj];have t:=bJ j R;have C:R.drop j=R[j]'(by omega)::R[j+1]'(by omega)::R.drop (j+2):=by
   rw[cu (by omega),cu (i:=j+1) (by omega)]
  generalize R[j]'(by omega)=Z at C;generalize R[j+1]'(by omega)=X at C;obtain⟨e,g⟩:=Z;obtain⟨s,p⟩:=X;have O:(R.take j).length=j:=by rw[aH];omega
  rw[C] at t;generalize R.take j=L at t O;generalize R.drop (j+2)=M at t;rw[<-t] at P;obtain⟨r,N,l,I,v,G,rfl,rfl⟩:=P.split;obtain⟨m,N,f,I,B,⟨n,a,o,d,D,E,rfl,rfl⟩,rfl,rfl⟩:=G;exact⟨L,e,g,s,p,M,r,m,n,a,l,f,o,d,2,2,t.symm,O,v,B,D,E,rfl,rfl,.inl ⟨rfl,rfl⟩⟩
 |@one L k b M r l c x a d A Q J Y V=>
  cases M with
  |cons q M=>
   obtain⟨s,p⟩:=q;obtain⟨n,a,o,d,D,E,rfl,rfl⟩:=J;exact⟨L,k,b,s,p,M,r,c,n,a,l,x,o,d,1,2,rfl,by simp;omega,A,Q,D,E,rfl,rfl,.inr (.inl ⟨rfl,rfl,V⟩)⟩
  |nil=>
   obtain⟨rfl,rfl⟩:=J;rcases xA L with rfl|⟨L,q,rfl⟩
   ·simp at Y
   ·obtain⟨e,g⟩:=q
    rw[xB] at A;obtain⟨F,N,y,I,v,G,rfl,rfl⟩:=A.split;obtain⟨m,c0,f,x0,B,⟨rfl,rfl⟩,rfl,rfl⟩:=G;exact⟨L,e,g,k,b,[],F,m,c,[],y,f,x,[],2,1,by simp,by simp,v,B,Q,⟨rfl,rfl⟩,by simp,by simp,.inr (.inr ⟨rfl,rfl,V⟩)⟩
def eX (A B:Nd)(k:ByteArray):Nd:=⟨A.pairs++B.pairs,if A.kids=[] then[] else A.keys++[k]++B.keys,A.kids++B.kids⟩
def qO.rows {g:cK}{b:ByteArray}{f:Option ByteArray}{a:Nd}{d:List Pr}(i:qO g (h+1) b f a d e)(c:a.Ok):mM a b (a.row b):=rowOf c i.1 b
def Fz {z:cK}{n a:ByteArray}{y:Option ByteArray}{A B:Nd}{r v:List Pr}{E H:List Int}(f:A.Ok)(d:B.Ok)(g:qO z h n (some a) A r E)(i:qO z h a y B v H)(R:r≠[])(P:v≠[])(q:a.size<=128)(F:A.Fits)(I:B.Fits):
  qO z h n y (eX A B a) (r++v) (E++H)/\(eX A B a).Ok/\(eX A B a).kids.length=A.kids.length+B.kids.length/\(eX A B a).pairs.length=A.pairs.length+B.pairs.length:=by
 have m:(eX A B a).Ok↔(eX A B a).keys.length=(eX A B a).kids.length - 1/\((eX A B a).kids≠[]->(eX A B a).pairs=[]):=by
  constructor
  ·exact fun h=>⟨h.kk,h.one⟩
  ·rintro⟨o,N⟩
   have C:=F.np;have D:=I.np;have s:=F.nk;have t:=I.nk;refine⟨fun p j=> ?_,fun k c=> ?_,fun k c=> ?_,o,N,by simp[eX];omega,by simp[eX];omega⟩
   ·rcases bU.1 j with j|j
    ·exact f.pr p j
    ·exact d.pr p j
   ·unfold eX at c
    dsimp only at c
    split at c
    ·cases c
    ·simp only[aM,bU,bQ] at c
     rcases c with c|rfl|c
     ·exact f.ky k c
     ·exact q
     ·exact d.ky k c
   ·rcases bU.1 c with c|c
    ·exact f.kd k c
    ·exact d.kd k c
 refine⟨?_,m.2 ?_,by simp[eX],by simp[eX]⟩
 ·cases h with
  |zero=>
   obtain⟨C,D,s,t,Q⟩:=g;obtain⟨K,S,O,T,M⟩:=i;have:=Content.append ⟨R,s,t⟩ ⟨P,O,T⟩;exact⟨by simp[eX,C,K],by simp[eX,D,S],this.rise,this.within,by simp[Q,M]⟩
  |succ h=>
   have G:=g.rows f;have J:=i.rows d;have V:mM (eX A B a) n (A.row n++B.row a):=by
    constructor
    ·simp only[eX,if_neg g.1,bT,<-G.1,<-J.1]
     simp
    ·simp only[eX,bT,<-G.2,<-J.2]
   refine⟨by simp[eX,g.1],?_⟩;rw[V.row];have x:jZ (B.row a) y=some a:=by
    obtain⟨b,l,e,_⟩:=qm d.kk i.1 a;unfold Nd.row;rw[e];rfl
   have o:=g.2;rw[<-x] at o;exact dW.append i.2 o
 ·cases h with
  |zero=>simp[eX,g.1,i.1]
  |succ h=>
   have C:=f.kk;have D:=d.kk;have s:=dD.2 g.1;have t:=dD.2 i.1;refine⟨by simp[eX,g.1];omega,fun _=>by simp[eX,f.one g.1,d.one i.1]⟩
def Nd.lC (nd:Nd)(j:Nat):Nd:=⟨nd.pairs,nd.keys.take j++nd.keys.drop (j+1),nd.kids.take (j+1)++nd.kids.drop (j+2)⟩
def JO {c:Nd}{j b f:ByteArray}{g k:Int}{L:List (ByteArray×Int)}(h:mM c j (L++(b,g)::(f,k)::M)):mM (c.lC L.length) j (L++(b,g)::M)/\c.keys[L.length]? =some f/\c.kids[L.length]? =some g/\c.kids[L.length+1]? =some k:=by
 obtain⟨d,i⟩:=h;have e:c.keys=(L.map (·.1)++[b]).drop 1++f::M.map (·.1):=by
  have:=congrArg (List.drop 1) d;simp only[gy,dQ] at this;rw[this];cases L<;>simp
 have a:((L.map (·.1)++[b]).drop 1).length=L.length:=by simp
 have m:j::(L.map (·.1)++[b]).drop 1=L.map (·.1)++[b]:=by
  cases L with
  |nil=>simp only[jI,dK,nW] at d;simp[d.1]
  |cons l L=>simp only[kZ,dK,nW] at d;simp[d.1]
 generalize (L.map (·.1)++[b]).drop 1=D at e a m;refine⟨⟨?_,?_⟩,?_,?_,?_⟩
 ·have n:(c.lC L.length).keys=D++M.map (·.1):=by
   simp only[Nd.lC,e];rw[bI (by omega),aJ (by omega),mU,dY (by omega),a];simp
  rw[n,<-kZ,m];simp
 ·simp only[Nd.lC,i,bT,dK]
  rw[x9,mU];simp;rw[aJ (by simp),dY (by simp)];simp
 ·rw[e,dA (by omega),a];simp
 ·rw[i];simp
 ·rw[i];simp
def Rf {E k n:cK}{N:Option ByteArray}{j:Nat}{cs:List Pr}{Z:List Int}{L:List (ByteArray×Int)}{O:ByteArray}{q:Int}{C:ByteArray}{t:Int}{cl I S cm:List Pr}{i f:List Int}{m1 m2 z:Nat}{A B:Nd}{G:List Pc}{zs:List (ByteArray×Nd)}
  (hP:Ms E h N R j cs Z L O q C t M cl I S cm i (q::f) (t::c) b m1 m2 z) (q8:A.Ok) (pM:B.Ok) (W:A.Fits) (fB:B.Fits) (nA:qO E h O (some C) A I f) (nB:qO E h C (jZ M N) B S c) (kA:Kids h m1 A) (kB:Kids h m2 B) (na:I≠[]) (nb:S≠[]) (Y:C.size<=128)
  (H:mW E k [q,t] []) (af:SE k) (hs:xX (eX A B C) ⟨#[]⟩ zs) (hp:Puts k G zs n) (hn:Z.Nodup):
  ∃T,dW (jA n h 2) N (L++lY O G++M) cs (i++(T++b))/\mW E n Z (i++(T++b))/\G≠[]/\(∀p∈G,p.2.size<=128)/\G.length<=510:=by
 obtain⟨aA,av,hl,ha,hb,hm,rfl,rfl,aB⟩:=hP;have K:∀x∈i++(q::f++(t::c++b)),E.hasB x=true:=by
  intro x a;simp only[bU] at a;rcases a with a|a|a|a
  ·exact dW.has (fun _ _ _ _ _ X=>jA.has X) hl x a
  ·exact ha.has x a
  ·exact hb.has x a
  ·exact dW.has (fun _ _ _ _ _ X=>jA.has X) hm x a
 have g:(i++(q::f++(t::c++b))).Perm ([q,t]++(i++((f++c)++b))):=by
  have D:(q::f++(t::c++b)).Perm ([q,t]++((f++c)++b)):=by
   show (q::(f++t::(c++b))).Perm (q::t::((f++c)++b));refine List.Perm.cons _ ?_;rw[aM];exact List.perm_middle
  exact(qj i D).trans (List.perm_append_comm_assoc _ _ _)
 have F:=g.nodup_iff.1 hn;have o:∀x∈i++((f++c)++b),E.hasB x=true:=fun x a=>K x (g.mem_iff.2 (bY _ a))
 have c1:=H.left F o;have d:∀x∈i++((f++c)++b),x∉[q,t]:=fun x a J=>(eD.1 F).2.2 x J x a rfl
 have mA:qO k h O (some C) A I f:=by
  cases h with
  |zero=>exact nA
  |succ h=>exact⟨nA.1,nA.2.keep H fun x a=>d x (by simp[a])⟩
 have mB:qO k h C (jZ M N) B S c:=by
  cases h with
  |zero=>exact nB
  |succ h=>exact⟨nB.1,nB.2.keep H fun x a=>d x (by simp[a])⟩
 obtain⟨nJ,y,lJ,Q⟩:=Fz q8 pM mA mB na nb Y W fB;have v:(i++((f++c)++b)).Nodup:=(eD.1 F).2.1;have P:=v;rw[<-aM] at P;have p9:(f++c).Nodup:=(eD.1 (eD.1 v).2.1).1;have s:∀x∈i++((f++c)++b),k.hasB x=true:=fun x a=>(H.frame x (o x a) (.inl (d x a))).1
 obtain⟨T,q1,q2⟩:=yM hs (m:=2) y nJ hp af (aD 2) (by
  rcases kA with rfl|kA
  ·exact .inl rfl
  ·rcases kB with rfl|kB
   ·exact .inl rfl
   ·exact .inr (by rw[lJ];omega)) p9 (fun x a=>s x (by simp only[bU] at a ⊢;exact .inr (.inl a)))
 have c2:=q2.mid (ls:=i) (rs:=b) P (fun x a=>s x (by simp[a])) (fun x a=>s x (by simp[a]));have ql:=c1.trans (c2.perm (by rw[aM];exact jH _) (jH _));have V:G≠[]:=fun e=>by
  subst e;have:=q1.1;simp at this;exact na this.1
 obtain⟨p,r,rfl⟩:=ni V;have qc:∀x∈i,x∉f++c:=fun x a J=>(eD.1 v).2.2 x a x (dh _ J) rfl
 have qo:∀x∈b,x∉f++c:=fun x a J=>(eD.1 (eD.1 v).2.1).2.2 x J x a rfl
 have q9:dW (jA n h 2) N M cm b:=(hm.keep H fun x a=>d x (by simp[a])).keep q2 qo;have qb:dW (jA n h 2) (some O) L cl i:=(hl.keep H fun x a=>d x (by simp[a])).keep q2 qc;refine⟨T,?_,(ql.perm g.symm (by rw[aM])),by simp,?_,?_⟩
 ·have D:=dW.append q9 q1
  have e2:=dW.append D (l:=L) qb;rw[aM L,<-aM I S cm];exact e2
 ·exact hp.keys (hs.keys y (aS _))
 ·have D:=hs.room y
  have e2:=hp.length.1;have a1:=W.np;have a2:=fB.np;have a3:=W.nk;have a4:=fB.nk;unfold Nd.room at D;rw[Q,lJ] at D;rw[e2]
  by_cases hk:(eX A B C).kids=[]
  ·rw[if_pos hk] at D;omega
  ·have h0:=y.one hk
   have h1:=congrArg List.length h0;rw[Q] at h1;simp only[bV] at h1;rw[if_neg hk] at D;omega
theorem OI (t c:Nat)(a:Nd)(i:Nat)(b:Int)(w:World)(S:Nat->Prop)(m:gN w S c a)(z:a.kids.length<2\/a.kids.length<=i):
  Calls Tryz.prog 154 #[.pointer (some ⟨t,0,none⟩),.pointer (some ⟨c,0,none⟩),.int .i64 i,.int .i64 b] w fun e f=>e= .returned (.tuple #[])/\f=w:=by
 obtain⟨_,B,s,y,j,p,r,g⟩:=m;obtain⟨D,v,x,_,_,_,d⟩:=cells3 j;obtain⟨l,k,rfl,C,o,_,_⟩:=aZ.form g
 by_cases h:a.kids.length<2
 ·have n:(a.kids.length:Int)<2:=by omega
  go_enter Tryz.func154,Tryz.ntmps154
  go_wp2
  refine jE (Ca rfl _ _ _) rfl ?_;exact⟨rfl,rfl⟩
 ·have n:¬(a.kids.length:Int)<2:=by omega
  have A:(a.kids.length:Int)<=(i:Int):=by omega
  have q:a.kids.length<=i:=by omega
  go_enter Tryz.func154,Tryz.ntmps154
  go_wp2
  refine jE (Ca rfl _ _ _) rfl ?_;exact⟨rfl,rfl⟩
def rH (l:List Int):∀u∈l.map (Value.int .i64),u.oneCell'=true:=by
 intro u a;obtain⟨p,_,rfl⟩:=fw.1 a;rfl
def SJ (t:Nat)(mp:VS)(nb pb po j n cp:Nat)(root err b1 b2:Int)(v0 v1:Value)(W:World):Prop:=
 dw W t mp root err/\W.heap[nb]? =some (.cells #[v0,v1,.slice (some ⟨pb,po,none⟩) n cp] 165 (0,0))/\W.cell? ⟨pb,po+j,none⟩=some (.int .i64 b1)/\W.cell? ⟨pb,po+(j+1),none⟩=some (.int .i64 b2)
def SJ.step {t:Nat}{v:VS}{e c f j n r:Nat}{b d i p:Int}{s l:Value}{W k:World}{S S':Nat->Prop}(h:SJ t v e c f j n r b d i p s l W)(g:Step S S' W k)(A:¬S t)(y:¬S e)(q:¬S c):SJ t v e c f j n r b d i p s l k:=by
 obtain⟨z,x,m,B⟩:=h;have o:=aF W _ m;exact⟨(z.step A g).1,(g.1.block e (ai.1 x).1 y).trans x,(oz (w:=W) (a:=⟨c,f+j,none⟩) (g.1.block c o q)).trans m,(oz (w:=W) (a:=⟨c,f+(j+1),none⟩) (g.1.block c o q)).trans B⟩
def SJ.cells {t:Nat}{m:VS}{e a c j n l:Nat}{b d g k:Int}{x p:Value}(h:SJ t m e a c j n l b d g k x p W):
  W.cell? ⟨t,0,none⟩=some (.iface 97 m.agg)/\t<W.heap.size/\W.cell? ⟨e,2,none⟩=some (.slice (some ⟨a,c,none⟩) n l)/\e<W.heap.size/\W.cell? ⟨a,c+j,none⟩=some (.int .i64 g)/\W.cell? ⟨a,c+(j+1),none⟩=some (.int .i64 k)/\a<W.heap.size:=by
 obtain⟨o,y,i,s⟩:=h;obtain⟨q,_,_,_,_,_,v⟩:=cells3 o;obtain⟨_,_,r,_,_,_,f⟩:=cells3 y;exact⟨q,v,r,f,i,s,aF W _ i⟩
def zM {b:Nat}{r:List Pr}{c:List ByteArray}{q:List Int}{k x j a:Value}(v:W.heap[b]? =some (.cells #[k,x,j] 165 (0,0)))(z:¬S b)(t:jo W S k r)(s:jV W S j q)(o:k.ownBlock≠some b)(n:j.ownBlock≠some b)(y:jP W S a c)(l:a.ownBlock≠some b):gN (W.setCell ⟨b,1,none⟩ a) S b ⟨r,c,q⟩:=by
 have m:Keep (· =b) W (W.setCell ⟨b,1,none⟩ a):=Keep.setCell (M:=(· =b)) (p:=⟨b,1,none⟩) (Keep.refl _ _) (.inr rfl) _;refine⟨z,k,a,j,by simp[World.setCell,aQ,v],aZ.keep t fun g d f i=>⟨m.block g f (fun e=>o (by rw[d,e])),i⟩,aZ.keep y fun g d f i=>⟨m.block g f (fun e=>l (by rw[d,e])),i⟩,aZ.keep s fun g d f i=>⟨m.block g f (fun e=>n (by rw[d,e])),i⟩⟩
def SV {b:Nat}{i a g:Option Addr}{l j p q f s:Nat}{d:List ByteArray}(m:W.heap[b]? =some (.cells #[.slice i l q,.slice a j f,.slice g p s] 165 (0,0)))(h:jP W S (.slice a j f) d)(n:0<d.length):(Value.slice a j f).ownBlock≠some b:=by
 obtain⟨v,c,e,_,_,_,_,_,r⟩:=h;cases e
 obtain⟨t,o,rfl,k⟩:=r 0 (.string d[0]) (by simp[n]);intro e;cases e
 rw[iG] at k;rcases o with _|_|_|o<;>simp[World.cell?,m] at k
def Sg (mp:VS)(σ:cK)(S:Nat->Prop)(nb:Nat)(nd A B:Nd)(k2:ByteArray)(b1 b2:Int)(j:Nat)(w:World)(e:Ending)(w':World):Prop:=
 (e= .returned (.tuple #[])/\∃σ' S' nd',Inv σ' S' mp w'/\gN w' S' nb nd'/\Keep (fun g=>S g\/g=nb) w w'/\(∀g,S' g->S g\/w.heap.size<=g)/\
  ((512<(eX A B k2).size/\A.kids.length≠1/\B.kids.length≠1/\σ'=σ/\nd'=nd)\/∃ps zs,xX (eX A B k2) ⟨#[]⟩ zs/\Puts ((σ.gone b1).gone b2) ps zs σ'/\nd'=(nd.lC j).rG j ps/\¬(512<(eX A B k2).size/\A.kids.length≠1/\B.kids.length≠1)))\/
  (((σ.gone b1).gone b2).most<((σ.gone b1).gone b2).sz+(eX A B k2).room/\Em mp σ S w e w')
theorem Ri (t:Nat)(mp:VS)(X iO:Int)(σ:cK)(S:Nat->Prop)(C:Nat)(c A B:Nd)(E:ByteArray)(i j:Nat)(j3 b1 b2:Int)(w:World)(h:Inv σ S mp w)(ht:dw w t mp X iO)(jv:¬S t)(hn:gN w S C c)(h2:2<=c.kids.length)(hi:i<c.kids.length)(hj:j=min i (c.kids.length - 2))(hk1:c.kids[j]? =some b1)(hk2:c.kids[j+1]? =some b2)(xV:c.keys[j]? =some E)
  (hp:c.pairs=[]) (hkk:c.keys.length=c.kids.length - 1) (hA:Cm σ b1 A) (hB:Cm σ b2 B) (hB2:(σ.gone b1).hasB b2=true) (tY:(eX A B E).Ok) (hd:j3<=40) (hl:c.kids.length<=2000):
  Calls Tryz.prog 154 #[.pointer (some ⟨t,0,none⟩),.pointer (some ⟨C,0,none⟩),.int .i64 i,.int .i64 j3] w (Sg mp σ S C c A B E b1 b2 j w):=by
 have hN:=hn;obtain⟨nH,v0,v1,v2,hb,h0,h1,r9⟩:=hn;obtain⟨c0,c1,c2,_,_,_,hlt⟩:=cells3 hb;obtain⟨z8,cp2,rfl,n2,m2,_,_⟩:=aZ.form r9;obtain⟨hj1,yo⟩:=dm.1 hk1;obtain⟨hj2,y7⟩:=dm.1 hk2;obtain⟨pb,po,rfl,d1⟩:=r9.at rfl j hj1;obtain⟨_,_,e',d2⟩:=r9.at rfl (j+1) hj2;cases e'
 rw[yo] at d1;rw[y7] at d2;have hpb:pb<w.heap.size:=aF w _ d1;have oH:¬S pb:=by
  obtain⟨_,_,e,_,_,_,_,h5,_⟩:=r9;cases e
  exact(h5 _ rfl).2.2
 have hSJ:SJ t mp C pb po j c.kids.length cp2 X iO b1 b2 v0 v1 w:=⟨ht,hb,d1,d2⟩;have tQ:=ah hSJ;have HK:=ah xV;have HP:=ah hp;have nk:=ah hkk;have HN:=ah hN;have HB2:=ah hB2;have HJ:=ah hj;have hj3:j+2<=c.kids.length:=by omega
 have x4:min (i:Int) ((c.kids.length:Int) - 2)=(j:Int):=by omega
 have HX4:=ah x4;have HD1:=ah hk1;have HD2:=ah hk2;clear hk1 hk2 yo y7 hSJ xV hp hkk hN hB2 hb d1 d2 hj hj1 hj2 c0 c1 x4;have x1:¬(c.kids.length:Int)<2:=by omega
 have x2:¬(c.kids.length:Int)<=(i:Int):=by omega
 have x3:¬c.kids.length<=i:=by omega
 go_enter Tryz.func154,Tryz.ntmps154;go_upto_region 1 with fail
 go_cut [2] from 13 to 196 (fun x wx=>x= .int .i64 j/\w=wx)
 case first=>
  go_wp2_with fail
  all_goals
   go_meet;refine⟨?_,rfl⟩;have:=HX4.out;congr 1<;>omega
 case rest=>
  obtain⟨rfl,rfl⟩:=hcut;obtain⟨y0,y1,y2,y3,y4,y5,y6⟩:=tQ.out.cells;have HA:=ah hA;have HB:=ah hB;have hj4:(j:Int)+2<=(c.kids.length:Int):=by omega
  have HI:=ah h;have HT:=ah ht;clear hA hB h ht c2;go_wp2_with (first|(go_at_call 93;go_must ((refine(nM t mp X iO b1 j3 σ S A w HI.out HT.out HA.out hd).mono ?_);rintro e w1 ⟨na,rfl,hnA,l5⟩;refine sO ?_)))
  refine sN ?_;have HI1:=ah (HI.out.below l5);obtain⟨y0,y1,y2,y3,y4,y5,y6⟩:=(tQ.out.step (Step.of_below (S:=S) l5) jv nH oH).cells;go_wp2_with (first|(go_at_call 151;go_must ((refine(pJ _).mono ?_);rintro e R ⟨rfl,hw⟩;subst R))|(go_at_call 93;go_must ((refine(nM t mp X iO b2 j3 σ S B w1 HI1.out ((HT.out).step jv (Step.of_below (S:=S) l5)).1 HB.out hd).mono ?_);rintro e R ⟨D,rfl,hnB,hb2⟩;refine sO ?_)))
  refine sN ?_;have pM:Below w.heap.size w R:=l5.trans (hb2.mono l5.size);have HI2:=ah (HI.out.below pM);have hsj2:=ah (tQ.out.step (Step.of_below (S:=S) pM) jv nH oH);have hA2:=hnA.jO.below hb2;have y8:=hnB.jO;have HA2:=ah hA2;have HB2':=ah y8;obtain⟨hSA,a0,a1,a2,bA,A0,A1,A2⟩:=hA2;obtain⟨hSB,g0,g1,g2,bB,B0,B1,B2⟩:=y8;have hnaw:w.heap.size<=na:=hnA.2.1;obtain⟨e0,e1,e2,_,_,_,l⟩:=cells3 bA;obtain⟨f0,f1,f2,_,_,_,f⟩:=cells3 bB;clear y0 y1 y2 y3 y4 y5 y6 bA bB hnA hnB;go_wp2_with (first|(go_at_call 151;go_must ((refine(pJ _).mono ?_);rintro e w3 ⟨rfl,hw⟩;subst w3)))
  have H:=HI2.out.sub;have la:=HA.out.fits.np;have lb:=HB.out.fits.np;have ka:=HA.out.fits.nk;have kb:=HB.out.fits.nk;refine aP (fun W=>Below R.heap.size R W) (fun i=> !([4,9,14,19,21].contains i)) [0,1,2,3,5,6,7,8,10,11,12,13,15,16,17,18,4,9,14,19,20,21,22] rfl (by kernel_rfl) ((aR _ R).drew) ?_
  repeat (refine oq ?_ rfl rfl rfl ?_ ?_;rotate_left;(focus intro W d;(try dsimp only at d);have q0:=(d.cell (p:=⟨na,0,none⟩) l).trans e0;have q1:=(d.cell (p:=⟨na,1,none⟩) l).trans e1;have q2:=(d.cell (p:=⟨na,2,none⟩) l).trans e2;have q3:=(d.cell (p:=⟨D,0,none⟩) f).trans f0;have q4:=(d.cell (p:=⟨D,1,none⟩) f).trans f1;have q5:=(d.cell (p:=⟨D,2,none⟩) f).trans f2;have q6:=ax l d.size;have q7:=ax f d.size;first|(go_simp;first|done|with_reducible rfl));try simp only[Act.put,aj,au,ak])
  have fB:Below R.heap.size R R.drew:=(aR _ R).drew;have hC1:=EJ a0 A.pairs.length (dP A.pairs) R.drew S H (aZ.below A0 fB) (Cg _) (by omega);have HC1:=ah hC1;clear hC1;refine dI rfl rfl rfl ?_;intro K z;go_simp;refine HC1.out.mono ?_;rintro e w3 ⟨u0,rfl,hu0,hb3⟩;have qb:Below R.heap.size R w3:=fB.trans hb3;refine z.out _ _ qb ?_
  (try simp only[Act.put,aj,au,ak])
  refine dI rfl rfl rfl ?_;intro K z;refine ol (.tmp 71) (.tmp 75) 52 52 rfl S R.heap.size 103 2 32 _ bL iK rfl u0 A.pairs.length (dP A.pairs) rfl hu0 g0 B.pairs.length (dP B.pairs) rfl ((aZ.below B0 qb).src bL (Cg _)) (fun g q=>ax (H g q) qb.size) qb.size (by unfold maxLen;omega) (by omega) ?_;intro fJ c4 w4 av hk4 hb4 hd4;have Q:Below R.heap.size R w4:=qb.trans hb4;refine z.out _ _ Q ?_
  (try simp only[Act.put,aj,au,ak])
  have hC2:=uY a2 A.kids.length (A.kids.map (.int .i64)) w4 S (fun g q=>ax (H g q) Q.size) (aZ.below A2 Q) (rH _) (by omega);have HC2:=ah hC2;clear hC2;refine dI rfl rfl rfl ?_;intro K z;go_simp;refine HC2.out.mono ?_;rintro e w5 ⟨u2,rfl,zS,mK⟩;have qo:Below R.heap.size R w5:=Q.trans (mK.mono Q.size);refine z.out _ _ qo ?_
  (try simp only[Act.put,aj,au,ak])
  refine dI rfl rfl rfl ?_;intro K z;refine ol (.tmp 81) (.tmp 85) 93 93 rfl S R.heap.size 3 1 8 _ bE iq rfl u2 A.kids.length (A.kids.map (.int .i64)) rfl (zS.base Q.size) g2 B.kids.length (B.kids.map (.int .i64)) rfl ((aZ.below B2 qo).src bE (rH _)) (fun g q=>ax (H g q) qo.size) qo.size (by unfold maxLen;omega) (by omega) ?_;intro jb c6 w6 fo hk6 di hd6;have ql:Below R.heap.size R w6:=qo.trans di;refine z.out _ _ ql ?_
  (try simp only[Act.put,aj,au,ak])
  repeat (refine oq ?_ rfl rfl rfl ?_ ?_;rotate_left;(focus intro W d;(try dsimp only at d);have q0:=(d.cell (p:=⟨na,0,none⟩) l).trans e0;have q1:=(d.cell (p:=⟨na,1,none⟩) l).trans e1;have q2:=(d.cell (p:=⟨na,2,none⟩) l).trans e2;have q3:=(d.cell (p:=⟨D,0,none⟩) f).trans f0;have q4:=(d.cell (p:=⟨D,1,none⟩) f).trans f1;have q5:=(d.cell (p:=⟨D,2,none⟩) f).trans f2;have q6:=ax l d.size;have q7:=ax f d.size;first|(go_simp;first|done|with_reducible rfl));try simp only[Act.put,aj,au,ak])
  refine dI rfl rfl rfl ?_;intro K z;go_simp;have vO:=aN w6 (.cells #[.slice fJ (A.pairs.length+B.pairs.length) c4,.slice none 0 0,.slice jb (A.kids.length+B.kids.length) c6] 165);have m:Below R.heap.size R (w6.alloc (.cells #[.slice fJ (A.pairs.length+B.pairs.length) c4,.slice none 0 0,.slice jb (A.kids.length+B.kids.length) c6] 165)):=ql.trans (vO.mono ql.size);refine z.out _ _ m ?_
  (try simp only[Act.put,aj,au,ak])
  repeat (refine oq ?_ rfl rfl rfl ?_ ?_;rotate_left;(focus intro W d;(try dsimp only at d);have q0:=(d.cell (p:=⟨na,0,none⟩) l).trans e0;have q1:=(d.cell (p:=⟨na,1,none⟩) l).trans e1;have q2:=(d.cell (p:=⟨na,2,none⟩) l).trans e2;have q3:=(d.cell (p:=⟨D,0,none⟩) f).trans f0;have q4:=(d.cell (p:=⟨D,1,none⟩) f).trans f1;have q5:=(d.cell (p:=⟨D,2,none⟩) f).trans f2;have q6:=ax l d.size;have q7:=ax f d.size;first|(go_simp;first|done|with_reducible rfl));try simp only[Act.put,aj,au,ak])
  refine bR ?_;have ko:gN (w6.alloc (.cells #[.slice fJ (A.pairs.length+B.pairs.length) c4,.slice none 0 0,.slice jb (A.kids.length+B.kids.length) c6] 165)) S w6.heap.size ⟨A.pairs++B.pairs,[],A.kids++B.kids⟩:=by
   refine⟨fun hs=>absurd (H _ hs) (bg.2 ql.size),_,_,_,aV w6 _,?_,aZ.nil _ _ _,?_⟩
   ·have q1:=(av.below (mK)).keep (w':=w6) (S':=S) (fun g q hl hs=>⟨hk6.block g hl (fun e=>aT.Hz (av.below mK) (zS.base Q.size) (by decide) g q e),hs⟩)
    have:=(q1.below vO).dx;unfold jo;rw[ay,ic];exact this
   ·have:=(fo.below vO).dx
    unfold jV;rw[ay,bT];exact this
  have mr:R.heap.size<=w6.heap.size:=ql.size;have oo:(w6.alloc (.cells #[.slice fJ (A.pairs.length+B.pairs.length) c4,.slice none 0 0,.slice jb (A.kids.length+B.kids.length) c6] 165)).heap[w6.heap.size]? =some (.cells #[.slice fJ (A.pairs.length+B.pairs.length) c4,.slice none 0 0,.slice jb (A.kids.length+B.kids.length) c6] 165 (0,0)):=aV w6 _;have vo:(Value.slice fJ (A.pairs.length+B.pairs.length) c4).ownBlock≠some w6.heap.size:=av.lt' (aK mK.size di.size);have sF:(Value.slice jb (A.kids.length+B.kids.length) c6).ownBlock≠some w6.heap.size:=fo.lt' (aD _);obtain⟨_,_,_,_,zA,rX,_,rV⟩:=id ko;rw[oo] at zA;cases zA
  clear av fo hu0 zS hb3 hb4 mK di vO hk4 hk6 hd4 hd6 qb Q qo ql fB HC1 HC2;generalize (w6.alloc (.cells #[.slice fJ (A.pairs.length+B.pairs.length) c4,.slice none 0 0,.slice jb (A.kids.length+B.kids.length) c6] 165))=r at ko m oo rX rV ⊢;generalize w6.heap.size=nc at ko mr oo vo sF ⊢;clear K z;have yc:=HA2.out.below m;go_upto_if 91 with (first|(go_at_call 121;go_must ((refine(ku na A _ S yc).mono ?_);rintro e w8 ⟨rfl,hw⟩;subst w8)))
  go_cut [] from 13 to 196 (fun wx=>gN wx S nc (eX A B E)/\Below R.heap.size R wx)
  case first=>
   by_cases fA:A.kids=[]
   ·have hke:A.kids.isEmpty=true:=by rw[fA];rfl
    have HAk:=ah fA;clear fA;rw[hke];go_wp2_with fail;go_meet;refine⟨?_,m⟩;have:eX A B E=⟨A.pairs++B.pairs,[],A.kids++B.kids⟩:=(by unfold eX;rw[if_pos HAk.out]);rw[this];exact ko
   ·as_aux_lemma=>
     have hke:A.kids.isEmpty=false:=(by cases hq:A.kids with|nil=>exact absurd hq fA|cons a b=>rfl);have hJe:eX A B E=⟨A.pairs++B.pairs,A.keys++[E]++B.keys,A.kids++B.kids⟩:=(by unfold eX;rw[if_neg fA]);have HAk:=ah fA;clear fA;rw[hke];go_wp2_with fail;have hcN:=ko;have bC:=oo;obtain⟨_,zW,_,_,_,_,bH⟩:=cells3 bC;have hN7:=HN.out.below (pM.trans (m.mono pM.size));obtain⟨_,nv0,nv1,nv2,bN,_,hn1,_⟩:=hN7;obtain⟨_,n1,_,_,_,_,kr⟩:=cells3 bN;obtain⟨kao,kcp,rfl,km0,km1,_,_⟩:=aZ.form hn1;obtain⟨kb0,ko0,rfl,sP⟩:=aZ.EM hn1 rfl j (.string E) (by rw[eZ,HK.out];rfl);have lQ:=aF r _ sP;have hkj:(j:Int)<(c.keys.length:Int):=(by have:=nk.out;omega);have fB:Below r.heap.size r r.drew:=(aR _ r).drew;have N:∀g,S g->g<r.heap.size:=fun g q=>ax (H g q) m.size
     have lak:A.keys.length<=1000000:=(by have:=HA.out.fits.kk;omega);have lbk:B.keys.length<=1000000:=(by have:=HB.out.fits.kk;omega);have e1:=(m.cell (p:=⟨na,1,none⟩) l).trans e1;have f1:=(m.cell (p:=⟨D,1,none⟩) f).trans f1;have l:=ax l m.size;have f:=ax f m.size;have hC3:=uX a1 A.keys.length (A.keys.map .string) r.drew S N (aZ.below (aZ.below A1 m) fB) (pI _) lak;have HC3:=ah hC3;clear hC3;refine o9 (fun W=>Below r.heap.size r W) (fun i=> !([5,13,14,19,22].contains i)) [0,1,2,3,4,6,7,8,9,10,11,12,15,16,17,18] 5 13 [13,14,19,20,21,22] [5,14,19,20,21,22] rfl (by kernel_rfl) fB ?_
     repeat ((refine Gv (v:= ?_) rfl rfl (fun _ _ _ h=>h) rfl (fun W d=> ?_) ?_);rotate_left;(focus (try dsimp only at d);have q0:=(d.cell (p:=⟨na,1,none⟩) l).trans e1;have q1:=(d.cell (p:=⟨D,1,none⟩) f).trans f1;have q2:=ax l d.size;have q3:=ax f d.size;have q4:=(d.cell (p:=⟨C,1,none⟩) kr).trans n1;have q5:=ax kr d.size;have q6:=(d.cell (p:=⟨kb0,ko0+j,none⟩) lQ).trans sP;have q7:=ax lQ d.size;have q8:=(d.cell (p:=⟨nc,1,none⟩) bH).trans zW;have q9:=ax bH d.size;first|(go_simp;first|done|with_reducible rfl));(try simp only[Act.put,aj,au,ak]))
     refine zL (zY rfl rfl rfl rfl ?_ ?_)
     ·skip
      intro K z;go_simp;refine HC3.out.mono ?_;rintro e w9 ⟨u1,rfl,lJ,kT⟩;have F:Below r.heap.size r w9:=fB.trans kT;refine z.out _ _ F ?_
      (try simp only[Act.put,aj,au,ak])
      refine dI rfl rfl rfl ?_;intro K z;go_simp;have dn:=aN w9 (.cells #[.string E] 9);have s:Below r.heap.size r (w9.alloc (.cells #[.string E] 9)):=F.trans (dn.mono F.size);refine z.out _ _ s ?_
      (try simp only[Act.put,aj,au,ak])
      have V:=(lJ.below dn);have dx:Src Tryz.prog 1 142 (.slice (some ⟨w9.heap.size,0,none⟩) 1 1) 1 [.string E] (w9.alloc (.cells #[.string E] 9)):=gq (w:=w9) [.string E] 9 1 1 1 rfl bq rfl (by intro u hu;rw[bQ.1 hu];rfl);generalize w9.alloc (.cells #[.string E] 9)=p9 at s V dx ⊢;generalize w9.heap.size=kb9 at dx ⊢;refine dI rfl rfl rfl ?_;intro K z;refine ol (.tmp 97) (.tmp 105) 142 142 rfl S r.heap.size 9 1 16 _ bq ig rfl u1 A.keys.length (A.keys.map .string) rfl V (.slice (some ⟨kb9,0,none⟩) 1 1) 1 [.string E] rfl dx (fun g q=>ax (N g q) s.size) s.size (by unfold maxLen;omega) (by omega) ?_;intro rA c11 T P I o7 hd11;have n:Below r.heap.size r T:=s.trans o7;refine z.out _ _ n ?_
      (try simp only[Act.put,aj,au,ak])
      refine dI rfl rfl rfl ?_;intro K z;refine ol (.tmp 106) (.tmp 110) 142 142 rfl S r.heap.size 9 1 16 _ bq ig rfl (.slice rA (A.keys.length+1) c11) (A.keys.length+1) _ rfl P g1 B.keys.length (B.keys.map .string) rfl ((aZ.below (aZ.below B1 m) n).src bq (pI _)) (fun g q=>ax (N g q) n.size) n.size (by unfold maxLen;omega) (by omega) ?_;intro ao12 c12 xE O j6 nJ hd12;have o:Below r.heap.size r xE:=n.trans nJ;refine z.out _ _ o ?_
      (try simp only[Act.put,aj,au,ak])
      repeat (refine oq ?_ rfl rfl rfl ?_ ?_;rotate_left;(focus intro W d;(try dsimp only at d);have q0:=(d.cell (p:=⟨na,1,none⟩) l).trans e1;have q1:=(d.cell (p:=⟨D,1,none⟩) f).trans f1;have q2:=ax l d.size;have q3:=ax f d.size;have q4:=(d.cell (p:=⟨C,1,none⟩) kr).trans n1;have q5:=ax kr d.size;have q6:=(d.cell (p:=⟨kb0,ko0+j,none⟩) lQ).trans sP;have q7:=ax lQ d.size;have q8:=(d.cell (p:=⟨nc,1,none⟩) bH).trans zW;have q9:=ax bH d.size;first|(go_simp;first|done|with_reducible rfl));try simp only[Act.put,aj,au,ak])
      have J:=(o.block nc bH).trans bC;obtain⟨_,m1,_,_,mf,_,lm⟩:=cells3 J;refine jC rfl rfl rfl (by kernel_rfl) ?_;intro K z;go_simp;refine z.out _ _ ?_;refine bR ?_;go_wp2_with fail;go_meet;refine⟨?_,m.trans ((o.mono m.size).setCell mr _)⟩;rw[hJe];exact zM J (fun hs=>absurd (H _ hs) (bg.2 mr)) (aZ.below rX o) (aZ.below rV o) vo sF (by
       have:=O.dx
       rw[show A.keys.map Value.string++[Value.string E]++B.keys.map Value.string=(A.keys++[E]++B.keys).map Value.string from by simp] at this
       unfold jP
       rw[show (A.keys++[E]++B.keys).length=A.keys.length+1+B.keys.length from by rw[ay,ay,dN]]
       exact this) (O.ne J (by decide))
     ·skip
      intro K z;go_simp;have F:Below r.heap.size r (r.alloc (.cells #[.string E] 9)).drew:=(aN r (.cells #[.string E] 9)).drew;refine z.out _ _ F ?_
      (try simp only[Act.put,aj,au,ak])
      have oK:=(mX (w:=r) (S:=S) (B:=r.heap.size) (e:=9) (k:=1) [.string E] 1 1 rfl rfl (aD _) (by simp[maxLen]) (aD _) N).drew;generalize (r.alloc (.cells #[.string E] 9)).drew=w9 at F oK ⊢;have hC4:=uX a1 A.keys.length (A.keys.map .string) w9 S (fun g q=>ax (N g q) F.size) (aZ.below (aZ.below A1 m) F) (pI _) lak;have HC4:=ah hC4;clear hC4;refine dI rfl rfl rfl ?_;intro K z;go_simp;refine HC4.out.mono ?_;rintro e p9 ⟨u1,rfl,lJ,dn⟩;have s:Below r.heap.size r p9:=F.trans (dn.mono F.size);refine z.out _ _ s ?_
      (try simp only[Act.put,aj,au,ak])
      have V:=lJ.base (B:=r.heap.size) F.size;have dx:Src Tryz.prog 1 142 (.slice (some ⟨r.heap.size,0,none⟩) 1 1) 1 [.string E] p9:=(oK.below dn).dx.src bq (by intro u hu;rw[bQ.1 hu];rfl);refine dI rfl rfl rfl ?_;intro K z;refine ol (.tmp 97) (.tmp 105) 142 142 rfl S r.heap.size 9 1 16 _ bq ig rfl u1 A.keys.length (A.keys.map .string) rfl V (.slice (some ⟨r.heap.size,0,none⟩) 1 1) 1 [.string E] rfl dx (fun g q=>ax (N g q) s.size) s.size (by unfold maxLen;omega) (by omega) ?_;intro rA c11 T P I o7 hd11;have n:Below r.heap.size r T:=s.trans o7;refine z.out _ _ n ?_
      (try simp only[Act.put,aj,au,ak])
      refine dI rfl rfl rfl ?_;intro K z;refine ol (.tmp 106) (.tmp 110) 142 142 rfl S r.heap.size 9 1 16 _ bq ig rfl (.slice rA (A.keys.length+1) c11) (A.keys.length+1) _ rfl P g1 B.keys.length (B.keys.map .string) rfl ((aZ.below (aZ.below B1 m) n).src bq (pI _)) (fun g q=>ax (N g q) n.size) n.size (by unfold maxLen;omega) (by omega) ?_;intro ao12 c12 xE O j6 nJ hd12;have o:Below r.heap.size r xE:=n.trans nJ;refine z.out _ _ o ?_
      (try simp only[Act.put,aj,au,ak])
      repeat (refine oq ?_ rfl rfl rfl ?_ ?_;rotate_left;(focus intro W d;(try dsimp only at d);have q0:=(d.cell (p:=⟨na,1,none⟩) l).trans e1;have q1:=(d.cell (p:=⟨D,1,none⟩) f).trans f1;have q2:=ax l d.size;have q3:=ax f d.size;have q4:=(d.cell (p:=⟨C,1,none⟩) kr).trans n1;have q5:=ax kr d.size;have q6:=(d.cell (p:=⟨kb0,ko0+j,none⟩) lQ).trans sP;have q7:=ax lQ d.size;have q8:=(d.cell (p:=⟨nc,1,none⟩) bH).trans zW;have q9:=ax bH d.size;first|(go_simp;first|done|with_reducible rfl));try simp only[Act.put,aj,au,ak])
      have J:=(o.block nc bH).trans bC;obtain⟨_,m1,_,_,mf,_,lm⟩:=cells3 J;refine jC rfl rfl rfl (by kernel_rfl) ?_;intro K z;go_simp;refine z.out _ _ ?_;refine bR ?_;go_wp2_with fail;go_meet;refine⟨?_,m.trans ((o.mono m.size).setCell mr _)⟩;rw[hJe];exact zM J (fun hs=>absurd (H _ hs) (bg.2 mr)) (aZ.below rX o) (aZ.below rV o) vo sF (by
       have:=O.dx
       rw[show A.keys.map Value.string++[Value.string E]++B.keys.map Value.string=(A.keys++[E]++B.keys).map Value.string from by simp] at this
       unfold jP
       rw[show (A.keys++[E]++B.keys).length=A.keys.length+1+B.keys.length from by rw[ay,ay,dN]]
       exact this) (O.ne J (by decide))
  case rest=>
   as_aux_lemma=>
    obtain⟨wb,rfl⟩:=nx wc;obtain⟨lC,Z⟩:=hcut;obtain⟨aA,cA,rfl,_,_,_,_⟩:=aZ.form A2;obtain⟨aB,cB,rfl,_,_,_,_⟩:=aZ.form B2;have e2:=(Z.cell (p:=⟨na,2,none⟩) l).trans e2;have f2:=(Z.cell (p:=⟨D,2,none⟩) f).trans f2;have l:=ax l Z.size;have f:=ax f Z.size;have vz:=tY.size_le;go_upto_region 9 with fail
    go_cut [132] from 13 to 196 (fun x wx=>x= .bool (decide (512<(eX A B E).size/\A.kids.length≠1/\B.kids.length≠1))/\Below wb.heap.size wb wx)
    case first=>
     by_cases t1:512<(eX A B E).size
     ·have s1:(512:Int)<((eX A B E).size:Int):=by omega
      have T1:=ah t1;clear t1
      by_cases t2:A.kids.length=1
      ·have s2:(A.kids.length:Int)=1:=by omega
       have T2:=ah t2;clear t2;go_wp2_with (first|(go_at_call 178;go_must ((refine(pu nc _ _ S lC vz).mono ?_);rintro e w8 ⟨rfl,y⟩;have e3:=(y.cell (p:=⟨na,2,none⟩) l).trans e2;have f3:=(y.cell (p:=⟨D,2,none⟩) f).trans f2;have zn:=ax l y.size;have yK:=ax f y.size;clear e2 f2)))
       go_meet;exact⟨by rw[bM (fun h=>h.2.1 T2.out)],y⟩
      ·have s2:¬(A.kids.length:Int)=1:=by omega
       have s2':((A.kids.length:Int)==1)=false:=(by rw[fM];omega);have T2:=ah t2;clear t2
       by_cases t3:B.kids.length=1
       ·have s3:(B.kids.length:Int)=1:=by omega
        have T3:=ah t3;clear t3;go_wp2_with (first|(go_at_call 178;go_must ((refine(pu nc _ _ S lC vz).mono ?_);rintro e w8 ⟨rfl,y⟩;have e3:=(y.cell (p:=⟨na,2,none⟩) l).trans e2;have f3:=(y.cell (p:=⟨D,2,none⟩) f).trans f2;have zn:=ax l y.size;have yK:=ax f y.size;clear e2 f2)))
        go_meet;exact⟨by rw[bM (fun h=>h.2.2 T3.out)],y⟩
       ·have s3:¬(B.kids.length:Int)=1:=by omega
        have s3':((B.kids.length:Int)==1)=false:=(by rw[fM];omega);have T3:=ah t3;clear t3;go_wp2_with (first|(go_at_call 178;go_must ((refine(pu nc _ _ S lC vz).mono ?_);rintro e w8 ⟨rfl,y⟩;have e3:=(y.cell (p:=⟨na,2,none⟩) l).trans e2;have f3:=(y.cell (p:=⟨D,2,none⟩) f).trans f2;have zn:=ax l y.size;have yK:=ax f y.size;clear e2 f2)))
        go_meet;exact⟨by rw[d9 ⟨T1.out,T2.out,T3.out⟩];have q2:=T2.out;have q3:=T3.out;congr 1;rw[dG];constructor<;>rw[bne_iff_ne]<;>omega,y⟩
     ·have s1:¬(512:Int)<((eX A B E).size:Int):=by omega
      have T1:=ah t1;clear t1;go_wp2_with (first|(go_at_call 178;go_must ((refine(pu nc _ _ S lC vz).mono ?_);rintro e w8 ⟨rfl,y⟩;clear e2 f2)))
      go_meet;exact⟨by rw[bM (fun h=>T1.out h.1)],y⟩
    case rest=>
     obtain⟨rfl,l9⟩:=hcut;have lg:Below w.heap.size w wc:=(pM.trans (Z.mono pM.size)).trans (l9.mono (aK pM.size Z.size));have zb:=lC.below l9;have hIc:=HI.out.below lg;have hTc:=(HT.out).step jv (Step.of_below (S:=S) lg);have hNc:=HN.out.below lg;have j5:=tQ.out.step (Step.of_below (S:=S) lg) jv nH oH;clear Z l9 lC e2 f2 l f m rX rV ko oo vo sF yc l5 hb2 HI1 HI2 hsj2 e0 e1 f0 f1 A0 A1 B0 B1
     by_cases qc:512<(eX A B E).size/\A.kids.length≠1/\B.kids.length≠1
     ·have ho:decide (512<(eX A B E).size/\A.kids.length≠1/\B.kids.length≠1)=true:=d9 qc
      rw[ho];have HO:=ah qc;clear qc ho;go_wp2_with fail;refine jE (Ca rfl _ _ _) rfl ?_;exact .inl ⟨rfl,σ,S,c,hIc,hNc,Keep.of_below lg _,fun g q=> .inl q,.inl ⟨HO.out.1,HO.out.2.1,HO.out.2.2,rfl,rfl⟩⟩
     ·have ho:decide (512<(eX A B E).size/\A.kids.length≠1/\B.kids.length≠1)=false:=bM qc
      rw[ho];have HNO:=ah qc;clear qc ho;have hf1:=tZ mp σ S wc.drew b1 (hIc.below ((aR _ wc).drew)) HA.out.lo HA.out.has;have HF1:=ah hf1;clear hf1;have hm:∀w,(method 454 97 mp.agg "Free").run Tryz.prog w= .ok (258,.pointer (some ⟨mp.mp,0,none⟩)) w:=fun _=>by kernel_rfl
      obtain⟨q0,q1,q2,q3,q4,q5,q6⟩:=j5.cells;clear q0 q1 q2 q3 q4 q5 q6;have hj5:(j:Int)<(c.kids.length:Int):=(by omega);have hj6:(j:Int)+1<(c.kids.length:Int):=(by omega);go_wp2_with fail;refine aP (fun W=>SJ t mp C pb po j c.kids.length cp2 X iO b1 b2 v0 v1 W) (fun i=> !([13,14].contains i)) [0,1,2,3,4,5,6,7,8,9,10,11,12,13,14] rfl (by kernel_rfl) j5 ?_
      repeat (refine oq ?_ rfl rfl rfl ?_ ?_;rotate_left;(focus intro W d;(try dsimp only at d);obtain⟨q0,q1,q2,q3,q4,q5,q6⟩:=d.cells;first|(go_simp;first|done|with_reducible rfl));try simp only[Act.put,aj,au,ak])
      refine dI rfl rfl rfl ?_;intro K z;go_simp;refine HF1.out.mono ?_;rintro e w3 ⟨rfl,hI3,l6⟩;have l6:Step S S wc w3:=(Step.of_below ((aR _ wc).drew)).trans l6;have dZ:=j5.step l6 jv nH oH;refine z.out _ _ dZ ?_
      (try simp only[Act.put,aj,au,ak])
      refine dI rfl rfl rfl ?_;intro K z;go_simp;refine(pJ _).mono ?_;rintro e w4 ⟨rfl,hw⟩;subst w4;refine z.out _ _ dZ ?_;refine bR ?_;have hf2:=tZ mp (σ.gone b1) S w3.drew b2 (hI3.below ((aR _ w3).drew)) HB.out.lo HB2.out;have HF2:=ah hf2;clear hf2;have hpw:IntKind.i64.wrap ((j:Int)+1)=(j:Int)+1:=aG _ (by omega);have hpt:((j:Int)+1).toNat=j+1:=(by omega);have hp0:(0:Int)<=(j:Int)+1:=(by omega);go_wp2_with fail;refine aP (fun W=>SJ t mp C pb po j c.kids.length cp2 X iO b1 b2 v0 v1 W) (fun i=> !([14,15].contains i)) [0,1,2,3,4,5,6,7,8,9,10,11,12,13,14,15] rfl (by kernel_rfl) dZ ?_
      repeat (refine oq ?_ rfl rfl rfl ?_ ?_;rotate_left;(focus intro W d;(try dsimp only at d);obtain⟨q0,q1,q2,q3,q4,q5,q6⟩:=d.cells;first|(go_simp;first|done|with_reducible rfl));try simp only[Act.put,aj,au,ak])
      refine dI rfl rfl rfl ?_;intro K z;go_simp;refine HF2.out.mono ?_;rintro e w4 ⟨rfl,hI4,nS⟩;have nS:Step S S w3 w4:=(Step.of_below ((aR _ w3).drew)).trans nS;have oO:=dZ.step nS jv nH oH;refine z.out _ _ oO ?_
      (try simp only[Act.put,aj,au,ak])
      refine dI rfl rfl rfl ?_;intro K z;go_simp;refine(pJ _).mono ?_;rintro e w5 ⟨rfl,hw⟩;subst w5;refine z.out _ _ oO ?_;refine bR ?_;clear hpw hpt hp0;have j4:Step S S wc w4:=l6.trans nS;have hT4:=hTc.1.step hTc.2 j4;have hJ4:=zb.step j4;have hN4:=hNc.step j4;have zm:Step S S w w4:=(Step.of_below lg).trans j4;clear j5 dZ oO hIc hTc hNc hI3 l6 nS zb;go_wp2_with (first|(go_at_call 150;go_must ((refine(rE t mp X iO _ ((σ.gone b1).gone b2) S nc (eX A B E) ⟨#[]⟩ w4 hI4 hT4.1 hT4.2 hJ4 tY (iL _)).mono ?_);rintro e w5 (⟨v,ps,zs,σ',S',rfl,V,rG,jl,hI5,hs5⟩|⟨hno,rfl,τ,Sτ,g1,g2,g3,g4⟩)<;>refine sO ?_)))
      rotate_left
      ·refine sN ?_
       exact⟨rfl,.inr ⟨hno,rfl,τ,Sτ,g1,zm.trans g2,g3,g4⟩⟩
      refine sN ?_;have rJ:Step S S' w w5:=zm.trans hs5;obtain⟨mo,n0,n1,n2,bN,N0,N1,N2⟩:=HN.out.step rJ;obtain⟨vk,vv,rfl,_,_,_,_⟩:=aZ.form N0;obtain⟨nA,o5,rfl,_,_,_,_⟩:=aZ.form N1;obtain⟨z8,yx,rfl,_,_,_,_⟩:=aZ.form N2;have rF:0<c.keys.length:=(by have:=nk.out;omega);have hkl:c.keys.length<=1000000:=(by have:=nk.out;omega);have hjk:j<c.keys.length:=(by have:=nk.out;omega);have hne1:=SV bN N1 rF;obtain⟨_,_,y2,_,_,_,ly⟩:=cells3 bN;have hC5:=uY (.slice z8 c.kids.length yx) c.kids.length (c.kids.map (.int .i64)) w5 S' hI5.sub N2 (rH _) (by omega);have HC5:=ah hC5;clear hC5;have hpw:IntKind.i64.wrap ((j:Int)+1)=(j:Int)+1:=aG _ (by omega);have hpw2:IntKind.i64.wrap ((j:Int)+2)=(j:Int)+2:=aG _ (by omega);go_wp2_with (first|(go_at_call 184;go_must (refine HC5.out.mono ?_;rintro e w6 ⟨u1,rfl,lJ,di⟩;refine sO ?_)))
      refine sN ?_;obtain⟨g6,c6',rfl,_,_,zX,_⟩:=lJ.yx (by omega);have hD6:=L6 g6 c6' c.kids.length (j+1) (c.kids.map (.int .i64)) w6 S' w5.heap.size lJ (rH _) (by omega) (by omega);rw[show ((j+1:Nat):Int)=(j:Int)+1 from by omega,show (j:Int)+1+1=(j:Int)+2 from by omega] at hD6;have HD6:=ah hD6;clear hD6;go_wp2_with (first|(go_at_call 187;go_must (refine HD6.out.mono ?_;rintro e r ⟨c7,rfl,hu7,hk7⟩;refine sO ?_)))
      refine sN ?_;have hgb:C≠g6:=fun e=>by rw[<-e] at zX;exact absurd ly (bg.2 zX)
      have ly6:=ax ly di.size;have bN7:r.heap[C]? =some (.cells #[.slice vk c.pairs.length vv,.slice nA c.keys.length o5,.slice z8 c.kids.length yx] 165 (0,0)):=(hk7.block C ly6 hgb).trans ((di.block C ly).trans bN);have Y:Below w5.heap.size w5 r:=di.trans (hk7.jF di.size (fun i hi e=>absurd zX (gG.2 (by rw[<-e];exact hi))));obtain⟨_,_,z2,_,_,zf,lz⟩:=cells3 bN7;clear y2;go_upto_region 14 with fail
      have dR:Keep (· =C) r (r.setCell ⟨C,2,none⟩ (.slice (some ⟨g6,0,none⟩) (c.kids.length - 1) c7)):=Keep.setCell (M:=(· =C)) (p:=⟨C,2,none⟩) (Keep.refl _ _) (.inr rfl) _;have bN8:(r.setCell ⟨C,2,none⟩ (.slice (some ⟨g6,0,none⟩) (c.kids.length - 1) c7)).heap[C]? =some (.cells #[.slice vk c.pairs.length vv,.slice nA c.keys.length o5,.slice (some ⟨g6,0,none⟩) (c.kids.length - 1) c7] 165 (0,0)):=by
       simp[World.setCell,aQ,bN7]
      clear z2 zf lz;generalize r.setCell ⟨C,2,none⟩ (.slice (some ⟨g6,0,none⟩) (c.kids.length - 1) c7)=w8 at dR bN8 ⊢;have N18:jP w8 S' (.slice nA c.keys.length o5) c.keys:=aZ.keep (aZ.below N1 Y) fun g q hl hs=>⟨dR.block g hl (fun e=>hne1 (by rw[q,e])),hs⟩
      have hu8:=hu7.keep (w':=w8) (S':=S') fun g q hl hs=>⟨dR.block g hl (fun e=>hu7.ne bN7 (by decide) (by rw[q,e])),hs⟩
      have hbw8:∀g,g<w5.heap.size->g≠C->w8.heap[g]? =w5.heap[g]? :=fun g q hn=>(dR.block g (ax q Y.size) hn).trans (Y.block g q)
      have jO:w5.heap.size<=w8.heap.size:=aK Y.size dR.size;have hsub8:∀g,S' g->g<w8.heap.size:=fun g q=>ax (hI5.sub g q) jO
      obtain⟨_,y1,_,_,_,_,ly8⟩:=cells3 bN8;have hC8:=uX (.slice nA c.keys.length o5) c.keys.length (c.keys.map .string) w8 S' hsub8 N18 (pI _) hkl;have HC8:=ah hC8;clear hC8;go_wp2_with (first|(go_at_call 186;go_must (refine HC8.out.mono ?_;rintro e w9 ⟨u2,rfl,hu9,kT⟩;refine sO ?_)))
      refine sN ?_;obtain⟨g9,c9,rfl,_,_,hg9,_⟩:=hu9.yx rF;have hD9:=LZ g9 c9 c.keys.length j (c.keys.map .string) w9 S' w8.heap.size hu9 (pI _) hjk hkl;have HD9:=ah hD9;clear hD9;go_wp2_with (first|(go_at_call 188;go_must (refine HD9.out.mono ?_;rintro e p9 ⟨rP,rfl,zP,xP⟩;refine sO ?_)))
      refine sN ?_;have hgb9:C≠g9:=fun e=>by rw[<-e] at hg9;exact absurd ly8 (bg.2 hg9)
      have jF:p9.heap[C]? =some (.cells #[.slice vk c.pairs.length vv,.slice nA c.keys.length o5,.slice (some ⟨g6,0,none⟩) (c.kids.length - 1) c7] 165 (0,0)):=(xP.block C (ax ly8 kT.size) hgb9).trans ((kT.block C ly8).trans bN8);have G:Below w8.heap.size w8 p9:=kT.trans (xP.jF kT.size (fun i hi e=>absurd hg9 (gG.2 (by rw[<-e];exact hi))));obtain⟨_,z1,_,_,zf,_,lz⟩:=cells3 jF;clear y1;go_upto_region 15 with fail
      have I:Keep (· =C) p9 (p9.setCell ⟨C,1,none⟩ (.slice (some ⟨g9,0,none⟩) (c.keys.length - 1) rP)):=Keep.setCell (M:=(· =C)) (p:=⟨C,1,none⟩) (Keep.refl _ _) (.inr rfl) _;have za:(p9.setCell ⟨C,1,none⟩ (.slice (some ⟨g9,0,none⟩) (c.keys.length - 1) rP)).heap[C]? =some (.cells #[.slice vk c.pairs.length vv,.slice (some ⟨g9,0,none⟩) (c.keys.length - 1) rP,.slice (some ⟨g6,0,none⟩) (c.kids.length - 1) c7] 165 (0,0)):=by
       simp[World.setCell,aQ,jF]
      clear z1 zf lz;generalize p9.setCell ⟨C,1,none⟩ (.slice (some ⟨g9,0,none⟩) (c.keys.length - 1) rP)=T at I za ⊢;have hu11:=zP.keep (w':=T) (S':=S') fun g q hl hs=>⟨I.block g hl (fun e=>zP.ne jF (by decide) (by rw[q,e])),hs⟩
      have hu811:=(hu8.below G).keep (w':=T) (S':=S') fun g q hl hs=>⟨I.block g hl (fun e=>(hu8.below G).ne jF (by decide) (by rw[q,e])),hs⟩
      have o6:w5.heap.size<=T.heap.size:=aK jO (aK G.size I.size);have hbw11:∀g,g<w5.heap.size->g≠C->T.heap[g]? =w5.heap[g]? :=fun g q hn=>(I.block g (ax q (aK jO G.size)) hn).trans ((G.block g (ax q jO)).trans (hbw8 g q hn))
      have fK:Keep (· =C) w5 T:=⟨I.os.trans (G.os.trans (dR.os.trans Y.os)),I.tape.trans (G.tape.trans (dR.tape.trans Y.tape)),I.output.trans (G.output.trans (dR.output.trans Y.output)),o6,fun g q hn=>hbw11 g q hn⟩;have af:(c.lC j).kids.length=c.kids.length - 1:=(by simp[Nd.lC];omega);have kg:(c.lC j).keys.length=c.keys.length - 1:=(by simp[Nd.lC];omega);have hN11:gN T S' C (c.lC j):=by
       refine⟨mo,_,_,_,za,?_,?_,?_⟩
       ·have e:(c.lC j).pairs=[]:=HP.out
        rw[e];have N0':=N0;unfold jo at N0' ⊢;rw[HP.out] at N0' ⊢;exact aZ.empty N0' o6
       ·have:=hu11.dx
        unfold jP;rw[kg];have e:(c.lC j).keys.map Value.string=(c.keys.map Value.string).take (j*1)++(c.keys.map Value.string).drop ((j+1)*1):=(by simp[Nd.lC,gI,fT]);rw[e];exact this
       ·have:=hu811.dx
        unfold jV;rw[af];have e:(c.lC j).kids.map (Value.int .i64)=(c.kids.map (Value.int .i64)).take ((j+1)*1)++(c.kids.map (Value.int .i64)).drop ((j+1+1)*1):=(by simp[Nd.lC,gI,fT]);rw[e];exact this
      have P:=V.keep (w':=T) (S':=S') fun g q hl hs=>⟨fK.block g hl (fun e=>V.ne bN (by decide) (by rw[q,e])),hs⟩
      have xK:=hI5.lQ fK (fun g q e=>mo (by rw[<-e];exact q));have hpl:ps.length<=100000:=by
       have e1:=jl.length.1;have e2:=rG.room tY;have e3:=room_le tY;omega
      have hR:=Br C (c.lC j) v ps j T S' xK.sub hN11 HP.out P.dx (by rw[af];omega) (by rw[af,kg,nk.out]) (by rw[af];omega) hpl;have HRp:=ah hR;clear hR;have HSP:=ah rG;clear rG;have HPU:=ah jl;clear jl;go_wp2_with (first|(go_at_call 153;go_must (refine HRp.out.mono ?_;rintro e xE ⟨rfl,hN12,j6⟩)))
      go_end0;refine .inl ⟨rfl,σ',S',_,xK.lQ j6 (fun g q e=>mo (by rw[<-e];exact q)),hN12,?_,rJ.2,.inr ⟨ps,zs,HSP.out,HPU.out,rfl,HNO.out⟩⟩;exact((rJ.1.mono (fun _ _ h=> .inl h)).trans fK (fun _ _ h=> .inr h)).trans j6 (fun _ _ h=> .inr h)
