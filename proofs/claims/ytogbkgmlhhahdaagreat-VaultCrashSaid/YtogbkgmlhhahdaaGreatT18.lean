--
import Derived.Test.YtogbkgmlhhahdaaGreatT13
set_option maxRecDepth 100000
set_option maxHeartbeats 0
set_option linter.all false
namespace Go.Proofs.YtogbkgmlhhahdaaGreat
open Go.RowKit
variable{S:Nat->Prop}{w:World}
structure Base where
 dk:Dk
 lg:Lg
 pg:Pg
 old:Nat->Bool
structure cK where
 H:Base
 most:Nat
 im:Im
 now:Nat->Bool
 tk:Nat
structure VS where
 tx:Nat
 pg:Nat
 d:Nat
 mp:Nat
def VS.agg (mp:VS):Value:= .agg #[.pointer (some ⟨mp.tx,0,none⟩),.pointer (some ⟨mp.mp,0,none⟩)]
def cK.hasB (σ:cK)(b:Int):Bool:=decide (0<=b) && (decide (b.toNat<σ.most) && σ.now b.toNat)
def cK.held (σ:cK)(b:Int):Bool:=decide (0<=b) && σ.H.old b.toNat
def cK.mem (σ:cK)(b:Int):List UInt8:=σ.H.pg.look σ.im σ.H.dk b.toNat
def cK.sz (σ:cK):Nat:=countB (fun x=>σ.now x||σ.H.old x) σ.most
def cK.gone (σ:cK)(b:Int):cK:={σ with now:=iB σ.now b.toNat false}
def cK.took (σ:cK)(b:Nat):cK:={σ with now:=iB σ.now b true,tk:=max σ.tk (countB (fun x=>iB σ.now b true x||σ.H.old x) σ.most)}
def cK.wrote (σ:cK)(b:Nat)(l:List UInt8):cK:={σ with im:=σ.im.put b l}
def cK.rk (σ:cK)(b:Nat):Nat:=countB (fun x=>decide (x<=b)||σ.H.old x) σ.most
structure cK.Ok (σ:cK):Prop where
 live:σ.H.pg.dead=false
 dlive:σ.H.dk.dead=false
 most:σ.most=σ.H.pg.blocks σ.H.dk
 two:2<=σ.most
 cap:σ.most<=4096
 nhi:∀b,σ.most<=b->σ.now b=false
 ohi:∀b,σ.most<=b->σ.H.old b=false
 n0:σ.now 0=true
 n1:σ.now 1=true
 rks:∀b∈σ.im.ks,b<2\/(σ.H.old b=false/\b<σ.most/\σ.rk b<=σ.tk)
 own:∀b,b<σ.most->σ.now b=true->σ.H.old b=false->σ.rk b<=σ.tk
 szk:σ.sz<=σ.tk
 len:∀b,b<σ.most->(σ.H.pg.look σ.im σ.H.dk b).length=512
structure Inv' (σ:cK)(Sp T:Nat->Prop)(mp:VS)(w:World):Prop where
 ok:σ.Ok
 pg:ji w Sp mp.pg mp.d σ.H.dk σ.H.lg σ.H.pg (.pointer (some ⟨mp.tx,0,none⟩))
 tx:sG w T mp.tx mp.pg σ.im σ.most
 map:qJ w mp.mp σ.most σ.now σ.H.old
 dis:∀g,Sp g->¬T g
 mpS:¬Sp mp.mp
 mpT:¬T mp.mp
def Inv (σ:cK)(S:Nat->Prop)(mp:VS)(w:World):Prop:=∃Sp T,Inv' σ Sp T mp w/\∀g,S g↔Sp g\/T g\/g=mp.mp
def Inv.ok {a:cK}{b:VS}(h:Inv a S b w):a.Ok:=by obtain⟨_,_,h,_⟩:=h;exact h.ok
def Inv.cap {a:cK}{b:VS}(h:Inv a S b w):a.most<=4096:=h.ok.cap
def Inv.sub {d:cK}{c:VS}(h:Inv d S c w):∀g,S g->g<w.heap.size:=by
 obtain⟨e,T,h,b⟩:=h;intro g a;rcases (b g).1 a with a|a|rfl
 ·exact h.pg.sub g a
 ·exact h.tx.sub g a
 ·exact h.map.lt
def Inv.lQ {i:cK}{M:Nat->Prop}{f:VS}{e:World}(h:Inv i S f w)(b:Keep M w e)(c:∀g,S g->¬M g):Inv i S f e:=by
 obtain⟨j,T,h,a⟩:=h;exact⟨j,T,⟨h.ok,h.pg.keep b (fun g d=>c g ((a g).2 (.inl d))),h.tx.keep b (fun g d=>c g ((a g).2 (.inr (.inl d)))),h.map.keep (b.block _ h.map.lt (c _ ((a _).2 (.inr (.inr rfl))))),h.dis,h.mpS,h.mpT⟩,a⟩
def Inv.below {b:cK}{a:VS}{w':World}(h:Inv b S a w)(c:Below w.heap.size w w'):Inv b S a w':=h.lQ (Keep.of_below c gB) (fun _ _ e=>e)
def aZ.avoid {k n:Nat}{v:Value}{e:List Value}(h:aZ w gB k v n e)(p:∀g,v.ownBlock=some g->¬S g):aZ w S k v n e:=by
 obtain⟨i,c,rfl,l,f,m,j,b,o⟩:=h;exact⟨i,c,rfl,l,f,m,j,fun d a=>⟨(b d a).1,(b d a).2.1,p _ (by subst a;rfl)⟩,o⟩
def aZ.loose {k n:Nat}{v:Value}{b:List Value}(h:aZ w S k v n b):aZ w gB k v n b:=by
 obtain⟨g,c,rfl,l,i,m,j,d,f⟩:=h;exact⟨g,c,rfl,l,i,m,j,fun e a=>⟨(d e a).1,(d e a).2.1,id⟩,f⟩
def cK.kT {a:cK}{b:Int}(h:a.hasB b=true):∃n:Nat,b=n/\n<a.most/\a.now n=true:=by
 unfold cK.hasB at h;simp only[dG,eB] at h;exact⟨b.toNat,by omega,h.2.1,h.2.2⟩
def Df (f:VS)(a:cK)(S:Nat->Prop)(w:World)(b:Int)(h:Inv a S f w)(p:a.hasB b=true):
  Calls Tryz.prog 57 #[.pointer (some ⟨f.tx,0,none⟩),.int .i64 b] w fun e i=>∃v,e= .returned (.tuple #[v,.int .i64 0])/\aZ i S 1 v 512 (aI (a.mem b))/\(∀g,v.ownBlock=some g->w.heap.size<=g)/\Below w.heap.size w i:=by
 have d:=h.sub;obtain⟨n,rfl,t,k⟩:=cK.kT p;obtain⟨l,T,h,x⟩:=h;have s:=h.ok.most;have c:=h.tx;rw[s] at c;refine(tread f.tx f.pg f.d a.H.dk a.H.lg a.H.pg _ a.im l T n w h.pg c h.ok.live h.ok.dlive (by omega)).mono ?_;rintro e i ⟨v,rfl,o,j,q⟩;exact⟨v,rfl,aZ.avoid o (fun g m r=>absurd (j g m) (gG.2 (d g r))),j,q⟩
def jW {f g:Nat->Bool}:∀n,(∀x,x<n->f x=g x)->countB f n=countB g n
 |0,_=>rfl
 |n+1,h=>by rw[fP,fP,jW n (fun x a=>h x (Eo a)),h n (iL n)]
def A7 {f:Nat->Bool}{b:Nat}(a:f b=false):∀n,b<n->countB (iB f b true) n=countB f n+1
 |0,h=>absurd h (tN _)
 |n+1,h=>by
  rw[fP,fP]
  by_cases c:b=n
  ·subst c
   rw[jW (f:=iB f b true) (g:=f) b (fun x d=>by unfold iB;rw[if_neg (by omega)]),a]
   simp[iB]
  ·rw[A7 a n (by omega)]
   have:iB f b true n=f n:=by unfold iB;rw[if_neg (fun e=>c e.symm)]
   rw[this];omega
def DZ {f:Nat->Bool}{b:Nat}(a:f b=true):∀n,b<n->countB (iB f b false) n+1=countB f n
 |0,h=>absurd h (tN _)
 |n+1,h=>by
  rw[fP,fP]
  by_cases c:b=n
  ·subst c
   rw[jW (f:=iB f b false) (g:=f) b (fun x d=>by unfold iB;rw[if_neg (by omega)]),a]
   simp[iB]
  ·have:=DZ a n (by omega)
   have e:iB f b false n=f n:=by unfold iB;rw[if_neg (fun e=>c e.symm)]
   rw[e];omega
def JQ {f:Nat->Bool}{n:Nat}(h:∀x,x<n->f x=true):countB f n=n:=by
 induction n with
 |zero=>rfl
 |succ n ih=>rw[fP,ih (fun x a=>h x (Eo a)),h n (iL n)];rfl
def oP {f g:Nat->Bool}:∀n,(∀x,x<n->f x=true->g x=true)->countB f n<=countB g n
 |0,_=>aD _
 |n+1,h=>by
  rw[fP,fP]
  have:=oP n (fun x c=>h x (Eo c))
  have b:=h n (iL n)
  cases a:f n with
  |false=>simp;omega
  |true=>rw[b a];simp;omega
def cK.Ok.gone {c:cK}(h:c.Ok)(b:Nat)(e:2<=b):(c.gone b).Ok:=
 ⟨h.live,h.dlive,h.most,h.two,h.cap,fun x a=>by
  show iB c.now _ false x=false
  unfold iB;split
  ·rfl
  ·exact h.nhi x a,h.ohi,by
  show iB c.now _ false 0=true
  unfold iB;rw[if_neg (by omega)];exact h.n0,by
  show iB c.now _ false 1=true
  unfold iB;rw[if_neg (by omega)];exact h.n1,h.rks,fun x a d=>by
  have d:iB c.now (b:Int).toNat false x=true:=d
  unfold iB at d
  split at d
  ·cases d
  ·exact h.own x a d,aK (oP _ fun x _ a=>by
  have a:(iB c.now (b:Int).toNat false x||c.H.old x)=true:=a
  unfold iB at a
  split at a
  ·rw[Bool.false_or] at a;rw[a,Bool.or_true]
  ·exact a) h.szk,h.len⟩
def cK.Ok.took {a:cK}(h:a.Ok)(b:Nat)(j:b<a.most)(f:∀x,x<b->(a.now x||a.H.old x)=true):(a.took b).Ok:=
 ⟨h.live,h.dlive,h.most,h.two,h.cap,fun x d=>by
  show iB a.now _ true x=false
  unfold iB;rw[if_neg (by have:a.most<=x:=d;omega)];exact h.nhi x d,h.ohi,by
  show iB a.now _ true 0=true
  unfold iB;split
  ·rfl
  ·exact h.n0,by
  show iB a.now _ true 1=true
  unfold iB;split
  ·rfl
  ·exact h.n1,fun x d=>(h.rks x d).imp id (fun y=>⟨y.1,y.2.1,aK y.2.2 (Kq _ _)⟩),fun x d g i=>by
  have g:iB a.now b true x=true:=g
  unfold iB at g
  split at g
  ·rename_i e
   subst e
   refine aK (oP _ fun y _ c=> ?_) (Nat.le_max_right _ _)
   rw[tO,eB] at c
   unfold iB
   split
   ·rfl
   ·rcases c with c|c
    ·exact f y (by omega)
    ·have c:a.H.old y=true:=c
     rw[c,Bool.or_true]
  ·exact aK (h.own x d g i) (Kq _ _),Nat.le_max_right _ _,h.len⟩
def qA (p:Pg)(a:Im)(d:Dk)(b x:Nat)(l:List UInt8):p.look (a.put b l) d x=if x=b then l else p.look a d x:=by
 unfold Pg.look;rw[Im.DT]
 split<;>rfl
def TI (b x:Nat)(a:List Nat)(h:x∈AR b a):x=b\/x∈a:=mJ.1 h
def cK.Ok.wrote {a:cK}(h:a.Ok)(b:Nat)(l:List UInt8)(f:l.length=512)(d:b<a.most)(e:b<2\/(a.now b=true/\a.H.old b=false)):(a.wrote b l).Ok:=
 ⟨h.live,h.dlive,h.most,h.two,h.cap,h.nhi,h.ohi,h.n0,h.n1,fun x c=>by
  rcases TI b x _ c with rfl|c
  ·exact e.imp id (fun y=>⟨y.2,d,h.own x d y.1 y.2⟩)
  ·exact h.rks x c,h.own,h.szk,fun x c=>by
  show (a.H.pg.look (a.im.put b l) a.H.dk x).length=512
  rw[qA]
  split
  ·exact f
  ·exact h.len x c⟩
def tZ (f:VS)(a:cK)(S:Nat->Prop)(w:World)(b:Int)(h:Inv a S f w)(q:2<=b)(m:a.hasB b=true):
  Calls Tryz.prog 258 #[.pointer (some ⟨f.mp,0,none⟩),.int .i64 b] w fun e i=>e= .returned (.int .i64 0)/\Inv (a.gone b) S f i/\Step S S w i:=by
 obtain⟨n,rfl,o,d⟩:=cK.kT m;obtain⟨l,T,h,k⟩:=h;refine(Wi f.mp a.most a.now a.H.old n w h.map h.ok.cap (by omega) o d).mono ?_;rintro e i ⟨rfl,p,j⟩;refine⟨rfl,⟨l,T,⟨h.ok.gone n (by omega),h.pg.keep j (fun g c e=>h.mpS (e▸c)),h.tx.keep j (fun g c e=>h.mpT (e▸c)),p,h.dis,h.mpS,h.mpT⟩,k⟩,j.mono (fun g _ e=>(k g).2 (.inr (.inr e))),fun g c=> .inl c⟩
def MO (k:VS)(a:cK)(S:Nat->Prop)(w:World)(h:Inv a S k w):
  Calls Tryz.prog 259 #[.pointer (some ⟨k.mp,0,none⟩)] w fun e c=>
   (∃f:Nat,e= .returned (.tuple #[.int .i64 f,.int .i64 0])/\2<=f/\f<a.most/\a.hasB f=false/\a.held f=false/\(∀x,x<f->(a.now x||a.H.old x)=true)/\Inv (a.took f) S k c/\Step S S w c)\/
   (e= .returned (.tuple #[.int .i64 0,.int .i64 12])/\a.sz=a.most/\Inv a S k c/\Step S S w c):=by
 have t:=h;obtain⟨q,T,h,p⟩:=h;refine(Wd k.mp a.most a.now a.H.old w h.map h.ok.cap).mono ?_;rintro e c (⟨b,l,r,o,rfl,v,m⟩|⟨l,rfl,d⟩)
 ·obtain⟨j,s⟩:=Bool.or_eq_false_iff.1 r
  have n:2<=b:=by
   rcases gH b 2 with d|d
   ·rcases (by omega:b=0\/b=1) with rfl|rfl
    ·rw[h.ok.n0] at j;cases j
    ·rw[h.ok.n1] at j;cases j
   ·exact d
  refine .inl ⟨b,rfl,n,l,?_,?_,o,⟨q,T,⟨h.ok.took b l o,h.pg.keep m (fun g i e=>h.mpS (e▸i)),h.tx.keep m (fun g i e=>h.mpT (e▸i)),v,h.dis,h.mpS,h.mpT⟩,p⟩,m.mono (fun g _ e=>(p g).2 (.inr (.inr e))),fun g i=> .inl i⟩
  ·unfold cK.hasB
   rw[fE,j];simp
  ·unfold cK.held
   rw[fE,s];simp
 ·exact .inr ⟨rfl,JQ l,t.below d,Step.of_below d⟩
def xD (c:VS)(a:cK)(S:Nat->Prop)(w:World)(b:Nat)(v:Value)(l:List UInt8)(h:Inv a S c w)(q:b<a.most)(s:gF w gB v l)(n:l.length<=512)(r:b<2\/(a.now b=true/\a.H.old b=false)):
  Calls Tryz.prog 66 #[.pointer (some ⟨c.tx,0,none⟩),.int .i64 b,v] w fun e f=>e= .returned (.int .i64 0)/\Inv (a.wrote b (pad l)) S c f/\Step S S w f:=by
 obtain⟨k,T,h,p⟩:=h;have o:=h.ok.most;have d:=h.tx;rw[o] at d;refine(KH c.tx c.pg c.d a.H.dk a.H.lg a.H.pg _ a.im k T b v l w h.pg d h.ok.live (by omega) s n).mono ?_;rintro e f ⟨rfl,m,j⟩;rw[<-o] at m;refine⟨rfl,⟨k,T,⟨h.ok.wrote b (pad l) (pX n) q r,h.pg.keep j.1 (fun g i e=>h.dis g i e),m,h.map.keep (j.1.block _ h.map.lt h.mpT),h.dis,h.mpS,h.mpT⟩,p⟩,j.1.mono (fun g _ e=>(p g).2 (.inr (.inl e))),fun g i=> .inl i⟩
def cK.QM {a:cK}{b:Nat}(h:a.hasB b=true)(c:a.held b=false):b<2\/(a.now b=true/\a.H.old b=false):=by
 obtain⟨n,e,_,d⟩:=cK.kT h;obtain rfl:b=n:=by omega
 unfold cK.held at c;exact .inr ⟨d,by simpa using c⟩
def CX {f:Nat->Bool}:∀(n:Nat) (l:List Nat),l.Pairwise (· < ·)->(∀x∈l,x<n/\f x=true)->l.length<=countB f n:=by
 intro n
 induction n with
 |zero=>
  intro l _ h;cases l with
  |nil=>exact aS _
  |cons a l=>exact absurd (h a (bf ..)).1 (tN _)
 |succ n ih=>
  intro l c h;rw[fP];rcases xA l with rfl|⟨l,a,rfl⟩
  ·exact aS _
  ·rw[xB] at c h ⊢
   obtain⟨j,_,i⟩:=yI.1 c;have d:=h a (bY _ (bQ.2 rfl));have g:∀x∈l,x<n/\f x=true:=fun x b=>⟨by have:=i x b a (bQ.2 rfl);omega,(h x (dh _ b)).2⟩
   rw[ay,dN]
   by_cases e:a=n
   ·have:=ih l j g
    rw[<-e,d.2,e];exact Nat.succ_le_succ this
   ·have:=ih (l++[a]) c (fun x b=>by
     rcases bU.1 b with b|b
     ·exact g x b
     ·rw[bQ.1 b];exact⟨by omega,d.2⟩)
    rw[ay,dN] at this;omega
def D6 {f g:Nat->Bool}(a:∀x,f x=true->g x=false):∀n,countB f n+countB g n=countB (fun x=>f x||g x) n
 |0=>rfl
 |n+1=>by
  rw[fP,fP,fP,<-D6 a n]
  have:=a n
  cases b:f n<;>cases c:g n<;>simp[b,c] at this ⊢<;>omega
def Ac (f g:Nat->Bool):∀n,countB (fun x=>f x||g x) n<=countB f n+countB g n
 |0=>aD _
 |n+1=>by
  rw[fP,fP,fP]
  have:=Ac f g n
  cases a:f n<;>cases b:g n<;>simp<;>omega
def yX:∀n,countB (fun x=>decide (x<2)) n<=2
 |0=>aS _
 |1=>by rw[fP];exact nY _
 |2=>aD _
 |n+3=>by
  rw[fP]
  have:=yX (n+2)
  have e:decide (n+2<2)=false:=by simp
  rw[e]
  exact this
def cK.Ok.Vb {c:cK}(h:c.Ok)(k:c.im.ks.Pairwise (· < ·)):c.im.ks.length+countB c.H.old c.most<=c.tk+2:=by
 by_cases j:∃b∈c.im.ks,2<=b
 ·obtain⟨m,A,i⟩:∃m∈c.im.ks,∀x∈c.im.ks,x<=m:=by
   rcases xA c.im.ks with e|⟨l,a,e⟩
   ·rw[e] at j;obtain⟨b,n,_⟩:=j;cases n
   ·rw[xB] at e
    rw[e] at k ⊢;refine⟨a,bY _ (bQ.2 rfl),fun x d=> ?_⟩;rcases bU.1 d with d|d
    ·exact iF ((yI.1 k).2.2 x d a (bQ.2 rfl))
    ·rw[bQ.1 d];exact aD _
  obtain⟨b,n,o⟩:=j;have v:2<=m:=aK o (i b n);obtain⟨_,r,s⟩:=(h.rks m A).resolve_left (by omega);have t:=CX (f:=fun x=>decide (x<2)||(decide (x<=m) && !c.H.old x)) c.most c.im.ks k (fun x d=>by
   have p:=i x d
   rcases h.rks x d with y|⟨y,B,_⟩
   ·exact⟨by omega,by simp[y]⟩
   ·exact⟨B,by simp[y,p]⟩)
  have q:countB (fun x=>decide (x<2)||(decide (x<=m) && !c.H.old x)) c.most<=countB (fun x=>decide (x<2)) c.most+countB (fun x=>decide (x<=m) && !c.H.old x) c.most:=Ac _ _ _;have z:countB (fun x=>decide (x<2)) c.most<=2:=yX _;have D:=D6 (f:=fun x=>decide (x<=m) && !c.H.old x) (g:=c.H.old) (fun x d=>by simp at d;exact d.2) c.most;have E:countB (fun x=>decide (x<=m) && !c.H.old x||c.H.old x) c.most=c.rk m:=jW _ (fun x _=>by cases c.H.old x<;>simp);omega
 ·have t:=CX (f:=fun x=>decide (x<2)) 2 c.im.ks k (fun x d=>by
   have:¬2<=x:=fun e=>j ⟨x,d,e⟩
   exact⟨by omega,by simp;omega⟩)
  have q:countB (fun x=>decide (x<2)) 2<=2:=yX _;have C:=h.szk;have z:countB c.H.old c.most<=c.sz:=oP _ (fun x _ d=>by rw[d,Bool.or_true]);omega
