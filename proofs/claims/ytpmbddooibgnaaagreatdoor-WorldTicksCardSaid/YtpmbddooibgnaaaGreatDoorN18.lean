/- parts -/
import Derived.Test.YtpmbddooibgnaaaGreatDoorN17
set_option maxRecDepth 100000
set_option maxHeartbeats 8000000
set_option linter.all false
namespace Go.Proofs.YtpmbddooibgnaaaGreatDoor
open Go.RowKit
structure Base where
 dk:Dk
 lg:Lg
 pg:Pg
 old:Nat->Bool
structure cK where
 H:Base
 most:Nat
 im:Im
 now:Nat->Bool
 tk:Nat
structure VS where
 tx:Nat
 pg:Nat
 d:Nat
 mp:Nat
def VS.agg (mp:VS):Value:= .agg #[.pointer (some ⟨mp.tx,0,none⟩),.pointer (some ⟨mp.mp,0,none⟩)]
def cK.hasB (σ:cK)(b:Int):Bool:=decide (0<=b) && (decide (b.toNat<σ.most) && σ.now b.toNat)
def cK.held (σ:cK)(b:Int):Bool:=decide (0<=b) && σ.H.old b.toNat
def cK.mem (σ:cK)(b:Int):List UInt8:=σ.H.pg.look σ.im σ.H.dk b.toNat
def cK.sz (σ:cK):Nat:=countB (fun x=>σ.now x||σ.H.old x) σ.most
def cK.gone (σ:cK)(b:Int):cK:={σ with now:=gN σ.now b.toNat false}
def cK.took (σ:cK)(b:Nat):cK:={σ with now:=gN σ.now b true,tk:=max σ.tk (countB (fun x=>gN σ.now b true x||σ.H.old x) σ.most)}
def cK.wrote (σ:cK)(b:Nat)(l:List UInt8):cK:={σ with im:=σ.im.put b l}
def cK.rk (σ:cK)(b:Nat):Nat:=countB (fun x=>decide (x<=b)||σ.H.old x) σ.most
structure cK.Ok (σ:cK):Prop where
 live:σ.H.pg.dead=false
 dlive:σ.H.dk.dead=false
 most:σ.most=σ.H.pg.blocks σ.H.dk
 two:2<=σ.most
 cap:σ.most<=4096
 nhi:∀b,σ.most<=b->σ.now b=false
 ohi:∀b,σ.most<=b->σ.H.old b=false
 n0:σ.now 0=true
 n1:σ.now 1=true
 rks:∀b∈σ.im.ks,b<2\/(σ.H.old b=false/\b<σ.most/\σ.rk b<=σ.tk)
 own:∀b,b<σ.most->σ.now b=true->σ.H.old b=false->σ.rk b<=σ.tk
 szk:σ.sz<=σ.tk
 len:∀b,b<σ.most->(σ.H.pg.look σ.im σ.H.dk b).length=512
structure Inv' (σ:cK)(Sp T:Nat->Prop)(mp:VS)(w:World):Prop where
 ok:σ.Ok
 pg:iF w Sp mp.pg mp.d σ.H.dk σ.H.lg σ.H.pg (.pointer (some ⟨mp.tx,0,none⟩))
 tx:qR w T mp.tx mp.pg σ.im σ.most
 map:pJ w mp.mp σ.most σ.now σ.H.old
 dis:∀g,Sp g->¬T g
 mpS:¬Sp mp.mp
 mpT:¬T mp.mp
def Inv (σ:cK)(S:Nat->Prop)(mp:VS)(w:World):Prop:=∃Sp T,Inv' σ Sp T mp w/\∀g,S g↔Sp g\/T g\/g=mp.mp
theorem Inv.ok {a:cK}{S:Nat->Prop}{b:VS}{w:World}(h:Inv a S b w):a.Ok:=by obtain⟨_,_,h,_⟩:=h;exact h.ok
theorem Inv.cap {a:cK}{S:Nat->Prop}{b:VS}{w:World}(h:Inv a S b w):a.most<=4096:=h.ok.cap
theorem Inv.sub {b:cK}{S:Nat->Prop}{c:VS}{w:World}(h:Inv b S c w):∀g,S g->g<w.heap.size:=by
 obtain⟨e,T,h,d⟩:=h
 intro g a
 rcases (d g).1 a with a|a|rfl
 ·exact h.pg.sub g a
 ·exact h.tx.sub g a
 ·exact h.map.lt
theorem Inv.nY {e:cK}{S M:Nat->Prop}{f:VS}{w i:World}(h:Inv e S f w)(d:Keep M w i)(b:∀g,S g->¬M g):Inv e S f i:=by
 obtain⟨j,T,h,a⟩:=h
 exact⟨j,T,⟨h.ok,h.pg.keep d (fun g c=>b g ((a g).2 (.inl c))),h.tx.keep d (fun g c=>b g ((a g).2 (.inr (.inl c)))),h.map.keep (d.block _ h.map.lt (b _ ((a _).2 (.inr (.inr rfl))))),h.dis,h.mpS,h.mpT⟩,a⟩
theorem Inv.below {b:cK}{S:Nat->Prop}{a:VS}{w w':World}(h:Inv b S a w)(c:Below w.heap.size w w'):Inv b S a w':=h.nY (Keep.of_below c eG) (fun _ _ e=>e)
theorem bq.avoid {w:World}{S:Nat->Prop}{k n:Nat}{v:Value}{b:List Value}(h:bq w eG k v n b)(i:∀g,v.ownBlock=some g->¬S g):bq w S k v n b:=by
 obtain⟨p,c,rfl,j,f,o,l,d,m⟩:=h
 exact⟨p,c,rfl,j,f,o,l,fun e a=>⟨(d e a).1,(d e a).2.1,i _ (by subst a;rfl)⟩,m⟩
theorem bq.loose {w:World}{S:Nat->Prop}{k n:Nat}{v:Value}{b:List Value}(h:bq w S k v n b):bq w eG k v n b:=by
 obtain⟨m,c,rfl,i,j,g,l,d,f⟩:=h
 exact⟨m,c,rfl,i,j,g,l,fun e a=>⟨(d e a).1,(d e a).2.1,id⟩,f⟩
theorem cK.lH {a:cK}{b:Int}(h:a.hasB b=true):∃n:Nat,b=n/\n<a.most/\a.now n=true:=by
 unfold cK.hasB at h
 simp only[dA,dU] at h
 exact⟨b.toNat,by omega,h.2.1,h.2.2⟩
theorem BA (c:VS)(a:cK)(S:Nat->Prop)(w:World)(b:Int)(h:Inv a S c w)(p:a.hasB b=true):
  Calls Tryz.prog 136 #[.pointer (some ⟨c.tx,0,none⟩),.int .i64 b] w fun e i=>∃v,e= .returned (.tuple #[v,.int .i64 0])/\bq i S 1 v 512 (aF (a.mem b))/\(∀g,v.ownBlock=some g->w.heap.size<=g)/\Below w.heap.size w i:=by
 have d:=h.sub
 obtain⟨n,rfl,t,k⟩:=cK.lH p
 obtain⟨r,T,h,x⟩:=h
 have q:=h.ok.most
 have f:=h.tx
 rw[q] at f
 refine(tread c.tx c.pg c.d a.H.dk a.H.lg a.H.pg _ a.im r T n w h.pg f h.ok.live h.ok.dlive (by omega)).mono ?_
 rintro e i ⟨v,rfl,m,j,s⟩
 exact⟨v,rfl,bq.avoid m (fun g o l=>absurd (j g o) (jX.2 (d g l))),j,s⟩
theorem jw {f g:Nat->Bool}:∀n,(∀x,x<n->f x=g x)->countB f n=countB g n
 |0,_=>rfl
 |n+1,h=>by rw[eD,eD,jw n (fun x a=>h x (Cu a)),h n (nP n)]
theorem DT {f:Nat->Bool}{b:Nat}(c:f b=false):∀n,b<n->countB (gN f b true) n=countB f n+1
 |0,h=>absurd h (oF _)
 |n+1,h=>by
  rw[eD,eD]
  by_cases a:b=n
  ·subst a
   rw[jw (f:=gN f b true) (g:=f) b (fun x d=>by unfold gN;rw[if_neg (by omega)]),c]
   simp[gN]
  ·rw[DT c n (by omega)]
   have:gN f b true n=f n:=by unfold gN;rw[if_neg (fun e=>a e.symm)]
   rw[this];omega
theorem Cg {f:Nat->Bool}{b:Nat}(c:f b=true):∀n,b<n->countB (gN f b false) n+1=countB f n
 |0,h=>absurd h (oF _)
 |n+1,h=>by
  rw[eD,eD]
  by_cases a:b=n
  ·subst a
   rw[jw (f:=gN f b false) (g:=f) b (fun x d=>by unfold gN;rw[if_neg (by omega)]),c]
   simp[gN]
  ·have:=Cg c n (by omega)
   have e:gN f b false n=f n:=by unfold gN;rw[if_neg (fun e=>a e.symm)]
   rw[e];omega
theorem He {f:Nat->Bool}{n:Nat}(h:∀x,x<n->f x=true):countB f n=n:=by
 induction n with
 |zero=>rfl
 |succ n ih=>rw[eD,ih (fun x a=>h x (Cu a)),h n (nP n)];rfl
theorem pq {f g:Nat->Bool}:∀n,(∀x,x<n->f x=true->g x=true)->countB f n<=countB g n
 |0,_=>aC _
 |n+1,h=>by
  rw[eD,eD]
  have:=pq n (fun x a=>h x (Cu a))
  have b:=h n (nP n)
  cases c:f n with
  |false=>simp;omega
  |true=>rw[b c];simp;omega
theorem cK.Ok.gone {c:cK}(h:c.Ok)(b:Nat)(e:2<=b):(c.gone b).Ok:=
 ⟨h.live,h.dlive,h.most,h.two,h.cap,fun x a=>by
  show gN c.now _ false x=false
  unfold gN;split
  ·rfl
  ·exact h.nhi x a,h.ohi,by
  show gN c.now _ false 0=true
  unfold gN;rw[if_neg (by omega)];exact h.n0,by
  show gN c.now _ false 1=true
  unfold gN;rw[if_neg (by omega)];exact h.n1,h.rks,fun x a d=>by
  have d:gN c.now (b:Int).toNat false x=true:=d
  unfold gN at d
  split at d
  ·cases d
  ·exact h.own x a d,aI (pq _ fun x _ a=>by
  have a:(gN c.now (b:Int).toNat false x||c.H.old x)=true:=a
  unfold gN at a
  split at a
  ·rw[Bool.false_or] at a;rw[a,Bool.or_true]
  ·exact a) h.szk,h.len⟩
theorem cK.Ok.took {a:cK}(h:a.Ok)(b:Nat)(j:b<a.most)(f:∀x,x<b->(a.now x||a.H.old x)=true):(a.took b).Ok:=
 ⟨h.live,h.dlive,h.most,h.two,h.cap,fun x d=>by
  show gN a.now _ true x=false
  unfold gN;rw[if_neg (by have:a.most<=x:=d;omega)];exact h.nhi x d,h.ohi,by
  show gN a.now _ true 0=true
  unfold gN;split
  ·rfl
  ·exact h.n0,by
  show gN a.now _ true 1=true
  unfold gN;split
  ·rfl
  ·exact h.n1,fun x d=>(h.rks x d).imp id (fun y=>⟨y.1,y.2.1,aI y.2.2 (Nat.le_max_left _ _)⟩),fun x d g i=>by
  have g:gN a.now b true x=true:=g
  unfold gN at g
  split at g
  ·rename_i e
   subst e
   refine aI (pq _ fun y _ c=> ?_) (Nat.le_max_right _ _)
   rw[xH,dU] at c
   unfold gN
   split
   ·rfl
   ·rcases c with c|c
    ·exact f y (by omega)
    ·have c:a.H.old y=true:=c
     rw[c,Bool.or_true]
  ·exact aI (h.own x d g i) (Nat.le_max_left _ _),Nat.le_max_right _ _,h.len⟩
theorem uR (p:Pg)(a:Im)(d:Dk)(b x:Nat)(l:List UInt8):p.look (a.put b l) d x=if x=b then l else p.look a d x:=by
 unfold Pg.look
 rw[Im.Cb]
 split<;>rfl
theorem Sv (b x:Nat)(a:List Nat)(h:x∈zF b a):x=b\/x∈a:=lF.1 h
theorem cK.Ok.wrote {a:cK}(h:a.Ok)(b:Nat)(l:List UInt8)(f:l.length=512)(d:b<a.most)(e:b<2\/(a.now b=true/\a.H.old b=false)):(a.wrote b l).Ok:=
 ⟨h.live,h.dlive,h.most,h.two,h.cap,h.nhi,h.ohi,h.n0,h.n1,fun x c=>by
  rcases Sv b x _ c with rfl|c
  ·exact e.imp id (fun y=>⟨y.2,d,h.own x d y.1 y.2⟩)
  ·exact h.rks x c,h.own,h.szk,fun x c=>by
  show (a.H.pg.look (a.im.put b l) a.H.dk x).length=512
  rw[uR]
  split
  ·exact f
  ·exact h.len x c⟩
theorem GX (f:VS)(a:cK)(S:Nat->Prop)(w:World)(b:Int)(h:Inv a S f w)(q:2<=b)(m:a.hasB b=true):
  Calls Tryz.prog 619 #[.pointer (some ⟨f.mp,0,none⟩),.int .i64 b] w fun e i=>e= .returned (.int .i64 0)/\Inv (a.gone b) S f i/\Step S S w i:=by
 obtain⟨n,rfl,l,d⟩:=cK.lH m
 obtain⟨p,T,h,k⟩:=h
 refine(WY f.mp a.most a.now a.H.old n w h.map h.ok.cap (by omega) l d).mono ?_
 rintro e i ⟨rfl,o,j⟩
 refine⟨rfl,⟨p,T,⟨h.ok.gone n (by omega),h.pg.keep j (fun g c e=>h.mpS (e▸c)),h.tx.keep j (fun g c e=>h.mpT (e▸c)),o,h.dis,h.mpS,h.mpT⟩,k⟩,j.mono (fun g _ e=>(k g).2 (.inr (.inr e))),fun g c=> .inl c⟩
theorem Rq (i:VS)(a:cK)(S:Nat->Prop)(w:World)(h:Inv a S i w):
  Calls Tryz.prog 620 #[.pointer (some ⟨i.mp,0,none⟩)] w fun e j=>
   (∃f:Nat,e= .returned (.tuple #[.int .i64 f,.int .i64 0])/\2<=f/\f<a.most/\a.hasB f=false/\a.held f=false/\(∀x,x<f->(a.now x||a.H.old x)=true)/\Inv (a.took f) S i j/\Step S S w j)\/
   (e= .returned (.tuple #[.int .i64 0,.int .i64 12])/\a.sz=a.most/\Inv a S i j/\Step S S w j):=by
 have q:=h
 obtain⟨v,T,h,o⟩:=h
 refine(WU i.mp a.most a.now a.H.old w h.map h.ok.cap).mono ?_
 rintro e j (⟨b,l,r,p,rfl,t,m⟩|⟨l,rfl,c⟩)
 ·obtain⟨d,s⟩:=Bool.or_eq_false_iff.1 r
  have n:2<=b:=by
   rcases jC b 2 with c|c
   ·rcases (by omega:b=0\/b=1) with rfl|rfl
    ·rw[h.ok.n0] at d;cases d
    ·rw[h.ok.n1] at d;cases d
   ·exact c
  refine .inl ⟨b,rfl,n,l,?_,?_,p,⟨v,T,⟨h.ok.took b l p,h.pg.keep m (fun g k e=>h.mpS (e▸k)),h.tx.keep m (fun g k e=>h.mpT (e▸k)),t,h.dis,h.mpS,h.mpT⟩,o⟩,m.mono (fun g _ e=>(o g).2 (.inr (.inr e))),fun g k=> .inl k⟩
  ·unfold cK.hasB
   rw[dz,d];simp
  ·unfold cK.held
   rw[dz,s];simp
 ·exact .inr ⟨rfl,He l,q.below c,Step.of_below c⟩
theorem CZ (c:VS)(a:cK)(S:Nat->Prop)(w:World)(b:Nat)(v:Value)(l:List UInt8)(h:Inv a S c w)(q:b<a.most)(s:fA w eG v l)(n:l.length<=512)(r:b<2\/(a.now b=true/\a.H.old b=false)):
  Calls Tryz.prog 118 #[.pointer (some ⟨c.tx,0,none⟩),.int .i64 b,v] w fun e i=>e= .returned (.int .i64 0)/\Inv (a.wrote b (pad l)) S c i/\Step S S w i:=by
 obtain⟨p,T,h,k⟩:=h
 have o:=h.ok.most
 have d:=h.tx
 rw[o] at d
 refine(Je c.tx c.pg c.d a.H.dk a.H.lg a.H.pg _ a.im p T b v l w h.pg d h.ok.live (by omega) s n).mono ?_
 rintro e i ⟨rfl,m,f⟩
 rw[<-o] at m
 refine⟨rfl,⟨p,T,⟨h.ok.wrote b (pad l) (oI n) q r,h.pg.keep f.1 (fun g j e=>h.dis g j e),m,h.map.keep (f.1.block _ h.map.lt h.mpT),h.dis,h.mpS,h.mpT⟩,k⟩,f.1.mono (fun g _ e=>(k g).2 (.inr (.inl e))),fun g j=> .inl j⟩
theorem Bw {f:Nat->Bool}:∀(n:Nat) (l:List Nat),l.Pairwise (· < ·)->(∀x∈l,x<n/\f x=true)->l.length<=countB f n:=by
 intro n
 induction n with
 |zero=>
  intro l _ h
  cases l with
  |nil=>exact aR _
  |cons a l=>exact absurd (h a (aY ..)).1 (oF _)
 |succ n ih=>
  intro l c h
  rw[eD]
  rcases I4 l with rfl|⟨l,a,rfl⟩
  ·exact aR _
  ·rw[I5] at c h ⊢
   obtain⟨j,_,i⟩:=wN.1 c
   have d:=h a (cB _ (cu.2 rfl))
   have g:∀x∈l,x<n/\f x=true:=fun x b=>⟨by have:=i x b a (cu.2 rfl);omega,(h x (dH _ b)).2⟩
   rw[aB,dP]
   by_cases e:a=n
   ·have:=ih l j g
    rw[<-e,d.2,e]
    exact Nat.succ_le_succ this
   ·have:=ih (l++[a]) c (fun x b=>by
     rcases eB.1 b with b|b
     ·exact g x b
     ·rw[cu.1 b];exact⟨by omega,d.2⟩)
    rw[aB,dP] at this
    omega
theorem Ci {f g:Nat->Bool}(a:∀x,f x=true->g x=false):∀n,countB f n+countB g n=countB (fun x=>f x||g x) n
 |0=>rfl
 |n+1=>by
  rw[eD,eD,eD,<-Ci a n]
  have:=a n
  cases c:f n<;>cases b:g n<;>simp[c,b] at this ⊢<;>omega
theorem yI (f g:Nat->Bool):∀n,countB (fun x=>f x||g x) n<=countB f n+countB g n
 |0=>aC _
 |n+1=>by
  rw[eD,eD,eD]
  have:=yI f g n
  cases b:f n<;>cases a:g n<;>simp<;>omega
theorem xg:∀n,countB (fun x=>decide (x<2)) n<=2
 |0=>aR _
 |1=>by rw[eD];exact pU _
 |2=>aC _
 |n+3=>by
  rw[eD]
  have:=xg (n+2)
  have e:decide (n+2<2)=false:=by simp
  rw[e]
  exact this
theorem cK.Ok.Vt {c:cK}(h:c.Ok)(j:c.im.ks.Pairwise (· < ·)):c.im.ks.length+countB c.H.old c.most<=c.tk+2:=by
 by_cases k:∃b∈c.im.ks,2<=b
 ·obtain⟨m,z,i⟩:∃m∈c.im.ks,∀x∈c.im.ks,x<=m:=by
   rcases I4 c.im.ks with e|⟨l,a,e⟩
   ·rw[e] at k;obtain⟨b,o,_⟩:=k;cases o
   ·rw[I5] at e
    rw[e] at j ⊢
    refine⟨a,cB _ (cu.2 rfl),fun x d=> ?_⟩
    rcases eB.1 d with d|d
    ·exact gJ ((wN.1 j).2.2 x d a (cu.2 rfl))
    ·rw[cu.1 d];exact aC _
  obtain⟨b,o,p⟩:=k
  have A:2<=m:=aI p (i b o)
  obtain⟨_,r,v⟩:=(h.rks m z).resolve_left (by omega)
  have s:=Bw (f:=fun x=>decide (x<2)||(decide (x<=m) && !c.H.old x)) c.most c.im.ks j (fun x d=>by
   have n:=i x d
   rcases h.rks x d with y|⟨y,t,_⟩
   ·exact⟨by omega,by simp[y]⟩
   ·exact⟨t,by simp[y,n]⟩)
  have q:countB (fun x=>decide (x<2)||(decide (x<=m) && !c.H.old x)) c.most<=countB (fun x=>decide (x<2)) c.most+countB (fun x=>decide (x<=m) && !c.H.old x) c.most:=yI _ _ _
  have B:countB (fun x=>decide (x<2)) c.most<=2:=xg _
  have C:=Ci (f:=fun x=>decide (x<=m) && !c.H.old x) (g:=c.H.old) (fun x d=>by simp at d;exact d.2) c.most
  have E:countB (fun x=>decide (x<=m) && !c.H.old x||c.H.old x) c.most=c.rk m:=jw _ (fun x _=>by cases c.H.old x<;>simp)
  omega
 ·have s:=Bw (f:=fun x=>decide (x<2)) 2 c.im.ks j (fun x d=>by
   have:¬2<=x:=fun e=>k ⟨x,d,e⟩
   exact⟨by omega,by simp;omega⟩)
  have q:countB (fun x=>decide (x<2)) 2<=2:=xg _
  have D:=h.szk
  have B:countB c.H.old c.most<=c.sz:=pq _ (fun x _ d=>by rw[d,Bool.or_true])
  omega
end Go.Proofs.YtpmbddooibgnaaaGreatDoor
