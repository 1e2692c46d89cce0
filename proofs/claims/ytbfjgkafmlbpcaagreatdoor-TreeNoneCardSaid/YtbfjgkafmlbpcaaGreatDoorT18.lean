/- parts -/
import Derived.Test.YtbfjgkafmlbpcaaGreatDoorT17
set_option maxRecDepth 100000
set_option maxHeartbeats 8000000
set_option linter.all false
namespace Go.Proofs.YtbfjgkafmlbpcaaGreatDoor
open Go.RowKit
structure Base where
 dk:Dk
 lg:Lg
 pg:Pg
 old:Nat->Bool
structure bY where
 H:Base
 most:Nat
 im:Im
 now:Nat->Bool
 tk:Nat
structure VS where
 tx:Nat
 pg:Nat
 d:Nat
 mp:Nat
def VS.agg (mp:VS):Value:= .agg #[.pointer (some ⟨mp.tx,0,none⟩),.pointer (some ⟨mp.mp,0,none⟩)]
def bY.hasB (σ:bY)(b:Int):Bool:=decide (0<=b) && (decide (b.toNat<σ.most) && σ.now b.toNat)
def bY.held (σ:bY)(b:Int):Bool:=decide (0<=b) && σ.H.old b.toNat
def bY.mem (σ:bY)(b:Int):List UInt8:=σ.H.pg.look σ.im σ.H.dk b.toNat
def bY.sz (σ:bY):Nat:=countB (fun x=>σ.now x||σ.H.old x) σ.most
def bY.gone (σ:bY)(b:Int):bY:={σ with now:=gm σ.now b.toNat false}
def bY.took (σ:bY)(b:Nat):bY:={σ with now:=gm σ.now b true,tk:=max σ.tk (countB (fun x=>gm σ.now b true x||σ.H.old x) σ.most)}
def bY.wrote (σ:bY)(b:Nat)(l:List UInt8):bY:={σ with im:=σ.im.put b l}
def bY.rk (σ:bY)(b:Nat):Nat:=countB (fun x=>decide (x<=b)||σ.H.old x) σ.most
structure bY.Ok (σ:bY):Prop where
 live:σ.H.pg.dead=false
 dlive:σ.H.dk.dead=false
 most:σ.most=σ.H.pg.blocks σ.H.dk
 two:2<=σ.most
 cap:σ.most<=4096
 nhi:∀b,σ.most<=b->σ.now b=false
 ohi:∀b,σ.most<=b->σ.H.old b=false
 n0:σ.now 0=true
 n1:σ.now 1=true
 rks:∀b∈σ.im.ks,b<2\/(σ.H.old b=false/\b<σ.most/\σ.rk b<=σ.tk)
 own:∀b,b<σ.most->σ.now b=true->σ.H.old b=false->σ.rk b<=σ.tk
 szk:σ.sz<=σ.tk
 len:∀b,b<σ.most->(σ.H.pg.look σ.im σ.H.dk b).length=512
structure Inv' (σ:bY)(Sp T:Nat->Prop)(mp:VS)(w:World):Prop where
 ok:σ.Ok
 pg:kC w Sp mp.pg mp.d σ.H.dk σ.H.lg σ.H.pg (.pointer (some ⟨mp.tx,0,none⟩))
 tx:rT w T mp.tx mp.pg σ.im σ.most
 map:qf w mp.mp σ.most σ.now σ.H.old
 dis:∀g,Sp g->¬T g
 mpS:¬Sp mp.mp
 mpT:¬T mp.mp
def Inv (σ:bY)(S:Nat->Prop)(mp:VS)(w:World):Prop:=∃Sp T,Inv' σ Sp T mp w/\∀g,S g↔Sp g\/T g\/g=mp.mp
theorem Inv.ok {σ:bY}{S:Nat->Prop}{mp:VS}{w:World}(h:Inv σ S mp w):σ.Ok:=by obtain⟨_,_,h,_⟩:=h;exact h.ok
theorem Inv.cap {σ:bY}{S:Nat->Prop}{mp:VS}{w:World}(h:Inv σ S mp w):σ.most<=4096:=h.ok.cap
theorem Inv.sub {σ:bY}{S:Nat->Prop}{mp:VS}{w:World}(h:Inv σ S mp w):∀g,S g->g<w.heap.size:=by
 obtain⟨Sp,T,h,hS⟩:=h
 intro g hg
 rcases (hS g).1 hg with hg|hg|rfl
 ·exact h.pg.sub g hg
 ·exact h.tx.sub g hg
 ·exact h.map.lt
theorem Inv.nD {σ:bY}{S M:Nat->Prop}{mp:VS}{w w':World}(h:Inv σ S mp w)(hk:Keep M w w')(hM:∀g,S g->¬M g):Inv σ S mp w':=by
 obtain⟨Sp,T,h,hS⟩:=h
 exact⟨Sp,T,⟨h.ok,h.pg.keep hk (fun g hg=>hM g ((hS g).2 (.inl hg))),h.tx.keep hk (fun g hg=>hM g ((hS g).2 (.inr (.inl hg)))),h.map.keep (hk.block _ h.map.lt (hM _ ((hS _).2 (.inr (.inr rfl))))),h.dis,h.mpS,h.mpT⟩,hS⟩
theorem Inv.below {σ:bY}{S:Nat->Prop}{mp:VS}{w w':World}(h:Inv σ S mp w)(hb:Below w.heap.size w w'):Inv σ S mp w':=h.nD (Keep.of_below hb gJ) (fun _ _ e=>e)
theorem bn.avoid {w:World}{S:Nat->Prop}{k n:Nat}{v:Value}{xs:List Value}(h:bn w gJ k v n xs)(hS:∀g,v.ownBlock=some g->¬S g):bn w S k v n xs:=by
 obtain⟨ao,c,rfl,h1,h2,h3,h4,h5,h6⟩:=h
 exact⟨ao,c,rfl,h1,h2,h3,h4,fun ad hh=>⟨(h5 ad hh).1,(h5 ad hh).2.1,hS _ (by subst hh;rfl)⟩,h6⟩
theorem bn.loose {w:World}{S:Nat->Prop}{k n:Nat}{v:Value}{xs:List Value}(h:bn w S k v n xs):bn w gJ k v n xs:=by
 obtain⟨ao,c,rfl,h1,h2,h3,h4,h5,h6⟩:=h
 exact⟨ao,c,rfl,h1,h2,h3,h4,fun ad hh=>⟨(h5 ad hh).1,(h5 ad hh).2.1,id⟩,h6⟩
theorem bY.l8 {σ:bY}{b:Int}(h:σ.hasB b=true):∃n:Nat,b=n/\n<σ.most/\σ.now n=true:=by
 unfold bY.hasB at h
 simp only[dU,eD] at h
 exact⟨b.toNat,by omega,h.2.1,h.2.2⟩
theorem Aw (mp:VS)(σ:bY)(S:Nat->Prop)(w:World)(b:Int)(h:Inv σ S mp w)(hh:σ.hasB b=true):
  Calls Tryz.prog 63 #[.pointer (some ⟨mp.tx,0,none⟩),.int .i64 b] w fun e w'=>∃v,e= .returned (.tuple #[v,.int .i64 0])/\bn w' S 1 v 512 (aD (σ.mem b))/\(∀g,v.ownBlock=some g->w.heap.size<=g)/\Below w.heap.size w w':=by
 have hsub:=h.sub
 obtain⟨n,rfl,hn,hnow⟩:=bY.l8 hh
 obtain⟨Sp,T,h,hS⟩:=h
 have hm:=h.ok.most
 have htx:=h.tx
 rw[hm] at htx
 refine(tread mp.tx mp.pg mp.d σ.H.dk σ.H.lg σ.H.pg _ σ.im Sp T n w h.pg htx h.ok.live h.ok.dlive (by omega)).mono ?_
 rintro e w' ⟨v,rfl,h1,h2,h3⟩
 exact⟨v,rfl,bn.avoid h1 (fun g hg hs=>absurd (h2 g hg) (fE.2 (hsub g hs))),h2,h3⟩
theorem jV {f g:Nat->Bool}:∀n,(∀x,x<n->f x=g x)->countB f n=countB g n
 |0,_=>rfl
 |n+1,h=>by rw[jr,jr,jV n (fun x hx=>h x (BF hx)),h n (gB n)]
theorem yH {f:Nat->Bool}{b:Nat}(hf:f b=false):∀n,b<n->countB (gm f b true) n=countB f n+1
 |0,h=>absurd h (Nat.not_lt_zero _)
 |n+1,h=>by
  rw[jr,jr]
  by_cases hb:b=n
  ·subst hb
   rw[jV (f:=gm f b true) (g:=f) b (fun x hx=>by unfold gm;rw[if_neg (by omega)]),hf]
   simp[gm]
  ·rw[yH hf n (by omega)]
   have:gm f b true n=f n:=by unfold gm;rw[if_neg (fun e=>hb e.symm)]
   rw[this];omega
theorem Bl {f:Nat->Bool}{b:Nat}(hf:f b=true):∀n,b<n->countB (gm f b false) n+1=countB f n
 |0,h=>absurd h (Nat.not_lt_zero _)
 |n+1,h=>by
  rw[jr,jr]
  by_cases hb:b=n
  ·subst hb
   rw[jV (f:=gm f b false) (g:=f) b (fun x hx=>by unfold gm;rw[if_neg (by omega)]),hf]
   simp[gm]
  ·have:=Bl hf n (by omega)
   have e:gm f b false n=f n:=by unfold gm;rw[if_neg (fun e=>hb e.symm)]
   rw[e];omega
theorem Gb {f:Nat->Bool}{n:Nat}(h:∀x,x<n->f x=true):countB f n=n:=by
 induction n with
 |zero=>rfl
 |succ n ih=>rw[jr,ih (fun x hx=>h x (BF hx)),h n (gB n)];rfl
theorem ow {f g:Nat->Bool}:∀n,(∀x,x<n->f x=true->g x=true)->countB f n<=countB g n
 |0,_=>ax _
 |n+1,h=>by
  rw[jr,jr]
  have:=ow n (fun x hx=>h x (BF hx))
  have h2:=h n (gB n)
  cases hf:f n with
  |false=>simp;omega
  |true=>rw[h2 hf];simp;omega
theorem bY.Ok.gone {σ:bY}(h:σ.Ok)(b:Nat)(hb:2<=b):(σ.gone b).Ok:=
 ⟨h.live,h.dlive,h.most,h.two,h.cap,fun x hx=>by
  show gm σ.now _ false x=false
  unfold gm;split
  ·rfl
  ·exact h.nhi x hx,h.ohi,by
  show gm σ.now _ false 0=true
  unfold gm;rw[if_neg (by omega)];exact h.n0,by
  show gm σ.now _ false 1=true
  unfold gm;rw[if_neg (by omega)];exact h.n1,h.rks,fun x hx hn=>by
  have hn:gm σ.now (b:Int).toNat false x=true:=hn
  unfold gm at hn
  split at hn
  ·cases hn
  ·exact h.own x hx hn,aI (ow _ fun x _ hx=>by
  have hx:(gm σ.now (b:Int).toNat false x||σ.H.old x)=true:=hx
  unfold gm at hx
  split at hx
  ·rw[Bool.false_or] at hx;rw[hx,Bool.or_true]
  ·exact hx) h.szk,h.len⟩
theorem bY.Ok.took {σ:bY}(h:σ.Ok)(b:Nat)(hb:b<σ.most)(hall:∀x,x<b->(σ.now x||σ.H.old x)=true):(σ.took b).Ok:=
 ⟨h.live,h.dlive,h.most,h.two,h.cap,fun x hx=>by
  show gm σ.now _ true x=false
  unfold gm;rw[if_neg (by have:σ.most<=x:=hx;omega)];exact h.nhi x hx,h.ohi,by
  show gm σ.now _ true 0=true
  unfold gm;split
  ·rfl
  ·exact h.n0,by
  show gm σ.now _ true 1=true
  unfold gm;split
  ·rfl
  ·exact h.n1,fun x hx=>(h.rks x hx).imp id (fun y=>⟨y.1,y.2.1,aI y.2.2 (Gx _ _)⟩),fun x hx hn ho=>by
  have hn:gm σ.now b true x=true:=hn
  unfold gm at hn
  split at hn
  ·rename_i e
   subst e
   refine aI (ow _ fun y _ hy=> ?_) (Nat.le_max_right _ _)
   rw[qH,eD] at hy
   unfold gm
   split
   ·rfl
   ·rcases hy with hy|hy
    ·exact hall y (by omega)
    ·have hy:σ.H.old y=true:=hy
     rw[hy,Bool.or_true]
  ·exact aI (h.own x hx hn ho) (Gx _ _),Nat.le_max_right _ _,h.len⟩
theorem qM (p:Pg)(im:Im)(d:Dk)(b x:Nat)(l:List UInt8):p.look (im.put b l) d x=if x=b then l else p.look im d x:=by
 unfold Pg.look
 rw[Im.Bd]
 split<;>rfl
theorem Pd (b x:Nat)(ks:List Nat)(h:x∈yB b ks):x=b\/x∈ks:=lH.1 h
theorem bY.Ok.wrote {σ:bY}(h:σ.Ok)(b:Nat)(l:List UInt8)(hl:l.length=512)(hb:b<σ.most)(hw:b<2\/(σ.now b=true/\σ.H.old b=false)):(σ.wrote b l).Ok:=
 ⟨h.live,h.dlive,h.most,h.two,h.cap,h.nhi,h.ohi,h.n0,h.n1,fun x hx=>by
  rcases Pd b x _ hx with rfl|hx
  ·exact hw.imp id (fun y=>⟨y.2,hb,h.own x hb y.1 y.2⟩)
  ·exact h.rks x hx,h.own,h.szk,fun x hx=>by
  show (σ.H.pg.look (σ.im.put b l) σ.H.dk x).length=512
  rw[qM]
  split
  ·exact hl
  ·exact h.len x hx⟩
theorem qN (mp:VS)(σ:bY)(S:Nat->Prop)(w:World)(b:Int)(h:Inv σ S mp w)(hb:2<=b)(hh:σ.hasB b=true):
  Calls Tryz.prog 382 #[.pointer (some ⟨mp.mp,0,none⟩),.int .i64 b] w fun e w'=>e= .returned (.int .i64 0)/\Inv (σ.gone b) S mp w'/\Step S S w w':=by
 obtain⟨n,rfl,hn,hnow⟩:=bY.l8 hh
 obtain⟨Sp,T,h,hS⟩:=h
 refine(Sk mp.mp σ.most σ.now σ.H.old n w h.map h.ok.cap (by omega) hn hnow).mono ?_
 rintro e w' ⟨rfl,hm,hk⟩
 refine⟨rfl,⟨Sp,T,⟨h.ok.gone n (by omega),h.pg.keep hk (fun g hg e=>h.mpS (e▸hg)),h.tx.keep hk (fun g hg e=>h.mpT (e▸hg)),hm,h.dis,h.mpS,h.mpT⟩,hS⟩,hk.mono (fun g _ e=>(hS g).2 (.inr (.inr e))),fun g hg=> .inl hg⟩
theorem Jc (mp:VS)(σ:bY)(S:Nat->Prop)(w:World)(h:Inv σ S mp w):
  Calls Tryz.prog 383 #[.pointer (some ⟨mp.mp,0,none⟩)] w fun e w'=>
   (∃f:Nat,e= .returned (.tuple #[.int .i64 f,.int .i64 0])/\2<=f/\f<σ.most/\σ.hasB f=false/\σ.held f=false/\(∀x,x<f->(σ.now x||σ.H.old x)=true)/\Inv (σ.took f) S mp w'/\Step S S w w')\/
   (e= .returned (.tuple #[.int .i64 0,.int .i64 12])/\σ.sz=σ.most/\Inv σ S mp w'/\Step S S w w'):=by
 have hI:=h
 obtain⟨Sp,T,h,hS⟩:=h
 refine(Sj mp.mp σ.most σ.now σ.H.old w h.map h.ok.cap).mono ?_
 rintro e w' (⟨b,h1,h2,h3,rfl,hm,hk⟩|⟨h1,rfl,hb⟩)
 ·obtain⟨hn,ho⟩:=Bool.or_eq_false_iff.1 h2
  have hb2:2<=b:=by
   rcases iJ b 2 with hb|hb
   ·rcases (by omega:b=0\/b=1) with rfl|rfl
    ·rw[h.ok.n0] at hn;cases hn
    ·rw[h.ok.n1] at hn;cases hn
   ·exact hb
  refine .inl ⟨b,rfl,hb2,h1,?_,?_,h3,⟨Sp,T,⟨h.ok.took b h1 h3,h.pg.keep hk (fun g hg e=>h.mpS (e▸hg)),h.tx.keep hk (fun g hg e=>h.mpT (e▸hg)),hm,h.dis,h.mpS,h.mpT⟩,hS⟩,hk.mono (fun g _ e=>(hS g).2 (.inr (.inr e))),fun g hg=> .inl hg⟩
  ·unfold bY.hasB
   rw[fT,hn];simp
  ·unfold bY.held
   rw[fT,ho];simp
 ·exact .inr ⟨rfl,Gb h1,hI.below hb,Step.of_below hb⟩
theorem yg (mp:VS)(σ:bY)(S:Nat->Prop)(w:World)(b:Nat)(v:Value)(l:List UInt8)(h:Inv σ S mp w)(hb:b<σ.most)(hv:ji w gJ v l)(hl:l.length<=512)(hw:b<2\/(σ.now b=true/\σ.H.old b=false)):
  Calls Tryz.prog 381 #[.pointer (some ⟨mp.tx,0,none⟩),.int .i64 b,v] w fun e w'=>e= .returned (.int .i64 0)/\Inv (σ.wrote b (pad l)) S mp w'/\Step S S w w':=by
 obtain⟨Sp,T,h,hS⟩:=h
 have hm:=h.ok.most
 have htx:=h.tx
 rw[hm] at htx
 refine(L8 mp.tx mp.pg mp.d σ.H.dk σ.H.lg σ.H.pg _ σ.im Sp T b v l w h.pg htx h.ok.live (by omega) hv hl).mono ?_
 rintro e w' ⟨rfl,ht,hs⟩
 rw[<-hm] at ht
 refine⟨rfl,⟨Sp,T,⟨h.ok.wrote b (pad l) (rf hl) hb hw,h.pg.keep hs.1 (fun g hg e=>h.dis g hg e),ht,h.map.keep (hs.1.block _ h.map.lt h.mpT),h.dis,h.mpS,h.mpT⟩,hS⟩,hs.1.mono (fun g _ e=>(hS g).2 (.inr (.inl e))),fun g hg=> .inl hg⟩
theorem bY.MQ {σ:bY}{b:Nat}(h:σ.hasB b=true)(hh:σ.held b=false):b<2\/(σ.now b=true/\σ.H.old b=false):=by
 obtain⟨n,e,_,h2⟩:=bY.l8 h
 obtain rfl:b=n:=by omega
 unfold bY.held at hh
 exact .inr ⟨h2,by simpa using hh⟩
end Go.Proofs.YtbfjgkafmlbpcaaGreatDoor
