/- parts -/
import Derived.Test.YtpgdljlghiifjaaGreatDoorM17
set_option maxRecDepth 100000
set_option maxHeartbeats 8000000
set_option linter.all false
namespace Go.Proofs.YtpgdljlghiifjaaGreatDoor
open Go.RowKit
structure Base where
 dk:Dk
 lg:Lg
 pg:Pg
 old:Nat->Bool
structure dF where
 H:Base
 most:Nat
 im:Im
 now:Nat->Bool
 tk:Nat
structure VS where
 tx:Nat
 pg:Nat
 d:Nat
 mp:Nat
def VS.agg (mp:VS):Value:= .agg #[.pointer (some ⟨mp.tx,0,none⟩),.pointer (some ⟨mp.mp,0,none⟩)]
def dF.hasB (σ:dF)(b:Int):Bool:=decide (0<=b) && (decide (b.toNat<σ.most) && σ.now b.toNat)
def dF.held (σ:dF)(b:Int):Bool:=decide (0<=b) && σ.H.old b.toNat
def dF.mem (σ:dF)(b:Int):List UInt8:=σ.H.pg.look σ.im σ.H.dk b.toNat
def dF.sz (σ:dF):Nat:=countB (fun x=>σ.now x||σ.H.old x) σ.most
def dF.gone (σ:dF)(b:Int):dF:={σ with now:=gP σ.now b.toNat false}
def dF.took (σ:dF)(b:Nat):dF:={σ with now:=gP σ.now b true,tk:=max σ.tk (countB (fun x=>gP σ.now b true x||σ.H.old x) σ.most)}
def dF.wrote (σ:dF)(b:Nat)(l:List UInt8):dF:={σ with im:=σ.im.put b l}
def dF.rk (σ:dF)(b:Nat):Nat:=countB (fun x=>decide (x<=b)||σ.H.old x) σ.most
structure dF.Ok (σ:dF):Prop where
 live:σ.H.pg.dead=false
 dlive:σ.H.dk.dead=false
 most:σ.most=σ.H.pg.blocks σ.H.dk
 two:2<=σ.most
 cap:σ.most<=4096
 nhi:∀b,σ.most<=b->σ.now b=false
 ohi:∀b,σ.most<=b->σ.H.old b=false
 n0:σ.now 0=true
 n1:σ.now 1=true
 rks:∀b∈σ.im.ks,b<2\/(σ.H.old b=false/\b<σ.most/\σ.rk b<=σ.tk)
 own:∀b,b<σ.most->σ.now b=true->σ.H.old b=false->σ.rk b<=σ.tk
 szk:σ.sz<=σ.tk
 len:∀b,b<σ.most->(σ.H.pg.look σ.im σ.H.dk b).length=512
structure Inv' (σ:dF)(Sp T:Nat->Prop)(mp:VS)(w:World):Prop where
 ok:σ.Ok
 pg:kP w Sp mp.pg mp.d σ.H.dk σ.H.lg σ.H.pg (.pointer (some ⟨mp.tx,0,none⟩))
 tx:tq w T mp.tx mp.pg σ.im σ.most
 map:qF w mp.mp σ.most σ.now σ.H.old
 dis:∀g,Sp g->¬T g
 mpS:¬Sp mp.mp
 mpT:¬T mp.mp
def Inv (σ:dF)(S:Nat->Prop)(mp:VS)(w:World):Prop:=∃Sp T,Inv' σ Sp T mp w/\∀g,S g↔Sp g\/T g\/g=mp.mp
theorem Inv.ok {σ:dF}{S:Nat->Prop}{mp:VS}{w:World}(h:Inv σ S mp w):σ.Ok:=by obtain⟨_,_,h,_⟩:=h;exact h.ok
theorem Inv.cap {σ:dF}{S:Nat->Prop}{mp:VS}{w:World}(h:Inv σ S mp w):σ.most<=4096:=h.ok.cap
theorem Inv.sub {σ:dF}{S:Nat->Prop}{mp:VS}{w:World}(h:Inv σ S mp w):∀g,S g->g<w.heap.size:=by
 obtain⟨Sp,T,h,hS⟩:=h
 intro g hg
 rcases (hS g).1 hg with hg|hg|rfl
 ·exact h.pg.sub g hg
 ·exact h.tx.sub g hg
 ·exact h.map.lt
theorem Inv.mH {σ:dF}{S M:Nat->Prop}{mp:VS}{w w':World}(h:Inv σ S mp w)(hk:Keep M w w')(hM:∀g,S g->¬M g):Inv σ S mp w':=by
 obtain⟨Sp,T,h,hS⟩:=h
 exact⟨Sp,T,⟨h.ok,h.pg.keep hk (fun g hg=>hM g ((hS g).2 (.inl hg))),h.tx.keep hk (fun g hg=>hM g ((hS g).2 (.inr (.inl hg)))),h.map.keep (hk.block _ h.map.lt (hM _ ((hS _).2 (.inr (.inr rfl))))),h.dis,h.mpS,h.mpT⟩,hS⟩
theorem Inv.below {σ:dF}{S:Nat->Prop}{mp:VS}{w w':World}(h:Inv σ S mp w)(hb:Below w.heap.size w w'):Inv σ S mp w':=h.mH (Keep.of_below hb fH) (fun _ _ e=>e)
theorem bJ.avoid {w:World}{S:Nat->Prop}{k n:Nat}{v:Value}{xs:List Value}(h:bJ w fH k v n xs)(hS:∀g,v.ownBlock=some g->¬S g):bJ w S k v n xs:=by
 obtain⟨ao,c,rfl,h1,h2,h3,h4,h5,h6⟩:=h
 exact⟨ao,c,rfl,h1,h2,h3,h4,fun ad hh=>⟨(h5 ad hh).1,(h5 ad hh).2.1,hS _ (by subst hh;rfl)⟩,h6⟩
theorem bJ.loose {w:World}{S:Nat->Prop}{k n:Nat}{v:Value}{xs:List Value}(h:bJ w S k v n xs):bJ w fH k v n xs:=by
 obtain⟨ao,c,rfl,h1,h2,h3,h4,h5,h6⟩:=h
 exact⟨ao,c,rfl,h1,h2,h3,h4,fun ad hh=>⟨(h5 ad hh).1,(h5 ad hh).2.1,id⟩,h6⟩
theorem dF.ng {σ:dF}{b:Int}(h:σ.hasB b=true):∃n:Nat,b=n/\n<σ.most/\σ.now n=true:=by
 unfold dF.hasB at h
 simp only[dx,bY] at h
 exact⟨b.toNat,by omega,h.2.1,h.2.2⟩
theorem Bc (mp:VS)(σ:dF)(S:Nat->Prop)(w:World)(b:Int)(h:Inv σ S mp w)(hh:σ.hasB b=true):
  Calls Tryz.prog 59 #[.pointer (some ⟨mp.tx,0,none⟩),.int .i64 b] w fun e w'=>∃v,e= .returned (.tuple #[v,.int .i64 0])/\bJ w' S 1 v 512 (aL (σ.mem b))/\(∀g,v.ownBlock=some g->w.heap.size<=g)/\Below w.heap.size w w':=by
 have hsub:=h.sub
 obtain⟨n,rfl,hn,hnow⟩:=dF.ng hh
 obtain⟨Sp,T,h,hS⟩:=h
 have hm:=h.ok.most
 have htx:=h.tx
 rw[hm] at htx
 refine(tread mp.tx mp.pg mp.d σ.H.dk σ.H.lg σ.H.pg _ σ.im Sp T n w h.pg htx h.ok.live h.ok.dlive (by omega)).mono ?_
 rintro e w' ⟨v,rfl,h1,h2,h3⟩
 exact⟨v,rfl,bJ.avoid h1 (fun g hg hs=>absurd (h2 g hg) (fI.2 (hsub g hs))),h2,h3⟩
theorem kF {f g:Nat->Bool}:∀n,(∀x,x<n->f x=g x)->countB f n=countB g n
 |0,_=>rfl
 |n+1,h=>by rw[jG,jG,kF n (fun x hx=>h x (Cj hx)),h n (gV n)]
theorem zm {f:Nat->Bool}{b:Nat}(hf:f b=false):∀n,b<n->countB (gP f b true) n=countB f n+1
 |0,h=>absurd h (oG _)
 |n+1,h=>by
  rw[jG,jG]
  by_cases hb:b=n
  ·subst hb
   rw[kF (f:=gP f b true) (g:=f) b (fun x hx=>by unfold gP;rw[if_neg (by omega)]),hf]
   simp[gP]
  ·rw[zm hf n (by omega)]
   have:gP f b true n=f n:=by unfold gP;rw[if_neg (fun e=>hb e.symm)]
   rw[this];omega
theorem BQ {f:Nat->Bool}{b:Nat}(hf:f b=true):∀n,b<n->countB (gP f b false) n+1=countB f n
 |0,h=>absurd h (oG _)
 |n+1,h=>by
  rw[jG,jG]
  by_cases hb:b=n
  ·subst hb
   rw[kF (f:=gP f b false) (g:=f) b (fun x hx=>by unfold gP;rw[if_neg (by omega)]),hf]
   simp[gP]
  ·have:=BQ hf n (by omega)
   have e:gP f b false n=f n:=by unfold gP;rw[if_neg (fun e=>hb e.symm)]
   rw[e];omega
theorem Ht {f:Nat->Bool}{n:Nat}(h:∀x,x<n->f x=true):countB f n=n:=by
 induction n with
 |zero=>rfl
 |succ n ih=>rw[jG,ih (fun x hx=>h x (Cj hx)),h n (gV n)];rfl
theorem pu {f g:Nat->Bool}:∀n,(∀x,x<n->f x=true->g x=true)->countB f n<=countB g n
 |0,_=>aG _
 |n+1,h=>by
  rw[jG,jG]
  have:=pu n (fun x hx=>h x (Cj hx))
  have h2:=h n (gV n)
  cases hf:f n with
  |false=>simp;omega
  |true=>rw[h2 hf];simp;omega
theorem dF.Ok.gone {σ:dF}(h:σ.Ok)(b:Nat)(hb:2<=b):(σ.gone b).Ok:=
 ⟨h.live,h.dlive,h.most,h.two,h.cap,fun x hx=>by
  show gP σ.now _ false x=false
  unfold gP;split
  ·rfl
  ·exact h.nhi x hx,h.ohi,by
  show gP σ.now _ false 0=true
  unfold gP;rw[if_neg (by omega)];exact h.n0,by
  show gP σ.now _ false 1=true
  unfold gP;rw[if_neg (by omega)];exact h.n1,h.rks,fun x hx hn=>by
  have hn:gP σ.now (b:Int).toNat false x=true:=hn
  unfold gP at hn
  split at hn
  ·cases hn
  ·exact h.own x hx hn,aH (pu _ fun x _ hx=>by
  have hx:(gP σ.now (b:Int).toNat false x||σ.H.old x)=true:=hx
  unfold gP at hx
  split at hx
  ·rw[Bool.false_or] at hx;rw[hx,Bool.or_true]
  ·exact hx) h.szk,h.len⟩
theorem dF.Ok.took {σ:dF}(h:σ.Ok)(b:Nat)(hb:b<σ.most)(hall:∀x,x<b->(σ.now x||σ.H.old x)=true):(σ.took b).Ok:=
 ⟨h.live,h.dlive,h.most,h.two,h.cap,fun x hx=>by
  show gP σ.now _ true x=false
  unfold gP;rw[if_neg (by have:σ.most<=x:=hx;omega)];exact h.nhi x hx,h.ohi,by
  show gP σ.now _ true 0=true
  unfold gP;split
  ·rfl
  ·exact h.n0,by
  show gP σ.now _ true 1=true
  unfold gP;split
  ·rfl
  ·exact h.n1,fun x hx=>(h.rks x hx).imp id (fun y=>⟨y.1,y.2.1,aH y.2.2 (Ip _ _)⟩),fun x hx hn ho=>by
  have hn:gP σ.now b true x=true:=hn
  unfold gP at hn
  split at hn
  ·rename_i e
   subst e
   refine aH (pu _ fun y _ hy=> ?_) (Nat.le_max_right _ _)
   rw[jT,bY] at hy
   unfold gP
   split
   ·rfl
   ·rcases hy with hy|hy
    ·exact hall y (by omega)
    ·have hy:σ.H.old y=true:=hy
     rw[hy,Bool.or_true]
  ·exact aH (h.own x hx hn ho) (Ip _ _),Nat.le_max_right _ _,h.len⟩
theorem rE (p:Pg)(im:Im)(d:Dk)(b x:Nat)(l:List UInt8):p.look (im.put b l) d x=if x=b then l else p.look im d x:=by
 unfold Pg.look
 rw[Im.BJ]
 split<;>rfl
theorem Qo (b x:Nat)(ks:List Nat)(h:x∈zh b ks):x=b\/x∈ks:=mF.1 h
theorem dF.Ok.wrote {σ:dF}(h:σ.Ok)(b:Nat)(l:List UInt8)(hl:l.length=512)(hb:b<σ.most)(hw:b<2\/(σ.now b=true/\σ.H.old b=false)):(σ.wrote b l).Ok:=
 ⟨h.live,h.dlive,h.most,h.two,h.cap,h.nhi,h.ohi,h.n0,h.n1,fun x hx=>by
  rcases Qo b x _ hx with rfl|hx
  ·exact hw.imp id (fun y=>⟨y.2,hb,h.own x hb y.1 y.2⟩)
  ·exact h.rks x hx,h.own,h.szk,fun x hx=>by
  show (σ.H.pg.look (σ.im.put b l) σ.H.dk x).length=512
  rw[rE]
  split
  ·exact hl
  ·exact h.len x hx⟩
theorem rH (mp:VS)(σ:dF)(S:Nat->Prop)(w:World)(b:Int)(h:Inv σ S mp w)(hb:2<=b)(hh:σ.hasB b=true):
  Calls Tryz.prog 285 #[.pointer (some ⟨mp.mp,0,none⟩),.int .i64 b] w fun e w'=>e= .returned (.int .i64 0)/\Inv (σ.gone b) S mp w'/\Step S S w w':=by
 obtain⟨n,rfl,hn,hnow⟩:=dF.ng hh
 obtain⟨Sp,T,h,hS⟩:=h
 refine(Td mp.mp σ.most σ.now σ.H.old n w h.map h.ok.cap (by omega) hn hnow).mono ?_
 rintro e w' ⟨rfl,hm,hk⟩
 refine⟨rfl,⟨Sp,T,⟨h.ok.gone n (by omega),h.pg.keep hk (fun g hg e=>h.mpS (e▸hg)),h.tx.keep hk (fun g hg e=>h.mpT (e▸hg)),hm,h.dis,h.mpS,h.mpT⟩,hS⟩,hk.mono (fun g _ e=>(hS g).2 (.inr (.inr e))),fun g hg=> .inl hg⟩
theorem Kc (mp:VS)(σ:dF)(S:Nat->Prop)(w:World)(h:Inv σ S mp w):
  Calls Tryz.prog 286 #[.pointer (some ⟨mp.mp,0,none⟩)] w fun e w'=>
   (∃f:Nat,e= .returned (.tuple #[.int .i64 f,.int .i64 0])/\2<=f/\f<σ.most/\σ.hasB f=false/\σ.held f=false/\(∀x,x<f->(σ.now x||σ.H.old x)=true)/\Inv (σ.took f) S mp w'/\Step S S w w')\/
   (e= .returned (.tuple #[.int .i64 0,.int .i64 12])/\σ.sz=σ.most/\Inv σ S mp w'/\Step S S w w'):=by
 have hI:=h
 obtain⟨Sp,T,h,hS⟩:=h
 refine(Tc mp.mp σ.most σ.now σ.H.old w h.map h.ok.cap).mono ?_
 rintro e w' (⟨b,h1,h2,h3,rfl,hm,hk⟩|⟨h1,rfl,hb⟩)
 ·obtain⟨hn,ho⟩:=Bool.or_eq_false_iff.1 h2
  have hb2:2<=b:=by
   rcases iW b 2 with hb|hb
   ·rcases (by omega:b=0\/b=1) with rfl|rfl
    ·rw[h.ok.n0] at hn;cases hn
    ·rw[h.ok.n1] at hn;cases hn
   ·exact hb
  refine .inl ⟨b,rfl,hb2,h1,?_,?_,h3,⟨Sp,T,⟨h.ok.took b h1 h3,h.pg.keep hk (fun g hg e=>h.mpS (e▸hg)),h.tx.keep hk (fun g hg e=>h.mpT (e▸hg)),hm,h.dis,h.mpS,h.mpT⟩,hS⟩,hk.mono (fun g _ e=>(hS g).2 (.inr (.inr e))),fun g hg=> .inl hg⟩
  ·unfold dF.hasB
   rw[gH,hn];simp
  ·unfold dF.held
   rw[gH,ho];simp
 ·exact .inr ⟨rfl,Ht h1,hI.below hb,Step.of_below hb⟩
theorem yR (mp:VS)(σ:dF)(S:Nat->Prop)(w:World)(b:Nat)(v:Value)(l:List UInt8)(h:Inv σ S mp w)(hb:b<σ.most)(hv:jw w fH v l)(hl:l.length<=512)(hw:b<2\/(σ.now b=true/\σ.H.old b=false)):
  Calls Tryz.prog 284 #[.pointer (some ⟨mp.tx,0,none⟩),.int .i64 b,v] w fun e w'=>e= .returned (.int .i64 0)/\Inv (σ.wrote b (pad l)) S mp w'/\Step S S w w':=by
 obtain⟨Sp,T,h,hS⟩:=h
 have hm:=h.ok.most
 have htx:=h.tx
 rw[hm] at htx
 refine(Ni mp.tx mp.pg mp.d σ.H.dk σ.H.lg σ.H.pg _ σ.im Sp T b v l w h.pg htx h.ok.live (by omega) hv hl).mono ?_
 rintro e w' ⟨rfl,ht,hs⟩
 rw[<-hm] at ht
 refine⟨rfl,⟨Sp,T,⟨h.ok.wrote b (pad l) (sH hl) hb hw,h.pg.keep hs.1 (fun g hg e=>h.dis g hg e),ht,h.map.keep (hs.1.block _ h.map.lt h.mpT),h.dis,h.mpS,h.mpT⟩,hS⟩,hs.1.mono (fun g _ e=>(hS g).2 (.inr (.inl e))),fun g hg=> .inl hg⟩
theorem dF.NR {σ:dF}{b:Nat}(h:σ.hasB b=true)(hh:σ.held b=false):b<2\/(σ.now b=true/\σ.H.old b=false):=by
 obtain⟨n,e,_,h2⟩:=dF.ng h
 obtain rfl:b=n:=by omega
 unfold dF.held at hh
 exact .inr ⟨h2,by simpa using hh⟩
end Go.Proofs.YtpgdljlghiifjaaGreatDoor
