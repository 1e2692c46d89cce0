/- parts -/
import Derived.Test.YtpmbddooibgnaaaGreatDoorS17
set_option maxRecDepth 100000
set_option maxHeartbeats 8000000
set_option linter.all false
namespace Go.Proofs.YtpmbddooibgnaaaGreatDoor
open Go.RowKit
structure Base where
 dk:Dk
 lg:Lg
 pg:Pg
 old:Nat->Bool
structure bR where
 H:Base
 most:Nat
 im:Im
 now:Nat->Bool
 tk:Nat
structure VS where
 tx:Nat
 pg:Nat
 d:Nat
 mp:Nat
def VS.agg (mp:VS):Value:= .agg #[.pointer (some ⟨mp.tx,0,none⟩),.pointer (some ⟨mp.mp,0,none⟩)]
def bR.hasB (σ:bR)(b:Int):Bool:=decide (0<=b) && (decide (b.toNat<σ.most) && σ.now b.toNat)
def bR.held (σ:bR)(b:Int):Bool:=decide (0<=b) && σ.H.old b.toNat
def bR.mem (σ:bR)(b:Int):List UInt8:=σ.H.pg.look σ.im σ.H.dk b.toNat
def bR.sz (σ:bR):Nat:=countB (fun x=>σ.now x||σ.H.old x) σ.most
def bR.gone (σ:bR)(b:Int):bR:={σ with now:=fD σ.now b.toNat false}
def bR.took (σ:bR)(b:Nat):bR:={σ with now:=fD σ.now b true,tk:=max σ.tk (countB (fun x=>fD σ.now b true x||σ.H.old x) σ.most)}
def bR.wrote (σ:bR)(b:Nat)(l:List UInt8):bR:={σ with im:=σ.im.put b l}
def bR.rk (σ:bR)(b:Nat):Nat:=countB (fun x=>decide (x<=b)||σ.H.old x) σ.most
structure bR.Ok (σ:bR):Prop where
 live:σ.H.pg.dead=false
 dlive:σ.H.dk.dead=false
 most:σ.most=σ.H.pg.blocks σ.H.dk
 two:2<=σ.most
 cap:σ.most<=4096
 nhi:∀b,σ.most<=b->σ.now b=false
 ohi:∀b,σ.most<=b->σ.H.old b=false
 n0:σ.now 0=true
 n1:σ.now 1=true
 rks:∀b∈σ.im.ks,b<2\/(σ.H.old b=false/\b<σ.most/\σ.rk b<=σ.tk)
 own:∀b,b<σ.most->σ.now b=true->σ.H.old b=false->σ.rk b<=σ.tk
 szk:σ.sz<=σ.tk
 len:∀b,b<σ.most->(σ.H.pg.look σ.im σ.H.dk b).length=512
structure Inv' (σ:bR)(Sp T:Nat->Prop)(mp:VS)(w:World):Prop where
 ok:σ.Ok
 pg:iF w Sp mp.pg mp.d σ.H.dk σ.H.lg σ.H.pg (.pointer (some ⟨mp.tx,0,none⟩))
 tx:pJ w T mp.tx mp.pg σ.im σ.most
 map:oK w mp.mp σ.most σ.now σ.H.old
 dis:∀g,Sp g->¬T g
 mpS:¬Sp mp.mp
 mpT:¬T mp.mp
def Inv (σ:bR)(S:Nat->Prop)(mp:VS)(w:World):Prop:=∃Sp T,Inv' σ Sp T mp w/\∀g,S g↔Sp g\/T g\/g=mp.mp
theorem Inv.ok {σ:bR}{S:Nat->Prop}{mp:VS}{w:World}(h:Inv σ S mp w):σ.Ok:=by obtain⟨_,_,h,_⟩:=h;exact h.ok
theorem Inv.cap {σ:bR}{S:Nat->Prop}{mp:VS}{w:World}(h:Inv σ S mp w):σ.most<=4096:=h.ok.cap
theorem Inv.sub {σ:bR}{S:Nat->Prop}{mp:VS}{w:World}(h:Inv σ S mp w):∀g,S g->g<w.heap.size:=by
 obtain⟨Sp,T,h,hS⟩:=h
 intro g hg
 rcases (hS g).1 hg with hg|hg|rfl
 ·exact h.pg.sub g hg
 ·exact h.tx.sub g hg
 ·exact h.map.lt
theorem Inv.mF {σ:bR}{S M:Nat->Prop}{mp:VS}{w w':World}(h:Inv σ S mp w)(hk:Keep M w w')(hM:∀g,S g->¬M g):Inv σ S mp w':=by
 obtain⟨Sp,T,h,hS⟩:=h
 exact⟨Sp,T,⟨h.ok,h.pg.keep hk (fun g hg=>hM g ((hS g).2 (.inl hg))),h.tx.keep hk (fun g hg=>hM g ((hS g).2 (.inr (.inl hg)))),h.map.keep (hk.block _ h.map.lt (hM _ ((hS _).2 (.inr (.inr rfl))))),h.dis,h.mpS,h.mpT⟩,hS⟩
theorem Inv.below {σ:bR}{S:Nat->Prop}{mp:VS}{w w':World}(h:Inv σ S mp w)(hb:Below w.heap.size w w'):Inv σ S mp w':=h.mF (Keep.of_below hb d9) (fun _ _ e=>e)
theorem aW.avoid {w:World}{S:Nat->Prop}{k n:Nat}{v:Value}{xs:List Value}(h:aW w d9 k v n xs)(hS:∀g,v.ownBlock=some g->¬S g):aW w S k v n xs:=by
 obtain⟨ao,c,rfl,h1,h2,h3,h4,h5,h6⟩:=h
 exact⟨ao,c,rfl,h1,h2,h3,h4,fun ad hh=>⟨(h5 ad hh).1,(h5 ad hh).2.1,hS _ (by subst hh;rfl)⟩,h6⟩
theorem aW.loose {w:World}{S:Nat->Prop}{k n:Nat}{v:Value}{xs:List Value}(h:aW w S k v n xs):aW w d9 k v n xs:=by
 obtain⟨ao,c,rfl,h1,h2,h3,h4,h5,h6⟩:=h
 exact⟨ao,c,rfl,h1,h2,h3,h4,fun ad hh=>⟨(h5 ad hh).1,(h5 ad hh).2.1,id⟩,h6⟩
theorem bR.kJ {σ:bR}{b:Int}(h:σ.hasB b=true):∃n:Nat,b=n/\n<σ.most/\σ.now n=true:=by
 unfold bR.hasB at h
 simp only[dI,dB] at h
 exact⟨b.toNat,by omega,h.2.1,h.2.2⟩
theorem y9 (mp:VS)(σ:bR)(S:Nat->Prop)(w:World)(b:Int)(h:Inv σ S mp w)(hh:σ.hasB b=true):
  Calls Tryz.prog 136 #[.pointer (some ⟨mp.tx,0,none⟩),.int .i64 b] w fun e w'=>∃v,e= .returned (.tuple #[v,.int .i64 0])/\aW w' S 1 v 512 (aB (σ.mem b))/\(∀g,v.ownBlock=some g->w.heap.size<=g)/\Below w.heap.size w w':=by
 have hsub:=h.sub
 obtain⟨n,rfl,hn,hnow⟩:=bR.kJ hh
 obtain⟨Sp,T,h,hS⟩:=h
 have hm:=h.ok.most
 have htx:=h.tx
 rw[hm] at htx
 refine(tread mp.tx mp.pg mp.d σ.H.dk σ.H.lg σ.H.pg _ σ.im Sp T n w h.pg htx h.ok.live h.ok.dlive (by omega)).mono ?_
 rintro e w' ⟨v,rfl,h1,h2,h3⟩
 exact⟨v,rfl,aW.avoid h1 (fun g hg hs=>absurd (h2 g hg) (jk.2 (hsub g hs))),h2,h3⟩
theorem iK {f g:Nat->Bool}:∀n,(∀x,x<n->f x=g x)->countB f n=countB g n
 |0,_=>rfl
 |n+1,h=>by rw[dN,dN,iK n (fun x hx=>h x (zX hx)),h n (lT n)]
theorem Bj {f:Nat->Bool}{b:Nat}(hf:f b=false):∀n,b<n->countB (fD f b true) n=countB f n+1
 |0,h=>absurd h (Fj _)
 |n+1,h=>by
  rw[dN,dN]
  by_cases hb:b=n
  ·subst hb
   rw[iK (f:=fD f b true) (g:=f) b (fun x hx=>by unfold fD;rw[if_neg (by omega)]),hf]
   simp[fD]
  ·rw[Bj hf n (by omega)]
   have:fD f b true n=f n:=by unfold fD;rw[if_neg (fun e=>hb e.symm)]
   rw[this];omega
theorem zL {f:Nat->Bool}{b:Nat}(hf:f b=true):∀n,b<n->countB (fD f b false) n+1=countB f n
 |0,h=>absurd h (Fj _)
 |n+1,h=>by
  rw[dN,dN]
  by_cases hb:b=n
  ·subst hb
   rw[iK (f:=fD f b false) (g:=f) b (fun x hx=>by unfold fD;rw[if_neg (by omega)]),hf]
   simp[fD]
  ·have:=zL hf n (by omega)
   have e:fD f b false n=f n:=by unfold fD;rw[if_neg (fun e=>hb e.symm)]
   rw[e];omega
theorem EN {f:Nat->Bool}{n:Nat}(h:∀x,x<n->f x=true):countB f n=n:=by
 induction n with
 |zero=>rfl
 |succ n ih=>rw[dN,ih (fun x hx=>h x (zX hx)),h n (lT n)];rfl
theorem mZ {f g:Nat->Bool}:∀n,(∀x,x<n->f x=true->g x=true)->countB f n<=countB g n
 |0,_=>aA _
 |n+1,h=>by
  rw[dN,dN]
  have:=mZ n (fun x hx=>h x (zX hx))
  have h2:=h n (lT n)
  cases hf:f n with
  |false=>simp;omega
  |true=>rw[h2 hf];simp;omega
theorem bR.Ok.gone {σ:bR}(h:σ.Ok)(b:Nat)(hb:2<=b):(σ.gone b).Ok:=
 ⟨h.live,h.dlive,h.most,h.two,h.cap,fun x hx=>by
  show fD σ.now _ false x=false
  unfold fD;split
  ·rfl
  ·exact h.nhi x hx,h.ohi,by
  show fD σ.now _ false 0=true
  unfold fD;rw[if_neg (by omega)];exact h.n0,by
  show fD σ.now _ false 1=true
  unfold fD;rw[if_neg (by omega)];exact h.n1,h.rks,fun x hx hn=>by
  have hn:fD σ.now (b:Int).toNat false x=true:=hn
  unfold fD at hn
  split at hn
  ·cases hn
  ·exact h.own x hx hn,aG (mZ _ fun x _ hx=>by
  have hx:(fD σ.now (b:Int).toNat false x||σ.H.old x)=true:=hx
  unfold fD at hx
  split at hx
  ·rw[Bool.false_or] at hx;rw[hx,Bool.or_true]
  ·exact hx) h.szk,h.len⟩
theorem bR.Ok.took {σ:bR}(h:σ.Ok)(b:Nat)(hb:b<σ.most)(hall:∀x,x<b->(σ.now x||σ.H.old x)=true):(σ.took b).Ok:=
 ⟨h.live,h.dlive,h.most,h.two,h.cap,fun x hx=>by
  show fD σ.now _ true x=false
  unfold fD;rw[if_neg (by have:σ.most<=x:=hx;omega)];exact h.nhi x hx,h.ohi,by
  show fD σ.now _ true 0=true
  unfold fD;split
  ·rfl
  ·exact h.n0,by
  show fD σ.now _ true 1=true
  unfold fD;split
  ·rfl
  ·exact h.n1,fun x hx=>(h.rks x hx).imp id (fun y=>⟨y.1,y.2.1,aG y.2.2 (Nat.le_max_left _ _)⟩),fun x hx hn ho=>by
  have hn:fD σ.now b true x=true:=hn
  unfold fD at hn
  split at hn
  ·rename_i e
   subst e
   refine aG (mZ _ fun y _ hy=> ?_) (Nat.le_max_right _ _)
   rw[uy,dB] at hy
   unfold fD
   split
   ·rfl
   ·rcases hy with hy|hy
    ·exact hall y (by omega)
    ·have hy:σ.H.old y=true:=hy
     rw[hy,Bool.or_true]
  ·exact aG (h.own x hx hn ho) (Nat.le_max_left _ _),Nat.le_max_right _ _,h.len⟩
theorem qY (p:Pg)(im:Im)(d:Dk)(b x:Nat)(l:List UInt8):p.look (im.put b l) d x=if x=b then l else p.look im d x:=by
 unfold Pg.look
 rw[Im.zF]
 split<;>rfl
theorem OE (b x:Nat)(ks:List Nat)(h:x∈wU b ks):x=b\/x∈ks:=jO.1 h
theorem bR.Ok.wrote {σ:bR}(h:σ.Ok)(b:Nat)(l:List UInt8)(hl:l.length=512)(hb:b<σ.most)(hw:b<2\/(σ.now b=true/\σ.H.old b=false)):(σ.wrote b l).Ok:=
 ⟨h.live,h.dlive,h.most,h.two,h.cap,h.nhi,h.ohi,h.n0,h.n1,fun x hx=>by
  rcases OE b x _ hx with rfl|hx
  ·exact hw.imp id (fun y=>⟨y.2,hb,h.own x hb y.1 y.2⟩)
  ·exact h.rks x hx,h.own,h.szk,fun x hx=>by
  show (σ.H.pg.look (σ.im.put b l) σ.H.dk x).length=512
  rw[qY]
  split
  ·exact hl
  ·exact h.len x hx⟩
theorem EC (mp:VS)(σ:bR)(S:Nat->Prop)(w:World)(b:Int)(h:Inv σ S mp w)(hb:2<=b)(hh:σ.hasB b=true):
  Calls Tryz.prog 619 #[.pointer (some ⟨mp.mp,0,none⟩),.int .i64 b] w fun e w'=>e= .returned (.int .i64 0)/\Inv (σ.gone b) S mp w'/\Step S S w w':=by
 obtain⟨n,rfl,hn,hnow⟩:=bR.kJ hh
 obtain⟨Sp,T,h,hS⟩:=h
 refine(SA mp.mp σ.most σ.now σ.H.old n w h.map h.ok.cap (by omega) hn hnow).mono ?_
 rintro e w' ⟨rfl,hm,hk⟩
 refine⟨rfl,⟨Sp,T,⟨h.ok.gone n (by omega),h.pg.keep hk (fun g hg e=>h.mpS (e▸hg)),h.tx.keep hk (fun g hg e=>h.mpT (e▸hg)),hm,h.dis,h.mpS,h.mpT⟩,hS⟩,hk.mono (fun g _ e=>(hS g).2 (.inr (.inr e))),fun g hg=> .inl hg⟩
theorem NK (mp:VS)(σ:bR)(S:Nat->Prop)(w:World)(h:Inv σ S mp w):
  Calls Tryz.prog 620 #[.pointer (some ⟨mp.mp,0,none⟩)] w fun e w'=>
   (∃f:Nat,e= .returned (.tuple #[.int .i64 f,.int .i64 0])/\2<=f/\f<σ.most/\σ.hasB f=false/\σ.held f=false/\(∀x,x<f->(σ.now x||σ.H.old x)=true)/\Inv (σ.took f) S mp w'/\Step S S w w')\/
   (e= .returned (.tuple #[.int .i64 0,.int .i64 12])/\σ.sz=σ.most/\Inv σ S mp w'/\Step S S w w'):=by
 have hI:=h
 obtain⟨Sp,T,h,hS⟩:=h
 refine(Sy mp.mp σ.most σ.now σ.H.old w h.map h.ok.cap).mono ?_
 rintro e w' (⟨b,h1,h2,h3,rfl,hm,hk⟩|⟨h1,rfl,hb⟩)
 ·obtain⟨hn,ho⟩:=Bool.or_eq_false_iff.1 h2
  have hb2:2<=b:=by
   rcases jv b 2 with hb|hb
   ·rcases (by omega:b=0\/b=1) with rfl|rfl
    ·rw[h.ok.n0] at hn;cases hn
    ·rw[h.ok.n1] at hn;cases hn
   ·exact hb
  refine .inl ⟨b,rfl,hb2,h1,?_,?_,h3,⟨Sp,T,⟨h.ok.took b h1 h3,h.pg.keep hk (fun g hg e=>h.mpS (e▸hg)),h.tx.keep hk (fun g hg e=>h.mpT (e▸hg)),hm,h.dis,h.mpS,h.mpT⟩,hS⟩,hk.mono (fun g _ e=>(hS g).2 (.inr (.inr e))),fun g hg=> .inl hg⟩
  ·unfold bR.hasB
   rw[cB,hn];simp
  ·unfold bR.held
   rw[cB,ho];simp
 ·exact .inr ⟨rfl,EN h1,hI.below hb,Step.of_below hb⟩
theorem Aq (mp:VS)(σ:bR)(S:Nat->Prop)(w:World)(b:Nat)(v:Value)(l:List UInt8)(h:Inv σ S mp w)(hb:b<σ.most)(hv:gT w d9 v l)(hl:l.length<=512)(hw:b<2\/(σ.now b=true/\σ.H.old b=false)):
  Calls Tryz.prog 118 #[.pointer (some ⟨mp.tx,0,none⟩),.int .i64 b,v] w fun e w'=>e= .returned (.int .i64 0)/\Inv (σ.wrote b (pad l)) S mp w'/\Step S S w w':=by
 obtain⟨Sp,T,h,hS⟩:=h
 have hm:=h.ok.most
 have htx:=h.tx
 rw[hm] at htx
 refine(FN mp.tx mp.pg mp.d σ.H.dk σ.H.lg σ.H.pg _ σ.im Sp T b v l w h.pg htx h.ok.live (by omega) hv hl).mono ?_
 rintro e w' ⟨rfl,ht,hs⟩
 rw[<-hm] at ht
 refine⟨rfl,⟨Sp,T,⟨h.ok.wrote b (pad l) (mJ hl) hb hw,h.pg.keep hs.1 (fun g hg e=>h.dis g hg e),ht,h.map.keep (hs.1.block _ h.map.lt h.mpT),h.dis,h.mpS,h.mpT⟩,hS⟩,hs.1.mono (fun g _ e=>(hS g).2 (.inr (.inl e))),fun g hg=> .inl hg⟩
theorem y7 {f:Nat->Bool}:∀(n:Nat) (l:List Nat),l.Pairwise (· < ·)->(∀x∈l,x<n/\f x=true)->l.length<=countB f n:=by
 intro n
 induction n with
 |zero=>
  intro l _ h
  cases l with
  |nil=>exact aN _
  |cons a l=>exact absurd (h a (aP ..)).1 (Fj _)
 |succ n ih=>
  intro l hr h
  rw[dN]
  rcases FB l with rfl|⟨l,a,rfl⟩
  ·exact aN _
  ·rw[FC] at hr h ⊢
   obtain⟨r1,_,r3⟩:=tO.1 hr
   have ha:=h a (bX _ (bO.2 rfl))
   have hl:∀x∈l,x<n/\f x=true:=fun x hx=>⟨by have:=r3 x hx a (bO.2 rfl);omega,(h x (cO _ hx)).2⟩
   rw[ay,dJ]
   by_cases e:a=n
   ·have:=ih l r1 hl
    rw[<-e,ha.2,e]
    exact Nat.succ_le_succ this
   ·have:=ih (l++[a]) hr (fun x hx=>by
     rcases dG.1 hx with hx|hx
     ·exact hl x hx
     ·rw[bO.1 hx];exact⟨by omega,ha.2⟩)
    rw[ay,dJ] at this
    omega
theorem zM {f g:Nat->Bool}(hd:∀x,f x=true->g x=false):∀n,countB f n+countB g n=countB (fun x=>f x||g x) n
 |0=>rfl
 |n+1=>by
  rw[dN,dN,dN,<-zM hd n]
  have:=hd n
  cases hf:f n<;>cases hg:g n<;>simp[hf,hg] at this ⊢<;>omega
theorem vM (f g:Nat->Bool):∀n,countB (fun x=>f x||g x) n<=countB f n+countB g n
 |0=>aA _
 |n+1=>by
  rw[dN,dN,dN]
  have:=vM f g n
  cases hf:f n<;>cases hg:g n<;>simp<;>omega
theorem uf:∀n,countB (fun x=>decide (x<2)) n<=2
 |0=>aN _
 |1=>by rw[dN];exact nM _
 |2=>aA _
 |n+3=>by
  rw[dN]
  have:=uf (n+2)
  have e:decide (n+2<2)=false:=by simp
  rw[e]
  exact this
theorem bR.Ok.Rh {σ:bR}(h:σ.Ok)(hr:σ.im.ks.Pairwise (· < ·)):σ.im.ks.length+countB σ.H.old σ.most<=σ.tk+2:=by
 by_cases hk:∃b∈σ.im.ks,2<=b
 ·obtain⟨m,hm,hmax⟩:∃m∈σ.im.ks,∀x∈σ.im.ks,x<=m:=by
   rcases FB σ.im.ks with e|⟨l,a,e⟩
   ·rw[e] at hk;obtain⟨b,hb,_⟩:=hk;cases hb
   ·rw[FC] at e
    rw[e] at hr ⊢
    refine⟨a,bX _ (bO.2 rfl),fun x hx=> ?_⟩
    rcases dG.1 hx with hx|hx
    ·exact iP ((tO.1 hr).2.2 x hx a (bO.2 rfl))
    ·rw[bO.1 hx];exact aA _
  obtain⟨b,hb,hb2⟩:=hk
  have hm2:2<=m:=aG hb2 (hmax b hb)
  obtain⟨_,hmm,hrk⟩:=(h.rks m hm).resolve_left (by omega)
  have h1:=y7 (f:=fun x=>decide (x<2)||(decide (x<=m) && !σ.H.old x)) σ.most σ.im.ks hr (fun x hx=>by
   have hxm:=hmax x hx
   rcases h.rks x hx with y|⟨y,y2,_⟩
   ·exact⟨by omega,by simp[y]⟩
   ·exact⟨y2,by simp[y,hxm]⟩)
  have h2:countB (fun x=>decide (x<2)||(decide (x<=m) && !σ.H.old x)) σ.most<=countB (fun x=>decide (x<2)) σ.most+countB (fun x=>decide (x<=m) && !σ.H.old x) σ.most:=vM _ _ _
  have h3:countB (fun x=>decide (x<2)) σ.most<=2:=uf _
  have h4:=zM (f:=fun x=>decide (x<=m) && !σ.H.old x) (g:=σ.H.old) (fun x hx=>by simp at hx;exact hx.2) σ.most
  have h5:countB (fun x=>decide (x<=m) && !σ.H.old x||σ.H.old x) σ.most=σ.rk m:=iK _ (fun x _=>by cases σ.H.old x<;>simp)
  omega
 ·have h1:=y7 (f:=fun x=>decide (x<2)) 2 σ.im.ks hr (fun x hx=>by
   have:¬2<=x:=fun e=>hk ⟨x,hx,e⟩
   exact⟨by omega,by simp;omega⟩)
  have h2:countB (fun x=>decide (x<2)) 2<=2:=uf _
  have ht:=h.szk
  have h3:countB σ.H.old σ.most<=σ.sz:=mZ _ (fun x _ hx=>by rw[hx,Bool.or_true])
  omega
end Go.Proofs.YtpmbddooibgnaaaGreatDoor
