/- parts -/
import Derived.Test.YtbfjgkafmlbpcaaGreatDoorT1
import Derived.Test.YtbfjgkafmlbpcaaGreatDoorT3
import Derived.Test.YtbfjgkafmlbpcaaGreatDoorT14
import Derived.Test.YtbfjgkafmlbpcaaGreatDoorT15
import Derived.Test.YtbfjgkafmlbpcaaGreatDoorT16
import Derived.Test.YtbfjgkafmlbpcaaGreatDoorT18
set_option maxRecDepth 100000
set_option maxHeartbeats 8000000
set_option linter.all false
namespace Go.Proofs.YtbfjgkafmlbpcaaGreatDoor
open Go.RowKit
structure BK (σ:bY)(b:Int)(nd:Nd):Prop where
 has:σ.hasB b=true
 lo:2<=b
 hi:b<=4096
 mem:∃rest,σ.mem b=nd.enc++rest
 fits:nd.Fits
def cK (w:World)(t:Nat)(mp:VS)(root err:Int):Prop:=w.heap[t]? =some (.cells #[.iface 123 mp.agg,.int .i64 root,.int .i64 err] 191 (0,0))
theorem l7 (t:Nat)(mp:VS)(root err b deep:Int)(σ:bY)(S:Nat->Prop)(nd:Nd)(w:World)(h:Inv σ S mp w)(ht:cK w t mp root err)(hb:BK σ b nd)(hd:deep<=40):
  Calls Tryz.prog 149 #[.pointer (some ⟨t,0,none⟩),.int .i64 b,.int .i64 deep] w fun e w'=>∃nb,e= .returned (.tuple #[.pointer (some ⟨nb,0,none⟩),.int .i64 0])/\ic w' S w.heap.size nb nd/\Below w.heap.size w w':=by
 obtain⟨c0,c1,c2,_,_,_,hlt⟩:=cells3 ht
 obtain⟨rest,hmem⟩:=hb.mem
 have hrd:=Aw mp σ S w b h hb.has
 have hfit:=hb.fits
 have hsub:=h.sub
 have hl5:(nd.enc++rest).length=512:=by
  rw[<-hmem];obtain⟨n,rfl,hn,_⟩:=bY.l8 hb.has;exact h.ok.len n hn
 rw[hmem] at hrd
 have hd2:¬((40:Int)<deep):=by omega
 go_enter Tryz.func149,Tryz.ntmps149
 have hm:∀w,(method 607 123 mp.agg "Read").run Tryz.prog w= .ok (63,.pointer (some ⟨mp.tx,0,none⟩)) w:=fun _=>by kernel_rfl
 have HRd:=af hrd;clear hrd hmem
 go_wp2_with (first
  |(refine HRd.out.mono ?_;rintro e w1 ⟨v,rfl,hv,_,hbel1⟩)
  |(go_at_call 197;go_must ((refine(IV _ nd rest w1 S (fun g hg=>ak (hsub g hg) hbel1.size) (by unfold ji;rw[hl5];exact hv) hfit (by rw[hl5];omega)).mono ?_);rintro e w2 ⟨nb,rfl,hn,hbel2⟩)))
 go_ret2
 refine⟨nb,rfl,?_,hbel1.trans (hbel2.mono hbel1.size)⟩
 obtain⟨q0,q1,v0,v1,v2,q2,q3,q4,q5⟩:=hn
 exact⟨q0,aI hbel1.size q1,v0,v1,v2,q2,q3.base hbel1.size,q4.base hbel1.size,q5.base hbel1.size⟩
theorem cK.step {w w':World}{t:Nat}{mp:VS}{root err:Int}{S S':Nat->Prop}(h:cK w t mp root err)(hS:¬S t)(hs:Step S S' w w'):cK w' t mp root err/\¬S' t:=by
 have hl:=(ah.1 h).1
 exact⟨(hs.1.block t hl hS).trans h,fun x=>(hs.2 t x).elim hS (fun y=>absurd hl (bE.2 y))⟩
theorem EL (t:Nat)(mp:VS)(root err b deep:Int)(σ:bY)(S:Nat->Prop)(nd:Nd)(w:World)(h:Inv σ S mp w)(ht:cK w t mp root err)(_hst:¬S t)(hb:BK σ b nd)(hd:deep<=40):
  Calls Tryz.prog 208 #[.pointer (some ⟨t,0,none⟩),.int .i64 b,.int .i64 deep] w fun e w'=>∃nb,e= .returned (.pointer (some ⟨nb,0,none⟩))/\ic w' S w.heap.size nb nd/\Inv (σ.gone b) S mp w'/\Step S S w w':=by
 have hlt:t<w.heap.size:=(ah.1 ht).1
 go_enter Tryz.func208,Tryz.ntmps208
 have hm:∀w,(method 607 123 mp.agg "Free").run Tryz.prog w= .ok (382,.pointer (some ⟨mp.mp,0,none⟩)) w:=fun _=>by kernel_rfl
 go_wp2_with (first
  |(go_at_call 149;go_must ((refine(l7 t mp root err b deep σ S nd w h ht hb hd).mono ?_);rintro e w1 ⟨nb,rfl,hn,hbel1⟩))
  |(go_at_call 207;go_must ((refine(ny _).mono ?_);rintro e w1 ⟨rfl,rfl⟩;refine Stop.of ?_)))
 refine Stop.on ?_
 obtain⟨c0,_,_,_,_,_,hlt1⟩:=cells3 ((hbel1.block t hlt).trans ht)
 go_wp2_with (first
  |(go_at_call 382;go_must ((refine(qN mp σ S _ b (h.below hbel1) hb.lo hb.has).mono ?_);rintro e w2 ⟨rfl,hI,hs⟩))
  |(go_at_call 207;go_must ((refine(ny _).mono ?_);rintro e w1 ⟨rfl,rfl⟩;refine Stop.of ?_)))
 refine Stop.on ?_
 go_wp2_with fail
 go_ret
 exact⟨nb,rfl,hn.step hs,hI,(Step.of_below hbel1).trans hs⟩
structure Wrote (σ:bY)(b:Int)(nd:Nd)(σ':bY):Prop where
 new:σ.hasB b=false
 nheld:σ.held b=false
 blk:BK σ' b nd
 other:∀x,x≠b->σ'.hasB x=σ.hasB x/\σ'.mem x=σ.mem x
 size:σ'.sz=σ.sz+1
 held:σ'.H=σ.H
 most:σ'.most=σ.most
 tk:σ'.tk=max σ.tk σ'.sz
def BA (mp:VS)(σ:bY)(S:Nat->Prop)(w:World)(e:Ending)(w':World):Prop:=
 e= .panicked (brk 12)/\∃σ' S',Inv σ' S' mp w'/\Step S S' w w'/\σ'.H=σ.H/\σ'.most=σ.most
theorem BA.after {mp:VS}{σ σ1:bY}{S S1:Nat->Prop}{w w1 w':World}{e:Ending}(h:BA mp σ1 S1 w1 e w')(hs:Step S S1 w w1)(h1:σ1.H=σ.H)(h2:σ1.most=σ.most):BA mp σ S w e w':=by
 obtain⟨he,σ',S',a,b,c,d⟩:=h
 exact⟨he,σ',S',a,hs.trans b,c.trans h1,d.trans h2⟩
theorem LF {σ:bY}(ok:σ.Ok){f:Nat}{nd:Nd}(f1:2<=f)(f2:f<σ.most)(f3:σ.hasB f=false)(f4:σ.held f=false)(hfit:nd.Fits):Wrote σ f nd ((σ.took f).wrote f (pad nd.enc)):=by
 have hcap:=ok.cap
 have hnow:σ.now f=false:=by
  unfold bY.hasB at f3
  simpa [f2] using f3
 have hold:σ.H.old f=false:=by
  unfold bY.held at f4
  simpa using f4
 have hx:∀x:Int,x≠f->0<=x->x.toNat≠f:=fun x hx h0 e=>hx (by omega)
 refine⟨f3,f4,⟨?_,by omega,by omega,⟨List.replicate (512 - nd.enc.length) 0,?_⟩,hfit⟩,fun x hne=>⟨?_,?_⟩,?_,rfl,rfl,rfl⟩
 ·show (decide ((0:Int)<=(f:Int)) && (decide ((f:Int).toNat<σ.most) && gm σ.now f true (f:Int).toNat))=true
  simp[gm,f2]
 ·show σ.H.pg.look (σ.im.put f (pad nd.enc)) σ.H.dk (f:Int).toNat=_
  rw[qM,fT,if_pos rfl];rfl
 ·show (decide (0<=x) && (decide (x.toNat<σ.most) && gm σ.now f true x.toNat))=_
  unfold bY.hasB
  by_cases h0:0<=x
  ·unfold gm;rw[if_neg (hx x hne h0)]
  ·simp[h0]
 ·show σ.H.pg.look (σ.im.put f (pad nd.enc)) σ.H.dk x.toNat=σ.H.pg.look σ.im σ.H.dk x.toNat
  rw[qM]
  split
  ·rename_i e
   exact absurd (by omega:x=f) hne
  ·rfl
 ·show countB (fun x=>gm σ.now f true x||σ.H.old x) σ.most=countB (fun x=>σ.now x||σ.H.old x) σ.most+1
  rw[<-yH (f:=fun x=>σ.now x||σ.H.old x) (b:=f) (by rw[hnow,hold];rfl) _ f2]
  refine jV _ (fun x _=> ?_)
  unfold gm
  split<;>simp
theorem Cj (t:Nat)(mp:VS)(root err:Int)(σ:bY)(S:Nat->Prop)(nb:Nat)(nd:Nd)(least:ByteArray)(w:World)(h:Inv σ S mp w)(ht:cK w t mp root err)(hst:¬S t)(hn:fD w S nb nd)(hfit:nd.Fits)(hs:nd.size<=512):
  Calls Tryz.prog 253 #[.pointer (some ⟨t,0,none⟩),.pointer (some ⟨nb,0,none⟩),.string least] w fun e w'=>(∃(f:Nat) (σ':bY) (S':Nat->Prop),e= .returned (.agg #[.int .i64 f,.string least])/\Wrote σ f nd σ'/\Inv σ' S' mp w'/\Step S S' w w')\/(σ.sz=σ.most/\BA mp σ S w e w'):=by
 obtain⟨c0,_,_,_,_,_,hlt⟩:=cells3 ht
 have hnb:nb<w.heap.size:=by obtain⟨_,_,_,_,hb,_⟩:=hn;exact(ah.1 hb).1
 have hsub:=h.sub
 go_enter Tryz.func253,Tryz.ntmps253
 have hmT:∀w,(method 607 123 mp.agg "Take").run Tryz.prog w= .ok (383,.pointer (some ⟨mp.mp,0,none⟩)) w:=fun _=>by kernel_rfl
 have hmW:∀w,(method 607 123 mp.agg "Write").run Tryz.prog w= .ok (381,.pointer (some ⟨mp.tx,0,none⟩)) w:=fun _=>by kernel_rfl
 have hb0:=aF w (.cells #[.int .i64 0,.string ⟨#[]⟩] 324)
 go_wp2_with (first
  |(go_at_call 383;go_must ((refine(Jc mp σ S _ (h.below hb0)).mono ?_);rintro e w1 (⟨f,rfl,f1,f2,f3,f4,f6,hI1,hs1⟩|⟨rfl,hfull,hI1,hs1⟩)<;>refine Stop.of ?_)))
 rotate_left
 ·refine Stop.on ?_
  have HFU:=af hfull;clear hfull
  go_wp2_with (first
   |(go_at_call 207;go_must ((refine(MW 12 rfl _).mono ?_);rintro e w2 ⟨rfl,hw⟩;subst w2)))
  exact⟨rfl,.inr ⟨HFU.out,rfl,σ,S,hI1,(Step.of_below hb0).trans hs1,rfl,rfl⟩⟩
 refine Stop.on ?_
 go_wp2_with (first
  |(go_at_call 207;go_must ((refine(ny _).mono ?_);rintro e w2 ⟨rfl,hw⟩;subst w2)))
 have hstep1:Step S S w w1:=(Step.of_below hb0).trans hs1
 have ht1:=ht.step hst hstep1
 have hn1:=hn.step hstep1
 have hsub1:=hI1.sub
 have hcellr:w1.heap[w.heap.size]? =some (.cells #[.int .i64 0,.string ⟨#[]⟩] 324 (0,0)):=(hs1.1.block _ (by rw[aV];exact gB _) (fun x=>absurd (hsub _ x) (di _))).trans (aK _ _)
 obtain⟨c1,_,_,_,_,_,hlt1⟩:=cells3 ht1.1
 have hnb1:nb<w1.heap.size:=ak hnb hstep1.1.size
 have hcap:=h.cap
 have HF2:=af f2
 have f5:f<=4096:=by omega
 clear f2 c0
 refine aN (fun W=>W.cell? ⟨t,0,none⟩=some (.iface 123 mp.agg)/\t<W.heap.size) (fun i=> !([6,9,10].contains i)) [0,1,2,3,4,5,7,8,6,9,10] rfl (by kernel_rfl) ⟨c1,hlt1⟩ ?_
 repeat ((refine bL (v:= ?_) rfl rfl (fun _ _ _ h=>h) rfl (fun W hW=> ?_) ?_);rotate_left;(focus ((try dsimp only at hW);have q0:=hW.1;have q1:=hW.2;first|(go_simp;first|done|with_reducible rfl)));(try simp only[Act.put,ai,au,aj]))
 have hE:=IG nb nd w1.drew S hsub1 hn1 (by omega) hfit.kd
 refine dA rfl rfl rfl ?_;intro K hK;go_simp
 refine hE.mono ?_;rintro e w2 ⟨v,rfl,hv,hbel2⟩
 have hI2:Inv (σ.took f) S mp w2:=hI1.below (((aO _ w1).drew).trans hbel2)
 have hs2:Step S S w1 w2:=Step.of_below (((aO _ w1).drew).trans hbel2)
 have ht2:=ht1.1.step ht1.2 hs2
 obtain⟨c2,_,_,_,_,_,hlt2⟩:=cells3 ht2.1
 refine hK.out _ _ ⟨c2,hlt2⟩ ?_
 have hvb:ji w2 gJ v nd.enc:=bn.loose hv.cZ
 have hel:nd.enc.length<=512:=by rw[Nd.Bg];exact hs
 have hWr:=yg mp _ S w2 f v nd.enc hI2 HF2.out hvb hel (.inr ⟨by simp[bY.took,gm],by show σ.H.old f=false;have:=f4;unfold bY.held at this;simpa using this⟩)
 have HWr:=af hWr;clear hWr hE
 refine dA rfl rfl rfl ?_;intro K hK;go_simp
 refine HWr.out.mono ?_;rintro e w3 ⟨rfl,hI3,hs3⟩
 have hs13:Step S S w1 w3:=hs2.trans hs3
 have ht3:=ht1.1.step ht1.2 hs13
 obtain⟨c3,_,_,_,_,_,hlt3⟩:=cells3 ht3.1
 refine hK.out _ _ ⟨c3,hlt3⟩ ?_
 refine dA rfl rfl rfl ?_;intro K hK;go_simp
 refine(ny _).mono ?_;rintro e w4 ⟨rfl,hw⟩;subst w4
 refine hK.out _ _ ⟨c3,hlt3⟩ ?_
 refine bO ?_
 have hw1:w.heap.size<w1.heap.size:=(ah.1 hcellr).1
 have hS1r:¬S w.heap.size:=fun x=>absurd (hsub _ x) (di _)
 have hr3:w3.heap[w.heap.size]? =some (.cells #[.int .i64 0,.string ⟨#[]⟩] 324 (0,0)):=(hs13.1.block _ hw1 hS1r).trans hcellr
 have hr3lt:w.heap.size<w3.heap.size:=(ah.1 hr3).1
 have r0:w3.cell? ⟨w.heap.size,0,none⟩=some (.int .i64 0):=by simp[World.cell?,hr3]
 have r1:w3.cell? ⟨w.heap.size,1,none⟩=some (.string ⟨#[]⟩):=by simp[World.cell?,hr3]
 have g0:w3.frozen? ⟨w.heap.size,0,none⟩=false:=by simp[World.frozen?,hr3]
 have g1:w3.frozen? ⟨w.heap.size,1,none⟩=false:=by simp[World.frozen?,hr3]
 have hi3:=hI3.sub
 have HW6:=af (ay f3 (ay f4 f6))
 clear c1 c2 c3 hcellr f3 f4 f6
 go_wp2_with fail
 have hk5:Keep (· =w.heap.size) w3 ((w3.setCell ⟨w.heap.size,0,none⟩ (.int .i64 f)).setCell ⟨w.heap.size,1,none⟩ (.string least)):=((Keep.refl (· =w.heap.size) w3).setCell (p:=⟨w.heap.size,0,none⟩) (.inr rfl) _).setCell (p:=⟨w.heap.size,1,none⟩) (.inr rfl) _
 have hfin:((w3.setCell ⟨w.heap.size,0,none⟩ (.int .i64 f)).setCell ⟨w.heap.size,1,none⟩ (.string least)).heap[w.heap.size]? =some (.cells #[.int .i64 f,.string least] 324 (0,0)):=by
  simp[World.setCell,aS,hr3]
 refine eO (vY rfl _ _ _ 324 #[.int .i64 f,.string least] (0,0) _ rfl hfin Tryz.underlying324 rfl rfl) rfl ?_
 have hst3:Step S S w w3:=hstep1.trans hs13
 refine .inl ⟨f,_,S,rfl,?_,hI3.nD hk5 (fun g hg e=>hS1r (by rw[<-e];exact hg)),hst3.1.trans hk5 (fun i hi e=>absurd hi (by rw[e];exact di _)),hst3.2⟩
 exact LF h.ok f1 HF2.out HW6.out.1 HW6.out.2.1 hfit
structure Nd.Ok (nd:Nd):Prop where
 pr:∀p∈nd.pairs,p.1.size<=128/\p.2.size<=64
 ky:∀k∈nd.keys,k.size<=128
 kd:∀k∈nd.kids,1<=k/\k<=4096
 kk:nd.keys.length=nd.kids.length - 1
 one:nd.kids≠[]->nd.pairs=[]
 np:nd.pairs.length<=2000
 nk:nd.kids.length<=2000
theorem sP (ps:List Pr)(h:∀p∈ps,p.1.size<=128/\p.2.size<=64):dO ps<=194*ps.length:=by
 induction ps with
 |nil=>exact bf _
 |cons p ps ih=>
  have h1:=h p (by simp)
  have:=ih (fun q hq=>h q (by simp[hq]))
  rw[mK,aY];omega
theorem rC (ps:List ByteArray)(h:∀p∈ps,p.size<=128):dI ps<=129*ps.length:=by
 induction ps with
 |nil=>exact bf _
 |cons p ps ih=>
  have h1:=h p (by simp)
  have:=ih (fun q hq=>h q (by simp[hq]))
  rw[jS,aY];omega
theorem Nd.Ok.size_le {nd:Nd}(h:nd.Ok):nd.size<=1000000:=by
 have h1:=sP _ h.pr
 have h2:=rC _ h.ky
 have h3:=h.np
 have h4:=h.nk
 have h5:=h.kk
 unfold Nd.size
 omega
theorem Nd.Ok.fits {nd:Nd}(h:nd.Ok)(hs:nd.size<=512)(hne:nd.kids≠[]\/nd.pairs≠[]):nd.Fits:=by
 have h1:=nS nd.pairs
 have h2:=nC nd.keys
 unfold Nd.size at hs
 refine⟨by omega,by omega,fun p hp=> ?_,fun k hk=> ?_,fun k hk=> ?_,h.kk,?_,?_⟩
 ·have:=h.pr p hp;omega
 ·have:=h.ky k hk;omega
 ·have:=h.kd k hk;omega
 ·intro hp hk;exact hne.elim (fun x=>x hk) (fun x=>x hp)
 ·intro hk;exact h.one hk
inductive uO:Nd->ByteArray->List (ByteArray×Nd)->Prop
 |none {nd l}:nd.kids=[]->nd.pairs=[]->uO nd l []
 |one {nd l}:(nd.kids≠[]\/nd.pairs≠[])->nd.size<=512->uO nd l [(leastOf nd l,nd)]
 |leaf {nd l} (i:Nat) (hi:i<nd.pairs.length) {A B}:nd.kids=[]->512<nd.size->1<=i->uQ nd i->uO ⟨nd.pairs.take i,[],[]⟩ l A->uO ⟨nd.pairs.drop i,[],[]⟩ (leastOf ⟨nd.pairs.drop i,[],[]⟩ nd.pairs[i].1) B->uO nd l (A++B)
 |inner {nd l} (i:Nat) (hi:i - 1<nd.keys.length) {A B}:nd.kids≠[]->512<nd.size->i=nd.kids.length/2->uO ⟨[],nd.keys.take (i - 1),nd.kids.take i⟩ l A->uO ⟨[],nd.keys.drop i,nd.kids.drop i⟩ (leastOf ⟨[],nd.keys.drop i,nd.kids.drop i⟩ nd.keys[i - 1]) B->uO nd l (A++B)
def Puts:bY->List Pc->List (ByteArray×Nd)->bY->Prop
 |σ,[],[],σ'=>σ'=σ
 |σ,p::ps,z::zs,σ'=>∃σ1,p.2=z.1/\Wrote σ p.1 z.2 σ1/\Puts σ1 ps zs σ'
 |_,_,_,_=>False
theorem Puts.append {σ σ1 σ2:bY}{ps qs:List Pc}{zs ys:List (ByteArray×Nd)}(h:Puts σ ps zs σ1)(k:Puts σ1 qs ys σ2):Puts σ (ps++qs) (zs++ys) σ2:=by
 induction ps generalizing σ zs with
 |nil=>
  cases zs with
  |nil=>cases h;exact k
  |cons z zs=>exact absurd h id
 |cons p ps ih=>
  cases zs with
  |nil=>exact absurd h id
  |cons z zs=>
   obtain⟨τ,h1,h2,h3⟩:=h
   exact⟨τ,h1,h2,ih h3⟩
theorem Puts.length {σ σ1:bY}{ps:List Pc}{zs:List (ByteArray×Nd)}(h:Puts σ ps zs σ1):ps.length=zs.length/\σ1.sz=σ.sz+zs.length/\σ1.most=σ.most/\σ1.H=σ.H/\σ1.tk<=max σ.tk σ1.sz:=by
 induction ps generalizing σ zs with
 |nil=>
  cases zs with
  |nil=>cases h;exact⟨rfl,rfl,rfl,rfl,Gx _ _⟩
  |cons z zs=>exact absurd h id
 |cons p ps ih=>
  cases zs with
  |nil=>exact absurd h id
  |cons z zs=>
   obtain⟨τ,h1,h2,h3⟩:=h
   have:=ih h3
   have s:=h2.size
   have k:=h2.tk
   refine⟨by simp[this.1],by rw[this.2.1,aY];omega,this.2.2.1.trans h2.most,this.2.2.2.1.trans h2.held,by have t1:=this.2.1;have t2:=this.2.2.2.2;omega⟩
def Nd.room (nd:Nd):Nat:=nd.pairs.length+(if nd.kids=[] then 0 else max 1 (nd.kids.length/2))
theorem Nd.Ok.big {nd:Nd}(h:nd.Ok)(hs:512<nd.size):(nd.kids=[]->3<=nd.pairs.length)/\(nd.kids≠[]->5<=nd.kids.length):=by
 have h1:=sP _ h.pr
 have h2:=rC _ h.ky
 have h5:=h.kk
 unfold Nd.size at hs
 constructor
 ·intro hk
  rw[hk] at h5 hs
  simp only[bI] at h5 hs
  rw[h5] at h2
  omega
 ·intro hk
  have hp:=h.one hk
  rw[hp] at h1 hs
  simp only[bI] at h1
  omega
theorem Nd.Ok.left {nd:Nd}(h:nd.Ok)(i:Nat)(_hk:nd.kids=[]):Nd.Ok ⟨nd.pairs.take i,[],[]⟩:=
 ⟨fun p hp=>h.pr p (fo hp),by simp,by simp,rfl,by simp,by have:=h.np;simp only[aC];omega,by simp⟩
theorem Nd.Ok.right {nd:Nd}(h:nd.Ok)(i:Nat)(_hk:nd.kids=[]):Nd.Ok ⟨nd.pairs.drop i,[],[]⟩:=
 ⟨fun p hp=>h.pr p (bU hp),by simp,by simp,rfl,by simp,by have:=h.np;simp;omega,by simp⟩
theorem Nd.Ok.CV {nd:Nd}(h:nd.Ok)(i:Nat)(hi:i<=nd.kids.length):Nd.Ok ⟨[],nd.keys.take (i - 1),nd.kids.take i⟩:=
 ⟨by simp,fun k hk=>h.ky k (fo hk),fun k hk=>h.kd k (fo hk),by have:=h.kk;simp;omega,by simp,by simp,by have:=h.nk;simp;omega⟩
theorem Nd.Ok.yw {nd:Nd}(h:nd.Ok)(i:Nat):Nd.Ok ⟨[],nd.keys.drop i,nd.kids.drop i⟩:=
 ⟨by simp,fun k hk=>h.ky k (bU hk),fun k hk=>h.kd k (bU hk),by have:=h.kk;simp;omega,by simp,by simp,by have:=h.nk;simp;omega⟩
theorem uO.room {nd:Nd}{l:ByteArray}{zs:List (ByteArray×Nd)}(h:uO nd l zs)(ok:nd.Ok):zs.length<=nd.room:=by
 induction h with
 |none h1 h2=>simp
 |@one nd l h1 h2=>
  unfold Nd.room
  rcases h1 with h1|h1
  ·rw[if_neg h1];simp;omega
  ·have:=bS.2 h1;simp;omega
 |@leaf nd l i hi A B hk hs hi1 _ _ _ iha ihb=>
  have a:=iha (ok.left i hk)
  have b:=ihb (ok.right i hk)
  unfold Nd.room at*
  rw[hk]
  simp at*
  omega
 |@inner nd l i hi A B hk hs hi1 _ _ iha ihb=>
  have a:=iha (ok.CV i (by omega))
  have b:=ihb (ok.yw i)
  have h5:=(ok.big hs).2 hk
  unfold Nd.room at*
  have n1:nd.kids.take i≠[]:=fun e=>by have:=congrArg List.length e;simp only[aC,bI] at this;omega
  have n2:nd.kids.drop i≠[]:=fun e=>by have:=congrArg List.length e;simp only[aJ,bI] at this;omega
  rw[if_neg n1] at a
  rw[if_neg n2] at b
  rw[if_neg hk]
  simp only[aC,aJ,bI,av] at*
  omega
def kR (mp:VS)(σ:bY)(S:Nat->Prop)(nd:Nd)(least:ByteArray)(w:World)(e:Ending)(w':World):Prop:=
 (∃v ps zs σ' S',e= .returned v/\aP w' S' w.heap.size 324 2 v ps.length (kQ ps)/\uO nd least zs/\Puts σ ps zs σ'/\Inv σ' S' mp w'/\Step S S' w w')\/(σ.most<σ.sz+nd.room/\BA mp σ S w e w')
theorem MI {nd:Nd}(hne:nd.kids≠[]\/nd.pairs≠[]):1<=nd.room:=by
 unfold Nd.room
 rcases hne with h|h
 ·rw[if_neg h];omega
 ·have:=bS.2 h;omega
theorem ER (t:Nat)(mp:VS)(σ:bY)(S:Nat->Prop)(nb:Nat)(nd:Nd)(least:ByteArray)(w:World)(h:Inv σ S mp w)(hn:fD w S nb nd)(hk:nd.kids=[])(hp:nd.pairs=[]):
  Calls Tryz.prog 206 #[.pointer (some ⟨t,0,none⟩),.pointer (some ⟨nb,0,none⟩),.string least] w (kR mp σ S nd least w):=by
 have hN:=hn
 obtain⟨_,v0,v1,v2,hb,h0,h1,h2⟩:=hn
 obtain⟨c0,c1,c2,_,_,_,hlt⟩:=cells3 hb
 obtain⟨ao0,cp0,rfl,n0,m0,_,_⟩:=bn.form h0
 have hke:nd.kids.isEmpty=true:=by rw[hk];rfl
 have hpl:nd.pairs.length=0:=by rw[hp];rfl
 go_enter Tryz.func206,Tryz.ntmps206
 go_wp2_with (first
  |(go_at_call 150;go_must ((refine(iZ nb nd _ S hN).mono ?_);rintro e w1 ⟨rfl,hw⟩;subst w1;rw[hke])))
 go_ret
 exact .inl ⟨_,[],[],σ,S,rfl,aP.nil _ _ _ _ _,.none hk hp,rfl,h,Step.refl S w⟩
theorem Ah (t:Nat)(mp:VS)(root err:Int)(σ:bY)(S:Nat->Prop)(nb:Nat)(nd:Nd)(least:ByteArray)(w:World)(h:Inv σ S mp w)(ht:cK w t mp root err)(hst:¬S t)(hn:fD w S nb nd)(ok:nd.Ok)(hne:nd.kids≠[]\/nd.pairs≠[])(hs:nd.size<=512):
  Calls Tryz.prog 206 #[.pointer (some ⟨t,0,none⟩),.pointer (some ⟨nb,0,none⟩),.string least] w (kR mp σ S nd least w):=by
 have hN:=hn
 obtain⟨_,v0,v1,v2,hb,h0,h1,h2⟩:=hn
 obtain⟨c0,c1,c2,_,_,_,hlt⟩:=cells3 hb
 obtain⟨ao0,cp0,rfl,n0,m0,_,_⟩:=bn.form h0
 have hfit:=ok.fits hs hne
 have HR:=af (MI hne)
 have hcond:(nd.kids.isEmpty && nd.pairs.isEmpty)=false:=by
  rcases hne with hne|hne<;>cases h1:nd.kids<;>cases h2:nd.pairs<;>simp_all
 have hne2:=af (show nd.kids=[]->nd.pairs≠[] from fun x y=>hne.elim (fun z=>z x) (fun z=>z y))
 have htl:t<w.heap.size:=(ah.1 ht).1
 have hs2:(nd.size:Int)<=512:=by omega
 go_enter Tryz.func206,Tryz.ntmps206
 have hdone:∀(f:Nat) (σ':bY) (S':Nat->Prop) (w':World),Wrote σ f nd σ'->Inv σ' S' mp w'->Step S S' w w'->kR mp σ S nd least w (.returned (.slice (some ⟨w'.heap.size,0,none⟩) 1 1)) (w'.alloc (.cells #[.int .i64 f,.string (leastOf nd least)] 324)):=by
  intro f σ' S' w' h1 h2 h3
  refine .inl ⟨_,[((f:Int),leastOf nd least)],_,σ',S',rfl,?_,.one hne hs,⟨σ',rfl,h1,rfl⟩,h2.below (aF _ _),h3.trans (Step.of_below (aF _ _))⟩
  have:=mq (w:=w') (S:=S') (B:=w.heap.size) (e:=324) (k:=2) (kQ [((f:Int),leastOf nd least)]) 1 1 rfl rfl (ax _) (by simp[maxLen]) h3.1.size h2.sub
  exact this
 cases hk:nd.kids.isEmpty with
 |true=>
  have hpl:¬nd.pairs.length=0:=by
   rw[hk] at hcond;intro e;rw[aR e] at hcond;simp at hcond
  have hpl':¬((nd.pairs.length:Int)=0):=by omega
  go_wp2_with (first
   |(go_at_call 150;go_must ((refine(iZ nb nd _ S hN).mono ?_);rintro e w1 ⟨rfl,hw⟩;subst w1;rw[hk]))
   |(go_at_call 252;go_must ((refine(mY nb nd _ S hN ok.size_le).mono ?_);rintro e w1 ⟨rfl,hbel1⟩))
   |(go_at_call 254;go_must ((refine(uK nb nd least _ S (hN.below hbel1) hne2.out).mono ?_);rintro e w2 ⟨rfl,hw⟩;subst w2))
   |(go_at_call 253;go_must ((refine(Cj t mp root err σ S nb nd _ _ (h.below hbel1) ((hbel1.block _ htl).trans ht) hst (hN.below hbel1) hfit hs).mono ?_);rintro e w3 (⟨f,σ',S',rfl,hW,hI,hS⟩|⟨hfull,rfl,σ1,S1,g1,g2,g3,g4⟩)<;>refine Stop.of ?_)))
  rotate_left
  ·refine Stop.on ?_
   exact⟨rfl,.inr ⟨by have:=HR.out;omega,rfl,σ1,S1,g1,(Step.of_below hbel1).trans g2,g3,g4⟩⟩
  refine Stop.on ?_
  go_wp2_with fail
  go_ret
  exact hdone f σ' S' w3 hW hI ((Step.of_below hbel1).trans hS)
 |false=>
  go_wp2_with (first
   |(go_at_call 150;go_must ((refine(iZ nb nd _ S hN).mono ?_);rintro e w1 ⟨rfl,hw⟩;subst w1;rw[hk]))
   |(go_at_call 252;go_must ((refine(mY nb nd _ S hN ok.size_le).mono ?_);rintro e w1 ⟨rfl,hbel1⟩))
   |(go_at_call 254;go_must ((refine(uK nb nd least _ S (hN.below hbel1) hne2.out).mono ?_);rintro e w2 ⟨rfl,hw⟩;subst w2))
   |(go_at_call 253;go_must ((refine(Cj t mp root err σ S nb nd _ _ (h.below hbel1) ((hbel1.block _ htl).trans ht) hst (hN.below hbel1) hfit hs).mono ?_);rintro e w3 (⟨f,σ',S',rfl,hW,hI,hS⟩|⟨hfull,rfl,σ1,S1,g1,g2,g3,g4⟩)<;>refine Stop.of ?_)))
  rotate_left
  ·refine Stop.on ?_
   exact⟨rfl,.inr ⟨by have:=HR.out;omega,rfl,σ1,S1,g1,(Step.of_below hbel1).trans g2,g3,g4⟩⟩
  refine Stop.on ?_
  go_wp2_with fail
  go_ret
  exact hdone f σ' S' w3 hW hI ((Step.of_below hbel1).trans hS)
theorem A8:(Tryz.prog.info? 324).map (fun i=>(i.zero,i.size,i.bytes))=some (some (.agg #[.int .i64 0,.string ⟨#[]⟩]),2,24):=by kernel_rfl
theorem Jq (ps:List Pc):∀u∈kQ ps,u.oneCell'=true:=by
 intro u hu
 obtain⟨p,_,hp⟩:=uS.1 hu
 simp at hp;rcases hp with rfl|rfl<;>rfl
theorem sS (a b:List Pc):kQ (a++b)=kQ a++kQ b:=by simp[kQ]
theorem Step.app {S S':Nat->Prop}{w w6 w7:World}{v:Value}(h:Step S S' w w6)(hk:Keep (fun g=>v.ownBlock=some g) w6 w7)(hlo:∀g,v.ownBlock=some g->w.heap.size<=g):Step S S' w w7:=
 ⟨h.1.trans hk (fun i hi e=>absurd hi (bE.2 (hlo i e))),h.2⟩
def NZ (t:Nat)(mp:VS)(root err:Int)(n:Nat):Prop:=
 ∀(σ:bY) (S:Nat->Prop) (nb:Nat) (nd:Nd) (least:ByteArray) (w:World),Inv σ S mp w->cK w t mp root err->¬S t->fD w S nb nd->nd.Ok->nd.pairs.length+nd.kids.length<n->
  Calls Tryz.prog 206 #[.pointer (some ⟨t,0,none⟩),.pointer (some ⟨nb,0,none⟩),.string least] w (kR mp σ S nd least w)
theorem room_le {nd:Nd}(ok:nd.Ok):nd.room<=4000:=by
 have:=ok.np
 have:=ok.nk
 unfold Nd.room
 split<;>omega
theorem Hz (nd:Nd)(i:Nat)(hk:nd.kids≠[])(h5:5<=nd.kids.length)(hi:i=nd.kids.length/2):Nd.room ⟨[],nd.keys.take (i - 1),nd.kids.take i⟩+Nd.room ⟨[],nd.keys.drop i,nd.kids.drop i⟩<=nd.room:=by
 have n1:nd.kids.take i≠[]:=fun e=>by have:=congrArg List.length e;simp only[aC,bI] at this;omega
 have n2:nd.kids.drop i≠[]:=fun e=>by have:=congrArg List.length e;simp only[aJ,bI] at this;omega
 unfold Nd.room
 rw[if_neg n1,if_neg n2,if_neg hk]
 simp only[aC,aJ,bI]
 omega
theorem MV (nd:Nd)(i:Nat)(hi:i<nd.pairs.length):Nd.kids ⟨nd.pairs.drop i,[],[]⟩=[]->Nd.pairs ⟨nd.pairs.drop i,[],[]⟩≠[]:=fun _ e=>by have:=congrArg List.length e;simp only[aJ,bI] at this;omega
theorem KD (nd:Nd)(i:Nat)(h5:5<=nd.kids.length)(hi:i=nd.kids.length/2):Nd.kids ⟨[],nd.keys.drop i,nd.kids.drop i⟩=[]->Nd.pairs ⟨[],nd.keys.drop i,nd.kids.drop i⟩≠[]:=fun e=>absurd e (fun e=>by have:=congrArg List.length e;simp only[aJ,bI] at this;omega)
theorem ES (t:Nat)(mp:VS)(root err:Int)(nd:Nd)(IH:NZ t mp root err (nd.pairs.length+nd.kids.length))(σ:bY)(S:Nat->Prop)(nb:Nat)(least:ByteArray)(w:World)(h:Inv σ S mp w)(ht:cK w t mp root err)(hst:¬S t)(hn:fD w S nb nd)(ok:nd.Ok)(hs:512<nd.size)(hk:nd.kids=[]):
  Calls Tryz.prog 206 #[.pointer (some ⟨t,0,none⟩),.pointer (some ⟨nb,0,none⟩),.string least] w (kR mp σ S nd least w):=by
 have hN:=hn
 obtain⟨_,v0,v1,v2,hb,h0,h1,h2⟩:=hn
 obtain⟨c0,c1,c2,_,_,_,hlt⟩:=cells3 hb
 obtain⟨ao0,cp0,rfl,n0,m0,_,_⟩:=bn.form h0
 have hnp:=ok.np
 have hnk:=ok.nk
 have hkk:=af ok.kk
 have hbig:=af ((ok.big hs).1 hk)
 have htl:t<w.heap.size:=(ah.1 ht).1
 have HS:=af hs
 have hs2:¬((nd.size:Int)<=512):=by omega
 clear hs
 have HI:=af IH;clear IH
 have hsz:=ok.size_le
 have hke:nd.kids.isEmpty=true:=by rw[hk];rfl
 have hpl:¬nd.pairs.length=0:=by have:=hbig.out;omega
 have hpl':¬((nd.pairs.length:Int)=0):=by omega
 go_enter Tryz.func206,Tryz.ntmps206
 go_wp2_with (first
   |(go_at_call 150;go_must ((refine(iZ nb nd _ S hN).mono ?_);rintro e w1 ⟨rfl,hw⟩;subst w1;rw[hke]))
   |(go_at_call 252;go_must ((refine(mY nb nd _ S hN hsz).mono ?_);rintro e w1 ⟨rfl,hbel1⟩))
   |(go_at_call 255;go_must ((refine(Ba nb nd _ S (fun g hg=>ak (h.sub g hg) hbel1.size) (hN.below hbel1) hk (by have:=hbig.out;omega) hsz).mono ?_);rintro e w2 ⟨i,hi,b1,b2,hi1,rfl,hA,hB,hbel2,hcut⟩;have HI1:=af hi1;have HCUT:=af hcut;clear hi1 hcut;clear c0 c1 c2;refine Stop.of ?_)))
 refine Stop.on ?_
 have hbelw:Below w.heap.size w w2:=hbel1.trans (hbel2.mono hbel1.size)
 have hspl:=af (show (Nd.pairs ⟨nd.pairs.take i,[],[]⟩).length+(Nd.kids ⟨nd.pairs.take i,[],[]⟩).length<nd.pairs.length+nd.kids.length/\(Nd.pairs ⟨nd.pairs.drop i,[],[]⟩).length+(Nd.kids ⟨nd.pairs.drop i,[],[]⟩).length<nd.pairs.length+nd.kids.length from by have:=HI1.out;simp only[aC,aJ,bI];omega)
 have hrooms:=af (show Nd.room ⟨nd.pairs.take i,[],[]⟩+Nd.room ⟨nd.pairs.drop i,[],[]⟩<=nd.room from by unfold Nd.room;simp only[aC,aJ,iI];omega)
 have hOkA:=af (ok.left i hk)
 have hOkB:=af (ok.right i hk)
 have hI2:=h.below hbelw
 have ht2:=ht.step hst (Step.of_below hbelw)
 go_wp2_with (first
   |(go_at_call 206;go_must ((refine(HI.out σ S b1 ⟨nd.pairs.take i,[],[]⟩ least w2 hI2 ht2.1 ht2.2 hA hOkA.out hspl.out.1).mono ?_);rintro e w3 (⟨x1,ps1,zs1,σ1,S1,rfl,hown1,hsp1,hput1,hI3,hs3⟩|⟨hno,rfl,τ,Sτ,g1,g2,g3,g4⟩)<;>refine Stop.of ?_)))
 rotate_left
 ·refine Stop.on ?_
  exact⟨rfl,.inr ⟨by have:=hrooms.out;omega,rfl,τ,Sτ,g1,(Step.of_below hbelw).trans g2,g3,g4⟩⟩
 refine Stop.on ?_
 have hl1:=hput1.length
 have hr1:=hsp1.room hOkA.out
 have hB3:=hB.step hs3
 have ht3:=ht2.1.step ht2.2 hs3
 obtain⟨ao1,cp1,rfl,n1,m1,_,_⟩:=bn.form hown1.cZ
 have HL1:=af hl1;clear hl1
 have HR1:=af hr1;clear hr1
 go_wp2_with (first
   |(go_at_call 254;go_must ((refine(uK b2 ⟨nd.pairs.drop i,[],[]⟩ _ _ S1 hB3 (MV nd i hi)).mono ?_);rintro e w4 ⟨rfl,hw⟩;subst w4))
   |(go_at_call 206;go_must ((refine(HI.out σ1 S1 b2 ⟨nd.pairs.drop i,[],[]⟩ _ w3 hI3 ht3.1 ht3.2 hB3 hOkB.out hspl.out.2).mono ?_);rintro e w5 (⟨x2,ps2,zs2,σ2,S2,rfl,hown2,hsp2,hput2,hI5,hs5⟩|⟨hno,rfl,τ,Sτ,g1,g2,g3,g4⟩)<;>refine Stop.of ?_)))
 rotate_left
 ·refine Stop.on ?_
  have a:=HL1.out;have b:=HR1.out;have c:=hrooms.out
  exact⟨rfl,.inr ⟨by rw[a.2.1,a.2.2.1] at hno;omega,rfl,τ,Sτ,g1,((Step.of_below hbelw).trans hs3).trans g2,g3.trans a.2.2.2.1,g4.trans a.2.2.1⟩⟩
 refine Stop.on ?_
 have hl2:=hput2.length
 have hr2:=hsp2.room hOkB.out
 have hb1:ps1.length<=4000:=by have a:=HL1.out.1;have b:=HR1.out;have c:=hrooms.out;have d:=hOkA.out;rw[a];refine aI b ?_;have:=room_le d;omega
 have hb2:ps2.length<=4000:=by rw[hl2.1];refine aI hr2 ?_;have:=room_le hOkB.out;omega
 clear hl2 hr2
 have hownA:=(hown1.step hs5).base (B:=w.heap.size) hbelw.size
 have hS5:=hI5.sub
 have hbs:w.heap.size<=w5.heap.size:=aI hbelw.size (aI hs3.1.size hs5.1.size)
 obtain⟨ao2,cp2,rfl,n2,m2,_,_⟩:=bn.form hown2.cZ
 have hsrc:=hown2.cZ.src (P:=Tryz.prog) Gy (Jq _)
 have hbyt:(ps1.length+ps2.length)*24<=140737488355328:=by omega
 have hmx:ps1.length+ps2.length<=maxLen:=by simp only[maxLen];omega
 go_wp2_with (first
   |(at_builtin;go_must (refine dB rfl (.tmp 41) (.tmp 47) 276 276 rfl S2 w.heap.size 324 2 24 _ Gy A8 rfl (.slice ao1 ps1.length cp1) ps1.length (kQ ps1) rfl hownA (.slice ao2 ps2.length cp2) ps2.length (kQ ps2) rfl hsrc hS5 hbs hmx hbyt ?_;intro ao3 c3 w7 hown3 hk7 hb7 hd7)))
 go_ret
 have hst7:Step S S2 w w7:=(((Step.of_below hbelw).trans hs3).trans hs5).app hk7 hownA.lo
 refine .inl ⟨_,ps1++ps2,zs1++zs2,σ2,S2,rfl,?_,.leaf i hi hk HS.out HI1.out HCUT.out hsp1 hsp2,hput1.append hput2,hI5.nD hk7 (fun g hg e=>hownA.2 g e hg),hst7⟩
 rw[av,sS]
 exact hown3
theorem DC (t:Nat)(mp:VS)(root err:Int)(nd:Nd)(IH:NZ t mp root err (nd.pairs.length+nd.kids.length))(σ:bY)(S:Nat->Prop)(nb:Nat)(least:ByteArray)(w:World)(h:Inv σ S mp w)(ht:cK w t mp root err)(hst:¬S t)(hn:fD w S nb nd)(ok:nd.Ok)(hs:512<nd.size)(hk:nd.kids≠[]):
  Calls Tryz.prog 206 #[.pointer (some ⟨t,0,none⟩),.pointer (some ⟨nb,0,none⟩),.string least] w (kR mp σ S nd least w):=by
 have hN:=hn
 obtain⟨_,v0,v1,v2,hb,h0,h1,h2⟩:=hn
 obtain⟨c0,c1,c2,_,_,_,hlt⟩:=cells3 hb
 obtain⟨ao0,cp0,rfl,n0,m0,_,_⟩:=bn.form h0
 have hnp:=ok.np
 have hnk:=ok.nk
 have hkk:=af ok.kk
 have hbig:=af ((ok.big hs).2 hk)
 have htl:t<w.heap.size:=(ah.1 ht).1
 have HS:=af hs
 have hs2:¬((nd.size:Int)<=512):=by omega
 clear hs
 have HI:=af IH;clear IH
 have hsz:=ok.size_le
 have hke:nd.kids.isEmpty=false:=by cases hq:nd.kids with|nil=>exact absurd hq hk|cons a b=>rfl
 go_enter Tryz.func206,Tryz.ntmps206
 go_wp2_with (first
   |(go_at_call 150;go_must ((refine(iZ nb nd _ S hN).mono ?_);rintro e w1 ⟨rfl,hw⟩;subst w1;rw[hke]))
   |(go_at_call 252;go_must ((refine(mY nb nd _ S hN hsz).mono ?_);rintro e w1 ⟨rfl,hbel1⟩))
   |(go_at_call 255;go_must ((refine(zA nb nd _ S (fun g hg=>ak (h.sub g hg) hbel1.size) (hN.below hbel1) (by have:=hbig.out;omega) hkk.out hsz).mono ?_);rintro e w2 ⟨i,hi,b1,b2,hi1,rfl,hA,hB,hbel2⟩;have HI1:=af hi1;clear hi1;clear c0 c1 c2;refine Stop.of ?_)))
 refine Stop.on ?_
 have hbelw:Below w.heap.size w w2:=hbel1.trans (hbel2.mono hbel1.size)
 have hspl:=af (show (Nd.pairs ⟨[],nd.keys.take (i - 1),nd.kids.take i⟩).length+(Nd.kids ⟨[],nd.keys.take (i - 1),nd.kids.take i⟩).length<nd.pairs.length+nd.kids.length/\(Nd.pairs ⟨[],nd.keys.drop i,nd.kids.drop i⟩).length+(Nd.kids ⟨[],nd.keys.drop i,nd.kids.drop i⟩).length<nd.pairs.length+nd.kids.length from by have:=HI1.out;have:=hbig.out;simp only[aC,aJ,bI];omega)
 have hrooms:=af (show Nd.room ⟨[],nd.keys.take (i - 1),nd.kids.take i⟩+Nd.room ⟨[],nd.keys.drop i,nd.kids.drop i⟩<=nd.room from Hz nd i hk hbig.out HI1.out)
 have hOkA:=af (ok.CV i (by have:=HI1.out;omega))
 have hOkB:=af (ok.yw i)
 have hI2:=h.below hbelw
 have ht2:=ht.step hst (Step.of_below hbelw)
 go_wp2_with (first
   |(go_at_call 206;go_must ((refine(HI.out σ S b1 ⟨[],nd.keys.take (i - 1),nd.kids.take i⟩ least w2 hI2 ht2.1 ht2.2 hA hOkA.out hspl.out.1).mono ?_);rintro e w3 (⟨x1,ps1,zs1,σ1,S1,rfl,hown1,hsp1,hput1,hI3,hs3⟩|⟨hno,rfl,τ,Sτ,g1,g2,g3,g4⟩)<;>refine Stop.of ?_)))
 rotate_left
 ·refine Stop.on ?_
  exact⟨rfl,.inr ⟨by have:=hrooms.out;omega,rfl,τ,Sτ,g1,(Step.of_below hbelw).trans g2,g3,g4⟩⟩
 refine Stop.on ?_
 have hl1:=hput1.length
 have hr1:=hsp1.room hOkA.out
 have hB3:=hB.step hs3
 have ht3:=ht2.1.step ht2.2 hs3
 obtain⟨ao1,cp1,rfl,n1,m1,_,_⟩:=bn.form hown1.cZ
 have HL1:=af hl1;clear hl1
 have HR1:=af hr1;clear hr1
 go_wp2_with (first
   |(go_at_call 254;go_must ((refine(uK b2 ⟨[],nd.keys.drop i,nd.kids.drop i⟩ _ _ S1 hB3 (KD nd i hbig.out HI1.out)).mono ?_);rintro e w4 ⟨rfl,hw⟩;subst w4))
   |(go_at_call 206;go_must ((refine(HI.out σ1 S1 b2 ⟨[],nd.keys.drop i,nd.kids.drop i⟩ _ w3 hI3 ht3.1 ht3.2 hB3 hOkB.out hspl.out.2).mono ?_);rintro e w5 (⟨x2,ps2,zs2,σ2,S2,rfl,hown2,hsp2,hput2,hI5,hs5⟩|⟨hno,rfl,τ,Sτ,g1,g2,g3,g4⟩)<;>refine Stop.of ?_)))
 rotate_left
 ·refine Stop.on ?_
  have a:=HL1.out;have b:=HR1.out;have c:=hrooms.out
  exact⟨rfl,.inr ⟨by rw[a.2.1,a.2.2.1] at hno;omega,rfl,τ,Sτ,g1,((Step.of_below hbelw).trans hs3).trans g2,g3.trans a.2.2.2.1,g4.trans a.2.2.1⟩⟩
 refine Stop.on ?_
 have hl2:=hput2.length
 have hr2:=hsp2.room hOkB.out
 have hb1:ps1.length<=4000:=by have a:=HL1.out.1;have b:=HR1.out;have c:=hrooms.out;have d:=hOkA.out;rw[a];refine aI b ?_;have:=room_le d;omega
 have hb2:ps2.length<=4000:=by rw[hl2.1];refine aI hr2 ?_;have:=room_le hOkB.out;omega
 clear hl2 hr2
 have hownA:=(hown1.step hs5).base (B:=w.heap.size) hbelw.size
 have hS5:=hI5.sub
 have hbs:w.heap.size<=w5.heap.size:=aI hbelw.size (aI hs3.1.size hs5.1.size)
 obtain⟨ao2,cp2,rfl,n2,m2,_,_⟩:=bn.form hown2.cZ
 have hsrc:=hown2.cZ.src (P:=Tryz.prog) Gy (Jq _)
 have hbyt:(ps1.length+ps2.length)*24<=140737488355328:=by omega
 have hmx:ps1.length+ps2.length<=maxLen:=by simp only[maxLen];omega
 go_wp2_with (first
   |(at_builtin;go_must (refine dB rfl (.tmp 41) (.tmp 47) 276 276 rfl S2 w.heap.size 324 2 24 _ Gy A8 rfl (.slice ao1 ps1.length cp1) ps1.length (kQ ps1) rfl hownA (.slice ao2 ps2.length cp2) ps2.length (kQ ps2) rfl hsrc hS5 hbs hmx hbyt ?_;intro ao3 c3 w7 hown3 hk7 hb7 hd7)))
 go_ret
 have hst7:Step S S2 w w7:=(((Step.of_below hbelw).trans hs3).trans hs5).app hk7 hownA.lo
 refine .inl ⟨_,ps1++ps2,zs1++zs2,σ2,S2,rfl,?_,.inner i hi hk HS.out HI1.out hsp1 hsp2,hput1.append hput2,hI5.nD hk7 (fun g hg e=>hownA.2 g e hg),hst7⟩
 rw[av,sS]
 exact hown3
theorem pE (t:Nat)(mp:VS)(root err:Int):∀n,NZ t mp root err n:=by
 intro n
 induction n using Nat.strongRecOn with
 |_ n ih=>
  intro σ S nb nd least w h ht hst hn ok hm
  by_cases hk:nd.kids=[]
  ·by_cases hp:nd.pairs=[]
   ·exact ER t mp σ S nb nd least w h hn hk hp
   ·by_cases hs:nd.size<=512
    ·exact Ah t mp root err σ S nb nd least w h ht hst hn ok (.inr hp) hs
    ·exact ES t mp root err nd (ih _ hm) σ S nb least w h ht hst hn ok (by omega) hk
  ·by_cases hs:nd.size<=512
   ·exact Ah t mp root err σ S nb nd least w h ht hst hn ok (.inl hk) hs
   ·exact DC t mp root err nd (ih _ hm) σ S nb least w h ht hst hn ok (by omega) hk
def qE (w:World)(b:Nat)(s:ByteArray):Prop:=w.heap[b]? =some (.cells #[.string s] 9 (0,0))
def KW (ps:List Pr)(key:ByteArray):List Pr:=if ou ps key then ps.take (dw ps key)++ps.drop (dw ps key+1) else ps
def jT (ps:List Pr)(key value:ByteArray):List Pr:=if ou ps key then ps.set (dw ps key) (key,value) else ps.take (dw ps key)++(key,value)::ps.drop (dw ps key)
theorem uL {ps:List Pr}{key:ByteArray}(h:ou ps key=true):∃h:dw ps key<ps.length,ps[dw ps key].1=key:=by
 unfold ou at h
 split at h
 ·rename_i p hp
  obtain⟨h1,h2⟩:=bT.1 hp
  exact⟨h1,by rw[h2];exact lU h⟩
 ·cases h
theorem lX {w:World}{b:Nat}{s:ByteArray}(h:qE w b s):w.cell? ⟨b,0,none⟩=some (.string s)/\b<w.heap.size:=by
 unfold qE at h
 exact⟨by simp[World.cell?,h],(ah.1 h).1⟩
theorem aP.C9 {w:World}{S:Nat->Prop}{B e k n:Nat}{v:Value}{xs:List Value}(h:aP w S B e k v n xs)(hn:0<n):∃g c,v= .slice (some ⟨g,0,none⟩) n c/\n<=c/\c<=9223372036854775807/\B<=g/\g<w.heap.size:=by
 obtain⟨ao,c,rfl,h1,h2,_⟩:=h.cZ.form
 rcases h.1.2 with ⟨e,h0⟩|⟨g,cap,cur,e,hB,hg,_⟩
 ·exact absurd h0 (by omega)
 ·cases e;exact⟨g,c,rfl,h1,h2,hB,(ah.1 hg).1⟩
theorem ic.Mv {w W:World}{S:Nat->Prop}{B b:Nat}{nd:Nd}{v0 v1 v2 v':Value}{ps:List Pr}(hb:W.heap[b]? =some (.cells #[v0,v1,v2] 260 (0,0)))(hS:¬S b)(hB:B<=b)(h1:aP W S B 9 1 v1 nd.keys.length (nd.keys.map .string))(h2:aP W S B 3 1 v2 nd.kids.length (nd.kids.map (.int .i64)))
  (h0:aP W S B 79 2 v' ps.length (dN ps)) (hk:Below B w W):ic (W.setCell ⟨b,0,none⟩ v') S B b ⟨ps,nd.keys,nd.kids⟩/\Below B w (W.setCell ⟨b,0,none⟩ v'):=by
 have hk5:Keep (· =b) W (W.setCell ⟨b,0,none⟩ v'):=Keep.setCell (M:=(· =b)) (p:=⟨b,0,none⟩) (Keep.refl _ _) (.inr rfl) v'
 refine⟨⟨hS,hB,v',v1,v2,?_,h0.keep fun g hg hl hs=>⟨hk5.block g hl (fun e=>h0.ne hb (by decide) (by rw[hg,e])),hs⟩,h1.keep fun g hg hl hs=>⟨hk5.block g hl (fun e=>h1.ne hb (by decide) (by rw[hg,e])),hs⟩,h2.keep fun g hg hl hs=>⟨hk5.block g hl (fun e=>h2.ne hb (by decide) (by rw[hg,e])),hs⟩⟩,hk.setCell (by simpa using hB) v'⟩
 simp[World.setCell,aS,hb]
theorem yX (ps:List Pr)(v:ByteArray):∀(i:Nat) (h:i<ps.length),(dN ps).set (i*2+1) (.string v)=dN (ps.set i (ps[i].1,v)):=by
 induction ps with
 |nil=>intro i h;simp at h
 |cons p ps ih=>
  intro i h
  cases i with
  |zero=>rfl
  |succ i=>
   have:=ih i (by simpa using h)
   simp only[kP,aj,Ew,Qo]
   rw[this]
theorem ic.EU {w W:World}{S:Nat->Prop}{B b g c:Nat}{nd:Nd}{v1 v2:Value}{value:ByteArray}(i:Nat)(hi:i<nd.pairs.length)(hb:W.heap[b]? =some (.cells #[.slice (some ⟨g,0,none⟩) nd.pairs.length c,v1,v2] 260 (0,0)))(hS:¬S b)(hB:B<=b)(h1:aP W S B 9 1 v1 nd.keys.length (nd.keys.map .string))(h2:aP W S B 3 1 v2 nd.kids.length (nd.kids.map (.int .i64)))
  (h0:aP W S B 79 2 (.slice (some ⟨g,0,none⟩) nd.pairs.length c) nd.pairs.length (dN nd.pairs)) (hk:Below B w W):ic (W.setCell ⟨g,i*2+1,none⟩ (.string value)) S B b ⟨nd.pairs.set i (nd.pairs[i].1,value),nd.keys,nd.kids⟩/\Below B w (W.setCell ⟨g,i*2+1,none⟩ (.string value)):=by
 obtain⟨cur,hr,hl,hx,hBg,hSg,hc,hc2⟩:=h0.row
 have hk5:Keep (· =g) W (W.setCell ⟨g,i*2+1,none⟩ (.string value)):=Keep.setCell (M:=(· =g)) (p:=⟨g,i*2+1,none⟩) (Keep.refl _ _) (.inr rfl) _
 have hr':Row (W.setCell ⟨g,i*2+1,none⟩ (.string value)) g 79 (cur.set (i*2+1) (.string value)):=by
  unfold Row at hr ⊢
  simp[World.setCell,aS,hr]
 have hgb:b≠g:=fun e=>by subst e;exact h0.ne hb (by decide) rfl
 refine⟨⟨hS,hB,_,v1,v2,(hk5.block b (ah.1 hb).1 hgb).trans hb,?_,h1.keep fun g' hg hl hs=>⟨hk5.block g' hl (fun e=>aP.Ij h1 h0 (by decide) _ hg (by rw[e];rfl)),hs⟩,h2.keep fun g' hg hl hs=>⟨hk5.block g' hl (fun e=>aP.Ij h2 h0 (by decide) _ hg (by rw[e];rfl)),hs⟩⟩,hk.setCell (by simpa using hBg) _⟩
 have:=hr'.own (S:=S) (B:=B) (k:=2) (cap:=c) nd.pairs.length (by simpa using hl) hBg hSg hc hc2
 rw[show (cur.set (i*2+1) (.string value)).take (nd.pairs.length*2)=dN (nd.pairs.set i (nd.pairs[i].1,value)) from by rw[<-yX _ _ i hi,<-hx,<-List.take_set]] at this
 simpa using this
theorem Kq (kb vb nb B:Nat)(key value:ByteArray)(nd:Nd)(S:Nat->Prop)(w:World)(hk:qE w kb key)(hv:qE w vb value)(hn:ic w S B nb nd)(hr:iG nd.pairs)(hl:nd.pairs.length<=1000000)(hat:ou nd.pairs key=true):
  Calls Tryz.prog 166 #[.pointer (some ⟨nb,0,none⟩),.pointer (some ⟨kb,0,none⟩),.pointer (some ⟨vb,0,none⟩)] w fun e w'=>e= .returned (.tuple #[])/\ic w' S B nb ⟨jT nd.pairs key value,nd.keys,nd.kids⟩/\Below B w w':=by
 have hN:=hn
 obtain⟨hS,hB,v0,v1,v2,hb,h0,h1,h2⟩:=hn
 obtain⟨c0,c1,c2,_,_,_,hlt⟩:=cells3 hb
 obtain⟨k0,kl⟩:=lX hk
 have hnB:B<=w.heap.size:=aI hB (ig hlt)
 obtain⟨hp,hkey⟩:=uL hat
 have hd:jT nd.pairs key value=nd.pairs.set (dw nd.pairs key) (key,value):=by unfold jT;rw[hat];rfl
 generalize hP:dw nd.pairs key=P at hp hkey hd
 obtain⟨g,c,rfl,hc1,hc2,hBg,hgl⟩:=h0.C9 (by omega)
 go_enter Tryz.func166,Tryz.ntmps166
 have HP:=af hP;clear hP
 go_wp2_with (first
  |(go_at_call 151;go_must ((refine(tF nb nd key _ S hN.jl hr hl).mono ?_);rw[hat,HP.out];rintro e w1 ⟨rfl,hb1⟩)))
 have hb1':=hb1
 obtain⟨e0,_,_,_,_,_,hlt1⟩:=cells3 ((hb1.block nb hlt).trans hb)
 obtain⟨f0,fl⟩:=lX (show qE w1 vb value from(hb1.block vb (lX hv).2).trans hv)
 have hgl1:g<w1.heap.size:=ak hgl hb1.size
 have hcur:=(h0.step (Step.of_below hb1)).row
 obtain⟨cur,hrow,hcl,_⟩:=hcur
 have hfr:=hrow.frozen (P*2+1)
 have hcc:=hrow.cell (P*2+1)
 clear c0 c1 c2
 refine aN (fun W=>W=w1.drew) (fun i=> !([8].contains i)) [0,1,2,3,4,5,6,7,8] rfl (by kernel_rfl) rfl ?_
 have d0:w1.drew.cell? ⟨nb,0,none⟩=some (.slice (some ⟨g,0,none⟩) nd.pairs.length c):=e0
 have d1:w1.drew.cell? ⟨vb,0,none⟩=some (.string value):=f0
 have hPi:(P:Int)<(nd.pairs.length:Int):=by omega
 repeat ((refine bL (v:= ?_) rfl rfl (fun _ _ _ h=>h) rfl (fun W hW=> ?_) ?_);rotate_left;(focus ((try dsimp only at hW);subst hW;first|(go_simp;first|done|with_reducible rfl)));(try simp only[Act.put,ai,au,aj]))
 have x0:w1.drew.frozen? ⟨g,P*2+1,none⟩=false:=hfr
 have x1:w1.drew.cell? ⟨g,P*2+1,none⟩=some cur[P*2+1]:=hcc.trans (bF (by omega))
 refine jf rfl rfl rfl (by kernel_rfl) ?_;intro K hK;go_simp
 refine hK.out _ _ ?_
 refine bO ?_
 have HD:=af hd;clear hd
 go_wp2_with fail
 go_end0
 rw[HD.out,<-hkey]
 have q:=ic.EU (W:=w1.drew) (w:=w) (value:=value) P hp ((hb1'.block nb hlt).trans hb) hS hB (h1.step (Step.of_below hb1'.drew)) (h2.step (Step.of_below hb1'.drew)) (h0.step (Step.of_below hb1'.drew)) (hb1'.drew.mono hnB)
 exact⟨rfl,q.1,q.2⟩
theorem Ko (kb vb nb B:Nat)(key value:ByteArray)(nd:Nd)(S:Nat->Prop)(w:World)(hsub:∀g,S g->g<w.heap.size)(hk:qE w kb key)(hv:qE w vb value)(hkB:kb<B)(hvB:vb<B)(hn:ic w S B nb nd)(hr:iG nd.pairs)(hl:nd.pairs.length<=999999)(hat:ou nd.pairs key=false):
  Calls Tryz.prog 166 #[.pointer (some ⟨nb,0,none⟩),.pointer (some ⟨kb,0,none⟩),.pointer (some ⟨vb,0,none⟩)] w fun e w'=>e= .returned (.tuple #[])/\ic w' S B nb ⟨jT nd.pairs key value,nd.keys,nd.kids⟩/\Below B w w':=by
 have hN:=hn
 obtain⟨hS,hB,v0,v1,v2,hb,h0,h1,h2⟩:=hn
 obtain⟨c0,c1,c2,_,_,_,hlt⟩:=cells3 hb
 obtain⟨k0,kl⟩:=lX hk
 have hnB:B<=w.heap.size:=aI hB (ig hlt)
 have hp:=qK nd.pairs key
 have hd:jT nd.pairs key value=nd.pairs.take (dw nd.pairs key)++(key,value)::nd.pairs.drop (dw nd.pairs key):=by unfold jT;rw[hat];rfl
 generalize hP:dw nd.pairs key=P at hp hd
 obtain⟨ao0,cp0,rfl,n0,m0,_,_⟩:=h0.cZ.form
 go_enter Tryz.func166,Tryz.ntmps166
 have HP:=af hP;clear hP
 have HD:=af hd;clear hd
 go_wp2_with (first
  |(go_at_call 151;go_must ((refine(tF nb nd key _ S hN.jl hr (by omega)).mono ?_);rw[hat,HP.out];rintro e w1 ⟨rfl,hb1⟩)))
 have hbn1:=(hb1.block nb hlt).trans hb
 obtain⟨e0,_,_,_,_,_,hlt1⟩:=cells3 hbn1
 obtain⟨f0,fl⟩:=lX (show qE w1 kb key from(hb1.block kb kl).trans hk)
 have hv1:qE w1 vb value:=(hb1.block vb (lX hv).2).trans hv
 have hsz1:=hb1.size
 have hB1:Below B w w1.drew:=(hb1.mono hnB).drew
 have h01:=h0.step (Step.of_below hb1)
 have h11:=h1.step (Step.of_below hb1)
 have h21:=h2.step (Step.of_below hb1)
 clear c0 c1 c2
 refine aN (fun W=>W.cell? ⟨nb,0,none⟩=some (.slice ao0 nd.pairs.length cp0)/\nb<W.heap.size/\W.cell? ⟨kb,0,none⟩=some (.string key)/\kb<W.heap.size) (fun i=> !([8,9,12].contains i)) [0,1,2,3,4,5,6,7,8,9,10,11,12] rfl (by kernel_rfl) ⟨e0,hlt1,f0,fl⟩ ?_
 repeat ((refine bL (v:= ?_) rfl rfl (fun _ _ _ h=>h) rfl (fun W hW=> ?_) ?_);rotate_left;(focus ((try dsimp only at hW);have q0:=hW.1;have q1:=hW.2.1;have q2:=hW.2.2.1;have q3:=hW.2.2.2;first|(go_simp;first|done|with_reducible rfl)));(try simp only[Act.put,ai,au,aj]))
 refine dA rfl rfl rfl ?_;intro K hK;go_simp
 have hbn:Below w1.drew.heap.size w1.drew (w1.alloc (.cells #[.string key,.string ⟨#[]⟩] 79)).drew:=aF w1.drew (.cells #[.string key,.string ⟨#[]⟩] 79)
 have hB2:Below B w (w1.alloc (.cells #[.string key,.string ⟨#[]⟩] 79)).drew:=hB1.trans (hbn.mono (aI hnB hsz1))
 have hbn2:=(hbn.block nb hlt1).trans hbn1
 have hk2:qE (w1.alloc (.cells #[.string key,.string ⟨#[]⟩] 79)).drew kb key:=(hB2.block kb hkB).trans hk
 have hv2:qE (w1.alloc (.cells #[.string key,.string ⟨#[]⟩] 79)).drew vb value:=(hB2.block vb hvB).trans hv
 have hins:=FN (.slice ao0 nd.pairs.length cp0) nd.pairs.length P (dN nd.pairs) w1.heap.size [.string key,.string ⟨#[]⟩] (w1.alloc (.cells #[.string key,.string ⟨#[]⟩] 79)).drew S B (fun g hg=>ak (hsub g hg) (aI hsz1 hbn.size)) (aI hnB (aI hsz1 hbn.size)) ((h01.drew).step (Step.of_below hbn)) (DZ _) (aK w1.drew _) h01.lt rfl (by intro u hu;simp at hu;rcases hu with rfl|rfl<;>rfl) (by omega) hp
 have h12:=(h11.drew).step (Step.of_below hbn)
 have h22:=(h21.drew).step (Step.of_below hbn)
 have h02:=(h01.drew).step (Step.of_below hbn)
 generalize (w1.alloc (.cells #[.string key,.string ⟨#[]⟩] 79)).drew=w2 at*
 refine hK.out _ _ ⟨(cells3 hbn2).1,(cells3 hbn2).2.2.2.2.2.2,(lX hk2).1,(lX hk2).2⟩ ?_
 refine dA rfl rfl rfl ?_;intro K hK;go_simp
 refine hins.mono ?_;rintro e w3 ⟨v3,rfl,hown3,hk3⟩
 have hnbv:(Value.slice ao0 nd.pairs.length cp0).ownBlock≠some nb:=h02.ne hbn2 (by decide)
 have hbn3:=(hk3.block nb (cells3 hbn2).2.2.2.2.2.2 hnbv).trans hbn2
 have hB3:Below B w w3:=hB2.trans (hk3.fP (aI hnB hB2.size) (fun i hi e=>absurd (h02.lo i e) (fE.2 hi)))
 have hk3':qE w3 kb key:=(hB3.block kb hkB).trans hk
 have hv3':qE w3 vb value:=(hB3.block vb hvB).trans hv
 have h13:=h12.keep (w':=w3) (S':=S) (fun g hg hl hs=>⟨hk3.block g hl (fun e=>aP.Ij h12 h02 (by decide) _ hg e),hs⟩)
 have h23:=h22.keep (w':=w3) (S':=S) (fun g hg hl hs=>⟨hk3.block g hl (fun e=>aP.Ij h22 h02 (by decide) _ hg e),hs⟩)
 refine hK.out _ _ ⟨(cells3 hbn3).1,(cells3 hbn3).2.2.2.2.2.2,(lX hk3').1,(lX hk3').2⟩ ?_
 repeat ((refine bL (v:= ?_) rfl rfl (fun _ _ _ h=>h) rfl (fun W hW=> ?_) ?_);rotate_left;(focus ((try dsimp only at hW);have q0:=hW.1;have q1:=hW.2.1;have q2:=hW.2.2.1;have q3:=hW.2.2.2;first|(go_simp;first|done|with_reducible rfl)));(try simp only[Act.put,ai,au,aj]))
 have hpl:(nd.pairs.take P++(key,(⟨#[]⟩:ByteArray))::nd.pairs.drop P).length=nd.pairs.length+1:=by simp only[av,aC,aY,aJ];omega
 have hown3':aP w3 S B 79 2 v3 (nd.pairs.take P++(key,(⟨#[]⟩:ByteArray))::nd.pairs.drop P).length (dN (nd.pairs.take P++(key,(⟨#[]⟩:ByteArray))::nd.pairs.drop P)):=by
  rw[hpl,ni,kP,wR,qZ];simpa using hown3
 have hpp:P<(nd.pairs.take P++(key,(⟨#[]⟩:ByteArray))::nd.pairs.drop P).length:=by rw[hpl];omega
 have hset:(nd.pairs.take P++(key,(⟨#[]⟩:ByteArray))::nd.pairs.drop P).set P (key,value)=nd.pairs.take P++(key,value)::nd.pairs.drop P:=by
  rw[gW _ _ (by rw[aC];omega)]
  rw[show P - (nd.pairs.take P).length=0 from by rw[aC];omega]
  rfl
 have hget:(nd.pairs.take P++(key,(⟨#[]⟩:ByteArray))::nd.pairs.drop P)[P].1=key:=by
  have h1:(nd.pairs.take P++(key,(⟨#[]⟩:ByteArray))::nd.pairs.drop P)[P]? =some (key,(⟨#[]⟩:ByteArray)):=by
   rw[bV (by rw[aC];omega),show P - (nd.pairs.take P).length=0 from by rw[aC];omega]
   rfl
  rw[(bT.1 h1).2]
 generalize hX:nd.pairs.take P++(key,(⟨#[]⟩:ByteArray))::nd.pairs.drop P=X at hown3' hpp hset hget hpl
 have HSet:=af hset;clear hset
 have HX:=af hX;clear hX
 have q:=ic.Mv (nd:=nd) hbn3 hS hB h13 h23 hown3' hB3
 obtain⟨g,c,rfl,hc1,hc2,hBg,hgl⟩:=hown3'.C9 (by omega)
 have HPL:=af hpl;clear hpl
 have x0:w3.frozen? ⟨nb,0,none⟩=false:=(cells3 hbn3).2.2.2.1
 have x1:=(cells3 hbn3).1
 have x2:=(cells3 hbn3).2.2.2.2.2.2
 refine jf rfl rfl rfl (by kernel_rfl) ?_;intro K hK;go_simp
 refine hK.out _ _ ?_
 refine bO ?_
 have hv4:qE (w3.setCell ⟨nb,0,none⟩ (.slice (some ⟨g,0,none⟩) X.length c)) vb value:=(q.2.block vb hvB).trans hv
 have hcell4:(w3.setCell ⟨nb,0,none⟩ (.slice (some ⟨g,0,none⟩) X.length c)).cell? ⟨nb,0,none⟩=some (.slice (some ⟨g,0,none⟩) X.length c):=by simp[World.setCell,World.cell?,aS,hbn3]
 generalize w3.setCell ⟨nb,0,none⟩ (.slice (some ⟨g,0,none⟩) X.length c)=w4 at*
 clear x0 x1 x2
 go_wp2_with fail
 obtain⟨⟨_,_,u0,u1,u2,hb4,q0,q1,q2⟩,hB4⟩:=q
 have hu0:u0= .slice (some ⟨g,0,none⟩) X.length c:=by have e:=hcell4.symm.trans (cells3 hb4).1;cases e;rfl
 subst hu0
 obtain⟨cur,hrow,hcl,_⟩:=q0.row
 have hgl4:=hrow.lt
 have hlt4:=(cells3 hb4).2.2.2.2.2.2
 have hfr:=hrow.frozen (P*2+1)
 have hcc:=hrow.cell (P*2+1)
 have d0:w4.drew.cell? ⟨nb,0,none⟩=some (.slice (some ⟨g,0,none⟩) X.length c):=hcell4
 have d1:w4.drew.cell? ⟨vb,0,none⟩=some (.string value):=(lX hv4).1
 have hvl4:=(lX hv4).2
 have hPi:(P:Int)<(X.length:Int):=by omega
 refine aN (fun W=>W=w4.drew) (fun i=> !([8].contains i)) [0,1,2,3,4,5,6,7,8] rfl (by kernel_rfl) rfl ?_
 repeat ((refine bL (v:= ?_) rfl rfl (fun _ _ _ h=>h) rfl (fun W hW=> ?_) ?_);rotate_left;(focus ((try dsimp only at hW);subst hW;first|(go_simp;first|done|with_reducible rfl)));(try simp only[Act.put,ai,au,aj]))
 have x0:w4.drew.frozen? ⟨g,P*2+1,none⟩=false:=hfr
 have x1:w4.drew.cell? ⟨g,P*2+1,none⟩=some (cur.getD (P*2+1) undef):=hcc.trans (by rw[fF,bF (by have:nd.pairs.length<=999999:=hl;omega)];rfl)
 refine jf rfl rfl rfl (by kernel_rfl) ?_;intro K hK;go_simp
 refine hK.out _ _ ?_
 refine bO ?_
 go_wp2_with fail
 go_end0
 have qq:=ic.EU (nd:=⟨X,nd.keys,nd.kids⟩) (W:=w4.drew) (w:=w) (value:=value) P hpp hb4 hS hB q1 q2 q0 hB4.drew
 rw[HD.out,<-HSet.out]
 have e2:X[P]=(key,X[P].2):=by rw[<-hget]
 have e3:X.set P (X[P].1,value)=X.set P (key,value):=by rw[hget]
 rw[<-e3]
 exact⟨rfl,qq.1,qq.2⟩
theorem Kr (kb vb nb B:Nat)(key value:ByteArray)(nd:Nd)(S:Nat->Prop)(w:World)(hsub:∀g,S g->g<w.heap.size)(hk:qE w kb key)(hv:qE w vb value)(hkB:kb<B)(hvB:vb<B)(hn:ic w S B nb nd)(hr:iG nd.pairs)(hl:nd.pairs.length<=999999):
  Calls Tryz.prog 166 #[.pointer (some ⟨nb,0,none⟩),.pointer (some ⟨kb,0,none⟩),.pointer (some ⟨vb,0,none⟩)] w fun e w'=>e= .returned (.tuple #[])/\ic w' S B nb ⟨jT nd.pairs key value,nd.keys,nd.kids⟩/\Below B w w':=by
 cases hat:ou nd.pairs key with
 |true=>exact Kq kb vb nb B key value nd S w hk hv hn hr (by omega) hat
 |false=>exact Ko kb vb nb B key value nd S w hsub hk hv hkB hvB hn hr hl hat
end Go.Proofs.YtbfjgkafmlbpcaaGreatDoor
