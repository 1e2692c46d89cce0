/- parts -/
import Derived.Test.YtpmbddooibgnaaaGreatDoorS1
import Derived.Test.YtpmbddooibgnaaaGreatDoorS4
import Derived.Test.YtpmbddooibgnaaaGreatDoorS15
import Derived.Test.YtpmbddooibgnaaaGreatDoorS16
import Derived.Test.YtpmbddooibgnaaaGreatDoorS18
set_option maxRecDepth 100000
set_option maxHeartbeats 8000000
set_option linter.all false
namespace Go.Proofs.YtpmbddooibgnaaaGreatDoor
open Go.RowKit
structure Fg (σ:bR)(b:Int)(nd:Nd):Prop where
 has:σ.hasB b=true
 lo:2<=b
 hi:b<=4096
 mem:∃rest,σ.mem b=nd.enc++rest
 fits:nd.Fits
def bK (w:World)(t:Nat)(mp:VS)(root err:Int):Prop:=w.heap[t]? =some (.cells #[.iface 178 mp.agg,.int .i64 root,.int .i64 err] 267 (0,0))
theorem oz (t:Nat)(mp:VS)(root err b deep:Int)(σ:bR)(S:Nat->Prop)(nd:Nd)(w:World)(h:Inv σ S mp w)(ht:bK w t mp root err)(hb:Fg σ b nd)(hd:deep<=40):
  Calls Tryz.prog 140 #[.pointer (some ⟨t,0,none⟩),.int .i64 b,.int .i64 deep] w fun e w'=>∃nb,e= .returned (.tuple #[.pointer (some ⟨nb,0,none⟩),.int .i64 0])/\fJ w' S w.heap.size nb nd/\Below w.heap.size w w':=by
 obtain⟨c0,c1,c2,_,_,_,hlt⟩:=cells3 ht
 obtain⟨rest,hmem⟩:=hb.mem
 have hrd:=y9 mp σ S w b h hb.has
 have hfit:=hb.fits
 have hsub:=h.sub
 have hl5:(nd.enc++rest).length=512:=by
  rw[<-hmem];obtain⟨n,rfl,hn,_⟩:=bR.kJ hb.has;exact h.ok.len n hn
 rw[hmem] at hrd
 have hd2:¬((40:Int)<deep):=by omega
 go_enter Tryz.func140,Tryz.ntmps140
 have hm:∀w,(method 841 178 mp.agg "Read").run Tryz.prog w= .ok (136,.pointer (some ⟨mp.tx,0,none⟩)) w:=fun _=>by kernel_rfl
 have HRd:=af hrd;clear hrd hmem
 go_wp2_with (first
  |(refine HRd.out.mono ?_;rintro e w1 ⟨v,rfl,hv,_,hbel1⟩)
  |(go_at_call 218;go_must ((refine(GI _ nd rest w1 S (fun g hg=>ax (hsub g hg) hbel1.size) (by unfold gT;rw[hl5];exact hv) hfit (by rw[hl5];omega)).mono ?_);rintro e w2 ⟨nb,rfl,hn,hbel2⟩)))
 go_ret2
 refine⟨nb,rfl,?_,hbel1.trans (hbel2.mono hbel1.size)⟩
 obtain⟨q0,q1,v0,v1,v2,q2,q3,q4,q5⟩:=hn
 exact⟨q0,aG hbel1.size q1,v0,v1,v2,q2,q3.base hbel1.size,q4.base hbel1.size,q5.base hbel1.size⟩
theorem bK.step {w w':World}{t:Nat}{mp:VS}{root err:Int}{S S':Nat->Prop}(h:bK w t mp root err)(hS:¬S t)(hs:Step S S' w w'):bK w' t mp root err/\¬S' t:=by
 have hl:=(ah.1 h).1
 exact⟨(hs.1.block t hl hS).trans h,fun x=>(hs.2 t x).elim hS (fun y=>absurd hl (aV.2 y))⟩
theorem K5 (t:Nat)(mp:VS)(root err b deep:Int)(σ:bR)(S:Nat->Prop)(nd:Nd)(w:World)(h:Inv σ S mp w)(ht:bK w t mp root err)(_hst:¬S t)(hb:Fg σ b nd)(hd:deep<=40):
  Calls Tryz.prog 563 #[.pointer (some ⟨t,0,none⟩),.int .i64 b,.int .i64 deep] w fun e w'=>∃nb,e= .returned (.pointer (some ⟨nb,0,none⟩))/\fJ w' S w.heap.size nb nd/\Inv (σ.gone b) S mp w'/\Step S S w w':=by
 have hlt:t<w.heap.size:=(ah.1 ht).1
 go_enter Tryz.func563,Tryz.ntmps563
 have hm:∀w,(method 841 178 mp.agg "Free").run Tryz.prog w= .ok (619,.pointer (some ⟨mp.mp,0,none⟩)) w:=fun _=>by kernel_rfl
 go_wp2_with (first
  |(go_at_call 140;go_must ((refine(oz t mp root err b deep σ S nd w h ht hb hd).mono ?_);rintro e w1 ⟨nb,rfl,hn,hbel1⟩))
  |(go_at_call 562;go_must ((refine(uX _).mono ?_);rintro e w1 ⟨rfl,rfl⟩;refine Stop.of ?_)))
 refine Stop.on ?_
 obtain⟨c0,_,_,_,_,_,hlt1⟩:=cells3 ((hbel1.block t hlt).trans ht)
 go_wp2_with (first
  |(go_at_call 619;go_must ((refine(EC mp σ S _ b (h.below hbel1) hb.lo hb.has).mono ?_);rintro e w2 ⟨rfl,hI,hs⟩))
  |(go_at_call 562;go_must ((refine(uX _).mono ?_);rintro e w1 ⟨rfl,rfl⟩;refine Stop.of ?_)))
 refine Stop.on ?_
 go_wp2_with fail
 go_ret
 exact⟨nb,rfl,hn.step hs,hI,(Step.of_below hbel1).trans hs⟩
structure Wrote (σ:bR)(b:Int)(nd:Nd)(σ':bR):Prop where
 new:σ.hasB b=false
 nheld:σ.held b=false
 blk:Fg σ' b nd
 other:∀x,x≠b->σ'.hasB x=σ.hasB x/\σ'.mem x=σ.mem x
 size:σ'.sz=σ.sz+1
 held:σ'.H=σ.H
 most:σ'.most=σ.most
 tk:σ'.tk=max σ.tk σ'.sz
def GX (mp:VS)(σ:bR)(S:Nat->Prop)(w:World)(e:Ending)(w':World):Prop:=
 e= .panicked (brk 12)/\∃σ' S',Inv σ' S' mp w'/\Step S S' w w'/\σ'.H=σ.H/\σ'.most=σ.most
theorem GX.after {mp:VS}{σ σ1:bR}{S S1:Nat->Prop}{w w1 w':World}{e:Ending}(h:GX mp σ1 S1 w1 e w')(hs:Step S S1 w w1)(h1:σ1.H=σ.H)(h2:σ1.most=σ.most):GX mp σ S w e w':=by
 obtain⟨he,σ',S',a,b,c,d⟩:=h
 exact⟨he,σ',S',a,hs.trans b,c.trans h1,d.trans h2⟩
theorem KI {σ:bR}(ok:σ.Ok){f:Nat}{nd:Nd}(f1:2<=f)(f2:f<σ.most)(f3:σ.hasB f=false)(f4:σ.held f=false)(hfit:nd.Fits):Wrote σ f nd ((σ.took f).wrote f (pad nd.enc)):=by
 have hcap:=ok.cap
 have hnow:σ.now f=false:=by
  unfold bR.hasB at f3
  simpa [f2] using f3
 have hold:σ.H.old f=false:=by
  unfold bR.held at f4
  simpa using f4
 have hx:∀x:Int,x≠f->0<=x->x.toNat≠f:=fun x hx h0 e=>hx (by omega)
 refine⟨f3,f4,⟨?_,by omega,by omega,⟨List.replicate (512 - nd.enc.length) 0,?_⟩,hfit⟩,fun x hne=>⟨?_,?_⟩,?_,rfl,rfl,rfl⟩
 ·show (decide ((0:Int)<=(f:Int)) && (decide ((f:Int).toNat<σ.most) && fD σ.now f true (f:Int).toNat))=true
  simp[fD,f2]
 ·show σ.H.pg.look (σ.im.put f (pad nd.enc)) σ.H.dk (f:Int).toNat=_
  rw[qY,cB,if_pos rfl];rfl
 ·show (decide (0<=x) && (decide (x.toNat<σ.most) && fD σ.now f true x.toNat))=_
  unfold bR.hasB
  by_cases h0:0<=x
  ·unfold fD;rw[if_neg (hx x hne h0)]
  ·simp[h0]
 ·show σ.H.pg.look (σ.im.put f (pad nd.enc)) σ.H.dk x.toNat=σ.H.pg.look σ.im σ.H.dk x.toNat
  rw[qY]
  split
  ·rename_i e
   exact absurd (by omega:x=f) hne
  ·rfl
 ·show countB (fun x=>fD σ.now f true x||σ.H.old x) σ.most=countB (fun x=>σ.now x||σ.H.old x) σ.most+1
  rw[<-Bj (f:=fun x=>σ.now x||σ.H.old x) (b:=f) (by rw[hnow,hold];rfl) _ f2]
  refine iK _ (fun x _=> ?_)
  unfold fD
  split<;>simp
theorem Ar (t:Nat)(mp:VS)(root err:Int)(σ:bR)(S:Nat->Prop)(nb:Nat)(nd:Nd)(least:ByteArray)(w:World)(h:Inv σ S mp w)(ht:bK w t mp root err)(hst:¬S t)(hn:kM w S nb nd)(hfit:nd.Fits)(hs:nd.size<=512):
  Calls Tryz.prog 573 #[.pointer (some ⟨t,0,none⟩),.pointer (some ⟨nb,0,none⟩),.string least] w fun e w'=>(∃(f:Nat) (σ':bR) (S':Nat->Prop),e= .returned (.agg #[.int .i64 f,.string least])/\Wrote σ f nd σ'/\Inv σ' S' mp w'/\Step S S' w w')\/(σ.sz=σ.most/\GX mp σ S w e w'):=by
 obtain⟨c0,_,_,_,_,_,hlt⟩:=cells3 ht
 have hnb:nb<w.heap.size:=by obtain⟨_,_,_,_,hb,_⟩:=hn;exact(ah.1 hb).1
 have hsub:=h.sub
 go_enter Tryz.func573,Tryz.ntmps573
 have hmT:∀w,(method 841 178 mp.agg "Take").run Tryz.prog w= .ok (620,.pointer (some ⟨mp.mp,0,none⟩)) w:=fun _=>by kernel_rfl
 have hmW:∀w,(method 841 178 mp.agg "Write").run Tryz.prog w= .ok (118,.pointer (some ⟨mp.tx,0,none⟩)) w:=fun _=>by kernel_rfl
 have hb0:=aC w (.cells #[.int .i64 0,.string ⟨#[]⟩] 659)
 go_wp2_with (first
  |(go_at_call 620;go_must ((refine(NK mp σ S _ (h.below hb0)).mono ?_);rintro e w1 (⟨f,rfl,f1,f2,f3,f4,f6,hI1,hs1⟩|⟨rfl,hfull,hI1,hs1⟩)<;>refine Stop.of ?_)))
 rotate_left
 ·refine Stop.on ?_
  have HFU:=af hfull;clear hfull
  go_wp2_with (first
   |(go_at_call 562;go_must ((refine(LG 12 rfl _).mono ?_);rintro e w2 ⟨rfl,hw⟩;subst w2)))
  exact⟨rfl,.inr ⟨HFU.out,rfl,σ,S,hI1,(Step.of_below hb0).trans hs1,rfl,rfl⟩⟩
 refine Stop.on ?_
 go_wp2_with (first
  |(go_at_call 562;go_must ((refine(uX _).mono ?_);rintro e w2 ⟨rfl,hw⟩;subst w2)))
 have hstep1:Step S S w w1:=(Step.of_below hb0).trans hs1
 have ht1:=ht.step hst hstep1
 have hn1:=hn.step hstep1
 have hsub1:=hI1.sub
 have hcellr:w1.heap[w.heap.size]? =some (.cells #[.int .i64 0,.string ⟨#[]⟩] 659 (0,0)):=(hs1.1.block _ (by rw[aZ];exact lT _) (fun x=>absurd (hsub _ x) (bY _))).trans (aF _ _)
 obtain⟨c1,_,_,_,_,_,hlt1⟩:=cells3 ht1.1
 have hnb1:nb<w1.heap.size:=ax hnb hstep1.1.size
 have hcap:=h.cap
 have HF2:=af f2
 have f5:f<=4096:=by omega
 clear f2 c0
 refine aK (fun W=>W.cell? ⟨t,0,none⟩=some (.iface 178 mp.agg)/\t<W.heap.size) (fun i=> !([6,9,10].contains i)) [0,1,2,3,4,5,7,8,6,9,10] rfl (by kernel_rfl) ⟨c1,hlt1⟩ ?_
 repeat ((refine bq (v:= ?_) rfl rfl (fun _ _ _ h=>h) rfl (fun W hW=> ?_) ?_);rotate_left;(focus ((try dsimp only at hW);have q0:=hW.1;have q1:=hW.2;first|(go_simp;first|done|with_reducible rfl)));(try simp only[Act.put,aj,av,au]))
 have hE:=GA nb nd w1.drew S hsub1 hn1 (by omega) hfit.kd
 refine bP rfl rfl rfl ?_;intro K hK;go_simp
 refine hE.mono ?_;rintro e w2 ⟨v,rfl,hv,hbel2⟩
 have hI2:Inv (σ.took f) S mp w2:=hI1.below (((aH _ w1).drew).trans hbel2)
 have hs2:Step S S w1 w2:=Step.of_below (((aH _ w1).drew).trans hbel2)
 have ht2:=ht1.1.step ht1.2 hs2
 obtain⟨c2,_,_,_,_,_,hlt2⟩:=cells3 ht2.1
 refine hK.out _ _ ⟨c2,hlt2⟩ ?_
 have hvb:gT w2 d9 v nd.enc:=aW.loose hv.dL
 have hel:nd.enc.length<=512:=by rw[Nd.GD];exact hs
 have hWr:=Aq mp _ S w2 f v nd.enc hI2 HF2.out hvb hel (.inr ⟨by simp[bR.took,fD],by show σ.H.old f=false;have:=f4;unfold bR.held at this;simpa using this⟩)
 have HWr:=af hWr;clear hWr hE
 refine bP rfl rfl rfl ?_;intro K hK;go_simp
 refine HWr.out.mono ?_;rintro e w3 ⟨rfl,hI3,hs3⟩
 have hs13:Step S S w1 w3:=hs2.trans hs3
 have ht3:=ht1.1.step ht1.2 hs13
 obtain⟨c3,_,_,_,_,_,hlt3⟩:=cells3 ht3.1
 refine hK.out _ _ ⟨c3,hlt3⟩ ?_
 refine bP rfl rfl rfl ?_;intro K hK;go_simp
 refine(uX _).mono ?_;rintro e w4 ⟨rfl,hw⟩;subst w4
 refine hK.out _ _ ⟨c3,hlt3⟩ ?_
 refine bF ?_
 have hw1:w.heap.size<w1.heap.size:=(ah.1 hcellr).1
 have hS1r:¬S w.heap.size:=fun x=>absurd (hsub _ x) (bY _)
 have hr3:w3.heap[w.heap.size]? =some (.cells #[.int .i64 0,.string ⟨#[]⟩] 659 (0,0)):=(hs13.1.block _ hw1 hS1r).trans hcellr
 have hr3lt:w.heap.size<w3.heap.size:=(ah.1 hr3).1
 have r0:w3.cell? ⟨w.heap.size,0,none⟩=some (.int .i64 0):=by simp[World.cell?,hr3]
 have r1:w3.cell? ⟨w.heap.size,1,none⟩=some (.string ⟨#[]⟩):=by simp[World.cell?,hr3]
 have g0:w3.frozen? ⟨w.heap.size,0,none⟩=false:=by simp[World.frozen?,hr3]
 have g1:w3.frozen? ⟨w.heap.size,1,none⟩=false:=by simp[World.frozen?,hr3]
 have hi3:=hI3.sub
 have HW6:=af (ak f3 (ak f4 f6))
 clear c1 c2 c3 hcellr f3 f4 f6
 go_wp2_with fail
 have hk5:Keep (· =w.heap.size) w3 ((w3.setCell ⟨w.heap.size,0,none⟩ (.int .i64 f)).setCell ⟨w.heap.size,1,none⟩ (.string least)):=((Keep.refl (· =w.heap.size) w3).setCell (p:=⟨w.heap.size,0,none⟩) (.inr rfl) _).setCell (p:=⟨w.heap.size,1,none⟩) (.inr rfl) _
 have hfin:((w3.setCell ⟨w.heap.size,0,none⟩ (.int .i64 f)).setCell ⟨w.heap.size,1,none⟩ (.string least)).heap[w.heap.size]? =some (.cells #[.int .i64 f,.string least] 659 (0,0)):=by
  simp[World.setCell,aJ,hr3]
 refine eX (oZ rfl _ _ _ 659 #[.int .i64 f,.string least] (0,0) _ rfl hfin Tryz.underlying659 rfl rfl) rfl ?_
 have hst3:Step S S w w3:=hstep1.trans hs13
 refine .inl ⟨f,_,S,rfl,?_,hI3.mF hk5 (fun g hg e=>hS1r (by rw[<-e];exact hg)),hst3.1.trans hk5 (fun i hi e=>absurd hi (by rw[e];exact bY _)),hst3.2⟩
 exact KI h.ok f1 HF2.out HW6.out.1 HW6.out.2.1 hfit
structure Nd.Ok (nd:Nd):Prop where
 pr:∀p∈nd.pairs,p.1.size<=128/\p.2.size<=64
 ky:∀k∈nd.keys,k.size<=128
 kd:∀k∈nd.kids,1<=k/\k<=4096
 kk:nd.keys.length=nd.kids.length - 1
 one:nd.kids≠[]->nd.pairs=[]
 np:nd.pairs.length<=2000
 nk:nd.kids.length<=2000
theorem DL (ps:List Pr)(h:∀p∈ps,p.1.size<=128/\p.2.size<=64):eu ps<=194*ps.length:=by
 induction ps with
 |nil=>exact aN _
 |cons p ps ih=>
  have h1:=h p (by simp)
  have:=ih (fun q hq=>h q (by simp[hq]))
  rw[mX,aU];omega
theorem Cn (ps:List ByteArray)(h:∀p∈ps,p.size<=128):gm ps<=129*ps.length:=by
 induction ps with
 |nil=>exact aN _
 |cons p ps ih=>
  have h1:=h p (by simp)
  have:=ih (fun q hq=>h q (by simp[hq]))
  rw[qp,aU];omega
theorem Nd.Ok.size_le {nd:Nd}(h:nd.Ok):nd.size<=1000000:=by
 have h1:=DL _ h.pr
 have h2:=Cn _ h.ky
 have h3:=h.np
 have h4:=h.nk
 have h5:=h.kk
 unfold Nd.size
 omega
theorem Nd.Ok.fits {nd:Nd}(h:nd.Ok)(hs:nd.size<=512)(hne:nd.kids≠[]\/nd.pairs≠[]):nd.Fits:=by
 have h1:=mK nd.pairs
 have h2:=l8 nd.keys
 unfold Nd.size at hs
 refine⟨by omega,by omega,fun p hp=> ?_,fun k hk=> ?_,fun k hk=> ?_,h.kk,?_,?_⟩
 ·have:=h.pr p hp;omega
 ·have:=h.ky k hk;omega
 ·have:=h.kd k hk;omega
 ·intro hp hk;exact hne.elim (fun x=>x hk) (fun x=>x hp)
 ·intro hk;exact h.one hk
inductive Nr:Nd->ByteArray->List (ByteArray×Nd)->Prop
 |none {nd l}:nd.kids=[]->nd.pairs=[]->Nr nd l []
 |one {nd l}:(nd.kids≠[]\/nd.pairs≠[])->nd.size<=512->Nr nd l [(leastOf nd l,nd)]
 |leaf {nd l} (i:Nat) (hi:i<nd.pairs.length) {A B}:nd.kids=[]->512<nd.size->1<=i->Pb nd i->Nr ⟨nd.pairs.take i,[],[]⟩ l A->Nr ⟨nd.pairs.drop i,[],[]⟩ (leastOf ⟨nd.pairs.drop i,[],[]⟩ nd.pairs[i].1) B->Nr nd l (A++B)
 |inner {nd l} (i:Nat) (hi:i - 1<nd.keys.length) {A B}:nd.kids≠[]->512<nd.size->i=nd.kids.length/2->Nr ⟨[],nd.keys.take (i - 1),nd.kids.take i⟩ l A->Nr ⟨[],nd.keys.drop i,nd.kids.drop i⟩ (leastOf ⟨[],nd.keys.drop i,nd.kids.drop i⟩ nd.keys[i - 1]) B->Nr nd l (A++B)
def Puts:bR->List Pc->List (ByteArray×Nd)->bR->Prop
 |σ,[],[],σ'=>σ'=σ
 |σ,p::ps,z::zs,σ'=>∃σ1,p.2=z.1/\Wrote σ p.1 z.2 σ1/\Puts σ1 ps zs σ'
 |_,_,_,_=>False
def Nd.room (nd:Nd):Nat:=nd.pairs.length+(if nd.kids=[] then 0 else max 1 (nd.kids.length/2))
def l9 (mp:VS)(σ:bR)(S:Nat->Prop)(nd:Nd)(least:ByteArray)(w:World)(e:Ending)(w':World):Prop:=
 (∃v ps zs σ' S',e= .returned v/\aQ w' S' w.heap.size 659 2 v ps.length (uS ps)/\Nr nd least zs/\Puts σ ps zs σ'/\Inv σ' S' mp w'/\Step S S' w w')\/(σ.most<σ.sz+nd.room/\GX mp σ S w e w')
theorem Lr {nd:Nd}(hne:nd.kids≠[]\/nd.pairs≠[]):1<=nd.room:=by
 unfold Nd.room
 rcases hne with h|h
 ·rw[if_neg h];omega
 ·have:=gH.2 h;omega
theorem yU (t:Nat)(mp:VS)(root err:Int)(σ:bR)(S:Nat->Prop)(nb:Nat)(nd:Nd)(least:ByteArray)(w:World)(h:Inv σ S mp w)(ht:bK w t mp root err)(hst:¬S t)(hn:kM w S nb nd)(ok:nd.Ok)(hne:nd.kids≠[]\/nd.pairs≠[])(hs:nd.size<=512):
  Calls Tryz.prog 561 #[.pointer (some ⟨t,0,none⟩),.pointer (some ⟨nb,0,none⟩),.string least] w (l9 mp σ S nd least w):=by
 have hN:=hn
 obtain⟨_,v0,v1,v2,hb,h0,h1,h2⟩:=hn
 obtain⟨c0,c1,c2,_,_,_,hlt⟩:=cells3 hb
 obtain⟨ao0,cp0,rfl,n0,m0,_,_⟩:=aW.form h0
 have hfit:=ok.fits hs hne
 have HR:=af (Lr hne)
 have hcond:(nd.kids.isEmpty && nd.pairs.isEmpty)=false:=by
  rcases hne with hne|hne<;>cases h1:nd.kids<;>cases h2:nd.pairs<;>simp_all
 have hne2:=af (show nd.kids=[]->nd.pairs≠[] from fun x y=>hne.elim (fun z=>z x) (fun z=>z y))
 have htl:t<w.heap.size:=(ah.1 ht).1
 have hs2:(nd.size:Int)<=512:=by omega
 go_enter Tryz.func561,Tryz.ntmps561
 have hdone:∀(f:Nat) (σ':bR) (S':Nat->Prop) (w':World),Wrote σ f nd σ'->Inv σ' S' mp w'->Step S S' w w'->l9 mp σ S nd least w (.returned (.slice (some ⟨w'.heap.size,0,none⟩) 1 1)) (w'.alloc (.cells #[.int .i64 f,.string (leastOf nd least)] 659)):=by
  intro f σ' S' w' h1 h2 h3
  refine .inl ⟨_,[((f:Int),leastOf nd least)],_,σ',S',rfl,?_,.one hne hs,⟨σ',rfl,h1,rfl⟩,h2.below (aC _ _),h3.trans (Step.of_below (aC _ _))⟩
  have:=yx (w:=w') (S:=S') (B:=w.heap.size) (e:=659) (k:=2) (uS [((f:Int),leastOf nd least)]) 1 1 rfl rfl (aA _) (by simp[maxLen]) h3.1.size h2.sub
  exact this
 cases hk:nd.kids.isEmpty with
 |true=>
  have hpl:¬nd.pairs.length=0:=by
   rw[hk] at hcond;intro e;rw[bn e] at hcond;simp at hcond
  have hpl':¬((nd.pairs.length:Int)=0):=by omega
  go_wp2_with (first
   |(go_at_call 219;go_must ((refine(kW nb nd _ S hN).mono ?_);rintro e w1 ⟨rfl,hw⟩;subst w1;rw[hk]))
   |(go_at_call 572;go_must ((refine(Dt nb nd _ S hN ok.size_le).mono ?_);rintro e w1 ⟨rfl,hbel1⟩))
   |(go_at_call 574;go_must ((refine(Bb nb nd least _ S (hN.below hbel1) hne2.out).mono ?_);rintro e w2 ⟨rfl,hw⟩;subst w2))
   |(go_at_call 573;go_must ((refine(Ar t mp root err σ S nb nd _ _ (h.below hbel1) ((hbel1.block _ htl).trans ht) hst (hN.below hbel1) hfit hs).mono ?_);rintro e w3 (⟨f,σ',S',rfl,hW,hI,hS⟩|⟨hfull,rfl,σ1,S1,g1,g2,g3,g4⟩)<;>refine Stop.of ?_)))
  rotate_left
  ·refine Stop.on ?_
   exact⟨rfl,.inr ⟨by have:=HR.out;omega,rfl,σ1,S1,g1,(Step.of_below hbel1).trans g2,g3,g4⟩⟩
  refine Stop.on ?_
  go_wp2_with fail
  go_ret
  exact hdone f σ' S' w3 hW hI ((Step.of_below hbel1).trans hS)
 |false=>
  go_wp2_with (first
   |(go_at_call 219;go_must ((refine(kW nb nd _ S hN).mono ?_);rintro e w1 ⟨rfl,hw⟩;subst w1;rw[hk]))
   |(go_at_call 572;go_must ((refine(Dt nb nd _ S hN ok.size_le).mono ?_);rintro e w1 ⟨rfl,hbel1⟩))
   |(go_at_call 574;go_must ((refine(Bb nb nd least _ S (hN.below hbel1) hne2.out).mono ?_);rintro e w2 ⟨rfl,hw⟩;subst w2))
   |(go_at_call 573;go_must ((refine(Ar t mp root err σ S nb nd _ _ (h.below hbel1) ((hbel1.block _ htl).trans ht) hst (hN.below hbel1) hfit hs).mono ?_);rintro e w3 (⟨f,σ',S',rfl,hW,hI,hS⟩|⟨hfull,rfl,σ1,S1,g1,g2,g3,g4⟩)<;>refine Stop.of ?_)))
  rotate_left
  ·refine Stop.on ?_
   exact⟨rfl,.inr ⟨by have:=HR.out;omega,rfl,σ1,S1,g1,(Step.of_below hbel1).trans g2,g3,g4⟩⟩
  refine Stop.on ?_
  go_wp2_with fail
  go_ret
  exact hdone f σ' S' w3 hW hI ((Step.of_below hbel1).trans hS)
def pM (w:World)(b:Nat)(s:ByteArray):Prop:=w.heap[b]? =some (.cells #[.string s] 9 (0,0))
def J7 (ps:List Pr)(key:ByteArray):List Pr:=if oW ps key then ps.take (cZ ps key)++ps.drop (cZ ps key+1) else ps
def gZ (ps:List Pr)(key value:ByteArray):List Pr:=if oW ps key then ps.set (cZ ps key) (key,value) else ps.take (cZ ps key)++(key,value)::ps.drop (cZ ps key)
theorem sQ {ps:List Pr}{key:ByteArray}(h:oW ps key=true):∃h:cZ ps key<ps.length,ps[cZ ps key].1=key:=by
 unfold oW at h
 split at h
 ·rename_i p hp
  obtain⟨h1,h2⟩:=bg.1 hp
  exact⟨h1,by rw[h2];exact aR h⟩
 ·cases h
theorem kP {w:World}{b:Nat}{s:ByteArray}(h:pM w b s):w.cell? ⟨b,0,none⟩=some (.string s)/\b<w.heap.size:=by
 unfold pM at h
 exact⟨by simp[World.cell?,h],(ah.1 h).1⟩
theorem aQ.ED {w:World}{S:Nat->Prop}{B e k n:Nat}{v:Value}{xs:List Value}(h:aQ w S B e k v n xs)(hn:0<n):∃g c,v= .slice (some ⟨g,0,none⟩) n c/\n<=c/\c<=9223372036854775807/\B<=g/\g<w.heap.size:=by
 obtain⟨ao,c,rfl,h1,h2,_⟩:=h.dL.form
 rcases h.1.2 with ⟨e,h0⟩|⟨g,cap,cur,e,hB,hg,_⟩
 ·exact absurd h0 (by omega)
 ·cases e;exact⟨g,c,rfl,h1,h2,hB,(ah.1 hg).1⟩
theorem fJ.Lf {w W:World}{S:Nat->Prop}{B b:Nat}{nd:Nd}{v0 v1 v2 v':Value}{ps:List Pr}(hb:W.heap[b]? =some (.cells #[v0,v1,v2] 272 (0,0)))(hS:¬S b)(hB:B<=b)(h1:aQ W S B 9 1 v1 nd.keys.length (nd.keys.map .string))(h2:aQ W S B 3 1 v2 nd.kids.length (nd.kids.map (.int .i64)))
  (h0:aQ W S B 188 2 v' ps.length (bZ ps)) (hk:Below B w W):fJ (W.setCell ⟨b,0,none⟩ v') S B b ⟨ps,nd.keys,nd.kids⟩/\Below B w (W.setCell ⟨b,0,none⟩ v'):=by
 have hk5:Keep (· =b) W (W.setCell ⟨b,0,none⟩ v'):=Keep.setCell (M:=(· =b)) (p:=⟨b,0,none⟩) (Keep.refl _ _) (.inr rfl) v'
 refine⟨⟨hS,hB,v',v1,v2,?_,h0.keep fun g hg hl hs=>⟨hk5.block g hl (fun e=>h0.ne hb (by decide) (by rw[hg,e])),hs⟩,h1.keep fun g hg hl hs=>⟨hk5.block g hl (fun e=>h1.ne hb (by decide) (by rw[hg,e])),hs⟩,h2.keep fun g hg hl hs=>⟨hk5.block g hl (fun e=>h2.ne hb (by decide) (by rw[hg,e])),hs⟩⟩,hk.setCell (by simpa using hB) v'⟩
 simp[World.setCell,aJ,hb]
theorem xI (ps:List Pr)(v:ByteArray):∀(i:Nat) (h:i<ps.length),(bZ ps).set (i*2+1) (.string v)=bZ (ps.set i (ps[i].1,v)):=by
 induction ps with
 |nil=>intro i h;simp at h
 |cons p ps ih=>
  intro i h
  cases i with
  |zero=>rfl
  |succ i=>
   have:=ih i (by simpa using h)
   simp only[jL,au,List.getElem_cons_succ,P6]
   rw[this]
theorem fJ.Du {w W:World}{S:Nat->Prop}{B b g c:Nat}{nd:Nd}{v1 v2:Value}{value:ByteArray}(i:Nat)(hi:i<nd.pairs.length)(hb:W.heap[b]? =some (.cells #[.slice (some ⟨g,0,none⟩) nd.pairs.length c,v1,v2] 272 (0,0)))(hS:¬S b)(hB:B<=b)(h1:aQ W S B 9 1 v1 nd.keys.length (nd.keys.map .string))(h2:aQ W S B 3 1 v2 nd.kids.length (nd.kids.map (.int .i64)))
  (h0:aQ W S B 188 2 (.slice (some ⟨g,0,none⟩) nd.pairs.length c) nd.pairs.length (bZ nd.pairs)) (hk:Below B w W):fJ (W.setCell ⟨g,i*2+1,none⟩ (.string value)) S B b ⟨nd.pairs.set i (nd.pairs[i].1,value),nd.keys,nd.kids⟩/\Below B w (W.setCell ⟨g,i*2+1,none⟩ (.string value)):=by
 obtain⟨cur,hr,hl,hx,hBg,hSg,hc,hc2⟩:=h0.row
 have hk5:Keep (· =g) W (W.setCell ⟨g,i*2+1,none⟩ (.string value)):=Keep.setCell (M:=(· =g)) (p:=⟨g,i*2+1,none⟩) (Keep.refl _ _) (.inr rfl) _
 have hr':Row (W.setCell ⟨g,i*2+1,none⟩ (.string value)) g 188 (cur.set (i*2+1) (.string value)):=by
  unfold Row at hr ⊢
  simp[World.setCell,aJ,hr]
 have hgb:b≠g:=fun e=>by subst e;exact h0.ne hb (by decide) rfl
 refine⟨⟨hS,hB,_,v1,v2,(hk5.block b (ah.1 hb).1 hgb).trans hb,?_,h1.keep fun g' hg hl hs=>⟨hk5.block g' hl (fun e=>aQ.PG h1 h0 (by decide) _ hg (by rw[e];rfl)),hs⟩,h2.keep fun g' hg hl hs=>⟨hk5.block g' hl (fun e=>aQ.PG h2 h0 (by decide) _ hg (by rw[e];rfl)),hs⟩⟩,hk.setCell (by simpa using hBg) _⟩
 have:=hr'.own (S:=S) (B:=B) (k:=2) (cap:=c) nd.pairs.length (by simpa using hl) hBg hSg hc hc2
 rw[show (cur.set (i*2+1) (.string value)).take (nd.pairs.length*2)=bZ (nd.pairs.set i (nd.pairs[i].1,value)) from by rw[<-xI _ _ i hi,<-hx,<-List.take_set]] at this
 simpa using this
theorem JI (kb vb nb B:Nat)(key value:ByteArray)(nd:Nd)(S:Nat->Prop)(w:World)(hk:pM w kb key)(hv:pM w vb value)(hn:fJ w S B nb nd)(hr:gu nd.pairs)(hl:nd.pairs.length<=1000000)(hat:oW nd.pairs key=true):
  Calls Tryz.prog 545 #[.pointer (some ⟨nb,0,none⟩),.pointer (some ⟨kb,0,none⟩),.pointer (some ⟨vb,0,none⟩)] w fun e w'=>e= .returned (.tuple #[])/\fJ w' S B nb ⟨gZ nd.pairs key value,nd.keys,nd.kids⟩/\Below B w w':=by
 have hN:=hn
 obtain⟨hS,hB,v0,v1,v2,hb,h0,h1,h2⟩:=hn
 obtain⟨c0,c1,c2,_,_,_,hlt⟩:=cells3 hb
 obtain⟨k0,kl⟩:=kP hk
 have hnB:B<=w.heap.size:=aG hB (iP hlt)
 obtain⟨hp,hkey⟩:=sQ hat
 have hd:gZ nd.pairs key value=nd.pairs.set (cZ nd.pairs key) (key,value):=by unfold gZ;rw[hat];rfl
 generalize hP:cZ nd.pairs key=P at hp hkey hd
 obtain⟨g,c,rfl,hc1,hc2,hBg,hgl⟩:=h0.ED (by omega)
 go_enter Tryz.func545,Tryz.ntmps545
 have HP:=af hP;clear hP
 go_wp2_with (first
  |(go_at_call 220;go_must ((refine(rz nb nd key _ S hN.jY hr hl).mono ?_);rw[hat,HP.out];rintro e w1 ⟨rfl,hb1⟩)))
 have hb1':=hb1
 obtain⟨e0,_,_,_,_,_,hlt1⟩:=cells3 ((hb1.block nb hlt).trans hb)
 obtain⟨f0,fl⟩:=kP (show pM w1 vb value from(hb1.block vb (kP hv).2).trans hv)
 have hgl1:g<w1.heap.size:=ax hgl hb1.size
 have hcur:=(h0.step (Step.of_below hb1)).row
 obtain⟨cur,hrow,hcl,_⟩:=hcur
 have hfr:=hrow.frozen (P*2+1)
 have hcc:=hrow.cell (P*2+1)
 clear c0 c1 c2
 refine aK (fun W=>W=w1.drew) (fun i=> !([8].contains i)) [0,1,2,3,4,5,6,7,8] rfl (by kernel_rfl) rfl ?_
 have d0:w1.drew.cell? ⟨nb,0,none⟩=some (.slice (some ⟨g,0,none⟩) nd.pairs.length c):=e0
 have d1:w1.drew.cell? ⟨vb,0,none⟩=some (.string value):=f0
 have hPi:(P:Int)<(nd.pairs.length:Int):=by omega
 repeat ((refine bq (v:= ?_) rfl rfl (fun _ _ _ h=>h) rfl (fun W hW=> ?_) ?_);rotate_left;(focus ((try dsimp only at hW);subst hW;first|(go_simp;first|done|with_reducible rfl)));(try simp only[Act.put,aj,av,au]))
 have x0:w1.drew.frozen? ⟨g,P*2+1,none⟩=false:=hfr
 have x1:w1.drew.cell? ⟨g,P*2+1,none⟩=some cur[P*2+1]:=hcc.trans (bD (by omega))
 refine jm rfl rfl rfl (by kernel_rfl) ?_;intro K hK;go_simp
 refine hK.out _ _ ?_
 refine bF ?_
 have HD:=af hd;clear hd
 go_wp2_with fail
 go_end0
 rw[HD.out,<-hkey]
 have q:=fJ.Du (W:=w1.drew) (w:=w) (value:=value) P hp ((hb1'.block nb hlt).trans hb) hS hB (h1.step (Step.of_below hb1'.drew)) (h2.step (Step.of_below hb1'.drew)) (h0.step (Step.of_below hb1'.drew)) (hb1'.drew.mono hnB)
 exact⟨rfl,q.1,q.2⟩
theorem JH (kb vb nb B:Nat)(key value:ByteArray)(nd:Nd)(S:Nat->Prop)(w:World)(hsub:∀g,S g->g<w.heap.size)(hk:pM w kb key)(hv:pM w vb value)(hkB:kb<B)(hvB:vb<B)(hn:fJ w S B nb nd)(hr:gu nd.pairs)(hl:nd.pairs.length<=999999)(hat:oW nd.pairs key=false):
  Calls Tryz.prog 545 #[.pointer (some ⟨nb,0,none⟩),.pointer (some ⟨kb,0,none⟩),.pointer (some ⟨vb,0,none⟩)] w fun e w'=>e= .returned (.tuple #[])/\fJ w' S B nb ⟨gZ nd.pairs key value,nd.keys,nd.kids⟩/\Below B w w':=by
 have hN:=hn
 obtain⟨hS,hB,v0,v1,v2,hb,h0,h1,h2⟩:=hn
 obtain⟨c0,c1,c2,_,_,_,hlt⟩:=cells3 hb
 obtain⟨k0,kl⟩:=kP hk
 have hnB:B<=w.heap.size:=aG hB (iP hlt)
 have hp:=zb nd.pairs key
 have hd:gZ nd.pairs key value=nd.pairs.take (cZ nd.pairs key)++(key,value)::nd.pairs.drop (cZ nd.pairs key):=by unfold gZ;rw[hat];rfl
 generalize hP:cZ nd.pairs key=P at hp hd
 obtain⟨ao0,cp0,rfl,n0,m0,_,_⟩:=h0.dL.form
 go_enter Tryz.func545,Tryz.ntmps545
 have HP:=af hP;clear hP
 have HD:=af hd;clear hd
 go_wp2_with (first
  |(go_at_call 220;go_must ((refine(rz nb nd key _ S hN.jY hr (by omega)).mono ?_);rw[hat,HP.out];rintro e w1 ⟨rfl,hb1⟩)))
 have hbn1:=(hb1.block nb hlt).trans hb
 obtain⟨e0,_,_,_,_,_,hlt1⟩:=cells3 hbn1
 obtain⟨f0,fl⟩:=kP (show pM w1 kb key from(hb1.block kb kl).trans hk)
 have hv1:pM w1 vb value:=(hb1.block vb (kP hv).2).trans hv
 have hsz1:=hb1.size
 have hB1:Below B w w1.drew:=(hb1.mono hnB).drew
 have h01:=h0.step (Step.of_below hb1)
 have h11:=h1.step (Step.of_below hb1)
 have h21:=h2.step (Step.of_below hb1)
 clear c0 c1 c2
 refine aK (fun W=>W.cell? ⟨nb,0,none⟩=some (.slice ao0 nd.pairs.length cp0)/\nb<W.heap.size/\W.cell? ⟨kb,0,none⟩=some (.string key)/\kb<W.heap.size) (fun i=> !([8,9,12].contains i)) [0,1,2,3,4,5,6,7,8,9,10,11,12] rfl (by kernel_rfl) ⟨e0,hlt1,f0,fl⟩ ?_
 repeat ((refine bq (v:= ?_) rfl rfl (fun _ _ _ h=>h) rfl (fun W hW=> ?_) ?_);rotate_left;(focus ((try dsimp only at hW);have q0:=hW.1;have q1:=hW.2.1;have q2:=hW.2.2.1;have q3:=hW.2.2.2;first|(go_simp;first|done|with_reducible rfl)));(try simp only[Act.put,aj,av,au]))
 refine bP rfl rfl rfl ?_;intro K hK;go_simp
 have hbn:Below w1.drew.heap.size w1.drew (w1.alloc (.cells #[.string key,.string ⟨#[]⟩] 188)).drew:=aC w1.drew (.cells #[.string key,.string ⟨#[]⟩] 188)
 have hB2:Below B w (w1.alloc (.cells #[.string key,.string ⟨#[]⟩] 188)).drew:=hB1.trans (hbn.mono (aG hnB hsz1))
 have hbn2:=(hbn.block nb hlt1).trans hbn1
 have hk2:pM (w1.alloc (.cells #[.string key,.string ⟨#[]⟩] 188)).drew kb key:=(hB2.block kb hkB).trans hk
 have hv2:pM (w1.alloc (.cells #[.string key,.string ⟨#[]⟩] 188)).drew vb value:=(hB2.block vb hvB).trans hv
 have hins:=Et (.slice ao0 nd.pairs.length cp0) nd.pairs.length P (bZ nd.pairs) w1.heap.size [.string key,.string ⟨#[]⟩] (w1.alloc (.cells #[.string key,.string ⟨#[]⟩] 188)).drew S B (fun g hg=>ax (hsub g hg) (aG hsz1 hbn.size)) (aG hnB (aG hsz1 hbn.size)) ((h01.drew).step (Step.of_below hbn)) (Oc _) (aF w1.drew _) h01.lt rfl (by intro u hu;simp at hu;rcases hu with rfl|rfl<;>rfl) (by omega) hp
 have h12:=(h11.drew).step (Step.of_below hbn)
 have h22:=(h21.drew).step (Step.of_below hbn)
 have h02:=(h01.drew).step (Step.of_below hbn)
 generalize (w1.alloc (.cells #[.string key,.string ⟨#[]⟩] 188)).drew=w2 at*
 refine hK.out _ _ ⟨(cells3 hbn2).1,(cells3 hbn2).2.2.2.2.2.2,(kP hk2).1,(kP hk2).2⟩ ?_
 refine bP rfl rfl rfl ?_;intro K hK;go_simp
 refine hins.mono ?_;rintro e w3 ⟨v3,rfl,hown3,hk3⟩
 have hnbv:(Value.slice ao0 nd.pairs.length cp0).ownBlock≠some nb:=h02.ne hbn2 (by decide)
 have hbn3:=(hk3.block nb (cells3 hbn2).2.2.2.2.2.2 hnbv).trans hbn2
 have hB3:Below B w w3:=hB2.trans (hk3.dY (aG hnB hB2.size) (fun i hi e=>absurd (h02.lo i e) (jk.2 hi)))
 have hk3':pM w3 kb key:=(hB3.block kb hkB).trans hk
 have hv3':pM w3 vb value:=(hB3.block vb hvB).trans hv
 have h13:=h12.keep (w':=w3) (S':=S) (fun g hg hl hs=>⟨hk3.block g hl (fun e=>aQ.PG h12 h02 (by decide) _ hg e),hs⟩)
 have h23:=h22.keep (w':=w3) (S':=S) (fun g hg hl hs=>⟨hk3.block g hl (fun e=>aQ.PG h22 h02 (by decide) _ hg e),hs⟩)
 refine hK.out _ _ ⟨(cells3 hbn3).1,(cells3 hbn3).2.2.2.2.2.2,(kP hk3').1,(kP hk3').2⟩ ?_
 repeat ((refine bq (v:= ?_) rfl rfl (fun _ _ _ h=>h) rfl (fun W hW=> ?_) ?_);rotate_left;(focus ((try dsimp only at hW);have q0:=hW.1;have q1:=hW.2.1;have q2:=hW.2.2.1;have q3:=hW.2.2.2;first|(go_simp;first|done|with_reducible rfl)));(try simp only[Act.put,aj,av,au]))
 have hpl:(nd.pairs.take P++(key,(⟨#[]⟩:ByteArray))::nd.pairs.drop P).length=nd.pairs.length+1:=by simp only[ay,aL,aU,bB];omega
 have hown3':aQ w3 S B 188 2 v3 (nd.pairs.take P++(key,(⟨#[]⟩:ByteArray))::nd.pairs.drop P).length (bZ (nd.pairs.take P++(key,(⟨#[]⟩:ByteArray))::nd.pairs.drop P)):=by
  rw[hpl,lZ,jL,Ce,uR];simpa using hown3
 have hpp:P<(nd.pairs.take P++(key,(⟨#[]⟩:ByteArray))::nd.pairs.drop P).length:=by rw[hpl];omega
 have hset:(nd.pairs.take P++(key,(⟨#[]⟩:ByteArray))::nd.pairs.drop P).set P (key,value)=nd.pairs.take P++(key,value)::nd.pairs.drop P:=by
  rw[dm _ _ (by rw[aL];omega)]
  rw[show P - (nd.pairs.take P).length=0 from by rw[aL];omega]
  rfl
 have hget:(nd.pairs.take P++(key,(⟨#[]⟩:ByteArray))::nd.pairs.drop P)[P].1=key:=by
  have h1:(nd.pairs.take P++(key,(⟨#[]⟩:ByteArray))::nd.pairs.drop P)[P]? =some (key,(⟨#[]⟩:ByteArray)):=by
   rw[bA (by rw[aL];omega),show P - (nd.pairs.take P).length=0 from by rw[aL];omega]
   rfl
  rw[(bg.1 h1).2]
 generalize hX:nd.pairs.take P++(key,(⟨#[]⟩:ByteArray))::nd.pairs.drop P=X at hown3' hpp hset hget hpl
 have HSet:=af hset;clear hset
 have HX:=af hX;clear hX
 have q:=fJ.Lf (nd:=nd) hbn3 hS hB h13 h23 hown3' hB3
 obtain⟨g,c,rfl,hc1,hc2,hBg,hgl⟩:=hown3'.ED (by omega)
 have HPL:=af hpl;clear hpl
 have x0:w3.frozen? ⟨nb,0,none⟩=false:=(cells3 hbn3).2.2.2.1
 have x1:=(cells3 hbn3).1
 have x2:=(cells3 hbn3).2.2.2.2.2.2
 refine jm rfl rfl rfl (by kernel_rfl) ?_;intro K hK;go_simp
 refine hK.out _ _ ?_
 refine bF ?_
 have hv4:pM (w3.setCell ⟨nb,0,none⟩ (.slice (some ⟨g,0,none⟩) X.length c)) vb value:=(q.2.block vb hvB).trans hv
 have hcell4:(w3.setCell ⟨nb,0,none⟩ (.slice (some ⟨g,0,none⟩) X.length c)).cell? ⟨nb,0,none⟩=some (.slice (some ⟨g,0,none⟩) X.length c):=by simp[World.setCell,World.cell?,aJ,hbn3]
 generalize w3.setCell ⟨nb,0,none⟩ (.slice (some ⟨g,0,none⟩) X.length c)=w4 at*
 clear x0 x1 x2
 go_wp2_with fail
 obtain⟨⟨_,_,u0,u1,u2,hb4,q0,q1,q2⟩,hB4⟩:=q
 have hu0:u0= .slice (some ⟨g,0,none⟩) X.length c:=by have e:=hcell4.symm.trans (cells3 hb4).1;cases e;rfl
 subst hu0
 obtain⟨cur,hrow,hcl,_⟩:=q0.row
 have hgl4:=hrow.lt
 have hlt4:=(cells3 hb4).2.2.2.2.2.2
 have hfr:=hrow.frozen (P*2+1)
 have hcc:=hrow.cell (P*2+1)
 have d0:w4.drew.cell? ⟨nb,0,none⟩=some (.slice (some ⟨g,0,none⟩) X.length c):=hcell4
 have d1:w4.drew.cell? ⟨vb,0,none⟩=some (.string value):=(kP hv4).1
 have hvl4:=(kP hv4).2
 have hPi:(P:Int)<(X.length:Int):=by omega
 refine aK (fun W=>W=w4.drew) (fun i=> !([8].contains i)) [0,1,2,3,4,5,6,7,8] rfl (by kernel_rfl) rfl ?_
 repeat ((refine bq (v:= ?_) rfl rfl (fun _ _ _ h=>h) rfl (fun W hW=> ?_) ?_);rotate_left;(focus ((try dsimp only at hW);subst hW;first|(go_simp;first|done|with_reducible rfl)));(try simp only[Act.put,aj,av,au]))
 have x0:w4.drew.frozen? ⟨g,P*2+1,none⟩=false:=hfr
 have x1:w4.drew.cell? ⟨g,P*2+1,none⟩=some (cur.getD (P*2+1) undef):=hcc.trans (by rw[nO,bD (by have:nd.pairs.length<=999999:=hl;omega)];rfl)
 refine jm rfl rfl rfl (by kernel_rfl) ?_;intro K hK;go_simp
 refine hK.out _ _ ?_
 refine bF ?_
 go_wp2_with fail
 go_end0
 have qq:=fJ.Du (nd:=⟨X,nd.keys,nd.kids⟩) (W:=w4.drew) (w:=w) (value:=value) P hpp hb4 hS hB q1 q2 q0 hB4.drew
 rw[HD.out,<-HSet.out]
 have e2:X[P]=(key,X[P].2):=by rw[<-hget]
 have e3:X.set P (X[P].1,value)=X.set P (key,value):=by rw[hget]
 rw[<-e3]
 exact⟨rfl,qq.1,qq.2⟩
theorem JJ (kb vb nb B:Nat)(key value:ByteArray)(nd:Nd)(S:Nat->Prop)(w:World)(hsub:∀g,S g->g<w.heap.size)(hk:pM w kb key)(hv:pM w vb value)(hkB:kb<B)(hvB:vb<B)(hn:fJ w S B nb nd)(hr:gu nd.pairs)(hl:nd.pairs.length<=999999):
  Calls Tryz.prog 545 #[.pointer (some ⟨nb,0,none⟩),.pointer (some ⟨kb,0,none⟩),.pointer (some ⟨vb,0,none⟩)] w fun e w'=>e= .returned (.tuple #[])/\fJ w' S B nb ⟨gZ nd.pairs key value,nd.keys,nd.kids⟩/\Below B w w':=by
 cases hat:oW nd.pairs key with
 |true=>exact JI kb vb nb B key value nd S w hk hv hn hr (by omega) hat
 |false=>exact JH kb vb nb B key value nd S w hsub hk hv hkB hvB hn hr hl hat
end Go.Proofs.YtpmbddooibgnaaaGreatDoor
