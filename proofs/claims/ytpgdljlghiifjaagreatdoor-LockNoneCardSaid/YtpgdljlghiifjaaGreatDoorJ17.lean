/- parts -/
import Derived.Test.YtpgdljlghiifjaaGreatDoorJ9
import Derived.Test.YtpgdljlghiifjaaGreatDoorJ10
import Derived.Test.YtpgdljlghiifjaaGreatDoorJ11
import Derived.Test.YtpgdljlghiifjaaGreatDoorJ12
import Derived.Test.YtpgdljlghiifjaaGreatDoorJ13
import Derived.Test.YtpgdljlghiifjaaGreatDoorJ16
import Derived.Defers
import Derived.Recover
namespace Go.Proofs.YtpgdljlghiifjaaGreatDoor
open Go.RowKit
set_option maxRecDepth 100000
set_option maxHeartbeats 8000000
set_option linter.all false
def kV (n:Int):List UInt8:=(List.range 8).map fun i=>UInt8.ofNat (n/(256^i:Nat)%256).toNat
def kX (s:ByteArray):List UInt8:=kV s.size++s.data.toList
theorem fP (n:Int):(kV n).length=8:=by simp[kV]
structure bn where
 token:ByteArray
 path:List ByteArray
 deep:Bool
 excl:Bool
 owner:ByteArray
 till:Int
def nR (b:Bool):Int:=if b then 1 else 0
def bn.enc (l:bn):List UInt8:=kV l.till++(kV (nR l.deep)++(kV (nR l.excl)++(kX l.owner++(kV l.path.length++l.path.flatMap kX))))
def vU (n:Int) (i:Nat):Int:=(n%18446744073709551616)/(256^i:Nat)
theorem Ke (n:Int) (i:Nat) (hi:i<8):vU n i=vU n (i+1)*256+n/(256^i:Nat)%256:=by
 unfold vU
 have h:i=0∨i=1∨i=2∨i=3∨i=4∨i=5∨i=6∨i=7:=by omega
 rcases h with rfl|rfl|rfl|rfl|rfl|rfl|rfl|rfl<;>simp only[Nat.reducePow,Nat.reduceAdd]<;>omega
theorem Me (n:Int):vU n 8=0:=by unfold vU;simp only[Nat.reducePow];omega
theorem OE (n:Int) (i:Nat) (h:i≤8) (h1:1≤i):0≤vU n i∧vU n i<72057594037927936:=by
 unfold vU
 have h:i=1∨i=2∨i=3∨i=4∨i=5∨i=6∨i=7∨i=8:=by omega
 rcases h with rfl|rfl|rfl|rfl|rfl|rfl|rfl|rfl<;>simp only[Nat.reducePow]<;>omega
theorem Kc (n:Int) (h: -9223372036854775808≤n∧n<9223372036854775808):IntKind.i64.wrap (vU n 0)=n:=by
 unfold vU
 rw[ig]
 simp only[Nat.reducePow]
 omega
theorem Qz (c b:Int) (hc:0≤c∧c<72057594037927936) (hb:0≤b∧b<256):bits .or .i64 (IntKind.i64.wrap (c*256)) b=IntKind.i64.wrap (c*256+b):=by
 obtain⟨c,rfl⟩:=Da hc.1
 obtain⟨b,rfl⟩:=Da hb.1
 have e1:BitVec.ofInt 64 (IntKind.i64.wrap (((c:Nat):Int)*256))=BitVec.ofNat 64 (c*256):=by
  apply BitVec.eq_of_toNat_eq
  rw[BitVec.toNat_ofInt,lD,ig]
  omega
 have e4:(BitVec.ofInt 64 (IntKind.i64.wrap (((c:Nat):Int)*256))|||BitVec.ofInt 64 ((b:Nat):Int)).toNat=c*256+b:=by
  rw[e1,oQ,BitVec.toNat_or,lD,lD,mV (by omega),mV (by omega)]
  have:=xG (i:=8) (b:=b) (by omega) c
  rw[show c*256=2^8*c by omega,←this]
 unfold bits
 show IntKind.i64.wrap (((BitVec.ofInt 64 (IntKind.i64.wrap (((c:Nat):Int)*256))|||BitVec.ofInt 64 ((b:Nat):Int)).toNat:Nat):Int)=_
 rw[e4]
 rfl
def within (a b:List ByteArray):Bool:=decide (b<+:a)
def bn.covers (l:bn) (p:List ByteArray):Bool:=within p l.path && (l.deep||decide (p.length=l.path.length))
def bn.clash (a b:bn):Bool:=(a.excl||b.excl) && (a.covers b.path||b.covers a.path)
structure zy (σ:cK) (b:Int) (nd:Nd):Prop where
 has:σ.hasB b=true
 lo:2≤b
 hi:b≤4096
 mem:∃rest,σ.mem b=nd.enc++rest
 fits:nd.Fits
def cu (w:World) (t:Nat) (mp:VS) (root err:Int):Prop:=w.heap[t]? =some (.cells #[.iface 105 mp.agg,.int .i64 root,.int .i64 err] 170 (0,0))
theorem mD (t:Nat) (mp:VS) (root err b deep:Int) (σ:cK) (S:Nat→Prop) (nd:Nd) (w:World) (h:Inv σ S mp w) (ht:cu w t mp root err) (hb:zy σ b nd) (hd:deep≤40):
  Calls Tryz.prog 143 #[.pointer (some ⟨t,0,none⟩),.int .i64 b,.int .i64 deep] w fun e w'=>∃nb,e= .returned (.tuple #[.pointer (some ⟨nb,0,none⟩),.int .i64 0])∧gH w' S w.heap.size nb nd∧Below w.heap.size w w':=by
 obtain⟨c0,c1,c2,_,_,_,hlt⟩:=cells3 ht
 obtain⟨rest,hmem⟩:=hb.mem
 have hrd:=Ab mp σ S w b h hb.has
 have hfit:=hb.fits
 have hsub:=h.sub
 have hl5:(nd.enc++rest).length=512:=by
  rw[←hmem];obtain⟨n,rfl,hn,_⟩:=cK.mF hb.has;exact h.ok.len n hn
 rw[hmem] at hrd
 have hd2:¬((40:Int)<deep):=by omega
 go_enter Tryz.func143,Tryz.ntmps143
 have hm:∀w,(method 475 105 mp.agg "Read").run Tryz.prog w= .ok (59,.pointer (some ⟨mp.tx,0,none⟩)) w:=fun _=>by kernel_rfl
 have HRd:=af hrd;clear hrd hmem
 go_wp2_with (first
  |(refine HRd.out.mono ?_;rintro e w1 ⟨v,rfl,hv,_,hbel1⟩)
  |(go_at_call 177;go_must ((refine(IW _ nd rest w1 S (fun g hg=>ax (hsub g hg) hbel1.size) (by unfold ji;rw[hl5];exact hv) hfit (by rw[hl5];omega)).mono ?_);rintro e w2 ⟨nb,rfl,hn,hbel2⟩)))
 go_ret2
 refine⟨nb,rfl,?_,hbel1.trans (hbel2.mono hbel1.size)⟩
 obtain⟨q0,q1,v0,v1,v2,q2,q3,q4,q5⟩:=hn
 exact⟨q0,aH hbel1.size q1,v0,v1,v2,q2,q3.base hbel1.size,q4.base hbel1.size,q5.base hbel1.size⟩
theorem cu.step {w w':World} {t:Nat} {mp:VS} {root err:Int} {S S':Nat→Prop} (h:cu w t mp root err) (hS:¬S t) (hs:Step S S' w w'):cu w' t mp root err∧¬S' t:=by
 have hl:=(ah.1 h).1
 exact⟨(hs.1.block t hl hS).trans h,fun x=>(hs.2 t x).elim hS (fun y=>absurd hl (bF.2 y))⟩
theorem Ew (t:Nat) (mp:VS) (root err b deep:Int) (σ:cK) (S:Nat→Prop) (nd:Nd) (w:World) (h:Inv σ S mp w) (ht:cu w t mp root err) (_hst:¬S t) (hb:zy σ b nd) (hd:deep≤40):
  Calls Tryz.prog 151 #[.pointer (some ⟨t,0,none⟩),.int .i64 b,.int .i64 deep] w fun e w'=>∃nb,e= .returned (.pointer (some ⟨nb,0,none⟩))∧gH w' S w.heap.size nb nd∧Inv (σ.gone b) S mp w'∧Step S S w w':=by
 have hlt:t<w.heap.size:=(ah.1 ht).1
 go_enter Tryz.func151,Tryz.ntmps151
 have hm:∀w,(method 475 105 mp.agg "Free").run Tryz.prog w= .ok (285,.pointer (some ⟨mp.mp,0,none⟩)) w:=fun _=>by kernel_rfl
 go_wp2_with (first
  |(go_at_call 143;go_must ((refine(mD t mp root err b deep σ S nd w h ht hb hd).mono ?_);rintro e w1 ⟨nb,rfl,hn,hbel1⟩))
  |(go_at_call 150;go_must ((refine(nK _).mono ?_);rintro e w1 ⟨rfl,rfl⟩;refine Stop.of ?_)))
 refine Stop.on ?_
 obtain⟨c0,_,_,_,_,_,hlt1⟩:=cells3 ((hbel1.block t hlt).trans ht)
 go_wp2_with (first
  |(go_at_call 285;go_must ((refine(qG mp σ S _ b (h.below hbel1) hb.lo hb.has).mono ?_);rintro e w2 ⟨rfl,hI,hs⟩))
  |(go_at_call 150;go_must ((refine(nK _).mono ?_);rintro e w1 ⟨rfl,rfl⟩;refine Stop.of ?_)))
 refine Stop.on ?_
 go_wp2_with fail
 go_ret
 exact⟨nb,rfl,hn.step hs,hI,(Step.of_below hbel1).trans hs⟩
structure Wrote (σ:cK) (b:Int) (nd:Nd) (σ':cK):Prop where
 new:σ.hasB b=false
 nheld:σ.held b=false
 blk:zy σ' b nd
 other:∀x,x≠b→σ'.hasB x=σ.hasB x∧σ'.mem x=σ.mem x
 size:σ'.sz=σ.sz+1
 held:σ'.H=σ.H
 most:σ'.most=σ.most
 tk:σ'.tk=max σ.tk σ'.sz
def Bo (mp:VS) (σ:cK) (S:Nat→Prop) (w:World) (e:Ending) (w':World):Prop:=
 e= .panicked (brk 12)∧∃σ' S',Inv σ' S' mp w'∧Step S S' w w'∧σ'.H=σ.H∧σ'.most=σ.most
theorem Bo.after {mp:VS} {σ σ1:cK} {S S1:Nat→Prop} {w w1 w':World} {e:Ending} (h:Bo mp σ1 S1 w1 e w') (hs:Step S S1 w w1) (h1:σ1.H=σ.H) (h2:σ1.most=σ.most):Bo mp σ S w e w':=by
 obtain⟨he,σ',S',a,b,c,d⟩:=h
 exact⟨he,σ',S',a,hs.trans b,c.trans h1,d.trans h2⟩
theorem LH {σ:cK} (ok:σ.Ok) {f:Nat} {nd:Nd} (f1:2≤f) (f2:f<σ.most) (f3:σ.hasB f=false) (f4:σ.held f=false) (hfit:nd.Fits):Wrote σ f nd ((σ.took f).wrote f (pad nd.enc)):=by
 have hcap:=ok.cap
 have hnow:σ.now f=false:=by
  unfold cK.hasB at f3
  simpa [f2] using f3
 have hold:σ.H.old f=false:=by
  unfold cK.held at f4
  simpa using f4
 have hx:∀x:Int,x≠f→0≤x→x.toNat≠f:=fun x hx h0 e=>hx (by omega)
 refine⟨f3,f4,⟨?_,by omega,by omega,⟨List.replicate (512 - nd.enc.length) 0,?_⟩,hfit⟩,fun x hne=>⟨?_,?_⟩,?_,rfl,rfl,rfl⟩
 ·show (decide ((0:Int)≤(f:Int)) && (decide ((f:Int).toNat<σ.most) && gu σ.now f true (f:Int).toNat))=true
  simp[gu,f2]
 ·show σ.H.pg.look (σ.im.put f (pad nd.enc)) σ.H.dk (f:Int).toNat=_
  rw[qE,fU,if_pos rfl];rfl
 ·show (decide (0≤x) && (decide (x.toNat<σ.most) && gu σ.now f true x.toNat))=_
  unfold cK.hasB
  by_cases h0:0≤x
  ·unfold gu;rw[if_neg (hx x hne h0)]
  ·simp[h0]
 ·show σ.H.pg.look (σ.im.put f (pad nd.enc)) σ.H.dk x.toNat=σ.H.pg.look σ.im σ.H.dk x.toNat
  rw[qE]
  split
  ·rename_i e
   exact absurd (by omega:x=f) hne
  ·rfl
 ·show countB (fun x=>gu σ.now f true x||σ.H.old x) σ.most=countB (fun x=>σ.now x||σ.H.old x) σ.most+1
  rw[←yc (f:=fun x=>σ.now x||σ.H.old x) (b:=f) (by rw[hnow,hold];rfl) _ f2]
  refine jT _ (fun x _=> ?_)
  unfold gu
  split<;>simp
theorem BX (t:Nat) (mp:VS) (root err:Int) (σ:cK) (S:Nat→Prop) (nb:Nat) (nd:Nd) (least:ByteArray) (w:World) (h:Inv σ S mp w) (ht:cu w t mp root err) (hst:¬S t) (hn:fF w S nb nd) (hfit:nd.Fits) (hs:nd.size≤512):
  Calls Tryz.prog 184 #[.pointer (some ⟨t,0,none⟩),.pointer (some ⟨nb,0,none⟩),.string least] w fun e w'=>(∃(f:Nat) (σ':cK) (S':Nat→Prop),e= .returned (.agg #[.int .i64 f,.string least])∧Wrote σ f nd σ'∧Inv σ' S' mp w'∧Step S S' w w')∨(σ.sz=σ.most∧Bo mp σ S w e w'):=by
 obtain⟨c0,_,_,_,_,_,hlt⟩:=cells3 ht
 have hnb:nb<w.heap.size:=by obtain⟨_,_,_,_,hb,_⟩:=hn;exact(ah.1 hb).1
 have hsub:=h.sub
 go_enter Tryz.func184,Tryz.ntmps184
 have hmT:∀w,(method 475 105 mp.agg "Take").run Tryz.prog w= .ok (286,.pointer (some ⟨mp.mp,0,none⟩)) w:=fun _=>by kernel_rfl
 have hmW:∀w,(method 475 105 mp.agg "Write").run Tryz.prog w= .ok (284,.pointer (some ⟨mp.tx,0,none⟩)) w:=fun _=>by kernel_rfl
 have hb0:=aI w (.cells #[.int .i64 0,.string ⟨#[]⟩] 254)
 go_wp2_with (first
  |(go_at_call 286;go_must ((refine(Jg mp σ S _ (h.below hb0)).mono ?_);rintro e w1 (⟨f,rfl,f1,f2,f3,f4,f6,hI1,hs1⟩|⟨rfl,hfull,hI1,hs1⟩)<;>refine Stop.of ?_)))
 rotate_left
 ·refine Stop.on ?_
  have HFU:=af hfull;clear hfull
  go_wp2_with (first
   |(go_at_call 150;go_must ((refine(MQ 12 rfl _).mono ?_);rintro e w2 ⟨rfl,hw⟩;subst w2)))
  exact⟨rfl,.inr ⟨HFU.out,rfl,σ,S,hI1,(Step.of_below hb0).trans hs1,rfl,rfl⟩⟩
 refine Stop.on ?_
 go_wp2_with (first
  |(go_at_call 150;go_must ((refine(nK _).mono ?_);rintro e w2 ⟨rfl,hw⟩;subst w2)))
 have hstep1:Step S S w w1:=(Step.of_below hb0).trans hs1
 have ht1:=ht.step hst hstep1
 have hn1:=hn.step hstep1
 have hsub1:=hI1.sub
 have hcellr:w1.heap[w.heap.size]? =some (.cells #[.int .i64 0,.string ⟨#[]⟩] 254 (0,0)):=(hs1.1.block _ (by rw[aT];exact gD _) (fun x=>absurd (hsub _ x) (dI _))).trans (aM _ _)
 obtain⟨c1,_,_,_,_,_,hlt1⟩:=cells3 ht1.1
 have hnb1:nb<w1.heap.size:=ax hnb hstep1.1.size
 have hcap:=h.cap
 have HF2:=af f2
 have f5:f≤4096:=by omega
 clear f2 c0
 refine aP (fun W=>W.cell? ⟨t,0,none⟩=some (.iface 105 mp.agg)∧t<W.heap.size) (fun i=> !([6,9,10].contains i)) [0,1,2,3,4,5,7,8,6,9,10] rfl (by kernel_rfl) ⟨c1,hlt1⟩ ?_
 repeat ((refine bO (v:= ?_) rfl rfl (fun _ _ _ h=>h) rfl (fun W hW=> ?_) ?_);rotate_left;(focus ((try dsimp only at hW);have q0:=hW.1;have q1:=hW.2;first|(go_simp;first|done|with_reducible rfl)));(try simp only[Act.put,aj,au,ak]))
 have hE:=IG nb nd w1.drew S hsub1 hn1 (by omega) hfit.kd
 refine dw rfl rfl rfl ?_;intro K hK;go_simp
 refine hE.mono ?_;rintro e w2 ⟨v,rfl,hv,hbel2⟩
 have hI2:Inv (σ.took f) S mp w2:=hI1.below (((aQ _ w1).drew).trans hbel2)
 have hs2:Step S S w1 w2:=Step.of_below (((aQ _ w1).drew).trans hbel2)
 have ht2:=ht1.1.step ht1.2 hs2
 obtain⟨c2,_,_,_,_,_,hlt2⟩:=cells3 ht2.1
 refine hK.out _ _ ⟨c2,hlt2⟩ ?_
 have hvb:ji w2 fO v nd.enc:=bE.loose hv.dD
 have hel:nd.enc.length≤512:=by rw[Nd.AV];exact hs
 have hWr:=xK mp _ S w2 f v nd.enc hI2 HF2.out hvb hel (.inr ⟨by simp[cK.took,gu],by show σ.H.old f=false;have:=f4;unfold cK.held at this;simpa using this⟩)
 have HWr:=af hWr;clear hWr hE
 refine dw rfl rfl rfl ?_;intro K hK;go_simp
 refine HWr.out.mono ?_;rintro e w3 ⟨rfl,hI3,hs3⟩
 have hs13:Step S S w1 w3:=hs2.trans hs3
 have ht3:=ht1.1.step ht1.2 hs13
 obtain⟨c3,_,_,_,_,_,hlt3⟩:=cells3 ht3.1
 refine hK.out _ _ ⟨c3,hlt3⟩ ?_
 refine dw rfl rfl rfl ?_;intro K hK;go_simp
 refine(nK _).mono ?_;rintro e w4 ⟨rfl,hw⟩;subst w4
 refine hK.out _ _ ⟨c3,hlt3⟩ ?_
 refine bR ?_
 have hw1:w.heap.size<w1.heap.size:=(ah.1 hcellr).1
 have hS1r:¬S w.heap.size:=fun x=>absurd (hsub _ x) (dI _)
 have hr3:w3.heap[w.heap.size]? =some (.cells #[.int .i64 0,.string ⟨#[]⟩] 254 (0,0)):=(hs13.1.block _ hw1 hS1r).trans hcellr
 have hr3lt:w.heap.size<w3.heap.size:=(ah.1 hr3).1
 have r0:w3.cell? ⟨w.heap.size,0,none⟩=some (.int .i64 0):=by simp[World.cell?,hr3]
 have r1:w3.cell? ⟨w.heap.size,1,none⟩=some (.string ⟨#[]⟩):=by simp[World.cell?,hr3]
 have g0:w3.frozen? ⟨w.heap.size,0,none⟩=false:=by simp[World.frozen?,hr3]
 have g1:w3.frozen? ⟨w.heap.size,1,none⟩=false:=by simp[World.frozen?,hr3]
 have hi3:=hI3.sub
 have HW6:=af (ay f3 (ay f4 f6))
 clear c1 c2 c3 hcellr f3 f4 f6
 go_wp2_with fail
 have hk5:Keep (· =w.heap.size) w3 ((w3.setCell ⟨w.heap.size,0,none⟩ (.int .i64 f)).setCell ⟨w.heap.size,1,none⟩ (.string least)):=((Keep.refl (· =w.heap.size) w3).setCell (p:=⟨w.heap.size,0,none⟩) (.inr rfl) _).setCell (p:=⟨w.heap.size,1,none⟩) (.inr rfl) _
 have hfin:((w3.setCell ⟨w.heap.size,0,none⟩ (.int .i64 f)).setCell ⟨w.heap.size,1,none⟩ (.string least)).heap[w.heap.size]? =some (.cells #[.int .i64 f,.string least] 254 (0,0)):=by
  simp[World.setCell,aW,hr3]
 refine mK (results_cell_row rfl _ _ _ 254 #[.int .i64 f,.string least] (0,0) _ rfl hfin Tryz.underlying254 rfl rfl) rfl ?_
 have hst3:Step S S w w3:=hstep1.trans hs13
 refine .inl ⟨f,_,S,rfl,?_,hI3.jZ hk5 (fun g hg e=>hS1r (by rw[←e];exact hg)),hst3.1.trans hk5 (fun i hi e=>absurd hi (by rw[e];exact dI _)),hst3.2⟩
 exact LH h.ok f1 HF2.out HW6.out.1 HW6.out.2.1 hfit
structure Nd.Ok (nd:Nd):Prop where
 pr:∀p∈nd.pairs,p.1.size≤128∧p.2.size≤64
 ky:∀k∈nd.keys,k.size≤128
 kd:∀k∈nd.kids,1≤k∧k≤4096
 kk:nd.keys.length=nd.kids.length - 1
 one:nd.kids≠[]→nd.pairs=[]
 np:nd.pairs.length≤2000
 nk:nd.kids.length≤2000
theorem sM (ps:List Pr) (h:∀p∈ps,p.1.size≤128∧p.2.size≤64):dU ps≤194*ps.length:=by
 induction ps with
 |nil=>exact aY _
 |cons p ps ih=>
  have h1:=h p (by simp)
  have:=ih (fun q hq=>h q (by simp[hq]))
  rw[jQ,bf];omega
theorem rz (ps:List ByteArray) (h:∀p∈ps,p.size≤128):dY ps≤129*ps.length:=by
 induction ps with
 |nil=>exact aY _
 |cons p ps ih=>
  have h1:=h p (by simp)
  have:=ih (fun q hq=>h q (by simp[hq]))
  rw[jR,bf];omega
theorem Nd.Ok.size_le {nd:Nd} (h:nd.Ok):nd.size≤1000000:=by
 have h1:=sM _ h.pr
 have h2:=rz _ h.ky
 have h3:=h.np
 have h4:=h.nk
 have h5:=h.kk
 unfold Nd.size
 omega
theorem Nd.Ok.fits {nd:Nd} (h:nd.Ok) (hs:nd.size≤512) (hne:nd.kids≠[]∨nd.pairs≠[]):nd.Fits:=by
 have h1:=nY nd.pairs
 have h2:=nL nd.keys
 unfold Nd.size at hs
 refine⟨by omega,by omega,fun p hp=> ?_,fun k hk=> ?_,fun k hk=> ?_,h.kk,?_,?_⟩
 ·have:=h.pr p hp;omega
 ·have:=h.ky k hk;omega
 ·have:=h.kd k hk;omega
 ·intro hp hk;exact hne.elim (fun x=>x hk) (fun x=>x hp)
 ·intro hk;exact h.one hk
inductive uM:Nd→ByteArray→List (ByteArray×Nd)→Prop
 |none {nd l}:nd.kids=[]→nd.pairs=[]→uM nd l []
 |one {nd l}:(nd.kids≠[]∨nd.pairs≠[])→nd.size≤512→uM nd l [(leastOf nd l,nd)]
 |leaf {nd l} (i:Nat) (hi:i<nd.pairs.length) {A B}:nd.kids=[]→512<nd.size→1≤i→uN nd i→uM ⟨nd.pairs.take i,[],[]⟩ l A→uM ⟨nd.pairs.drop i,[],[]⟩ (leastOf ⟨nd.pairs.drop i,[],[]⟩ nd.pairs[i].1) B→uM nd l (A++B)
 |inner {nd l} (i:Nat) (hi:i - 1<nd.keys.length) {A B}:nd.kids≠[]→512<nd.size→i=nd.kids.length/2→uM ⟨[],nd.keys.take (i - 1),nd.kids.take i⟩ l A→uM ⟨[],nd.keys.drop i,nd.kids.drop i⟩ (leastOf ⟨[],nd.keys.drop i,nd.kids.drop i⟩ nd.keys[i - 1]) B→uM nd l (A++B)
def Puts:cK→List Pc→List (ByteArray×Nd)→cK→Prop
 |σ,[],[],σ'=>σ'=σ
 |σ,p::ps,z::zs,σ'=>∃σ1,p.2=z.1∧Wrote σ p.1 z.2 σ1∧Puts σ1 ps zs σ'
 |_,_,_,_=>False
theorem Puts.append {σ σ1 σ2:cK} {ps qs:List Pc} {zs ys:List (ByteArray×Nd)} (h:Puts σ ps zs σ1) (k:Puts σ1 qs ys σ2):Puts σ (ps++qs) (zs++ys) σ2:=by
 induction ps generalizing σ zs with
 |nil=>
  cases zs with
  |nil=>cases h;exact k
  |cons z zs=>exact absurd h id
 |cons p ps ih=>
  cases zs with
  |nil=>exact absurd h id
  |cons z zs=>
   obtain⟨τ,h1,h2,h3⟩:=h
   exact⟨τ,h1,h2,ih h3⟩
theorem Puts.length {σ σ1:cK} {ps:List Pc} {zs:List (ByteArray×Nd)} (h:Puts σ ps zs σ1):ps.length=zs.length∧σ1.sz=σ.sz+zs.length∧σ1.most=σ.most∧σ1.H=σ.H∧σ1.tk≤max σ.tk σ1.sz:=by
 induction ps generalizing σ zs with
 |nil=>
  cases zs with
  |nil=>cases h;exact⟨rfl,rfl,rfl,rfl,Gy _ _⟩
  |cons z zs=>exact absurd h id
 |cons p ps ih=>
  cases zs with
  |nil=>exact absurd h id
  |cons z zs=>
   obtain⟨τ,h1,h2,h3⟩:=h
   have:=ih h3
   have s:=h2.size
   have k:=h2.tk
   refine⟨by simp[this.1],by rw[this.2.1,bf];omega,this.2.2.1.trans h2.most,this.2.2.2.1.trans h2.held,by have t1:=this.2.1;have t2:=this.2.2.2.2;omega⟩
def Nd.room (nd:Nd):Nat:=nd.pairs.length+(if nd.kids=[] then 0 else max 1 (nd.kids.length/2))
theorem Nd.Ok.big {nd:Nd} (h:nd.Ok) (hs:512<nd.size):(nd.kids=[]→3≤nd.pairs.length)∧(nd.kids≠[]→5≤nd.kids.length):=by
 have h1:=sM _ h.pr
 have h2:=rz _ h.ky
 have h5:=h.kk
 unfold Nd.size at hs
 constructor
 ·intro hk
  rw[hk] at h5 hs
  simp only[bG] at h5 hs
  rw[h5] at h2
  omega
 ·intro hk
  have hp:=h.one hk
  rw[hp] at h1 hs
  simp only[bG] at h1
  omega
theorem Nd.Ok.left {nd:Nd} (h:nd.Ok) (i:Nat) (_hk:nd.kids=[]):Nd.Ok ⟨nd.pairs.take i,[],[]⟩:=
 ⟨fun p hp=>h.pr p (dZ hp),by simp,by simp,rfl,by simp,by have:=h.np;simp only[aD];omega,by simp⟩
theorem Nd.Ok.right {nd:Nd} (h:nd.Ok) (i:Nat) (_hk:nd.kids=[]):Nd.Ok ⟨nd.pairs.drop i,[],[]⟩:=
 ⟨fun p hp=>h.pr p (bS hp),by simp,by simp,rfl,by simp,by have:=h.np;simp;omega,by simp⟩
theorem Nd.Ok.Cy {nd:Nd} (h:nd.Ok) (i:Nat) (hi:i≤nd.kids.length):Nd.Ok ⟨[],nd.keys.take (i - 1),nd.kids.take i⟩:=
 ⟨by simp,fun k hk=>h.ky k (dZ hk),fun k hk=>h.kd k (dZ hk),by have:=h.kk;simp;omega,by simp,by simp,by have:=h.nk;simp;omega⟩
theorem Nd.Ok.xQ {nd:Nd} (h:nd.Ok) (i:Nat):Nd.Ok ⟨[],nd.keys.drop i,nd.kids.drop i⟩:=
 ⟨by simp,fun k hk=>h.ky k (bS hk),fun k hk=>h.kd k (bS hk),by have:=h.kk;simp;omega,by simp,by simp,by have:=h.nk;simp;omega⟩
theorem uM.room {nd:Nd} {l:ByteArray} {zs:List (ByteArray×Nd)} (h:uM nd l zs) (ok:nd.Ok):zs.length≤nd.room:=by
 induction h with
 |none h1 h2=>simp
 |@one nd l h1 h2=>
  unfold Nd.room
  rcases h1 with h1|h1
  ·rw[if_neg h1];simp;omega
  ·have:=dm.2 h1;simp;omega
 |@leaf nd l i hi A B hk hs hi1 _ _ _ iha ihb=>
  have a:=iha (ok.left i hk)
  have b:=ihb (ok.right i hk)
  unfold Nd.room at*
  rw[hk]
  simp at*
  omega
 |@inner nd l i hi A B hk hs hi1 _ _ iha ihb=>
  have a:=iha (ok.Cy i (by omega))
  have b:=ihb (ok.xQ i)
  have h5:=(ok.big hs).2 hk
  unfold Nd.room at*
  have n1:nd.kids.take i≠[]:=fun e=>by have:=congrArg List.length e;simp only[aD,bG] at this;omega
  have n2:nd.kids.drop i≠[]:=fun e=>by have:=congrArg List.length e;simp only[aO,bG] at this;omega
  rw[if_neg n1] at a
  rw[if_neg n2] at b
  rw[if_neg hk]
  simp only[aD,aO,bG,aC] at*
  omega
def kP (mp:VS) (σ:cK) (S:Nat→Prop) (nd:Nd) (least:ByteArray) (w:World) (e:Ending) (w':World):Prop:=
 (∃v ps zs σ' S',e= .returned v∧aS w' S' w.heap.size 254 2 v ps.length (kM ps)∧uM nd least zs∧Puts σ ps zs σ'∧Inv σ' S' mp w'∧Step S S' w w')∨(σ.most<σ.sz+nd.room∧Bo mp σ S w e w')
theorem ME {nd:Nd} (hne:nd.kids≠[]∨nd.pairs≠[]):1≤nd.room:=by
 unfold Nd.room
 rcases hne with h|h
 ·rw[if_neg h];omega
 ·have:=dm.2 h;omega
theorem ED (t:Nat) (mp:VS) (σ:cK) (S:Nat→Prop) (nb:Nat) (nd:Nd) (least:ByteArray) (w:World) (h:Inv σ S mp w) (hn:fF w S nb nd) (hk:nd.kids=[]) (hp:nd.pairs=[]):
  Calls Tryz.prog 149 #[.pointer (some ⟨t,0,none⟩),.pointer (some ⟨nb,0,none⟩),.string least] w (kP mp σ S nd least w):=by
 have hN:=hn
 obtain⟨_,v0,v1,v2,hb,h0,h1,h2⟩:=hn
 obtain⟨c0,c1,c2,_,_,_,hlt⟩:=cells3 hb
 obtain⟨ao0,cp0,rfl,n0,m0,_,_⟩:=bE.form h0
 have hke:nd.kids.isEmpty=true:=by rw[hk];rfl
 have hpl:nd.pairs.length=0:=by rw[hp];rfl
 go_enter Tryz.func149,Tryz.ntmps149
 go_wp2_with (first
  |(go_at_call 144;go_must ((refine(jd nb nd _ S hN).mono ?_);rintro e w1 ⟨rfl,hw⟩;subst w1;rw[hke])))
 go_ret
 exact .inl ⟨_,[],[],σ,S,rfl,aS.nil _ _ _ _ _,.none hk hp,rfl,h,Step.refl S w⟩
theorem zQ (t:Nat) (mp:VS) (root err:Int) (σ:cK) (S:Nat→Prop) (nb:Nat) (nd:Nd) (least:ByteArray) (w:World) (h:Inv σ S mp w) (ht:cu w t mp root err) (hst:¬S t) (hn:fF w S nb nd) (ok:nd.Ok) (hne:nd.kids≠[]∨nd.pairs≠[]) (hs:nd.size≤512):
  Calls Tryz.prog 149 #[.pointer (some ⟨t,0,none⟩),.pointer (some ⟨nb,0,none⟩),.string least] w (kP mp σ S nd least w):=by
 have hN:=hn
 obtain⟨_,v0,v1,v2,hb,h0,h1,h2⟩:=hn
 obtain⟨c0,c1,c2,_,_,_,hlt⟩:=cells3 hb
 obtain⟨ao0,cp0,rfl,n0,m0,_,_⟩:=bE.form h0
 have hfit:=ok.fits hs hne
 have HR:=af (ME hne)
 have hcond:(nd.kids.isEmpty && nd.pairs.isEmpty)=false:=by
  rcases hne with hne|hne<;>cases h1:nd.kids<;>cases h2:nd.pairs<;>simp_all
 have hne2:=af (show nd.kids=[]→nd.pairs≠[] from fun x y=>hne.elim (fun z=>z x) (fun z=>z y))
 have htl:t<w.heap.size:=(ah.1 ht).1
 have hs2:(nd.size:Int)≤512:=by omega
 go_enter Tryz.func149,Tryz.ntmps149
 have hdone:∀(f:Nat) (σ':cK) (S':Nat→Prop) (w':World),Wrote σ f nd σ'→Inv σ' S' mp w'→Step S S' w w'→kP mp σ S nd least w (.returned (.slice (some ⟨w'.heap.size,0,none⟩) 1 1)) (w'.alloc (.cells #[.int .i64 f,.string (leastOf nd least)] 254)):=by
  intro f σ' S' w' h1 h2 h3
  refine .inl ⟨_,[((f:Int),leastOf nd least)],_,σ',S',rfl,?_,.one hne hs,⟨σ',rfl,h1,rfl⟩,h2.below (aI _ _),h3.trans (Step.of_below (aI _ _))⟩
  have:=mO (w:=w') (S:=S') (B:=w.heap.size) (e:=254) (k:=2) (kM [((f:Int),leastOf nd least)]) 1 1 rfl rfl (aG _) (by simp[maxLen]) h3.1.size h2.sub
  exact this
 cases hk:nd.kids.isEmpty with
 |true=>
  have hpl:¬nd.pairs.length=0:=by
   rw[hk] at hcond;intro e;rw[aU e] at hcond;simp at hcond
  have hpl':¬((nd.pairs.length:Int)=0):=by omega
  go_wp2_with (first
   |(go_at_call 144;go_must ((refine(jd nb nd _ S hN).mono ?_);rintro e w1 ⟨rfl,hw⟩;subst w1;rw[hk]))
   |(go_at_call 183;go_must ((refine(nD nb nd _ S hN ok.size_le).mono ?_);rintro e w1 ⟨rfl,hbel1⟩))
   |(go_at_call 185;go_must ((refine(uH nb nd least _ S (hN.below hbel1) hne2.out).mono ?_);rintro e w2 ⟨rfl,hw⟩;subst w2))
   |(go_at_call 184;go_must ((refine(BX t mp root err σ S nb nd _ _ (h.below hbel1) ((hbel1.block _ htl).trans ht) hst (hN.below hbel1) hfit hs).mono ?_);rintro e w3 (⟨f,σ',S',rfl,hW,hI,hS⟩|⟨hfull,rfl,σ1,S1,g1,g2,g3,g4⟩)<;>refine Stop.of ?_)))
  rotate_left
  ·refine Stop.on ?_
   exact⟨rfl,.inr ⟨by have:=HR.out;omega,rfl,σ1,S1,g1,(Step.of_below hbel1).trans g2,g3,g4⟩⟩
  refine Stop.on ?_
  go_wp2_with fail
  go_ret
  exact hdone f σ' S' w3 hW hI ((Step.of_below hbel1).trans hS)
 |false=>
  go_wp2_with (first
   |(go_at_call 144;go_must ((refine(jd nb nd _ S hN).mono ?_);rintro e w1 ⟨rfl,hw⟩;subst w1;rw[hk]))
   |(go_at_call 183;go_must ((refine(nD nb nd _ S hN ok.size_le).mono ?_);rintro e w1 ⟨rfl,hbel1⟩))
   |(go_at_call 185;go_must ((refine(uH nb nd least _ S (hN.below hbel1) hne2.out).mono ?_);rintro e w2 ⟨rfl,hw⟩;subst w2))
   |(go_at_call 184;go_must ((refine(BX t mp root err σ S nb nd _ _ (h.below hbel1) ((hbel1.block _ htl).trans ht) hst (hN.below hbel1) hfit hs).mono ?_);rintro e w3 (⟨f,σ',S',rfl,hW,hI,hS⟩|⟨hfull,rfl,σ1,S1,g1,g2,g3,g4⟩)<;>refine Stop.of ?_)))
  rotate_left
  ·refine Stop.on ?_
   exact⟨rfl,.inr ⟨by have:=HR.out;omega,rfl,σ1,S1,g1,(Step.of_below hbel1).trans g2,g3,g4⟩⟩
  refine Stop.on ?_
  go_wp2_with fail
  go_ret
  exact hdone f σ' S' w3 hW hI ((Step.of_below hbel1).trans hS)
theorem AA:(Tryz.prog.info? 254).map (fun i=>(i.zero,i.size,i.bytes))=some (some (.agg #[.int .i64 0,.string ⟨#[]⟩]),2,24):=by kernel_rfl
theorem Jv (ps:List Pc):∀u∈kM ps,u.oneCell'=true:=by
 intro u hu
 obtain⟨p,_,hp⟩:=mY.1 hu
 simp at hp;rcases hp with rfl|rfl<;>rfl
theorem sQ (a b:List Pc):kM (a++b)=kM a++kM b:=by simp[kM]
theorem Step.app {S S':Nat→Prop} {w w6 w7:World} {v:Value} (h:Step S S' w w6) (hk:Keep (fun g=>v.ownBlock=some g) w6 w7) (hlo:∀g,v.ownBlock=some g→w.heap.size≤g):Step S S' w w7:=
 ⟨h.1.trans hk (fun i hi e=>absurd hi (bF.2 (hlo i e))),h.2⟩
def N8 (t:Nat) (mp:VS) (root err:Int) (n:Nat):Prop:=
 ∀(σ:cK) (S:Nat→Prop) (nb:Nat) (nd:Nd) (least:ByteArray) (w:World),Inv σ S mp w→cu w t mp root err→¬S t→fF w S nb nd→nd.Ok→nd.pairs.length+nd.kids.length<n→
  Calls Tryz.prog 149 #[.pointer (some ⟨t,0,none⟩),.pointer (some ⟨nb,0,none⟩),.string least] w (kP mp σ S nd least w)
theorem room_le {nd:Nd} (ok:nd.Ok):nd.room≤4000:=by
 have:=ok.np
 have:=ok.nk
 unfold Nd.room
 split<;>omega
theorem H7 (nd:Nd) (i:Nat) (hk:nd.kids≠[]) (h5:5≤nd.kids.length) (hi:i=nd.kids.length/2):Nd.room ⟨[],nd.keys.take (i - 1),nd.kids.take i⟩+Nd.room ⟨[],nd.keys.drop i,nd.kids.drop i⟩≤nd.room:=by
 have n1:nd.kids.take i≠[]:=fun e=>by have:=congrArg List.length e;simp only[aD,bG] at this;omega
 have n2:nd.kids.drop i≠[]:=fun e=>by have:=congrArg List.length e;simp only[aO,bG] at this;omega
 unfold Nd.room
 rw[if_neg n1,if_neg n2,if_neg hk]
 simp only[aD,aO,bG]
 omega
theorem MP (nd:Nd) (i:Nat) (hi:i<nd.pairs.length):Nd.kids ⟨nd.pairs.drop i,[],[]⟩=[]→Nd.pairs ⟨nd.pairs.drop i,[],[]⟩≠[]:=fun _ e=>by have:=congrArg List.length e;simp only[aO,bG] at this;omega
theorem KG (nd:Nd) (i:Nat) (h5:5≤nd.kids.length) (hi:i=nd.kids.length/2):Nd.kids ⟨[],nd.keys.drop i,nd.kids.drop i⟩=[]→Nd.pairs ⟨[],nd.keys.drop i,nd.kids.drop i⟩≠[]:=fun e=>absurd e (fun e=>by have:=congrArg List.length e;simp only[aO,bG] at this;omega)
theorem EF (t:Nat) (mp:VS) (root err:Int) (nd:Nd) (IH:N8 t mp root err (nd.pairs.length+nd.kids.length)) (σ:cK) (S:Nat→Prop) (nb:Nat) (least:ByteArray) (w:World) (h:Inv σ S mp w) (ht:cu w t mp root err) (hst:¬S t) (hn:fF w S nb nd) (ok:nd.Ok) (hs:512<nd.size) (hk:nd.kids=[]):
  Calls Tryz.prog 149 #[.pointer (some ⟨t,0,none⟩),.pointer (some ⟨nb,0,none⟩),.string least] w (kP mp σ S nd least w):=by
 have hN:=hn
 obtain⟨_,v0,v1,v2,hb,h0,h1,h2⟩:=hn
 obtain⟨c0,c1,c2,_,_,_,hlt⟩:=cells3 hb
 obtain⟨ao0,cp0,rfl,n0,m0,_,_⟩:=bE.form h0
 have hnp:=ok.np
 have hnk:=ok.nk
 have hkk:=af ok.kk
 have hbig:=af ((ok.big hs).1 hk)
 have htl:t<w.heap.size:=(ah.1 ht).1
 have HS:=af hs
 have hs2:¬((nd.size:Int)≤512):=by omega
 clear hs
 have HI:=af IH;clear IH
 have hsz:=ok.size_le
 have hke:nd.kids.isEmpty=true:=by rw[hk];rfl
 have hpl:¬nd.pairs.length=0:=by have:=hbig.out;omega
 have hpl':¬((nd.pairs.length:Int)=0):=by omega
 go_enter Tryz.func149,Tryz.ntmps149
 go_wp2_with (first
   |(go_at_call 144;go_must ((refine(jd nb nd _ S hN).mono ?_);rintro e w1 ⟨rfl,hw⟩;subst w1;rw[hke]))
   |(go_at_call 183;go_must ((refine(nD nb nd _ S hN hsz).mono ?_);rintro e w1 ⟨rfl,hbel1⟩))
   |(go_at_call 186;go_must ((refine(AJ nb nd _ S (fun g hg=>ax (h.sub g hg) hbel1.size) (hN.below hbel1) hk (by have:=hbig.out;omega) hsz).mono ?_);rintro e w2 ⟨i,hi,b1,b2,hi1,rfl,hA,hB,hbel2,hcut⟩;have HI1:=af hi1;have HCUT:=af hcut;clear hi1 hcut;clear c0 c1 c2;refine Stop.of ?_)))
 refine Stop.on ?_
 have hbelw:Below w.heap.size w w2:=hbel1.trans (hbel2.mono hbel1.size)
 have hspl:=af (show (Nd.pairs ⟨nd.pairs.take i,[],[]⟩).length+(Nd.kids ⟨nd.pairs.take i,[],[]⟩).length<nd.pairs.length+nd.kids.length∧(Nd.pairs ⟨nd.pairs.drop i,[],[]⟩).length+(Nd.kids ⟨nd.pairs.drop i,[],[]⟩).length<nd.pairs.length+nd.kids.length from by have:=HI1.out;simp only[aD,aO,bG];omega)
 have hrooms:=af (show Nd.room ⟨nd.pairs.take i,[],[]⟩+Nd.room ⟨nd.pairs.drop i,[],[]⟩≤nd.room from by unfold Nd.room;simp only[aD,aO,iT];omega)
 have hOkA:=af (ok.left i hk)
 have hOkB:=af (ok.right i hk)
 have hI2:=h.below hbelw
 have ht2:=ht.step hst (Step.of_below hbelw)
 go_wp2_with (first
   |(go_at_call 149;go_must ((refine(HI.out σ S b1 ⟨nd.pairs.take i,[],[]⟩ least w2 hI2 ht2.1 ht2.2 hA hOkA.out hspl.out.1).mono ?_);rintro e w3 (⟨x1,ps1,zs1,σ1,S1,rfl,hown1,hsp1,hput1,hI3,hs3⟩|⟨hno,rfl,τ,Sτ,g1,g2,g3,g4⟩)<;>refine Stop.of ?_)))
 rotate_left
 ·refine Stop.on ?_
  exact⟨rfl,.inr ⟨by have:=hrooms.out;omega,rfl,τ,Sτ,g1,(Step.of_below hbelw).trans g2,g3,g4⟩⟩
 refine Stop.on ?_
 have hl1:=hput1.length
 have hr1:=hsp1.room hOkA.out
 have hB3:=hB.step hs3
 have ht3:=ht2.1.step ht2.2 hs3
 obtain⟨ao1,cp1,rfl,n1,m1,_,_⟩:=bE.form hown1.dD
 have HL1:=af hl1;clear hl1
 have HR1:=af hr1;clear hr1
 go_wp2_with (first
   |(go_at_call 185;go_must ((refine(uH b2 ⟨nd.pairs.drop i,[],[]⟩ _ _ S1 hB3 (MP nd i hi)).mono ?_);rintro e w4 ⟨rfl,hw⟩;subst w4))
   |(go_at_call 149;go_must ((refine(HI.out σ1 S1 b2 ⟨nd.pairs.drop i,[],[]⟩ _ w3 hI3 ht3.1 ht3.2 hB3 hOkB.out hspl.out.2).mono ?_);rintro e w5 (⟨x2,ps2,zs2,σ2,S2,rfl,hown2,hsp2,hput2,hI5,hs5⟩|⟨hno,rfl,τ,Sτ,g1,g2,g3,g4⟩)<;>refine Stop.of ?_)))
 rotate_left
 ·refine Stop.on ?_
  have a:=HL1.out;have b:=HR1.out;have c:=hrooms.out
  exact⟨rfl,.inr ⟨by rw[a.2.1,a.2.2.1] at hno;omega,rfl,τ,Sτ,g1,((Step.of_below hbelw).trans hs3).trans g2,g3.trans a.2.2.2.1,g4.trans a.2.2.1⟩⟩
 refine Stop.on ?_
 have hl2:=hput2.length
 have hr2:=hsp2.room hOkB.out
 have hb1:ps1.length≤4000:=by have a:=HL1.out.1;have b:=HR1.out;have c:=hrooms.out;have d:=hOkA.out;rw[a];refine aH b ?_;have:=room_le d;omega
 have hb2:ps2.length≤4000:=by rw[hl2.1];refine aH hr2 ?_;have:=room_le hOkB.out;omega
 clear hl2 hr2
 have hownA:=(hown1.step hs5).base (B:=w.heap.size) hbelw.size
 have hS5:=hI5.sub
 have hbs:w.heap.size≤w5.heap.size:=aH hbelw.size (aH hs3.1.size hs5.1.size)
 obtain⟨ao2,cp2,rfl,n2,m2,_,_⟩:=bE.form hown2.dD
 have hsrc:=hown2.dD.src (P:=Tryz.prog) Tryz.underlying184 (Jv _)
 have hbyt:(ps1.length+ps2.length)*24≤140737488355328:=by omega
 have hmx:ps1.length+ps2.length≤maxLen:=by simp only[maxLen];omega
 go_wp2_with (first
   |(at_builtin;go_must (refine dK rfl (.tmp 41) (.tmp 47) 184 184 rfl S2 w.heap.size 254 2 24 _ Tryz.underlying184 AA rfl (.slice ao1 ps1.length cp1) ps1.length (kM ps1) rfl hownA (.slice ao2 ps2.length cp2) ps2.length (kM ps2) rfl hsrc hS5 hbs hmx hbyt ?_;intro ao3 c3 w7 hown3 hk7 hb7 hd7)))
 go_ret
 have hst7:Step S S2 w w7:=(((Step.of_below hbelw).trans hs3).trans hs5).app hk7 hownA.lo
 refine .inl ⟨_,ps1++ps2,zs1++zs2,σ2,S2,rfl,?_,.leaf i hi hk HS.out HI1.out HCUT.out hsp1 hsp2,hput1.append hput2,hI5.jZ hk7 (fun g hg e=>hownA.2 g e hg),hst7⟩
 rw[aC,sQ]
 exact hown3
theorem Dn (t:Nat) (mp:VS) (root err:Int) (nd:Nd) (IH:N8 t mp root err (nd.pairs.length+nd.kids.length)) (σ:cK) (S:Nat→Prop) (nb:Nat) (least:ByteArray) (w:World) (h:Inv σ S mp w) (ht:cu w t mp root err) (hst:¬S t) (hn:fF w S nb nd) (ok:nd.Ok) (hs:512<nd.size) (hk:nd.kids≠[]):
  Calls Tryz.prog 149 #[.pointer (some ⟨t,0,none⟩),.pointer (some ⟨nb,0,none⟩),.string least] w (kP mp σ S nd least w):=by
 have hN:=hn
 obtain⟨_,v0,v1,v2,hb,h0,h1,h2⟩:=hn
 obtain⟨c0,c1,c2,_,_,_,hlt⟩:=cells3 hb
 obtain⟨ao0,cp0,rfl,n0,m0,_,_⟩:=bE.form h0
 have hnp:=ok.np
 have hnk:=ok.nk
 have hkk:=af ok.kk
 have hbig:=af ((ok.big hs).2 hk)
 have htl:t<w.heap.size:=(ah.1 ht).1
 have HS:=af hs
 have hs2:¬((nd.size:Int)≤512):=by omega
 clear hs
 have HI:=af IH;clear IH
 have hsz:=ok.size_le
 have hke:nd.kids.isEmpty=false:=by cases hq:nd.kids with|nil=>exact absurd hq hk|cons a b=>rfl
 go_enter Tryz.func149,Tryz.ntmps149
 go_wp2_with (first
   |(go_at_call 144;go_must ((refine(jd nb nd _ S hN).mono ?_);rintro e w1 ⟨rfl,hw⟩;subst w1;rw[hke]))
   |(go_at_call 183;go_must ((refine(nD nb nd _ S hN hsz).mono ?_);rintro e w1 ⟨rfl,hbel1⟩))
   |(go_at_call 186;go_must ((refine(yZ nb nd _ S (fun g hg=>ax (h.sub g hg) hbel1.size) (hN.below hbel1) (by have:=hbig.out;omega) hkk.out hsz).mono ?_);rintro e w2 ⟨i,hi,b1,b2,hi1,rfl,hA,hB,hbel2⟩;have HI1:=af hi1;clear hi1;clear c0 c1 c2;refine Stop.of ?_)))
 refine Stop.on ?_
 have hbelw:Below w.heap.size w w2:=hbel1.trans (hbel2.mono hbel1.size)
 have hspl:=af (show (Nd.pairs ⟨[],nd.keys.take (i - 1),nd.kids.take i⟩).length+(Nd.kids ⟨[],nd.keys.take (i - 1),nd.kids.take i⟩).length<nd.pairs.length+nd.kids.length∧(Nd.pairs ⟨[],nd.keys.drop i,nd.kids.drop i⟩).length+(Nd.kids ⟨[],nd.keys.drop i,nd.kids.drop i⟩).length<nd.pairs.length+nd.kids.length from by have:=HI1.out;have:=hbig.out;simp only[aD,aO,bG];omega)
 have hrooms:=af (show Nd.room ⟨[],nd.keys.take (i - 1),nd.kids.take i⟩+Nd.room ⟨[],nd.keys.drop i,nd.kids.drop i⟩≤nd.room from H7 nd i hk hbig.out HI1.out)
 have hOkA:=af (ok.Cy i (by have:=HI1.out;omega))
 have hOkB:=af (ok.xQ i)
 have hI2:=h.below hbelw
 have ht2:=ht.step hst (Step.of_below hbelw)
 go_wp2_with (first
   |(go_at_call 149;go_must ((refine(HI.out σ S b1 ⟨[],nd.keys.take (i - 1),nd.kids.take i⟩ least w2 hI2 ht2.1 ht2.2 hA hOkA.out hspl.out.1).mono ?_);rintro e w3 (⟨x1,ps1,zs1,σ1,S1,rfl,hown1,hsp1,hput1,hI3,hs3⟩|⟨hno,rfl,τ,Sτ,g1,g2,g3,g4⟩)<;>refine Stop.of ?_)))
 rotate_left
 ·refine Stop.on ?_
  exact⟨rfl,.inr ⟨by have:=hrooms.out;omega,rfl,τ,Sτ,g1,(Step.of_below hbelw).trans g2,g3,g4⟩⟩
 refine Stop.on ?_
 have hl1:=hput1.length
 have hr1:=hsp1.room hOkA.out
 have hB3:=hB.step hs3
 have ht3:=ht2.1.step ht2.2 hs3
 obtain⟨ao1,cp1,rfl,n1,m1,_,_⟩:=bE.form hown1.dD
 have HL1:=af hl1;clear hl1
 have HR1:=af hr1;clear hr1
 go_wp2_with (first
   |(go_at_call 185;go_must ((refine(uH b2 ⟨[],nd.keys.drop i,nd.kids.drop i⟩ _ _ S1 hB3 (KG nd i hbig.out HI1.out)).mono ?_);rintro e w4 ⟨rfl,hw⟩;subst w4))
   |(go_at_call 149;go_must ((refine(HI.out σ1 S1 b2 ⟨[],nd.keys.drop i,nd.kids.drop i⟩ _ w3 hI3 ht3.1 ht3.2 hB3 hOkB.out hspl.out.2).mono ?_);rintro e w5 (⟨x2,ps2,zs2,σ2,S2,rfl,hown2,hsp2,hput2,hI5,hs5⟩|⟨hno,rfl,τ,Sτ,g1,g2,g3,g4⟩)<;>refine Stop.of ?_)))
 rotate_left
 ·refine Stop.on ?_
  have a:=HL1.out;have b:=HR1.out;have c:=hrooms.out
  exact⟨rfl,.inr ⟨by rw[a.2.1,a.2.2.1] at hno;omega,rfl,τ,Sτ,g1,((Step.of_below hbelw).trans hs3).trans g2,g3.trans a.2.2.2.1,g4.trans a.2.2.1⟩⟩
 refine Stop.on ?_
 have hl2:=hput2.length
 have hr2:=hsp2.room hOkB.out
 have hb1:ps1.length≤4000:=by have a:=HL1.out.1;have b:=HR1.out;have c:=hrooms.out;have d:=hOkA.out;rw[a];refine aH b ?_;have:=room_le d;omega
 have hb2:ps2.length≤4000:=by rw[hl2.1];refine aH hr2 ?_;have:=room_le hOkB.out;omega
 clear hl2 hr2
 have hownA:=(hown1.step hs5).base (B:=w.heap.size) hbelw.size
 have hS5:=hI5.sub
 have hbs:w.heap.size≤w5.heap.size:=aH hbelw.size (aH hs3.1.size hs5.1.size)
 obtain⟨ao2,cp2,rfl,n2,m2,_,_⟩:=bE.form hown2.dD
 have hsrc:=hown2.dD.src (P:=Tryz.prog) Tryz.underlying184 (Jv _)
 have hbyt:(ps1.length+ps2.length)*24≤140737488355328:=by omega
 have hmx:ps1.length+ps2.length≤maxLen:=by simp only[maxLen];omega
 go_wp2_with (first
   |(at_builtin;go_must (refine dK rfl (.tmp 41) (.tmp 47) 184 184 rfl S2 w.heap.size 254 2 24 _ Tryz.underlying184 AA rfl (.slice ao1 ps1.length cp1) ps1.length (kM ps1) rfl hownA (.slice ao2 ps2.length cp2) ps2.length (kM ps2) rfl hsrc hS5 hbs hmx hbyt ?_;intro ao3 c3 w7 hown3 hk7 hb7 hd7)))
 go_ret
 have hst7:Step S S2 w w7:=(((Step.of_below hbelw).trans hs3).trans hs5).app hk7 hownA.lo
 refine .inl ⟨_,ps1++ps2,zs1++zs2,σ2,S2,rfl,?_,.inner i hi hk HS.out HI1.out hsp1 hsp2,hput1.append hput2,hI5.jZ hk7 (fun g hg e=>hownA.2 g e hg),hst7⟩
 rw[aC,sQ]
 exact hown3
theorem pu (t:Nat) (mp:VS) (root err:Int):∀n,N8 t mp root err n:=by
 intro n
 induction n using Nat.strongRecOn with
 |_ n ih=>
  intro σ S nb nd least w h ht hst hn ok hm
  by_cases hk:nd.kids=[]
  ·by_cases hp:nd.pairs=[]
   ·exact ED t mp σ S nb nd least w h hn hk hp
   ·by_cases hs:nd.size≤512
    ·exact zQ t mp root err σ S nb nd least w h ht hst hn ok (.inr hp) hs
    ·exact EF t mp root err nd (ih _ hm) σ S nb least w h ht hst hn ok (by omega) hk
  ·by_cases hs:nd.size≤512
   ·exact zQ t mp root err σ S nb nd least w h ht hst hn ok (.inl hk) hs
   ·exact Dn t mp root err nd (ih _ hm) σ S nb least w h ht hst hn ok (by omega) hk
def Bp (g:Nat) (cb:Array Value) (F:List Pr→List Pr) (bs:List (Nat×ByteArray)):Prop:=
 ∀(nb B:Nat) (nd:Nd) (S:Nat→Prop) (w:World),(∀g,S g→g<w.heap.size)→(∀p∈bs,pX w p.1 p.2∧p.1<B)→gH w S B nb nd→fT nd.pairs→nd.pairs.length≤999999→
  Calls Tryz.prog g (#[.pointer (some ⟨nb,0,none⟩)]++cb) w fun e w'=>e= .returned (.tuple #[])∧gH w' S B nb ⟨F nd.pairs,nd.keys,nd.kids⟩∧Below B w w'
def ug (w:World) (S:Nat→Prop) (bs:List (Nat×ByteArray)):Prop:=∀p∈bs,pX w p.1 p.2∧¬S p.1
theorem ug.step {w w':World} {S S':Nat→Prop} {bs:List (Nat×ByteArray)} (h:ug w S bs) (hs:Step S S' w w'):ug w' S' bs:=fun p hp=>by
 obtain⟨h1,h2⟩:=h p hp
 have hl:=(lX h1).2
 exact⟨(hs.1.block _ hl h2).trans h1,fun x=>(hs.2 _ x).elim h2 (fun y=>absurd hl (bF.2 y))⟩
theorem ug.to {w w':World} {S:Nat→Prop} {bs:List (Nat×ByteArray)} (h:ug w S bs) {S':Nat→Prop} (hs:Step S S' w w'):∀p∈bs,pX w' p.1 p.2∧p.1<w.heap.size:=fun p hp=>⟨((h.step hs) p hp).1,(lX (h p hp).1).2⟩
theorem Inv.M9 {σ:cK} {S:Nat→Prop} {mp:VS} {B:Nat} {w w':World} (h:Inv σ S mp w) (hb:Below B w w') (hS:∀g,S g→g<B):Inv σ S mp w':=
 h.jZ (M:=fun g=>B≤g) ⟨hb.os,hb.tape,hb.output,hb.size,fun k _ hn=>hb.block k (fq.1 hn)⟩ (fun g hg=>fq.2 (hS g hg))
theorem cu.Rn {w0 w w':World} {t:Nat} {mp:VS} {root err root' err':Int} (h:cu w t mp root err) (hb:Below w0.heap.size w w') (h0:cu w0 t mp root' err'):cu w' t mp root err:=
 (hb.block t (ah.1 h0).1).trans h
theorem Step.Mf {S S':Nat→Prop} {w w1 w2:World} (h:Step S S' w w1) (hb:Below w.heap.size w1 w2):Step S S' w w2:=
 ⟨⟨hb.os.trans h.1.os,hb.tape.trans h.1.tape,hb.output.trans h.1.output,aH h.1.size hb.size,fun k hk hn=>(hb.block k hk).trans (h.1.block k hk hn)⟩,h.2⟩
theorem kP.mono {mp:VS} {σ:cK} {S0 S:Nat→Prop} {nd:Nd} {least:ByteArray} {w0 w:World} {e:Ending} {w':World} (h:kP mp σ S nd least w e w') (hs:Step S0 S w0 w):kP mp σ S0 nd least w0 e w':=by
 rcases h with ⟨v,ps,zs,σ',S',h1,h2,h3,h4,h5,h6⟩|⟨hno,hg⟩
 ·exact .inl ⟨v,ps,zs,σ',S',h1,h2.base hs.1.size,h3,h4,h5,hs.trans h6⟩
 ·exact .inr ⟨hno,hg.after hs rfl rfl⟩
theorem KY (t:Nat) (mp:VS) (root err deep:Int) (σ:cK) (S:Nat→Prop) (key least:ByteArray) (g:Nat) (cb:Array Value) (F:List Pr→List Pr) (bs:List (Nat×ByteArray)) (hent:∀args w,(callFunc g args).run Tryz.prog w= .ok (.enter g args) w) (hf:Bp g cb F bs)
  (w:World) (h:Inv σ S mp w) (ht:cu w t mp root err) (hst:¬S t) (hbx:ug w S bs) (ok:Nd.Ok ⟨F [],[],[]⟩):
  Calls Tryz.prog 112 #[.pointer (some ⟨t,0,none⟩),.int .i64 0,.int .i64 deep,.string key,.string least,.func (.func g) #[] cb] w (kP mp σ S ⟨F [],[],[]⟩ key w):=by
 have Hf:=af hf;clear hf
 have hsub:=h.sub
 go_enter Tryz.func112,Tryz.ntmps112
 have hb0:=aI w (.cells #[.slice none 0 0,.slice none 0 0,.slice none 0 0] 189)
 have hs0:Step S S w (w.alloc (.cells #[.slice none 0 0,.slice none 0 0,.slice none 0 0] 189)):=Step.of_below hb0
 have hn0:gH (w.alloc (.cells #[.slice none 0 0,.slice none 0 0,.slice none 0 0] 189)) S w.heap.size w.heap.size ⟨[],[],[]⟩:=
  ⟨fun x=>absurd (hsub _ x) (dI _),aG _,_,_,_,aM w _,aS.nil _ _ _ _ _,aS.nil _ _ _ _ _,aS.nil _ _ _ _ _⟩
 go_wp2_with (first
  |((refine(Hf.out w.heap.size w.heap.size ⟨[],[],[]⟩ S _ (fun g hg=>ax (hsub g hg) hb0.size) (hbx.to hs0) hn0 kC (aY _)).mono ?_);rintro e w1 ⟨rfl,hn1,hb1⟩)
  |(go_at_call 149;go_must ((refine(pu t mp root err _ σ S w.heap.size ⟨F [],[],[]⟩ key w1 (h.below (hb0.trans hb1)) (ht.step hst (Step.of_below (hb0.trans hb1))).1 hst hn1.iU ok (gD _)).mono ?_);rintro e w2 (⟨v,ps,zs,σ',S',rfl,p2,p3,p4,p5,p6⟩|⟨hno,rfl,τ,Sτ,g1,g2,g3,g4⟩)<;>refine Stop.of ?_)))
 rotate_left
 ·refine Stop.on ?_
  exact⟨rfl,kP.mono (.inr ⟨hno,rfl,τ,Sτ,g1,g2,g3,g4⟩) (Step.of_below (hb0.trans hb1))⟩
 refine Stop.on ?_
 go_wp2_with fail
 go_ret
 exact kP.mono (.inl ⟨v,ps,zs,σ',S',rfl,p2,p3,p4,p5,p6⟩) (Step.of_below (hb0.trans hb1))
theorem KZ (t:Nat) (mp:VS) (root err b deep:Int) (σ:cK) (S:Nat→Prop) (key least:ByteArray) (nd:Nd) (g:Nat) (cb:Array Value) (F:List Pr→List Pr) (bs:List (Nat×ByteArray)) (hent:∀args w,(callFunc g args).run Tryz.prog w= .ok (.enter g args) w) (hf:Bp g cb F bs)
  (w:World) (h:Inv σ S mp w) (ht:cu w t mp root err) (hst:¬S t) (hbx:ug w S bs) (hb:zy σ b nd) (hk:nd.kids=[]) (hd:deep≤40) (hr:fT nd.pairs) (ok:Nd.Ok ⟨F nd.pairs,[],[]⟩):
  Calls Tryz.prog 112 #[.pointer (some ⟨t,0,none⟩),.int .i64 b,.int .i64 deep,.string key,.string least,.func (.func g) #[] cb] w (kP mp (σ.gone b) S ⟨F nd.pairs,[],[]⟩ least w):=by
 have Hf:=af hf;clear hf
 have hsub:=h.sub
 have hb0:(b==0)=false:=by have:=hb.lo;simp;omega
 have hke:nd.kids.isEmpty=true:=by rw[hk];rfl
 have hnp:=hb.fits.np
 have hkk:=hb.fits.kk
 rw[hk] at hkk
 have hkey:nd.keys=[]:=aU (by simpa using hkk)
 have Hkey:=af hkey;clear hkey hkk
 go_enter Tryz.func112,Tryz.ntmps112
 go_wp2_with (first
  |(go_at_call 151;go_must ((refine(Ew t mp root err b deep σ S nd w h ht hst hb hd).mono ?_);rintro e w1 ⟨nb,rfl,hn1,hI1,hs1⟩))
  |(go_at_call 144;go_must ((refine(jd nb nd _ S hn1.iU).mono ?_);rintro e w2 ⟨rfl,hw⟩;subst w2;rw[hke]))
  |((refine(Hf.out nb w.heap.size nd S _ hI1.sub (hbx.to hs1) hn1 hr (by omega)).mono ?_);rw[Hkey.out,hk];rintro e w2 ⟨rfl,hn2,hb2⟩)
  |(go_at_call 149;go_must ((refine(pu t mp root err _ (σ.gone b) S nb ⟨F nd.pairs,[],[]⟩ least w2 (hI1.M9 hb2 hsub) ((ht.step hst hs1).1.Rn hb2 ht) hst hn2.iU ok (gD _)).mono ?_);rintro e w3 (⟨v,ps,zs,σ',S',rfl,p2,p3,p4,p5,p6⟩|⟨hno,rfl,τ,Sτ,g1,g2,g3,g4⟩)<;>refine Stop.of ?_)))
 rotate_left
 ·refine Stop.on ?_
  exact⟨rfl,kP.mono (.inr ⟨hno,rfl,τ,Sτ,g1,g2,g3,g4⟩) (hs1.Mf hb2)⟩
 refine Stop.on ?_
 go_wp2_with fail
 go_ret
 exact kP.mono (.inl ⟨v,ps,zs,σ',S',rfl,p2,p3,p4,p5,p6⟩) (hs1.Mf hb2)
theorem Ea (tb rb:Nat) (w:World):
  CallsD Tryz.prog 148 #[.pointer (some ⟨tb,0,none⟩),.pointer (some ⟨rb,0,none⟩)] .returning w fun e u' w'=>e= .returned (.tuple #[])∧u'= .returning∧Below w.heap.size w w':=by
 refine callsD_of_wpS Tryz.func148 rfl fun c₀ cs hu=> ?_
 apply wpS_seq
 apply wpS_region
 have hta:∀w:World,(Instr.typeAssert Value.nilIface 20 251 true).run Tryz.prog w= .ok (.tuple #[.agg #[.int .i64 0],.bool false]) w:=fun _=>by kernel_rfl
 simp[wpOpsS,go_sem,recoverD,hu,Tryz.ntmps148,Exit.thenS,hta,Array.replicate,List.replicate]
 apply wpS_seq
 apply wpS_region
 simp[wpOpsS,go_sem,Exit.thenS]
 refine wpS_cond (t:=false) (by simp[Act.eval]) ?_
 simp only[Ox,if_false]
 refine wpS_of_wp (wp_skip ?_)
 cases c₀
 simp_all [bodyPostS,results,Tryz.results148]
 exact aI _ _
theorem cu.Qs {w:World} {t:Nat} {mp:VS} {root err e:Int} (h:cu w t mp root err):cu (w.setCell ⟨t,2,none⟩ (.int .i64 e)) t mp root e:=by
 unfold cu at*
 simp[World.setCell,aW,h]
theorem Eb (t:Nat) (mp:VS) (root err:Int) (tb rb:Nat) (er e0:Int) (w:World) (ht:cu w t mp root err) (htb:w.heap[tb]? =some (.cells #[.pointer (some ⟨t,0,none⟩)] 106 (0,0))) (hrb:w.heap[rb]? =some (.cells #[.int .i64 e0] 38 (0,0))) (hne:t≠rb):
  CallsD Tryz.prog 148 #[.pointer (some ⟨tb,0,none⟩),.pointer (some ⟨rb,0,none⟩)] (.panicking (brk er)) w fun e u' w'=>e= .returned (.tuple #[])∧settle u'= .returning∧cu w' t mp root er∧w'.cell? ⟨rb,0,none⟩=some (.int .i64 er)∧Keep (fun g=>g=t∨g=rb) w w':=by
 refine callsD_of_wpS Tryz.func148 rfl fun c₀ cs hu=> ?_
 apply wpS_seq
 apply wpS_region
 have hta:∀w:World,(Instr.typeAssert (.iface 251 (.agg #[.int .i64 er])) 20 251 true).run Tryz.prog w= .ok (.tuple #[.agg #[.int .i64 er],.bool true]) w:=fun _=>by kernel_rfl
 simp[wpOpsS,go_sem,recoverD,hu,brk,Tryz.ntmps148,Exit.thenS,hta,Array.replicate,List.replicate]
 obtain⟨w1,HW1⟩:∃w1:World,Hid (w.alloc (.cells #[.int .i64 er] 251)=w1):=⟨_,af rfl⟩
 have hb1:Below w.heap.size w w1:=by rw[←HW1.out];exact aI w _
 have hx:w1.cell? ⟨w.heap.size,0,none⟩=some (.int .i64 er):=by rw[←HW1.out];simp
 have hxl:w.heap.size<w1.heap.size:=by rw[←HW1.out];simp
 rw[HW1.out]
 have hlt:=(ah.1 ht).1
 have hltb:=(ah.1 htb).1
 have hlrb:=(ah.1 hrb).1
 have ht1:cu w1 t mp root err:=(hb1.block t hlt).trans ht
 have c0:w1.cell? ⟨tb,0,none⟩=some (.pointer (some ⟨t,0,none⟩)):=by
  have:=(hb1.block tb hltb).trans htb
  simp[World.cell?,this]
 have hrb1:=(hb1.block rb hlrb).trans hrb
 have hf1:∀j,w1.frozen? ⟨t,j,none⟩=false:=fun j=>by unfold cu at ht1;simp[World.frozen?,ht1]
 have hlt1:=ax hlt hb1.size
 have hltb1:=ax hltb hb1.size
 have hlrb1:=ax hlrb hb1.size
 apply wpS_seq
 apply wpS_region
 simp[wpOpsS,go_sem,Exit.thenS]
 refine wpS_cond (t:=true) (by simp[Act.eval]) ?_
 simp only[iT]
 refine wpS_of_wp ?_
 have htt:t≠tb:=fun e=>by subst e;unfold cu at ht;rw[htb] at ht;cases ht
 have hS1:w1.drew.cell? ⟨tb,0,none⟩=some (.pointer (some ⟨t,0,none⟩))∧w1.drew.cell? ⟨w.heap.size,0,none⟩=some (.int .i64 er)∧tb<w1.drew.heap.size∧w.heap.size<w1.drew.heap.size:=⟨c0,hx,hltb1,hxl⟩
 have hk1:Keep (· =t) w1.drew (w1.drew.setCell ⟨t,2,none⟩ (.int .i64 er)):=(Keep.refl (· =t) _).setCell (p:=⟨t,2,none⟩) (.inr rfl) _
 have hS2:(w1.drew.setCell ⟨t,2,none⟩ (.int .i64 er)).cell? ⟨tb,0,none⟩=some (.pointer (some ⟨t,0,none⟩))∧(w1.drew.setCell ⟨t,2,none⟩ (.int .i64 er)).cell? ⟨w.heap.size,0,none⟩=some (.int .i64 er)∧tb<(w1.drew.setCell ⟨t,2,none⟩ (.int .i64 er)).heap.size∧w.heap.size<(w1.drew.setCell ⟨t,2,none⟩ (.int .i64 er)).heap.size:=
  ⟨(hk1.cell hltb1 (fun e=>htt e.symm)).trans c0,(hk1.cell (p:=⟨w.heap.size,0,none⟩) hxl (by show ¬w.heap.size=t;omega)).trans hx,ax hltb1 hk1.size,ax hxl hk1.size⟩
 have hT2:cu (w1.drew.setCell ⟨t,2,none⟩ (.int .i64 er)) t mp root er:=cu.Qs (w:=w1.drew) ht1
 have hr2:(w1.drew.setCell ⟨t,2,none⟩ (.int .i64 er)).heap[rb]? =some (.cells #[.int .i64 e0] 38 (0,0)):=(hk1.block rb hlrb1 (fun e=>hne e.symm)).trans hrb1
 have hfz:w1.drew.frozen? ⟨t,2,none⟩=false:=hf1 2
 have hcz:∃v,w1.drew.cell? ⟨t,2,none⟩=some v:=⟨_,by unfold cu at ht1;show w1.cell? _=_;simp[World.cell?,ht1];rfl⟩
 obtain⟨vz,hcz⟩:=hcz
 obtain⟨w2,HW2⟩:∃w2:World,Hid (w1.drew.setCell ⟨t,2,none⟩ (.int .i64 er)=w2):=⟨_,af rfl⟩
 rw[HW2.out] at hk1 hS2 hT2 hr2
 have hr2c:w2.cell? ⟨rb,0,none⟩=some (.int .i64 e0):=by simp[World.cell?,hr2]
 have hr2f:w2.frozen? ⟨rb,0,none⟩=false:=by simp[World.frozen?,hr2]
 have hr2l:=(ah.1 hr2).1
 have hltd:t<w1.drew.heap.size:=hlt1
 refine aP (fun W=>W.cell? ⟨tb,0,none⟩=some (.pointer (some ⟨t,0,none⟩))∧W.cell? ⟨w.heap.size,0,none⟩=some (.int .i64 er)∧tb<W.heap.size∧w.heap.size<W.heap.size) (fun i=> !([7,8].contains i)) [0,1,2,3,4,5,6,7,8] rfl (by kernel_rfl) hS1 ?_
 repeat ((refine bO (v:= ?_) rfl rfl (fun _ _ _ h=>h) rfl (fun W hW=> ?_) ?_);rotate_left;(focus ((try dsimp only at hW);obtain⟨q0,q1,q2,q3⟩:=hW;(go_simp;first|done|with_reducible rfl)));(try simp only[Act.put,aj,au,ak]))
 refine dw rfl rfl rfl ?_;intro K hK;go_simp
 rw[show (w1.setCell ⟨t,2,none⟩ (.int .i64 er)).drew=w1.drew.setCell ⟨t,2,none⟩ (.int .i64 er) from rfl,HW2.out]
 refine hK.out _ _ hS2 ?_
 refine ja rfl rfl rfl (by kernel_rfl) ?_;intro K hK;go_simp
 refine hK.out _ _ ?_
 refine bR ?_
 have hk3:Keep (· =rb) w2 (w2.setCell ⟨rb,0,none⟩ (.int .i64 er)):=(Keep.refl (· =rb) _).setCell (p:=⟨rb,0,none⟩) (.inr rfl) _
 refine⟨rfl,_,rfl,_,?_,rfl,rfl,(hk3.block t (ah.1 hT2).1 hne).trans hT2,?_,?_⟩
 ·simp[results,Tryz.results148,go_sem]
 ·simp[World.setCell,World.cell?,aW,hr2]
 ·exact(((Keep.of_below hb1 (fun g=>g=t∨g=rb)).drew).trans (hk1.mono (fun _ _ e=> .inl e)) (fun _ _ e=>e)).trans (hk3.mono (fun _ _ e=> .inr e)) (fun _ _ e=>e)
theorem Bb (t:Nat) (mp:VS) (root err:Int) (g:Nat) (cb:Array Value) (w:World) (R R2:World→Prop) (htl:t<w.heap.size) (hent:∀args w,(callFunc g args).run Tryz.prog w= .ok (.enter g args) w)
  (hf:Calls Tryz.prog g cb ((w.alloc (.cells #[.pointer (some ⟨t,0,none⟩)] 106)).alloc (.cells #[.int .i64 0] 38)) fun e w'=>
   (e= .returned (.tuple #[])∧R w'∧w'.heap[w.heap.size+1]? =some (.cells #[.int .i64 0] 38 (0,0)))∨
   (e= .panicked (brk 12)∧R2 w'∧w'.heap[w.heap.size+1]? =some (.cells #[.int .i64 0] 38 (0,0))∧w'.heap[w.heap.size]? =some (.cells #[.pointer (some ⟨t,0,none⟩)] 106 (0,0))∧cu w' t mp root err)):
  Calls Tryz.prog 109 #[.pointer (some ⟨t,0,none⟩),.func (.func g) #[] cb] w fun e w'=>
   (e= .returned (.int .i64 0)∧∃w1,R w1∧Keep (· =w.heap.size+1) w1 w')∨
   (e= .returned (.int .i64 12)∧∃w1,R2 w1∧Keep (fun g=>g=t∨g=w.heap.size+1) w1 w'∧cu w' t mp root 12):=by
 have hmf:∀(fn:Fn) (first cap:Array Value) (w:World),(Instr.makeFunc fn first cap).run Tryz.prog w= .ok (.func fn first cap) w:=fun _ _ _ _=>rfl
 have Hf:=af hf;clear hf
 go_enter_defers Tryz.func109,Tryz.ntmps109
 go_wp2_with (refine Hf.out.mono ?_;rintro e w1 (⟨rfl,hR,hr⟩|⟨rfl,hR2,hr,hrt,hT⟩)<;>refine Stop.of ?_)
 ·have r0:w1.cell? ⟨w.heap.size+1,0,none⟩=some (.int .i64 0):=by simp[World.cell?,hr]
  have r1:w1.frozen? ⟨w.heap.size+1,0,none⟩=false:=by simp[World.frozen?,hr]
  have r2:=(ah.1 hr).1
  refine Stop.on ?_
  go_wp2_with fail
  have hk:Keep (· =w.heap.size+1) w1 (w1.setCell ⟨w.heap.size+1,0,none⟩ (.int .i64 0)):=Keep.setCell (M:=(· =w.heap.size+1)) (p:=⟨w.heap.size+1,0,none⟩) (Keep.refl _ _) (.inr rfl) _
  have hr':(w1.setCell ⟨w.heap.size+1,0,none⟩ (.int .i64 0)).cell? ⟨w.heap.size+1,0,none⟩=some (.int .i64 0):=by simp[World.setCell,World.cell?,aW,hr]
  have hlt':w.heap.size+1<(w1.setCell ⟨w.heap.size+1,0,none⟩ (.int .i64 0)).heap.size:=ax r2 hk.size
  generalize w1.setCell ⟨w.heap.size+1,0,none⟩ (.int .i64 0)=w2 at*
  refine kZ (f:=148) (args:=#[.pointer (some ⟨w.heap.size,0,none⟩),.pointer (some ⟨w.heap.size+1,0,none⟩)]) (by simp) (by simp[go_sem]) ?_
  refine(Ea w.heap.size (w.heap.size+1) w2).mono ?_
  rintro e u' w'' ⟨rfl,rfl,hb⟩
  have hc:w''.cell? ⟨w.heap.size+1,0,none⟩=some (.int .i64 0):=(hb.cell (p:=⟨w.heap.size+1,0,none⟩) hlt').trans hr'
  have hfin:Keep (· =w.heap.size+1) w1 w'':=hk.trans (Keep.of_below hb (fun _=>False)) (fun _ _ h=>h.elim)
  refine⟨_,?_,.inl ⟨rfl,w1,hR,hfin⟩⟩
  simp[results,Tryz.results109,go_sem,hc]
 ·refine Stop.on ?_
  refine kZ (f:=148) (args:=#[.pointer (some ⟨w.heap.size,0,none⟩),.pointer (some ⟨w.heap.size+1,0,none⟩)]) (by simp) (by simp[go_sem]) ?_
  refine(Eb t mp root err w.heap.size (w.heap.size+1) 12 0 w1 hT hrt hr (by omega)).mono ?_
  rintro e u' w'' ⟨rfl,hu,hT2,hc,hk⟩
  show Leaves _ _ _ _ [] (settle u') w''
  rw[hu]
  refine⟨_,?_,.inr ⟨rfl,w1,hR2,hk,hT2⟩⟩
  simp[results,Tryz.results109,go_sem,hc]
structure SB (t:Nat) (mp:VS) (root err:Int) (tb kb:Nat) (key:ByteArray) (W:World):Prop where
 tr:cu W t mp root err
 bx:W.heap[tb]? =some (.cells #[.pointer (some ⟨t,0,none⟩)] 106 (0,0))
 ky:pX W kb key
theorem SB.cells {t:Nat} {mp:VS} {root err:Int} {tb kb:Nat} {key:ByteArray} {W:World} (h:SB t mp root err tb kb key W):
  W.cell? ⟨tb,0,none⟩=some (.pointer (some ⟨t,0,none⟩))∧tb<W.heap.size∧W.cell? ⟨t,1,none⟩=some (.int .i64 root)∧t<W.heap.size∧W.cell? ⟨kb,0,none⟩=some (.string key)∧kb<W.heap.size∧W.frozen? ⟨t,1,none⟩=false:=by
 obtain⟨_,c1,_,_,f1,_,hlt⟩:=cells3 h.tr
 exact⟨by simp[World.cell?,h.bx],(ah.1 h.bx).1,c1,hlt,(lX h.ky).1,(lX h.ky).2,f1⟩
theorem OU (t:Nat) (mp:VS) (tb kb vb:Nat) (root err:Int) (key:ByteArray) (w:World) (R:Int→World→Prop) (R2:World→Prop) (hS:SB t mp root err tb kb key w)
  (hE:Calls Tryz.prog 112 #[.pointer (some ⟨t,0,none⟩),.int .i64 root,.int .i64 0,.string key,.string ⟨#[]⟩,.func (.func 113) #[] #[.pointer (some ⟨kb,0,none⟩),.pointer (some ⟨vb,0,none⟩)]] w.drew fun e w1=>(∃v,e= .returned v∧SB t mp root err tb kb key w1∧
   Calls Tryz.prog 111 #[.pointer (some ⟨t,0,none⟩),v] w1 fun e2 w2=>(∃b,e2= .returned (.int .i64 b)∧SB t mp root err tb kb key w2∧R b w2)∨(e2= .panicked (brk 12)∧SB t mp root err tb kb key w2∧R2 w2))∨(e= .panicked (brk 12)∧SB t mp root err tb kb key w1∧R2 w1)):
  Calls Tryz.prog 110 #[.pointer (some ⟨tb,0,none⟩),.pointer (some ⟨kb,0,none⟩),.pointer (some ⟨vb,0,none⟩)] w fun e w'=>(e= .returned (.tuple #[])∧∃b w2,R b w2∧SB t mp root err tb kb key w2∧w'=w2.setCell ⟨t,1,none⟩ (.int .i64 b))∨(e= .panicked (brk 12)∧SB t mp root err tb kb key w'∧R2 w'):=by
 have HE:=af hE;clear hE
 go_enter Tryz.func110,Tryz.ntmps110
 go_wp2_with fail
 have hmf:∀(fn:Fn) (first cap:Array Value) (w:World),(Instr.makeFunc fn first cap).run Tryz.prog w= .ok (.func fn first cap) w:=fun _ _ _ _=>rfl
 refine aP (fun W=>SB t mp root err tb kb key W) (fun i=> !([9,10,13].contains i)) [0,1,2,3,4,5,6,7,8,9,10,11,12,13] rfl (by kernel_rfl) ⟨hS.tr,hS.bx,hS.ky⟩ ?_
 repeat ((refine bO (v:= ?_) rfl rfl (fun _ _ _ h=>h) rfl (fun W hW=> ?_) ?_);rotate_left;(focus ((try dsimp only at hW);obtain⟨q0,q1,q2,q3,q4,q5,q6⟩:=hW.cells;first|(go_simp;first|done|with_reducible rfl)));(try simp only[Act.put,aj,au,ak]))
 refine dw rfl rfl rfl ?_;intro K hK;go_simp
 refine HE.out.mono ?_;rintro e w1 (⟨v,rfl,hS1,hG⟩|⟨rfl,hS1,hR2⟩)
 rotate_left
 ·exact⟨rfl,.inr ⟨rfl,hS1,hR2⟩⟩
 refine hK.out _ _ hS1 ?_
 refine dw rfl rfl rfl ?_;intro K hK;go_simp
 refine hG.mono ?_;rintro e w2 (⟨b,rfl,hS2,hR⟩|⟨rfl,hS1,hR2⟩)
 rotate_left
 ·exact⟨rfl,.inr ⟨rfl,hS1,hR2⟩⟩
 refine hK.out _ _ hS2 ?_
 repeat ((refine bO (v:= ?_) rfl rfl (fun _ _ _ h=>h) rfl (fun W hW=> ?_) ?_);rotate_left;(focus ((try dsimp only at hW);obtain⟨q0,q1,q2,q3,q4,q5,q6⟩:=hW.cells;first|(go_simp;first|done|with_reducible rfl)));(try simp only[Act.put,aj,au,ak]))
 obtain⟨_,_,x2,x3,_,_,x6⟩:=hS2.cells
 refine ja rfl rfl rfl (by kernel_rfl) ?_;intro K hK;go_simp
 refine hK.out _ _ ?_
 refine bR ?_
 go_wp2_with fail
 go_end0
 exact .inl ⟨rfl,b,w2,hR,hS2,rfl⟩
theorem IQ (t:Nat) (mp:VS) (tb kb:Nat) (root err:Int) (key:ByteArray) (w:World) (R:Int→World→Prop) (R2:World→Prop) (hS:SB t mp root err tb kb key w)
  (hE:Calls Tryz.prog 112 #[.pointer (some ⟨t,0,none⟩),.int .i64 root,.int .i64 0,.string key,.string ⟨#[]⟩,.func (.func 120) #[] #[.pointer (some ⟨kb,0,none⟩)]] w.drew fun e w1=>(∃v,e= .returned v∧SB t mp root err tb kb key w1∧
   Calls Tryz.prog 111 #[.pointer (some ⟨t,0,none⟩),v] w1 fun e2 w2=>(∃b,e2= .returned (.int .i64 b)∧SB t mp root err tb kb key w2∧R b w2)∨(e2= .panicked (brk 12)∧SB t mp root err tb kb key w2∧R2 w2))∨(e= .panicked (brk 12)∧SB t mp root err tb kb key w1∧R2 w1)):
  Calls Tryz.prog 119 #[.pointer (some ⟨tb,0,none⟩),.pointer (some ⟨kb,0,none⟩)] w fun e w'=>(e= .returned (.tuple #[])∧∃b w2,R b w2∧SB t mp root err tb kb key w2∧w'=w2.setCell ⟨t,1,none⟩ (.int .i64 b))∨(e= .panicked (brk 12)∧SB t mp root err tb kb key w'∧R2 w'):=by
 have HE:=af hE;clear hE
 go_enter Tryz.func119,Tryz.ntmps119
 go_wp2_with fail
 have hmf:∀(fn:Fn) (first cap:Array Value) (w:World),(Instr.makeFunc fn first cap).run Tryz.prog w= .ok (.func fn first cap) w:=fun _ _ _ _=>rfl
 refine aP (fun W=>SB t mp root err tb kb key W) (fun i=> !([9,10,13].contains i)) [0,1,2,3,4,5,6,7,8,9,10,11,12,13] rfl (by kernel_rfl) ⟨hS.tr,hS.bx,hS.ky⟩ ?_
 repeat ((refine bO (v:= ?_) rfl rfl (fun _ _ _ h=>h) rfl (fun W hW=> ?_) ?_);rotate_left;(focus ((try dsimp only at hW);obtain⟨q0,q1,q2,q3,q4,q5,q6⟩:=hW.cells;first|(go_simp;first|done|with_reducible rfl)));(try simp only[Act.put,aj,au,ak]))
 refine dw rfl rfl rfl ?_;intro K hK;go_simp
 refine HE.out.mono ?_;rintro e w1 (⟨v,rfl,hS1,hG⟩|⟨rfl,hS1,hR2⟩)
 rotate_left
 ·exact⟨rfl,.inr ⟨rfl,hS1,hR2⟩⟩
 refine hK.out _ _ hS1 ?_
 refine dw rfl rfl rfl ?_;intro K hK;go_simp
 refine hG.mono ?_;rintro e w2 (⟨b,rfl,hS2,hR⟩|⟨rfl,hS1,hR2⟩)
 rotate_left
 ·exact⟨rfl,.inr ⟨rfl,hS1,hR2⟩⟩
 refine hK.out _ _ hS2 ?_
 repeat ((refine bO (v:= ?_) rfl rfl (fun _ _ _ h=>h) rfl (fun W hW=> ?_) ?_);rotate_left;(focus ((try dsimp only at hW);obtain⟨q0,q1,q2,q3,q4,q5,q6⟩:=hW.cells;first|(go_simp;first|done|with_reducible rfl)));(try simp only[Act.put,aj,au,ak]))
 obtain⟨_,_,x2,x3,_,_,x6⟩:=hS2.cells
 refine ja rfl rfl rfl (by kernel_rfl) ?_;intro K hK;go_simp
 refine hK.out _ _ ?_
 refine bR ?_
 go_wp2_with fail
 go_end0
 exact .inl ⟨rfl,b,w2,hR,hS2,rfl⟩
theorem o9 (t:Nat) (mp:VS) (root err:Int) (w:World) (h:cu w t mp root err):
  Calls Tryz.prog 107 #[.pointer (some ⟨t,0,none⟩)] w fun e w'=>e= .returned (.int .i64 err)∧w'=w:=by
 obtain⟨_,_,c2,_,_,_,hlt⟩:=cells3 h
 go_enter Tryz.func107,Tryz.ntmps107
 go_wp2
 go_ret
 exact⟨rfl,rfl⟩
theorem yM (k:ByteArray) (w:World) (h1:1≤k.size) (h2:k.size≤128):
  Calls Tryz.prog 108 #[.string k] w fun e w'=>e= .returned (.bool true)∧w'=w:=by
 have x1:(1:Int)≤(k.size:Int):=by omega
 have x2:(k.size:Int)≤128:=by omega
 go_enter Tryz.func108,Tryz.ntmps108
 go_wp2
 go_ret
 exact⟨by simp[*],rfl⟩
theorem Qv (t:Nat) (mp:VS) (root:Int) (key value:ByteArray) (w:World) (R:World→Int→World→Prop) (R2:World→World→Prop) (ht:cu w t mp root 0) (hk1:1≤key.size) (hk2:key.size≤128) (hv:value.size≤64)
  (hE:∀(W:World) (tb kb vb:Nat),Below w.heap.size w W→w.heap.size≤tb→w.heap.size≤kb→w.heap.size≤vb→SB t mp root 0 tb kb key W→pX W vb value→
   Calls Tryz.prog 112 #[.pointer (some ⟨t,0,none⟩),.int .i64 root,.int .i64 0,.string key,.string ⟨#[]⟩,.func (.func 113) #[] #[.pointer (some ⟨kb,0,none⟩),.pointer (some ⟨vb,0,none⟩)]] W fun e w1=>(∃v,e= .returned v∧SB t mp root 0 tb kb key w1∧
    Calls Tryz.prog 111 #[.pointer (some ⟨t,0,none⟩),v] w1 fun e2 w2=>(∃b,e2= .returned (.int .i64 b)∧SB t mp root 0 tb kb key w2∧(∀g,w.heap.size≤g→g<W.heap.size→w2.heap[g]? =W.heap[g]?)∧W.heap.size≤w2.heap.size∧R W b w2)∨(e2= .panicked (brk 12)∧SB t mp root 0 tb kb key w2∧(∀g,w.heap.size≤g→g<W.heap.size→w2.heap[g]? =W.heap[g]?)∧W.heap.size≤w2.heap.size∧R2 W w2))∨(e= .panicked (brk 12)∧SB t mp root 0 tb kb key w1∧(∀g,w.heap.size≤g→g<W.heap.size→w1.heap[g]? =W.heap[g]?)∧W.heap.size≤w1.heap.size∧R2 W w1)):
  Calls Tryz.prog 66 #[.pointer (some ⟨t,0,none⟩),.string key,.string value] w fun e w'=>(e= .returned (.int .i64 0)∧
   ∃W b w2 rb,Below w.heap.size w W∧R W b w2∧w.heap.size≤rb∧rb<W.heap.size∧W.heap.size≤w2.heap.size∧Keep (fun g=>g=rb∨g=t) w2 w'∧cu w' t mp b 0)∨(e= .returned (.int .i64 12)∧
   ∃W w2 rb,Below w.heap.size w W∧R2 W w2∧w.heap.size≤rb∧rb<W.heap.size∧W.heap.size≤w2.heap.size∧Keep (fun g=>g=rb∨g=t) w2 w'∧cu w' t mp root 12):=by
 have HE:=af hE;clear hE
 have x2:¬((64:Int)<(value.size:Int)):=by omega
 have hmf:∀(fn:Fn) (first cap:Array Value) (w:World),(Instr.makeFunc fn first cap).run Tryz.prog w= .ok (.func fn first cap) w:=fun _ _ _ _=>rfl
 have hb3:=Gq w (.cells #[.pointer (some ⟨t,0,none⟩)] 106) (.cells #[.string key] 9) (.cells #[.string value] 9)
 have htl:t<w.heap.size:=(ah.1 ht).1
 have ht3:=(hb3.block t htl).trans ht
 have hcb:∀W3,W3=(((w.alloc (.cells #[.pointer (some ⟨t,0,none⟩)] 106)).alloc (.cells #[.string key] 9)).alloc (.cells #[.string value] 9))→
   Calls Tryz.prog 109 #[.pointer (some ⟨t,0,none⟩),.func (.func 110) #[] #[.pointer (some ⟨w.heap.size,0,none⟩),.pointer (some ⟨w.heap.size+1,0,none⟩),.pointer (some ⟨w.heap.size+1+1,0,none⟩)]] W3 fun e w'=>(e= .returned (.int .i64 0)∧
   ∃W b w2 rb,Below w.heap.size w W∧R W b w2∧w.heap.size≤rb∧rb<W.heap.size∧W.heap.size≤w2.heap.size∧Keep (fun g=>g=rb∨g=t) w2 w'∧cu w' t mp b 0)∨(e= .returned (.int .i64 12)∧
   ∃W w2 rb,Below w.heap.size w W∧R2 W w2∧w.heap.size≤rb∧rb<W.heap.size∧W.heap.size≤w2.heap.size∧Keep (fun g=>g=rb∨g=t) w2 w'∧cu w' t mp root 12):=by
  intro W3 hW3
  have hbW3:Below w.heap.size w W3:=by rw[hW3];exact hb3
  have hs3:W3.heap.size=w.heap.size+3:=by rw[hW3];simp
  have b0:W3.heap[w.heap.size]? =some (.cells #[.pointer (some ⟨t,0,none⟩)] 106 (0,0)):=by
   rw[hW3];exact((fI (w.alloc _) _ _).block _ (by simp)).trans (aM w _)
  have b1:W3.heap[w.heap.size+1]? =some (.cells #[.string key] 9 (0,0)):=by
   rw[hW3];exact((aI ((w.alloc _).alloc _) _).block _ (by simp)).trans (by have:=aM (w.alloc (.cells #[.pointer (some ⟨t,0,none⟩)] 106)) (.cells #[.string key] 9);rwa [aT] at this)
  have b2:W3.heap[w.heap.size+1+1]? =some (.cells #[.string value] 9 (0,0)):=by
   rw[hW3];have:=aM ((w.alloc (.cells #[.pointer (some ⟨t,0,none⟩)] 106)).alloc (.cells #[.string key] 9)) (.cells #[.string value] 9);rwa [aT,aT] at this
  clear hW3
  have hbV:=fI W3 (.cells #[.pointer (some ⟨t,0,none⟩)] 106) (.cells #[.int .i64 0] 38)
  have hsV:((W3.alloc (.cells #[.pointer (some ⟨t,0,none⟩)] 106)).alloc (.cells #[.int .i64 0] 38)).heap.size=w.heap.size+5:=by simp[hs3]
  have hbwV:=hbW3.trans (hbV.mono (by omega))
  have c0:=(hbV.block _ (by omega)).trans b0
  have c1:=(hbV.block _ (by omega)).trans b1
  have c2:=(hbV.block _ (by omega)).trans b2
  have ctr:cu ((W3.alloc (.cells #[.pointer (some ⟨t,0,none⟩)] 106)).alloc (.cells #[.int .i64 0] 38)) t mp root 0:=(hbwV.block t htl).trans ht
  have crb:((W3.alloc (.cells #[.pointer (some ⟨t,0,none⟩)] 106)).alloc (.cells #[.int .i64 0] 38)).heap[W3.heap.size+1]? =some (.cells #[.int .i64 0] 38 (0,0)):=by
   have:=aM (W3.alloc (.cells #[.pointer (some ⟨t,0,none⟩)] 106)) (.cells #[.int .i64 0] 38);rwa [aT] at this
  have hch:=Bb t mp root 0 110 #[.pointer (some ⟨w.heap.size,0,none⟩),.pointer (some ⟨w.heap.size+1,0,none⟩),.pointer (some ⟨w.heap.size+1+1,0,none⟩)] W3
   (fun w'=>∃W b w2,Below w.heap.size w W∧R W b w2∧W3.heap.size+1<W.heap.size∧W.heap.size≤w2.heap.size∧SB t mp root 0 w.heap.size (w.heap.size+1) key w2∧w'=w2.setCell ⟨t,1,none⟩ (.int .i64 b))
   (fun w'=>∃W,Below w.heap.size w W∧R2 W w'∧W3.heap.size+1<W.heap.size∧W.heap.size≤w'.heap.size) (by omega) (fun _ _=>by kernel_rfl)
  have ctp:((W3.alloc (.cells #[.pointer (some ⟨t,0,none⟩)] 106)).alloc (.cells #[.int .i64 0] 38)).heap[W3.heap.size]? =some (.cells #[.pointer (some ⟨t,0,none⟩)] 106 (0,0)):=
   ((aI (W3.alloc _) _).block _ (by simp)).trans (aM W3 _)
  generalize (W3.alloc (.cells #[.pointer (some ⟨t,0,none⟩)] 106)).alloc (.cells #[.int .i64 0] 38)=V at*
  have hp1:=OU t mp w.heap.size (w.heap.size+1) (w.heap.size+1+1) root 0 key V (fun b w2=>(∀g,w.heap.size≤g→g<V.drew.heap.size→w2.heap[g]? =V.drew.heap[g]?)∧V.drew.heap.size≤w2.heap.size∧R V.drew b w2) (fun w2=>(∀g,w.heap.size≤g→g<V.drew.heap.size→w2.heap[g]? =V.drew.heap[g]?)∧V.drew.heap.size≤w2.heap.size∧R2 V.drew w2) ⟨ctr,c0,c1⟩ ((HE.out V.drew w.heap.size (w.heap.size+1) (w.heap.size+1+1) hbwV.drew (aG _) (by omega) (by omega) ⟨ctr,c0,c1⟩ c2).mono fun e w1 hh=>hh.imp (fun ⟨v,h1,h2,h3⟩=>⟨v,h1,h2,h3.mono fun e2 w2 kk=>kk.imp (fun ⟨b,k1,k2,k3,k4,k5⟩=>⟨b,k1,k2,k3,k4,k5⟩) (fun ⟨k1,k2,k3,k4,k5⟩=>⟨k1,k2,k3,k4,k5⟩)⟩) (fun ⟨k1,k2,k3,k4,k5⟩=>⟨k1,k2,k3,k4,k5⟩))
  refine(hch (hp1.mono ?_)).mono ?_
  ·rintro e w' (⟨rfl,b,w2,⟨k3,k4,k5⟩,hS2,rfl⟩|⟨rfl,hS2,k3,k4,k5⟩)
   ·refine .inl ⟨rfl,⟨V.drew,b,w2,hbwV.drew,k5,(by show _<V.heap.size;omega),k4,hS2,rfl⟩,?_⟩
    rw[GH _ _ _ _ (by simp;omega)]
    exact(k3 _ (by omega) (by show _<V.heap.size;omega)).trans crb
   ·refine .inr ⟨rfl,⟨V.drew,hbwV.drew,k5,(by show _<V.heap.size;omega),k4⟩,(k3 _ (by omega) (by show _<V.heap.size;omega)).trans crb,(k3 _ (by omega) (by show _<V.heap.size;omega)).trans ctp,hS2.tr⟩
  ·rintro e w' (⟨rfl,w1,⟨W,b,w2,q1,q2,q3,q4,q5,rfl⟩,hk⟩|⟨rfl,w1,⟨W,q1,q2,q3,q4⟩,hk,hT⟩)
   ·have hk5:Keep (· =t) w2 (w2.setCell ⟨t,1,none⟩ (.int .i64 b)):=Keep.setCell (M:=(· =t)) (p:=⟨t,1,none⟩) (Keep.refl _ _) (.inr rfl) _
    refine .inl ⟨rfl,W,b,w2,W3.heap.size+1,q1,q2,by omega,q3,q4,(hk5.mono (fun _ _ h=> .inr h)).trans hk (fun _ _ h=> .inl h),?_⟩
    have h5:(w2.setCell ⟨t,1,none⟩ (.int .i64 b)).heap[t]? =some (.cells #[.iface 105 mp.agg,.int .i64 b,.int .i64 0] 170 (0,0)):=by
     have:=q5.tr;unfold cu at this
     simp[World.setCell,aW,this]
    exact(hk.block t (ah.1 h5).1 (by omega)).trans h5
   ·exact .inr ⟨rfl,W,w1,W3.heap.size+1,q1,q2,by omega,q3,q4,hk.mono (fun _ _ h=>h.symm),hT⟩
 have hC:=af (hcb _ rfl);clear hcb
 go_enter Tryz.func66,Tryz.ntmps66
 go_wp2_with (first
  |(go_at_call 107;go_must ((refine(o9 t mp root 0 _ ht3).mono ?_);rintro e w1 ⟨rfl,hw⟩;subst w1))
  |(go_at_call 108;go_must ((refine(yM key _ hk1 hk2).mono ?_);rintro e w1 ⟨rfl,hw⟩;subst w1))
  |(go_at_call 109;go_must (refine hC.out.mono ?_;rintro e w1 (⟨rfl,hres⟩|⟨rfl,hres⟩)<;>refine Stop.of ?_)))
 ·refine Stop.on ?_
  go_wp2_with fail
  go_ret
  exact .inl ⟨rfl,hres⟩
 ·refine Stop.on ?_
  go_wp2_with fail
  go_ret
  exact .inr ⟨rfl,hres⟩
def d9 (ps:List Pr) (key:ByteArray):Option ByteArray:=if mE ps key then(ps[dB ps key]?).map (·.2) else none
inductive Look (σ:cK) (key:ByteArray):Nat→Int→Option ByteArray→Prop
 |nil {n}:Look σ key n 0 none
 |leaf {n b nd}:zy σ b nd→nd.kids=[]→fT nd.pairs→Look σ key n b (d9 nd.pairs key)
 |inner {n b nd r} (h:gU nd.keys key<nd.kids.length):zy σ b nd→tX nd.keys→Look σ key n nd.kids[gU nd.keys key] r→Look σ key (n+1) b r
theorem DU (t:Nat) (mp:VS) (root:Int) (σ:cK) (S:Nat→Prop) (key:ByteArray) (r:Option ByteArray) (w:World) (h:Inv σ S mp w) (ht:cu w t mp root 0) (hk1:1≤key.size) (hk2:key.size≤128) (n:Nat) (hn:n≤40) (hl:Look σ key n root r):
  Calls Tryz.prog 100 #[.pointer (some ⟨t,0,none⟩),.string key] w fun e w'=>e= .returned (.tuple #[.string (r.getD ⟨#[]⟩),.bool r.isSome,.int .i64 0])∧Below w.heap.size w w':=by
 obtain⟨_,c1,_,_,_,_,hlt⟩:=cells3 ht
 have HL:=af hl;clear hl
 go_enter Tryz.func100,Tryz.ntmps100
 go_wp2_with (first
  |(go_at_call 107;go_must ((refine(o9 t mp root 0 _ ht).mono ?_);rintro e w1 ⟨rfl,hw⟩;subst w1))
  |(go_at_call 108;go_must ((refine(yM key _ hk1 hk2).mono ?_);rintro e w1 ⟨rfl,hw⟩;subst w1)))
 go_loopw [8,9,10,11,12,13] (fun x y _ _ _ _ wr=>∃(b:Int) (d m:Nat),x= .int .i64 b∧y= .int .i64 d∧Look σ key m b r∧d+m≤40∧Below w.heap.size w wr) (fun _ y _ _ _ _ _=>41 - (intOf y).toNat)
 case atStart=>exact⟨root,0,n,rfl,rfl,HL.out,by omega,aQ _ _⟩
 case round=>
  obtain⟨b,d,m,rfl,rfl,hl,hdm,hbel⟩:=hrel
  have hIr:=h.below hbel
  have htr:cu wr t mp root 0:=(hbel.block t hlt).trans ht
  cases hl with
  |nil=>
   go_wp2_with fail
   go_ret3
   exact⟨rfl,hbel⟩
  |@leaf _ _ nd hb hk hr=>
   have hb0:(b==0)=false:=by have:=hb.lo;simp;omega
   have hb00:¬b=0:=by have:=hb.lo;omega
   have hke:nd.kids.isEmpty=true:=by rw[hk];rfl
   have hnp:=hb.fits.np
   have hd40:(d:Int)≤40:=by omega
   cases hat:mE nd.pairs key with
   |false=>
    have hlk:d9 nd.pairs key=none:=by unfold d9;rw[hat];rfl
    have HLK:=af hlk;clear hlk
    go_wp2_with (first
     |(go_at_call 143;go_must ((refine(mD t mp root 0 b d σ S nd _ hIr htr hb hd40).mono ?_);rintro e w1 ⟨nb,rfl,hn1,hb1⟩))
     |(go_at_call 144;go_must ((refine(jd nb nd _ S hn1.iU).mono ?_);rintro e w2 ⟨rfl,hw⟩;subst w2;rw[hke]))
     |(go_at_call 114;go_must ((refine(pI nb nd key _ S hn1.iU hr (by omega)).mono ?_);rw[hat];rintro e w3 ⟨rfl,hb3⟩)))
    go_ret3
    rw[HLK.out]
    exact⟨rfl,hbel.trans ((hb1.mono hbel.size).trans (hb3.mono (aH hbel.size hb1.size)))⟩
   |true=>
    obtain⟨hp,hkey⟩:=nM hat
    have hlk:d9 nd.pairs key=some nd.pairs[dB nd.pairs key].2:=by unfold d9;rw[hat,if_pos rfl,aZ hp];rfl
    have HLK:=af hlk;clear hlk
    generalize hP:dB nd.pairs key=P at hp hkey HLK
    have HP:=af hP;clear hP
    go_wp2_with (first
     |(go_at_call 143;go_must ((refine(mD t mp root 0 b d σ S nd _ hIr htr hb hd40).mono ?_);rintro e w1 ⟨nb,rfl,hn1,hb1⟩))
     |(go_at_call 144;go_must ((refine(jd nb nd _ S hn1.iU).mono ?_);rintro e w2 ⟨rfl,hw⟩;subst w2;rw[hke]))
     |(go_at_call 114;go_must ((refine(pI nb nd key _ S hn1.iU hr (by omega)).mono ?_);rw[hat,HP.out];rintro e w3 ⟨rfl,hb3⟩;refine Stop.of ?_)))
    refine Stop.on ?_
    obtain⟨_,x0,x1,x2,hbn,hx0,_,_⟩:=hn1.iU.below hb3
    obtain⟨e0,_,_,_,_,_,hlt3⟩:=cells3 hbn
    obtain⟨ao0,cp0,rfl,m0,m1,_,_⟩:=bE.form hx0
    obtain⟨pb,po,rfl,d1,d2⟩:=hx0.at rfl P hp
    have hpb:=aF w3 _ d2
    go_wp2_with fail
    go_ret3
    rw[HLK.out]
    exact⟨rfl,hbel.trans ((hb1.mono hbel.size).trans (hb3.mono (aH hbel.size hb1.size)))⟩
  |@inner m _ nd _ hki hb hrs hl2=>
   have hb0:(b==0)=false:=by have:=hb.lo;simp;omega
   have hb00:¬b=0:=by have:=hb.lo;omega
   have hke:nd.kids.isEmpty=false:=by cases hq:nd.kids with|nil=>rw[hq] at hki;simp at hki|cons a b=>rfl
   have hnk:=hb.fits.nk
   have hkk:=hb.fits.kk
   have hd40:(d:Int)≤40:=by omega
   have HL2:=af hl2;clear hl2
   generalize hP:gU nd.keys key=P at hki HL2
   have HP:=af hP;clear hP
   have hpw:IntKind.i64.wrap ((d:Int)+1)=(d:Int)+1:=aR _ (by omega)
   have HKK:=af hkk;clear hkk
   go_wp2_with (first
    |(go_at_call 143;go_must ((refine(mD t mp root 0 b d σ S nd _ hIr htr hb hd40).mono ?_);rintro e w1 ⟨nb,rfl,hn1,hb1⟩))
    |(go_at_call 144;go_must ((refine(jd nb nd _ S hn1.iU).mono ?_);rintro e w2 ⟨rfl,hw⟩;subst w2;rw[hke])))
   have hN1:=hn1.iU
   obtain⟨_,x0,x1,x2,hbn,_,_,hx2⟩:=hN1
   obtain⟨_,_,e2,_,_,_,hlt3⟩:=cells3 hbn
   obtain⟨ao2,cp2,rfl,m0,m1,_,_⟩:=bE.form hx2
   obtain⟨pb,po,rfl,d2⟩:=hx2.at rfl P hki
   have hpb:=aF w1 _ d2
   have hPi:(P:Int)<(nd.kids.length:Int):=by omega
   have hKid:=(DR nb nd key w1.drew S (hn1.iU.below ((aQ _ w1).drew)) hrs (by rw[HKK.out];omega))
   rw[HP.out] at hKid
   have HKid:=af hKid;clear hKid
   refine aP (fun W=>Below w1.heap.size w1 W) (fun i=> !([6].contains i)) [0,1,2,3,4,5,6,7,8,9] rfl (by kernel_rfl) ((aQ _ w1).drew) ?_
   repeat ((refine bO (v:= ?_) rfl rfl (fun _ _ _ h=>h) rfl (fun W hW=> ?_) ?_);rotate_left;(focus ((try dsimp only at hW);have q0:=(hW.cell (p:=⟨nb,2,none⟩) hlt3).trans e2;have q1:=ax hlt3 hW.size;have q2:=(hW.cell (p:=⟨pb,po+P,none⟩) hpb).trans d2;have q3:=ax hpb hW.size;first|(go_simp;first|done|with_reducible rfl)));(try simp only[Act.put,aj,au,ak]))
   refine dw rfl rfl rfl ?_;intro K hK;go_simp
   refine HKid.out.mono ?_;rintro e w4 ⟨rfl,hb4⟩
   have hb4':Below w1.heap.size w1 w4:=((aQ _ w1).drew).trans hb4
   refine hK.out _ _ hb4' ?_
   repeat ((refine bO (v:= ?_) rfl rfl (fun _ _ _ h=>h) rfl (fun W hW=> ?_) ?_);rotate_left;(focus ((try dsimp only at hW);have q0:=(hW.cell (p:=⟨nb,2,none⟩) hlt3).trans e2;have q1:=ax hlt3 hW.size;have q2:=(hW.cell (p:=⟨pb,po+P,none⟩) hpb).trans d2;have q3:=ax hpb hW.size;first|(go_simp;first|done|with_reducible rfl)));(try simp only[Act.put,aj,au,ak]))
   refine bR ?_
   go_wp2_with fail
   go_roundw
   case rel=>exact⟨nd.kids[P],d+1,m,rfl,by go_num,HL2.out,by omega,hbel.trans ((hb1.mono hbel.size).trans (hb4'.mono (aH hbel.size hb1.size)))⟩
   case measure=>simp[intOf];omega
structure Acc (w:World) (S:Nat→Prop) (B ob mb:Nat) (v:Value) (O:List Pr) (most:Int):Prop where
 out:w.heap[ob]? =some (.cells #[v] 126 (0,0))
 own:aS w S B 130 2 v O.length (dH O)
 mst:w.heap[mb]? =some (.cells #[.int .i64 most] 3 (0,0))
 nob:¬S ob
 nmb:¬S mb
def mU (ob:Nat) (v v':Value) (w w':World):Prop:=Keep (fun g=>g=ob∨v.ownBlock=some g) w w'∧∀g,v'.ownBlock=some g→v.ownBlock=some g∨w.heap.size≤g
theorem mU.refl (ob:Nat) (v:Value) (w:World):mU ob v v w w:=⟨Keep.refl _ _,fun _ h=> .inl h⟩
theorem mU.trans {ob:Nat} {v v' v'':Value} {a b c:World} (h:mU ob v v' a b) (k:mU ob v' v'' b c):mU ob v v'' a c:=
 ⟨h.1.trans k.1 (fun i hi x=>x.elim .inl (fun y=>(h.2 i y).elim .inr (fun z=>absurd hi (bF.2 z)))),
  fun g hg=>(k.2 g hg).elim (fun x=>h.2 g x) (fun x=> .inr (aH h.1.size x))⟩
theorem mU.below {ob:Nat} {v:Value} {w w':World} (h:Below w.heap.size w w'):mU ob v v w w':=⟨Keep.of_below h _,fun _ h=> .inl h⟩
theorem Acc.below {w w':World} {S:Nat→Prop} {B ob mb:Nat} {v:Value} {O:List Pr} {most:Int} (h:Acc w S B ob mb v O most) (hb:Below w.heap.size w w'):Acc w' S B ob mb v O most:=
 ⟨(hb.block _ (ah.1 h.out).1).trans h.out,h.own.below hb,(hb.block _ (ah.1 h.mst).1).trans h.mst,h.nob,h.nmb⟩
theorem J4 (B ob mb:Nat) (v:Value) (O:List Pr) (most:Int) (p:Pr) (S:Nat→Prop) (w:World) (hsub:∀g,S g→g<w.heap.size) (h:Acc w S B ob mb v O most) (hB:B≤w.heap.size) (hl:O.length≤999999):
  Calls Tryz.prog 161 #[.agg #[.string p.1,.string p.2],.pointer (some ⟨ob,0,none⟩),.pointer (some ⟨mb,0,none⟩)] w fun e w'=>e= .returned (.bool (decide (((O.length+1:Nat):Int)<most)))∧∃v',Acc w' S B ob mb v' (O++[p]) most∧mU ob v v' w w':=by
 have hbw:=fI w (.cells #[.string p.1,.string p.2] 130) (.cells #[.string p.1,.string p.2] 130)
 obtain⟨o1,o2,o3,o4,o5⟩:=h
 have hol:=(ah.1 o1).1
 have hml:=(ah.1 o3).1
 have c0:w.cell? ⟨ob,0,none⟩=some v:=by simp[World.cell?,o1]
 have c1:w.cell? ⟨mb,0,none⟩=some (.int .i64 most):=by simp[World.cell?,o3]
 have f0:w.frozen? ⟨ob,0,none⟩=false:=by simp[World.frozen?,o1]
 obtain⟨ao0,cp0,rfl,n0,m0,_,_⟩:=o2.dD.form
 go_enter Tryz.func161,Tryz.ntmps161
 have hsrc:=gM (P:=Tryz.prog) (w:=w.alloc (.cells #[.string p.1,.string p.2] 130)) [.string p.1,.string p.2] 130 2 1 1 (tx:=126) (aT _ _) Tryz.underlying126 rfl (by intro u hu;simp at hu;rcases hu with rfl|rfl<;>rfl)
 have hsub2:∀g,S g→g<((w.alloc (.cells #[.string p.1,.string p.2] 130)).alloc (.cells #[.string p.1,.string p.2] 130)).heap.size:=fun g hg=>ax (hsub g hg) hbw.size
 have hOl:O.length≤999999:=hl
 go_wp2_with (first
  |(at_builtin;go_must ((refine dK rfl (.tmp 5) (.tmp 7) 126 126 rfl S B 130 2 32 _ Tryz.underlying126 jO rfl (.slice ao0 O.length cp0) O.length (dH O) rfl (o2.below hbw) (.slice (some ⟨w.heap.size+1,0,none⟩) 1 1) 1 [.string p.1,.string p.2] rfl hsrc hsub2 (aH hB hbw.size) ?_ ?_ ?_);(focus (simp only[maxLen];omega));(focus omega);intro ao1 cp1 w3 hown3 hk3 hb3 hd3;refine Stop.of ?_)))
 have hno:(Value.slice ao0 O.length cp0).ownBlock≠some ob:=o2.ne o1 (by decide)
 have hnm:(Value.slice ao0 O.length cp0).ownBlock≠some mb:=o2.ne o3 (by decide)
 have o1':=(hk3.block ob (ax hol hbw.size) hno).trans ((hbw.block ob hol).trans o1)
 have o3':=(hk3.block mb (ax hml hbw.size) hnm).trans ((hbw.block mb hml).trans o3)
 have hobm:ob≠mb:=fun e=>by rw[e] at o1;rw[o1] at o3;cases o3
 have d0:w3.cell? ⟨ob,0,none⟩=some (.slice ao0 O.length cp0):=by simp[World.cell?,o1']
 have d1:w3.cell? ⟨mb,0,none⟩=some (.int .i64 most):=by simp[World.cell?,o3']
 have d2:w3.frozen? ⟨ob,0,none⟩=false:=by simp[World.frozen?,o1']
 have hol3:=(ah.1 o1').1
 have hml3:=(ah.1 o3').1
 have hk4:Keep (· =ob) w3 (w3.setCell ⟨ob,0,none⟩ (.slice ao1 (O.length+1) cp1)):=Keep.setCell (M:=(· =ob)) (p:=⟨ob,0,none⟩) (Keep.refl _ _) (.inr rfl) _
 have o14:(w3.setCell ⟨ob,0,none⟩ (.slice ao1 (O.length+1) cp1)).heap[ob]? =some (.cells #[.slice ao1 (O.length+1) cp1] 126 (0,0)):=by simp[World.setCell,aW,o1']
 have o34:=(hk4.block mb hml3 (fun e=>hobm e.symm)).trans o3'
 have e0:(w3.setCell ⟨ob,0,none⟩ (.slice ao1 (O.length+1) cp1)).cell? ⟨ob,0,none⟩=some (.slice ao1 (O.length+1) cp1):=by simp[World.cell?,o14]
 have e1:(w3.setCell ⟨ob,0,none⟩ (.slice ao1 (O.length+1) cp1)).cell? ⟨mb,0,none⟩=some (.int .i64 most):=by simp[World.cell?,o34]
 have hown4:=hown3.keep (w':=w3.setCell ⟨ob,0,none⟩ (.slice ao1 (O.length+1) cp1)) (S':=S) (fun g hg hl hs=>⟨hk4.block g hl (fun e=>hown3.ne o1' (by decide) (by rw[hg,e])),hs⟩)
 refine Stop.on ?_
 go_wp2_with fail
 go_ret
 refine⟨by simp,.slice ao1 (O.length+1) cp1,⟨o14,?_,o34,o4,o5⟩,⟨?_,fun g hg=> ?_⟩⟩
 ·rw[aC,lQ];exact hown4
 ·exact((Keep.of_below hbw _).trans (hk3.mono (fun _ _ h=> .inr h)) (fun _ _ h=>h)).trans hk4 (fun _ _ h=> .inl h)
 ·by_cases hgl:g<w.heap.size
  ·by_cases hv:(Value.slice ao0 O.length cp0).ownBlock=some g
   ·exact .inl hv
   ·exact absurd hg (hd3 g (ax hgl hbw.size) hv)
  ·exact .inr (bF.1 hgl)
inductive tT (σ:cK) (key:ByteArray):Nat→Int→List Pr→Prop
 |leaf {n b nd}:zy σ b nd→nd.kids=[]→fT nd.pairs→tT σ key n b (nd.pairs.drop (dB nd.pairs key))
 |inner {n b nd} (Ls:List (List Pr)):zy σ b nd→nd.kids≠[]→tX nd.keys→Ls.length=(nd.kids.drop (gU nd.keys key)).length→(∀i (h:i<(nd.kids.drop (gU nd.keys key)).length) (h':i<Ls.length),tT σ key n (nd.kids.drop (gU nd.keys key))[i] Ls[i])→tT σ key (n+1) b Ls.flatten
def tQ (S:Nat→Prop) (B ob mb:Nat) (v:Value) (O L:List Pr) (most:Int) (w:World) (e:Ending) (w':World):Prop:=
 e= .returned (.tuple #[.bool (decide (((O.length+L.length:Nat):Int)<most)),.int .i64 0])∧∃v',Acc w' S B ob mb v' (O++L.take (most - O.length).toNat) most∧mU ob v v' w w'
theorem Gt {w:World} {S:Nat→Prop} {k n c:Nat} {ao:Option Addr} {xs:List Value} (h:bE w S k (.slice ao n c) n xs) (i:Nat) (hi:i≤n):∃ao',(if c=i then ao else ao.map fun x=>x.add (i*k))=ao'∧bE w S k (.slice ao' (n - i) (c - i)) (n - i) (xs.drop (i*k)):=⟨_,rfl,bE.after h i hi⟩
theorem BZ (t:Nat) (mp:VS) (B ob mb:Nat) (root err b deep:Int) (σ:cK) (S:Nat→Prop) (key:ByteArray) (v:Value) (O:List Pr) (most:Int) (nd:Nd) (w:World) (h:Inv σ S mp w) (ht:cu w t mp root err) (hb:zy σ b nd) (hk:nd.kids=[]) (hr:fT nd.pairs) (hd:deep≤40)
  (hA:Acc w S B ob mb v O most) (hB:B≤w.heap.size) (hO:(O.length:Int)<most) (hl:O.length+(nd.pairs.drop (dB nd.pairs key)).length≤999999):
  Calls Tryz.prog 160 #[.pointer (some ⟨t,0,none⟩),.int .i64 b,.int .i64 deep,.string key,.func (.func 161) #[] #[.pointer (some ⟨ob,0,none⟩),.pointer (some ⟨mb,0,none⟩)]] w (tQ S B ob mb v O (nd.pairs.drop (dB nd.pairs key)) most w):=by
 have hke:nd.kids.isEmpty=true:=by rw[hk];rfl
 have hnp:=hb.fits.np
 have hp:=nH nd.pairs key
 generalize hP:dB nd.pairs key=P at hp hl
 have HP:=af hP;clear hP
 have hsub:=h.sub
 go_enter Tryz.func160,Tryz.ntmps160
 go_wp2_with (first
  |(go_at_call 143;go_must ((refine(mD t mp root err b deep σ S nd _ h ht hb hd).mono ?_);rintro e w1 ⟨nb,rfl,hn1,hb1⟩))
  |(go_at_call 144;go_must ((refine(jd nb nd _ S hn1.iU).mono ?_);rintro e w2 ⟨rfl,hw⟩;subst w2;rw[hke]))
  |(go_at_call 114;go_must ((refine(pI nb nd key _ S hn1.iU hr (by omega)).mono ?_);rw[HP.out];rintro e w3 ⟨rfl,hb3⟩;refine Stop.of ?_)))
 obtain⟨_,hnB,x0,x1,x2,hbn,hx0,_,_⟩:=hn1.step (Step.of_below hb3)
 obtain⟨e0,_,_,_,_,_,hlt3⟩:=cells3 hbn
 obtain⟨ao0,cp0,rfl,m0,m1,_,_⟩:=bE.form hx0.dD
 obtain⟨ao',ha1,ha2⟩:=Gt hx0.dD P hp
 generalize hD:nd.pairs.drop P=D at hl
 have hDl:D.length=nd.pairs.length - P:=by rw[←hD,aO]
 have hDs:mJ w3 S (.slice ao' (nd.pairs.length - P) (cp0 - P)) D:=by
  unfold mJ;rw[hDl,←hD,oW];exact ha2
 have hblk:∀g o,ao'=some ⟨g,o,none⟩→w.heap.size≤g:=by
  intro g o e
  have:∃o',ao0=some ⟨g,o',none⟩:=by
   rw[e] at ha1
   split at ha1
   ·exact⟨o,ha1⟩
   ·rcases hx0.1.2 with ⟨e1,_⟩|⟨g',cap,cur,e1,_⟩
    ·have e2:ao0=none:=by injection e1
     rw[e2] at ha1;cases ha1
    ·have e2:ao0=some ⟨g',0,none⟩:=by injection e1
     rw[e2,iG,fM] at ha1;cases ha1;exact⟨_,e2⟩
  obtain⟨o',rfl⟩:=this
  exact hx0.lo g rfl
 have hvl:∀g,v.ownBlock=some g→g<w.heap.size:=fun g hg=>fq.1 (fun hh=>hA.own.lt' hh hg)
 have hobl:ob<w.heap.size:=(ah.1 hA.out).1
 have hb3w:Below w.heap.size w w3:=hb1.trans (hb3.mono hb1.size)
 have HDs:=af hDs;clear hDs ha2
 have HDl:=af hDl
 have HD:=af hD;clear hD
 have HA3:=af (hA.below hb3w)
 have HY0:mU ob v v w w3:=mU.below hb3w
 have hsub3:∀g,S g→g<w3.heap.size:=fun g hg=>ax (hsub g hg) hb3w.size
 have hB3:B≤w3.heap.size:=aH hB hb3w.size
 have hBl:∀g,v.ownBlock=some g→B≤g:=hA.own.lo
 have hO2:=af hO;clear hO
 clear hDl
 refine Stop.on ?_
 go_wp2_with fail
 go_loopw [17,47] (fun _ i wr=>∃(k:Nat) (vk:Value),k≤nd.pairs.length - P∧i= .int .i64 k∧Acc wr S B ob mb vk (O++D.take k) most∧((O.length+k:Nat):Int)<most∧mU ob v vk w3 wr) (fun _ i _=>(nd.pairs.length - P) - (intOf i).toNat)
 case atStart=>exact⟨0,v,aY _,rfl,by rw[gF,dG];exact HA3.out,by rw[iK];exact hO2.out,mU.refl _ _ _⟩
 case round=>
  obtain⟨k,vk,hkn,rfl,hAk,hOk,hY⟩:=hrel
  by_cases hlt:k<nd.pairs.length - P
  ·have hkD:k<D.length:=by rw[HDl.out];exact hlt
   obtain⟨pb,po,rfl,d1,d2⟩:=HDs.out.at rfl k hkD
   have hpw:w.heap.size≤pb:=hblk pb po rfl
   have hpb3:=aF w3 _ d1
   have hnM:¬(pb=ob∨v.ownBlock=some pb):=fun x=>x.elim (fun e=>by omega) (fun e=>by have:=hvl _ e;omega)
   have g1:=(hY.1.cell (p:=⟨pb,po+k*2,none⟩) hpb3 hnM).trans d1
   have g2:=(hY.1.cell (p:=⟨pb,po+k*2+1,none⟩) hpb3 hnM).trans d2
   have hpbr:=ax hpb3 hY.1.size
   have hbn':=aI wr (.cells #[.string D[k].1,.string D[k].2] 130)
   have hy:=J4 B ob mb vk (O++D.take k) most D[k] S (wr.alloc (.cells #[.string D[k].1,.string D[k].2] 130)) (fun g hg=>ax (hsub3 g hg) (aH hY.1.size hbn'.size)) (hAk.below hbn') (aH hB3 (aH hY.1.size hbn'.size)) (by rw[aC,aD];omega)
   rw[show (O++D.take k).length+1=O.length+(k+1) from by rw[aC,aD];omega,show O++D.take k++[D[k]]=O++D.take (k+1) from by rw[aK hkD,aL]] at hy
   have hY1:mU ob vk vk wr (wr.alloc (.cells #[.string D[k].1,.string D[k].2] 130)):=mU.below hbn'
   have Hy:=af hy;clear hy
   clear d1 d2
   by_cases hmo:((O.length+(k+1):Nat):Int)<most
   ·have hmo':=bT hmo
    have Hmo:=af hmo';clear hmo'
    go_wp2_with ((refine Hy.out.mono ?_);rw[Hmo.out];rintro e w4 ⟨rfl,v4,hA4,hY4⟩)
    go_roundw
    case rel=>exact⟨k+1,v4,hlt,by go_num,hA4,hmo,(hY.trans hY1).trans hY4⟩
    case measure=>simp[intOf];omega
   ·have hmo':=bD hmo
    have Hmo:=af hmo';clear hmo'
    go_wp2_with ((refine Hy.out.mono ?_);rw[Hmo.out];rintro e w4 ⟨rfl,v4,hA4,hY4⟩)
    go_ret2
    have hDlen:=HDl.out
    rw[HD.out]
    refine⟨by rw[bD (by omega)];rfl,v4,?_,HY0.trans ((hY.trans hY1).trans hY4)⟩
    rw[show (most - (O.length:Int)).toNat=k+1 from by omega]
    exact hA4
  ·obtain rfl:k=nd.pairs.length - P:=by omega
   go_wp2_with fail
   go_ret2
   have hDlen:=HDl.out
   rw[HD.out]
   refine⟨by rw[bT (by omega)];rfl,vk,?_,HY0.trans hY⟩
   rw[aN (by omega)]
   rw[aN (by omega)] at hAk
   exact hAk
def NZ (t:Nat) (mp:VS) (B ob mb:Nat) (root err:Int) (σ:cK) (S:Nat→Prop) (key:ByteArray) (most:Int) (m:Nat):Prop:=
 ∀(b:Int) (L:List Pr),tT σ key m b L→∀(deep:Int) (v:Value) (O:List Pr) (w:World),Inv σ S mp w→cu w t mp root err→deep+m≤40→0≤deep→Acc w S B ob mb v O most→B≤w.heap.size→(O.length:Int)<most→O.length+L.length≤999999→
  Calls Tryz.prog 160 #[.pointer (some ⟨t,0,none⟩),.int .i64 b,.int .i64 deep,.string key,.func (.func 161) #[] #[.pointer (some ⟨ob,0,none⟩),.pointer (some ⟨mb,0,none⟩)]] w (tQ S B ob mb v O L most w)
theorem CP (Ls:List (List Pr)) (j:Nat) (h:j<Ls.length):(Ls.take (j+1)).flatten=(Ls.take j).flatten++Ls[j]:=by
 rw[aK h,LF,Qd,List.flatten_nil,dG]
theorem Nr (Ls:List (List Pr)) (j:Nat):(Ls.take j).flatten.length≤Ls.flatten.length:=by
 have:=congrArg (fun l=>(List.flatten l).length) (bI j Ls)
 simp only[LF,aC] at this
 omega
theorem Nt (Ls:List (List Pr)) (j m:Nat) (h:j<Ls.length) (h1:(Ls.take j).flatten.length≤m) (h2:m≤(Ls.take (j+1)).flatten.length):Ls.flatten.take m=(Ls.take j).flatten++Ls[j].take (m - (Ls.take j).flatten.length):=by
 have e:Ls.flatten=(Ls.take (j+1)).flatten++(Ls.drop (j+1)).flatten:=by rw[←LF,bI]
 rw[e,bQ h2,CP _ _ h,CZ,aN h1]
theorem GK (t:Nat) (mp:VS) (B ob mb:Nat) (root err b deep:Int) (σ:cK) (S:Nat→Prop) (key:ByteArray) (v:Value) (O:List Pr) (most:Int) (m:Nat) (IH:NZ t mp B ob mb root err σ S key most m) (nd:Nd) (Ls:List (List Pr)) (w:World) (h:Inv σ S mp w) (ht:cu w t mp root err) (hb:zy σ b nd) (hk:nd.kids≠[]) (hr:tX nd.keys)
  (hLs:Ls.length=(nd.kids.drop (gU nd.keys key)).length) (hW:∀i (h:i<(nd.kids.drop (gU nd.keys key)).length) (h':i<Ls.length),tT σ key m (nd.kids.drop (gU nd.keys key))[i] Ls[i]) (hd:deep+(m+1:Nat)≤40) (hd0:0≤deep)
  (hA:Acc w S B ob mb v O most) (hB:B≤w.heap.size) (hO:(O.length:Int)<most) (hl:O.length+Ls.flatten.length≤999999):
  Calls Tryz.prog 160 #[.pointer (some ⟨t,0,none⟩),.int .i64 b,.int .i64 deep,.string key,.func (.func 161) #[] #[.pointer (some ⟨ob,0,none⟩),.pointer (some ⟨mb,0,none⟩)]] w (tQ S B ob mb v O Ls.flatten most w):=by
 have hke:nd.kids.isEmpty=false:=by cases hq:nd.kids with|nil=>exact absurd hq hk|cons a b=>rfl
 have hnk:=hb.fits.nk
 have hkk:=hb.fits.kk
 have hp:gU nd.keys key≤nd.kids.length:=by have:=Av nd.keys key;omega
 generalize hP:gU nd.keys key=P at hp hW hLs
 have HP:=af hP;clear hP
 have HKK:=af hkk;clear hkk
 have hsub:=h.sub
 have hd40:deep≤40:=by omega
 have HIH:=af IH;clear IH
 have HW:=af hW;clear hW
 have HO:=af hO;clear hO
 go_enter Tryz.func160,Tryz.ntmps160
 go_wp2_with (first
  |(go_at_call 143;go_must ((refine(mD t mp root err b deep σ S nd _ h ht hb hd40).mono ?_);rintro e w1 ⟨nb,rfl,hn1,hb1⟩))
  |(go_at_call 144;go_must ((refine(jd nb nd _ S hn1.iU).mono ?_);rintro e w2 ⟨rfl,hw⟩;subst w2;rw[hke])))
 have hn1':=hn1
 obtain⟨_,hnB,x0,x1,x2,hbn,_,_,hx2⟩:=hn1'
 obtain⟨_,_,e2,_,_,_,hlt1⟩:=cells3 hbn
 obtain⟨ao0,cp0,rfl,m0,m1,_,_⟩:=bE.form hx2.dD
 obtain⟨ao',ha1,ha2⟩:=Gt hx2.dD P hp
 simp only[aV] at ha1
 have hblk:∀g o,ao'=some ⟨g,o,none⟩→w.heap.size≤g:=by
  intro g o e
  have:∃o',ao0=some ⟨g,o',none⟩:=by
   rw[e] at ha1
   split at ha1
   ·exact⟨o,ha1⟩
   ·rcases hx2.1.2 with ⟨e1,_⟩|⟨g',cap,cur,e1,_⟩
    ·have e2:ao0=none:=by injection e1
     rw[e2] at ha1;cases ha1
    ·have e2:ao0=some ⟨g',0,none⟩:=by injection e1
     rw[e2,iG,fM] at ha1;cases ha1;exact⟨_,e2⟩
  obtain⟨o',rfl⟩:=this
  exact hx2.lo g rfl
 have hD0:(nd.kids.drop P).length=nd.kids.length - P:=aO
 have hDs1:jr w1 S (.slice ao' (nd.kids.length - P) (cp0 - P)) (nd.kids.drop P):=by
  unfold jr;rw[hD0,fK];rw[aV] at ha2;exact ha2
 have HDl:=af hD0;clear hD0 ha2
 have HLs:=af hLs;clear hLs
 have HDs1:=af hDs1;clear hDs1
 have hKid:=(DR nb nd key w1.drew S (hn1.iU.below ((aQ _ w1).drew)) hr (by rw[HKK.out];omega))
 rw[HP.out] at hKid
 have HKid:=af hKid;clear hKid
 have hPi:(P:Int)≤(nd.kids.length:Int):=by omega
 refine aP (fun W=>Below w1.heap.size w1 W) (fun i=> !([6].contains i)) [0,1,2,3,4,5,9,6,7,8] rfl (by kernel_rfl) ((aQ _ w1).drew) ?_
 repeat ((refine bO (v:= ?_) rfl rfl (fun _ _ _ h=>h) rfl (fun W hW=> ?_) ?_);rotate_left;(focus ((try dsimp only at hW);have q0:=(hW.cell (p:=⟨nb,2,none⟩) hlt1).trans e2;have q1:=ax hlt1 hW.size;first|(go_simp;first|done|with_reducible rfl)));(try simp only[Act.put,aj,au,ak]))
 refine dw rfl rfl rfl ?_;intro K hK;go_simp
 refine HKid.out.mono ?_;rintro e w4 ⟨rfl,hb4⟩
 have hb4':Below w1.heap.size w1 w4:=((aQ _ w1).drew).trans hb4
 refine hK.out _ _ hb4' ?_
 repeat ((refine bO (v:= ?_) rfl rfl (fun _ _ _ h=>h) rfl (fun W hW=> ?_) ?_);rotate_left;(focus ((try dsimp only at hW);have q0:=(hW.cell (p:=⟨nb,2,none⟩) hlt1).trans e2;have q1:=ax hlt1 hW.size;first|(go_simp;first|done|with_reducible rfl)));(try simp only[Act.put,aj,au,ak]))
 refine bR ?_
 have hb4w:Below w.heap.size w w4:=hb1.trans (hb4'.mono hb1.size)
 have hDs:jr w4 S (.slice ao' (nd.kids.length - P) (cp0 - P)) (nd.kids.drop P):=bE.below HDs1.out hb4'
 have HDs:=af hDs;clear hDs
 have hvl:∀g,v.ownBlock=some g→g<w.heap.size:=fun g hg=>fq.1 (fun hh=>hA.own.lt' hh hg)
 have hvS:∀g,v.ownBlock=some g→¬S g:=hA.own.2
 have hobS:=hA.nob
 have hobl:ob<w.heap.size:=(ah.1 hA.out).1
 have hI4:=h.below hb4w
 have htl:t<w.heap.size:=(ah.1 ht).1
 have ht4:cu w4 t mp root err:=(hb4w.block t htl).trans ht
 have hto:t≠ob:=fun e=>by have h1:=hA.out;rw[←e,ht] at h1;cases h1
 have htv:v.ownBlock≠some t:=hA.own.ne ht (by decide)
 have HA4:=af (hA.below hb4w)
 have HY0:mU ob v v w w4:=mU.below hb4w
 have hB4:B≤w4.heap.size:=aH hB hb4w.size
 have hfl:=Nr Ls
 have Hfl:=af hfl;clear hfl
 have hdw:IntKind.i64.wrap (deep+1)=deep+1:=aR _ (by omega)
 clear hb4 hA hPi
 go_wp2_with fail
 go_loopw [19,20,21,65] (fun _ _ _ i wr=>∃(k:Nat) (vk:Value),k≤nd.kids.length - P∧i= .int .i64 k∧Acc wr S B ob mb vk (O++(Ls.take k).flatten) most∧((O.length+(Ls.take k).flatten.length:Nat):Int)<most∧mU ob v vk w4 wr) (fun _ _ _ i _=>(nd.kids.length - P) - (intOf i).toNat)
 case atStart=>exact⟨0,v,aY _,rfl,by simpa using HA4.out,by simpa using HO.out,mU.refl _ _ _⟩
 case round=>
  obtain⟨k,vk,hkn,rfl,hAk,hOk,hY⟩:=hrel
  have hIr:Inv σ S mp wr:=hI4.jZ hY.1 (fun g hg x=>x.elim (fun e=>hobS (by rw[←e];exact hg)) (fun e=>hvS g e hg))
  have htr:cu wr t mp root err:=(hY.1.block t (ax htl hb4w.size) (fun x=>x.elim hto htv)).trans ht4
  have hBr:B≤wr.heap.size:=aH hB4 hY.1.size
  by_cases hlt:k<nd.kids.length - P
  ·have hkD:k<(nd.kids.drop P).length:=by rw[HDl.out];exact hlt
   have hkL:k<Ls.length:=by rw[HLs.out];exact hkD
   obtain⟨pb,po,rfl,d1⟩:=HDs.out.at rfl k hkD
   have hpw:w.heap.size≤pb:=hblk pb po rfl
   have hpb4:=aF w4 _ d1
   have hnM:¬(pb=ob∨v.ownBlock=some pb):=fun x=>x.elim (fun e=>by omega) (fun e=>by have:=hvl _ e;omega)
   have g1:=(hY.1.cell (p:=⟨pb,po+k,none⟩) hpb4 hnM).trans d1
   have hpbr:=ax hpb4 hY.1.size
   have hft:=CP Ls k hkL
   have hlen:(Ls.take (k+1)).flatten.length=(Ls.take k).flatten.length+Ls[k].length:=by rw[hft,aC]
   have hmax:=Hfl.out (k+1)
   have hy:=HIH.out _ _ (HW.out k hkD hkL) (deep+1) vk (O++(Ls.take k).flatten) wr hIr htr (by omega) (by omega) hAk hBr (by rw[aC];exact hOk) (by rw[aC];omega)
   have Hft:=af hft;clear hft
   have Hlen:=af hlen;clear hlen
   have Hmax:=af hmax;clear hmax
   have Hy:=af hy;clear hy
   generalize hkid:(nd.kids.drop P)[k]=kd at*
   have Hkid:=af hkid;clear hkid d1
   by_cases hmo:(((O++(Ls.take k).flatten).length+Ls[k].length:Nat):Int)<most
   ·have Hmo:=af (bT hmo)
    have Hmo2:=af hmo;clear hmo
    go_wp2_with ((refine Hy.out.mono ?_);unfold tQ;rw[Hmo.out];rintro e w5 ⟨rfl,v5,hA5,hY5⟩)
    go_roundw
    case rel=>
     have hmo:=Hmo2.out
     have hlen:=Hlen.out
     rw[aC] at hmo
     refine⟨k+1,v5,hlt,by go_num,?_,by omega,hY.trans hY5⟩
     rw[aC,aN (l:=Ls[k]) (by omega),aL,←Hft.out] at hA5
     exact hA5
    case measure=>simp[intOf];omega
   ·have Hmo:=af (bD hmo)
    have Hmo2:=af hmo;clear hmo
    go_wp2_with ((refine Hy.out.mono ?_);unfold tQ;rw[Hmo.out];rintro e w5 ⟨rfl,v5,hA5,hY5⟩)
    go_ret2
    have hmo:=Hmo2.out
    have hlen:=Hlen.out
    have hmax:=Hmax.out
    rw[aC] at hmo
    refine⟨by rw[bD (by omega)];rfl,v5,?_,HY0.trans (hY.trans hY5)⟩
    rw[Nt Ls k _ hkL (by omega) (by omega),←aL]
    rw[show (most - (O.length:Int)).toNat - (Ls.take k).flatten.length=(most - ((O++(Ls.take k).flatten).length:Nat)).toNat from by rw[aC];omega]
    exact hA5
  ·obtain rfl:k=nd.kids.length - P:=by omega
   go_wp2_with fail
   go_ret2
   have hall:Ls.take (nd.kids.length - P)=Ls:=aN (by rw[HLs.out,HDl.out];exact aG _)
   rw[hall] at hAk hOk
   refine⟨by rw[bT hOk];rfl,vk,?_,HY0.trans hY⟩
   rw[aN (l:=Ls.flatten) (by omega)]
   exact hAk
theorem LW (t:Nat) (mp:VS) (B ob mb:Nat) (root err:Int) (σ:cK) (S:Nat→Prop) (key:ByteArray) (most:Int):∀m,NZ t mp B ob mb root err σ S key most m:=by
 intro m
 induction m with
 |zero=>
  intro b L hL deep v O w h ht hd hd0 hA hB hO hl
  cases hL with
  |leaf hb hk hr=>exact BZ t mp B ob mb root err b deep σ S key v O most _ w h ht hb hk hr (by omega) hA hB hO hl
 |succ m ih=>
  intro b L hL deep v O w h ht hd hd0 hA hB hO hl
  cases hL with
  |leaf hb hk hr=>exact BZ t mp B ob mb root err b deep σ S key v O most _ w h ht hb hk hr (by omega) hA hB hO hl
  |inner Ls hb hk hr hLs hW=>exact GK t mp B ob mb root err b deep σ S key v O most m ih _ Ls w h ht hb hk hr hLs hW hd hd0 hA hB hO hl
end Go.Proofs.YtpgdljlghiifjaaGreatDoor
