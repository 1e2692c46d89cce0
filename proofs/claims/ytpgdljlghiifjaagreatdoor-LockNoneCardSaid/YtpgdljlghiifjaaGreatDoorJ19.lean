/- parts -/
import Derived.Test.YtpgdljlghiifjaaGreatDoorJ17
import Derived.Test.YtpgdljlghiifjaaGreatDoorJ18
import Derived.Deep.CutRange
import Derived.Deep.CutBlock
namespace Go.Proofs.YtpgdljlghiifjaaGreatDoor
open Go.RowKit
set_option maxRecDepth 100000
set_option maxHeartbeats 8000000
set_option linter.all false
theorem KQ (t nb:Nat) (nd:Nd) (i:Nat) (deep:Int) (w:World) (S:Nat→Prop) (hn:fF w S nb nd) (hs:nd.kids.length<2∨nd.kids.length≤i):
  Calls Tryz.prog 153 #[.pointer (some ⟨t,0,none⟩),.pointer (some ⟨nb,0,none⟩),.int .i64 i,.int .i64 deep] w fun e w'=>e= .returned (.tuple #[])∧w'=w:=by
 obtain⟨_,v0,v1,v2,hb,h0,h1,h2⟩:=hn
 obtain⟨c0,c1,c2,_,_,_,hlt⟩:=cells3 hb
 obtain⟨ao2,cp2,rfl,n2,m2,_,_⟩:=bE.form h2
 by_cases h:nd.kids.length<2
 ·have x1:(nd.kids.length:Int)<2:=by omega
  go_enter Tryz.func153,Tryz.ntmps153
  go_wp2
  refine mK (zk rfl _ _ _) rfl ?_
  exact⟨rfl,rfl⟩
 ·have x1:¬(nd.kids.length:Int)<2:=by omega
  have x2:(nd.kids.length:Int)≤(i:Int):=by omega
  have x3:nd.kids.length≤i:=by omega
  go_enter Tryz.func153,Tryz.ntmps153
  go_wp2
  refine mK (zk rfl _ _ _) rfl ?_
  exact⟨rfl,rfl⟩
theorem wI (l:List Int):∀u∈l.map (Value.int .i64),u.oneCell'=true:=by
 intro u hu
 obtain⟨p,_,rfl⟩:=dP.1 hu
 rfl
def SJ (t:Nat) (mp:VS) (nb pb po j n cp:Nat) (root err b1 b2:Int) (v0 v1:Value) (W:World):Prop:=
 cu W t mp root err∧W.heap[nb]? =some (.cells #[v0,v1,.slice (some ⟨pb,po,none⟩) n cp] 189 (0,0))∧W.cell? ⟨pb,po+j,none⟩=some (.int .i64 b1)∧W.cell? ⟨pb,po+(j+1),none⟩=some (.int .i64 b2)
theorem SJ.step {t:Nat} {mp:VS} {nb pb po j n cp:Nat} {root err b1 b2:Int} {v0 v1:Value} {W W':World} {S S':Nat→Prop} (h:SJ t mp nb pb po j n cp root err b1 b2 v0 v1 W) (hs:Step S S' W W') (h1:¬S t) (h2:¬S nb) (h3:¬S pb):SJ t mp nb pb po j n cp root err b1 b2 v0 v1 W':=by
 obtain⟨q1,q2,q3,q4⟩:=h
 have l3:=aF W _ q3
 exact⟨(q1.step h1 hs).1,(hs.1.block nb (ah.1 q2).1 h2).trans q2,(mM (w:=W) (a:=⟨pb,po+j,none⟩) (hs.1.block pb l3 h3)).trans q3,(mM (w:=W) (a:=⟨pb,po+(j+1),none⟩) (hs.1.block pb l3 h3)).trans q4⟩
theorem SJ.cells {t:Nat} {mp:VS} {nb pb po j n cp:Nat} {root err b1 b2:Int} {v0 v1:Value} {W:World} (h:SJ t mp nb pb po j n cp root err b1 b2 v0 v1 W):
  W.cell? ⟨t,0,none⟩=some (.iface 105 mp.agg)∧t<W.heap.size∧W.cell? ⟨nb,2,none⟩=some (.slice (some ⟨pb,po,none⟩) n cp)∧nb<W.heap.size∧W.cell? ⟨pb,po+j,none⟩=some (.int .i64 b1)∧W.cell? ⟨pb,po+(j+1),none⟩=some (.int .i64 b2)∧pb<W.heap.size:=by
 obtain⟨q1,q2,q3,q4⟩:=h
 obtain⟨c0,_,_,_,_,_,hl⟩:=cells3 q1
 obtain⟨_,_,c2,_,_,_,hl2⟩:=cells3 q2
 exact⟨c0,hl,c2,hl2,q3,q4,aF W _ q3⟩
theorem wJ {W:World} {S:Nat→Prop} {b:Nat} {ps:List Pr} {ks':List ByteArray} {ns:List Int} {v0 v1 v2 v':Value} (hb:W.heap[b]? =some (.cells #[v0,v1,v2] 189 (0,0))) (hS:¬S b) (h0:mJ W S v0 ps) (h2:jr W S v2 ns) (h0b:v0.ownBlock≠some b) (h2b:v2.ownBlock≠some b) (hv:iM W S v' ks') (hvb:v'.ownBlock≠some b):fF (W.setCell ⟨b,1,none⟩ v') S b ⟨ps,ks',ns⟩:=by
 have hk:Keep (· =b) W (W.setCell ⟨b,1,none⟩ v'):=Keep.setCell (M:=(· =b)) (p:=⟨b,1,none⟩) (Keep.refl _ _) (.inr rfl) _
 refine⟨hS,v0,v',v2,by simp[World.setCell,aW,hb],bE.keep h0 fun g hg hl hs=>⟨hk.block g hl (fun e=>h0b (by rw[hg,e])),hs⟩,bE.keep hv fun g hg hl hs=>⟨hk.block g hl (fun e=>hvb (by rw[hg,e])),hs⟩,bE.keep h2 fun g hg hl hs=>⟨hk.block g hl (fun e=>h2b (by rw[hg,e])),hs⟩⟩
theorem OG {W:World} {S:Nat→Prop} {b:Nat} {ao0 ao1 ao2:Option Addr} {x0 x1 x2 y0 y1 y2:Nat} {ks:List ByteArray} (hb:W.heap[b]? =some (.cells #[.slice ao0 x0 y0,.slice ao1 x1 y1,.slice ao2 x2 y2] 189 (0,0))) (h:iM W S (.slice ao1 x1 y1) ks) (hk:0<ks.length):(Value.slice ao1 x1 y1).ownBlock≠some b:=by
 obtain⟨ao,c,e,_,_,_,_,_,h6⟩:=h
 cases e
 obtain⟨b',o,rfl,hc⟩:=h6 0 (.string ks[0]) (by simp[hk])
 intro e
 cases e
 rw[iK] at hc
 rcases o with _|_|_|o<;>simp[World.cell?,hb] at hc
def Oi (mp:VS) (σ:cK) (S:Nat→Prop) (nb:Nat) (nd A B:Nd) (k2:ByteArray) (b1 b2:Int) (j:Nat) (w:World) (e:Ending) (w':World):Prop:=
 (e= .returned (.tuple #[])∧∃σ' S' nd',Inv σ' S' mp w'∧fF w' S' nb nd'∧Keep (fun g=>S g∨g=nb) w w'∧(∀g,S' g→S g∨w.heap.size≤g)∧
  ((512<(eu A B k2).size∧A.kids.length≠1∧B.kids.length≠1∧σ'=σ∧nd'=nd)∨∃ps zs,uM (eu A B k2) ⟨#[]⟩ zs∧Puts ((σ.gone b1).gone b2) ps zs σ'∧nd'=(nd.jS j).pz j ps∧¬(512<(eu A B k2).size∧A.kids.length≠1∧B.kids.length≠1)))∨
  (((σ.gone b1).gone b2).most<((σ.gone b1).gone b2).sz+(eu A B k2).room∧Bo mp σ S w e w')
theorem Nf (t:Nat) (mp:VS) (root err:Int) (σ:cK) (S:Nat→Prop) (nb:Nat) (nd A B:Nd) (k2:ByteArray) (i j:Nat) (deep b1 b2:Int) (w:World) (h:Inv σ S mp w) (ht:cu w t mp root err) (hst:¬S t) (hn:fF w S nb nd) (h2:2≤nd.kids.length) (hi:i<nd.kids.length) (hj:j=min i (nd.kids.length - 2)) (hk1:nd.kids[j]? =some b1) (hk2:nd.kids[j+1]? =some b2) (hkey:nd.keys[j]? =some k2)
  (hp:nd.pairs=[]) (hkk:nd.keys.length=nd.kids.length - 1) (hA:zy σ b1 A) (hB:zy σ b2 B) (hB2:(σ.gone b1).hasB b2=true) (okJ:(eu A B k2).Ok) (hd:deep≤40) (hl:nd.kids.length≤2000):
  Calls Tryz.prog 153 #[.pointer (some ⟨t,0,none⟩),.pointer (some ⟨nb,0,none⟩),.int .i64 i,.int .i64 deep] w (Oi mp σ S nb nd A B k2 b1 b2 j w):=by
 have hN:=hn
 obtain⟨hSb,v0,v1,v2,hb,h0,h1,h22⟩:=hn
 obtain⟨c0,c1,c2,_,_,_,hlt⟩:=cells3 hb
 obtain⟨ao2,cp2,rfl,n2,m2,_,_⟩:=bE.form h22
 obtain⟨hj1,hj1'⟩:=bZ.1 hk1
 obtain⟨hj2,hj2'⟩:=bZ.1 hk2
 obtain⟨pb,po,rfl,d1⟩:=h22.at rfl j hj1
 obtain⟨_,_,e',d2⟩:=h22.at rfl (j+1) hj2
 cases e'
 rw[hj1'] at d1
 rw[hj2'] at d2
 have hpb:pb<w.heap.size:=aF w _ d1
 have hSp:¬S pb:=by
  obtain⟨_,_,e,_,_,_,_,h5,_⟩:=h22
  cases e
  exact(h5 _ rfl).2.2
 have hSJ:SJ t mp nb pb po j nd.kids.length cp2 root err b1 b2 v0 v1 w:=⟨ht,hb,d1,d2⟩
 have HSJ:=af hSJ
 have HK:=af hkey
 have HP:=af hp
 have HKK:=af hkk
 have HN:=af hN
 have HB2:=af hB2
 have HJ:=af hj
 have hj3:j+2≤nd.kids.length:=by omega
 have x4:min (i:Int) ((nd.kids.length:Int) - 2)=(j:Int):=by omega
 have HX4:=af x4
 have HD1:=af hk1
 have HD2:=af hk2
 clear hk1 hk2 hj1' hj2' hSJ hkey hp hkk hN hB2 hb d1 d2 hj hj1 hj2 c0 c1 x4
 have x1:¬(nd.kids.length:Int)<2:=by omega
 have x2:¬(nd.kids.length:Int)≤(i:Int):=by omega
 have x3:¬nd.kids.length≤i:=by omega
 go_enter Tryz.func153,Tryz.ntmps153
 go_upto_region 1 with fail
 go_cut [2] from 13 to 196 (fun x wx=>x= .int .i64 j∧w=wx)
 case first=>
  go_wp2_with fail
  all_goals
   go_meet
   refine⟨?_,rfl⟩
   have:=HX4.out
   congr 1<;>omega
 case rest=>
  obtain⟨rfl,rfl⟩:=hcut
  obtain⟨y0,y1,y2,y3,y4,y5,y6⟩:=HSJ.out.cells
  have HA:=af hA
  have HB:=af hB
  have hj4:(j:Int)+2≤(nd.kids.length:Int):=by omega
  have HI:=af h
  have HT:=af ht
  clear hA hB h ht c2
  go_wp2_with (first
   |(go_at_call 143;go_must ((refine(mD t mp root err b1 deep σ S A w HI.out HT.out HA.out hd).mono ?_);rintro e w1 ⟨na,rfl,hnA,hb1⟩;refine Stop.of ?_)))
  refine Stop.on ?_
  have HI1:=af (HI.out.below hb1)
  obtain⟨y0,y1,y2,y3,y4,y5,y6⟩:=(HSJ.out.step (Step.of_below (S:=S) hb1) hst hSb hSp).cells
  go_wp2_with (first
   |(go_at_call 150;go_must ((refine(nK _).mono ?_);rintro e w2 ⟨rfl,hw⟩;subst w2))
   |(go_at_call 143;go_must ((refine(mD t mp root err b2 deep σ S B w1 HI1.out ((HT.out).step hst (Step.of_below (S:=S) hb1)).1 HB.out hd).mono ?_);rintro e w2 ⟨nbb,rfl,hnB,hb2⟩;refine Stop.of ?_)))
  refine Stop.on ?_
  have hbw2:Below w.heap.size w w2:=hb1.trans (hb2.mono hb1.size)
  have HI2:=af (HI.out.below hbw2)
  have hsj2:=af (HSJ.out.step (Step.of_below (S:=S) hbw2) hst hSb hSp)
  have hA2:=hnA.iU.below hb2
  have hB2':=hnB.iU
  have HA2:=af hA2
  have HB2':=af hB2'
  obtain⟨hSA,a0,a1,a2,bA,A0,A1,A2⟩:=hA2
  obtain⟨hSB,g0,g1,g2,bB,B0,B1,B2⟩:=hB2'
  have hnaw:w.heap.size≤na:=hnA.2.1
  obtain⟨e0,e1,e2,_,_,_,lna⟩:=cells3 bA
  obtain⟨f0,f1,f2,_,_,_,lnb⟩:=cells3 bB
  clear y0 y1 y2 y3 y4 y5 y6 bA bB hnA hnB
  go_wp2_with (first
   |(go_at_call 150;go_must ((refine(nK _).mono ?_);rintro e w3 ⟨rfl,hw⟩;subst w3)))
  have hsub2:=HI2.out.sub
  have la:=HA.out.fits.np
  have lb:=HB.out.fits.np
  have ka:=HA.out.fits.nk
  have kb:=HB.out.fits.nk
  refine aP (fun W=>Below w2.heap.size w2 W) (fun i=> !([4,9,14,19,21].contains i)) [0,1,2,3,5,6,7,8,10,11,12,13,15,16,17,18,4,9,14,19,20,21,22] rfl (by kernel_rfl) ((aQ _ w2).drew) ?_
  repeat ((refine bO (v:= ?_) rfl rfl (fun _ _ _ h=>h) rfl (fun W hW=> ?_) ?_);rotate_left;(focus ((try dsimp only at hW);have q0:=(hW.cell (p:=⟨na,0,none⟩) lna).trans e0;have q1:=(hW.cell (p:=⟨na,1,none⟩) lna).trans e1;have q2:=(hW.cell (p:=⟨na,2,none⟩) lna).trans e2;have q3:=(hW.cell (p:=⟨nbb,0,none⟩) lnb).trans f0;have q4:=(hW.cell (p:=⟨nbb,1,none⟩) lnb).trans f1;have q5:=(hW.cell (p:=⟨nbb,2,none⟩) lnb).trans f2;have q6:=ax lna hW.size;have q7:=ax lnb hW.size;first|(go_simp;first|done|with_reducible rfl)));(try simp only[Act.put,aj,au,ak]))
  have hbd:Below w2.heap.size w2 w2.drew:=(aQ _ w2).drew
  have hC1:=BR a0 A.pairs.length (dH A.pairs) w2.drew S hsub2 (bE.below A0 hbd) (zo _) (by omega)
  have HC1:=af hC1;clear hC1
  refine dw rfl rfl rfl ?_;intro K hK;go_simp
  refine HC1.out.mono ?_;rintro e w3 ⟨u0,rfl,hu0,hb3⟩
  have hb23:Below w2.heap.size w2 w3:=hbd.trans hb3
  refine hK.out _ _ hb23 ?_
  (try simp only[Act.put,aj,au,ak])
  refine dw rfl rfl rfl ?_;intro K hK
  refine mh (.tmp 71) (.tmp 75) 126 126 rfl S w2.heap.size 130 2 32 _ Tryz.underlying126 jO rfl u0 A.pairs.length (dH A.pairs) rfl hu0 g0 B.pairs.length (dH B.pairs) rfl ((bE.below B0 hb23).src Tryz.underlying126 (zo _)) (fun g hg=>ax (hsub2 g hg) hb23.size) hb23.size (by unfold maxLen;omega) (by omega) ?_
  intro ao4 c4 w4 hown4 hk4 hb4 hd4
  have hb24:Below w2.heap.size w2 w4:=hb23.trans hb4
  refine hK.out _ _ hb24 ?_
  (try simp only[Act.put,aj,au,ak])
  have hC2:=rH a2 A.kids.length (A.kids.map (.int .i64)) w4 S (fun g hg=>ax (hsub2 g hg) hb24.size) (bE.below A2 hb24) (wI _) (by omega)
  have HC2:=af hC2;clear hC2
  refine dw rfl rfl rfl ?_;intro K hK;go_simp
  refine HC2.out.mono ?_;rintro e w5 ⟨u2,rfl,hu2,hb5⟩
  have hb25:Below w2.heap.size w2 w5:=hb24.trans (hb5.mono hb24.size)
  refine hK.out _ _ hb25 ?_
  (try simp only[Act.put,aj,au,ak])
  refine dw rfl rfl rfl ?_;intro K hK
  refine mh (.tmp 81) (.tmp 85) 151 151 rfl S w2.heap.size 3 1 8 _ Tryz.underlying151 gV rfl u2 A.kids.length (A.kids.map (.int .i64)) rfl (hu2.base hb24.size) g2 B.kids.length (B.kids.map (.int .i64)) rfl ((bE.below B2 hb25).src Tryz.underlying151 (wI _)) (fun g hg=>ax (hsub2 g hg) hb25.size) hb25.size (by unfold maxLen;omega) (by omega) ?_
  intro ao6 c6 w6 hown6 hk6 hb6 hd6
  have hb26:Below w2.heap.size w2 w6:=hb25.trans hb6
  refine hK.out _ _ hb26 ?_
  (try simp only[Act.put,aj,au,ak])
  repeat ((refine bO (v:= ?_) rfl rfl (fun _ _ _ h=>h) rfl (fun W hW=> ?_) ?_);rotate_left;(focus ((try dsimp only at hW);have q0:=(hW.cell (p:=⟨na,0,none⟩) lna).trans e0;have q1:=(hW.cell (p:=⟨na,1,none⟩) lna).trans e1;have q2:=(hW.cell (p:=⟨na,2,none⟩) lna).trans e2;have q3:=(hW.cell (p:=⟨nbb,0,none⟩) lnb).trans f0;have q4:=(hW.cell (p:=⟨nbb,1,none⟩) lnb).trans f1;have q5:=(hW.cell (p:=⟨nbb,2,none⟩) lnb).trans f2;have q6:=ax lna hW.size;have q7:=ax lnb hW.size;first|(go_simp;first|done|with_reducible rfl)));(try simp only[Act.put,aj,au,ak]))
  refine dw rfl rfl rfl ?_;intro K hK;go_simp
  have hb7:=aI w6 (.cells #[.slice ao4 (A.pairs.length+B.pairs.length) c4,.slice none 0 0,.slice ao6 (A.kids.length+B.kids.length) c6] 189)
  have hb27:Below w2.heap.size w2 (w6.alloc (.cells #[.slice ao4 (A.pairs.length+B.pairs.length) c4,.slice none 0 0,.slice ao6 (A.kids.length+B.kids.length) c6] 189)):=hb26.trans (hb7.mono hb26.size)
  refine hK.out _ _ hb27 ?_
  (try simp only[Act.put,aj,au,ak])
  repeat ((refine bO (v:= ?_) rfl rfl (fun _ _ _ h=>h) rfl (fun W hW=> ?_) ?_);rotate_left;(focus ((try dsimp only at hW);have q0:=(hW.cell (p:=⟨na,0,none⟩) lna).trans e0;have q1:=(hW.cell (p:=⟨na,1,none⟩) lna).trans e1;have q2:=(hW.cell (p:=⟨na,2,none⟩) lna).trans e2;have q3:=(hW.cell (p:=⟨nbb,0,none⟩) lnb).trans f0;have q4:=(hW.cell (p:=⟨nbb,1,none⟩) lnb).trans f1;have q5:=(hW.cell (p:=⟨nbb,2,none⟩) lnb).trans f2;have q6:=ax lna hW.size;have q7:=ax lnb hW.size;first|(go_simp;first|done|with_reducible rfl)));(try simp only[Act.put,aj,au,ak]))
  refine bR ?_
  have hcn:fF (w6.alloc (.cells #[.slice ao4 (A.pairs.length+B.pairs.length) c4,.slice none 0 0,.slice ao6 (A.kids.length+B.kids.length) c6] 189)) S w6.heap.size ⟨A.pairs++B.pairs,[],A.kids++B.kids⟩:=by
   refine⟨fun hs=>absurd (hsub2 _ hs) (bF.2 hb26.size),_,_,_,aM w6 _,?_,bE.nil _ _ _,?_⟩
   ·have q1:=(hown4.below (hb5)).keep (w':=w6) (S':=S) (fun g hg hl hs=>⟨hk6.block g hl (fun e=>aS.Ej (hown4.below hb5) (hu2.base hb24.size) (by decide) g hg e),hs⟩)
    have:=(q1.below hb7).dD
    unfold mJ
    rw[aC,lQ]
    exact this
   ·have:=(hown6.below hb7).dD
    unfold jr
    rw[aC,bX]
    exact this
  have hnc:w2.heap.size≤w6.heap.size:=hb26.size
  have hbC:(w6.alloc (.cells #[.slice ao4 (A.pairs.length+B.pairs.length) c4,.slice none 0 0,.slice ao6 (A.kids.length+B.kids.length) c6] 189)).heap[w6.heap.size]? =some (.cells #[.slice ao4 (A.pairs.length+B.pairs.length) c4,.slice none 0 0,.slice ao6 (A.kids.length+B.kids.length) c6] 189 (0,0)):=aM w6 _
  have hz0:(Value.slice ao4 (A.pairs.length+B.pairs.length) c4).ownBlock≠some w6.heap.size:=hown4.lt' (aH hb5.size hb6.size)
  have hz2:(Value.slice ao6 (A.kids.length+B.kids.length) c6).ownBlock≠some w6.heap.size:=hown6.lt' (aG _)
  obtain⟨_,_,_,_,hbC',hP7,_,hI7⟩:=id hcn
  rw[hbC] at hbC'
  cases hbC'
  clear hown4 hown6 hu0 hu2 hb3 hb4 hb5 hb6 hb7 hk4 hk6 hd4 hd6 hb23 hb24 hb25 hb26 hbd HC1 HC2
  generalize (w6.alloc (.cells #[.slice ao4 (A.pairs.length+B.pairs.length) c4,.slice none 0 0,.slice ao6 (A.kids.length+B.kids.length) c6] 189))=w7 at hcn hb27 hbC hP7 hI7 ⊢
  generalize w6.heap.size=nc at hcn hnc hbC hz0 hz2 ⊢
  clear K hK
  have hHA7:=HA2.out.below hb27
  go_upto_if 91 with (first
   |(go_at_call 144;go_must ((refine(jd na A _ S hHA7).mono ?_);rintro e w8 ⟨rfl,hw⟩;subst w8)))
  go_cut [] from 13 to 196 (fun wx=>fF wx S nc (eu A B k2)∧Below w2.heap.size w2 wx)
  case first=>
   by_cases hAk:A.kids=[]
   ·have hke:A.kids.isEmpty=true:=by rw[hAk];rfl
    have HAk:=af hAk;clear hAk
    rw[hke]
    go_wp2_with fail
    go_meet
    refine⟨?_,hb27⟩
    have:eu A B k2=⟨A.pairs++B.pairs,[],A.kids++B.kids⟩:=by unfold eu;rw[if_pos HAk.out]
    rw[this]
    exact hcn
   ·as_aux_lemma=>
     have hke:A.kids.isEmpty=false:=by cases hq:A.kids with|nil=>exact absurd hq hAk|cons a b=>rfl
     have hJe:eu A B k2=⟨A.pairs++B.pairs,A.keys++[k2]++B.keys,A.kids++B.kids⟩:=by unfold eu;rw[if_neg hAk]
     have HAk:=af hAk;clear hAk
     rw[hke]
     go_wp2_with fail
     have hcN:=hcn
     have bC:=hbC
     obtain⟨_,nc1,_,_,_,_,lnc⟩:=cells3 bC
     have hN7:=HN.out.below (hbw2.trans (hb27.mono hbw2.size))
     obtain⟨_,nv0,nv1,nv2,bN,_,hn1,_⟩:=hN7
     obtain⟨_,n1,_,_,_,_,lnn⟩:=cells3 bN
     obtain⟨kao,kcp,rfl,km0,km1,_,_⟩:=bE.form hn1
     obtain⟨kb0,ko0,rfl,nk1⟩:=bE.yx hn1 rfl j (.string k2) (by rw[cZ,HK.out];rfl)
     have lkk:=aF w7 _ nk1
     have hkj:(j:Int)<(nd.keys.length:Int):=by have:=HKK.out;omega
     have hbd:Below w7.heap.size w7 w7.drew:=(aQ _ w7).drew
     have hsub7:∀g,S g→g<w7.heap.size:=fun g hg=>ax (hsub2 g hg) hb27.size
     have lak:A.keys.length≤1000000:=by have:=HA.out.fits.kk;omega
     have lbk:B.keys.length≤1000000:=by have:=HB.out.fits.kk;omega
     have e1:=(hb27.cell (p:=⟨na,1,none⟩) lna).trans e1
     have f1:=(hb27.cell (p:=⟨nbb,1,none⟩) lnb).trans f1
     have lna:=ax lna hb27.size
     have lnb:=ax lnb hb27.size
     have hC3:=rG a1 A.keys.length (A.keys.map .string) w7.drew S hsub7 (bE.below (bE.below A1 hb27) hbd) (nI _) lak
     have HC3:=af hC3;clear hC3
     refine nu (fun W=>Below w7.heap.size w7 W) (fun i=> !([5,13,14,19,22].contains i)) [0,1,2,3,4,6,7,8,9,10,11,12,15,16,17,18] 5 13 [13,14,19,20,21,22] [5,14,19,20,21,22] rfl (by kernel_rfl) hbd ?_
     repeat ((refine DC (v:= ?_) rfl rfl (fun _ _ _ h=>h) rfl (fun W hW=> ?_) ?_);rotate_left;(focus ((try dsimp only at hW);have q0:=(hW.cell (p:=⟨na,1,none⟩) lna).trans e1;have q1:=(hW.cell (p:=⟨nbb,1,none⟩) lnb).trans f1;have q2:=ax lna hW.size;have q3:=ax lnb hW.size;have q4:=(hW.cell (p:=⟨nb,1,none⟩) lnn).trans n1;have q5:=ax lnn hW.size;have q6:=(hW.cell (p:=⟨kb0,ko0+j,none⟩) lkk).trans nk1;have q7:=ax lkk hW.size;have q8:=(hW.cell (p:=⟨nc,1,none⟩) lnc).trans nc1;have q9:=ax lnc hW.size;first|(go_simp;first|done|with_reducible rfl)));(try simp only[Act.put,aj,au,ak]))
     refine wH (wV rfl rfl rfl rfl ?_ ?_)
     ·skip
      intro K hK;go_simp
      refine HC3.out.mono ?_;rintro e w9 ⟨u1,rfl,hu1,hb9⟩
      have hb79:Below w7.heap.size w7 w9:=hbd.trans hb9
      refine hK.out _ _ hb79 ?_
      (try simp only[Act.put,aj,au,ak])
      refine dw rfl rfl rfl ?_;intro K hK;go_simp
      have hb10:=aI w9 (.cells #[.string k2] 9)
      have hb710:Below w7.heap.size w7 (w9.alloc (.cells #[.string k2] 9)):=hb79.trans (hb10.mono hb79.size)
      refine hK.out _ _ hb710 ?_
      (try simp only[Act.put,aj,au,ak])
      have hown:=(hu1.below hb10)
      have hsrc:Src Tryz.prog 1 22 (.slice (some ⟨w9.heap.size,0,none⟩) 1 1) 1 [.string k2] (w9.alloc (.cells #[.string k2] 9)):=gM (w:=w9) [.string k2] 9 1 1 1 rfl Tryz.underlying22 rfl (by intro u hu;rw[bH.1 hu];rfl)
      generalize w9.alloc (.cells #[.string k2] 9)=w10 at hb710 hown hsrc ⊢
      generalize w9.heap.size=kb9 at hsrc ⊢
      refine dw rfl rfl rfl ?_;intro K hK
      refine mh (.tmp 97) (.tmp 105) 22 22 rfl S w7.heap.size 9 1 16 _ Tryz.underlying22 fV rfl u1 A.keys.length (A.keys.map .string) rfl hown (.slice (some ⟨kb9,0,none⟩) 1 1) 1 [.string k2] rfl hsrc (fun g hg=>ax (hsub7 g hg) hb710.size) hb710.size (by unfold maxLen;omega) (by omega) ?_
      intro ao11 c11 w11 hown11 hk11 hb11 hd11
      have hb711:Below w7.heap.size w7 w11:=hb710.trans hb11
      refine hK.out _ _ hb711 ?_
      (try simp only[Act.put,aj,au,ak])
      refine dw rfl rfl rfl ?_;intro K hK
      refine mh (.tmp 106) (.tmp 110) 22 22 rfl S w7.heap.size 9 1 16 _ Tryz.underlying22 fV rfl (.slice ao11 (A.keys.length+1) c11) (A.keys.length+1) _ rfl hown11 g1 B.keys.length (B.keys.map .string) rfl ((bE.below (bE.below B1 hb27) hb711).src Tryz.underlying22 (nI _)) (fun g hg=>ax (hsub7 g hg) hb711.size) hb711.size (by unfold maxLen;omega) (by omega) ?_
      intro ao12 c12 w12 hown12 hk12 hb12 hd12
      have hb712:Below w7.heap.size w7 w12:=hb711.trans hb12
      refine hK.out _ _ hb712 ?_
      (try simp only[Act.put,aj,au,ak])
      repeat ((refine bO (v:= ?_) rfl rfl (fun _ _ _ h=>h) rfl (fun W hW=> ?_) ?_);rotate_left;(focus ((try dsimp only at hW);have q0:=(hW.cell (p:=⟨na,1,none⟩) lna).trans e1;have q1:=(hW.cell (p:=⟨nbb,1,none⟩) lnb).trans f1;have q2:=ax lna hW.size;have q3:=ax lnb hW.size;have q4:=(hW.cell (p:=⟨nb,1,none⟩) lnn).trans n1;have q5:=ax lnn hW.size;have q6:=(hW.cell (p:=⟨kb0,ko0+j,none⟩) lkk).trans nk1;have q7:=ax lkk hW.size;have q8:=(hW.cell (p:=⟨nc,1,none⟩) lnc).trans nc1;have q9:=ax lnc hW.size;first|(go_simp;first|done|with_reducible rfl)));(try simp only[Act.put,aj,au,ak]))
      have hnc12:=(hb712.block nc lnc).trans bC
      obtain⟨_,m1,_,_,mf,_,lm⟩:=cells3 hnc12
      refine ja rfl rfl rfl (by kernel_rfl) ?_;intro K hK;go_simp
      refine hK.out _ _ ?_
      refine bR ?_
      go_wp2_with fail
      go_meet
      refine⟨?_,hb27.trans ((hb712.mono hb27.size).setCell hnc _)⟩
      rw[hJe]
      exact wJ hnc12 (fun hs=>absurd (hsub2 _ hs) (bF.2 hnc)) (bE.below hP7 hb712) (bE.below hI7 hb712) hz0 hz2 (by
       have:=hown12.dD
       rw[show A.keys.map Value.string++[Value.string k2]++B.keys.map Value.string=(A.keys++[k2]++B.keys).map Value.string from by simp] at this
       unfold iM
       rw[show (A.keys++[k2]++B.keys).length=A.keys.length+1+B.keys.length from by rw[aC,aC,lF]]
       exact this) (hown12.ne hnc12 (by decide))
     ·skip
      intro K hK;go_simp
      have hb79:Below w7.heap.size w7 (w7.alloc (.cells #[.string k2] 9)).drew:=(aI w7 (.cells #[.string k2] 9)).drew
      refine hK.out _ _ hb79 ?_
      (try simp only[Act.put,aj,au,ak])
      have hown0:=(mO (w:=w7) (S:=S) (B:=w7.heap.size) (e:=9) (k:=1) [.string k2] 1 1 rfl rfl (aG _) (by simp[maxLen]) (aG _) hsub7).drew
      generalize (w7.alloc (.cells #[.string k2] 9)).drew=w9 at hb79 hown0 ⊢
      have hC4:=rG a1 A.keys.length (A.keys.map .string) w9 S (fun g hg=>ax (hsub7 g hg) hb79.size) (bE.below (bE.below A1 hb27) hb79) (nI _) lak
      have HC4:=af hC4;clear hC4
      refine dw rfl rfl rfl ?_;intro K hK;go_simp
      refine HC4.out.mono ?_;rintro e w10 ⟨u1,rfl,hu1,hb10⟩
      have hb710:Below w7.heap.size w7 w10:=hb79.trans (hb10.mono hb79.size)
      refine hK.out _ _ hb710 ?_
      (try simp only[Act.put,aj,au,ak])
      have hown:=hu1.base (B:=w7.heap.size) hb79.size
      have hsrc:Src Tryz.prog 1 22 (.slice (some ⟨w7.heap.size,0,none⟩) 1 1) 1 [.string k2] w10:=(hown0.below hb10).dD.src Tryz.underlying22 (by intro u hu;rw[bH.1 hu];rfl)
      refine dw rfl rfl rfl ?_;intro K hK
      refine mh (.tmp 97) (.tmp 105) 22 22 rfl S w7.heap.size 9 1 16 _ Tryz.underlying22 fV rfl u1 A.keys.length (A.keys.map .string) rfl hown (.slice (some ⟨w7.heap.size,0,none⟩) 1 1) 1 [.string k2] rfl hsrc (fun g hg=>ax (hsub7 g hg) hb710.size) hb710.size (by unfold maxLen;omega) (by omega) ?_
      intro ao11 c11 w11 hown11 hk11 hb11 hd11
      have hb711:Below w7.heap.size w7 w11:=hb710.trans hb11
      refine hK.out _ _ hb711 ?_
      (try simp only[Act.put,aj,au,ak])
      refine dw rfl rfl rfl ?_;intro K hK
      refine mh (.tmp 106) (.tmp 110) 22 22 rfl S w7.heap.size 9 1 16 _ Tryz.underlying22 fV rfl (.slice ao11 (A.keys.length+1) c11) (A.keys.length+1) _ rfl hown11 g1 B.keys.length (B.keys.map .string) rfl ((bE.below (bE.below B1 hb27) hb711).src Tryz.underlying22 (nI _)) (fun g hg=>ax (hsub7 g hg) hb711.size) hb711.size (by unfold maxLen;omega) (by omega) ?_
      intro ao12 c12 w12 hown12 hk12 hb12 hd12
      have hb712:Below w7.heap.size w7 w12:=hb711.trans hb12
      refine hK.out _ _ hb712 ?_
      (try simp only[Act.put,aj,au,ak])
      repeat ((refine bO (v:= ?_) rfl rfl (fun _ _ _ h=>h) rfl (fun W hW=> ?_) ?_);rotate_left;(focus ((try dsimp only at hW);have q0:=(hW.cell (p:=⟨na,1,none⟩) lna).trans e1;have q1:=(hW.cell (p:=⟨nbb,1,none⟩) lnb).trans f1;have q2:=ax lna hW.size;have q3:=ax lnb hW.size;have q4:=(hW.cell (p:=⟨nb,1,none⟩) lnn).trans n1;have q5:=ax lnn hW.size;have q6:=(hW.cell (p:=⟨kb0,ko0+j,none⟩) lkk).trans nk1;have q7:=ax lkk hW.size;have q8:=(hW.cell (p:=⟨nc,1,none⟩) lnc).trans nc1;have q9:=ax lnc hW.size;first|(go_simp;first|done|with_reducible rfl)));(try simp only[Act.put,aj,au,ak]))
      have hnc12:=(hb712.block nc lnc).trans bC
      obtain⟨_,m1,_,_,mf,_,lm⟩:=cells3 hnc12
      refine ja rfl rfl rfl (by kernel_rfl) ?_;intro K hK;go_simp
      refine hK.out _ _ ?_
      refine bR ?_
      go_wp2_with fail
      go_meet
      refine⟨?_,hb27.trans ((hb712.mono hb27.size).setCell hnc _)⟩
      rw[hJe]
      exact wJ hnc12 (fun hs=>absurd (hsub2 _ hs) (bF.2 hnc)) (bE.below hP7 hb712) (bE.below hI7 hb712) hz0 hz2 (by
       have:=hown12.dD
       rw[show A.keys.map Value.string++[Value.string k2]++B.keys.map Value.string=(A.keys++[k2]++B.keys).map Value.string from by simp] at this
       unfold iM
       rw[show (A.keys++[k2]++B.keys).length=A.keys.length+1+B.keys.length from by rw[aC,aC,lF]]
       exact this) (hown12.ne hnc12 (by decide))
  case rest=>
   as_aux_lemma=>
    obtain⟨wb,rfl⟩:∃x:World,x=wc:=⟨_,rfl⟩
    obtain⟨hcJ,hb2c⟩:=hcut
    obtain⟨aA,cA,rfl,_,_,_,_⟩:=bE.form A2
    obtain⟨aB,cB,rfl,_,_,_,_⟩:=bE.form B2
    have e2:=(hb2c.cell (p:=⟨na,2,none⟩) lna).trans e2
    have f2:=(hb2c.cell (p:=⟨nbb,2,none⟩) lnb).trans f2
    have lna:=ax lna hb2c.size
    have lnb:=ax lnb hb2c.size
    have hJs:=okJ.size_le
    go_upto_region 9 with fail
    go_cut [132] from 13 to 196 (fun x wx=>x= .bool (decide (512<(eu A B k2).size∧A.kids.length≠1∧B.kids.length≠1))∧Below wb.heap.size wb wx)
    case first=>
     by_cases t1:512<(eu A B k2).size
     ·have s1:(512:Int)<((eu A B k2).size:Int):=by omega
      have T1:=af t1;clear t1
      by_cases t2:A.kids.length=1
      ·have s2:(A.kids.length:Int)=1:=by omega
       have T2:=af t2;clear t2
       go_wp2_with (first
        |(go_at_call 183;go_must ((refine(nD nc _ _ S hcJ hJs).mono ?_);rintro e w8 ⟨rfl,hb8⟩;have e3:=(hb8.cell (p:=⟨na,2,none⟩) lna).trans e2;have f3:=(hb8.cell (p:=⟨nbb,2,none⟩) lnb).trans f2;have lna3:=ax lna hb8.size;have lnb3:=ax lnb hb8.size;clear e2 f2)))
       go_meet
       exact⟨by rw[bD (fun h=>h.2.1 T2.out)],hb8⟩
      ·have s2:¬(A.kids.length:Int)=1:=by omega
       have s2':((A.kids.length:Int)==1)=false:=by rw[di];omega
       have T2:=af t2;clear t2
       by_cases t3:B.kids.length=1
       ·have s3:(B.kids.length:Int)=1:=by omega
        have T3:=af t3;clear t3
        go_wp2_with (first
         |(go_at_call 183;go_must ((refine(nD nc _ _ S hcJ hJs).mono ?_);rintro e w8 ⟨rfl,hb8⟩;have e3:=(hb8.cell (p:=⟨na,2,none⟩) lna).trans e2;have f3:=(hb8.cell (p:=⟨nbb,2,none⟩) lnb).trans f2;have lna3:=ax lna hb8.size;have lnb3:=ax lnb hb8.size;clear e2 f2)))
        go_meet
        exact⟨by rw[bD (fun h=>h.2.2 T3.out)],hb8⟩
       ·have s3:¬(B.kids.length:Int)=1:=by omega
        have s3':((B.kids.length:Int)==1)=false:=by rw[di];omega
        have T3:=af t3;clear t3
        go_wp2_with (first
         |(go_at_call 183;go_must ((refine(nD nc _ _ S hcJ hJs).mono ?_);rintro e w8 ⟨rfl,hb8⟩;have e3:=(hb8.cell (p:=⟨na,2,none⟩) lna).trans e2;have f3:=(hb8.cell (p:=⟨nbb,2,none⟩) lnb).trans f2;have lna3:=ax lna hb8.size;have lnb3:=ax lnb hb8.size;clear e2 f2)))
        go_meet
        exact⟨by rw[bT ⟨T1.out,T2.out,T3.out⟩];have q2:=T2.out;have q3:=T3.out;congr 1;rw[dS];constructor<;>rw[bne_iff_ne]<;>omega,hb8⟩
     ·have s1:¬(512:Int)<((eu A B k2).size:Int):=by omega
      have T1:=af t1;clear t1
      go_wp2_with (first
       |(go_at_call 183;go_must ((refine(nD nc _ _ S hcJ hJs).mono ?_);rintro e w8 ⟨rfl,hb8⟩;clear e2 f2)))
      go_meet
      exact⟨by rw[bD (fun h=>T1.out h.1)],hb8⟩
    case rest=>
     obtain⟨rfl,hbcd⟩:=hcut
     have hbw:Below w.heap.size w wc:=(hbw2.trans (hb2c.mono hbw2.size)).trans (hbcd.mono (aH hbw2.size hb2c.size))
     have hcJ':=hcJ.below hbcd
     have hIc:=HI.out.below hbw
     have hTc:=(HT.out).step hst (Step.of_below (S:=S) hbw)
     have hNc:=HN.out.below hbw
     have hSJc:=HSJ.out.step (Step.of_below (S:=S) hbw) hst hSb hSp
     clear hb2c hbcd hcJ e2 f2 lna lnb hb27 hP7 hI7 hcn hbC hz0 hz2 hHA7 hb1 hb2 HI1 HI2 hsj2 e0 e1 f0 f1 A0 A1 B0 B1
     by_cases hout:512<(eu A B k2).size∧A.kids.length≠1∧B.kids.length≠1
     ·have ho:decide (512<(eu A B k2).size∧A.kids.length≠1∧B.kids.length≠1)=true:=bT hout
      rw[ho]
      have HO:=af hout;clear hout ho
      go_wp2_with fail
      refine mK (zk rfl _ _ _) rfl ?_
      exact .inl ⟨rfl,σ,S,nd,hIc,hNc,Keep.of_below hbw _,fun g hg=> .inl hg,.inl ⟨HO.out.1,HO.out.2.1,HO.out.2.2,rfl,rfl⟩⟩
     ·have ho:decide (512<(eu A B k2).size∧A.kids.length≠1∧B.kids.length≠1)=false:=bD hout
      rw[ho]
      have HNO:=af hout
      clear hout ho
      have hf1:=qG mp σ S wc.drew b1 (hIc.below ((aQ _ wc).drew)) HA.out.lo HA.out.has
      have HF1:=af hf1;clear hf1
      have hm:∀w,(method 475 105 mp.agg "Free").run Tryz.prog w= .ok (285,.pointer (some ⟨mp.mp,0,none⟩)) w:=fun _=>by kernel_rfl
      obtain⟨q0,q1,q2,q3,q4,q5,q6⟩:=hSJc.cells
      clear q0 q1 q2 q3 q4 q5 q6
      have hj5:(j:Int)<(nd.kids.length:Int):=by omega
      have hj6:(j:Int)+1<(nd.kids.length:Int):=by omega
      go_wp2_with fail
      refine aP (fun W=>SJ t mp nb pb po j nd.kids.length cp2 root err b1 b2 v0 v1 W) (fun i=> !([13,14].contains i)) [0,1,2,3,4,5,6,7,8,9,10,11,12,13,14] rfl (by kernel_rfl) hSJc ?_
      repeat ((refine bO (v:= ?_) rfl rfl (fun _ _ _ h=>h) rfl (fun W hW=> ?_) ?_);rotate_left;(focus ((try dsimp only at hW);obtain⟨q0,q1,q2,q3,q4,q5,q6⟩:=hW.cells;first|(go_simp;first|done|with_reducible rfl)));(try simp only[Act.put,aj,au,ak]))
      refine dw rfl rfl rfl ?_;intro K hK;go_simp
      refine HF1.out.mono ?_;rintro e w3 ⟨rfl,hI3,hs3⟩
      have hs3:Step S S wc w3:=(Step.of_below ((aQ _ wc).drew)).trans hs3
      have hSJ3:=hSJc.step hs3 hst hSb hSp
      refine hK.out _ _ hSJ3 ?_
      (try simp only[Act.put,aj,au,ak])
      refine dw rfl rfl rfl ?_;intro K hK;go_simp
      refine(nK _).mono ?_;rintro e w4 ⟨rfl,hw⟩;subst w4
      refine hK.out _ _ hSJ3 ?_
      refine bR ?_
      have hf2:=qG mp (σ.gone b1) S w3.drew b2 (hI3.below ((aQ _ w3).drew)) HB.out.lo HB2.out
      have HF2:=af hf2;clear hf2
      have hpw:IntKind.i64.wrap ((j:Int)+1)=(j:Int)+1:=aR _ (by omega)
      have hpt:((j:Int)+1).toNat=j+1:=by omega
      have hp0:(0:Int)≤(j:Int)+1:=by omega
      go_wp2_with fail
      refine aP (fun W=>SJ t mp nb pb po j nd.kids.length cp2 root err b1 b2 v0 v1 W) (fun i=> !([14,15].contains i)) [0,1,2,3,4,5,6,7,8,9,10,11,12,13,14,15] rfl (by kernel_rfl) hSJ3 ?_
      repeat ((refine bO (v:= ?_) rfl rfl (fun _ _ _ h=>h) rfl (fun W hW=> ?_) ?_);rotate_left;(focus ((try dsimp only at hW);obtain⟨q0,q1,q2,q3,q4,q5,q6⟩:=hW.cells;first|(go_simp;first|done|with_reducible rfl)));(try simp only[Act.put,aj,au,ak]))
      refine dw rfl rfl rfl ?_;intro K hK;go_simp
      refine HF2.out.mono ?_;rintro e w4 ⟨rfl,hI4,hs4⟩
      have hs4:Step S S w3 w4:=(Step.of_below ((aQ _ w3).drew)).trans hs4
      have hSJ4:=hSJ3.step hs4 hst hSb hSp
      refine hK.out _ _ hSJ4 ?_
      (try simp only[Act.put,aj,au,ak])
      refine dw rfl rfl rfl ?_;intro K hK;go_simp
      refine(nK _).mono ?_;rintro e w5 ⟨rfl,hw⟩;subst w5
      refine hK.out _ _ hSJ4 ?_
      refine bR ?_
      clear hpw hpt hp0
      have hs14:Step S S wc w4:=hs3.trans hs4
      have hT4:=hTc.1.step hTc.2 hs14
      have hJ4:=hcJ'.step hs14
      have hN4:=hNc.step hs14
      have hst4:Step S S w w4:=(Step.of_below hbw).trans hs14
      clear hSJc hSJ3 hSJ4 hIc hTc hNc hI3 hs3 hs4 hcJ'
      go_wp2_with (first
       |(go_at_call 149;go_must ((refine(pu t mp root err _ ((σ.gone b1).gone b2) S nc (eu A B k2) ⟨#[]⟩ w4 hI4 hT4.1 hT4.2 hJ4 okJ (gD _)).mono ?_);rintro e w5 (⟨v,ps,zs,σ',S',rfl,hown,hspr,hputs,hI5,hs5⟩|⟨hno,rfl,τ,Sτ,g1,g2,g3,g4⟩)<;>refine Stop.of ?_)))
      rotate_left
      ·refine Stop.on ?_
       exact⟨rfl,.inr ⟨hno,rfl,τ,Sτ,g1,hst4.trans g2,g3,g4⟩⟩
      refine Stop.on ?_
      have hst5:Step S S' w w5:=hst4.trans hs5
      obtain⟨hSb5,n0,n1,n2,bN,N0,N1,N2⟩:=HN.out.step hst5
      obtain⟨ao0,cp0,rfl,_,_,_,_⟩:=bE.form N0
      obtain⟨ao1,cp1,rfl,_,_,_,_⟩:=bE.form N1
      obtain⟨ao2,cp2',rfl,_,_,_,_⟩:=bE.form N2
      have hkpos:0<nd.keys.length:=by have:=HKK.out;omega
      have hkl:nd.keys.length≤1000000:=by have:=HKK.out;omega
      have hjk:j<nd.keys.length:=by have:=HKK.out;omega
      have hne1:=OG bN N1 hkpos
      obtain⟨_,_,y2,_,_,_,ly⟩:=cells3 bN
      have hC5:=rH (.slice ao2 nd.kids.length cp2') nd.kids.length (nd.kids.map (.int .i64)) w5 S' hI5.sub N2 (wI _) (by omega)
      have HC5:=af hC5;clear hC5
      have hpw:IntKind.i64.wrap ((j:Int)+1)=(j:Int)+1:=aR _ (by omega)
      have hpw2:IntKind.i64.wrap ((j:Int)+2)=(j:Int)+2:=aR _ (by omega)
      go_wp2_with (first
       |(go_at_call 189;go_must (refine HC5.out.mono ?_;rintro e w6 ⟨u1,rfl,hu1,hb6⟩;refine Stop.of ?_)))
      refine Stop.on ?_
      obtain⟨g6,c6',rfl,_,_,hg6,_⟩:=hu1.AP (by omega)
      have hD6:=IV g6 c6' nd.kids.length (j+1) (nd.kids.map (.int .i64)) w6 S' w5.heap.size hu1 (wI _) (by omega) (by omega)
      rw[show ((j+1:Nat):Int)=(j:Int)+1 from by omega,show (j:Int)+1+1=(j:Int)+2 from by omega] at hD6
      have HD6:=af hD6;clear hD6
      go_wp2_with (first
       |(go_at_call 192;go_must (refine HD6.out.mono ?_;rintro e w7 ⟨c7,rfl,hu7,hk7⟩;refine Stop.of ?_)))
      refine Stop.on ?_
      have hgb:nb≠g6:=fun e=>by rw[←e] at hg6;exact absurd ly (bF.2 hg6)
      have ly6:=ax ly hb6.size
      have bN7:w7.heap[nb]? =some (.cells #[.slice ao0 nd.pairs.length cp0,.slice ao1 nd.keys.length cp1,.slice ao2 nd.kids.length cp2'] 189 (0,0)):=(hk7.block nb ly6 hgb).trans ((hb6.block nb ly).trans bN)
      have hb57:Below w5.heap.size w5 w7:=hb6.trans (hk7.gG hb6.size (fun i hi e=>absurd hg6 (fq.2 (by rw[←e];exact hi))))
      obtain⟨_,_,z2,_,_,zf,lz⟩:=cells3 bN7
      clear y2
      go_upto_region 14 with fail
      have hk8:Keep (· =nb) w7 (w7.setCell ⟨nb,2,none⟩ (.slice (some ⟨g6,0,none⟩) (nd.kids.length - 1) c7)):=Keep.setCell (M:=(· =nb)) (p:=⟨nb,2,none⟩) (Keep.refl _ _) (.inr rfl) _
      have bN8:(w7.setCell ⟨nb,2,none⟩ (.slice (some ⟨g6,0,none⟩) (nd.kids.length - 1) c7)).heap[nb]? =some (.cells #[.slice ao0 nd.pairs.length cp0,.slice ao1 nd.keys.length cp1,.slice (some ⟨g6,0,none⟩) (nd.kids.length - 1) c7] 189 (0,0)):=by
       simp[World.setCell,aW,bN7]
      clear z2 zf lz
      generalize w7.setCell ⟨nb,2,none⟩ (.slice (some ⟨g6,0,none⟩) (nd.kids.length - 1) c7)=w8 at hk8 bN8 ⊢
      have N18:iM w8 S' (.slice ao1 nd.keys.length cp1) nd.keys:=bE.keep (bE.below N1 hb57) fun g hg hl hs=>⟨hk8.block g hl (fun e=>hne1 (by rw[hg,e])),hs⟩
      have hu8:=hu7.keep (w':=w8) (S':=S') fun g hg hl hs=>⟨hk8.block g hl (fun e=>hu7.ne bN7 (by decide) (by rw[hg,e])),hs⟩
      have hbw8:∀g,g<w5.heap.size→g≠nb→w8.heap[g]? =w5.heap[g]? :=fun g hg hn=>(hk8.block g (ax hg hb57.size) hn).trans (hb57.block g hg)
      have hsz8:w5.heap.size≤w8.heap.size:=aH hb57.size hk8.size
      have hsub8:∀g,S' g→g<w8.heap.size:=fun g hg=>ax (hI5.sub g hg) hsz8
      obtain⟨_,y1,_,_,_,_,ly8⟩:=cells3 bN8
      have hC8:=rG (.slice ao1 nd.keys.length cp1) nd.keys.length (nd.keys.map .string) w8 S' hsub8 N18 (nI _) hkl
      have HC8:=af hC8;clear hC8
      go_wp2_with (first
       |(go_at_call 191;go_must (refine HC8.out.mono ?_;rintro e w9 ⟨u2,rfl,hu9,hb9⟩;refine Stop.of ?_)))
      refine Stop.on ?_
      obtain⟨g9,c9,rfl,_,_,hg9,_⟩:=hu9.AP hkpos
      have hD9:=IU g9 c9 nd.keys.length j (nd.keys.map .string) w9 S' w8.heap.size hu9 (nI _) hjk hkl
      have HD9:=af hD9;clear hD9
      go_wp2_with (first
       |(go_at_call 193;go_must (refine HD9.out.mono ?_;rintro e w10 ⟨c10,rfl,hu10,hk10⟩;refine Stop.of ?_)))
      refine Stop.on ?_
      have hgb9:nb≠g9:=fun e=>by rw[←e] at hg9;exact absurd ly8 (bF.2 hg9)
      have bN10:w10.heap[nb]? =some (.cells #[.slice ao0 nd.pairs.length cp0,.slice ao1 nd.keys.length cp1,.slice (some ⟨g6,0,none⟩) (nd.kids.length - 1) c7] 189 (0,0)):=(hk10.block nb (ax ly8 hb9.size) hgb9).trans ((hb9.block nb ly8).trans bN8)
      have hb810:Below w8.heap.size w8 w10:=hb9.trans (hk10.gG hb9.size (fun i hi e=>absurd hg9 (fq.2 (by rw[←e];exact hi))))
      obtain⟨_,z1,_,_,zf,_,lz⟩:=cells3 bN10
      clear y1
      go_upto_region 15 with fail
      have hk11:Keep (· =nb) w10 (w10.setCell ⟨nb,1,none⟩ (.slice (some ⟨g9,0,none⟩) (nd.keys.length - 1) c10)):=Keep.setCell (M:=(· =nb)) (p:=⟨nb,1,none⟩) (Keep.refl _ _) (.inr rfl) _
      have bN11:(w10.setCell ⟨nb,1,none⟩ (.slice (some ⟨g9,0,none⟩) (nd.keys.length - 1) c10)).heap[nb]? =some (.cells #[.slice ao0 nd.pairs.length cp0,.slice (some ⟨g9,0,none⟩) (nd.keys.length - 1) c10,.slice (some ⟨g6,0,none⟩) (nd.kids.length - 1) c7] 189 (0,0)):=by
       simp[World.setCell,aW,bN10]
      clear z1 zf lz
      generalize w10.setCell ⟨nb,1,none⟩ (.slice (some ⟨g9,0,none⟩) (nd.keys.length - 1) c10)=w11 at hk11 bN11 ⊢
      have hu11:=hu10.keep (w':=w11) (S':=S') fun g hg hl hs=>⟨hk11.block g hl (fun e=>hu10.ne bN10 (by decide) (by rw[hg,e])),hs⟩
      have hu811:=(hu8.below hb810).keep (w':=w11) (S':=S') fun g hg hl hs=>⟨hk11.block g hl (fun e=>(hu8.below hb810).ne bN10 (by decide) (by rw[hg,e])),hs⟩
      have hsz11:w5.heap.size≤w11.heap.size:=aH hsz8 (aH hb810.size hk11.size)
      have hbw11:∀g,g<w5.heap.size→g≠nb→w11.heap[g]? =w5.heap[g]? :=fun g hg hn=>(hk11.block g (ax hg (aH hsz8 hb810.size)) hn).trans ((hb810.block g (ax hg hsz8)).trans (hbw8 g hg hn))
      have hkeep:Keep (· =nb) w5 w11:=⟨hk11.os.trans (hb810.os.trans (hk8.os.trans hb57.os)),hk11.tape.trans (hb810.tape.trans (hk8.tape.trans hb57.tape)),hk11.output.trans (hb810.output.trans (hk8.output.trans hb57.output)),hsz11,fun g hg hn=>hbw11 g hg hn⟩
      have hlenk:(nd.jS j).kids.length=nd.kids.length - 1:=by simp[Nd.jS];omega
      have hlenks:(nd.jS j).keys.length=nd.keys.length - 1:=by simp[Nd.jS];omega
      have hN11:fF w11 S' nb (nd.jS j):=by
       refine⟨hSb5,_,_,_,bN11,?_,?_,?_⟩
       ·have e:(nd.jS j).pairs=[]:=HP.out
        rw[e]
        have N0':=N0
        unfold mJ at N0' ⊢
        rw[HP.out] at N0' ⊢
        exact bE.empty N0' hsz11
       ·have:=hu11.dD
        unfold iM
        rw[hlenks]
        have e:(nd.jS j).keys.map Value.string=(nd.keys.map Value.string).take (j*1)++(nd.keys.map Value.string).drop ((j+1)*1):=by simp[Nd.jS,gI,fK]
        rw[e];exact this
       ·have:=hu811.dD
        unfold jr
        rw[hlenk]
        have e:(nd.jS j).kids.map (Value.int .i64)=(nd.kids.map (Value.int .i64)).take ((j+1)*1)++(nd.kids.map (Value.int .i64)).drop ((j+1+1)*1):=by simp[Nd.jS,gI,fK]
        rw[e];exact this
      have hown11:=hown.keep (w':=w11) (S':=S') fun g hg hl hs=>⟨hkeep.block g hl (fun e=>hown.ne bN (by decide) (by rw[hg,e])),hs⟩
      have hI11:=hI5.jZ hkeep (fun g hg e=>hSb5 (by rw[←e];exact hg))
      have hpl:ps.length≤100000:=by
       have e1:=hputs.length.1
       have e2:=hspr.room okJ
       have e3:=room_le okJ
       omega
      have hR:=yG nb (nd.jS j) v ps j w11 S' hI11.sub hN11 HP.out hown11.dD (by rw[hlenk];omega) (by rw[hlenk,hlenks,HKK.out]) (by rw[hlenk];omega) hpl
      have HRp:=af hR;clear hR
      have HSP:=af hspr;clear hspr
      have HPU:=af hputs;clear hputs
      go_wp2_with (first
       |(go_at_call 152;go_must (refine HRp.out.mono ?_;rintro e w12 ⟨rfl,hN12,hk12⟩)))
      go_end0
      refine .inl ⟨rfl,σ',S',_,hI11.jZ hk12 (fun g hg e=>hSb5 (by rw[←e];exact hg)),hN12,?_,hst5.2,.inr ⟨ps,zs,HSP.out,HPU.out,rfl,HNO.out⟩⟩
      exact((hst5.1.mono (fun _ _ h=> .inl h)).trans hkeep (fun _ _ h=> .inr h)).trans hk12 (fun _ _ h=> .inr h)
def vP (σ σ':cK) (W:Nat):Prop:=σ'.sz≤σ.sz+W∧∀L,σ.sz+W≤L→σ.tk≤L→σ'.tk≤L
theorem vP.refl (σ:cK):vP σ σ 0:=⟨aG _,fun _ _ t=>t⟩
theorem vP.trans {σ σ1 σ2:cK} {a b:Nat} (h:vP σ σ1 a) (k:vP σ1 σ2 b):vP σ σ2 (a+b):=
 ⟨by have:=h.1;have:=k.1;omega,fun L r t=>k.2 L (by have:=h.1;omega) (h.2 L (by omega) t)⟩
theorem vP.more {σ σ':cK} {a b:Nat} (h:vP σ σ' a) (hb:a≤b):vP σ σ' b:=
 ⟨by have:=h.1;omega,fun L r t=>h.2 L (by omega) t⟩
theorem Puts.Rl {σ σ':cK} {ps:List Pc} {zs:List (ByteArray×Nd)} (h:Puts σ ps zs σ'):vP σ σ' ps.length:=by
 obtain⟨e1,e2,_,_,e3⟩:=h.length
 exact⟨by omega,fun L r t=>by omega⟩
theorem uM.small {nd:Nd} {l:ByteArray} {zs:List (ByteArray×Nd)} (h:uM nd l zs) (hs:nd.size≤512):zs.length≤1:=by
 cases h with
 |none=>simp
 |one=>simp
 |leaf i hi hk hs'=>omega
 |inner i hi hk hs'=>omega
theorem EX (ps:List Pr) (i:Nat):dU (ps.take i)+dU (ps.drop i)=dU ps:=by rw[←jV,bI]
theorem rC (ps:List ByteArray) (i:Nat):dY (ps.take i)+dY (ps.drop i)=dY ps:=by rw[←jf,bI]
theorem EW (ps:List Pr) {i j:Nat} (h:i≤j):dU (ps.take i)≤dU (ps.take j):=by
 have:=jF (ps.take j) i
 rwa [dF,bM h] at this
theorem uN.parts {ps:List Pr} (hp:∀p∈ps,p.1.size≤128∧p.2.size≤64) {i:Nat} (h1:1≤i) (hi:i<ps.length) (h:uN ⟨ps,[],[]⟩ i) (hs:Nd.size ⟨ps,[],[]⟩≤706):
  Nd.size ⟨ps.drop i,[],[]⟩≤512∧dU (ps.take (i - 1))≤353∧Nd.size ⟨ps.take i,[],[]⟩≤550:=by
 obtain⟨c1,c2⟩:=h
 have e:∀qs:List Pr,Nd.size ⟨qs,[],[]⟩=2+dU qs:=fun qs=>by simp[Nd.size,dY]
 rw[e] at hs c1 c2
 rw[e,e]
 have hd:=EX ps i
 have ht:=ou ps (i - 1) (by omega)
 rw[show i - 1+1=i by omega] at ht
 have hq:=hp _ (bq (show i - 1<ps.length by omega))
 have hlo:dU (ps.take (i - 1))≤353:=by
  by_cases h2:1<i
  ·have:=c1 h2;simp only at this;omega
  ·rw[show i - 1=0 by omega];simp[dU]
 refine⟨?_,hlo,by omega⟩
 rcases c2 with c2|c2
 ·have hl:(ps.drop i).length≤1:=by simp only at c2;rw[aO];omega
  have:=sM (ps.drop i) (fun p hp'=>hp p (bS hp'))
  omega
 ·simp only at c2;omega
theorem uM.Ry {nd:Nd} {l:ByteArray} {zs:List (ByteArray×Nd)} (h:uM nd l zs) (hk:nd.kids=[]) (hkk:nd.keys=[]) (hp:∀p∈nd.pairs,p.1.size≤128∧p.2.size≤64) (hs:nd.size≤706):zs.length≤3:=by
 obtain⟨ps,ks,ns⟩:=nd
 simp only at hk hkk hp
 subst hk hkk
 cases h with
 |none=>simp
 |one=>simp
 |inner i hi hk=>exact absurd rfl hk
 |leaf i hi hk hs' h1 hc sa sb=>
  obtain⟨a,b,c⟩:=uN.parts hp h1 hi hc hs
  have e2:=sb.small a
  have e1:∀{A:List (ByteArray×Nd)},uM ⟨ps.take i,[],[]⟩ l A→A.length≤2:=by
   intro A sa
   have hp':∀p∈ps.take i,p.1.size≤128∧p.2.size≤64:=fun p hp'=>hp p (dZ hp')
   cases sa with
   |none=>simp
   |one=>simp
   |inner i hi hk=>exact absurd rfl hk
   |leaf i2 hi2 hk2 hs2 h12 hc2 sa2 sb2=>
    obtain⟨a2,_,_⟩:=uN.parts hp' h12 hi2 hc2 (by omega)
    have f2:=sb2.small a2
    have hi2':i2<(ps.take i).length:=hi2
    rw[aD] at hi2'
    have f1:=sa2.small (by
     show Nd.size ⟨(ps.take i).take i2,[],[]⟩≤512
     rw[dF,bM (by omega)]
     have:=EW ps (show i2≤i - 1 by omega)
     simp[Nd.size,dY];omega)
    rw[aC];omega
  have:=e1 sa
  rw[aC];omega
def Lh (K:Nat):Nat:=if K≤4 then 0 else if K≤8 then 1 else if K≤16 then 2 else if K≤32 then 3 else if K≤64 then 4 else if K≤128 then 5 else if K≤256 then 6 else if K≤512 then 7 else K
theorem tZ (n:Nat):(n≤4∧Lh n=0)∨(4<n∧n≤8∧Lh n=1)∨(8<n∧n≤16∧Lh n=2)∨(16<n∧n≤32∧Lh n=3)∨(32<n∧n≤64∧Lh n=4)∨(64<n∧n≤128∧Lh n=5)∨(128<n∧n≤256∧Lh n=6)∨(256<n∧n≤512∧Lh n=7)∨(512<n∧Lh n=n):=by
 unfold Lh
 by_cases h0:n≤4
 ·exact .inl ⟨h0,if_pos h0⟩
 rw[if_neg h0]
 by_cases h1:n≤8
 ·exact .inr (.inl ⟨by omega,h1,if_pos h1⟩)
 rw[if_neg h1]
 by_cases h2:n≤16
 ·exact .inr (.inr (.inl ⟨by omega,h2,if_pos h2⟩))
 rw[if_neg h2]
 by_cases h3:n≤32
 ·exact .inr (.inr (.inr (.inl ⟨by omega,h3,if_pos h3⟩)))
 rw[if_neg h3]
 by_cases h4:n≤64
 ·exact .inr (.inr (.inr (.inr (.inl ⟨by omega,h4,if_pos h4⟩))))
 rw[if_neg h4]
 by_cases h5:n≤128
 ·exact .inr (.inr (.inr (.inr (.inr (.inl ⟨by omega,h5,if_pos h5⟩)))))
 rw[if_neg h5]
 by_cases h6:n≤256
 ·exact .inr (.inr (.inr (.inr (.inr (.inr (.inl ⟨by omega,h6,if_pos h6⟩))))))
 rw[if_neg h6]
 by_cases h7:n≤512
 ·exact .inr (.inr (.inr (.inr (.inr (.inr (.inr (.inl ⟨by omega,h7,if_pos h7⟩)))))))
 rw[if_neg h7]
 exact .inr (.inr (.inr (.inr (.inr (.inr (.inr (.inr (⟨by omega,rfl⟩))))))))
theorem PG {a b:Nat} (h:a≤b):Lh a≤Lh b:=by
 have h1:=tZ a
 have h2:=tZ b
 omega
theorem JQ {K a:Nat} (h:5≤K) (ha:2*a≤K+1):Lh a+1≤Lh K:=by
 have h1:=tZ a
 have h2:=tZ K
 omega
theorem uM.QJ {nd:Nd} {l:ByteArray} {zs:List (ByteArray×Nd)} (h:uM nd l zs):nd.Ok→nd.kids≠[]→zs.length≤1+(nd.size - 1)/512*Lh nd.kids.length:=by
 induction h with
 |none h1=>intro _ hk;exact absurd h1 hk
 |one=>intro _ _;simp
 |leaf i hi hk=>intro _ hk';exact absurd hk hk'
 |@inner nd l i hi A B hk hs hi1 sa sb iha ihb=>
  intro ok _
  have h5:=(ok.big hs).2 hk
  have n1:nd.kids.take i≠[]:=fun e=>by have:=congrArg List.length e;simp only[aD,bG] at this;omega
  have n2:nd.kids.drop i≠[]:=fun e=>by have:=congrArg List.length e;simp only[aO,bG] at this;omega
  have a:=iha (ok.Cy i (by omega)) n1
  have b:=ihb (ok.xQ i) n2
  have hp:=ok.one hk
  have s1:Nd.size ⟨[],nd.keys.take (i - 1),nd.kids.take i⟩=2+dY (nd.keys.take (i - 1))+2*i:=by
   simp only[Nd.size,dU,iw,List.sum_nil,aD];omega
  have s2:Nd.size ⟨[],nd.keys.drop i,nd.kids.drop i⟩=2+dY (nd.keys.drop i)+2*(nd.kids.length - i):=by
   simp only[Nd.size,dU,iw,List.sum_nil,aO];omega
  have s0:nd.size=2+dY nd.keys+2*nd.kids.length:=by
   unfold Nd.size;rw[hp];simp[dU]
  have t1:=ru nd.keys (i - 1) hi
  rw[show i - 1+1=i by omega] at t1
  have t2:=rC nd.keys i
  have hl1:(nd.kids.take i).length=i:=by rw[aD];omega
  have hl2:(nd.kids.drop i).length=nd.kids.length - i:=aO
  simp only[hl1] at a
  simp only[hl2] at b
  have l1:=JQ (a:=i) h5 (by omega)
  have l2:=JQ (a:=nd.kids.length - i) h5 (by omega)
  obtain⟨m1,hm1⟩:∃m,m=(Nd.size ⟨[],nd.keys.take (i - 1),nd.kids.take i⟩ - 1)/512:=⟨_,rfl⟩
  obtain⟨m2,hm2⟩:∃m,m=(Nd.size ⟨[],nd.keys.drop i,nd.kids.drop i⟩ - 1)/512:=⟨_,rfl⟩
  obtain⟨m,hm⟩:∃m,m=(nd.size - 1)/512:=⟨_,rfl⟩
  have hmm:m1+m2≤m:=by rw[hm1,hm2,hm];omega
  have hm0:1≤m:=by omega
  rw[←hm1] at a
  rw[←hm2] at b
  rw[←hm]
  generalize Lh nd.kids.length=K at l1 l2 ⊢
  have a':m1*Lh i≤m1*(K - 1):=pR _ (by omega)
  have b':m2*Lh (nd.kids.length - i)≤m2*(K - 1):=pR _ (by omega)
  have c':(m1+m2)*(K - 1)≤m*(K - 1):=bW _ hmm
  rw[eF] at c'
  have d':m*K=m*(K - 1)+m:=by rw[←Nat.mul_succ];congr 1;omega
  rw[aC]
  omega
def TT (x K:Nat):Nat:=min ((511+131*x)/512*Lh K) (K/2 - 1)
theorem JP {x x' K K':Nat} (hx:x≤x') (hK:K≤K'):TT x K≤TT x' K':=by
 unfold TT
 have h1:(511+131*x)/512≤(511+131*x')/512:=Nat.div_le_div_right (by omega)
 have h2:=Nat.mul_le_mul h1 (PG hK)
 omega
theorem uM.tt {nd:Nd} {l:ByteArray} {zs:List (ByteArray×Nd)} (h:uM nd l zs) (ok:nd.Ok) (hk:nd.kids≠[]) {x K:Nat} (hs:nd.size≤512+131*x) (hK:nd.kids.length≤K):zs.length≤1+TT x K:=by
 refine aH ?_ (Nat.add_le_add_left (JP (aG x) hK) 1)
 have a:=h.QJ ok hk
 have b:=h.room ok
 have c:(nd.size - 1)/512*Lh nd.kids.length≤(511+131*x)/512*Lh nd.kids.length:=bW _ (Nat.div_le_div_right (by omega))
 unfold Nd.room at b
 rw[ok.one hk,if_neg hk] at b
 simp only[bG] at b
 unfold TT
 omega
def cA (l:Nat):Nat:=[0,594,519,132,24].getD l 0
def cB (l:Nat):Nat:=[0,3,1,38].getD l 24
def cX (h:Nat):Nat:=[2,7,12,20,24,20,14,8,4].getD h 2
def Wb (h W q c:Nat):Prop:=c≤299→24*W+cA (h+1)+cB (h+1)*(q - 1)≤672+3*c∧q - 1≤cX h
theorem OA {q:Nat} (h:q≤3) (c:Nat):Wb 0 q q c:=fun _=>by
 show 24*q+594+3*(q - 1)≤672+3*c∧q - 1≤2
 omega
def P6:Bool:=(List.range 9).all fun h=>(List.range (cX h+1)).all fun x=>(List.range (299/2^h+1)).all fun k=>
 decide (24*(2+TT x (k+1+x))+cA (h+2)+cB (h+2)*TT x (k+1+x)≤cA (h+1)+cB (h+1)*x+3*(k*2^h)∨k=0) && decide (TT x (k+1+x)≤cX (h+1)∨k=0)
def R8 (j:Nat):Nat:=[2,4,8,16,32,64,128,256].getD j 512
def P5:Bool:=(List.range 8).all fun h=>(List.range (299/2^(h+1)+1)).all fun k=>(List.range 8).all fun j=>
 decide (299<k*2^(h+1)+R8 j*2^h)||(decide (24*(2+j+TT j (k+2+j))+cA (h+3)+cB (h+3)*TT j (k+2+j)≤cA (h+2)+3*(k*2^(h+1)+R8 j*2^h)) && decide (TT j (k+2+j)≤cX (h+2)))
theorem NK:P6=true:=by decide+kernel
theorem NI:P5=true:=by decide+kernel
theorem EZ {h k:Nat} (hk:1≤k) (hc:k*2^h≤299):h<9:=by
 apply jK
 intro hn
 have h1:2^9≤2^h:=JY (by omega) (by omega)
 have h2:1*2^h≤k*2^h:=bW _ hk
 omega
theorem NM {h x k:Nat} (hx:x≤cX h) (hk:2≤k) (hc:(k - 1)*2^h≤299):
  24*(2+TT x (k+x))+cA (h+2)+cB (h+2)*TT x (k+x)≤cA (h+1)+cB (h+1)*x+3*((k - 1)*2^h)∧TT x (k+x)≤cX (h+1):=by
 have hh:=EZ (show 1≤k - 1 by omega) hc
 have hd:k - 1<299/2^h+1:=Nat.lt_succ_of_le ((Nat.le_div_iff_mul_le (Nat.two_pow_pos h)).2 hc)
 have cert:=NK
 unfold P6 at cert
 have c1:=kU.1 cert h (mX.2 hh)
 have c2:=kU.1 c1 x (mX.2 (by omega))
 have c3:=kU.1 c2 (k - 1) (mX.2 hd)
 rw[dS,bY,bY,show k - 1+1=k by omega] at c3
 exact⟨c3.1.resolve_right (by omega),c3.2.resolve_right (by omega)⟩
theorem QF {kb:Nat} (h2:2≤kb) (h9:kb≤299):TT 1 (kb+1)<8∧R8 (TT 1 (kb+1))≤kb:=by
 have h:=tZ (kb+1)
 have ht:TT 1 (kb+1)≤Lh (kb+1):=by unfold TT;omega
 have h8:TT 1 (kb+1)<8:=by omega
 refine⟨h8,?_⟩
 generalize TT 1 (kb+1)=j at ht h8 ⊢
 generalize Lh (kb+1)=l at h ht
 have hj:j=0∨j=1∨j=2∨j=3∨j=4∨j=5∨j=6∨j=7:=by omega
 rcases hj with rfl|rfl|rfl|rfl|rfl|rfl|rfl|rfl
 ·show 2≤kb;omega
 ·show 4≤kb;omega
 ·show 8≤kb;omega
 ·show 16≤kb;omega
 ·show 32≤kb;omega
 ·show 64≤kb;omega
 ·show 128≤kb;omega
 ·show 256≤kb;omega
theorem NJ {h k kb:Nat} (h2:2≤kb) (hk:2≤k) (hc:(k - 2)*2^(h+1)+kb*2^h≤299):
  24*(2+TT 1 (kb+1)+TT (TT 1 (kb+1)) (k+TT 1 (kb+1)))+cA (h+3)+cB (h+3)*TT (TT 1 (kb+1)) (k+TT 1 (kb+1))≤cA (h+2)+3*((k - 2)*2^(h+1)+kb*2^h)∧TT (TT 1 (kb+1)) (k+TT 1 (kb+1))≤cX (h+2):=by
 have hp:=Nat.two_pow_pos h
 have hkb:kb≤299:=by
  have:kb*1≤kb*2^h:=pR _ hp
  omega
 have hh:h<8:=by
  apply jK
  intro hn
  have h1:2^8≤2^h:=JY (by omega) (by omega)
  have h3:2*2^h≤kb*2^h:=bW _ h2
  omega
 obtain⟨j8,jb⟩:=QF h2 hkb
 generalize TT 1 (kb+1)=j at j8 jb ⊢
 have hm:R8 j*2^h≤kb*2^h:=bW _ jb
 have hd:k - 2<299/2^(h+1)+1:=Nat.lt_succ_of_le ((Nat.le_div_iff_mul_le (Nat.two_pow_pos (h+1))).2 (by omega))
 have cert:=NI
 unfold P5 at cert
 have c1:=kU.1 cert h (mX.2 hh)
 have c2:=kU.1 c1 (k - 2) (mX.2 hd)
 have c3:=kU.1 c2 j (mX.2 j8)
 rw[nU,dS,bY,bY,bY,show k - 2+2=k by omega] at c3
 obtain⟨a,b⟩:=c3.resolve_left (by omega)
 exact⟨by omega,b⟩
theorem LV {h W q c C k q' J:Nat} (hw:Wb h W q c) (hk:2≤k) (hC:c+(k - 1)*2^h≤C) (hq:q'≤1+TT (q - 1) (k+(q - 1))) (hJ:J≤1):Wb (h+1) (W+J+q') q' C:=by
 intro hC9
 obtain⟨e1,e2⟩:=hw (by omega)
 obtain⟨f1,f2⟩:=NM e2 hk (by omega)
 have g1:q' - 1≤TT (q - 1) (k+(q - 1)):=by omega
 have g2:=pR (cB (h+2)) g1
 refine⟨?_,by omega⟩
 show 24*(W+J+q')+cA (h+2)+cB (h+2)*(q' - 1)≤_
 generalize cB (h+1)*(q - 1)=z1 at e1 f1
 generalize cB (h+2)*(q' - 1)=z2 at g2 ⊢
 generalize cB (h+2)*TT (q - 1) (k+(q - 1))=z3 at f1 g2
 generalize (k - 1)*2^h=z4 at hC f1
 omega
theorem OB {h W c C k kb q' jj:Nat} (hw:Wb (h+1) W 1 c) (hk:2≤k) (hkb:2≤kb) (hC:c+((k - 2)*2^(h+1)+kb*2^h)≤C) (hj:jj≤1+TT 1 (kb+1)) (hq:q'≤1+TT (jj - 1) (k+(jj - 1))):Wb (h+2) (W+jj+q') q' C:=by
 intro hC9
 obtain⟨e1,e2⟩:=hw (aH (aH (Nat.le_add_right _ _) hC) hC9)
 obtain⟨f1,f2⟩:=NJ hkb hk (aH (aH (Nat.le_add_left _ c) hC) hC9)
 have g1:q' - 1≤TT (TT 1 (kb+1)) (k+TT 1 (kb+1)):=by
  have:=JP (x:=jj - 1) (x':=TT 1 (kb+1)) (K:=k+(jj - 1)) (K':=k+TT 1 (kb+1)) (by omega) (by omega)
  omega
 have g2:=pR (cB (h+3)) g1
 refine⟨?_,by omega⟩
 show 24*(W+jj+q')+cA (h+3)+cB (h+3)*(q' - 1)≤_
 have e1':24*W+cA (h+2)≤672+3*c:=by
  have:cB (h+2)*(1 - 1)=0:=Nat.mul_zero _
  have e1:24*W+cA (h+2)+cB (h+2)*(1 - 1)≤672+3*c:=e1
  omega
 generalize cB (h+3)*(q' - 1)=z2 at g2 ⊢
 generalize cB (h+3)*TT (TT 1 (kb+1)) (k+TT 1 (kb+1))=z3 at f1 g2
 generalize (k - 2)*2^(h+1)+kb*2^h=z4 at hC f1
 omega
theorem Qk {h W q c:Nat} (hw:Wb h W q c) (hc:c≤299):W+(q - 1)≤65:=by
 obtain⟨e1,e2⟩:=hw hc
 have hz:24*(q - 1)≤cA (h+1)+cB (h+1)*(q - 1):=by
  match h with
  |0=>have:q - 1≤2:=e2;show 24*(q - 1)≤594+3*(q - 1);omega
  |1=>have:q - 1≤7:=e2;show 24*(q - 1)≤519+1*(q - 1);omega
  |2=>have:q - 1≤12:=e2;show 24*(q - 1)≤132+38*(q - 1);omega
  |h+3=>
   have:cB (h+3+1)=24:=by
    unfold cB
    rw[fG,gy (by simp)];rfl
   rw[this];omega
 omega
theorem FD (ks:List ByteArray):dY (ks.drop 1)≤dY ks - 1:=by
 cases ks with
 |nil=>exact aY _
 |cons k ks=>rw[jR,fw,eT];omega
theorem DT (x:ByteArray) (ps:List Pc) (hp:∀p∈ps,p.2.size≤128):dY (kQ x ps)≤1+x.size+129*(ps.length - 1):=by
 cases ps with
 |nil=>exact aY _
 |cons p r=>
  show dY (x::r.map (·.2))≤_
  rw[jR]
  have:=rz (r.map (·.2)) (fun k hk=>by
   obtain⟨q,hq,rfl⟩:=dP.1 hk
   exact hp q (aX _ hq))
  rw[dW] at this
  simp only[bf,yT]
  omega
theorem Nd.Cm {nd:Nd} {i:Nat} {ps:List Pc} (hi:i<nd.kids.length) (hkk:nd.keys.length=nd.kids.length - 1) (hp:∀p∈ps,p.2.size≤128):(nd.pz i ps).size≤nd.size+131*(ps.length - 1)∧(nd.pz i ps).kids.length+1=nd.kids.length+ps.length:=by
 have hE:(fZ nd).length=nd.kids.length:=by unfold fZ;rw[bf];omega
 have hiE:i<(fZ nd).length:=by omega
 have e1:=rC (fZ nd) i
 have e2:dY ((fZ nd).drop i)=1+((fZ nd)[i]).size+dY ((fZ nd).drop (i+1)):=by rw[bP hiE,jR]
 have e3:(fZ nd).getD i ⟨#[]⟩=(fZ nd)[i]:=by rw[fG,aZ hiE];rfl
 have e4:dY (fZ nd)=1+dY nd.keys:=by
  unfold fZ
  rw[jR];rfl
 have e5:=DT ((fZ nd).getD i ⟨#[]⟩) ps hp
 rw[e3] at e5
 have e6:=FD ((fZ nd).take i++kQ ((fZ nd).getD i ⟨#[]⟩) ps++(fZ nd).drop (i+1))
 rw[jf,jf,e3] at e6
 have hk:(nd.pz i ps).kids.length+1=nd.kids.length+ps.length:=by
  unfold Nd.pz
  simp only[aC,aD,aO,dW]
  omega
 refine⟨?_,hk⟩
 have hs:(nd.pz i ps).size=2+dU nd.pairs+dY (((fZ nd).take i++kQ ((fZ nd)[i]) ps++(fZ nd).drop (i+1)).drop 1)+2*(nd.pz i ps).kids.length:=by
  rw[←e3];rfl
 rw[hs]
 unfold Nd.size
 rw[e3] at*
 omega
theorem Nd.NA {nd:Nd} {j:Nat} (hj:j+1<nd.kids.length) (hkk:nd.keys.length=nd.kids.length - 1):(nd.jS j).size≤nd.size∧(nd.jS j).kids.length+1=nd.kids.length∧(nd.jS j).keys.length=(nd.jS j).kids.length - 1:=by
 have e1:=rC nd.keys j
 have e2:dY (nd.keys.drop j)=1+(nd.keys[j]'(by omega)).size+dY (nd.keys.drop (j+1)):=by rw[bP (by omega),jR]
 have hk:(nd.jS j).kids.length+1=nd.kids.length:=by
  unfold Nd.jS
  simp only[aC,aD,aO]
  omega
 have hy:(nd.jS j).keys.length=(nd.jS j).kids.length - 1:=by
  unfold Nd.jS
  simp only[aC,aD,aO]
  omega
 refine⟨?_,hk,hy⟩
 have hs:(nd.jS j).size=2+dU nd.pairs+dY (nd.keys.take j++nd.keys.drop (j+1))+2*(nd.jS j).kids.length:=rfl
 rw[hs,jf]
 unfold Nd.size
 omega
theorem dJ.low {T:ByteArray→Option ByteArray→Int→List Pr→List Int→Prop} {m:Nat} (hT:∀k z b c x,T k z b c x→m≤c.length) {hi:Option ByteArray}:∀{l:List (ByteArray×Int)} {cs:List Pr} {bs:List Int},dJ T hi l cs bs→l.length*m≤cs.length
 |[],_,_,⟨e,e2⟩=>by subst e e2;simp
 |(k,b)::l,_,_,h=>by
  obtain⟨c,cs',x,bs',h1,h2,rfl,rfl⟩:=h
  have a:=hT _ _ _ _ _ h1
  have b:=dJ.low hT h2
  rw[bf,eF,jY,aC]
  omega
theorem iy.pw {σ:cK}:∀{h:Nat} {lo:ByteArray} {hi:Option ByteArray} {b:Int} {cs:List Pr} {bs:List Int},iy σ h 2 lo hi b cs bs→2^h≤cs.length
 |0,_,_,_,_,_,⟨_,_,_,_,_,h5,_,_,_⟩=>dm.2 h5
 |h+1,lo,_,_,_,_,⟨nd,bs',_,ok,hk,hm,_,hr⟩=>by
  have a:=dJ.low (m:=2^h) (fun _ _ _ _ _ ht=>iy.pw ht) hr
  rw[nd.lM ok hk] at a
  have b:2*2^h≤nd.kids.length*2^h:=bW _ hm
  rw[Qc]
  omega
theorem tq (σ:cK) (b:Int):vP σ (σ.gone b) 0:=by
 have hs:(σ.gone b).sz≤σ.sz:=oC _ (fun x _ hx=>by
  have hx:(gu σ.now b.toNat false x||σ.H.old x)=true:=hx
  show (σ.now x||σ.H.old x)=true
  rw[nU] at hx ⊢
  refine hx.imp (fun h=> ?_) id
  unfold gu at h
  split at h
  ·cases h
  ·exact h)
 exact⟨by omega,fun L _ t=>t⟩
theorem zy.size {σ:cK} {S:Nat→Prop} {mp:VS} {w:World} (hI:Inv σ S mp w) {b:Int} {nd:Nd} (h:zy σ b nd):nd.size≤512:=by
 obtain⟨n,rfl,hn,_⟩:=cK.mF h.has
 obtain⟨rest,hm⟩:=h.mem
 have hl:=hI.ok.len n hn
 have hm:σ.H.pg.look σ.im σ.H.dk n=nd.enc++rest:=by
  have:σ.mem (n:Int)=σ.H.pg.look σ.im σ.H.dk n:=rfl
  rw[←this];exact hm
 rw[hm,aC,Nd.AV] at hl
 omega
def JB (nd nd':Nd) (h z c W:Nat):Prop:=
 (W≤1∧nd'.kids.length≤nd.kids.length∧nd'.size≤nd.size)∨
 ∃hh kb,h=hh+1∧2≤kb∧z+((nd.kids.length - 2)*2^h+kb*2^hh)≤c∧2≤nd.kids.length∧W≤1+TT 1 (kb+1)∧nd'.kids.length+2=nd.kids.length+W∧nd'.size≤nd.size+131*(W - 1)
theorem KR {A B:Nd} {k:ByteArray} (okA:A.Ok) (okB:B.Ok) (hA:A.kids≠[]) (hB:B.kids≠[]) (hk:k.size≤128) (sA:A.size≤512) (sB:B.size≤512) (h1:A.kids.length=1∨B.kids.length=1):(eu A B k).size≤512+131*1:=by
 have pA:=okA.one hA
 have pB:=okB.one hB
 have hs:(eu A B k).size=2+dU (A.pairs++B.pairs)+dY (A.keys++[k]++B.keys)+2*(A.kids++B.kids).length:=by
  unfold eu;rw[if_neg hA];rfl
 rw[hs,pA,pB,jf,jf,aC]
 have e0:dU ([]++[])=0:=rfl
 have e1:dY [k]=1+k.size:=by simp[dY]
 rw[e0,e1]
 unfold Nd.size at sA sB
 have kA:=okA.kk
 have kB:=okB.kk
 rcases h1 with h1|h1
 ·have:A.keys=[]:=aU (by omega)
  rw[this]
  have e2:dY []=0:=rfl
  omega
 ·have:B.keys=[]:=aU (by omega)
  rw[this]
  have e2:dY []=0:=rfl
  omega
theorem RA {σ:cK} {h z:Nat} {hi:Option ByteArray} {R:List (ByteArray×Int)} {j:Nat} {cs:List Pr} {bs:List Int} {L:List (ByteArray×Int)} {k1:ByteArray} {b1:Int} {k2:ByteArray} {b2:Int} {M:List (ByteArray×Int)} {cl ca cb cm:List Pr} {bl xa xb bm:List Int} {m1 m2:Nat} {A B:Nd} {nd:Nd} {ps:List Pc} {zs:List (ByteArray×Nd)}
  (hP:I9 σ h hi R j cs bs L k1 b1 k2 b2 M cl ca cb cm bl (b1::xa) (b2::xb) bm m1 m2 z) (okA:A.Ok) (okB:B.Ok) (nA:oN σ h k1 (some k2) A ca xa) (nB:oN σ h k2 (jc M hi) B cb xb) (kA:Kids h m1 A) (kB:Kids h m2 B) (hk2:k2.size≤128) (sA:A.size≤512) (sB:B.size≤512) (okJ:(eu A B k2).Ok)
  (hspr:uM (eu A B k2) ⟨#[]⟩ zs) (hl:ps.length=zs.length) (hkey:∀p∈ps,p.2.size≤128) (hno:¬(512<(eu A B k2).size∧A.kids.length≠1∧B.kids.length≠1)) (hR:R.length=nd.kids.length) (hkk:nd.keys.length=nd.kids.length - 1):
  JB nd ((nd.jS j).pz j ps) h z cs.length ps.length:=by
 have hrow:=congrArg List.length hP.row
 simp only[aC,bf] at hrow
 have hlen:=hP.len
 obtain⟨d1,d2,d3⟩:=Nd.NA (nd:=nd) (j:=j) (by omega) hkk
 obtain⟨r1,r2⟩:=Nd.Cm (nd:=nd.jS j) (i:=j) (ps:=ps) (by omega) d3 hkey
 rcases iJ 512 (eu A B k2).size with h5|h5
 ·have h1:A.kids.length=1∨B.kids.length=1:=by
   apply jK
   intro hn
   exact hno ⟨h5,fun e=>hn (.inl e),fun e=>hn (.inr e)⟩
  cases h with
  |zero=>
   obtain⟨a1,_⟩:=nA
   obtain⟨b1',_⟩:=nB
   rw[a1,b1'] at h1
   simp at h1
  |succ hh=>
   have hA:=nA.1
   have hB:=nB.1
   have lA:=dJ.low (m:=2^hh) (fun _ _ _ _ _ ht=>iy.pw ht) nA.2
   have lB:=dJ.low (m:=2^hh) (fun _ _ _ _ _ ht=>iy.pw ht) nB.2
   rw[A.lM okA hA] at lA
   rw[B.lM okB hB] at lB
   have l1:=dJ.low (m:=2^(hh+1)) (fun _ _ _ _ _ ht=>iy.pw ht) hP.l
   have l2:=dJ.low (m:=2^(hh+1)) (fun _ _ _ _ _ ht=>iy.pw ht) hP.m
   have hLM:nd.kids.length - 2=L.length+M.length:=by omega
   have hcs:=congrArg List.length hP.cs
   simp only[aC] at hcs
   have hsz:=KR okA okB hA hB hk2 sA sB h1
   have hjk:(eu A B k2).kids.length=A.kids.length+B.kids.length:=by unfold eu;rw[aC]
   have hjn:(eu A B k2).kids≠[]:=fun e=>by
    have:=dm.2 hA
    rw[e] at hjk;simp at hjk;omega
   have hm:(nd.kids.length - 2)*2^(hh+1)≤cl.length+cm.length:=by rw[hLM,eF];omega
   have hkA:m1≤A.kids.length:=kA.resolve_left (by omega)
   have hkB:m2≤B.kids.length:=kB.resolve_left (by omega)
   rcases hP.m12 with ⟨e1,e2⟩|⟨e1,e2,e3⟩|⟨e1,e2,e3⟩
   ·omega
   ·have ha1:A.kids.length=1:=by omega
    have ht:=hspr.tt okJ hjn hsz (K:=B.kids.length+1) (by omega)
    exact .inr ⟨hh,B.kids.length,rfl,by omega,by revert hm lB;generalize (nd.kids.length - 2)*2^(hh+1)=P;generalize B.kids.length*2^hh=Q;intro hm lB;omega,by omega,by omega,by omega,by omega⟩
   ·have ha1:B.kids.length=1:=by omega
    have ht:=hspr.tt okJ hjn hsz (K:=A.kids.length+1) (by omega)
    exact .inr ⟨hh,A.kids.length,rfl,by omega,by revert hm lA;generalize (nd.kids.length - 2)*2^(hh+1)=P;generalize A.kids.length*2^hh=Q;intro hm lA;omega,by omega,by omega,by omega,by omega⟩
 ·have:=hspr.small h5
  exact .inl ⟨by omega,by omega,by omega⟩
def jX (L:Nat) (σ:cK) (bs:List Int) (n:Nat):Prop:=σ.sz+2*n≤L+nh σ bs
theorem kW.zT {L:Nat} {σ σ':cK} {us bs:List Int} {n:Nat} (h:kW σ σ' us bs) (r:jX L σ us n):jX L σ' bs n:=by
 have:=h.size
 unfold jX at*
 rw[rV h.H];omega
def Pk (σ σ':cK) (bs:List Int) (n:Nat):Prop:=∀L,jX L σ bs n→σ.tk≤L→σ'.tk≤L
theorem Pk.refl (σ:cK) (bs:List Int) (n:Nat):Pk σ σ bs n:=fun _ _ t=>t
theorem Pk.trans {σ σ1 σ2:cK} {us bs:List Int} {n:Nat} (a:Pk σ σ1 us n) (h:kW σ σ1 us bs) (b:Pk σ1 σ2 bs n):Pk σ σ2 us n:=fun L r t=>b L (h.zT r) (a L r t)
theorem wu {nd:Nd} {l:ByteArray} {zs:List (ByteArray×Nd)} (hs:uM nd l zs) (ok:nd.Ok) {σ σ':cK} {ps:List Pc} (hp:Puts σ ps zs σ') {L:Nat} (hr:σ.sz+nd.room≤L) (t:σ.tk≤L):σ'.tk≤L:=by
 have e1:=hs.room ok
 obtain⟨_,e2,_,_,e3⟩:=hp.length
 omega
def Ol (mp:VS) (σ:cK) (S:Nat→Prop) (h:Nat) (lo:ByteArray) (hi:Option ByteArray) (cs:List Pr) (bs:List Int) (n:Nat) (w:World) (e:Ending) (w':World):Prop:=
 (∃v ps σ' S' bs' m,e= .returned v∧aS w' S' w.heap.size 254 2 v ps.length (kM ps)∧R3 σ' h m lo hi ps cs bs'∧kW σ σ' bs bs'∧(Pk σ σ' bs n∧∃W,vP σ σ' W∧Wb h W ps.length cs.length)∧Inv σ' S' mp w'∧Step S S' w w')∨(¬Room σ bs n∧Bo mp σ S w e w')
def Eh (t:Nat) (mp:VS) (root err:Int) (key:ByteArray) (g:Nat) (cb:Array Value) (F:List Pr→List Pr) (vs:List (Nat×ByteArray)) (h:Nat):Prop:=
 ∀(σ:cK) (S:Nat→Prop) (b deep:Int) (least lo:ByteArray) (hi:Option ByteArray) (cs:List Pr) (bs:List Int) (w:World),Inv σ S mp w→cu w t mp root err→¬S t→ug w S vs→iy σ h 2 lo hi b cs bs→bs.Nodup→Within lo hi key→deep+h≤40→0≤deep→least.size≤128→
  Calls Tryz.prog 112 #[.pointer (some ⟨t,0,none⟩),.int .i64 b,.int .i64 deep,.string key,.string least,.func (.func g) #[] cb] w (Ol mp σ S h lo hi (F cs) bs (cs.length+1) w)
theorem zm {nd:Nd} {l:ByteArray} {zs:List (ByteArray×Nd)} (hs:uM nd l zs) {σ σ':cK} {ps:List Pc} {lo:ByteArray} {hi:Option ByteArray} {h:Nat} {cs:List Pr} {bs:List Int} (ok:nd.Ok) (hr:oN σ h lo hi nd cs bs) (hp:Puts σ ps zs σ') (hc:Ou σ) (hn:bs.Nodup) (hb:∀x∈bs,σ.hasB x=true) (hl:l.size≤128) (hroom:nd.room≤900):
  ∃m bs',R3 σ' h m lo hi ps cs bs'∧kW σ σ' bs bs':=by
 have hlen:ps.length≤900:=by
  have e1:=hs.room ok
  have e2:=hp.length.1
  omega
 have hkey:=hp.keys (hs.keys ok hl)
 by_cases h2:h=0∨2≤nd.kids.length
 ·obtain⟨bs',q1,q2⟩:=vC hs (m:=2) ok hr hp hc (aG 2) (by rcases h2 with h2|h2;exact .inl h2;exact .inr h2) hn hb
  exact⟨2,bs',⟨q1,hkey,hlen,by omega,by omega,.inl rfl⟩,q2⟩
 ·obtain⟨h',rfl⟩:∃d,h=d+1:=⟨h - 1,by omega⟩
  have hk:=hr.1
  have hk1:=dm.2 hk
  obtain⟨bs',q1,q2⟩:=vC hs (m:=1) ok hr hp hc (by omega) (.inr (by omega)) hn hb
  refine⟨1,bs',⟨q1,hkey,hlen,by omega,by omega,.inr ?_⟩,q2⟩
  have e2:=hp.length.1
  have hsz:nd.size≤512:=by
   rcases iJ 512 nd.size with h5|h5
   ·have:=(ok.big h5).2 hk;omega
   ·exact h5
  cases hs with
  |none h1 _=>exact absurd h1 hk
  |one _ _=>simpa using e2
  |leaf _ _ _ h2=>omega
  |inner _ _ _ h2=>omega
theorem Pf (t:Nat) (mp:VS) (root err:Int) (key:ByteArray) (g:Nat) (cb:Array Value) (F:List Pr→List Pr) (vs:List (Nat×ByteArray)) (hent:∀args w,(callFunc g args).run Tryz.prog w= .ok (.enter g args) w) (hf:Bp g cb F vs) (hF:Ja F key):Eh t mp root err key g cb F vs 0:=by
 intro σ S b deep least lo hi cs bs w h ht hst hbx hT hn hw hd hd0 hl
 obtain⟨nd,h1,h2,h3,h4,h5,h6,h7,h8⟩:=hT
 subst h4 h8
 have hlen:=hF.len nd.pairs
 have hnp:=h1.fits.np
 have ok:Nd.Ok ⟨F nd.pairs,[],[]⟩:=⟨fun p hp=>by
  rcases hF.mem _ h6 p hp with h|h
  ·exact h2.pr p h
  ·exact h.2,by simp,by simp,rfl,by simp,by show (F nd.pairs).length≤2000;omega,by simp⟩
 have hc1:=A9 h h1.has
 refine(KZ t mp root err b deep σ S key least nd g cb F vs hent hf w h ht hst hbx h1 h3 (by omega) h6 ok).mono ?_
 rintro e w' (⟨v,ps,zs,σ',S',rfl,p2,p3,p4,p5,p6⟩|⟨hno,hg⟩)
 rotate_left
 ·refine .inr ⟨fun hR=> ?_,hg.after (Step.refl S w) rfl rfl⟩
  have hR1:=hc1.room hR
  unfold Room at hR1;simp[nh] at hR1;unfold Nd.room at hno;simp only[iT] at hno;omega
 have hcl:=hc1.K9 h.K9
 obtain⟨m,bs',q1,q2⟩:=zm p3 (lo:=lo) (hi:=hi) (h:=0) (cs:=F nd.pairs) (bs:=[]) ok ⟨rfl,rfl,hF.rise _ h6,fun p hp=>by
  rcases hF.mem _ h6 p hp with h|h
  ·exact h7 p h
  ·rw[h.1];exact hw,rfl⟩ p4 hcl oO (by simp) hl (by unfold Nd.room;simp only[iT];omega)
 refine .inl ⟨v,ps,σ',S',bs',m,rfl,p2,q1,hc1.trans q2,⟨fun L r t=>wu p3 ok p4 ?_ t,ps.length,?_,OA ?_ _⟩,p5,p6⟩
 ·have hR1:=hc1.zT r
  unfold jX at hR1;simp[nh] at hR1;unfold Nd.room;simp only[iT];omega
 ·exact((tq σ b).trans p4.Rl).more (by omega)
 ·rw[p4.length.1]
  have sz:=h1.size h
  have e1:=hF.size nd.pairs
  have e2:Nd.size ⟨F nd.pairs,[],[]⟩=2+dU (F nd.pairs):=by simp[Nd.size,dY]
  have e3:2+dU nd.pairs≤nd.size:=by unfold Nd.size;omega
  exact p3.Ry rfl rfl ok.pr (by omega)
structure SF (σ:cK) (h:Nat) (lo:ByteArray) (hi:Option ByteArray) (b:Int) (cs:List Pr) (bs:List Int) (key:ByteArray) (nd:Nd) (L:List (ByteArray×Int)) (k:ByteArray) (kb:Int) (M:List (ByteArray×Int)) (cl c cm:List Pr) (bl x bm:List Int):Prop where
 blk:zy σ b nd
 ok:nd.Ok
 kids:2≤nd.kids.length
 row:kR nd lo (L++(k,kb)::M)
 l:dJ (iy σ h 2) (some k) L cl bl
 t:iy σ h 2 k (jc M hi) kb c x
 m:dJ (iy σ h 2) hi M cm bm
 cs:cs=cl++(c++cm)
 bs:bs=b::(bl++(x++bm))
 at_:L.length=gU nd.keys key
 w:Within k (jc M hi) key
 rise:tX nd.keys
 lo1:∀k1 b1 M',M=(k1,b1)::M'→lt k1 lo=false
theorem Ph {σ:cK} {h:Nat} {lo:ByteArray} {hi:Option ByteArray} {b:Int} {cs:List Pr} {bs:List Int} {key:ByteArray} (ht:iy σ (h+1) 2 lo hi b cs bs) (hw:Within lo hi key):
  ∃nd L k kb M cl c cm bl x bm,SF σ h lo hi b cs bs key nd L k kb M cl c cm bl x bm:=by
 obtain⟨nd,bs',h1,h2,h3,h4,h5,h6⟩:=ht
 have hro:=rowOf h2 h3 lo
 have hri:=iy.rising h2 h3 h6
 obtain⟨b0,l,e,e2,e3⟩:=oq h2.kk h3 lo
 have er:nd.row lo=(lo,b0)::l:=e
 obtain⟨L,k,kb,M,q1,q2,q3,q4⟩:=Ck (b:=b0) (r:=l) (key:=key) hw.1
 rw[er] at hro h6
 rw[q1] at hro h6
 have hlows:=dJ.QD (fun k z b c x ht=>iy.content ht) (by rw[←q1] at h6;exact h6)
 obtain⟨cl,cr,bl,br,r1,⟨c,cm,x,bm,tk,rm,rfl,rfl⟩,rfl,rfl⟩:=h6.split
 refine⟨nd,L,k,kb,M,cl,c,cm,bl,x,bm,h1,h2,h4,hro,r1,tk,rm,rfl,h5,by rw[q2,e2],⟨q3,fun y hy=> ?_⟩,hri,fun k1 b1 M' hM=> ?_⟩
 ·cases M with
  |nil=>exact hw.2 y hy
  |cons m M=>obtain⟨k1,b1⟩:=m;cases hy;exact q4 _ _ _ rfl
 ·subst hM
  have hmem:(k1,b1)∈(lo,b0)::l:=by rw[q1];simp
  rcases bK.1 hmem with h|h
  ·cases h;exact lt_irrefl _
  ·exact lt_asymm ((eB.1 hlows).1 k1 (gW h))
theorem QL {σ:cK} {h:Nat} {lo:ByteArray} {hi:Option ByteArray} {b:Int} {cs:List Pr} {bs:List Int} {key:ByteArray} {nd:Nd} {L:List (ByteArray×Int)} {k:ByteArray} {kb:Int} {M:List (ByteArray×Int)} {cl c cm:List Pr} {bl x bm:List Int} (hE:SF σ h lo hi b cs bs key nd L k kb M cl c cm bl x bm) {F:List Pr→List Pr} (hF:Ja F key):F cs=cl++(F c++cm):=by
 rw[hE.cs,←aL,hF.loc cl c cm,aL]
 ·intro p hp
  have:∀{l:List (ByteArray×Int)} {cl:List Pr} {bl:List Int},dJ (iy σ h 2) (some k) l cl bl→∀p∈cl,lt p.1 k=true:=by
   intro l cl bl hl p hp
   cases l with
   |nil=>obtain⟨rfl,_⟩:=hl;cases hp
   |cons q l=>
    have:=dJ.content (fun k z b c x ht=>iy.content ht) hl
    exact(this.within p hp).2 k rfl
  exact Ak (this hE.l p hp) hE.w.1
 ·intro p hp
  have hm:=hE.m
  cases M with
  |nil=>obtain⟨rfl,_⟩:=hm;cases hp
  |cons q M=>
   obtain⟨k1,b1⟩:=q
   have:=dJ.content (fun k z b c x ht=>iy.content ht) hm
   exact Ak (hE.w.2 k1 rfl) (this.within p hp).1
theorem Af {Lr:Nat} {σ σ2:cK} {h:Nat} {hi:Option ByteArray} {k1 k2:ByteArray} {A B:Nd} {L M:List (ByteArray×Int)} {cl ca cb cm:List Pr} {bl xa xb bm:List Int} {n:Nat} (okA:A.Ok) (okB:B.Ok) (hl:dJ (iy σ h 2) (some k1) L cl bl) (hm:dJ (iy σ h 2) hi M cm bm) (nA:oN σ h k1 (some k2) A ca xa) (nB:oN σ h k2 (jc M hi) B cb xb) (hr:jX Lr σ2 (bl++((xa++xb)++bm)) n) (hn:(cl++(ca++(cb++cm))).length≤n):
  σ2.sz+(eu A B k2).room≤Lr:=by
 have e1:=dJ.count (fun _ _ _ _ _ ht=>iy.count ht (aG 2)) hl
 have e2:=dJ.count (fun _ _ _ _ _ ht=>iy.count ht (aG 2)) hm
 have f1:=qf σ2 bl
 have f2:=qf σ2 (xa++xb)
 have f3:=qf σ2 bm
 unfold jX at hr
 rw[nX,nX] at hr
 simp only[aC] at hn f2
 cases h with
 |zero=>
  obtain⟨a1,rfl,_,_,rfl⟩:=nA
  obtain⟨b1,rfl,_,_,rfl⟩:=nB
  have:(eu A B k2).room=A.pairs.length+B.pairs.length:=by simp[Nd.room,eu,a1,b1]
  rw[this]
  simp only[bG] at f2
  omega
 |succ h=>
  have g1:=dJ.count (fun _ _ _ _ _ ht=>iy.count ht (aG 2)) nA.2
  have g2:=dJ.count (fun _ _ _ _ _ ht=>iy.count ht (aG 2)) nB.2
  rw[A.lM okA nA.1] at g1
  rw[B.lM okB nB.1] at g2
  have p1:=dm.2 nA.1
  have p2:=dm.2 nB.1
  have:(eu A B k2).room≤A.kids.length+B.kids.length:=by
   simp[Nd.room,eu,okA.one nA.1,okB.one nB.1,nA.1];omega
  omega
theorem Nc (t:Nat) (mp:VS) (root err:Int) (σ:cK) (S:Nat→Prop) (nb:Nat) (nd:Nd) (i:Nat) (deep:Int) (h z:Nat) (hi:Option ByteArray) (lo:ByteArray) (R:List (ByteArray×Int)) (cs:List Pr) (bs:List Int) (n:Nat) (w:World) (hI:Inv σ S mp w) (ht:cu w t mp root err) (hst:¬S t) (hn:fF w S nb nd) (ok:nd.Ok) (hR:kR nd lo R) (hM:Mid σ h hi z R i cs bs) (hnd:bs.Nodup) (hd:deep≤40) (hcs:cs.length≤n) (hl:R.length≤1160):
  Calls Tryz.prog 153 #[.pointer (some ⟨t,0,none⟩),.pointer (some ⟨nb,0,none⟩),.int .i64 i,.int .i64 deep] w fun e w'=>(e= .returned (.tuple #[])∧∃σ' S' nd' R' bs',Inv σ' S' mp w'∧fF w' S' nb nd'∧kR nd' lo R'∧dJ (iy σ' h 2) hi R' cs bs'∧kW σ σ' bs bs'∧(Pk σ σ' bs n∧∃W,vP σ σ' W∧JB nd nd' h z cs.length W)∧nd'.Ok∧nd'.kids.length≤1700∧Keep (fun g=>S g∨g=nb) w w'∧∀g,S' g→S g∨w.heap.size≤g)∨(¬Room σ bs n∧Bo mp σ S w e w'):=by
 have hlen:=hR.len
 have hall:∀x∈bs,σ.hasB x=true:=by
  cases hM with
  |two hr=>exact fun x hx=>dJ.has (fun _ _ _ _ _ ht=>iy.has ht) hr x hx
  |one q1 q2 q3 _=>
   intro x hx
   simp only[bJ] at hx
   rcases hx with hx|hx|hx
   ·exact dJ.has (fun _ _ _ _ _ ht=>iy.has ht) q1 x hx
   ·exact q2.has x hx
   ·exact dJ.has (fun _ _ _ _ _ ht=>iy.has ht) q3 x hx
 by_cases hs:R.length<2∨R.length≤i
 ·refine(KQ t nb nd i deep w S hn (by omega)).mono ?_
  rintro e w' ⟨rfl,rfl⟩
  exact .inl ⟨rfl,σ,S,nd,R,bs,hI,hn,hR,hM.skip hs,kW.refl hall,⟨Pk.refl _ _ _,0,vP.refl _,.inl ⟨by omega,aG _,aG _⟩⟩,ok,by omega,Keep.refl _ _,fun g hg=> .inl hg⟩
 ·obtain⟨L,k1,b1,k2,b2,M,cl,ca,cb,cm,bl,xa,xb,bm,m1,m2,hP⟩:=hM.pair (by omega)
  rw[←hlen.1] at hP
  have hro:=hR
  rw[hP.row] at hro
  obtain⟨dR,d1,d2,d3⟩:=Gc hro
  have hLj:=hP.len
  rw[hLj] at dR d1 d2 d3
  obtain⟨A,xa',bA,okA,nA,kA,na,rfl⟩:=qW.1 hP.a
  obtain⟨B,xb',bB,okB,nB,kB,nb',rfl⟩:=qW.1 hP.b
  have hk2:k2.size≤128:=ok.ky k2 (oP d1)
  obtain⟨nJ,okJ,lJ,lJ2⟩:=CB okA okB nA nB na nb' hk2 bA.fits bB.fits
  have hbs:=hP.bs
  have hb12:b1≠b2:=by
   rintro rfl
   rw[hbs] at hnd
   have h1:=(dN.1 hnd).2.1
   exact(dN.1 h1).2.2 b1 (by simp) b1 (by simp) rfl
  obtain⟨c12,hB2⟩:=Lb hI bA.has bB.has hb12
  have hcl:=c12.K9 hI.K9
  have hperm:bs.Perm ([b1,b2]++(bl++((xa'++xb')++bm))):=by
   rw[hbs]
   have e1:(b1::xa'++(b2::xb'++bm)).Perm ([b1,b2]++((xa'++xb')++bm)):=by
    show (b1::(xa'++b2::(xb'++bm))).Perm (b1::b2::((xa'++xb')++bm))
    refine List.Perm.cons _ ?_
    rw[aL]
    exact List.perm_middle
   exact(om bl e1).trans (List.perm_append_comm_assoc _ _ _)
  have c1:=c12.left (hperm.nodup_iff.1 hnd) (fun x hx=>hall x (hperm.mem_iff.2 (dA _ hx)))
  have hrm:=fun (hroom:Room σ bs n)=>Af (Lr:=((σ.gone b1).gone b2).most) okA okB hP.l hP.m nA nB ((c1.perm hperm.symm (iF _)).room hroom) (by rw[←hP.cs];exact hcs)
  have hrmL:∀L,jX L σ bs n→((σ.gone b1).gone b2).sz+(eu A B k2).room≤L:=fun L hroom=>Af okA okB hP.l hP.m nA nB ((c1.perm hperm.symm (iF _)).zT hroom) (by rw[←hP.cs];exact hcs)
  refine(Nf t mp root err σ S nb nd A B k2 i (min i (nd.kids.length - 2)) deep b1 b2 w hI ht hst hn (by omega) (by omega) rfl d2 d3 d1 (ok.one (by intro e;rw[e] at hlen;simp at hlen;omega)) ok.kk bA bB hB2 okJ hd (by omega)).mono ?_
  rintro e w' (⟨rfl,σ',S',nd',hI',hN',hK',hS',hres⟩|⟨hno,hg⟩)
  rotate_left
  ·exact .inr ⟨fun hroom=>absurd (hrm hroom) (fq.2 hno),hg⟩
  refine .inl ⟨rfl,σ',S',nd',?_⟩
  rcases hres with ⟨s1,s2,s3,rfl,rfl⟩|⟨ps,zs,hspr,hput,rfl,hno⟩
  ·refine⟨R,bs,hI',hN',hR,?_,kW.refl hall,⟨Pk.refl _ _ _,0,vP.refl _,.inl ⟨by omega,aG _,aG _⟩⟩,ok,by omega,hK',hS'⟩
   rw[hP.row,hP.cs,hP.bs]
   have tA:iy σ' h 2 k1 (some k2) b1 ca (b1::xa'):=qW.2 ⟨A,xa',bA,okA,nA,by
    cases h with
    |zero=>exact .inl rfl
    |succ h=>exact .inr (by have:=dm.2 nA.1;omega),na,rfl⟩
   have tB:iy σ' h 2 k2 (jc M hi) b2 cb (b2::xb'):=qW.2 ⟨B,xb',bB,okB,nB,by
    cases h with
    |zero=>exact .inl rfl
    |succ h=>exact .inr (by have:=dm.2 nB.1;omega),nb',rfl⟩
   exact dJ.append (m:=(k1,b1)::(k2,b2)::M) ⟨ca,_,_,_,tA,⟨cb,_,_,_,tB,hP.m,rfl,rfl⟩,rfl,rfl⟩ hP.l
  ·obtain⟨xs,q1,q2,q3,q4,q5⟩:=Nb hP okA okB bA.fits bB.fits nA nB kA kB na nb' hk2 c12 hcl hspr hput hnd
   have hRo:=vE (ps:=ps) (by rw[←hLj] at*;exact dR) (.inr q3)
   rw[hLj] at hRo
   have hl2:(L++kE k1 ps++M).length≤1700:=by
    have:=congrArg List.length hP.row
    simp only[aC,bf,wz] at this ⊢
    omega
   refine⟨_,_,hI',hN',hRo,q1,q2,⟨fun L r t=>wu hspr okJ hput (hrmL L r) t,ps.length,?_,RA hP okA okB nA nB kA kB hk2 (bA.size hI) (bB.size hI) okJ hspr hput.length.1 q4 hno (by omega) ok.kk⟩,?_,by rw[hRo.len.1];exact hl2,hK',hS'⟩
   ·have:=((tq σ b1).trans (tq _ b2)).trans hput.Rl
    exact this.more (by omega)
   refine hRo.ok ?_ ?_ (dJ.Ev (fun _ _ _ _ _ ht=>ht.top) q1) (by omega)
   ·exact ok.one (by intro e;rw[e] at hlen;simp at hlen;omega)
   ·exact Cn (fun k hk=>by
     rcases bJ.1 hk with hk|hk
     ·exact ok.ky k (dZ hk)
     ·exact ok.ky k (bS hk)) q4
theorem Mid.Ev {σ:cK} {h z:Nat} {hi:Option ByteArray} {R:List (ByteArray×Int)} {i:Nat} {cs:List Pr} {bs:List Int} (hm:Mid σ h hi z R i cs bs):∀p∈R,1≤p.2∧p.2≤4096:=by
 cases hm with
 |two hr=>exact dJ.Ev (fun _ _ _ _ _ ht=>ht.top) hr
 |one q1 q2 q3 _=>
  intro p hp
  rcases bJ.1 hp with hp|hp
  ·exact dJ.Ev (fun _ _ _ _ _ ht=>ht.top) q1 p hp
  ·rcases bK.1 hp with rfl|hp
   ·exact q2.top
   ·exact dJ.Ev (fun _ _ _ _ _ ht=>ht.top) q3 p hp
theorem Step.PS {S S1 S2:Nat→Prop} {w w3 w5:World} {nb:Nat} (h:Step S S1 w w3) (hk:Keep (fun g=>S1 g∨g=nb) w3 w5) (h2:∀g,S2 g→S1 g∨w3.heap.size≤g) (hnb:w.heap.size≤nb):Step S S2 w w5:=
 ⟨h.1.trans hk (fun i hi x=>x.elim (fun s=>(h.2 i s).elim id (fun y=>absurd hi (bF.2 y))) (fun e=>absurd hi (bF.2 (by rw[e];exact hnb)))),
  fun g hg=>(h2 g hg).elim (fun s=>h.2 g s) (fun y=> .inr (aH h.1.size y))⟩
theorem Cz {Lr:Nat} {σ σ0:cK} {h:Nat} {k:ByteArray} {hi:Option ByteArray} {L M:List (ByteArray×Int)} {cl c cm:List Pr} {bl x bm:List Int} (hl:dJ (iy σ h 2) (some k) L cl bl) (hm:dJ (iy σ h 2) hi M cm bm) (hr:jX Lr σ0 (bl++(x++bm)) ((cl++(c++cm)).length+1)):jX Lr σ0 x (c.length+1):=by
 have e1:=dJ.count (fun _ _ _ _ _ ht=>iy.count ht (aG 2)) hl
 have e2:=dJ.count (fun _ _ _ _ _ ht=>iy.count ht (aG 2)) hm
 have f1:=qf σ0 bl
 have f3:=qf σ0 bm
 unfold jX at*
 rw[nX,nX] at hr
 simp only[aC] at hr
 omega
theorem qZ {Lr:Nat} {σ:cK} {h:Nat} {hi:Option ByteArray} {lo:ByteArray} {nd:Nd} {R:List (ByteArray×Int)} {cs:List Pr} {bs:List Int} {n:Nat} (ok:nd.Ok) (hR:kR nd lo R) (hr:dJ (iy σ h 2) hi R cs bs) (hm:jX Lr σ bs n) (hn:cs.length≤n):σ.sz+nd.room≤Lr:=by
 have e1:=dJ.count (fun _ _ _ _ _ ht=>iy.count ht (aG 2)) hr
 have f1:=qf σ bs
 have hl:=hR.len
 have hk:nd.kids≠[]:=fun e=>by rw[e] at hl;simp at hl;omega
 have hp:=ok.one hk
 have:nd.room≤nd.kids.length:=by
  have:=dm.2 hk
  simp[Nd.room,hp,hk];omega
 unfold jX at hm
 omega
theorem Ai {nd:Nd} {lo:ByteArray} {R:List (ByteArray×Int)} (ok:nd.Ok) (hR:kR nd lo R):nd.room≤nd.kids.length:=by
 have hl:=hR.len
 have hk:nd.kids≠[]:=fun e=>by rw[e] at hl;simp at hl;omega
 have hp:=ok.one hk
 have:=dm.2 hk
 simp[Nd.room,hp,hk];omega
theorem IJ (t:Nat) (mp:VS) (root err:Int) (key:ByteArray) (g:Nat) (cb:Array Value) (F:List Pr→List Pr) (vs:List (Nat×ByteArray)) (hF:Ja F key) (hks:key.size≤128) (h:Nat) (ih:Eh t mp root err key g cb F vs h):Eh t mp root err key g cb F vs (h+1):=by
 intro σ S b deep least lo hi cs bs w hI ht hst hbx hT hn hw hd hd0 hl
 have hTc:=hT.has
 obtain⟨nd,L,k,kb,M,cl,c,cm,bl,x,bm,hE⟩:=Ph hT hw
 have hFc:=QL hE hF
 have hb0:(b==0)=false:=by have:=hE.blk.lo;simp;omega
 have hlen:=hE.row.len
 have hLM:L.length+M.length+1=nd.kids.length:=by rw[hlen.1];simp;omega
 have hkne:nd.kids≠[]:=fun e=>by have:=hE.kids;rw[e] at this;simp at this
 have hke:nd.kids.isEmpty=false:=by cases hq:nd.kids with|nil=>exact absurd hq hkne|cons a b=>rfl
 have hnk:=hE.blk.fits.nk
 have hcs:=hE.cs
 have hbs:=hE.bs
 subst hbs
 have cg:=A9 hI hE.blk.has
 have c0:kW σ (σ.gone b) (b::(bl++(x++bm))) (bl++(x++bm)):=cg.left (us:=[b]) (bs:=[]) (rs:=bl++(x++bm)) hn (fun y hy=>hTc y (aX _ hy))
 have n0:=c0.nd hn
 have R0:Room σ (b::(bl++(x++bm))) (cs.length+1)→Room (σ.gone b) (bl++(x++bm)) ((cl++(c++cm)).length+1):=fun hR=>by
  have:=c0.room hR
  rwa [hcs] at this
 have hbx0:∀y∈bl++(x++bm),y∉[b]:=fun y hy e=>(nS.1 hn).1 (by rw[←bH.1 e];exact hy)
 have hh0:∀y∈bl++(x++bm),(σ.gone b).hasB y=true:=fun y hy=>(c0.new y hy).1
 have Rk:Room σ (b::(bl++(x++bm))) (cs.length+1)→Room (σ.gone b) x (c.length+1):=fun hR=>Cz (Lr:=(σ.gone b).most) hE.l hE.m (R0 hR)
 have R0L:∀Lr,jX Lr σ (b::(bl++(x++bm))) (cs.length+1)→jX Lr (σ.gone b) (bl++(x++bm)) ((cl++(c++cm)).length+1):=fun Lr hR=>by
  have:=c0.zT hR
  rwa [hcs] at this
 have RkL:∀Lr,jX Lr σ (b::(bl++(x++bm))) (cs.length+1)→jX Lr (σ.gone b) x (c.length+1):=fun Lr hR=>Cz hE.l hE.m (R0L Lr hR)
 have HR0L:=af R0L;clear R0L
 have HRkL:=af RkL;clear RkL
 have HRk:=af Rk;clear Rk
 have T0:=hE.t.keep cg (fun y hy=>hbx0 y (by simp[hy]))
 have l0:=hE.l.keep cg (fun y hy=>hbx0 y (by simp[hy]))
 have m0:=hE.m.keep cg (fun y hy=>hbx0 y (by simp[hy]))
 have hkz:∀y,jc M hi=some y→lt y k=false:=fun y hy=>by
  have hc:=T0.content
  rw[hy] at hc
  obtain⟨p,r,e⟩:=lC hc.ne
  exact lt_asymm (hc.within p (by rw[e];simp)).MX
 have nx:x.Nodup:=(dN.1 (dN.1 n0).2.1).1
 have HE:=af hE;clear hE
 have HFc:=af hFc;clear hFc
 have HCS:=af hcs;clear hcs
 have HR0:=af R0;clear R0
 have HIH:=af ih;clear ih
 have HKZ:=af hkz;clear hkz
 have HB0:=af hbx0;clear hbx0
 have HH0:=af hh0;clear hh0
 have HTC:=af hTc;clear hTc hT
 have HLM:=af hLM;clear hLM
 have HLE:=af hlen;clear hlen
 have htl:t<w.heap.size:=(ah.1 ht).1
 have hid:kb=kb:=rfl
 have hkid:nd.kids[L.length]? =some kb:=by rw[HE.out.row.2];simp
 obtain⟨hil,hkid'⟩:=bZ.1 hkid
 clear hkid hid
 have HKid:=af hkid';clear hkid'
 have hil':(L.length:Int)<(nd.kids.length:Int):=by omega
 have hkl:nd.keys.length≤1000000:=by have:=HE.out.ok.kk;omega
 have HAt:=af HE.out.at_
 go_enter Tryz.func112,Tryz.ntmps112
 go_wp2_with (first
  |(go_at_call 151;go_must ((refine(Ew t mp root err b deep σ S nd w hI ht hst HE.out.blk (by omega)).mono ?_);rintro e w1 ⟨nb,rfl,hn1,hI1,hs1⟩))
  |(go_at_call 144;go_must ((refine(jd nb nd _ S hn1.iU).mono ?_);rintro e w2 ⟨rfl,hw⟩;subst w2;rw[hke]))
  |(go_at_call 145;go_must ((refine(DR nb nd key _ S hn1.iU HE.out.rise hkl).mono ?_);rw[←HAt.out];rintro e w2 ⟨rfl,hb2⟩;refine Stop.of ?_)))
 refine Stop.on ?_
 have hs2:Step S S w w2:=hs1.trans (Step.of_below hb2)
 have hN2:=hn1.iU.below hb2
 have hI2:=hI1.below hb2
 have ht2:=ht.step hst hs2
 have hbx2:=hbx.step hs2
 have hnbw:w.heap.size≤nb:=hn1.2.1
 obtain⟨hSb,v0,v1,v2,bN,N0,N1,N2⟩:=id hN2
 obtain⟨ao2,cp2,rfl,_,_,_,_⟩:=bE.form N2
 obtain⟨pb,po,rfl,d2⟩:=N2.at rfl L.length hil
 rw[HKid.out] at d2
 have hpb:=aF w2 _ d2
 obtain⟨_,_,y2,_,_,_,ly⟩:=cells3 bN
 have hE1:=HIH.out (σ.gone b) S kb (deep+1) key k (jc M hi) c x w2 hI2 ht2.1 hst hbx2 T0 nx HE.out.w (by omega) (by omega) hks
 have HE1:=af hE1;clear hE1
 go_wp2_with (first
  |(go_at_call 112;go_must (refine HE1.out.mono ?_;rintro e w3 (⟨v,ps,σ1,S1,x',m,rfl,hown,hP,hc1,⟨hpk1,W1,hW1,hB1⟩,hI3,hs3⟩|⟨hno,rfl,τ,Sτ,g1,g2,g3,g4⟩)<;>refine Stop.of ?_)))
 rotate_left
 ·refine Stop.on ?_
  exact⟨rfl,.inr ⟨fun hR=>hno (HRk.out hR),rfl,τ,Sτ,g1,hs2.trans g2,g3,g4⟩⟩
 refine Stop.on ?_
 have hN3:=hN2.step hs3
 have hpl:=hP.len
 have hRp:=yG nb nd v ps L.length w3 S1 hI3.sub hN3 (HE.out.ok.one hkne) hown.dD hil HE.out.ok.kk (by omega) (by omega)
 have HRp:=af hRp;clear hRp
 clear y2 d2 hpb
 go_wp2_with (first
  |(go_at_call 152;go_must (refine HRp.out.mono ?_;rintro e w4 ⟨rfl,hN4,hk4⟩;refine Stop.of ?_)))
 refine Stop.on ?_
 have hS1b:¬S1 nb:=hN4.1
 have hI4:=hI3.jZ hk4 (fun g hg e=>hS1b (by rw[←e];exact hg))
 have ht3:=ht2.1.step ht2.2 hs3
 have hnbt:t≠nb:=fun e=>by rw[e] at htl;omega
 have ht4:cu w4 t mp root err:=(hk4.block t (ah.1 ht3.1).1 hnbt).trans ht3.1
 have hs4:Step S S1 w w4:=(hs2.trans hs3).PS (hk4.mono (fun _ _ h=> .inr h)) (fun g hg=> .inl hg) hnbw
 have cm1:=hc1.mid (ls:=bl) (rs:=bm) (by rw[aL];exact n0) (fun y hy=>HH0.out y (by simp[hy])) (fun y hy=>HH0.out y (by simp[hy]))
 rw[aL,aL] at cm1
 have hdl:∀y∈bl,y∉x:=fun y hy hx=>(dN.1 n0).2.2 y hy y (dz _ hx) rfl
 have hdm:∀y∈bm,y∉x:=fun y hy hx=>(dN.1 (dN.1 n0).2.1).2.2 y hx y hy rfl
 have HW1:=af (ay hW1 hB1);clear hW1 hB1
 obtain⟨R,hRo,hMidz,hRl⟩:=I7 HE.out.row (l0.keep hc1 hdl) (m0.keep hc1 hdm) hP (by have:=HLE.out.1;have:=HE.out.kids;omega) HE.out.lo1 HKZ.out
 have hRl2:R.length≤1160:=by have:=HLM.out;omega
 obtain⟨zc,hzc⟩:∃zc,zc=if ps.length=1 then(F c).length else(cl++(F c++cm)).length+1:=⟨_,rfl⟩
 have hMid:=hMidz zc (fun e=>by rw[hzc,if_pos e])
 have HZC:=af hzc;clear hzc hMidz
 have hRS:=Nd.Cm (nd:=nd) (i:=L.length) (ps:=ps) hil HE.out.ok.kk hP.key
 have HRS:=af hRS;clear hRS
 have ok1:(nd.pz L.length ps).Ok:=by
  exact hRo.ok (HE.out.ok.one hkne) (Cn HE.out.ok.ky hP.key) hMid.Ev (by omega)
 have n1:=cm1.nd n0
 have R1:=fun hR=>cm1.room (HR0.out hR)
 have R1L:∀Lr,jX Lr σ (b::(bl++(x++bm))) (cs.length+1)→jX Lr σ1 (bl++(x'++bm)) ((cl++(c++cm)).length+1):=fun Lr hR=>cm1.zT (HR0L.out Lr hR)
 have HR1L:=af R1L;clear R1L
 have HPK1:=af (show ∀Lr,jX Lr σ (b::(bl++(x++bm))) (cs.length+1)→σ.tk≤Lr→σ1.tk≤Lr from fun Lr hR t=>hpk1 Lr (HRkL.out Lr hR) t);clear hpk1
 have HR1:=af R1;clear R1
 have hFl:(cl++(F c++cm)).length≤(cl++(c++cm)).length+1:=by
  have:=hF.len c
  simp only[aC];omega
 have hJ:=Nc t mp root err σ1 S1 nb (nd.pz L.length ps) L.length (deep+1) h zc hi lo R (cl++(F c++cm)) (bl++(x'++bm)) _ w4 hI4 ht4 (fun x=>ht3.2 x) hN4 ok1 hRo hMid n1 (by omega) hFl hRl2
 have HJ:=af hJ;clear hJ
 have HP:=af hP;clear hP
 have HRo:=af hRo;clear hRo hRl
 have HC:=af (c0.trans cm1)
 go_wp2_with (first
  |(go_at_call 153;go_must (refine HJ.out.mono ?_;rintro e w5 (⟨rfl,σ2,S2,n2,R2,bs2,hI5,hN5,hRo2,hr2,hc2,⟨hpk2,W2,hW2,hB2⟩,ok2,hl2,hk5,hS2⟩|⟨hno,rfl,τ,Sτ,g1,g2,g3,g4⟩)<;>refine Stop.of ?_)))
 rotate_left
 ·refine Stop.on ?_
  exact⟨rfl,.inr ⟨fun hR=>hno (HR1.out hR),rfl,τ,Sτ,g1,hs4.trans g2,g3.trans HC.out.H,g4.trans HC.out.most⟩⟩
 refine Stop.on ?_
 have hs5:Step S S2 w w5:=hs4.PS hk5 hS2 hnbw
 have HW2:=af (ay hW2 hB2);clear hW2 hB2
 have ht5:=ht.step hst hs5
 have rm2:=Ai ok2 hRo2
 have rm1:=fun hR=>qZ (Lr:=σ2.most) ok2 hRo2 hr2 (hc2.room (HR1.out hR)) hFl
 have HRML:=af (show ∀Lr,jX Lr σ (b::(bl++(x++bm))) (cs.length+1)→σ2.sz+n2.room≤Lr from fun Lr hR=>qZ ok2 hRo2 hr2 (hc2.zT (HR1L.out Lr hR)) hFl)
 have HPK2:=af (show ∀Lr,jX Lr σ (b::(bl++(x++bm))) (cs.length+1)→σ.tk≤Lr→σ2.tk≤Lr from fun Lr hR t=>hpk2 Lr (HR1L.out Lr hR) (HPK1.out Lr hR t));clear hpk2
 have hRl2':=af hRo2
 have HNL:=af rm2
 have HRM:=af rm1
 clear rm1 rm2 hRo2
 go_wp2_with (first
  |(go_at_call 149;go_must ((refine(pu t mp root err _ σ2 S2 nb n2 least w5 hI5 ht5.1 ht5.2 hN5 ok2 (gD _)).mono ?_);rintro e w6 (⟨v6,ps6,zs,σ3,S3,rfl,p2,p3,p4,p5,p6⟩|⟨hno,rfl,τ,Sτ,g1,g2,g3,g4⟩)<;>refine Stop.of ?_)))
 rotate_left
 ·refine Stop.on ?_
  exact⟨rfl,.inr ⟨fun hR=>absurd (HRM.out hR) (fq.2 hno),rfl,τ,Sτ,g1,hs5.trans g2,g3.trans (hc2.H.trans HC.out.H),g4.trans (hc2.most.trans HC.out.most)⟩⟩
 refine Stop.on ?_
 go_wp2_with fail
 go_ret
 have hkne2:n2.kids≠[]:=fun e=>hRl2'.out.ne (by have:=hRl2'.out.2;rw[e] at this;exact List.map_eq_nil_iff.1 this.symm)
 obtain⟨m3,bs3,q1,q2⟩:=zm p3 (lo:=lo) (hi:=hi) (h:=h+1) (cs:=cl++(F c++cm)) (bs:=bs2) ok2 ⟨hkne2,by rw[hRl2'.out.row];exact hr2⟩ p4 hI5.K9 (hc2.nd n1) (dJ.has (fun _ _ _ _ _ ht=>ht.has) hr2) hl (by have:=HNL.out;have:=ok2.one hkne2;simp[Nd.room,this,hkne2];omega)
 refine .inl ⟨v6,ps6,σ3,S3,bs3,m3,rfl,p2.base hs5.1.size,?_,(HC.out.trans hc2).trans q2,⟨fun Lr hR t=>wu p3 ok2 p4 (HRML.out Lr hR) (HPK2.out Lr hR t),W1+W2+ps6.length,?_,?_⟩,p5,hs5.trans p6⟩
 ·rw[HFc.out]
  exact q1
 ·exact((((tq σ b).trans HW1.out.1).trans HW2.out.1).trans p4.Rl).more (by omega)
 ·rw[HFc.out]
  have hlz:=p4.length.1
  have hk2:=HE.out.kids
  have sz:=HE.out.blk.size hI
  obtain⟨r1,r2⟩:=HRS.out
  have hlm:=HLM.out
  rcases HW2.out.2 with ⟨j1,j2,j3⟩|⟨hh,kb,rfl,hkb,hz,_,j1,j2,j3⟩
  ·have ht:=p3.tt ok2 hkne2 (x:=ps.length - 1) (K:=nd.kids.length+(ps.length - 1)) (by omega) (by omega)
   have l1:=dJ.low (m:=2^h) (fun _ _ _ _ _ ht=>iy.pw ht) HE.out.l
   have l2:=dJ.low (m:=2^h) (fun _ _ _ _ _ ht=>iy.pw ht) HE.out.m
   have hm:(nd.kids.length - 1)*2^h≤cl.length+cm.length:=by
    rw[show nd.kids.length - 1=L.length+M.length by omega,eF];omega
   refine LV HW1.out.2 hk2 ?_ (by rw[hlz];exact ht) j1
   simp only[aC]
   omega
  ·have hzc:=HZC.out
   by_cases hq:ps.length=1
   ·rw[if_pos hq] at hzc
    rw[hzc] at hz
    have hB1:=HW1.out.2
    rw[hq] at hB1 r1 r2
    have ht:=p3.tt ok2 hkne2 (x:=W2 - 1) (K:=nd.kids.length+(W2 - 1)) (by omega) (by omega)
    have hkn:(nd.pz L.length ps).kids.length=nd.kids.length:=by omega
    rw[hkn] at hz
    exact OB hB1 hk2 hkb hz j1 (by rw[hlz];exact ht)
   ·rw[if_neg hq] at hzc
    omega
theorem FY (t:Nat) (mp:VS) (root err:Int) (key:ByteArray) (g:Nat) (cb:Array Value) (F:List Pr→List Pr) (vs:List (Nat×ByteArray)) (hent:∀args w,(callFunc g args).run Tryz.prog w= .ok (.enter g args) w) (hf:Bp g cb F vs) (hF:Ja F key) (hks:key.size≤128):∀h,Eh t mp root err key g cb F vs h
 |0=>Pf t mp root err key g cb F vs hent hf hF
 |h+1=>IJ t mp root err key g cb F vs hF hks h (FY t mp root err key g cb F vs hent hf hF hks h)
end Go.Proofs.YtpgdljlghiifjaaGreatDoor
