/- parts -/
import Derived.Test.YtpmbddooibgnaaaGreatDoorS14
import Derived.Test.YtpmbddooibgnaaaGreatDoorS21
import Derived.Test.YtpmbddooibgnaaaGreatDoorS24
import Derived.Lib.LaidTab
set_option maxRecDepth 100000
set_option maxHeartbeats 8000000
set_option linter.all false
namespace Go.Proofs.YtpmbddooibgnaaaGreatDoor
open Go.RowKit
structure qM (x bb tb pb mb:Nat)(body:ByteArray)(pv:Value)(made:Bool)(w:World):Prop where
 body:w.heap[bb]? =some (.cells #[.string body] 9 (0,0))
 tree:w.heap[tb]? =some (.cells #[.pointer (some ⟨x,0,none⟩)] 136 (0,0))
 path:w.heap[pb]? =some (.cells #[pv] 146 (0,0))
 made:w.heap[mb]? =some (.cells #[.bool made] 4 (0,0))
section
variable {x bb tb pb mb:Nat} {body:ByteArray} {pv:Value} {made:Bool} {w w':World} {M F:Nat->Prop}
theorem qM.keep (h:qM x bb tb pb mb body pv made w)(hk:Keep M w w')(h1:¬M bb)(h2:¬M tb)(h3:¬M pb)(h4:¬M mb):qM x bb tb pb mb body pv made w':=
 ⟨(hk.block _ (ah.1 h.body).1 h1).trans h.body,(hk.block _ (ah.1 h.tree).1 h2).trans h.tree,(hk.block _ (ah.1 h.path).1 h3).trans h.path,(hk.block _ (ah.1 h.made).1 h4).trans h.made⟩
theorem qM.below (h:qM x bb tb pb mb body pv made w)(hb:Below w.heap.size w w'):qM x bb tb pb mb body pv made w':=h.keep (Keep.of_below hb (fun _=>False)) id id id id
theorem qM.stay (h:qM x bb tb pb mb body pv made w)(hk:Keep (fun g=>¬F g) w w')(hF:F bb/\F tb/\F pb/\F mb):qM x bb tb pb mb body pv made w':=h.keep hk (fun e=>e hF.1) (fun e=>e hF.2.1) (fun e=>e hF.2.2.1) (fun e=>e hF.2.2.2)
theorem qM.cells (h:qM x bb tb pb mb body pv made w):w.cell? ⟨bb,0,none⟩=some (.string body)/\w.cell? ⟨tb,0,none⟩=some (.pointer (some ⟨x,0,none⟩))/\w.cell? ⟨pb,0,none⟩=some pv/\w.cell? ⟨mb,0,none⟩=some (.bool made)/\w.frozen? ⟨mb,0,none⟩=false/\bb<w.heap.size/\tb<w.heap.size/\pb<w.heap.size/\mb<w.heap.size:=by
 obtain⟨h1,h2,h3,h4⟩:=h
 exact⟨by simp[World.cell?,h1],by simp[World.cell?,h2],by simp[World.cell?,h3],by simp[World.cell?,h4],by simp[World.frozen?,h4],(ah.1 h1).1,(ah.1 h2).1,(ah.1 h3).1,(ah.1 h4).1⟩
theorem qM.set (h:qM x bb tb pb mb body pv made w)(hne:mb≠bb/\mb≠tb/\mb≠pb)(b:Bool):qM x bb tb pb mb body pv b (w.setCell ⟨mb,0,none⟩ (.bool b))/\Keep (· =mb) w (w.setCell ⟨mb,0,none⟩ (.bool b)):=by
 have hk:Keep (· =mb) w (w.setCell ⟨mb,0,none⟩ (.bool b)):=(Keep.refl (· =mb) _).setCell (p:=⟨mb,0,none⟩) (.inr rfl) _
 exact⟨⟨(hk.block _ (ah.1 h.body).1 (fun e=>hne.1 e.symm)).trans h.body,(hk.block _ (ah.1 h.tree).1 (fun e=>hne.2.1 e.symm)).trans h.tree,(hk.block _ (ah.1 h.path).1 (fun e=>hne.2.2 e.symm)).trans h.path,by simp[World.setCell,aJ,h.made]⟩,hk⟩
end
def Ej (kv:List Pr)(i:ByteArray)(e:Int)(body:ByteArray):List Pr:=gZ (gZ (gZ kv ⟨#[101]⟩ (strOf (jD e))) (uV i) (wN 1 e)) (vR i) body
def tH (kv:List Pr)(s:ByteArray):List Pr:=gZ (gZ kv ⟨#[105]⟩ (strOf (jD 1))) (uj ow.i s) id1
theorem TP.rm.le {p:TP}{kv:List Pr}{k:Nat}(h:p.rm kv k):kv.length<=4090:=by have:=h.1;omega
theorem uU (n:Int):(strOf (jD n)).size<=63:=by rw[lJ,eF];omega
section
variable {p:TP} {kv:List Pr} {w:World}
theorem Lx (bb tb pb mb:Nat)(body:ByteArray)(pv:Value)(s:ByteArray)(S:Nat->Prop)(h:RT p [] w)(hc:qM p.x bb tb pb mb body pv false w)(hF:p.F bb/\p.F tb/\p.F pb/\p.F mb)(hne:(mb≠bb/\mb≠tb/\mb≠pb)/\p.x≠mb)
  (hp:nH w S pv [s]) (hS:S mb) (hs:s.size<=20) (hlk:cu (tH [] s) ⟨#[101]⟩=none) (hr:p.rm [] 5) (hb:body.size<=63):
  Calls Tryz.prog 364 #[.pointer (some ⟨bb,0,none⟩),.pointer (some ⟨tb,0,none⟩),.pointer (some ⟨pb,0,none⟩),.pointer (some ⟨mb,0,none⟩)] w fun ex w'=>ex= .returned (.tuple #[])/\RT p (Ej (tH [] s) id1 1 body) w'/\Keep (fun g=>¬p.F g\/g=mb) w w'/\qM p.x bb tb pb mb body pv true w':=by
 obtain⟨po,pc,hpv,_,_,_,_⟩:=jf.form hp
 have hpv:pv= .slice po 1 pc:=hpv
 subst hpv
 obtain⟨c0,c1,c2,c3,f3,l0,l1,l2,l3⟩:=hc.cells
 have hbs:¬(8192:Int)<(body.size:Int):=by omega
 have HFD:=af (h.find _ [s] S hp nd0 hr.le ⟨show s.size<=64 by omega,.inl ⟨rfl,rfl⟩⟩)
 have HA:=af (ak h (ak hc (ak hF (ak hne hp))))
 have HI:=af (ak (show id1.size<=4 by decide) hb)
 have HL0:=af (ak hlk hr)
 have HS64:=af hs
 have HSM:=af hS
 clear h hc hF hne hp hS hs hlk hr hb
 unfold Ej
 unfold nd0 at HFD
 dsimp only at HFD
 go_enter Tryz.func364,Tryz.ntmps364
 go_wp2_with (first
  |(go_at_call 361;go_must (refine(uE _ _).mono ?_;rintro ex w1 ⟨rfl,hw1⟩;subst w1))
  |(go_at_call 131;go_must (refine HFD.out.mono ?_;rintro ex w1 ⟨rfl,hb1⟩;refine Stop.of ?_)))
 refine Stop.on ?_
 have hb2:=aC w1 (.cells #[.string ⟨#[]⟩,.int .i64 0,.int .i64 0] 246)
 have hn2:=aF w1 (.cells #[.string ⟨#[]⟩,.int .i64 0,.int .i64 0] 246)
 obtain⟨w2,hw2⟩:∃w2:World,Hid (w1.alloc (.cells #[.string ⟨#[]⟩,.int .i64 0,.int .i64 0] 246)=w2):=⟨_,af rfl⟩
 rw[hw2.out] at hb2 hn2
 obtain⟨nb,hnb⟩:∃nb:Nat,Hid (w1.heap.size=nb):=⟨_,af rfl⟩
 have hb12:=hb1.trans (hb2.mono hb1.size)
 have HLO:=af (show w.heap.size<=nb by have:=hb1.size;have:=hnb.out;omega)
 rw[hnb.out] at hn2
 have hc2:=HA.out.2.1.below hb12
 have HX2:=af (ak hb12 (ak hc2 hn2))
 clear c0 c1 c2 c3 f3 l0 l1 l2 l3 hb1 hb2 hb12
 obtain⟨c0,c1,c2,c3,f3,l0,l1,l2,l3⟩:=hc2.cells
 obtain⟨d0,d1,d2,g0,g1,g2,ln⟩:=jE (n:=nd0) hn2
 unfold nd0 at d0 d1 d2
 dsimp only at d0 d1 d2
 clear hc2 hn2
 go_upto_region 2 with (fail)
 rw[hw2.out,hnb.out]
 go_upto_region 4 with (first
  |(go_at_call 361;go_must (refine(uE _ _).mono ?_;rintro ex w3 ⟨rfl,hw3⟩;subst w3)))
 obtain⟨hc3,hk23⟩:=HX2.out.2.1.set HA.out.2.2.2.1.1 true
 obtain⟨w3,hw3⟩:∃w3:World,Hid (w2.setCell ⟨mb,0,none⟩ (.bool true)=w3):=⟨_,af rfl⟩
 rw[hw3.out] at hc3 hk23 ⊢
 have hkm:Keep (· =mb) w w3:=(Keep.of_below HX2.out.1 (· =mb)).trans hk23 (fun _ _ e=>e)
 have hnmb:nb≠mb:=fun e=>absurd (ah.1 HA.out.2.1.made).1 (by have:=HLO.out;omega)
 have hn3:Row w3 nb 246 nd0.row:=Row.keep (M:=(· =mb)) HX2.out.2.2 hk23 hnmb
 have hT3:=HA.out.1.keep hkm (fun g e=>by rw[show g=mb from e];exact HA.out.2.2.1.2.2.2) HA.out.2.2.2.1.2
 have hp3:nH w3 S (.slice po 1 pc) [s]:=jf.keep HA.out.2.2.2.2 fun g _ hl hn=>⟨hkm.block g hl (fun e=>hn (by rw[show g=mb from e];exact HSM.out)),hn⟩
 have hpl:=hT3.QR po s pc _ hp3
 have HPL:=af hpl
 have HX3:=af (ak hc3 (ak hn3 (ak hkm hp3)))
 clear c0 c1 c2 c3 f3 l0 l1 l2 l3 d0 d1 d2 g0 g1 g2 ln hk23 hkm hnmb hT3 hn3 hp3 hpl
 obtain⟨c0,c1,c2,c3,f3,l0,l1,l2,l3⟩:=hc3.cells
 clear hc3
 go_wp2_with (first
  |(go_at_call 365;go_must (refine HPL.out.mono ?_;rintro ex w4 ⟨rfl,hb4⟩;refine Stop.of ?_)))
 refine Stop.on ?_
 have hb5:=aC w4 (.cells #[.string ⟨#[0,0,0,0]⟩,.int .i64 2,.int .i64 0] 246)
 have hn5:=aF w4 (.cells #[.string ⟨#[0,0,0,0]⟩,.int .i64 2,.int .i64 0] 246)
 obtain⟨w5,hw5⟩:∃w5:World,Hid (w4.alloc (.cells #[.string ⟨#[0,0,0,0]⟩,.int .i64 2,.int .i64 0] 246)=w5):=⟨_,af rfl⟩
 rw[hw5.out] at hb5 hn5
 obtain⟨qb,hqb⟩:∃qb:Nat,Hid (w4.heap.size=qb):=⟨_,af rfl⟩
 have hb35:=hb4.trans (hb5.mono hb4.size)
 have hqlo:w3.heap.size<=qb:=by have:=hb4.size;have:=hqb.out;omega
 have hnlt:=HX3.out.2.1.lt
 have hqn:¬nb=qb:=by omega
 rw[hqb.out] at hn5
 have hc5:=HX3.out.1.below hb35
 have hn5b:Row w5 nb 246 nd0.row:=Row.keep (M:=fun _=>False) HX3.out.2.1 (Keep.of_below hb35 _) id
 have hsp:=KW po [s] pc S w5 (jf.below HX3.out.2.2.2 hb35) (by simp)
 have HSP:=af hsp
 have hkm5:=HX3.out.2.2.1.trans (Keep.of_below hb35 (fun _=>False)) (fun _ _ e=>e.elim)
 have HX5:=af (ak hc5 (ak hn5b (ak hkm5 (ak hn5 hqn))))
 have HQLO:=af (show w.heap.size<=qb from aG HX3.out.2.2.1.size hqlo)
 clear c0 c1 c2 c3 f3 l0 l1 l2 l3 hb4 hb5 hb35 hqlo hnlt hqn hn5b hsp hkm5
 obtain⟨c0,c1,c2,c3,f3,l0,l1,l2,l3⟩:=hc5.cells
 clear hc5 hn5
 go_upto_region 6 with (fail)
 rw[hw5.out,hqb.out]
 go_wp2_with (first
  |(go_at_call 366;go_must (refine HSP.out.mono ?_;rintro ex w6 ⟨rfl,hb6⟩;refine Stop.of ?_)))
 refine Stop.on ?_
 have hc6:=HX5.out.1.below hb6
 have hn6:Row w6 nb 246 nd0.row:=Row.keep (M:=fun _=>False) HX5.out.2.1 (Keep.of_below hb6 _) id
 have hq6:Row w6 qb 246 ow.row:=Row.keep (M:=fun _=>False) (cur:=ow.row) HX5.out.2.2.2.1 (Keep.of_below hb6 _) id
 have hkm6:=HX5.out.2.2.1.trans (Keep.of_below hb6 (fun _=>False)) (fun _ _ e=>e.elim)
 have hT6:=HA.out.1.Ig hkm6 (fun g e=>by rw[show g=mb from e];exact HA.out.2.2.1.2.2.2) HA.out.2.2.2.1.2
 have hrm6:(p.add w w6).rm [] 5:=HL0.out.2
 have hNF:(p.add w w6).F nb:= .inr ⟨HLO.out,by have:=hn6.lt;omega⟩
 have hQF:(p.add w w6).F qb:= .inr ⟨HQLO.out,by have:=hq6.lt;omega⟩
 have hx1:(p.add w w6).x=p.x:=rfl
 have HSUB:=af (show ∀g,p.F g->(p.add w w6).F g from fun g e=> .inl e)
 obtain⟨p1,hp1⟩:∃p1,Hid (p.add w w6=p1):=⟨_,af rfl⟩
 rw[hp1.out] at hT6 hrm6 hNF hQF hx1 HSUB
 have HF1:=af (show p1.F bb/\p1.F tb/\p1.F pb/\p1.F mb from⟨HSUB.out _ HA.out.2.2.1.1,HSUB.out _ HA.out.2.2.1.2.1,HSUB.out _ HA.out.2.2.1.2.2.1,HSUB.out _ HA.out.2.2.1.2.2.2⟩)
 have hne9:∀(b:Nat) (o:Obj),w.heap[b]? =some o->¬b=nb:=fun b o e x=>absurd (ah.1 e).1 (by have:=HLO.out;omega)
 have HN:=af (show p1.F nb/\¬p1.x=nb/\¬bb=nb/\¬tb=nb/\¬pb=nb/\¬mb=nb from⟨hNF,by rw[hx1];exact hne9 _ _ HA.out.1.obj,hne9 _ _ HA.out.2.1.body,hne9 _ _ HA.out.2.1.tree,hne9 _ _ HA.out.2.1.path,hne9 _ _ HA.out.2.1.made⟩)
 have hfr:=hT6.Rn (by simp) rfl (hrm6.room (uU 1))
 rw[hx1] at hfr
 have HFR:=af hfr
 have HQF:=af (ak hQF (ak HX5.out.2.2.2.2 hx1))
 have HR6:=af (hrm6.ins (uU 1) ⟨#[105]⟩ (by rw[lJ,eF];decide))
 have HX6:=af (ak hc6 (ak hn6 (ak hq6 hkm6)))
 clear c0 c1 c2 c3 f3 l0 l1 l2 l3 hb6 hn6 hq6 hkm6 hT6 hrm6 hNF hQF hx1 hne9 hfr
 obtain⟨c0,c1,c2,c3,f3,l0,l1,l2,l3⟩:=hc6.cells
 clear hc6
 go_wp2_with (first
  |(go_at_call 367;go_must (refine HFR.out.mono ?_;rintro ex w7 ⟨rfl,hT7,hk7⟩;refine Stop.of ?_)))
 refine Stop.on ?_
 have hc7:=HX6.out.1.stay hk7 HF1.out
 have hn7:=HX6.out.2.1.keep hk7 (fun e=>e HN.out.1)
 have hq7:=HX6.out.2.2.1.keep hk7 (fun e=>e HQF.out.1)
 have hk17:Keep (fun g=>¬p.F g\/g=mb) w w7:=(HX6.out.2.2.2.mono (fun _ _ e=> .inr e)).trans hk7 (fun g _ e=> .inl fun x=>e (HSUB.out g x))
 have HX7:=af (ak hc7 (ak hq7 (ak hk17 hT7)))
 clear c0 c1 c2 c3 f3 l0 l1 l2 l3 hk7 hc7 hq7 hk17 hT7
 go_wp2_with (first
  |((refine bU rfl ?_);intro K hK;(refine wp_store_row 246 (.tmp 4) (.tmp 33) rfl nb 0 246 _ (ND.row ⟨id1,1,0⟩) rfl rfl hn7 nV (aA 3) (ND.one ⟨id1,1,0⟩) ?_);intro w8 hn8 hk8;refine hK _ _ ?_;refine Stop.of ?_))
 refine Stop.on ?_
 have hc8:=HX7.out.1.keep hk8 HN.out.2.2.1 HN.out.2.2.2.1 HN.out.2.2.2.2.1 HN.out.2.2.2.2.2
 have hq8:=HX7.out.2.1.keep hk8 (fun e=>HQF.out.2.1 (Eq.symm e))
 have hk18:Keep (fun g=>¬p.F g\/g=mb) w w8:=HX7.out.2.2.1.trans hk8 (fun g hg e=>absurd hg (by have e:g=nb:=e;have:=HLO.out;omega))
 have hT8:=HX7.out.2.2.2.keep hk8 (fun g e=>by rw[show g=nb from e];exact HN.out.1) HN.out.2.1
 have hz1:(⟨#[99]⟩:ByteArray).size=1:=rfl
 have hz2:((⟨#[99]⟩:ByteArray)++⟨#[0,0,0,0]⟩).size=5:=by decide
 have ha1:∀W:World,(Op.stringOp .add (⟨#[99]⟩:ByteArray) ⟨#[0,0,0,0]⟩).run Tryz.prog W= .ok (.string (⟨#[99]⟩++⟨#[0,0,0,0]⟩)) W:=fun W=>gB W _ _ (by decide) (by decide)
 have ha2:∀W:World,(Op.stringOp .add ((⟨#[99]⟩:ByteArray)++⟨#[0,0,0,0]⟩) s).run Tryz.prog W= .ok (.string (uj ow.i s)) W:=fun W=>gB W _ _ (by rw[hz2];decide) (by have:=HS64.out;omega)
 have hks:(uj ow.i s).size=5+s.size:=by unfold uj ow;rw[mV,hz2]
 have hp8:=hT8.put (uj ow.i s) id1 (by have:=HS64.out;omega) (HR6.out.room (by decide))
 rw[HQF.out.2.2] at hp8
 have HP8:=af hp8
 have HX8:=af (ak hc8 (ak hn8 hk18))
 have HR8:=af (HR6.out.ins (value:=id1) (by decide) (uj ow.i s) (by rw[show id1.size=4 from rfl];have:=HS64.out;omega))
 obtain⟨c0,c1,c2,c3,f3,l0,l1,l2,l3⟩:=hc8.cells
 obtain⟨d0,d1,d2,g0,g1,g2,ln⟩:=jE hn8
 obtain⟨e0,e1,e2,h0,h1,h2,lq⟩:=jE hq8
 unfold ow at e0 e1 e2
 dsimp only at e0 e1 e2
 obtain⟨ky,hky⟩:∃ky,Hid (uj ow.i s=ky):=⟨_,af rfl⟩
 rw[hky.out] at ha2 HP8
 obtain⟨kc,hkc⟩:∃kc,Hid ((⟨#[99]⟩:ByteArray)++⟨#[0,0,0,0]⟩=kc):=⟨_,af rfl⟩
 rw[hkc.out] at ha1 ha2
 clear hc8 hn8 hq8 hk18 hk8 hT8 hz1 hz2 hks hp8
 go_wp2_with (first
  |(go_at_call 368;go_must (refine HP8.out.mono ?_;rintro ex w9 ⟨rfl,hT3,hk9⟩;refine Stop.of ?_)))
 refine Stop.on ?_
 have hc3:=HX8.out.1.stay hk9 HF1.out
 have hn3:Row w9 nb 246 (ND.row ⟨id1,1,0⟩):=HX8.out.2.1.keep hk9 (fun e=>e HN.out.1)
 have hk3:Keep (fun g=>¬p.F g\/g=mb) w w9:=HX8.out.2.2.trans hk9 (fun g _ e=> .inl fun x=>e (HSUB.out g x))
 have hx1:=HQF.out.2.2
 rw[<-hky.out] at hT3
 have hT3:RT p1 (tH [] s) w9:=hT3
 have hr3:p1.rm (tH [] s) 3:=HR8.out
 have hct0:Us (tH [] s) ⟨#[101]⟩ 0:= .inl ⟨HL0.out.1,rfl⟩
 have HL:=af (ak hct0 hr3)
 clear c0 c1 c2 c3 f3 l0 l1 l2 l3 d0 d1 d2 g0 g1 g2 ln e0 e1 e2 h0 h1 h2 lq ha1 ha2 hk9 hr3 hct0
 obtain⟨c0,c1,c2,c3,f3,l0,l1,l2,l3⟩:=hc3.cells
 obtain⟨d0,d1,d2,g0,g1,g2,ln⟩:=jE hn3
 have hct3:=hT3.count ⟨#[101]⟩ 0 HL.out.2.le ⟨by decide,by decide⟩ HL.out.1 (TP.rm.room HL.out.2 (uU _))
 rw[hx1,Int.zero_add] at hct3
 have HCT:=af hct3
 have HY:=af (ak hc3 (ak hn3 (ak hk3 hx1)))
 have HR:=af (HL.out.2.ins (uU 1) ⟨#[101]⟩ (by rw[lJ,eF];decide))
 clear hct3 hT3 hc3 hn3 hk3 hx1
 go_wp2_with (first
  |(go_at_call 369;go_must (refine HCT.out.mono ?_;rintro ex w4 ⟨rfl,hT4,hk4⟩;refine Stop.of ?_)))
 refine Stop.on ?_
 have hc4:=HY.out.1.stay hk4 HF1.out
 have hn4:Row w4 nb 246 (ND.row ⟨id1,1,0⟩):=HY.out.2.1.keep hk4 (fun e=>e HN.out.1)
 have hk14:Keep (fun g=>¬p.F g\/g=mb) w w4:=HY.out.2.2.1.trans hk4 (fun g _ e=> .inl fun x=>e (HSUB.out g x))
 clear c0 c1 c2 c3 f3 l0 l1 l2 l3 d0 d1 d2 g0 g1 g2 ln
 obtain⟨d0,d1,d2,g0,g1,g2,ln⟩:=jE hn4
 obtain⟨w5,hw5⟩:∃w5:World,Hid (w4.setCell ⟨nb,2,none⟩ (.int .i64 1)=w5):=⟨_,af rfl⟩
 have hk5:Keep (· =nb) w4 w5:=by rw[<-hw5.out];exact(Keep.refl (· =nb) _).setCell (p:=⟨nb,2,none⟩) (.inr rfl) _
 have hn5:Row w5 nb 246 (ND.row ⟨id1,1,1⟩):=by rw[<-hw5.out];exact hn4.setCell 2 _
 have hc5:=hc4.keep hk5 HN.out.2.2.1 HN.out.2.2.2.1 HN.out.2.2.2.2.1 HN.out.2.2.2.2.2
 have hT5:=hT4.keep hk5 (fun g e=>by rw[show g=nb from e];exact HN.out.1) HN.out.2.1
 have hk15:Keep (fun g=>¬p.F g\/g=mb) w w5:=hk14.trans hk5 (fun g hg e=>absurd hg (by have e:g=nb:=e;have:=HLO.out;omega))
 have hs5:=hT5.save id1 1 1 (by have:=HI.out.1;omega) (HR.out.room (by rw[wM];omega))
 rw[HY.out.2.2.2] at hs5
 have HS5:=af hs5
 have HX5:=af (ak hc5 (ak hn5 hk15))
 have HR5:=af (HR.out.ins (value:=wN 1 1) (by rw[wM];omega) (uV id1) (by rw[wM,wQ];have:=HI.out.1;omega))
 obtain⟨c0,c1,c2,c3,f3,l0,l1,l2,l3⟩:=hc4.cells
 clear hT4 hk4 hc4 hn4 hk14 hk5 hc5 hT5 hk15 hs5
 go_upto_region 10 with (fail)
 rw[hw5.out]
 clear c0 c1 c2 c3 f3 l0 l1 l2 l3 d0 d1 d2 g0 g1 g2 ln
 obtain⟨c0,c1,c2,c3,f3,l0,l1,l2,l3⟩:=HX5.out.1.cells
 obtain⟨d0,d1,d2,g0,g1,g2,ln⟩:=jE hn5
 clear hn5
 go_wp2_with (first
  |(go_at_call 370;go_must (refine HS5.out.mono ?_;rintro ex w6 ⟨rfl,hT6,hk6⟩;refine Stop.of ?_)))
 refine Stop.on ?_
 have hc6:=HX5.out.1.stay hk6 HF1.out
 have hn6:=HX5.out.2.1.keep hk6 (fun e=>e HN.out.1)
 have hk16:Keep (fun g=>¬p.F g\/g=mb) w w6:=HX5.out.2.2.trans hk6 (fun g _ e=> .inl fun x=>e (HSUB.out g x))
 have hks:(vR id1).size=id1.size+1:=Bw id1
 have hadd:∀W:World,(Op.stringOp .add (⟨#[98]⟩:ByteArray) id1).run Tryz.prog W= .ok (.string (vR id1)) W:=fun W=>gB W _ _ (by show ((1:Nat):Int)<=_;omega) (by have:=HI.out.1;omega)
 have hp6:=hT6.put (vR id1) body (by have:=HI.out.1;omega) (HR5.out.room HI.out.2)
 rw[HY.out.2.2.2] at hp6
 have HP6:=af hp6
 have HX6:=af (ak hc6 hk16)
 clear c0 c1 c2 c3 f3 l0 l1 l2 l3 d0 d1 d2 g0 g1 g2 ln
 obtain⟨c0,c1,c2,c3,f3,l0,l1,l2,l3⟩:=hc6.cells
 obtain⟨d0,d1,d2,g0,g1,g2,ln⟩:=jE hn6
 obtain⟨kz,hkz⟩:∃kz,Hid (vR id1=kz):=⟨_,af rfl⟩
 rw[hkz.out] at hadd HP6
 clear hT6 hk6 hc6 hn6 hk16 hks hp6
 go_wp2_with (first
  |(go_at_call 368;go_must (refine HP6.out.mono ?_;rintro ex w7 ⟨rfl,hT7,hk7⟩)))
 go_end0
 rw[<-hkz.out,<-hp1.out] at hT7
 refine⟨rfl,RT.sub hT7 (fun _ e=> .inl e) HA.out.1.fb,HX6.out.2.trans hk7 (fun g _ e=> .inl fun x=>e (HSUB.out g x)),HX6.out.1.stay hk7 HF1.out⟩
end
section
variable {p:TP} {kv:List Pr} {w:World}
def pU (kv:List Pr)(m:ND):List Value:=[.int .i64 m.k,.int .i64 (if m.k=1 then(((cu kv (vR m.i)).getD ByteArray.empty).size:Int) else 0),.int .i64 m.e]
theorem wL:(Tryz.prog.info? 319).map (·.size)=some 3:=by kernel_rfl
def SS:List Value:=[.int .i64 0,.int .i64 0,.int .i64 0]
theorem pW {w:World}{b:Nat}{x y z:Int}(h:Row w b 319 [.int .i64 x,.int .i64 y,.int .i64 z]):w.cell? ⟨b,0,none⟩=some (.int .i64 x)/\w.cell? ⟨b,1,none⟩=some (.int .i64 y)/\w.cell? ⟨b,2,none⟩=some (.int .i64 z)/\w.frozen? ⟨b,0,none⟩=false/\w.frozen? ⟨b,1,none⟩=false/\w.frozen? ⟨b,2,none⟩=false/\b<w.heap.size:=by
 have h':w.heap[b]? =some (.cells #[.int .i64 x,.int .i64 y,.int .i64 z] 319 (0,0)):=h
 exact⟨by simp[World.cell?,h'],by simp[World.cell?,h'],by simp[World.cell?,h'],by simp[World.frozen?,h'],by simp[World.frozen?,h'],by simp[World.frozen?,h'],(ah.1 h').1⟩
theorem Jl (tb pb ob:Nat)(pv:Value)(path:List ByteArray)(S:Nat->Prop)(m:ND)(h:RT p kv w)(ht:w.heap[tb]? =some (.cells #[.pointer (some ⟨p.x,0,none⟩)] 136 (0,0)))(hpb:w.heap[pb]? =some (.cells #[pv] 146 (0,0)))(ho:Row w ob 319 SS)
  (hF:p.F ob) (hne:ob≠tb/\ob≠pb/\p.x≠ob) (hp:nH w S pv path) (hl:kv.length<=4090) (hf:tL kv path ow m) (hi:m.i.size<=4):
  Calls Tryz.prog 416 #[.pointer (some ⟨tb,0,none⟩),.pointer (some ⟨pb,0,none⟩),.pointer (some ⟨ob,0,none⟩)] w fun ex w'=>ex= .returned (.tuple #[])/\Row w' ob 319 (pU kv m)/\Keep (· =ob) w w':=by
 have HFD:=af (h.find _ path S hp m hl hf)
 have c0:w.cell? ⟨tb,0,none⟩=some (.pointer (some ⟨p.x,0,none⟩)):=by simp[World.cell?,ht]
 have c1:w.cell? ⟨pb,0,none⟩=some pv:=by simp[World.cell?,hpb]
 have l0:=(ah.1 ht).1
 have l1:=(ah.1 hpb).1
 have HA:=af (ak h (ak ht (ak hpb (ak ho (ak hF (ak hne (ak hl hi)))))))
 clear h ht hpb ho hF hne hp hl hf hi
 go_enter Tryz.func416,Tryz.ntmps416
 go_wp2_with (first
  |(go_at_call 131;go_must (refine HFD.out.mono ?_;rintro ex w1 ⟨rfl,hb1⟩;refine Stop.of ?_)))
 refine Stop.on ?_
 have hb2:=aC w1 (.cells #[.string m.i,.int .i64 m.k,.int .i64 m.e] 246)
 have hn2:=aF w1 (.cells #[.string m.i,.int .i64 m.k,.int .i64 m.e] 246)
 obtain⟨w2,hw2⟩:∃w2:World,Hid (w1.alloc (.cells #[.string m.i,.int .i64 m.k,.int .i64 m.e] 246)=w2):=⟨_,af rfl⟩
 rw[hw2.out] at hb2 hn2
 obtain⟨nb,hnb⟩:∃nb:Nat,Hid (w1.heap.size=nb):=⟨_,af rfl⟩
 have hb12:=hb1.trans (hb2.mono hb1.size)
 have hno:¬nb=ob:=fun e=>absurd HA.out.2.2.2.1.lt (by have:=hb1.size;have:=hnb.out;omega)
 rw[hnb.out] at hn2
 have ho2:Row w2 ob 319 SS:=HA.out.2.2.2.1.keep (Keep.of_below hb12 (fun _=>False)) id
 have HX2:=af (ak hb12 (ak hn2 hno))
 clear c0 c1 l0 l1 hb1 hb2 hb12
 obtain⟨d0,d1,d2,g0,g1,g2,ln⟩:=jE (n:=m) hn2
 clear hn2 hno
 go_upto_region 1 with (fail)
 rw[hw2.out,hnb.out]
 go_wp2_with (first
  |((refine bU rfl ?_);intro K hK;(refine wp_store_row 319 (.tmp 2) (.tmp 13) rfl ob 0 319 _ [.int .i64 m.k,.int .i64 0,.int .i64 m.e] rfl rfl ho2 wL (aA 3) (by simp[Value.oneCell']) ?_);intro w3 ho3 hk3;refine hK _ _ ?_;refine Stop.of ?_))
 refine Stop.on ?_
 have hn3:Row w3 nb 246 m.row:=Row.keep (cur:=m.row) HX2.out.2.1 hk3 HX2.out.2.2
 have hko:Keep (· =ob) w w3:=(Keep.of_below HX2.out.1 (· =ob)).trans hk3 (fun _ _ e=>e)
 clear d0 d1 d2 g0 g1 g2 ln ho2 hk3
 obtain⟨d0,d1,d2,g0,g1,g2,ln⟩:=jE hn3
 by_cases hk1:m.k=1
 ·have hT3:=HA.out.1.keep hko (fun g e=>by rw[show g=ob from e];exact HA.out.2.2.2.2.1) HA.out.2.2.2.2.2.1.2.2
  have hks:(vR m.i).size=m.i.size+1:=Bw m.i
  have hadd:∀W:World,(Op.stringOp .add (⟨#[98]⟩:ByteArray) m.i).run Tryz.prog W= .ok (.string (vR m.i)) W:=fun W=>gB W _ _ (by show ((1:Nat):Int)<=_;omega) (by have:=HA.out.2.2.2.2.2.2.2;omega)
  have hg:=hT3.get (vR m.i) HA.out.2.2.2.2.2.2.1 (by have:=HA.out.2.2.2.2.2.2.2;omega)
  have ht3:=(hko.block tb (ah.1 HA.out.2.1).1 (fun e=>HA.out.2.2.2.2.2.1.1 e.symm)).trans HA.out.2.1
  have c0:w3.cell? ⟨tb,0,none⟩=some (.pointer (some ⟨p.x,0,none⟩)):=by simp[World.cell?,ht3]
  have l0:=(ah.1 ht3).1
  have HK1:=af hk1
  have HX3:=af (ak ho3 hko)
  have HG:=af hg
  obtain⟨ky,hky⟩:∃ky,Hid (vR m.i=ky):=⟨_,af rfl⟩
  rw[hky.out] at hadd HG
  obtain⟨q,hq⟩:∃q,Hid (cu kv ky=q):=⟨_,af rfl⟩
  rw[hq.out] at HG
  rw[hk1] at d1
  clear ht3 hT3 hks hg ho3 hko hk1 hn3
  go_wp2_with (first
   |(go_at_call 133;go_must (refine HG.out.mono ?_;rintro ex w4 ⟨rfl,hb4⟩;refine Stop.of ?_)))
  refine Stop.on ?_
  have ho4:Row w4 ob 319 [.int .i64 m.k,.int .i64 0,.int .i64 m.e]:=Row.keep (M:=fun _=>False) HX3.out.1 (Keep.of_below hb4 _) id
  obtain⟨e0,e1,e2,k0,k1,k2,lo⟩:=pW ho4
  have hfin:Row (w4.setCell ⟨ob,1,none⟩ (.int .i64 ((q.getD ByteArray.empty).size:Int))) ob 319 [.int .i64 m.k,.int .i64 ((q.getD ByteArray.empty).size:Int),.int .i64 m.e]/\Keep (· =ob) w (w4.setCell ⟨ob,1,none⟩ (.int .i64 ((q.getD ByteArray.empty).size:Int))):=
   ⟨ho4.setCell 1 _,(HX3.out.2.trans (Keep.of_below hb4 (fun _=>False)) (fun _ _ e=>e.elim)).setCell (p:=⟨ob,1,none⟩) (.inr rfl) _⟩
  have HFIN:=af hfin
  clear hfin hb4 ho4
  go_wp2_with fail
  go_end0
  refine⟨rfl,?_,HFIN.out.2⟩
  unfold pU
  rw[if_pos HK1.out,hky.out,hq.out]
  exact HFIN.out.1
 ·have hk2:(m.k==1)=false:=by simpa using hk1
  have HX3:=af (ak ho3 (ak hko hk1))
  clear ho3 hko hn3 hk1
  go_wp2_with fail
  go_end0
  refine⟨rfl,?_,HX3.out.2.1⟩
  unfold pU
  rw[if_neg HX3.out.2.2]
  exact HX3.out.1
end
theorem II (w:World)(o1 o2 o3 o4:Obj):((((w.alloc o1).alloc o2).alloc o3).alloc o4).heap[w.heap.size+1+1]? =some o3/\((((w.alloc o1).alloc o2).alloc o3).alloc o4).heap.size=w.heap.size+4/\Below w.heap.size w ((((w.alloc o1).alloc o2).alloc o3).alloc o4):=by
 have n3:=aF ((w.alloc o1).alloc o2) o3
 have b1:=aC w o1
 have b2:=aC (w.alloc o1) o2
 have b3:=aC ((w.alloc o1).alloc o2) o3
 have b4:=aC (((w.alloc o1).alloc o2).alloc o3) o4
 have s2:((w.alloc o1).alloc o2).heap.size=w.heap.size+1+1:=by simp
 rw[s2] at n3
 exact⟨(b4.block _ (by simp)).trans n3,by simp,((b1.trans (b2.mono (by simp))).trans (b3.mono (by rw[s2];omega))).trans (b4.mono (by simp;omega))⟩
theorem O6 (w:World)(o1 o2 o3 o4 o5:Obj):(((((w.alloc o1).alloc o2).alloc o3).alloc o4).alloc o5).heap[w.heap.size+1+1+1]? =some o4/\(((((w.alloc o1).alloc o2).alloc o3).alloc o4).alloc o5).heap.size=w.heap.size+5/\Below w.heap.size w (((((w.alloc o1).alloc o2).alloc o3).alloc o4).alloc o5):=by
 have n4:=aF (((w.alloc o1).alloc o2).alloc o3) o4
 have s3:(((w.alloc o1).alloc o2).alloc o3).heap.size=w.heap.size+1+1+1:=by simp
 rw[s3] at n4
 have b5:=aC ((((w.alloc o1).alloc o2).alloc o3).alloc o4) o5
 exact⟨(b5.block _ (by simp)).trans n4,by simp,(II w o1 o2 o3 o4).2.2.trans (b5.mono (by simp;omega))⟩
theorem uN {fn:Func}{p q:Tmp}{ty:TypeId}(h:fn.results=#[.cell p ty,.tmp q])(tmps:Array Value)(w:World)(g:Nat)(y x:Value)
  (hp:tmps.getD p undef= .pointer (some ⟨g,0,none⟩)) (hl:(loadVar ty ⟨g,0,none⟩).run Tryz.prog w= .ok y w) (hq:tmps.getD q undef=x):
  (results fn tmps).run Tryz.prog w= .ok (.tuple #[y,x]) w:=by
 have hp':tmps[p]?.getD undef= .pointer (some ⟨g,0,none⟩):=by simpa using hp
 have hq':tmps[q]?.getD undef=x:=by simpa using hq
 simp[results,h,hp',hq',asAddr,hl]
theorem MZ (w:World)(o1 o2 o3:Obj):Below w.heap.size w (((w.alloc o1).alloc o2).alloc o3):=by
 have b1:=aC w o1
 have b2:=aC (w.alloc o1) o2
 have b3:=aC ((w.alloc o1).alloc o2) o3
 exact(b1.trans (b2.mono (by simp))).trans (b3.mono (by simp;omega))
theorem one_cell {w:World}{b:Nat}{v:Value}{t:TypeId}(h:w.heap[b]? =some (.cells #[v] t (0,0))):w.cell? ⟨b,0,none⟩=some v/\w.frozen? ⟨b,0,none⟩=false/\b<w.heap.size:=⟨by simp[World.cell?,h],by simp[World.frozen?,h],(ah.1 h).1⟩
theorem M0 (w:World)(o0 o1 o2 o3 o4:Obj):let v:=(((((w.alloc o0).alloc o1).alloc o2).alloc o3).alloc o4)
  v.heap[w.heap.size]? =some o0/\v.heap[w.heap.size+1]? =some o1/\v.heap[w.heap.size+1+1]? =some o2/\v.heap[w.heap.size+1+1+1]? =some o3/\v.heap[w.heap.size+1+1+1+1]? =some o4/\v.heap.size=w.heap.size+5/\Below w.heap.size w v:=by
 have n0:=aF w o0
 have n1:=aF (w.alloc o0) o1
 have n2:=aF ((w.alloc o0).alloc o1) o2
 have n3:=aF (((w.alloc o0).alloc o1).alloc o2) o3
 have n4:=aF ((((w.alloc o0).alloc o1).alloc o2).alloc o3) o4
 have s1:(w.alloc o0).heap.size=w.heap.size+1:=by simp
 have s2:((w.alloc o0).alloc o1).heap.size=w.heap.size+1+1:=by simp
 have s3:(((w.alloc o0).alloc o1).alloc o2).heap.size=w.heap.size+1+1+1:=by simp
 have s4:((((w.alloc o0).alloc o1).alloc o2).alloc o3).heap.size=w.heap.size+1+1+1+1:=by simp
 rw[s1] at n1;rw[s2] at n2;rw[s3] at n3;rw[s4] at n4
 have b1:=aC (w.alloc o0) o1
 have b2:=aC ((w.alloc o0).alloc o1) o2
 have b3:=aC (((w.alloc o0).alloc o1).alloc o2) o3
 have b4:=aC ((((w.alloc o0).alloc o1).alloc o2).alloc o3) o4
 have c0:=(b4.block w.heap.size (by omega)).trans ((b3.block _ (by omega)).trans ((b2.block _ (by omega)).trans ((b1.block _ (by omega)).trans n0)))
 have c1:=(b4.block (w.heap.size+1) (by omega)).trans ((b3.block _ (by omega)).trans ((b2.block _ (by omega)).trans n1))
 have c2:=(b4.block (w.heap.size+1+1) (by omega)).trans ((b3.block _ (by omega)).trans n2)
 have c3:=(b4.block (w.heap.size+1+1+1) (by omega)).trans n3
 exact⟨c0,c1,c2,c3,n4,by simp,(O6 w o0 o1 o2 o3 o4).2.2⟩
theorem IG (w:World)(o0 o1 o2 o3:Obj):let v:=((((w.alloc o0).alloc o1).alloc o2).alloc o3)
  v.heap[w.heap.size]? =some o0/\v.heap[w.heap.size+1]? =some o1/\v.heap[w.heap.size+1+1]? =some o2/\v.heap[w.heap.size+1+1+1]? =some o3/\v.heap.size=w.heap.size+4/\Below w.heap.size w v:=by
 obtain⟨h0,h1,h2,h3,_,hs,hb⟩:=M0 w o0 o1 o2 o3 o3
 have b4:=aC ((((w.alloc o0).alloc o1).alloc o2).alloc o3) o3
 have s4:((((w.alloc o0).alloc o1).alloc o2).alloc o3).heap.size=w.heap.size+4:=by simp
 exact⟨(b4.block _ (by omega)).symm.trans h0,(b4.block _ (by omega)).symm.trans h1,(b4.block _ (by omega)).symm.trans h2,(b4.block _ (by omega)).symm.trans h3,s4,(II w o0 o1 o2 o3).2.2⟩
theorem IE (w:World)(o0 o1 o2:Obj):let v:=(((w.alloc o0).alloc o1).alloc o2)
  v.heap[w.heap.size]? =some o0/\v.heap[w.heap.size+1]? =some o1/\v.heap[w.heap.size+1+1]? =some o2/\v.heap.size=w.heap.size+3/\Below w.heap.size w v:=by
 obtain⟨h0,h1,h2,_,hs,hb⟩:=IG w o0 o1 o2 o2
 have b3:=aC (((w.alloc o0).alloc o1).alloc o2) o2
 have s3:(((w.alloc o0).alloc o1).alloc o2).heap.size=w.heap.size+3:=by simp
 exact⟨(b3.block _ (by omega)).symm.trans h0,(b3.block _ (by omega)).symm.trans h1,(b3.block _ (by omega)).symm.trans h2,s3,MZ w o0 o1 o2⟩
theorem jf.fresh {w w':World}{S:Nat->Prop}{k n:Nat}{v:Value}{xs:List Value}(h:jf w S k v n xs)(hb:Below w.heap.size w w'):jf w' (fun g=>w.heap.size<=g) k v n xs:=
 jf.keep h fun g _ hl _=>⟨hb.block g hl,fun e=>absurd hl (aV.2 e)⟩
section
variable {p:TP} {kv:List Pr} {w:World}
theorem KZ (body:ByteArray)(pv:Value)(path:List ByteArray)(S:Nat->Prop)(h:RT p kv w)(hp:nH w S pv path)(hs:∀s∈path,s.size<=9223372036854775807)(hT:kQ w)(hg:pX path=true)(mk:Bool)(er:Int)(kv':List Pr)
  (hcl:∀(F':Nat->Prop) (w1:World) (bb tb pb mb:Nat),RT {p with F:=F'} kv w1->qM p.x bb tb pb mb body pv false w1->(F' bb/\F' tb/\F' pb/\F' mb)->((mb≠bb/\mb≠tb/\mb≠pb)/\p.x≠mb)->nH w1 (fun g=>w.heap.size<=g) pv path->w.heap.size<=mb->
   Calls Tryz.prog 364 #[.pointer (some ⟨bb,0,none⟩),.pointer (some ⟨tb,0,none⟩),.pointer (some ⟨pb,0,none⟩),.pointer (some ⟨mb,0,none⟩)] w1 fun ex w'=>((ex= .returned (.tuple #[])/\er=0)\/(ex= .panicked (NJ er)/\er≠0))/\RT {p with F:=F'} kv' w'/\Keep (fun g=>¬F' g\/g=mb) w1 w'/\qM p.x bb tb pb mb body pv mk w'):
  Calls Tryz.prog 258 #[.pointer (some ⟨p.x,0,none⟩),pv,.string body] w fun e w'=>e= .returned (.tuple #[.bool (mk && er==0),.int .i64 er])/\RT p kv' w'/\Keep (fun g=>¬p.F g) w w':=by
 have hmf:∀(fn:Fn) (first cap:Array Value) (w:World),(Instr.makeFunc fn first cap).run Tryz.prog w= .ok (.func fn first cap) w:=fun _ _ _ _=>rfl
 obtain⟨po,pc,hpv,_,_,_,_⟩:=jf.form hp
 subst hpv
 obtain⟨h0,h1,h2,h3,h4,hsz,hb5⟩:=M0 w (.cells #[.pointer (some ⟨p.x,0,none⟩)] 136) (.cells #[.slice po path.length pc] 146) (.cells #[.string body] 9) (.cells #[.bool false] 4) (.cells #[.slice po path.length pc] 146)
 have hr:=Sb p.x 364 #[.pointer (some ⟨w.heap.size+1+1,0,none⟩),.pointer (some ⟨w.heap.size,0,none⟩),.pointer (some ⟨w.heap.size+1,0,none⟩),.pointer (some ⟨w.heap.size+1+1+1,0,none⟩)] (w.heap.size+1+1+1+1) (.slice po path.length pc) path _ _
  (fun w'=>er=0/\(∃F':Nat->Prop,RT {p with F:=F'} kv' w'/\(∀g,p.F g->F' g)/\F' (w.heap.size+5)/\F' (w.heap.size+1+1+1))/\Keep (fun g=>¬p.F g) w w'/\w'.heap[w.heap.size+1+1+1]? =some (.cells #[.bool mk] 4 (0,0)))
  (fun n w'=>n=er/\er≠0/\(∃F':Nat->Prop,RT {p with F:=F'} kv' w'/\(∀g,p.F g->F' g)/\F' (w.heap.size+5)/\F' (w.heap.size+1+1+1))/\Keep (fun g=>¬p.F g) w w'/\w'.heap[w.heap.size+1+1+1]? =some (.cells #[.bool mk] 4 (0,0)))
  (fun _ _=>rfl) h4 (jf.below hp hb5) hs (hT.below hb5) hg ?_
 ·rw[hsz] at hr
  have HR:=af hr
  have HA:=af h
  clear h0 h1 h2 h3 h4 hsz hb5 hr h hp hs hT hcl hg
  go_enter Tryz.func258,Tryz.ntmps258
  go_wp2_with (first
   |(go_at_call 128;go_must (refine HR.out.mono ?_;rintro e w2 (⟨rfl,w1,⟨he,⟨F',hT1,hF,hF5,hF3⟩,hk1,hm1⟩,hk2⟩|⟨n,rfl,w1,⟨rfl,he,⟨F',hT1,hF,hF5,hF3⟩,hk1,hm1⟩,hk2⟩)<;>refine Stop.of ?_)))
  all_goals
   refine Stop.on ?_
   have hm2:=(hk2.block _ (ah.1 hm1).1 (by omega)).trans hm1
   have hx:=HA.out.lt
   have hk12:Keep (fun g=>¬p.F g) w w2:=hk1.trans hk2 (fun g hg e=>by have e:g=w.heap.size+5:=e;omega)
   have hT2:=hT1.keep hk2 (fun g e=>by rw[show g=w.heap.size+5 from e];exact hF5) (by show ¬p.x=_;omega)
   obtain⟨mb,hmb⟩:∃mb:Nat,Hid (w.heap.size+1+1+1=mb):=⟨_,af rfl⟩
   rw[hmb.out] at hm2 hF3
   obtain⟨c0,f0,l0⟩:=one_cell hm2
   have hfin:∀b:Bool,RT p kv' (w2.setCell ⟨mb,0,none⟩ (.bool b))/\Keep (fun g=>¬p.F g) w (w2.setCell ⟨mb,0,none⟩ (.bool b))/\(w2.setCell ⟨mb,0,none⟩ (.bool b)).cell? ⟨mb,0,none⟩=some (.bool b):=fun b=>by
    have hk3:Keep (· =mb) w2 (w2.setCell ⟨mb,0,none⟩ (.bool b)):=(Keep.refl (· =mb) _).setCell (p:=⟨mb,0,none⟩) (.inr rfl) _
    exact⟨RT.sub (hT2.keep hk3 (fun g e=>by rw[show g=mb from e];exact hF3) (by show ¬p.x=_;have:=hmb.out;omega)) hF HA.out.fb,hk12.trans hk3 (fun g hg e=>by have e:g=mb:=e;have:=hmb.out;omega),by simp[World.setCell,World.cell?,aJ,hm2]⟩
   have HFIN:=af hfin
   clear hfin hm2 hk12 hT2 hm1 hk1 hk2 hT1 hF hF5 hF3
   rw[hmb.out]
  ·subst he
   cases mk
   ·have r:=HFIN.out false
    go_wp2_with fail
    have r3:=r.2.2
    refine eX (by simp[results,Tryz.results258,go_sem,r3];rfl) rfl ?_
    exact⟨rfl,r.1,r.2.1⟩
   ·have r:=HFIN.out true
    go_wp2_with fail
    have r3:=r.2.2
    refine eX (by simp[results,Tryz.results258,go_sem,r3];rfl) rfl ?_
    exact⟨rfl,r.1,r.2.1⟩
  ·have he2:(n==0)=false:=by simpa using he
   have r:=HFIN.out false
   clear he
   cases mk
   all_goals
    go_wp2_with fail
    have r3:=r.2.2
    refine eX (by simp[results,Tryz.results258,go_sem,r3];rfl) rfl ?_
    exact⟨by rw[he2];rfl,r.1,r.2.1⟩
 ·intro w1 hb1 he1
  rw[hsz] at he1 ⊢
  have hb:=hb5.trans (hb1.mono hb5.size)
  have k0:=(hb1.block _ (by rw[hsz];omega)).trans h0
  have k1:=(hb1.block _ (by rw[hsz];omega)).trans h1
  have k2:=(hb1.block _ (by rw[hsz];omega)).trans h2
  have k3:=(hb1.block _ (by rw[hsz];omega)).trans h3
  have hsz1:=(ah.1 he1).1
  have hx:=h.lt
  refine(hcl (p.add w w1).F w1 (w.heap.size+1+1) w.heap.size (w.heap.size+1) (w.heap.size+1+1+1) (h.next hb) ⟨k2,k0,k1,k3⟩ ⟨.inr ⟨by omega,by omega⟩,.inr ⟨by omega,by omega⟩,.inr ⟨by omega,by omega⟩,.inr ⟨by omega,by omega⟩⟩ ⟨⟨by omega,by omega,by omega⟩,by omega⟩ (jf.fresh hp hb) (by omega)).mono ?_
  rintro ex w' ⟨hex,hT',hk,hc⟩
  have hek:=(hk.block (w.heap.size+5) hsz1 (fun e=>e.elim (fun e=>e (.inr ⟨by omega,hsz1⟩)) (fun e=>by omega))).trans he1
  have hfin:(∃F':Nat->Prop,RT {p with F:=F'} kv' w'/\(∀g,p.F g->F' g)/\F' (w.heap.size+5)/\F' (w.heap.size+1+1+1))/\Keep (fun g=>¬p.F g) w w'/\w'.heap[w.heap.size+1+1+1]? =some (.cells #[.bool mk] 4 (0,0)):=
   ⟨⟨(p.add w w1).F,hT',fun _ e=> .inl e,.inr ⟨by omega,hsz1⟩,.inr ⟨by omega,by omega⟩⟩,(Keep.of_below hb (fun g=>¬p.F g)).trans hk (fun g hg e=>e.elim (fun e x=>e (.inl x)) (fun e=>by omega)),hc.made⟩
  exact⟨hek,hex.elim (fun e=> .inl ⟨e.1,e.2,hfin⟩) (fun e=> .inr ⟨er,e.1,rfl,e.2,hfin⟩)⟩
theorem KY (body:ByteArray)(pv:Value)(s:ByteArray)(S:Nat->Prop)(h:RT p [] w)(hp:nH w S pv [s])(hT:kQ w)(hg:pX [s]=true)(hs:s.size<=20)(hlk:cu (tH [] s) ⟨#[101]⟩=none)(hr:p.rm [] 5)(hb:body.size<=63):
  Calls Tryz.prog 258 #[.pointer (some ⟨p.x,0,none⟩),pv,.string body] w fun e w'=>e= .returned (.tuple #[.bool true,.int .i64 0])/\RT p (Ej (tH [] s) id1 1 body) w'/\Keep (fun g=>¬p.F g) w w':=by
 refine KZ body pv [s] S h hp (fun x hx=>by rw[bO.1 hx];omega) hT hg true 0 _ fun F' w1 bb tb pb mb h1 h2 h3 h4 h5 h6=> ?_
 refine(Lx bb tb pb mb body pv s _ h1 h2 h3 h4 h5 h6 hs hlk hr hb).mono ?_
 rintro ex w' ⟨rfl,q1,q2,q3⟩
 exact⟨.inl ⟨rfl,rfl⟩,q1,q2,q3⟩
theorem R9 (pv:Value)(path:List ByteArray)(S:Nat->Prop)(m:ND)(h:RT p kv w)(hp:nH w S pv path)(hs:∀s∈path,s.size<=9223372036854775807)(hT:kQ w)(hg:pX path=true)(hl:kv.length<=4090)(hf:tL kv path ow m)(hi:m.i.size<=4):
  Calls Tryz.prog 287 #[.pointer (some ⟨p.x,0,none⟩),pv] w fun e w'=>e= .returned (.tuple #[.agg (pU kv m).toArray,.int .i64 0])/\Below w.heap.size w w':=by
 have hmf:∀(fn:Fn) (first cap:Array Value) (w:World),(Instr.makeFunc fn first cap).run Tryz.prog w= .ok (.func fn first cap) w:=fun _ _ _ _=>rfl
 obtain⟨po,pc,hpv,_,_,_,_⟩:=jf.form hp
 subst hpv
 obtain⟨h0,h1,h2,h3,hsz,hb4⟩:=IG w (.cells #[.pointer (some ⟨p.x,0,none⟩)] 136) (.cells #[.slice po path.length pc] 146) (.cells #[.int .i64 0,.int .i64 0,.int .i64 0] 319) (.cells #[.slice po path.length pc] 146)
 have hr:=Sb p.x 416 #[.pointer (some ⟨w.heap.size,0,none⟩),.pointer (some ⟨w.heap.size+1,0,none⟩),.pointer (some ⟨w.heap.size+1+1,0,none⟩)] (w.heap.size+1+1+1) (.slice po path.length pc) path _ _
  (fun w'=>Below w.heap.size w w'/\Row w' (w.heap.size+1+1) 319 (pU kv m)) (fun _ _=>False)
  (fun _ _=>rfl) h3 (jf.below hp hb4) hs (hT.below hb4) hg ?_
 ·rw[hsz] at hr
  have HR:=af hr
  clear h0 h1 h2 h3 hsz hb4 hr hp hs hT hg h hf hi
  go_enter Tryz.func287,Tryz.ntmps287
  go_wp2_with (first
   |(go_at_call 128;go_must (refine HR.out.mono ?_;rintro e w2 (⟨rfl,w1,⟨hb1,hq1⟩,hk2⟩|⟨n,rfl,w1,hx,hk2⟩)<;>refine Stop.of ?_)))
  refine Stop.on ?_
  have hq2:Row w2 (w.heap.size+1+1) 319 (pU kv m):=hq1.keep hk2 (fun e=>by omega)
  have hb2:Below w.heap.size w w2:=hb1.trans (hk2.dY hb1.size fun g hg e=>by omega)
  obtain⟨rb,hrb⟩:∃rb:Nat,Hid (w.heap.size+1+1=rb):=⟨_,af rfl⟩
  rw[hrb.out] at hq2 ⊢
  obtain⟨c0,c1,c2,f0,f1,f2,lr⟩:=pW (show Row w2 rb 319 [.int .i64 m.k,.int .i64 (if m.k=1 then(((cu kv (vR m.i)).getD ByteArray.empty).size:Int) else 0),.int .i64 m.e] from hq2)
  have HB:=af hb2
  clear hb1 hq1 hk2 hb2
  obtain⟨z,hz⟩:∃z,Hid ((if m.k=1 then(((cu kv (vR m.i)).getD ByteArray.empty).size:Int) else 0)=z):=⟨_,af rfl⟩
  unfold pU at hq2
  rw[hz.out] at c1 hq2
  go_wp2_with (first
   |((refine bU rfl ?_);intro K hK;(refine wp_store_row 319 (.tmp 4) (.tmp 11) rfl rb 0 319 _ [.int .i64 m.k,.int .i64 z,.int .i64 m.e] rfl rfl hq2 wL (aA 3) (by simp[Value.oneCell']) ?_);intro w4 hr5 hk5;refine hK _ _ ?_))
  refine eX (uN rfl _ w4 rb _ (.int .i64 0) rfl (run_loadVar_row w4 rb 319 319 _ (0,0) _ hr5 Tryz.underlying319 rfl (by kernel_rfl)) rfl) rfl ?_
  unfold pU
  rw[hz.out]
  exact⟨rfl,HB.out.trans (hk5.dY HB.out.size fun g hg e=>by have:=hrb.out;omega)⟩
 ·intro w1 hb1 he1
  rw[hsz] at he1 ⊢
  have hb:=hb4.trans (hb1.mono hb4.size)
  have k0:=(hb1.block _ (by rw[hsz];omega)).trans h0
  have k1:=(hb1.block _ (by rw[hsz];omega)).trans h1
  have k2:=(hb1.block _ (by rw[hsz];omega)).trans h2
  have hsz1:=(ah.1 he1).1
  have hx:=h.lt
  refine(Jl w.heap.size (w.heap.size+1) (w.heap.size+1+1) (.slice po path.length pc) path _ m (h.next hb) k0 k1 k2 (.inr ⟨by omega,by omega⟩) ⟨by omega,by omega,by show p.x≠_;omega⟩ (jf.fresh hp hb) hl hf hi).mono ?_
  rintro ex w' ⟨rfl,hq,hk⟩
  have hek:=(hk.block (w.heap.size+4) hsz1 (fun e=>by omega)).trans he1
  exact⟨hek,.inl ⟨rfl,hb.trans (hk.dY hb.size fun g hg e=>by omega),hq⟩⟩
end
end Go.Proofs.YtpmbddooibgnaaaGreatDoor
namespace Go.Proofs.YtpmbddooibgnaaaGreatDoor
open Go.RowKit Go.Shelf
theorem L8 {b:gJ}{w:World}{v t N R dn u P:Nat}{kv0:List Pr}{ch:Bool}(h:qa b v t N R dn u kv0 [] ch P w)(lb:Nat)(hl:w.heap[lb]? =some (.cells #[.pointer (some ⟨t,0,none⟩)] 298 (0,0))):
  Calls Tryz.prog 161 #[.pointer (some ⟨lb,0,none⟩)] w fun e w'=>e= .returned (.tuple #[.slice none 0 0,.int .i64 0])/\Below w.heap.size w w':=by
 have HS:=af (h.scan ⟨#[108]⟩ 64 (by simp))
 have c0:w.cell? ⟨lb,0,none⟩=some (.pointer (some ⟨t,0,none⟩)):=by simp[World.cell?,hl]
 have hlt:=(ah.1 hl).1
 clear h hl
 go_enter Tryz.func161,Tryz.ntmps161
 go_wp2
 go_loopw [4,5,6,7,9,10,11,28] (fun o k _ _ _ _ _ _ wr=>o= .slice none 0 0/\k= .string ⟨#[108]⟩/\wr=w) (fun _ _ _ _ _ _ _ _ _=>0)
 case atStart=>exact⟨rfl,rfl,rfl⟩
 case round=>
  obtain⟨rfl,rfl,hw⟩:=hrel
  subst hw
  go_wp2_with (first
   |(go_at_call 238;go_must (refine HS.out.mono ?_;rintro e w1 ⟨x,rfl,hx,_,hb1⟩;refine Stop.of ?_)))
  refine Stop.on ?_
  have hz:(qF ([]:List Pr) ⟨#[108]⟩ 64).length=0:=by unfold qF;simp
  rw[hz] at hx
  obtain⟨xo,xc,rfl,_,_,_,_⟩:=jf.form hx.JU
  have HB:=af hb1
  clear hx hb1 hz
  go_wp2_with fail
  go_loopw [4,5,9,10,11,28] (fun o _ _ _ _ i wr=>o= .slice none 0 0/\i= .int .i64 0/\wr=w1) (fun _ _ _ _ _ _ _=>0)
  case atStart=>exact⟨rfl,rfl,rfl⟩
  case round=>
   obtain⟨rfl,rfl,hw⟩:=hrel
   subst hw
   go_wp2_with fail
   go_ret2
   exact⟨rfl,HB.out⟩
theorem Oo {b:gJ}{w:World}{v t N R dn u P:Nat}{kv0:List Pr}{ch:Bool}(h:qa b v t N R dn u kv0 [] ch P w)(lb:Nat)(now:Int)(hl:w.heap[lb]? =some (.cells #[.pointer (some ⟨t,0,none⟩)] 298 (0,0))):
  Calls Tryz.prog 106 #[.pointer (some ⟨lb,0,none⟩),.int .i64 now] w fun e w'=>e= .returned (.tuple #[.slice none 0 0,.int .i64 0])/\Below w.heap.size w w':=by
 have h1:=aC w (.cells #[.int .i64 now] 2)
 have HL:=af (L8 (h.below h1) lb ((h1.block lb (ah.1 hl).1).trans hl))
 clear h hl
 go_enter Tryz.func106,Tryz.ntmps106
 go_wp2_with (first
  |(go_at_call 161;go_must (refine HL.out.mono ?_;rintro e w1 ⟨rfl,hb1⟩))
  |(go_at_call 162;go_must (refine(OM _ _).mono ?_;rintro e w2 ⟨rfl,rfl⟩)))
 go_ret2
 exact⟨rfl,h1.trans (hb1.mono h1.size)⟩
theorem Ma (p t:Value)(w:World):Calls Tryz.prog 363 #[.slice none 0 0,p,t] w fun e w'=>e= .returned (.bool true)/\w'=w:=by
 go_enter Tryz.func363,Tryz.ntmps363
 go_wp2
 go_loopw [6,7,9,12] (fun _ c _ i wr=>c= .bool false/\i= .int .i64 0/\wr=w) (fun _ _ _ _ _=>0)
 case atStart=>exact⟨rfl,rfl,rfl⟩
 case round=>
  obtain⟨rfl,rfl,hw⟩:=hrel
  subst hw
  go_wp2_with fail
  go_ret
  exact⟨rfl,rfl⟩
theorem uW (n:Int)(w:World):Calls Tryz.prog 58 #[.bool false,.int .i64 n] w fun e w'=>e= .returned (.tuple #[])/\w'=w:=by
 go_enter Tryz.func58,Tryz.ntmps58
 go_wp2
 go_end0
 exact⟨rfl,rfl⟩
theorem LK (w:World):Calls Tryz.prog 63 #[.int .i64 0] w fun e w'=>e= .returned (.tuple #[])/\w'=w:=by
 go_enter Tryz.func63,Tryz.ntmps63
 go_wp2
 go_end0
 exact⟨rfl,rfl⟩
def QG:ByteArray:=⟨([79,80,84,73,79,78,83,44,32,71,69,84,44,32,72,69,65,68,44,32,80,85,84,44,32,68,69,76,69,84,69,44,32,77,75,67,79,76,44,32,67,79].append [80,89,44,32,77,79,86,69,44,32,80,82,79,80,70,73,78,68,44,32,80,82,79,80,80,65,84,67,72,44,32,76,79,67,75,44,32,85,78,76,79,67,75]).toArray⟩
def Ck:List ByteArray:=[⟨#[79,80,84,73,79,78,83]⟩,⟨#[71,69,84]⟩,⟨#[72,69,65,68]⟩,fH,⟨#[68,69,76,69,84,69]⟩,⟨#[77,75,67,79,76]⟩,⟨#[67,79,80,89]⟩,⟨#[77,79,86,69]⟩,⟨#[80,82,79,80,70,73,78,68]⟩,⟨#[80,82,79,80,80,65,84,67,72]⟩,⟨#[76,79,67,75]⟩,⟨#[85,78,76,79,67,75]⟩]
theorem QZ (w:World)(hm:jZ w):Calls Tryz.prog 59 #[.string fH] w fun e w'=>e= .returned (.bool true)/\Below w.heap.size w w':=by
 have HSp:=af (wS QG ⟨#[44,32]⟩ w Ck hm ⟨by decide,by decide⟩ (by kernel_rfl) (by kernel_rfl))
 have hb1:=aC w (.cells (Ck.map Value.string).toArray 9)
 have hn1:=aF w (.cells (Ck.map Value.string).toArray 9)
 obtain⟨w1,hw1⟩:∃x:World,Hid (w.alloc (.cells (Ck.map Value.string).toArray 9)=x):=⟨_,af rfl⟩
 rw[hw1.out] at hb1 hn1
 obtain⟨pb,hpb⟩:∃x:Nat,Hid (w.heap.size=x):=⟨_,af rfl⟩
 rw[hpb.out] at hn1
 rw[hw1.out,hpb.out] at HSp
 have HB:=af hb1
 have c0:w1.cell? ⟨pb,0,none⟩=some (.string ⟨#[79,80,84,73,79,78,83]⟩):=by simp[World.cell?,hn1,Ck]
 have c1:w1.cell? ⟨pb,1,none⟩=some (.string ⟨#[71,69,84]⟩):=by simp[World.cell?,hn1,Ck]
 have c2:w1.cell? ⟨pb,2,none⟩=some (.string ⟨#[72,69,65,68]⟩):=by simp[World.cell?,hn1,Ck]
 have c3:w1.cell? ⟨pb,3,none⟩=some (.string fH):=by simp[World.cell?,hn1,Ck]
 have lp:=(ah.1 hn1).1
 have hlen:Ck.length=12:=rfl
 rw[hlen] at HSp
 clear hb1 hn1 hm hlen
 go_enter Tryz.func59,Tryz.ntmps59
 go_wp2_with (first
  |(go_at_call 108;go_must (refine HSp.out.mono ?_;rintro e w2 ⟨rfl,hw⟩;subst w2)))
 go_loopw [4,7] (fun _ i wr=>(i= .int .i64 0\/i= .int .i64 1\/i= .int .i64 2\/i= .int .i64 3)/\wr=w1) (fun _ i _=>4 - (intOf i).toNat)
 case atStart=>exact⟨.inl rfl,rfl⟩
 case round=>
  obtain⟨hi,hw⟩:=hrel
  subst hw
  rcases hi with rfl|rfl|rfl|rfl
  ·have e0:([79,80,84,73,79,78,83]==fH.toList)=false:=by kernel_rfl
   go_wp2_with fail
   go_roundw
   case rel=>exact⟨.inr (.inl (by go_num)),by trivial⟩
   case measure=>simp[intOf]
  ·have e0:([71,69,84]==fH.toList)=false:=by kernel_rfl
   go_wp2_with fail
   go_roundw
   case rel=>exact⟨.inr (.inr (.inl (by go_num))),by trivial⟩
   case measure=>simp[intOf]
  ·have e0:([72,69,65,68]==fH.toList)=false:=by kernel_rfl
   go_wp2_with fail
   go_roundw
   case rel=>exact⟨.inr (.inr (.inr (by go_num))),by trivial⟩
   case measure=>simp[intOf]
  ·have e0:(fH.toList==fH.toList)=true:=by kernel_rfl
   go_wp2_with fail
   go_ret
   exact⟨rfl,HB.out⟩
def ru (hv:Value)(now:Int)(draw:ByteArray)(pv:Value)(x lb:Nat):List Value:=[.string fH,.string mq,hv,.string sX,.bool false,.int .i64 now,.string draw,pv,.bool false,.pointer (some ⟨x,0,none⟩),.pointer (some ⟨lb,0,none⟩),.slice none 0 0,.slice none 0 0,.bool false]
def gI (w:World)(jb:Nat)(hv:Value)(now:Int)(draw:ByteArray)(pv:Value)(x lb:Nat):Prop:=w.heap[jb]? =some (.cells (ru hv now draw pv x lb).toArray 148 (0,0))
section
variable {w w':World} {jb:Nat} {hv:Value} {now:Int} {draw:ByteArray} {pv:Value} {x lb:Nat} {M:Nat->Prop}
theorem gI.lt (h:gI w jb hv now draw pv x lb):jb<w.heap.size:=(ah.1 h).1
theorem gI.keep (h:gI w jb hv now draw pv x lb)(hk:Keep M w w')(hM:¬M jb):gI w' jb hv now draw pv x lb:=(hk.block jb h.lt hM).trans h
theorem gI.below (h:gI w jb hv now draw pv x lb)(hb:Below w.heap.size w w'):gI w' jb hv now draw pv x lb:=(hb.block jb h.lt).trans h
theorem gI.q (h:gI w jb hv now draw pv x lb):w.cell? ⟨jb,0,none⟩=some (.string fH)/\w.cell? ⟨jb,1,none⟩=some (.string mq)/\w.cell? ⟨jb,2,none⟩=some hv/\w.cell? ⟨jb,3,none⟩=some (.string sX)/\w.cell? ⟨jb,4,none⟩=some (.bool false):=by
 unfold gI at h
 exact⟨by simp[World.cell?,h,ru],by simp[World.cell?,h,ru],by simp[World.cell?,h,ru],by simp[World.cell?,h,ru],by simp[World.cell?,h,ru]⟩
theorem gI.p (h:gI w jb hv now draw pv x lb):w.cell? ⟨jb,7,none⟩=some pv/\w.cell? ⟨jb,8,none⟩=some (.bool false)/\w.cell? ⟨jb,9,none⟩=some (.pointer (some ⟨x,0,none⟩))/\w.cell? ⟨jb,10,none⟩=some (.pointer (some ⟨lb,0,none⟩))/\w.cell? ⟨jb,11,none⟩=some (.slice none 0 0)/\w.cell? ⟨jb,12,none⟩=some (.slice none 0 0)/\w.cell? ⟨jb,13,none⟩=some (.bool false):=by
 unfold gI at h
 exact⟨by simp[World.cell?,h,ru],by simp[World.cell?,h,ru],by simp[World.cell?,h,ru],by simp[World.cell?,h,ru],by simp[World.cell?,h,ru],by simp[World.cell?,h,ru],by simp[World.cell?,h,ru]⟩
theorem gI.fr (h:gI w jb hv now draw pv x lb)(i:Nat):w.frozen? ⟨jb,i,none⟩=false:=by unfold gI at h;simp[World.frozen?,h]
theorem gI.set (h:gI w jb hv now draw pv x lb)(pv':Value):gI ((w.setCell ⟨jb,7,none⟩ pv').setCell ⟨jb,8,none⟩ (.bool false)) jb hv now draw pv' x lb/\Keep (· =jb) w ((w.setCell ⟨jb,7,none⟩ pv').setCell ⟨jb,8,none⟩ (.bool false)):=by
 refine⟨?_,((Keep.refl (· =jb) w).setCell (p:=⟨jb,7,none⟩) (.inr rfl) _).setCell (p:=⟨jb,8,none⟩) (.inr rfl) _⟩
 unfold gI at h ⊢
 simp[World.setCell,aJ,h,ru]
end
def TB (hs:List Pr)(name:ByteArray):Prop:=hs.length<=32/\∀p∈hs,(p.1.toList==name.toList)=false
theorem Ij (jb:Nat)(hv:Value)(now:Int)(draw:ByteArray)(pv:Value)(x lb:Nat)(hs:List Pr)(name:ByteArray)(w:World)(h:gI w jb hv now draw pv x lb)(hh:jP w hv hs)(hn:TB hs name):
  Calls Tryz.prog 110 #[.pointer (some ⟨jb,0,none⟩),.string name] w fun e w'=>e= .returned (.tuple #[.string ⟨#[]⟩,.bool false])/\Below w.heap.size w w':=by
 obtain⟨_,_,c2,_,_⟩:=h.q
 have lj:=h.lt
 obtain⟨ho,hc,rfl,h1,h2,_,_⟩:=aW.form hh
 have HH:=af (ak hh hn)
 clear h hh hn
 go_enter Tryz.func110,Tryz.ntmps110
 go_wp2
 go_loopw [6,7,9,16] (fun s n _ i wr=>∃(k:Nat),k<=hs.length/\i= .int .i64 k/\s= .string ⟨#[]⟩/\n= .int .i64 0/\Below w.heap.size w wr) (fun _ _ _ i _=>hs.length - (intOf i).toNat)
 case atStart=>exact⟨0,aN _,rfl,rfl,rfl,aH _ _⟩
 case round=>
  obtain⟨k,hk,rfl,rfl,rfl,hbel⟩:=hrel
  have hl32:=HH.out.2.1
  by_cases hlt:k<hs.length
  ·obtain⟨g,o,rfl,d1,d2⟩:=HH.out.1.at rfl k hlt
   have d1':=(hbel.cell (p:=⟨g,o+k*2,none⟩) (aD w _ d1)).trans d1
   have d2':=(hbel.cell (p:=⟨g,o+k*2+1,none⟩) (aD w _ d2)).trans d2
   have hbl:=aD wr _ d1'
   have hlt':(k:Int)<(hs.length:Int):=by omega
   have hba:=aC wr (.cells #[.string hs[k].1,.string hs[k].2] 162)
   have he:=HH.out.2.2 hs[k] (bI hlt)
   clear d1 d2
   go_wp2_with fail
   go_roundw
   case rel=>exact⟨k+1,by omega,by go_num,rfl,rfl,hbel.trans (hba.mono hbel.size)⟩
   case measure=>simp[intOf];omega
  ·obtain rfl:k=hs.length:=by omega
   have x1:¬(hs.length:Int)<(hs.length:Int):=by omega
   go_wp2_with (first
    |(go_at_call 58;go_must (refine(uW _ _).mono ?_;rintro e w3 ⟨rfl,hw⟩;subst w3)))
   go_ret2
   exact⟨rfl,hbel⟩
theorem Oh (jb:Nat)(hv:Value)(now:Int)(draw:ByteArray)(pv:Value)(x lb:Nat)(w:World)(h:gI w jb hv now draw pv x lb)(hT:kQ w)(hm:jZ w):
  Calls Tryz.prog 60 #[.pointer (some ⟨jb,0,none⟩)] w fun e w'=>∃v,e= .returned (.tuple #[])/\gI w' jb hv now draw v x lb/\aQ w' d9 w.heap.size 9 1 v 1 [.string ji]/\Keep (· =jb) w w':=by
 obtain⟨c0,c1,_,_,_⟩:=h.q
 have lj:=h.lt
 have e0:(fH.toList==[79,80,84,73,79,78,83])=false:=by kernel_rfl
 have HU:=af (Qo w hT hm)
 have HA:=af h
 clear h hT hm
 go_enter Tryz.func60,Tryz.ntmps60
 go_wp2_with (first
  |(go_at_call 109;go_must (refine HU.out.mono ?_;rintro e w1 ⟨v,rfl,ho,hb1⟩;refine Stop.of ?_)))
 refine Stop.on ?_
 obtain⟨g0,gc,rfl,_,_,_⟩:=ho.ED (by decide)
 have hJ1:=HA.out.below hb1
 have lj1:=hJ1.lt
 have f0:=hJ1.fr 7
 have f1:=hJ1.fr 8
 obtain⟨d0,d1,_⟩:=hJ1.p
 have hS:=hJ1.set (.slice (some ⟨g0,0,none⟩) 1 gc)
 have HX:=af (ak hS (ak ho hb1))
 clear hJ1 hS ho hb1
 go_wp2_with (first
  |(go_at_call 58;go_must (refine(uW _ _).mono ?_;rintro e w3 ⟨rfl,hw⟩;subst w3)))
 go_end0
 exact⟨_,rfl,HX.out.1.1,HX.out.2.1.keep (fun g hg hl hs=>⟨HX.out.1.2.block g hl (fun e=>by have:=HX.out.2.1.lo g hg;have:=HA.out.lt;omega),hs⟩),(Keep.of_below HX.out.2.2 (· =jb)).trans HX.out.1.2 (fun _ _ e=>e)⟩
def kL (w:World)(xb:Nat)(hv:Value)(b:ByteArray)(hd cl:Bool):Prop:=w.heap[xb]? =some (.cells #[.int .i64 201,hv,.string b,.bool hd,.bool cl] 81 (0,0))
theorem kL.cells {w:World}{xb:Nat}{hv:Value}{b:ByteArray}{hd cl:Bool}(h:kL w xb hv b hd cl):w.cell? ⟨xb,0,none⟩=some (.int .i64 201)/\w.cell? ⟨xb,1,none⟩=some hv/\w.cell? ⟨xb,2,none⟩=some (.string b)/\w.cell? ⟨xb,3,none⟩=some (.bool hd)/\w.cell? ⟨xb,4,none⟩=some (.bool cl)/\xb<w.heap.size:=by
 unfold kL at h
 exact⟨by simp[World.cell?,h],by simp[World.cell?,h],by simp[World.cell?,h],by simp[World.cell?,h],by simp[World.cell?,h],(ah.1 h).1⟩
theorem kL.below {w w':World}{xb:Nat}{hv:Value}{b:ByteArray}{hd cl:Bool}(h:kL w xb hv b hd cl)(hb:Below w.heap.size w w'):kL w' xb hv b hd cl:=(hb.block xb (ah.1 h).1).trans h
def Nj (hs:List Pr):Prop:=hs.length<=32/\∀p∈hs,∃n',Ni p.1 n' p.2
theorem Sk (hv:Value)(b:ByteArray)(hd cl:Bool)(hs:List Pr)(w:World)(hh:jP w hv hs)(hg:Nj hs)(hb:b.size<=60000):
  Calls Tryz.prog 64 #[.agg #[.int .i64 201,hv,.string b,.bool hd,.bool cl]] w fun e w'=>e= .returned (.bool true)/\Below w.heap.size w w':=by
 obtain⟨ho,hc,rfl,_,_,_,_⟩:=aW.form hh
 have hb1:=aC w (.cells #[.int .i64 201,.slice ho hs.length hc,.string b,.bool hd,.bool cl] 81)
 have hn1:kL (w.alloc (.cells #[.int .i64 201,.slice ho hs.length hc,.string b,.bool hd,.bool cl] 81)) w.heap.size (.slice ho hs.length hc) b hd cl:=aF w _
 obtain⟨w1,hw1⟩:∃x:World,Hid (w.alloc (.cells #[.int .i64 201,.slice ho hs.length hc,.string b,.bool hd,.bool cl] 81)=x):=⟨_,af rfl⟩
 rw[hw1.out] at hb1 hn1
 obtain⟨xb,hxb⟩:∃x:Nat,Hid (w.heap.size=x):=⟨_,af rfl⟩
 rw[hxb.out] at hn1
 obtain⟨c0,c1,c2,c3,c4,lx⟩:=hn1.cells
 have HA:=af (ak hn1 (ak hb1 (ak (aW.below hh hb1:jP w1 _ hs) hg)))
 have x1:(b.size:Int)<=65536:=by omega
 have x2:(hs.length:Int)<=32:=by have:=hg.1;omega
 clear hn1 hb1 hh hg
 go_enter Tryz.func64,Tryz.ntmps64
 go_upto_region 1 with (fail)
 rw[hw1.out,hxb.out]
 go_wp2
 go_loopw [4,8] (fun _ i wr=>∃k:Nat,k<=hs.length/\i= .int .i64 k/\Below w1.heap.size w1 wr) (fun _ i _=>hs.length - (intOf i).toNat)
 case atStart=>exact⟨0,aN _,rfl,aH _ _⟩
 case round=>
  obtain⟨k,hk,rfl,hbw⟩:=hrel
  by_cases hlt:k<hs.length
  ·obtain⟨g,o,rfl,d1,d2⟩:=rZ.at HA.out.2.2.1 rfl k hlt
   have d1':=(hbw.cell (p:=⟨g,o+k*2,none⟩) (aD w1 _ d1)).trans d1
   have d2':=(hbw.cell (p:=⟨g,o+k*2+1,none⟩) (aD w1 _ d2)).trans d2
   have hbl:=aD wr _ d1'
   have hlt':(k:Int)<(hs.length:Int):=by omega
   obtain⟨n',hG⟩:=HA.out.2.2.2.2 hs[k] (bI hlt)
   obtain⟨n,hn⟩:∃x,Hid (hs[k].1=x):=⟨_,af rfl⟩
   obtain⟨v,hv⟩:∃x,Hid (hs[k].2=x):=⟨_,af rfl⟩
   rw[hn.out] at d1 d1' hG;rw[hv.out] at d2 d2' hG
   have hba:=aC wr (.cells #[.string n,.string v] 162)
   have HH:=af (NW n n' v (wr.alloc (.cells #[.string n,.string v] 162)) hG)
   have HB:=af (hbw.trans (hba.mono hbw.size))
   clear d1 d2 hG hba hbw c0 c1 c2 c3 c4
   go_wp2_with (first
    |(go_at_call 120;go_must (refine HH.out.mono ?_;rintro e w2 ⟨rfl,hb2⟩;refine Stop.of ?_)))
   refine Stop.on ?_
   have HF:=af (HB.out.trans (hb2.mono HB.out.size))
   clear hb2
   go_wp2_with fail
   go_roundw
   case rel=>exact⟨k+1,by omega,by go_num,HF.out⟩
   case measure=>simp[intOf];omega
  ·obtain rfl:k=hs.length:=by omega
   have x3:¬(hs.length:Int)<(hs.length:Int):=by omega
   obtain⟨e0,e1,e2,e3,e4,lx'⟩:=(HA.out.1.below hbw).cells
   have HB:=af hbw
   clear hbw c0 c1 c2 c3 c4 lx
   go_wp2_with (first
    |(go_at_call 35;go_must (refine(BZ _).mono ?_;rintro e w2 ⟨rfl,hw⟩;subst w2)))
   go_ret
   exact⟨rfl,HA.out.2.1.trans (HB.out.mono HA.out.2.1.size)⟩
def qB (w:World):Prop:=Lib.TabIs Tryz.prog w "internal/strconv.uint64pow10" .u64 Lib.pow10Tab
theorem za:Tryz.prog.globalNamed "internal/strconv.uint64pow10"=some 2:=by kernel_rfl
theorem qB.lt {w:World}(h:qB w):2<w.heap.size:=by
 unfold qB Lib.TabIs World.var? at h
 rw[za] at h
 rcases jv 2 w.heap.size with hl|hl
 ·exact hl
 ·rw[RO,C9 hl] at h
  cases h
theorem qB.keep {M:Nat->Prop}{w w':World}(h:qB w)(hk:Keep M w w')(hM:¬M 2):qB w':=by
 have hl:=h.lt
 unfold qB Lib.TabIs World.var? at h ⊢
 rw[za] at h ⊢
 rw[RO] at h ⊢
 rw[hk.block _ hl hM]
 exact h
theorem qB.below {w w':World}(h:qB w)(hb:Below w.heap.size w w'):qB w':=h.keep (Keep.of_below hb (fun _=>False)) id
theorem Ee (n:Int)(a:ByteArray)(w:World)(hT:qB w)(hn:0<=n/\n<=1000000)(ha:Lib.itoa n=a.data.toList):
  Calls Tryz.prog 66 #[.int .i64 n] w fun e w'=>e= .returned (.string a)/\Below w.heap.size w w':=by
 have h:=Any.strconv_Itoa Rb n (by omega) (by omega) w hT
 rw[ha] at h
 refine h.mono ?_
 rintro e w' ⟨he,k,os,rfl⟩
 refine⟨he,rfl,rfl,rfl,?_,fun i hi=> ?_⟩
 ·show w.heap.size<=(w.heap++os).size
  simp
 ·show (w.heap++os)[i]? =w.heap[i]?
  rw[Array.getElem?_append_left hi]
def QH:ByteArray:=⟨#[50,48,49]⟩
def s0:ByteArray:=⟨#[48]⟩
theorem OB:Lib.itoa 201=QH.data.toList:=by kernel_rfl
theorem SN:Lib.itoa 0=s0.data.toList:=by kernel_rfl
def rA:ByteArray:=⟨#[72,84,84,80,47,49,46,49,32,50,48,49]⟩
def rB:ByteArray:=⟨#[72,84,84,80,47,49,46,49,32,50,48,49,32]⟩
def rC:ByteArray:=⟨#[72,84,84,80,47,49,46,49,32,50,48,49,32,67,114,101,97,116,101,100]⟩
def rD:ByteArray:=⟨#[72,84,84,80,47,49,46,49,32,50,48,49,32,67,114,101,97,116,101,100,13,10]⟩
def hA:ByteArray:=⟨#[69,84,97,103,58,32]⟩
def hB:ByteArray:=⟨#[69,84,97,103,58,32,34,49,34]⟩
def hC:ByteArray:=⟨#[69,84,97,103,58,32,34,49,34,13,10]⟩
def lA:ByteArray:=⟨#[67,111,110,116,101,110,116,45,76,101,110,103,116,104,58,32,48]⟩
def lB:ByteArray:=⟨#[67,111,110,116,101,110,116,45,76,101,110,103,116,104,58,32,48,13,10]⟩
def yY:ByteArray:=⟨#[69,84,97,103]⟩
def Px:ByteArray:=⟨#[101,116,97,103]⟩
def Ho:ByteArray:=⟨#[34,49,34]⟩
def lX:ByteArray:=⟨#[72,84,84,80,47,49,46,49,32,50,48,49,32,67,114,101,97,116,101,100,13,10,69,84,97,103,58,32,34,49,34,13,10,67,111,110,116,101,110,116,45,76,101,110,103,116,104,58,32,48,13,10,13,10]⟩
theorem Mv:Ni yY Px Ho:=⟨by decide,by kernel_rfl,by kernel_rfl,by kernel_rfl,by kernel_rfl,by kernel_rfl,by kernel_rfl,by kernel_rfl,by decide,by kernel_rfl,by kernel_rfl⟩
def qN:List Pr:=[(yY,Ho)]
theorem SX:Nj qN:=⟨by decide,fun p hp=>by rw[bO.1 hp];exact⟨Px,Mv⟩⟩
theorem QI (hv:Value)(w:World)(hh:jP w hv qN)(hT:qB w):
  Calls Tryz.prog 29 #[.agg #[.int .i64 201,hv,.string ⟨#[]⟩,.bool false,.bool false]] w fun e w'=>e= .returned (.tuple #[.string lX,.int .i64 0])/\Below w.heap.size w w':=by
 obtain⟨ho,hc,rfl,_,_,_,_⟩:=aW.form hh
 have hlen:qN.length=1:=rfl
 rw[hlen] at hh ⊢
 clear hlen
 have hb1:=aC w (.cells #[.int .i64 201,.slice ho 1 hc,.string ⟨#[]⟩,.bool false,.bool false] 81)
 have hn1:kL (w.alloc (.cells #[.int .i64 201,.slice ho 1 hc,.string ⟨#[]⟩,.bool false,.bool false] 81)) w.heap.size (.slice ho 1 hc) ⟨#[]⟩ false false:=aF w _
 obtain⟨w1,hw1⟩:∃x:World,Hid (w.alloc (.cells #[.int .i64 201,.slice ho 1 hc,.string ⟨#[]⟩,.bool false,.bool false] 81)=x):=⟨_,af rfl⟩
 rw[hw1.out] at hb1 hn1
 obtain⟨xb,hxb⟩:∃x:Nat,Hid (w.heap.size=x):=⟨_,af rfl⟩
 rw[hxb.out] at hn1
 obtain⟨c0,c1,c2,c3,c4,lx⟩:=hn1.cells
 have HG:=af (Sk (.slice ho 1 hc) ⟨#[]⟩ false false qN w1 (aW.below hh hb1) SX (by decide))
 have HA:=af (ak hn1 (ak hb1 (ak (aW.below hh hb1:jP w1 _ qN) (hT.below hb1))))
 clear hn1 hb1 hh hT
 have a1:∀W:World,(Op.stringOp .add ⟨#[72,84,84,80,47,49,46,49,32]⟩ QH).run Tryz.prog W= .ok (.string rA) W:=fun _=>by kernel_rfl
 have a2:∀W:World,(Op.stringOp .add rA ⟨#[32]⟩).run Tryz.prog W= .ok (.string rB) W:=fun _=>by kernel_rfl
 have a3:∀W:World,(Op.stringOp .add rB ⟨#[67,114,101,97,116,101,100]⟩).run Tryz.prog W= .ok (.string rC) W:=fun _=>by kernel_rfl
 have a4:∀W:World,(Op.stringOp .add rC ⟨#[13,10]⟩).run Tryz.prog W= .ok (.string rD) W:=fun _=>by kernel_rfl
 go_enter Tryz.func29,Tryz.ntmps29
 go_upto_region 1 with (fail)
 rw[hw1.out,hxb.out]
 go_wp2_with (first
  |(go_at_call 64;go_must (refine HG.out.mono ?_;rintro e w2 ⟨rfl,hb2⟩;refine Stop.of ?_)))
 refine Stop.on ?_
 have hB3:=pK.new w2 w1.heap.size hb2.size
 have hb3:=aC w2 (.cells #[.pointer none,.slice none 0 0] 156)
 obtain⟨w3,hw3⟩:∃x:World,Hid (w2.alloc (.cells #[.pointer none,.slice none 0 0] 156)=x):=⟨_,af rfl⟩
 rw[hw3.out] at hB3 hb3
 obtain⟨bb,hbb⟩:∃x:Nat,Hid (w2.heap.size=x):=⟨_,af rfl⟩
 rw[hbb.out] at hB3
 have hb13:=hb2.trans (hb3.mono hb2.size)
 have hR3:=HA.out.1.below hb13
 have H3:=af (ak hB3 (ak hb13 hR3))
 have hlt:=hB3.lt
 clear c0 c1 c2 c3 c4 lx hB3 hb3 hb13 hb2
 obtain⟨c0,c1,c2,c3,c4,lx⟩:=hR3.cells
 clear hR3
 go_upto_region 4 with (fail)
 rw[hw3.out,hbb.out]
 refine aK (fun W=>Below w1.heap.size w3 W) (fun i=> !([2,7,10].contains i)) [0,1,5,6,2,3,4,7,8,9,10] rfl (by kernel_rfl) ((aH _ w3).drew) ?_
 repeat ((refine bq (v:= ?_) rfl rfl (fun _ _ _ h=>h) rfl (fun W hW=> ?_) ?_);rotate_left;(focus ((try dsimp only at hW);have p0:W.cell? ⟨xb,0,none⟩=some (.int .i64 201):=((HA.out.1.below (H3.out.2.1.trans hW)).cells).1;have p1:=((HA.out.1.below (H3.out.2.1.trans hW)).cells).2.2.2.2.2;(go_simp;first|done|with_reducible rfl)));(try simp only[Act.put,aj,av,au]))
 refine bP rfl rfl rfl ?_;intro K hK;go_simp
 refine(Ee 201 QH _ ((HA.out.2.2.2.below H3.out.2.1).below (aH _ w3).drew) (by decide) OB).mono ?_;rintro e w4 ⟨rfl,hb4⟩
 have hb34:Below w3.heap.size w3 w4:=(aH _ w3).drew.trans hb4
 have hW4:Below w1.heap.size w3 w4:=hb34.mono H3.out.2.1.size
 refine hK.out _ _ hW4 ?_
 (try simp only[Act.put,aj,av,au])
 repeat ((refine bq (v:= ?_) rfl rfl (fun _ _ _ h=>h) rfl (fun W hW=> ?_) ?_);rotate_left;(focus ((try dsimp only at hW);have p0:W.cell? ⟨xb,0,none⟩=some (.int .i64 201):=((HA.out.1.below (H3.out.2.1.trans hW)).cells).1;have p1:=((HA.out.1.below (H3.out.2.1.trans hW)).cells).2.2.2.2.2;(go_simp;first|done|with_reducible rfl)));(try simp only[Act.put,aj,av,au]))
 refine bP rfl rfl rfl ?_;intro K hK;go_simp
 refine(BZ _).mono ?_;rintro e w5 ⟨rfl,hw⟩;subst w5
 refine hK.out _ _ hW4 ?_
 (try simp only[Act.put,aj,av,au])
 repeat ((refine bq (v:= ?_) rfl rfl (fun _ _ _ h=>h) rfl (fun W hW=> ?_) ?_);rotate_left;(focus ((try dsimp only at hW);have p0:W.cell? ⟨xb,0,none⟩=some (.int .i64 201):=((HA.out.1.below (H3.out.2.1.trans hW)).cells).1;have p1:=((HA.out.1.below (H3.out.2.1.trans hW)).cells).2.2.2.2.2;(go_simp;first|done|with_reducible rfl)));(try simp only[Act.put,aj,av,au]))
 refine bP rfl rfl rfl ?_;intro K hK;go_simp
 refine(zO w1.heap.size bb [] rD w4 (H3.out.1.below hb34) (aG H3.out.2.1.size hb34.size) (by decide) (by decide)).mono ?_;rintro e w5 ⟨rfl,hB5,hb5⟩
 refine hK.out _ _ (hW4.trans hb5) ?_
 refine bF ?_
 have hW5:=hW4.trans hb5
 obtain⟨L0,hL0⟩:∃x:List UInt8,Hid (([]:List UInt8)++rD.data.toList=x):=⟨_,af rfl⟩
 rw[hL0.out] at hB5
 have hl0:L0.length=22:=by rw[<-hL0.out];kernel_rfl
 have H5:=af (ak hB5 (ak hW5 (ak (HA.out.1.below (H3.out.2.1.trans hW5)) hl0)))
 clear hW5 hW4 hb34 hb4 hB5 hb5 c0 c1 c2 c3 c4 lx hl0 a1 a2 a3 a4
 obtain⟨c0,c1,c2,c3,c4,lx⟩:=H5.out.2.2.1.cells
 have a1:∀W:World,(Op.stringOp .add yY ⟨#[58,32]⟩).run Tryz.prog W= .ok (.string hA) W:=fun _=>by kernel_rfl
 have a2:∀W:World,(Op.stringOp .add hA Ho).run Tryz.prog W= .ok (.string hB) W:=fun _=>by kernel_rfl
 have a3:∀W:World,(Op.stringOp .add hB ⟨#[13,10]⟩).run Tryz.prog W= .ok (.string hC) W:=fun _=>by kernel_rfl
 go_wp2_with fail
 go_loopw [6,24] (fun _ i wr=>((i= .int .i64 0/\pK wr w1.heap.size bb L0)\/(i= .int .i64 1/\pK wr w1.heap.size bb (L0++hC.data.toList)))/\Below w1.heap.size w5 wr) (fun _ i _=>1 - (intOf i).toNat)
 case atStart=>exact⟨.inl ⟨rfl,H5.out.1⟩,aH _ _⟩
 case round=>
  obtain⟨(⟨rfl,hB⟩|⟨rfl,hB⟩),hbw⟩:=hrel
  ·obtain⟨g,o,rfl,d1,d2⟩:=rZ.at HA.out.2.2.1 rfl 0 (by decide)
   have hbx:=H3.out.2.1.trans (H5.out.2.1.trans hbw)
   have d1':=(hbx.cell (p:=⟨g,o+0*2,none⟩) (aD w1 _ d1)).trans d1
   have d2':=(hbx.cell (p:=⟨g,o+0*2+1,none⟩) (aD w1 _ d2)).trans d2
   rw[CX,jw] at d1' d2'
   have hbl:=aD wr _ d1'
   have e1:qN[0].1=yY:=rfl
   have e2:qN[0].2=Ho:=rfl
   rw[e1] at d1';rw[e2] at d2'
   have hba:=aC wr (.cells #[.string yY,.string Ho] 162)
   have hba':Below w1.heap.size wr (wr.alloc (.cells #[.string yY,.string Ho] 162)):=hba.mono hbx.size
   have HS:=af (zO w1.heap.size bb L0 hC (wr.alloc (.cells #[.string yY,.string Ho] 162)) (hB.below hba) (aG hbx.size hba.size) (by have:=H5.out.2.2.2;omega) (by decide))
   have HB:=af (hbw.trans hba')
   have lb:=hB.lt
   clear d1 d2 e1 e2 hba hba' hbx hB hbw
   go_wp2_with (first
    |(go_at_call 65;go_must (refine HS.out.mono ?_;rintro e w6 ⟨rfl,hB6,hb6⟩;refine Stop.of ?_)))
   refine Stop.on ?_
   have HF:=af (ak hB6 (HB.out.trans hb6))
   clear hB6 hb6
   go_wp2_with fail
   go_roundw
   case rel=>exact⟨.inr ⟨by go_num,HF.out.1⟩,HF.out.2⟩
   case measure=>simp[intOf]
  ·have hR6:=HA.out.1.below (H3.out.2.1.trans (H5.out.2.1.trans hbw))
   have hbx:=H3.out.2.1.trans (H5.out.2.1.trans hbw)
   have H6:=af (ak hB (ak hbx hR6))
   clear c0 c1 c2 c3 c4 lx hB hbw hbx
   obtain⟨c0,c1,c2,c3,c4,lx⟩:=hR6.cells
   clear hR6
   have a4:∀W:World,(Op.stringOp .add ⟨#[67,111,110,116,101,110,116,45,76,101,110,103,116,104,58,32]⟩ s0).run Tryz.prog W= .ok (.string lA) W:=fun _=>by kernel_rfl
   have a5:∀W:World,(Op.stringOp .add lA ⟨#[13,10]⟩).run Tryz.prog W= .ok (.string lB) W:=fun _=>by kernel_rfl
   have HI:=af (Ee 0 s0 wr (HA.out.2.2.2.below H6.out.2.1) (by decide) SN)
   go_wp2_with (first
    |(go_at_call 66;go_must (refine HI.out.mono ?_;rintro e w7 ⟨rfl,hb7⟩;refine Stop.of ?_)))
   refine Stop.on ?_
   have hbx7:Below w1.heap.size w1 w7:=H6.out.2.1.trans (hb7.mono H6.out.2.1.size)
   have HS7:=af (zO w1.heap.size bb _ lB w7 (H6.out.1.below hb7) hbx7.size (by rw[ay,H5.out.2.2.2];decide) (by decide))
   have HX7:=af hbx7
   clear hb7 hbx7
   go_wp2_with (first
    |(go_at_call 65;go_must (refine HS7.out.mono ?_;rintro e w8 ⟨rfl,hB8,hb8⟩;refine Stop.of ?_)))
   refine Stop.on ?_
   have hbx8:=HX7.out.trans hb8
   have hR8:=HA.out.1.below hbx8
   have HS8:=af (zO w1.heap.size bb _ ⟨#[13,10]⟩ w8 hB8 hbx8.size (by rw[ay,ay,H5.out.2.2.2];decide) (by decide))
   have HX8:=af hbx8
   clear c0 c1 c2 c3 c4 lx hbx8 hB8 hb8
   obtain⟨c0,c1,c2,c3,c4,lx⟩:=hR8.cells
   clear hR8
   go_wp2_with (first
    |(go_at_call 65;go_must (refine HS8.out.mono ?_;rintro e w9 ⟨rfl,hB9,hb9⟩;refine Stop.of ?_)))
   refine Stop.on ?_
   have hbx9:=HX8.out.trans hb9
   have hR9:=HA.out.1.below hbx9
   have HS9:=af (zO w1.heap.size bb _ ⟨#[]⟩ w9 hB9 hbx9.size (by rw[ay,ay,ay,H5.out.2.2.2];decide) (by decide))
   have HX9:=af hbx9
   clear c0 c1 c2 c3 c4 lx hbx9 hB9 hb9
   obtain⟨c0,c1,c2,c3,c4,lx⟩:=hR9.cells
   clear hR9
   go_wp2_with (first
    |(go_at_call 65;go_must (refine HS9.out.mono ?_;rintro e w10 ⟨rfl,hB10,hb10⟩;refine Stop.of ?_)))
   refine Stop.on ?_
   have hbx10:=HX9.out.trans hb10
   have hst:=Bp w1.heap.size bb _ w10 hB10
   rw[show (⟨(L0++hC.data.toList++lB.data.toList++(⟨#[13,10]⟩:ByteArray).data.toList++(⟨#[]⟩:ByteArray).data.toList).toArray⟩:ByteArray)=lX by rw[<-hL0.out];kernel_rfl] at hst
   have HST:=af hst
   have HX10:=af hbx10
   clear c0 c1 c2 c3 c4 lx hbx10 hB10 hb10 hst
   go_wp2_with (first
    |(go_at_call 67;go_must (refine HST.out.mono ?_;rintro e w11 ⟨rfl,hb11⟩;refine Stop.of ?_)))
   refine Stop.on ?_
   go_wp2_with fail
   go_ret2
   exact⟨rfl,HA.out.2.1.trans ((HX10.out.trans hb11).mono HA.out.2.1.size)⟩
theorem LJ (jb:Nat)(hv:Value)(now:Int)(draw:ByteArray)(pv:Value)(x lb:Nat)(hs:List Pr)(w:World)(h:gI w jb hv now draw pv x lb)(hh:jP w hv hs)(hn:TB hs ⟨#[99,111,110,116,101,110,116,45,114,97,110,103,101]⟩):
  Calls Tryz.prog 112 #[.pointer (some ⟨jb,0,none⟩)] w fun e w'=>e= .returned (.func (.func 175) #[.pointer (some ⟨jb,0,none⟩)] #[])/\Below w.heap.size w w':=by
 obtain⟨c0,_,_,_,_⟩:=h.q
 have lj:=h.lt
 have hmf:∀(fn:Fn) (first cap:Array Value) (w:World),(Instr.makeFunc fn first cap).run Tryz.prog w= .ok (.func fn first cap) w:=fun _ _ _ _=>rfl
 have e1:(fH.toList==[79,80,84,73,79,78,83])=false:=by kernel_rfl
 have e2:(fH.toList==[71,69,84])=false:=by kernel_rfl
 have e3:(fH.toList==[72,69,65,68])=false:=by kernel_rfl
 have e4:(fH.toList==[80,85,84])=true:=by kernel_rfl
 have HS:=af (Ij jb hv now draw pv x lb hs _ w h hh hn)
 clear h hh hn
 go_enter Tryz.func112,Tryz.ntmps112
 go_wp2_with (first
  |(go_at_call 110;go_must (refine HS.out.mono ?_;rintro e w1 ⟨rfl,hb1⟩))
  |(go_at_call 58;go_must (refine(uW _ _).mono ?_;rintro e w3 ⟨rfl,hw⟩;subst w3)))
 go_ret
 exact⟨rfl,hb1⟩
theorem Ik (g c:Nat)(w:World)(hc:1<=c/\c<=9223372036854775807):
  Calls Tryz.prog 260 #[.slice (some ⟨g,0,none⟩) 1 c] w fun e w'=>e= .returned (.slice (some ⟨g,0,none⟩) 0 c)/\w'=w:=by
 have h0:(0:Int)<=(c:Int):=by omega
 go_enter Tryz.func260,Tryz.ntmps260
 go_wp2
 go_ret
 exact⟨rfl,rfl⟩
section
variable {p:TP} {kv:List Pr} {w:World}
theorem LH (h:RT p kv w)(jb:Nat)(hv:Value)(now:Int)(draw:ByteArray)(pv:Value)(lb:Nat)(qv:Value)(path:List ByteArray)(S:Nat->Prop)(m:ND)(hj:gI w jb hv now draw pv p.x lb)(hp:nH w S qv path)(hs:∀s∈path,s.size<=9223372036854775807)(hT:kQ w)(hg:pX path=true)(hl:kv.length<=4090)(hf:tL kv path ow m)(hi:m.i.size<=4):
  Calls Tryz.prog 185 #[.pointer (some ⟨jb,0,none⟩),qv] w fun e w'=>e= .returned (.agg (pU kv m).toArray)/\Below w.heap.size w w':=by
 obtain⟨po,pc,rfl,_,_,_,_⟩:=jf.form hp
 have hb1:=aC w (.cells #[.int .i64 0,.int .i64 0,.int .i64 0] 319)
 have hn1:=aF w (.cells #[.int .i64 0,.int .i64 0,.int .i64 0] 319)
 obtain⟨w1,hw1⟩:∃x:World,Hid (w.alloc (.cells #[.int .i64 0,.int .i64 0,.int .i64 0] 319)=x):=⟨_,af rfl⟩
 rw[hw1.out] at hb1 hn1
 obtain⟨rb,hrb⟩:∃x:Nat,Hid (w.heap.size=x):=⟨_,af rfl⟩
 rw[hrb.out] at hn1
 have HS:=af (R9 _ path S m (h.below hb1) (jf.below hp hb1) hs (hT.below hb1) hg hl hf hi)
 have hj1:=hj.below hb1
 obtain⟨_,_,c9,_⟩:=hj1.p
 have lj:=hj1.lt
 have HA:=af (ak hb1 (ak hn1 hrb.out))
 obtain⟨a,b,c,hsv⟩:∃a b c:Int,Hid (pU kv m=[.int .i64 a,.int .i64 b,.int .i64 c]):=⟨_,_,_,af rfl⟩
 rw[hsv.out] at HS ⊢
 clear h hj hp hs hT hg hf hi hb1 hn1 hj1 hsv
 go_enter Tryz.func185,Tryz.ntmps185
 go_upto_region 1 with (fail)
 rw[hw1.out,hrb.out]
 go_wp2_with (first
  |(go_at_call 287;go_must (refine HS.out.mono ?_;rintro e w2 ⟨rfl,hb2⟩;refine Stop.of ?_)))
 refine Stop.on ?_
 have hb3:=aC w2 (.cells #[.int .i64 a,.int .i64 b,.int .i64 c] 319)
 have hn3:=aF w2 (.cells #[.int .i64 a,.int .i64 b,.int .i64 c] 319)
 obtain⟨w3,hw3⟩:∃x:World,Hid (w2.alloc (.cells #[.int .i64 a,.int .i64 b,.int .i64 c] 319)=x):=⟨_,af rfl⟩
 rw[hw3.out] at hb3 hn3
 obtain⟨nb,hnb⟩:∃x:Nat,Hid (w2.heap.size=x):=⟨_,af rfl⟩
 rw[hnb.out] at hn3
 obtain⟨d0,d1,d2,_,_,_,ln⟩:=pW (w:=w3) (b:=nb) hn3
 have hr3:Row w3 rb 319 [.int .i64 0,.int .i64 0,.int .i64 0]:=by
  have h2:=(hb2.block rb (ah.1 HA.out.2.1).1).trans HA.out.2.1
  exact(hb3.block rb (ah.1 h2).1).trans h2
 have HB3:=af (HA.out.1.trans ((hb2.trans (hb3.mono hb2.size)).mono HA.out.1.size))
 clear hb2 hb3 hn3 c9 lj
 go_upto_region 2 with (fail)
 rw[hw3.out,hnb.out]
 go_wp2_with (first
  |(go_at_call 63;go_must (refine(LK _).mono ?_;rintro e w6 ⟨rfl,hw6⟩;subst w6))
  |((refine bU rfl ?_);intro K hK;(refine wp_store_row 319 (.tmp 4) (.tmp 18) rfl rb 0 319 _ [.int .i64 a,.int .i64 b,.int .i64 c] rfl rfl hr3 wL (aA 3) (by intro v hv;simp only[aX,cK,iL] at hv;rcases hv with rfl|rfl|rfl<;>rfl) ?_);intro w4 hr4 hk4;refine hK _ _ ?_))
 refine eX (oZ rfl _ w4 rb 319 _ (0,0) _ rfl hr4 Tryz.underlying319 rfl (by kernel_rfl)) rfl ?_
 exact⟨rfl,HB3.out.trans (hk4.dY HB3.out.size fun g hg e=>by have e:g=rb:=e;have:=HA.out.2.2;omega)⟩
end
def TM:ByteArray:=⟨#[49]⟩
theorem SC (sz:Int)(w:World):Calls Tryz.prog 184 #[.agg #[.int .i64 1,.int .i64 sz,.int .i64 1]] w fun e w'=>e= .returned (.string Ho)/\Below w.heap.size w w':=by
 have hb1:=aC w (.cells #[.int .i64 1,.int .i64 sz,.int .i64 1] 319)
 have hn1:=aF w (.cells #[.int .i64 1,.int .i64 sz,.int .i64 1] 319)
 obtain⟨w1,hw1⟩:∃x:World,Hid (w.alloc (.cells #[.int .i64 1,.int .i64 sz,.int .i64 1] 319)=x):=⟨_,af rfl⟩
 rw[hw1.out] at hb1 hn1
 obtain⟨rb,hrb⟩:∃x:Nat,Hid (w.heap.size=x):=⟨_,af rfl⟩
 rw[hrb.out] at hn1
 obtain⟨c0,_,c2,_,_,_,lr⟩:=pW (w:=w1) (b:=rb) hn1
 have HF:Hid (Calls Tryz.prog 286 #[.int .i64 1,.int .i64 10] w1 fun e w'=>e= .returned (.string TM)/\w'=w1):=af (Ov w1 1 TM (by omega) (by kernel_rfl))
 have a1:∀W:World,(Op.stringOp .add (⟨#[34]⟩:ByteArray) TM).run Tryz.prog W= .ok (.string ⟨#[34,49]⟩) W:=fun _=>by kernel_rfl
 have a2:∀W:World,(Op.stringOp .add (⟨#[34,49]⟩:ByteArray) ⟨#[34]⟩).run Tryz.prog W= .ok (.string Ho) W:=fun _=>by kernel_rfl
 have HA:=af hb1
 clear hb1 hn1
 go_enter Tryz.func184,Tryz.ntmps184
 go_upto_region 1 with (fail)
 rw[hw1.out,hrb.out]
 go_wp2_with (first
  |(go_at_call 286;go_must (refine HF.out.mono ?_;rintro e w2 ⟨rfl,hw⟩;subst w2)))
 go_ret
 exact⟨rfl,HA.out⟩
theorem D7 (jb:Nat)(hv:Value)(now:Int)(draw:ByteArray)(pv:Value)(x lb:Nat)(gb n:Nat)(vs:List Value)(w:World)(h:gI w jb hv now draw pv x lb)(hg:w.heap[gb]? =some (.cells vs.toArray 146 (0,0)))(hn:vs.length=n)(hv1:∀v∈vs,v.oneCell'=true)(hl:n<=100):
  Calls Tryz.prog 257 #[.pointer (some ⟨jb,0,none⟩),.slice (some ⟨gb,0,none⟩) n n] w fun e w'=>e= .returned (.bool false)/\Below w.heap.size w w':=by
 have HA:=af (ak h (ak hg (ak hn (ak hv1 hl))))
 clear h hg hn hv1
 go_enter Tryz.func257,Tryz.ntmps257
 go_wp2
 go_loopw [6,9] (fun _ i wr=>(∃k:Nat,k<=n/\i= .int .i64 k)/\Below w.heap.size w wr) (fun _ i _=>n - (intOf i).toNat)
 case atStart=>exact⟨⟨0,aN _,rfl⟩,aH _ _⟩
 case round=>
  obtain⟨⟨k,hk,rfl⟩,hbel⟩:=hrel
  by_cases hlt:k<n
  ·have hg2:=(hbel.block gb (ah.1 HA.out.2.1).1).trans HA.out.2.1
   have hj2:=HA.out.1.below hbel
   have lg:=(ah.1 hg2).1
   have hlt':(k:Int)<(n:Int):=by omega
   have hkv:k<vs.length:=by have:=HA.out.2.2.1;omega
   obtain⟨v,hvk⟩:∃v,Hid (vs[k]=v):=⟨_,af rfl⟩
   have c0:wr.cell? ⟨gb,k,none⟩=some v:=by rw[<-hvk.out];simp[World.cell?,hg2,hkv]
   have HJ:=af (ak hj2 hbel)
   clear hg2 hj2 hbel
   go_upto_region 4 with (fail)
   have hI:gI wr.drew jb hv now draw pv x lb/\Below w.heap.size w wr.drew:=⟨HJ.out.1.below (aH _ wr).drew,HJ.out.2.trans ((aH _ wr).drew)⟩
   refine aK (fun W=>gI W jb hv now draw pv x lb/\Below w.heap.size w W) (fun i=> !([9].contains i)) [0,1,2,3,4,5,6,7,8,9,10] rfl (by kernel_rfl) hI ?_
   repeat ((refine bq (v:= ?_) rfl rfl (fun _ _ _ h=>h) rfl (fun W hW=> ?_) ?_);rotate_left;(focus ((try dsimp only at hW);have p0:W.cell? ⟨jb,11,none⟩=some (.slice none 0 0):=hW.1.p.2.2.2.2.1;have p1:W.cell? ⟨jb,12,none⟩=some (.slice none 0 0):=hW.1.p.2.2.2.2.2.1;have p2:=hW.1.lt;(go_simp;first|done|with_reducible rfl)));(try simp only[Act.put,aj,av,au]))
   refine bP rfl rfl rfl ?_;intro K hK;go_simp
   refine(Ma _ _ _).mono ?_;rintro e w3 ⟨rfl,hw⟩;subst w3
   refine hK.out _ _ hI ?_
   (try simp only[Act.put,aj,av,au])
   repeat ((refine bq (v:= ?_) rfl rfl (fun _ _ _ h=>h) rfl (fun W hW=> ?_) ?_);rotate_left;(focus ((try dsimp only at hW);have p0:W.cell? ⟨jb,11,none⟩=some (.slice none 0 0):=hW.1.p.2.2.2.2.1;have p1:W.cell? ⟨jb,12,none⟩=some (.slice none 0 0):=hW.1.p.2.2.2.2.2.1;have p2:=hW.1.lt;(go_simp;first|done|with_reducible rfl)));(try simp only[Act.put,aj,av,au]))
   refine bF ?_
   go_wp2_with fail
   go_roundw
   case rel=>exact⟨⟨k+1,by omega,by go_num⟩,hI.2⟩
   case measure=>simp[intOf];omega
  ·obtain rfl:k=n:=by omega
   have x1:¬(k:Int)<(k:Int):=by omega
   go_wp2_with fail
   go_ret
   exact⟨rfl,hbel⟩
theorem SY:pX []=true:=by kernel_rfl
theorem Oi {p:TP}{w:World}(h:RT p [] w)(jb:Nat)(hv:Value)(now:Int)(draw:ByteArray)(g c:Nat)(lb B:Nat)(hj:gI w jb hv now draw (.slice (some ⟨g,0,none⟩) 1 c) p.x lb)(ho:aQ w d9 B 9 1 (.slice (some ⟨g,0,none⟩) 1 c) 1 [.string ji])(hc:1<=c/\c<=9223372036854775807)(hT:kQ w):
  Calls Tryz.prog 256 #[.pointer (some ⟨jb,0,none⟩)] w fun e w'=>e= .returned (.tuple #[])/\Below w.heap.size w w':=by
 obtain⟨c7,_⟩:=hj.p
 have lj:=hj.lt
 have hp:nH w d9 (.slice (some ⟨g,0,none⟩) 1 c) [ji]:=ho.JU
 have hpi:nH w d9 (.slice (some ⟨g,0,none⟩) 0 c) []:=nH.init (path:=[ji]) hp
 have HS:=LH h jb hv now draw _ lb _ [] d9 ow hj hpi (by simp) hT SY (by simp) (show tL [] [] ow ow from rfl) (by decide)
 have hsv:(pU [] ow).toArray=#[.int .i64 2,.int .i64 0,.int .i64 0]:=by kernel_rfl
 rw[hsv] at HS
 have HS:=af HS
 have HA:=af hj
 have HC:=af hc
 have hfd:∀W:World,(Instr.field 319 (.agg #[.int .i64 2,.int .i64 0,.int .i64 0]) 0).run Tryz.prog W= .ok (.int .i64 2) W:=fun _=>by kernel_rfl
 clear h hj ho hc hT hp hpi hsv
 go_enter Tryz.func256,Tryz.ntmps256
 go_wp2_with (first
  |(go_at_call 260;go_must (refine(Ik g c _ HC.out).mono ?_;rintro e w1 ⟨rfl,hw⟩;subst w1))
  |(go_at_call 185;go_must (refine HS.out.mono ?_;rintro e w1 ⟨rfl,hb1⟩;refine Stop.of ?_)))
 refine Stop.on ?_
 have HJ:=af (ak (HA.out.below hb1) hb1)
 clear hb1 c7 lj
 go_upto_region 1 with (go_at_call 58;go_must (refine(uW _ _).mono ?_;rintro e w3 ⟨rfl,hw⟩;subst w3))
 have hI:gI w1.drew jb hv now draw (.slice (some ⟨g,0,none⟩) 1 c) p.x lb/\Below w.heap.size w w1.drew:=⟨HJ.out.1.below (aH _ w1).drew,HJ.out.2.trans ((aH _ w1).drew)⟩
 refine aK (fun W=>gI W jb hv now draw (.slice (some ⟨g,0,none⟩) 1 c) p.x lb/\Below w.heap.size w W) (fun i=> !([9,10,11,12].contains i)) [0,1,2,3,4,5,6,7,8,9,10,11,12] rfl (by kernel_rfl) hI ?_
 repeat ((refine bq (v:= ?_) rfl rfl (fun _ _ _ h=>h) rfl (fun W hW=> ?_) ?_);rotate_left;(focus ((try dsimp only at hW);have p0:W.cell? ⟨jb,7,none⟩=some (.slice (some ⟨g,0,none⟩) 1 c):=hW.1.p.1;have p2:=hW.1.lt;(go_simp;first|done|with_reducible rfl)));(try simp only[Act.put,aj,av,au]))
 refine bP rfl rfl rfl ?_;intro K hK;go_simp
 refine(Ik g c _ HC.out).mono ?_;rintro e w3 ⟨rfl,hw⟩;subst w3
 refine hK.out _ _ hI ?_
 (try simp only[Act.put,aj,av,au])
 refine bP rfl rfl rfl ?_;intro K hK;go_simp
 have hb2:Below w1.heap.size w1 (w1.alloc (.cells #[.slice (some ⟨g,0,none⟩) 1 c,.slice (some ⟨g,0,none⟩) 0 c] 146)).drew:=(aC w1 _).drew
 have hn2:(w1.alloc (.cells #[.slice (some ⟨g,0,none⟩) 1 c,.slice (some ⟨g,0,none⟩) 0 c] 146)).drew.heap[w1.heap.size]? =some (.cells #[.slice (some ⟨g,0,none⟩) 1 c,.slice (some ⟨g,0,none⟩) 0 c] 146 (0,0)):=aF w1 _
 refine hK.out _ _ ⟨HJ.out.1.below hb2,HJ.out.2.trans (hb2.mono HJ.out.2.size)⟩ ?_
 (try simp only[Act.put,aj,av,au])
 generalize (w1.alloc (.cells #[.slice (some ⟨g,0,none⟩) 1 c,.slice (some ⟨g,0,none⟩) 0 c] 146)).drew=w2 at hb2 hn2 ⊢
 have hj2:=HJ.out.1.below hb2
 refine bP rfl rfl rfl ?_;intro K hK;go_simp
 refine(D7 jb hv now draw _ p.x lb _ 2 [.slice (some ⟨g,0,none⟩) 1 c,.slice (some ⟨g,0,none⟩) 0 c] w2 hj2 hn2 rfl (by intro v hv;simp only[aX,cK,iL] at hv;rcases hv with rfl|rfl<;>rfl) (by decide)).mono ?_;rintro e w3 ⟨rfl,hb3⟩
 have hB3:=HJ.out.2.trans ((hb2.trans (hb3.mono hb2.size)).mono HJ.out.2.size)
 refine hK.out _ _ ⟨hj2.below hb3,hB3⟩ ?_
 (try simp only[Act.put,aj,av,au])
 refine bP rfl rfl rfl ?_;intro K hK;go_simp
 refine(uW _ _).mono ?_;rintro e w4 ⟨rfl,hw⟩;subst w4
 refine hK.out _ _ ⟨hj2.below hb3,hB3⟩ ?_
 refine bF ?_
 go_end0
 exact⟨rfl,hB3⟩
theorem kQ.mF {M:Nat->Prop}{w w':World}(h:kQ w)(hk:Keep M w w')(n3:¬M (fK.g 3))(n4:¬M (fK.g 4)):kQ w':=by
 have l3:fK.g 3<w.heap.size:=aD w _ (h.1 0 (by decide))
 have l4:fK.g 4<w.heap.size:=aD w _ (h.2 0 (by decide)).1
 exact⟨fun c hc=>(hk.cell (p:=⟨fK.g 3,c,none⟩) l3 n3).trans (h.1 c hc),fun i hi=>⟨(hk.cell (p:=⟨fK.g 4,2*i,none⟩) l4 n4).trans (h.2 i hi).1,(hk.cell (p:=⟨fK.g 4,2*i+1,none⟩) l4 n4).trans (h.2 i hi).2⟩⟩
def Fp:List Pr:=Ej (tH [] ji) id1 1 sX
theorem Q8:cu (tH [] ji) ⟨#[101]⟩=none:=by kernel_rfl
theorem Q7:cu Fp (uj ow.i ji)=some id1:=by kernel_rfl
theorem Q6:cu Fp (uV id1)=some (wN 1 1):=by kernel_rfl
theorem S9:tL Fp [ji] ow ⟨id1,1,1⟩:=⟨by decide,.inr ⟨rfl,⟨id1,1,1⟩,Q7,by decide,⟨Q6,by decide,by decide,by decide,by decide⟩,rfl⟩⟩
theorem Ta:tL [] [ji] ow nd0:=⟨by decide,.inl ⟨rfl,rfl⟩⟩
theorem Mw:pX [ji]=true:=by kernel_rfl
theorem Ua:Fp.length<=4090:=aR (by kernel_rfl)
theorem mI:(Tryz.prog.info? 81).map (·.size)=some 5:=by kernel_rfl
theorem TV {p:TP}{w:World}(h:RT p [] w)(jb:Nat)(hv:Value)(now:Int)(draw:ByteArray)(g c:Nat)(lb B:Nat)(hj:gI w jb hv now draw (.slice (some ⟨g,0,none⟩) 1 c) p.x lb)(ho:aQ w d9 B 9 1 (.slice (some ⟨g,0,none⟩) 1 c) 1 [.string ji])(hc:1<=c/\c<=9223372036854775807)(hT:kQ w)(hF:p.F jb/\p.F g/\p.F (fK.g 3)/\p.F (fK.g 4))(hr:p.rm [] 5):
  Calls Tryz.prog 175 #[.pointer (some ⟨jb,0,none⟩)] w fun e w'=>∃hv',e= .returned (.tuple #[.agg #[.int .i64 201,hv',.string ⟨#[]⟩,.bool false,.bool false],.bool true])/\(∃F':Nat->Prop,RT {p with F:=F'} Fp w'/\(∀g,p.F g->F' g)/\∀b,hv'.ownBlock=some b->F' b)/\jP w' hv' qN/\(∀b,hv'.ownBlock=some b->w.heap.size<=b)/\Keep (fun g=>¬p.F g) w w':=by
 have hb1:=aC w (.cells #[.int .i64 0,.slice none 0 0,.string ⟨#[]⟩,.bool false,.bool false] 81)
 have hn1:=aF w (.cells #[.int .i64 0,.slice none 0 0,.string ⟨#[]⟩,.bool false,.bool false] 81)
 obtain⟨w1,hw1⟩:∃x:World,Hid (w.alloc (.cells #[.int .i64 0,.slice none 0 0,.string ⟨#[]⟩,.bool false,.bool false] 81)=x):=⟨_,af rfl⟩
 rw[hw1.out] at hb1 hn1
 obtain⟨rb,hrb⟩:∃x:Nat,Hid (w.heap.size=x):=⟨_,af rfl⟩
 rw[hrb.out] at hn1
 have hj1:=hj.below hb1
 have ho1:=ho.below hb1
 have hS:=LH (h.below hb1) jb hv now draw _ lb _ [ji] d9 nd0 hj1 (ho1.JU:nH w1 d9 _ [ji]) (by decide) (hT.below hb1) Mw (by simp) Ta (by decide)
 rw[show (pU [] nd0).toArray=#[.int .i64 0,.int .i64 0,.int .i64 0] from by kernel_rfl] at hS
 have HS:=af hS
 obtain⟨c7,c8,_⟩:=hj1.p
 have lj:=hj1.lt
 have HA:=af (ak h (ak hj (ak ho (ak hT (ak hF (ak hr (ak hb1 (ak hn1 hrb.out))))))))
 have HC:=af hc
 clear h hj ho hc hT hF hr hb1 hn1 hj1 ho1 hS
 go_enter Tryz.func175,Tryz.ntmps175
 go_upto_region 1 with (fail)
 rw[hw1.out,hrb.out]
 go_wp2_with (first
  |(go_at_call 185;go_must (refine HS.out.mono ?_;rintro e w2 ⟨rfl,hb2⟩;refine Stop.of ?_)))
 refine Stop.on ?_
 have hb3:=aC w2 (.cells #[.int .i64 0,.int .i64 0,.int .i64 0] 319)
 have hn3:=aF w2 (.cells #[.int .i64 0,.int .i64 0,.int .i64 0] 319)
 obtain⟨w3,hw3⟩:∃x:World,Hid (w2.alloc (.cells #[.int .i64 0,.int .i64 0,.int .i64 0] 319)=x):=⟨_,af rfl⟩
 rw[hw3.out] at hb3 hn3
 obtain⟨ib,hib⟩:∃x:Nat,Hid (w2.heap.size=x):=⟨_,af rfl⟩
 rw[hib.out] at hn3
 have hB3:=HA.out.2.2.2.2.2.2.1.trans ((hb2.trans (hb3.mono hb2.size)).mono HA.out.2.2.2.2.2.2.1.size)
 have hj3:=HA.out.2.1.below hB3
 obtain⟨d0,_,_,_,_,_,li⟩:=pW (w:=w3) (b:=ib) hn3
 obtain⟨c7',c8',_⟩:=hj3.p
 have lj':=hj3.lt
 have HP:=af (Oi (HA.out.1.below hB3) jb hv now draw g c lb B hj3 (HA.out.2.2.1.below hB3) HC.out (HA.out.2.2.2.1.below hB3))
 have HB3:=af (ak hB3 (ak hb2 hb3))
 clear hb2 hb3 hn3 hB3 hj3 c7 c8 lj
 go_upto_region 2 with (fail)
 rw[hw3.out,hib.out]
 go_wp2_with (first
  |(go_at_call 58;go_must (refine(uW _ _).mono ?_;rintro e w5 ⟨rfl,hw⟩;subst w5))
  |(go_at_call 256;go_must (refine HP.out.mono ?_;rintro e w4 ⟨rfl,hb4⟩;refine Stop.of ?_)))
 refine Stop.on ?_
 have hB4:=HB3.out.1.trans (hb4.mono HB3.out.1.size)
 have hj4:=HA.out.2.1.below hB4
 have hb5:=aC w4 (.cells #[.slice (some ⟨g,0,none⟩) 1 c] 146)
 have hn5:=aF w4 (.cells #[.slice (some ⟨g,0,none⟩) 1 c] 146)
 have HG:=af (D7 jb hv now draw _ p.x lb _ 1 [.slice (some ⟨g,0,none⟩) 1 c] _ (hj4.below hb5) hn5 rfl (by intro v hv;simp only[aX,cK,iL] at hv;rcases hv with rfl;rfl) (by decide))
 obtain⟨c7,_⟩:=hj4.p
 have lj:=hj4.lt
 have HB4:=af (ak hB4 (ak hb4 hb5))
 clear hB4 hj4 hb4 hb5 hn5 c7' c8' lj' d0 li
 go_wp2_with (first
  |(go_at_call 58;go_must (refine(uW _ _).mono ?_;rintro e w5 ⟨rfl,hw⟩;subst w5))
  |(go_at_call 257;go_must (refine HG.out.mono ?_;rintro e w6 ⟨rfl,hb6⟩;refine Stop.of ?_)))
 refine Stop.on ?_
 have hB6:=HB4.out.1.trans ((HB4.out.2.2.trans (hb6.mono HB4.out.2.2.size)).mono HB4.out.1.size)
 have hj6:=HA.out.2.1.below hB6
 have hI:gI w6.drew jb hv now draw (.slice (some ⟨g,0,none⟩) 1 c) p.x lb:=hj6.below (aH _ w6).drew
 have hB7:=hB6.trans ((aH w.heap.size w6).drew)
 have HB6:=af (ak hB7 hb6)
 clear hB6 hb6 hj6 c7 lj
 go_upto_region 6 with (go_at_call 58;go_must (refine(uW _ _).mono ?_;rintro e w7 ⟨rfl,hw⟩;subst w7))
 refine aK (fun W=>gI W jb hv now draw (.slice (some ⟨g,0,none⟩) 1 c) p.x lb) (fun i=> !([13].contains i)) [0,1,2,3,4,5,6,7,8,9,10,11,12,13,14,15,16,17,18] rfl (by kernel_rfl) hI ?_
 repeat ((refine bq (v:= ?_) rfl rfl (fun _ _ _ h=>h) rfl (fun W hW=> ?_) ?_);rotate_left;(focus ((try dsimp only at hW);have p0:W.cell? ⟨jb,7,none⟩=some (.slice (some ⟨g,0,none⟩) 1 c):=hW.p.1;have p1:W.cell? ⟨jb,9,none⟩=some (.pointer (some ⟨p.x,0,none⟩)):=hW.p.2.2.1;have p3:W.cell? ⟨jb,3,none⟩=some (.string sX):=hW.q.2.2.2.1;have p2:=hW.lt;(go_simp;first|done|with_reducible rfl)));(try simp only[Act.put,aj,av,au]))
 have hR6:=HA.out.1.next hB7
 have ho6:=HA.out.2.2.1.below hB7
 have hpt:=KY sX _ ji d9 hR6 (ho6.JU:nH w6.drew d9 _ [ji]) (HA.out.2.2.2.1.below hB7) Mw (by decide) Q8 HA.out.2.2.2.2.2.1 (by decide)
 rw[show Ej (tH [] ji) id1 1 sX=Fp from rfl,show (p.add w w6.drew).x=p.x from rfl] at hpt
 refine bP rfl rfl rfl ?_;intro K hK;go_simp
 refine hpt.mono ?_;rintro e w7 ⟨rfl,hR7,hk7⟩
 have hj7:=hI.keep hk7 (fun e=>e (.inl HA.out.2.2.2.2.1.1))
 refine hK.out _ _ hj7 ?_
 (try simp only[Act.put,aj,av,au])
 repeat ((refine bq (v:= ?_) rfl rfl (fun _ _ _ h=>h) rfl (fun W hW=> ?_) ?_);rotate_left;(focus ((try dsimp only at hW);have p0:W.cell? ⟨jb,7,none⟩=some (.slice (some ⟨g,0,none⟩) 1 c):=hW.p.1;have p1:W.cell? ⟨jb,9,none⟩=some (.pointer (some ⟨p.x,0,none⟩)):=hW.p.2.2.1;have p3:W.cell? ⟨jb,3,none⟩=some (.string sX):=hW.q.2.2.2.1;have p2:=hW.lt;(go_simp;first|done|with_reducible rfl)));(try simp only[Act.put,aj,av,au]))
 refine bF ?_
 have ho7:aQ w7 d9 B 9 1 (.slice (some ⟨g,0,none⟩) 1 c) 1 [.string ji]:=ho6.keep (fun b hb hl hs=>⟨hk7.block b hl (fun e=>e (.inl (by cases hb;exact HA.out.2.2.2.2.1.2.1))),hs⟩)
 have hT7:kQ w7:=(HA.out.2.2.2.1.below hB7).mF hk7 (fun e=>e (.inl HA.out.2.2.2.2.1.2.2.1)) (fun e=>e (.inl HA.out.2.2.2.2.1.2.2.2))
 have hst:=LH hR7 jb hv now draw _ lb _ [ji] d9 ⟨id1,1,1⟩ hj7 (ho7.JU:nH w7 d9 _ [ji]) (by decide) hT7 Mw Ua S9 (by decide)
 rw[show (pU Fp ⟨id1,1,1⟩).toArray=#[.int .i64 1,.int .i64 1,.int .i64 1] from by kernel_rfl] at hst
 have HST:=af hst
 have hrl:rb<w6.drew.heap.size:=ax (ah.1 HA.out.2.2.2.2.2.2.2.1).1 (by have a:=hB7.size;have b:=HB4.out.1.size;have c:=HA.out.2.2.2.2.2.2.1.size;have d:=HB6.out.2.size;have e1:=HB4.out.2.1.size;have e2:=HB4.out.2.2.size;have e3:=HB3.out.2.1.size;have e4:=HB3.out.2.2.size;simp only[aZ] at*;exact aG e3 (aG e4 (aG e1 (aG e2 d))))
 have HX7:=af (ak hR7 (ak hk7 (ak hrl (ak hB7 hj7))))
 obtain⟨c7,_⟩:=hj7.p
 have lj:=hj7.lt
 clear hR7 hk7 hrl hB7 hj7 ho7 hT7 hst hR6 ho6 hpt hI
 go_wp2_with (first
  |(go_at_call 63;go_must (refine(LK _).mono ?_;rintro e w8 ⟨rfl,hw⟩;subst w8))
  |(go_at_call 185;go_must (refine HST.out.mono ?_;rintro e w8 ⟨rfl,hb8⟩))
  |(go_at_call 184;go_must (refine(SC _ _).mono ?_;rintro e w9 ⟨rfl,hb9⟩;refine Stop.of ?_)))
 refine Stop.on ?_
 have hb89:=hb8.trans (hb9.mono hb8.size)
 obtain⟨hb,hhb⟩:∃x:Nat,Hid (w9.heap.size=x):=⟨_,af rfl⟩
 have hb10:=aC w9 (.cells #[.string ⟨#[69,84,97,103]⟩,.string Ho] 162)
 have hn10:=aF w9 (.cells #[.string ⟨#[69,84,97,103]⟩,.string Ho] 162)
 have hI10:jP (w9.alloc (.cells #[.string ⟨#[69,84,97,103]⟩,.string Ho] 162)) (.slice (some ⟨w9.heap.size,0,none⟩) 1 1) qN:=by
  have hr:Row (w9.alloc (.cells #[.string ⟨#[69,84,97,103]⟩,.string Ho] 162)) w9.heap.size 162 (bZ qN):=Row.new w9 _ _
  have:=hr.dL (S:=d9) (k:=2) (off:=0) 1 1 (by decide) id (aA _) (by simp[maxLen])
  exact this
 obtain⟨w10,hw10⟩:∃x:World,Hid (w9.alloc (.cells #[.string ⟨#[69,84,97,103]⟩,.string Ho] 162)=x):=⟨_,af rfl⟩
 rw[hw10.out] at hb10 hn10 hI10
 rw[hhb.out] at hn10 hI10
 have hb11:=aC w10 (.cells #[.int .i64 204,.slice (some ⟨hb,0,none⟩) 1 1,.string ⟨#[]⟩,.bool false,.bool false] 81)
 have hn11:=aF w10 (.cells #[.int .i64 204,.slice (some ⟨hb,0,none⟩) 1 1,.string ⟨#[]⟩,.bool false,.bool false] 81)
 obtain⟨w11,hw11⟩:∃x:World,Hid (w10.alloc (.cells #[.int .i64 204,.slice (some ⟨hb,0,none⟩) 1 1,.string ⟨#[]⟩,.bool false,.bool false] 81)=x):=⟨_,af rfl⟩
 rw[hw11.out] at hb11 hn11
 have hsz10:w10.heap.size=hb+1:=by rw[<-hw10.out,<-hhb.out];simp
 obtain⟨xb,hxb⟩:∃x:Nat,Hid (hb+1=x):=⟨_,af rfl⟩
 rw[hsz10,hxb.out] at hn11
 have hb711:=hb89.trans ((hb10.trans (hb11.mono hb10.size)).mono hb89.size)
 have lx:=(ah.1 hn11).1
 have f0:w11.frozen? ⟨xb,0,none⟩=false:=by simp[World.frozen?,hn11]
 have c0:w11.cell? ⟨xb,0,none⟩=some (.int .i64 204):=by simp[World.cell?,hn11]
 have HX11:=af (ak hb711 (ak hn11 (ak (aW.below hI10 hb11:jP w11 _ qN) (ak hb89 hb10))))
 clear hb8 hb9 hb89 hb10 hn10 hI10 hb11 hn11 hb711 c7 lj
 go_upto_region 9 with (fail)
 rw[hw10.out,hhb.out,hw11.out,hxb.out]
 have hk12:Keep (· =xb) w11 (w11.setCell ⟨xb,0,none⟩ (.int .i64 201)):=(Keep.refl (· =xb) w11).setCell (p:=⟨xb,0,none⟩) (.inr rfl) _
 have hn12:(w11.setCell ⟨xb,0,none⟩ (.int .i64 201)).heap[xb]? =some (.cells #[.int .i64 201,.slice (some ⟨hb,0,none⟩) 1 1,.string ⟨#[]⟩,.bool false,.bool false] 81 (0,0)):=by
  have:=HX11.out.2.1
  simp[World.setCell,aJ,this]
 obtain⟨w12,hw12⟩:∃x:World,Hid (w11.setCell ⟨xb,0,none⟩ (.int .i64 201)=x):=⟨_,af rfl⟩
 rw[hw12.out] at hk12 hn12
 go_upto_region 11 with (fail)
 rw[hw12.out]
 have hl7:rb<w7.heap.size:=ax HX7.out.2.2.1 HX7.out.2.1.size
 have hw911:w7.heap.size<=hb:=by rw[<-hhb.out];exact HX11.out.2.2.2.1.size
 have hne:rb<hb/\hb+1=xb/\w.heap.size=rb:=⟨by omega,hxb.out,hrb.out⟩
 have hR12:Row w12 rb 81 [.int .i64 0,.slice none 0 0,.string ⟨#[]⟩,.bool false,.bool false]:=by
  have r6:w6.drew.heap[rb]? =some (.cells #[.int .i64 0,.slice none 0 0,.string ⟨#[]⟩,.bool false,.bool false] 81 (0,0)):=by
   have q:=HA.out.2.2.2.2.2.2.2.1
   have l1:=(ah.1 q).1
   have q3:=(HB3.out.2.2.block rb (ax l1 HB3.out.2.1.size)).trans ((HB3.out.2.1.block rb l1).trans q)
   have l3:=(ah.1 q3).1
   have q4:=(HB4.out.2.1.block rb l3).trans q3
   have l4:=(ah.1 q4).1
   have q5:=(HB4.out.2.2.block rb l4).trans q4
   have l5:=(ah.1 q5).1
   exact(HB6.out.2.block rb l5).trans q5
  have r7:=(HX7.out.2.1.block rb HX7.out.2.2.1 (fun e=>e (.inr ⟨by omega,HX7.out.2.2.1⟩))).trans r6
  have r11:=(HX11.out.1.block rb hl7).trans r7
  exact(hk12.block rb (ah.1 r11).1 (fun e=>by have e:rb=xb:=e;omega)).trans r11
 obtain⟨c0,c1,c2,c3,c4,lx⟩:=kL.cells (w:=w12) (xb:=xb) hn12
 have HX12:=af (ak hk12 (ak hne (ak hw911 hl7)))
 clear hk12 hn12 hne hw911 hl7
 go_wp2_with (first
  |((refine bU rfl ?_);intro K hK;(refine wp_store_row 81 (.tmp 2) (.tmp 68) rfl rb 0 81 _ [.int .i64 201,.slice (some ⟨hb,0,none⟩) 1 1,.string ⟨#[]⟩,.bool false,.bool false] rfl rfl hR12 mI (aA 5) (by intro v hv;simp only[aX,cK,iL] at hv;rcases hv with rfl|rfl|rfl|rfl|rfl<;>rfl) ?_);intro w13 hr13 hk13;refine hK _ _ ?_))
 have hn13:kL w13 rb (.slice (some ⟨hb,0,none⟩) 1 1) ⟨#[]⟩ false false:=hr13
 obtain⟨d0,d1,d2,d3,d4,_⟩:=hn13.cells
 refine eX (by simp[results,Tryz.results175,go_sem,d0,d1,d2,d3,d4];rfl) rfl ?_
 have hk1113:Keep (fun g=>g=xb\/g=rb) w11 w13:=(HX12.out.1.mono (fun _ _ e=> .inl e)).trans hk13 (fun _ _ e=> .inr e)
 have hlx:=(ah.1 HX11.out.2.1).1
 refine⟨_,rfl,?_,?_,?_,?_⟩
 ·have r11:=HX7.out.1.next HX11.out.1
  have r13:=r11.keep hk1113 (fun g e=>e.elim (fun e=> .inr ⟨by have e:g=xb:=e;have:=HX12.out.2;omega,by have e:g=xb:=e;omega⟩) (fun e=> .inl (.inr ⟨by have e:g=rb:=e;have:=HX12.out.2;omega,by have e:g=rb:=e;rw[e];exact HX7.out.2.2.1⟩))) (fun e=>by
   have lx:=HA.out.1.lt
   have hx:((p.add w w6.drew).add w7 w11).x=p.x:=rfl
   rw[hx] at e
   have:=HX12.out.2
   rcases e with e|e<;>omega)
  exact⟨((p.add w w6.drew).add w7 w11).F,r13,fun g e=> .inl (.inl e),fun b hb'=>by
   have h2:hb=b:=fU hb'
   exact .inr ⟨by have:=HX12.out.2;omega,by have:=HX12.out.2;omega⟩⟩
 ·exact aW.keep HX11.out.2.2.1 fun b hb' hl hs=>⟨hk1113.block b hl (fun e=>by have h1:=HX12.out.2;have h2:hb=b:=fU hb';have e:b=xb\/b=rb:=e;omega),hs⟩
 ·intro b hb'
  have h2:hb=b:=fU hb'
  have:=HX12.out.2
  omega
 ·have k7:Keep (fun g=>¬p.F g\/w.heap.size<=g) w6.drew w7:=HX7.out.2.1.mono (fun g _ e=> .inl fun x=>e (.inl x))
  have k11:=k7.trans (Keep.of_below HX11.out.1 (fun g=>¬p.F g\/w.heap.size<=g)) (fun _ _ e=>e)
  have k13:=k11.trans hk1113 (fun g _ e=> .inr (by have:=HX12.out.2;have e:g=xb\/g=rb:=e;omega))
  exact(Keep.of_below HX7.out.2.2.2.1 (fun g=>¬p.F g)).trans k13 (fun g hg e=>e.elim id (fun e=>absurd hg (aV.2 e)))
end Go.Proofs.YtpmbddooibgnaaaGreatDoor
