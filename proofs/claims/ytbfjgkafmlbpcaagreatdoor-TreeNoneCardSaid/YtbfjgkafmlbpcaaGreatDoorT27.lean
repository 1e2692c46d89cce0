/- parts -/
import Derived.Test.YtbfjgkafmlbpcaaGreatDoorT26
set_option maxRecDepth 100000
set_option maxHeartbeats 8000000
set_option linter.all false
namespace Go.Proofs.YtbfjgkafmlbpcaaGreatDoor
open Go.RowKit
structure qd (x bb tb pb mb:Nat)(body:ByteArray)(pv:Value)(made:Bool)(w:World):Prop where
 body:w.heap[bb]? =some (.cells #[.string body] 9 (0,0))
 tree:w.heap[tb]? =some (.cells #[.pointer (some ⟨x,0,none⟩)] 32 (0,0))
 path:w.heap[pb]? =some (.cells #[pv] 22 (0,0))
 made:w.heap[mb]? =some (.cells #[.bool made] 4 (0,0))
section
variable {x bb tb pb mb:Nat} {body:ByteArray} {pv:Value} {made:Bool} {w w':World} {M F:Nat->Prop}
theorem qd.keep (h:qd x bb tb pb mb body pv made w)(hk:Keep M w w')(h1:¬M bb)(h2:¬M tb)(h3:¬M pb)(h4:¬M mb):qd x bb tb pb mb body pv made w':=
 ⟨(hk.block _ (ah.1 h.body).1 h1).trans h.body,(hk.block _ (ah.1 h.tree).1 h2).trans h.tree,(hk.block _ (ah.1 h.path).1 h3).trans h.path,(hk.block _ (ah.1 h.made).1 h4).trans h.made⟩
theorem qd.below (h:qd x bb tb pb mb body pv made w)(hb:Below w.heap.size w w'):qd x bb tb pb mb body pv made w':=h.keep (Keep.of_below hb (fun _=>False)) id id id id
theorem qd.stay (h:qd x bb tb pb mb body pv made w)(hk:Keep (fun g=>¬F g) w w')(hF:F bb/\F tb/\F pb/\F mb):qd x bb tb pb mb body pv made w':=h.keep hk (fun e=>e hF.1) (fun e=>e hF.2.1) (fun e=>e hF.2.2.1) (fun e=>e hF.2.2.2)
theorem qd.cells (h:qd x bb tb pb mb body pv made w):w.cell? ⟨bb,0,none⟩=some (.string body)/\w.cell? ⟨tb,0,none⟩=some (.pointer (some ⟨x,0,none⟩))/\w.cell? ⟨pb,0,none⟩=some pv/\w.cell? ⟨mb,0,none⟩=some (.bool made)/\w.frozen? ⟨mb,0,none⟩=false/\bb<w.heap.size/\tb<w.heap.size/\pb<w.heap.size/\mb<w.heap.size:=by
 obtain⟨h1,h2,h3,h4⟩:=h
 exact⟨by simp[World.cell?,h1],by simp[World.cell?,h2],by simp[World.cell?,h3],by simp[World.cell?,h4],by simp[World.frozen?,h4],(ah.1 h1).1,(ah.1 h2).1,(ah.1 h3).1,(ah.1 h4).1⟩
theorem qd.set (h:qd x bb tb pb mb body pv made w)(hne:mb≠bb/\mb≠tb/\mb≠pb)(b:Bool):qd x bb tb pb mb body pv b (w.setCell ⟨mb,0,none⟩ (.bool b))/\Keep (· =mb) w (w.setCell ⟨mb,0,none⟩ (.bool b)):=by
 have hk:Keep (· =mb) w (w.setCell ⟨mb,0,none⟩ (.bool b)):=(Keep.refl (· =mb) _).setCell (p:=⟨mb,0,none⟩) (.inr rfl) _
 exact⟨⟨(hk.block _ (ah.1 h.body).1 (fun e=>hne.1 e.symm)).trans h.body,(hk.block _ (ah.1 h.tree).1 (fun e=>hne.2.1 e.symm)).trans h.tree,(hk.block _ (ah.1 h.path).1 (fun e=>hne.2.2 e.symm)).trans h.path,by simp[World.setCell,aS,h.made]⟩,hk⟩
end
def sZ (kv:List Pr)(i:ByteArray)(e:Int)(body:ByteArray):List Pr:=jT (jT (jT kv ⟨#[101]⟩ (strOf (ku e))) (uT i) (vO 1 e)) (rQ i) body
def tq (kv:List Pr)(s:ByteArray):List Pr:=jT (jT kv ⟨#[105]⟩ (strOf (ku 1))) (tT nR.i s) id1
theorem TP.rm.le {p:TP}{kv:List Pr}{k:Nat}(h:p.rm kv k):kv.length<=4090:=by have:=h.1;omega
theorem om (n:Int):(strOf (ku n)).size<=63:=by rw[oh,gD];omega
section
variable {p:TP} {kv:List Pr} {w:World}
theorem Ib (bb tb pb mb:Nat)(body:ByteArray)(pv:Value)(path:List ByteArray)(S:Nat->Prop)(i:ByteArray)(e n:Int)(h:RT p kv w)(hc:qd p.x bb tb pb mb body pv false w)(hF:p.F bb/\p.F tb/\p.F pb/\p.F mb)(hne:(mb≠bb/\mb≠tb/\mb≠pb)/\p.x≠mb)
  (hp:nG w S pv path) (hf:nH kv path nR ⟨i,1,e⟩) (hi:i.size<=4) (hct:Tg kv ⟨#[101]⟩ n) (hr:p.rm kv 3) (hb:body.size<=63):
  Calls Tryz.prog 30 #[.pointer (some ⟨bb,0,none⟩),.pointer (some ⟨tb,0,none⟩),.pointer (some ⟨pb,0,none⟩),.pointer (some ⟨mb,0,none⟩)] w fun ex w'=>ex= .returned (.tuple #[])/\RT p (sZ kv i (n+1) body) w'/\Keep (fun g=>¬p.F g\/g=mb) w w'/\qd p.x bb tb pb mb body pv false w':=by
 obtain⟨po,pc,rfl,_,_,_,_⟩:=je.form hp
 obtain⟨c0,c1,c2,c3,f3,l0,l1,l2,l3⟩:=hc.cells
 have hbs:¬(8192:Int)<(body.size:Int):=by omega
 have HFD:=af (h.find _ path S hp ⟨i,1,e⟩ hr.le hf)
 have HA:=af (ay h (ay hc (ay hF hne)))
 have HI:=af (ay hi hb)
 have HL0:=af (ay hct hr)
 clear h hc hF hne hp hf hi hct hr hb
 unfold sZ
 go_enter Tryz.func30,Tryz.ntmps30
 go_wp2_with (first
  |(go_at_call 27;go_must (refine(og _ _).mono ?_;rintro ex w1 ⟨rfl,hw1⟩;subst w1))
  |(go_at_call 24;go_must (refine HFD.out.mono ?_;rintro ex w1 ⟨rfl,hb1⟩;refine Stop.of ?_)))
 refine Stop.on ?_
 have hb2:=aF w1 (.cells #[.string i,.int .i64 1,.int .i64 e] 71)
 have hn2:=aK w1 (.cells #[.string i,.int .i64 1,.int .i64 e] 71)
 obtain⟨w2,hw2⟩:∃w2:World,Hid (w1.alloc (.cells #[.string i,.int .i64 1,.int .i64 e] 71)=w2):=⟨_,af rfl⟩
 rw[hw2.out] at hb2 hn2
 obtain⟨nb,hnb⟩:∃nb:Nat,Hid (w1.heap.size=nb):=⟨_,af rfl⟩
 have hb12:=hb1.trans (hb2.mono hb1.size)
 have HLO:=af (show w.heap.size<=nb by have:=hb1.size;have:=hnb.out;omega)
 rw[hnb.out] at hn2
 have hc2:=HA.out.2.1.below hb12
 have HX2:=af (ay hb12 (ay hc2 hn2))
 clear c0 c1 c2 c3 f3 l0 l1 l2 l3 hb1 hb2 hb12
 obtain⟨c0,c1,c2,c3,f3,l0,l1,l2,l3⟩:=hc2.cells
 obtain⟨d0,d1,d2,g0,g1,g2,ln⟩:=iD (n:=⟨i,1,e⟩) hn2
 dsimp only at d0 d1 d2
 clear hc2 hn2
 go_upto_region 2 with (fail)
 rw[hw2.out,hnb.out]
 go_upto_region 9 with (first
  |(go_at_call 27;go_must (refine(og _ _).mono ?_;rintro ex w3 ⟨rfl,hw3⟩;subst w3)))
 obtain⟨hc3,hk23⟩:=HX2.out.2.1.set HA.out.2.2.2.1 false
 obtain⟨w3,hw3⟩:∃w3:World,Hid (w2.setCell ⟨mb,0,none⟩ (.bool false)=w3):=⟨_,af rfl⟩
 rw[hw3.out] at hc3 hk23 ⊢
 have hk3:Keep (fun g=>¬p.F g\/g=mb) w w3:=(Keep.of_below HX2.out.1 (fun g=>¬p.F g\/g=mb)).trans hk23 (fun _ _ e=> .inr e)
 have hkm:Keep (· =mb) w w3:=(Keep.of_below HX2.out.1 (· =mb)).trans hk23 (fun _ _ e=>e)
 have hnmb:nb≠mb:=fun e=>absurd (ah.1 HA.out.2.1.made).1 (by have:=HLO.out;omega)
 have hn3:Row w3 nb 71 (ND.row ⟨i,1,e⟩):=Row.keep (M:=(· =mb)) HX2.out.2.2 hk23 hnmb
 have hT3:=HA.out.1.Jt hkm (fun g e=>by rw[show g=mb from e];exact HA.out.2.2.1.2.2.2) HA.out.2.2.2.2
 have hrm3:(p.add w w3).rm kv 3:=HL0.out.2
 have hNF:(p.add w w3).F nb:= .inr ⟨HLO.out,by have:=hn3.lt;omega⟩
 have hx1:(p.add w w3).x=p.x:=rfl
 have HSUB:=af (show ∀g,p.F g->(p.add w w3).F g from fun g e=> .inl e)
 obtain⟨p1,hp1⟩:∃p1,Hid (p.add w w3=p1):=⟨_,af rfl⟩
 rw[hp1.out] at hT3 hrm3 hNF hx1 HSUB
 have HF1:=af (show p1.F bb/\p1.F tb/\p1.F pb/\p1.F mb from⟨HSUB.out _ HA.out.2.2.1.1,HSUB.out _ HA.out.2.2.1.2.1,HSUB.out _ HA.out.2.2.1.2.2.1,HSUB.out _ HA.out.2.2.1.2.2.2⟩)
 have hne9:∀(b:Nat) (o:Obj),w.heap[b]? =some o->¬b=nb:=fun b o e x=>absurd (ah.1 e).1 (by have:=HLO.out;omega)
 have HN:=af (show p1.F nb/\¬p1.x=nb/\¬bb=nb/\¬tb=nb/\¬pb=nb/\¬mb=nb from⟨hNF,by rw[hx1];exact hne9 _ _ HA.out.1.obj,hne9 _ _ HA.out.2.1.body,hne9 _ _ HA.out.2.1.tree,hne9 _ _ HA.out.2.1.path,hne9 _ _ HA.out.2.1.made⟩)
 have HL:=af (ay HL0.out.1 hrm3)
 clear c0 c1 c2 c3 f3 l0 l1 l2 l3 d0 d1 d2 g0 g1 g2 ln hk23 hkm hnmb hrm3 hNF hne9
 obtain⟨c0,c1,c2,c3,f3,l0,l1,l2,l3⟩:=hc3.cells
 obtain⟨d0,d1,d2,g0,g1,g2,ln⟩:=iD hn3
 have hct3:=hT3.count ⟨#[101]⟩ n HL.out.2.le ⟨by decide,by decide⟩ HL.out.1 (TP.rm.room HL.out.2 (om _))
 rw[hx1] at hct3
 have HCT:=af hct3
 have HY:=af (ay hc3 (ay hn3 (ay hk3 hx1)))
 have HR:=af (HL.out.2.ins (om (n+1)) ⟨#[101]⟩)
 clear hct3 hT3 hc3 hn3 hk3 hx1
 go_wp2_with (first
  |(go_at_call 35;go_must (refine HCT.out.mono ?_;rintro ex w4 ⟨rfl,hT4,hk4⟩;refine Stop.of ?_)))
 refine Stop.on ?_
 have hc4:=HY.out.1.stay hk4 HF1.out
 have hn4:Row w4 nb 71 (ND.row ⟨i,1,e⟩):=HY.out.2.1.keep hk4 (fun e=>e HN.out.1)
 have hk14:Keep (fun g=>¬p.F g\/g=mb) w w4:=HY.out.2.2.1.trans hk4 (fun g _ e=> .inl fun x=>e (HSUB.out g x))
 clear c0 c1 c2 c3 f3 l0 l1 l2 l3 d0 d1 d2 g0 g1 g2 ln
 obtain⟨d0,d1,d2,g0,g1,g2,ln⟩:=iD hn4
 obtain⟨w5,hw5⟩:∃w5:World,Hid (w4.setCell ⟨nb,2,none⟩ (.int .i64 (n+1))=w5):=⟨_,af rfl⟩
 have hk5:Keep (· =nb) w4 w5:=by rw[<-hw5.out];exact(Keep.refl (· =nb) _).setCell (p:=⟨nb,2,none⟩) (.inr rfl) _
 have hn5:Row w5 nb 71 (ND.row ⟨i,1,n+1⟩):=by rw[<-hw5.out];exact hn4.setCell 2 _
 have hc5:=hc4.keep hk5 HN.out.2.2.1 HN.out.2.2.2.1 HN.out.2.2.2.2.1 HN.out.2.2.2.2.2
 have hT5:=hT4.keep hk5 (fun g e=>by rw[show g=nb from e];exact HN.out.1) HN.out.2.1
 have hk15:Keep (fun g=>¬p.F g\/g=mb) w w5:=hk14.trans hk5 (fun g hg e=>absurd hg (by have e:g=nb:=e;have:=HLO.out;omega))
 have hs5:=hT5.save i 1 (n+1) (by have:=HI.out.1;omega) (HR.out.room (by rw[o6];omega))
 rw[HY.out.2.2.2] at hs5
 have HS5:=af hs5
 have HX5:=af (ay hc5 (ay hn5 hk15))
 have HR5:=af (HR.out.ins (value:=vO 1 (n+1)) (by rw[o6];omega) (uT i))
 obtain⟨c0,c1,c2,c3,f3,l0,l1,l2,l3⟩:=hc4.cells
 clear hT4 hk4 hc4 hn4 hk14 hk5 hc5 hT5 hk15 hs5
 go_upto_region 10 with (fail)
 rw[hw5.out]
 clear c0 c1 c2 c3 f3 l0 l1 l2 l3 d0 d1 d2 g0 g1 g2 ln
 obtain⟨c0,c1,c2,c3,f3,l0,l1,l2,l3⟩:=HX5.out.1.cells
 obtain⟨d0,d1,d2,g0,g1,g2,ln⟩:=iD hn5
 clear hn5
 go_wp2_with (first
  |(go_at_call 36;go_must (refine HS5.out.mono ?_;rintro ex w6 ⟨rfl,hT6,hk6⟩;refine Stop.of ?_)))
 refine Stop.on ?_
 have hc6:=HX5.out.1.stay hk6 HF1.out
 have hn6:=HX5.out.2.1.keep hk6 (fun e=>e HN.out.1)
 have hk16:Keep (fun g=>¬p.F g\/g=mb) w w6:=HX5.out.2.2.trans hk6 (fun g _ e=> .inl fun x=>e (HSUB.out g x))
 have hks:(rQ i).size=i.size+1:=yN i
 have hadd:∀W:World,(Op.stringOp .add (⟨#[98]⟩:ByteArray) i).run Tryz.prog W= .ok (.string (rQ i)) W:=fun W=>iH W _ _ (by show ((1:Nat):Int)<=_;omega) (by have:=HI.out.1;omega)
 have hp6:=hT6.put (rQ i) body (by have:=HI.out.1;omega) (by have:=HI.out.2;omega) (HR5.out.room HI.out.2)
 rw[HY.out.2.2.2] at hp6
 have HP6:=af hp6
 have HX6:=af (ay hc6 hk16)
 clear c0 c1 c2 c3 f3 l0 l1 l2 l3 d0 d1 d2 g0 g1 g2 ln
 obtain⟨c0,c1,c2,c3,f3,l0,l1,l2,l3⟩:=hc6.cells
 obtain⟨d0,d1,d2,g0,g1,g2,ln⟩:=iD hn6
 obtain⟨ky,hky⟩:∃ky,Hid (rQ i=ky):=⟨_,af rfl⟩
 rw[hky.out] at hadd HP6
 clear hT6 hk6 hc6 hn6 hk16 hks hp6
 go_wp2_with (first
  |(go_at_call 34;go_must (refine HP6.out.mono ?_;rintro ex w7 ⟨rfl,hT7,hk7⟩)))
 go_end0
 rw[<-hky.out,<-hp1.out] at hT7
 refine⟨rfl,RT.sub hT7 (fun _ e=> .inl e) HA.out.1.fb,HX6.out.2.trans hk7 (fun g _ e=> .inl fun x=>e (HSUB.out g x)),HX6.out.1.stay hk7 HF1.out⟩
theorem ML (bb tb pb mb:Nat)(body:ByteArray)(pv:Value)(s:ByteArray)(S:Nat->Prop)(h:RT p [] w)(hc:qd p.x bb tb pb mb body pv false w)(hF:p.F bb/\p.F tb/\p.F pb/\p.F mb)(hne:(mb≠bb/\mb≠tb/\mb≠pb)/\p.x≠mb)
  (hp:nG w S pv [s]) (hS:S mb) (hs:s.size<=64) (hlk:dG (tq [] s) ⟨#[101]⟩=none) (hr:p.rm [] 5) (hb:body.size<=63):
  Calls Tryz.prog 30 #[.pointer (some ⟨bb,0,none⟩),.pointer (some ⟨tb,0,none⟩),.pointer (some ⟨pb,0,none⟩),.pointer (some ⟨mb,0,none⟩)] w fun ex w'=>ex= .returned (.tuple #[])/\RT p (sZ (tq [] s) id1 1 body) w'/\Keep (fun g=>¬p.F g\/g=mb) w w'/\qd p.x bb tb pb mb body pv true w':=by
 obtain⟨po,pc,hpv,_,_,_,_⟩:=je.form hp
 have hpv:pv= .slice po 1 pc:=hpv
 subst hpv
 obtain⟨c0,c1,c2,c3,f3,l0,l1,l2,l3⟩:=hc.cells
 have hbs:¬(8192:Int)<(body.size:Int):=by omega
 have HFD:=af (h.find _ [s] S hp nd0 hr.le ⟨hs,.inl ⟨rfl,rfl⟩⟩)
 have HA:=af (ay h (ay hc (ay hF (ay hne hp))))
 have HI:=af (ay (show id1.size<=4 by decide) hb)
 have HL0:=af (ay hlk hr)
 have HS64:=af hs
 have HSM:=af hS
 clear h hc hF hne hp hS hs hlk hr hb
 unfold sZ
 unfold nd0 at HFD
 dsimp only at HFD
 go_enter Tryz.func30,Tryz.ntmps30
 go_wp2_with (first
  |(go_at_call 27;go_must (refine(og _ _).mono ?_;rintro ex w1 ⟨rfl,hw1⟩;subst w1))
  |(go_at_call 24;go_must (refine HFD.out.mono ?_;rintro ex w1 ⟨rfl,hb1⟩;refine Stop.of ?_)))
 refine Stop.on ?_
 have hb2:=aF w1 (.cells #[.string ⟨#[]⟩,.int .i64 0,.int .i64 0] 71)
 have hn2:=aK w1 (.cells #[.string ⟨#[]⟩,.int .i64 0,.int .i64 0] 71)
 obtain⟨w2,hw2⟩:∃w2:World,Hid (w1.alloc (.cells #[.string ⟨#[]⟩,.int .i64 0,.int .i64 0] 71)=w2):=⟨_,af rfl⟩
 rw[hw2.out] at hb2 hn2
 obtain⟨nb,hnb⟩:∃nb:Nat,Hid (w1.heap.size=nb):=⟨_,af rfl⟩
 have hb12:=hb1.trans (hb2.mono hb1.size)
 have HLO:=af (show w.heap.size<=nb by have:=hb1.size;have:=hnb.out;omega)
 rw[hnb.out] at hn2
 have hc2:=HA.out.2.1.below hb12
 have HX2:=af (ay hb12 (ay hc2 hn2))
 clear c0 c1 c2 c3 f3 l0 l1 l2 l3 hb1 hb2 hb12
 obtain⟨c0,c1,c2,c3,f3,l0,l1,l2,l3⟩:=hc2.cells
 obtain⟨d0,d1,d2,g0,g1,g2,ln⟩:=iD (n:=nd0) hn2
 unfold nd0 at d0 d1 d2
 dsimp only at d0 d1 d2
 clear hc2 hn2
 go_upto_region 2 with (fail)
 rw[hw2.out,hnb.out]
 go_upto_region 4 with (first
  |(go_at_call 27;go_must (refine(og _ _).mono ?_;rintro ex w3 ⟨rfl,hw3⟩;subst w3)))
 obtain⟨hc3,hk23⟩:=HX2.out.2.1.set HA.out.2.2.2.1.1 true
 obtain⟨w3,hw3⟩:∃w3:World,Hid (w2.setCell ⟨mb,0,none⟩ (.bool true)=w3):=⟨_,af rfl⟩
 rw[hw3.out] at hc3 hk23 ⊢
 have hkm:Keep (· =mb) w w3:=(Keep.of_below HX2.out.1 (· =mb)).trans hk23 (fun _ _ e=>e)
 have hnmb:nb≠mb:=fun e=>absurd (ah.1 HA.out.2.1.made).1 (by have:=HLO.out;omega)
 have hn3:Row w3 nb 71 nd0.row:=Row.keep (M:=(· =mb)) HX2.out.2.2 hk23 hnmb
 have hT3:=HA.out.1.keep hkm (fun g e=>by rw[show g=mb from e];exact HA.out.2.2.1.2.2.2) HA.out.2.2.2.1.2
 have hp3:nG w3 S (.slice po 1 pc) [s]:=je.keep HA.out.2.2.2.2 fun g _ hl hn=>⟨hkm.block g hl (fun e=>hn (by rw[show g=mb from e];exact HSM.out)),hn⟩
 have hpl:=hT3.QR po s pc _ hp3
 have HPL:=af hpl
 have HX3:=af (ay hc3 (ay hn3 (ay hkm hp3)))
 clear c0 c1 c2 c3 f3 l0 l1 l2 l3 d0 d1 d2 g0 g1 g2 ln hk23 hkm hnmb hT3 hn3 hp3 hpl
 obtain⟨c0,c1,c2,c3,f3,l0,l1,l2,l3⟩:=hc3.cells
 clear hc3
 go_wp2_with (first
  |(go_at_call 31;go_must (refine HPL.out.mono ?_;rintro ex w4 ⟨rfl,hb4⟩;refine Stop.of ?_)))
 refine Stop.on ?_
 have hb5:=aF w4 (.cells #[.string ⟨#[0,0,0,0]⟩,.int .i64 2,.int .i64 0] 71)
 have hn5:=aK w4 (.cells #[.string ⟨#[0,0,0,0]⟩,.int .i64 2,.int .i64 0] 71)
 obtain⟨w5,hw5⟩:∃w5:World,Hid (w4.alloc (.cells #[.string ⟨#[0,0,0,0]⟩,.int .i64 2,.int .i64 0] 71)=w5):=⟨_,af rfl⟩
 rw[hw5.out] at hb5 hn5
 obtain⟨qb,hqb⟩:∃qb:Nat,Hid (w4.heap.size=qb):=⟨_,af rfl⟩
 have hb35:=hb4.trans (hb5.mono hb4.size)
 have hqlo:w3.heap.size<=qb:=by have:=hb4.size;have:=hqb.out;omega
 have hnlt:=HX3.out.2.1.lt
 have hqn:¬nb=qb:=by omega
 rw[hqb.out] at hn5
 have hc5:=HX3.out.1.below hb35
 have hn5b:Row w5 nb 71 nd0.row:=Row.keep (M:=fun _=>False) HX3.out.2.1 (Keep.of_below hb35 _) id
 have hsp:=GU po [s] pc S w5 (je.below HX3.out.2.2.2 hb35) (by simp)
 have HSP:=af hsp
 have hkm5:=HX3.out.2.2.1.trans (Keep.of_below hb35 (fun _=>False)) (fun _ _ e=>e.elim)
 have HX5:=af (ay hc5 (ay hn5b (ay hkm5 (ay hn5 hqn))))
 have HQLO:=af (show w.heap.size<=qb from aI HX3.out.2.2.1.size hqlo)
 clear c0 c1 c2 c3 f3 l0 l1 l2 l3 hb4 hb5 hb35 hqlo hnlt hqn hn5b hsp hkm5
 obtain⟨c0,c1,c2,c3,f3,l0,l1,l2,l3⟩:=hc5.cells
 clear hc5 hn5
 go_upto_region 6 with (fail)
 rw[hw5.out,hqb.out]
 go_wp2_with (first
  |(go_at_call 32;go_must (refine HSP.out.mono ?_;rintro ex w6 ⟨rfl,hb6⟩;refine Stop.of ?_)))
 refine Stop.on ?_
 have hc6:=HX5.out.1.below hb6
 have hn6:Row w6 nb 71 nd0.row:=Row.keep (M:=fun _=>False) HX5.out.2.1 (Keep.of_below hb6 _) id
 have hq6:Row w6 qb 71 nR.row:=Row.keep (M:=fun _=>False) (cur:=nR.row) HX5.out.2.2.2.1 (Keep.of_below hb6 _) id
 have hkm6:=HX5.out.2.2.1.trans (Keep.of_below hb6 (fun _=>False)) (fun _ _ e=>e.elim)
 have hT6:=HA.out.1.Jt hkm6 (fun g e=>by rw[show g=mb from e];exact HA.out.2.2.1.2.2.2) HA.out.2.2.2.1.2
 have hrm6:(p.add w w6).rm [] 5:=HL0.out.2
 have hNF:(p.add w w6).F nb:= .inr ⟨HLO.out,by have:=hn6.lt;omega⟩
 have hQF:(p.add w w6).F qb:= .inr ⟨HQLO.out,by have:=hq6.lt;omega⟩
 have hx1:(p.add w w6).x=p.x:=rfl
 have HSUB:=af (show ∀g,p.F g->(p.add w w6).F g from fun g e=> .inl e)
 obtain⟨p1,hp1⟩:∃p1,Hid (p.add w w6=p1):=⟨_,af rfl⟩
 rw[hp1.out] at hT6 hrm6 hNF hQF hx1 HSUB
 have HF1:=af (show p1.F bb/\p1.F tb/\p1.F pb/\p1.F mb from⟨HSUB.out _ HA.out.2.2.1.1,HSUB.out _ HA.out.2.2.1.2.1,HSUB.out _ HA.out.2.2.1.2.2.1,HSUB.out _ HA.out.2.2.1.2.2.2⟩)
 have hne9:∀(b:Nat) (o:Obj),w.heap[b]? =some o->¬b=nb:=fun b o e x=>absurd (ah.1 e).1 (by have:=HLO.out;omega)
 have HN:=af (show p1.F nb/\¬p1.x=nb/\¬bb=nb/\¬tb=nb/\¬pb=nb/\¬mb=nb from⟨hNF,by rw[hx1];exact hne9 _ _ HA.out.1.obj,hne9 _ _ HA.out.2.1.body,hne9 _ _ HA.out.2.1.tree,hne9 _ _ HA.out.2.1.path,hne9 _ _ HA.out.2.1.made⟩)
 have hfr:=hT6.Ri (by simp) rfl (hrm6.room (om 1))
 rw[hx1] at hfr
 have HFR:=af hfr
 have HQF:=af (ay hQF (ay HX5.out.2.2.2.2 hx1))
 have HR6:=af (hrm6.ins (om 1) ⟨#[105]⟩)
 have HX6:=af (ay hc6 (ay hn6 (ay hq6 hkm6)))
 clear c0 c1 c2 c3 f3 l0 l1 l2 l3 hb6 hn6 hq6 hkm6 hT6 hrm6 hNF hQF hx1 hne9 hfr
 obtain⟨c0,c1,c2,c3,f3,l0,l1,l2,l3⟩:=hc6.cells
 clear hc6
 go_wp2_with (first
  |(go_at_call 33;go_must (refine HFR.out.mono ?_;rintro ex w7 ⟨rfl,hT7,hk7⟩;refine Stop.of ?_)))
 refine Stop.on ?_
 have hc7:=HX6.out.1.stay hk7 HF1.out
 have hn7:=HX6.out.2.1.keep hk7 (fun e=>e HN.out.1)
 have hq7:=HX6.out.2.2.1.keep hk7 (fun e=>e HQF.out.1)
 have hk17:Keep (fun g=>¬p.F g\/g=mb) w w7:=(HX6.out.2.2.2.mono (fun _ _ e=> .inr e)).trans hk7 (fun g _ e=> .inl fun x=>e (HSUB.out g x))
 have HX7:=af (ay hc7 (ay hq7 (ay hk17 hT7)))
 clear c0 c1 c2 c3 f3 l0 l1 l2 l3 hk7 hc7 hq7 hk17 hT7
 go_wp2_with (first
  |((refine dh rfl ?_);intro K hK;(refine wp_store_row 71 (.tmp 4) (.tmp 33) rfl nb 0 71 _ (ND.row ⟨id1,1,0⟩) rfl rfl hn7 oW (ax 3) (ND.one ⟨id1,1,0⟩) ?_);intro w8 hn8 hk8;refine hK _ _ ?_;refine Stop.of ?_))
 refine Stop.on ?_
 have hc8:=HX7.out.1.keep hk8 HN.out.2.2.1 HN.out.2.2.2.1 HN.out.2.2.2.2.1 HN.out.2.2.2.2.2
 have hq8:=HX7.out.2.1.keep hk8 (fun e=>HQF.out.2.1 (Eq.symm e))
 have hk18:Keep (fun g=>¬p.F g\/g=mb) w w8:=HX7.out.2.2.1.trans hk8 (fun g hg e=>absurd hg (by have e:g=nb:=e;have:=HLO.out;omega))
 have hT8:=HX7.out.2.2.2.keep hk8 (fun g e=>by rw[show g=nb from e];exact HN.out.1) HN.out.2.1
 have hz1:(⟨#[99]⟩:ByteArray).size=1:=rfl
 have hz2:((⟨#[99]⟩:ByteArray)++⟨#[0,0,0,0]⟩).size=5:=by decide
 have ha1:∀W:World,(Op.stringOp .add (⟨#[99]⟩:ByteArray) ⟨#[0,0,0,0]⟩).run Tryz.prog W= .ok (.string (⟨#[99]⟩++⟨#[0,0,0,0]⟩)) W:=fun W=>iH W _ _ (by decide) (by decide)
 have ha2:∀W:World,(Op.stringOp .add ((⟨#[99]⟩:ByteArray)++⟨#[0,0,0,0]⟩) s).run Tryz.prog W= .ok (.string (tT nR.i s)) W:=fun W=>iH W _ _ (by rw[hz2];decide) (by have:=HS64.out;omega)
 have hks:(tT nR.i s).size=5+s.size:=by unfold tT nR;rw[nZ,hz2]
 have hp8:=hT8.put (tT nR.i s) id1 (by have:=HS64.out;omega) (by decide) (HR6.out.room (by decide))
 rw[HQF.out.2.2] at hp8
 have HP8:=af hp8
 have HX8:=af (ay hc8 (ay hn8 hk18))
 have HR8:=af (HR6.out.ins (value:=id1) (by decide) (tT nR.i s))
 obtain⟨c0,c1,c2,c3,f3,l0,l1,l2,l3⟩:=hc8.cells
 obtain⟨d0,d1,d2,g0,g1,g2,ln⟩:=iD hn8
 obtain⟨e0,e1,e2,h0,h1,h2,lq⟩:=iD hq8
 unfold nR at e0 e1 e2
 dsimp only at e0 e1 e2
 obtain⟨ky,hky⟩:∃ky,Hid (tT nR.i s=ky):=⟨_,af rfl⟩
 rw[hky.out] at ha2 HP8
 obtain⟨kc,hkc⟩:∃kc,Hid ((⟨#[99]⟩:ByteArray)++⟨#[0,0,0,0]⟩=kc):=⟨_,af rfl⟩
 rw[hkc.out] at ha1 ha2
 clear hc8 hn8 hq8 hk18 hk8 hT8 hz1 hz2 hks hp8
 go_wp2_with (first
  |(go_at_call 34;go_must (refine HP8.out.mono ?_;rintro ex w9 ⟨rfl,hT3,hk9⟩;refine Stop.of ?_)))
 refine Stop.on ?_
 have hc3:=HX8.out.1.stay hk9 HF1.out
 have hn3:Row w9 nb 71 (ND.row ⟨id1,1,0⟩):=HX8.out.2.1.keep hk9 (fun e=>e HN.out.1)
 have hk3:Keep (fun g=>¬p.F g\/g=mb) w w9:=HX8.out.2.2.trans hk9 (fun g _ e=> .inl fun x=>e (HSUB.out g x))
 have hx1:=HQF.out.2.2
 rw[<-hky.out] at hT3
 have hT3:RT p1 (tq [] s) w9:=hT3
 have hr3:p1.rm (tq [] s) 3:=HR8.out
 have hct0:Tg (tq [] s) ⟨#[101]⟩ 0:= .inl ⟨HL0.out.1,rfl⟩
 have HL:=af (ay hct0 hr3)
 clear c0 c1 c2 c3 f3 l0 l1 l2 l3 d0 d1 d2 g0 g1 g2 ln e0 e1 e2 h0 h1 h2 lq ha1 ha2 hk9 hr3 hct0
 obtain⟨c0,c1,c2,c3,f3,l0,l1,l2,l3⟩:=hc3.cells
 obtain⟨d0,d1,d2,g0,g1,g2,ln⟩:=iD hn3
 have hct3:=hT3.count ⟨#[101]⟩ 0 HL.out.2.le ⟨by decide,by decide⟩ HL.out.1 (TP.rm.room HL.out.2 (om _))
 rw[hx1,Int.zero_add] at hct3
 have HCT:=af hct3
 have HY:=af (ay hc3 (ay hn3 (ay hk3 hx1)))
 have HR:=af (HL.out.2.ins (om 1) ⟨#[101]⟩)
 clear hct3 hT3 hc3 hn3 hk3 hx1
 go_wp2_with (first
  |(go_at_call 35;go_must (refine HCT.out.mono ?_;rintro ex w4 ⟨rfl,hT4,hk4⟩;refine Stop.of ?_)))
 refine Stop.on ?_
 have hc4:=HY.out.1.stay hk4 HF1.out
 have hn4:Row w4 nb 71 (ND.row ⟨id1,1,0⟩):=HY.out.2.1.keep hk4 (fun e=>e HN.out.1)
 have hk14:Keep (fun g=>¬p.F g\/g=mb) w w4:=HY.out.2.2.1.trans hk4 (fun g _ e=> .inl fun x=>e (HSUB.out g x))
 clear c0 c1 c2 c3 f3 l0 l1 l2 l3 d0 d1 d2 g0 g1 g2 ln
 obtain⟨d0,d1,d2,g0,g1,g2,ln⟩:=iD hn4
 obtain⟨w5,hw5⟩:∃w5:World,Hid (w4.setCell ⟨nb,2,none⟩ (.int .i64 1)=w5):=⟨_,af rfl⟩
 have hk5:Keep (· =nb) w4 w5:=by rw[<-hw5.out];exact(Keep.refl (· =nb) _).setCell (p:=⟨nb,2,none⟩) (.inr rfl) _
 have hn5:Row w5 nb 71 (ND.row ⟨id1,1,1⟩):=by rw[<-hw5.out];exact hn4.setCell 2 _
 have hc5:=hc4.keep hk5 HN.out.2.2.1 HN.out.2.2.2.1 HN.out.2.2.2.2.1 HN.out.2.2.2.2.2
 have hT5:=hT4.keep hk5 (fun g e=>by rw[show g=nb from e];exact HN.out.1) HN.out.2.1
 have hk15:Keep (fun g=>¬p.F g\/g=mb) w w5:=hk14.trans hk5 (fun g hg e=>absurd hg (by have e:g=nb:=e;have:=HLO.out;omega))
 have hs5:=hT5.save id1 1 1 (by have:=HI.out.1;omega) (HR.out.room (by rw[o6];omega))
 rw[HY.out.2.2.2] at hs5
 have HS5:=af hs5
 have HX5:=af (ay hc5 (ay hn5 hk15))
 have HR5:=af (HR.out.ins (value:=vO 1 1) (by rw[o6];omega) (uT id1))
 obtain⟨c0,c1,c2,c3,f3,l0,l1,l2,l3⟩:=hc4.cells
 clear hT4 hk4 hc4 hn4 hk14 hk5 hc5 hT5 hk15 hs5
 go_upto_region 10 with (fail)
 rw[hw5.out]
 clear c0 c1 c2 c3 f3 l0 l1 l2 l3 d0 d1 d2 g0 g1 g2 ln
 obtain⟨c0,c1,c2,c3,f3,l0,l1,l2,l3⟩:=HX5.out.1.cells
 obtain⟨d0,d1,d2,g0,g1,g2,ln⟩:=iD hn5
 clear hn5
 go_wp2_with (first
  |(go_at_call 36;go_must (refine HS5.out.mono ?_;rintro ex w6 ⟨rfl,hT6,hk6⟩;refine Stop.of ?_)))
 refine Stop.on ?_
 have hc6:=HX5.out.1.stay hk6 HF1.out
 have hn6:=HX5.out.2.1.keep hk6 (fun e=>e HN.out.1)
 have hk16:Keep (fun g=>¬p.F g\/g=mb) w w6:=HX5.out.2.2.trans hk6 (fun g _ e=> .inl fun x=>e (HSUB.out g x))
 have hks:(rQ id1).size=id1.size+1:=yN id1
 have hadd:∀W:World,(Op.stringOp .add (⟨#[98]⟩:ByteArray) id1).run Tryz.prog W= .ok (.string (rQ id1)) W:=fun W=>iH W _ _ (by show ((1:Nat):Int)<=_;omega) (by have:=HI.out.1;omega)
 have hp6:=hT6.put (rQ id1) body (by have:=HI.out.1;omega) (by have:=HI.out.2;omega) (HR5.out.room HI.out.2)
 rw[HY.out.2.2.2] at hp6
 have HP6:=af hp6
 have HX6:=af (ay hc6 hk16)
 clear c0 c1 c2 c3 f3 l0 l1 l2 l3 d0 d1 d2 g0 g1 g2 ln
 obtain⟨c0,c1,c2,c3,f3,l0,l1,l2,l3⟩:=hc6.cells
 obtain⟨d0,d1,d2,g0,g1,g2,ln⟩:=iD hn6
 obtain⟨kz,hkz⟩:∃kz,Hid (rQ id1=kz):=⟨_,af rfl⟩
 rw[hkz.out] at hadd HP6
 clear hT6 hk6 hc6 hn6 hk16 hks hp6
 go_wp2_with (first
  |(go_at_call 34;go_must (refine HP6.out.mono ?_;rintro ex w7 ⟨rfl,hT7,hk7⟩)))
 go_end0
 rw[<-hkz.out,<-hp1.out] at hT7
 refine⟨rfl,RT.sub hT7 (fun _ e=> .inl e) HA.out.1.fb,HX6.out.2.trans hk7 (fun g _ e=> .inl fun x=>e (HSUB.out g x)),HX6.out.1.stay hk7 HF1.out⟩
end
section
variable {p:TP} {kv:List Pr} {w:World}
theorem OX (bb tb pb mb:Nat)(body:ByteArray)(pv:Value)(path:List ByteArray)(S:Nat->Prop)(h:RT p kv w)(hc:qd p.x bb tb pb mb body pv false w)(hF:p.F mb)(hne:(mb≠bb/\mb≠tb/\mb≠pb)/\p.x≠mb)
  (hp:nG w S pv path) (hS:S mb) (hl:kv.length<=4090) (hf:nH kv path nR nd0) (h0:path≠[]) (hf2:nH kv path.dropLast nR nd0) (hb:body.size<=63):
  Calls Tryz.prog 30 #[.pointer (some ⟨bb,0,none⟩),.pointer (some ⟨tb,0,none⟩),.pointer (some ⟨pb,0,none⟩),.pointer (some ⟨mb,0,none⟩)] w fun ex w'=>ex= .panicked (EK 61)/\Keep (· =mb) w w'/\qd p.x bb tb pb mb body pv true w':=by
 obtain⟨po,pc,rfl,_,_,_,_⟩:=je.form hp
 obtain⟨c0,c1,c2,c3,f3,l0,l1,l2,l3⟩:=hc.cells
 have hbs:¬(8192:Int)<(body.size:Int):=by omega
 have HFD:=af (h.find _ path S hp nd0 hl hf)
 have HA:=af (ay h (ay hc (ay hF (ay hne (ay hp hS)))))
 have HB:=af (ay hl hf2)
 clear h hc hF hne hp hS hl hf hf2 hb
 unfold nd0 at HFD
 dsimp only at HFD
 go_enter Tryz.func30,Tryz.ntmps30
 go_wp2_with (first
  |(go_at_call 27;go_must (refine(og _ _).mono ?_;rintro ex w1 ⟨rfl,hw1⟩;subst w1))
  |(go_at_call 24;go_must (refine HFD.out.mono ?_;rintro ex w1 ⟨rfl,hb1⟩;refine Stop.of ?_)))
 refine Stop.on ?_
 have hb2:=aF w1 (.cells #[.string ⟨#[]⟩,.int .i64 0,.int .i64 0] 71)
 have hn2:=aK w1 (.cells #[.string ⟨#[]⟩,.int .i64 0,.int .i64 0] 71)
 obtain⟨w2,hw2⟩:∃w2:World,Hid (w1.alloc (.cells #[.string ⟨#[]⟩,.int .i64 0,.int .i64 0] 71)=w2):=⟨_,af rfl⟩
 rw[hw2.out] at hb2 hn2
 obtain⟨nb,hnb⟩:∃nb:Nat,Hid (w1.heap.size=nb):=⟨_,af rfl⟩
 have hb12:=hb1.trans (hb2.mono hb1.size)
 rw[hnb.out] at hn2
 have hc2:=HA.out.2.1.below hb12
 have HX2:=af (ay hb12 hc2)
 clear c0 c1 c2 c3 f3 l0 l1 l2 l3 hb1 hb2 hb12
 obtain⟨c0,c1,c2,c3,f3,l0,l1,l2,l3⟩:=hc2.cells
 obtain⟨d0,d1,d2,g0,g1,g2,ln⟩:=iD (n:=nd0) hn2
 unfold nd0 at d0 d1 d2
 dsimp only at d0 d1 d2
 clear hc2 hn2
 go_upto_region 2 with (fail)
 rw[hw2.out,hnb.out]
 go_upto_region 4 with (first
  |(go_at_call 27;go_must (refine(og _ _).mono ?_;rintro ex w3 ⟨rfl,hw3⟩;subst w3)))
 obtain⟨hc3,hk23⟩:=HX2.out.2.set HA.out.2.2.2.1.1 true
 obtain⟨w3,hw3⟩:∃w3:World,Hid (w2.setCell ⟨mb,0,none⟩ (.bool true)=w3):=⟨_,af rfl⟩
 rw[hw3.out] at hc3 hk23 ⊢
 have hkm:Keep (· =mb) w w3:=(Keep.of_below HX2.out.1 (· =mb)).trans hk23 (fun _ _ e=>e)
 have hT3:=HA.out.1.keep hkm (fun g e=>by rw[show g=mb from e];exact HA.out.2.2.1) HA.out.2.2.2.1.2
 have hp3:nG w3 S (.slice po path.length pc) path:=je.keep HA.out.2.2.2.2.1 fun g _ hl hn=>⟨hkm.block g hl (fun e=>hn (by rw[show g=mb from e];exact HA.out.2.2.2.2.2)),hn⟩
 have hpl:=hT3.MO po path pc _ hp3 h0 HB.out.1 HB.out.2
 have HPL:=af hpl
 have HX3:=af (ay hc3 hkm)
 clear c0 c1 c2 c3 f3 l0 l1 l2 l3 d0 d1 d2 g0 g1 g2 ln hk23 hkm hT3 hp3 hpl
 obtain⟨c0,c1,c2,c3,f3,l0,l1,l2,l3⟩:=hc3.cells
 clear hc3
 go_wp2_with (first
  |(go_at_call 31;go_must (refine HPL.out.mono ?_;rintro ex w4 ⟨rfl,hb4⟩;refine Stop.of ?_)))
 refine Stop.on ?_
 exact⟨rfl,rfl,HX3.out.2.trans (Keep.of_below hb4 (fun _=>False)) (fun _ _ e=>e.elim),HX3.out.1.below hb4⟩
def uZ (kv:List Pr)(m:ND):List Value:=[.int .i64 m.k,.int .i64 (if m.k=1 then(((dG kv (rQ m.i)).getD ByteArray.empty).size:Int) else 0),.int .i64 m.e]
theorem yu:(Tryz.prog.info? 35).map (·.size)=some 3:=by kernel_rfl
def Sy:List Value:=[.int .i64 0,.int .i64 0,.int .i64 0]
theorem yC {w:World}{b:Nat}{x y z:Int}(h:Row w b 35 [.int .i64 x,.int .i64 y,.int .i64 z]):w.cell? ⟨b,0,none⟩=some (.int .i64 x)/\w.cell? ⟨b,1,none⟩=some (.int .i64 y)/\w.cell? ⟨b,2,none⟩=some (.int .i64 z)/\w.frozen? ⟨b,0,none⟩=false/\w.frozen? ⟨b,1,none⟩=false/\w.frozen? ⟨b,2,none⟩=false/\b<w.heap.size:=by
 have h':w.heap[b]? =some (.cells #[.int .i64 x,.int .i64 y,.int .i64 z] 35 (0,0)):=h
 exact⟨by simp[World.cell?,h'],by simp[World.cell?,h'],by simp[World.cell?,h'],by simp[World.frozen?,h'],by simp[World.frozen?,h'],by simp[World.frozen?,h'],(ah.1 h').1⟩
theorem Kc (tb pb ob:Nat)(pv:Value)(path:List ByteArray)(S:Nat->Prop)(m:ND)(h:RT p kv w)(ht:w.heap[tb]? =some (.cells #[.pointer (some ⟨p.x,0,none⟩)] 32 (0,0)))(hpb:w.heap[pb]? =some (.cells #[pv] 22 (0,0)))(ho:Row w ob 35 Sy)
  (hF:p.F ob) (hne:ob≠tb/\ob≠pb/\p.x≠ob) (hp:nG w S pv path) (hl:kv.length<=4090) (hf:nH kv path nR m) (hi:m.i.size<=4):
  Calls Tryz.prog 23 #[.pointer (some ⟨tb,0,none⟩),.pointer (some ⟨pb,0,none⟩),.pointer (some ⟨ob,0,none⟩)] w fun ex w'=>ex= .returned (.tuple #[])/\Row w' ob 35 (uZ kv m)/\Keep (· =ob) w w':=by
 have HFD:=af (h.find _ path S hp m hl hf)
 have c0:w.cell? ⟨tb,0,none⟩=some (.pointer (some ⟨p.x,0,none⟩)):=by simp[World.cell?,ht]
 have c1:w.cell? ⟨pb,0,none⟩=some pv:=by simp[World.cell?,hpb]
 have l0:=(ah.1 ht).1
 have l1:=(ah.1 hpb).1
 have HA:=af (ay h (ay ht (ay hpb (ay ho (ay hF (ay hne (ay hl hi)))))))
 clear h ht hpb ho hF hne hp hl hf hi
 go_enter Tryz.func23,Tryz.ntmps23
 go_wp2_with (first
  |(go_at_call 24;go_must (refine HFD.out.mono ?_;rintro ex w1 ⟨rfl,hb1⟩;refine Stop.of ?_)))
 refine Stop.on ?_
 have hb2:=aF w1 (.cells #[.string m.i,.int .i64 m.k,.int .i64 m.e] 71)
 have hn2:=aK w1 (.cells #[.string m.i,.int .i64 m.k,.int .i64 m.e] 71)
 obtain⟨w2,hw2⟩:∃w2:World,Hid (w1.alloc (.cells #[.string m.i,.int .i64 m.k,.int .i64 m.e] 71)=w2):=⟨_,af rfl⟩
 rw[hw2.out] at hb2 hn2
 obtain⟨nb,hnb⟩:∃nb:Nat,Hid (w1.heap.size=nb):=⟨_,af rfl⟩
 have hb12:=hb1.trans (hb2.mono hb1.size)
 have hno:¬nb=ob:=fun e=>absurd HA.out.2.2.2.1.lt (by have:=hb1.size;have:=hnb.out;omega)
 rw[hnb.out] at hn2
 have ho2:Row w2 ob 35 Sy:=HA.out.2.2.2.1.keep (Keep.of_below hb12 (fun _=>False)) id
 have HX2:=af (ay hb12 (ay hn2 hno))
 clear c0 c1 l0 l1 hb1 hb2 hb12
 obtain⟨d0,d1,d2,g0,g1,g2,ln⟩:=iD (n:=m) hn2
 clear hn2 hno
 go_upto_region 1 with (fail)
 rw[hw2.out,hnb.out]
 go_wp2_with (first
  |((refine dh rfl ?_);intro K hK;(refine wp_store_row 35 (.tmp 2) (.tmp 13) rfl ob 0 35 _ [.int .i64 m.k,.int .i64 0,.int .i64 m.e] rfl rfl ho2 yu (ax 3) (by simp[Value.oneCell']) ?_);intro w3 ho3 hk3;refine hK _ _ ?_;refine Stop.of ?_))
 refine Stop.on ?_
 have hn3:Row w3 nb 71 m.row:=Row.keep (cur:=m.row) HX2.out.2.1 hk3 HX2.out.2.2
 have hko:Keep (· =ob) w w3:=(Keep.of_below HX2.out.1 (· =ob)).trans hk3 (fun _ _ e=>e)
 clear d0 d1 d2 g0 g1 g2 ln ho2 hk3
 obtain⟨d0,d1,d2,g0,g1,g2,ln⟩:=iD hn3
 by_cases hk1:m.k=1
 ·have hT3:=HA.out.1.keep hko (fun g e=>by rw[show g=ob from e];exact HA.out.2.2.2.2.1) HA.out.2.2.2.2.2.1.2.2
  have hks:(rQ m.i).size=m.i.size+1:=yN m.i
  have hadd:∀W:World,(Op.stringOp .add (⟨#[98]⟩:ByteArray) m.i).run Tryz.prog W= .ok (.string (rQ m.i)) W:=fun W=>iH W _ _ (by show ((1:Nat):Int)<=_;omega) (by have:=HA.out.2.2.2.2.2.2.2;omega)
  have hg:=hT3.get (rQ m.i) HA.out.2.2.2.2.2.2.1 (by have:=HA.out.2.2.2.2.2.2.2;omega)
  have ht3:=(hko.block tb (ah.1 HA.out.2.1).1 (fun e=>HA.out.2.2.2.2.2.1.1 e.symm)).trans HA.out.2.1
  have c0:w3.cell? ⟨tb,0,none⟩=some (.pointer (some ⟨p.x,0,none⟩)):=by simp[World.cell?,ht3]
  have l0:=(ah.1 ht3).1
  have HK1:=af hk1
  have HX3:=af (ay ho3 hko)
  have HG:=af hg
  obtain⟨ky,hky⟩:∃ky,Hid (rQ m.i=ky):=⟨_,af rfl⟩
  rw[hky.out] at hadd HG
  obtain⟨q,hq⟩:∃q,Hid (dG kv ky=q):=⟨_,af rfl⟩
  rw[hq.out] at HG
  rw[hk1] at d1
  clear ht3 hT3 hks hg ho3 hko hk1 hn3
  go_wp2_with (first
   |(go_at_call 25;go_must (refine HG.out.mono ?_;rintro ex w4 ⟨rfl,hb4⟩;refine Stop.of ?_)))
  refine Stop.on ?_
  have ho4:Row w4 ob 35 [.int .i64 m.k,.int .i64 0,.int .i64 m.e]:=Row.keep (M:=fun _=>False) HX3.out.1 (Keep.of_below hb4 _) id
  obtain⟨e0,e1,e2,k0,k1,k2,lo⟩:=yC ho4
  have hfin:Row (w4.setCell ⟨ob,1,none⟩ (.int .i64 ((q.getD ByteArray.empty).size:Int))) ob 35 [.int .i64 m.k,.int .i64 ((q.getD ByteArray.empty).size:Int),.int .i64 m.e]/\Keep (· =ob) w (w4.setCell ⟨ob,1,none⟩ (.int .i64 ((q.getD ByteArray.empty).size:Int))):=
   ⟨ho4.setCell 1 _,(HX3.out.2.trans (Keep.of_below hb4 (fun _=>False)) (fun _ _ e=>e.elim)).setCell (p:=⟨ob,1,none⟩) (.inr rfl) _⟩
  have HFIN:=af hfin
  clear hfin hb4 ho4
  go_wp2_with fail
  go_end0
  refine⟨rfl,?_,HFIN.out.2⟩
  unfold uZ
  rw[if_pos HK1.out,hky.out,hq.out]
  exact HFIN.out.1
 ·have hk2:(m.k==1)=false:=by simpa using hk1
  have HX3:=af (ay ho3 (ay hko hk1))
  clear ho3 hko hn3 hk1
  go_wp2_with fail
  go_end0
  refine⟨rfl,?_,HX3.out.2.1⟩
  unfold uZ
  rw[if_neg HX3.out.2.2]
  exact HX3.out.1
theorem Fx (tb pb:Nat)(pv:Value)(path:List ByteArray)(S:Nat->Prop)(m:ND)(h:RT p kv w)(ht:w.heap[tb]? =some (.cells #[.pointer (some ⟨p.x,0,none⟩)] 32 (0,0)))(hpb:w.heap[pb]? =some (.cells #[pv] 22 (0,0)))
  (hp:nG w S pv path) (hl:kv.length<=4090) (hf:nH kv path nR m) (hm:m.k=1):
  Calls Tryz.prog 45 #[.pointer (some ⟨tb,0,none⟩),.pointer (some ⟨pb,0,none⟩)] w fun ex w'=>ex= .panicked (EK 3)/\Below w.heap.size w w':=by
 have HFD:=af (h.find _ path S hp m hl hf)
 have c0:w.cell? ⟨tb,0,none⟩=some (.pointer (some ⟨p.x,0,none⟩)):=by simp[World.cell?,ht]
 have c1:w.cell? ⟨pb,0,none⟩=some pv:=by simp[World.cell?,hpb]
 have l0:=(ah.1 ht).1
 have l1:=(ah.1 hpb).1
 rw[hm] at HFD
 clear h ht hpb hp hl hf hm
 go_enter Tryz.func45,Tryz.ntmps45
 go_wp2_with (first
  |(go_at_call 24;go_must (refine HFD.out.mono ?_;rintro ex w1 ⟨rfl,hb1⟩;refine Stop.of ?_)))
 refine Stop.on ?_
 have HB1:=af hb1
 clear hb1
 have hfl:∀W:World,(Instr.field 71 (.agg #[.string m.i,.int .i64 1,.int .i64 m.e]) 1).run Tryz.prog W= .ok (.int .i64 1) W:=fun _=>by kernel_rfl
 go_wp2_with (first
  |(go_at_call 27;go_must (refine(Cn _ _).mono ?_;rintro e w5 ⟨rfl,hw5⟩;subst w5;refine Stop.of ?_)))
 refine Stop.on ?_
 exact⟨rfl,rfl,HB1.out⟩
end
theorem qy (w:World)(o1 o2 o3 o4:Obj):((((w.alloc o1).alloc o2).alloc o3).alloc o4).heap[w.heap.size+1+1]? =some o3/\((((w.alloc o1).alloc o2).alloc o3).alloc o4).heap.size=w.heap.size+4/\Below w.heap.size w ((((w.alloc o1).alloc o2).alloc o3).alloc o4):=by
 have n3:=aK ((w.alloc o1).alloc o2) o3
 have b1:=aF w o1
 have b2:=aF (w.alloc o1) o2
 have b3:=aF ((w.alloc o1).alloc o2) o3
 have b4:=aF (((w.alloc o1).alloc o2).alloc o3) o4
 have s2:((w.alloc o1).alloc o2).heap.size=w.heap.size+1+1:=by simp
 rw[s2] at n3
 exact⟨(b4.block _ (by simp)).trans n3,by simp,((b1.trans (b2.mono (by simp))).trans (b3.mono (by rw[s2];omega))).trans (b4.mono (by simp;omega))⟩
theorem xP (w:World)(o1 o2 o3 o4 o5:Obj):(((((w.alloc o1).alloc o2).alloc o3).alloc o4).alloc o5).heap[w.heap.size+1+1+1]? =some o4/\(((((w.alloc o1).alloc o2).alloc o3).alloc o4).alloc o5).heap.size=w.heap.size+5/\Below w.heap.size w (((((w.alloc o1).alloc o2).alloc o3).alloc o4).alloc o5):=by
 have n4:=aK (((w.alloc o1).alloc o2).alloc o3) o4
 have s3:(((w.alloc o1).alloc o2).alloc o3).heap.size=w.heap.size+1+1+1:=by simp
 rw[s3] at n4
 have b5:=aF ((((w.alloc o1).alloc o2).alloc o3).alloc o4) o5
 exact⟨(b5.block _ (by simp)).trans n4,by simp,(qy w o1 o2 o3 o4).2.2.trans (b5.mono (by simp;omega))⟩
theorem qj {fn:Func}{p q:Tmp}{ty:TypeId}(h:fn.results=#[.cell p ty,.tmp q])(tmps:Array Value)(w:World)(g:Nat)(y x:Value)
  (hp:tmps.getD p undef= .pointer (some ⟨g,0,none⟩)) (hl:(loadVar ty ⟨g,0,none⟩).run Tryz.prog w= .ok y w) (hq:tmps.getD q undef=x):
  (results fn tmps).run Tryz.prog w= .ok (.tuple #[y,x]) w:=by
 have hp':tmps[p]?.getD undef= .pointer (some ⟨g,0,none⟩):=by simpa using hp
 have hq':tmps[q]?.getD undef=x:=by simpa using hq
 simp[results,h,hp',hq',asAddr,hl]
theorem uH {w w1:World}{rb:Nat}{v:Value}{t:TypeId}(hb:Below w.heap.size w w1)(h:w1.heap[rb]? =some (.cells #[v] t (0,0)))(hr:w.heap.size<=rb):Below w.heap.size w (w1.setCell ⟨rb,0,none⟩ v)/\(w1.setCell ⟨rb,0,none⟩ v).cell? ⟨rb,0,none⟩=some v:=
 ⟨hb.setCell (p:=⟨rb,0,none⟩) hr v,by simp[World.setCell,World.cell?,aS,h]⟩
theorem Mr (po:Option Addr)(n c:Nat)(w:World):Calls Tryz.prog 6 #[.pointer none,.slice po n c] w fun e w'=>e= .returned (.tuple #[.agg #[.int .i64 0,.int .i64 0,.int .i64 0],.int .i64 2])/\Below w.heap.size w w':=by
 have hmf:∀(fn:Fn) (first cap:Array Value) (w:World),(Instr.makeFunc fn first cap).run Tryz.prog w= .ok (.func fn first cap) w:=fun _ _ _ _=>rfl
 go_enter Tryz.func6,Tryz.ntmps6
 go_wp2_with (first
  |(go_at_call 22;go_must (refine(kD _ _ _ _ _ rfl _).mono ?_;rintro e w1 ⟨rfl,hb1⟩;refine Stop.of ?_)))
 refine Stop.on ?_
 obtain⟨h3,hs,hbA⟩:=qy w (.cells #[.pointer none] 32) (.cells #[.slice po n c] 22) (.cells #[.int .i64 0,.int .i64 0,.int .i64 0] 35) (.cells #[.slice po n c] 22)
 have h4:=(hb1.block _ (by rw[hs];omega)).trans h3
 have hb:=hbA.trans (hb1.mono hbA.size)
 have l4:=(ah.1 h4).1
 obtain⟨rb,hrb⟩:∃rb:Nat,Hid (w.heap.size+1+1=rb):=⟨_,af rfl⟩
 rw[hrb.out] at h4 l4 ⊢
 have HB:=af hb
 have c0:w1.cell? ⟨rb,0,none⟩=some (.int .i64 0):=by simp[World.cell?,h4]
 have c1:w1.cell? ⟨rb,1,none⟩=some (.int .i64 0):=by simp[World.cell?,h4]
 have c2:w1.cell? ⟨rb,2,none⟩=some (.int .i64 0):=by simp[World.cell?,h4]
 have hr4:Row w1 rb 35 [.int .i64 0,.int .i64 0,.int .i64 0]:=h4
 clear hs hb1 h3 hbA hb h4
 go_wp2_with (first
  |((refine dh rfl ?_);intro K hK;(refine wp_store_row 35 (.tmp 4) (.tmp 11) rfl rb 0 35 _ [.int .i64 0,.int .i64 0,.int .i64 0] rfl rfl hr4 yu (ax 3) (by simp[Value.oneCell']) ?_);intro w4 hr5 hk5;refine hK _ _ ?_))
 refine eO (qj rfl _ w4 rb _ (.int .i64 2) rfl (run_loadVar_row w4 rb 35 35 _ (0,0) _ hr5 Tryz.underlying35 rfl (by kernel_rfl)) rfl) rfl ?_
 exact⟨rfl,HB.out.trans (hk5.fP HB.out.size fun g hg e=>by have:=hrb.out;omega)⟩
theorem MJ (po:Option Addr)(n c:Nat)(w:World):Calls Tryz.prog 7 #[.pointer none,.slice po n c] w fun e w'=>e= .returned (.tuple #[.string ⟨#[]⟩,.int .i64 2])/\Below w.heap.size w w':=by
 have hmf:∀(fn:Fn) (first cap:Array Value) (w:World),(Instr.makeFunc fn first cap).run Tryz.prog w= .ok (.func fn first cap) w:=fun _ _ _ _=>rfl
 go_enter Tryz.func7,Tryz.ntmps7
 go_wp2_with (first
  |(go_at_call 22;go_must (refine(kD _ _ _ _ _ rfl _).mono ?_;rintro e w1 ⟨rfl,hb1⟩;refine Stop.of ?_)))
 refine Stop.on ?_
 obtain⟨h3,hs,hbA⟩:=qy w (.cells #[.pointer none] 32) (.cells #[.slice po n c] 22) (.cells #[.string ⟨#[]⟩] 9) (.cells #[.slice po n c] 22)
 have h4:=(hb1.block _ (by rw[hs];omega)).trans h3
 have hb:=hbA.trans (hb1.mono hbA.size)
 have l4:=(ah.1 h4).1
 obtain⟨rb,hrb⟩:∃rb:Nat,Hid (w.heap.size+1+1=rb):=⟨_,af rfl⟩
 rw[hrb.out] at h4 l4 ⊢
 have HB:=af (uH hb h4 (by have:=hrb.out;omega))
 have c0:w1.cell? ⟨rb,0,none⟩=some (.string ⟨#[]⟩):=by simp[World.cell?,h4]
 have f0:w1.frozen? ⟨rb,0,none⟩=false:=by simp[World.frozen?,h4]
 clear hs hb1 h3 hbA hb h4
 go_wp2_with fail
 have hc:=HB.out.2
 refine eO (by simp[results,Tryz.results7,go_sem,hc];rfl) rfl ?_
 exact⟨rfl,HB.out.1⟩
theorem Na (po:Option Addr)(n c:Nat)(w:World):Calls Tryz.prog 8 #[.pointer none,.slice po n c] w fun e w'=>e= .returned (.tuple #[.slice none 0 0,.int .i64 2])/\Below w.heap.size w w':=by
 have hmf:∀(fn:Fn) (first cap:Array Value) (w:World),(Instr.makeFunc fn first cap).run Tryz.prog w= .ok (.func fn first cap) w:=fun _ _ _ _=>rfl
 go_enter Tryz.func8,Tryz.ntmps8
 go_wp2_with (first
  |(go_at_call 22;go_must (refine(kD _ _ _ _ _ rfl _).mono ?_;rintro e w1 ⟨rfl,hb1⟩;refine Stop.of ?_)))
 refine Stop.on ?_
 obtain⟨h3,hs,hbA⟩:=qy w (.cells #[.pointer none] 32) (.cells #[.slice po n c] 22) (.cells #[.slice none 0 0] 22) (.cells #[.slice po n c] 22)
 have h4:=(hb1.block _ (by rw[hs];omega)).trans h3
 have hb:=hbA.trans (hb1.mono hbA.size)
 have l4:=(ah.1 h4).1
 obtain⟨rb,hrb⟩:∃rb:Nat,Hid (w.heap.size+1+1=rb):=⟨_,af rfl⟩
 rw[hrb.out] at h4 l4 ⊢
 have HB:=af (uH hb h4 (by have:=hrb.out;omega))
 have c0:w1.cell? ⟨rb,0,none⟩=some (.slice none 0 0):=by simp[World.cell?,h4]
 have f0:w1.frozen? ⟨rb,0,none⟩=false:=by simp[World.frozen?,h4]
 clear hs hb1 h3 hbA hb h4
 go_wp2_with fail
 have hc:=HB.out.2
 refine eO (by simp[results,Tryz.results8,go_sem,hc];rfl) rfl ?_
 exact⟨rfl,HB.out.1⟩
theorem Kt (po:Option Addr)(n c:Nat)(w:World):Calls Tryz.prog 10 #[.pointer none,.slice po n c] w fun e w'=>e= .returned (.tuple #[.slice none 0 0,.int .i64 2])/\Below w.heap.size w w':=by
 have hmf:∀(fn:Fn) (first cap:Array Value) (w:World),(Instr.makeFunc fn first cap).run Tryz.prog w= .ok (.func fn first cap) w:=fun _ _ _ _=>rfl
 go_enter Tryz.func10,Tryz.ntmps10
 go_wp2_with (first
  |(go_at_call 22;go_must (refine(kD _ _ _ _ _ rfl _).mono ?_;rintro e w1 ⟨rfl,hb1⟩;refine Stop.of ?_)))
 refine Stop.on ?_
 obtain⟨h3,hs,hbA⟩:=qy w (.cells #[.pointer none] 32) (.cells #[.slice po n c] 22) (.cells #[.slice none 0 0] 24) (.cells #[.slice po n c] 22)
 have h4:=(hb1.block _ (by rw[hs];omega)).trans h3
 have hb:=hbA.trans (hb1.mono hbA.size)
 have l4:=(ah.1 h4).1
 obtain⟨rb,hrb⟩:∃rb:Nat,Hid (w.heap.size+1+1=rb):=⟨_,af rfl⟩
 rw[hrb.out] at h4 l4 ⊢
 have HB:=af (uH hb h4 (by have:=hrb.out;omega))
 have c0:w1.cell? ⟨rb,0,none⟩=some (.slice none 0 0):=by simp[World.cell?,h4]
 have f0:w1.frozen? ⟨rb,0,none⟩=false:=by simp[World.frozen?,h4]
 clear hs hb1 h3 hbA hb h4
 go_wp2_with fail
 have hc:=HB.out.2
 refine eO (by simp[results,Tryz.results10,go_sem,hc];rfl) rfl ?_
 exact⟨rfl,HB.out.1⟩
theorem OV (po:Option Addr)(n c:Nat)(body:ByteArray)(w:World):Calls Tryz.prog 9 #[.pointer none,.slice po n c,.string body] w fun e w'=>e= .returned (.tuple #[.bool false,.int .i64 2])/\Below w.heap.size w w':=by
 have hmf:∀(fn:Fn) (first cap:Array Value) (w:World),(Instr.makeFunc fn first cap).run Tryz.prog w= .ok (.func fn first cap) w:=fun _ _ _ _=>rfl
 go_enter Tryz.func9,Tryz.ntmps9
 go_wp2_with (first
  |(go_at_call 22;go_must (refine(kD _ _ _ _ _ rfl _).mono ?_;rintro e w1 ⟨rfl,hb1⟩;refine Stop.of ?_)))
 refine Stop.on ?_
 obtain⟨h3,hs,hbA⟩:=xP w (.cells #[.pointer none] 32) (.cells #[.slice po n c] 22) (.cells #[.string body] 9) (.cells #[.bool false] 4) (.cells #[.slice po n c] 22)
 have h4:=(hb1.block _ (by rw[hs];omega)).trans h3
 have hb:=hbA.trans (hb1.mono hbA.size)
 have l4:=(ah.1 h4).1
 obtain⟨rb,hrb⟩:∃rb:Nat,Hid (w.heap.size+1+1+1=rb):=⟨_,af rfl⟩
 rw[hrb.out] at h4 l4 ⊢
 have HB:=af (uH hb h4 (by have:=hrb.out;omega))
 have c0:w1.cell? ⟨rb,0,none⟩=some (.bool false):=by simp[World.cell?,h4]
 have f0:w1.frozen? ⟨rb,0,none⟩=false:=by simp[World.frozen?,h4]
 clear hs hb1 h3 hbA hb h4
 go_wp2_with fail
 have hc:=HB.out.2
 refine eO (by simp[results,Tryz.results9,go_sem,hc];rfl) rfl ?_
 exact⟨rfl,HB.out.1⟩
theorem KU (po:Option Addr)(n c:Nat)(s1 s2:ByteArray)(w:World):Calls Tryz.prog 11 #[.pointer none,.slice po n c,.agg #[.string s1,.string s2]] w fun e w'=>e= .returned (.tuple #[.bool false,.int .i64 2])/\Below w.heap.size w w':=by
 have hmf:∀(fn:Fn) (first cap:Array Value) (w:World),(Instr.makeFunc fn first cap).run Tryz.prog w= .ok (.func fn first cap) w:=fun _ _ _ _=>rfl
 go_enter Tryz.func11,Tryz.ntmps11
 go_wp2_with (first
  |(go_at_call 22;go_must (refine(kD _ _ _ _ _ rfl _).mono ?_;rintro e w1 ⟨rfl,hb1⟩;refine Stop.of ?_)))
 refine Stop.on ?_
 obtain⟨h3,hs,hbA⟩:=xP w (.cells #[.pointer none] 32) (.cells #[.slice po n c] 22) (.cells #[.string s1,.string s2] 28) (.cells #[.bool false] 4) (.cells #[.slice po n c] 22)
 have h4:=(hb1.block _ (by rw[hs];omega)).trans h3
 have hb:=hbA.trans (hb1.mono hbA.size)
 have l4:=(ah.1 h4).1
 obtain⟨rb,hrb⟩:∃rb:Nat,Hid (w.heap.size+1+1+1=rb):=⟨_,af rfl⟩
 rw[hrb.out] at h4 l4 ⊢
 have HB:=af (uH hb h4 (by have:=hrb.out;omega))
 have c0:w1.cell? ⟨rb,0,none⟩=some (.bool false):=by simp[World.cell?,h4]
 have f0:w1.frozen? ⟨rb,0,none⟩=false:=by simp[World.frozen?,h4]
 clear hs hb1 h3 hbA hb h4
 go_wp2_with fail
 have hc:=HB.out.2
 refine eO (by simp[results,Tryz.results11,go_sem,hc];rfl) rfl ?_
 exact⟨rfl,HB.out.1⟩
theorem walk_nil (po:Option Addr)(n c:Nat)(d:Int)(w:World):Calls Tryz.prog 12 #[.pointer none,.slice po n c,.int .i64 d] w fun e w'=>e= .returned (.tuple #[.slice none 0 0,.int .i64 2])/\Below w.heap.size w w':=by
 have hmf:∀(fn:Fn) (first cap:Array Value) (w:World),(Instr.makeFunc fn first cap).run Tryz.prog w= .ok (.func fn first cap) w:=fun _ _ _ _=>rfl
 go_enter Tryz.func12,Tryz.ntmps12
 go_wp2_with (first
  |(go_at_call 22;go_must (refine(kD _ _ _ _ _ rfl _).mono ?_;rintro e w1 ⟨rfl,hb1⟩;refine Stop.of ?_)))
 refine Stop.on ?_
 obtain⟨h3,hs,hbA⟩:=xP w (.cells #[.pointer none] 32) (.cells #[.slice po n c] 22) (.cells #[.int .i64 d] 3) (.cells #[.slice none 0 0] 48) (.cells #[.slice po n c] 22)
 have h4:=(hb1.block _ (by rw[hs];omega)).trans h3
 have hb:=hbA.trans (hb1.mono hbA.size)
 have l4:=(ah.1 h4).1
 obtain⟨rb,hrb⟩:∃rb:Nat,Hid (w.heap.size+1+1+1=rb):=⟨_,af rfl⟩
 rw[hrb.out] at h4 l4 ⊢
 have HB:=af (uH hb h4 (by have:=hrb.out;omega))
 have c0:w1.cell? ⟨rb,0,none⟩=some (.slice none 0 0):=by simp[World.cell?,h4]
 have f0:w1.frozen? ⟨rb,0,none⟩=false:=by simp[World.frozen?,h4]
 clear hs hb1 h3 hbA hb h4
 go_wp2_with fail
 have hc:=HB.out.2
 refine eO (by simp[results,Tryz.results12,go_sem,hc];rfl) rfl ?_
 exact⟨rfl,HB.out.1⟩
theorem xO (w:World)(o1 o2 o3:Obj):Below w.heap.size w (((w.alloc o1).alloc o2).alloc o3):=by
 have b1:=aF w o1
 have b2:=aF (w.alloc o1) o2
 have b3:=aF ((w.alloc o1).alloc o2) o3
 exact(b1.trans (b2.mono (by simp))).trans (b3.mono (by simp;omega))
theorem M5 (po:Option Addr)(n c:Nat)(w:World):Calls Tryz.prog 14 #[.pointer none,.slice po n c] w fun e w'=>e= .returned (.int .i64 2)/\Below w.heap.size w w':=by
 have hmf:∀(fn:Fn) (first cap:Array Value) (w:World),(Instr.makeFunc fn first cap).run Tryz.prog w= .ok (.func fn first cap) w:=fun _ _ _ _=>rfl
 go_enter Tryz.func14,Tryz.ntmps14
 go_wp2_with (first
  |(go_at_call 22;go_must (refine(kD _ _ _ _ _ rfl _).mono ?_;rintro e w1 ⟨rfl,hb1⟩)))
 go_ret
 refine⟨rfl,Lv ?_ (hb1.mono (by simp;try omega))⟩
 exact xO w _ _ _
theorem IL (po:Option Addr)(n c:Nat)(w:World):Calls Tryz.prog 15 #[.pointer none,.slice po n c] w fun e w'=>e= .returned (.int .i64 2)/\Below w.heap.size w w':=by
 have hmf:∀(fn:Fn) (first cap:Array Value) (w:World),(Instr.makeFunc fn first cap).run Tryz.prog w= .ok (.func fn first cap) w:=fun _ _ _ _=>rfl
 go_enter Tryz.func15,Tryz.ntmps15
 go_wp2_with (first
  |(go_at_call 22;go_must (refine(kD _ _ _ _ _ rfl _).mono ?_;rintro e w1 ⟨rfl,hb1⟩)))
 go_ret
 refine⟨rfl,Lv ?_ (hb1.mono (by simp;try omega))⟩
 exact xO w _ _ _
theorem NF (po:Option Addr)(n c:Nat)(qo:Option Addr)(m k:Nat)(d:Bool)(w:World):Calls Tryz.prog 16 #[.pointer none,.slice po n c,.slice qo m k,.bool d] w fun e w'=>e= .returned (.int .i64 2)/\Below w.heap.size w w':=by
 have hmf:∀(fn:Fn) (first cap:Array Value) (w:World),(Instr.makeFunc fn first cap).run Tryz.prog w= .ok (.func fn first cap) w:=fun _ _ _ _=>rfl
 go_enter Tryz.func16,Tryz.ntmps16
 go_wp2_with (first
  |(go_at_call 22;go_must (refine(kD _ _ _ _ _ rfl _).mono ?_;rintro e w1 ⟨rfl,hb1⟩)))
 go_ret
 refine⟨rfl,Lv ?_ (hb1.mono (by simp;try omega))⟩
 exact(xP w _ _ _ _ _).2.2
theorem MX (po:Option Addr)(n c:Nat)(qo:Option Addr)(m k:Nat)(w:World):Calls Tryz.prog 17 #[.pointer none,.slice po n c,.slice qo m k] w fun e w'=>e= .returned (.int .i64 2)/\Below w.heap.size w w':=by
 have hmf:∀(fn:Fn) (first cap:Array Value) (w:World),(Instr.makeFunc fn first cap).run Tryz.prog w= .ok (.func fn first cap) w:=fun _ _ _ _=>rfl
 go_enter Tryz.func17,Tryz.ntmps17
 go_wp2_with (first
  |(go_at_call 22;go_must (refine(kD _ _ _ _ _ rfl _).mono ?_;rintro e w1 ⟨rfl,hb1⟩)))
 go_ret
 refine⟨rfl,Lv ?_ (hb1.mono (by simp;try omega))⟩
 exact(qy w _ _ _ _).2.2
theorem Ke (po:Option Addr)(n c:Nat)(s1 s2 s3:ByteArray)(ao ko:Option Addr)(an ac kn kc:Nat)(w:World):Calls Tryz.prog 18 #[.pointer none,.slice po n c,.agg #[.string s1,.string s2,.string s3,.slice ao an ac,.slice ko kn kc]] w fun e w'=>e= .returned (.int .i64 2)/\Below w.heap.size w w':=by
 have hmf:∀(fn:Fn) (first cap:Array Value) (w:World),(Instr.makeFunc fn first cap).run Tryz.prog w= .ok (.func fn first cap) w:=fun _ _ _ _=>rfl
 go_enter Tryz.func18,Tryz.ntmps18
 go_wp2_with (first
  |(go_at_call 22;go_must (refine(kD _ _ _ _ _ rfl _).mono ?_;rintro e w1 ⟨rfl,hb1⟩)))
 go_ret
 refine⟨rfl,Lv ?_ (hb1.mono (by simp;try omega))⟩
 exact(qy w _ _ _ _).2.2
theorem one_cell {w:World}{b:Nat}{v:Value}{t:TypeId}(h:w.heap[b]? =some (.cells #[v] t (0,0))):w.cell? ⟨b,0,none⟩=some v/\w.frozen? ⟨b,0,none⟩=false/\b<w.heap.size:=⟨by simp[World.cell?,h],by simp[World.frozen?,h],(ah.1 h).1⟩
theorem wL {w:World}{b:Nat}{v:Value}{t:TypeId}(h:w.heap[b]? =some (.cells #[v] t (0,0)))(g:Nat)(o:Obj)(hg:w.heap[g]? =some o):(w.setCell ⟨b,0,none⟩ v).heap[g]? =some o:=by
 by_cases e:b=g
 ·subst e
  rw[h] at hg
  cases hg
  simp[World.setCell,aS,h]
 ·have hk:Keep (· =b) w (w.setCell ⟨b,0,none⟩ v):=(Keep.refl (· =b) _).setCell (p:=⟨b,0,none⟩) (.inr rfl) _
  exact(hk.block g (ah.1 hg).1 (fun x=>e x.symm)).trans hg
theorem LX (w:World):Calls Tryz.prog 13 #[.pointer none] w fun e w'=>e= .returned (.tuple #[.slice none 0 0,.int .i64 0,.int .i64 2])/\Below w.heap.size w w':=by
 have hmf:∀(fn:Fn) (first cap:Array Value) (w:World),(Instr.makeFunc fn first cap).run Tryz.prog w= .ok (.func fn first cap) w:=fun _ _ _ _=>rfl
 go_enter Tryz.func13,Tryz.ntmps13
 go_wp2_with (first
  |(go_at_call 22;go_must (refine(kD _ _ _ _ _ rfl _).mono ?_;rintro e w1 ⟨rfl,hb1⟩;refine Stop.of ?_)))
 refine Stop.on ?_
 have hbA:=xO w (.cells #[.pointer none] 32) (.cells #[.slice none 0 0] 51) (.cells #[.int .i64 0] 2)
 have n2:=aK (w.alloc (.cells #[.pointer none] 32)) (.cells #[.slice none 0 0] 51)
 have n3:=aK ((w.alloc (.cells #[.pointer none] 32)).alloc (.cells #[.slice none 0 0] 51)) (.cells #[.int .i64 0] 2)
 have n2:=((aF _ (.cells #[.int .i64 0] 2)).block _ (by simp)).trans n2
 have s1:(w.alloc (.cells #[.pointer none] 32)).heap.size=w.heap.size+1:=by simp
 have s2:((w.alloc (.cells #[.pointer none] 32)).alloc (.cells #[.slice none 0 0] 51)).heap.size=w.heap.size+1+1:=by simp
 rw[s1] at n2
 rw[s2] at n3
 have h2:=(hb1.block _ (by simp)).trans n2
 have h3:=(hb1.block _ (by simp)).trans n3
 have hb:=hbA.trans (hb1.mono hbA.size)
 obtain⟨rb,hrb⟩:∃rb:Nat,Hid (w.heap.size+1=rb):=⟨_,af rfl⟩
 obtain⟨sb,hsb⟩:∃sb:Nat,Hid (rb+1=sb):=⟨_,af rfl⟩
 rw[hrb.out,hsb.out] at h3 ⊢
 rw[hrb.out] at h2
 have HS:=af (show w1.heap[rb]? =some (.cells #[.slice none 0 0] 51 (0,0))/\w1.heap[sb]? =some (.cells #[.int .i64 0] 2 (0,0))/\Below w.heap.size w w1 from⟨h2,h3,hb⟩)
 clear hbA n2 n3 s1 s2 hb1 h2 h3 hb
 go_wp2_with fail
 refine aN (fun W=>W.heap[rb]? =some (.cells #[.slice none 0 0] 51 (0,0))/\W.heap[sb]? =some (.cells #[.int .i64 0] 2 (0,0))/\Below w.heap.size w W) (fun i=> !([3,4].contains i)) [0,1,2,3,4,5] rfl (by kernel_rfl) (⟨HS.out.1,HS.out.2.1,HS.out.2.2.drew⟩:_/\_/\Below w.heap.size w w1.drew) ?_
 repeat ((refine bL (v:= ?_) rfl rfl (fun _ _ _ h=>h) rfl (fun W hW=> ?_) ?_);rotate_left;(focus ((try dsimp only at hW);obtain⟨q1,_,q3⟩:=one_cell hW.1;obtain⟨q4,_,q6⟩:=one_cell hW.2.1;(go_simp;first|done|with_reducible rfl)));(try simp only[Act.put,ai,au,aj]))
 have e1:w1.drew.setCell ⟨rb,0,none⟩ (.slice none 0 0)=(w1.setCell ⟨rb,0,none⟩ (.slice none 0 0)).drew:=rfl
 obtain⟨d1,d2,d3⟩:=one_cell (w:=w1) HS.out.1
 have hr1:w.heap.size<=rb:=by have:=hrb.out;omega
 have hr2:w.heap.size<=sb:=by have:=hsb.out;omega
 have g1:=wL (w:=w1.drew) HS.out.1 rb _ HS.out.1
 have g2:=wL (w:=w1.drew) HS.out.1 sb _ HS.out.2.1
 have g3:Below w.heap.size w (w1.drew.setCell ⟨rb,0,none⟩ (.slice none 0 0)):=HS.out.2.2.drew.setCell (p:=⟨rb,0,none⟩) hr1 _
 have g4:=wL g2 rb _ g1
 have g5:=wL g2 sb _ g2
 have g6:Below w.heap.size w ((w1.drew.setCell ⟨rb,0,none⟩ (.slice none 0 0)).setCell ⟨sb,0,none⟩ (.int .i64 0)):=g3.setCell (p:=⟨sb,0,none⟩) hr2 _
 obtain⟨d4,d5,d6⟩:=one_cell (w:=w1) HS.out.2.1
 have hne:¬sb=rb:=by have:=hsb.out;omega
 have hne2:¬rb=sb:=fun e=>hne e.symm
 refine dA rfl rfl rfl ?_;intro K hK;go_simp
 refine hK.out _ _ ⟨g1,g2,g3⟩ ?_
 refine dA rfl rfl rfl ?_;intro K hK;go_simp
 refine hK.out _ _ ⟨g4,g5,g6⟩ ?_
 repeat ((refine bL (v:= ?_) rfl rfl (fun _ _ _ h=>h) rfl (fun W hW=> ?_) ?_);rotate_left;(focus ((try dsimp only at hW);skip;(go_simp;first|done|with_reducible rfl)));(try simp only[Act.put,ai,au,aj]))
 refine bO ?_
 have r1:=(one_cell g4).1
 have r2:=(one_cell g5).1
 obtain⟨wz,hwz⟩:∃wz:World,Hid ((w1.drew.setCell ⟨rb,0,none⟩ (.slice none 0 0)).setCell ⟨sb,0,none⟩ (.int .i64 0)=wz):=⟨_,af rfl⟩
 rw[hwz.out] at r1 r2 g6
 go_wp2_with fail
 rw[show ((w1.setCell ⟨rb,0,none⟩ (.slice none 0 0)).setCell ⟨sb,0,none⟩ (.int .i64 0)).drew=wz from hwz.out]
 refine eO (by simp[results,Tryz.results13,go_sem,r1,r2];rfl) rfl ?_
 exact⟨rfl,g6⟩
theorem NV (w:World)(o0 o1 o2 o3 o4:Obj):let v:=(((((w.alloc o0).alloc o1).alloc o2).alloc o3).alloc o4)
  v.heap[w.heap.size]? =some o0/\v.heap[w.heap.size+1]? =some o1/\v.heap[w.heap.size+1+1]? =some o2/\v.heap[w.heap.size+1+1+1]? =some o3/\v.heap[w.heap.size+1+1+1+1]? =some o4/\v.heap.size=w.heap.size+5/\Below w.heap.size w v:=by
 have n0:=aK w o0
 have n1:=aK (w.alloc o0) o1
 have n2:=aK ((w.alloc o0).alloc o1) o2
 have n3:=aK (((w.alloc o0).alloc o1).alloc o2) o3
 have n4:=aK ((((w.alloc o0).alloc o1).alloc o2).alloc o3) o4
 have s1:(w.alloc o0).heap.size=w.heap.size+1:=by simp
 have s2:((w.alloc o0).alloc o1).heap.size=w.heap.size+1+1:=by simp
 have s3:(((w.alloc o0).alloc o1).alloc o2).heap.size=w.heap.size+1+1+1:=by simp
 have s4:((((w.alloc o0).alloc o1).alloc o2).alloc o3).heap.size=w.heap.size+1+1+1+1:=by simp
 rw[s1] at n1;rw[s2] at n2;rw[s3] at n3;rw[s4] at n4
 have b1:=aF (w.alloc o0) o1
 have b2:=aF ((w.alloc o0).alloc o1) o2
 have b3:=aF (((w.alloc o0).alloc o1).alloc o2) o3
 have b4:=aF ((((w.alloc o0).alloc o1).alloc o2).alloc o3) o4
 have c0:=(b4.block w.heap.size (by omega)).trans ((b3.block _ (by omega)).trans ((b2.block _ (by omega)).trans ((b1.block _ (by omega)).trans n0)))
 have c1:=(b4.block (w.heap.size+1) (by omega)).trans ((b3.block _ (by omega)).trans ((b2.block _ (by omega)).trans n1))
 have c2:=(b4.block (w.heap.size+1+1) (by omega)).trans ((b3.block _ (by omega)).trans n2)
 have c3:=(b4.block (w.heap.size+1+1+1) (by omega)).trans n3
 exact⟨c0,c1,c2,c3,n4,by simp,(xP w o0 o1 o2 o3 o4).2.2⟩
theorem JH (w:World)(o0 o1 o2 o3:Obj):let v:=((((w.alloc o0).alloc o1).alloc o2).alloc o3)
  v.heap[w.heap.size]? =some o0/\v.heap[w.heap.size+1]? =some o1/\v.heap[w.heap.size+1+1]? =some o2/\v.heap[w.heap.size+1+1+1]? =some o3/\v.heap.size=w.heap.size+4/\Below w.heap.size w v:=by
 obtain⟨h0,h1,h2,h3,_,hs,hb⟩:=NV w o0 o1 o2 o3 o3
 have b4:=aF ((((w.alloc o0).alloc o1).alloc o2).alloc o3) o3
 have s4:((((w.alloc o0).alloc o1).alloc o2).alloc o3).heap.size=w.heap.size+4:=by simp
 exact⟨(b4.block _ (by omega)).symm.trans h0,(b4.block _ (by omega)).symm.trans h1,(b4.block _ (by omega)).symm.trans h2,(b4.block _ (by omega)).symm.trans h3,s4,(qy w o0 o1 o2 o3).2.2⟩
theorem Pz (w:World)(o0 o1 o2:Obj):let v:=(((w.alloc o0).alloc o1).alloc o2)
  v.heap[w.heap.size]? =some o0/\v.heap[w.heap.size+1]? =some o1/\v.heap[w.heap.size+1+1]? =some o2/\v.heap.size=w.heap.size+3/\Below w.heap.size w v:=by
 obtain⟨h0,h1,h2,_,hs,hb⟩:=JH w o0 o1 o2 o2
 have b3:=aF (((w.alloc o0).alloc o1).alloc o2) o2
 have s3:(((w.alloc o0).alloc o1).alloc o2).heap.size=w.heap.size+3:=by simp
 exact⟨(b3.block _ (by omega)).symm.trans h0,(b3.block _ (by omega)).symm.trans h1,(b3.block _ (by omega)).symm.trans h2,s3,xO w o0 o1 o2⟩
theorem je.fresh {w w':World}{S:Nat->Prop}{k n:Nat}{v:Value}{xs:List Value}(h:je w S k v n xs)(hb:Below w.heap.size w w'):je w' (fun g=>w.heap.size<=g) k v n xs:=
 je.keep h fun g _ hl _=>⟨hb.block g hl,fun e=>absurd hl (bE.2 e)⟩
section
variable {p:TP} {kv:List Pr} {w:World}
theorem Ab (body:ByteArray)(pv:Value)(path:List ByteArray)(S:Nat->Prop)(h:RT p kv w)(hp:nG w S pv path)(hs:∀s∈path,s.size<=9223372036854775807)(hT:uV w)(hg:pM path=true)(mk:Bool)(er:Int)(kv':List Pr)
  (hcl:∀(F':Nat->Prop) (w1:World) (bb tb pb mb:Nat),RT {p with F:=F'} kv w1->qd p.x bb tb pb mb body pv false w1->(F' bb/\F' tb/\F' pb/\F' mb)->((mb≠bb/\mb≠tb/\mb≠pb)/\p.x≠mb)->nG w1 (fun g=>w.heap.size<=g) pv path->w.heap.size<=mb->
   Calls Tryz.prog 30 #[.pointer (some ⟨bb,0,none⟩),.pointer (some ⟨tb,0,none⟩),.pointer (some ⟨pb,0,none⟩),.pointer (some ⟨mb,0,none⟩)] w1 fun ex w'=>((ex= .returned (.tuple #[])/\er=0)\/(ex= .panicked (EK er)/\er≠0))/\RT {p with F:=F'} kv' w'/\Keep (fun g=>¬F' g\/g=mb) w1 w'/\qd p.x bb tb pb mb body pv mk w'):
  Calls Tryz.prog 9 #[.pointer (some ⟨p.x,0,none⟩),pv,.string body] w fun e w'=>e= .returned (.tuple #[.bool (mk && er==0),.int .i64 er])/\RT p kv' w'/\Keep (fun g=>¬p.F g) w w':=by
 have hmf:∀(fn:Fn) (first cap:Array Value) (w:World),(Instr.makeFunc fn first cap).run Tryz.prog w= .ok (.func fn first cap) w:=fun _ _ _ _=>rfl
 obtain⟨po,pc,hpv,_,_,_,_⟩:=je.form hp
 subst hpv
 obtain⟨h0,h1,h2,h3,h4,hsz,hb5⟩:=NV w (.cells #[.pointer (some ⟨p.x,0,none⟩)] 32) (.cells #[.slice po path.length pc] 22) (.cells #[.string body] 9) (.cells #[.bool false] 4) (.cells #[.slice po path.length pc] 22)
 have hr:=QB p.x 30 #[.pointer (some ⟨w.heap.size+1+1,0,none⟩),.pointer (some ⟨w.heap.size,0,none⟩),.pointer (some ⟨w.heap.size+1,0,none⟩),.pointer (some ⟨w.heap.size+1+1+1,0,none⟩)] (w.heap.size+1+1+1+1) (.slice po path.length pc) path _ _
  (fun w'=>er=0/\(∃F':Nat->Prop,RT {p with F:=F'} kv' w'/\(∀g,p.F g->F' g)/\F' (w.heap.size+5)/\F' (w.heap.size+1+1+1))/\Keep (fun g=>¬p.F g) w w'/\w'.heap[w.heap.size+1+1+1]? =some (.cells #[.bool mk] 4 (0,0)))
  (fun n w'=>n=er/\er≠0/\(∃F':Nat->Prop,RT {p with F:=F'} kv' w'/\(∀g,p.F g->F' g)/\F' (w.heap.size+5)/\F' (w.heap.size+1+1+1))/\Keep (fun g=>¬p.F g) w w'/\w'.heap[w.heap.size+1+1+1]? =some (.cells #[.bool mk] 4 (0,0)))
  (fun _ _=>rfl) h4 (je.below hp hb5) hs (hT.below hb5) hg ?_
 ·rw[hsz] at hr
  have HR:=af hr
  have HA:=af h
  clear h0 h1 h2 h3 h4 hsz hb5 hr h hp hs hT hcl hg
  go_enter Tryz.func9,Tryz.ntmps9
  go_wp2_with (first
   |(go_at_call 22;go_must (refine HR.out.mono ?_;rintro e w2 (⟨rfl,w1,⟨he,⟨F',hT1,hF,hF5,hF3⟩,hk1,hm1⟩,hk2⟩|⟨n,rfl,w1,⟨rfl,he,⟨F',hT1,hF,hF5,hF3⟩,hk1,hm1⟩,hk2⟩)<;>refine Stop.of ?_)))
  all_goals
   refine Stop.on ?_
   have hm2:=(hk2.block _ (ah.1 hm1).1 (by omega)).trans hm1
   have hx:=HA.out.lt
   have hk12:Keep (fun g=>¬p.F g) w w2:=hk1.trans hk2 (fun g hg e=>by have e:g=w.heap.size+5:=e;omega)
   have hT2:=hT1.keep hk2 (fun g e=>by rw[show g=w.heap.size+5 from e];exact hF5) (by show ¬p.x=_;omega)
   obtain⟨mb,hmb⟩:∃mb:Nat,Hid (w.heap.size+1+1+1=mb):=⟨_,af rfl⟩
   rw[hmb.out] at hm2 hF3
   obtain⟨c0,f0,l0⟩:=one_cell hm2
   have hfin:∀b:Bool,RT p kv' (w2.setCell ⟨mb,0,none⟩ (.bool b))/\Keep (fun g=>¬p.F g) w (w2.setCell ⟨mb,0,none⟩ (.bool b))/\(w2.setCell ⟨mb,0,none⟩ (.bool b)).cell? ⟨mb,0,none⟩=some (.bool b):=fun b=>by
    have hk3:Keep (· =mb) w2 (w2.setCell ⟨mb,0,none⟩ (.bool b)):=(Keep.refl (· =mb) _).setCell (p:=⟨mb,0,none⟩) (.inr rfl) _
    exact⟨RT.sub (hT2.keep hk3 (fun g e=>by rw[show g=mb from e];exact hF3) (by show ¬p.x=_;have:=hmb.out;omega)) hF HA.out.fb,hk12.trans hk3 (fun g hg e=>by have e:g=mb:=e;have:=hmb.out;omega),by simp[World.setCell,World.cell?,aS,hm2]⟩
   have HFIN:=af hfin
   clear hfin hm2 hk12 hT2 hm1 hk1 hk2 hT1 hF hF5 hF3
   rw[hmb.out]
  ·subst he
   cases mk
   ·have r:=HFIN.out false
    go_wp2_with fail
    have r3:=r.2.2
    refine eO (by simp[results,Tryz.results9,go_sem,r3];rfl) rfl ?_
    exact⟨rfl,r.1,r.2.1⟩
   ·have r:=HFIN.out true
    go_wp2_with fail
    have r3:=r.2.2
    refine eO (by simp[results,Tryz.results9,go_sem,r3];rfl) rfl ?_
    exact⟨rfl,r.1,r.2.1⟩
  ·have he2:(n==0)=false:=by simpa using he
   have r:=HFIN.out false
   clear he
   cases mk
   all_goals
    go_wp2_with fail
    have r3:=r.2.2
    refine eO (by simp[results,Tryz.results9,go_sem,r3];rfl) rfl ?_
    exact⟨by rw[he2];rfl,r.1,r.2.1⟩
 ·intro w1 hb1 he1
  rw[hsz] at he1 ⊢
  have hb:=hb5.trans (hb1.mono hb5.size)
  have k0:=(hb1.block _ (by rw[hsz];omega)).trans h0
  have k1:=(hb1.block _ (by rw[hsz];omega)).trans h1
  have k2:=(hb1.block _ (by rw[hsz];omega)).trans h2
  have k3:=(hb1.block _ (by rw[hsz];omega)).trans h3
  have hsz1:=(ah.1 he1).1
  have hx:=h.lt
  refine(hcl (p.add w w1).F w1 (w.heap.size+1+1) w.heap.size (w.heap.size+1) (w.heap.size+1+1+1) (h.next hb) ⟨k2,k0,k1,k3⟩ ⟨.inr ⟨by omega,by omega⟩,.inr ⟨by omega,by omega⟩,.inr ⟨by omega,by omega⟩,.inr ⟨by omega,by omega⟩⟩ ⟨⟨by omega,by omega,by omega⟩,by omega⟩ (je.fresh hp hb) (by omega)).mono ?_
  rintro ex w' ⟨hex,hT',hk,hc⟩
  have hek:=(hk.block (w.heap.size+5) hsz1 (fun e=>e.elim (fun e=>e (.inr ⟨by omega,hsz1⟩)) (fun e=>by omega))).trans he1
  have hfin:(∃F':Nat->Prop,RT {p with F:=F'} kv' w'/\(∀g,p.F g->F' g)/\F' (w.heap.size+5)/\F' (w.heap.size+1+1+1))/\Keep (fun g=>¬p.F g) w w'/\w'.heap[w.heap.size+1+1+1]? =some (.cells #[.bool mk] 4 (0,0)):=
   ⟨⟨(p.add w w1).F,hT',fun _ e=> .inl e,.inr ⟨by omega,hsz1⟩,.inr ⟨by omega,by omega⟩⟩,(Keep.of_below hb (fun g=>¬p.F g)).trans hk (fun g hg e=>e.elim (fun e x=>e (.inl x)) (fun e=>by omega)),hc.made⟩
  exact⟨hek,hex.elim (fun e=> .inl ⟨e.1,e.2,hfin⟩) (fun e=> .inr ⟨er,e.1,rfl,e.2,hfin⟩)⟩
theorem Ma (body:ByteArray)(pv:Value)(s:ByteArray)(S:Nat->Prop)(h:RT p [] w)(hp:nG w S pv [s])(hT:uV w)(hg:pM [s]=true)(hs:s.size<=64)(hlk:dG (tq [] s) ⟨#[101]⟩=none)(hr:p.rm [] 5)(hb:body.size<=63):
  Calls Tryz.prog 9 #[.pointer (some ⟨p.x,0,none⟩),pv,.string body] w fun e w'=>e= .returned (.tuple #[.bool true,.int .i64 0])/\RT p (sZ (tq [] s) id1 1 body) w'/\Keep (fun g=>¬p.F g) w w':=by
 refine Ab body pv [s] S h hp (fun x hx=>by rw[bK.1 hx];omega) hT hg true 0 _ fun F' w1 bb tb pb mb h1 h2 h3 h4 h5 h6=> ?_
 refine(ML bb tb pb mb body pv s _ h1 h2 h3 h4 h5 h6 hs hlk hr hb).mono ?_
 rintro ex w' ⟨rfl,q1,q2,q3⟩
 exact⟨.inl ⟨rfl,rfl⟩,q1,q2,q3⟩
theorem GY (body:ByteArray)(pv:Value)(path:List ByteArray)(S:Nat->Prop)(i:ByteArray)(e n:Int)(h:RT p kv w)(hp:nG w S pv path)(hs:∀s∈path,s.size<=9223372036854775807)(hT:uV w)(hg:pM path=true)(hf:nH kv path nR ⟨i,1,e⟩)(hi:i.size<=4)(hct:Tg kv ⟨#[101]⟩ n)(hr:p.rm kv 3)(hb:body.size<=63):
  Calls Tryz.prog 9 #[.pointer (some ⟨p.x,0,none⟩),pv,.string body] w fun e w'=>e= .returned (.tuple #[.bool false,.int .i64 0])/\RT p (sZ kv i (n+1) body) w'/\Keep (fun g=>¬p.F g) w w':=by
 refine Ab body pv path S h hp hs hT hg false 0 _ fun F' w1 bb tb pb mb h1 h2 h3 h4 h5 h6=> ?_
 refine(Ib bb tb pb mb body pv path _ i e n h1 h2 h3 h4 h5 hf hi hct hr hb).mono ?_
 rintro ex w' ⟨rfl,q1,q2,q3⟩
 exact⟨.inl ⟨rfl,rfl⟩,q1,q2,q3⟩
theorem OE (body:ByteArray)(pv:Value)(path:List ByteArray)(S:Nat->Prop)(h:RT p kv w)(hp:nG w S pv path)(hs:∀s∈path,s.size<=9223372036854775807)(hT:uV w)(hg:pM path=true)(hl:kv.length<=4090)(hf:nH kv path nR nd0)(h0:path≠[])(hf2:nH kv path.dropLast nR nd0)(hb:body.size<=63):
  Calls Tryz.prog 9 #[.pointer (some ⟨p.x,0,none⟩),pv,.string body] w fun e w'=>e= .returned (.tuple #[.bool false,.int .i64 61])/\RT p kv w'/\Keep (fun g=>¬p.F g) w w':=by
 refine Ab body pv path S h hp hs hT hg true 61 _ fun F' w1 bb tb pb mb h1 h2 h3 h4 h5 h6=> ?_
 refine(OX bb tb pb mb body pv path _ h1 h2 h3.2.2.2 h4 h5 h6 hl hf h0 hf2 hb).mono ?_
 rintro ex w' ⟨rfl,q1,q2⟩
 exact⟨.inr ⟨rfl,by decide⟩,h1.keep q1 (fun g e=>by rw[show g=mb from e];exact h3.2.2.2) h4.2,q1.mono (fun _ _ e=> .inr e),q2⟩
theorem RQ (pv:Value)(path:List ByteArray)(S:Nat->Prop)(m:ND)(h:RT p kv w)(hp:nG w S pv path)(hs:∀s∈path,s.size<=9223372036854775807)(hT:uV w)(hg:pM path=true)(hl:kv.length<=4090)(hf:nH kv path nR m)(hi:m.i.size<=4):
  Calls Tryz.prog 6 #[.pointer (some ⟨p.x,0,none⟩),pv] w fun e w'=>e= .returned (.tuple #[.agg (uZ kv m).toArray,.int .i64 0])/\Below w.heap.size w w':=by
 have hmf:∀(fn:Fn) (first cap:Array Value) (w:World),(Instr.makeFunc fn first cap).run Tryz.prog w= .ok (.func fn first cap) w:=fun _ _ _ _=>rfl
 obtain⟨po,pc,hpv,_,_,_,_⟩:=je.form hp
 subst hpv
 obtain⟨h0,h1,h2,h3,hsz,hb4⟩:=JH w (.cells #[.pointer (some ⟨p.x,0,none⟩)] 32) (.cells #[.slice po path.length pc] 22) (.cells #[.int .i64 0,.int .i64 0,.int .i64 0] 35) (.cells #[.slice po path.length pc] 22)
 have hr:=QB p.x 23 #[.pointer (some ⟨w.heap.size,0,none⟩),.pointer (some ⟨w.heap.size+1,0,none⟩),.pointer (some ⟨w.heap.size+1+1,0,none⟩)] (w.heap.size+1+1+1) (.slice po path.length pc) path _ _
  (fun w'=>Below w.heap.size w w'/\Row w' (w.heap.size+1+1) 35 (uZ kv m)) (fun _ _=>False)
  (fun _ _=>rfl) h3 (je.below hp hb4) hs (hT.below hb4) hg ?_
 ·rw[hsz] at hr
  have HR:=af hr
  clear h0 h1 h2 h3 hsz hb4 hr hp hs hT hg h hf hi
  go_enter Tryz.func6,Tryz.ntmps6
  go_wp2_with (first
   |(go_at_call 22;go_must (refine HR.out.mono ?_;rintro e w2 (⟨rfl,w1,⟨hb1,hq1⟩,hk2⟩|⟨n,rfl,w1,hx,hk2⟩)<;>refine Stop.of ?_)))
  refine Stop.on ?_
  have hq2:Row w2 (w.heap.size+1+1) 35 (uZ kv m):=hq1.keep hk2 (fun e=>by omega)
  have hb2:Below w.heap.size w w2:=hb1.trans (hk2.fP hb1.size fun g hg e=>by omega)
  obtain⟨rb,hrb⟩:∃rb:Nat,Hid (w.heap.size+1+1=rb):=⟨_,af rfl⟩
  rw[hrb.out] at hq2 ⊢
  obtain⟨c0,c1,c2,f0,f1,f2,lr⟩:=yC (show Row w2 rb 35 [.int .i64 m.k,.int .i64 (if m.k=1 then(((dG kv (rQ m.i)).getD ByteArray.empty).size:Int) else 0),.int .i64 m.e] from hq2)
  have HB:=af hb2
  clear hb1 hq1 hk2 hb2
  obtain⟨z,hz⟩:∃z,Hid ((if m.k=1 then(((dG kv (rQ m.i)).getD ByteArray.empty).size:Int) else 0)=z):=⟨_,af rfl⟩
  unfold uZ at hq2
  rw[hz.out] at c1 hq2
  go_wp2_with (first
   |((refine dh rfl ?_);intro K hK;(refine wp_store_row 35 (.tmp 4) (.tmp 11) rfl rb 0 35 _ [.int .i64 m.k,.int .i64 z,.int .i64 m.e] rfl rfl hq2 yu (ax 3) (by simp[Value.oneCell']) ?_);intro w4 hr5 hk5;refine hK _ _ ?_))
  refine eO (qj rfl _ w4 rb _ (.int .i64 0) rfl (run_loadVar_row w4 rb 35 35 _ (0,0) _ hr5 Tryz.underlying35 rfl (by kernel_rfl)) rfl) rfl ?_
  unfold uZ
  rw[hz.out]
  exact⟨rfl,HB.out.trans (hk5.fP HB.out.size fun g hg e=>by have:=hrb.out;omega)⟩
 ·intro w1 hb1 he1
  rw[hsz] at he1 ⊢
  have hb:=hb4.trans (hb1.mono hb4.size)
  have k0:=(hb1.block _ (by rw[hsz];omega)).trans h0
  have k1:=(hb1.block _ (by rw[hsz];omega)).trans h1
  have k2:=(hb1.block _ (by rw[hsz];omega)).trans h2
  have hsz1:=(ah.1 he1).1
  have hx:=h.lt
  refine(Kc w.heap.size (w.heap.size+1) (w.heap.size+1+1) (.slice po path.length pc) path _ m (h.next hb) k0 k1 k2 (.inr ⟨by omega,by omega⟩) ⟨by omega,by omega,by show p.x≠_;omega⟩ (je.fresh hp hb) hl hf hi).mono ?_
  rintro ex w' ⟨rfl,hq,hk⟩
  have hek:=(hk.block (w.heap.size+4) hsz1 (fun e=>by omega)).trans he1
  exact⟨hek,.inl ⟨rfl,hb.trans (hk.fP hb.size fun g hg e=>by omega),hq⟩⟩
theorem EI (pv:Value)(path:List ByteArray)(S:Nat->Prop)(m:ND)(h:RT p kv w)(hp:nG w S pv path)(hs:∀s∈path,s.size<=9223372036854775807)(hT:uV w)(hg:pM path=true)(hl:kv.length<=4090)(hf:nH kv path nR m)(hm:m.k=1):
  Calls Tryz.prog 14 #[.pointer (some ⟨p.x,0,none⟩),pv] w fun e w'=>e= .returned (.int .i64 3)/\Below w.heap.size w w':=by
 have hmf:∀(fn:Fn) (first cap:Array Value) (w:World),(Instr.makeFunc fn first cap).run Tryz.prog w= .ok (.func fn first cap) w:=fun _ _ _ _=>rfl
 obtain⟨po,pc,hpv,_,_,_,_⟩:=je.form hp
 subst hpv
 obtain⟨h0,h1,h2,hsz,hb3⟩:=Pz w (.cells #[.pointer (some ⟨p.x,0,none⟩)] 32) (.cells #[.slice po path.length pc] 22) (.cells #[.slice po path.length pc] 22)
 have hr:=QB p.x 45 #[.pointer (some ⟨w.heap.size,0,none⟩),.pointer (some ⟨w.heap.size+1,0,none⟩)] (w.heap.size+1+1) (.slice po path.length pc) path _ _
  (fun _=>False) (fun n w'=>n=3/\Below w.heap.size w w') (fun _ _=>rfl) h2 (je.below hp hb3) hs (hT.below hb3) hg ?_
 ·rw[hsz] at hr
  have HR:=af hr
  clear h0 h1 h2 hsz hb3 hr hp hs hT hg h hf hm
  go_enter Tryz.func14,Tryz.ntmps14
  go_wp2_with (first
   |(go_at_call 22;go_must (refine HR.out.mono ?_;rintro e w2 (⟨rfl,w1,hx,hk2⟩|⟨n,rfl,w1,⟨rfl,hb1⟩,hk2⟩)<;>refine Stop.of ?_)))
  refine Stop.on ?_
  have HB:=af (hb1.trans (hk2.fP hb1.size fun g hg e=>by omega))
  clear hb1 hk2
  go_wp2_with fail
  go_ret
  exact⟨rfl,HB.out⟩
 ·intro w1 hb1 he1
  rw[hsz] at he1 ⊢
  have hb:=hb3.trans (hb1.mono hb3.size)
  have k0:=(hb1.block _ (by rw[hsz];omega)).trans h0
  have k1:=(hb1.block _ (by rw[hsz];omega)).trans h1
  have hsz1:=(ah.1 he1).1
  refine(Fx w.heap.size (w.heap.size+1) (.slice po path.length pc) path _ m (h.next hb) k0 k1 (je.fresh hp hb) hl hf hm).mono ?_
  rintro ex w' ⟨rfl,hb'⟩
  exact⟨(hb'.block _ hsz1).trans he1,.inr ⟨3,rfl,rfl,hb.trans (hb'.mono hb.size)⟩⟩
end
def sa:ByteArray:=⟨#[97]⟩
def sb1:ByteArray:=⟨#[98]⟩
def QJ:ByteArray:=⟨#[99]⟩
def sx:ByteArray:=⟨#[120]⟩
def sy:ByteArray:=⟨#[121]⟩
theorem TP.rm.new {p:TP}{kv:List Pr}{k:Nat}(h:p.rm kv (k+2))(s:ByteArray):p.rm (tq kv s) k:=(TP.rm.ins (k:=k+1) h (om 1) _).ins (by decide) _
theorem TP.rm.R8 {p:TP}{kv:List Pr}{k:Nat}(h:p.rm kv (k+3))(i:ByteArray)(e:Int){body:ByteArray}(hb:body.size<=63):p.rm (sZ kv i e body) k:=(TP.rm.ins (TP.rm.ins (k:=k+2) h (om e) _) (by rw[o6];omega) _).ins hb _
theorem TP.rm.less {p:TP}{kv:List Pr}{k m:Nat}(h:p.rm kv k)(hm:m<=k):p.rm kv m:=⟨by have:=h.1;omega,by have:=h.2.1;omega,h.2.2⟩
def P7:List Pr:=sZ (tq [] sa) id1 1 sx
def Oo:List Pr:=sZ P7 id1 2 sy
theorem Sm:dG (tq [] sa) ⟨#[101]⟩=none:=by kernel_rfl
theorem Q7:dG P7 (tT nR.i sa)=some id1:=by kernel_rfl
theorem Q6:dG P7 (uT id1)=some (vO 1 1):=by kernel_rfl
theorem Q5:dG P7 ⟨#[101]⟩=some (strOf (ku 1)):=by kernel_rfl
theorem Q0:dG Oo (tT nR.i sa)=some id1:=by kernel_rfl
theorem QZ:dG Oo (uT id1)=some (vO 1 2):=by kernel_rfl
theorem M8:dG Oo (tT nR.i sb1)=none:=by kernel_rfl
theorem QY:dG Oo (rQ id1)=some sy:=by kernel_rfl
theorem SF:nH P7 [sa] nR ⟨id1,1,1⟩:=⟨by decide,.inr ⟨rfl,⟨id1,1,1⟩,Q7,by decide,⟨Q6,by decide,by decide,by decide,by decide⟩,rfl⟩⟩
theorem P9:nH Oo [sa] nR ⟨id1,1,2⟩:=⟨by decide,.inr ⟨rfl,⟨id1,1,2⟩,Q0,by decide,⟨QZ,by decide,by decide,by decide,by decide⟩,rfl⟩⟩
theorem SE:nH Oo [sb1,QJ] nR nd0:=⟨by decide,.inl ⟨M8,rfl⟩⟩
theorem SC:nH Oo [sb1] nR nd0:=⟨by decide,.inl ⟨M8,rfl⟩⟩
theorem JA:pM [sa]=true:=by kernel_rfl
theorem Sz:pM [sb1,QJ]=true:=by kernel_rfl
theorem wU (w:World)(a:ByteArray):nG (w.alloc (.cells #[.string a] 9)) gJ (.slice (some ⟨w.heap.size,0,none⟩) 1 1) [a]:=
 Row.O8 (e:=9) (cur:=[.string a]) (off:=0) (k:=1) (aK w _) 1 1 (by simp) id (by omega) (by unfold maxLen;omega)
theorem Kw (w:World)(a b:ByteArray):nG (w.alloc (.cells #[.string a,.string b] 9)) gJ (.slice (some ⟨w.heap.size,0,none⟩) 2 2) [a,b]:=
 Row.O8 (e:=9) (cur:=[.string a,.string b]) (off:=0) (k:=1) (aK w _) 2 2 (by simp) id (by omega) (by unfold maxLen;omega)
theorem QC (w:World)(hT:uV w):Calls Tryz.prog 4 #[] w fun e w'=>e= .returned (.bool true)/\Below w.heap.size w w':=by
 have HT:=af hT
 clear hT
 go_enter Tryz.func4,Tryz.ntmps4
 go_wp2_with (first
  |(go_at_call 20;go_must ((refine(TQ 4096 w).mono ?_);rintro e w1 ⟨d,S,rfl,hD,hb1,hS⟩;have HV:=af (SV.make w w1 4096 600 d S (VB.of hb1 hS) hD (by omega) (by omega));clear hD hb1 hS))
  |(go_at_call 19;go_must ((refine HV.out.mono ?_);rintro e w2 ⟨v,rfl,hV2⟩;clear HV))
  |(go_at_call 21;go_must ((refine hV2.begin.mono ?_);rintro e w3 ⟨t,rfl,hT3⟩;clear hV2))
  |(go_at_call 5;go_must ((refine(OC t w3).mono ?_);rintro e w4 ⟨rfl,hob,hb4⟩;refine Stop.of ?_)))
 refine Stop.on ?_
 have hw34:=hT3.qI.trans (hb4.mono hT3.qI.size)
 have hR4:RT ⟨fun g=>g<w.heap.size\/(w3.heap.size<=g/\g<w4.heap.size),JG,v,t,w3.heap.size,3496,599,0,0,40,[]⟩ [] w4:=
  ⟨⟨false,(hT3.more (P':=40) (by omega)).next (Keep.of_below hb4 (fun _=>False)) (fun _ e=>e.elim)⟩,hob,.inr ⟨ax _,(ah.1 hob).1⟩⟩
 have hFw:∀g,g<w.heap.size->(g<w.heap.size\/(w3.heap.size<=g/\g<w4.heap.size)):=fun g e=> .inl e
 have hrm:TP.rm ⟨fun g=>g<w.heap.size\/(w3.heap.size<=g/\g<w4.heap.size),JG,v,t,w3.heap.size,3496,599,0,0,40,[]⟩ [] 10:=⟨by simp,by show 2+0+0+2*(0+10)<=40;omega,by show 40<=3496;omega⟩
 obtain⟨p,hp⟩:∃p:TP,Hid (p=⟨fun g=>g<w.heap.size\/(w3.heap.size<=g/\g<w4.heap.size),JG,v,t,w3.heap.size,3496,599,0,0,40,[]⟩):=⟨_,af rfl⟩
 have hpx:p.x=w3.heap.size:=by rw[hp.out]
 have hpF:∀g,g<w.heap.size->p.F g:=by rw[hp.out];exact hFw
 rw[<-hp.out] at hR4 hrm
 rw[<-hpx]
 have HX:=af (ay hw34 (ay hR4 (ay hrm hpF)))
 clear hT3 hob hb4 hw34 hR4 hFw hrm hpx hpF
 have htb:∀W:World,Below w.heap.size w W->uV W:=fun W hb=>HT.out.below hb
 have HTB:=af htb
 clear htb
 have hb5:=aF w4 (.cells #[.string sa] 9)
 have hB5:=HX.out.1.trans (hb5.mono HX.out.1.size)
 have hq5:=Ma sx _ sa gJ (HX.out.2.1.below hb5) (wU w4 sa) (HTB.out _ hB5) JA (by decide) Sm (HX.out.2.2.1.less (by omega)) (by decide)
 rw[show sZ (tq [] sa) id1 1 sx=P7 from rfl] at hq5
 unfold sa sx at hq5
 unfold sa at hB5
 have HQ5:=af hq5
 have HB5:=af hB5
 clear hb5 hB5 hq5
 go_wp2_with (first
  |(go_at_call 9;go_must (refine HQ5.out.mono ?_;rintro e w6 ⟨rfl,hR6,hk6⟩;refine Stop.of ?_)))
 refine Stop.on ?_
 have hB6:Below w.heap.size w w6:=HB5.out.trans (hk6.fP HB5.out.size fun g hg e=>e (HX.out.2.2.2 g hg))
 have hb7:=aF w6 (.cells #[.string sa] 9)
 have hB7:=hB6.trans (hb7.mono hB6.size)
 have hrA:p.rm P7 5:=(HX.out.2.2.1.new sa).R8 (k:=5) id1 1 (by decide)
 have hq7:=GY sy _ [sa] gJ id1 1 1 (hR6.below hb7) (wU w6 sa) (by decide) (HTB.out _ hB7) JA SF (by decide) (.inr ⟨Q5,by decide,by decide⟩) (hrA.less (by omega)) (by decide)
 rw[show sZ P7 id1 (1+1) sy=Oo from rfl] at hq7
 have hrB:p.rm Oo 2:=hrA.R8 (k:=2) id1 2 (by decide)
 unfold sa sy at hq7
 unfold sa at hB7
 have HQ7:=af hq7
 have HB7:=af (ay hB7 hrB)
 clear hB6 hk6 hR6 hb7 hB7 hrA hq7 hrB
 go_wp2_with (first
  |(go_at_call 9;go_must (refine HQ7.out.mono ?_;rintro e w8 ⟨rfl,hR8,hk8⟩;refine Stop.of ?_)))
 refine Stop.on ?_
 have hB8:Below w.heap.size w w8:=HB7.out.1.trans (hk8.fP HB7.out.1.size fun g hg e=>e (HX.out.2.2.2 g hg))
 have hb9:=aF w8 (.cells #[.string sb1,.string QJ] 9)
 have hB9:=hB8.trans (hb9.mono hB8.size)
 have hq9:=OE sx _ [sb1,QJ] gJ (hR8.below hb9) (Kw w8 sb1 QJ) (by decide) (HTB.out _ hB9) Sz HB7.out.2.le SE (by simp) SC (by decide)
 unfold sb1 QJ sx at hq9
 unfold sb1 QJ at hB9
 have HQ9:=af hq9
 have HB9:=af hB9
 clear hB8 hk8 hR8 hb9 hB9 hq9
 go_wp2_with (first
  |(go_at_call 9;go_must (refine HQ9.out.mono ?_;rintro e w10 ⟨rfl,hR10,hk10⟩;refine Stop.of ?_)))
 refine Stop.on ?_
 have hB10:Below w.heap.size w w10:=HB9.out.trans (hk10.fP HB9.out.size fun g hg e=>e (HX.out.2.2.2 g hg))
 have hb11:=aF w10 (.cells #[.string sa] 9)
 have hB11:=hB10.trans (hb11.mono hB10.size)
 have hq11:=RQ _ [sa] gJ ⟨id1,1,2⟩ (hR10.below hb11) (wU w10 sa) (by decide) (HTB.out _ hB11) JA HB7.out.2.le P9 (by decide)
 have hsv:(uZ Oo ⟨id1,1,2⟩).toArray=#[.int .i64 1,.int .i64 1,.int .i64 2]:=by unfold uZ;rw[QY];rfl
 rw[hsv] at hq11
 have hR11:=hR10.below hb11
 unfold sa at hq11 hB11 hR11
 have HQ11:=af hq11
 have HB11:=af (ay hB11 hR11)
 clear hB10 hk10 hR10 hb11 hB11 hq11 hsv hR11
 go_wp2_with (first
  |(go_at_call 6;go_must (refine HQ11.out.mono ?_;rintro e w12 ⟨rfl,hb12⟩;refine Stop.of ?_)))
 refine Stop.on ?_
 have hb13:=aF w12 (.cells #[.int .i64 1,.int .i64 1,.int .i64 2] 35)
 have hn13:=aK w12 (.cells #[.int .i64 1,.int .i64 1,.int .i64 2] 35)
 obtain⟨w13,hw13⟩:∃w13:World,Hid (w12.alloc (.cells #[.int .i64 1,.int .i64 1,.int .i64 2] 35)=w13):=⟨_,af rfl⟩
 rw[hw13.out] at hb13 hn13
 have hbx:=hb12.trans (hb13.mono hb12.size)
 have hB13:=HB11.out.1.trans (hbx.mono HB11.out.1.size)
 have hR13:=HB11.out.2.below hbx
 have hb14:=aF w13 (.cells #[.string sa] 9)
 have hB14:=hB13.trans (hb14.mono hB13.size)
 have hq14:=EI _ [sa] gJ ⟨id1,1,2⟩ (hR13.below hb14) (wU w13 sa) (by decide) (HTB.out _ hB14) JA HB7.out.2.le P9 rfl
 unfold sa at hq14 hB14
 have HQ14:=af hq14
 have HB14:=af hB14
 obtain⟨ib,hib⟩:∃ib:Nat,Hid (w12.heap.size=ib):=⟨_,af rfl⟩
 rw[hib.out] at hn13
 obtain⟨c0,c1,c2,f0,f1,f2,li⟩:=yC hn13
 clear hb12 hb13 hn13 hbx hB13 hR13 hb14 hB14 hq14 f0 f1 f2
 go_upto_region 10 with (fail)
 rw[hw13.out,hib.out]
 go_wp2_with (first
  |(go_at_call 14;go_must (refine HQ14.out.mono ?_;rintro e w15 ⟨rfl,hb15⟩)))
 go_ret
 exact⟨rfl,HB14.out.trans (hb15.mono HB14.out.size)⟩
theorem iN {w:World}{ob:Nat}{kd:Int}{po qo ao ko:Option Addr}{pn pc qn qc an ac kn kc:Nat}{body:ByteArray}{deep:Bool}{s1 s2 s3 r1 r2:ByteArray}{dp:Int}(h:w.heap[ob]? =some (.cells #[.int .u8 kd,.slice po pn pc,.slice qo qn qc,.string body,.bool deep,.string s1,.string s2,.string s3,.slice ao an ac,.slice ko kn kc,.string r1,.string r2,.int .i64 dp] 30 (0,0))):w.cell? ⟨ob,1,none⟩=some (.slice po pn pc)/\w.cell? ⟨ob,2,none⟩=some (.slice qo qn qc)/\w.cell? ⟨ob,3,none⟩=some (.string body)/\w.cell? ⟨ob,4,none⟩=some (.bool deep)/\w.cell? ⟨ob,5,none⟩=some (.string s1)/\w.cell? ⟨ob,6,none⟩=some (.string s2)/\w.cell? ⟨ob,7,none⟩=some (.string s3)/\w.cell? ⟨ob,8,none⟩=some (.slice ao an ac)/\w.cell? ⟨ob,9,none⟩=some (.slice ko kn kc)/\w.cell? ⟨ob,10,none⟩=some (.string r1)/\w.cell? ⟨ob,11,none⟩=some (.string r2)/\w.cell? ⟨ob,12,none⟩=some (.int .i64 dp)/\ob<w.heap.size:=
 ⟨by simp[World.cell?,h],by simp[World.cell?,h],by simp[World.cell?,h],by simp[World.cell?,h],by simp[World.cell?,h],by simp[World.cell?,h],by simp[World.cell?,h],by simp[World.cell?,h],by simp[World.cell?,h],by simp[World.cell?,h],by simp[World.cell?,h],by simp[World.cell?,h],(ah.1 h).1⟩
theorem GZ (kd:Int)(po qo ao ko:Option Addr)(pn pc qn qc an ac kn kc:Nat)(body:ByteArray)(deep:Bool)(s1 s2 s3 r1 r2:ByteArray)(dp:Int)(w:World)(hT:uV w):
  Calls Tryz.prog 3 #[.agg #[.int .u8 kd,.slice po pn pc,.slice qo qn qc,.string body,.bool deep,.string s1,.string s2,.string s3,.slice ao an ac,.slice ko kn kc,.string r1,.string r2,.int .i64 dp]] w fun e w'=>e= .returned (.bool true)/\Below w.heap.size w w':=by
 have hb1:=aF w (.cells #[.int .u8 kd,.slice po pn pc,.slice qo qn qc,.string body,.bool deep,.string s1,.string s2,.string s3,.slice ao an ac,.slice ko kn kc,.string r1,.string r2,.int .i64 dp] 30)
 have hn1:=aK w (.cells #[.int .u8 kd,.slice po pn pc,.slice qo qn qc,.string body,.bool deep,.string s1,.string s2,.string s3,.slice ao an ac,.slice ko kn kc,.string r1,.string r2,.int .i64 dp] 30)
 obtain⟨w1,hw1⟩:∃w1:World,Hid (w.alloc (.cells #[.int .u8 kd,.slice po pn pc,.slice qo qn qc,.string body,.bool deep,.string s1,.string s2,.string s3,.slice ao an ac,.slice ko kn kc,.string r1,.string r2,.int .i64 dp] 30)=w1):=⟨_,af rfl⟩
 rw[hw1.out] at hb1 hn1
 obtain⟨ob,hob⟩:∃ob:Nat,Hid (w.heap.size=ob):=⟨_,af rfl⟩
 rw[hob.out] at hn1
 have HFX:=af (QC w1 (hT.below hb1))
 have HX:=af (ay hb1 hn1)
 clear hb1 hn1 hT
 go_enter Tryz.func3,Tryz.ntmps3
 go_upto_region 1 with (fail)
 rw[hw1.out,hob.out]
 go_wp2_with (first
  |(go_at_call 4;go_must (refine HFX.out.mono ?_;rintro e w2 ⟨rfl,hb2⟩;refine Stop.of ?_)))
 refine Stop.on ?_
 have cel:∀W:World,Below w1.heap.size w1 W->W.heap[ob]? =some (.cells #[.int .u8 kd,.slice po pn pc,.slice qo qn qc,.string body,.bool deep,.string s1,.string s2,.string s3,.slice ao an ac,.slice ko kn kc,.string r1,.string r2,.int .i64 dp] 30 (0,0)):=fun W hb=>(hb.block ob (ah.1 HX.out.2).1).trans HX.out.2
 have HC:=af cel
 have HB2:=af hb2
 clear cel hb2
 obtain⟨c1,c2,c3,c4,c5,c6,c7,c8,c9,c10,c11,c12,cl⟩:=iN (HC.out w2 HB2.out)
 go_wp2_with (first
  |(go_at_call 5;go_must (refine(ED _).mono ?_;rintro e w3 ⟨rfl,hw3⟩;subst w3))
  |(go_at_call 6;go_must (refine(Mr po pn pc w2).mono ?_;rintro e w3 ⟨rfl,hb3⟩;refine Stop.of ?_)))
 refine Stop.on ?_
 have hb4:=aF w3 (.cells #[.int .i64 0,.int .i64 0,.int .i64 0] 35)
 obtain⟨w4,hw4⟩:∃w4:World,Hid (w3.alloc (.cells #[.int .i64 0,.int .i64 0,.int .i64 0] 35)=w4):=⟨_,af rfl⟩
 rw[hw4.out] at hb4
 have HB4:=af (HB2.out.trans ((hb3.trans (hb4.mono hb3.size)).mono HB2.out.size))
 clear hb3 hb4 c1 c2 c3 c4 c5 c6 c7 c8 c9 c10 c11 c12 cl
 go_upto_region 5 with (fail)
 rw[hw4.out]
 obtain⟨c1,c2,c3,c4,c5,c6,c7,c8,c9,c10,c11,c12,cl⟩:=iN (HC.out w4 HB4.out)
 go_wp2_with (first
  |(go_at_call 7;go_must (refine(MJ po pn pc w4).mono ?_;rintro e w5 ⟨rfl,hb5⟩;refine Stop.of ?_)))
 refine Stop.on ?_
 have HB5:=af (HB4.out.trans (hb5.mono HB4.out.size))
 clear hb5 c1 c2 c3 c4 c5 c6 c7 c8 c9 c10 c11 c12 cl
 obtain⟨c1,c2,c3,c4,c5,c6,c7,c8,c9,c10,c11,c12,cl⟩:=iN (HC.out w5 HB5.out)
 go_wp2_with (first
  |(go_at_call 8;go_must (refine(Na po pn pc w5).mono ?_;rintro e w6 ⟨rfl,hb6⟩;refine Stop.of ?_)))
 refine Stop.on ?_
 have HB6:=af (HB5.out.trans (hb6.mono HB5.out.size))
 clear hb6 c1 c2 c3 c4 c5 c6 c7 c8 c9 c10 c11 c12 cl
 obtain⟨c1,c2,c3,c4,c5,c6,c7,c8,c9,c10,c11,c12,cl⟩:=iN (HC.out w6 HB6.out)
 go_wp2_with (first
  |(go_at_call 9;go_must (refine(OV po pn pc body w6).mono ?_;rintro e w7 ⟨rfl,hb7⟩;refine Stop.of ?_)))
 refine Stop.on ?_
 have HB7:=af (HB6.out.trans (hb7.mono HB6.out.size))
 clear hb7 c1 c2 c3 c4 c5 c6 c7 c8 c9 c10 c11 c12 cl
 obtain⟨c1,c2,c3,c4,c5,c6,c7,c8,c9,c10,c11,c12,cl⟩:=iN (HC.out w7 HB7.out)
 go_wp2_with (first
  |(go_at_call 10;go_must (refine(Kt po pn pc w7).mono ?_;rintro e w8 ⟨rfl,hb8⟩;refine Stop.of ?_)))
 refine Stop.on ?_
 have HB8:=af (HB7.out.trans (hb8.mono HB7.out.size))
 clear hb8 c1 c2 c3 c4 c5 c6 c7 c8 c9 c10 c11 c12 cl
 obtain⟨c1,c2,c3,c4,c5,c6,c7,c8,c9,c10,c11,c12,cl⟩:=iN (HC.out w8 HB8.out)
 go_wp2_with (first
  |(go_at_call 11;go_must (refine(KU po pn pc r1 r2 w8).mono ?_;rintro e w9 ⟨rfl,hb9⟩;refine Stop.of ?_)))
 refine Stop.on ?_
 have HB9:=af (HB8.out.trans (hb9.mono HB8.out.size))
 clear hb9 c1 c2 c3 c4 c5 c6 c7 c8 c9 c10 c11 c12 cl
 obtain⟨c1,c2,c3,c4,c5,c6,c7,c8,c9,c10,c11,c12,cl⟩:=iN (HC.out w9 HB9.out)
 go_wp2_with (first
  |(go_at_call 12;go_must (refine(walk_nil po pn pc dp w9).mono ?_;rintro e w10 ⟨rfl,hb10⟩;refine Stop.of ?_)))
 refine Stop.on ?_
 have HB10:=af (HB9.out.trans (hb10.mono HB9.out.size))
 clear hb10 c1 c2 c3 c4 c5 c6 c7 c8 c9 c10 c11 c12 cl
 obtain⟨c1,c2,c3,c4,c5,c6,c7,c8,c9,c10,c11,c12,cl⟩:=iN (HC.out w10 HB10.out)
 go_wp2_with (first
  |(go_at_call 13;go_must (refine(LX w10).mono ?_;rintro e w11 ⟨rfl,hb11⟩;refine Stop.of ?_)))
 refine Stop.on ?_
 have HB11:=af (HB10.out.trans (hb11.mono HB10.out.size))
 clear hb11 c1 c2 c3 c4 c5 c6 c7 c8 c9 c10 c11 c12 cl
 obtain⟨c1,c2,c3,c4,c5,c6,c7,c8,c9,c10,c11,c12,cl⟩:=iN (HC.out w11 HB11.out)
 go_wp2_with (first
  |(go_at_call 14;go_must (refine(M5 po pn pc w11).mono ?_;rintro e w12 ⟨rfl,hb12⟩;refine Stop.of ?_)))
 refine Stop.on ?_
 have HB12:=af (HB11.out.trans (hb12.mono HB11.out.size))
 clear hb12 c1 c2 c3 c4 c5 c6 c7 c8 c9 c10 c11 c12 cl
 obtain⟨c1,c2,c3,c4,c5,c6,c7,c8,c9,c10,c11,c12,cl⟩:=iN (HC.out w12 HB12.out)
 go_wp2_with (first
  |(go_at_call 15;go_must (refine(IL po pn pc w12).mono ?_;rintro e w13 ⟨rfl,hb13⟩;refine Stop.of ?_)))
 refine Stop.on ?_
 have HB13:=af (HB12.out.trans (hb13.mono HB12.out.size))
 clear hb13 c1 c2 c3 c4 c5 c6 c7 c8 c9 c10 c11 c12 cl
 obtain⟨c1,c2,c3,c4,c5,c6,c7,c8,c9,c10,c11,c12,cl⟩:=iN (HC.out w13 HB13.out)
 go_wp2_with (first
  |(go_at_call 16;go_must (refine(NF po pn pc qo qn qc deep w13).mono ?_;rintro e w14 ⟨rfl,hb14⟩;refine Stop.of ?_)))
 refine Stop.on ?_
 have HB14:=af (HB13.out.trans (hb14.mono HB13.out.size))
 clear hb14 c1 c2 c3 c4 c5 c6 c7 c8 c9 c10 c11 c12 cl
 obtain⟨c1,c2,c3,c4,c5,c6,c7,c8,c9,c10,c11,c12,cl⟩:=iN (HC.out w14 HB14.out)
 go_wp2_with (first
  |(go_at_call 17;go_must (refine(MX po pn pc qo qn qc w14).mono ?_;rintro e w15 ⟨rfl,hb15⟩;refine Stop.of ?_)))
 refine Stop.on ?_
 have HB15:=af (HB14.out.trans (hb15.mono HB14.out.size))
 clear hb15 c1 c2 c3 c4 c5 c6 c7 c8 c9 c10 c11 c12 cl
 obtain⟨c1,c2,c3,c4,c5,c6,c7,c8,c9,c10,c11,c12,cl⟩:=iN (HC.out w15 HB15.out)
 go_wp2_with (first
  |(go_at_call 18;go_must (refine(Ke po pn pc s1 s2 s3 ao ko an ac kn kc w15).mono ?_;rintro e w16 ⟨rfl,hb16⟩)))
 go_ret
 exact⟨rfl,HX.out.1.trans ((HB15.out.trans (hb16.mono HB15.out.size)).mono HX.out.1.size)⟩
end Go.Proofs.YtbfjgkafmlbpcaaGreatDoor
