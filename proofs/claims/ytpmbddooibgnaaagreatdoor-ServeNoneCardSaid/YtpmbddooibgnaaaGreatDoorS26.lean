/- parts -/
import Derived.Test.YtpmbddooibgnaaaGreatDoorS14
import Derived.Test.YtpmbddooibgnaaaGreatDoorS24
import Derived.Test.YtpmbddooibgnaaaGreatDoorS25
set_option maxRecDepth 100000
set_option maxHeartbeats 8000000
set_option linter.all false
namespace Go.Proofs.YtpmbddooibgnaaaGreatDoor
open Go.RowKit Go.Shelf
theorem TS:TB hsP ⟨#[105,102]⟩:=⟨by decide,by intro p hp;simp only[hsP,aX,cK,iL] at hp;rcases hp with rfl|rfl<;>kernel_rfl⟩
theorem TT:TB hsP ⟨#[99,111,110,116,101,110,116,45,114,97,110,103,101]⟩:=⟨by decide,by intro p hp;simp only[hsP,aX,cK,iL] at hp;rcases hp with rfl|rfl<;>kernel_rfl⟩
theorem TU {p:TP}{w:World}(h:RT p [] w)(jb:Nat)(hv:Value)(now:Int)(draw:ByteArray)(g c:Nat)(lb B:Nat)(hj:gI w jb hv now draw (.slice (some ⟨g,0,none⟩) 1 c) p.x lb)(ho:aQ w d9 B 9 1 (.slice (some ⟨g,0,none⟩) 1 c) 1 [.string ji])(hc:1<=c/\c<=9223372036854775807)(hh:jP w hv hsP)(hT:kQ w)(hF:p.F jb/\p.F g/\p.F (fK.g 3)/\p.F (fK.g 4))(hr:p.rm [] 5):
  Calls Tryz.prog 61 #[.pointer (some ⟨jb,0,none⟩)] w fun e w'=>∃hv',e= .returned (.tuple #[.agg #[.int .i64 201,hv',.string ⟨#[]⟩,.bool false,.bool false],.bool true])/\(∃F':Nat->Prop,RT {p with F:=F'} Fp w'/\(∀g,p.F g->F' g)/\∀b,hv'.ownBlock=some b->F' b)/\jP w' hv' qN/\(∀b,hv'.ownBlock=some b->w.heap.size<=b)/\Keep (fun g=>¬p.F g) w w':=by
 have hb1:=aC w (.cells #[.int .i64 0,.slice none 0 0,.string ⟨#[]⟩,.bool false,.bool false] 81)
 have hn1:=aF w (.cells #[.int .i64 0,.slice none 0 0,.string ⟨#[]⟩,.bool false,.bool false] 81)
 obtain⟨w1,hw1⟩:∃x:World,Hid (w.alloc (.cells #[.int .i64 0,.slice none 0 0,.string ⟨#[]⟩,.bool false,.bool false] 81)=x):=⟨_,af rfl⟩
 rw[hw1.out] at hb1 hn1
 obtain⟨rb,hrb⟩:∃x:Nat,Hid (w.heap.size=x):=⟨_,af rfl⟩
 rw[hrb.out] at hn1
 have hj1:=hj.below hb1
 have hh1:jP w1 hv hsP:=aW.below hh hb1
 have HS:=af (Ij jb hv now draw _ p.x lb hsP _ w1 hj1 hh1 TS)
 have lj:=hj1.lt
 have HA:=af (ak h (ak hj (ak ho (ak hT (ak hF (ak hr (ak hb1 (ak hn1 (ak hrb.out (ak hj1 hh1))))))))))
 have HC:=af hc
 clear h hj ho hc hT hF hr hb1 hn1 hj1 hh hh1
 go_enter Tryz.func61,Tryz.ntmps61
 go_upto_region 1 with (fail)
 rw[hw1.out,hrb.out]
 go_wp2_with (first
  |(go_at_call 110;go_must (refine HS.out.mono ?_;rintro e w2 ⟨rfl,hb2⟩;refine Stop.of ?_)))
 refine Stop.on ?_
 have HP:=af (LJ jb hv now draw _ p.x lb hsP w2 (HA.out.2.2.2.2.2.2.2.2.2.1.below hb2) (aW.below HA.out.2.2.2.2.2.2.2.2.2.2 hb2) TT)
 have HB2:=af hb2
 clear hb2
 go_wp2_with (first
  |(go_at_call 112;go_must (refine HP.out.mono ?_;rintro e w3 ⟨rfl,hb3⟩;refine Stop.of ?_)))
 refine Stop.on ?_
 have hb13:=HB2.out.trans (hb3.mono HB2.out.size)
 have hB3:=HA.out.2.2.2.2.2.2.1.trans (hb13.mono HA.out.2.2.2.2.2.2.1.size)
 have hj3:=HA.out.2.1.below hB3
 obtain⟨_,_,_,_,_,_,c13⟩:=hj3.p
 have lj3:=hj3.lt
 have hR3:=HA.out.1.next hB3
 have HPT:=af (TV hR3 jb hv now draw g c lb B hj3 (HA.out.2.2.1.below hB3) HC.out (HA.out.2.2.2.1.below hB3) ⟨.inl HA.out.2.2.2.2.1.1,.inl HA.out.2.2.2.2.1.2.1,.inl HA.out.2.2.2.2.1.2.2.1,.inl HA.out.2.2.2.2.1.2.2.2⟩ HA.out.2.2.2.2.2.1)
 have HX:=af (ak hb13 hB3)
 clear hb3 hb13 hB3 hj3 hR3 lj
 go_wp2_with (first
  |(refine HPT.out.mono ?_;rintro e w4 ⟨hv',rfl,⟨F4,hR4,hF4,hO4⟩,hh4,hlo4,hk4⟩;refine Stop.of ?_))
 refine Stop.on ?_
 obtain⟨ho',hc',rfl,_,_,_,_⟩:=aW.form hh4
 have hl3:rb<w3.heap.size:=ax (ah.1 HA.out.2.2.2.2.2.2.2.1).1 HX.out.1.size
 have hr3:=(HX.out.1.block rb (ah.1 HA.out.2.2.2.2.2.2.2.1).1).trans HA.out.2.2.2.2.2.2.2.1
 have hr4:Row w4 rb 81 [.int .i64 0,.slice none 0 0,.string ⟨#[]⟩,.bool false,.bool false]:=(hk4.block rb hl3 (fun e=>e (.inr ⟨fA HA.out.2.2.2.2.2.2.2.2.1,hl3⟩))).trans hr3
 have HF4:=af (ak hF4 hO4)
 have HX4:=af (ak hR4 (ak hh4 (ak hlo4 (ak hk4 hl3))))
 clear hR4 hh4 hlo4 hk4 hl3 hr3 c13 lj3 hF4 hO4
 go_wp2_with (first
  |((refine bU rfl ?_);intro K hK;(refine wp_store_row 81 (.tmp 2) (.tmp 57) rfl rb 0 81 _ [.int .i64 201,.slice ho' qN.length hc',.string ⟨#[]⟩,.bool false,.bool false] rfl rfl hr4 mI (aA 5) (by intro v hv;simp only[aX,cK,iL] at hv;rcases hv with rfl|rfl|rfl|rfl|rfl<;>rfl) ?_);intro w5 hr5 hk5;refine hK _ _ ?_))
 have hn5:kL w5 rb (.slice ho' qN.length hc') ⟨#[]⟩ false false:=hr5
 obtain⟨d0,d1,d2,d3,d4,_⟩:=hn5.cells
 refine eX (by simp[results,Tryz.results61,go_sem,d0,d1,d2,d3,d4];rfl) rfl ?_
 have hlo:∀b,(Value.slice ho' qN.length hc').ownBlock=some b->w3.heap.size<=b:=HX4.out.2.2.1
 have hw3:w.heap.size=rb:=HA.out.2.2.2.2.2.2.2.2.1
 have hl3:rb<w3.heap.size:=HX4.out.2.2.2.2
 refine⟨_,rfl,?_,?_,?_,?_⟩
 ·have r5:=HX4.out.1.keep hk5 (fun g e=>HF4.out.1 g (.inr ⟨by have e:g=rb:=e;omega,by have e:g=rb:=e;omega⟩)) (fun e=>by
   have lx:=HA.out.1.lt
   have e:p.x=rb:=e
   omega)
  exact⟨F4,r5,fun g e=>HF4.out.1 g (.inl e),HF4.out.2⟩
 ·exact aW.keep HX4.out.2.1 fun b hb' hl hs=>⟨hk5.block b hl (fun e=>by have h1:=hlo b hb';have e:b=rb:=e;omega),hs⟩
 ·intro b hb'
  have h1:=hlo b hb'
  omega
 ·have k4:Keep (fun g=>¬p.F g\/w.heap.size<=g) w3 w4:=HX4.out.2.2.2.1.mono (fun g _ e=> .inl fun x=>e (.inl x))
  have k5:=k4.trans hk5 (fun g _ e=> .inr (by have e:g=rb:=e;omega))
  exact(Keep.of_below HX.out.2 (fun g=>¬p.F g)).trans k5 (fun g hg e=>e.elim id (fun e=>absurd hg (aV.2 e)))
theorem qa.Sz {w0:gJ}{w:World}{v t N R dn u P P':Nat}{kv kv0:List Pr}{ch:Bool}(h:qa w0 v t N R dn u kv0 kv ch P w)(hp:P<=P'):qa w0 v t N R dn u kv0 kv ch P' w:=by
 obtain⟨S,tr,mp,σ,root,es,tb,root0,es0,tb0,hA,hB,h1,h2,h3,h4,h5,h6,h7,h8,h9,h10⟩:=h
 exact⟨S,tr,mp,σ,root,es,tb,root0,es0,tb0,hA,hB,h1,h2,h3,h4,h5,h6,h7,h8,h9,aG h10 hp⟩
theorem Q0 {F:Nat->Prop}{D:Nat->Dk->Lg->Pg->Prop}{w:World}{v N R dn u P:Nat}(h:rV ⟨F,w,D⟩ v N R dn u [] w)(hP:2+u<=P)(now:Int):
  Calls Tryz.prog 55 #[.pointer (some ⟨v,0,none⟩),.int .i64 now] w fun e w'=>∃(F':Nat->Prop) (t x lb:Nat),e= .returned (.tuple #[.pointer (some ⟨t,0,none⟩),.pointer (some ⟨x,0,none⟩),.pointer (some ⟨lb,0,none⟩),.slice none 0 0,.int .i64 0])/\RT ⟨F',D,v,t,x,N,R,dn,u,P,[]⟩ [] w'/\(∀g,F g->F' g)/\Keep (fun g=>¬F g) w w':=by
 have HB:=af h.begin
 clear h
 go_enter Tryz.func55,Tryz.ntmps55
 go_wp2_with (first
  |(go_at_call 77;go_must (refine HB.out.mono ?_;rintro e w1 ⟨t,rfl,hT1⟩;refine Stop.of ?_)))
 refine Stop.on ?_
 have hk1:Keep (fun g=>¬F g) w w1:=hT1.Er
 have HT:=af (ak hT1 hk1)
 clear hT1 hk1
 go_wp2_with (first
  |(go_at_call 105;go_must (refine(SG t w1).mono ?_;rintro e w2 ⟨rfl,hl2,hb2⟩;refine Stop.of ?_)))
 refine Stop.on ?_
 have HL:=af (Oo (HT.out.1.below hb2) w1.heap.size now hl2)
 have HB2:=af (ak hl2 hb2)
 clear hl2 hb2
 go_wp2_with (first
  |(go_at_call 106;go_must (refine HL.out.mono ?_;rintro e w3 ⟨rfl,hb3⟩))
  |(go_at_call 107;go_must (refine(NF t w3).mono ?_;rintro e w4 ⟨rfl,hob,hb4⟩;refine Stop.of ?_)))
 refine Stop.on ?_
 have hb14:=HB2.out.2.trans ((hb3.trans (hb4.mono hb3.size)).mono HB2.out.2.size)
 have hR4:RT ⟨fun g=>F g\/(w1.heap.size<=g/\g<w4.heap.size),D,v,t,w3.heap.size,N,R,dn,u,P,[]⟩ [] w4:=
  ⟨⟨false,qa.Ul ((HT.out.1.Sz hP).next (Keep.of_below hb14 (fun _=>False)) (fun _ e=>e.elim))⟩,hob,.inr ⟨aG HB2.out.2.size hb3.size,(ah.1 hob).1⟩⟩
 have HX:=af (ak hR4 hb14)
 clear hb3 hb4 hb14 hR4 hob
 go_wp2_with fail
 refine eX (by simp[results,Tryz.results55,go_sem];rfl) rfl ?_
 exact⟨_,t,_,_,rfl,HX.out.1,fun g e=> .inl e,HT.out.2.trans (Keep.of_below HX.out.2 (fun g=>¬F g)) (fun _ _ e=>e)⟩
theorem Gp (now:Int)(w:World):
  Calls Tryz.prog 55 #[.pointer none,.int .i64 now] w fun e w'=>e= .returned (.tuple #[.pointer none,.pointer none,.pointer none,.slice none 0 0,.int .i64 2])/\w'=w:=by
 go_enter Tryz.func55,Tryz.ntmps55
 go_wp2_with (first
  |(go_at_call 77;go_must (refine(FL w).mono ?_;rintro e w1 ⟨rfl,rfl⟩)))
 refine eX (by simp[results,Tryz.results55,go_sem];rfl) rfl ?_
 exact⟨rfl,rfl⟩
theorem TY (ob eb qb:Nat)(hv hq:Value)(w:World)(ho:kL w ob hv ⟨#[]⟩ false false)(he:w.heap[eb]? =some (.cells #[.int .i64 0] 26 (0,0)))(hr:gX w qb fH mq hq sX false)(hne:ob≠eb/\ob≠qb):
  CallsD Tryz.prog 57 #[.pointer (some ⟨ob,0,none⟩),.pointer (some ⟨eb,0,none⟩),.pointer (some ⟨qb,0,none⟩)] .returning w fun e u' w'=>e= .returned (.tuple #[])/\u'= .returning/\kL w' ob hv ⟨#[]⟩ false false/\Keep (· =ob) w w':=by
 refine uq Tryz.func57 rfl fun c₀ cs hu=> ?_
 apply si
 apply si
 apply lG
 have hta:∀w:World,(Instr.typeAssert Value.nilIface 20 141 true).run Tryz.prog w= .ok (.tuple #[.agg #[.int .i64 0,.int .i64 0],.bool false]) w:=fun _=>by kernel_rfl
 simp[wpOpsS,go_sem,recoverD,hu,Tryz.ntmps57,Exit.thenS,hta,Array.replicate,List.replicate]
 have hb1:=aC w (.cells #[.int .i64 0,.int .i64 0] 141)
 obtain⟨w1,HW1⟩:∃w1:World,Hid (w.alloc (.cells #[.int .i64 0,.int .i64 0] 141)=w1):=⟨_,af rfl⟩
 rw[HW1.out] at hb1
 rw[HW1.out]
 apply si
 apply lG
 simp[wpOpsS,go_sem,Exit.thenS]
 refine wpS_cond (t:=false) (by simp[Act.eval]) ?_
 simp only[pR,if_false]
 refine Fh (wp_skip ?_)
 simp only[Exit.thenS]
 refine Fh ?_
 have ho1:=ho.below hb1
 obtain⟨c0,c1,c2,c3,c4,lo⟩:=ho1.cells
 have he1:=(hb1.block eb (ah.1 he).1).trans he
 have e0:w1.cell? ⟨eb,0,none⟩=some (.int .i64 0):=by simp[World.cell?,he1]
 have le:=(ah.1 he1).1
 have hr1:gX w1 qb fH mq hq sX false:=(hb1.block qb (ah.1 hr).1).trans hr
 obtain⟨q0,_,_,_,q4,_,lq⟩:=hr1.cells
 have x1:(fH.toList==[72,69,65,68])=false:=by kernel_rfl
 have f4:w1.frozen? ⟨ob,4,none⟩=false:=by simp[World.frozen?,show w1.heap[ob]? =_ from ho1]
 have f3:w1.frozen? ⟨ob,3,none⟩=false:=by simp[World.frozen?,show w1.heap[ob]? =_ from ho1]
 have hne1:¬ob=eb:=hne.1
 have hne2:¬ob=qb:=hne.2
 have hk1:Keep (· =ob) w1 ((w1.setCell ⟨ob,4,none⟩ (.bool false)).setCell ⟨ob,3,none⟩ (.bool false)):=((Keep.refl (· =ob) w1).setCell (p:=⟨ob,4,none⟩) (.inr rfl) _).setCell (p:=⟨ob,3,none⟩) (.inr rfl) _
 have ho2:kL ((w1.setCell ⟨ob,4,none⟩ (.bool false)).setCell ⟨ob,3,none⟩ (.bool false)) ob hv ⟨#[]⟩ false false:=by
  unfold kL at ho1 ⊢
  simp[World.setCell,aJ,ho1]
 have HE:=af (ak hb1 (ak hk1 ho2))
 clear hb1 hk1 ho2 ho1 he1 hr1 ho he hr
 go_wp2
 refine⟨rfl,_,rfl,_,?_,rfl,hu,?_,?_⟩
 ·simp[results,Tryz.results57,go_sem]
 ·exact HE.out.2.2
 ·exact(Keep.of_below HE.out.1 (· =ob)).trans HE.out.2.1 (fun _ _ e=>e)
section
variable {b:gJ} {w w':World} {v t N R dn u P:Nat} {kv kv0:List Pr} {ch:Bool}
theorem rV.Er (h:rV b v N R dn u kv w):Keep (fun g=>¬b.F g) b.w w:=by
 obtain⟨_,_,_,_,_,_,_,_,_,_,_,h,_⟩:=h
 exact⟨h.os,h.tape,h.output,h.size,fun k _ hn=>h.block k (Classical.not_not.1 hn)⟩
theorem rV.re {F:Nat->Prop}(h:rV b v N R dn u kv w)(hF:∀g,F g->b.F g):rV ⟨F,w,b.D⟩ v N R dn u kv w:=by
 obtain⟨S,pg,d,σ,l,p,f,root,es,tb,hA,h,h1,h2⟩:=h
 exact⟨S,pg,d,σ,l,p,f,root,es,tb,hA,⟨rfl,rfl,rfl,aA _,fun _ _=>rfl,fun g hg=>ax (h.fs g (hF g hg)) h.size,fun g hg e=>h.lo g hg (hF g e)⟩,⟨fun e=>h1.1 (hF _ e),h1.2⟩,h2⟩
theorem rV.fs (h:rV b v N R dn u kv w){g:Nat}(hg:b.F g):g<w.heap.size:=by
 obtain⟨_,_,_,_,_,_,_,_,_,_,_,h,_⟩:=h
 exact ax (h.fs g hg) h.size
theorem jZ.PN {M:Nat->Prop}(h:jZ w)(hk:Keep M w w')(hM:¬M 3):jZ w':=h.keep hk hM
end
theorem TR:¬(Fp=([]:List Pr)):=fun e=>absurd ((show Fp.isEmpty=false from by kernel_rfl).symm.trans (congrArg List.isEmpty e)) (by decide)
theorem RL.O7 {t:Nat}{w:World}(h:RL t w)(u:FrameMode):
  CallsD Tryz.prog 56 #[.pointer (some ⟨t,0,none⟩)] u w fun e u' w'=>u'=u/\e= .returned (.tuple #[])/\w'=w:=by
 obtain⟨mp,ch,er,h⟩:=h
 have c2:w.cell? ⟨t,2,none⟩=some (.pointer none):=by simp[World.cell?,h,dw]
 have hlt:=(ah.1 h).1
 clear h
 go_enter_d Tryz.func56,Tryz.ntmps56
 go_wp2
 go_end0
 exact⟨rfl,rfl⟩
def Ur (F:Nat->Prop):Prop:=F (fK.g 3)/\F (fK.g 4)/\F 3
theorem Uu {F:Nat->Prop}{w:World}{v N R dn u:Nat}(h:rV ⟨F,w,nK⟩ v N R dn u [] w)(hu:12+u<=N/\13<=R/\dn<=100000000)(hv:Value)(now:Int)(draw:ByteArray)(hh:jP w hv hsP)(hT:kQ w)(hm:jZ w)(hG:Ur F)(hO:∀b,hv.ownBlock=some b->F b):
  Calls Tryz.prog 28 #[.pointer (some ⟨v,0,none⟩),JC hv,.int .i64 now,.string draw] w fun e w'=>∃(hv':Value) (u':Nat),e= .returned (.tuple #[.agg #[.int .i64 201,hv',.string ⟨#[]⟩,.bool false,.bool false],.int .i64 0])/\rV ⟨F,w',nK⟩ v N R (dn+1) u' Fp w'/\jP w' hv' qN/\(∀b,hv'.ownBlock=some b->w.heap.size<=b)/\Keep (fun g=>¬F g) w w':=by
 obtain⟨ho,hc,rfl,_,_,_,_⟩:=aW.form hh
 have HA:=af (ak h (ak hu (ak hh (ak hT (ak hm (ak hG hO))))))
 clear h hu hh hT hm hG hO
 go_enter_defers Tryz.func28,Tryz.ntmps28
 rw[show JC (.slice ho hsP.length hc)= .agg #[.string fH,.string mq,.slice ho hsP.length hc,.string sX,.bool false] from rfl]
 go_upto_region 1 with (fail)
 have h3:=IE w (.cells #[.string fH,.string mq,.slice ho hsP.length hc,.string sX,.bool false] 73) (.cells #[.int .i64 0,.slice none 0 0,.string ⟨#[]⟩,.bool false,.bool false] 81) (.cells #[.int .i64 0] 26)
 dsimp only at h3
 generalize ((w.alloc (.cells #[.string fH,.string mq,.slice ho hsP.length hc,.string sX,.bool false] 73)).alloc (.cells #[.int .i64 0,.slice none 0 0,.string ⟨#[]⟩,.bool false,.bool false] 81)).alloc (.cells #[.int .i64 0] 26)=w3 at h3 ⊢
 obtain⟨h30,h31,h32,h3s,h3b⟩:=h3
 obtain⟨qb,hqb⟩:∃x:Nat,Hid (w.heap.size=x):=⟨_,af rfl⟩
 rw[hqb.out] at h30 h31 h32
 rw[hqb.out]
 have hV3:=HA.out.1.next (Keep.of_below h3b (fun _=>False)) (fun _ e=>e.elim)
 have HB:=af (Q0 (P:=12+u) hV3 (by omega) now)
 have H3:=af (ak h30 (ak h31 (ak h32 (ak h3s (ak h3b hqb.out)))))
 have le:=(ah.1 h32).1
 have e0:w3.cell? ⟨qb+1+1,0,none⟩=some (.int .i64 0):=by simp[World.cell?,h32]
 have ef:w3.frozen? ⟨qb+1+1,0,none⟩=false:=by simp[World.frozen?,h32]
 clear h30 h31 h32 h3s h3b hV3
 go_wp2_with (first
  |(go_at_call 55;go_must (refine HB.out.mono ?_;rintro e w4 ⟨F4,t,x,lb,rfl,hR4,hF4,hk4⟩;refine Stop.of ?_)))
 refine Stop.on ?_
 obtain⟨p4,hp4⟩:∃p4:TP,Hid (p4=⟨F4,nK,v,t,x,N,R,dn,u,12+u,[]⟩):=⟨_,af rfl⟩
 have hp4t:p4.t=t/\p4.x=x/\p4.F=F4/\p4.D=nK/\p4.v=v/\p4.N=N/\p4.R=R/\p4.dn=dn/\p4.u=u/\p4.P=12+u/\p4.kv0=[]:=by rw[hp4.out];exact⟨rfl,rfl,rfl,rfl,rfl,rfl,rfl,rfl,rfl,rfl,rfl⟩
 rw[<-hp4.out] at hR4
 obtain⟨hpt,hpx,hpF,hpr⟩:=hp4t
 rw[<-hpt,<-hpx]
 rw[<-hpF] at hF4
 have hF4':(∀g,F g->p4.F g)/\p4.F qb/\p4.F (qb+1)/\p4.F (qb+1+1):=⟨fun g e=>hF4 g (.inl e),hF4 _ (.inr ⟨by have:=H3.out;show w.heap.size<=_;omega,by have:=H3.out;show _<w3.heap.size;omega⟩),hF4 _ (.inr ⟨by have:=H3.out;show w.heap.size<=_;omega,by have:=H3.out;show _<w3.heap.size;omega⟩),hF4 _ (.inr ⟨by have:=H3.out;show w.heap.size<=_;omega,by have:=H3.out;show _<w3.heap.size;omega⟩)⟩
 have hin:∀g,w.heap.size<=g->g<w3.heap.size->¬¬(gJ.next ⟨F,w,nK⟩ w w3).F g:=fun g h1 h2 h=>h (.inr ⟨h1,h2⟩)
 have h40:=(hk4.block qb (ah.1 H3.out.1).1 (hin _ (by have:=H3.out;omega) (by have:=H3.out;omega))).trans H3.out.1
 have h41:=(hk4.block (qb+1) (ah.1 H3.out.2.1).1 (hin _ (by have:=H3.out;omega) (by have:=H3.out;omega))).trans H3.out.2.1
 have h42:=(hk4.block (qb+1+1) (ah.1 H3.out.2.2.1).1 (hin _ (by have:=H3.out;omega) (by have:=H3.out;omega))).trans H3.out.2.2.1
 have hlx:¬p4.x=qb+1+1:=fun e=>by
  have q:=hR4.obj
  rw[e,h42] at q
  injection q with q;injection q with q1 q2 q3;cases q1
 have f0:w4.frozen? ⟨qb+1+1,0,none⟩=false:=by simp[World.frozen?,h42]
 have c0:w4.cell? ⟨qb+1+1,0,none⟩=some (.int .i64 0):=by simp[World.cell?,h42]
 have l0:=(ah.1 h42).1
 have hk5:Keep (· =qb+1+1) w4 (w4.setCell ⟨qb+1+1,0,none⟩ (.int .i64 0)):=(Keep.refl (· =qb+1+1) w4).setCell (p:=⟨qb+1+1,0,none⟩) (.inr rfl) _
 have h52:(w4.setCell ⟨qb+1+1,0,none⟩ (.int .i64 0)).heap[qb+1+1]? =some (.cells #[.int .i64 0] 26 (0,0)):=by simp[World.setCell,aJ,h42]
 obtain⟨w5,hw5⟩:∃x:World,Hid (w4.setCell ⟨qb+1+1,0,none⟩ (.int .i64 0)=x):=⟨_,af rfl⟩
 rw[hw5.out] at hk5 h52
 have h50:=(hk5.block qb (ah.1 h40).1 (by omega)).trans h40
 have h51:=(hk5.block (qb+1) (ah.1 h41).1 (by omega)).trans h41
 have hR5:=hR4.keep hk5 (fun g e=>by rw[show g=qb+1+1 from e];exact hF4'.2.2.2) hlx
 have hK5:Keep (fun g=>¬F g) w w5:=by
  have k3:=Keep.of_below H3.out.2.2.2.2.1 (fun g=>¬F g\/w.heap.size<=g)
  have k4:=k3.trans hk4 (fun g _ e=>yH fun hn=>e (.inl (yH fun hf=>hn (.inl hf))))
  have k5:=k4.trans hk5 (fun g _ e=> .inr (by have e:g=qb+1+1:=e;have:=H3.out;omega))
  exact(Keep.refl _ w).trans k5 (fun g hg e=>e.elim id (fun e=>absurd hg (aV.2 e)))
 have H5:=af (ak h50 (ak h51 (ak h52 (ak hR5 (ak hK5 (ak hF4' hpr))))))
 clear e0 ef le hk4 hF4 hF4' hin hR4 h40 h41 h42 hlx hk5 h50 h51 h52 hR5 hK5 hpt hpx hpr hpF
 go_upto_region 2 with (fail)
 rw[hw5.out]
 obtain⟨q0,q1,q2,q3,q4,_,lq⟩:=gX.cells (w:=w5) (qb:=qb) H5.out.1
 have e0:w5.cell? ⟨qb+1+1,0,none⟩=some (.int .i64 0):=by simp[World.cell?,H5.out.2.2.1]
 have le:=(ah.1 H5.out.2.2.1).1
 have hm5:jZ w5:=HA.out.2.2.2.2.1.PN H5.out.2.2.2.2.1 (fun e=>e HA.out.2.2.2.2.2.1.2.2)
 have HK:=af (QZ w5 hm5)
 clear c0 f0 l0 hm5
 have hmf:∀(fn:Fn) (first cap:Array Value) (w:World),(Instr.makeFunc fn first cap).run Tryz.prog w= .ok (.func fn first cap) w:=fun _ _ _ _=>rfl
 go_wp2_with (first
  |(go_at_call 59;go_must (refine HK.out.mono ?_;rintro e w6 ⟨rfl,hb6⟩;refine Stop.of ?_)))
 refine Stop.on ?_
 have h60:=(hb6.block qb lq).trans H5.out.1
 have HB6:=af hb6
 clear q0 q1 q2 q3 q4 lq e0 le hb6
 obtain⟨q0,q1,q2,q3,q4,_,lq⟩:=gX.cells (w:=w6) (qb:=qb) h60
 clear h60
 go_upto_region 8 with (go_at_call 58;go_must (refine(uW _ _).mono ?_;rintro e w7 ⟨rfl,hw⟩;subst w7))
 have hb7:=aC w6 (.cells (ru (.slice ho hsP.length hc) now draw (.slice none 0 0) p4.x lb).toArray 148)
 have hj7:gI (w6.alloc (.cells (ru (.slice ho hsP.length hc) now draw (.slice none 0 0) p4.x lb).toArray 148)) w6.heap.size (.slice ho hsP.length hc) now draw (.slice none 0 0) p4.x lb:=aF w6 _
 obtain⟨w7,hw7⟩:∃x:World,Hid (w6.alloc (.cells (ru (.slice ho hsP.length hc) now draw (.slice none 0 0) p4.x lb).toArray 148)=x):=⟨_,af rfl⟩
 rw[hw7.out] at hb7 hj7
 have hw7':w6.alloc (.cells #[.string fH,.string mq,.slice ho hsP.length hc,.string sX,.bool false,.int .i64 now,.string draw,.slice none 0 0,.bool false,.pointer (some ⟨p4.x,0,none⟩),.pointer (some ⟨lb,0,none⟩),.slice none 0 0,.slice none 0 0,.bool false] 148)=w7:=hw7.out
 rw[hw7']
 obtain⟨jb,hjb⟩:∃x:Nat,Hid (w6.heap.size=x):=⟨_,af rfl⟩
 rw[hjb.out] at hj7
 rw[hjb.out]
 have hb57:=HB6.out.trans (hb7.mono HB6.out.size)
 have hlw5:=H5.out.2.2.2.2.1.size
 have hjw:w5.heap.size<=jb/\jb<w7.heap.size:=⟨by rw[<-hjb.out];exact HB6.out.size,hj7.lt⟩
 have hT5:kQ w5:=HA.out.2.2.2.1.mF H5.out.2.2.2.2.1 (fun e=>e HA.out.2.2.2.2.2.1.1) (fun e=>e HA.out.2.2.2.2.2.1.2.1)
 have hT7:=hT5.below hb57
 have hm7:jZ w7:=(HA.out.2.2.2.2.1.PN H5.out.2.2.2.2.1 (fun e=>e HA.out.2.2.2.2.2.1.2.2)).below hb57
 have hh5:jP w5 (.slice ho hsP.length hc) hsP:=aW.keep HA.out.2.2.1 fun b hb hl hs=>⟨H5.out.2.2.2.2.1.block b hl (fun e=>e (HA.out.2.2.2.2.2.2 b hb)),hs⟩
 have hh7:jP w7 (.slice ho hsP.length hc) hsP:=aW.below hh5 hb57
 have HTG:=af (Oh jb _ now draw _ p4.x lb w7 hj7 hT7 hm7)
 have hR7:=H5.out.2.2.2.1.next hb57
 have H7:=af (ak hb57 (ak hjw (ak hT7 (ak hh7 (ak hR7 hlw5)))))
 clear hb7 hw7' hj7 hb57 hlw5 hjw hT5 hT7 hm7 hh5 hh7 hR7 q0 q1 q2 q3 q4 lq
 go_wp2_with (first
  |(go_at_call 60;go_must (refine HTG.out.mono ?_;rintro e w8 ⟨pv,rfl,hj8,ho8,hk8⟩;refine Stop.of ?_)))
 refine Stop.on ?_
 obtain⟨g,gc,rfl,hg1,hg2,hg3,hg4⟩:=ho8.ED (by decide)
 have hR8:=H7.out.2.2.2.2.1.Ig hk8 (fun g e=>by rw[show g=jb from e];exact .inr H7.out.2.1) (fun e=>by
  have hx:(p4.add w5 w7).x=p4.x:=rfl
  rw[hx] at e
  have:=H5.out.2.2.2.1.lt
  have:=H7.out.2.1
  have e:p4.x=jb:=e
  omega)
 obtain⟨p6,hp6⟩:∃p6:TP,Hid (p6=(p4.add w5 w7).add w7 w8):=⟨_,af rfl⟩
 have hp6x:p6.x=p4.x:=by rw[hp6.out];rfl
 have hp6t:p6.t=p4.t:=by rw[hp6.out];rfl
 have hp6r:p6.v=v/\p6.N=N/\p6.R=R/\p6.dn=dn/\p6.u=u/\p6.P=12+u/\p6.kv0=[]/\p6.D=nK:=by
  obtain⟨a1,a2,a3,a4,a5,a6,a7,a8⟩:=H5.out.2.2.2.2.2.2
  rw[hp6.out]
  exact⟨a2,a3,a4,a5,a6,a7,a8,a1⟩
 have hp6F:(∀g,p4.F g->p6.F g)/\p6.F jb/\p6.F g:=by
  rw[hp6.out]
  exact⟨fun g e=> .inl (.inl e),.inl (.inr H7.out.2.1),.inr ⟨hg3,hg4⟩⟩
 rw[<-hp6.out] at hR8
 have hT8:kQ w8:=H7.out.2.2.1.mF hk8 (fun e=>by have:=aD w _ (HA.out.2.2.2.1.1 0 (by decide));have e:fK.g 3=jb:=e;have:=H7.out;dsimp only at*;omega) (fun e=>by have:=aD w _ (HA.out.2.2.2.1.2 0 (by decide)).1;have e:fK.g 4=jb:=e;have:=H7.out;dsimp only at*;omega)
 have hh8:jP w8 (.slice ho hsP.length hc) hsP:=aW.keep H7.out.2.2.2.1 fun b hb hl hs=>⟨hk8.block b hl (fun e=>by have:=HA.out.1.fs (HA.out.2.2.2.2.2.2 b hb);have e:b=jb:=e;have:=H7.out.2.1;have:=H7.out.2.2.2.2.2;omega),hs⟩
 have hrm:p6.rm [] 5:=by
  obtain⟨a1,a2,a3,a4,a5,a6,a7,a8⟩:=hp6r
  unfold TP.rm
  rw[a2,a5,a6]
  have:=HA.out.2.1
  exact⟨by decide,by show 2+u+0+2*(0+5)<=12+u;omega,by omega,by decide⟩
 rw[<-hp6x] at hj8
 have HRN:=af (TU hR8 jb _ now draw g gc lb w7.heap.size hj8 ho8 ⟨hg1,hg2⟩ hh8 hT8 ⟨hp6F.2.1,hp6F.2.2,hp6F.1 _ (H5.out.2.2.2.2.2.1.1 _ HA.out.2.2.2.2.2.1.1),hp6F.1 _ (H5.out.2.2.2.2.2.1.1 _ HA.out.2.2.2.2.2.1.2.1)⟩ hrm)
 have hlt:∀b o,w5.heap[b]? =some o->w8.heap[b]? =some o/\b<w8.heap.size:=fun b o e=>by
  have l1:=(ah.1 e).1
  have e7:=(H7.out.1.block b l1).trans e
  have l7:=(ah.1 e7).1
  have e8:=(hk8.block b l7 (fun x=>by have x:b=jb:=x;have:=H7.out.2.1;omega)).trans e7
  exact⟨e8,(ah.1 e8).1⟩
 have hK8:Keep (fun g=>¬F g) w w8:=by
  have k7:=(H5.out.2.2.2.2.1).trans (Keep.of_below H7.out.1 (fun g=>¬F g)) (fun _ _ e=>e)
  exact k7.trans hk8 (fun g hg e=>absurd hg (by have e:g=jb:=e;have:=H7.out;omega))
 have H8:=af (ak (hlt _ _ H5.out.1) (ak (hlt _ _ H5.out.2.1) (ak (hlt _ _ H5.out.2.2.1) (ak hK8 (ak hp6F (ak hp6r (ak hp6t H5.out.2.2.2.2.2.1)))))))
 have hsz8:w.heap.size<=w8.heap.size:=hK8.size
 clear hj8 ho8 hk8 hg1 hg2 hg3 hg4 hR8 hp6x hp6r hp6F hT8 hh8 hrm hlt hK8 hp6
 go_wp2_with (first
  |(go_at_call 61;go_must (refine HRN.out.mono ?_;rintro e w9 ⟨hv',rfl,⟨F9,hR9,hF9,hO9⟩,hh9,hlo9,hk9⟩;refine Stop.of ?_)))
 refine Stop.on ?_
 obtain⟨ho',hc',rfl,_,_,_,_⟩:=aW.form hh9
 have hq9:=(hk9.block qb H8.out.1.2 (fun e=>e (H8.out.2.2.2.2.1.1 _ H8.out.2.2.2.2.2.2.2.2.1))).trans H8.out.1.1
 have ho9:=(hk9.block (qb+1) H8.out.2.1.2 (fun e=>e (H8.out.2.2.2.2.1.1 _ H8.out.2.2.2.2.2.2.2.2.2.1))).trans H8.out.2.1.1
 have he9:=(hk9.block (qb+1+1) H8.out.2.2.1.2 (fun e=>e (H8.out.2.2.2.2.1.1 _ H8.out.2.2.2.2.2.2.2.2.2.2))).trans H8.out.2.2.1.1
 have hr9:Row w9 (qb+1) 81 [.int .i64 0,.slice none 0 0,.string ⟨#[]⟩,.bool false,.bool false]:=ho9
 have H9:=af (ak hR9 (ak hF9 (ak hO9 (ak hh9 (ak hlo9 (ak hk9 (ak hq9 (ak ho9 he9))))))))
 clear hR9 hF9 hO9 hh9 hlo9 hk9 hq9 ho9 he9
 go_wp2_with (first
  |((refine bU rfl ?_);intro K hK;(refine wp_store_row 81 (.tmp 8) (.tmp 51) rfl (qb+1) 0 81 _ [.int .i64 201,.slice ho' qN.length hc',.string ⟨#[]⟩,.bool false,.bool false] rfl rfl hr9 mI (aA 5) (by intro v hv;simp only[aX,cK,iL] at hv;rcases hv with rfl|rfl|rfl|rfl|rfl<;>rfl) ?_);intro w10 hr10 hk10;refine hK _ _ ?_;refine Stop.of ?_))
 refine Stop.on ?_
 have hne9:¬p6.x=qb+1:=fun e=>by
  have q:=H9.out.1.obj
  have hx:({p6 with F:=F9}:TP).x=p6.x:=rfl
  rw[hx,e,H9.out.2.2.2.2.2.2.2.1] at q
  injection q with q;injection q with q1 q2 q3;cases q1
 have hR10:RT {p6 with F:=F9} Fp w10:=H9.out.1.keep hk10 (fun g e=>by rw[show g=qb+1 from e];exact H9.out.2.1 _ (H8.out.2.2.2.2.1.1 _ H8.out.2.2.2.2.2.2.2.2.2.1)) hne9
 have HCM:Hid (Calls Tryz.prog 62 #[.pointer (some ⟨p4.t,0,none⟩)] w10 fun e w'=>e= .returned (.tuple #[.int .i64 ((dn+1:Nat):Int),.int .i64 0])/\RL p4.t w'/\∃u',rV ⟨F9,w10,nK⟩ v N R (dn+1) u' Fp w'):=by
  obtain⟨ch,ht⟩:=hR10.ts
  obtain⟨a2,a3,a4,a5,a6,a7,a8,a1⟩:=H8.out.2.2.2.2.2.1
  have ht':qa ⟨F9,w10,p6.D⟩ p6.v p6.t p6.N p6.R p6.dn p6.u p6.kv0 Fp ch p6.P w10:=ht
  rw[a1,a2,a3,a4,a5,a6,a7,a8,H8.out.2.2.2.2.2.2.1] at ht'
  refine af ((ht'.Cw HA.out.2.1.2.2).mono ?_)
  rintro e w' ⟨hD,(⟨_,q,_⟩|⟨_,q,_⟩|⟨_,rfl,q⟩)⟩
  ·exact absurd q TR
  ·rw[Nt] at q
   unfold Ii at q
   have:=HA.out.2.1
   omega
  ·exact⟨rfl,hD,q⟩
 have ho10:kL w10 (qb+1) (.slice ho' qN.length hc') ⟨#[]⟩ false false:=hr10
 have hne3:qb≠qb+1/\qb+1+1≠qb+1:=by omega
 have hq10:=(hk10.block qb (ah.1 H9.out.2.2.2.2.2.2.1).1 hne3.1).trans H9.out.2.2.2.2.2.2.1
 have he10:=(hk10.block (qb+1+1) (ah.1 H9.out.2.2.2.2.2.2.2.2).1 hne3.2).trans H9.out.2.2.2.2.2.2.2.2
 have H10:=af (ak hk10 (ak ho10 (ak hq10 he10)))
 clear hne9 hR10 hr10 hk10 ho10 hq10 he10 hr9
 go_wp2_with (first
  |(go_at_call 62;go_must (refine HCM.out.mono ?_;rintro e w11 ⟨rfl,hD11,u',hV11⟩;refine Stop.of ?_)))
 refine Stop.on ?_
 have hk11:Keep (fun g=>¬F9 g) w10 w11:=hV11.Er
 have hF9':F9 qb/\F9 (qb+1)/\F9 (qb+1+1):=⟨H9.out.2.1 _ (H8.out.2.2.2.2.1.1 _ H8.out.2.2.2.2.2.2.2.2.1),H9.out.2.1 _ (H8.out.2.2.2.2.1.1 _ H8.out.2.2.2.2.2.2.2.2.2.1),H9.out.2.1 _ (H8.out.2.2.2.2.1.1 _ H8.out.2.2.2.2.2.2.2.2.2.2)⟩
 have hq11:=(hk11.block qb (ah.1 H10.out.2.2.1).1 (fun e=>e hF9'.1)).trans H10.out.2.2.1
 have he11:=(hk11.block (qb+1+1) (ah.1 H10.out.2.2.2).1 (fun e=>e hF9'.2.2)).trans H10.out.2.2.2
 have ho11:kL w11 (qb+1) (.slice ho' qN.length hc') ⟨#[]⟩ false false:=(hk11.block (qb+1) (ah.1 H10.out.2.1).1 (fun e=>e hF9'.2.1)).trans H10.out.2.1
 have hr11:Row w11 (qb+1) 81 [.int .i64 201,.slice ho' qN.length hc',.string ⟨#[]⟩,.bool false,.bool false]:=ho11
 obtain⟨c0,c1,c2,c3,c4,lo⟩:=ho11.cells
 have H11:=af (ak hD11 (ak hV11 (ak hk11 (ak hq11 (ak he11 (ak ho11 hF9'))))))
 clear hD11 hV11 hk11 hq11 he11 ho11 hF9'
 go_upto_region 13 with (first
  |(go_at_call 63;go_must (refine(LK _).mono ?_;rintro e w12 ⟨rfl,hw⟩;subst w12)))
 go_wp2_with (first
  |((refine bU rfl ?_);intro K hK;(refine wp_store_row 81 (.tmp 8) (.tmp 61) rfl (qb+1) 0 81 _ [.int .i64 201,.slice ho' qN.length hc',.string ⟨#[]⟩,.bool false,.bool false] rfl rfl hr11 mI (aA 5) (by intro v hv;simp only[aX,cK,iL] at hv;rcases hv with rfl|rfl|rfl|rfl|rfl<;>rfl) ?_);intro w12 hr12 hk12;refine hK _ _ ?_;refine Stop.of ?_))
 refine Stop.on ?_
 have he12:=(hk12.block (qb+1+1) (ah.1 H11.out.2.2.2.2.1).1 hne3.2).trans H11.out.2.2.2.2.1
 have hq12:=(hk12.block qb (ah.1 H11.out.2.2.2.1).1 hne3.1).trans H11.out.2.2.2.1
 have e0:w12.cell? ⟨qb+1+1,0,none⟩=some (.int .i64 0):=by simp[World.cell?,he12]
 have ef:w12.frozen? ⟨qb+1+1,0,none⟩=false:=by simp[World.frozen?,he12]
 have le:=(ah.1 he12).1
 have hk13:Keep (· =qb+1+1) w12 (w12.setCell ⟨qb+1+1,0,none⟩ (.int .i64 0)):=(Keep.refl (· =qb+1+1) w12).setCell (p:=⟨qb+1+1,0,none⟩) (.inr rfl) _
 have he13:(w12.setCell ⟨qb+1+1,0,none⟩ (.int .i64 0)).heap[qb+1+1]? =some (.cells #[.int .i64 0] 26 (0,0)):=by simp[World.setCell,aJ,he12]
 obtain⟨w13,hw13⟩:∃x:World,Hid (w12.setCell ⟨qb+1+1,0,none⟩ (.int .i64 0)=x):=⟨_,af rfl⟩
 rw[hw13.out] at hk13 he13
 have hq13:=(hk13.block qb (ah.1 hq12).1 (by omega)).trans hq12
 have ho13:kL w13 (qb+1) (.slice ho' qN.length hc') ⟨#[]⟩ false false:=(hk13.block (qb+1) (ah.1 (show w12.heap[qb+1]? =_ from hr12)).1 (by omega)).trans hr12
 have H13:=af (ak hk12 (ak hk13 (ak he13 (ak hq13 ho13))))
 clear hk12 hk13 he12 hq12 he13 hq13 ho13 c0 c1 c2 c3 c4 lo hr11
 go_wp2_with fail
 rw[hw13.out]
 refine dQ (f:=57) (args:=#[.pointer (some ⟨qb+1,0,none⟩),.pointer (some ⟨qb+1+1,0,none⟩),.pointer (some ⟨qb,0,none⟩)]) (by simp) (by simp[go_sem]) ?_
 refine(TY (qb+1) (qb+1+1) qb _ _ w13 H13.out.2.2.2.2 H13.out.2.2.1 H13.out.2.2.2.1 (by omega)).mono ?_
 rintro e u' w14 ⟨rfl,rfl,ho14,hk14⟩
 have hk1114:Keep (fun g=>g=qb+1\/g=qb+1+1) w11 w14:=((H13.out.1.mono (fun _ _ e=> .inl e)).trans H13.out.2.1 (fun _ _ e=> .inr e)).trans hk14 (fun _ _ e=> .inl e)
 have hD14:RL p4.t w14:=by
  obtain⟨mp,ch,er,ht⟩:=H11.out.1
  refine⟨mp,ch,er,(hk1114.block p4.t (ah.1 ht).1 (fun e=> ?_)).trans ht⟩
  rcases e with e|e
  ·have q:=H11.out.2.2.2.2.2.1
   unfold kL at q
   rw[<-e,ht] at q
   injection q with q;injection q with q1 q2 q3;cases q2
  ·have q:=H11.out.2.2.2.2.1
   rw[<-e,ht] at q
   injection q with q;injection q with q1 q2 q3;cases q2
 show Leaves _ _ _ _ _ _ w14
 refine dQ (f:=56) (args:=#[.pointer (some ⟨p4.t,0,none⟩)]) (by simp[settle]) (by simp[go_sem]) ?_
 refine(hD14.O7 _).mono ?_
 rintro e u' w15 ⟨rfl,rfl,rfl⟩
 have he14:=(hk14.block (qb+1+1) (ah.1 H13.out.2.2.1).1 (by omega)).trans H13.out.2.2.1
 have e0:w15.cell? ⟨qb+1+1,0,none⟩=some (.int .i64 0):=by simp[World.cell?,he14]
 obtain⟨d0,d1,d2,d3,d4,_⟩:=ho14.cells
 refine⟨.tuple #[.agg #[.int .i64 201,.slice ho' qN.length hc',.string ⟨#[]⟩,.bool false,.bool false],.int .i64 0],by simp[results,Tryz.results28,go_sem,d0,d1,d2,d3,d4,e0],?_⟩
 have hlo:∀b,(Value.slice ho' qN.length hc').ownBlock=some b->w8.heap.size<=b:=H9.out.2.2.2.2.1
 have hF:∀g,F g->F9 g:=fun g e=>H9.out.2.1 _ (H8.out.2.2.2.2.1.1 _ (H8.out.2.2.2.2.2.2.2.1 _ e))
 have hq8:=H8.out.2.2.1.2
 have hwq:w.heap.size=qb:=H3.out.2.2.2.2.2
 refine⟨_,u',rfl,?_,?_,?_,?_⟩
 ·exact(H11.out.2.1.next hk1114 (fun g e=>e.elim (fun e=>by rw[e];exact H11.out.2.2.2.2.2.2.2.1) (fun e=>by rw[e];exact H11.out.2.2.2.2.2.2.2.2))).re (fun g e=> .inl (hF g e))
 ·have i10:jP w10 (.slice ho' qN.length hc') qN:=aW.keep H9.out.2.2.2.1 fun b hb hl hs=>⟨H10.out.1.block b hl (fun e=>by have:=hlo b hb;have e:b=qb+1:=e;omega),hs⟩
  have i11:jP w11 (.slice ho' qN.length hc') qN:=aW.keep i10 fun b hb hl hs=>⟨H11.out.2.2.1.block b hl (fun e=>e (H9.out.2.2.1 b hb)),hs⟩
  exact aW.keep i11 fun b hb hl hs=>⟨hk1114.block b hl (fun e=>by have:=hlo b hb;have e:b=qb+1\/b=qb+1+1:=e;omega),hs⟩
 ·intro b hb
  have:=hlo b hb
  have:=H8.out.2.2.2.1.size
  omega
 ·have k9:Keep (fun g=>¬F g\/w.heap.size<=g) w w9:=(H8.out.2.2.2.1.mono (fun _ _ e=> .inl e)).trans H9.out.2.2.2.2.2.1 (fun g _ e=> .inl fun x=>e (H8.out.2.2.2.2.1.1 _ (H8.out.2.2.2.2.2.2.2.1 _ x)))
  have k10:=k9.trans H10.out.1 (fun g _ e=> .inr (by have e:g=qb+1:=e;omega))
  have k11:=k10.trans H11.out.2.2.1 (fun g _ e=> .inl fun x=>e (hF g x))
  have k14:=k11.trans hk1114 (fun g _ e=> .inr (by have e:g=qb+1\/g=qb+1+1:=e;omega))
  exact(Keep.refl _ w).trans k14 (fun g hg e=>e.elim id (fun e=>absurd hg (aV.2 e)))
theorem Oj {R:Ending->World->Prop}{d:Nat}(h2:d≠8)(h3:d≠9){c:List PanicEntry}{a:Act}{v:Value}{w:World}(h:bodyPostD Tryz.prog Tryz.f28 R (.panic c) (a.put (some d) v) w):bodyPostD Tryz.prog Tryz.f28 R (.panic c) a w:=by
 refine lK ?_ _ _ _ (show Leaves Tryz.prog Tryz.f28 (a.tmps.setIfInBounds d v) R a.defers (.panicking c) w from h)
 unfold results
 rw[Tryz.results28]
 simp[nA,gW,h2,h3]
theorem Ol (hv:Value)(hs:List Pr)(now:Int)(draw:ByteArray)(w:World)(hh:jP w hv hs):
  Calls Tryz.prog 28 #[.pointer none,JC hv,.int .i64 now,.string draw] w fun e w'=>e= .returned (.tuple #[.agg #[.int .i64 0,.slice none 0 0,.string ⟨#[]⟩,.bool false,.bool false],.int .i64 2])/\Below w.heap.size w w':=by
 obtain⟨ho,hc,rfl,_,_,_,_⟩:=aW.form hh
 clear hh
 go_enter_defers Tryz.func28,Tryz.ntmps28
 rw[show JC (.slice ho hs.length hc)= .agg #[.string fH,.string mq,.slice ho hs.length hc,.string sX,.bool false] from rfl]
 go_upto_region 1 with (fail)
 have h3:=IE w (.cells #[.string fH,.string mq,.slice ho hs.length hc,.string sX,.bool false] 73) (.cells #[.int .i64 0,.slice none 0 0,.string ⟨#[]⟩,.bool false,.bool false] 81) (.cells #[.int .i64 0] 26)
 dsimp only at h3
 generalize ((w.alloc (.cells #[.string fH,.string mq,.slice ho hs.length hc,.string sX,.bool false] 73)).alloc (.cells #[.int .i64 0,.slice none 0 0,.string ⟨#[]⟩,.bool false,.bool false] 81)).alloc (.cells #[.int .i64 0] 26)=w3 at h3 ⊢
 obtain⟨h30,h31,h32,h3s,h3b⟩:=h3
 obtain⟨qb,hqb⟩:∃x:Nat,Hid (w.heap.size=x):=⟨_,af rfl⟩
 rw[hqb.out] at h30 h31 h32
 rw[hqb.out]
 have H3:=af (ak h30 (ak h31 (ak h32 (ak h3s (ak h3b hqb.out)))))
 have le:=(ah.1 h32).1
 have e0:w3.cell? ⟨qb+1+1,0,none⟩=some (.int .i64 0):=by simp[World.cell?,h32]
 have ef:w3.frozen? ⟨qb+1+1,0,none⟩=false:=by simp[World.frozen?,h32]
 have hk5:Keep (· =qb+1+1) w3 (w3.setCell ⟨qb+1+1,0,none⟩ (.int .i64 2)):=(Keep.refl (· =qb+1+1) w3).setCell (p:=⟨qb+1+1,0,none⟩) (.inr rfl) _
 have h52:(w3.setCell ⟨qb+1+1,0,none⟩ (.int .i64 2)).heap[qb+1+1]? =some (.cells #[.int .i64 2] 26 (0,0)):=by simp[World.setCell,aJ,h32]
 obtain⟨w5,hw5⟩:∃x:World,Hid (w3.setCell ⟨qb+1+1,0,none⟩ (.int .i64 2)=x):=⟨_,af rfl⟩
 rw[hw5.out] at hk5 h52
 have h51:=(hk5.block (qb+1) (ah.1 h31).1 (by omega)).trans h31
 clear h30 h31 h32 h3s h3b
 go_upto_region 2 with (first
  |(go_at_call 55;go_must (refine(Gp now w3).mono ?_;rintro e w4 ⟨rfl,hw⟩;subst w4)))
 rw[hw5.out]
 clear le e0 ef
 have le:=(ah.1 h52).1
 have lo:=(ah.1 h51).1
 have e0:w5.cell? ⟨qb+1+1,0,none⟩=some (.int .i64 2):=by simp[World.cell?,h52]
 have ef:w5.frozen? ⟨qb+1+1,0,none⟩=false:=by simp[World.frozen?,h52]
 have H5:=af (ak h51 (ak h52 hk5))
 go_upto_region 3 with (fail)
 have hI:w5.drew.heap[qb+1+1]? =some (.cells #[.int .i64 2] 26 (0,0))/\Below w5.heap.size w5 w5.drew:=⟨h52,(aH _ w5).drew⟩
 refine aK (fun W=>W.heap[qb+1+1]? =some (.cells #[.int .i64 2] 26 (0,0))/\w5.heap.size<=W.heap.size) (fun i=> !([2,3].contains i)) [0,1,2,3] rfl (by kernel_rfl) ⟨hI.1,hI.2.size⟩ ?_
 repeat ((refine bq (v:= ?_) rfl rfl ?_ rfl (fun W hW=> ?_) ?_);rotate_left;(focus (exact fun c a w h=>Oj (by decide) (by decide) h));(focus ((try dsimp only at hW);have p0:W.cell? ⟨qb+1+1,0,none⟩=some (.int .i64 2):=(by simp[World.cell?,hW.1]);have p1:=(ah.1 hW.1).1;(go_simp;first|done|with_reducible rfl)));(try simp only[Act.put,aj,av,au]))
 have hr6:Row w5.drew (qb+1) 81 [.int .i64 0,.slice none 0 0,.string ⟨#[]⟩,.bool false,.bool false]:=h51
 refine bP rfl rfl rfl ?_;intro K hK
 refine wp_store_row 81 (.tmp 8) (.tmp 29) rfl (qb+1) 0 81 _ [.int .i64 0,.slice none 0 0,.string ⟨#[]⟩,.bool false,.bool false] rfl rfl hr6 mI (aA 5) (by intro v hv;simp only[aX,cK,iL] at hv;rcases hv with rfl|rfl|rfl|rfl|rfl<;>rfl) ?_
 intro w6 hr6' hk6
 have hk6:Keep (· =qb+1) w5.drew w6:=hk6
 have he6:w6.heap[qb+1+1]? =some (.cells #[.int .i64 2] 26 (0,0)):=(hk6.block _ (ah.1 hI.1).1 (by omega)).trans hI.1
 refine hK.out _ _ ⟨he6,aG hI.2.size hk6.size⟩ ?_
 have f6:w6.frozen? ⟨qb+1+1,0,none⟩=false:=by simp[World.frozen?,he6]
 have c6:w6.cell? ⟨qb+1+1,0,none⟩=some (.int .i64 2):=by simp[World.cell?,he6]
 have l6:=(ah.1 he6).1
 refine jm rfl rfl rfl (by kernel_rfl) ?_;intro K hK;go_simp
 refine hK.out _ _ ?_
 refine bF ?_
 have hk7:Keep (· =qb+1+1) w6 (w6.setCell ⟨qb+1+1,0,none⟩ (.int .i64 2)):=(Keep.refl (· =qb+1+1) w6).setCell (p:=⟨qb+1+1,0,none⟩) (.inr rfl) _
 have h7:(w6.setCell ⟨qb+1+1,0,none⟩ (.int .i64 2)).heap[qb+1+1]? =some (.cells #[.int .i64 2] 26 (0,0)):=by simp[World.setCell,aJ,he6]
 have ho6:w6.heap[qb+1]? =some (.cells #[.int .i64 0,.slice none 0 0,.string ⟨#[]⟩,.bool false,.bool false] 81 (0,0)):=hr6'
 generalize w6.setCell ⟨qb+1+1,0,none⟩ (.int .i64 2)=w7 at hk7 h7 ⊢
 have ho7:=(hk7.block (qb+1) (ah.1 ho6).1 (by omega)).trans ho6
 have e0:w7.cell? ⟨qb+1+1,0,none⟩=some (.int .i64 2):=by simp[World.cell?,h7]
 have d0:w7.cell? ⟨qb+1,0,none⟩=some (.int .i64 0):=by simp[World.cell?,ho7]
 have d1:w7.cell? ⟨qb+1,1,none⟩=some (.slice none 0 0):=by simp[World.cell?,ho7]
 have d2:w7.cell? ⟨qb+1,2,none⟩=some (.string ⟨#[]⟩):=by simp[World.cell?,ho7]
 have d3:w7.cell? ⟨qb+1,3,none⟩=some (.bool false):=by simp[World.cell?,ho7]
 have d4:w7.cell? ⟨qb+1,4,none⟩=some (.bool false):=by simp[World.cell?,ho7]
 go_wp2_with fail
 refine⟨.tuple #[.agg #[.int .i64 0,.slice none 0 0,.string ⟨#[]⟩,.bool false,.bool false],.int .i64 2],by simp[results,Tryz.results28,go_sem,d0,d1,d2,d3,d4,e0],rfl,?_⟩
 have hq:=H3.out.2.2.2.2
 have k3:=Keep.of_below hq.1 (fun g=>w.heap.size<=g)
 have k5:=k3.trans hk5 (fun g _ e=>by have e:g=qb+1+1:=e;omega)
 have k6:=(k5.trans (Keep.of_below hI.2 (fun g=>w.heap.size<=g)) (fun _ _ e=>e)).trans hk6 (fun g _ e=>by have e:g=qb+1:=e;omega)
 have k7:=k6.trans hk7 (fun g _ e=>by have e:g=qb+1+1:=e;omega)
 exact k7.dY (aA _) (fun g hg e=>absurd hg (aV.2 e))
theorem rW.cells {w:World}{tb:Nat}{hv:Value}(h:rW w tb hv):w.cell? ⟨tb,0,none⟩=some (.string fH)/\w.cell? ⟨tb,1,none⟩=some (.string mq)/\w.cell? ⟨tb,2,none⟩=some hv/\w.cell? ⟨tb,3,none⟩=some (.string sX)/\w.cell? ⟨tb,4,none⟩=some (.bool false)/\w.cell? ⟨tb,5,none⟩=some (.int .i64 0)/\tb<w.heap.size:=by
 unfold rW at h
 exact⟨by simp[World.cell?,h],by simp[World.cell?,h],by simp[World.cell?,h],by simp[World.cell?,h],by simp[World.cell?,h],by simp[World.cell?,h],(ah.1 h).1⟩
theorem rW.keep {M:Nat->Prop}{w w':World}{tb:Nat}{hv:Value}(h:rW w tb hv)(hk:Keep M w w')(hM:¬M tb):rW w' tb hv:=(hk.block tb (ah.1 h).1 hM).trans h
theorem iE.Aw {w:World}{sb:Nat}{v:Value}{L:List jM}{d s cnt:Value}(h:iE w sb v L d s cnt):w.cell? ⟨sb,0,none⟩=some v:=Row.cell h 0
theorem TK {F:Nat->Prop}{w:World}{v N R dn u:Nat}(h:rV ⟨F,w,nK⟩ v N R dn u [] w)(hu:12+u<=N/\13<=R/\dn<=100000000)(sb tb:Nat)(inn hv:Value)(L:List jM)(out:ByteArray)(now:Int)(draw:ByteArray)
  (hS:iE w sb (.pointer (some ⟨v,0,none⟩)) L (.int .u32 0) (.int .i32 0) (.slice none 0 0)) (hL:L.length=16) (hl:L[0]? =some ⟨inn,.pointer (some ⟨tb,0,none⟩),⟨#[]⟩,0,out⟩) (ht:rW w tb hv) (hh:jP w hv hsP)
  (hT:kQ w) (hm:jZ w) (hw:qB w) (hG:Ur F) (hGw:F 2) (hO:∀b,hv.ownBlock=some b->F b) (hF:F sb) (hns:sb≠2/\sb≠fK.g 3/\sb≠fK.g 4/\sb≠3/\∀b,hv.ownBlock=some b->b≠sb):
  Calls Tryz.prog 7 #[.pointer (some ⟨sb,0,none⟩),.int .i64 0,.int .i64 now,.string draw] w fun e w'=>∃kb u',e= .returned (.tuple #[.int .i64 201,.int .i64 0])/\rV ⟨fun g=>F g\/g=kb,w',nK⟩ v N R (dn+1) u' Fp w'/\iE w' sb (.pointer (some ⟨v,0,none⟩)) (L.set 0 ⟨inn,.pointer none,lX,1,out⟩) (.int .u32 1) (.int .i32 0) (.slice (some ⟨kb,0,none⟩) 600 600)/\CO w' kb 1/\w.heap.size<=kb/\Keep (fun g=>¬F g\/g=sb) w w':=by
 obtain⟨ho,hc,rfl,_,_,_,_⟩:=aW.form hh
 have HR:=af (JE sb tb _ _ _ _ L inn ⟨#[]⟩ out 0 w hS hl)
 obtain⟨_,c2,_,_,_,cf,ls⟩:=hS.zero hl
 obtain⟨t0,t1,t2,t3,t4,t5,lt⟩:=ht.cells
 have hl0:=(bg.1 hl).1
 have hb1:=aC w (.cells #[.string fH,.string mq,.slice ho hsP.length hc,.string sX,.bool false,.int .i64 0] 75)
 have hn1:rW (w.alloc (.cells #[.string fH,.string mq,.slice ho hsP.length hc,.string sX,.bool false,.int .i64 0] 75)) w.heap.size (.slice ho hsP.length hc):=aF w _
 obtain⟨w1,hw1⟩:∃x:World,Hid (w.alloc (.cells #[.string fH,.string mq,.slice ho hsP.length hc,.string sX,.bool false,.int .i64 0] 75)=x):=⟨_,af rfl⟩
 rw[hw1.out] at hb1 hn1
 obtain⟨nb,hnb⟩:∃x:Nat,Hid (w.heap.size=x):=⟨_,af rfl⟩
 rw[hnb.out] at hn1
 have hS1:=hS.keep (Keep.of_below hb1 (fun _=>False)) id
 have HA:=af (ak h (ak hu (ak hL (ak hh (ak hT (ak hm (ak hw (ak hG (ak hGw (ak hO (ak hF (ak hns (ak hl0 hnb.out)))))))))))))
 have H1:=af (ak hb1 (ak hn1 hS1))
 clear h hu hL hh hT hm hw hG hGw hO hF hns hS ht hb1 hn1 hS1
 go_enter Tryz.func7,Tryz.ntmps7
 go_upto_region 7 with (first
  |(go_at_call 27;go_must (refine(sU sb w ls).mono ?_;rintro e w2 ⟨rfl,hw⟩;subst w2))
  |(go_at_call 12;go_must (refine HR.out.mono ?_;rintro e w2 ⟨rfl,hw⟩;subst w2)))
 rw[hw1.out,hnb.out]
 obtain⟨_,d1,_,_,_,df,dl⟩:=H1.out.2.2.zero hl
 have df2:=df 2
 have hs2:=H1.out.2.2.set0 hl 1 (by decide) (.pointer none) (l':=⟨inn,.pointer none,⟨#[]⟩,0,out⟩) rfl
 obtain⟨w2,hw2⟩:∃x:World,Hid (w1.setCell ⟨sb,1+1,none⟩ (.pointer none)=x):=⟨_,af rfl⟩
 rw[hw2.out] at hs2
 have hw2':w1.setCell ⟨sb,2,none⟩ (.pointer none)=w2:=hw2.out
 have hnsb:nb≠sb/\w.heap.size=nb:=by have:=HA.out.2.2.2.2.2.2.2.2.2.2.2.2.2;omega
 have hn2:rW w2 nb (.slice ho hsP.length hc):=H1.out.2.1.keep hs2.2 hnsb.1
 have hz2:w1.heap.size<=w2.heap.size:=hs2.2.size
 have hb3:=aC w2 (.cells #[.int .i64 0,.slice none 0 0,.string ⟨#[]⟩,.bool false,.bool true] 81)
 have hn3:=aF w2 (.cells #[.int .i64 0,.slice none 0 0,.string ⟨#[]⟩,.bool false,.bool true] 81)
 obtain⟨w3,hw3⟩:∃x:World,Hid (w2.alloc (.cells #[.int .i64 0,.slice none 0 0,.string ⟨#[]⟩,.bool false,.bool true] 81)=x):=⟨_,af rfl⟩
 rw[hw3.out] at hb3 hn3
 obtain⟨rb,hrb⟩:∃x:Nat,Hid (w2.heap.size=x):=⟨_,af rfl⟩
 rw[hrb.out] at hn3
 have hS3:=hs2.1.keep (Keep.of_below hb3 (fun _=>False)) id
 have hn3':rW w3 nb (.slice ho hsP.length hc):=hn2.keep (Keep.of_below hb3 (fun _=>False)) id
 have hk3:Keep (· =sb) w w3:=((Keep.of_below H1.out.1 (· =sb)).trans hs2.2 (fun _ _ e=>e)).trans (Keep.of_below hb3 (· =sb)) (fun _ _ e=>e)
 obtain⟨t0',t1',t2',t3',t4',t5',lt'⟩:=hn2.cells
 have H3:=af (ak hS3 (ak hn3' (ak hn3 (ak hk3 (ak hnsb (ak hz2 (ak hb3 hrb.out)))))))
 clear hs2 hn3 hS3 hn3' hk3 hnsb hz2 hb3 c2 cf ls t0 t1 t2 t3 t4 t5 lt df
 go_upto_region 8 with (fail)
 clear d1 dl df2 hw2'
 go_upto_region 9 with (fail)
 rw[hw3.out,hrb.out]
 obtain⟨t0,t1,t2,t3,t4,t5,lt⟩:=H3.out.2.1.cells
 go_upto_region 10 with (fail)
 have hkd:Keep (· =sb) w w3.drew:=H3.out.2.2.2.1.trans (Keep.of_below ((aH w3.heap.size w3).drew) (· =sb)) (fun _ _ e=>e)
 have hVd:=HA.out.1.next hkd (fun g e=>by rw[show g=sb from e];exact HA.out.2.2.2.2.2.2.2.2.2.2.1)
 obtain⟨hn1,hn2,hn3,hn4,hn5⟩:=HA.out.2.2.2.2.2.2.2.2.2.2.2.1
 have hTd:kQ w3.drew:=HA.out.2.2.2.2.1.mF hkd (fun e=>hn2 e.symm) (fun e=>hn3 e.symm)
 have hmd:jZ w3.drew:=HA.out.2.2.2.2.2.1.keep hkd (fun e=>hn4 e.symm)
 have hhd:jP w3.drew (.slice ho hsP.length hc) hsP:=aW.keep HA.out.2.2.2.1 fun b hb hl hs=>⟨hkd.block b hl (fun e=>hn5 b hb e),hs⟩
 have HDO:=af (Uu hVd HA.out.2.1 _ now draw hhd hTd hmd ⟨.inl HA.out.2.2.2.2.2.2.2.1.1,.inl HA.out.2.2.2.2.2.2.2.1.2.1,.inl HA.out.2.2.2.2.2.2.2.1.2.2⟩ (fun b hb=> .inl (HA.out.2.2.2.2.2.2.2.2.2.1 b hb)))
 have hrl:rb<w3.heap.size:=(ah.1 H3.out.2.2.1).1
 have hSd:=H3.out.1.keep (Keep.of_below ((aH w3.heap.size w3).drew) (fun _=>False)) id
 have hTnd:=H3.out.2.1.keep (Keep.of_below ((aH w3.heap.size w3).drew) (fun _=>False)) id
 have Hd:=af (ak hkd (ak hSd (ak hTnd hrl)))
 clear hVd hTd hmd hhd hn1 hn2 hn3 hn4 hn5 t0 t1 t2 t3 t4 t5 lt t0' t1' t2' t3' t4' t5' lt'
 refine aK (fun W=>iE W sb (.pointer (some ⟨v,0,none⟩)) (L.set 0 ⟨inn,.pointer none,⟨#[]⟩,0,out⟩) (.int .u32 0) (.int .i32 0) (.slice none 0 0)/\rW W nb (.slice ho hsP.length hc)/\rb<W.heap.size) (fun i=> !([8,12].contains i)) [0,1,2,3,4,5,6,7,8,9,10,11,12,13] rfl (by kernel_rfl) ⟨Hd.out.2.1,Hd.out.2.2.1,Hd.out.2.2.2⟩ ?_
 repeat ((refine bq (v:= ?_) rfl rfl (fun _ _ _ h=>h) rfl (fun W hW=> ?_) ?_);rotate_left;(focus ((try dsimp only at hW);have q0:W.cell? ⟨sb,0,none⟩=some (.pointer (some ⟨v,0,none⟩)):=hW.1.Aw;have q1:=hW.1.lt;have q2:=hW.2.1.cells.1;have q3:=hW.2.1.cells.2.1;have q4:=hW.2.1.cells.2.2.1;have q5:=hW.2.1.cells.2.2.2.1;have q6:=hW.2.1.cells.2.2.2.2.1;have q7:=hW.2.1.cells.2.2.2.2.2.2;have q8:=hW.2.2;(go_simp;first|done|with_reducible rfl)));(try simp only[Act.put,aj,av,au]))
 refine bP rfl rfl rfl ?_;intro K hK;go_simp
 refine HDO.out.mono ?_;rintro e w4 ⟨hv',u',rfl,hV4,hh4,hlo4,hk4⟩
 obtain⟨ho',hc',rfl,_,_,_,_⟩:=aW.form hh4
 have hzw:w.heap.size<=w1.heap.size:=H1.out.1.size
 have hlnb:nb<w1.heap.size:=(ah.1 H1.out.2.1).1
 have hFr:∀g,w.heap.size<=g->g<w3.heap.size->(gJ.next ⟨F,w,nK⟩ w w3.drew).F g:=fun g h1 h2=> .inr ⟨h1,h2⟩
 have hz3:=H3.out
 have hnb3:nb<w3.heap.size:=Hd.out.2.2.1.cells.2.2.2.2.2.2
 have hnbw:w.heap.size<=nb/\w.heap.size<=rb:=by have a:=hz3.2.2.2.2.1.2;have b:=hz3.2.2.2.2.2.1;have c:=hz3.2.2.2.2.2.2.2;omega
 have hS4:=Hd.out.2.1.keep hk4 (fun e=>e (.inl HA.out.2.2.2.2.2.2.2.2.2.2.1))
 have hT4:=Hd.out.2.2.1.keep hk4 (fun e=>e (hFr nb hnbw.1 hnb3))
 have hr4:Row w4 rb 81 [.int .i64 0,.slice none 0 0,.string ⟨#[]⟩,.bool false,.bool true]:=(hk4.block rb Hd.out.2.2.2 (fun e=>e (hFr rb hnbw.2 Hd.out.2.2.2))).trans H3.out.2.2.1
 have hrl4:rb<w4.heap.size:=ax Hd.out.2.2.2 hk4.size
 refine hK.out _ _ ⟨hS4,hT4,hrl4⟩ ?_
 (try simp only[Act.put,aj,av,au])
 repeat ((refine bq (v:= ?_) rfl rfl (fun _ _ _ h=>h) rfl (fun W hW=> ?_) ?_);rotate_left;(focus ((try dsimp only at hW);have q0:W.cell? ⟨sb,0,none⟩=some (.pointer (some ⟨v,0,none⟩)):=hW.1.Aw;have q1:=hW.1.lt;have q2:=hW.2.1.cells.1;have q3:=hW.2.1.cells.2.1;have q4:=hW.2.1.cells.2.2.1;have q5:=hW.2.1.cells.2.2.2.1;have q6:=hW.2.1.cells.2.2.2.2.1;have q7:=hW.2.1.cells.2.2.2.2.2.2;have q8:=hW.2.2;(go_simp;first|done|with_reducible rfl)));(try simp only[Act.put,aj,av,au]))
 refine bP rfl rfl rfl ?_;intro K hK
 refine wp_store_row 81 (.tmp 13) (.tmp 53) rfl rb 0 81 _ [.int .i64 201,.slice ho' qN.length hc',.string ⟨#[]⟩,.bool false,.bool false] rfl rfl hr4 mI (aA 5) (by intro v hv;simp only[aX,cK,iL] at hv;rcases hv with rfl|rfl|rfl|rfl|rfl<;>rfl) ?_
 intro w5 hr5 hk5
 have hne5:sb≠rb/\nb≠rb:=by have a:=HA.out.1.fs HA.out.2.2.2.2.2.2.2.2.2.2.1;have b:=hz3.2.2.2.2.1.2;have c:=hz3.2.2.2.2.2.1;have d:=hz3.2.2.2.2.2.2.2;omega
 have hS5:=hS4.keep hk5 hne5.1
 have hT5:=hT4.keep hk5 hne5.2
 refine hK.out _ _ ⟨hS5,hT5,ax hrl4 hk5.size⟩ ?_
 (try simp only[Act.put,aj,av,au])
 repeat ((refine bq (v:= ?_) rfl rfl (fun _ _ _ h=>h) rfl (fun W hW=> ?_) ?_);rotate_left;(focus ((try dsimp only at hW);have q0:W.cell? ⟨sb,0,none⟩=some (.pointer (some ⟨v,0,none⟩)):=hW.1.Aw;have q1:=hW.1.lt;have q2:=hW.2.1.cells.1;have q3:=hW.2.1.cells.2.1;have q4:=hW.2.1.cells.2.2.1;have q5:=hW.2.1.cells.2.2.2.1;have q6:=hW.2.1.cells.2.2.2.2.1;have q7:=hW.2.1.cells.2.2.2.2.2.2;have q8:=hW.2.2;(go_simp;first|done|with_reducible rfl)));(try simp only[Act.put,aj,av,au]))
 refine bF ?_
 have ho5:kL w5 rb (.slice ho' qN.length hc') ⟨#[]⟩ false false:=hr5
 obtain⟨c0,c1,c2,c3,c4,lr⟩:=ho5.cells
 have hlo:∀b,(Value.slice ho' qN.length hc').ownBlock=some b->w3.drew.heap.size<=b:=hlo4
 have hh5:jP w5 (.slice ho' qN.length hc') qN:=aW.keep hh4 fun b hb hl hs=>⟨hk5.block b hl (fun e=>by have h1:=hlo b hb;have h2:=Hd.out.2.2.2;have h3:w3.drew.heap.size=w3.heap.size:=rfl;have e:b=rb:=e;omega),hs⟩
 have hP5:qB w5:=by
  have p0:=HA.out.2.2.2.2.2.2.1
  have p1:=p0.keep hkd (fun e=>HA.out.2.2.2.2.2.2.2.2.2.2.2.1.1 e.symm)
  have p2:=p1.keep hk4 (fun e=>e (.inl HA.out.2.2.2.2.2.2.2.2.1))
  exact p2.keep hk5 (fun e=>by have:=p0.lt;have e:2=rb:=e;omega)
 have HW:=af (QI _ w5 hh5 hP5)
 have hV5:=hV4.next hk5 (fun g e=>by rw[show g=rb from e];exact hFr rb hnbw.2 Hd.out.2.2.2)
 have hK5:Keep (fun g=>¬F g\/g=sb) w w5:=by
  have k1:=(hkd.mono (fun g _ e=> .inr (.inr e):∀g,g<w.heap.size->g=sb->(w.heap.size<=g\/(¬F g\/g=sb)))).trans hk4 (fun g _ e=> .inr (.inl fun x=>e (.inl x)))
  have k2:=k1.trans hk5 (fun g _ e=> .inl (by have e:g=rb:=e;omega))
  exact(Keep.refl _ w).trans k2 (fun g hg e=>e.elim (fun e=>absurd hg (aV.2 e)) id)
 have H5:=af (ak hV5 (ak hK5 (ak hS5 (ak ho5 hne5.1))))
 clear hV4 hh4 hlo4 hk4 hh5 hP5 hS4 hT4 hr4 hrl4 hr5 hk5 hS5 hT5 hV5 hK5 ho5 hlo hkd hrl hSd hTnd hFr hz3 hnb3 hnbw hne5 hzw hlnb
 go_wp2_with (first
  |(go_at_call 29;go_must (refine HW.out.mono ?_;rintro e w6 ⟨rfl,hb6⟩;refine Stop.of ?_)))
 refine Stop.on ?_
 have hS6:=H5.out.2.2.1.keep (Keep.of_below hb6 (fun _=>False)) id
 have hl2:(L.set 0 (⟨inn,.pointer none,⟨#[]⟩,0,out⟩:jM))[0]? =some ⟨inn,.pointer none,⟨#[]⟩,0,out⟩:=iQ HA.out.2.2.2.2.2.2.2.2.2.2.2.2.1
 obtain⟨_,_,s3,s4,_,sf,sl⟩:=hS6.zero hl2
 have sf3:=sf 3
 have hs7:=hS6.set0 hl2 2 (by decide) (.string lX) (l':=⟨inn,.pointer none,lX,0,out⟩) rfl
 rw[qK] at hs7
 obtain⟨w7,hw7⟩:∃x:World,Hid (w6.setCell ⟨sb,1+2,none⟩ (.string lX)=x):=⟨_,af rfl⟩
 rw[hw7.out] at hs7
 have hw7':w6.setCell ⟨sb,3,none⟩ (.string lX)=w7:=hw7.out
 have hl3:(L.set 0 (⟨inn,.pointer none,lX,0,out⟩:jM))[0]? =some ⟨inn,.pointer none,lX,0,out⟩:=iQ HA.out.2.2.2.2.2.2.2.2.2.2.2.2.1
 have a1:∀W:World,(Op.stringOp .add (⟨#[]⟩:ByteArray) lX).run Tryz.prog W= .ok (.string lX) W:=fun _=>by kernel_rfl
 have H7:=af (ak hb6 hs7)
 clear hb6 hS6 hs7 hl2 sf s4 c0 c1 c2 c3 c4 lr
 go_upto_region 18 with (fail)
 obtain⟨_,_,_,s4,_,sf,sl⟩:=H7.out.2.1.zero hl3
 have sf4:=sf 4
 have hs8:=H7.out.2.1.set0 hl3 3 (by decide) (.int .i64 1) (l':=⟨inn,.pointer none,lX,1,out⟩) rfl
 rw[qK] at hs8
 obtain⟨w8,hw8⟩:∃x:World,Hid (w7.setCell ⟨sb,1+3,none⟩ (.int .i64 1)=x):=⟨_,af rfl⟩
 rw[hw8.out] at hs8
 have hw8':w7.setCell ⟨sb,4,none⟩ (.int .i64 1)=w8:=hw8.out
 have hk58:Keep (· =sb) w5 w8:=((Keep.of_below H7.out.1 (· =sb)).trans H7.out.2.2 (fun _ _ e=>e)).trans hs8.2 (fun _ _ e=>e)
 have ho8:kL w8 rb (.slice ho' qN.length hc') ⟨#[]⟩ false false:=(hk58.block rb (ah.1 H5.out.2.2.2.1).1 (fun e=>H5.out.2.2.2.2 (Eq.symm e))).trans H5.out.2.2.2.1
 have HK8:=af (ak hk58 (ak hs8.1 ho8))
 have HS8:=af ho8.cells.2.2.2.2.2
 clear hk58 ho8 hs8 sf s3 sf3
 go_upto_region 19 with (fail)
 clear hw7' hw8' s4 sf4 a1
 have hTF:=Di sb (.pointer (some ⟨v,0,none⟩)) _ w8.drew (HK8.out.2.1.keep (Keep.of_below ((aH w8.heap.size w8).drew) (fun _=>False)) id) (by rw[iZ];exact HA.out.2.2.1)
 have hz8:w8.drew.heap.size=w8.heap.size:=rfl
 rw[hz8] at hTF
 refine aK (fun W=>W.cell? ⟨rb,0,none⟩=some (.int .i64 201)/\w8.heap.size<=W.heap.size) (fun i=> !([1,5].contains i)) [0,2,3,1,4,5] rfl (by kernel_rfl) ⟨HK8.out.2.2.cells.1,aA _⟩ ?_
 repeat ((refine bq (v:= ?_) rfl rfl (fun _ _ _ h=>h) rfl (fun W hW=> ?_) ?_);rotate_left;(focus ((try dsimp only at hW);have q0:=hW.1;have q1:=hW.2;have q2:=HS8.out;have q3:=ax HS8.out hW.2;(go_simp;first|done|with_reducible rfl)));(try simp only[Act.put,aj,av,au]))
 refine bP rfl rfl rfl ?_;intro K hK;go_simp
 refine hTF.mono ?_;rintro e w9 ⟨kb,rfl,hS9,hK9,hkb,hk9⟩
 have ho9:kL w9 rb (.slice ho' qN.length hc') ⟨#[]⟩ false false:=(hk9.block rb HS8.out (fun e=>H5.out.2.2.2.2 (Eq.symm e))).trans HK8.out.2.2
 refine hK.out _ _ ⟨ho9.cells.1,hk9.size⟩ ?_
 (try simp only[Act.put,aj,av,au])
 repeat ((refine bq (v:= ?_) rfl rfl (fun _ _ _ h=>h) rfl (fun W hW=> ?_) ?_);rotate_left;(focus ((try dsimp only at hW);have q0:=hW.1;have q1:=hW.2;have q2:=HS8.out;have q3:=ax HS8.out hW.2;(go_simp;first|done|with_reducible rfl)));(try simp only[Act.put,aj,av,au]))
 obtain⟨cur,hcl,hc1,hcr⟩:=hK9
 have hadd:=add_one kb 201 0 1 w9 ((Row.cell hcr 201).trans hc1) (Row.frozen hcr _) (af (by decide))
 refine bP rfl rfl rfl ?_;intro K hK;go_simp
 refine hadd.mono ?_;rintro e w10 ⟨rfl,hw10⟩
 have hrow10:=Row.setCell hcr 201 (.int .i64 1)
 rw[<-hw10] at hrow10
 have hkk:Keep (· =kb) w9 w10:=by rw[hw10];exact(Keep.refl (· =kb) w9).setCell (p:=⟨kb,201,none⟩) (.inr rfl) _
 have hK10:CO w10 kb 1:=⟨_,by rw[iZ];exact hcl,iQ (by omega),hrow10⟩
 have hkne:kb≠sb/\kb≠rb:=by have:=HS8.out;have:=HK8.out.2.1.lt;omega
 have ho10:kL w10 rb (.slice ho' qN.length hc') ⟨#[]⟩ false false:=(hkk.block rb (ah.1 ho9).1 (fun e=>hkne.2 (Eq.symm e))).trans ho9
 have hS10:=hS9.keep hkk (fun e=>hkne.1 (Eq.symm e))
 refine hK.out _ _ ⟨ho10.cells.1,aG hk9.size hkk.size⟩ ?_
 refine bF ?_
 obtain⟨c0,_,_,_,_,lr⟩:=ho10.cells
 have hk59:Keep (· =sb) w5 w9:=(HK8.out.1.trans (Keep.of_below ((aH w8.heap.size w8).drew) (· =sb)) (fun _ _ e=>e)).trans hk9 (fun _ _ e=>e)
 have HZ:=af (ak hk59 (ak hkk (ak hS10 (ak hK10 hkb))))
 have hkl:kb<w9.heap.size:=Row.lt hcr
 clear hk59 hkk hS10 hK10 hkb hS9 hk9 ho9 ho10 hcr hrow10 hw10
 go_wp2_with fail
 go_ret2
 refine⟨rfl,kb,⟨u',?_⟩,HZ.out.2.2.1,HZ.out.2.2.2.1,?_,?_⟩
 ·have n1:=H5.out.1.next HZ.out.1 (fun g e=>by rw[show g=sb from e];exact .inl (.inl HA.out.2.2.2.2.2.2.2.2.2.2.1))
  have n2:=n1.next HZ.out.2.1 (fun g e=>by
   rw[show g=kb from e]
   exact .inr ⟨by have:=HZ.out.2.2.2.2;have:=HK8.out.1.size;omega,hkl⟩)
  exact n2.re (fun g e=>e.elim (fun e=> .inl (.inl (.inl (.inl e)))) (fun e=>by rw[e];exact .inl (.inr ⟨by have:=HZ.out.2.2.2.2;have:=HK8.out.1.size;omega,hkl⟩)))
 ·have:=HZ.out.2.2.2.2;have:=HK8.out.1.size;have:=H5.out.2.1.size;omega
 ·have k1:=H5.out.2.1.trans HZ.out.1 (fun g _ e=> .inr e)
  exact k1.trans HZ.out.2.1 (fun g hg e=>absurd hg (by have e:g=kb:=e;have:=HZ.out.2.2.2.2;have:=HK8.out.1.size;have:=H5.out.2.1.size;omega))
theorem Jo {w0:World}(sb cb:Nat)(buf r:ByteArray)(d s cnt:Value)(L:List jM)(out:ByteArray)(now:Int)(draw:ByteArray)
  (hS:iE w0 sb (.pointer none) L d s cnt) (hl00:L[0]? =some ⟨.pointer (some ⟨cb,0,none⟩),.pointer none,⟨#[]⟩,0,out⟩) (hcn:mE w0 cb buf) (hne:sb≠cb) (hp:GU buf) (hr:buf.extract 48 buf.size=r) (hm:jZ w0):
  Calls Tryz.prog 7 #[.pointer (some ⟨sb,0,none⟩),.int .i64 0,.int .i64 now,.string draw] w0 fun e w'=>e= .returned (.tuple #[.int .i64 0,.int .i64 2])/\iE w' sb (.pointer none) L d s cnt/\mE w' cb r/\Keep (fun g=>g=sb\/g=cb) w0 w':=by
 have hl0:=(bg.1 hl00).1
 have HR:=af (wO sb cb buf r _ d s cnt L ⟨#[]⟩ out 0 w0 hS hl00 hcn hne hp hr hm)
 obtain⟨_,_,_,_,_,_,ls0⟩:=hS.zero hl00
 have HA0:=af (ak hl00 (ak hne ls0))
 clear hS hcn hp hr hm hl00
 go_enter Tryz.func7,Tryz.ntmps7
 go_wp2_with (first
  |(go_at_call 27;go_must (refine(sU sb w0 ls0).mono ?_;rintro e w2 ⟨rfl,hw⟩;subst w2))
  |(go_at_call 12;go_must (refine HR.out.mono ?_;rintro e w ⟨rfl,hv,tb,hS,hC0,ht,hh,hlo0,hk0⟩;refine Stop.of ?_)))
 refine Stop.on ?_
 obtain⟨inn,hinn⟩:∃inn:Value,Hid (inn= .pointer (some ⟨cb,0,none⟩)):=⟨_,af rfl⟩
 rw[<-hinn.out] at hS
 have hl:(L.set 0 (⟨inn,.pointer (some ⟨tb,0,none⟩),⟨#[]⟩,0,out⟩:jM))[0]? =some ⟨inn,.pointer (some ⟨tb,0,none⟩),⟨#[]⟩,0,out⟩:=iQ hl0
 obtain⟨L1,hL1⟩:∃L1:List jM,Hid (L.set 0 (⟨inn,.pointer (some ⟨tb,0,none⟩),⟨#[]⟩,0,out⟩:jM)=L1):=⟨_,af rfl⟩
 rw[hL1.out] at hS hl
 have hns:∀b,hv.ownBlock=some b->b≠sb:=fun b hb e=>by have:=hlo0.2 b hb;omega
 obtain⟨ho,hc,rfl,_,_,_,_⟩:=aW.form hh
 have HK0:=af (ak hC0 (ak hk0 hlo0))
 obtain⟨_,c2,_,_,_,cf,ls⟩:=hS.zero hl
 obtain⟨t0,t1,t2,t3,t4,t5,lt⟩:=ht.cells
 have hl0':=(bg.1 hl).1
 have hb1:=aC w (.cells #[.string fH,.string mq,.slice ho hsP.length hc,.string sX,.bool false,.int .i64 0] 75)
 have hn1:rW (w.alloc (.cells #[.string fH,.string mq,.slice ho hsP.length hc,.string sX,.bool false,.int .i64 0] 75)) w.heap.size (.slice ho hsP.length hc):=aF w _
 obtain⟨w1,hw1⟩:∃x:World,Hid (w.alloc (.cells #[.string fH,.string mq,.slice ho hsP.length hc,.string sX,.bool false,.int .i64 0] 75)=x):=⟨_,af rfl⟩
 rw[hw1.out] at hb1 hn1
 obtain⟨nb,hnb⟩:∃x:Nat,Hid (w.heap.size=x):=⟨_,af rfl⟩
 rw[hnb.out] at hn1
 have hS1:=hS.keep (Keep.of_below hb1 (fun _=>False)) id
 have HA:=af (ak hh (ak hns (ak hl0' (ak hnb.out ls))))
 have H1:=af (ak hb1 (ak hn1 hS1))
 clear hh hns hS ht hb1 hn1 hS1 hC0 hk0 hlo0
 go_upto_region 7 with (fail)
 rw[hw1.out,hnb.out]
 obtain⟨_,d1,_,_,_,df,dl⟩:=H1.out.2.2.zero hl
 have df2:=df 2
 have hs2:=H1.out.2.2.set0 hl 1 (by decide) (.pointer none) (l':=⟨inn,.pointer none,⟨#[]⟩,0,out⟩) rfl
 obtain⟨w2,hw2⟩:∃x:World,Hid (w1.setCell ⟨sb,1+1,none⟩ (.pointer none)=x):=⟨_,af rfl⟩
 rw[hw2.out] at hs2
 have hw2':w1.setCell ⟨sb,2,none⟩ (.pointer none)=w2:=hw2.out
 have hnsb:nb≠sb/\w.heap.size=nb:=by have:=HA.out.2.2.2;omega
 have hn2:rW w2 nb (.slice ho hsP.length hc):=H1.out.2.1.keep hs2.2 hnsb.1
 have hz2:w1.heap.size<=w2.heap.size:=hs2.2.size
 have hb3:=aC w2 (.cells #[.int .i64 0,.slice none 0 0,.string ⟨#[]⟩,.bool false,.bool true] 81)
 have hn3:=aF w2 (.cells #[.int .i64 0,.slice none 0 0,.string ⟨#[]⟩,.bool false,.bool true] 81)
 obtain⟨w3,hw3⟩:∃x:World,Hid (w2.alloc (.cells #[.int .i64 0,.slice none 0 0,.string ⟨#[]⟩,.bool false,.bool true] 81)=x):=⟨_,af rfl⟩
 rw[hw3.out] at hb3 hn3
 obtain⟨rb,hrb⟩:∃x:Nat,Hid (w2.heap.size=x):=⟨_,af rfl⟩
 rw[hrb.out] at hn3
 have hS3:=hs2.1.keep (Keep.of_below hb3 (fun _=>False)) id
 have hn3':rW w3 nb (.slice ho hsP.length hc):=hn2.keep (Keep.of_below hb3 (fun _=>False)) id
 have hk3:Keep (· =sb) w w3:=((Keep.of_below H1.out.1 (· =sb)).trans hs2.2 (fun _ _ e=>e)).trans (Keep.of_below hb3 (· =sb)) (fun _ _ e=>e)
 obtain⟨t0',t1',t2',t3',t4',t5',lt'⟩:=hn2.cells
 have H3:=af (ak hS3 (ak hn3' (ak hn3 (ak hk3 (ak hnsb (ak hz2 (ak hb3 hrb.out)))))))
 clear hs2 hn3 hS3 hn3' hk3 hnsb hz2 hb3 c2 cf ls t0 t1 t2 t3 t4 t5 lt df
 go_upto_region 8 with (fail)
 clear d1 dl df2 hw2'
 go_upto_region 9 with (fail)
 rw[hw3.out,hrb.out]
 obtain⟨t0,t1,t2,t3,t4,t5,lt⟩:=H3.out.2.1.cells
 go_upto_region 10 with (fail)
 have hkd:Keep (· =sb) w w3.drew:=H3.out.2.2.2.1.trans (Keep.of_below ((aH w3.heap.size w3).drew) (· =sb)) (fun _ _ e=>e)
 have hhd:jP w3.drew (.slice ho hsP.length hc) hsP:=aW.keep HA.out.1 fun b hb hl hs=>⟨hkd.block b hl (fun e=>HA.out.2.1 b hb e),hs⟩
 have HDO:=af (Ol _ hsP now draw w3.drew hhd)
 have hrl:rb<w3.heap.size:=(ah.1 H3.out.2.2.1).1
 have hSd:=H3.out.1.keep (Keep.of_below ((aH w3.heap.size w3).drew) (fun _=>False)) id
 have hTnd:=H3.out.2.1.keep (Keep.of_below ((aH w3.heap.size w3).drew) (fun _=>False)) id
 have Hd:=af (ak hkd (ak hSd (ak hTnd hrl)))
 clear hhd t0 t1 t2 t3 t4 t5 lt t0' t1' t2' t3' t4' t5' lt'
 refine aK (fun W=>iE W sb (.pointer none) (L1.set 0 ⟨inn,.pointer none,⟨#[]⟩,0,out⟩) d s cnt/\rW W nb (.slice ho hsP.length hc)/\rb<W.heap.size) (fun i=> !([8,12].contains i)) [0,1,2,3,4,5,6,7,8,9,10,11,12,13] rfl (by kernel_rfl) ⟨Hd.out.2.1,Hd.out.2.2.1,Hd.out.2.2.2⟩ ?_
 repeat ((refine bq (v:= ?_) rfl rfl (fun _ _ _ h=>h) rfl (fun W hW=> ?_) ?_);rotate_left;(focus ((try dsimp only at hW);have q0:W.cell? ⟨sb,0,none⟩=some (.pointer none):=hW.1.Aw;have q1:=hW.1.lt;have q2:=hW.2.1.cells.1;have q3:=hW.2.1.cells.2.1;have q4:=hW.2.1.cells.2.2.1;have q5:=hW.2.1.cells.2.2.2.1;have q6:=hW.2.1.cells.2.2.2.2.1;have q7:=hW.2.1.cells.2.2.2.2.2.2;have q8:=hW.2.2;(go_simp;first|done|with_reducible rfl)));(try simp only[Act.put,aj,av,au]))
 refine bP rfl rfl rfl ?_;intro K hK;go_simp
 refine HDO.out.mono ?_;rintro e w4 ⟨rfl,hb4⟩
 have hk4:Keep (fun _=>False) w3.drew w4:=Keep.of_below hb4 _
 have hS4:=Hd.out.2.1.keep hk4 id
 have hT4:=Hd.out.2.2.1.keep hk4 id
 have hr4:Row w4 rb 81 [.int .i64 0,.slice none 0 0,.string ⟨#[]⟩,.bool false,.bool true]:=(hk4.block rb Hd.out.2.2.2 id).trans H3.out.2.2.1
 have hrl4:rb<w4.heap.size:=ax Hd.out.2.2.2 hk4.size
 refine hK.out _ _ ⟨hS4,hT4,hrl4⟩ ?_
 (try simp only[Act.put,aj,av,au])
 repeat ((refine bq (v:= ?_) rfl rfl (fun _ _ _ h=>h) rfl (fun W hW=> ?_) ?_);rotate_left;(focus ((try dsimp only at hW);have q0:W.cell? ⟨sb,0,none⟩=some (.pointer none):=hW.1.Aw;have q1:=hW.1.lt;have q2:=hW.2.1.cells.1;have q3:=hW.2.1.cells.2.1;have q4:=hW.2.1.cells.2.2.1;have q5:=hW.2.1.cells.2.2.2.1;have q6:=hW.2.1.cells.2.2.2.2.1;have q7:=hW.2.1.cells.2.2.2.2.2.2;have q8:=hW.2.2;(go_simp;first|done|with_reducible rfl)));(try simp only[Act.put,aj,av,au]))
 refine bP rfl rfl rfl ?_;intro K hK
 refine wp_store_row 81 (.tmp 13) (.tmp 53) rfl rb 0 81 _ [.int .i64 0,.slice none 0 0,.string ⟨#[]⟩,.bool false,.bool false] rfl rfl hr4 mI (aA 5) (by intro v hv;simp only[aX,cK,iL] at hv;rcases hv with rfl|rfl|rfl|rfl|rfl<;>rfl) ?_
 intro w5 hr5 hk5
 have hne5:sb≠rb/\nb≠rb/\w.heap.size<=rb:=by have a:=HA.out.2.2.2.2;have z:=H3.out;have b:=z.2.2.2.2.1.2;have c:=z.2.2.2.2.2.1;have d:=z.2.2.2.2.2.2.2;have e1:=H1.out.1.size;have e2:=(ah.1 H1.out.2.1).1;omega
 have hS5:=hS4.keep hk5 hne5.1
 have hT5:=hT4.keep hk5 hne5.2.1
 refine hK.out _ _ ⟨hS5,hT5,ax hrl4 hk5.size⟩ ?_
 (try simp only[Act.put,aj,av,au])
 repeat ((refine bq (v:= ?_) rfl rfl (fun _ _ _ h=>h) rfl (fun W hW=> ?_) ?_);rotate_left;(focus ((try dsimp only at hW);have q0:W.cell? ⟨sb,0,none⟩=some (.pointer none):=hW.1.Aw;have q1:=hW.1.lt;have q2:=hW.2.1.cells.1;have q3:=hW.2.1.cells.2.1;have q4:=hW.2.1.cells.2.2.1;have q5:=hW.2.1.cells.2.2.2.1;have q6:=hW.2.1.cells.2.2.2.2.1;have q7:=hW.2.1.cells.2.2.2.2.2.2;have q8:=hW.2.2;(go_simp;first|done|with_reducible rfl)));(try simp only[Act.put,aj,av,au]))
 refine bF ?_
 have HF:=af (ak hS5 ((hkd.trans hk4 (fun _ _ e=>e.elim)).trans hk5 (fun g hg e=>absurd hg (by have e:g=rb:=e;omega))))
 clear hS5 hT5 hS4 hT4 hr4 hr5 hk5 hk4 hkd
 go_wp2_with fail
 go_ret2
 have hLL:L1.set 0 (⟨inn,.pointer none,⟨#[]⟩,0,out⟩:jM)=L:=by
  rw[<-hL1.out,qK,hinn.out]
  obtain⟨h0,e0⟩:=bg.1 HA0.out.1
  rw[<-e0]
  exact List.set_getElem_self h0
 have hF1:=HF.out.1
 rw[hLL] at hF1
 refine⟨rfl,hF1,HK0.out.1.keep HF.out.2 (fun e=>HA0.out.2.1 (Eq.symm e)),HK0.out.2.1.trans HF.out.2 (fun _ _ e=> .inl e)⟩
theorem LZ (b o:Nat)(c:Int)(w:World)(hc:w.cell? ⟨b,o,none⟩=some (.int .i64 c)):
  Calls Tryz.prog 36 #[.pointer (some ⟨b,o,none⟩)] w fun e w'=>e= .returned (.int .i64 c)/\w'=w:=by
 have hl:=qg (P:=Tryz.prog) Tryz.func72 (by kernel_rfl) (by kernel_rfl) (by kernel_rfl) .i64 (by kernel_rfl) hc
 have lb:=aD w _ hc
 go_enter Tryz.func36,Tryz.ntmps36
 go_wp2
 go_ret
 exact⟨rfl,rfl⟩
theorem QE (sb kb:Nat)(v:Value)(L:List jM)(c:Int)(w:World)(h:iE w sb v L (.int .u32 1) (.int .i32 0) (.slice (some ⟨kb,0,none⟩) 600 600))(hL:L.length=16)(hk:CO w kb c):
  Calls Tryz.prog 14 #[.pointer (some ⟨sb,0,none⟩),.int .i64 201] w fun e w'=>e= .returned (.int .i64 c)/\Below w.heap.size w w':=by
 have HT:=af (FT sb kb v L w h hL)
 have HK:=af hk
 have ls:=h.lt
 clear h hL hk
 go_enter Tryz.func14,Tryz.ntmps14
 go_wp2_with (first
  |(go_at_call 35;go_must (refine(BZ _).mono ?_;rintro e w1 ⟨rfl,hw⟩;subst w1))
  |(go_at_call 30;go_must (refine HT.out.mono ?_;rintro e w1 ⟨rfl,hb1⟩;refine Stop.of ?_)))
 refine Stop.on ?_
 obtain⟨cur,hcl,hc1,hcr⟩:=HK.out
 have hcr1:Row w1 kb 103 cur:=Row.keep hcr (Keep.of_below hb1 (fun _=>False)) id
 have HL:=af (LZ kb 201 c w1 ((Row.cell hcr1 201).trans hc1))
 have lk:=Row.lt hcr1
 have HB:=af hb1
 clear hcr1 hb1 hcr hc1 hcl
 go_wp2_with (first
  |(go_at_call 36;go_must (refine HL.out.mono ?_;rintro e w2 ⟨rfl,hw⟩;subst w2)))
 go_ret
 exact⟨rfl,HB.out⟩
end Go.Proofs.YtpmbddooibgnaaaGreatDoor
namespace Go.Proofs.YtpmbddooibgnaaaGreatDoor
open Go.RowKit
theorem Live.R8 {σ σ':bR}{root:Int}{es:List kS}{tb:List Int}(h:Live σ root es tb)(hh:∀x,σ'.hasB x=σ.hasB x)(hm:∀x,σ.hasB x=true->σ'.mem x=σ.mem x)(hn:∀x,σ'.held x=σ.held x)(hz:σ'.sz=σ.sz)(hc:countB σ'.H.old σ'.most=countB σ.H.old σ.most):Live σ' root es tb:=by
 have hmv:∀x∈tb++dM es,σ'.hasB x=true/\σ'.mem x=σ.mem x:=fun x hx=>⟨(hh x).trans (h.all x hx).1,hm x (h.all x hx).1⟩
 refine⟨?_,fun e he=>(h.val e he).keep fun x hx=>hmv x (bX _ (nZ.2 ⟨e,he,hx⟩)),⟨h.own.nd,fun x hx=>h.own.ex x ((hh x).symm.trans hx),?_⟩⟩
 ·rcases h.tree with h|⟨h,ht⟩
  ·exact .inl h
  ·exact .inr ⟨h,ht.move fun x hx=>hmv x (cO _ hx)⟩
 ·rw[hz,hc,h.own.size]
  unfold nh
  congr 3
  funext x
  rw[hn]
theorem Qk {σ:Dk}{l:Lg}{p:Pg}{f:Nat->Bool}{root:Nat}{es:List kS}{tb:List Int}(hB:xR σ l p f root)(hL:Live (bR.start σ l p f) root es tb){σ2:Dk}{l2:Lg}(hb:p.blocks σ2=p.blocks σ)(hd:σ2.dead=false)(hpd:p.dead=false)(hl:∀b,b<p.blocks σ->p.look Im.none σ2 b=p.look Im.none σ b):xR σ2 l2 p f root/\Live (bR.start σ2 l2 p f) root es tb:=by
 have h2:=hB.two
 have hh:∀x,(bR.start σ2 l2 p f).hasB x=(bR.start σ l p f).hasB x:=fun x=>by
  show (decide (0<=x) && (decide (x.toNat<p.blocks σ2) && f x.toNat))=(decide (0<=x) && (decide (x.toNat<p.blocks σ) && f x.toNat))
  rw[hb]
 refine⟨⟨hpd,hd,by rw[hb];exact h2,(hl 0 (by omega)).trans hB.map,fun b h=>hB.hi b (by rw[<-hb];exact h),hB.f0,hB.f1,by rw[hl 1 (by omega)];exact hB.root⟩,hL.R8 hh (fun x hx=> ?_) (fun _=>rfl) ?_ ?_⟩
 ·obtain⟨n,rfl,hn,_⟩:=bR.kJ hx
  have hn:n<p.blocks σ:=hn
  exact hl _ (by rw[cB];exact hn)
 ·show (bR.start σ2 l2 p f).sz=(bR.start σ l p f).sz
  unfold bR.start
  rw[hb]
  rfl
 ·show countB f (p.blocks σ2)=countB f (p.blocks σ)
  rw[hb]
theorem rV.Sg {F:Nat->Prop}{w0 w:World}{v N R dn u:Nat}{kv:List Pr}(h:rV ⟨F,w0,nK⟩ v N R dn u kv w)(hd:dn<=100000000):
  Calls Tryz.prog 33 #[.pointer (some ⟨v,0,none⟩)] w fun e w'=>e= .returned (.int .i64 0)/\rV ⟨F,w0,nK⟩ v N R dn u kv w':=by
 obtain⟨S,pg,d',σ,l,p,f,root,es,tb,hA,hB,h1,h2,h3,h4,h5,h6⟩:=h
 obtain⟨hpo,hdo,hlo⟩:=hA.pgr.ok
 rcases Qx hA.vi (by omega) with ⟨σ',l',hsy,hV⟩|⟨_,_,_,hV⟩
 ·refine(R3 v pg d' σ l p _ S w hA.obj hA.pgr ?_).mono ?_
  ·have h1:=hA.vi.wt;have h2:=hlo.us;have h3:=hlo.hi;omega
  rw[hsy]
  rintro e w' ⟨rfl,S',hp',hs⟩
  have hp':iF w' S' pg d' σ' l' p (.pointer none):=hp'
  have hbl:p.blocks σ'=p.blocks σ:=by unfold Pg.blocks;rw[hV.n]
  have hb':=Qk (l2:=l') hA.base hA.live hbl hV.vj.nd hV.vj.pd fun b _=>hV.look Im.none b
  exact⟨rfl,S',pg,d',σ',l',p,f,root,es,tb,hA.step hp' hs hV.vj hb'.1 hb'.2,hB.step hs,⟨h1.1,hV.fu h1.2⟩,hbl.trans h2,h3,hV.last.trans h4,h5,h6⟩
 ·exact absurd h1.2 hV.fu
end Go.Proofs.YtpmbddooibgnaaaGreatDoor
namespace Go.Proofs.YtpmbddooibgnaaaGreatDoor
open Go.RowKit Go.Shelf
def Dv:ByteArray:=⟨#[80,85,84,32,47,97,32,72,84,84,80,47,49,46,49,13,10,72,111,115,116,58,32,104,13,10,67,111,110,116,101,110,116,45,76,101,110,103,116,104,58,32,49,13,10,13,10,120]⟩
def AP:ByteArray:=⟨([80,85,84,32,47,97,32,72,84,84,80,47,49,46,49,13,10,72,111,115,116,58,32,104,13,10,67,111,110,116,101,110,116,45,76,101,110,103,116,104,58,32,49,13,10,13,10,120].append [80,85,84,32,47,97,32,72,84,84,80,47,49,46,49,13,10,72,111,115,116,58,32,104,13,10,67,111,110,116,101,110,116,45,76,101,110,103,116,104,58,32,49,13,10,13,10,120]).toArray⟩
theorem Py:GU Dv where
 l1:=⟨_,_,_,rfl,rfl,rfl,by kernel_rfl,by kernel_rfl,by kernel_rfl,by decide,aR (by kernel_rfl),aR (by kernel_rfl),aR (by kernel_rfl),by kernel_rfl⟩
 h1:=⟨_,_,_,rfl,rfl,rfl,by kernel_rfl,by kernel_rfl,by kernel_rfl,by decide,aR (by kernel_rfl),aR (by kernel_rfl),aR (by kernel_rfl),by kernel_rfl⟩
 h2:=⟨_,_,_,rfl,rfl,rfl,by kernel_rfl,by kernel_rfl,by kernel_rfl,by decide,aR (by kernel_rfl),aR (by kernel_rfl),aR (by kernel_rfl),by kernel_rfl⟩
 h3:=⟨_,_,_,rfl,rfl,rfl,by kernel_rfl,by kernel_rfl,by kernel_rfl,by decide,aR (by kernel_rfl),aR (by kernel_rfl),aR (by kernel_rfl),by kernel_rfl⟩
 b:=by kernel_rfl
 z:=⟨aR (by kernel_rfl),aR (by kernel_rfl)⟩
theorem Sm:GU AP where
 l1:=⟨_,_,_,rfl,rfl,rfl,by kernel_rfl,by kernel_rfl,by kernel_rfl,by decide,aR (by kernel_rfl),aR (by kernel_rfl),aR (by kernel_rfl),by kernel_rfl⟩
 h1:=⟨_,_,_,rfl,rfl,rfl,by kernel_rfl,by kernel_rfl,by kernel_rfl,by decide,aR (by kernel_rfl),aR (by kernel_rfl),aR (by kernel_rfl),by kernel_rfl⟩
 h2:=⟨_,_,_,rfl,rfl,rfl,by kernel_rfl,by kernel_rfl,by kernel_rfl,by decide,aR (by kernel_rfl),aR (by kernel_rfl),aR (by kernel_rfl),by kernel_rfl⟩
 h3:=⟨_,_,_,rfl,rfl,rfl,by kernel_rfl,by kernel_rfl,by kernel_rfl,by decide,aR (by kernel_rfl),aR (by kernel_rfl),aR (by kernel_rfl),by kernel_rfl⟩
 b:=by kernel_rfl
 z:=⟨aR (by kernel_rfl),aR (by kernel_rfl)⟩
theorem DC:Dv.extract 48 Dv.size=⟨#[]⟩:=by kernel_rfl
theorem JD:AP.extract 48 AP.size=Dv:=by kernel_rfl
theorem wV:∀L:List jM,(∀l∈L,l.n=0)->nJ L=0
 |[],_=>rfl
 |l::L,h=>by
  have h1:=wV L fun x hx=>h x (aT _ hx)
  have h2:=h l (aP ..)
  unfold nJ at*
  simp only[dO,jQ] at*
  omega
theorem DY (P:List Nat):∀l∈newL P,l.n=0/\l.held=⟨#[]⟩/\l.out=⟨#[]⟩:=by
 intro l hl
 unfold newL at hl
 rcases dG.1 hl with h|h
 ·obtain⟨c,_,rfl⟩:=gV.1 h
  exact⟨rfl,rfl,rfl⟩
 ·rw[List.eq_of_mem_replicate h]
  exact⟨rfl,rfl,rfl⟩
theorem AY (c:Nat)(P:List Nat):(newL (c::P))[0]? =some (Tz c):=rfl
theorem Mx:(⟨#[]⟩:ByteArray)++lX=lX:=by kernel_rfl
theorem kQ.Ty {w:World}(h:kQ w):fK.g 3<w.heap.size/\fK.g 4<w.heap.size:=⟨aD w _ (h.1 0 (by decide)),aD w _ (h.2 0 (by decide)).1⟩
theorem jZ.lt {w:World}(h:jZ w):3<w.heap.size:=by obtain⟨m,h⟩:=h;exact aD w _ h
theorem SV {w:World}{hv:Value}(h:jP w hv hsP):∀b,hv.ownBlock=some b->b<w.heap.size:=by
 intro b hb
 obtain⟨ho,hc,rfl,_,_,_,_⟩:=aW.form h
 obtain⟨g,o,rfl,d1,_⟩:=h.at rfl 0 (by decide)
 have e:g=b:=fU hb
 subst e
 exact aD w _ d1
theorem QC (w:World)(hT:kQ w)(hm:jZ w)(hw:qB w):Calls Tryz.prog 6 #[] w fun e w'=>e= .returned (.bool true)/\Below w.heap.size w w':=by
 have HG:=af (ak hT (ak hm hw))
 clear hT hm hw
 go_enter Tryz.func6,Tryz.ntmps6
 go_wp2_with (first
  |(go_at_call 26;go_must ((refine(Ue 4096 w).mono ?_);rintro e w1 ⟨d,S,rfl,hD,hb1,hS⟩;have HV:=af (rV.make w w1 4096 700 d S (VB.of hb1 hS) hD (by omega) (by omega));clear hD hb1 hS))
  |(go_at_call 25;go_must ((refine HV.out.mono ?_);rintro e w2 ⟨v,rfl,hV2⟩;clear HV))
  |(go_at_call 15;go_must ((refine(Sj (some ⟨v,0,none⟩) w2).mono ?_);rintro e w3 ⟨rfl,P,hP,hS3,hC3,hb3⟩;refine Stop.of ?_)))
 refine Stop.on ?_
 obtain⟨sb,hsb⟩:∃x:Nat,Hid (w2.heap.size=x):=⟨_,af rfl⟩
 rw[hsb.out] at hS3 hC3 hb3
 rw[hsb.out]
 obtain⟨c0,P,rfl⟩:∃c P',P=c::P':=by
  cases P with
  |nil=>exact absurd hP (by decide)
  |cons c P=>exact⟨c,P,rfl⟩
 have hc0:=hC3 c0 (aP ..)
 have hl16:(newL (c0::P)).length=16:=zh _ (fA hP)
 obtain⟨L,hLe⟩:∃L,Hid (newL (c0::P)=L):=⟨_,af rfl⟩
 have hl0:L[0]? =some ⟨.pointer (some ⟨c0,0,none⟩),.pointer none,⟨#[]⟩,0,⟨#[]⟩⟩:=by rw[<-hLe.out];exact AY c0 P
 have hall:∀l∈L,l.n=0/\l.held=⟨#[]⟩/\l.out=⟨#[]⟩:=by rw[<-hLe.out];exact DY _
 rw[hLe.out] at hS3 hl16
 have HF:=af (Pw sb c0 ⟨#[]⟩ Dv Dv _ _ _ _ L _ _ _ _ w3 hS3 hl0 hc0.1 (by kernel_rfl) ⟨by decide,aR (by kernel_rfl)⟩)
 have H3:=af (ak hV2 (ak hS3 (ak hc0 (ak hb3 (ak hsb.out (ak hl16 (ak hl0 hall)))))))
 clear hV2 hS3 hC3 hc0 hb3 hl16 hl0 hall hP
 go_wp2_with (first
  |(go_at_call 9;go_must (refine HF.out.mono ?_;rintro e w4 ⟨rfl,hC4,hk4⟩;refine Stop.of ?_)))
 refine Stop.on ?_
 have hb12:Below w.heap.size w w2:=rV.Bu H3.out.1
 have hb23:Below w2.heap.size w2 w3:=by have:=H3.out.2.2.2.1;rw[<-H3.out.2.2.2.2.1] at this;exact this
 have hc2:sb<c0/\w2.heap.size=sb:=⟨H3.out.2.2.1.2,H3.out.2.2.2.2.1⟩
 have hb24:Below w2.heap.size w2 w4:=hb23.trans (hk4.dY hb23.size (fun g hg e=>by have e:g=c0:=e;omega))
 have hb14:Below w.heap.size w w4:=hb12.trans (hb24.mono hb12.size)
 have hS4:=H3.out.2.1.keep hk4 (fun e=>by have e:sb=c0:=e;omega)
 have HR:=af (wO sb c0 Dv _ _ _ _ _ L _ _ _ w4 hS4 H3.out.2.2.2.2.2.2.1 hC4 (by omega) Py DC (HG.out.2.1.below hb14))
 have hs4:=hS4.lt
 have H4:=af (ak hb12 (ak hb24 hc2))
 clear hb12 hb23 hc2 hb24 hb14 hS4 hC4 hk4
 go_wp2_with (first
  |(go_at_call 12;go_must (refine HR.out.mono ?_;rintro e w5 ⟨rfl,hv,tb,hS5,hC5,hT5,hI5,hlo5,hk5⟩;refine Stop.of ?_)))
 refine Stop.on ?_
 have hb25:Below w2.heap.size w2 w5:=H4.out.2.1.trans (hk5.dY H4.out.2.1.size (fun g hg e=>by have:=H4.out.2.2;rcases e with e|e<;>omega))
 have hV5:=H3.out.1.next (Keep.of_below hb25 (fun _=>False)) (fun _ e=>e.elim)
 have hb15:Below w.heap.size w w5:=H4.out.1.trans (hb25.mono H4.out.1.size)
 obtain⟨F,hF⟩:∃F:Nat->Prop,Hid (F=fun g=>g<w.heap.size\/(w2.heap.size<=g/\g<w5.heap.size)):=⟨_,af rfl⟩
 have hV5':rV ⟨F,w5,nK⟩ v (4096 - 700) (700 - 1) 0 0 [] w5:=by rw[hF.out];exact hV5
 have hFa:∀g,g<w.heap.size->F g:=fun g e=>by rw[hF.out];exact .inl e
 have hFb:∀g,w2.heap.size<=g->g<w5.heap.size->F g:=fun g e1 e2=>by rw[hF.out];exact .inr ⟨e1,e2⟩
 have hnF:∀g,¬F g->w.heap.size<=g:=fun g e=>aV.1 fun x=>e (hFa g x)
 have hs5:=hS5.lt
 have hl5:(L.set 0 (⟨.pointer (some ⟨c0,0,none⟩),.pointer (some ⟨tb,0,none⟩),⟨#[]⟩,0,⟨#[]⟩⟩:jM))[0]? =some ⟨.pointer (some ⟨c0,0,none⟩),.pointer (some ⟨tb,0,none⟩),⟨#[]⟩,0,⟨#[]⟩⟩:=iQ (by rw[H3.out.2.2.2.2.2.1];decide)
 have hz12:=H4.out.1.size
 have hz24:=H4.out.2.1.size
 have hg:=HG.out
 have hRUN:=TK hV5' (by omega) sb tb _ hv _ ⟨#[]⟩ 0 ⟨#[49]⟩ hS5 (by rw[iZ];exact H3.out.2.2.2.2.2.1) hl5 hT5 hI5 (hg.1.below hb15) (hg.2.1.below hb15) (hg.2.2.below hb15) ⟨hFa _ hg.1.Ty.1,hFa _ hg.1.Ty.2,hFa _ hg.2.1.lt⟩ (hFa _ hg.2.2.lt) (fun b hb=>hFb b (by have:=hlo5.2 b hb;omega) (SV hI5 b hb)) (hFb sb (by have:=H4.out.2.2;omega) hs5)
  ⟨by have:=hg.2.2.lt;have:=H4.out.2.2;omega,by have:=hg.1.Ty;have:=H4.out.2.2;omega,by have:=hg.1.Ty;have:=H4.out.2.2;omega,by have:=hg.2.1.lt;have:=H4.out.2.2;omega,fun b hb e=>by have:=hlo5.2 b hb;omega⟩
 rw[qK] at hRUN
 have HRUN:=af hRUN
 have HFF:=af (ak hnF (ak (hFb sb (by have:=H4.out.2.2;omega) hs5) hs5))
 have HZ:=af (ak hb15 (ak hz12 hz24))
 have hlt0:0<L.length:=by rw[H3.out.2.2.2.2.2.1];decide
 clear hb25 hV5 hV5' hFa hFb hnF hs5 hl5 hz12 hz24 hg hRUN hT5 hI5 hlo5 hC5 hS5 hk5 hb15 hs4
 go_wp2_with (first
  |(go_at_call 7;go_must (refine HRUN.out.mono ?_;rintro e w6 ⟨kb,u',rfl,hV6,hS6,hK6,hkb,hk6⟩;refine Stop.of ?_)))
 refine Stop.on ?_
 obtain⟨inn,hinn⟩:∃inn:Value,Hid (inn= .pointer (some ⟨c0,0,none⟩)):=⟨_,af rfl⟩
 rw[<-hinn.out] at hS6
 have hl6:(L.set 0 (⟨inn,.pointer none,lX,1,⟨#[]⟩⟩:jM))[0]? =some ⟨inn,.pointer none,lX,1,⟨#[]⟩⟩:=iQ hlt0
 have hTK:=Pt sb _ _ _ _ _ _ _ _ _ _ w6 hS6 hl6
 rw[qK] at hTK
 have HTK:=af hTK
 have H6:=af (ak hV6 (ak hS6 (ak hK6 (ak hkb hk6))))
 clear hV6 hS6 hK6 hkb hk6 hTK
 go_wp2_with (first
  |(go_at_call 8;go_must (refine HTK.out.mono ?_;rintro e w7 ⟨rfl,hS7,hk7⟩;refine Stop.of ?_)))
 refine Stop.on ?_
 have hsb6:=H6.out.2.1.lt
 have hkne:kb≠sb:=by have:=H6.out.2.2.2.1;have:=HFF.out.2.2;omega
 have hV7:rV ⟨fun g=>F g\/g=kb,w7,nK⟩ v (4096 - 700) (700 - 1) (0+1) u' Fp w7:=(H6.out.1.next hk7 (fun g e=> .inl (by rw[show g=sb from e];exact HFF.out.2.1))).re (fun g e=> .inl e)
 obtain⟨L6,hL6⟩:∃L6:List jM,Hid (L.set 0 (⟨inn,.pointer none,lX,1,⟨#[]⟩⟩:jM)=L6):=⟨_,af rfl⟩
 have hall6:∀l∈L6,l.held.size<=100000/\l.out=⟨#[]⟩:=by
  rw[<-hL6.out]
  intro l hl
  rcases oQ hl with h|rfl
  ·have:=H3.out.2.2.2.2.2.2.2 l h
   exact⟨by rw[this.2.1];decide,this.2.2⟩
  ·exact⟨aR (by kernel_rfl),rfl⟩
 have hL616:L6.length=16:=by rw[<-hL6.out,iZ];exact H3.out.2.2.2.2.2.1
 rw[hL6.out] at hS7 hl6
 have hSY:=AB sb (some ⟨v,0,none⟩) _ _ _ L6 w7 0 (fun g=>¬(F g\/g=kb)) (fun _=>True) hS7 hL616 (fun l hl=>⟨(hall6 l hl).1,by rw[(hall6 l hl).2];decide⟩) (fun e=>e (.inl HFF.out.2.1)) ((hV7.Sg (by omega)).mono fun e w' q=>⟨q.1,trivial,q.2.Er⟩)
 have HSY:=af hSY
 have hK7:=H6.out.2.2.1.keep hk7 (fun e=>hkne e)
 have H7:=af (ak hk7 (ak hK7 (ak hkne (ak hL616 hl6))))
 clear hsb6 hV7 hall6 hL616 hS7 hl6 hSY hK7 hk7 hkne
 go_wp2_with (first
  |(go_at_call 11;go_must (refine HSY.out.mono ?_;rintro e w8 ⟨rfl,wm,_,hkm,hor⟩;refine Stop.of ?_)))
 refine Stop.on ?_
 obtain⟨_,hS8,hk8⟩:=hor.resolve_left (fun e=>e.1 rfl)
 have hK8:=(H7.out.2.1.keep hkm (fun e=>e (.inr rfl))).keep hk8 (fun e=>H7.out.2.2.1 e)
 have hl8:(L6.map jM.sync)[0]? =some ⟨inn,.pointer none,⟨#[]⟩,0,lX⟩:=by
  rw[dH,H7.out.2.2.2.2]
  show some (jM.sync _)=_
  unfold jM.sync
  rw[Mx]
 have hkw:Keep (fun g=>w.heap.size<=g) w w8:=by
  have k5:=Keep.of_below HZ.out.1 (fun g=>w.heap.size<=g)
  have hsw:w.heap.size<=sb:=by have:=H4.out.2.2;have:=HZ.out;omega
  have k6:=k5.trans H6.out.2.2.2.2 (fun g _ e=>e.elim (HFF.out.1 g) (fun e=>by omega))
  have k7:=k6.trans H7.out.1 (fun g _ e=>by have e:g=sb:=e;omega)
  have km:=k7.trans hkm (fun g _ e=>HFF.out.1 g fun x=>e (.inl x))
  exact km.trans hk8 (fun g _ e=>by have e:g=sb:=e;omega)
 have HTK2:=af (Pt sb _ _ _ _ _ _ _ _ _ _ w8 hS8 hl8)
 have H8:=af (ak hK8 hkw)
 clear hor hkm hk8 hK8 hl8 hkw hS8
 go_wp2_with (first
  |(go_at_call 8;go_must (refine HTK2.out.mono ?_;rintro e w9 ⟨rfl,hS9,hk9⟩;refine Stop.of ?_)))
 refine Stop.on ?_
 obtain⟨L9,hL9⟩:∃L9:List jM,Hid ((L6.map jM.sync).set 0 (⟨inn,.pointer none,⟨#[]⟩,0,⟨#[]⟩⟩:jM)=L9):=⟨_,af rfl⟩
 rw[hL9.out] at hS9
 have hL916:L9.length=16:=by rw[<-hL9.out,iZ,jc];exact H7.out.2.2.2.1
 have hall9:∀l∈L9,l.n=0:=by
  rw[<-hL9.out]
  intro l hl
  rcases oQ hl with h|rfl
  ·obtain⟨l0,_,rfl⟩:=gV.1 h
   rfl
  ·rfl
 have hK9:=H8.out.1.keep hk9 (fun e=>H7.out.2.2.1 e)
 have HCT:=af (QE sb kb _ L9 1 w9 hS9 hL916 hK9)
 have HHD:=af (fun (W:World) (hb:Below w9.heap.size w9 W)=>Pv sb _ _ _ _ L9 W (hS9.keep (Keep.of_below hb (fun _=>False)) id) hL916 (fun l hl=>by rw[hall9 l hl];decide))
 rw[wV L9 hall9] at HHD
 have x1:(lX.toList==[72,84,84,80,47,49,46,49,32,50,48,49,32,67,114,101,97,116,101,100,13,10,69,84,97,103,58,32,34,49,34,13,10,67,111,110,116,101,110,116,45,76,101,110,103,116,104,58,32,48,13,10,13,10])=true:=by kernel_rfl
 have HE:=af (H8.out.2.trans hk9 (fun g _ e=>by have e:g=sb:=e;have:=H4.out.2.2;have:=HZ.out;omega))
 clear hL916 hall9 hK9 hS9 hk9
 go_wp2_with (first
  |(go_at_call 14;go_must (refine HCT.out.mono ?_;rintro e w10 ⟨rfl,hb10⟩))
  |(go_at_call 13;go_must (refine(HHD.out w10 hb10).mono ?_;rintro e w11 ⟨rfl,hw⟩;subst w11)))
 go_ret
 exact⟨rfl,(HE.out.dY (aA _) (fun g hg e=>absurd hg (aV.2 e))).trans (hb10.mono HE.out.size)⟩
theorem ze {w:World}{ob:Nat}{kd cn nw:Int}{data draw:ByteArray}(h:w.heap[ob]? =some (.cells #[.int .u8 kd,.int .i64 cn,.string data,.string draw,.int .u8 nw] 23 (0,0))):w.cell? ⟨ob,1,none⟩=some (.int .i64 cn)/\w.cell? ⟨ob,2,none⟩=some (.string data)/\w.cell? ⟨ob,3,none⟩=some (.string draw)/\ob<w.heap.size:=
 ⟨by simp[World.cell?,h],by simp[World.cell?,h],by simp[World.cell?,h],(ah.1 h).1⟩
theorem F6 (kd cn nw:Int)(data draw:ByteArray)(w:World)(hT:kQ w)(hm:jZ w)(hw:qB w):
  Calls Tryz.prog 3 #[.agg #[.int .u8 kd,.int .i64 cn,.string data,.string draw,.int .u8 nw]] w fun e w'=>e= .returned (.bool true)/\Below w.heap.size w w':=by
 have hb1:=aC w (.cells #[.int .u8 kd,.int .i64 cn,.string data,.string draw,.int .u8 nw] 23)
 have hn1:=aF w (.cells #[.int .u8 kd,.int .i64 cn,.string data,.string draw,.int .u8 nw] 23)
 obtain⟨w1,hw1⟩:∃w1:World,Hid (w.alloc (.cells #[.int .u8 kd,.int .i64 cn,.string data,.string draw,.int .u8 nw] 23)=w1):=⟨_,af rfl⟩
 rw[hw1.out] at hb1 hn1
 obtain⟨ob,hob⟩:∃ob:Nat,Hid (w.heap.size=ob):=⟨_,af rfl⟩
 rw[hob.out] at hn1
 have HFX:=af (QC w1 (hT.below hb1) (hm.below hb1) (hw.below hb1))
 have HX:=af (ak hb1 (ak hn1 (hm.below hb1)))
 clear hb1 hn1 hT hm hw
 go_enter Tryz.func3,Tryz.ntmps3
 go_upto_region 1 with (fail)
 rw[hw1.out,hob.out]
 go_wp2_with (first
  |(go_at_call 6;go_must (refine HFX.out.mono ?_;rintro e w2 ⟨rfl,hb2⟩;refine Stop.of ?_)))
 refine Stop.on ?_
 have hn2:=(hb2.block ob (ah.1 HX.out.2.1).1).trans HX.out.2.1
 obtain⟨c1,c2,c3,cl⟩:=ze hn2
 have HB2:=af hb2
 clear hn2 hb2
 go_wp2_with (first
  |(go_at_call 7;go_must (refine(NU _ _ _ _).mono ?_;rintro e w3 ⟨rfl,hb3⟩;refine Stop.of ?_)))
 refine Stop.on ?_
 have hb13:=HB2.out.trans (hb3.mono HB2.out.size)
 have hn3:=(hb13.block ob (ah.1 HX.out.2.1).1).trans HX.out.2.1
 clear c1 c2 c3 cl hb3
 obtain⟨c1,c2,c3,cl⟩:=ze hn3
 have HB3:=af hb13
 clear hn3 hb13
 go_wp2_with (first
  |(go_at_call 8;go_must (refine(take_nil _ _).mono ?_;rintro e w4 ⟨rfl,hw⟩;subst w4))
  |(go_at_call 9;go_must (refine(MF _ _ _).mono ?_;rintro e w4 ⟨rfl,hw⟩;subst w4))
  |(go_at_call 10;go_must (refine(JB _ _).mono ?_;rintro e w4 ⟨rfl,hw⟩;subst w4))
  |(go_at_call 11;go_must (refine(Jm _).mono ?_;rintro e w4 ⟨rfl,hw⟩;subst w4))
  |(go_at_call 12;go_must (refine(ready_nil _ _).mono ?_;rintro e w4 ⟨rfl,hw⟩;subst w4))
  |(go_at_call 13;go_must (refine(Ms _).mono ?_;rintro e w4 ⟨rfl,hw⟩;subst w4))
  |(go_at_call 14;go_must (refine(count_nil _ _).mono ?_;rintro e w4 ⟨rfl,hw⟩;subst w4))
  |(go_at_call 15;go_must ((refine(Sj none w3).mono ?_);rintro e w4 ⟨rfl,P,hP,hS4,hC4,hb4⟩;refine Stop.of ?_)))
 refine Stop.on ?_
 obtain⟨sb,hsb⟩:∃x:Nat,Hid (w3.heap.size=x):=⟨_,af rfl⟩
 rw[hsb.out] at hS4 hC4 hb4
 rw[hsb.out]
 obtain⟨c0,P,rfl⟩:∃c P',P=c::P':=by
  cases P with
  |nil=>exact absurd hP (by decide)
  |cons c P=>exact⟨c,P,rfl⟩
 have hc0:=hC4 c0 (aP ..)
 have hl16:(newL (c0::P)).length=16:=zh _ (fA hP)
 obtain⟨L,hLe⟩:∃L,Hid (newL (c0::P)=L):=⟨_,af rfl⟩
 have hl0:L[0]? =some ⟨.pointer (some ⟨c0,0,none⟩),.pointer none,⟨#[]⟩,0,⟨#[]⟩⟩:=by rw[<-hLe.out];exact AY c0 P
 have hall:∀l∈L,l.n=0/\l.held=⟨#[]⟩/\l.out=⟨#[]⟩:=by rw[<-hLe.out];exact DY _
 rw[hLe.out] at hS4 hl16
 have hb34:Below w3.heap.size w3 w4:=by rw[hsb.out];exact hb4
 have hb14:=HB3.out.trans (hb34.mono HB3.out.size)
 have HF:=af (Pw sb c0 ⟨#[]⟩ AP AP _ _ _ _ L _ _ _ _ w4 hS4 hl0 hc0.1 (by kernel_rfl) ⟨by decide,aR (by kernel_rfl)⟩)
 have H4:=af (ak hS4 (ak hc0 (ak hb14 (ak hsb.out (ak hl16 (ak hl0 (ak hall HB3.out.size)))))))
 clear hS4 hC4 hc0 hb4 hb34 hb14 hl16 hl0 hall hP c1 c2 c3 cl
 go_wp2_with (first
  |(go_at_call 9;go_must (refine HF.out.mono ?_;rintro e w5 ⟨rfl,hC5,hk5⟩;refine Stop.of ?_)))
 refine Stop.on ?_
 have hne:sb≠c0:=fun e=>by have:=H4.out.2.1.2;omega
 have hS5:=H4.out.1.keep hk5 (fun e=>hne e)
 have hk15:Keep (fun g=>w1.heap.size<=g) w1 w5:=(Keep.of_below H4.out.2.2.1 _).trans hk5 (fun g _ e=>by have e:g=c0:=e;have:=H4.out;omega)
 have hm5:jZ w5:=HX.out.2.2.keep hk15 (fun e=>by have:=HX.out.2.2.lt;omega)
 have HRUN:=af (Jo sb c0 AP _ _ _ _ L _ 0 ⟨#[49]⟩ hS5 H4.out.2.2.2.2.2.1 hC5 hne Sm JD hm5)
 have H5:=af (ak hk15 hne)
 clear hne hS5 hk15 hm5 hC5 hk5
 go_wp2_with (first
  |(go_at_call 7;go_must (refine HRUN.out.mono ?_;rintro e w6 ⟨rfl,hS6,hC6,hk6⟩;refine Stop.of ?_)))
 refine Stop.on ?_
 have hall:=H4.out.2.2.2.2.2.2.1
 have hHD:=Pv sb _ _ _ _ L w6 hS6 H4.out.2.2.2.2.1 (fun l hl=>by rw[(hall l hl).1];decide)
 rw[wV L fun l hl=>(hall l hl).1] at hHD
 have HHD:=af hHD
 have hk16:Keep (fun g=>w1.heap.size<=g) w1 w6:=H5.out.1.trans hk6 (fun g _ e=>by have:=H4.out;rcases e with e|e<;>omega)
 have hm6:jZ w6:=HX.out.2.2.keep hk16 (fun e=>by have:=HX.out.2.2.lt;omega)
 have HRD:=af (wO sb c0 Dv _ _ _ _ _ L _ _ _ w6 hS6 H4.out.2.2.2.2.2.1 hC6 H5.out.2 Py DC hm6)
 have H6:=af hk16
 clear hall hHD hk16 hm6 hS6 hC6 hk6
 go_wp2_with (first
  |(go_at_call 13;go_must (refine HHD.out.mono ?_;rintro e w7 ⟨rfl,hw⟩;subst w7))
  |(go_at_call 12;go_must (refine HRD.out.mono ?_;rintro e w7 ⟨rfl,hv,tb,hS7,hC7,hT7,hI7,hlo7,hk7⟩;refine Stop.of ?_)))
 refine Stop.on ?_
 have hall:=H4.out.2.2.2.2.2.2.1
 have HSY:=af (AB sb none _ _ _ _ w7 2 (fun _=>False) (fun W=>W=w7) hS7 (by rw[iZ];exact H4.out.2.2.2.2.1) (fun l hl=>by
  rcases oQ hl with h|rfl
  ·rw[(hall l h).2.1,(hall l h).2.2];decide
  ·exact⟨by show (⟨#[]⟩:ByteArray).size<=100000;decide,by show (⟨#[]⟩:ByteArray).size<=100000;decide⟩) id ((Ja w7).mono fun e w' q=>⟨q.2,q.1,by rw[q.1];exact Keep.refl _ _⟩))
 have hk17:Keep (fun g=>w1.heap.size<=g) w1 w7:=H6.out.trans hk7 (fun g _ e=>by have:=H4.out;rcases e with e|e<;>omega)
 have H7:=af hk17
 clear hS7 hC7 hT7 hI7 hlo7 hk7 hk17 hall
 go_wp2_with (first
  |(go_at_call 11;go_must (refine HSY.out.mono ?_;rintro e w8 ⟨rfl,wm,hq,_,hor⟩)))
 have hw8:w8=w7:=(hor.resolve_right (fun e=>absurd e.1 (by decide))).2.trans hq
 subst hw8
 go_ret
 have hb17:Below w1.heap.size w1 w8:=H7.out.dY (aA _) (fun g hg e=>absurd hg (aV.2 e))
 exact⟨rfl,HX.out.1.trans (hb17.mono HX.out.1.size)⟩
end Go.Proofs.YtpmbddooibgnaaaGreatDoor
