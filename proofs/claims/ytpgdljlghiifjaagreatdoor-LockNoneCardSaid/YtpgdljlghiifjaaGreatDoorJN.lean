/- parts -/
import Derived.Test.YtpgdljlghiifjaaGreatDoorJ25
import Derived.Laws.ResultCell
namespace Go.Proofs.YtpgdljlghiifjaaGreatDoor
open Go.RowKit
set_option maxRecDepth 100000
set_option maxHeartbeats 8000000
set_option linter.all false
theorem Fp (w:World):Calls Tryz.prog 42 #[.pointer none] w fun e w'=>e= .returned (.tuple #[.slice none 0 0,.int .i64 2])∧w'=w:=by
 go_enter Tryz.func42,Tryz.ntmps42
 go_wp2
 go_ret2
 exact⟨rfl,rfl⟩
theorem O6 (f:Value) (w:World):Calls Tryz.prog 75 #[.slice none 0 0,f] w fun e w'=>e= .returned (.int .i64 (-1))∧w'=w:=by
 go_enter Tryz.func75,Tryz.ntmps75
 go_wp2
 go_loopw [5,8] (fun _ i wr=>i= .int .i64 0∧wr=w) (fun _ _ _=>0)
 case atStart=>exact⟨rfl,rfl⟩
 case round=>
  obtain⟨rfl,rfl⟩:=hrel
  go_wp2_with fail
  go_ret
  exact⟨rfl,rfl⟩
theorem Pj (f:Value) (w:World):Calls Tryz.prog 43 #[.slice none 0 0,f] w fun e w'=>e= .returned (.slice none 0 0)∧w'=w:=by
 go_enter Tryz.func43,Tryz.ntmps43
 go_wp2_with (first
  |(go_at_call 75;go_must (refine(O6 f w).mono ?_;rintro e w1 ⟨rfl,rfl⟩)))
 go_ret
 exact⟨rfl,rfl⟩
theorem add_nil (l:Value) (now:Int) (a b c d e f:Value) (hl:l= .agg #[a,b,c,d,e,f]) (w:World):Calls Tryz.prog 19 #[.pointer none,l,.int .i64 now] w fun e w'=>e= .returned (.int .i64 2)∧Below w.heap.size w w':=by
 subst hl
 have h1:=aI w (.cells #[a,b,c,d,e,f] 24)
 have h2:=aI (w.alloc (.cells #[a,b,c,d,e,f] 24)) (.cells #[.int .i64 now] 2)
 go_enter Tryz.func19,Tryz.ntmps19
 go_wp2
 go_ret
 exact⟨rfl,h1.trans (h2.mono h1.size)⟩
theorem all_nil (now:Int) (w:World):Calls Tryz.prog 21 #[.pointer none,.int .i64 now] w fun e w'=>e= .returned (.tuple #[.slice none 0 0,.int .i64 2])∧Below w.heap.size w w':=by
 have h1:=aI w (.cells #[.int .i64 now] 2)
 go_enter Tryz.func21,Tryz.ntmps21
 go_wp2_with (first
  |(go_at_call 42;go_must (refine(Fp _).mono ?_;rintro e w1 ⟨rfl,rfl⟩))
  |(go_at_call 43;go_must (refine(Pj _ _).mono ?_;rintro e w2 ⟨rfl,rfl⟩)))
 go_ret2
 exact⟨rfl,h1⟩
end Go.Proofs.YtpgdljlghiifjaaGreatDoor
namespace Go.Proofs.YtpgdljlghiifjaaGreatDoor
open Go.RowKit Go.Shelf
set_option maxRecDepth 100000
set_option maxHeartbeats 8000000
set_option linter.all false
def rR:List Value:=[.string ⟨#[]⟩,.slice none 0 0,.bool false,.bool false,.string ⟨#[]⟩,.int .i64 0]
theorem BV:∀u∈rR,u.oneCell'=true:=by
 intro u hu
 simp only[rR,bK,C8,rX] at hu
 rcases hu with rfl|rfl|rfl|rfl|rfl|rfl<;>rfl
theorem uW {w:World} {g:Nat} {cs:List Value} (h:Row w g 24 cs) (hl:cs.length=6):(loadVar 24 ⟨g,0,none⟩).run Tryz.prog w= .ok (.agg cs.toArray) w:=by
 refine run_loadVar_row w g 24 24 _ (0,0) _ h Tryz.underlying24 rfl ?_
 rw[uz]
 simp[hl]
theorem qa {fn:Func} {p q:Tmp} {ty:TypeId} (h:fn.results=#[.cell p ty,.tmp q]) (tmps:Array Value) (w:World) (g:Nat) (y x:Value)
  (hp:tmps.getD p undef= .pointer (some ⟨g,0,none⟩)) (hl:(loadVar ty ⟨g,0,none⟩).run Tryz.prog w= .ok y w) (hq:tmps.getD q undef=x):
  (results fn tmps).run Tryz.prog w= .ok (.tuple #[y,x]) w:=by
 have hp':tmps[p]?.getD undef= .pointer (some ⟨g,0,none⟩):=by simpa using hp
 have hq':tmps[q]?.getD undef=x:=by simpa using hq
 simp[results,h,hp',hq',asAddr,hl]
theorem FX (tk:ByteArray) (now:Int) (w:World):Calls Tryz.prog 40 #[.pointer none,.string tk,.int .i64 now] w fun e w'=>e= .returned (.tuple #[.agg rR.toArray,.int .i64 2])∧Below w.heap.size w w':=by
 have hb1:=aI w (.cells #[.string ⟨#[]⟩,.slice none 0 0,.bool false,.bool false,.string ⟨#[]⟩,.int .i64 0] 24)
 have hn1:=aM w (.cells #[.string ⟨#[]⟩,.slice none 0 0,.bool false,.bool false,.string ⟨#[]⟩,.int .i64 0] 24)
 obtain⟨w1,hw1⟩:∃w1:World,Hid (w.alloc (.cells #[.string ⟨#[]⟩,.slice none 0 0,.bool false,.bool false,.string ⟨#[]⟩,.int .i64 0] 24)=w1):=⟨_,af rfl⟩
 rw[hw1.out] at hb1 hn1
 obtain⟨ab,hab⟩:∃ab:Nat,Hid (w.heap.size=ab):=⟨_,af rfl⟩
 rw[hab.out] at hn1
 have hr1:Row w1 ab 24 rR:=hn1
 have HX:=af (ay hb1 hr1)
 clear hb1 hn1 hr1
 go_enter Tryz.func40,Tryz.ntmps40
 go_upto_region 1 with (fail)
 rw[hw1.out,hab.out]
 go_wp2_with (first
  |(go_at_call 21;go_must (refine(all_nil now w1).mono ?_;rintro e w2 ⟨rfl,hb2⟩;refine Stop.of ?_)))
 refine Stop.on ?_
 have hr2:Row w2 ab 24 rR:=HX.out.2.keep (Keep.of_below hb2 (fun _=>False)) id
 have HB:=af (HX.out.1.trans (hb2.mono HX.out.1.size))
 clear hb2
 go_wp2_with (first
  |((refine dM rfl ?_);intro K hK;(refine wp_store_row 24 (.tmp 6) (.tmp 20) rfl ab 0 24 _ rR rfl rfl hr2 uz (aG 6) BV ?_);intro w4 hr4 hk4;refine hK _ _ ?_))
 refine mK (qa rfl _ w4 ab _ (.int .i64 2) rfl (uW hr4 rfl) rfl) rfl ?_
 exact⟨rfl,HB.out.trans (hk4.gG HB.out.size fun g hg e=>by have:=hab.out;omega)⟩
theorem EQ (tk:ByteArray) (till now:Int) (w:World):Calls Tryz.prog 23 #[.pointer none,.string tk,.int .i64 till,.int .i64 now] w fun e w'=>e= .returned (.tuple #[.agg rR.toArray,.int .i64 2])∧Below w.heap.size w w':=by
 have hb1:=aI w (.cells #[.string ⟨#[]⟩,.slice none 0 0,.bool false,.bool false,.string ⟨#[]⟩,.int .i64 0] 24)
 have hn1:=aM w (.cells #[.string ⟨#[]⟩,.slice none 0 0,.bool false,.bool false,.string ⟨#[]⟩,.int .i64 0] 24)
 obtain⟨w1,hw1⟩:∃w1:World,Hid (w.alloc (.cells #[.string ⟨#[]⟩,.slice none 0 0,.bool false,.bool false,.string ⟨#[]⟩,.int .i64 0] 24)=w1):=⟨_,af rfl⟩
 rw[hw1.out] at hb1 hn1
 obtain⟨ab,hab⟩:∃ab:Nat,Hid (w.heap.size=ab):=⟨_,af rfl⟩
 rw[hab.out] at hn1
 have hr1:Row w1 ab 24 rR:=hn1
 have HX:=af (ay hb1 hr1)
 have hfn:=FX tk now w1
 unfold rR at hfn
 have HFN:=af hfn
 clear hb1 hn1 hr1 hfn
 go_enter Tryz.func23,Tryz.ntmps23
 go_upto_region 1 with (fail)
 rw[hw1.out,hab.out]
 go_wp2_with (first
  |(go_at_call 40;go_must (refine HFN.out.mono ?_;rintro e w2 ⟨rfl,hb2⟩;refine Stop.of ?_)))
 refine Stop.on ?_
 have hb3:=aI w2 (.cells #[.string ⟨#[]⟩,.slice none 0 0,.bool false,.bool false,.string ⟨#[]⟩,.int .i64 0] 24)
 have hb13:=hb2.trans (hb3.mono hb2.size)
 have hr3:=HX.out.2.keep (Keep.of_below hb13 (fun _=>False)) id
 have HB:=af (HX.out.1.trans (hb13.mono HX.out.1.size))
 clear hb2 hb3 hb13
 go_wp2_with (first
  |((refine dM rfl ?_);intro K hK;(refine wp_store_row 24 (.tmp 8) (.tmp 22) rfl ab 0 24 _ rR rfl rfl hr3 uz (aG 6) BV ?_);intro w4 hr4 hk4;refine hK _ _ ?_))
 refine mK (qa rfl _ w4 ab _ (.int .i64 2) rfl (uW hr4 rfl) rfl) rfl ?_
 exact⟨rfl,HB.out.trans (hk4.gG HB.out.size fun g hg e=>by have:=hab.out;omega)⟩
theorem Ia (tk:ByteArray) (now:Int) (w:World):Calls Tryz.prog 20 #[.pointer none,.string tk,.int .i64 now] w fun e w'=>e= .returned (.int .i64 2)∧Below w.heap.size w w':=by
 have hfn:=FX tk now w
 unfold rR at hfn
 have HFN:=af hfn
 clear hfn
 go_enter Tryz.func20,Tryz.ntmps20
 go_wp2_with (first
  |(go_at_call 40;go_must (refine HFN.out.mono ?_;rintro e w2 ⟨rfl,hb2⟩)))
 go_ret
 exact⟨rfl,hb2.trans ((aI w2 _).mono hb2.size)⟩
theorem Kk (now:Int) (f:Value) (w:World):Calls Tryz.prog 36 #[.pointer none,.int .i64 now,f] w fun e w'=>e= .returned (.tuple #[.int .i64 0,.int .i64 2])∧w'=w:=by
 go_enter Tryz.func36,Tryz.ntmps36
 go_wp2_with (first
  |(go_at_call 42;go_must (refine(Fp w).mono ?_;rintro e w1 ⟨rfl,hw⟩;subst w1)))
 go_loopw [10,12,13,14,22] (fun c _ _ _ i wr=>c= .int .i64 0∧i= .int .i64 0∧wr=w) (fun _ _ _ _ _ _=>0)
 case atStart=>exact⟨rfl,rfl,rfl⟩
 case round=>
  obtain⟨rfl,rfl,hw⟩:=hrel
  subst wr
  go_wp2_with fail
  go_ret2
  exact⟨rfl,rfl⟩
theorem drop_nil (pv:Value) (ao:Option Addr) (n c:Nat) (hv:pv= .slice ao n c) (now:Int) (w:World):Calls Tryz.prog 24 #[.pointer none,pv,.int .i64 now] w fun e w'=>e= .returned (.tuple #[.int .i64 0,.int .i64 2])∧Below w.heap.size w w':=by
 subst hv
 have hb:=aI w (.cells #[.slice ao n c] 22)
 have hmf:∀(fn:Fn) (first cap:Array Value) (w:World),(Instr.makeFunc fn first cap).run Tryz.prog w= .ok (.func fn first cap) w:=fun _ _ _ _=>rfl
 go_enter Tryz.func24,Tryz.ntmps24
 go_wp2_with (first
  |(go_at_call 36;go_must (refine(Kk _ _ _).mono ?_;rintro e w1 ⟨rfl,rfl⟩)))
 go_ret2
 exact⟨rfl,hb⟩
theorem Po (l:bn) (pv qv:Value) (S T:Nat→Prop) (w:World) (hp:jA w S pv l.path) (hq:jA w T qv l.path):
  Calls Tryz.prog 26 #[qN l pv,qN l qv] w fun e w'=>e= .returned (.bool true)∧Below w.heap.size w w':=by
 obtain⟨tk,pt,dp,ex,ow,ti⟩:=l
 dsimp only at hp hq
 have hfp:=dO.form hp
 have hfq:=dO.form hq
 have HP:=af (ay hp hq)
 clear hp hq
 obtain⟨po,pc,rfl,_,_,_,_⟩:=hfp
 obtain⟨qo,qc,rfl,_,_,_,_⟩:=hfq
 have hb1:=aI w (.cells #[.string tk,.slice po pt.length pc,.bool dp,.bool ex,.string ow,.int .i64 ti] 24)
 have hn1:=aM w (.cells #[.string tk,.slice po pt.length pc,.bool dp,.bool ex,.string ow,.int .i64 ti] 24)
 obtain⟨w1,hw1⟩:∃w1:World,Hid (w.alloc (.cells #[.string tk,.slice po pt.length pc,.bool dp,.bool ex,.string ow,.int .i64 ti] 24)=w1):=⟨_,af rfl⟩
 have hs1:w1.heap.size=w.heap.size+1:=by rw[←hw1.out];simp
 rw[hw1.out] at hb1 hn1
 have hb2:=aI w1 (.cells #[.string tk,.slice qo pt.length qc,.bool dp,.bool ex,.string ow,.int .i64 ti] 24)
 have hn2:=aM w1 (.cells #[.string tk,.slice qo pt.length qc,.bool dp,.bool ex,.string ow,.int .i64 ti] 24)
 obtain⟨w2,hw2⟩:∃w2:World,Hid (w1.alloc (.cells #[.string tk,.slice qo pt.length qc,.bool dp,.bool ex,.string ow,.int .i64 ti] 24)=w2):=⟨_,af rfl⟩
 rw[hw2.out] at hb2 hn2
 obtain⟨la,hla⟩:∃la:Nat,Hid (w.heap.size=la):=⟨_,af rfl⟩
 obtain⟨lb,hlb⟩:∃lb:Nat,Hid (la+1=lb):=⟨_,af rfl⟩
 rw[hs1,hla.out,hlb.out] at hn2
 rw[hla.out] at hn1
 have hA2:=(hb2.block la (ah.1 hn1).1).trans hn1
 have hb12:=hb1.trans (hb2.mono hb1.size)
 obtain⟨e0,e1,e2,e3,e4,e5,le⟩:=dh hA2
 obtain⟨f0,f1,f2,f3,f4,f5,fl⟩:=dh hn2
 have hds:=QN _ _ pt pt _ _ w2 (dO.below HP.out.1 hb12) (dO.below HP.out.2 hb12)
 rw[bT rfl] at hds
 have HDS:=af hds
 have HB:=af (ay hb12 (ay hA2 hn2))
 have hq1:(tk.toList==tk.toList)=true:=by simp
 have hq2:(ow.toList==ow.toList)=true:=by simp
 have hq3:(ti==ti)=true:=by simp
 clear hb1 hb2 hn1 hn2 hs1 hA2 hb12 hds
 unfold qN
 dsimp only
 go_enter Tryz.func26,Tryz.ntmps26
 go_upto_region 1 with (fail)
 rw[hw1.out,hw2.out,hla.out,hlb.out]
 go_wp2_with (first
  |(go_at_call 30;go_must (refine HDS.out.mono ?_;rintro e w3 ⟨rfl,hb3⟩;refine Stop.of ?_)))
 refine Stop.on ?_
 clear e0 e1 e2 e3 e4 e5 le f0 f1 f2 f3 f4 f5 fl
 obtain⟨e0,e1,e2,e3,e4,e5,le⟩:=dh ((hb3.block la (ah.1 HB.out.2.1).1).trans HB.out.2.1)
 obtain⟨f0,f1,f2,f3,f4,f5,fl⟩:=dh ((hb3.block lb (ah.1 HB.out.2.2).1).trans HB.out.2.2)
 have HB3:=af (HB.out.1.trans (hb3.mono HB.out.1.size))
 clear hb3
 go_wp2_with (fail)
 go_ret
 exact⟨by simp,HB3.out⟩
theorem KF (kd now:Int) (l:bn) (pv:Value) (S:Nat→Prop) (w:World) (hp:jA w S pv l.path) (hT:tV w):
  Calls Tryz.prog 8 #[.agg #[.int .u8 kd,.string l.token,pv,.bool l.deep,.bool l.excl,.string l.owner,.int .i64 l.till,.int .i64 now]] w fun e w'=>e= .returned (.bool true)∧Below w.heap.size w w':=by
 obtain⟨tk,pt,dp,ex,ow,ti⟩:=l
 dsimp only at hp ⊢
 obtain⟨po,pc,rfl,_,_,_,_⟩:=dO.form hp
 have hb1:=aI w (.cells #[.int .u8 kd,.string tk,.slice po pt.length pc,.bool dp,.bool ex,.string ow,.int .i64 ti,.int .i64 now] 44)
 have hn1:=aM w (.cells #[.int .u8 kd,.string tk,.slice po pt.length pc,.bool dp,.bool ex,.string ow,.int .i64 ti,.int .i64 now] 44)
 obtain⟨w1,hw1⟩:∃w1:World,Hid (w.alloc (.cells #[.int .u8 kd,.string tk,.slice po pt.length pc,.bool dp,.bool ex,.string ow,.int .i64 ti,.int .i64 now] 44)=w1):=⟨_,af rfl⟩
 rw[hw1.out] at hb1 hn1
 obtain⟨ob,hob⟩:∃ob:Nat,Hid (w.heap.size=ob):=⟨_,af rfl⟩
 rw[hob.out] at hn1
 have HFX:=af (Ao w1 (hT.below hb1))
 have HX:=af (ay hb1 hn1)
 clear hb1 hn1 hT hp
 go_enter Tryz.func8,Tryz.ntmps8
 go_upto_region 1 with (fail)
 rw[hw1.out,hob.out]
 go_wp2_with (first
  |(go_at_call 9;go_must (refine HFX.out.mono ?_;rintro e w2 ⟨rfl,hb2⟩;refine Stop.of ?_)))
 refine Stop.on ?_
 have cel:∀W:World,Below w1.heap.size w1 W→W.heap[ob]? =some (.cells #[.int .u8 kd,.string tk,.slice po pt.length pc,.bool dp,.bool ex,.string ow,.int .i64 ti,.int .i64 now] 44 (0,0)):=fun W hb=>(hb.block ob (ah.1 HX.out.2).1).trans HX.out.2
 have HC:=af cel
 have HB2:=af hb2
 clear cel hb2
 have ho2:=HC.out w2 HB2.out
 have c1:w2.cell? ⟨ob,1,none⟩=some (.string tk):=by simp[World.cell?,ho2]
 have c7:w2.cell? ⟨ob,7,none⟩=some (.int .i64 now):=by simp[World.cell?,ho2]
 have cl:=(ah.1 ho2).1
 clear ho2
 go_wp2_with (first
  |(go_at_call 25;go_must (refine(KL _).mono ?_;rintro e w3 ⟨rfl,rfl⟩))
  |(go_at_call 21;go_must (refine(all_nil now _).mono ?_;rintro e w4 ⟨rfl,hb4⟩;refine Stop.of ?_)))
 refine Stop.on ?_
 have HB4:=af (HB2.out.trans (hb4.mono HB2.out.size))
 clear hb4 c1 c7 cl
 have ho4:=HC.out w4 HB4.out
 have c1:w4.cell? ⟨ob,1,none⟩=some (.string tk):=by simp[World.cell?,ho4]
 have c6:w4.cell? ⟨ob,6,none⟩=some (.int .i64 ti):=by simp[World.cell?,ho4]
 have c7:w4.cell? ⟨ob,7,none⟩=some (.int .i64 now):=by simp[World.cell?,ho4]
 have cl:=(ah.1 ho4).1
 have hrf:=EQ tk ti now w4
 unfold rR at hrf
 have HRF:=af hrf
 clear ho4 hrf
 go_wp2_with (first
  |(go_at_call 23;go_must (refine HRF.out.mono ?_;rintro e w5 ⟨rfl,hb5⟩;refine Stop.of ?_)))
 refine Stop.on ?_
 have hb6:=aI w5 (.cells #[.string ⟨#[]⟩,.slice none 0 0,.bool false,.bool false,.string ⟨#[]⟩,.int .i64 0] 24)
 have hn6:=aM w5 (.cells #[.string ⟨#[]⟩,.slice none 0 0,.bool false,.bool false,.string ⟨#[]⟩,.int .i64 0] 24)
 obtain⟨w6,hw6⟩:∃w6:World,Hid (w5.alloc (.cells #[.string ⟨#[]⟩,.slice none 0 0,.bool false,.bool false,.string ⟨#[]⟩,.int .i64 0] 24)=w6):=⟨_,af rfl⟩
 rw[hw6.out] at hb6 hn6
 obtain⟨zb,hzb⟩:∃zb:Nat,Hid (w5.heap.size=zb):=⟨_,af rfl⟩
 rw[hzb.out] at hn6
 have HB6:=af (HB4.out.trans ((hb5.trans (hb6.mono hb5.size)).mono HB4.out.size))
 have HN6:=af hn6
 clear hb5 hb6 hn6 c1 c6 c7 cl
 have ho6:=HC.out w6 HB6.out
 have c3:w6.cell? ⟨ob,2,none⟩=some (.slice po pt.length pc):=by simp[World.cell?,ho6]
 have c7:w6.cell? ⟨ob,7,none⟩=some (.int .i64 now):=by simp[World.cell?,ho6]
 have cl:=(ah.1 ho6).1
 clear ho6
 go_upto_region 6 with (fail)
 rw[hw6.out,hzb.out]
 go_wp2_with (first
  |(go_at_call 24;go_must (refine(drop_nil _ po pt.length pc rfl now w6).mono ?_;rintro e w7 ⟨rfl,hb7⟩;refine Stop.of ?_)))
 refine Stop.on ?_
 have HB7:=af (HB6.out.trans (hb7.mono HB6.out.size))
 have hz7:=(hb7.block zb (ah.1 HN6.out).1).trans HN6.out
 clear hb7 c3 c7 cl
 have ho7:=HC.out w7 HB7.out
 have d0:w7.cell? ⟨ob,0,none⟩=some (.int .u8 kd):=by simp[World.cell?,ho7]
 have d1:w7.cell? ⟨ob,1,none⟩=some (.string tk):=by simp[World.cell?,ho7]
 have d2:w7.cell? ⟨ob,2,none⟩=some (.slice po pt.length pc):=by simp[World.cell?,ho7]
 have d3:w7.cell? ⟨ob,3,none⟩=some (.bool dp):=by simp[World.cell?,ho7]
 have d4:w7.cell? ⟨ob,4,none⟩=some (.bool ex):=by simp[World.cell?,ho7]
 have d5:w7.cell? ⟨ob,5,none⟩=some (.string ow):=by simp[World.cell?,ho7]
 have d6:w7.cell? ⟨ob,6,none⟩=some (.int .i64 ti):=by simp[World.cell?,ho7]
 have d7:w7.cell? ⟨ob,7,none⟩=some (.int .i64 now):=by simp[World.cell?,ho7]
 have dl:=(ah.1 ho7).1
 clear ho7
 go_wp2_with (first
  |(go_at_call 19;go_must (refine(add_nil _ now _ _ _ _ _ _ rfl w7).mono ?_;rintro e w8 ⟨rfl,hb8⟩;refine Stop.of ?_)))
 refine Stop.on ?_
 have HB8:=af (HB7.out.trans (hb8.mono HB7.out.size))
 obtain⟨e0,e1,e2,e3,e4,e5,le⟩:=dh ((hb8.block zb (ah.1 hz7).1).trans hz7)
 have hsm:=Po ⟨⟨#[]⟩,[],false,false,⟨#[]⟩,0⟩ (.slice none 0 0) (.slice none 0 0) fO fO w8 (dO.nil _ _ _) (dO.nil _ _ _)
 unfold qN at hsm
 have HSM:=af hsm
 clear hb8 hz7 d0 d1 d2 d3 d4 d5 d6 d7 dl hsm
 go_wp2_with (first
  |(go_at_call 26;go_must (refine HSM.out.mono ?_;rintro e w9 ⟨rfl,hb9⟩;refine Stop.of ?_)))
 refine Stop.on ?_
 have HB9:=af (HB8.out.trans (hb9.mono HB8.out.size))
 clear hb9 e0 e1 e2 e3 e4 e5 le
 have ho9:=HC.out w9 HB9.out
 have d1:w9.cell? ⟨ob,1,none⟩=some (.string tk):=by simp[World.cell?,ho9]
 have d7:w9.cell? ⟨ob,7,none⟩=some (.int .i64 now):=by simp[World.cell?,ho9]
 have dl:=(ah.1 ho9).1
 clear ho9
 go_wp2_with (first
  |(go_at_call 20;go_must (refine(Ia tk now w9).mono ?_;rintro e w10 ⟨rfl,hb10⟩)))
 go_ret
 have h:=HX.out.1.trans (HB9.out.mono HX.out.1.size)
 exact⟨rfl,h.trans (hb10.mono h.size)⟩
end Go.Proofs.YtpgdljlghiifjaaGreatDoor
namespace Go.Proofs.YtpgdljlghiifjaaGreatDoor
open Go.RowKit Go.ChangeShapes Go.WideShapes Go.ChangeAt Go.Deep Go.Shelf Go.Lib
set_option maxRecDepth 100000
set_option maxHeartbeats 8000000
set_option linter.all false
theorem MN {H:Type} {enc:TypeId×Value→H} {W:World} {fuel:Nat} {cs:List Value} {x:DataW H×List MemPlace} (h:DataW.trod enc Tryz.prog W 0 (fun _=>true) true fuel 44 cs=some x):
  ∃(kd:Int) (l:bn) (pv:Value) (now:Int),cs=[.int .u8 kd,.string l.token,pv,.bool l.deep,.bool l.excl,.string l.owner,.int .i64 l.till,.int .i64 now]∧(0≤kd∧kd≤255)∧jA W fO pv l.path∧l.Bl∧(-9223372036854775808≤l.till∧l.till<9223372036854775808)∧(-9223372036854775808≤now∧now<9223372036854775808):=by
 obtain⟨xs,n,_,rfl,hl,hlen,hf⟩:=DataW.trod_struct Tryz.underlying44 h
 have h8:Tryz.prog.cellsOf 44=8:=by kernel_rfl
 have c5:Tryz.prog.cellsOf 5=1:=by kernel_rfl
 have c24:Tryz.prog.cellsOf 24=6:=by kernel_rfl
 have c2:Tryz.prog.cellsOf 2=1:=by kernel_rfl
 rw[h8] at hl
 match xs,hlen,cs,hl with
 |[y0,y1,y2],_,[v0,v1,v2,v3,v4,v5,v6,v7],_=>
  have g0:=hf 0 _ rfl
  have g1:=hf 1 _ rfl
  have g2:=hf 2 _ rfl
  simp[c5,c24,c2] at g0 g1 g2
  obtain⟨z0,e0,_,k0⟩:=DataW.trod_int Tryz.underlying5 g0
  obtain⟨l,pv,e1,hp,hs,ht⟩:=xR g1
  obtain⟨z2,e2,_,k2⟩:=DataW.trod_int Tryz.underlying2 g2
  simp at e0 e1 e2
  obtain⟨rfl,rfl,rfl,rfl,rfl,rfl⟩:=e1
  subst e0 e2
  simp only[Lit.wf,dS,bY] at k0 k2
  have h1:(IntKind.i64.min:Int)= -9223372036854775808:=rfl
  have h2:(IntKind.i64.max:Int)=9223372036854775807:=rfl
  have h3:(IntKind.u8.min:Int)=0:=rfl
  have h4:(IntKind.u8.max:Int)=255:=rfl
  exact⟨z0,l,v2,z2,rfl,by omega,hp,hs,ht,by omega⟩
end Go.Proofs.YtpgdljlghiifjaaGreatDoor
