/- parts -/
import Derived.Test.YtpmbddooibgnaaaGreatDoorS1
import Derived.Test.YtpmbddooibgnaaaGreatDoorS4
import Derived.Test.YtpmbddooibgnaaaGreatDoorS5
import Derived.Test.YtpmbddooibgnaaaGreatDoorS6
import Derived.Test.YtpmbddooibgnaaaGreatDoorS13
import Derived.Lib.Overlaps
set_option maxRecDepth 100000
set_option maxHeartbeats 8000000
set_option linter.all false
namespace Go.Proofs.YtpmbddooibgnaaaGreatDoor
open Go.RowKit Go.Shelf
theorem Ux (w:World)(o0 o1 o2 o3:Obj):let v:=((((w.alloc o0).alloc o1).alloc o2).alloc o3)
  v.heap[w.heap.size]? =some o0/\v.heap[w.heap.size+1]? =some o1/\v.heap[w.heap.size+1+1]? =some o2/\v.heap[w.heap.size+1+1+1]? =some o3/\v.heap.size=w.heap.size+4/\Below w.heap.size w v:=by
 have n0:=aF w o0
 have n1:=aF (w.alloc o0) o1
 have n2:=aF ((w.alloc o0).alloc o1) o2
 have n3:=aF (((w.alloc o0).alloc o1).alloc o2) o3
 have s1:(w.alloc o0).heap.size=w.heap.size+1:=by simp
 have s2:((w.alloc o0).alloc o1).heap.size=w.heap.size+1+1:=by simp
 have s3:(((w.alloc o0).alloc o1).alloc o2).heap.size=w.heap.size+1+1+1:=by simp
 rw[s1] at n1;rw[s2] at n2;rw[s3] at n3
 have b0:=aC w o0
 have b1:=aC (w.alloc o0) o1
 have b2:=aC ((w.alloc o0).alloc o1) o2
 have b3:=aC (((w.alloc o0).alloc o1).alloc o2) o3
 exact⟨(b3.block w.heap.size (by omega)).trans ((b2.block _ (by omega)).trans ((b1.block _ (by omega)).trans n0)),(b3.block (w.heap.size+1) (by omega)).trans ((b2.block _ (by omega)).trans n1),(b3.block (w.heap.size+1+1) (by omega)).trans n2,n3,by simp,b0.trans ((b1.trans ((b2.trans (b3.mono b2.size)).mono b1.size)).mono b0.size)⟩
def Gb:ByteArray:=⟨#[72,111,115,116,58,32,104]⟩
def Lj:ByteArray:=⟨#[67,111,110,116,101,110,116,45,76,101,110,103,116,104,58,32,49]⟩
def NS:ByteArray:=⟨#[49]⟩
def sH:ByteArray:=⟨#[104]⟩
def sX:ByteArray:=⟨#[120]⟩
def hsP:List Pr:=[(AQ,sH),(RI,NS)]
structure GU (s:ByteArray):Prop where
 l1:∃rest fr bk,rY s 0 16 rest fr bk QF
 h1:∃rest fr bk,rY s 17 8 rest fr bk Gb
 h2:∃rest fr bk,rY s 26 18 rest fr bk Lj
 h3:∃rest fr bk,rY s 45 1 rest fr bk ⟨#[]⟩
 b:s.extract 47 48=sX
 z:48<=s.size/\s.size<=1000000
def uP:Nat->Nat|0=>17|1=>26|_=>45
def zP:Nat->Nat|0=>0|1=>9|_=>28
theorem Mt:Nh Gb ⟨#[72,111,115,116]⟩ ⟨#[32,104]⟩ AQ sH:=⟨by decide,by kernel_rfl,by kernel_rfl,by decide,by kernel_rfl,by kernel_rfl,by kernel_rfl,by decide,by kernel_rfl,by kernel_rfl,by kernel_rfl⟩
theorem OI:Nh Lj ⟨#[67,111,110,116,101,110,116,45,76,101,110,103,116,104]⟩ ⟨#[32,49]⟩ RI NS:=⟨by decide,by kernel_rfl,by kernel_rfl,by decide,by kernel_rfl,by kernel_rfl,by kernel_rfl,by decide,by kernel_rfl,by kernel_rfl,by kernel_rfl⟩
theorem Gg (a b c:Value)(w:World):
  CallsD Tryz.prog 201 #[a,b,c] .returning w fun e u' w'=>e= .returned (.tuple #[])/\u'= .returning/\Below w.heap.size w w':=by
 refine uq Tryz.func201 rfl fun c₀ cs hu=> ?_
 apply si
 apply lG
 have hta:∀w:World,(Instr.typeAssert Value.nilIface 20 341 true).run Tryz.prog w= .ok (.tuple #[.agg #[.int .i64 0],.bool false]) w:=fun _=>by kernel_rfl
 simp[wpOpsS,go_sem,recoverD,hu,Tryz.ntmps201,Exit.thenS,hta,Array.replicate,List.replicate]
 apply si
 apply lG
 simp[wpOpsS,go_sem,Exit.thenS]
 refine wpS_cond (t:=false) (by simp[Act.eval]) ?_
 simp only[pR,if_false]
 refine Fh (wp_skip ?_)
 cases c₀
 simp_all [bodyPostS,results,Tryz.results201]
 exact aC _ _
theorem DJ {R:Ending->World->Prop}{d:Nat}(h2:d≠2)(h3:d≠3)(h4:d≠4){c:List PanicEntry}{a:Act}{v:Value}{w:World}(h:bodyPostD Tryz.prog Tryz.f126 R (.panic c) (a.put (some d) v) w):bodyPostD Tryz.prog Tryz.f126 R (.panic c) a w:=by
 refine lK ?_ _ _ _ (show Leaves Tryz.prog Tryz.f126 (a.tmps.setIfInBounds d v) R a.defers (.panicking c) w from h)
 unfold results
 rw[Tryz.results126]
 simp[nA,gW,h2,h3,h4]
theorem yX:(Tryz.prog.info? 73).map (·.size)=some 5:=by kernel_rfl
def Ag (m t:ByteArray)(hv:Value)(b:ByteArray)(c:Bool):List Value:=[.string m,.string t,hv,.string b,.bool c]
theorem Cb {w:World}{qb:Nat}{m t:ByteArray}{hv:Value}{b:ByteArray}{c:Bool}(h:gX w qb m t hv b c):Row w qb 73 (Ag m t hv b c):=h
theorem Hr (m t:ByteArray)(hv:Value)(b:ByteArray)(c:Bool)(h1:hv.oneCell'=true):∀v∈Ag m t hv b c,v.oneCell'=true:=by
 intro v hv'
 simp only[Ag,aX,List.mem_nil_iff,iL] at hv'
 rcases hv' with rfl|rfl|rfl|rfl|rfl<;>first|rfl|exact h1
theorem RX (s:ByteArray)(hs:GU s)(w:World)(hm:jZ w):
  Calls Tryz.prog 126 #[.string s] w fun e w'=>∃hv,e= .returned (.tuple #[.agg #[.string fH,.string mq,hv,.string sX,.bool false],.int .i64 48,.int .i64 0])/\jP w' hv hsP/\(∀g,hv.ownBlock=some g->w.heap.size<=g)/\Below w.heap.size w w':=by
 have hmf:∀(fn:Fn) (first cap:Array Value) (w:World),(Instr.makeFunc fn first cap).run Tryz.prog w= .ok (.func fn first cap) w:=fun _ _ _ _=>rfl
 obtain⟨rest1,fr1,bk1,L1⟩:=hs.l1
 obtain⟨rest2,fr2,bk2,L2⟩:=hs.h1
 obtain⟨rest3,fr3,bk3,L3⟩:=hs.h2
 obtain⟨rest4,fr4,bk4,L4⟩:=hs.h3
 obtain⟨a0,a1,a2,a3,az,ab⟩:=Ux w (.cells #[.string ⟨#[]⟩,.string ⟨#[]⟩,.slice none 0 0,.string ⟨#[]⟩,.bool false] 73) (.cells #[.int .i64 0] 3) (.cells #[.int .i64 0] 3) (.cells #[.string s,.int .i64 0] 345)
 have hml:3<w.heap.size:=by obtain⟨m,hm⟩:=hm;exact aD w _ hm
 obtain⟨v,hv⟩:∃x:World,Hid (((((w.alloc (.cells #[.string ⟨#[]⟩,.string ⟨#[]⟩,.slice none 0 0,.string ⟨#[]⟩,.bool false] 73)).alloc (.cells #[.int .i64 0] 3)).alloc (.cells #[.int .i64 0] 3)).alloc (.cells #[.string s,.int .i64 0] 345))=x):=⟨_,af rfl⟩
 rw[hv.out] at a0 a1 a2 a3 az ab
 obtain⟨qb,hqb⟩:∃x:Nat,Hid (w.heap.size=x):=⟨_,af rfl⟩
 obtain⟨ub,hub⟩:∃x:Nat,Hid (qb+1=x):=⟨_,af rfl⟩
 obtain⟨sb,hsb⟩:∃x:Nat,Hid (ub+1=x):=⟨_,af rfl⟩
 obtain⟨rb,hrb⟩:∃x:Nat,Hid (sb+1=x):=⟨_,af rfl⟩
 rw[hqb.out] at a0 a1 a2 a3 hml
 rw[hub.out] at a1 a2 a3
 rw[hsb.out] at a2 a3
 rw[hrb.out] at a3
 have hnum:ub=qb+1/\sb=qb+2/\rb=qb+3/\w.heap.size=qb/\v.heap.size=qb+4:=by have:=hqb.out;have:=hub.out;have:=hsb.out;have:=hrb.out;omega
 have hmv:=hm.below ab
 have HB:=af (Qh rb qb s rest1 fr1 bk1 v a3 a0 (by omega) L1 hmv (by omega))
 have HA:=af (ak a1 (ak a2 (ak ab (ak hml (ak hnum hmv)))))
 have HL:=af (ak L2 (ak L3 (ak L4 (ak hs.b hs.z))))
 clear a0 a1 a2 a3 az ab hml hnum hmv L1 L2 L3 L4 hs hm
 go_enter_defers Tryz.func126,Tryz.ntmps126
 go_upto_region 3 with (fail)
 rw[hv.out,hqb.out,hub.out,hsb.out,hrb.out]
 go_wp2_with (first
  |(go_at_call 202;go_must (refine HB.out.mono ?_;rintro e w1 ⟨rfl,hR1,hQ1,hk1⟩;refine Stop.of ?_)))
 refine Stop.on ?_
 have hm1:jZ w1:=HA.out.2.2.2.2.2.keep hk1 (fun e=>by have:=HA.out.2.2.2.1;have:=HA.out.2.2.2.2.1;omega)
 have hhd:=KO rb qb s fH mq 2 uP zP (fun j=>hsP.take j) rest4 fr4 bk4 w1 hR1 hQ1 (by have:=HA.out.2.2.2.2.1;omega) hm1 ⟨by have:=HA.out.2.2.2.1;have:=HA.out.2.2.2.2.1;omega,by have:=HA.out.2.2.2.1;omega⟩ rfl rfl HL.out.2.2.1 ⟨by decide,by decide⟩ (fun j hj=>by
  have hj2:j=0\/j=1:=by omega
  rcases hj2 with rfl|rfl
  ·exact⟨8,rest2,fr2,bk2,Gb,_,_,AQ,sH,HL.out.1,Mt,rfl,rfl,by decide,rfl,rfl⟩
  ·exact⟨18,rest3,fr3,bk3,Lj,_,_,RI,NS,HL.out.2.1,OI,rfl,rfl,by decide,rfl,rfl⟩) rfl
 have HH:=af hhd
 have HK1:=af hk1
 clear hR1 hQ1 hk1 hm1 hhd
 go_wp2_with (first
  |(go_at_call 203;go_must (refine HH.out.mono ?_;rintro e w2 ⟨rfl,hv2,hA2⟩;refine Stop.of ?_)))
 refine Stop.on ?_
 have hbd:=RZ rb qb s fH mq 47 1 hv2 hsP NS sX w2 hA2.rd hA2.rq hA2.own.dL (by decide) (by have:=HA.out.2.2.2.2.1;omega) (by kernel_rfl) (by kernel_rfl) (by kernel_rfl) ⟨by decide,by kernel_rfl,by kernel_rfl,by kernel_rfl⟩ (by decide) HL.out.2.2.2.2.1 HL.out.2.2.2.2.2 HL.out.2.2.2.1
 have HBD:=af hbd
 have HA2:=af hA2
 clear hA2 hbd
 go_wp2_with (first
  |(go_at_call 204;go_must (refine HBD.out.mono ?_;rintro e w3 ⟨rfl,hR3,hQ3,hk3⟩;refine Stop.of ?_)))
 refine Stop.on ?_
 have hown3:=HA2.out.own.keep fun g hg hl hs=>⟨hk3.block g hl (fun e=>by have h1:=(HA2.out.own.1.lt g hg).1;have h2:=HK1.out.size;have h3:=HA.out.2.2.2.2.1;rcases e with e|e<;>omega),hs⟩
 have HC:=af (NA qb fH mq hv2 sX false hsP w3 hQ3 hown3.dL (by decide) (by kernel_rfl))
 have hkv3:Keep (fun g=>g=rb\/g=qb) v w3:=(HK1.out.trans HA2.out.kp (fun _ _ e=>e)).trans hk3 (fun _ _ e=>e)
 have H3:=af (ak hR3 (ak hQ3 (ak hown3 hkv3)))
 have lq:=hQ3.cells.2.2.2.2.2.2
 clear hR3 hQ3 hk3 hown3 hkv3
 go_wp2_with (first
  |(go_at_call 205;go_must (refine HC.out.mono ?_;rintro e w4 ⟨rfl,hb4⟩;refine Stop.of ?_)))
 refine Stop.on ?_
 have hQ4:=H3.out.2.1.keep (Keep.of_below hb4 (fun _=>False)) id
 have hR4:=H3.out.1.keep (Keep.of_below hb4 (fun _=>False)) id
 have hO4:=H3.out.2.2.1.below hb4
 have hkv4:Keep (fun g=>g=rb\/g=qb) v w4:=H3.out.2.2.2.trans (Keep.of_below hb4 (fun _=>False)) (fun _ _ e=>e.elim)
 obtain⟨c0,c1,c2,c3,c4,cf,lq4⟩:=hQ4.cells
 have cf4:=cf 4
 have hk5:Keep (· =qb) w4 (w4.setCell ⟨qb,4,none⟩ (.bool false)):=(Keep.refl (· =qb) w4).setCell (p:=⟨qb,4,none⟩) (.inr rfl) _
 have hQ5:gX (w4.setCell ⟨qb,4,none⟩ (.bool false)) qb fH mq hv2 sX false:=by
  unfold gX at hQ4 ⊢
  simp[World.setCell,aJ,hQ4]
 have hR5:=hR4.keep hk5 (by have:=HA.out.2.2.2.2.1;show ¬rb=qb;omega)
 obtain⟨w5,hw5⟩:∃x:World,Hid (w4.setCell ⟨qb,4,none⟩ (.bool false)=x):=⟨_,af rfl⟩
 rw[hw5.out] at hk5 hQ5 hR5
 have hO5:jP w5 hv2 hsP:=(hO4.keep fun g hg hl hs=>⟨hk5.block g hl (fun e=>by have h1:=(H3.out.2.2.1.1.lt g hg).1;have h2:=HK1.out.size;have h3:=HA.out.2.2.2.2.1;have e:g=qb:=e;omega),hs⟩).dL
 have hkv5:Keep (fun g=>g=rb\/g=qb) v w5:=hkv4.trans hk5 (fun _ _ e=> .inr e)
 have H5:=af (ak hQ5 (ak hR5 (ak hO5 hkv5)))
 clear hQ4 hR4 hO4 hkv4 hk5 hQ5 hR5 hO5 hkv5 hb4
 go_upto_region 7 with (fail)
 rw[hw5.out]
 have hu5:=(H5.out.2.2.2.block ub (by have:=HA.out.2.2.2.2.1;omega) (fun e=>by have:=HA.out.2.2.2.2.1;omega)).trans HA.out.1
 have hs5:=(H5.out.2.2.2.block sb (by have:=HA.out.2.2.2.2.1;omega) (fun e=>by have:=HA.out.2.2.2.2.1;omega)).trans HA.out.2.1
 clear c0 c1 c2 c3 c4 cf cf4 lq4 lq
 obtain⟨hvo,hvc,rfl,_,_,_,_⟩:=aW.form H5.out.2.2.1
 refine aK (fun W=>gX W qb fH mq (.slice hvo hsP.length hvc) sX false/\oJ W rb s 48) (fun i=> !([5,6,7].contains i)) [0,1,2,3,4,5,6,7] rfl (by kernel_rfl) ⟨H5.out.1,H5.out.2.1⟩ ?_
 refine bq (v:= .agg (Ag fH mq (.slice hvo hsP.length hvc) sX false).toArray) rfl rfl (fun c a w h=>DJ (by decide) (by decide) (by decide) h) rfl (fun W hW=> ?_) ?_
 ·exact jU 73 (.tmp 2) rfl qb 0 rfl _ _ (Row.range (n:=5) (Cb hW.1) rfl) Tryz.underlying73 rfl yX
 simp only[Act.put,aj,av,au]
 repeat ((refine bq (v:= ?_) rfl rfl ?_ rfl (fun W hW=> ?_) ?_);rotate_left;(focus (exact fun c a w h=>DJ (by decide) (by decide) (by decide) h));(focus ((try dsimp only at hW);have p:=hW.1.cells;have p0:=p.1;have p1:=p.2.1;have p2:=p.2.2.1;have p3:=p.2.2.2.1;have p4:=p.2.2.2.2.1;have p6:=p.2.2.2.2.2.2;have r:=hW.2.cells;have r1:=r.2.1;have r2:=r.2.2.2;clear p r;(go_simp;first|done|with_reducible rfl)));(try simp only[Act.put,aj,av,au]))
 refine bP rfl rfl rfl ?_;intro K hK
 refine wp_store_row 73 (.tmp 2) (.tmp 18) rfl qb 0 73 _ (Ag fH mq (.slice hvo hsP.length hvc) sX false) rfl rfl (Cb H5.out.1) yX (aA 5) (Hr _ _ _ _ _ rfl) ?_
 intro w6 hr6 hk6
 have hk6:Keep (· =qb) w5 w6:=((Keep.refl (· =qb) w5).as (w'':=w5.drew) rfl rfl rfl rfl).trans hk6 (fun _ _ e=>e)
 have hQ6:gX w6 qb fH mq (.slice hvo hsP.length hvc) sX false:=hr6
 have hR6:=H5.out.2.1.keep hk6 (by have:=HA.out.2.2.2.2.1;show ¬rb=qb;omega)
 refine hK.out _ _ ⟨hQ6,hR6⟩ ?_
 have hu6:=(hk6.block ub (ah.1 hu5).1 (by have:=HA.out.2.2.2.2.1;omega)).trans hu5
 have hs6:=(hk6.block sb (ah.1 hs5).1 (by have:=HA.out.2.2.2.2.1;omega)).trans hs5
 have u0:w6.cell? ⟨ub,0,none⟩=some (.int .i64 0):=by simp[World.cell?,hu6]
 have u1:w6.frozen? ⟨ub,0,none⟩=false:=by simp[World.frozen?,hu6]
 have u2:=(ah.1 hu6).1
 refine bP rfl rfl rfl ?_;intro K hK;go_simp
 have hk7:Keep (· =ub) w6 (w6.setCell ⟨ub,0,none⟩ (.int .i64 48)):=(Keep.refl (· =ub) w6).setCell (p:=⟨ub,0,none⟩) (.inr rfl) _
 have hu7:(w6.setCell ⟨ub,0,none⟩ (.int .i64 48)).heap[ub]? =some (.cells #[.int .i64 48] 3 (0,0)):=by simp[World.setCell,aJ,hu6]
 have hs7:=(hk7.block sb (ah.1 hs6).1 (by have:=HA.out.2.2.2.2.1;omega)).trans hs6
 have hQ7:=hQ6.keep hk7 (by have:=HA.out.2.2.2.2.1;show ¬qb=ub;omega)
 have hR7:=hR6.keep hk7 (by have:=HA.out.2.2.2.2.1;show ¬rb=ub;omega)
 refine hK.out _ _ ⟨hQ7,hR7⟩ ?_
 (try simp only[Act.put,aj,av,au])
 obtain⟨w7,hw7⟩:∃x:World,Hid (w6.setCell ⟨ub,0,none⟩ (.int .i64 48)=x):=⟨_,af rfl⟩
 have e48:((47+1:Nat):Int)=48:=rfl
 rw[hw7.out] at hk7 hu7 hs7 hQ7 hR7 ⊢
 have v0:w7.cell? ⟨sb,0,none⟩=some (.int .i64 0):=by simp[World.cell?,hs7]
 have v1:w7.frozen? ⟨sb,0,none⟩=false:=by simp[World.frozen?,hs7]
 have v2:=(ah.1 hs7).1
 refine jm rfl rfl rfl (by kernel_rfl) ?_;intro K hK;go_simp
 refine hK.out _ _ (bF ?_)
 have hk8:Keep (· =sb) w7 (w7.setCell ⟨sb,0,none⟩ (.int .i64 0)):=(Keep.refl (· =sb) w7).setCell (p:=⟨sb,0,none⟩) (.inr rfl) _
 have hs8:(w7.setCell ⟨sb,0,none⟩ (.int .i64 0)).heap[sb]? =some (.cells #[.int .i64 0] 3 (0,0)):=by simp[World.setCell,aJ,hs7]
 have hu8:=(hk8.block ub (ah.1 hu7).1 (by have:=HA.out.2.2.2.2.1;omega)).trans hu7
 have hQ8:=hQ7.keep hk8 (by have:=HA.out.2.2.2.2.1;show ¬qb=sb;omega)
 have hkf:Keep (fun g=>qb<=g) v (w7.setCell ⟨sb,0,none⟩ (.int .i64 0)):=(((H5.out.2.2.2.mono fun g _ e=>by have:=HA.out.2.2.2.2.1;rcases e with e|e<;>omega).trans hk6 (fun g _ e=>by have e:g=qb:=e;omega)).trans hk7 (fun g _ e=>by have e:g=ub:=e;have:=HA.out.2.2.2.2.1;omega)).trans hk8 (fun g _ e=>by have e:g=sb:=e;have:=HA.out.2.2.2.2.1;omega)
 have hk58:Keep (fun g=>g<=qb+2) w5 (w7.setCell ⟨sb,0,none⟩ (.int .i64 0)):=((hk6.mono fun g _ e=>by have e:g=qb:=e;omega).trans hk7 (fun g _ e=>by have e:g=ub:=e;have:=HA.out.2.2.2.2.1;omega)).trans hk8 (fun g _ e=>by have e:g=sb:=e;have:=HA.out.2.2.2.2.1;omega)
 have hI8:jP (w7.setCell ⟨sb,0,none⟩ (.int .i64 0)) (.slice hvo hsP.length hvc) hsP:=aW.keep H5.out.2.2.1 fun g hg hl hs=>⟨hk58.block g hl (fun e=>by have h1:=(H3.out.2.2.1.1.lt g hg).1;have h2:=HK1.out.size;have h3:=HA.out.2.2.2.2.1;omega),hs⟩
 obtain⟨w8,hw8⟩:∃x:World,Hid (w7.setCell ⟨sb,0,none⟩ (.int .i64 0)=x):=⟨_,af rfl⟩
 rw[hw8.out] at hs8 hu8 hQ8 hkf hI8 ⊢
 have HF:=af (ak hs8 (ak hu8 (ak hQ8 (ak hkf hI8))))
 clear hs8 hu8 hQ8 hkf hI8 hk58 hk6 hk7 hk8 hQ6 hR6 hQ7 hR7 hs5 hs6 hs7 hu5 hu6 hu7 hr6 u0 u1 u2 v0 v1 v2
 go_wp2_with fail
 refine dQ (f:=201) (args:=#[.pointer (some ⟨qb,0,none⟩),.pointer (some ⟨ub,0,none⟩),.pointer (some ⟨sb,0,none⟩)]) (by simp) (by simp[go_sem]) ?_
 refine(Gg _ _ _ w8).mono ?_
 rintro e u' w9 ⟨rfl,rfl,hb9⟩
 have hQ9:=HF.out.2.2.1.keep (Keep.of_below hb9 (fun _=>False)) id
 have hu9:=(hb9.block ub (ah.1 HF.out.2.1).1).trans HF.out.2.1
 have hs9:=(hb9.block sb (ah.1 HF.out.1).1).trans HF.out.1
 have c1:w9.cell? ⟨ub,0,none⟩=some (.int .i64 48):=by simp[World.cell?,hu9]
 have c2:w9.cell? ⟨sb,0,none⟩=some (.int .i64 0):=by simp[World.cell?,hs9]
 obtain⟨d0,d1,d2,d3,d4,_,_⟩:=hQ9.cells
 refine⟨.tuple #[.agg (Ag fH mq (.slice hvo hsP.length hvc) sX false).toArray,.int .i64 48,.int .i64 0],?_,.slice hvo hsP.length hvc,rfl,aW.below HF.out.2.2.2.2 hb9,fun g hg=>by have h1:=(H3.out.2.2.1.1.lt g hg).1;have h2:=HK1.out.size;have h3:=HA.out.2.2.2.2.1;omega,?_⟩
 ·simp[results,Tryz.results126,go_sem,d0,d1,d2,d3,d4,c1,c2,Ag]
 ·exact(HA.out.2.2.1.trans ((HF.out.2.2.2.1.dY (B:=w.heap.size) HA.out.2.2.1.size (fun g hg e=>by have:=HA.out.2.2.2.2.1;omega)))).trans (hb9.mono (aG HA.out.2.2.1.size HF.out.2.2.2.1.size))
def mE (w:World)(cb:Nat)(buf:ByteArray):Prop:=w.heap[cb]? =some (.cells #[.string buf,.bool false] 108 (0,0))
theorem mE.cells {w:World}{cb:Nat}{buf:ByteArray}(h:mE w cb buf):w.cell? ⟨cb,0,none⟩=some (.string buf)/\w.cell? ⟨cb,1,none⟩=some (.bool false)/\w.frozen? ⟨cb,0,none⟩=false/\w.frozen? ⟨cb,1,none⟩=false/\cb<w.heap.size:=by
 unfold mE at h
 exact⟨by simp[World.cell?,h],by simp[World.cell?,h],by simp[World.frozen?,h],by simp[World.frozen?,h],(ah.1 h).1⟩
theorem mE.set {w:World}{cb:Nat}{buf:ByteArray}(h:mE w cb buf)(b:ByteArray):mE (w.setCell ⟨cb,0,none⟩ (.string b)) cb b/\Keep (· =cb) w (w.setCell ⟨cb,0,none⟩ (.string b)):=by
 refine⟨?_,(Keep.refl (· =cb) w).setCell (p:=⟨cb,0,none⟩) (.inr rfl) _⟩
 unfold mE at h ⊢
 simp[World.setCell,aJ,h]
theorem mE.keep {M:Nat->Prop}{w w':World}{cb:Nat}{buf:ByteArray}(h:mE w cb buf)(hk:Keep M w w')(hM:¬M cb):mE w' cb buf:=(hk.block cb (ah.1 h).1 hM).trans h
theorem Tg (cb:Nat)(buf data r:ByteArray)(w:World)(h:mE w cb buf)(hr:buf++data=r)(hs:buf.size<=1000000/\data.size<=1000000):
  Calls Tryz.prog 32 #[.pointer (some ⟨cb,0,none⟩),.string data] w fun e w'=>e= .returned (.tuple #[])/\mE w' cb r/\Keep (· =cb) w w':=by
 obtain⟨c0,c1,f0,f1,lc⟩:=h.cells
 have hadd:∀W:World,(Op.stringOp .add buf data).run Tryz.prog W= .ok (.string r) W:=fun W=>by rw[<-hr];exact gB W _ _ (by omega) (by omega)
 have HS:=af (h.set r)
 clear h hr hs
 go_enter Tryz.func32,Tryz.ntmps32
 go_wp2
 go_end0
 exact⟨rfl,HS.out.1,HS.out.2⟩
theorem OV (cb:Nat)(buf:ByteArray)(w:World)(h:mE w cb buf):
  Calls Tryz.prog 125 #[.pointer (some ⟨cb,0,none⟩)] w fun e w'=>e= .returned (.bool false)/\w'=w:=by
 obtain⟨c0,c1,f0,f1,lc⟩:=h.cells
 clear h
 go_enter Tryz.func125,Tryz.ntmps125
 go_wp2
 go_ret
 exact⟨rfl,rfl⟩
def JC (hv:Value):Value:= .agg (Ag fH mq hv sX false).toArray
theorem Tf (cb:Nat)(buf r:ByteArray)(w:World)(h:mE w cb buf)(hp:GU buf)(hr:buf.extract 48 buf.size=r)(hm:jZ w):
  Calls Tryz.prog 71 #[.pointer (some ⟨cb,0,none⟩)] w fun e w'=>∃hv,e= .returned (.tuple #[JC hv,.int .i64 0,.bool true])/\jP w' hv hsP/\(∀g,hv.ownBlock=some g->w.heap.size<=g)/\mE w' cb r/\Keep (· =cb) w w':=by
 have hb1:=aC w (.cells #[.string ⟨#[]⟩,.string ⟨#[]⟩,.slice none 0 0,.string ⟨#[]⟩,.bool false] 73)
 have hn1:=aF w (.cells #[.string ⟨#[]⟩,.string ⟨#[]⟩,.slice none 0 0,.string ⟨#[]⟩,.bool false] 73)
 obtain⟨w1,hw1⟩:∃x:World,Hid (w.alloc (.cells #[.string ⟨#[]⟩,.string ⟨#[]⟩,.slice none 0 0,.string ⟨#[]⟩,.bool false] 73)=x):=⟨_,af rfl⟩
 rw[hw1.out] at hb1 hn1
 obtain⟨qb,hqb⟩:∃x:Nat,Hid (w.heap.size=x):=⟨_,af rfl⟩
 rw[hqb.out] at hn1
 have h1:=h.keep (Keep.of_below hb1 (fun _=>False)) id
 have HC:=af (OV cb buf w1 h1)
 have HR:=af (RX buf hp w1 (hm.below hb1))
 obtain⟨c0,c1,f0,f1,lc⟩:=h1.cells
 have s1:∀W:World,(Instr.slice 9 (.string buf) (some (.int .i64 48)) none none).run Tryz.prog W= .ok (.string r) W:=fun W=>by
  rw[run_slice_string_l W _ buf bf .i64 48 (by omega) (by have:=hp.z;omega)]
  rw[show (48:Int).toNat=48 from rfl,hr]
 have hlw:cb<w.heap.size:=(ah.1 h).1
 have HA:=af (ak h1 (ak hb1 (ak hn1 hlw)))
 clear h hp hm hb1 hn1 h1 hr hlw
 go_enter Tryz.func71,Tryz.ntmps71
 go_upto_region 1 with (fail)
 rw[hw1.out,hqb.out]
 go_wp2_with (first
  |(go_at_call 125;go_must (refine HC.out.mono ?_;rintro e w2 ⟨rfl,hw⟩;subst w2))
  |(go_at_call 126;go_must (refine HR.out.mono ?_;rintro e w2 ⟨hv,rfl,hI2,hlo2,hb2⟩;refine Stop.of ?_)))
 refine Stop.on ?_
 have HLO:=af hlo2;clear hlo2
 obtain⟨hvo,hvc,rfl,_,_,_,_⟩:=aW.form hI2
 have hb3:=aC w2 (.cells #[.string fH,.string mq,.slice hvo hsP.length hvc,.string sX,.bool false] 73)
 have hn3:=aF w2 (.cells #[.string fH,.string mq,.slice hvo hsP.length hvc,.string sX,.bool false] 73)
 obtain⟨w3,hw3⟩:∃x:World,Hid (w2.alloc (.cells #[.string fH,.string mq,.slice hvo hsP.length hvc,.string sX,.bool false] 73)=x):=⟨_,af rfl⟩
 rw[hw3.out] at hb3 hn3
 obtain⟨pb,hpb⟩:∃x:Nat,Hid (w2.heap.size=x):=⟨_,af rfl⟩
 rw[hpb.out] at hn3
 have hlq:=(ah.1 HA.out.2.2.1).1
 have hle2:=hb2.size
 have hQ3:gX w3 qb ⟨#[]⟩ ⟨#[]⟩ (.slice none 0 0) ⟨#[]⟩ false:=(hb3.block qb (by omega)).trans ((hb2.block qb hlq).trans HA.out.2.2.1)
 have hP3:gX w3 pb fH mq (.slice hvo hsP.length hvc) sX false:=hn3
 have hC3:=(HA.out.1.keep (Keep.of_below hb2 (fun _=>False)) id).keep (Keep.of_below hb3 (fun _=>False)) id
 have hne:cb≠qb/\cb≠pb/\qb≠pb/\qb<w1.heap.size/\w.heap.size=qb:=by have:=HA.out.2.2.2;have:=hqb.out;have:=hpb.out;omega
 have hb13:=hb2.trans (hb3.mono hb2.size)
 have HX:=af (ak hQ3 (ak hP3 (ak hC3 (ak hne (ak hb13 (aW.below hI2 hb3:jP w3 _ hsP))))))
 clear hb2 hb3 hn3 hlq hle2 hI2 hb13 hne c0 c1 f0 f1 lc
 obtain⟨c0,c1,f0,f1,lc⟩:=hC3.cells
 obtain⟨p0,p1,p2,p3,p4,pf,lp⟩:=hP3.cells
 clear hC3 hP3 hQ3 pf
 go_upto_region 6 with (fail)
 rw[hw3.out,hpb.out]
 have hs6:=HX.out.2.2.1.set r
 have hk6:=hs6.2
 have hc6:=hs6.1
 have hP6:=HX.out.2.1.keep hk6 (fun e=>HX.out.2.2.2.1.2.1 e.symm)
 have hQ6:=HX.out.1.keep hk6 (fun e=>HX.out.2.2.2.1.1 e.symm)
 obtain⟨w6,hw6⟩:∃x:World,Hid (w3.setCell ⟨cb,0,none⟩ (.string r)=x):=⟨_,af rfl⟩
 rw[hw6.out] at hk6 hc6 hP6 hQ6
 go_upto_region 7 with (fail)
 rw[hw6.out]
 have H6:=af (ak hk6 (ak hc6 (ak hP6 hQ6)))
 clear hs6 c0 c1 f0 f1 lc p0 p1 p2 p3 p4 lp
 obtain⟨c0,c1,f0,f1,lc⟩:=hc6.cells
 obtain⟨p0,p1,p2,p3,p4,pf,lp⟩:=hP6.cells
 have hk7:Keep (· =cb) w6 (w6.setCell ⟨cb,1,none⟩ (.bool false)):=(Keep.refl (· =cb) w6).setCell (p:=⟨cb,1,none⟩) (.inr rfl) _
 have hc7:mE (w6.setCell ⟨cb,1,none⟩ (.bool false)) cb r:=by
  unfold mE at hc6 ⊢
  simp[World.setCell,aJ,hc6]
 have hP7:=hP6.keep hk7 (fun e=>HX.out.2.2.2.1.2.1 e.symm)
 have hQ7:=hQ6.keep hk7 (fun e=>HX.out.2.2.2.1.1 e.symm)
 obtain⟨w7,hw7⟩:∃x:World,Hid (w6.setCell ⟨cb,1,none⟩ (.bool false)=x):=⟨_,af rfl⟩
 rw[hw7.out] at hk7 hc7 hP7 hQ7
 clear hk6 hc6 hP6 hQ6
 go_upto_region 8 with (fail)
 rw[hw7.out]
 have H7:=af (ak hk7 (ak hc7 (ak hP7 hQ7)))
 clear c0 c1 f0 f1 lc p0 p1 p2 p3 p4 pf lp
 obtain⟨c0,c1,f0,f1,lc⟩:=hc7.cells
 obtain⟨p0,p1,p2,p3,p4,pf,lp⟩:=hP7.cells
 clear hk7 hc7 hP7 hQ7 pf
 go_wp2_with (first
  |((refine bU rfl ?_);intro K hK;(refine wp_store_row 73 (.tmp 2) (.tmp 48) rfl qb 0 73 _ (Ag fH mq (.slice hvo hsP.length hvc) sX false) rfl rfl (Cb H7.out.2.2.2) yX (aA 5) (Hr _ _ _ _ _ rfl) ?_);intro w8 hr8 hk8;refine hK _ _ ?_))
 have hQ8:gX w8 qb fH mq (.slice hvo hsP.length hvc) sX false:=hr8
 obtain⟨d0,d1,d2,d3,d4,_,_⟩:=hQ8.cells
 refine eX (by simp[results,Tryz.results71,go_sem,d0,d1,d2,d3,d4];rfl) rfl ?_
 have hk38:Keep (fun g=>g=cb\/g=qb) w3 w8:=((H6.out.1.trans H7.out.1 (fun _ _ e=>e)).mono (fun _ _ e=> .inl e)).trans hk8 (fun _ _ e=> .inr e)
 refine⟨.slice hvo hsP.length hvc,rfl,aW.keep HX.out.2.2.2.2.2 fun g hg hl hs=>⟨hk38.block g hl (fun e=>by have h1:=HLO.out g hg;have h2:=HX.out.2.2.2.1;have h3:=HA.out.2.2.2;have h4:=HA.out.2.1.size;rcases e with e|e<;>omega),hs⟩,fun g hg=>aG HA.out.2.1.size (HLO.out g hg),H7.out.2.1.keep hk8 HX.out.2.2.2.1.1,?_⟩
 exact(Keep.of_below (HA.out.2.1.trans (HX.out.2.2.2.2.1.mono HA.out.2.1.size)) (· =cb)).trans hk38 (fun g hg e=>e.elim id (fun e=>by have:=HX.out.2.2.2.1;omega))
structure jM where
 inn:Value
 nxt:Value
 held:ByteArray
 n:Int
 out:ByteArray
def jM.row (l:jM):List Value:=[l.inn,l.nxt,.string l.held,.int .i64 l.n,.string l.out]
def lD (L:List jM):List Value:=L.flatMap jM.row
theorem lC (L:List jM):(lD L).length=5*L.length:=by
 induction L with
 |nil=>rfl
 |cons l L ih=>unfold lD at*;rw[iR,ay,ih,aU,show l.row.length=5 from rfl];omega
theorem Cm (L:List jM)(k:Nat)(hk:k<L.length):lD L=lD (L.take k)++(L[k].row++lD (L.drop (k+1))):=by
 unfold lD
 rw[<-iR,<-vX,<-dA hk,bG]
def G6 (v:Value)(L:List jM)(d s:Value)(cnt:Value):List Value:=v::(lD L++[d,s,.int .u32 0,cnt])
theorem wJ (v:Value)(L:List jM)(d s cnt:Value)(k:Nat)(hk:k<L.length):G6 v L d s cnt=(v::lD (L.take k))++(L[k].row++(lD (L.drop (k+1))++[d,s,.int .u32 0,cnt])):=by
 unfold G6
 rw[Cm L k hk]
 simp
theorem yw (v:Value)(L:List jM)(k:Nat)(hk:k<L.length):(v::lD (L.take k)).length=1+5*k:=by
 rw[aU,lC,aL];omega
theorem Qy (v:Value)(L:List jM)(d s cnt:Value)(k j:Nat)(hk:k<L.length)(hj:j<5):(G6 v L d s cnt)[1+5*k+j]? =L[k].row[j]? :=by
 rw[wJ v L d s cnt k hk,bA (by rw[yw v L k hk];omega),yw v L k hk,show 1+5*k+j - (1+5*k)=j by omega,fw (by show j<5;exact hj)]
theorem NM (v:Value)(L:List jM)(d s cnt:Value)(k j:Nat)(hk:k<L.length)(hj:j<5)(x:Value)(l':jM)(h:L[k].row.set j x=l'.row):(G6 v L d s cnt).set (1+5*k+j) x=G6 v (L.set k l') d s cnt:=by
 have hk':k<(L.set k l').length:=by rw[iZ];exact hk
 rw[wJ v L d s cnt k hk,wJ v (L.set k l') d s cnt k hk',dm _ _ (by rw[yw v L k hk];omega),yw v L k hk,show 1+5*k+j - (1+5*k)=j by omega,IZ _ _ (by show j<5;exact hj),h,mU,List.take_set_of_le (aA k),List.drop_set_of_lt (lT k)]
def iE (w:World)(sb:Nat)(v:Value)(L:List jM)(d s cnt:Value):Prop:=Row w sb 99 (G6 v L d s cnt)
theorem iE.cell {w:World}{sb:Nat}{v:Value}{L:List jM}{d s cnt:Value}(h:iE w sb v L d s cnt)(k j:Nat)(hk:k<L.length)(hj:j<5):w.cell? ⟨sb,1+5*k+j,none⟩=L[k].row[j]? :=(Row.cell h _).trans (Qy v L d s cnt k j hk hj)
theorem iE.set {w:World}{sb:Nat}{v:Value}{L:List jM}{d s cnt:Value}(h:iE w sb v L d s cnt)(k j:Nat)(hk:k<L.length)(hj:j<5)(x:Value)(l':jM)(e:L[k].row.set j x=l'.row):iE (w.setCell ⟨sb,1+5*k+j,none⟩ x) sb v (L.set k l') d s cnt/\Keep (· =sb) w (w.setCell ⟨sb,1+5*k+j,none⟩ x):=by
 refine⟨?_,(Keep.refl (· =sb) w).setCell (p:=⟨sb,1+5*k+j,none⟩) (.inr rfl) _⟩
 have:=Row.setCell h (1+5*k+j) x
 rw[NM v L d s cnt k j hk hj x l' e] at this
 exact this
theorem iE.keep {M:Nat->Prop}{w w':World}{sb:Nat}{v:Value}{L:List jM}{d s cnt:Value}(h:iE w sb v L d s cnt)(hk:Keep M w w')(hM:¬M sb):iE w' sb v L d s cnt:=Row.keep h hk hM
theorem iE.lt {w:World}{sb:Nat}{v:Value}{L:List jM}{d s cnt:Value}(h:iE w sb v L d s cnt):sb<w.heap.size:=Row.lt h
theorem sU (sb:Nat)(w:World)(hl:sb<w.heap.size):Calls Tryz.prog 27 #[.pointer (some ⟨sb,0,none⟩),.int .i64 0] w fun e w'=>e= .returned (.tuple #[.pointer (some ⟨sb,1,none⟩),.int .i64 0])/\w'=w:=by
 go_enter Tryz.func27,Tryz.ntmps27
 go_wp2
 go_ret2
 exact⟨rfl,rfl⟩
theorem at_nil (c:Int)(w:World):Calls Tryz.prog 27 #[.pointer none,.int .i64 c] w fun e w'=>e= .returned (.tuple #[.pointer none,.int .i64 2])/\w'=w:=by
 go_enter Tryz.func27,Tryz.ntmps27
 go_wp2
 go_ret2
 exact⟨rfl,rfl⟩
theorem iE.zero {w:World}{sb:Nat}{v:Value}{L:List jM}{d s cnt:Value}{l:jM}(h:iE w sb v L d s cnt)(hl:L[0]? =some l):w.cell? ⟨sb,1,none⟩=some l.inn/\w.cell? ⟨sb,2,none⟩=some l.nxt/\w.cell? ⟨sb,3,none⟩=some (.string l.held)/\w.cell? ⟨sb,4,none⟩=some (.int .i64 l.n)/\w.cell? ⟨sb,5,none⟩=some (.string l.out)/\(∀i,w.frozen? ⟨sb,i,none⟩=false)/\sb<w.heap.size:=by
 obtain⟨hk,e⟩:=bg.1 hl
 subst e
 exact⟨h.cell 0 0 hk (by decide),h.cell 0 1 hk (by decide),h.cell 0 2 hk (by decide),h.cell 0 3 hk (by decide),h.cell 0 4 hk (by decide),fun i=>Row.frozen h i,h.lt⟩
theorem iE.set0 {w:World}{sb:Nat}{v:Value}{L:List jM}{d s cnt:Value}{l l':jM}(h:iE w sb v L d s cnt)(hl:L[0]? =some l)(j:Nat)(hj:j<5)(x:Value)(e:l.row.set j x=l'.row):iE (w.setCell ⟨sb,1+j,none⟩ x) sb v (L.set 0 l') d s cnt/\Keep (· =sb) w (w.setCell ⟨sb,1+j,none⟩ x):=by
 obtain⟨hk,e'⟩:=bg.1 hl
 subst e'
 exact h.set 0 j hk hj x l' e
def rW (w:World)(tb:Nat)(hv:Value):Prop:=w.heap[tb]? =some (.cells #[.string fH,.string mq,hv,.string sX,.bool false,.int .i64 0] 75 (0,0))
theorem LX (sb cb:Nat)(buf r:ByteArray)(v d s cnt:Value)(L:List jM)(held out:ByteArray)(n:Int)(w:World)(h:iE w sb v L d s cnt)(hl:L[0]? =some ⟨.pointer (some ⟨cb,0,none⟩),.pointer none,held,n,out⟩)(hc:mE w cb buf)(hne:sb≠cb)(hp:GU buf)(hr:buf.extract 48 buf.size=r)(hm:jZ w):
  Calls Tryz.prog 34 #[.pointer (some ⟨sb,1,none⟩)] w fun e w'=>e= .returned (.tuple #[])/\∃hv tb,iE w' sb v (L.set 0 ⟨.pointer (some ⟨cb,0,none⟩),.pointer (some ⟨tb,0,none⟩),held,n,out⟩) d s cnt/\mE w' cb r/\rW w' tb hv/\jP w' hv hsP/\(w.heap.size<=tb/\∀g,hv.ownBlock=some g->w.heap.size<=g)/\Keep (fun g=>g=sb\/g=cb) w w':=by
 obtain⟨c0,c1,_,_,_,cf,ls⟩:=h.zero hl
 have HN:=af (Tf cb buf r w hc hp hr hm)
 have HA:=af (ak h (ak hl (ak hc hne)))
 clear h hl hc hp hr hm
 go_enter Tryz.func34,Tryz.ntmps34
 go_wp2_with (first
  |(go_at_call 71;go_must (refine HN.out.mono ?_;rintro e w1 ⟨hv,rfl,hI1,hlo1,hC1,hk1⟩;refine Stop.of ?_)))
 refine Stop.on ?_
 obtain⟨hvo,hvc,rfl,_,_,_,_⟩:=aW.form hI1
 unfold JC Ag
 have hS1:=HA.out.1.keep hk1 HA.out.2.2.2
 have hb2:=aC w1 (.cells #[.string fH,.string mq,.slice hvo hsP.length hvc,.string sX,.bool false] 73)
 have hn2:=aF w1 (.cells #[.string fH,.string mq,.slice hvo hsP.length hvc,.string sX,.bool false] 73)
 obtain⟨w2,hw2⟩:∃x:World,Hid (w1.alloc (.cells #[.string fH,.string mq,.slice hvo hsP.length hvc,.string sX,.bool false] 73)=x):=⟨_,af rfl⟩
 rw[hw2.out] at hb2 hn2
 obtain⟨pb,hpb⟩:∃x:Nat,Hid (w1.heap.size=x):=⟨_,af rfl⟩
 rw[hpb.out] at hn2
 have hP2:gX w2 pb fH mq (.slice hvo hsP.length hvc) sX false:=hn2
 obtain⟨p0,p1,p2,p3,p4,_,lp⟩:=hP2.cells
 have hS2:=hS1.keep (Keep.of_below hb2 (fun _=>False)) id
 have H2:=af (ak hS2 (ak hb2 (ak hI1 (ak hlo1 (ak hC1 hk1)))))
 clear hS1 hS2 hb2 hn2 hP2 hI1 hlo1 hC1 hk1 c0 c1 cf ls
 obtain⟨c0,c1,_,_,_,cf,ls⟩:=H2.out.1.zero HA.out.2.1
 have cf2:=cf 2
 go_upto_region 3 with (fail)
 rw[hw2.out,hpb.out]
 have q3:=H2.out.1.set0 HA.out.2.1 1 (by decide) (.pointer (some ⟨w2.heap.size,0,none⟩)) (l':=⟨.pointer (some ⟨cb,0,none⟩),.pointer (some ⟨w2.heap.size,0,none⟩),held,n,out⟩) rfl
 have z3:(w2.setCell ⟨sb,2,none⟩ (.pointer (some ⟨w2.heap.size,0,none⟩))).heap.size=w2.heap.size:=by simp
 have hb3:=aC (w2.setCell ⟨sb,2,none⟩ (.pointer (some ⟨w2.heap.size,0,none⟩))) (.cells #[.string fH,.string mq,.slice hvo hsP.length hvc,.string sX,.bool false,.int .i64 0] 75)
 have hn3:=aF (w2.setCell ⟨sb,2,none⟩ (.pointer (some ⟨w2.heap.size,0,none⟩))) (.cells #[.string fH,.string mq,.slice hvo hsP.length hvc,.string sX,.bool false,.int .i64 0] 75)
 rw[z3] at hn3
 have H3:=af (ak q3 (ak hb3 hn3))
 clear q3 z3 hb3 hn3
 go_wp2
 go_end0
 have hk2:Keep (fun g=>g=sb\/g=cb) w w2:=(H2.out.2.2.2.2.2.mono fun _ _ e=> .inr e).trans (Keep.of_below H2.out.2.1 (fun _=>False)) (fun _ _ e=>e.elim)
 have hk3:=hk2.trans H3.out.1.2 (fun _ _ e=> .inl e)
 have hkb:=Keep.of_below H3.out.2.1 (fun _=>False)
 have hle:=aG H2.out.2.2.2.2.2.size H2.out.2.1.size
 refine⟨rfl,_,w2.heap.size,H3.out.1.1.keep hkb id,(((H2.out.2.2.2.2.1.keep (Keep.of_below H2.out.2.1 (fun _=>False)) id).keep H3.out.1.2 (fun e=>HA.out.2.2.2 e.symm)).keep hkb id),H3.out.2.2,?_,⟨hle,H2.out.2.2.2.1⟩,hk3.trans hkb (fun _ _ e=>e.elim)⟩
 have hI2:jP w2 (.slice hvo hsP.length hvc) hsP:=aW.below H2.out.2.2.1 H2.out.2.1
 exact aW.below (w:=w2.setCell ⟨sb,2,none⟩ (.pointer (some ⟨w2.heap.size,0,none⟩))) (aW.keep hI2 fun g hg hl hs=>⟨H3.out.1.2.block g hl (fun e=>by have h1:=H2.out.2.2.2.1 g hg;have h2:=HA.out.1.lt;have e:g=sb:=e;omega),hs⟩) H3.out.2.1
theorem LW (sb tb:Nat)(v d s cnt:Value)(L:List jM)(inn:Value)(held out:ByteArray)(n:Int)(w:World)(h:iE w sb v L d s cnt)(hl:L[0]? =some ⟨inn,.pointer (some ⟨tb,0,none⟩),held,n,out⟩):
  Calls Tryz.prog 34 #[.pointer (some ⟨sb,1,none⟩)] w fun e w'=>e= .returned (.tuple #[])/\w'=w:=by
 obtain⟨c0,c1,_,_,_,cf,ls⟩:=h.zero hl
 clear h hl
 go_enter Tryz.func34,Tryz.ntmps34
 go_wp2
 go_end0
 exact⟨rfl,rfl⟩
theorem wO (sb cb:Nat)(buf r:ByteArray)(v d s cnt:Value)(L:List jM)(held out:ByteArray)(n:Int)(w:World)(h:iE w sb v L d s cnt)(hl:L[0]? =some ⟨.pointer (some ⟨cb,0,none⟩),.pointer none,held,n,out⟩)(hc:mE w cb buf)(hne:sb≠cb)(hp:GU buf)(hr:buf.extract 48 buf.size=r)(hm:jZ w):
  Calls Tryz.prog 12 #[.pointer (some ⟨sb,0,none⟩),.int .i64 0] w fun e w'=>e= .returned (.bool true)/\∃hv tb,iE w' sb v (L.set 0 ⟨.pointer (some ⟨cb,0,none⟩),.pointer (some ⟨tb,0,none⟩),held,n,out⟩) d s cnt/\mE w' cb r/\rW w' tb hv/\jP w' hv hsP/\(w.heap.size<=tb/\∀g,hv.ownBlock=some g->w.heap.size<=g)/\Keep (fun g=>g=sb\/g=cb) w w':=by
 have HL:=af (LX sb cb buf r v d s cnt L held out n w h hl hc hne hp hr hm)
 have hlt:=h.lt
 have hl0:=(bg.1 hl).1
 clear h hl hc hne hp hr hm
 go_enter Tryz.func12,Tryz.ntmps12
 go_wp2_with (first
  |(go_at_call 27;go_must (refine(sU sb w hlt).mono ?_;rintro e w1 ⟨rfl,hw⟩;subst w1))
  |(go_at_call 34;go_must (refine HL.out.mono ?_;rintro e w1 ⟨rfl,hv,tb,hS1,hC1,hT1,hI1,hlo1,hk1⟩;refine Stop.of ?_)))
 refine Stop.on ?_
 obtain⟨_,c1,_,_,_,_,ls⟩:=hS1.zero (l:=⟨.pointer (some ⟨cb,0,none⟩),.pointer (some ⟨tb,0,none⟩),held,n,out⟩) (by rw[iQ hl0])
 have H1:=af (ak hS1 (ak hC1 (ak hT1 (ak hI1 (ak hlo1 hk1)))))
 clear hS1 hC1 hT1 hI1 hlo1 hk1
 go_wp2_with fail
 go_ret
 exact⟨rfl,hv,tb,H1.out⟩
theorem JE (sb tb:Nat)(v d s cnt:Value)(L:List jM)(inn:Value)(held out:ByteArray)(n:Int)(w:World)(h:iE w sb v L d s cnt)(hl:L[0]? =some ⟨inn,.pointer (some ⟨tb,0,none⟩),held,n,out⟩):
  Calls Tryz.prog 12 #[.pointer (some ⟨sb,0,none⟩),.int .i64 0] w fun e w'=>e= .returned (.bool true)/\w'=w:=by
 have HL:=af (LW sb tb v d s cnt L inn held out n w h hl)
 obtain⟨_,c1,_,_,_,_,ls⟩:=h.zero hl
 clear h hl
 go_enter Tryz.func12,Tryz.ntmps12
 go_wp2_with (first
  |(go_at_call 27;go_must (refine(sU sb w ls).mono ?_;rintro e w1 ⟨rfl,hw⟩;subst w1))
  |(go_at_call 34;go_must (refine HL.out.mono ?_;rintro e w1 ⟨rfl,hw⟩;subst w1)))
 go_ret
 exact⟨rfl,rfl⟩
theorem Pw (sb cb:Nat)(buf data r:ByteArray)(v d s cnt:Value)(L:List jM)(nxt:Value)(held out:ByteArray)(n:Int)(w:World)(h:iE w sb v L d s cnt)(hl:L[0]? =some ⟨.pointer (some ⟨cb,0,none⟩),nxt,held,n,out⟩)(hc:mE w cb buf)(hr:buf++data=r)(hs:buf.size<=1000000/\data.size<=1000000):
  Calls Tryz.prog 9 #[.pointer (some ⟨sb,0,none⟩),.int .i64 0,.string data] w fun e w'=>e= .returned (.int .i64 0)/\mE w' cb r/\Keep (· =cb) w w':=by
 have HF:=af (Tg cb buf data r w hc hr hs)
 obtain⟨c0,_,_,_,_,_,ls⟩:=h.zero hl
 clear h hl hc hr hs
 go_enter Tryz.func9,Tryz.ntmps9
 go_wp2_with (first
  |(go_at_call 27;go_must (refine(sU sb w ls).mono ?_;rintro e w1 ⟨rfl,hw⟩;subst w1))
  |(go_at_call 32;go_must (refine HF.out.mono ?_;rintro e w1 ⟨rfl,hC1,hk1⟩)))
 go_ret
 exact⟨rfl,hC1,hk1⟩
theorem Pt (sb:Nat)(v d s cnt:Value)(L:List jM)(inn nxt:Value)(held out:ByteArray)(n:Int)(w:World)(h:iE w sb v L d s cnt)(hl:L[0]? =some ⟨inn,nxt,held,n,out⟩):
  Calls Tryz.prog 8 #[.pointer (some ⟨sb,0,none⟩),.int .i64 0] w fun e w'=>e= .returned (.tuple #[.string out,.int .i64 0])/\iE w' sb v (L.set 0 ⟨inn,nxt,held,n,⟨#[]⟩⟩) d s cnt/\Keep (· =sb) w w':=by
 obtain⟨_,_,_,_,c4,cf,ls⟩:=h.zero hl
 have cf5:=cf 5
 have HS:=af (h.set0 hl 4 (by decide) (.string ⟨#[]⟩) (l':=⟨inn,nxt,held,n,⟨#[]⟩⟩) rfl)
 clear h hl cf
 go_enter Tryz.func8,Tryz.ntmps8
 go_wp2_with (first
  |(go_at_call 27;go_must (refine(sU sb w ls).mono ?_;rintro e w1 ⟨rfl,hw⟩;subst w1)))
 go_ret2
 exact⟨rfl,HS.out.1,HS.out.2⟩
theorem ready_nil (c:Int)(w:World):Calls Tryz.prog 12 #[.pointer none,.int .i64 c] w fun e w'=>e= .returned (.bool false)/\w'=w:=by
 go_enter Tryz.func12,Tryz.ntmps12
 go_wp2_with (first
  |(go_at_call 27;go_must (refine(at_nil c w).mono ?_;rintro e w1 ⟨rfl,hw⟩;subst w1)))
 go_ret
 exact⟨rfl,rfl⟩
theorem MF (c:Int)(data:ByteArray)(w:World):Calls Tryz.prog 9 #[.pointer none,.int .i64 c,.string data] w fun e w'=>e= .returned (.int .i64 2)/\w'=w:=by
 go_enter Tryz.func9,Tryz.ntmps9
 go_wp2_with (first
  |(go_at_call 27;go_must (refine(at_nil c w).mono ?_;rintro e w1 ⟨rfl,hw⟩;subst w1)))
 go_ret
 exact⟨rfl,rfl⟩
theorem take_nil (c:Int)(w:World):Calls Tryz.prog 8 #[.pointer none,.int .i64 c] w fun e w'=>e= .returned (.tuple #[.string ⟨#[]⟩,.int .i64 2])/\w'=w:=by
 go_enter Tryz.func8,Tryz.ntmps8
 go_wp2_with (first
  |(go_at_call 27;go_must (refine(at_nil c w).mono ?_;rintro e w1 ⟨rfl,hw⟩;subst w1)))
 go_ret2
 exact⟨rfl,rfl⟩
theorem JB (c:Int)(w:World):Calls Tryz.prog 10 #[.pointer none,.int .i64 c] w fun e w'=>e= .returned (.int .i64 2)/\w'=w:=by
 go_enter Tryz.func10,Tryz.ntmps10
 go_wp2_with (first
  |(go_at_call 27;go_must (refine(at_nil c w).mono ?_;rintro e w1 ⟨rfl,hw⟩;subst w1)))
 go_ret
 exact⟨rfl,rfl⟩
theorem NU (c now:Int)(draw:ByteArray)(w:World):Calls Tryz.prog 7 #[.pointer none,.int .i64 c,.int .i64 now,.string draw] w fun e w'=>e= .returned (.tuple #[.int .i64 0,.int .i64 2])/\Below w.heap.size w w':=by
 go_enter Tryz.func7,Tryz.ntmps7
 go_wp2_with (first
  |(go_at_call 27;go_must (refine(at_nil c _).mono ?_;rintro e w1 ⟨rfl,hw⟩;subst w1)))
 go_ret2
 exact⟨rfl,aH _ _⟩
theorem Jm (w:World):Calls Tryz.prog 11 #[.pointer none] w fun e w'=>e= .returned (.int .i64 2)/\w'=w:=by
 go_enter Tryz.func11,Tryz.ntmps11
 go_wp2
 go_ret
 exact⟨rfl,rfl⟩
theorem Ms (w:World):Calls Tryz.prog 13 #[.pointer none] w fun e w'=>e= .returned (.int .i64 0)/\w'=w:=by
 go_enter Tryz.func13,Tryz.ntmps13
 go_wp2
 go_ret
 exact⟨rfl,rfl⟩
theorem count_nil (k:Int)(w:World):Calls Tryz.prog 14 #[.pointer none,.int .i64 k] w fun e w'=>e= .returned (.int .i64 0)/\w'=w:=by
 go_enter Tryz.func14,Tryz.ntmps14
 go_wp2
 go_ret
 exact⟨rfl,rfl⟩
def T9:jM:=⟨.pointer none,.pointer none,⟨#[]⟩,0,⟨#[]⟩⟩
def Tz (c:Nat):jM:=⟨.pointer (some ⟨c,0,none⟩),.pointer none,⟨#[]⟩,0,⟨#[]⟩⟩
def newL (P:List Nat):List jM:=P.map Tz++List.replicate (16 - P.length) T9
theorem zh (P:List Nat)(h:P.length<=16):(newL P).length=16:=by unfold newL;simp;omega
theorem LF (P:List Nat)(c:Nat)(h:P.length<16):(newL P).set P.length (Tz c)=newL (P++[c]):=by
 unfold newL
 obtain⟨m,hm⟩:∃m,16 - P.length=m+1:=⟨15 - P.length,by omega⟩
 rw[dm _ _ (by simp),jc,jN,hm,List.replicate_succ,av,eP,ay,show 16 - (P.length+[c].length)=m by simp;omega]
 simp
theorem Og (P:List Nat)(h:P.length<16):(newL P)[P.length]? =some T9:=by
 unfold newL
 obtain⟨m,hm⟩:∃m,16 - P.length=m+1:=⟨15 - P.length,by omega⟩
 rw[bA (by simp),jc,jN,hm]
 rfl
theorem Sj (vo:Option Addr)(w:World):
  Calls Tryz.prog 15 #[.pointer vo] w fun e w'=>e= .returned (.pointer (some ⟨w.heap.size,0,none⟩))/\∃P:List Nat,P.length=16/\iE w' w.heap.size (.pointer vo) (newL P) (.int .u32 0) (.int .i32 0) (.slice none 0 0)/\(∀c∈P,mE w' c ⟨#[]⟩/\w.heap.size<c)/\Below w.heap.size w w':=by
 have e0:Tryz.zeroCells99.setIfInBounds 0 (.pointer vo)=(G6 (.pointer vo) (newL []) (.int .u32 0) (.int .i32 0) (.slice none 0 0)).toArray:=by kernel_rfl
 have hb1:=aC w (.cells (Tryz.zeroCells99.setIfInBounds 0 (.pointer vo)) 99)
 have hn1:=aF w (.cells (Tryz.zeroCells99.setIfInBounds 0 (.pointer vo)) 99)
 obtain⟨w1,hw1⟩:∃x:World,Hid (w.alloc (.cells (Tryz.zeroCells99.setIfInBounds 0 (.pointer vo)) 99)=x):=⟨_,af rfl⟩
 rw[hw1.out] at hb1 hn1
 rw[e0] at hn1
 have hS1:iE w1 w.heap.size (.pointer vo) (newL []) (.int .u32 0) (.int .i32 0) (.slice none 0 0):=hn1
 obtain⟨sb,hsb⟩:∃x:Nat,Hid (w.heap.size=x):=⟨_,af rfl⟩
 have HA:=af (ak hS1 hb1)
 clear hn1 hS1 hb1 e0
 rw[hsb.out] at HA ⊢
 go_enter Tryz.func15,Tryz.ntmps15
 go_upto_region 2 with (fail)
 rw[hw1.out,hsb.out]
 go_wp2
 go_loopw [4,8] (fun _ i wr=>∃P:List Nat,P.length<=16/\i= .int .i64 P.length/\iE wr sb (.pointer vo) (newL P) (.int .u32 0) (.int .i32 0) (.slice none 0 0)/\(∀c∈P,mE wr c ⟨#[]⟩/\sb<c)/\Below sb w wr) (fun _ i _=>16 - (intOf i).toNat)
 case atStart=>exact⟨[],aN _,rfl,HA.out.1,by simp,HA.out.2⟩
 case round=>
  obtain⟨P,hP,rfl,hS,hC,hb⟩:=hrel
  by_cases hlt:P.length<16
  ·have hlt':(P.length:Int)<16:=by omega
   have hk:P.length<(newL P).length:=by rw[zh P hP];exact hlt
   have hat:(newL P)[P.length]=T9:=by
    have:=Og P hlt
    rw[bD hk] at this
    exact fU this
   have ea:1+P.length*5=1+5*P.length+0:=by omega
   have c1:wr.cell? ⟨sb,1+P.length*5,none⟩=some (.pointer none):=by
    rw[ea,hS.cell P.length 0 hk (by decide),hat]
    rfl
   have f1:wr.frozen? ⟨sb,1+P.length*5,none⟩=false:=Row.frozen hS _
   have hls:=hS.lt
   have q:=hS.set P.length 0 hk (by decide) (.pointer (some ⟨wr.heap.size,0,none⟩)) (Tz wr.heap.size) (by rw[hat];rfl)
   rw[<-ea,LF P _ hlt] at q
   have z:(wr.setCell ⟨sb,1+P.length*5,none⟩ (.pointer (some ⟨wr.heap.size,0,none⟩))).heap.size=wr.heap.size:=by simp
   have hb3:=aC (wr.setCell ⟨sb,1+P.length*5,none⟩ (.pointer (some ⟨wr.heap.size,0,none⟩))) (.cells #[.string ⟨#[]⟩,.bool false] 108)
   have hn3:=aF (wr.setCell ⟨sb,1+P.length*5,none⟩ (.pointer (some ⟨wr.heap.size,0,none⟩))) (.cells #[.string ⟨#[]⟩,.bool false] 108)
   rw[z] at hn3
   have hkb:=Keep.of_below hb3 (fun _=>False)
   have hfin:iE ((wr.setCell ⟨sb,1+P.length*5,none⟩ (.pointer (some ⟨wr.heap.size,0,none⟩))).alloc (.cells #[.string ⟨#[]⟩,.bool false] 108)) sb (.pointer vo) (newL (P++[wr.heap.size])) (.int .u32 0) (.int .i32 0) (.slice none 0 0)/\(∀c∈P++[wr.heap.size],mE ((wr.setCell ⟨sb,1+P.length*5,none⟩ (.pointer (some ⟨wr.heap.size,0,none⟩))).alloc (.cells #[.string ⟨#[]⟩,.bool false] 108)) c ⟨#[]⟩/\sb<c)/\Below sb w ((wr.setCell ⟨sb,1+P.length*5,none⟩ (.pointer (some ⟨wr.heap.size,0,none⟩))).alloc (.cells #[.string ⟨#[]⟩,.bool false] 108)):=by
    refine⟨q.1.keep hkb id,fun c hc=> ?_,hb.trans ((q.2.trans hkb (fun _ _ e=>e.elim)).dY (by have:=hb.size;have:=hsb.out;omega) (fun g hg e=>by have e:g=sb:=e;omega))⟩
    rcases dG.1 hc with hc|hc
    ·obtain⟨h1,h2⟩:=hC c hc
     exact⟨(h1.keep q.2 (fun e=>by have e:c=sb:=e;omega)).keep hkb id,h2⟩
    ·rw[bO.1 hc]
     exact⟨hn3,hls⟩
   have HF:=af hfin
   clear hfin q hn3 hb3 hkb hS hC hb ea hk hat z
   go_wp2_with fail
   go_roundw
   case rel=>exact⟨P++[wr.heap.size],by simp;omega,by simp,HF.out.1,HF.out.2.1,HF.out.2.2⟩
   case measure=>simp[intOf];omega
  ·obtain hPl:P.length=16:=by omega
   have x2:¬(P.length:Int)<16:=by omega
   have HF:=af (ak hPl (ak hS (ak hC hb)))
   clear hS hC hb
   go_wp2_with fail
   go_ret
   exact⟨rfl,P,HF.out.1,HF.out.2.1,HF.out.2.2.1,HF.out.2.2.2⟩
def nJ (L:List jM):Int:=(L.map jM.n).sum
def M5 (L:List jM):Prop:=∀l∈L,0<=l.n/\l.n<=1000
theorem EA:∀(L:List jM),M5 L->0<=nJ L/\nJ L<=1000*L.length
 |[],_=>⟨Int.le_refl _,Int.le_refl _⟩
 |l::L,h=>by
  obtain⟨h1,h2⟩:=h l (by simp)
  obtain⟨h3,h4⟩:=EA L fun x hx=>h x (by simp[hx])
  unfold nJ at*
  simp only[dO,jQ,aU]
  omega
theorem Pv (sb:Nat)(v d s cnt:Value)(L:List jM)(w:World)(h:iE w sb v L d s cnt)(hL:L.length=16)(hn:M5 L):
  Calls Tryz.prog 13 #[.pointer (some ⟨sb,0,none⟩)] w fun e w'=>e= .returned (.int .i64 (nJ L))/\w'=w:=by
 have HA:=af (ak h (ak hL hn))
 have hlt:=h.lt
 clear h hL hn
 go_enter Tryz.func13,Tryz.ntmps13
 go_wp2
 go_loopw [3,4,7] (fun x _ i wr=>∃k:Nat,k<=16/\i= .int .i64 k/\x= .int .i64 (nJ (L.take k))/\wr=w) (fun _ _ i _=>16 - (intOf i).toNat)
 case atStart=>exact⟨0,aN _,rfl,rfl,rfl⟩
 case round=>
  obtain⟨k,hk,rfl,rfl,hwr⟩:=hrel
  subst hwr
  by_cases hlt':k<16
  ·have hk2:k<L.length:=by rw[HA.out.2.1];exact hlt'
   have hlt2:(k:Int)<16:=by omega
   have c3:wr.cell? ⟨sb,1+k*5+3,none⟩=some (.int .i64 L[k].n):=by
    rw[show 1+k*5+3=1+5*k+3 by omega,HA.out.1.cell k 3 hk2 (by decide)]
    rfl
   have hle:=EA (L.take k) (fun x hx=>HA.out.2.2 x (nN hx))
   have hn1:=HA.out.2.2 L[k] (bI hk2)
   rw[aL] at hle
   have hsum:nJ (L.take (k+1))=nJ (L.take k)+L[k].n:=by
    unfold nJ
    rw[aM hk2,eP,pQ]
    simp
   have hw:IntKind.i64.wrap (nJ (L.take k)+L[k].n)=nJ (L.take (k+1)):=by rw[bJ,hsum];omega
   obtain⟨a,ha⟩:∃a,Hid (nJ (L.take k)=a):=⟨_,af rfl⟩
   obtain⟨b,hb⟩:∃b,Hid (nJ (L.take (k+1))=b):=⟨_,af rfl⟩
   obtain⟨n,hn⟩:∃n,Hid (L[k].n=n):=⟨_,af rfl⟩
   rw[ha.out,hb.out,hn.out] at hw
   rw[hn.out] at c3
   rw[ha.out]
   clear hle hn1 hsum hn hk2
   go_wp2_with fail
   go_roundw
   case rel=>exact⟨k+1,by omega,by go_num,by rw[hb.out],by trivial⟩
   case measure=>simp[intOf];omega
  ·obtain rfl:k=16:=by omega
   have e:nJ (L.take 16)=nJ L:=by rw[<-HA.out.2.1,bW]
   rw[e]
   go_wp2_with fail
   go_ret
   exact⟨rfl,rfl⟩
def jM.sync (l:jM):jM:=⟨l.inn,l.nxt,⟨#[]⟩,0,l.out++l.held⟩
def o8 (L:List jM)(k:Nat):List jM:=(L.take k).map jM.sync++L.drop k
theorem AA (L:List jM)(k:Nat):(o8 L k).length=L.length:=by unfold o8;simp;omega
theorem K9 (L:List jM)(k:Nat)(hk:k<L.length):(o8 L k)[k]'(by rw[AA];exact hk)=L[k]:=by
 unfold o8
 have e:((L.take k).map jM.sync).length=k:=by simp;omega
 rw[yG (by omega)]
 simp
 congr 1
 omega
theorem Jk (L:List jM)(k:Nat)(hk:k<L.length):(o8 L k).set k L[k].sync=o8 L (k+1):=by
 unfold o8
 have e:((L.take k).map jM.sync).length=k:=by simp;omega
 rw[dm _ _ (by omega),e,jN,dA hk,av,aM hk,eP]
 simp
def Rz (L:List jM):Prop:=∀l∈L,l.held.size<=100000/\l.out.size<=100000
theorem AB (sb:Nat)(vo:Option Addr)(d s cnt:Value)(L:List jM)(w:World)(er:Int)(M:Nat->Prop)(Q:World->Prop)(h:iE w sb (.pointer vo) L d s cnt)(hL:L.length=16)(hsh:Rz L)(hM:¬M sb)
  (hv:Calls Tryz.prog 33 #[.pointer vo] w fun e w'=>e= .returned (.int .i64 er)/\Q w'/\Keep M w w'):
  Calls Tryz.prog 11 #[.pointer (some ⟨sb,0,none⟩)] w fun e w'=>e= .returned (.int .i64 er)/\∃w1,Q w1/\Keep M w w1/\((er≠0/\w'=w1)\/(er=0/\iE w' sb (.pointer vo) (L.map jM.sync) d s cnt/\Keep (· =sb) w1 w')):=by
 have c0:w.cell? ⟨sb,0,none⟩=some (.pointer vo):=(Row.cell h 0).trans rfl
 have hlt:=h.lt
 have HA:=af (ak h (ak hL (ak hsh hM)))
 have HV:=af hv
 clear h hL hsh hM hv
 go_enter Tryz.func11,Tryz.ntmps11
 go_wp2_with (first
  |(go_at_call 33;go_must (refine HV.out.mono ?_;rintro e w1 ⟨rfl,hQ1,hk1⟩;refine Stop.of ?_)))
 refine Stop.on ?_
 by_cases he:er=0
 ·subst he
  have hS1:=HA.out.1.keep hk1 HA.out.2.2.2
  have H1:=af (ak hQ1 (ak hk1 hS1))
  clear hQ1 hk1 hS1
  go_wp2_with fail
  go_loopw [4,15] (fun _ i wr=>∃k:Nat,k<=16/\i= .int .i64 k/\iE wr sb (.pointer vo) (o8 L k) d s cnt/\Keep (· =sb) w1 wr) (fun _ i _=>16 - (intOf i).toNat)
  case atStart=>exact⟨0,aN _,rfl,by simpa [o8] using H1.out.2.2,Keep.refl _ _⟩
  case round=>
   obtain⟨k,hk,rfl,hS,hkw⟩:=hrel
   by_cases hlt':k<16
   ·have hk2:k<L.length:=by rw[HA.out.2.1];exact hlt'
    have hk3:k<(o8 L k).length:=by rw[AA];exact hk2
    have hlt2:(k:Int)<16:=by omega
    obtain⟨l,hl⟩:∃l,L[k]=l:=⟨_,rfl⟩
    have hat:=K9 L k hk2
    rw[hl] at hat
    have c2:wr.cell? ⟨sb,1+k*5+2,none⟩=some (.string l.held):=by
     rw[show 1+k*5+2=1+5*k+2 by omega,hS.cell k 2 hk3 (by decide),hat]
     rfl
    have c4:wr.cell? ⟨sb,1+k*5+4,none⟩=some (.string l.out):=by
     rw[show 1+k*5+4=1+5*k+4 by omega,hS.cell k 4 hk3 (by decide),hat]
     rfl
    have hsz:=HA.out.2.2.1 l (by rw[<-hl];exact bI hk2)
    have hadd:∀W:World,(Op.stringOp .add l.out l.held).run Tryz.prog W= .ok (.string (l.out++l.held)) W:=fun W=>gB W _ _ (by omega) (by omega)
    have q1:=hS.set k 4 hk3 (by decide) (.string (l.out++l.held)) ⟨l.inn,l.nxt,l.held,l.n,l.out++l.held⟩ (by rw[hat];rfl)
    have hls:=hS.lt
    have ff:=fun i=>Row.frozen hS i
    have f4:=ff (1+k*5+4)
    have HQ1:=af q1
    have HAT:=af (ak hat hl)
    have HK:=af (ak hk2 hkw)
    clear hS hat hsz q1 ff hkw hl
    go_upto_region 9 with (fail)
    refine aK (fun W=>W=wr.drew) (fun i=> !([19].contains i)) [0,1,2,3,4,5,6,7,8,9,10,11,12,13,14,15,16,17,18,19] rfl (by kernel_rfl) rfl ?_
    repeat ((refine bq (v:= ?_) rfl rfl (fun _ _ _ h=>h) rfl (fun W hW=> ?_) ?_);rotate_left;(focus ((try dsimp only at hW);subst hW;(go_simp;first|done|with_reducible rfl)));(try simp only[Act.put,aj,av,au]))
    refine jm rfl rfl rfl (by kernel_rfl) ?_;intro K hK;go_simp
    refine hK.out _ _ (bF ?_)
    obtain⟨w2,hw2⟩:∃x:World,Hid (wr.setCell ⟨sb,1+k*5+4,none⟩ (.string (l.out++l.held))=x):=⟨_,af rfl⟩
    have hq:=HQ1.out
    rw[show 1+5*k+4=1+k*5+4 by omega,hw2.out] at hq
    obtain⟨hS2,hk2s⟩:=hq
    have hk4:k<((o8 L k).set k ⟨l.inn,l.nxt,l.held,l.n,l.out++l.held⟩).length:=by rw[iZ];exact hk3
    have c2':w2.cell? ⟨sb,1+k*5+2,none⟩=some (.string l.held):=by
     rw[show 1+k*5+2=1+5*k+2 by omega,hS2.cell k 2 hk4 (by decide),mU]
     rfl
    have c3':w2.cell? ⟨sb,1+k*5+3,none⟩=some (.int .i64 l.n):=by
     rw[show 1+k*5+3=1+5*k+3 by omega,hS2.cell k 3 hk4 (by decide),mU]
     rfl
    have g2:w2.frozen? ⟨sb,1+k*5+2,none⟩=false:=Row.frozen hS2 _
    have g3:w2.frozen? ⟨sb,1+k*5+3,none⟩=false:=Row.frozen hS2 _
    have hl2:=hS2.lt
    have q2:=hS2.set k 2 hk4 (by decide) (.string ⟨#[]⟩) ⟨l.inn,l.nxt,⟨#[]⟩,l.n,l.out++l.held⟩ (by rw[mU];rfl)
    have hk5:k<(((o8 L k).set k ⟨l.inn,l.nxt,l.held,l.n,l.out++l.held⟩).set k ⟨l.inn,l.nxt,⟨#[]⟩,l.n,l.out++l.held⟩).length:=by rw[iZ];exact hk4
    have q3:=q2.1.set k 3 hk5 (by decide) (.int .i64 0) l.sync (by rw[mU];rfl)
    rw[qK,qK,<-HAT.out.2,Jk L k hk2,show 1+5*k+2=1+k*5+2 by omega,show 1+5*k+3=1+k*5+3 by omega] at q3
    rw[show 1+5*k+2=1+k*5+2 by omega] at q2
    have HF:=af (ak q3.1 (((HK.out.2.trans hk2s (fun _ _ e=>e)).trans q2.2 (fun _ _ e=>e)).trans q3.2 (fun _ _ e=>e)))
    clear hS2 hk2s hk4 hk5 q2 q3 c2 c4 f4
    go_upto_region 10 with (fail)
    rw[hw2.out]
    refine aK (fun W=>sb<W.heap.size) (fun i=> !([8,13].contains i)) [0,1,2,3,4,5,6,7,9,10,8,11,12,13] rfl (by kernel_rfl) hl2 ?_
    repeat ((refine bq (v:= ?_) rfl rfl (fun _ _ _ h=>h) rfl (fun W hW=> ?_) ?_);rotate_left;(focus ((try dsimp only at hW);skip;(go_simp;first|done|with_reducible rfl)));(try simp only[Act.put,aj,av,au]))
    refine bP rfl rfl rfl ?_;intro K hK;go_simp
    refine hK.out _ _ (by simpa using hl2) ?_
    (try simp only[Act.put,aj,av,au])
    repeat ((refine bq (v:= ?_) rfl rfl (fun _ _ _ h=>h) rfl (fun W hW=> ?_) ?_);rotate_left;(focus ((try dsimp only at hW);skip;(go_simp;first|done|with_reducible rfl)));(try simp only[Act.put,aj,av,au]))
    refine bP rfl rfl rfl ?_;intro K hK;go_simp
    refine hK.out _ _ (by simpa using hl2) ?_
    refine bF ?_
    go_wp2_with fail
    go_roundw
    case rel=>exact⟨k+1,by omega,by go_num,HF.out.1,HF.out.2.as rfl rfl rfl rfl⟩
    case measure=>simp[intOf];omega
   ·obtain rfl:k=16:=by omega
    have e:o8 L 16=L.map jM.sync:=by unfold o8;rw[<-HA.out.2.1,bW,iB,fV]
    rw[e] at hS
    have HF:=af (ak hS hkw)
    clear hS hkw
    go_wp2_with fail
    go_ret
    exact⟨rfl,w1,H1.out.1,H1.out.2.1,by first|exact .inr ⟨rfl,HF.out.1,HF.out.2⟩|exact HF.out⟩
 ·have hz:(er==0)=false:=by simpa using he
  have H1:=af (ak hQ1 (ak hk1 he))
  clear hQ1 hk1 he
  go_wp2_with fail
  go_ret
  exact⟨rfl,w1,H1.out.1,H1.out.2.1,.inl ⟨H1.out.2.2,rfl⟩⟩
def yA (A:List Value)(d s:Value)(B:List Value):List Value:=A++(d::s:: .int .u32 0::B)
theorem Ic (A:List Value)(d s:Value)(B:List Value):(yA A d s B)[A.length]? =some d:=by unfold yA;rw[bA (aA _),jN];rfl
theorem PE (A:List Value)(d s:Value)(B:List Value):(yA A d s B)[A.length+1]? =some s:=by unfold yA;rw[bA (by omega),dz];rfl
theorem JN (A:List Value)(d s:Value)(B:List Value)(v:Value):(yA A d s B).set A.length v=yA A v s B:=by unfold yA;rw[dm _ _ (aA _),jN];rfl
theorem AX (A:List Value)(d s:Value)(B:List Value)(v:Value):(yA A d s B).set (A.length+1) v=yA A d v B:=by unfold yA;rw[dm _ _ (by omega),dz];rfl
theorem Ld (A B B':List Value)(b o T g:Nat)(cb:Array Value)(w:World)(M:Nat->Prop)(Q:World->Prop)(hMb:M b)(hQ:∀W W',Q W->Keep (· =b) W W'->Q W')(ho:A.length=o)(hr:Row w b T (yA A (.int .u32 0) (.int .i32 0) B))(hent:∀args w,(callFunc g args).run Tryz.prog w= .ok (.enter g args) w)
  (hf:∀w1,Row w1 b T (yA A (.int .u32 0) (.int .i32 1) B)->Keep (· =b) w w1->w1.heap.size=w.heap.size->Calls Tryz.prog g cb w1 fun e w'=>e= .returned (.tuple #[])/\Row w' b T (yA A (.int .u32 0) (.int .i32 1) B')/\Q w'/\Keep M w1 w'):
  Calls Tryz.prog 124 #[.pointer (some ⟨b,o,none⟩),.func (.func g) #[] cb] w fun e w'=>e= .returned (.tuple #[])/\Row w' b T (yA A (.int .u32 1) (.int .i32 0) B')/\Q w'/\Keep M w w':=by
 subst ho
 have hr1:=hr.setCell (A.length+1) (.int .i32 1)
 rw[AX] at hr1
 have h0:w.cell? ⟨b,A.length,none⟩=some (.int .u32 0):=(hr.cell _).trans (Ic ..)
 have h1:w.cell? ⟨b,A.length+1,none⟩=some (.int .i32 0):=(hr.cell _).trans (PE ..)
 have f0:w.frozen? ⟨b,A.length,none⟩=false:=hr.frozen _
 have f1:w.frozen? ⟨b,A.length+1,none⟩=false:=hr.frozen _
 have hl:=qg (P:=Tryz.prog) CW (by kernel_rfl) (by kernel_rfl) (by kernel_rfl) .u32 (by kernel_rfl) (w:=w.setCell ⟨b,A.length+1,none⟩ (.int .i32 1)) (a:=⟨b,A.length,none⟩) (x:=0) ((World.cell?_setCell_other _ ⟨b,A.length+1,none⟩ ⟨b,A.length,none⟩ _ (by simp)).trans h0)
 have hkS:=(Keep.refl (· =b) w).setCell (p:=⟨b,A.length+1,none⟩) (.inr rfl) (.int .i32 1)
 have hfl:=hf (w.setCell ⟨b,A.length+1,none⟩ (.int .i32 1)) hr1 hkS (by simp)
 have HFL:=af hfl;clear hfl
 have HK:=af (ak hkS (ak hMb hQ))
 have hnot:∀(x:Bool) (w:World),(Op.unary .not (.bool x)).run Tryz.prog w= .ok (.bool (!x)) w:=fun _ _=>rfl
 clear hr hr1 hf hkS hMb hQ
 go_enter_defers Tryz.func124,Tryz.ntmps124
 go_wp2_with (go_at_call 198;refine(lock_free ⟨b,A.length+1,none⟩ _ (by go_simp) (by go_simp)).mono ?_;rintro e w' ⟨rfl,rfl⟩)
 go_wp2_with (go_at_call 123;go_in)
 refine HFL.out.mono ?_
 rintro e w2 ⟨rfl,hr2,hq2,hk2⟩
 have h20:w2.cell? ⟨b,A.length,none⟩=some (.int .u32 0):=(hr2.cell _).trans (Ic ..)
 have f20:w2.frozen? ⟨b,A.length,none⟩=false:=hr2.frozen _
 have hr3:Row (w2.drew.setCell ⟨b,A.length,none⟩ (.int .u32 1)) b T (yA A (.int .u32 1) (.int .i32 1) B'):=by
  have:=Row.setCell (w:=w2.drew) hr2 A.length (.int .u32 1)
  rwa [JN] at this
 have h31:(w2.drew.setCell ⟨b,A.length,none⟩ (.int .u32 1)).cell? ⟨b,A.length+1,none⟩=some (.int .i32 1):=(hr3.cell _).trans (PE ..)
 have f31:(w2.drew.setCell ⟨b,A.length,none⟩ (.int .u32 1)).frozen? ⟨b,A.length+1,none⟩=false:=hr3.frozen _
 have hr4:=hr3.setCell (A.length+1) (.int .i32 0)
 rw[AX] at hr4
 have HR4:=af hr4
 have HK4:=af ((((Keep.refl (· =b) w2).drew).setCell (p:=⟨b,A.length,none⟩) (.inr rfl) (.int .u32 1)).setCell (p:=⟨b,A.length+1,none⟩) (.inr rfl) (.int .i32 0))
 have HK2:=af (ak hq2 hk2)
 clear hr2 hr3 hr4 hk2 hq2
 go_wp2_with fail
 refine dQ (f:=200) (args:=#[.pointer (some ⟨b,A.length,none⟩),.bool true]) (by simp) (by simp[go_sem]) ?_
 refine(qH ⟨b,A.length,none⟩ (.int .u32 0) .returning _ h20 f20).mono ?_
 rintro e u' w'' ⟨rfl,rfl,rfl⟩
 refine dQ (f:=199) (args:=#[.pointer (some ⟨b,A.length+1,none⟩)]) (by simp[settle]) (by simp[go_sem]) ?_
 refine(unlock_deferred ⟨b,A.length+1,none⟩ _ _ h31 f31).mono ?_
 rintro e u' w'' ⟨rfl,rfl,rfl⟩
 simp[Leaves,settle,results,Tryz.results124]
 exact⟨HR4.out,HK.out.2.2 _ _ HK2.out.1 HK4.out,(((HK.out.1.mono fun g _ e=>by rw[show g=b from e];exact HK.out.2.1).trans HK2.out.2 (fun _ _ e=>e)).trans HK4.out (fun g _ e=>by rw[show g=b from e];exact HK.out.2.1))⟩
theorem Rq (A B B':List Value)(b o T g:Nat)(cb:Array Value)(w:World)(M:Nat->Prop)(Q:World->Prop)(hMb:M b)(hQ:∀W W',Q W->Keep (· =b) W W'->Q W')(ho:A.length=o)(hr:Row w b T (yA A (.int .u32 0) (.int .i32 0) B))(hent:∀args w,(callFunc g args).run Tryz.prog w= .ok (.enter g args) w)
  (hf:∀w1,Row w1 b T (yA A (.int .u32 0) (.int .i32 1) B)->Keep (· =b) w w1->w1.heap.size=w.heap.size->Calls Tryz.prog g cb w1 fun e w'=>e= .returned (.tuple #[])/\Row w' b T (yA A (.int .u32 0) (.int .i32 1) B')/\Q w'/\Keep M w1 w'):
  Calls Tryz.prog 68 #[.pointer (some ⟨b,o,none⟩),.func (.func g) #[] cb] w fun e w'=>e= .returned (.tuple #[])/\Row w' b T (yA A (.int .u32 1) (.int .i32 0) B')/\Q w'/\Keep M w w':=by
 subst ho
 have hnot:∀(x:Bool) (w:World),(Op.unary .not (.bool x)).run Tryz.prog w= .ok (.bool (!x)) w:=fun _ _=>rfl
 have h0:w.cell? ⟨b,A.length,none⟩=some (.int .u32 0):=(hr.cell _).trans (Ic ..)
 have hl:=qg (P:=Tryz.prog) CW (by kernel_rfl) (by kernel_rfl) (by kernel_rfl) .u32 (by kernel_rfl) h0
 have HS:=af (Ld A B B' b A.length T g cb w M Q hMb hQ rfl hr hent hf)
 clear hr hf hMb hQ
 go_enter Tryz.func68,Tryz.ntmps68
 go_wp2_with (first|(go_at_call 124;refine HS.out.mono ?_;rintro e w' ⟨rfl,hr'⟩)|(go_at_call 123;go_in))
 go_end0
 exact⟨rfl,hr'⟩
theorem OL (A B:List Value)(b o T g:Nat)(cb:Array Value)(w:World)(ho:A.length=o)(hr:Row w b T (yA A (.int .u32 1) (.int .i32 0) B)):
  Calls Tryz.prog 68 #[.pointer (some ⟨b,o,none⟩),.func (.func g) #[] cb] w fun e w'=>e= .returned (.tuple #[])/\w'=w:=by
 subst ho
 have hnot:∀(x:Bool) (w:World),(Op.unary .not (.bool x)).run Tryz.prog w= .ok (.bool (!x)) w:=fun _ _=>rfl
 have h0:w.cell? ⟨b,A.length,none⟩=some (.int .u32 1):=(hr.cell _).trans (Ic ..)
 have hl:=qg (P:=Tryz.prog) CW (by kernel_rfl) (by kernel_rfl) (by kernel_rfl) .u32 (by kernel_rfl) h0
 clear hr
 go_enter Tryz.func68,Tryz.ntmps68
 go_wp2_with (go_at_call 123;go_in)
 go_end0
 exact⟨rfl,rfl⟩
def CO (w:World)(kb:Nat)(c:Int):Prop:=∃cur:List Value,cur.length=600/\cur[201]? =some (.int .i64 c)/\Row w kb 103 cur
theorem CO.keep {M:Nat->Prop}{w w':World}{kb:Nat}{c:Int}(h:CO w kb c)(hk:Keep M w w')(hM:¬M kb):CO w' kb c:=h.imp fun _ q=>⟨q.1,q.2.1,Row.keep q.2.2 hk hM⟩
theorem Ml:(Tryz.prog.info? 103).map (fun i=>(i.zero,i.size,i.bytes))=some (some (.agg #[.int .i64 0]),1,8):=by kernel_rfl
def Fa:Array Value:=madeCells #[.int .i64 0] 600
theorem KG:Fa.toList.length=600:=by unfold Fa madeCells;simp
theorem Nw:Fa.toList[201]? =some (.int .i64 0):=by kernel_rfl
theorem Om (w:World):(Instr.makeSlice 97 (.int .i64 600) (.int .i64 600)).run Tryz.prog w= .ok (.slice (some ⟨w.heap.size,0,none⟩) 600 600) (w.alloc (.cells Fa 103)):=by
 obtain⟨i,hi,hz,hsize,hby⟩:=zV Ml
 have:=run_make (P:=Tryz.prog) (w:=w) 97 103 i _ Tryz.underlying97 hi hz .i64 .i64 600 600 (by omega) (by omega) (by rw[hby];omega) (by omega)
 rw[this,hsize]
 rfl
theorem uG (v:Value)(L:List jM)(d s cnt:Value):G6 v L d s cnt=yA (v::lD L) d s [cnt]:=by simp[G6,yA]
theorem BP (v:Value)(L:List jM)(d s cnt:Value)(hL:L.length=16):(G6 v L d s cnt)[84]? =some cnt:=by
 unfold G6
 rw[bT,bA (by rw[lC];omega),lC,hL]
 rfl
theorem La (v:Value)(L:List jM)(d s cnt x:Value)(hL:L.length=16):(G6 v L d s cnt).set 84 x=G6 v L d s x:=by
 unfold G6
 rw[au,dm _ _ (by rw[lC];omega),lC,hL]
 rfl
theorem FU (xb sb:Nat)(v:Value)(L:List jM)(d s:Value)(w:World)(hx:w.heap[xb]? =some (.cells #[.pointer (some ⟨sb,0,none⟩)] 25 (0,0)))(h:iE w sb v L d s (.slice none 0 0))(hL:L.length=16)(_hne:xb≠sb):
  Calls Tryz.prog 69 #[.pointer (some ⟨xb,0,none⟩)] w fun e w'=>e= .returned (.tuple #[])/\iE w' sb v L d s (.slice (some ⟨w.heap.size,0,none⟩) 600 600)/\CO w' w.heap.size 0/\Keep (· =sb) w w':=by
 have hmk:=Om
 have c0:w.cell? ⟨xb,0,none⟩=some (.pointer (some ⟨sb,0,none⟩)):=by simp[World.cell?,hx]
 have lx:=(ah.1 hx).1
 have ls:=h.lt
 have e84:w.cell? ⟨sb,84,none⟩=some (.slice none 0 0):=(Row.cell h 84).trans (BP v L d s _ hL)
 have f84:w.frozen? ⟨sb,84,none⟩=false:=Row.frozen h _
 have q:=Row.setCell h 84 (.slice (some ⟨w.heap.size,0,none⟩) 600 600)
 rw[La v L d s _ _ hL] at q
 have z:(w.setCell ⟨sb,84,none⟩ (.slice (some ⟨w.heap.size,0,none⟩) 600 600)).heap.size=w.heap.size:=by simp
 have hb3:=aC (w.setCell ⟨sb,84,none⟩ (.slice (some ⟨w.heap.size,0,none⟩) 600 600)) (.cells Fa 103)
 have hn3:=aF (w.setCell ⟨sb,84,none⟩ (.slice (some ⟨w.heap.size,0,none⟩) 600 600)) (.cells Fa 103)
 rw[z] at hn3
 have hkS:Keep (· =sb) w (w.setCell ⟨sb,84,none⟩ (.slice (some ⟨w.heap.size,0,none⟩) 600 600)):=(Keep.refl (· =sb) w).setCell (p:=⟨sb,84,none⟩) (.inr rfl) _
 have HF:=af (ak q (ak hb3 (ak hn3 hkS)))
 clear q z hb3 hn3 hkS h hL hx
 go_enter Tryz.func69,Tryz.ntmps69
 go_upto_region 0 with (fail)
 refine aK (fun W=>W.cell? ⟨xb,0,none⟩=some (.pointer (some ⟨sb,0,none⟩))/\xb<W.heap.size/\sb<W.heap.size) (fun i=> !([1,4].contains i)) [0,1,2,3,4] rfl (by kernel_rfl) ⟨c0,lx,ls⟩ ?_
 repeat ((refine bq (v:= ?_) rfl rfl (fun _ _ _ h=>h) rfl (fun W hW=> ?_) ?_);rotate_left;(focus ((try dsimp only at hW);have p0:=hW.1;have p1:=hW.2.1;have p2:=hW.2.2;(go_simp;first|done|with_reducible rfl)));(try simp only[Act.put,aj,av,au]))
 refine bP rfl rfl rfl ?_;intro K hK;go_simp
 have hb1:=aC w (.cells Fa 103)
 refine hK.out _ _ ⟨(hb1.cell (p:=⟨xb,0,none⟩) lx).trans c0,ax lx hb1.size,ax ls hb1.size⟩ ?_
 (try simp only[Act.put,aj,av,au])
 repeat ((refine bq (v:= ?_) rfl rfl (fun _ _ _ h=>h) rfl (fun W hW=> ?_) ?_);rotate_left;(focus ((try dsimp only at hW);have p0:=hW.1;have p1:=hW.2.1;have p2:=hW.2.2;(go_simp;first|done|with_reducible rfl)));(try simp only[Act.put,aj,av,au]))
 refine jm rfl rfl rfl (by kernel_rfl) ?_;intro K hK;go_simp
 refine hK.out _ _ (bF ?_)
 go_end0
 have hkb:=Keep.of_below HF.out.2.1 (fun _=>False)
 refine⟨rfl,?_,⟨Fa.toList,KG,Nw,HF.out.2.2.1⟩,(HF.out.2.2.2.trans hkb (fun _ _ e=>e.elim)).as rfl rfl rfl rfl⟩
 have hf:=iE.keep (w:=w.setCell ⟨sb,84,none⟩ (.slice (some ⟨w.heap.size,0,none⟩) 600 600)) HF.out.1 (M:=fun _=>False) hkb (fun e=>e)
 exact hf
theorem Di (sb:Nat)(v:Value)(L:List jM)(w:World)(h:iE w sb v L (.int .u32 0) (.int .i32 0) (.slice none 0 0))(hL:L.length=16):
  Calls Tryz.prog 30 #[.pointer (some ⟨sb,0,none⟩)] w fun e w'=>∃kb,e= .returned (.slice (some ⟨kb,0,none⟩) 600 600)/\iE w' sb v L (.int .u32 1) (.int .i32 0) (.slice (some ⟨kb,0,none⟩) 600 600)/\CO w' kb 0/\w.heap.size<=kb/\Keep (· =sb) w w':=by
 have hmf:∀(fn:Fn) (first cap:Array Value) (w:World),(Instr.makeFunc fn first cap).run Tryz.prog w= .ok (.func fn first cap) w:=fun _ _ _ _=>rfl
 have hb1:=aC w (.cells #[.pointer (some ⟨sb,0,none⟩)] 25)
 have hn1:=aF w (.cells #[.pointer (some ⟨sb,0,none⟩)] 25)
 obtain⟨w1,hw1⟩:∃x:World,Hid (w.alloc (.cells #[.pointer (some ⟨sb,0,none⟩)] 25)=x):=⟨_,af rfl⟩
 rw[hw1.out] at hb1 hn1
 obtain⟨xb,hxb⟩:∃x:Nat,Hid (w.heap.size=x):=⟨_,af rfl⟩
 rw[hxb.out] at hn1
 have h1:=h.keep (Keep.of_below hb1 (fun _=>False)) id
 have hlt:=h.lt
 have hne:xb≠sb:=by have:=hxb.out;omega
 have hlx:=(ah.1 hn1).1
 have h1':Row w1 sb 99 (yA (v::lD L) (.int .u32 0) (.int .i32 0) [.slice none 0 0]):=by rw[<-uG];exact h1
 have hd:=Rq (v::lD L) [.slice none 0 0] [.slice (some ⟨w1.heap.size,0,none⟩) 600 600] sb 81 99 69 #[.pointer (some ⟨xb,0,none⟩)] w1 (· =sb) (fun W=>CO W w1.heap.size 0) rfl (fun W W' q hk=>q.keep hk (fun e=>by have e:w1.heap.size=sb:=e;have:=h1.lt;omega)) (by rw[aU,lC,hL]) h1' (fun _ _=>by kernel_rfl) (fun w2 hr hk hz=>by
   have hx2:=(hk.block xb hlx hne).trans hn1
   have:=FU xb sb v L (.int .u32 0) (.int .i32 1) w2 hx2 (by unfold iE;rw[uG];exact hr) hL hne
   rw[hz] at this
   refine this.mono ?_
   rintro e w' ⟨rfl,q1,q2,q3⟩
   exact⟨rfl,by unfold iE at q1;rw[uG] at q1;exact q1,q2,q3⟩)
 have HD:=af hd
 have HA:=af (ak hb1 hne)
 have HN:=af hn1
 clear hd h1 h1' hn1 hb1 h hne
 have lx:=hlx
 go_enter Tryz.func30,Tryz.ntmps30
 go_upto_region 1 with (fail)
 rw[hw1.out,hxb.out]
 have c0:w1.cell? ⟨xb,0,none⟩=some (.pointer (some ⟨sb,0,none⟩)):=by simp[World.cell?,HN.out]
 have ls:sb<w1.heap.size:=ax hlt HA.out.1.size
 go_wp2_with (first
  |(go_at_call 68;go_must (refine HD.out.mono ?_;rintro e w2 ⟨rfl,hr2,hK2,hk2⟩;refine Stop.of ?_)))
 refine Stop.on ?_
 have hS2:iE w2 sb v L (.int .u32 1) (.int .i32 0) (.slice (some ⟨w1.heap.size,0,none⟩) 600 600):=by unfold iE;rw[uG];exact hr2
 have hx2:=(hk2.block xb hlx HA.out.2).trans HN.out
 have c2:w2.cell? ⟨xb,0,none⟩=some (.pointer (some ⟨sb,0,none⟩)):=by simp[World.cell?,hx2]
 have lx2:=(ah.1 hx2).1
 have e84:w2.cell? ⟨sb,84,none⟩=some (.slice (some ⟨w1.heap.size,0,none⟩) 600 600):=(Row.cell hS2 84).trans (BP v L _ _ _ hL)
 have ls2:=hS2.lt
 have HF:=af (ak hS2 (ak hK2 hk2))
 obtain⟨kb,hkb⟩:∃x:Nat,Hid (w1.heap.size=x):=⟨_,af rfl⟩
 rw[hkb.out] at e84 HF
 clear hS2 hK2 hk2 hr2 hx2 c0 ls
 go_wp2_with fail
 go_ret
 exact⟨kb,rfl,HF.out.1,HF.out.2.1,by have:=HA.out.1.size;have:=hkb.out;omega,(Keep.of_below HA.out.1 (· =sb)).trans HF.out.2.2 (fun _ _ e=>e)⟩
theorem FT (sb kb:Nat)(v:Value)(L:List jM)(w:World)(h:iE w sb v L (.int .u32 1) (.int .i32 0) (.slice (some ⟨kb,0,none⟩) 600 600))(hL:L.length=16):
  Calls Tryz.prog 30 #[.pointer (some ⟨sb,0,none⟩)] w fun e w'=>e= .returned (.slice (some ⟨kb,0,none⟩) 600 600)/\Below w.heap.size w w':=by
 have hmf:∀(fn:Fn) (first cap:Array Value) (w:World),(Instr.makeFunc fn first cap).run Tryz.prog w= .ok (.func fn first cap) w:=fun _ _ _ _=>rfl
 have hb1:=aC w (.cells #[.pointer (some ⟨sb,0,none⟩)] 25)
 have hn1:=aF w (.cells #[.pointer (some ⟨sb,0,none⟩)] 25)
 obtain⟨w1,hw1⟩:∃x:World,Hid (w.alloc (.cells #[.pointer (some ⟨sb,0,none⟩)] 25)=x):=⟨_,af rfl⟩
 rw[hw1.out] at hb1 hn1
 obtain⟨xb,hxb⟩:∃x:Nat,Hid (w.heap.size=x):=⟨_,af rfl⟩
 rw[hxb.out] at hn1
 have h1:=h.keep (Keep.of_below hb1 (fun _=>False)) id
 have h1':Row w1 sb 99 (yA (v::lD L) (.int .u32 1) (.int .i32 0) [.slice (some ⟨kb,0,none⟩) 600 600]):=by rw[<-uG];exact h1
 have HD:=af (OL (v::lD L) _ sb 81 99 69 #[.pointer (some ⟨xb,0,none⟩)] w1 (by rw[aU,lC,hL]) h1')
 have c0:w1.cell? ⟨xb,0,none⟩=some (.pointer (some ⟨sb,0,none⟩)):=by simp[World.cell?,hn1]
 have lx:=(ah.1 hn1).1
 have e84:w1.cell? ⟨sb,84,none⟩=some (.slice (some ⟨kb,0,none⟩) 600 600):=(Row.cell h1 84).trans (BP v L _ _ _ hL)
 have ls:=h1.lt
 have HB:=af hb1
 clear hb1 hn1 h1 h1' h
 go_enter Tryz.func30,Tryz.ntmps30
 go_upto_region 1 with (fail)
 rw[hw1.out,hxb.out]
 go_wp2_with (first
  |(go_at_call 68;go_must (refine HD.out.mono ?_;rintro e w2 ⟨rfl,hw⟩;subst w2)))
 go_ret
 exact⟨rfl,HB.out⟩
end Go.Proofs.YtpmbddooibgnaaaGreatDoor
namespace Go.Proofs.YtpmbddooibgnaaaGreatDoor
open Go.RowKit
theorem Mj {α:Type}(cur xs news:List α)(i n cap k:Nat)(hi:i<n)(hc:n+1<=cap)(hl:cur.length=cap*k)(hx:cur.take (n*k)=xs)(hnl:news.length=k):
  (splice cur ((i+1)*k) (xs.drop (i*k))).length=cap*k/\(splice (splice cur ((i+1)*k) (xs.drop (i*k))) (i*k) news).length=cap*k/\
  (splice (splice cur ((i+1)*k) (xs.drop (i*k))) (i*k) news).take ((n+1)*k)=xs.take (i*k)++news++xs.drop (i*k):=by
 have hik:i*k<=n*k:=bV _ (iP hi)
 have hik1:(i+1)*k<=n*k:=bV _ hi
 have hnk1:(n+1)*k<=cap*k:=bV _ hc
 rw[dU,mh] at hik1 hnk1
 have hxl:xs.length=n*k:=by rw[<-hx,aL];omega
 have e2:(xs.drop (i*k)).length=n*k - i*k:=by rw[bB,hxl]
 have hl1:(splice cur ((i+1)*k) (xs.drop (i*k))).length=cap*k:=by rw[PX _ _ _ (by rw[e2,dU,mh];omega)];exact hl
 have hl2:(splice (splice cur ((i+1)*k) (xs.drop (i*k))) (i*k) news).length=cap*k:=by rw[PX _ _ _ (by rw[hl1];omega)];exact hl1
 refine⟨hl1,hl2,?_⟩
 have e1:(cur.take (i*k)).length=i*k:=by rw[aL];omega
 have e3:xs.take (i*k)=cur.take (i*k):=by rw[<-hx,lU,dh (by omega)]
 have e4:splice cur ((i+1)*k) (xs.drop (i*k))=cur.take (i*k)++((cur.drop (i*k)).take k++(xs.drop (i*k)++cur.drop ((i+1)*k+(xs.drop (i*k)).length))):=by
  unfold splice
  rw[dU,mh,List.take_add,bC]
 rw[e4,sJ _ _ _ _ _ e1 (by rw[aL,bB,hnl];omega),e3,<-bC,<-bC,
  bL (by simp only[ay,e1,e2,hnl,dU,mh];omega),aI (by simp only[ay,e1,e2,hnl,dU,mh];omega)]
theorem JV {α:Type}(cur rest xs news:List α)(i n c k:Nat)(hi:i<n)(hc:n+1<=c)(hx:cur.take (n*k)=xs)(hcl:n*k<=cur.length)(hl:(cur.take (i*k)++rest).length=c*k)(hnl:news.length=k):
  (splice (cur.take (i*k)++rest) (i*k) news).length=c*k/\(splice (splice (cur.take (i*k)++rest) (i*k) news) ((i+1)*k) (xs.drop (i*k))).length=c*k/\
  (splice (splice (cur.take (i*k)++rest) (i*k) news) ((i+1)*k) (xs.drop (i*k))).take ((n+1)*k)=xs.take (i*k)++news++xs.drop (i*k):=by
 have hik:i*k<=n*k:=bV _ (iP hi)
 have hik1:(i+1)*k<=n*k:=bV _ hi
 have hnk1:(n+1)*k<=c*k:=bV _ hc
 rw[dU,mh] at hik1 hnk1
 have hxl:xs.length=n*k:=by rw[<-hx,aL];omega
 have e2:(xs.drop (i*k)).length=n*k - i*k:=by rw[bB,hxl]
 have e1:(cur.take (i*k)).length=i*k:=by rw[aL];omega
 have e3:xs.take (i*k)=cur.take (i*k):=by rw[<-hx,lU,dh (by omega)]
 have hrl:rest.length=c*k - i*k:=by rw[ay,e1] at hl;omega
 have hl1:(splice (cur.take (i*k)++rest) (i*k) news).length=c*k:=by rw[PX _ _ _ (by rw[hl];omega)];exact hl
 have hl2:(splice (splice (cur.take (i*k)++rest) (i*k) news) ((i+1)*k) (xs.drop (i*k))).length=c*k:=by rw[PX _ _ _ (by rw[hl1,e2,dU,mh];omega)];exact hl1
 refine⟨hl1,hl2,?_⟩
 have e4:splice (cur.take (i*k)++rest) (i*k) news=(cur.take (i*k)++news)++((rest.drop k).take (n*k - i*k)++(rest.drop k).drop (n*k - i*k)):=by
  rw[bG]
  have:=sJ (cur.take (i*k)) (rest.take k) (rest.drop k) news (i*k) e1 (by rw[aL,hnl];omega)
  rw[bG] at this
  rw[this,bC]
 rw[e4,sJ _ _ _ _ _ (by simp only[ay,e1,hnl,dU,mh]) (by rw[e2,aL,bB];omega),e3,<-bC,
  bL (by simp only[ay,e1,e2,hnl,dU,mh];omega),aI (by simp only[ay,e1,e2,hnl,dU,mh];omega)]
theorem Gt (v:Value)(n:Nat)(xs:List Value)(vb:Nat)(news:List Value)(w:World)(S:Nat->Prop)(B:Nat)(hS:∀g,S g->g<w.heap.size)(hB:B<=w.heap.size)(h:aQ w S B 188 2 v n xs)(hv:Row w vb 188 news)(hnl:news.length=2)(hone:∀u∈news,u.oneCell'=true)(hn:n<=1000000):
  Calls Tryz.prog 546 #[v,.int .i64 n,.slice (some ⟨vb,0,none⟩) 1 1] w fun e w'=>∃v',e= .returned v'/\aQ w' S B 188 2 v' (n+1) (xs++news)/\Keep (fun g=>v.ownBlock=some g) w w'/\Below B w w':=by
 have hsrc:Src Tryz.prog 2 184 (.slice (some ⟨vb,0,none⟩) 1 1) 1 news w:=by
  have:=(hv.dL (S:=d9) (k:=2) (off:=0) 1 1 (by omega) id (aA _) (by simp[maxLen])).src eY
  rw[fE,aI (by omega)] at this
  exact this hone
 have hh:=h
 obtain⟨ao,c,rfl,h1,h2,h3,h4⟩:=h.dL.form
 have k1:n - n=0:=by omega
 have Hone:=af hone;clear hone
 have Hnl:=af hnl;clear hnl
 go_enter Tryz.func546,Tryz.ntmps546
 go_wp2_with (at_builtin;(refine dS rfl (.tmp 23) (.tmp 24) 184 184 rfl S B 188 2 32 _ eY lM rfl (.slice ao n c) _ _ rfl hh (.slice (some ⟨vb,0,none⟩) 1 1) _ _ rfl hsrc hS hB ?_ ?_ ?_);(focus (unfold maxLen;omega));(focus omega);intro ao1 c1 w1 hown1 hk1 hb1 hd1)
 all_goals
  go_ret
  exact⟨_,rfl,hown1,hk1.mono (fun _ _ h=>by cases ao<;>exact h),hb1⟩
theorem Gs (g cap n i:Nat)(xs:List Value)(vb:Nat)(news:List Value)(w:World)(S:Nat->Prop)(B:Nat)(h:aQ w S B 188 2 (.slice (some ⟨g,0,none⟩) n cap) n xs)(hx1:∀u∈xs,u.oneCell'=true)(hv:Row w vb 188 news)(hvg:vb≠g)(hnl:news.length=2)(hone:∀u∈news,u.oneCell'=true)(hn:n<=1000000)(hi:i<n)(hroom:n+1<=cap):
  Calls Tryz.prog 546 #[.slice (some ⟨g,0,none⟩) n cap,.int .i64 i,.slice (some ⟨vb,0,none⟩) 1 1] w fun e w'=>∃v',e= .returned v'/\aQ w' S B 188 2 v' (n+1) (xs.take (i*2)++news++xs.drop (i*2))/\Keep (fun k=>k=g) w w':=by
 obtain⟨cur,hr,hl,hx,hBg,hSg,hc,hc2⟩:=h.row
 have hc3:cap<=9223372036854775807:=by simpa [maxLen] using hc2
 have hxl:=h.1.1
 clear h
 have hov:(callFunc 566 #[.slice (some ⟨vb,0,none⟩) 1 1,.slice (some ⟨g,(i+1)*2,none⟩) (n - i) (cap - (i+1))]).run Tryz.prog w= .ok (.value (.bool false)) w:=by
  rw[Pj Tryz.func566 (by kernel_rfl) (by kernel_rfl) (by kernel_rfl) (e:=Extern.SlicesOverlaps.overlaps #[184,184] #[4]) (by kernel_rfl)]
  rw[Lib.run_overlaps_apart w 184 4 188 eY 2 (fun w=>by kernel_rfl) ⟨vb,0,none⟩ ⟨g,(i+1)*2,none⟩ 1 1 (n - i) (cap - (i+1)) hvg 188 188 2 (cap*2)
   (by unfold Row at hv;simp[World.shape?,hv,hnl]) (by unfold Row at hr;simp[World.shape?,hr,hl]) (by omega) (hv.frozen 0) (hv.frozen 2)]
  rfl
 have k1:(0:Int)<=(i:Int):=by omega
 have k2:(i:Int)<=(cap:Int):=by omega
 have k3:(0:Int)<=(i:Int)+1:=by omega
 have k4:(i:Int)+1<=(n:Int)+1:=by omega
 have k5:((i:Int)+1).toNat=i+1:=by omega
 have k6:((n:Int)+1).toNat=n+1:=by omega
 have k7:(n:Int)+1<=(cap:Int):=by omega
 have k8:((i:Int)==(n:Int))=false:=by rw[eO];omega
 have k9:IntKind.i64.wrap ((i:Int)+1)=(i:Int)+1:=aS _ (by omega)
 have k10:¬cap=i:=by omega
 have k11:(i:Int)<=(n:Int)+1:=by omega
 have k12:¬cap=i+1:=by omega
 have hsrc1:aW w.drew d9 2 (.slice (some ⟨g,i*2,none⟩) (n+1 - i) (cap - i)) (n+1 - i) ((cur.drop (i*2)).take ((n+1 - i)*2)):=Row.dL (w:=w.drew) hr _ _ (by omega) id (by omega) (by unfold maxLen;omega)
 have hcs1:((cur.drop (i*2)).take ((n+1 - i)*2)).take ((n - i)*2)=xs.drop (i*2):=by
  rw[lU,dh (by omega),<-hx,xU];congr 1;omega
 have hsrc2:aW w d9 2 (.slice (some ⟨vb,0,none⟩) 1 1) 1 news:=by
  have:=hv.dL (S:=d9) (k:=2) (off:=0) 1 1 (by omega) id (aA _) (by simp[maxLen])
  rwa [fE,aI (by omega)] at this
 have Hl:=af hl;clear hl
 have Hx:=af hx;clear hx
 have Hxl:=af hxl;clear hxl
 have Hnl:=af hnl;clear hnl
 have Hcs1:=af hcs1;clear hcs1
 go_enter Tryz.func546,Tryz.ntmps546
 go_wp2
 go_region_held3 (fun _=>True) (trivial) (first|((refine Iz rfl (lm (.tmp 73) (.tmp 76) 184 184 rfl 188 2 32 _ eY lM g ((i+1)*2) 188 (n - i) (n - i) (cap - (i+1)) (some ⟨g,(i+1)*2,none⟩) cur ?_ hr (.slice (some ⟨g,i*2,none⟩) (n+1 - i) (cap - i)) ?_ (n+1 - i) (xs.drop (i*2)) rfl ?_ ?_ ?_ (fun _=>rfl) ?_ ?_ ?_));(focus (first|rfl|(show Value.slice _ _ _=_;congr 1;omega)));(focus (first|rfl|(show Value.slice _ _ _=_;congr 1<;>omega)));(focus (exact(Nat.min_eq_right (by omega)).symm));(focus (rw[bB,Hxl.out];omega));(focus (rw[<-Hcs1.out];exact hsrc1.first (n - i) (by omega)));(focus (rw[bB,Hxl.out,Hl.out];omega));(focus (exact fun u hu=>hx1 u (tQ hu)));intro w1 hr1 hk1))
 have hnews:(Builtin.firstCells 2 1 (.slice (some ⟨vb,0,none⟩) 1 1)).run Tryz.prog w1= .ok news.toArray w1:=by
  have h1:aW w1 d9 2 (.slice (some ⟨vb,0,none⟩) 1 1) 1 news:=hsrc2.keep fun g' hg' hl _=>by cases hg';exact⟨hk1.block vb hl hvg,id⟩
  have:=h1.first (P:=Tryz.prog) 1 (aA _)
  rwa [aI (by have:=Hnl.out;omega)] at this
 obtain⟨m1,m2,m3⟩:=Mj cur xs news i n cap 2 hi hroom Hl.out Hx.out Hnl.out
 have M1:=af m1;clear m1
 have M2:=af m2;clear m2
 have M3:=af m3;clear m3
 go_wp2_with (first|((refine bU rfl ?_);intro K hK;(refine lm (.tmp 80) (.tmp 81) 184 184 rfl 188 2 32 _ eY lM g (i*2) 188 1 (n+1 - i) (cap - i) (some ⟨g,i*2,none⟩) _ rfl hr1 (.slice (some ⟨vb,0,none⟩) 1 1) rfl 1 news rfl ?_ ?_ hnews (fun _=>rfl) ?_ hone ?_);(focus (exact(dh (by omega)).symm));(focus (rw[Hnl.out]));(focus (rw[M1.out,Hnl.out];omega));intro w2 hr2 hk2;refine hK _ _ ?_))
 go_ret
 refine⟨_,rfl,?_,((Keep.refl (· =g) w).drew.trans hk1 (fun _ _ h=>h)).trans hk2 (fun _ _ h=>h)⟩
 rw[<-M3.out]
 exact Row.own hr2 (n+1) M2.out hBg hSg hroom hc2
end Go.Proofs.YtpmbddooibgnaaaGreatDoor
