/- parts -/
import Derived.Test.YtfgpefcphnpabaaGreatJ24
namespace Go.Proofs.YtfgpefcphnpabaaGreat
open Go.RowKit
set_option maxRecDepth 100000
set_option maxHeartbeats 8000000
set_option linter.all false
theorem Fp (F F0:Nat→Prop) (v r t rt N R u:Nat) (kv0 kv:List Pr) (cms:List (List Pr)) (ch:Bool) (room log k n:Int) (key value:ByteArray) (w:World) (hJ:JE F F0 v r t rt N R u cms kv0 kv w) (hk:0≤k∧k≤255):
  Calls Tryz.prog 28 #[.agg #[.pointer (some ⟨t,0,none⟩),.pointer (some ⟨rt,0,none⟩),.int .i64 room,.int .i64 log,.int .i64 12,.bool ch],.agg #[.int .u8 k,.string key,.string value,.int .i64 n]] w fun e w'=>e= .returned (.bool true)∧Below w.heap.size w w':=by
 have hb1:=aI w (.cells #[.pointer (some ⟨t,0,none⟩),.pointer (some ⟨rt,0,none⟩),.int .i64 room,.int .i64 log,.int .i64 12,.bool ch] 60)
 have hn1:=aS w (.cells #[.pointer (some ⟨t,0,none⟩),.pointer (some ⟨rt,0,none⟩),.int .i64 room,.int .i64 log,.int .i64 12,.bool ch] 60)
 have hz1:(w.alloc (.cells #[.pointer (some ⟨t,0,none⟩),.pointer (some ⟨rt,0,none⟩),.int .i64 room,.int .i64 log,.int .i64 12,.bool ch] 60)).heap.size=w.heap.size+1:=by simp
 have hb2:=aI (w.alloc (.cells #[.pointer (some ⟨t,0,none⟩),.pointer (some ⟨rt,0,none⟩),.int .i64 room,.int .i64 log,.int .i64 12,.bool ch] 60)) (.cells #[.int .u8 k,.string key,.string value,.int .i64 n] 24)
 have hn2:=aS (w.alloc (.cells #[.pointer (some ⟨t,0,none⟩),.pointer (some ⟨rt,0,none⟩),.int .i64 room,.int .i64 log,.int .i64 12,.bool ch] 60)) (.cells #[.int .u8 k,.string key,.string value,.int .i64 n] 24)
 have hs1:=(hb2.block _ (by rw[hz1];omega)).trans hn1
 rw[hz1] at hn2
 have hb12:=hb1.trans (hb2.mono hb1.size)
 obtain⟨w2,hw2⟩:∃w2:World,Hid (((w.alloc (.cells #[.pointer (some ⟨t,0,none⟩),.pointer (some ⟨rt,0,none⟩),.int .i64 room,.int .i64 log,.int .i64 12,.bool ch] 60)).alloc (.cells #[.int .u8 k,.string key,.string value,.int .i64 n] 24))=w2):=⟨_,af rfl⟩
 rw[hw2.out] at hn2 hs1 hb12
 obtain⟨sb,hsb⟩:∃sb:Nat,Hid (w.heap.size=sb):=⟨_,af rfl⟩
 rw[hsb.out] at hn2 hs1
 have hT2:qE ⟨iG F w w2,w2⟩ v t N R cms.length u kv0 w2:=hJ.1.next (M:=fun _=>False) (Keep.of_below hb12 _) (fun _ e=>e.elim)
 have hR2:=hJ.2.prog (Keep.of_below hb12 (fun g=>¬F0 g))
 have HB:=af hb12
 have HCL:=af (show ∀W:World,Below w2.heap.size w2 W→W.cell? ⟨sb,0,none⟩=some (.pointer (some ⟨t,0,none⟩))∧W.cell? ⟨sb,1,none⟩=some (.pointer (some ⟨rt,0,none⟩))∧W.cell? ⟨sb,4,none⟩=some (.int .i64 12)∧W.cell? ⟨sb+1,0,none⟩=some (.int .u8 k)∧W.cell? ⟨sb+1,1,none⟩=some (.string key)∧W.cell? ⟨sb+1,3,none⟩=some (.int .i64 n)∧sb<W.heap.size∧sb+1<W.heap.size from fun W hW=>by
  have l1:=(ah.1 hs1).1
  have l2:=(ah.1 hn2).1
  have e1:=(hW.block sb l1).trans hs1
  have e2:=(hW.block (sb+1) l2).trans hn2
  exact⟨by simp[World.cell?,e1],by simp[World.cell?,e1],by simp[World.cell?,e1],by simp[World.cell?,e2],by simp[World.cell?,e2],by simp[World.cell?,e2],ak l1 hW.size,ak l2 hW.size⟩)
 have HJ:=af (ax hT2 hR2)
 clear hb1 hn1 hz1 hb2 hn2 hs1 hb12 hT2 hR2 hJ
 obtain⟨a0,a1,a4,o0,o1,o3,l1,l2⟩:=HCL.out w2 (aR _ _)
 go_enter Tryz.func28,Tryz.ntmps28
 go_upto_region 1 with (fail)
 rw[hw2.out,hsb.out]
 have hu:=fun key=>HJ.out.1.usable key
 by_cases hkk:k%8=2
 ·have hG:=I5 (some ⟨t,0,none⟩) key 12 w2 (hu key) (by decide)
  obtain⟨es,hes⟩:∃es,es=ByteArray.empty:=⟨_,rfl⟩
  rw[←hes] at hG
  have hes0:es.size=0:=by rw[hes];rfl
  obtain⟨z1,z2⟩:=(xB es).1 hes0
  have hmx:max (12:Int) 1=12:=by omega
  have hrm:∀W:World,(Builtin.max_ #[3,3] 3 #[.int .i64 12,.int .i64 1]).run Tryz.prog W= .ok (.int .i64 12) W:=fun W=>by rw[run_max_int2];rfl
  have HG:=af hG
  clear hG hes hes0 hu
  go_wp2_with (first
   |(go_at_call 18;go_must ((refine HG.out.mono ?_);rintro e w3 ⟨hw,rfl⟩;subst w3)))
  go_ret
  exact⟨by simp,HB.out⟩
 ·have HS:=af (LC (some ⟨t,0,none⟩) key n 12 w2 (hu _) (by decide))
  clear hu
  go_wp2_with (first
   |(go_at_call 20;go_must ((refine HS.out.mono ?_);rintro e w3 ⟨hw,rfl⟩;subst w3)))
  go_ret
  exact⟨by simp,HB.out⟩
structure Bx (w W:World) (t rt:Nat) (room log err:Int) (ch:Bool) (k n:Int) (key value:ByteArray):Prop where
 s:W.heap[w.heap.size]? =some (.cells #[.pointer (some ⟨t,0,none⟩),.pointer (some ⟨rt,0,none⟩),.int .i64 room,.int .i64 log,.int .i64 err,.bool ch] 60 (0,0))
 o:W.heap[w.heap.size+1]? =some (.cells #[.int .u8 k,.string key,.string value,.int .i64 n] 24 (0,0))
 r:W.heap[w.heap.size+2]? =some (.cells #[.pointer none,.pointer none,.int .i64 0,.int .i64 0,.int .i64 0,.bool false] 60 (0,0))
theorem Bx.keep {w W W':World} {t rt:Nat} {room log err:Int} {ch:Bool} {k n:Int} {key value:ByteArray} (h:Bx w W t rt room log err ch k n key value) {M:Nat→Prop} (hk:Keep M W W') (hM:∀g,w.heap.size≤g∧g≤w.heap.size+2→¬M g):Bx w W' t rt room log err ch k n key value:=
 ⟨(hk.block _ (ah.1 h.s).1 (hM _ ⟨by omega,by omega⟩)).trans h.s,(hk.block _ (ah.1 h.o).1 (hM _ ⟨by omega,by omega⟩)).trans h.o,(hk.block _ (ah.1 h.r).1 (hM _ ⟨by omega,by omega⟩)).trans h.r⟩
theorem Bx.new (w:World) (t rt:Nat) (room log err:Int) (ch:Bool) (k n:Int) (key value:ByteArray):
  Bx w (((w.alloc (.cells #[.pointer (some ⟨t,0,none⟩),.pointer (some ⟨rt,0,none⟩),.int .i64 room,.int .i64 log,.int .i64 err,.bool ch] 60)).alloc (.cells #[.int .u8 k,.string key,.string value,.int .i64 n] 24)).alloc (.cells #[.pointer none,.pointer none,.int .i64 0,.int .i64 0,.int .i64 0,.bool false] 60)) t rt room log err ch k n key value∧
  Below w.heap.size w (((w.alloc (.cells #[.pointer (some ⟨t,0,none⟩),.pointer (some ⟨rt,0,none⟩),.int .i64 room,.int .i64 log,.int .i64 err,.bool ch] 60)).alloc (.cells #[.int .u8 k,.string key,.string value,.int .i64 n] 24)).alloc (.cells #[.pointer none,.pointer none,.int .i64 0,.int .i64 0,.int .i64 0,.bool false] 60))∧
  (((w.alloc (.cells #[.pointer (some ⟨t,0,none⟩),.pointer (some ⟨rt,0,none⟩),.int .i64 room,.int .i64 log,.int .i64 err,.bool ch] 60)).alloc (.cells #[.int .u8 k,.string key,.string value,.int .i64 n] 24)).alloc (.cells #[.pointer none,.pointer none,.int .i64 0,.int .i64 0,.int .i64 0,.bool false] 60)).heap.size=w.heap.size+3:=by
 have h1:=aS w (.cells #[.pointer (some ⟨t,0,none⟩),.pointer (some ⟨rt,0,none⟩),.int .i64 room,.int .i64 log,.int .i64 err,.bool ch] 60)
 have b1:=aI w (.cells #[.pointer (some ⟨t,0,none⟩),.pointer (some ⟨rt,0,none⟩),.int .i64 room,.int .i64 log,.int .i64 err,.bool ch] 60)
 have z1:(w.alloc (.cells #[.pointer (some ⟨t,0,none⟩),.pointer (some ⟨rt,0,none⟩),.int .i64 room,.int .i64 log,.int .i64 err,.bool ch] 60)).heap.size=w.heap.size+1:=by simp
 generalize w.alloc (.cells #[.pointer (some ⟨t,0,none⟩),.pointer (some ⟨rt,0,none⟩),.int .i64 room,.int .i64 log,.int .i64 err,.bool ch] 60)=w1 at h1 b1 z1 ⊢
 have h2:=aS w1 (.cells #[.int .u8 k,.string key,.string value,.int .i64 n] 24)
 have b2:=aI w1 (.cells #[.int .u8 k,.string key,.string value,.int .i64 n] 24)
 have z2:(w1.alloc (.cells #[.int .u8 k,.string key,.string value,.int .i64 n] 24)).heap.size=w1.heap.size+1:=by simp
 generalize w1.alloc (.cells #[.int .u8 k,.string key,.string value,.int .i64 n] 24)=w2 at h2 b2 z2 ⊢
 have h3:=aS w2 (.cells #[.pointer none,.pointer none,.int .i64 0,.int .i64 0,.int .i64 0,.bool false] 60)
 have b3:=aI w2 (.cells #[.pointer none,.pointer none,.int .i64 0,.int .i64 0,.int .i64 0,.bool false] 60)
 have z3:(w2.alloc (.cells #[.pointer none,.pointer none,.int .i64 0,.int .i64 0,.int .i64 0,.bool false] 60)).heap.size=w2.heap.size+1:=by simp
 rw[show w2.heap.size=w.heap.size+2 by omega] at h3
 rw[z1] at h2
 refine⟨⟨(b3.block _ (by omega)).trans ((b2.block _ (by omega)).trans h1),(b3.block _ (by omega)).trans h2,h3⟩,?_,by omega⟩
 have b12:=b1.trans (b2.mono b1.size)
 exact b12.trans (b3.mono b12.size)
theorem Bx.cells {w W:World} {t rt:Nat} {room log err:Int} {ch:Bool} {k n:Int} {key value:ByteArray} (h:Bx w W t rt room log err ch k n key value) {sb:Nat} (hs:w.heap.size=sb):
  (W.cell? ⟨sb,0,none⟩=some (.pointer (some ⟨t,0,none⟩))∧W.cell? ⟨sb,1,none⟩=some (.pointer (some ⟨rt,0,none⟩))∧W.cell? ⟨sb,2,none⟩=some (.int .i64 room)∧W.cell? ⟨sb,3,none⟩=some (.int .i64 log)∧W.cell? ⟨sb,4,none⟩=some (.int .i64 err)∧W.cell? ⟨sb,5,none⟩=some (.bool ch))∧
  (W.cell? ⟨sb+1,0,none⟩=some (.int .u8 k)∧W.cell? ⟨sb+1,1,none⟩=some (.string key)∧W.cell? ⟨sb+1,2,none⟩=some (.string value)∧W.cell? ⟨sb+1,3,none⟩=some (.int .i64 n))∧
  (W.cell? ⟨sb+2,0,none⟩=some (.pointer none)∧W.cell? ⟨sb+2,1,none⟩=some (.pointer none)∧W.cell? ⟨sb+2,2,none⟩=some (.int .i64 0)∧W.cell? ⟨sb+2,3,none⟩=some (.int .i64 0)∧W.cell? ⟨sb+2,4,none⟩=some (.int .i64 0)∧W.cell? ⟨sb+2,5,none⟩=some (.bool false))∧
  (∀i,W.frozen? ⟨sb,i,none⟩=false)∧(∀i,W.frozen? ⟨sb+2,i,none⟩=false)∧sb+2<W.heap.size:=by
 subst hs
 have l3:=(ah.1 h.r).1
 refine⟨⟨?_,?_,?_,?_,?_,?_⟩,⟨?_,?_,?_,?_⟩,⟨?_,?_,?_,?_,?_,?_⟩,fun i=> ?_,fun i=> ?_,l3⟩
 all_goals first|(simp[World.cell?,h.s];done)|(simp[World.cell?,h.o];done)|(simp[World.cell?,h.r];done)|(simp[World.frozen?,h.s];done)|(simp[World.frozen?,h.r];done)
theorem Dx (F F0:Nat→Prop) (v r t rt N R u:Nat) (kv0 kv:List Pr) (cms:List (List Pr)) (ch:Bool) (room log k n:Int) (key value:ByteArray) (w:World) (hJ:JE F F0 v r t rt N R u cms kv0 kv w) (hk:0≤k∧k≤255) (hv:value.size≤maxLen):
  Calls Tryz.prog 27 #[.pointer (some ⟨v,0,none⟩),.agg #[.pointer (some ⟨t,0,none⟩),.pointer (some ⟨rt,0,none⟩),.int .i64 room,.int .i64 log,.int .i64 12,.bool ch],.agg #[.int .u8 k,.string key,.string value,.int .i64 n]] w fun e w'=>e= .returned (.tuple #[mR t rt room log 12 ch,.bool true])∧Below w.heap.size w w':=by
 obtain⟨hbx,hb3,hz3⟩:=Bx.new w t rt room log 12 ch k n key value
 obtain⟨w3,hw3⟩:∃w3:World,Hid ((((w.alloc (.cells #[.pointer (some ⟨t,0,none⟩),.pointer (some ⟨rt,0,none⟩),.int .i64 room,.int .i64 log,.int .i64 12,.bool ch] 60)).alloc (.cells #[.int .u8 k,.string key,.string value,.int .i64 n] 24)).alloc (.cells #[.pointer none,.pointer none,.int .i64 0,.int .i64 0,.int .i64 0,.bool false] 60))=w3):=⟨_,af rfl⟩
 rw[hw3.out] at hbx hb3 hz3
 obtain⟨sb,hsb⟩:∃sb:Nat,Hid (w.heap.size=sb):=⟨_,af rfl⟩
 have HTX:=af (vU value n w3 hv)
 obtain⟨⟨a0,a1,a2,a3,a4,a5⟩,⟨o0,o1,o2,o3⟩,_,_,_,ls⟩:=hbx.cells hsb.out
 have l0:sb<w3.heap.size:=by omega
 have l1:sb+1<w3.heap.size:=by omega
 have HX:=af (ax hbx (ax hb3 hz3))
 obtain⟨val,hval⟩:∃s,Hid (strOf (lK value n)=s):=⟨_,af rfl⟩
 rw[hval.out] at HTX
 clear hbx hb3 hz3
 go_enter Tryz.func27,Tryz.ntmps27
 go_upto_region 1 with (fail)
 rw[hw3.out,hsb.out]
 obtain⟨rb,hrb⟩:∃rb:Nat,Hid (sb+1+1=rb):=⟨_,af rfl⟩
 rw[hrb.out]
 obtain⟨ob,hob⟩:∃ob:Nat,Hid (sb+1=ob):=⟨_,af rfl⟩
 rw[hob.out] at o0 o1 o2 o3 l1 ⊢
 go_wp2_with (first
  |(go_at_call 17;go_must ((refine HTX.out.mono ?_);rintro e w4 ⟨rfl,hb4⟩;refine Stop.of ?_)))
 refine Stop.on ?_
 have hb14:=HX.out.2.1.trans (hb4.mono HX.out.2.1.size)
 have hE4:=hJ.1.below hb14
 have hB4:=HX.out.1.keep (Keep.of_below hb4 (fun _=>False)) (fun _ _ e=>e)
 obtain⟨⟨a0,a1,a2,a3,a4,a5⟩,⟨o0,o1,o2,o3⟩,⟨r0,r1,r2,r3,r4,r5⟩,_,fr,ls⟩:=hB4.cells hsb.out
 rw[show sb+2=rb from hrb.out] at r0 r1 r2 r3 r4 r5 fr ls
 rw[hob.out] at o0 o1 o2 o3
 have l0:sb<w4.heap.size:=by have:=hrb.out;omega
 have l1:ob<w4.heap.size:=by have:=hrb.out;have:=hob.out;omega
 have f0:=fr 0;have f1:=fr 1;have f2:=fr 2;have f3:=fr 3;have f4:=fr 4;have f5:=fr 5
 have HB4:=af (ax hB4 hb14)
 have HPU:=af (I4 (some ⟨t,0,none⟩) key val 12 w4 (hE4.usable _) (by decide))
 have HDE:=af (zx (some ⟨t,0,none⟩) key 12 w4 (hE4.usable _) (by decide))
 clear hB4 hb14 hb4 hE4 fr hJ hv
 obtain⟨w5,hw5⟩:∃w5:World,w5=(((((w4.setCell ⟨rb,0,none⟩ (.pointer (some ⟨t,0,none⟩))).setCell ⟨rb,1,none⟩ (.pointer (some ⟨rt,0,none⟩))).setCell ⟨rb,2,none⟩ (.int .i64 room)).setCell ⟨rb,3,none⟩ (.int .i64 log)).setCell ⟨rb,4,none⟩ (.int .i64 12)).setCell ⟨rb,5,none⟩ (.bool ch):=⟨_,rfl⟩
 have hk5:Keep (· =rb) w4 w5:=by
  rw[hw5]
  exact((((((Keep.refl (· =rb) w4).setCell (p:=⟨rb,0,none⟩) (.inr rfl) _).setCell (p:=⟨rb,1,none⟩) (.inr rfl) _).setCell (p:=⟨rb,2,none⟩) (.inr rfl) _).setCell (p:=⟨rb,3,none⟩) (.inr rfl) _).setCell (p:=⟨rb,4,none⟩) (.inr rfl) _).setCell (p:=⟨rb,5,none⟩) (.inr rfl) _
 have hr4:w4.heap[rb]? =some (.cells #[.pointer none,.pointer none,.int .i64 0,.int .i64 0,.int .i64 0,.bool false] 60 (0,0)):=by
  have:=HB4.out.1.r
  rwa [show w.heap.size+2=rb by have:=hsb.out;have:=hrb.out;omega] at this
 have hr5:w5.heap[rb]? =some (.cells #[.pointer (some ⟨t,0,none⟩),.pointer (some ⟨rt,0,none⟩),.int .i64 room,.int .i64 log,.int .i64 12,.bool ch] 60 (0,0)):=by
  rw[hw5]
  simp[World.setCell,aL,hr4]
 have hbf:Below w.heap.size w w5:=HB4.out.2.trans (hk5.jg HB4.out.2.size (fun i hi e=>by have:=hsb.out;have:=hrb.out;have e:i=rb:=e;omega))
 have FIN:=af (ax hw5 (ax hr5 hbf))
 clear hw5 hk5 hr4 hr5 hbf
 by_cases hkk:k%8=0
 ·go_wp2_with (first
   |(go_at_call 14;go_must ((refine HPU.out.mono ?_);rintro e w6 ⟨hw,rfl⟩;subst w6)))
  rw[←FIN.out.1]
  refine gG (fM rfl _ w5 rb _ (.bool true) rfl (jw w5 rb 60 60 _ (0,0) _ FIN.out.2.1 Tryz.underlying60 rfl (by kernel_rfl)) rfl) rfl ?_
  exact⟨rfl,FIN.out.2.2⟩
 ·go_wp2_with (first
   |(go_at_call 19;go_must ((refine HDE.out.mono ?_);rintro e w6 ⟨hw,rfl⟩;subst w6)))
  rw[←FIN.out.1]
  refine gG (fM rfl _ w5 rb _ (.bool true) rfl (jw w5 rb 60 60 _ (0,0) _ FIN.out.2.1 Tryz.underlying60 rfl (by kernel_rfl)) rfl) rfl ?_
  exact⟨rfl,FIN.out.2.2⟩
theorem kH.Om {w0:iZ} {w:World} {v t N R dn u P:Nat} {kv kv0:List Pr} {ch:Bool} (h:kH w0 v t N R dn u kv0 kv ch P w) (key value:ByteArray) (hb:¬qw key value):
  Calls Tryz.prog 14 #[.pointer (some ⟨t,0,none⟩),.string key,.string value] w fun e w'=>w'=w∧e= .returned (.int .i64 1):=by
 by_cases hg:1≤key.size∧key.size≤128
 ·obtain⟨S,tr,mp,σ,root,es,tb,root0,es0,tb0,hA,_⟩:=h
  refine(LD t tr mp ch w key value hA.tx.tx hg (Qt fun e=>hb ⟨hg,e⟩)).mono ?_
  rintro e w' ⟨rfl,rfl⟩
  exact⟨rfl,rfl⟩
 ·exact I4 _ key value 1 w (h.no hg) (by decide)
theorem Fh (F F0:Nat→Prop) (v r t rt N R u P:Nat) (kv0 kv:List Pr) (cms:List (List Pr)) (ch:Bool) (room log k n:Int) (key value:ByteArray) (w:World) (hJ:JT F F0 v r t rt N R u P cms kv0 kv ch w) (hk:0≤k∧k≤255) (hv:value.size≤maxLen) (hbad:¬qw key (if k%8=0 then strOf (lK value n) else⟨#[]⟩)):
  Calls Tryz.prog 27 #[.pointer (some ⟨v,0,none⟩),.agg #[.pointer (some ⟨t,0,none⟩),.pointer (some ⟨rt,0,none⟩),.int .i64 room,.int .i64 log,.int .i64 0,.bool ch],.agg #[.int .u8 k,.string key,.string value,.int .i64 n]] w fun e w'=>e= .returned (.tuple #[mR t rt room log 0 ch,.bool true])∧Below w.heap.size w w':=by
 obtain⟨hbx,hb3,hz3⟩:=Bx.new w t rt room log 0 ch k n key value
 obtain⟨w3,hw3⟩:∃w3:World,Hid ((((w.alloc (.cells #[.pointer (some ⟨t,0,none⟩),.pointer (some ⟨rt,0,none⟩),.int .i64 room,.int .i64 log,.int .i64 0,.bool ch] 60)).alloc (.cells #[.int .u8 k,.string key,.string value,.int .i64 n] 24)).alloc (.cells #[.pointer none,.pointer none,.int .i64 0,.int .i64 0,.int .i64 0,.bool false] 60))=w3):=⟨_,af rfl⟩
 rw[hw3.out] at hbx hb3 hz3
 obtain⟨sb,hsb⟩:∃sb:Nat,Hid (w.heap.size=sb):=⟨_,af rfl⟩
 have HTX:=af (vU value n w3 hv)
 obtain⟨⟨a0,a1,a2,a3,a4,a5⟩,⟨o0,o1,o2,o3⟩,_,_,_,ls⟩:=hbx.cells hsb.out
 have l0:sb<w3.heap.size:=by omega
 have l1:sb+1<w3.heap.size:=by omega
 have HX:=af (ax hbx (ax hb3 hz3))
 obtain⟨val,hval⟩:∃s,Hid (strOf (lK value n)=s):=⟨_,af rfl⟩
 rw[hval.out] at HTX
 clear hbx hb3 hz3
 go_enter Tryz.func27,Tryz.ntmps27
 go_upto_region 1 with (fail)
 rw[hw3.out,hsb.out]
 obtain⟨rb,hrb⟩:∃rb:Nat,Hid (sb+1+1=rb):=⟨_,af rfl⟩
 rw[hrb.out]
 obtain⟨ob,hob⟩:∃ob:Nat,Hid (sb+1=ob):=⟨_,af rfl⟩
 rw[hob.out] at o0 o1 o2 o3 l1 ⊢
 go_wp2_with (first
  |(go_at_call 17;go_must ((refine HTX.out.mono ?_);rintro e w4 ⟨rfl,hb4⟩;refine Stop.of ?_)))
 refine Stop.on ?_
 have hb14:=HX.out.2.1.trans (hb4.mono HX.out.2.1.size)
 have hE4:=hJ.1.below hb14
 have hB4:=HX.out.1.keep (Keep.of_below hb4 (fun _=>False)) (fun _ _ e=>e)
 obtain⟨⟨a0,a1,a2,a3,a4,a5⟩,⟨o0,o1,o2,o3⟩,⟨r0,r1,r2,r3,r4,r5⟩,_,fr,ls⟩:=hB4.cells hsb.out
 rw[show sb+2=rb from hrb.out] at r0 r1 r2 r3 r4 r5 fr ls
 rw[hob.out] at o0 o1 o2 o3
 have l0:sb<w4.heap.size:=by have:=hrb.out;omega
 have l1:ob<w4.heap.size:=by have:=hrb.out;have:=hob.out;omega
 have f0:=fr 0;have f1:=fr 1;have f2:=fr 2;have f3:=fr 3;have f4:=fr 4;have f5:=fr 5
 have HB4:=af (ax hB4 hb14)
 rw[hval.out] at hbad
 have hPU:k%8=0→Calls Tryz.prog 14 #[.pointer (some ⟨t,0,none⟩),.string key,.string val] w4 fun e w'=>w'=w4∧e= .returned (.int .i64 1):=fun h=>by
  rw[if_pos h] at hbad
  exact hE4.Om key val hbad
 have hDE:¬k%8=0→Calls Tryz.prog 19 #[.pointer (some ⟨t,0,none⟩),.string key] w4 fun e w'=>w'=w4∧e= .returned (.tuple #[.bool false,.int .i64 1]):=fun h=>by
  rw[if_neg h] at hbad
  exact zx (some ⟨t,0,none⟩) key 1 w4 (hE4.no fun e=>hbad ⟨e,by decide⟩) (by decide)
 have HG1:=af (xD key val w4)
 have HG2:=af (xD key ⟨#[]⟩ w4)
 have HPU:=af hPU;have HDE:=af hDE;have HBAD:=af hbad
 clear hPU hDE hbad
 clear hB4 hb14 hb4 hE4 fr hJ hv
 obtain⟨w5,hw5⟩:∃w5:World,w5=(((((w4.setCell ⟨rb,0,none⟩ (.pointer (some ⟨t,0,none⟩))).setCell ⟨rb,1,none⟩ (.pointer (some ⟨rt,0,none⟩))).setCell ⟨rb,2,none⟩ (.int .i64 room)).setCell ⟨rb,3,none⟩ (.int .i64 log)).setCell ⟨rb,4,none⟩ (.int .i64 0)).setCell ⟨rb,5,none⟩ (.bool ch):=⟨_,rfl⟩
 have hk5:Keep (· =rb) w4 w5:=by
  rw[hw5]
  exact((((((Keep.refl (· =rb) w4).setCell (p:=⟨rb,0,none⟩) (.inr rfl) _).setCell (p:=⟨rb,1,none⟩) (.inr rfl) _).setCell (p:=⟨rb,2,none⟩) (.inr rfl) _).setCell (p:=⟨rb,3,none⟩) (.inr rfl) _).setCell (p:=⟨rb,4,none⟩) (.inr rfl) _).setCell (p:=⟨rb,5,none⟩) (.inr rfl) _
 have hr4:w4.heap[rb]? =some (.cells #[.pointer none,.pointer none,.int .i64 0,.int .i64 0,.int .i64 0,.bool false] 60 (0,0)):=by
  have:=HB4.out.1.r
  rwa [show w.heap.size+2=rb by have:=hsb.out;have:=hrb.out;omega] at this
 have hr5:w5.heap[rb]? =some (.cells #[.pointer (some ⟨t,0,none⟩),.pointer (some ⟨rt,0,none⟩),.int .i64 room,.int .i64 log,.int .i64 0,.bool ch] 60 (0,0)):=by
  rw[hw5]
  simp[World.setCell,aL,hr4]
 have hbf:Below w.heap.size w w5:=HB4.out.2.trans (hk5.jg HB4.out.2.size (fun i hi e=>by have:=hsb.out;have:=hrb.out;have e:i=rb:=e;omega))
 have FIN:=af (ax hw5 (ax hr5 hbf))
 clear hw5 hk5 hr4 hr5 hbf
 by_cases hkk:k%8=0
 ·have hb:=HBAD.out
  rw[if_pos hkk] at hb
  have HG:=af HG1.out
  rw[bn hb] at HG
  have HP:=af (HPU.out hkk)
  clear hb
  go_wp2_with (first
   |(go_at_call 38;go_must ((refine HG.out.mono ?_);rintro e w6 ⟨hw,rfl⟩;subst w6))
   |(go_at_call 14;go_must ((refine HP.out.mono ?_);rintro e w6 ⟨hw,rfl⟩;subst w6)))
  rw[←FIN.out.1]
  refine gG (fM rfl _ w5 rb _ (.bool true) rfl (jw w5 rb 60 60 _ (0,0) _ FIN.out.2.1 Tryz.underlying60 rfl (by kernel_rfl)) rfl) rfl ?_
  exact⟨rfl,FIN.out.2.2⟩
 ·have hb:=HBAD.out
  rw[if_neg hkk] at hb
  have HG:=af HG2.out
  rw[bn hb] at HG
  have HD:=af (HDE.out hkk)
  clear hb
  go_wp2_with (first
   |(go_at_call 38;go_must ((refine HG.out.mono ?_);rintro e w6 ⟨hw,rfl⟩;subst w6))
   |(go_at_call 19;go_must ((refine HD.out.mono ?_);rintro e w6 ⟨hw,rfl⟩;subst w6)))
  rw[←FIN.out.1]
  refine gG (fM rfl _ w5 rb _ (.bool true) rfl (jw w5 rb 60 60 _ (0,0) _ FIN.out.2.1 Tryz.underlying60 rfl (by kernel_rfl)) rfl) rfl ?_
  exact⟨rfl,FIN.out.2.2⟩
theorem kH.Rm {w0:iZ} {w:World} {v t N R dn u P:Nat} {kv kv0:List Pr} {ch:Bool} (h:kH w0 v t N R dn u kv0 kv ch P w) (key value:ByteArray) (hl:kv.length≤4090) (hg:1≤key.size∧key.size≤128) (hv:value.size≤49152):
  Calls Tryz.prog 14 #[.pointer (some ⟨t,0,none⟩),.string key,.string value] w fun e w'=>
   (e= .returned (.int .i64 0)∧∃Q,((jv kv key value).length≤299→Q≤P+(65+eU value))∧kH w0 v t N R dn u kv0 (jv kv key value) (ch|| !decide (cu kv key=some value)) Q w')∨
   (e= .returned (.int .i64 12)∧N<2+u+kG kv+2*(kv.length+1)+eU value∧qE w0 v t N R dn u kv0 w'):=by
 by_cases hi:(jv kv key value).length≤299
 ·refine(h.Mq key value hl hg hv hi).mono ?_
  rintro e w' (⟨h1,h2⟩|h2)
  ·exact .inl ⟨h1,_,fun _=>aC _,h2⟩
  ·exact .inr h2
 ·refine((h.more (P':=P+(2+u+kG kv+2*(kv.length+1)+eU value)) (by omega)).put key value hl hg hv (by omega)).mono ?_
  rintro e w' (⟨h1,h2⟩|h2)
  ·exact .inl ⟨h1,_,fun e=>absurd e hi,h2⟩
  ·exact .inr h2
theorem kH.OG {w0:iZ} {w:World} {v t N R dn u P:Nat} {kv kv0:List Pr} {ch:Bool} (h:kH w0 v t N R dn u kv0 kv ch P w) (key:ByteArray) (hl:kv.length≤4090) (hg:1≤key.size∧key.size≤128) (hi:kv.length≤299):
  Calls Tryz.prog 19 #[.pointer (some ⟨t,0,none⟩),.string key] w fun e w'=>
   (e= .returned (.tuple #[.bool (cu kv key).isSome,.int .i64 0])∧kH w0 v t N R dn u kv0 (iW kv key) (ch||(cu kv key).isSome) (P+65) w')∨
   (e= .returned (.tuple #[.bool false,.int .i64 12])∧N<2+u+kG kv+2*(kv.length+1)∧qE w0 v t N R dn u kv0 w'):=
 h.delete key hl hg (aH (by unfold iW;split<;>simp<;>omega) hi)
theorem Bx.set2 {w W:World} {t rt:Nat} {room log err:Int} {ch:Bool} {k n:Int} {key value:ByteArray} (h:Bx w W t rt room log err ch k n key value) {sb:Nat} (hs:w.heap.size=sb) (x:Int):Bx w (W.setCell ⟨sb,2,none⟩ (.int .i64 x)) t rt x log err ch k n key value∧Keep (· =sb) W (W.setCell ⟨sb,2,none⟩ (.int .i64 x)):=by
 subst hs
 have hk:Keep (· =w.heap.size) W (W.setCell ⟨w.heap.size,2,none⟩ (.int .i64 x)):=(Keep.refl (· =w.heap.size) W).setCell (p:=⟨w.heap.size,2,none⟩) (.inr rfl) _
 refine⟨⟨?_,(hk.block _ (ah.1 h.o).1 (by omega)).trans h.o,(hk.block _ (ah.1 h.r).1 (by omega)).trans h.r⟩,hk⟩
 simp[World.setCell,aL,h.s]
theorem Bx.J5 {w W:World} {t rt:Nat} {room log err:Int} {ch:Bool} {k n:Int} {key value:ByteArray} (h:Bx w W t rt room log err ch k n key value) {sb:Nat} (hs:w.heap.size=sb) (x:Int):Bx w (W.setCell ⟨sb,3,none⟩ (.int .i64 x)) t rt room x err ch k n key value∧Keep (· =sb) W (W.setCell ⟨sb,3,none⟩ (.int .i64 x)):=by
 subst hs
 have hk:Keep (· =w.heap.size) W (W.setCell ⟨w.heap.size,3,none⟩ (.int .i64 x)):=(Keep.refl (· =w.heap.size) W).setCell (p:=⟨w.heap.size,3,none⟩) (.inr rfl) _
 refine⟨⟨?_,(hk.block _ (ah.1 h.o).1 (by omega)).trans h.o,(hk.block _ (ah.1 h.r).1 (by omega)).trans h.r⟩,hk⟩
 simp[World.setCell,aL,h.s]
theorem Bx.QI {w W:World} {t rt:Nat} {room log err:Int} {ch:Bool} {k n:Int} {key value:ByteArray} (h:Bx w W t rt room log err ch k n key value) {sb:Nat} (hs:w.heap.size=sb) (x:Int):Bx w (W.setCell ⟨sb,4,none⟩ (.int .i64 x)) t rt room log x ch k n key value∧Keep (· =sb) W (W.setCell ⟨sb,4,none⟩ (.int .i64 x)):=by
 subst hs
 have hk:Keep (· =w.heap.size) W (W.setCell ⟨w.heap.size,4,none⟩ (.int .i64 x)):=(Keep.refl (· =w.heap.size) W).setCell (p:=⟨w.heap.size,4,none⟩) (.inr rfl) _
 refine⟨⟨?_,(hk.block _ (ah.1 h.o).1 (by omega)).trans h.o,(hk.block _ (ah.1 h.r).1 (by omega)).trans h.r⟩,hk⟩
 simp[World.setCell,aL,h.s]
theorem Bx.QH {w W:World} {t rt:Nat} {room log err:Int} {ch:Bool} {k n:Int} {key value:ByteArray} (h:Bx w W t rt room log err ch k n key value) {sb:Nat} (hs:w.heap.size=sb) (x:Bool):Bx w (W.setCell ⟨sb,5,none⟩ (.bool x)) t rt room log err x k n key value∧Keep (· =sb) W (W.setCell ⟨sb,5,none⟩ (.bool x)):=by
 subst hs
 have hk:Keep (· =w.heap.size) W (W.setCell ⟨w.heap.size,5,none⟩ (.bool x)):=(Keep.refl (· =w.heap.size) W).setCell (p:=⟨w.heap.size,5,none⟩) (.inr rfl) _
 refine⟨⟨?_,(hk.block _ (ah.1 h.o).1 (by omega)).trans h.o,(hk.block _ (ah.1 h.r).1 (by omega)).trans h.r⟩,hk⟩
 simp[World.setCell,aL,h.s]
theorem Bx.drew {w W:World} {t rt:Nat} {room log err:Int} {ch:Bool} {k n:Int} {key value:ByteArray} (h:Bx w W t rt room log err ch k n key value):Bx w W.drew t rt room log err ch k n key value:=⟨h.s,h.o,h.r⟩
theorem ja {W:World} {sb:Nat} {a b c d e f:Value} (h:W.heap[sb]? =some (.cells #[a,b,c,d,e,f] 60 (0,0))):
  W.cell? ⟨sb,0,none⟩=some a∧W.cell? ⟨sb,1,none⟩=some b∧W.cell? ⟨sb,2,none⟩=some c∧W.cell? ⟨sb,3,none⟩=some d∧W.cell? ⟨sb,4,none⟩=some e∧W.cell? ⟨sb,5,none⟩=some f∧sb<W.heap.size:=by
 refine⟨?_,?_,?_,?_,?_,?_,(ah.1 h).1⟩<;>simp[World.cell?,h]
theorem Ab {W:World} {ob:Nat} {a b c d:Value} (h:W.heap[ob]? =some (.cells #[a,b,c,d] 24 (0,0))):
  W.cell? ⟨ob,1,none⟩=some b∧ob<W.heap.size:=by
 refine⟨?_,(ah.1 h).1⟩;simp[World.cell?,h]
theorem rF {F F0:Nat→Prop} {v r t rt N R u Q:Nat} {cms:List (List Pr)} {kv0 kv':List Pr} {ch':Bool} {w w4 w6 w10 w11 w12:World} (hF:∀g,F0 g→F g) (hF0:∀g,F0 g→g<w.heap.size) (hrt:F0 rt) {sb rb:Nat} (hsb:w.heap.size=sb) (hrb:sb+1+1=rb) (h4:rb<w4.heap.size)
  (hb:Below w.heap.size w w4) (hT:kH ⟨iG F w w4,w4⟩ v t N R cms.length u kv0 kv' ch' Q w6) (hk6:Keep (fun g=>¬iG F w w4 g) w4 w6) (hkA:Keep (· =sb) w6 w10) (hk11:Keep (· =rt) w10 w11) (hR:uM (iG F0 w10 w11) w11 r rt (cms++[kv0]) kv') (hk12:Keep (· =rb) w11 w12):
  ∃F' F0',Fr F F0 w F' F0' w12∧JT F' F0' v r t rt N R u Q cms kv0 kv' ch' w12:=by
 have z4:=hb.size
 have z6:=hk6.size
 have zA:=hkA.size
 have z11:=hk11.size
 have z12:=hk12.size
 have f1:∀g,w.heap.size≤g→g<w4.heap.size→iG F w w4 g:=fun g h1 h2=> .inr ⟨h1,h2⟩
 refine⟨iG (iG (iG (iG F w w4) w6 w10) w10 w11) w11 w12,iG F0 w10 w11,⟨?_,?_,?_,?_⟩,?_,?_⟩
 ·rintro g (hg|hg)
  ·exact .inl (.inl (.inl (.inl (hF g hg))))
  ·exact .inl (.inr hg)
 ·exact fun g hg=> .inl (.inl (.inl (.inl hg)))
 ·rintro g (hg|hg)
  ·exact .inl hg
  ·exact .inr (by omega)
 ·have k1:Keep (fun g=>F g→F0 g) w w4:=Keep.of_below hb _
  have k2:=k1.trans hk6 (fun g _ e=>fun hf=>absurd (Or.inl hf) e)
  have k3:=k2.trans hkA (fun g hg e=>by have e:g=sb:=e;omega)
  have k4:=k3.trans hk11 (fun g _ e=>by have e:g=rt:=e;exact fun _=>e▸hrt)
  exact k4.trans hk12 (fun g hg e=>by have e:g=rb:=e;omega)
 ·have t1:=hT.next hkA (fun g e=>by have e:g=sb:=e;exact f1 g (by omega) (by omega))
  have t2:=t1.next hk11 (fun g e=>by have e:g=rt:=e;exact .inl (.inl (e▸hF rt hrt)))
  exact t2.next hk12 (fun g e=>by have e:g=rb:=e;exact .inl (.inl (f1 g (by omega) (by omega))))
 ·refine hR.prog (hk12.mono (fun g _ e hf=> ?_))
  have e:g=rb:=e
  rcases hf with hf|hf
  ·have:=hF0 g hf;omega
  ·omega
theorem yB {F F0:Nat→Prop} {v r t rt N R u:Nat} {cms:List (List Pr)} {kv0 kv:List Pr} {w w4 w6 w10 w12:World} (hF:∀g,F0 g→F g) (hF0:∀g,F0 g→g<w.heap.size) {sb rb:Nat} (hsb:w.heap.size=sb) (hrb:sb+1+1=rb) (h4:rb<w4.heap.size)
  (hb:Below w.heap.size w w4) (hT:qE ⟨iG F w w4,w4⟩ v t N R cms.length u kv0 w6) (hk6:Keep (fun g=>¬iG F w w4 g) w4 w6) (hkA:Keep (· =sb) w6 w10) (hR:uM F0 w10 r rt (cms++[kv0]) kv) (hk12:Keep (· =rb) w10 w12):
  ∃F' F0',Fr F F0 w F' F0' w12∧JE F' F0' v r t rt N R u cms kv0 kv w12:=by
 have z4:=hb.size
 have z6:=hk6.size
 have zA:=hkA.size
 have z12:=hk12.size
 have f1:∀g,w.heap.size≤g→g<w4.heap.size→iG F w w4 g:=fun g h1 h2=> .inr ⟨h1,h2⟩
 refine⟨iG (iG (iG F w w4) w6 w10) w10 w12,F0,⟨fun g hg=> .inl (.inl (.inl (hF g hg))),fun g hg=> .inl (.inl (.inl hg)),fun _ hg=> .inl hg,?_⟩,?_,?_⟩
 ·have k1:Keep (fun g=>F g→F0 g) w w4:=Keep.of_below hb _
  have k2:=k1.trans hk6 (fun g _ e=>fun hf=>absurd (Or.inl hf) e)
  have k3:=k2.trans hkA (fun g hg e=>by have e:g=sb:=e;omega)
  exact k3.trans hk12 (fun g hg e=>by have e:g=rb:=e;omega)
 ·have t1:=hT.next hkA (fun g e=>by have e:g=sb:=e;exact f1 g (by omega) (by omega))
  exact t1.next hk12 (fun g e=>by have e:g=rb:=e;exact .inl (f1 g (by omega) (by omega)))
 ·refine hR.prog (hk12.mono (fun g _ e hf=> ?_))
  have e:g=rb:=e
  have:=hF0 g hf
  omega
theorem Ff (F F0:Nat→Prop) (hF:∀g,F0 g→F g) (v r t rt N R u P:Nat) (kv0 kv:List Pr) (cms:List (List Pr)) (ch:Bool) (room log k n:Int) (key value:ByteArray) (w:World) (hJ:JT F F0 v r t rt N R u P cms kv0 kv ch w) (hk:0≤k∧k≤255) (hv:value.size≤maxLen) (hgood:qw key (strOf (lK value n))) (hkk:k%8=0) (hr:dY kv) (hl:kv.length≤4000) (hroom:0≤room∧room≤100000000) (hlog:0≤log∧log≤100000000) (hrm:((2+u+kG kv+2*(kv.length+1)+eU (strOf (lK value n)):Nat):Int)≤room+4*((2+eU (strOf (lK value n)):Nat):Int)):
  Calls Tryz.prog 27 #[.pointer (some ⟨v,0,none⟩),.agg #[.pointer (some ⟨t,0,none⟩),.pointer (some ⟨rt,0,none⟩),.int .i64 room,.int .i64 log,.int .i64 0,.bool ch],.agg #[.int .u8 k,.string key,.string value,.int .i64 n]] w fun e w'=>
   ∃F' F0',Fr F F0 w F' F0' w'∧
    ((∃Q,e= .returned (.tuple #[mR t rt (room+4*((2+eU (strOf (lK value n)):Nat):Int)) (log+4*((2+eU (strOf (lK value n)):Nat):Int)+64) 0 (ch|| !decide (cu kv key=some (strOf (lK value n)))),.bool true])∧
      JT F' F0' v r t rt N R u Q cms kv0 (jv kv key (strOf (lK value n))) (ch|| !decide (cu kv key=some (strOf (lK value n)))) w'∧((jv kv key (strOf (lK value n))).length≤299→Q≤P+(65+eU (strOf (lK value n)))))∨
     (e= .returned (.tuple #[mR t rt (room+4*((2+eU (strOf (lK value n)):Nat):Int)) (log+4*((2+eU (strOf (lK value n)):Nat):Int)+64) 12 ch,.bool true])∧JE F' F0' v r t rt N R u cms kv0 kv w')):=by
 obtain⟨hbx,hb3,hz3⟩:=Bx.new w t rt room log 0 ch k n key value
 obtain⟨w3,hw3⟩:∃w3:World,Hid ((((w.alloc (.cells #[.pointer (some ⟨t,0,none⟩),.pointer (some ⟨rt,0,none⟩),.int .i64 room,.int .i64 log,.int .i64 0,.bool ch] 60)).alloc (.cells #[.int .u8 k,.string key,.string value,.int .i64 n] 24)).alloc (.cells #[.pointer none,.pointer none,.int .i64 0,.int .i64 0,.int .i64 0,.bool false] 60))=w3):=⟨_,af rfl⟩
 rw[hw3.out] at hbx hb3 hz3
 obtain⟨sb,hsb⟩:∃sb:Nat,Hid (w.heap.size=sb):=⟨_,af rfl⟩
 have HTX:=af (vU value n w3 hv)
 obtain⟨⟨a0,a1,a2,a3,a4,a5⟩,⟨o0,o1,o2,o3⟩,_,_,_,ls⟩:=hbx.cells hsb.out
 have l0:sb<w3.heap.size:=by omega
 have l1:sb+1<w3.heap.size:=by omega
 have HX:=af (ax hbx (ax hb3 hz3))
 obtain⟨val,hval⟩:∃s,Hid (strOf (lK value n)=s):=⟨_,af rfl⟩
 rw[hval.out] at HTX
 clear hbx hb3 hz3
 go_enter Tryz.func27,Tryz.ntmps27
 go_upto_region 1 with (fail)
 rw[hw3.out,hsb.out]
 obtain⟨rb,hrb⟩:∃rb:Nat,Hid (sb+1+1=rb):=⟨_,af rfl⟩
 rw[hrb.out]
 obtain⟨ob,hob⟩:∃ob:Nat,Hid (sb+1=ob):=⟨_,af rfl⟩
 rw[hob.out] at o0 o1 o2 o3 l1 ⊢
 go_wp2_with (first
  |(go_at_call 17;go_must ((refine HTX.out.mono ?_);rintro e w4 ⟨rfl,hb4⟩;refine Stop.of ?_)))
 refine Stop.on ?_
 have hb14:=HX.out.2.1.trans (hb4.mono HX.out.2.1.size)
 have hE4:=hJ.1.below hb14
 have hB4:=HX.out.1.keep (Keep.of_below hb4 (fun _=>False)) (fun _ _ e=>e)
 obtain⟨⟨a0,a1,a2,a3,a4,a5⟩,⟨o0,o1,o2,o3⟩,⟨r0,r1,r2,r3,r4,r5⟩,_,fr,ls⟩:=hB4.cells hsb.out
 rw[show sb+2=rb from hrb.out] at r0 r1 r2 r3 r4 r5 fr ls
 rw[hob.out] at o0 o1 o2 o3
 have l0:sb<w4.heap.size:=by have:=hrb.out;omega
 have l1:ob<w4.heap.size:=by have:=hrb.out;have:=hob.out;omega
 have f0:=fr 0;have f1:=fr 1;have f2:=fr 2;have f3:=fr 3;have f4:=fr 4;have f5:=fr 5
 have HB4:=af (ax hB4 hb14)
 rw[hval.out] at hgood hrm
 have HRM:=af hrm
 clear hrm
 have hvs:=hgood.2
 obtain⟨bc,hbc⟩:∃bc,Hid (eU val=bc):=⟨_,af rfl⟩
 have hbc9:bc≤97:=by rw[←hbc.out];unfold eU pz;split<;>omega
 have hCO:=fun W=>Mj val W (by omega)
 rw[hbc.out] at hCO
 have HCO:=af hCO
 have hT4:kH ⟨iG F w w4,w4⟩ v t N R cms.length u kv0 kv ch P w4:=hJ.1.next (M:=fun _=>False) (Keep.of_below hb14 _) (fun _ e=>e.elim)
 have hR4:=hJ.2.prog (Keep.of_below hb14 (fun g=>¬F0 g))
 have HPU:=af (hT4.Rm key val (by omega) hgood.1 hgood.2)
 have hG:=xD key val
 rw[dI hgood] at hG
 have HG:=af hG
 clear hG
 have HR4:=af hR4
 have hfs0:∀g,F0 g→g<w.heap.size:=fun g e=>hJ.1.fs g (hF g e)
 clear hT4 hR4 hCO hgood hvs
 clear hB4 hb14 hb4 hE4 fr hJ hv
 have HF0:=af hfs0;have HFF:=af hF;have HKK:=af hkk
 have hsbF:∀g,w.heap.size≤g∧g≤w.heap.size+2→iG F w w4 g:=fun g hg=> .inr ⟨hg.1,by have:=hsb.out;have:=hrb.out;omega⟩
 have HSF:=af hsbF
 clear hsbF
 go_wp2_with (first
  |(go_at_call 14;go_must ((refine HPU.out.mono ?_);rintro e w6 (⟨rfl,Q,hQ,hT6⟩|⟨rfl,hlow,hE6⟩)<;>refine Stop.of ?_)))
 ·refine Stop.on ?_
  have hk6:=hT6.lC
  have hB6:=HB4.out.1.keep hk6 (fun g hg e=>e (HSF.out g hg))
  obtain⟨⟨a0,a1,a2,a3,a4,a5⟩,⟨o0,o1,o2,o3⟩,⟨r0,r1,r2,r3,r4,r5⟩,fs,fr,ls⟩:=hB6.cells hsb.out
  rw[show sb+2=rb from hrb.out] at r0 r1 r2 r3 r4 r5 fr ls
  rw[hob.out] at o0 o1 o2 o3
  have l0:sb<w6.heap.size:=by have:=hrb.out;omega
  have l1:ob<w6.heap.size:=by have:=hrb.out;have:=hob.out;omega
  have f2:=fs 2;have f3:=fs 3;have f5:=fs 5
  have HX6:=af (ax hT6 (ax hk6 (ax hB6 hQ)))
  clear hT6 hk6 hB6 hQ fs fr
  go_wp2_with (first
   |(go_at_call 38;go_must ((refine(HG.out w6).mono ?_);rintro e w7 ⟨hw,rfl⟩;subst w7)))
  obtain⟨cst,hcst⟩:∃cst:Int,cst=((2+bc:Nat):Int):=⟨_,rfl⟩
  obtain⟨c4,hc4⟩:∃c4:Int,c4=4*cst:=⟨_,rfl⟩
  have q1:IntKind.i64.wrap (4*cst)=c4:=by rw[aF _ (by omega),hc4]
  have q2:IntKind.i64.wrap (room+c4)=room+c4:=aF _ (by omega)
  have q3:IntKind.i64.wrap (log+c4)=log+c4:=aF _ (by omega)
  have q4:IntKind.i64.wrap (log+c4+64)=log+c4+64:=aF _ (by omega)
  have hCO:=HCO.out
  rw[←hcst] at hCO
  have HCO2:=af hCO
  have HC4:=af (ax hc4 hcst)
  clear hc4 hCO hcst
  refine aO (fun W=>W.cell? ⟨sb,2,none⟩=some (.int .i64 room)∧sb<W.heap.size∧W.frozen? ⟨sb,2,none⟩=false) (fun i=> !([3,7].contains i)) [0,1,2,3,4,5,6,7] rfl (by kernel_rfl) ⟨a2,l0,f2⟩ ?_
  repeat ((refine bG (v:= ?_) rfl rfl (fun _ _ _ h=>h) rfl (fun W hW=> ?_) ?_);rotate_left;(focus ((try dsimp only at hW);obtain⟨x0,x1,x2⟩:=hW;(go_simp;first|done|with_reducible rfl)));(try simp only[Act.put,ai,au,aj]))
  refine dz rfl rfl rfl ?_;intro K hK;go_simp
  refine(HCO2.out _).mono ?_;rintro e w7 ⟨hw7,rfl⟩;subst w7
  refine hK.out _ _ ⟨a2,l0,f2⟩ ?_
  (try simp only[Act.put,ai,au,aj])
  repeat ((refine bG (v:= ?_) rfl rfl (fun _ _ _ h=>h) rfl (fun W hW=> ?_) ?_);rotate_left;(focus ((try dsimp only at hW);obtain⟨x0,x1,x2⟩:=hW;(go_simp;first|done|with_reducible rfl)));(try simp only[Act.put,ai,au,aj]))
  refine iN rfl rfl rfl (by kernel_rfl) ?_;intro K hK;go_simp
  refine hK.out _ _ ?_
  refine bK ?_
  obtain⟨hB7,hk7⟩:=HX6.out.2.2.1.set2 hsb.out (room+c4)
  have hB7:=hB7.drew
  have hk7:=hk7.drew
  obtain⟨w7,hw7⟩:∃w7:World,Hid ((w6.setCell ⟨sb,2,none⟩ (.int .i64 (room+c4))).drew=w7):=⟨_,af rfl⟩
  rw[hw7.out] at hB7 hk7 ⊢
  clear a0 a1 a2 a3 a4 a5 o0 o1 o2 o3 r0 r1 r2 r3 r4 r5 ls l0 l1 f2 f3 f5
  obtain⟨⟨a0,a1,a2,a3,a4,a5⟩,⟨o0,o1,o2,o3⟩,_,fs,_,ls⟩:=hB7.cells hsb.out
  rw[hob.out] at o0 o1 o2 o3
  have l0:sb<w7.heap.size:=by omega
  have f3:=fs 3
  have HX7:=af (ax hB7 hk7)
  clear hB7 hk7 fs
  go_wp2_with fail
  refine aO (fun W=>W.cell? ⟨sb,3,none⟩=some (.int .i64 log)∧sb<W.heap.size∧W.frozen? ⟨sb,3,none⟩=false) (fun i=> !([3,7].contains i)) [0,1,2,3,4,5,6,7] rfl (by kernel_rfl) ⟨a3,l0,f3⟩ ?_
  repeat ((refine bG (v:= ?_) rfl rfl (fun _ _ _ h=>h) rfl (fun W hW=> ?_) ?_);rotate_left;(focus ((try dsimp only at hW);obtain⟨x0,x1,x2⟩:=hW;(go_simp;first|done|with_reducible rfl)));(try simp only[Act.put,ai,au,aj]))
  refine dz rfl rfl rfl ?_;intro K hK;go_simp
  refine(HCO2.out _).mono ?_;rintro e w8 ⟨hw8,rfl⟩;subst w8
  refine hK.out _ _ ⟨a3,l0,f3⟩ ?_
  (try simp only[Act.put,ai,au,aj])
  repeat ((refine bG (v:= ?_) rfl rfl (fun _ _ _ h=>h) rfl (fun W hW=> ?_) ?_);rotate_left;(focus ((try dsimp only at hW);obtain⟨x0,x1,x2⟩:=hW;(go_simp;first|done|with_reducible rfl)));(try simp only[Act.put,ai,au,aj]))
  refine iN rfl rfl rfl (by kernel_rfl) ?_;intro K hK;go_simp
  refine hK.out _ _ ?_
  refine bK ?_
  obtain⟨hB8,hk8⟩:=HX7.out.1.J5 hsb.out (log+c4)
  have hB8:=hB8.drew
  have hk8:=hk8.drew
  obtain⟨w8,hw8⟩:∃w8:World,Hid ((w7.setCell ⟨sb,3,none⟩ (.int .i64 (log+c4))).drew=w8):=⟨_,af rfl⟩
  rw[hw8.out] at hB8 hk8 ⊢
  clear a0 a1 a2 a3 a4 a5 o0 o1 o2 o3 l0 f3 ls
  obtain⟨⟨a0,a1,a2,a3,a4,a5⟩,⟨o0,o1,o2,o3⟩,_,fs,_,ls⟩:=hB8.cells hsb.out
  rw[hob.out] at o0 o1 o2 o3
  have l0:sb<w8.heap.size:=by omega
  have f3:=fs 3
  have HX8:=af (ax hB8 (HX7.out.2.trans hk8 (fun _ _ e=>e)))
  clear hB8 hk8 fs
  go_upto_region 17 with (fail)
  obtain⟨hB9,hk9⟩:=HX8.out.1.J5 hsb.out (log+c4+64)
  obtain⟨w9,hw9⟩:∃w9:World,Hid (w8.setCell ⟨sb,3,none⟩ (.int .i64 (log+c4+64))=w9):=⟨_,af rfl⟩
  rw[hw9.out] at hB9 hk9 ⊢
  have hk69:Keep (· =sb) w6 w9:=HX8.out.2.trans hk9 (fun _ _ e=>e)
  have hsb0:¬F0 sb:=fun e=>by
   have:=HF0.out sb e
   have:=hsb.out
   omega
  have hF1:∀g,F0 g→iG F w w4 g:=fun g e=> .inl (HFF.out g e)
  have hR9:=(HR4.out.prog (HX6.out.2.1.out hF1)).prog (hk69.mono (fun g _ e hf=>hsb0 (e▸hf)))
  clear a0 a1 a2 a3 a4 a5 o0 o1 o2 o3 l0 f3 ls
  obtain⟨⟨a0,a1,a2,a3,a4,a5⟩,⟨o0,o1,o2,o3⟩,_,fs,_,ls⟩:=hB9.cells hsb.out
  rw[hob.out] at o0 o1 o2 o3
  have l0:sb<w9.heap.size:=by omega
  have l1:ob<w9.heap.size:=by have:=hob.out;omega
  have f5:=fs 5
  have HRG:=af (hR9.get key hr (by omega))
  have HX9:=af (ax hB9 (ax hk69 hR9))
  clear hB9 hk9 hk69 hR9 fs
  obtain⟨lv,hlv⟩:∃lv,lv=(cu kv key).getD ⟨#[]⟩:=⟨_,rfl⟩
  obtain⟨lb,hlb⟩:∃lb,lb=(cu kv key).isSome:=⟨_,rfl⟩
  rw[←hlv,←hlb] at HRG
  have HLV:=af (ax hlv hlb)
  clear hlv hlb
  have hkk2:k%8=0:=HKK.out
  go_upto_region 22 with (first
   |(go_at_call 73;go_must ((refine HRG.out.mono ?_);rintro e w10 ⟨rfl,hw⟩;subst w10)))
  obtain⟨nc,hnc⟩:∃nc:Bool,Hid (nc=(ch|| !lb||decide (lv≠val))):=⟨_,af rfl⟩
  obtain⟨hBA,hkA⟩:=HX9.out.1.QH hsb.out nc
  obtain⟨w10,hw10⟩:∃w10:World,Hid (w9.setCell ⟨sb,5,none⟩ (.bool nc)=w10):=⟨_,af rfl⟩
  rw[hw10.out] at hBA hkA
  have hk6A:Keep (· =sb) w6 w10:=HX9.out.2.1.trans hkA (fun _ _ e=>e)
  have hRA:=HX9.out.2.2.prog (hkA.mono (fun g _ e hf=>hsb0 (e▸hf)))
  have hrt:F0 rt:=by obtain⟨cv,Ls,_,_,_,_,_,_,_,h,_⟩:=hRA;exact h
  have hrtl:=HF0.out rt hrt
  have HRP:=af (hRA.put key val hr (by omega))
  obtain⟨⟨b0,b1,b2,b3,b4,b5⟩,⟨p0,p1,p2,p3⟩,_,_,_,ls2⟩:=hBA.cells hsb.out
  rw[hob.out] at p0 p1 p2 p3
  have m0:sb<w10.heap.size:=by omega
  have m1:ob<w10.heap.size:=by have:=hob.out;omega
  have HRT:=af hrt
  have HXA:=af (ax hBA (ax hk6A hrtl))
  clear hBA hk6A hkA hRA hrt hrtl ls ls2
  go_upto_region 23 with (fail)
  ·rw[show w9.setCell ⟨sb,5,none⟩ (.bool true)=w10 from by rw[←hw10.out,hnc.out,show ch=true by assumption];rfl]
   go_wp2_with (first
    |(go_at_call 41;go_must ((refine HRP.out.mono ?_);rintro e w11 ⟨rfl,hR11,hk11⟩;refine Stop.of ?_)))
   refine Stop.on ?_
   have hB11:=HXA.out.1.keep hk11 (fun g hg e=>by have e:g=rt:=e;have:=HXA.out.2.2;omega)
   obtain⟨⟨a0,a1,a2,a3,a4,a5⟩,_,⟨r0,r1,r2,r3,r4,r5⟩,_,fr,ls⟩:=hB11.cells hsb.out
   rw[show sb+2=rb from hrb.out] at r0 r1 r2 r3 r4 r5 fr ls
   have l0:sb<w11.heap.size:=by have:=hrb.out;omega
   have f0:=fr 0;have f1:=fr 1;have f2:=fr 2;have f3:=fr 3;have f4:=fr 4;have f5:=fr 5
   have HY:=af (ax hB11 (ax hk11 hR11))
   clear hB11 hk11 hR11 fr
   obtain⟨w12,hw12⟩:∃w12:World,Hid ((((((w11.setCell ⟨rb,0,none⟩ (.pointer (some ⟨t,0,none⟩))).setCell ⟨rb,1,none⟩ (.pointer (some ⟨rt,0,none⟩))).setCell ⟨rb,2,none⟩ (.int .i64 (room+c4))).setCell ⟨rb,3,none⟩ (.int .i64 (log+c4+64))).setCell ⟨rb,4,none⟩ (.int .i64 0)).setCell ⟨rb,5,none⟩ (.bool nc)=w12):=⟨_,af rfl⟩
   have hk12:Keep (· =rb) w11 w12:=by
    rw[←hw12.out]
    exact((((((Keep.refl (· =rb) w11).setCell (p:=⟨rb,0,none⟩) (.inr rfl) _).setCell (p:=⟨rb,1,none⟩) (.inr rfl) _).setCell (p:=⟨rb,2,none⟩) (.inr rfl) _).setCell (p:=⟨rb,3,none⟩) (.inr rfl) _).setCell (p:=⟨rb,4,none⟩) (.inr rfl) _).setCell (p:=⟨rb,5,none⟩) (.inr rfl) _
   have hr11:w11.heap[rb]? =some (.cells #[.pointer none,.pointer none,.int .i64 0,.int .i64 0,.int .i64 0,.bool false] 60 (0,0)):=by
    have:=HY.out.1.r
    rwa [show w.heap.size+2=rb by have:=hsb.out;have:=hrb.out;omega] at this
   have hr12:w12.heap[rb]? =some (.cells #[.pointer (some ⟨t,0,none⟩),.pointer (some ⟨rt,0,none⟩),.int .i64 (room+c4),.int .i64 (log+c4+64),.int .i64 0,.bool nc] 60 (0,0)):=by
    rw[←hw12.out]
    simp[World.setCell,aL,hr11]
   have HR12:=af (ax hr12 hk12)
   clear hr11 hr12 hk12
   go_wp2_with fail
   rw[hw12.out]
   refine gG (fM rfl _ w12 rb _ (.bool true) rfl (jw w12 rb 60 60 _ (0,0) _ HR12.out.1 Tryz.underlying60 rfl (by kernel_rfl)) rfl) rfl ?_
   obtain⟨F',F0',hFr,hJT⟩:=rF HFF.out HF0.out HRT.out hsb.out hrb.out (hrb.out▸(HB4.out.1.cells hsb.out).2.2.2.2.2) HB4.out.2 HX6.out.1 HX6.out.2.1 HXA.out.2.1 HY.out.2.1 HY.out.2.2 HR12.out.2
   have hch:nc=(ch|| !decide (cu kv key=some val)):=by rw[hnc.out,HLV.out.1,HLV.out.2];cases cu kv key<;>simp
   have hcc:c4=4*((2+eU val:Nat):Int):=by rw[HC4.out.1,HC4.out.2,hbc.out]
   rw[hval.out]
   exact⟨F',F0',hFr,.inl ⟨Q,by rw[←hcc,←hch];rfl,hJT,HX6.out.2.2.2⟩⟩
  ·rw[show w9.setCell ⟨sb,5,none⟩ (.bool (!lv.toList==val.toList))=w10 from by
    rw[←hw10.out,hnc.out,show ch=false from rT.2 (by assumption),show lb=true by assumption]
    by_cases e:lv=val
    ·rw[Qo e,e];simp
    ·rw[PX e];simp[e]]
   go_wp2_with (first
    |(go_at_call 41;go_must ((refine HRP.out.mono ?_);rintro e w11 ⟨rfl,hR11,hk11⟩;refine Stop.of ?_)))
   refine Stop.on ?_
   have hB11:=HXA.out.1.keep hk11 (fun g hg e=>by have e:g=rt:=e;have:=HXA.out.2.2;omega)
   obtain⟨⟨a0,a1,a2,a3,a4,a5⟩,_,⟨r0,r1,r2,r3,r4,r5⟩,_,fr,ls⟩:=hB11.cells hsb.out
   rw[show sb+2=rb from hrb.out] at r0 r1 r2 r3 r4 r5 fr ls
   have l0:sb<w11.heap.size:=by have:=hrb.out;omega
   have f0:=fr 0;have f1:=fr 1;have f2:=fr 2;have f3:=fr 3;have f4:=fr 4;have f5:=fr 5
   have HY:=af (ax hB11 (ax hk11 hR11))
   clear hB11 hk11 hR11 fr
   obtain⟨w12,hw12⟩:∃w12:World,Hid ((((((w11.setCell ⟨rb,0,none⟩ (.pointer (some ⟨t,0,none⟩))).setCell ⟨rb,1,none⟩ (.pointer (some ⟨rt,0,none⟩))).setCell ⟨rb,2,none⟩ (.int .i64 (room+c4))).setCell ⟨rb,3,none⟩ (.int .i64 (log+c4+64))).setCell ⟨rb,4,none⟩ (.int .i64 0)).setCell ⟨rb,5,none⟩ (.bool nc)=w12):=⟨_,af rfl⟩
   have hk12:Keep (· =rb) w11 w12:=by
    rw[←hw12.out]
    exact((((((Keep.refl (· =rb) w11).setCell (p:=⟨rb,0,none⟩) (.inr rfl) _).setCell (p:=⟨rb,1,none⟩) (.inr rfl) _).setCell (p:=⟨rb,2,none⟩) (.inr rfl) _).setCell (p:=⟨rb,3,none⟩) (.inr rfl) _).setCell (p:=⟨rb,4,none⟩) (.inr rfl) _).setCell (p:=⟨rb,5,none⟩) (.inr rfl) _
   have hr11:w11.heap[rb]? =some (.cells #[.pointer none,.pointer none,.int .i64 0,.int .i64 0,.int .i64 0,.bool false] 60 (0,0)):=by
    have:=HY.out.1.r
    rwa [show w.heap.size+2=rb by have:=hsb.out;have:=hrb.out;omega] at this
   have hr12:w12.heap[rb]? =some (.cells #[.pointer (some ⟨t,0,none⟩),.pointer (some ⟨rt,0,none⟩),.int .i64 (room+c4),.int .i64 (log+c4+64),.int .i64 0,.bool nc] 60 (0,0)):=by
    rw[←hw12.out]
    simp[World.setCell,aL,hr11]
   have HR12:=af (ax hr12 hk12)
   clear hr11 hr12 hk12
   go_wp2_with fail
   rw[hw12.out]
   refine gG (fM rfl _ w12 rb _ (.bool true) rfl (jw w12 rb 60 60 _ (0,0) _ HR12.out.1 Tryz.underlying60 rfl (by kernel_rfl)) rfl) rfl ?_
   obtain⟨F',F0',hFr,hJT⟩:=rF HFF.out HF0.out HRT.out hsb.out hrb.out (hrb.out▸(HB4.out.1.cells hsb.out).2.2.2.2.2) HB4.out.2 HX6.out.1 HX6.out.2.1 HXA.out.2.1 HY.out.2.1 HY.out.2.2 HR12.out.2
   have hch:nc=(ch|| !decide (cu kv key=some val)):=by rw[hnc.out,HLV.out.1,HLV.out.2];cases cu kv key<;>simp
   have hcc:c4=4*((2+eU val:Nat):Int):=by rw[HC4.out.1,HC4.out.2,hbc.out]
   rw[hval.out]
   exact⟨F',F0',hFr,.inl ⟨Q,by rw[←hcc,←hch];rfl,hJT,HX6.out.2.2.2⟩⟩
  ·rw[show w9.setCell ⟨sb,5,none⟩ (.bool true)=w10 from by rw[←hw10.out,hnc.out,show ch=false from rT.2 (by assumption),show lb=false from rT.2 (by assumption)];rfl]
   go_wp2_with (first
    |(go_at_call 41;go_must ((refine HRP.out.mono ?_);rintro e w11 ⟨rfl,hR11,hk11⟩;refine Stop.of ?_)))
   refine Stop.on ?_
   have hB11:=HXA.out.1.keep hk11 (fun g hg e=>by have e:g=rt:=e;have:=HXA.out.2.2;omega)
   obtain⟨⟨a0,a1,a2,a3,a4,a5⟩,_,⟨r0,r1,r2,r3,r4,r5⟩,_,fr,ls⟩:=hB11.cells hsb.out
   rw[show sb+2=rb from hrb.out] at r0 r1 r2 r3 r4 r5 fr ls
   have l0:sb<w11.heap.size:=by have:=hrb.out;omega
   have f0:=fr 0;have f1:=fr 1;have f2:=fr 2;have f3:=fr 3;have f4:=fr 4;have f5:=fr 5
   have HY:=af (ax hB11 (ax hk11 hR11))
   clear hB11 hk11 hR11 fr
   obtain⟨w12,hw12⟩:∃w12:World,Hid ((((((w11.setCell ⟨rb,0,none⟩ (.pointer (some ⟨t,0,none⟩))).setCell ⟨rb,1,none⟩ (.pointer (some ⟨rt,0,none⟩))).setCell ⟨rb,2,none⟩ (.int .i64 (room+c4))).setCell ⟨rb,3,none⟩ (.int .i64 (log+c4+64))).setCell ⟨rb,4,none⟩ (.int .i64 0)).setCell ⟨rb,5,none⟩ (.bool nc)=w12):=⟨_,af rfl⟩
   have hk12:Keep (· =rb) w11 w12:=by
    rw[←hw12.out]
    exact((((((Keep.refl (· =rb) w11).setCell (p:=⟨rb,0,none⟩) (.inr rfl) _).setCell (p:=⟨rb,1,none⟩) (.inr rfl) _).setCell (p:=⟨rb,2,none⟩) (.inr rfl) _).setCell (p:=⟨rb,3,none⟩) (.inr rfl) _).setCell (p:=⟨rb,4,none⟩) (.inr rfl) _).setCell (p:=⟨rb,5,none⟩) (.inr rfl) _
   have hr11:w11.heap[rb]? =some (.cells #[.pointer none,.pointer none,.int .i64 0,.int .i64 0,.int .i64 0,.bool false] 60 (0,0)):=by
    have:=HY.out.1.r
    rwa [show w.heap.size+2=rb by have:=hsb.out;have:=hrb.out;omega] at this
   have hr12:w12.heap[rb]? =some (.cells #[.pointer (some ⟨t,0,none⟩),.pointer (some ⟨rt,0,none⟩),.int .i64 (room+c4),.int .i64 (log+c4+64),.int .i64 0,.bool nc] 60 (0,0)):=by
    rw[←hw12.out]
    simp[World.setCell,aL,hr11]
   have HR12:=af (ax hr12 hk12)
   clear hr11 hr12 hk12
   go_wp2_with fail
   rw[hw12.out]
   refine gG (fM rfl _ w12 rb _ (.bool true) rfl (jw w12 rb 60 60 _ (0,0) _ HR12.out.1 Tryz.underlying60 rfl (by kernel_rfl)) rfl) rfl ?_
   obtain⟨F',F0',hFr,hJT⟩:=rF HFF.out HF0.out HRT.out hsb.out hrb.out (hrb.out▸(HB4.out.1.cells hsb.out).2.2.2.2.2) HB4.out.2 HX6.out.1 HX6.out.2.1 HXA.out.2.1 HY.out.2.1 HY.out.2.2 HR12.out.2
   have hch:nc=(ch|| !decide (cu kv key=some val)):=by rw[hnc.out,HLV.out.1,HLV.out.2];cases cu kv key<;>simp
   have hcc:c4=4*((2+eU val:Nat):Int):=by rw[HC4.out.1,HC4.out.2,hbc.out]
   rw[hval.out]
   exact⟨F',F0',hFr,.inl ⟨Q,by rw[←hcc,←hch];rfl,hJT,HX6.out.2.2.2⟩⟩
 ·refine Stop.on ?_
  have hk6:=hE6.lC
  have hB6:=HB4.out.1.keep hk6 (fun g hg e=>e (HSF.out g hg))
  obtain⟨⟨a0,a1,a2,a3,a4,a5⟩,⟨o0,o1,o2,o3⟩,⟨r0,r1,r2,r3,r4,r5⟩,fs,fr,ls⟩:=hB6.cells hsb.out
  rw[show sb+2=rb from hrb.out] at r0 r1 r2 r3 r4 r5 fr ls
  rw[hob.out] at o0 o1 o2 o3
  have l0:sb<w6.heap.size:=by have:=hrb.out;omega
  have l1:ob<w6.heap.size:=by have:=hrb.out;have:=hob.out;omega
  have f2:=fs 2;have f3:=fs 3;have f5:=fs 5
  have HLOW:=af hlow;clear hlow
  have HX6:=af (ax hE6 (ax hk6 hB6))
  clear hE6 hk6 hB6 fs fr
  go_wp2_with (first
   |(go_at_call 38;go_must ((refine(HG.out w6).mono ?_);rintro e w7 ⟨hw,rfl⟩;subst w7)))
  obtain⟨cst,hcst⟩:∃cst:Int,cst=((2+bc:Nat):Int):=⟨_,rfl⟩
  obtain⟨c4,hc4⟩:∃c4:Int,c4=4*cst:=⟨_,rfl⟩
  have q1:IntKind.i64.wrap (4*cst)=c4:=by rw[aF _ (by omega),hc4]
  have q2:IntKind.i64.wrap (room+c4)=room+c4:=aF _ (by omega)
  have q3:IntKind.i64.wrap (log+c4)=log+c4:=aF _ (by omega)
  have q4:IntKind.i64.wrap (log+c4+64)=log+c4+64:=aF _ (by omega)
  have hCO:=HCO.out
  rw[←hcst] at hCO
  have HCO2:=af hCO
  have HC4:=af (ax hc4 hcst)
  clear hc4 hCO hcst
  refine aO (fun W=>W.cell? ⟨sb,2,none⟩=some (.int .i64 room)∧sb<W.heap.size∧W.frozen? ⟨sb,2,none⟩=false) (fun i=> !([3,7].contains i)) [0,1,2,3,4,5,6,7] rfl (by kernel_rfl) ⟨a2,l0,f2⟩ ?_
  repeat ((refine bG (v:= ?_) rfl rfl (fun _ _ _ h=>h) rfl (fun W hW=> ?_) ?_);rotate_left;(focus ((try dsimp only at hW);obtain⟨x0,x1,x2⟩:=hW;(go_simp;first|done|with_reducible rfl)));(try simp only[Act.put,ai,au,aj]))
  refine dz rfl rfl rfl ?_;intro K hK;go_simp
  refine(HCO2.out _).mono ?_;rintro e w7 ⟨hw7,rfl⟩;subst w7
  refine hK.out _ _ ⟨a2,l0,f2⟩ ?_
  (try simp only[Act.put,ai,au,aj])
  repeat ((refine bG (v:= ?_) rfl rfl (fun _ _ _ h=>h) rfl (fun W hW=> ?_) ?_);rotate_left;(focus ((try dsimp only at hW);obtain⟨x0,x1,x2⟩:=hW;(go_simp;first|done|with_reducible rfl)));(try simp only[Act.put,ai,au,aj]))
  refine iN rfl rfl rfl (by kernel_rfl) ?_;intro K hK;go_simp
  refine hK.out _ _ ?_
  refine bK ?_
  obtain⟨hB7,hk7⟩:=HX6.out.2.2.set2 hsb.out (room+c4)
  have hB7:=hB7.drew
  have hk7:=hk7.drew
  obtain⟨w7,hw7⟩:∃w7:World,Hid ((w6.setCell ⟨sb,2,none⟩ (.int .i64 (room+c4))).drew=w7):=⟨_,af rfl⟩
  rw[hw7.out] at hB7 hk7 ⊢
  clear a0 a1 a2 a3 a4 a5 o0 o1 o2 o3 r0 r1 r2 r3 r4 r5 ls l0 l1 f2 f3 f5
  obtain⟨⟨a0,a1,a2,a3,a4,a5⟩,⟨o0,o1,o2,o3⟩,_,fs,_,ls⟩:=hB7.cells hsb.out
  rw[hob.out] at o0 o1 o2 o3
  have l0:sb<w7.heap.size:=by omega
  have f3:=fs 3
  have HX7:=af (ax hB7 hk7)
  clear hB7 hk7 fs
  go_wp2_with fail
  refine aO (fun W=>W.cell? ⟨sb,3,none⟩=some (.int .i64 log)∧sb<W.heap.size∧W.frozen? ⟨sb,3,none⟩=false) (fun i=> !([3,7].contains i)) [0,1,2,3,4,5,6,7] rfl (by kernel_rfl) ⟨a3,l0,f3⟩ ?_
  repeat ((refine bG (v:= ?_) rfl rfl (fun _ _ _ h=>h) rfl (fun W hW=> ?_) ?_);rotate_left;(focus ((try dsimp only at hW);obtain⟨x0,x1,x2⟩:=hW;(go_simp;first|done|with_reducible rfl)));(try simp only[Act.put,ai,au,aj]))
  refine dz rfl rfl rfl ?_;intro K hK;go_simp
  refine(HCO2.out _).mono ?_;rintro e w8 ⟨hw8,rfl⟩;subst w8
  refine hK.out _ _ ⟨a3,l0,f3⟩ ?_
  (try simp only[Act.put,ai,au,aj])
  repeat ((refine bG (v:= ?_) rfl rfl (fun _ _ _ h=>h) rfl (fun W hW=> ?_) ?_);rotate_left;(focus ((try dsimp only at hW);obtain⟨x0,x1,x2⟩:=hW;(go_simp;first|done|with_reducible rfl)));(try simp only[Act.put,ai,au,aj]))
  refine iN rfl rfl rfl (by kernel_rfl) ?_;intro K hK;go_simp
  refine hK.out _ _ ?_
  refine bK ?_
  obtain⟨hB8,hk8⟩:=HX7.out.1.J5 hsb.out (log+c4)
  have hB8:=hB8.drew
  have hk8:=hk8.drew
  obtain⟨w8,hw8⟩:∃w8:World,Hid ((w7.setCell ⟨sb,3,none⟩ (.int .i64 (log+c4))).drew=w8):=⟨_,af rfl⟩
  rw[hw8.out] at hB8 hk8 ⊢
  clear a0 a1 a2 a3 a4 a5 o0 o1 o2 o3 l0 f3 ls
  obtain⟨⟨a0,a1,a2,a3,a4,a5⟩,⟨o0,o1,o2,o3⟩,_,fs,_,ls⟩:=hB8.cells hsb.out
  rw[hob.out] at o0 o1 o2 o3
  have l0:sb<w8.heap.size:=by omega
  have f3:=fs 3
  have HX8:=af (ax hB8 (HX7.out.2.trans hk8 (fun _ _ e=>e)))
  clear hB8 hk8 fs
  go_upto_region 17 with (fail)
  obtain⟨hB9,hk9⟩:=HX8.out.1.J5 hsb.out (log+c4+64)
  obtain⟨w9,hw9⟩:∃w9:World,Hid (w8.setCell ⟨sb,3,none⟩ (.int .i64 (log+c4+64))=w9):=⟨_,af rfl⟩
  rw[hw9.out] at hB9 hk9 ⊢
  have hk69:Keep (· =sb) w6 w9:=HX8.out.2.trans hk9 (fun _ _ e=>e)
  have hR9:=(HR4.out.prog (HX6.out.2.1.out (fun g e=> .inl (HFF.out g e)))).prog (hk69.mono (fun g _ e hf=>by have:=HF0.out g hf;have:=hsb.out;have e:g=sb:=e;omega))
  clear a0 a1 a2 a3 a4 a5 o0 o1 o2 o3 l0 f3 ls
  obtain⟨⟨a0,a1,a2,a3,a4,a5⟩,⟨o0,o1,o2,o3⟩,_,fs,_,ls⟩:=hB9.cells hsb.out
  rw[hob.out] at o0 o1 o2 o3
  have l0:sb<w9.heap.size:=by omega
  have f4:=fs 4
  have HX9:=af (ax hB9 (ax hk69 hR9))
  clear hB9 hk9 hk69 hR9 fs
  have hNr:(N:Int)<room+c4:=by
   have h1:=HLOW.out;have h2:=HRM.out;have h3:=HC4.out.1;have h4:=HC4.out.2
   rw[hbc.out] at h1 h2
   omega
  go_upto_region 19 with (fail)
  obtain⟨hBx,hkx⟩:=HX9.out.1.QI hsb.out 12
  obtain⟨wx,hwx⟩:∃wx:World,Hid (w9.setCell ⟨sb,4,none⟩ (.int .i64 12)=wx):=⟨_,af rfl⟩
  rw[hwx.out] at hBx hkx ⊢
  have hk6x:Keep (· =sb) w6 wx:=HX9.out.2.1.trans hkx (fun _ _ e=>e)
  have hEx:=HX6.out.1.next hk6x (fun g e=>HSF.out g (by have e:g=sb:=e;have:=hsb.out;omega))
  have HBL:=af (hEx.below ((aR _ wx).drew)).blocks
  have hRx:=HX9.out.2.2.prog (hkx.mono (fun g _ e hf=>by have:=HF0.out g hf;have:=hsb.out;have e:g=sb:=e;omega))
  clear a0 a1 a2 a3 a4 a5 o0 o1 o2 o3 l0 f4 ls
  obtain⟨_,_,⟨r0,r1,r2,r3,r4,r5⟩,_,fr,ls⟩:=hBx.cells hsb.out
  rw[show sb+2=rb from hrb.out] at r0 r1 r2 r3 r4 r5 fr ls
  have f0:=fr 0;have f1:=fr 1;have f2:=fr 2;have f3:=fr 3;have f4:=fr 4;have f5:=fr 5
  have hs:=hBx.s
  rw[hsb.out] at hs
  have hrx:wx.heap[rb]? =some (.cells #[.pointer none,.pointer none,.int .i64 0,.int .i64 0,.int .i64 0,.bool false] 60 (0,0)):=by
   have:=hBx.r
   rwa [show w.heap.size+2=rb by have:=hsb.out;have:=hrb.out;omega] at this
  obtain⟨wz,hwz⟩:∃wz:World,Hid ((((((wx.setCell ⟨rb,0,none⟩ (.pointer (some ⟨t,0,none⟩))).setCell ⟨rb,1,none⟩ (.pointer (some ⟨rt,0,none⟩))).setCell ⟨rb,2,none⟩ (.int .i64 (room+c4))).setCell ⟨rb,3,none⟩ (.int .i64 (log+c4+64))).setCell ⟨rb,4,none⟩ (.int .i64 12)).setCell ⟨rb,5,none⟩ (.bool ch)=wz):=⟨_,af rfl⟩
  have hkz0:Keep (· =rb) wx wz:=by
   rw[←hwz.out]
   exact((((((Keep.refl (· =rb) wx).setCell (p:=⟨rb,0,none⟩) (.inr rfl) _).setCell (p:=⟨rb,1,none⟩) (.inr rfl) _).setCell (p:=⟨rb,2,none⟩) (.inr rfl) _).setCell (p:=⟨rb,3,none⟩) (.inr rfl) _).setCell (p:=⟨rb,4,none⟩) (.inr rfl) _).setCell (p:=⟨rb,5,none⟩) (.inr rfl) _
  have hrz0:wz.heap[rb]? =some (.cells #[.pointer (some ⟨t,0,none⟩),.pointer (some ⟨rt,0,none⟩),.int .i64 (room+c4),.int .i64 (log+c4+64),.int .i64 12,.bool ch] 60 (0,0)):=by
   rw[←hwz.out]
   simp[World.setCell,aL,hrx]
  have hsz:wz.heap[sb]? =some (.cells #[.pointer (some ⟨t,0,none⟩),.pointer (some ⟨rt,0,none⟩),.int .i64 (room+c4),.int .i64 (log+c4+64),.int .i64 12,.bool ch] 60 (0,0)):=(hkz0.block sb (ah.1 hs).1 (by have:=hrb.out;omega)).trans hs
  have HXX:=af (ax hk6x (ax hRx hrx))
  have HZ:=af (ax hkz0.drew.drew hrz0)
  clear hBx hkx hk6x hEx hRx hrx hkz0 hrz0 fr
  go_wp2_with fail
  refine aO (fun W=>W.heap[sb]? =some (.cells #[.pointer (some ⟨t,0,none⟩),.pointer (some ⟨rt,0,none⟩),.int .i64 (room+c4),.int .i64 (log+c4+64),.int .i64 12,.bool ch] 60 (0,0))) (fun i=> !([7,14].contains i)) [0,1,2,3,4,5,6,7,8,9,10,11,12,13,14,15] rfl (by kernel_rfl) hs ?_
  repeat ((refine bG (v:= ?_) rfl rfl (fun _ _ _ h=>h) rfl (fun W hW=> ?_) ?_);rotate_left;(focus ((try dsimp only at hW);obtain⟨x0,x1,x2,x3,x4,x5,x6⟩:=ja hW;(go_simp;first|done|with_reducible rfl)));(try simp only[Act.put,ai,au,aj]))
  refine dz rfl rfl rfl ?_;intro K hK;go_simp
  refine HBL.out.mono ?_;rintro e w7 ⟨rfl,rfl⟩
  refine hK.out _ _ hs ?_
  (try simp only[Act.put,ai,au,aj])
  repeat ((refine bG (v:= ?_) rfl rfl (fun _ _ _ h=>h) rfl (fun W hW=> ?_) ?_);rotate_left;(focus ((try dsimp only at hW);obtain⟨x0,x1,x2,x3,x4,x5,x6⟩:=ja hW;(go_simp;first|done|with_reducible rfl)));(try simp only[Act.put,ai,au,aj]))
  refine dz rfl rfl rfl ?_;intro K hK;go_simp
  rw[hwz.out]
  refine hK.out _ _ hsz ?_
  (try simp only[Act.put,ai,au,aj])
  repeat ((refine bG (v:= ?_) rfl rfl (fun _ _ _ h=>h) rfl (fun W hW=> ?_) ?_);rotate_left;(focus ((try dsimp only at hW);obtain⟨x0,x1,x2,x3,x4,x5,x6⟩:=ja hW;(go_simp;first|done|with_reducible rfl)));(try simp only[Act.put,ai,au,aj]))
  refine bK ?_
  go_wp2_with fail
  refine gG (fM rfl _ wz.drew.drew rb _ _ rfl (jw wz.drew.drew rb 60 60 _ (0,0) _ HZ.out.2 Tryz.underlying60 rfl (by kernel_rfl)) rfl) rfl ?_
  obtain⟨F',F0',hFr,hJE⟩:=yB HFF.out HF0.out hsb.out hrb.out (hrb.out▸(HB4.out.1.cells hsb.out).2.2.2.2.2) HB4.out.2 HX6.out.1 HX6.out.2.1 HXX.out.1 HXX.out.2.1 HZ.out.1
  have hcc:c4=4*((2+eU val:Nat):Int):=by rw[HC4.out.1,HC4.out.2,hbc.out]
  rw[hval.out]
  exact⟨F',F0',hFr,.inr ⟨by rw[←hcc];rfl,hJE⟩⟩
theorem Fg (F F0:Nat→Prop) (hF:∀g,F0 g→F g) (v r t rt N R u P:Nat) (kv0 kv:List Pr) (cms:List (List Pr)) (ch:Bool) (room log k n:Int) (key value:ByteArray) (w:World) (hJ:JT F F0 v r t rt N R u P cms kv0 kv ch w) (hk:0≤k∧k≤255) (hv:value.size≤maxLen) (hgood:1≤key.size∧key.size≤128) (hkk:¬k%8=0) (hr:dY kv) (hl:kv.length≤299) (hlog:0≤log∧log≤100000000) (hrm:((2+u+kG kv+2*(kv.length+1):Nat):Int)≤room):
  Calls Tryz.prog 27 #[.pointer (some ⟨v,0,none⟩),.agg #[.pointer (some ⟨t,0,none⟩),.pointer (some ⟨rt,0,none⟩),.int .i64 room,.int .i64 log,.int .i64 0,.bool ch],.agg #[.int .u8 k,.string key,.string value,.int .i64 n]] w fun e w'=>
   ∃F' F0',Fr F F0 w F' F0' w'∧
    ((e= .returned (.tuple #[mR t rt room (log+64) 0 (ch||(cu kv key).isSome),.bool true])∧
      JT F' F0' v r t rt N R u (P+65) cms kv0 (iW kv key) (ch||(cu kv key).isSome) w')∨
     (e= .returned (.tuple #[mR t rt room (log+64) 12 ch,.bool true])∧JE F' F0' v r t rt N R u cms kv0 kv w')):=by
 obtain⟨hbx,hb3,hz3⟩:=Bx.new w t rt room log 0 ch k n key value
 obtain⟨w3,hw3⟩:∃w3:World,Hid ((((w.alloc (.cells #[.pointer (some ⟨t,0,none⟩),.pointer (some ⟨rt,0,none⟩),.int .i64 room,.int .i64 log,.int .i64 0,.bool ch] 60)).alloc (.cells #[.int .u8 k,.string key,.string value,.int .i64 n] 24)).alloc (.cells #[.pointer none,.pointer none,.int .i64 0,.int .i64 0,.int .i64 0,.bool false] 60))=w3):=⟨_,af rfl⟩
 rw[hw3.out] at hbx hb3 hz3
 obtain⟨sb,hsb⟩:∃sb:Nat,Hid (w.heap.size=sb):=⟨_,af rfl⟩
 have HTX:=af (vU value n w3 hv)
 obtain⟨⟨a0,a1,a2,a3,a4,a5⟩,⟨o0,o1,o2,o3⟩,_,_,_,ls⟩:=hbx.cells hsb.out
 have l0:sb<w3.heap.size:=by omega
 have l1:sb+1<w3.heap.size:=by omega
 have HX:=af (ax hbx (ax hb3 hz3))
 obtain⟨val,hval⟩:∃s,Hid (strOf (lK value n)=s):=⟨_,af rfl⟩
 rw[hval.out] at HTX
 clear hbx hb3 hz3
 go_enter Tryz.func27,Tryz.ntmps27
 go_upto_region 1 with (fail)
 rw[hw3.out,hsb.out]
 obtain⟨rb,hrb⟩:∃rb:Nat,Hid (sb+1+1=rb):=⟨_,af rfl⟩
 rw[hrb.out]
 obtain⟨ob,hob⟩:∃ob:Nat,Hid (sb+1=ob):=⟨_,af rfl⟩
 rw[hob.out] at o0 o1 o2 o3 l1 ⊢
 go_wp2_with (first
  |(go_at_call 17;go_must ((refine HTX.out.mono ?_);rintro e w4 ⟨rfl,hb4⟩;refine Stop.of ?_)))
 refine Stop.on ?_
 have hb14:=HX.out.2.1.trans (hb4.mono HX.out.2.1.size)
 have hE4:=hJ.1.below hb14
 have hB4:=HX.out.1.keep (Keep.of_below hb4 (fun _=>False)) (fun _ _ e=>e)
 obtain⟨⟨a0,a1,a2,a3,a4,a5⟩,⟨o0,o1,o2,o3⟩,⟨r0,r1,r2,r3,r4,r5⟩,_,fr,ls⟩:=hB4.cells hsb.out
 rw[show sb+2=rb from hrb.out] at r0 r1 r2 r3 r4 r5 fr ls
 rw[hob.out] at o0 o1 o2 o3
 have l0:sb<w4.heap.size:=by have:=hrb.out;omega
 have l1:ob<w4.heap.size:=by have:=hrb.out;have:=hob.out;omega
 have f0:=fr 0;have f1:=fr 1;have f2:=fr 2;have f3:=fr 3;have f4:=fr 4;have f5:=fr 5
 have HB4:=af (ax hB4 hb14)
 have hT4:kH ⟨iG F w w4,w4⟩ v t N R cms.length u kv0 kv ch P w4:=hJ.1.next (M:=fun _=>False) (Keep.of_below hb14 _) (fun _ e=>e.elim)
 have hR4:=hJ.2.prog (Keep.of_below hb14 (fun g=>¬F0 g))
 have HPU:=af (hT4.OG key (by omega) hgood hl)
 have hG:=xD key ⟨#[]⟩
 rw[dI (show qw key ⟨#[]⟩ from⟨hgood,by decide⟩)] at hG
 have HG:=af hG
 clear hG
 have HR4:=af hR4
 have hfs0:∀g,F0 g→g<w.heap.size:=fun g e=>hJ.1.fs g (hF g e)
 clear hT4 hR4 hgood
 clear hB4 hb14 hb4 hE4 fr hJ hv
 have HF0:=af hfs0;have HFF:=af hF;have HRM:=af hrm;clear hrm
 have hsbF:∀g,w.heap.size≤g∧g≤w.heap.size+2→iG F w w4 g:=fun g hg=> .inr ⟨hg.1,by have:=hsb.out;have:=hrb.out;omega⟩
 have HSF:=af hsbF
 clear hsbF
 have q4:IntKind.i64.wrap (log+64)=log+64:=aF _ (by omega)
 go_wp2_with (first
  |(go_at_call 19;go_must ((refine HPU.out.mono ?_);rintro e w6 (⟨rfl,hT6⟩|⟨rfl,hlow,hE6⟩)<;>refine Stop.of ?_)))
 ·refine Stop.on ?_
  have hk6:=hT6.lC
  have hB6:=HB4.out.1.keep hk6 (fun g hg e=>e (HSF.out g hg))
  obtain⟨⟨a0,a1,a2,a3,a4,a5⟩,⟨o0,o1,o2,o3⟩,⟨r0,r1,r2,r3,r4,r5⟩,fs,fr,ls⟩:=hB6.cells hsb.out
  rw[show sb+2=rb from hrb.out] at r0 r1 r2 r3 r4 r5 fr ls
  rw[hob.out] at o0 o1 o2 o3
  have l0:sb<w6.heap.size:=by have:=hrb.out;omega
  have l1:ob<w6.heap.size:=by have:=hrb.out;have:=hob.out;omega
  have f3:=fs 3
  have HX6:=af (ax hT6 (ax hk6 hB6))
  clear hT6 hk6 hB6 fs fr
  go_upto_region 17 with (first
   |(go_at_call 38;go_must ((refine(HG.out w6).mono ?_);rintro e w7 ⟨hw,rfl⟩;subst w7)))
  obtain⟨hB9,hk9⟩:=HX6.out.2.2.J5 hsb.out (log+64)
  obtain⟨w9,hw9⟩:∃w9:World,Hid (w6.setCell ⟨sb,3,none⟩ (.int .i64 (log+64))=w9):=⟨_,af rfl⟩
  rw[hw9.out] at hB9 hk9 ⊢
  have hsb0:¬F0 sb:=fun e=>by
   have:=HF0.out sb e
   have:=hsb.out
   omega
  have hR9:=(HR4.out.prog (HX6.out.2.1.out (fun g e=> .inl (HFF.out g e)))).prog (hk9.mono (fun g _ e hf=>hsb0 (e▸hf)))
  clear a0 a1 a2 a3 a4 a5 o0 o1 o2 o3 l0 l1 f3 ls
  obtain⟨⟨a0,a1,a2,a3,a4,a5⟩,⟨o0,o1,o2,o3⟩,_,fs,_,ls⟩:=hB9.cells hsb.out
  rw[hob.out] at o0 o1 o2 o3
  have l0:sb<w9.heap.size:=by omega
  have l1:ob<w9.heap.size:=by have:=hob.out;omega
  have f5:=fs 5
  have HRG:=af (hR9.get key hr (by omega))
  have HX9:=af (ax hB9 (ax hk9 hR9))
  clear hB9 hk9 hR9 fs
  obtain⟨lv,hlv⟩:∃lv,lv=(cu kv key).getD ⟨#[]⟩:=⟨_,rfl⟩
  obtain⟨lb,hlb⟩:∃lb,lb=(cu kv key).isSome:=⟨_,rfl⟩
  rw[←hlv,←hlb] at HRG
  have HLV:=af (ax hlv hlb)
  clear hlv hlb
  go_upto_region 25 with (first
   |(go_at_call 73;go_must ((refine HRG.out.mono ?_);rintro e w10 ⟨rfl,hw⟩;subst w10)))
  obtain⟨nc,hnc⟩:∃nc:Bool,Hid (nc=(ch||lb)):=⟨_,af rfl⟩
  obtain⟨hBA,hkA⟩:=HX9.out.1.QH hsb.out nc
  obtain⟨w10,hw10⟩:∃w10:World,Hid (w9.setCell ⟨sb,5,none⟩ (.bool nc)=w10):=⟨_,af rfl⟩
  rw[hw10.out] at hBA hkA
  have hk6A:Keep (· =sb) w6 w10:=HX9.out.2.1.trans hkA (fun _ _ e=>e)
  have hRA:=HX9.out.2.2.prog (hkA.mono (fun g _ e hf=>hsb0 (e▸hf)))
  have hrt:F0 rt:=by obtain⟨cv,Ls,_,_,_,_,_,_,_,h,_⟩:=hRA;exact h
  have hrtl:=HF0.out rt hrt
  have hRAd:uM F0 w10.drew r rt (cms++[kv0]) kv:=hRA
  have HRD:=af (hRAd.delete key hr (by omega))
  have HRT:=af hrt
  have hsA:=hBA.s
  have hoA:=hBA.o
  rw[hsb.out] at hsA hoA
  rw[hob.out] at hoA
  have HXA:=af (ax hBA (ax hk6A hrtl))
  clear hBA hk6A hkA hRA hRAd hrt hrtl ls
  go_upto_region 26 with (fail)
  all_goals
   first
   |rw[show w9.setCell ⟨sb,5,none⟩ (.bool true)=w10 from by rw[←hw10.out,hnc.out,show ch=true by assumption];rfl]
   |rw[show w9.setCell ⟨sb,5,none⟩ (.bool lb)=w10 from by rw[←hw10.out,hnc.out,show ch=false from rT.2 (by assumption)];rfl]
   clear a0 a1 a2 a3 a4 a5 o0 o1 o2 o3 l0 l1 f5
   refine aO (fun W=>W.heap[sb]? =some (.cells #[.pointer (some ⟨t,0,none⟩),.pointer (some ⟨rt,0,none⟩),.int .i64 room,.int .i64 (log+64),.int .i64 0,.bool nc] 60 (0,0))∧W.heap[ob]? =some (.cells #[.int .u8 k,.string key,.string value,.int .i64 n] 24 (0,0))) (fun i=> !([6,8].contains i)) [0,1,2,3,4,5,6,7,8,9] rfl (by kernel_rfl) ⟨hsA,hoA⟩ ?_
   repeat ((refine bG (v:= ?_) rfl rfl (fun _ _ _ h=>h) rfl (fun W hW=> ?_) ?_);rotate_left;(focus ((try dsimp only at hW);obtain⟨hs,ho⟩:=hW;obtain⟨x0,x1,x2,x3,x4,x5,x6⟩:=ja hs;obtain⟨y1,y2⟩:=Ab ho;(go_simp;first|done|with_reducible rfl)));(try simp only[Act.put,ai,au,aj]))
   refine dz rfl rfl rfl ?_;intro K hK;go_simp
   refine HRD.out.mono ?_;rintro e w11 ⟨rfl,hR11,hk11⟩
   have hk11:Keep (· =rt) w10 w11:=⟨hk11.os,hk11.tape,hk11.output,hk11.size,hk11.block⟩
   have hB11:=HXA.out.1.keep hk11 (fun g hg e=>by have e:g=rt:=e;have:=HXA.out.2.2;omega)
   have hs11:=hB11.s
   have ho11:=hB11.o
   rw[hsb.out] at hs11 ho11
   rw[hob.out] at ho11
   refine hK.out _ _ ⟨hs11,ho11⟩ ?_
   (try simp only[Act.put,ai,au,aj])
   rw[←HLV.out.2]
   obtain⟨_,_,⟨r0,r1,r2,r3,r4,r5⟩,_,fr,ls⟩:=hB11.cells hsb.out
   rw[show sb+2=rb from hrb.out] at r0 r1 r2 r3 r4 r5 fr ls
   have f0:=fr 0;have f1:=fr 1;have f2:=fr 2;have f3:=fr 3;have f4:=fr 4;have f5:=fr 5
   have HY:=af (ax hB11 (ax hk11 hR11))
   clear hB11 hk11 hR11 fr
   obtain⟨w12,hw12⟩:∃w12:World,Hid ((((((w11.setCell ⟨rb,0,none⟩ (.pointer (some ⟨t,0,none⟩))).setCell ⟨rb,1,none⟩ (.pointer (some ⟨rt,0,none⟩))).setCell ⟨rb,2,none⟩ (.int .i64 room)).setCell ⟨rb,3,none⟩ (.int .i64 (log+64))).setCell ⟨rb,4,none⟩ (.int .i64 0)).setCell ⟨rb,5,none⟩ (.bool nc)=w12):=⟨_,af rfl⟩
   have hk12:Keep (· =rb) w11 w12:=by
    rw[←hw12.out]
    exact((((((Keep.refl (· =rb) w11).setCell (p:=⟨rb,0,none⟩) (.inr rfl) _).setCell (p:=⟨rb,1,none⟩) (.inr rfl) _).setCell (p:=⟨rb,2,none⟩) (.inr rfl) _).setCell (p:=⟨rb,3,none⟩) (.inr rfl) _).setCell (p:=⟨rb,4,none⟩) (.inr rfl) _).setCell (p:=⟨rb,5,none⟩) (.inr rfl) _
   have hr11:w11.heap[rb]? =some (.cells #[.pointer none,.pointer none,.int .i64 0,.int .i64 0,.int .i64 0,.bool false] 60 (0,0)):=by
    have:=HY.out.1.r
    rwa [show w.heap.size+2=rb by have:=hsb.out;have:=hrb.out;omega] at this
   have hr12:w12.heap[rb]? =some (.cells #[.pointer (some ⟨t,0,none⟩),.pointer (some ⟨rt,0,none⟩),.int .i64 room,.int .i64 (log+64),.int .i64 0,.bool nc] 60 (0,0)):=by
    rw[←hw12.out]
    simp[World.setCell,aL,hr11]
   have hs12:=(hk12.block sb (ah.1 hs11).1 (by have:=hrb.out;omega)).trans hs11
   have ho12:=(hk12.block ob (ah.1 ho11).1 (by have:=hrb.out;have:=hob.out;omega)).trans ho11
   have HR12:=af (ax hr12 hk12)
   clear hr11 hr12 hk12
   repeat ((refine bG (v:= ?_) rfl rfl (fun _ _ _ h=>h) rfl (fun W hW=> ?_) ?_);rotate_left;(focus ((try dsimp only at hW);obtain⟨hs,ho⟩:=hW;obtain⟨x0,x1,x2,x3,x4,x5,x6⟩:=ja hs;obtain⟨y1,y2⟩:=Ab ho;(go_simp;first|done|with_reducible rfl)));(try simp only[Act.put,ai,au,aj]))
   refine dz rfl rfl rfl ?_;intro K hK;go_simp
   rw[hw12.out]
   refine hK.out _ _ ⟨hs12,ho12⟩ ?_
   (try simp only[Act.put,ai,au,aj])
   repeat ((refine bG (v:= ?_) rfl rfl (fun _ _ _ h=>h) rfl (fun W hW=> ?_) ?_);rotate_left;(focus ((try dsimp only at hW);obtain⟨hs,ho⟩:=hW;obtain⟨x0,x1,x2,x3,x4,x5,x6⟩:=ja hs;obtain⟨y1,y2⟩:=Ab ho;(go_simp;first|done|with_reducible rfl)));(try simp only[Act.put,ai,au,aj]))
   refine bK ?_
   go_wp2_with fail
   refine gG (fM rfl _ w12 rb _ _ rfl (jw w12 rb 60 60 _ (0,0) _ HR12.out.1 Tryz.underlying60 rfl (by kernel_rfl)) rfl) rfl ?_
   obtain⟨F',F0',hFr,hJT⟩:=rF HFF.out HF0.out HRT.out hsb.out hrb.out (hrb.out▸(HB4.out.1.cells hsb.out).2.2.2.2.2) HB4.out.2 HX6.out.1 HX6.out.2.1 HXA.out.2.1 HY.out.2.1 HY.out.2.2 HR12.out.2
   have hch:nc=(ch||(cu kv key).isSome):=by rw[hnc.out,HLV.out.2]
   exact⟨F',F0',hFr,.inl ⟨by rw[←hch];simp;rfl,hJT⟩⟩
 ·refine Stop.on ?_
  have hk6:=hE6.lC
  have hB6:=HB4.out.1.keep hk6 (fun g hg e=>e (HSF.out g hg))
  obtain⟨⟨a0,a1,a2,a3,a4,a5⟩,⟨o0,o1,o2,o3⟩,⟨r0,r1,r2,r3,r4,r5⟩,fs,fr,ls⟩:=hB6.cells hsb.out
  rw[show sb+2=rb from hrb.out] at r0 r1 r2 r3 r4 r5 fr ls
  rw[hob.out] at o0 o1 o2 o3
  have l0:sb<w6.heap.size:=by have:=hrb.out;omega
  have l1:ob<w6.heap.size:=by have:=hrb.out;have:=hob.out;omega
  have f3:=fs 3
  have HLOW:=af hlow;clear hlow
  have HX6:=af (ax hE6 (ax hk6 hB6))
  clear hE6 hk6 hB6 fs fr
  go_upto_region 17 with (first
   |(go_at_call 38;go_must ((refine(HG.out w6).mono ?_);rintro e w7 ⟨hw,rfl⟩;subst w7)))
  obtain⟨hB9,hk9⟩:=HX6.out.2.2.J5 hsb.out (log+64)
  obtain⟨w9,hw9⟩:∃w9:World,Hid (w6.setCell ⟨sb,3,none⟩ (.int .i64 (log+64))=w9):=⟨_,af rfl⟩
  rw[hw9.out] at hB9 hk9 ⊢
  have hR9:=(HR4.out.prog (HX6.out.2.1.out (fun g e=> .inl (HFF.out g e)))).prog (hk9.mono (fun g _ e hf=>by have:=HF0.out g hf;have:=hsb.out;have e:g=sb:=e;omega))
  clear a0 a1 a2 a3 a4 a5 o0 o1 o2 o3 l0 l1 f3 ls
  obtain⟨⟨a0,a1,a2,a3,a4,a5⟩,⟨o0,o1,o2,o3⟩,_,fs,_,ls⟩:=hB9.cells hsb.out
  rw[hob.out] at o0 o1 o2 o3
  have l0:sb<w9.heap.size:=by omega
  have f4:=fs 4
  have HX9:=af (ax hB9 (ax hk9 hR9))
  clear hB9 hk9 hR9 fs
  have hNr:(N:Int)<room:=by
   have h1:=HLOW.out;have h2:=HRM.out
   omega
  go_upto_region 19 with (fail)
  obtain⟨hBx,hkx⟩:=HX9.out.1.QI hsb.out 12
  obtain⟨wx,hwx⟩:∃wx:World,Hid (w9.setCell ⟨sb,4,none⟩ (.int .i64 12)=wx):=⟨_,af rfl⟩
  rw[hwx.out] at hBx hkx ⊢
  have hk6x:Keep (· =sb) w6 wx:=HX9.out.2.1.trans hkx (fun _ _ e=>e)
  have hEx:=HX6.out.1.next hk6x (fun g e=>HSF.out g (by have e:g=sb:=e;have:=hsb.out;omega))
  have HBL:=af (hEx.below ((aR _ wx).drew)).blocks
  have hRx:=HX9.out.2.2.prog (hkx.mono (fun g _ e hf=>by have:=HF0.out g hf;have:=hsb.out;have e:g=sb:=e;omega))
  clear a0 a1 a2 a3 a4 a5 o0 o1 o2 o3 l0 f4 ls
  obtain⟨_,_,⟨r0,r1,r2,r3,r4,r5⟩,_,fr,ls⟩:=hBx.cells hsb.out
  rw[show sb+2=rb from hrb.out] at r0 r1 r2 r3 r4 r5 fr ls
  have f0:=fr 0;have f1:=fr 1;have f2:=fr 2;have f3:=fr 3;have f4:=fr 4;have f5:=fr 5
  have hs:=hBx.s
  rw[hsb.out] at hs
  have hrx:wx.heap[rb]? =some (.cells #[.pointer none,.pointer none,.int .i64 0,.int .i64 0,.int .i64 0,.bool false] 60 (0,0)):=by
   have:=hBx.r
   rwa [show w.heap.size+2=rb by have:=hsb.out;have:=hrb.out;omega] at this
  obtain⟨wz,hwz⟩:∃wz:World,Hid ((((((wx.setCell ⟨rb,0,none⟩ (.pointer (some ⟨t,0,none⟩))).setCell ⟨rb,1,none⟩ (.pointer (some ⟨rt,0,none⟩))).setCell ⟨rb,2,none⟩ (.int .i64 room)).setCell ⟨rb,3,none⟩ (.int .i64 (log+64))).setCell ⟨rb,4,none⟩ (.int .i64 12)).setCell ⟨rb,5,none⟩ (.bool ch)=wz):=⟨_,af rfl⟩
  have hkz0:Keep (· =rb) wx wz:=by
   rw[←hwz.out]
   exact((((((Keep.refl (· =rb) wx).setCell (p:=⟨rb,0,none⟩) (.inr rfl) _).setCell (p:=⟨rb,1,none⟩) (.inr rfl) _).setCell (p:=⟨rb,2,none⟩) (.inr rfl) _).setCell (p:=⟨rb,3,none⟩) (.inr rfl) _).setCell (p:=⟨rb,4,none⟩) (.inr rfl) _).setCell (p:=⟨rb,5,none⟩) (.inr rfl) _
  have hrz0:wz.heap[rb]? =some (.cells #[.pointer (some ⟨t,0,none⟩),.pointer (some ⟨rt,0,none⟩),.int .i64 room,.int .i64 (log+64),.int .i64 12,.bool ch] 60 (0,0)):=by
   rw[←hwz.out]
   simp[World.setCell,aL,hrx]
  have hsz:wz.heap[sb]? =some (.cells #[.pointer (some ⟨t,0,none⟩),.pointer (some ⟨rt,0,none⟩),.int .i64 room,.int .i64 (log+64),.int .i64 12,.bool ch] 60 (0,0)):=(hkz0.block sb (ah.1 hs).1 (by have:=hrb.out;omega)).trans hs
  have HXX:=af (ax hk6x (ax hRx hrx))
  have HZ:=af (ax hkz0.drew.drew hrz0)
  clear hBx hkx hk6x hEx hRx hrx hkz0 hrz0 fr
  go_wp2_with fail
  refine aO (fun W=>W.heap[sb]? =some (.cells #[.pointer (some ⟨t,0,none⟩),.pointer (some ⟨rt,0,none⟩),.int .i64 room,.int .i64 (log+64),.int .i64 12,.bool ch] 60 (0,0))) (fun i=> !([7,14].contains i)) [0,1,2,3,4,5,6,7,8,9,10,11,12,13,14,15] rfl (by kernel_rfl) hs ?_
  repeat ((refine bG (v:= ?_) rfl rfl (fun _ _ _ h=>h) rfl (fun W hW=> ?_) ?_);rotate_left;(focus ((try dsimp only at hW);obtain⟨x0,x1,x2,x3,x4,x5,x6⟩:=ja hW;(go_simp;first|done|with_reducible rfl)));(try simp only[Act.put,ai,au,aj]))
  refine dz rfl rfl rfl ?_;intro K hK;go_simp
  refine HBL.out.mono ?_;rintro e w7 ⟨rfl,rfl⟩
  refine hK.out _ _ hs ?_
  (try simp only[Act.put,ai,au,aj])
  repeat ((refine bG (v:= ?_) rfl rfl (fun _ _ _ h=>h) rfl (fun W hW=> ?_) ?_);rotate_left;(focus ((try dsimp only at hW);obtain⟨x0,x1,x2,x3,x4,x5,x6⟩:=ja hW;(go_simp;first|done|with_reducible rfl)));(try simp only[Act.put,ai,au,aj]))
  refine dz rfl rfl rfl ?_;intro K hK;go_simp
  rw[hwz.out]
  refine hK.out _ _ hsz ?_
  (try simp only[Act.put,ai,au,aj])
  repeat ((refine bG (v:= ?_) rfl rfl (fun _ _ _ h=>h) rfl (fun W hW=> ?_) ?_);rotate_left;(focus ((try dsimp only at hW);obtain⟨x0,x1,x2,x3,x4,x5,x6⟩:=ja hW;(go_simp;first|done|with_reducible rfl)));(try simp only[Act.put,ai,au,aj]))
  refine bK ?_
  go_wp2_with fail
  refine gG (fM rfl _ wz.drew.drew rb _ _ rfl (jw wz.drew.drew rb 60 60 _ (0,0) _ HZ.out.2 Tryz.underlying60 rfl (by kernel_rfl)) rfl) rfl ?_
  obtain⟨F',F0',hFr,hJE⟩:=yB HFF.out HF0.out hsb.out hrb.out (hrb.out▸(HB4.out.1.cells hsb.out).2.2.2.2.2) HB4.out.2 HX6.out.1 HX6.out.2.1 HXX.out.1 HXX.out.2.1 HZ.out.1
  exact⟨F',F0',hFr,.inr ⟨rfl,hJE⟩⟩
def bP.flushed (σ:bP) (d:Dk) (l:Lg):bP:={σ with H:={σ.H with dk:=d,lg:=l}}
theorem Live.turn {σ σ':bP} {root:Int} {es:List kU} {tb:List Int} (h:Live σ root es tb) (hh:∀x,σ'.hasB x=σ.hasB x) (hm:∀x,σ'.mem x=σ.mem x) (hn:∀x,σ'.held x=σ.held x) (hz:σ'.sz=σ.sz) (hc:countB σ'.H.old σ'.most=countB σ.H.old σ.most):Live σ' root es tb:=by
 have hmv:∀x∈tb++dm es,σ'.hasB x=true∧σ'.mem x=σ.mem x:=fun x hx=>⟨(hh x).trans (h.all x hx).1,hm x⟩
 refine⟨?_,fun e he=>(h.val e he).keep fun x hx=>hmv x (bQ _ (jQ.2 ⟨e,he,hx⟩)),⟨h.own.nd,fun x hx=>h.own.ex x ((hh x).symm.trans hx),?_⟩⟩
 ·rcases h.tree with h|⟨h,ht⟩
  ·exact .inl h
  ·exact .inr ⟨h,ht.move fun x hx=>hmv x (bW _ hx)⟩
 ·rw[hz,hc,h.own.size]
  unfold nh
  congr 3
  funext x
  rw[hn]
section
variable {w:World} {v:Nat} {S:Nat→Prop} {mp:VS} {σ:bP}
structure Qq (σ:bP) (d:Dk) (l:Lg):Prop where
 vi:VI d l σ.H.pg
 last:l.last=σ.H.lg.last
 syn:l.synced=σ.H.lg.last
 n:d.n=σ.H.dk.n
 look:∀im b,σ.H.pg.look im d b=σ.H.pg.look im σ.H.dk b
theorem Qq.blocks {d:Dk} {l:Lg} (h:Qq σ d l):σ.H.pg.blocks d=σ.H.pg.blocks σ.H.dk:=by unfold Pg.blocks;rw[h.n]
theorem Inv.sync (hv:w.heap[v]? =some (.cells #[.pointer (some ⟨mp.pg,0,none⟩)] 102 (0,0))) (h:Inv σ S mp w) (hV:VI σ.H.dk σ.H.lg σ.H.pg):
  Calls Tryz.prog 30 #[.pointer (some ⟨v,0,none⟩)] w fun e w'=>e= .returned (.int .i64 0)∧∃d' l' S',Inv (σ.flushed d' l') S' mp w'∧Step S S' w w'∧Qq σ d' l':=by
 obtain⟨Sp,T,h,hS⟩:=h
 have hok:=h.pg.ok
 have ok:=h.ok
 obtain⟨d',l',e1,e2,e3,e4,e5,e6⟩:=Eu hV hok.1
 have hF:Qq σ d' l':=⟨e2,e3,e4,e5,e6⟩
 refine(QB v mp.pg mp.d _ _ _ _ Sp w hv h.pg ?_).mono ?_
 ·have h1:=hV.wt;have h2:=hok.2.2.us;have h3:=hok.2.2.hi;omega
 rintro e w' ⟨rfl,Sp',hp,hs⟩
 rw[e1] at hp ⊢
 dsimp only at hp ⊢
 have hl:∀g,S g→g<w.heap.size:=fun g hg=>by
  rcases (hS g).1 hg with hg|hg|rfl
  ·exact h.pg.sub g hg
  ·exact h.tx.sub g hg
  ·exact h.map.lt
 have hne:∀g,S g→¬Sp g→¬Sp' g:=fun g hg hn e=>(hs.2 g e).elim hn (fun e=>absurd (hl g hg) (aY.2 e))
 refine⟨rfl,d',l',fun g=>Sp' g∨T g∨g=mp.mp,⟨Sp',T,⟨?_,hp,h.tx.keep hs.1 (fun g hg hsp=>h.dis g hsp hg),h.map.keep (hs.1.block _ h.map.lt h.mpS),fun g hg ht=>hne g ((hS g).2 (.inr (.inl ht))) (fun e=>h.dis g e ht) hg,hne _ ((hS _).2 (.inr (.inr rfl))) h.mpS,h.mpT⟩,fun g=>Lb⟩,⟨hs.1.mono (fun g _ e=>(hS g).2 (.inl e)),fun g hg=> ?_⟩,hF⟩
 ·exact⟨ok.live,e2.free.1,ok.most.trans hF.blocks.symm,ok.two,ok.cap,ok.nhi,ok.ohi,ok.n0,ok.n1,ok.rks,ok.own,ok.szk,fun b hb=>by
   show (σ.H.pg.look σ.im d' b).length=512
   rw[e6]
   exact ok.len b hb⟩
 ·rcases hg with hg|hg|hg
  ·exact(hs.2 g hg).imp (fun e=>(hS g).2 (.inl e)) id
  ·exact .inl ((hS g).2 (.inr (.inl hg)))
  ·exact .inl ((hS g).2 (.inr (.inr hg)))
theorem Qr.sync {root:Nat} {es:List kU} {tb:List Int} (h:Qr σ root es tb) {d':Dk} {l':Lg} (hF:Qq σ d' l'):Qr (σ.flushed d' l') root es tb:=by
 obtain⟨h1,h2,h3⟩:=h
 have hb:=hF.blocks
 have hl:∀b,σ.H.pg.look Im.none d' b=σ.H.pg.look Im.none σ.H.dk b:=hF.look Im.none
 refine⟨hF.vi,⟨h2.pd,hF.vi.free.1,by show 2≤σ.H.pg.blocks d';rw[hb];exact h2.two,(hl 0).trans h2.map,fun b hb'=>h2.hi b (by rw[←hb];exact hb'),h2.f0,h2.f1,?_⟩,?_⟩
 ·show IQ (σ.H.pg.look Im.none d' 1) root
  rw[hl 1];exact h2.root
 ·refine h3.turn (fun x=> ?_) (fun x=>hl _) (fun x=>rfl) ?_ ?_
  ·show (decide (0≤x) && (decide (x.toNat<σ.H.pg.blocks d') && _))=_
   rw[hb];rfl
  ·show countB _ (σ.H.pg.blocks d')=_
   rw[hb];rfl
  ·show countB _ (σ.H.pg.blocks d')=_
   rw[hb];rfl
theorem zu {d':Dk} {l':Lg} {w':World} {S':Nat→Prop} (hv:w'.heap[v]? =some (.cells #[.pointer (some ⟨mp.pg,0,none⟩)] 102 (0,0))) (h:Inv (σ.flushed d' l') S' mp w') (hF:Qq σ d' l') {dn:Nat} (hd:σ.H.lg.last=dn+1) (hl:dn≤100000000):
  Calls Tryz.prog 31 #[.pointer (some ⟨v,0,none⟩)] w' fun e w''=>w''=w'∧e= .returned (.int .i64 dn):=by
 obtain⟨Sp,T,h,_⟩:=h
 have e1:l'.synced=dn+1:=hF.syn.trans hd
 refine(NY v mp.pg mp.d d' l' _ _ Sp w' hv h.pg (by omega)).mono ?_
 rintro e w'' ⟨rfl,rfl⟩
 exact⟨rfl,by rw[show (l'.synced:Int) - 1=dn by omega]⟩
theorem kH.sync {w0:iZ} {t N R dn u P:Nat} {kv kv0:List Pr} {ch:Bool} (h:kH w0 v t N R dn u kv0 kv ch P w) (hl:dn≤100000000):
  Calls Tryz.prog 30 #[.pointer (some ⟨v,0,none⟩)] w fun e w'=>e= .returned (.int .i64 0)∧kH w0 v t N R dn u kv0 kv ch P w'∧Calls Tryz.prog 31 #[.pointer (some ⟨v,0,none⟩)] w' fun e w''=>w''=w'∧e= .returned (.int .i64 dn):=by
 obtain⟨S,tr,mp,σ,root,es,tb,root0,es0,tb0,hA,hB,h1,h2,h3,h4,h5,h6,h7,h8,h9,h10⟩:=h
 refine(hA.tx.inv.sync hA.obj hA.bas.vi).mono ?_
 rintro e w' ⟨rfl,d',l',S',hI,hs,hF⟩
 have nS:∀g,¬S g→g<w.heap.size→¬S' g:=fun g hn hg e=>(hs.2 g e).elim hn (fun e=>absurd hg (aY.2 e))
 have lv:=(ah.1 hA.obj).1
 have lt:=(ah.1 hA.tx.tx).1
 have lr:=(ah.1 hA.tx.tree).1
 have hv:=(hs.1.block v lv hA.nv).trans hA.obj
 refine⟨rfl,⟨S',tr,mp,σ.flushed d' l',root,es,tb,root0,es0,tb0,⟨hv,nS v hA.nv lv,⟨(hs.1.block t lt hA.tx.nt).trans hA.tx.tx,(hs.1.block tr lr hA.tx.ntr).trans hA.tx.tree,hI,nS t hA.tx.nt lt,nS tr hA.tx.ntr lr⟩,hA.live.turn (fun _=>rfl) (fun x=>hF.look _ _) (fun _=>rfl) rfl rfl,hA.bas.sync hF,fun hc=> ?_⟩,hB.step hs,h1,h2,h3,h4,h5,hF.last.trans h6,h7,h8,h9,h10⟩,zu hv hI hF h6 hl⟩
 obtain⟨q1,q2⟩:=hA.ch hc
 refine⟨?_,q2⟩
 have m1:σ.most=σ.H.pg.blocks σ.H.dk:=congrArg bP.most q1
 have m2:σ.im=Im.none:=congrArg bP.im q1
 have m3:σ.now=σ.H.old:=congrArg bP.now q1
 have m4:σ.tk=countB σ.H.old (σ.H.pg.blocks σ.H.dk):=congrArg bP.tk q1
 show (⟨⟨d',l',σ.H.pg,σ.H.old⟩,σ.most,σ.im,σ.now,σ.tk⟩:bP)=⟨⟨d',l',σ.H.pg,σ.H.old⟩,σ.H.pg.blocks d',Im.none,σ.H.old,countB σ.H.old (σ.H.pg.blocks d')⟩
 rw[hF.blocks,←m1,m2,m3,m4,←m1]
theorem qE.sync {w0:iZ} {t N R dn u:Nat} {kv0:List Pr} (h:qE w0 v t N R dn u kv0 w) (hl:dn≤100000000):
  Calls Tryz.prog 30 #[.pointer (some ⟨v,0,none⟩)] w fun e w'=>e= .returned (.int .i64 0)∧qE w0 v t N R dn u kv0 w'∧Calls Tryz.prog 31 #[.pointer (some ⟨v,0,none⟩)] w' fun e w''=>w''=w'∧e= .returned (.int .i64 dn):=by
 obtain⟨S,tr,mp,σ,ch,root0,es0,tb0,⟨ho,hn,⟨r,er,hx⟩,hb⟩,hB,h1,h2,h3,h4,h5,h6,h7,h8⟩:=h
 refine(hx.inv.sync ho hb.vi).mono ?_
 rintro e w' ⟨rfl,d',l',S',hI,hs,hF⟩
 have nS:∀g,¬S g→g<w.heap.size→¬S' g:=fun g hn hg e=>(hs.2 g e).elim hn (fun e=>absurd hg (aY.2 e))
 have lv:=(ah.1 ho).1
 have lt:=(ah.1 hx.tx).1
 have lr:=(ah.1 hx.tree).1
 have hv:=(hs.1.block v lv hn).trans ho
 exact⟨rfl,⟨S',tr,mp,σ.flushed d' l',ch,root0,es0,tb0,⟨hv,nS v hn lv,⟨r,er,(hs.1.block t lt hx.nt).trans hx.tx,(hs.1.block tr lr hx.ntr).trans hx.tree,hI,nS t hx.nt lt,nS tr hx.ntr lr⟩,hb.sync hF⟩,hB.step hs,h1,h2,h3,hF.blocks.trans h4,h5,hF.last.trans h6,h7,h8⟩,zu hv hI hF h6 hl⟩
theorem qE.done {w0:iZ} {t N R dn u:Nat} {kv0:List Pr} (h:qE w0 v t N R dn u kv0 w) (hd:dn≤100000000):
  Calls Tryz.prog 21 #[.pointer (some ⟨v,0,none⟩)] w fun e w'=>e= .returned (.int .i64 dn)∧w'=w:=by
 obtain⟨S,tr,mp,σ,ch,root0,es0,tb0,⟨ho,hn,⟨r,er,hx⟩,hb⟩,hB,h1,h2,h3,h4,h5,h6,h7,h8⟩:=h
 obtain⟨Sp,T,hI,_⟩:=hx.inv
 refine(LG v mp.pg mp.d _ _ _ _ Sp w ho hI.pg (by omega)).mono ?_
 rintro e w' ⟨rfl,rfl⟩
 exact⟨by rw[show (σ.H.lg.last:Int) - 1=dn by omega],rfl⟩
theorem qE.busy {w0:iZ} {t N R dn u:Nat} {kv0:List Pr} (h:qE w0 v t N R dn u kv0 w):
  Calls Tryz.prog 13 #[.pointer (some ⟨v,0,none⟩)] w fun e w'=>w'=w∧e= .returned (.tuple #[.pointer none,.int .i64 6]):=by
 obtain⟨S,tr,mp,σ,ch,root0,es0,tb0,⟨ho,hn,⟨r,er,hx⟩,hb⟩,_⟩:=h
 obtain⟨Sp,T,hI,_⟩:=hx.inv
 exact xZ v mp.pg mp.d _ _ _ mp.tx Sp w ho hI.pg hI.ok.live
end
theorem EH {ps:List Pr}:dY ps↔(ps.map (·.1)).Pairwise (fun a b=>lt a b=true):=by unfold dY;rw[rR]
theorem Fz (ps:List Pr) (key v v':ByteArray):(jv ps key v).map (·.1)=(jv ps key v').map (·.1):=by unfold jv;split<;>simp[List.map_set]
theorem MU {ps:List Pr} {key v:ByteArray} (hk:key.size≤128) (hr:dY ps):dY (jv ps key v):=by
 rw[EH,Fz ps key v ⟨#[]⟩,←EH]
 exact(Am key ⟨#[]⟩ hk (by decide)).rise ps hr
structure Kv (kv:List Pr) (n:Nat):Prop where
 rise:dY kv
 len:kv.length≤n
 val:∀p∈kv,p.2.size≤49152
theorem Kv.le {kv:List Pr} {n m:Nat} (h:Kv kv n) (hm:n≤m):Kv kv m:=⟨h.rise,aH h.len hm,h.val⟩
theorem Kv.nil (n:Nat):Kv [] n:=⟨oD,aU _,by simp⟩
theorem Kv.ins {kv:List Pr} {n:Nat} (h:Kv kv n) {key value:ByteArray} (hk:key.size≤128) (hv:value.size≤49152):Kv (jv kv key value) (n+1):=by
 refine⟨MU hk h.rise,?_,fun p hp=> ?_⟩
 ·have:=h.len
  have:=(Am key ⟨#[]⟩ hk (by decide)).len kv
  have e:=congrArg List.length (Fz kv key value ⟨#[]⟩)
  simp only[jl] at e
  omega
 ·unfold jv at hp
  split at hp
  ·rcases List.mem_or_eq_of_mem_set hp with q|rfl
   ·exact h.val p q
   ·exact hv
  ·rcases bM.1 hp with q|q
   ·exact h.val p (fD q)
   ·rcases bD.1 q with rfl|q
    ·exact hv
    ·exact h.val p (bR q)
theorem Kv.del {kv:List Pr} {n:Nat} (h:Kv kv n) (key:ByteArray):Kv (iW kv key) n:=by
 have hs:(iW kv key).Sublist kv:=by
  unfold iW
  split
  ·have:=(Bh (kv.take (bO kv key))).append (Pp 1 (kv.drop (bO kv key)))
   rw[JM,bE] at this
   exact this
  ·exact Bh _
 exact⟨h.rise.sublist hs,aH hs.length_le h.len,fun p hp=>h.val p (hs.subset hp)⟩
theorem mW (a b:List Pr):kG (a++b)=kG a+kG b:=by simp[kG]
theorem qM (p:Pr) (b:List Pr):kG (p::b)=eU p.2+kG b:=rfl
theorem KN (kv:List Pr) (key value:ByteArray):costs (jv kv key value)≤costs kv+(2+eU value):=by
 have e:=bE (bO kv key) kv
 unfold jv costs
 split
 ·rename_i hat
  obtain⟨hlt,_⟩:=lD hat
  rw[List.length_set,l9,if_pos hlt,mW,qM]
  have h1:kG kv=kG (kv.take (bO kv key))+(eU kv[bO kv key].2+kG (kv.drop (bO kv key+1))):=by
   rw[←qM,←bZ hlt,←mW,e]
  show _+(_+(eU value+_))≤_
  omega
 ·have h1:kG kv=kG (kv.take (bO kv key))+kG (kv.drop (bO kv key)):=by rw[←mW,e]
  have h2:(kv.take (bO kv key)++(key,value)::kv.drop (bO kv key)).length=kv.length+1:=by simp;have:=lU kv key;omega
  rw[h2,mW,qM]
  show _+(_+(eU value+_))≤_
  omega
theorem KO (kv:List Pr) (key:ByteArray):costs (iW kv key)≤costs kv:=by
 unfold iW costs
 split
 ·rename_i hat
  obtain⟨hlt,_⟩:=lD hat
  have h1:kG kv=kG (kv.take (bO kv key))+(eU kv[bO kv key].2+kG (kv.drop (bO kv key+1))):=by
   rw[←qM,←bZ hlt,←mW,bE]
  have h2:(kv.take (bO kv key)++kv.drop (bO kv key+1)).length≤kv.length:=by simp;omega
  rw[mW]
  omega
 ·exact aC _
theorem Gh {v:ByteArray} (h:v.size≤49152):eU v≤97:=by unfold eU pz;split<;>omega
theorem Nf {kv:List Pr} {n:Nat} (h:Kv kv n):costs kv≤99*n:=by
 have:∀l:List Pr,(∀p∈l,p.2.size≤49152)→kG l≤97*l.length:=by
  intro l hl
  induction l with
  |nil=>exact aU _
  |cons p l ih=>
   have h1:=Gh (hl p (aZ ..))
   have h2:=ih (fun q hq=>hl q (aW _ hq))
   rw[qM,bf];omega
 have:=this kv h.val
 have:=h.len
 unfold costs;omega
theorem MJ {P u c b lg:Nat} (h1:lg≤605) (hP:P≤2+u+65*c+b) (hl:32+64*c+4*b≤lg):Cc (P - u)≤lg - 1∧P - u≤1024:=by
 unfold Cc
 omega
end Go.Proofs.YtfgpefcphnpabaaGreat
