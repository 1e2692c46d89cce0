/- parts -/
import Derived.Test.YtpgdljlghiifjaaGreatDoorM1
import Derived.Test.YtpgdljlghiifjaaGreatDoorM11
import Derived.Test.YtpgdljlghiifjaaGreatDoorM23
import Derived.Test.YtpgdljlghiifjaaGreatDoorM24
import Derived.Lib.ValidU
import Derived.Lib.IndexAny
set_option maxRecDepth 100000
set_option maxHeartbeats 8000000
set_option linter.all false
namespace Go.Proofs.YtpgdljlghiifjaaGreatDoor
open Go.RowKit
def lS (value:ByteArray):Nat:=if value.size<=63 then 0 else 1+sJ value.size
def Fa (t tr:Nat)(mp:VS)(S:Nat->Prop)(σ:dF)(es l r:List nD)(tb:List Int)(key value:ByteArray)(w w':World):Prop:=
 ∃σ' S' root' tb' s nb,Ad w' S' t tr mp σ' root' 0 true 0/\Live σ' root' (l++⟨key,s,value,nb⟩::r) tb'/\lM σ σ' (tb++dV es) (tb'++dV (l++⟨key,s,value,nb⟩::r))/\gN S S' t tr w w'/\Ui σ σ' tb (2*(es.length+1)+lS value)/\((l++⟨key,s,value,nb⟩::r).length<=299->xu σ σ' (65+lS value))
theorem Db (value:ByteArray):(⟨#[0]⟩:ByteArray)++value=strOf (0::value.data.toList):=by
 apply Ct
 rw[ByteArray.data_append]
 apply Ea.1
 rw[MX]
 rfl
theorem yV (t tr:Nat)(mp:VS)(root:Int)(ch:Bool)(σ:dF)(S:Nat->Prop)(w:World)(es l o r:List nD)(tb:List Int)(key:ByteArray)(hT:Ad w S t tr mp σ root 0 ch 0)(hL:Live σ root es tb)(hA:rR es key l o r)(hl:es.length<=4090)(hg:1<=key.size/\key.size<=128):
  Calls Tryz.prog 62 #[.pointer (some ⟨t,0,none⟩),.string key] w fun e w'=>e= .returned (.tuple #[.string ((eT (iQ es) key).getD ByteArray.empty),.bool (eT (iQ es) key).isSome,.int .i64 0])/\Below w.heap.size w w':=by
 have hl':(jc es).length<=4090:=by rw[fC];exact hl
 rcases hA.one with rfl|⟨e,rfl,hk⟩
 ·have h1:eT (jc es) key=none:=hA.ls
  have h2:eT (iQ es) key=none:=hA.lv
  have:=SK t tr mp root ch σ S w (jc es) tb key ByteArray.empty [] hT.tx hT.inv hT.tree hL.tree hl' hg (fun s hs=>by rw[h1] at hs;cases hs)
  rw[h1] at this
  rw[h2]
  exact this
 ·have h1:eT (jc es) key=some e.s:=hA.ls
  have h2:eT (iQ es) key=some e.v:=hA.lv
  have:=SK t tr mp root ch σ S w (jc es) tb key e.v e.b hT.tx hT.inv hT.tree hL.tree hl' hg (fun s hs=>by
   rw[h1] at hs;cases hs
   exact hL.val e (by rw[hA.eq];simp))
  rw[h1] at this
  rw[h2]
  exact this
theorem La (t tr:Nat)(mp:VS)(root:Int)(ch:Bool)(σ:dF)(S:Nat->Prop)(w:World)(es l o r:List nD)(tb:List Int)(key value:ByteArray)(hT:Ad w S t tr mp σ root 0 ch 0)(hL:Live σ root es tb)(hA:rR es key l o r)(hl:es.length<=4090)(hg:1<=key.size/\key.size<=128)(hv:value.size<=49152)(hs:eT (iQ es) key=some value):
  Calls Tryz.prog 38 #[.pointer (some ⟨t,0,none⟩),.string key,.string value] w fun e w'=>e= .returned (.int .i64 0)/\Below w.heap.size w w':=by
 have HU:=af (sj t mp tr ch 0 key w hT.tx)
 have hu:jh 0 key=0:=by unfold jh;rw[if_neg (by simp),if_neg (by omega)]
 rw[hu] at HU
 have HG:=yV t tr mp root ch σ S w es l o r tb key hT hL hA hl hg
 rw[hs] at HG
 have HG:=af HG
 have x1:¬(49152:Int)<(value.size:Int):=by omega
 clear hT hu
 go_enter Tryz.func38,Tryz.ntmps38
 go_wp2_with (first
  |(go_at_call 61;go_must (refine HU.out.mono ?_;rintro e w1 ⟨rfl,rfl⟩))
  |(go_at_call 62;go_must (refine HG.out.mono ?_;rintro e w1 ⟨rfl,hb1⟩)))
 go_ret
 exact⟨rfl,hb1⟩
theorem R8 (hd:Nat)(hb:hd<65536)(w:World):(convert 101 9 (.slice (some ⟨w.heap.size,0,none⟩) 3 3)).run Tryz.prog (w.alloc (.cells #[.int .u8 1,.int .u8 ((hd:Int)%256),.int .u8 ((hd:Int)/256)] 5))= .ok (.string (strOf [1,UInt8.ofNat hd,UInt8.ofNat (hd/256)])) (w.alloc (.cells #[.int .u8 1,.int .u8 ((hd:Int)%256),.int .u8 ((hd:Int)/256)] 5)):=by
 have he:[Value.int .u8 1,.int .u8 ((hd:Int)%256),.int .u8 ((hd:Int)/256)]=aL [1,UInt8.ofNat hd,UInt8.ofNat (hd/256)]:=by
  simp[aL,eZ]
  omega
 have hr:Row (w.alloc (.cells #[.int .u8 1,.int .u8 ((hd:Int)%256),.int .u8 ((hd:Int)/256)] 5)) w.heap.size 5 (aL [1,UInt8.ofNat hd,UInt8.ofNat (hd/256)]):=by
  rw[<-he];exact Row.new w _ _
 have hs:bJ (w.alloc (.cells #[.int .u8 1,.int .u8 ((hd:Int)%256),.int .u8 ((hd:Int)/256)] 5)) fH 1 (.slice (some ⟨w.heap.size,0,none⟩) 3 3) [1,UInt8.ofNat hd,UInt8.ofNat (hd/256)].length (aL [1,UInt8.ofNat hd,UInt8.ofNat (hd/256)]):=by
  have:=hr.dI (S:=fH) (k:=1) (off:=0) 3 3 (by simp[aL]) id (aG _) (by simp[maxLen])
  rw[fo,aQ (by simp[aL])] at this
  exact this
 exact hs.strOf
theorem II (t tr:Nat)(mp:VS)(root:Int)(ch:Bool)(σ:dF)(S:Nat->Prop)(w:World)(es l o r:List nD)(tb:List Int)(key value:ByteArray)(hT:Ad w S t tr mp σ root 0 ch 0)(hL:Live σ root es tb)(hA:rR es key l o r)(hl:es.length<=4090)(hg:1<=key.size/\key.size<=128)(hv:value.size<=63)(there:Bool)(was:ByteArray)(hget:(eT (iQ es) key).isSome=there/\(eT (iQ es) key).getD ByteArray.empty=was)(hno:there=true->(was.toList==value.toList)=false):
  Calls Tryz.prog 38 #[.pointer (some ⟨t,0,none⟩),.string key,.string value] w fun e w'=>(e= .returned (.int .i64 0)/\Fa t tr mp S σ es l r tb key value w w')\/
   (e= .returned (.int .i64 12)/\σ.most+nh σ tb<σ.sz+2*(es.length+1)+lS value/\rP t tr mp S σ ch w w'):=by
 have hne:=su hT.tx hT.tree
 have HU:=af (sj t mp tr ch 0 key w hT.tx)
 have hu:jh 0 key=0:=by unfold jh;rw[if_neg (by simp),if_neg (by omega)]
 rw[hu] at HU
 have HG:=yV t tr mp root ch σ S w es l o r tb key hT hL hA hl hg
 rw[hget.1,hget.2] at HG
 have HG:=af HG
 have x1:¬(49152:Int)<(value.size:Int):=by omega
 have x2:¬(63:Int)<(value.size:Int):=by omega
 have hb:lS value=0:=if_pos hv
 have HBC:=af hb
 have x0:=hv
 have HT:=af hT
 have hl':(jc es).length<=4090:=by rw[fC];exact hl
 have hall:=hL.all
 have hnd:=hL.own.nd
 have hbo:∀x∈dV o,x∈dV es:=fun x hx=>by rw[hA.eq,iR,iR];simp[hx]
 have hcnt:=hL.tree.count
 rw[fC] at hcnt
 have hnh:=qM σ tb
 have hsum:(⟨#[0]⟩:ByteArray)++value=strOf (0::value.data.toList):=Db value
 have hsz0:(strOf (0::value.data.toList)).size=value.size+1:=by show (0::value.data.toList).toArray.size=value.data.size+1;simp
 have hadd:∀W:World,(Op.stringOp .add (⟨#[0]⟩:ByteArray) value).run Tryz.prog W= .ok (.string (strOf (0::value.data.toList))) W:=fun W=>by rw[<-hsum];exact run_string_add W _ _ (by show ((1:Nat):Int)<=_;omega) (by omega)
 have HSZ:=af hsz0;have HSUM:=af hsum
 obtain⟨small,hsmall⟩:∃s,Hid (strOf (0::value.data.toList)=s):=⟨_,af rfl⟩
 rw[hsmall.out] at hadd HSZ HSUM
 have HCNT:=af (aC hcnt (aC hnh hb))
 clear hT hu hsum hsz0 hb hcnt hnh
 go_enter Tryz.func38,Tryz.ntmps38
 go_wp2_with (first
  |(go_at_call 61;go_must (refine HU.out.mono ?_;rintro e w1 ⟨rfl,rfl⟩))
  |(go_at_call 62;go_must (refine HG.out.mono ?_;rintro e w1 ⟨rfl,hb1⟩;refine Stop.of ?_)))
 refine Stop.on ?_
 have hT1:=HT.out.below hb1
 have hlt1:=(aj.1 hT1.tx).1
 have HD:=af (Nc t tr mp root ch 0 σ S w1 es l o r tb key hT1.tx hT1.inv hT1.tree hL hA hl hg)
 have HT1:=af (aC hT1 hb1)
 clear hT1 hb1
 cases there
 all_goals
  try have hno:=hno rfl
  go_wp2_with (first
   |(go_at_call 63;go_must (refine HD.out.mono ?_;rintro e w2 ⟨rfl,σ1,hI1,hs1,hc1,htk1⟩;refine Stop.of ?_)))
  refine Stop.on ?_
  have hT2:Ad w2 S t tr mp σ1 root 0 ch 0:=⟨(hs1.1.block t hlt1 HT.out.nt).trans HT1.out.1.tx,(hs1.1.block tr (aj.1 HT1.out.1.tree).1 HT.out.ntr).trans HT1.out.1.tree,hI1,HT.out.nt,HT.out.ntr⟩
  have hTr1:Ae σ1 root (jc es) tb:=hL.tree.keep hc1 (fun x hx=> .inl (fun e=>nK hnd x (hbo x e) hx))
  have hlt2:=(aj.1 hT2.tx).1
  have HS2:=af ((gN.of (t:=t) (tr:=tr) (Step.of_below (S:=S) HT1.out.2)).trans (gN.of hs1))
  have HC1:=af hc1
  have HTR1:=af hTr1
  clear hI1 hs1 hc1 hTr1
  have hc2:lM σ1 σ1 [] []:=lM.refl (fun x hx=>by cases hx)
  have hv2:ValAt σ1 small value []:= .inl ⟨hsmall.out.symm,x0,rfl⟩
  have HV2:=af (aC hc2 hv2)
  clear hc2 hv2
  have HPT:=af (F4 tr mp root σ1 S (jc es) tb key small w2 hT2.inv hT2.tree HT.out.ntr HTR1.out (dX.1 hnd).1 hl' ⟨hg,by have:=HSZ.out;omega⟩)
  have c2:World.cell? w2 ⟨t,2,none⟩=some (.pointer (some ⟨tr,0,none⟩)):=by simp[World.cell?,hT2.tx,fK]
  have HT2:=af hT2
  clear hT2
  go_wp2_with (first
   |(go_at_call 66;go_must (refine HPT.out.mono ?_;rintro e w5 (⟨rfl,σ3,S3,b3,hI3,ht3,hst3,hP3,hk3,hn3⟩|⟨rfl,hlost,σ3,S3,hI3,ht3,hst3,hH3,hm3,hk3,hn3⟩)<;>refine Stop.of ?_)))
  ·refine Stop.on ?_
   have htx3:=(hk3.block t hlt2 (fun e=>e.elim HT.out.nt hne)).trans HT2.out.tx
   have hns3:¬S3 t:=fun e=>(hn3 t e).elim HT.out.nt (fun x=>absurd hlt2 (bM.2 x))
   have d3:w5.cell? ⟨t,3,none⟩=some (.bool ch):=by simp[World.cell?,htx3,fK]
   have f3:w5.frozen? ⟨t,3,none⟩=false:=by simp[World.frozen?,htx3]
   have hlt3:=(aj.1 htx3).1
   have HX3:=af (aC htx3 (aC hI3 (aC ht3 (aC hk3 hn3))))
   have HP3:=af hP3
   clear htx3 hI3 ht3 hk3 hn3 hP3
   go_wp2_with fail
   go_ret
   have hk4:Keep (· =t) w5 (w5.setCell ⟨t,3,none⟩ (.bool true)):=(Keep.refl (· =t) _).setCell (p:=⟨t,3,none⟩) (.inr rfl) _
   obtain⟨tb',hL',hC'⟩:=Gm hL hA HC1.out HV2.out.1 HV2.out.2 HP3.out
   refine .inl ⟨rfl,σ3,S3,b3,tb',small,_,⟨?_,?_,HX3.out.2.1.mH hk4 (fun g hg e=>hns3 (e▸hg)),hns3,hst3⟩,hL',hC',?_,fun L r t0=> ?_,fun hc=> ?_⟩
   ·simp[World.setCell,bn,HX3.out.1]
    rfl
   ·exact(hk4.block tr (aj.1 HX3.out.2.2.1).1 (fun e=>hne e.symm)).trans HX3.out.2.2.1
   ·exact(HS2.out.trans (gN.tree HX3.out.2.2.2.1 HX3.out.2.2.2.2)).trans (gN.one hk4)
   ·obtain⟨_,_,_,hpk,_⟩:=HP3.out
    have hCC:=HC1.out.trans HV2.out.1
    have hsz:=hCC.size
    have hsz1:=HC1.out.size
    have hnl:=qM σ []
    have hcc:=HCNT.out
    have hz:nh σ []=0:=rfl
    have h0:nh σ []=0:=rfl
    rw[hcc.2.2] at r
    refine hpk L ?_ ?_
    ·unfold kL
     rw[tJ hCC.H,fC]
     omega
    ·rw[htk1];exact t0
   ·obtain⟨_,_,_,_,hft⟩:=HP3.out
    have h0:=Ig HC1.out htk1
    have h2:=hft (by rw[hA.is small value [],fC];exact hc)
    exact(h0.trans h2).more (by omega)
  ·refine Stop.on ?_
   have htx3:=(hk3.block t hlt2 (fun e=>e.elim HT.out.nt hne)).trans HT2.out.tx
   have hns3:¬S3 t:=fun e=>(hn3 t e).elim HT.out.nt (fun x=>absurd hlt2 (bM.2 x))
   have HSP:=af (Ec t mp (some tr) ch 0 12 w5 htx3)
   have HX3:=af (aC htx3 (aC hI3 (aC ht3 (aC hk3 hn3))))
   have HLO:=af (aC hlost (aC hH3 hm3))
   clear htx3 hI3 ht3 hk3 hn3 hlost hH3 hm3
   go_wp2_with (first
    |(go_at_call 64;go_must (refine HSP.out.mono ?_;rintro e w6 ⟨rfl,h6,hk6⟩)))
   go_ret
   have hCC:=HC1.out.trans HV2.out.1
   refine .inr ⟨rfl,?_,σ3,S3,root,12,⟨h6,(hk6.block tr (aj.1 HX3.out.2.2.1).1 (fun e=>hne e.symm)).trans HX3.out.2.2.1,HX3.out.2.1.mH hk6 (fun g hg e=>hns3 (e▸hg)),hns3,hst3⟩,HLO.out.2.1.trans hCC.H,HLO.out.2.2.trans hCC.most,(HS2.out.trans (gN.tree HX3.out.2.2.2.1 HX3.out.2.2.2.2)).trans (gN.one hk6)⟩
   have hno3:=HLO.out.1
   have hsz:=hCC.size
   have hnl:=qM σ []
   unfold Room at hno3
   rw[tJ hCC.H,hCC.most,fC] at hno3
   have hcc:=HCNT.out
   have h0:nh σ []=0:=rfl
   rw[hcc.2.2]
   omega
theorem Lb (t tr:Nat)(mp:VS)(root:Int)(ch:Bool)(σ:dF)(S:Nat->Prop)(w:World)(es l o r:List nD)(tb:List Int)(key value:ByteArray)(hT:Ad w S t tr mp σ root 0 ch 0)(hL:Live σ root es tb)(hA:rR es key l o r)(hl:es.length<=4090)(hg:1<=key.size/\key.size<=128)(hv:63<value.size/\value.size<=49152)(there:Bool)(was:ByteArray)(hget:(eT (iQ es) key).isSome=there/\(eT (iQ es) key).getD ByteArray.empty=was)(hno:there=true->(was.toList==value.toList)=false):
  Calls Tryz.prog 38 #[.pointer (some ⟨t,0,none⟩),.string key,.string value] w fun e w'=>(e= .returned (.int .i64 0)/\Fa t tr mp S σ es l r tb key value w w')\/
   (e= .returned (.int .i64 12)/\σ.most+nh σ tb<σ.sz+2*(es.length+1)+lS value/\rP t tr mp S σ ch w w'):=by
 have hne:=su hT.tx hT.tree
 have HU:=af (sj t mp tr ch 0 key w hT.tx)
 have hu:jh 0 key=0:=by unfold jh;rw[if_neg (by simp),if_neg (by omega)]
 rw[hu] at HU
 have HG:=yV t tr mp root ch σ S w es l o r tb key hT hL hA hl hg
 rw[hget.1,hget.2] at HG
 have HG:=af HG
 have x1:¬(49152:Int)<(value.size:Int):=by omega
 have x2:(63:Int)<(value.size:Int):=by omega
 have hb:lS value=1+sJ value.size:=if_neg (by omega)
 have HBC:=af hb
 have HT:=af hT
 have hl':(jc es).length<=4090:=by rw[fC];exact hl
 have hall:=hL.all
 have hnd:=hL.own.nd
 have hbo:∀x∈dV o,x∈dV es:=fun x hx=>by rw[hA.eq,iR,iR];simp[hx]
 have hcnt:=hL.tree.count
 rw[fC] at hcnt
 have hnh:=qM σ tb
 have hsum:(⟨#[0]⟩:ByteArray)++value=strOf (0::value.data.toList):=Db value
 have hsz0:(strOf (0::value.data.toList)).size=value.size+1:=by show (0::value.data.toList).toArray.size=value.data.size+1;simp
 have hadd:∀W:World,(Op.stringOp .add (⟨#[0]⟩:ByteArray) value).run Tryz.prog W= .ok (.string (strOf (0::value.data.toList))) W:=fun W=>by rw[<-hsum];exact run_string_add W _ _ (by show ((1:Nat):Int)<=_;omega) (by omega)
 have HSZ:=af hsz0;have HSUM:=af hsum
 obtain⟨small,hsmall⟩:∃s,Hid (strOf (0::value.data.toList)=s):=⟨_,af rfl⟩
 rw[hsmall.out] at hadd HSZ HSUM
 have HCNT:=af (aC hcnt (aC hnh hb))
 clear hT hu hsum hsz0 hb hcnt hnh
 go_enter Tryz.func38,Tryz.ntmps38
 go_wp2_with (first
  |(go_at_call 61;go_must (refine HU.out.mono ?_;rintro e w1 ⟨rfl,rfl⟩))
  |(go_at_call 62;go_must (refine HG.out.mono ?_;rintro e w1 ⟨rfl,hb1⟩;refine Stop.of ?_)))
 refine Stop.on ?_
 have hT1:=HT.out.below hb1
 have hlt1:=(aj.1 hT1.tx).1
 have HD:=af (Nc t tr mp root ch 0 σ S w1 es l o r tb key hT1.tx hT1.inv hT1.tree hL hA hl hg)
 have HT1:=af (aC hT1 hb1)
 clear hT1 hb1
 cases there
 all_goals
  try have hno:=hno rfl
  go_wp2_with (first
   |(go_at_call 63;go_must (refine HD.out.mono ?_;rintro e w2 ⟨rfl,σ1,hI1,hs1,hc1,htk1⟩;refine Stop.of ?_)))
  refine Stop.on ?_
  have hT2:Ad w2 S t tr mp σ1 root 0 ch 0:=⟨(hs1.1.block t hlt1 HT.out.nt).trans HT1.out.1.tx,(hs1.1.block tr (aj.1 HT1.out.1.tree).1 HT.out.ntr).trans HT1.out.1.tree,hI1,HT.out.nt,HT.out.ntr⟩
  have hTr1:Ae σ1 root (jc es) tb:=hL.tree.keep hc1 (fun x hx=> .inl (fun e=>nK hnd x (hbo x e) hx))
  have hlt2:=(aj.1 hT2.tx).1
  have HS2:=af ((gN.of (t:=t) (tr:=tr) (Step.of_below (S:=S) HT1.out.2)).trans (gN.of hs1))
  have HC1:=af hc1
  have HTR1:=af hTr1
  clear hI1 hs1 hc1 hTr1
  have c0:w2.cell? ⟨t,0,none⟩=some (.pointer (some ⟨mp.tx,0,none⟩)):=by simp[World.cell?,hT2.tx,fK]
  have c1:w2.cell? ⟨t,1,none⟩=some (.pointer (some ⟨mp.mp,0,none⟩)):=by simp[World.cell?,hT2.tx,fK]
  have HW:=af (Sc mp σ1 S w2 value hT2.inv (by omega) (by omega))
  have HT2':=af hT2
  clear hT2
  go_wp2_with (first
   |(go_at_call 65;go_must (refine HW.out.mono ?_;rintro e w3 (⟨hd,rs,σ2,rfl,hB2,hC2,htk2,hI2,hs2⟩|⟨rfl,hlow,σ2,hI2,hs2,hH2,hm2⟩)<;>refine Stop.of ?_)))
  ·refine Stop.on ?_
   have hT3:Ad w3 S t tr mp σ2 root 0 ch 0:=⟨(hs2.1.block t hlt2 HT.out.nt).trans HT2'.out.tx,(hs2.1.block tr (aj.1 HT2'.out.tree).1 HT.out.ntr).trans HT2'.out.tree,hI2,HT.out.nt,HT.out.ntr⟩
   have hlt3:=(aj.1 hT3.tx).1
   have hdm:hd<65536:=by
    obtain⟨n,q1,q2,_⟩:=dF.ng hB2.hd.has
    have:=hI2.cap
    omega
   have hlen:(jY hd rs).length=1+sJ value.size:=by
    have e1:=hB2.hd.len
    have e2:value.data.toList.length=value.size:=by show value.data.toList.length=value.data.size;simp
    rw[e2] at e1
    simp[jY,e1];omega
   have HLEN:=af hlen
   have HV2:=af (aC hC2 (show ValAt σ2 (strOf [1,UInt8.ofNat hd,UInt8.ofNat (hd/256)]) value (jY hd rs) from .inr ⟨hd,rs,rfl,⟨hdm,hv.1⟩,hB2,rfl⟩))
   have HTR2:=af (HTR1.out.keep hC2 (fun x _=> .inl (by simp)))
   have HS3:=af (HS2.out.trans (gN.of hs2))
   clear hsmall HSZ HSUM hadd
   have HCV:=af (R8 hd hdm w3)
   have q1:IntKind.i64.wrap ((hd:Int)/256)=(hd:Int)/256:=aM _ (by omega)
   have HTK2:=af htk2
   clear hlen hC2 hB2 hI2 hs2 htk2
   go_upto_region 17 with (fail)
   have hcv:=HCV.out
   go_upto_region 18 with (fail)
   obtain⟨small,hsmall⟩:∃s,Hid (strOf [1,UInt8.ofNat hd,UInt8.ofNat (hd/256)]=s):=⟨_,af rfl⟩
   rw[hsmall.out] at HV2 ⊢
   have HSZ:=af (show small.size=3 by rw[<-hsmall.out];rfl)
   clear hcv HCV
   obtain⟨w4,hw4,hb4⟩:∃w4,w4=w3.alloc (.cells #[.int .u8 1,.int .u8 ((hd:Int)%256),.int .u8 ((hd:Int)/256)] 5)/\Below w3.heap.size w3 w4:=⟨_,rfl,aK _ _⟩
   rw[<-hw4]
   have hT4:=hT3.below hb4
   have HS4:=af (HS3.out.trans (gN.of (Step.of_below (S:=S) hb4)))
   have hlt4:=(aj.1 hT4.tx).1
   clear hT3 hw4 hb4
   have HPT:=af (F4 tr mp root σ2 S (jc es) tb key small w4 hT4.inv hT4.tree HT.out.ntr HTR2.out (dX.1 hnd).1 hl' ⟨hg,by have:=HSZ.out;omega⟩)
   have c2:World.cell? w4 ⟨t,2,none⟩=some (.pointer (some ⟨tr,0,none⟩)):=by simp[World.cell?,hT4.tx,fK]
   have HT2:=af hT4
   clear hT4
   go_wp2_with (first
    |(go_at_call 66;go_must (refine HPT.out.mono ?_;rintro e w5 (⟨rfl,σ3,S3,b3,hI3,ht3,hst3,hP3,hk3,hn3⟩|⟨rfl,hlost,σ3,S3,hI3,ht3,hst3,hH3,hm3,hk3,hn3⟩)<;>refine Stop.of ?_)))
   ·refine Stop.on ?_
    have htx3:=(hk3.block t hlt4 (fun e=>e.elim HT.out.nt hne)).trans HT2.out.tx
    have hns3:¬S3 t:=fun e=>(hn3 t e).elim HT.out.nt (fun x=>absurd hlt4 (bM.2 x))
    have d3:w5.cell? ⟨t,3,none⟩=some (.bool ch):=by simp[World.cell?,htx3,fK]
    have f3:w5.frozen? ⟨t,3,none⟩=false:=by simp[World.frozen?,htx3]
    have hlt3:=(aj.1 htx3).1
    have HX3:=af (aC htx3 (aC hI3 (aC ht3 (aC hk3 hn3))))
    have HP3:=af hP3
    clear htx3 hI3 ht3 hk3 hn3 hP3
    go_wp2_with fail
    go_ret
    have hk4:Keep (· =t) w5 (w5.setCell ⟨t,3,none⟩ (.bool true)):=(Keep.refl (· =t) _).setCell (p:=⟨t,3,none⟩) (.inr rfl) _
    obtain⟨tb',hL',hC'⟩:=Gm hL hA HC1.out HV2.out.1 HV2.out.2 HP3.out
    refine .inl ⟨rfl,σ3,S3,b3,tb',small,_,⟨?_,?_,HX3.out.2.1.mH hk4 (fun g hg e=>hns3 (e▸hg)),hns3,hst3⟩,hL',hC',?_,fun L r t0=> ?_,fun hc=> ?_⟩
    ·simp[World.setCell,bn,HX3.out.1]
     rfl
    ·exact(hk4.block tr (aj.1 HX3.out.2.2.1).1 (fun e=>hne e.symm)).trans HX3.out.2.2.1
    ·exact(HS4.out.trans (gN.tree HX3.out.2.2.2.1 HX3.out.2.2.2.2)).trans (gN.one hk4)
    ·obtain⟨_,_,_,hpk,_⟩:=HP3.out
     have hCC:=HC1.out.trans HV2.out.1
     have hsz:=hCC.size
     have hsz1:=HC1.out.size
     have hnl:=qM σ (jY hd rs)
     have hcc:=HCNT.out
     have hz:nh σ []=0:=rfl
     have hle:=HLEN.out
     rw[hcc.2.2] at r
     refine hpk L ?_ ?_
     ·unfold kL
      rw[tJ hCC.H,fC]
      omega
     ·have e1:=HTK2.out;have e2:value.data.toList.length=value.size:=(by show value.data.toList.length=value.data.size;simp);rw[e2,htk1] at e1;omega
    ·obtain⟨_,_,_,_,hft⟩:=HP3.out
     have h0:=Ig HC1.out htk1
     have h2:=hft (by rw[hA.is small value (jY hd rs),fC];exact hc)
     have e2:value.data.toList.length=value.size:=by show value.data.toList.length=value.data.size;simp
     have e1:=HTK2.out
     rw[e2] at e1
     have hcc:=HCNT.out
     have hs2:=HV2.out.1.size
     have hn1:=qM σ1 (jY hd rs)
     have hz:nh σ1 []=0:=rfl
     have hle:=HLEN.out
     have h1:xu σ1 σ2 (lS value):=⟨by omega,fun L r t=>by omega⟩
     exact((h0.trans h1).trans h2).more (by omega)
   ·refine Stop.on ?_
    have htx3:=(hk3.block t hlt4 (fun e=>e.elim HT.out.nt hne)).trans HT2.out.tx
    have hns3:¬S3 t:=fun e=>(hn3 t e).elim HT.out.nt (fun x=>absurd hlt4 (bM.2 x))
    have HSP:=af (Ec t mp (some tr) ch 0 12 w5 htx3)
    have HX3:=af (aC htx3 (aC hI3 (aC ht3 (aC hk3 hn3))))
    have HLO:=af (aC hlost (aC hH3 hm3))
    clear htx3 hI3 ht3 hk3 hn3 hlost hH3 hm3
    go_wp2_with (first
     |(go_at_call 64;go_must (refine HSP.out.mono ?_;rintro e w6 ⟨rfl,h6,hk6⟩)))
    go_ret
    have hCC:=HC1.out.trans HV2.out.1
    refine .inr ⟨rfl,?_,σ3,S3,root,12,⟨h6,(hk6.block tr (aj.1 HX3.out.2.2.1).1 (fun e=>hne e.symm)).trans HX3.out.2.2.1,HX3.out.2.1.mH hk6 (fun g hg e=>hns3 (e▸hg)),hns3,hst3⟩,HLO.out.2.1.trans hCC.H,HLO.out.2.2.trans hCC.most,(HS4.out.trans (gN.tree HX3.out.2.2.2.1 HX3.out.2.2.2.2)).trans (gN.one hk6)⟩
    have hno3:=HLO.out.1
    have hsz:=hCC.size
    have hnl:=qM σ (jY hd rs)
    unfold Room at hno3
    rw[tJ hCC.H,hCC.most,fC] at hno3
    have hcc:=HCNT.out
    have hle:=HLEN.out
    rw[hcc.2.2]
    omega
  ·refine Stop.on ?_
   have htx3:=(hs2.1.block t hlt2 HT.out.nt).trans HT2'.out.tx
   have HSP:=af (Ec t mp (some tr) ch 0 12 w3 htx3)
   have htr3:=(hs2.1.block tr (aj.1 HT2'.out.tree).1 HT.out.ntr).trans HT2'.out.tree
   have HX3:=af (aC hI2 (aC hs2 (aC htr3 (aC hlow (aC hH2 hm2)))))
   clear htx3 hI2 hs2 hlow hH2 hm2 htr3
   go_wp2_with (first
    |(go_at_call 64;go_must (refine HSP.out.mono ?_;rintro e w6 ⟨rfl,h6,hk6⟩)))
   go_ret
   refine .inr ⟨rfl,?_,σ2,S,root,0,⟨h6,(hk6.block tr (aj.1 HX3.out.2.2.1).1 (fun e=>hne e.symm)).trans HX3.out.2.2.1,HX3.out.1.mH hk6 (fun g hg e=>HT.out.nt (e▸hg)),HT.out.nt,HT.out.ntr⟩,HX3.out.2.2.2.2.1.trans HC1.out.H,HX3.out.2.2.2.2.2.trans HC1.out.most,(HS2.out.trans (gN.of HX3.out.2.1)).trans (gN.one hk6)⟩
   have hlo:=HX3.out.2.2.2.1
   have hsz:=HC1.out.size
   have hmo:=HC1.out.most
   have hcc:=HCNT.out
   have e2:value.data.toList.length=value.size:=by show value.data.toList.length=value.data.size;simp
   rw[e2] at hlo
   rw[hcc.2.2]
   have:nh σ []=0:=rfl
   omega
def wz (kv:List Pr)(key:ByteArray)(most:Int):List Pr:=(kv.drop (dN kv key)).take most.toNat
theorem aT.set2 {w:World}{S:Nat->Prop}{B g n c:Nat}{ps:List Pr}(h:aT w S B 130 2 (.slice (some ⟨g,0,none⟩) n c) n (dK ps))(i:Nat)(hi:i<n)(hn:ps.length=n)(u:ByteArray):
  aT (w.setCell ⟨g,i*2+1,none⟩ (.string u)) S B 130 2 (.slice (some ⟨g,0,none⟩) n c) n (dK (ps.set i (ps[i].1,u)))/\Keep (· =g) w (w.setCell ⟨g,i*2+1,none⟩ (.string u))/\w.frozen? ⟨g,i*2+1,none⟩=false/\g<w.heap.size/\B<=g:=by
 obtain⟨cur,hr,hl,hx,hBg,hSg,hc,hc2⟩:=h.row
 have hk5:Keep (· =g) w (w.setCell ⟨g,i*2+1,none⟩ (.string u)):=Keep.setCell (M:=(· =g)) (p:=⟨g,i*2+1,none⟩) (Keep.refl _ _) (.inr rfl) _
 have hr':Row (w.setCell ⟨g,i*2+1,none⟩ (.string u)) g 130 (cur.set (i*2+1) (.string u)):=by
  unfold Row at hr ⊢
  simp[World.setCell,bn,hr]
 refine⟨?_,hk5,hr.frozen _,hr.lt,hBg⟩
 have:=hr'.own (S:=S) (B:=B) (k:=2) (cap:=c) n (by simpa using hl) hBg hSg hc hc2
 rw[show (cur.set (i*2+1) (.string u)).take (n*2)=dK (ps.set i (ps[i].1,u)) from by rw[<-zK _ _ i (by omega),<-hx,<-List.take_set]] at this
 exact this
def vV (es:List nD)(k:Nat):List Pr:=iQ (es.take k)++jc (es.drop k)
theorem o9 (es:List nD)(k:Nat):(vV es k).length=es.length:=by
 unfold vV
 rw[ay,kV,fC,aF,aR];omega
theorem KA (es:List nD)(k:Nat)(h:k<es.length):(vV es k)[k]'(by rw[o9];exact h)=(es[k].k,es[k].s):=by
 unfold vV
 have hl:(iQ (es.take k)).length=k:=by rw[kV,aF];omega
 rw[List.getElem_append_right (by omega)]
 simp[jc,hl]
theorem NV (es:List nD)(k:Nat)(h:k<es.length):(vV es k).set k (es[k].k,es[k].v)=vV es (k+1):=by
 unfold vV
 have hl:(iQ (es.take k)).length=k:=by rw[kV,aF];omega
 have e:jc (es.drop k)=(es[k].k,es[k].s)::jc (es.drop (k+1)):=by rw[bT h];rfl
 rw[iG _ _ (by omega),hl,yP,e,au,aI h,mG]
 simp[iQ]
theorem NW (es:List nD):vV es es.length=iQ es:=by unfold vV;simp[jc]
theorem LV (es:List nD):vV es 0=jc es:=by unfold vV;simp[iQ]
theorem LB (es:List nD)(key:ByteArray)(most:Int):∃xs:List nD,(∀e∈xs,e∈es)/\((jc es).drop (dN (jc es) key)).take most.toNat=jc xs/\wz (iQ es) key most=iQ xs:=by
 refine⟨(es.drop (tZ es key)).take most.toNat,fun e he=>cO (fD he),?_,?_⟩
 ·show ((jc es).drop (dN (jc es) key)).take most.toNat=_
  unfold jc
  rw[Ev (fun e=>(e.k,e.s)) (fun _=>rfl),gK,gu]
 ·unfold wz iQ
  rw[Ev (fun e=>(e.k,e.v)) (fun _=>rfl),gK,gu]
theorem SH (t tr:Nat)(mp:VS)(root:Int)(ch:Bool)(σ:dF)(S:Nat->Prop)(w:World)(es:List nD)(tb:List Int)(key:ByteArray)(most:Int)(hT:Ad w S t tr mp σ root 0 ch 0)(hL:Live σ root es tb)(hl:es.length<=4090):
  Calls Tryz.prog 72 #[.pointer (some ⟨t,0,none⟩),.string key,.int .i64 most] w fun e w'=>∃v,e= .returned (.tuple #[v,.int .i64 0])/\aT w' S w.heap.size 130 2 v (wz (iQ es) key most).length (dK (wz (iQ es) key most))/\Below w.heap.size w w':=by
 have HU:=af (sj t mp tr ch 0 ⟨#[107]⟩ w hT.tx)
 have hu:jh 0 (⟨#[107]⟩:ByteArray)=0:=by decide
 rw[hu] at HU
 obtain⟨xs,hx1,hx2,hx3⟩:=LB es key most
 have HS:=LA tr mp root σ S (jc es) tb key most w hT.inv hT.tree hL.tree (by rw[fC];exact hl)
 have hx2:((jc es).drop (dN (jc es) key)).take most.toNat=jc xs:=hx2
 rw[hx2] at HS
 have HS:=af HS
 have HXS:=af (aC hx1 hx3)
 have c2:w.cell? ⟨t,2,none⟩=some (.pointer (some ⟨tr,0,none⟩)):=by simp[World.cell?,hT.tx,fK]
 have hlt:=(aj.1 hT.tx).1
 have HT:=af hT
 rw[hx3,kV]
 obtain⟨n,hn⟩:∃n,n=xs.length:=⟨_,rfl⟩
 have HN:=af hn
 rw[fC,<-hn] at HS
 rw[<-hn]
 clear hT hu hx1 hx2 hx3 hn
 go_enter Tryz.func72,Tryz.ntmps72
 go_wp2_with (first
  |(go_at_call 61;go_must (refine HU.out.mono ?_;rintro e w1 ⟨hw1,rfl⟩;subst w1))
  |(go_at_call 122;go_must (refine HS.out.mono ?_;rintro e w1 ⟨v,rfl,hown1,hb1⟩;refine Stop.of ?_)))
 refine Stop.on ?_
 obtain⟨ao,cp,rfl,_,_,_,_⟩:=bJ.form hown1.dI
 rw[<-LV] at hown1
 have HO1:=af hown1;have HB1:=af hb1
 clear hown1 hb1
 go_wp2_with fail
 go_loopw [10,11,12,35] (fun e _ _ i wr=>∃k:Nat,k<=n/\e= .int .i64 0/\i= .int .i64 k/\aT wr S w.heap.size 130 2 (.slice ao n cp) n (dK (vV xs k))/\Below w.heap.size w wr) (fun _ _ _ i _=>n - (intOf i).toNat)
 case atStart=>exact⟨0,aX _,rfl,rfl,HO1.out,HB1.out⟩
 case round=>
  obtain⟨k,hk,rfl,rfl,hok,hbk⟩:=hrel
  by_cases hkn:k<n
  ·have y1:(k:Int)<(n:Int):=by omega
   obtain⟨g,c,e,hc1,hc2,hg1,hg2⟩:=hok.BG (by omega)
   cases e
   have hkx:k<xs.length:=by rw[<-HN.out];exact hkn
   have hP:oF wr S (.slice (some ⟨g,0,none⟩) n cp) (vV xs k):=by
    have:=hok.dI
    unfold oF
    rw[o9,<-HN.out];exact this
   obtain⟨pb,po,e1,d0,d1⟩:=hP.at rfl k (by rw[o9];exact hkx)
   cases e1
   rw[KA xs k hkx] at d0 d1
   rw[aV] at d0 d1
   obtain⟨E,hE⟩:∃E,Hid (xs[k]=E):=⟨_,af rfl⟩
   rw[hE.out] at d0 d1
   have hmem:E∈es:=HXS.out.1 E (by rw[<-hE.out];exact bD hkx)
   have HV:=af (hL.val E hmem)
   have hTk:=HT.out.below hbk
   have HOK:=af hok;have HBK:=af hbk;have HTK:=af hTk
   have htk:=(aj.1 hTk.tx).1
   clear hok hbk hTk hP
   go_wp2_with (first
    |(go_at_call 101;go_must (refine(Na t mp (some tr) ch 0 σ S _ E.s E.v E.b (((aK wr (.cells #[.string E.k,.string E.s] 130)).block t htk).trans HTK.out.tx) (HTK.out.inv.below (aK wr (.cells #[.string E.k,.string E.s] 130))) HV.out).mono ?_;rintro e w5 ⟨hb5,rfl⟩;refine Stop.of ?_)))
   refine Stop.on ?_
   have hbw5:Below wr.heap.size wr w5:=(aK wr (.cells #[.string E.k,.string E.s] 130)).trans (hb5.mono (by simp))
   have hO5:=HOK.out.below hbw5
   obtain⟨u1,u2,u3,u4,u5⟩:=hO5.set2 k hkn (by rw[o9,<-HN.out]) E.v
   have u0:w5.cell? ⟨g,k*2+1,none⟩=some (.string E.s):=(hbw5.cell (p:=⟨g,k*2+1,none⟩) hg2).trans d1
   have hms:(vV xs k).set k (((vV xs k)[k]'(by rw[o9];exact hkx)).1,E.v)=vV xs (k+1):=by
    rw[KA xs k hkx,<-hE.out]
    exact NV xs k hkx
   rw[hms] at u1
   have hbs:Below w.heap.size w (w5.setCell ⟨g,k*2+1,none⟩ (.string E.v)):=(HBK.out.trans (hbw5.mono HBK.out.size)).setCell (by simpa using u5) _
   have HU1:=af (aC u1 hbs)
   clear u1 u2 hO5 hbw5 hb5 hms hbs
   go_wp2_with fail
   go_roundw
   case rel=>exact⟨k+1,by omega,rfl,by go_num,HU1.out.1,HU1.out.2⟩
   case measure=>simp[intOf];omega
  ·obtain rfl:k=n:=by omega
   have y1:¬(k:Int)<(k:Int):=by omega
   rw[HN.out,NW] at hok
   go_wp2_with fail
   go_ret2
   exact⟨_,rfl,by rw[HN.out];exact hok,hbk⟩
structure Px (σ:Dk)(l:Lg)(p:Pg)(f:Nat->Bool)(root:Nat):Prop where
 pd:p.dead=false
 sd:σ.dead=false
 two:2<=p.blocks σ
 map:p.look Im.none σ 0=bytesOf f
 hi:∀b,p.blocks σ<=b->f b=false
 f0:f 0=true
 f1:f 1=true
 root:Pe (p.look Im.none σ 1) root
def EX (n:Nat)(log:Int):Int:=if log<6\/(n:Int) - 8<log then 1 else 0
theorem TS (d:Nat)(σ:Dk)(Sd:Nat->Prop)(log:Int)(w:World)(h:tN w Sd d σ):
  Calls Tryz.prog 50 #[.pointer (some ⟨d,0,none⟩),.int .i64 log] w fun e w'=>e= .returned (.int .i64 (EX σ.n log))/\w'=w:=by
 have HS:=af (G6 d σ Sd w h)
 have hi:=h.ok.hi
 have q:IntKind.i64.wrap ((σ.n:Int) - 8)=(σ.n:Int) - 8:=aM _ (by omega)
 clear h
 unfold EX
 by_cases h1:log<6
 ·rw[if_pos (.inl h1)]
  go_enter Tryz.func50,Tryz.ntmps50
  go_wp2_with fail
  go_ret
  exact⟨rfl,rfl⟩
 ·by_cases h2:(σ.n:Int) - 8<log
  ·rw[if_pos (.inr h2)]
   go_enter Tryz.func50,Tryz.ntmps50
   go_wp2_with (first
    |(go_at_call 79;go_must (refine HS.out.mono ?_;rintro e w1 ⟨rfl,hw1⟩;subst w1)))
   go_ret
   exact⟨rfl,rfl⟩
  ·rw[if_neg (by omega)]
   go_enter Tryz.func50,Tryz.ntmps50
   go_wp2_with (first
    |(go_at_call 79;go_must (refine HS.out.mono ?_;rintro e w1 ⟨rfl,hw1⟩;subst w1)))
   go_ret
   exact⟨rfl,rfl⟩
theorem Qj {im:Im}{n:Nat}(h:im.Ok n):fq im.eu=(16+520*im.ks.length+511)/512:=by
 have e:(im.eu.map fun r=>4+r.length).sum=520*im.ks.length:=by
  unfold Im.eu
  rw[Fq]
  have hi:=h.img
  revert hi
  generalize im.ks=ks
  intro hi
  induction ks with
  |nil=>rfl
  |cons k ks ih=>
   rw[dG,wu,ih (fun x hx=>hi x (bq _ hx)),bE]
   have:=hi k (bF ..)
   show 4+(leB k 4++im.img k).length+_=_
   rw[ay,fO,this];omega
 unfold fq
 rw[e]
theorem Dk.Fw:∀(k i:Nat) (σ:Dk) (j:Nat),i<=j->j<i+k->(Dk.uh k i σ).get j=pad []
 |0,_,_,_,h1,h2=>absurd h2 (by omega)
 |k+1,i,σ,j,h1,h2=>by
  rw[Dk.yS,Dk.get_put]
  split
  ·rfl
  ·exact Dk.Fw k i σ j h1 (by omega)
structure Sj (σ0:Dk)(log:Nat)(σ:Dk)(l:Lg)(p:Pg):Prop where
 vi:VI σ l p
 last:l.last=1
 synced:l.synced=1
 skip:p.skip=log
 ring:p.ring=log - 1
 n:σ.n=σ0.n
 base:Px σ l p two 0
theorem Sj.live {σ:Dk}{l:Lg}{p:Pg}:Live (dF.start σ l p two) 0 [] []:=by
 refine⟨.inl ⟨rfl,rfl,rfl⟩,(fun e he=>by cases he),⟨pQ,fun x hx=> ?_,?_⟩⟩
 ·obtain⟨n,rfl,_,h⟩:=dF.ng hx
  have h:two n=true:=h
  unfold two at h
  have:=fG h
  omega
 ·show countB (fun x=>two x||two x) (p.blocks σ)=countB two (p.blocks σ)+0
  rw[iX]
  exact kF _ (fun x _=>Bool.or_self _)
theorem SI (d:Nat)(σ:Dk)(Sd:Nat->Prop)(log:Nat)(w:World)(h:tN w Sd d σ)(hf:σ.oC)(h1:6<=log)(h2:log+8<=σ.n)(hcap:σ.waits.length<=50000):
  Calls Tryz.prog 33 #[.pointer (some ⟨d,0,none⟩),.int .i64 log] w fun e w'=>∃v pg σ' l' p' S',e= .returned (.tuple #[.pointer (some ⟨v,0,none⟩),.int .i64 0])/\w'.heap[v]? =some (.cells #[.pointer (some ⟨pg,0,none⟩)] 93 (0,0))/\¬S' v/\w.heap.size<=v/\kP w' S' pg d σ' l' p' (.pointer none)/\Sj σ log σ' l' p'/\Step Sd S' w w':=by
 have hck:=TS d σ Sd log w h
 have hc0:EX σ.n log=0:=by unfold EX;rw[if_neg (by omega)]
 rw[hc0] at hck
 have HCK:=af hck
 have hdn:=h.ok.hi
 have HPM:=af (SV d σ Sd log w h hf (by omega) (by omega) hcap)
 have hsub:=h.sub
 clear h hck hc0
 go_enter Tryz.func33,Tryz.ntmps33
 go_wp2_with (first
  |(go_at_call 50;go_must (refine HCK.out.mono ?_;rintro e w1 ⟨rfl,hw1⟩;subst w1))
  |(go_at_call 51;go_must (refine HPM.out.mono ?_;rintro e w1 ⟨pg,S1,rfl,hp1,hs1⟩;refine Stop.of ?_)))
 refine Stop.on ?_
 obtain⟨σ1,hσ1⟩:∃σ1,σ1=(((Dk.uh (σ.n - log) log σ).flush.put 0 (Lg.new 0 log).lQ).flush):=⟨_,rfl⟩
 rw[<-hσ1] at hp1
 have hn1:σ1.n=σ.n:=by rw[hσ1];exact Dk.yT _ _ _
 have hf1:σ1.oC:=by rw[hσ1];exact Dk.vC _ _ _ hf
 have hw1:σ1.waits=[]:=by rw[hσ1];rfl
 have hg1:∀j,log<=j->j<σ.n->σ1.get j=pad []:=fun j a b=>by
  rw[hσ1,wV _ _ _ _ (by omega)]
  exact Dk.Fw _ _ _ _ a (by omega)
 have hbl:(Pg.new log).blocks σ1=σ.n - log:=by unfold Pg.blocks;rw[hn1];rfl
 have HBG:=af (NP pg d σ1 (Lg.new 0 log) (Pg.new log) S1 w1 hp1 rfl)
 have hsub1:=hp1.sub
 have HS1:=af hs1
 have HF1:=af (aC hn1 (aC hf1 (aC hw1 hg1)))
 clear hσ1 hp1 hs1 hn1 hf1 hw1 hg1
 go_wp2_with (first
  |(go_at_call 52;go_must (refine HBG.out.mono ?_;rintro e w2 ⟨t,T,rfl,hp2,ht2,hs2,hT2⟩;refine Stop.of ?_)))
 refine Stop.on ?_
 have hdis:∀g,S1 g->¬T g:=fun g hg e=>absurd (hT2 g e) (fI.2 (hsub1 g hg))
 have HBL:=af (Ew pg d σ1 (Lg.new 0 log) (Pg.new log) _ S1 w2 hp2)
 have HSM:=af (Rt t pg d σ1 (Lg.new 0 log) (Pg.new log) _ Im.none S1 T w2.drew (hp2.below ((aO _ w2).drew)) (ht2.below ((aO _ w2).drew)) rfl (by omega))
 clear hbl
 have HX2:=af (aC hp2 hs2)
 clear hp2 ht2 hs2
 go_wp2_with (first
  |(go_at_call 54;go_must (refine HBL.out.mono ?_;rintro e w3 ⟨rfl,hw3⟩;subst w3))
  |(go_at_call 53;go_must (refine HSM.out.mono ?_;rintro e w3 ⟨rfl,ht3,hs3⟩;refine Stop.of ?_)))
 refine Stop.on ?_
 obtain⟨im,him⟩:∃im,im=Im.none.put 0 (bytesOf two):=⟨_,rfl⟩
 rw[<-him] at ht3
 have hp3:=(HX2.out.1.below ((aO _ w2).drew)).keep hs3.1 (fun g hg e=>hdis g hg e)
 have himok:im.Ok ((Pg.new log).blocks σ1):=by obtain⟨_,q⟩:=ht3;exact q.ok
 have hks:im.ks=[0]:=by rw[him];rfl
 have hPO:=hp3.ok
 have hV1:VI σ1 (Lg.new 0 log) (Pg.new log):=⟨HF1.out.2.1,rfl,rfl,by rw[HF1.out.2.2.1];exact aX _⟩
 have HCM:=Qf t pg d σ1 (Lg.new 0 log) (Pg.new log) _ im S1 T w3 hp3 ht3 hdis rfl rfl (by rw[HF1.out.2.2.1];exact aX _) (by show 0<1000000000000;omega)
 obtain⟨σ2,l2,p2,hcm,hV2,hl2,hk2,hr2,hn2,hlk2⟩:∃σ2 l2 p2,(Pg.new log).commit σ1 (Lg.new 0 log) im=(σ2,l2,p2,1,0)/\VI σ2 l2 p2/\l2.last=1/\p2.skip=log/\p2.ring=log - 1/\σ2.n=σ1.n/\∀b,p2.look Im.none σ2 b=(Pg.new log).look im σ1 b:=by
  rcases JS hV1 hPO.1 hPO.2.2 himok with ⟨q,_⟩|⟨_,q,_⟩|⟨_,_,σ2,l2,p2,q1,q2,q3,q4,q5,q6,q7⟩
  ·rw[hks] at q;cases q
  ·unfold Pg.Gc at q
   rw[Qj himok,hks] at q
   have:(Pg.new log).ring=log - 1:=rfl
   rw[this] at q
   simp at q
   omega
  ·exact⟨σ2,l2,p2,q1,q2,q3,q4,q5,q6,q7⟩
 rw[hcm] at HCM
 have HCM:=af HCM
 have HLK:=af (aC hV2 (aC hl2 (aC hk2 (aC hr2 (aC hn2 (aC hlk2 him))))))
 have HS3:=af (HX2.out.2.trans ((Step.of_below ((aO _ w2).drew):Step S1 S1 w2 w2.drew)))
 have HK3:=af hs3
 clear hp3 ht3 himok hks hPO hV1 hcm hV2 hl2 hk2 hr2 hn2 hlk2 him hs3
 go_wp2_with (first
  |(go_at_call 55;go_must (refine HCM.out.mono ?_;rintro e w4 ⟨rfl,S4,hp4,hE4,hs4⟩;refine Stop.of ?_)))
 refine Stop.on ?_
 obtain⟨σ5,l5,hsy,hV5,hl5,hy5,hn5,hlk5⟩:=Nr HLK.out.1 hp4.ok.1
 have HSY:=SS pg d σ2 l2 p2 _ S4 w4 hp4 (by have:=HLK.out.1.wt;have:=hp4.ok.2.2.us;have:=hp4.ok.2.2.hi;omega)
 rw[hsy] at HSY
 have HSY:=af HSY
 have HL5:=af (aC hV5 (aC hl5 (aC hy5 (aC hn5 hlk5))))
 have HS4:=af hs4
 clear hp4 hE4 hs4 hsy hV5 hl5 hy5 hn5 hlk5
 go_wp2_with (first
  |(go_at_call 56;go_must (refine HSY.out.mono ?_;rintro e w5 ⟨rfl,S5,hp5,hs5⟩;refine Stop.of ?_)))
 refine Stop.on ?_
 go_wp2_with fail
 go_ret2
 have hb6:=aK w5 (.cells #[.pointer (some ⟨pg,0,none⟩)] 93)
 have hsub5:=hp5.sub
 have hz5:w.heap.size<=w5.heap.size:=by
  have a:=HS1.out.1.size;have b:=HS3.out.1.size;have c:=HK3.out.1.size;have d:=HS4.out.1.size;have e:=hs5.1.size
  omega
 have hskip:=HLK.out.2.2.1
 have hlook:∀b,p2.look Im.none σ5 b=(Pg.new log).look im σ1 b:=fun b=>(HL5.out.2.2.2.2 Im.none b).trans (HLK.out.2.2.2.2.2.1 b)
 have hn5:σ5.n=σ.n:=HL5.out.2.2.2.1.trans (HLK.out.2.2.2.2.1.trans HF1.out.1)
 refine⟨w5.heap.size,pg,σ5,l5,p2,S5,rfl,aP w5 _,fun e=>dM _ (hsub5 _ e),hz5,hp5.below hb6,⟨HL5.out.1,HL5.out.2.1.trans HLK.out.2.1,HL5.out.2.2.1.trans HLK.out.2.1,hskip,HLK.out.2.2.2.1,hn5,?_⟩,?_⟩
 ·have hbl5:p2.blocks σ5=σ.n - log:=by unfold Pg.blocks;rw[hn5,hskip]
  refine⟨HLK.out.1.pd,HL5.out.1.free.1,by omega,?_,fun b hb=> ?_,rfl,rfl,?_⟩
  ·rw[hlook,HLK.out.2.2.2.2.2.2]
   unfold Pg.look
   rw[Im.BJ,if_pos rfl];rfl
  ·unfold two
   exact aZ (by omega)
  ·rw[hlook,HLK.out.2.2.2.2.2.2]
   have:(Pg.new log).look (Im.none.put 0 (bytesOf two)) σ1 1=pad []:=by
    unfold Pg.look
    rw[Im.BJ,if_neg (by omega)]
    exact HF1.out.2.2.2 (log+1) (by omega) (by omega)
   rw[this]
   exact⟨by omega,List.replicate 510 0,rfl⟩
 ·have h0:=HS1.out.trans HS3.out
  have a:Step Sd (fun g=>S1 g\/T g) w w2.drew:=⟨h0.1,fun g hg=>hg.elim (h0.2 g) (fun e=> .inr (aH HS1.out.1.size (hT2 g e)))⟩
  have b:Step Sd (fun g=>S1 g\/T g) w w3:=a.trans ⟨HK3.out.1.mono (fun g _ e=> .inr e),fun g hg=> .inl hg⟩
  have c:=b.trans HS4.out
  have e:Step Sd S5 w w5:=c.trans ⟨hs5.1.mono (fun g _ e=> .inl e),fun g hg=>(hs5.2 g hg).imp .inl id⟩
  exact e.trans (Step.of_below hb6)
structure Ug (w:World)(S:Nat->Prop)(v pg d:Nat)(σ:Dk)(l:Lg)(p:Pg)(f:Nat->Bool)(root:Nat)(es:List nD)(tb:List Int):Prop where
 obj:w.heap[v]? =some (.cells #[.pointer (some ⟨pg,0,none⟩)] 93 (0,0))
 nv:¬S v
 pgr:kP w S pg d σ l p (.pointer none)
 vi:VI σ l p
 base:Px σ l p f root
 live:Live (dF.start σ l p f) root es tb
structure Uu (σ:dF)(root:Nat)(es:List nD)(tb:List Int):Prop where
 vi:VI σ.H.dk σ.H.lg σ.H.pg
 base:Px σ.H.dk σ.H.lg σ.H.pg σ.H.old root
 live:Live (dF.start σ.H.dk σ.H.lg σ.H.pg σ.H.old) root es tb
structure Aq (w:World)(S:Nat->Prop)(v t tr:Nat)(mp:VS)(σ:dF)(root:Int)(es:List nD)(tb:List Int)(ch:Bool)(root0:Nat)(es0:List nD)(tb0:List Int):Prop where
 obj:w.heap[v]? =some (.cells #[.pointer (some ⟨mp.pg,0,none⟩)] 93 (0,0))
 nv:¬S v
 tx:Ad w S t tr mp σ root 0 ch 0
 live:Live σ root es tb
 bas:Uu σ root0 es0 tb0
 ch:ch=false->σ=dF.start σ.H.dk σ.H.lg σ.H.pg σ.H.old/\es=es0
structure Ul (w:World)(S:Nat->Prop)(v t tr:Nat)(mp:VS)(σ:dF)(ch:Bool)(root0:Nat)(es0:List nD)(tb0:List Int):Prop where
 obj:w.heap[v]? =some (.cells #[.pointer (some ⟨mp.pg,0,none⟩)] 93 (0,0))
 nv:¬S v
 tx:∃root err,Ad w S t tr mp σ root err ch 12
 bas:Uu σ root0 es0 tb0
theorem Ro {w:World}{v t pg:Nat}{mp:VS}{tr:Option Nat}{ch:Bool}{er:Int}(h:w.heap[v]? =some (.cells #[.pointer (some ⟨pg,0,none⟩)] 93 (0,0)))(ht:w.heap[t]? =some (.cells (fK mp tr ch er) 110 (0,0))):v≠t:=by
 rintro rfl
 rw[h] at ht
 injection ht with ht
 injection ht with _ h2
 exact absurd h2 (by decide)
theorem PV {w:World}{v t pg:Nat}{mp:VS}{root err:Int}(h:w.heap[v]? =some (.cells #[.pointer (some ⟨pg,0,none⟩)] 93 (0,0)))(ht:dA w t mp root err):v≠t:=by
 rintro rfl
 unfold dA at ht
 rw[h] at ht
 injection ht with ht
 injection ht with _ h2
 exact absurd h2 (by decide)
theorem Aq.Kw {w w':World}{S S':Nat->Prop}{v t tr:Nat}{mp:VS}(h:w.heap[v]? =some (.cells #[.pointer (some ⟨mp.pg,0,none⟩)] 93 (0,0)))(hn:¬S v){ch:Bool}{er root err:Int}(htx:w.heap[t]? =some (.cells (fK mp (some tr) ch er) 110 (0,0)))(htr:dA w tr mp root err)(hs:gN S S' t tr w w'):
  w'.heap[v]? =some (.cells #[.pointer (some ⟨mp.pg,0,none⟩)] 93 (0,0))/\¬S' v:=by
 have hl:=(aj.1 h).1
 refine⟨(hs.1.block v hl (fun e=> ?_)).trans h,fun e=>(hs.2 v e).elim hn (fun x=>absurd hl (bM.2 x))⟩
 rcases e with e|e|e
 ·exact hn e
 ·exact Ro h htx e
 ·exact PV h htr e
theorem Aq.below {w w':World}{S:Nat->Prop}{v t tr:Nat}{mp:VS}{σ:dF}{root:Int}{es:List nD}{tb:List Int}{ch:Bool}{root0:Nat}{es0:List nD}{tb0:List Int}(h:Aq w S v t tr mp σ root es tb ch root0 es0 tb0)(hb:Below w.heap.size w w'):Aq w' S v t tr mp σ root es tb ch root0 es0 tb0:=
 ⟨(hb.block v (aj.1 h.obj).1).trans h.obj,h.nv,h.tx.below hb,h.live,h.bas,h.ch⟩
structure mR where
 F:Nat->Prop
 w:World
instance :Coe World mR:=⟨fun w=>⟨fun g=>g<w.heap.size,w⟩⟩
structure VB (b:mR)(w:World)(S:Nat->Prop):Prop where
 os:w.os=b.w.os
 tape:w.tape=b.w.tape
 output:w.output=b.w.output
 size:b.w.heap.size<=w.heap.size
 block:∀g,b.F g->w.heap[g]? =b.w.heap[g]?
 fs:∀g,b.F g->g<b.w.heap.size
 lo:∀g,S g->¬b.F g
theorem VB.jR {w0 w:World}{S:Nat->Prop}(h:VB w0 w S):Below w0.heap.size w0 w:=⟨h.os,h.tape,h.output,h.size,fun k hk=>h.block k hk⟩
theorem VB.of {w0 w:World}{S:Nat->Prop}(h:Below w0.heap.size w0 w)(hl:∀g,S g->w0.heap.size<=g):VB w0 w S:=⟨h.os,h.tape,h.output,h.size,fun k hk=>h.block k hk,fun _ hg=>hg,fun g hg=>bM.2 (hl g hg)⟩
theorem VB.keep {b:mR}{w w':World}{S S' M:Nat->Prop}(h:VB b w S)(hk:Keep M w w')(hM:∀g,b.F g->¬M g)(hS:∀g,S' g->S g\/w.heap.size<=g):VB b w' S':=
 ⟨hk.os.trans h.os,hk.tape.trans h.tape,hk.output.trans h.output,aH h.size hk.size,fun g hg=>(hk.block g (ax (h.fs g hg) h.size) (hM g hg)).trans (h.block g hg),h.fs,fun g hg hf=>(hS g hg).elim (fun e=>h.lo g e hf) (fun e=>absurd (ax (h.fs g hf) h.size) (bM.2 e))⟩
theorem VB.step {b:mR}{w w':World}{S S':Nat->Prop}(h:VB b w S)(hs:Step S S' w w'):VB b w' S':=h.keep hs.1 (fun g hg e=>h.lo g e hg) hs.2
theorem VB.Ka {b:mR}{w w':World}{S S':Nat->Prop}{t tr:Nat}(h:VB b w S)(ht:¬b.F t)(htr:¬b.F tr)(hs:gN S S' t tr w w'):VB b w' S':=h.keep hs.1 (fun g hg e=>by
  rcases e with e|e|e
  ·exact h.lo g e hg
  ·exact ht (e▸hg)
  ·exact htr (e▸hg)) hs.2
theorem VB.below {b:mR}{w w':World}{S:Nat->Prop}(h:VB b w S)(hb:Below w.heap.size w w'):VB b w' S:=h.step (Step.of_below hb)
theorem VB.new {b:mR}{w:World}{S:Nat->Prop}(h:VB b w S){g:Nat}(hg:w.heap.size<=g):¬b.F g:=fun hf=>absurd (ax (h.fs g hf) h.size) (bM.2 hg)
section
variable {w:World} {S:Nat->Prop} {v pg d:Nat} {σ:Dk} {l:Lg} {p:Pg} {f:Nat->Bool} {root:Nat} {es:List nD} {tb:List Int}
theorem Ug.begin (h:Ug w S v pg d σ l p f root es tb):
  Calls Tryz.prog 35 #[.pointer (some ⟨v,0,none⟩)] w fun e w'=>∃t tr mp S',e= .returned (.tuple #[.pointer (some ⟨t,0,none⟩),.int .i64 0])/\mp.pg=pg/\mp.d=d/\Aq w' S' v t tr mp (dF.start σ l p f) root es tb false root es tb/\Step S S' w w'/\w.heap.size<=t/\w.heap.size<=tr:=by
 refine(Rn v pg d σ l p f root S w h.obj h.nv h.pgr h.base.pd h.base.sd h.base.two h.base.map h.base.hi h.base.f0 h.base.f1 h.base.root).mono ?_
 rintro e w1 ⟨t,tr,mp,S1,rfl,hpg,hd,htx,htr,hI1,hs1,hn1,hn2,hlo1,hlo2⟩
 have hlt:=(aj.1 h.obj).1
 exact⟨t,tr,mp,S1,rfl,hpg,hd,⟨by rw[hpg];exact(hs1.1.block v hlt h.nv).trans h.obj,fun e=>(hs1.2 v e).elim h.nv (fun x=>absurd hlt (bM.2 x)),⟨htx,htr,hI1,hn1,hn2⟩,h.live,⟨h.vi,h.base,h.live⟩,fun _=>⟨rfl,rfl⟩⟩,hs1,hlo1,hlo2⟩
end
section
variable {w:World} {S:Nat->Prop} {v t tr:Nat} {mp:VS} {σ:dF} {root:Int} {es:List nD} {tb:List Int} {ch:Bool} {root0:Nat} {es0:List nD} {tb0:List Int}
theorem Aq.spoilt (h:Aq w S v t tr mp σ root es tb ch root0 es0 tb0){w':World}(hp:rP t tr mp S σ ch w w'):
  ∃σ' S',Ul w' S' v t tr mp σ' ch root0 es0 tb0/\σ'.H=σ.H/\gN S S' t tr w w':=by
 obtain⟨σ',S',rt,er,hT,hH,hm,hs⟩:=hp
 obtain⟨a,b⟩:=Aq.Kw h.obj h.nv h.tx.tx h.tx.tree hs
 refine⟨σ',S',⟨a,b,⟨rt,er,hT⟩,?_⟩,hH,hs⟩
 have:=h.bas
 obtain⟨x,y,z⟩:=this
 rw[<-hH] at x y z
 exact⟨x,y,z⟩
theorem Aq.moved (h:Aq w S v t tr mp σ root es tb ch root0 es0 tb0){w':World}{σ':dF}{S':Nat->Prop}{root':Int}{es':List nD}{tb':List Int}{ch':Bool}(hT:Ad w' S' t tr mp σ' root' 0 ch' 0)(hL:Live σ' root' es' tb')(hH:σ'.H=σ.H)(hs:gN S S' t tr w w')(hc:ch'=false->σ'=dF.start σ'.H.dk σ'.H.lg σ'.H.pg σ'.H.old/\es'=es0):Aq w' S' v t tr mp σ' root' es' tb' ch' root0 es0 tb0:=by
 obtain⟨a,b⟩:=Aq.Kw h.obj h.nv h.tx.tx h.tx.tree hs
 refine⟨a,b,hT,hL,?_,hc⟩
 obtain⟨x,y,z⟩:=h.bas
 rw[<-hH] at x y z
 exact⟨x,y,z⟩
end
theorem Om {es l o r:List nD}{key v:ByteArray}(hA:rR es key l o r)(h:eT (iQ es) key=some v):mI (iQ es) key v=iQ es:=by
 rw[hA.lv] at h
 rcases hA.one with rfl|⟨e,rfl,hk⟩
 ·cases h
 ·have hv:e.v=v:=by simpa using h
  rw[hA.iv e.s v e.b,hA.eq,mG,mG,mG,aN]
  congr 1
  simp[iQ,hk,hv]
theorem ByteArray.bne {a b:ByteArray}(h:a≠b):(a.toList==b.toList)=false:=by
 rw[cu]
 intro e
 exact h (Ct (Ea.1 (by rw[toList_eq,toList_eq] at e;exact e)))
section
variable {w:World} {S:Nat->Prop} {v t tr:Nat} {mp:VS} {σ:dF} {root:Int} {es:List nD} {tb:List Int} {ch:Bool} {root0:Nat} {es0:List nD} {tb0:List Int}
def Ff (w:World)(S:Nat->Prop)(v t tr:Nat)(mp:VS)(σ:dF)(es:List nD)(tb:List Int)(ch':Bool)(root0:Nat)(es0:List nD)(tb0:List Int)(c W:Nat)(qs:List Pr)(w':World):Prop:=
 ∃σ' S' root' es' tb',Aq w' S' v t tr mp σ' root' es' tb' ch' root0 es0 tb0/\iQ es'=qs/\σ'.H=σ.H/\σ'.most=σ.most/\gN S S' t tr w w'/\Ui σ σ' tb c/\lM σ σ' (tb++dV es) (tb'++dV es')/\(es'.length<=299->xu σ σ' W)
def Pf (w:World)(S:Nat->Prop)(v t tr:Nat)(mp:VS)(σ:dF)(ch:Bool)(root0:Nat)(es0:List nD)(tb0:List Int)(w':World):Prop:=
 ∃σ' S',Ul w' S' v t tr mp σ' ch root0 es0 tb0/\σ'.H=σ.H/\gN S S' t tr w w'
theorem Aq.put (h:Aq w S v t tr mp σ root es tb ch root0 es0 tb0)(key value:ByteArray)(hl:es.length<=4090)(hg:1<=key.size/\key.size<=128)(hv:value.size<=49152):
  Calls Tryz.prog 38 #[.pointer (some ⟨t,0,none⟩),.string key,.string value] w fun e w'=>
   (e= .returned (.int .i64 0)/\Ff w S v t tr mp σ es tb (ch|| !decide (eT (iQ es) key=some value)) root0 es0 tb0 (2*(es.length+1)+lS value) (65+lS value) (mI (iQ es) key value) w')\/
   (e= .returned (.int .i64 12)/\σ.most+nh σ tb<σ.sz+2*(es.length+1)+lS value/\Pf w S v t tr mp σ ch root0 es0 tb0 w'):=by
 obtain⟨a,o,r,hA⟩:=O7 es key
 by_cases hs:eT (iQ es) key=some value
 ·refine(La t tr mp root ch σ S w es a o r tb key value h.tx h.live hA hl hg hv hs).mono ?_
  rintro e w' ⟨rfl,hb⟩
  refine .inl ⟨rfl,σ,S,root,es,tb,?_,(Om hA hs).symm,rfl,rfl,gN.of (Step.of_below hb),fun _ _ t=>t,lM.refl (fun x hx=>(h.live.all x hx).1),fun _=>(xu.refl _).more (aX _)⟩
  have:(ch|| !decide (eT (iQ es) key=some value))=ch:=by simp[hs]
  rw[this]
  exact h.below hb
 ·have hc:(ch|| !decide (eT (iQ es) key=some value))=true:=by simp[hs]
  rw[hc]
  have hno:∀(there:Bool) (was:ByteArray),(eT (iQ es) key).isSome=there/\(eT (iQ es) key).getD ByteArray.empty=was->there=true->(was.toList==value.toList)=false:=by
   rintro there was ⟨h1,h2⟩ ht
   refine ByteArray.bne fun e=>hs ?_
   subst ht
   obtain⟨x,hx⟩:=Option.isSome_iff_exists.1 h1
   rw[hx] at h2 ⊢
   rw[<-e,<-h2];rfl
  have hput:∀(e:Ending) (w':World),((e= .returned (.int .i64 0)/\Fa t tr mp S σ es a r tb key value w w')\/(e= .returned (.int .i64 12)/\σ.most+nh σ tb<σ.sz+2*(es.length+1)+lS value/\rP t tr mp S σ ch w w'))->
    ((e= .returned (.int .i64 0)/\Ff w S v t tr mp σ es tb true root0 es0 tb0 (2*(es.length+1)+lS value) (65+lS value) (mI (iQ es) key value) w')\/(e= .returned (.int .i64 12)/\σ.most+nh σ tb<σ.sz+2*(es.length+1)+lS value/\Pf w S v t tr mp σ ch root0 es0 tb0 w')):=by
   rintro e w' (⟨rfl,σ',S',root',tb',s,nb,q1,q2,q3,q4,q5,q6⟩|⟨rfl,hr,hp⟩)
   ·exact .inl ⟨rfl,σ',S',root',_,tb',h.moved q1 q2 q3.H q4 (fun e=>by cases e),(hA.iv s value nb).symm,q3.H,q3.most,q4,q5,q3,q6⟩
   ·exact .inr ⟨rfl,hr,h.spoilt hp⟩
  by_cases hz:value.size<=63
  ·exact(II t tr mp root ch σ S w es a o r tb key value h.tx h.live hA hl hg hz _ _ ⟨rfl,rfl⟩ (hno _ _ ⟨rfl,rfl⟩)).mono hput
  ·exact(Lb t tr mp root ch σ S w es a o r tb key value h.tx h.live hA hl hg ⟨by omega,hv⟩ _ _ ⟨rfl,rfl⟩ (hno _ _ ⟨rfl,rfl⟩)).mono hput
theorem OH {es l o r:List nD}{key:ByteArray}(hA:rR es key l o r)(h:eT (iQ es) key=none):l++r=es:=by
 rw[hA.lv] at h
 rcases hA.one with rfl|⟨e,rfl,hk⟩
 ·rw[hA.eq,dS]
 ·cases h
theorem Ed (t tr:Nat)(mp:VS)(root:Int)(ch:Bool)(σ:dF)(S:Nat->Prop)(w:World)(es l o r:List nD)(tb:List Int)(key:ByteArray)(hT:Ad w S t tr mp σ root 0 ch 0)(hL:Live σ root es tb)(hA:rR es key l o r)(hl:es.length<=4090)(hg:1<=key.size/\key.size<=128)(hno:eT (iQ es) key=none):
  Calls Tryz.prog 41 #[.pointer (some ⟨t,0,none⟩),.string key] w fun e w'=>e= .returned (.tuple #[.bool false,.int .i64 0])/\Ad w' S t tr mp σ root 0 ch 0/\gN S S t tr w w':=by
 have hne:=su hT.tx hT.tree
 have HU:=af (sj t mp tr ch 0 key w hT.tx)
 have hu:jh 0 key=0:=by unfold jh;rw[if_neg (by simp),if_neg (by omega)]
 rw[hu] at HU
 have hl':(jc es).length<=4090:=by rw[fC];exact hl
 have hsm:eT (jc es) key=none:=by
  rw[hA.lv] at hno
  rw[hA.ls]
  cases hq:o.head? with
  |none=>rfl
  |some e=>rw[hq] at hno;cases hno
 have HD:=af (Az t tr mp root ch 0 σ S w (jc es) tb key hT.tx hT.inv hT.tree hL.tree hl' hg (by rw[hsm];rfl) (by rw[hsm];exact aX _))
 obtain⟨n,hn40,hlk⟩:=hL.tree.look (by omega) key
 rw[hsm] at hlk
 have HT:=af hT
 have hlt:=(aj.1 hT.tx).1
 have HLK:=af hlk
 clear hT hu hno hsm hlk
 go_enter Tryz.func41,Tryz.ntmps41
 go_wp2_with (first
  |(go_at_call 61;go_must (refine HU.out.mono ?_;rintro e w1 ⟨hw1,rfl⟩;subst w1))
  |(go_at_call 63;go_must (refine HD.out.mono ?_;rintro e w1 ⟨rfl,hb1⟩;refine Stop.of ?_)))
 refine Stop.on ?_
 have hT1:=HT.out.below hb1
 have HDT:=af (zQ tr mp root σ S key w1 hT1.inv hT1.tree hg.1 hg.2 n hn40 HLK.out)
 have c2:w1.cell? ⟨t,2,none⟩=some (.pointer (some ⟨tr,0,none⟩)):=by simp[World.cell?,hT1.tx,fK]
 have hlt1:=(aj.1 hT1.tx).1
 have HT1:=af hT1
 clear hT1
 go_wp2_with (first
  |(go_at_call 71;go_must (refine HDT.out.mono ?_;rintro e w2 ⟨rfl,hb2⟩;refine Stop.of ?_)))
 refine Stop.on ?_
 have hT2:=HT1.out.below hb2
 have hlt2:=(aj.1 hT2.tx).1
 have d3:w2.cell? ⟨t,3,none⟩=some (.bool ch):=by simp[World.cell?,hT2.tx,fK]
 have f3:w2.frozen? ⟨t,3,none⟩=false:=by simp[World.frozen?,hT2.tx]
 have HT2:=af hT2
 have hs2:gN S S t tr w w2:=gN.of (Step.of_below (hb1.trans (hb2.mono hb1.size)))
 have HS2:=af hs2
 clear hT2 hb1 hb2 hs2
 have fin:∀b:Bool,b=ch->Ad (w2.setCell ⟨t,3,none⟩ (.bool b)) S t tr mp σ root 0 ch 0/\gN S S t tr w (w2.setCell ⟨t,3,none⟩ (.bool b)):=by
  rintro b rfl
  have hk3:Keep (· =t) w2 (w2.setCell ⟨t,3,none⟩ (.bool b)):=(Keep.refl (· =t) _).setCell (p:=⟨t,3,none⟩) (.inr rfl) _
  refine⟨⟨?_,(hk3.block tr (aj.1 HT2.out.tree).1 (fun e=>hne e.symm)).trans HT2.out.tree,HT2.out.inv.mH hk3 (fun g hg e=>HT.out.nt (e▸hg)),HT.out.nt,HT.out.ntr⟩,HS2.out.trans (gN.one hk3)⟩
  simp[World.setCell,bn,HT2.out.tx]
  rfl
 have FIN:=af fin
 clear fin
 cases ch
 all_goals
  go_wp2_with fail
  go_ret2
  exact⟨rfl,FIN.out _ rfl⟩
theorem Aq.delete (h:Aq w S v t tr mp σ root es tb ch root0 es0 tb0)(key:ByteArray)(hl:es.length<=4090)(hg:1<=key.size/\key.size<=128):
  Calls Tryz.prog 41 #[.pointer (some ⟨t,0,none⟩),.string key] w fun e w'=>
   (e= .returned (.tuple #[.bool (eT (iQ es) key).isSome,.int .i64 0])/\Ff w S v t tr mp σ es tb (ch||(eT (iQ es) key).isSome) root0 es0 tb0 (2*(es.length+1)) 65 (nu (iQ es) key) w')\/
   (e= .returned (.tuple #[.bool false,.int .i64 12])/\σ.most+nh σ tb<σ.sz+2*(es.length+1)/\Pf w S v t tr mp σ ch root0 es0 tb0 w'):=by
 obtain⟨a,o,r,hA⟩:=O7 es key
 cases hx:eT (iQ es) key with
 |none=>
  refine(Ed t tr mp root ch σ S w es a o r tb key h.tx h.live hA hl hg hx).mono ?_
  rintro e w' ⟨rfl,hT,hs⟩
  refine .inl ⟨rfl,σ,S,root,es,tb,?_,by rw[hA.dv,OH hA hx],rfl,rfl,hs,fun _ _ t=>t,lM.refl (fun x hx=>(h.live.all x hx).1),fun _=>(xu.refl _).more (aX _)⟩
  have:(ch||Option.isSome (none:Option ByteArray))=ch:=by simp
  rw[this]
  exact h.moved hT h.live rfl hs h.ch
 |some x=>
  refine(PU t tr mp root ch σ S w es a o r tb key h.tx h.live hA hl hg).mono ?_
  rw[hx]
  rintro e w' (⟨rfl,σ',S',root',tb',q1,q2,q3,q4,q5,q6⟩|⟨rfl,hr,hp⟩)
  ·have hc:(ch||Option.isSome (some x))=true:=by simp
   rw[hx,hc] at q1
   rw[hc]
   exact .inl ⟨rfl,σ',S',root',_,tb',h.moved q1 q2 q3.H q4 (fun e=>by cases e),hA.dv.symm,q3.H,q3.most,q4,q5,q3,q6⟩
  ·exact .inr ⟨rfl,hr,h.spoilt hp⟩
theorem Aq.scan (h:Aq w S v t tr mp σ root es tb ch root0 es0 tb0)(key:ByteArray)(most:Int)(hl:es.length<=4090):
  Calls Tryz.prog 72 #[.pointer (some ⟨t,0,none⟩),.string key,.int .i64 most] w fun e w'=>∃v,e= .returned (.tuple #[v,.int .i64 0])/\aT w' S w.heap.size 130 2 v (wz (iQ es) key most).length (dK (wz (iQ es) key most))/\Below w.heap.size w w':=
 SH t tr mp root ch σ S w es tb key most h.tx h.live hl
end
def BX (kv:List Pr):Nat:=(kv.map fun p=>lS p.2).sum
theorem ValAt.cost {σ:dF}{s v:ByteArray}{b:List Int}(h:ValAt σ s v b):b.length=lS v:=by
 rcases h with ⟨_,h2,rfl⟩|⟨hd,rs,_,⟨_,h2⟩,h3,rfl⟩
 ·unfold lS;rw[if_pos h2];rfl
 ·unfold lS
  rw[if_neg (by omega)]
  have e1:=h3.hd.len
  have e2:v.data.toList.length=v.size:=by show v.data.toList.length=v.data.size;simp
  rw[e2] at e1
  simp[jY,e1];omega
theorem DW {σ:dF}:∀{es:List nD},(∀e∈es,ValAt σ e.s e.v e.b)->(dV es).length=BX (iQ es)
 |[],_=>rfl
 |e::es,h=>by
  have h1:=(h e (bF ..)).cost
  have h2:=DW (es:=es) fun x hx=>h x (bq _ hx)
  rw[DZ,ay,h1,h2];rfl
def TJ (w0:mR)(v N R dn u:Nat)(kv:List Pr)(w:World):Prop:=
 ∃S pg d σ l p f root es tb,Ug w S v pg d σ l p f root es tb/\VB w0 w S/\¬w0.F v/\p.blocks σ=N/\p.ring=R/\l.last=dn+1/\iQ es=kv/\(tb++dV es).length=u
def vY (w0:mR)(v t N R dn u:Nat)(kv0 kv:List Pr)(ch:Bool)(P:Nat)(w:World):Prop:=
 ∃S tr mp σ root es tb root0 es0 tb0,Aq w S v t tr mp σ root es tb ch root0 es0 tb0/\VB w0 w S/\¬w0.F v/\¬w0.F t/\¬w0.F tr/\σ.most=N/\σ.H.pg.ring=R/\σ.H.lg.last=dn+1/\iQ es=kv/\iQ es0=kv0/\(tb0++dV es0).length=u/\σ.tk<=P
def Ur (w0:mR)(v t N R dn u:Nat)(kv0:List Pr)(w:World):Prop:=
 ∃S tr mp σ ch root0 es0 tb0,Ul w S v t tr mp σ ch root0 es0 tb0/\VB w0 w S/\¬w0.F v/\¬w0.F t/\¬w0.F tr/\σ.H.pg.blocks σ.H.dk=N/\σ.H.pg.ring=R/\σ.H.lg.last=dn+1/\iQ es0=kv0/\(tb0++dV es0).length=u
def UB (t:Nat)(w:World):Prop:=∃mp ch er,w.heap[t]? =some (.cells (fK mp none ch er) 110 (0,0))
section
variable {w0:mR} {w:World} {v t N R dn u P:Nat} {kv kv0:List Pr} {ch:Bool}
theorem vY.jR {w0:World}(h:vY w0 v t N R dn u kv0 kv ch P w):Below w0.heap.size w0 w:=by obtain⟨_,_,_,_,_,_,_,_,_,_,_,h,_⟩:=h;exact h.jR
theorem TJ.make (w0:mR)(w:World)(n:Nat)(log:Nat)(d:Nat)(S:Nat->Prop)(hb:VB w0 w S)(h:tN w S d (Dk.new n))(h1:6<=log)(h2:log+8<=n):
  Calls Tryz.prog 33 #[.pointer (some ⟨d,0,none⟩),.int .i64 log] w fun e w'=>∃v,e= .returned (.tuple #[.pointer (some ⟨v,0,none⟩),.int .i64 0])/\TJ w0 v (n - log) (log - 1) 0 0 [] w':=by
 refine(SI d (Dk.new n) S log w h ⟨rfl,rfl⟩ h1 h2 (aX _)).mono ?_
 rintro e w' ⟨v,pg,σ',l',p',S',rfl,hobj,hn,hlo,hp,hN,hs⟩
 refine⟨v,rfl,S',pg,d,σ',l',p',two,0,[],[],⟨hobj,hn,hp,hN.vi,hN.base,Sj.live⟩,hb.step hs,hb.new hlo,?_,hN.ring,hN.last,rfl,rfl⟩
 unfold Pg.blocks
 rw[hN.n,hN.skip];rfl
theorem TJ.begin (h:TJ w0 v N R dn u kv w):
  Calls Tryz.prog 35 #[.pointer (some ⟨v,0,none⟩)] w fun e w'=>∃t,e= .returned (.tuple #[.pointer (some ⟨t,0,none⟩),.int .i64 0])/\vY w0 v t N R dn u kv kv false (2+u) w':=by
 obtain⟨S,pg,d,σ,l,p,f,root,es,tb,hA,hB,h1,h2,h3,h4,h5,h6⟩:=h
 refine hA.begin.mono ?_
 rintro e w' ⟨t,tr,mp,S',rfl,_,_,hT,hs,hl1,hl2⟩
 have hok:=dF.Ok.start hA.pgr.ok.1 hA.pgr.ok.2.1 hA.base.pd hA.base.sd hA.base.two hA.base.hi hA.base.f0 hA.base.f1
 have hc:countB f (p.blocks σ)=2+(tb++dV es).length:=hA.live.own.count hok hA.live.all
 exact⟨t,rfl,S',tr,mp,_,root,es,tb,root,es,tb,hT,hB.step hs,h1,hB.new hl1,hB.new hl2,h2,h3,h4,h5,h5,h6,by rw[<-h6,<-hc];exact aG _⟩
theorem Aq.mH {M S:Nat->Prop}{w':World}{tr:Nat}{mp:VS}{σ:dF}{root:Int}{es:List nD}{tb:List Int}{root0:Nat}{es0:List nD}{tb0:List Int}(h:Aq w S v t tr mp σ root es tb ch root0 es0 tb0)(hk:Keep M w w')(hM:∀g,S g\/g=v\/g=t\/g=tr->¬M g):Aq w' S v t tr mp σ root es tb ch root0 es0 tb0:=
 ⟨(hk.block v (aj.1 h.obj).1 (hM v (.inr (.inl rfl)))).trans h.obj,h.nv,h.tx.keep hk (fun g hg=>hM g (hg.imp id .inr)),h.live,h.bas,h.ch⟩
def mR.next (b:mR)(w w':World):mR:=⟨fun g=>b.F g\/(w.heap.size<=g/\g<w'.heap.size),w'⟩
theorem VB.next {S M:Nat->Prop}{w':World}(h:VB w0 w S)(hk:Keep M w w')(hs:∀g,S g->g<w.heap.size):VB (w0.next w w') w' S:=
 ⟨rfl,rfl,rfl,aG _,fun _ _=>rfl,fun g hg=>hg.elim (fun e=>ax (h.fs g e) (aH h.size hk.size)) (fun e=>e.2),fun g hg e=>e.elim (h.lo g hg) (fun e=>absurd (hs g hg) (bM.2 e.1))⟩
theorem mR.no {w':World}{g:Nat}(h:¬w0.F g)(hg:g<w.heap.size):¬(w0.next w w').F g:=fun e=>e.elim h (fun e=>absurd hg (bM.2 e.1))
theorem vY.next {M:Nat->Prop}{w':World}(h:vY w0 v t N R dn u kv0 kv ch P w)(hk:Keep M w w')(hM:∀g,M g->w0.F g):vY (w0.next w w') v t N R dn u kv0 kv ch P w':=by
 obtain⟨S,tr,mp,σ,root,es,tb,root0,es0,tb0,hA,hB,h1,h2,h3,h4⟩:=h
 have hl:=(aj.1 hA.obj).1
 have hl2:=(aj.1 hA.tx.tx).1
 have hl3:=(aj.1 hA.tx.tree).1
 refine⟨S,tr,mp,σ,root,es,tb,root0,es0,tb0,hA.mH hk (fun g hg e=> ?_),hB.next hk hA.tx.inv.sub,mR.no h1 hl,mR.no h2 hl2,mR.no h3 hl3,h4⟩
 rcases hg with x|x|x|x
 ·exact hB.lo g x (hM g e)
 ·exact h1 (x▸hM g e)
 ·exact h2 (x▸hM g e)
 ·exact h3 (x▸hM g e)
theorem vY.block (h:vY w0 v t N R dn u kv0 kv ch P w){g:Nat}(hg:w0.F g):w.heap[g]? =w0.w.heap[g]? :=by obtain⟨_,_,_,_,_,_,_,_,_,_,_,h,_⟩:=h;exact h.block g hg
theorem vY.sizes {S:Nat->Prop}{tr:Nat}{mp:VS}{σ:dF}{root:Int}{es:List nD}{tb:List Int}{root0:Nat}{es0:List nD}{tb0:List Int}(h:Aq w S v t tr mp σ root es tb ch root0 es0 tb0):
  σ.sz<=2+(tb0++dV es0).length+nh σ tb+BX (iQ es)/\countB σ.H.old σ.most=2+(tb0++dV es0).length:=by
 have hI:=h.tx.inv
 have e1:=h.live.own.size
 have hm:=hI.ok.most
 obtain⟨hpo,hdo,hlo⟩:σ.H.pg.Ok σ.H.dk σ.H.lg/\σ.H.dk.Ok/\σ.H.lg.Ok:=by obtain⟨Sp,T,q,_⟩:=hI;exact q.pg.ok
 have hB:=h.bas.base
 have hok:=dF.Ok.start hpo hdo hB.pd hB.sd hB.two hB.hi hB.f0 hB.f1
 have hc:countB σ.H.old (σ.H.pg.blocks σ.H.dk)=2+(tb0++dV es0).length:=h.bas.live.own.count hok h.bas.live.all
 rw[<-hm] at hc
 rw[oL,hc] at e1
 have e2:=qM σ (dV es)
 rw[DW h.live.val] at e2
 exact⟨by omega,hc⟩
theorem vY.put (h:vY w0 v t N R dn u kv0 kv ch P w)(key value:ByteArray)(hl:kv.length<=4090)(hg:1<=key.size/\key.size<=128)(hv:value.size<=49152)(hP:2+u+BX kv+2*(kv.length+1)+lS value<=P):
  Calls Tryz.prog 38 #[.pointer (some ⟨t,0,none⟩),.string key,.string value] w fun e w'=>
   (e= .returned (.int .i64 0)/\vY w0 v t N R dn u kv0 (mI kv key value) (ch|| !decide (eT kv key=some value)) P w')\/
   (e= .returned (.int .i64 12)/\N<2+u+BX kv+2*(kv.length+1)+lS value/\Ur w0 v t N R dn u kv0 w'):=by
 obtain⟨S,tr,mp,σ,root,es,tb,root0,es0,tb0,hA,hB,h1,h2,h3,h4,h5,h6,h7,h8,h9,h10⟩:=h
 obtain⟨e1,e2⟩:=vY.sizes hA
 have hel:es.length=kv.length:=by rw[<-h7,kV]
 rw[h9,h7] at e1
 have hm:=hA.tx.inv.ok.most
 refine(hA.put key value (by omega) hg hv).mono ?_
 rintro e w' (⟨rfl,σ',S',root',es',tb',q1,q2,q3,q4,q5,q6,q7,_⟩|⟨rfl,q0,σ',S',q1,q2,q3⟩)
 ·refine .inl ⟨rfl,S',tr,mp,σ',root',es',tb',root0,es0,tb0,?_,hB.Ka h2 h3 q5,h1,h2,h3,by rw[q4,h4],by rw[q3,h5],by rw[q3,h6],by rw[q2,h7],h8,h9,q6 P (by omega) h10⟩
  rw[h7] at q1;exact q1
 ·exact .inr ⟨rfl,by omega,S',tr,mp,σ',ch,root0,es0,tb0,q1,hB.Ka h2 h3 q3,h1,h2,h3,by rw[q2,<-hm,h4],by rw[q2,h5],by rw[q2,h6],h8,h9⟩
theorem vY.delete (h:vY w0 v t N R dn u kv0 kv ch P w)(key:ByteArray)(hl:kv.length<=4090)(hg:1<=key.size/\key.size<=128)(hi:(nu kv key).length<=299):
  Calls Tryz.prog 41 #[.pointer (some ⟨t,0,none⟩),.string key] w fun e w'=>
   (e= .returned (.tuple #[.bool (eT kv key).isSome,.int .i64 0])/\vY w0 v t N R dn u kv0 (nu kv key) (ch||(eT kv key).isSome) (P+65) w')\/
   (e= .returned (.tuple #[.bool false,.int .i64 12])/\N<2+u+BX kv+2*(kv.length+1)/\Ur w0 v t N R dn u kv0 w'):=by
 obtain⟨S,tr,mp,σ,root,es,tb,root0,es0,tb0,hA,hB,h1,h2,h3,h4,h5,h6,h7,h8,h9,h10⟩:=h
 obtain⟨e1,e2⟩:=vY.sizes hA
 have hel:es.length=kv.length:=by rw[<-h7,kV]
 rw[h9,h7] at e1
 have hm:=hA.tx.inv.ok.most
 have hsz:=hA.tx.inv.ok.szk
 have:=hA.delete key (by omega) hg
 rw[h7] at this
 refine this.mono ?_
 rintro e w' (⟨rfl,σ',S',root',es',tb',q1,q2,q3,q4,q5,q6,q7,q8⟩|⟨rfl,q0,σ',S',q1,q2,q3⟩)
 ·exact .inl ⟨rfl,S',tr,mp,σ',root',es',tb',root0,es0,tb0,q1,hB.Ka h2 h3 q5,h1,h2,h3,by rw[q4,h4],by rw[q3,h5],by rw[q3,h6],q2,h8,h9,(q8 (by rw[<-kV,q2];exact hi)).2 _ (by omega) (by omega)⟩
 ·exact .inr ⟨rfl,by omega,S',tr,mp,σ',ch,root0,es0,tb0,q1,hB.Ka h2 h3 q3,h1,h2,h3,by rw[q2,<-hm,h4],by rw[q2,h5],by rw[q2,h6],h8,h9⟩
theorem vY.scan (h:vY w0 v t N R dn u kv0 kv ch P w)(key:ByteArray)(most:Int)(hl:kv.length<=4090):
  Calls Tryz.prog 72 #[.pointer (some ⟨t,0,none⟩),.string key,.int .i64 most] w fun e w'=>∃x,e= .returned (.tuple #[x,.int .i64 0])/\aT w' fH w.heap.size 130 2 x (wz kv key most).length (dK (wz kv key most))/\vY w0 v t N R dn u kv0 kv ch P w'/\Below w.heap.size w w':=by
 obtain⟨S,tr,mp,σ,root,es,tb,root0,es0,tb0,hA,hB,h1,h2,h3,h4,h5,h6,h7,h8⟩:=h
 refine(hA.scan key most (by rw[<-kV,h7];exact hl)).mono ?_
 rintro e w' ⟨x,rfl,hx,hb⟩
 rw[h7] at hx
 exact⟨x,rfl,hx.other (fun g _ e=>e.elim),⟨S,tr,mp,σ,root,es,tb,root0,es0,tb0,hA.below hb,hB.below hb,h1,h2,h3,h4,h5,h6,h7,h8⟩,hb⟩
end
theorem vY.more {w0:mR}{w:World}{v t N R dn u P P':Nat}{kv kv0:List Pr}{ch:Bool}(h:vY w0 v t N R dn u kv0 kv ch P w)(hp:P<=P'):vY w0 v t N R dn u kv0 kv ch P' w:=by
 obtain⟨S,tr,mp,σ,root,es,tb,root0,es0,tb0,hA,hB,h1,h2,h3,h4,h5,h6,h7,h8,h9,h10⟩:=h
 exact⟨S,tr,mp,σ,root,es,tb,root0,es0,tb0,hA,hB,h1,h2,h3,h4,h5,h6,h7,h8,h9,aH h10 hp⟩
def Uh (w:World)(B:Nat)(v:Value)(l:List UInt8):Prop:=
 ∃(g cap:Nat) (cur:Array Value) (fz:Nat×Nat),v= .slice (some ⟨g,0,none⟩) l.length cap/\B<=g/\w.heap[g]? =some (.cells cur 5 fz)/\(fz.2<=fz.1\/cur.size<=fz.1)/\l.length<=cap/\cap<=maxLen/\cur.size=cap/\cur.toList.take l.length=aL l
def Q6 (key value:ByteArray):Prop:=(1<=key.size/\key.size<=128)/\value.size<=49152
instance (key value:ByteArray):Decidable (Q6 key value):=by unfold Q6;exact inferInstance
section
variable {F:Nat->Prop} {w w':World} {r rt:Nat} {cms:List (List Pr)} {kv:List Pr}
end
section
variable {b:mR} {w w':World} {v t N R dn u P:Nat} {kv kv0:List Pr} {ch:Bool}
end
structure Fr (F F0:Nat->Prop)(w:World)(F' F0':Nat->Prop)(w':World):Prop where
 sub:∀g,F0' g->F' g
 grow:∀g,F g->F' g
 lo:∀g,F0' g->F0 g\/w.heap.size<=g
 keep:Keep (fun g=>F g->F0 g) w w'
def dF.flushed (σ:dF)(d:Dk)(l:Lg):dF:={σ with H:={σ.H with dk:=d,lg:=l}}
section
variable {w:World} {v:Nat} {S:Nat->Prop} {mp:VS} {σ:dF}
structure UA (σ:dF)(d:Dk)(l:Lg):Prop where
 vi:VI d l σ.H.pg
 last:l.last=σ.H.lg.last
 syn:l.synced=σ.H.lg.last
 n:d.n=σ.H.dk.n
 look:∀im b,σ.H.pg.look im d b=σ.H.pg.look im σ.H.dk b
end
theorem FV {ps:List Pr}:gJ ps↔(ps.map (·.1)).Pairwise (fun a b=>lt a b=true):=by unfold gJ;rw[tT]
theorem Ot (ps:List Pr)(key v v':ByteArray):(mI ps key v).map (·.1)=(mI ps key v').map (·.1):=by unfold mI;split<;>simp[List.map_set]
theorem Oo {ps:List Pr}{key v:ByteArray}(hk:key.size<=128)(hr:gJ ps):gJ (mI ps key v):=by
 rw[FV,Ot ps key v ⟨#[]⟩,<-FV]
 exact(Gy key ⟨#[]⟩ hk (by decide)).rise ps hr
structure Kv (kv:List Pr)(n:Nat):Prop where
 rise:gJ kv
 len:kv.length<=n
 val:∀p∈kv,p.2.size<=49152
theorem ME (p:Pr)(b:List Pr):BX (p::b)=lS p.2+BX b:=rfl
def kJ (t:ByteArray):ByteArray:=⟨#[108]++t.data⟩
def bI.key (l:bI):ByteArray:=kJ l.token
def bI.pair (l:bI):Pr:=(l.key,strOf l.enc)
theorem uH (t:ByteArray):(kJ t).size=t.size+1:=by show (#[108]++t.data).size=t.data.size+1;simp;omega
structure bI.Fit (l:bI):Prop where
 tok:l.token.size<=60
 segs:l.path.length<=12
 seg:∀s∈l.path,s.size<=64
 own:l.owner.size<=512
 till: -9223372036854775808<=l.till/\l.till<9223372036854775808
theorem kr (s:ByteArray):s.data.toList.length=s.size:=by show s.data.toList.length=s.data.size;simp
theorem kz (s:ByteArray):(lN s).length=8+s.size:=by unfold lN;rw[ay,gB,kr]
theorem CZ (l:List ByteArray)(h:∀s∈l,s.size<=64):(l.flatMap lN).length<=72*l.length:=by
 induction l with
 |nil=>exact aX _
 |cons a l ih=>
  have h1:=h a (bF ..)
  have h2:=ih fun s hs=>h s (bq _ hs)
  rw[dY,ay,kz,bE];omega
theorem bI.Fit.enc {l:bI}(h:l.Fit):l.enc.length<=1416/\8<=l.enc.length:=by
 have h1:=CZ l.path h.seg
 have h2:=h.segs
 have h3:=h.own
 unfold bI.enc
 simp only[ay,gB,kz]
 omega
theorem AP (l:List UInt8):(strOf l).size=l.length:=by show l.toArray.size=_;simp
theorem bI.Fit.cost {l:bI}(h:l.Fit):lS (strOf l.enc)<=4:=by
 have:=h.enc
 unfold lS sJ
 rw[AP]
 split<;>omega
structure CV (ls:List bI):Prop where
 rise:gJ (ls.map bI.pair)
 fit:∀l∈ls,l.Fit
 len:ls.length<=33
theorem CV.filter {ls:List bI}(h:CV ls)(p:bI->Bool):CV (ls.filter p):=
 ⟨h.rise.sublist ((List.filter_sublist).map _),fun l hl=>h.fit l (List.mem_filter.1 hl).1,aH (Iy _ _) h.len⟩
theorem CV.BX {ls:List bI}(h:∀l∈ls,l.Fit):BX (ls.map bI.pair)<=4*ls.length:=by
 induction ls with
 |nil=>exact aX _
 |cons a l ih=>
  have h1:=(h a (bF ..)).cost
  have h2:=ih fun s hs=>h s (bq _ hs)
  rw[dG,ME,bE]
  show lS (strOf a.enc)+_<=_
  omega
theorem Qu (l:bI):nu [l.pair] l.key=[]:=by
 have h1:dN [l.pair] l.key=0:=by
  unfold dN bI.pair
  rw[yH,if_neg (by rw[lt_irrefl];simp)]
  rfl
 unfold nu nT
 rw[h1]
 show (if decide (l.key=l.key)=true then _ else _)=_
 rw[if_pos (by simp)]
 rfl
theorem KP {a b:List bI}{l:bI}(h:gJ ((a++l::b).map bI.pair)):nu ((a++l::b).map bI.pair) l.key=(a++b).map bI.pair:=by
 rw[dz,dG] at h ⊢
 have h1:=K4.1 h
 have h2:=fw.1 h1.2.1
 have:=KQ l.key (a.map bI.pair) [l.pair] (b.map bI.pair) (fun p hp=>h1.2.2 p hp l.pair (bF ..)) (fun p hp=>h2.1 p hp)
 rw[Qu] at this
 simpa using this
theorem NZ {a b:List bI}{l:bI}(h:gJ ((a++l::b).map bI.pair)):(eT ((a++l::b).map bI.pair) l.key).isSome=true:=by
 have e:=KP h
 apply jX
 intro hn
 have:eT ((a++l::b).map bI.pair) l.key=none:=by
  cases hq:eT ((a++l::b).map bI.pair) l.key with
  |none=>rfl
  |some x=>rw[hq] at hn;simp at hn
 rw[DT this] at e
 have:=congrArg List.length e
 simp at this
def JA (ls:List bI)(l:bI):List bI:=ls.take (dN (ls.map bI.pair) l.key)++l::ls.drop (dN (ls.map bI.pair) l.key+(if nT (ls.map bI.pair) l.key then 1 else 0))
theorem DF (ls:List bI)(l:bI):(JA ls l).map bI.pair=mI (ls.map bI.pair) l.key (strOf l.enc):=by
 unfold JA mI
 cases hat:nT (ls.map bI.pair) l.key with
 |true=>
  obtain⟨hlt,_⟩:=oV hat
  rw[if_pos rfl,if_pos rfl,rU,if_pos hlt]
  simp[gK,gu,bI.pair]
 |false=>
  rw[if_neg (by simp),if_neg (by simp)]
  simp[gK,gu,bI.pair]
theorem CV.ins {ls:List bI}{l:bI}(h:CV ls)(hl:l.Fit)(hn:ls.length<=32):CV (JA ls l):=by
 refine⟨?_,fun x hx=> ?_,?_⟩
 ·rw[DF]
  exact Oo (by have:=hl.tok;show (kJ l.token).size<=128;rw[uH];omega) h.rise
 ·rcases bO.1 hx with hx|hx
  ·exact h.fit x (fD hx)
  ·rcases bX.1 hx with rfl|hx
   ·exact hl
   ·exact h.fit x (cO hx)
 ·unfold JA
  have:=o8 (ls.map bI.pair) l.key
  simp only[ay,aF,bE,aR,eX] at this ⊢
  omega
def zY (s:ByteArray):Bool:=decide (0<s.size) && (!decide (s=⟨#[46]⟩) && (!decide (s=⟨#[46,46]⟩) && (decide (s.size<=64) && (Lib.validD s.data.toList && !Lib.containsAny s.data.toList [47,0]))))
def pq (p:List ByteArray):Bool:=p.all zY && decide (p.length<=12)
def qU (c:UInt8):Bool:=decide (33<=c.toNat/\c.toNat<=126/\c.toNat≠60/\c.toNat≠62)
def bI.good (l:bI):Bool:=l.token.data.toList.all qU && (decide (0<l.token.size) && (decide (l.token.size<=60) && (pq l.path && decide (l.owner.size<=512))))
theorem P5 {s:ByteArray}(h:zY s=true):s.size<=64:=by
 unfold zY at h
 simp only[dx,bY] at h
 exact h.2.2.2.1
theorem bI.good.fit {l:bI}(h:l.good=true)(ht: -9223372036854775808<=l.till/\l.till<9223372036854775808):l.Fit:=by
 unfold bI.good pq at h
 simp only[dx,bY,lI] at h
 obtain⟨_,_,h3,⟨h4,h5⟩,h6⟩:=h
 exact⟨h3,h5,fun s hs=>P5 (h4 s hs),h6,ht⟩
def live (now:Int)(ls:List bI):List bI:=ls.filter fun l=>decide (now<l.till)
def qY (ls:List bI)(l:bI)(now:Int):Int:=
 if l.good=false\/l.till<=now then 1
 else if (live now ls).any (fun x=>decide (x.token=l.token)) then 3
 else if (live now ls).any (fun x=>x.clash l) then 63
 else if 32<=(live now ls).length then 4
 else 0
def vW (ls:List bI)(l:bI)(now:Int):List bI:=if qY ls l now=0 then JA (live now ls) l else ls
theorem CV.live {ls:List bI}(h:CV ls)(now:Int):CV (live now ls):=h.filter _
def mQ (so:bI->Bool)(ls:List bI)(k:Nat):List bI:=(ls.take k).filter (fun l=> !so l)++ls.drop k
theorem IX (so:bI->Bool)(ls:List bI):mQ so ls 0=ls:=by simp[mQ]
theorem Ll (so:bI->Bool)(ls:List bI):mQ so ls ls.length=ls.filter (fun l=> !so l):=by simp[mQ]
theorem IZ {so:bI->Bool}{ls:List bI}{k:Nat}(hk:k<ls.length)(h:so ls[k]=false):mQ so ls (k+1)=mQ so ls k:=by
 unfold mQ
 rw[aI hk,lV,bT hk]
 simp[h]
theorem yX (so:bI->Bool)(ls:List bI)(k:Nat):(mQ so ls k).Sublist ls:=by
 have h:ls=ls.take k++ls.drop k:=(bV k ls).symm
 conv=>rhs;rw[h]
 exact List.Sublist.append List.filter_sublist (Rc _)
theorem CV.mQ {ls:List bI}(h:CV ls)(so:bI->Bool)(k:Nat):CV (mQ so ls k):=
 ⟨h.rise.sublist ((yX so ls k).map _),fun l hl=>h.fit l ((yX so ls k).subset hl),aH (yX so ls k).length_le h.len⟩
theorem Nt {so:bI->Bool}{ls:List bI}{k:Nat}(hk:k<ls.length):mQ so ls k=(ls.take k).filter (fun l=> !so l)++ls[k]::ls.drop (k+1):=by
 unfold mQ
 rw[bT hk]
theorem Lm {so:bI->Bool}{ls:List bI}{k:Nat}(h:CV ls)(hk:k<ls.length)(hs:so ls[k]=true):nu ((mQ so ls k).map bI.pair) ls[k].key=(mQ so ls (k+1)).map bI.pair/\(eT ((mQ so ls k).map bI.pair) ls[k].key).isSome=true:=by
 have hr:=(h.mQ so k).rise
 rw[Nt hk] at hr ⊢
 refine⟨?_,NZ hr⟩
 rw[KP hr]
 congr 1
 unfold mQ
 rw[aI hk,lV]
 simp[hs]
def pJ (so:bI->Bool)(now:Int)(ls:List bI)(k:Nat):Nat:=((ls.take k).filter fun l=>so l && decide (now<l.till)).length
theorem FE {so:bI->Bool}{now:Int}{ls:List bI}{k:Nat}(hk:k<ls.length):pJ so now ls (k+1)=pJ so now ls k+(if so ls[k] && decide (now<ls[k].till) then 1 else 0):=by
 unfold pJ
 rw[aI hk,lV,ay]
 congr 1
 cases h:so ls[k] && decide (now<ls[k].till)<;>simp[h]
theorem Lp (so:bI->Bool)(now:Int)(ls:List bI)(k:Nat):pJ so now ls k<=ls.length:=by
 unfold pJ
 exact aH (Iy _ _) (by rw[aF];omega)
section
variable {b:mR} {w w':World} {v t N R dn u P:Nat} {kv kv0:List Pr} {ch:Bool}
theorem vY.Ti (h:vY b v t N R dn u kv0 kv ch P w):Keep (fun g=>¬b.F g) b.w w:=by
 obtain⟨_,_,_,_,_,_,_,_,_,_,_,h,_⟩:=h
 exact⟨h.os,h.tape,h.output,h.size,fun k _ hn=>h.block k (Classical.not_not.1 hn)⟩
theorem vY.Uw (h:vY b v t N R dn u kv0 kv ch P w):vY ⟨b.F,w⟩ v t N R dn u kv0 kv ch P w:=by
 obtain⟨S,tr,mp,σ,root,es,tb,root0,es0,tb0,hA,h,h1⟩:=h
 exact⟨S,tr,mp,σ,root,es,tb,root0,es0,tb0,hA,⟨rfl,rfl,rfl,aG _,fun _ _=>rfl,fun g hg=>ax (h.fs g hg) h.size,h.lo⟩,h1⟩
theorem vY.TV {F F':Nat->Prop}(h:vY ⟨F',w⟩ v t N R dn u kv0 kv ch P w)(hF:∀g,F g->F' g):vY ⟨F,w⟩ v t N R dn u kv0 kv ch P w:=by
 obtain⟨S,tr,mp,σ,root,es,tb,root0,es0,tb0,hA,h,h1,h2,h3,h4⟩:=h
 exact⟨S,tr,mp,σ,root,es,tb,root0,es0,tb0,hA,⟨rfl,rfl,rfl,aG _,fun _ _=>rfl,fun g hg=>h.fs g (hF g hg),fun g hg e=>h.lo g hg (hF g e)⟩,fun e=>h1 (hF _ e),fun e=>h2 (hF _ e),fun e=>h3 (hF _ e),h4⟩
end
def uf (F:Nat->Prop)(w w':World):Nat->Prop:=fun g=>F g\/(w.heap.size<=g/\g<w'.heap.size)
structure LT (F:Nat->Prop)(v t b:Nat)(ls:List bI)(w:World):Prop where
 ts:∃ch P,vY ⟨F,w⟩ v t 3396 699 0 0 [] (ls.map bI.pair) ch P w
 obj:w.heap[b]? =some (.cells #[.pointer (some ⟨t,0,none⟩)] 69 (0,0))
 fb:F b
 ok:CV ls
section
variable {F F' M:Nat->Prop} {v t b:Nat} {ls:List bI} {w w':World}
theorem LT.lt (h:LT F v t b ls w):b<w.heap.size:=(aj.1 h.obj).1
theorem LT.sub (h:LT F' v t b ls w)(hF:∀g,F g->F' g)(hb:F b):LT F v t b ls w:=⟨h.ts.imp fun _ q=>q.imp fun _ q=>q.TV hF,h.obj,hb,h.ok⟩
theorem LT.Ta (h:LT F v t b ls w)(hk:Keep M w w')(hM:∀g,M g->F g)(hb:¬M b):LT (uf F w w') v t b ls w':=
 ⟨h.ts.imp fun _ q=>q.imp fun _ q=>q.next hk hM,(hk.block b h.lt hb).trans h.obj,.inl h.fb,h.ok⟩
theorem LT.next (h:LT F v t b ls w)(hb:Below w.heap.size w w'):LT (uf F w w') v t b ls w':=h.Ta (Keep.of_below hb (fun _=>False)) (fun _ e=>e.elim) id
theorem LT.below (h:LT F v t b ls w)(hb:Below w.heap.size w w'):LT F v t b ls w':=(h.next hb).sub (fun _ e=> .inl e) h.fb
theorem LT.of {ls':List bI}{ch:Bool}{P:Nat}(h:LT F v t b ls w)(ht:vY ⟨F,w⟩ v t 3396 699 0 0 [] (ls'.map bI.pair) ch P w')(hl:CV ls'):LT F v t b ls' w'/\Keep (fun g=>¬F g) w w':=
 ⟨⟨⟨_,_,ht.Uw⟩,(ht.block h.fb).trans h.obj,h.fb,hl⟩,ht.Ti⟩
theorem CV.pairs (h:CV ls):(ls.map bI.pair).length<=33/\Go.Proofs.YtpgdljlghiifjaaGreatDoor.BX (ls.map bI.pair)<=132:=by
 have h1:=CV.BX h.fit
 have h2:=h.len
 exact⟨by rw[eX];exact h2,by omega⟩
theorem Bq {tk:ByteArray}(h:tk.size<=60):1<=(kJ tk).size/\(kJ tk).size<=128:=by rw[uH];omega
theorem LT.put (h:LT F v t b ls w)(l:bI)(hl:l.Fit)(hn:ls.length<=32):
  Calls Tryz.prog 38 #[.pointer (some ⟨t,0,none⟩),.string l.key,.string (strOf l.enc)] w fun e w'=>e= .returned (.int .i64 0)/\LT F v t b (JA ls l) w'/\Keep (fun g=>¬F g) w w':=by
 obtain⟨ch,P,ht⟩:=h.ts
 obtain⟨h1,h2⟩:=h.ok.pairs
 have h3:=hl.cost
 have hsz:(strOf l.enc).size<=49152:=by rw[AP];have:=hl.enc;omega
 refine((ht.more (P':=max P 1000) (by omega)).put l.key (strOf l.enc) (by omega) (Bq hl.tok) hsz (by omega)).mono ?_
 rintro e w' (⟨rfl,q⟩|⟨_,q,_⟩)
 ·rw[<-DF] at q
  exact⟨rfl,h.of q (h.ok.ins hl hn)⟩
 ·omega
theorem LT.del (h:LT F v t b ls w)(tk:ByteArray)(htk:tk.size<=60)(ls':List bI)(hd:nu (ls.map bI.pair) (kJ tk)=ls'.map bI.pair)(hs:(eT (ls.map bI.pair) (kJ tk)).isSome=true)(hl:CV ls'):
  Calls Tryz.prog 41 #[.pointer (some ⟨t,0,none⟩),.string (kJ tk)] w fun e w'=>e= .returned (.tuple #[.bool true,.int .i64 0])/\LT F v t b ls' w'/\Keep (fun g=>¬F g) w w':=by
 obtain⟨ch,P,ht⟩:=h.ts
 obtain⟨h1,h2⟩:=h.ok.pairs
 refine(ht.delete (kJ tk) (by omega) (Bq htk) (by rw[hd,eX];have:=hl.len;omega)).mono ?_
 rintro e w' (⟨rfl,q⟩|⟨_,q,_⟩)
 ·rw[hs]
  rw[hd] at q
  exact⟨rfl,h.of q hl⟩
 ·omega
theorem Qe (ls:List bI):dN (ls.map bI.pair) ⟨#[108]⟩=0:=by
 unfold dN
 cases ls with
 |nil=>rfl
 |cons a l=>
  have h:lt a.key ⟨#[108]⟩=false:=by
   unfold lt bI.key kJ
   rw[Lib.toList_data,Lib.toList_data]
   simp[Op.bytesLess]
  rw[dG,yH,if_neg (by show ¬lt a.key _=true;rw[h];simp)]
  rfl
theorem Rw (h:CV ls):wz (ls.map bI.pair) ⟨#[108]⟩ 64=ls.map bI.pair:=by
 unfold wz
 rw[Qe,fo]
 exact aQ (by have:=h.pairs.1;simp at this ⊢;omega)
theorem LT.scan (h:LT F v t b ls w):
  Calls Tryz.prog 72 #[.pointer (some ⟨t,0,none⟩),.string ⟨#[108]⟩,.int .i64 64] w fun e w'=>∃x,e= .returned (.tuple #[x,.int .i64 0])/\aT w' fH w.heap.size 130 2 x ls.length (dK (ls.map bI.pair))/\Below w.heap.size w w':=by
 obtain⟨ch,P,ht⟩:=h.ts
 refine(ht.scan ⟨#[108]⟩ 64 (by have:=h.ok.pairs.1;omega)).mono ?_
 rintro e w' ⟨x,rfl,hx,_,hb⟩
 rw[Rw h.ok,eX] at hx
 exact⟨x,rfl,hx,hb⟩
end
theorem AQ {a:ByteArray}{l:List UInt8}(h:a.data.toList=l):a=strOf l:=by
 cases a
 exact congrArg ByteArray.mk (pV (by rw[h]))
theorem zH (l:List UInt8):(strOf l).size=l.length:=by show l.toArray.size=_;simp
theorem OB (t:List UInt8)(n:Nat):(strOf t).extract 0 n=strOf (t.take n):=AQ (by rw[oz,pU];simp[strOf])
theorem OC (t:List UInt8)(n:Nat):(strOf t).extract n t.length=strOf (t.drop n):=AQ (by
 rw[oz,pU]
 simp only[strOf,List.toList_toArray]
 exact aQ (by simp))
def tu (w:World)(rb:Nat)(t:List UInt8):Prop:=w.heap[rb]? =some (.cells #[.string (strOf t),.bool false] 199 (0,0))
theorem tu.cells {w:World}{rb:Nat}{t:List UInt8}(h:tu w rb t):w.cell? ⟨rb,0,none⟩=some (.string (strOf t))/\w.cell? ⟨rb,1,none⟩=some (.bool false)/\w.frozen? ⟨rb,0,none⟩=false/\rb<w.heap.size:=by
 unfold tu at h
 exact⟨by simp[World.cell?,h],by simp[World.cell?,h],by simp[World.frozen?,h],(aj.1 h).1⟩
theorem tu.set {w:World}{rb:Nat}{t:List UInt8}(h:tu w rb t)(n:Nat):tu (w.setCell ⟨rb,0,none⟩ (.string (strOf (t.drop n)))) rb (t.drop n)/\Keep (· =rb) w (w.setCell ⟨rb,0,none⟩ (.string (strOf (t.drop n)))):=by
 refine⟨?_,(Keep.refl (· =rb) w).setCell (p:=⟨rb,0,none⟩) (.inr rfl) _⟩
 unfold tu at h ⊢
 simp[World.setCell,bn,h]
theorem NK (rb:Nat)(t:List UInt8)(n:Nat)(w:World)(h:tu w rb t)(hn:n<=t.length):
  Calls Tryz.prog 163 #[.pointer (some ⟨rb,0,none⟩),.int .i64 n] w fun e w'=>e= .returned (.string (strOf (t.take n)))/\tu w' rb (t.drop n)/\Keep (· =rb) w w':=by
 obtain⟨c0,c1,f0,lr⟩:=h.cells
 have hsz:=zH t
 have x1:¬(t.length:Int)<(n:Int):=by omega
 have x2:(n:Int)<=(t.length:Int):=by omega
 have e1:=OB t n
 have e2:=OC t n
 have HP:=af (h.set n)
 obtain⟨p,hp⟩:∃p,strOf (t.take n)=p:=⟨_,rfl⟩
 obtain⟨q,hq⟩:∃q,strOf (t.drop n)=q:=⟨_,rfl⟩
 rw[hp] at e1 ⊢;rw[hq] at e2 HP
 clear hp hq h
 go_enter Tryz.func163,Tryz.ntmps163
 go_wp2
 go_ret
 exact⟨rfl,HP.out.1,HP.out.2⟩
theorem Bd (rb:Nat)(v:Int)(t:List UInt8)(w:World)(h:tu w rb (lK v++t))(hv: -9223372036854775808<=v/\v<9223372036854775808):
  Calls Tryz.prog 124 #[.pointer (some ⟨rb,0,none⟩)] w fun e w'=>e= .returned (.int .i64 v)/\tu w' rb t/\Keep (· =rb) w w':=by
 have hc:=NK rb (lK v++t) 8 w h (by rw[ay,gB];omega)
 rw[bU (by rw[gB];omega),aQ (by rw[gB];omega),fF (by rw[gB];omega),dZ (by rw[gB];omega),dB] at hc
 have HC:=af hc
 have hix:∀(i:Nat),i<8->∀W:World,(Instr.index 9 (.string (strOf (lK v))) (.int .i64 (i:Int))).run Tryz.prog W= .ok (.int .u8 (v/(256^i:Nat)%256)) W:=by
  intro i hi W
  have hb:(lK v)[i]? =some (UInt8.ofNat (v/(256^i:Nat)%256).toNat):=by
   unfold lK
   rw[di,yJ hi];rfl
  have:=xY (lK v) i _ hb W
  rw[this]
  have hb2:0<=v/(256^i:Nat)%256/\v/(256^i:Nat)%256<256:=⟨Int.emod_nonneg _ (by decide),PI _ (by decide)⟩
  congr 2
  rw[eZ]
  omega
 have HIX:=af hix
 have hsz:(strOf (lK v)).size=8:=by rw[zH,gB]
 obtain⟨s,hs⟩:∃s,Hid (strOf (lK v)=s):=⟨_,af rfl⟩
 rw[hs.out] at HC HIX hsz
 have hwr:=Lf v hv
 clear hix hc h
 go_enter Tryz.func124,Tryz.ntmps124
 go_wp2_with (first
  |(go_at_call 163;go_must (refine HC.out.mono ?_;rintro e w1 ⟨rfl,hR1,hk1⟩)))
 have HR:=af (aC hR1 hk1)
 clear hR1 hk1
 go_loopw [4,5] (fun n i wr=>∃k:Nat,k<=8/\n= .int .i64 (IntKind.i64.wrap (xC v k))/\i= .int .i64 ((k:Int) - 1)/\wr=w1) (fun _ i _=>(intOf i+1).toNat)
 case atStart=>exact⟨8,aG _,by rw[Nl];rfl,rfl,rfl⟩
 case round=>
  obtain⟨k,hk,rfl,rfl,rfl⟩:=hrel
  by_cases hk0:k=0
  ·subst hk0
   rw[hwr]
   go_wp2_with fail
   go_ret
   exact⟨rfl,HR.out.1,HR.out.2⟩
  ·obtain⟨j,rfl⟩:∃j,k=j+1:=⟨k - 1,by omega⟩
   have hix:=HIX.out j (by omega)
   have hb:=PW v (j+1) (by omega) (by omega)
   have hb2:0<=v/(256^j:Nat)%256/\v/(256^j:Nat)%256<256:=⟨Int.emod_nonneg _ (by decide),PI _ (by decide)⟩
   have ho:=RF (xC v (j+1)) (v/(256^j:Nat)%256) hb hb2
   rw[<-Li v j (by omega)] at ho
   have HO:=af ho
   have HW:=af (aM (xC v (j+1)) (by omega))
   clear ho hb hb2
   go_wp2_with fail
   go_roundw
   case rel=>
    refine⟨j,by omega,?_,rfl,trivial⟩
    have e1:=HO.out
    have e2:=HW.out
    rw[IntWalk.i64_left] at e2
    rw[IntWalk.i64_left (xC v (j+1)*256)] at e1
    rw[<-e1,e2]
    simp
   case measure=>simp[intOf]
theorem Kn (rb:Nat)(s:ByteArray)(t:List UInt8)(w:World)(h:tu w rb (lN s++t))(hs:s.size<=1000000):
  Calls Tryz.prog 125 #[.pointer (some ⟨rb,0,none⟩)] w fun e w'=>e= .returned (.string s)/\tu w' rb t/\Keep (· =rb) w w':=by
 unfold lN at h
 rw[aN] at h
 have HN:=af (Bd rb s.size _ w h (by omega))
 have hbl:s.data.toList.length=s.size:=by show s.data.toList.length=s.data.size;simp
 have hss:strOf s.data.toList=s:=(AQ rfl).symm
 clear h
 go_enter Tryz.func125,Tryz.ntmps125
 go_wp2_with (first
  |(go_at_call 124;go_must (refine HN.out.mono ?_;rintro e w1 ⟨rfl,hR1,hk1⟩;refine Stop.of ?_)))
 refine Stop.on ?_
 have hc:=NK rb (s.data.toList++t) s.size w1 hR1 (by rw[ay,hbl];omega)
 rw[bU (by omega),aQ (by omega),fF (by omega),dZ (by omega),dB,hss] at hc
 have HC:=af hc
 have HK:=af hk1
 clear hc hR1 hk1 hss hbl
 go_wp2_with (first
  |(go_at_call 163;go_must (refine HC.out.mono ?_;rintro e w2 ⟨rfl,hR2,hk2⟩)))
 go_ret
 exact⟨rfl,hR2,HK.out.trans hk2 (fun _ _ e=>e)⟩
def cZ (w:World)(S:Nat->Prop)(k:Nat)(v:Value)(n:Nat)(xs:List Value):Prop:=bJ w S k v n xs\/(n=0/\xs=[]/\∃ao,v= .slice (some ao) 0 0)
def gY (w:World)(S:Nat->Prop)(v:Value)(ss:List ByteArray):Prop:=cZ w S 1 v ss.length (ss.map .string)
section
variable {w w':World} {S S':Nat->Prop} {k n:Nat} {v:Value} {xs:List Value}
theorem aT.rF {B e:Nat}(h:aT w S B e k v n xs):cZ w S k v n xs:= .inl h.dI
theorem Row.rF {e g off:Nat}{cur:List Value}(h:Row w g e cur)(n c:Nat)(hl:off+n*k<=cur.length)(hS:¬S g)(hn:n<=c)(hc:c<=maxLen):cZ w S k (.slice (some ⟨g,off,none⟩) n c) n ((cur.drop off).take (n*k)):= .inl (h.dI n c hl hS hn hc)
theorem cZ.nil (w:World)(S:Nat->Prop)(k:Nat):cZ w S k (.slice none 0 0) 0 []:= .inl (bJ.nil w S k)
theorem cZ.keep (h:cZ w S k v n xs)(hb:∀g,v.ownBlock=some g->g<w.heap.size->¬S g->w'.heap[g]? =w.heap[g]?/\¬S' g):cZ w' S' k v n xs:=h.imp (fun h=>h.keep hb) id
theorem cZ.below (h:cZ w S k v n xs)(hs:Below w.heap.size w w'):cZ w' S k v n xs:=h.imp (fun h=>h.below hs) id
theorem cZ.form (h:cZ w S k v n xs):∃ao c,v= .slice ao n c/\n<=c/\c<=9223372036854775807/\(n=0\/∃b o,ao=some ⟨b,o,none⟩)/\(ao=none->c=0):=by
 rcases h with h|⟨rfl,rfl,ao,rfl⟩
 ·exact h.form
 ·exact⟨some ao,0,rfl,aG _,by omega,.inl rfl,fun h=>by cases h⟩
theorem cZ.yD (h:cZ w S 1 v n xs){ao:Option Addr}{n' c:Nat}(hv:v= .slice ao n' c)(i:Nat)(u:Value)(hu:xs[i]? =some u):∃b o,ao=some ⟨b,o,none⟩/\w.cell? ⟨b,o+i,none⟩=some u:=by
 rcases h with h|⟨rfl,rfl,ao,rfl⟩
 ·exact h.yD hv i u hu
 ·simp at hu
theorem cZ.real (h:cZ w S k v n xs)(hn:0<n):bJ w S k v n xs:=by
 rcases h with h|⟨rfl,_⟩
 ·exact h
 ·omega
theorem cZ.upto {c:Nat}{ao:Option Addr}(h:cZ w S k (.slice ao n c) n xs)(j:Nat)(hj:j<=n):cZ w S k (.slice ao j c) j (xs.take (j*k)):=by
 rcases h with h|⟨rfl,rfl,a,e⟩
 ·exact .inl (h.upto j hj)
 ·cases e
  obtain rfl:j=0:=by omega
  exact .inr ⟨rfl,by simp,a,rfl⟩
end
theorem within_iff (a b:List ByteArray):within a b=true↔b.length<=a.length/\∀j,j<b.length->a[j]? =b[j]? :=by
 unfold within
 rw[bY,List.prefix_iff_eq_take]
 constructor
 ·intro h
  have hl:=congrArg List.length h
  rw[aF] at hl
  refine⟨by omega,fun j hj=> ?_⟩
  have this:b[j]? =(a.take b.length)[j]? :=congrArg (fun l=>l[j]?) h
  rw[this,List.getElem?_take_of_lt hj]
 ·rintro⟨h1,h2⟩
  apply Cn
  intro j
  by_cases hj:j<b.length
  ·rw[List.getElem?_take_of_lt hj,h2 j hj]
  ·rw[gT (by omega),gT (by rw[aF];omega)]
theorem O6 (a b:ByteArray):(a.toList==b.toList)=decide (a=b):=by
 by_cases h:a=b
 ·subst h;simp
 ·rw[aZ h]
  apply eH.2
  intro e
  have e:=eq_of_beq e
  apply h
  cases a;cases b
  rw[Lib.toList_data,Lib.toList_data] at e
  exact congrArg ByteArray.mk (pV e)
theorem IL (av bv:Value)(a b:List ByteArray)(Sa Sb:Nat->Prop)(w:World)(ha:gY w Sa av a)(hb:gY w Sb bv b):
  Calls Tryz.prog 29 #[av,bv] w fun e w'=>e= .returned (.bool (within a b))/\w'=w:=by
 obtain⟨ao,ac,rfl,ha1,ha2,_,_⟩:=cZ.form ha
 obtain⟨bo,bc,rfl,hb1,hb2,_,_⟩:=cZ.form hb
 have HA:=af ha
 have HB:=af hb
 obtain⟨R,hR⟩:∃R,Hid (within a b=R):=⟨_,af rfl⟩
 rw[hR.out]
 clear ha hb
 go_enter Tryz.func29,Tryz.ntmps29
 by_cases hlt:a.length<b.length
 ·have x1:(a.length:Int)<(b.length:Int):=by omega
  have hr:R=false:=by
   rw[<-hR.out,<-D9,within_iff]
   omega
  rw[hr]
  go_wp2
  go_ret
  exact⟨rfl,rfl⟩
 ·have x1:¬(a.length:Int)<(b.length:Int):=by omega
  go_upto_region 4 with fail
  go_loopw [5,6,14] (fun _ _ i wr=>∃k:Nat,k<=b.length/\i= .int .i64 k/\(∀j,j<k->a[j]? =b[j]?)/\wr=w) (fun _ _ i _=>b.length - (intOf i).toNat)
  case atStart=>exact⟨0,aX _,rfl,fun j hj=>absurd hj (oG _),rfl⟩
  case round=>
   obtain⟨k,hk,rfl,heq,rfl⟩:=hrel
   have HEQ:=af heq;clear heq
   by_cases hkl:k<b.length
   ·have hkl':(k:Int)<(b.length:Int):=by omega
    have hka:(k:Int)<(a.length:Int):=by omega
    obtain⟨x,hx⟩:∃x,a[k]? =some x:=⟨_,aW (by omega)⟩
    obtain⟨y,hy⟩:∃y,b[k]? =some y:=⟨_,aW hkl⟩
    obtain⟨gb,ob,rfl,db⟩:=cZ.yD HB.out rfl k (.string y) (by rw[di,hy];rfl)
    obtain⟨ga,oa,rfl,da⟩:=cZ.yD HA.out rfl k (.string x) (by rw[di,hx];rfl)
    have la:=aD wr _ da
    have lb:=aD wr _ db
    have hq:=O6 x y
    have HXY:=af (aC hx hy)
    clear hx hy
    by_cases he:x=y
    ·rw[bZ he] at hq
     have HE:=af he;clear he
     go_wp2_with fail
     go_roundw
     case rel=>
      refine⟨k+1,by omega,by go_num,fun j hj=> ?_,by trivial⟩
      rcases qQ.1 hj with hj|rfl
      ·exact HEQ.out j hj
      ·rw[HXY.out.1,HXY.out.2,HE.out]
     case measure=>simp[intOf];omega
    ·rw[aZ he] at hq
     have hr:R=false:=by
      rw[<-hR.out,<-D9,within_iff]
      rintro⟨_,h⟩
      have:=h k hkl
      rw[HXY.out.1,HXY.out.2] at this
      exact he (iB this)
     have HE:=af he;clear he
     go_wp2_with fail
     go_ret
     exact⟨rfl,rfl⟩
   ·obtain rfl:k=b.length:=by omega
    have x2:¬(b.length:Int)<(b.length:Int):=by omega
    have hr:R=true:=by
     rw[<-hR.out,within_iff]
     exact⟨by omega,HEQ.out⟩
    go_wp2_with fail
    go_ret
    exact⟨rfl,rfl⟩
def p8 (l:bI)(pv:Value):Value:= .agg #[.string l.token,pv,.bool l.deep,.bool l.excl,.string l.owner,.int .i64 l.till]
theorem bW {W:World}{g:Nat}{a b c d e f:Value}(h:W.heap[g]? =some (.cells #[a,b,c,d,e,f] 24 (0,0))):
  W.cell? ⟨g,0,none⟩=some a/\W.cell? ⟨g,1,none⟩=some b/\W.cell? ⟨g,2,none⟩=some c/\W.cell? ⟨g,3,none⟩=some d/\W.cell? ⟨g,4,none⟩=some e/\W.cell? ⟨g,5,none⟩=some f/\g<W.heap.size:=by
 refine⟨?_,?_,?_,?_,?_,?_,(aj.1 h).1⟩<;>simp[World.cell?,h]
theorem Ud (a b:Nat):((a:Int)==(b:Int))=decide (a=b):=by
 rw[Ir,ja,bY]
 constructor<;>intro h<;>omega
theorem nL (l:bI)(pv qv:Value)(q:List ByteArray)(S T:Nat->Prop)(w:World)(hp:gY w S pv l.path)(hq:gY w T qv q):
  Calls Tryz.prog 12 #[p8 l pv,qv] w fun e w'=>e= .returned (.bool (l.covers q))/\Below w.heap.size w w':=by
 have hb:=aK w (.cells #[.string l.token,pv,.bool l.deep,.bool l.excl,.string l.owner,.int .i64 l.till] 24)
 have hn:=aP w (.cells #[.string l.token,pv,.bool l.deep,.bool l.excl,.string l.owner,.int .i64 l.till] 24)
 obtain⟨w1,hw1⟩:∃w1:World,Hid (w.alloc (.cells #[.string l.token,pv,.bool l.deep,.bool l.excl,.string l.owner,.int .i64 l.till] 24)=w1):=⟨_,af rfl⟩
 rw[hw1.out] at hb hn
 have HW:=af (IL qv pv q l.path T S w1 (cZ.below hq hb) (cZ.below hp hb))
 have HB:=af hb
 obtain⟨po,pc,rfl,hp1,hp2,_,_⟩:=cZ.form hp
 obtain⟨qo,qc,rfl,hq1,hq2,_,_⟩:=cZ.form hq
 obtain⟨sb,hsb⟩:∃sb:Nat,Hid (w.heap.size=sb):=⟨_,af rfl⟩
 rw[hsb.out] at hn
 obtain⟨c0,c1,c2,c3,c4,c5,lt⟩:=bW hn
 obtain⟨R,hR⟩:∃R,Hid (within q l.path=R):=⟨_,af rfl⟩
 have HV:=af (show l.covers q=(R && (l.deep||decide (q.length=l.path.length))) by unfold bI.covers;rw[hR.out])
 have hqn:=Ud q.length l.path.length
 rw[hR.out] at HW
 unfold p8
 clear hp hq hb hn
 go_enter Tryz.func12,Tryz.ntmps12
 go_upto_region 1 with fail
 rw[hw1.out,hsb.out]
 cases R with
 |false=>
  go_wp2_with (first
   |(go_at_call 29;go_must (refine HW.out.mono ?_;rintro e w2 ⟨rfl,hw⟩;subst w2)))
  go_ret
  exact⟨by rw[HV.out];rfl,HB.out⟩
 |true=>
  cases hd:l.deep with
  |true=>
   rw[hd] at c2
   go_wp2_with (first
    |(go_at_call 29;go_must (refine HW.out.mono ?_;rintro e w2 ⟨rfl,hw⟩;subst w2)))
   go_ret
   exact⟨by rw[HV.out,hd];rfl,HB.out⟩
  |false=>
   rw[hd] at c2
   go_wp2_with (first
    |(go_at_call 29;go_must (refine HW.out.mono ?_;rintro e w2 ⟨rfl,hw⟩;subst w2)))
   go_ret
   exact⟨by rw[HV.out,hd,<-hqn];rfl,HB.out⟩
theorem uG (a b:bI)(av bv:Value)(S T:Nat->Prop)(w:World)(ha:gY w S av a.path)(hb:gY w T bv b.path):
  Calls Tryz.prog 14 #[p8 a av,p8 b bv] w fun e w'=>e= .returned (.bool (a.clash b))/\Below w.heap.size w w':=by
 have h1:=aK w (.cells #[.string a.token,av,.bool a.deep,.bool a.excl,.string a.owner,.int .i64 a.till] 24)
 have n1:=aP w (.cells #[.string a.token,av,.bool a.deep,.bool a.excl,.string a.owner,.int .i64 a.till] 24)
 have z1:(w.alloc (.cells #[.string a.token,av,.bool a.deep,.bool a.excl,.string a.owner,.int .i64 a.till] 24)).heap.size=w.heap.size+1:=by simp
 have h2:=aK (w.alloc (.cells #[.string a.token,av,.bool a.deep,.bool a.excl,.string a.owner,.int .i64 a.till] 24)) (.cells #[.string b.token,bv,.bool b.deep,.bool b.excl,.string b.owner,.int .i64 b.till] 24)
 have n2:=aP (w.alloc (.cells #[.string a.token,av,.bool a.deep,.bool a.excl,.string a.owner,.int .i64 a.till] 24)) (.cells #[.string b.token,bv,.bool b.deep,.bool b.excl,.string b.owner,.int .i64 b.till] 24)
 have hbb:=h1.trans (h2.mono h1.size)
 have n1:=(h2.block _ (by rw[z1];omega)).trans n1
 rw[z1] at n2
 obtain⟨w2,hw2⟩:∃w2:World,Hid (((w.alloc (.cells #[.string a.token,av,.bool a.deep,.bool a.excl,.string a.owner,.int .i64 a.till] 24)).alloc (.cells #[.string b.token,bv,.bool b.deep,.bool b.excl,.string b.owner,.int .i64 b.till] 24))=w2):=⟨_,af rfl⟩
 rw[hw2.out] at hbb n1 n2
 have HB:=af hbb
 obtain⟨sb,hsb⟩:∃sb:Nat,Hid (w.heap.size=sb):=⟨_,af rfl⟩
 rw[hsb.out] at n1 n2
 have hc1:=nL a av bv b.path S T w2 (cZ.below ha hbb) (cZ.below hb hbb)
 have hc2:=fun W (hW:Below w2.heap.size w2 W)=>nL b bv av a.path T S W (cZ.below (cZ.below hb hbb) hW) (cZ.below (cZ.below ha hbb) hW)
 obtain⟨P,hP⟩:∃P,Hid (a.covers b.path=P):=⟨_,af rfl⟩
 obtain⟨Q,hQ⟩:∃Q,Hid (b.covers a.path=Q):=⟨_,af rfl⟩
 rw[hP.out] at hc1;simp only[hQ.out] at hc2
 have HV:=af (show a.clash b=((a.excl||b.excl) && (P||Q)) by unfold bI.clash;rw[hP.out,hQ.out])
 obtain⟨at_,ap,ad,ae,ao,ai⟩:=a
 obtain⟨bt,bp,bd,be,bo,bi⟩:=b
 dsimp only at HV hc1 hc2 n1 n2 hw2
 unfold p8 at hc1 hc2 ⊢
 have HC1:=af hc1;have HC2:=af hc2
 obtain⟨a0,a1,a2,a3,a4,a5,la⟩:=bW n1
 obtain⟨b0,b1,b2,b3,b4,b5,lb⟩:=bW n2
 have HN1:=af n1;have HN2:=af n2
 clear ha hb h1 h2 hc1 hc2 hbb n1 n2 z1
 go_enter Tryz.func14,Tryz.ntmps14
 go_upto_region 1 with fail
 rw[hw2.out,hsb.out]
 cases ae with
 |true=>
  cases P with
  |true=>
   go_wp2_with (first
    |(go_at_call 12;go_must (refine HC1.out.mono ?_;rintro e w3 ⟨rfl,hb3⟩)))
   go_ret
   exact⟨by rw[HV.out];rfl,HB.out.trans (hb3.mono HB.out.size)⟩
  |false=>
   go_wp2_with (first
    |(go_at_call 12;go_must (refine HC1.out.mono ?_;rintro e w3 ⟨rfl,hb3⟩;refine Stop.of ?_)))
   refine Stop.on ?_
   clear a0 a1 a2 a3 a4 a5 la b0 b1 b2 b3 b4 b5 lb
   obtain⟨a0,a1,a2,a3,a4,a5,la⟩:=bW ((hb3.block _ (aj.1 HN1.out).1).trans HN1.out)
   obtain⟨b0,b1,b2,b3,b4,b5,lb⟩:=bW ((hb3.block _ (aj.1 HN2.out).1).trans HN2.out)
   have HC3:=af (HC2.out w3 hb3)
   have HB3:=af (HB.out.trans (hb3.mono HB.out.size))
   clear hb3
   go_wp2_with (first
    |(go_at_call 12;go_must (refine HC3.out.mono ?_;rintro e w4 ⟨rfl,hb4⟩)))
   go_ret
   exact⟨by rw[HV.out];cases Q<;>rfl,HB3.out.trans (hb4.mono HB3.out.size)⟩
 |false=>
  cases be with
  |true=>
   cases P with
   |true=>
    go_wp2_with (first
     |(go_at_call 12;go_must (refine HC1.out.mono ?_;rintro e w3 ⟨rfl,hb3⟩)))
    go_ret
    exact⟨by rw[HV.out];rfl,HB.out.trans (hb3.mono HB.out.size)⟩
   |false=>
    go_wp2_with (first
     |(go_at_call 12;go_must (refine HC1.out.mono ?_;rintro e w3 ⟨rfl,hb3⟩;refine Stop.of ?_)))
    refine Stop.on ?_
    clear a0 a1 a2 a3 a4 a5 la b0 b1 b2 b3 b4 b5 lb
    obtain⟨a0,a1,a2,a3,a4,a5,la⟩:=bW ((hb3.block _ (aj.1 HN1.out).1).trans HN1.out)
    obtain⟨b0,b1,b2,b3,b4,b5,lb⟩:=bW ((hb3.block _ (aj.1 HN2.out).1).trans HN2.out)
    have HC3:=af (HC2.out w3 hb3)
    have HB3:=af (HB.out.trans (hb3.mono HB.out.size))
    clear hb3
    go_wp2_with (first
     |(go_at_call 12;go_must (refine HC3.out.mono ?_;rintro e w4 ⟨rfl,hb4⟩)))
    go_ret
    exact⟨by rw[HV.out];cases Q<;>rfl,HB3.out.trans (hb4.mono HB3.out.size)⟩
  |false=>
   go_wp2_with fail
   go_ret
   exact⟨by rw[HV.out];rfl,HB.out⟩
end Go.Proofs.YtpgdljlghiifjaaGreatDoor
