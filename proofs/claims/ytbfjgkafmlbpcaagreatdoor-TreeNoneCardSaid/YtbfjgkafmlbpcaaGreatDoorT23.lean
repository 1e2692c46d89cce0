/- parts -/
import Derived.Test.YtbfjgkafmlbpcaaGreatDoorT1
import Derived.Test.YtbfjgkafmlbpcaaGreatDoorT5
import Derived.Test.YtbfjgkafmlbpcaaGreatDoorT11
import Derived.Test.YtbfjgkafmlbpcaaGreatDoorT12
import Derived.Test.YtbfjgkafmlbpcaaGreatDoorT13
import Derived.Test.YtbfjgkafmlbpcaaGreatDoorT17
import Derived.Test.YtbfjgkafmlbpcaaGreatDoorT22
import Derived.Shelf.Strings.Builder1
set_option maxRecDepth 100000
set_option maxHeartbeats 8000000
set_option linter.all false
namespace Go.Proofs.YtbfjgkafmlbpcaaGreatDoor
open Go.RowKit
theorem L6 (n:Nat):((UInt8.ofNat n).toNat:Int)=IntKind.u8.wrap (n:Int):=by
 rw[dY,yQ];omega
theorem QA (n:Nat):IntKind.u8.wrap ((n/256:Nat):Int)=IntKind.u8.wrap ((n:Int)/256):=by
 congr 1
def vD (size:Nat)(rs:List (Nat×Nat))(len:Nat):List UInt8:=[177,UInt8.ofNat size,UInt8.ofNat (size/256),UInt8.ofNat len]++rs.flatMap qD
theorem Ea (size len:Nat):aD (vD size [] len)=[.int .u8 177,.int .u8 (IntKind.u8.wrap (size:Int)),.int .u8 (IntKind.u8.wrap ((size:Int)/256)),.int .u8 (IntKind.u8.wrap (len:Int))]:=by
 simp only[vD,List.flatMap_nil,dW,aD,cu,iq,L6,QA]
 rfl
theorem II (size len:Nat)(rs:List (Nat×Nat))(k:Nat)(h:k<rs.length)(hf:rs[k].1<65536)(hn:rs[k].2<256):aD (vD size (rs.take (k+1)) len)=aD (vD size (rs.take k) len)++[.int .u8 ((rs[k].1:Int)%256),.int .u8 ((rs[k].1:Int)/256),.int .u8 (rs[k].2:Int)]:=by
 have e:vD size (rs.take (k+1)) len=vD size (rs.take k) len++qD rs[k]:=by
  unfold vD
  rw[aQ h,xV];simp
 rw[e,gI]
 simp only[qD,aD,cu,iq,L6,yQ]
 have e1:((rs[k].1/256:Nat):Int)%256=(rs[k].1:Int)/256:=by omega
 have e2:(rs[k].2:Int)%256=(rs[k].2:Int):=by omega
 rw[e1,e2]
theorem Pw (lb size:Nat)(rs:List (Nat×Nat))(lv:Value)(B:Nat)(S:Nat->Prop)(w:World)(h:lQ w S B lb size rs lv)(hS:∀g,S g->g<w.heap.size)(hsz:size<=65535)(ok:pW rs)(hl:rs.length<=1000):
  Calls Tryz.prog 161 #[.pointer (some ⟨lb,0,none⟩)] w fun e w'=>∃v,e= .returned v/\aP w' S w.heap.size 5 1 v (encR size rs).length (aD (encR size rs))/\Below w.heap.size w w':=by
 obtain⟨ao,c,rfl,n0,m0,_,_⟩:=bn.form h.own.cZ
 have hsl:=h.own.cZ
 have c0:w.cell? ⟨lb,0,none⟩=some (.int .i64 size):=by simp[World.cell?,h.obj]
 have c1:w.cell? ⟨lb,1,none⟩=some (.slice ao rs.length c):=by simp[World.cell?,h.obj]
 have hlt:lb<w.heap.size:=(ah.1 h.obj).1
 have HOK:=af ok
 have HSL:=af hsl
 have HC:=af (show ∀W:World,Below w.heap.size w W->W.cell? ⟨lb,0,none⟩=some (.int .i64 size)/\W.cell? ⟨lb,1,none⟩=some (.slice ao rs.length c)/\lb<W.heap.size from fun W hW=>
  ⟨(hW.cell (p:=⟨lb,0,none⟩) hlt).trans c0,(hW.cell (p:=⟨lb,1,none⟩) hlt).trans c1,ak hlt hW.size⟩)
 clear h hsl ok
 have q1:IntKind.i64.wrap ((size:Int)/256)=((size/256:Nat):Int):=by rw[aM _ (by omega)];omega
 go_enter Tryz.func161,Tryz.ntmps161
 go_wp2_with fail
 refine aN (fun W=>Below w.heap.size w W) (fun i=> !([17].contains i)) [0,1,2,3,4,5,6,7,8,9,10,11,12,13,14,15,16,17,18] rfl (by kernel_rfl) ((aO _ w).drew) ?_
 repeat ((refine bL (v:= ?_) rfl rfl (fun _ _ _ h=>h) rfl (fun W hW=> ?_) ?_);rotate_left;(focus ((try dsimp only at hW);obtain⟨r0,r1,r2⟩:=HC.out W hW;(go_simp;first|done|with_reducible rfl)));(try simp only[Act.put,ai,au,aj]))
 refine dA rfl rfl rfl ?_;intro K hK;go_simp
 have hb0:Below w.heap.size w (w.alloc (.cells #[.int .u8 177,.int .u8 (IntKind.u8.wrap (size:Int)),.int .u8 (IntKind.u8.wrap ((size:Int)/256)),.int .u8 (IntKind.u8.wrap (rs.length:Int))] 5)).drew:=(aF w _).drew
 have hn0:aP (w.alloc (.cells #[.int .u8 177,.int .u8 (IntKind.u8.wrap (size:Int)),.int .u8 (IntKind.u8.wrap ((size:Int)/256)),.int .u8 (IntKind.u8.wrap (rs.length:Int))] 5)).drew S w.heap.size 5 1 (.slice (some ⟨w.heap.size,0,none⟩) 4 4) 4 (aD (vD size (rs.take 0) rs.length)):=by
  rw[gP,Ea]
  exact(mq (w:=w) (S:=S) (B:=w.heap.size) (e:=5) (k:=1) _ 4 4 rfl rfl (ax _) (by simp[maxLen]) (ax _) hS).drew
 generalize (w.alloc (.cells #[.int .u8 177,.int .u8 (IntKind.u8.wrap (size:Int)),.int .u8 (IntKind.u8.wrap ((size:Int)/256)),.int .u8 (IntKind.u8.wrap (rs.length:Int))] 5)).drew=w1 at hb0 hn0 ⊢
 refine hK.out _ _ hb0 ?_
 repeat ((refine bL (v:= ?_) rfl rfl (fun _ _ _ h=>h) rfl (fun W hW=> ?_) ?_);rotate_left;(focus ((try dsimp only at hW);obtain⟨r0,r1,r2⟩:=HC.out W hW;(go_simp;first|done|with_reducible rfl)));(try simp only[Act.put,ai,au,aj]))
 refine bO ?_
 obtain⟨s0,s1,s2⟩:=HC.out _ hb0
 clear q1
 generalize IntKind.u8.wrap (size:Int)=z1
 generalize IntKind.u8.wrap ((size:Int)/256)=z2
 generalize IntKind.u8.wrap (rs.length:Int)=z3
 generalize (size:Int)/256=z4
 go_wp2_with fail
 go_loopw [3,5,29] (fun v _ i wr=>∃k:Nat,k<=rs.length/\i= .int .i64 k/\aP wr S w.heap.size 5 1 v (4+3*k) (aD (vD size (rs.take k) rs.length))/\Below w.heap.size w wr) (fun _ _ i _=>rs.length - (intOf i).toNat)
 case atStart=>exact⟨0,by omega,rfl,hn0,hb0⟩
 case round=>
  obtain⟨k,hk,rfl,ho,hb⟩:=hrel
  obtain⟨oo,oc,rfl,_,_,_,_⟩:=bn.form ho.cZ
  by_cases hkl:k<rs.length
  ·have x1:(k:Int)<(rs.length:Int):=by omega
   obtain⟨pb,po,rfl,d1,d2⟩:=Bz.at HSL.out rfl k hkl
   have d1':=(hb.cell (p:=⟨pb,po+k*2,none⟩) (aH w _ d1)).trans d1
   have d2':=(hb.cell (p:=⟨pb,po+k*2+1,none⟩) (aH w _ d2)).trans d2
   have hpb:=aH wr _ d1'
   have hS6:∀g,S g->g<wr.heap.size:=fun g hg=>ak (hS g hg) hb.size
   have hrk:=HOK.out rs[k] (bG hkl)
   have HT:=af (II size rs.length rs k hkl (by omega) (by omega))
   clear d1 d2 s0 s1
   have hbg:=hb.size
   go_wp2_with (first
    |(at_builtin;go_must ((refine dB rfl (.tmp 33) (.tmp 44) 119 119 rfl S w.heap.size 5 1 1 (.int .u8 0) bg jH rfl (.slice oo (4+3*k) oc) _ _ rfl (ho.below (gy _ _ _)) _ 3 _ rfl (gY [_,_,_] _ 1 3 3 (by simp) bg rfl ?_) (fq (fq hS6 _) _) ?_ ?_ ?_ ?_);(focus (simp[Value.oneCell']));(focus (simp only[aV];omega));(focus (unfold maxLen;omega));(focus omega);intro ao1 c1 w1 hown1 hk1 hb1 hd1)))
   go_roundw
   case rel=>exact⟨k+1,by omega,by go_num,by rw[HT.out];exact hown1,(hb.trans (gy wr _ _|>.mono hb.size)).trans hb1⟩
   case measure=>simp[intOf];omega
  ·have:k=rs.length:=by omega
   subst this
   rw[dF] at ho
   have he:vD size rs rs.length=encR size rs:=rfl
   have hle:=zh size rs
   have x1:¬(rs.length:Int)<(rs.length:Int):=by omega
   rw[he] at ho
   have HLE:=af hle;clear hle he
   go_wp2_with fail
   go_ret
   exact⟨_,rfl,by rw[HLE.out];exact ho,hb⟩
theorem xw:(Tryz.prog.info? 319).map (fun i=>(i.zero,i.size,i.bytes))=some (some (.agg #[.int .i64 0,.int .i64 0]),2,16):=by kernel_rfl
theorem Lj (rs:List (Nat×Nat))(m b:Nat)(hm:rs.length=m+1)(hm':m<rs.length)(h:¬(rs[m].1+rs[m].2=b/\rs[m].2<255)):yP rs b=rs++[(b,1)]:=by
 have hl:rs.getLast? =some rs[m]:=by rw[zU,show rs.length - 1=m by omega,bF (by omega)]
 unfold yP
 rw[hl]
 simp only
 rw[if_neg h]
theorem Li (rs:List (Nat×Nat))(m b:Nat)(hm:rs.length=m+1)(hm':m<rs.length)(h:rs[m].1+rs[m].2=b/\rs[m].2<255):yP rs b=rs.set m (rs[m].1,rs[m].2+1):=by
 have hl:rs.getLast? =some rs[m]:=by rw[zU,show rs.length - 1=m by omega,bF (by omega)]
 unfold yP
 rw[hl]
 simp only
 rw[if_pos h]
 apply List.ext_getElem?
 intro i
 rw[List.getElem?_set]
 by_cases hi:m=i
 ·subst hi
  rw[if_pos rfl,if_pos (by omega),bV (by simp;omega)]
  simp[hm]
 ·rw[if_neg hi]
  rcases iJ i m with h1|h1
  ·rw[fJ (by simp;omega),List.getElem?_dropLast,if_pos (by omega)]
  ·rw[nY (by simp;omega),nY (by omega)]
theorem DN (rs:List (Nat×Nat))(m n:Nat)(hm:m<rs.length):(iA rs).set (m*2+1) (.int .i64 n)=iA (rs.set m (rs[m].1,n)):=by
 induction rs generalizing m with
 |nil=>simp at hm
 |cons r rs ih=>
  cases m with
  |zero=>rfl
  |succ m=>
   have:=ih m (by simpa using hm)
   rw[show (m+1)*2+1=(m*2+1)+2 by omega]
   show [Value.int .i64 (r.1:Int),Value.int .i64 (r.2:Int)]++(iA rs).set (m*2+1) (.int .i64 n)=_
   rw[this];rfl
theorem zP {w w':World}{S:Nat->Prop}{B lb size n:Nat}{rs':List (Nat×Nat)}{v v':Value}{xs:List Value}(hobj:w.heap[lb]? =some (.cells #[.int .i64 size,v] 271 (0,0)))(hown:aP w S B 319 2 v n xs)(lo:B<=lb)(ns:¬S lb)(hk:Keep (fun g=>v.ownBlock=some g) w w')(hb:Below B w w')(ho:aP w' S B 319 2 v' rs'.length (iA rs')):
  lQ (w'.setCell ⟨lb,1,none⟩ v') S B lb size rs' v'/\Below B w (w'.setCell ⟨lb,1,none⟩ v'):=by
 have hlt:=(ah.1 hobj).1
 have hn:w'.heap[lb]? =_:=(hk.block lb hlt (hown.ne hobj (by decide))).trans hobj
 have hk5:Keep (· =lb) w' (w'.setCell ⟨lb,1,none⟩ v'):=Keep.setCell (M:=(· =lb)) (p:=⟨lb,1,none⟩) (Keep.refl _ _) (.inr rfl) _
 exact⟨⟨by simp[World.setCell,aS,hn],ho.keep fun g hg hl hs=>⟨hk5.block g hl (fun e=>ho.ne hn (by decide) (by rw[hg,e])),hs⟩,lo,ns⟩,hb.setCell (by exact lo) _⟩
theorem TU (lb size b:Nat)(rs:List (Nat×Nat))(lv:Value)(B:Nat)(S:Nat->Prop)(w:World)(h:lQ w S B lb size rs lv)(hS:∀g,S g->g<w.heap.size)(ok:pW rs)(hl:rs.length<=1000)(hb:b<=65535):
  Calls Tryz.prog 160 #[.pointer (some ⟨lb,0,none⟩),.int .i64 b] w fun e w'=>e= .returned (.tuple #[])/\(∃v,lQ w' S B lb size (yP rs b) v)/\Below B w w':=by
 obtain⟨ao,c,rfl,n0,m0,_,_⟩:=bn.form h.own.cZ
 have hobj:=h.obj
 have hown:=h.own
 have hlo:=h.lo
 have hns:=h.ns
 have hlt:lb<w.heap.size:=(ah.1 h.obj).1
 have HOK:=af ok
 have hBw:B<=w.heap.size:=aI h.lo (ig hlt)
 have HS:=af hS
 clear h ok hS
 obtain⟨N,hN⟩:∃N,rs.length=N:=⟨_,rfl⟩
 rw[hN] at hobj hown n0 hl
 have c1:w.cell? ⟨lb,1,none⟩=some (.slice ao N c):=by simp[World.cell?,hobj]
 have HSL:=af hown.cZ
 have HOW:=af hown
 have HOB:=af hobj
 have HRC:=af (show iA (rs++[(b,1)])=iA rs++[.int .i64 b,.int .i64 1] by rw[rW];rfl)
 have HLEN:=af hN
 clear hobj hown
 cases N with
 |zero=>
  have HADD:=af (show yP rs b=rs++[(b,1)] by rw[aR hN];rfl)
  clear hN
  go_enter Tryz.func160,Tryz.ntmps160
  go_wp2_with fail
  go_quiet (fail)
  obtain⟨w1,HW1⟩:∃w1:World,Hid (w.drewN nq=w1):=⟨_,af rfl⟩
  have hb1:Below w.heap.size w w1:=by rw[<-HW1.out];exact Dl (aO _ _) _
  rw[HW1.out]
  have HO1:=af (HOW.out.below hb1)
  have HB1:=af ((hb1.block lb hlt).trans HOB.out)
  have e0:w1.cell? ⟨lb,1,none⟩=some (.slice ao 0 c):=(hb1.cell (p:=⟨lb,1,none⟩) hlt).trans c1
  have ef:w1.frozen? ⟨lb,1,none⟩=false:=by have:=HB1.out;simp[World.frozen?,this]
  have el:lb<w1.heap.size:=ak hlt hb1.size
  have hS1:∀g,S g->g<w1.heap.size:=fun g hg=>ak (HS.out g hg) hb1.size
  have hBg:=aI hBw hb1.size
  clear c1
  go_wp2_with (first
   |(at_builtin;go_must ((refine dB rfl (.tmp 60) (.tmp 63) 269 269 rfl S B 319 2 16 _ kM xw rfl (.slice ao 0 c) _ _ rfl (HO1.out.below (aF _ _)) _ 1 _ rfl (gY [.int .i64 b,.int .i64 1] _ 2 1 1 (by simp) kM rfl ?_) (fq hS1 _) ?_ ?_ ?_ ?_);(focus (simp[Value.oneCell']));(focus (simp only[aV];omega));(focus (unfold maxLen;omega));(focus omega);intro ao3 c3 w3 hown3 hk3 hb3 hd3;refine Stop.of ?_)))
  refine Stop.on ?_
  have HO2:=HO1.out.below (aF w1 (.cells #[.int .i64 b,.int .i64 1] 319))
  have HB2:=((aF w1 (.cells #[.int .i64 b,.int .i64 1] 319)).block lb el).trans HB1.out
  have hn3:w3.heap[lb]? =_:=(hk3.block lb (ah.1 HB2).1 (HO2.ne HB2 (by decide))).trans HB2
  have g0:w3.cell? ⟨lb,1,none⟩=some (.slice ao 0 c):=by have:=hn3;simp only[World.cell?,this];rfl
  have gf:w3.frozen? ⟨lb,1,none⟩=false:=by simp[World.frozen?,hn3]
  have gl:=(ah.1 hn3).1
  have HPUT:=af (zP (rs':=rs++[(b,1)]) HB2 HO2 hlo hns hk3 hb3 (by rw[av,HLEN.out,HRC.out];exact hown3))
  go_wp2_with fail
  go_end0
  refine⟨rfl,⟨_,by rw[HADD.out];exact HPUT.out.1⟩,?_⟩
  exact(hb1.mono hBw).trans ((aF w1 _|>.mono hBg).trans HPUT.out.2)
 |succ m=>
  have hm:m<rs.length:=by omega
  obtain⟨pb,po,rfl,d1,d2⟩:=Bz.at (rs:=rs) (w:=w) (S:=S) (by have:=HSL.out;rw[<-hN] at this;exact this) rfl m hm
  have hrk:=HOK.out rs[m] (bG hm)
  obtain⟨gg,cc,e,_,_,hBpb,_⟩:=HOW.out.C9 (by omega)
  cases e
  rw[eG] at d1 d2
  obtain⟨f,hf⟩:∃f,f=rs[m].1:=⟨_,rfl⟩
  obtain⟨n,hn⟩:∃n,n=rs[m].2:=⟨_,rfl⟩
  rw[<-hf,<-hn] at hrk
  rw[<-hf] at d1
  rw[<-hn] at d2
  have hpb:=aH w _ d1
  have hpb':pb<w.heap.size:=hpb
  by_cases hc:f+n=b/\n<255
  ·have HADD:=af (show yP rs b=rs.set m (f,n+1) by rw[Li rs m b hN hm (by rw[<-hf,<-hn];exact hc),<-hf,<-hn])
   have HRS:=af (show (iA rs).set (m*2+1) (.int .i64 ((n+1:Nat):Int))=iA (rs.set m (f,n+1)) by rw[DN rs m (n+1) hm,<-hf])
   have h1':(f:Int)+(n:Int)=(b:Int):=by omega
   have h2':(n:Int)<255:=by omega
   obtain⟨cur,hrow,hcl,hct,_,hSpb,hcc,hccm⟩:=HOW.out.row
   have HROW:=af (ay hrow (ay hcl (ay hct (ay hSpb (ay hcc hccm)))))
   have hfz:=hrow.frozen (m*2+1)
   clear hf hn hN hc hrow hcl hct hSpb hcc hccm
   go_enter Tryz.func160,Tryz.ntmps160
   go_wp2_with fail
   go_quiet (fail)
   obtain⟨w1,HW1⟩:∃w1:World,Hid (w.drewN nq=w1):=⟨_,af rfl⟩
   have hb1:Below w.heap.size w w1:=by rw[<-HW1.out];exact Dl (aO _ _) _
   rw[HW1.out]
   have hR1:Row w1 pb 319 cur:=(hb1.block pb hpb').trans HROW.out.1
   have HO1:=af (HOW.out.below hb1)
   have HB1:=af ((hb1.block lb hlt).trans HOB.out)
   have e0:w1.cell? ⟨lb,1,none⟩=some (.slice (some ⟨pb,0,none⟩) (m+1) c):=(hb1.cell (p:=⟨lb,1,none⟩) hlt).trans c1
   have e1:w1.cell? ⟨pb,m*2+1,none⟩=some (.int .i64 n):=(hb1.cell (p:=⟨pb,m*2+1,none⟩) hpb').trans d2
   have ef:w1.frozen? ⟨pb,m*2+1,none⟩=false:=hR1.frozen _
   have el:lb<w1.heap.size:=ak hlt hb1.size
   have el2:pb<w1.heap.size:=ak hpb' hb1.size
   have HR1:=af hR1
   clear c1 d1 d2 hfz hR1
   go_wp2_with fail
   refine eO (zK rfl _ _ _) rfl ?_
   have hk5:Keep (· =pb) w1 (w1.setCell ⟨pb,m*2+1,none⟩ (.int .i64 ((n:Int)+1))):=(Keep.refl (· =pb) _).setCell (p:=⟨pb,m*2+1,none⟩) (.inr rfl) _
   have hlp:¬lb=pb:=fun e=>by subst e;exact HO1.out.ne HB1.out (by decide) rfl
   refine⟨rfl,⟨_,by
    rw[HADD.out]
    refine⟨(hk5.block lb el hlp).trans HB1.out,?_,hlo,hns⟩
    have hr':Row (w1.setCell ⟨pb,m*2+1,none⟩ (.int .i64 ((n:Int)+1))) pb 319 (cur.set (m*2+1) (.int .i64 ((n:Int)+1))):=by
     have:=HR1.out
     unfold Row at this ⊢
     simp[World.setCell,aS,this]
    have:=hr'.own (S:=S) (B:=B) (k:=2) (cap:=c) (m+1) (by simpa using HROW.out.2.1) hBpb HROW.out.2.2.2.1 HROW.out.2.2.2.2.1 HROW.out.2.2.2.2.2
    rw[List.take_set,HROW.out.2.2.1] at this
    have e9:(iA rs).set (m*2+1) (.int .i64 ((n:Int)+1))=iA (rs.set m (f,n+1)):=HRS.out
    rw[e9] at this
    rw[List.length_set,HLEN.out]
    exact this⟩,?_⟩
   exact(hb1.mono hBw).trans (hk5.fP (aI hBw hb1.size) (fun i hi e=>absurd hBpb (by rw[<-e];exact fE.2 hi)))
  ·have HADD:=af (show yP rs b=rs++[(b,1)] from Lj rs m b hN hm (by rw[<-hf,<-hn];exact hc))
   have hsum:((f:Int)+(n:Int)==(b:Int))=decide (f+n=b):=by
    by_cases h:f+n=b
    ·rw[eY h];simp;omega
    ·rw[bP h];simp;omega
   clear hf hn hN
   have e2:w.cell? ⟨pb,m*2,none⟩=some (.int .i64 f):=d1
   go_enter Tryz.func160,Tryz.ntmps160
   go_wp2_with fail
   by_cases h1:f+n=b
   ·have h2:¬n<255:=fun e=>hc ⟨h1,e⟩
    have h2':decide ((n:Int)<255)=false:=bP (by omega)
    have h1':(f:Int)+(n:Int)=(b:Int):=by omega
    go_quiet (fail)
    obtain⟨w1,HW1⟩:∃w1:World,Hid (w.drewN nq=w1):=⟨_,af rfl⟩
    have hb1:Below w.heap.size w w1:=by rw[<-HW1.out];exact Dl (aO _ _) _
    rw[HW1.out]
    have HO1:=af (HOW.out.below hb1)
    have HB1:=af ((hb1.block lb hlt).trans HOB.out)
    have e0:w1.cell? ⟨lb,1,none⟩=some (.slice (some ⟨pb,0,none⟩) (m+1) c):=(hb1.cell (p:=⟨lb,1,none⟩) hlt).trans c1
    have ef:w1.frozen? ⟨lb,1,none⟩=false:=by have:=HB1.out;simp[World.frozen?,this]
    have el:lb<w1.heap.size:=ak hlt hb1.size
    have hS1:∀g,S g->g<w1.heap.size:=fun g hg=>ak (HS.out g hg) hb1.size
    have hBg:=aI hBw hb1.size
    clear c1
    go_wp2_with (first
     |(at_builtin;go_must ((refine dB rfl (.tmp 60) (.tmp 63) 269 269 rfl S B 319 2 16 _ kM xw rfl (.slice (some ⟨pb,0,none⟩) (m+1) c) _ _ rfl (HO1.out.below (aF _ _)) _ 1 _ rfl (gY [.int .i64 b,.int .i64 1] _ 2 1 1 (by simp) kM rfl ?_) (fq hS1 _) ?_ ?_ ?_ ?_);(focus (simp[Value.oneCell']));(focus (simp only[aV];omega));(focus (unfold maxLen;omega));(focus omega);intro ao3 c3 w3 hown3 hk3 hb3 hd3;refine Stop.of ?_)))
    refine Stop.on ?_
    have HO2:=HO1.out.below (aF w1 (.cells #[.int .i64 b,.int .i64 1] 319))
    have HB2:=((aF w1 (.cells #[.int .i64 b,.int .i64 1] 319)).block lb el).trans HB1.out
    have hn3:w3.heap[lb]? =_:=(hk3.block lb (ah.1 HB2).1 (HO2.ne HB2 (by decide))).trans HB2
    have g0:w3.cell? ⟨lb,1,none⟩=some (.slice (some ⟨pb,0,none⟩) (m+1) c):=by have:=hn3;simp only[World.cell?,this];rfl
    have gf:w3.frozen? ⟨lb,1,none⟩=false:=by simp[World.frozen?,hn3]
    have gl:=(ah.1 hn3).1
    have HPUT:=af (zP (rs':=rs++[(b,1)]) HB2 HO2 hlo hns hk3 hb3 (by rw[av,HLEN.out,HRC.out];exact hown3))
    go_wp2_with fail
    go_end0
    refine⟨rfl,⟨_,by rw[HADD.out];exact HPUT.out.1⟩,?_⟩
    exact(hb1.mono hBw).trans ((aF w1 _|>.mono hBg).trans HPUT.out.2)
   ·have h1':¬(f:Int)+(n:Int)=(b:Int):=by omega
    go_quiet (fail)
    obtain⟨w1,HW1⟩:∃w1:World,Hid (w.drewN nq=w1):=⟨_,af rfl⟩
    have hb1:Below w.heap.size w w1:=by rw[<-HW1.out];exact Dl (aO _ _) _
    rw[HW1.out]
    have HO1:=af (HOW.out.below hb1)
    have HB1:=af ((hb1.block lb hlt).trans HOB.out)
    have e0:w1.cell? ⟨lb,1,none⟩=some (.slice (some ⟨pb,0,none⟩) (m+1) c):=(hb1.cell (p:=⟨lb,1,none⟩) hlt).trans c1
    have ef:w1.frozen? ⟨lb,1,none⟩=false:=by have:=HB1.out;simp[World.frozen?,this]
    have el:lb<w1.heap.size:=ak hlt hb1.size
    have hS1:∀g,S g->g<w1.heap.size:=fun g hg=>ak (HS.out g hg) hb1.size
    have hBg:=aI hBw hb1.size
    clear c1
    go_wp2_with (first
     |(at_builtin;go_must ((refine dB rfl (.tmp 60) (.tmp 63) 269 269 rfl S B 319 2 16 _ kM xw rfl (.slice (some ⟨pb,0,none⟩) (m+1) c) _ _ rfl (HO1.out.below (aF _ _)) _ 1 _ rfl (gY [.int .i64 b,.int .i64 1] _ 2 1 1 (by simp) kM rfl ?_) (fq hS1 _) ?_ ?_ ?_ ?_);(focus (simp[Value.oneCell']));(focus (simp only[aV];omega));(focus (unfold maxLen;omega));(focus omega);intro ao3 c3 w3 hown3 hk3 hb3 hd3;refine Stop.of ?_)))
    refine Stop.on ?_
    have HO2:=HO1.out.below (aF w1 (.cells #[.int .i64 b,.int .i64 1] 319))
    have HB2:=((aF w1 (.cells #[.int .i64 b,.int .i64 1] 319)).block lb el).trans HB1.out
    have hn3:w3.heap[lb]? =_:=(hk3.block lb (ah.1 HB2).1 (HO2.ne HB2 (by decide))).trans HB2
    have g0:w3.cell? ⟨lb,1,none⟩=some (.slice (some ⟨pb,0,none⟩) (m+1) c):=by have:=hn3;simp only[World.cell?,this];rfl
    have gf:w3.frozen? ⟨lb,1,none⟩=false:=by simp[World.frozen?,hn3]
    have gl:=(ah.1 hn3).1
    have HPUT:=af (zP (rs':=rs++[(b,1)]) HB2 HO2 hlo hns hk3 hb3 (by rw[av,HLEN.out,HRC.out];exact hown3))
    go_wp2_with fail
    go_end0
    refine⟨rfl,⟨_,by rw[HADD.out];exact HPUT.out.1⟩,?_⟩
    exact(hb1.mono hBw).trans ((aF w1 _|>.mono hBg).trans HPUT.out.2)
theorem IE (rs:List (Nat×Nat))(k:Nat)(h:k<rs.length):(rs.flatMap qD)[3*k]? =some (UInt8.ofNat rs[k].1)/\(rs.flatMap qD)[3*k+1]? =some (UInt8.ofNat (rs[k].1/256))/\(rs.flatMap qD)[3*k+2]? =some (UInt8.ofNat rs[k].2):=by
 induction rs generalizing k with
 |nil=>simp at h
 |cons r rs ih=>
  cases k with
  |zero=>exact⟨rfl,rfl,rfl⟩
  |succ k=>
   have:=ih k (by simpa using h)
   rw[show 3*(k+1)=3*k+1+1+1 by omega,show 3*k+1+1+1+1=(3*k+1)+1+1+1 by omega,show 3*k+1+1+1+2=(3*k+2)+1+1+1 by omega]
   exact this
theorem Eb (size:Nat)(rs:List (Nat×Nat))(rest:List UInt8)(k j:Nat)(u:UInt8)(hj:(rs.flatMap qD)[j]? =some u)(hk:k=4+j):(aD (encR size rs++rest))[k]? =some (.int .u8 (u.toNat:Int)):=by
 subst hk
 have hl:=(bT.1 hj).1
 unfold aD encR
 rw[dM,aL,bV (by simp),aY,aY,aY,aY,bI,eG,dH,fJ hl,hj]
 rfl
theorem Db (size:Nat)(rs:List (Nat×Nat))(rest:List UInt8):(aD (encR size rs++rest))[0]? =some (.int .u8 177)/\(aD (encR size rs++rest))[1]? =some (.int .u8 ((UInt8.ofNat size).toNat:Int))/\(aD (encR size rs++rest))[2]? =some (.int .u8 ((UInt8.ofNat (size/256)).toNat:Int))/\(aD (encR size rs++rest))[3]? =some (.int .u8 ((UInt8.ofNat rs.length).toNat:Int)):=⟨rfl,rfl,rfl,rfl⟩
def chunk (t:List UInt8)(i:Nat):List UInt8:=(t.drop (512*i)).take 512
def su (n:Nat):Nat:=(n+511)/512
structure uj (σ:bY)(head:Nat)(size:Nat)(rs:List (Nat×Nat)):Prop where
 lo:2<=head
 has:σ.hasB head=true
 mem:∃rest,σ.mem head=encR size rs++rest
 ok:pW rs
 len:(eU rs).length=su size
 s1:1<=size
 s2:size<=49152
theorem uj.runs {σ:bY}{head size:Nat}{rs:List (Nat×Nat)}(h:uj σ head size rs):rs.length<=96/\(eU rs).length<=96:=by
 have h1:=h.ok.le
 have h2:=h.len
 have h3:=h.s2
 unfold su at h2
 omega
theorem Qd (mp:VS)(σ:bY)(S:Nat->Prop)(w:World)(head size:Nat)(rs:List (Nat×Nat))(h:Inv σ S mp w)(hh:uj σ head size rs):
  Calls Tryz.prog 249 #[.iface 123 mp.agg,.int .i64 head] w fun e w'=>∃lb v,e= .returned (.tuple #[.pointer (some ⟨lb,0,none⟩),.int .i64 0])/\lQ w' S w.heap.size lb size rs v/\Below w.heap.size w w':=by
 have hsub:=h.sub
 have hrd:=Aw mp σ S w head h hh.has
 obtain⟨rest,hmem⟩:=hh.mem
 rw[hmem] at hrd
 have hl5:(encR size rs++rest).length=512:=by
  obtain⟨n,hn,hn2,_⟩:=bY.l8 hh.has
  rw[<-hmem,hn]
  exact h.ok.len n hn2
 have HRd:=af hrd;clear hrd
 have hlo:=hh.lo
 have hs1:=hh.s1
 have hs2:=hh.s2
 obtain⟨hrl,hbl⟩:=hh.runs
 have HH:=af hh
 obtain⟨b0,b1,b2,b3⟩:=Db size rs rest
 have HB:=af (ay b0 (ay b1 (ay b2 b3)))
 have x1:¬(head:Int)<0:=by omega
 have x2:((head:Int)==0)=false:=by simp;omega
 have x3:¬(head:Int)=0:=by omega
 clear hh hmem b0 b1 b2 b3
 have hm:∀w,(method 607 123 mp.agg "Read").run Tryz.prog w= .ok (63,.pointer (some ⟨mp.tx,0,none⟩)) w:=fun _=>by kernel_rfl
 go_enter Tryz.func249,Tryz.ntmps249
 go_wp2_with (refine HRd.out.mono ?_;rintro e w1 ⟨v,rfl,hv,hvb,hb1⟩;refine Stop.of ?_)
 refine Stop.on ?_
 have hv':=hv
 obtain⟨ao,cp,rfl,n0,m0,_,_⟩:=bn.form hv'
 obtain⟨b0,b1,b2,b3⟩:=HB.out
 obtain⟨vb,vo,rfl,d0⟩:=bn.Bt hv rfl 0 _ b0
 obtain⟨_,_,e,d1⟩:=bn.Bt hv rfl 1 _ b1
 cases e
 obtain⟨_,_,e,d2⟩:=bn.Bt hv rfl 2 _ b2
 cases e
 obtain⟨_,_,e,d3⟩:=bn.Bt hv rfl 3 _ b3
 cases e
 have u3:((UInt8.ofNat rs.length).toNat:Int)=(rs.length:Int):=by rw[dY];omega
 obtain⟨lo,hlo0⟩:∃lo:Nat,lo=size%256:=⟨_,rfl⟩
 obtain⟨hi,hhi0⟩:∃hi:Nat,hi=size/256:=⟨_,rfl⟩
 have u1:((UInt8.ofNat size).toNat:Int)=(lo:Int):=by rw[dY,hlo0]
 have u2:((UInt8.ofNat (size/256)).toNat:Int)=(hi:Int):=by rw[dY,hhi0];omega
 rw[u1] at d1;rw[u2] at d2;rw[u3] at d3
 have hvl:vb<w1.heap.size:=aH w1 _ d0
 have hvw:w.heap.size<=vb:=hvb vb rfl
 have HV:=af hv
 have hlo1:lo<256:=by omega
 have hhi1:hi<256:=by omega
 have hsz0:size=lo+256*hi:=by omega
 rw[iW] at d0
 clear b0 b1 b2 b3 u1 u2 u3 hlo0 hhi0 hv hv' hvb hm
 have y1:(lo:Int)<256:=by omega
 have y2:(rs.length:Int)*3+4<=512:=by omega
 obtain⟨w2,HW2⟩:∃w2:World,Hid (w1.alloc (.cells #[.int .i64 0,.slice none 0 0] 271)=w2):=⟨_,af rfl⟩
 have hb2:Below w1.heap.size w1 w2:=by rw[<-HW2.out];exact aF w1 _
 have hL2:w2.heap[w1.heap.size]? =some (.cells #[.int .i64 0,.slice none 0 0] 271 (0,0)):=by rw[<-HW2.out];exact aK w1 _
 have D0:=(hb2.cell (p:=⟨vb,vo,none⟩) hvl).trans d0
 have D1:=(hb2.cell (p:=⟨vb,vo+1,none⟩) hvl).trans d1
 have D2:=(hb2.cell (p:=⟨vb,vo+2,none⟩) hvl).trans d2
 have D3:=(hb2.cell (p:=⟨vb,vo+3,none⟩) hvl).trans d3
 have hvl2:=ak hvl hb2.size
 have HD:=af (ay D0 (ay D1 (ay D2 (ay D3 hvl2))))
 clear d0 d1 d2 d3 D0 D1 D2 D3
 go_upto_region 11 with (fail)
 rw[HW2.out]
 obtain⟨D0,D1,D2,D3,hvl2⟩:=HD.out
 go_wp2_with fail
 obtain⟨lb,HLB⟩:∃lb,Hid (w1.heap.size=lb):=⟨_,af rfl⟩
 have hlbw:w.heap.size<=lb:=by rw[<-HLB.out];exact hb1.size
 rw[HLB.out] at hL2 ⊢
 have hlb2:lb<w2.heap.size:=(ah.1 hL2).1
 have hlf:w2.drew.frozen? ⟨lb,0,none⟩=false:=by show w2.frozen? _=false;simp[World.frozen?,hL2]
 have hlc:w2.drew.cell? ⟨lb,0,none⟩=some (.int .i64 0):=by show w2.cell? _=_;simp[World.cell?,hL2]
 have hlbd:lb<w2.drew.heap.size:=hlb2
 have HOR:=af (Ir lo hi size hlo1 hhi1 hsz0)
 have HSZ:=af hsz0
 have HLN:=af hl5
 clear hsz0 y1 hl5
 refine aN (fun W=>W=w2.drew) (fun i=> !([13].contains i)) [0,1,2,3,4,5,6,7,8,9,10,11,12,13] rfl (by kernel_rfl) rfl ?_
 repeat ((refine bL (v:= ?_) rfl rfl (fun _ _ _ h=>h) rfl (fun W hW=> ?_) ?_);rotate_left;(focus ((try dsimp only at hW);subst hW;have r1:w2.drew.cell? ⟨vb,vo+1,none⟩=some (.int .u8 lo):=D1;have r2:w2.drew.cell? ⟨vb,vo+2,none⟩=some (.int .u8 hi):=D2;have r3:vb<w2.drew.heap.size:=hvl2;(go_simp;first|done|with_reducible rfl)));(try simp only[Act.put,ai,au,aj]))
 rw[HOR.out]
 refine jf rfl rfl rfl (by kernel_rfl) ?_;intro K hK;go_simp
 refine hK.out _ _ ?_
 refine bO ?_
 have hk3:Keep (· =lb) w2 (w2.setCell ⟨lb,0,none⟩ (.int .i64 size)).drew:=((Keep.refl (· =lb) w2).setCell (p:=⟨lb,0,none⟩) (.inr rfl) _).drew
 have hL3:(w2.setCell ⟨lb,0,none⟩ (.int .i64 size)).drew.heap[lb]? =some (.cells #[.int .i64 size,.slice none 0 0] 271 (0,0)):=by
  show (w2.setCell ⟨lb,0,none⟩ (.int .i64 size)).heap[lb]? =_
  simp[World.setCell,aS,hL2]
 generalize (w2.setCell ⟨lb,0,none⟩ (.int .i64 size)).drew=w3 at hk3 hL3 ⊢
 have hsl:¬S lb:=fun x=>absurd (hsub lb x) (bE.2 hlbw)
 have hA3:lQ w3 S lb lb size (rs.take 0) (.slice none 0 0):=⟨hL3,by rw[gP];exact aP.nil _ _ _ _ _,ax _,hsl⟩
 have hb3:Below lb w1 w3:=by
  have:=hb2
  rw[HLB.out] at this
  exact this.trans (hk3.fP (by omega) (fun i hi e=>by omega))
 have hvb1:vb<lb:=by rw[<-HLB.out];exact hvl
 have HCELL:=af (fun (W:World) (hW:Below lb w1 W) (j:Nat) (u:Value) (hu:(aD (encR size rs++rest))[j]? =some u)=>(show W.cell? ⟨vb,vo+j,none⟩=some u from by
  obtain⟨_,_,e,dj⟩:=bn.Bt HV.out rfl j _ hu
  cases e
  exact(mo (w:=w1) (a:=⟨vb,vo+j,none⟩) (hW.block vb hvb1)).trans dj))
 have hw1l:w1.heap.size=lb:=HLB.out
 have D3':=HCELL.out w3 hb3 3 _ (Db size rs rest).2.2.2
 have hvl3:vb<w3.heap.size:=ak hvl (by rw[hw1l];exact ig (ah.1 hL3).1)
 have u3:((UInt8.ofNat rs.length).toNat:Int)=(rs.length:Int):=by rw[dY];omega
 rw[u3] at D3'
 clear D0 D1 D2 D3 hvl2 hlf hlc hlbd hlb2 hk3 hL3 hL2 u3 y2
 go_wp2_with fail
 go_loopw [9,10,70] (fun _ _ i wr=>∃(k:Nat) (v:Value),k<=rs.length/\i= .int .i64 k/\lQ wr S lb lb size (rs.take k) v/\Below lb w1 wr) (fun _ _ i _=>rs.length - (intOf i).toNat)
 case atStart=>exact⟨0,_,by omega,rfl,hA3,hb3⟩
 case round=>
  obtain⟨k,v,hk,rfl,hA,hb⟩:=hrel
  have hkt:(rs.take k).length=k:=by rw[aC];omega
  obtain⟨hobj,hown⟩:=ay hA.obj hA.own
  rw[hkt] at hown
  obtain⟨vo2,vc2,rfl,_,_,_,_⟩:=bn.form hown.cZ
  have hlbr:lb<wr.heap.size:=(ah.1 hobj).1
  have hvr:vb<wr.heap.size:=lV hvb1 hlbr
  have HA:=af hA;clear hA hkt
  by_cases hkl:k<rs.length
  ·have x1:(k:Int)<(rs.length:Int):=by omega
   have z1:¬cp=4+3*k:=by omega
   have z2:((4:Int)+3*(k:Int))<=512:=by omega
   have z3:((4:Int)+3*(k:Int))<=(cp:Int):=by omega
   have z4:((4:Int)+3*(k:Int)).toNat=4+3*k:=by omega
   clear D3'
   go_upto_region 18 with (fail)
   obtain⟨f,hf⟩:∃f,f=rs[k].1:=⟨_,rfl⟩
   obtain⟨n,hn⟩:∃n,n=rs[k].2:=⟨_,rfl⟩
   have hrk:=HH.out.ok rs[k] (bG hkl)
   rw[<-hf,<-hn] at hrk
   obtain⟨j0,j1,j2⟩:=IE rs k hkl
   obtain⟨a1,ha1⟩:∃a:Nat,a=f%256:=⟨_,rfl⟩
   obtain⟨a2,ha2⟩:∃a:Nat,a=f/256:=⟨_,rfl⟩
   have v1:((UInt8.ofNat rs[k].1).toNat:Int)=(a1:Int):=by rw[dY,<-hf,ha1]
   have v2:((UInt8.ofNat (rs[k].1/256)).toNat:Int)=(a2:Int):=by rw[dY,<-hf,ha2];omega
   have v3:((UInt8.ofNat rs[k].2).toNat:Int)=(n:Int):=by rw[dY,<-hn];omega
   have HR:=af (show ∀W,Below lb w1 W->W.cell? ⟨vb,vo+(4+3*k),none⟩=some (.int .u8 a1)/\W.cell? ⟨vb,vo+(4+3*k)+1,none⟩=some (.int .u8 a2)/\W.cell? ⟨vb,vo+(4+3*k)+2,none⟩=some (.int .u8 n) from fun W hW=>by
    have e0:=HCELL.out W hW (4+3*k) _ (Eb size rs rest _ _ _ j0 rfl)
    have e1:=HCELL.out W hW (4+3*k+1) _ (Eb size rs rest _ _ _ j1 (by omega))
    have e2:=HCELL.out W hW (4+3*k+2) _ (Eb size rs rest _ _ _ j2 (by omega))
    rw[v1] at e0;rw[v2] at e1;rw[v3] at e2
    exact⟨e0,by rw[lY];exact e1,by rw[lY];exact e2⟩)
   have HF:=af (Ir a1 a2 f (by omega) (by omega) (by omega))
   have q9:IntKind.i64.wrap (n:Int)=(n:Int):=aM _ (by omega)
   have HRUN:=af (show iA (rs.take (k+1))=iA (rs.take k)++[.int .i64 f,.int .i64 n] by
    rw[aQ hkl,rW,hf,hn];rfl)
   have hcl1:wr.cell? ⟨lb,1,none⟩=some (.slice vo2 k vc2):=by simp[World.cell?,hobj]
   have hz5:0<512 - (4+3*k):=by omega
   have hz9:1<512 - (4+3*k):=by omega
   have hz10:2<512 - (4+3*k):=by omega
   have hz6:(0:Int)<((512 - (4+3*k):Nat):Int):=by omega
   have hz7:(1:Int)<((512 - (4+3*k):Nat):Int):=by omega
   have hz8:(2:Int)<((512 - (4+3*k):Nat):Int):=by omega
   clear hf hn v1 v2 v3 j0 j1 j2 ha1 ha2 z1 z2 z3 z4
   generalize 512 - (4+3*k)=M at*
   generalize cp - (4+3*k)=M2 at*
   refine aN (fun W=>Below lb w1 W/\W.cell? ⟨lb,1,none⟩=some (.slice vo2 k vc2)/\lb<W.heap.size/\vb<W.heap.size) (fun i=> !([20,21,24].contains i)) [0,1,2,3,4,5,6,7,8,9,10,11,12,13,14,15,16,17,18,19,20,21,22,23,24] rfl (by kernel_rfl) ⟨hb.drew,hcl1,hlbr,hvr⟩ ?_
   repeat ((refine bL (v:= ?_) rfl rfl (fun _ _ _ h=>h) rfl (fun W hW=> ?_) ?_);rotate_left;(focus ((try dsimp only at hW);obtain⟨r0,r1,r2,r3⟩:=hW;obtain⟨r4,r5,r6⟩:=HR.out W r0;clear r0;(go_simp;first|done|with_reducible rfl)));(try simp only[Act.put,ai,au,aj]))
   rw[HF.out]
   have hsubr:∀g,S g->g<wr.heap.size:=fun g hg=>ak (hsub g hg) (aI hlbw (ig hlbr))
   have hbA':Below lb wr (wr.alloc (.cells #[.int .i64 f,.int .i64 n] 319)).drew:=((aF wr _).mono (ig hlbr)).drew
   have hobA:(wr.alloc (.cells #[.int .i64 f,.int .i64 n] 319)).drew.heap[lb]? =_:=((aF wr (.cells #[.int .i64 f,.int .i64 n] 319)).block lb hlbr).trans hobj
   have hownA:=(hown.below (aF wr (.cells #[.int .i64 f,.int .i64 n] 319))).drew
   have hsrcA:=(mq (w:=wr) (S:=S) (B:=lb) (e:=319) (k:=2) [.int .i64 f,.int .i64 n] 1 1 rfl rfl (ax _) (by simp[maxLen]) (ig hlbr) hsubr).drew.cZ.src (P:=Tryz.prog) kM (by intro u hu;simp at hu;rcases hu with rfl|rfl<;>rfl)
   have hSA:∀g,S g->g<(wr.alloc (.cells #[.int .i64 f,.int .i64 n] 319)).drew.heap.size:=fun g hg=>ak (hsubr g hg) (aF wr (.cells #[.int .i64 f,.int .i64 n] 319)).size
   have hcA:(wr.alloc (.cells #[.int .i64 f,.int .i64 n] 319)).drew.cell? ⟨lb,1,none⟩=some (.slice vo2 k vc2):=by have:=hobA;simp only[World.cell?,this];rfl
   refine dA rfl rfl rfl ?_;intro K hK;go_simp
   refine hK.out _ _ ⟨hb.trans hbA',hcA,(ah.1 hobA).1,ak hvr hbA'.size⟩ ?_
   refine dA rfl rfl rfl ?_;intro K hK
   refine mE (.tmp 82) (.tmp 98) 269 269 rfl S lb 319 2 16 _ kM xw rfl (.slice vo2 k vc2) k _ rfl hownA _ 1 _ rfl hsrcA hSA (aI (ig hlbr) hbA'.size) (by unfold maxLen;omega) (by omega) ?_
   intro ao3 c3 w4 hown4 hk4 hb4 hd4
   have hob4:w4.heap[lb]? =_:=(hk4.block lb (ah.1 hobA).1 (hownA.ne hobA (by decide))).trans hobA
   have hPUT:=zP (rs':=rs.take (k+1)) hobA hownA (ax _) hsl hk4 hb4 (by rw[HRUN.out,aC,show min (k+1) rs.length=k+1 by omega];exact hown4)
   have HPUT:=af hPUT;clear hPUT
   refine hK.out _ _ ⟨(hb.trans hbA').trans hb4,by simp[World.cell?,hob4],(ah.1 hob4).1,ak (ak hvr hbA'.size) hb4.size⟩ ?_
   (try simp only[Act.put,ai,au,aj])
   repeat ((refine bL (v:= ?_) rfl rfl (fun _ _ _ h=>h) rfl (fun W hW=> ?_) ?_);rotate_left;(focus ((try dsimp only at hW);obtain⟨r0,r1,r2,r3⟩:=hW;clear r0;(go_simp;first|done|with_reducible rfl)));(try simp only[Act.put,ai,au,aj]))
   have g4:w4.cell? ⟨lb,1,none⟩=some (.slice vo2 k vc2):=by simp[World.cell?,hob4]
   have gf4:w4.frozen? ⟨lb,1,none⟩=false:=by simp[World.frozen?,hob4]
   have gl4:=(ah.1 hob4).1
   refine jf rfl rfl rfl (by kernel_rfl) ?_;intro K hK;go_simp
   refine hK.out _ _ ?_
   refine bO ?_
   clear hz5 hz6 hz7 hz8 hz9 hz10 q9
   go_wp2_with fail
   go_roundw
   case rel=>exact⟨k+1,_,by omega,by go_num,HPUT.out.1,(hb.trans hbA').trans HPUT.out.2⟩
   case measure=>simp[intOf];omega
  ·obtain rfl:k=rs.length:=by omega
   have hAr:=HA.out
   rw[dF] at hAr
   have hlen:=HH.out.len
   have hsubr:∀g,S g->g<wr.heap.size:=fun g hg=>ak (hsub g hg) (aI hlbw (ig hlbr))
   have HBK:=af (Ej lb size rs _ lb S wr.drew (show lQ wr.drew S lb lb size rs (.slice vo2 rs.length vc2) from⟨hAr.obj,hAr.own.drew,hAr.lo,hAr.ns⟩) hsubr HH.out.ok (by omega))
   obtain⟨s5,hs5⟩:∃s:Nat,s=size+512:=⟨_,rfl⟩
   obtain⟨s6,hs6⟩:∃s:Nat,s=size+511:=⟨_,rfl⟩
   obtain⟨nb,hnb⟩:∃s:Nat,s=su size:=⟨_,rfl⟩
   have q1:IntKind.i64.wrap ((size:Int)+512)=(s5:Int):=by rw[aM _ (by omega)];omega
   have q2:IntKind.i64.wrap ((s5:Int) - 1)=(s6:Int):=by rw[aM _ (by omega)];omega
   have q3:IntKind.i64.wrap ((s6:Int)/512)=(nb:Int):=by
    have e:(s6:Int)/512=(nb:Int):=by rw[hnb];unfold su;omega
    rw[e];exact aM _ (by unfold su at hnb;omega)
   have z0:((size:Int)==0)=false:=by simp;omega
   have z1:¬size=0:=by omega
   rw[<-hnb] at hlen
   have HLEN:=af hlen
   have HCB:=af (show ∀W,Below wr.heap.size wr W->W.cell? ⟨lb,0,none⟩=some (.int .i64 size)/\lb<W.heap.size from fun W hW=>by
    have:=(hW.block lb hlbr).trans hobj
    exact⟨by simp[World.cell?,this],ak hlbr hW.size⟩)
   have HAR:=af hAr
   clear hAr D3' hs5 hs6 hnb hlen hown hkl
   go_upto_region 20 with (fail)
   refine aN (fun W=>Below wr.heap.size wr W) (fun i=> !([7].contains i)) [0,1,2,3,4,5,6,9,10,11,12,13,14,15,7,8,16,17] rfl (by kernel_rfl) ((aO _ wr).drew) ?_
   repeat ((refine bL (v:= ?_) rfl rfl (fun _ _ _ h=>h) rfl (fun W hW=> ?_) ?_);rotate_left;(focus ((try dsimp only at hW);obtain⟨r0,r1⟩:=HCB.out W hW;(go_simp;first|done|with_reducible rfl)));(try simp only[Act.put,ai,au,aj]))
   refine dA rfl rfl rfl ?_;intro K hK;go_simp
   refine HBK.out.mono ?_;rintro e w5 ⟨bv,rfl,hown5,hb5⟩
   obtain⟨xo,xc,rfl,_,_,_,_⟩:=bn.form hown5.cZ
   refine hK.out _ _ ((aO _ wr).drew.trans hb5) ?_
   (try simp only[Act.put,ai,au,aj])
   have z3:=HLEN.out
   repeat ((refine bL (v:= ?_) rfl rfl (fun _ _ _ h=>h) rfl (fun W hW=> ?_) ?_);rotate_left;(focus ((try dsimp only at hW);obtain⟨r0,r1⟩:=HCB.out W hW;(try rw[z3]);(go_simp;first|done|with_reducible rfl)));(try simp only[Act.put,ai,au,aj]))
   refine bO ?_
   go_wp2_with fail
   go_ret2
   have hb05:Below wr.heap.size wr w5:=(aO _ wr).drew.trans hb5
   have hbA5:Below lb w1 w5:=hb.trans (hb05.mono (ig hlbr))
   have hA5:=HAR.out.below hb05
   refine⟨lb,_,rfl,⟨hA5.obj,hA5.own.base hlbw,hlbw,hsl⟩,?_⟩
   exact hb1.trans (hbA5.mono hlbw)
def jL (head:Nat)(rs:List (Nat×Nat)):List Int:=(eU rs++[head]).map fun (b:Nat)=>(b:Int)
theorem Py (mp:VS)(σ:bY)(S:Nat->Prop)(w:World)(head size:Nat)(rs:List (Nat×Nat))(h:Inv σ S mp w)(hh:uj σ head size rs):
  Calls Tryz.prog 204 #[.iface 123 mp.agg,.int .i64 head] w fun e w'=>∃v,e= .returned (.tuple #[v,.int .i64 0])/\aP w' S w.heap.size 3 1 v (wI (jL head rs)).length ((wI (jL head rs)).map (.int .i64))/\Below w.heap.size w w':=by
 have hsub:=h.sub
 have hlo:=hh.lo
 obtain⟨hrl,hbl⟩:=hh.runs
 have HL:=af (Qd mp σ S w head size rs h hh)
 have x2:((head:Int)==0)=false:=by simp;omega
 have x3:¬head=0:=by omega
 have HOK:=af hh.ok
 have HE:=af (show ints (eU rs)++[.int .i64 (head:Int)]=(jL head rs).map (.int .i64) by simp[ints,jL])
 have HLN:=af (show (jL head rs).length=(eU rs).length+1 by simp[jL])
 clear h hh
 go_enter Tryz.func204,Tryz.ntmps204
 go_wp2_with (first
  |(go_at_call 249;go_must (refine HL.out.mono ?_;rintro e w1 ⟨lb,v,rfl,hA,hb1⟩;refine Stop.of ?_)))
 refine Stop.on ?_
 have hS1:∀g,S g->g<w1.heap.size:=fun g hg=>ak (hsub g hg) hb1.size
 have HBK:=af (Ej lb size rs v w.heap.size S w1 hA hS1 HOK.out (by omega))
 go_wp2_with (first
  |(go_at_call 250;go_must (refine HBK.out.mono ?_;rintro e w2 ⟨bv,rfl,hown2,hb2⟩;refine Stop.of ?_)))
 refine Stop.on ?_
 obtain⟨xo,xc,rfl,_,_,_,_⟩:=bn.form hown2.cZ
 have hS2:∀g,S g->g<w2.heap.size:=fun g hg=>ak (hS1 g hg) hb2.size
 have hown2':=hown2.base (B:=w.heap.size) hb1.size
 have hbg:w.heap.size<=w2.heap.size:=aI hb1.size hb2.size
 go_wp2_with (first
  |(at_builtin;go_must ((refine dB rfl (.tmp 23) (.tmp 25) 171 171 rfl S w.heap.size 3 1 8 _ aZ gU rfl (.slice xo (eU rs).length xc) _ _ rfl (hown2'.below (aF _ _)) _ 1 _ rfl (gY [.int .i64 (head:Int)] _ 1 1 1 (by simp) aZ rfl ?_) (fq hS2 _) ?_ ?_ ?_ ?_);(focus (simp[Value.oneCell']));(focus (simp only[aV];omega));(focus (unfold maxLen;omega));(focus omega);intro ao3 c3 w3 hown3 hk3 hb3 hd3;refine Stop.of ?_)))
 refine Stop.on ?_
 rw[HE.out] at hown3
 have hown3':aP w3 S w.heap.size 3 1 (.slice ao3 ((eU rs).length+1) c3) (jL head rs).length ((jL head rs).map (.int .i64)):=by rw[HLN.out];exact hown3
 have hbA:Below w.heap.size w w3:=((hb1.trans (hb2.mono hb1.size)).trans (aF w2 _|>.mono hbg)).trans hb3
 have HSO:=af (Ms (.slice ao3 ((eU rs).length+1) c3) (jL head rs) w3 S w.heap.size hown3' (by rw[HLN.out];omega) hbA.size)
 go_wp2_with (first
  |(go_at_call 136;go_must (refine HSO.out.mono ?_;rintro e w4 ⟨rfl,ho4,hb4⟩;refine Stop.of ?_)))
 refine Stop.on ?_
 go_wp2_with fail
 go_ret2
 exact⟨_,rfl,ho4,hbA.trans hb4⟩
def bY.frees (σ:bY)(l:List Int):bY:=l.foldl bY.gone σ
theorem Bc (σ:bY)(l:List Int)(k:Nat)(h:k<l.length):σ.frees (l.take (k+1))=(σ.frees (l.take k)).gone l[k]:=by
 rw[aQ h]
 unfold bY.frees
 rw[List.foldl_append];rfl
theorem vQ:∀(l:List Int) (σ:bY) (x:Int),(∀y∈l,0<=y)->x∉l->(σ.frees l).hasB x=σ.hasB x
 |[],_,_,_,_=>rfl
 |y::l,σ,x,h,hx=>by
  have:=vQ l (σ.gone y) x (fun z hz=>h z (aU _ hz)) (fun e=>hx (aU _ e))
  show ((σ.gone y).frees l).hasB x=_
  rw[this]
  exact bY.yD (h y (aX ..)) (fun e=>hx (by rw[e];exact aX ..))
theorem yK:∀(l:List Int) (σ:bY),(∀x∈l,σ.hasB x=true)->l.Nodup->lS σ (σ.frees l) l []
 |[],σ,_,_=>lS.refl (by simp)
 |y::l,σ,h,hn=>by
  obtain⟨n1,n2⟩:=nO.1 hn
  have c1:=uN (h y (aX ..))
  have c1':=c1.left (rs:=l) hn (fun x hx=>h x (aU _ hx))
  have h2:∀x∈l,(σ.gone y).hasB x=true:=fun x hx=>(c1'.new x hx).1
  exact c1'.trans (yK l (σ.gone y) h2 n2)
structure nV (σ:bY)(head:Nat)(t:List UInt8)(rs:List (Nat×Nat)):Prop where
 hd:uj σ head t.length rs
 nd:(jL head rs).Nodup
 blk:∀i (h:i<(eU rs).length),σ.hasB ((eU rs)[i]:Nat)=true/\2<=(eU rs)[i]/\σ.mem ((eU rs)[i]:Nat)=pad (chunk t i)
theorem nV.all {σ:bY}{head:Nat}{t:List UInt8}{rs:List (Nat×Nat)}(h:nV σ head t rs):∀x∈jL head rs,σ.hasB x=true/\2<=x:=by
 intro x hx
 unfold jL at hx
 obtain⟨b,hb,rfl⟩:=d9.1 hx
 rcases bR.1 hb with hb|hb
 ·obtain⟨i,hi,e⟩:=iM hb
  have:=h.blk i hi
  rw[e] at this
  exact⟨this.1,by have:=this.2.1;omega⟩
 ·rw[bK.1 hb]
  exact⟨h.hd.has,by have:=h.hd.lo;omega⟩
theorem SS (mp:VS)(σ:bY)(S:Nat->Prop)(w:World)(head:Nat)(t:List UInt8)(rs:List (Nat×Nat))(h:Inv σ S mp w)(hh:nV σ head t rs):
  Calls Tryz.prog 158 #[.iface 123 mp.agg,.int .i64 head] w fun e w'=>e= .returned (.int .i64 0)/\Inv (σ.frees (wI (jL head rs))) S mp w'/\Step S S w w':=by
 have hsub:=h.sub
 have HBK:=af (Py mp σ S w head t.length rs h hh.hd)
 have hall:=hh.all
 obtain⟨L,hL⟩:∃L,L=wI (jL head rs):=⟨_,rfl⟩
 have hnd:L.Nodup:=by rw[hL];exact(xU _ _).nodup_iff.2 hh.nd
 have hall':∀x∈L,σ.hasB x=true/\2<=x:=fun x hx=>hall x ((EQ x).1 (by rw[<-hL];exact hx))
 have hll:L.length<=97:=by
  rw[hL,wH]
  have:=hh.hd.runs.2
  simp[jL];omega
 rw[<-hL] at HBK ⊢
 have HALL:=af hall';have HND:=af hnd
 have HI:=af h
 have hm:∀w,(method 607 123 mp.agg "Free").run Tryz.prog w= .ok (382,.pointer (some ⟨mp.mp,0,none⟩)) w:=fun _=>by kernel_rfl
 clear h hh hall hall' hnd hL
 go_enter Tryz.func158,Tryz.ntmps158
 go_wp2_with (first
  |(go_at_call 204;go_must (refine HBK.out.mono ?_;rintro e w1 ⟨bv,rfl,hown1,hb1⟩;refine Stop.of ?_)))
 refine Stop.on ?_
 obtain⟨xo,xc,rfl,_,_,_,_⟩:=bn.form hown1.cZ
 have HOW:=af hown1
 have HB1:=af hb1
 clear hown1 hb1
 go_wp2_with fail
 go_loopw [8,9,18] (fun _ _ i wr=>∃k:Nat,k<=L.length/\i= .int .i64 k/\Inv (σ.frees (L.take k)) S mp wr/\Step S S w1 wr) (fun _ _ i _=>L.length - (intOf i).toNat)
 case atStart=>exact⟨0,by omega,rfl,by rw[gP];exact HI.out.below HB1.out,Step.refl _ _⟩
 case round=>
  obtain⟨k,hk,rfl,hIk,hsk⟩:=hrel
  by_cases hkl:k<L.length
  ·have y1:(k:Int)<(L.length:Int):=by omega
   have HT:=af (Bc σ L k hkl)
   have hx:=HALL.out L[k] (bG hkl)
   have hxn:L[k]∉L.take k:=fun e=>by
    obtain⟨i,hi,e2⟩:=iM e
    rw[aC] at hi
    rw[rZ] at e2
    have:=(RG HND.out).1 e2
    omega
   have hhas:(σ.frees (L.take k)).hasB L[k]=true:=by
    rw[vQ _ _ _ (fun y hy=>by have:=(HALL.out y (fo hy)).2;omega) hxn]
    exact hx.1
   have HFR:=af (qN mp (σ.frees (L.take k)) S wr L[k] hIk hx.2 hhas)
   obtain⟨pb,po,rfl,d1⟩:=jq.at (zs:=L) (HOW.out.step hsk).cZ rfl k hkl
   have hpb:=aH wr _ d1
   clear hx hxn hhas
   go_wp2_with (refine HFR.out.mono ?_;rintro e w2 ⟨rfl,hI2,hs2⟩)
   go_roundw
   case rel=>exact⟨k+1,by omega,by go_num,by rw[HT.out];exact hI2,hsk.trans hs2⟩
   case measure=>simp[intOf];omega
  ·obtain rfl:k=L.length:=by omega
   rw[dF] at hIk
   have y1:¬(L.length:Int)<(L.length:Int):=by omega
   go_wp2_with fail
   go_ret
   exact⟨rfl,hIk,(Step.of_below HB1.out).trans hsk⟩
end Go.Proofs.YtbfjgkafmlbpcaaGreatDoor
namespace Go.Proofs.YtbfjgkafmlbpcaaGreatDoor
open Go.RowKit Go.Shelf
def yM:Go.Shelf.Ren:=⟨fun x=>match x with|240=>168|276=>213|169=>85|n=>n,fun x=>match x with|0=>0|3=>3|4=>4|5=>5|9=>9|20=>20|37=>119|70=>142|72=>144|127=>230|164=>331|n=>n,fun n=>n⟩
theorem yL:Lays.n240 Tryz.prog yM where
 mixed:=by kernel_rfl
 f240:=Tryz.func168.trans (congrArg some (by kernel_rfl))
 f276:=Tryz.func213.trans (congrArg some (by kernel_rfl))
 t0:=oF
 a0:=BM
 z0:=xW
 v0:=p9
 t4:=oD
 a4:=Tryz.isAgg4
 z4:=Qk
 v4:=Dn
 t9:=dJ
 a9:=Tryz.isAgg9
 z9:=Qj
 v9:=Dm
 t20:=Tryz.underlying20
 a20:=Tryz.isAgg20
 z20:=Tryz.sizeOf20
 v20:=Tryz.zeroValue20
 t70:=Gz
 a70:=Tryz.isAgg142
 z70:=Tryz.sizeOf142
 v70:=Tryz.zeroValue142
 t72:=Tryz.underlying144
 a72:=Tryz.isAgg144
 z72:=Tryz.sizeOf144
 v72:=Tryz.zeroValue144
 t164:=vI
 a164:=Tryz.isAgg331
 z164:=Tryz.sizeOf331
 v164:=Tryz.zeroValue331
theorem Ag:Lays.n169 Tryz.prog yM where
 mixed:=by kernel_rfl
 f169:=Tryz.func85.trans (congrArg some (by kernel_rfl))
 t0:=oF
 a0:=BM
 z0:=xW
 v0:=p9
 t3:=gq
 a3:=Lu
 z3:=Et
 v3:=uX
 t9:=dJ
 a9:=Tryz.isAgg9
 z9:=Qj
 v9:=Dm
 t37:=bg
 a37:=Tryz.isAgg119
 z37:=Tryz.sizeOf119
 v37:=Tryz.zeroValue119
 t70:=Gz
 a70:=Tryz.isAgg142
 z70:=Tryz.sizeOf142
 v70:=Tryz.zeroValue142
 t72:=Tryz.underlying144
 a72:=Tryz.isAgg144
 z72:=Tryz.sizeOf144
 v72:=Tryz.zeroValue144
 t127:=Tryz.underlying230
 a127:=Tryz.isAgg230
 z127:=Tryz.sizeOf230
 v127:=Tryz.zeroValue230
theorem qP:Builder.Extra Tryz.prog yM where
 sizeBuilder:=by kernel_rfl
 liesBuilder:=by kernel_rfl
 t5:=jJ
 a5:=Tryz.isAgg5
 z5:=Tryz.sizeOf5
 v5:=RB
 infoByte:=by kernel_rfl
 cellsByte:=by kernel_rfl
 sizeByte:=by kernel_rfl
 neB5:=by decide
end Go.Proofs.YtbfjgkafmlbpcaaGreatDoor
namespace Go.Proofs.YtbfjgkafmlbpcaaGreatDoor
open Go.RowKit
structure ul (w:World)(S:Nat->Prop)(B b:Nat)(l:List UInt8):Prop where
 ns:¬S b
 at_:∃p v,(p= .pointer none\/p= .pointer (some ⟨b,0,none⟩))/\w.heap[b]? =some (.cells #[p,v] 144 (0,0))/\aP w S B 5 1 v l.length (aD l)
theorem ul.below {w w':World}{S:Nat->Prop}{B b:Nat}{l:List UInt8}(h:ul w S B b l)(hb:Below w.heap.size w w'):ul w' S B b l:=by
 obtain⟨h2,p,v,h3,h4,h5⟩:=h
 exact⟨h2,p,v,h3,(hb.block b (ah.1 h4).1).trans h4,h5.below hb⟩
theorem ul.lt {w:World}{S:Nat->Prop}{B b:Nat}{l:List UInt8}(h:ul w S B b l):b<w.heap.size:=by
 obtain⟨_,p,v,_,h4,_⟩:=h
 exact(ah.1 h4).1
theorem Ld (B b:Nat)(l:List UInt8)(S:Nat->Prop)(w:World)(h:ul w S B b l):
  Calls Tryz.prog 168 #[.pointer (some ⟨b,0,none⟩)] w fun e w'=>e= .returned (.tuple #[])/\(∃v,w'.heap[b]? =some (.cells #[.pointer (some ⟨b,0,none⟩),v] 144 (0,0))/\aP w' S B 5 1 v l.length (aD l))/\Keep (· =b) w w':=by
 obtain⟨h2,p,v,h3,h4,h5⟩:=h
 rcases h3 with rfl|rfl
 ·refine(Any.Builder_copyCheck_fresh yL qP.toX72 b w (by simp[World.cell?,h4]) (by simp[World.shape?,h4];rfl) (by simp[World.frozen?,h4])).mono ?_
  rintro e w' ⟨rfl,rfl⟩
  have hk:Keep (· =b) w (w.setCell ⟨b,0,none⟩ (.pointer (some ⟨b,0,none⟩))):=(Keep.refl (· =b) _).setCell (p:=⟨b,0,none⟩) (.inr rfl) _
  refine⟨rfl,⟨v,by simp[World.setCell,aS,h4],h5.keep fun g hg hl hs=>⟨hk.block g hl (fun e=>h5.ne h4 (by decide) (by rw[hg,e])),hs⟩⟩,hk⟩
 ·refine(Any.Builder_copyCheck_used yL qP.toX72 b w (by simp[World.cell?,h4])).mono ?_
  rintro e w' ⟨rfl,rfl⟩
  exact⟨rfl,⟨v,h4,h5⟩,Keep.refl _ _⟩
theorem Lc (B b:Nat)(l x:List UInt8)(xv:Value)(S:Nat->Prop)(w:World)(h:ul w S B b l)(hB:B<=w.heap.size)(hS:∀g,S g->g<w.heap.size)(hx:bn w gJ 1 xv x.length (aD x))(hxb:∀g,xv.ownBlock=some g->g≠b)(hl:l.length<=1000000)(hxl:x.length<=1000000):
  Calls Tryz.prog 251 #[.pointer (some ⟨b,0,none⟩),xv] w fun e w'=>e= .returned (.tuple #[.int .i64 x.length,.nilIface])/\ul w' S B b (l++x)/\Keep (fun g=>g=b\/B<=g) w w':=by
 have HC:=af (Ld B b l S w h)
 have hns:=h.ns
 obtain⟨xo,xc,rfl,_,_,_,_⟩:=bn.form hx
 have HX:=af hx
 have HLX:=af (show aD l++aD x=aD (l++x) from(gI l x).symm)
 clear h hx
 go_enter Tryz.func251,Tryz.ntmps251
 go_wp2_with (first
  |(go_at_call 168;go_must (refine HC.out.mono ?_;rintro e w1 ⟨rfl,⟨v,hobj,hown⟩,hk1⟩;refine Stop.of ?_)))
 refine Stop.on ?_
 obtain⟨ao,c,rfl,_,_,_,_⟩:=bn.form hown.cZ
 have hsrc:=(bn.keep (S':=gJ) HX.out (fun g hg hl _=>⟨hk1.block g hl (fun e=>hxb g hg e),id⟩)).src (P:=Tryz.prog) bg (gQ x)
 have hc1:w1.cell? ⟨b,1,none⟩=some (.slice ao l.length c):=by simp[World.cell?,hobj]
 have hlt:=(ah.1 hobj).1
 have hS1:∀g,S g->g<w1.heap.size:=fun g hg=>ak (hS g hg) hk1.size
 have hB1:=aI hB hk1.size
 go_wp2_with (first
  |(at_builtin;go_must ((refine dB rfl (.tmp 12) (.tmp 13) 119 119 rfl S B 5 1 1 (.int .u8 0) bg jH rfl (.slice ao l.length c) _ _ rfl hown (.slice xo x.length xc) _ _ rfl hsrc hS1 ?_ ?_ ?_ ?_);(focus (exact hB1));(focus (unfold maxLen;omega));(focus omega);intro ao3 c3 w3 hown3 hk3 hb3 hd3;refine Stop.of ?_)))
 refine Stop.on ?_
 have hob3:w3.heap[b]? =_:=(hk3.block b hlt (hown.ne hobj (by decide))).trans hobj
 have g1:w3.cell? ⟨b,1,none⟩=some (.slice ao l.length c):=by simp[World.cell?,hob3]
 have gf:w3.frozen? ⟨b,1,none⟩=false:=by simp[World.frozen?,hob3]
 have gl:=(ah.1 hob3).1
 have HO3:=af hown3
 clear hown3
 go_wp2_with fail
 go_ret2
 have hk5:Keep (· =b) w3 (w3.setCell ⟨b,1,none⟩ (.slice ao3 (l.length+x.length) c3)):=(Keep.refl (· =b) _).setCell (p:=⟨b,1,none⟩) (.inr rfl) _
 have ho:=HO3.out
 rw[HLX.out] at ho
 refine⟨rfl,⟨hns,_,_,.inr rfl,by simp[World.setCell,aS,hob3];rfl,?_⟩,?_⟩
 ·rw[av]
  exact ho.keep fun g hg hl hs=>⟨hk5.block g hl (fun e=>ho.ne hob3 (by decide) (by rw[hg,e])),hs⟩
 ·exact((hk1.mono (fun _ _ e=> .inl e)).trans (hk3.mono (fun g _ e=> .inr (hown.lo g e))) (fun _ _ e=>e)).trans (hk5.mono (fun _ _ e=> .inl e)) (fun _ _ e=>e)
theorem I4 (B b:Nat)(l:List UInt8)(S:Nat->Prop)(w:World)(h:ul w S B b l):
  Calls Tryz.prog 85 #[.pointer (some ⟨b,0,none⟩)] w fun e w'=>e= .returned (.string ⟨l.toArray⟩)/\Below (min B b) w w':=by
 have hlt:=h.lt
 obtain⟨h2,p,v,h3,h4,h5⟩:=h
 have hne:=h5.ne h4 (by decide)
 have hcl:(Lib.byteCells l)=aD l:=rfl
 have h5':=h5.base (B:=min B b) (Nat.min_le_left _ _)
 have hA:Lib.BuilderAt 144 5 (min B b) b p (Lib.byteCells l) w:=⟨Nat.min_le_right _ _,v,h4,by rw[hcl,bH];exact h5'.1,hne⟩
 refine(Any.Builder_String_any Ag qP (min B b) b l w ?_ (by omega))
 rcases h3 with rfl|rfl
 ·exact .inl hA
 ·exact .inr hA
end Go.Proofs.YtbfjgkafmlbpcaaGreatDoor
namespace Go.Proofs.YtbfjgkafmlbpcaaGreatDoor
open Go.RowKit Go.Shelf
structure zI (w:World)(B b:Nat)(l:List UInt8):Prop where
 lo:B<=b
 at_:∃p v,(p= .pointer none\/p= .pointer (some ⟨b,0,none⟩))/\w.heap[b]? =some (.cells #[p,v] 146 (0,0))/\aP w gJ B 5 1 v l.length (aD l)
theorem Sq:liesAt Tryz.prog Tryz.prog.depth 146 (2/Tryz.prog.cellsOf 146) 0 144 1=true:=by kernel_rfl
theorem MK (B b:Nat)(l:List UInt8)(w:World)(h:zI w B b l):
  Calls Tryz.prog 168 #[.pointer (some ⟨b,0,none⟩)] w fun e w'=>e= .returned (.tuple #[])/\(∃v,w'.heap[b]? =some (.cells #[.pointer (some ⟨b,0,none⟩),v] 146 (0,0))/\aP w' gJ B 5 1 v l.length (aD l))/\Keep (· =b) w w':=by
 obtain⟨h2,p,v,h3,h4,h5⟩:=h
 rcases h3 with rfl|rfl
 ·obtain⟨j,hj,hjs⟩:=Option.map_eq_some_iff.1 qP.sizeBuilder
  have c0:w.cell? ⟨b,0,none⟩=some (.pointer none):=by simp[World.cell?,h4]
  have hsh:w.shape? b=some (146,2):=by simp[World.shape?,h4]
  have f0:w.frozen? ⟨b,0,none⟩=false:=by simp[World.frozen?,h4]
  have lt:=(ah.1 h4).1
  go_enter Tryz.func168,Tryz.ntmps168
  go_wp2
  rw[Lib.run_to_unsafe w ⟨b,0,none⟩ Gz vI hj (by rw[hjs];decide) hsh (Nat.zero_lt_succ 1)]
  simp only[Result.andThen]
  rw[Oper.upon_value]
  go_wp2
  rw[qF Tryz.func213 (by kernel_rfl) (by kernel_rfl) (by kernel_rfl) (e:=Extern.AbiNoEscape.same) (by kernel_rfl)]
  rw[Lib.run_noEscape]
  simp only[Result.andThen]
  rw[Oper.upon_value]
  go_wp2
  rw[Lib.run_from_unsafe w ⟨b,0,none⟩ vI Gz hj hsh Sq]
  simp only[Result.andThen]
  rw[Oper.upon_value]
  go_wp2
  go_end0
  have hk:Keep (· =b) w (w.setCell ⟨b,0,none⟩ (.pointer (some ⟨b,0,none⟩))):=(Keep.refl (· =b) _).setCell (p:=⟨b,0,none⟩) (.inr rfl) _
  exact⟨rfl,⟨v,by simp[World.setCell,aS,h4],h5.keep fun g hg hl hs=>⟨hk.block g hl (fun e=>h5.ne h4 (by decide) (by rw[hg,e])),hs⟩⟩,hk⟩
 ·refine(Any.Builder_copyCheck_used yL qP.toX72 b w (by simp[World.cell?,h4])).mono ?_
  rintro e w' ⟨rfl,rfl⟩
  exact⟨rfl,⟨v,h4,h5⟩,Keep.refl _ _⟩
theorem QL {B b n:Nat}{w1 w3:World}{ao:Option Addr}{c:Nat}{v:Value}{l:List UInt8}(hlo:B<=b)(hb:w3.heap[b]? =some (.cells #[.pointer (some ⟨b,0,none⟩),v] 146 (0,0)))(ho:aP w3 gJ B 5 1 (.slice ao n c) n (aD l))(hn:n=l.length)(hb3:Below B w1 w3):
  zI (w3.setCell ⟨b,1,none⟩ (.slice ao n c)) B b l/\Below B w1 (w3.setCell ⟨b,1,none⟩ (.slice ao n c)):=by
 subst hn
 have hk:Keep (· =b) w3 (w3.setCell ⟨b,1,none⟩ (.slice ao l.length c)):=(Keep.refl (· =b) _).setCell (p:=⟨b,1,none⟩) (.inr rfl) _
 exact⟨⟨hlo,_,_,.inr rfl,by simp[World.setCell,aS,hb],ho.keep fun g hg hl hs=>⟨hk.block g hl (fun e=>ho.ne hb (by decide) (by rw[hg,e])),hs⟩⟩,hb3.setCell (p:=⟨b,1,none⟩) hlo _⟩
theorem OT (B b:Nat)(l:List UInt8)(c:Int)(w:World)(h:zI w B b l)(hB:B<=w.heap.size)(hl:l.length<=1000000)(hc:0<=c/\c<=255):
  Calls Tryz.prog 117 #[.pointer (some ⟨b,0,none⟩),.int .u8 c] w fun e w'=>e= .returned .nilIface/\zI w' B b (l++[UInt8.ofNat c.toNat])/\Below B w w':=by
 have HC:=af (MK B b l w h)
 have hlo:=h.lo
 clear h
 go_enter Tryz.func117,Tryz.ntmps117
 go_wp2_with (first
  |(go_at_call 168;go_must (refine HC.out.mono ?_;rintro e w1 ⟨rfl,⟨v,hobj,hown⟩,hk1⟩;refine Stop.of ?_)))
 refine Stop.on ?_
 obtain⟨ao,cc,rfl,_,_,_,_⟩:=bn.form hown.cZ
 have hbw1:Below B w w1:=hk1.fP hB (fun g hg e=>by have e:g=b:=e;omega)
 have hB1:=aI hB hk1.size
 have c1:w1.cell? ⟨b,1,none⟩=some (.slice ao l.length cc):=by simp[World.cell?,hobj]
 have lt:=(ah.1 hobj).1
 go_wp2_with (first
  |(at_builtin;go_must ((refine dB rfl (.tmp 11) (.tmp 13) 119 119 rfl gJ B 5 1 1 (.int .u8 0) bg jH rfl (.slice ao l.length cc) _ _ rfl (hown.below (aF _ _)) _ 1 _ rfl (gY [_] _ 1 1 1 (by simp) bg rfl ?_) (fun _ h=>h.elim) ?_ ?_ ?_ ?_);(focus (simp[Value.oneCell']));(focus (simp only[aV];omega));(focus (unfold maxLen;omega));(focus omega);intro ao3 c3 w3 hown3 hk3 hb3 hd3;refine Stop.of ?_)))
 refine Stop.on ?_
 have hob3:=(hk3.block b (by simp;omega) (fun e=>by
  have:=hown.ne hobj (by decide)
  exact this e)).trans ((aF w1 _).block b lt|>.trans hobj)
 have d1:w3.cell? ⟨b,1,none⟩=some (.slice ao l.length cc):=by simp[World.cell?,hob3]
 have df:w3.frozen? ⟨b,1,none⟩=false:=by simp[World.frozen?,hob3]
 have dl:=(ah.1 hob3).1
 have hcc:aD l++[Value.int .u8 c]=aD (l++[UInt8.ofNat c.toNat]):=by
  rw[gI]
  congr 1
  simp[aD]
  omega
 rw[hcc] at hown3
 have HE:=af (QL (w1:=w) hlo hob3 hown3 (by simp) ((hbw1.trans ((aF w1 _).mono hB1)).trans hb3))
 clear hown3 hcc
 go_wp2_with fail
 go_ret
 exact⟨rfl,HE.out⟩
theorem OQ (l:List UInt8)(v:Int)(k:Nat)(hk:k<8):l++(ku v).take k++[UInt8.ofNat (v/(256^k:Nat)%256).toNat]=l++(ku v).take (k+1):=by
 rw[aL,aQ (by rw[gD];exact hk)]
 congr 2
 simp[ku]
theorem QO (v:Int)(k:Nat)(hk:k<8):v/2^(8*(k:Int)).toNat=v/((256^k:Nat):Int):=by
 have h:k=0\/k=1\/k=2\/k=3\/k=4\/k=5\/k=6\/k=7:=by omega
 rcases h with rfl|rfl|rfl|rfl|rfl|rfl|rfl|rfl<;>rfl
theorem Ia (B b:Nat)(l:List UInt8)(v:Int)(w:World)(h:zI w B b l)(hB:B<=w.heap.size)(hl:l.length<=900000):
  Calls Tryz.prog 73 #[.pointer (some ⟨b,0,none⟩),.int .i64 v] w fun e w'=>e= .returned (.pointer (some ⟨b,0,none⟩))/\zI w' B b (l++ku v)/\Below B w w':=by
 have H:=af h
 clear h
 go_enter Tryz.func73,Tryz.ntmps73
 go_upto_region 2 with fail
 go_loopw [5,6] (fun _ i wr=>∃k:Nat,k<=8/\i= .int .i64 k/\zI wr B b (l++(ku v).take k)/\Below B w wr) (fun _ i _=>8 - (intOf i).toNat)
 case atStart=>exact⟨0,by omega,rfl,by rw[gP,dW];exact H.out,aO _ _⟩
 case round=>
  obtain⟨k,hk,rfl,hP,hbw⟩:=hrel
  have HP:=af (ay hP hbw)
  clear hP hbw
  by_cases hk8:k<8
  ·have hkl:(k:Int)<8:=by omega
   have hlen:(l++(ku v).take k).length<=1000000:=by rw[av,aC];omega
   have hwd:zI wr.drew B b (l++(ku v).take k):=⟨HP.out.1.lo,HP.out.1.at_⟩
   have hBr:B<=wr.drew.heap.size:=aI hB HP.out.2.size
   have hc:=OT B b (l++(ku v).take k) (v/(256^k:Nat)%256) wr.drew hwd hBr hlen ⟨Int.emod_nonneg _ (by decide),by have:=Ov (v/(256^k:Nat)) (show (0:Int)<256 by decide);omega⟩
   rw[OQ l v k hk8] at hc
   have HC:=af hc
   clear hc hwd hlen hBr
   have hm:IntKind.i64.wrap (8*(k:Int))=8*(k:Int):=by rw[fU];omega
   have he0:IntKind.u8.wrap (v/2^(8*(k:Int)).toNat)=v/((256^k:Nat):Int)%256:=by rw[<-QO v k hk8,yQ]
   obtain⟨q,hq⟩:∃q,Hid (v/((256^k:Nat):Int)=q):=⟨_,af rfl⟩
   rw[hq.out] at he0 HC
   have he:=af he0
   clear he0
   have hk0:=hk8
   clear hk8
   go_wp2_with fail
   refine aN (fun W=>W=wr.drew) (fun i=> !([8].contains i)) [0,1,2,3,4,5,6,7,8] rfl (by kernel_rfl) rfl ?_
   repeat ((refine bL (v:= ?_) rfl rfl (fun _ _ _ h=>h) rfl (fun W hW=> ?_) ?_);rotate_left;(focus ((try dsimp only at hW);subst hW;(go_simp;first|done|with_reducible rfl)));(try simp only[Act.put,ai,au,aj]))
   refine jf rfl rfl rfl (by kernel_rfl) ?_;intro K hK;go_simp
   rw[he.out]
   refine HC.out.mono ?_;rintro e w4 ⟨rfl,hP4,hb4⟩
   refine hK.out _ _ ?_
   refine bO ?_
   have HP4:=af (ay hP4 (HP.out.2.trans ((aO B wr).drew.trans hb4)))
   clear hP4 hb4 hm
   go_wp2_with fail
   go_roundw
   case rel=>exact⟨k+1,by omega,by go_num,HP4.out.1,HP4.out.2⟩
   case measure=>simp[intOf];omega
  ·obtain rfl:k=8:=by omega
   go_wp2_with fail
   go_ret
   have e:(ku v).take 8=ku v:=aG (by rw[gD];exact ax 8)
   rw[e] at HP
   exact⟨rfl,HP.out⟩
theorem Km (B b:Nat)(l:List UInt8)(w:World)(h:zI w B b l)(h0:l≠[]):
  Calls Tryz.prog 85 #[.pointer (some ⟨b,0,none⟩)] w fun e w'=>e= .returned (.string ⟨l.toArray⟩)/\Below B w w':=by
 have L:=Ag
 have X:=qP
 obtain⟨hlo,p,v,_,hbk,hO⟩:=h
 have hown:=hO.1
 have hl0:l.length≠0:=by simpa using h0
 obtain⟨g,cap,cur,rfl,hbg,hg,hnc,hcm,hcs,htake⟩:∃g cap cur,v= .slice (some ⟨g,0,none⟩) l.length cap/\B<=g/\w.heap[g]? =some (.cells cur (yM.t 5) (0,0))/\l.length<=cap/\cap<=maxLen/\cur.size=cap*1/\cur.toList.take (l.length*1)=Lib.byteCells l:=by
  rcases hown.2 with ⟨_,hz⟩|⟨g,cap,cur,hv,r⟩
  ·exact absurd hz hl0
  ·exact⟨g,cap,cur,hv,r⟩
 have c1:w.drew.cell? ⟨b,1,none⟩=some (.slice (some ⟨g,0,none⟩) l.length cap):=by
  have:w.drew.heap[b]? =some (.cells #[p,.slice (some ⟨g,0,none⟩) l.length cap] 146 (0,0)):=hbk
  rw[Lib.cell_of_heap this];rfl
 have hSD:(Builtin.unsafeSliceData_ #[119] 230 #[.slice (some ⟨g,0,none⟩) l.length cap]).run Tryz.prog w.drew= .ok (.pointer (some ⟨g,0,none⟩)) w.drew:=
  Lib.run_unsafeSliceData_row _ _ _ _ _ _ (by omega)
 have hUS:(Builtin.unsafeString_ #[230,3] 9 #[.pointer (some ⟨g,0,none⟩),.int .i64 l.length]).run Tryz.prog w.drew= .ok (.string ⟨l.toArray⟩) (w.drew.freeze ⟨g,0,none⟩ l.length):=by
  refine Lib.run_unsafeString_row w.drew 230 3 9 (yM.t 5) L.t127 X.cellsByte g cur.size (by have hg':w.drew.heap[g]? =some (.cells cur (yM.t 5) (0,0)):=hg;simp[World.shape?,hg']) l h0 (by omega) (by unfold maxLen at hcm;omega) ?_
  intro j x hx
  have:=hown.cells (g:=g) rfl j (.int .u8 x.toNat) (by simp[aD,hx])
  exact this
 clear hO hown
 have mixed:=L.mixed
 go_enter Tryz.func85,Tryz.ntmps85
 go_wp2
 go_region_o
 all_goals (go_wp2;go_ret;exact⟨rfl,Lib.below_freeze (Below.drew (aO B w)) (p:=⟨g,0,none⟩) hbg _⟩)
theorem Jm (B b:Nat)(l:List UInt8)(w:World)(h:zI w B b l)(h0:l≠[]):
  Calls Tryz.prog 74 #[.pointer (some ⟨b,0,none⟩)] w fun e w'=>e= .returned (.string ⟨l.toArray⟩)/\Below B w w':=by
 have HS:=af (Km B b l w h h0)
 clear h
 go_enter Tryz.func74,Tryz.ntmps74
 go_wp2_with (first
  |(go_at_call 85;go_must (refine HS.out.mono ?_;rintro e w1 ⟨rfl,hb1⟩)))
 go_ret
 exact⟨rfl,hb1⟩
end Go.Proofs.YtbfjgkafmlbpcaaGreatDoor
namespace Go.Proofs.YtbfjgkafmlbpcaaGreatDoor
open Go.RowKit
def je (w:World)(S:Nat->Prop)(k:Nat)(v:Value)(n:Nat)(xs:List Value):Prop:=bn w S k v n xs\/(n=0/\xs=[]/\∃ao,v= .slice (some ao) 0 0)
def nG (w:World)(S:Nat->Prop)(v:Value)(ss:List ByteArray):Prop:=je w S 1 v ss.length (ss.map .string)
section
variable {w w':World} {S S':Nat->Prop} {k n:Nat} {v:Value} {xs:List Value}
theorem aP.O8 {B e:Nat}(h:aP w S B e k v n xs):je w S k v n xs:= .inl h.cZ
theorem Row.O8 {e g off:Nat}{cur:List Value}(h:Row w g e cur)(n c:Nat)(hl:off+n*k<=cur.length)(hS:¬S g)(hn:n<=c)(hc:c<=maxLen):je w S k (.slice (some ⟨g,off,none⟩) n c) n ((cur.drop off).take (n*k)):= .inl (h.cZ n c hl hS hn hc)
theorem je.keep (h:je w S k v n xs)(hb:∀g,v.ownBlock=some g->g<w.heap.size->¬S g->w'.heap[g]? =w.heap[g]?/\¬S' g):je w' S' k v n xs:=h.imp (fun h=>h.keep hb) id
theorem je.below (h:je w S k v n xs)(hs:Below w.heap.size w w'):je w' S k v n xs:=h.imp (fun h=>h.below hs) id
theorem je.form (h:je w S k v n xs):∃ao c,v= .slice ao n c/\n<=c/\c<=9223372036854775807/\(n=0\/∃b o,ao=some ⟨b,o,none⟩)/\(ao=none->c=0):=by
 rcases h with h|⟨rfl,rfl,ao,rfl⟩
 ·exact h.form
 ·exact⟨some ao,0,rfl,ax _,by omega,.inl rfl,fun h=>by cases h⟩
theorem je.Bt (h:je w S 1 v n xs){ao:Option Addr}{n' c:Nat}(hv:v= .slice ao n' c)(i:Nat)(u:Value)(hu:xs[i]? =some u):∃b o,ao=some ⟨b,o,none⟩/\w.cell? ⟨b,o+i,none⟩=some u:=by
 rcases h with h|⟨rfl,rfl,ao,rfl⟩
 ·exact h.Bt hv i u hu
 ·simp at hu
theorem je.upto {c:Nat}{ao:Option Addr}(h:je w S k (.slice ao n c) n xs)(j:Nat)(hj:j<=n):je w S k (.slice ao j c) j (xs.take (j*k)):=by
 rcases h with h|⟨rfl,rfl,a,e⟩
 ·exact .inl (h.upto j hj)
 ·cases e
  obtain rfl:j=0:=by omega
  exact .inr ⟨rfl,by simp,a,rfl⟩
end
structure Uj (σ:Dk)(l:Lg)(at_:Nat)(B Z:List UInt8):Prop where
 len:Z.length=(B.length+511)/512*512
 beg:Z.take B.length=B
 sec:∀j,j<(B.length+511)/512->σ.get (l.ring (at_+j))=(Z.drop (j*512)).take 512
def CS (σ:Dk)(s:Nat->List UInt8):Prop:=∃ks:List Bool,s=(σ.Qa ks).sec
def qJ (s:Nat->List UInt8)(i:Nat)(x:List UInt8):Nat->List UInt8:=fun j=>if i=j then x else s j
def Al (σ:Dk)(P:(Nat->List UInt8)->Prop):Prop:=∀s,CS σ s->P s
theorem KH (ks:List Bool)(ws:List (Nat×List UInt8))(p:Nat×List UInt8):kept ks (ws++[p])=kept ks ws\/kept ks (ws++[p])=kept ks ws++[p]:=by
 have h:=CY ks (ws++[p]) ws.length (by simp)
 rw[aG (by simp),iQ] at h
 rw[h]
 split
 ·right;simp
 ·left;simp
theorem CX:∀ws:List (Nat×List UInt8),kept (List.replicate ws.length true) ws=ws
 |[]=>rfl
 |p::ws=>by
  rw[aY,List.replicate_succ]
  simp only[kept,iI]
  rw[CX ws]
theorem CS.get (σ:Dk):CS σ σ.get:=⟨List.replicate σ.waits.length true,by
 funext i
 show _=behind (kept _ σ.waits) i (σ.sec i)
 rw[CX];rfl⟩
theorem CS.none {σ:Dk}{s:Nat->List UInt8}(h:CS σ s)(hw:σ.waits=[]):s=σ.get:=by
 obtain⟨ks,rfl⟩:=h
 funext i
 show behind (kept ks σ.waits) i (σ.sec i)=behind σ.waits i (σ.sec i)
 rw[hw,FK]
theorem CS.same {σ τ:Dk}(h1:τ.sec=σ.sec)(h2:τ.waits=σ.waits){s:Nat->List UInt8}(h:CS τ s):CS σ s:=by
 obtain⟨ks,rfl⟩:=h
 exact⟨ks,by unfold Dk.Qa;rw[h1,h2]⟩
theorem CS.put {σ:Dk}{i:Nat}{l:List UInt8}{s:Nat->List UInt8}(h:CS (σ.put i l) s):CS σ s\/∃s',CS σ s'/\s=qJ s' i (pad l):=by
 obtain⟨ks,rfl⟩:=h
 rcases KH ks σ.waits (i,pad l) with e|e
 ·left
  refine⟨ks,?_⟩
  funext j
  show behind (kept ks (σ.waits++[(i,pad l)])) j (σ.sec j)=_
  rw[e];rfl
 ·right
  refine⟨_,⟨ks,rfl⟩,?_⟩
  funext j
  show behind (kept ks (σ.waits++[(i,pad l)])) j (σ.sec j)=_
  rw[e,nX]
  rfl
theorem Al.get {σ:Dk}{P:(Nat->List UInt8)->Prop}(h:Al σ P):P σ.get:=h _ (CS.get σ)
theorem Al.same {σ τ:Dk}{P:(Nat->List UInt8)->Prop}(h:Al σ P)(h1:τ.sec=σ.sec)(h2:τ.waits=σ.waits):Al τ P:=fun s hs=>h s (hs.same h1 h2)
theorem Al.eF {σ:Dk}{P:(Nat->List UInt8)->Prop}(h:Al σ P):Al σ.eF P:=h.same σ.dx.2.1 σ.dx.2.2
theorem Al.put {σ:Dk}{P:(Nat->List UInt8)->Prop}(h:Al σ P){i:Nat}{l:List UInt8}(hc:∀s,P s->P (qJ s i (pad l))):Al (σ.put i l) P:=fun s hs=>by
 rcases hs.put with e|⟨s',e,rfl⟩
 ·exact h s e
 ·exact hc _ (h _ e)
theorem Al.none {σ:Dk}{P:(Nat->List UInt8)->Prop}(h:P σ.get)(hw:σ.waits=[]):Al σ P:=fun s hs=>by
 rw[hs.none hw];exact h
theorem Dk.pR (σ:Dk)(i:Nat):σ.eF.get i=σ.get i:=by unfold Dk.get;rw[σ.dx.2.1,σ.dx.2.2]
theorem yc {σ:Dk}(hd:σ.dead=false){i:Nat}{l:List UInt8}(hi:i<σ.n)(hl:l.length<=512):
  (σ.write i l=(σ.eF.put i l,0)/\σ.eF.dead=false)\/(σ.write i l=(σ.eF,10)/\σ.eF.dead=true):=by
 unfold Dk.write
 rw[hd,if_neg (by simp),if_neg (by omega),if_neg (by omega)]
 cases h:σ.eF.dead with
 |true=>right;rw[if_pos rfl];exact⟨rfl,rfl⟩
 |false=>left;rw[if_neg (by simp)];exact⟨by simp,rfl⟩
theorem Af {σ:Dk}(hd:σ.dead=false):(σ.sync=(σ.eF.flush,0)/\σ.eF.dead=false)\/(σ.sync=(σ.eF,10)/\σ.eF.dead=true):=by
 unfold Dk.sync
 rw[hd,if_neg (by simp)]
 cases h:σ.eF.dead with
 |true=>right;rw[if_pos rfl];exact⟨rfl,rfl⟩
 |false=>left;rw[if_neg (by simp)];exact⟨rfl,rfl⟩
def Bw (s:Nat->List UInt8)(l:Lg)(at_:Nat)(B:List UInt8):Prop:=
 ∃Z:List UInt8,Z.length=(B.length+511)/512*512/\Z.take B.length=B/\∀j,j<(B.length+511)/512->s (l.ring (at_+j))=(Z.drop (j*512)).take 512
theorem Bw.congr {s s':Nat->List UInt8}{l l':Lg}{at_:Nat}{B:List UInt8}(h:Bw s l at_ B)(hf:l'.frm=l.frm)(hn:l'.n=l.n)(hs:∀j,j<(B.length+511)/512->s' (l.ring (at_+j))=s (l.ring (at_+j))):Bw s' l' at_ B:=by
 obtain⟨Z,h1,h2,h3⟩:=h
 refine⟨Z,h1,h2,fun j hj=> ?_⟩
 have e:l'.ring (at_+j)=l.ring (at_+j):=by unfold Lg.ring;rw[hf,hn]
 rw[e,hs j hj];exact h3 j hj
theorem EZ {l:Lg}{a b:Nat}(h1:a<b)(h2:b<a+(l.n - 1)):l.ring a≠l.ring b:=by
 unfold Lg.ring
 intro e
 have e:a%(l.n - 1)=b%(l.n - 1):=by omega
 obtain⟨m,hm⟩:∃m,m=l.n - 1:=⟨_,rfl⟩
 rw[<-hm] at h2 e
 have ha:=Nat.div_add_mod a m
 have hb:=Nat.div_add_mod b m
 have hq:a/m<=b/m:=JR (by omega)
 rcases Nat.lt_or_eq_of_le hq with hq|hq
 ·have:m*(a/m+1)<=m*(b/m):=mI m hq
  rw[Nat.mul_add,aT] at this
  omega
 ·rw[hq] at ha;omega
theorem sK (l:Lg)(a:Nat)(h:2<=l.n)(hf:l.frm=0):0<l.ring a/\l.ring a<l.n:=by
 unfold Lg.ring
 have:=nM a (by omega:0<l.n - 1)
 omega
theorem Ji {l:Lg}{a b k m:Nat}(hak:a+k<=b)(hbm:b+m<=a+(l.n - 1)){i j:Nat}(hi:i<k)(hj:j<m):l.ring (b+j)≠l.ring (a+i):=fun e=>EZ (l:=l) (a:=a+i) (b:=b+j) (by omega) (by omega) e.symm
def kE:Nat->List (List (List UInt8))->List (Nat×Nat)
 |_,[]=>[]
 |k,b::r=>(k,dz b)::kE (k+1) r
theorem tH:∀(r:List (List (List UInt8))) (k:Nat) (b:List (List UInt8)),kE k (r++[b])=kE k r++[(k+r.length,dz b)]
 |[],_,_=>rfl
 |c::r,k,b=>by
  rw[jQ,kE,tH r,kE,aY,jQ]
  congr 4
  omega
theorem ze:∀(r:List (List (List UInt8))) (k i:Nat),(kE k r).take i=kE k (r.take i)
 |[],_,i=>by simp[kE]
 |b::r,k,0=>by simp[kE]
 |b::r,k,i+1=>by rw[kE,gV,ze r,gV,kE]
def wide (r:List (List (List UInt8))):Nat:=(r.map dz).sum
theorem yS (a b:List (List (List UInt8))):wide (a++b)=wide a+wide b:=by simp[wide]
theorem Bf:∀(r:List (List (List UInt8))) (k:Nat),((kE k r).map (·.2)).sum=wide r
 |[],_=>rfl
 |b::r,k=>by rw[kE,cu,qA,Bf r];simp[wide]
theorem AP (b:List (List UInt8)):1<=dz b:=by unfold dz;omega
theorem AQ (k:Nat)(b:List (List UInt8)):((oI k b).length+511)/512=dz b:=by rw[Ci];rfl
theorem Ck (r:List (List (List UInt8)))(i:Nat):wide (r.take i)<=wide r:=by
 have h:wide r=wide (r.take i)+wide (r.drop i):=by rw[<-yS,bJ]
 omega
theorem JZ (r:List (List (List UInt8)))(i:Nat)(h:i<r.length):wide (r.take (i+1))=wide (r.take i)+dz r[i]:=by
 rw[aQ h,yS]
 simp[wide]
def nK (s:Nat->List UInt8)(l:Lg)(k:Nat)(bs:List (List (List UInt8))):Prop:=
 ∀i (h:i<bs.length),Bw s l (l.start+wide (bs.take i)) (oI (k+i) bs[i])
theorem nK.congr {s s':Nat->List UInt8}{l l':Lg}{k:Nat}{bs:List (List (List UInt8))}(h:nK s l k bs)(hf:l'.frm=l.frm)(hn:l'.n=l.n)(hst:l'.start=l.start)(hs:∀j,j<wide bs->s' (l.ring (l.start+j))=s (l.ring (l.start+j))):nK s' l' k bs:=fun i hi=>by
 rw[hst]
 refine(h i hi).congr hf hn fun j hj=> ?_
 rw[AQ] at hj
 have h1:=JZ bs i hi
 have h2:=Ck bs (i+1)
 rw[lY]
 exact hs _ (by omega)
theorem nK.set {s:Nat->List UInt8}{l:Lg}{k:Nat}{bs:List (List (List UInt8))}(h:nK s l k bs){i:Nat}{x:List UInt8}(hi:∀j,j<wide bs->i≠l.ring (l.start+j)):nK (qJ s i x) l k bs:=
 h.congr rfl rfl rfl fun j hj=>by unfold qJ;rw[if_neg (hi j hj)]
theorem nK.take {s:Nat->List UInt8}{l:Lg}{k:Nat}{bs:List (List (List UInt8))}(h:nK s l k bs)(m:Nat):nK s l k (bs.take m):=fun i hi=>by
 rw[aC] at hi
 have h1:=h i (by omega)
 rw[bZ,bq (by omega),rZ]
 exact h1
theorem nK.snoc {s:Nat->List UInt8}{l:Lg}{k:Nat}{bs:List (List (List UInt8))}(h:nK s l k bs){b:List (List UInt8)}(hb:Bw s l (l.start+wide bs) (oI (k+bs.length) b)):nK s l k (bs++[b]):=fun i hi=>by
 rw[av,eB] at hi
 by_cases h1:i<bs.length
 ·rw[bD (by omega),List.getElem_append_left h1]
  exact h i h1
 ·obtain rfl:i=bs.length:=by omega
  rw[iQ,List.getElem_append_right (by omega)]
  simpa using hb
structure S9 (s:Nat->List UInt8)(l:Lg)(bs:List (List (List UInt8))):Prop where
 ok:l.Ok
 dead:l.dead=false
 frm:l.frm=0
 mark:s 0=pad l.fQ
 wG:l.synced=l.last
 list:l.list=kE (l.last+1 - bs.length) bs
 len:bs.length<=l.last
 on:nK s l (l.last+1 - bs.length) bs
theorem rE {l:Lg}{bs:List (List (List UInt8))}(h:l.list=kE (l.last+1 - bs.length) bs)(hl:bs.length<=l.last):l.first=l.last+1 - bs.length:=by
 unfold Lg.first
 cases bs with
 |nil=>rw[h];rfl
 |cons b r=>rw[h];rfl
theorem Fw {l l':Lg}(h:l'.fields=l.fields):l'.fQ=l.fQ:=by
 unfold Lg.fields at h
 simp only[lT,and_true] at h
 obtain⟨h1,h2,h3,h4,h5⟩:=h
 unfold Lg.fQ Lg.pK
 rw[h1,h2,h3,h4,h5]
def findAll (ims:List Im)(b:Nat):Option (List UInt8):=ims.foldl (fun o im=>(im.find b).or o) none
theorem xH (ims:List Im)(im:Im)(b:Nat):findAll (ims++[im]) b=(im.find b).or (findAll ims b):=by
 unfold findAll
 rw[List.foldl_append];rfl
def qm (ims:List Im)(H:Nat->List UInt8)(b:Nat):List UInt8:=(findAll ims b).getD (H b)
theorem Im.Ok.over {m im:Im}{n:Nat}(h:m.Ok n)(hi:im.Ok n):(m.over im).Ok n:=by
 unfold Im.over
 refine⟨Im.yE _ _ _ h.rise,fun k hk=> ?_,fun k hk=> ?_⟩
 ·rcases (Im.xE _ _ _ _).1 hk with e|e
  ·exact h.hi k e
  ·exact hi.hi k e
 ·rw[Im.xG]
  split
  ·rename_i e;exact hi.img k e
  ·rename_i e
   exact h.img k (((Im.xE _ _ _ _).1 hk).resolve_right e)
structure Im.Tc (im:Im)(N:Nat):Prop where
 ok:im.Ok N
 lo:0<im.ks.length
 hi:im.ks.length<=1024
def iB (ims:List Im):List (List (List UInt8)):=ims.map Im.bW
def xQ (s:Nat->List UInt8)(L N k:Nat)(C:Nat->List UInt8):Prop:=
 ∃(l:Lg) (ims:List Im),S9 s l (iB ims)/\l.n=L/\l.last=k/\(∀im∈ims,im.Tc N)/\∀b,b<N->C b=qm ims (fun b=>s (L+b)) b
theorem xQ.congr {s:Nat->List UInt8}{L N k:Nat}{C C':Nat->List UInt8}(h:xQ s L N k C)(hc:∀b,b<N->C' b=C b):xQ s L N k C':=by
 obtain⟨l,ims,h1,h2,h3,h4,h5⟩:=h
 exact⟨l,ims,h1,h2,h3,h4,fun b hb=>(hc b hb).trans (h5 b hb)⟩
def Lg.wG (l:Lg)(m:Nat):Nat:=l.synced+m - l.last
structure Ph (l:Lg)(mark:List UInt8)(ims:List Im)(m L N:Nat)(H:Nat->List UInt8)(s:Nat->List UInt8):Prop where
 mark:s 0=pad mark
 on:nK s l (l.last+1 - ims.length) ((iB ims).take m)
 home:∀b,b<N->s (L+b)=H b
structure Rest (σ:Dk)(l:Lg)(p:Pg)(ims:List Im):Prop where
 lok:l.Ok
 pok:p.Ok σ l
 list:l.list=kE (l.last+1 - ims.length) (iB ims)
 len:ims.length<=l.last
 wG:l.last<=l.synced+ims.length
 bat:∀im∈ims,im.Tc (p.blocks σ)
 on:nK σ.get l (l.last+1 - ims.length) (iB ims)
 all:Al σ (Ph l l.fQ ims (l.wG ims.length) p.skip (p.blocks σ) (fun b=>σ.get (p.skip+b)))
 fresh:∀b,p.fresh.find b=findAll ims b
 cap:σ.waits.length<=l.used
 wt:l.synced=l.last->σ.waits=[]
theorem dD (ims:List Im):(iB ims).length=ims.length:=by simp[iB]
theorem zk (ims:List Im)(m:Nat):(iB ims).take m=iB (ims.take m):=by simp[iB,gG]
theorem Be:∀(r:List (List (List UInt8))) (k:Nat) (e:Nat×Nat),e∈kE k r->1<=e.2/\k<=e.1/\e.1<k+r.length
 |[],_,_,h=>by cases h
 |b::r,k,e,h=>by
  rcases bM.1 h with rfl|h
  ·exact⟨AP b,ax _,by simp⟩
  ·have:=Be r (k+1) e h
   rw[aY]
   omega
theorem Ph.recs {l:Lg}{ims:List Im}{m L N:Nat}{H:Nat->List UInt8}{s:Nat->List UInt8}{l':Lg}(h:Ph l l'.fQ ims m L N H s)(hok:l.Ok)(hf:l.frm=0)(hL:l.n=L)(hlist:l.list=kE (l.last+1 - ims.length) (iB ims))(hlen:ims.length<=l.last)(hims:∀im∈ims,im.Tc N)
  (h1:l'.fields=[l.frm,l.n,l.start,l.first,l'.synced]) (hm:l'.synced+ims.length=l.last+m) (hml:m<=ims.length):xQ s L N l'.synced (qm (ims.take m) H):=by
 have hd:({l with list:=l.list.take m,used:=((l.list.take m).map (·.2)).sum,last:=l'.synced,synced:=l'.synced,dead:=false}:Lg).list=kE (l'.synced+1 - (ims.take m).length) (iB (ims.take m)):=by
  show l.list.take m=_
  rw[hlist,ze,zk,aC,bq hml]
  congr 1
  omega
 have hlt:(ims.take m).length=m:=by rw[aC,bq hml]
 have hfirst:=rE (l:=({l with list:=l.list.take m,used:=((l.list.take m).map (·.2)).sum,last:=l'.synced,synced:=l'.synced,dead:=false}:Lg)) (bs:=iB (ims.take m)) (by rw[dD];exact hd) (by rw[dD,hlt];show m<=l'.synced;omega)
 have hfl:=rE (l:=l) (bs:=iB ims) (by rw[dD];exact hlist) (by rw[dD];exact hlen)
 rw[dD] at hfl
 rw[dD,hlt] at hfirst
 have hsub:((l.list.take m).map (·.2)).sum<=l.n - 1:=by
  have e:=hok.sum
  have hu:=hok.us
  have:l.list=l.list.take m++l.list.drop m:=(bJ m l.list).symm
  rw[this,bX,wm] at e
  omega
 refine⟨({l with list:=l.list.take m,used:=((l.list.take m).map (·.2)).sum,last:=l'.synced,synced:=l'.synced,dead:=false}:Lg),ims.take m,⟨⟨hok.n2,hok.hi,hok.st,hsub,?_,ax _,?_,rfl⟩,rfl,hf,?_,rfl,by rw[dD];exact hd,by rw[dD,hlt];show m<=l'.synced;omega,?_⟩,hL,rfl,fun im hi=>hims im (fo hi),fun b hb=> ?_⟩
 ·have:=hok.la;show l'.synced<=_;omega
 ·intro e he
  have he':e∈kE (l'.synced+1 - (ims.take m).length) (iB (ims.take m)):=by rw[<-hd];exact he
  have:=Be _ _ _ he'
  rw[dD,hlt] at this
  refine⟨this.1,?_⟩
  show e.1<=l'.synced
  omega
 ·rw[h.mark]
  congr 1
  refine(Fw ?_).symm
  rw[h1]
  unfold Lg.fields
  rw[hfirst,hfl]
  show [l.frm,l.n,l.start,l'.synced+1 - m,l'.synced]=_
  congr 4
  omega
 ·have h2:=h.on
  rw[zk] at h2
  rw[dD,hlt]
  have e:l'.synced+1 - m=l.last+1 - ims.length:=by omega
  show nK s _ (l'.synced+1 - m) _
  rw[e]
  exact h2.congr rfl rfl rfl fun _ _=>rfl
 ·unfold qm
  show _=(findAll (List.take m ims) b).getD (s (L+b))
  rw[h.home b hb]
def qz (s:Nat->List UInt8)(l:Lg)(ims:List Im)(L N:Nat)(H:Nat->List UInt8)(k:Nat):Prop:=xQ s L N k (qm (ims.take (k+ims.length - l.last)) H)
theorem Rest.recs {σ:Dk}{l:Lg}{p:Pg}{ims:List Im}(h:Rest σ l p ims):Al σ fun s=>qz s l ims p.skip (p.blocks σ) (fun b=>σ.get (p.skip+b)) l.synced:=fun s hs=>by
 have hsy:=h.lok.sy
 have:=h.wG
 exact(h.all s hs).recs (l':=l) h.lok h.pok.frm h.pok.skip.symm h.list h.len h.bat rfl (by unfold Lg.wG;omega) (by unfold Lg.wG;omega)
theorem Fv {σ:Dk}(l:Lg)(hd:σ.dead=false)(hf:l.frm<σ.n):
  (∃σ',l.mark σ=(σ',l,0)/\σ'.dead=false/\(σ.fuel= -1->σ'.fuel= -1)/\σ'.n=σ.n/\σ'.waits=[]/\∀x,σ'.get x=if l.frm=x then pad l.fQ else σ.get x)\/
  (∃σ',l.mark σ=(σ',l.dies,10)/\σ'.dead=true/\σ.fuel≠-1/\σ'.n=σ.n/\∀s,CS σ' s->∃s',CS σ s'/\(s=s'\/s=qJ s' l.frm (pad l.fQ))):=by
 have hbn:=σ.dx.1
 have hfu:∀τ:Dk,τ.dead=false->τ.fuel= -1->τ.eF.dead=false/\τ.eF.fuel= -1:=fun τ h1 h2=>by rw[Dk.mH.eF ⟨h1,h2⟩];exact⟨h1,h2⟩
 unfold Lg.mark
 rcases yc hd hf (by rw[l.xg];omega:l.fQ.length<=512) with ⟨e,hb⟩|⟨e,hb⟩
 ·rw[e]
  dsimp only
  rw[if_pos rfl]
  have hd2:(σ.eF.put l.frm l.fQ).dead=false:=hb
  rcases Af hd2 with ⟨e2,hb2⟩|⟨e2,hb2⟩
  ·rw[e2]
   dsimp only
   rw[if_pos rfl]
   refine .inl ⟨_,rfl,hb2,fun h=> ?_,?_,rfl,fun x=> ?_⟩
   ·exact(hfu _ hd2 (hfu σ hd h).2).2
   ·show (σ.eF.put l.frm l.fQ).eF.n=σ.n
    exact(Dk.dx _).1.trans hbn
   ·rw[Dk.mM,Dk.pR,Dk.get_put,σ.pR]
  ·rw[e2]
   dsimp only
   rw[if_neg (by omega)]
   refine .inr ⟨_,rfl,hb2,fun h=> ?_,?_,fun s hs=> ?_⟩
   ·have:=(hfu _ hd2 (hfu σ hd h).2).1
    rw[hb2] at this;cases this
   ·exact(Dk.dx _).1.trans hbn
   ·have hs:=hs.same (Dk.dx (σ.eF.put l.frm l.fQ)).2.1 (Dk.dx _).2.2
    rcases hs.put with e|⟨s',e,rfl⟩
    ·exact⟨s,e.same σ.dx.2.1 σ.dx.2.2,.inl rfl⟩
    ·exact⟨s',e.same σ.dx.2.1 σ.dx.2.2,.inr rfl⟩
 ·rw[e]
  dsimp only
  rw[if_neg (by omega)]
  refine .inr ⟨_,rfl,hb,fun h=> ?_,hbn,fun s hs=>⟨s,hs.same σ.dx.2.1 σ.dx.2.2,.inl rfl⟩⟩
  have:=(hfu σ hd h).1
  rw[hb] at this;cases this
theorem kW {σ:Dk}(h1:σ.dead=false)(h2:σ.fuel= -1):σ.eF.dead=false/\σ.eF.fuel= -1:=by rw[Dk.mH.eF ⟨h1,h2⟩];exact⟨h1,h2⟩
theorem Ph.OL {l:Lg}{mk mk':List UInt8}{ims:List Im}{m L N:Nat}{H:Nat->List UInt8}{s:Nat->List UInt8}(h:Ph l mk ims m L N H s)(hok:l.Ok)(hf:l.frm=0)(hL:l.n=L):Ph l mk' ims m L N H (qJ s 0 (pad mk')):=by
 have h2:=hok.n2
 refine⟨by unfold qJ;rw[if_pos rfl],h.on.set fun j _=> ?_,fun b hb=> ?_⟩
 ·have:=sK l (l.start+j) h2 hf
  omega
 ·unfold qJ
  rw[if_neg (by omega)]
  exact h.home b hb
def PK (σ':Dk)(l' l:Lg)(ims:List Im)(L N:Nat)(H:Nat->List UInt8):Prop:=
 l'.last=l.last/\((l'.synced=l.synced/\Al σ' fun s=>qz s l ims L N H l.synced\/qz s l ims L N H l.last)\/(l'.synced=l.last/\Al σ' fun s=>qz s l ims L N H l.last))
theorem CP {σ:Dk}{l:Lg}{p:Pg}{ims:List Im}(h:Rest σ l p ims)(hd:σ.dead=false)(hld:l.dead=false):
  (∃σ',l.sync σ=(σ',l.all,0)/\σ'.dead=false/\(σ.fuel= -1->σ'.fuel= -1)/\σ'.n=σ.n/\σ'.waits=[]/\(∀x,0<x->σ'.get x=σ.get x)/\Rest σ' l.all p ims)\/
  (∃σ',l.sync σ=(σ',l.dies,10)/\σ'.dead=true/\σ.fuel≠-1/\σ'.n=σ.n/\PK σ' l.dies l ims p.skip (p.blocks σ) (fun b=>σ.get (p.skip+b))):=by
 have hok:=h.lok
 have hpo:=h.pok
 have hfit:=hpo.fit;have hfrm:=hpo.frm;have hskip:=hpo.skip;have hring:=hpo.ring;have hsy:=hok.sy;have hsyn:=h.wG;have hn2:=hok.n2
 have hrec:=h.recs
 obtain⟨N,hN⟩:∃N,N=p.blocks σ:=⟨_,rfl⟩
 rw[<-hN] at hrec ⊢
 obtain⟨H,hH⟩:∃H:Nat->List UInt8,H=fun b=>σ.get (p.skip+b):=⟨_,rfl⟩
 have hall:=h.all
 rw[<-hN,<-hH] at hall
 rw[<-hH] at hrec ⊢
 have hget:Ph l l.fQ ims ims.length p.skip N H σ.get:=⟨hall.get.mark,by rw[aG (by rw[dD];omega)];exact h.on,hall.get.home⟩
 have hold:∀s,Ph l l.fQ ims ims.length p.skip N H s->qz s l ims p.skip N H l.synced:=fun s hs=>by
  have h1:Ph l l.fQ ims (l.wG ims.length) p.skip N H s:=⟨hs.mark,by
   have:=hs.on.take (l.wG ims.length)
   rw[bZ,bq (by unfold Lg.wG;omega)] at this
   exact this,hs.home⟩
  exact h1.recs (l':=l) hok hfrm hskip.symm h.list h.len (by rw[hN];exact h.bat) rfl (by unfold Lg.wG;omega) (by unfold Lg.wG;omega)
 have hfa:l.all.first=l.first:=rfl
 have hnew:∀s,Ph l l.all.fQ ims ims.length p.skip N H s->qz s l ims p.skip N H l.last:=fun s hs=>by
  have:=hs.recs (l':=l.all) hok hfrm hskip.symm h.list h.len (by rw[hN];exact h.bat) rfl (by show l.last+_=_;omega) (ax _)
  unfold qz
  rw[dH]
  exact this
 unfold Lg.sync
 rw[hld,if_neg (by simp)]
 rcases Af hd with ⟨e,hb⟩|⟨e,hb⟩
 ·rw[e]
  dsimp only
  rw[if_pos rfl]
  have hd1:σ.eF.flush.dead=false:=hb
  have hn1:σ.eF.flush.n=σ.n:=σ.dx.1
  have hg1:∀x,σ.eF.flush.get x=σ.get x:=fun x=>by rw[Dk.mM,Dk.pR]
  have hcs:∀s,CS σ.eF.flush s->Ph l l.fQ ims ims.length p.skip N H s:=fun s hs=>by
   rw[hs.none rfl,show σ.eF.flush.get=σ.get from funext hg1];exact hget
  rcases Fv l.all hd1 (show l.frm<σ.eF.flush.n by rw[hn1];omega) with ⟨σ',e2,h1,h2,h3,h4,h5⟩|⟨σ',e2,h1,h2,h3,h4⟩
  ·left
   rw[e2]
   dsimp only
   rw[if_pos rfl]
   have hg:∀x,0<x->σ'.get x=σ.get x:=fun x hx=>by
    rw[h5,if_neg (by show l.frm≠x;omega),hg1]
   have hn':σ'.n=σ.n:=h3.trans hn1
   have hNb:p.blocks σ'=N:=by rw[hN];unfold Pg.blocks;rw[hn']
   have hon:nK σ'.get l.all (l.all.last+1 - ims.length) (iB ims):=h.on.congr rfl rfl rfl fun j _=>hg _ (sK l _ hn2 hfrm).1
   refine⟨σ',rfl,h1,fun hf=>h2 (kW hd hf).2,hn',h4,hg,?_⟩
   refine⟨⟨hok.n2,hok.hi,hok.st,hok.us,hok.la,ax _,hok.ent,hok.sum⟩,⟨hfrm,hskip,hring,by rw[hn'];exact hfit,by rw[hn'];exact hpo.fresh⟩,h.list,h.len,by show l.last<=l.last+_;omega,by rw[hNb,hN];exact h.bat,hon,?_,h.fresh,by rw[h4];exact bf _,fun _=>h4⟩
   refine Al.none ⟨?_,?_,fun b _=>rfl⟩ h4
   ·rw[h5,if_pos (by show l.frm=0;exact hfrm)]
   ·rw[aG (by rw[dD];unfold Lg.wG;show _<=l.last+_ - l.last;omega)]
    exact hon
  ·right
   rw[e2]
   dsimp only
   rw[if_neg (by omega)]
   refine⟨σ',rfl,h1,fun hf=>h2 (kW hd hf).2,h3.trans hn1,rfl,.inl ⟨rfl,fun s hs=> ?_⟩⟩
   obtain⟨s',g1,g2⟩:=h4 s hs
   have g1:=hcs s' g1
   rcases g2 with rfl|rfl
   ·exact .inl (hold _ g1)
   ·right
    rw[show l.all.frm=0 from hfrm]
    exact hnew _ (g1.OL hok hfrm hskip.symm)
 ·right
  rw[e]
  dsimp only
  rw[if_neg (by omega)]
  refine⟨_,rfl,hb,fun hf=> ?_,σ.dx.1,rfl,.inl ⟨rfl,fun s hs=> .inl (hrec s (hs.same σ.dx.2.1 σ.dx.2.2))⟩⟩
  have:=(kW hd hf).1
  rw[hb] at this;cases this
theorem Jv (p:Pg)(P:(Nat->List UInt8)->Prop):∀(r:List Nat) (σ:Dk),σ.dead=false->(∀b∈r,p.skip+b<σ.n/\(p.fresh.img b).length=512)->(∀s b,b∈r->P s->P (qJ s (p.skip+b) (p.fresh.img b)))->Al σ P->
  (∃σ',p.lay r σ=(σ',0)/\σ'.dead=false/\(σ.fuel= -1->σ'.fuel= -1)/\σ'.n=σ.n/\Al σ' P/\(∀b,σ'.get (p.skip+b)=if b∈r then p.fresh.img b else σ.get (p.skip+b))/\∀j,j<p.skip->σ'.get j=σ.get j)\/
  (∃σ',p.lay r σ=(σ',10)/\σ'.dead=true/\σ.fuel≠-1/\σ'.n=σ.n/\Al σ' P)
 |[],σ,h,_,_,hP=> .inl ⟨σ,rfl,h,id,rfl,hP,fun b=>by simp,fun _ _=>rfl⟩
 |b::r,σ,h,hr,hc,hP=>by
  obtain⟨h1,h2⟩:=hr b (aX ..)
  rw[p.xq]
  rcases yc h h1 (by omega:(p.fresh.img b).length<=512) with ⟨e,hb⟩|⟨e,hb⟩
  ·rw[e]
   dsimp only
   rw[if_pos rfl]
   have hd2:(σ.eF.put (p.skip+b) (p.fresh.img b)).dead=false:=hb
   have hn2:(σ.eF.put (p.skip+b) (p.fresh.img b)).n=σ.n:=σ.dx.1
   have hf2:σ.fuel= -1->(σ.eF.put (p.skip+b) (p.fresh.img b)).fuel= -1:=fun hf=>(kW h hf).2
   have hP2:Al (σ.eF.put (p.skip+b) (p.fresh.img b)) P:=hP.eF.put fun s hs=>by
    rw[AB h2];exact hc s b (aX ..) hs
   rcases Jv p P r _ hd2 (fun c hc=>by rw[hn2];exact hr c (aU _ hc)) (fun s c hm=>hc s c (aU _ hm)) hP2 with ⟨σ',q1,q2,q3,q4,q5,q6,q7⟩|⟨σ',q1,q2,q3,q4,q5⟩
   ·refine .inl ⟨σ',q1,q2,fun hf=>q3 (hf2 hf),q4.trans hn2,q5,fun c=> ?_,fun j hj=> ?_⟩
    ·rw[q6,Dk.get_put]
     by_cases hc:c∈r
     ·rw[if_pos hc,if_pos (aU _ hc)]
     ·rw[if_neg hc]
      by_cases e:c=b
      ·subst e
       rw[if_pos rfl,if_pos (aX ..)]
       exact AB h2
      ·rw[if_neg (by omega),if_neg (fun x=>(bM.1 x).elim e hc),σ.pR]
    ·rw[q7 j hj,Dk.get_put,if_neg (by omega),σ.pR]
   ·exact .inr ⟨σ',q1,q2,fun hf=>q3 (hf2 hf),q4.trans hn2,q5⟩
  ·rw[e]
   dsimp only
   rw[if_neg (by omega)]
   refine .inr ⟨_,rfl,hb,fun hf=> ?_,σ.dx.1,hP.eF⟩
   have:=(kW h hf).1
   rw[hb] at this;cases this
theorem JE {l:Lg}(h:l.Ok):(l.cut l.last).list=[]/\(l.cut l.last).used=0/\(l.cut l.last).frm=l.frm/\(l.cut l.last).n=l.n/\(l.cut l.last).last=l.last/\(l.cut l.last).synced=l.synced/\(l.cut l.last).dead=l.dead:=by
 have hs:=wK l.last l.list (l.n - 1) l.start l.used (fun e he=>(h.ent e he).2)
 refine⟨hs.1,?_,rfl,rfl,rfl,rfl,rfl⟩
 show (Lg.qa l.last l.list (l.n - 1) l.start l.used).2.2=0
 rw[hs.2.1,h.sum];omega
theorem Nr {σ:Dk}{l:Lg}{p:Pg}{ims:List Im}(h:Rest σ l p ims)(hd:σ.dead=false)(hld:l.dead=false)(hpd:p.dead=false):
  (∃σ',p.home σ l=(σ',l.all.cut l.last,{p with fresh:=Im.none},0)/\σ'.dead=false/\(σ.fuel= -1->σ'.fuel= -1)/\σ'.n=σ.n/\σ'.waits=[]/\Rest σ' (l.all.cut l.last) {p with fresh:=Im.none} []/\∀b,b<p.blocks σ->σ'.get (p.skip+b)=qm ims (fun b=>σ.get (p.skip+b)) b)\/
  (∃σ' l',p.home σ l=(σ',l',p.dies,10)/\σ'.dead=true/\σ.fuel≠-1/\σ'.n=σ.n/\PK σ' l' l ims p.skip (p.blocks σ) (fun b=>σ.get (p.skip+b))):=by
 have hpo:=h.pok
 have hfit:=hpo.fit;have hfrm:=hpo.frm;have hskip:=hpo.skip;have hring:=hpo.ring;have hlok:=h.lok
 have hn2:=hlok.n2
 obtain⟨N,hN⟩:∃N,N=p.blocks σ:=⟨_,rfl⟩
 obtain⟨H,hH⟩:∃H:Nat->List UInt8,H=fun b=>σ.get (p.skip+b):=⟨_,rfl⟩
 have hout:=CP h hd hld
 rw[<-hN,<-hH] at hout ⊢
 unfold Pg.home
 rcases hout with ⟨σ1,e1,d1,f1,n1,w1,g1,R1⟩|⟨σ1,e1,d1,f1,n1,D1⟩
 rotate_left
 ·rw[e1]
  dsimp only
  rw[if_neg (by omega)]
  exact .inr ⟨σ1,_,rfl,d1,f1,n1,D1⟩
 rw[e1]
 dsimp only
 rw[if_pos rfl]
 have hH1:∀b,σ1.get (p.skip+b)=H b:=fun b=>by rw[hH];exact g1 _ (by omega)
 have hNb:p.blocks σ1=N:=by rw[hN];unfold Pg.blocks;rw[n1]
 obtain⟨P,hP⟩:∃P:(Nat->List UInt8)->Prop,P=fun s=>s 0=pad l.all.fQ/\nK s l (l.last+1 - ims.length) (iB ims)/\∀b,b<N->findAll ims b=none->s (p.skip+b)=H b:=⟨_,rfl⟩
 have hPr:∀s,P s->qz s l ims p.skip N H l.last:=fun s hs=>by
  rw[hP] at hs
  obtain⟨a1,a2,a3⟩:=hs
  have hph:Ph l l.all.fQ ims ims.length p.skip N (fun b=>s (p.skip+b)) s:=⟨a1,by rw[aG (by rw[dD];omega)];exact a2,fun _ _=>rfl⟩
  have:=hph.recs (l':=l.all) hlok hfrm hskip.symm h.list h.len (by rw[hN];exact h.bat) rfl (by show l.last+_=_;omega) (ax _)
  unfold qz
  rw[dH]
  refine xQ.congr this fun b hb=> ?_
  rw[aG (ax _)]
  unfold qm
  cases hf:findAll ims b with
  |some x=>rfl
  |none=>
   show H b=s (p.skip+b)
   rw[a3 b hb hf]
 have hal1:Al σ1 P:=fun s hs=>by
  have q:=R1.all s hs
  rw[hP]
  refine⟨q.mark,?_,fun b hb _=> ?_⟩
  ·have:=q.on
   rw[aG (by rw[dD];unfold Lg.wG;show _<=l.last+_ - l.last;omega)] at this
   exact this.congr rfl rfl rfl fun _ _=>rfl
  ·rw[q.home b (by rw[hNb];exact hb)]
   exact hH1 b
 have hfk:∀b∈p.fresh.ks,findAll ims b=some (p.fresh.img b):=fun b hb=>by
  rw[<-h.fresh b];unfold Im.find;rw[if_pos hb]
 have hfi:=hpo.fresh
 have hclo:∀s b,b∈p.fresh.ks->P s->P (qJ s (p.skip+b) (p.fresh.img b)):=fun s b hb hs=>by
  rw[hP] at hs ⊢
  obtain⟨a1,a2,a3⟩:=hs
  have hbn:=hfi.hi b hb
  refine⟨by unfold qJ;rw[if_neg (by omega)];exact a1,a2.set fun j _=> ?_,fun c hc hf=> ?_⟩
  ·have:=sK l (l.start+j) hn2 hfrm
   omega
  ·unfold qJ
   by_cases e:b=c
   ·subst e
    rw[hfk b hb] at hf;cases hf
   ·rw[if_neg (by omega)]
    exact a3 c hc hf
 rcases Jv p P p.fresh.ks σ1 d1 (fun b hb=>⟨by have:=hfi.hi b hb;omega,hfi.img b hb⟩) hclo hal1 with ⟨σ2,e2,d2,f2,n2,A2,g2,g2'⟩|⟨σ2,e2,d2,f2,n2,A2⟩
 ·rw[e2]
  dsimp only
  rw[if_pos rfl]
  have hlo:∀b,b<N->σ2.get (p.skip+b)=qm ims H b:=fun b hb=>by
   rw[g2,hH1]
   unfold qm
   rw[<-h.fresh b]
   unfold Im.find
   split<;>rfl
  rcases Af d2 with ⟨e3,d3⟩|⟨e3,d3⟩
  ·rw[e3]
   dsimp only
   rw[if_pos rfl]
   have d3':σ2.eF.flush.dead=false:=d3
   have n3:σ2.eF.flush.n=σ.n:=σ2.dx.1.trans (n2.trans n1)
   have g3:∀x,σ2.eF.flush.get x=σ2.get x:=fun x=>by rw[Dk.mM,Dk.pR]
   have hc:=JE (l:=l.all) ⟨hlok.n2,hlok.hi,hlok.st,hlok.us,hlok.la,ax _,hlok.ent,hlok.sum⟩
   obtain⟨c,hce⟩:∃c,c=l.all.cut l.all.last:=⟨_,rfl⟩
   have hcok:c.Ok:=by rw[hce];exact Lg.Ok.cut ⟨hlok.n2,hlok.hi,hlok.st,hlok.us,hlok.la,ax _,hlok.ent,hlok.sum⟩
   rw[<-hce] at hc
   obtain⟨k1,k2,k3,k4,k5,k6,k7⟩:=hc
   have k3:c.frm=0:=k3.trans hfrm
   have k4:c.n=l.n:=k4
   have k5:c.last=l.last:=k5
   have k6:c.synced=l.last:=k6
   have hsf:∀s,CS σ2.eF.flush s->P s:=fun s hs=>by
    rw[hs.none rfl,show σ2.eF.flush.get=σ2.get from funext g3];exact A2.get
   have hsn:∀s,CS σ2.eF.flush s->qz (qJ s 0 (pad c.fQ)) l ims p.skip N H l.last:=fun s hs=>by
    have hph:Ph c c.fQ [] 0 p.skip N (qm ims H) (qJ s 0 (pad c.fQ)):=⟨by unfold qJ;rw[if_pos rfl],fun i hi=>by simp[iB] at hi,fun b hb=>by
     unfold qJ
     rw[if_neg (by omega),hs.none rfl,g3]
     exact hlo b hb⟩
    have:=hph.recs (l':=c) hcok k3 (k4.trans hskip.symm) k1 (bf _) (fun im hi=>by cases hi) rfl (by show c.synced+0=c.last+0;rw[k6,k5]) (ax _)
    unfold qz
    rw[dH,aG (ax _),<-k6]
    exact this
   have htrim:l.all.trim σ2.eF.flush l.all.last=if (c.mark σ2.eF.flush).2.2=0 then c.mark σ2.eF.flush else((c.mark σ2.eF.flush).1,l.all.dies,10):=by
    unfold Lg.trim
    have hd:l.all.dead=false:=hld
    rw[hd,if_neg (by simp),if_neg (by show ¬l.last<l.last;omega),<-hce]
   rcases Fv c d3' (by rw[k3,n3];omega) with ⟨σ4,e4,h1,h2,h3,h4,h5⟩|⟨σ4,e4,h1,h2,h3,h4⟩
   ·left
    rw[htrim,e4]
    dsimp only
    rw[if_pos rfl]
    dsimp only
    rw[if_pos rfl]
    have hn':σ4.n=σ.n:=h3.trans n3
    have hg4:∀b,b<N->σ4.get (p.skip+b)=qm ims H b:=fun b hb=>by
     rw[h5,if_neg (by rw[k3];omega),g3];exact hlo b hb
    have hcl:c=l.all.cut l.last:=hce
    rw[<-hcl]
    refine⟨σ4,rfl,h1,fun hf=>h2 (kW d2 (f2 (f1 hf))).2,hn',h4,?_,hg4⟩
    refine⟨hcok,⟨k3,by rw[k4];exact hskip,by rw[k4];exact hring,by rw[k4,hn'];exact hfit,Im.Ok.none _⟩,k1,bf _,by rw[k5,k6];omega,(fun im hi=>by cases hi),(fun i hi=>by simp[iB] at hi),?_,fun b=>rfl,by rw[h4];exact bf _,fun _=>h4⟩
    refine Al.none ⟨by rw[h5,if_pos k3],fun i hi=>by simp[iB] at hi,fun b _=>rfl⟩ h4
   ·right
    rw[htrim,e4]
    dsimp only
    rw[if_neg (show ¬((10:Int)=0) by omega)]
    dsimp only
    rw[if_neg (show ¬((10:Int)=0) by omega)]
    refine⟨σ4,_,rfl,h1,fun hf=>h2 (kW d2 (f2 (f1 hf))).2,h3.trans n3,rfl,.inr ⟨rfl,fun s hs=> ?_⟩⟩
    obtain⟨s',a1,a2⟩:=h4 s hs
    rcases a2 with rfl|rfl
    ·exact hPr _ (hsf _ a1)
    ·rw[k3]
     exact hsn _ a1
  ·right
   rw[e3]
   dsimp only
   rw[if_neg (by omega)]
   refine⟨_,_,rfl,d3,fun hf=> ?_,σ2.dx.1.trans (n2.trans n1),rfl,.inr ⟨rfl,fun s hs=>hPr s (A2 s (hs.same σ2.dx.2.1 σ2.dx.2.2))⟩⟩
   have:=(kW d2 (f2 (f1 hf))).1
   rw[d3] at this;cases this
 ·right
  rw[e2]
  dsimp only
  rw[if_neg (by omega)]
  exact⟨σ2,_,rfl,d2,fun hf=>f2 (f1 hf),n2.trans n1,rfl,.inr ⟨rfl,fun s hs=>hPr s (A2 s hs)⟩⟩
end Go.Proofs.YtbfjgkafmlbpcaaGreatDoor
