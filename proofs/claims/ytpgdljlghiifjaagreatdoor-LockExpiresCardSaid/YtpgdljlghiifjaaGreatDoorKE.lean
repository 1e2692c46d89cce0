/- parts -/
import Derived.Test.YtpgdljlghiifjaaGreatDoorK1
import Derived.Test.YtpgdljlghiifjaaGreatDoorK2
import Derived.Test.YtpgdljlghiifjaaGreatDoorK3
import Derived.Test.YtpgdljlghiifjaaGreatDoorK4
import Derived.Test.YtpgdljlghiifjaaGreatDoorK5
import Derived.Test.YtpgdljlghiifjaaGreatDoorK6
import Derived.Test.YtpgdljlghiifjaaGreatDoorK7
import Derived.Test.YtpgdljlghiifjaaGreatDoorK8
import Derived.Test.YtpgdljlghiifjaaGreatDoorK9
import Derived.Test.YtpgdljlghiifjaaGreatDoorK10
import Derived.Test.YtpgdljlghiifjaaGreatDoorK11
import Derived.Test.YtpgdljlghiifjaaGreatDoorK12
import Derived.Test.YtpgdljlghiifjaaGreatDoorK13
import Derived.Test.YtpgdljlghiifjaaGreatDoorK14
import Derived.Test.YtpgdljlghiifjaaGreatDoorK15
import Derived.Test.YtpgdljlghiifjaaGreatDoorK16
import Derived.Test.YtpgdljlghiifjaaGreatDoorK17
import Derived.Test.YtpgdljlghiifjaaGreatDoorK18
import Derived.Test.YtpgdljlghiifjaaGreatDoorK19
import Derived.Test.YtpgdljlghiifjaaGreatDoorK20
import Derived.Test.YtpgdljlghiifjaaGreatDoorK21
import Derived.Test.YtpgdljlghiifjaaGreatDoorK22
import Derived.Test.YtpgdljlghiifjaaGreatDoorK23
import Derived.Test.YtpgdljlghiifjaaGreatDoorK24
import Derived.Test.YtpgdljlghiifjaaGreatDoorK25
import Derived.Test.YtpgdljlghiifjaaGreatDoorK26
import Derived.Test.YtpgdljlghiifjaaGreatDoorK27
import Derived.Laws.ResultCell
import Derived.Deep.Slices
import Derived.Lib.SmallJoins
set_option maxRecDepth 100000
set_option maxHeartbeats 8000000
set_option linter.all false
namespace Go.Proofs.YtpgdljlghiifjaaGreatDoor
open Go.RowKit
theorem same_iff (a b:List ByteArray):a=b↔a.length=b.length/\∀j,j<a.length->a[j]? =b[j]? :=by
 constructor
 ·rintro rfl
  exact⟨rfl,fun _ _=>rfl⟩
 ·rintro⟨h1,h2⟩
  apply Cc
  intro j
  by_cases hj:j<a.length
  ·exact h2 j hj
  ·rw[eZ (by omega),eZ (by omega)]
theorem QZ (av bv:Value)(a b:List ByteArray)(Sa Sb:Nat->Prop)(w:World)(ha:iM w Sa av a)(hb:iM w Sb bv b):
  Calls Tryz.prog 30 #[av,bv] w fun e w'=>e= .returned (.bool (decide (a=b)))/\Below w.heap.size w w':=by
 obtain⟨ao,ac,rfl,ha1,ha2,_,_⟩:=cZ.form ha
 obtain⟨bo,bc,rfl,hb1,hb2,_,_⟩:=cZ.form hb
 have HA:=af ha
 have HB:=af hb
 obtain⟨R,hR⟩:∃R,Hid (decide (a=b)=R):=⟨_,af rfl⟩
 rw[hR.out]
 clear ha hb
 go_enter Tryz.func30,Tryz.ntmps30
 by_cases hlt:a.length=b.length
 ·have x1:((a.length:Int) !=(b.length:Int))=false:=by rw[hlt];simp
  have HLT:=af hlt;clear hlt
  go_upto_region 4 with fail
  go_loopw [5] (fun i wr=>∃k:Nat,k<=a.length/\i= .int .i64 k/\(∀j,j<k->a[j]? =b[j]?)/\Below w.heap.size w wr) (fun i _=>a.length - (intOf i).toNat)
  case atStart=>exact⟨0,aV _,rfl,fun j hj=>absurd hj (qL _),aN _ _⟩
  case round=>
   obtain⟨k,hk,rfl,heq,hbw⟩:=hrel
   have HEQ:=af heq;clear heq
   have HBW:=af hbw
   by_cases hkl:k<a.length
   ·have hkl':(k:Int)<(a.length:Int):=by omega
    have hkb:(k:Int)<(b.length:Int):=by have:=HLT.out;omega
    obtain⟨x,hx⟩:∃x,a[k]? =some x:=⟨_,aZ hkl⟩
    obtain⟨y,hy⟩:∃y,b[k]? =some y:=⟨_,aZ (by have:=HLT.out;omega)⟩
    obtain⟨gb,ob,rfl,db⟩:=cZ.yT (cZ.below HB.out hbw) rfl k (.string y) (by rw[dh,hy];rfl)
    obtain⟨ga,oa,rfl,da⟩:=cZ.yT (cZ.below HA.out hbw) rfl k (.string x) (by rw[dh,hx];rfl)
    have la:=aD wr _ da
    have lb:=aD wr _ db
    have hq:=LW x y
    have HXY:=af (ay hx hy)
    clear hx hy hbw
    go_wp2_with fail
    refine aQ (fun W=>W=wr.drew) (fun i=>true) [0,1,2,3,4,5,6,7,8] rfl (by kernel_rfl) rfl ?_
    repeat ((refine bP (v:= ?_) rfl rfl (fun _ _ _ h=>h) rfl (fun W hW=> ?_) ?_);rotate_left;(focus ((try dsimp only at hW);subst hW;(go_simp;first|done|with_reducible rfl)));(try simp only[Act.put,aj,ax,au]))
    refine bU ?_
    by_cases he:x=y
    ·have hd:decide (x=y)=true:=bK he
     rw[hd]
     have HE:=af he;clear he hd hq
     go_wp2_with fail
     go_roundw
     case rel=>
      refine⟨k+1,by omega,by go_num,fun j hj=> ?_,HBW.out.drew⟩
      rcases Ch.1 hj with hj|rfl
      ·exact HEQ.out j hj
      ·rw[HXY.out.1,HXY.out.2,HE.out]
     case measure=>simp[intOf];omega
    ·have hd:decide (x=y)=false:=bD he
     rw[hd]
     have hr:R=false:=by
      rw[<-hR.out,rq,same_iff]
      rintro⟨_,h⟩
      have:=h k hkl
      rw[HXY.out.1,HXY.out.2] at this
      exact he (iJ this)
     clear he hd hq
     go_wp2_with fail
     go_ret
     exact⟨by simp[hr],HBW.out.drew⟩
   ·obtain rfl:k=a.length:=by omega
    have x2:¬(a.length:Int)<(a.length:Int):=by omega
    have hr:R=true:=by
     rw[<-hR.out,bR,same_iff]
     exact⟨HLT.out,HEQ.out⟩
    clear hbw
    go_wp2_with fail
    go_ret
    exact⟨by simp,HBW.out⟩
 ·have x1:((a.length:Int) !=(b.length:Int))=true:=by
   rw[bne_iff_ne];omega
  have hr:R=false:=by
   rw[<-hR.out,rq,same_iff]
   exact fun h=>hlt h.1
  go_wp2
  go_ret
  exact⟨by simp[hr],aN _ _⟩
end Go.Proofs.YtpgdljlghiifjaaGreatDoor
namespace Go.Proofs.YtpgdljlghiifjaaGreatDoor
open Go.RowKit Go.Shelf
def kL:List Value:=[.string ⟨#[]⟩,.slice none 0 0,.bool false,.bool false,.string ⟨#[]⟩,.int .i64 0]
theorem qN:∀u∈kL,u.oneCell'=true:=by
 intro u hu
 simp only[kL,bL,pE,oW] at hu
 rcases hu with rfl|rfl|rfl|rfl|rfl|rfl<;>rfl
theorem jF {w:World}{g:Nat}{cs:List Value}(h:Row w g 24 cs)(hl:cs.length=6):(loadVar 24 ⟨g,0,none⟩).run Tryz.prog w= .ok (.agg cs.toArray) w:=by
 refine run_loadVar_row w g 24 24 _ (0,0) _ h Tryz.underlying24 rfl ?_
 rw[kX]
 simp[hl]
theorem gT {fn:Func}{p q:Tmp}{ty:TypeId}(h:fn.results=#[.cell p ty,.tmp q])(tmps:Array Value)(w:World)(g:Nat)(y x:Value)
  (hp:tmps.getD p undef= .pointer (some ⟨g,0,none⟩)) (hl:(loadVar ty ⟨g,0,none⟩).run Tryz.prog w= .ok y w) (hq:tmps.getD q undef=x):
  (results fn tmps).run Tryz.prog w= .ok (.tuple #[y,x]) w:=by
 have hp':tmps[p]?.getD undef= .pointer (some ⟨g,0,none⟩):=by simpa using hp
 have hq':tmps[q]?.getD undef=x:=by simpa using hq
 simp[results,h,hp',hq',asAddr,hl]
theorem PG (l:aT)(pv qv:Value)(S T:Nat->Prop)(w:World)(hp:iM w S pv l.path)(hq:iM w T qv l.path):
  Calls Tryz.prog 26 #[sO l pv,sO l qv] w fun e w'=>e= .returned (.bool true)/\Below w.heap.size w w':=by
 obtain⟨tk,pt,dp,ex,ow,ti⟩:=l
 dsimp only at hp hq
 have hfp:=cZ.form hp
 have hfq:=cZ.form hq
 have HP:=af (ay hp hq)
 clear hp hq
 obtain⟨po,pc,rfl,_,_,_,_⟩:=hfp
 obtain⟨qo,qc,rfl,_,_,_,_⟩:=hfq
 have hb1:=aJ w (.cells #[.string tk,.slice po pt.length pc,.bool dp,.bool ex,.string ow,.int .i64 ti] 24)
 have hn1:=aM w (.cells #[.string tk,.slice po pt.length pc,.bool dp,.bool ex,.string ow,.int .i64 ti] 24)
 obtain⟨w1,hw1⟩:∃w1:World,Hid (w.alloc (.cells #[.string tk,.slice po pt.length pc,.bool dp,.bool ex,.string ow,.int .i64 ti] 24)=w1):=⟨_,af rfl⟩
 have hs1:w1.heap.size=w.heap.size+1:=by rw[<-hw1.out];simp
 rw[hw1.out] at hb1 hn1
 have hb2:=aJ w1 (.cells #[.string tk,.slice qo pt.length qc,.bool dp,.bool ex,.string ow,.int .i64 ti] 24)
 have hn2:=aM w1 (.cells #[.string tk,.slice qo pt.length qc,.bool dp,.bool ex,.string ow,.int .i64 ti] 24)
 obtain⟨w2,hw2⟩:∃w2:World,Hid (w1.alloc (.cells #[.string tk,.slice qo pt.length qc,.bool dp,.bool ex,.string ow,.int .i64 ti] 24)=w2):=⟨_,af rfl⟩
 rw[hw2.out] at hb2 hn2
 obtain⟨la,hla⟩:∃la:Nat,Hid (w.heap.size=la):=⟨_,af rfl⟩
 obtain⟨lb,hlb⟩:∃lb:Nat,Hid (la+1=lb):=⟨_,af rfl⟩
 rw[hs1,hla.out,hlb.out] at hn2
 rw[hla.out] at hn1
 have hA2:=(hb2.block la (ah.1 hn1).1).trans hn1
 have hb12:=hb1.trans (hb2.mono hb1.size)
 obtain⟨e0,e1,e2,e3,e4,e5,le⟩:=dD hA2
 obtain⟨f0,f1,f2,f3,f4,f5,fl⟩:=dD hn2
 have hds:=QZ _ _ pt pt _ _ w2 (cZ.below HP.out.1 hb12) (cZ.below HP.out.2 hb12)
 rw[bK rfl] at hds
 have HDS:=af hds
 have HB:=af (ay hb12 (ay hA2 hn2))
 have hq1:(tk.toList==tk.toList)=true:=by simp
 have hq2:(ow.toList==ow.toList)=true:=by simp
 have hq3:(ti==ti)=true:=by simp
 clear hb1 hb2 hn1 hn2 hs1 hA2 hb12 hds
 unfold sO
 dsimp only
 go_enter Tryz.func26,Tryz.ntmps26
 go_upto_region 1 with (fail)
 rw[hw1.out,hw2.out,hla.out,hlb.out]
 go_wp2_with (first
  |(go_at_call 30;go_must (refine HDS.out.mono ?_;rintro e w3 ⟨rfl,hb3⟩;refine Stop.of ?_)))
 refine Stop.on ?_
 clear e0 e1 e2 e3 e4 e5 le f0 f1 f2 f3 f4 f5 fl
 obtain⟨e0,e1,e2,e3,e4,e5,le⟩:=dD ((hb3.block la (ah.1 HB.out.2.1).1).trans HB.out.2.1)
 obtain⟨f0,f1,f2,f3,f4,f5,fl⟩:=dD ((hb3.block lb (ah.1 HB.out.2.2).1).trans HB.out.2.2)
 have HB3:=af (HB.out.1.trans (hb3.mono HB.out.1.size))
 clear hb3
 go_wp2_with (fail)
 go_ret
 exact⟨by simp,HB3.out⟩
end Go.Proofs.YtpgdljlghiifjaaGreatDoor
namespace Go.Proofs.YtpgdljlghiifjaaGreatDoor
open Go.RowKit
def Ta (w:World)(ls:List aT)(tk:ByteArray)(now:Int)(e:Ending)(w':World):Prop:=
 (∃(l:aT) (pv:Value),oU (live now ls) tk=some l/\e= .returned (.tuple #[sO l pv,.int .i64 0])/\iM w' (fun g=>g<w.heap.size) pv l.path/\Below w.heap.size w w')\/
 (oU (live now ls) tk=none/\e= .returned (.tuple #[.agg kL.toArray,.int .i64 2])/\Below w.heap.size w w')
theorem yI {ps:List LP}{tk:ByteArray}{k:Nat}(hk:k<ps.length)(h:ps[k].1.token=tk)(hn:∀p∈ps.take k,p.1.token≠tk):oU (ps.map (·.1)) tk=some ps[k].1:=by
 unfold oU
 conv=>lhs;rw[<-bH k ps,bJ hk]
 rw[bZ,List.find?_append,cu,List.find?_cons_of_pos (by exact bK h),List.find?_eq_none.2]
 ·rfl
 ·intro l hl
  obtain⟨p,hp,rfl⟩:=cK.1 hl
  rw[bR]
  exact hn p hp
theorem vW {ps:List LP}{tk:ByteArray}(hn:∀p∈ps,p.1.token≠tk):oU (ps.map (·.1)) tk=none:=by
 unfold oU
 rw[List.find?_eq_none]
 intro l hl
 obtain⟨p,hp,rfl⟩:=cK.1 hl
 rw[bR]
 exact hn p hp
theorem zR (F:Nat->Prop)(v t b:Nat)(ls:List aT)(tk:ByteArray)(now:Int)(w:World)(h:LT F v t b ls w):
  Calls Tryz.prog 40 #[.pointer (some ⟨b,0,none⟩),.string tk,.int .i64 now] w (Ta w ls tk now):=by
 have hb1:=aJ w (.cells #[.string ⟨#[]⟩,.slice none 0 0,.bool false,.bool false,.string ⟨#[]⟩,.int .i64 0] 24)
 have hn1:=aM w (.cells #[.string ⟨#[]⟩,.slice none 0 0,.bool false,.bool false,.string ⟨#[]⟩,.int .i64 0] 24)
 obtain⟨w1,hw1⟩:∃w1:World,Hid (w.alloc (.cells #[.string ⟨#[]⟩,.slice none 0 0,.bool false,.bool false,.string ⟨#[]⟩,.int .i64 0] 24)=w1):=⟨_,af rfl⟩
 rw[hw1.out] at hb1 hn1
 obtain⟨ab,hab⟩:∃ab:Nat,Hid (w.heap.size=ab):=⟨_,af rfl⟩
 rw[hab.out] at hn1
 have hr1:Row w1 ab 24 kL:=hn1
 have HA:=af (yA F v t b ls now w1 (h.below hb1))
 have HX:=af (ay hb1 hr1)
 clear hb1 hn1 hr1 h
 go_enter Tryz.func40,Tryz.ntmps40
 go_upto_region 1 with (fail)
 rw[hw1.out,hab.out]
 go_wp2_with (first
  |(go_at_call 21;go_must (refine HA.out.mono ?_;rintro e w2 ⟨x,rfl,ps,hps,hx,hpp,hb2⟩;refine Stop.of ?_)))
 refine Stop.on ?_
 have hr2:Row w2 ab 24 kL:=HX.out.2.keep (Keep.of_below hb2 (fun _=>False)) id
 have hL2:jy w2 (fun g=>g<w1.heap.size) x ps:=jy.of hx hpp (fun g h1 h2 h3=>absurd h3 (bF.2 h1))
 have hbb:=HX.out.1.trans (hb2.mono HX.out.1.size)
 obtain⟨xo,xc,rfl,_,_,_,_⟩:=cZ.form hL2.1
 have HB:=af (ay hbb (ay hr2 (ay hL2 hps)))
 clear hb2 hr2 hL2 hbb hps hx hpp
 go_upto_region 5 with (fail)
 go_loopw [11,24] (fun _ i wr=>∃k:Nat,k<=ps.length/\i= .int .i64 k/\(∀p∈ps.take k,p.1.token≠tk)/\Below w2.heap.size w2 wr) (fun _ i _=>ps.length - (intOf i).toNat)
 case atStart=>exact⟨0,aV _,rfl,by simp,aN _ _⟩
 case round=>
  obtain⟨k,hk,rfl,hno,hbw⟩:=hrel
  have hrr:Row wr ab 24 kL:=HB.out.2.1.keep (Keep.of_below hbw (fun _=>False)) id
  have HNO:=af hno
  clear hno
  by_cases hkl:k<ps.length
  ·have hkl':(k:Int)<(ps.length:Int):=by omega
   have hLr:=HB.out.2.2.1.keep (Keep.of_below hbw _)
   obtain⟨sb,o,rfl,d0,d1,d2,d3,d4,d5⟩:=hLr.OG.at rfl k hkl
   have hT:=hLr.2 _ (aU hkl)
   have htk:ps.take (k+1)=ps.take k++[ps[k]]:=aI hkl
   have hhit:=fun h=>yI (tk:=tk) hkl h HNO.out
   obtain⟨p,hp⟩:∃p,ps[k]=p:=⟨_,rfl⟩
   rw[hp] at d0 d1 d2 d3 d4 d5 hT htk
   simp only[hp] at hhit
   have hb3:=aJ wr (.cells #[.string p.1.token,p.2,.bool p.1.deep,.bool p.1.excl,.string p.1.owner,.int .i64 p.1.till] 24)
   have hn3:=aM wr (.cells #[.string p.1.token,p.2,.bool p.1.deep,.bool p.1.excl,.string p.1.owner,.int .i64 p.1.till] 24)
   have hbl:=aD wr _ d0
   obtain⟨w3,hw3⟩:∃w3:World,Hid (wr.alloc (.cells #[.string p.1.token,p.2,.bool p.1.deep,.bool p.1.excl,.string p.1.owner,.int .i64 p.1.till] 24)=w3):=⟨_,af rfl⟩
   rw[hw3.out] at hb3 hn3
   obtain⟨gb,hgb⟩:∃gb:Nat,Hid (wr.heap.size=gb):=⟨_,af rfl⟩
   rw[hgb.out] at hn3
   have hr3:Row w3 ab 24 kL:=hrr.keep (Keep.of_below hb3 (fun _=>False)) id
   have hq:=LW p.1.token tk
   have HM:=af (ay htk (ay hhit (ay (hbw.trans (hb3.mono hbw.size)) (ay (cZ.below hT hb3) hn3))))
   have hform:=cZ.form hT
   have hone:=rT p (by obtain⟨qo,qc,e,_⟩:=hform;exact⟨_,_,_,e⟩)
   clear htk hhit hT hp hLr hb3 hbw hn3 hrr
   obtain⟨⟨tkp,pt,dp,ex,ow,ti⟩,qv⟩:=p
   dsimp only at d0 d1 d2 d3 d4 d5 hw3 HM hform hq
   obtain⟨qo,qc,rfl,_,_,_,_⟩:=hform
   have HONE:=af hone
   clear hone
   go_upto_region 7 with (fail)
   rw[hw3.out,hgb.out]
   clear d0 d1 d2 d3 d4 d5 hbl
   obtain⟨e0,e1,e2,e3,e4,e5,le⟩:=dD HM.out.2.2.2.2
   by_cases he:tkp=tk
   ·rw[bK he] at hq
    have HE:=af he
    clear he
    go_wp2_with (first
     |((refine dF rfl ?_);intro K hK;(refine wp_store_row 24 (.tmp 6) (.tmp 32) rfl ab 0 24 _ [Value.string tkp,.slice qo pt.length qc,.bool dp,.bool ex,.string ow,.int .i64 ti] rfl rfl hr3 kX (aG 6) HONE.out ?_);intro w4 hr4 hk4;refine hK _ _ ?_))
    refine iU (gT rfl _ w4 ab _ (.int .i64 0) rfl (jF hr4 rfl) rfl) rfl ?_
    have hbb:=HB.out.1.trans (HM.out.2.2.1.mono HB.out.1.size)
    refine .inl ⟨⟨tkp,pt,dp,ex,ow,ti⟩,.slice qo pt.length qc,?_,rfl,?_,?_⟩
    ·rw[<-HB.out.2.2.2]
     exact HM.out.2.1 HE.out
    ·have hs1:=HX.out.1.size
     have hlt1:ab<w1.heap.size:=HX.out.2.lt
     exact cZ.keep HM.out.2.2.2.1 fun g hg hl hn=>⟨hk4.block g hl (fun e=>hn (by rw[e];exact hlt1)),fun e=>hn (ak e hs1)⟩
    ·exact hbb.trans (hk4.fK hbb.size fun g hg e=>by have:=hab.out;omega)
   ·rw[bD he] at hq
    have HE:=af he
    clear he
    go_wp2_with (fail)
    go_roundw
    case rel=>
     refine⟨k+1,by omega,by go_num,?_,HM.out.2.2.1⟩
     intro q hq
     rw[HM.out.1] at hq
     rcases bM.1 hq with hq|hq
     ·exact HNO.out q hq
     ·rw[bI.1 hq];exact HE.out
    case measure=>simp[intOf];omega
  ·obtain rfl:k=ps.length:=by omega
   have x2:¬(ps.length:Int)<(ps.length:Int):=by omega
   have HBW:=af hbw
   clear hbw
   go_wp2_with (first
    |((refine dF rfl ?_);intro K hK;(refine wp_store_row 24 (.tmp 6) (.tmp 34) rfl ab 0 24 _ kL rfl rfl hrr kX (aG 6) qN ?_);intro w4 hr4 hk4;refine hK _ _ ?_))
   refine iU (gT rfl _ w4 ab _ (.int .i64 2) rfl (jF hr4 rfl) rfl) rfl ?_
   have hbb:=HB.out.1.trans (HBW.out.mono HB.out.1.size)
   refine .inr ⟨?_,rfl,hbb.trans (hk4.fK hbb.size fun g hg e=>by have:=hab.out;omega)⟩
   rw[<-HB.out.2.2.2]
   exact vW (by have:=HNO.out;rwa [bO] at this)
theorem uS {now n2:Int}(h:now<=n2)(ls:List aT):live n2 (live now ls)=live n2 ls:=by
 unfold live
 rw[List.filter_filter]
 congr 1
 funext l
 by_cases h2:n2<l.till
 ·simp[h2,show now<l.till by omega]
 ·simp[h2]
structure Alone (now:Int)(ls:List aT):Prop where
 len:(live now ls).length<=32
 pair:(live now ls).Pairwise fun a b=>a.clash b=false/\a.token≠b.token
theorem rX {ls:List aT}{tk:ByteArray}{l:aT}(h:oU ls tk=some l):l∈ls/\l.token=tk:=by
 unfold oU at h
 have h2:=List.find?_some h
 exact⟨List.mem_of_find?_eq_some h,by simpa using h2⟩
theorem xh {ls:List aT}{l:aT}{now:Int}(h:l∈live now ls):l∈ls/\now<l.till:=by
 obtain⟨h1,h2⟩:=kJ.1 h
 exact⟨h1,fV h2⟩
def SX (F:Nat->Prop)(v t b:Nat)(ls:List aT)(w:World)(e:Ending)(w':World):Prop:=
 ∃(z:Int) (ls':List aT),e= .returned (.int .i64 z)/\(ls'=ls\/∃A l B,ls=A++l::B/\ls'=A++B)/\LT F v t b ls' w'/\Keep (fun g=>¬F g) w w'
theorem yx (F:Nat->Prop)(v t b:Nat)(ls:List aT)(tk:ByteArray)(now:Int)(w:World)(h:LT F v t b ls w):
  Calls Tryz.prog 20 #[.pointer (some ⟨b,0,none⟩),.string tk,.int .i64 now] w (SX F v t b ls w):=by
 have HF:=af (zR F v t b ls tk now w h)
 have H:=af h
 clear h
 go_enter Tryz.func20,Tryz.ntmps20
 go_wp2_with (first
  |(go_at_call 40;go_must (refine HF.out.mono ?_;rintro e w1 (⟨l,pv,hfl,rfl,hpv,hb1⟩|⟨hfl,rfl,hb1⟩)<;>refine Stop.of ?_)))
 ·refine Stop.on ?_
  obtain⟨hm,ht⟩:=rX hfl
  obtain⟨hm,_⟩:=xh hm
  have hfit:=H.out.ok.fit l hm
  obtain⟨A,B,hAB⟩:=List.append_of_mem hm
  have hT1:=H.out.below hb1
  have hks:¬9223372036854775807<1+tk.size:=by have:=hfit.tok;rw[ht] at this;omega
  have hla:=F3 tk
  have hrise:=H.out.ok.rise
  have hsub:zw (A++B):=by
   have h1:=H.out.ok
   rw[hAB] at h1
   exact⟨h1.rise.sublist ((ql (oL _) (List.sublist_cons_self _ _)).map _),fun x hx=>h1.fit x (by simp at hx ⊢;rcases hx with hx|hx<;>simp[hx]),by have:=h1.len;simp at this ⊢;omega⟩
  rw[hAB] at hrise
  have hdel:mD (ls.map aT.pair) (iH tk)=(A++B).map aT.pair:=by
   rw[hAB,<-ht];exact zV hrise
  have hlook:(eu (ls.map aT.pair) (iH tk)).isSome=true:=by
   rw[hAB,<-ht];exact A7 hrise
  have htk:tk.size<=60:=by rw[<-ht];exact hfit.tok
  obtain⟨tkl,pt,dp,ex,ow,ti⟩:=l
  dsimp only at hpv
  obtain⟨po,pc,rfl,_,_,_,_⟩:=cZ.form hpv
  have hb2:=aJ w1 (.cells #[.string tkl,.slice po pt.length pc,.bool dp,.bool ex,.string ow,.int .i64 ti] 24)
  have hb12:=hb1.trans (hb2.mono hb1.size)
  have hT2:=H.out.below hb12
  have hob2:=hT2.obj
  obtain⟨w2,hw2⟩:∃w2:World,Hid (w1.alloc (.cells #[.string tkl,.slice po pt.length pc,.bool dp,.bool ex,.string ow,.int .i64 ti] 24)=w2):=⟨_,af rfl⟩
  rw[hw2.out] at hT2 hob2 hb12
  have HDL:=af (hT2.del tk htk (A++B) hdel hlook hsub)
  have c0:w2.cell? ⟨b,0,none⟩=some (.pointer (some ⟨t,0,none⟩)):=by simp[World.cell?,hob2]
  have bl:=(ah.1 hob2).1
  have HB:=af (ay hb12 hAB)
  clear hb1 hb2 hb12 hT1 hT2 hob2 hpv hfit hrise hsub hdel hlook htk hm ht hfl hAB
  unfold sO
  dsimp only
  go_upto_region 2 with (fail)
  rw[hw2.out]
  go_wp2_with (first
   |(go_at_call 41;go_must (refine HDL.out.mono ?_;rintro e w3 ⟨rfl,hT3,hk3⟩;refine Stop.of ?_)))
  refine Stop.on ?_
  have HW:=af (ay hT3 hk3)
  clear hT3 hk3 c0 bl hla hks
  go_wp2_with (fail)
  go_ret
  exact⟨0,A++B,rfl,.inr ⟨A,_,B,HB.out.2,rfl⟩,HW.out.1,(Keep.of_below HB.out.1 _).trans HW.out.2 (fun _ _ e=>e)⟩
 ·refine Stop.on ?_
  have HB:=af hb1
  clear hb1 hfl
  unfold kL
  go_wp2_with (fail)
  go_ret
  have hb:=HB.out.trans ((aJ w1 (.cells #[.string ⟨#[]⟩,.slice none 0 0,.bool false,.bool false,.string ⟨#[]⟩,.int .i64 0] 24)).mono HB.out.size)
  exact⟨2,ls,rfl,.inl rfl,H.out.below hb,Keep.of_below hb _⟩
end Go.Proofs.YtpgdljlghiifjaaGreatDoor
namespace Go.Proofs.YtpgdljlghiifjaaGreatDoor
open Go.RowKit Go.Shelf
theorem Q0 (xv yv:Value)(xs ys:List LP)(S T:Nat->Prop)(w:World)(hx:jy w S xv xs)(hy:jy w T yv ys)(he:xs.map (·.1)=ys.map (·.1)):
  Calls Tryz.prog 22 #[xv,yv] w fun e w'=>e= .returned (.bool true)/\Below w.heap.size w w':=by
 obtain⟨xo,xc,rfl,hx1,hx2,_,_⟩:=cZ.form hx.1
 obtain⟨yo,yc,rfl,hy1,hy2,_,_⟩:=cZ.form hy.1
 have hlen:xs.length=ys.length:=by have:=congrArg List.length he;simpa using this
 have hz:((xs.length:Int)==(ys.length:Int))=true:=jl.2 (by omega)
 have H:=af (ay hx (ay hy (ay he hlen)))
 clear hx hy he hlen
 go_enter Tryz.func22,Tryz.ntmps22
 go_upto_region 4 with (fail)
 go_loopw [5] (fun i wr=>∃k:Nat,k<=xs.length/\i= .int .i64 k/\Below w.heap.size w wr) (fun i _=>xs.length - (intOf i).toNat)
 case atStart=>exact⟨0,aV _,rfl,aN _ _⟩
 case round=>
  obtain⟨k,hk,rfl,hbw⟩:=hrel
  by_cases hkl:k<xs.length
  ·have hkl':(k:Int)<(xs.length:Int):=by omega
   have hkm:k<ys.length:=by have:=H.out.2.2.2;omega
   have hkm':(k:Int)<(ys.length:Int):=by omega
   have hX:=H.out.1.keep (Keep.of_below hbw _)
   have hY:=H.out.2.1.keep (Keep.of_below hbw _)
   obtain⟨xb,xo',rfl,d0,d1,d2,d3,d4,d5⟩:=hX.OG.at rfl k hkl
   obtain⟨yb,yo',rfl,g0,g1,g2,g3,g4,g5⟩:=hY.OG.at rfl k hkm
   have hpx:=hX.2 _ (aU hkl)
   have hpy:=hY.2 _ (aU hkm)
   have hee:xs[k].1=ys[k].1:=by
    have h1:=congrArg (fun l=>l[k]?) H.out.2.2.1
    simp only[dh,aZ hkl,aZ hkm,gU] at h1
    exact iJ h1
   obtain⟨p,hp⟩:∃p,xs[k]=p:=⟨_,rfl⟩
   obtain⟨q,hq⟩:∃q,ys[k]=q:=⟨_,rfl⟩
   rw[hp] at d0 d1 d2 d3 d4 d5 hpx hee
   rw[hq] at g0 g1 g2 g3 g4 g5 hpy hee
   have lx:=aD wr _ d0
   have ly:=aD wr _ g0
   obtain⟨l,pv⟩:=p
   obtain⟨l',qv⟩:=q
   dsimp only at d0 d1 d2 d3 d4 d5 hpx hee g0 g1 g2 g3 g4 g5 hpy
   subst hee
   have hds:=PG l pv qv _ _ wr.drew (cZ.below hpx ((aN _ wr).drew)) (cZ.below hpy ((aN _ wr).drew))
   unfold sO at hds
   have HDS:=af hds
   obtain⟨po,pc,rfl,_,_,_,_⟩:=cZ.form hpx
   obtain⟨qo,qc,rfl,_,_,_,_⟩:=cZ.form hpy
   have HB:=af hbw
   clear hds hpx hpy hX hY hp hq hbw
   go_wp2_with (fail)
   refine aQ (fun W=>Below wr.heap.size wr W) (fun i=> !([8].contains i)) [0,1,2,3,4,5,6,7,8,9] rfl (by kernel_rfl) ((aN _ wr).drew) ?_
   repeat ((refine bP (v:= ?_) rfl rfl (fun _ _ _ h=>h) rfl (fun W hW=> ?_) ?_);rotate_left;(focus ((try dsimp only at hW);have a0:=(hW.cell lx).trans d0;have a1:=(hW.cell lx).trans d1;have a2:=(hW.cell lx).trans d2;have a3:=(hW.cell lx).trans d3;have a4:=(hW.cell lx).trans d4;have a5:=(hW.cell lx).trans d5;have b0:=(hW.cell ly).trans g0;have b1:=(hW.cell ly).trans g1;have b2:=(hW.cell ly).trans g2;have b3:=(hW.cell ly).trans g3;have b4:=(hW.cell ly).trans g4;have b5:=(hW.cell ly).trans g5;have la:=ak lx hW.size;have lb:=ak ly hW.size;(go_simp;first|done|with_reducible rfl)));(try simp only[Act.put,aj,ax,au]))
   refine dA rfl rfl rfl ?_;intro K hK;go_simp
   refine HDS.out.mono ?_;rintro e w3 ⟨rfl,hb3⟩
   have hb3':Below wr.heap.size wr w3:=(aN _ wr).drew.trans hb3
   refine hK.out _ _ hb3' ?_
   (try simp only[Act.put,aj,ax,au])
   repeat ((refine bP (v:= ?_) rfl rfl (fun _ _ _ h=>h) rfl (fun W hW=> ?_) ?_);rotate_left;(focus ((try dsimp only at hW);skip;(go_simp;first|done|with_reducible rfl)));(try simp only[Act.put,aj,ax,au]))
   refine bU ?_
   have HB3:=af (HB.out.trans (hb3'.mono HB.out.size))
   clear hb3 hb3' d0 d1 d2 d3 d4 d5 g0 g1 g2 g3 g4 g5 lx ly
   go_wp2_with (fail)
   go_roundw
   case rel=>exact⟨k+1,by omega,by go_num,HB3.out⟩
   case measure=>simp[intOf];omega
  ·obtain rfl:k=xs.length:=by omega
   have x2:¬(xs.length:Int)<(xs.length:Int):=by omega
   have HB:=af hbw
   clear hbw
   go_wp2_with (fail)
   go_ret
   exact⟨rfl,HB.out⟩
structure CF where
 kd:Int
 l:aT
 pv:Value
 now:Int
def pU (o:CF):List Value:=[.int .u8 o.kd,.string o.l.token,o.pv,.bool o.l.deep,.bool o.l.excl,.string o.l.owner,.int .i64 o.l.till,.int .i64 o.now]
def ng (w:World)(v:Value)(os:List CF):Prop:=cZ w fC 8 v os.length (os.flatMap pU)/\∀o∈os,iM w fC o.pv o.l.path
structure CF.Wf (o:CF):Prop where
 kd:0<=o.kd/\o.kd<=255
 sized:o.l.BR
 till: -9223372036854775808<=o.l.till/\o.l.till<9223372036854775808
 now: -9223372036854775808<=o.now/\o.now<9223372036854775808
theorem ng.at {w:World}{v:Value}{os:List CF}(h:ng w v os){ao:Option Addr}{n c:Nat}(hv:v= .slice ao n c)(i:Nat)(hi:i<os.length):
  ∃b o,ao=some ⟨b,o,none⟩/\w.cell? ⟨b,o+i*8,none⟩=some (.int .u8 os[i].kd)/\w.cell? ⟨b,o+i*8+1,none⟩=some (.string os[i].l.token)/\w.cell? ⟨b,o+i*8+2,none⟩=some os[i].pv/\w.cell? ⟨b,o+i*8+3,none⟩=some (.bool os[i].l.deep)/\w.cell? ⟨b,o+i*8+4,none⟩=some (.bool os[i].l.excl)/\w.cell? ⟨b,o+i*8+5,none⟩=some (.string os[i].l.owner)/\w.cell? ⟨b,o+i*8+6,none⟩=some (.int .i64 os[i].l.till)/\w.cell? ⟨b,o+i*8+7,none⟩=some (.int .i64 os[i].now):=by
 obtain⟨h,_⟩:=h
 obtain⟨ao',c',e,_,_,_,_,_,h6⟩:=cZ.real h (Nat.lt_of_le_of_lt (aV _) hi)
 rw[hv] at e
 cases e
 have key:∀j u,j<8->(pU os[i])[j]? =some u->∃b o,ao=some ⟨b,o,none⟩/\w.cell? ⟨b,o+i*8+j,none⟩=some u:=fun j u hj hu=>by
  obtain⟨b,o,e1,e2⟩:=h6 (i*8+j) u (by rw[p8 pU 8 (fun _=>rfl) os i j hi hj];exact hu)
  exact⟨b,o,e1,by rw[gX];exact e2⟩
 obtain⟨b,o,rfl,g0⟩:=key 0 _ (by omega) rfl
 obtain⟨_,_,e1,g1⟩:=key 1 _ (by omega) rfl;cases e1
 obtain⟨_,_,e1,g2⟩:=key 2 _ (by omega) rfl;cases e1
 obtain⟨_,_,e1,g3⟩:=key 3 _ (by omega) rfl;cases e1
 obtain⟨_,_,e1,g4⟩:=key 4 _ (by omega) rfl;cases e1
 obtain⟨_,_,e1,g5⟩:=key 5 _ (by omega) rfl;cases e1
 obtain⟨_,_,e1,g6⟩:=key 6 _ (by omega) rfl;cases e1
 obtain⟨_,_,e1,g7⟩:=key 7 _ (by omega) rfl;cases e1
 exact⟨b,o,rfl,g0,g1,g2,g3,g4,g5,g6,g7⟩
theorem ng.below {w w':World}{v:Value}{os:List CF}(h:ng w v os)(hb:Below w.heap.size w w'):ng w' v os:=⟨cZ.below h.1 hb,fun o ho=>cZ.below (h.2 o ho) hb⟩
theorem pV {F:Nat->Prop}{B:Nat}{w w':World}(hk:Keep (fun g=>¬F g) w w')(hF:∀g,g<B->F g)(hB:B<=w.heap.size):Below B w w':=hk.fK hB fun g hg e=>e (hF g hg)
theorem Ih {S F:Nat->Prop}{B:Nat}{v:Value}{l:List ByteArray}{w0 w:World}(h:iM w0 S v l)(hs:w0.heap.size<=B)(hb:Below w0.heap.size w0 w)(hF:∀g,g<B->F g):iM w (fun g=>¬F g) v l:=
 cZ.keep h fun g _ hl _=>⟨hb.block g hl,fun e=>e (hF g (ak hl hs))⟩
def Twin (F1 F2:Nat->Prop)(v1 t1 b1 v2 t2 b2:Nat)(ls1 ls2:List aT)(B:Nat)(w:World):Prop:=
 LT F1 v1 t1 b1 ls1 w/\LT F2 v2 t2 b2 ls2 w/\(∀g,g<w.heap.size->F1 g\/F2 g)/\(∀g,g<B->F1 g)/\(∀g,g<B->F2 g)/\F1 b2/\F2 b1
section
variable {F1 F2:Nat->Prop} {v1 t1 b1 v2 t2 b2:Nat} {ls1 ls2:List aT} {B:Nat} {w:World}
end
def Te (F:Nat->Prop)(v t b:Nat)(w:World)(n:Nat)(m i:Value)(wr:World):Prop:=
 ∃(k:Nat) (ls:List aT) (nw:Int),k<=n/\i= .int .i64 k/\m= .int .i64 nw/\(0<=nw/\nw<9223372036854775808)/\LT F v t b ls wr/\Below w.heap.size w wr
def Sy (W:World)(th:Int)(ps:List LP)(v i:Value)(wr:World):Prop:=
 ∃(k:Nat) (zs:List LP),k<=ps.length/\i= .int .i64 k/\zs=(ps.take k).filter (fun p=>decide (th<p.1.till))/\aS wr fC W.heap.size 24 6 v zs.length (zs.flatMap kE)/\Below W.heap.size W wr
theorem Er (os:List CF)(sv:Value)(more:Int)(w:World)(h:ng w sv os)(hwf:∀o∈os,o.Wf)(hmo:0<=more/\more<=65535)(hT:vw w):
  Calls Tryz.prog 6 #[sv,.int .u16 more] w fun e w'=>e= .returned (.bool true)/\Below w.heap.size w w':=by
 obtain⟨so,sc,rfl,hs1,hs2,_,_⟩:=cZ.form h.1
 have HFX:=af (xg w hT)
 have H:=af (ay h (ay hwf (ay hmo hT)))
 clear h hwf hT
 go_enter Tryz.func6,Tryz.ntmps6
 by_cases h100:100<os.length
 ·have x1:(100:Int)<(os.length:Int):=by omega
  go_wp2_with (first
   |(go_at_call 9;go_must (refine HFX.out.mono ?_;rintro e w2 ⟨rfl,hb2⟩;refine Stop.of ?_)))
  refine Stop.on ?_
  have HFX2:=af (xg w2 (H.out.2.2.2.below hb2))
  have HB:=af hb2
  clear hb2
  go_wp2_with (first
   |(go_at_call 9;go_must (refine HFX2.out.mono ?_;rintro e w3 ⟨rfl,hb3⟩)))
  go_ret
  exact⟨rfl,HB.out.trans (hb3.mono HB.out.size)⟩
 ·have x1:¬(100:Int)<(os.length:Int):=by omega
  clear h100
  go_wp2_with (first
   |(go_at_call 9;go_must (refine HFX.out.mono ?_;rintro e w2 ⟨rfl,hb2⟩;refine Stop.of ?_)))
  refine Stop.on ?_
  have HB2:=af hb2
  clear hb2
  go_wp2_with (first
   |(go_at_call 18;go_must ((refine(A9 w2).mono ?_);rintro e w3 ⟨t,b,rfl,v,F,hL,hF,hb3,_⟩;refine Stop.of ?_)))
  refine Stop.on ?_
  have hF0:∀g,g<w.heap.size->F g:=fun g hg=>hF g (ak hg HB2.out.size)
  have hst:Te F v t b w os.length (.int .i64 0) (.int .i64 0) w3:=⟨0,[],0,aV _,rfl,rfl,⟨by omega,by omega⟩,hL,HB2.out.trans (hb3.mono HB2.out.size)⟩
  have HF:=af hF0
  clear hL hF hb3 hF0
  go_upto_region 6 with (fail)
  go_loopw [7,8] (fun m i wr=>Te F v t b w os.length m i wr) (fun _ i _=>os.length - (intOf i).toNat)
  case atStart=>exact hst
  case round=>
   obtain⟨k,ls,nw,hk,rfl,rfl,hnw,hTk,hbw⟩:=hrel
   clear hst
   by_cases hkl:k<os.length
   ·have hkl':(k:Int)<(os.length:Int):=by omega
    obtain⟨sb,o,rfl,d0,d1,d2,d3,d4,d5,d6,d7⟩:=(H.out.1.below hbw).at rfl k hkl
    have hmem:=aU hkl
    obtain⟨op,hop⟩:∃op,os[k]=op:=⟨_,rfl⟩
    rw[hop] at d0 d1 d2 d3 d4 d5 d6 d7 hmem
    have hw:=H.out.2.1 op hmem
    have hp:=Ih (w:=wr) (F:=F) (B:=w.heap.size) (H.out.1.2 op hmem) (aG _) hbw HF.out
    have hsl:=aD wr _ d0
    have hrm:∀W:World,(Builtin.max_ #[2,2] 2 #[.int .i64 nw,.int .i64 op.now]).run Tryz.prog W= .ok (.int .i64 (max nw op.now)) W:=fun W=>by rw[run_max_int2,show (if op.now>nw then op.now else nw)=max nw op.now by split<;>omega]
    have hm2:0<=max nw op.now/\max nw op.now<9223372036854775808:=by have:=hw.now;omega
    obtain⟨nm,hnm⟩:∃nm,max nw op.now=nm:=⟨_,rfl⟩
    rw[hnm] at hm2
    simp only[hnm] at hrm
    have hrv:=yx F v t b ls op.l.token nm wr hTk
    have had:=Bb F v t b ls op.l op.pv nm wr hTk hp hw.sized (H.out.2.2.2.below hbw) hw.till
    have hpf:=cZ.form hp
    have hkd:=hw.kd
    have HM:=af (ay hm2 (ay hTk hbw))
    have hadT: -9223372036854775808<=op.l.till/\op.l.till<9223372036854775808:=hw.till
    clear hnm hm2 hTk hbw hp hw hmem hop hnw hadT
    obtain⟨kd,⟨tk,pt,dp,ex,ow,ti⟩,pv,no⟩:=op
    dsimp only at d0 d1 d2 d3 d4 d5 d6 d7 hrm hrv had hpf hkd
    unfold sO at had
    dsimp only at had
    obtain⟨po,pc,rfl,_,_,_,_⟩:=hpf
    have HRV:=af hrv
    have HAD:=af had
    clear hrv had
    go_upto_region 9 with (fail)
    by_cases h3:kd%3=0
    ·have q1:(kd%3==0)=true:=jl.2 h3
     clear h3
     go_wp2_with (first
      |(go_at_call 20;go_must (refine HRV.out.mono ?_;rintro e w4 ⟨z,ls',rfl,_,hT4,hk4⟩;refine Stop.of ?_)))
     refine Stop.on ?_
     have HW:=af (ay hT4 (HM.out.2.2.trans (pV hk4 HF.out HM.out.2.2.size)))
     clear hT4 hk4 d0 d1 d2 d3 d4 d5 d6 d7 hsl
     go_wp2_with (fail)
     go_roundw
     case rel=>exact⟨k+1,ls',nm,by omega,by go_num,rfl,HM.out.1,HW.out.1,HW.out.2⟩
     case measure=>simp[intOf];omega
    ·have q1:(kd%3==0)=false:=bV.2 h3
     clear h3
     go_wp2_with (first
      |(go_at_call 19;go_must (refine HAD.out.mono ?_;rintro e w4 ⟨rfl,hT4,hk4⟩;refine Stop.of ?_)))
     refine Stop.on ?_
     have HW:=af (ay hT4 (HM.out.2.2.trans (pV hk4 HF.out HM.out.2.2.size)))
     clear hT4 hk4 d0 d1 d2 d3 d4 d5 d6 d7 hsl
     go_wp2_with (fail)
     go_roundw
     case rel=>exact⟨k+1,_,nm,by omega,by go_num,rfl,HM.out.1,HW.out.1,HW.out.2⟩
     case measure=>simp[intOf];omega
   ·obtain rfl:k=os.length:=by omega
    have x2:¬(os.length:Int)<(os.length:Int):=by omega
    by_cases hbig:(1152921504606846976:Int)<nw
    ·have HW:=af hbw
     clear hbw hTk hnw
     go_wp2_with (fail)
     go_ret
     exact⟨rfl,HW.out⟩
    ·have hma:nw+more<9223372036854775808/\0<=more:=by have:=H.out.2.2.1;omega
     have hwr:wrap64 (nw+more)=nw+more:=by unfold wrap64;omega
     have HA:=af (yA F v t b ls nw wr hTk)
     have HT:=af (ay hTk (ay hbw (ay hnw hma)))
     clear hTk hbw hnw hma
     go_wp2_with (first
      |(go_at_call 21;go_must (refine HA.out.mono ?_;rintro e w4 ⟨x,rfl,ps,hps,hx,hpp,hb4⟩;refine Stop.of ?_)))
     refine Stop.on ?_
     have hT4:=HT.out.1.below hb4
     have HA2:=af (yA F v t b ls (nw+more) w4 hT4)
     have hL4:jy w4 fC x ps:=jy.of hx hpp (fun g _ _ e=>e)
     obtain⟨xo,xc,rfl,hx1,hx2,_,_⟩:=cZ.form hL4.1
     have hlen:ps.length<=33:=by
      have:=(HT.out.1.ok.live nw).len
      rw[<-hps,dw] at this
      exact this
     have H4:=af (ay hL4 (ay hps (ay hb4 hlen)))
     clear hL4 hps hx hpp hb4 hT4
     go_wp2_with (first
      |(go_at_call 21;go_must (refine HA2.out.mono ?_;rintro e w5 ⟨y,rfl,qs,hqs,hy,hqq,hb5⟩;refine Stop.of ?_)))
     refine Stop.on ?_
     obtain⟨yo,yc,rfl,hy1,hy2,_,_⟩:=cZ.form hy.qm
     have hL5:jy w5 fC (.slice yo qs.length yc) qs:=jy.of hy hqq (fun g _ _ e=>e)
     have hf5:jy w5 fC (.slice xo ps.length xc) ps:=H4.out.1.keep (Keep.of_below hb5 _)
     have hst:Sy w5 (nw+more) ps (.slice none 0 0) (.int .i64 0) w5:=⟨0,[],aV _,rfl,by simp,aS.nil _ _ _ _ _,aN _ _⟩
     have hq:qs.map (·.1)=(ps.filter fun p=>decide (nw+more<p.1.till)).map (·.1):=by
      rw[hqs,<-uS (now:=nw) (n2:=nw+more) (by have:=HT.out.2.2.2.2;omega),<-H4.out.2.1]
      unfold live
      rw[List.filter_map]
      rfl
     have H5:=af (ay hL5 (ay hf5 (ay hq ((HT.out.2.1.trans (H4.out.2.2.1.mono HT.out.2.1.size)).trans (hb5.mono (HT.out.2.1.trans (H4.out.2.2.1.mono HT.out.2.1.size)).size)))))
     have hpl:(ps.length:Int)<=33:=by have:=H4.out.2.2.2;omega
     have hnn:0<=nw/\nw+more<9223372036854775808:=⟨HT.out.2.2.1.1,HT.out.2.2.2.1⟩
     clear hL5 hf5 hq hqs hy hqq hb5
     go_upto_region 20 with (fail)
     go_loopw [13,14] (fun v i wr=>Sy w5 (nw+more) ps v i wr) (fun _ i _=>ps.length - (intOf i).toNat)
     case atStart=>exact hst
     case round=>
      obtain⟨k,zs,hk,rfl,hz,hO,hbw⟩:=hrel
      clear hst
      by_cases hkl:k<ps.length
      ·have hkl':(k:Int)<(ps.length:Int):=by omega
       have hX:=H5.out.2.1.keep (Keep.of_below hbw _)
       obtain⟨xb,xo',rfl,d0,d1,d2,d3,d4,d5⟩:=hX.OG.at rfl k hkl
       have hpx:=hX.2 _ (aU hkl)
       have htk:ps.take (k+1)=ps.take k++[ps[k]]:=aI hkl
       obtain⟨p,hp⟩:∃p,ps[k]=p:=⟨_,rfl⟩
       rw[hp] at d0 d1 d2 d3 d4 d5 hpx htk
       have lx:=aD wr _ d0
       obtain⟨⟨tk,pt,dp,ex,ow,ti⟩,pv⟩:=p
       dsimp only at d0 d1 d2 d3 d4 d5 hpx
       obtain⟨po,pc,rfl,_,_,_,_⟩:=cZ.form hpx
       obtain⟨vo,vc,rfl,_,_,_,_⟩:=cZ.form hO.qm
       have hzl:zs.length<=k:=by
        have h1:=jS (fun p:LP=>decide (nw+more<p.1.till)) (ps.take k)
        rw[<-hz,aF] at h1
        omega
       have hone:=rT (⟨tk,pt,dp,ex,ow,ti⟩,.slice po pt.length pc) ⟨_,_,_,rfl⟩
       by_cases hti:nw+more<ti
       ·have hb6:=aJ wr (.cells #[.string tk,.slice po pt.length pc,.bool dp,.bool ex,.string ow,.int .i64 ti] 24)
        have hO6:=hO.below hb6
        have hsz:w5.heap.size<=(wr.alloc (.cells #[.string tk,.slice po pt.length pc,.bool dp,.bool ex,.string ow,.int .i64 ti] 24)).heap.size:=aH hbw.size hb6.size
        have HZ:=af (ay hz (ay hbw (ay hb6 (ay hO6 (ay hsz (ay htk (ay hone hzl)))))))
        clear hz hbw hb6 hO6 hsz htk hone hzl hX hpx hO hp
        go_wp2_with (first
         |(at_builtin;go_must ((refine dK rfl (.tmp 102) (.tmp 107) 26 26 rfl fC w5.heap.size 24 6 72 _ Tryz.underlying26 yG rfl (.slice vo zs.length vc) _ _ rfl HZ.out.2.2.2.1 _ 1 _ rfl (gI [.string tk,.slice po pt.length pc,.bool dp,.bool ex,.string ow,.int .i64 ti] _ 6 1 1 (by simp) Tryz.underlying26 rfl HZ.out.2.2.2.2.2.2.1) (fun _ h=>h.elim) HZ.out.2.2.2.2.1 ?_ ?_ ?_);(focus (unfold maxLen;have:=HZ.out.2.2.2.2.2.2.2;omega));(focus (have:=HZ.out.2.2.2.2.2.2.2;omega));intro ao6 c6 w6 hown6 hk6 hbb6 hd6;refine Stop.of ?_)))
        refine Stop.on ?_
        have hnew:Sy w5 (nw+more) ps (.slice ao6 (zs.length+1) c6) (.int .i64 ((k+1:Nat):Int)) w6:=by
         refine⟨k+1,zs++[(⟨tk,pt,dp,ex,ow,ti⟩,.slice po pt.length pc)],hkl,rfl,?_,?_,?_⟩
         ·rw[HZ.out.2.2.2.2.2.1,fJ,<-HZ.out.1]
          simp[hti]
         ·rw[iV,aC]
          simp only[dB,pG,dP,aY,bG]
          exact hown6
         ·exact(HZ.out.2.1.trans (HZ.out.2.2.1.mono HZ.out.2.1.size)).trans hbb6
        have HNEW:=af hnew
        clear hnew hown6 hk6 hbb6 hd6 d0 d1 d2 d3 d4 d5 lx
        go_wp2_with (fail)
        go_roundw
        case rel=>exact HNEW.out
        case measure=>simp[intOf];omega
       ·have hnew:Sy w5 (nw+more) ps (.slice vo zs.length vc) (.int .i64 ((k+1:Nat):Int)) wr:=by
         refine⟨k+1,zs,hkl,rfl,?_,hO,hbw⟩
         rw[htk,fJ,<-hz]
         simp[hti]
        have HNEW:=af hnew
        clear hnew hz hbw htk hone hzl hX hpx hO hp
        go_wp2_with (fail)
        go_roundw
        case rel=>exact HNEW.out
        case measure=>simp[intOf];omega
      ·obtain rfl:k=ps.length:=by omega
       have x3:¬(ps.length:Int)<(ps.length:Int):=by omega
       rw[bO] at hz
       obtain⟨vo,vc,rfl,_,_,_,_⟩:=cZ.form hO.qm
       have hW:jy wr fC (.slice vo zs.length vc) zs:=⟨hO.qm,fun p hp=>by
        rw[hz] at hp
        exact cZ.below (H5.out.2.1.2 p (kJ.1 hp).1) hbw⟩
       have HSA:=af (Q0 _ _ qs zs fC fC wr (H5.out.1.keep (Keep.of_below hbw _)) hW (by rw[hz];exact H5.out.2.2.1))
       have HB:=af (H5.out.2.2.2.trans (hbw.mono H5.out.2.2.2.size))
       clear hO hW hbw hz
       go_wp2_with (first
        |(go_at_call 22;go_must (refine HSA.out.mono ?_;rintro e w9 ⟨rfl,hb9⟩)))
       go_ret
       exact⟨rfl,HB.out.trans (hb9.mono HB.out.size)⟩
end Go.Proofs.YtpgdljlghiifjaaGreatDoor
namespace Go.Proofs.YtpgdljlghiifjaaGreatDoor
open Go.RowKit Go.ChangeShapes Go.WideShapes Go.ChangeAt Go.Deep Go.Shelf Go.Lib
theorem AU {H:Type}{enc:TypeId×Value->H}{W:World}{fuel:Nat}{cs:List Value}{x:DataW H×List MemPlace}(h:DataW.trod enc Tryz.prog W 0 (fun _=>true) true fuel 44 cs=some x):
  ∃(kd:Int) (l:aT) (pv:Value) (now:Int),cs=[.int .u8 kd,.string l.token,pv,.bool l.deep,.bool l.excl,.string l.owner,.int .i64 l.till,.int .i64 now]/\(0<=kd/\kd<=255)/\iM W fC pv l.path/\l.BR/\(-9223372036854775808<=l.till/\l.till<9223372036854775808)/\(-9223372036854775808<=now/\now<9223372036854775808):=by
 obtain⟨xs,n,_,rfl,hl,hlen,hf⟩:=DataW.trod_struct Tryz.underlying44 h
 have h8:Tryz.prog.cellsOf 44=8:=by kernel_rfl
 have c5:Tryz.prog.cellsOf 5=1:=by kernel_rfl
 have c24:Tryz.prog.cellsOf 24=6:=by kernel_rfl
 have c2:Tryz.prog.cellsOf 2=1:=by kernel_rfl
 rw[h8] at hl
 match xs,hlen,cs,hl with
 |[y0,y1,y2],_,[v0,v1,v2,v3,v4,v5,v6,v7],_=>
  have g0:=hf 0 _ rfl
  have g1:=hf 1 _ rfl
  have g2:=hf 2 _ rfl
  simp[c5,c24,c2] at g0 g1 g2
  obtain⟨z0,e0,_,k0⟩:=Ce Tryz.underlying5 g0
  obtain⟨l,pv,e1,hp,hs,ht⟩:=Dc g1
  obtain⟨z2,e2,_,k2⟩:=Ce Tryz.underlying2 g2
  simp at e0 e1 e2
  obtain⟨rfl,rfl,rfl,rfl,rfl,rfl⟩:=e1
  subst e0 e2
  simp only[Lit.wf,dz,bR] at k0 k2
  have h1:(IntKind.i64.min:Int)= -9223372036854775808:=rfl
  have h2:(IntKind.i64.max:Int)=9223372036854775807:=rfl
  have h3:(IntKind.u8.min:Int)=0:=rfl
  have h4:(IntKind.u8.max:Int)=255:=rfl
  exact⟨z0,l,v2,z2,rfl,by omega,hp,hs,ht,by omega⟩
instance :Inhabited CF:=⟨⟨0,⟨⟨#[]⟩,[],false,false,⟨#[]⟩,0⟩,.slice none 0 0,0⟩⟩
theorem mZ:∀(l:List CF),(l.flatMap pU).length=l.length*8
 |[]=>rfl
 |a::l=>by rw[dB,aC,mZ l,aY,pz];show 8+_=_;omega
theorem yu {H:Type}{enc:TypeId×Value->H}{W:World}{fuel:Nat}{cs:List Value}{x:DataW H×List MemPlace}(h:DataW.trod enc Tryz.prog W 0 (fun _=>true) true fuel 41 cs=some x):
  ∃v os,cs=[v]/\ng W v os/\∀o∈os,o.Wf:=by
 rcases open_slice Tryz.underlying41 h with ⟨rfl,_⟩|⟨a,len,cap,m,n,D,Pl,rfl,hb,hl,hm,hmm,rfl,hx⟩
 ·exact⟨_,[],rfl,⟨cZ.nil _ _ _,by simp⟩,by simp⟩
 ·have hc8:Tryz.prog.cellsOf 44=8:=by kernel_rfl
  have hmc:m=cap:=by rw[hmm];simp
  by_cases hc0:cap=0
  ·obtain rfl:len=0:=by omega
   subst hc0
   exact⟨_,[],rfl,⟨.inr ⟨rfl,rfl,a,rfl⟩,by simp⟩,by simp⟩
  ·have each:∀i,i<m->∃o:CF,o.Wf/\iM W fC o.pv o.l.path/\∀j u,(pU o)[j]? =some u->W.cell? ((a.add (i*8)).add j)=some u:=by
    intro i hi
    obtain⟨cs',h1,h2⟩:=hx i hi
    rw[hc8] at h1
    obtain⟨_,hlen,hcell⟩:=World.cells?_some h1
    obtain⟨kd,l,pv,now,rfl,k1,hp,k2,k3,k4⟩:=AU h2
    refine⟨⟨kd,l,pv,now⟩,⟨k1,k2,k3,k4⟩,hp,fun j u hu=> ?_⟩
    have hj:j<8:=by
     by_cases hj:j<8
     ·exact hj
     ·rw[eZ (by simp[pU];omega)] at hu
      cases hu
    rw[hcell j hj]
    exact hu
   obtain⟨f,hf⟩:=choose_lt each
   obtain⟨b,o,sp⟩:=a
   have h00:=(hf 0 (by omega)).2.2 0 _ rfl
   have hs:sp=none:=by
    have:=World.cell?_spot h00
    simpa [Addr.add] using this
   subst hs
   have hlt:=aD W _ h00
   refine⟨_,(List.range len).map f,rfl,⟨.inl ?_,?_⟩,?_⟩
   ·refine⟨some ⟨b,o,none⟩,cap,by simp,by simpa using hl,hm,?_,(fun e=>by cases e),(fun ad e=> ?_),fun j u hu=>⟨b,o,rfl,?_⟩⟩
    ·rw[mZ]
    ·cases e
     refine⟨rfl,?_,fun e=>e⟩
     simpa [Addr.add] using hlt
    ·have hjl:j<len*8:=by
      have h1:=(bX.1 hu).1
      rw[mZ,dw,List.length_range] at h1
      exact h1
     have hd:j=j/8*8+j%8:=by omega
     have hi:j/8<((List.range len).map f).length:=by simp;omega
     rw[hd,p8 pU 8 (fun _=>rfl) _ (j/8) (j%8) hi (by omega)] at hu
     have:=(hf (j/8) (by omega)).2.2 (j%8) u (by simpa using hu)
     rw[eU,eU,gX,<-hd] at this
     exact this
   ·intro p hp
    obtain⟨i,hi,rfl⟩:=cK.1 hp
    exact(hf i (by have:=ja.1 hi;omega)).2.1
   ·intro p hp
    obtain⟨i,hi,rfl⟩:=cK.1 hp
    exact(hf i (by have:=ja.1 hi;omega)).1
end Go.Proofs.YtpgdljlghiifjaaGreatDoor
