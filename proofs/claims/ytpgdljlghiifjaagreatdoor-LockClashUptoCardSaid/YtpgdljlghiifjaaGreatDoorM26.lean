/- parts -/
import Derived.Test.YtpgdljlghiifjaaGreatDoorM1
import Derived.Test.YtpgdljlghiifjaaGreatDoorM3
import Derived.Test.YtpgdljlghiifjaaGreatDoorM4
import Derived.Test.YtpgdljlghiifjaaGreatDoorM11
import Derived.Test.YtpgdljlghiifjaaGreatDoorM23
import Derived.Test.YtpgdljlghiifjaaGreatDoorM25
import Derived.Laws.Rows
import Derived.Shelf.Strings.IndexAnyAll
import Derived.Shelf.Unicode.ValidAny
import Derived.Shelf.Small.Wraps
import Derived.Shelf.Small.Utf8
import Derived.Laws.RangeAny
set_option maxRecDepth 100000
set_option maxHeartbeats 8000000
set_option linter.all false
namespace Go.Proofs.YtpgdljlghiifjaaGreatDoor
open Go.RowKit
theorem same_iff (a b:List ByteArray):a=b↔a.length=b.length/\∀j,j<a.length->a[j]? =b[j]? :=by
 constructor
 ·rintro rfl
  exact⟨rfl,fun _ _=>rfl⟩
 ·rintro⟨h1,h2⟩
  apply Cn
  intro j
  by_cases hj:j<a.length
  ·exact h2 j hj
  ·rw[gT (by omega),gT (by omega)]
theorem OM (av bv:Value)(a b:List ByteArray)(Sa Sb:Nat->Prop)(w:World)(ha:gY w Sa av a)(hb:gY w Sb bv b):
  Calls Tryz.prog 30 #[av,bv] w fun e w'=>e= .returned (.bool (decide (a=b)))/\Below w.heap.size w w':=by
 obtain⟨ao,ac,rfl,ha1,ha2,_,_⟩:=cZ.form ha
 obtain⟨bo,bc,rfl,hb1,hb2,_,_⟩:=cZ.form hb
 have HA:=af ha
 have HB:=af hb
 obtain⟨R,hR⟩:∃R,Hid (decide (a=b)=R):=⟨_,af rfl⟩
 rw[hR.out]
 clear ha hb
 go_enter Tryz.func30,Tryz.ntmps30
 by_cases hlt:a.length=b.length
 ·have x1:((a.length:Int) !=(b.length:Int))=false:=by rw[hlt];simp
  have HLT:=af hlt;clear hlt
  go_upto_region 4 with fail
  go_loopw [5] (fun i wr=>∃k:Nat,k<=a.length/\i= .int .i64 k/\(∀j,j<k->a[j]? =b[j]?)/\Below w.heap.size w wr) (fun i _=>a.length - (intOf i).toNat)
  case atStart=>exact⟨0,aX _,rfl,fun j hj=>absurd hj (oG _),aO _ _⟩
  case round=>
   obtain⟨k,hk,rfl,heq,hbw⟩:=hrel
   have HEQ:=af heq;clear heq
   have HBW:=af hbw
   by_cases hkl:k<a.length
   ·have hkl':(k:Int)<(a.length:Int):=by omega
    have hkb:(k:Int)<(b.length:Int):=by have:=HLT.out;omega
    obtain⟨x,hx⟩:∃x,a[k]? =some x:=⟨_,aW hkl⟩
    obtain⟨y,hy⟩:∃y,b[k]? =some y:=⟨_,aW (by have:=HLT.out;omega)⟩
    obtain⟨gb,ob,rfl,db⟩:=cZ.yD (cZ.below HB.out hbw) rfl k (.string y) (by rw[di,hy];rfl)
    obtain⟨ga,oa,rfl,da⟩:=cZ.yD (cZ.below HA.out hbw) rfl k (.string x) (by rw[di,hx];rfl)
    have la:=aD wr _ da
    have lb:=aD wr _ db
    have hq:=O6 x y
    have HXY:=af (aC hx hy)
    clear hx hy hbw
    go_wp2_with fail
    refine aS (fun W=>W=wr.drew) (fun i=>true) [0,1,2,3,4,5,6,7,8] rfl (by kernel_rfl) rfl ?_
    repeat ((refine bL (v:= ?_) rfl rfl (fun _ _ _ h=>h) rfl (fun W hW=> ?_) ?_);rotate_left;(focus ((try dsimp only at hW);subst hW;(go_simp;first|done|with_reducible rfl)));(try simp only[Act.put,ah,au,ak]))
    refine bR ?_
    by_cases he:x=y
    ·have hd:decide (x=y)=true:=bZ he
     rw[hd]
     have HE:=af he;clear he hd hq
     go_wp2_with fail
     go_roundw
     case rel=>
      refine⟨k+1,by omega,by go_num,fun j hj=> ?_,HBW.out.drew⟩
      rcases qQ.1 hj with hj|rfl
      ·exact HEQ.out j hj
      ·rw[HXY.out.1,HXY.out.2,HE.out]
     case measure=>simp[intOf];omega
    ·have hd:decide (x=y)=false:=aZ he
     rw[hd]
     have hr:R=false:=by
      rw[<-hR.out,rT,same_iff]
      rintro⟨_,h⟩
      have:=h k hkl
      rw[HXY.out.1,HXY.out.2] at this
      exact he (iB this)
     clear he hd hq
     go_wp2_with fail
     go_ret
     exact⟨by simp[hr],HBW.out.drew⟩
   ·obtain rfl:k=a.length:=by omega
    have x2:¬(a.length:Int)<(a.length:Int):=by omega
    have hr:R=true:=by
     rw[<-hR.out,bY,same_iff]
     exact⟨HLT.out,HEQ.out⟩
    clear hbw
    go_wp2_with fail
    go_ret
    exact⟨by simp,HBW.out⟩
 ·have x1:((a.length:Int) !=(b.length:Int))=true:=by
   rw[bne_iff_ne];omega
  have hr:R=false:=by
   rw[<-hR.out,rT,same_iff]
   exact fun h=>hlt h.1
  go_wp2
  go_ret
  exact⟨by simp[hr],aO _ _⟩
theorem OL (av bv:Value)(a b:List ByteArray)(Sa Sb:Nat->Prop)(w:World)(ha:gY w Sa av a)(hb:gY w Sb bv b):
  Calls Tryz.prog 31 #[av,bv] w fun e w'=>e= .returned (.bool (within a b))/\Below w.heap.size w w':=by
 obtain⟨ao,ac,rfl,ha1,ha2,_,_⟩:=cZ.form ha
 obtain⟨bo,bc,rfl,hb1,hb2,_,_⟩:=cZ.form hb
 by_cases hlt:b.length<=a.length
 ·have hup:gY w Sa (.slice ao b.length ac) (a.take b.length):=by
   have:=cZ.upto ha b.length hlt
   unfold gY
   rw[aF,bQ hlt,gK]
   rwa [bg] at this
  have hs:=OM _ _ (a.take b.length) b Sa Sb w hup hb
  have hR:decide (a.take b.length=b)=within a b:=by
   unfold within
   rw[decide_eq_decide,List.prefix_iff_eq_take,eq_comm]
  rw[hR] at hs
  have HS:=af hs
  have x1:¬(a.length:Int)<(b.length:Int):=by omega
  have x2:(b.length:Int)<=(ac:Int):=by omega
  clear ha hb hup hs hR
  go_enter Tryz.func31,Tryz.ntmps31
  go_wp2_with (first
   |(go_at_call 30;go_must (refine HS.out.mono ?_;rintro e w1 ⟨rfl,hb1⟩)))
  go_ret
  exact⟨by simp,hb1⟩
 ·have x1:(a.length:Int)<(b.length:Int):=by omega
  have hr:within a b=false:=by
   rw[<-D9,within_iff]
   omega
  rw[hr]
  go_enter Tryz.func31,Tryz.ntmps31
  go_wp2
  go_ret
  exact⟨rfl,aO _ _⟩
theorem Hr (l:bI)(q:List ByteArray):l.covers q=(decide (l.path=q)||(l.deep && within q l.path)):=by
 unfold bI.covers
 cases hw:within q l.path with
 |false=>
  have:¬l.path=q:=by
   rintro rfl
   rw[<-D9,within_iff] at hw
   exact hw ⟨aG _,fun _ _=>rfl⟩
  simp[this]
 |true=>
  rw[within_iff] at hw
  cases l.deep with
  |true=>simp
  |false=>
   have:(q.length=l.path.length)↔l.path=q:=by
    rw[same_iff]
    exact⟨fun h=>⟨h.symm,fun j hj=>(hw.2 j hj).symm⟩,fun h=>h.1.symm⟩
   simp[this]
theorem yw (l:bI)(pv qv:Value)(q:List ByteArray)(S T:Nat->Prop)(w:World)(hp:gY w S pv l.path)(hq:gY w T qv q):
  Calls Tryz.prog 13 #[p8 l pv,qv] w fun e w'=>e= .returned (.bool (l.covers q))/\Below w.heap.size w w':=by
 have hb:=aK w (.cells #[.string l.token,pv,.bool l.deep,.bool l.excl,.string l.owner,.int .i64 l.till] 24)
 have hn:=aP w (.cells #[.string l.token,pv,.bool l.deep,.bool l.excl,.string l.owner,.int .i64 l.till] 24)
 obtain⟨w1,hw1⟩:∃w1:World,Hid (w.alloc (.cells #[.string l.token,pv,.bool l.deep,.bool l.excl,.string l.owner,.int .i64 l.till] 24)=w1):=⟨_,af rfl⟩
 rw[hw1.out] at hb hn
 have hp1:gY w1 S pv l.path:=cZ.below hp hb
 have hq1:gY w1 T qv q:=cZ.below hq hb
 have HS:=af (OM pv qv l.path q S T w1 hp1 hq1)
 have hW:=fun W (h:Below w1.heap.size w1 W)=>OL qv pv q l.path T S W (cZ.below hq1 h) (cZ.below hp1 h)
 have HB:=af hb
 obtain⟨sb,hsb⟩:∃sb:Nat,Hid (w.heap.size=sb):=⟨_,af rfl⟩
 rw[hsb.out] at hn
 obtain⟨c0,c1,c2,c3,c4,c5,lt⟩:=bW hn
 obtain⟨R,hR⟩:∃R,Hid (within q l.path=R):=⟨_,af rfl⟩
 obtain⟨E,hE⟩:∃E,Hid (decide (l.path=q)=E):=⟨_,af rfl⟩
 have HV:=af (show l.covers q=(E||(l.deep && R)) by rw[Hr,hR.out,hE.out])
 rw[hE.out] at HS
 simp only[hR.out] at hW
 have HW:=af hW
 have HN:=af hn
 obtain⟨lt_,lp,ld,le,lo,li⟩:=l
 dsimp only at HV HS HW HN hw1 c0 c1 c2 c3 c4 c5
 unfold p8
 clear hp hq hb hn hp1 hq1 hW
 go_enter Tryz.func13,Tryz.ntmps13
 go_upto_region 1 with fail
 rw[hw1.out,hsb.out]
 cases E with
 |true=>
  go_wp2_with (first
   |(go_at_call 30;go_must (refine HS.out.mono ?_;rintro e w2 ⟨rfl,hb2⟩)))
  go_ret
  exact⟨by rw[HV.out];rfl,HB.out.trans (hb2.mono HB.out.size)⟩
 |false=>
  go_wp2_with (first
   |(go_at_call 30;go_must (refine HS.out.mono ?_;rintro e w2 ⟨rfl,hb2⟩;refine Stop.of ?_)))
  refine Stop.on ?_
  clear c0 c1 c2 c3 c4 c5 lt
  obtain⟨c0,c1,c2,c3,c4,c5,lt⟩:=bW ((hb2.block _ (aj.1 HN.out).1).trans HN.out)
  have HW2:=af (HW.out w2 hb2)
  have HB2:=af (HB.out.trans (hb2.mono HB.out.size))
  clear hb2
  cases ld with
  |true=>
   go_wp2_with (first
    |(go_at_call 31;go_must (refine HW2.out.mono ?_;rintro e w3 ⟨rfl,hb3⟩)))
   go_ret
   exact⟨by rw[HV.out];rfl,HB2.out.trans (hb3.mono HB2.out.size)⟩
  |false=>
   go_wp2_with fail
   go_ret
   exact⟨by rw[HV.out];rfl,HB2.out⟩
theorem Qx (a b:bI)(av bv:Value)(S T:Nat->Prop)(w:World)(ha:gY w S av a.path)(hb:gY w T bv b.path):
  Calls Tryz.prog 15 #[p8 a av,p8 b bv] w fun e w'=>e= .returned (.bool (a.clash b))/\Below w.heap.size w w':=by
 have h1:=aK w (.cells #[.string a.token,av,.bool a.deep,.bool a.excl,.string a.owner,.int .i64 a.till] 24)
 have n1:=aP w (.cells #[.string a.token,av,.bool a.deep,.bool a.excl,.string a.owner,.int .i64 a.till] 24)
 have z1:(w.alloc (.cells #[.string a.token,av,.bool a.deep,.bool a.excl,.string a.owner,.int .i64 a.till] 24)).heap.size=w.heap.size+1:=by simp
 have h2:=aK (w.alloc (.cells #[.string a.token,av,.bool a.deep,.bool a.excl,.string a.owner,.int .i64 a.till] 24)) (.cells #[.string b.token,bv,.bool b.deep,.bool b.excl,.string b.owner,.int .i64 b.till] 24)
 have n2:=aP (w.alloc (.cells #[.string a.token,av,.bool a.deep,.bool a.excl,.string a.owner,.int .i64 a.till] 24)) (.cells #[.string b.token,bv,.bool b.deep,.bool b.excl,.string b.owner,.int .i64 b.till] 24)
 have hbb:=h1.trans (h2.mono h1.size)
 have n1:=(h2.block _ (by rw[z1];omega)).trans n1
 rw[z1] at n2
 obtain⟨w2,hw2⟩:∃w2:World,Hid (((w.alloc (.cells #[.string a.token,av,.bool a.deep,.bool a.excl,.string a.owner,.int .i64 a.till] 24)).alloc (.cells #[.string b.token,bv,.bool b.deep,.bool b.excl,.string b.owner,.int .i64 b.till] 24))=w2):=⟨_,af rfl⟩
 rw[hw2.out] at hbb n1 n2
 have HB:=af hbb
 obtain⟨sb,hsb⟩:∃sb:Nat,Hid (w.heap.size=sb):=⟨_,af rfl⟩
 rw[hsb.out] at n1 n2
 have hc1:=yw a av bv b.path S T w2 (cZ.below ha hbb) (cZ.below hb hbb)
 have hc2:=fun W (hW:Below w2.heap.size w2 W)=>yw b bv av a.path T S W (cZ.below (cZ.below hb hbb) hW) (cZ.below (cZ.below ha hbb) hW)
 obtain⟨P,hP⟩:∃P,Hid (a.covers b.path=P):=⟨_,af rfl⟩
 obtain⟨Q,hQ⟩:∃Q,Hid (b.covers a.path=Q):=⟨_,af rfl⟩
 rw[hP.out] at hc1;simp only[hQ.out] at hc2
 have HV:=af (show a.clash b=((a.excl||b.excl) && (P||Q)) by unfold bI.clash;rw[hP.out,hQ.out])
 obtain⟨at_,ap,ad,ae,ao,ai⟩:=a
 obtain⟨bt,bp,bd,be,bo,bi⟩:=b
 dsimp only at HV hc1 hc2 n1 n2 hw2
 unfold p8 at hc1 hc2 ⊢
 have HC1:=af hc1;have HC2:=af hc2
 obtain⟨a0,a1,a2,a3,a4,a5,la⟩:=bW n1
 obtain⟨b0,b1,b2,b3,b4,b5,lb⟩:=bW n2
 have HN1:=af n1;have HN2:=af n2
 clear ha hb h1 h2 hc1 hc2 hbb n1 n2 z1
 go_enter Tryz.func15,Tryz.ntmps15
 go_upto_region 1 with fail
 rw[hw2.out,hsb.out]
 cases ae with
 |true=>
  cases P with
  |true=>
   go_wp2_with (first
    |(go_at_call 13;go_must (refine HC1.out.mono ?_;rintro e w3 ⟨rfl,hb3⟩)))
   go_ret
   exact⟨by rw[HV.out];rfl,HB.out.trans (hb3.mono HB.out.size)⟩
  |false=>
   go_wp2_with (first
    |(go_at_call 13;go_must (refine HC1.out.mono ?_;rintro e w3 ⟨rfl,hb3⟩;refine Stop.of ?_)))
   refine Stop.on ?_
   clear a0 a1 a2 a3 a4 a5 la b0 b1 b2 b3 b4 b5 lb
   obtain⟨a0,a1,a2,a3,a4,a5,la⟩:=bW ((hb3.block _ (aj.1 HN1.out).1).trans HN1.out)
   obtain⟨b0,b1,b2,b3,b4,b5,lb⟩:=bW ((hb3.block _ (aj.1 HN2.out).1).trans HN2.out)
   have HC3:=af (HC2.out w3 hb3)
   have HB3:=af (HB.out.trans (hb3.mono HB.out.size))
   clear hb3
   go_wp2_with (first
    |(go_at_call 13;go_must (refine HC3.out.mono ?_;rintro e w4 ⟨rfl,hb4⟩)))
   go_ret
   exact⟨by rw[HV.out];cases Q<;>rfl,HB3.out.trans (hb4.mono HB3.out.size)⟩
 |false=>
  cases be with
  |true=>
   cases P with
   |true=>
    go_wp2_with (first
     |(go_at_call 13;go_must (refine HC1.out.mono ?_;rintro e w3 ⟨rfl,hb3⟩)))
    go_ret
    exact⟨by rw[HV.out];rfl,HB.out.trans (hb3.mono HB.out.size)⟩
   |false=>
    go_wp2_with (first
     |(go_at_call 13;go_must (refine HC1.out.mono ?_;rintro e w3 ⟨rfl,hb3⟩;refine Stop.of ?_)))
    refine Stop.on ?_
    clear a0 a1 a2 a3 a4 a5 la b0 b1 b2 b3 b4 b5 lb
    obtain⟨a0,a1,a2,a3,a4,a5,la⟩:=bW ((hb3.block _ (aj.1 HN1.out).1).trans HN1.out)
    obtain⟨b0,b1,b2,b3,b4,b5,lb⟩:=bW ((hb3.block _ (aj.1 HN2.out).1).trans HN2.out)
    have HC3:=af (HC2.out w3 hb3)
    have HB3:=af (HB.out.trans (hb3.mono HB.out.size))
    clear hb3
    go_wp2_with (first
     |(go_at_call 13;go_must (refine HC3.out.mono ?_;rintro e w4 ⟨rfl,hb4⟩)))
    go_ret
    exact⟨by rw[HV.out];cases Q<;>rfl,HB3.out.trans (hb4.mono HB3.out.size)⟩
  |false=>
   go_wp2_with fail
   go_ret
   exact⟨by rw[HV.out];rfl,HB.out⟩
theorem Ny (sv:Value)(l:List ByteArray)(x:ByteArray)(S:Nat->Prop)(w:World)(hl:gY w S sv l):
  Calls Tryz.prog 49 #[sv,.string x] w fun e w'=>(∃z:Int,e= .returned (.int .i64 z)/\(0<=z↔x∈l))/\w'=w:=by
 obtain⟨ao,ac,rfl,ha1,ha2,_,_⟩:=cZ.form hl
 have HL:=af hl
 clear hl
 go_enter Tryz.func49,Tryz.ntmps49
 go_upto_region 2 with fail
 go_loopw [5,8] (fun _ i wr=>∃k:Nat,k<=l.length/\i= .int .i64 k/\(∀j,j<k->l[j]?≠some x)/\wr=w) (fun _ i _=>l.length - (intOf i).toNat)
 case atStart=>exact⟨0,aX _,rfl,fun j hj=>absurd hj (oG _),rfl⟩
 case round=>
  obtain⟨k,hk,rfl,hne,rfl⟩:=hrel
  have HNE:=af hne;clear hne
  by_cases hkl:k<l.length
  ·have hkl':(k:Int)<(l.length:Int):=by omega
   obtain⟨y,hy⟩:∃y,l[k]? =some y:=⟨_,aW hkl⟩
   obtain⟨ga,oa,rfl,da⟩:=cZ.yD HL.out rfl k (.string y) (by rw[di,hy];rfl)
   have la:=aD wr _ da
   have hq:=O6 x y
   have HY:=af hy;clear hy
   by_cases he:x=y
   ·rw[bZ he] at hq
    have HE:=af he;clear he
    go_wp2_with fail
    go_ret
    refine⟨⟨_,rfl,⟨fun _=> ?_,fun _=>by omega⟩⟩,rfl⟩
    rw[HE.out]
    exact kN HY.out
   ·rw[aZ he] at hq
    have HE:=af he;clear he
    go_wp2_with fail
    go_roundw
    case rel=>
     refine⟨k+1,by omega,by go_num,fun j hj=> ?_,by trivial⟩
     rcases qQ.1 hj with hj|rfl
     ·exact HNE.out j hj
     ·rw[HY.out]
      intro e
      exact HE.out (iB e).symm
    case measure=>simp[intOf];omega
  ·obtain rfl:k=l.length:=by omega
   have x2:¬(l.length:Int)<(l.length:Int):=by omega
   go_wp2_with fail
   go_ret
   refine⟨⟨_,rfl,⟨fun h=>by omega,fun h=> ?_⟩⟩,rfl⟩
   obtain⟨j,hj,e⟩:=gU h
   exact absurd (by rw[aW hj,e]) (HNE.out j hj)
def CO (l:List ByteArray)(x:ByteArray):Bool:=l.any fun y=>decide (x=y)
theorem yh (l:List ByteArray)(x:ByteArray):CO l x=true↔x∈l:=by simp[CO]
theorem FN (sv:Value)(l:List ByteArray)(x:ByteArray)(S:Nat->Prop)(w:World)(hl:gY w S sv l):
  Calls Tryz.prog 32 #[sv,.string x] w fun e w'=>e= .returned (.bool (CO l x))/\w'=w:=by
 have HI:=af (Ny sv l x S w hl)
 obtain⟨ao,ac,rfl,ha1,ha2,_,_⟩:=cZ.form hl
 clear hl
 go_enter Tryz.func32,Tryz.ntmps32
 go_wp2_with (first
  |(go_at_call 49;go_must (refine HI.out.mono ?_;rintro e w1 ⟨⟨z,rfl,hz⟩,rfl⟩;refine Stop.of ?_)))
 refine Stop.on ?_
 by_cases hx:x∈l
 ·have h0:(0:Int)<=z:=hz.2 hx
  have HX:=af hx
  clear hz hx
  go_wp2_with fail
  go_ret
  exact⟨by rw[(yh l x).2 HX.out];rfl,rfl⟩
 ·have h0:¬(0:Int)<=z:=fun h=>hx (hz.1 h)
  have HX:=af hx
  clear hz hx
  go_wp2_with fail
  go_ret
  exact⟨by rw[eH.2 (fun e=>HX.out ((yh l x).1 e))];rfl,rfl⟩
theorem BI {α:Type}(f:α->List Value)(k:Nat)(hf:∀a,(f a).length=k):∀(l:List α) (i j:Nat) (hi:i<l.length),j<k->(l.flatMap f)[i*k+j]? =(f l[i])[j]?
 |a::l,0,j,_,hj=>by
  rw[dY,tO,aV,fu (by rw[hf];exact hj)];rfl
 |a::l,i+1,j,hi,hj=>by
  rw[dY,cK (by rw[hf,yO];omega),hf,show (i+1)*k+j - k=i*k+j by rw[yO];omega]
  exact BI f k hf l i j (by simpa using hi) hj
abbrev LP:=bI×Value
def kU (p:LP):List Value:=[.string p.1.token,p.2,.bool p.1.deep,.bool p.1.excl,.string p.1.owner,.int .i64 p.1.till]
def tL (w:World)(S:Nat->Prop)(v:Value)(ps:List LP):Prop:=cZ w S 6 v ps.length (ps.flatMap kU)/\∀p∈ps,∃T,gY w T p.2 p.1.path
theorem tL.below {w w':World}{S:Nat->Prop}{v:Value}{ps:List LP}(h:tL w S v ps)(hb:Below w.heap.size w w'):tL w' S v ps:=⟨cZ.below h.1 hb,fun p hp=>(h.2 p hp).imp fun _ q=>cZ.below q hb⟩
theorem tL.at {w:World}{S:Nat->Prop}{v:Value}{ps:List LP}(h:tL w S v ps){ao:Option Addr}{n c:Nat}(hv:v= .slice ao n c)(i:Nat)(hi:i<ps.length):
  ∃b o,ao=some ⟨b,o,none⟩/\w.cell? ⟨b,o+i*6,none⟩=some (.string ps[i].1.token)/\w.cell? ⟨b,o+i*6+1,none⟩=some ps[i].2/\w.cell? ⟨b,o+i*6+2,none⟩=some (.bool ps[i].1.deep)/\w.cell? ⟨b,o+i*6+3,none⟩=some (.bool ps[i].1.excl)/\w.cell? ⟨b,o+i*6+4,none⟩=some (.string ps[i].1.owner)/\w.cell? ⟨b,o+i*6+5,none⟩=some (.int .i64 ps[i].1.till):=by
 obtain⟨h,_⟩:=h
 obtain⟨ao',c',e,_,_,_,_,_,h6⟩:=cZ.real h (Nat.lt_of_le_of_lt (aX _) hi)
 rw[hv] at e
 cases e
 have key:∀j u,j<6->(kU ps[i])[j]? =some u->∃b o,ao=some ⟨b,o,none⟩/\w.cell? ⟨b,o+i*6+j,none⟩=some u:=fun j u hj hu=>by
  obtain⟨b,o,e1,e2⟩:=h6 (i*6+j) u (by rw[BI kU 6 (fun _=>rfl) ps i j hi hj];exact hu)
  exact⟨b,o,e1,by rw[kG];exact e2⟩
 obtain⟨b,o,rfl,g0⟩:=key 0 _ (by omega) rfl
 obtain⟨_,_,e1,g1⟩:=key 1 _ (by omega) rfl;cases e1
 obtain⟨_,_,e1,g2⟩:=key 2 _ (by omega) rfl;cases e1
 obtain⟨_,_,e1,g3⟩:=key 3 _ (by omega) rfl;cases e1
 obtain⟨_,_,e1,g4⟩:=key 4 _ (by omega) rfl;cases e1
 obtain⟨_,_,e1,g5⟩:=key 5 _ (by omega) rfl;cases e1
 exact⟨b,o,rfl,g0,g1,g2,g3,g4,g5⟩
def uL (ls:List bI)(path tokens:List ByteArray):Bool:=ls.any (fun l=>l.covers path && CO tokens l.token)|| !ls.any (fun l=>l.covers path)
theorem I9:(Tryz.prog.info? 24).map (·.size)=some 6:=by kernel_rfl
theorem KM (b:Bool):(oD b==(1:Int))=b:=by cases b<;>rfl
def Um (w:World)(ab rb lb:Nat)(tk ow:ByteArray)(dp ex:Bool)(ti:Int)(pt:List ByteArray)(n:Value)(wr:World):Prop:=
 ∃(k:Nat) (pv:Value),k<=pt.length/\n= .int .i64 ((pt.length - k:Nat):Int)/\tu wr rb ((pt.drop k).flatMap lN)/\wr.heap[lb]? =some (.cells #[.string tk,pv,.bool dp,.bool ex,.string ow,.int .i64 ti] 24 (0,0))/\aT wr fH w.heap.size 9 1 pv k ((pt.take k).map .string)/\Below w.heap.size w wr/\
  wr.heap[ab]? =some (.cells #[.string ⟨#[]⟩,.slice none 0 0,.bool false,.bool false,.string ⟨#[]⟩,.int .i64 0] 24 (0,0))
theorem LY (l:bI)(w:World)(hf:l.Fit):
  Calls Tryz.prog 74 #[.string l.token,.string (strOf l.enc)] w fun e w'=>∃pv,e= .returned (p8 l pv)/\gY w' (fun g=>g<w.heap.size) pv l.path/\Below w.heap.size w w':=by
 obtain⟨tk,pt,dp,ex,ow,ti⟩:=l
 obtain⟨h1,h2,h3,h4,h5⟩:=hf
 dsimp only at h1 h2 h3 h4 h5
 obtain⟨s,hs⟩:∃s,Hid (strOf (bI.enc ⟨tk,pt,dp,ex,ow,ti⟩)=s):=⟨_,af rfl⟩
 rw[hs.out]
 have hb0:=aK w (.cells #[.string ⟨#[]⟩,.slice none 0 0,.bool false,.bool false,.string ⟨#[]⟩,.int .i64 0] 24)
 have hn0:=aP w (.cells #[.string ⟨#[]⟩,.slice none 0 0,.bool false,.bool false,.string ⟨#[]⟩,.int .i64 0] 24)
 obtain⟨w0,hw0⟩:∃w0:World,Hid (w.alloc (.cells #[.string ⟨#[]⟩,.slice none 0 0,.bool false,.bool false,.string ⟨#[]⟩,.int .i64 0] 24)=w0):=⟨_,af rfl⟩
 rw[hw0.out] at hb0 hn0
 have hb1:=aK w0 (.cells #[.string s,.bool false] 199)
 have hn1:=aP w0 (.cells #[.string s,.bool false] 199)
 obtain⟨w1,hw1⟩:∃w1:World,Hid (w0.alloc (.cells #[.string s,.bool false] 199)=w1):=⟨_,af rfl⟩
 rw[hw1.out] at hb1 hn1
 obtain⟨ab,hab⟩:∃ab:Nat,Hid (w.heap.size=ab):=⟨_,af rfl⟩
 have hw0s:w0.heap.size=w.heap.size+1:=by rw[<-hw0.out];simp
 obtain⟨rb,hrb⟩:∃rb:Nat,Hid (w.heap.size+1=rb):=⟨_,af rfl⟩
 rw[hw0s,hrb.out] at hn1
 clear hw0s
 rw[hab.out] at hn0
 have hrd:tu w1 rb (lK ti++(lK (oD dp)++(lK (oD ex)++(lN ow++(lK pt.length++pt.flatMap lN))))):=by
  unfold tu
  rw[hn1,<-hs.out]
  rfl
 have hfl:∀b:Bool,-9223372036854775808<=oD b/\oD b<9223372036854775808:=fun b=>by cases b<;>decide
 have HN1:=af (Bd rb ti _ w1 hrd h5)
 have HF:=af (aC hfl (aC h2 (aC h3 h4)))
 have HB:=af (aC (hb0.trans (hb1.mono hb0.size)) ((hb1.block ab (aj.1 hn0).1).trans hn0))
 clear hb0 hb1 hn0 hn1 hrd hfl h1 h2 h3 h4 h5
 go_enter Tryz.func74,Tryz.ntmps74
 go_upto_region 2 with (fail)
 rw[hw0.out,hrb.out,hw1.out,hab.out]
 go_wp2_with (first
  |(go_at_call 124;go_must (refine HN1.out.mono ?_;rintro e w2 ⟨rfl,hR2,hk2⟩;refine Stop.of ?_)))
 refine Stop.on ?_
 have HN2:=af (Bd rb (oD dp) _ w2 hR2 (HF.out.1 dp))
 have e2:=KM dp
 obtain⟨fd,hfd⟩:∃fd,Hid (oD dp=fd):=⟨_,af rfl⟩
 rw[hfd.out] at HN2 e2
 have HK2:=af hk2
 clear hR2 hk2
 go_wp2_with (first
  |(go_at_call 124;go_must (refine HN2.out.mono ?_;rintro e w3 ⟨rfl,hR3,hk3⟩;refine Stop.of ?_)))
 refine Stop.on ?_
 have HN3:=af (Bd rb (oD ex) _ w3 hR3 (HF.out.1 ex))
 have e3:=KM ex
 obtain⟨fe,hfe⟩:∃fe,Hid (oD ex=fe):=⟨_,af rfl⟩
 rw[hfe.out] at HN3 e3
 have HK3:=af (HK2.out.trans hk3 (fun _ _ e=>e))
 clear hR3 hk3
 go_wp2_with (first
  |(go_at_call 124;go_must (refine HN3.out.mono ?_;rintro e w4 ⟨rfl,hR4,hk4⟩;refine Stop.of ?_)))
 refine Stop.on ?_
 have HN4:=af (Kn rb ow _ w4 hR4 (by have:=HF.out.2.2.2;omega))
 have HK4:=af (HK3.out.trans hk4 (fun _ _ e=>e))
 clear hR4 hk4
 go_wp2_with (first
  |(go_at_call 125;go_must (refine HN4.out.mono ?_;rintro e w5 ⟨rfl,hR5,hk5⟩;refine Stop.of ?_)))
 refine Stop.on ?_
 have hK5:=HK4.out.trans hk5 (fun _ _ e=>e)
 have hbL:=aK w5 (.cells #[.string tk,.slice none 0 0,.bool dp,.bool ex,.string ow,.int .i64 ti] 24)
 have hnL:=aP w5 (.cells #[.string tk,.slice none 0 0,.bool dp,.bool ex,.string ow,.int .i64 ti] 24)
 obtain⟨w6,hw6⟩:∃w6:World,Hid (w5.alloc (.cells #[.string tk,.slice none 0 0,.bool dp,.bool ex,.string ow,.int .i64 ti] 24)=w6):=⟨_,af rfl⟩
 rw[hw6.out] at hbL hnL
 obtain⟨lb,hlb⟩:∃lb:Nat,Hid (w5.heap.size=lb):=⟨_,af rfl⟩
 rw[hlb.out] at hnL
 have hrl:rb<w5.heap.size:=(aj.1 hR5).1
 have hR6:tu w6 rb _:=(hbL.block rb hrl).trans hR5
 have HN5:=af (Bd rb pt.length _ w6 hR6 (by have:=HF.out.2.1;omega))
 have HL:=af (aC hK5 (aC hbL (aC hnL hrl)))
 clear hR5 hk5 hK5 hbL hnL hrl hR6
 go_upto_region 3 with (fail)
 rw[hlb.out,hw6.out]
 go_upto_region 4 with (first
  |(go_at_call 124;go_must (refine HN5.out.mono ?_;rintro e w7 ⟨rfl,hR7,hk7⟩)))
 have hrl7:rb<w7.heap.size:=(aj.1 hR7).1
 have hne:lb≠rb:=by have:=HL.out.2.2.2;have:=hlb.out;omega
 have hL7:w7.heap[lb]? =some (.cells #[.string tk,.slice none 0 0,.bool dp,.bool ex,.string ow,.int .i64 ti] 24 (0,0)):=(hk7.block lb (aj.1 HL.out.2.2.1).1 hne).trans HL.out.2.2.1
 have hz0:w.heap.size+1<=w1.heap.size:=by rw[<-hw1.out];have:w.heap.size+1=w0.heap.size:=(by rw[<-hw0.out];simp);simp;omega
 have hab7:w7.heap[ab]? =_:=(hk7.block ab (ax (aj.1 HB.out.2).1 (aH HL.out.1.size HL.out.2.1.size)) (by have:=hab.out;have:=hrb.out;omega)).trans ((HL.out.2.1.block ab (ax (aj.1 HB.out.2).1 HL.out.1.size)).trans ((HL.out.1.block ab (aj.1 HB.out.2).1 (by have:=hab.out;have:=hrb.out;omega)).trans HB.out.2))
 have hb7:Below w.heap.size w w7:=by
  have h1:=HB.out.1
  have h2:Below w.heap.size w w5:=h1.trans (HL.out.1.iH h1.size fun g hg e=>by have:=hrb.out;omega)
  have h3:=h2.trans (HL.out.2.1.mono h2.size)
  exact h3.trans (hk7.iH h3.size fun g hg e=>by have:=hrb.out;omega)
 have hst:Um w ab rb lb tk ow dp ex ti pt (.int .i64 (pt.length:Int)) w7:=⟨0,.slice none 0 0,aX _,by rw[Nat.sub_zero],by rw[fo];exact hR7,hL7,aT.nil _ _ _ _ _,hb7,hab7⟩
 have hlab:ab<lb:=by
  have h1:=HL.out.2.2.2
  have h2:=hlb.out;have h3:=hab.out;have h4:=hrb.out
  omega
 clear hR7 hk7 hL7 hab7 hb7 hrl7 hz0
 go_loopw [7] (fun n wr=>Um w ab rb lb tk ow dp ex ti pt n wr) (fun n _=>(intOf n).toNat)
 case atStart=>exact hst
 case round=>
  obtain⟨k,pv,hk,rfl,hR,hLb,hO,hbw,hA⟩:=hrel
  obtain⟨po,pc,rfl,_,_,_,_⟩:=cZ.form hO.rF
  obtain⟨c0,c1,f0,lr⟩:=hR.cells
  clear hst
  by_cases hkl:k<pt.length
  ·have hx1:(0:Int)<((pt.length - k:Nat):Int):=by omega
   have hdr:(pt.drop k).flatMap lN=lN pt[k]++(pt.drop (k+1)).flatMap lN:=by rw[bT hkl,dY]
   have htk:(pt.take (k+1)).map Value.string=(pt.take k).map Value.string++[.string pt[k]]:=by rw[aI hkl,dz];rfl
   have hsz:=HF.out.2.2.1 pt[k] (bD hkl)
   rw[hdr] at hR
   obtain⟨sg,hsg⟩:∃sg,Hid (pt[k]=sg):=⟨_,af rfl⟩
   rw[hsg.out] at hR htk hsz
   have hRd:tu wr.drew rb (lN sg++(pt.drop (k+1)).flatMap lN):=hR
   have HT:=af (Kn rb sg _ wr.drew hRd (by omega))
   obtain⟨_,e1,_,_,_,_,le⟩:=bW hLb
   have HS:=af (aC hR (aC hLb (aC hO (aC hbw (aC hA (aC htk hdr))))))
   have hkk:(pt.length - k:Nat)=(pt.length - (k+1):Nat)+1:=by omega
   have HKK:=af hkk
   have HRL:=af lr
   clear hR hLb hO hbw hA htk hdr hRd hsz hkk
   go_wp2_with fail
   refine aS (fun W=>W.cell? ⟨lb,1,none⟩=some (.slice po k pc)/\lb<W.heap.size) (fun i=> !([3,4,5,7].contains i)) [0,1,2,3,4,5,6,7] rfl (by kernel_rfl) ⟨e1,le⟩ ?_
   repeat ((refine bL (v:= ?_) rfl rfl (fun _ _ _ h=>h) rfl (fun W hW=> ?_) ?_);rotate_left;(focus ((try dsimp only at hW);obtain⟨q0,q1⟩:=hW;(go_simp;first|done|with_reducible rfl)));(try simp only[Act.put,ah,au,ak]))
   refine dm rfl rfl rfl ?_;intro K hK;go_simp
   refine HT.out.mono ?_;rintro e w2 ⟨rfl,hR2,hk2⟩
   have hLb2:=(hk2.block lb (show lb<wr.drew.heap.size from le) hne).trans HS.out.2.1
   have hO2:=HS.out.2.2.1.keep (w':=w2) (S':=fH) fun g hg hl hs=>⟨hk2.block g hl (fun e=>by
    have h1:(tu wr rb _):=HS.out.1
    exact HS.out.2.2.1.ne h1 (by decide) (by rw[hg,e])),hs⟩
   obtain⟨_,e1,_,_,_,_,le2⟩:=bW hLb2
   refine hK.out _ _ ⟨e1,le2⟩ ?_
   (try simp only[Act.put,ah,au,ak])
   have hb3:=(aK w2 (.cells #[.string sg] 9))
   have hk2b:Keep (· =rb) wr w2:=(Keep.refl _ wr).drew.trans hk2 (fun _ _ e=>e)
   have hsrc:Src Tryz.prog 1 22 (.slice (some ⟨w2.heap.size,0,none⟩) 1 1) 1 [.string sg] (w2.alloc (.cells #[.string sg] 9)):=iq [Value.string sg] 9 1 1 1 rfl aY rfl (by simp[Value.oneCell'])
   have hO3:=hO2.below hb3
   have hLb3:=(hb3.block lb le2).trans hLb2
   obtain⟨_,e1,_,_,_,_,le3⟩:=bW hLb3
   have HW2:=af (aC hk2b (aC hR2 (aC hb3 (aC hO3 hLb3))))
   refine dm rfl rfl rfl ?_;intro K hK;go_simp
   refine hK.out _ _ ⟨e1,le3⟩ ?_
   (try simp only[Act.put,ah,au,ak])
   have hbase:w.heap.size<=(w2.alloc (.cells #[.string sg] 9)).heap.size:=aH HS.out.2.2.2.1.size (aH hk2b.size hb3.size)
   clear hk2b hb3 hLb3 e1 hO2 hLb2
   obtain⟨w3,hw3⟩:∃w3,Hid (w2.alloc (.cells #[.string sg] 9)=w3):=⟨_,af rfl⟩
   rw[hw3.out] at hsrc hO3 HW2 hbase le3 ⊢
   refine dm rfl rfl rfl ?_;intro K hK
   refine lZ (.tmp 37) (.tmp 40) 22 22 rfl fH w.heap.size 9 1 16 _ aY gD rfl (.slice po k pc) k _ rfl hO3 (.slice (some ⟨w2.heap.size,0,none⟩) 1 1) 1 [.string sg] rfl hsrc (fun _ h=>h.elim) hbase (by unfold maxLen;have:=HF.out.2.1;omega) (by have:=HF.out.2.1;omega) ?_
   intro ao4 c4 w4 hown4 hk4 hb4 hd4
   have hLb4:=(hk4.block lb le3 (hO3.ne HW2.out.2.2.2.2 (by decide))).trans HW2.out.2.2.2.2
   obtain⟨_,e1,_,_,_,_,le4⟩:=bW hLb4
   have f4:w4.frozen? ⟨lb,1,none⟩=false:=by simp[World.frozen?,hLb4]
   refine hK.out _ _ ⟨e1,le4⟩ ?_
   (try simp only[Act.put,ah,au,ak])
   repeat ((refine bL (v:= ?_) rfl rfl (fun _ _ _ h=>h) rfl (fun W hW=> ?_) ?_);rotate_left;(focus ((try dsimp only at hW);obtain⟨q0,q1⟩:=hW;(go_simp;first|done|with_reducible rfl)));(try simp only[Act.put,ah,au,ak]))
   refine jk rfl rfl rfl (by kernel_rfl) ?_;intro K hK;go_simp
   refine hK.out _ _ ?_
   refine bR ?_
   have hk5:Keep (· =lb) w4 (w4.setCell ⟨lb,1,none⟩ (.slice ao4 (k+1) c4)):=(Keep.refl (· =lb) _).setCell (p:=⟨lb,1,none⟩) (.inr rfl) _
   have hnew:Um w ab rb lb tk ow dp ex ti pt (.int .i64 ((pt.length - (k+1):Nat):Int)) (w4.setCell ⟨lb,1,none⟩ (.slice ao4 (k+1) c4)):=by
    have hRt:wr.heap[rb]? =some (.cells _ 199 (0,0)):=HS.out.1
    have hRr:w2.heap[rb]? =some (.cells _ 199 (0,0)):=HW2.out.2.1
    have hR3:w3.heap[rb]? =some (.cells _ 199 (0,0)):=(HW2.out.2.2.1.block rb (aj.1 hRr).1).trans hRr
    have hR4:=(hk4.block rb (aj.1 hR3).1 (hO3.ne hR3 (by decide))).trans hR3
    have hR5:=(hk5.block rb (aj.1 hR4).1 (Ne.symm hne)).trans hR4
    have hA0:=HS.out.2.2.2.2.1
    have hA2:=(HW2.out.1.block ab (aj.1 hA0).1 (by have:=hrb.out;have:=hab.out;omega)).trans hA0
    have hA3:=(HW2.out.2.2.1.block ab (aj.1 hA2).1).trans hA2
    have hA4:=(hk4.block ab (aj.1 hA3).1 (hO3.ne hA3 (by decide))).trans hA3
    have hA5:=(hk5.block ab (aj.1 hA4).1 (by omega)).trans hA4
    have hbw:=HS.out.2.2.2.1
    have hbw2:=hbw.trans (HW2.out.1.iH hbw.size fun g hg e=>by have:=hrb.out;omega)
    have hbw3:=hbw2.trans (HW2.out.2.2.1.mono hbw2.size)
    have hbw4:=hbw3.trans hb4
    have hbw5:=hbw4.trans (hk5.iH hbw4.size fun g hg e=>by have:=hab.out;omega)
    refine⟨k+1,.slice ao4 (k+1) c4,hkl,rfl,hR5,?_,?_,hbw5,hA5⟩
    ·simp[World.setCell,bn,hLb4]
    ·rw[HS.out.2.2.2.2.2.1]
     exact hown4.keep fun g hg hl hs=>⟨hk5.block g hl (fun e=>hown4.ne hLb4 (by decide) (by rw[hg,e])),hs⟩
   have HNEW:=af hnew
   generalize w4.setCell ⟨lb,1,none⟩ (.slice ao4 (k+1) c4)=w5' at HNEW ⊢
   clear hnew hk5 hown4 hk4 hb4 hd4 hLb4 e1 le4 f4 hO3 hsrc hbase c0 c1 f0 lr
   have hsub:(((pt.length - k:Nat):Int)) - 1=((pt.length - (k+1):Nat):Int):=by omega
   go_wp2_with fail
   go_roundw
   case rel=>
    have e:wrap64 ((pt.length - (k+1):Nat):Int)=((pt.length - (k+1):Nat):Int):=by have:=HF.out.2.1;unfold wrap64;omega
    rw[e]
    exact HNEW.out
   case measure=>
    have e:wrap64 ((pt.length - (k+1):Nat):Int)=((pt.length - (k+1):Nat):Int):=by have:=HF.out.2.1;unfold wrap64;omega
    rw[e]
    simp[intOf];omega
  ·obtain rfl:k=pt.length:=by omega
   have x2:¬(0:Int)<((pt.length - pt.length:Nat):Int):=by omega
   obtain⟨e0,e1,e2,e3,e4,e5,le⟩:=bW hLb
   have hrow:Row wr ab 24 [.string ⟨#[]⟩,.slice none 0 0,.bool false,.bool false,.string ⟨#[]⟩,.int .i64 0]:=hA
   have hone:∀u∈[Value.string tk,.slice po pt.length pc,.bool dp,.bool ex,.string ow,.int .i64 ti],u.oneCell'=true:=by
    intro u hu
    simp only[bX,Sz,wN] at hu
    rcases hu with rfl|rfl|rfl|rfl|rfl|rfl<;>rfl
   have HE:=af (aC hO (aC hbw (aC hone hLb)))
   clear hO hbw hA hLb hR hone
   go_wp2_with (first
    |((refine dW rfl ?_);intro K hK;(refine wp_store_row 24 (.tmp 4) (.tmp 43) rfl ab 0 24 _ [Value.string tk,.slice po pt.length pc,.bool dp,.bool ex,.string ow,.int .i64 ti] rfl rfl hrow I9 (aG 6) HE.out.2.2.1 ?_);intro w4 hr4 hk4;refine hK _ _ ?_))
   refine qH (results_cell_row rfl _ w4 ab 24 _ (0,0) _ rfl hr4 ou rfl (by kernel_rfl)) rfl ?_
   refine⟨.slice po pt.length pc,rfl,?_,?_⟩
   ·have h1:=HE.out.1
    rw[bP] at h1
    have h2:gY wr fH (.slice po pt.length pc) pt:=h1.rF
    refine cZ.keep h2 fun g hg hl hs=>⟨hk4.block g hl fun e=> ?_,fun hlt=> ?_⟩
    ·exact h1.ne (show wr.heap[ab]? =some (.cells _ 24 (0,0)) from hrow) (by decide) (by rw[hg,e])
    ·exact absurd (h1.1.lt g hg).1 (fI.2 hlt)
   ·exact HE.out.2.1.trans (hk4.iH HE.out.2.1.size fun g hg e=>by have:=hab.out;omega)
theorem DI:(Tryz.prog.info? 24).map (fun i=>(i.zero,i.size,i.bytes))=some (some (.agg #[.string ⟨#[]⟩,.slice none 0 0,.bool false,.bool false,.string ⟨#[]⟩,.int .i64 0]),6,72):=by kernel_rfl
theorem Lv:(Tryz.prog.info? 24).map (·.size)=some 6:=by kernel_rfl
def TK (g:Nat)(cb:Array Value)(so:bI->Bool)(Q:World->Prop):Prop:=∀(l:bI) (pv:Value) (T:Nat->Prop) (w:World),Q w->gY w T pv l.path->Calls Tryz.prog g (#[p8 l pv]++cb) w fun e w'=>e= .returned (.bool (so l))/\Below w.heap.size w w'
theorem Ql (g:Nat)(cb:Array Value)(so:bI->Bool)(Q:World->Prop)(hent:∀args w,(callFunc g args).run Tryz.prog w= .ok (.enter g args) w)(hso:TK g cb so Q)(lv:Value)(ps:List LP)(S:Nat->Prop)(w:World)(hl:tL w S lv ps)(hq:∀w2,Below w.heap.size w w2->Q w2):
  Calls Tryz.prog 75 #[lv,.func (.func g) #[] cb] w fun e w'=>(∃z:Int,e= .returned (.int .i64 z)/\((z= -1/\∀p∈ps,so p.1=false)\/∃k:Nat,z=k/\∃hk:k<ps.length,so ps[k].1=true/\∀p∈ps.take k,so p.1=false))/\Below w.heap.size w w':=by
 obtain⟨lo,lc,rfl,hl1,hl2,_,_⟩:=cZ.form hl.1
 have HL:=af hl;have HS:=af hso;have HQ:=af hq
 clear hl hso hq
 go_enter Tryz.func75,Tryz.ntmps75
 go_upto_region 2 with (fail)
 go_loopw [5,8] (fun _ i wr=>∃k:Nat,k<=ps.length/\i= .int .i64 k/\(∀p∈ps.take k,so p.1=false)/\Below w.heap.size w wr) (fun _ i _=>ps.length - (intOf i).toNat)
 case atStart=>exact⟨0,aX _,rfl,by simp,aO _ _⟩
 case round=>
  obtain⟨k,hk,rfl,hno,hbw⟩:=hrel
  have HNO:=af hno;clear hno
  by_cases hkl:k<ps.length
  ·have hkl':(k:Int)<(ps.length:Int):=by omega
   obtain⟨b,o,rfl,d0,d1,d2,d3,d4,d5⟩:=(HL.out.below hbw).at rfl k hkl
   obtain⟨T,hT⟩:=(HL.out.below hbw).2 _ (bD hkl)
   have htk:ps.take (k+1)=ps.take k++[ps[k]]:=aI hkl
   obtain⟨p,hp⟩:∃p,ps[k]=p:=⟨_,rfl⟩
   rw[hp] at d0 d1 d2 d3 d4 d5 hT htk
   have hbl:=aD wr _ d0
   have hcc:=HS.out p.1 p.2 T wr (HQ.out wr hbw) hT
   obtain⟨C,hC⟩:∃C,Hid (so p.1=C):=⟨_,af rfl⟩
   rw[hC.out] at hcc
   unfold p8 at hcc
   have HCC:=af hcc
   have HM:=af (aC htk (aC hp hbw))
   have hform:=cZ.form hT
   clear hcc htk hp hT hbw
   obtain⟨⟨tk,pt,dp,ex,ow,ti⟩,qv⟩:=p
   dsimp only at d0 d1 d2 d3 d4 d5 HCC hC HM hform
   obtain⟨qo,qc,rfl,_,_,_,_⟩:=hform
   cases C with
   |false=>
    go_wp2_with (first
     |((refine HCC.out.mono ?_);rintro e w3 ⟨rfl,hb3⟩;refine Stop.of ?_))
    refine Stop.on ?_
    have HB3:=af (HM.out.2.2.trans (hb3.mono HM.out.2.2.size))
    clear hb3
    go_wp2_with fail
    go_roundw
    case rel=>
     refine⟨k+1,by omega,by go_num,fun q hq=> ?_,HB3.out⟩
     rw[HM.out.1] at hq
     rcases bO.1 hq with hq|hq
     ·exact HNO.out q hq
     ·rw[bK.1 hq];exact hC.out
    case measure=>simp[intOf];omega
   |true=>
    go_wp2_with (first
     |((refine HCC.out.mono ?_);rintro e w3 ⟨rfl,hb3⟩;refine Stop.of ?_))
    refine Stop.on ?_
    have HB3:=af (HM.out.2.2.trans (hb3.mono HM.out.2.2.size))
    clear hb3
    go_wp2_with fail
    go_ret
    exact⟨⟨_,rfl,.inr ⟨k,rfl,hkl,by rw[HM.out.2.1];exact hC.out,HNO.out⟩⟩,HB3.out⟩
  ·obtain rfl:k=ps.length:=by omega
   have x2:¬(ps.length:Int)<(ps.length:Int):=by omega
   have HB:=af hbw
   clear hbw
   go_wp2_with fail
   go_ret
   exact⟨⟨_,rfl,.inl ⟨rfl,fun l qv hp=>HNO.out (l,qv) (by rw[bP];exact hp)⟩⟩,HB.out⟩
end Go.Proofs.YtpgdljlghiifjaaGreatDoor
namespace Go.Proofs.YtpgdljlghiifjaaGreatDoor
open Go.RowKit Go.Shelf
noncomputable def mY:Go.Shelf.Ren:=⟨fun x=>match x with|119=>198|137=>197|152=>164|153=>127|217=>230|224=>199|225=>200|226=>165|227=>166|228=>167|266=>243|150=>77|196=>76|259=>126|103=>73|206=>162|210=>123|n=>n,fun x=>match x with|0=>0|3=>3|4=>4|5=>5|9=>9|12=>12|21=>21|24=>131|46=>108|53=>235|116=>270|117=>271|124=>306|119=>201|138=>203|139=>204|n=>n,fun x=>match x with|3=>0|4=>1|n=>n⟩
theorem xg:Lays.n150 Tryz.prog mY where
 mixed:=by kernel_rfl
 f119:=Tryz.func198.trans (congrArg some (by kernel_rfl))
 f137:=Tryz.func197.trans (congrArg some (by kernel_rfl))
 f150:=Tryz.func77.trans (congrArg some (by kernel_rfl))
 f152:=Q9.trans (congrArg some (by kernel_rfl))
 f153:=Tryz.func127.trans (congrArg some (by kernel_rfl))
 f217:=Tryz.func230.trans (congrArg some (by kernel_rfl))
 f224:=Tryz.func199.trans (congrArg some (by kernel_rfl))
 f225:=Tryz.func200.trans (congrArg some (by kernel_rfl))
 f226:=Tryz.func165.trans (congrArg some (by kernel_rfl))
 f227:=Tryz.func166.trans (congrArg some (by kernel_rfl))
 f228:=Tryz.func167.trans (congrArg some (by kernel_rfl))
 f266:=Tryz.func243.trans (congrArg some (by kernel_rfl))
 t0:=pG
 a0:=Cs
 z0:=yM
 v0:=qD
 t3:=gQ
 a3:=Cr
 z3:=yL
 v3:=qC
 t4:=jV
 a4:=MR
 z4:=Fj
 v4:=wm
 t5:=kW
 a5:=Tryz.isAgg5
 z5:=Tryz.sizeOf5
 v5:=Sv
 t9:=eG
 a9:=MQ
 z9:=Fh
 v9:=wh
 t21:=Tryz.underlying21
 a21:=Tryz.isAgg21
 z21:=Tryz.sizeOf21
 v21:=Tryz.zeroValue21
 t46:=Tryz.underlying108
 a46:=Tryz.isAgg108
 z46:=Tryz.sizeOf108
 v46:=Tryz.zeroValue108
 t116:=Tryz.underlying270
 a116:=Tryz.isAgg270
 z116:=Tryz.sizeOf270
 t117:=Tryz.underlying271
 a117:=Tryz.isAgg271
 z117:=Tryz.sizeOf271
 v117:=Tryz.zeroValue271
 t124:=Tryz.underlying306
 a124:=Tryz.isAgg306
 z124:=Tryz.sizeOf306
 v124:=Tryz.zeroValue306
theorem Nb:Lays.n196 Tryz.prog mY where
 mixed:=by kernel_rfl
 f196:=Tryz.func76.trans (congrArg some (by kernel_rfl))
 f259:=Tryz.func126.trans (congrArg some (by kernel_rfl))
 t0:=pG
 a0:=Cs
 z0:=yM
 v0:=qD
 t3:=gQ
 a3:=Cr
 z3:=yL
 v3:=qC
 t4:=jV
 a4:=MR
 z4:=Fj
 v4:=wm
 t5:=kW
 a5:=Tryz.isAgg5
 z5:=Tryz.sizeOf5
 v5:=Sv
 t9:=eG
 a9:=MQ
 z9:=Fh
 v9:=wh
 t12:=Tryz.underlying12
 a12:=Tryz.isAgg12
 z12:=Tryz.sizeOf12
 v12:=Tryz.zeroValue12
 t46:=Tryz.underlying108
 a46:=Tryz.isAgg108
 z46:=Tryz.sizeOf108
 v46:=Tryz.zeroValue108
 t53:=Tryz.underlying235
 a53:=Tryz.isAgg235
 z53:=Tryz.sizeOf235
 v53:=Tryz.zeroValue235
 t119:=Tryz.underlying201
 a119:=Tryz.isAgg201
 z119:=Tryz.sizeOf201
 t138:=Tryz.underlying203
 a138:=Tryz.isAgg203
 z138:=Tryz.sizeOf203
 v138:=Tryz.zeroValue203
 t139:=Tryz.underlying204
 a139:=Tryz.isAgg204
 z139:=Tryz.sizeOf204
 v139:=Tryz.zeroValue204
 g3:=by kernel_rfl
 g4:=by kernel_rfl
theorem R5:Lays.n103 Tryz.prog mY where
 mixed:=by kernel_rfl
 f103:=Tryz.func73.trans (congrArg some (by kernel_rfl))
 f206:=Tryz.func162.trans (congrArg some (by kernel_rfl))
 f210:=Tryz.func123.trans (congrArg some (by kernel_rfl))
 t3:=gQ
 a3:=Cr
 z3:=yL
 v3:=qC
 t4:=jV
 a4:=MR
 z4:=Fj
 v4:=wm
 t9:=eG
 a9:=MQ
 z9:=Fh
 v9:=wh
 t24:=Tryz.underlying131
 a24:=Tryz.isAgg131
 z24:=Tryz.sizeOf131
 v24:=Tryz.zeroValue131
theorem Nz:(Tryz.prog.info? 270).map (fun i=>(i.zero,i.size))=some (some (.agg (Array.replicate 256 (.bool false))),256):=by kernel_rfl
end Go.Proofs.YtpgdljlghiifjaaGreatDoor
namespace Go.Proofs.YtpgdljlghiifjaaGreatDoor
open Go.RowKit
theorem TA (tk:ByteArray):(⟨(Lib.trimPrefix (kJ tk).data.toList [108]).toArray⟩:ByteArray)=tk/\Lib.hasPrefix (kJ tk).data.toList [108]=true:=by
 have e:(kJ tk).data.toList=108::tk.data.toList:=by simp[kJ]
 rw[e]
 have h:Lib.hasPrefix (108::tk.data.toList) [108]=true:=by simp[Lib.hasPrefix]
 refine⟨?_,h⟩
 unfold Lib.trimPrefix
 rw[if_pos h]
 rfl
theorem Ju (p:LP)(h:∃ao n c,p.2= .slice ao n c):∀v∈kU p,v.oneCell'=true:=by
 obtain⟨ao,n,c,e⟩:=h
 intro v hv
 unfold kU at hv
 rw[e] at hv
 simp only[bX,Sz,wN] at hv
 rcases hv with rfl|rfl|rfl|rfl|rfl|rfl<;>rfl
def TM (w:World)(ls:List bI)(x:Value)(w':World):Prop:=∃ps:List LP,ps.map (·.1)=ls/\aT w' fH w.heap.size 24 6 x ps.length (ps.flatMap kU)/\(∀p∈ps,gY w' (fun g=>x.ownBlock=some g\/g<w.heap.size) p.2 p.1.path)/\Below w.heap.size w w'
def Uk (w:World)(B:Nat)(xv:Value)(ls:List bI)(v i:Value)(wr:World):Prop:=
 ∃(k:Nat) (ps:List LP),k<=ls.length/\i= .int .i64 k/\ps.map (·.1)=ls.take k/\aT wr fH B 24 6 v ps.length (ps.flatMap kU)/\(∀p∈ps,gY wr (fun g=>v.ownBlock=some g\/g<B) p.2 p.1.path)/\aT wr fH B 130 2 xv ls.length (dK (ls.map bI.pair))/\Below B w wr
theorem MO {w:World}{S:Nat->Prop}{v:Value}{n:Nat}{kv:List Pr}(h:cZ w S 2 v n (dK kv)):kv.length=n:=by
 rcases h with ⟨_,_,_,_,_,hl,_⟩|⟨rfl,hl,_⟩
 ·rw[uy] at hl;omega
 ·have:=congrArg List.length hl
  rw[uy,aJ] at this
  omega
theorem NN {w:World}{S:Nat->Prop}{kv:List Pr}{ao:Option Addr}{n c:Nat}(h:cZ w S 2 (.slice ao n c) n (dK kv))(i:Nat)(hi:i<kv.length):
  ∃b o,ao=some ⟨b,o,none⟩/\w.cell? ⟨b,o+i*2,none⟩=some (.string kv[i].1)/\w.cell? ⟨b,o+i*2+1,none⟩=some (.string kv[i].2):=by
 have hn:0<n:=by
  have h1:=(MO h)
  omega
 obtain⟨ao',c',e,_,_,_,_,_,h6⟩:=cZ.real h hn
 cases e
 have key:∀j u,j<2->([Value.string kv[i].1,.string kv[i].2])[j]? =some u->∃b o,ao=some ⟨b,o,none⟩/\w.cell? ⟨b,o+i*2+j,none⟩=some u:=fun j u hj hu=>by
  obtain⟨b,o,e1,e2⟩:=h6 (i*2+j) u (by unfold dK;rw[BI _ 2 (fun _=>rfl) kv i j hi hj];exact hu)
  exact⟨b,o,e1,by rw[kG];exact e2⟩
 obtain⟨b,o,rfl,g0⟩:=key 0 _ (by omega) rfl
 obtain⟨_,_,e1,g1⟩:=key 1 _ (by omega) rfl;cases e1
 exact⟨b,o,rfl,g0,g1⟩
theorem KC (F:Nat->Prop)(v t b:Nat)(ls:List bI)(w:World)(h:LT F v t b ls w):
  Calls Tryz.prog 42 #[.pointer (some ⟨b,0,none⟩)] w fun e w'=>∃x,e= .returned (.tuple #[x,.int .i64 0])/\TM w ls x w':=by
 have HS:=af h.scan
 have hobj:=h.obj
 have hlt:=h.lt
 have c0:w.cell? ⟨b,0,none⟩=some (.pointer (some ⟨t,0,none⟩)):=by simp[World.cell?,hobj]
 have HOK:=af h.ok
 clear h hobj
 go_enter Tryz.func42,Tryz.ntmps42
 go_upto_region 5 with (fail)
 go_loopw [4,5] (fun o f wr=>o= .slice none 0 0/\f= .string ⟨#[108]⟩/\wr=w) (fun _ _ _=>0)
 case atStart=>exact⟨rfl,rfl,rfl⟩
 case round=>
  obtain⟨rfl,rfl,hwr⟩:=hrel
  subst wr
  go_wp2_with (first
   |(go_at_call 72;go_must (refine HS.out.mono ?_;rintro e w1 ⟨x,rfl,hx,hb1⟩;refine Stop.of ?_)))
  refine Stop.on ?_
  have hnl:=HOK.out.len
  have hx64:(ls.length:Int)<64:=by omega
  obtain⟨xo,xc,rfl,_,_,_,_⟩:=cZ.form hx.rF
  have hst:Uk w w.heap.size (.slice xo ls.length xc) ls (.slice none 0 0) (.int .i64 0) w1:=⟨0,[],aX _,rfl,by simp,aT.nil _ _ _ _ _,by simp,hx,hb1⟩
  clear hx hb1 c0 hlt
  go_upto_region 9 with (fail)
  go_loopw [4,5,9,10,11,28] (fun v f _ _ _ i wr=>(∃s,f= .string s)/\Uk w w.heap.size (.slice xo ls.length xc) ls v i wr) (fun _ _ _ _ _ i _=>ls.length - (intOf i).toNat)
  case atStart=>exact⟨⟨_,rfl⟩,hst⟩
  case round=>
   obtain⟨⟨fs,rfl⟩,k,ps,hk,rfl,hps,hO,hpp,hX,hbw⟩:=hrel
   clear hst
   by_cases hkl:k<ls.length
   ·have hkl':(k:Int)<(ls.length:Int):=by omega
    obtain⟨pb,o,rfl,d0,d1⟩:=NN hX.rF k (by rw[eX];exact hkl)
    have hfit:=HOK.out.fit _ (bD hkl)
    have htk:ls.take (k+1)=ls.take k++[ls[k]]:=aI hkl
    simp only[SA,bI.pair,bI.key] at d0 d1
    obtain⟨l,hl⟩:∃l,ls[k]=l:=⟨_,rfl⟩
    rw[hl] at d0 d1 hfit htk
    obtain⟨hc1,hc2⟩:=TA l.token
    have hb2:=aK wr (.cells #[.string (kJ l.token),.string (strOf l.enc)] 130)
    have hn2:=aP wr (.cells #[.string (kJ l.token),.string (strOf l.enc)] 130)
    have hbl:=aD wr _ d0
    obtain⟨w2,hw2⟩:∃w2:World,Hid (wr.alloc (.cells #[.string (kJ l.token),.string (strOf l.enc)] 130)=w2):=⟨_,af rfl⟩
    rw[hw2.out] at hb2 hn2
    have hdc:=LY l w2 hfit
    unfold p8 at hdc
    have HD:=af hdc
    clear hdc
    have hcp:Calls Tryz.prog 73 #[.string (kJ l.token),.string ⟨#[108]⟩] w2 _:=Any.strings_CutPrefix R5 _ _ w2
    rw[show (⟨#[108]⟩:ByteArray).data.toList=[108] from rfl,hc1,hc2] at hcp
    obtain⟨ky,hky⟩:∃ky,Hid (kJ l.token=ky):=⟨_,af rfl⟩
    obtain⟨en,hen⟩:∃en,Hid (strOf l.enc=en):=⟨_,af rfl⟩
    rw[hky.out,hen.out] at hn2 hw2
    rw[hky.out] at d0 hcp
    rw[hen.out] at d1 HD
    obtain⟨gb,hgb⟩:∃gb:Nat,Hid (wr.heap.size=gb):=⟨_,af rfl⟩
    rw[hgb.out] at hn2
    have c0:w2.cell? ⟨gb,0,none⟩=some (.string ky):=by simp[World.cell?,hn2]
    have c1:w2.cell? ⟨gb,1,none⟩=some (.string en):=by simp[World.cell?,hn2]
    have cl:=(aj.1 hn2).1
    have HC:=af hcp
    have HX:=af (aC hps (aC hO (aC hpp (aC hX (aC hbw (aC hb2 (aC htk (aC hl hfit))))))))
    have HN2:=af hn2
    obtain⟨vo,vc,rfl,_,_,_,_⟩:=cZ.form hO.rF
    clear hps hO hpp hX hbw hb2 htk hl hfit hcp hc1 hc2 hn2
    obtain⟨tk,pt,dp,ex,ow,ti⟩:=l
    dsimp only at HC HD
    go_upto_region 11 with (fail)
    rw[hw2.out,hgb.out]
    clear d0 d1 hbl
    go_wp2_with (first
     |(go_at_call 73;go_must (refine HC.out.mono ?_;rintro e w3 ⟨rfl,hw⟩;subst w3))
     |(go_at_call 74;go_must (refine HD.out.mono ?_;rintro e w4 ⟨pv,rfl,hpv,hb4⟩;refine Stop.of ?_)))
    refine Stop.on ?_
    obtain⟨po,pc,rfl,_,_,_,_⟩:=cZ.form hpv
    have hb24:=HX.out.2.2.2.2.2.1.trans (hb4.mono HX.out.2.2.2.2.2.1.size)
    have hb5:=aK w4 (.cells #[.string tk,.slice po pt.length pc,.bool dp,.bool ex,.string ow,.int .i64 ti] 24)
    have hO5:=(HX.out.2.1.below hb24).below hb5
    have hn4:=(hb4.block gb cl).trans HN2.out
    have hn5:=(hb5.block gb (aj.1 hn4).1).trans hn4
    have hpsl:ps.length=k:=by
     have:=congrArg List.length HX.out.1
     rw[eX,aF] at this
     omega
    have hsz5:w.heap.size<=(w4.alloc (.cells #[.string tk,.slice po pt.length pc,.bool dp,.bool ex,.string ow,.int .i64 ti] 24)).heap.size:=aH HX.out.2.2.2.2.1.size (aH hb24.size hb5.size)
    have hone:=Ju (⟨tk,pt,dp,ex,ow,ti⟩,.slice po pt.length pc) ⟨_,_,_,rfl⟩
    have HY:=af (aC hpv (aC hb24 (aC hb5 (aC hO5 (aC hn5 (aC hpsl (aC hsz5 hone)))))))
    clear hpv hb4 hb24 hb5 hO5 hn5 hn4 hpsl hsz5 hone c0 c1 cl
    go_wp2_with (first
     |(at_builtin;go_must ((refine dQ rfl (.tmp 41) (.tmp 46) 26 26 rfl fH w.heap.size 24 6 72 _ Tryz.underlying26 DI rfl (.slice vo ps.length vc) _ _ rfl HY.out.2.2.2.1 _ 1 _ rfl (iq [.string tk,.slice po pt.length pc,.bool dp,.bool ex,.string ow,.int .i64 ti] _ 6 1 1 (by simp) Tryz.underlying26 rfl HY.out.2.2.2.2.2.2.2) (fun _ h=>h.elim) HY.out.2.2.2.2.2.2.1 ?_ ?_ ?_);(focus (unfold maxLen;have:=HY.out.2.2.2.2.2.1;omega));(focus (have:=HY.out.2.2.2.2.2.1;omega));intro ao6 c6 w6 hown6 hk6 hbb6 hd6;refine Stop.of ?_)))
    refine Stop.on ?_
    have hn6:=(hk6.block gb (aj.1 HY.out.2.2.2.2.1).1 (HY.out.2.2.2.1.ne HY.out.2.2.2.2.1 (by decide))).trans HY.out.2.2.2.2.1
    have c0:w6.cell? ⟨gb,0,none⟩=some (.string ky):=by simp[World.cell?,hn6]
    have cl:=(aj.1 hn6).1
    have hb25:Below wr.heap.size wr (w4.alloc (.cells #[.string tk,.slice po pt.length pc,.bool dp,.bool ex,.string ow,.int .i64 ti] 24)):=HY.out.2.1.trans (HY.out.2.2.1.mono HY.out.2.1.size)
    have hnew:Uk w w.heap.size (.slice (some ⟨pb,o,none⟩) ls.length xc) ls (.slice ao6 (ps.length+1) c6) (.int .i64 ((k+1:Nat):Int)) w6:=by
     refine⟨k+1,ps++[(⟨tk,pt,dp,ex,ow,ti⟩,.slice po pt.length pc)],hkl,rfl,?_,?_,?_,?_,?_⟩
     ·rw[dz,HX.out.1,HX.out.2.2.2.2.2.2.1];rfl
     ·rw[jK,ay]
      simp only[dY,vU,dS,bE,aJ]
      exact hown6
     ·intro p hp
      rcases bO.1 hp with hp|hp
      ·have h1:=HX.out.2.2.1 p hp
       have h2:=cZ.below h1 hb25
       exact cZ.keep h2 fun g hg hl hn=>⟨hk6.block g hl (fun e=>hn (.inl e)),fun e=>e.elim (hd6 g hl (fun e=>hn (.inl e))) (fun e=>hn (.inr e))⟩
      ·rw[bK.1 hp]
       have h1:=cZ.below HY.out.1 HY.out.2.2.1
       have hw2s:=HX.out.2.2.2.2.2.1.size
       have hne:∀g,¬g<w2.heap.size->(Value.slice vo ps.length vc).ownBlock≠some g:=fun g hg e=>hg (ax (HX.out.2.1.1.lt g e).2 hw2s)
       exact cZ.keep h1 fun g hg hl hn=>⟨hk6.block g hl (hne g hn),fun e=>e.elim (hd6 g hl (hne g hn)) (fun e=>hn (ax e (aH HX.out.2.2.2.2.1.size hw2s)))⟩
     ·have h2:=HX.out.2.2.2.1.below hb25
      exact h2.keep fun g hg hl hs=>⟨hk6.block g hl (fun e=>aT.Fg h2 HY.out.2.2.2.1 (by decide) g hg e),hs⟩
     ·have h1:=HX.out.2.2.2.2.1
      exact(h1.trans (hb25.mono h1.size)).trans hbb6
    have HNEW:=af hnew
    have hks:ky.size<=61:=by
     have h1:=HX.out.2.2.2.2.2.2.2.2.tok
     rw[<-hky.out,uH]
     dsimp only at h1 ⊢
     omega
    have hks2:(⟨#[0]⟩:ByteArray).size=1:=rfl
    clear hnew hn6 hb25 hown6 hk6 hbb6 hd6
    go_wp2_with fail
    go_roundw
    case rel=>exact⟨⟨_,rfl⟩,HNEW.out⟩
    case measure=>simp[intOf];omega
   ·obtain rfl:k=ls.length:=by omega
    have x2:¬(ls.length:Int)<(ls.length:Int):=by omega
    have HX:=af (aC hps (aC hO (aC hpp hbw)))
    obtain⟨vo,vc,rfl,_,_,_,_⟩:=cZ.form hO.rF
    clear hps hO hpp hX hbw
    go_wp2_with fail
    go_ret2
    exact⟨_,rfl,ps,by rw[HX.out.1,bP],HX.out.2.1,HX.out.2.2.1,HX.out.2.2.2⟩
def qB (w:World)(S:Nat->Prop)(v:Value)(ps:List LP):Prop:=cZ w S 6 v ps.length (ps.flatMap kU)/\∀p∈ps,gY w S p.2 p.1.path
theorem qB.Un {w:World}{S:Nat->Prop}{v:Value}{ps:List LP}(h:qB w S v ps):tL w S v ps:=⟨h.1,fun p hp=>⟨S,h.2 p hp⟩⟩
theorem qB.keep {w w':World}{S:Nat->Prop}{v:Value}{ps:List LP}(h:qB w S v ps)(hk:Keep S w w'):qB w' S v ps:=
 ⟨cZ.keep h.1 fun g _ hl hn=>⟨hk.block g hl hn,hn⟩,fun p hp=>cZ.keep (h.2 p hp) fun g _ hl hn=>⟨hk.block g hl hn,hn⟩⟩
theorem qB.of {w:World}{S:Nat->Prop}{B:Nat}{v:Value}{ps:List LP}(h:aT w fH B 24 6 v ps.length (ps.flatMap kU))(hp:∀p∈ps,gY w (fun g=>v.ownBlock=some g\/g<B) p.2 p.1.path)(hS:∀g,B<=g->g<w.heap.size->¬S g):qB w S v ps:=
 ⟨aT.rF (S:=S) ⟨h.1,fun g hg=>hS g (h.1.lt g hg).1 (h.1.lt g hg).2⟩,fun p hq=>cZ.keep (hp p hq) fun g _ hl hn=>⟨rfl,hS g (by
  apply jX
  intro hlt
  exact hn (.inr (Nat.lt_of_not_le hlt))) hl⟩⟩
theorem Keep.imp {M M':Nat->Prop}{w w':World}(h:Keep M w w')(hM:∀g,M g->M' g):Keep M' w w':=h.mono fun g _ e=>hM g e
theorem QV (tk:ByteArray):(⟨#[108]⟩:ByteArray)++tk=kJ tk:=by
 unfold kJ
 apply Ct
 simp
theorem Oc (nb:Nat)(now:Int):TK 44 #[.pointer (some ⟨nb,0,none⟩)] (fun l=>decide (l.till<=now)) (fun W=>W.cell? ⟨nb,0,none⟩=some (.int .i64 now)/\nb<W.heap.size):=by
 intro l pv T w ⟨hc,hlt⟩ hp
 obtain⟨tk,pt,dp,ex,ow,ti⟩:=l
 obtain⟨po,pc,rfl,_,_,_,_⟩:=cZ.form hp
 unfold p8
 dsimp only
 have hb2:=aK w (.cells #[.string tk,.slice po pt.length pc,.bool dp,.bool ex,.string ow,.int .i64 ti] 24)
 have hn2:=aP w (.cells #[.string tk,.slice po pt.length pc,.bool dp,.bool ex,.string ow,.int .i64 ti] 24)
 have c1:=(hb2.cell (p:=⟨nb,0,none⟩) hlt).trans hc
 obtain⟨w2,hw2⟩:∃w2:World,Hid (w.alloc (.cells #[.string tk,.slice po pt.length pc,.bool dp,.bool ex,.string ow,.int .i64 ti] 24)=w2):=⟨_,af rfl⟩
 rw[hw2.out] at hb2 hn2 c1
 obtain⟨gb,hgb⟩:∃gb:Nat,Hid (w.heap.size=gb):=⟨_,af rfl⟩
 rw[hgb.out] at hn2
 obtain⟨e0,e1,e2,e3,e4,e5,le⟩:=bW hn2
 have hl2:=ax hlt hb2.size
 have HB:=af hb2
 clear hb2 hn2 hc hlt
 go_enter Tryz.func44,Tryz.ntmps44
 go_upto_region 1 with (fail)
 rw[hw2.out,hgb.out]
 go_wp2
 go_ret
 exact⟨rfl,HB.out⟩
theorem Od (nb:Nat)(now:Int):TK 37 #[.pointer (some ⟨nb,0,none⟩)] (fun l=>decide (l.till<=now)) (fun W=>W.cell? ⟨nb,0,none⟩=some (.int .i64 now)/\nb<W.heap.size):=by
 intro l pv T w ⟨hc,hlt⟩ hp
 obtain⟨tk,pt,dp,ex,ow,ti⟩:=l
 obtain⟨po,pc,rfl,_,_,_,_⟩:=cZ.form hp
 unfold p8
 dsimp only
 have hb2:=aK w (.cells #[.string tk,.slice po pt.length pc,.bool dp,.bool ex,.string ow,.int .i64 ti] 24)
 have hn2:=aP w (.cells #[.string tk,.slice po pt.length pc,.bool dp,.bool ex,.string ow,.int .i64 ti] 24)
 have c1:=(hb2.cell (p:=⟨nb,0,none⟩) hlt).trans hc
 obtain⟨w2,hw2⟩:∃w2:World,Hid (w.alloc (.cells #[.string tk,.slice po pt.length pc,.bool dp,.bool ex,.string ow,.int .i64 ti] 24)=w2):=⟨_,af rfl⟩
 rw[hw2.out] at hb2 hn2 c1
 obtain⟨gb,hgb⟩:∃gb:Nat,Hid (w.heap.size=gb):=⟨_,af rfl⟩
 rw[hgb.out] at hn2
 obtain⟨e0,e1,e2,e3,e4,e5,le⟩:=bW hn2
 have hl2:=ax hlt hb2.size
 have HB:=af hb2
 clear hb2 hn2 hc hlt
 go_enter Tryz.func37,Tryz.ntmps37
 go_upto_region 1 with (fail)
 rw[hw2.out,hgb.out]
 go_wp2
 go_ret
 exact⟨rfl,HB.out⟩
theorem N9 (F:Nat->Prop)(v t b:Nat)(ls:List bI)(now:Int)(g:Nat)(cb:Array Value)(so:bI->Bool)(Q:World->Prop)(hent:∀args w,(callFunc g args).run Tryz.prog w= .ok (.enter g args) w)(hso:TK g cb so Q)(w:World)(h:LT F v t b ls w)(hq:∀w2,Keep (fun x=>¬F x) w w2->Q w2):
  Calls Tryz.prog 36 #[.pointer (some ⟨b,0,none⟩),.int .i64 now,.func (.func g) #[] cb] w fun e w'=>e= .returned (.tuple #[.int .i64 (pJ so now ls ls.length:Nat),.int .i64 0])/\LT F v t b (mQ so ls ls.length) w'/\Keep (fun x=>¬F x) w w':=by
 have HL:=af (KC F v t b ls w h)
 have H:=af h;have HQ:=af hq;have HSO:=af hso
 clear h hq hso
 go_enter Tryz.func36,Tryz.ntmps36
 go_wp2_with (first
  |(go_at_call 42;go_must (refine HL.out.mono ?_;rintro e w1 ⟨x,rfl,ps,hps,hx,hpp,hb1⟩;refine Stop.of ?_)))
 refine Stop.on ?_
 have hT1:=H.out.next hb1
 have hLF:qB w1 (fun g=>¬uf F w w1 g) x ps:=qB.of hx hpp (fun g h1 h2 hn=>hn (.inr ⟨h1,h2⟩))
 have hQ1:∀w2,Keep (fun g=>¬uf F w w1 g) w1 w2->Q w2:=fun w2 hk=>HQ.out w2 ((Keep.of_below hb1 _).trans (hk.imp fun g e hf=>e (.inl hf)) (fun _ _ e=>e))
 have hF1:∀g,F g->uf F w w1 g:=fun g e=> .inl e
 have hk1:Keep (fun x=>¬F x) w w1:=Keep.of_below hb1 _
 generalize uf F w w1=F1 at hT1 hLF hQ1 hF1
 have HX:=af (aC hF1 (aC hQ1 (aC hk1 hLF)))
 obtain⟨lo,lc,rfl,hl1,hl2,_,_⟩:=cZ.form hLF.1
 have HPS:=af hps
 have hnl:ls.length=ps.length:=by rw[<-hps,eX]
 have HNL:=af hnl
 clear hF1 hQ1 hLF hps hx hpp hb1 hnl hk1
 go_upto_region 4 with (fail)
 go_loopw [10,12,13,14,22] (fun c _ _ _ i wr=>∃k:Nat,k<=ps.length/\i= .int .i64 k/\c= .int .i64 (pJ so now ls k:Nat)/\LT F1 v t b (mQ so ls k) wr/\Keep (fun x=>¬F1 x) w1 wr) (fun _ _ _ _ i _=>ps.length - (intOf i).toNat)
 case atStart=>exact⟨0,aX _,rfl,rfl,by rw[IX];exact hT1,Keep.refl _ _⟩
 case round=>
  obtain⟨k,hk,rfl,rfl,hTk,hkk⟩:=hrel
  clear hT1
  by_cases hkl:k<ps.length
  ·have hkl':(k:Int)<(ps.length:Int):=by omega
   have hLr:=HX.out.2.2.2.keep hkk
   obtain⟨sb,o,rfl,d0,d1,d2,d3,d4,d5⟩:=hLr.Un.at rfl k hkl
   have hT:=hLr.2 _ (bD hkl)
   have hls:ls[k]'(by rw[HNL.out];exact hkl)=ps[k].1:=by
    have:=HPS.out
    subst this
    simp
   obtain⟨p,hp⟩:∃p,ps[k]=p:=⟨_,rfl⟩
   rw[hp] at d0 d1 d2 d3 d4 d5 hT hls
   have hb2:=aK wr (.cells #[.string p.1.token,p.2,.bool p.1.deep,.bool p.1.excl,.string p.1.owner,.int .i64 p.1.till] 24)
   have hn2:=aP wr (.cells #[.string p.1.token,p.2,.bool p.1.deep,.bool p.1.excl,.string p.1.owner,.int .i64 p.1.till] 24)
   have hbl:=aD wr _ d0
   obtain⟨w2,hw2⟩:∃w2:World,Hid (wr.alloc (.cells #[.string p.1.token,p.2,.bool p.1.deep,.bool p.1.excl,.string p.1.owner,.int .i64 p.1.till] 24)=w2):=⟨_,af rfl⟩
   rw[hw2.out] at hb2 hn2
   have hcc:=HSO.out p.1 p.2 _ w2 (HX.out.2.1 w2 (hkk.trans (Keep.of_below hb2 _) (fun _ _ e=>e))) (cZ.below hT hb2)
   unfold p8 at hcc
   obtain⟨gb,hgb⟩:∃gb:Nat,Hid (wr.heap.size=gb):=⟨_,af rfl⟩
   rw[hgb.out] at hn2
   have hsn:=FE (so:=so) (now:=now) (k:=k) (ls:=ls) (by rw[HNL.out];exact hkl)
   have hsk:=IZ (so:=so) (ls:=ls) (k:=k) (by rw[HNL.out];exact hkl)
   have hsd:=Lm (so:=so) (ls:=ls) (k:=k) H.out.ok (by rw[HNL.out];exact hkl)
   have hfit:=H.out.ok.fit p.1 (by rw[<-hls];exact bD _)
   rw[hls] at hsn hsk hsd
   obtain⟨C,hC⟩:∃C,Hid (so p.1=C):=⟨_,af rfl⟩
   rw[hC.out] at hcc hsn hsk hsd
   have HCC:=af hcc
   have HM:=af (aC hsn (aC hsk (aC hsd (aC hfit (aC hn2 (aC hb2 (aC hTk hkk)))))))
   have hform:=cZ.form hT
   clear hcc hp hT hls hsn hsk hsd hfit hn2 hb2 hTk hkk hLr
   obtain⟨⟨tk,pt,dp,ex,ow,ti⟩,qv⟩:=p
   dsimp only at d0 d1 d2 d3 d4 d5 HCC hC HM hform hw2
   obtain⟨qo,qc,rfl,_,_,_,_⟩:=hform
   go_upto_region 6 with (fail)
   rw[hw2.out,hgb.out]
   obtain⟨e0,e1,e2,e3,e4,e5,le⟩:=bW HM.out.2.2.2.2.1
   clear d0 d1 d2 d3 d4 d5 hbl
   cases C with
   |false=>
    go_wp2_with (first
     |((refine HCC.out.mono ?_);rintro e w3 ⟨rfl,hb3⟩;refine Stop.of ?_))
    refine Stop.on ?_
    have hb23:=HM.out.2.2.2.2.2.1.trans (hb3.mono HM.out.2.2.2.2.2.1.size)
    have HB3:=af hb23
    clear hb3 hb23
    go_wp2_with fail
    go_roundw
    case rel=>
     refine⟨k+1,by omega,by go_num,by rw[HM.out.1];simp,?_,HM.out.2.2.2.2.2.2.2.trans (Keep.of_below HB3.out _) (fun _ _ e=>e)⟩
     rw[HM.out.2.1 (by trivial)]
     exact HM.out.2.2.2.2.2.2.1.below HB3.out
    case measure=>simp[intOf];omega
   |true=>
    go_wp2_with (first
     |((refine HCC.out.mono ?_);rintro e w3 ⟨rfl,hb3⟩;refine Stop.of ?_))
    refine Stop.on ?_
    have hb23:=HM.out.2.2.2.2.2.1.trans (hb3.mono HM.out.2.2.2.2.2.1.size)
    have hgb0:=hgb.out
    have hgl:gb<w3.heap.size:=ax le hb3.size
    have hT3:=(HM.out.2.2.2.2.2.2.1.next hb23).below ((aO _ w3).drew)
    have hF2:uf F1 wr w3 gb:= .inr ⟨fU hgb0,hgl⟩
    have hF12:∀x,F1 x->uf F1 wr w3 x:=fun x e=> .inl e
    have hk3:Keep (fun x=>¬F1 x) w1 w3.drew:=(HM.out.2.2.2.2.2.2.2.trans (Keep.of_below hb23 _) (fun _ _ e=>e)).drew
    generalize uf F1 wr w3=F2 at hT3 hF2 hF12
    have hd:=HM.out.2.2.1 (by trivial)
    have HDL:=af (hT3.del tk HM.out.2.2.2.1.tok (mQ so ls (k+1)) hd.1 hd.2 (H.out.ok.mQ so (k+1)))
    have hn3:w3.heap[gb]? =_:=(hb3.block gb le).trans HM.out.2.2.2.2.1
    have hobj:w3.heap[b]? =some (.cells #[.pointer (some ⟨t,0,none⟩)] 69 (0,0)):=hT3.obj
    clear e0 e1 e2 e3 e4 e5 le
    obtain⟨e0,e1,e2,e3,e4,e5,le⟩:=bW hn3
    have c0:w3.cell? ⟨b,0,none⟩=some (.pointer (some ⟨t,0,none⟩)):=by simp[World.cell?,hobj]
    have bl:=(aj.1 hobj).1
    have hks:tk.size<=60:=HM.out.2.2.2.1.tok
    have hks2:¬9223372036854775807<1+tk.size:=by omega
    have hla:=QV tk
    have HK3:=af (aC hk3 (aC hF2 (aC hF12 (aC hn3 hobj))))
    clear hk3 hF2 hF12 hn3 hobj hb3 hb23 hd hgb0 hgl hT3
    go_wp2_with fail
    refine aS (fun W=>W.cell? ⟨b,0,none⟩=some (.pointer (some ⟨t,0,none⟩))/\b<W.heap.size/\W.cell? ⟨gb,0,none⟩=some (.string tk)/\gb<W.heap.size) (fun i=> !([7].contains i)) [0,1,2,3,4,5,6,7,8,9,10,11,12] rfl (by kernel_rfl) ⟨c0,bl,e0,le⟩ ?_
    repeat ((refine bL (v:= ?_) rfl rfl (fun _ _ _ h=>h) rfl (fun W hW=> ?_) ?_);rotate_left;(focus ((try dsimp only at hW);obtain⟨q0,q1,q2,q3⟩:=hW;(go_simp;first|done|with_reducible rfl)));(try simp only[Act.put,ah,au,ak]))
    refine dm rfl rfl rfl ?_;intro K hK;go_simp
    refine HDL.out.mono ?_;rintro e w4 ⟨rfl,hT4,hk4⟩
    have hn4:w4.heap[gb]? =_:=(hk4.block gb (show gb<w3.drew.heap.size from le) (fun e=>e HK3.out.2.1)).trans (show w3.drew.heap[gb]? =_ from HK3.out.2.2.2.1)
    have hobj4:=hT4.obj
    clear e0 e1 e2 e3 e4 e5 le c0 bl
    obtain⟨e0,e1,e2,e3,e4,e5,le⟩:=bW hn4
    have c0:w4.cell? ⟨b,0,none⟩=some (.pointer (some ⟨t,0,none⟩)):=by simp[World.cell?,hobj4]
    have bl:=(aj.1 hobj4).1
    refine hK.out _ _ ⟨c0,bl,e0,le⟩ ?_
    (try simp only[Act.put,ah,au,ak])
    repeat ((refine bL (v:= ?_) rfl rfl (fun _ _ _ h=>h) rfl (fun W hW=> ?_) ?_);rotate_left;(focus ((try dsimp only at hW);skip;(go_simp;first|done|with_reducible rfl)));(try simp only[Act.put,ah,au,ak]))
    refine bR ?_
    have HW4:=af (aC (hT4.sub HK3.out.2.2.1 (HM.out.2.2.2.2.2.2.1.fb)) (HK3.out.1.trans (hk4.imp fun x e hf=>e (HK3.out.2.2.1 x hf)) (fun _ _ e=>e)))
    clear hT4 hk4 hn4 hobj4 c0 bl
    clear hla hks hks2
    have hsn:=HM.out.1
    have hcn:pJ so now ls k<=33:=aH (Lp _ _ _ _) H.out.ok.len
    by_cases htn:now<ti
    ·have hs2:pJ so now ls (k+1)=pJ so now ls k+1:=by rw[hsn,bZ htn];rfl
     have HS2:=af hs2
     clear hs2 hsn
     go_wp2_with fail
     go_roundw
     case rel=>exact⟨k+1,by omega,by go_num,by rw[HS2.out];go_num,HW4.out.1,HW4.out.2⟩
     case measure=>simp[intOf];omega
    ·have hs2:pJ so now ls (k+1)=pJ so now ls k:=by rw[hsn,aZ htn];rfl
     have HS2:=af hs2
     clear hs2 hsn
     go_wp2_with fail
     go_roundw
     case rel=>exact⟨k+1,by omega,by go_num,by rw[HS2.out],HW4.out.1,HW4.out.2⟩
     case measure=>simp[intOf];omega
  ·obtain rfl:k=ps.length:=by omega
   have x2:¬(ps.length:Int)<(ps.length:Int):=by omega
   have HT:=af (aC hTk hkk)
   clear hTk hkk
   go_wp2_with fail
   go_ret2
   rw[HNL.out]
   have hs:=HT.out.1.sub HX.out.1 H.out.fb
   exact⟨rfl,hs,HX.out.2.2.1.trans (HT.out.2.imp fun g e hf=>e (HX.out.1 g hf)) (fun _ _ e=>e)⟩
theorem mP (p:LP):(kU p).length=6:=rfl
theorem GV (ps:List LP):(ps.flatMap kU).length=ps.length*6:=by
 induction ps with
 |nil=>rfl
 |cons a l ih=>rw[dY,ay,ih,mP,bE];omega
theorem LZ (p:LP)(h:∃ao n c,p.2= .slice ao n c):∀v∈kU p,v.oneCell'=true:=by
 obtain⟨ao,n,c,e⟩:=h
 intro v hv
 unfold kU at hv
 rw[e] at hv
 simp only[bX,Sz,wN] at hv
 rcases hv with rfl|rfl|rfl|rfl|rfl|rfl<;>rfl
def Dq (so:bI->Bool)(p:LP):Bool:= !so p.1
def J6 (so:bI->Bool)(ps:List LP)(tail:List Value)(j i:Nat)(cur:List Value):Prop:=
 ∃Y:List Value,cur=((ps.take j).filter (Dq so)).flatMap kU++(Y++((ps.drop j).flatMap kU++tail))/\i=((ps.take j).filter (Dq so)).length/\i<j/\Y.length=(j - i)*6
theorem J6.at {so:bI->Bool}{ps:List LP}{tail cur:List Value}{j i:Nat}(h:J6 so ps tail j i cur)(hj:j<ps.length)(k:Nat)(hk:k<6):cur[j*6+k]? =(kU ps[j])[k]? :=by
 obtain⟨Y,rfl,rfl,h1,h2⟩:=h
 have hl:(((ps.take j).filter (Dq so)).flatMap kU++Y).length=j*6:=by rw[ay,GV,h2];omega
 rw[<-aN,cK (by rw[hl];omega),hl,eP,bT hj,dY,aN,fu (by rw[mP];exact hk)]
theorem J6.skip {so:bI->Bool}{ps:List LP}{tail cur:List Value}{j i:Nat}(h:J6 so ps tail j i cur)(hj:j<ps.length)(hs:so ps[j].1=true):J6 so ps tail (j+1) i cur:=by
 obtain⟨Y,rfl,rfl,h1,h2⟩:=h
 have e:(ps.take (j+1)).filter (Dq so)=(ps.take j).filter (Dq so):=by
  rw[aI hj,lV]
  simp[Dq,hs]
 refine⟨Y++kU ps[j],?_,by rw[e],by omega,by rw[ay,h2,mP];omega⟩
 rw[e,bT hj,dY]
 simp only[aN]
theorem J6.move {so:bI->Bool}{ps:List LP}{tail cur:List Value}{j i:Nat}(h:J6 so ps tail j i cur)(hj:j<ps.length)(hs:so ps[j].1=false):J6 so ps tail (j+1) (i+1) (splice cur (i*6) (kU ps[j])):=by
 obtain⟨Y,rfl,rfl,h1,h2⟩:=h
 have e:(ps.take (j+1)).filter (Dq so)=(ps.take j).filter (Dq so)++[ps[j]]:=by
  rw[aI hj,lV]
  simp[Dq,hs]
 have hY:Y=Y.take 6++Y.drop 6:=(bV 6 Y).symm
 refine⟨Y.drop 6++kU ps[j],?_,by rw[e];simp,by omega,by rw[ay,aR,h2,mP];omega⟩
 rw[e]
 conv=>lhs;rw[hY]
 rw[aN (Y.take 6),oK _ (Y.take 6) _ _ _ (GV _) (by rw[aF,h2,mP];omega)]
 rw[bT hj,dY,jK]
 simp only[aN,dY,vU,dS]
theorem J6.start {so:bI->Bool}{ps:List LP}{tail:List Value}{k:Nat}(hk:k<ps.length)(hs:so ps[k].1=true)(hn:∀p∈ps.take k,so p.1=false):J6 so ps tail (k+1) k (ps.flatMap kU++tail):=by
 have e:(ps.take (k+1)).filter (Dq so)=ps.take k:=by
  rw[aI hk,lV,MW.2 (fun p hp=>by unfold Dq;rw[hn p hp];rfl)]
  simp[Dq,hs]
 refine⟨kU ps[k],?_,by rw[e,aF];omega,by omega,by rw[mP];omega⟩
 rw[e]
 conv=>lhs;rw[<-bV k ps,bT hk]
 rw[jK,dY]
 simp only[aN]
theorem J6.end {so:bI->Bool}{ps:List LP}{tail cur zs:List Value}{i:Nat}(h:J6 so ps tail ps.length i cur)(hz:zs.length=(ps.length - i)*6):(splice cur (i*6) zs).take ((ps.filter (Dq so)).length*6)=(ps.filter (Dq so)).flatMap kU/\i=(ps.filter (Dq so)).length/\i<ps.length/\(splice cur (i*6) zs).length=cur.length:=by
 obtain⟨Y,rfl,rfl,h1,h2⟩:=h
 rw[bP] at*
 refine⟨?_,rfl,h1,?_⟩
 ·rw[oK _ Y _ _ _ (GV _) (by rw[h2,hz]),List.take_left' (GV _)]
 ·rw[oK _ Y _ _ _ (GV _) (by rw[h2,hz])]
  simp only[ay,h2,hz]
def Uz (so:bI->Bool)(ps:List LP)(cur:List Value)(w:World)(cg:Nat)(i j:Value)(wr:World):Prop:=
 ∃(jn iN:Nat) (cr:List Value),jn<=ps.length/\j= .int .i64 jn/\i= .int .i64 iN/\J6 so ps (cur.drop (ps.length*6)) jn iN cr/\Row wr cg 24 cr/\cr.length=cur.length/\Keep (· =cg) w wr
theorem Qt (g:Nat)(cb:Array Value)(so:bI->Bool)(Q:World->Prop)(hent:∀args w,(callFunc g args).run Tryz.prog w= .ok (.enter g args) w)(hso:TK g cb so Q)(lv:Value)(ps:List LP)(B:Nat)(w:World)
  (h:aT w fH B 24 6 lv ps.length (ps.flatMap kU)) (hpp:∀p∈ps,gY w (fun x=>lv.ownBlock=some x) p.2 p.1.path) (hq:∀w2,Keep (fun x=>lv.ownBlock=some x) w w2->Q w2):
  Calls Tryz.prog 43 #[lv,.func (.func g) #[] cb] w fun e w'=>∃v',e= .returned v'/\aT w' fH B 24 6 v' (ps.filter (Dq so)).length ((ps.filter (Dq so)).flatMap kU)/\v'.ownBlock=lv.ownBlock/\Keep (fun x=>lv.ownBlock=some x) w w':=by
 have hix:=Ql g cb so Q hent hso lv ps _ w ⟨h.rF,fun p hp=>⟨_,hpp p hp⟩⟩ (fun w2 hb=>hq w2 (Keep.of_below hb _))
 have HIX:=af hix
 clear hix
 have hfm:=cZ.form h.rF
 obtain⟨lo,lc,rfl,hl1,hl2,_,_⟩:=hfm
 have HO:=af h;have HP:=af hpp;have HQ:=af hq;have HSO:=af hso
 clear h hpp hq hso
 go_enter Tryz.func43,Tryz.ntmps43
 go_wp2_with (first
  |(go_at_call 75;go_must (refine HIX.out.mono ?_;rintro e w1 ⟨⟨z,rfl,⟨rfl,hz2⟩|⟨k,rfl,hk,hsk,hnk⟩⟩,hb1⟩<;>refine Stop.of ?_)))
 ·refine Stop.on ?_
  have HZ:=af (aC hz2 hb1)
  clear hz2 hb1
  go_wp2_with fail
  go_ret
  have hf:ps.filter (Dq so)=ps:=MW.2 fun p hp=>by unfold Dq;rw[HZ.out.1 p hp];rfl
  exact⟨_,rfl,by rw[hf];exact HO.out.below (HZ.out.2.mono (aG _)),rfl,Keep.of_below HZ.out.2 _⟩
 ·refine Stop.on ?_
  obtain⟨cg,cap,hlo,hcap⟩:∃cg cap,(Value.slice lo ps.length lc)= .slice (some ⟨cg,0,none⟩) ps.length cap/\True:=by
   rcases HO.out.1.2 with ⟨h0,_⟩|⟨cg,cap,cur,hv,_⟩
   ·injection h0 with _ e2 _
    omega
   ·exact⟨cg,cap,hv,trivial⟩
  cases hlo
  obtain⟨cur,hr,hcl,hct,hBg,_,hc1,hc2⟩:=HO.out.row
  have hr1:Row w1 cg 24 cur:=hr.keep (Keep.of_below hb1 (fun _=>False)) (fun e=>e)
  have hst:J6 so ps (cur.drop (ps.length*6)) (k+1) k cur:=by
   have:=J6.start (tail:=cur.drop (ps.length*6)) hk hsk hnk
   rwa [<-hct,bV] at this
  have HR:=af (aC hcl (aC hBg (aC hc1 hc2)))
  have hk1:Keep (· =cg) w w1:=Keep.of_below hb1 _
  clear hr hct hcl hBg hsk hnk hb1 hc1 hc2
  have hk12:((k:Int)== -1)=false:=cu.2 (by omega)
  go_upto_region 5 with (fail)
  go_loopw [5,6,7] (fun i j _ wr=>Uz so ps cur w cg i j wr) (fun _ j _ _=>ps.length - (intOf j).toNat)
  case atStart=>exact⟨k+1,k,cur,by omega,by go_num,rfl,hst,hr1,rfl,hk1⟩
  case round=>
   obtain⟨jn,iN,cr,hjn,rfl,rfl,hd,hrr,hcr,hkr⟩:=hrel
   clear hst hr1 hk1
   by_cases hjl:jn<ps.length
   ·have hjl':(jn:Int)<(ps.length:Int):=by omega
    have hil:iN<jn:=by obtain⟨_,_,_,h,_⟩:=hd;exact h
    have hil':(iN:Int)<(ps.length:Int):=by omega
    obtain⟨p,hp⟩:∃p,ps[jn]=p:=⟨_,rfl⟩
    have hT:=HP.out _ (bD hjl)
    have hat:=fun (k:Nat) (hk:k<6)=>(hrr.cell (jn*6+k)).trans (hd.at hjl k hk)
    have hmv:=hd.move hjl
    have hskp:=hd.skip hjl
    rw[hp] at hT hat hmv hskp
    have hTr:gY wr (fun x=>some cg=some x) p.2 p.1.path:=cZ.keep hT fun g' hg hl hn=>⟨hkr.block g' hl (fun e=>hn (by rw[e];rfl)),fun e=>hn e⟩
    have d0:=hat 0 (by omega);have d1:=hat 1 (by omega);have d2:=hat 2 (by omega);have d3:=hat 3 (by omega);have d4:=hat 4 (by omega);have d5:=hat 5 (by omega)
    have hb2:=aK wr (.cells #[.string p.1.token,p.2,.bool p.1.deep,.bool p.1.excl,.string p.1.owner,.int .i64 p.1.till] 24)
    have hn2:=aP wr (.cells #[.string p.1.token,p.2,.bool p.1.deep,.bool p.1.excl,.string p.1.owner,.int .i64 p.1.till] 24)
    have hbl:=hrr.lt
    obtain⟨w2,hw2⟩:∃w2:World,Hid (wr.alloc (.cells #[.string p.1.token,p.2,.bool p.1.deep,.bool p.1.excl,.string p.1.owner,.int .i64 p.1.till] 24)=w2):=⟨_,af rfl⟩
    rw[hw2.out] at hb2 hn2
    have hq2:=HQ.out w2 ((Keep.mono hkr fun g' _ e=>by rw[e];rfl).trans (Keep.of_below hb2 _) (fun _ _ e=>e))
    have hcc:=HSO.out p.1 p.2 _ w2 hq2 (cZ.below hTr hb2)
    unfold p8 at hcc
    obtain⟨gb,hgb⟩:∃gb:Nat,Hid (wr.heap.size=gb):=⟨_,af rfl⟩
    rw[hgb.out] at hn2
    have hone:=LZ p (by obtain⟨qo,qc,e,_⟩:=cZ.form hT;exact⟨_,_,_,e⟩)
    obtain⟨C,hC⟩:∃C,Hid (so p.1=C):=⟨_,af rfl⟩
    rw[hC.out] at hcc hmv hskp
    have HCC:=af hcc
    have HM:=af (aC hmv (aC hskp (aC hone (aC hn2 (aC hb2 (aC hkr (aC hrr hcr)))))))
    have hform:=cZ.form hT
    clear hcc hp hT hTr hmv hskp hone hn2 hb2 hat hkr hq2 hrr hcr hd
    obtain⟨⟨tk,pt,dp,ex,ow,ti⟩,qv⟩:=p
    dsimp only at d0 d1 d2 d3 d4 d5 HCC hC hform hw2
    obtain⟨qo,qc,rfl,_,_,_,_⟩:=hform
    simp only[kU,List.getElem?_cons_zero,eB,iX] at d0 d1 d2 d3 d4 d5
    go_upto_region 8 with (fail)
    rw[hw2.out,hgb.out]
    obtain⟨e0,e1,e2,e3,e4,e5,le⟩:=bW HM.out.2.2.2.1
    clear d0 d1 d2 d3 d4 d5 hbl
    cases C with
    |true=>
     go_wp2_with (first
      |((refine HCC.out.mono ?_);rintro e w3 ⟨rfl,hb3⟩;refine Stop.of ?_))
     refine Stop.on ?_
     have hb23:=HM.out.2.2.2.2.1.trans (hb3.mono HM.out.2.2.2.2.1.size)
     have HB3:=af hb23
     clear hb3 hb23 e0 e1 e2 e3 e4 e5
     go_wp2_with fail
     go_roundw
     case rel=>exact⟨jn+1,iN,cr,by omega,by go_num,rfl,HM.out.2.1 (by trivial),HM.out.2.2.2.2.2.2.1.keep (Keep.of_below HB3.out (fun _=>False)) id,HM.out.2.2.2.2.2.2.2,HM.out.2.2.2.2.2.1.trans (Keep.of_below HB3.out _) (fun _ _ e=>e)⟩
     case measure=>simp[intOf];omega
    |false=>
     go_wp2_with (first
      |((refine HCC.out.mono ?_);rintro e w3 ⟨rfl,hb3⟩;refine Stop.of ?_))
     refine Stop.on ?_
     have hb23:=HM.out.2.2.2.2.1.trans (hb3.mono HM.out.2.2.2.2.1.size)
     have HB3:=af hb23
     have hn3:=(hb3.block gb le).trans HM.out.2.2.2.1
     clear e0 e1 e2 e3 e4 e5 le
     obtain⟨e0,e1,e2,e3,e4,e5,le⟩:=bW hn3
     have hr3:Row w3 cg 24 cr:=HM.out.2.2.2.2.2.2.1.keep (Keep.of_below hb23 (fun _=>False)) id
     have hfit:iN*6+[Value.string tk,.slice qo pt.length qc,.bool dp,.bool ex,.string ow,.int .i64 ti].length<=cr.length:=by
      have h1:=HM.out.2.2.2.2.2.2.2
      have h2:=HR.out.1
      have h3:=HR.out.2.2.1
      simp only[bE,aJ]
      omega
     have HFT:=af (aC hfit HM.out.2.2.1)
     clear hb3 hb23 hn3 hfit
     go_wp2_with (first
      |((refine dW rfl ?_);intro K hK;(refine wp_store_row 24 (.tmp 33) (.tmp 32) rfl cg (iN*6) 24 cr [Value.string tk,.slice qo pt.length qc,.bool dp,.bool ex,.string ow,.int .i64 ti] rfl rfl hr3 Lv HFT.out.1 HFT.out.2 ?_);intro w4 hr4 hk4;refine hK _ _ ?_))
     have hl4:(splice cr (iN*6) [Value.string tk,.slice qo pt.length qc,.bool dp,.bool ex,.string ow,.int .i64 ti]).length=cur.length:=by
      rw[eD _ _ _ HFT.out.1];exact HM.out.2.2.2.2.2.2.2
     have HW:=af (aC hr4 (aC hk4 hl4))
     clear hr4 hk4 hl4 hr3 e0 e1 e2 e3 e4 e5
     go_roundw
     case rel=>exact⟨jn+1,iN+1,_,by omega,by go_num,by go_num,HM.out.1 (by trivial),HW.out.1,HW.out.2.2,(HM.out.2.2.2.2.2.1.trans (Keep.of_below HB3.out _) (fun _ _ e=>e)).trans HW.out.2.1 (fun _ _ e=>e)⟩
     case measure=>simp[intOf];omega
   ·obtain rfl:jn=ps.length:=by omega
    have x2:¬(ps.length:Int)<(ps.length:Int):=by omega
    have hil:iN<ps.length:=by obtain⟨_,_,_,h,_⟩:=hd;exact h
    have hcap:=HR.out.2.2.1
    have k1:(0:Int)<=(iN:Int):=by omega
    have k2:(iN:Int)<=(lc:Int):=by omega
    have k3:(iN:Int)<=(ps.length:Int):=by omega
    have k4:¬lc=iN:=by omega
    have hz:∀zs:List Value,zs.length=(ps.length - iN)*6->_:=fun zs hz=>hd.end hz
    have HE:=af (aC hz (aC hcr hkr))
    clear hz hcr hkr hd hcap
    go_wp2_with (first
     |((refine dW rfl ?_);intro K hK;(refine kS (.tmp 38) 26 rfl 24 6 72 _ Tryz.underlying26 DI rfl cg (iN*6) 24 (ps.length - iN) _ (some ⟨cg,iN*6,none⟩) _ rfl hrr (fun _=>rfl) ?_ ?_ ?_);(focus (rw[HE.out.2.1,HR.out.1];have:=HR.out.2.2.1;omega));(focus (exact jF _ _ (by simp[Value.cells,Value.oneCell']) (by simp[Value.cells])));intro w2 zs hz hr2 hk2;refine hK _ _ ?_))
    go_ret
    obtain⟨q1,q2,q3,q4⟩:=HE.out.1 zs hz
    refine⟨_,rfl,?_,rfl,?_⟩
    ·rw[<-q1,<-q2]
     exact Row.own hr2 iN (by rw[q4,HE.out.2.1,HR.out.1]) HR.out.2.1 (fun e=>e) (by have:=HR.out.2.2.1;omega) HR.out.2.2.2
    ·exact(HE.out.2.2.trans hk2 (fun _ _ e=>e)).mono fun g' _ e=>by rw[e];rfl
end Go.Proofs.YtpgdljlghiifjaaGreatDoor
namespace Go.Proofs.YtpgdljlghiifjaaGreatDoor
open Go.RowKit Go.Shelf
structure vZ (w:World)(B b:Nat)(l:List UInt8):Prop where
 lo:B<=b
 at_:∃p v,(p= .pointer none\/p= .pointer (some ⟨b,0,none⟩))/\w.heap[b]? =some (.cells #[p,v] 121 (0,0))/\aT w fH B 5 1 v l.length (aL l)
theorem Tf:liesAt Tryz.prog Tryz.prog.depth 121 (2/Tryz.prog.cellsOf 121) 0 119 1=true:=by kernel_rfl
theorem F3 (B b:Nat)(l:List UInt8)(w:World)(h:vZ w B b l):
  Calls Tryz.prog 159 #[.pointer (some ⟨b,0,none⟩)] w fun e w'=>e= .returned (.tuple #[])/\(∃v,w'.heap[b]? =some (.cells #[.pointer (some ⟨b,0,none⟩),v] 121 (0,0))/\aT w' fH B 5 1 v l.length (aL l))/\Keep (· =b) w w':=by
 obtain⟨h2,p,v,h3,h4,h5⟩:=h
 rcases h3 with rfl|rfl
 ·obtain⟨j,hj,hjs⟩:=Option.map_eq_some_iff.1 rM.sizeBuilder
  have c0:w.cell? ⟨b,0,none⟩=some (.pointer none):=by simp[World.cell?,h4]
  have hsh:w.shape? b=some (121,2):=by simp[World.shape?,h4]
  have f0:w.frozen? ⟨b,0,none⟩=false:=by simp[World.frozen?,h4]
  have lt:=(aj.1 h4).1
  go_enter Tryz.func159,Tryz.ntmps159
  go_wp2
  rw[Lib.run_to_unsafe w ⟨b,0,none⟩ Iw wP hj (by rw[hjs];decide) hsh (Nat.zero_lt_succ 1)]
  simp only[Result.andThen]
  rw[Oper.upon_value]
  go_wp2
  rw[qZ Tryz.func196 (by kernel_rfl) (by kernel_rfl) (by kernel_rfl) (e:=Extern.AbiNoEscape.same) (by kernel_rfl)]
  rw[Lib.run_noEscape]
  simp only[Result.andThen]
  rw[Oper.upon_value]
  go_wp2
  rw[Lib.run_from_unsafe w ⟨b,0,none⟩ wP Iw hj hsh Tf]
  simp only[Result.andThen]
  rw[Oper.upon_value]
  go_wp2
  go_end0
  have hk:Keep (· =b) w (w.setCell ⟨b,0,none⟩ (.pointer (some ⟨b,0,none⟩))):=(Keep.refl (· =b) _).setCell (p:=⟨b,0,none⟩) (.inr rfl) _
  exact⟨rfl,⟨v,by simp[World.setCell,bn,h4],h5.keep fun g hg hl hs=>⟨hk.block g hl (fun e=>h5.ne h4 (by decide) (by rw[hg,e])),hs⟩⟩,hk⟩
 ·refine(Any.Builder_copyCheck_used zw rM.toX72 b w (by simp[World.cell?,h4])).mono ?_
  rintro e w' ⟨rfl,rfl⟩
  exact⟨rfl,⟨v,h4,h5⟩,Keep.refl _ _⟩
theorem NM {B b n:Nat}{w1 w3:World}{ao:Option Addr}{c:Nat}{v:Value}{l:List UInt8}(hlo:B<=b)(hb:w3.heap[b]? =some (.cells #[.pointer (some ⟨b,0,none⟩),v] 121 (0,0)))(ho:aT w3 fH B 5 1 (.slice ao n c) n (aL l))(hn:n=l.length)(hb3:Below B w1 w3):
  vZ (w3.setCell ⟨b,1,none⟩ (.slice ao n c)) B b l/\Below B w1 (w3.setCell ⟨b,1,none⟩ (.slice ao n c)):=by
 subst hn
 have hk:Keep (· =b) w3 (w3.setCell ⟨b,1,none⟩ (.slice ao l.length c)):=(Keep.refl (· =b) _).setCell (p:=⟨b,1,none⟩) (.inr rfl) _
 exact⟨⟨hlo,_,_,.inr rfl,by simp[World.setCell,bn,hb],ho.keep fun g hg hl hs=>⟨hk.block g hl (fun e=>ho.ne hb (by decide) (by rw[hg,e])),hs⟩⟩,hb3.setCell (p:=⟨b,1,none⟩) hlo _⟩
theorem Qa (B b:Nat)(l:List UInt8)(c:Int)(w:World)(h:vZ w B b l)(hB:B<=w.heap.size)(hl:l.length<=1000000)(hc:0<=c/\c<=255):
  Calls Tryz.prog 116 #[.pointer (some ⟨b,0,none⟩),.int .u8 c] w fun e w'=>e= .returned .nilIface/\vZ w' B b (l++[UInt8.ofNat c.toNat])/\Below B w w':=by
 have HC:=af (F3 B b l w h)
 have hlo:=h.lo
 clear h
 go_enter Tryz.func116,Tryz.ntmps116
 go_wp2_with (first
  |(go_at_call 159;go_must (refine HC.out.mono ?_;rintro e w1 ⟨rfl,⟨v,hobj,hown⟩,hk1⟩;refine Stop.of ?_)))
 refine Stop.on ?_
 obtain⟨ao,cc,rfl,_,_,_,_⟩:=bJ.form hown.dI
 have hbw1:Below B w w1:=hk1.iH hB (fun g hg e=>by have e:g=b:=e;omega)
 have hB1:=aH hB hk1.size
 have c1:w1.cell? ⟨b,1,none⟩=some (.slice ao l.length cc):=by simp[World.cell?,hobj]
 have lt:=(aj.1 hobj).1
 go_wp2_with (first
  |(at_builtin;go_must ((refine dQ rfl (.tmp 11) (.tmp 13) 101 101 rfl fH B 5 1 1 (.int .u8 0) bH jD rfl (.slice ao l.length cc) _ _ rfl (hown.below (aK _ _)) _ 1 _ rfl (iq [_] _ 1 1 1 (by simp) bH rfl ?_) (fun _ h=>h.elim) ?_ ?_ ?_ ?_);(focus (simp[Value.oneCell']));(focus (simp only[aU];omega));(focus (unfold maxLen;omega));(focus omega);intro ao3 c3 w3 hown3 hk3 hb3 hd3;refine Stop.of ?_)))
 refine Stop.on ?_
 have hob3:=(hk3.block b (by simp;omega) (fun e=>by
  have:=hown.ne hobj (by decide)
  exact this e)).trans ((aK w1 _).block b lt|>.trans hobj)
 have d1:w3.cell? ⟨b,1,none⟩=some (.slice ao l.length cc):=by simp[World.cell?,hob3]
 have df:w3.frozen? ⟨b,1,none⟩=false:=by simp[World.frozen?,hob3]
 have dl:=(aj.1 hob3).1
 have hcc:aL l++[Value.int .u8 c]=aL (l++[UInt8.ofNat c.toNat]):=by
  rw[gM]
  congr 1
  simp[aL]
  omega
 rw[hcc] at hown3
 have HE:=af (NM (w1:=w) hlo hob3 hown3 (by simp) ((hbw1.trans ((aK w1 _).mono hB1)).trans hb3))
 clear hown3 hcc
 go_wp2_with fail
 go_ret
 exact⟨rfl,HE.out⟩
theorem Rx (B b:Nat)(l:List UInt8)(s:ByteArray)(w:World)(h:vZ w B b l)(hB:B<=w.heap.size)(hl:l.length<=1000000)(hs:s.size<=1000000):
  Calls Tryz.prog 117 #[.pointer (some ⟨b,0,none⟩),.string s] w fun e w'=>e= .returned (.tuple #[.int .i64 s.size,.nilIface])/\vZ w' B b (l++s.data.toList)/\Below B w w':=by
 have HC:=af (F3 B b l w h)
 have hlo:=h.lo
 clear h
 go_enter Tryz.func117,Tryz.ntmps117
 go_wp2_with (first
  |(go_at_call 159;go_must (refine HC.out.mono ?_;rintro e w1 ⟨rfl,⟨v,hobj,hown⟩,hk1⟩;refine Stop.of ?_)))
 refine Stop.on ?_
 obtain⟨ao,cc,rfl,_,_,_,_⟩:=bJ.form hown.dI
 have hbw1:Below B w w1:=hk1.iH hB (fun g hg e=>by have e:g=b:=e;omega)
 have hB1:=aH hB hk1.size
 have c1:w1.cell? ⟨b,1,none⟩=some (.slice ao l.length cc):=by simp[World.cell?,hobj]
 have lt:=(aj.1 hobj).1
 have hsl:s.data.toList.length=s.size:=by show s.data.toList.length=s.data.size;simp
 go_wp2_with (first
  |(at_builtin;go_must ((refine dQ rfl (.tmp 12) (.tmp 13) 101 9 rfl fH B 5 1 1 (.int .u8 0) bH jD rfl (.slice ao l.length cc) _ _ rfl hown (.string s) _ _ rfl (J7 _ eG _) (fun _ h=>h.elim) ?_ ?_ ?_ ?_);(focus omega);(focus (unfold maxLen;omega));(focus omega);intro ao3 c3 w3 hown3 hk3 hb3 hd3;refine Stop.of ?_)))
 refine Stop.on ?_
 have hob3:=(hk3.block b lt (hown.ne hobj (by decide))).trans hobj
 have d1:w3.cell? ⟨b,1,none⟩=some (.slice ao l.length cc):=by simp[World.cell?,hob3]
 have df:w3.frozen? ⟨b,1,none⟩=false:=by simp[World.frozen?,hob3]
 have dl:=(aj.1 hob3).1
 have hown4:aT w3 fH B 5 1 (.slice ao3 (l.length+s.size) c3) (l.length+s.size) (aL (l++s.data.toList)):=by rw[gM];exact hown3
 have HE:=af (NM (w1:=w) hlo hob3 hown4 (by rw[ay,hsl]) (hbw1.trans hb3))
 clear hown3 hown4
 go_wp2_with fail
 go_ret2
 exact⟨rfl,HE.out⟩
theorem P8 (l:List UInt8)(v:Int)(k:Nat)(hk:k<8):l++(lK v).take k++[UInt8.ofNat (v/(256^k:Nat)%256).toNat]=l++(lK v).take (k+1):=by
 rw[aN,aI (by rw[gB];exact hk)]
 congr 2
 simp[lK]
theorem RB (v:Int)(k:Nat)(hk:k<8):v/2^(8*(k:Int)).toNat=v/((256^k:Nat):Int):=by
 have h:k=0\/k=1\/k=2\/k=3\/k=4\/k=5\/k=6\/k=7:=by omega
 rcases h with rfl|rfl|rfl|rfl|rfl|rfl|rfl|rfl<;>rfl
theorem Be (B b:Nat)(l:List UInt8)(v:Int)(w:World)(h:vZ w B b l)(hB:B<=w.heap.size)(hl:l.length<=900000):
  Calls Tryz.prog 67 #[.pointer (some ⟨b,0,none⟩),.int .i64 v] w fun e w'=>e= .returned (.pointer (some ⟨b,0,none⟩))/\vZ w' B b (l++lK v)/\Below B w w':=by
 have H:=af h
 clear h
 go_enter Tryz.func67,Tryz.ntmps67
 go_upto_region 2 with fail
 go_loopw [5,6] (fun _ i wr=>∃k:Nat,k<=8/\i= .int .i64 k/\vZ wr B b (l++(lK v).take k)/\Below B w wr) (fun _ i _=>8 - (intOf i).toNat)
 case atStart=>exact⟨0,by omega,rfl,by rw[gW,dS];exact H.out,aO _ _⟩
 case round=>
  obtain⟨k,hk,rfl,hP,hbw⟩:=hrel
  have HP:=af (aC hP hbw)
  clear hP hbw
  by_cases hk8:k<8
  ·have hkl:(k:Int)<8:=by omega
   have hlen:(l++(lK v).take k).length<=1000000:=by rw[ay,aF];omega
   have hwd:vZ wr.drew B b (l++(lK v).take k):=⟨HP.out.1.lo,HP.out.1.at_⟩
   have hBr:B<=wr.drew.heap.size:=aH hB HP.out.2.size
   have hc:=Qa B b (l++(lK v).take k) (v/(256^k:Nat)%256) wr.drew hwd hBr hlen ⟨Int.emod_nonneg _ (by decide),by have:=PI (v/(256^k:Nat)) (show (0:Int)<256 by decide);omega⟩
   rw[P8 l v k hk8] at hc
   have HC:=af hc
   clear hc hwd hlen hBr
   have hm:IntKind.i64.wrap (8*(k:Int))=8*(k:Int):=by rw[iJ];omega
   have he0:IntKind.u8.wrap (v/2^(8*(k:Int)).toNat)=v/((256^k:Nat):Int)%256:=by rw[<-RB v k hk8,zD]
   obtain⟨q,hq⟩:∃q,Hid (v/((256^k:Nat):Int)=q):=⟨_,af rfl⟩
   rw[hq.out] at he0 HC
   have he:=af he0
   clear he0
   have hk0:=hk8
   clear hk8
   go_wp2_with fail
   refine aS (fun W=>W=wr.drew) (fun i=> !([8].contains i)) [0,1,2,3,4,5,6,7,8] rfl (by kernel_rfl) rfl ?_
   repeat ((refine bL (v:= ?_) rfl rfl (fun _ _ _ h=>h) rfl (fun W hW=> ?_) ?_);rotate_left;(focus ((try dsimp only at hW);subst hW;(go_simp;first|done|with_reducible rfl)));(try simp only[Act.put,ah,au,ak]))
   refine jk rfl rfl rfl (by kernel_rfl) ?_;intro K hK;go_simp
   rw[he.out]
   refine HC.out.mono ?_;rintro e w4 ⟨rfl,hP4,hb4⟩
   refine hK.out _ _ ?_
   refine bR ?_
   have HP4:=af (aC hP4 (HP.out.2.trans ((aO B wr).drew.trans hb4)))
   clear hP4 hb4 hm
   go_wp2_with fail
   go_roundw
   case rel=>exact⟨k+1,by omega,by go_num,HP4.out.1,HP4.out.2⟩
   case measure=>simp[intOf];omega
  ·obtain rfl:k=8:=by omega
   go_wp2_with fail
   go_ret
   have e:(lK v).take 8=lK v:=aQ (by rw[gB];exact aG 8)
   rw[e] at HP
   exact⟨rfl,HP.out⟩
theorem Kq (B b:Nat)(l:List UInt8)(s:ByteArray)(w:World)(h:vZ w B b l)(hB:B<=w.heap.size)(hl:l.length<=800000)(hs:s.size<=10000):
  Calls Tryz.prog 69 #[.pointer (some ⟨b,0,none⟩),.string s] w fun e w'=>e= .returned (.pointer (some ⟨b,0,none⟩))/\vZ w' B b (l++lN s)/\Below B w w':=by
 have HN:=af (Be B b l s.size w h hB (by omega))
 clear h
 go_enter Tryz.func69,Tryz.ntmps69
 go_wp2_with (first
  |(go_at_call 67;go_must (refine HN.out.mono ?_;rintro e w1 ⟨rfl,hP1,hb1⟩;refine Stop.of ?_)))
 refine Stop.on ?_
 have HS:=af (Rx B b _ s w1 hP1 (aH hB hb1.size) (by rw[ay,gB];omega) (by omega))
 have HB1:=af hb1
 have HL:=af (aC hl hs)
 clear hP1 hb1 hl hs
 go_wp2_with (first
  |(go_at_call 117;go_must (refine HS.out.mono ?_;rintro e w2 ⟨rfl,hP2,hb2⟩)))
 go_ret
 refine⟨rfl,?_,HB1.out.trans hb2⟩
 unfold lN
 rw[<-aN]
 exact hP2
theorem LC (B b:Nat)(l:List UInt8)(w:World)(h:vZ w B b l)(h0:l≠[]):
  Calls Tryz.prog 118 #[.pointer (some ⟨b,0,none⟩)] w fun e w'=>e= .returned (.string ⟨l.toArray⟩)/\Below B w w':=by
 have L:=AO
 have X:=rM
 obtain⟨hlo,p,v,_,hbk,hO⟩:=h
 have hown:=hO.1
 have hl0:l.length≠0:=by simpa using h0
 obtain⟨g,cap,cur,rfl,hbg,hg,hnc,hcm,hcs,htake⟩:∃g cap cur,v= .slice (some ⟨g,0,none⟩) l.length cap/\B<=g/\w.heap[g]? =some (.cells cur (zx.t 5) (0,0))/\l.length<=cap/\cap<=maxLen/\cur.size=cap*1/\cur.toList.take (l.length*1)=Lib.byteCells l:=by
  rcases hown.2 with ⟨_,hz⟩|⟨g,cap,cur,hv,r⟩
  ·exact absurd hz hl0
  ·exact⟨g,cap,cur,hv,r⟩
 have c1:w.drew.cell? ⟨b,1,none⟩=some (.slice (some ⟨g,0,none⟩) l.length cap):=by
  have:w.drew.heap[b]? =some (.cells #[p,.slice (some ⟨g,0,none⟩) l.length cap] 121 (0,0)):=hbk
  rw[Lib.cell_of_heap this];rfl
 have hSD:(Builtin.unsafeSliceData_ #[101] 264 #[.slice (some ⟨g,0,none⟩) l.length cap]).run Tryz.prog w.drew= .ok (.pointer (some ⟨g,0,none⟩)) w.drew:=
  Lib.run_unsafeSliceData_row _ _ _ _ _ _ (by omega)
 have hUS:(Builtin.unsafeString_ #[264,3] 9 #[.pointer (some ⟨g,0,none⟩),.int .i64 l.length]).run Tryz.prog w.drew= .ok (.string ⟨l.toArray⟩) (w.drew.freeze ⟨g,0,none⟩ l.length):=by
  refine Lib.run_unsafeString_row w.drew 264 3 9 (zx.t 5) L.t127 X.cellsByte g cur.size (by have hg':w.drew.heap[g]? =some (.cells cur (zx.t 5) (0,0)):=hg;simp[World.shape?,hg']) l h0 (by omega) (by unfold maxLen at hcm;omega) ?_
  intro j x hx
  have:=hown.cells (g:=g) rfl j (.int .u8 x.toNat) (by simp[aL,hx])
  exact this
 clear hO hown
 have mixed:=L.mixed
 go_enter Tryz.func118,Tryz.ntmps118
 go_wp2
 go_region_o
 all_goals (go_wp2;go_ret;exact⟨rfl,Lib.below_freeze (Below.drew (aO B w)) (p:=⟨g,0,none⟩) hbg _⟩)
theorem P9 (B b:Nat)(l:List UInt8)(w:World)(h:vZ w B b l)(h0:l≠[]):
  Calls Tryz.prog 70 #[.pointer (some ⟨b,0,none⟩)] w fun e w'=>e= .returned (.string ⟨l.toArray⟩)/\Below B w w':=by
 have HS:=af (LC B b l w h h0)
 clear h
 go_enter Tryz.func70,Tryz.ntmps70
 go_wp2_with (first
  |(go_at_call 118;go_must (refine HS.out.mono ?_;rintro e w1 ⟨rfl,hb1⟩)))
 go_ret
 exact⟨rfl,hb1⟩
end Go.Proofs.YtpgdljlghiifjaaGreatDoor
namespace Go.Proofs.YtpgdljlghiifjaaGreatDoor
open Go.RowKit
theorem KE (b:Bool)(w:World):Calls Tryz.prog 68 #[.bool b] w fun e w'=>e= .returned (.int .i64 (oD b))/\w'=w:=by
 go_enter Tryz.func68,Tryz.ntmps68
 cases b with
 |true=>
  go_wp2
  go_ret
  exact⟨rfl,rfl⟩
 |false=>
  go_wp2
  go_ret
  exact⟨rfl,rfl⟩
theorem Te (t:Nat)(w:World):Calls Tryz.prog 25 #[.pointer (some ⟨t,0,none⟩)] w fun e w'=>e= .returned (.pointer (some ⟨w.heap.size,0,none⟩))/\w'.heap[w.heap.size]? =some (.cells #[.pointer (some ⟨t,0,none⟩)] 69 (0,0))/\Below w.heap.size w w':=by
 go_enter Tryz.func25,Tryz.ntmps25
 go_wp2
 go_ret
 exact⟨rfl,aP w _,aK w _⟩
theorem LX (l:bI)(pv:Value)(T:Nat->Prop)(w:World)(hp:gY w T pv l.path)(hf:l.Fit):
  Calls Tryz.prog 39 #[p8 l pv] w fun e w'=>e= .returned (.string (strOf l.enc))/\Below w.heap.size w w':=by
 obtain⟨tk,pt,dp,ex,ow,ti⟩:=l
 obtain⟨h1,h2,h3,h4,h5⟩:=hf
 dsimp only at hp h1 h2 h3 h4 h5
 obtain⟨po,pc,rfl,hn1,hn2,_,_⟩:=cZ.form hp
 have hbA:=aK w (.cells #[.string tk,.slice po pt.length pc,.bool dp,.bool ex,.string ow,.int .i64 ti] 24)
 have hnA:=aP w (.cells #[.string tk,.slice po pt.length pc,.bool dp,.bool ex,.string ow,.int .i64 ti] 24)
 obtain⟨wA,hwA⟩:∃wA:World,Hid (w.alloc (.cells #[.string tk,.slice po pt.length pc,.bool dp,.bool ex,.string ow,.int .i64 ti] 24)=wA):=⟨_,af rfl⟩
 rw[hwA.out] at hbA hnA
 obtain⟨lb,hlb⟩:∃lb:Nat,Hid (w.heap.size=lb):=⟨_,af rfl⟩
 have HB0:=af hbA
 have HP:=af (cZ.below hp hbA)
 rw[hlb.out] at hnA
 obtain⟨e0,e1,e2,e3,e4,e5,le⟩:=bW hnA
 have HF:=af (aC h1 (aC h2 (aC h3 (aC h4 h5))))
 clear hbA hp hnA h1 h2 h3 h4 h5
 unfold p8
 dsimp only
 go_enter Tryz.func39,Tryz.ntmps39
 go_upto_region 1 with (fail)
 rw[hwA.out,hlb.out]
 refine aS (fun W=>Below wA.heap.size wA W) (fun i=> !([0,3,6,7,10,11,14,18].contains i)) [1,2,4,5,8,9,12,13,15,16,17,0,3,6,7,10,11,14,18,19] rfl (by kernel_rfl) ((aO _ wA).drew) ?_
 repeat ((refine bL (v:= ?_) rfl rfl (fun _ _ _ h=>h) rfl (fun W hW=> ?_) ?_);rotate_left;(focus ((try dsimp only at hW);have q1:=(hW.cell (p:=⟨lb,1,none⟩) le).trans e1;have q2:=(hW.cell (p:=⟨lb,2,none⟩) le).trans e2;have q3:=(hW.cell (p:=⟨lb,3,none⟩) le).trans e3;have q4:=(hW.cell (p:=⟨lb,4,none⟩) le).trans e4;have q5:=(hW.cell (p:=⟨lb,5,none⟩) le).trans e5;have q6:=ax le hW.size;(go_simp;first|done|with_reducible rfl)));(try simp only[Act.put,ah,au,ak]))
 refine dm rfl rfl rfl ?_;intro K hK;go_simp
 have hbW:=(aK wA (.cells #[.pointer none,.slice none 0 0] 121)).drew
 have hP0:vZ (wA.alloc (.cells #[.pointer none,.slice none 0 0] 121)).drew wA.heap.size wA.heap.size []:=⟨aG _,_,_,.inl rfl,aP wA _,aT.nil _ _ _ _ _⟩
 refine hK.out _ _ hbW ?_
 (try simp only[Act.put,ah,au,ak])
 have hbs:=hbW.size
 generalize (wA.alloc (.cells #[.pointer none,.slice none 0 0] 121)).drew=w1 at hP0 hbW hbs ⊢
 obtain⟨gb,hgb⟩:∃gb:Nat,Hid (wA.heap.size=gb):=⟨_,af rfl⟩
 rw[hgb.out] at hP0 hbs hbW
 rw[hgb.out]
 have HP0:=af hP0
 clear hP0
 refine dm rfl rfl rfl ?_;intro K hK;go_simp
 refine(Be gb gb _ ti w1 HP0.out hbs (by simp)).mono ?_;rintro e w2 ⟨rfl,hP2,hb2⟩
 have hbW2:Below gb wA w2:=hbW.trans hb2
 have hbs2:gb<=w2.heap.size:=aH (fU hgb.out.symm) hbW2.size
 refine hK.out _ _ hbW2 ?_
 (try simp only[Act.put,ah,au,ak])
 refine dm rfl rfl rfl ?_;intro K hK;go_simp
 refine(KE dp _).mono ?_;rintro e w' ⟨rfl,hw⟩;rw[hw]
 refine hK.out _ _ hbW2 ?_
 (try simp only[Act.put,ah,au,ak])
 refine dm rfl rfl rfl ?_;intro K hK;go_simp
 refine(Be gb gb _ (oD dp) w2 hP2 hbs2 (by simp[gB,kz]<;>(have:=HF.out.2.2.2.1;omega))).mono ?_;rintro e w3 ⟨rfl,hP3,hb3⟩
 have hbW3:Below gb wA w3:=hbW2.trans hb3
 have hbs3:gb<=w3.heap.size:=aH (fU hgb.out.symm) hbW3.size
 refine hK.out _ _ hbW3 ?_
 (try simp only[Act.put,ah,au,ak])
 refine dm rfl rfl rfl ?_;intro K hK;go_simp
 refine(KE ex _).mono ?_;rintro e w' ⟨rfl,hw⟩;rw[hw]
 refine hK.out _ _ hbW3 ?_
 (try simp only[Act.put,ah,au,ak])
 refine dm rfl rfl rfl ?_;intro K hK;go_simp
 refine(Be gb gb _ (oD ex) w3 hP3 hbs3 (by simp[gB,kz]<;>(have:=HF.out.2.2.2.1;omega))).mono ?_;rintro e w4 ⟨rfl,hP4,hb4⟩
 have hbW4:Below gb wA w4:=hbW3.trans hb4
 have hbs4:gb<=w4.heap.size:=aH (fU hgb.out.symm) hbW4.size
 refine hK.out _ _ hbW4 ?_
 (try simp only[Act.put,ah,au,ak])
 refine dm rfl rfl rfl ?_;intro K hK;go_simp
 refine(Kq gb gb _ ow w4 hP4 hbs4 (by simp[gB,kz]) (by have:=HF.out.2.2.2.1;omega)).mono ?_;rintro e w5 ⟨rfl,hP5,hb5⟩
 have hbW5:Below gb wA w5:=hbW4.trans hb5
 have hbs5:gb<=w5.heap.size:=aH (fU hgb.out.symm) hbW5.size
 refine hK.out _ _ hbW5 ?_
 (try simp only[Act.put,ah,au,ak])
 refine dm rfl rfl rfl ?_;intro K hK;go_simp
 refine(Be gb gb _ pt.length w5 hP5 hbs5 (by simp[gB,kz]<;>(have:=HF.out.2.2.2.1;omega))).mono ?_;rintro e w6 ⟨rfl,hP6,hb6⟩
 have hbW6:Below gb wA w6:=hbW5.trans hb6
 have hbs6:gb<=w6.heap.size:=aH (fU hgb.out.symm) hbW6.size
 refine hK.out _ _ hbW6 ?_
 (try simp only[Act.put,ah,au,ak])
 repeat ((refine bL (v:= ?_) rfl rfl (fun _ _ _ h=>h) rfl (fun W hW=> ?_) ?_);rotate_left;(focus ((try dsimp only at hW);skip;(go_simp;first|done|with_reducible rfl)));(try simp only[Act.put,ah,au,ak]))
 refine bR ?_
 have hl0:([]++lK ti++lK (oD dp)++lK (oD ex)++lN ow++lK pt.length).length<=600:=by
  simp only[ay,gB,kz,aJ]
  have:=HF.out.2.2.2.1
  omega
 generalize hL:[]++lK ti++lK (oD dp)++lK (oD ex)++lN ow++lK pt.length=L0 at hP6 hl0
 have HL:=af (aC hL hl0)
 have HP6:=af (aC hP6 hbW6)
 have hl6:lb<gb:=hgb.out▸le
 have q1:w6.cell? ⟨lb,1,none⟩=some (.slice po pt.length pc):=(hbW6.cell (p:=⟨lb,1,none⟩) hl6).trans e1
 have q2:lb<w6.heap.size:=ax le hbW6.size
 clear hl6 e0 e1 e2 e3 e4 e5 le
 clear hP2 hP3 hP4 hP5 hP6 hb2 hb3 hb4 hb5 hb6 hbW2 hbW3 hbW4 hbW5 hbW6 hbs2 hbs3 hbs4 hbs5 hbs6 hbW hbs hL hl0
 go_wp2_with fail
 go_loopw [5,28] (fun _ i wr=>∃k:Nat,k<=pt.length/\i= .int .i64 k/\vZ wr gb gb (L0++(pt.take k).flatMap lN)/\Below gb wA wr) (fun _ i _=>pt.length - (intOf i).toNat)
 case atStart=>exact⟨0,aX _,rfl,by rw[gW,vU,dS];exact HP6.out.1,HP6.out.2⟩
 case round=>
  obtain⟨k,hk,rfl,hPk,hbk⟩:=hrel
  by_cases hkl:k<pt.length
  ·have hkl':(k:Int)<(pt.length:Int):=by omega
   have hbk':Below wA.heap.size wA wr:=hgb.out▸hbk
   obtain⟨ga,oa,rfl,da⟩:=cZ.yD (cZ.below HP.out hbk') rfl k (.string pt[k]) (by rw[di,aW hkl];rfl)
   have la:=aD wr _ da
   have htk:(pt.take (k+1)).flatMap lN=(pt.take k).flatMap lN++lN pt[k]:=by rw[aI hkl,jK];simp
   have hsz:=HF.out.2.2.1 pt[k] (bD hkl)
   have hlen:=CZ (pt.take k) (fun s hs=>HF.out.2.2.1 s (fD hs))
   obtain⟨sg,hsg⟩:∃sg,Hid (pt[k]=sg):=⟨_,af rfl⟩
   rw[hsg.out] at da htk hsz
   have HT:=af (Kq gb gb _ sg wr hPk (aH (fU hgb.out.symm) hbk.size) (by have:=HL.out.2;have:=HF.out.2.1;rw[ay];rw[aF] at hlen;omega) (by omega))
   have HX:=af (aC htk hbk)
   clear hPk hbk hbk' htk hsz hlen
   go_wp2_with (first
    |(go_at_call 69;go_must (refine HT.out.mono ?_;rintro e w7 ⟨rfl,hP7,hb7⟩)))
   have HP7:=af (aC hP7 hb7)
   clear hP7 hb7
   go_roundw
   case rel=>exact⟨k+1,by omega,by go_num,by rw[HX.out.1,<-aN];exact HP7.out.1,HX.out.2.trans HP7.out.2⟩
   case measure=>simp[intOf];omega
  ·obtain rfl:k=pt.length:=by omega
   have x2:¬(pt.length:Int)<(pt.length:Int):=by omega
   rw[bP] at hPk
   have hne:L0++pt.flatMap lN≠[]:=by
    rw[<-HL.out.1]
    intro e
    have:=congrArg List.length e
    simp only[ay,gB,kz,aJ] at this
    omega
   have HD:=af (P9 gb gb _ wr hPk hne)
   have HX:=af (aC hbk hgb.out)
   clear hPk hbk hne
   go_wp2_with (first
    |(go_at_call 70;go_must (refine HD.out.mono ?_;rintro e w7 ⟨rfl,hb7⟩)))
   go_ret
   refine⟨?_,?_⟩
   ·rw[<-HL.out.1]
    simp only[bI.enc,strOf,dB,aN]
    rfl
   ·have h1:=HX.out.1.trans hb7
    rw[<-hgb.out] at h1
    have h0:=HB0.out
    exact h0.trans (h1.mono h0.size)
end Go.Proofs.YtpgdljlghiifjaaGreatDoor
