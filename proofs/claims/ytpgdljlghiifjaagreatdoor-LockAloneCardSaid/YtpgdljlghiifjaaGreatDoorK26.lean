/- parts -/
import Derived.Test.YtpgdljlghiifjaaGreatDoorK1
import Derived.Test.YtpgdljlghiifjaaGreatDoorK4
import Derived.Test.YtpgdljlghiifjaaGreatDoorK11
import Derived.Test.YtpgdljlghiifjaaGreatDoorK23
import Derived.Test.YtpgdljlghiifjaaGreatDoorK25
import Derived.Laws.Rows
import Derived.Shelf.Strings.IndexAnyAll
import Derived.Shelf.Unicode.ValidAny
import Derived.Shelf.Small.Wraps
import Derived.Shelf.Small.Utf8
import Derived.Laws.RangeAny
set_option maxRecDepth 100000
set_option maxHeartbeats 8000000
set_option linter.all false
namespace Go.Proofs.YtpgdljlghiifjaaGreatDoor
open Go.RowKit
theorem within_iff (a b:List ByteArray):within a b=true↔b.length<=a.length/\∀j,j<b.length->a[j]? =b[j]? :=by
 unfold within
 rw[bR,List.prefix_iff_eq_take]
 constructor
 ·intro h
  have hl:=congrArg List.length h
  rw[aF] at hl
  refine⟨by omega,fun j hj=> ?_⟩
  have this:b[j]? =(a.take b.length)[j]? :=congrArg (fun l=>l[j]?) h
  rw[this,List.getElem?_take_of_lt hj]
 ·rintro⟨h1,h2⟩
  apply Cc
  intro j
  by_cases hj:j<b.length
  ·rw[List.getElem?_take_of_lt hj,h2 j hj]
  ·rw[eZ (by omega),eZ (by rw[aF];omega)]
theorem LW (a b:ByteArray):(a.toList==b.toList)=decide (a=b):=by
 by_cases h:a=b
 ·subst h;simp
 ·rw[bD h]
  apply Cf.2
  intro e
  have e:=eq_of_beq e
  apply h
  cases a;cases b
  rw[Lib.toList_data,Lib.toList_data] at e
  exact congrArg ByteArray.mk (ER e)
theorem Ad (av bv:Value)(a b:List ByteArray)(Sa Sb:Nat->Prop)(w:World)(ha:iM w Sa av a)(hb:iM w Sb bv b):
  Calls Tryz.prog 29 #[av,bv] w fun e w'=>e= .returned (.bool (within a b))/\w'=w:=by
 obtain⟨ao,ac,rfl,ha1,ha2,_,_⟩:=cZ.form ha
 obtain⟨bo,bc,rfl,hb1,hb2,_,_⟩:=cZ.form hb
 have HA:=af ha
 have HB:=af hb
 obtain⟨R,hR⟩:∃R,Hid (within a b=R):=⟨_,af rfl⟩
 rw[hR.out]
 clear ha hb
 go_enter Tryz.func29,Tryz.ntmps29
 by_cases hlt:a.length<b.length
 ·have x1:(a.length:Int)<(b.length:Int):=by omega
  have hr:R=false:=by
   rw[<-hR.out,<-Bool.not_eq_true,within_iff]
   omega
  rw[hr]
  go_wp2
  go_ret
  exact⟨rfl,rfl⟩
 ·have x1:¬(a.length:Int)<(b.length:Int):=by omega
  go_upto_region 4 with fail
  go_loopw [5,6,14] (fun _ _ i wr=>∃k:Nat,k<=b.length/\i= .int .i64 k/\(∀j,j<k->a[j]? =b[j]?)/\wr=w) (fun _ _ i _=>b.length - (intOf i).toNat)
  case atStart=>exact⟨0,aV _,rfl,fun j hj=>absurd hj (qL _),rfl⟩
  case round=>
   obtain⟨k,hk,rfl,heq,rfl⟩:=hrel
   have HEQ:=af heq;clear heq
   by_cases hkl:k<b.length
   ·have hkl':(k:Int)<(b.length:Int):=by omega
    have hka:(k:Int)<(a.length:Int):=by omega
    obtain⟨x,hx⟩:∃x,a[k]? =some x:=⟨_,aZ (by omega)⟩
    obtain⟨y,hy⟩:∃y,b[k]? =some y:=⟨_,aZ hkl⟩
    obtain⟨gb,ob,rfl,db⟩:=cZ.yT HB.out rfl k (.string y) (by rw[dh,hy];rfl)
    obtain⟨ga,oa,rfl,da⟩:=cZ.yT HA.out rfl k (.string x) (by rw[dh,hx];rfl)
    have la:=aD wr _ da
    have lb:=aD wr _ db
    have hq:=LW x y
    have HXY:=af (ay hx hy)
    clear hx hy
    by_cases he:x=y
    ·rw[bK he] at hq
     have HE:=af he;clear he
     go_wp2_with fail
     go_roundw
     case rel=>
      refine⟨k+1,by omega,by go_num,fun j hj=> ?_,by trivial⟩
      rcases Ch.1 hj with hj|rfl
      ·exact HEQ.out j hj
      ·rw[HXY.out.1,HXY.out.2,HE.out]
     case measure=>simp[intOf];omega
    ·rw[bD he] at hq
     have hr:R=false:=by
      rw[<-hR.out,<-Bool.not_eq_true,within_iff]
      rintro⟨_,h⟩
      have:=h k hkl
      rw[HXY.out.1,HXY.out.2] at this
      exact he (iJ this)
     have HE:=af he;clear he
     go_wp2_with fail
     go_ret
     exact⟨rfl,rfl⟩
   ·obtain rfl:k=b.length:=by omega
    have x2:¬(b.length:Int)<(b.length:Int):=by omega
    have hr:R=true:=by
     rw[<-hR.out,within_iff]
     exact⟨by omega,HEQ.out⟩
    go_wp2_with fail
    go_ret
    exact⟨rfl,rfl⟩
def sO (l:aT)(pv:Value):Value:= .agg #[.string l.token,pv,.bool l.deep,.bool l.excl,.string l.owner,.int .i64 l.till]
theorem dD {W:World}{g:Nat}{a b c d e f:Value}(h:W.heap[g]? =some (.cells #[a,b,c,d,e,f] 24 (0,0))):
  W.cell? ⟨g,0,none⟩=some a/\W.cell? ⟨g,1,none⟩=some b/\W.cell? ⟨g,2,none⟩=some c/\W.cell? ⟨g,3,none⟩=some d/\W.cell? ⟨g,4,none⟩=some e/\W.cell? ⟨g,5,none⟩=some f/\g<W.heap.size:=by
 refine⟨?_,?_,?_,?_,?_,?_,(ah.1 h).1⟩<;>simp[World.cell?,h]
theorem SL (a b:Nat):((a:Int)==(b:Int))=decide (a=b):=by
 rw[Bool.eq_iff_iff,jl,bR]
 constructor<;>intro h<;>omega
theorem pu (l:aT)(pv qv:Value)(q:List ByteArray)(S T:Nat->Prop)(w:World)(hp:iM w S pv l.path)(hq:iM w T qv q):
  Calls Tryz.prog 12 #[sO l pv,qv] w fun e w'=>e= .returned (.bool (l.covers q))/\Below w.heap.size w w':=by
 have hb:=aJ w (.cells #[.string l.token,pv,.bool l.deep,.bool l.excl,.string l.owner,.int .i64 l.till] 24)
 have hn:=aM w (.cells #[.string l.token,pv,.bool l.deep,.bool l.excl,.string l.owner,.int .i64 l.till] 24)
 obtain⟨w1,hw1⟩:∃w1:World,Hid (w.alloc (.cells #[.string l.token,pv,.bool l.deep,.bool l.excl,.string l.owner,.int .i64 l.till] 24)=w1):=⟨_,af rfl⟩
 rw[hw1.out] at hb hn
 have HW:=af (Ad qv pv q l.path T S w1 (cZ.below hq hb) (cZ.below hp hb))
 have HB:=af hb
 obtain⟨po,pc,rfl,hp1,hp2,_,_⟩:=cZ.form hp
 obtain⟨qo,qc,rfl,hq1,hq2,_,_⟩:=cZ.form hq
 obtain⟨sb,hsb⟩:∃sb:Nat,Hid (w.heap.size=sb):=⟨_,af rfl⟩
 rw[hsb.out] at hn
 obtain⟨c0,c1,c2,c3,c4,c5,lt⟩:=dD hn
 obtain⟨R,hR⟩:∃R,Hid (within q l.path=R):=⟨_,af rfl⟩
 have HV:=af (show l.covers q=(R && (l.deep||decide (q.length=l.path.length))) by unfold aT.covers;rw[hR.out])
 have hqn:=SL q.length l.path.length
 rw[hR.out] at HW
 unfold sO
 clear hp hq hb hn
 go_enter Tryz.func12,Tryz.ntmps12
 go_upto_region 1 with fail
 rw[hw1.out,hsb.out]
 cases R with
 |false=>
  go_wp2_with (first
   |(go_at_call 29;go_must (refine HW.out.mono ?_;rintro e w2 ⟨rfl,hw⟩;subst w2)))
  go_ret
  exact⟨by rw[HV.out];rfl,HB.out⟩
 |true=>
  cases hd:l.deep with
  |true=>
   rw[hd] at c2
   go_wp2_with (first
    |(go_at_call 29;go_must (refine HW.out.mono ?_;rintro e w2 ⟨rfl,hw⟩;subst w2)))
   go_ret
   exact⟨by rw[HV.out,hd];rfl,HB.out⟩
  |false=>
   rw[hd] at c2
   go_wp2_with (first
    |(go_at_call 29;go_must (refine HW.out.mono ?_;rintro e w2 ⟨rfl,hw⟩;subst w2)))
   go_ret
   exact⟨by rw[HV.out,hd,<-hqn];rfl,HB.out⟩
theorem Ba (a b:aT)(av bv:Value)(S T:Nat->Prop)(w:World)(ha:iM w S av a.path)(hb:iM w T bv b.path):
  Calls Tryz.prog 14 #[sO a av,sO b bv] w fun e w'=>e= .returned (.bool (a.clash b))/\Below w.heap.size w w':=by
 have h1:=aJ w (.cells #[.string a.token,av,.bool a.deep,.bool a.excl,.string a.owner,.int .i64 a.till] 24)
 have n1:=aM w (.cells #[.string a.token,av,.bool a.deep,.bool a.excl,.string a.owner,.int .i64 a.till] 24)
 have z1:(w.alloc (.cells #[.string a.token,av,.bool a.deep,.bool a.excl,.string a.owner,.int .i64 a.till] 24)).heap.size=w.heap.size+1:=by simp
 have h2:=aJ (w.alloc (.cells #[.string a.token,av,.bool a.deep,.bool a.excl,.string a.owner,.int .i64 a.till] 24)) (.cells #[.string b.token,bv,.bool b.deep,.bool b.excl,.string b.owner,.int .i64 b.till] 24)
 have n2:=aM (w.alloc (.cells #[.string a.token,av,.bool a.deep,.bool a.excl,.string a.owner,.int .i64 a.till] 24)) (.cells #[.string b.token,bv,.bool b.deep,.bool b.excl,.string b.owner,.int .i64 b.till] 24)
 have hbb:=h1.trans (h2.mono h1.size)
 have n1:=(h2.block _ (by rw[z1];omega)).trans n1
 rw[z1] at n2
 obtain⟨w2,hw2⟩:∃w2:World,Hid (((w.alloc (.cells #[.string a.token,av,.bool a.deep,.bool a.excl,.string a.owner,.int .i64 a.till] 24)).alloc (.cells #[.string b.token,bv,.bool b.deep,.bool b.excl,.string b.owner,.int .i64 b.till] 24))=w2):=⟨_,af rfl⟩
 rw[hw2.out] at hbb n1 n2
 have HB:=af hbb
 obtain⟨sb,hsb⟩:∃sb:Nat,Hid (w.heap.size=sb):=⟨_,af rfl⟩
 rw[hsb.out] at n1 n2
 have hc1:=pu a av bv b.path S T w2 (cZ.below ha hbb) (cZ.below hb hbb)
 have hc2:=fun W (hW:Below w2.heap.size w2 W)=>pu b bv av a.path T S W (cZ.below (cZ.below hb hbb) hW) (cZ.below (cZ.below ha hbb) hW)
 obtain⟨P,hP⟩:∃P,Hid (a.covers b.path=P):=⟨_,af rfl⟩
 obtain⟨Q,hQ⟩:∃Q,Hid (b.covers a.path=Q):=⟨_,af rfl⟩
 rw[hP.out] at hc1;simp only[hQ.out] at hc2
 have HV:=af (show a.clash b=((a.excl||b.excl) && (P||Q)) by unfold aT.clash;rw[hP.out,hQ.out])
 obtain⟨at_,ap,ad,ae,ao,ai⟩:=a
 obtain⟨bt,bp,bd,be,bo,bi⟩:=b
 dsimp only at HV hc1 hc2 n1 n2 hw2
 unfold sO at hc1 hc2 ⊢
 have HC1:=af hc1;have HC2:=af hc2
 obtain⟨a0,a1,a2,a3,a4,a5,la⟩:=dD n1
 obtain⟨b0,b1,b2,b3,b4,b5,lb⟩:=dD n2
 have HN1:=af n1;have HN2:=af n2
 clear ha hb h1 h2 hc1 hc2 hbb n1 n2 z1
 go_enter Tryz.func14,Tryz.ntmps14
 go_upto_region 1 with fail
 rw[hw2.out,hsb.out]
 cases ae with
 |true=>
  cases P with
  |true=>
   go_wp2_with (first
    |(go_at_call 12;go_must (refine HC1.out.mono ?_;rintro e w3 ⟨rfl,hb3⟩)))
   go_ret
   exact⟨by rw[HV.out];rfl,HB.out.trans (hb3.mono HB.out.size)⟩
  |false=>
   go_wp2_with (first
    |(go_at_call 12;go_must (refine HC1.out.mono ?_;rintro e w3 ⟨rfl,hb3⟩;refine Stop.of ?_)))
   refine Stop.on ?_
   clear a0 a1 a2 a3 a4 a5 la b0 b1 b2 b3 b4 b5 lb
   obtain⟨a0,a1,a2,a3,a4,a5,la⟩:=dD ((hb3.block _ (ah.1 HN1.out).1).trans HN1.out)
   obtain⟨b0,b1,b2,b3,b4,b5,lb⟩:=dD ((hb3.block _ (ah.1 HN2.out).1).trans HN2.out)
   have HC3:=af (HC2.out w3 hb3)
   have HB3:=af (HB.out.trans (hb3.mono HB.out.size))
   clear hb3
   go_wp2_with (first
    |(go_at_call 12;go_must (refine HC3.out.mono ?_;rintro e w4 ⟨rfl,hb4⟩)))
   go_ret
   exact⟨by rw[HV.out];cases Q<;>rfl,HB3.out.trans (hb4.mono HB3.out.size)⟩
 |false=>
  cases be with
  |true=>
   cases P with
   |true=>
    go_wp2_with (first
     |(go_at_call 12;go_must (refine HC1.out.mono ?_;rintro e w3 ⟨rfl,hb3⟩)))
    go_ret
    exact⟨by rw[HV.out];rfl,HB.out.trans (hb3.mono HB.out.size)⟩
   |false=>
    go_wp2_with (first
     |(go_at_call 12;go_must (refine HC1.out.mono ?_;rintro e w3 ⟨rfl,hb3⟩;refine Stop.of ?_)))
    refine Stop.on ?_
    clear a0 a1 a2 a3 a4 a5 la b0 b1 b2 b3 b4 b5 lb
    obtain⟨a0,a1,a2,a3,a4,a5,la⟩:=dD ((hb3.block _ (ah.1 HN1.out).1).trans HN1.out)
    obtain⟨b0,b1,b2,b3,b4,b5,lb⟩:=dD ((hb3.block _ (ah.1 HN2.out).1).trans HN2.out)
    have HC3:=af (HC2.out w3 hb3)
    have HB3:=af (HB.out.trans (hb3.mono HB.out.size))
    clear hb3
    go_wp2_with (first
     |(go_at_call 12;go_must (refine HC3.out.mono ?_;rintro e w4 ⟨rfl,hb4⟩)))
    go_ret
    exact⟨by rw[HV.out];cases Q<;>rfl,HB3.out.trans (hb4.mono HB3.out.size)⟩
  |false=>
   go_wp2_with fail
   go_ret
   exact⟨by rw[HV.out];rfl,HB.out⟩
theorem MJ (sv:Value)(l:List ByteArray)(x:ByteArray)(S:Nat->Prop)(w:World)(hl:iM w S sv l):
  Calls Tryz.prog 49 #[sv,.string x] w fun e w'=>(∃z:Int,e= .returned (.int .i64 z)/\(0<=z↔x∈l))/\w'=w:=by
 obtain⟨ao,ac,rfl,ha1,ha2,_,_⟩:=cZ.form hl
 have HL:=af hl
 clear hl
 go_enter Tryz.func49,Tryz.ntmps49
 go_upto_region 2 with fail
 go_loopw [5,8] (fun _ i wr=>∃k:Nat,k<=l.length/\i= .int .i64 k/\(∀j,j<k->l[j]?≠some x)/\wr=w) (fun _ i _=>l.length - (intOf i).toNat)
 case atStart=>exact⟨0,aV _,rfl,fun j hj=>absurd hj (qL _),rfl⟩
 case round=>
  obtain⟨k,hk,rfl,hne,rfl⟩:=hrel
  have HNE:=af hne;clear hne
  by_cases hkl:k<l.length
  ·have hkl':(k:Int)<(l.length:Int):=by omega
   obtain⟨y,hy⟩:∃y,l[k]? =some y:=⟨_,aZ hkl⟩
   obtain⟨ga,oa,rfl,da⟩:=cZ.yT HL.out rfl k (.string y) (by rw[dh,hy];rfl)
   have la:=aD wr _ da
   have hq:=LW x y
   have HY:=af hy;clear hy
   by_cases he:x=y
   ·rw[bK he] at hq
    have HE:=af he;clear he
    go_wp2_with fail
    go_ret
    refine⟨⟨_,rfl,⟨fun _=> ?_,fun _=>by omega⟩⟩,rfl⟩
    rw[HE.out]
    exact o6 HY.out
   ·rw[bD he] at hq
    have HE:=af he;clear he
    go_wp2_with fail
    go_roundw
    case rel=>
     refine⟨k+1,by omega,by go_num,fun j hj=> ?_,by trivial⟩
     rcases Ch.1 hj with hj|rfl
     ·exact HNE.out j hj
     ·rw[HY.out]
      intro e
      exact HE.out (iJ e).symm
    case measure=>simp[intOf];omega
  ·obtain rfl:k=l.length:=by omega
   have x2:¬(l.length:Int)<(l.length:Int):=by omega
   go_wp2_with fail
   go_ret
   refine⟨⟨_,rfl,⟨fun h=>by omega,fun h=> ?_⟩⟩,rfl⟩
   obtain⟨j,hj,e⟩:=ig h
   exact absurd (by rw[aZ hj,e]) (HNE.out j hj)
def Gn (l:List ByteArray)(x:ByteArray):Bool:=l.any fun y=>decide (x=y)
theorem Gm (l:List ByteArray)(x:ByteArray):Gn l x=true↔x∈l:=by simp[Gn]
theorem Fj (sv:Value)(l:List ByteArray)(x:ByteArray)(S:Nat->Prop)(w:World)(hl:iM w S sv l):
  Calls Tryz.prog 32 #[sv,.string x] w fun e w'=>e= .returned (.bool (Gn l x))/\w'=w:=by
 have HI:=af (MJ sv l x S w hl)
 obtain⟨ao,ac,rfl,ha1,ha2,_,_⟩:=cZ.form hl
 clear hl
 go_enter Tryz.func32,Tryz.ntmps32
 go_wp2_with (first
  |(go_at_call 49;go_must (refine HI.out.mono ?_;rintro e w1 ⟨⟨z,rfl,hz⟩,rfl⟩;refine Stop.of ?_)))
 refine Stop.on ?_
 by_cases hx:x∈l
 ·have h0:(0:Int)<=z:=hz.2 hx
  have HX:=af hx
  clear hz hx
  go_wp2_with fail
  go_ret
  exact⟨by rw[(Gm l x).2 HX.out];rfl,rfl⟩
 ·have h0:¬(0:Int)<=z:=fun h=>hx (hz.1 h)
  have HX:=af hx
  clear hz hx
  go_wp2_with fail
  go_ret
  exact⟨by rw[Cf.2 (fun e=>HX.out ((Gm l x).1 e))];rfl,rfl⟩
theorem p8 {α:Type}(f:α->List Value)(k:Nat)(hf:∀a,(f a).length=k):∀(l:List α) (i j:Nat) (hi:i<l.length),j<k->(l.flatMap f)[i*k+j]? =(f l[i])[j]?
 |a::l,0,j,_,hj=>by
  rw[dB,sQ,eO,eP (by rw[hf];exact hj)];rfl
 |a::l,i+1,j,hi,hj=>by
  rw[dB,bY (by rw[hf,pz];omega),hf,show (i+1)*k+j - k=i*k+j by rw[pz];omega]
  exact p8 f k hf l i j (by simpa using hi) hj
abbrev LP:=aT×Value
def kE (p:LP):List Value:=[.string p.1.token,p.2,.bool p.1.deep,.bool p.1.excl,.string p.1.owner,.int .i64 p.1.till]
def vL (w:World)(S:Nat->Prop)(v:Value)(ps:List LP):Prop:=cZ w S 6 v ps.length (ps.flatMap kE)/\∀p∈ps,∃T,iM w T p.2 p.1.path
theorem vL.below {w w':World}{S:Nat->Prop}{v:Value}{ps:List LP}(h:vL w S v ps)(hb:Below w.heap.size w w'):vL w' S v ps:=⟨cZ.below h.1 hb,fun p hp=>(h.2 p hp).imp fun _ q=>cZ.below q hb⟩
theorem vL.at {w:World}{S:Nat->Prop}{v:Value}{ps:List LP}(h:vL w S v ps){ao:Option Addr}{n c:Nat}(hv:v= .slice ao n c)(i:Nat)(hi:i<ps.length):
  ∃b o,ao=some ⟨b,o,none⟩/\w.cell? ⟨b,o+i*6,none⟩=some (.string ps[i].1.token)/\w.cell? ⟨b,o+i*6+1,none⟩=some ps[i].2/\w.cell? ⟨b,o+i*6+2,none⟩=some (.bool ps[i].1.deep)/\w.cell? ⟨b,o+i*6+3,none⟩=some (.bool ps[i].1.excl)/\w.cell? ⟨b,o+i*6+4,none⟩=some (.string ps[i].1.owner)/\w.cell? ⟨b,o+i*6+5,none⟩=some (.int .i64 ps[i].1.till):=by
 obtain⟨h,_⟩:=h
 obtain⟨ao',c',e,_,_,_,_,_,h6⟩:=cZ.real h (Nat.lt_of_le_of_lt (aV _) hi)
 rw[hv] at e
 cases e
 have key:∀j u,j<6->(kE ps[i])[j]? =some u->∃b o,ao=some ⟨b,o,none⟩/\w.cell? ⟨b,o+i*6+j,none⟩=some u:=fun j u hj hu=>by
  obtain⟨b,o,e1,e2⟩:=h6 (i*6+j) u (by rw[p8 kE 6 (fun _=>rfl) ps i j hi hj];exact hu)
  exact⟨b,o,e1,by rw[gX];exact e2⟩
 obtain⟨b,o,rfl,g0⟩:=key 0 _ (by omega) rfl
 obtain⟨_,_,e1,g1⟩:=key 1 _ (by omega) rfl;cases e1
 obtain⟨_,_,e1,g2⟩:=key 2 _ (by omega) rfl;cases e1
 obtain⟨_,_,e1,g3⟩:=key 3 _ (by omega) rfl;cases e1
 obtain⟨_,_,e1,g4⟩:=key 4 _ (by omega) rfl;cases e1
 obtain⟨_,_,e1,g5⟩:=key 5 _ (by omega) rfl;cases e1
 exact⟨b,o,rfl,g0,g1,g2,g3,g4,g5⟩
def zm (ls:List aT)(path tokens:List ByteArray):Bool:=ls.any (fun l=>l.covers path && Gn tokens l.token)|| !ls.any (fun l=>l.covers path)
theorem Iq:(Tryz.prog.info? 24).map (·.size)=some 6:=by kernel_rfl
theorem J8 (b:Bool):(nW b==(1:Int))=b:=by cases b<;>rfl
def Td (w:World)(ab rb lb:Nat)(tk ow:ByteArray)(dp ex:Bool)(ti:Int)(pt:List ByteArray)(n:Value)(wr:World):Prop:=
 ∃(k:Nat) (pv:Value),k<=pt.length/\n= .int .i64 ((pt.length - k:Nat):Int)/\sG wr rb ((pt.drop k).flatMap lD)/\wr.heap[lb]? =some (.cells #[.string tk,pv,.bool dp,.bool ex,.string ow,.int .i64 ti] 24 (0,0))/\aS wr fC w.heap.size 9 1 pv k ((pt.take k).map .string)/\Below w.heap.size w wr/\
  wr.heap[ab]? =some (.cells #[.string ⟨#[]⟩,.slice none 0 0,.bool false,.bool false,.string ⟨#[]⟩,.int .i64 0] 24 (0,0))
theorem K4 (l:aT)(w:World)(hf:l.Fit):
  Calls Tryz.prog 74 #[.string l.token,.string (strOf l.enc)] w fun e w'=>∃pv,e= .returned (sO l pv)/\iM w' (fun g=>g<w.heap.size) pv l.path/\Below w.heap.size w w':=by
 obtain⟨tk,pt,dp,ex,ow,ti⟩:=l
 obtain⟨h1,h2,h3,h4,h5⟩:=hf
 dsimp only at h1 h2 h3 h4 h5
 obtain⟨s,hs⟩:∃s,Hid (strOf (aT.enc ⟨tk,pt,dp,ex,ow,ti⟩)=s):=⟨_,af rfl⟩
 rw[hs.out]
 have hb0:=aJ w (.cells #[.string ⟨#[]⟩,.slice none 0 0,.bool false,.bool false,.string ⟨#[]⟩,.int .i64 0] 24)
 have hn0:=aM w (.cells #[.string ⟨#[]⟩,.slice none 0 0,.bool false,.bool false,.string ⟨#[]⟩,.int .i64 0] 24)
 obtain⟨w0,hw0⟩:∃w0:World,Hid (w.alloc (.cells #[.string ⟨#[]⟩,.slice none 0 0,.bool false,.bool false,.string ⟨#[]⟩,.int .i64 0] 24)=w0):=⟨_,af rfl⟩
 rw[hw0.out] at hb0 hn0
 have hb1:=aJ w0 (.cells #[.string s,.bool false] 199)
 have hn1:=aM w0 (.cells #[.string s,.bool false] 199)
 obtain⟨w1,hw1⟩:∃w1:World,Hid (w0.alloc (.cells #[.string s,.bool false] 199)=w1):=⟨_,af rfl⟩
 rw[hw1.out] at hb1 hn1
 obtain⟨ab,hab⟩:∃ab:Nat,Hid (w.heap.size=ab):=⟨_,af rfl⟩
 have hw0s:w0.heap.size=w.heap.size+1:=by rw[<-hw0.out];simp
 obtain⟨rb,hrb⟩:∃rb:Nat,Hid (w.heap.size+1=rb):=⟨_,af rfl⟩
 rw[hw0s,hrb.out] at hn1
 clear hw0s
 rw[hab.out] at hn0
 have hrd:sG w1 rb (lu ti++(lu (nW dp)++(lu (nW ex)++(lD ow++(lu pt.length++pt.flatMap lD))))):=by
  unfold sG
  rw[hn1,<-hs.out]
  rfl
 have hfl:∀b:Bool,-9223372036854775808<=nW b/\nW b<9223372036854775808:=fun b=>by cases b<;>decide
 have HN1:=af (AL rb ti _ w1 hrd h5)
 have HF:=af (ay hfl (ay h2 (ay h3 h4)))
 have HB:=af (ay (hb0.trans (hb1.mono hb0.size)) ((hb1.block ab (ah.1 hn0).1).trans hn0))
 clear hb0 hb1 hn0 hn1 hrd hfl h1 h2 h3 h4 h5
 go_enter Tryz.func74,Tryz.ntmps74
 go_upto_region 2 with (fail)
 rw[hw0.out,hrb.out,hw1.out,hab.out]
 go_wp2_with (first
  |(go_at_call 124;go_must (refine HN1.out.mono ?_;rintro e w2 ⟨rfl,hR2,hk2⟩;refine Stop.of ?_)))
 refine Stop.on ?_
 have HN2:=af (AL rb (nW dp) _ w2 hR2 (HF.out.1 dp))
 have e2:=J8 dp
 obtain⟨fd,hfd⟩:∃fd,Hid (nW dp=fd):=⟨_,af rfl⟩
 rw[hfd.out] at HN2 e2
 have HK2:=af hk2
 clear hR2 hk2
 go_wp2_with (first
  |(go_at_call 124;go_must (refine HN2.out.mono ?_;rintro e w3 ⟨rfl,hR3,hk3⟩;refine Stop.of ?_)))
 refine Stop.on ?_
 have HN3:=af (AL rb (nW ex) _ w3 hR3 (HF.out.1 ex))
 have e3:=J8 ex
 obtain⟨fe,hfe⟩:∃fe,Hid (nW ex=fe):=⟨_,af rfl⟩
 rw[hfe.out] at HN3 e3
 have HK3:=af (HK2.out.trans hk3 (fun _ _ e=>e))
 clear hR3 hk3
 go_wp2_with (first
  |(go_at_call 124;go_must (refine HN3.out.mono ?_;rintro e w4 ⟨rfl,hR4,hk4⟩;refine Stop.of ?_)))
 refine Stop.on ?_
 have HN4:=af (JO rb ow _ w4 hR4 (by have:=HF.out.2.2.2;omega))
 have HK4:=af (HK3.out.trans hk4 (fun _ _ e=>e))
 clear hR4 hk4
 go_wp2_with (first
  |(go_at_call 125;go_must (refine HN4.out.mono ?_;rintro e w5 ⟨rfl,hR5,hk5⟩;refine Stop.of ?_)))
 refine Stop.on ?_
 have hK5:=HK4.out.trans hk5 (fun _ _ e=>e)
 have hbL:=aJ w5 (.cells #[.string tk,.slice none 0 0,.bool dp,.bool ex,.string ow,.int .i64 ti] 24)
 have hnL:=aM w5 (.cells #[.string tk,.slice none 0 0,.bool dp,.bool ex,.string ow,.int .i64 ti] 24)
 obtain⟨w6,hw6⟩:∃w6:World,Hid (w5.alloc (.cells #[.string tk,.slice none 0 0,.bool dp,.bool ex,.string ow,.int .i64 ti] 24)=w6):=⟨_,af rfl⟩
 rw[hw6.out] at hbL hnL
 obtain⟨lb,hlb⟩:∃lb:Nat,Hid (w5.heap.size=lb):=⟨_,af rfl⟩
 rw[hlb.out] at hnL
 have hrl:rb<w5.heap.size:=(ah.1 hR5).1
 have hR6:sG w6 rb _:=(hbL.block rb hrl).trans hR5
 have HN5:=af (AL rb pt.length _ w6 hR6 (by have:=HF.out.2.1;omega))
 have HL:=af (ay hK5 (ay hbL (ay hnL hrl)))
 clear hR5 hk5 hK5 hbL hnL hrl hR6
 go_upto_region 3 with (fail)
 rw[hlb.out,hw6.out]
 go_upto_region 4 with (first
  |(go_at_call 124;go_must (refine HN5.out.mono ?_;rintro e w7 ⟨rfl,hR7,hk7⟩)))
 have hrl7:rb<w7.heap.size:=(ah.1 hR7).1
 have hne:lb≠rb:=by have:=HL.out.2.2.2;have:=hlb.out;omega
 have hL7:w7.heap[lb]? =some (.cells #[.string tk,.slice none 0 0,.bool dp,.bool ex,.string ow,.int .i64 ti] 24 (0,0)):=(hk7.block lb (ah.1 HL.out.2.2.1).1 hne).trans HL.out.2.2.1
 have hz0:w.heap.size+1<=w1.heap.size:=by rw[<-hw1.out];have:w.heap.size+1=w0.heap.size:=(by rw[<-hw0.out];simp);simp;omega
 have hab7:w7.heap[ab]? =_:=(hk7.block ab (ak (ah.1 HB.out.2).1 (aH HL.out.1.size HL.out.2.1.size)) (by have:=hab.out;have:=hrb.out;omega)).trans ((HL.out.2.1.block ab (ak (ah.1 HB.out.2).1 HL.out.1.size)).trans ((HL.out.1.block ab (ah.1 HB.out.2).1 (by have:=hab.out;have:=hrb.out;omega)).trans HB.out.2))
 have hb7:Below w.heap.size w w7:=by
  have h1:=HB.out.1
  have h2:Below w.heap.size w w5:=h1.trans (HL.out.1.fK h1.size fun g hg e=>by have:=hrb.out;omega)
  have h3:=h2.trans (HL.out.2.1.mono h2.size)
  exact h3.trans (hk7.fK h3.size fun g hg e=>by have:=hrb.out;omega)
 have hst:Td w ab rb lb tk ow dp ex ti pt (.int .i64 (pt.length:Int)) w7:=⟨0,.slice none 0 0,aV _,by rw[Nat.sub_zero],by rw[eT];exact hR7,hL7,aS.nil _ _ _ _ _,hb7,hab7⟩
 have hlab:ab<lb:=by
  have h1:=HL.out.2.2.2
  have h2:=hlb.out;have h3:=hab.out;have h4:=hrb.out
  omega
 clear hR7 hk7 hL7 hab7 hb7 hrl7 hz0
 go_loopw [7] (fun n wr=>Td w ab rb lb tk ow dp ex ti pt n wr) (fun n _=>(intOf n).toNat)
 case atStart=>exact hst
 case round=>
  obtain⟨k,pv,hk,rfl,hR,hLb,hO,hbw,hA⟩:=hrel
  obtain⟨po,pc,rfl,_,_,_,_⟩:=cZ.form hO.qm
  obtain⟨c0,c1,f0,lr⟩:=hR.cells
  clear hst
  by_cases hkl:k<pt.length
  ·have hx1:(0:Int)<((pt.length - k:Nat):Int):=by omega
   have hdr:(pt.drop k).flatMap lD=lD pt[k]++(pt.drop (k+1)).flatMap lD:=by rw[bJ hkl,dB]
   have htk:(pt.take (k+1)).map Value.string=(pt.take k).map Value.string++[.string pt[k]]:=by rw[aI hkl,bZ];rfl
   have hsz:=HF.out.2.2.1 pt[k] (aU hkl)
   rw[hdr] at hR
   obtain⟨sg,hsg⟩:∃sg,Hid (pt[k]=sg):=⟨_,af rfl⟩
   rw[hsg.out] at hR htk hsz
   have hRd:sG wr.drew rb (lD sg++(pt.drop (k+1)).flatMap lD):=hR
   have HT:=af (JO rb sg _ wr.drew hRd (by omega))
   obtain⟨_,e1,_,_,_,_,le⟩:=dD hLb
   have HS:=af (ay hR (ay hLb (ay hO (ay hbw (ay hA (ay htk hdr))))))
   have hkk:(pt.length - k:Nat)=(pt.length - (k+1):Nat)+1:=by omega
   have HKK:=af hkk
   have HRL:=af lr
   clear hR hLb hO hbw hA htk hdr hRd hsz hkk
   go_wp2_with fail
   refine aQ (fun W=>W.cell? ⟨lb,1,none⟩=some (.slice po k pc)/\lb<W.heap.size) (fun i=> !([3,4,5,7].contains i)) [0,1,2,3,4,5,6,7] rfl (by kernel_rfl) ⟨e1,le⟩ ?_
   repeat ((refine bP (v:= ?_) rfl rfl (fun _ _ _ h=>h) rfl (fun W hW=> ?_) ?_);rotate_left;(focus ((try dsimp only at hW);obtain⟨q0,q1⟩:=hW;(go_simp;first|done|with_reducible rfl)));(try simp only[Act.put,aj,ax,au]))
   refine dA rfl rfl rfl ?_;intro K hK;go_simp
   refine HT.out.mono ?_;rintro e w2 ⟨rfl,hR2,hk2⟩
   have hLb2:=(hk2.block lb (show lb<wr.drew.heap.size from le) hne).trans HS.out.2.1
   have hO2:=HS.out.2.2.1.keep (w':=w2) (S':=fC) fun g hg hl hs=>⟨hk2.block g hl (fun e=>by
    have h1:(sG wr rb _):=HS.out.1
    exact HS.out.2.2.1.ne h1 (by decide) (by rw[hg,e])),hs⟩
   obtain⟨_,e1,_,_,_,_,le2⟩:=dD hLb2
   refine hK.out _ _ ⟨e1,le2⟩ ?_
   (try simp only[Act.put,aj,ax,au])
   have hb3:=(aJ w2 (.cells #[.string sg] 9))
   have hk2b:Keep (· =rb) wr w2:=(Keep.refl _ wr).drew.trans hk2 (fun _ _ e=>e)
   have hsrc:Src Tryz.prog 1 22 (.slice (some ⟨w2.heap.size,0,none⟩) 1 1) 1 [.string sg] (w2.alloc (.cells #[.string sg] 9)):=gI [Value.string sg] 9 1 1 1 rfl Tryz.underlying22 rfl (by simp[Value.oneCell'])
   have hO3:=hO2.below hb3
   have hLb3:=(hb3.block lb le2).trans hLb2
   obtain⟨_,e1,_,_,_,_,le3⟩:=dD hLb3
   have HW2:=af (ay hk2b (ay hR2 (ay hb3 (ay hO3 hLb3))))
   refine dA rfl rfl rfl ?_;intro K hK;go_simp
   refine hK.out _ _ ⟨e1,le3⟩ ?_
   (try simp only[Act.put,aj,ax,au])
   have hbase:w.heap.size<=(w2.alloc (.cells #[.string sg] 9)).heap.size:=aH HS.out.2.2.2.1.size (aH hk2b.size hb3.size)
   clear hk2b hb3 hLb3 e1 hO2 hLb2
   obtain⟨w3,hw3⟩:∃w3,Hid (w2.alloc (.cells #[.string sg] 9)=w3):=⟨_,af rfl⟩
   rw[hw3.out] at hsrc hO3 HW2 hbase le3 ⊢
   refine dA rfl rfl rfl ?_;intro K hK
   refine mI (.tmp 37) (.tmp 40) 22 22 rfl fC w.heap.size 9 1 16 _ Tryz.underlying22 gm rfl (.slice po k pc) k _ rfl hO3 (.slice (some ⟨w2.heap.size,0,none⟩) 1 1) 1 [.string sg] rfl hsrc (fun _ h=>h.elim) hbase (by unfold maxLen;have:=HF.out.2.1;omega) (by have:=HF.out.2.1;omega) ?_
   intro ao4 c4 w4 hown4 hk4 hb4 hd4
   have hLb4:=(hk4.block lb le3 (hO3.ne HW2.out.2.2.2.2 (by decide))).trans HW2.out.2.2.2.2
   obtain⟨_,e1,_,_,_,_,le4⟩:=dD hLb4
   have f4:w4.frozen? ⟨lb,1,none⟩=false:=by simp[World.frozen?,hLb4]
   refine hK.out _ _ ⟨e1,le4⟩ ?_
   (try simp only[Act.put,aj,ax,au])
   repeat ((refine bP (v:= ?_) rfl rfl (fun _ _ _ h=>h) rfl (fun W hW=> ?_) ?_);rotate_left;(focus ((try dsimp only at hW);obtain⟨q0,q1⟩:=hW;(go_simp;first|done|with_reducible rfl)));(try simp only[Act.put,aj,ax,au]))
   refine jg rfl rfl rfl (by kernel_rfl) ?_;intro K hK;go_simp
   refine hK.out _ _ ?_
   refine bU ?_
   have hk5:Keep (· =lb) w4 (w4.setCell ⟨lb,1,none⟩ (.slice ao4 (k+1) c4)):=(Keep.refl (· =lb) _).setCell (p:=⟨lb,1,none⟩) (.inr rfl) _
   have hnew:Td w ab rb lb tk ow dp ex ti pt (.int .i64 ((pt.length - (k+1):Nat):Int)) (w4.setCell ⟨lb,1,none⟩ (.slice ao4 (k+1) c4)):=by
    have hRt:wr.heap[rb]? =some (.cells _ 199 (0,0)):=HS.out.1
    have hRr:w2.heap[rb]? =some (.cells _ 199 (0,0)):=HW2.out.2.1
    have hR3:w3.heap[rb]? =some (.cells _ 199 (0,0)):=(HW2.out.2.2.1.block rb (ah.1 hRr).1).trans hRr
    have hR4:=(hk4.block rb (ah.1 hR3).1 (hO3.ne hR3 (by decide))).trans hR3
    have hR5:=(hk5.block rb (ah.1 hR4).1 (Ne.symm hne)).trans hR4
    have hA0:=HS.out.2.2.2.2.1
    have hA2:=(HW2.out.1.block ab (ah.1 hA0).1 (by have:=hrb.out;have:=hab.out;omega)).trans hA0
    have hA3:=(HW2.out.2.2.1.block ab (ah.1 hA2).1).trans hA2
    have hA4:=(hk4.block ab (ah.1 hA3).1 (hO3.ne hA3 (by decide))).trans hA3
    have hA5:=(hk5.block ab (ah.1 hA4).1 (by omega)).trans hA4
    have hbw:=HS.out.2.2.2.1
    have hbw2:=hbw.trans (HW2.out.1.fK hbw.size fun g hg e=>by have:=hrb.out;omega)
    have hbw3:=hbw2.trans (HW2.out.2.2.1.mono hbw2.size)
    have hbw4:=hbw3.trans hb4
    have hbw5:=hbw4.trans (hk5.fK hbw4.size fun g hg e=>by have:=hab.out;omega)
    refine⟨k+1,.slice ao4 (k+1) c4,hkl,rfl,hR5,?_,?_,hbw5,hA5⟩
    ·simp[World.setCell,bf,hLb4]
    ·rw[HS.out.2.2.2.2.2.1]
     exact hown4.keep fun g hg hl hs=>⟨hk5.block g hl (fun e=>hown4.ne hLb4 (by decide) (by rw[hg,e])),hs⟩
   have HNEW:=af hnew
   generalize w4.setCell ⟨lb,1,none⟩ (.slice ao4 (k+1) c4)=w5' at HNEW ⊢
   clear hnew hk5 hown4 hk4 hb4 hd4 hLb4 e1 le4 f4 hO3 hsrc hbase c0 c1 f0 lr
   have hsub:(((pt.length - k:Nat):Int)) - 1=((pt.length - (k+1):Nat):Int):=by omega
   go_wp2_with fail
   go_roundw
   case rel=>
    have e:wrap64 ((pt.length - (k+1):Nat):Int)=((pt.length - (k+1):Nat):Int):=by have:=HF.out.2.1;unfold wrap64;omega
    rw[e]
    exact HNEW.out
   case measure=>
    have e:wrap64 ((pt.length - (k+1):Nat):Int)=((pt.length - (k+1):Nat):Int):=by have:=HF.out.2.1;unfold wrap64;omega
    rw[e]
    simp[intOf];omega
  ·obtain rfl:k=pt.length:=by omega
   have x2:¬(0:Int)<((pt.length - pt.length:Nat):Int):=by omega
   obtain⟨e0,e1,e2,e3,e4,e5,le⟩:=dD hLb
   have hrow:Row wr ab 24 [.string ⟨#[]⟩,.slice none 0 0,.bool false,.bool false,.string ⟨#[]⟩,.int .i64 0]:=hA
   have hone:∀u∈[Value.string tk,.slice po pt.length pc,.bool dp,.bool ex,.string ow,.int .i64 ti],u.oneCell'=true:=by
    intro u hu
    simp only[bL,pE,oW] at hu
    rcases hu with rfl|rfl|rfl|rfl|rfl|rfl<;>rfl
   have HE:=af (ay hO (ay hbw (ay hone hLb)))
   clear hO hbw hA hLb hR hone
   go_wp2_with (first
    |((refine dF rfl ?_);intro K hK;(refine wp_store_row 24 (.tmp 4) (.tmp 43) rfl ab 0 24 _ [Value.string tk,.slice po pt.length pc,.bool dp,.bool ex,.string ow,.int .i64 ti] rfl rfl hrow Iq (aG 6) HE.out.2.2.1 ?_);intro w4 hr4 hk4;refine hK _ _ ?_))
   refine iU (results_cell_row rfl _ w4 ab 24 _ (0,0) _ rfl hr4 Tryz.underlying24 rfl (by kernel_rfl)) rfl ?_
   refine⟨.slice po pt.length pc,rfl,?_,?_⟩
   ·have h1:=HE.out.1
    rw[bO] at h1
    have h2:iM wr fC (.slice po pt.length pc) pt:=h1.qm
    refine cZ.keep h2 fun g hg hl hs=>⟨hk4.block g hl fun e=> ?_,fun hlt=> ?_⟩
    ·exact h1.ne (show wr.heap[ab]? =some (.cells _ 24 (0,0)) from hrow) (by decide) (by rw[hg,e])
    ·exact absurd (h1.1.lt g hg).1 (fo.2 hlt)
   ·exact HE.out.2.1.trans (hk4.fK HE.out.2.1.size fun g hg e=>by have:=hab.out;omega)
theorem yG:(Tryz.prog.info? 24).map (fun i=>(i.zero,i.size,i.bytes))=some (some (.agg #[.string ⟨#[]⟩,.slice none 0 0,.bool false,.bool false,.string ⟨#[]⟩,.int .i64 0]),6,72):=by kernel_rfl
theorem kX:(Tryz.prog.info? 24).map (·.size)=some 6:=by kernel_rfl
def Rp (g:Nat)(cb:Array Value)(so:aT->Bool)(Q:World->Prop):Prop:=∀(l:aT) (pv:Value) (T:Nat->Prop) (w:World),Q w->iM w T pv l.path->Calls Tryz.prog g (#[sO l pv]++cb) w fun e w'=>e= .returned (.bool (so l))/\Below w.heap.size w w'
theorem Pp (g:Nat)(cb:Array Value)(so:aT->Bool)(Q:World->Prop)(hent:∀args w,(callFunc g args).run Tryz.prog w= .ok (.enter g args) w)(hso:Rp g cb so Q)(lv:Value)(ps:List LP)(S:Nat->Prop)(w:World)(hl:vL w S lv ps)(hq:∀w2,Below w.heap.size w w2->Q w2):
  Calls Tryz.prog 75 #[lv,.func (.func g) #[] cb] w fun e w'=>(∃z:Int,e= .returned (.int .i64 z)/\((z= -1/\∀p∈ps,so p.1=false)\/∃k:Nat,z=k/\∃hk:k<ps.length,so ps[k].1=true/\∀p∈ps.take k,so p.1=false))/\Below w.heap.size w w':=by
 obtain⟨lo,lc,rfl,hl1,hl2,_,_⟩:=cZ.form hl.1
 have HL:=af hl;have HS:=af hso;have HQ:=af hq
 clear hl hso hq
 go_enter Tryz.func75,Tryz.ntmps75
 go_upto_region 2 with (fail)
 go_loopw [5,8] (fun _ i wr=>∃k:Nat,k<=ps.length/\i= .int .i64 k/\(∀p∈ps.take k,so p.1=false)/\Below w.heap.size w wr) (fun _ i _=>ps.length - (intOf i).toNat)
 case atStart=>exact⟨0,aV _,rfl,by simp,aN _ _⟩
 case round=>
  obtain⟨k,hk,rfl,hno,hbw⟩:=hrel
  have HNO:=af hno;clear hno
  by_cases hkl:k<ps.length
  ·have hkl':(k:Int)<(ps.length:Int):=by omega
   obtain⟨b,o,rfl,d0,d1,d2,d3,d4,d5⟩:=(HL.out.below hbw).at rfl k hkl
   obtain⟨T,hT⟩:=(HL.out.below hbw).2 _ (aU hkl)
   have htk:ps.take (k+1)=ps.take k++[ps[k]]:=aI hkl
   obtain⟨p,hp⟩:∃p,ps[k]=p:=⟨_,rfl⟩
   rw[hp] at d0 d1 d2 d3 d4 d5 hT htk
   have hbl:=aD wr _ d0
   have hcc:=HS.out p.1 p.2 T wr (HQ.out wr hbw) hT
   obtain⟨C,hC⟩:∃C,Hid (so p.1=C):=⟨_,af rfl⟩
   rw[hC.out] at hcc
   unfold sO at hcc
   have HCC:=af hcc
   have HM:=af (ay htk (ay hp hbw))
   have hform:=cZ.form hT
   clear hcc htk hp hT hbw
   obtain⟨⟨tk,pt,dp,ex,ow,ti⟩,qv⟩:=p
   dsimp only at d0 d1 d2 d3 d4 d5 HCC hC HM hform
   obtain⟨qo,qc,rfl,_,_,_,_⟩:=hform
   cases C with
   |false=>
    go_wp2_with (first
     |((refine HCC.out.mono ?_);rintro e w3 ⟨rfl,hb3⟩;refine Stop.of ?_))
    refine Stop.on ?_
    have HB3:=af (HM.out.2.2.trans (hb3.mono HM.out.2.2.size))
    clear hb3
    go_wp2_with fail
    go_roundw
    case rel=>
     refine⟨k+1,by omega,by go_num,fun q hq=> ?_,HB3.out⟩
     rw[HM.out.1] at hq
     rcases bM.1 hq with hq|hq
     ·exact HNO.out q hq
     ·rw[bI.1 hq];exact hC.out
    case measure=>simp[intOf];omega
   |true=>
    go_wp2_with (first
     |((refine HCC.out.mono ?_);rintro e w3 ⟨rfl,hb3⟩;refine Stop.of ?_))
    refine Stop.on ?_
    have HB3:=af (HM.out.2.2.trans (hb3.mono HM.out.2.2.size))
    clear hb3
    go_wp2_with fail
    go_ret
    exact⟨⟨_,rfl,.inr ⟨k,rfl,hkl,by rw[HM.out.2.1];exact hC.out,HNO.out⟩⟩,HB3.out⟩
  ·obtain rfl:k=ps.length:=by omega
   have x2:¬(ps.length:Int)<(ps.length:Int):=by omega
   have HB:=af hbw
   clear hbw
   go_wp2_with fail
   go_ret
   exact⟨⟨_,rfl,.inl ⟨rfl,fun l qv hp=>HNO.out (l,qv) (by rw[bO];exact hp)⟩⟩,HB.out⟩
end Go.Proofs.YtpgdljlghiifjaaGreatDoor
namespace Go.Proofs.YtpgdljlghiifjaaGreatDoor
open Go.RowKit Go.Shelf
noncomputable def mK:Go.Shelf.Ren:=⟨fun x=>match x with|119=>198|137=>197|152=>164|153=>127|217=>230|224=>199|225=>200|226=>165|227=>166|228=>167|266=>243|150=>77|196=>76|259=>126|103=>73|206=>162|210=>123|n=>n,fun x=>match x with|0=>0|3=>3|4=>4|5=>5|9=>9|12=>12|21=>21|24=>131|46=>108|53=>235|116=>270|117=>271|124=>306|119=>201|138=>203|139=>204|n=>n,fun x=>match x with|3=>0|4=>1|n=>n⟩
theorem wh:Lays.n150 Tryz.prog mK where
 mixed:=by kernel_rfl
 f119:=Tryz.func198.trans (congrArg some (by kernel_rfl))
 f137:=Tryz.func197.trans (congrArg some (by kernel_rfl))
 f150:=Tryz.func77.trans (congrArg some (by kernel_rfl))
 f152:=Tryz.func164.trans (congrArg some (by kernel_rfl))
 f153:=Tryz.func127.trans (congrArg some (by kernel_rfl))
 f217:=Tryz.func230.trans (congrArg some (by kernel_rfl))
 f224:=Tryz.func199.trans (congrArg some (by kernel_rfl))
 f225:=Tryz.func200.trans (congrArg some (by kernel_rfl))
 f226:=Tryz.func165.trans (congrArg some (by kernel_rfl))
 f227:=Tryz.func166.trans (congrArg some (by kernel_rfl))
 f228:=Tryz.func167.trans (congrArg some (by kernel_rfl))
 f266:=Tryz.func243.trans (congrArg some (by kernel_rfl))
 t0:=Tryz.underlying0
 a0:=Tryz.isAgg0
 z0:=Tryz.sizeOf0
 v0:=Tryz.zeroValue0
 t3:=Tryz.underlying3
 a3:=Tryz.isAgg3
 z3:=Tryz.sizeOf3
 v3:=Tryz.zeroValue3
 t4:=Tryz.underlying4
 a4:=Tryz.isAgg4
 z4:=Tryz.sizeOf4
 v4:=Tryz.zeroValue4
 t5:=Tryz.underlying5
 a5:=Tryz.isAgg5
 z5:=Tryz.sizeOf5
 v5:=Tryz.zeroValue5
 t9:=Tryz.underlying9
 a9:=Tryz.isAgg9
 z9:=Tryz.sizeOf9
 v9:=Tryz.zeroValue9
 t21:=Tryz.underlying21
 a21:=Tryz.isAgg21
 z21:=Tryz.sizeOf21
 v21:=Tryz.zeroValue21
 t46:=Tryz.underlying108
 a46:=Tryz.isAgg108
 z46:=Tryz.sizeOf108
 v46:=Tryz.zeroValue108
 t116:=Tryz.underlying270
 a116:=Tryz.isAgg270
 z116:=Tryz.sizeOf270
 t117:=Tryz.underlying271
 a117:=Tryz.isAgg271
 z117:=Tryz.sizeOf271
 v117:=Tryz.zeroValue271
 t124:=Tryz.underlying306
 a124:=Tryz.isAgg306
 z124:=Tryz.sizeOf306
 v124:=Tryz.zeroValue306
theorem Ml:Lays.n196 Tryz.prog mK where
 mixed:=by kernel_rfl
 f196:=Tryz.func76.trans (congrArg some (by kernel_rfl))
 f259:=Tryz.func126.trans (congrArg some (by kernel_rfl))
 t0:=Tryz.underlying0
 a0:=Tryz.isAgg0
 z0:=Tryz.sizeOf0
 v0:=Tryz.zeroValue0
 t3:=Tryz.underlying3
 a3:=Tryz.isAgg3
 z3:=Tryz.sizeOf3
 v3:=Tryz.zeroValue3
 t4:=Tryz.underlying4
 a4:=Tryz.isAgg4
 z4:=Tryz.sizeOf4
 v4:=Tryz.zeroValue4
 t5:=Tryz.underlying5
 a5:=Tryz.isAgg5
 z5:=Tryz.sizeOf5
 v5:=Tryz.zeroValue5
 t9:=Tryz.underlying9
 a9:=Tryz.isAgg9
 z9:=Tryz.sizeOf9
 v9:=Tryz.zeroValue9
 t12:=Tryz.underlying12
 a12:=Tryz.isAgg12
 z12:=Tryz.sizeOf12
 v12:=Tryz.zeroValue12
 t46:=Tryz.underlying108
 a46:=Tryz.isAgg108
 z46:=Tryz.sizeOf108
 v46:=Tryz.zeroValue108
 t53:=Tryz.underlying235
 a53:=Tryz.isAgg235
 z53:=Tryz.sizeOf235
 v53:=Tryz.zeroValue235
 t119:=Tryz.underlying201
 a119:=Tryz.isAgg201
 z119:=Tryz.sizeOf201
 t138:=Tryz.underlying203
 a138:=Tryz.isAgg203
 z138:=Tryz.sizeOf203
 v138:=Tryz.zeroValue203
 t139:=Tryz.underlying204
 a139:=Tryz.isAgg204
 z139:=Tryz.sizeOf204
 v139:=Tryz.zeroValue204
 g3:=by kernel_rfl
 g4:=by kernel_rfl
theorem Q6:Lays.n103 Tryz.prog mK where
 mixed:=by kernel_rfl
 f103:=Tryz.func73.trans (congrArg some (by kernel_rfl))
 f206:=Tryz.func162.trans (congrArg some (by kernel_rfl))
 f210:=Tryz.func123.trans (congrArg some (by kernel_rfl))
 t3:=Tryz.underlying3
 a3:=Tryz.isAgg3
 z3:=Tryz.sizeOf3
 v3:=Tryz.zeroValue3
 t4:=Tryz.underlying4
 a4:=Tryz.isAgg4
 z4:=Tryz.sizeOf4
 v4:=Tryz.zeroValue4
 t9:=Tryz.underlying9
 a9:=Tryz.isAgg9
 z9:=Tryz.sizeOf9
 v9:=Tryz.zeroValue9
 t24:=Tryz.underlying131
 a24:=Tryz.isAgg131
 z24:=Tryz.sizeOf131
 v24:=Tryz.zeroValue131
theorem MK:(Tryz.prog.info? 270).map (fun i=>(i.zero,i.size))=some (some (.agg (Array.replicate 256 (.bool false))),256):=by kernel_rfl
end Go.Proofs.YtpgdljlghiifjaaGreatDoor
namespace Go.Proofs.YtpgdljlghiifjaaGreatDoor
open Go.RowKit
theorem R9 (tk:ByteArray):(⟨(Lib.trimPrefix (iH tk).data.toList [108]).toArray⟩:ByteArray)=tk/\Lib.hasPrefix (iH tk).data.toList [108]=true:=by
 have e:(iH tk).data.toList=108::tk.data.toList:=by simp[iH]
 rw[e]
 have h:Lib.hasPrefix (108::tk.data.toList) [108]=true:=by simp[Lib.hasPrefix]
 refine⟨?_,h⟩
 unfold Lib.trimPrefix
 rw[if_pos h]
 rfl
theorem rT (p:LP)(h:∃ao n c,p.2= .slice ao n c):∀v∈kE p,v.oneCell'=true:=by
 obtain⟨ao,n,c,e⟩:=h
 intro v hv
 unfold kE at hv
 rw[e] at hv
 simp only[bL,pE,oW] at hv
 rcases hv with rfl|rfl|rfl|rfl|rfl|rfl<;>rfl
def Sq (w:World)(ls:List aT)(x:Value)(w':World):Prop:=∃ps:List LP,ps.map (·.1)=ls/\aS w' fC w.heap.size 24 6 x ps.length (ps.flatMap kE)/\(∀p∈ps,iM w' (fun g=>x.ownBlock=some g\/g<w.heap.size) p.2 p.1.path)/\Below w.heap.size w w'
def S9 (w:World)(B:Nat)(xv:Value)(ls:List aT)(v i:Value)(wr:World):Prop:=
 ∃(k:Nat) (ps:List LP),k<=ls.length/\i= .int .i64 k/\ps.map (·.1)=ls.take k/\aS wr fC B 24 6 v ps.length (ps.flatMap kE)/\(∀p∈ps,iM wr (fun g=>v.ownBlock=some g\/g<B) p.2 p.1.path)/\aS wr fC B 130 2 xv ls.length (dJ (ls.map aT.pair))/\Below B w wr
theorem L8 {w:World}{S:Nat->Prop}{v:Value}{n:Nat}{kv:List Pr}(h:cZ w S 2 v n (dJ kv)):kv.length=n:=by
 rcases h with ⟨_,_,_,_,_,hl,_⟩|⟨rfl,hl,_⟩
 ·rw[tL] at hl;omega
 ·have:=congrArg List.length hl
  rw[tL,bG] at this
  omega
theorem MW {w:World}{S:Nat->Prop}{kv:List Pr}{ao:Option Addr}{n c:Nat}(h:cZ w S 2 (.slice ao n c) n (dJ kv))(i:Nat)(hi:i<kv.length):
  ∃b o,ao=some ⟨b,o,none⟩/\w.cell? ⟨b,o+i*2,none⟩=some (.string kv[i].1)/\w.cell? ⟨b,o+i*2+1,none⟩=some (.string kv[i].2):=by
 have hn:0<n:=by
  have h1:=(L8 h)
  omega
 obtain⟨ao',c',e,_,_,_,_,_,h6⟩:=cZ.real h hn
 cases e
 have key:∀j u,j<2->([Value.string kv[i].1,.string kv[i].2])[j]? =some u->∃b o,ao=some ⟨b,o,none⟩/\w.cell? ⟨b,o+i*2+j,none⟩=some u:=fun j u hj hu=>by
  obtain⟨b,o,e1,e2⟩:=h6 (i*2+j) u (by unfold dJ;rw[p8 _ 2 (fun _=>rfl) kv i j hi hj];exact hu)
  exact⟨b,o,e1,by rw[gX];exact e2⟩
 obtain⟨b,o,rfl,g0⟩:=key 0 _ (by omega) rfl
 obtain⟨_,_,e1,g1⟩:=key 1 _ (by omega) rfl;cases e1
 exact⟨b,o,rfl,g0,g1⟩
theorem JY (F:Nat->Prop)(v t b:Nat)(ls:List aT)(w:World)(h:LT F v t b ls w):
  Calls Tryz.prog 42 #[.pointer (some ⟨b,0,none⟩)] w fun e w'=>∃x,e= .returned (.tuple #[x,.int .i64 0])/\Sq w ls x w':=by
 have HS:=af h.scan
 have hobj:=h.obj
 have hlt:=h.lt
 have c0:w.cell? ⟨b,0,none⟩=some (.pointer (some ⟨t,0,none⟩)):=by simp[World.cell?,hobj]
 have HOK:=af h.ok
 clear h hobj
 go_enter Tryz.func42,Tryz.ntmps42
 go_upto_region 5 with (fail)
 go_loopw [4,5] (fun o f wr=>o= .slice none 0 0/\f= .string ⟨#[108]⟩/\wr=w) (fun _ _ _=>0)
 case atStart=>exact⟨rfl,rfl,rfl⟩
 case round=>
  obtain⟨rfl,rfl,hwr⟩:=hrel
  subst wr
  go_wp2_with (first
   |(go_at_call 72;go_must (refine HS.out.mono ?_;rintro e w1 ⟨x,rfl,hx,hb1⟩;refine Stop.of ?_)))
  refine Stop.on ?_
  have hnl:=HOK.out.len
  have hx64:(ls.length:Int)<64:=by omega
  obtain⟨xo,xc,rfl,_,_,_,_⟩:=cZ.form hx.qm
  have hst:S9 w w.heap.size (.slice xo ls.length xc) ls (.slice none 0 0) (.int .i64 0) w1:=⟨0,[],aV _,rfl,by simp,aS.nil _ _ _ _ _,by simp,hx,hb1⟩
  clear hx hb1 c0 hlt
  go_upto_region 9 with (fail)
  go_loopw [4,5,9,10,11,28] (fun v f _ _ _ i wr=>(∃s,f= .string s)/\S9 w w.heap.size (.slice xo ls.length xc) ls v i wr) (fun _ _ _ _ _ i _=>ls.length - (intOf i).toNat)
  case atStart=>exact⟨⟨_,rfl⟩,hst⟩
  case round=>
   obtain⟨⟨fs,rfl⟩,k,ps,hk,rfl,hps,hO,hpp,hX,hbw⟩:=hrel
   clear hst
   by_cases hkl:k<ls.length
   ·have hkl':(k:Int)<(ls.length:Int):=by omega
    obtain⟨pb,o,rfl,d0,d1⟩:=MW hX.qm k (by rw[dw];exact hkl)
    have hfit:=HOK.out.fit _ (aU hkl)
    have htk:ls.take (k+1)=ls.take k++[ls[k]]:=aI hkl
    simp only[uz7,aT.pair,aT.key] at d0 d1
    obtain⟨l,hl⟩:∃l,ls[k]=l:=⟨_,rfl⟩
    rw[hl] at d0 d1 hfit htk
    obtain⟨hc1,hc2⟩:=R9 l.token
    have hb2:=aJ wr (.cells #[.string (iH l.token),.string (strOf l.enc)] 130)
    have hn2:=aM wr (.cells #[.string (iH l.token),.string (strOf l.enc)] 130)
    have hbl:=aD wr _ d0
    obtain⟨w2,hw2⟩:∃w2:World,Hid (wr.alloc (.cells #[.string (iH l.token),.string (strOf l.enc)] 130)=w2):=⟨_,af rfl⟩
    rw[hw2.out] at hb2 hn2
    have hdc:=K4 l w2 hfit
    unfold sO at hdc
    have HD:=af hdc
    clear hdc
    have hcp:Calls Tryz.prog 73 #[.string (iH l.token),.string ⟨#[108]⟩] w2 _:=Any.strings_CutPrefix Q6 _ _ w2
    rw[show (⟨#[108]⟩:ByteArray).data.toList=[108] from rfl,hc1,hc2] at hcp
    obtain⟨ky,hky⟩:∃ky,Hid (iH l.token=ky):=⟨_,af rfl⟩
    obtain⟨en,hen⟩:∃en,Hid (strOf l.enc=en):=⟨_,af rfl⟩
    rw[hky.out,hen.out] at hn2 hw2
    rw[hky.out] at d0 hcp
    rw[hen.out] at d1 HD
    obtain⟨gb,hgb⟩:∃gb:Nat,Hid (wr.heap.size=gb):=⟨_,af rfl⟩
    rw[hgb.out] at hn2
    have c0:w2.cell? ⟨gb,0,none⟩=some (.string ky):=by simp[World.cell?,hn2]
    have c1:w2.cell? ⟨gb,1,none⟩=some (.string en):=by simp[World.cell?,hn2]
    have cl:=(ah.1 hn2).1
    have HC:=af hcp
    have HX:=af (ay hps (ay hO (ay hpp (ay hX (ay hbw (ay hb2 (ay htk (ay hl hfit))))))))
    have HN2:=af hn2
    obtain⟨vo,vc,rfl,_,_,_,_⟩:=cZ.form hO.qm
    clear hps hO hpp hX hbw hb2 htk hl hfit hcp hc1 hc2 hn2
    obtain⟨tk,pt,dp,ex,ow,ti⟩:=l
    dsimp only at HC HD
    go_upto_region 11 with (fail)
    rw[hw2.out,hgb.out]
    clear d0 d1 hbl
    go_wp2_with (first
     |(go_at_call 73;go_must (refine HC.out.mono ?_;rintro e w3 ⟨rfl,hw⟩;subst w3))
     |(go_at_call 74;go_must (refine HD.out.mono ?_;rintro e w4 ⟨pv,rfl,hpv,hb4⟩;refine Stop.of ?_)))
    refine Stop.on ?_
    obtain⟨po,pc,rfl,_,_,_,_⟩:=cZ.form hpv
    have hb24:=HX.out.2.2.2.2.2.1.trans (hb4.mono HX.out.2.2.2.2.2.1.size)
    have hb5:=aJ w4 (.cells #[.string tk,.slice po pt.length pc,.bool dp,.bool ex,.string ow,.int .i64 ti] 24)
    have hO5:=(HX.out.2.1.below hb24).below hb5
    have hn4:=(hb4.block gb cl).trans HN2.out
    have hn5:=(hb5.block gb (ah.1 hn4).1).trans hn4
    have hpsl:ps.length=k:=by
     have:=congrArg List.length HX.out.1
     rw[dw,aF] at this
     omega
    have hsz5:w.heap.size<=(w4.alloc (.cells #[.string tk,.slice po pt.length pc,.bool dp,.bool ex,.string ow,.int .i64 ti] 24)).heap.size:=aH HX.out.2.2.2.2.1.size (aH hb24.size hb5.size)
    have hone:=rT (⟨tk,pt,dp,ex,ow,ti⟩,.slice po pt.length pc) ⟨_,_,_,rfl⟩
    have HY:=af (ay hpv (ay hb24 (ay hb5 (ay hO5 (ay hn5 (ay hpsl (ay hsz5 hone)))))))
    clear hpv hb4 hb24 hb5 hO5 hn5 hn4 hpsl hsz5 hone c0 c1 cl
    go_wp2_with (first
     |(at_builtin;go_must ((refine dK rfl (.tmp 41) (.tmp 46) 26 26 rfl fC w.heap.size 24 6 72 _ Tryz.underlying26 yG rfl (.slice vo ps.length vc) _ _ rfl HY.out.2.2.2.1 _ 1 _ rfl (gI [.string tk,.slice po pt.length pc,.bool dp,.bool ex,.string ow,.int .i64 ti] _ 6 1 1 (by simp) Tryz.underlying26 rfl HY.out.2.2.2.2.2.2.2) (fun _ h=>h.elim) HY.out.2.2.2.2.2.2.1 ?_ ?_ ?_);(focus (unfold maxLen;have:=HY.out.2.2.2.2.2.1;omega));(focus (have:=HY.out.2.2.2.2.2.1;omega));intro ao6 c6 w6 hown6 hk6 hbb6 hd6;refine Stop.of ?_)))
    refine Stop.on ?_
    have hn6:=(hk6.block gb (ah.1 HY.out.2.2.2.2.1).1 (HY.out.2.2.2.1.ne HY.out.2.2.2.2.1 (by decide))).trans HY.out.2.2.2.2.1
    have c0:w6.cell? ⟨gb,0,none⟩=some (.string ky):=by simp[World.cell?,hn6]
    have cl:=(ah.1 hn6).1
    have hb25:Below wr.heap.size wr (w4.alloc (.cells #[.string tk,.slice po pt.length pc,.bool dp,.bool ex,.string ow,.int .i64 ti] 24)):=HY.out.2.1.trans (HY.out.2.2.1.mono HY.out.2.1.size)
    have hnew:S9 w w.heap.size (.slice (some ⟨pb,o,none⟩) ls.length xc) ls (.slice ao6 (ps.length+1) c6) (.int .i64 ((k+1:Nat):Int)) w6:=by
     refine⟨k+1,ps++[(⟨tk,pt,dp,ex,ow,ti⟩,.slice po pt.length pc)],hkl,rfl,?_,?_,?_,?_,?_⟩
     ·rw[bZ,HX.out.1,HX.out.2.2.2.2.2.2.1];rfl
     ·rw[iV,aC]
      simp only[dB,pG,dP,aY,bG]
      exact hown6
     ·intro p hp
      rcases bM.1 hp with hp|hp
      ·have h1:=HX.out.2.2.1 p hp
       have h2:=cZ.below h1 hb25
       exact cZ.keep h2 fun g hg hl hn=>⟨hk6.block g hl (fun e=>hn (.inl e)),fun e=>e.elim (hd6 g hl (fun e=>hn (.inl e))) (fun e=>hn (.inr e))⟩
      ·rw[bI.1 hp]
       have h1:=cZ.below HY.out.1 HY.out.2.2.1
       have hw2s:=HX.out.2.2.2.2.2.1.size
       have hne:∀g,¬g<w2.heap.size->(Value.slice vo ps.length vc).ownBlock≠some g:=fun g hg e=>hg (ak (HX.out.2.1.1.lt g e).2 hw2s)
       exact cZ.keep h1 fun g hg hl hn=>⟨hk6.block g hl (hne g hn),fun e=>e.elim (hd6 g hl (hne g hn)) (fun e=>hn (ak e (aH HX.out.2.2.2.2.1.size hw2s)))⟩
     ·have h2:=HX.out.2.2.2.1.below hb25
      exact h2.keep fun g hg hl hs=>⟨hk6.block g hl (fun e=>aS.EO h2 HY.out.2.2.2.1 (by decide) g hg e),hs⟩
     ·have h1:=HX.out.2.2.2.2.1
      exact(h1.trans (hb25.mono h1.size)).trans hbb6
    have HNEW:=af hnew
    have hks:ky.size<=61:=by
     have h1:=HX.out.2.2.2.2.2.2.2.2.tok
     rw[<-hky.out,tT]
     dsimp only at h1 ⊢
     omega
    have hks2:(⟨#[0]⟩:ByteArray).size=1:=rfl
    clear hnew hn6 hb25 hown6 hk6 hbb6 hd6
    go_wp2_with fail
    go_roundw
    case rel=>exact⟨⟨_,rfl⟩,HNEW.out⟩
    case measure=>simp[intOf];omega
   ·obtain rfl:k=ls.length:=by omega
    have x2:¬(ls.length:Int)<(ls.length:Int):=by omega
    have HX:=af (ay hps (ay hO (ay hpp hbw)))
    obtain⟨vo,vc,rfl,_,_,_,_⟩:=cZ.form hO.qm
    clear hps hO hpp hX hbw
    go_wp2_with fail
    go_ret2
    exact⟨_,rfl,ps,by rw[HX.out.1,bO],HX.out.2.1,HX.out.2.2.1,HX.out.2.2.2⟩
def jy (w:World)(S:Nat->Prop)(v:Value)(ps:List LP):Prop:=cZ w S 6 v ps.length (ps.flatMap kE)/\∀p∈ps,iM w S p.2 p.1.path
theorem jy.OG {w:World}{S:Nat->Prop}{v:Value}{ps:List LP}(h:jy w S v ps):vL w S v ps:=⟨h.1,fun p hp=>⟨S,h.2 p hp⟩⟩
theorem jy.keep {w w':World}{S:Nat->Prop}{v:Value}{ps:List LP}(h:jy w S v ps)(hk:Keep S w w'):jy w' S v ps:=
 ⟨cZ.keep h.1 fun g _ hl hn=>⟨hk.block g hl hn,hn⟩,fun p hp=>cZ.keep (h.2 p hp) fun g _ hl hn=>⟨hk.block g hl hn,hn⟩⟩
theorem jy.of {w:World}{S:Nat->Prop}{B:Nat}{v:Value}{ps:List LP}(h:aS w fC B 24 6 v ps.length (ps.flatMap kE))(hp:∀p∈ps,iM w (fun g=>v.ownBlock=some g\/g<B) p.2 p.1.path)(hS:∀g,B<=g->g<w.heap.size->¬S g):jy w S v ps:=
 ⟨aS.qm (S:=S) ⟨h.1,fun g hg=>hS g (h.1.lt g hg).1 (h.1.lt g hg).2⟩,fun p hq=>cZ.keep (hp p hq) fun g _ hl hn=>⟨rfl,hS g (by
  apply jQ
  intro hlt
  exact hn (.inr (Nat.lt_of_not_le hlt))) hl⟩⟩
theorem Keep.imp {M M':Nat->Prop}{w w':World}(h:Keep M w w')(hM:∀g,M g->M' g):Keep M' w w':=h.mono fun g _ e=>hM g e
theorem F3 (tk:ByteArray):(⟨#[108]⟩:ByteArray)++tk=iH tk:=by
 unfold iH
 apply Ci
 simp
theorem Nh (nb:Nat)(now:Int):Rp 44 #[.pointer (some ⟨nb,0,none⟩)] (fun l=>decide (l.till<=now)) (fun W=>W.cell? ⟨nb,0,none⟩=some (.int .i64 now)/\nb<W.heap.size):=by
 intro l pv T w ⟨hc,hlt⟩ hp
 obtain⟨tk,pt,dp,ex,ow,ti⟩:=l
 obtain⟨po,pc,rfl,_,_,_,_⟩:=cZ.form hp
 unfold sO
 dsimp only
 have hb2:=aJ w (.cells #[.string tk,.slice po pt.length pc,.bool dp,.bool ex,.string ow,.int .i64 ti] 24)
 have hn2:=aM w (.cells #[.string tk,.slice po pt.length pc,.bool dp,.bool ex,.string ow,.int .i64 ti] 24)
 have c1:=(hb2.cell (p:=⟨nb,0,none⟩) hlt).trans hc
 obtain⟨w2,hw2⟩:∃w2:World,Hid (w.alloc (.cells #[.string tk,.slice po pt.length pc,.bool dp,.bool ex,.string ow,.int .i64 ti] 24)=w2):=⟨_,af rfl⟩
 rw[hw2.out] at hb2 hn2 c1
 obtain⟨gb,hgb⟩:∃gb:Nat,Hid (w.heap.size=gb):=⟨_,af rfl⟩
 rw[hgb.out] at hn2
 obtain⟨e0,e1,e2,e3,e4,e5,le⟩:=dD hn2
 have hl2:=ak hlt hb2.size
 have HB:=af hb2
 clear hb2 hn2 hc hlt
 go_enter Tryz.func44,Tryz.ntmps44
 go_upto_region 1 with (fail)
 rw[hw2.out,hgb.out]
 go_wp2
 go_ret
 exact⟨rfl,HB.out⟩
theorem Ni (nb:Nat)(now:Int):Rp 37 #[.pointer (some ⟨nb,0,none⟩)] (fun l=>decide (l.till<=now)) (fun W=>W.cell? ⟨nb,0,none⟩=some (.int .i64 now)/\nb<W.heap.size):=by
 intro l pv T w ⟨hc,hlt⟩ hp
 obtain⟨tk,pt,dp,ex,ow,ti⟩:=l
 obtain⟨po,pc,rfl,_,_,_,_⟩:=cZ.form hp
 unfold sO
 dsimp only
 have hb2:=aJ w (.cells #[.string tk,.slice po pt.length pc,.bool dp,.bool ex,.string ow,.int .i64 ti] 24)
 have hn2:=aM w (.cells #[.string tk,.slice po pt.length pc,.bool dp,.bool ex,.string ow,.int .i64 ti] 24)
 have c1:=(hb2.cell (p:=⟨nb,0,none⟩) hlt).trans hc
 obtain⟨w2,hw2⟩:∃w2:World,Hid (w.alloc (.cells #[.string tk,.slice po pt.length pc,.bool dp,.bool ex,.string ow,.int .i64 ti] 24)=w2):=⟨_,af rfl⟩
 rw[hw2.out] at hb2 hn2 c1
 obtain⟨gb,hgb⟩:∃gb:Nat,Hid (w.heap.size=gb):=⟨_,af rfl⟩
 rw[hgb.out] at hn2
 obtain⟨e0,e1,e2,e3,e4,e5,le⟩:=dD hn2
 have hl2:=ak hlt hb2.size
 have HB:=af hb2
 clear hb2 hn2 hc hlt
 go_enter Tryz.func37,Tryz.ntmps37
 go_upto_region 1 with (fail)
 rw[hw2.out,hgb.out]
 go_wp2
 go_ret
 exact⟨rfl,HB.out⟩
theorem K7 (nb:Nat)(dv:Value)(path:List ByteArray)(T2:Nat->Prop):Rp 45 #[.pointer (some ⟨nb,0,none⟩)] (fun l=>within l.path path) (fun W=>W.cell? ⟨nb,0,none⟩=some dv/\nb<W.heap.size/\iM W T2 dv path):=by
 intro l pv T w ⟨hc,hlt,hd⟩ hp
 obtain⟨tk,pt,dp,ex,ow,ti⟩:=l
 have hw:=fun (W:World) (hb:Below w.heap.size w W)=>Ad pv dv pt path T T2 W (cZ.below hp hb) (cZ.below hd hb)
 obtain⟨po,pc,rfl,_,_,_,_⟩:=cZ.form hp
 obtain⟨qo,qc,rfl,_,_,_,_⟩:=cZ.form hd
 unfold sO
 dsimp only
 have hb2:=aJ w (.cells #[.string tk,.slice po pt.length pc,.bool dp,.bool ex,.string ow,.int .i64 ti] 24)
 have hn2:=aM w (.cells #[.string tk,.slice po pt.length pc,.bool dp,.bool ex,.string ow,.int .i64 ti] 24)
 have c1:=(hb2.cell (p:=⟨nb,0,none⟩) hlt).trans hc
 obtain⟨w2,hw2⟩:∃w2:World,Hid (w.alloc (.cells #[.string tk,.slice po pt.length pc,.bool dp,.bool ex,.string ow,.int .i64 ti] 24)=w2):=⟨_,af rfl⟩
 rw[hw2.out] at hb2 hn2 c1
 have HW:=af (hw w2 hb2)
 obtain⟨gb,hgb⟩:∃gb:Nat,Hid (w.heap.size=gb):=⟨_,af rfl⟩
 rw[hgb.out] at hn2
 obtain⟨e0,e1,e2,e3,e4,e5,le⟩:=dD hn2
 have hl2:=ak hlt hb2.size
 have HB:=af hb2
 clear hb2 hn2 hc hlt hw hd hp
 go_enter Tryz.func45,Tryz.ntmps45
 go_upto_region 1 with (fail)
 rw[hw2.out,hgb.out]
 go_wp2_with (first
  |(go_at_call 29;go_must (refine HW.out.mono ?_;rintro e w3 ⟨rfl,hw⟩;subst w3)))
 go_ret
 exact⟨rfl,HB.out⟩
theorem FU (F:Nat->Prop)(v t b:Nat)(ls:List aT)(now:Int)(g:Nat)(cb:Array Value)(so:aT->Bool)(Q:World->Prop)(hent:∀args w,(callFunc g args).run Tryz.prog w= .ok (.enter g args) w)(hso:Rp g cb so Q)(w:World)(h:LT F v t b ls w)(hq:∀w2,Keep (fun x=>¬F x) w w2->Q w2):
  Calls Tryz.prog 36 #[.pointer (some ⟨b,0,none⟩),.int .i64 now,.func (.func g) #[] cb] w fun e w'=>e= .returned (.tuple #[.int .i64 (oO so now ls ls.length:Nat),.int .i64 0])/\LT F v t b (mE so ls ls.length) w'/\Keep (fun x=>¬F x) w w':=by
 have HL:=af (JY F v t b ls w h)
 have H:=af h;have HQ:=af hq;have HSO:=af hso
 clear h hq hso
 go_enter Tryz.func36,Tryz.ntmps36
 go_wp2_with (first
  |(go_at_call 42;go_must (refine HL.out.mono ?_;rintro e w1 ⟨x,rfl,ps,hps,hx,hpp,hb1⟩;refine Stop.of ?_)))
 refine Stop.on ?_
 have hT1:=H.out.next hb1
 have hLF:jy w1 (fun g=>¬oI F w w1 g) x ps:=jy.of hx hpp (fun g h1 h2 hn=>hn (.inr ⟨h1,h2⟩))
 have hQ1:∀w2,Keep (fun g=>¬oI F w w1 g) w1 w2->Q w2:=fun w2 hk=>HQ.out w2 ((Keep.of_below hb1 _).trans (hk.imp fun g e hf=>e (.inl hf)) (fun _ _ e=>e))
 have hF1:∀g,F g->oI F w w1 g:=fun g e=> .inl e
 have hk1:Keep (fun x=>¬F x) w w1:=Keep.of_below hb1 _
 generalize oI F w w1=F1 at hT1 hLF hQ1 hF1
 have HX:=af (ay hF1 (ay hQ1 (ay hk1 hLF)))
 obtain⟨lo,lc,rfl,hl1,hl2,_,_⟩:=cZ.form hLF.1
 have HPS:=af hps
 have hnl:ls.length=ps.length:=by rw[<-hps,dw]
 have HNL:=af hnl
 clear hF1 hQ1 hLF hps hx hpp hb1 hnl hk1
 go_upto_region 4 with (fail)
 go_loopw [10,12,13,14,22] (fun c _ _ _ i wr=>∃k:Nat,k<=ps.length/\i= .int .i64 k/\c= .int .i64 (oO so now ls k:Nat)/\LT F1 v t b (mE so ls k) wr/\Keep (fun x=>¬F1 x) w1 wr) (fun _ _ _ _ i _=>ps.length - (intOf i).toNat)
 case atStart=>exact⟨0,aV _,rfl,rfl,by rw[Ic];exact hT1,Keep.refl _ _⟩
 case round=>
  obtain⟨k,hk,rfl,rfl,hTk,hkk⟩:=hrel
  clear hT1
  by_cases hkl:k<ps.length
  ·have hkl':(k:Int)<(ps.length:Int):=by omega
   have hLr:=HX.out.2.2.2.keep hkk
   obtain⟨sb,o,rfl,d0,d1,d2,d3,d4,d5⟩:=hLr.OG.at rfl k hkl
   have hT:=hLr.2 _ (aU hkl)
   have hls:ls[k]'(by rw[HNL.out];exact hkl)=ps[k].1:=by
    have:=HPS.out
    subst this
    simp
   obtain⟨p,hp⟩:∃p,ps[k]=p:=⟨_,rfl⟩
   rw[hp] at d0 d1 d2 d3 d4 d5 hT hls
   have hb2:=aJ wr (.cells #[.string p.1.token,p.2,.bool p.1.deep,.bool p.1.excl,.string p.1.owner,.int .i64 p.1.till] 24)
   have hn2:=aM wr (.cells #[.string p.1.token,p.2,.bool p.1.deep,.bool p.1.excl,.string p.1.owner,.int .i64 p.1.till] 24)
   have hbl:=aD wr _ d0
   obtain⟨w2,hw2⟩:∃w2:World,Hid (wr.alloc (.cells #[.string p.1.token,p.2,.bool p.1.deep,.bool p.1.excl,.string p.1.owner,.int .i64 p.1.till] 24)=w2):=⟨_,af rfl⟩
   rw[hw2.out] at hb2 hn2
   have hcc:=HSO.out p.1 p.2 _ w2 (HX.out.2.1 w2 (hkk.trans (Keep.of_below hb2 _) (fun _ _ e=>e))) (cZ.below hT hb2)
   unfold sO at hcc
   obtain⟨gb,hgb⟩:∃gb:Nat,Hid (wr.heap.size=gb):=⟨_,af rfl⟩
   rw[hgb.out] at hn2
   have hsn:=E9 (so:=so) (now:=now) (k:=k) (ls:=ls) (by rw[HNL.out];exact hkl)
   have hsk:=Ig (so:=so) (ls:=ls) (k:=k) (by rw[HNL.out];exact hkl)
   have hsd:=KH (so:=so) (ls:=ls) (k:=k) H.out.ok (by rw[HNL.out];exact hkl)
   have hfit:=H.out.ok.fit p.1 (by rw[<-hls];exact aU _)
   rw[hls] at hsn hsk hsd
   obtain⟨C,hC⟩:∃C,Hid (so p.1=C):=⟨_,af rfl⟩
   rw[hC.out] at hcc hsn hsk hsd
   have HCC:=af hcc
   have HM:=af (ay hsn (ay hsk (ay hsd (ay hfit (ay hn2 (ay hb2 (ay hTk hkk)))))))
   have hform:=cZ.form hT
   clear hcc hp hT hls hsn hsk hsd hfit hn2 hb2 hTk hkk hLr
   obtain⟨⟨tk,pt,dp,ex,ow,ti⟩,qv⟩:=p
   dsimp only at d0 d1 d2 d3 d4 d5 HCC hC HM hform hw2
   obtain⟨qo,qc,rfl,_,_,_,_⟩:=hform
   go_upto_region 6 with (fail)
   rw[hw2.out,hgb.out]
   obtain⟨e0,e1,e2,e3,e4,e5,le⟩:=dD HM.out.2.2.2.2.1
   clear d0 d1 d2 d3 d4 d5 hbl
   cases C with
   |false=>
    go_wp2_with (first
     |((refine HCC.out.mono ?_);rintro e w3 ⟨rfl,hb3⟩;refine Stop.of ?_))
    refine Stop.on ?_
    have hb23:=HM.out.2.2.2.2.2.1.trans (hb3.mono HM.out.2.2.2.2.2.1.size)
    have HB3:=af hb23
    clear hb3 hb23
    go_wp2_with fail
    go_roundw
    case rel=>
     refine⟨k+1,by omega,by go_num,by rw[HM.out.1];simp,?_,HM.out.2.2.2.2.2.2.2.trans (Keep.of_below HB3.out _) (fun _ _ e=>e)⟩
     rw[HM.out.2.1 (by trivial)]
     exact HM.out.2.2.2.2.2.2.1.below HB3.out
    case measure=>simp[intOf];omega
   |true=>
    go_wp2_with (first
     |((refine HCC.out.mono ?_);rintro e w3 ⟨rfl,hb3⟩;refine Stop.of ?_))
    refine Stop.on ?_
    have hb23:=HM.out.2.2.2.2.2.1.trans (hb3.mono HM.out.2.2.2.2.2.1.size)
    have hgb0:=hgb.out
    have hgl:gb<w3.heap.size:=ak le hb3.size
    have hT3:=(HM.out.2.2.2.2.2.2.1.next hb23).below ((aN _ w3).drew)
    have hF2:oI F1 wr w3 gb:= .inr ⟨fD hgb0,hgl⟩
    have hF12:∀x,F1 x->oI F1 wr w3 x:=fun x e=> .inl e
    have hk3:Keep (fun x=>¬F1 x) w1 w3.drew:=(HM.out.2.2.2.2.2.2.2.trans (Keep.of_below hb23 _) (fun _ _ e=>e)).drew
    generalize oI F1 wr w3=F2 at hT3 hF2 hF12
    have hd:=HM.out.2.2.1 (by trivial)
    have HDL:=af (hT3.del tk HM.out.2.2.2.1.tok (mE so ls (k+1)) hd.1 hd.2 (H.out.ok.mE so (k+1)))
    have hn3:w3.heap[gb]? =_:=(hb3.block gb le).trans HM.out.2.2.2.2.1
    have hobj:w3.heap[b]? =some (.cells #[.pointer (some ⟨t,0,none⟩)] 69 (0,0)):=hT3.obj
    clear e0 e1 e2 e3 e4 e5 le
    obtain⟨e0,e1,e2,e3,e4,e5,le⟩:=dD hn3
    have c0:w3.cell? ⟨b,0,none⟩=some (.pointer (some ⟨t,0,none⟩)):=by simp[World.cell?,hobj]
    have bl:=(ah.1 hobj).1
    have hks:tk.size<=60:=HM.out.2.2.2.1.tok
    have hks2:¬9223372036854775807<1+tk.size:=by omega
    have hla:=F3 tk
    have HK3:=af (ay hk3 (ay hF2 (ay hF12 (ay hn3 hobj))))
    clear hk3 hF2 hF12 hn3 hobj hb3 hb23 hd hgb0 hgl hT3
    go_wp2_with fail
    refine aQ (fun W=>W.cell? ⟨b,0,none⟩=some (.pointer (some ⟨t,0,none⟩))/\b<W.heap.size/\W.cell? ⟨gb,0,none⟩=some (.string tk)/\gb<W.heap.size) (fun i=> !([7].contains i)) [0,1,2,3,4,5,6,7,8,9,10,11,12] rfl (by kernel_rfl) ⟨c0,bl,e0,le⟩ ?_
    repeat ((refine bP (v:= ?_) rfl rfl (fun _ _ _ h=>h) rfl (fun W hW=> ?_) ?_);rotate_left;(focus ((try dsimp only at hW);obtain⟨q0,q1,q2,q3⟩:=hW;(go_simp;first|done|with_reducible rfl)));(try simp only[Act.put,aj,ax,au]))
    refine dA rfl rfl rfl ?_;intro K hK;go_simp
    refine HDL.out.mono ?_;rintro e w4 ⟨rfl,hT4,hk4⟩
    have hn4:w4.heap[gb]? =_:=(hk4.block gb (show gb<w3.drew.heap.size from le) (fun e=>e HK3.out.2.1)).trans (show w3.drew.heap[gb]? =_ from HK3.out.2.2.2.1)
    have hobj4:=hT4.obj
    clear e0 e1 e2 e3 e4 e5 le c0 bl
    obtain⟨e0,e1,e2,e3,e4,e5,le⟩:=dD hn4
    have c0:w4.cell? ⟨b,0,none⟩=some (.pointer (some ⟨t,0,none⟩)):=by simp[World.cell?,hobj4]
    have bl:=(ah.1 hobj4).1
    refine hK.out _ _ ⟨c0,bl,e0,le⟩ ?_
    (try simp only[Act.put,aj,ax,au])
    repeat ((refine bP (v:= ?_) rfl rfl (fun _ _ _ h=>h) rfl (fun W hW=> ?_) ?_);rotate_left;(focus ((try dsimp only at hW);skip;(go_simp;first|done|with_reducible rfl)));(try simp only[Act.put,aj,ax,au]))
    refine bU ?_
    have HW4:=af (ay (hT4.sub HK3.out.2.2.1 (HM.out.2.2.2.2.2.2.1.fb)) (HK3.out.1.trans (hk4.imp fun x e hf=>e (HK3.out.2.2.1 x hf)) (fun _ _ e=>e)))
    clear hT4 hk4 hn4 hobj4 c0 bl
    clear hla hks hks2
    have hsn:=HM.out.1
    have hcn:oO so now ls k<=33:=aH (KI _ _ _ _) H.out.ok.len
    by_cases htn:now<ti
    ·have hs2:oO so now ls (k+1)=oO so now ls k+1:=by rw[hsn,bK htn];rfl
     have HS2:=af hs2
     clear hs2 hsn
     go_wp2_with fail
     go_roundw
     case rel=>exact⟨k+1,by omega,by go_num,by rw[HS2.out];go_num,HW4.out.1,HW4.out.2⟩
     case measure=>simp[intOf];omega
    ·have hs2:oO so now ls (k+1)=oO so now ls k:=by rw[hsn,bD htn];rfl
     have HS2:=af hs2
     clear hs2 hsn
     go_wp2_with fail
     go_roundw
     case rel=>exact⟨k+1,by omega,by go_num,by rw[HS2.out],HW4.out.1,HW4.out.2⟩
     case measure=>simp[intOf];omega
  ·obtain rfl:k=ps.length:=by omega
   have x2:¬(ps.length:Int)<(ps.length:Int):=by omega
   have HT:=af (ay hTk hkk)
   clear hTk hkk
   go_wp2_with fail
   go_ret2
   rw[HNL.out]
   have hs:=HT.out.1.sub HX.out.1 H.out.fb
   exact⟨rfl,hs,HX.out.2.2.1.trans (HT.out.2.imp fun g e hf=>e (HX.out.1 g hf)) (fun _ _ e=>e)⟩
theorem mo (p:LP):(kE p).length=6:=rfl
theorem Gr (ps:List LP):(ps.flatMap kE).length=ps.length*6:=by
 induction ps with
 |nil=>rfl
 |cons a l ih=>rw[dB,aC,ih,mo,aY];omega
theorem K5 (p:LP)(h:∃ao n c,p.2= .slice ao n c):∀v∈kE p,v.oneCell'=true:=by
 obtain⟨ao,n,c,e⟩:=h
 intro v hv
 unfold kE at hv
 rw[e] at hv
 simp only[bL,pE,oW] at hv
 rcases hv with rfl|rfl|rfl|rfl|rfl|rfl<;>rfl
def Df (so:aT->Bool)(p:LP):Bool:= !so p.1
def Jy (so:aT->Bool)(ps:List LP)(tail:List Value)(j i:Nat)(cur:List Value):Prop:=
 ∃Y:List Value,cur=((ps.take j).filter (Df so)).flatMap kE++(Y++((ps.drop j).flatMap kE++tail))/\i=((ps.take j).filter (Df so)).length/\i<j/\Y.length=(j - i)*6
theorem Jy.at {so:aT->Bool}{ps:List LP}{tail cur:List Value}{j i:Nat}(h:Jy so ps tail j i cur)(hj:j<ps.length)(k:Nat)(hk:k<6):cur[j*6+k]? =(kE ps[j])[k]? :=by
 obtain⟨Y,rfl,rfl,h1,h2⟩:=h
 have hl:(((ps.take j).filter (Df so)).flatMap kE++Y).length=j*6:=by rw[aC,Gr,h2];omega
 rw[<-aL,bY (by rw[hl];omega),hl,eB,bJ hj,dB,aL,eP (by rw[mo];exact hk)]
theorem Jy.skip {so:aT->Bool}{ps:List LP}{tail cur:List Value}{j i:Nat}(h:Jy so ps tail j i cur)(hj:j<ps.length)(hs:so ps[j].1=true):Jy so ps tail (j+1) i cur:=by
 obtain⟨Y,rfl,rfl,h1,h2⟩:=h
 have e:(ps.take (j+1)).filter (Df so)=(ps.take j).filter (Df so):=by
  rw[aI hj,fJ]
  simp[Df,hs]
 refine⟨Y++kE ps[j],?_,by rw[e],by omega,by rw[aC,h2,mo];omega⟩
 rw[e,bJ hj,dB]
 simp only[aL]
theorem Jy.move {so:aT->Bool}{ps:List LP}{tail cur:List Value}{j i:Nat}(h:Jy so ps tail j i cur)(hj:j<ps.length)(hs:so ps[j].1=false):Jy so ps tail (j+1) (i+1) (splice cur (i*6) (kE ps[j])):=by
 obtain⟨Y,rfl,rfl,h1,h2⟩:=h
 have e:(ps.take (j+1)).filter (Df so)=(ps.take j).filter (Df so)++[ps[j]]:=by
  rw[aI hj,fJ]
  simp[Df,hs]
 have hY:Y=Y.take 6++Y.drop 6:=(bH 6 Y).symm
 refine⟨Y.drop 6++kE ps[j],?_,by rw[e];simp,by omega,by rw[aC,aP,h2,mo];omega⟩
 rw[e]
 conv=>lhs;rw[hY]
 rw[aL (Y.take 6),oh _ (Y.take 6) _ _ _ (Gr _) (by rw[aF,h2,mo];omega)]
 rw[bJ hj,dB,iV]
 simp only[aL,dB,pG,dP]
theorem Jy.start {so:aT->Bool}{ps:List LP}{tail:List Value}{k:Nat}(hk:k<ps.length)(hs:so ps[k].1=true)(hn:∀p∈ps.take k,so p.1=false):Jy so ps tail (k+1) k (ps.flatMap kE++tail):=by
 have e:(ps.take (k+1)).filter (Df so)=ps.take k:=by
  rw[aI hk,fJ,xQ.2 (fun p hp=>by unfold Df;rw[hn p hp];rfl)]
  simp[Df,hs]
 refine⟨kE ps[k],?_,by rw[e,aF];omega,by omega,by rw[mo];omega⟩
 rw[e]
 conv=>lhs;rw[<-bH k ps,bJ hk]
 rw[iV,dB]
 simp only[aL]
theorem Jy.end {so:aT->Bool}{ps:List LP}{tail cur zs:List Value}{i:Nat}(h:Jy so ps tail ps.length i cur)(hz:zs.length=(ps.length - i)*6):(splice cur (i*6) zs).take ((ps.filter (Df so)).length*6)=(ps.filter (Df so)).flatMap kE/\i=(ps.filter (Df so)).length/\i<ps.length/\(splice cur (i*6) zs).length=cur.length:=by
 obtain⟨Y,rfl,rfl,h1,h2⟩:=h
 rw[bO] at*
 refine⟨?_,rfl,h1,?_⟩
 ·rw[oh _ Y _ _ _ (Gr _) (by rw[h2,hz]),List.take_left' (Gr _)]
 ·rw[oh _ Y _ _ _ (Gr _) (by rw[h2,hz])]
  simp only[aC,h2,hz]
def Tx (so:aT->Bool)(ps:List LP)(cur:List Value)(w:World)(cg:Nat)(i j:Value)(wr:World):Prop:=
 ∃(jn iN:Nat) (cr:List Value),jn<=ps.length/\j= .int .i64 jn/\i= .int .i64 iN/\Jy so ps (cur.drop (ps.length*6)) jn iN cr/\Row wr cg 24 cr/\cr.length=cur.length/\Keep (· =cg) w wr
theorem PD (g:Nat)(cb:Array Value)(so:aT->Bool)(Q:World->Prop)(hent:∀args w,(callFunc g args).run Tryz.prog w= .ok (.enter g args) w)(hso:Rp g cb so Q)(lv:Value)(ps:List LP)(B:Nat)(w:World)
  (h:aS w fC B 24 6 lv ps.length (ps.flatMap kE)) (hpp:∀p∈ps,iM w (fun x=>lv.ownBlock=some x) p.2 p.1.path) (hq:∀w2,Keep (fun x=>lv.ownBlock=some x) w w2->Q w2):
  Calls Tryz.prog 43 #[lv,.func (.func g) #[] cb] w fun e w'=>∃v',e= .returned v'/\aS w' fC B 24 6 v' (ps.filter (Df so)).length ((ps.filter (Df so)).flatMap kE)/\v'.ownBlock=lv.ownBlock/\Keep (fun x=>lv.ownBlock=some x) w w':=by
 have hix:=Pp g cb so Q hent hso lv ps _ w ⟨h.qm,fun p hp=>⟨_,hpp p hp⟩⟩ (fun w2 hb=>hq w2 (Keep.of_below hb _))
 have HIX:=af hix
 clear hix
 have hfm:=cZ.form h.qm
 obtain⟨lo,lc,rfl,hl1,hl2,_,_⟩:=hfm
 have HO:=af h;have HP:=af hpp;have HQ:=af hq;have HSO:=af hso
 clear h hpp hq hso
 go_enter Tryz.func43,Tryz.ntmps43
 go_wp2_with (first
  |(go_at_call 75;go_must (refine HIX.out.mono ?_;rintro e w1 ⟨⟨z,rfl,⟨rfl,hz2⟩|⟨k,rfl,hk,hsk,hnk⟩⟩,hb1⟩<;>refine Stop.of ?_)))
 ·refine Stop.on ?_
  have HZ:=af (ay hz2 hb1)
  clear hz2 hb1
  go_wp2_with fail
  go_ret
  have hf:ps.filter (Df so)=ps:=xQ.2 fun p hp=>by unfold Df;rw[HZ.out.1 p hp];rfl
  exact⟨_,rfl,by rw[hf];exact HO.out.below (HZ.out.2.mono (aG _)),rfl,Keep.of_below HZ.out.2 _⟩
 ·refine Stop.on ?_
  obtain⟨cg,cap,hlo,hcap⟩:∃cg cap,(Value.slice lo ps.length lc)= .slice (some ⟨cg,0,none⟩) ps.length cap/\True:=by
   rcases HO.out.1.2 with ⟨h0,_⟩|⟨cg,cap,cur,hv,_⟩
   ·injection h0 with _ e2 _
    omega
   ·exact⟨cg,cap,hv,trivial⟩
  cases hlo
  obtain⟨cur,hr,hcl,hct,hBg,_,hc1,hc2⟩:=HO.out.row
  have hr1:Row w1 cg 24 cur:=hr.keep (Keep.of_below hb1 (fun _=>False)) (fun e=>e)
  have hst:Jy so ps (cur.drop (ps.length*6)) (k+1) k cur:=by
   have:=Jy.start (tail:=cur.drop (ps.length*6)) hk hsk hnk
   rwa [<-hct,bH] at this
  have HR:=af (ay hcl (ay hBg (ay hc1 hc2)))
  have hk1:Keep (· =cg) w w1:=Keep.of_below hb1 _
  clear hr hct hcl hBg hsk hnk hb1 hc1 hc2
  have hk12:((k:Int)== -1)=false:=bV.2 (by omega)
  go_upto_region 5 with (fail)
  go_loopw [5,6,7] (fun i j _ wr=>Tx so ps cur w cg i j wr) (fun _ j _ _=>ps.length - (intOf j).toNat)
  case atStart=>exact⟨k+1,k,cur,by omega,by go_num,rfl,hst,hr1,rfl,hk1⟩
  case round=>
   obtain⟨jn,iN,cr,hjn,rfl,rfl,hd,hrr,hcr,hkr⟩:=hrel
   clear hst hr1 hk1
   by_cases hjl:jn<ps.length
   ·have hjl':(jn:Int)<(ps.length:Int):=by omega
    have hil:iN<jn:=by obtain⟨_,_,_,h,_⟩:=hd;exact h
    have hil':(iN:Int)<(ps.length:Int):=by omega
    obtain⟨p,hp⟩:∃p,ps[jn]=p:=⟨_,rfl⟩
    have hT:=HP.out _ (aU hjl)
    have hat:=fun (k:Nat) (hk:k<6)=>(hrr.cell (jn*6+k)).trans (hd.at hjl k hk)
    have hmv:=hd.move hjl
    have hskp:=hd.skip hjl
    rw[hp] at hT hat hmv hskp
    have hTr:iM wr (fun x=>some cg=some x) p.2 p.1.path:=cZ.keep hT fun g' hg hl hn=>⟨hkr.block g' hl (fun e=>hn (by rw[e];rfl)),fun e=>hn e⟩
    have d0:=hat 0 (by omega);have d1:=hat 1 (by omega);have d2:=hat 2 (by omega);have d3:=hat 3 (by omega);have d4:=hat 4 (by omega);have d5:=hat 5 (by omega)
    have hb2:=aJ wr (.cells #[.string p.1.token,p.2,.bool p.1.deep,.bool p.1.excl,.string p.1.owner,.int .i64 p.1.till] 24)
    have hn2:=aM wr (.cells #[.string p.1.token,p.2,.bool p.1.deep,.bool p.1.excl,.string p.1.owner,.int .i64 p.1.till] 24)
    have hbl:=hrr.lt
    obtain⟨w2,hw2⟩:∃w2:World,Hid (wr.alloc (.cells #[.string p.1.token,p.2,.bool p.1.deep,.bool p.1.excl,.string p.1.owner,.int .i64 p.1.till] 24)=w2):=⟨_,af rfl⟩
    rw[hw2.out] at hb2 hn2
    have hq2:=HQ.out w2 ((Keep.mono hkr fun g' _ e=>by rw[e];rfl).trans (Keep.of_below hb2 _) (fun _ _ e=>e))
    have hcc:=HSO.out p.1 p.2 _ w2 hq2 (cZ.below hTr hb2)
    unfold sO at hcc
    obtain⟨gb,hgb⟩:∃gb:Nat,Hid (wr.heap.size=gb):=⟨_,af rfl⟩
    rw[hgb.out] at hn2
    have hone:=K5 p (by obtain⟨qo,qc,e,_⟩:=cZ.form hT;exact⟨_,_,_,e⟩)
    obtain⟨C,hC⟩:∃C,Hid (so p.1=C):=⟨_,af rfl⟩
    rw[hC.out] at hcc hmv hskp
    have HCC:=af hcc
    have HM:=af (ay hmv (ay hskp (ay hone (ay hn2 (ay hb2 (ay hkr (ay hrr hcr)))))))
    have hform:=cZ.form hT
    clear hcc hp hT hTr hmv hskp hone hn2 hb2 hat hkr hq2 hrr hcr hd
    obtain⟨⟨tk,pt,dp,ex,ow,ti⟩,qv⟩:=p
    dsimp only at d0 d1 d2 d3 d4 d5 HCC hC hform hw2
    obtain⟨qo,qc,rfl,_,_,_,_⟩:=hform
    simp only[kE,List.getElem?_cons_zero,dY,iA] at d0 d1 d2 d3 d4 d5
    go_upto_region 8 with (fail)
    rw[hw2.out,hgb.out]
    obtain⟨e0,e1,e2,e3,e4,e5,le⟩:=dD HM.out.2.2.2.1
    clear d0 d1 d2 d3 d4 d5 hbl
    cases C with
    |true=>
     go_wp2_with (first
      |((refine HCC.out.mono ?_);rintro e w3 ⟨rfl,hb3⟩;refine Stop.of ?_))
     refine Stop.on ?_
     have hb23:=HM.out.2.2.2.2.1.trans (hb3.mono HM.out.2.2.2.2.1.size)
     have HB3:=af hb23
     clear hb3 hb23 e0 e1 e2 e3 e4 e5
     go_wp2_with fail
     go_roundw
     case rel=>exact⟨jn+1,iN,cr,by omega,by go_num,rfl,HM.out.2.1 (by trivial),HM.out.2.2.2.2.2.2.1.keep (Keep.of_below HB3.out (fun _=>False)) id,HM.out.2.2.2.2.2.2.2,HM.out.2.2.2.2.2.1.trans (Keep.of_below HB3.out _) (fun _ _ e=>e)⟩
     case measure=>simp[intOf];omega
    |false=>
     go_wp2_with (first
      |((refine HCC.out.mono ?_);rintro e w3 ⟨rfl,hb3⟩;refine Stop.of ?_))
     refine Stop.on ?_
     have hb23:=HM.out.2.2.2.2.1.trans (hb3.mono HM.out.2.2.2.2.1.size)
     have HB3:=af hb23
     have hn3:=(hb3.block gb le).trans HM.out.2.2.2.1
     clear e0 e1 e2 e3 e4 e5 le
     obtain⟨e0,e1,e2,e3,e4,e5,le⟩:=dD hn3
     have hr3:Row w3 cg 24 cr:=HM.out.2.2.2.2.2.2.1.keep (Keep.of_below hb23 (fun _=>False)) id
     have hfit:iN*6+[Value.string tk,.slice qo pt.length qc,.bool dp,.bool ex,.string ow,.int .i64 ti].length<=cr.length:=by
      have h1:=HM.out.2.2.2.2.2.2.2
      have h2:=HR.out.1
      have h3:=HR.out.2.2.1
      simp only[aY,bG]
      omega
     have HFT:=af (ay hfit HM.out.2.2.1)
     clear hb3 hb23 hn3 hfit
     go_wp2_with (first
      |((refine dF rfl ?_);intro K hK;(refine wp_store_row 24 (.tmp 33) (.tmp 32) rfl cg (iN*6) 24 cr [Value.string tk,.slice qo pt.length qc,.bool dp,.bool ex,.string ow,.int .i64 ti] rfl rfl hr3 kX HFT.out.1 HFT.out.2 ?_);intro w4 hr4 hk4;refine hK _ _ ?_))
     have hl4:(splice cr (iN*6) [Value.string tk,.slice qo pt.length qc,.bool dp,.bool ex,.string ow,.int .i64 ti]).length=cur.length:=by
      rw[length_splice _ _ _ HFT.out.1];exact HM.out.2.2.2.2.2.2.2
     have HW:=af (ay hr4 (ay hk4 hl4))
     clear hr4 hk4 hl4 hr3 e0 e1 e2 e3 e4 e5
     go_roundw
     case rel=>exact⟨jn+1,iN+1,_,by omega,by go_num,by go_num,HM.out.1 (by trivial),HW.out.1,HW.out.2.2,(HM.out.2.2.2.2.2.1.trans (Keep.of_below HB3.out _) (fun _ _ e=>e)).trans HW.out.2.1 (fun _ _ e=>e)⟩
     case measure=>simp[intOf];omega
   ·obtain rfl:jn=ps.length:=by omega
    have x2:¬(ps.length:Int)<(ps.length:Int):=by omega
    have hil:iN<ps.length:=by obtain⟨_,_,_,h,_⟩:=hd;exact h
    have hcap:=HR.out.2.2.1
    have k1:(0:Int)<=(iN:Int):=by omega
    have k2:(iN:Int)<=(lc:Int):=by omega
    have k3:(iN:Int)<=(ps.length:Int):=by omega
    have k4:¬lc=iN:=by omega
    have hz:∀zs:List Value,zs.length=(ps.length - iN)*6->_:=fun zs hz=>hd.end hz
    have HE:=af (ay hz (ay hcr hkr))
    clear hz hcr hkr hd hcap
    go_wp2_with (first
     |((refine dF rfl ?_);intro K hK;(refine kM (.tmp 38) 26 rfl 24 6 72 _ Tryz.underlying26 yG rfl cg (iN*6) 24 (ps.length - iN) _ (some ⟨cg,iN*6,none⟩) _ rfl hrr (fun _=>rfl) ?_ ?_ ?_);(focus (rw[HE.out.2.1,HR.out.1];have:=HR.out.2.2.1;omega));(focus (exact jE _ _ (by simp[Value.cells,Value.oneCell']) (by simp[Value.cells])));intro w2 zs hz hr2 hk2;refine hK _ _ ?_))
    go_ret
    obtain⟨q1,q2,q3,q4⟩:=HE.out.1 zs hz
    refine⟨_,rfl,?_,rfl,?_⟩
    ·rw[<-q1,<-q2]
     exact Row.own hr2 iN (by rw[q4,HE.out.2.1,HR.out.1]) HR.out.2.1 (fun e=>e) (by have:=HR.out.2.2.1;omega) HR.out.2.2.2
    ·exact(HE.out.2.2.trans hk2 (fun _ _ e=>e)).mono fun g' _ e=>by rw[e];rfl
end Go.Proofs.YtpgdljlghiifjaaGreatDoor
namespace Go.Proofs.YtpgdljlghiifjaaGreatDoor
open Go.RowKit Go.Shelf
structure vB (w:World)(B b:Nat)(l:List UInt8):Prop where
 lo:B<=b
 at_:∃p v,(p= .pointer none\/p= .pointer (some ⟨b,0,none⟩))/\w.heap[b]? =some (.cells #[p,v] 121 (0,0))/\aS w fC B 5 1 v l.length (aK l)
theorem RO:liesAt Tryz.prog Tryz.prog.depth 121 (2/Tryz.prog.cellsOf 121) 0 119 1=true:=by kernel_rfl
theorem FC (B b:Nat)(l:List UInt8)(w:World)(h:vB w B b l):
  Calls Tryz.prog 159 #[.pointer (some ⟨b,0,none⟩)] w fun e w'=>e= .returned (.tuple #[])/\(∃v,w'.heap[b]? =some (.cells #[.pointer (some ⟨b,0,none⟩),v] 121 (0,0))/\aS w' fC B 5 1 v l.length (aK l))/\Keep (· =b) w w':=by
 obtain⟨h2,p,v,h3,h4,h5⟩:=h
 rcases h3 with rfl|rfl
 ·obtain⟨j,hj,hjs⟩:=Option.map_eq_some_iff.1 qU.sizeBuilder
  have c0:w.cell? ⟨b,0,none⟩=some (.pointer none):=by simp[World.cell?,h4]
  have hsh:w.shape? b=some (121,2):=by simp[World.shape?,h4]
  have f0:w.frozen? ⟨b,0,none⟩=false:=by simp[World.frozen?,h4]
  have lt:=(ah.1 h4).1
  go_enter Tryz.func159,Tryz.ntmps159
  go_wp2
  rw[Lib.run_to_unsafe w ⟨b,0,none⟩ Tryz.underlying117 Tryz.underlying302 hj (by rw[hjs];decide) hsh (Nat.zero_lt_succ 1)]
  simp only[Result.andThen]
  rw[Oper.upon_value]
  go_wp2
  rw[qJ Tryz.func196 (by kernel_rfl) (by kernel_rfl) (by kernel_rfl) (e:=Extern.AbiNoEscape.same) (by kernel_rfl)]
  rw[Lib.run_noEscape]
  simp only[Result.andThen]
  rw[Oper.upon_value]
  go_wp2
  rw[Lib.run_from_unsafe w ⟨b,0,none⟩ Tryz.underlying302 Tryz.underlying117 hj hsh RO]
  simp only[Result.andThen]
  rw[Oper.upon_value]
  go_wp2
  go_end0
  have hk:Keep (· =b) w (w.setCell ⟨b,0,none⟩ (.pointer (some ⟨b,0,none⟩))):=(Keep.refl (· =b) _).setCell (p:=⟨b,0,none⟩) (.inr rfl) _
  exact⟨rfl,⟨v,by simp[World.setCell,bf,h4],h5.keep fun g hg hl hs=>⟨hk.block g hl (fun e=>h5.ne h4 (by decide) (by rw[hg,e])),hs⟩⟩,hk⟩
 ·refine(Any.Builder_copyCheck_used yQ qU.toX72 b w (by simp[World.cell?,h4])).mono ?_
  rintro e w' ⟨rfl,rfl⟩
  exact⟨rfl,⟨v,h4,h5⟩,Keep.refl _ _⟩
theorem MV {B b n:Nat}{w1 w3:World}{ao:Option Addr}{c:Nat}{v:Value}{l:List UInt8}(hlo:B<=b)(hb:w3.heap[b]? =some (.cells #[.pointer (some ⟨b,0,none⟩),v] 121 (0,0)))(ho:aS w3 fC B 5 1 (.slice ao n c) n (aK l))(hn:n=l.length)(hb3:Below B w1 w3):
  vB (w3.setCell ⟨b,1,none⟩ (.slice ao n c)) B b l/\Below B w1 (w3.setCell ⟨b,1,none⟩ (.slice ao n c)):=by
 subst hn
 have hk:Keep (· =b) w3 (w3.setCell ⟨b,1,none⟩ (.slice ao l.length c)):=(Keep.refl (· =b) _).setCell (p:=⟨b,1,none⟩) (.inr rfl) _
 exact⟨⟨hlo,_,_,.inr rfl,by simp[World.setCell,bf,hb],ho.keep fun g hg hl hs=>⟨hk.block g hl (fun e=>ho.ne hb (by decide) (by rw[hg,e])),hs⟩⟩,hb3.setCell (p:=⟨b,1,none⟩) hlo _⟩
theorem O5 (B b:Nat)(l:List UInt8)(c:Int)(w:World)(h:vB w B b l)(hB:B<=w.heap.size)(hl:l.length<=1000000)(hc:0<=c/\c<=255):
  Calls Tryz.prog 116 #[.pointer (some ⟨b,0,none⟩),.int .u8 c] w fun e w'=>e= .returned .nilIface/\vB w' B b (l++[UInt8.ofNat c.toNat])/\Below B w w':=by
 have HC:=af (FC B b l w h)
 have hlo:=h.lo
 clear h
 go_enter Tryz.func116,Tryz.ntmps116
 go_wp2_with (first
  |(go_at_call 159;go_must (refine HC.out.mono ?_;rintro e w1 ⟨rfl,⟨v,hobj,hown⟩,hk1⟩;refine Stop.of ?_)))
 refine Stop.on ?_
 obtain⟨ao,cc,rfl,_,_,_,_⟩:=bE.form hown.dH
 have hbw1:Below B w w1:=hk1.fK hB (fun g hg e=>by have e:g=b:=e;omega)
 have hB1:=aH hB hk1.size
 have c1:w1.cell? ⟨b,1,none⟩=some (.slice ao l.length cc):=by simp[World.cell?,hobj]
 have lt:=(ah.1 hobj).1
 go_wp2_with (first
  |(at_builtin;go_must ((refine dK rfl (.tmp 11) (.tmp 13) 101 101 rfl fC B 5 1 1 (.int .u8 0) Tryz.underlying101 jC rfl (.slice ao l.length cc) _ _ rfl (hown.below (aJ _ _)) _ 1 _ rfl (gI [_] _ 1 1 1 (by simp) Tryz.underlying101 rfl ?_) (fun _ h=>h.elim) ?_ ?_ ?_ ?_);(focus (simp[Value.oneCell']));(focus (simp only[aW];omega));(focus (unfold maxLen;omega));(focus omega);intro ao3 c3 w3 hown3 hk3 hb3 hd3;refine Stop.of ?_)))
 refine Stop.on ?_
 have hob3:=(hk3.block b (by simp;omega) (fun e=>by
  have:=hown.ne hobj (by decide)
  exact this e)).trans ((aJ w1 _).block b lt|>.trans hobj)
 have d1:w3.cell? ⟨b,1,none⟩=some (.slice ao l.length cc):=by simp[World.cell?,hob3]
 have df:w3.frozen? ⟨b,1,none⟩=false:=by simp[World.frozen?,hob3]
 have dl:=(ah.1 hob3).1
 have hcc:aK l++[Value.int .u8 c]=aK (l++[UInt8.ofNat c.toNat]):=by
  rw[gy]
  congr 1
  simp[aK]
  omega
 rw[hcc] at hown3
 have HE:=af (MV (w1:=w) hlo hob3 hown3 (by simp) ((hbw1.trans ((aJ w1 _).mono hB1)).trans hb3))
 clear hown3 hcc
 go_wp2_with fail
 go_ret
 exact⟨rfl,HE.out⟩
theorem QE (B b:Nat)(l:List UInt8)(s:ByteArray)(w:World)(h:vB w B b l)(hB:B<=w.heap.size)(hl:l.length<=1000000)(hs:s.size<=1000000):
  Calls Tryz.prog 117 #[.pointer (some ⟨b,0,none⟩),.string s] w fun e w'=>e= .returned (.tuple #[.int .i64 s.size,.nilIface])/\vB w' B b (l++s.data.toList)/\Below B w w':=by
 have HC:=af (FC B b l w h)
 have hlo:=h.lo
 clear h
 go_enter Tryz.func117,Tryz.ntmps117
 go_wp2_with (first
  |(go_at_call 159;go_must (refine HC.out.mono ?_;rintro e w1 ⟨rfl,⟨v,hobj,hown⟩,hk1⟩;refine Stop.of ?_)))
 refine Stop.on ?_
 obtain⟨ao,cc,rfl,_,_,_,_⟩:=bE.form hown.dH
 have hbw1:Below B w w1:=hk1.fK hB (fun g hg e=>by have e:g=b:=e;omega)
 have hB1:=aH hB hk1.size
 have c1:w1.cell? ⟨b,1,none⟩=some (.slice ao l.length cc):=by simp[World.cell?,hobj]
 have lt:=(ah.1 hobj).1
 have hsl:s.data.toList.length=s.size:=by show s.data.toList.length=s.data.size;simp
 go_wp2_with (first
  |(at_builtin;go_must ((refine dK rfl (.tmp 12) (.tmp 13) 101 9 rfl fC B 5 1 1 (.int .u8 0) Tryz.underlying101 jC rfl (.slice ao l.length cc) _ _ rfl hown (.string s) _ _ rfl (Jz _ Tryz.underlying9 _) (fun _ h=>h.elim) ?_ ?_ ?_ ?_);(focus omega);(focus (unfold maxLen;omega));(focus omega);intro ao3 c3 w3 hown3 hk3 hb3 hd3;refine Stop.of ?_)))
 refine Stop.on ?_
 have hob3:=(hk3.block b lt (hown.ne hobj (by decide))).trans hobj
 have d1:w3.cell? ⟨b,1,none⟩=some (.slice ao l.length cc):=by simp[World.cell?,hob3]
 have df:w3.frozen? ⟨b,1,none⟩=false:=by simp[World.frozen?,hob3]
 have dl:=(ah.1 hob3).1
 have hown4:aS w3 fC B 5 1 (.slice ao3 (l.length+s.size) c3) (l.length+s.size) (aK (l++s.data.toList)):=by rw[gy];exact hown3
 have HE:=af (MV (w1:=w) hlo hob3 hown4 (by rw[aC,hsl]) (hbw1.trans hb3))
 clear hown3 hown4
 go_wp2_with fail
 go_ret2
 exact⟨rfl,HE.out⟩
theorem O3 (l:List UInt8)(v:Int)(k:Nat)(hk:k<8):l++(lu v).take k++[UInt8.ofNat (v/(256^k:Nat)%256).toNat]=l++(lu v).take (k+1):=by
 rw[aL,aI (by rw[fT];exact hk)]
 congr 2
 simp[lu]
theorem QI (v:Int)(k:Nat)(hk:k<8):v/2^(8*(k:Int)).toNat=v/((256^k:Nat):Int):=by
 have h:k=0\/k=1\/k=2\/k=3\/k=4\/k=5\/k=6\/k=7:=by omega
 rcases h with rfl|rfl|rfl|rfl|rfl|rfl|rfl|rfl<;>rfl
theorem AO (B b:Nat)(l:List UInt8)(v:Int)(w:World)(h:vB w B b l)(hB:B<=w.heap.size)(hl:l.length<=900000):
  Calls Tryz.prog 67 #[.pointer (some ⟨b,0,none⟩),.int .i64 v] w fun e w'=>e= .returned (.pointer (some ⟨b,0,none⟩))/\vB w' B b (l++lu v)/\Below B w w':=by
 have H:=af h
 clear h
 go_enter Tryz.func67,Tryz.ntmps67
 go_upto_region 2 with fail
 go_loopw [5,6] (fun _ i wr=>∃k:Nat,k<=8/\i= .int .i64 k/\vB wr B b (l++(lu v).take k)/\Below B w wr) (fun _ i _=>8 - (intOf i).toNat)
 case atStart=>exact⟨0,by omega,rfl,by rw[gH,dP];exact H.out,aN _ _⟩
 case round=>
  obtain⟨k,hk,rfl,hP,hbw⟩:=hrel
  have HP:=af (ay hP hbw)
  clear hP hbw
  by_cases hk8:k<8
  ·have hkl:(k:Int)<8:=by omega
   have hlen:(l++(lu v).take k).length<=1000000:=by rw[aC,aF];omega
   have hwd:vB wr.drew B b (l++(lu v).take k):=⟨HP.out.1.lo,HP.out.1.at_⟩
   have hBr:B<=wr.drew.heap.size:=aH hB HP.out.2.size
   have hc:=O5 B b (l++(lu v).take k) (v/(256^k:Nat)%256) wr.drew hwd hBr hlen ⟨Int.emod_nonneg _ (by decide),by have:=OJ (v/(256^k:Nat)) (show (0:Int)<256 by decide);omega⟩
   rw[O3 l v k hk8] at hc
   have HC:=af hc
   clear hc hwd hlen hBr
   have hm:IntKind.i64.wrap (8*(k:Int))=8*(k:Int):=by rw[iy];omega
   have he0:IntKind.u8.wrap (v/2^(8*(k:Int)).toNat)=v/((256^k:Nat):Int)%256:=by rw[<-QI v k hk8,yX]
   obtain⟨q,hq⟩:∃q,Hid (v/((256^k:Nat):Int)=q):=⟨_,af rfl⟩
   rw[hq.out] at he0 HC
   have he:=af he0
   clear he0
   have hk0:=hk8
   clear hk8
   go_wp2_with fail
   refine aQ (fun W=>W=wr.drew) (fun i=> !([8].contains i)) [0,1,2,3,4,5,6,7,8] rfl (by kernel_rfl) rfl ?_
   repeat ((refine bP (v:= ?_) rfl rfl (fun _ _ _ h=>h) rfl (fun W hW=> ?_) ?_);rotate_left;(focus ((try dsimp only at hW);subst hW;(go_simp;first|done|with_reducible rfl)));(try simp only[Act.put,aj,ax,au]))
   refine jg rfl rfl rfl (by kernel_rfl) ?_;intro K hK;go_simp
   rw[he.out]
   refine HC.out.mono ?_;rintro e w4 ⟨rfl,hP4,hb4⟩
   refine hK.out _ _ ?_
   refine bU ?_
   have HP4:=af (ay hP4 (HP.out.2.trans ((aN B wr).drew.trans hb4)))
   clear hP4 hb4 hm
   go_wp2_with fail
   go_roundw
   case rel=>exact⟨k+1,by omega,by go_num,HP4.out.1,HP4.out.2⟩
   case measure=>simp[intOf];omega
  ·obtain rfl:k=8:=by omega
   go_wp2_with fail
   go_ret
   have e:(lu v).take 8=lu v:=aO (by rw[fT];exact aG 8)
   rw[e] at HP
   exact⟨rfl,HP.out⟩
theorem JQ (B b:Nat)(l:List UInt8)(s:ByteArray)(w:World)(h:vB w B b l)(hB:B<=w.heap.size)(hl:l.length<=800000)(hs:s.size<=10000):
  Calls Tryz.prog 69 #[.pointer (some ⟨b,0,none⟩),.string s] w fun e w'=>e= .returned (.pointer (some ⟨b,0,none⟩))/\vB w' B b (l++lD s)/\Below B w w':=by
 have HN:=af (AO B b l s.size w h hB (by omega))
 clear h
 go_enter Tryz.func69,Tryz.ntmps69
 go_wp2_with (first
  |(go_at_call 67;go_must (refine HN.out.mono ?_;rintro e w1 ⟨rfl,hP1,hb1⟩;refine Stop.of ?_)))
 refine Stop.on ?_
 have HS:=af (QE B b _ s w1 hP1 (aH hB hb1.size) (by rw[aC,fT];omega) (by omega))
 have HB1:=af hb1
 have HL:=af (ay hl hs)
 clear hP1 hb1 hl hs
 go_wp2_with (first
  |(go_at_call 117;go_must (refine HS.out.mono ?_;rintro e w2 ⟨rfl,hP2,hb2⟩)))
 go_ret
 refine⟨rfl,?_,HB1.out.trans hb2⟩
 unfold lD
 rw[<-aL]
 exact hP2
theorem KO (B b:Nat)(l:List UInt8)(w:World)(h:vB w B b l)(h0:l≠[]):
  Calls Tryz.prog 118 #[.pointer (some ⟨b,0,none⟩)] w fun e w'=>e= .returned (.string ⟨l.toArray⟩)/\Below B w w':=by
 have L:=Aj
 have X:=qU
 obtain⟨hlo,p,v,_,hbk,hO⟩:=h
 have hown:=hO.1
 have hl0:l.length≠0:=by simpa using h0
 obtain⟨g,cap,cur,rfl,hbg,hg,hnc,hcm,hcs,htake⟩:∃g cap cur,v= .slice (some ⟨g,0,none⟩) l.length cap/\B<=g/\w.heap[g]? =some (.cells cur (yR.t 5) (0,0))/\l.length<=cap/\cap<=maxLen/\cur.size=cap*1/\cur.toList.take (l.length*1)=Lib.byteCells l:=by
  rcases hown.2 with ⟨_,hz⟩|⟨g,cap,cur,hv,r⟩
  ·exact absurd hz hl0
  ·exact⟨g,cap,cur,hv,r⟩
 have c1:w.drew.cell? ⟨b,1,none⟩=some (.slice (some ⟨g,0,none⟩) l.length cap):=by
  have:w.drew.heap[b]? =some (.cells #[p,.slice (some ⟨g,0,none⟩) l.length cap] 121 (0,0)):=hbk
  rw[Lib.cell_of_heap this];rfl
 have hSD:(Builtin.unsafeSliceData_ #[101] 264 #[.slice (some ⟨g,0,none⟩) l.length cap]).run Tryz.prog w.drew= .ok (.pointer (some ⟨g,0,none⟩)) w.drew:=
  Lib.run_unsafeSliceData_row _ _ _ _ _ _ (by omega)
 have hUS:(Builtin.unsafeString_ #[264,3] 9 #[.pointer (some ⟨g,0,none⟩),.int .i64 l.length]).run Tryz.prog w.drew= .ok (.string ⟨l.toArray⟩) (w.drew.freeze ⟨g,0,none⟩ l.length):=by
  refine Lib.run_unsafeString_row w.drew 264 3 9 (yR.t 5) L.t127 X.cellsByte g cur.size (by have hg':w.drew.heap[g]? =some (.cells cur (yR.t 5) (0,0)):=hg;simp[World.shape?,hg']) l h0 (by omega) (by unfold maxLen at hcm;omega) ?_
  intro j x hx
  have:=hown.cells (g:=g) rfl j (.int .u8 x.toNat) (by simp[aK,hx])
  exact this
 clear hO hown
 have mixed:=L.mixed
 go_enter Tryz.func118,Tryz.ntmps118
 go_wp2
 go_region_o
 all_goals (go_wp2;go_ret;exact⟨rfl,Lib.below_freeze (Below.drew (aN B w)) (p:=⟨g,0,none⟩) hbg _⟩)
theorem O4 (B b:Nat)(l:List UInt8)(w:World)(h:vB w B b l)(h0:l≠[]):
  Calls Tryz.prog 70 #[.pointer (some ⟨b,0,none⟩)] w fun e w'=>e= .returned (.string ⟨l.toArray⟩)/\Below B w w':=by
 have HS:=af (KO B b l w h h0)
 clear h
 go_enter Tryz.func70,Tryz.ntmps70
 go_wp2_with (first
  |(go_at_call 118;go_must (refine HS.out.mono ?_;rintro e w1 ⟨rfl,hb1⟩)))
 go_ret
 exact⟨rfl,hb1⟩
end Go.Proofs.YtpgdljlghiifjaaGreatDoor
namespace Go.Proofs.YtpgdljlghiifjaaGreatDoor
open Go.RowKit
theorem J2 (b:Bool)(w:World):Calls Tryz.prog 68 #[.bool b] w fun e w'=>e= .returned (.int .i64 (nW b))/\w'=w:=by
 go_enter Tryz.func68,Tryz.ntmps68
 cases b with
 |true=>
  go_wp2
  go_ret
  exact⟨rfl,rfl⟩
 |false=>
  go_wp2
  go_ret
  exact⟨rfl,rfl⟩
theorem RN (t:Nat)(w:World):Calls Tryz.prog 25 #[.pointer (some ⟨t,0,none⟩)] w fun e w'=>e= .returned (.pointer (some ⟨w.heap.size,0,none⟩))/\w'.heap[w.heap.size]? =some (.cells #[.pointer (some ⟨t,0,none⟩)] 69 (0,0))/\Below w.heap.size w w':=by
 go_enter Tryz.func25,Tryz.ntmps25
 go_wp2
 go_ret
 exact⟨rfl,aM w _,aJ w _⟩
theorem Di (l:aT)(pv:Value)(T:Nat->Prop)(w:World)(hp:iM w T pv l.path)(hf:l.Fit):
  Calls Tryz.prog 39 #[sO l pv] w fun e w'=>e= .returned (.string (strOf l.enc))/\Below w.heap.size w w':=by
 obtain⟨tk,pt,dp,ex,ow,ti⟩:=l
 obtain⟨h1,h2,h3,h4,h5⟩:=hf
 dsimp only at hp h1 h2 h3 h4 h5
 obtain⟨po,pc,rfl,hn1,hn2,_,_⟩:=cZ.form hp
 have hbA:=aJ w (.cells #[.string tk,.slice po pt.length pc,.bool dp,.bool ex,.string ow,.int .i64 ti] 24)
 have hnA:=aM w (.cells #[.string tk,.slice po pt.length pc,.bool dp,.bool ex,.string ow,.int .i64 ti] 24)
 obtain⟨wA,hwA⟩:∃wA:World,Hid (w.alloc (.cells #[.string tk,.slice po pt.length pc,.bool dp,.bool ex,.string ow,.int .i64 ti] 24)=wA):=⟨_,af rfl⟩
 rw[hwA.out] at hbA hnA
 obtain⟨lb,hlb⟩:∃lb:Nat,Hid (w.heap.size=lb):=⟨_,af rfl⟩
 have HB0:=af hbA
 have HP:=af (cZ.below hp hbA)
 rw[hlb.out] at hnA
 obtain⟨e0,e1,e2,e3,e4,e5,le⟩:=dD hnA
 have HF:=af (ay h1 (ay h2 (ay h3 (ay h4 h5))))
 clear hbA hp hnA h1 h2 h3 h4 h5
 unfold sO
 dsimp only
 go_enter Tryz.func39,Tryz.ntmps39
 go_upto_region 1 with (fail)
 rw[hwA.out,hlb.out]
 refine aQ (fun W=>Below wA.heap.size wA W) (fun i=> !([0,3,6,7,10,11,14,18].contains i)) [1,2,4,5,8,9,12,13,15,16,17,0,3,6,7,10,11,14,18,19] rfl (by kernel_rfl) ((aN _ wA).drew) ?_
 repeat ((refine bP (v:= ?_) rfl rfl (fun _ _ _ h=>h) rfl (fun W hW=> ?_) ?_);rotate_left;(focus ((try dsimp only at hW);have q1:=(hW.cell (p:=⟨lb,1,none⟩) le).trans e1;have q2:=(hW.cell (p:=⟨lb,2,none⟩) le).trans e2;have q3:=(hW.cell (p:=⟨lb,3,none⟩) le).trans e3;have q4:=(hW.cell (p:=⟨lb,4,none⟩) le).trans e4;have q5:=(hW.cell (p:=⟨lb,5,none⟩) le).trans e5;have q6:=ak le hW.size;(go_simp;first|done|with_reducible rfl)));(try simp only[Act.put,aj,ax,au]))
 refine dA rfl rfl rfl ?_;intro K hK;go_simp
 have hbW:=(aJ wA (.cells #[.pointer none,.slice none 0 0] 121)).drew
 have hP0:vB (wA.alloc (.cells #[.pointer none,.slice none 0 0] 121)).drew wA.heap.size wA.heap.size []:=⟨aG _,_,_,.inl rfl,aM wA _,aS.nil _ _ _ _ _⟩
 refine hK.out _ _ hbW ?_
 (try simp only[Act.put,aj,ax,au])
 have hbs:=hbW.size
 generalize (wA.alloc (.cells #[.pointer none,.slice none 0 0] 121)).drew=w1 at hP0 hbW hbs ⊢
 obtain⟨gb,hgb⟩:∃gb:Nat,Hid (wA.heap.size=gb):=⟨_,af rfl⟩
 rw[hgb.out] at hP0 hbs hbW
 rw[hgb.out]
 have HP0:=af hP0
 clear hP0
 refine dA rfl rfl rfl ?_;intro K hK;go_simp
 refine(AO gb gb _ ti w1 HP0.out hbs (by simp)).mono ?_;rintro e w2 ⟨rfl,hP2,hb2⟩
 have hbW2:Below gb wA w2:=hbW.trans hb2
 have hbs2:gb<=w2.heap.size:=aH (fD hgb.out.symm) hbW2.size
 refine hK.out _ _ hbW2 ?_
 (try simp only[Act.put,aj,ax,au])
 refine dA rfl rfl rfl ?_;intro K hK;go_simp
 refine(J2 dp _).mono ?_;rintro e w' ⟨rfl,hw⟩;rw[hw]
 refine hK.out _ _ hbW2 ?_
 (try simp only[Act.put,aj,ax,au])
 refine dA rfl rfl rfl ?_;intro K hK;go_simp
 refine(AO gb gb _ (nW dp) w2 hP2 hbs2 (by simp[fT,jV]<;>(have:=HF.out.2.2.2.1;omega))).mono ?_;rintro e w3 ⟨rfl,hP3,hb3⟩
 have hbW3:Below gb wA w3:=hbW2.trans hb3
 have hbs3:gb<=w3.heap.size:=aH (fD hgb.out.symm) hbW3.size
 refine hK.out _ _ hbW3 ?_
 (try simp only[Act.put,aj,ax,au])
 refine dA rfl rfl rfl ?_;intro K hK;go_simp
 refine(J2 ex _).mono ?_;rintro e w' ⟨rfl,hw⟩;rw[hw]
 refine hK.out _ _ hbW3 ?_
 (try simp only[Act.put,aj,ax,au])
 refine dA rfl rfl rfl ?_;intro K hK;go_simp
 refine(AO gb gb _ (nW ex) w3 hP3 hbs3 (by simp[fT,jV]<;>(have:=HF.out.2.2.2.1;omega))).mono ?_;rintro e w4 ⟨rfl,hP4,hb4⟩
 have hbW4:Below gb wA w4:=hbW3.trans hb4
 have hbs4:gb<=w4.heap.size:=aH (fD hgb.out.symm) hbW4.size
 refine hK.out _ _ hbW4 ?_
 (try simp only[Act.put,aj,ax,au])
 refine dA rfl rfl rfl ?_;intro K hK;go_simp
 refine(JQ gb gb _ ow w4 hP4 hbs4 (by simp[fT,jV]) (by have:=HF.out.2.2.2.1;omega)).mono ?_;rintro e w5 ⟨rfl,hP5,hb5⟩
 have hbW5:Below gb wA w5:=hbW4.trans hb5
 have hbs5:gb<=w5.heap.size:=aH (fD hgb.out.symm) hbW5.size
 refine hK.out _ _ hbW5 ?_
 (try simp only[Act.put,aj,ax,au])
 refine dA rfl rfl rfl ?_;intro K hK;go_simp
 refine(AO gb gb _ pt.length w5 hP5 hbs5 (by simp[fT,jV]<;>(have:=HF.out.2.2.2.1;omega))).mono ?_;rintro e w6 ⟨rfl,hP6,hb6⟩
 have hbW6:Below gb wA w6:=hbW5.trans hb6
 have hbs6:gb<=w6.heap.size:=aH (fD hgb.out.symm) hbW6.size
 refine hK.out _ _ hbW6 ?_
 (try simp only[Act.put,aj,ax,au])
 repeat ((refine bP (v:= ?_) rfl rfl (fun _ _ _ h=>h) rfl (fun W hW=> ?_) ?_);rotate_left;(focus ((try dsimp only at hW);skip;(go_simp;first|done|with_reducible rfl)));(try simp only[Act.put,aj,ax,au]))
 refine bU ?_
 have hl0:([]++lu ti++lu (nW dp)++lu (nW ex)++lD ow++lu pt.length).length<=600:=by
  simp only[aC,fT,jV,bG]
  have:=HF.out.2.2.2.1
  omega
 generalize hL:[]++lu ti++lu (nW dp)++lu (nW ex)++lD ow++lu pt.length=L0 at hP6 hl0
 have HL:=af (ay hL hl0)
 have HP6:=af (ay hP6 hbW6)
 have hl6:lb<gb:=hgb.out▸le
 have q1:w6.cell? ⟨lb,1,none⟩=some (.slice po pt.length pc):=(hbW6.cell (p:=⟨lb,1,none⟩) hl6).trans e1
 have q2:lb<w6.heap.size:=ak le hbW6.size
 clear hl6 e0 e1 e2 e3 e4 e5 le
 clear hP2 hP3 hP4 hP5 hP6 hb2 hb3 hb4 hb5 hb6 hbW2 hbW3 hbW4 hbW5 hbW6 hbs2 hbs3 hbs4 hbs5 hbs6 hbW hbs hL hl0
 go_wp2_with fail
 go_loopw [5,28] (fun _ i wr=>∃k:Nat,k<=pt.length/\i= .int .i64 k/\vB wr gb gb (L0++(pt.take k).flatMap lD)/\Below gb wA wr) (fun _ i _=>pt.length - (intOf i).toNat)
 case atStart=>exact⟨0,aV _,rfl,by rw[gH,pG,dP];exact HP6.out.1,HP6.out.2⟩
 case round=>
  obtain⟨k,hk,rfl,hPk,hbk⟩:=hrel
  by_cases hkl:k<pt.length
  ·have hkl':(k:Int)<(pt.length:Int):=by omega
   have hbk':Below wA.heap.size wA wr:=hgb.out▸hbk
   obtain⟨ga,oa,rfl,da⟩:=cZ.yT (cZ.below HP.out hbk') rfl k (.string pt[k]) (by rw[dh,aZ hkl];rfl)
   have la:=aD wr _ da
   have htk:(pt.take (k+1)).flatMap lD=(pt.take k).flatMap lD++lD pt[k]:=by rw[aI hkl,iV];simp
   have hsz:=HF.out.2.2.1 pt[k] (aU hkl)
   have hlen:=CK (pt.take k) (fun s hs=>HF.out.2.2.1 s (eD hs))
   obtain⟨sg,hsg⟩:∃sg,Hid (pt[k]=sg):=⟨_,af rfl⟩
   rw[hsg.out] at da htk hsz
   have HT:=af (JQ gb gb _ sg wr hPk (aH (fD hgb.out.symm) hbk.size) (by have:=HL.out.2;have:=HF.out.2.1;rw[aC];rw[aF] at hlen;omega) (by omega))
   have HX:=af (ay htk hbk)
   clear hPk hbk hbk' htk hsz hlen
   go_wp2_with (first
    |(go_at_call 69;go_must (refine HT.out.mono ?_;rintro e w7 ⟨rfl,hP7,hb7⟩)))
   have HP7:=af (ay hP7 hb7)
   clear hP7 hb7
   go_roundw
   case rel=>exact⟨k+1,by omega,by go_num,by rw[HX.out.1,<-aL];exact HP7.out.1,HX.out.2.trans HP7.out.2⟩
   case measure=>simp[intOf];omega
  ·obtain rfl:k=pt.length:=by omega
   have x2:¬(pt.length:Int)<(pt.length:Int):=by omega
   rw[bO] at hPk
   have hne:L0++pt.flatMap lD≠[]:=by
    rw[<-HL.out.1]
    intro e
    have:=congrArg List.length e
    simp only[aC,fT,jV,bG] at this
    omega
   have HD:=af (O4 gb gb _ wr hPk hne)
   have HX:=af (ay hbk hgb.out)
   clear hPk hbk hne
   go_wp2_with (first
    |(go_at_call 70;go_must (refine HD.out.mono ?_;rintro e w7 ⟨rfl,hb7⟩)))
   go_ret
   refine⟨?_,?_⟩
   ·rw[<-HL.out.1]
    simp only[aT.enc,strOf,gF,aL]
    rfl
   ·have h1:=HX.out.1.trans hb7
    rw[<-hgb.out] at h1
    have h0:=HB0.out
    exact h0.trans (h1.mono h0.size)
end Go.Proofs.YtpgdljlghiifjaaGreatDoor
