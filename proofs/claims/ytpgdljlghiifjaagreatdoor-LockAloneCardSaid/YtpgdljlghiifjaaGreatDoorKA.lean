/- parts -/
import Derived.Test.YtpgdljlghiifjaaGreatDoorK1
import Derived.Test.YtpgdljlghiifjaaGreatDoorK2
import Derived.Test.YtpgdljlghiifjaaGreatDoorK3
import Derived.Test.YtpgdljlghiifjaaGreatDoorK4
import Derived.Test.YtpgdljlghiifjaaGreatDoorK5
import Derived.Test.YtpgdljlghiifjaaGreatDoorK6
import Derived.Test.YtpgdljlghiifjaaGreatDoorK7
import Derived.Test.YtpgdljlghiifjaaGreatDoorK8
import Derived.Test.YtpgdljlghiifjaaGreatDoorK9
import Derived.Test.YtpgdljlghiifjaaGreatDoorK10
import Derived.Test.YtpgdljlghiifjaaGreatDoorK11
import Derived.Test.YtpgdljlghiifjaaGreatDoorK12
import Derived.Test.YtpgdljlghiifjaaGreatDoorK13
import Derived.Test.YtpgdljlghiifjaaGreatDoorK14
import Derived.Test.YtpgdljlghiifjaaGreatDoorK15
import Derived.Test.YtpgdljlghiifjaaGreatDoorK16
import Derived.Test.YtpgdljlghiifjaaGreatDoorK17
import Derived.Test.YtpgdljlghiifjaaGreatDoorK18
import Derived.Test.YtpgdljlghiifjaaGreatDoorK19
import Derived.Test.YtpgdljlghiifjaaGreatDoorK20
import Derived.Test.YtpgdljlghiifjaaGreatDoorK21
import Derived.Test.YtpgdljlghiifjaaGreatDoorK22
import Derived.Test.YtpgdljlghiifjaaGreatDoorK23
import Derived.Test.YtpgdljlghiifjaaGreatDoorK24
import Derived.Test.YtpgdljlghiifjaaGreatDoorK25
import Derived.Test.YtpgdljlghiifjaaGreatDoorK26
import Derived.Test.YtpgdljlghiifjaaGreatDoorK27
import Derived.Laws.ResultCell
import Derived.Deep.CutRange
import Derived.Deep.Slices
import Derived.Lib.SmallJoins
set_option maxRecDepth 100000
set_option maxHeartbeats 8000000
set_option linter.all false
namespace Go.Proofs.YtpgdljlghiifjaaGreatDoor
open Go.RowKit Go.Shelf
def kL:List Value:=[.string ⟨#[]⟩,.slice none 0 0,.bool false,.bool false,.string ⟨#[]⟩,.int .i64 0]
theorem qN:∀u∈kL,u.oneCell'=true:=by
 intro u hu
 simp only[kL,bL,pE,oW] at hu
 rcases hu with rfl|rfl|rfl|rfl|rfl|rfl<;>rfl
theorem jF {w:World}{g:Nat}{cs:List Value}(h:Row w g 24 cs)(hl:cs.length=6):(loadVar 24 ⟨g,0,none⟩).run Tryz.prog w= .ok (.agg cs.toArray) w:=by
 refine run_loadVar_row w g 24 24 _ (0,0) _ h Tryz.underlying24 rfl ?_
 rw[kX]
 simp[hl]
theorem gT {fn:Func}{p q:Tmp}{ty:TypeId}(h:fn.results=#[.cell p ty,.tmp q])(tmps:Array Value)(w:World)(g:Nat)(y x:Value)
  (hp:tmps.getD p undef= .pointer (some ⟨g,0,none⟩)) (hl:(loadVar ty ⟨g,0,none⟩).run Tryz.prog w= .ok y w) (hq:tmps.getD q undef=x):
  (results fn tmps).run Tryz.prog w= .ok (.tuple #[y,x]) w:=by
 have hp':tmps[p]?.getD undef= .pointer (some ⟨g,0,none⟩):=by simpa using hp
 have hq':tmps[q]?.getD undef=x:=by simpa using hq
 simp[results,h,hp',hq',asAddr,hl]
end Go.Proofs.YtpgdljlghiifjaaGreatDoor
namespace Go.Proofs.YtpgdljlghiifjaaGreatDoor
open Go.RowKit
def Ta (w:World)(ls:List aT)(tk:ByteArray)(now:Int)(e:Ending)(w':World):Prop:=
 (∃(l:aT) (pv:Value),oU (live now ls) tk=some l/\e= .returned (.tuple #[sO l pv,.int .i64 0])/\iM w' (fun g=>g<w.heap.size) pv l.path/\Below w.heap.size w w')\/
 (oU (live now ls) tk=none/\e= .returned (.tuple #[.agg kL.toArray,.int .i64 2])/\Below w.heap.size w w')
theorem yI {ps:List LP}{tk:ByteArray}{k:Nat}(hk:k<ps.length)(h:ps[k].1.token=tk)(hn:∀p∈ps.take k,p.1.token≠tk):oU (ps.map (·.1)) tk=some ps[k].1:=by
 unfold oU
 conv=>lhs;rw[<-bH k ps,bJ hk]
 rw[bZ,List.find?_append,cu,List.find?_cons_of_pos (by exact bK h),List.find?_eq_none.2]
 ·rfl
 ·intro l hl
  obtain⟨p,hp,rfl⟩:=cK.1 hl
  rw[bR]
  exact hn p hp
theorem vW {ps:List LP}{tk:ByteArray}(hn:∀p∈ps,p.1.token≠tk):oU (ps.map (·.1)) tk=none:=by
 unfold oU
 rw[List.find?_eq_none]
 intro l hl
 obtain⟨p,hp,rfl⟩:=cK.1 hl
 rw[bR]
 exact hn p hp
theorem zR (F:Nat->Prop)(v t b:Nat)(ls:List aT)(tk:ByteArray)(now:Int)(w:World)(h:LT F v t b ls w):
  Calls Tryz.prog 40 #[.pointer (some ⟨b,0,none⟩),.string tk,.int .i64 now] w (Ta w ls tk now):=by
 have hb1:=aJ w (.cells #[.string ⟨#[]⟩,.slice none 0 0,.bool false,.bool false,.string ⟨#[]⟩,.int .i64 0] 24)
 have hn1:=aM w (.cells #[.string ⟨#[]⟩,.slice none 0 0,.bool false,.bool false,.string ⟨#[]⟩,.int .i64 0] 24)
 obtain⟨w1,hw1⟩:∃w1:World,Hid (w.alloc (.cells #[.string ⟨#[]⟩,.slice none 0 0,.bool false,.bool false,.string ⟨#[]⟩,.int .i64 0] 24)=w1):=⟨_,af rfl⟩
 rw[hw1.out] at hb1 hn1
 obtain⟨ab,hab⟩:∃ab:Nat,Hid (w.heap.size=ab):=⟨_,af rfl⟩
 rw[hab.out] at hn1
 have hr1:Row w1 ab 24 kL:=hn1
 have HA:=af (yA F v t b ls now w1 (h.below hb1))
 have HX:=af (ay hb1 hr1)
 clear hb1 hn1 hr1 h
 go_enter Tryz.func40,Tryz.ntmps40
 go_upto_region 1 with (fail)
 rw[hw1.out,hab.out]
 go_wp2_with (first
  |(go_at_call 21;go_must (refine HA.out.mono ?_;rintro e w2 ⟨x,rfl,ps,hps,hx,hpp,hb2⟩;refine Stop.of ?_)))
 refine Stop.on ?_
 have hr2:Row w2 ab 24 kL:=HX.out.2.keep (Keep.of_below hb2 (fun _=>False)) id
 have hL2:jy w2 (fun g=>g<w1.heap.size) x ps:=jy.of hx hpp (fun g h1 h2 h3=>absurd h3 (bF.2 h1))
 have hbb:=HX.out.1.trans (hb2.mono HX.out.1.size)
 obtain⟨xo,xc,rfl,_,_,_,_⟩:=cZ.form hL2.1
 have HB:=af (ay hbb (ay hr2 (ay hL2 hps)))
 clear hb2 hr2 hL2 hbb hps hx hpp
 go_upto_region 5 with (fail)
 go_loopw [11,24] (fun _ i wr=>∃k:Nat,k<=ps.length/\i= .int .i64 k/\(∀p∈ps.take k,p.1.token≠tk)/\Below w2.heap.size w2 wr) (fun _ i _=>ps.length - (intOf i).toNat)
 case atStart=>exact⟨0,aV _,rfl,by simp,aN _ _⟩
 case round=>
  obtain⟨k,hk,rfl,hno,hbw⟩:=hrel
  have hrr:Row wr ab 24 kL:=HB.out.2.1.keep (Keep.of_below hbw (fun _=>False)) id
  have HNO:=af hno
  clear hno
  by_cases hkl:k<ps.length
  ·have hkl':(k:Int)<(ps.length:Int):=by omega
   have hLr:=HB.out.2.2.1.keep (Keep.of_below hbw _)
   obtain⟨sb,o,rfl,d0,d1,d2,d3,d4,d5⟩:=hLr.OG.at rfl k hkl
   have hT:=hLr.2 _ (aU hkl)
   have htk:ps.take (k+1)=ps.take k++[ps[k]]:=aI hkl
   have hhit:=fun h=>yI (tk:=tk) hkl h HNO.out
   obtain⟨p,hp⟩:∃p,ps[k]=p:=⟨_,rfl⟩
   rw[hp] at d0 d1 d2 d3 d4 d5 hT htk
   simp only[hp] at hhit
   have hb3:=aJ wr (.cells #[.string p.1.token,p.2,.bool p.1.deep,.bool p.1.excl,.string p.1.owner,.int .i64 p.1.till] 24)
   have hn3:=aM wr (.cells #[.string p.1.token,p.2,.bool p.1.deep,.bool p.1.excl,.string p.1.owner,.int .i64 p.1.till] 24)
   have hbl:=aD wr _ d0
   obtain⟨w3,hw3⟩:∃w3:World,Hid (wr.alloc (.cells #[.string p.1.token,p.2,.bool p.1.deep,.bool p.1.excl,.string p.1.owner,.int .i64 p.1.till] 24)=w3):=⟨_,af rfl⟩
   rw[hw3.out] at hb3 hn3
   obtain⟨gb,hgb⟩:∃gb:Nat,Hid (wr.heap.size=gb):=⟨_,af rfl⟩
   rw[hgb.out] at hn3
   have hr3:Row w3 ab 24 kL:=hrr.keep (Keep.of_below hb3 (fun _=>False)) id
   have hq:=LW p.1.token tk
   have HM:=af (ay htk (ay hhit (ay (hbw.trans (hb3.mono hbw.size)) (ay (cZ.below hT hb3) hn3))))
   have hform:=cZ.form hT
   have hone:=rT p (by obtain⟨qo,qc,e,_⟩:=hform;exact⟨_,_,_,e⟩)
   clear htk hhit hT hp hLr hb3 hbw hn3 hrr
   obtain⟨⟨tkp,pt,dp,ex,ow,ti⟩,qv⟩:=p
   dsimp only at d0 d1 d2 d3 d4 d5 hw3 HM hform hq
   obtain⟨qo,qc,rfl,_,_,_,_⟩:=hform
   have HONE:=af hone
   clear hone
   go_upto_region 7 with (fail)
   rw[hw3.out,hgb.out]
   clear d0 d1 d2 d3 d4 d5 hbl
   obtain⟨e0,e1,e2,e3,e4,e5,le⟩:=dD HM.out.2.2.2.2
   by_cases he:tkp=tk
   ·rw[bK he] at hq
    have HE:=af he
    clear he
    go_wp2_with (first
     |((refine dF rfl ?_);intro K hK;(refine wp_store_row 24 (.tmp 6) (.tmp 32) rfl ab 0 24 _ [Value.string tkp,.slice qo pt.length qc,.bool dp,.bool ex,.string ow,.int .i64 ti] rfl rfl hr3 kX (aG 6) HONE.out ?_);intro w4 hr4 hk4;refine hK _ _ ?_))
    refine iU (gT rfl _ w4 ab _ (.int .i64 0) rfl (jF hr4 rfl) rfl) rfl ?_
    have hbb:=HB.out.1.trans (HM.out.2.2.1.mono HB.out.1.size)
    refine .inl ⟨⟨tkp,pt,dp,ex,ow,ti⟩,.slice qo pt.length qc,?_,rfl,?_,?_⟩
    ·rw[<-HB.out.2.2.2]
     exact HM.out.2.1 HE.out
    ·have hs1:=HX.out.1.size
     have hlt1:ab<w1.heap.size:=HX.out.2.lt
     exact cZ.keep HM.out.2.2.2.1 fun g hg hl hn=>⟨hk4.block g hl (fun e=>hn (by rw[e];exact hlt1)),fun e=>hn (ak e hs1)⟩
    ·exact hbb.trans (hk4.fK hbb.size fun g hg e=>by have:=hab.out;omega)
   ·rw[bD he] at hq
    have HE:=af he
    clear he
    go_wp2_with (fail)
    go_roundw
    case rel=>
     refine⟨k+1,by omega,by go_num,?_,HM.out.2.2.1⟩
     intro q hq
     rw[HM.out.1] at hq
     rcases bM.1 hq with hq|hq
     ·exact HNO.out q hq
     ·rw[bI.1 hq];exact HE.out
    case measure=>simp[intOf];omega
  ·obtain rfl:k=ps.length:=by omega
   have x2:¬(ps.length:Int)<(ps.length:Int):=by omega
   have HBW:=af hbw
   clear hbw
   go_wp2_with (first
    |((refine dF rfl ?_);intro K hK;(refine wp_store_row 24 (.tmp 6) (.tmp 34) rfl ab 0 24 _ kL rfl rfl hrr kX (aG 6) qN ?_);intro w4 hr4 hk4;refine hK _ _ ?_))
   refine iU (gT rfl _ w4 ab _ (.int .i64 2) rfl (jF hr4 rfl) rfl) rfl ?_
   have hbb:=HB.out.1.trans (HBW.out.mono HB.out.1.size)
   refine .inr ⟨?_,rfl,hbb.trans (hk4.fK hbb.size fun g hg e=>by have:=hab.out;omega)⟩
   rw[<-HB.out.2.2.2]
   exact vW (by have:=HNO.out;rwa [bO] at this)
theorem BF (a b:aT):a.clash b=b.clash a:=by
 unfold aT.clash
 rw[Bool.or_comm a.excl,Bool.or_comm (a.covers b.path)]
theorem ET {a b:List ByteArray}:within a b=true↔b<+:a:=by unfold within;rw[decide_eq_true_iff]
theorem Jl {l:aT}{p:List ByteArray}:l.covers p=true↔l.path<+:p/\(l.deep=true\/p.length=l.path.length):=by
 unfold aT.covers
 rw[dz,ET,kK,decide_eq_true_iff]
theorem Dx {a b:aT}{p:List ByteArray}(ha:a.covers p=true)(hb:b.covers p=true)(hl:a.path.length<=b.path.length):a.covers b.path=true:=by
 rw[Jl] at ha hb ⊢
 refine⟨List.prefix_of_prefix_length_le ha.1 hb.1 hl,ha.2.imp id fun h=> ?_⟩
 have:=hb.1.length_le
 omega
theorem GQ {a b:aT}{p:List ByteArray}(ha:a.covers p=true)(hb:b.covers p=true)(he:(a.excl||b.excl)=true):a.clash b=true:=by
 unfold aT.clash
 rw[he,Bool.true_and,kK]
 rcases Nat.le_total a.path.length b.path.length with h|h
 ·exact .inl (Dx ha hb h)
 ·exact .inr (Dx hb ha h)
theorem uS {now n2:Int}(h:now<=n2)(ls:List aT):live n2 (live now ls)=live n2 ls:=by
 unfold live
 rw[List.filter_filter]
 congr 1
 funext l
 by_cases h2:n2<l.till
 ·simp[h2,show now<l.till by omega]
 ·simp[h2]
structure Alone (now:Int)(ls:List aT):Prop where
 len:(live now ls).length<=32
 pair:(live now ls).Pairwise fun a b=>a.clash b=false/\a.token≠b.token
theorem Alone.nil (now:Int):Alone now []:=⟨aV _,oM⟩
theorem Alone.sub {now n2:Int}{ls ls':List aT}(h:Alone now ls)(hs:(live n2 ls').Sublist (live now ls)):Alone n2 ls':=⟨aH hs.length_le h.len,h.pair.sublist hs⟩
theorem Alone.later {now n2:Int}{ls:List aT}(h:Alone now ls)(hn:now<=n2):Alone n2 ls:=h.sub (by rw[<-uS hn ls];exact xP)
theorem Alone.filter {now:Int}{ls:List aT}(h:Alone now ls)(p:aT->Bool):Alone now (ls.filter p):=h.sub (List.Sublist.filter _ xP)
theorem La {ls:List aT}{l:aT}(h:ls.any (fun x=>decide (x.token=l.token))=false):mq (ls.map aT.pair) l.key=false:=by
 cases hat:mq (ls.map aT.pair) l.key with
 |false=>rfl
 |true=>
  obtain⟨hlt,he⟩:=nS hat
  rw[dw] at hlt
  have h1:=oK.1 h _ (aU hlt)
  simp only[uz7] at he
  exact absurd (bK (IX (show iH _=iH _ from he))) h1
theorem Gd {ls:List aT}{l:aT}(h:ls.any (fun x=>decide (x.token=l.token))=false):∃k,vT ls l=ls.take k++l::ls.drop k:=by
 refine⟨dG (ls.map aT.pair) l.key,?_⟩
 unfold vT
 rw[La h]
 simp
theorem Alone.add {now:Int}{ls:List aT}{l:aT}(h:Alone now ls):Alone now (qX ls l now):=by
 unfold qX
 split
 ·rename_i h0
  obtain⟨_,ht,h3,h4,h5⟩:=DJ h0
  obtain⟨k,hk⟩:=Gd h3
  have hll:=uS (Int.le_refl now) ls
  have hp:=h.pair
  generalize live now ls=L at*
  have hlive:live now (vT L l)=vT L l:=by
   rw[hk]
   have e:∀x∈L,now<x.till:=fun x hx=>by rw[<-hll] at hx;exact fV (kJ.1 hx).2
   unfold live
   rw[xQ]
   intro x hx
   rcases bM.1 hx with hx|hx
   ·exact bK (e x (eD hx))
   ·rcases bL.1 hx with rfl|hx
    ·exact bK ht
    ·exact bK (e x (bW hx))
  have hl:∀x∈L,x.clash l=false/\x.token≠l.token:=fun x hx=>⟨Cf.2 (oK.1 h4 x hx),fun e=>oK.1 h3 x hx (bK e)⟩
  refine⟨by rw[hlive];have:=Gf (ls:=L) (l:=l);omega,?_⟩
  rw[hlive,hk]
  rw[<-bH k L] at hp
  obtain⟨h7,h8,h9⟩:=iI.1 hp
  refine iI.2 ⟨h7,dN.2 ⟨fun x hx=> ?_,h8⟩,fun x hx y hy=> ?_⟩
  ·have:=hl x (bW hx)
   exact⟨by rw[BF];exact this.1,fun e=>this.2 e.symm⟩
  ·rcases bL.1 hy with rfl|hy
   ·exact hl x (eD hx)
   ·exact h9 x hx y hy
 ·exact h
def Ap (l:aT)(u:Int):aT:={l with till:=u}
theorem zw.apart {A B:List aT}{l:aT}(h:zw (A++l::B)):(∀x∈A,lt x.key l.key=true)/\(∀x∈B,lt l.key x.key=true):=by
 have hr:=h.rise
 rw[bZ,cu] at hr
 have h1:=iI.1 hr
 have h2:=dN.1 h1.2.1
 exact⟨fun x hx=>h1.2.2 x.pair (ic hx) l.pair (bg ..),fun x hx=>h2.1 x.pair (ic hx)⟩
theorem Nw {A B:List aT}{l:aT}(h:zw (A++l::B))(u:Int):vT (A++l::B) (Ap l u)=A++Ap l u::B:=by
 obtain⟨h1,h2⟩:=h.apart
 have hk:(Ap l u).key=l.key:=rfl
 have e1:∀p∈A.map aT.pair,lt p.1 l.key=true:=fun p hp=>by obtain⟨x,hx,rfl⟩:=cK.1 hp;exact h1 x hx
 have e2:∀p∈B.map aT.pair,lt l.key p.1=true:=fun p hp=>by obtain⟨x,hx,rfl⟩:=cK.1 hp;exact h2 x hx
 have em:(A++l::B).map aT.pair=A.map aT.pair++[l.pair]++B.map aT.pair:=by simp
 have hp0:dG [l.pair] l.key=0:=by
  unfold dG aT.pair
  rw[qj,if_neg (by rw[lt_irrefl];simp)]
  rfl
 have hp:dG ((A++l::B).map aT.pair) l.key=A.length:=by rw[em,rM _ _ _ _ e1 e2,hp0,dw,iA]
 have hi:mq ((A++l::B).map aT.pair) l.key=true:=by
  rw[em,yE _ _ _ _ e1 e2]
  unfold mq
  rw[hp0]
  exact bK rfl
 unfold vT
 rw[hk,hp,hi]
 simp
theorem Alone.ref {now u:Int}{A B:List aT}{l:aT}(h:Alone now (A++l::B))(hl:now<l.till)(hu:now<u):Alone now (A++Ap l u::B):=by
 obtain⟨h1,h2⟩:=h
 have e1:live now (A++l::B)=live now A++l::live now B:=by unfold live;rw[fJ,List.filter_cons_of_pos (by exact bK hl)]
 have e2:live now (A++Ap l u::B)=live now A++Ap l u::live now B:=by unfold live;rw[fJ,List.filter_cons_of_pos (by exact bK hu)]
 rw[e1] at h1 h2
 obtain⟨h3,h4,h5⟩:=iI.1 h2
 obtain⟨h6,h7⟩:=dN.1 h4
 refine⟨by rw[e2];simpa using h1,?_⟩
 rw[e2]
 refine iI.2 ⟨h3,dN.2 ⟨fun x hx=>h6 x hx,h7⟩,fun x hx y hy=> ?_⟩
 rcases bL.1 hy with rfl|hy
 ·exact h5 x hx l (bg ..)
 ·exact h5 x hx y (bn _ hy)
theorem Alone.del {now:Int}{A B:List aT}{l:aT}(h:Alone now (A++l::B)):Alone now (A++B):=
 h.sub (List.Sublist.filter _ (ql (oL _) (List.sublist_cons_self _ _)))
theorem rX {ls:List aT}{tk:ByteArray}{l:aT}(h:oU ls tk=some l):l∈ls/\l.token=tk:=by
 unfold oU at h
 have h2:=List.find?_some h
 exact⟨List.mem_of_find?_eq_some h,by simpa using h2⟩
theorem xh {ls:List aT}{l:aT}{now:Int}(h:l∈live now ls):l∈ls/\now<l.till:=by
 obtain⟨h1,h2⟩:=kJ.1 h
 exact⟨h1,fV h2⟩
def SX (F:Nat->Prop)(v t b:Nat)(ls:List aT)(w:World)(e:Ending)(w':World):Prop:=
 ∃(z:Int) (ls':List aT),e= .returned (.int .i64 z)/\(ls'=ls\/∃A l B,ls=A++l::B/\ls'=A++B)/\LT F v t b ls' w'/\Keep (fun g=>¬F g) w w'
theorem yx (F:Nat->Prop)(v t b:Nat)(ls:List aT)(tk:ByteArray)(now:Int)(w:World)(h:LT F v t b ls w):
  Calls Tryz.prog 20 #[.pointer (some ⟨b,0,none⟩),.string tk,.int .i64 now] w (SX F v t b ls w):=by
 have HF:=af (zR F v t b ls tk now w h)
 have H:=af h
 clear h
 go_enter Tryz.func20,Tryz.ntmps20
 go_wp2_with (first
  |(go_at_call 40;go_must (refine HF.out.mono ?_;rintro e w1 (⟨l,pv,hfl,rfl,hpv,hb1⟩|⟨hfl,rfl,hb1⟩)<;>refine Stop.of ?_)))
 ·refine Stop.on ?_
  obtain⟨hm,ht⟩:=rX hfl
  obtain⟨hm,_⟩:=xh hm
  have hfit:=H.out.ok.fit l hm
  obtain⟨A,B,hAB⟩:=List.append_of_mem hm
  have hT1:=H.out.below hb1
  have hks:¬9223372036854775807<1+tk.size:=by have:=hfit.tok;rw[ht] at this;omega
  have hla:=F3 tk
  have hrise:=H.out.ok.rise
  have hsub:zw (A++B):=by
   have h1:=H.out.ok
   rw[hAB] at h1
   exact⟨h1.rise.sublist ((ql (oL _) (List.sublist_cons_self _ _)).map _),fun x hx=>h1.fit x (by simp at hx ⊢;rcases hx with hx|hx<;>simp[hx]),by have:=h1.len;simp at this ⊢;omega⟩
  rw[hAB] at hrise
  have hdel:mD (ls.map aT.pair) (iH tk)=(A++B).map aT.pair:=by
   rw[hAB,<-ht];exact zV hrise
  have hlook:(eu (ls.map aT.pair) (iH tk)).isSome=true:=by
   rw[hAB,<-ht];exact A7 hrise
  have htk:tk.size<=60:=by rw[<-ht];exact hfit.tok
  obtain⟨tkl,pt,dp,ex,ow,ti⟩:=l
  dsimp only at hpv
  obtain⟨po,pc,rfl,_,_,_,_⟩:=cZ.form hpv
  have hb2:=aJ w1 (.cells #[.string tkl,.slice po pt.length pc,.bool dp,.bool ex,.string ow,.int .i64 ti] 24)
  have hb12:=hb1.trans (hb2.mono hb1.size)
  have hT2:=H.out.below hb12
  have hob2:=hT2.obj
  obtain⟨w2,hw2⟩:∃w2:World,Hid (w1.alloc (.cells #[.string tkl,.slice po pt.length pc,.bool dp,.bool ex,.string ow,.int .i64 ti] 24)=w2):=⟨_,af rfl⟩
  rw[hw2.out] at hT2 hob2 hb12
  have HDL:=af (hT2.del tk htk (A++B) hdel hlook hsub)
  have c0:w2.cell? ⟨b,0,none⟩=some (.pointer (some ⟨t,0,none⟩)):=by simp[World.cell?,hob2]
  have bl:=(ah.1 hob2).1
  have HB:=af (ay hb12 hAB)
  clear hb1 hb2 hb12 hT1 hT2 hob2 hpv hfit hrise hsub hdel hlook htk hm ht hfl hAB
  unfold sO
  dsimp only
  go_upto_region 2 with (fail)
  rw[hw2.out]
  go_wp2_with (first
   |(go_at_call 41;go_must (refine HDL.out.mono ?_;rintro e w3 ⟨rfl,hT3,hk3⟩;refine Stop.of ?_)))
  refine Stop.on ?_
  have HW:=af (ay hT3 hk3)
  clear hT3 hk3 c0 bl hla hks
  go_wp2_with (fail)
  go_ret
  exact⟨0,A++B,rfl,.inr ⟨A,_,B,HB.out.2,rfl⟩,HW.out.1,(Keep.of_below HB.out.1 _).trans HW.out.2 (fun _ _ e=>e)⟩
 ·refine Stop.on ?_
  have HB:=af hb1
  clear hb1 hfl
  unfold kL
  go_wp2_with (fail)
  go_ret
  have hb:=HB.out.trans ((aJ w1 (.cells #[.string ⟨#[]⟩,.slice none 0 0,.bool false,.bool false,.string ⟨#[]⟩,.int .i64 0] 24)).mono HB.out.size)
  exact⟨2,ls,rfl,.inl rfl,H.out.below hb,Keep.of_below hb _⟩
theorem Pn (F:Nat->Prop)(v t b:Nat)(ls:List aT)(pv:Value)(path:List ByteArray)(now:Int)(w:World)(h:LT F v t b ls w)(hp:iM w (fun g=>¬F g) pv path):
  Calls Tryz.prog 24 #[.pointer (some ⟨b,0,none⟩),pv,.int .i64 now] w fun e w'=>(∃z:Int,e= .returned (.tuple #[.int .i64 z,.int .i64 0]))/\LT F v t b (ls.filter fun l=> !within l.path path) w'/\Keep (fun g=>¬F g) w w':=by
 have hform:=cZ.form hp
 obtain⟨po,pc,rfl,_,_,_,_⟩:=hform
 have hmf:∀(fn:Fn) (first cap:Array Value) (w:World),(Instr.makeFunc fn first cap).run Tryz.prog w= .ok (.func fn first cap) w:=fun _ _ _ _=>rfl
 have hb1:=aJ w (.cells #[.slice po path.length pc] 22)
 have hn1:=aM w (.cells #[.slice po path.length pc] 22)
 obtain⟨w1,hw1⟩:∃w1:World,Hid (w.alloc (.cells #[.slice po path.length pc] 22)=w1):=⟨_,af rfl⟩
 rw[hw1.out] at hb1 hn1
 have hT1:=h.next hb1
 have hF1:∀g,F g->oI F w w1 g:=fun g e=> .inl e
 have hnb:oI F w w1 w.heap.size:= .inr ⟨aG _,(ah.1 hn1).1⟩
 have hp1:iM w1 (fun g=>¬oI F w w1 g) (.slice po path.length pc) path:=cZ.keep (cZ.below hp hb1) fun g _ _ hn=>⟨rfl,fun e=>e (.inl (Classical.not_not.1 hn))⟩
 generalize oI F w w1=F1 at hT1 hF1 hnb hp1
 obtain⟨nb,hnbe⟩:∃nb:Nat,Hid (w.heap.size=nb):=⟨_,af rfl⟩
 rw[hnbe.out] at hn1 hnb
 have hq:∀w2,Keep (fun x=>¬F1 x) w1 w2->w2.cell? ⟨nb,0,none⟩=some (.slice po path.length pc)/\nb<w2.heap.size/\iM w2 (fun g=>¬F1 g) (.slice po path.length pc) path:=by
  intro w2 hk
  have h1:=(hk.block nb (ah.1 hn1).1 (fun e=>e hnb)).trans hn1
  exact⟨by simp[World.cell?,h1],(ah.1 h1).1,cZ.keep hp1 fun g _ hl hn=>⟨hk.block g hl hn,hn⟩⟩
 have HSW:=af (FU F1 v t b ls now 45 #[.pointer (some ⟨nb,0,none⟩)] _ _ (fun _ _=>rfl) (K7 nb (.slice po path.length pc) path _) w1 hT1 hq)
 have HX:=af (ay hF1 (ay hb1 h.fb))
 clear hb1 hn1 hT1 hF1 hnb hp1 hq hp h
 go_enter Tryz.func24,Tryz.ntmps24
 go_upto_region 1 with (fail)
 rw[hw1.out,hnbe.out]
 go_wp2_with (first
  |(go_at_call 36;go_must (refine HSW.out.mono ?_;rintro e w2 ⟨rfl,hT2,hk2⟩)))
 go_ret2
 rw[CQ] at hT2
 exact⟨⟨_,rfl⟩,hT2.sub HX.out.1 HX.out.2.2,(Keep.of_below HX.out.2.1 _).trans (hk2.imp fun g e hf=>e (HX.out.1 g hf)) (fun _ _ e=>e)⟩
def Tv (F:Nat->Prop)(v t b:Nat)(ls:List aT)(until_ now:Int)(w:World)(e:Ending)(w':World):Prop:=
 ∃(z:Int) (x:Value) (ls':List aT),e= .returned (.tuple #[x,.int .i64 z])/\(∃cs,x= .agg cs/\cs.size=6)/\(ls'=ls\/∃A l B,ls=A++l::B/\now<l.till/\now<until_/\ls'=A++Ap l until_::B)/\LT F v t b ls' w'/\Keep (fun g=>¬F g) w w'
theorem IW (F:Nat->Prop)(v t b:Nat)(ls:List aT)(tk:ByteArray)(till now:Int)(w:World)(h:LT F v t b ls w)(hn:ls.length<=32)(htl: -9223372036854775808<=till/\till<9223372036854775808):
  Calls Tryz.prog 23 #[.pointer (some ⟨b,0,none⟩),.string tk,.int .i64 till,.int .i64 now] w (Tv F v t b ls till now w):=by
 have hb1:=aJ w (.cells #[.string ⟨#[]⟩,.slice none 0 0,.bool false,.bool false,.string ⟨#[]⟩,.int .i64 0] 24)
 have hn1:=aM w (.cells #[.string ⟨#[]⟩,.slice none 0 0,.bool false,.bool false,.string ⟨#[]⟩,.int .i64 0] 24)
 obtain⟨w1,hw1⟩:∃w1:World,Hid (w.alloc (.cells #[.string ⟨#[]⟩,.slice none 0 0,.bool false,.bool false,.string ⟨#[]⟩,.int .i64 0] 24)=w1):=⟨_,af rfl⟩
 rw[hw1.out] at hb1 hn1
 obtain⟨ab,hab⟩:∃ab:Nat,Hid (w.heap.size=ab):=⟨_,af rfl⟩
 rw[hab.out] at hn1
 have hr1:Row w1 ab 24 kL:=hn1
 have HFN:=af (zR F v t b ls tk now w1 (h.below hb1))
 have HX:=af (ay hb1 (ay hr1 (ay h (ay hn htl))))
 clear hb1 hn1 hr1 h hn htl
 go_enter Tryz.func23,Tryz.ntmps23
 go_upto_region 1 with (fail)
 rw[hw1.out,hab.out]
 go_wp2_with (first
  |(go_at_call 40;go_must (refine HFN.out.mono ?_;rintro e w2 (⟨l,pv,hfl,rfl,hpv,hb2⟩|⟨hfl,rfl,hb2⟩)<;>refine Stop.of ?_)))
 ·refine Stop.on ?_
  obtain⟨hm,ht⟩:=rX hfl
  obtain⟨hm,hlt⟩:=xh hm
  have hfit:=HX.out.2.2.1.ok.fit l hm
  obtain⟨A,B,hAB⟩:=List.append_of_mem hm
  have hins:=Nw (A:=A) (B:=B) (l:=l) (by rw[<-hAB];exact HX.out.2.2.1.ok) till
  have hfit2:(Ap l till).Fit:=⟨hfit.tok,hfit.segs,hfit.seg,hfit.own,HX.out.2.2.2.2⟩
  have hkey:(Ap l till).key=iH tk:=by rw[<-ht];rfl
  obtain⟨po,pc,rfl,_,_,_,_⟩:=cZ.form hpv
  have hks:¬9223372036854775807<1+tk.size:=by have:=hfit.tok;rw[ht] at this;omega
  have hla:=F3 tk
  have HM:=af (ay hAB (ay hlt (ay hins (ay hfit2 (ay hkey hpv)))))
  have hb3:=aJ w2 (.cells #[.string l.token,.slice po l.path.length pc,.bool l.deep,.bool l.excl,.string l.owner,.int .i64 l.till] 24)
  have hn3:=aM w2 (.cells #[.string l.token,.slice po l.path.length pc,.bool l.deep,.bool l.excl,.string l.owner,.int .i64 l.till] 24)
  obtain⟨w3,hw3⟩:∃w3:World,Hid (w2.alloc (.cells #[.string l.token,.slice po l.path.length pc,.bool l.deep,.bool l.excl,.string l.owner,.int .i64 l.till] 24)=w3):=⟨_,af rfl⟩
  rw[hw3.out] at hb3 hn3
  obtain⟨lb,hlb⟩:∃lb:Nat,Hid (w2.heap.size=lb):=⟨_,af rfl⟩
  rw[hlb.out] at hn3
  have hb13:=hb2.trans (hb3.mono hb2.size)
  have hr3:Row w3 ab 24 kL:=HX.out.2.1.keep (Keep.of_below hb13 (fun _=>False)) id
  have HB:=af (ay hb2 (ay hb3 (ay hb13 (ay hr3 hn3))))
  clear hb2 hb3 hb13 hn3 hpv hm ht hfit hAB hins hfit2 hkey hlt hfl
  unfold sO
  go_upto_region 2 with (fail)
  rw[hw3.out,hlb.out]
  by_cases htn:till<=now
  ·go_wp2_with (first
    |((refine dF rfl ?_);intro K hK;(refine wp_store_row 24 (.tmp 8) (.tmp 27) rfl ab 0 24 _ kL rfl rfl hr3 kX (aG 6) qN ?_);intro w4 hr4 hk4;refine hK _ _ ?_))
   refine iU (gT rfl _ w4 ab _ (.int .i64 1) rfl (jF hr4 rfl) rfl) rfl ?_
   have hbb:=HX.out.1.trans (HB.out.2.2.1.mono HX.out.1.size)
   have hbw:Below w.heap.size w w4:=hbb.trans (hk4.fK hbb.size fun g hg e=>by have:=hab.out;omega)
   exact⟨1,_,ls,rfl,⟨_,rfl,rfl⟩,.inl rfl,HX.out.2.2.1.below hbw,Keep.of_below hbw _⟩
  ·clear hr3
   obtain⟨e0,e1,e2,e3,e4,e5,le⟩:=dD HB.out.2.2.2.2
   have f5:w3.frozen? ⟨lb,5,none⟩=false:=by simp[World.frozen?,HB.out.2.2.2.2]
   have hk4:Keep (· =lb) w3 (w3.setCell ⟨lb,5,none⟩ (.int .i64 till)):=(Keep.refl (· =lb) _).setCell (p:=⟨lb,5,none⟩) (.inr rfl) _
   have hn4:(w3.setCell ⟨lb,5,none⟩ (.int .i64 till)).heap[lb]? =some (.cells #[.string l.token,.slice po l.path.length pc,.bool l.deep,.bool l.excl,.string l.owner,.int .i64 till] 24 (0,0)):=by
    have:=HB.out.2.2.2.2
    simp[World.setCell,bf,this]
   obtain⟨w4,hw4⟩:∃w4:World,Hid (w3.setCell ⟨lb,5,none⟩ (.int .i64 till)=w4):=⟨_,af rfl⟩
   rw[hw4.out] at hk4 hn4
   have hbw3:=HX.out.1.trans (HB.out.2.2.1.mono HX.out.1.size)
   have hT3:=HX.out.2.2.1.next hbw3
   have hFl:oI F w w3 lb:= .inr ⟨by have:=hlb.out;have:=HX.out.1.size;have:=HB.out.1.size;omega,le⟩
   have hFa:oI F w w3 ab:= .inr ⟨fD hab.out,HB.out.2.2.2.1.lt⟩
   have hF3:∀g,F g->oI F w w3 g:=fun g e=> .inl e
   have hbne:¬b=lb:=by
    have h1:=HX.out.2.2.1.lt
    have h2:=hlb.out;have h3:=HX.out.1.size;have h4:=HB.out.1.size
    omega
   generalize oI F w w3=F1 at hT3 hFl hFa hF3
   have hT4:=(hT3.M6 hk4 (fun g e=>e▸hFl) hbne).sub (fun g e=>Or.inl e) hT3.fb
   have hp4:iM w4 (fun g=>g<w1.heap.size) (.slice po l.path.length pc) l.path:=cZ.keep HM.out.2.2.2.2.2 fun g hg hl hn=>⟨(hk4.block g (ak hl HB.out.2.1.size) (fun e=>by have:=hlb.out;omega)).trans (HB.out.2.1.block g hl),hn⟩
   have hr4:Row w4 ab 24 kL:=HB.out.2.2.2.1.keep hk4 (fun e=>by have:=hlb.out;have:=HB.out.1.size;have:=HX.out.2.1.lt;omega)
   have hen:=Di (Ap l till) (.slice po l.path.length pc) _ w4.drew (cZ.below hp4 ((aN _ w4).drew)) HM.out.2.2.2.1
   unfold sO at hen
   have HEN:=af hen
   have hob4:=hT4.obj
   have HW:=af (ay hT4 (ay hFl (ay hFa (ay hF3 (ay hr4 (ay hk4 hbw3))))))
   clear hT4 hFl hFa hF3 hr4 hp4 hen hT3 hbw3 hbne hk4
   have HTN:=af htn
   go_upto_region 7 with (fail)
   rw[hw4.out]
   clear e0 e1 e2 e3 e4 e5 le f5
   refine aQ (fun W=>W.heap[lb]? =some (.cells #[.string l.token,.slice po l.path.length pc,.bool l.deep,.bool l.excl,.string l.owner,.int .i64 till] 24 (0,0))/\W.heap[b]? =some (.cells #[.pointer (some ⟨t,0,none⟩)] 69 (0,0))) (fun i=> !([7,8].contains i)) [0,1,2,3,4,5,6,7,8,9] rfl (by kernel_rfl) ⟨hn4,hob4⟩ ?_
   repeat ((refine bP (v:= ?_) rfl rfl (fun _ _ _ h=>h) rfl (fun W hW=> ?_) ?_);rotate_left;(focus ((try dsimp only at hW);obtain⟨q0,q1,q2,q3,q4,q5,q6⟩:=dD hW.1;have q7:W.cell? ⟨b,0,none⟩=some (.pointer (some ⟨t,0,none⟩)):=(by simp[World.cell?,hW.2]);have q8:=(ah.1 hW.2).1;(go_simp;first|done|with_reducible rfl)));(try simp only[Act.put,aj,ax,au]))
   refine dA rfl rfl rfl ?_;intro K hK;go_simp
   refine HEN.out.mono ?_;rintro e w5 ⟨rfl,hb5⟩
   have hb45:Below w4.heap.size w4 w5:=(aN _ w4).drew.trans hb5
   have hT5:=HW.out.1.below hb45
   have hn5:=(hb45.block lb (ah.1 hn4).1).trans hn4
   have hPT:=hT5.put (Ap l till) HM.out.2.2.2.1 HX.out.2.2.2.1
   rw[HM.out.2.2.2.2.1] at hPT
   refine hK.out _ _ ⟨hn5,hT5.obj⟩ ?_
   (try simp only[Act.put,aj,ax,au])
   refine dA rfl rfl rfl ?_;intro K hK;go_simp
   refine hPT.mono ?_;rintro e w6 ⟨rfl,hT6,hk6⟩
   have hn6:=(hk6.block lb (ah.1 hn5).1 (fun e=>e HW.out.2.1)).trans hn5
   refine hK.out _ _ ⟨hn6,hT6.obj⟩ ?_
   (try simp only[Act.put,aj,ax,au])
   repeat ((refine bP (v:= ?_) rfl rfl (fun _ _ _ h=>h) rfl (fun W hW=> ?_) ?_);rotate_left;(focus ((try dsimp only at hW);skip;(go_simp;first|done|with_reducible rfl)));(try simp only[Act.put,aj,ax,au]))
   refine bU ?_
   have hr6:Row w6 ab 24 kL:=(HW.out.2.2.2.2.1.keep (Keep.of_below hb45 (fun _=>False)) id).keep hk6 (fun e=>e HW.out.2.2.1)
   have hone:∀u∈[Value.string l.token,.slice po l.path.length pc,.bool l.deep,.bool l.excl,.string l.owner,.int .i64 till],u.oneCell'=true:=by
    intro u hu
    simp only[bL,pE,oW] at hu
    rcases hu with rfl|rfl|rfl|rfl|rfl|rfl<;>rfl
   have HW6:=af (ay hT6 (ay hk6 (ay hb45 hone)))
   obtain⟨e0,e1,e2,e3,e4,e5,le⟩:=dD hn6
   clear hT6 hk6 hb5 hb45 hT5 hn5 hPT hob4 hla hks hone hn4 htn
   go_wp2_with (first
    |((refine dF rfl ?_);intro K hK;(refine wp_store_row 24 (.tmp 8) (.tmp 43) rfl ab 0 24 _ [Value.string l.token,.slice po l.path.length pc,.bool l.deep,.bool l.excl,.string l.owner,.int .i64 till] rfl rfl hr6 kX (aG 6) HW6.out.2.2.2 ?_);intro w7 hr7 hk7;refine hK _ _ ?_))
   refine iU (gT rfl _ w7 ab _ (.int .i64 0) rfl (jF hr7 rfl) rfl) rfl ?_
   have hT7:LT F1 v t b _ w7:=(HW6.out.1.M6 hk7 (fun g e=>e▸HW.out.2.2.1) (fun e=>by have:=HX.out.2.2.1.lt;have:=hab.out;omega)).sub (fun g e=>Or.inl e) HW6.out.1.fb
   have kF:∀g,¬F1 g->¬F g:=fun g e hf=>e (HW.out.2.2.2.1 g hf)
   refine⟨0,_,_,rfl,⟨_,rfl,rfl⟩,.inr ⟨A,l,B,HM.out.1,HM.out.2.1,HTN.out,rfl⟩,?_,?_⟩
   ·have h7:=hT7.sub HW.out.2.2.2.1 HX.out.2.2.1.fb
    rw[HM.out.1,HM.out.2.2.1] at h7
    exact h7
   ·have k1:Keep (fun g=>¬F g) w w3:=Keep.of_below HW.out.2.2.2.2.2.2 _
    have hfs:=HX.out.2.2.1.fs
    have k2:Keep (fun g=>¬F g) w3 w4:=HW.out.2.2.2.2.2.1.mono fun g _ e hf=>by
     have h1:=hfs g hf
     have h2:=hlb.out;have h3:=HX.out.1.size;have h4:=HB.out.1.size
     omega
    have k3:Keep (fun g=>¬F g) w4 w5:=Keep.of_below HW6.out.2.2.1 _
    have k4:Keep (fun g=>¬F g) w5 w6:=HW6.out.2.1.imp kF
    have k5:Keep (fun g=>¬F g) w6 w7:=hk7.mono fun g _ e hf=>by
     have h1:=hfs g hf
     have h2:=hab.out
     omega
    exact(((k1.trans k2 (fun _ _ e=>e)).trans k3 (fun _ _ e=>e)).trans k4 (fun _ _ e=>e)).trans k5 (fun _ _ e=>e)
 ·refine Stop.on ?_
  have hb13:=hb2.trans ((aJ w2 (.cells #[.string ⟨#[]⟩,.slice none 0 0,.bool false,.bool false,.string ⟨#[]⟩,.int .i64 0] 24)).mono hb2.size)
  have hr3:=HX.out.2.1.keep (Keep.of_below hb13 (fun _=>False)) id
  have HB:=af hb13
  clear hb2 hb13 hfl
  unfold kL
  go_wp2_with (first
   |((refine dF rfl ?_);intro K hK;(refine wp_store_row 24 (.tmp 8) (.tmp 22) rfl ab 0 24 _ kL rfl rfl hr3 kX (aG 6) qN ?_);intro w4 hr4 hk4;refine hK _ _ ?_))
  refine iU (gT rfl _ w4 ab _ (.int .i64 2) rfl (jF hr4 rfl) rfl) rfl ?_
  have hbb:=HX.out.1.trans (HB.out.mono HX.out.1.size)
  have hbw:Below w.heap.size w w4:=hbb.trans (hk4.fK hbb.size fun g hg e=>by have:=hab.out;omega)
  exact⟨2,_,ls,rfl,⟨_,rfl,rfl⟩,.inl rfl,HX.out.2.2.1.below hbw,Keep.of_below hbw _⟩
end Go.Proofs.YtpgdljlghiifjaaGreatDoor
namespace Go.Proofs.YtpgdljlghiifjaaGreatDoor
open Go.RowKit Go.Shelf
structure CF where
 kd:Int
 l:aT
 pv:Value
 now:Int
def pU (o:CF):List Value:=[.int .u8 o.kd,.string o.l.token,o.pv,.bool o.l.deep,.bool o.l.excl,.string o.l.owner,.int .i64 o.l.till,.int .i64 o.now]
def ng (w:World)(v:Value)(os:List CF):Prop:=cZ w fC 8 v os.length (os.flatMap pU)/\∀o∈os,iM w fC o.pv o.l.path
structure CF.Wf (o:CF):Prop where
 kd:0<=o.kd/\o.kd<=255
 sized:o.l.BR
 till: -9223372036854775808<=o.l.till/\o.l.till<9223372036854775808
 now: -9223372036854775808<=o.now/\o.now<9223372036854775808
theorem ng.at {w:World}{v:Value}{os:List CF}(h:ng w v os){ao:Option Addr}{n c:Nat}(hv:v= .slice ao n c)(i:Nat)(hi:i<os.length):
  ∃b o,ao=some ⟨b,o,none⟩/\w.cell? ⟨b,o+i*8,none⟩=some (.int .u8 os[i].kd)/\w.cell? ⟨b,o+i*8+1,none⟩=some (.string os[i].l.token)/\w.cell? ⟨b,o+i*8+2,none⟩=some os[i].pv/\w.cell? ⟨b,o+i*8+3,none⟩=some (.bool os[i].l.deep)/\w.cell? ⟨b,o+i*8+4,none⟩=some (.bool os[i].l.excl)/\w.cell? ⟨b,o+i*8+5,none⟩=some (.string os[i].l.owner)/\w.cell? ⟨b,o+i*8+6,none⟩=some (.int .i64 os[i].l.till)/\w.cell? ⟨b,o+i*8+7,none⟩=some (.int .i64 os[i].now):=by
 obtain⟨h,_⟩:=h
 obtain⟨ao',c',e,_,_,_,_,_,h6⟩:=cZ.real h (Nat.lt_of_le_of_lt (aV _) hi)
 rw[hv] at e
 cases e
 have key:∀j u,j<8->(pU os[i])[j]? =some u->∃b o,ao=some ⟨b,o,none⟩/\w.cell? ⟨b,o+i*8+j,none⟩=some u:=fun j u hj hu=>by
  obtain⟨b,o,e1,e2⟩:=h6 (i*8+j) u (by rw[p8 pU 8 (fun _=>rfl) os i j hi hj];exact hu)
  exact⟨b,o,e1,by rw[gX];exact e2⟩
 obtain⟨b,o,rfl,g0⟩:=key 0 _ (by omega) rfl
 obtain⟨_,_,e1,g1⟩:=key 1 _ (by omega) rfl;cases e1
 obtain⟨_,_,e1,g2⟩:=key 2 _ (by omega) rfl;cases e1
 obtain⟨_,_,e1,g3⟩:=key 3 _ (by omega) rfl;cases e1
 obtain⟨_,_,e1,g4⟩:=key 4 _ (by omega) rfl;cases e1
 obtain⟨_,_,e1,g5⟩:=key 5 _ (by omega) rfl;cases e1
 obtain⟨_,_,e1,g6⟩:=key 6 _ (by omega) rfl;cases e1
 obtain⟨_,_,e1,g7⟩:=key 7 _ (by omega) rfl;cases e1
 exact⟨b,o,rfl,g0,g1,g2,g3,g4,g5,g6,g7⟩
theorem ng.below {w w':World}{v:Value}{os:List CF}(h:ng w v os)(hb:Below w.heap.size w w'):ng w' v os:=⟨cZ.below h.1 hb,fun o ho=>cZ.below (h.2 o ho) hb⟩
theorem pV {F:Nat->Prop}{B:Nat}{w w':World}(hk:Keep (fun g=>¬F g) w w')(hF:∀g,g<B->F g)(hB:B<=w.heap.size):Below B w w':=hk.fK hB fun g hg e=>e (hF g hg)
theorem Ih {S F:Nat->Prop}{B:Nat}{v:Value}{l:List ByteArray}{w0 w:World}(h:iM w0 S v l)(hs:w0.heap.size<=B)(hb:Below w0.heap.size w0 w)(hF:∀g,g<B->F g):iM w (fun g=>¬F g) v l:=
 cZ.keep h fun g _ hl _=>⟨hb.block g hl,fun e=>e (hF g (ak hl hs))⟩
def Twin (F1 F2:Nat->Prop)(v1 t1 b1 v2 t2 b2:Nat)(ls1 ls2:List aT)(B:Nat)(w:World):Prop:=
 LT F1 v1 t1 b1 ls1 w/\LT F2 v2 t2 b2 ls2 w/\(∀g,g<w.heap.size->F1 g\/F2 g)/\(∀g,g<B->F1 g)/\(∀g,g<B->F2 g)/\F1 b2/\F2 b1
section
variable {F1 F2:Nat->Prop} {v1 t1 b1 v2 t2 b2:Nat} {ls1 ls2:List aT} {B:Nat} {w:World}
end
theorem Oe {ls:List aT}{l:aT}{now:Int}(h:ls.length<=32):(qX ls l now).length<=32:=by
 unfold qX
 split
 ·rename_i h0
  obtain⟨_,_,h3,_,h5⟩:=DJ h0
  obtain⟨k,hk⟩:=Gd (ls:=live now ls) (l:=l) (by simpa using h3)
  rw[hk,aC,aY]
  have:=congrArg List.length (bH k (live now ls))
  rw[aC] at this
  omega
 ·exact h
theorem PK (L:List aT)(q:List ByteArray)(h:L.Pairwise fun a b=>a.clash b=false/\a.token≠b.token):(L.filter fun l=>l.covers q && l.excl).length=0\/(L.filter fun l=>l.covers q).length<=1:=by
 by_cases hM:(L.filter fun l=>l.covers q).length<=1
 ·exact .inr hM
 ·left
  rw[List.length_eq_zero_iff,List.filter_eq_nil_iff]
  intro e he hx
  rw[dz] at hx
  have hp:=h.filter fun l=>l.covers q
  have heM:e∈L.filter fun l=>l.covers q:=kJ.2 ⟨he,hx.1⟩
  have hall:∀f∈L.filter fun l=>l.covers q,f.covers q=true:=fun f hf=>(kJ.1 hf).2
  generalize (L.filter fun l=>l.covers q)=M at*
  obtain⟨s,t,rfl⟩:=List.append_of_mem heM
  obtain⟨h1,h2,h3⟩:=iI.1 hp
  cases s with
  |cons f s=>
   have h4:=(h3 f (bg ..) e (bg ..)).1
   rw[GQ (hall f (by simp)) hx.1 (by rw[hx.2,Bool.or_true])] at h4
   cases h4
  |nil=>
   cases t with
   |nil=>simp at hM
   |cons f t=>
    have h4:=((dN.1 h2).1 f (bg ..)).1
    rw[GQ hx.1 (hall f (by simp)) (by rw[hx.2,Bool.true_or])] at h4
    cases h4
def Jm (q:List ByteArray)(ps:List LP):Nat:=(ps.filter fun p=>p.1.covers q).length
def IJ (q:List ByteArray)(ps:List LP):Nat:=(ps.filter fun p=>p.1.covers q && p.1.excl).length
theorem Lx {q:List ByteArray}{ps:List LP}{k:Nat}(h:k<ps.length):Jm q (ps.take (k+1))=Jm q (ps.take k)+if ps[k].1.covers q then 1 else 0:=by
 unfold Jm
 rw[aI h,fJ,aC]
 cases hc:ps[k].1.covers q<;>simp[hc]
theorem KU {q:List ByteArray}{ps:List LP}{k:Nat}(h:k<ps.length):IJ q (ps.take (k+1))=IJ q (ps.take k)+if ps[k].1.covers q && ps[k].1.excl then 1 else 0:=by
 unfold IJ
 rw[aI h,fJ,aC]
 cases hc:(ps[k].1.covers q && ps[k].1.excl)<;>simp[hc]
theorem Q7 {ps:List LP}{q:List ByteArray}(h:(ps.map (·.1)).Pairwise fun a b=>a.clash b=false/\a.token≠b.token):IJ q ps=0\/Jm q ps<=1:=by
 have:=PK _ q h
 rw[List.filter_map,List.filter_map,dw,dw] at this
 exact this
theorem PL (q:List ByteArray)(ps:List LP)(k:Nat):Jm q (ps.take k)<=k:=by
 unfold Jm
 exact aH (jS _ _) (by rw[aF];omega)
theorem Pe (q:List ByteArray)(ps:List LP)(k:Nat):IJ q (ps.take k)<=k:=by
 unfold IJ
 exact aH (jS _ _) (by rw[aF];omega)
def Tk (F:Nat->Prop)(v t b:Nat)(w:World)(n:Nat)(m i:Value)(wr:World):Prop:=
 ∃(k:Nat) (ls:List aT) (nw:Int),k<=n/\i= .int .i64 k/\m= .int .i64 nw/\(0<=nw/\nw<9223372036854775808)/\Alone nw ls/\ls.length<=32/\LT F v t b ls wr/\Below w.heap.size w wr
def Tt (F:Nat->Prop)(v t b:Nat)(w:World)(nw:Int)(wx:World):Prop:=
 ∃ls:List aT,Alone nw ls/\ls.length<=32/\LT F v t b ls wx/\Below w.heap.size w wx
def Ti (W:World)(ps:List LP)(q:List ByteArray)(n o k:Value)(wr:World):Prop:=
 ∃j N O:Nat,j<=ps.length/\k= .int .i64 j/\n= .int .i64 N/\o= .int .i64 O/\Jm q (ps.take j)=N/\IJ q (ps.take j)=O/\Below W.heap.size W wr
theorem Jt (os:List CF)(sv qv:Value)(q:List ByteArray)(w:World)(h:ng w sv os)(hwf:∀o∈os,o.Wf)(hq:iM w fC qv q)(hT:vw w):
  Calls Tryz.prog 7 #[sv,qv] w fun e w'=>e= .returned (.bool true)/\Below w.heap.size w w':=by
 obtain⟨so,sc,rfl,hs1,hs2,_,_⟩:=cZ.form h.1
 have hqf:=cZ.form hq
 have HFX:=af (xg w hT)
 have H:=af (ay h (ay hwf (ay hq hT)))
 clear h hwf hT hq
 obtain⟨qo,qc,rfl,_,_,_,_⟩:=hqf
 go_enter Tryz.func7,Tryz.ntmps7
 by_cases h120:120<os.length
 ·have x1:(120:Int)<(os.length:Int):=by omega
  go_wp2_with (first
   |(go_at_call 9;go_must (refine HFX.out.mono ?_;rintro e w2 ⟨rfl,hb2⟩;refine Stop.of ?_)))
  refine Stop.on ?_
  have HFX2:=af (xg w2 (H.out.2.2.2.below hb2))
  have HB:=af hb2
  clear hb2
  go_wp2_with (first
   |(go_at_call 9;go_must (refine HFX2.out.mono ?_;rintro e w3 ⟨rfl,hb3⟩)))
  go_ret
  exact⟨rfl,HB.out.trans (hb3.mono HB.out.size)⟩
 ·have x1:¬(120:Int)<(os.length:Int):=by omega
  clear h120
  go_wp2_with (first
   |(go_at_call 9;go_must (refine HFX.out.mono ?_;rintro e w2 ⟨rfl,hb2⟩;refine Stop.of ?_)))
  refine Stop.on ?_
  have HB2:=af hb2
  clear hb2
  go_wp2_with (first
   |(go_at_call 18;go_must ((refine(A9 w2).mono ?_);rintro e w3 ⟨t,b,rfl,v,F,hL,hF,hb3,_⟩;refine Stop.of ?_)))
  refine Stop.on ?_
  have hF0:∀g,g<w.heap.size->F g:=fun g hg=>hF g (ak hg HB2.out.size)
  have hst:Tk F v t b w os.length (.int .i64 0) (.int .i64 0) w3:=⟨0,[],0,aV _,rfl,rfl,⟨by omega,by omega⟩,Alone.nil 0,aV _,hL,HB2.out.trans (hb3.mono HB2.out.size)⟩
  have HF:=af hF0
  clear hL hF hb3 hF0
  go_upto_region 6 with (fail)
  go_loopw [7,8,9,10,11,12,13,14,15] (fun m i _ _ _ _ _ _ _ wr=>Tk F v t b w os.length m i wr) (fun _ i _ _ _ _ _ _ _ _=>os.length - (intOf i).toNat)
  case atStart=>exact hst
  case round=>
   obtain⟨k,ls,nw,hk,rfl,rfl,hnw,hAl,hln,hTk,hbw⟩:=hrel
   clear hst
   by_cases hkl:k<os.length
   ·have hkl':(k:Int)<(os.length:Int):=by omega
    obtain⟨sb,o,rfl,d0,d1,d2,d3,d4,d5,d6,d7⟩:=(H.out.1.below hbw).at rfl k hkl
    have hmem:=aU hkl
    obtain⟨op,hop⟩:∃op,os[k]=op:=⟨_,rfl⟩
    rw[hop] at d0 d1 d2 d3 d4 d5 d6 d7 hmem
    have hw:=H.out.2.1 op hmem
    have hpw:=H.out.1.2 op hmem
    have hsl:=aD wr _ d0
    have hpf:=cZ.form hpw
    obtain⟨kd,⟨tk,pt,dp,ex,ow,ti⟩,pv,no⟩:=op
    dsimp only at d0 d1 d2 d3 d4 d5 d6 d7 hpf
    obtain⟨po,pc,rfl,_,_,_,_⟩:=hpf
    have hb2:=aJ wr (.cells #[.int .u8 kd,.string tk,.slice po pt.length pc,.bool dp,.bool ex,.string ow,.int .i64 ti,.int .i64 no] 44)
    have hn2:=aM wr (.cells #[.int .u8 kd,.string tk,.slice po pt.length pc,.bool dp,.bool ex,.string ow,.int .i64 ti,.int .i64 no] 44)
    obtain⟨w2',hw2⟩:∃w2':World,Hid (wr.alloc (.cells #[.int .u8 kd,.string tk,.slice po pt.length pc,.bool dp,.bool ex,.string ow,.int .i64 ti,.int .i64 no] 44)=w2'):=⟨_,af rfl⟩
    rw[hw2.out] at hb2 hn2
    obtain⟨ob,hob⟩:∃ob:Nat,Hid (wr.heap.size=ob):=⟨_,af rfl⟩
    rw[hob.out] at hn2
    have HM:=af (ay hw (ay hpw (ay hTk (ay hbw (ay hb2 (ay hn2 (ay hAl (ay hln hnw))))))))
    clear hw hpw hTk hbw hb2 hn2 hAl hln hnw hmem hop
    go_upto_region 9 with (fail)
    rw[hw2.out,hob.out]
    clear d0 d1 d2 d3 d4 d5 d6 d7 hsl
    have hn2:=HM.out.2.2.2.2.2.1
    have d0:w2'.cell? ⟨ob,0,none⟩=some (.int .u8 kd):=by simp[World.cell?,hn2]
    have d1:w2'.cell? ⟨ob,1,none⟩=some (.string tk):=by simp[World.cell?,hn2]
    have d2:w2'.cell? ⟨ob,2,none⟩=some (.slice po pt.length pc):=by simp[World.cell?,hn2]
    have d3:w2'.cell? ⟨ob,3,none⟩=some (.bool dp):=by simp[World.cell?,hn2]
    have d4:w2'.cell? ⟨ob,4,none⟩=some (.bool ex):=by simp[World.cell?,hn2]
    have d5:w2'.cell? ⟨ob,5,none⟩=some (.string ow):=by simp[World.cell?,hn2]
    have d6:w2'.cell? ⟨ob,6,none⟩=some (.int .i64 ti):=by simp[World.cell?,hn2]
    have d7:w2'.cell? ⟨ob,7,none⟩=some (.int .i64 no):=by simp[World.cell?,hn2]
    have dl:=(ah.1 hn2).1
    clear hn2
    go_upto_if 41 with (fail)
    go_cut [7] from 28 to 153 (fun m wx=>m= .int .i64 (max nw no)/\w2'=wx)
    case first=>
     by_cases hc:nw<no
     ·go_wp2_with (fail)
      go_meet
      exact⟨by rw[show max nw no=no by omega],rfl⟩
     ·go_wp2_with (fail)
      go_meet
      exact⟨by rw[show max nw no=nw by omega],rfl⟩
    case rest=>
     obtain⟨rfl,hwc⟩:=hcut
     subst hwc
     have hA2:Alone (max nw no) ls:=HM.out.2.2.2.2.2.2.1.later (by omega)
     have hm2:0<=max nw no/\max nw no<9223372036854775808:=by have h1:=HM.out.1.now;have h2:=HM.out.2.2.2.2.2.2.2.2;dsimp only at h1;omega
     obtain⟨nm,hnm⟩:∃nm,max nw no=nm:=⟨_,rfl⟩
     rw[hnm] at hA2 hm2 ⊢
     have hT2:=HM.out.2.2.1.below HM.out.2.2.2.2.1
     have hbw2:Below w.heap.size w w2':=HM.out.2.2.2.1.trans (HM.out.2.2.2.2.1.mono HM.out.2.2.2.1.size)
     have hp2:=Ih (w:=w2') (F:=F) (B:=w.heap.size) HM.out.2.1 (aG _) hbw2 HF.out
     have had:=Bb F v t b ls ⟨tk,pt,dp,ex,ow,ti⟩ (.slice po pt.length pc) nm w2' hT2 hp2 HM.out.1.sized (H.out.2.2.2.below hbw2) HM.out.1.till
     unfold sO at had
     dsimp only at had
     have HAD:=af had
     have HRF:=af (IW F v t b ls tk ti nm w2' hT2 HM.out.2.2.2.2.2.2.2.1 HM.out.1.till)
     have HRV:=af (yx F v t b ls tk nm w2' hT2)
     have HDR:=af (Pn F v t b ls (.slice po pt.length pc) pt nm w2' hT2 hp2)
     have HN:=af (ay hA2 (ay hm2 hbw2))
     have hkd:=HM.out.1.kd
     clear had hA2 hm2 hT2 hbw2 hp2 hnm
     dsimp only at hkd
     go_upto_block 2 with (fail)
     go_cut [] from 28 to 153 (fun wx=>Tt F v t b w nm wx)
     case first=>
      have hk4:kd%4=0\/kd%4=1\/kd%4=2\/kd%4=3:=by omega
      rcases hk4 with h0|h0|h0|h0
      ·have q0:(kd%4==0)=true:=jl.2 h0
       clear h0
       go_wp2_with (first
        |(go_at_call 19;go_must (refine HAD.out.mono ?_;rintro e w4 ⟨rfl,hT4,hk4⟩;refine Stop.of ?_)))
       refine Stop.on ?_
       clear d0 d1 d2 d3 d4 d5 d6 d7 dl
       have HW:=af (ay hT4 (HN.out.2.2.trans (pV hk4 HF.out HN.out.2.2.size)))
       clear hT4 hk4
       go_wp2_with (fail)
       go_meet
       exact⟨_,HN.out.1.add,Oe HM.out.2.2.2.2.2.2.2.1,HW.out.1,HW.out.2⟩
      ·have q0:(kd%4==0)=false:=bV.2 (by omega)
       have q1:(kd%4==1)=true:=jl.2 h0
       clear h0
       go_wp2_with (first
        |(go_at_call 23;go_must (refine HRF.out.mono ?_;rintro e w4 ⟨z,x,ls',rfl,⟨cs,rfl,_⟩,hls,hT4,hk4⟩;refine Stop.of ?_)))
       refine Stop.on ?_
       clear d0 d1 d2 d3 d4 d5 d6 d7 dl
       have HW:=af (ay hT4 (ay (HN.out.2.2.trans (pV hk4 HF.out HN.out.2.2.size)) hls))
       clear hT4 hk4 hls
       go_wp2_with (fail)
       go_meet
       rcases HW.out.2.2 with rfl|⟨A,l,B,rfl,hl1,hl2,rfl⟩
       ·exact⟨_,HN.out.1,HM.out.2.2.2.2.2.2.2.1,HW.out.1,HW.out.2.1⟩
       ·exact⟨_,HN.out.1.ref hl1 hl2,by have:=HM.out.2.2.2.2.2.2.2.1;simpa using this,HW.out.1,HW.out.2.1⟩
      ·have q0:(kd%4==0)=false:=bV.2 (by omega)
       have q1:(kd%4==1)=false:=bV.2 (by omega)
       have q2:(kd%4==2)=true:=jl.2 h0
       clear h0
       go_wp2_with (first
        |(go_at_call 20;go_must (refine HRV.out.mono ?_;rintro e w4 ⟨z,ls',rfl,hls,hT4,hk4⟩;refine Stop.of ?_)))
       refine Stop.on ?_
       clear d0 d1 d2 d3 d4 d5 d6 d7 dl
       have HW:=af (ay hT4 (ay (HN.out.2.2.trans (pV hk4 HF.out HN.out.2.2.size)) hls))
       clear hT4 hk4 hls
       go_wp2_with (fail)
       go_meet
       rcases HW.out.2.2 with rfl|⟨A,l,B,rfl,rfl⟩
       ·exact⟨_,HN.out.1,HM.out.2.2.2.2.2.2.2.1,HW.out.1,HW.out.2.1⟩
       ·exact⟨_,HN.out.1.del,by have:=HM.out.2.2.2.2.2.2.2.1;rw[aC,aY] at this;rw[aC];omega,HW.out.1,HW.out.2.1⟩
      ·have q0:(kd%4==0)=false:=bV.2 (by omega)
       have q1:(kd%4==1)=false:=bV.2 (by omega)
       have q2:(kd%4==2)=false:=bV.2 (by omega)
       have q3:(kd%4==3)=true:=jl.2 h0
       clear h0
       go_wp2_with (first
        |(go_at_call 24;go_must (refine HDR.out.mono ?_;rintro e w4 ⟨⟨z,rfl⟩,hT4,hk4⟩;refine Stop.of ?_)))
       refine Stop.on ?_
       clear d0 d1 d2 d3 d4 d5 d6 d7 dl
       have HW:=af (ay hT4 (HN.out.2.2.trans (pV hk4 HF.out HN.out.2.2.size)))
       clear hT4 hk4
       go_wp2_with (fail)
       go_meet
       exact⟨_,HN.out.1.filter _,aH (jS _ _) HM.out.2.2.2.2.2.2.2.1,HW.out.1,HW.out.2⟩
     case rest=>
      clear d0 d1 d2 d3 d4 d5 d6 d7 dl
      obtain⟨ls',hA3,hl3,hT3,hb3⟩:=hcut
      have HA:=af (yA F v t b ls' nm wc hT3)
      have HC:=af (ay hA3 (ay hl3 (ay hT3 hb3)))
      clear hA3 hl3 hT3 hb3
      go_wp2_with (first
       |(go_at_call 21;go_must (refine HA.out.mono ?_;rintro e w5 ⟨x,rfl,ps,hps,hx,hpp,hb5⟩;have hform:=cZ.form hx.qm;obtain⟨xo,xc,rfl,_,_,_,_⟩:=hform;have hpl:ps.length<=32:=(by have:=HC.out.1.len;rw[<-hps,dw] at this;exact this);have x32:¬(32:Int)<(ps.length:Int):=(by omega);refine Stop.of ?_)))
      refine Stop.on ?_
      have hL5:jy w5 fC (.slice xo ps.length xc) ps:=jy.of hx hpp (fun g _ _ e=>e)
      have hpw:(ps.map (·.1)).Pairwise fun a b=>a.clash b=false/\a.token≠b.token:=by rw[hps];exact HC.out.1.pair
      have hbw5:=HC.out.2.2.2.trans (hb5.mono HC.out.2.2.2.size)
      have hT5:=HC.out.2.2.1.below hb5
      have H5:=af (ay hL5 (ay hpw (ay hbw5 hT5)))
      have hst:Ti w5 ps q (.int .i64 0) (.int .i64 0) (.int .i64 0) w5:=⟨0,0,0,aV _,rfl,rfl,rfl,rfl,rfl,aN _ _⟩
      clear hL5 hpw hbw5 hT5 hps hx hpp hb5
      go_upto_region 25 with (fail)
      go_loopw [12,13,14,15] (fun n o k _ wr=>Ti w5 ps q n o k wr) (fun _ _ k _ _=>ps.length - (intOf k).toNat)
      case atStart=>exact hst
      case round=>
       obtain⟨j,N,O,hj,rfl,rfl,rfl,hN,hO,hbw⟩:=hrel
       clear hst
       by_cases hjl:j<ps.length
       ·have hjl':(j:Int)<(ps.length:Int):=by omega
        have hX:=H5.out.1.keep (Keep.of_below hbw _)
        obtain⟨xb,xo',rfl,d0,d1,d2,d3,d4,d5⟩:=hX.OG.at rfl j hjl
        have hpx:=hX.2 _ (aU hjl)
        have hcs:=Lx (q:=q) hjl
        have hos:=KU (q:=q) hjl
        have hcl:=PL q ps j
        have hol:=Pe q ps j
        rw[hN] at hcs hcl
        rw[hO] at hos hol
        obtain⟨p,hp⟩:∃p,ps[j]=p:=⟨_,rfl⟩
        rw[hp] at d0 d1 d2 d3 d4 d5 hpx hcs hos
        have lx:=aD wr _ d0
        have hbwr:=H5.out.2.2.1.trans (hbw.mono H5.out.2.2.1.size)
        have hcv:=pu p.1 p.2 (.slice qo q.length qc) q fC fC wr hpx (cZ.below H.out.2.2.1 hbwr)
        obtain⟨c,hc⟩:∃c,p.1.covers q=c:=⟨_,rfl⟩
        rw[hc] at hcv hcs hos
        obtain⟨⟨tk1,pt1,dp1,ex1,ow1,ti1⟩,pv1⟩:=p
        have hpf:=cZ.form hpx
        dsimp only at d0 d1 d2 d3 d4 d5 hpx hos hpf
        unfold sO at hcv
        dsimp only at hcv
        obtain⟨po1,pc1,rfl,_,_,_,_⟩:=hpf
        have HCV:=af hcv
        have HJ:=af (ay hcs (ay hos (ay hp (ay hbw hpx))))
        clear hcv hcs hos hp hbw hpx hbwr hX hc
        go_upto_if 111 with (first
         |(go_at_call 12;go_must (refine HCV.out.mono ?_;rintro e w6 ⟨rfl,hb6⟩;refine Stop.of ?_)))
        refine Stop.on ?_
        have hbw6:=HJ.out.2.2.2.1.trans (hb6.mono HJ.out.2.2.2.1.size)
        have d3':w6.cell? ⟨xb,xo'+j*6+3,none⟩=some (.bool ex1):=(hb6.cell lx).trans d3
        have l6:=ak lx hb6.size
        have HB6:=af hbw6
        clear d0 d1 d2 d3 d4 d5 lx hb6 hbw6
        go_upto_if 111 with (fail)
        go_cut [12,13] from 100 to 147 (fun n o wx=>n= .int .i64 ((N+(if c then 1 else 0):Nat):Int)/\o= .int .i64 ((O+(if c && ex1 then 1 else 0):Nat):Int)/\w6=wx)
        case first=>
         cases c with
         |false=>
          go_wp2_with (fail)
          go_meet
          exact⟨by simp,by simp,rfl⟩
         |true=>
          cases ex1 with
          |false=>
           go_wp2_with (fail)
           go_meet
           exact⟨by simp,by simp,rfl⟩
          |true=>
           go_wp2_with (fail)
           go_meet
           exact⟨by simp,by simp,rfl⟩
        case rest=>
         obtain⟨rfl,rfl,hwc⟩:=hcut
         subst hwc
         rw[<-HJ.out.1,<-HJ.out.2.1]
         clear d3' l6
         go_upto_region 32 with (fail)
         go_loopw [15] (fun i wr=>∃m:Nat,m<=j/\i= .int .i64 m/\Below w6.heap.size w6 wr) (fun i _=>j - (intOf i).toNat)
         case atStart=>exact⟨0,aV _,rfl,aN _ _⟩
         case round=>
          obtain⟨m,hm,rfl,hbm⟩:=hrel
          by_cases hml:m<j
          ·have hml':(m:Int)<(j:Int):=by omega
           have hmp:m<ps.length:=by omega
           have hmp':(m:Int)<(ps.length:Int):=by omega
           have hbm5:=HB6.out.trans (hbm.mono HB6.out.size)
           have hX:=H5.out.1.keep (Keep.of_below hbm5 _)
           obtain⟨_,_,e1,d0,d1,d2,d3,d4,d5⟩:=hX.OG.at rfl j hjl
           cases e1
           obtain⟨_,_,e1,g0,g1,g2,g3,g4,g5⟩:=hX.OG.at rfl m hmp
           cases e1
           have hpx:=hX.2 _ (aU hjl)
           have hpy:=hX.2 _ (aU hmp)
           have hpr:=iQ.1 H5.out.2.1 m j (by simpa using hmp) (by simpa using hjl) hml
           simp only[uz7] at hpr
           rw[HJ.out.2.2.1] at d0 d1 d2 d3 d4 d5 hpx hpr
           obtain⟨y,hy⟩:∃y,ps[m]=y:=⟨_,rfl⟩
           rw[hy] at g0 g1 g2 g3 g4 g5 hpy hpr
           have lx:=aD wr _ d0
           have ly:=aD wr _ g0
           obtain⟨⟨tk2,pt2,dp2,ex2,ow2,ti2⟩,pv2⟩:=y
           have hpf:=cZ.form hpy
           dsimp only at d0 d1 d2 d3 d4 d5 g0 g1 g2 g3 g4 g5 hpx hpy hpr hpf
           obtain⟨po2,pc2,rfl,_,_,_,_⟩:=hpf
           have hcl:=Ba ⟨tk1,pt1,dp1,ex1,ow1,ti1⟩ ⟨tk2,pt2,dp2,ex2,ow2,ti2⟩ _ _ fC fC wr.drew (cZ.below hpx ((aN _ wr).drew)) (cZ.below hpy ((aN _ wr).drew))
           rw[BF,hpr.1] at hcl
           unfold sO at hcl
           dsimp only at hcl
           have htk:(tk1.toList==tk2.toList)=false:=bV.2 (fun e=>hpr.2 (toList_inj e).symm)
           have HCL:=af hcl
           have HB:=af hbm
           clear hcl hpr hpx hpy hX hy hbm hbm5
           go_wp2_with (fail)
           refine aQ (fun W=>Below wr.heap.size wr W) (fun i=> !([8].contains i)) [0,1,2,3,4,5,6,7,8,9,10,11,12,13,14,15,16,17,18,19,20,21] rfl (by kernel_rfl) ((aN _ wr).drew) ?_
           repeat ((refine bP (v:= ?_) rfl rfl (fun _ _ _ h=>h) rfl (fun W hW=> ?_) ?_);rotate_left;(focus ((try dsimp only at hW);have a0:=(hW.cell lx).trans d0;have a1:=(hW.cell lx).trans d1;have a2:=(hW.cell lx).trans d2;have a3:=(hW.cell lx).trans d3;have a4:=(hW.cell lx).trans d4;have a5:=(hW.cell lx).trans d5;have b0:=(hW.cell ly).trans g0;have b1:=(hW.cell ly).trans g1;have b2:=(hW.cell ly).trans g2;have b3:=(hW.cell ly).trans g3;have b4:=(hW.cell ly).trans g4;have b5:=(hW.cell ly).trans g5;have la:=ak lx hW.size;have lb:=ak ly hW.size;(go_simp;first|done|with_reducible rfl)));(try simp only[Act.put,aj,ax,au]))
           refine dA rfl rfl rfl ?_;intro K hK;go_simp
           refine HCL.out.mono ?_;rintro e w7 ⟨rfl,hb7⟩
           have hb7':Below wr.heap.size wr w7:=(aN _ wr).drew.trans hb7
           refine hK.out _ _ hb7' ?_
           (try simp only[Act.put,aj,ax,au])
           repeat ((refine bP (v:= ?_) rfl rfl (fun _ _ _ h=>h) rfl (fun W hW=> ?_) ?_);rotate_left;(focus ((try dsimp only at hW);have a0:=(hW.cell lx).trans d0;have b0:=(hW.cell ly).trans g0;have la:=ak lx hW.size;have lb:=ak ly hW.size;(go_simp;first|done|with_reducible rfl)));(try simp only[Act.put,aj,ax,au]))
           refine bU ?_
           have HB7:=af (HB.out.trans (hb7'.mono HB.out.size))
           clear hb7 hb7' d0 d1 d2 d3 d4 d5 g0 g1 g2 g3 g4 g5 lx ly
           go_wp2_with (fail)
           go_roundw
           case rel=>exact⟨m+1,by omega,by go_num,HB7.out⟩
           case measure=>simp[intOf];omega
          ·obtain rfl:m=j:=by omega
           have x3:¬(m:Int)<(m:Int):=by omega
           have HB7:=af (HB6.out.trans (hbm.mono HB6.out.size))
           clear hbm
           go_wp2_with (fail)
           go_roundw
           case rel=>
            first
             |exact⟨m+1,_,_,hjl,by go_num,rfl,rfl,rfl,rfl,HB7.out⟩
             |((repeat apply Exists.intro);exact⟨⟨m+1,_,_,hjl,by go_num,rfl,rfl,rfl,rfl,HB7.out⟩,rfl⟩)
           case measure=>simp[intOf];omega
       ·obtain rfl:j=ps.length:=by omega
        have x3:¬(ps.length:Int)<(ps.length:Int):=by omega
        rw[bO] at hN hO
        have hno:=Q7 (q:=q) H5.out.2.1
        rw[hN,hO] at hno
        have hbwr:=H5.out.2.2.1.trans (hbw.mono H5.out.2.2.1.size)
        have hTr:=H5.out.2.2.2.below hbw
        have HE:=af (ay hbwr hTr)
        clear hbwr hTr hbw hN hO
        by_cases hO0:O=0
        ·have x4:¬(0:Int)<(O:Int):=by omega
         clear hO0 hno
         go_wp2_with (fail)
         go_roundw
         case rel=>
          first
           |exact⟨k+1,ls',nm,by omega,by go_num,rfl,HN.out.2.1,HC.out.1,HC.out.2.1,HE.out.2,HE.out.1⟩
           |((repeat apply Exists.intro);exact⟨⟨k+1,ls',nm,by omega,by go_num,rfl,HN.out.2.1,HC.out.1,HC.out.2.1,HE.out.2,HE.out.1⟩,rfl⟩)
         case measure=>simp[intOf];omega
        ·have x4:(0:Int)<(O:Int):=by omega
         have x5:¬(1:Int)<(N:Int):=by omega
         clear hO0 hno
         go_wp2_with (fail)
         go_roundw
         case rel=>
          first
           |exact⟨k+1,ls',nm,by omega,by go_num,rfl,HN.out.2.1,HC.out.1,HC.out.2.1,HE.out.2,HE.out.1⟩
           |((repeat apply Exists.intro);exact⟨⟨k+1,ls',nm,by omega,by go_num,rfl,HN.out.2.1,HC.out.1,HC.out.2.1,HE.out.2,HE.out.1⟩,rfl⟩)
         case measure=>simp[intOf];omega
   ·obtain rfl:k=os.length:=by omega
    have x2:¬(os.length:Int)<(os.length:Int):=by omega
    have HW:=af hbw
    clear hbw hTk hnw hAl hln
    go_wp2_with (fail)
    go_ret
    exact⟨rfl,HW.out⟩
end Go.Proofs.YtpgdljlghiifjaaGreatDoor
namespace Go.Proofs.YtpgdljlghiifjaaGreatDoor
open Go.RowKit Go.ChangeShapes Go.WideShapes Go.ChangeAt Go.Deep Go.Shelf Go.Lib
theorem AU {H:Type}{enc:TypeId×Value->H}{W:World}{fuel:Nat}{cs:List Value}{x:DataW H×List MemPlace}(h:DataW.trod enc Tryz.prog W 0 (fun _=>true) true fuel 44 cs=some x):
  ∃(kd:Int) (l:aT) (pv:Value) (now:Int),cs=[.int .u8 kd,.string l.token,pv,.bool l.deep,.bool l.excl,.string l.owner,.int .i64 l.till,.int .i64 now]/\(0<=kd/\kd<=255)/\iM W fC pv l.path/\l.BR/\(-9223372036854775808<=l.till/\l.till<9223372036854775808)/\(-9223372036854775808<=now/\now<9223372036854775808):=by
 obtain⟨xs,n,_,rfl,hl,hlen,hf⟩:=DataW.trod_struct Tryz.underlying44 h
 have h8:Tryz.prog.cellsOf 44=8:=by kernel_rfl
 have c5:Tryz.prog.cellsOf 5=1:=by kernel_rfl
 have c24:Tryz.prog.cellsOf 24=6:=by kernel_rfl
 have c2:Tryz.prog.cellsOf 2=1:=by kernel_rfl
 rw[h8] at hl
 match xs,hlen,cs,hl with
 |[y0,y1,y2],_,[v0,v1,v2,v3,v4,v5,v6,v7],_=>
  have g0:=hf 0 _ rfl
  have g1:=hf 1 _ rfl
  have g2:=hf 2 _ rfl
  simp[c5,c24,c2] at g0 g1 g2
  obtain⟨z0,e0,_,k0⟩:=Ce Tryz.underlying5 g0
  obtain⟨l,pv,e1,hp,hs,ht⟩:=Dc g1
  obtain⟨z2,e2,_,k2⟩:=Ce Tryz.underlying2 g2
  simp at e0 e1 e2
  obtain⟨rfl,rfl,rfl,rfl,rfl,rfl⟩:=e1
  subst e0 e2
  simp only[Lit.wf,dz,bR] at k0 k2
  have h1:(IntKind.i64.min:Int)= -9223372036854775808:=rfl
  have h2:(IntKind.i64.max:Int)=9223372036854775807:=rfl
  have h3:(IntKind.u8.min:Int)=0:=rfl
  have h4:(IntKind.u8.max:Int)=255:=rfl
  exact⟨z0,l,v2,z2,rfl,by omega,hp,hs,ht,by omega⟩
instance :Inhabited CF:=⟨⟨0,⟨⟨#[]⟩,[],false,false,⟨#[]⟩,0⟩,.slice none 0 0,0⟩⟩
theorem mZ:∀(l:List CF),(l.flatMap pU).length=l.length*8
 |[]=>rfl
 |a::l=>by rw[dB,aC,mZ l,aY,pz];show 8+_=_;omega
theorem yu {H:Type}{enc:TypeId×Value->H}{W:World}{fuel:Nat}{cs:List Value}{x:DataW H×List MemPlace}(h:DataW.trod enc Tryz.prog W 0 (fun _=>true) true fuel 41 cs=some x):
  ∃v os,cs=[v]/\ng W v os/\∀o∈os,o.Wf:=by
 rcases open_slice Tryz.underlying41 h with ⟨rfl,_⟩|⟨a,len,cap,m,n,D,Pl,rfl,hb,hl,hm,hmm,rfl,hx⟩
 ·exact⟨_,[],rfl,⟨cZ.nil _ _ _,by simp⟩,by simp⟩
 ·have hc8:Tryz.prog.cellsOf 44=8:=by kernel_rfl
  have hmc:m=cap:=by rw[hmm];simp
  by_cases hc0:cap=0
  ·obtain rfl:len=0:=by omega
   subst hc0
   exact⟨_,[],rfl,⟨.inr ⟨rfl,rfl,a,rfl⟩,by simp⟩,by simp⟩
  ·have each:∀i,i<m->∃o:CF,o.Wf/\iM W fC o.pv o.l.path/\∀j u,(pU o)[j]? =some u->W.cell? ((a.add (i*8)).add j)=some u:=by
    intro i hi
    obtain⟨cs',h1,h2⟩:=hx i hi
    rw[hc8] at h1
    obtain⟨_,hlen,hcell⟩:=World.cells?_some h1
    obtain⟨kd,l,pv,now,rfl,k1,hp,k2,k3,k4⟩:=AU h2
    refine⟨⟨kd,l,pv,now⟩,⟨k1,k2,k3,k4⟩,hp,fun j u hu=> ?_⟩
    have hj:j<8:=by
     by_cases hj:j<8
     ·exact hj
     ·rw[eZ (by simp[pU];omega)] at hu
      cases hu
    rw[hcell j hj]
    exact hu
   obtain⟨f,hf⟩:=choose_lt each
   obtain⟨b,o,sp⟩:=a
   have h00:=(hf 0 (by omega)).2.2 0 _ rfl
   have hs:sp=none:=by
    have:=World.cell?_spot h00
    simpa [Addr.add] using this
   subst hs
   have hlt:=aD W _ h00
   refine⟨_,(List.range len).map f,rfl,⟨.inl ?_,?_⟩,?_⟩
   ·refine⟨some ⟨b,o,none⟩,cap,by simp,by simpa using hl,hm,?_,(fun e=>by cases e),(fun ad e=> ?_),fun j u hu=>⟨b,o,rfl,?_⟩⟩
    ·rw[mZ]
    ·cases e
     refine⟨rfl,?_,fun e=>e⟩
     simpa [Addr.add] using hlt
    ·have hjl:j<len*8:=by
      have h1:=(bX.1 hu).1
      rw[mZ,dw,List.length_range] at h1
      exact h1
     have hd:j=j/8*8+j%8:=by omega
     have hi:j/8<((List.range len).map f).length:=by simp;omega
     rw[hd,p8 pU 8 (fun _=>rfl) _ (j/8) (j%8) hi (by omega)] at hu
     have:=(hf (j/8) (by omega)).2.2 (j%8) u (by simpa using hu)
     rw[eU,eU,gX,<-hd] at this
     exact this
   ·intro p hp
    obtain⟨i,hi,rfl⟩:=cK.1 hp
    exact(hf i (by have:=ja.1 hi;omega)).2.1
   ·intro p hp
    obtain⟨i,hi,rfl⟩:=cK.1 hp
    exact(hf i (by have:=ja.1 hi;omega)).1
end Go.Proofs.YtpgdljlghiifjaaGreatDoor
