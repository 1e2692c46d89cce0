/- parts -/
import Derived.Test.YtpgdljlghiifjaaGreatDoorJ17
import Derived.Test.YtpgdljlghiifjaaGreatDoorJ21
import Derived.Test.YtpgdljlghiifjaaGreatDoorJ23
import Derived.Laws.Runes
import Derived.Scope
namespace Go.Proofs.YtpgdljlghiifjaaGreatDoor
open Go.RowKit
set_option maxRecDepth 100000
set_option maxHeartbeats 8000000
set_option linter.all false
theorem RQ (tk:ByteArray):(⟨(Lib.trimPrefix (jl tk).data.toList [108]).toArray⟩:ByteArray)=tk∧Lib.hasPrefix (jl tk).data.toList [108]=true:=by
 have e:(jl tk).data.toList=108::tk.data.toList:=by simp[jl]
 rw[e]
 have h:Lib.hasPrefix (108::tk.data.toList) [108]=true:=by simp[Lib.hasPrefix]
 refine⟨?_,h⟩
 unfold Lib.trimPrefix
 rw[if_pos h]
 rfl
theorem Ip (p:LP) (h:∃ao n c,p.2= .slice ao n c):∀v∈kF p,v.oneCell'=true:=by
 obtain⟨ao,n,c,e⟩:=h
 intro v hv
 unfold kF at hv
 rw[e] at hv
 simp only[bK,C8,rX] at hv
 rcases hv with rfl|rfl|rfl|rfl|rfl|rfl<;>rfl
def R4 (w:World) (ls:List bn) (x:Value) (w':World):Prop:=∃ps:List LP,ps.map (·.1)=ls∧aS w' fO w.heap.size 24 6 x ps.length (ps.flatMap kF)∧(∀p∈ps,jA w' (fun g=>x.ownBlock=some g∨g<w.heap.size) p.2 p.1.path)∧Below w.heap.size w w'
def Sz (w:World) (B:Nat) (xv:Value) (ls:List bn) (v i:Value) (wr:World):Prop:=
 ∃(k:Nat) (ps:List LP),k≤ls.length∧i= .int .i64 k∧ps.map (·.1)=ls.take k∧aS wr fO B 24 6 v ps.length (ps.flatMap kF)∧(∀p∈ps,jA wr (fun g=>v.ownBlock=some g∨g<B) p.2 p.1.path)∧aS wr fO B 130 2 xv ls.length (dH (ls.map bn.pair))∧Below B w wr
theorem LB {w:World} {S:Nat→Prop} {v:Value} {n:Nat} {kv:List Pr} (h:dO w S 2 v n (dH kv)):kv.length=n:=by
 rcases h with ⟨_,_,_,_,_,hl,_⟩|⟨rfl,hl,_⟩
 ·rw[sO] at hl;omega
 ·have:=congrArg List.length hl
  rw[sO,bG] at this
  omega
theorem MH {w:World} {S:Nat→Prop} {kv:List Pr} {ao:Option Addr} {n c:Nat} (h:dO w S 2 (.slice ao n c) n (dH kv)) (i:Nat) (hi:i<kv.length):
  ∃b o,ao=some ⟨b,o,none⟩∧w.cell? ⟨b,o+i*2,none⟩=some (.string kv[i].1)∧w.cell? ⟨b,o+i*2+1,none⟩=some (.string kv[i].2):=by
 have hn:0<n:=by
  have h1:=(LB h)
  omega
 obtain⟨ao',c',e,_,_,_,_,_,h6⟩:=dO.real h hn
 cases e
 have key:∀j u,j<2→([Value.string kv[i].1,.string kv[i].2])[j]? =some u→∃b o,ao=some ⟨b,o,none⟩∧w.cell? ⟨b,o+i*2+j,none⟩=some u:=fun j u hj hu=>by
  obtain⟨b,o,e1,e2⟩:=h6 (i*2+j) u (by unfold dH;rw[AR _ 2 (fun _=>rfl) kv i j hi hj];exact hu)
  exact⟨b,o,e1,by rw[jU];exact e2⟩
 obtain⟨b,o,rfl,g0⟩:=key 0 _ (by omega) rfl
 obtain⟨_,_,e1,g1⟩:=key 1 _ (by omega) rfl;cases e1
 exact⟨b,o,rfl,g0,g1⟩
theorem Jz (F:Nat→Prop) (v t b:Nat) (ls:List bn) (w:World) (h:LT F v t b ls w):
  Calls Tryz.prog 42 #[.pointer (some ⟨b,0,none⟩)] w fun e w'=>∃x,e= .returned (.tuple #[x,.int .i64 0])∧R4 w ls x w':=by
 have HS:=af h.scan
 have hobj:=h.obj
 have hlt:=h.lt
 have c0:w.cell? ⟨b,0,none⟩=some (.pointer (some ⟨t,0,none⟩)):=by simp[World.cell?,hobj]
 have HOK:=af h.ok
 clear h hobj
 go_enter Tryz.func42,Tryz.ntmps42
 go_upto_region 5 with (fail)
 go_loopw [4,5] (fun o f wr=>o= .slice none 0 0∧f= .string ⟨#[108]⟩∧wr=w) (fun _ _ _=>0)
 case atStart=>exact⟨rfl,rfl,rfl⟩
 case round=>
  obtain⟨rfl,rfl,hwr⟩:=hrel
  subst wr
  go_wp2_with (first
   |(go_at_call 72;go_must (refine HS.out.mono ?_;rintro e w1 ⟨x,rfl,hx,hb1⟩;refine Stop.of ?_)))
  refine Stop.on ?_
  have hnl:=HOK.out.len
  have hx64:(ls.length:Int)<64:=by omega
  obtain⟨xo,xc,rfl,_,_,_,_⟩:=dO.form hx.sW
  have hst:Sz w w.heap.size (.slice xo ls.length xc) ls (.slice none 0 0) (.int .i64 0) w1:=⟨0,[],aY _,rfl,by simp,aS.nil _ _ _ _ _,by simp,hx,hb1⟩
  clear hx hb1 c0 hlt
  go_upto_region 9 with (fail)
  go_loopw [4,5,9,10,11,28] (fun v f _ _ _ i wr=>(∃s,f= .string s)∧Sz w w.heap.size (.slice xo ls.length xc) ls v i wr) (fun _ _ _ _ _ i _=>ls.length - (intOf i).toNat)
  case atStart=>exact⟨⟨_,rfl⟩,hst⟩
  case round=>
   obtain⟨⟨fs,rfl⟩,k,ps,hk,rfl,hps,hO,hpp,hX,hbw⟩:=hrel
   clear hst
   by_cases hkl:k<ls.length
   ·have hkl':(k:Int)<(ls.length:Int):=by omega
    obtain⟨pb,o,rfl,d0,d1⟩:=MH hX.sW k (by rw[dW];exact hkl)
    have hfit:=HOK.out.fit _ (bq hkl)
    have htk:ls.take (k+1)=ls.take k++[ls[k]]:=aK hkl
    simp only[C9,bn.pair,bn.key] at d0 d1
    obtain⟨l,hl⟩:∃l,ls[k]=l:=⟨_,rfl⟩
    rw[hl] at d0 d1 hfit htk
    obtain⟨hc1,hc2⟩:=RQ l.token
    have hb2:=aI wr (.cells #[.string (jl l.token),.string (strOf l.enc)] 130)
    have hn2:=aM wr (.cells #[.string (jl l.token),.string (strOf l.enc)] 130)
    have hbl:=aF wr _ d0
    obtain⟨w2,hw2⟩:∃w2:World,Hid (wr.alloc (.cells #[.string (jl l.token),.string (strOf l.enc)] 130)=w2):=⟨_,af rfl⟩
    rw[hw2.out] at hb2 hn2
    have hdc:=KN l w2 hfit
    unfold qN at hdc
    have HD:=af hdc
    clear hdc
    have hcp:Calls Tryz.prog 73 #[.string (jl l.token),.string ⟨#[108]⟩] w2 _:=Any.strings_CutPrefix QR _ _ w2
    rw[show (⟨#[108]⟩:ByteArray).data.toList=[108] from rfl,hc1,hc2] at hcp
    obtain⟨ky,hky⟩:∃ky,Hid (jl l.token=ky):=⟨_,af rfl⟩
    obtain⟨en,hen⟩:∃en,Hid (strOf l.enc=en):=⟨_,af rfl⟩
    rw[hky.out,hen.out] at hn2 hw2
    rw[hky.out] at d0 hcp
    rw[hen.out] at d1 HD
    obtain⟨gb,hgb⟩:∃gb:Nat,Hid (wr.heap.size=gb):=⟨_,af rfl⟩
    rw[hgb.out] at hn2
    have c0:w2.cell? ⟨gb,0,none⟩=some (.string ky):=by simp[World.cell?,hn2]
    have c1:w2.cell? ⟨gb,1,none⟩=some (.string en):=by simp[World.cell?,hn2]
    have cl:=(ah.1 hn2).1
    have HC:=af hcp
    have HX:=af (ay hps (ay hO (ay hpp (ay hX (ay hbw (ay hb2 (ay htk (ay hl hfit))))))))
    have HN2:=af hn2
    obtain⟨vo,vc,rfl,_,_,_,_⟩:=dO.form hO.sW
    clear hps hO hpp hX hbw hb2 htk hl hfit hcp hc1 hc2 hn2
    obtain⟨tk,pt,dp,ex,ow,ti⟩:=l
    dsimp only at HC HD
    go_upto_region 11 with (fail)
    rw[hw2.out,hgb.out]
    clear d0 d1 hbl
    go_wp2_with (first
     |(go_at_call 73;go_must (refine HC.out.mono ?_;rintro e w3 ⟨rfl,hw⟩;subst w3))
     |(go_at_call 74;go_must (refine HD.out.mono ?_;rintro e w4 ⟨pv,rfl,hpv,hb4⟩;refine Stop.of ?_)))
    refine Stop.on ?_
    obtain⟨po,pc,rfl,_,_,_,_⟩:=dO.form hpv
    have hb24:=HX.out.2.2.2.2.2.1.trans (hb4.mono HX.out.2.2.2.2.2.1.size)
    have hb5:=aI w4 (.cells #[.string tk,.slice po pt.length pc,.bool dp,.bool ex,.string ow,.int .i64 ti] 24)
    have hO5:=(HX.out.2.1.below hb24).below hb5
    have hn4:=(hb4.block gb cl).trans HN2.out
    have hn5:=(hb5.block gb (ah.1 hn4).1).trans hn4
    have hpsl:ps.length=k:=by
     have:=congrArg List.length HX.out.1
     rw[dW,aD] at this
     omega
    have hsz5:w.heap.size≤(w4.alloc (.cells #[.string tk,.slice po pt.length pc,.bool dp,.bool ex,.string ow,.int .i64 ti] 24)).heap.size:=aH HX.out.2.2.2.2.1.size (aH hb24.size hb5.size)
    have hone:=Ip (⟨tk,pt,dp,ex,ow,ti⟩,.slice po pt.length pc) ⟨_,_,_,rfl⟩
    have HY:=af (ay hpv (ay hb24 (ay hb5 (ay hO5 (ay hn5 (ay hpsl (ay hsz5 hone)))))))
    clear hpv hb4 hb24 hb5 hO5 hn5 hn4 hpsl hsz5 hone c0 c1 cl
    go_wp2_with (first
     |(at_builtin;go_must ((refine dK rfl (.tmp 41) (.tmp 46) 26 26 rfl fO w.heap.size 24 6 72 _ Tryz.underlying26 CJ rfl (.slice vo ps.length vc) _ _ rfl HY.out.2.2.2.1 _ 1 _ rfl (gM [.string tk,.slice po pt.length pc,.bool dp,.bool ex,.string ow,.int .i64 ti] _ 6 1 1 (by simp) Tryz.underlying26 rfl HY.out.2.2.2.2.2.2.2) (fun _ h=>h.elim) HY.out.2.2.2.2.2.2.1 ?_ ?_ ?_);(focus (unfold maxLen;have:=HY.out.2.2.2.2.2.1;omega));(focus (have:=HY.out.2.2.2.2.2.1;omega));intro ao6 c6 w6 hown6 hk6 hbb6 hd6;refine Stop.of ?_)))
    refine Stop.on ?_
    have hn6:=(hk6.block gb (ah.1 HY.out.2.2.2.2.1).1 (HY.out.2.2.2.1.ne HY.out.2.2.2.2.1 (by decide))).trans HY.out.2.2.2.2.1
    have c0:w6.cell? ⟨gb,0,none⟩=some (.string ky):=by simp[World.cell?,hn6]
    have cl:=(ah.1 hn6).1
    have hb25:Below wr.heap.size wr (w4.alloc (.cells #[.string tk,.slice po pt.length pc,.bool dp,.bool ex,.string ow,.int .i64 ti] 24)):=HY.out.2.1.trans (HY.out.2.2.1.mono HY.out.2.1.size)
    have hnew:Sz w w.heap.size (.slice (some ⟨pb,o,none⟩) ls.length xc) ls (.slice ao6 (ps.length+1) c6) (.int .i64 ((k+1:Nat):Int)) w6:=by
     refine⟨k+1,ps++[(⟨tk,pt,dp,ex,ow,ti⟩,.slice po pt.length pc)],hkl,rfl,?_,?_,?_,?_,?_⟩
     ·rw[bX,HX.out.1,HX.out.2.2.2.2.2.2.1];rfl
     ·rw[jB,aC]
      simp only[dx,uO,dG,bf,bG]
      exact hown6
     ·intro p hp
      rcases bJ.1 hp with hp|hp
      ·have h1:=HX.out.2.2.1 p hp
       have h2:=dO.below h1 hb25
       exact dO.keep h2 fun g hg hl hn=>⟨hk6.block g hl (fun e=>hn (.inl e)),fun e=>e.elim (hd6 g hl (fun e=>hn (.inl e))) (fun e=>hn (.inr e))⟩
      ·rw[bH.1 hp]
       have h1:=dO.below HY.out.1 HY.out.2.2.1
       have hw2s:=HX.out.2.2.2.2.2.1.size
       have hne:∀g,¬g<w2.heap.size→(Value.slice vo ps.length vc).ownBlock≠some g:=fun g hg e=>hg (ax (HX.out.2.1.1.lt g e).2 hw2s)
       exact dO.keep h1 fun g hg hl hn=>⟨hk6.block g hl (hne g hn),fun e=>e.elim (hd6 g hl (hne g hn)) (fun e=>hn (ax e (aH HX.out.2.2.2.2.1.size hw2s)))⟩
     ·have h2:=HX.out.2.2.2.1.below hb25
      exact h2.keep fun g hg hl hs=>⟨hk6.block g hl (fun e=>aS.Ej h2 HY.out.2.2.2.1 (by decide) g hg e),hs⟩
     ·have h1:=HX.out.2.2.2.2.1
      exact(h1.trans (hb25.mono h1.size)).trans hbb6
    have HNEW:=af hnew
    have hks:ky.size≤61:=by
     have h1:=HX.out.2.2.2.2.2.2.2.2.tok
     rw[←hky.out,sU]
     dsimp only at h1 ⊢
     omega
    have hks2:(⟨#[0]⟩:ByteArray).size=1:=rfl
    clear hnew hn6 hb25 hown6 hk6 hbb6 hd6
    go_wp2_with fail
    go_roundw
    case rel=>exact⟨⟨_,rfl⟩,HNEW.out⟩
    case measure=>simp[intOf];omega
   ·obtain rfl:k=ls.length:=by omega
    have x2:¬(ls.length:Int)<(ls.length:Int):=by omega
    have HX:=af (ay hps (ay hO (ay hpp hbw)))
    obtain⟨vo,vc,rfl,_,_,_,_⟩:=dO.form hO.sW
    clear hps hO hpp hX hbw
    go_wp2_with fail
    go_ret2
    exact⟨_,rfl,ps,by rw[HX.out.1,bU],HX.out.2.1,HX.out.2.2.1,HX.out.2.2.2⟩
def pQ (w:World) (S:Nat→Prop) (v:Value) (ps:List LP):Prop:=dO w S 6 v ps.length (ps.flatMap kF)∧∀p∈ps,jA w S p.2 p.1.path
theorem pQ.SE {w:World} {S:Nat→Prop} {v:Value} {ps:List LP} (h:pQ w S v ps):u7 w S v ps:=⟨h.1,fun p hp=>⟨S,h.2 p hp⟩⟩
theorem pQ.keep {w w':World} {S:Nat→Prop} {v:Value} {ps:List LP} (h:pQ w S v ps) (hk:Keep S w w'):pQ w' S v ps:=
 ⟨dO.keep h.1 fun g _ hl hn=>⟨hk.block g hl hn,hn⟩,fun p hp=>dO.keep (h.2 p hp) fun g _ hl hn=>⟨hk.block g hl hn,hn⟩⟩
theorem pQ.of {w:World} {S:Nat→Prop} {B:Nat} {v:Value} {ps:List LP} (h:aS w fO B 24 6 v ps.length (ps.flatMap kF)) (hp:∀p∈ps,jA w (fun g=>v.ownBlock=some g∨g<B) p.2 p.1.path) (hS:∀g,B≤g→g<w.heap.size→¬S g):pQ w S v ps:=
 ⟨aS.sW (S:=S) ⟨h.1,fun g hg=>hS g (h.1.lt g hg).1 (h.1.lt g hg).2⟩,fun p hq=>dO.keep (hp p hq) fun g _ hl hn=>⟨rfl,hS g (by
  apply jK
  intro hlt
  exact hn (.inr (Nat.lt_of_not_le hlt))) hl⟩⟩
theorem Keep.imp {M M':Nat→Prop} {w w':World} (h:Keep M w w') (hM:∀g,M g→M' g):Keep M' w w':=h.mono fun g _ e=>hM g e
theorem PZ (tk:ByteArray):(⟨#[108]⟩:ByteArray)++tk=jl tk:=by
 unfold jl
 apply BA
 simp
theorem M5 (nb:Nat) (now:Int):RZ 44 #[.pointer (some ⟨nb,0,none⟩)] (fun l=>decide (l.till≤now)) (fun W=>W.cell? ⟨nb,0,none⟩=some (.int .i64 now)∧nb<W.heap.size):=by
 intro l pv T w ⟨hc,hlt⟩ hp
 obtain⟨tk,pt,dp,ex,ow,ti⟩:=l
 obtain⟨po,pc,rfl,_,_,_,_⟩:=dO.form hp
 unfold qN
 dsimp only
 have hb2:=aI w (.cells #[.string tk,.slice po pt.length pc,.bool dp,.bool ex,.string ow,.int .i64 ti] 24)
 have hn2:=aM w (.cells #[.string tk,.slice po pt.length pc,.bool dp,.bool ex,.string ow,.int .i64 ti] 24)
 have c1:=(hb2.cell (p:=⟨nb,0,none⟩) hlt).trans hc
 obtain⟨w2,hw2⟩:∃w2:World,Hid (w.alloc (.cells #[.string tk,.slice po pt.length pc,.bool dp,.bool ex,.string ow,.int .i64 ti] 24)=w2):=⟨_,af rfl⟩
 rw[hw2.out] at hb2 hn2 c1
 obtain⟨gb,hgb⟩:∃gb:Nat,Hid (w.heap.size=gb):=⟨_,af rfl⟩
 rw[hgb.out] at hn2
 obtain⟨e0,e1,e2,e3,e4,e5,le⟩:=dh hn2
 have hl2:=ax hlt hb2.size
 have HB:=af hb2
 clear hb2 hn2 hc hlt
 go_enter Tryz.func44,Tryz.ntmps44
 go_upto_region 1 with (fail)
 rw[hw2.out,hgb.out]
 go_wp2
 go_ret
 exact⟨rfl,HB.out⟩
theorem M6 (nb:Nat) (now:Int):RZ 37 #[.pointer (some ⟨nb,0,none⟩)] (fun l=>decide (l.till≤now)) (fun W=>W.cell? ⟨nb,0,none⟩=some (.int .i64 now)∧nb<W.heap.size):=by
 intro l pv T w ⟨hc,hlt⟩ hp
 obtain⟨tk,pt,dp,ex,ow,ti⟩:=l
 obtain⟨po,pc,rfl,_,_,_,_⟩:=dO.form hp
 unfold qN
 dsimp only
 have hb2:=aI w (.cells #[.string tk,.slice po pt.length pc,.bool dp,.bool ex,.string ow,.int .i64 ti] 24)
 have hn2:=aM w (.cells #[.string tk,.slice po pt.length pc,.bool dp,.bool ex,.string ow,.int .i64 ti] 24)
 have c1:=(hb2.cell (p:=⟨nb,0,none⟩) hlt).trans hc
 obtain⟨w2,hw2⟩:∃w2:World,Hid (w.alloc (.cells #[.string tk,.slice po pt.length pc,.bool dp,.bool ex,.string ow,.int .i64 ti] 24)=w2):=⟨_,af rfl⟩
 rw[hw2.out] at hb2 hn2 c1
 obtain⟨gb,hgb⟩:∃gb:Nat,Hid (w.heap.size=gb):=⟨_,af rfl⟩
 rw[hgb.out] at hn2
 obtain⟨e0,e1,e2,e3,e4,e5,le⟩:=dh hn2
 have hl2:=ax hlt hb2.size
 have HB:=af hb2
 clear hb2 hn2 hc hlt
 go_enter Tryz.func37,Tryz.ntmps37
 go_upto_region 1 with (fail)
 rw[hw2.out,hgb.out]
 go_wp2
 go_ret
 exact⟨rfl,HB.out⟩
theorem MZ (F:Nat→Prop) (v t b:Nat) (ls:List bn) (now:Int) (g:Nat) (cb:Array Value) (so:bn→Bool) (Q:World→Prop) (hent:∀args w,(callFunc g args).run Tryz.prog w= .ok (.enter g args) w) (hso:RZ g cb so Q) (w:World) (h:LT F v t b ls w) (hq:∀w2,Keep (fun x=>¬F x) w w2→Q w2):
  Calls Tryz.prog 36 #[.pointer (some ⟨b,0,none⟩),.int .i64 now,.func (.func g) #[] cb] w fun e w'=>e= .returned (.tuple #[.int .i64 (oJ so now ls ls.length:Nat),.int .i64 0])∧LT F v t b (l7 so ls ls.length) w'∧Keep (fun x=>¬F x) w w':=by
 have HL:=af (Jz F v t b ls w h)
 have H:=af h;have HQ:=af hq;have HSO:=af hso
 clear h hq hso
 go_enter Tryz.func36,Tryz.ntmps36
 go_wp2_with (first
  |(go_at_call 42;go_must (refine HL.out.mono ?_;rintro e w1 ⟨x,rfl,ps,hps,hx,hpp,hb1⟩;refine Stop.of ?_)))
 refine Stop.on ?_
 have hT1:=H.out.next hb1
 have hLF:pQ w1 (fun g=>¬oL F w w1 g) x ps:=pQ.of hx hpp (fun g h1 h2 hn=>hn (.inr ⟨h1,h2⟩))
 have hQ1:∀w2,Keep (fun g=>¬oL F w w1 g) w1 w2→Q w2:=fun w2 hk=>HQ.out w2 ((Keep.of_below hb1 _).trans (hk.imp fun g e hf=>e (.inl hf)) (fun _ _ e=>e))
 have hF1:∀g,F g→oL F w w1 g:=fun g e=> .inl e
 have hk1:Keep (fun x=>¬F x) w w1:=Keep.of_below hb1 _
 generalize oL F w w1=F1 at hT1 hLF hQ1 hF1
 have HX:=af (ay hF1 (ay hQ1 (ay hk1 hLF)))
 obtain⟨lo,lc,rfl,hl1,hl2,_,_⟩:=dO.form hLF.1
 have HPS:=af hps
 have hnl:ls.length=ps.length:=by rw[←hps,dW]
 have HNL:=af hnl
 clear hF1 hQ1 hLF hps hx hpp hb1 hnl hk1
 go_upto_region 4 with (fail)
 go_loopw [10,12,13,14,22] (fun c _ _ _ i wr=>∃k:Nat,k≤ps.length∧i= .int .i64 k∧c= .int .i64 (oJ so now ls k:Nat)∧LT F1 v t b (l7 so ls k) wr∧Keep (fun x=>¬F1 x) w1 wr) (fun _ _ _ _ i _=>ps.length - (intOf i).toNat)
 case atStart=>exact⟨0,aY _,rfl,rfl,by rw[GZ];exact hT1,Keep.refl _ _⟩
 case round=>
  obtain⟨k,hk,rfl,rfl,hTk,hkk⟩:=hrel
  clear hT1
  by_cases hkl:k<ps.length
  ·have hkl':(k:Int)<(ps.length:Int):=by omega
   have hLr:=HX.out.2.2.2.keep hkk
   obtain⟨sb,o,rfl,d0,d1,d2,d3,d4,d5⟩:=hLr.SE.at rfl k hkl
   have hT:=hLr.2 _ (bq hkl)
   have hls:ls[k]'(by rw[HNL.out];exact hkl)=ps[k].1:=by
    have:=HPS.out
    subst this
    simp
   obtain⟨p,hp⟩:∃p,ps[k]=p:=⟨_,rfl⟩
   rw[hp] at d0 d1 d2 d3 d4 d5 hT hls
   have hb2:=aI wr (.cells #[.string p.1.token,p.2,.bool p.1.deep,.bool p.1.excl,.string p.1.owner,.int .i64 p.1.till] 24)
   have hn2:=aM wr (.cells #[.string p.1.token,p.2,.bool p.1.deep,.bool p.1.excl,.string p.1.owner,.int .i64 p.1.till] 24)
   have hbl:=aF wr _ d0
   obtain⟨w2,hw2⟩:∃w2:World,Hid (wr.alloc (.cells #[.string p.1.token,p.2,.bool p.1.deep,.bool p.1.excl,.string p.1.owner,.int .i64 p.1.till] 24)=w2):=⟨_,af rfl⟩
   rw[hw2.out] at hb2 hn2
   have hcc:=HSO.out p.1 p.2 _ w2 (HX.out.2.1 w2 (hkk.trans (Keep.of_below hb2 _) (fun _ _ e=>e))) (dO.below hT hb2)
   unfold qN at hcc
   obtain⟨gb,hgb⟩:∃gb:Nat,Hid (wr.heap.size=gb):=⟨_,af rfl⟩
   rw[hgb.out] at hn2
   have hsn:=Ez (so:=so) (now:=now) (k:=k) (ls:=ls) (by rw[HNL.out];exact hkl)
   have hsk:=G6 (so:=so) (ls:=ls) (k:=k) (by rw[HNL.out];exact hkl)
   have hsd:=Ki (so:=so) (ls:=ls) (k:=k) H.out.ok (by rw[HNL.out];exact hkl)
   have hfit:=H.out.ok.fit p.1 (by rw[←hls];exact bq _)
   rw[hls] at hsn hsk hsd
   obtain⟨C,hC⟩:∃C,Hid (so p.1=C):=⟨_,af rfl⟩
   rw[hC.out] at hcc hsn hsk hsd
   have HCC:=af hcc
   have HM:=af (ay hsn (ay hsk (ay hsd (ay hfit (ay hn2 (ay hb2 (ay hTk hkk)))))))
   have hform:=dO.form hT
   clear hcc hp hT hls hsn hsk hsd hfit hn2 hb2 hTk hkk hLr
   obtain⟨⟨tk,pt,dp,ex,ow,ti⟩,qv⟩:=p
   dsimp only at d0 d1 d2 d3 d4 d5 HCC hC HM hform hw2
   obtain⟨qo,qc,rfl,_,_,_,_⟩:=hform
   go_upto_region 6 with (fail)
   rw[hw2.out,hgb.out]
   obtain⟨e0,e1,e2,e3,e4,e5,le⟩:=dh HM.out.2.2.2.2.1
   clear d0 d1 d2 d3 d4 d5 hbl
   cases C with
   |false=>
    go_wp2_with (first
     |((refine HCC.out.mono ?_);rintro e w3 ⟨rfl,hb3⟩;refine Stop.of ?_))
    refine Stop.on ?_
    have hb23:=HM.out.2.2.2.2.2.1.trans (hb3.mono HM.out.2.2.2.2.2.1.size)
    have HB3:=af hb23
    clear hb3 hb23
    go_wp2_with fail
    go_roundw
    case rel=>
     refine⟨k+1,by omega,by go_num,by rw[HM.out.1];simp,?_,HM.out.2.2.2.2.2.2.2.trans (Keep.of_below HB3.out _) (fun _ _ e=>e)⟩
     rw[HM.out.2.1 (by trivial)]
     exact HM.out.2.2.2.2.2.2.1.below HB3.out
    case measure=>simp[intOf];omega
   |true=>
    go_wp2_with (first
     |((refine HCC.out.mono ?_);rintro e w3 ⟨rfl,hb3⟩;refine Stop.of ?_))
    refine Stop.on ?_
    have hb23:=HM.out.2.2.2.2.2.1.trans (hb3.mono HM.out.2.2.2.2.2.1.size)
    have hgb0:=hgb.out
    have hgl:gb<w3.heap.size:=ax le hb3.size
    have hT3:=(HM.out.2.2.2.2.2.2.1.next hb23).below ((aQ _ w3).drew)
    have hF2:oL F1 wr w3 gb:= .inr ⟨fH hgb0,hgl⟩
    have hF12:∀x,F1 x→oL F1 wr w3 x:=fun x e=> .inl e
    have hk3:Keep (fun x=>¬F1 x) w1 w3.drew:=(HM.out.2.2.2.2.2.2.2.trans (Keep.of_below hb23 _) (fun _ _ e=>e)).drew
    generalize oL F1 wr w3=F2 at hT3 hF2 hF12
    have hd:=HM.out.2.2.1 (by trivial)
    have HDL:=af (hT3.del tk HM.out.2.2.2.1.tok (l7 so ls (k+1)) hd.1 hd.2 (H.out.ok.l7 so (k+1)))
    have hn3:w3.heap[gb]? =_:=(hb3.block gb le).trans HM.out.2.2.2.2.1
    have hobj:w3.heap[b]? =some (.cells #[.pointer (some ⟨t,0,none⟩)] 69 (0,0)):=hT3.obj
    clear e0 e1 e2 e3 e4 e5 le
    obtain⟨e0,e1,e2,e3,e4,e5,le⟩:=dh hn3
    have c0:w3.cell? ⟨b,0,none⟩=some (.pointer (some ⟨t,0,none⟩)):=by simp[World.cell?,hobj]
    have bl:=(ah.1 hobj).1
    have hks:tk.size≤60:=HM.out.2.2.2.1.tok
    have hks2:¬9223372036854775807<1+tk.size:=by omega
    have hla:=PZ tk
    have HK3:=af (ay hk3 (ay hF2 (ay hF12 (ay hn3 hobj))))
    clear hk3 hF2 hF12 hn3 hobj hb3 hb23 hd hgb0 hgl hT3
    go_wp2_with fail
    refine aP (fun W=>W.cell? ⟨b,0,none⟩=some (.pointer (some ⟨t,0,none⟩))∧b<W.heap.size∧W.cell? ⟨gb,0,none⟩=some (.string tk)∧gb<W.heap.size) (fun i=> !([7].contains i)) [0,1,2,3,4,5,6,7,8,9,10,11,12] rfl (by kernel_rfl) ⟨c0,bl,e0,le⟩ ?_
    repeat ((refine bO (v:= ?_) rfl rfl (fun _ _ _ h=>h) rfl (fun W hW=> ?_) ?_);rotate_left;(focus ((try dsimp only at hW);obtain⟨q0,q1,q2,q3⟩:=hW;(go_simp;first|done|with_reducible rfl)));(try simp only[Act.put,aj,au,ak]))
    refine dw rfl rfl rfl ?_;intro K hK;go_simp
    refine HDL.out.mono ?_;rintro e w4 ⟨rfl,hT4,hk4⟩
    have hn4:w4.heap[gb]? =_:=(hk4.block gb (show gb<w3.drew.heap.size from le) (fun e=>e HK3.out.2.1)).trans (show w3.drew.heap[gb]? =_ from HK3.out.2.2.2.1)
    have hobj4:=hT4.obj
    clear e0 e1 e2 e3 e4 e5 le c0 bl
    obtain⟨e0,e1,e2,e3,e4,e5,le⟩:=dh hn4
    have c0:w4.cell? ⟨b,0,none⟩=some (.pointer (some ⟨t,0,none⟩)):=by simp[World.cell?,hobj4]
    have bl:=(ah.1 hobj4).1
    refine hK.out _ _ ⟨c0,bl,e0,le⟩ ?_
    (try simp only[Act.put,aj,au,ak])
    repeat ((refine bO (v:= ?_) rfl rfl (fun _ _ _ h=>h) rfl (fun W hW=> ?_) ?_);rotate_left;(focus ((try dsimp only at hW);skip;(go_simp;first|done|with_reducible rfl)));(try simp only[Act.put,aj,au,ak]))
    refine bR ?_
    have HW4:=af (ay (hT4.sub HK3.out.2.2.1 (HM.out.2.2.2.2.2.2.1.fb)) (HK3.out.1.trans (hk4.imp fun x e hf=>e (HK3.out.2.2.1 x hf)) (fun _ _ e=>e)))
    clear hT4 hk4 hn4 hobj4 c0 bl
    clear hla hks hks2
    have hsn:=HM.out.1
    have hcn:oJ so now ls k≤33:=aH (Kj _ _ _ _) H.out.ok.len
    by_cases htn:now<ti
    ·have hs2:oJ so now ls (k+1)=oJ so now ls k+1:=by rw[hsn,bT htn];rfl
     have HS2:=af hs2
     clear hs2 hsn
     go_wp2_with fail
     go_roundw
     case rel=>exact⟨k+1,by omega,by go_num,by rw[HS2.out];go_num,HW4.out.1,HW4.out.2⟩
     case measure=>simp[intOf];omega
    ·have hs2:oJ so now ls (k+1)=oJ so now ls k:=by rw[hsn,bD htn];rfl
     have HS2:=af hs2
     clear hs2 hsn
     go_wp2_with fail
     go_roundw
     case rel=>exact⟨k+1,by omega,by go_num,by rw[HS2.out],HW4.out.1,HW4.out.2⟩
     case measure=>simp[intOf];omega
  ·obtain rfl:k=ps.length:=by omega
   have x2:¬(ps.length:Int)<(ps.length:Int):=by omega
   have HT:=af (ay hTk hkk)
   clear hTk hkk
   go_wp2_with fail
   go_ret2
   rw[HNL.out]
   have hs:=HT.out.1.sub HX.out.1 H.out.fb
   exact⟨rfl,hs,HX.out.2.2.1.trans (HT.out.2.imp fun g e hf=>e (HX.out.1 g hf)) (fun _ _ e=>e)⟩
theorem lZ (p:LP):(kF p).length=6:=rfl
theorem FW (ps:List LP):(ps.flatMap kF).length=ps.length*6:=by
 induction ps with
 |nil=>rfl
 |cons a l ih=>rw[dx,aC,ih,lZ,bf];omega
theorem KO (p:LP) (h:∃ao n c,p.2= .slice ao n c):∀v∈kF p,v.oneCell'=true:=by
 obtain⟨ao,n,c,e⟩:=h
 intro v hv
 unfold kF at hv
 rw[e] at hv
 simp only[bK,C8,rX] at hv
 rcases hv with rfl|rfl|rfl|rfl|rfl|rfl<;>rfl
def Cs (so:bn→Bool) (p:LP):Bool:= !so p.1
def Jb (so:bn→Bool) (ps:List LP) (tail:List Value) (j i:Nat) (cur:List Value):Prop:=
 ∃Y:List Value,cur=((ps.take j).filter (Cs so)).flatMap kF++(Y++((ps.drop j).flatMap kF++tail))∧i=((ps.take j).filter (Cs so)).length∧i<j∧Y.length=(j - i)*6
theorem Jb.at {so:bn→Bool} {ps:List LP} {tail cur:List Value} {j i:Nat} (h:Jb so ps tail j i cur) (hj:j<ps.length) (k:Nat) (hk:k<6):cur[j*6+k]? =(kF ps[j])[k]? :=by
 obtain⟨Y,rfl,rfl,h1,h2⟩:=h
 have hl:(((ps.take j).filter (Cs so)).flatMap kF++Y).length=j*6:=by rw[aC,FW,h2];omega
 rw[←aL,bV (by rw[hl];omega),hl,eD,bP hj,dx,aL,eP (by rw[lZ];exact hk)]
theorem Jb.skip {so:bn→Bool} {ps:List LP} {tail cur:List Value} {j i:Nat} (h:Jb so ps tail j i cur) (hj:j<ps.length) (hs:so ps[j].1=true):Jb so ps tail (j+1) i cur:=by
 obtain⟨Y,rfl,rfl,h1,h2⟩:=h
 have e:(ps.take (j+1)).filter (Cs so)=(ps.take j).filter (Cs so):=by
  rw[aK hj,lu]
  simp[Cs,hs]
 refine⟨Y++kF ps[j],?_,by rw[e],by omega,by rw[aC,h2,lZ];omega⟩
 rw[e,bP hj,dx]
 simp only[aL]
theorem Jb.move {so:bn→Bool} {ps:List LP} {tail cur:List Value} {j i:Nat} (h:Jb so ps tail j i cur) (hj:j<ps.length) (hs:so ps[j].1=false):Jb so ps tail (j+1) (i+1) (splice cur (i*6) (kF ps[j])):=by
 obtain⟨Y,rfl,rfl,h1,h2⟩:=h
 have e:(ps.take (j+1)).filter (Cs so)=(ps.take j).filter (Cs so)++[ps[j]]:=by
  rw[aK hj,lu]
  simp[Cs,hs]
 have hY:Y=Y.take 6++Y.drop 6:=(bI 6 Y).symm
 refine⟨Y.drop 6++kF ps[j],?_,by rw[e];simp,by omega,by rw[aC,aO,h2,lZ];omega⟩
 rw[e]
 conv=>lhs;rw[hY]
 rw[aL (Y.take 6),nW _ (Y.take 6) _ _ _ (FW _) (by rw[aD,h2,lZ];omega)]
 rw[bP hj,dx,jB]
 simp only[aL,dx,uO,dG]
theorem Jb.start {so:bn→Bool} {ps:List LP} {tail:List Value} {k:Nat} (hk:k<ps.length) (hs:so ps[k].1=true) (hn:∀p∈ps.take k,so p.1=false):Jb so ps tail (k+1) k (ps.flatMap kF++tail):=by
 have e:(ps.take (k+1)).filter (Cs so)=ps.take k:=by
  rw[aK hk,lu,xC.2 (fun p hp=>by unfold Cs;rw[hn p hp];rfl)]
  simp[Cs,hs]
 refine⟨kF ps[k],?_,by rw[e,aD];omega,by omega,by rw[lZ];omega⟩
 rw[e]
 conv=>lhs;rw[←bI k ps,bP hk]
 rw[jB,dx]
 simp only[aL]
theorem Jb.end {so:bn→Bool} {ps:List LP} {tail cur zs:List Value} {i:Nat} (h:Jb so ps tail ps.length i cur) (hz:zs.length=(ps.length - i)*6):(splice cur (i*6) zs).take ((ps.filter (Cs so)).length*6)=(ps.filter (Cs so)).flatMap kF∧i=(ps.filter (Cs so)).length∧i<ps.length∧(splice cur (i*6) zs).length=cur.length:=by
 obtain⟨Y,rfl,rfl,h1,h2⟩:=h
 rw[bU] at*
 refine⟨?_,rfl,h1,?_⟩
 ·rw[nW _ Y _ _ _ (FW _) (by rw[h2,hz]),List.take_left' (FW _)]
 ·rw[nW _ Y _ _ _ (FW _) (by rw[h2,hz])]
  simp only[aC,h2,hz]
def SQ (so:bn→Bool) (ps:List LP) (cur:List Value) (w:World) (cg:Nat) (i j:Value) (wr:World):Prop:=
 ∃(jn iN:Nat) (cr:List Value),jn≤ps.length∧j= .int .i64 jn∧i= .int .i64 iN∧Jb so ps (cur.drop (ps.length*6)) jn iN cr∧Row wr cg 24 cr∧cr.length=cur.length∧Keep (· =cg) w wr
theorem Pm (g:Nat) (cb:Array Value) (so:bn→Bool) (Q:World→Prop) (hent:∀args w,(callFunc g args).run Tryz.prog w= .ok (.enter g args) w) (hso:RZ g cb so Q) (lv:Value) (ps:List LP) (B:Nat) (w:World)
  (h:aS w fO B 24 6 lv ps.length (ps.flatMap kF)) (hpp:∀p∈ps,jA w (fun x=>lv.ownBlock=some x) p.2 p.1.path) (hq:∀w2,Keep (fun x=>lv.ownBlock=some x) w w2→Q w2):
  Calls Tryz.prog 43 #[lv,.func (.func g) #[] cb] w fun e w'=>∃v',e= .returned v'∧aS w' fO B 24 6 v' (ps.filter (Cs so)).length ((ps.filter (Cs so)).flatMap kF)∧v'.ownBlock=lv.ownBlock∧Keep (fun x=>lv.ownBlock=some x) w w':=by
 have hix:=O7 g cb so Q hent hso lv ps _ w ⟨h.sW,fun p hp=>⟨_,hpp p hp⟩⟩ (fun w2 hb=>hq w2 (Keep.of_below hb _))
 have HIX:=af hix
 clear hix
 have hfm:=dO.form h.sW
 obtain⟨lo,lc,rfl,hl1,hl2,_,_⟩:=hfm
 have HO:=af h;have HP:=af hpp;have HQ:=af hq;have HSO:=af hso
 clear h hpp hq hso
 go_enter Tryz.func43,Tryz.ntmps43
 go_wp2_with (first
  |(go_at_call 75;go_must (refine HIX.out.mono ?_;rintro e w1 ⟨⟨z,rfl,⟨rfl,hz2⟩|⟨k,rfl,hk,hsk,hnk⟩⟩,hb1⟩<;>refine Stop.of ?_)))
 ·refine Stop.on ?_
  have HZ:=af (ay hz2 hb1)
  clear hz2 hb1
  go_wp2_with fail
  go_ret
  have hf:ps.filter (Cs so)=ps:=xC.2 fun p hp=>by unfold Cs;rw[HZ.out.1 p hp];rfl
  exact⟨_,rfl,by rw[hf];exact HO.out.below (HZ.out.2.mono (aG _)),rfl,Keep.of_below HZ.out.2 _⟩
 ·refine Stop.on ?_
  obtain⟨cg,cap,hlo,hcap⟩:∃cg cap,(Value.slice lo ps.length lc)= .slice (some ⟨cg,0,none⟩) ps.length cap∧True:=by
   rcases HO.out.1.2 with ⟨h0,_⟩|⟨cg,cap,cur,hv,_⟩
   ·injection h0 with _ e2 _
    omega
   ·exact⟨cg,cap,hv,trivial⟩
  cases hlo
  obtain⟨cur,hr,hcl,hct,hBg,_,hc1,hc2⟩:=HO.out.row
  have hr1:Row w1 cg 24 cur:=hr.keep (Keep.of_below hb1 (fun _=>False)) (fun e=>e)
  have hst:Jb so ps (cur.drop (ps.length*6)) (k+1) k cur:=by
   have:=Jb.start (tail:=cur.drop (ps.length*6)) hk hsk hnk
   rwa [←hct,bI] at this
  have HR:=af (ay hcl (ay hBg (ay hc1 hc2)))
  have hk1:Keep (· =cg) w w1:=Keep.of_below hb1 _
  clear hr hct hcl hBg hsk hnk hb1 hc1 hc2
  have hk12:((k:Int)== -1)=false:=di.2 (by omega)
  go_upto_region 5 with (fail)
  go_loopw [5,6,7] (fun i j _ wr=>SQ so ps cur w cg i j wr) (fun _ j _ _=>ps.length - (intOf j).toNat)
  case atStart=>exact⟨k+1,k,cur,by omega,by go_num,rfl,hst,hr1,rfl,hk1⟩
  case round=>
   obtain⟨jn,iN,cr,hjn,rfl,rfl,hd,hrr,hcr,hkr⟩:=hrel
   clear hst hr1 hk1
   by_cases hjl:jn<ps.length
   ·have hjl':(jn:Int)<(ps.length:Int):=by omega
    have hil:iN<jn:=by obtain⟨_,_,_,h,_⟩:=hd;exact h
    have hil':(iN:Int)<(ps.length:Int):=by omega
    obtain⟨p,hp⟩:∃p,ps[jn]=p:=⟨_,rfl⟩
    have hT:=HP.out _ (bq hjl)
    have hat:=fun (k:Nat) (hk:k<6)=>(hrr.cell (jn*6+k)).trans (hd.at hjl k hk)
    have hmv:=hd.move hjl
    have hskp:=hd.skip hjl
    rw[hp] at hT hat hmv hskp
    have hTr:jA wr (fun x=>some cg=some x) p.2 p.1.path:=dO.keep hT fun g' hg hl hn=>⟨hkr.block g' hl (fun e=>hn (by rw[e];rfl)),fun e=>hn e⟩
    have d0:=hat 0 (by omega);have d1:=hat 1 (by omega);have d2:=hat 2 (by omega);have d3:=hat 3 (by omega);have d4:=hat 4 (by omega);have d5:=hat 5 (by omega)
    have hb2:=aI wr (.cells #[.string p.1.token,p.2,.bool p.1.deep,.bool p.1.excl,.string p.1.owner,.int .i64 p.1.till] 24)
    have hn2:=aM wr (.cells #[.string p.1.token,p.2,.bool p.1.deep,.bool p.1.excl,.string p.1.owner,.int .i64 p.1.till] 24)
    have hbl:=hrr.lt
    obtain⟨w2,hw2⟩:∃w2:World,Hid (wr.alloc (.cells #[.string p.1.token,p.2,.bool p.1.deep,.bool p.1.excl,.string p.1.owner,.int .i64 p.1.till] 24)=w2):=⟨_,af rfl⟩
    rw[hw2.out] at hb2 hn2
    have hq2:=HQ.out w2 ((Keep.mono hkr fun g' _ e=>by rw[e];rfl).trans (Keep.of_below hb2 _) (fun _ _ e=>e))
    have hcc:=HSO.out p.1 p.2 _ w2 hq2 (dO.below hTr hb2)
    unfold qN at hcc
    obtain⟨gb,hgb⟩:∃gb:Nat,Hid (wr.heap.size=gb):=⟨_,af rfl⟩
    rw[hgb.out] at hn2
    have hone:=KO p (by obtain⟨qo,qc,e,_⟩:=dO.form hT;exact⟨_,_,_,e⟩)
    obtain⟨C,hC⟩:∃C,Hid (so p.1=C):=⟨_,af rfl⟩
    rw[hC.out] at hcc hmv hskp
    have HCC:=af hcc
    have HM:=af (ay hmv (ay hskp (ay hone (ay hn2 (ay hb2 (ay hkr (ay hrr hcr)))))))
    have hform:=dO.form hT
    clear hcc hp hT hTr hmv hskp hone hn2 hb2 hat hkr hq2 hrr hcr hd
    obtain⟨⟨tk,pt,dp,ex,ow,ti⟩,qv⟩:=p
    dsimp only at d0 d1 d2 d3 d4 d5 HCC hC hform hw2
    obtain⟨qo,qc,rfl,_,_,_,_⟩:=hform
    simp only[kF,List.getElem?_cons_zero,dX,iK] at d0 d1 d2 d3 d4 d5
    go_upto_region 8 with (fail)
    rw[hw2.out,hgb.out]
    obtain⟨e0,e1,e2,e3,e4,e5,le⟩:=dh HM.out.2.2.2.1
    clear d0 d1 d2 d3 d4 d5 hbl
    cases C with
    |true=>
     go_wp2_with (first
      |((refine HCC.out.mono ?_);rintro e w3 ⟨rfl,hb3⟩;refine Stop.of ?_))
     refine Stop.on ?_
     have hb23:=HM.out.2.2.2.2.1.trans (hb3.mono HM.out.2.2.2.2.1.size)
     have HB3:=af hb23
     clear hb3 hb23 e0 e1 e2 e3 e4 e5
     go_wp2_with fail
     go_roundw
     case rel=>exact⟨jn+1,iN,cr,by omega,by go_num,rfl,HM.out.2.1 (by trivial),HM.out.2.2.2.2.2.2.1.keep (Keep.of_below HB3.out (fun _=>False)) id,HM.out.2.2.2.2.2.2.2,HM.out.2.2.2.2.2.1.trans (Keep.of_below HB3.out _) (fun _ _ e=>e)⟩
     case measure=>simp[intOf];omega
    |false=>
     go_wp2_with (first
      |((refine HCC.out.mono ?_);rintro e w3 ⟨rfl,hb3⟩;refine Stop.of ?_))
     refine Stop.on ?_
     have hb23:=HM.out.2.2.2.2.1.trans (hb3.mono HM.out.2.2.2.2.1.size)
     have HB3:=af hb23
     have hn3:=(hb3.block gb le).trans HM.out.2.2.2.1
     clear e0 e1 e2 e3 e4 e5 le
     obtain⟨e0,e1,e2,e3,e4,e5,le⟩:=dh hn3
     have hr3:Row w3 cg 24 cr:=HM.out.2.2.2.2.2.2.1.keep (Keep.of_below hb23 (fun _=>False)) id
     have hfit:iN*6+[Value.string tk,.slice qo pt.length qc,.bool dp,.bool ex,.string ow,.int .i64 ti].length≤cr.length:=by
      have h1:=HM.out.2.2.2.2.2.2.2
      have h2:=HR.out.1
      have h3:=HR.out.2.2.1
      simp only[bf,bG]
      omega
     have HFT:=af (ay hfit HM.out.2.2.1)
     clear hb3 hb23 hn3 hfit
     go_wp2_with (first
      |((refine dM rfl ?_);intro K hK;(refine wp_store_row 24 (.tmp 33) (.tmp 32) rfl cg (iN*6) 24 cr [Value.string tk,.slice qo pt.length qc,.bool dp,.bool ex,.string ow,.int .i64 ti] rfl rfl hr3 uz HFT.out.1 HFT.out.2 ?_);intro w4 hr4 hk4;refine hK _ _ ?_))
     have hl4:(splice cr (iN*6) [Value.string tk,.slice qo pt.length qc,.bool dp,.bool ex,.string ow,.int .i64 ti]).length=cur.length:=by
      rw[length_splice _ _ _ HFT.out.1];exact HM.out.2.2.2.2.2.2.2
     have HW:=af (ay hr4 (ay hk4 hl4))
     clear hr4 hk4 hl4 hr3 e0 e1 e2 e3 e4 e5
     go_roundw
     case rel=>exact⟨jn+1,iN+1,_,by omega,by go_num,by go_num,HM.out.1 (by trivial),HW.out.1,HW.out.2.2,(HM.out.2.2.2.2.2.1.trans (Keep.of_below HB3.out _) (fun _ _ e=>e)).trans HW.out.2.1 (fun _ _ e=>e)⟩
     case measure=>simp[intOf];omega
   ·obtain rfl:jn=ps.length:=by omega
    have x2:¬(ps.length:Int)<(ps.length:Int):=by omega
    have hil:iN<ps.length:=by obtain⟨_,_,_,h,_⟩:=hd;exact h
    have hcap:=HR.out.2.2.1
    have k1:(0:Int)≤(iN:Int):=by omega
    have k2:(iN:Int)≤(lc:Int):=by omega
    have k3:(iN:Int)≤(ps.length:Int):=by omega
    have k4:¬lc=iN:=by omega
    have hz:∀zs:List Value,zs.length=(ps.length - iN)*6→_:=fun zs hz=>hd.end hz
    have HE:=af (ay hz (ay hcr hkr))
    clear hz hcr hkr hd hcap
    go_wp2_with (first
     |((refine dM rfl ?_);intro K hK;(refine kD (.tmp 38) 26 rfl 24 6 72 _ Tryz.underlying26 CJ rfl cg (iN*6) 24 (ps.length - iN) _ (some ⟨cg,iN*6,none⟩) _ rfl hrr (fun _=>rfl) ?_ ?_ ?_);(focus (rw[HE.out.2.1,HR.out.1];have:=HR.out.2.2.1;omega));(focus (exact jv _ _ (by simp[Value.cells,Value.oneCell']) (by simp[Value.cells])));intro w2 zs hz hr2 hk2;refine hK _ _ ?_))
    go_ret
    obtain⟨q1,q2,q3,q4⟩:=HE.out.1 zs hz
    refine⟨_,rfl,?_,rfl,?_⟩
    ·rw[←q1,←q2]
     exact Row.own hr2 iN (by rw[q4,HE.out.2.1,HR.out.1]) HR.out.2.1 (fun e=>e) (by have:=HR.out.2.2.1;omega) HR.out.2.2.2
    ·exact(HE.out.2.2.trans hk2 (fun _ _ e=>e)).mono fun g' _ e=>by rw[e];rfl
end Go.Proofs.YtpgdljlghiifjaaGreatDoor
namespace Go.Proofs.YtpgdljlghiifjaaGreatDoor
open Go.RowKit Go.Shelf
set_option maxRecDepth 100000
set_option maxHeartbeats 8000000
set_option linter.all false
structure su (w:World) (B b:Nat) (l:List UInt8):Prop where
 lo:B≤b
 at_:∃p v,(p= .pointer none∨p= .pointer (some ⟨b,0,none⟩))∧w.heap[b]? =some (.cells #[p,v] 121 (0,0))∧aS w fO B 5 1 v l.length (aJ l)
theorem su.lt {w:World} {B b:Nat} {l:List UInt8} (h:su w B b l):b<w.heap.size:=by
 obtain⟨_,p,v,_,h4,_⟩:=h
 exact(ah.1 h4).1
theorem Rx:liesAt Tryz.prog Tryz.prog.depth 121 (2/Tryz.prog.cellsOf 121) 0 119 1=true:=by kernel_rfl
theorem ET (B b:Nat) (l:List UInt8) (w:World) (h:su w B b l):
  Calls Tryz.prog 159 #[.pointer (some ⟨b,0,none⟩)] w fun e w'=>e= .returned (.tuple #[])∧(∃v,w'.heap[b]? =some (.cells #[.pointer (some ⟨b,0,none⟩),v] 121 (0,0))∧aS w' fO B 5 1 v l.length (aJ l))∧Keep (· =b) w w':=by
 obtain⟨h2,p,v,h3,h4,h5⟩:=h
 rcases h3 with rfl|rfl
 ·obtain⟨j,hj,hjs⟩:=Option.map_eq_some_iff.1 qH.sizeBuilder
  have c0:w.cell? ⟨b,0,none⟩=some (.pointer none):=by simp[World.cell?,h4]
  have hsh:w.shape? b=some (121,2):=by simp[World.shape?,h4]
  have f0:w.frozen? ⟨b,0,none⟩=false:=by simp[World.frozen?,h4]
  have lt:=(ah.1 h4).1
  go_enter Tryz.func159,Tryz.ntmps159
  go_wp2
  rw[Lib.run_to_unsafe w ⟨b,0,none⟩ Tryz.underlying117 Tryz.underlying302 hj (by rw[hjs];decide) hsh (Nat.zero_lt_succ 1)]
  simp only[Result.andThen]
  rw[Oper.upon_value]
  go_wp2
  rw[qx Tryz.func196 (by kernel_rfl) (by kernel_rfl) (by kernel_rfl) (e:=Extern.AbiNoEscape.same) (by kernel_rfl)]
  rw[Lib.run_noEscape]
  simp only[Result.andThen]
  rw[Oper.upon_value]
  go_wp2
  rw[Lib.run_from_unsafe w ⟨b,0,none⟩ Tryz.underlying302 Tryz.underlying117 hj hsh Rx]
  simp only[Result.andThen]
  rw[Oper.upon_value]
  go_wp2
  go_end0
  have hk:Keep (· =b) w (w.setCell ⟨b,0,none⟩ (.pointer (some ⟨b,0,none⟩))):=(Keep.refl (· =b) _).setCell (p:=⟨b,0,none⟩) (.inr rfl) _
  exact⟨rfl,⟨v,by simp[World.setCell,aW,h4],h5.keep fun g hg hl hs=>⟨hk.block g hl (fun e=>h5.ne h4 (by decide) (by rw[hg,e])),hs⟩⟩,hk⟩
 ·refine(Any.Builder_copyCheck_used yt qH.toX72 b w (by simp[World.cell?,h4])).mono ?_
  rintro e w' ⟨rfl,rfl⟩
  exact⟨rfl,⟨v,h4,h5⟩,Keep.refl _ _⟩
theorem MG {B b n:Nat} {w1 w3:World} {ao:Option Addr} {c:Nat} {v:Value} {l:List UInt8} (hlo:B≤b) (hb:w3.heap[b]? =some (.cells #[.pointer (some ⟨b,0,none⟩),v] 121 (0,0))) (ho:aS w3 fO B 5 1 (.slice ao n c) n (aJ l)) (hn:n=l.length) (hb3:Below B w1 w3):
  su (w3.setCell ⟨b,1,none⟩ (.slice ao n c)) B b l∧Below B w1 (w3.setCell ⟨b,1,none⟩ (.slice ao n c)):=by
 subst hn
 have hk:Keep (· =b) w3 (w3.setCell ⟨b,1,none⟩ (.slice ao l.length c)):=(Keep.refl (· =b) _).setCell (p:=⟨b,1,none⟩) (.inr rfl) _
 exact⟨⟨hlo,_,_,.inr rfl,by simp[World.setCell,aW,hb],ho.keep fun g hg hl hs=>⟨hk.block g hl (fun e=>ho.ne hb (by decide) (by rw[hg,e])),hs⟩⟩,hb3.setCell (p:=⟨b,1,none⟩) hlo _⟩
theorem OQ (B b:Nat) (l:List UInt8) (c:Int) (w:World) (h:su w B b l) (hB:B≤w.heap.size) (hl:l.length≤1000000) (hc:0≤c∧c≤255):
  Calls Tryz.prog 116 #[.pointer (some ⟨b,0,none⟩),.int .u8 c] w fun e w'=>e= .returned .nilIface∧su w' B b (l++[UInt8.ofNat c.toNat])∧Below B w w':=by
 have HC:=af (ET B b l w h)
 have hlo:=h.lo
 clear h
 go_enter Tryz.func116,Tryz.ntmps116
 go_wp2_with (first
  |(go_at_call 159;go_must (refine HC.out.mono ?_;rintro e w1 ⟨rfl,⟨v,hobj,hown⟩,hk1⟩;refine Stop.of ?_)))
 refine Stop.on ?_
 obtain⟨ao,cc,rfl,_,_,_,_⟩:=bE.form hown.dD
 have hbw1:Below B w w1:=hk1.gG hB (fun g hg e=>by have e:g=b:=e;omega)
 have hB1:=aH hB hk1.size
 have c1:w1.cell? ⟨b,1,none⟩=some (.slice ao l.length cc):=by simp[World.cell?,hobj]
 have lt:=(ah.1 hobj).1
 go_wp2_with (first
  |(at_builtin;go_must ((refine dK rfl (.tmp 11) (.tmp 13) 101 101 rfl fO B 5 1 1 (.int .u8 0) Tryz.underlying101 jq rfl (.slice ao l.length cc) _ _ rfl (hown.below (aI _ _)) _ 1 _ rfl (gM [_] _ 1 1 1 (by simp) Tryz.underlying101 rfl ?_) (fun _ h=>h.elim) ?_ ?_ ?_ ?_);(focus (simp[Value.oneCell']));(focus (simp only[aT];omega));(focus (unfold maxLen;omega));(focus omega);intro ao3 c3 w3 hown3 hk3 hb3 hd3;refine Stop.of ?_)))
 refine Stop.on ?_
 have hob3:=(hk3.block b (by simp;omega) (fun e=>by
  have:=hown.ne hobj (by decide)
  exact this e)).trans ((aI w1 _).block b lt|>.trans hobj)
 have d1:w3.cell? ⟨b,1,none⟩=some (.slice ao l.length cc):=by simp[World.cell?,hob3]
 have df:w3.frozen? ⟨b,1,none⟩=false:=by simp[World.frozen?,hob3]
 have dl:=(ah.1 hob3).1
 have hcc:aJ l++[Value.int .u8 c]=aJ (l++[UInt8.ofNat c.toNat]):=by
  rw[gm]
  congr 1
  simp[aJ]
  omega
 rw[hcc] at hown3
 have HE:=af (MG (w1:=w) hlo hob3 hown3 (by simp) ((hbw1.trans ((aI w1 _).mono hB1)).trans hb3))
 clear hown3 hcc
 go_wp2_with fail
 go_ret
 exact⟨rfl,HE.out⟩
theorem Qu (B b:Nat) (l:List UInt8) (s:ByteArray) (w:World) (h:su w B b l) (hB:B≤w.heap.size) (hl:l.length≤1000000) (hs:s.size≤1000000):
  Calls Tryz.prog 117 #[.pointer (some ⟨b,0,none⟩),.string s] w fun e w'=>e= .returned (.tuple #[.int .i64 s.size,.nilIface])∧su w' B b (l++s.data.toList)∧Below B w w':=by
 have HC:=af (ET B b l w h)
 have hlo:=h.lo
 clear h
 go_enter Tryz.func117,Tryz.ntmps117
 go_wp2_with (first
  |(go_at_call 159;go_must (refine HC.out.mono ?_;rintro e w1 ⟨rfl,⟨v,hobj,hown⟩,hk1⟩;refine Stop.of ?_)))
 refine Stop.on ?_
 obtain⟨ao,cc,rfl,_,_,_,_⟩:=bE.form hown.dD
 have hbw1:Below B w w1:=hk1.gG hB (fun g hg e=>by have e:g=b:=e;omega)
 have hB1:=aH hB hk1.size
 have c1:w1.cell? ⟨b,1,none⟩=some (.slice ao l.length cc):=by simp[World.cell?,hobj]
 have lt:=(ah.1 hobj).1
 have hsl:s.data.toList.length=s.size:=by show s.data.toList.length=s.data.size;simp
 go_wp2_with (first
  |(at_builtin;go_must ((refine dK rfl (.tmp 12) (.tmp 13) 101 9 rfl fO B 5 1 1 (.int .u8 0) Tryz.underlying101 jq rfl (.slice ao l.length cc) _ _ rfl hown (.string s) _ _ rfl (Jc _ Tryz.underlying9 _) (fun _ h=>h.elim) ?_ ?_ ?_ ?_);(focus omega);(focus (unfold maxLen;omega));(focus omega);intro ao3 c3 w3 hown3 hk3 hb3 hd3;refine Stop.of ?_)))
 refine Stop.on ?_
 have hob3:=(hk3.block b lt (hown.ne hobj (by decide))).trans hobj
 have d1:w3.cell? ⟨b,1,none⟩=some (.slice ao l.length cc):=by simp[World.cell?,hob3]
 have df:w3.frozen? ⟨b,1,none⟩=false:=by simp[World.frozen?,hob3]
 have dl:=(ah.1 hob3).1
 have hown4:aS w3 fO B 5 1 (.slice ao3 (l.length+s.size) c3) (l.length+s.size) (aJ (l++s.data.toList)):=by rw[gm];exact hown3
 have HE:=af (MG (w1:=w) hlo hob3 hown4 (by rw[aC,hsl]) (hbw1.trans hb3))
 clear hown3 hown4
 go_wp2_with fail
 go_ret2
 exact⟨rfl,HE.out⟩
theorem OO (l:List UInt8) (v:Int) (k:Nat) (hk:k<8):l++(kV v).take k++[UInt8.ofNat (v/(256^k:Nat)%256).toNat]=l++(kV v).take (k+1):=by
 rw[aL,aK (by rw[fP];exact hk)]
 congr 2
 simp[kV]
theorem Qx (v:Int) (k:Nat) (hk:k<8):v/2^(8*(k:Int)).toNat=v/((256^k:Nat):Int):=by
 have h:k=0∨k=1∨k=2∨k=3∨k=4∨k=5∨k=6∨k=7:=by omega
 rcases h with rfl|rfl|rfl|rfl|rfl|rfl|rfl|rfl<;>rfl
theorem Ad (B b:Nat) (l:List UInt8) (v:Int) (w:World) (h:su w B b l) (hB:B≤w.heap.size) (hl:l.length≤900000):
  Calls Tryz.prog 67 #[.pointer (some ⟨b,0,none⟩),.int .i64 v] w fun e w'=>e= .returned (.pointer (some ⟨b,0,none⟩))∧su w' B b (l++kV v)∧Below B w w':=by
 have H:=af h
 clear h
 go_enter Tryz.func67,Tryz.ntmps67
 go_upto_region 2 with fail
 go_loopw [5,6] (fun _ i wr=>∃k:Nat,k≤8∧i= .int .i64 k∧su wr B b (l++(kV v).take k)∧Below B w wr) (fun _ i _=>8 - (intOf i).toNat)
 case atStart=>exact⟨0,by omega,rfl,by rw[gF,dG];exact H.out,aQ _ _⟩
 case round=>
  obtain⟨k,hk,rfl,hP,hbw⟩:=hrel
  have HP:=af (ay hP hbw)
  clear hP hbw
  by_cases hk8:k<8
  ·have hkl:(k:Int)<8:=by omega
   have hlen:(l++(kV v).take k).length≤1000000:=by rw[aC,aD];omega
   have hwd:su wr.drew B b (l++(kV v).take k):=⟨HP.out.1.lo,HP.out.1.at_⟩
   have hBr:B≤wr.drew.heap.size:=aH hB HP.out.2.size
   have hc:=OQ B b (l++(kV v).take k) (v/(256^k:Nat)%256) wr.drew hwd hBr hlen ⟨Int.emod_nonneg _ (by decide),by have:=Ow (v/(256^k:Nat)) (show (0:Int)<256 by decide);omega⟩
   rw[OO l v k hk8] at hc
   have HC:=af hc
   clear hc hwd hlen hBr
   have hm:IntKind.i64.wrap (8*(k:Int))=8*(k:Int):=by rw[ig];omega
   have he0:IntKind.u8.wrap (v/2^(8*(k:Int)).toNat)=v/((256^k:Nat):Int)%256:=by rw[←Qx v k hk8,yC]
   obtain⟨q,hq⟩:∃q,Hid (v/((256^k:Nat):Int)=q):=⟨_,af rfl⟩
   rw[hq.out] at he0 HC
   have he:=af he0
   clear he0
   have hk0:=hk8
   clear hk8
   go_wp2_with fail
   refine aP (fun W=>W=wr.drew) (fun i=> !([8].contains i)) [0,1,2,3,4,5,6,7,8] rfl (by kernel_rfl) rfl ?_
   repeat ((refine bO (v:= ?_) rfl rfl (fun _ _ _ h=>h) rfl (fun W hW=> ?_) ?_);rotate_left;(focus ((try dsimp only at hW);subst hW;(go_simp;first|done|with_reducible rfl)));(try simp only[Act.put,aj,au,ak]))
   refine ja rfl rfl rfl (by kernel_rfl) ?_;intro K hK;go_simp
   rw[he.out]
   refine HC.out.mono ?_;rintro e w4 ⟨rfl,hP4,hb4⟩
   refine hK.out _ _ ?_
   refine bR ?_
   have HP4:=af (ay hP4 (HP.out.2.trans ((aQ B wr).drew.trans hb4)))
   clear hP4 hb4 hm
   go_wp2_with fail
   go_roundw
   case rel=>exact⟨k+1,by omega,by go_num,HP4.out.1,HP4.out.2⟩
   case measure=>simp[intOf];omega
  ·obtain rfl:k=8:=by omega
   go_wp2_with fail
   go_ret
   have e:(kV v).take 8=kV v:=aN (by rw[fP];exact aG 8)
   rw[e] at HP
   exact⟨rfl,HP.out⟩
theorem Js (B b:Nat) (l:List UInt8) (s:ByteArray) (w:World) (h:su w B b l) (hB:B≤w.heap.size) (hl:l.length≤800000) (hs:s.size≤10000):
  Calls Tryz.prog 69 #[.pointer (some ⟨b,0,none⟩),.string s] w fun e w'=>e= .returned (.pointer (some ⟨b,0,none⟩))∧su w' B b (l++kX s)∧Below B w w':=by
 have HN:=af (Ad B b l s.size w h hB (by omega))
 clear h
 go_enter Tryz.func69,Tryz.ntmps69
 go_wp2_with (first
  |(go_at_call 67;go_must (refine HN.out.mono ?_;rintro e w1 ⟨rfl,hP1,hb1⟩;refine Stop.of ?_)))
 refine Stop.on ?_
 have HS:=af (Qu B b _ s w1 hP1 (aH hB hb1.size) (by rw[aC,fP];omega) (by omega))
 have HB1:=af hb1
 have HL:=af (ay hl hs)
 clear hP1 hb1 hl hs
 go_wp2_with (first
  |(go_at_call 117;go_must (refine HS.out.mono ?_;rintro e w2 ⟨rfl,hP2,hb2⟩)))
 go_ret
 refine⟨rfl,?_,HB1.out.trans hb2⟩
 unfold kX
 rw[←aL]
 exact hP2
theorem Kq (B b:Nat) (l:List UInt8) (w:World) (h:su w B b l) (h0:l≠[]):
  Calls Tryz.prog 118 #[.pointer (some ⟨b,0,none⟩)] w fun e w'=>e= .returned (.string ⟨l.toArray⟩)∧Below B w w':=by
 have L:=zN
 have X:=qH
 obtain⟨hlo,p,v,_,hbk,hO⟩:=h
 have hown:=hO.1
 have hl0:l.length≠0:=by simpa using h0
 obtain⟨g,cap,cur,rfl,hbg,hg,hnc,hcm,hcs,htake⟩:∃g cap cur,v= .slice (some ⟨g,0,none⟩) l.length cap∧B≤g∧w.heap[g]? =some (.cells cur (yu.t 5) (0,0))∧l.length≤cap∧cap≤maxLen∧cur.size=cap*1∧cur.toList.take (l.length*1)=Lib.byteCells l:=by
  rcases hown.2 with ⟨_,hz⟩|⟨g,cap,cur,hv,r⟩
  ·exact absurd hz hl0
  ·exact⟨g,cap,cur,hv,r⟩
 have c1:w.drew.cell? ⟨b,1,none⟩=some (.slice (some ⟨g,0,none⟩) l.length cap):=by
  have:w.drew.heap[b]? =some (.cells #[p,.slice (some ⟨g,0,none⟩) l.length cap] 121 (0,0)):=hbk
  rw[Lib.cell_of_heap this];rfl
 have hSD:(Builtin.unsafeSliceData_ #[101] 264 #[.slice (some ⟨g,0,none⟩) l.length cap]).run Tryz.prog w.drew= .ok (.pointer (some ⟨g,0,none⟩)) w.drew:=
  Lib.run_unsafeSliceData_row _ _ _ _ _ _ (by omega)
 have hUS:(Builtin.unsafeString_ #[264,3] 9 #[.pointer (some ⟨g,0,none⟩),.int .i64 l.length]).run Tryz.prog w.drew= .ok (.string ⟨l.toArray⟩) (w.drew.freeze ⟨g,0,none⟩ l.length):=by
  refine Lib.run_unsafeString_row w.drew 264 3 9 (yu.t 5) L.t127 X.cellsByte g cur.size (by have hg':w.drew.heap[g]? =some (.cells cur (yu.t 5) (0,0)):=hg;simp[World.shape?,hg']) l h0 (by omega) (by unfold maxLen at hcm;omega) ?_
  intro j x hx
  have:=hown.cells (g:=g) rfl j (.int .u8 x.toNat) (by simp[aJ,hx])
  exact this
 clear hO hown
 have mixed:=L.mixed
 go_enter Tryz.func118,Tryz.ntmps118
 go_wp2
 go_region_o
 all_goals (go_wp2;go_ret;exact⟨rfl,Lib.below_freeze (Below.drew (aQ B w)) (p:=⟨g,0,none⟩) hbg _⟩)
theorem OP (B b:Nat) (l:List UInt8) (w:World) (h:su w B b l) (h0:l≠[]):
  Calls Tryz.prog 70 #[.pointer (some ⟨b,0,none⟩)] w fun e w'=>e= .returned (.string ⟨l.toArray⟩)∧Below B w w':=by
 have HS:=af (Kq B b l w h h0)
 clear h
 go_enter Tryz.func70,Tryz.ntmps70
 go_wp2_with (first
  |(go_at_call 118;go_must (refine HS.out.mono ?_;rintro e w1 ⟨rfl,hb1⟩)))
 go_ret
 exact⟨rfl,hb1⟩
end Go.Proofs.YtpgdljlghiifjaaGreatDoor
namespace Go.Proofs.YtpgdljlghiifjaaGreatDoor
open Go.RowKit
set_option maxRecDepth 100000
set_option maxHeartbeats 8000000
set_option linter.all false
theorem JC (b:Bool) (w:World):Calls Tryz.prog 68 #[.bool b] w fun e w'=>e= .returned (.int .i64 (nR b))∧w'=w:=by
 go_enter Tryz.func68,Tryz.ntmps68
 cases b with
 |true=>
  go_wp2
  go_ret
  exact⟨rfl,rfl⟩
 |false=>
  go_wp2
  go_ret
  exact⟨rfl,rfl⟩
theorem KL (w:World):Calls Tryz.prog 25 #[.pointer none] w fun e w'=>e= .returned (.pointer none)∧w'=w:=by
 go_enter Tryz.func25,Tryz.ntmps25
 go_wp2
 go_ret
 exact⟨rfl,rfl⟩
theorem Rw (t:Nat) (w:World):Calls Tryz.prog 25 #[.pointer (some ⟨t,0,none⟩)] w fun e w'=>e= .returned (.pointer (some ⟨w.heap.size,0,none⟩))∧w'.heap[w.heap.size]? =some (.cells #[.pointer (some ⟨t,0,none⟩)] 69 (0,0))∧Below w.heap.size w w':=by
 go_enter Tryz.func25,Tryz.ntmps25
 go_wp2
 go_ret
 exact⟨rfl,aM w _,aI w _⟩
theorem KM (l:bn) (pv:Value) (T:Nat→Prop) (w:World) (hp:jA w T pv l.path) (hf:l.Fit):
  Calls Tryz.prog 39 #[qN l pv] w fun e w'=>e= .returned (.string (strOf l.enc))∧Below w.heap.size w w':=by
 obtain⟨tk,pt,dp,ex,ow,ti⟩:=l
 obtain⟨h1,h2,h3,h4,h5⟩:=hf
 dsimp only at hp h1 h2 h3 h4 h5
 obtain⟨po,pc,rfl,hn1,hn2,_,_⟩:=dO.form hp
 have hbA:=aI w (.cells #[.string tk,.slice po pt.length pc,.bool dp,.bool ex,.string ow,.int .i64 ti] 24)
 have hnA:=aM w (.cells #[.string tk,.slice po pt.length pc,.bool dp,.bool ex,.string ow,.int .i64 ti] 24)
 obtain⟨wA,hwA⟩:∃wA:World,Hid (w.alloc (.cells #[.string tk,.slice po pt.length pc,.bool dp,.bool ex,.string ow,.int .i64 ti] 24)=wA):=⟨_,af rfl⟩
 rw[hwA.out] at hbA hnA
 obtain⟨lb,hlb⟩:∃lb:Nat,Hid (w.heap.size=lb):=⟨_,af rfl⟩
 have HB0:=af hbA
 have HP:=af (dO.below hp hbA)
 rw[hlb.out] at hnA
 obtain⟨e0,e1,e2,e3,e4,e5,le⟩:=dh hnA
 have HF:=af (ay h1 (ay h2 (ay h3 (ay h4 h5))))
 clear hbA hp hnA h1 h2 h3 h4 h5
 unfold qN
 dsimp only
 go_enter Tryz.func39,Tryz.ntmps39
 go_upto_region 1 with (fail)
 rw[hwA.out,hlb.out]
 refine aP (fun W=>Below wA.heap.size wA W) (fun i=> !([0,3,6,7,10,11,14,18].contains i)) [1,2,4,5,8,9,12,13,15,16,17,0,3,6,7,10,11,14,18,19] rfl (by kernel_rfl) ((aQ _ wA).drew) ?_
 repeat ((refine bO (v:= ?_) rfl rfl (fun _ _ _ h=>h) rfl (fun W hW=> ?_) ?_);rotate_left;(focus ((try dsimp only at hW);have q1:=(hW.cell (p:=⟨lb,1,none⟩) le).trans e1;have q2:=(hW.cell (p:=⟨lb,2,none⟩) le).trans e2;have q3:=(hW.cell (p:=⟨lb,3,none⟩) le).trans e3;have q4:=(hW.cell (p:=⟨lb,4,none⟩) le).trans e4;have q5:=(hW.cell (p:=⟨lb,5,none⟩) le).trans e5;have q6:=ax le hW.size;(go_simp;first|done|with_reducible rfl)));(try simp only[Act.put,aj,au,ak]))
 refine dw rfl rfl rfl ?_;intro K hK;go_simp
 have hbW:=(aI wA (.cells #[.pointer none,.slice none 0 0] 121)).drew
 have hP0:su (wA.alloc (.cells #[.pointer none,.slice none 0 0] 121)).drew wA.heap.size wA.heap.size []:=⟨aG _,_,_,.inl rfl,aM wA _,aS.nil _ _ _ _ _⟩
 refine hK.out _ _ hbW ?_
 (try simp only[Act.put,aj,au,ak])
 have hbs:=hbW.size
 generalize (wA.alloc (.cells #[.pointer none,.slice none 0 0] 121)).drew=w1 at hP0 hbW hbs ⊢
 obtain⟨gb,hgb⟩:∃gb:Nat,Hid (wA.heap.size=gb):=⟨_,af rfl⟩
 rw[hgb.out] at hP0 hbs hbW
 rw[hgb.out]
 have HP0:=af hP0
 clear hP0
 refine dw rfl rfl rfl ?_;intro K hK;go_simp
 refine(Ad gb gb _ ti w1 HP0.out hbs (by simp)).mono ?_;rintro e w2 ⟨rfl,hP2,hb2⟩
 have hbW2:Below gb wA w2:=hbW.trans hb2
 have hbs2:gb≤w2.heap.size:=aH (fH hgb.out.symm) hbW2.size
 refine hK.out _ _ hbW2 ?_
 (try simp only[Act.put,aj,au,ak])
 refine dw rfl rfl rfl ?_;intro K hK;go_simp
 refine(JC dp _).mono ?_;rintro e w' ⟨rfl,hw⟩;rw[hw]
 refine hK.out _ _ hbW2 ?_
 (try simp only[Act.put,aj,au,ak])
 refine dw rfl rfl rfl ?_;intro K hK;go_simp
 refine(Ad gb gb _ (nR dp) w2 hP2 hbs2 (by simp[fP,jP]<;>(have:=HF.out.2.2.2.1;omega))).mono ?_;rintro e w3 ⟨rfl,hP3,hb3⟩
 have hbW3:Below gb wA w3:=hbW2.trans hb3
 have hbs3:gb≤w3.heap.size:=aH (fH hgb.out.symm) hbW3.size
 refine hK.out _ _ hbW3 ?_
 (try simp only[Act.put,aj,au,ak])
 refine dw rfl rfl rfl ?_;intro K hK;go_simp
 refine(JC ex _).mono ?_;rintro e w' ⟨rfl,hw⟩;rw[hw]
 refine hK.out _ _ hbW3 ?_
 (try simp only[Act.put,aj,au,ak])
 refine dw rfl rfl rfl ?_;intro K hK;go_simp
 refine(Ad gb gb _ (nR ex) w3 hP3 hbs3 (by simp[fP,jP]<;>(have:=HF.out.2.2.2.1;omega))).mono ?_;rintro e w4 ⟨rfl,hP4,hb4⟩
 have hbW4:Below gb wA w4:=hbW3.trans hb4
 have hbs4:gb≤w4.heap.size:=aH (fH hgb.out.symm) hbW4.size
 refine hK.out _ _ hbW4 ?_
 (try simp only[Act.put,aj,au,ak])
 refine dw rfl rfl rfl ?_;intro K hK;go_simp
 refine(Js gb gb _ ow w4 hP4 hbs4 (by simp[fP,jP]) (by have:=HF.out.2.2.2.1;omega)).mono ?_;rintro e w5 ⟨rfl,hP5,hb5⟩
 have hbW5:Below gb wA w5:=hbW4.trans hb5
 have hbs5:gb≤w5.heap.size:=aH (fH hgb.out.symm) hbW5.size
 refine hK.out _ _ hbW5 ?_
 (try simp only[Act.put,aj,au,ak])
 refine dw rfl rfl rfl ?_;intro K hK;go_simp
 refine(Ad gb gb _ pt.length w5 hP5 hbs5 (by simp[fP,jP]<;>(have:=HF.out.2.2.2.1;omega))).mono ?_;rintro e w6 ⟨rfl,hP6,hb6⟩
 have hbW6:Below gb wA w6:=hbW5.trans hb6
 have hbs6:gb≤w6.heap.size:=aH (fH hgb.out.symm) hbW6.size
 refine hK.out _ _ hbW6 ?_
 (try simp only[Act.put,aj,au,ak])
 repeat ((refine bO (v:= ?_) rfl rfl (fun _ _ _ h=>h) rfl (fun W hW=> ?_) ?_);rotate_left;(focus ((try dsimp only at hW);skip;(go_simp;first|done|with_reducible rfl)));(try simp only[Act.put,aj,au,ak]))
 refine bR ?_
 have hl0:([]++kV ti++kV (nR dp)++kV (nR ex)++kX ow++kV pt.length).length≤600:=by
  simp only[aC,fP,jP,bG]
  have:=HF.out.2.2.2.1
  omega
 generalize hL:[]++kV ti++kV (nR dp)++kV (nR ex)++kX ow++kV pt.length=L0 at hP6 hl0
 have HL:=af (ay hL hl0)
 have HP6:=af (ay hP6 hbW6)
 have hl6:lb<gb:=hgb.out▸le
 have q1:w6.cell? ⟨lb,1,none⟩=some (.slice po pt.length pc):=(hbW6.cell (p:=⟨lb,1,none⟩) hl6).trans e1
 have q2:lb<w6.heap.size:=ax le hbW6.size
 clear hl6 e0 e1 e2 e3 e4 e5 le
 clear hP2 hP3 hP4 hP5 hP6 hb2 hb3 hb4 hb5 hb6 hbW2 hbW3 hbW4 hbW5 hbW6 hbs2 hbs3 hbs4 hbs5 hbs6 hbW hbs hL hl0
 go_wp2_with fail
 go_loopw [5,28] (fun _ i wr=>∃k:Nat,k≤pt.length∧i= .int .i64 k∧su wr gb gb (L0++(pt.take k).flatMap kX)∧Below gb wA wr) (fun _ i _=>pt.length - (intOf i).toNat)
 case atStart=>exact⟨0,aY _,rfl,by rw[gF,uO,dG];exact HP6.out.1,HP6.out.2⟩
 case round=>
  obtain⟨k,hk,rfl,hPk,hbk⟩:=hrel
  by_cases hkl:k<pt.length
  ·have hkl':(k:Int)<(pt.length:Int):=by omega
   have hbk':Below wA.heap.size wA wr:=hgb.out▸hbk
   obtain⟨ga,oa,rfl,da⟩:=dO.yx (dO.below HP.out hbk') rfl k (.string pt[k]) (by rw[cZ,aZ hkl];rfl)
   have la:=aF wr _ da
   have htk:(pt.take (k+1)).flatMap kX=(pt.take k).flatMap kX++kX pt[k]:=by rw[aK hkl,jB];simp
   have hsz:=HF.out.2.2.1 pt[k] (bq hkl)
   have hlen:=Cb (pt.take k) (fun s hs=>HF.out.2.2.1 s (dZ hs))
   obtain⟨sg,hsg⟩:∃sg,Hid (pt[k]=sg):=⟨_,af rfl⟩
   rw[hsg.out] at da htk hsz
   have HT:=af (Js gb gb _ sg wr hPk (aH (fH hgb.out.symm) hbk.size) (by have:=HL.out.2;have:=HF.out.2.1;rw[aC];rw[aD] at hlen;omega) (by omega))
   have HX:=af (ay htk hbk)
   clear hPk hbk hbk' htk hsz hlen
   go_wp2_with (first
    |(go_at_call 69;go_must (refine HT.out.mono ?_;rintro e w7 ⟨rfl,hP7,hb7⟩)))
   have HP7:=af (ay hP7 hb7)
   clear hP7 hb7
   go_roundw
   case rel=>exact⟨k+1,by omega,by go_num,by rw[HX.out.1,←aL];exact HP7.out.1,HX.out.2.trans HP7.out.2⟩
   case measure=>simp[intOf];omega
  ·obtain rfl:k=pt.length:=by omega
   have x2:¬(pt.length:Int)<(pt.length:Int):=by omega
   rw[bU] at hPk
   have hne:L0++pt.flatMap kX≠[]:=by
    rw[←HL.out.1]
    intro e
    have:=congrArg List.length e
    simp only[aC,fP,jP,bG] at this
    omega
   have HD:=af (OP gb gb _ wr hPk hne)
   have HX:=af (ay hbk hgb.out)
   clear hPk hbk hne
   go_wp2_with (first
    |(go_at_call 70;go_must (refine HD.out.mono ?_;rintro e w7 ⟨rfl,hb7⟩)))
   go_ret
   refine⟨?_,?_⟩
   ·rw[←HL.out.1]
    simp only[bn.enc,strOf,gB,aL]
    rfl
   ·have h1:=HX.out.1.trans hb7
    rw[←hgb.out] at h1
    have h0:=HB0.out
    exact h0.trans (h1.mono h0.size)
theorem M4 (now:Int) (ps:List LP):(ps.filter (Cs fun l=>decide (l.till≤now))).map (·.1)=live now (ps.map (·.1)):=by
 unfold live
 rw[List.filter_map]
 congr 1
 apply List.filter_congr
 intro p _
 show (!decide (p.1.till≤now))=decide (now<p.1.till)
 by_cases h:p.1.till≤now
 ·rw[bT h,bD (by omega)];rfl
 ·rw[bD h,bT (by omega)];rfl
theorem G5 (now:Int) (ls:List bn):l7 (fun l=>decide (l.till≤now)) ls ls.length=live now ls:=by
 rw[Kh]
 unfold live
 apply List.filter_congr
 intro l _
 by_cases h:l.till≤now
 ·rw[bT h,bD (by omega)];rfl
 ·rw[bD h,bT (by omega)];rfl
theorem QE (F:Nat→Prop) (v t b:Nat) (ls:List bn) (now:Int) (w:World) (h:LT F v t b ls w):
  Calls Tryz.prog 21 #[.pointer (some ⟨b,0,none⟩),.int .i64 now] w fun e w'=>∃x,e= .returned (.tuple #[x,.int .i64 0])∧R4 w (live now ls) x w':=by
 have hb1:=aI w (.cells #[.int .i64 now] 2)
 have hn1:=aM w (.cells #[.int .i64 now] 2)
 obtain⟨w1,hw1⟩:∃w1:World,Hid (w.alloc (.cells #[.int .i64 now] 2)=w1):=⟨_,af rfl⟩
 rw[hw1.out] at hb1 hn1
 obtain⟨nb,hnb⟩:∃nb:Nat,Hid (w.heap.size=nb):=⟨_,af rfl⟩
 rw[hnb.out] at hn1
 have c1:w1.cell? ⟨nb,0,none⟩=some (.int .i64 now):=by simp[World.cell?,hn1]
 have hnl:=(ah.1 hn1).1
 have HL:=af (Jz F v t b ls w1 (h.below hb1))
 have HX:=af (ay hb1 (ay c1 (ay hnl h)))
 clear h hb1 hn1 c1 hnl
 go_enter Tryz.func21,Tryz.ntmps21
 go_upto_region 1 with (fail)
 rw[hw1.out,hnb.out]
 go_wp2_with (first
  |(go_at_call 42;go_must (refine HL.out.mono ?_;rintro e w2 ⟨x,rfl,ps,hps,hx,hpp,hb2⟩;refine Stop.of ?_)))
 refine Stop.on ?_
 have hlen:ps.length≤33:=by
  have:=HX.out.2.2.2.ok.len
  rw[←hps,dW] at this
  exact this
 have hq:∀w3,Keep (fun y=>x.ownBlock=some y) w2 w3→w3.cell? ⟨nb,0,none⟩=some (.int .i64 now)∧nb<w3.heap.size:=by
  intro w3 hk
  have h1:=HX.out.2.2.1
  have h2:=ax h1 hb2.size
  have hne:¬x.ownBlock=some nb:=fun e=>by
   have:=hx.lo nb e
   omega
  exact⟨(hk.cell (p:=⟨nb,0,none⟩) h2 hne).trans ((hb2.cell (p:=⟨nb,0,none⟩) h1).trans HX.out.2.1),ax h2 hk.size⟩
 have HD:=af (Pm 44 #[.pointer (some ⟨nb,0,none⟩)] (fun l=>decide (l.till≤now)) _ (fun _ _=>rfl) (M5 nb now) x ps w1.heap.size w2 hx (fun p hp=>dO.keep (hpp p hp) fun g _ _ hn=>⟨rfl,fun e=>hn (.inl e)⟩) hq)
 have HY:=af (ay hps (ay hx (ay hpp hb2)))
 have hform:=dO.form hx.sW
 clear hps hpp hb2 hlen hq hx
 obtain⟨xo,xc,rfl,_,_,_,_⟩:=hform
 go_wp2_with (first
  |(go_at_call 43;go_must (refine HD.out.mono ?_;rintro e w3 ⟨v',rfl,hv',hob,hk3⟩)))
 go_ret2
 have hw:=hnb.out
 have hbA:=HX.out.1
 have hB:=HY.out.2.2.2
 refine⟨_,rfl,_,?_,hv'.lower hbA.size,fun p hp=> ?_,?_⟩
 ·rw[M4,HY.out.1]
 ·have hp':=(Gz.1 hp).1
  refine dO.keep (HY.out.2.2.1 p hp') fun g hg hl hn=>⟨hk3.block g hl (fun e=>hn (.inl e)),fun e=>hn (e.imp (fun e=>hob▸e) (fun e=>ax e hbA.size))⟩
 ·refine(hbA.trans (hB.mono hbA.size)).trans (hk3.gG (aH hbA.size hB.size) fun g hg e=> ?_)
  have:=HY.out.2.1.lo g e
  have:=hbA.size
  omega
end Go.Proofs.YtpgdljlghiifjaaGreatDoor
namespace Go.Proofs.YtpgdljlghiifjaaGreatDoor
open Go.RowKit Go.Shelf
set_option maxRecDepth 100000
set_option maxHeartbeats 8000000
set_option linter.all false
theorem K7 (s:ByteArray) (pos:Nat) (h:pos<s.size) (ha:128≤(s.get! pos).toNat):
  pos+(Utf8.decode s pos).2≤s.size∧∀j,pos≤j→j<pos+(Utf8.decode s pos).2→128≤(s.get! j).toNat:=by
 rw[Lib.decode_at]
 unfold Lib.decodeN
 split
 ·omega
 split
 ·split
  ·refine⟨by dsimp only;omega,fun j h1 h2=> ?_⟩
   dsimp only at h2
   have h3:j=pos∨j=pos+1:=by omega
   rcases h3 with rfl|rfl<;>omega
  ·refine⟨by dsimp only;omega,fun j h1 h2=> ?_⟩
   dsimp only at h2
   obtain rfl:j=pos:=by omega
   exact ha
 split
 ·split
  ·refine⟨by dsimp only;omega,fun j h1 h2=> ?_⟩
   dsimp only at h2
   have h3:j=pos∨j=pos+1∨j=pos+2:=by omega
   rcases h3 with rfl|rfl|rfl<;>omega
  ·refine⟨by dsimp only;omega,fun j h1 h2=> ?_⟩
   dsimp only at h2
   obtain rfl:j=pos:=by omega
   exact ha
 split
 ·split
  ·refine⟨by dsimp only;omega,fun j h1 h2=> ?_⟩
   dsimp only at h2
   have h3:j=pos∨j=pos+1∨j=pos+2∨j=pos+3:=by omega
   rcases h3 with rfl|rfl|rfl|rfl<;>omega
  ·refine⟨by dsimp only;omega,fun j h1 h2=> ?_⟩
   dsimp only at h2
   obtain rfl:j=pos:=by omega
   exact ha
 ·refine⟨by dsimp only;omega,fun j h1 h2=> ?_⟩
  dsimp only at h2
  obtain rfl:j=pos:=by omega
  exact ha
theorem JG (s:ByteArray) (j:Nat) (h:j<s.size):s.data.toList[j]? =some (s.get! j):=by
 rw[Utf8W.get!_of_lt s j h]
 exact Lib.data_getElem? s j h
theorem Pd {b:UInt8} (h:128≤b.toNat):([47,0]:List UInt8).contains b=false:=by
 cases hc:([47,0]:List UInt8).contains b with
 |false=>rfl
 |true=>
  have:=List.contains_iff_mem.1 hc
  simp at this
  rcases this with rfl|rfl<;>exact absurd h (by decide)
theorem Ih {s:ByteArray} {i n:Nat} (h:Lib.NoAny s.data.toList [47,0] i) (hs:i+n≤s.size) (hh:∀j,i≤j→j<i+n→128≤(s.get! j).toNat):Lib.NoAny s.data.toList [47,0] (i+n):=fun j b hj hb=>by
 by_cases e:j<i
 ·exact h j b e hb
 ·rw[JG s j (by omega)] at hb
  rw[←iY hb]
  exact Pd (hh j (by omega) hj)
section
variable {P:Program} {ρ:Ren}
theorem run_next_at (W:World) (b:Nat) (s:ByteArray) (pos:Nat) (ty:TypeId) (hW:W.heap[b]? =some (.stringIter s pos)) (h:pos<s.size):
  (Instr.next (.pointer (some ⟨b,0,none⟩)) true ty).run P W= .ok (.tuple #[.bool true,.int .i64 pos,.int .i32 (Utf8.decode s pos).1]) {W with heap:=W.heap.setIfInBounds b (.stringIter s (pos+(Utf8.decode s pos).2))}:=by
 simp only[Instr.next,getObj,setObj,jH,Sem.run,hW,Result.andThen,h,iT]
 simp[goInt]
theorem BH (W:World) (b:Nat) (s:ByteArray) (pos:Nat) (ty:TypeId) (hW:W.heap[b]? =some (.stringIter s pos)) (h:¬pos<s.size):
  (Instr.next (.pointer (some ⟨b,0,none⟩)) true ty).run P W= .ok (.tuple #[.bool false]) W:=by
 simp[Instr.next,getObj,Sem.run,hW,h]
end
theorem Ny (r:Int) (h:128≤r):(∃x y:UInt8,Utf8.encode r=⟨#[x,y]⟩∧128≤y.toNat)∨(3≤(Utf8.encode r).size∧(Utf8.encode r).size≤4):=by
 unfold Utf8.encode
 have hc:128≤(if Utf8.valid r=true then r.toNat else Utf8.runeError):=by
  split
  ·omega
  ·decide
 generalize (if Utf8.valid r=true then r.toNat else Utf8.runeError)=c at hc
 dsimp only
 split
 ·omega
 split
 ·refine .inl ⟨_,_,rfl,?_⟩
  rw[eG]
  omega
 split
 ·exact .inr ⟨aG 3,by show 3≤4;omega⟩
 ·exact .inr ⟨by show 3≤4;omega,aG 4⟩
theorem O0 {P:Program} (w:World) (ty:TypeId):(Instr.next (.pointer (some ⟨w.heap.size,0,none⟩)) true ty).run P (w.iter ⟨#[47,0]⟩ 0)= .ok (.tuple #[.bool true,.int .i64 0,.int .i32 47]) (w.iter ⟨#[47,0]⟩ 1):=run_next_ascii w ⟨#[47,0]⟩ 0 ty (by decide) (by decide)
theorem QB {P:Program} (w:World) (ty:TypeId):(Instr.next (.pointer (some ⟨w.heap.size,0,none⟩)) true ty).run P (w.iter ⟨#[47,0]⟩ 1)= .ok (.tuple #[.bool true,.int .i64 1,.int .i32 0]) (w.iter ⟨#[47,0]⟩ 2):=run_next_ascii w ⟨#[47,0]⟩ 1 ty (by decide) (by decide)
theorem QA {P:Program} (w:World) (ty:TypeId):(Instr.next (.pointer (some ⟨w.heap.size,0,none⟩)) true ty).run P (w.iter ⟨#[47,0]⟩ 2)= .ok (.tuple #[.bool false]) (w.iter ⟨#[47,0]⟩ 2):=run_next_end w ⟨#[47,0]⟩ 2 ty (by decide)
theorem O8 (r:Int) (w:World) (h0:128≤r) (h1:r≤2147483647):
  Calls Tryz.prog 164 #[.string ⟨#[47,0]⟩,.int .i32 r] w fun e w'=>e= .returned (.int .i64 (-1))∧Below w.heap.size w w':=by
 have h0z:¬r<128:=by omega
 have h0y:(0:Int)≤r:=by omega
 by_cases h65:r=65533
 ·subst h65
  go_enter Tryz.func164,Tryz.ntmps164
  go_upto_region 38 with (fail)
  go_loopg [5,6] 2 (fun g _ _ wx=>(g=2∧wx=w.iter ⟨#[47,0]⟩ 0)∨(g=1∧wx=w.iter ⟨#[47,0]⟩ 1)∨(g=0∧wx=w.iter ⟨#[47,0]⟩ 2))
  case atStart=>exact .inl ⟨rfl,rfl⟩
  case round=>
   have n0:=O0 (P:=Tryz.prog) w;have n1:=QB (P:=Tryz.prog) w;have n2:=QA (P:=Tryz.prog) w
   rcases hrel with ⟨rfl,rfl⟩|⟨rfl,rfl⟩|⟨rfl,rfl⟩
   ·go_wp2_with fail
    go_roundg 1
    case measure=>omega
    case rel=>exact .inr (.inl ⟨rfl,rfl⟩)
   ·go_wp2_with fail
    go_roundg 0
    case measure=>omega
    case rel=>exact .inr (.inr ⟨rfl,rfl⟩)
   ·go_wp2_with fail
    go_ret
    exact⟨rfl,aI w _⟩
 ·have h65b:(r==65533)=false:=di.2 h65
  cases hv:Lib.validRune r with
  |false=>
   go_enter Tryz.func164,Tryz.ntmps164
   go_wp2_with (go_at_call 198;refine(Any.utf8_ValidRune (ρ:=mq) {vL with} _ _).mono ?_;rintro e w' ⟨rfl,hw⟩;rw[hw,hv])
   go_ret
   exact⟨rfl,aQ _ _⟩
  |true=>
   have hcv:∀W:World,(Go.convert 21 9 (.int .i32 r)).run Tryz.prog W= .ok (.string (Utf8.encode r)) W:=fun W=>run_convert_int_string W _ _ _ _ (by kernel_rfl) Tryz.underlying9
   rcases Ny r h0 with ⟨x,y,he,hy⟩|⟨hs3,hs4⟩
   ·have hy0:((0:Int)==(y.toNat:Int))=false:=di.2 (by omega)
    have hsz:(⟨#[x,y]⟩:ByteArray).size=2:=rfl
    have hb1:(⟨#[47,0]⟩:ByteArray)[1]'(by decide)=0:=rfl
    have hb2:(⟨#[x,y]⟩:ByteArray)[1]'(by show 1<2;decide)=y:=rfl
    have hw2:IntKind.i64.wrap 2=2:=rfl
    have hxt:(⟨#[47,0]⟩:ByteArray).extract 2 2=⟨#[]⟩:=by decide
    have hib:∀(c:Int) (W:World),Calls Tryz.prog 197 #[.string ⟨#[]⟩,.int .u8 c] W fun e w'=>e= .returned (.int .i64 (-1))∧w'=W:=fun c W=>Any.strings_IndexByte (ρ:=mq) {vL with} ⟨#[]⟩ c W
    rw[he] at hcv
    go_enter Tryz.func164,Tryz.ntmps164
    go_upto_region 5 with (go_at_call 198;refine(Any.utf8_ValidRune (ρ:=mq) {vL with} _ _).mono ?_;rintro e w' ⟨rfl,hw⟩;rw[hw,hv])
    refine R7 ?_
    go_upto_region 5 with (fail)
    go_loopw [9,10,11,12] (fun i _ _ _ wr=>i= .int .i64 1∧wr=w) (fun _ _ _ _ _=>0)
    case atStart=>exact⟨rfl,rfl⟩
    case round=>
     obtain⟨rfl,hwr⟩:=hrel
     subst wr
     go_wp2_with (fail)
     refine R7 ?_
     go_wp2_with (fail)
     refine aP (fun W=>W=w.drew) (fun _=>true) [0,1,2,3,4,5,6] rfl (by kernel_rfl) rfl ?_
     repeat ((refine bO (v:= ?_) rfl rfl (fun _ _ _ h=>h) rfl (fun W hW=> ?_) ?_);rotate_left;(focus ((try dsimp only at hW);subst hW;(go_simp;first|done|with_reducible rfl)));(try simp only[Act.put,aj,au,ak]))
     refine bR ?_
     go_wp2_with (fail)
     refine aP (fun W=>W=w.drew.drew) (fun i=> !([7].contains i)) [0,1,2,3,4,5,6,7,8] rfl (by kernel_rfl) rfl ?_
     repeat ((refine bO (v:= ?_) rfl rfl (fun _ _ _ h=>h) rfl (fun W hW=> ?_) ?_);rotate_left;(focus ((try dsimp only at hW);subst hW;(go_simp;first|done|with_reducible rfl)));(try simp only[Act.put,aj,au,ak]))
     refine dw rfl rfl rfl ?_;intro K hK;go_simp
     refine(hib _ _).mono ?_;rintro e w4 ⟨rfl,hw4⟩;subst w4
     refine hK.out _ _ rfl ?_
     repeat ((refine bO (v:= ?_) rfl rfl (fun _ _ _ h=>h) rfl (fun W hW=> ?_) ?_);rotate_left;(focus ((try dsimp only at hW);subst hW;(go_simp;first|done|with_reducible rfl)));(try simp only[Act.put,aj,au,ak]))
     refine bR ?_
     go_wp2_with (fail)
     dsimp (config:={zetaDelta:=true}) only[Exit.noGoto,Exit.inBlock,Exit.then]
     go_ret
     exact⟨rfl,((aQ _ w).drew).drew⟩
   ·have h3:¬((Utf8.encode r).size:Int) - 1<2:=by omega
    have h4:(0:Int)≤((Utf8.encode r).size:Int) - 1:=by omega
    obtain⟨E,hE⟩:∃E,Hid (Utf8.encode r=E):=⟨_,af rfl⟩
    rw[hE.out] at hcv h3 h4 hs3 hs4
    have hw64:wrap64 ((E.size:Int) - 1)=(E.size:Int) - 1:=by unfold wrap64;omega
    go_enter Tryz.func164,Tryz.ntmps164
    go_upto_region 5 with (go_at_call 198;refine(Any.utf8_ValidRune (ρ:=mq) {vL with} _ _).mono ?_;rintro e w' ⟨rfl,hw⟩;rw[hw,hv])
    refine R7 ?_
    go_upto_region 5 with (fail)
    go_loopw [9,10,11,12] (fun i _ _ _ wr=>i= .int .i64 ((E.size:Int) - 1)∧wr=w) (fun _ _ _ _ _=>0)
    case atStart=>exact⟨by first|rfl|(rw[hw64])|go_num,rfl⟩
    case round=>
     obtain⟨rfl,hwr⟩:=hrel
     subst wr
     go_wp2_with (fail)
     dsimp only[Exit.noGoto]
     go_ret
     exact⟨rfl,aQ _ _⟩
theorem QG (r:Int) (w:World) (h0:0≤r) (h1:r≤2147483647):
  Calls Tryz.prog 164 #[.string ⟨#[47,0]⟩,.int .i32 r] w fun e w'=>(∃z:Int,e= .returned (.int .i64 z)∧(r<128→z=Lib.indexByte [47,0] r.toNat.toUInt8)∧(128≤r→z= -1))∧Below w.heap.size w w':=by
 by_cases h:r<128
 ·have hc:Calls Tryz.prog 164 #[.string ⟨#[47,0]⟩,.int .i32 r] w _:=Any.strings_IndexRune_ascii (ρ:=mq) {vL with} ⟨#[47,0]⟩ r w h0 h
  refine hc.mono ?_
  rintro e w' ⟨rfl,rfl⟩
  exact⟨⟨_,rfl,fun _=>rfl,fun e=>absurd h (by omega)⟩,aQ _ _⟩
 ·refine(O8 r w (by omega) h1).mono ?_
  rintro e w' ⟨rfl,hb⟩
  exact⟨⟨_,rfl,fun e=>absurd e h,fun _=>rfl⟩,hb⟩
theorem BP (b:UInt8):([47,0]:List UInt8).contains b=decide (0≤Lib.indexByte [47,0] b):=Lib.contains_iff_indexByte [47,0] b
theorem Nl (s:ByteArray) (w:World) (h8:s.size≤8):
  Calls Tryz.prog 127 #[.string s,.string ⟨#[47,0]⟩] w fun e w'=>e= .returned (.int .i64 (Lib.indexAny s.data.toList [47,0]))∧Below w.heap.size w w':=by
 have hse:∀w,Calls Tryz.prog 165 #[.int .i64 s.size] w fun e w'=>e= .returned (.bool false)∧w'=w:=fun w=>by
  have:=Any.strings_shouldUseASCIISet (P:=Tryz.prog) (ρ:=mq) {vL with} s.size w
  rw[bD (by omega)] at this
  exact this
 have hcs:(⟨#[47,0]⟩:ByteArray).size=2:=rfl
 go_enter Tryz.func127,Tryz.ntmps127
 go_wp2_with (go_at_call 165;refine(hse _).mono ?_;rintro e w' ⟨rfl,hw⟩;rw[hw])
 go_loopg [9,10] (s.size+1) (fun g _ _ wx=>∃i:Nat,i≤s.size∧g=s.size+1 - i∧wx.heap[w.heap.size]? =some (.stringIter s i)∧Below w.heap.size w wx∧Lib.NoAny s.data.toList [47,0] i)
 case atStart=>exact⟨0,aY _,rfl,World.iter_heap w s 0,aI w _,Lib.NoAny.zero _ _⟩
 case round=>
  obtain⟨i,hi,rfl,hit,hb,hno⟩:=hrel
  by_cases hil:i<s.size
  ·have hnx:=fun ty=>run_next_at (P:=Tryz.prog) wr w.heap.size s i ty hit hil
   have hle:=decode_le s i
   have hgb:s.get! i=s[i]'hil:=Utf8W.get!_of_lt s i hil
   have hat:=JG s i hil
   have hb1:Below w.heap.size w {wr with heap:=wr.heap.setIfInBounds w.heap.size (.stringIter s (i+(Utf8.decode s i).2))}:=by
    refine⟨hb.os,hb.tape,hb.output,by simpa using hb.size,fun k hk=> ?_⟩
    rw[←hb.block k hk]
    simp only[vQ]
    rw[if_neg (by omega)]
   have hlt:=(ah.1 hit).1
   have hit1:({wr with heap:=wr.heap.setIfInBounds w.heap.size (.stringIter s (i+(Utf8.decode s i).2))}:World).heap[w.heap.size]? =some (.stringIter s (i+(Utf8.decode s i).2)):=by
    simp only[vQ]
    simp[hlt]
   obtain⟨W1,hW1⟩:∃W1:World,{wr with heap:=wr.heap.setIfInBounds w.heap.size (.stringIter s (i+(Utf8.decode s i).2))}=W1:=⟨_,rfl⟩
   rw[hW1] at hb1 hit1
   simp only[hW1] at hnx
   have hcase:(((Utf8.decode s i).1:Int)<128∧((Utf8.decode s i).1:Int).toNat.toUInt8=s.get! i∧(Utf8.decode s i).2=1)∨(128≤((Utf8.decode s i).1:Int)∧1≤(Utf8.decode s i).2∧i+(Utf8.decode s i).2≤s.size∧Lib.NoAny s.data.toList [47,0] (i+(Utf8.decode s i).2)):=by
    by_cases h128:(s[i]'hil).toNat<128
    ·left
     rw[decode_ascii s i hil h128,hgb]
     exact⟨by dsimp only;omega,by simp,rfl⟩
    ·right
     have h1:=decode_high s i hil (by omega)
     have h2:=K7 s i hil (by rw[hgb];omega)
     exact⟨by omega,h1.2,h2.1,Ih hno h2.1 h2.2⟩
   obtain⟨r,hr⟩:∃r,(Utf8.decode s i).1=r:=⟨_,rfl⟩
   obtain⟨n,hn⟩:∃n,(Utf8.decode s i).2=n:=⟨_,rfl⟩
   rw[hr,hn] at hcase
   rw[hn] at hit1
   simp only[hr] at hnx
   rw[hr] at hle
   have HIR:=af (QG r W1 (by omega) (by omega))
   have hcb:=BP (s.get! i)
   have HX:=af (ay hcase (ay hno (ay hat (ay hcb (ay hit1 hb1)))))
   clear hcase hno hat hcb hit1 hb1 hr hn hgb hle hlt hit hb hW1
   go_wp2_with (first
    |(go_at_call 164;go_must (refine HIR.out.mono ?_;rintro e w3 ⟨⟨z,rfl,hz1,hz2⟩,hb3⟩;refine Stop.of ?_)))
   refine Stop.on ?_
   have hit3:=(hb3.block w.heap.size (ah.1 HX.out.2.2.2.2.1).1).trans HX.out.2.2.2.2.1
   have HY:=af (ay hit3 (HX.out.2.2.2.2.2.trans (hb3.mono HX.out.2.2.2.2.2.size)))
   clear hit3 hb3
   by_cases hz:(0:Int)≤z
   ·have hr:Lib.indexAny s.data.toList [47,0]=i:=by
     rcases HX.out.1 with ⟨h1,h2,_⟩|⟨h1,_⟩
     ·have h3:=hz1 h1
      rw[h2] at h3
      refine Lib.indexAny_hit HX.out.2.1 HX.out.2.2.1 ?_
      rw[HX.out.2.2.2.1,←h3]
      exact bT hz
     ·have:=hz2 h1
      omega
    have HR:=af hr
    clear hr hz1 hz2
    go_wp2_with (fail)
    go_ret
    exact⟨by rw[HR.out];rfl,HY.out.2⟩
   ·have hno':Lib.NoAny s.data.toList [47,0] (i+n)∧1≤n∧i+n≤s.size:=by
     rcases HX.out.1 with ⟨h1,h2,rfl⟩|⟨_,h2,h3,h4⟩
     ·have h3:=hz1 h1
      rw[h2] at h3
      refine⟨HX.out.2.1.succ HX.out.2.2.1 ?_,aG _,by omega⟩
      rw[HX.out.2.2.2.1,←h3]
      exact bD hz
     ·exact⟨h4,h2,h3⟩
    have HR:=af hno'
    clear hno' hz1 hz2
    go_wp2_with (fail)
    go_roundg (s.size+1 - (i+n))
    case measure=>have:=HR.out;omega
    case rel=>exact⟨i+n,HR.out.2.2,rfl,HY.out.1,HY.out.2,HR.out.1⟩
  ·obtain rfl:i=s.size:=by omega
   have hnx:=fun ty=>BH (P:=Tryz.prog) wr w.heap.size s s.size ty hit (dI _)
   have HX:=af (ay hno hb)
   clear hno hb hit
   go_wp2_with (fail)
   go_ret
   exact⟨by rw[Lib.indexAny_none (by rw[←Lib.size_eq];exact HX.out.1)];rfl,HX.out.2⟩
theorem QH (s:ByteArray) (w:World) (hs:s.size≤64):
  Calls Tryz.prog 127 #[.string s,.string ⟨#[47,0]⟩] w fun e w'=>e= .returned (.int .i64 (Lib.indexAny s.data.toList [47,0]))∧Below w.heap.size w w':=by
 by_cases h8:s.size≤8
 ·exact Nl s w h8
 ·have hc:Calls Tryz.prog 127 #[.string s,.string ⟨#[47,0]⟩] w _:=Any.strings_IndexAny_long (ρ:=mq) {vL with} (zero_of_info Ms).1 (zero_of_info Ms).2 s ⟨#[47,0]⟩ w (by decide) (by omega) (by omega) (by decide) (fun j b hb=>by
   have:b=47∨b=0:=by
    have:=oP hb
    simpa using this
   rcases this with rfl|rfl<;>decide)
  refine hc.mono ?_
  rintro e w' ⟨rfl,hw⟩
  refine⟨rfl,?_⟩
  rw[hw]
  exact((aQ _ _).alloc (aG _) _).alloc (by simp) _
theorem QT (s:ByteArray) (w:World) (hs:s.size≤64):
  Calls Tryz.prog 77 #[.string s,.string ⟨#[47,0]⟩] w fun e w'=>e= .returned (.bool (Lib.containsAny s.data.toList [47,0]))∧Below w.heap.size w w':=by
 have HI:=af (QH s w hs)
 unfold Lib.containsAny
 obtain⟨z,hz⟩:∃z,Lib.indexAny s.data.toList [47,0]=z:=⟨_,rfl⟩
 rw[hz] at HI ⊢
 clear hz
 go_enter Tryz.func77,Tryz.ntmps77
 go_wp2_with (first
  |(go_at_call 127;go_must (refine HI.out.mono ?_;rintro e w1 ⟨rfl,hb1⟩)))
 go_ret
 exact⟨rfl,hb1⟩
def tV (w:World):Prop:=Lib.Utf8Tabs (mq.g 3) (mq.g 4) w
theorem tV.below {w w':World} (h:tV w) (hb:Below w.heap.size w w'):tV w':=Utf8Tabs_below h hb
theorem Ch {s:ByteArray}:decide (0<s.size)= !s.toList.isEmpty:=by
 have hb:=uL s
 rw[Lib.toList_data]
 cases h:s.data.toList with
 |nil=>
  rw[h,bG] at hb
  rw[←hb];rfl
 |cons a l=>
  rw[h,bf] at hb
  rw[bT (by omega)];rfl
theorem Eu (s:ByteArray) (w:World) (hs:s.size≤9223372036854775807) (hT:tV w):
  Calls Tryz.prog 46 #[.string s] w fun e w'=>e= .returned (.bool (Hr s))∧Below w.heap.size w w':=by
 have hv0:Calls Tryz.prog 76 #[.string s] w fun e w'=>e= .returned (.bool (Lib.validD s.data.toList))∧Below w.heap.size w w':=Any.utf8_ValidString LY s w hs hT
 have HV:=af hv0
 have HC:=af (fun (W:World) (h:s.size≤64)=>QT s W h)
 have tl:∀l:List UInt8,s.toList=l↔s=⟨l.toArray⟩:=fun l=>by
  rw[Lib.toList_data]
  constructor
  ·intro h;cases s;exact congrArg ByteArray.mk (qB (by simpa using h))
  ·intro h;rw[h]
 have t1:=tl [46]
 have t2:=tl [46,46]
 unfold Hr
 rw[Ch]
 obtain⟨V,hV⟩:∃V,Lib.validD s.data.toList=V:=⟨_,rfl⟩
 obtain⟨C,hC⟩:∃C,Lib.containsAny s.data.toList [47,0]=C:=⟨_,rfl⟩
 rw[hV] at HV ⊢
 rw[hC] at HC ⊢
 clear hv0 hV hC hT tl
 obtain⟨D1,hD1⟩:∃D,decide (s=⟨#[46]⟩)=D:=⟨_,rfl⟩
 obtain⟨D2,hD2⟩:∃D,decide (s=⟨#[46,46]⟩)=D:=⟨_,rfl⟩
 rw[hD1,hD2]
 have f1:(s.toList=[46])=(D1=true):=by rw[←hD1,bY];exact propext t1
 have f2:(s.toList=[46,46])=(D2=true):=by rw[←hD2,bY];exact propext t2
 clear hD1 hD2 t1 t2
 obtain⟨E,hE⟩:∃E,s.toList.isEmpty=E:=⟨_,rfl⟩
 rw[hE]
 go_enter Tryz.func46,Tryz.ntmps46
 cases E with
 |true=>
  go_wp2
  go_ret
  exact⟨rfl,aQ _ _⟩
 |false=>
  cases D1 with
  |true=>
   have g1:s.toList=[46]:=f1▸rfl
   clear f1 f2
   go_wp2
   go_ret
   exact⟨rfl,aQ _ _⟩
  |false=>
   have g1:¬s.toList=[46]:=by rw[f1];simp
   cases D2 with
   |true=>
    have g2:s.toList=[46,46]:=f2▸rfl
    clear f1 f2
    go_wp2
    go_ret
    exact⟨rfl,aQ _ _⟩
   |false=>
    have g2:¬s.toList=[46,46]:=by rw[f2];simp
    clear f1 f2
    by_cases h64:s.size≤64
    ·have hz:(s.size:Int)≤64:=by omega
     rw[bT h64]
     cases V with
     |false=>
      go_wp2_with (first
       |(go_at_call 76;go_must (refine HV.out.mono ?_;rintro e w1 ⟨rfl,hb1⟩)))
      go_ret
      exact⟨rfl,hb1⟩
     |true=>
      go_wp2_with (first
       |(go_at_call 76;go_must (refine HV.out.mono ?_;rintro e w1 ⟨rfl,hb1⟩))
       |(go_at_call 77;go_must (refine(HC.out _ h64).mono ?_;rintro e w2 ⟨rfl,hb2⟩)))
      go_ret
      exact⟨by simp[g1,g2],hb1.trans (hb2.mono hb1.size)⟩
    ·have hz:¬(s.size:Int)≤64:=by omega
     rw[bD h64]
     go_wp2
     go_ret
     exact⟨rfl,aQ _ _⟩
theorem L6 (pv:Value) (path:List ByteArray) (S:Nat→Prop) (w:World) (hp:jA w S pv path) (hs:∀s∈path,s.size≤9223372036854775807) (hT:tV w):
  Calls Tryz.prog 27 #[pv] w fun e w'=>e= .returned (.bool (wU path))∧Below w.heap.size w w':=by
 obtain⟨po,pc,rfl,h1,h2,_,_⟩:=dO.form hp
 have HP:=af hp;have HS:=af hs;have HT:=af hT
 obtain⟨R,hR⟩:∃R,Hid (wU path=R):=⟨_,af rfl⟩
 rw[hR.out]
 clear hp hs hT
 go_enter Tryz.func27,Tryz.ntmps27
 go_upto_region 2 with (fail)
 go_loopw [4,7] (fun _ i wr=>∃k:Nat,k≤path.length∧i= .int .i64 k∧(path.take k).all Hr=true∧Below w.heap.size w wr) (fun _ i _=>path.length - (intOf i).toNat)
 case atStart=>exact⟨0,aY _,rfl,rfl,aQ _ _⟩
 case round=>
  obtain⟨k,hk,rfl,hall,hbw⟩:=hrel
  by_cases hkl:k<path.length
  ·have hkl':(k:Int)<(path.length:Int):=by omega
   obtain⟨ga,oa,rfl,da⟩:=dO.yx (dO.below HP.out hbw) rfl k (.string path[k]) (by rw[cZ,aZ hkl];rfl)
   have la:=aF wr _ da
   have htk:path.take (k+1)=path.take k++[path[k]]:=aK hkl
   have hsz:=HS.out path[k] (bq hkl)
   have hmem:=bq hkl
   obtain⟨sg,hsg⟩:∃sg,Hid (path[k]=sg):=⟨_,af rfl⟩
   rw[hsg.out] at da htk hsz hmem
   have hsc:=Eu sg wr hsz (HT.out.below hbw)
   obtain⟨C,hC⟩:∃C,Hid (Hr sg=C):=⟨_,af rfl⟩
   rw[hC.out] at hsc
   have HSC:=af hsc
   have HX:=af (ay htk (ay hall (ay hbw hmem)))
   clear hsc htk hall hbw hmem hsz
   cases C with
   |false=>
    have hr:R=false:=by
     rw[←hR.out]
     unfold wU
     rw[GD]
     left
     rw[List.all_eq_false]
     exact⟨sg,HX.out.2.2.2,by rw[hC.out];simp⟩
    go_wp2_with (first
     |(go_at_call 46;go_must (refine HSC.out.mono ?_;rintro e w3 ⟨rfl,hb3⟩)))
    go_ret
    exact⟨by simp[hr],HX.out.2.2.1.trans (hb3.mono HX.out.2.2.1.size)⟩
   |true=>
    go_wp2_with (first
     |(go_at_call 46;go_must (refine HSC.out.mono ?_;rintro e w3 ⟨rfl,hb3⟩)))
    have HB3:=af (HX.out.2.2.1.trans (hb3.mono HX.out.2.2.1.size))
    clear hb3
    go_roundw
    case rel=>
     refine⟨k+1,by omega,by go_num,?_,HB3.out⟩
     rw[HX.out.1,List.all_append,HX.out.2.1]
     simp[hC.out]
    case measure=>simp[intOf];omega
  ·obtain rfl:k=path.length:=by omega
   have x2:¬(path.length:Int)<(path.length:Int):=by omega
   rw[bU] at hall
   have HX:=af (ay hall hbw)
   clear hall hbw
   by_cases h12:path.length≤12
   ·have hz:(path.length:Int)≤12:=by omega
    have hr:R=true:=by rw[←hR.out];unfold wU;rw[HX.out.1,bT h12];rfl
    clear h12
    go_wp2_with (fail)
    go_ret
    exact⟨by simp[hr],HX.out.2⟩
   ·have hz:¬(path.length:Int)≤12:=by omega
    have hr:R=false:=by rw[←hR.out];unfold wU;rw[HX.out.1,bD h12];rfl
    clear h12
    go_wp2_with (fail)
    go_ret
    exact⟨by simp[hr],HX.out.2⟩
def bn.Bl (l:bn):Prop:=l.token.size≤9223372036854775807∧l.owner.size≤9223372036854775807∧∀s∈l.path,s.size≤9223372036854775807
theorem O4 (l:bn) (pv:Value) (S:Nat→Prop) (w:World) (hp:jA w S pv l.path) (hs:l.Bl) (hT:tV w):
  Calls Tryz.prog 10 #[qN l pv] w fun e w'=>e= .returned (.bool l.good)∧Below w.heap.size w w':=by
 obtain⟨R,hR⟩:∃R,Hid (l.good=R):=⟨_,af rfl⟩
 rw[hR.out]
 obtain⟨tk,pt,dp,ex,ow,ti⟩:=l
 obtain⟨h1,h2,h3⟩:=hs
 dsimp only at hp h1 h2 h3
 obtain⟨po,pc,rfl,hn1,hn2,_,_⟩:=dO.form hp
 have hbA:=aI w (.cells #[.string tk,.slice po pt.length pc,.bool dp,.bool ex,.string ow,.int .i64 ti] 24)
 have hnA:=aM w (.cells #[.string tk,.slice po pt.length pc,.bool dp,.bool ex,.string ow,.int .i64 ti] 24)
 obtain⟨wA,hwA⟩:∃wA:World,Hid (w.alloc (.cells #[.string tk,.slice po pt.length pc,.bool dp,.bool ex,.string ow,.int .i64 ti] 24)=wA):=⟨_,af rfl⟩
 rw[hwA.out] at hbA hnA
 obtain⟨lb,hlb⟩:∃lb:Nat,Hid (w.heap.size=lb):=⟨_,af rfl⟩
 rw[hlb.out] at hnA
 obtain⟨e0,e1,e2,e3,e4,e5,le⟩:=dh hnA
 have hug:=L6 (.slice po pt.length pc) pt S wA (dO.below hp hbA) h3 (hT.below hbA)
 have HB:=af hbA
 have hz1:(tk.size:Int)≤9223372036854775807:=by omega
 have hz2:(ow.size:Int)≤9223372036854775807:=by omega
 have HZ:=af (ay h1 (ay hz1 hz2))
 clear hbA hp hnA h1 h2 h3 hT hz1 hz2
 unfold qN
 dsimp only
 go_enter Tryz.func10,Tryz.ntmps10
 go_upto_region 1 with (fail)
 rw[hwA.out,hlb.out]
 go_upto_region 2 with (fail)
 go_loopw [3,4,8] (fun _ _ i wr=>∃k:Nat,k≤tk.size∧i= .int .i64 k∧(tk.data.toList.take k).all zJ=true∧wr=wA) (fun _ _ i _=>tk.size - (intOf i).toNat)
 case atStart=>exact⟨0,aY _,rfl,rfl,rfl⟩
 case round=>
  obtain⟨k,hk,rfl,hall,hwr⟩:=hrel
  subst wr
  by_cases hkl:k<tk.size
  ·have hkl':(k:Int)<(tk.size:Int):=by omega
   obtain⟨x,hx⟩:∃x:UInt8,tk[k]'hkl=x:=⟨_,rfl⟩
   have hxl:tk.data.toList[k]? =some x:=by rw[←hx];exact Lib.data_getElem? tk k hkl
   have hkl2:k<tk.data.toList.length:=by rw[uL];exact hkl
   have htk:tk.data.toList.take (k+1)=tk.data.toList.take k++[x]:=by
    rw[aK hkl2]
    rw[aZ hkl2] at hxl
    rw[iY hxl]
   have bad:zJ x=false→R=false:=by
    intro hx
    rw[←hR.out]
    unfold bn.good
    rw[GD]
    left
    rw[List.all_eq_false]
    exact⟨x,oP hxl,by rw[hx];simp⟩
   have HX:=af (ay htk (ay hall bad))
   clear htk hall bad hxl hkl2
   have hcs:zJ x=true∨x.toNat<33∨(33≤x.toNat∧126<x.toNat)∨x.toNat=60∨x.toNat=62:=by
    by_cases h:zJ x=true
    ·exact .inl h
    ·right
     unfold zJ at h
     rw[bY] at h
     omega
   rcases hcs with hc|hc|hc|hc|hc
   ·have hc2:=hc
    unfold zJ at hc2
    rw[bY] at hc2
    have q1:¬(x.toNat:Int)<33:=by omega
    have q2:¬(126:Int)<(x.toNat:Int):=by omega
    have q3:((x.toNat:Int)==60)=false:=di.2 (by omega)
    have q4:((x.toNat:Int)==62)=false:=di.2 (by omega)
    have HC:=af hc
    have hz1:=HZ.out.1
    clear hc hc2
    go_wp2_with (fail)
    go_roundw
    case rel=>
     refine⟨k+1,by omega,by go_num,?_,by trivial⟩
     rw[HX.out.1,List.all_append,HX.out.2.1]
     simp[HC.out]
    case measure=>simp[intOf];omega
   ·have q1:(x.toNat:Int)<33:=by omega
    have hr:=HX.out.2.2 (by unfold zJ;rw[bD];omega)
    go_wp2_with (fail)
    go_ret
    exact⟨by simp[hr],HB.out⟩
   ·have q1:¬(x.toNat:Int)<33:=by omega
    have q2:(126:Int)<(x.toNat:Int):=by omega
    have hr:=HX.out.2.2 (by unfold zJ;rw[bD];omega)
    go_wp2_with (fail)
    go_ret
    exact⟨by simp[hr],HB.out⟩
   ·have q1:¬(x.toNat:Int)<33:=by omega
    have q2:¬(126:Int)<(x.toNat:Int):=by omega
    have q3:((x.toNat:Int)==60)=true:=nP.2 (by omega)
    have hr:=HX.out.2.2 (by unfold zJ;rw[bD];omega)
    clear hc
    go_wp2_with (fail)
    go_ret
    exact⟨by simp[hr],HB.out⟩
   ·have q1:¬(x.toNat:Int)<33:=by omega
    have q2:¬(126:Int)<(x.toNat:Int):=by omega
    have q3:((x.toNat:Int)==60)=false:=di.2 (by omega)
    have q4:((x.toNat:Int)==62)=true:=nP.2 (by omega)
    have hr:=HX.out.2.2 (by unfold zJ;rw[bD];omega)
    clear hc
    go_wp2_with (fail)
    go_ret
    exact⟨by simp[hr],HB.out⟩
  ·obtain rfl:k=tk.size:=by omega
   have x2:¬(tk.size:Int)<(tk.size:Int):=by omega
   rw[←uL,bU] at hall
   have hr:R=(!tk.toList.isEmpty && (decide (tk.size≤60) && (wU pt && decide (ow.size≤512)))):=by
    rw[←hR.out,←Ch]
    unfold bn.good
    rw[hall]
    rfl
   have HR:=af hr
   obtain⟨G,hG⟩:∃G,Hid (wU pt=G):=⟨_,af rfl⟩
   rw[hG.out] at hug HR
   have HUG:=af hug
   obtain⟨E,hE⟩:∃E,tk.toList.isEmpty=E:=⟨_,rfl⟩
   rw[hE] at HR
   clear hr hall hug
   cases E with
   |true=>
    go_wp2_with (fail)
    go_ret
    exact⟨by simp[HR.out],HB.out⟩
   |false=>
    by_cases h60:tk.size≤60
    ·have q1:(tk.size:Int)≤60:=by omega
     rw[bT h60] at HR
     clear h60
     cases G with
     |false=>
      go_wp2_with (first
       |(go_at_call 27;go_must (refine HUG.out.mono ?_;rintro e w3 ⟨rfl,hb3⟩)))
      go_ret
      exact⟨by simp[HR.out],HB.out.trans (hb3.mono HB.out.size)⟩
     |true=>
      by_cases h512:ow.size≤512
      ·have q2:(ow.size:Int)≤512:=by omega
       rw[bT h512] at HR
       clear h512
       go_wp2_with (first
        |(go_at_call 27;go_must (refine HUG.out.mono ?_;rintro e w3 ⟨rfl,hb3⟩;have c4:=(hb3.cell (p:=⟨lb,4,none⟩) le).trans e4;have l4:=ax le hb3.size)))
       go_ret
       exact⟨by simp[HR.out],HB.out.trans (hb3.mono HB.out.size)⟩
      ·have q2:¬(ow.size:Int)≤512:=by omega
       rw[bD h512] at HR
       clear h512
       go_wp2_with (first
        |(go_at_call 27;go_must (refine HUG.out.mono ?_;rintro e w3 ⟨rfl,hb3⟩;have c4:=(hb3.cell (p:=⟨lb,4,none⟩) le).trans e4;have l4:=ax le hb3.size)))
       go_ret
       exact⟨by simp[HR.out];omega,HB.out.trans (hb3.mono HB.out.size)⟩
    ·have q1:¬(tk.size:Int)≤60:=by omega
     rw[bD h60] at HR
     clear h60
     go_wp2_with (fail)
     go_ret
     exact⟨by simp[HR.out],HB.out⟩
end Go.Proofs.YtpgdljlghiifjaaGreatDoor
