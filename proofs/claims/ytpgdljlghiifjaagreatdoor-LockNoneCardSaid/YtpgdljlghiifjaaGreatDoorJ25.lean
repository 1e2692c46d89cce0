/- parts -/
import Derived.Test.YtpgdljlghiifjaaGreatDoorJ23
import Derived.Test.YtpgdljlghiifjaaGreatDoorJ24
import Derived.Test.YtpgdljlghiifjaaGreatDoorRows
import Derived.Deep.Strs
import Derived.Lib.SmallJoins
import Derived.Lib.LaidU8T
import Derived.Lib.LaidIn
import Derived.ProofKit
import Derived.LaidLaws
import Derived.Stop.Joined
import Derived.MakeChecks
namespace Go.Proofs.YtpgdljlghiifjaaGreatDoor
open Go.RowKit
set_option maxRecDepth 100000
set_option maxHeartbeats 8000000
set_option linter.all false
section
variable {ls:List bn} {l:bn} {now:Int}
theorem PE (h:l.good=false∨l.till≤now):iR ls l now=1∧mI ls l now=ls:=by
 have e:iR ls l now=1:=by unfold iR;rw[if_pos h]
 exact⟨e,by unfold mI;rw[e];rfl⟩
theorem PD (h:¬(l.good=false∨l.till≤now)) (h1:(live now ls).any (fun x=>decide (x.token=l.token))=true):iR ls l now=3∧mI ls l now=ls:=by
 have e:iR ls l now=3:=by unfold iR;rw[if_neg h,if_pos h1]
 exact⟨e,by unfold mI;rw[e];rfl⟩
theorem Lv (h:¬(l.good=false∨l.till≤now)) (h1:(live now ls).any (fun x=>decide (x.token=l.token))=false) (h2:(live now ls).any (fun x=>x.clash l)=true):iR ls l now=63∧mI ls l now=ls:=by
 have e:iR ls l now=63:=by unfold iR;rw[if_neg h,if_neg (by rw[h1];simp),if_pos h2]
 exact⟨e,by unfold mI;rw[e];rfl⟩
theorem NV (h:¬(l.good=false∨l.till≤now)) (h1:(live now ls).any (fun x=>decide (x.token=l.token))=false) (h2:(live now ls).any (fun x=>x.clash l)=false) (h3:32≤(live now ls).length):iR ls l now=4∧mI ls l now=ls:=by
 have e:iR ls l now=4:=by unfold iR;rw[if_neg h,if_neg (by rw[h1];simp),if_neg (by rw[h2];simp),if_pos h3]
 exact⟨e,by unfold mI;rw[e];rfl⟩
theorem QX (h:¬(l.good=false∨l.till≤now)) (h1:(live now ls).any (fun x=>decide (x.token=l.token))=false) (h2:(live now ls).any (fun x=>x.clash l)=false) (h3:¬32≤(live now ls).length):iR ls l now=0∧mI ls l now=wN (live now ls) l:=by
 have e:iR ls l now=0:=by unfold iR;rw[if_neg h,if_neg (by rw[h1];simp),if_neg (by rw[h2];simp),if_neg h3]
 exact⟨e,by unfold mI;rw[e];rfl⟩
end
def SH (w2:World) (ps:List LP) (l:bn) (c i:Value) (wr:World):Prop:=
 ∃k:Nat,k≤ps.length∧i= .int .i64 k∧(∀p∈ps.take k,p.1.token≠l.token)∧c= .bool ((ps.take k).any fun p=>p.1.clash l)∧Below w2.heap.size w2 wr
theorem DN (F:Nat→Prop) (v t b:Nat) (ls:List bn) (l:bn) (pv:Value) (now:Int) (w:World) (h:LT F v t b ls w) (hp:jA w (fun g=>¬F g) pv l.path) (hs:l.Bl) (hT:tV w) (hti: -9223372036854775808≤l.till∧l.till<9223372036854775808):
  Calls Tryz.prog 19 #[.pointer (some ⟨b,0,none⟩),qN l pv,.int .i64 now] w fun e w'=>e= .returned (.int .i64 (iR ls l now))∧LT F v t b (mI ls l now) w'∧Keep (fun g=>¬F g) w w':=by
 have hgood:=fun (W:World) (hb:Below w.heap.size w W)=>O4 l pv _ W (dO.below hp hb) hs (hT.below hb)
 have hbad:=@PE ls l now
 have htok:=@PD ls l now
 have hcl:=@Lv ls l now
 have hfull:=@NV ls l now
 have hok:=@QX ls l now
 have hfit:l.good=true→l.Fit:=fun h=>bn.good.fit h hti
 have hsame:∀w',Below w.heap.size w w'→LT F v t b ls w'∧Keep (fun g=>¬F g) w w':=fun w' hb=>⟨h.below hb,Keep.of_below hb _⟩
 obtain⟨R,hR⟩:∃R,Hid (iR ls l now=R):=⟨_,af rfl⟩
 obtain⟨L',hL'⟩:∃L',Hid (mI ls l now=L'):=⟨_,af rfl⟩
 rw[hR.out,hL'.out]
 simp only[hR.out,hL'.out] at hbad htok hcl hfull hok
 have HC:=af (ay hbad (ay htok (ay hcl (ay hfull (ay hok (ay hfit hsame))))))
 have HH:=af (ay h hp)
 have hpf:=dO.form hp
 clear hbad htok hcl hfull hok hfit hsame h hp hs hT hti
 obtain⟨po,pc,rfl,hn1,hn2,_,_⟩:=hpf
 have hbA:=aI w (.cells #[.string l.token,.slice po l.path.length pc,.bool l.deep,.bool l.excl,.string l.owner,.int .i64 l.till] 24)
 have hnA:=aM w (.cells #[.string l.token,.slice po l.path.length pc,.bool l.deep,.bool l.excl,.string l.owner,.int .i64 l.till] 24)
 obtain⟨wA,hwA⟩:∃wA:World,Hid (w.alloc (.cells #[.string l.token,.slice po l.path.length pc,.bool l.deep,.bool l.excl,.string l.owner,.int .i64 l.till] 24)=wA):=⟨_,af rfl⟩
 have hsA:wA.heap.size=w.heap.size+1:=by rw[←hwA.out];simp
 rw[hwA.out] at hbA hnA
 have hbB:=aI wA (.cells #[.int .i64 now] 2)
 have hnB:=aM wA (.cells #[.int .i64 now] 2)
 obtain⟨wB,hwB⟩:∃wB:World,Hid (wA.alloc (.cells #[.int .i64 now] 2)=wB):=⟨_,af rfl⟩
 rw[hwB.out] at hbB hnB
 obtain⟨lb,hlb⟩:∃lb:Nat,Hid (w.heap.size=lb):=⟨_,af rfl⟩
 obtain⟨nb,hnb⟩:∃nb:Nat,Hid (lb+1=nb):=⟨_,af rfl⟩
 rw[hsA,hlb.out,hnb.out] at hnB
 rw[hlb.out] at hnA
 have hnA2:=(hbB.block lb (ah.1 hnA).1).trans hnA
 obtain⟨e0,e1,e2,e3,e4,e5,le⟩:=dh hnA2
 have c0:wB.cell? ⟨nb,0,none⟩=some (.int .i64 now):=by simp[World.cell?,hnB]
 have nl:=(ah.1 hnB).1
 have hbAB:=hbA.trans (hbB.mono hbA.size)
 have hg:=hgood wB hbAB
 obtain⟨G,hG⟩:∃G,Hid (l.good=G):=⟨_,af rfl⟩
 rw[hG.out] at hg
 unfold qN at hg
 have HG:=af hg
 have HB:=af (ay hbAB (ay hnA2 hnB))
 clear hgood hg hbA hbB hnA hsA hnA2 hnB hbAB
 unfold qN
 go_enter Tryz.func19,Tryz.ntmps19
 go_upto_region 1 with (fail)
 rw[hwA.out,hwB.out,hlb.out,hnb.out]
 cases G with
 |false=>
  go_wp2_with (first
   |(go_at_call 10;go_must (refine HG.out.mono ?_;rintro e w1 ⟨rfl,hb1⟩)))
  go_ret
  have hbb:=HB.out.1.trans (hb1.mono HB.out.1.size)
  obtain⟨q1,q2⟩:=HC.out.1 (.inl hG.out)
  rw[q1,q2]
  exact⟨rfl,HC.out.2.2.2.2.2.2 _ hbb⟩
 |true=>
  by_cases htn:l.till≤now
  ·go_wp2_with (first
    |(go_at_call 10;go_must (refine HG.out.mono ?_;rintro e w1 ⟨rfl,hb1⟩;have f5:=(hb1.cell (p:=⟨lb,5,none⟩) le).trans e5;have fl:=ax le hb1.size;have g0:=(hb1.cell (p:=⟨nb,0,none⟩) nl).trans c0;have gl:=ax nl hb1.size)))
   go_ret
   have hbb:=HB.out.1.trans (hb1.mono HB.out.1.size)
   obtain⟨q1,q2⟩:=HC.out.1 (.inr htn)
   rw[q1,q2]
   exact⟨rfl,HC.out.2.2.2.2.2.2 _ hbb⟩
  ·have hng:¬(l.good=false∨l.till≤now):=by rintro(e|e);(rw[hG.out] at e;cases e);exact htn e
   go_wp2_with (first
    |(go_at_call 10;go_must (refine HG.out.mono ?_;rintro e w1 ⟨rfl,hb1⟩;refine Stop.of ?_)))
   refine Stop.on ?_
   have hbb:=HB.out.1.trans (hb1.mono HB.out.1.size)
   have HA:=af (QE F v t b ls now w1 (HH.out.1.below hbb))
   have hnA1:=(hb1.block lb le).trans HB.out.2.1
   have hnB1:=(hb1.block nb nl).trans HB.out.2.2
   clear e0 e1 e2 e3 e4 e5 le c0 nl
   obtain⟨e0,e1,e2,e3,e4,e5,le⟩:=dh hnA1
   have c0:w1.cell? ⟨nb,0,none⟩=some (.int .i64 now):=by simp[World.cell?,hnB1]
   have nl:=(ah.1 hnB1).1
   have HB1:=af (ay hbb (ay hnA1 (ay hnB1 hng)))
   clear hbb hnA1 hnB1 hb1 hng
   go_wp2_with (first
    |(go_at_call 21;go_must (refine HA.out.mono ?_;rintro e w2 ⟨x,rfl,ps,hps,hx,hpp,hb2⟩;refine Stop.of ?_)))
   refine Stop.on ?_
   have hbb2:=HB1.out.1.trans (hb2.mono HB1.out.1.size)
   have hT2:=HH.out.1.next hbb2
   have hLF:pQ w2 (fun g=>¬oL F w w2 g) x ps:=pQ.of hx hpp (fun g h1 h2 hn=>hn (.inr ⟨aH HB1.out.1.size h1,h2⟩))
   have hpF:jA w2 (fun g=>¬oL F w w2 g) (.slice po l.path.length pc) l.path:=dO.keep (dO.below HH.out.2 hbb2) fun g _ _ hn=>⟨rfl,fun e=>e (.inl (Classical.not_not.1 hn))⟩
   have hnA2:=(hb2.block lb le).trans HB1.out.2.1
   have hnB2:=(hb2.block nb nl).trans HB1.out.2.2.1
   have hFl:oL F w w2 lb:= .inr ⟨fH hlb.out,(ah.1 hnA2).1⟩
   have hFn:oL F w w2 nb:= .inr ⟨by have:=hnb.out;have:=hlb.out;omega,(ah.1 hnB2).1⟩
   have hF12:∀g,F g→oL F w w2 g:=fun g e=> .inl e
   have hk2:Keep (fun g=>¬F g) w w2:=Keep.of_below hbb2 _
   generalize oL F w w2=F2 at hT2 hLF hpF hFl hFn hF12
   obtain⟨lo,lc,rfl,hl1,hl2,_,_⟩:=dO.form hLF.1
   have hlen:ps.length≤33:=by
    have:=(HH.out.1.ok.live now).len
    rw[←hps,dW] at this
    exact this
   have HX:=af (ay hT2 (ay hLF (ay hpF (ay hFl (ay hFn (ay hF12 (ay hk2 (ay hnA2 (ay hnB2 (ay hps hbb2))))))))))
   have hst:SH w2 ps l (.bool false) (.int .i64 0) w2:=⟨0,aY _,rfl,by simp,rfl,aQ _ _⟩
   clear htn e0 e1 e2 e3 e4 e5 le c0 nl hT2 hLF hpF hFl hFn hF12 hk2 hnA2 hnB2 hps hx hpp hb2 hbb2
   go_upto_region 10 with (fail)
   go_loopw [9,11,38] (fun c _ i wr=>SH w2 ps l c i wr) (fun _ _ i _=>ps.length - (intOf i).toNat)
   case atStart=>exact hst
   case round=>
    obtain⟨k,hk,rfl,hno,rfl,hbw⟩:=hrel
    clear hst
    obtain⟨c,hc⟩:∃c,Hid (((ps.take k).any fun p=>p.1.clash l)=c):=⟨_,af rfl⟩
    rw[hc.out]
    have hnl2:=(hbw.block lb (ah.1 HX.out.2.2.2.2.2.2.2.1).1).trans HX.out.2.2.2.2.2.2.2.1
    by_cases hkl:k<ps.length
    ·have hkl':(k:Int)<(ps.length:Int):=by omega
     have hLr:=HX.out.2.1.keep (Keep.of_below hbw _)
     obtain⟨sb,o,rfl,d0,d1,d2,d3,d4,d5⟩:=hLr.SE.at rfl k hkl
     have hT:=hLr.2 _ (bq hkl)
     have htk:ps.take (k+1)=ps.take k++[ps[k]]:=aK hkl
     have hmem:ps[k].1∈live now ls:=by rw[←HX.out.2.2.2.2.2.2.2.2.2.1];exact dP.2 ⟨_,bq hkl,rfl⟩
     obtain⟨p,hp⟩:∃p,ps[k]=p:=⟨_,rfl⟩
     rw[hp] at d0 d1 d2 d3 d4 d5 hT htk hmem
     have hb2:=aI wr (.cells #[.string p.1.token,p.2,.bool p.1.deep,.bool p.1.excl,.string p.1.owner,.int .i64 p.1.till] 24)
     have hn2:=aM wr (.cells #[.string p.1.token,p.2,.bool p.1.deep,.bool p.1.excl,.string p.1.owner,.int .i64 p.1.till] 24)
     have hbl:=aF wr _ d0
     obtain⟨w3,hw3⟩:∃w3:World,Hid (wr.alloc (.cells #[.string p.1.token,p.2,.bool p.1.deep,.bool p.1.excl,.string p.1.owner,.int .i64 p.1.till] 24)=w3):=⟨_,af rfl⟩
     rw[hw3.out] at hb2 hn2
     obtain⟨gb,hgb⟩:∃gb:Nat,Hid (wr.heap.size=gb):=⟨_,af rfl⟩
     rw[hgb.out] at hn2
     have hbw3:=hbw.trans (hb2.mono hbw.size)
     have hcl:=Ap p.1 l p.2 (.slice po l.path.length pc) _ _ w3 (dO.below hT hb2) (dO.below HX.out.2.2.1 hbw3)
     obtain⟨D,hD⟩:∃D,Hid (p.1.clash l=D):=⟨_,af rfl⟩
     rw[hD.out] at hcl
     unfold qN at hcl
     have HCL:=af hcl
     have hq:=NU p.1.token l.token
     have hnl3:=(hb2.block lb (ah.1 hnl2).1).trans hnl2
     have HM:=af (ay htk (ay hmem (ay hno (ay hbw3 (ay hn2 (ay hnl3 hp))))))
     have hform:=dO.form hT
     clear htk hmem hno hbw3 hn2 hcl hT hp hLr hb2 hbw hnl2 hnl3
     obtain⟨⟨tk,pt,dp,ex,ow,ti⟩,qv⟩:=p
     dsimp only at d0 d1 d2 d3 d4 d5 HCL hw3 HM hD hform hq
     obtain⟨qo,qc,rfl,_,_,_,_⟩:=hform
     go_upto_region 12 with (fail)
     rw[hw3.out,hgb.out]
     clear d0 d1 d2 d3 d4 d5 hbl
     obtain⟨e0,e1,e2,e3,e4,e5,le⟩:=dh HM.out.2.2.2.2.1
     obtain⟨f0,f1,f2,f3,f4,f5,fl⟩:=dh HM.out.2.2.2.2.2.1
     by_cases he:tk=l.token
     ·rw[bT he] at hq
      have hany:(live now ls).any (fun x=>decide (x.token=l.token))=true:=uP.2 ⟨_,HM.out.2.1,bT he⟩
      have HR:=af (HC.out.2.1 HB1.out.2.2.2 hany)
      clear he hany
      go_wp2_with (fail)
      go_ret
      rw[HR.out.1,HR.out.2]
      exact⟨rfl,HC.out.2.2.2.2.2.2 _ (HX.out.2.2.2.2.2.2.2.2.2.2.trans (HM.out.2.2.2.1.mono HX.out.2.2.2.2.2.2.2.2.2.2.size))⟩
     ·rw[bD he] at hq
      have hno':∀q∈ps.take (k+1),q.1.token≠l.token:=by
       intro q hq
       rw[HM.out.1] at hq
       rcases bJ.1 hq with hq|hq
       ·exact HM.out.2.2.1 q hq
       ·rw[bH.1 hq];exact he
      have hany:((ps.take (k+1)).any fun p=>p.1.clash l)=(c||D):=by
       rw[HM.out.1,List.any_append,hc.out]
       simp[hD.out]
      have HN:=af (ay hno' hany)
      clear hno' hany he
      cases c with
      |true=>
       go_wp2_with (fail)
       go_roundw
       case rel=>exact⟨k+1,hkl,by go_num,HN.out.1,by rw[HN.out.2];rfl,HM.out.2.2.2.1⟩
       case measure=>simp[intOf];omega
      |false=>
       go_wp2_with (first
        |(go_at_call 14;go_must (refine HCL.out.mono ?_;rintro e w4 ⟨rfl,hb4⟩)))
       have HB4:=af (HM.out.2.2.2.1.trans (hb4.mono HM.out.2.2.2.1.size))
       clear hb4
       go_roundw
       case rel=>exact⟨k+1,hkl,by go_num,HN.out.1,by rw[HN.out.2];rfl,HB4.out⟩
       case measure=>simp[intOf];omega
    ·obtain rfl:k=ps.length:=by omega
     have x2:¬(ps.length:Int)<(ps.length:Int):=by omega
     have hps:=HX.out.2.2.2.2.2.2.2.2.2.1
     rw[bU] at hno
     have hcc:=hc.out
     rw[bU] at hcc
     have htok:(live now ls).any (fun x=>decide (x.token=l.token))=false:=by
      rw[←hps,oG]
      intro y hy
      obtain⟨p,hp,rfl⟩:=dP.1 hy
      rw[bY]
      exact hno p hp
     have hcl:(live now ls).any (fun x=>x.clash l)=c:=by
      rw[←hps,List.any_map];exact hcc
     have hll:(live now ls).length=ps.length:=by rw[←hps,dW]
     have hbb:=HX.out.2.2.2.2.2.2.2.2.2.2.trans (hbw.mono HX.out.2.2.2.2.2.2.2.2.2.2.size)
     have HE:=af (ay htok (ay hcl (ay hll (ay hbw hbb))))
     clear hps hno hcc htok hcl hll hbw hbb
     cases c with
     |true=>
      have HR:=af (HC.out.2.2.1 HB1.out.2.2.2 HE.out.1 HE.out.2.1)
      go_wp2_with (fail)
      go_ret
      rw[HR.out.1,HR.out.2]
      exact⟨rfl,HC.out.2.2.2.2.2.2 _ HE.out.2.2.2.2⟩
     |false=>
      by_cases h32:32≤ps.length
      ·have q1:(32:Int)≤(ps.length:Int):=by omega
       have HR:=af (HC.out.2.2.2.1 HB1.out.2.2.2 HE.out.1 HE.out.2.1 (by rw[HE.out.2.2.1];exact h32))
       clear h32
       go_wp2_with (fail)
       go_ret
       rw[HR.out.1,HR.out.2]
       exact⟨rfl,HC.out.2.2.2.2.2.2 _ HE.out.2.2.2.2⟩
      ·have q1:¬(32:Int)≤(ps.length:Int):=by omega
       have HR:=af (HC.out.2.2.2.2.1 HB1.out.2.2.2 HE.out.1 HE.out.2.1 (by rw[HE.out.2.2.1];exact h32))
       have hll2:(live now ls).length≤32:=by rw[HE.out.2.2.1];omega
       have hnBr:=(HE.out.2.2.2.1.block nb (ah.1 HX.out.2.2.2.2.2.2.2.2.1).1).trans HX.out.2.2.2.2.2.2.2.2.1
       have hnAr:=hnl2
       have c0:wr.cell? ⟨nb,0,none⟩=some (.int .i64 now):=by simp[World.cell?,hnBr]
       have nl:=(ah.1 hnBr).1
       have hTr:=HX.out.1.below HE.out.2.2.2.1
       have hq:∀w',Keep (fun x=>¬F2 x) wr w'→w'.cell? ⟨nb,0,none⟩=some (.int .i64 now)∧nb<w'.heap.size:=by
        intro w' hk
        have h1:=(hk.block nb nl (fun e=>e HX.out.2.2.2.2.1)).trans hnBr
        exact⟨by simp[World.cell?,h1],(ah.1 h1).1⟩
       have HSW:=af (MZ F2 v t b ls now 37 #[.pointer (some ⟨nb,0,none⟩)] _ _ (fun _ _=>rfl) (M6 nb now) wr hTr hq)
       have HRR:=af (ay hnBr (ay hnAr hll2))
       clear hnBr hnAr hTr hq h32 hnl2 hll2
       go_wp2_with (first
        |(go_at_call 36;go_must (refine HSW.out.mono ?_;rintro e w4 ⟨rfl,hT4,hk4⟩;refine Stop.of ?_)))
       refine Stop.on ?_
       rw[G5] at hT4
       have hnA4:=(hk4.block lb (ah.1 HRR.out.2.1).1 (fun e=>e HX.out.2.2.2.1)).trans HRR.out.2.1
       have hob4:=hT4.obj
       have hpr:jA w4 (fun g=>¬F2 g) (.slice po l.path.length pc) l.path:=dO.keep (dO.below HX.out.2.2.1 HE.out.2.2.2.1) fun g _ hl hn=>⟨hk4.block g hl hn,hn⟩
       have hfit:=HC.out.2.2.2.2.2.1 hG.out
       have hen:=KM l (.slice po l.path.length pc) _ w4.drew (dO.below hpr ((aQ _ w4).drew)) hfit
       unfold qN at hen
       have HEN:=af hen
       have hks2:¬9223372036854775807<1+l.token.size:=by have:=hfit.tok;omega
       have hla:=PZ l.token
       have HW4:=af (ay hT4 (ay hk4 (ay hnA4 (ay hob4 hfit))))
       clear hT4 hk4 hpr hen hfit c0 nl
       go_wp2_with (fail)
       refine aP (fun W=>W.heap[lb]? =some (.cells #[.string l.token,.slice po l.path.length pc,.bool l.deep,.bool l.excl,.string l.owner,.int .i64 l.till] 24 (0,0))∧W.heap[b]? =some (.cells #[.pointer (some ⟨t,0,none⟩)] 69 (0,0))) (fun i=> !([8,9].contains i)) [0,1,2,3,4,5,6,7,8,9,10] rfl (by kernel_rfl) ⟨hnA4,hob4⟩ ?_
       repeat ((refine bO (v:= ?_) rfl rfl (fun _ _ _ h=>h) rfl (fun W hW=> ?_) ?_);rotate_left;(focus ((try dsimp only at hW);obtain⟨q0,q1,q2,q3,q4,q5,q6⟩:=dh hW.1;have q7:W.cell? ⟨b,0,none⟩=some (.pointer (some ⟨t,0,none⟩)):=(by simp[World.cell?,hW.2]);have q8:=(ah.1 hW.2).1;(go_simp;first|done|with_reducible rfl)));(try simp only[Act.put,aj,au,ak]))
       refine dw rfl rfl rfl ?_;intro K hK;go_simp
       refine HEN.out.mono ?_;rintro e w5 ⟨rfl,hb5⟩
       have hb45:Below w4.heap.size w4 w5:=(aQ _ w4).drew.trans hb5
       have hT5:=HW4.out.1.below hb45
       have hnA5:=(hb45.block lb (ah.1 hnA4).1).trans hnA4
       have hPT:=hT5.put l HW4.out.2.2.2.2 HRR.out.2.2
       refine hK.out _ _ ⟨hnA5,hT5.obj⟩ ?_
       (try simp only[Act.put,aj,au,ak])
       refine dw rfl rfl rfl ?_;intro K hK;go_simp
       refine hPT.mono ?_;rintro e w6 ⟨rfl,hT6,hk6⟩
       have hnA6:=(hk6.block lb (ah.1 hnA5).1 (fun e=>e HX.out.2.2.2.1)).trans hnA5
       refine hK.out _ _ ⟨hnA6,hT6.obj⟩ ?_
       (try simp only[Act.put,aj,au,ak])
       repeat ((refine bO (v:= ?_) rfl rfl (fun _ _ _ h=>h) rfl (fun W hW=> ?_) ?_);rotate_left;(focus ((try dsimp only at hW);skip;(go_simp;first|done|with_reducible rfl)));(try simp only[Act.put,aj,au,ak]))
       refine bR ?_
       have HW6:=af (ay hT6 (ay hk6 hb45))
       clear hT6 hk6 hnA6 hb5 hb45 hT5 hnA5 hPT hnA4 hob4 hla hks2
       go_wp2_with (fail)
       go_ret
       rw[HR.out.1,HR.out.2]
       refine⟨rfl,HW6.out.1.sub HX.out.2.2.2.2.2.1 HH.out.1.fb,?_⟩
       have k1:=HX.out.2.2.2.2.2.2.1
       have k2:Keep (fun g=>¬F g) w2 wr:=Keep.of_below HE.out.2.2.2.1 _
       have k3:Keep (fun g=>¬F g) wr w4:=HW4.out.2.1.imp fun g e hf=>e (HX.out.2.2.2.2.2.1 g hf)
       have k4:Keep (fun g=>¬F g) w4 w5:=Keep.of_below HW6.out.2.2 _
       have k5:Keep (fun g=>¬F g) w5 w6:=HW6.out.2.1.imp fun g e hf=>e (HX.out.2.2.2.2.2.1 g hf)
       exact(((k1.trans k2 (fun _ _ e=>e)).trans k3 (fun _ _ e=>e)).trans k4 (fun _ _ e=>e)).trans k5 (fun _ _ e=>e)
theorem KX {ls:List bn} {path tokens:List ByteArray} {l:bn} (h:l∈ls) (h1:l.covers path=true) (h2:FT tokens l.token=true):yN ls path tokens=true:=by
 unfold yN
 rw[nU]
 exact .inl (uP.2 ⟨l,h,by rw[h1,h2];rfl⟩)
theorem Nq {ls:List bn} {path tokens:List ByteArray} (h:∀l∈ls,(l.covers path && FT tokens l.token)=false):yN ls path tokens= !ls.any (fun l=>l.covers path):=by
 unfold yN
 rw[oG.2 (fun l hl=>by rw[h l hl];simp),Bool.false_or]
theorem JA (lv pv tv:Value) (ps:List LP) (path tokens:List ByteArray) (S S1 S2:Nat→Prop) (w:World) (hl:u7 w S lv ps) (hp:jA w S1 pv path) (ht:jA w S2 tv tokens):
  Calls Tryz.prog 16 #[lv,pv,tv] w fun e w'=>e= .returned (.bool (yN (ps.map (·.1)) path tokens))∧Below w.heap.size w w':=by
 obtain⟨lo,lc,rfl,hl1,hl2,_,_⟩:=dO.form hl.1
 obtain⟨R,hR⟩:∃R,Hid (yN (ps.map (·.1)) path tokens=R):=⟨_,af rfl⟩
 rw[hR.out]
 have HL:=af hl;have HP:=af hp;have HT:=af ht
 clear hl hp ht
 go_enter Tryz.func16,Tryz.ntmps16
 go_upto_region 3 with fail
 go_loopw [7,9,12] (fun c _ i wr=>∃k:Nat,k≤ps.length∧i= .int .i64 k∧c= .bool ((ps.take k).any fun p=>p.1.covers path)∧(∀p∈ps.take k,(p.1.covers path && FT tokens p.1.token)=false)∧Below w.heap.size w wr) (fun _ _ i _=>ps.length - (intOf i).toNat)
 case atStart=>exact⟨0,aY _,rfl,rfl,by simp,aQ _ _⟩
 case round=>
  obtain⟨k,hk,rfl,rfl,hno,hbw⟩:=hrel
  obtain⟨c,hc⟩:∃c,Hid (((ps.take k).any fun p=>p.1.covers path)=c):=⟨_,af rfl⟩
  rw[hc.out]
  have HNO:=af hno;clear hno
  by_cases hkl:k<ps.length
  ·have hkl':(k:Int)<(ps.length:Int):=by omega
   obtain⟨b,o,rfl,d0,d1,d2,d3,d4,d5⟩:=(HL.out.below hbw).at rfl k hkl
   obtain⟨T,hT⟩:=(HL.out.below hbw).2 _ (bq hkl)
   have htk:ps.take (k+1)=ps.take k++[ps[k]]:=aK hkl
   have hmem:ps[k].1∈ps.map (·.1):=dP.2 ⟨_,bq hkl,rfl⟩
   generalize ps[k]=p at d0 d1 d2 d3 d4 d5 hT htk hmem
   have hb2:=aI wr (.cells #[.string p.1.token,p.2,.bool p.1.deep,.bool p.1.excl,.string p.1.owner,.int .i64 p.1.till] 24)
   have hn2:=aM wr (.cells #[.string p.1.token,p.2,.bool p.1.deep,.bool p.1.excl,.string p.1.owner,.int .i64 p.1.till] 24)
   have hbl:=aF wr _ d0
   obtain⟨w2,hw2⟩:∃w2:World,Hid (wr.alloc (.cells #[.string p.1.token,p.2,.bool p.1.deep,.bool p.1.excl,.string p.1.owner,.int .i64 p.1.till] 24)=w2):=⟨_,af rfl⟩
   rw[hw2.out] at hb2 hn2
   have hbw2:=hbw.trans (hb2.mono hbw.size)
   have hcov:=qF p.1 p.2 pv path T S1 w2 (dO.below hT hb2) (dO.below HP.out hbw2)
   obtain⟨C,hC⟩:∃C,Hid (p.1.covers path=C):=⟨_,af rfl⟩
   rw[hC.out] at hcov
   unfold qN at hcov
   have HCV:=af hcov
   have HBW2:=af hbw2
   have HM:=af (ay htk hmem)
   obtain⟨gb,hgb⟩:∃gb:Nat,Hid (wr.heap.size=gb):=⟨_,af rfl⟩
   rw[hgb.out] at hn2
   have HN2:=af hn2
   have hform:=dO.form hT
   clear hb2 hbw2 hcov hT htk hmem hbw hn2
   obtain⟨⟨tk,pt,dp,ex,ow,ti⟩,qv⟩:=p
   dsimp only at d0 d1 d2 d3 d4 d5 HCV hw2 HN2 hC HM hform
   obtain⟨qo,qc,rfl,_,_,_,_⟩:=hform
   go_upto_region 5 with (fail)
   rw[hw2.out,hgb.out]
   obtain⟨e0,e1,e2,e3,e4,e5,le⟩:=dh HN2.out
   clear d0 d1 d2 d3 d4 d5 hbl
   cases C with
   |false=>
    go_wp2_with (first
     |(go_at_call 12;go_must (refine HCV.out.mono ?_;rintro e w3 ⟨rfl,hb3⟩;refine Stop.of ?_)))
    refine Stop.on ?_
    have HB3:=af (HBW2.out.trans (hb3.mono HBW2.out.size))
    clear hb3
    go_wp2_with fail
    go_roundw
    case rel=>
     refine⟨k+1,by omega,by go_num,?_,fun q hq=> ?_,HB3.out⟩
     ·rw[HM.out.1,List.any_append,hc.out];simp[hC.out]
     ·rw[HM.out.1] at hq
      rcases bJ.1 hq with hq|hq
      ·exact HNO.out q hq
      ·rw[bH.1 hq]
       show (_ && _)=false
       rw[hC.out];rfl
    case measure=>simp[intOf];omega
   |true=>
    go_wp2_with (first
     |(go_at_call 12;go_must (refine HCV.out.mono ?_;rintro e w3 ⟨rfl,hb3⟩;refine Stop.of ?_)))
    refine Stop.on ?_
    have hbw3:=HBW2.out.trans (hb3.mono HBW2.out.size)
    have HB3:=af hbw3
    have HCT:=af (EI tv tokens tk S2 w3 (dO.below HT.out hbw3))
    clear e0 e1 e2 e3 e4 e5 le
    obtain⟨e0,e1,e2,e3,e4,e5,le⟩:=dh ((hb3.block _ (ah.1 HN2.out).1).trans HN2.out)
    obtain⟨H,hH⟩:∃H,Hid (FT tokens tk=H):=⟨_,af rfl⟩
    rw[hH.out] at HCT
    clear hb3 hbw3
    cases H with
    |true=>
     have hr:R=true:=by rw[←hR.out];exact KX HM.out.2 hC.out hH.out
     go_wp2_with (first
      |(go_at_call 32;go_must (refine HCT.out.mono ?_;rintro e w4 ⟨rfl,hw⟩;subst w4)))
     go_ret
     exact⟨by simp[hr],HB3.out⟩
    |false=>
     go_wp2_with (first
      |(go_at_call 32;go_must (refine HCT.out.mono ?_;rintro e w4 ⟨rfl,hw⟩;subst w4)))
     go_roundw
     case rel=>
      refine⟨k+1,by omega,by go_num,?_,fun q hq=> ?_,HB3.out⟩
      ·rw[HM.out.1,List.any_append];simp[hC.out]
      ·rw[HM.out.1] at hq
       rcases bJ.1 hq with hq|hq
       ·exact HNO.out q hq
       ·rw[bH.1 hq]
        show (_ && _)=false
        rw[hC.out];exact hH.out
     case measure=>simp[intOf];omega
  ·obtain rfl:k=ps.length:=by omega
   have x2:¬(ps.length:Int)<(ps.length:Int):=by omega
   have hr:R= !c:=by
    rw[←hR.out,←hc.out,Nq]
    ·rw[bU,List.any_map];rfl
    ·intro l hl
     obtain⟨p,hp,rfl⟩:=dP.1 hl
     exact HNO.out p (by rw[bU];exact hp)
   have HB:=af hbw
   clear hbw
   go_wp2_with fail
   go_ret
   exact⟨by simp,HB.out⟩
end Go.Proofs.YtpgdljlghiifjaaGreatDoor
namespace Go.Proofs.YtpgdljlghiifjaaGreatDoor
open Go.RowKit Go.Shelf
set_option maxRecDepth 100000
set_option maxHeartbeats 8000000
set_option linter.all false
theorem tV.lt {w:World} (h:tV w):mq.g 3<w.heap.size∧mq.g 4<w.heap.size:=
 ⟨aF w _ (h.1 0 (by decide)),aF w _ (h.2 0 (by decide)).1⟩
theorem tV.keep {M:Nat→Prop} {w w':World} (h:tV w) (hk:Keep M w w') (h3:¬M (mq.g 3)) (h4:¬M (mq.g 4)):tV w':=by
 obtain⟨l3,l4⟩:=h.lt
 exact⟨fun c hc=>(hk.cell (p:=⟨mq.g 3,c,none⟩) l3 h3).trans (h.1 c hc),fun i hi=>⟨(hk.cell (p:=⟨mq.g 4,2*i,none⟩) l4 h4).trans (h.2 i hi).1,(hk.cell (p:=⟨mq.g 4,2*i+1,none⟩) l4 h4).trans (h.2 i hi).2⟩⟩
def SN (w:World) (t b:Nat) (w':World):Prop:=∃v F,LT F v t b [] w'∧(∀g,g<w.heap.size→F g)∧Below w.heap.size w w'∧w.heap.size≤b
theorem Am (w:World):Calls Tryz.prog 18 #[] w fun e w'=>∃t b,e= .returned (.tuple #[.pointer (some ⟨t,0,none⟩),.pointer (some ⟨b,0,none⟩)])∧SN w t b w':=by
 go_enter Tryz.func18,Tryz.ntmps18
 go_wp2_with (first
  |(go_at_call 34;go_must ((refine(Sn 4096 w).mono ?_);rintro e w1 ⟨d,S,rfl,hD,hb1,hS⟩;have HV:=af (Gu.make w w1 4096 700 d S (VB.of hb1 hS) hD (by omega) (by omega));clear hD hb1 hS))
  |(go_at_call 33;go_must ((refine HV.out.mono ?_);rintro e w2 ⟨v,rfl,hV2⟩;clear HV))
  |(go_at_call 35;go_must ((refine hV2.begin.mono ?_);rintro e w3 ⟨t,rfl,hT3⟩;clear hV2))
  |(go_at_call 25;go_must ((refine(Rw t w3).mono ?_);rintro e w4 ⟨rfl,hob,hb4⟩)))
 go_ret2
 refine⟨_,_,rfl,v,_,⟨⟨false,2+0,hT3.next (Keep.of_below hb4 (fun _=>False)) (fun _ e=>e.elim)⟩,hob,.inr ⟨aG _,(ah.1 hob).1⟩,⟨kC,by simp,by simp⟩⟩,fun g hg=> .inl hg,?_⟩
 have h:=hT3.pU
 exact⟨h.trans (hb4.mono h.size),h.size⟩
def xE:bn:=⟨⟨#[116,49]⟩,[⟨#[97]⟩],true,true,⟨#[]⟩,10⟩
def JH:bn:=⟨⟨#[116,50]⟩,[⟨#[97]⟩,⟨#[98]⟩],false,false,⟨#[]⟩,20⟩
theorem RL:iR [] xE 0=0:=by decide
theorem Sk:mI [] xE 0=[xE]:=by unfold mI;rw[if_pos RL];rfl
theorem RJ:iR [xE] JH 0=63:=by decide
theorem RB:mI [xE] JH 0=[xE]:=by unfold mI;rw[RJ];rfl
theorem Sm:iR [xE] JH 10=0:=by decide
theorem RI:xE.covers JH.path=true:=by decide
theorem RH:xE.covers [⟨#[97,98]⟩]=false:=by decide
theorem RG:xE.clash JH=true:=by decide
theorem RF:yN [xE] JH.path []=false:=by decide
theorem RD:yN [xE] JH.path [⟨#[116,49]⟩]=true:=by decide
theorem SL (w:World) (o1 o2 o3 o4:Obj):((((w.alloc o1).alloc o2).alloc o3).alloc o4).heap[w.heap.size]? =some o1∧((((w.alloc o1).alloc o2).alloc o3).alloc o4).heap[w.heap.size+1]? =some o2∧((((w.alloc o1).alloc o2).alloc o3).alloc o4).heap[w.heap.size+1+1]? =some o3∧((((w.alloc o1).alloc o2).alloc o3).alloc o4).heap[w.heap.size+1+1+1]? =some o4∧Below w.heap.size w ((((w.alloc o1).alloc o2).alloc o3).alloc o4):=by
 have s1:(w.alloc o1).heap.size=w.heap.size+1:=by simp
 have s2:((w.alloc o1).alloc o2).heap.size=w.heap.size+1+1:=by simp
 have s3:(((w.alloc o1).alloc o2).alloc o3).heap.size=w.heap.size+1+1+1:=by simp
 have n1:=aM w o1
 have n2:=aM (w.alloc o1) o2
 have n3:=aM ((w.alloc o1).alloc o2) o3
 have n4:=aM (((w.alloc o1).alloc o2).alloc o3) o4
 rw[s1] at n2;rw[s2] at n3;rw[s3] at n4
 have b2:=aI (w.alloc o1) o2
 have b3:=aI ((w.alloc o1).alloc o2) o3
 have b4:=aI (((w.alloc o1).alloc o2).alloc o3) o4
 refine⟨(b4.block _ (by omega)).trans ((b3.block _ (by omega)).trans ((b2.block _ (by omega)).trans n1)),(b4.block _ (by omega)).trans ((b3.block _ (by omega)).trans n2),(b4.block _ (by omega)).trans n3,n4,?_⟩
 exact(((aI w o1).trans (b2.mono (by omega))).trans (b3.mono (by omega))).trans (b4.mono (by omega))
def Np (w1:World):World:=((((w1.alloc (.cells #[.string ⟨#[97]⟩] 9)).alloc (.cells #[.string ⟨#[116,49]⟩,.slice (some ⟨w1.heap.size,0,none⟩) 1 1,.bool true,.bool true,.string ⟨#[]⟩,.int .i64 10] 24)).alloc (.cells #[.string ⟨#[97]⟩,.string ⟨#[98]⟩] 9)).alloc (.cells #[.string ⟨#[116,50]⟩,.slice (some ⟨w1.heap.size+1+1,0,none⟩) 2 2,.bool false,.bool false,.string ⟨#[]⟩,.int .i64 20] 24))
theorem Pe (w1:World):(Np w1).heap.size=w1.heap.size+4:=by unfold Np;simp
theorem Nn (w1:World):Below w1.heap.size w1 (Np w1)∧(Np w1).heap[w1.heap.size+1]? =some (.cells #[.string ⟨#[116,49]⟩,.slice (some ⟨w1.heap.size,0,none⟩) 1 1,.bool true,.bool true,.string ⟨#[]⟩,.int .i64 10] 24 (0,0))∧
  (Np w1).heap[w1.heap.size+1+1+1]? =some (.cells #[.string ⟨#[116,50]⟩,.slice (some ⟨w1.heap.size+1+1,0,none⟩) 2 2,.bool false,.bool false,.string ⟨#[]⟩,.int .i64 20] 24 (0,0))∧
  (∀S:Nat→Prop,¬S w1.heap.size→jA (Np w1) S (.slice (some ⟨w1.heap.size,0,none⟩) 1 1) xE.path)∧(∀S:Nat→Prop,¬S (w1.heap.size+1+1)→jA (Np w1) S (.slice (some ⟨w1.heap.size+1+1,0,none⟩) 2 2) JH.path):=by
 have hal:=SL w1 (.cells #[.string ⟨#[97]⟩] 9) (.cells #[.string ⟨#[116,49]⟩,.slice (some ⟨w1.heap.size,0,none⟩) 1 1,.bool true,.bool true,.string ⟨#[]⟩,.int .i64 10] 24) (.cells #[.string ⟨#[97]⟩,.string ⟨#[98]⟩] 9) (.cells #[.string ⟨#[116,50]⟩,.slice (some ⟨w1.heap.size+1+1,0,none⟩) 2 2,.bool false,.bool false,.string ⟨#[]⟩,.int .i64 20] 24)
 obtain⟨h0,h1,h2,h3,h4⟩:=hal
 refine⟨h4,h1,h3,?_,?_⟩
 ·intro S hS
  exact Row.sW (w:=Np w1) (g:=w1.heap.size) (e:=9) (cur:=[.string ⟨#[97]⟩]) (off:=0) (k:=1) h0 1 1 (by simp) hS (by omega) (by unfold maxLen;omega)
 ·intro S hS
  exact Row.sW (w:=Np w1) (g:=w1.heap.size+1+1) (e:=9) (cur:=[.string ⟨#[97]⟩,.string ⟨#[98]⟩]) (off:=0) (k:=1) h2 2 2 (by simp) hS (by omega) (by unfold maxLen;omega)
theorem Ao (w:World) (hT:tV w):Calls Tryz.prog 9 #[] w fun e w'=>e= .returned (.bool true)∧Below w.heap.size w w':=by
 have HT:=af hT
 clear hT
 go_enter Tryz.func9,Tryz.ntmps9
 go_wp2_with (first
  |(go_at_call 18;go_must ((refine(Am w).mono ?_);rintro e w1 ⟨t,b,rfl,v,F,hL,hF,hb1,_⟩;refine Stop.of ?_)))
 refine Stop.on ?_
 have HL:=af (ay hL (ay hF hb1))
 clear hL hF hb1
 go_upto_region 4 with (fail)
 have hfx:=Nn w1
 have hfs:=Pe w1
 show Code.wp _ _ _ _ (Np w1)
 obtain⟨sb,hsb⟩:∃sb:Nat,Hid (w1.heap.size=sb):=⟨_,af rfl⟩
 generalize Np w1=w2 at hfx hfs ⊢
 obtain⟨hb2,hA,hB,hpA,hpB⟩:=hfx
 have hT2:=HL.out.1.next hb2
 have hF2:∀g,w1.heap.size≤g→g<w1.heap.size+4→oL F w1 w2 g:=fun g h1 h2=> .inr ⟨h1,by rw[hfs];exact h2⟩
 have hF3:∀g,g<w.heap.size→oL F w1 w2 g:=fun g hg=> .inl (HL.out.2.1 g hg)
 have hbb2:=HL.out.2.2.trans (hb2.mono HL.out.2.2.size)
 have htb2:=HT.out.below hbb2
 generalize oL F w1 w2=F2 at hT2 hF2 hF3
 rw[hsb.out] at hA hB hpA hpB hF2 ⊢
 have HF2:=af (ay hF2 hF3)
 have hFA:F2 (sb+1):=hF2 _ (by omega) (by omega)
 have hFB:F2 (sb+1+1+1):=hF2 _ (by omega) (by omega)
 have hl3:=HT.out.lt
 have ht3:F2 (mq.g 3):=hF3 _ hl3.1
 have ht4:F2 (mq.g 4):=hF3 _ hl3.2
 have hA1:=hpA (fun g=>¬F2 g) (fun e=>e (hF2 _ (by omega) (by omega)))
 have hB1:=hpB (fun g=>¬F2 g) (fun e=>e (hF2 _ (by omega) (by omega)))
 have hadd1:=DN F2 v t b [] xE _ 0 w2 hT2 hA1 ⟨by decide,by decide,by decide⟩ htb2 (by decide)
 rw[RL,Sk] at hadd1
 have HAD1:=af hadd1
 have HX:=af (ay hA (ay hB (ay hA1 (ay hB1 (ay hFA (ay hFB (ay ht3 (ay ht4 (ay htb2 hbb2)))))))))
 obtain⟨e0,e1,e2,e3,e4,e5,le⟩:=dh hA
 clear hA hB hpA hpB hT2 hF2 hF3 hadd1 hA1 hB1 hFA hFB ht3 ht4 htb2 hbb2 hfs hb2 hl3
 go_wp2_with (first
  |(go_at_call 19;go_must (refine HAD1.out.mono ?_;rintro e w3 ⟨rfl,hT3,hk3⟩;refine Stop.of ?_)))
 refine Stop.on ?_
 have hA3:=(hk3.block _ le (fun e=>e HX.out.2.2.2.2.1)).trans HX.out.1
 have hB3:=(hk3.block _ (ah.1 HX.out.2.1).1 (fun e=>e HX.out.2.2.2.2.2.1)).trans HX.out.2.1
 have pA3:jA w3 _ _ xE.path:=dO.keep HX.out.2.2.1 fun g _ hl hn=>⟨hk3.block g hl hn,hn⟩
 have pB3:jA w3 _ _ JH.path:=dO.keep HX.out.2.2.2.1 fun g _ hl hn=>⟨hk3.block g hl hn,hn⟩
 have tb3:=HX.out.2.2.2.2.2.2.2.2.1.keep hk3 (fun e=>e HX.out.2.2.2.2.2.2.1) (fun e=>e HX.out.2.2.2.2.2.2.2.1)
 have hadd2:=DN F2 v t b [xE] JH _ 0 w3 hT3 pB3 ⟨by decide,by decide,by decide⟩ tb3 (by decide)
 rw[RJ,RB] at hadd2
 have HAD2:=af hadd2
 clear e0 e1 e2 e3 e4 e5 le
 obtain⟨e0,e1,e2,e3,e4,e5,le⟩:=dh hB3
 have HX3:=af (ay hA3 (ay hB3 (ay pA3 (ay pB3 (ay tb3 hk3)))))
 clear hA3 hB3 pA3 pB3 tb3 hk3 hadd2 hT3
 go_wp2_with (first
  |(go_at_call 19;go_must (refine HAD2.out.mono ?_;rintro e w4 ⟨rfl,hT4,hk4⟩;refine Stop.of ?_)))
 refine Stop.on ?_
 have hA4:=(hk4.block _ (ah.1 HX3.out.1).1 (fun e=>e HX.out.2.2.2.2.1)).trans HX3.out.1
 have hB4:=(hk4.block _ (ah.1 HX3.out.2.1).1 (fun e=>e HX.out.2.2.2.2.2.1)).trans HX3.out.2.1
 have pA4:jA w4 _ _ xE.path:=dO.keep HX3.out.2.2.1 fun g _ hl hn=>⟨hk4.block g hl hn,hn⟩
 have pB4:jA w4 _ _ JH.path:=dO.keep HX3.out.2.2.2.1 fun g _ hl hn=>⟨hk4.block g hl hn,hn⟩
 have tb4:=HX3.out.2.2.2.2.1.keep hk4 (fun e=>e HX.out.2.2.2.2.2.2.1) (fun e=>e HX.out.2.2.2.2.2.2.2.1)
 have hadd3:=DN F2 v t b [xE] JH _ 10 w4 hT4 pB4 ⟨by decide,by decide,by decide⟩ tb4 (by decide)
 rw[Sm] at hadd3
 have HAD3:=af hadd3
 clear e0 e1 e2 e3 e4 e5 le
 obtain⟨e0,e1,e2,e3,e4,e5,le⟩:=dh hB4
 have HX4:=af (ay hA4 (ay hB4 (ay pA4 (ay pB4 (ay tb4 (HX3.out.2.2.2.2.2.trans hk4 (fun _ _ e=>e)))))))
 clear hA4 hB4 pA4 pB4 tb4 hk4 hadd3 hT4
 go_wp2_with (first
  |(go_at_call 19;go_must (refine HAD3.out.mono ?_;rintro e w5 ⟨rfl,hT5,hk5⟩;refine Stop.of ?_)))
 refine Stop.on ?_
 have hA5:=(hk5.block _ (ah.1 HX4.out.1).1 (fun e=>e HX.out.2.2.2.2.1)).trans HX4.out.1
 have hB5:=(hk5.block _ (ah.1 HX4.out.2.1).1 (fun e=>e HX.out.2.2.2.2.2.1)).trans HX4.out.2.1
 have pA5:jA w5 _ _ xE.path:=dO.keep HX4.out.2.2.1 fun g _ hl hn=>⟨hk5.block g hl hn,hn⟩
 have pB5:jA w5 _ _ JH.path:=dO.keep HX4.out.2.2.2.1 fun g _ hl hn=>⟨hk5.block g hl hn,hn⟩
 have hbb5:Below w.heap.size w w5:=by
  refine HX.out.2.2.2.2.2.2.2.2.2.trans ((HX4.out.2.2.2.2.2.trans hk5 (fun _ _ e=>e)).gG HX.out.2.2.2.2.2.2.2.2.2.size fun g hg e=>e (HF2.out.2 g hg))
 clear e0 e1 e2 e3 e4 e5 le
 obtain⟨e0,e1,e2,e3,e4,e5,le⟩:=dh hA5
 obtain⟨f0,f1,f2,f3,f4,f5,fl⟩:=dh hB5
 have hc1:=qF xE _ _ _ _ _ w5 pA5 pB5
 rw[RI] at hc1
 have HC1:=af hc1
 have HX5:=af (ay hA5 (ay hB5 (ay pA5 (ay pB5 hbb5))))
 clear hA5 hB5 pA5 pB5 hk5 hT5 hc1 hbb5
 go_wp2_with (first
  |(go_at_call 12;go_must (refine HC1.out.mono ?_;rintro e w6 ⟨rfl,hb6⟩;refine Stop.of ?_)))
 refine Stop.on ?_
 have hS6:=aI w6 (.cells #[.string ⟨#[97,98]⟩] 9)
 have hn6:=aM w6 (.cells #[.string ⟨#[97,98]⟩] 9)
 have hb67:=hb6.trans (hS6.mono hb6.size)
 have hA7:=(hb67.block _ (ah.1 HX5.out.1).1).trans HX5.out.1
 have hB7:=(hb67.block _ (ah.1 HX5.out.2.1).1).trans HX5.out.2.1
 have hc2:=qF xE _ (.slice (some ⟨w6.heap.size,0,none⟩) 1 1) [⟨#[97,98]⟩] _ fO (w6.alloc (.cells #[.string ⟨#[97,98]⟩] 9)) (dO.below HX5.out.2.2.1 hb67) (Row.sW (e:=9) (cur:=[.string ⟨#[97,98]⟩]) (off:=0) (k:=1) hn6 1 1 (by simp) id (by omega) (by unfold maxLen;omega))
 rw[RH] at hc2
 have HC2:=af hc2
 have hA6:=(hb6.block _ (ah.1 HX5.out.1).1).trans HX5.out.1
 clear e0 e1 e2 e3 e4 e5 le f0 f1 f2 f3 f4 f5 fl
 obtain⟨e0,e1,e2,e3,e4,e5,le⟩:=dh hA6
 have HX7:=af (ay hA7 (ay hB7 hb67))
 clear hA7 hB7 hb67 hc2 hA6 hS6 hn6 hb6
 go_wp2_with (first
  |(go_at_call 12;go_must (refine HC2.out.mono ?_;rintro e w8 ⟨rfl,hb8⟩;refine Stop.of ?_)))
 refine Stop.on ?_
 have hb58:=HX7.out.2.2.trans (hb8.mono HX7.out.2.2.size)
 have hA8:=(hb8.block _ (ah.1 HX7.out.1).1).trans HX7.out.1
 have hB8:=(hb8.block _ (ah.1 HX7.out.2.1).1).trans HX7.out.2.1
 have hc3:=Ap xE JH _ _ _ _ w8 (dO.below HX5.out.2.2.1 hb58) (dO.below HX5.out.2.2.2.1 hb58)
 rw[RG] at hc3
 have HC3:=af hc3
 clear e0 e1 e2 e3 e4 e5 le
 obtain⟨e0,e1,e2,e3,e4,e5,le⟩:=dh hA8
 obtain⟨f0,f1,f2,f3,f4,f5,fl⟩:=dh hB8
 have HX8:=af (ay hA8 (ay hB8 hb58))
 clear hA8 hB8 hb58 hc3 hb8
 go_wp2_with (first
  |(go_at_call 14;go_must (refine HC3.out.mono ?_;rintro e w9 ⟨rfl,hb9⟩;refine Stop.of ?_)))
 refine Stop.on ?_
 have hb59:=HX8.out.2.2.trans (hb9.mono HX8.out.2.2.size)
 have hA9:=(hb9.block _ (ah.1 HX8.out.1).1).trans HX8.out.1
 have hB9:=(hb9.block _ (ah.1 HX8.out.2.1).1).trans HX8.out.2.1
 have hSA:=aI w9 (.cells #[.string ⟨#[116,49]⟩,.slice (some ⟨sb,0,none⟩) 1 1,.bool true,.bool true,.string ⟨#[]⟩,.int .i64 10] 24)
 have hnA:=aM w9 (.cells #[.string ⟨#[116,49]⟩,.slice (some ⟨sb,0,none⟩) 1 1,.bool true,.bool true,.string ⟨#[]⟩,.int .i64 10] 24)
 have hb5A:=hb59.trans (hSA.mono hb59.size)
 have hAA:=(hSA.block _ (ah.1 hA9).1).trans hA9
 have hBA:=(hSA.block _ (ah.1 hB9).1).trans hB9
 have hLA:u7 (w9.alloc (.cells #[.string ⟨#[116,49]⟩,.slice (some ⟨sb,0,none⟩) 1 1,.bool true,.bool true,.string ⟨#[]⟩,.int .i64 10] 24)) fO (.slice (some ⟨w9.heap.size,0,none⟩) 1 1) [(xE,.slice (some ⟨sb,0,none⟩) 1 1)]:=
  ⟨Row.sW (e:=24) (cur:=[.string ⟨#[116,49]⟩,.slice (some ⟨sb,0,none⟩) 1 1,.bool true,.bool true,.string ⟨#[]⟩,.int .i64 10]) (off:=0) (k:=6) hnA 1 1 (by simp) id (by omega) (by unfold maxLen;omega),fun p hp=>by obtain rfl:=bH.1 hp;exact⟨_,dO.below HX5.out.2.2.1 hb5A⟩⟩
 have hf1:=JA _ _ _ _ _ [] fO _ fO _ hLA (dO.below HX5.out.2.2.2.1 hb5A) (dO.nil _ _ _)
 rw[show ([(xE,(Value.slice (some ⟨sb,0,none⟩) 1 1))]:List LP).map (·.1)=[xE] from rfl,RF] at hf1
 have HF1:=af hf1
 clear e0 e1 e2 e3 e4 e5 le f0 f1 f2 f3 f4 f5 fl
 obtain⟨e0,e1,e2,e3,e4,e5,le⟩:=dh hA9
 obtain⟨f0,f1,f2,f3,f4,f5,fl⟩:=dh hBA
 have HXA:=af (ay hAA (ay hBA hb5A))
 clear hA9 hB9 hAA hBA hb5A hb59 hf1 hLA hnA hSA hb9
 go_wp2_with (first
  |(go_at_call 16;go_must (refine HF1.out.mono ?_;rintro e wC ⟨rfl,hbC⟩;refine Stop.of ?_)))
 refine Stop.on ?_
 have hb5C:=HXA.out.2.2.trans (hbC.mono HXA.out.2.2.size)
 have hAC:=(hbC.block _ (ah.1 HXA.out.1).1).trans HXA.out.1
 have hBC:=(hbC.block _ (ah.1 HXA.out.2.1).1).trans HXA.out.2.1
 have hSD:=aI wC (.cells #[.string ⟨#[116,49]⟩,.slice (some ⟨sb,0,none⟩) 1 1,.bool true,.bool true,.string ⟨#[]⟩,.int .i64 10] 24)
 have hnD:=aM wC (.cells #[.string ⟨#[116,49]⟩,.slice (some ⟨sb,0,none⟩) 1 1,.bool true,.bool true,.string ⟨#[]⟩,.int .i64 10] 24)
 have hBD:=(hSD.block _ (ah.1 hBC).1).trans hBC
 obtain⟨wD,hwD⟩:∃wD:World,Hid (wC.alloc (.cells #[.string ⟨#[116,49]⟩,.slice (some ⟨sb,0,none⟩) 1 1,.bool true,.bool true,.string ⟨#[]⟩,.int .i64 10] 24)=wD):=⟨_,af rfl⟩
 have hsD:wD.heap.size=wC.heap.size+1:=by rw[←hwD.out];simp
 rw[hwD.out] at hSD hnD hBD
 have hSE:=aI wD (.cells #[.string ⟨#[116,49]⟩] 9)
 have hnE:=aM wD (.cells #[.string ⟨#[116,49]⟩] 9)
 obtain⟨wE,hwE⟩:∃wE:World,Hid (wD.alloc (.cells #[.string ⟨#[116,49]⟩] 9)=wE):=⟨_,af rfl⟩
 rw[hwE.out] at hSE hnE
 have hb5E:=hb5C.trans ((hSD.trans (hSE.mono hSD.size)).mono hb5C.size)
 have hnDE:=(hSE.block _ (ah.1 hnD).1).trans hnD
 have hLE:u7 wE fO (.slice (some ⟨wC.heap.size,0,none⟩) 1 1) [(xE,.slice (some ⟨sb,0,none⟩) 1 1)]:=
  ⟨Row.sW (e:=24) (cur:=[.string ⟨#[116,49]⟩,.slice (some ⟨sb,0,none⟩) 1 1,.bool true,.bool true,.string ⟨#[]⟩,.int .i64 10]) (off:=0) (k:=6) hnDE 1 1 (by simp) id (by omega) (by unfold maxLen;omega),fun p hp=>by obtain rfl:=bH.1 hp;exact⟨_,dO.below HX5.out.2.2.1 hb5E⟩⟩
 rw[hsD] at hnE
 have hTE:jA wE fO (.slice (some ⟨wC.heap.size+1,0,none⟩) 1 1) [⟨#[116,49]⟩]:=Row.sW (e:=9) (cur:=[.string ⟨#[116,49]⟩]) (off:=0) (k:=1) hnE 1 1 (by simp) id (by omega) (by unfold maxLen;omega)
 have hf2:=JA _ _ _ _ _ [⟨#[116,49]⟩] fO _ fO _ hLE (dO.below HX5.out.2.2.2.1 hb5E) hTE
 rw[show ([(xE,(Value.slice (some ⟨sb,0,none⟩) 1 1))]:List LP).map (·.1)=[xE] from rfl,RD] at hf2
 have HF2':=af hf2
 clear e0 e1 e2 e3 e4 e5 le f0 f1 f2 f3 f4 f5 fl
 obtain⟨e0,e1,e2,e3,e4,e5,le⟩:=dh hAC
 obtain⟨f0,f1,f2,f3,f4,f5,fl⟩:=dh hBD
 have HXE:=af hb5E
 clear hb5C hAC hBC hSD hnD hBD hSE hnE hb5E hnDE hLE hTE hf2 hbC
 go_wp2_with (first
  |(rw[hwD.out])
  |(rw[hwE.out])
  |(go_at_call 16;go_must (refine HF2'.out.mono ?_;rintro e wF ⟨rfl,hbF⟩)))
 go_ret
 have h:=HX5.out.2.2.2.2
 have h2:=h.trans (HXE.out.mono h.size)
 exact⟨rfl,h2.trans (hbF.mono h2.size)⟩
end Go.Proofs.YtpgdljlghiifjaaGreatDoor
namespace Go.Proofs.YtpgdljlghiifjaaGreatDoor
open Go.RowKit Go.ChangeShapes Go.WideShapes Go.ChangeAt Go.Deep Go.Shelf Go.Lib
set_option maxRecDepth 100000
set_option maxHeartbeats 8000000
set_option linter.all false
theorem KD {H:Type} {enc:TypeId×Value→H} {W:World} {fuel:Nat} {cs:List Value} {x:DataW H×List MemPlace} (h:DataW.trod enc Tryz.prog W 0 (fun _=>true) true fuel 22 cs=some x):
  ∃v l,cs=[v]∧jA W fO v l∧∀s∈l,s.size≤maxLen:=by
 rcases open_strs Tryz.underlying22 Tryz.underlying9 (by kernel_rfl) h with ⟨rfl,_⟩|⟨a,len,cap,m,Sx,rfl,hb,hl,hm,hmm,rfl,hx⟩
 ·exact⟨_,[],rfl,dO.nil _ _ _,by simp⟩
 ·have hmc:m=cap:=by rw[hmm];simp
  by_cases hc0:cap=0
  ·obtain rfl:len=0:=by omega
   subst hc0
   exact⟨_,[],rfl,.inr ⟨rfl,rfl,a,rfl⟩,by simp⟩
  ·obtain⟨b,o,sp⟩:=a
   have h0:=(hx 0 (by omega)).1
   have hs:sp=none:=by
    have:=World.cell?_spot h0
    simpa [Addr.add] using this
   subst hs
   have hlt:=aF W _ h0
   refine⟨_,(List.range len).map Sx,rfl,.inl ?_,?_⟩
   ·refine⟨some ⟨b,o,none⟩,cap,by simp,by simpa using hl,hm,by simp,(fun e=>by cases e),(fun ad e=> ?_),fun j u hu=>⟨b,o,rfl,?_⟩⟩
    ·cases e
     refine⟨rfl,?_,fun e=>e⟩
     simpa [Addr.add] using hlt
    ·rw[cZ,cZ] at hu
     by_cases hj:j<len
     ·rw[xA hj] at hu
      have:=(hx j (by omega)).1
      rw[fM] at this
      rw[this]
      simpa using hu
     ·rw[gy (by simpa using hj)] at hu
      simp at hu
   ·intro s hs
    obtain⟨i,hi,rfl⟩:=dP.1 hs
    exact(hx i (by have:=mX.1 hi;omega)).2
theorem xR {H:Type} {enc:TypeId×Value→H} {W:World} {fuel:Nat} {cs:List Value} {x:DataW H×List MemPlace} (h:DataW.trod enc Tryz.prog W 0 (fun _=>true) true fuel 24 cs=some x):
  ∃(l:bn) (pv:Value),cs=[.string l.token,pv,.bool l.deep,.bool l.excl,.string l.owner,.int .i64 l.till]∧jA W fO pv l.path∧l.Bl∧-9223372036854775808≤l.till∧l.till<9223372036854775808:=by
 obtain⟨xs,n,_,rfl,hl,hlen,hf⟩:=DataW.trod_struct Tryz.underlying24 h
 have h6:Tryz.prog.cellsOf 24=6:=by kernel_rfl
 have c9:Tryz.prog.cellsOf 9=1:=by kernel_rfl
 have c22:Tryz.prog.cellsOf 22=1:=by kernel_rfl
 have c4:Tryz.prog.cellsOf 4=1:=by kernel_rfl
 have c2:Tryz.prog.cellsOf 2=1:=by kernel_rfl
 rw[h6] at hl
 match xs,hlen,cs,hl with
 |[y0,y1,y2,y3,y4,y5],_,[v0,v1,v2,v3,v4,v5],_=>
  have g0:=hf 0 _ rfl
  have g1:=hf 1 _ rfl
  have g2:=hf 2 _ rfl
  have g3:=hf 3 _ rfl
  have g4:=hf 4 _ rfl
  have g5:=hf 5 _ rfl
  simp[c9,c22,c4,c2] at g0 g1 g2 g3 g4 g5
  obtain⟨s0,e0,_,k0⟩:=DataW.trod_string Tryz.underlying9 g0
  obtain⟨pv,l,e1,hp,k1⟩:=KD g1
  obtain⟨b2,e2,_⟩:=DataW.trod_bool Tryz.underlying4 g2
  obtain⟨b3,e3,_⟩:=DataW.trod_bool Tryz.underlying4 g3
  obtain⟨s4,e4,_,k4⟩:=DataW.trod_string Tryz.underlying9 g4
  obtain⟨z5,e5,_,k5⟩:=DataW.trod_int Tryz.underlying2 g5
  simp at e0 e1 e2 e3 e4 e5
  subst e0 e1 e2 e3 e4 e5
  refine⟨⟨s0,l,b2,b3,s4,z5⟩,v1,rfl,hp,⟨?_,?_,fun s hs=> ?_⟩,?_⟩
  ·dsimp only;unfold maxLen at k0;omega
  ·dsimp only;unfold maxLen at k4;omega
  ·have:=k1 s hs;unfold maxLen at this;omega
  ·simp only[Lit.wf,dS,bY] at k5
   have h1:(IntKind.i64.min:Int)= -9223372036854775808:=rfl
   have h2:(IntKind.i64.max:Int)=9223372036854775807:=rfl
   dsimp only
   omega
theorem Jh {W:World} {l:List (String×DataW Unit)} (hl:l=[("unicode/utf8.acceptRanges",Rows.laid_unicode_utf8_acceptRanges),("unicode/utf8.first",Rows.laid_unicode_utf8_first)]) (h:laidMetH Tryz.prog l W):tV W:=by
 subst hl
 rw[MakeChecks.laidMetH_plain _ _ _ (by kernel_rfl)] at h
 have e1:(Rows.laid_unicode_utf8_first:DataW Unit)=Lib.firstData:=by kernel_rfl
 have e2:(Rows.laid_unicode_utf8_acceptRanges:DataW Unit)=Lib.acceptData:=by kernel_rfl
 rw[e1,e2] at h
 exact utf8Tabs_of_readsT (U8Types.of196 LY) ⟨by kernel_rfl,by kernel_rfl,by kernel_rfl,by kernel_rfl,by kernel_rfl,by kernel_rfl,by kernel_rfl⟩ (Lib.laidMet.reads h (.tail _ (.head _))) (Lib.laidMet.reads h (.head _))
noncomputable def xV (os:Os):World:=
 let w0:=World.holding Tryz.prog os ⟨#[],#[],[]⟩
 let put (h:Array Obj) (g:Nat) (cs:Array Value):Array Obj:=h.modify g fun
  | .cells _ t frozen=> .cells cs t frozen
  |o=>o
 let h1:=put w0.heap 0 (Lib.firstTab.map fun z=>Value.int .u8 z).toArray
 let h2:=put h1 1 ((List.range 16).flatMap fun i=>[Value.int .u8 (Lib.accLo i),Value.int .u8 (Lib.accHi i)]).toArray
 {w0 with heap:=h2}
theorem Fy (os:Os) (args:Array Value):laidMetH Tryz.prog [("unicode/utf8.acceptRanges",Rows.laid_unicode_utf8_acceptRanges),("unicode/utf8.first",Rows.laid_unicode_utf8_first)] ((xV os).forCall (fun _ _=>0) ⟨#[],args,[]⟩).memory:=by
 rw[MakeChecks.laidMetH_plain _ _ _ (by kernel_rfl)]
 have e1:(Rows.laid_unicode_utf8_first:DataW Unit)=Lib.firstData:=by kernel_rfl
 have e2:(Rows.laid_unicode_utf8_acceptRanges:DataW Unit)=Lib.acceptData:=by kernel_rfl
 rw[e1,e2]
 exact(LaidIn.of_run (l:=[("unicode/utf8.acceptRanges",Lib.acceptData),("unicode/utf8.first",Lib.firstData)]) [1,0] 8 (by kernel_rfl) (by kernel_rfl) (by kernel_rfl) (by kernel_rfl)).met
theorem xU:laidOutB Tryz.prog=true:=by kernel_rfl
theorem Cr:ownKnob Tryz.prog.godebug=none:=by kernel_rfl
end Go.Proofs.YtpgdljlghiifjaaGreatDoor
