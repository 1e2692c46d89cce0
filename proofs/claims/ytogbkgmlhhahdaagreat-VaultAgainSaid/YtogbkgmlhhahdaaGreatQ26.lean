/- parts -/
import Derived.Test.YtogbkgmlhhahdaaGreatQ25
set_option maxRecDepth 100000
set_option maxHeartbeats 8000000
set_option linter.all false
namespace Go.Proofs.YtogbkgmlhhahdaaGreat
open Go.RowKit
theorem CX {f:Nat->Bool}:∀{n m:Nat},n<=m->(∀b,n<=b->f b=false)->countB f m=countB f n
 |n,0,h,_=>by
  obtain rfl:n=0:=by omega
  rfl
 |n,m+1,h,hf=>by
  rcases jf m n with hm|hm
  ·obtain rfl:n=m+1:=by omega
   rfl
  ·rw[fJ,CX hm hf,hf m hm]
   rfl
structure zx (σ:Dk)(l:Lg)(p:Pg)(f:Nat->Bool)(root:Nat):Prop where
 pd:p.dead=false
 sd:σ.dead=false
 two:2<=p.blocks σ
 map:p.look Im.none σ 0=bytesOf f
 hi:∀b,p.blocks σ<=b->f b=false
 f0:f 0=true
 f1:f 1=true
 root:QJ (p.look Im.none σ 1) root
theorem Gs (tr:Nat)(mp:VS)(root:Int)(σ:bZ)(S:Nat->Prop)(cs:List Pr)(tb:List Int)(w:World)(h:Inv σ S mp w)(ht:dG w tr mp root 0)(hT:zG σ root cs tb)(hl:cs.length<=4090):
  Calls Tryz.prog 46 #[.pointer (some ⟨tr,0,none⟩)] w fun e w'=>∃(v:Value) (L:List Int),e= .returned (.tuple #[v,.int .i64 0])/\L.Perm tb/\aQ w' S w.heap.size 3 1 v L.length (L.map (.int .i64))/\Below w.heap.size w w':=by
 obtain⟨n,T,hn,hB,hp⟩:=hT.bl (by omega)
 by_cases hr:root=0
 ·subst hr
  refine(Jb tr mp S w ht).mono ?_
  rintro e w' ⟨v,rfl,ho,hb⟩
  rw[if_pos rfl] at hB
  have hT0:T=[]:=by cases hB<;>simp_all
  exact⟨v,_,rfl,by rw[<-hT0];exact(sD _).trans hp,ho,hb⟩
 ·rw[if_neg hr] at hB
  refine(Jc tr mp root σ S w h ht hr n T hn hB (by have:=hp.length_eq;have:=hT.count;omega)).mono ?_
  rintro e w' ⟨v,rfl,ho,hb⟩
  exact⟨v,_,rfl,(sD _).trans hp,ho,hb⟩
theorem MU (es:List mH):((jC es).drop (cO (jC es) ⟨#[]⟩))=jC es:=by
 have:cO (jC es) ⟨#[]⟩=0:=by
  unfold cO
  cases jC es with
  |nil=>rfl
  |cons p r=>rw[Oo,yU];rfl
 rw[this,dP]
theorem TF {w:World}{S:Nat->Prop}{B g n c:Nat}{ps:List Pr}(h:aQ w S B 103 2 (.slice (some ⟨g,0,none⟩) n c) n (dO ps))(hn:ps.length=n)(k:Nat)(hk:k<n):
  w.cell? ⟨g,k*2,none⟩=some (.string (ps[k]'(by omega)).1)/\w.cell? ⟨g,k*2+1,none⟩=some (.string (ps[k]'(by omega)).2):=by
 have hP:jH w S (.slice (some ⟨g,0,none⟩) n c) ps:=by
  unfold jH
  rw[hn];exact h.dm
 obtain⟨pb,po,e1,d0,d1⟩:=hP.at rfl k (by omega)
 cases e1
 rw[dV] at d0 d1
 exact⟨d0,d1⟩
theorem OH (v pg d:Nat)(σ:Dk)(l:Lg)(p:Pg)(f:Nat->Bool)(root:Nat)(S:Nat->Prop)(w:World)(es:List mH)(tb:List Int)(hv:w.heap[v]? =some (.cells #[.pointer (some ⟨pg,0,none⟩)] 88 (0,0)))(hvS:¬S v)(h:jh w S pg d σ l p (.pointer none))(hB:zx σ l p f root)(hL:Live (bZ.start σ l p f) root es tb)(hl:es.length<=4090):
  Calls Tryz.prog 13 #[.pointer (some ⟨v,0,none⟩)] w fun e w'=>e= .returned (.int .i64 0)/\∃S',jh w' S' pg d σ l p (.pointer none)/\Step S S' w w':=by
 have HB:=ah (OJ v pg d σ l p f root S w hv hvS h hB.pd hB.sd hB.two hB.map hB.hi hB.f0 hB.f1 hB.root)
 have hcap:p.blocks σ<=4096:=by have:=h.ok.2.1.hi;unfold Pg.blocks;omega
 have HC:=ah (CX hcap hB.hi)
 have hsub:=h.sub
 clear hv h
 go_enter_defers Tryz.func13,Tryz.ntmps13
 go_wp2_with (first
  |(go_at_call 21;go_must (refine HB.out.mono ?_;rintro e w1 ⟨t,tr,mp,S1,rfl,hpg,hd,htx,htr,hI1,hs1,hn1,hn2,hlo1,hlo2⟩;refine Stop.of ?_)))
 refine Stop.on ?_
 obtain⟨τ,hτ⟩:∃τ,τ=bZ.start σ l p f:=⟨_,rfl⟩
 rw[<-hτ] at hI1 hL
 have c2:w1.cell? ⟨t,2,none⟩=some (.pointer (some ⟨tr,0,none⟩)):=by simp[World.cell?,htx,dH]
 have hlt:=(aj.1 htx).1
 have hl':(jC es).length<=4090:=by rw[fM];exact hl
 have HTB:=ah (Gs tr mp root τ S1 (jC es) tb w1 hI1 htr hL.tree hl')
 have hS1:∀g,S1 g->g<w1.heap.size:=hI1.sub
 have hI1':=hI1.ok
 have HX:=ah (aF htx (aF htr (aF hI1 hs1)))
 have HTAU:=ah hτ
 clear htx htr hI1 hs1 hτ
 go_wp2_with (first
  |(go_at_call 46;go_must (refine HTB.out.mono ?_;rintro e w2 ⟨bv,L,rfl,hp2,ho2,hb2⟩;refine Stop.of ?_)))
 refine Stop.on ?_
 obtain⟨xo,xc,rfl,_,_,_,_⟩:=aX.form ho2.dm
 have hS2:∀g,S1 g->g<w2.heap.size:=fun g hg=>ak (hS1 g hg) hb2.size
 have hLl:L.length<=9000:=by have:=hp2.length_eq;have:=hL.tree.count;omega
 have HP2:=ah hp2
 go_wp2_with (first
  |(at_builtin;go_must ((refine cK rfl (.tmp 35) (.tmp 36) 93 93 rfl S1 w1.heap.size 3 1 8 _ bf gX rfl (.slice xo L.length xc) _ _ rfl (ho2.below (aO _ _)) _ 2 _ rfl (gu [.int .i64 0,.int .i64 1] _ 1 2 2 (by simp) bf rfl ?_) (eU hS2 _) ?_ ?_ ?_ ?_);(focus (simp[Value.oneCell']));(focus (simp only[aS];have:=hb2.size;omega));(focus (unfold maxLen;omega));(focus omega);intro ao3 c3 w3 hown3 hk3 hb3 hd3;refine Stop.of ?_)))
 refine Stop.on ?_
 have hb13:Below w1.heap.size w1 w3:=(hb2.trans ((aO w2 _).mono hb2.size)).trans hb3
 have hE:L.map (Value.int .i64)++[.int .i64 0,.int .i64 1]=(L++[0,1]).map (.int .i64):=by simp
 have hE2:L.length+2=(L++[0,1]).length:=by simp
 rw[hE,hE2] at hown3
 have htx3:=(hb13.block t hlt).trans HX.out.1
 have d2:w3.cell? ⟨t,2,none⟩=some (.pointer (some ⟨tr,0,none⟩)):=by simp[World.cell?,htx3,dH]
 have hlt3:=(aj.1 htx3).1
 have hI3:=HX.out.2.2.1.below hb13
 have htr3:dG w3 tr mp root 0:=(hb13.block tr (aj.1 HX.out.2.1).1).trans HX.out.2.1
 have hSC:=Eb tr mp root τ S1 (jC es) tb ⟨#[]⟩ 262144 w3 hI3 htr3 hL.tree hl'
 rw[MU,aJ (by rw[fM];show es.length<=(262144:Int).toNat;omega),fM] at hSC
 have HSC:=ah hSC
 have HO3:=ah hown3
 have HB13:=ah hb13
 have HI3:=ah hI3
 obtain⟨A0,hA0⟩:∃A,A=L++[0,1]:=⟨_,rfl⟩
 obtain⟨n0,hn0⟩:∃n,n=L.length+2:=⟨_,rfl⟩
 rw[<-hE2,<-hn0,<-hA0] at HO3
 rw[<-hn0]
 have HA0:=ah hA0;have HN0:=ah (show A0.length=n0 by rw[hA0,hn0];simp);have HNL:=ah (aF hLl hn0)
 clear hown3 hb13 hI3 hSC htx3 htr3 hb3 hk3 hd3 ho2 hb2 hp2 hE hE2 hA0 hn0
 go_wp2_with (first
  |(go_at_call 47;go_must (refine HSC.out.mono ?_;rintro e w4 ⟨pv,rfl,ho4,hb4⟩;refine Stop.of ?_)))
 refine Stop.on ?_
 obtain⟨po,pc,rfl,_,_,_,_⟩:=aX.form ho4.dm
 obtain⟨n,hn⟩:∃n,n=es.length:=⟨_,rfl⟩
 have HN:=ah hn
 rw[<-hn] at ho4 ⊢
 have ho4':=ho4.base HB13.out.size
 have hA4:=HO3.out.below hb4
 have hb14:=HB13.out.trans (hb4.mono HB13.out.size)
 have HV:=ah hL.val
 have hct:=hL.own.count hI1' hL.all
 have hbn:(eX es).length<=4096:=by
  have:=countB_le τ.now τ.most
  rw[hct,ay] at this
  have:=hI1'.cap
  omega
 have HBN:=ah hbn;have HCT:=ah hct
 clear hbn hct
 clear hn ho4 hb4
 go_wp2_with fail
 go_loopw [5,8,9,10,11,12,51] (fun a _ _ _ _ _ i wr=>∃(k:Nat) (A:List Int),k<=n/\i= .int .i64 k/\aQ wr S1 w1.heap.size 3 1 a A.length (A.map (.int .i64))/\A.Perm (A0++eX (es.take k))/\aQ wr S1 w1.heap.size 103 2 (.slice po n pc) n (dO (jC es))/\Below w1.heap.size w1 wr) (fun _ _ _ _ _ _ i _=>n - (intOf i).toNat)
 case atStart=>exact⟨0,A0,aT _,rfl,by rw[HN0.out];exact hA4,by simp[eX],ho4',hb14⟩
 case round=>
  clear hA4 ho4' hb14
  obtain⟨k,A,hk,rfl,hAo,hAp,hPo,hbk⟩:=hrel
  obtain⟨ao,ac,rfl,_,_,_,_⟩:=aX.form hAo.dm
  by_cases hkn:k<n
  ·have y1:(k:Int)<(n:Int):=by omega
   have hkx:k<es.length:=by rw[<-HN.out];exact hkn
   obtain⟨g,c,e1,_,_,hg1,hg2⟩:=hPo.Ay (by omega)
   cases e1
   obtain⟨d0,d1⟩:=TF hPo (by rw[fM];exact HN.out.symm) k hkn
   obtain⟨E,hE⟩:∃E,Hid (es[k]=E):=⟨_,ah rfl⟩
   have hcs:(jC es)[k]'(by rw[fM];exact hkx)=(E.k,E.s):=by rw[<-hE.out];simp[jC]
   rw[hcs] at d0 d1
   have hEm:E∈es:=by rw[<-hE.out];exact bE hkx
   have HTK:=ah (show eX (es.take (k+1))=eX (es.take k)++E.b by rw[aM hkx,kS,hE.out];simp[eX])
   have hAl:A.length+97<=20000:=by
    have e1:=hAp.length_eq
    rw[ay,HN0.out] at e1
    have e2:=HBN.out
    have e4:=HNL.out
    have e3:(eX (es.take k)).length<=(eX es).length:=by
     have:eX es=eX (es.take k)++eX (es.drop k):=by rw[<-kS,bJ]
     rw[this,ay];omega
    omega
   have hlw:g<wr.heap.size:=hg2
   have hsr:∀g,S1 g->g<wr.heap.size:=fun g hg=>ak (hS1 g hg) hbk.size
   have HAO:=ah hAo;have HAP:=ah hAp;have HPO:=ah hPo;have HBK:=ah hbk
   clear hcs hAo hAp hPo hbk
   rcases HV.out E hEm with ⟨s1,s2,s3⟩|⟨hd',rs,s1,s2,s3,s4⟩
   ·have hsz:E.s.size<=1000000:=by
     have:E.s.size=E.v.size+1:=by rw[s1];show (0::E.v.data.toList).toArray.size=E.v.data.size+1;simp
     omega
    have hl0:rO E.s.data.toList=none:=by rw[s1];exact vg _
    have HL0:=ah hl0
    clear s1 s2 hl0
    go_wp2_with (first
     |(go_at_call 48;go_must (refine(D6 E.s _ hsz).mono ?_;rw[HL0.out];rintro e w5 ⟨hb5,rfl⟩;refine Stop.of ?_)))
    refine Stop.on ?_
    have hbw5:Below wr.heap.size wr w5:=(aO wr _).trans (hb5.mono (by simp))
    clear hb5
    go_wp2_with fail
    go_roundw
    case rel=>exact⟨k+1,A,by omega,by go_num,HAO.out.below hbw5,by rw[HTK.out,s3,dJ];exact HAP.out,HPO.out.below hbw5,HBK.out.trans (hbw5.mono HBK.out.size)⟩
    case measure=>simp[intOf];omega
   ·have hsz:E.s.size<=1000000:=by rw[s1];show [1,UInt8.ofNat hd',UInt8.ofNat (hd'/256)].toArray.size<=_;simp
    have hl0:rO E.s.data.toList=some hd':=by rw[s1];exact xS hd' s2.1
    have HL0:=ah hl0;have HS3:=ah s3;have HS4:=ah s4
    clear s1 s2 hl0 s3 s4
    go_wp2_with (first
     |(go_at_call 48;go_must (refine(D6 E.s _ hsz).mono ?_;rw[HL0.out];rintro e w5 ⟨hb5,rfl⟩;refine Stop.of ?_)))
    refine Stop.on ?_
    have hbw5:Below wr.heap.size wr w5:=(aO wr _).trans (hb5.mono (by simp))
    have hb15:=HBK.out.trans (hbw5.mono HBK.out.size)
    have htx5:=(hb15.block t hlt).trans HX.out.1
    have f0:w5.cell? ⟨t,0,none⟩=some (.pointer (some ⟨mp.tx,0,none⟩)):=by simp[World.cell?,htx5,dH]
    have f1:w5.cell? ⟨t,1,none⟩=some (.pointer (some ⟨mp.mp,0,none⟩)):=by simp[World.cell?,htx5,dH]
    have hlt5:=(aj.1 htx5).1
    have HBB:=ah (Mc mp τ S1 w5 hd' _ rs (HX.out.2.2.1.below hb15) HS3.out.hd)
    have HB5:=ah (aF hbw5 hb15)
    clear hb5 hbw5 hb15 htx5
    go_wp2_with (first
     |(go_at_call 49;go_must (refine HBB.out.mono ?_;rintro e w6 ⟨mv,rfl,ho6,hb6⟩;refine Stop.of ?_)))
    refine Stop.on ?_
    obtain⟨mo,mc,rfl,_,_,_,_⟩:=aX.form ho6.dm
    have hml:(qf (jZ hd' rs)).length<=97:=by
     rw[sF]
     have:=HS3.out.hd.runs.2
     simp[jZ];omega
    have hb56:=HB5.out.1.trans (hb6.mono HB5.out.1.size)
    have hsrc:=aX.src (P:=Tryz.prog) ho6.dm bf (qM _)
    have hA6:=HAO.out.below hb56
    have hP6:=HPO.out.below hb56
    have hs6:∀g,S1 g->g<w6.heap.size:=fun g hg=>ak (hsr g hg) hb56.size
    have hz6:w1.heap.size<=w6.heap.size:=aK HBK.out.size hb56.size
    obtain⟨B,hB⟩:∃B,Hid (qf (jZ hd' rs)=B):=⟨_,ah rfl⟩
    rw[hB.out] at hml hsrc ⊢
    clear ho6 hb6
    go_wp2_with (first
     |(at_builtin;(refine cK rfl (.tmp 75) (.tmp 76) 93 93 rfl S1 w1.heap.size 3 1 8 _ bf gX rfl (.slice ao A.length ac) A.length _ rfl hA6 (.slice mo B.length mc) B.length _ rfl hsrc hs6 hz6 (by unfold maxLen;omega) (by omega) ?_);go_must (intro ao7 c7 w7 hown7 hk7 hb7 hd7;refine Stop.of ?_)))
    refine Stop.on ?_
    go_wp2_with fail
    have hAm:A.map (Value.int .i64)++B.map (.int .i64)=(A++B).map (.int .i64):=by simp
    have hAl2:A.length+B.length=(A++B).length:=by simp
    go_roundw
    case rel=>
     refine⟨k+1,A++B,by omega,by go_num,by rw[<-hAm,<-hAl2];exact hown7,?_,hP6.keep fun x hx hl hs=>⟨hk7.block x hl (fun e=>aQ.Ju hP6 hA6 (by decide) _ hx e),hs⟩,(HBK.out.trans (hb56.mono HBK.out.size)).trans hb7⟩
     rw[HTK.out,HS4.out,<-aL]
     exact HAP.out.append (by rw[<-hB.out];exact sD _)
    case measure=>simp[intOf];omega
  ·obtain rfl:k=n:=by omega
   have y1:¬(k:Int)<(k:Int):=by omega
   have hAp2:A.Perm (A0++eX es):=by
    have:=hAp
    rwa [HN.out,bR] at this
   have hperm:A.Perm (0::1::(tb++eX es)):=by
    refine hAp2.trans ?_
    rw[HA0.out]
    have e1:(L++[0,1]++eX es).Perm ([0,1]++L++eX es):=gJ.append_right _
    refine e1.trans ?_
    have e2:([0,1]++L++eX es)=0::1::(L++eX es):=by simp
    rw[e2]
    exact((HP2.out.append_right _).cons _).cons _
   have hlen:A.length=countB f 4096:=by
    rw[hperm.length_eq,HC.out]
    have e1:=HCT.out
    have e2:countB τ.now τ.most=countB f (p.blocks σ):=by rw[HTAU.out];rfl
    rw[e2] at e1
    rw[e1];simp;omega
   have hAll:∀x∈A,∃b:Nat,x=b/\b<τ.most/\τ.now b=true:=by
    intro x hx
    rcases bM.1 (hperm.mem_iff.1 hx) with rfl|hx
    ·exact⟨0,rfl,by have:=hI1'.two;omega,hI1'.n0⟩
    ·rcases bM.1 hx with rfl|hx
     ·exact⟨1,rfl,by have:=hI1'.two;omega,hI1'.n1⟩
     ·exact bZ.kJ (hL.all x hx).1
   have hnd:A.Nodup:=by
    refine hperm.nodup_iff.2 (lu.2 ⟨fun e=> ?_,lu.2 ⟨fun e=> ?_,hL.own.nd⟩⟩)
    ·rcases bM.1 e with e|e
     ·cases e
     ·have:=(hL.all 0 e).2;omega
    ·have:=(hL.all 1 e).2;omega
   have hAl:A.length<=4096:=by rw[hlen];exact countB_le f 4096
   have HSO:=ah (yB _ A wr S1 w1.heap.size hAo (by omega) hbk.size)
   obtain⟨Q,hQ⟩:∃Q,Hid (qf A=Q):=⟨_,ah rfl⟩
   have hQr:=MN hnd
   have hQl:=sF A
   have hQm:∀x∈qf A,x∈A:=fun x hx=>(BM x).1 hx
   rw[hQ.out] at HSO hQr hQl hQm
   obtain⟨m,hm⟩:∃m,m=A.length:=⟨_,rfl⟩
   rw[hQl,<-hm] at HSO
   rw[<-hm] at hQl hlen hAl ⊢
   have HQ:=ah (aF hQr (aF hQl (aF hQm hAll)))
   have HLEN:=ah hlen;have HBK:=ah hbk
   clear hAp hAp2 hperm hlen hAll hnd hQr hQl hQm hm hAo hPo hbk
   go_wp2_with (first
    |(go_at_call 50;go_must (refine HSO.out.mono ?_;rintro e w5 ⟨rfl,ho5,hb5⟩;refine Stop.of ?_)))
   refine Stop.on ?_
   have hb15:=HBK.out.trans hb5
   have htx5:=(hb15.block t hlt).trans HX.out.1
   have f1:w5.cell? ⟨t,1,none⟩=some (.pointer (some ⟨mp.mp,0,none⟩)):=by simp[World.cell?,htx5,dH]
   have hlt5:=(aj.1 htx5).1
   have hI5:=HX.out.2.2.1.below hb15
   have hmap:qi w5 mp.mp τ.most τ.now τ.H.old:=by obtain⟨Sp,T,hI,_⟩:=hI5;exact hI.map
   have HMAP:=ah hmap;have HO5:=ah ho5;have HX5:=ah (aF htx5 (aF hI5 hb15))
   clear hmap ho5 htx5 hI5 hb15 hb5
   have hmc:=hI1'.cap
   go_wp2_with fail
   go_loopw [13,14,83] (fun _ _ i wk=>∃j:Nat,j<=m/\i= .int .i64 j/\wk=w5) (fun _ _ i _=>m - (intOf i).toNat)
   case atStart=>exact⟨0,aT _,rfl,rfl⟩
   case round=>
    obtain⟨j,hj,rfl,hwk⟩:=hrel
    subst hwk
    by_cases hjm:j<m
    ·have y2:(j:Int)<(m:Int):=by omega
     have hI:jJ wr S1 (.slice ao m ac) Q:=by
      have:=HO5.out.dm
      unfold jJ
      rw[HQ.out.2.1];exact this
     have hjQ:j<Q.length:=by rw[HQ.out.2.1];exact hjm
     obtain⟨pb,po',rfl,q1⟩:=hI.at rfl j hjQ
     have hpb:=aD wr _ q1
     obtain⟨b,hb,hbm,hbn⟩:=HQ.out.2.2.2 Q[j] (HQ.out.2.2.1 _ (bE hjQ))
     have HBQ:=ah hb
     rw[hb] at q1
     have HHS:=UW mp.mp τ.most τ.now τ.H.old b wr HMAP.out hmc (by omega)
     rw[show (decide (b<τ.most) && τ.now b)=true by simp[hbm,hbn]] at HHS
     have HHS:=ah HHS
     by_cases hj0:j=0
     ·subst hj0
      rw[iw] at q1
      clear hI hb hbm hbn
      go_wp2_with (first
       |(go_at_call 51;go_must (refine HHS.out.mono ?_;rintro e w6 ⟨rfl,hw6⟩;subst w6)))
      go_roundw
      case rel=>exact⟨1,by omega,by go_num,trivial⟩
      case measure=>simp[intOf];omega
     ·have hj1:j - 1<Q.length:=by omega
      obtain⟨pb',po'',e',q2⟩:=hI.at rfl (j - 1) hj1
      cases e'
      obtain⟨b2,hb2,_,_⟩:=HQ.out.2.2.2 Q[j - 1] (HQ.out.2.2.1 _ (bE hj1))
      have hne:¬b2=b:=by
       have:=gN.1 HQ.out.1 (j - 1) j hj1 hjQ (by omega)
       omega
      rw[hb2] at q2
      have y3:(0:Int)<(j:Int):=by omega
      have y4:IntKind.i64.wrap ((j:Int) - 1)=((j - 1:Nat):Int):=by rw[aG _ (by omega)];omega
      have y5:((j - 1:Nat):Int)<(m:Int):=by omega
      have y6:(0:Int)<=((j - 1:Nat):Int):=by omega
      have y7:¬(b2:Int)=(b:Int):=by omega
      have y8:((b2:Int)==(b:Int))=false:=by simpa using y7
      obtain⟨j1,hj1e⟩:∃x:Nat,Hid (j - 1=x):=⟨_,ah rfl⟩
      rw[hj1e.out] at q2 y4 y5 y6
      clear hI hb hbm hbn hb2
      go_wp2_with (first
       |(go_at_call 51;go_must (refine HHS.out.mono ?_;rintro e w6 ⟨rfl,hw6⟩;subst w6)))
      go_roundw
      case rel=>exact⟨j+1,by omega,by go_num,trivial⟩
      case measure=>simp[intOf];omega
    ·obtain rfl:j=m:=by omega
     have y2:¬(j:Int)<(j:Int):=by omega
     have HU:=UR mp.mp τ.most τ.now τ.H.old wr HMAP.out
     have hnow:countB τ.now 4096=j:=by rw[HLEN.out,HTAU.out];rfl
     rw[hnow] at HU
     have HU:=ah HU
     have HLO:=ah (aF hlo1 (aF hpg (aF hd hn1)))
     clear hnow
     go_wp2_with (first
      |(go_at_call 52;go_must (refine HU.out.mono ?_;rintro e w6 ⟨rfl,hw6⟩;subst w6)))
     refine jA (f:=31) (args:=#[.pointer (some ⟨t,0,none⟩)]) (by simp) (by simp[go_sem]) ?_
     refine(OL t tr mp false 0 τ S1 _ _ HX5.out.1 HX5.out.2.1 hn1).mono ?_
     rintro e u' w7 ⟨rfl,rfl,⟨Sp,hp7,hsp7⟩,h7,hk7⟩
     rw[HTAU.out] at hp7
     refine⟨_,by simp[results,Tryz.results13,go_sem],rfl,Sp,by rw[<-HLO.out.2.1,<-HLO.out.2.2.1];exact hp7,(HX.out.2.2.2.1.trans (Keep.of_below HX5.out.2.2 fZ) (fun _ _ e=>e.elim)).trans hk7 (fun g hg e=> ?_),fun g hg=>HX.out.2.2.2.2 g (hsp7 g hg)⟩
     rcases e with e|e
     ·exact(HX.out.2.2.2.2 g e).elim id (fun x=>absurd hg (bq.2 x))
     ·subst e;exact absurd hg (bq.2 HLO.out.1)
def Ad (n:Nat)(log:Int):Int:=if log<6\/(n:Int) - 8<log then 1 else 0
theorem UG (d:Nat)(σ:Dk)(Sd:Nat->Prop)(log:Int)(w:World)(h:rD w Sd d σ):
  Calls Tryz.prog 37 #[.pointer (some ⟨d,0,none⟩),.int .i64 log] w fun e w'=>e= .returned (.int .i64 (Ad σ.n log))/\w'=w:=by
 have HS:=ah (IE d σ Sd w h)
 have hi:=h.ok.hi
 have q:IntKind.i64.wrap ((σ.n:Int) - 8)=(σ.n:Int) - 8:=aG _ (by omega)
 clear h
 unfold Ad
 by_cases h1:log<6
 ·rw[if_pos (.inl h1)]
  go_enter Tryz.func37,Tryz.ntmps37
  go_wp2_with fail
  go_ret
  exact⟨rfl,rfl⟩
 ·by_cases h2:(σ.n:Int) - 8<log
  ·rw[if_pos (.inr h2)]
   go_enter Tryz.func37,Tryz.ntmps37
   go_wp2_with (first
    |(go_at_call 9;go_must (refine HS.out.mono ?_;rintro e w1 ⟨rfl,hw1⟩;subst w1)))
   go_ret
   exact⟨rfl,rfl⟩
  ·rw[if_neg (by omega)]
   go_enter Tryz.func37,Tryz.ntmps37
   go_wp2_with (first
    |(go_at_call 9;go_must (refine HS.out.mono ?_;rintro e w1 ⟨rfl,hw1⟩;subst w1)))
   go_ret
   exact⟨rfl,rfl⟩
theorem LK {im:Im}{n:Nat}(h:im.Ok n):dQ im.bF=(16+520*im.ks.length+511)/512:=by
 have e:(im.bF.map fun r=>4+r.length).sum=520*im.ks.length:=by
  unfold Im.bF
  rw[zK]
  have hi:=h.img
  revert hi
  generalize im.ks=ks
  intro hi
  induction ks with
  |nil=>rfl
  |cons k ks ih=>
   rw[dw,lY,ih (fun x hx=>hi x (aW _ hx)),aZ]
   have:=hi k (bg ..)
   show 4+(leB k 4++im.img k).length+_=_
   rw[ay,bW,this];omega
 unfold dQ
 rw[e]
theorem Dk.Gm:∀(k i:Nat) (σ:Dk) (j:Nat),i<=j->j<i+k->(Dk.uO k i σ).get j=pad []
 |0,_,_,_,h1,h2=>absurd h2 (by omega)
 |k+1,i,σ,j,h1,h2=>by
  rw[Dk.zM,Dk.get_put]
  split
  ·rfl
  ·exact Dk.Gm k i σ j h1 (by omega)
theorem PK {σ:Dk}{log:Nat}(hl:(Lg.new 0 log).Ok)(hp:(Pg.new log).Ok σ (Lg.new 0 log))(hw:σ.waits=[])(hm:σ.get 0=pad (Lg.new 0 log).fE):mY σ (Lg.new 0 log) (Pg.new log) (fun _ b=>σ.get (log+b)):=
 ⟨[],⟨hl,hp,rfl,aC _,aC _,(fun im h=>by cases h),(fun i h=>by cases h),Al.none ⟨hm,(fun i h=>by simp[gF] at h),fun b _=>rfl⟩ hw,fun b=>rfl,(by rw[hw];exact aC _),fun _=>hw⟩,fun k _ _ b _=>by rw[QZ];rfl⟩
structure Sj (σ0:Dk)(log:Nat)(σ:Dk)(l:Lg)(p:Pg):Prop where
 vi:VI σ l p
 last:l.last=1
 synced:l.synced=1
 skip:p.skip=log
 ring:p.ring=log - 1
 n:σ.n=σ0.n
 base:zx σ l p two 0
 rc:∃C,mY σ l p C
 wts:σ.waits=[]
theorem Sj.live {σ:Dk}{l:Lg}{p:Pg}:Live (bZ.start σ l p two) 0 [] []:=by
 refine⟨.inl ⟨rfl,rfl,rfl⟩,(fun e he=>by cases he),⟨qz,fun x hx=> ?_,?_⟩⟩
 ·obtain⟨n,rfl,_,h⟩:=bZ.kJ hx
  have h:two n=true:=h
  unfold two at h
  have:=je h
  omega
 ·show countB (fun x=>two x||two x) (p.blocks σ)=countB two (p.blocks σ)+0
  rw[iw]
  exact jL _ (fun x _=>Bool.or_self _)
theorem UD (d:Nat)(σ:Dk)(Sd:Nat->Prop)(log:Nat)(w:World)(h:rD w Sd d σ)(hf:σ.nX)(h1:6<=log)(h2:log+8<=σ.n)(hcap:σ.waits.length<=50000):
  Calls Tryz.prog 11 #[.pointer (some ⟨d,0,none⟩),.int .i64 log] w fun e w'=>∃v pg σ' l' p' S',e= .returned (.tuple #[.pointer (some ⟨v,0,none⟩),.int .i64 0])/\w'.heap[v]? =some (.cells #[.pointer (some ⟨pg,0,none⟩)] 88 (0,0))/\¬S' v/\w.heap.size<=v/\jh w' S' pg d σ' l' p' (.pointer none)/\Sj σ log σ' l' p'/\Step Sd S' w w':=by
 have hck:=UG d σ Sd log w h
 have hc0:Ad σ.n log=0:=by unfold Ad;rw[if_neg (by omega)]
 rw[hc0] at hck
 have HCK:=ah hck
 have hdn:=h.ok.hi
 have HPM:=ah (UN d σ Sd log w h hf (by omega) (by omega) hcap)
 have hsub:=h.sub
 clear h hck hc0
 go_enter Tryz.func11,Tryz.ntmps11
 go_wp2_with (first
  |(go_at_call 37;go_must (refine HCK.out.mono ?_;rintro e w1 ⟨rfl,hw1⟩;subst w1))
  |(go_at_call 39;go_must (refine HPM.out.mono ?_;rintro e w1 ⟨pg,S1,rfl,hp1,hs1⟩;refine Stop.of ?_)))
 refine Stop.on ?_
 obtain⟨σ1,hσ1⟩:∃σ1,σ1=(((Dk.uO (σ.n - log) log σ).flush.put 0 (Lg.new 0 log).fE).flush):=⟨_,rfl⟩
 rw[<-hσ1] at hp1
 have hn1:σ1.n=σ.n:=by rw[hσ1];exact Dk.zN _ _ _
 have hf1:σ1.nX:=by rw[hσ1];exact Dk.wD _ _ _ hf
 have hw1:σ1.waits=[]:=by rw[hσ1];rfl
 have hg1:∀j,log<=j->j<σ.n->σ1.get j=pad []:=fun j a b=>by
  rw[hσ1,xV _ _ _ _ (by omega)]
  exact Dk.Gm _ _ _ _ a (by omega)
 have hm1:σ1.get 0=pad (Lg.new 0 log).fE:=by rw[hσ1,Dk.oh,Dk.get_put,if_pos rfl]
 have HRC:=ah (PK hp1.ok.2.2 hp1.ok.1 hw1 hm1)
 clear hm1
 have hbl:(Pg.new log).blocks σ1=σ.n - log:=by unfold Pg.blocks;rw[hn1];rfl
 have HBG:=ah (Py pg d σ1 (Lg.new 0 log) (Pg.new log) S1 w1 hp1 rfl)
 have hsub1:=hp1.sub
 have HS1:=ah hs1
 have HF1:=ah (aF hn1 (aF hf1 (aF hw1 hg1)))
 clear hσ1 hp1 hs1 hn1 hf1 hw1 hg1
 go_wp2_with (first
  |(go_at_call 40;go_must (refine HBG.out.mono ?_;rintro e w2 ⟨t,T,rfl,hp2,ht2,hs2,hT2⟩;refine Stop.of ?_)))
 refine Stop.on ?_
 have hdis:∀g,S1 g->¬T g:=fun g hg e=>absurd (hT2 g e) (gI.2 (hsub1 g hg))
 have HBL:=ah (yM pg d σ1 (Lg.new 0 log) (Pg.new log) _ S1 w2 hp2)
 have HSM:=ah (Tw t pg d σ1 (Lg.new 0 log) (Pg.new log) _ Im.none S1 T w2.drew (hp2.below ((aR _ w2).drew)) (ht2.below ((aR _ w2).drew)) rfl (by omega))
 clear hbl
 have HX2:=ah (aF hp2 hs2)
 clear hp2 ht2 hs2
 go_wp2_with (first
  |(go_at_call 42;go_must (refine HBL.out.mono ?_;rintro e w3 ⟨rfl,hw3⟩;subst w3))
  |(go_at_call 41;go_must (refine HSM.out.mono ?_;rintro e w3 ⟨rfl,ht3,hs3⟩;refine Stop.of ?_)))
 refine Stop.on ?_
 obtain⟨im,him⟩:∃im,im=Im.none.put 0 (bytesOf two):=⟨_,rfl⟩
 rw[<-him] at ht3
 have hp3:=(HX2.out.1.below ((aR _ w2).drew)).keep hs3.1 (fun g hg e=>hdis g hg e)
 have himok:im.Ok ((Pg.new log).blocks σ1):=by obtain⟨_,q⟩:=ht3;exact q.ok
 have hks:im.ks=[0]:=by rw[him];rfl
 have hPO:=hp3.ok
 have hV1:VI σ1 (Lg.new 0 log) (Pg.new log):=⟨HF1.out.2.1,rfl,rfl,by rw[HF1.out.2.2.1];exact aT _,fun _=>⟨_,HRC.out⟩⟩
 have HCM:=LD t pg d σ1 (Lg.new 0 log) (Pg.new log) _ im S1 T w3 hp3 ht3 hdis rfl rfl (by rw[HF1.out.2.2.1];exact aT _) (by show 0<1000000000000;omega)
 obtain⟨σ2,l2,p2,hcm,hV2,hl2,hk2,hr2,hn2,hlk2⟩:∃σ2 l2 p2,(Pg.new log).commit σ1 (Lg.new 0 log) im=(σ2,l2,p2,1,0)/\VI σ2 l2 p2/\l2.last=1/\p2.skip=log/\p2.ring=log - 1/\σ2.n=σ1.n/\∀b,p2.look Im.none σ2 b=(Pg.new log).look im σ1 b:=by
  rcases KR hV1 hPO.1 hPO.2.2 himok with ⟨q,_⟩|⟨_,q,_⟩|⟨_,_,σ2,l2,p2,q1,q2,q3,q4,q5,q6,q7⟩
  ·rw[hks] at q;cases q
  ·unfold Pg.rH at q
   rw[LK himok,hks] at q
   have:(Pg.new log).ring=log - 1:=rfl
   rw[this] at q
   simp at q
   omega
  ·exact⟨σ2,l2,p2,q1,q2,q3,q4,q5,q6,q7⟩
 have hrc:∃C,mY σ2 l2 p2 C:=by
  rcases vM HRC.out HF1.out.2.1.1 rfl rfl himok (by show 0<1000000000000;omega) with ⟨q,_⟩|⟨_,_,q⟩|⟨_,_,⟨_,_,_,q,_,_,_,_,_,_,_,_,_,r,_⟩|⟨_,_,_,q,_⟩⟩
  ·rw[hks] at q;cases q
  ·rw[hcm] at q;simp at q
  ·rw[hcm] at q
   simp only[nM] at q
   obtain⟨rfl,rfl,rfl,_⟩:=q
   exact⟨_,r⟩
  ·rw[hcm] at q;simp at q
 have HRC2:=ah hrc
 clear hrc
 rw[hcm] at HCM
 have HCM:=ah HCM
 have HLK:=ah (aF hV2 (aF hl2 (aF hk2 (aF hr2 (aF hn2 (aF hlk2 him))))))
 have HS3:=ah (HX2.out.2.trans ((Step.of_below ((aR _ w2).drew):Step S1 S1 w2 w2.drew)))
 have HK3:=ah hs3
 clear hp3 ht3 himok hks hPO hV1 hcm hV2 hl2 hk2 hr2 hn2 hlk2 him hs3
 go_wp2_with (first
  |(go_at_call 43;go_must (refine HCM.out.mono ?_;rintro e w4 ⟨rfl,S4,hp4,hE4,hs4⟩;refine Stop.of ?_)))
 refine Stop.on ?_
 obtain⟨σ5,l5,hsy,hV5,hl5,hy5,hn5,hlk5⟩:=OY HLK.out.1 hp4.ok.1
 have HSY:=Sz pg d σ2 l2 p2 _ S4 w4 hp4 (by have:=HLK.out.1.wt;have:=hp4.ok.2.2.us;have:=hp4.ok.2.2.hi;omega)
 have hrc:(∃C,mY σ5 l5 p2 C)/\σ5.waits=[]:=by
  obtain⟨C,hC⟩:=HRC2.out
  rcases BJ hC HLK.out.1.free.1 HLK.out.1.ld HLK.out.1.pd with ⟨_,_,q,_,_,_,_,hw,_,_,r,_⟩|⟨_,_,q,_⟩
  ·rw[hsy] at q
   simp only[nM] at q
   obtain⟨rfl,rfl,_⟩:=q
   exact⟨⟨_,r⟩,hw⟩
  ·rw[hsy] at q;simp at q
 have HRC5:=ah hrc
 clear hrc
 rw[hsy] at HSY
 have HSY:=ah HSY
 have HL5:=ah (aF hV5 (aF hl5 (aF hy5 (aF hn5 hlk5))))
 have HS4:=ah hs4
 clear hp4 hE4 hs4 hsy hV5 hl5 hy5 hn5 hlk5
 go_wp2_with (first
  |(go_at_call 44;go_must (refine HSY.out.mono ?_;rintro e w5 ⟨rfl,S5,hp5,hs5⟩;refine Stop.of ?_)))
 refine Stop.on ?_
 go_wp2_with fail
 go_ret2
 have hb6:=aO w5 (.cells #[.pointer (some ⟨pg,0,none⟩)] 88)
 have hsub5:=hp5.sub
 have hz5:w.heap.size<=w5.heap.size:=by
  have a:=HS1.out.1.size;have b:=HS3.out.1.size;have c:=HK3.out.1.size;have d:=HS4.out.1.size;have e:=hs5.1.size
  omega
 have hskip:=HLK.out.2.2.1
 have hlook:∀b,p2.look Im.none σ5 b=(Pg.new log).look im σ1 b:=fun b=>(HL5.out.2.2.2.2 Im.none b).trans (HLK.out.2.2.2.2.2.1 b)
 have hn5:σ5.n=σ.n:=HL5.out.2.2.2.1.trans (HLK.out.2.2.2.2.1.trans HF1.out.1)
 refine⟨w5.heap.size,pg,σ5,l5,p2,S5,rfl,bD w5 _,fun e=>dB _ (hsub5 _ e),hz5,hp5.below hb6,⟨HL5.out.1,HL5.out.2.1.trans HLK.out.2.1,HL5.out.2.2.1.trans HLK.out.2.1,hskip,HLK.out.2.2.2.1,hn5,?_,HRC5.out.1,HRC5.out.2⟩,?_⟩
 ·have hbl5:p2.blocks σ5=σ.n - log:=by unfold Pg.blocks;rw[hn5,hskip]
  refine⟨HLK.out.1.pd,HL5.out.1.free.1,by omega,?_,fun b hb=> ?_,rfl,rfl,?_⟩
  ·rw[hlook,HLK.out.2.2.2.2.2.2]
   unfold Pg.look
   rw[Im.CQ,if_pos rfl];rfl
  ·unfold two
   exact bQ (by omega)
  ·rw[hlook,HLK.out.2.2.2.2.2.2]
   have:(Pg.new log).look (Im.none.put 0 (bytesOf two)) σ1 1=pad []:=by
    unfold Pg.look
    rw[Im.CQ,if_neg (by omega)]
    exact HF1.out.2.2.2 (log+1) (by omega) (by omega)
   rw[this]
   exact⟨by omega,List.replicate 510 0,rfl⟩
 ·have h0:=HS1.out.trans HS3.out
  have a:Step Sd (fun g=>S1 g\/T g) w w2.drew:=⟨h0.1,fun g hg=>hg.elim (h0.2 g) (fun e=> .inr (aK HS1.out.1.size (hT2 g e)))⟩
  have b:Step Sd (fun g=>S1 g\/T g) w w3:=a.trans ⟨HK3.out.1.mono (fun g _ e=> .inr e),fun g hg=> .inl hg⟩
  have c:=b.trans HS4.out
  have e:Step Sd S5 w w5:=c.trans ⟨hs5.1.mono (fun g _ e=> .inl e),fun g hg=>(hs5.2 g hg).imp .inl id⟩
  exact e.trans (Step.of_below hb6)
theorem JL (tp:Option Addr)(er:Int)(w:World)(P:World->Prop)(hu:Calls Tryz.prog 59 #[.pointer tp,.string ⟨#[107]⟩] w fun e w'=>w'=w/\e= .returned (.int .i64 er))(her:er≠0)
  (ha:Calls Tryz.prog 31 #[.pointer tp] w fun e w'=>e= .returned (.tuple #[])/\P w'):
  Calls Tryz.prog 25 #[.pointer tp] w fun e w'=>e= .returned (.tuple #[.int .i64 0,.int .i64 er])/\P w':=by
 have hne:(er !=0)=true:=by simp[her]
 have HU:=ah hu;have HA:=ah ha
 clear hu ha
 go_enter_defers Tryz.func25,Tryz.ntmps25
 go_wp2_with (first
  |(go_at_call 59;go_must (refine HU.out.mono ?_;rintro e w1 ⟨hw1,rfl⟩;subst w1))
  |(go_at_call 31;go_must (refine HA.out.mono ?_;rintro e w1 ⟨rfl,hp1⟩)))
 exact⟨.tuple #[.int .i64 0,.int .i64 er],by simp[results,zH,go_sem],rfl,hp1⟩
structure Ag (w:World)(S:Nat->Prop)(v pg d:Nat)(σ:Dk)(l:Lg)(p:Pg)(f:Nat->Bool)(root:Nat)(es:List mH)(tb:List Int):Prop where
 obj:w.heap[v]? =some (.cells #[.pointer (some ⟨pg,0,none⟩)] 88 (0,0))
 nv:¬S v
 pgr:jh w S pg d σ l p (.pointer none)
 vi:VJ σ l p
 base:zx σ l p f root
 live:Live (bZ.start σ l p f) root es tb
structure Vq (σ:bZ)(root:Nat)(es:List mH)(tb:List Int):Prop where
 vi:VJ σ.H.dk σ.H.lg σ.H.pg
 base:zx σ.H.dk σ.H.lg σ.H.pg σ.H.old root
 live:Live (bZ.start σ.H.dk σ.H.lg σ.H.pg σ.H.old) root es tb
structure wU (w:World)(S:Nat->Prop)(v t tr:Nat)(mp:VS)(σ:bZ)(root:Int)(es:List mH)(tb:List Int)(ch:Bool)(root0:Nat)(es0:List mH)(tb0:List Int):Prop where
 obj:w.heap[v]? =some (.cells #[.pointer (some ⟨mp.pg,0,none⟩)] 88 (0,0))
 nv:¬S v
 tx:DW w S t tr mp σ root 0 ch 0
 live:Live σ root es tb
 bas:Vq σ root0 es0 tb0
 ch:ch=false->σ=bZ.start σ.H.dk σ.H.lg σ.H.pg σ.H.old/\es=es0
structure Oi (w:World)(S:Nat->Prop)(v t tr:Nat)(mp:VS)(σ:bZ)(ch:Bool)(root0:Nat)(es0:List mH)(tb0:List Int):Prop where
 obj:w.heap[v]? =some (.cells #[.pointer (some ⟨mp.pg,0,none⟩)] 88 (0,0))
 nv:¬S v
 tx:∃root err,DW w S t tr mp σ root err ch 12
 bas:Vq σ root0 es0 tb0
theorem OO {w:World}{v t pg:Nat}{mp:VS}{tr:Option Nat}{ch:Bool}{er:Int}(h:w.heap[v]? =some (.cells #[.pointer (some ⟨pg,0,none⟩)] 88 (0,0)))(ht:w.heap[t]? =some (.cells (dH mp tr ch er) 100 (0,0))):v≠t:=by
 rintro rfl
 rw[h] at ht
 injection ht with ht
 injection ht with _ h2
 exact absurd h2 (by decide)
theorem Rh {w:World}{v t pg:Nat}{mp:VS}{root err:Int}(h:w.heap[v]? =some (.cells #[.pointer (some ⟨pg,0,none⟩)] 88 (0,0)))(ht:dG w t mp root err):v≠t:=by
 rintro rfl
 unfold dG at ht
 rw[h] at ht
 injection ht with ht
 injection ht with _ h2
 exact absurd h2 (by decide)
theorem wU.FC {w w':World}{S S':Nat->Prop}{v t tr:Nat}{mp:VS}(h:w.heap[v]? =some (.cells #[.pointer (some ⟨mp.pg,0,none⟩)] 88 (0,0)))(hn:¬S v){ch:Bool}{er root err:Int}(htx:w.heap[t]? =some (.cells (dH mp (some tr) ch er) 100 (0,0)))(htr:dG w tr mp root err)(hs:jd S S' t tr w w'):
  w'.heap[v]? =some (.cells #[.pointer (some ⟨mp.pg,0,none⟩)] 88 (0,0))/\¬S' v:=by
 have hl:=(aj.1 h).1
 refine⟨(hs.1.block v hl (fun e=> ?_)).trans h,fun e=>(hs.2 v e).elim hn (fun x=>absurd hl (bq.2 x))⟩
 rcases e with e|e|e
 ·exact hn e
 ·exact OO h htx e
 ·exact Rh h htr e
theorem Ag.below {w w':World}{S:Nat->Prop}{v pg d:Nat}{σ:Dk}{l:Lg}{p:Pg}{f:Nat->Bool}{root:Nat}{es:List mH}{tb:List Int}(h:Ag w S v pg d σ l p f root es tb)(hb:Below w.heap.size w w'):Ag w' S v pg d σ l p f root es tb:=
 ⟨(hb.block v (aj.1 h.obj).1).trans h.obj,h.nv,h.pgr.below hb,h.vi,h.base,h.live⟩
theorem Ag.step {w w':World}{S S':Nat->Prop}{v pg d:Nat}{σ:Dk}{l:Lg}{p:Pg}{f:Nat->Bool}{root:Nat}{es:List mH}{tb:List Int}(h:Ag w S v pg d σ l p f root es tb){σ':Dk}{l':Lg}{p':Pg}(hp:jh w' S' pg d σ' l' p' (.pointer none))(hs:Step S S' w w')(hv:VJ σ' l' p')(hb:zx σ' l' p' f root)(hl:Live (bZ.start σ' l' p' f) root es tb):Ag w' S' v pg d σ' l' p' f root es tb:=by
 have hlt:=(aj.1 h.obj).1
 exact⟨(hs.1.block v hlt h.nv).trans h.obj,fun e=>(hs.2 v e).elim h.nv (fun x=>absurd hlt (bq.2 x)),hp,hv,hb,hl⟩
theorem wU.below {w w':World}{S:Nat->Prop}{v t tr:Nat}{mp:VS}{σ:bZ}{root:Int}{es:List mH}{tb:List Int}{ch:Bool}{root0:Nat}{es0:List mH}{tb0:List Int}(h:wU w S v t tr mp σ root es tb ch root0 es0 tb0)(hb:Below w.heap.size w w'):wU w' S v t tr mp σ root es tb ch root0 es0 tb0:=
 ⟨(hb.block v (aj.1 h.obj).1).trans h.obj,h.nv,h.tx.below hb,h.live,h.bas,h.ch⟩
theorem H7 {σ:bZ}{root:Nat}{es:List mH}{tb:List Int}(ok:σ.Ok)(hL:Live σ root es tb)(hr:root<65536){σ':Dk}{l':Lg}{p':Pg}(hb:p'.blocks σ'=σ.most)(hv:VJ σ' l' p')(hlook:∀b,b<σ.most->p'.look Im.none σ' b=σ.H.pg.look (σ.sealed root).im σ.H.dk b):
  zx σ' l' p' σ.now root/\Live (bZ.start σ' l' p' σ.now) root es tb:=by
 have h2:=ok.two
 have hl:∀b,b<σ.most->p'.look Im.none σ' b=if b=0 then bytesOf σ.now else if b=1 then pad (oI root) else σ.mem (b:Nat):=by
  intro b hbm
  rw[hlook b hbm]
  show σ.H.pg.look ((σ.im.put 1 (pad (oI root))).put 0 (bytesOf σ.now)) σ.H.dk b=_
  rw[pX,pX]
  split
  ·rfl
  ·split
   ·rfl
   ·unfold bZ.mem;rw[fw]
 refine⟨⟨hv.pd,hv.nd,by omega,by rw[hl 0 (by omega),if_pos rfl],fun b hb'=>ok.nhi b (by omega),ok.n0,ok.n1,?_⟩,?_⟩
 ·rw[hl 1 (by omega),if_neg (by omega),if_pos rfl]
  exact⟨hr,List.replicate (512 - (oI root).length) 0,rfl⟩
 ·have hhas:∀x,(bZ.start σ' l' p' σ.now).hasB x=σ.hasB x:=fun x=>by
   show (decide (0<=x) && (decide (x.toNat<p'.blocks σ') && σ.now x.toNat))=_
   rw[hb];rfl
  have hmv:∀x∈tb++eX es,(bZ.start σ' l' p' σ.now).hasB x=true/\(bZ.start σ' l' p' σ.now).mem x=σ.mem x:=by
   intro x hx
   obtain⟨a,b⟩:=hL.all x hx
   refine⟨by rw[hhas];exact a,?_⟩
   obtain⟨xn,hxe,hxl,_⟩:=bZ.kJ a
   show p'.look Im.none σ' x.toNat=_
   rw[hl _ (by omega),if_neg (by omega),if_neg (by omega)]
   congr 1
   omega
  refine⟨?_,fun e he=>(hL.val e he).keep fun x hx=>hmv x (dL _ (l8.2 ⟨e,he,hx⟩)),⟨hL.own.nd,fun x hx=>hL.own.ex x (by rw[<-hhas];exact hx),?_⟩⟩
  ·rcases hL.tree with h|⟨h,ht⟩
   ·exact .inl h
   ·exact .inr ⟨h,ht.move fun x hx=>hmv x (dI _ hx)⟩
  ·have hz:nh (bZ.start σ' l' p' σ.now) (tb++eX es)=0:=by
    unfold nh
    rw[List.filter_eq_nil_iff.2]
    ·rfl
    ·intro x hx
     obtain⟨n,e,_,hn⟩:=bZ.kJ (hL.all x hx).1
     have:(bZ.start σ' l' p' σ.now).held x=true:=by
      show (decide (0<=x) && σ.now x.toNat)=true
      rw[e,fw,hn]
      simp
     rw[this];simp
   rw[hz,iw]
   exact jL _ (fun x _=>Bool.or_self _)
theorem MR {σ:bZ}{S:Nat->Prop}{mp:VS}{w:World}(h:Inv σ S mp w)(root:Nat):(σ.sealed root).im.Ok (σ.H.pg.blocks σ.H.dk)/\(σ.sealed root).im.ks.length+countB σ.H.old σ.most<=σ.tk+2/\(σ.sealed root).im.ks≠[]:=by
 have ok:=h.ok
 have hm:=ok.most
 have h2:=ok.two
 obtain⟨Sp,T,h,_⟩:=h
 have hi:σ.im.Ok σ.most:=by obtain⟨_,q⟩:=h.tx;exact q.ok
 have h1:=hi.put 1 (pad (oI root)) (by omega) (o9 (by simp[oI]))
 have h0:=h1.put 0 (bytesOf σ.now) (by omega) (vO _)
 have ok1:(σ.sealed root).Ok:=(ok.wrote 1 (pad (oI root)) (o9 (by simp[oI])) (by omega) (.inl (by omega))).wrote 0 (bytesOf σ.now) (vO _) (by show 0<σ.most;omega) (.inl (by omega))
 refine⟨by rw[<-hm];exact h0,ok1.TL h0.rise,fun e=> ?_⟩
 have:0∈(σ.sealed root).im.ks:=lT.2 (.inl rfl)
 rw[e] at this;cases this
structure iW where
 F:Nat->Prop
 w:World
 D:Nat->Dk->Lg->Pg->Prop
def SK:Nat->Dk->Lg->Pg->Prop:=fun _ σ _ _=>σ.fuel= -1
instance :Coe World iW:=⟨fun w=>⟨fun g=>g<w.heap.size,w,SK⟩⟩
structure iW.Calm (b:iW):Prop where
 one:∀{d:Nat} {σ:Dk} {l:Lg} {p:Pg},b.D d σ l p->σ.fuel= -1
 two:∀{d:Nat} {σ σ':Dk} {l l':Lg} {p p':Pg},b.D d σ l p->σ'.fuel= -1->b.D d σ' l' p'
theorem L9 {b:iW}(h:b.D=SK):b.Calm:=⟨fun e=>by rw[h] at e;exact e,fun _ e=>by rw[h];exact e⟩
def iW.to (b:iW)(D:Nat->Dk->Lg->Pg->Prop):iW:=⟨b.F,b.w,D⟩
structure VB (b:iW)(w:World)(S:Nat->Prop):Prop where
 os:w.os=b.w.os
 tape:w.tape=b.w.tape
 output:w.output=b.w.output
 size:b.w.heap.size<=w.heap.size
 block:∀g,b.F g->w.heap[g]? =b.w.heap[g]?
 fs:∀g,b.F g->g<b.w.heap.size
 lo:∀g,S g->¬b.F g
theorem VB.to {b:iW}{w:World}{S:Nat->Prop}(h:VB b w S){D:Nat->Dk->Lg->Pg->Prop}:VB (b.to D) w S:=⟨h.os,h.tape,h.output,h.size,h.block,h.fs,h.lo⟩
theorem VB.nD {w0 w:World}{S:Nat->Prop}(h:VB w0 w S):Below w0.heap.size w0 w:=⟨h.os,h.tape,h.output,h.size,fun k hk=>h.block k hk⟩
theorem VB.of {w0 w:World}{S:Nat->Prop}(h:Below w0.heap.size w0 w)(hl:∀g,S g->w0.heap.size<=g):VB w0 w S:=⟨h.os,h.tape,h.output,h.size,fun k hk=>h.block k hk,fun _ hg=>hg,fun g hg=>bq.2 (hl g hg)⟩
theorem VB.keep {b:iW}{w w':World}{S S' M:Nat->Prop}(h:VB b w S)(hk:Keep M w w')(hM:∀g,b.F g->¬M g)(hS:∀g,S' g->S g\/w.heap.size<=g):VB b w' S':=
 ⟨hk.os.trans h.os,hk.tape.trans h.tape,hk.output.trans h.output,aK h.size hk.size,fun g hg=>(hk.block g (ak (h.fs g hg) h.size) (hM g hg)).trans (h.block g hg),h.fs,fun g hg hf=>(hS g hg).elim (fun e=>h.lo g e hf) (fun e=>absurd (ak (h.fs g hf) h.size) (bq.2 e))⟩
theorem VB.step {b:iW}{w w':World}{S S':Nat->Prop}(h:VB b w S)(hs:Step S S' w w'):VB b w' S':=h.keep hs.1 (fun g hg e=>h.lo g e hg) hs.2
theorem VB.Ak {b:iW}{w w':World}{S S':Nat->Prop}{t tr:Nat}(h:VB b w S)(ht:¬b.F t)(htr:¬b.F tr)(hs:jd S S' t tr w w'):VB b w' S':=h.keep hs.1 (fun g hg e=>by
  rcases e with e|e|e
  ·exact h.lo g e hg
  ·exact ht (e▸hg)
  ·exact htr (e▸hg)) hs.2
theorem VB.below {b:iW}{w w':World}{S:Nat->Prop}(h:VB b w S)(hb:Below w.heap.size w w'):VB b w' S:=h.step (Step.of_below hb)
theorem VB.new {b:iW}{w:World}{S:Nat->Prop}(h:VB b w S){g:Nat}(hg:w.heap.size<=g):¬b.F g:=fun hf=>absurd (ak (h.fs g hf) h.size) (bq.2 hg)
section
variable {w:World} {S:Nat->Prop} {v pg d:Nat} {σ:Dk} {l:Lg} {p:Pg} {f:Nat->Bool} {root:Nat} {es:List mH} {tb:List Int}
theorem Ag.begin (h:Ag w S v pg d σ l p f root es tb):
  Calls Tryz.prog 21 #[.pointer (some ⟨v,0,none⟩)] w fun e w'=>∃t tr mp S',e= .returned (.tuple #[.pointer (some ⟨t,0,none⟩),.int .i64 0])/\mp.pg=pg/\mp.d=d/\wU w' S' v t tr mp (bZ.start σ l p f) root es tb false root es tb/\Step S S' w w'/\w.heap.size<=t/\w.heap.size<=tr:=by
 refine(OJ v pg d σ l p f root S w h.obj h.nv h.pgr h.base.pd h.base.sd h.base.two h.base.map h.base.hi h.base.f0 h.base.f1 h.base.root).mono ?_
 rintro e w1 ⟨t,tr,mp,S1,rfl,hpg,hd,htx,htr,hI1,hs1,hn1,hn2,hlo1,hlo2⟩
 have hlt:=(aj.1 h.obj).1
 exact⟨t,tr,mp,S1,rfl,hpg,hd,⟨by rw[hpg];exact(hs1.1.block v hlt h.nv).trans h.obj,fun e=>(hs1.2 v e).elim h.nv (fun x=>absurd hlt (bq.2 x)),⟨htx,htr,hI1,hn1,hn2⟩,h.live,⟨h.vi,h.base,h.live⟩,fun _=>⟨rfl,rfl⟩⟩,hs1,hlo1,hlo2⟩
theorem Ag.check (h:Ag w S v pg d σ l p f root es tb)(hl:es.length<=4090):
  Calls Tryz.prog 13 #[.pointer (some ⟨v,0,none⟩)] w fun e w'=>e= .returned (.int .i64 0)/\∃S',Ag w' S' v pg d σ l p f root es tb/\Step S S' w w':=by
 refine(OH v pg d σ l p f root S w es tb h.obj h.nv h.pgr h.base h.live hl).mono ?_
 rintro e w' ⟨rfl,S',hp,hs⟩
 exact⟨rfl,S',h.step hp hs h.vi h.base h.live,hs⟩
theorem Ag.blocks (h:Ag w S v pg d σ l p f root es tb):
  Calls Tryz.prog 14 #[.pointer (some ⟨v,0,none⟩)] w fun e w'=>e= .returned (.int .i64 (p.blocks σ))/\Ag w' S v pg d σ l p f root es tb/\Below w.heap.size w w':=by
 refine(Rf v pg d σ l p _ S w h.obj h.pgr).mono ?_
 rintro e w' ⟨rfl,rfl⟩
 have hb:Below w.heap.size w w.drew:=(aR _ w).drew
 exact⟨rfl,h.below hb,hb⟩
theorem Ag.done (h:Ag w S v pg d σ l p f root es tb)(hb:(l.last:Int)<=1000000000000):
  Calls Tryz.prog 12 #[.pointer (some ⟨v,0,none⟩)] w fun e w'=>e= .returned (.int .i64 ((l.last:Int) - 1))/\w'=w:=UF v pg d σ l p _ S w h.obj h.pgr hb
end
section
variable {w:World} {S:Nat->Prop} {v t tr:Nat} {mp:VS} {σ:bZ} {root:Int} {es:List mH} {tb:List Int} {ch:Bool} {root0:Nat} {es0:List mH} {tb0:List Int}
theorem Ld {w':World}{Sp:Nat->Prop}(hv:w.heap[v]? =some (.cells #[.pointer (some ⟨mp.pg,0,none⟩)] 88 (0,0)))(hn:¬S v){er:Int}(htx:w.heap[t]? =some (.cells (dH mp (some tr) ch er) 100 (0,0)))(hB:Vq σ root0 es0 tb0)(hp:jh w' Sp mp.pg mp.d σ.H.dk σ.H.lg σ.H.pg (.pointer none))(hS:∀g,Sp g->S g)(hk:Keep (fun g=>S g\/g=t) w w'):
  Ag w' Sp v mp.pg mp.d σ.H.dk σ.H.lg σ.H.pg σ.H.old root0 es0 tb0/\jd S Sp t tr w w':=by
 have hlt:=(aj.1 hv).1
 exact⟨⟨(hk.block v hlt (fun e=>e.elim hn (OO hv htx))).trans hv,fun e=>hn (hS v e),hp,hB.vi,hB.base,hB.live⟩,hk.mono (fun g _ e=>e.imp id .inl),fun g hg=> .inl (hS g hg)⟩
theorem wU.abort (h:wU w S v t tr mp σ root es tb ch root0 es0 tb0):
  Calls Tryz.prog 31 #[.pointer (some ⟨t,0,none⟩)] w fun e w'=>e= .returned (.tuple #[])/\∃S',Ag w' S' v mp.pg mp.d σ.H.dk σ.H.lg σ.H.pg σ.H.old root0 es0 tb0/\jd S S' t tr w w'/\w'.heap[t]? =some (.cells (dH mp none ch 0) 100 (0,0))/\¬S' t:=by
 refine(OM t tr mp ch 0 σ S w h.tx.tx h.tx.inv h.tx.nt).mono ?_
 rintro e w' ⟨rfl,⟨Sp,hp,hsp⟩,h3,hk⟩
 obtain⟨a,b⟩:=Ld h.obj h.nv h.tx.tx h.bas hp hsp hk
 exact⟨rfl,Sp,a,b,h3,fun e=>h.tx.nt (hsp t e)⟩
theorem Oi.abort (h:Oi w S v t tr mp σ ch root0 es0 tb0):
  Calls Tryz.prog 31 #[.pointer (some ⟨t,0,none⟩)] w fun e w'=>e= .returned (.tuple #[])/\∃S',Ag w' S' v mp.pg mp.d σ.H.dk σ.H.lg σ.H.pg σ.H.old root0 es0 tb0/\jd S S' t tr w w':=by
 obtain⟨rt,er,hT⟩:=h.tx
 refine(OM t tr mp ch 12 σ S w hT.tx hT.inv hT.nt).mono ?_
 rintro e w' ⟨rfl,⟨Sp,hp,hsp⟩,_,hk⟩
 obtain⟨a,b⟩:=Ld h.obj h.nv hT.tx h.bas hp hsp hk
 exact⟨rfl,Sp,a,b⟩
theorem Oi.usable (h:Oi w S v t tr mp σ ch root0 es0 tb0)(key:ByteArray):
  Calls Tryz.prog 59 #[.pointer (some ⟨t,0,none⟩),.string key] w fun e w'=>w'=w/\e= .returned (.int .i64 12):=by
 obtain⟨rt,er,hT⟩:=h.tx
 have:=pI t mp tr ch 12 key w hT.tx
 unfold jm at this
 rwa [if_pos (by decide)] at this
theorem Oi.commit (h:Oi w S v t tr mp σ ch root0 es0 tb0):
  Calls Tryz.prog 25 #[.pointer (some ⟨t,0,none⟩)] w fun e w'=>e= .returned (.tuple #[.int .i64 0,.int .i64 12])/\∃S',Ag w' S' v mp.pg mp.d σ.H.dk σ.H.lg σ.H.pg σ.H.old root0 es0 tb0/\jd S S' t tr w w':=
 JL _ 12 w _ (h.usable _) (by decide) h.abort
theorem wU.spoilt (h:wU w S v t tr mp σ root es tb ch root0 es0 tb0){w':World}(hp:wW t tr mp S σ ch w w'):
  ∃σ' S',Oi w' S' v t tr mp σ' ch root0 es0 tb0/\σ'.H=σ.H/\jd S S' t tr w w':=by
 obtain⟨σ',S',rt,er,hT,hH,hm,hs⟩:=hp
 obtain⟨a,b⟩:=wU.FC h.obj h.nv h.tx.tx h.tx.tree hs
 refine⟨σ',S',⟨a,b,⟨rt,er,hT⟩,?_⟩,hH,hs⟩
 have:=h.bas
 obtain⟨x,y,z⟩:=this
 rw[<-hH] at x y z
 exact⟨x,y,z⟩
theorem wU.moved (h:wU w S v t tr mp σ root es tb ch root0 es0 tb0){w':World}{σ':bZ}{S':Nat->Prop}{root':Int}{es':List mH}{tb':List Int}{ch':Bool}(hT:DW w' S' t tr mp σ' root' 0 ch' 0)(hL:Live σ' root' es' tb')(hH:σ'.H=σ.H)(hs:jd S S' t tr w w')(hc:ch'=false->σ'=bZ.start σ'.H.dk σ'.H.lg σ'.H.pg σ'.H.old/\es'=es0):wU w' S' v t tr mp σ' root' es' tb' ch' root0 es0 tb0:=by
 obtain⟨a,b⟩:=wU.FC h.obj h.nv h.tx.tx h.tx.tree hs
 refine⟨a,b,hT,hL,?_,hc⟩
 obtain⟨x,y,z⟩:=h.bas
 rw[<-hH] at x y z
 exact⟨x,y,z⟩
theorem wU.get (h:wU w S v t tr mp σ root es tb ch root0 es0 tb0)(key:ByteArray)(hl:es.length<=4090)(hg:1<=key.size/\key.size<=128):
  Calls Tryz.prog 36 #[.pointer (some ⟨t,0,none⟩),.string key] w fun e w'=>e= .returned (.tuple #[.string ((fD (jF es) key).getD ByteArray.empty),.bool (fD (jF es) key).isSome,.int .i64 0])/\wU w' S v t tr mp σ root es tb ch root0 es0 tb0/\Below w.heap.size w w':=by
 obtain⟨a,o,r,hA⟩:=QE es key
 refine(wF t tr mp root ch σ S w es a o r tb key h.tx h.live hA hl hg).mono ?_
 rintro e w' ⟨rfl,hb⟩
 exact⟨rfl,h.below hb,hb⟩
theorem wU.usable (h:wU w S v t tr mp σ root es tb ch root0 es0 tb0)(key:ByteArray):
  Calls Tryz.prog 59 #[.pointer (some ⟨t,0,none⟩),.string key] w fun e w'=>w'=w/\e= .returned (.int .i64 (jm 0 key)):=pI t mp tr ch 0 key w h.tx.tx
end
theorem zG.Pe {σ:bZ}{root:Int}{cs:List Pr}{bs:List Int}(h:zG σ root cs bs)(hc:σ.most<=4096):∃n:Nat,root=n/\n<=4096:=by
 rcases h with ⟨rfl,_,_⟩|⟨h,ht⟩
 ·exact⟨0,rfl,aT _⟩
 ·have hb:σ.hasB root=true:=by
   cases h with
   |zero=>obtain⟨nd,h1,_⟩:=ht;exact h1.has
   |succ h=>obtain⟨nd,bs',h1,_⟩:=ht;exact h1.has
  obtain⟨n,e,h1,_⟩:=bZ.kJ hb
  exact⟨n,e,by omega⟩
theorem Qb {es l o r:List mH}{key v:ByteArray}(hA:AL es key l o r)(h:fD (jF es) key=some v):jB (jF es) key v=jF es:=by
 rw[hA.lv] at h
 rcases hA.one with rfl|⟨e,rfl,hk⟩
 ·cases h
 ·have hv:e.v=v:=by simpa using h
  rw[hA.iv e.s v e.b,hA.eq,mV,mV,mV,aL]
  congr 1
  simp[jF,hk,hv]
theorem ByteArray.bne {a b:ByteArray}(h:a≠b):(a.toList==b.toList)=false:=by
 rw[fG]
 intro e
 exact h (Q5 (EQ.1 (by rw[toList_eq,toList_eq] at e;exact e)))
section
variable {w:World} {S:Nat->Prop} {v t tr:Nat} {mp:VS} {σ:bZ} {root:Int} {es:List mH} {tb:List Int} {ch:Bool} {root0:Nat} {es0:List mH} {tb0:List Int}
def Ml (w:World)(S:Nat->Prop)(v t tr:Nat)(mp:VS)(σ:bZ)(es:List mH)(tb:List Int)(ch':Bool)(root0:Nat)(es0:List mH)(tb0:List Int)(c W:Nat)(qs:List Pr)(w':World):Prop:=
 ∃σ' S' root' es' tb',wU w' S' v t tr mp σ' root' es' tb' ch' root0 es0 tb0/\jF es'=qs/\σ'.H=σ.H/\σ'.most=σ.most/\jd S S' t tr w w'/\Vr σ σ' tb c/\nu σ σ' (tb++eX es) (tb'++eX es')/\(es'.length<=299->A7 σ σ' W)
def SQ (w:World)(S:Nat->Prop)(v t tr:Nat)(mp:VS)(σ:bZ)(ch:Bool)(root0:Nat)(es0:List mH)(tb0:List Int)(w':World):Prop:=
 ∃σ' S',Oi w' S' v t tr mp σ' ch root0 es0 tb0/\σ'.H=σ.H/\jd S S' t tr w w'
theorem wU.put (h:wU w S v t tr mp σ root es tb ch root0 es0 tb0)(key value:ByteArray)(hl:es.length<=4090)(hg:1<=key.size/\key.size<=128)(hv:value.size<=49152):
  Calls Tryz.prog 23 #[.pointer (some ⟨t,0,none⟩),.string key,.string value] w fun e w'=>
   (e= .returned (.int .i64 0)/\Ml w S v t tr mp σ es tb (ch|| !decide (fD (jF es) key=some value)) root0 es0 tb0 (2*(es.length+1)+gP value) (65+gP value) (jB (jF es) key value) w')\/
   (e= .returned (.int .i64 12)/\σ.most+nh σ tb<σ.sz+2*(es.length+1)+gP value/\SQ w S v t tr mp σ ch root0 es0 tb0 w'):=by
 obtain⟨a,o,r,hA⟩:=QE es key
 by_cases hs:fD (jF es) key=some value
 ·refine(MC t tr mp root ch σ S w es a o r tb key value h.tx h.live hA hl hg hv hs).mono ?_
  rintro e w' ⟨rfl,hb⟩
  refine .inl ⟨rfl,σ,S,root,es,tb,?_,(Qb hA hs).symm,rfl,rfl,jd.of (Step.of_below hb),fun _ _ t=>t,nu.refl (fun x hx=>(h.live.all x hx).1),fun _=>(A7.refl _).more (aT _)⟩
  have:(ch|| !decide (fD (jF es) key=some value))=ch:=by simp[hs]
  rw[this]
  exact h.below hb
 ·have hc:(ch|| !decide (fD (jF es) key=some value))=true:=by simp[hs]
  rw[hc]
  have hno:∀(there:Bool) (was:ByteArray),(fD (jF es) key).isSome=there/\(fD (jF es) key).getD ByteArray.empty=was->there=true->(was.toList==value.toList)=false:=by
   rintro there was ⟨h1,h2⟩ ht
   refine ByteArray.bne fun e=>hs ?_
   subst ht
   obtain⟨x,hx⟩:=Option.isSome_iff_exists.1 h1
   rw[hx] at h2 ⊢
   rw[<-e,<-h2];rfl
  have hput:∀(e:Ending) (w':World),((e= .returned (.int .i64 0)/\F7 t tr mp S σ es a r tb key value w w')\/(e= .returned (.int .i64 12)/\σ.most+nh σ tb<σ.sz+2*(es.length+1)+gP value/\wW t tr mp S σ ch w w'))->
    ((e= .returned (.int .i64 0)/\Ml w S v t tr mp σ es tb true root0 es0 tb0 (2*(es.length+1)+gP value) (65+gP value) (jB (jF es) key value) w')\/(e= .returned (.int .i64 12)/\σ.most+nh σ tb<σ.sz+2*(es.length+1)+gP value/\SQ w S v t tr mp σ ch root0 es0 tb0 w')):=by
   rintro e w' (⟨rfl,σ',S',root',tb',s,nb,q1,q2,q3,q4,q5,q6⟩|⟨rfl,hr,hp⟩)
   ·exact .inl ⟨rfl,σ',S',root',_,tb',h.moved q1 q2 q3.H q4 (fun e=>by cases e),(hA.iv s value nb).symm,q3.H,q3.most,q4,q5,q3,q6⟩
   ·exact .inr ⟨rfl,hr,h.spoilt hp⟩
  by_cases hz:value.size<=63
  ·exact(JI t tr mp root ch σ S w es a o r tb key value h.tx h.live hA hl hg hz _ _ ⟨rfl,rfl⟩ (hno _ _ ⟨rfl,rfl⟩)).mono hput
  ·exact(ME t tr mp root ch σ S w es a o r tb key value h.tx h.live hA hl hg ⟨by omega,hv⟩ _ _ ⟨rfl,rfl⟩ (hno _ _ ⟨rfl,rfl⟩)).mono hput
theorem wU.scan (h:wU w S v t tr mp σ root es tb ch root0 es0 tb0)(key:ByteArray)(most:Int)(hl:es.length<=4090):
  Calls Tryz.prog 29 #[.pointer (some ⟨t,0,none⟩),.string key,.int .i64 most] w fun e w'=>∃v,e= .returned (.tuple #[v,.int .i64 0])/\aQ w' S w.heap.size 103 2 v (xg (jF es) key most).length (dO (xg (jF es) key most))/\Below w.heap.size w w':=
 UB t tr mp root ch σ S w es tb key most h.tx h.live hl
theorem wU.no {key:ByteArray}(h:wU w S v t tr mp σ root es tb ch root0 es0 tb0)(hb:¬(1<=key.size/\key.size<=128)):
  Calls Tryz.prog 59 #[.pointer (some ⟨t,0,none⟩),.string key] w fun e w'=>w'=w/\e= .returned (.int .i64 1):=by
 have:=h.usable key
 unfold jm at this
 rwa [if_neg (by simp),if_pos (by omega)] at this
def Od (w:World)(S:Nat->Prop)(v t tr:Nat)(mp:VS)(σ:bZ)(es:List mH)(tb:List Int)(ch:Bool)(root0:Nat)(es0:List mH)(tb0:List Int)(e:Ending)(w':World):Prop:=
 ∃S',jd S S' t tr w w'/\
  ((ch=false/\es=es0/\e= .returned (.tuple #[.int .i64 ((σ.H.lg.last:Int) - 1),.int .i64 0])/\Ag w' S' v mp.pg mp.d σ.H.dk σ.H.lg σ.H.pg σ.H.old root0 es0 tb0)\/
   (ch=true/\(∃r,(σ.sealed r).im.ks≠[]/\σ.H.pg.rH (σ.sealed r).im/\(σ.sealed r).im.Ok (σ.H.pg.blocks σ.H.dk)/\(σ.sealed r).im.ks.length+countB σ.H.old σ.most<=σ.tk+2)/\e= .returned (.tuple #[.int .i64 0,.int .i64 13])/\Ag w' S' v mp.pg mp.d σ.H.dk σ.H.lg σ.H.pg σ.H.old root0 es0 tb0)\/
   (ch=true/\e= .returned (.tuple #[.int .i64 (σ.H.lg.last:Int),.int .i64 0])/\∃(σ':Dk) (l':Lg) (p':Pg) (root':Nat) (im:Im),Ag w' S' v mp.pg mp.d σ' l' p' σ.now root' es tb/\QV σ.H.dk σ.H.lg σ.H.pg im σ' l' p'/\p'.blocks σ'=σ.most)\/
   (ch=true/\e= .returned (.tuple #[.int .i64 0,.int .i64 10])/\∃(σ':Dk) (l':Lg) (p':Pg),Mk σ.H.dk σ.H.lg σ.H.pg σ' l' p'/\jh w' S' mp.pg mp.d σ' l' p' (.pointer none)/\w'.heap[v]? =some (.cells #[.pointer (some ⟨mp.pg,0,none⟩)] 88 (0,0))/\¬S' v))
theorem wU.commit (h:wU w S v t tr mp σ root es tb ch root0 es0 tb0)(hll:σ.H.lg.last<100000000000):
  Calls Tryz.prog 25 #[.pointer (some ⟨t,0,none⟩)] w (Od w S v t tr mp σ es tb ch root0 es0 tb0):=by
 have hV:=h.bas.vi
 have hI:=h.tx.inv
 obtain⟨hpo,hdo,hlo⟩:σ.H.pg.Ok σ.H.dk σ.H.lg/\σ.H.dk.Ok/\σ.H.lg.Ok:=by obtain⟨Sp,T,q,_⟩:=hI;exact q.pg.ok
 have hcap:σ.H.dk.waits.length<=90000:=by have a:=hV.wt;have b:=hlo.us;have c:=hlo.hi;omega
 have hstep:∀{S':Nat->Prop} {w':World},Keep (fun g=>S g\/g=t) w w'->(∀g,S' g->S g\/w.heap.size<=g)->jd S S' t tr w w':=fun a b=>⟨a.mono (fun g _ e=>e.imp id .inl),b⟩
 have hobj:∀{S':Nat->Prop} {w':World},jd S S' t tr w w'->w'.heap[v]? =some (.cells #[.pointer (some ⟨mp.pg,0,none⟩)] 88 (0,0))/\¬S' v:=fun a=>wU.FC h.obj h.nv h.tx.tx h.tx.tree a
 cases ch with
 |false=>
  obtain⟨h1,h2⟩:=h.ch rfl
  have him:σ.im=Im.none:=by rw[h1];rfl
  have hc:σ.H.pg.commit σ.H.dk σ.H.lg σ.im=(σ.H.dk,σ.H.lg,σ.H.pg,σ.H.lg.last,0):=by
   rcases IZ hV (im:=σ.im) (by obtain⟨Sp,T,q,_⟩:=hI;obtain⟨_,q2⟩:=q.tx;have hm:=q.ok.most;rw[<-hm];exact q2.ok) (by omega) with ⟨_,q⟩|⟨q,_⟩|⟨q,_⟩|⟨q,_⟩
   ·exact q
   ·rw[him] at q;exact absurd rfl q
   ·rw[him] at q;exact absurd rfl q
   ·rw[him] at q;exact absurd rfl q
  refine(EU t tr mp root σ S w h.tx hV.ld hcap (by omega) (by rw[hc];show σ.H.lg.last<=_;omega)).mono ?_
  rintro e w' ⟨rfl,S',hp,_,_,hk,hn⟩
  rw[hc] at hp ⊢
  have hs:=hstep hk hn
  obtain⟨a,b⟩:=hobj hs
  exact⟨S',hs,.inl ⟨rfl,h2,rfl,a,b,hp,hV,h.bas.base,h.bas.live⟩⟩
 |true=>
  obtain⟨r,hr,hr2⟩:=h.live.tree.Pe hI.ok.cap
  obtain⟨s1,s2,s3⟩:=MR hI r
  have hTx:=h.tx
  rw[hr] at hTx
  have hlaw:=IZ hV s1 (by omega)
  have hk0:(σ.H.pg.commit σ.H.dk σ.H.lg (σ.sealed r).im).2.2.2.1<=1000000000000:=by
   rcases hlaw with ⟨_,q⟩|⟨_,_,q⟩|⟨_,_,_,_,q,_⟩|⟨_,_,_,_,q,_⟩
   ·rw[q];show σ.H.lg.last<=_;omega
   ·rw[q];exact aT _
   ·rw[q];show σ.H.lg.last+1<=_;omega
   ·rw[q];exact aT _
  refine(ET t tr mp r σ S w hTx hr2 hV.ld hcap (by omega) hk0).mono ?_
  rintro e w' ⟨rfl,S',hp,_,_,hk,hn⟩
  have hs:=hstep hk hn
  obtain⟨a,b⟩:=hobj hs
  refine⟨S',hs,.inr ?_⟩
  rcases hlaw with ⟨q,_⟩|⟨q1,q2,q⟩|⟨_,σ',l',p',q,cm⟩|⟨_,σ',l',p',q,di⟩
  ·exact absurd q s3
  ·rw[q] at hp ⊢
   exact .inl ⟨rfl,⟨r,q1,q2,s1,s2⟩,rfl,a,b,hp,hV,h.bas.base,h.bas.live⟩
  ·rw[q] at hp ⊢
   have hbl:p'.blocks σ'=σ.most:=by rw[hI.ok.most];unfold Pg.blocks;rw[cm.skip,cm.n]
   obtain⟨b1,b2⟩:=H7 hI.ok (by have:=h.live;rwa [hr] at this) (by omega) hbl cm.vj (fun b hb=>cm.look b (by rw[<-hI.ok.most];exact hb))
   refine .inr (.inl ⟨rfl,?_,σ',l',p',r,_,⟨a,b,hp,cm.vj,b1,b2⟩,cm,hbl⟩)
   show Ending.returned (.tuple #[.int .i64 (((σ.H.lg.last+1:Nat):Int) - 1),.int .i64 0])=_
   rw[show ((σ.H.lg.last+1:Nat):Int) - 1=σ.H.lg.last by omega]
  ·rw[q] at hp ⊢
   exact .inr (.inr ⟨rfl,rfl,σ',l',p',di,hp,a,b⟩)
end
def nW (kv:List Pr):Nat:=(kv.map fun p=>gP p.2).sum
theorem ValAt.cost {σ:bZ}{s v:ByteArray}{b:List Int}(h:ValAt σ s v b):b.length=gP v:=by
 rcases h with ⟨_,h2,rfl⟩|⟨hd,rs,_,⟨_,h2⟩,h3,rfl⟩
 ·unfold gP;rw[if_pos h2];rfl
 ·unfold gP
  rw[if_neg (by omega)]
  have e1:=h3.hd.len
  have e2:v.data.toList.length=v.size:=by show v.data.toList.length=v.data.size;simp
  rw[e2] at e1
  simp[jZ,e1];omega
theorem EH {σ:bZ}:∀{es:List mH},(∀e∈es,ValAt σ e.s e.v e.b)->(eX es).length=nW (jF es)
 |[],_=>rfl
 |e::es,h=>by
  have h1:=(h e (bg ..)).cost
  have h2:=EH (es:=es) fun x hx=>h x (aW _ hx)
  rw[EK,ay,h1,h2];rfl
def qa (w0:iW)(v N R dn u:Nat)(kv:List Pr)(w:World):Prop:=
 ∃S pg d σ l p f root es tb,Ag w S v pg d σ l p f root es tb/\VB w0 w S/\(¬w0.F v/\w0.D d σ l p)/\p.blocks σ=N/\p.ring=R/\l.last=dn+1/\jF es=kv/\(tb++eX es).length=u
def qF (w0:iW)(v t N R dn u:Nat)(kv0 kv:List Pr)(ch:Bool)(P:Nat)(w:World):Prop:=
 ∃S tr mp σ root es tb root0 es0 tb0,wU w S v t tr mp σ root es tb ch root0 es0 tb0/\VB w0 w S/\(¬w0.F v/\w0.D mp.d σ.H.dk σ.H.lg σ.H.pg)/\¬w0.F t/\¬w0.F tr/\σ.most=N/\σ.H.pg.ring=R/\σ.H.lg.last=dn+1/\jF es=kv/\jF es0=kv0/\(tb0++eX es0).length=u/\σ.tk<=P
def Gd (w0:iW)(v t N R dn u:Nat)(kv0:List Pr)(w:World):Prop:=
 ∃S tr mp σ ch root0 es0 tb0,Oi w S v t tr mp σ ch root0 es0 tb0/\VB w0 w S/\(¬w0.F v/\w0.D mp.d σ.H.dk σ.H.lg σ.H.pg)/\¬w0.F t/\¬w0.F tr/\σ.H.pg.blocks σ.H.dk=N/\σ.H.pg.ring=R/\σ.H.lg.last=dn+1/\jF es0=kv0/\(tb0++eX es0).length=u
def Vv (t:Nat)(w:World):Prop:=∃mp ch er,w.heap[t]? =some (.cells (dH mp none ch er) 100 (0,0))
section
variable {w0:iW} {w:World} {v t N R dn u P:Nat} {kv kv0:List Pr} {ch:Bool}
theorem qa.nD {w0:World}(h:qa w0 v N R dn u kv w):Below w0.heap.size w0 w:=by obtain⟨_,_,_,_,_,_,_,_,_,_,_,h,_⟩:=h;exact h.nD
theorem qa.make (w0:iW)(w:World)(n:Nat)(log:Nat)(d:Nat)(S:Nat->Prop)(hb:VB w0 w S)(h:rD w S d (Dk.new n))(h1:6<=log)(h2:log+8<=n)(hD:∀σ l p,Sj (Dk.new n) log σ l p->w0.D d σ l p:=by exact fun _ _ _ h=>h.vi.free.2):
  Calls Tryz.prog 11 #[.pointer (some ⟨d,0,none⟩),.int .i64 log] w fun e w'=>∃v,e= .returned (.tuple #[.pointer (some ⟨v,0,none⟩),.int .i64 0])/\qa w0 v (n - log) (log - 1) 0 0 [] w':=by
 refine(UD d (Dk.new n) S log w h ⟨rfl,rfl⟩ h1 h2 (aT _)).mono ?_
 rintro e w' ⟨v,pg,σ',l',p',S',rfl,hobj,hn,hlo,hp,hN,hs⟩
 refine⟨v,rfl,S',pg,d,σ',l',p',two,0,[],[],⟨hobj,hn,hp,hN.vi.vj,hN.base,Sj.live⟩,hb.step hs,⟨hb.new hlo,hD _ _ _ hN⟩,?_,hN.ring,hN.last,rfl,rfl⟩
 unfold Pg.blocks
 rw[hN.n,hN.skip];rfl
theorem qa.begin (h:qa w0 v N R dn u kv w):
  Calls Tryz.prog 21 #[.pointer (some ⟨v,0,none⟩)] w fun e w'=>∃t,e= .returned (.tuple #[.pointer (some ⟨t,0,none⟩),.int .i64 0])/\qF w0 v t N R dn u kv kv false (2+u) w':=by
 obtain⟨S,pg,d,σ,l,p,f,root,es,tb,hA,hB,h1,h2,h3,h4,h5,h6⟩:=h
 refine hA.begin.mono ?_
 rintro e w' ⟨t,tr,mp,S',rfl,_,hmd,hT,hs,hl1,hl2⟩
 have hok:=bZ.Ok.start hA.pgr.ok.1 hA.pgr.ok.2.1 hA.base.pd hA.base.sd hA.base.two hA.base.hi hA.base.f0 hA.base.f1
 have hc:countB f (p.blocks σ)=2+(tb++eX es).length:=hA.live.own.count hok hA.live.all
 exact⟨t,rfl,S',tr,mp,_,root,es,tb,root,es,tb,hT,hB.step hs,⟨h1.1,by rw[hmd];exact h1.2⟩,hB.new hl1,hB.new hl2,h2,h3,h4,h5,h5,h6,by rw[<-h6,<-hc];exact aC _⟩
theorem qa.check (h:qa w0 v N R dn u kv w)(hl:kv.length<=4090):
  Calls Tryz.prog 13 #[.pointer (some ⟨v,0,none⟩)] w fun e w'=>e= .returned (.int .i64 0)/\qa w0 v N R dn u kv w':=by
 obtain⟨S,pg,d,σ,l,p,f,root,es,tb,hA,hB,h1,h2,h3,h4,h5,h6⟩:=h
 refine(hA.check (by rw[<-jR,h5];exact hl)).mono ?_
 rintro e w' ⟨rfl,S',hV,hs⟩
 exact⟨rfl,S',pg,d,σ,l,p,f,root,es,tb,hV,hB.step hs,h1,h2,h3,h4,h5,h6⟩
theorem qa.blocks (h:qa w0 v N R dn u kv w):
  Calls Tryz.prog 14 #[.pointer (some ⟨v,0,none⟩)] w fun e w'=>e= .returned (.int .i64 N)/\qa w0 v N R dn u kv w':=by
 obtain⟨S,pg,d,σ,l,p,f,root,es,tb,hA,hB,h1,h2,h3,h4,h5,h6⟩:=h
 refine hA.blocks.mono ?_
 rintro e w' ⟨rfl,hV,hb⟩
 exact⟨by rw[h2],S,pg,d,σ,l,p,f,root,es,tb,hV,hB.below hb,h1,h2,h3,h4,h5,h6⟩
theorem qa.done (h:qa w0 v N R dn u kv w)(hd:dn<=100000000):
  Calls Tryz.prog 12 #[.pointer (some ⟨v,0,none⟩)] w fun e w'=>e= .returned (.int .i64 dn)/\w'=w:=by
 obtain⟨S,pg,d,σ,l,p,f,root,es,tb,hA,hB,h1,h2,h3,h4,h5,h6⟩:=h
 refine(hA.done (by omega)).mono ?_
 rintro e w' ⟨rfl,rfl⟩
 exact⟨by rw[show (l.last:Int) - 1=dn by omega],rfl⟩
theorem Ag.mW {M S:Nat->Prop}{w':World}{pg d:Nat}{σ:Dk}{l:Lg}{p:Pg}{f:Nat->Bool}{root:Nat}{es:List mH}{tb:List Int}(h:Ag w S v pg d σ l p f root es tb)(hk:Keep M w w')(hM:∀g,S g\/g=v->¬M g):Ag w' S v pg d σ l p f root es tb:=
 ⟨(hk.block v (aj.1 h.obj).1 (hM v (.inr rfl))).trans h.obj,h.nv,h.pgr.keep hk (fun g hg=>hM g (.inl hg)),h.vi,h.base,h.live⟩
theorem wU.mW {M S:Nat->Prop}{w':World}{tr:Nat}{mp:VS}{σ:bZ}{root:Int}{es:List mH}{tb:List Int}{root0:Nat}{es0:List mH}{tb0:List Int}(h:wU w S v t tr mp σ root es tb ch root0 es0 tb0)(hk:Keep M w w')(hM:∀g,S g\/g=v\/g=t\/g=tr->¬M g):wU w' S v t tr mp σ root es tb ch root0 es0 tb0:=
 ⟨(hk.block v (aj.1 h.obj).1 (hM v (.inr (.inl rfl)))).trans h.obj,h.nv,h.tx.keep hk (fun g hg=>hM g (hg.imp id .inr)),h.live,h.bas,h.ch⟩
theorem Oi.mW {M S:Nat->Prop}{w':World}{tr:Nat}{mp:VS}{σ:bZ}{root0:Nat}{es0:List mH}{tb0:List Int}(h:Oi w S v t tr mp σ ch root0 es0 tb0)(hk:Keep M w w')(hM:∀g,S g\/g=v\/g=t\/g=tr->¬M g):Oi w' S v t tr mp σ ch root0 es0 tb0:=by
 obtain⟨a,b,⟨r,e,c⟩,d⟩:=h
 exact⟨(hk.block v (aj.1 a).1 (hM v (.inr (.inl rfl)))).trans a,b,⟨r,e,c.keep hk (fun g hg=>hM g (hg.imp id .inr))⟩,d⟩
def iW.next (b:iW)(w w':World):iW:=⟨fun g=>b.F g\/(w.heap.size<=g/\g<w'.heap.size),w',b.D⟩
theorem VB.next {S M:Nat->Prop}{w':World}(h:VB w0 w S)(hk:Keep M w w')(hs:∀g,S g->g<w.heap.size):VB (w0.next w w') w' S:=
 ⟨rfl,rfl,rfl,aC _,fun _ _=>rfl,fun g hg=>hg.elim (fun e=>ak (h.fs g e) (aK h.size hk.size)) (fun e=>e.2),fun g hg e=>e.elim (h.lo g hg) (fun e=>absurd (hs g hg) (bq.2 e.1))⟩
theorem iW.no {w':World}{g:Nat}(h:¬w0.F g)(hg:g<w.heap.size):¬(w0.next w w').F g:=fun e=>e.elim h (fun e=>absurd hg (bq.2 e.1))
theorem qa.next {M:Nat->Prop}{w':World}(h:qa w0 v N R dn u kv w)(hk:Keep M w w')(hM:∀g,M g->w0.F g):qa (w0.next w w') v N R dn u kv w':=by
 obtain⟨S,pg,d,σ,l,p,f,root,es,tb,hA,hB,h1,h2⟩:=h
 have hl:=(aj.1 hA.obj).1
 exact⟨S,pg,d,σ,l,p,f,root,es,tb,hA.mW hk (fun g hg e=>hg.elim (fun x=>hB.lo g x (hM g e)) (fun x=>h1.1 (x▸hM g e))),hB.next hk hA.pgr.sub,⟨iW.no h1.1 hl,h1.2⟩,h2⟩
theorem qF.next {M:Nat->Prop}{w':World}(h:qF w0 v t N R dn u kv0 kv ch P w)(hk:Keep M w w')(hM:∀g,M g->w0.F g):qF (w0.next w w') v t N R dn u kv0 kv ch P w':=by
 obtain⟨S,tr,mp,σ,root,es,tb,root0,es0,tb0,hA,hB,h1,h2,h3,h4⟩:=h
 have hl:=(aj.1 hA.obj).1
 have hl2:=(aj.1 hA.tx.tx).1
 have hl3:=(aj.1 hA.tx.tree).1
 refine⟨S,tr,mp,σ,root,es,tb,root0,es0,tb0,hA.mW hk (fun g hg e=> ?_),hB.next hk hA.tx.inv.sub,⟨iW.no h1.1 hl,h1.2⟩,iW.no h2 hl2,iW.no h3 hl3,h4⟩
 rcases hg with x|x|x|x
 ·exact hB.lo g x (hM g e)
 ·exact h1.1 (x▸hM g e)
 ·exact h2 (x▸hM g e)
 ·exact h3 (x▸hM g e)
theorem Gd.next {M:Nat->Prop}{w':World}(h:Gd w0 v t N R dn u kv0 w)(hk:Keep M w w')(hM:∀g,M g->w0.F g):Gd (w0.next w w') v t N R dn u kv0 w':=by
 obtain⟨S,tr,mp,σ,ch,root0,es0,tb0,hA,hB,h1,h2,h3,h4⟩:=h
 have hl:=(aj.1 hA.obj).1
 obtain⟨_,_,hx⟩:=hA.tx
 have hl2:=(aj.1 hx.tx).1
 have hl3:=(aj.1 hx.tree).1
 refine⟨S,tr,mp,σ,ch,root0,es0,tb0,hA.mW hk (fun g hg e=> ?_),hB.next hk hx.inv.sub,⟨iW.no h1.1 hl,h1.2⟩,iW.no h2 hl2,iW.no h3 hl3,h4⟩
 rcases hg with x|x|x|x
 ·exact hB.lo g x (hM g e)
 ·exact h1.1 (x▸hM g e)
 ·exact h2 (x▸hM g e)
 ·exact h3 (x▸hM g e)
theorem qF.sizes {S:Nat->Prop}{tr:Nat}{mp:VS}{σ:bZ}{root:Int}{es:List mH}{tb:List Int}{root0:Nat}{es0:List mH}{tb0:List Int}(h:wU w S v t tr mp σ root es tb ch root0 es0 tb0):
  σ.sz<=2+(tb0++eX es0).length+nh σ tb+nW (jF es)/\countB σ.H.old σ.most=2+(tb0++eX es0).length:=by
 have hI:=h.tx.inv
 have e1:=h.live.own.size
 have hm:=hI.ok.most
 obtain⟨hpo,hdo,hlo⟩:σ.H.pg.Ok σ.H.dk σ.H.lg/\σ.H.dk.Ok/\σ.H.lg.Ok:=by obtain⟨Sp,T,q,_⟩:=hI;exact q.pg.ok
 have hB:=h.bas.base
 have hok:=bZ.Ok.start hpo hdo hB.pd hB.sd hB.two hB.hi hB.f0 hB.f1
 have hc:countB σ.H.old (σ.H.pg.blocks σ.H.dk)=2+(tb0++eX es0).length:=h.bas.live.own.count hok h.bas.live.all
 rw[<-hm] at hc
 rw[pq,hc] at e1
 have e2:=rM σ (eX es)
 rw[EH h.live.val] at e2
 exact⟨by omega,hc⟩
theorem qF.get (h:qF w0 v t N R dn u kv0 kv ch P w)(key:ByteArray)(hl:kv.length<=4090)(hg:1<=key.size/\key.size<=128):
  Calls Tryz.prog 36 #[.pointer (some ⟨t,0,none⟩),.string key] w fun e w'=>e= .returned (.tuple #[.string ((fD kv key).getD ByteArray.empty),.bool (fD kv key).isSome,.int .i64 0])/\qF w0 v t N R dn u kv0 kv ch P w':=by
 obtain⟨S,tr,mp,σ,root,es,tb,root0,es0,tb0,hA,hB,h1,h2,h3,h4,h5,h6,h7,h8⟩:=h
 refine(hA.get key (by rw[<-jR,h7];exact hl) hg).mono ?_
 rintro e w' ⟨rfl,hT,hb⟩
 exact⟨by rw[h7],S,tr,mp,σ,root,es,tb,root0,es0,tb0,hT,hB.below hb,h1,h2,h3,h4,h5,h6,h7,h8⟩
theorem qF.put (h:qF w0 v t N R dn u kv0 kv ch P w)(key value:ByteArray)(hl:kv.length<=4090)(hg:1<=key.size/\key.size<=128)(hv:value.size<=49152)(hP:2+u+nW kv+2*(kv.length+1)+gP value<=P):
  Calls Tryz.prog 23 #[.pointer (some ⟨t,0,none⟩),.string key,.string value] w fun e w'=>
   (e= .returned (.int .i64 0)/\qF w0 v t N R dn u kv0 (jB kv key value) (ch|| !decide (fD kv key=some value)) P w')\/
   (e= .returned (.int .i64 12)/\N<2+u+nW kv+2*(kv.length+1)+gP value/\Gd w0 v t N R dn u kv0 w'):=by
 obtain⟨S,tr,mp,σ,root,es,tb,root0,es0,tb0,hA,hB,h1,h2,h3,h4,h5,h6,h7,h8,h9,h10⟩:=h
 obtain⟨e1,e2⟩:=qF.sizes hA
 have hel:es.length=kv.length:=by rw[<-h7,jR]
 rw[h9,h7] at e1
 have hm:=hA.tx.inv.ok.most
 refine(hA.put key value (by omega) hg hv).mono ?_
 rintro e w' (⟨rfl,σ',S',root',es',tb',q1,q2,q3,q4,q5,q6,q7,_⟩|⟨rfl,q0,σ',S',q1,q2,q3⟩)
 ·refine .inl ⟨rfl,S',tr,mp,σ',root',es',tb',root0,es0,tb0,?_,hB.Ak h2 h3 q5,⟨h1.1,by rw[q3];exact h1.2⟩,h2,h3,by rw[q4,h4],by rw[q3,h5],by rw[q3,h6],by rw[q2,h7],h8,h9,q6 P (by omega) h10⟩
  rw[h7] at q1;exact q1
 ·exact .inr ⟨rfl,by omega,S',tr,mp,σ',ch,root0,es0,tb0,q1,hB.Ak h2 h3 q3,⟨h1.1,by rw[q2];exact h1.2⟩,h2,h3,by rw[q2,<-hm,h4],by rw[q2,h5],by rw[q2,h6],h8,h9⟩
theorem qF.Pw (h:qF w0 v t N R dn u kv0 kv ch P w)(key value:ByteArray)(hl:kv.length<=4090)(hg:1<=key.size/\key.size<=128)(hv:value.size<=49152)(hi:(jB kv key value).length<=299):
  Calls Tryz.prog 23 #[.pointer (some ⟨t,0,none⟩),.string key,.string value] w fun e w'=>
   (e= .returned (.int .i64 0)/\qF w0 v t N R dn u kv0 (jB kv key value) (ch|| !decide (fD kv key=some value)) (P+(65+gP value)) w')\/
   (e= .returned (.int .i64 12)/\N<2+u+nW kv+2*(kv.length+1)+gP value/\Gd w0 v t N R dn u kv0 w'):=by
 obtain⟨S,tr,mp,σ,root,es,tb,root0,es0,tb0,hA,hB,h1,h2,h3,h4,h5,h6,h7,h8,h9,h10⟩:=h
 obtain⟨e1,e2⟩:=qF.sizes hA
 have hel:es.length=kv.length:=by rw[<-h7,jR]
 rw[h9,h7] at e1
 have hm:=hA.tx.inv.ok.most
 have hsz:=hA.tx.inv.ok.szk
 refine(hA.put key value (by omega) hg hv).mono ?_
 rintro e w' (⟨rfl,σ',S',root',es',tb',q1,q2,q3,q4,q5,q6,q7,q8⟩|⟨rfl,q0,σ',S',q1,q2,q3⟩)
 ·refine .inl ⟨rfl,S',tr,mp,σ',root',es',tb',root0,es0,tb0,?_,hB.Ak h2 h3 q5,⟨h1.1,by rw[q3];exact h1.2⟩,h2,h3,by rw[q4,h4],by rw[q3,h5],by rw[q3,h6],by rw[q2,h7],h8,h9,(q8 (by rw[<-jR,q2,h7];exact hi)).2 _ (by omega) (by omega)⟩
  rw[h7] at q1;exact q1
 ·exact .inr ⟨rfl,by omega,S',tr,mp,σ',ch,root0,es0,tb0,q1,hB.Ak h2 h3 q3,⟨h1.1,by rw[q2];exact h1.2⟩,h2,h3,by rw[q2,<-hm,h4],by rw[q2,h5],by rw[q2,h6],h8,h9⟩
theorem qF.abort (h:qF w0 v t N R dn u kv0 kv ch P w):
  Calls Tryz.prog 31 #[.pointer (some ⟨t,0,none⟩)] w fun e w'=>e= .returned (.tuple #[])/\qa w0 v N R dn u kv0 w'/\Vv t w':=by
 obtain⟨S,tr,mp,σ,root,es,tb,root0,es0,tb0,hA,hB,h1,h2,h3,h4,h5,h6,h7,h8,h9,h10⟩:=h
 have hm:=hA.tx.inv.ok.most
 refine hA.abort.mono ?_
 rintro e w' ⟨rfl,S',hV,hs,hc,_⟩
 have hB':=hB.Ak h2 h3 hs
 exact⟨rfl,⟨S',_,_,_,_,_,_,root0,es0,tb0,hV,hB',h1,by rw[<-hm,h4],h5,h6,h8,h9⟩,mp,ch,0,hc⟩
theorem Gd.abort (h:Gd w0 v t N R dn u kv0 w):
  Calls Tryz.prog 31 #[.pointer (some ⟨t,0,none⟩)] w fun e w'=>e= .returned (.tuple #[])/\qa w0 v N R dn u kv0 w':=by
 obtain⟨S,tr,mp,σ,ch,root0,es0,tb0,hA,hB,h1,h2,h3,h4,h5,h6,h7,h8⟩:=h
 refine hA.abort.mono ?_
 rintro e w' ⟨rfl,S',hV,hs⟩
 exact⟨rfl,S',_,_,_,_,_,_,root0,es0,tb0,hV,hB.Ak h2 h3 hs,h1,h4,h5,h6,h7,h8⟩
theorem Gd.commit (h:Gd w0 v t N R dn u kv0 w):
  Calls Tryz.prog 25 #[.pointer (some ⟨t,0,none⟩)] w fun e w'=>e= .returned (.tuple #[.int .i64 0,.int .i64 12])/\qa w0 v N R dn u kv0 w':=by
 obtain⟨S,tr,mp,σ,ch,root0,es0,tb0,hA,hB,h1,h2,h3,h4,h5,h6,h7,h8⟩:=h
 refine hA.commit.mono ?_
 rintro e w' ⟨rfl,S',hV,hs⟩
 exact⟨rfl,S',_,_,_,_,_,_,root0,es0,tb0,hV,hB.Ak h2 h3 hs,h1,h4,h5,h6,h7,h8⟩
theorem Gd.usable (h:Gd w0 v t N R dn u kv0 w)(key:ByteArray):
  Calls Tryz.prog 59 #[.pointer (some ⟨t,0,none⟩),.string key] w fun e w'=>w'=w/\e= .returned (.int .i64 12):=by
 obtain⟨S,tr,mp,σ,ch,root0,es0,tb0,hA,_⟩:=h
 exact hA.usable key
theorem qF.no {key:ByteArray}(h:qF w0 v t N R dn u kv0 kv ch P w)(hb:¬(1<=key.size/\key.size<=128)):
  Calls Tryz.prog 59 #[.pointer (some ⟨t,0,none⟩),.string key] w fun e w'=>w'=w/\e= .returned (.int .i64 1):=by
 obtain⟨S,tr,mp,σ,root,es,tb,root0,es0,tb0,hA,_⟩:=h
 exact hA.no hb
def Cq (k:Nat):Nat:=(16+520*k+511)/512
def Vp (kv:List Pr)(σ:Dk)(l:Lg)(p:Pg)(σ':Dk)(l':Lg)(p':Pg):Prop:=∃im f root es tb,QV σ l p im σ' l' p'/\jF es=kv/\zx σ' l' p' f root/\Live (bZ.start σ' l' p' f) root es tb
def Vu (b:iW)(v d:Nat)(σ:Dk)(l:Lg)(p:Pg)(w:World):Prop:=∃S pg op,w.heap[v]? =some (.cells #[.pointer (some ⟨pg,0,none⟩)] 88 (0,0))/\¬S v/\jh w S pg d σ l p op/\VB b w S/\¬b.F v
def Vd (b:iW)(v N R dn:Nat)(w:World):Prop:=∃d σ l p σ' l' p',b.D d σ l p/\l.last=dn+1/\p.blocks σ=N/\p.ring=R/\Mk σ l p σ' l' p'/\Vu b v d σ' l' p' w
theorem qF.R3 (h:qF w0 v t N R dn u kv0 kv ch P w)(hd:dn<=100000000)(D':Nat->Dk->Lg->Pg->Prop)(hD:∀d σ l p σ' l' p',w0.D d σ l p->l.last=dn+1->p.blocks σ=N->Vp kv σ l p σ' l' p'->D' d σ' l' p'):
  Calls Tryz.prog 25 #[.pointer (some ⟨t,0,none⟩)] w fun e w'=>
   (ch=false/\kv=kv0/\e= .returned (.tuple #[.int .i64 dn,.int .i64 0])/\qa w0 v N R dn u kv0 w')\/
   (ch=true/\(R<Cq (P - u)\/1024<P - u)/\e= .returned (.tuple #[.int .i64 0,.int .i64 13])/\qa w0 v N R dn u kv0 w')\/
   (ch=true/\e= .returned (.tuple #[.int .i64 ((dn+1:Nat):Int),.int .i64 0])/\∃u',qa (w0.to D') v N R (dn+1) u' kv w')\/
   (ch=true/\e= .returned (.tuple #[.int .i64 0,.int .i64 10])/\Vd w0 v N R dn w'):=by
 obtain⟨S,tr,mp,σ,root,es,tb,root0,es0,tb0,hA,hB,h1,h2,h3,h4,h5,h6,h7,h8,h9,h10⟩:=h
 have hm:=hA.tx.inv.ok.most
 obtain⟨_,e2⟩:=qF.sizes hA
 refine(hA.commit (by omega)).mono ?_
 rintro e w' ⟨S',hs,(⟨rfl,q1,rfl,q2⟩|⟨rfl,⟨r,q1,q2,q3,q4⟩,rfl,q5⟩|⟨rfl,rfl,σ',l',p',root',im,q1,q2,q3⟩|⟨rfl,rfl,σ',l',p',q1,q2,q3,q4⟩)⟩
 all_goals have hB':=hB.Ak h2 h3 hs
 ·refine .inl ⟨rfl,by rw[<-h7,<-h8,q1],by rw[show (σ.H.lg.last:Int) - 1=dn by omega],S',_,_,_,_,_,_,root0,es0,tb0,q2,hB',h1,by rw[<-hm,h4],h5,h6,h8,h9⟩
 ·refine .inr (.inl ⟨rfl,?_,rfl,S',_,_,_,_,_,_,root0,es0,tb0,q5,hB',h1,by rw[<-hm,h4],h5,h6,h8,h9⟩)
  unfold Pg.rH at q2
  rw[LK q3,h5] at q2
  unfold Cq
  rw[e2,h9] at q4
  omega
 ·exact .inr (.inr (.inl ⟨rfl,by rw[h6],_,S',_,_,σ',l',p',_,root',es,tb,q1,hB'.to,⟨h1.1,hD _ _ _ _ _ _ _ h1.2 h6 (by rw[<-hm,h4]) ⟨im,_,_,_,_,q2,h7,q1.base,q1.live⟩⟩,by rw[q3,h4],by rw[q2.ring,h5],by rw[q2.last,h6],h7,rfl⟩))
 ·exact .inr (.inr (.inr ⟨rfl,rfl,mp.d,_,_,_,σ',l',p',h1.2,h6,by rw[<-hm,h4],h5,q1,S',mp.pg,_,q3,q4,q2,hB',h1.1⟩))
theorem qF.commit (h:qF w0 v t N R dn u kv0 kv ch P w)(hd:dn<=100000000)(hc:w0.Calm:=by exact L9 rfl):
  Calls Tryz.prog 25 #[.pointer (some ⟨t,0,none⟩)] w fun e w'=>
   (ch=false/\kv=kv0/\e= .returned (.tuple #[.int .i64 dn,.int .i64 0])/\qa w0 v N R dn u kv0 w')\/
   (ch=true/\(R<Cq (P - u)\/1024<P - u)/\e= .returned (.tuple #[.int .i64 0,.int .i64 13])/\qa w0 v N R dn u kv0 w')\/
   (ch=true/\e= .returned (.tuple #[.int .i64 ((dn+1:Nat):Int),.int .i64 0])/\∃u',qa w0 v N R (dn+1) u' kv w'):=by
 refine(h.R3 hd w0.D fun d σ l p σ' l' p' e _ _ ⟨_,_,_,_,_,q,_⟩=>hc.two e (q.fu (hc.one e))).mono ?_
 rintro e w' (h|h|h|⟨_,_,_,_,_,_,_,_,_,q,_,_,_,q2,_⟩)
 ·exact .inl h
 ·exact .inr (.inl h)
 ·exact .inr (.inr h)
 ·exact absurd (hc.one q) q2.fu
theorem qF.scan (h:qF w0 v t N R dn u kv0 kv ch P w)(key:ByteArray)(most:Int)(hl:kv.length<=4090):
  Calls Tryz.prog 29 #[.pointer (some ⟨t,0,none⟩),.string key,.int .i64 most] w fun e w'=>∃x,e= .returned (.tuple #[x,.int .i64 0])/\aQ w' fZ w.heap.size 103 2 x (xg kv key most).length (dO (xg kv key most))/\qF w0 v t N R dn u kv0 kv ch P w'/\Below w.heap.size w w':=by
 obtain⟨S,tr,mp,σ,root,es,tb,root0,es0,tb0,hA,hB,h1,h2,h3,h4,h5,h6,h7,h8⟩:=h
 refine(hA.scan key most (by rw[<-jR,h7];exact hl)).mono ?_
 rintro e w' ⟨x,rfl,hx,hb⟩
 rw[h7] at hx
 exact⟨x,rfl,hx.other (fun g _ e=>e.elim),⟨S,tr,mp,σ,root,es,tb,root0,es0,tb0,hA.below hb,hB.below hb,h1,h2,h3,h4,h5,h6,h7,h8⟩,hb⟩
end
theorem qF.more {w0:iW}{w:World}{v t N R dn u P P':Nat}{kv kv0:List Pr}{ch:Bool}(h:qF w0 v t N R dn u kv0 kv ch P w)(hp:P<=P'):qF w0 v t N R dn u kv0 kv ch P' w:=by
 obtain⟨S,tr,mp,σ,root,es,tb,root0,es0,tb0,hA,hB,h1,h2,h3,h4,h5,h6,h7,h8,h9,h10⟩:=h
 exact⟨S,tr,mp,σ,root,es,tb,root0,es0,tb0,hA,hB,h1,h2,h3,h4,h5,h6,h7,h8,h9,aK h10 hp⟩
theorem Nl (k:ByteArray):fD [] k=none:=rfl
theorem Qe (k x:ByteArray):jB [] k x=[(k,x)]:=rfl
theorem Nk (k x:ByteArray):fD [(k,x)] k=some x:=by
 have h:lt k k=false:=lt_irrefl k
 have hp:cO [(k,x)] k=0:=by unfold cO;simp[h]
 unfold fD pz
 rw[hp]
 simp
theorem qF.TA {w0:iW}{w:World}{v t N R dn u P:Nat}{kv kv0:List Pr}{ch:Bool}(h:qF w0 v t N R dn u kv0 kv ch P w)(key value:ByteArray)(hl:kv.length<=4090)(hg:1<=key.size/\key.size<=128)(hv:value.size<=49152)(Q:Nat)(hQ:Q=max P (2+u+nW kv+2*(kv.length+1)+gP value))(hN:2+u+nW kv+2*(kv.length+1)+gP value<=N):
  Calls Tryz.prog 23 #[.pointer (some ⟨t,0,none⟩),.string key,.string value] w fun e w'=>
   e= .returned (.int .i64 0)/\qF w0 v t N R dn u kv0 (jB kv key value) (ch|| !decide (fD kv key=some value)) Q w':=by
 refine((h.more (P':=Q) (by omega)).put key value hl hg hv (by omega)).mono ?_
 rintro e w' (h|⟨_,h,_⟩)
 ·exact h
 ·omega
theorem qF.NJ {w0:iW}{w:World}{v t N R dn u P:Nat}{kv kv0:List Pr}(h:qF w0 v t N R dn u kv0 kv true P w)(hd:dn<=100000000)(hR:Cq (P - u)<=R)(hP:P - u<=1024)(hc:w0.Calm:=by exact L9 rfl):
  Calls Tryz.prog 25 #[.pointer (some ⟨t,0,none⟩)] w fun e w'=>
   e= .returned (.tuple #[.int .i64 ((dn+1:Nat):Int),.int .i64 0])/\∃u',qa w0 v N R (dn+1) u' kv w':=by
 refine(h.commit hd hc).mono ?_
 rintro e w' (⟨h,_⟩|⟨_,h,_⟩|⟨_,h⟩)
 ·cases h
 ·omega
 ·exact h
theorem wS (w:World):Calls Tryz.prog 7 #[] w fun e w'=>e= .returned (.bool true)/\Below w.heap.size w w':=by
 go_enter Tryz.func7,Tryz.ntmps7
 go_wp2_with (first
  |(go_at_call 8;go_must ((refine(TU 40 w).mono ?_);rintro e w1 ⟨d,S,rfl,hD,hb1,hS⟩;have HV:=ah (qa.make w w1 40 12 d S (VB.of hb1 hS) hD (by omega) (by omega));clear hD hb1 hS))
  |(go_at_call 11;go_must ((refine HV.out.mono ?_);rintro e w2 ⟨v,rfl,hV2⟩;clear HV))
  |(go_at_call 14;go_must ((refine hV2.blocks.mono ?_);rintro e w3 ⟨rfl,hV3⟩;clear hV2))
  |(go_at_call 12;go_must ((refine(hV3.done (by omega)).mono ?_);rintro e w4 ⟨rfl,hw⟩;subst w4))
  |(go_at_call 21;go_must ((refine hV3.begin.mono ?_);rintro e w5 ⟨t,rfl,hT5⟩;clear hV3))
  |(go_at_call 23;go_must ((refine(hT5.TA ⟨#[97]⟩ ⟨#[120]⟩ (by simp) ⟨by decide,by decide⟩ (by decide) 4 (by decide) (by decide)).mono ?_);rintro e w6 ⟨rfl,hT6⟩;rw[Qe] at hT6;clear hT5))
  |(go_at_call 36;go_must ((refine(hT6.get ⟨#[97]⟩ (by simp) ⟨by decide,by decide⟩).mono ?_);rw[Nk];rintro e w7 ⟨rfl,hT7⟩;clear hT6;have HC:=ah (qF.NJ hT7 (by omega) (by decide) (by decide));clear hT7))
  |(go_at_call 25;go_must ((refine HC.out.mono ?_);rintro e w8 ⟨rfl,u',hV8⟩;clear HC))
  |(go_at_call 13;go_must ((refine(hV8.check (by simp)).mono ?_);rintro e w9 ⟨rfl,hV9⟩;clear hV8)))
 go_ret
 exact⟨rfl,hV9.nD⟩
end Go.Proofs.YtogbkgmlhhahdaaGreat
