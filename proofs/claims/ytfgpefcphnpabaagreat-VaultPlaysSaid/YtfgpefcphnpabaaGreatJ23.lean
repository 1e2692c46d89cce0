/- parts -/
import Derived.Test.YtfgpefcphnpabaaGreatJ22
namespace Go.Proofs.YtfgpefcphnpabaaGreat
open Go.RowKit
set_option maxRecDepth 100000
set_option maxHeartbeats 8000000
set_option linter.all false
theorem vL {f:Nat→Bool}:∀{n m:Nat},n≤m→(∀b,n≤b→f b=false)→countB f m=countB f n
 |n,0,h,_=>by
  obtain rfl:n=0:=by omega
  rfl
 |n,m+1,h,hf=>by
  rcases gV m n with hm|hm
  ·obtain rfl:n=m+1:=by omega
   rfl
  ·rw[eP,vL hm hf,hf m hm]
   rfl
structure Bf (σ:Dk) (l:Lg) (p:Pg) (f:Nat→Bool) (root:Nat):Prop where
 pd:p.dead=false
 sd:σ.dead=false
 two:2≤p.blocks σ
 map:p.look Im.none σ 0=bytesOf f
 hi:∀b,p.blocks σ≤b→f b=false
 f0:f 0=true
 f1:f 1=true
 root:IQ (p.look Im.none σ 1) root
theorem QA (v pg d:Nat) (σ:Dk) (l:Lg) (p:Pg) (f:Nat→Bool) (root:Nat) (S:Nat→Prop) (w:World) (hv:w.heap[v]? =some (.cells #[.pointer (some ⟨pg,0,none⟩)] 102 (0,0))) (hvS:¬S v) (h:iy w S pg d σ l p (.pointer none)) (hB:Bf σ l p f root):
  Calls Tryz.prog 16 #[.pointer (some ⟨v,0,none⟩)] w fun e w'=>e= .returned (.tuple #[.int .i64 (countB f (p.blocks σ)),.int .i64 0])∧∃S',iy w' S' pg d σ l p (.pointer none)∧Step S S' w w':=by
 have HB:=af (Gz v pg d σ l p f root S w hv hvS h hB.pd hB.sd hB.two hB.map hB.hi hB.f0 hB.f1 hB.root)
 have hcap:p.blocks σ≤4096:=by have:=h.ok.2.1.hi;unfold Pg.blocks;omega
 have HC:=af (vL hcap hB.hi)
 have hsub:=h.sub
 clear hv h
 go_enter_defers Tryz.func16,Tryz.ntmps16
 go_wp2_with (first
  |(go_at_call 13;go_must (refine HB.out.mono ?_;rintro e w1 ⟨t,tr,mp,S1,rfl,hpg,hd,htx,htr,hI1,hs1,hn1,hn2,hlo1,hlo2⟩;refine Stop.of ?_)))
 refine Stop.on ?_
 have c1:w1.cell? ⟨t,1,none⟩=some (.pointer (some ⟨mp.mp,0,none⟩)):=by simp[World.cell?,htx,bS]
 have hlt:=(ah.1 htx).1
 have HU:=af (show Calls Tryz.prog 66 #[.pointer (some ⟨mp.mp,0,none⟩)] w1 fun e w'=>e= .returned (.int .i64 (countB f 4096))∧w'=w1 by
  obtain⟨Sp,T,hI,hS⟩:=hI1
  exact O7 mp.mp _ _ _ w1 hI.map)
 have HX:=af (ax htx (ax hI1 hs1))
 clear htx hI1 hs1 htr
 go_wp2_with (first
  |(go_at_call 66;go_must (refine HU.out.mono ?_;rintro e w2 ⟨rfl,hw2⟩;subst w2)))
 refine iD (f:=32) (args:=#[.pointer (some ⟨t,0,none⟩)]) (by simp) (by simp[go_sem]) ?_
 refine(Eo t tr mp false 0 _ S1 _ _ HX.out.1 HX.out.2.1 hn1).mono ?_
 rintro e u' w3 ⟨rfl,rfl,⟨Sp,hp3,hsp3⟩,h3,hk3⟩
 refine⟨.tuple #[.int .i64 (countB f 4096:Nat),.int .i64 0],by simp[results,Tryz.results16,go_sem],by rw[HC.out],Sp,by rw[←hpg,←hd];exact hp3,HX.out.2.2.1.trans hk3 (fun g hg e=> ?_),fun g hg=>HX.out.2.2.2 g (hsp3 g hg)⟩
 rcases e with e|e
 ·exact(HX.out.2.2.2 g e).elim id (fun x=>absurd hg (aY.2 x))
 ·subst e;exact absurd hg (aY.2 hlo1)
theorem Ep (tr:Nat) (mp:VS) (root:Int) (σ:bP) (S:Nat→Prop) (cs:List Pr) (tb:List Int) (w:World) (h:Inv σ S mp w) (ht:bU w tr mp root 0) (hT:uW σ root cs tb) (hl:cs.length≤4090):
  Calls Tryz.prog 77 #[.pointer (some ⟨tr,0,none⟩)] w fun e w'=>∃(v:Value) (L:List Int),e= .returned (.tuple #[v,.int .i64 0])∧L.Perm tb∧aP w' S w.heap.size 3 1 v L.length (L.map (.int .i64))∧Below w.heap.size w w':=by
 obtain⟨n,T,hn,hB,hp⟩:=hT.bl (by omega)
 by_cases hr:root=0
 ·subst hr
  refine(Gb tr mp S w ht).mono ?_
  rintro e w' ⟨v,rfl,ho,hb⟩
  rw[if_pos rfl] at hB
  have hT0:T=[]:=by cases hB<;>simp_all
  exact⟨v,_,rfl,by rw[←hT0];exact(qH _).trans hp,ho,hb⟩
 ·rw[if_neg hr] at hB
  refine(Gc tr mp root σ S w h ht hr n T hn hB (by have:=hp.length_eq;have:=hT.count;omega)).mono ?_
  rintro e w' ⟨v,rfl,ho,hb⟩
  exact⟨v,_,rfl,(qH _).trans hp,ho,hb⟩
theorem J8 (es:List kU):((gY es).drop (bO (gY es) ⟨#[]⟩))=gY es:=by
 have:bO (gY es) ⟨#[]⟩=0:=by
  unfold bO
  cases gY es with
  |nil=>rfl
  |cons p r=>rw[Lc,Ag];rfl
 rw[this,eu]
theorem PU {w:World} {S:Nat→Prop} {B g n c:Nat} {ps:List Pr} (h:aP w S B 127 2 (.slice (some ⟨g,0,none⟩) n c) n (dw ps)) (hn:ps.length=n) (k:Nat) (hk:k<n):
  w.cell? ⟨g,k*2,none⟩=some (.string (ps[k]'(by omega)).1)∧w.cell? ⟨g,k*2+1,none⟩=some (.string (ps[k]'(by omega)).2):=by
 have hP:iY w S (.slice (some ⟨g,0,none⟩) n c) ps:=by
  unfold iY
  rw[hn];exact h.cK
 obtain⟨pb,po,e1,d0,d1⟩:=hP.at rfl k (by omega)
 cases e1
 rw[dN] at d0 d1
 exact⟨d0,d1⟩
theorem Pz (v pg d:Nat) (σ:Dk) (l:Lg) (p:Pg) (f:Nat→Bool) (root:Nat) (S:Nat→Prop) (w:World) (es:List kU) (tb:List Int) (hv:w.heap[v]? =some (.cells #[.pointer (some ⟨pg,0,none⟩)] 102 (0,0))) (hvS:¬S v) (h:iy w S pg d σ l p (.pointer none)) (hB:Bf σ l p f root) (hL:Live (bP.start σ l p f) root es tb) (hl:es.length≤4090):
  Calls Tryz.prog 34 #[.pointer (some ⟨v,0,none⟩)] w fun e w'=>e= .returned (.int .i64 0)∧∃S',iy w' S' pg d σ l p (.pointer none)∧Step S S' w w':=by
 have HB:=af (Gz v pg d σ l p f root S w hv hvS h hB.pd hB.sd hB.two hB.map hB.hi hB.f0 hB.f1 hB.root)
 have hcap:p.blocks σ≤4096:=by have:=h.ok.2.1.hi;unfold Pg.blocks;omega
 have HC:=af (vL hcap hB.hi)
 have hsub:=h.sub
 clear hv h
 go_enter_defers Tryz.func34,Tryz.ntmps34
 go_wp2_with (first
  |(go_at_call 13;go_must (refine HB.out.mono ?_;rintro e w1 ⟨t,tr,mp,S1,rfl,hpg,hd,htx,htr,hI1,hs1,hn1,hn2,hlo1,hlo2⟩;refine Stop.of ?_)))
 refine Stop.on ?_
 obtain⟨τ,hτ⟩:∃τ,τ=bP.start σ l p f:=⟨_,rfl⟩
 rw[←hτ] at hI1 hL
 have c2:w1.cell? ⟨t,2,none⟩=some (.pointer (some ⟨tr,0,none⟩)):=by simp[World.cell?,htx,bS]
 have hlt:=(ah.1 htx).1
 have hl':(gY es).length≤4090:=by rw[dK];exact hl
 have HTB:=af (Ep tr mp root τ S1 (gY es) tb w1 hI1 htr hL.tree hl')
 have hS1:∀g,S1 g→g<w1.heap.size:=hI1.sub
 have hI1':=hI1.ok
 have HX:=af (ax htx (ax htr (ax hI1 hs1)))
 have HTAU:=af hτ
 clear htx htr hI1 hs1 hτ
 go_wp2_with (first
  |(go_at_call 77;go_must (refine HTB.out.mono ?_;rintro e w2 ⟨bv,L,rfl,hp2,ho2,hb2⟩;refine Stop.of ?_)))
 refine Stop.on ?_
 obtain⟨xo,xc,rfl,_,_,_,_⟩:=aX.form ho2.cK
 have hS2:∀g,S1 g→g<w2.heap.size:=fun g hg=>ak (hS1 g hg) hb2.size
 have hLl:L.length≤9000:=by have:=hp2.length_eq;have:=hL.tree.count;omega
 have HP2:=af hp2
 go_wp2_with (first
  |(at_builtin;go_must ((refine bY rfl (.tmp 35) (.tmp 36) 133 133 rfl S1 w1.heap.size 3 1 8 _ Tryz.underlying133 fV rfl (.slice xo L.length xc) _ _ rfl (ho2.below (aI _ _)) _ 2 _ rfl (fK [.int .i64 0,.int .i64 1] _ 1 2 2 (by simp) Tryz.underlying133 rfl ?_) (dQ hS2 _) ?_ ?_ ?_ ?_);(focus (simp[Value.oneCell']));(focus (simp only[aQ];have:=hb2.size;omega));(focus (unfold maxLen;omega));(focus omega);intro ao3 c3 w3 hown3 hk3 hb3 hd3;refine Stop.of ?_)))
 refine Stop.on ?_
 have hb13:Below w1.heap.size w1 w3:=(hb2.trans ((aI w2 _).mono hb2.size)).trans hb3
 have hE:L.map (Value.int .i64)++[.int .i64 0,.int .i64 1]=(L++[0,1]).map (.int .i64):=by simp
 have hE2:L.length+2=(L++[0,1]).length:=by simp
 rw[hE,hE2] at hown3
 have htx3:=(hb13.block t hlt).trans HX.out.1
 have d2:w3.cell? ⟨t,2,none⟩=some (.pointer (some ⟨tr,0,none⟩)):=by simp[World.cell?,htx3,bS]
 have hlt3:=(ah.1 htx3).1
 have hI3:=HX.out.2.2.1.below hb13
 have htr3:bU w3 tr mp root 0:=(hb13.block tr (ah.1 HX.out.2.1).1).trans HX.out.2.1
 have hSC:=BR tr mp root τ S1 (gY es) tb ⟨#[]⟩ 262144 w3 hI3 htr3 hL.tree hl'
 rw[J8,aJ (by rw[dK];show es.length≤(262144:Int).toNat;omega),dK] at hSC
 have HSC:=af hSC
 have HO3:=af hown3
 have HB13:=af hb13
 have HI3:=af hI3
 obtain⟨A0,hA0⟩:∃A,A=L++[0,1]:=⟨_,rfl⟩
 obtain⟨n0,hn0⟩:∃n,n=L.length+2:=⟨_,rfl⟩
 rw[←hE2,←hn0,←hA0] at HO3
 rw[←hn0]
 have HA0:=af hA0;have HN0:=af (show A0.length=n0 by rw[hA0,hn0];simp);have HNL:=af (ax hLl hn0)
 clear hown3 hb13 hI3 hSC htx3 htr3 hb3 hk3 hd3 ho2 hb2 hp2 hE hE2 hA0 hn0
 go_wp2_with (first
  |(go_at_call 70;go_must (refine HSC.out.mono ?_;rintro e w4 ⟨pv,rfl,ho4,hb4⟩;refine Stop.of ?_)))
 refine Stop.on ?_
 obtain⟨po,pc,rfl,_,_,_,_⟩:=aX.form ho4.cK
 obtain⟨n,hn⟩:∃n,n=es.length:=⟨_,rfl⟩
 have HN:=af hn
 rw[←hn] at ho4 ⊢
 have ho4':=ho4.base HB13.out.size
 have hA4:=HO3.out.below hb4
 have hb14:=HB13.out.trans (hb4.mono HB13.out.size)
 have HV:=af hL.val
 have hct:=hL.own.count hI1' hL.all
 have hbn:(dm es).length≤4096:=by
  have:=countB_le τ.now τ.most
  rw[hct,av] at this
  have:=hI1'.cap
  omega
 have HBN:=af hbn;have HCT:=af hct
 clear hbn hct
 clear hn ho4 hb4
 go_wp2_with fail
 go_loopw [5,8,9,10,11,12,51] (fun a _ _ _ _ _ i wr=>∃(k:Nat) (A:List Int),k≤n∧i= .int .i64 k∧aP wr S1 w1.heap.size 3 1 a A.length (A.map (.int .i64))∧A.Perm (A0++dm (es.take k))∧aP wr S1 w1.heap.size 127 2 (.slice po n pc) n (dw (gY es))∧Below w1.heap.size w1 wr) (fun _ _ _ _ _ _ i _=>n - (intOf i).toNat)
 case atStart=>exact⟨0,A0,aU _,rfl,by rw[HN0.out];exact hA4,by simp[dm],ho4',hb14⟩
 case round=>
  clear hA4 ho4' hb14
  obtain⟨k,A,hk,rfl,hAo,hAp,hPo,hbk⟩:=hrel
  obtain⟨ao,ac,rfl,_,_,_,_⟩:=aX.form hAo.cK
  by_cases hkn:k<n
  ·have y1:(k:Int)<(n:Int):=by omega
   have hkx:k<es.length:=by rw[←HN.out];exact hkn
   obtain⟨g,c,e1,_,_,hg1,hg2⟩:=hPo.wO (by omega)
   cases e1
   obtain⟨d0,d1⟩:=PU hPo (by rw[dK];exact HN.out.symm) k hkn
   obtain⟨E,hE⟩:∃E,Hid (es[k]=E):=⟨_,af rfl⟩
   have hcs:(gY es)[k]'(by rw[dK];exact hkx)=(E.k,E.s):=by rw[←hE.out];simp[gY]
   rw[hcs] at d0 d1
   have hEm:E∈es:=by rw[←hE.out];exact bg hkx
   have HTK:=af (show dm (es.take (k+1))=dm (es.take k)++E.b by rw[aK hkx,gK,hE.out];simp[dm])
   have hAl:A.length+97≤20000:=by
    have e1:=hAp.length_eq
    rw[av,HN0.out] at e1
    have e2:=HBN.out
    have e4:=HNL.out
    have e3:(dm (es.take k)).length≤(dm es).length:=by
     have:dm es=dm (es.take k)++dm (es.drop k):=by rw[←gK,bE]
     rw[this,av];omega
    omega
   have hlw:g<wr.heap.size:=hg2
   have hsr:∀g,S1 g→g<wr.heap.size:=fun g hg=>ak (hS1 g hg) hbk.size
   have HAO:=af hAo;have HAP:=af hAp;have HPO:=af hPo;have HBK:=af hbk
   clear hcs hAo hAp hPo hbk
   rcases HV.out E hEm with ⟨s1,s2,s3⟩|⟨hd',rs,s1,s2,s3,s4⟩
   ·have hsz:E.s.size≤1000000:=by
     have:E.s.size=E.v.size+1:=by rw[s1];show (0::E.v.data.toList).toArray.size=E.v.data.size+1;simp
     omega
    have hl0:qj E.s.data.toList=none:=by rw[s1];exact sJ _
    have HL0:=af hl0
    clear s1 s2 hl0
    go_wp2_with (first
     |(go_at_call 78;go_must (refine(BJ E.s _ hsz).mono ?_;rw[HL0.out];rintro e w5 ⟨hb5,rfl⟩;refine Stop.of ?_)))
    refine Stop.on ?_
    have hbw5:Below wr.heap.size wr w5:=(aI wr _).trans (hb5.mono (by simp))
    clear hb5
    go_wp2_with fail
    go_roundw
    case rel=>exact⟨k+1,A,by omega,by go_num,HAO.out.below hbw5,by rw[HTK.out,s3,dF];exact HAP.out,HPO.out.below hbw5,HBK.out.trans (hbw5.mono HBK.out.size)⟩
    case measure=>simp[intOf];omega
   ·have hsz:E.s.size≤1000000:=by rw[s1];show [1,UInt8.ofNat hd',UInt8.ofNat (hd'/256)].toArray.size≤_;simp
    have hl0:qj E.s.data.toList=some hd':=by rw[s1];exact vD hd' s2.1
    have HL0:=af hl0;have HS3:=af s3;have HS4:=af s4
    clear s1 s2 hl0 s3 s4
    go_wp2_with (first
     |(go_at_call 78;go_must (refine(BJ E.s _ hsz).mono ?_;rw[HL0.out];rintro e w5 ⟨hb5,rfl⟩;refine Stop.of ?_)))
    refine Stop.on ?_
    have hbw5:Below wr.heap.size wr w5:=(aI wr _).trans (hb5.mono (by simp))
    have hb15:=HBK.out.trans (hbw5.mono HBK.out.size)
    have htx5:=(hb15.block t hlt).trans HX.out.1
    have f0:w5.cell? ⟨t,0,none⟩=some (.pointer (some ⟨mp.tx,0,none⟩)):=by simp[World.cell?,htx5,bS]
    have f1:w5.cell? ⟨t,1,none⟩=some (.pointer (some ⟨mp.mp,0,none⟩)):=by simp[World.cell?,htx5,bS]
    have hlt5:=(ah.1 htx5).1
    have HBB:=af (Jz mp τ S1 w5 hd' _ rs (HX.out.2.2.1.below hb15) HS3.out.hd)
    have HB5:=af (ax hbw5 hb15)
    clear hb5 hbw5 hb15 htx5
    go_wp2_with (first
     |(go_at_call 79;go_must (refine HBB.out.mono ?_;rintro e w6 ⟨mv,rfl,ho6,hb6⟩;refine Stop.of ?_)))
    refine Stop.on ?_
    obtain⟨mo,mc,rfl,_,_,_,_⟩:=aX.form ho6.cK
    have hml:(oG (jE hd' rs)).length≤97:=by
     rw[qI]
     have:=HS3.out.hd.runs.2
     simp[jE];omega
    have hb56:=HB5.out.1.trans (hb6.mono HB5.out.1.size)
    have hsrc:=aX.src (P:=Tryz.prog) ho6.cK Tryz.underlying133 (pu _)
    have hA6:=HAO.out.below hb56
    have hP6:=HPO.out.below hb56
    have hs6:∀g,S1 g→g<w6.heap.size:=fun g hg=>ak (hsr g hg) hb56.size
    have hz6:w1.heap.size≤w6.heap.size:=aH HBK.out.size hb56.size
    obtain⟨B,hB⟩:∃B,Hid (oG (jE hd' rs)=B):=⟨_,af rfl⟩
    rw[hB.out] at hml hsrc ⊢
    clear ho6 hb6
    go_wp2_with (first
     |(at_builtin;(refine bY rfl (.tmp 75) (.tmp 76) 133 133 rfl S1 w1.heap.size 3 1 8 _ Tryz.underlying133 fV rfl (.slice ao A.length ac) A.length _ rfl hA6 (.slice mo B.length mc) B.length _ rfl hsrc hs6 hz6 (by unfold maxLen;omega) (by omega) ?_);go_must (intro ao7 c7 w7 hown7 hk7 hb7 hd7;refine Stop.of ?_)))
    refine Stop.on ?_
    go_wp2_with fail
    have hAm:A.map (Value.int .i64)++B.map (.int .i64)=(A++B).map (.int .i64):=by simp
    have hAl2:A.length+B.length=(A++B).length:=by simp
    go_roundw
    case rel=>
     refine⟨k+1,A++B,by omega,by go_num,by rw[←hAm,←hAl2];exact hown7,?_,hP6.keep fun x hx hl hs=>⟨hk7.block x hl (fun e=>aP.Ea hP6 hA6 (by decide) _ hx e),hs⟩,(HBK.out.trans (hb56.mono HBK.out.size)).trans hb7⟩
     rw[HTK.out,HS4.out,←aM]
     exact HAP.out.append (by rw[←hB.out];exact qH _)
    case measure=>simp[intOf];omega
  ·obtain rfl:k=n:=by omega
   have y1:¬(k:Int)<(k:Int):=by omega
   have hAp2:A.Perm (A0++dm es):=by
    have:=hAp
    rwa [HN.out,dh] at this
   have hperm:A.Perm (0::1::(tb++dm es)):=by
    refine hAp2.trans ?_
    rw[HA0.out]
    have e1:(L++[0,1]++dm es).Perm ([0,1]++L++dm es):=eG.append_right _
    refine e1.trans ?_
    have e2:([0,1]++L++dm es)=0::1::(L++dm es):=by simp
    rw[e2]
    exact((HP2.out.append_right _).cons _).cons _
   have hlen:A.length=countB f 4096:=by
    rw[hperm.length_eq,HC.out]
    have e1:=HCT.out
    have e2:countB τ.now τ.most=countB f (p.blocks σ):=by rw[HTAU.out];rfl
    rw[e2] at e1
    rw[e1];simp;omega
   have hAll:∀x∈A,∃b:Nat,x=b∧b<τ.most∧τ.now b=true:=by
    intro x hx
    rcases bD.1 (hperm.mem_iff.1 hx) with rfl|hx
    ·exact⟨0,rfl,by have:=hI1'.two;omega,hI1'.n0⟩
    ·rcases bD.1 hx with rfl|hx
     ·exact⟨1,rfl,by have:=hI1'.two;omega,hI1'.n1⟩
     ·exact bP.kz (hL.all x hx).1
   have hnd:A.Nodup:=by
    refine hperm.nodup_iff.2 (kF.2 ⟨fun e=> ?_,kF.2 ⟨fun e=> ?_,hL.own.nd⟩⟩)
    ·rcases bD.1 e with e|e
     ·cases e
     ·have:=(hL.all 0 e).2;omega
    ·have:=(hL.all 1 e).2;omega
   have hAl:A.length≤4096:=by rw[hlen];exact countB_le f 4096
   have HSO:=af (vV _ A wr S1 w1.heap.size hAo (by omega) hbk.size)
   obtain⟨Q,hQ⟩:∃Q,Hid (oG A=Q):=⟨_,af rfl⟩
   have hQr:=JZ hnd
   have hQl:=qI A
   have hQm:∀x∈oG A,x∈A:=fun x hx=>(zH x).1 hx
   rw[hQ.out] at HSO hQr hQl hQm
   obtain⟨m,hm⟩:∃m,m=A.length:=⟨_,rfl⟩
   rw[hQl,←hm] at HSO
   rw[←hm] at hQl hlen hAl ⊢
   have HQ:=af (ax hQr (ax hQl (ax hQm hAll)))
   have HLEN:=af hlen;have HBK:=af hbk
   clear hAp hAp2 hperm hlen hAll hnd hQr hQl hQm hm hAo hPo hbk
   go_wp2_with (first
    |(go_at_call 80;go_must (refine HSO.out.mono ?_;rintro e w5 ⟨rfl,ho5,hb5⟩;refine Stop.of ?_)))
   refine Stop.on ?_
   have hb15:=HBK.out.trans hb5
   have htx5:=(hb15.block t hlt).trans HX.out.1
   have f1:w5.cell? ⟨t,1,none⟩=some (.pointer (some ⟨mp.mp,0,none⟩)):=by simp[World.cell?,htx5,bS]
   have hlt5:=(ah.1 htx5).1
   have hI5:=HX.out.2.2.1.below hb15
   have hmap:oK w5 mp.mp τ.most τ.now τ.H.old:=by obtain⟨Sp,T,hI,_⟩:=hI5;exact hI.map
   have HMAP:=af hmap;have HO5:=af ho5;have HX5:=af (ax htx5 (ax hI5 hb15))
   clear hmap ho5 htx5 hI5 hb15 hb5
   have hmc:=hI1'.cap
   go_wp2_with fail
   go_loopw [13,14,83] (fun _ _ i wk=>∃j:Nat,j≤m∧i= .int .i64 j∧wk=w5) (fun _ _ i _=>m - (intOf i).toNat)
   case atStart=>exact⟨0,aU _,rfl,rfl⟩
   case round=>
    obtain⟨j,hj,rfl,hwk⟩:=hrel
    subst hwk
    by_cases hjm:j<m
    ·have y2:(j:Int)<(m:Int):=by omega
     have hI:jd wr S1 (.slice ao m ac) Q:=by
      have:=HO5.out.cK
      unfold jd
      rw[HQ.out.2.1];exact this
     have hjQ:j<Q.length:=by rw[HQ.out.2.1];exact hjm
     obtain⟨pb,po',rfl,q1⟩:=hI.at rfl j hjQ
     have hpb:=ay wr _ q1
     obtain⟨b,hb,hbm,hbn⟩:=HQ.out.2.2.2 Q[j] (HQ.out.2.2.1 _ (bg hjQ))
     have HBQ:=af hb
     rw[hb] at q1
     have HHS:=QO mp.mp τ.most τ.now τ.H.old b wr HMAP.out hmc (by omega)
     rw[show (decide (b<τ.most) && τ.now b)=true by simp[hbm,hbn]] at HHS
     have HHS:=af HHS
     by_cases hj0:j=0
     ·subst hj0
      rw[gB] at q1
      clear hI hb hbm hbn
      go_wp2_with (first
       |(go_at_call 81;go_must (refine HHS.out.mono ?_;rintro e w6 ⟨rfl,hw6⟩;subst w6)))
      go_roundw
      case rel=>exact⟨1,by omega,by go_num,trivial⟩
      case measure=>simp[intOf];omega
     ·have hj1:j - 1<Q.length:=by omega
      obtain⟨pb',po'',e',q2⟩:=hI.at rfl (j - 1) hj1
      cases e'
      obtain⟨b2,hb2,_,_⟩:=HQ.out.2.2.2 Q[j - 1] (HQ.out.2.2.1 _ (bg hj1))
      have hne:¬b2=b:=by
       have:=fQ.1 HQ.out.1 (j - 1) j hj1 hjQ (by omega)
       omega
      rw[hb2] at q2
      have y3:(0:Int)<(j:Int):=by omega
      have y4:IntKind.i64.wrap ((j:Int) - 1)=((j - 1:Nat):Int):=by rw[aF _ (by omega)];omega
      have y5:((j - 1:Nat):Int)<(m:Int):=by omega
      have y6:(0:Int)≤((j - 1:Nat):Int):=by omega
      have y7:¬(b2:Int)=(b:Int):=by omega
      have y8:((b2:Int)==(b:Int))=false:=by simpa using y7
      obtain⟨j1,hj1e⟩:∃x:Nat,Hid (j - 1=x):=⟨_,af rfl⟩
      rw[hj1e.out] at q2 y4 y5 y6
      clear hI hb hbm hbn hb2
      go_wp2_with (first
       |(go_at_call 81;go_must (refine HHS.out.mono ?_;rintro e w6 ⟨rfl,hw6⟩;subst w6)))
      go_roundw
      case rel=>exact⟨j+1,by omega,by go_num,trivial⟩
      case measure=>simp[intOf];omega
    ·obtain rfl:j=m:=by omega
     have y2:¬(j:Int)<(j:Int):=by omega
     have HU:=O7 mp.mp τ.most τ.now τ.H.old wr HMAP.out
     have hnow:countB τ.now 4096=j:=by rw[HLEN.out,HTAU.out];rfl
     rw[hnow] at HU
     have HU:=af HU
     have HLO:=af (ax hlo1 (ax hpg (ax hd hn1)))
     clear hnow
     go_wp2_with (first
      |(go_at_call 66;go_must (refine HU.out.mono ?_;rintro e w6 ⟨rfl,hw6⟩;subst w6)))
     refine iD (f:=32) (args:=#[.pointer (some ⟨t,0,none⟩)]) (by simp) (by simp[go_sem]) ?_
     refine(Eo t tr mp false 0 τ S1 _ _ HX5.out.1 HX5.out.2.1 hn1).mono ?_
     rintro e u' w7 ⟨rfl,rfl,⟨Sp,hp7,hsp7⟩,h7,hk7⟩
     rw[HTAU.out] at hp7
     refine⟨_,by simp[results,Tryz.results34,go_sem],rfl,Sp,by rw[←HLO.out.2.1,←HLO.out.2.2.1];exact hp7,(HX.out.2.2.2.1.trans (Keep.of_below HX5.out.2.2 gL) (fun _ _ e=>e.elim)).trans hk7 (fun g hg e=> ?_),fun g hg=>HX.out.2.2.2.2 g (hsp7 g hg)⟩
     rcases e with e|e
     ·exact(HX.out.2.2.2.2 g e).elim id (fun x=>absurd hg (aY.2 x))
     ·subst e;exact absurd hg (aY.2 HLO.out.1)
def DV (n:Nat) (log:Int):Int:=if log<6∨(n:Int) - 8<log then 1 else 0
theorem Ri (d:Nat) (σ:Dk) (Sd:Nat→Prop) (log:Int) (w:World) (h:qF w Sd d σ):
  Calls Tryz.prog 47 #[.pointer (some ⟨d,0,none⟩),.int .i64 log] w fun e w'=>e= .returned (.int .i64 (DV σ.n log))∧w'=w:=by
 have HS:=af (Ct d σ Sd w h)
 have hi:=h.ok.hi
 have q:IntKind.i64.wrap ((σ.n:Int) - 8)=(σ.n:Int) - 8:=aF _ (by omega)
 clear h
 unfold DV
 by_cases h1:log<6
 ·rw[if_pos (.inl h1)]
  go_enter Tryz.func47,Tryz.ntmps47
  go_wp2_with fail
  go_ret
  exact⟨rfl,rfl⟩
 ·by_cases h2:(σ.n:Int) - 8<log
  ·rw[if_pos (.inr h2)]
   go_enter Tryz.func47,Tryz.ntmps47
   go_wp2_with (first
    |(go_at_call 25;go_must (refine HS.out.mono ?_;rintro e w1 ⟨rfl,hw1⟩;subst w1)))
   go_ret
   exact⟨rfl,rfl⟩
  ·rw[if_neg (by omega)]
   go_enter Tryz.func47,Tryz.ntmps47
   go_wp2_with (first
    |(go_at_call 25;go_must (refine HS.out.mono ?_;rintro e w1 ⟨rfl,hw1⟩;subst w1)))
   go_ret
   exact⟨rfl,rfl⟩
theorem Jm {im:Im} {n:Nat} (h:im.Ok n):eD im.dL=(16+520*im.ks.length+511)/512:=by
 have e:(im.dL.map fun r=>4+r.length).sum=520*im.ks.length:=by
  unfold Im.dL
  rw[Ed]
  have hi:=h.img
  revert hi
  generalize im.ks=ks
  intro hi
  induction ks with
  |nil=>rfl
  |cons k ks ih=>
   rw[dx,uN,ih (fun x hx=>hi x (aW _ hx)),bf]
   have:=hi k (aZ ..)
   show 4+(leB k 4++im.img k).length+_=_
   rw[av,fE,this];omega
 unfold eD
 rw[e]
theorem Dk.Eh:∀(k i:Nat) (σ:Dk) (j:Nat),i≤j→j<i+k→(Dk.rX k i σ).get j=pad []
 |0,_,_,_,h1,h2=>absurd h2 (by omega)
 |k+1,i,σ,j,h1,h2=>by
  rw[Dk.xq,Dk.get_put]
  split
  ·rfl
  ·exact Dk.Eh k i σ j h1 (by omega)
structure OV (σ0:Dk) (log:Nat) (σ:Dk) (l:Lg) (p:Pg):Prop where
 vi:VI σ l p
 last:l.last=1
 synced:l.synced=1
 skip:p.skip=log
 ring:p.ring=log - 1
 n:σ.n=σ0.n
 base:Bf σ l p two 0
theorem OV.live {σ:Dk} {l:Lg} {p:Pg}:Live (bP.start σ l p two) 0 [] []:=by
 refine⟨.inl ⟨rfl,rfl,rfl⟩,(fun e he=>by cases he),⟨oO,fun x hx=> ?_,?_⟩⟩
 ·obtain⟨n,rfl,_,h⟩:=bP.kz hx
  have h:two n=true:=h
  unfold two at h
  have:=jF h
  omega
 ·show countB (fun x=>two x||two x) (p.blocks σ)=countB two (p.blocks σ)+0
  rw[gB]
  exact jh _ (fun x _=>Bool.or_self _)
theorem O1 (d:Nat) (σ:Dk) (Sd:Nat→Prop) (log:Nat) (w:World) (h:qF w Sd d σ) (hf:σ.nN) (h1:6≤log) (h2:log+8≤σ.n) (hcap:σ.waits.length≤50000):
  Calls Tryz.prog 11 #[.pointer (some ⟨d,0,none⟩),.int .i64 log] w fun e w'=>∃v pg σ' l' p' S',e= .returned (.tuple #[.pointer (some ⟨v,0,none⟩),.int .i64 0])∧w'.heap[v]? =some (.cells #[.pointer (some ⟨pg,0,none⟩)] 102 (0,0))∧¬S' v∧w.heap.size≤v∧iy w' S' pg d σ' l' p' (.pointer none)∧OV σ log σ' l' p'∧Step Sd S' w w':=by
 have hck:=Ri d σ Sd log w h
 have hc0:DV σ.n log=0:=by unfold DV;rw[if_neg (by omega)]
 rw[hc0] at hck
 have HCK:=af hck
 have hdn:=h.ok.hi
 have HPM:=af (QK d σ Sd log w h hf (by omega) (by omega) hcap)
 have hsub:=h.sub
 clear h hck hc0
 go_enter Tryz.func11,Tryz.ntmps11
 go_wp2_with (first
  |(go_at_call 47;go_must (refine HCK.out.mono ?_;rintro e w1 ⟨rfl,hw1⟩;subst w1))
  |(go_at_call 48;go_must (refine HPM.out.mono ?_;rintro e w1 ⟨pg,S1,rfl,hp1,hs1⟩;refine Stop.of ?_)))
 refine Stop.on ?_
 obtain⟨σ1,hσ1⟩:∃σ1,σ1=(((Dk.rX (σ.n - log) log σ).flush.put 0 (Lg.new 0 log).lu).flush):=⟨_,rfl⟩
 rw[←hσ1] at hp1
 have hn1:σ1.n=σ.n:=by rw[hσ1];exact Dk.xu _ _ _
 have hf1:σ1.nN:=by rw[hσ1];exact Dk.uf _ _ _ hf
 have hw1:σ1.waits=[]:=by rw[hσ1];rfl
 have hg1:∀j,log≤j→j<σ.n→σ1.get j=pad []:=fun j a b=>by
  rw[hσ1,vE _ _ _ _ (by omega)]
  exact Dk.Eh _ _ _ _ a (by omega)
 have hbl:(Pg.new log).blocks σ1=σ.n - log:=by unfold Pg.blocks;rw[hn1];rfl
 have HBG:=af (Mr pg d σ1 (Lg.new 0 log) (Pg.new log) S1 w1 hp1 rfl)
 have hsub1:=hp1.sub
 have HS1:=af hs1
 have HF1:=af (ax hn1 (ax hf1 (ax hw1 hg1)))
 clear hσ1 hp1 hs1 hn1 hf1 hw1 hg1
 go_wp2_with (first
  |(go_at_call 49;go_must (refine HBG.out.mono ?_;rintro e w2 ⟨t,T,rfl,hp2,ht2,hs2,hT2⟩;refine Stop.of ?_)))
 refine Stop.on ?_
 have hdis:∀g,S1 g→¬T g:=fun g hg e=>absurd (hT2 g e) (fC.2 (hsub1 g hg))
 have HBL:=af (yX pg d σ1 (Lg.new 0 log) (Pg.new log) _ S1 w2 hp2)
 have HSM:=af (PI t pg d σ1 (Lg.new 0 log) (Pg.new log) _ Im.none S1 T w2.drew (hp2.below ((aR _ w2).drew)) (ht2.below ((aR _ w2).drew)) rfl (by omega))
 clear hbl
 have HX2:=af (ax hp2 hs2)
 clear hp2 ht2 hs2
 go_wp2_with (first
  |(go_at_call 51;go_must (refine HBL.out.mono ?_;rintro e w3 ⟨rfl,hw3⟩;subst w3))
  |(go_at_call 50;go_must (refine HSM.out.mono ?_;rintro e w3 ⟨rfl,ht3,hs3⟩;refine Stop.of ?_)))
 refine Stop.on ?_
 obtain⟨im,him⟩:∃im,im=Im.none.put 0 (bytesOf two):=⟨_,rfl⟩
 rw[←him] at ht3
 have hp3:=(HX2.out.1.below ((aR _ w2).drew)).keep hs3.1 (fun g hg e=>hdis g hg e)
 have himok:im.Ok ((Pg.new log).blocks σ1):=by obtain⟨_,q⟩:=ht3;exact q.ok
 have hks:im.ks=[0]:=by rw[him];rfl
 have hPO:=hp3.ok
 have hV1:VI σ1 (Lg.new 0 log) (Pg.new log):=⟨HF1.out.2.1,rfl,rfl,by rw[HF1.out.2.2.1];exact aU _⟩
 have HCM:=Jj t pg d σ1 (Lg.new 0 log) (Pg.new log) _ im S1 T w3 hp3 ht3 hdis rfl rfl (by rw[HF1.out.2.2.1];exact aU _) (by show 0<1000000000000;omega)
 obtain⟨σ2,l2,p2,hcm,hV2,hl2,hk2,hr2,hn2,hlk2⟩:∃σ2 l2 p2,(Pg.new log).commit σ1 (Lg.new 0 log) im=(σ2,l2,p2,1,0)∧VI σ2 l2 p2∧l2.last=1∧p2.skip=log∧p2.ring=log - 1∧σ2.n=σ1.n∧∀b,p2.look Im.none σ2 b=(Pg.new log).look im σ1 b:=by
  rcases vM hV1 hPO.1 hPO.2.2 himok with ⟨q,_⟩|⟨_,q,_⟩|⟨_,_,σ2,l2,p2,q1,q2,q3,q4,q5,q6,q7⟩
  ·rw[hks] at q;cases q
  ·unfold Pg.zZ at q
   rw[Jm himok,hks] at q
   have:(Pg.new log).ring=log - 1:=rfl
   rw[this] at q
   simp at q
   omega
  ·exact⟨σ2,l2,p2,q1,q2,q3,q4,q5,q6,q7⟩
 rw[hcm] at HCM
 have HCM:=af HCM
 have HLK:=af (ax hV2 (ax hl2 (ax hk2 (ax hr2 (ax hn2 (ax hlk2 him))))))
 have HS3:=af (HX2.out.2.trans ((Step.of_below ((aR _ w2).drew):Step S1 S1 w2 w2.drew)))
 have HK3:=af hs3
 clear hp3 ht3 himok hks hPO hV1 hcm hV2 hl2 hk2 hr2 hn2 hlk2 him hs3
 go_wp2_with (first
  |(go_at_call 52;go_must (refine HCM.out.mono ?_;rintro e w4 ⟨rfl,S4,hp4,hE4,hs4⟩;refine Stop.of ?_)))
 refine Stop.on ?_
 obtain⟨σ5,l5,hsy,hV5,hl5,hy5,hn5,hlk5⟩:=Eu HLK.out.1 hp4.ok.1
 have HSY:=O4 pg d σ2 l2 p2 _ S4 w4 hp4 (by have:=HLK.out.1.wt;have:=hp4.ok.2.2.us;have:=hp4.ok.2.2.hi;omega)
 rw[hsy] at HSY
 have HSY:=af HSY
 have HL5:=af (ax hV5 (ax hl5 (ax hy5 (ax hn5 hlk5))))
 have HS4:=af hs4
 clear hp4 hE4 hs4 hsy hV5 hl5 hy5 hn5 hlk5
 go_wp2_with (first
  |(go_at_call 53;go_must (refine HSY.out.mono ?_;rintro e w5 ⟨rfl,S5,hp5,hs5⟩;refine Stop.of ?_)))
 refine Stop.on ?_
 go_wp2_with fail
 go_ret2
 have hb6:=aI w5 (.cells #[.pointer (some ⟨pg,0,none⟩)] 102)
 have hsub5:=hp5.sub
 have hz5:w.heap.size≤w5.heap.size:=by
  have a:=HS1.out.1.size;have b:=HS3.out.1.size;have c:=HK3.out.1.size;have d:=HS4.out.1.size;have e:=hs5.1.size
  omega
 have hskip:=HLK.out.2.2.1
 have hlook:∀b,p2.look Im.none σ5 b=(Pg.new log).look im σ1 b:=fun b=>(HL5.out.2.2.2.2 Im.none b).trans (HLK.out.2.2.2.2.2.1 b)
 have hn5:σ5.n=σ.n:=HL5.out.2.2.2.1.trans (HLK.out.2.2.2.2.1.trans HF1.out.1)
 refine⟨w5.heap.size,pg,σ5,l5,p2,S5,rfl,aS w5 _,fun e=>di _ (hsub5 _ e),hz5,hp5.below hb6,⟨HL5.out.1,HL5.out.2.1.trans HLK.out.2.1,HL5.out.2.2.1.trans HLK.out.2.1,hskip,HLK.out.2.2.2.1,hn5,?_⟩,?_⟩
 ·have hbl5:p2.blocks σ5=σ.n - log:=by unfold Pg.blocks;rw[hn5,hskip]
  refine⟨HLK.out.1.pd,HL5.out.1.free.1,by omega,?_,fun b hb=> ?_,rfl,rfl,?_⟩
  ·rw[hlook,HLK.out.2.2.2.2.2.2]
   unfold Pg.look
   rw[Im.AA,if_pos rfl];rfl
  ·unfold two
   exact bn (by omega)
  ·rw[hlook,HLK.out.2.2.2.2.2.2]
   have:(Pg.new log).look (Im.none.put 0 (bytesOf two)) σ1 1=pad []:=by
    unfold Pg.look
    rw[Im.AA,if_neg (by omega)]
    exact HF1.out.2.2.2 (log+1) (by omega) (by omega)
   rw[this]
   exact⟨by omega,List.replicate 510 0,rfl⟩
 ·have h0:=HS1.out.trans HS3.out
  have a:Step Sd (fun g=>S1 g∨T g) w w2.drew:=⟨h0.1,fun g hg=>hg.elim (h0.2 g) (fun e=> .inr (aH HS1.out.1.size (hT2 g e)))⟩
  have b:Step Sd (fun g=>S1 g∨T g) w w3:=a.trans ⟨HK3.out.1.mono (fun g _ e=> .inr e),fun g hg=> .inl hg⟩
  have c:=b.trans HS4.out
  have e:Step Sd S5 w w5:=c.trans ⟨hs5.1.mono (fun g _ e=> .inl e),fun g hg=>(hs5.2 g hg).imp .inl id⟩
  exact e.trans (Step.of_below hb6)
theorem En (t:Nat) (mp:VS) (ch:Bool) (er:Int) (w:World) (h:w.heap[t]? =some (.cells (bS mp none ch er) 118 (0,0))):
  Calls Tryz.prog 32 #[.pointer (some ⟨t,0,none⟩)] w fun e w'=>w'=w∧e= .returned (.tuple #[]):=by
 have c2:w.cell? ⟨t,2,none⟩=some (.pointer none):=by simp[World.cell?,h,bS]
 have hl:=(ah.1 h).1
 clear h
 go_enter Tryz.func32,Tryz.ntmps32
 go_wp2_with fail
 go_end0
 exact⟨rfl,rfl⟩
theorem LC (tp:Option Addr) (key:ByteArray) (most er:Int) (w:World) (hu:Calls Tryz.prog 58 #[.pointer tp,.string ⟨#[107]⟩] w fun e w'=>w'=w∧e= .returned (.int .i64 er)) (her:er≠0):
  Calls Tryz.prog 20 #[.pointer tp,.string key,.int .i64 most] w fun e w'=>w'=w∧e= .returned (.tuple #[.slice none 0 0,.int .i64 er]):=by
 have hne:(er !=0)=true:=by simp[her]
 have HU:=af hu
 clear hu
 go_enter Tryz.func20,Tryz.ntmps20
 go_wp2_with (first
  |(go_at_call 58;go_must (refine HU.out.mono ?_;rintro e w1 ⟨hw1,rfl⟩;subst w1)))
 go_ret2
 exact⟨rfl,rfl⟩
theorem Gy (tp:Option Addr) (er:Int) (w:World) (P:World→Prop) (hu:Calls Tryz.prog 58 #[.pointer tp,.string ⟨#[107]⟩] w fun e w'=>w'=w∧e= .returned (.int .i64 er)) (her:er≠0)
  (ha:Calls Tryz.prog 32 #[.pointer tp] w fun e w'=>e= .returned (.tuple #[])∧P w'):
  Calls Tryz.prog 15 #[.pointer tp] w fun e w'=>e= .returned (.tuple #[.int .i64 0,.int .i64 er])∧P w':=by
 have hne:(er !=0)=true:=by simp[her]
 have HU:=af hu;have HA:=af ha
 clear hu ha
 go_enter_defers Tryz.func15,Tryz.ntmps15
 go_wp2_with (first
  |(go_at_call 58;go_must (refine HU.out.mono ?_;rintro e w1 ⟨hw1,rfl⟩;subst w1))
  |(go_at_call 32;go_must (refine HA.out.mono ?_;rintro e w1 ⟨rfl,hp1⟩)))
 exact⟨.tuple #[.int .i64 0,.int .i64 er],by simp[results,Tryz.results15,go_sem],rfl,hp1⟩
theorem xZ (v pg d:Nat) (σ:Dk) (l:Lg) (p:Pg) (t:Nat) (S:Nat→Prop) (w:World) (hv:w.heap[v]? =some (.cells #[.pointer (some ⟨pg,0,none⟩)] 102 (0,0))) (h:iy w S pg d σ l p (.pointer (some ⟨t,0,none⟩))) (hd:p.dead=false):
  Calls Tryz.prog 13 #[.pointer (some ⟨v,0,none⟩)] w fun e w'=>w'=w∧e= .returned (.tuple #[.pointer none,.int .i64 6]):=by
 have c0:w.cell? ⟨v,0,none⟩=some (.pointer (some ⟨pg,0,none⟩)):=by simp[World.cell?,hv]
 have hlt:=(ah.1 hv).1
 have HB:=af (EU pg d σ l p t S w h hd)
 clear hv h
 go_enter Tryz.func13,Tryz.ntmps13
 go_wp2_with (first
  |(go_at_call 49;go_must (refine HB.out.mono ?_;rintro e w1 ⟨rfl,hw1⟩;subst w1)))
 go_ret2
 exact⟨rfl,rfl⟩
theorem BK (vp:Option Addr) (er:Int) (w:World) (hb:Calls Tryz.prog 13 #[.pointer vp] w fun e w'=>w'=w∧e= .returned (.tuple #[.pointer none,.int .i64 er])) (her:er≠0):
  Calls Tryz.prog 34 #[.pointer vp] w fun e w'=>w'=w∧e= .returned (.int .i64 er):=by
 have hne:(er !=0)=true:=by simp[her]
 have HB:=af hb
 clear hb
 go_enter_defers Tryz.func34,Tryz.ntmps34
 go_wp2_with (first
  |(go_at_call 13;go_must (refine HB.out.mono ?_;rintro e w1 ⟨hw1,rfl⟩;subst w1)))
 exact⟨.int .i64 er,by simp[results,Tryz.results34,go_sem],rfl,rfl⟩
structure vO (w:World) (S:Nat→Prop) (v pg d:Nat) (σ:Dk) (l:Lg) (p:Pg) (f:Nat→Bool) (root:Nat) (es:List kU) (tb:List Int):Prop where
 obj:w.heap[v]? =some (.cells #[.pointer (some ⟨pg,0,none⟩)] 102 (0,0))
 nv:¬S v
 pgr:iy w S pg d σ l p (.pointer none)
 vi:VI σ l p
 base:Bf σ l p f root
 live:Live (bP.start σ l p f) root es tb
structure Qr (σ:bP) (root:Nat) (es:List kU) (tb:List Int):Prop where
 vi:VI σ.H.dk σ.H.lg σ.H.pg
 base:Bf σ.H.dk σ.H.lg σ.H.pg σ.H.old root
 live:Live (bP.start σ.H.dk σ.H.lg σ.H.pg σ.H.old) root es tb
structure rV (w:World) (S:Nat→Prop) (v t tr:Nat) (mp:VS) (σ:bP) (root:Int) (es:List kU) (tb:List Int) (ch:Bool) (root0:Nat) (es0:List kU) (tb0:List Int):Prop where
 obj:w.heap[v]? =some (.cells #[.pointer (some ⟨mp.pg,0,none⟩)] 102 (0,0))
 nv:¬S v
 tx:xV w S t tr mp σ root 0 ch 0
 live:Live σ root es tb
 bas:Qr σ root0 es0 tb0
 ch:ch=false→σ=bP.start σ.H.dk σ.H.lg σ.H.pg σ.H.old∧es=es0
structure IX (w:World) (S:Nat→Prop) (v t tr:Nat) (mp:VS) (σ:bP) (ch:Bool) (root0:Nat) (es0:List kU) (tb0:List Int):Prop where
 obj:w.heap[v]? =some (.cells #[.pointer (some ⟨mp.pg,0,none⟩)] 102 (0,0))
 nv:¬S v
 tx:∃root err,xV w S t tr mp σ root err ch 12
 bas:Qr σ root0 es0 tb0
theorem LJ {w:World} {v t pg:Nat} {mp:VS} {tr:Option Nat} {ch:Bool} {er:Int} (h:w.heap[v]? =some (.cells #[.pointer (some ⟨pg,0,none⟩)] 102 (0,0))) (ht:w.heap[t]? =some (.cells (bS mp tr ch er) 118 (0,0))):v≠t:=by
 rintro rfl
 rw[h] at ht
 injection ht with ht
 injection ht with _ h2
 exact absurd h2 (by decide)
theorem N7 {w:World} {v t pg:Nat} {mp:VS} {root err:Int} (h:w.heap[v]? =some (.cells #[.pointer (some ⟨pg,0,none⟩)] 102 (0,0))) (ht:bU w t mp root err):v≠t:=by
 rintro rfl
 unfold bU at ht
 rw[h] at ht
 injection ht with ht
 injection ht with _ h2
 exact absurd h2 (by decide)
theorem rV.Dp {w w':World} {S S':Nat→Prop} {v t tr:Nat} {mp:VS} (h:w.heap[v]? =some (.cells #[.pointer (some ⟨mp.pg,0,none⟩)] 102 (0,0))) (hn:¬S v) {ch:Bool} {er root err:Int} (htx:w.heap[t]? =some (.cells (bS mp (some tr) ch er) 118 (0,0))) (htr:bU w tr mp root err) (hs:fG S S' t tr w w'):
  w'.heap[v]? =some (.cells #[.pointer (some ⟨mp.pg,0,none⟩)] 102 (0,0))∧¬S' v:=by
 have hl:=(ah.1 h).1
 refine⟨(hs.1.block v hl (fun e=> ?_)).trans h,fun e=>(hs.2 v e).elim hn (fun x=>absurd hl (aY.2 x))⟩
 rcases e with e|e|e
 ·exact hn e
 ·exact LJ h htx e
 ·exact N7 h htr e
theorem vO.below {w w':World} {S:Nat→Prop} {v pg d:Nat} {σ:Dk} {l:Lg} {p:Pg} {f:Nat→Bool} {root:Nat} {es:List kU} {tb:List Int} (h:vO w S v pg d σ l p f root es tb) (hb:Below w.heap.size w w'):vO w' S v pg d σ l p f root es tb:=
 ⟨(hb.block v (ah.1 h.obj).1).trans h.obj,h.nv,h.pgr.below hb,h.vi,h.base,h.live⟩
theorem vO.step {w w':World} {S S':Nat→Prop} {v pg d:Nat} {σ:Dk} {l:Lg} {p:Pg} {f:Nat→Bool} {root:Nat} {es:List kU} {tb:List Int} (h:vO w S v pg d σ l p f root es tb) {σ':Dk} {l':Lg} {p':Pg} (hp:iy w' S' pg d σ' l' p' (.pointer none)) (hs:Step S S' w w') (hv:VI σ' l' p') (hb:Bf σ' l' p' f root) (hl:Live (bP.start σ' l' p' f) root es tb):vO w' S' v pg d σ' l' p' f root es tb:=by
 have hlt:=(ah.1 h.obj).1
 exact⟨(hs.1.block v hlt h.nv).trans h.obj,fun e=>(hs.2 v e).elim h.nv (fun x=>absurd hlt (aY.2 x)),hp,hv,hb,hl⟩
theorem rV.below {w w':World} {S:Nat→Prop} {v t tr:Nat} {mp:VS} {σ:bP} {root:Int} {es:List kU} {tb:List Int} {ch:Bool} {root0:Nat} {es0:List kU} {tb0:List Int} (h:rV w S v t tr mp σ root es tb ch root0 es0 tb0) (hb:Below w.heap.size w w'):rV w' S v t tr mp σ root es tb ch root0 es0 tb0:=
 ⟨(hb.block v (ah.1 h.obj).1).trans h.obj,h.nv,h.tx.below hb,h.live,h.bas,h.ch⟩
theorem E9 {σ:bP} {root:Nat} {es:List kU} {tb:List Int} (ok:σ.Ok) (hL:Live σ root es tb) (hr:root<65536) {σ':Dk} {l':Lg} {p':Pg} (hb:p'.blocks σ'=σ.most) (hv:VI σ' l' p') (hlook:∀b,p'.look Im.none σ' b=σ.H.pg.look (σ.sealed root).im σ.H.dk b):
  Bf σ' l' p' σ.now root∧Live (bP.start σ' l' p' σ.now) root es tb:=by
 have h2:=ok.two
 have hl:∀b,p'.look Im.none σ' b=if b=0 then bytesOf σ.now else if b=1 then pad (nG root) else σ.mem (b:Nat):=by
  intro b
  rw[hlook]
  show σ.H.pg.look ((σ.im.put 1 (pad (nG root))).put 0 (bytesOf σ.now)) σ.H.dk b=_
  rw[ou,ou]
  split
  ·rfl
  ·split
   ·rfl
   ·unfold bP.mem;rw[eH]
 refine⟨⟨hv.pd,hv.free.1,by omega,by rw[hl,if_pos rfl],fun b hb'=>ok.nhi b (by omega),ok.n0,ok.n1,?_⟩,?_⟩
 ·rw[hl,if_neg (by omega),if_pos rfl]
  exact⟨hr,List.replicate (512 - (nG root).length) 0,rfl⟩
 ·have hhas:∀x,(bP.start σ' l' p' σ.now).hasB x=σ.hasB x:=fun x=>by
   show (decide (0≤x) && (decide (x.toNat<p'.blocks σ') && σ.now x.toNat))=_
   rw[hb];rfl
  have hmv:∀x∈tb++dm es,(bP.start σ' l' p' σ.now).hasB x=true∧(bP.start σ' l' p' σ.now).mem x=σ.mem x:=by
   intro x hx
   obtain⟨a,b⟩:=hL.all x hx
   refine⟨by rw[hhas];exact a,?_⟩
   show p'.look Im.none σ' x.toNat=_
   rw[hl,if_neg (by omega),if_neg (by omega)]
   congr 1
   omega
  refine⟨?_,fun e he=>(hL.val e he).keep fun x hx=>hmv x (bQ _ (jQ.2 ⟨e,he,hx⟩)),⟨hL.own.nd,fun x hx=>hL.own.ex x (by rw[←hhas];exact hx),?_⟩⟩
  ·rcases hL.tree with h|⟨h,ht⟩
   ·exact .inl h
   ·exact .inr ⟨h,ht.move fun x hx=>hmv x (bW _ hx)⟩
  ·have hz:nh (bP.start σ' l' p' σ.now) (tb++dm es)=0:=by
    unfold nh
    rw[List.filter_eq_nil_iff.2]
    ·rfl
    ·intro x hx
     obtain⟨n,e,_,hn⟩:=bP.kz (hL.all x hx).1
     have:(bP.start σ' l' p' σ.now).held x=true:=by
      show (decide (0≤x) && σ.now x.toNat)=true
      rw[e,eH,hn]
      simp
     rw[this];simp
   rw[hz,gB]
   exact jh _ (fun x _=>Bool.or_self _)
theorem J6 {σ:bP} {S:Nat→Prop} {mp:VS} {w:World} (h:Inv σ S mp w) (root:Nat):(σ.sealed root).im.Ok (σ.H.pg.blocks σ.H.dk)∧(σ.sealed root).im.ks.length+countB σ.H.old σ.most≤σ.tk+2∧(σ.sealed root).im.ks≠[]:=by
 have ok:=h.ok
 have hm:=ok.most
 have h2:=ok.two
 obtain⟨Sp,T,h,_⟩:=h
 have hi:σ.im.Ok σ.most:=by obtain⟨_,q⟩:=h.tx;exact q.ok
 have h1:=hi.put 1 (pad (nG root)) (by omega) (nQ (by simp[nG]))
 have h0:=h1.put 0 (bytesOf σ.now) (by omega) (sZ _)
 have ok1:(σ.sealed root).Ok:=(ok.wrote 1 (pad (nG root)) (nQ (by simp[nG])) (by omega) (.inl (by omega))).wrote 0 (bytesOf σ.now) (sZ _) (by show 0<σ.most;omega) (.inl (by omega))
 refine⟨by rw[←hm];exact h0,ok1.P7 h0.rise,fun e=> ?_⟩
 have:0∈(σ.sealed root).im.ks:=kS.2 (.inl rfl)
 rw[e] at this;cases this
structure iZ where
 F:Nat→Prop
 w:World
instance :Coe World iZ:=⟨fun w=>⟨fun g=>g<w.heap.size,w⟩⟩
structure VB (b:iZ) (w:World) (S:Nat→Prop):Prop where
 os:w.os=b.w.os
 tape:w.tape=b.w.tape
 output:w.output=b.w.output
 size:b.w.heap.size≤w.heap.size
 block:∀g,b.F g→w.heap[g]? =b.w.heap[g]?
 fs:∀g,b.F g→g<b.w.heap.size
 lo:∀g,S g→¬b.F g
theorem VB.mK {w0 w:World} {S:Nat→Prop} (h:VB w0 w S):Below w0.heap.size w0 w:=⟨h.os,h.tape,h.output,h.size,fun k hk=>h.block k hk⟩
theorem VB.of {w0 w:World} {S:Nat→Prop} (h:Below w0.heap.size w0 w) (hl:∀g,S g→w0.heap.size≤g):VB w0 w S:=⟨h.os,h.tape,h.output,h.size,fun k hk=>h.block k hk,fun _ hg=>hg,fun g hg=>aY.2 (hl g hg)⟩
theorem VB.keep {b:iZ} {w w':World} {S S' M:Nat→Prop} (h:VB b w S) (hk:Keep M w w') (hM:∀g,b.F g→¬M g) (hS:∀g,S' g→S g∨w.heap.size≤g):VB b w' S':=
 ⟨hk.os.trans h.os,hk.tape.trans h.tape,hk.output.trans h.output,aH h.size hk.size,fun g hg=>(hk.block g (ak (h.fs g hg) h.size) (hM g hg)).trans (h.block g hg),h.fs,fun g hg hf=>(hS g hg).elim (fun e=>h.lo g e hf) (fun e=>absurd (ak (h.fs g hf) h.size) (aY.2 e))⟩
theorem VB.step {b:iZ} {w w':World} {S S':Nat→Prop} (h:VB b w S) (hs:Step S S' w w'):VB b w' S':=h.keep hs.1 (fun g hg e=>h.lo g e hg) hs.2
theorem VB.uO {b:iZ} {w w':World} {S S':Nat→Prop} {t tr:Nat} (h:VB b w S) (ht:¬b.F t) (htr:¬b.F tr) (hs:fG S S' t tr w w'):VB b w' S':=h.keep hs.1 (fun g hg e=>by
  rcases e with e|e|e
  ·exact h.lo g e hg
  ·exact ht (e▸hg)
  ·exact htr (e▸hg)) hs.2
theorem VB.below {b:iZ} {w w':World} {S:Nat→Prop} (h:VB b w S) (hb:Below w.heap.size w w'):VB b w' S:=h.step (Step.of_below hb)
theorem VB.new {b:iZ} {w:World} {S:Nat→Prop} (h:VB b w S) {g:Nat} (hg:w.heap.size≤g):¬b.F g:=fun hf=>absurd (ak (h.fs g hf) h.size) (aY.2 hg)
section
variable {w:World} {S:Nat→Prop} {v pg d:Nat} {σ:Dk} {l:Lg} {p:Pg} {f:Nat→Bool} {root:Nat} {es:List kU} {tb:List Int}
theorem vO.begin (h:vO w S v pg d σ l p f root es tb):
  Calls Tryz.prog 13 #[.pointer (some ⟨v,0,none⟩)] w fun e w'=>∃t tr mp S',e= .returned (.tuple #[.pointer (some ⟨t,0,none⟩),.int .i64 0])∧mp.pg=pg∧mp.d=d∧rV w' S' v t tr mp (bP.start σ l p f) root es tb false root es tb∧Step S S' w w'∧w.heap.size≤t∧w.heap.size≤tr:=by
 refine(Gz v pg d σ l p f root S w h.obj h.nv h.pgr h.base.pd h.base.sd h.base.two h.base.map h.base.hi h.base.f0 h.base.f1 h.base.root).mono ?_
 rintro e w1 ⟨t,tr,mp,S1,rfl,hpg,hd,htx,htr,hI1,hs1,hn1,hn2,hlo1,hlo2⟩
 have hlt:=(ah.1 h.obj).1
 exact⟨t,tr,mp,S1,rfl,hpg,hd,⟨by rw[hpg];exact(hs1.1.block v hlt h.nv).trans h.obj,fun e=>(hs1.2 v e).elim h.nv (fun x=>absurd hlt (aY.2 x)),⟨htx,htr,hI1,hn1,hn2⟩,h.live,⟨h.vi,h.base,h.live⟩,fun _=>⟨rfl,rfl⟩⟩,hs1,hlo1,hlo2⟩
theorem vO.used (h:vO w S v pg d σ l p f root es tb):
  Calls Tryz.prog 16 #[.pointer (some ⟨v,0,none⟩)] w fun e w'=>e= .returned (.tuple #[.int .i64 ((2+(tb++dm es).length:Nat):Int),.int .i64 0])∧∃S',vO w' S' v pg d σ l p f root es tb∧Step S S' w w':=by
 refine(QA v pg d σ l p f root S w h.obj h.nv h.pgr h.base).mono ?_
 rintro e w' ⟨rfl,S',hp,hs⟩
 have hok:=bP.Ok.start h.pgr.ok.1 h.pgr.ok.2.1 h.base.pd h.base.sd h.base.two h.base.hi h.base.f0 h.base.f1
 have hc:countB f (p.blocks σ)=2+(tb++dm es).length:=h.live.own.count hok h.live.all
 rw[hc]
 exact⟨rfl,S',h.step hp hs h.vi h.base h.live,hs⟩
theorem vO.check (h:vO w S v pg d σ l p f root es tb) (hl:es.length≤4090):
  Calls Tryz.prog 34 #[.pointer (some ⟨v,0,none⟩)] w fun e w'=>e= .returned (.int .i64 0)∧∃S',vO w' S' v pg d σ l p f root es tb∧Step S S' w w':=by
 refine(Pz v pg d σ l p f root S w es tb h.obj h.nv h.pgr h.base h.live hl).mono ?_
 rintro e w' ⟨rfl,S',hp,hs⟩
 exact⟨rfl,S',h.step hp hs h.vi h.base h.live,hs⟩
theorem vO.blocks (h:vO w S v pg d σ l p f root es tb):
  Calls Tryz.prog 24 #[.pointer (some ⟨v,0,none⟩)] w fun e w'=>e= .returned (.int .i64 (p.blocks σ))∧vO w' S v pg d σ l p f root es tb∧Below w.heap.size w w':=by
 refine(I6 v pg d σ l p _ S w h.obj h.pgr).mono ?_
 rintro e w' ⟨rfl,rfl⟩
 have hb:Below w.heap.size w w.drew:=(aR _ w).drew
 exact⟨rfl,h.below hb,hb⟩
theorem vO.done (h:vO w S v pg d σ l p f root es tb) (hb:(l.last:Int)≤1000000000000):
  Calls Tryz.prog 21 #[.pointer (some ⟨v,0,none⟩)] w fun e w'=>e= .returned (.int .i64 ((l.last:Int) - 1))∧w'=w:=LG v pg d σ l p _ S w h.obj h.pgr hb
end
section
variable {w:World} {S:Nat→Prop} {v t tr:Nat} {mp:VS} {σ:bP} {root:Int} {es:List kU} {tb:List Int} {ch:Bool} {root0:Nat} {es0:List kU} {tb0:List Int}
theorem I7 {w':World} {Sp:Nat→Prop} (hv:w.heap[v]? =some (.cells #[.pointer (some ⟨mp.pg,0,none⟩)] 102 (0,0))) (hn:¬S v) {er:Int} (htx:w.heap[t]? =some (.cells (bS mp (some tr) ch er) 118 (0,0))) (hB:Qr σ root0 es0 tb0) (hp:iy w' Sp mp.pg mp.d σ.H.dk σ.H.lg σ.H.pg (.pointer none)) (hS:∀g,Sp g→S g) (hk:Keep (fun g=>S g∨g=t) w w'):
  vO w' Sp v mp.pg mp.d σ.H.dk σ.H.lg σ.H.pg σ.H.old root0 es0 tb0∧fG S Sp t tr w w':=by
 have hlt:=(ah.1 hv).1
 exact⟨⟨(hk.block v hlt (fun e=>e.elim hn (LJ hv htx))).trans hv,fun e=>hn (hS v e),hp,hB.vi,hB.base,hB.live⟩,hk.mono (fun g _ e=>e.imp id .inl),fun g hg=> .inl (hS g hg)⟩
theorem rV.abort (h:rV w S v t tr mp σ root es tb ch root0 es0 tb0):
  Calls Tryz.prog 32 #[.pointer (some ⟨t,0,none⟩)] w fun e w'=>e= .returned (.tuple #[])∧∃S',vO w' S' v mp.pg mp.d σ.H.dk σ.H.lg σ.H.pg σ.H.old root0 es0 tb0∧fG S S' t tr w w'∧w'.heap[t]? =some (.cells (bS mp none ch 0) 118 (0,0))∧¬S' t:=by
 refine(LH t tr mp ch 0 σ S w h.tx.tx h.tx.inv h.tx.nt).mono ?_
 rintro e w' ⟨rfl,⟨Sp,hp,hsp⟩,h3,hk⟩
 obtain⟨a,b⟩:=I7 h.obj h.nv h.tx.tx h.bas hp hsp hk
 exact⟨rfl,Sp,a,b,h3,fun e=>h.tx.nt (hsp t e)⟩
theorem IX.abort (h:IX w S v t tr mp σ ch root0 es0 tb0):
  Calls Tryz.prog 32 #[.pointer (some ⟨t,0,none⟩)] w fun e w'=>e= .returned (.tuple #[])∧∃S',vO w' S' v mp.pg mp.d σ.H.dk σ.H.lg σ.H.pg σ.H.old root0 es0 tb0∧fG S S' t tr w w':=by
 obtain⟨rt,er,hT⟩:=h.tx
 refine(LH t tr mp ch 12 σ S w hT.tx hT.inv hT.nt).mono ?_
 rintro e w' ⟨rfl,⟨Sp,hp,hsp⟩,_,hk⟩
 obtain⟨a,b⟩:=I7 h.obj h.nv hT.tx h.bas hp hsp hk
 exact⟨rfl,Sp,a,b⟩
theorem IX.usable (h:IX w S v t tr mp σ ch root0 es0 tb0) (key:ByteArray):
  Calls Tryz.prog 58 #[.pointer (some ⟨t,0,none⟩),.string key] w fun e w'=>w'=w∧e= .returned (.int .i64 12):=by
 obtain⟨rt,er,hT⟩:=h.tx
 have:=mJ t mp tr ch 12 key w hT.tx
 unfold gH at this
 rwa [if_pos (by decide)] at this
theorem IX.commit (h:IX w S v t tr mp σ ch root0 es0 tb0):
  Calls Tryz.prog 15 #[.pointer (some ⟨t,0,none⟩)] w fun e w'=>e= .returned (.tuple #[.int .i64 0,.int .i64 12])∧∃S',vO w' S' v mp.pg mp.d σ.H.dk σ.H.lg σ.H.pg σ.H.old root0 es0 tb0∧fG S S' t tr w w':=
 Gy _ 12 w _ (h.usable _) (by decide) h.abort
theorem rV.spoilt (h:rV w S v t tr mp σ root es tb ch root0 es0 tb0) {w':World} (hp:qO t tr mp S σ ch w w'):
  ∃σ' S',IX w' S' v t tr mp σ' ch root0 es0 tb0∧σ'.H=σ.H∧fG S S' t tr w w':=by
 obtain⟨σ',S',rt,er,hT,hH,hm,hs⟩:=hp
 obtain⟨a,b⟩:=rV.Dp h.obj h.nv h.tx.tx h.tx.tree hs
 refine⟨σ',S',⟨a,b,⟨rt,er,hT⟩,?_⟩,hH,hs⟩
 have:=h.bas
 obtain⟨x,y,z⟩:=this
 rw[←hH] at x y z
 exact⟨x,y,z⟩
theorem rV.moved (h:rV w S v t tr mp σ root es tb ch root0 es0 tb0) {w':World} {σ':bP} {S':Nat→Prop} {root':Int} {es':List kU} {tb':List Int} {ch':Bool} (hT:xV w' S' t tr mp σ' root' 0 ch' 0) (hL:Live σ' root' es' tb') (hH:σ'.H=σ.H) (hs:fG S S' t tr w w') (hc:ch'=false→σ'=bP.start σ'.H.dk σ'.H.lg σ'.H.pg σ'.H.old∧es'=es0):rV w' S' v t tr mp σ' root' es' tb' ch' root0 es0 tb0:=by
 obtain⟨a,b⟩:=rV.Dp h.obj h.nv h.tx.tx h.tx.tree hs
 refine⟨a,b,hT,hL,?_,hc⟩
 obtain⟨x,y,z⟩:=h.bas
 rw[←hH] at x y z
 exact⟨x,y,z⟩
theorem rV.get (h:rV w S v t tr mp σ root es tb ch root0 es0 tb0) (key:ByteArray) (hl:es.length≤4090) (hg:1≤key.size∧key.size≤128):
  Calls Tryz.prog 18 #[.pointer (some ⟨t,0,none⟩),.string key] w fun e w'=>e= .returned (.tuple #[.string ((cu (iC es) key).getD ByteArray.empty),.bool (cu (iC es) key).isSome,.int .i64 0])∧rV w' S v t tr mp σ root es tb ch root0 es0 tb0∧Below w.heap.size w w':=by
 obtain⟨a,o,r,hA⟩:=IK es key
 refine(uh t tr mp root ch σ S w es a o r tb key h.tx h.live hA hl hg).mono ?_
 rintro e w' ⟨rfl,hb⟩
 exact⟨rfl,h.below hb,hb⟩
theorem rV.usable (h:rV w S v t tr mp σ root es tb ch root0 es0 tb0) (key:ByteArray):
  Calls Tryz.prog 58 #[.pointer (some ⟨t,0,none⟩),.string key] w fun e w'=>w'=w∧e= .returned (.int .i64 (gH 0 key)):=mJ t mp tr ch 0 key w h.tx.tx
end
theorem uW.Mg {σ:bP} {root:Int} {cs:List Pr} {bs:List Int} (h:uW σ root cs bs) (hc:σ.most≤4096):∃n:Nat,root=n∧n≤4096:=by
 rcases h with ⟨rfl,_,_⟩|⟨h,ht⟩
 ·exact⟨0,rfl,aU _⟩
 ·have hb:σ.hasB root=true:=by
   cases h with
   |zero=>obtain⟨nd,h1,_⟩:=ht;exact h1.has
   |succ h=>obtain⟨nd,bs',h1,_⟩:=ht;exact h1.has
  obtain⟨n,e,h1,_⟩:=bP.kz hb
  exact⟨n,e,by omega⟩
theorem MS {es l o r:List kU} {key v:ByteArray} (hA:qP es key l o r) (h:cu (iC es) key=some v):jv (iC es) key v=iC es:=by
 rw[hA.lv] at h
 rcases hA.one with rfl|⟨e,rfl,hk⟩
 ·cases h
 ·have hv:e.v=v:=by simpa using h
  rw[hA.iv e.s v e.b,hA.eq,lX,lX,lX,aM]
  congr 1
  simp[iC,hk,hv]
theorem ByteArray.bne {a b:ByteArray} (h:a≠b):(a.toList==b.toList)=false:=by
 rw[eO]
 intro e
 exact h (NQ (CG.1 (by rw[toList_eq,toList_eq] at e;exact e)))
section
variable {w:World} {S:Nat→Prop} {v t tr:Nat} {mp:VS} {σ:bP} {root:Int} {es:List kU} {tb:List Int} {ch:Bool} {root0:Nat} {es0:List kU} {tb0:List Int}
def D9 (w:World) (S:Nat→Prop) (v t tr:Nat) (mp:VS) (σ:bP) (es:List kU) (tb:List Int) (ch':Bool) (root0:Nat) (es0:List kU) (tb0:List Int) (c W:Nat) (qs:List Pr) (w':World):Prop:=
 ∃σ' S' root' es' tb',rV w' S' v t tr mp σ' root' es' tb' ch' root0 es0 tb0∧iC es'=qs∧σ'.H=σ.H∧σ'.most=σ.most∧fG S S' t tr w w'∧Rs σ σ' tb c∧kZ σ σ' (tb++dm es) (tb'++dm es')∧(es'.length≤299→vP σ σ' W)
def Nz (w:World) (S:Nat→Prop) (v t tr:Nat) (mp:VS) (σ:bP) (ch:Bool) (root0:Nat) (es0:List kU) (tb0:List Int) (w':World):Prop:=
 ∃σ' S',IX w' S' v t tr mp σ' ch root0 es0 tb0∧σ'.H=σ.H∧fG S S' t tr w w'
theorem rV.put (h:rV w S v t tr mp σ root es tb ch root0 es0 tb0) (key value:ByteArray) (hl:es.length≤4090) (hg:1≤key.size∧key.size≤128) (hv:value.size≤49152):
  Calls Tryz.prog 14 #[.pointer (some ⟨t,0,none⟩),.string key,.string value] w fun e w'=>
   (e= .returned (.int .i64 0)∧D9 w S v t tr mp σ es tb (ch|| !decide (cu (iC es) key=some value)) root0 es0 tb0 (2*(es.length+1)+eU value) (65+eU value) (jv (iC es) key value) w')∨
   (e= .returned (.int .i64 12)∧σ.most+nh σ tb<σ.sz+2*(es.length+1)+eU value∧Nz w S v t tr mp σ ch root0 es0 tb0 w'):=by
 obtain⟨a,o,r,hA⟩:=IK es key
 by_cases hs:cu (iC es) key=some value
 ·refine(JR t tr mp root ch σ S w es a o r tb key value h.tx h.live hA hl hg hv hs).mono ?_
  rintro e w' ⟨rfl,hb⟩
  refine .inl ⟨rfl,σ,S,root,es,tb,?_,(MS hA hs).symm,rfl,rfl,fG.of (Step.of_below hb),fun _ _ t=>t,kZ.refl (fun x hx=>(h.live.all x hx).1),fun _=>(vP.refl _).more (aU _)⟩
  have:(ch|| !decide (cu (iC es) key=some value))=ch:=by simp[hs]
  rw[this]
  exact h.below hb
 ·have hc:(ch|| !decide (cu (iC es) key=some value))=true:=by simp[hs]
  rw[hc]
  have hno:∀(there:Bool) (was:ByteArray),(cu (iC es) key).isSome=there∧(cu (iC es) key).getD ByteArray.empty=was→there=true→(was.toList==value.toList)=false:=by
   rintro there was ⟨h1,h2⟩ ht
   refine ByteArray.bne fun e=>hs ?_
   subst ht
   obtain⟨x,hx⟩:=Option.isSome_iff_exists.1 h1
   rw[hx] at h2 ⊢
   rw[←e,←h2];rfl
  have hput:∀(e:Ending) (w':World),((e= .returned (.int .i64 0)∧D6 t tr mp S σ es a r tb key value w w')∨(e= .returned (.int .i64 12)∧σ.most+nh σ tb<σ.sz+2*(es.length+1)+eU value∧qO t tr mp S σ ch w w'))→
    ((e= .returned (.int .i64 0)∧D9 w S v t tr mp σ es tb true root0 es0 tb0 (2*(es.length+1)+eU value) (65+eU value) (jv (iC es) key value) w')∨(e= .returned (.int .i64 12)∧σ.most+nh σ tb<σ.sz+2*(es.length+1)+eU value∧Nz w S v t tr mp σ ch root0 es0 tb0 w')):=by
   rintro e w' (⟨rfl,σ',S',root',tb',s,nb,q1,q2,q3,q4,q5,q6⟩|⟨rfl,hr,hp⟩)
   ·exact .inl ⟨rfl,σ',S',root',_,tb',h.moved q1 q2 q3.H q4 (fun e=>by cases e),(hA.iv s value nb).symm,q3.H,q3.most,q4,q5,q3,q6⟩
   ·exact .inr ⟨rfl,hr,h.spoilt hp⟩
  by_cases hz:value.size≤63
  ·exact(Gw t tr mp root ch σ S w es a o r tb key value h.tx h.live hA hl hg hz _ _ ⟨rfl,rfl⟩ (hno _ _ ⟨rfl,rfl⟩)).mono hput
  ·exact(JS t tr mp root ch σ S w es a o r tb key value h.tx h.live hA hl hg ⟨by omega,hv⟩ _ _ ⟨rfl,rfl⟩ (hno _ _ ⟨rfl,rfl⟩)).mono hput
theorem M9 {es l o r:List kU} {key:ByteArray} (hA:qP es key l o r) (h:cu (iC es) key=none):l++r=es:=by
 rw[hA.lv] at h
 rcases hA.one with rfl|⟨e,rfl,hk⟩
 ·rw[hA.eq,dF]
 ·cases h
theorem CP (t tr:Nat) (mp:VS) (root:Int) (ch:Bool) (σ:bP) (S:Nat→Prop) (w:World) (es l o r:List kU) (tb:List Int) (key:ByteArray) (hT:xV w S t tr mp σ root 0 ch 0) (hL:Live σ root es tb) (hA:qP es key l o r) (hl:es.length≤4090) (hg:1≤key.size∧key.size≤128) (hno:cu (iC es) key=none):
  Calls Tryz.prog 19 #[.pointer (some ⟨t,0,none⟩),.string key] w fun e w'=>e= .returned (.tuple #[.bool false,.int .i64 0])∧xV w' S t tr mp σ root 0 ch 0∧fG S S t tr w w':=by
 have hne:=qV hT.tx hT.tree
 have HU:=af (mJ t mp tr ch 0 key w hT.tx)
 have hu:gH 0 key=0:=by unfold gH;rw[if_neg (by simp),if_neg (by omega)]
 rw[hu] at HU
 have hl':(gY es).length≤4090:=by rw[dK];exact hl
 have hsm:cu (gY es) key=none:=by
  rw[hA.lv] at hno
  rw[hA.ls]
  cases hq:o.head? with
  |none=>rfl
  |some e=>rw[hq] at hno;cases hno
 have HD:=af (zw t tr mp root ch 0 σ S w (gY es) tb key hT.tx hT.inv hT.tree hL.tree hl' hg (by rw[hsm];rfl) (by rw[hsm];exact aU _))
 obtain⟨n,hn40,hlk⟩:=hL.tree.look (by omega) key
 rw[hsm] at hlk
 have HT:=af hT
 have hlt:=(ah.1 hT.tx).1
 have HLK:=af hlk
 clear hT hu hno hsm hlk
 go_enter Tryz.func19,Tryz.ntmps19
 go_wp2_with (first
  |(go_at_call 58;go_must (refine HU.out.mono ?_;rintro e w1 ⟨hw1,rfl⟩;subst w1))
  |(go_at_call 59;go_must (refine HD.out.mono ?_;rintro e w1 ⟨rfl,hb1⟩;refine Stop.of ?_)))
 refine Stop.on ?_
 have hT1:=HT.out.below hb1
 have HDT:=af (yx tr mp root σ S key w1 hT1.inv hT1.tree hg.1 hg.2 n hn40 HLK.out)
 have c2:w1.cell? ⟨t,2,none⟩=some (.pointer (some ⟨tr,0,none⟩)):=by simp[World.cell?,hT1.tx,bS]
 have hlt1:=(ah.1 hT1.tx).1
 have HT1:=af hT1
 clear hT1
 go_wp2_with (first
  |(go_at_call 69;go_must (refine HDT.out.mono ?_;rintro e w2 ⟨rfl,hb2⟩;refine Stop.of ?_)))
 refine Stop.on ?_
 have hT2:=HT1.out.below hb2
 have hlt2:=(ah.1 hT2.tx).1
 have d3:w2.cell? ⟨t,3,none⟩=some (.bool ch):=by simp[World.cell?,hT2.tx,bS]
 have f3:w2.frozen? ⟨t,3,none⟩=false:=by simp[World.frozen?,hT2.tx]
 have HT2:=af hT2
 have hs2:fG S S t tr w w2:=fG.of (Step.of_below (hb1.trans (hb2.mono hb1.size)))
 have HS2:=af hs2
 clear hT2 hb1 hb2 hs2
 have fin:∀b:Bool,b=ch→xV (w2.setCell ⟨t,3,none⟩ (.bool b)) S t tr mp σ root 0 ch 0∧fG S S t tr w (w2.setCell ⟨t,3,none⟩ (.bool b)):=by
  rintro b rfl
  have hk3:Keep (· =t) w2 (w2.setCell ⟨t,3,none⟩ (.bool b)):=(Keep.refl (· =t) _).setCell (p:=⟨t,3,none⟩) (.inr rfl) _
  refine⟨⟨?_,(hk3.block tr (ah.1 HT2.out.tree).1 (fun e=>hne e.symm)).trans HT2.out.tree,HT2.out.inv.ku hk3 (fun g hg e=>HT.out.nt (e▸hg)),HT.out.nt,HT.out.ntr⟩,HS2.out.trans (fG.one hk3)⟩
  simp[World.setCell,aL,HT2.out.tx]
  rfl
 have FIN:=af fin
 clear fin
 cases ch
 all_goals
  go_wp2_with fail
  go_ret2
  exact⟨rfl,FIN.out _ rfl⟩
theorem rV.delete (h:rV w S v t tr mp σ root es tb ch root0 es0 tb0) (key:ByteArray) (hl:es.length≤4090) (hg:1≤key.size∧key.size≤128):
  Calls Tryz.prog 19 #[.pointer (some ⟨t,0,none⟩),.string key] w fun e w'=>
   (e= .returned (.tuple #[.bool (cu (iC es) key).isSome,.int .i64 0])∧D9 w S v t tr mp σ es tb (ch||(cu (iC es) key).isSome) root0 es0 tb0 (2*(es.length+1)) 65 (iW (iC es) key) w')∨
   (e= .returned (.tuple #[.bool false,.int .i64 12])∧σ.most+nh σ tb<σ.sz+2*(es.length+1)∧Nz w S v t tr mp σ ch root0 es0 tb0 w'):=by
 obtain⟨a,o,r,hA⟩:=IK es key
 cases hx:cu (iC es) key with
 |none=>
  refine(CP t tr mp root ch σ S w es a o r tb key h.tx h.live hA hl hg hx).mono ?_
  rintro e w' ⟨rfl,hT,hs⟩
  refine .inl ⟨rfl,σ,S,root,es,tb,?_,by rw[hA.dv,M9 hA hx],rfl,rfl,hs,fun _ _ t=>t,kZ.refl (fun x hx=>(h.live.all x hx).1),fun _=>(vP.refl _).more (aU _)⟩
  have:(ch||Option.isSome (none:Option ByteArray))=ch:=by simp
  rw[this]
  exact h.moved hT h.live rfl hs h.ch
 |some x=>
  refine(NZ t tr mp root ch σ S w es a o r tb key h.tx h.live hA hl hg).mono ?_
  rw[hx]
  rintro e w' (⟨rfl,σ',S',root',tb',q1,q2,q3,q4,q5,q6⟩|⟨rfl,hr,hp⟩)
  ·have hc:(ch||Option.isSome (some x))=true:=by simp
   rw[hx,hc] at q1
   rw[hc]
   exact .inl ⟨rfl,σ',S',root',_,tb',h.moved q1 q2 q3.H q4 (fun e=>by cases e),hA.dv.symm,q3.H,q3.most,q4,q5,q3,q6⟩
  ·exact .inr ⟨rfl,hr,h.spoilt hp⟩
theorem rV.scan (h:rV w S v t tr mp σ root es tb ch root0 es0 tb0) (key:ByteArray) (most:Int) (hl:es.length≤4090):
  Calls Tryz.prog 20 #[.pointer (some ⟨t,0,none⟩),.string key,.int .i64 most] w fun e w'=>∃v,e= .returned (.tuple #[v,.int .i64 0])∧aP w' S w.heap.size 127 2 v (vX (iC es) key most).length (dw (vX (iC es) key most))∧Below w.heap.size w w':=
 QC t tr mp root ch σ S w es tb key most h.tx h.live hl
theorem rV.no {key:ByteArray} (h:rV w S v t tr mp σ root es tb ch root0 es0 tb0) (hb:¬(1≤key.size∧key.size≤128)):
  Calls Tryz.prog 58 #[.pointer (some ⟨t,0,none⟩),.string key] w fun e w'=>w'=w∧e= .returned (.int .i64 1):=by
 have:=h.usable key
 unfold gH at this
 rwa [if_neg (by simp),if_pos (by omega)] at this
def K9 (w:World) (S:Nat→Prop) (v t tr:Nat) (mp:VS) (σ:bP) (es:List kU) (tb:List Int) (ch:Bool) (root0:Nat) (es0:List kU) (tb0:List Int) (e:Ending) (w':World):Prop:=
 ∃S',fG S S' t tr w w'∧
  ((ch=false∧es=es0∧e= .returned (.tuple #[.int .i64 ((σ.H.lg.last:Int) - 1),.int .i64 0])∧vO w' S' v mp.pg mp.d σ.H.dk σ.H.lg σ.H.pg σ.H.old root0 es0 tb0)∨
   (ch=true∧(∃r,(σ.sealed r).im.ks≠[]∧σ.H.pg.zZ (σ.sealed r).im∧(σ.sealed r).im.Ok (σ.H.pg.blocks σ.H.dk)∧(σ.sealed r).im.ks.length+countB σ.H.old σ.most≤σ.tk+2)∧e= .returned (.tuple #[.int .i64 0,.int .i64 13])∧vO w' S' v mp.pg mp.d σ.H.dk σ.H.lg σ.H.pg σ.H.old root0 es0 tb0)∨
   (ch=true∧e= .returned (.tuple #[.int .i64 (σ.H.lg.last:Int),.int .i64 0])∧∃(σ':Dk) (l':Lg) (p':Pg) (root':Nat),vO w' S' v mp.pg mp.d σ' l' p' σ.now root' es tb∧l'.last=σ.H.lg.last+1∧p'.blocks σ'=σ.most∧p'.ring=σ.H.pg.ring))
theorem rV.commit (h:rV w S v t tr mp σ root es tb ch root0 es0 tb0) (hll:σ.H.lg.last<100000000000):
  Calls Tryz.prog 15 #[.pointer (some ⟨t,0,none⟩)] w (K9 w S v t tr mp σ es tb ch root0 es0 tb0):=by
 have hV:=h.bas.vi
 have hI:=h.tx.inv
 obtain⟨hpo,hdo,hlo⟩:σ.H.pg.Ok σ.H.dk σ.H.lg∧σ.H.dk.Ok∧σ.H.lg.Ok:=by obtain⟨Sp,T,q,_⟩:=hI;exact q.pg.ok
 have hcap:σ.H.dk.waits.length≤90000:=by have a:=hV.wt;have b:=hlo.us;have c:=hlo.hi;omega
 have hstep:∀{S':Nat→Prop} {w':World},Keep (fun g=>S g∨g=t) w w'→(∀g,S' g→S g∨w.heap.size≤g)→fG S S' t tr w w':=fun a b=>⟨a.mono (fun g _ e=>e.imp id .inl),b⟩
 have hobj:∀{S':Nat→Prop} {w':World},fG S S' t tr w w'→w'.heap[v]? =some (.cells #[.pointer (some ⟨mp.pg,0,none⟩)] 102 (0,0))∧¬S' v:=fun a=>rV.Dp h.obj h.nv h.tx.tx h.tx.tree a
 cases ch with
 |false=>
  obtain⟨h1,h2⟩:=h.ch rfl
  have him:σ.im=Im.none:=by rw[h1];rfl
  have hc:σ.H.pg.commit σ.H.dk σ.H.lg σ.im=(σ.H.dk,σ.H.lg,σ.H.pg,σ.H.lg.last,0):=by
   rcases vM hV hpo hlo (im:=σ.im) (by obtain⟨Sp,T,q,_⟩:=hI;obtain⟨_,q2⟩:=q.tx;have hm:=q.ok.most;rw[←hm];exact q2.ok) with ⟨_,q⟩|⟨q,_⟩|⟨q,_⟩
   ·exact q
   ·rw[him] at q;exact absurd rfl q
   ·rw[him] at q;exact absurd rfl q
  refine(CR t tr mp root σ S w h.tx hV.ld hcap (by omega) (by rw[hc];show σ.H.lg.last≤_;omega)).mono ?_
  rintro e w' ⟨rfl,S',hp,_,_,hk,hn⟩
  rw[hc] at hp ⊢
  have hs:=hstep hk hn
  obtain⟨a,b⟩:=hobj hs
  exact⟨S',hs,.inl ⟨rfl,h2,rfl,a,b,hp,hV,h.bas.base,h.bas.live⟩⟩
 |true=>
  obtain⟨r,hr,hr2⟩:=h.live.tree.Mg hI.ok.cap
  obtain⟨s1,s2,s3⟩:=J6 hI r
  have hTx:=h.tx
  rw[hr] at hTx
  have hlaw:=vM hV hpo hlo s1
  have hk0:(σ.H.pg.commit σ.H.dk σ.H.lg (σ.sealed r).im).2.2.2.1≤1000000000000:=by
   rcases hlaw with ⟨_,q⟩|⟨_,_,q⟩|⟨_,_,_,_,_,q,_⟩
   ·rw[q];show σ.H.lg.last≤_;omega
   ·rw[q];exact aU _
   ·rw[q];show σ.H.lg.last+1≤_;omega
  refine(CQ t tr mp r σ S w hTx hr2 hV.ld hcap (by omega) hk0).mono ?_
  rintro e w' ⟨rfl,S',hp,_,_,hk,hn⟩
  have hs:=hstep hk hn
  obtain⟨a,b⟩:=hobj hs
  refine⟨S',hs,.inr ?_⟩
  rcases hlaw with ⟨q,_⟩|⟨q1,q2,q⟩|⟨_,_,σ',l',p',q,V',e1,e2,e3,e4,e5⟩
  ·exact absurd q s3
  ·rw[q] at hp ⊢
   exact .inl ⟨rfl,⟨r,q1,q2,s1,s2⟩,rfl,a,b,hp,hV,h.bas.base,h.bas.live⟩
  ·rw[q] at hp ⊢
   have hbl:p'.blocks σ'=σ.most:=by rw[hI.ok.most];unfold Pg.blocks;rw[e2,e4]
   obtain⟨b1,b2⟩:=E9 hI.ok (by have:=h.live;rwa [hr] at this) (by omega) hbl V' e5
   refine .inr ⟨rfl,?_,σ',l',p',r,⟨a,b,hp,V',b1,b2⟩,e1,hbl,e3⟩
   show Ending.returned (.tuple #[.int .i64 (((σ.H.lg.last+1:Nat):Int) - 1),.int .i64 0])=_
   rw[show ((σ.H.lg.last+1:Nat):Int) - 1=σ.H.lg.last by omega]
end
def kG (kv:List Pr):Nat:=(kv.map fun p=>eU p.2).sum
theorem ValAt.cost {σ:bP} {s v:ByteArray} {b:List Int} (h:ValAt σ s v b):b.length=eU v:=by
 rcases h with ⟨_,h2,rfl⟩|⟨hd,rs,_,⟨_,h2⟩,h3,rfl⟩
 ·unfold eU;rw[if_pos h2];rfl
 ·unfold eU
  rw[if_neg (by omega)]
  have e1:=h3.hd.len
  have e2:v.data.toList.length=v.size:=by show v.data.toList.length=v.data.size;simp
  rw[e2] at e1
  simp[jE,e1];omega
theorem xR {σ:bP}:∀{es:List kU},(∀e∈es,ValAt σ e.s e.v e.b)→(dm es).length=kG (iC es)
 |[],_=>rfl
 |e::es,h=>by
  have h1:=(h e (aZ ..)).cost
  have h2:=xR (es:=es) fun x hx=>h x (aW _ hx)
  rw[Cy,av,h1,h2];rfl
def oI (w0:iZ) (v N R dn u:Nat) (kv:List Pr) (w:World):Prop:=
 ∃S pg d σ l p f root es tb,vO w S v pg d σ l p f root es tb∧VB w0 w S∧¬w0.F v∧p.blocks σ=N∧p.ring=R∧l.last=dn+1∧iC es=kv∧(tb++dm es).length=u
def kH (w0:iZ) (v t N R dn u:Nat) (kv0 kv:List Pr) (ch:Bool) (P:Nat) (w:World):Prop:=
 ∃S tr mp σ root es tb root0 es0 tb0,rV w S v t tr mp σ root es tb ch root0 es0 tb0∧VB w0 w S∧¬w0.F v∧¬w0.F t∧¬w0.F tr∧σ.most=N∧σ.H.pg.ring=R∧σ.H.lg.last=dn+1∧iC es=kv∧iC es0=kv0∧(tb0++dm es0).length=u∧σ.tk≤P
def qE (w0:iZ) (v t N R dn u:Nat) (kv0:List Pr) (w:World):Prop:=
 ∃S tr mp σ ch root0 es0 tb0,IX w S v t tr mp σ ch root0 es0 tb0∧VB w0 w S∧¬w0.F v∧¬w0.F t∧¬w0.F tr∧σ.H.pg.blocks σ.H.dk=N∧σ.H.pg.ring=R∧σ.H.lg.last=dn+1∧iC es0=kv0∧(tb0++dm es0).length=u
def Rc (t:Nat) (w:World):Prop:=∃mp ch er,w.heap[t]? =some (.cells (bS mp none ch er) 118 (0,0))
section
variable {w0:iZ} {w:World} {v t N R dn u P:Nat} {kv kv0:List Pr} {ch:Bool}
theorem oI.mK {w0:World} (h:oI w0 v N R dn u kv w):Below w0.heap.size w0 w:=by obtain⟨_,_,_,_,_,_,_,_,_,_,_,h,_⟩:=h;exact h.mK
theorem kH.mK {w0:World} (h:kH w0 v t N R dn u kv0 kv ch P w):Below w0.heap.size w0 w:=by obtain⟨_,_,_,_,_,_,_,_,_,_,_,h,_⟩:=h;exact h.mK
theorem qE.mK {w0:World} (h:qE w0 v t N R dn u kv0 w):Below w0.heap.size w0 w:=by obtain⟨_,_,_,_,_,_,_,_,_,h,_⟩:=h;exact h.mK
theorem oI.below {w':World} (h:oI w0 v N R dn u kv w) (hb:Below w.heap.size w w'):oI w0 v N R dn u kv w':=by
 obtain⟨S,pg,d,σ,l,p,f,root,es,tb,hA,hB,h1⟩:=h
 exact⟨S,pg,d,σ,l,p,f,root,es,tb,hA.below hb,hB.below hb,h1⟩
theorem kH.below {w':World} (h:kH w0 v t N R dn u kv0 kv ch P w) (hb:Below w.heap.size w w'):kH w0 v t N R dn u kv0 kv ch P w':=by
 obtain⟨S,tr,mp,σ,root,es,tb,root0,es0,tb0,hA,hB,h1⟩:=h
 exact⟨S,tr,mp,σ,root,es,tb,root0,es0,tb0,hA.below hb,hB.below hb,h1⟩
theorem IX.below {S:Nat→Prop} {tr:Nat} {mp:VS} {σ:bP} {root0:Nat} {es0:List kU} {tb0:List Int} {w':World} (h:IX w S v t tr mp σ ch root0 es0 tb0) (hb:Below w.heap.size w w'):IX w' S v t tr mp σ ch root0 es0 tb0:=by
 obtain⟨a,b,⟨r,e,c⟩,d⟩:=h
 exact⟨(hb.block v (ah.1 a).1).trans a,b,⟨r,e,c.below hb⟩,d⟩
theorem qE.below {w':World} (h:qE w0 v t N R dn u kv0 w) (hb:Below w.heap.size w w'):qE w0 v t N R dn u kv0 w':=by
 obtain⟨S,tr,mp,σ,ch,root0,es0,tb0,hA,hB,h1⟩:=h
 exact⟨S,tr,mp,σ,ch,root0,es0,tb0,hA.below hb,hB.below hb,h1⟩
theorem oI.make (w0:iZ) (w:World) (n:Nat) (log:Nat) (d:Nat) (S:Nat→Prop) (hb:VB w0 w S) (h:qF w S d (Dk.new n)) (h1:6≤log) (h2:log+8≤n):
  Calls Tryz.prog 11 #[.pointer (some ⟨d,0,none⟩),.int .i64 log] w fun e w'=>∃v,e= .returned (.tuple #[.pointer (some ⟨v,0,none⟩),.int .i64 0])∧oI w0 v (n - log) (log - 1) 0 0 [] w':=by
 refine(O1 d (Dk.new n) S log w h ⟨rfl,rfl⟩ h1 h2 (aU _)).mono ?_
 rintro e w' ⟨v,pg,σ',l',p',S',rfl,hobj,hn,hlo,hp,hN,hs⟩
 refine⟨v,rfl,S',pg,d,σ',l',p',two,0,[],[],⟨hobj,hn,hp,hN.vi,hN.base,OV.live⟩,hb.step hs,hb.new hlo,?_,hN.ring,hN.last,rfl,rfl⟩
 unfold Pg.blocks
 rw[hN.n,hN.skip];rfl
theorem oI.begin (h:oI w0 v N R dn u kv w):
  Calls Tryz.prog 13 #[.pointer (some ⟨v,0,none⟩)] w fun e w'=>∃t,e= .returned (.tuple #[.pointer (some ⟨t,0,none⟩),.int .i64 0])∧kH w0 v t N R dn u kv kv false (2+u) w':=by
 obtain⟨S,pg,d,σ,l,p,f,root,es,tb,hA,hB,h1,h2,h3,h4,h5,h6⟩:=h
 refine hA.begin.mono ?_
 rintro e w' ⟨t,tr,mp,S',rfl,_,_,hT,hs,hl1,hl2⟩
 have hok:=bP.Ok.start hA.pgr.ok.1 hA.pgr.ok.2.1 hA.base.pd hA.base.sd hA.base.two hA.base.hi hA.base.f0 hA.base.f1
 have hc:countB f (p.blocks σ)=2+(tb++dm es).length:=hA.live.own.count hok hA.live.all
 exact⟨t,rfl,S',tr,mp,_,root,es,tb,root,es,tb,hT,hB.step hs,h1,hB.new hl1,hB.new hl2,h2,h3,h4,h5,h5,h6,by rw[←h6,←hc];exact aC _⟩
theorem oI.used (h:oI w0 v N R dn u kv w):
  Calls Tryz.prog 16 #[.pointer (some ⟨v,0,none⟩)] w fun e w'=>e= .returned (.tuple #[.int .i64 ((2+u:Nat):Int),.int .i64 0])∧oI w0 v N R dn u kv w':=by
 obtain⟨S,pg,d,σ,l,p,f,root,es,tb,hA,hB,h1,h2,h3,h4,h5,h6⟩:=h
 refine hA.used.mono ?_
 rintro e w' ⟨rfl,S',hV,hs⟩
 rw[h6]
 exact⟨rfl,S',pg,d,σ,l,p,f,root,es,tb,hV,hB.step hs,h1,h2,h3,h4,h5,h6⟩
theorem oI.check (h:oI w0 v N R dn u kv w) (hl:kv.length≤4090):
  Calls Tryz.prog 34 #[.pointer (some ⟨v,0,none⟩)] w fun e w'=>e= .returned (.int .i64 0)∧oI w0 v N R dn u kv w':=by
 obtain⟨S,pg,d,σ,l,p,f,root,es,tb,hA,hB,h1,h2,h3,h4,h5,h6⟩:=h
 refine(hA.check (by rw[←gZ,h5];exact hl)).mono ?_
 rintro e w' ⟨rfl,S',hV,hs⟩
 exact⟨rfl,S',pg,d,σ,l,p,f,root,es,tb,hV,hB.step hs,h1,h2,h3,h4,h5,h6⟩
theorem oI.blocks (h:oI w0 v N R dn u kv w):
  Calls Tryz.prog 24 #[.pointer (some ⟨v,0,none⟩)] w fun e w'=>e= .returned (.int .i64 N)∧oI w0 v N R dn u kv w':=by
 obtain⟨S,pg,d,σ,l,p,f,root,es,tb,hA,hB,h1,h2,h3,h4,h5,h6⟩:=h
 refine hA.blocks.mono ?_
 rintro e w' ⟨rfl,hV,hb⟩
 exact⟨by rw[h2],S,pg,d,σ,l,p,f,root,es,tb,hV,hB.below hb,h1,h2,h3,h4,h5,h6⟩
theorem oI.done (h:oI w0 v N R dn u kv w) (hd:dn≤100000000):
  Calls Tryz.prog 21 #[.pointer (some ⟨v,0,none⟩)] w fun e w'=>e= .returned (.int .i64 dn)∧w'=w:=by
 obtain⟨S,pg,d,σ,l,p,f,root,es,tb,hA,hB,h1,h2,h3,h4,h5,h6⟩:=h
 refine(hA.done (by omega)).mono ?_
 rintro e w' ⟨rfl,rfl⟩
 exact⟨by rw[show (l.last:Int) - 1=dn by omega],rfl⟩
theorem kH.done (h:kH w0 v t N R dn u kv0 kv ch P w) (hd:dn≤100000000):
  Calls Tryz.prog 21 #[.pointer (some ⟨v,0,none⟩)] w fun e w'=>e= .returned (.int .i64 dn)∧w'=w:=by
 obtain⟨S,tr,mp,σ,root,es,tb,root0,es0,tb0,hA,hB,h1,h2,h3,h4,h5,h6,h7,h8⟩:=h
 obtain⟨Sp,T,hI,_⟩:=hA.tx.inv
 refine(LG v mp.pg mp.d _ _ _ _ Sp w hA.obj hI.pg (by omega)).mono ?_
 rintro e w' ⟨rfl,rfl⟩
 exact⟨by rw[show (σ.H.lg.last:Int) - 1=dn by omega],rfl⟩
theorem vO.ku {M S:Nat→Prop} {w':World} {pg d:Nat} {σ:Dk} {l:Lg} {p:Pg} {f:Nat→Bool} {root:Nat} {es:List kU} {tb:List Int} (h:vO w S v pg d σ l p f root es tb) (hk:Keep M w w') (hM:∀g,S g∨g=v→¬M g):vO w' S v pg d σ l p f root es tb:=
 ⟨(hk.block v (ah.1 h.obj).1 (hM v (.inr rfl))).trans h.obj,h.nv,h.pgr.keep hk (fun g hg=>hM g (.inl hg)),h.vi,h.base,h.live⟩
theorem rV.ku {M S:Nat→Prop} {w':World} {tr:Nat} {mp:VS} {σ:bP} {root:Int} {es:List kU} {tb:List Int} {root0:Nat} {es0:List kU} {tb0:List Int} (h:rV w S v t tr mp σ root es tb ch root0 es0 tb0) (hk:Keep M w w') (hM:∀g,S g∨g=v∨g=t∨g=tr→¬M g):rV w' S v t tr mp σ root es tb ch root0 es0 tb0:=
 ⟨(hk.block v (ah.1 h.obj).1 (hM v (.inr (.inl rfl)))).trans h.obj,h.nv,h.tx.keep hk (fun g hg=>hM g (hg.imp id .inr)),h.live,h.bas,h.ch⟩
theorem IX.ku {M S:Nat→Prop} {w':World} {tr:Nat} {mp:VS} {σ:bP} {root0:Nat} {es0:List kU} {tb0:List Int} (h:IX w S v t tr mp σ ch root0 es0 tb0) (hk:Keep M w w') (hM:∀g,S g∨g=v∨g=t∨g=tr→¬M g):IX w' S v t tr mp σ ch root0 es0 tb0:=by
 obtain⟨a,b,⟨r,e,c⟩,d⟩:=h
 exact⟨(hk.block v (ah.1 a).1 (hM v (.inr (.inl rfl)))).trans a,b,⟨r,e,c.keep hk (fun g hg=>hM g (hg.imp id .inr))⟩,d⟩
def iZ.next (b:iZ) (w w':World):iZ:=⟨fun g=>b.F g∨(w.heap.size≤g∧g<w'.heap.size),w'⟩
theorem VB.next {S M:Nat→Prop} {w':World} (h:VB w0 w S) (hk:Keep M w w') (hs:∀g,S g→g<w.heap.size):VB (w0.next w w') w' S:=
 ⟨rfl,rfl,rfl,aC _,fun _ _=>rfl,fun g hg=>hg.elim (fun e=>ak (h.fs g e) (aH h.size hk.size)) (fun e=>e.2),fun g hg e=>e.elim (h.lo g hg) (fun e=>absurd (hs g hg) (aY.2 e.1))⟩
theorem iZ.no {w':World} {g:Nat} (h:¬w0.F g) (hg:g<w.heap.size):¬(w0.next w w').F g:=fun e=>e.elim h (fun e=>absurd hg (aY.2 e.1))
theorem oI.next {M:Nat→Prop} {w':World} (h:oI w0 v N R dn u kv w) (hk:Keep M w w') (hM:∀g,M g→w0.F g):oI (w0.next w w') v N R dn u kv w':=by
 obtain⟨S,pg,d,σ,l,p,f,root,es,tb,hA,hB,h1,h2⟩:=h
 have hl:=(ah.1 hA.obj).1
 exact⟨S,pg,d,σ,l,p,f,root,es,tb,hA.ku hk (fun g hg e=>hg.elim (fun x=>hB.lo g x (hM g e)) (fun x=>h1 (x▸hM g e))),hB.next hk hA.pgr.sub,iZ.no h1 hl,h2⟩
theorem kH.next {M:Nat→Prop} {w':World} (h:kH w0 v t N R dn u kv0 kv ch P w) (hk:Keep M w w') (hM:∀g,M g→w0.F g):kH (w0.next w w') v t N R dn u kv0 kv ch P w':=by
 obtain⟨S,tr,mp,σ,root,es,tb,root0,es0,tb0,hA,hB,h1,h2,h3,h4⟩:=h
 have hl:=(ah.1 hA.obj).1
 have hl2:=(ah.1 hA.tx.tx).1
 have hl3:=(ah.1 hA.tx.tree).1
 refine⟨S,tr,mp,σ,root,es,tb,root0,es0,tb0,hA.ku hk (fun g hg e=> ?_),hB.next hk hA.tx.inv.sub,iZ.no h1 hl,iZ.no h2 hl2,iZ.no h3 hl3,h4⟩
 rcases hg with x|x|x|x
 ·exact hB.lo g x (hM g e)
 ·exact h1 (x▸hM g e)
 ·exact h2 (x▸hM g e)
 ·exact h3 (x▸hM g e)
theorem qE.next {M:Nat→Prop} {w':World} (h:qE w0 v t N R dn u kv0 w) (hk:Keep M w w') (hM:∀g,M g→w0.F g):qE (w0.next w w') v t N R dn u kv0 w':=by
 obtain⟨S,tr,mp,σ,ch,root0,es0,tb0,hA,hB,h1,h2,h3,h4⟩:=h
 have hl:=(ah.1 hA.obj).1
 obtain⟨_,_,hx⟩:=hA.tx
 have hl2:=(ah.1 hx.tx).1
 have hl3:=(ah.1 hx.tree).1
 refine⟨S,tr,mp,σ,ch,root0,es0,tb0,hA.ku hk (fun g hg e=> ?_),hB.next hk hx.inv.sub,iZ.no h1 hl,iZ.no h2 hl2,iZ.no h3 hl3,h4⟩
 rcases hg with x|x|x|x
 ·exact hB.lo g x (hM g e)
 ·exact h1 (x▸hM g e)
 ·exact h2 (x▸hM g e)
 ·exact h3 (x▸hM g e)
theorem oI.block (h:oI w0 v N R dn u kv w) {g:Nat} (hg:w0.F g):w.heap[g]? =w0.w.heap[g]? :=by obtain⟨_,_,_,_,_,_,_,_,_,_,_,h,_⟩:=h;exact h.block g hg
theorem kH.block (h:kH w0 v t N R dn u kv0 kv ch P w) {g:Nat} (hg:w0.F g):w.heap[g]? =w0.w.heap[g]? :=by obtain⟨_,_,_,_,_,_,_,_,_,_,_,h,_⟩:=h;exact h.block g hg
theorem qE.block (h:qE w0 v t N R dn u kv0 w) {g:Nat} (hg:w0.F g):w.heap[g]? =w0.w.heap[g]? :=by obtain⟨_,_,_,_,_,_,_,_,_,h,_⟩:=h;exact h.block g hg
theorem kH.sizes {S:Nat→Prop} {tr:Nat} {mp:VS} {σ:bP} {root:Int} {es:List kU} {tb:List Int} {root0:Nat} {es0:List kU} {tb0:List Int} (h:rV w S v t tr mp σ root es tb ch root0 es0 tb0):
  σ.sz≤2+(tb0++dm es0).length+nh σ tb+kG (iC es)∧countB σ.H.old σ.most=2+(tb0++dm es0).length:=by
 have hI:=h.tx.inv
 have e1:=h.live.own.size
 have hm:=hI.ok.most
 obtain⟨hpo,hdo,hlo⟩:σ.H.pg.Ok σ.H.dk σ.H.lg∧σ.H.dk.Ok∧σ.H.lg.Ok:=by obtain⟨Sp,T,q,_⟩:=hI;exact q.pg.ok
 have hB:=h.bas.base
 have hok:=bP.Ok.start hpo hdo hB.pd hB.sd hB.two hB.hi hB.f0 hB.f1
 have hc:countB σ.H.old (σ.H.pg.blocks σ.H.dk)=2+(tb0++dm es0).length:=h.bas.live.own.count hok h.bas.live.all
 rw[←hm] at hc
 rw[nR,hc] at e1
 have e2:=qi σ (dm es)
 rw[xR h.live.val] at e2
 exact⟨by omega,hc⟩
theorem kH.get (h:kH w0 v t N R dn u kv0 kv ch P w) (key:ByteArray) (hl:kv.length≤4090) (hg:1≤key.size∧key.size≤128):
  Calls Tryz.prog 18 #[.pointer (some ⟨t,0,none⟩),.string key] w fun e w'=>e= .returned (.tuple #[.string ((cu kv key).getD ByteArray.empty),.bool (cu kv key).isSome,.int .i64 0])∧kH w0 v t N R dn u kv0 kv ch P w':=by
 obtain⟨S,tr,mp,σ,root,es,tb,root0,es0,tb0,hA,hB,h1,h2,h3,h4,h5,h6,h7,h8⟩:=h
 refine(hA.get key (by rw[←gZ,h7];exact hl) hg).mono ?_
 rintro e w' ⟨rfl,hT,hb⟩
 exact⟨by rw[h7],S,tr,mp,σ,root,es,tb,root0,es0,tb0,hT,hB.below hb,h1,h2,h3,h4,h5,h6,h7,h8⟩
theorem kH.put (h:kH w0 v t N R dn u kv0 kv ch P w) (key value:ByteArray) (hl:kv.length≤4090) (hg:1≤key.size∧key.size≤128) (hv:value.size≤49152) (hP:2+u+kG kv+2*(kv.length+1)+eU value≤P):
  Calls Tryz.prog 14 #[.pointer (some ⟨t,0,none⟩),.string key,.string value] w fun e w'=>
   (e= .returned (.int .i64 0)∧kH w0 v t N R dn u kv0 (jv kv key value) (ch|| !decide (cu kv key=some value)) P w')∨
   (e= .returned (.int .i64 12)∧N<2+u+kG kv+2*(kv.length+1)+eU value∧qE w0 v t N R dn u kv0 w'):=by
 obtain⟨S,tr,mp,σ,root,es,tb,root0,es0,tb0,hA,hB,h1,h2,h3,h4,h5,h6,h7,h8,h9,h10⟩:=h
 obtain⟨e1,e2⟩:=kH.sizes hA
 have hel:es.length=kv.length:=by rw[←h7,gZ]
 rw[h9,h7] at e1
 have hm:=hA.tx.inv.ok.most
 refine(hA.put key value (by omega) hg hv).mono ?_
 rintro e w' (⟨rfl,σ',S',root',es',tb',q1,q2,q3,q4,q5,q6,q7,_⟩|⟨rfl,q0,σ',S',q1,q2,q3⟩)
 ·refine .inl ⟨rfl,S',tr,mp,σ',root',es',tb',root0,es0,tb0,?_,hB.uO h2 h3 q5,h1,h2,h3,by rw[q4,h4],by rw[q3,h5],by rw[q3,h6],by rw[q2,h7],h8,h9,q6 P (by omega) h10⟩
  rw[h7] at q1;exact q1
 ·exact .inr ⟨rfl,by omega,S',tr,mp,σ',ch,root0,es0,tb0,q1,hB.uO h2 h3 q3,h1,h2,h3,by rw[q2,←hm,h4],by rw[q2,h5],by rw[q2,h6],h8,h9⟩
theorem kH.Mq (h:kH w0 v t N R dn u kv0 kv ch P w) (key value:ByteArray) (hl:kv.length≤4090) (hg:1≤key.size∧key.size≤128) (hv:value.size≤49152) (hi:(jv kv key value).length≤299):
  Calls Tryz.prog 14 #[.pointer (some ⟨t,0,none⟩),.string key,.string value] w fun e w'=>
   (e= .returned (.int .i64 0)∧kH w0 v t N R dn u kv0 (jv kv key value) (ch|| !decide (cu kv key=some value)) (P+(65+eU value)) w')∨
   (e= .returned (.int .i64 12)∧N<2+u+kG kv+2*(kv.length+1)+eU value∧qE w0 v t N R dn u kv0 w'):=by
 obtain⟨S,tr,mp,σ,root,es,tb,root0,es0,tb0,hA,hB,h1,h2,h3,h4,h5,h6,h7,h8,h9,h10⟩:=h
 obtain⟨e1,e2⟩:=kH.sizes hA
 have hel:es.length=kv.length:=by rw[←h7,gZ]
 rw[h9,h7] at e1
 have hm:=hA.tx.inv.ok.most
 have hsz:=hA.tx.inv.ok.szk
 refine(hA.put key value (by omega) hg hv).mono ?_
 rintro e w' (⟨rfl,σ',S',root',es',tb',q1,q2,q3,q4,q5,q6,q7,q8⟩|⟨rfl,q0,σ',S',q1,q2,q3⟩)
 ·refine .inl ⟨rfl,S',tr,mp,σ',root',es',tb',root0,es0,tb0,?_,hB.uO h2 h3 q5,h1,h2,h3,by rw[q4,h4],by rw[q3,h5],by rw[q3,h6],by rw[q2,h7],h8,h9,(q8 (by rw[←gZ,q2,h7];exact hi)).2 _ (by omega) (by omega)⟩
  rw[h7] at q1;exact q1
 ·exact .inr ⟨rfl,by omega,S',tr,mp,σ',ch,root0,es0,tb0,q1,hB.uO h2 h3 q3,h1,h2,h3,by rw[q2,←hm,h4],by rw[q2,h5],by rw[q2,h6],h8,h9⟩
theorem kH.delete (h:kH w0 v t N R dn u kv0 kv ch P w) (key:ByteArray) (hl:kv.length≤4090) (hg:1≤key.size∧key.size≤128) (hi:(iW kv key).length≤299):
  Calls Tryz.prog 19 #[.pointer (some ⟨t,0,none⟩),.string key] w fun e w'=>
   (e= .returned (.tuple #[.bool (cu kv key).isSome,.int .i64 0])∧kH w0 v t N R dn u kv0 (iW kv key) (ch||(cu kv key).isSome) (P+65) w')∨
   (e= .returned (.tuple #[.bool false,.int .i64 12])∧N<2+u+kG kv+2*(kv.length+1)∧qE w0 v t N R dn u kv0 w'):=by
 obtain⟨S,tr,mp,σ,root,es,tb,root0,es0,tb0,hA,hB,h1,h2,h3,h4,h5,h6,h7,h8,h9,h10⟩:=h
 obtain⟨e1,e2⟩:=kH.sizes hA
 have hel:es.length=kv.length:=by rw[←h7,gZ]
 rw[h9,h7] at e1
 have hm:=hA.tx.inv.ok.most
 have hsz:=hA.tx.inv.ok.szk
 have:=hA.delete key (by omega) hg
 rw[h7] at this
 refine this.mono ?_
 rintro e w' (⟨rfl,σ',S',root',es',tb',q1,q2,q3,q4,q5,q6,q7,q8⟩|⟨rfl,q0,σ',S',q1,q2,q3⟩)
 ·exact .inl ⟨rfl,S',tr,mp,σ',root',es',tb',root0,es0,tb0,q1,hB.uO h2 h3 q5,h1,h2,h3,by rw[q4,h4],by rw[q3,h5],by rw[q3,h6],q2,h8,h9,(q8 (by rw[←gZ,q2];exact hi)).2 _ (by omega) (by omega)⟩
 ·exact .inr ⟨rfl,by omega,S',tr,mp,σ',ch,root0,es0,tb0,q1,hB.uO h2 h3 q3,h1,h2,h3,by rw[q2,←hm,h4],by rw[q2,h5],by rw[q2,h6],h8,h9⟩
theorem kH.Rj (h:kH w0 v t N R dn u kv0 kv ch P w):u≤2*kv0.length+kG kv0:=by
 obtain⟨S,tr,mp,σ,root,es,tb,root0,es0,tb0,hA,hB,h1,h2,h3,h4,h5,h6,h7,h8,h9,h10⟩:=h
 have h:=hA.bas.live.tree.count
 rw[←h9,av,xR hA.bas.live.val,←h8,gZ]
 rw[dK] at h
 omega
theorem kH.abort (h:kH w0 v t N R dn u kv0 kv ch P w):
  Calls Tryz.prog 32 #[.pointer (some ⟨t,0,none⟩)] w fun e w'=>e= .returned (.tuple #[])∧oI w0 v N R dn u kv0 w'∧Rc t w':=by
 obtain⟨S,tr,mp,σ,root,es,tb,root0,es0,tb0,hA,hB,h1,h2,h3,h4,h5,h6,h7,h8,h9,h10⟩:=h
 have hm:=hA.tx.inv.ok.most
 refine hA.abort.mono ?_
 rintro e w' ⟨rfl,S',hV,hs,hc,_⟩
 have hB':=hB.uO h2 h3 hs
 exact⟨rfl,⟨S',_,_,_,_,_,_,root0,es0,tb0,hV,hB',h1,by rw[←hm,h4],h5,h6,h8,h9⟩,mp,ch,0,hc⟩
theorem qE.abort (h:qE w0 v t N R dn u kv0 w):
  Calls Tryz.prog 32 #[.pointer (some ⟨t,0,none⟩)] w fun e w'=>e= .returned (.tuple #[])∧oI w0 v N R dn u kv0 w':=by
 obtain⟨S,tr,mp,σ,ch,root0,es0,tb0,hA,hB,h1,h2,h3,h4,h5,h6,h7,h8⟩:=h
 refine hA.abort.mono ?_
 rintro e w' ⟨rfl,S',hV,hs⟩
 exact⟨rfl,S',_,_,_,_,_,_,root0,es0,tb0,hV,hB.uO h2 h3 hs,h1,h4,h5,h6,h7,h8⟩
theorem qE.commit (h:qE w0 v t N R dn u kv0 w):
  Calls Tryz.prog 15 #[.pointer (some ⟨t,0,none⟩)] w fun e w'=>e= .returned (.tuple #[.int .i64 0,.int .i64 12])∧oI w0 v N R dn u kv0 w':=by
 obtain⟨S,tr,mp,σ,ch,root0,es0,tb0,hA,hB,h1,h2,h3,h4,h5,h6,h7,h8⟩:=h
 refine hA.commit.mono ?_
 rintro e w' ⟨rfl,S',hV,hs⟩
 exact⟨rfl,S',_,_,_,_,_,_,root0,es0,tb0,hV,hB.uO h2 h3 hs,h1,h4,h5,h6,h7,h8⟩
theorem qE.usable (h:qE w0 v t N R dn u kv0 w) (key:ByteArray):
  Calls Tryz.prog 58 #[.pointer (some ⟨t,0,none⟩),.string key] w fun e w'=>w'=w∧e= .returned (.int .i64 12):=by
 obtain⟨S,tr,mp,σ,ch,root0,es0,tb0,hA,_⟩:=h
 exact hA.usable key
theorem kH.no {key:ByteArray} (h:kH w0 v t N R dn u kv0 kv ch P w) (hb:¬(1≤key.size∧key.size≤128)):
  Calls Tryz.prog 58 #[.pointer (some ⟨t,0,none⟩),.string key] w fun e w'=>w'=w∧e= .returned (.int .i64 1):=by
 obtain⟨S,tr,mp,σ,root,es,tb,root0,es0,tb0,hA,_⟩:=h
 exact hA.no hb
theorem kH.busy (h:kH w0 v t N R dn u kv0 kv ch P w):
  Calls Tryz.prog 13 #[.pointer (some ⟨v,0,none⟩)] w fun e w'=>w'=w∧e= .returned (.tuple #[.pointer none,.int .i64 6]):=by
 obtain⟨S,tr,mp,σ,root,es,tb,root0,es0,tb0,hA,_⟩:=h
 obtain⟨Sp,T,hI,_⟩:=hA.tx.inv
 exact xZ v mp.pg mp.d _ _ _ mp.tx Sp w hA.obj hI.pg hI.ok.live
def Cc (k:Nat):Nat:=(16+520*k+511)/512
theorem kH.commit (h:kH w0 v t N R dn u kv0 kv ch P w) (hd:dn≤100000000):
  Calls Tryz.prog 15 #[.pointer (some ⟨t,0,none⟩)] w fun e w'=>
   (ch=false∧kv=kv0∧e= .returned (.tuple #[.int .i64 dn,.int .i64 0])∧oI w0 v N R dn u kv0 w')∨
   (ch=true∧(R<Cc (P - u)∨1024<P - u)∧e= .returned (.tuple #[.int .i64 0,.int .i64 13])∧oI w0 v N R dn u kv0 w')∨
   (ch=true∧e= .returned (.tuple #[.int .i64 ((dn+1:Nat):Int),.int .i64 0])∧∃u',oI w0 v N R (dn+1) u' kv w'):=by
 obtain⟨S,tr,mp,σ,root,es,tb,root0,es0,tb0,hA,hB,h1,h2,h3,h4,h5,h6,h7,h8,h9,h10⟩:=h
 have hm:=hA.tx.inv.ok.most
 obtain⟨_,e2⟩:=kH.sizes hA
 refine(hA.commit (by omega)).mono ?_
 rintro e w' ⟨S',hs,(⟨rfl,q1,rfl,q2⟩|⟨rfl,⟨r,q1,q2,q3,q4⟩,rfl,q5⟩|⟨rfl,rfl,σ',l',p',root',q1,q2,q3,q4⟩)⟩
 all_goals have hB':=hB.uO h2 h3 hs
 ·refine .inl ⟨rfl,by rw[←h7,←h8,q1],by rw[show (σ.H.lg.last:Int) - 1=dn by omega],S',_,_,_,_,_,_,root0,es0,tb0,q2,hB',h1,by rw[←hm,h4],h5,h6,h8,h9⟩
 ·refine .inr (.inl ⟨rfl,?_,rfl,S',_,_,_,_,_,_,root0,es0,tb0,q5,hB',h1,by rw[←hm,h4],h5,h6,h8,h9⟩)
  unfold Pg.zZ at q2
  rw[Jm q3,h5] at q2
  unfold Cc
  rw[e2,h9] at q4
  omega
 ·exact .inr (.inr ⟨rfl,by rw[h6],_,S',_,_,σ',l',p',_,root',es,tb,q1,hB',h1,by rw[q3,h4],by rw[q4,h5],by rw[q2,h6],h7,rfl⟩)
theorem kH.scan (h:kH w0 v t N R dn u kv0 kv ch P w) (key:ByteArray) (most:Int) (hl:kv.length≤4090):
  Calls Tryz.prog 20 #[.pointer (some ⟨t,0,none⟩),.string key,.int .i64 most] w fun e w'=>∃x,e= .returned (.tuple #[x,.int .i64 0])∧aP w' gL w.heap.size 127 2 x (vX kv key most).length (dw (vX kv key most))∧kH w0 v t N R dn u kv0 kv ch P w'∧Below w.heap.size w w':=by
 obtain⟨S,tr,mp,σ,root,es,tb,root0,es0,tb0,hA,hB,h1,h2,h3,h4,h5,h6,h7,h8⟩:=h
 refine(hA.scan key most (by rw[←gZ,h7];exact hl)).mono ?_
 rintro e w' ⟨x,rfl,hx,hb⟩
 rw[h7] at hx
 exact⟨x,rfl,hx.other (fun g _ e=>e.elim),⟨S,tr,mp,σ,root,es,tb,root0,es0,tb0,hA.below hb,hB.below hb,h1,h2,h3,h4,h5,h6,h7,h8⟩,hb⟩
theorem Rc.usable (h:Rc t w) (key:ByteArray):
  Calls Tryz.prog 58 #[.pointer (some ⟨t,0,none⟩),.string key] w fun e w'=>w'=w∧e= .returned (.int .i64 2):=by
 obtain⟨mp,ch,er,hc⟩:=h
 exact El t mp ch er key w hc
theorem Rc.abort (h:Rc t w):
  Calls Tryz.prog 32 #[.pointer (some ⟨t,0,none⟩)] w fun e w'=>w'=w∧e= .returned (.tuple #[]):=by
 obtain⟨mp,ch,er,hc⟩:=h
 exact En t mp ch er w hc
end
theorem kH.more {w0:iZ} {w:World} {v t N R dn u P P':Nat} {kv kv0:List Pr} {ch:Bool} (h:kH w0 v t N R dn u kv0 kv ch P w) (hp:P≤P'):kH w0 v t N R dn u kv0 kv ch P' w:=by
 obtain⟨S,tr,mp,σ,root,es,tb,root0,es0,tb0,hA,hB,h1,h2,h3,h4,h5,h6,h7,h8,h9,h10⟩:=h
 exact⟨S,tr,mp,σ,root,es,tb,root0,es0,tb0,hA,hB,h1,h2,h3,h4,h5,h6,h7,h8,h9,aH h10 hp⟩
theorem MW (k x:ByteArray):jv [] k x=[(k,x)]:=rfl
theorem Kq (k x:ByteArray):cu [(k,x)] k=some x:=by
 have h:lt k k=false:=lt_irrefl k
 have hp:bO [(k,x)] k=0:=by unfold bO;simp[h]
 unfold cu nM
 rw[hp]
 simp
theorem kH.PN {w0:iZ} {w:World} {v t N R dn u P:Nat} {kv kv0:List Pr} {ch:Bool} (h:kH w0 v t N R dn u kv0 kv ch P w) (key value:ByteArray) (hl:kv.length≤4090) (hg:1≤key.size∧key.size≤128) (hv:value.size≤49152) (Q:Nat) (hQ:Q=max P (2+u+kG kv+2*(kv.length+1)+eU value)) (hN:2+u+kG kv+2*(kv.length+1)+eU value≤N):
  Calls Tryz.prog 14 #[.pointer (some ⟨t,0,none⟩),.string key,.string value] w fun e w'=>
   e= .returned (.int .i64 0)∧kH w0 v t N R dn u kv0 (jv kv key value) (ch|| !decide (cu kv key=some value)) Q w':=by
 refine((h.more (P':=Q) (by omega)).put key value hl hg hv (by omega)).mono ?_
 rintro e w' (h|⟨_,h,_⟩)
 ·exact h
 ·omega
theorem kH.KP {w0:iZ} {w:World} {v t N R dn u P:Nat} {kv kv0:List Pr} (h:kH w0 v t N R dn u kv0 kv true P w) (hd:dn≤100000000) (hR:Cc (P - u)≤R) (hP:P - u≤1024):
  Calls Tryz.prog 15 #[.pointer (some ⟨t,0,none⟩)] w fun e w'=>
   e= .returned (.tuple #[.int .i64 ((dn+1:Nat):Int),.int .i64 0])∧∃u',oI w0 v N R (dn+1) u' kv w':=by
 refine(h.commit hd).mono ?_
 rintro e w' (⟨h,_⟩|⟨_,h,_⟩|⟨_,h⟩)
 ·cases h
 ·omega
 ·exact h
theorem xJ (w:World):Calls Tryz.prog 10 #[] w fun e w'=>e= .returned (.bool true)∧Below w.heap.size w w':=by
 go_enter Tryz.func10,Tryz.ntmps10
 go_wp2_with (first
  |(go_at_call 12;go_must ((refine(QX 40 w).mono ?_);rintro e w1 ⟨d,S,rfl,hD,hb1,hS⟩;have HV:=af (oI.make w w1 40 12 d S (VB.of hb1 hS) hD (by omega) (by omega));clear hD hb1 hS))
  |(go_at_call 11;go_must ((refine HV.out.mono ?_);rintro e w2 ⟨v,rfl,hV2⟩;clear HV))
  |(go_at_call 24;go_must ((refine hV2.blocks.mono ?_);rintro e w3 ⟨rfl,hV3⟩;clear hV2))
  |(go_at_call 21;go_must ((refine(hV3.done (by omega)).mono ?_);rintro e w4 ⟨rfl,hw⟩;subst w4))
  |(go_at_call 13;go_must ((refine hV3.begin.mono ?_);rintro e w5 ⟨t,rfl,hT5⟩;clear hV3))
  |(go_at_call 14;go_must ((refine(hT5.PN ⟨#[97]⟩ ⟨#[120]⟩ (by simp) ⟨by decide,by decide⟩ (by decide) 4 (by decide) (by decide)).mono ?_);rintro e w6 ⟨rfl,hT6⟩;rw[MW] at hT6;clear hT5))
  |(go_at_call 18;go_must ((refine(hT6.get ⟨#[97]⟩ (by simp) ⟨by decide,by decide⟩).mono ?_);rw[Kq];rintro e w7 ⟨rfl,hT7⟩;clear hT6;have HC:=af (kH.KP hT7 (by omega) (by decide) (by decide));clear hT7))
  |(go_at_call 15;go_must ((refine HC.out.mono ?_);rintro e w8 ⟨rfl,u',hV8⟩;clear HC))
  |(go_at_call 34;go_must ((refine(hV8.check (by simp)).mono ?_);rintro e w9 ⟨rfl,hV9⟩;clear hV8)))
 go_ret
 exact⟨rfl,hV9.mK⟩
end Go.Proofs.YtfgpefcphnpabaaGreat
