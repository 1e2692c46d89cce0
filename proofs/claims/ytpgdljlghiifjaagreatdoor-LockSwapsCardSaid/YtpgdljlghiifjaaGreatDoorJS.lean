/- parts -/
import Derived.Test.YtpgdljlghiifjaaGreatDoorJ25
namespace Go.Proofs.YtpgdljlghiifjaaGreatDoor
open Go.RowKit
set_option maxRecDepth 100000
set_option maxHeartbeats 8000000
set_option linter.all false
theorem A8 (a b:bn):a.clash b=b.clash a:=by
 unfold bn.clash
 rw[Bool.or_comm a.excl,Bool.or_comm (a.covers b.path)]
theorem Fu (now:Int):live now []=[]:=rfl
theorem Ni (l:bn):wN [] l=[l]:=rfl
theorem NY (l:bn) (now:Int):iR [] l now=if l.good=false∨l.till≤now then 1 else 0:=by
 unfold iR
 simp[Fu]
theorem M0 {l:bn} {now:Int} (h:now<l.till):live now [l]=[l]:=by simp[live,h]
theorem NW {a b:bn} {now:Int} (ha:now<a.till) (ht:a.token≠b.token):iR [a] b now=if b.good=false∨b.till≤now then 1 else if a.clash b=true then 63 else 0:=by
 unfold iR
 simp[M0 ha,ht]
theorem swaps {a b:bn} {now:Int} (ht:a.token≠b.token):
  (iR [] a now≠0∨iR [] b now≠0→iR [] a now=iR (mI [] b now) a now∧iR (mI [] a now) b now=iR [] b now)∧
  (iR [] a now=0∧iR [] b now=0→iR (mI [] a now) b now=iR (mI [] b now) a now∧(iR (mI [] a now) b now=if a.clash b=true then 63 else 0)):=by
 have key:∀(x y:bn),x.token≠y.token→iR [] x now=0→iR (mI [] x now) y now=if y.good=false∨y.till≤now then 1 else if x.clash y=true then 63 else 0:=by
  intro x y hxy hx
  have h:=(qJ hx).2.1
  unfold mI
  rw[if_pos hx,Fu,Ni,NW h hxy]
 have bad:∀(x y:bn),iR [] x now≠0→iR (mI [] x now) y now=iR [] y now:=by
  intro x y hx
  unfold mI
  rw[if_neg hx]
 have one:∀(x:bn),iR [] x now≠0→(x.good=false∨x.till≤now)∧iR [] x now=1:=by
  intro x hx
  rw[NY] at hx ⊢
  by_cases h:x.good=false∨x.till≤now
  ·exact⟨h,if_pos h⟩
  ·rw[if_neg h] at hx;exact absurd rfl hx
 have first:∀(ls:List bn) (x:bn),(x.good=false∨x.till≤now)→iR ls x now=1:=fun ls x h=>by unfold iR;rw[if_pos h]
 constructor
 ·intro h
  refine⟨?_,?_⟩
  ·by_cases ha:iR [] a now=0
   ·have hb:iR [] b now≠0:=h.resolve_left (fun e=>e ha)
    rw[bad b a hb]
   ·obtain⟨h1,h2⟩:=one a ha
    rw[h2,first _ a h1]
  ·by_cases ha:iR [] a now=0
   ·have hb:iR [] b now≠0:=h.resolve_left (fun e=>e ha)
    obtain⟨h1,h2⟩:=one b hb
    rw[h2,first _ b h1]
   ·rw[bad a b ha]
 ·rintro⟨ha,hb⟩
  have ha1:=qJ ha
  have hb1:=qJ hb
  have na:¬(a.good=false∨a.till≤now):=by rintro(e|e);(rw[ha1.1] at e;cases e);omega
  have nb:¬(b.good=false∨b.till≤now):=by rintro(e|e);(rw[hb1.1] at e;cases e);omega
  rw[key a b ht ha,key b a (Ne.symm ht) hb,if_neg na,if_neg nb,A8 b a]
  exact⟨rfl,rfl⟩
theorem Cv {now n2:Int} (h:now≤n2) (ls:List bn):live n2 (live now ls)=live n2 ls:=by
 unfold live
 rw[List.filter_filter]
 congr 1
 funext l
 by_cases h2:n2<l.till
 ·simp[h2,show now<l.till by omega]
 ·simp[h2]
structure Alone (now:Int) (ls:List bn):Prop where
 len:(live now ls).length≤32
 pair:(live now ls).Pairwise fun a b=>a.clash b=false∧a.token≠b.token
theorem Alone.nil (now:Int):Alone now []:=⟨aY _,kC⟩
theorem Alone.sub {now n2:Int} {ls ls':List bn} (h:Alone now ls) (hs:(live n2 ls').Sublist (live now ls)):Alone n2 ls':=⟨aH hs.length_le h.len,h.pair.sublist hs⟩
theorem Alone.later {now n2:Int} {ls:List bn} (h:Alone now ls) (hn:now≤n2):Alone n2 ls:=h.sub (by rw[←Cv hn ls];exact xB)
theorem Alone.filter {now:Int} {ls:List bn} (h:Alone now ls) (p:bn→Bool):Alone now (ls.filter p):=h.sub (List.Sublist.filter _ xB)
theorem KS {ls:List bn} {l:bn} (h:ls.any (fun x=>decide (x.token=l.token))=false):mE (ls.map bn.pair) l.key=false:=by
 cases hat:mE (ls.map bn.pair) l.key with
 |false=>rfl
 |true=>
  obtain⟨hlt,he⟩:=nM hat
  rw[dW] at hlt
  have h1:=oG.1 h _ (bq hlt)
  simp only[C9] at he
  exact absurd (bT (Iq (show jl _=jl _ from he))) h1
theorem Nj {ls:List bn} {l:bn} (h:ls.any (fun x=>decide (x.token=l.token))=false):∃k,wN ls l=ls.take k++l::ls.drop k:=by
 refine⟨dB (ls.map bn.pair) l.key,?_⟩
 unfold wN
 rw[KS h]
 simp
theorem Alone.add {now:Int} {ls:List bn} {l:bn} (h:Alone now ls):Alone now (mI ls l now):=by
 unfold mI
 split
 ·rename_i h0
  obtain⟨_,ht,h3,h4,h5⟩:=qJ h0
  obtain⟨k,hk⟩:=Nj h3
  have hll:=Cv (Int.le_refl now) ls
  have hp:=h.pair
  generalize live now ls=L at*
  have hlive:live now (wN L l)=wN L l:=by
   rw[hk]
   have e:∀x∈L,now<x.till:=fun x hx=>by rw[←hll] at hx;exact iq (Gz.1 hx).2
   unfold live
   rw[xC]
   intro x hx
   rcases bJ.1 hx with hx|hx
   ·exact bT (e x (dZ hx))
   ·rcases bK.1 hx with rfl|hx
    ·exact bT ht
    ·exact bT (e x (bS hx))
  have hl:∀x∈L,x.clash l=false∧x.token≠l.token:=fun x hx=>⟨Bw.2 (oG.1 h4 x hx),fun e=>oG.1 h3 x hx (bT e)⟩
  refine⟨by rw[hlive];have:=FL (ls:=L) (l:=l);omega,?_⟩
  rw[hlive,hk]
  rw[←bI k L] at hp
  obtain⟨h7,h8,h9⟩:=mg.1 hp
  refine mg.2 ⟨h7,eB.2 ⟨fun x hx=> ?_,h8⟩,fun x hx y hy=> ?_⟩
  ·have:=hl x (bS hx)
   exact⟨by rw[A8];exact this.1,fun e=>this.2 e.symm⟩
  ·rcases bK.1 hy with rfl|hy
   ·exact hl x (dZ hx)
   ·exact h9 x hx y hy
 ·exact h
theorem yS.apart {A B:List bn} {l:bn} (h:yS (A++l::B)):(∀x∈A,lt x.key l.key=true)∧(∀x∈B,lt l.key x.key=true):=by
 have hr:=h.rise
 rw[bX,cO] at hr
 have h1:=mg.1 hr
 have h2:=eB.1 h1.2.1
 exact⟨fun x hx=>h1.2.2 x.pair (gW hx) l.pair (bg ..),fun x hx=>h2.1 x.pair (gW hx)⟩
theorem Alone.del {now:Int} {A B:List bn} {l:bn} (h:Alone now (A++l::B)):Alone now (A++B):=
 h.sub (List.Sublist.filter _ (LG (oH _) (List.sublist_cons_self _ _)))
end Go.Proofs.YtpgdljlghiifjaaGreatDoor
namespace Go.Proofs.YtpgdljlghiifjaaGreatDoor
open Go.RowKit Go.Shelf
set_option maxRecDepth 100000
set_option maxHeartbeats 8000000
set_option linter.all false
theorem Mc {F1 F2:Nat→Prop} {v t b:Nat} {ls:List bn} {w w':World} (h:LT F2 v t b ls w) (hk:Keep (fun g=>¬F1 g) w w') (hc:∀g,g<w.heap.size→F1 g∨F2 g) (hb:F1 b):
  LT (oL F2 w w') v t b ls w'∧(∀g,g<w'.heap.size→F1 g∨oL F2 w w' g):=by
 refine⟨h.PV (M:=fun g=>¬F1 g∧g<w.heap.size) (hk.mono fun i hi e=>⟨e,hi⟩) (fun g e=>(hc g e.2).resolve_left e.1) (fun e=>e.1 hb),fun g hg=> ?_⟩
 by_cases hl:g<w.heap.size
 ·exact(hc g hl).imp id .inl
 ·exact .inr (.inr ⟨Nat.le_of_not_lt hl,hg⟩)
theorem M8 {F:Nat→Prop} {B:Nat} {w w':World} (hk:Keep (fun g=>¬F g) w w') (hF:∀g,g<B→F g) (hB:B≤w.heap.size):Below B w w':=hk.gG hB fun g hg e=>e (hF g hg)
theorem Mk {S F:Nat→Prop} {B:Nat} {v:Value} {l:List ByteArray} {w0 w:World} (h:jA w0 S v l) (hs:w0.heap.size≤B) (hb:Below w0.heap.size w0 w) (hF:∀g,g<B→F g):jA w (fun g=>¬F g) v l:=
 dO.keep h fun g _ hl _=>⟨hb.block g hl,fun e=>e (hF g (ax hl hs))⟩
def Twin (F1 F2:Nat→Prop) (v1 t1 b1 v2 t2 b2:Nat) (ls1 ls2:List bn) (B:Nat) (w:World):Prop:=
 LT F1 v1 t1 b1 ls1 w∧LT F2 v2 t2 b2 ls2 w∧(∀g,g<w.heap.size→F1 g∨F2 g)∧(∀g,g<B→F1 g)∧(∀g,g<B→F2 g)∧F1 b2∧F2 b1
section
variable {F1 F2:Nat→Prop} {v1 t1 b1 v2 t2 b2:Nat} {ls1 ls2:List bn} {B:Nat} {w:World}
theorem Twin.symm (h:Twin F1 F2 v1 t1 b1 v2 t2 b2 ls1 ls2 B w):Twin F2 F1 v2 t2 b2 v1 t1 b1 ls2 ls1 B w:=by
 obtain⟨h1,h2,h3,h4,h5,h6,h7⟩:=h
 exact⟨h2,h1,fun g hg=>(h3 g hg).symm,h5,h4,h7,h6⟩
theorem Twin.drew (h:Twin F1 F2 v1 t1 b1 v2 t2 b2 ls1 ls2 B w):Twin F1 F2 v1 t1 b1 v2 t2 b2 ls1 ls2 B w.drew:=by
 obtain⟨h1,h2,h3⟩:=h
 exact⟨h1.below (aQ _ w).drew,h2.below (aQ _ w).drew,h3⟩
theorem Twin.add1 (h:Twin F1 F2 v1 t1 b1 v2 t2 b2 ls1 ls2 B w) (l:bn) (pv:Value) (now:Int) (hp:∀F:Nat→Prop,(∀g,g<B→F g)→jA w (fun g=>¬F g) pv l.path) (hs:l.Bl) (hT:tV w) (hti: -9223372036854775808≤l.till∧l.till<9223372036854775808) (hB:B≤w.heap.size):
  Calls Tryz.prog 19 #[.pointer (some ⟨b1,0,none⟩),qN l pv,.int .i64 now] w fun e w'=>e= .returned (.int .i64 (iR ls1 l now))∧(∃F2',Twin F1 F2' v1 t1 b1 v2 t2 b2 (mI ls1 l now) ls2 B w')∧Below B w w':=by
 obtain⟨h1,h2,h3,h4,h5,h6,h7⟩:=h
 refine(DN F1 v1 t1 b1 ls1 l pv now w h1 (hp F1 h4) hs hT hti).mono ?_
 rintro e w' ⟨rfl,hT1,hk⟩
 obtain⟨q1,q2⟩:=Mc h2 hk h3 h6
 exact⟨rfl,⟨oL F2 w w',hT1,q1,q2,h4,fun g hg=> .inl (h5 g hg),h6,.inl h7⟩,M8 hk h4 hB⟩
end
theorem G7 (a b:bn) (av bv:Value) (now:Int) (Sa Sb:Nat→Prop) (w:World) (hpa:jA w Sa av a.path) (hpb:jA w Sb bv b.path) (hsa:a.Bl) (hsb:b.Bl) (hta: -9223372036854775808≤a.till∧a.till<9223372036854775808) (htb: -9223372036854775808≤b.till∧b.till<9223372036854775808) (hT:tV w):
  Calls Tryz.prog 5 #[qN a av,qN b bv,.int .i64 now] w fun e w'=>e= .returned (.bool true)∧Below w.heap.size w w':=by
 have hfa:=dO.form hpa
 have hfb:=dO.form hpb
 have HP:=af (ay hpa (ay hpb (ay hsa (ay hsb (ay hta (ay htb hT))))))
 clear hpa hpb hsa hsb hta htb hT
 obtain⟨ao,ac,rfl,_,_,_,_⟩:=hfa
 obtain⟨bo,bc,rfl,_,_,_,_⟩:=hfb
 have hb1:=aI w (.cells #[.string a.token,.slice ao a.path.length ac,.bool a.deep,.bool a.excl,.string a.owner,.int .i64 a.till] 24)
 have hn1:=aM w (.cells #[.string a.token,.slice ao a.path.length ac,.bool a.deep,.bool a.excl,.string a.owner,.int .i64 a.till] 24)
 obtain⟨w1,hw1⟩:∃w1:World,Hid (w.alloc (.cells #[.string a.token,.slice ao a.path.length ac,.bool a.deep,.bool a.excl,.string a.owner,.int .i64 a.till] 24)=w1):=⟨_,af rfl⟩
 have hs1:w1.heap.size=w.heap.size+1:=by rw[←hw1.out];simp
 rw[hw1.out] at hb1 hn1
 have hb2:=aI w1 (.cells #[.string b.token,.slice bo b.path.length bc,.bool b.deep,.bool b.excl,.string b.owner,.int .i64 b.till] 24)
 have hn2:=aM w1 (.cells #[.string b.token,.slice bo b.path.length bc,.bool b.deep,.bool b.excl,.string b.owner,.int .i64 b.till] 24)
 obtain⟨w2,hw2⟩:∃w2:World,Hid (w1.alloc (.cells #[.string b.token,.slice bo b.path.length bc,.bool b.deep,.bool b.excl,.string b.owner,.int .i64 b.till] 24)=w2):=⟨_,af rfl⟩
 rw[hw2.out] at hb2 hn2
 obtain⟨la,hla⟩:∃la:Nat,Hid (w.heap.size=la):=⟨_,af rfl⟩
 obtain⟨lb,hlb⟩:∃lb:Nat,Hid (la+1=lb):=⟨_,af rfl⟩
 rw[hs1,hla.out,hlb.out] at hn2
 rw[hla.out] at hn1
 have hA2:=(hb2.block la (ah.1 hn1).1).trans hn1
 have hb12:=hb1.trans (hb2.mono hb1.size)
 have HFX:=af (Ao w2 (HP.out.2.2.2.2.2.2.below hb12))
 have HX:=af (ay hb12 (ay hA2 hn2))
 clear hb1 hb2 hn1 hn2 hs1 hA2 hb12
 unfold qN
 go_enter Tryz.func5,Tryz.ntmps5
 go_upto_region 1 with (fail)
 rw[hw1.out,hw2.out,hla.out,hlb.out]
 have hq:=NU a.token b.token
 by_cases heq:a.token=b.token
 ·rw[bT heq] at hq
  clear heq
  go_wp2_with (first
   |(go_at_call 9;go_must (refine HFX.out.mono ?_;rintro e w3 ⟨rfl,hb3⟩;refine Stop.of ?_)))
  refine Stop.on ?_
  have hb23:=HX.out.1.trans (hb3.mono HX.out.1.size)
  obtain⟨e0,e1,e2,e3,e4,e5,le⟩:=dh ((hb3.block la (ah.1 HX.out.2.1).1).trans HX.out.2.1)
  obtain⟨f0,f1,f2,f3,f4,f5,fl⟩:=dh ((hb3.block lb (ah.1 HX.out.2.2).1).trans HX.out.2.2)
  have HFX2:=af (Ao w3 (HP.out.2.2.2.2.2.2.below hb23))
  have HB:=af hb23
  clear hb3 hb23
  go_wp2_with (first
   |(go_at_call 9;go_must (refine HFX2.out.mono ?_;rintro e w4 ⟨rfl,hb4⟩)))
  go_ret
  exact⟨rfl,HB.out.trans (hb4.mono HB.out.size)⟩
 ·rw[bD heq] at hq
  have HNE:=af heq
  clear heq
  go_wp2_with (first
   |(go_at_call 9;go_must (refine HFX.out.mono ?_;rintro e w3 ⟨rfl,hb3⟩;refine Stop.of ?_)))
  refine Stop.on ?_
  have hb23:=HX.out.1.trans (hb3.mono HX.out.1.size)
  have hA3:=(hb3.block la (ah.1 HX.out.2.1).1).trans HX.out.2.1
  have hB3:=(hb3.block lb (ah.1 HX.out.2.2).1).trans HX.out.2.2
  obtain⟨e0,e1,e2,e3,e4,e5,le⟩:=dh hA3
  obtain⟨f0,f1,f2,f3,f4,f5,fl⟩:=dh hB3
  have HB:=af (ay hb23 (ay hA3 hB3))
  clear hb3 hb23 hA3 hB3
  go_wp2_with (first
   |(go_at_call 18;go_must ((refine(Am w3).mono ?_);rintro e w4 ⟨t1,b1,rfl,v1,F1,hL1,hF1,hb4,_⟩;refine Stop.of ?_)))
  refine Stop.on ?_
  have H4:=af (ay hL1 (ay hF1 hb4))
  clear hL1 hF1 hb4
  go_wp2_with (first
   |(go_at_call 18;go_must ((refine(Am w4).mono ?_);rintro e w5 ⟨t2,b2,rfl,v2,F2,hL2,hF2,hb5,hlo2⟩;refine Stop.of ?_)))
  refine Stop.on ?_
  clear e0 e1 e2 e3 e4 e5 le f0 f1 f2 f3 f4 f5 fl
  have hT1:=H4.out.1.next hb5
  have hcov:∀g,g<w5.heap.size→oL F1 w4 w5 g∨F2 g:=fun g hg=>by
   by_cases h:g<w4.heap.size
   ·exact .inr (hF2 g h)
   ·exact .inl (.inr ⟨Nat.le_of_not_lt h,hg⟩)
  have hF1':∀g,g<w3.heap.size→oL F1 w4 w5 g:=fun g hg=> .inl (H4.out.2.1 g hg)
  have hF2':∀g,g<w3.heap.size→F2 g:=fun g hg=>hF2 g (ax hg H4.out.2.2.size)
  have hbb5:Below w3.heap.size w3 w5:=H4.out.2.2.trans (hb5.mono H4.out.2.2.size)
  have hbL:F1 b1:=H4.out.1.fb
  have h2b:oL F1 w4 w5 b2:= .inr ⟨hlo2,hL2.lt⟩
  have hTwo:Twin (oL F1 w4 w5) F2 v1 t1 b1 v2 t2 b2 [] [] w3.heap.size w5:=⟨hT1,hL2,hcov,hF1',hF2',h2b,hF2 _ H4.out.1.lt⟩
  have hB:=HB.out
  have pAF:=fun (W:World) (hW:Below w3.heap.size w3 W) (F:Nat→Prop) (hF:∀g,g<w3.heap.size→F g)=>Mk (w:=W) (F:=F) HP.out.1 hB.1.size (hB.1.trans (hW.mono hB.1.size)) hF
  have pBF:=fun (W:World) (hW:Below w3.heap.size w3 W) (F:Nat→Prop) (hF:∀g,g<w3.heap.size→F g)=>Mk (w:=W) (F:=F) HP.out.2.1 hB.1.size (hB.1.trans (hW.mono hB.1.size)) hF
  have tbs:=fun (W:World) (hW:Below w3.heap.size w3 W)=>HP.out.2.2.2.2.2.2.below (hB.1.trans (hW.mono hB.1.size))
  have bxs:=fun (W:World) (hW:Below w3.heap.size w3 W)=>ay ((hW.block la (ah.1 hB.2.1).1).trans hB.2.1) ((hW.block lb (ah.1 hB.2.2).1).trans hB.2.2)
  have HF:=af (ay pAF (ay pBF (ay tbs bxs)))
  have HT5:=af (ay hTwo hbb5)
  clear hT1 hL2 hcov hF1' hF2' hF2 hbL h2b hlo2 hTwo hB pAF pBF tbs bxs hbb5 hb5
  go_wp2_with (fail)
  have hbD:=HT5.out.2.drew
  obtain⟨hA5,hB5⟩:=HF.out.2.2.2 _ hbD
  refine aP (fun W=>W.heap[la]? =some (.cells #[.string a.token,.slice ao a.path.length ac,.bool a.deep,.bool a.excl,.string a.owner,.int .i64 a.till] 24 (0,0))∧W.heap[lb]? =some (.cells #[.string b.token,.slice bo b.path.length bc,.bool b.deep,.bool b.excl,.string b.owner,.int .i64 b.till] 24 (0,0))) (fun i=> !([3,7].contains i)) [0,1,2,4,5,6,3,7,8,9] rfl (by kernel_rfl) ⟨hA5,hB5⟩ ?_
  repeat ((refine bO (v:= ?_) rfl rfl (fun _ _ _ h=>h) rfl (fun W hW=> ?_) ?_);rotate_left;(focus ((try dsimp only at hW);obtain⟨q0,q1,q2,q3,q4,q5,q6⟩:=dh hW.1;obtain⟨r0,r1,r2,r3,r4,r5,r6⟩:=dh hW.2;(go_simp;first|done|with_reducible rfl)));(try simp only[Act.put,aj,au,ak]))
  refine dw rfl rfl rfl ?_;intro K hK;go_simp
  have hadd1:=HT5.out.1.drew.add1 a _ now (HF.out.1 _ hbD) HP.out.2.2.1 (HF.out.2.2.1 _ hbD) HP.out.2.2.2.2.1 hbD.size
  unfold qN at hadd1
  refine hadd1.mono ?_;rintro e w6 ⟨rfl,⟨G2,hW6⟩,hb6⟩
  have hb36:=hbD.trans hb6
  refine hK.out _ _ (HF.out.2.2.2 _ hb36) ?_
  (try simp only[Act.put,aj,au,ak])
  refine dw rfl rfl rfl ?_;intro K hK;go_simp
  have hadd2:=hW6.add1 b _ now (HF.out.2.1 _ hb36) HP.out.2.2.2.1 (HF.out.2.2.1 _ hb36) HP.out.2.2.2.2.2.1 hb36.size
  unfold qN at hadd2
  refine hadd2.mono ?_;rintro e w7 ⟨rfl,⟨G2',hW7⟩,hb7⟩
  have hb37:=hb36.trans hb7
  refine hK.out _ _ (HF.out.2.2.2 _ hb37) ?_
  (try simp only[Act.put,aj,au,ak])
  repeat ((refine bO (v:= ?_) rfl rfl (fun _ _ _ h=>h) rfl (fun W hW=> ?_) ?_);rotate_left;(focus ((try dsimp only at hW);skip;(go_simp;first|done|with_reducible rfl)));(try simp only[Act.put,aj,au,ak]))
  refine bR ?_
  have HT7:=af (ay hW7 hb37)
  clear hW7 hb37 hb7 hadd2 hb36 hb6 hW6 hadd1 hbD hA5 hB5
  go_wp2_with (fail)
  have hbD:=HT7.out.2.drew
  obtain⟨hA7,hB7⟩:=HF.out.2.2.2 _ hbD
  refine aP (fun W=>W.heap[la]? =some (.cells #[.string a.token,.slice ao a.path.length ac,.bool a.deep,.bool a.excl,.string a.owner,.int .i64 a.till] 24 (0,0))∧W.heap[lb]? =some (.cells #[.string b.token,.slice bo b.path.length bc,.bool b.deep,.bool b.excl,.string b.owner,.int .i64 b.till] 24 (0,0))) (fun i=> !([3,7].contains i)) [0,1,2,4,5,6,3,7,8,9] rfl (by kernel_rfl) ⟨hA7,hB7⟩ ?_
  repeat ((refine bO (v:= ?_) rfl rfl (fun _ _ _ h=>h) rfl (fun W hW=> ?_) ?_);rotate_left;(focus ((try dsimp only at hW);obtain⟨q0,q1,q2,q3,q4,q5,q6⟩:=dh hW.1;obtain⟨r0,r1,r2,r3,r4,r5,r6⟩:=dh hW.2;(go_simp;first|done|with_reducible rfl)));(try simp only[Act.put,aj,au,ak]))
  refine dw rfl rfl rfl ?_;intro K hK;go_simp
  have hadd1:=HT7.out.1.drew.symm.add1 b _ now (HF.out.2.1 _ hbD) HP.out.2.2.2.1 (HF.out.2.2.1 _ hbD) HP.out.2.2.2.2.2.1 hbD.size
  unfold qN at hadd1
  refine hadd1.mono ?_;rintro e w8 ⟨rfl,⟨G3,hW8⟩,hb8⟩
  have hb38:=hbD.trans hb8
  refine hK.out _ _ (HF.out.2.2.2 _ hb38) ?_
  (try simp only[Act.put,aj,au,ak])
  refine dw rfl rfl rfl ?_;intro K hK;go_simp
  have hadd2:=hW8.add1 a _ now (HF.out.1 _ hb38) HP.out.2.2.1 (HF.out.2.2.1 _ hb38) HP.out.2.2.2.2.1 hb38.size
  unfold qN at hadd2
  refine hadd2.mono ?_;rintro e w9 ⟨rfl,_,hb9⟩
  have hb39:=hb38.trans hb9
  refine hK.out _ _ (HF.out.2.2.2 _ hb39) ?_
  (try simp only[Act.put,aj,au,ak])
  repeat ((refine bO (v:= ?_) rfl rfl (fun _ _ _ h=>h) rfl (fun W hW=> ?_) ?_);rotate_left;(focus ((try dsimp only at hW);skip;(go_simp;first|done|with_reducible rfl)));(try simp only[Act.put,aj,au,ak]))
  refine bR ?_
  obtain⟨hA9,hB9⟩:=HF.out.2.2.2 _ hb39
  have hcl:=Ap a b _ _ _ _ w9 (HF.out.1 _ hb39 (fun g=>g<w3.heap.size) (fun _ h=>h)) (HF.out.2.1 _ hb39 (fun g=>g<w3.heap.size) (fun _ h=>h))
  have hsw:=swaps (a:=a) (b:=b) (now:=now) HNE.out
  have hbe:Below w.heap.size w w9:=HB.out.1.trans (hb39.mono HB.out.1.size)
  obtain⟨p,hp⟩:∃p,iR [] a now=p:=⟨_,rfl⟩
  obtain⟨q,hq2⟩:∃q,iR (mI [] a now) b now=q:=⟨_,rfl⟩
  obtain⟨r,hr⟩:∃r,iR [] b now=r:=⟨_,rfl⟩
  obtain⟨s,hs⟩:∃s,iR (mI [] b now) a now=s:=⟨_,rfl⟩
  obtain⟨D,hD⟩:∃D,a.clash b=D:=⟨_,rfl⟩
  rw[hp,hq2,hr,hs,hD] at hsw
  rw[hp,hq2,hr,hs]
  rw[hD] at hcl
  unfold qN at hcl
  have HCL:=af hcl
  obtain⟨e0,e1,e2,e3,e4,e5,le⟩:=dh hA9
  obtain⟨f0,f1,f2,f3,f4,f5,fl⟩:=dh hB9
  have HSW:=af (ay hsw hbe)
  clear hsw hbe hp hq2 hr hs hD hcl hA9 hB9 hb39 hb9 hadd2 hb38 hb8 hW8 hadd1 hbD hA7 hB7 hq
  by_cases hp0:p=0
  ·by_cases hr0:r=0
   ·obtain⟨h1,h2⟩:=HSW.out.1.2 ⟨hp0,hr0⟩
    subst hp0
    subst hr0
    subst h1
    cases D with
    |true=>
     rw[if_pos rfl] at h2
     subst h2
     go_wp2_with (first
      |(go_at_call 14;go_must (refine HCL.out.mono ?_;rintro e w10 ⟨rfl,hb10⟩)))
     go_ret
     exact⟨rfl,HSW.out.2.trans (hb10.mono HSW.out.2.size)⟩
    |false=>
     rw[if_neg (by simp)] at h2
     subst h2
     go_wp2_with (first
      |(go_at_call 14;go_must (refine HCL.out.mono ?_;rintro e w10 ⟨rfl,hb10⟩)))
     go_ret
     exact⟨rfl,HSW.out.2.trans (hb10.mono HSW.out.2.size)⟩
   ·obtain⟨h1,h2⟩:=HSW.out.1.1 (.inr hr0)
    subst h1
    subst h2
    subst hp0
    have x1:(q==0)=false:=di.2 hr0
    go_wp2_with (fail)
    go_ret
    exact⟨by simp,HSW.out.2⟩
  ·obtain⟨h1,h2⟩:=HSW.out.1.1 (.inl hp0)
   subst h1
   subst h2
   have x1:(p==0)=false:=di.2 hp0
   go_wp2_with (fail)
   go_ret
   exact⟨by simp,HSW.out.2⟩
end Go.Proofs.YtpgdljlghiifjaaGreatDoor
