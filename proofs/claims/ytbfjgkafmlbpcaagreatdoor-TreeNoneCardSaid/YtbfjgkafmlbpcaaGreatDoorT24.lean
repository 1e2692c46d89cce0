/- parts -/
import Derived.Test.YtbfjgkafmlbpcaaGreatDoorT23
import Derived.Laws.IdiomStrings
set_option maxRecDepth 100000
set_option maxHeartbeats 8000000
set_option linter.all false
namespace Go.Proofs.YtbfjgkafmlbpcaaGreatDoor
open Go.RowKit
theorem nE (t:List UInt8)(k:Nat):(chunk t k).length=min 512 (t.length - 512*k):=by simp[chunk]
theorem G5 (t:List UInt8)(k:Nat):t.take (512*k)++chunk t k=t.take (512*(k+1)):=by
 unfold chunk
 rw[show 512*(k+1)=512*k+512 by omega,List.take_add]
theorem Px (mp:VS)(σ:bY)(S:Nat->Prop)(w:World)(head:Nat)(t:List UInt8)(rs:List (Nat×Nat))(h:Inv σ S mp w)(hh:nV σ head t rs):
  Calls Tryz.prog 203 #[.iface 123 mp.agg,.int .i64 head,.int .i64 0,.int .i64 49152] w fun e w'=>e= .returned (.tuple #[.string ⟨t.toArray⟩,.int .i64 0])/\Below w.heap.size w w':=by
 have hsub:=h.sub
 have HL:=af (Qd mp σ S w head t.length rs h hh.hd)
 have hlo:=hh.hd.lo
 have hs1:=hh.hd.s1
 have hs2:=hh.hd.s2
 have HLEN:=af hh.hd.len
 have hrl:=hh.hd.runs
 obtain⟨hrl,hbl⟩:=hrl
 have HOK:=af hh.hd.ok
 have HI:=af h
 have HBK:=af hh.blk
 have x1:¬(head:Int)<0:=by omega
 have x2:decide ((head:Int)<0)=false:=bP x1
 have m1:min (0:Int) (t.length:Int)=0:=by omega
 have m2:min (49152:Int) (t.length:Int)=(t.length:Int):=by omega
 have hm:∀w,(method 607 123 mp.agg "Read").run Tryz.prog w= .ok (63,.pointer (some ⟨mp.tx,0,none⟩)) w:=fun _=>by kernel_rfl
 clear h hh
 go_enter Tryz.func203,Tryz.ntmps203
 go_wp2_with (first
  |(go_at_call 249;go_must (refine HL.out.mono ?_;rintro e w1 ⟨lb,v,rfl,hA,hb1⟩;refine Stop.of ?_)))
 refine Stop.on ?_
 have hlb:w1.cell? ⟨lb,0,none⟩=some (.int .i64 t.length):=by have:=hA.obj;simp[World.cell?,this]
 have hll:lb<w1.heap.size:=(ah.1 hA.obj).1
 have HA:=af hA;clear hA
 go_upto_region 11 with (fail)
 obtain⟨bb,HBB⟩:∃bb,Hid (w1.heap.size=bb):=⟨_,af rfl⟩
 obtain⟨w2,HW2⟩:∃w2:World,Hid (w1.alloc (.cells #[.pointer none,.slice none 0 0] 144)=w2):=⟨_,af rfl⟩
 have hb2:Below w1.heap.size w1 w2:=by rw[<-HW2.out];exact aF w1 _
 have hB2:w2.heap[bb]? =some (.cells #[.pointer none,.slice none 0 0] 144 (0,0)):=by rw[<-HW2.out,<-HBB.out];exact aK w1 _
 rw[HW2.out,HBB.out]
 have hbbw:w.heap.size<=bb:=by rw[<-HBB.out];exact hb1.size
 have hbb2:bb<w2.heap.size:=(ah.1 hB2).1
 have hS2:∀g,S g->g<w2.heap.size:=fun g hg=>ak (hsub g hg) (aI hbbw (ig hbb2))
 have HBL:=af (Ej lb t.length rs v w.heap.size S w2 (HA.out.below hb2) hS2 HOK.out (by omega))
 clear hlb hll
 go_wp2_with (first
  |(go_at_call 250;go_must (refine HBL.out.mono ?_;rintro e w3 ⟨bv,rfl,hown3,hb3⟩;refine Stop.of ?_)))
 refine Stop.on ?_
 obtain⟨xo,xc,rfl,_,_,_,_⟩:=bn.form hown3.cZ
 have hB3:=(hb3.block bb hbb2).trans hB2
 have hI3:=HI.out.below (hb1.trans ((hb2.trans (hb3.mono (by rw[HBB.out];omega))).mono hb1.size))
 have hnS:¬S bb:=fun x=>absurd (hsub bb x) (bE.2 hbbw)
 have hbl0:ul w3 S w3.heap.size bb (t.take (512*0)):=⟨hnS,_,_,.inl rfl,hB3,by rw[Nat.mul_zero,gP];exact aP.nil _ _ _ _ _⟩
 have HO:=af hown3
 have hbw3:Below w.heap.size w w3:=(hb1.trans (hb2.mono hb1.size)).trans (hb3.mono (by omega))
 have HI3:=af hI3
 obtain⟨C,HC⟩:∃C,Hid (w3.heap.size=C):=⟨_,af rfl⟩
 rw[HC.out] at hbl0
 have hCb:bb<C:=by rw[<-HC.out];exact ak hbb2 hb3.size
 have hS3:∀g,S g->g<w.heap.size:=hsub
 clear hown3 hI3 hB3 hB2
 go_wp2_with fail
 go_loopw [14,15,16,17,18,19,62] (fun _ _ _ _ _ _ i wr=>∃k:Nat,k<=(eU rs).length/\i= .int .i64 k/\ul wr S C bb (t.take (512*k))/\Keep (fun g=>g=bb\/C<=g) w3 wr) (fun _ _ _ _ _ _ i _=>(eU rs).length - (intOf i).toNat)
 case atStart=>exact⟨0,by omega,rfl,hbl0,Keep.refl _ _⟩
 case round=>
  clear hbl0
  obtain⟨k,hk,rfl,hbl,hkk⟩:=hrel
  by_cases hkl:k<(eU rs).length
  ·have y1:(k:Int)<((eU rs).length:Int):=by omega
   have hor:aP wr S w2.heap.size 3 1 (.slice xo (eU rs).length xc) (eU rs).length (ints (eU rs)):=HO.out.keep fun g hg hl hs=>⟨hkk.block g hl (fun e=>by
    have:=HO.out.lo g hg
    rcases e with e|e
    ·omega
    ·rw[<-HC.out] at e;omega),hs⟩
   have hil:=hor.cZ
   rw[Jz] at hil
   have hil':jq wr S (.slice xo (eU rs).length xc) ((eU rs).map fun (b:Nat)=>(b:Int)):=by unfold jq;rw[kJ];exact hil
   obtain⟨pb,po,rfl,d1⟩:=hil'.at rfl k (by simpa using hkl)
   rw[List.getElem_map] at d1
   have hpb:=aH wr _ d1
   obtain⟨has,hb2',hmem⟩:=HBK.out k hkl
   have hIr:Inv σ S mp wr:=HI3.out.nD hkk (fun g hg e=>by
    have:=hS3 g hg
    rcases e with e|e
    ·omega
    ·omega)
   have hrd:=Aw mp σ S wr ((eU rs)[k]:Nat) hIr has
   rw[hmem] at hrd
   have HRD:=af hrd
   obtain⟨bk,HBKK⟩:∃bk:Nat,Hid ((eU rs)[k]=bk):=⟨_,af rfl⟩
   rw[HBKK.out] at d1 HRD
   have hcl:=nE t k
   have hk512:512*k<t.length:=by have hlen:=HLEN.out;unfold su at hlen;omega
   obtain⟨hi,hhi⟩:∃hi:Nat,hi=min 512 (t.length - 512*k):=⟨_,rfl⟩
   have m3:max (-((k:Int)*512)) 0=0:=by omega
   have m4:min ((t.length:Int) - (k:Int)*512) 512=(hi:Int):=by omega
   have HHI:=af hhi
   have z1:¬(hi:Int)<=0:=by omega
   have z2:¬hi=0:=by omega
   have z3:hi<=512:=by omega
   clear hhi hrd hmem hor hil hb2' has hcl
   go_upto_region 15 with (fail)
   have z4:¬(512:Int)<(hi:Int):=by omega
   have z5:(hi:Int)<=512:=by omega
   go_wp2_with (refine HRD.out.mono ?_;rintro e w4 ⟨dv,rfl,hdv,hdb,hb4⟩;refine Stop.of ?_)
   refine Stop.on ?_
   obtain⟨vo,vc,rfl,n1,m1',_,_⟩:=bn.form hdv
   have hup':=bn.upto (bn.loose hdv) hi z3
   have hpl:(aD (pad (chunk t k))).take (hi*1)=aD (chunk t k):=by
    rw[aT]
    unfold aD pad
    rw[<-gG,bD (by rw[nE,HHI.out];exact ax _),aG (by rw[nE,HHI.out];exact ax _)]
   rw[hpl] at hup'
   have hcl2:(chunk t k).length=hi:=by rw[nE,HHI.out]
   have hbl4:=hbl.below hb4
   have hBC4:C<=w4.heap.size:=by have a:=hkk.size;have b:=hb4.size;rw[<-HC.out];omega
   have hS4:∀g,S g->g<w4.heap.size:=fun g hg=>by have:=hS3 g hg;have a:=hbbw;omega
   have hWR:=Lc C bb (t.take (512*k)) (chunk t k) (.slice vo hi vc) S w4 hbl4 hBC4 hS4 (by rw[hcl2];exact hup') (fun g hg=>by
    have h1:=hdb g (by cases vo<;>exact hg)
    have h2:=hkk.size
    rw[HC.out] at h2
    omega) (by simp;omega) (by rw[hcl2];omega)
   have HWR:=af hWR
   have z6:(hi:Int)<=(vc:Int):=by omega
   clear hdv hup' hpl hcl2 hWR hbl4
   go_upto_region 21 with (fail)
   go_wp2_with (first
    |(go_at_call 251;go_must (refine HWR.out.mono ?_;rintro e w5 ⟨rfl,hbl5,hk5⟩)))
   go_roundw
   case rel=>exact⟨k+1,by omega,by go_num,by rw[<-G5];exact hbl5,(hkk.trans (Keep.of_below hb4 (fun g=>g=bb\/C<=g)) (fun _ _ e=>e)).trans hk5 (fun _ _ e=>e)⟩
   case measure=>simp[intOf];omega
  ·obtain rfl:k=(eU rs).length:=by omega
   have y1:¬((eU rs).length:Int)<((eU rs).length:Int):=by omega
   have htt:t.take (512*(eU rs).length)=t:=aG (by rw[HLEN.out];unfold su;omega)
   rw[htt] at hbl
   have HST:=af (I4 C bb t S wr hbl)
   have HTT:=af htt
   clear htt
   go_wp2_with (first
    |(go_at_call 85;go_must (refine HST.out.mono ?_;rintro e w5 ⟨rfl,hb5⟩)))
   go_ret2
   refine⟨rfl,?_⟩
   have h1:Below w.heap.size w3 wr:=hkk.fP hbw3.size (fun i hi e=>by
    have:=HC.out
    have:=hbw3.size
    omega)
   exact(hbw3.trans h1).trans (hb5.mono (by
    have:=HC.out
    have:=hbw3.size
    omega))
theorem SQ (mp:VS)(σ:bY)(S:Nat->Prop)(w:World)(head:Nat)(t:List UInt8)(rs:List (Nat×Nat))(h:Inv σ S mp w)(hh:nV σ head t rs):
  Calls Tryz.prog 154 #[.iface 123 mp.agg,.int .i64 head] w fun e w'=>e= .returned (.tuple #[.string ⟨t.toArray⟩,.int .i64 0])/\Below w.heap.size w w':=by
 have HR:=af (Px mp σ S w head t rs h hh)
 clear h hh
 go_enter Tryz.func154,Tryz.ntmps154
 go_wp2_with (first
  |(go_at_call 203;go_must (refine HR.out.mono ?_;rintro e w1 ⟨rfl,hb⟩)))
 go_ret2
 exact⟨rfl,hb⟩
def iE (l:List Nat):List Int:=l.map fun (b:Nat)=>(b:Int)
theorem A7 (l:List Nat):ints l=(iE l).map (.int .i64):=Jz l
theorem tu {l:List Nat}(h:l.Nodup):(iE l).Nodup:=List.Pairwise.map _ (fun a b (e:a≠b)=>by show (a:Int)≠(b:Int);omega) h
structure WV (w:World)(S:Nat->Prop)(B tkb sb:Nat)(mp:VS)(bs:List Nat):Prop where
 tk:∃v,w.heap[tkb]? =some (.cells #[v] 171 (0,0))/\aP w S B 3 1 v bs.length (ints bs)
 st:w.heap[sb]? =some (.cells #[.iface 123 mp.agg] 189 (0,0))
 n1:¬S tkb
 n2:¬S sb
theorem WV.step {w w':World}{S S':Nat->Prop}{B tkb sb:Nat}{mp:VS}{bs:List Nat}(h:WV w S B tkb sb mp bs)(hs:Step S S' w w'):WV w' S' B tkb sb mp bs:=by
 obtain⟨⟨v,h1,h2⟩,h3,h4,h5⟩:=h
 have l1:=(ah.1 h1).1
 have l2:=(ah.1 h3).1
 exact⟨⟨v,(hs.1.block _ l1 h4).trans h1,h2.step hs⟩,(hs.1.block _ l2 h5).trans h3,fun x=>(hs.2 _ x).elim h4 (fun y=>absurd l1 (bE.2 y)),fun x=>(hs.2 _ x).elim h5 (fun y=>absurd l2 (bE.2 y))⟩
theorem SN (mp:VS)(σ:bY)(S:Nat->Prop)(w:World)(B tkb sb:Nat)(bs:List Nat)(er:Int)(h:Inv σ S mp w)(hv:WV w S B tkb sb mp bs)(hn:bs.Nodup)(hl:bs.length<=1000)(hall:∀b∈bs,σ.hasB (b:Nat)=true/\2<=b):
  Calls Tryz.prog 159 #[.int .i64 er,.pointer (some ⟨tkb,0,none⟩),.pointer (some ⟨sb,0,none⟩)] w fun e w'=>e= .returned (.tuple #[.int .i64 0,.int .i64 er])/\Inv (σ.frees (iE bs)) S mp w'/\Step S S w w':=by
 have HV:=af hv
 obtain⟨⟨v,h1,h2⟩,h3,h4,h5⟩:=hv
 obtain⟨xo,xc,rfl,_,_,_,_⟩:=bn.form h2.cZ
 have c1:w.cell? ⟨tkb,0,none⟩=some (.slice xo bs.length xc):=by simp[World.cell?,h1]
 have l1:=(ah.1 h1).1
 have HALL:=af hall
 have HI:=af h
 have HND:=af (tu hn)
 have HO:=af h2
 have H3:=af h3
 have HLL:=af (show (iE bs).length=bs.length by simp[iE])
 have hm:∀w,(method 607 123 mp.agg "Free").run Tryz.prog w= .ok (382,.pointer (some ⟨mp.mp,0,none⟩)) w:=fun _=>by kernel_rfl
 clear h h2 h3 hall
 go_enter Tryz.func159,Tryz.ntmps159
 go_wp2_with fail
 go_loopw [7,10] (fun _ i wr=>∃k:Nat,k<=bs.length/\i= .int .i64 k/\Inv (σ.frees ((iE bs).take k)) S mp wr/\Step S S w wr) (fun _ i _=>bs.length - (intOf i).toNat)
 case atStart=>exact⟨0,by omega,rfl,HI.out,Step.refl _ _⟩
 case round=>
  obtain⟨k,hk,rfl,hIk,hsk⟩:=hrel
  by_cases hkl:k<bs.length
  ·have y1:(k:Int)<(bs.length:Int):=by omega
   have hki:k<(iE bs).length:=by rw[HLL.out];exact hkl
   have HT:=af (Bc σ (iE bs) k hki)
   have hval:(iE bs)[k]=((bs[k]:Nat):Int):=by simp[iE]
   have hx:=HALL.out bs[k] (bG hkl)
   have hxn:(iE bs)[k]∉(iE bs).take k:=fun e=>by
    obtain⟨i,hi,e2⟩:=iM e
    rw[aC] at hi
    rw[rZ] at e2
    have:=(RG HND.out).1 e2
    omega
   have hhas:(σ.frees ((iE bs).take k)).hasB (bs[k]:Nat)=true:=by
    rw[<-hval,vQ _ _ _ (fun y hy=>by
     obtain⟨b,_,rfl⟩:=d9.1 (fo hy)
     omega) hxn,hval]
    exact hx.1
   have HFR:=af (qN mp (σ.frees ((iE bs).take k)) S wr (bs[k]:Nat) hIk (by omega) hhas)
   have hil:=(HO.out.step hsk).cZ
   rw[A7] at hil
   have hil':jq wr S (.slice xo bs.length xc) (iE bs):=by unfold jq;rw[HLL.out];exact hil
   obtain⟨pb,po,rfl,d1⟩:=hil'.at rfl k hki
   rw[hval] at d1
   have hpb:=aH wr _ d1
   have hsr:=(hsk.1.block sb (ah.1 H3.out).1 h5).trans H3.out
   have s0:wr.cell? ⟨sb,0,none⟩=some (.iface 123 mp.agg):=by simp[World.cell?,hsr]
   have sl:=(ah.1 hsr).1
   rw[hval] at HT
   clear hx hxn hhas hil hil' hki hval
   go_wp2_with (refine HFR.out.mono ?_;rintro e w2 ⟨rfl,hI2,hs2⟩)
   go_roundw
   case rel=>exact⟨k+1,by omega,by go_num,by rw[HT.out];exact hI2,hsk.trans hs2⟩
   case measure=>simp[intOf];omega
  ·have hke:k=bs.length:=by omega
   subst hke
   rw[<-HLL.out,dF] at hIk
   have y1:¬(bs.length:Int)<(bs.length:Int):=by omega
   go_wp2_with fail
   go_ret2
   exact⟨rfl,hIk,hsk⟩
theorem NP (s:ByteArray)(W:World)(hs:s.size<=1000000):∃(c:Nat) (w':World),(convert 9 119 (.string s)).run Tryz.prog W= .ok (.slice (some ⟨W.heap.size,0,none⟩) s.size c) w'/\bn w' gJ 1 (.slice (some ⟨W.heap.size,0,none⟩) s.size c) s.data.toList.length (aD s.data.toList)/\Below W.heap.size W w':=by
 refine⟨_,_,run_bytes_of_string W 9 119 5 s dJ bg jJ,?_,?_⟩
 ·have hsz:s.data.toList.length=s.size:=by show s.data.toList.length=s.data.size;simp
  rw[hsz]
  refine⟨_,_,rfl,Oj _ _ _ _,rU _ _ _ _ (by simp only[maxLen];omega),by rw[bH,hsz,aT],(fun e=>by cases e),fun ad hh=> ?_,fun j u hu=> ?_⟩
  ·cases hh
   exact⟨rfl,by simp,id⟩
  ·have hj:j<s.data.size:=by
    have:=(bT.1 hu).1
    rw[bH] at this
    simpa using this
   refine⟨_,_,rfl,?_⟩
   have hb:=bytesRow_at s (grownCap W s.size 0 5) j hj
   have hu2:u= .int .u8 (s.data[j].toNat:Int):=by
    unfold aD at hu
    rw[dM] at hu
    simp at hu
    obtain⟨a,h1,rfl⟩:=hu
    rw[Array.getElem?_eq_getElem hj] at h1
    cases h1;rfl
   rw[hu2,<-hb,eG]
   unfold World.cell?
   have:(W.drew.alloc (.cells (bytesRow s (grownCap W s.size 0 5)) 5 ((bytesRow s (grownCap W s.size 0 5)).size,(bytesRow s (grownCap W s.size 0 5)).size+1))).heap[W.heap.size]? =some (.cells (bytesRow s (grownCap W s.size 0 5)) 5 ((bytesRow s (grownCap W s.size 0 5)).size,(bytesRow s (grownCap W s.size 0 5)).size+1)):=aK W.drew _
   simp only[this]
   rfl
 ·exact((aO _ W).drew).trans (aF W.drew _)
theorem NH {σ:bY}{f:Nat}(h1:σ.hasB f=false)(h2:σ.held f=false)(h3:f<σ.most):lS σ (σ.took f) [] [(f:Int)]:=by
 have hnow:σ.now f=false:=by unfold bY.hasB at h1;simpa [h3] using h1
 have hold:σ.H.old f=false:=by unfold bY.held at h2;simpa using h2
 have hs:∀x,(σ.took f).hasB x=(σ.hasB x||decide (x=(f:Int))):=fun x=>by
  show (decide (0<=x) && (decide (x.toNat<σ.most) && gm σ.now f true x.toNat))=_
  unfold bY.hasB gm
  by_cases hx:x=(f:Int)
  ·subst hx;simp[h3]
  ·by_cases h0:0<=x
   ·rw[if_neg (by omega)];simp[hx]
   ·simp[h0,hx]
 refine⟨rfl,rfl,fun x hx _=>⟨by rw[hs,hx];rfl,rfl⟩,fun x hx=> ?_,fun _=>by simp,?_,fun x hx=> ?_⟩
 ·rw[bK.1 hx]
  exact⟨by rw[hs];simp,.inr h1⟩
 ·show countB (fun x=>gm σ.now f true x||σ.H.old x) σ.most+_=countB (fun x=>σ.now x||σ.H.old x) σ.most+_
  have e:=yH (f:=fun x=>σ.now x||σ.H.old x) (b:=f) (by rw[hnow,hold];rfl) _ h3
  have e2:countB (fun x=>gm σ.now f true x||σ.H.old x) σ.most=countB (gm (fun x=>σ.now x||σ.H.old x) f true) σ.most:=jV _ (fun x _=>by unfold gm;split<;>simp)
  rw[e2,e]
  simp[nh,h2]
 ·rw[hs,qH,eD] at hx
  rcases hx with hx|hx
  ·exact .inr ⟨hx,by simp⟩
  ·exact .inl (by rw[hx];exact aX ..)
theorem JF {σ:bY}{us:List Int}{b:Nat}{l:List UInt8}(h:∀x∈us,σ.hasB x=true)(hb:(b:Int)∈us)(h2:2<=b):lS σ (σ.wrote b l) us us:=by
 refine⟨rfl,rfl,fun x hx hn=>⟨hx,?_⟩,fun x hx=>⟨h x hx,.inl hx⟩,id,rfl,fun x hx=>by
  by_cases hu:x∈us
  ·exact .inl hu
  ·exact .inr ⟨hx,hu⟩⟩
 show σ.H.pg.look (σ.im.put b l) σ.H.dk x.toNat=σ.H.pg.look σ.im σ.H.dk x.toNat
 rw[qM,if_neg]
 intro e
 exact(hn.resolve_right id) (by rw[show x=(b:Int) by omega];exact hb)
structure NY (σ σk:bY)(bs:List Nat):Prop where
 BJ:lS σ σk [] (iE bs)
 two:∀b∈bs,2<=b/\b<σ.most
 nheld:∀b∈bs,σ.held (b:Nat)=false
 tk:σk.tk<=max σ.tk σk.sz
theorem NY.nd {σ σk:bY}{bs:List Nat}(h:NY σ σk bs):bs.Nodup:=by
 have:=h.BJ.nd oL
 unfold iE at this
 exact List.Pairwise.of_map _ (fun a b (e:(a:Int)≠b)=>fun h=>e (by rw[h])) this
theorem NY.sz {σ σk:bY}{bs:List Nat}(h:NY σ σk bs):σk.sz=σ.sz+bs.length:=by
 have:=h.BJ.size
 have e:nh σ (iE bs)=bs.length:=by
  unfold nh iE
  rw[List.filter_eq_self.2 (fun x hx=>by
   obtain⟨b,hb,rfl⟩:=d9.1 hx
   rw[h.nheld b hb];rfl)]
  simp
 rw[e] at this
 simpa [nh] using this
theorem NY.has {σ σk:bY}{bs:List Nat}(h:NY σ σk bs):∀b∈bs,σk.hasB (b:Nat)=true/\2<=b:=fun b hb=>⟨(h.BJ.new _ (jy hb)).1,(h.two b hb).1⟩
theorem NY.more {σ σk:bY}{bs:List Nat}(h:NY σ σk bs){f:Nat}(h1:σk.hasB f=false)(h2:σk.held f=false)(h3:2<=f)(h4:f<σk.most):NY σ (σk.took f) (bs++[f]):=by
 have hm:=h.BJ.most
 have c1:=NH h1 h2 h4
 have c2:=c1.left (rs:=iE bs) (by simpa using h.BJ.nd oL) (fun x hx=>(h.BJ.new x hx).1)
 have c3:=(h.BJ.trans (by simpa using c2)).perm (kr _) (bs':=iE (bs++[f])) (by
  unfold iE
  rw[bX]
  show ([(f:Int)]++bs.map fun (b:Nat)=>(b:Int)).Perm ((bs.map fun (b:Nat)=>(b:Int))++[(f:Int)])
  exact gX)
 refine⟨c3,fun b hb=> ?_,fun b hb=> ?_,?_⟩
 ·rcases bR.1 hb with hb|hb
  ·exact h.two b hb
  ·rw[bK.1 hb];exact⟨h3,by omega⟩
 ·rcases bR.1 hb with hb|hb
  ·exact h.nheld b hb
  ·rw[bK.1 hb,<-zS h.BJ.H];exact h2
 ·have e1:=h.tk
  have e2:=c1.size
  simp[nh] at e2
  have e3:(σk.took f).tk=max σk.tk (σk.took f).sz:=rfl
  omega
def Rv (mp:VS)(σ:bY)(S:Nat->Prop)(t:List UInt8)(w:World)(e:Ending)(w':World):Prop:=
 (∃(head:Nat) (rs:List (Nat×Nat)) (σ':bY),e= .returned (.tuple #[.int .i64 head,.int .i64 0])/\nV σ' head t rs/\lS σ σ' [] (jL head rs)/\σ'.tk<=max σ.tk (σ.sz+(1+su t.length))/\Inv σ' S mp w'/\Step S S w w')\/
 (e= .returned (.tuple #[.int .i64 0,.int .i64 12])/\σ.most<σ.sz+(1+su t.length)/\∃σ',Inv σ' S mp w'/\Step S S w w'/\σ'.H=σ.H/\σ'.most=σ.most)
theorem LG {P:Program}{o:Oper}{a:Act}{w w':World}{K:Act->World->Prop}{Q:Exit->Act->World->Prop}(src dst:TypeId)(x:Operand)(hop:o.op= .convert src dst x)(s:ByteArray)(hx:a.eval x= .string s)(v:Value)(hr:(convert src dst (.string s)).run P w= .ok v w')(hK:K (a.put o.dst v) w'):o.wp P a w K Q:=by
 unfold Oper.wp
 simp[execOp,hop,hx,hr,Result.andThen]
 exact hK
theorem CO (σ:bY)(b x:Nat)(l:List UInt8):(σ.wrote b l).mem (x:Nat)=if x=b then l else σ.mem (x:Nat):=by
 show σ.H.pg.look (σ.im.put b l) σ.H.dk ((x:Nat):Int).toNat=_
 rw[qM,fT]
 rfl
theorem Bp (hd:Nat)(rs:List (Nat×Nat)):(iE (hd::eU rs)).Perm (jL hd rs):=by
 show (iE ([hd]++eU rs)).Perm (iE (eU rs++[hd]))
 exact gX.map _
theorem Lb {σ2:bY}{hd:Nat}{tl:List Nat}{rs:List (Nat×Nat)}{t:List UInt8}(hrt:eU rs=tl)(ok:pW rs)(hl:tl.length=su t.length)(h1:1<=t.length)(h2:t.length<=49152)(hnd:(hd::tl).Nodup)(htwo:∀b∈hd::tl,2<=b)(hhas:∀b∈hd::tl,σ2.hasB (b:Nat)=true)(hmem:∀j (hj:j<tl.length),σ2.mem (tl[j]:Nat)=pad (chunk t j)):
  nV (σ2.wrote hd (pad (encR t.length rs))) hd t rs:=by
 subst hrt
 refine⟨⟨htwo hd (aX ..),hhas hd (aX ..),⟨List.replicate (512 - (encR t.length rs).length) 0,?_⟩,ok,hl,h1,h2⟩,?_,fun i hi=>⟨hhas _ (aU _ (bG hi)),htwo _ (aU _ (bG hi)),?_⟩⟩
 ·rw[CO,if_pos rfl];rfl
 ·exact(Bp hd rs).nodup_iff.1 (tu hnd)
 ·rw[CO,if_neg]
  ·exact hmem i hi
  ·intro e
   exact(nO.1 hnd).1 (e▸bG hi)
theorem Ru (mp:VS)(σ:bY)(S:Nat->Prop)(w:World)(data:ByteArray)(h:Inv σ S mp w)(h1:1<=data.size)(h2:data.size<=49152):
  Calls Tryz.prog 115 #[.iface 123 mp.agg,.string data] w (Rv mp σ S data.data.toList w):=by
 have hsub:=h.sub
 have HI:=af h
 have x1:¬(49152:Int)<(data.size:Int):=by omega
 have x2:data.toList.isEmpty=false:=by
  rw[toList_eq]
  cases hq:data.data.toList with
  |nil=>
   have:data.size=0:=by(show data.data.size=0);rw[<-jA,hq];rfl
   omega
  |cons a b=>rfl
 obtain⟨nb,hnb⟩:∃nb,nb=su data.size:=⟨_,rfl⟩
 have hnb1:1<=nb/\nb<=96:=by rw[hnb];unfold su;omega
 have q1:(1:Int)+((data.size:Int)+512 - 1)/512=((nb+1:Nat):Int):=by rw[hnb];unfold su;omega
 have HNB:=af hnb
 have hmT:∀w,(method 607 123 mp.agg "Take").run Tryz.prog w= .ok (383,.pointer (some ⟨mp.mp,0,none⟩)) w:=fun _=>by kernel_rfl
 have hmf:∀(fn:Fn) (first cap:Array Value) (w:World),(Instr.makeFunc fn first cap).run Tryz.prog w= .ok (.func fn first cap) w:=fun _ _ _ _=>rfl
 clear h hnb
 go_enter Tryz.func115,Tryz.ntmps115
 go_upto_region 9 with (fail)
 obtain⟨sb,HSB⟩:∃sb,Hid (w.heap.size=sb):=⟨_,af rfl⟩
 have hb0:=gy w (.cells #[.iface 123 mp.agg] 189) (.cells #[.slice none 0 0] 171)
 have hst0:((w.alloc (.cells #[.iface 123 mp.agg] 189)).alloc (.cells #[.slice none 0 0] 171)).heap[sb]? =some (.cells #[.iface 123 mp.agg] 189 (0,0)):=by
  rw[<-HSB.out];exact((aF (w.alloc _) _).block _ (by simp)).trans (aK w _)
 have htk0:((w.alloc (.cells #[.iface 123 mp.agg] 189)).alloc (.cells #[.slice none 0 0] 171)).heap[sb+1]? =some (.cells #[.slice none 0 0] 171 (0,0)):=by
  rw[<-HSB.out];have:=aK (w.alloc (.cells #[.iface 123 mp.agg] 189)) (.cells #[.slice none 0 0] 171);rwa [aV] at this
 rw[HSB.out]
 generalize (w.alloc (.cells #[.iface 123 mp.agg] 189)).alloc (.cells #[.slice none 0 0] 171)=w0 at hb0 hst0 htk0 ⊢
 have hns0:¬S sb:=fun x=>absurd (hsub sb x) (by rw[HSB.out];exact di _)
 have hns1:¬S (sb+1):=fun x=>absurd (hsub (sb+1) x) (by rw[HSB.out];omega)
 have hwv0:WV w0 S sb (sb+1) sb mp []:=⟨⟨_,htk0,aP.nil _ _ _ _ _⟩,hst0,hns1,hns0⟩
 have hI0:=HI.out.below hb0
 have hT0:NY σ σ []:=⟨lS.refl (by simp),by simp,by simp,Gx _ _⟩
 have hs0:Step S S w w0:=Step.of_below hb0
 clear hst0 htk0 hb0
 go_wp2_with fail
 go_loopw [4,5,8,9,32] (fun _ _ _ _ i wr=>∃(bs:List Nat) (σk:bY),bs.length<=nb+1/\i= .int .i64 bs.length/\Inv σk S mp wr/\WV wr S sb (sb+1) sb mp bs/\NY σ σk bs/\Step S S w wr) (fun _ _ _ _ i _=>nb+1 - (intOf i).toNat)
 case atStart=>exact⟨[],σ,by simp,rfl,hI0,hwv0,hT0,hs0⟩
 case round=>
  clear hI0 hwv0 hT0 hs0
  obtain⟨bs,σk,hk,rfl,hIk,hwv,hTk,hsk⟩:=hrel
  have HTK:=af hTk;have HWV:=af hwv
  obtain⟨⟨tv,t1,t2⟩,t3,t4,t5⟩:=hwv
  obtain⟨xo,xc,rfl,_,_,_,_⟩:=bn.form t2.cZ
  have s0:wr.cell? ⟨sb,0,none⟩=some (.iface 123 mp.agg):=by simp[World.cell?,t3]
  have sl:=(ah.1 t3).1
  have tkl:=(ah.1 t1).1
  have HT1:=af t1;have HT2:=af t2;have HT3:=af t3
  clear t1 t2 t3 hTk
  by_cases hkl:bs.length<nb+1
  ·have y1:(bs.length:Int)<((nb+1:Nat):Int):=by omega
   go_wp2_with (refine(Jc mp σk S wr hIk).mono ?_;rintro e w1 (⟨f,rfl,f1,f2,f3,f4,f6,hI1,hs1⟩|⟨rfl,hfull,hI1,hs1⟩)<;>refine Stop.of ?_)
   ·refine Stop.on ?_
    have hob1:=(hs1.1.block (sb+1) tkl t4).trans HT1.out
    have hst1:=(hs1.1.block sb sl t5).trans HT3.out
    have hown1:=HT2.out.step hs1
    have e1:w1.cell? ⟨sb+1,0,none⟩=some (.slice xo bs.length xc):=by simp[World.cell?,hob1]
    have el1:=(ah.1 hob1).1
    have hS1:∀g,S g->g<w1.heap.size:=hI1.sub
    have hsb1:sb<=w1.heap.size:=by omega
    have hTn:=HTK.out.more f3 f4 f1 f2
    have HTN:=af hTn
    have HIN:=af (show ints bs++[.int .i64 (f:Int)]=ints (bs++[f]) by simp[ints])
    clear hTn s0
    go_wp2_with (first
     |(at_builtin;go_must ((refine dB rfl (.tmp 46) (.tmp 48) 171 171 rfl S sb 3 1 8 _ aZ gU rfl (.slice xo bs.length xc) _ _ rfl (hown1.below (aF _ _)) _ 1 _ rfl (gY [.int .i64 (f:Int)] _ 1 1 1 (by simp) aZ rfl ?_) (fq hS1 _) ?_ ?_ ?_ ?_);(focus (simp[Value.oneCell']));(focus (simp only[aV];omega));(focus (unfold maxLen;omega));(focus omega);intro ao3 c3 w3 hown3 hk3 hb3 hd3;refine Stop.of ?_)))
    refine Stop.on ?_
    have hownA:=hown1.below (w':=w1.alloc (.cells #[.int .i64 (f:Int)] 3)) (aF _ _)
    have hobA:=((aF w1 (.cells #[.int .i64 (f:Int)] 3)).block (sb+1) el1).trans hob1
    have hstA:=((aF w1 (.cells #[.int .i64 (f:Int)] 3)).block sb (ah.1 hst1).1).trans hst1
    have hob3:w3.heap[sb+1]? =_:=(hk3.block _ (ah.1 hobA).1 (hownA.ne hobA (by decide))).trans hobA
    have hst3:w3.heap[sb]? =_:=(hk3.block _ (ah.1 hstA).1 (hownA.ne hstA (by decide))).trans hstA
    have g1:w3.cell? ⟨sb+1,0,none⟩=some (.slice xo bs.length xc):=by simp[World.cell?,hob3]
    have gf:w3.frozen? ⟨sb+1,0,none⟩=false:=by simp[World.frozen?,hob3]
    have gl:=(ah.1 hob3).1
    rw[HIN.out] at hown3
    have HO3:=af hown3
    clear hown3
    go_wp2_with fail
    have hk5:Keep (· =sb+1) w3 (w3.setCell ⟨sb+1,0,none⟩ (.slice ao3 (bs.length+1) c3)):=(Keep.refl (· =sb+1) _).setCell (p:=⟨sb+1,0,none⟩) (.inr rfl) _
    have hb13:Below sb w1 (w3.setCell ⟨sb+1,0,none⟩ (.slice ao3 (bs.length+1) c3)):=((aF w1 (.cells #[.int .i64 (f:Int)] 3)|>.mono hsb1).trans hb3).setCell (by show sb<=sb+1;omega) _
    have hne:=HO3.out.ne hob3 (by decide)
    have hlen2:(bs++[f]).length=bs.length+1:=by simp
    go_roundw
    case rel=>
     refine⟨bs++[f],σk.took f,by rw[hlen2];omega,by rw[hlen2];go_num,hI1.Nf hb13 (fun g hg=>by rw[<-HSB.out];exact hsub g hg),⟨⟨_,by simp[World.setCell,aS,hob3];rfl,?_⟩,(hk5.block sb (ah.1 hst3).1 (by omega)).trans hst3,t4,t5⟩,HTN.out,?_⟩
     ·rw[hlen2]
      exact HO3.out.keep fun g hg hl hs=>⟨hk5.block g hl (fun e=>hne (by rw[hg,e])),hs⟩
     ·exact(hsk.trans hs1).Mi (by rw[HSB.out];exact hb13)
    case measure=>simp[intOf];omega
   ·refine Stop.on ?_
    have hwv1:=HWV.out.step hs1
    have HBK:=af (SN mp σk S w1 sb (sb+1) sb bs 12 hI1 hwv1 HTK.out.nd (by omega) HTK.out.has)
    have hent:∀args w,(callFunc 159 args).run Tryz.prog w= .ok (.enter 159 args) w:=fun _ _=>by kernel_rfl
    go_wp2_with (first
     |(go_at_call 159;go_must (refine HBK.out.mono ?_;rintro e w2 ⟨rfl,hI2,hs2⟩)))
    go_ret2
    have htl:data.data.toList.length=data.size:=by show data.data.toList.length=data.data.size;simp
    have hz:=HTK.out.sz
    have hm:=HTK.out.BJ.most
    have hall:=HTK.out.has
    have cf:=yK (iE bs) σk (fun x hx=>by obtain⟨b,hb,rfl⟩:=d9.1 hx;exact(hall b hb).1) (tu HTK.out.nd)
    refine .inr ⟨rfl,?_,_,hI2,(hsk.trans hs1).trans hs2,cf.H.trans HTK.out.BJ.H,cf.most.trans hm⟩
    rw[htl,<-HNB.out]
    omega
  ·have hke:bs.length=nb+1:=by omega
   clear hkl
   obtain⟨hd,tl,rfl⟩:∃hd tl,bs=hd::tl:=by
    cases bs with
    |nil=>simp at hke
    |cons a b=>exact⟨a,b,rfl⟩
   have htl:tl.length=nb:=by simpa using hke
   obtain⟨wo,rfl⟩:∃x:World,x=wr:=⟨_,rfl⟩
   have hn1:(hd::tl).length=nb+1:=hke
   rw[hn1] at HT1 HT2 ⊢
   have y0:¬(((nb+1:Nat):Int))<((nb+1:Nat):Int):=by omega
   obtain⟨lb,HLB⟩:∃lb,Hid (wo.heap.size=lb):=⟨_,af rfl⟩
   have hb2:=aF wo (.cells #[.int .i64 data.size,.slice none 0 0] 271)
   have hL2:(wo.alloc (.cells #[.int .i64 data.size,.slice none 0 0] 271)).heap[lb]? =some (.cells #[.int .i64 data.size,.slice none 0 0] 271 (0,0)):=by rw[<-HLB.out];exact aK wo _
   have hsl:¬S lb:=fun x=>absurd (hIk.sub lb x) (by rw[HLB.out];exact di _)
   have hA2:lQ (wo.alloc (.cells #[.int .i64 data.size,.slice none 0 0] 271)) S lb lb data.size [] (.slice none 0 0):=⟨hL2,aP.nil _ _ _ _ _,ax _,hsl⟩
   have hI2:=hIk.below hb2
   have hW2:=HWV.out.step (Step.of_below (S:=S) hb2)
   have hs2:Step S S w (wo.alloc (.cells #[.int .i64 data.size,.slice none 0 0] 271)):=hsk.trans (Step.of_below hb2)
   obtain⟨pb,po,hxo,d0⟩:∃pb po,xo=some ⟨pb,po,none⟩/\∀i (hi:i<(hd::tl).length),wo.cell? ⟨pb,po+i,none⟩=some (.int .i64 ((hd::tl)[i]:Nat)):=by
    have hil:jq wo S (.slice xo (nb+1) xc) (iE (hd::tl)):=by
     have:=HT2.out.cZ
     rw[A7] at this
     unfold jq
     rw[show (iE (hd::tl)).length=nb+1 by simp[iE];exact htl]
     exact this
    obtain⟨pb,po,e,_⟩:=hil.at rfl 0 (by simp[iE])
    refine⟨pb,po,e,fun i hi=> ?_⟩
    obtain⟨pb',po',e',d⟩:=hil.at rfl i (by simpa [iE] using hi)
    rw[e] at e'
    cases e'
    have hv:(iE (hd::tl))[i]'(by simpa [iE] using hi)=(((hd::tl)[i]:Nat):Int):=by unfold iE;rw[List.getElem_map]
    rw[hv] at d
    exact d
   subst hxo
   have HD0:=af d0
   have hpb:pb<wo.heap.size:=aH wo _ (d0 0 (by simp))
   have hpS:¬S pb:=(HT2.out.2 pb rfl)
   have hpsb:sb<=pb:=HT2.out.lo pb rfl
   have hobr:=HT1.out
   have e1:wo.cell? ⟨sb+1,0,none⟩=some (.slice (some ⟨pb,po,none⟩) (nb+1) xc):=by simp[World.cell?,hobr]
   have E1:=(hb2.cell (p:=⟨sb+1,0,none⟩) tkl).trans e1
   have tkl2:=ak tkl hb2.size
   have hxc1:¬xc=1:=by omega
   have hxc2:(1:Int)<=(xc:Int):=by omega
   generalize hw2:wo.alloc (.cells #[.int .i64 data.size,.slice none 0 0] 271)=w2 at hb2 hL2 hA2 hI2 hW2 hs2 E1 tkl2
   have HWW2:=af hw2
   have HWV2:=af hW2
   have HSB2:=af ((hb2.block sb sl).trans HT3.out)
   have HTB2:=af ((hb2.block (sb+1) tkl).trans HT1.out)
   have HPB2:=af (fun i (hi:i<(hd::tl).length)=>(hb2.cell (p:=⟨pb,po+i,none⟩) hpb).trans (d0 i hi))
   clear d0 hL2 e1 s0 hobr hW2
   have HHB:=af hb2
   clear hb2
   go_upto_region 17 with (fail)
   rw[HLB.out]
   have hlb2:lb<w2.heap.size:=by rw[<-hw2,<-HLB.out];simp
   have hlbs:sb+1<lb:=by rw[<-HLB.out];exact tkl
   have hpbl:pb<lb:=by rw[<-HLB.out];exact hpb
   clear hw2
   obtain⟨t,ht⟩:∃t,t=data.data.toList:=⟨_,rfl⟩
   have htL:t.length=data.size:=by rw[ht];show data.data.toList.length=data.data.size;simp
   rw[<-ht]
   have HTL:=af htL;have HTT:=af ht
   have HSO:=af (show ∀g,S g->g<lb from fun g hg=>by have:=hIk.sub g hg;rwa [HLB.out] at this)
   have HNDD:=af HTK.out.nd
   have HTW:=af HTK.out.two
   have hmW:∀w,(method 607 123 mp.agg "Write").run Tryz.prog w= .ok (381,.pointer (some ⟨mp.tx,0,none⟩)) w:=fun _=>by kernel_rfl
   have hna:∀w,(nilAhead 607 123 mp.agg "Write").run Tryz.prog w= .ok (some false) w:=fun _=>by kernel_rfl
   have hC0:lS σ σk [] (iE (hd::tl)):=HTK.out.BJ
   have hend:(nb:Int)+1 - 1=(nb:Int):=by omega
   go_wp2_with fail
   go_loopw [11,12,13,58] (fun _ _ _ i wk=>∃(k:Nat) (rs:List (Nat×Nat)) (v:Value) (σ2:bY),k<=nb/\i= .int .i64 k/\lQ wk S lb lb data.size rs v/\eU rs=tl.take k/\pW rs/\Inv σ2 S mp wk/\lS σ σ2 [] (iE (hd::tl))/\σ2.tk=σk.tk/\(∀j (hj:j<tl.length),j<k->σ2.mem (tl[j]:Nat)=pad (chunk t j))/\Keep (fun g=>S g\/lb<=g) w2 wk) (fun _ _ _ i _=>nb - (intOf i).toNat)
   case atStart=>exact⟨0,[],_,σk,by omega,rfl,hA2,by simp[eU],(fun r hr=>by cases hr),hI2,hC0,rfl,fun j hj h0=>by omega,Keep.refl _ _⟩
   case round=>
    clear hA2 hI2 hC0
    obtain⟨k,rs,v,σ2,hk2,rfl,hA,hrs,hok,hIw,hCw,htkw,hmemw,hkw⟩:=hrel
    have hlw:lb<wr.heap.size:=(ah.1 hA.obj).1
    by_cases hkl:k<nb
    ·have y1:(k:Int)<(nb:Int):=by omega
     have hkt:k<tl.length:=by omega
     obtain⟨b,hbq⟩:∃b,b=tl[k]:=⟨_,rfl⟩
     have hbm:b∈hd::tl:=by rw[hbq];exact aU _ (bG hkt)
     obtain⟨hb2',hbM⟩:=HTW.out b hbm
     have dk:wr.cell? ⟨pb,po+1+k,none⟩=some (.int .i64 (b:Int)):=by
      have:=HPB2.out (k+1) (by simp;omega)
      rw[Ew,<-hbq,show po+(k+1)=po+1+k by omega] at this
      exact(hkw.cell (p:=⟨pb,po+1+k,none⟩) (lV hpbl hlb2) (fun e=>e.elim hpS (fun e=>absurd hpbl (bE.2 e)))).trans this
     have hpk:pb<wr.heap.size:=lV hpbl hlw
     have HSBk:=(hkw.block sb (by omega) (fun e=>e.elim t5 (fun e=>by omega))).trans HSB2.out
     have s0k:wr.cell? ⟨sb,0,none⟩=some (.iface 123 mp.agg):=by simp[World.cell?,HSBk]
     have slk:=(ah.1 HSBk).1
     obtain⟨lo,hlo⟩:∃lo:Nat,lo=k*512:=⟨_,rfl⟩
     obtain⟨k1,hk1⟩:∃k1:Nat,k1=k+1:=⟨_,rfl⟩
     obtain⟨up,hup⟩:∃up:Nat,up=k1*512:=⟨_,rfl⟩
     obtain⟨hi,hhi⟩:∃hi:Nat,hi=min up data.size:=⟨_,rfl⟩
     have hnbk:k*512<data.size:=by have:=HNB.out;unfold su at this;omega
     have r1:IntKind.i64.wrap ((k:Int)*512)=(lo:Int):=by rw[aM _ (by omega)];omega
     have r2:IntKind.i64.wrap ((k:Int)+1)=(k1:Int):=by rw[aM _ (by omega)];omega
     have r3:IntKind.i64.wrap ((k1:Int)*512)=(up:Int):=by rw[aM _ (by omega)];omega
     have r4:min (up:Int) (data.size:Int)=(hi:Int):=by omega
     have r5:(0:Int)<=(lo:Int):=by omega
     have r6:(lo:Int)<=(hi:Int):=by omega
     have r7:(hi:Int)<=(data.size:Int):=by omega
     have r8:lo<=hi:=by omega
     have r9:hi<=data.size:=by omega
     have hch:(data.extract lo hi).data.toList=chunk t k:=by
      rw[HTT.out]
      unfold chunk
      rw[si,vJ,hhi,hup,hk1,hlo]
      show ((data.data.toList.drop (k*512)).take (min ((k+1)*512) data.size - k*512))=_
      rw[Nat.mul_comm k 512,List.take_eq_take_iff,aJ,jA]
      show min (min ((k+1)*512) data.size - 512*k) (data.size - 512*k)=min 512 (data.size - 512*k)
      omega
     obtain⟨piece,hpc⟩:∃p,p=data.extract lo hi:=⟨_,rfl⟩
     have HCH:=af hch
     have HPC:=af hpc
     clear hlo hk1 hup hhi hch hpc
     have HHA:=af hA
     have HHI:=af hIw
     have HREL:=af (ay hrs (ay hok (ay hmemw (ay htkw hCw))))
     clear hA hIw hrs hok hmemw htkw hCw
     go_upto_region 20 with (fail)
     refine aN (fun W=>W.cell? ⟨sb,0,none⟩=some (.iface 123 mp.agg)/\sb<W.heap.size) (fun i=> !([12,16].contains i)) [0,1,2,3,4,5,6,7,8,9,10,11,13,14,15,12,16,17] rfl (by kernel_rfl) ⟨s0k,slk⟩ ?_
     repeat ((refine bL (v:= ?_) rfl rfl (fun _ _ _ h=>h) rfl (fun W hW=> ?_) ?_);rotate_left;(focus ((try dsimp only at hW);obtain⟨z0,z1⟩:=hW;have:=hna;(go_simp;first|done|with_reducible rfl)));(try simp only[Act.put,ai,au,aj]))
     have hpsz:piece.size<=1000000:=by rw[HPC.out,ByteArray.size_extract];omega
     obtain⟨pc,w4,hcv,hpv,hb4⟩:=NP piece wr.drew hpsz
     have hpl:piece.data.toList=chunk t k:=by rw[HPC.out];exact HCH.out
     have hps:piece.size=(chunk t k).length:=by rw[<-hpl];show piece.data.size=_;simp
     rw[hpl] at hpv
     rw[hps] at hcv hpv
     rw[<-HPC.out]
     have hb4':Below wr.heap.size wr w4:=((aO _ wr).drew).trans hb4
     have HCV:=af hcv;have HPV:=af hpv;have HB4:=af hb4'
     clear hcv hpv hb4 hb4'
     refine dA rfl rfl rfl ?_;intro K hK
     refine LG 9 119 (.tmp 74) rfl piece rfl _ HCV.out ?_
     clear hps hpl
     have s04:=(HB4.out.cell (p:=⟨sb,0,none⟩) slk).trans s0k
     have sl4:=ak slk HB4.out.size
     refine hK.out _ _ ⟨s04,sl4⟩ ?_
     (try simp only[Act.put,ai,au,aj])
     have hI4:=HHI.out.below HB4.out
     have hcl:(chunk t k).length<=512:=by rw[nE];omega
     have hmost2:tl[k]<σ2.most:=by
      rw[HREL.out.2.2.2.2.most,<-hbq];exact hbM
     have HWR:=af (yg mp σ2 S w4 tl[k] _ (chunk t k) hI4 hmost2 HPV.out hcl (bY.MQ (HREL.out.2.2.2.2.new _ (jy (aU _ (bG hkt)))).1 ((zS HREL.out.2.2.2.2.H _).trans (HTK.out.nheld _ (aU _ (bG hkt))))))
     obtain⟨cl,hcln⟩:∃n,Hid ((chunk t k).length=n):=⟨_,af rfl⟩
     obtain⟨vb4,hvb4⟩:∃g,Hid (wr.drew.heap.size=g):=⟨_,af rfl⟩
     rw[hcln.out,hvb4.out] at HWR ⊢
     obtain⟨bk,hbk⟩:∃g:Nat,Hid (tl[k]=g):=⟨_,af rfl⟩
     rw[hbk.out] at HWR ⊢
     refine dA rfl rfl rfl ?_;intro K hK;go_simp
     refine HWR.out.mono ?_;rintro e w5 ⟨rfl,hI5,hs5⟩
     have s05:w5.cell? ⟨sb,0,none⟩=some (.iface 123 mp.agg):=by
      have:=(hs5.1.block sb sl4 t5).trans ((HB4.out.block sb slk).trans HSBk)
      simp[World.cell?,this]
     refine hK.out _ _ ⟨s05,ak sl4 hs5.1.size⟩ ?_
     (try simp only[Act.put,ai,au,aj])
     repeat ((refine bL (v:= ?_) rfl rfl (fun _ _ _ h=>h) rfl (fun W hW=> ?_) ?_);rotate_left;(focus ((try dsimp only at hW);obtain⟨z0,z1⟩:=hW;(go_simp;first|done|with_reducible rfl)));(try simp only[Act.put,ai,au,aj]))
     refine bO ?_
     have hA5:=(HHA.out.below HB4.out).step hs5
     have hrl:rs.length<=1000:=by
      have a:=HREL.out.2.1.le
      rw[HREL.out.1,aC] at a
      omega
     have hS5:∀g,S g->g<w5.heap.size:=hI5.sub
     have hbk5:bk<=65535:=by have:=hbk.out;have:=HHI.out.cap;omega
     have HBA:=af (TU lb data.size bk rs v lb S w5 hA5 hS5 HREL.out.2.1 hrl hbk5)
     clear hrl r1 r2 r3 r4 r5 r6 r7 r8 r9 hcl
     go_wp2_with (first
      |(go_at_call 160;go_must (refine HBA.out.mono ?_;rintro e w6 ⟨rfl,⟨v6,hA6⟩,hb6⟩)))
     have hbkm:(bk:Int)∈iE (hd::tl):=by
      rw[<-hbk.out]
      exact jy (aU _ (bG hkt))
     have hbk2:2<=bk:=by rw[<-hbk.out,<-hbq];exact hb2'
     have hcw:=JF (σ:=σ2) (us:=iE (hd::tl)) (b:=bk) (l:=pad (chunk t k)) (fun x hx=>(HREL.out.2.2.2.2.new x hx).1) hbkm hbk2
     go_roundw
     case rel=>
      refine⟨k+1,yP rs bk,v6,σ2.wrote bk (pad (chunk t k)),by omega,by go_num,hA6,?_,HREL.out.2.1.add bk (by omega),hI5.Nf hb6 HSO.out,HREL.out.2.2.2.2.trans hcw,?_,?_,?_⟩
      ·rw[Hu,HREL.out.1,aQ hkt,hbk.out]
      ·exact HREL.out.2.2.2.1
      ·intro j hj hjk
       show σ2.H.pg.look (σ2.im.put bk (pad (chunk t k))) σ2.H.dk ((tl[j]:Nat):Int).toNat=_
       rw[qM,fT]
       by_cases hje:j=k
       ·subst hje
        rw[if_pos hbk.out]
       ·rw[if_neg (fun e=>by
         have hnd:=(nO.1 HNDD.out).2
         rw[<-hbk.out] at e
         exact hje ((RG hnd).1 e))]
        exact HREL.out.2.2.1 j hj (by omega)
      ·refine((hkw.trans (Keep.of_below HB4.out (fun g=>S g\/lb<=g)) (fun _ _ e=>e)).trans (hs5.1.mono (fun _ _ e=> .inl e)) (fun _ _ e=>e)).trans ?_ (fun _ _ e=>e)
       exact⟨hb6.os,hb6.tape,hb6.output,hb6.size,fun g _ hn=>hb6.block g (Nat.lt_of_not_le (fun e=>hn (.inr e)))⟩
     case measure=>simp[intOf];omega
    ·obtain rfl:k=nb:=by omega
     have hrt:eU rs=tl:=by rw[hrs];exact aG (by omega)
     have hrl96:rs.length<=96:=by have:=hok.le;rw[hrt] at this;omega
     have HSBk:=(hkw.block sb (by omega) (fun e=>e.elim t5 (fun e=>by omega))).trans HSB2.out
     have HTBk:=(hkw.block (sb+1) (by omega) (fun e=>e.elim t4 (fun e=>by omega))).trans HTB2.out
     have d0:wr.cell? ⟨pb,po,none⟩=some (.int .i64 (hd:Int)):=by
      have:=HPB2.out 0 (by simp)
      exact(hkw.cell (p:=⟨pb,po,none⟩) (lV hpbl hlb2) (fun e=>e.elim hpS (fun e=>absurd hpbl (bE.2 e)))).trans this
     have hpk:pb<wr.heap.size:=lV hpbl hlw
     have slk:=(ah.1 HSBk).1
     have tlk:=(ah.1 HTBk).1
     have HP:=af (show ∀(W:World),(∀g,g<lb->¬S g->W.heap[g]? =wr.heap[g]?)->wr.heap.size<=W.heap.size->(W.cell? ⟨sb,0,none⟩=some (.iface 123 mp.agg)/\W.cell? ⟨sb+1,0,none⟩=some (.slice (some ⟨pb,po,none⟩) (k+1) xc)/\W.cell? ⟨pb,po,none⟩=some (.int .i64 (hd:Int))/\sb<W.heap.size/\sb+1<W.heap.size/\pb<W.heap.size) from fun W hW hz=>by
      have a:=(hW sb (by omega) t5).trans HSBk
      have b:=(hW (sb+1) (by omega) t4).trans HTBk
      exact⟨by simp[World.cell?,a],by simp[World.cell?,b],(mo (w:=wr) (a:=⟨pb,po,none⟩) (hW pb hpbl hpS)).trans d0,by omega,by omega,by omega⟩)
     have HEN:=af (Pw lb data.size rs v lb S wr.drew ⟨hA.obj,hA.own.drew,hA.lo,hA.ns⟩ hIw.sub (by omega) hok (by omega))
     have HIW:=af hIw;have HCW:=af hCw
     have HREL:=af (ay hok (ay hmemw htkw))
     have HRT:=af hrt
     have hel:=zh data.size rs
     have helle:(encR data.size rs).length<=512:=by omega
     have z0:(0:Int)<((k+1:Nat):Int):=by omega
     have z1:(0:Int)<(k:Int)+1:=by omega
     have HHA:=af hA
     clear hA hIw hCw hok hmemw htkw hrs hrt hel hkl HSBk HTBk d0
     go_upto_region 25 with (fail)
     refine aN (fun W=>W.cell? ⟨sb,0,none⟩=some (.iface 123 mp.agg)/\W.cell? ⟨sb+1,0,none⟩=some (.slice (some ⟨pb,po,none⟩) (k+1) xc)/\W.cell? ⟨pb,po,none⟩=some (.int .i64 (hd:Int))/\sb<W.heap.size/\sb+1<W.heap.size/\pb<W.heap.size) (fun i=> !([5,9].contains i)) [0,1,2,3,4,6,7,8,5,9,10] rfl (by kernel_rfl) (HP.out wr.drew (fun g _ _=>rfl) (ax _)) ?_
     repeat ((refine bL (v:= ?_) rfl rfl (fun _ _ _ h=>h) rfl (fun W hW=> ?_) ?_);rotate_left;(focus ((try dsimp only at hW);obtain⟨a0,a1,a2,a3,a4,a5⟩:=hW;have:=hna;(go_simp;first|done|with_reducible rfl)));(try simp only[Act.put,ai,au,aj]))
     refine dA rfl rfl rfl ?_;intro K hK;go_simp
     refine HEN.out.mono ?_;rintro e w5 ⟨ev,rfl,hown5,hb5⟩
     obtain⟨eo,ec,rfl,_,_,_,_⟩:=bn.form hown5.cZ
     have hb5':Below wr.heap.size wr w5:=((aO _ wr).drew).trans hb5
     refine hK.out _ _ (HP.out w5 (fun g hg _=>hb5'.block g (lV hg hlw)) hb5'.size) ?_
     (try simp only[Act.put,ai,au,aj])
     have hI5:=HIW.out.below hb5'
     have hhd:=HTW.out hd (aX ..)
     have hmost2:hd<σ2.most:=by rw[HCW.out.most];exact hhd.2
     have HWR:=af (yg mp σ2 S w5 hd _ (encR data.size rs) hI5 hmost2 (bn.loose hown5.cZ) helle (bY.MQ (HCW.out.new _ (jy (aX ..))).1 ((zS HCW.out.H _).trans (HTK.out.nheld _ (aX ..)))))
     refine dA rfl rfl rfl ?_;intro K hK;go_simp
     refine HWR.out.mono ?_;rintro e w6 ⟨rfl,hI6,hs6⟩
     have hP6:=HP.out w6 (fun g hg hn=>(hs6.1.block g (ak (lV hg hlw) hb5'.size) hn).trans (hb5'.block g (lV hg hlw))) (aI hb5'.size hs6.1.size)
     refine hK.out _ _ hP6 ?_
     (try simp only[Act.put,ai,au,aj])
     repeat ((refine bL (v:= ?_) rfl rfl (fun _ _ _ h=>h) rfl (fun W hW=> ?_) ?_);rotate_left;(focus ((try dsimp only at hW);obtain⟨a0,a1,a2,a3,a4,a5⟩:=hW;(go_simp;first|done|with_reducible rfl)));(try simp only[Act.put,ai,au,aj]))
     refine bO ?_
     obtain⟨a0,a1,a2,a3,a4,a5⟩:=hP6
     go_wp2_with fail
     go_ret2
     have hcw:=JF (σ:=σ2) (us:=iE (hd::tl)) (b:=hd) (l:=pad (encR data.size rs)) (fun x hx=>(HCW.out.new x hx).1) (jy (aX ..)) hhd.1
     have hln:tl.length=su data.size:=by rw[htl,HNB.out]
     have hbl:=Lb (σ2:=σ2) (t:=t) HRT.out HREL.out.1 (by rw[HTL.out];exact hln) (by rw[HTL.out];exact h1) (by rw[HTL.out];exact h2) HNDD.out (fun b hb=>(HTW.out b hb).1) (fun b hb=>(HCW.out.new _ (jy hb)).1) (fun j hj=>HREL.out.2.1 j hj (by omega))
     rw[HTL.out] at hbl
     refine .inl ⟨hd,rs,σ2.wrote hd (pad (encR data.size rs)),rfl,?_,?_,?_,hI6,?_⟩
     ·rw[<-HTT.out];exact hbl
     ·exact(HCW.out.trans hcw).perm (kr _) (by have:=Bp hd rs;rwa [HRT.out] at this)
     ·rw[<-HTT.out,HTL.out,<-hln,htl]
      show σ2.tk<=_
      rw[HREL.out.2.2]
      have a:=HTK.out.tk
      have b:=HTK.out.sz
      rw[aY,htl] at b
      omega
     ·have hsz:w.heap.size<=lb:=by have:=HSB.out;omega
      refine⟨((hs2.1.trans hkw (fun i hi e=>e.elim id (fun y=>absurd hi (bE.2 (aI hsz y))))).trans (Keep.of_below hb5' S) (fun _ _ e=>e)).trans hs6.1 (fun _ _ e=>e),fun g hg=> .inl hg⟩
def rX:List UInt8->Option Nat
 |[a,b,c]=>if a=1 then some (b.toNat+256*c.toNat) else none
 |_=>none
theorem Jb (s:ByteArray)(w:World)(hs:s.size<=1000000):
  Calls Tryz.prog 153 #[.string s] w fun e w'=>Below w.heap.size w w'/\e= .returned (.tuple #[.int .i64 ((rX s.data.toList).getD 0:Nat),.bool (rX s.data.toList).isSome]):=by
 have hsz:s.data.toList.length=s.size:=by show s.data.toList.length=s.data.size;simp
 by_cases h3:s.size=3
 ·have y1:(s.size:Int)=3:=by omega
  obtain⟨a,b,c,hl⟩:∃a b c,s.data.toList=[a,b,c]:=by
   have:=hsz.trans h3
   revert this
   generalize s.data.toList=l
   intro h
   match l,h with
   |[a,b,c],_=>exact⟨a,b,c,rfl⟩
  have hss:s=strOf [a,b,c]:=by
   unfold strOf
   rw[<-hl]
  rw[hl]
  clear hsz hl h3
  subst hss
  have i0:∀W:World,(Instr.index 9 (.string (strOf [a,b,c])) (.int .i64 0)).run Tryz.prog W= .ok (.int .u8 (a.toNat:Int)) W:=fun W=>xA _ 0 a rfl W
  have i1:∀W:World,(Instr.index 9 (.string (strOf [a,b,c])) (.int .i64 1)).run Tryz.prog W= .ok (.int .u8 (b.toNat:Int)) W:=fun W=>xA _ 1 b rfl W
  have i2:∀W:World,(Instr.index 9 (.string (strOf [a,b,c])) (.int .i64 2)).run Tryz.prog W= .ok (.int .u8 (c.toNat:Int)) W:=fun W=>xA _ 2 c rfl W
  have hb:=b.toNat_lt;have hc:=c.toNat_lt
  obtain⟨t,ht⟩:∃t,Hid (strOf [a,b,c]=t):=⟨_,af rfl⟩
  rw[ht.out] at i0 i1 i2 hs y1 ⊢
  by_cases ha:a=1
  ·subst ha
   have hl:rX [1,b,c]=some (b.toNat+256*c.toNat):=rfl
   rw[hl]
   have j0:∀W:World,(Instr.index 9 (.string t) (.int .i64 0)).run Tryz.prog W= .ok (.int .u8 1) W:=i0
   clear i0 hl
   have q1:IntKind.i64.wrap (b.toNat:Int)=(b.toNat:Int):=aM _ (by omega)
   have q2:IntKind.i64.wrap (c.toNat:Int)=(c.toNat:Int):=aM _ (by omega)
   obtain⟨n1,hn1⟩:∃n,n=b.toNat+256*c.toNat:=⟨_,rfl⟩
   have p1:IntKind.i64.wrap ((c.toNat:Int)*256)=((256*c.toNat:Nat):Int):=by rw[aM _ (by omega)];omega
   have o1:=Fp b.toNat c.toNat 256 n1 8 rfl hb hn1 (by omega)
   have HN:=af hn1
   obtain⟨m1,hm1⟩:∃m:Nat,Hid (256*c.toNat=m):=⟨_,af rfl⟩
   rw[hm1.out] at p1 o1
   clear hn1 hb hc
   go_enter Tryz.func153,Tryz.ntmps153
   go_wp2_with fail
   refine aN (fun W=>W=w.drew) (fun i=>true) [0,1,2,3,4,5,6,7,8,9] rfl (by kernel_rfl) rfl ?_
   repeat ((refine bL (v:= ?_) rfl rfl (fun _ _ _ h=>h) rfl (fun W hW=> ?_) ?_);rotate_left;(focus ((try dsimp only at hW);subst hW;(go_simp;first|done|with_reducible rfl)));(try simp only[Act.put,ai,au,aj]))
   refine bO ?_
   go_wp2_with fail
   go_ret2
   refine⟨(aO _ w).drew,?_⟩
   rw[<-HN.out]
   rfl
  ·have hl:rX [a,b,c]=none:=if_neg ha
   rw[hl]
   have hne:¬(a.toNat:Int)=1:=fun e=>ha (Gw.1 (by show a.toNat=1;omega))
   clear hb hc hl
   go_enter Tryz.func153,Tryz.ntmps153
   go_wp2_with fail
   go_ret2
   exact⟨aO _ w,rfl⟩
 ·have y1:¬(s.size:Int)=3:=by omega
  have hn:rX s.data.toList=none:=by
   generalize s.data.toList=l at hsz
   match l,hsz with
   |[a,b,c],h=>exact absurd h (by simp;omega)
   |[],_=>rfl
   |[_],_=>rfl
   |[_,_],_=>rfl
   |_::_::_::_::_,_=>rfl
  rw[hn]
  go_enter Tryz.func153,Tryz.ntmps153
  go_wp2_with fail
  go_ret2
  exact⟨aO _ w,rfl⟩
def jR (er:Int)(key:ByteArray):Int:=if er≠0 then er else if key.size=0\/128<key.size then 1 else 0
def fI (mp:VS)(tr:Option Nat)(ch:Bool)(er:Int):Array Value:=#[.pointer (some ⟨mp.tx,0,none⟩),.pointer (some ⟨mp.mp,0,none⟩),.pointer (tr.map fun b=>⟨b,0,none⟩),.bool ch,.int .i64 er]
theorem wE (t:Nat)(mp:VS)(tr:Nat)(ch:Bool)(er:Int)(key:ByteArray)(w:World)(h:w.heap[t]? =some (.cells (fI mp (some tr) ch er) 128 (0,0))):
  Calls Tryz.prog 108 #[.pointer (some ⟨t,0,none⟩),.string key] w fun e w'=>w'=w/\e= .returned (.int .i64 (jR er key)):=by
 have c2:w.cell? ⟨t,2,none⟩=some (.pointer (some ⟨tr,0,none⟩)):=by simp[World.cell?,h,fI]
 have c4:w.cell? ⟨t,4,none⟩=some (.int .i64 er):=by simp[World.cell?,h,fI]
 have hl:=(ah.1 h).1
 have hk:key.toList.isEmpty=decide (key.size=0):=by
  rw[toList_eq]
  have:key.data.toList.length=key.size:=by show key.data.toList.length=key.data.size;simp
  rw[<-this]
  cases key.data.toList<;>simp
 clear h
 by_cases he:er=0
 ·subst he
  by_cases h0:key.size=0
  ·have hu:jR 0 key=1:=by unfold jR;rw[if_neg (by simp),if_pos (.inl h0)]
   rw[hu]
   have hk':key.toList.isEmpty=true:=by rw[hk];simp[h0]
   clear hk hu
   go_enter Tryz.func108,Tryz.ntmps108
   go_wp2_with fail
   go_ret
   exact⟨rfl,rfl⟩
  ·have hk':key.toList.isEmpty=false:=by rw[hk];simp[h0]
   clear hk
   by_cases h1:128<key.size
   ·have hu:jR 0 key=1:=by unfold jR;rw[if_neg (by simp),if_pos (.inr h1)]
    rw[hu]
    have y1:(128:Int)<(key.size:Int):=by omega
    clear hu
    go_enter Tryz.func108,Tryz.ntmps108
    go_wp2_with fail
    go_ret
    exact⟨rfl,rfl⟩
   ·have hu:jR 0 key=0:=by unfold jR;rw[if_neg (by simp),if_neg (by omega)]
    rw[hu]
    have y1:¬(128:Int)<(key.size:Int):=by omega
    clear hu
    go_enter Tryz.func108,Tryz.ntmps108
    go_wp2_with fail
    go_ret
    exact⟨rfl,rfl⟩
 ·have hu:jR er key=er:=if_pos he
  rw[hu]
  have hne:(er !=0)=true:=by simp[he]
  clear hk hu
  go_enter Tryz.func108,Tryz.ntmps108
  go_wp2_with fail
  go_ret
  exact⟨rfl,rfl⟩
theorem GJ (t:Nat)(mp:VS)(tr:Option Nat)(ch:Bool)(er e:Int)(w:World)(h:w.heap[t]? =some (.cells (fI mp tr ch er) 128 (0,0))):
  Calls Tryz.prog 110 #[.pointer (some ⟨t,0,none⟩),.int .i64 e] w fun r w'=>r= .returned (.int .i64 e)/\w'.heap[t]? =some (.cells (fI mp tr ch e) 128 (0,0))/\Keep (· =t) w w':=by
 have c4:w.cell? ⟨t,4,none⟩=some (.int .i64 er):=by simp[World.cell?,h,fI]
 have f4:w.frozen? ⟨t,4,none⟩=false:=by simp[World.frozen?,h]
 have hl:=(ah.1 h).1
 have HH:=af h
 clear h
 go_enter Tryz.func110,Tryz.ntmps110
 go_wp2_with fail
 go_ret
 refine⟨rfl,?_,(Keep.refl (· =t) _).setCell (p:=⟨t,4,none⟩) (.inr rfl) _⟩
 simp[World.setCell,aS,HH.out]
 rfl
theorem Dt (tp:Option Addr)(s:ByteArray)(w:World)(hs:s.size<=1000000)(h1:1<=s.size)(hl:rX s.data.toList=none):
  Calls Tryz.prog 111 #[.pointer tp,.string s] w fun e w'=>Below w.heap.size w w'/\e= .returned (.tuple #[.string (s.extract 1 s.size),.int .i64 0]):=by
 have HL:=af (Jb s w hs)
 rw[hl] at HL
 have r1:min (1:Int) (s.size:Int)=1:=by omega
 have r2:(1:Int)<=(s.size:Int):=by omega
 clear hl
 go_enter Tryz.func111,Tryz.ntmps111
 go_wp2_with (first
  |(go_at_call 153;go_must (refine HL.out.mono ?_;rintro e w1 ⟨hb1,rfl⟩)))
 go_ret2
 exact⟨hb1,rfl⟩
theorem EB (t:Nat)(mp:VS)(tr:Option Nat)(ch:Bool)(er:Int)(σ:bY)(S:Nat->Prop)(w:World)(s:ByteArray)(hd:Nat)(l:List UInt8)(rs:List (Nat×Nat))(h:w.heap[t]? =some (.cells (fI mp tr ch er) 128 (0,0)))(hI:Inv σ S mp w)(hB:nV σ hd l rs)(hs:s.size<=1000000)(hl:rX s.data.toList=some hd):
  Calls Tryz.prog 111 #[.pointer (some ⟨t,0,none⟩),.string s] w fun e w'=>Below w.heap.size w w'/\e= .returned (.tuple #[.string ⟨l.toArray⟩,.int .i64 0]):=by
 have HL:=af (Jb s w hs)
 rw[hl] at HL
 have HH:=af h;have HI:=af hI
 have hlt:=(ah.1 h).1
 clear hl h hI
 go_enter Tryz.func111,Tryz.ntmps111
 go_wp2_with (first
  |(go_at_call 153;go_must (refine HL.out.mono ?_;rintro e w1 ⟨hb1,rfl⟩;refine Stop.of ?_)))
 refine Stop.on ?_
 have h1:=(hb1.block t hlt).trans HH.out
 have hlt1:=ak hlt hb1.size
 have c0:w1.cell? ⟨t,0,none⟩=some (.pointer (some ⟨mp.tx,0,none⟩)):=by simp[World.cell?,h1,fI]
 have c1:w1.cell? ⟨t,1,none⟩=some (.pointer (some ⟨mp.mp,0,none⟩)):=by simp[World.cell?,h1,fI]
 have HR:=af (SQ mp σ S w1 hd l rs (HI.out.below hb1) hB)
 clear h1
 go_wp2_with (first
  |(go_at_call 154;go_must (refine HR.out.mono ?_;rintro e w2 ⟨rfl,hb2⟩)))
 go_ret2
 exact⟨hb1.trans (hb2.mono hb1.size),rfl⟩
def ValAt (σ:bY)(small v:ByteArray)(vb:List Int):Prop:=
 (small=strOf (0::v.data.toList)/\v.size<=63/\vb=[])\/
 ∃hd rs,small=strOf [1,UInt8.ofNat hd,UInt8.ofNat (hd/256)]/\(hd<65536/\63<v.size)/\nV σ hd v.data.toList rs/\vb=jL hd rs
theorem yY (l:List UInt8):rX (0::l)=none:=by
 match l with
 |[]=>rfl
 |[_]=>rfl
 |[_,_]=>rfl
 |_::_::_::_=>rfl
theorem AV (hd:Nat)(h:hd<65536):rX [1,UInt8.ofNat hd,UInt8.ofNat (hd/256)]=some hd:=by
 show some ((UInt8.ofNat hd).toNat+256*(UInt8.ofNat (hd/256)).toNat)=some hd
 rw[dY,dY]
 congr 1
 omega
theorem Ho (v:ByteArray):(strOf (0::v.data.toList)).extract 1 (strOf (0::v.data.toList)).size=v:=by
 have hs:(strOf (0::v.data.toList)).size=v.data.toList.length+1:=by show (0::v.data.toList).toArray.size=_;simp
 apply Om
 rw[si]
 apply Dr.1
 rw[vJ,hs]
 show ((0::v.data.toList).drop 1).take (v.data.toList.length+1 - 1)=v.data.toList
 rw[zo,eZ,eP]
 exact dF
theorem LV (t:Nat)(mp:VS)(tr:Option Nat)(ch:Bool)(er:Int)(σ:bY)(S:Nat->Prop)(w:World)(small v:ByteArray)(vb:List Int)(h:w.heap[t]? =some (.cells (fI mp tr ch er) 128 (0,0)))(hI:Inv σ S mp w)(hv:ValAt σ small v vb):
  Calls Tryz.prog 111 #[.pointer (some ⟨t,0,none⟩),.string small] w fun e w'=>Below w.heap.size w w'/\e= .returned (.tuple #[.string v,.int .i64 0]):=by
 rcases hv with ⟨rfl,h1,_⟩|⟨hd,rs,rfl,h1,h2,_⟩
 ·have hs:(strOf (0::v.data.toList)).size=v.size+1:=by show (0::v.data.toList).toArray.size=v.data.size+1;simp
  have:=Dt (some ⟨t,0,none⟩) (strOf (0::v.data.toList)) w (by omega) (by omega) (yY _)
  rwa [Ho] at this
 ·exact EB t mp tr ch er σ S w _ hd v.data.toList rs h hI h2 (by show [1,UInt8.ofNat hd,UInt8.ofNat (hd/256)].toArray.size<=_;simp) (AV hd h1.1)
theorem RP (t tr:Nat)(mp:VS)(root:Int)(ch:Bool)(σ:bY)(S:Nat->Prop)(w:World)(cs:List Pr)(bs:List Int)(key v:ByteArray)(vb:List Int)(h:w.heap[t]? =some (.cells (fI mp (some tr) ch 0) 128 (0,0)))(hI:Inv σ S mp w)(ht:cK w tr mp root 0)(hT:Bu σ root cs bs)(hl:cs.length<=4090)(hg:1<=key.size/\key.size<=128)(hv:∀small,dG cs key=some small->ValAt σ small v vb):
  Calls Tryz.prog 68 #[.pointer (some ⟨t,0,none⟩),.string key] w fun e w'=>e= .returned (.tuple #[.string (if (dG cs key).isSome then v else ByteArray.empty),.bool (dG cs key).isSome,.int .i64 0])/\Below w.heap.size w w':=by
 have HU:=af (wE t mp tr ch 0 key w h)
 have hu:jR 0 key=0:=by unfold jR;rw[if_neg (by simp),if_neg (by omega)]
 rw[hu] at HU
 have HG:=af (Bb tr mp root σ S cs bs key w hI ht hT hl hg)
 have c2:w.cell? ⟨t,2,none⟩=some (.pointer (some ⟨tr,0,none⟩)):=by simp[World.cell?,h,fI]
 have hlt:=(ah.1 h).1
 have HH:=af h;have HI:=af hI
 clear h hI hu ht
 cases hx:dG cs key with
 |none=>
  rw[hx] at HG
  clear hv
  go_enter Tryz.func68,Tryz.ntmps68
  go_wp2_with (first
   |(go_at_call 108;go_must (refine HU.out.mono ?_;rintro e w1 ⟨rfl,rfl⟩))
   |(go_at_call 109;go_must (refine HG.out.mono ?_;rintro e w2 ⟨rfl,hb2⟩)))
  go_ret3
  exact⟨rfl,hb2⟩
 |some small=>
  rw[hx] at HG
  have HV:=af (hv small hx)
  clear hv
  go_enter Tryz.func68,Tryz.ntmps68
  go_wp2_with (first
   |(go_at_call 108;go_must (refine HU.out.mono ?_;rintro e w1 ⟨rfl,rfl⟩))
   |(go_at_call 109;go_must (refine HG.out.mono ?_;rintro e w2 ⟨rfl,hb2⟩))
   |(go_at_call 111;go_must (refine(LV t mp (some tr) ch 0 σ S _ small v vb ((hb2.block t hlt).trans HH.out) (HI.out.below hb2) HV.out).mono ?_;rintro e w3 ⟨hb3,rfl⟩)))
  go_ret3
  exact⟨rfl,hb2.trans (hb3.mono hb2.size)⟩
theorem GL (t tr:Nat)(mp:VS)(root:Int)(ch:Bool)(er:Int)(σ:bY)(S:Nat->Prop)(w:World)(cs:List Pr)(bs:List Int)(key:ByteArray)(h:w.heap[t]? =some (.cells (fI mp (some tr) ch er) 128 (0,0)))(hI:Inv σ S mp w)(ht:cK w tr mp root 0)(hT:Bu σ root cs bs)(hl:cs.length<=4090)(hg:1<=key.size/\key.size<=128)(hv:rX ((dG cs key).getD ⟨#[]⟩).data.toList=none)(hs:((dG cs key).getD ⟨#[]⟩).size<=1000000):
  Calls Tryz.prog 114 #[.pointer (some ⟨t,0,none⟩),.string key] w fun e w'=>e= .returned (.int .i64 0)/\Below w.heap.size w w':=by
 have HG:=af (Bb tr mp root σ S cs bs key w hI ht hT hl hg)
 have c2:w.cell? ⟨t,2,none⟩=some (.pointer (some ⟨tr,0,none⟩)):=by simp[World.cell?,h,fI]
 have hlt:=(ah.1 h).1
 obtain⟨small,hsm⟩:∃s,s=(dG cs key).getD ⟨#[]⟩:=⟨_,rfl⟩
 rw[<-hsm] at HG hv hs
 have HS:=af hs
 have HL:=af hv
 clear h hI ht hv hs hsm
 go_enter Tryz.func114,Tryz.ntmps114
 go_wp2_with (first
  |(go_at_call 109;go_must (refine HG.out.mono ?_;rintro e w2 ⟨rfl,hb2⟩))
  |(go_at_call 153;go_must (refine(Jb small _ HS.out).mono ?_;rw[HL.out];rintro e w3 ⟨hb3,rfl⟩)))
 go_ret
 exact⟨rfl,hb2.trans (hb3.mono hb2.size)⟩
theorem GQ (t tr:Nat)(mp:VS)(root:Int)(ch:Bool)(er:Int)(σ:bY)(S:Nat->Prop)(w:World)(cs:List Pr)(bs:List Int)(key small:ByteArray)(hd:Nat)(l:List UInt8)(rs:List (Nat×Nat))(h:w.heap[t]? =some (.cells (fI mp (some tr) ch er) 128 (0,0)))(hI:Inv σ S mp w)(ht:cK w tr mp root 0)(hT:Bu σ root cs bs)(hl:cs.length<=4090)(hg:1<=key.size/\key.size<=128)(hx:dG cs key=some small)(hv:rX small.data.toList=some hd)(hs:small.size<=1000000)(hB:nV σ hd l rs):
  Calls Tryz.prog 114 #[.pointer (some ⟨t,0,none⟩),.string key] w fun e w'=>e= .returned (.int .i64 0)/\Inv (σ.frees (wI (jL hd rs))) S mp w'/\Step S S w w':=by
 have HG:=af (Bb tr mp root σ S cs bs key w hI ht hT hl hg)
 have c2:w.cell? ⟨t,2,none⟩=some (.pointer (some ⟨tr,0,none⟩)):=by simp[World.cell?,h,fI]
 have hlt:=(ah.1 h).1
 have HH:=af h;have HI:=af hI
 rw[hx] at HG
 have HS:=af hs
 have HL:=af hv
 clear h hI ht hv hs hx
 go_enter Tryz.func114,Tryz.ntmps114
 go_wp2_with (first
  |(go_at_call 109;go_must (refine HG.out.mono ?_;rintro e w2 ⟨rfl,hb2⟩))
  |(go_at_call 153;go_must (refine(Jb small _ HS.out).mono ?_;rw[HL.out];rintro e w3 ⟨hb3,rfl⟩;refine Stop.of ?_)))
 refine Stop.on ?_
 have hb23:=hb2.trans (hb3.mono hb2.size)
 have h1:=(hb23.block t hlt).trans HH.out
 have hlt1:=ak hlt hb23.size
 have c0:w3.cell? ⟨t,0,none⟩=some (.pointer (some ⟨mp.tx,0,none⟩)):=by simp[World.cell?,h1,fI]
 have c1:w3.cell? ⟨t,1,none⟩=some (.pointer (some ⟨mp.mp,0,none⟩)):=by simp[World.cell?,h1,fI]
 have HF:=af (SS mp σ S w3 hd l rs (HI.out.below hb23) hB)
 clear h1
 go_wp2_with (first
  |(go_at_call 158;go_must (refine HF.out.mono ?_;rintro e w4 ⟨rfl,hI4,hs4⟩)))
 go_ret
 exact⟨rfl,hI4,(Step.of_below hb23).trans hs4⟩
structure RD (σ:Dk)(l:Lg)(p:Pg):Prop where
 free:σ.mH
 ld:l.dead=false
 pd:p.dead=false
 wt:σ.waits.length<=l.used
theorem Lg.Cq {σ:Dk}{l:Lg}(h:σ.mH)(hd:l.dead=false)(hf:l.frm<σ.n):l.sync σ=((σ.flush.put l.frm l.all.fQ).flush,l.all,0):=by
 unfold Lg.sync
 rw[hd,if_neg (by simp),h.sync]
 dsimp only
 rw[if_pos rfl,Lg.yx h.flush l.all hf]
 dsimp only
 rw[if_pos rfl]
 rfl
theorem vP (σ:Dk)(f j:Nat)(x:List UInt8)(h:f≠j):((σ.flush.put f x).flush).get j=σ.get j:=by
 rw[Dk.mM,Dk.get_put,if_neg h,Dk.mM]
theorem Pg.FD (p:Pg):∀(r:List Nat) (σ:Dk),σ.mH->(∀b∈r,p.skip+b<σ.n/\(p.fresh.img b).length=512)->
  ∃σ',p.lay r σ=(σ',0)/\σ'.mH/\σ'.n=σ.n/\(∀b,σ'.get (p.skip+b)=if b∈r then p.fresh.img b else σ.get (p.skip+b))/\∀j,j<p.skip->σ'.get j=σ.get j
 |[],σ,h,_=>⟨σ,rfl,h,rfl,fun b=>by simp,fun _ _=>rfl⟩
 |b::r,σ,h,hr=>by
  obtain⟨h1,h2⟩:=hr b (aX ..)
  have hw:=h.write (p.skip+b) (p.fresh.img b) h1 (by omega)
  obtain⟨σ',q1,q2,q3,q4,q5⟩:=Pg.FD p r (σ.put (p.skip+b) (p.fresh.img b)) (h.put _ _) (fun c hc=>hr c (aU _ hc))
  refine⟨σ',?_,q2,q3,fun c=> ?_,fun j hj=> ?_⟩
  ·rw[p.xq,hw]
   dsimp only
   rw[if_pos rfl,q1]
  ·rw[q4,Dk.get_put]
   by_cases hc:c∈r
   ·rw[if_pos hc,if_pos (aU _ hc)]
   ·rw[if_neg hc]
    by_cases e:c=b
    ·subst e
     rw[if_pos rfl,if_pos (aX ..)]
     exact AB h2
    ·rw[if_neg (by omega),if_neg (fun x=>(bM.1 x).elim e hc)]
  ·rw[q5 j hj,Dk.get_put,if_neg (by omega)]
theorem Pg.KO {σ:Dk}{l:Lg}{p:Pg}(hV:RD σ l p)(hp:p.Ok σ l):
  ∃σ',p.home σ l=(σ',l.all.cut l.last,{p with fresh:=Im.none},0)/\σ'.mH/\σ'.n=σ.n/\σ'.waits=[]/\∀b,σ'.get (p.skip+b)=(p.fresh.find b).getD (σ.get (p.skip+b)):=by
 have hfit:=hp.fit
 have hfrm:=hp.frm
 have hskip:=hp.skip
 have hring:=hp.ring
 have hs:=Lg.Cq hV.free hV.ld (by omega:l.frm<σ.n)
 obtain⟨σ1,hσ1⟩:∃σ1,σ1=(σ.flush.put l.frm l.all.fQ).flush:=⟨_,rfl⟩
 rw[<-hσ1] at hs
 have hF1:σ1.mH:=by rw[hσ1];exact hV.free
 have hn1:σ1.n=σ.n:=by rw[hσ1];rfl
 have hg1:∀b,σ1.get (p.skip+b)=σ.get (p.skip+b):=fun b=>by rw[hσ1];exact vP _ _ _ _ (by omega)
 obtain⟨σ2,e2,F2,n2,g2,_⟩:=Pg.FD p p.fresh.ks σ1 hF1 (fun b hb=>⟨by have:=hp.fresh.hi b hb;omega,hp.fresh.img b hb⟩)
 have hm:=Lg.yx F2.flush (l.all.cut l.all.last) (by show l.frm<σ2.n;omega)
 have ht:l.all.trim σ2.flush l.all.last=(((σ2.flush).put l.frm (l.all.cut l.all.last).fQ).flush,l.all.cut l.all.last,0):=by
  unfold Lg.trim
  have hd:l.all.dead=false:=hV.ld
  rw[hd,if_neg (by simp),if_neg (by show ¬l.last<l.last;omega),hm]
  dsimp only
  rw[if_pos rfl]
  rfl
 refine⟨((σ2.flush).put l.frm (l.all.cut l.all.last).fQ).flush,?_,F2,by rw[<-hn1,<-n2];rfl,rfl,fun b=> ?_⟩
 ·unfold Pg.home
  rw[hs]
  dsimp only
  rw[if_pos rfl,e2]
  dsimp only
  rw[if_pos rfl,F2.sync]
  dsimp only
  rw[if_pos rfl,ht]
  dsimp only
  rw[if_pos rfl]
  rfl
 ·rw[Dk.mM,Dk.get_put,if_neg (by omega),Dk.mM,g2,hg1]
  unfold Im.find
  split<;>rfl
theorem Lg.Ai (l:Lg)(b:List UInt8)(hn:2<=l.n):∀(k i:Nat) (σ:Dk),σ.mH->l.frm+l.n<=σ.n->
  ∃σ',l.pF b k i σ=(σ',0)/\σ'.mH/\σ'.n=σ.n/\σ'.waits.length=σ.waits.length+k/\∀j,l.frm+l.n<=j->σ'.get j=σ.get j
 |0,_,σ,h,_=>⟨σ,rfl,h,rfl,rfl,fun _ _=>rfl⟩
 |k+1,i,σ,h,hf=>by
  have hr:l.ring (l.start+l.used+i)<l.frm+l.n:=by
   unfold Lg.ring
   have:=nM (l.start+l.used+i) (by omega:0<l.n - 1)
   omega
  obtain⟨x,hx⟩:∃x,x=(b.drop (i*512)).take 512:=⟨_,rfl⟩
  have hw:=h.write (l.ring (l.start+l.used+i)) x (by omega) (by rw[hx,aC];omega)
  obtain⟨σ',q1,q2,q3,q4,q5⟩:=Lg.Ai l b hn k (i+1) (σ.put (l.ring (l.start+l.used+i)) x) (h.put _ _) hf
  refine⟨σ',?_,q2,q3,?_,fun j hj=> ?_⟩
  ·rw[l.qY,<-hx,hw]
   dsimp only
   rw[if_pos rfl,q1]
  ·rw[q4]
   show (σ.waits++[_]).length+k=_
   simp;omega
  ·rw[q5 j hj,Dk.get_put,if_neg (by omega)]
theorem Pg.CQ (p:Pg)(σ:Dk)(b:Nat):p.look Im.none σ b=(p.fresh.find b).getD (σ.get (p.skip+b)):=rfl
theorem Im.CJ (m d:Im)(b:Nat):(m.over d).find b=if b∈d.ks then some (d.img b) else m.find b:=by
 unfold Im.find Im.over
 rw[Im.xG]
 simp only[Im.xE]
 by_cases h:b∈d.ks
 ·simp[h]
 ·simp[h]
theorem Pg.CG (p:Pg)(d:Im)(σ:Dk)(b:Nat):({p with fresh:=p.fresh.over d}:Pg).look Im.none σ b=p.look d σ b:=by
 rw[Pg.CQ]
 show ((p.fresh.over d).find b).getD (σ.get (p.skip+b))=_
 rw[Im.CJ]
 unfold Pg.look
 by_cases h:b∈d.ks
 ·have:d.find b=some (d.img b):=if_pos h
  rw[if_pos h,this];rfl
 ·have:d.find b=none:=if_neg h
  rw[if_neg h,this];rfl
def Pg.sU (p:Pg)(im:Im):Prop:=p.ring<dz im.bW\/1024<im.ks.length
theorem Gd {σ:Dk}{l:Lg}{p:Pg}{im:Im}(hV:RD σ l p)(hp:p.Ok σ l)(hl:l.Ok)(hi:im.Ok (p.blocks σ)):
  (im.ks=[]/\p.commit σ l im=(σ,l,p,l.last,0))\/
  (im.ks≠[]/\p.sU im/\p.commit σ l im=(σ,l,p,0,13))\/
  (im.ks≠[]/\¬p.sU im/\∃σ' l' p',p.commit σ l im=(σ',l',p',l.last+1,0)/\RD σ' l' p'/\l'.last=l.last+1/\p'.skip=p.skip/\p'.ring=p.ring/\σ'.n=σ.n/\∀b,p'.look Im.none σ' b=p.look im σ b):=by
 have hfit:=hp.fit
 have hfrm:=hp.frm
 have hskip:=hp.skip
 have hring:=hp.ring
 have hn2:=hl.n2
 by_cases hk:im.ks=[]
 ·refine .inl ⟨hk,?_⟩
  unfold Pg.commit
  rw[hV.pd,if_neg (by simp),if_pos hk]
 by_cases ho:p.sU im
 ·refine .inr (.inl ⟨hk,ho,?_⟩)
  unfold Pg.commit
  unfold Pg.sU at ho
  rw[hV.pd,if_neg (by simp),if_neg hk,if_pos ho]
 have ho':¬(p.ring<dz im.bW\/1024<im.ks.length):=ho
 refine .inr (.inr ⟨hk,ho,?_⟩)
 have hk0:0<im.ks.length:=bS.2 hk
 obtain⟨nd,hnd⟩:∃nd,dz im.bW=nd:=⟨_,rfl⟩
 rw[hnd] at ho'
 obtain⟨σ5,l5,p5,hr,V5,F5,hn5,hk5,hrg5,hl5,hf5,hsz5,hroom,hg5⟩:∃σ5 l5 p5,p.ready σ l nd=(σ5,l5,p5,0)/\(l5.dead=false/\p5.dead=false/\σ5.waits.length<=l5.used)/\σ5.mH/\σ5.n=σ.n/\p5.skip=p.skip/\p5.ring=p.ring/\l5.last=l.last/\l5.frm=l.frm/\l5.n=l.n/\nd<=l5.room/\∀b,p5.look im σ5 b=p.look im σ b:=by
  by_cases hrm:l.room<nd
  ·obtain⟨σ',h1,h2,h3,h4,h5⟩:=Pg.KO hV hp
   have hz:=Pg.C8 hl (p:=p) (σ:=σ) (by rw[h1])
   rw[h1] at hz
   refine⟨σ',l.all.cut l.last,{p with fresh:=Im.none},?_,⟨hV.ld,hV.pd,by rw[h4];exact bf _⟩,h2,h3,rfl,rfl,rfl,rfl,rfl,by have:=hz.2.2.2.1;dsimp only at this;omega,fun b=> ?_⟩
   ·unfold Pg.ready
    rw[if_pos hrm,h1]
   ·unfold Pg.look
    congr 1
    show σ'.get (p.skip+b)=_
    exact h5 b
  ·refine⟨σ,l,p,?_,⟨hV.ld,hV.pd,hV.wt⟩,hV.free,rfl,rfl,rfl,rfl,rfl,rfl,by omega,fun _=>rfl⟩
   unfold Pg.ready
   rw[if_neg hrm]
 have hbad:l5.bad im.bW=0:=by
  have:=Lg.xN (l:=l5) hi V5.1 hk0 (by omega) (by rw[hnd];exact hroom)
  rwa [oZ] at this
 obtain⟨σ6,q1,q2,q3,q4,q5⟩:=Lg.Ai l5 (oI (l5.last+1) im.bW) (by omega) (dz im.bW) 0 σ5 F5 (by omega)
 have hap:l5.append σ5 im.bW=(σ6,l5.more im.bW,l5.last+1,0):=by
  unfold Lg.append
  rw[hbad,if_neg (by simp),q1]
  dsimp only
  rw[if_pos rfl]
 have hc:=Pg.qO hV.pd hk hnd (by omega) hr hap
 rw[if_pos rfl] at hc
 refine⟨σ6,l5.more im.bW,{p5 with fresh:=p5.fresh.over im},?_,⟨q2,V5.1,V5.2.1,?_⟩,?_,hk5,hrg5,q3.trans hn5,fun b=> ?_⟩
 ·rw[hc,hl5]
 ·show _<=l5.used+dz im.bW
  rw[q4];have:=V5.2.2;omega
 ·show l5.last+1=_
  rw[hl5]
 ·rw[Pg.CG,<-hg5]
  unfold Pg.look
  rw[q5 _ (by omega)]
theorem Kb {σ:Dk}{l:Lg}{p:Pg}(hV:RD σ l p)(hp:p.Ok σ l):
  ∃σ' l',p.sync σ l=(σ',l',p,0)/\RD σ' l' p/\l'.last=l.last/\l'.synced=l.last/\σ'.n=σ.n/\∀im b,p.look im σ' b=p.look im σ b:=by
 have hfit:=hp.fit
 have hfrm:=hp.frm
 have hskip:=hp.skip
 have hring:=hp.ring
 unfold Pg.sync
 rw[hV.pd,if_neg (by simp)]
 by_cases h1:l.synced=l.last/\σ.dead=false
 ·rw[if_pos h1]
  exact⟨σ,l,rfl,hV,rfl,h1.1,rfl,fun _ _=>rfl⟩
 ·rw[if_neg h1,Lg.Cq hV.free hV.ld (by omega)]
  dsimp only
  rw[if_pos rfl]
  refine⟨_,_,rfl,⟨hV.free,hV.ld,hV.pd,bf _⟩,rfl,rfl,rfl,fun im b=> ?_⟩
  unfold Pg.look
  rw[vP _ _ _ _ (by omega)]
theorem Cs (l:Lg)(B:List UInt8)(P:(Nat->List UInt8)->Prop)(nd:Nat)(hn2:2<=l.n)(hnd:nd<=l.n - 1)(hc:∀s j x,j<nd->P s->P (qJ s (l.ring (l.start+l.used+j)) x)):
  ∀(k i:Nat) (σ:Dk),i+k<=nd->σ.dead=false->l.frm+l.n<=σ.n->Al σ P->
  (∃σ',l.pF B k i σ=(σ',0)/\σ'.dead=false/\(σ.fuel= -1->σ'.fuel= -1)/\σ'.n=σ.n/\σ'.waits.length=σ.waits.length+k/\Al σ' P/\
   (∀j,i<=j->j<i+k->σ'.get (l.ring (l.start+l.used+j))=pad ((B.drop (j*512)).take 512))/\∀x,(∀j,i<=j->j<i+k->x≠l.ring (l.start+l.used+j))->σ'.get x=σ.get x)\/
  (∃σ',l.pF B k i σ=(σ',10)/\σ'.dead=true/\σ.fuel≠-1/\σ'.n=σ.n/\Al σ' P)
 |0,i,σ,_,hd,_,hP=> .inl ⟨σ,rfl,hd,id,rfl,rfl,hP,fun j h1 h2=>absurd h2 (by omega),fun _ _=>rfl⟩
 |k+1,i,σ,hik,hd,hf,hP=>by
  have hr:l.ring (l.start+l.used+i)<l.frm+l.n:=by
   unfold Lg.ring
   have:=nM (l.start+l.used+i) (by omega:0<l.n - 1)
   omega
  obtain⟨x,hx⟩:∃x,x=(B.drop (i*512)).take 512:=⟨_,rfl⟩
  have hxl:x.length<=512:=by rw[hx,aC];omega
  rw[l.qY,<-hx]
  rcases yc hd (i:=l.ring (l.start+l.used+i)) (by omega) hxl with ⟨e,hb⟩|⟨e,hb⟩
  ·rw[e]
   dsimp only
   rw[if_pos rfl]
   obtain⟨τ,hτ⟩:∃τ,τ=σ.eF.put (l.ring (l.start+l.used+i)) x:=⟨_,rfl⟩
   rw[<-hτ]
   have hd2:τ.dead=false:=by rw[hτ];exact hb
   have hn:τ.n=σ.n:=by rw[hτ];exact σ.dx.1
   have hf2:σ.fuel= -1->τ.fuel= -1:=fun h=>by rw[hτ];exact(kW hd h).2
   have hP2:Al τ P:=by rw[hτ];exact hP.eF.put fun s hs=>hc s i _ (by omega) hs
   have hw2:τ.waits.length=σ.waits.length+1:=by rw[hτ];show (σ.eF.waits++[_]).length=_;rw[σ.dx.2.2];simp
   have hg2:∀y,τ.get y=if l.ring (l.start+l.used+i)=y then pad x else σ.get y:=fun y=>by rw[hτ,Dk.get_put,σ.pR]
   rcases Cs l B P nd hn2 hnd hc k (i+1) τ (by omega) hd2 (by omega) hP2 with ⟨σ',q1,q2,q3,q4,q5,q6,q7,q8⟩|⟨σ',q1,q2,q3,q4,q5⟩
   ·refine .inl ⟨σ',q1,q2,fun h=>q3 (hf2 h),q4.trans hn,by rw[q5,hw2];omega,q6,fun j h1 h2=> ?_,fun y hy=> ?_⟩
    ·by_cases hj:j=i
     ·subst hj
      rw[q8 _ (fun m h3 h4=>EZ (by omega) (by omega)),hg2,if_pos rfl,hx]
     ·exact q7 j (by omega) (by omega)
    ·rw[q8 y (fun m h3 h4=>hy m (by omega) (by omega)),hg2,if_neg (Ne.symm (hy i (ax _) (by omega)))]
   ·exact .inr ⟨σ',q1,q2,fun h=>q3 (hf2 h),q4.trans hn,q5⟩
  ·rw[e]
   dsimp only
   rw[if_neg (by omega)]
   refine .inr ⟨_,rfl,hb,fun h=> ?_,σ.dx.1,hP.eF⟩
   have:=(kW hd h).1
   rw[hb] at this;cases this
def CF (B:List UInt8):List UInt8:=B++List.replicate ((B.length+511)/512*512 - B.length) 0
theorem DW (B:List UInt8):(CF B).length=(B.length+511)/512*512:=by unfold CF;simp;omega
theorem Kz (B:List UInt8)(j:Nat)(h:j<(B.length+511)/512):((CF B).drop (j*512)).take 512=pad ((B.drop (j*512)).take 512):=by
 have h1:j*512<=B.length:=by omega
 have h2:(j+1)*512<=(B.length+511)/512*512:=bQ 512 h
 unfold CF pad
 rw[fH h1]
 by_cases h3:512<=B.length - j*512
 ·rw[bD (by rw[aJ];omega)]
  rw[aC,aJ,bq h3]
  simp
 ·rw[Dp,aG (l:=B.drop (j*512)) (by rw[aJ];omega),aJ,List.take_replicate]
  congr 2
  omega
theorem O6 {s:Nat->List UInt8}{l:Lg}{at_:Nat}{B:List UInt8}(h:∀j,j<(B.length+511)/512->s (l.ring (at_+j))=pad ((B.drop (j*512)).take 512)):Bw s l at_ B:=
 ⟨CF B,DW B,by unfold CF;rw[iQ],fun j hj=>by rw[h j hj,Kz B j hj]⟩
theorem Kl {σ:Dk}{l:Lg}{p:Pg}{ims:List Im}(h:Rest σ l p ims):wide (iB ims)=l.used:=by
 rw[<-h.lok.sum,h.list,Bf]
theorem I6 {σ:Dk}{l:Lg}{p:Pg}{ims:List Im}(h:Rest σ l p ims)(hd:σ.dead=false)(hld:l.dead=false){im:Im}(hb:im.Tc (p.blocks σ))(hr:dz im.bW<=l.room)(hla:l.last<1000000000000):
  (∃σ',l.append σ im.bW=(σ',l.more im.bW,l.last+1,0)/\σ'.dead=false/\(σ.fuel= -1->σ'.fuel= -1)/\σ'.n=σ.n/\(∀b,σ'.get (p.skip+b)=σ.get (p.skip+b))/\Rest σ' (l.more im.bW) {p with fresh:=p.fresh.over im} (ims++[im]))\/
  (∃σ',l.append σ im.bW=(σ',l.dies,0,10)/\σ'.dead=true/\σ.fuel≠-1/\σ'.n=σ.n/\Al σ' fun s=>qz s l ims p.skip (p.blocks σ) (fun b=>σ.get (p.skip+b)) l.synced):=by
 have hpo:=h.pok
 have hfit:=hpo.fit;have hfrm:=hpo.frm;have hskip:=hpo.skip;have hring:=hpo.ring;have hlok:=h.lok;have hsy:=hlok.sy;have hsyn:=h.wG;have hlen:=h.len
 have hn2:=hlok.n2;have hus:=hlok.us
 have hused:=Kl h
 obtain⟨nd,hnd⟩:∃nd,nd=dz im.bW:=⟨_,rfl⟩
 have hnd1:1<=nd:=by rw[hnd];exact AP _
 unfold Lg.room at hr
 have hrm:l.used+nd<=l.n - 1:=by omega
 have hbad:l.bad im.bW=0:=by
  have:=Lg.xN (l:=l) hb.ok hld hb.lo hb.hi (by unfold Lg.room;omega)
  rwa [oZ] at this
 obtain⟨N,hN⟩:∃N,N=p.blocks σ:=⟨_,rfl⟩
 obtain⟨H,hH⟩:∃H:Nat->List UInt8,H=fun b=>σ.get (p.skip+b):=⟨_,rfl⟩
 have hall:=h.all
 rw[<-hN,<-hH] at hall
 have hclose:∀s j x,j<nd->Ph l l.fQ ims (l.wG ims.length) p.skip N H s->Ph l l.fQ ims (l.wG ims.length) p.skip N H (qJ s (l.ring (l.start+l.used+j)) x):=fun s j x hj hs=>by
  have hp0:=sK l (l.start+l.used+j) hn2 hfrm
  refine⟨?_,hs.on.set fun i hi=> ?_,fun b hb=> ?_⟩
  ·unfold qJ
   rw[if_neg (by omega)]
   exact hs.mark
  ·have hw:=Ck (iB ims) (l.wG ims.length)
   exact Ji (l:=l) (a:=l.start) (b:=l.start+l.used) (k:=l.used) (m:=nd) (ax _) (by omega) (by omega) hj
  ·unfold qJ
   rw[if_neg (by omega)]
   exact hs.home b hb
 unfold Lg.append
 rw[hbad,if_neg (by simp)]
 rw[<-hnd]
 rcases Cs l (oI (l.last+1) im.bW) _ nd hn2 (by omega) hclose nd 0 σ (by omega) hd (by omega) hall with ⟨σ',q1,q2,q3,q4,q5,q6,q7,q8⟩|⟨σ',q1,q2,q3,q4,q5⟩
 ·left
  rw[q1]
  dsimp only
  rw[if_pos rfl]
  have hNb:({p with fresh:=p.fresh.over im}:Pg).blocks σ'=N:=by rw[hN];unfold Pg.blocks;rw[q4]
  have hne:∀x,(∀j,j<nd->x≠l.ring (l.start+l.used+j))->σ'.get x=σ.get x:=fun x hx=>q8 x fun j _ hj=>hx j (by omega)
  have hhome:∀b,σ'.get (p.skip+b)=σ.get (p.skip+b):=fun b=>hne _ fun j _=>by
   have:=sK l (l.start+l.used+j) hn2 hfrm
   omega
  have hlast:(l.more im.bW).last+1 - (ims++[im]).length=l.last+1 - ims.length:=by
   show l.last+1+1 - _=_
   rw[av,eB];omega
  have hbt:iB (ims++[im])=iB ims++[im.bW]:=by simp[iB]
  have hon:nK σ'.get (l.more im.bW) (l.last+1 - ims.length) (iB ims):=h.on.congr rfl rfl rfl fun j hj=>hne _ fun i hi=>
   (Ji (l:=l) (a:=l.start) (b:=l.start+l.used) (k:=l.used) (m:=nd) (ax _) (by omega) (by omega) hi).symm
  have hlie:Bw σ'.get (l.more im.bW) (l.start+wide (iB ims)) (oI (l.last+1 - ims.length+(iB ims).length) im.bW):=by
   rw[dD,show l.last+1 - ims.length+ims.length=l.last+1 by omega,hused]
   refine O6 fun j hj=> ?_
   rw[AQ] at hj
   exact q7 j (bf _) (by omega)
  have hlok':(l.more im.bW).Ok:=by
   refine⟨hlok.n2,hlok.hi,hlok.st,?_,?_,?_,?_,?_⟩
   ·show l.used+dz im.bW<=_;rw[<-hnd];exact hrm
   ·show l.last+1<=_;omega
   ·show l.synced<=l.last+1;omega
   ·intro e he
    rcases bR.1 he with he|he
    ·have:=hlok.ent e he
     exact⟨this.1,lW this.2⟩
    ·rw[bK.1 he]
     exact⟨AP _,ax _⟩
   ·show ((l.list++[(l.last+1,dz im.bW)]).map (·.2)).sum=l.used+dz im.bW
    rw[bX,wm,hlok.sum];simp
  refine⟨σ',rfl,q2,q3,q4,hhome,⟨hlok',⟨hfrm,hskip,hring,by rw[q4];exact hfit,?_⟩,?_,?_,?_,?_,?_,?_,?_,?_,?_⟩⟩
  ·show (p.fresh.over im).Ok (σ'.n - p.skip)
   rw[q4]
   exact hpo.fresh.over hb.ok
  ·show l.list++[_]=_
   rw[hlast,hbt,tH,h.list,dD]
   congr 3
   omega
  ·rw[av,eB]
   show _<=l.last+1
   omega
  ·rw[av,eB]
   show l.last+1<=l.synced+_
   omega
  ·intro i hi
   rw[hNb,hN]
   rcases bR.1 hi with hi|hi
   ·exact h.bat i hi
   ·rw[bK.1 hi];exact hb
  ·rw[hlast,hbt]
   exact hon.snoc hlie
  ·intro s hs
   have q:=q6 s hs
   have hmk:(l.more im.bW).fQ=l.fQ:=by
    refine Fw ?_
    have hfl:=rE (l:=l) (bs:=iB ims) (by rw[dD];exact h.list) (by rw[dD];exact hlen)
    have hfl':=rE (l:=l.more im.bW) (bs:=iB (ims++[im])) (by
     rw[dD,hlast,hbt,tH,dD]
     show l.list++[_]=_
     rw[h.list]
     congr 3
     omega) (by rw[dD,av,eB];show _<=l.last+1;omega)
    rw[dD] at hfl hfl'
    rw[hlast] at hfl'
    unfold Lg.fields
    rw[hfl,hfl'];rfl
   refine⟨by rw[hmk];exact q.mark,?_,fun b hb=> ?_⟩
   ·rw[hlast,hbt]
    have e:(l.more im.bW).wG (ims++[im]).length=l.wG ims.length:=by
     unfold Lg.wG
     rw[av,eB]
     show l.synced+_ - (l.last+1)=_
     omega
    rw[e,bD (by rw[dD];unfold Lg.wG;omega)]
    exact q.on.congr rfl rfl rfl fun _ _=>rfl
   ·rw[q.home b (by rw[<-hNb];exact hb),hH]
    exact(hhome b).symm
  ·intro b
   show (p.fresh.over im).find b=_
   rw[xH,Im.CJ,h.fresh b]
   unfold Im.find
   split<;>rfl
  ·show _<=l.used+dz im.bW
   rw[q5,<-hnd];have:=h.cap;omega
  ·intro e
   have e:l.synced=l.last+1:=e
   omega
 ·right
  rw[q1]
  dsimp only
  rw[if_neg (by omega)]
  refine⟨σ',rfl,q2,q3,q4,fun s hs=> ?_⟩
  rw[<-hN,<-hH]
  exact(q5 s hs).recs (l':=l) hlok hfrm hskip.symm h.list hlen (by rw[hN];exact h.bat) rfl (by unfold Lg.wG;omega) (by unfold Lg.wG;omega)
def Ep (l:Lg)(ims:List Im)(N:Nat)(H:Nat->List UInt8)(C:Nat->Nat->List UInt8):Prop:=∀k,l.synced<=k->k<=l.last->∀b,b<N->C k b=qm (ims.take (k+ims.length - l.last)) H b
def pX (σ:Dk)(l:Lg)(p:Pg)(C:Nat->Nat->List UInt8):Prop:=∃ims,Rest σ l p ims/\Ep l ims (p.blocks σ) (fun b=>σ.get (p.skip+b)) C
def Gv (σ:Dk)(l:Lg)(L N:Nat)(C:Nat->Nat->List UInt8):Prop:=Al σ fun s=>∃k,l.synced<=k/\k<=l.last/\xQ s L N k (C k)
theorem qz.Cb {s:Nat->List UInt8}{l:Lg}{ims:List Im}{L N k:Nat}{H:Nat->List UInt8}{C:Nat->Nat->List UInt8}(h:qz s l ims L N H k)(hC:Ep l ims N H C)(h1:l.synced<=k)(h2:k<=l.last):xQ s L N k (C k):=xQ.congr h fun b hb=>hC k h1 h2 b hb
theorem PK.Cb {σ':Dk}{l l':Lg}{ims:List Im}{L N:Nat}{H:Nat->List UInt8}{C:Nat->Nat->List UInt8}(h:PK σ' l' l ims L N H)(hC:Ep l ims N H C)(hs:l.synced<=l.last):Gv σ' l' L N C/\l.synced<=l'.synced/\l'.last=l.last:=by
 obtain⟨h1,⟨h2,h3⟩|⟨h2,h3⟩⟩:=h
 ·refine⟨fun s hs'=> ?_,by omega,h1⟩
  rw[h1,h2]
  rcases h3 s hs' with e|e
  ·exact⟨_,ax _,hs,e.Cb hC (ax _) hs⟩
  ·exact⟨_,hs,ax _,e.Cb hC hs (ax _)⟩
 ·refine⟨fun s hs'=> ?_,by omega,h1⟩
  rw[h1,h2]
  exact⟨_,ax _,ax _,(h3 s hs').Cb hC hs (ax _)⟩
theorem Mq {σ:Dk}{l:Lg}{p:Pg}{C:Nat->Nat->List UInt8}(h:pX σ l p C)(hd:σ.dead=false)(hld:l.dead=false)(hpd:p.dead=false):
  (∃σ' l',p.sync σ l=(σ',l',p,0)/\σ'.dead=false/\l'.dead=false/\(σ.fuel= -1->σ'.fuel= -1)/\σ'.n=σ.n/\σ'.waits=[]/\l'.last=l.last/\l'.synced=l.last/\pX σ' l' p C/\∀im b,p.look im σ' b=p.look im σ b)\/
  (∃σ' l',p.sync σ l=(σ',l',p.dies,10)/\σ'.dead=true/\σ.fuel≠-1/\σ'.n=σ.n/\Gv σ' l' p.skip (p.blocks σ) C/\l.synced<=l'.synced/\l'.last=l.last):=by
 obtain⟨ims,h,hC⟩:=h
 have hskip:=h.pok.skip;have hn2:=h.lok.n2;have hsy:=h.lok.sy
 unfold Pg.sync
 rw[hpd,if_neg (by simp)]
 by_cases h1:l.synced=l.last/\σ.dead=false
 ·rw[if_pos h1]
  exact .inl ⟨σ,l,rfl,hd,hld,id,rfl,h.wt h1.1,rfl,h1.1,⟨ims,h,hC⟩,fun _ _=>rfl⟩
 ·rw[if_neg h1]
  rcases CP h hd hld with ⟨σ',e,a1,a2,a3,a4,a5,a6⟩|⟨σ',e,a1,a2,a3,a4⟩
  ·rw[e]
   dsimp only
   rw[if_pos rfl]
   have hg:∀b,σ'.get (p.skip+b)=σ.get (p.skip+b):=fun b=>a5 _ (by omega)
   have hNb:p.blocks σ'=p.blocks σ:=by unfold Pg.blocks;rw[a3]
   refine .inl ⟨σ',_,rfl,a1,hld,a2,a3,a4,rfl,rfl,⟨ims,a6,fun k k1 k2 b hb=> ?_⟩,fun im b=> ?_⟩
   ·have k1:l.last<=k:=k1
    rw[hNb] at hb
    rw[hC k (by omega) k2 b hb]
    show (findAll _ b).getD (σ.get (p.skip+b))=(findAll _ b).getD (σ'.get (p.skip+b))
    rw[hg];rfl
   ·unfold Pg.look
    rw[hg]
  ·rw[e]
   dsimp only
   rw[if_neg (by omega)]
   have:=a4.Cb hC hsy
   exact .inr ⟨σ',_,rfl,a1,a2,a3,this⟩
def D9 (C:Nat->Nat->List UInt8)(n:Nat)(x:Nat->List UInt8):Nat->Nat->List UInt8:=fun k=>if k=n then x else C k
theorem Gf {σ:Dk}{l:Lg}{p:Pg}{C:Nat->Nat->List UInt8}(h:pX σ l p C)(hd:σ.dead=false)(hld:l.dead=false)(hpd:p.dead=false){im:Im}(hi:im.Ok (p.blocks σ))(hla:l.last<1000000000000):
  (im.ks=[]/\p.commit σ l im=(σ,l,p,l.last,0))\/
  (im.ks≠[]/\p.sU im/\p.commit σ l im=(σ,l,p,0,13))\/
  (im.ks≠[]/\¬p.sU im/\((∃σ' l' p',p.commit σ l im=(σ',l',p',l.last+1,0)/\σ'.dead=false/\l'.dead=false/\p'.dead=false/\(σ.fuel= -1->σ'.fuel= -1)/\l'.last=l.last+1/\l.synced<=l'.synced/\p'.skip=p.skip/\p'.ring=p.ring/\σ'.n=σ.n/\
    pX σ' l' p' (D9 C (l.last+1) (p.look im σ))/\∀b,b<p.blocks σ->p'.look Im.none σ' b=p.look im σ b)\/
   ∃σ' l' p',p.commit σ l im=(σ',l',p',0,10)/\σ'.dead=true/\σ.fuel≠-1/\p'.skip=p.skip/\σ'.n=σ.n/\Gv σ' l' p.skip (p.blocks σ) C/\l.synced<=l'.synced/\l'.last=l.last)):=by
 by_cases hk:im.ks=[]
 ·refine .inl ⟨hk,?_⟩
  unfold Pg.commit
  rw[hpd,if_neg (by simp),if_pos hk]
 by_cases ho:p.sU im
 ·refine .inr (.inl ⟨hk,ho,?_⟩)
  unfold Pg.commit
  unfold Pg.sU at ho
  rw[hpd,if_neg (by simp),if_neg hk,if_pos ho]
 refine .inr (.inr ⟨hk,ho,?_⟩)
 have ho':¬(p.ring<dz im.bW\/1024<im.ks.length):=ho
 have hk0:0<im.ks.length:=bS.2 hk
 have hbat:im.Tc (p.blocks σ):=⟨hi,hk0,by omega⟩
 obtain⟨ims,h,hC⟩:=h
 have hsy:=h.lok.sy;have hsyn:=h.wG;have hring:=h.pok.ring;have hus:=h.lok.us;have hn2:=h.lok.n2
 obtain⟨nd,hnd⟩:∃nd,dz im.bW=nd:=⟨_,rfl⟩
 rw[hnd] at ho'
 obtain⟨N,hN⟩:∃N,N=p.blocks σ:=⟨_,rfl⟩
 rw[<-hN] at hC hbat ⊢
 have hready:(∃σ5 l5 p5 ims5,p.ready σ l nd=(σ5,l5,p5,0)/\σ5.dead=false/\l5.dead=false/\p5.dead=false/\(σ.fuel= -1->σ5.fuel= -1)/\σ5.n=σ.n/\p5.skip=p.skip/\p5.ring=p.ring/\l5.last=l.last/\l.synced<=l5.synced/\nd<=l5.room/\Rest σ5 l5 p5 ims5/\Ep l5 ims5 N (fun b=>σ5.get (p.skip+b)) C/\∀b,b<N->p5.look im σ5 b=p.look im σ b)\/
   (∃σ5 l5,p.ready σ l nd=(σ5,l5,p.dies,10)/\σ5.dead=true/\σ.fuel≠-1/\σ5.n=σ.n/\Gv σ5 l5 p.skip N C/\l.synced<=l5.synced/\l5.last=l.last):=by
  unfold Pg.ready
  by_cases hrm:l.room<nd
  ·rw[if_pos hrm]
   rcases Nr h hd hld hpd with ⟨σ5,e,a1,a2,a3,a4,a5,a6⟩|⟨σ5,l5,e,a1,a2,a3,a4⟩
   ·rw[<-hN] at a6
    have hc:=JE (l:=l.all) ⟨h.lok.n2,h.lok.hi,h.lok.st,h.lok.us,h.lok.la,ax _,h.lok.ent,h.lok.sum⟩
    obtain⟨k1,k2,k3,k4,k5,k6,k7⟩:=hc
    have k2:(l.all.cut l.last).used=0:=k2
    have k4:(l.all.cut l.last).n=l.n:=k4
    have k5:(l.all.cut l.last).last=l.last:=k5
    have k6:(l.all.cut l.last).synced=l.last:=k6
    have k7:(l.all.cut l.last).dead=l.dead:=k7
    refine .inl ⟨σ5,_,_,[],e,a1,by rw[k7];exact hld,hpd,a2,a3,rfl,rfl,k5,by rw[k6];exact hsy,?_,a5,fun k q1 q2 b hb=> ?_,fun b hb=> ?_⟩
    ·unfold Lg.room
     rw[k2,k4];omega
    ·rw[k6] at q1
     rw[k5] at q2
     obtain rfl:k=l.last:=by omega
     rw[hC _ hsy (ax _) b hb,dH,aG (ax _),<-a6 b hb]
     show σ5.get (p.skip+b)=qm (List.take _ []) _ b
     rw[List.take_nil];rfl
    ·unfold Pg.look
     congr 1
     show (Im.none.find b).getD _=_
     have e1:Im.none.find b=none:=rfl
     rw[e1]
     show σ5.get (p.skip+b)=_
     rw[a6 b hb,h.fresh b];rfl
   ·rw[<-hN] at a4
    exact .inr ⟨σ5,l5,e,a1,a2,a3,a4.Cb hC hsy⟩
  ·rw[if_neg hrm]
   exact .inl ⟨σ,l,p,ims,rfl,hd,hld,hpd,id,rfl,rfl,rfl,rfl,ax _,by omega,h,hC,fun _ _=>rfl⟩
 rcases hready with ⟨σ5,l5,p5,ims5,e5,b1,b2,b3,b4,b5,b6,b7,b8,b9,b10,b11,b12,b13⟩|⟨σ5,l5,e5,b1,b2,b3,b4,b5,b6⟩
 ·have hN5:p5.blocks σ5=N:=by rw[hN];unfold Pg.blocks;rw[b5,b6]
  rcases I6 b11 b1 b2 (im:=im) (by rw[hN5];exact hbat) (by rw[hnd];exact b10) (by omega) with ⟨σ6,e6,c1,c2,c3,c4,c5⟩|⟨σ6,e6,c1,c2,c3,c4⟩
  ·left
   have hc:=Pg.qO hpd hk hnd (by omega) e5 e6
   rw[if_pos rfl] at hc
   rw[b8] at hc
   have hlk:∀b,({p5 with fresh:=p5.fresh.over im}:Pg).look Im.none σ6 b=p5.look im σ5 b:=fun b=>by
    rw[Pg.CG]
    unfold Pg.look
    rw[c4]
   refine⟨σ6,_,_,hc,c1,b2,b3,fun hf=>c2 (b4 hf),?_,b9,b6,b7,c3.trans b5,⟨_,c5,fun k q1 q2 b hb=> ?_⟩,fun b hb=>by rw[hlk,b13 b hb]⟩
   ·show l5.last+1=_
    rw[b8]
   ·have hNb:({p5 with fresh:=p5.fresh.over im}:Pg).blocks σ6=N:=by rw[<-hN5];unfold Pg.blocks;rw[c3]
    rw[hNb] at hb
    have q1:l5.synced<=k:=q1
    have q2:k<=l5.last+1:=q2
    have hsyn5:=b11.wG
    have hlast:(l5.more im.bW).last=l5.last+1:=rfl
    rw[hlast]
    unfold D9
    by_cases hkl:k=l.last+1
    ·rw[if_pos hkl]
     have e1:k+(ims5++[im]).length - (l5.last+1)=(ims5++[im]).length:=by omega
     rw[e1,aG (ax _),<-b13 b hb]
     unfold qm Pg.look
     rw[xH,<-b11.fresh b]
     show _=((im.find b).or (p5.fresh.find b)).getD (σ6.get (p5.skip+b))
     rw[c4]
     cases im.find b<;>rfl
    ·rw[if_neg hkl,b12 k q1 (by omega) b hb]
     have e1:k+(ims5++[im]).length - (l5.last+1)=k+ims5.length - l5.last:=by rw[av,eB];omega
     rw[e1,bD (by omega)]
     unfold qm
     show _=(findAll _ b).getD (σ6.get (p5.skip+b))
     rw[c4,b6]
  ·right
   have hc:=Pg.qO hpd hk hnd (by omega) e5 e6
   rw[if_neg (by omega)] at hc
   refine⟨σ6,_,_,hc,c1,fun hf=>c2 (b4 hf),b6,c3.trans b5,fun s hs=> ?_,b9,b8⟩
   have q:=c4 s hs
   rw[hN5,b6] at q
   exact⟨l5.synced,ax _,b11.lok.sy,q.Cb b12 (ax _) b11.lok.sy⟩
 ·right
  refine⟨σ5,l5,p.dies,?_,b1,b2,rfl,b3,b4,b5,b6⟩
  unfold Pg.commit
  rw[hpd,if_neg (by simp),if_neg hk,hnd,if_neg (by omega),e5]
  dsimp only
  rw[if_neg (by omega)]
end Go.Proofs.YtbfjgkafmlbpcaaGreatDoor
