/- parts -/
import Derived.Test.YtpgdljlghiifjaaGreatDoorM23
set_option maxRecDepth 100000
set_option maxHeartbeats 8000000
set_option linter.all false
namespace Go.Proofs.YtpgdljlghiifjaaGreatDoor
open Go.RowKit
def Si (mp:VS)(σ:dF)(S:Nat->Prop)(t:List UInt8)(w:World)(e:Ending)(w':World):Prop:=
 (∃(head:Nat) (rs:List (Nat×Nat)) (σ':dF),e= .returned (.tuple #[.int .i64 head,.int .i64 0])/\oQ σ' head t rs/\lM σ σ' [] (jY head rs)/\σ'.tk<=max σ.tk (σ.sz+(1+sJ t.length))/\Inv σ' S mp w'/\Step S S w w')\/
 (e= .returned (.tuple #[.int .i64 0,.int .i64 12])/\σ.most<σ.sz+(1+sJ t.length)/\∃σ',Inv σ' S mp w'/\Step S S w w'/\σ'.H=σ.H/\σ'.most=σ.most)
theorem M0 {P:Program}{o:Oper}{a:Act}{w w':World}{K:Act->World->Prop}{Q:Exit->Act->World->Prop}(src dst:TypeId)(x:Operand)(hop:o.op= .convert src dst x)(s:ByteArray)(hx:a.eval x= .string s)(v:Value)(hr:(convert src dst (.string s)).run P w= .ok v w')(hK:K (a.put o.dst v) w'):o.wp P a w K Q:=by
 unfold Oper.wp
 simp[execOp,hop,hx,hr,Result.andThen]
 exact hK
theorem Dr (σ:dF)(b x:Nat)(l:List UInt8):(σ.wrote b l).mem (x:Nat)=if x=b then l else σ.mem (x:Nat):=by
 show σ.H.pg.look (σ.im.put b l) σ.H.dk ((x:Nat):Int).toNat=_
 rw[rE,gH]
 rfl
theorem BZ (hd:Nat)(rs:List (Nat×Nat)):(iU (hd::fJ rs)).Perm (jY hd rs):=by
 show (iU ([hd]++fJ rs)).Perm (iU (fJ rs++[hd]))
 exact fV.map _
theorem MF {σ2:dF}{hd:Nat}{tl:List Nat}{rs:List (Nat×Nat)}{t:List UInt8}(hrt:fJ rs=tl)(ok:qz rs)(hl:tl.length=sJ t.length)(h1:1<=t.length)(h2:t.length<=49152)(hnd:(hd::tl).Nodup)(htwo:∀b∈hd::tl,2<=b)(hhas:∀b∈hd::tl,σ2.hasB (b:Nat)=true)(hmem:∀j (hj:j<tl.length),σ2.mem (tl[j]:Nat)=pad (chunk t j)):
  oQ (σ2.wrote hd (pad (encR t.length rs))) hd t rs:=by
 subst hrt
 refine⟨⟨htwo hd (bF ..),hhas hd (bF ..),⟨List.replicate (512 - (encR t.length rs).length) 0,?_⟩,ok,hl,h1,h2⟩,?_,fun i hi=>⟨hhas _ (bq _ (bD hi)),htwo _ (bq _ (bD hi)),?_⟩⟩
 ·rw[Dr,if_pos rfl];rfl
 ·exact(BZ hd rs).nodup_iff.1 (uJ hnd)
 ·rw[Dr,if_neg]
  ·exact hmem i hi
  ·intro e
   exact(oH.1 hnd).1 (e▸bD hi)
theorem Sc (mp:VS)(σ:dF)(S:Nat->Prop)(w:World)(data:ByteArray)(h:Inv σ S mp w)(h1:1<=data.size)(h2:data.size<=49152):
  Calls Tryz.prog 65 #[.iface 105 mp.agg,.string data] w (Si mp σ S data.data.toList w):=by
 have hsub:=h.sub
 have HI:=af h
 have x1:¬(49152:Int)<(data.size:Int):=by omega
 have x2:data.toList.isEmpty=false:=by
  rw[toList_eq]
  cases hq:data.data.toList with
  |nil=>
   have:data.size=0:=by(show data.data.size=0);rw[<-jL,hq];rfl
   omega
  |cons a b=>rfl
 obtain⟨nb,hnb⟩:∃nb,nb=sJ data.size:=⟨_,rfl⟩
 have hnb1:1<=nb/\nb<=96:=by rw[hnb];unfold sJ;omega
 have q1:(1:Int)+((data.size:Int)+512 - 1)/512=((nb+1:Nat):Int):=by rw[hnb];unfold sJ;omega
 have HNB:=af hnb
 have hmT:∀w,(method 475 105 mp.agg "Take").run Tryz.prog w= .ok (286,.pointer (some ⟨mp.mp,0,none⟩)) w:=fun _=>by kernel_rfl
 have hmf:∀(fn:Fn) (first cap:Array Value) (w:World),(Instr.makeFunc fn first cap).run Tryz.prog w= .ok (.func fn first cap) w:=fun _ _ _ _=>rfl
 clear h hnb
 go_enter Tryz.func65,Tryz.ntmps65
 go_upto_region 9 with (fail)
 obtain⟨sb,HSB⟩:∃sb,Hid (w.heap.size=sb):=⟨_,af rfl⟩
 have hb0:=gm w (.cells #[.iface 105 mp.agg] 168) (.cells #[.slice none 0 0] 151)
 have hst0:((w.alloc (.cells #[.iface 105 mp.agg] 168)).alloc (.cells #[.slice none 0 0] 151)).heap[sb]? =some (.cells #[.iface 105 mp.agg] 168 (0,0)):=by
  rw[<-HSB.out];exact((aK (w.alloc _) _).block _ (by simp)).trans (aP w _)
 have htk0:((w.alloc (.cells #[.iface 105 mp.agg] 168)).alloc (.cells #[.slice none 0 0] 151)).heap[sb+1]? =some (.cells #[.slice none 0 0] 151 (0,0)):=by
  rw[<-HSB.out];have:=aP (w.alloc (.cells #[.iface 105 mp.agg] 168)) (.cells #[.slice none 0 0] 151);rwa [aU] at this
 rw[HSB.out]
 generalize (w.alloc (.cells #[.iface 105 mp.agg] 168)).alloc (.cells #[.slice none 0 0] 151)=w0 at hb0 hst0 htk0 ⊢
 have hns0:¬S sb:=fun x=>absurd (hsub sb x) (by rw[HSB.out];exact dM _)
 have hns1:¬S (sb+1):=fun x=>absurd (hsub (sb+1) x) (by rw[HSB.out];omega)
 have hwv0:WV w0 S sb (sb+1) sb mp []:=⟨⟨_,htk0,aT.nil _ _ _ _ _⟩,hst0,hns1,hns0⟩
 have hI0:=HI.out.below hb0
 have hT0:Pb σ σ []:=⟨lM.refl (by simp),by simp,by simp,Ip _ _⟩
 have hs0:Step S S w w0:=Step.of_below hb0
 clear hst0 htk0 hb0
 go_wp2_with fail
 go_loopw [4,5,8,9,32] (fun _ _ _ _ i wr=>∃(bs:List Nat) (σk:dF),bs.length<=nb+1/\i= .int .i64 bs.length/\Inv σk S mp wr/\WV wr S sb (sb+1) sb mp bs/\Pb σ σk bs/\Step S S w wr) (fun _ _ _ _ i _=>nb+1 - (intOf i).toNat)
 case atStart=>exact⟨[],σ,by simp,rfl,hI0,hwv0,hT0,hs0⟩
 case round=>
  clear hI0 hwv0 hT0 hs0
  obtain⟨bs,σk,hk,rfl,hIk,hwv,hTk,hsk⟩:=hrel
  have HTK:=af hTk;have HWV:=af hwv
  obtain⟨⟨tv,t1,t2⟩,t3,t4,t5⟩:=hwv
  obtain⟨xo,xc,rfl,_,_,_,_⟩:=bJ.form t2.dI
  have s0:wr.cell? ⟨sb,0,none⟩=some (.iface 105 mp.agg):=by simp[World.cell?,t3]
  have sl:=(aj.1 t3).1
  have tkl:=(aj.1 t1).1
  have HT1:=af t1;have HT2:=af t2;have HT3:=af t3
  clear t1 t2 t3 hTk
  by_cases hkl:bs.length<nb+1
  ·have y1:(bs.length:Int)<((nb+1:Nat):Int):=by omega
   go_wp2_with (refine(Kc mp σk S wr hIk).mono ?_;rintro e w1 (⟨f,rfl,f1,f2,f3,f4,f6,hI1,hs1⟩|⟨rfl,hfull,hI1,hs1⟩)<;>refine Stop.of ?_)
   ·refine Stop.on ?_
    have hob1:=(hs1.1.block (sb+1) tkl t4).trans HT1.out
    have hst1:=(hs1.1.block sb sl t5).trans HT3.out
    have hown1:=HT2.out.step hs1
    have e1:w1.cell? ⟨sb+1,0,none⟩=some (.slice xo bs.length xc):=by simp[World.cell?,hob1]
    have el1:=(aj.1 hob1).1
    have hS1:∀g,S g->g<w1.heap.size:=hI1.sub
    have hsb1:sb<=w1.heap.size:=by omega
    have hTn:=HTK.out.more f3 f4 f1 f2
    have HTN:=af hTn
    have HIN:=af (show ints bs++[.int .i64 (f:Int)]=ints (bs++[f]) by simp[ints])
    clear hTn s0
    go_wp2_with (first
     |(at_builtin;go_must ((refine dQ rfl (.tmp 46) (.tmp 48) 151 151 rfl S sb 3 1 8 _ bG iF rfl (.slice xo bs.length xc) _ _ rfl (hown1.below (aK _ _)) _ 1 _ rfl (iq [.int .i64 (f:Int)] _ 1 1 1 (by simp) bG rfl ?_) (fP hS1 _) ?_ ?_ ?_ ?_);(focus (simp[Value.oneCell']));(focus (simp only[aU];omega));(focus (unfold maxLen;omega));(focus omega);intro ao3 c3 w3 hown3 hk3 hb3 hd3;refine Stop.of ?_)))
    refine Stop.on ?_
    have hownA:=hown1.below (w':=w1.alloc (.cells #[.int .i64 (f:Int)] 3)) (aK _ _)
    have hobA:=((aK w1 (.cells #[.int .i64 (f:Int)] 3)).block (sb+1) el1).trans hob1
    have hstA:=((aK w1 (.cells #[.int .i64 (f:Int)] 3)).block sb (aj.1 hst1).1).trans hst1
    have hob3:w3.heap[sb+1]? =_:=(hk3.block _ (aj.1 hobA).1 (hownA.ne hobA (by decide))).trans hobA
    have hst3:w3.heap[sb]? =_:=(hk3.block _ (aj.1 hstA).1 (hownA.ne hstA (by decide))).trans hstA
    have g1:w3.cell? ⟨sb+1,0,none⟩=some (.slice xo bs.length xc):=by simp[World.cell?,hob3]
    have gf:w3.frozen? ⟨sb+1,0,none⟩=false:=by simp[World.frozen?,hob3]
    have gl:=(aj.1 hob3).1
    rw[HIN.out] at hown3
    have HO3:=af hown3
    clear hown3
    go_wp2_with fail
    have hk5:Keep (· =sb+1) w3 (w3.setCell ⟨sb+1,0,none⟩ (.slice ao3 (bs.length+1) c3)):=(Keep.refl (· =sb+1) _).setCell (p:=⟨sb+1,0,none⟩) (.inr rfl) _
    have hb13:Below sb w1 (w3.setCell ⟨sb+1,0,none⟩ (.slice ao3 (bs.length+1) c3)):=((aK w1 (.cells #[.int .i64 (f:Int)] 3)|>.mono hsb1).trans hb3).setCell (by show sb<=sb+1;omega) _
    have hne:=HO3.out.ne hob3 (by decide)
    have hlen2:(bs++[f]).length=bs.length+1:=by simp
    go_roundw
    case rel=>
     refine⟨bs++[f],σk.took f,by rw[hlen2];omega,by rw[hlen2];go_num,hI1.Og hb13 (fun g hg=>by rw[<-HSB.out];exact hsub g hg),⟨⟨_,by simp[World.setCell,bn,hob3];rfl,?_⟩,(hk5.block sb (aj.1 hst3).1 (by omega)).trans hst3,t4,t5⟩,HTN.out,?_⟩
     ·rw[hlen2]
      exact HO3.out.keep fun g hg hl hs=>⟨hk5.block g hl (fun e=>hne (by rw[hg,e])),hs⟩
     ·exact(hsk.trans hs1).Nn (by rw[HSB.out];exact hb13)
    case measure=>simp[intOf];omega
   ·refine Stop.on ?_
    have hwv1:=HWV.out.step hs1
    have HBK:=af (TG mp σk S w1 sb (sb+1) sb bs 12 hI1 hwv1 HTK.out.nd (by omega) HTK.out.has)
    have hent:∀args w,(callFunc 104 args).run Tryz.prog w= .ok (.enter 104 args) w:=fun _ _=>by kernel_rfl
    go_wp2_with (first
     |(go_at_call 104;go_must (refine HBK.out.mono ?_;rintro e w2 ⟨rfl,hI2,hs2⟩)))
    go_ret2
    have htl:data.data.toList.length=data.size:=by show data.data.toList.length=data.data.size;simp
    have hz:=HTK.out.sz
    have hm:=HTK.out.BS.most
    have hall:=HTK.out.has
    have cf:=zu (iU bs) σk (fun x hx=>by obtain⟨b,hb,rfl⟩:=dL.1 hx;exact(hall b hb).1) (uJ HTK.out.nd)
    refine .inr ⟨rfl,?_,_,hI2,(hsk.trans hs1).trans hs2,cf.H.trans HTK.out.BS.H,cf.most.trans hm⟩
    rw[htl,<-HNB.out]
    omega
  ·have hke:bs.length=nb+1:=by omega
   clear hkl
   obtain⟨hd,tl,rfl⟩:∃hd tl,bs=hd::tl:=by
    cases bs with
    |nil=>simp at hke
    |cons a b=>exact⟨a,b,rfl⟩
   have htl:tl.length=nb:=by simpa using hke
   obtain⟨wo,rfl⟩:∃x:World,x=wr:=⟨_,rfl⟩
   have hn1:(hd::tl).length=nb+1:=hke
   rw[hn1] at HT1 HT2 ⊢
   have y0:¬(((nb+1:Nat):Int))<((nb+1:Nat):Int):=by omega
   obtain⟨lb,HLB⟩:∃lb,Hid (wo.heap.size=lb):=⟨_,af rfl⟩
   have hb2:=aK wo (.cells #[.int .i64 data.size,.slice none 0 0] 179)
   have hL2:(wo.alloc (.cells #[.int .i64 data.size,.slice none 0 0] 179)).heap[lb]? =some (.cells #[.int .i64 data.size,.slice none 0 0] 179 (0,0)):=by rw[<-HLB.out];exact aP wo _
   have hsl:¬S lb:=fun x=>absurd (hIk.sub lb x) (by rw[HLB.out];exact dM _)
   have hA2:mM (wo.alloc (.cells #[.int .i64 data.size,.slice none 0 0] 179)) S lb lb data.size [] (.slice none 0 0):=⟨hL2,aT.nil _ _ _ _ _,aG _,hsl⟩
   have hI2:=hIk.below hb2
   have hW2:=HWV.out.step (Step.of_below (S:=S) hb2)
   have hs2:Step S S w (wo.alloc (.cells #[.int .i64 data.size,.slice none 0 0] 179)):=hsk.trans (Step.of_below hb2)
   obtain⟨pb,po,hxo,d0⟩:∃pb po,xo=some ⟨pb,po,none⟩/\∀i (hi:i<(hd::tl).length),wo.cell? ⟨pb,po+i,none⟩=some (.int .i64 ((hd::tl)[i]:Nat)):=by
    have hil:jE wo S (.slice xo (nb+1) xc) (iU (hd::tl)):=by
     have:=HT2.out.dI
     rw[Bw] at this
     unfold jE
     rw[show (iU (hd::tl)).length=nb+1 by simp[iU];exact htl]
     exact this
    obtain⟨pb,po,e,_⟩:=hil.at rfl 0 (by simp[iU])
    refine⟨pb,po,e,fun i hi=> ?_⟩
    obtain⟨pb',po',e',d⟩:=hil.at rfl i (by simpa [iU] using hi)
    rw[e] at e'
    cases e'
    have hv:(iU (hd::tl))[i]'(by simpa [iU] using hi)=(((hd::tl)[i]:Nat):Int):=by unfold iU;rw[SA]
    rw[hv] at d
    exact d
   subst hxo
   have HD0:=af d0
   have hpb:pb<wo.heap.size:=aD wo _ (d0 0 (by simp))
   have hpS:¬S pb:=(HT2.out.2 pb rfl)
   have hpsb:sb<=pb:=HT2.out.lo pb rfl
   have hobr:=HT1.out
   have e1:wo.cell? ⟨sb+1,0,none⟩=some (.slice (some ⟨pb,po,none⟩) (nb+1) xc):=by simp[World.cell?,hobr]
   have E1:=(hb2.cell (p:=⟨sb+1,0,none⟩) tkl).trans e1
   have tkl2:=ax tkl hb2.size
   have hxc1:¬xc=1:=by omega
   have hxc2:(1:Int)<=(xc:Int):=by omega
   generalize hw2:wo.alloc (.cells #[.int .i64 data.size,.slice none 0 0] 179)=w2 at hb2 hL2 hA2 hI2 hW2 hs2 E1 tkl2
   have HWW2:=af hw2
   have HWV2:=af hW2
   have HSB2:=af ((hb2.block sb sl).trans HT3.out)
   have HTB2:=af ((hb2.block (sb+1) tkl).trans HT1.out)
   have HPB2:=af (fun i (hi:i<(hd::tl).length)=>(hb2.cell (p:=⟨pb,po+i,none⟩) hpb).trans (d0 i hi))
   clear d0 hL2 e1 s0 hobr hW2
   have HHB:=af hb2
   clear hb2
   go_upto_region 17 with (fail)
   rw[HLB.out]
   have hlb2:lb<w2.heap.size:=by rw[<-hw2,<-HLB.out];simp
   have hlbs:sb+1<lb:=by rw[<-HLB.out];exact tkl
   have hpbl:pb<lb:=by rw[<-HLB.out];exact hpb
   clear hw2
   obtain⟨t,ht⟩:∃t,t=data.data.toList:=⟨_,rfl⟩
   have htL:t.length=data.size:=by rw[ht];show data.data.toList.length=data.data.size;simp
   rw[<-ht]
   have HTL:=af htL;have HTT:=af ht
   have HSO:=af (show ∀g,S g->g<lb from fun g hg=>by have:=hIk.sub g hg;rwa [HLB.out] at this)
   have HNDD:=af HTK.out.nd
   have HTW:=af HTK.out.two
   have hmW:∀w,(method 475 105 mp.agg "Write").run Tryz.prog w= .ok (284,.pointer (some ⟨mp.tx,0,none⟩)) w:=fun _=>by kernel_rfl
   have hna:∀w,(nilAhead 475 105 mp.agg "Write").run Tryz.prog w= .ok (some false) w:=fun _=>by kernel_rfl
   have hC0:lM σ σk [] (iU (hd::tl)):=HTK.out.BS
   have hend:(nb:Int)+1 - 1=(nb:Int):=by omega
   go_wp2_with fail
   go_loopw [11,12,13,58] (fun _ _ _ i wk=>∃(k:Nat) (rs:List (Nat×Nat)) (v:Value) (σ2:dF),k<=nb/\i= .int .i64 k/\mM wk S lb lb data.size rs v/\fJ rs=tl.take k/\qz rs/\Inv σ2 S mp wk/\lM σ σ2 [] (iU (hd::tl))/\σ2.tk=σk.tk/\(∀j (hj:j<tl.length),j<k->σ2.mem (tl[j]:Nat)=pad (chunk t j))/\Keep (fun g=>S g\/lb<=g) w2 wk) (fun _ _ _ i _=>nb - (intOf i).toNat)
   case atStart=>exact⟨0,[],_,σk,by omega,rfl,hA2,by simp[fJ],(fun r hr=>by cases hr),hI2,hC0,rfl,fun j hj h0=>by omega,Keep.refl _ _⟩
   case round=>
    clear hA2 hI2 hC0
    obtain⟨k,rs,v,σ2,hk2,rfl,hA,hrs,hok,hIw,hCw,htkw,hmemw,hkw⟩:=hrel
    have hlw:lb<wr.heap.size:=(aj.1 hA.obj).1
    by_cases hkl:k<nb
    ·have y1:(k:Int)<(nb:Int):=by omega
     have hkt:k<tl.length:=by omega
     obtain⟨b,hbq⟩:∃b,b=tl[k]:=⟨_,rfl⟩
     have hbm:b∈hd::tl:=by rw[hbq];exact bq _ (bD hkt)
     obtain⟨hb2',hbM⟩:=HTW.out b hbm
     have dk:wr.cell? ⟨pb,po+1+k,none⟩=some (.int .i64 (b:Int)):=by
      have:=HPB2.out (k+1) (by simp;omega)
      rw[List.getElem_cons_succ,<-hbq,show po+(k+1)=po+1+k by omega] at this
      exact(hkw.cell (p:=⟨pb,po+1+k,none⟩) (mV hpbl hlb2) (fun e=>e.elim hpS (fun e=>absurd hpbl (bM.2 e)))).trans this
     have hpk:pb<wr.heap.size:=mV hpbl hlw
     have HSBk:=(hkw.block sb (by omega) (fun e=>e.elim t5 (fun e=>by omega))).trans HSB2.out
     have s0k:wr.cell? ⟨sb,0,none⟩=some (.iface 105 mp.agg):=by simp[World.cell?,HSBk]
     have slk:=(aj.1 HSBk).1
     obtain⟨lo,hlo⟩:∃lo:Nat,lo=k*512:=⟨_,rfl⟩
     obtain⟨k1,hk1⟩:∃k1:Nat,k1=k+1:=⟨_,rfl⟩
     obtain⟨up,hup⟩:∃up:Nat,up=k1*512:=⟨_,rfl⟩
     obtain⟨hi,hhi⟩:∃hi:Nat,hi=min up data.size:=⟨_,rfl⟩
     have hnbk:k*512<data.size:=by have:=HNB.out;unfold sJ at this;omega
     have r1:IntKind.i64.wrap ((k:Int)*512)=(lo:Int):=by rw[aM _ (by omega)];omega
     have r2:IntKind.i64.wrap ((k:Int)+1)=(k1:Int):=by rw[aM _ (by omega)];omega
     have r3:IntKind.i64.wrap ((k1:Int)*512)=(up:Int):=by rw[aM _ (by omega)];omega
     have r4:min (up:Int) (data.size:Int)=(hi:Int):=by omega
     have r5:(0:Int)<=(lo:Int):=by omega
     have r6:(lo:Int)<=(hi:Int):=by omega
     have r7:(hi:Int)<=(data.size:Int):=by omega
     have r8:lo<=hi:=by omega
     have r9:hi<=data.size:=by omega
     have hch:(data.extract lo hi).data.toList=chunk t k:=by
      rw[HTT.out]
      unfold chunk
      rw[oz,pU,hhi,hup,hk1,hlo]
      show ((data.data.toList.drop (k*512)).take (min ((k+1)*512) data.size - k*512))=_
      rw[Nat.mul_comm k 512,List.take_eq_take_iff,aR,jL]
      show min (min ((k+1)*512) data.size - 512*k) (data.size - 512*k)=min 512 (data.size - 512*k)
      omega
     obtain⟨piece,hpc⟩:∃p,p=data.extract lo hi:=⟨_,rfl⟩
     have HCH:=af hch
     have HPC:=af hpc
     clear hlo hk1 hup hhi hch hpc
     have HHA:=af hA
     have HHI:=af hIw
     have HREL:=af (aC hrs (aC hok (aC hmemw (aC htkw hCw))))
     clear hA hIw hrs hok hmemw htkw hCw
     go_upto_region 20 with (fail)
     refine aS (fun W=>W.cell? ⟨sb,0,none⟩=some (.iface 105 mp.agg)/\sb<W.heap.size) (fun i=> !([12,16].contains i)) [0,1,2,3,4,5,6,7,8,9,10,11,13,14,15,12,16,17] rfl (by kernel_rfl) ⟨s0k,slk⟩ ?_
     repeat ((refine bL (v:= ?_) rfl rfl (fun _ _ _ h=>h) rfl (fun W hW=> ?_) ?_);rotate_left;(focus ((try dsimp only at hW);obtain⟨z0,z1⟩:=hW;have:=hna;(go_simp;first|done|with_reducible rfl)));(try simp only[Act.put,ah,au,ak]))
     have hpsz:piece.size<=1000000:=by rw[HPC.out,ByteArray.size_extract];omega
     obtain⟨pc,w4,hcv,hpv,hb4⟩:=OZ piece wr.drew hpsz
     have hpl:piece.data.toList=chunk t k:=by rw[HPC.out];exact HCH.out
     have hps:piece.size=(chunk t k).length:=by rw[<-hpl];show piece.data.size=_;simp
     rw[hpl] at hpv
     rw[hps] at hcv hpv
     rw[<-HPC.out]
     have hb4':Below wr.heap.size wr w4:=((aO _ wr).drew).trans hb4
     have HCV:=af hcv;have HPV:=af hpv;have HB4:=af hb4'
     clear hcv hpv hb4 hb4'
     refine dm rfl rfl rfl ?_;intro K hK
     refine M0 9 101 (.tmp 74) rfl piece rfl _ HCV.out ?_
     clear hps hpl
     have s04:=(HB4.out.cell (p:=⟨sb,0,none⟩) slk).trans s0k
     have sl4:=ax slk HB4.out.size
     refine hK.out _ _ ⟨s04,sl4⟩ ?_
     (try simp only[Act.put,ah,au,ak])
     have hI4:=HHI.out.below HB4.out
     have hcl:(chunk t k).length<=512:=by rw[om];omega
     have hmost2:tl[k]<σ2.most:=by
      rw[HREL.out.2.2.2.2.most,<-hbq];exact hbM
     have HWR:=af (yR mp σ2 S w4 tl[k] _ (chunk t k) hI4 hmost2 HPV.out hcl (dF.NR (HREL.out.2.2.2.2.new _ (jJ (bq _ (bD hkt)))).1 ((Ao HREL.out.2.2.2.2.H _).trans (HTK.out.nheld _ (bq _ (bD hkt))))))
     obtain⟨cl,hcln⟩:∃n,Hid ((chunk t k).length=n):=⟨_,af rfl⟩
     obtain⟨vb4,hvb4⟩:∃g,Hid (wr.drew.heap.size=g):=⟨_,af rfl⟩
     rw[hcln.out,hvb4.out] at HWR ⊢
     obtain⟨bk,hbk⟩:∃g:Nat,Hid (tl[k]=g):=⟨_,af rfl⟩
     rw[hbk.out] at HWR ⊢
     refine dm rfl rfl rfl ?_;intro K hK;go_simp
     refine HWR.out.mono ?_;rintro e w5 ⟨rfl,hI5,hs5⟩
     have s05:w5.cell? ⟨sb,0,none⟩=some (.iface 105 mp.agg):=by
      have:=(hs5.1.block sb sl4 t5).trans ((HB4.out.block sb slk).trans HSBk)
      simp[World.cell?,this]
     refine hK.out _ _ ⟨s05,ax sl4 hs5.1.size⟩ ?_
     (try simp only[Act.put,ah,au,ak])
     repeat ((refine bL (v:= ?_) rfl rfl (fun _ _ _ h=>h) rfl (fun W hW=> ?_) ?_);rotate_left;(focus ((try dsimp only at hW);obtain⟨z0,z1⟩:=hW;(go_simp;first|done|with_reducible rfl)));(try simp only[Act.put,ah,au,ak]))
     refine bR ?_
     have hA5:=(HHA.out.below HB4.out).step hs5
     have hrl:rs.length<=1000:=by
      have a:=HREL.out.2.1.le
      rw[HREL.out.1,aF] at a
      omega
     have hS5:∀g,S g->g<w5.heap.size:=hI5.sub
     have hbk5:bk<=65535:=by have:=hbk.out;have:=HHI.out.cap;omega
     have HBA:=af (Uf lb data.size bk rs v lb S w5 hA5 hS5 HREL.out.2.1 hrl hbk5)
     clear hrl r1 r2 r3 r4 r5 r6 r7 r8 r9 hcl
     go_wp2_with (first
      |(go_at_call 105;go_must (refine HBA.out.mono ?_;rintro e w6 ⟨rfl,⟨v6,hA6⟩,hb6⟩)))
     have hbkm:(bk:Int)∈iU (hd::tl):=by
      rw[<-hbk.out]
      exact jJ (bq _ (bD hkt))
     have hbk2:2<=bk:=by rw[<-hbk.out,<-hbq];exact hb2'
     have hcw:=KR (σ:=σ2) (us:=iU (hd::tl)) (b:=bk) (l:=pad (chunk t k)) (fun x hx=>(HREL.out.2.2.2.2.new x hx).1) hbkm hbk2
     go_roundw
     case rel=>
      refine⟨k+1,zA rs bk,v6,σ2.wrote bk (pad (chunk t k)),by omega,by go_num,hA6,?_,HREL.out.2.1.add bk (by omega),hI5.Og hb6 HSO.out,HREL.out.2.2.2.2.trans hcw,?_,?_,?_⟩
      ·rw[Je,HREL.out.1,aI hkt,hbk.out]
      ·exact HREL.out.2.2.2.1
      ·intro j hj hjk
       show σ2.H.pg.look (σ2.im.put bk (pad (chunk t k))) σ2.H.dk ((tl[j]:Nat):Int).toNat=_
       rw[rE,gH]
       by_cases hje:j=k
       ·subst hje
        rw[if_pos hbk.out]
       ·rw[if_neg (fun e=>by
         have hnd:=(oH.1 HNDD.out).2
         rw[<-hbk.out] at e
         exact hje ((SC hnd).1 e))]
        exact HREL.out.2.2.1 j hj (by omega)
      ·refine((hkw.trans (Keep.of_below HB4.out (fun g=>S g\/lb<=g)) (fun _ _ e=>e)).trans (hs5.1.mono (fun _ _ e=> .inl e)) (fun _ _ e=>e)).trans ?_ (fun _ _ e=>e)
       exact⟨hb6.os,hb6.tape,hb6.output,hb6.size,fun g _ hn=>hb6.block g (Nat.lt_of_not_le (fun e=>hn (.inr e)))⟩
     case measure=>simp[intOf];omega
    ·obtain rfl:k=nb:=by omega
     have hrt:fJ rs=tl:=by rw[hrs];exact aQ (by omega)
     have hrl96:rs.length<=96:=by have:=hok.le;rw[hrt] at this;omega
     have HSBk:=(hkw.block sb (by omega) (fun e=>e.elim t5 (fun e=>by omega))).trans HSB2.out
     have HTBk:=(hkw.block (sb+1) (by omega) (fun e=>e.elim t4 (fun e=>by omega))).trans HTB2.out
     have d0:wr.cell? ⟨pb,po,none⟩=some (.int .i64 (hd:Int)):=by
      have:=HPB2.out 0 (by simp)
      exact(hkw.cell (p:=⟨pb,po,none⟩) (mV hpbl hlb2) (fun e=>e.elim hpS (fun e=>absurd hpbl (bM.2 e)))).trans this
     have hpk:pb<wr.heap.size:=mV hpbl hlw
     have slk:=(aj.1 HSBk).1
     have tlk:=(aj.1 HTBk).1
     have HP:=af (show ∀(W:World),(∀g,g<lb->¬S g->W.heap[g]? =wr.heap[g]?)->wr.heap.size<=W.heap.size->(W.cell? ⟨sb,0,none⟩=some (.iface 105 mp.agg)/\W.cell? ⟨sb+1,0,none⟩=some (.slice (some ⟨pb,po,none⟩) (k+1) xc)/\W.cell? ⟨pb,po,none⟩=some (.int .i64 (hd:Int))/\sb<W.heap.size/\sb+1<W.heap.size/\pb<W.heap.size) from fun W hW hz=>by
      have a:=(hW sb (by omega) t5).trans HSBk
      have b:=(hW (sb+1) (by omega) t4).trans HTBk
      exact⟨by simp[World.cell?,a],by simp[World.cell?,b],(nE (w:=wr) (a:=⟨pb,po,none⟩) (hW pb hpbl hpS)).trans d0,by omega,by omega,by omega⟩)
     have HEN:=af (QD lb data.size rs v lb S wr.drew ⟨hA.obj,hA.own.drew,hA.lo,hA.ns⟩ hIw.sub (by omega) hok (by omega))
     have HIW:=af hIw;have HCW:=af hCw
     have HREL:=af (aC hok (aC hmemw htkw))
     have HRT:=af hrt
     have hel:=zP data.size rs
     have helle:(encR data.size rs).length<=512:=by omega
     have z0:(0:Int)<((k+1:Nat):Int):=by omega
     have z1:(0:Int)<(k:Int)+1:=by omega
     have HHA:=af hA
     clear hA hIw hCw hok hmemw htkw hrs hrt hel hkl HSBk HTBk d0
     go_upto_region 25 with (fail)
     refine aS (fun W=>W.cell? ⟨sb,0,none⟩=some (.iface 105 mp.agg)/\W.cell? ⟨sb+1,0,none⟩=some (.slice (some ⟨pb,po,none⟩) (k+1) xc)/\W.cell? ⟨pb,po,none⟩=some (.int .i64 (hd:Int))/\sb<W.heap.size/\sb+1<W.heap.size/\pb<W.heap.size) (fun i=> !([5,9].contains i)) [0,1,2,3,4,6,7,8,5,9,10] rfl (by kernel_rfl) (HP.out wr.drew (fun g _ _=>rfl) (aG _)) ?_
     repeat ((refine bL (v:= ?_) rfl rfl (fun _ _ _ h=>h) rfl (fun W hW=> ?_) ?_);rotate_left;(focus ((try dsimp only at hW);obtain⟨a0,a1,a2,a3,a4,a5⟩:=hW;have:=hna;(go_simp;first|done|with_reducible rfl)));(try simp only[Act.put,ah,au,ak]))
     refine dm rfl rfl rfl ?_;intro K hK;go_simp
     refine HEN.out.mono ?_;rintro e w5 ⟨ev,rfl,hown5,hb5⟩
     obtain⟨eo,ec,rfl,_,_,_,_⟩:=bJ.form hown5.dI
     have hb5':Below wr.heap.size wr w5:=((aO _ wr).drew).trans hb5
     refine hK.out _ _ (HP.out w5 (fun g hg _=>hb5'.block g (mV hg hlw)) hb5'.size) ?_
     (try simp only[Act.put,ah,au,ak])
     have hI5:=HIW.out.below hb5'
     have hhd:=HTW.out hd (bF ..)
     have hmost2:hd<σ2.most:=by rw[HCW.out.most];exact hhd.2
     have HWR:=af (yR mp σ2 S w5 hd _ (encR data.size rs) hI5 hmost2 (bJ.loose hown5.dI) helle (dF.NR (HCW.out.new _ (jJ (bF ..))).1 ((Ao HCW.out.H _).trans (HTK.out.nheld _ (bF ..)))))
     refine dm rfl rfl rfl ?_;intro K hK;go_simp
     refine HWR.out.mono ?_;rintro e w6 ⟨rfl,hI6,hs6⟩
     have hP6:=HP.out w6 (fun g hg hn=>(hs6.1.block g (ax (mV hg hlw) hb5'.size) hn).trans (hb5'.block g (mV hg hlw))) (aH hb5'.size hs6.1.size)
     refine hK.out _ _ hP6 ?_
     (try simp only[Act.put,ah,au,ak])
     repeat ((refine bL (v:= ?_) rfl rfl (fun _ _ _ h=>h) rfl (fun W hW=> ?_) ?_);rotate_left;(focus ((try dsimp only at hW);obtain⟨a0,a1,a2,a3,a4,a5⟩:=hW;(go_simp;first|done|with_reducible rfl)));(try simp only[Act.put,ah,au,ak]))
     refine bR ?_
     obtain⟨a0,a1,a2,a3,a4,a5⟩:=hP6
     go_wp2_with fail
     go_ret2
     have hcw:=KR (σ:=σ2) (us:=iU (hd::tl)) (b:=hd) (l:=pad (encR data.size rs)) (fun x hx=>(HCW.out.new x hx).1) (jJ (bF ..)) hhd.1
     have hln:tl.length=sJ data.size:=by rw[htl,HNB.out]
     have hbl:=MF (σ2:=σ2) (t:=t) HRT.out HREL.out.1 (by rw[HTL.out];exact hln) (by rw[HTL.out];exact h1) (by rw[HTL.out];exact h2) HNDD.out (fun b hb=>(HTW.out b hb).1) (fun b hb=>(HCW.out.new _ (jJ hb)).1) (fun j hj=>HREL.out.2.1 j hj (by omega))
     rw[HTL.out] at hbl
     refine .inl ⟨hd,rs,σ2.wrote hd (pad (encR data.size rs)),rfl,?_,?_,?_,hI6,?_⟩
     ·rw[<-HTT.out];exact hbl
     ·exact(HCW.out.trans hcw).perm (jH _) (by have:=BZ hd rs;rwa [HRT.out] at this)
     ·rw[<-HTT.out,HTL.out,<-hln,htl]
      show σ2.tk<=_
      rw[HREL.out.2.2]
      have a:=HTK.out.tk
      have b:=HTK.out.sz
      rw[bE,htl] at b
      omega
     ·have hsz:w.heap.size<=lb:=by have:=HSB.out;omega
      refine⟨((hs2.1.trans hkw (fun i hi e=>e.elim id (fun y=>absurd hi (bM.2 (aH hsz y))))).trans (Keep.of_below hb5' S) (fun _ _ e=>e)).trans hs6.1 (fun _ _ e=>e),fun g hg=> .inl hg⟩
def tK:List UInt8->Option Nat
 |[a,b,c]=>if a=1 then some (b.toNat+256*c.toNat) else none
 |_=>none
theorem J9 (s:ByteArray)(w:World)(hs:s.size<=1000000):
  Calls Tryz.prog 102 #[.string s] w fun e w'=>Below w.heap.size w w'/\e= .returned (.tuple #[.int .i64 ((tK s.data.toList).getD 0:Nat),.bool (tK s.data.toList).isSome]):=by
 have hsz:s.data.toList.length=s.size:=by show s.data.toList.length=s.data.size;simp
 by_cases h3:s.size=3
 ·have y1:(s.size:Int)=3:=by omega
  obtain⟨a,b,c,hl⟩:∃a b c,s.data.toList=[a,b,c]:=by
   have:=hsz.trans h3
   revert this
   generalize s.data.toList=l
   intro h
   match l,h with
   |[a,b,c],_=>exact⟨a,b,c,rfl⟩
  have hss:s=strOf [a,b,c]:=by
   unfold strOf
   rw[<-hl]
  rw[hl]
  clear hsz hl h3
  subst hss
  have i0:∀W:World,(Instr.index 9 (.string (strOf [a,b,c])) (.int .i64 0)).run Tryz.prog W= .ok (.int .u8 (a.toNat:Int)) W:=fun W=>xY _ 0 a rfl W
  have i1:∀W:World,(Instr.index 9 (.string (strOf [a,b,c])) (.int .i64 1)).run Tryz.prog W= .ok (.int .u8 (b.toNat:Int)) W:=fun W=>xY _ 1 b rfl W
  have i2:∀W:World,(Instr.index 9 (.string (strOf [a,b,c])) (.int .i64 2)).run Tryz.prog W= .ok (.int .u8 (c.toNat:Int)) W:=fun W=>xY _ 2 c rfl W
  have hb:=b.toNat_lt;have hc:=c.toNat_lt
  obtain⟨t,ht⟩:∃t,Hid (strOf [a,b,c]=t):=⟨_,af rfl⟩
  rw[ht.out] at i0 i1 i2 hs y1 ⊢
  by_cases ha:a=1
  ·subst ha
   have hl:tK [1,b,c]=some (b.toNat+256*c.toNat):=rfl
   rw[hl]
   have j0:∀W:World,(Instr.index 9 (.string t) (.int .i64 0)).run Tryz.prog W= .ok (.int .u8 1) W:=i0
   clear i0 hl
   have q1:IntKind.i64.wrap (b.toNat:Int)=(b.toNat:Int):=aM _ (by omega)
   have q2:IntKind.i64.wrap (c.toNat:Int)=(c.toNat:Int):=aM _ (by omega)
   obtain⟨n1,hn1⟩:∃n,n=b.toNat+256*c.toNat:=⟨_,rfl⟩
   have p1:IntKind.i64.wrap ((c.toNat:Int)*256)=((256*c.toNat:Nat):Int):=by rw[aM _ (by omega)];omega
   have o1:=Gd b.toNat c.toNat 256 n1 8 rfl hb hn1 (by omega)
   have HN:=af hn1
   obtain⟨m1,hm1⟩:∃m:Nat,Hid (256*c.toNat=m):=⟨_,af rfl⟩
   rw[hm1.out] at p1 o1
   clear hn1 hb hc
   go_enter Tryz.func102,Tryz.ntmps102
   go_wp2_with fail
   refine aS (fun W=>W=w.drew) (fun i=>true) [0,1,2,3,4,5,6,7,8,9] rfl (by kernel_rfl) rfl ?_
   repeat ((refine bL (v:= ?_) rfl rfl (fun _ _ _ h=>h) rfl (fun W hW=> ?_) ?_);rotate_left;(focus ((try dsimp only at hW);subst hW;(go_simp;first|done|with_reducible rfl)));(try simp only[Act.put,ah,au,ak]))
   refine bR ?_
   go_wp2_with fail
   go_ret2
   refine⟨(aO _ w).drew,?_⟩
   rw[<-HN.out]
   rfl
  ·have hl:tK [a,b,c]=none:=if_neg ha
   rw[hl]
   have hne:¬(a.toNat:Int)=1:=fun e=>ha (rq.1 (by show a.toNat=1;omega))
   clear hb hc hl
   go_enter Tryz.func102,Tryz.ntmps102
   go_wp2_with fail
   go_ret2
   exact⟨aO _ w,rfl⟩
 ·have y1:¬(s.size:Int)=3:=by omega
  have hn:tK s.data.toList=none:=by
   generalize s.data.toList=l at hsz
   match l,hsz with
   |[a,b,c],h=>exact absurd h (by simp;omega)
   |[],_=>rfl
   |[_],_=>rfl
   |[_,_],_=>rfl
   |_::_::_::_::_,_=>rfl
  rw[hn]
  go_enter Tryz.func102,Tryz.ntmps102
  go_wp2_with fail
  go_ret2
  exact⟨aO _ w,rfl⟩
def jh (er:Int)(key:ByteArray):Int:=if er≠0 then er else if key.size=0\/128<key.size then 1 else 0
def fK (mp:VS)(tr:Option Nat)(ch:Bool)(er:Int):Array Value:=#[.pointer (some ⟨mp.tx,0,none⟩),.pointer (some ⟨mp.mp,0,none⟩),.pointer (tr.map fun b=>⟨b,0,none⟩),.bool ch,.int .i64 er]
theorem sj (t:Nat)(mp:VS)(tr:Nat)(ch:Bool)(er:Int)(key:ByteArray)(w:World)(h:w.heap[t]? =some (.cells (fK mp (some tr) ch er) 110 (0,0))):
  Calls Tryz.prog 61 #[.pointer (some ⟨t,0,none⟩),.string key] w fun e w'=>w'=w/\e= .returned (.int .i64 (jh er key)):=by
 have c2:w.cell? ⟨t,2,none⟩=some (.pointer (some ⟨tr,0,none⟩)):=by simp[World.cell?,h,fK]
 have c4:w.cell? ⟨t,4,none⟩=some (.int .i64 er):=by simp[World.cell?,h,fK]
 have hl:=(aj.1 h).1
 have hk:key.toList.isEmpty=decide (key.size=0):=by
  rw[toList_eq]
  have:key.data.toList.length=key.size:=by show key.data.toList.length=key.data.size;simp
  rw[<-this]
  cases key.data.toList<;>simp
 clear h
 by_cases he:er=0
 ·subst he
  by_cases h0:key.size=0
  ·have hu:jh 0 key=1:=by unfold jh;rw[if_neg (by simp),if_pos (.inl h0)]
   rw[hu]
   have hk':key.toList.isEmpty=true:=by rw[hk];simp[h0]
   clear hk hu
   go_enter Tryz.func61,Tryz.ntmps61
   go_wp2_with fail
   go_ret
   exact⟨rfl,rfl⟩
  ·have hk':key.toList.isEmpty=false:=by rw[hk];simp[h0]
   clear hk
   by_cases h1:128<key.size
   ·have hu:jh 0 key=1:=by unfold jh;rw[if_neg (by simp),if_pos (.inr h1)]
    rw[hu]
    have y1:(128:Int)<(key.size:Int):=by omega
    clear hu
    go_enter Tryz.func61,Tryz.ntmps61
    go_wp2_with fail
    go_ret
    exact⟨rfl,rfl⟩
   ·have hu:jh 0 key=0:=by unfold jh;rw[if_neg (by simp),if_neg (by omega)]
    rw[hu]
    have y1:¬(128:Int)<(key.size:Int):=by omega
    clear hu
    go_enter Tryz.func61,Tryz.ntmps61
    go_wp2_with fail
    go_ret
    exact⟨rfl,rfl⟩
 ·have hu:jh er key=er:=if_pos he
  rw[hu]
  have hne:(er !=0)=true:=by simp[he]
  clear hk hu
  go_enter Tryz.func61,Tryz.ntmps61
  go_wp2_with fail
  go_ret
  exact⟨rfl,rfl⟩
theorem Ec (t:Nat)(mp:VS)(tr:Option Nat)(ch:Bool)(er e:Int)(w:World)(h:w.heap[t]? =some (.cells (fK mp tr ch er) 110 (0,0))):
  Calls Tryz.prog 64 #[.pointer (some ⟨t,0,none⟩),.int .i64 e] w fun r w'=>r= .returned (.int .i64 e)/\w'.heap[t]? =some (.cells (fK mp tr ch e) 110 (0,0))/\Keep (· =t) w w':=by
 have c4:w.cell? ⟨t,4,none⟩=some (.int .i64 er):=by simp[World.cell?,h,fK]
 have f4:w.frozen? ⟨t,4,none⟩=false:=by simp[World.frozen?,h]
 have hl:=(aj.1 h).1
 have HH:=af h
 clear h
 go_enter Tryz.func64,Tryz.ntmps64
 go_wp2_with fail
 go_ret
 refine⟨rfl,?_,(Keep.refl (· =t) _).setCell (p:=⟨t,4,none⟩) (.inr rfl) _⟩
 simp[World.setCell,bn,HH.out]
 rfl
theorem Eb (tp:Option Addr)(s:ByteArray)(w:World)(hs:s.size<=1000000)(h1:1<=s.size)(hl:tK s.data.toList=none):
  Calls Tryz.prog 101 #[.pointer tp,.string s] w fun e w'=>Below w.heap.size w w'/\e= .returned (.tuple #[.string (s.extract 1 s.size),.int .i64 0]):=by
 have HL:=af (J9 s w hs)
 rw[hl] at HL
 have r1:min (1:Int) (s.size:Int)=1:=by omega
 have r2:(1:Int)<=(s.size:Int):=by omega
 clear hl
 go_enter Tryz.func101,Tryz.ntmps101
 go_wp2_with (first
  |(go_at_call 102;go_must (refine HL.out.mono ?_;rintro e w1 ⟨hb1,rfl⟩)))
 go_ret2
 exact⟨hb1,rfl⟩
theorem Fy (t:Nat)(mp:VS)(tr:Option Nat)(ch:Bool)(er:Int)(σ:dF)(S:Nat->Prop)(w:World)(s:ByteArray)(hd:Nat)(l:List UInt8)(rs:List (Nat×Nat))(h:w.heap[t]? =some (.cells (fK mp tr ch er) 110 (0,0)))(hI:Inv σ S mp w)(hB:oQ σ hd l rs)(hs:s.size<=1000000)(hl:tK s.data.toList=some hd):
  Calls Tryz.prog 101 #[.pointer (some ⟨t,0,none⟩),.string s] w fun e w'=>Below w.heap.size w w'/\e= .returned (.tuple #[.string ⟨l.toArray⟩,.int .i64 0]):=by
 have HL:=af (J9 s w hs)
 rw[hl] at HL
 have HH:=af h;have HI:=af hI
 have hlt:=(aj.1 h).1
 clear hl h hI
 go_enter Tryz.func101,Tryz.ntmps101
 go_wp2_with (first
  |(go_at_call 102;go_must (refine HL.out.mono ?_;rintro e w1 ⟨hb1,rfl⟩;refine Stop.of ?_)))
 refine Stop.on ?_
 have h1:=(hb1.block t hlt).trans HH.out
 have hlt1:=ax hlt hb1.size
 have c0:w1.cell? ⟨t,0,none⟩=some (.pointer (some ⟨mp.tx,0,none⟩)):=by simp[World.cell?,h1,fK]
 have c1:w1.cell? ⟨t,1,none⟩=some (.pointer (some ⟨mp.mp,0,none⟩)):=by simp[World.cell?,h1,fK]
 have HR:=af (TH mp σ S w1 hd l rs (HI.out.below hb1) hB)
 clear h1
 go_wp2_with (first
  |(go_at_call 146;go_must (refine HR.out.mono ?_;rintro e w2 ⟨rfl,hb2⟩)))
 go_ret2
 exact⟨hb1.trans (hb2.mono hb1.size),rfl⟩
def ValAt (σ:dF)(small v:ByteArray)(vb:List Int):Prop:=
 (small=strOf (0::v.data.toList)/\v.size<=63/\vb=[])\/
 ∃hd rs,small=strOf [1,UInt8.ofNat hd,UInt8.ofNat (hd/256)]/\(hd<65536/\63<v.size)/\oQ σ hd v.data.toList rs/\vb=jY hd rs
theorem zL (l:List UInt8):tK (0::l)=none:=by
 match l with
 |[]=>rfl
 |[_]=>rfl
 |[_,_]=>rfl
 |_::_::_::_=>rfl
theorem Bp (hd:Nat)(h:hd<65536):tK [1,UInt8.ofNat hd,UInt8.ofNat (hd/256)]=some hd:=by
 show some ((UInt8.ofNat hd).toNat+256*(UInt8.ofNat (hd/256)).toNat)=some hd
 rw[eZ,eZ]
 congr 1
 omega
theorem I8 (v:ByteArray):(strOf (0::v.data.toList)).extract 1 (strOf (0::v.data.toList)).size=v:=by
 have hs:(strOf (0::v.data.toList)).size=v.data.toList.length+1:=by show (0::v.data.toList).toArray.size=_;simp
 apply Ct
 rw[oz]
 apply Ea.1
 rw[pU,hs]
 show ((0::v.data.toList).drop 1).take (v.data.toList.length+1 - 1)=v.data.toList
 rw[zU,fM,fo]
 exact bP
theorem Na (t:Nat)(mp:VS)(tr:Option Nat)(ch:Bool)(er:Int)(σ:dF)(S:Nat->Prop)(w:World)(small v:ByteArray)(vb:List Int)(h:w.heap[t]? =some (.cells (fK mp tr ch er) 110 (0,0)))(hI:Inv σ S mp w)(hv:ValAt σ small v vb):
  Calls Tryz.prog 101 #[.pointer (some ⟨t,0,none⟩),.string small] w fun e w'=>Below w.heap.size w w'/\e= .returned (.tuple #[.string v,.int .i64 0]):=by
 rcases hv with ⟨rfl,h1,_⟩|⟨hd,rs,rfl,h1,h2,_⟩
 ·have hs:(strOf (0::v.data.toList)).size=v.size+1:=by show (0::v.data.toList).toArray.size=v.data.size+1;simp
  have:=Eb (some ⟨t,0,none⟩) (strOf (0::v.data.toList)) w (by omega) (by omega) (zL _)
  rwa [I8] at this
 ·exact Fy t mp tr ch er σ S w _ hd v.data.toList rs h hI h2 (by show [1,UInt8.ofNat hd,UInt8.ofNat (hd/256)].toArray.size<=_;simp) (Bp hd h1.1)
theorem SK (t tr:Nat)(mp:VS)(root:Int)(ch:Bool)(σ:dF)(S:Nat->Prop)(w:World)(cs:List Pr)(bs:List Int)(key v:ByteArray)(vb:List Int)(h:w.heap[t]? =some (.cells (fK mp (some tr) ch 0) 110 (0,0)))(hI:Inv σ S mp w)(ht:dA w tr mp root 0)(hT:Ae σ root cs bs)(hl:cs.length<=4090)(hg:1<=key.size/\key.size<=128)(hv:∀small,eT cs key=some small->ValAt σ small v vb):
  Calls Tryz.prog 62 #[.pointer (some ⟨t,0,none⟩),.string key] w fun e w'=>e= .returned (.tuple #[.string (if (eT cs key).isSome then v else ByteArray.empty),.bool (eT cs key).isSome,.int .i64 0])/\Below w.heap.size w w':=by
 have HU:=af (sj t mp tr ch 0 key w h)
 have hu:jh 0 key=0:=by unfold jh;rw[if_neg (by simp),if_neg (by omega)]
 rw[hu] at HU
 have HG:=af (BD tr mp root σ S cs bs key w hI ht hT hl hg)
 have c2:w.cell? ⟨t,2,none⟩=some (.pointer (some ⟨tr,0,none⟩)):=by simp[World.cell?,h,fK]
 have hlt:=(aj.1 h).1
 have HH:=af h;have HI:=af hI
 clear h hI hu ht
 cases hx:eT cs key with
 |none=>
  rw[hx] at HG
  clear hv
  go_enter Tryz.func62,Tryz.ntmps62
  go_wp2_with (first
   |(go_at_call 61;go_must (refine HU.out.mono ?_;rintro e w1 ⟨rfl,rfl⟩))
   |(go_at_call 100;go_must (refine HG.out.mono ?_;rintro e w2 ⟨rfl,hb2⟩)))
  go_ret3
  exact⟨rfl,hb2⟩
 |some small=>
  rw[hx] at HG
  have HV:=af (hv small hx)
  clear hv
  go_enter Tryz.func62,Tryz.ntmps62
  go_wp2_with (first
   |(go_at_call 61;go_must (refine HU.out.mono ?_;rintro e w1 ⟨rfl,rfl⟩))
   |(go_at_call 100;go_must (refine HG.out.mono ?_;rintro e w2 ⟨rfl,hb2⟩))
   |(go_at_call 101;go_must (refine(Na t mp (some tr) ch 0 σ S _ small v vb ((hb2.block t hlt).trans HH.out) (HI.out.below hb2) HV.out).mono ?_;rintro e w3 ⟨hb3,rfl⟩)))
  go_ret3
  exact⟨rfl,hb2.trans (hb3.mono hb2.size)⟩
theorem Az (t tr:Nat)(mp:VS)(root:Int)(ch:Bool)(er:Int)(σ:dF)(S:Nat->Prop)(w:World)(cs:List Pr)(bs:List Int)(key:ByteArray)(h:w.heap[t]? =some (.cells (fK mp (some tr) ch er) 110 (0,0)))(hI:Inv σ S mp w)(ht:dA w tr mp root 0)(hT:Ae σ root cs bs)(hl:cs.length<=4090)(hg:1<=key.size/\key.size<=128)(hv:tK ((eT cs key).getD ⟨#[]⟩).data.toList=none)(hs:((eT cs key).getD ⟨#[]⟩).size<=1000000):
  Calls Tryz.prog 63 #[.pointer (some ⟨t,0,none⟩),.string key] w fun e w'=>e= .returned (.int .i64 0)/\Below w.heap.size w w':=by
 have HG:=af (BD tr mp root σ S cs bs key w hI ht hT hl hg)
 have c2:w.cell? ⟨t,2,none⟩=some (.pointer (some ⟨tr,0,none⟩)):=by simp[World.cell?,h,fK]
 have hlt:=(aj.1 h).1
 obtain⟨small,hsm⟩:∃s,s=(eT cs key).getD ⟨#[]⟩:=⟨_,rfl⟩
 rw[<-hsm] at HG hv hs
 have HS:=af hs
 have HL:=af hv
 clear h hI ht hv hs hsm
 go_enter Tryz.func63,Tryz.ntmps63
 go_wp2_with (first
  |(go_at_call 100;go_must (refine HG.out.mono ?_;rintro e w2 ⟨rfl,hb2⟩))
  |(go_at_call 102;go_must (refine(J9 small _ HS.out).mono ?_;rw[HL.out];rintro e w3 ⟨hb3,rfl⟩)))
 go_ret
 exact⟨rfl,hb2.trans (hb3.mono hb2.size)⟩
theorem IJ (t tr:Nat)(mp:VS)(root:Int)(ch:Bool)(er:Int)(σ:dF)(S:Nat->Prop)(w:World)(cs:List Pr)(bs:List Int)(key small:ByteArray)(hd:Nat)(l:List UInt8)(rs:List (Nat×Nat))(h:w.heap[t]? =some (.cells (fK mp (some tr) ch er) 110 (0,0)))(hI:Inv σ S mp w)(ht:dA w tr mp root 0)(hT:Ae σ root cs bs)(hl:cs.length<=4090)(hg:1<=key.size/\key.size<=128)(hx:eT cs key=some small)(hv:tK small.data.toList=some hd)(hs:small.size<=1000000)(hB:oQ σ hd l rs):
  Calls Tryz.prog 63 #[.pointer (some ⟨t,0,none⟩),.string key] w fun e w'=>e= .returned (.int .i64 0)/\Inv (σ.frees (xE (jY hd rs))) S mp w'/\Step S S w w':=by
 have HG:=af (BD tr mp root σ S cs bs key w hI ht hT hl hg)
 have c2:w.cell? ⟨t,2,none⟩=some (.pointer (some ⟨tr,0,none⟩)):=by simp[World.cell?,h,fK]
 have hlt:=(aj.1 h).1
 have HH:=af h;have HI:=af hI
 rw[hx] at HG
 have HS:=af hs
 have HL:=af hv
 clear h hI ht hv hs hx
 go_enter Tryz.func63,Tryz.ntmps63
 go_wp2_with (first
  |(go_at_call 100;go_must (refine HG.out.mono ?_;rintro e w2 ⟨rfl,hb2⟩))
  |(go_at_call 102;go_must (refine(J9 small _ HS.out).mono ?_;rw[HL.out];rintro e w3 ⟨hb3,rfl⟩;refine Stop.of ?_)))
 refine Stop.on ?_
 have hb23:=hb2.trans (hb3.mono hb2.size)
 have h1:=(hb23.block t hlt).trans HH.out
 have hlt1:=ax hlt hb23.size
 have c0:w3.cell? ⟨t,0,none⟩=some (.pointer (some ⟨mp.tx,0,none⟩)):=by simp[World.cell?,h1,fK]
 have c1:w3.cell? ⟨t,1,none⟩=some (.pointer (some ⟨mp.mp,0,none⟩)):=by simp[World.cell?,h1,fK]
 have HF:=af (TI mp σ S w3 hd l rs (HI.out.below hb23) hB)
 clear h1
 go_wp2_with (first
  |(go_at_call 103;go_must (refine HF.out.mono ?_;rintro e w4 ⟨rfl,hI4,hs4⟩)))
 go_ret
 exact⟨rfl,hI4,(Step.of_below hb23).trans hs4⟩
structure VI (σ:Dk)(l:Lg)(p:Pg):Prop where
 free:σ.oC
 ld:l.dead=false
 pd:p.dead=false
 wt:σ.waits.length<=l.used
theorem Lg.C9 {σ:Dk}{l:Lg}(h:σ.oC)(hd:l.dead=false)(hf:l.frm<σ.n):l.sync σ=((σ.flush.put l.frm l.all.lQ).flush,l.all,0):=by
 unfold Lg.sync
 rw[hd,if_neg (by simp),h.sync]
 dsimp only
 rw[if_pos rfl,Lg.y9 h.flush l.all hf]
 dsimp only
 rw[if_pos rfl]
 rfl
theorem wV (σ:Dk)(f j:Nat)(x:List UInt8)(h:f≠j):((σ.flush.put f x).flush).get j=σ.get j:=by
 rw[Dk.vQ,Dk.get_put,if_neg h,Dk.vQ]
theorem Pg.Gq (p:Pg):∀(r:List Nat) (σ:Dk),σ.oC->(∀b∈r,p.skip+b<σ.n/\(p.fresh.img b).length=512)->
  ∃σ',p.lay r σ=(σ',0)/\σ'.oC/\σ'.n=σ.n/\(∀b,σ'.get (p.skip+b)=if b∈r then p.fresh.img b else σ.get (p.skip+b))/\∀j,j<p.skip->σ'.get j=σ.get j
 |[],σ,h,_=>⟨σ,rfl,h,rfl,fun b=>by simp,fun _ _=>rfl⟩
 |b::r,σ,h,hr=>by
  obtain⟨h1,h2⟩:=hr b (bF ..)
  have hw:=h.write (p.skip+b) (p.fresh.img b) h1 (by omega)
  obtain⟨σ',q1,q2,q3,q4,q5⟩:=Pg.Gq p r (σ.put (p.skip+b) (p.fresh.img b)) (h.put _ _) (fun c hc=>hr c (bq _ hc))
  refine⟨σ',?_,q2,q3,fun c=> ?_,fun j hj=> ?_⟩
  ·rw[p.Bt,hw]
   dsimp only
   rw[if_pos rfl,q1]
  ·rw[q4,Dk.get_put]
   by_cases hc:c∈r
   ·rw[if_pos hc,if_pos (bq _ hc)]
   ·rw[if_neg hc]
    by_cases e:c=b
    ·subst e
     rw[if_pos rfl,if_pos (bF ..)]
     exact NQ h2
    ·rw[if_neg (by omega),if_neg (fun x=>(bX.1 x).elim e hc)]
  ·rw[q5 j hj,Dk.get_put,if_neg (by omega)]
theorem Pg.Md {σ:Dk}{l:Lg}{p:Pg}(hV:VI σ l p)(hp:p.Ok σ l):
  ∃σ',p.home σ l=(σ',l.all.cut l.last,{p with fresh:=Im.none},0)/\σ'.oC/\σ'.n=σ.n/\σ'.waits=[]/\∀b,σ'.get (p.skip+b)=(p.fresh.find b).getD (σ.get (p.skip+b)):=by
 have hfit:=hp.fit
 have hfrm:=hp.frm
 have hskip:=hp.skip
 have hring:=hp.ring
 have hs:=Lg.C9 hV.free hV.ld (by omega:l.frm<σ.n)
 obtain⟨σ1,hσ1⟩:∃σ1,σ1=(σ.flush.put l.frm l.all.lQ).flush:=⟨_,rfl⟩
 rw[<-hσ1] at hs
 have hF1:σ1.oC:=by rw[hσ1];exact hV.free
 have hn1:σ1.n=σ.n:=by rw[hσ1];rfl
 have hg1:∀b,σ1.get (p.skip+b)=σ.get (p.skip+b):=fun b=>by rw[hσ1];exact wV _ _ _ _ (by omega)
 obtain⟨σ2,e2,F2,n2,g2,_⟩:=Pg.Gq p p.fresh.ks σ1 hF1 (fun b hb=>⟨by have:=hp.fresh.hi b hb;omega,hp.fresh.img b hb⟩)
 have hm:=Lg.y9 F2.flush (l.all.cut l.all.last) (by show l.frm<σ2.n;omega)
 have ht:l.all.trim σ2.flush l.all.last=(((σ2.flush).put l.frm (l.all.cut l.all.last).lQ).flush,l.all.cut l.all.last,0):=by
  unfold Lg.trim
  have hd:l.all.dead=false:=hV.ld
  rw[hd,if_neg (by simp),if_neg (by show ¬l.last<l.last;omega),hm]
  dsimp only
  rw[if_pos rfl]
  rfl
 refine⟨((σ2.flush).put l.frm (l.all.cut l.all.last).lQ).flush,?_,F2,by rw[<-hn1,<-n2];rfl,rfl,fun b=> ?_⟩
 ·unfold Pg.home
  rw[hs]
  dsimp only
  rw[if_pos rfl,e2]
  dsimp only
  rw[if_pos rfl,F2.sync]
  dsimp only
  rw[if_pos rfl,ht]
  dsimp only
  rw[if_pos rfl]
  rfl
 ·rw[Dk.vQ,Dk.get_put,if_neg (by omega),Dk.vQ,g2,hg1]
  unfold Im.find
  split<;>rfl
theorem Lg.AU (l:Lg)(b:List UInt8)(hn:2<=l.n):∀(k i:Nat) (σ:Dk),σ.oC->l.frm+l.n<=σ.n->
  ∃σ',l.rC b k i σ=(σ',0)/\σ'.oC/\σ'.n=σ.n/\σ'.waits.length=σ.waits.length+k/\∀j,l.frm+l.n<=j->σ'.get j=σ.get j
 |0,_,σ,h,_=>⟨σ,rfl,h,rfl,rfl,fun _ _=>rfl⟩
 |k+1,i,σ,h,hf=>by
  have hr:l.ring (l.start+l.used+i)<l.frm+l.n:=by
   unfold Lg.ring
   have:=rz (l.start+l.used+i) (by omega:0<l.n - 1)
   omega
  obtain⟨x,hx⟩:∃x,x=(b.drop (i*512)).take 512:=⟨_,rfl⟩
  have hw:=h.write (l.ring (l.start+l.used+i)) x (by omega) (by rw[hx,aF];omega)
  obtain⟨σ',q1,q2,q3,q4,q5⟩:=Lg.AU l b hn k (i+1) (σ.put (l.ring (l.start+l.used+i)) x) (h.put _ _) hf
  refine⟨σ',?_,q2,q3,?_,fun j hj=> ?_⟩
  ·rw[l.wS,<-hx,hw]
   dsimp only
   rw[if_pos rfl,q1]
  ·rw[q4]
   show (σ.waits++[_]).length+k=_
   simp;omega
  ·rw[q5 j hj,Dk.get_put,if_neg (by omega)]
theorem Pg.Dt (p:Pg)(σ:Dk)(b:Nat):p.look Im.none σ b=(p.fresh.find b).getD (σ.get (p.skip+b)):=rfl
theorem Im.LM (m d:Im)(b:Nat):(m.over d).find b=if b∈d.ks then some (d.img b) else m.find b:=by
 unfold Im.find Im.over
 rw[Im.BH]
 simp only[Im.EL]
 by_cases h:b∈d.ks
 ·simp[h]
 ·simp[h]
theorem Pg.LK (p:Pg)(d:Im)(σ:Dk)(b:Nat):({p with fresh:=p.fresh.over d}:Pg).look Im.none σ b=p.look d σ b:=by
 rw[Pg.Dt]
 show ((p.fresh.over d).find b).getD (σ.get (p.skip+b))=_
 rw[Im.LM]
 unfold Pg.look
 by_cases h:b∈d.ks
 ·have:d.find b=some (d.img b):=if_pos h
  rw[if_pos h,this];rfl
 ·have:d.find b=none:=if_neg h
  rw[if_neg h,this];rfl
def Pg.Gc (p:Pg)(im:Im):Prop:=p.ring<fq im.eu\/1024<im.ks.length
theorem JS {σ:Dk}{l:Lg}{p:Pg}{im:Im}(hV:VI σ l p)(hp:p.Ok σ l)(hl:l.Ok)(hi:im.Ok (p.blocks σ)):
  (im.ks=[]/\p.commit σ l im=(σ,l,p,l.last,0))\/
  (im.ks≠[]/\p.Gc im/\p.commit σ l im=(σ,l,p,0,13))\/
  (im.ks≠[]/\¬p.Gc im/\∃σ' l' p',p.commit σ l im=(σ',l',p',l.last+1,0)/\VI σ' l' p'/\l'.last=l.last+1/\p'.skip=p.skip/\p'.ring=p.ring/\σ'.n=σ.n/\∀b,p'.look Im.none σ' b=p.look im σ b):=by
 have hfit:=hp.fit
 have hfrm:=hp.frm
 have hskip:=hp.skip
 have hring:=hp.ring
 have hn2:=hl.n2
 by_cases hk:im.ks=[]
 ·refine .inl ⟨hk,?_⟩
  unfold Pg.commit
  rw[hV.pd,if_neg (by simp),if_pos hk]
 by_cases ho:p.Gc im
 ·refine .inr (.inl ⟨hk,ho,?_⟩)
  unfold Pg.commit
  unfold Pg.Gc at ho
  rw[hV.pd,if_neg (by simp),if_neg hk,if_pos ho]
 have ho':¬(p.ring<fq im.eu\/1024<im.ks.length):=ho
 refine .inr (.inr ⟨hk,ho,?_⟩)
 have hk0:0<im.ks.length:=dD.2 hk
 obtain⟨nd,hnd⟩:∃nd,fq im.eu=nd:=⟨_,rfl⟩
 rw[hnd] at ho'
 obtain⟨σ5,l5,p5,hr,V5,F5,hn5,hk5,hrg5,hl5,hf5,hsz5,hroom,hg5⟩:∃σ5 l5 p5,p.ready σ l nd=(σ5,l5,p5,0)/\(l5.dead=false/\p5.dead=false/\σ5.waits.length<=l5.used)/\σ5.oC/\σ5.n=σ.n/\p5.skip=p.skip/\p5.ring=p.ring/\l5.last=l.last/\l5.frm=l.frm/\l5.n=l.n/\nd<=l5.room/\∀b,p5.look im σ5 b=p.look im σ b:=by
  by_cases hrm:l.room<nd
  ·obtain⟨σ',h1,h2,h3,h4,h5⟩:=Pg.Md hV hp
   have hz:=Pg.DJ hl (p:=p) (σ:=σ) (by rw[h1])
   rw[h1] at hz
   refine⟨σ',l.all.cut l.last,{p with fresh:=Im.none},?_,⟨hV.ld,hV.pd,by rw[h4];exact aX _⟩,h2,h3,rfl,rfl,rfl,rfl,rfl,by have:=hz.2.2.2.1;dsimp only at this;omega,fun b=> ?_⟩
   ·unfold Pg.ready
    rw[if_pos hrm,h1]
   ·unfold Pg.look
    congr 1
    show σ'.get (p.skip+b)=_
    exact h5 b
  ·refine⟨σ,l,p,?_,⟨hV.ld,hV.pd,hV.wt⟩,hV.free,rfl,rfl,rfl,rfl,rfl,rfl,by omega,fun _=>rfl⟩
   unfold Pg.ready
   rw[if_neg hrm]
 have hbad:l5.bad im.eu=0:=by
  have:=Lg.Cc (l:=l5) hi V5.1 hk0 (by omega) (by rw[hnd];exact hroom)
  rwa [rD] at this
 obtain⟨σ6,q1,q2,q3,q4,q5⟩:=Lg.AU l5 (Ca (l5.last+1) im.eu) (by omega) (fq im.eu) 0 σ5 F5 (by omega)
 have hap:l5.append σ5 im.eu=(σ6,l5.more im.eu,l5.last+1,0):=by
  unfold Lg.append
  rw[hbad,if_neg (by simp),q1]
  dsimp only
  rw[if_pos rfl]
 have hc:=Pg.zn hV.pd hk hnd (by omega) hr hap
 rw[if_pos rfl] at hc
 refine⟨σ6,l5.more im.eu,{p5 with fresh:=p5.fresh.over im},?_,⟨q2,V5.1,V5.2.1,?_⟩,?_,hk5,hrg5,q3.trans hn5,fun b=> ?_⟩
 ·rw[hc,hl5]
 ·show _<=l5.used+fq im.eu
  rw[q4];have:=V5.2.2;omega
 ·show l5.last+1=_
  rw[hl5]
 ·rw[Pg.LK,<-hg5]
  unfold Pg.look
  rw[q5 _ (by omega)]
theorem Nr {σ:Dk}{l:Lg}{p:Pg}(hV:VI σ l p)(hp:p.Ok σ l):
  ∃σ' l',p.sync σ l=(σ',l',p,0)/\VI σ' l' p/\l'.last=l.last/\l'.synced=l.last/\σ'.n=σ.n/\∀im b,p.look im σ' b=p.look im σ b:=by
 have hfit:=hp.fit
 have hfrm:=hp.frm
 have hskip:=hp.skip
 have hring:=hp.ring
 unfold Pg.sync
 rw[hV.pd,if_neg (by simp)]
 by_cases h1:l.synced=l.last/\σ.dead=false
 ·rw[if_pos h1]
  exact⟨σ,l,rfl,hV,rfl,h1.1,rfl,fun _ _=>rfl⟩
 ·rw[if_neg h1,Lg.C9 hV.free hV.ld (by omega)]
  dsimp only
  rw[if_pos rfl]
  refine⟨_,_,rfl,⟨hV.free,hV.ld,hV.pd,aX _⟩,rfl,rfl,rfl,fun im b=> ?_⟩
  unfold Pg.look
  rw[wV _ _ _ _ (by omega)]
structure nD where
 k:ByteArray
 s:ByteArray
 v:ByteArray
 b:List Int
def jc (es:List nD):List Pr:=es.map fun e=>(e.k,e.s)
def iQ (es:List nD):List Pr:=es.map fun e=>(e.k,e.v)
def dV (es:List nD):List Int:=es.flatMap (·.b)
theorem uP (a b:List nD):jc (a++b)=jc a++jc b:=by simp[jc]
theorem mG (a b:List nD):iQ (a++b)=iQ a++iQ b:=by simp[iQ]
theorem iR (a b:List nD):dV (a++b)=dV a++dV b:=by simp[dV]
theorem DZ (e:nD)(b:List nD):dV (e::b)=e.b++dV b:=by simp[dV]
theorem fC (es:List nD):(jc es).length=es.length:=by simp[jc]
theorem kV (es:List nD):(iQ es).length=es.length:=by simp[iQ]
def tZ (es:List nD)(key:ByteArray):Nat:=(es.takeWhile fun e=>lt e.k key).length
theorem Ev (f:nD->Pr)(hf:∀e,(f e).1=e.k)(es:List nD)(key:ByteArray):dN (es.map f) key=tZ es key:=by
 unfold dN tZ
 rw[List.takeWhile_map,eX]
 congr 2
 funext e
 simp[hf]
theorem KN (f:nD->Pr)(hf:∀e,(f e).1=e.k)(es:List nD)(key:ByteArray):
  (∀o,es[tZ es key]? =some o->o.k=key->eT (es.map f) key=some (f o).2/\(∀x,mI (es.map f) key x=(es.take (tZ es key)).map f++(key,x)::(es.drop (tZ es key+1)).map f)/\nu (es.map f) key=(es.take (tZ es key)).map f++(es.drop (tZ es key+1)).map f)/\
  ((∀o,es[tZ es key]? =some o->o.k≠key)->eT (es.map f) key=none/\(∀x,mI (es.map f) key x=(es.take (tZ es key)).map f++(key,x)::(es.drop (tZ es key)).map f)/\nu (es.map f) key=es.map f):=by
 have hp:=Ev f hf es key
 constructor
 ·intro o ho hk
  obtain⟨hl,_⟩:=dh.1 ho
  have hat:nT (es.map f) key=true:=by
   unfold nT
   rw[hp,di,ho]
   simp[hf,hk]
  refine⟨?_,fun x=> ?_,?_⟩
  ·unfold eT
   rw[if_pos hat,hp,di,ho];rfl
  ·unfold mI
   rw[if_pos hat,hp,rU,if_pos (by rw[eX];exact hl),gK,gu]
  ·unfold nu
   rw[if_pos hat,hp,gK,gu]
 ·intro hno
  have hat:nT (es.map f) key=false:=by
   unfold nT
   rw[hp,di]
   cases he:es[tZ es key]? with
   |none=>rfl
   |some o=>simp[hf,hno o he]
  refine⟨?_,fun x=> ?_,?_⟩
  ·unfold eT
   rw[if_neg (by rw[hat];simp)]
  ·unfold mI
   rw[if_neg (by rw[hat];simp),hp,gK,gu]
  ·unfold nu
   rw[if_neg (by rw[hat];simp)]
structure rR (es:List nD)(key:ByteArray)(l o r:List nD):Prop where
 eq:es=l++o++r
 one:o=[]\/∃e,o=[e]/\e.k=key
 ls:eT (jc es) key=o.head?.map (·.s)
 lv:eT (iQ es) key=o.head?.map (·.v)
 is:∀s v b,mI (jc es) key s=jc (l++⟨key,s,v,b⟩::r)
 iv:∀s v b,mI (iQ es) key v=iQ (l++⟨key,s,v,b⟩::r)
 ds:nu (jc es) key=jc (l++r)
 dv:nu (iQ es) key=iQ (l++r)
theorem O7 (es:List nD)(key:ByteArray):∃l o r,rR es key l o r:=by
 have hs:=KN (fun e=>(e.k,e.s)) (fun _=>rfl) es key
 have hv:=KN (fun e=>(e.k,e.v)) (fun _=>rfl) es key
 by_cases h:∃o,es[tZ es key]? =some o/\o.k=key
 ·obtain⟨o,ho,hk⟩:=h
  obtain⟨hl,he⟩:=dh.1 ho
  obtain⟨a1,a2,a3⟩:=hs.1 o ho hk
  obtain⟨b1,b2,b3⟩:=hv.1 o ho hk
  refine⟨es.take (tZ es key),[o],es.drop (tZ es key+1),?_,.inr ⟨o,rfl,hk⟩,a1,b1,fun s v b=> ?_,fun s v b=> ?_,?_,?_⟩
  ·rw[<-he,aN,List.singleton_append,List.getElem_cons_drop,bV]
  ·rw[uP];exact a2 s
  ·rw[mG];exact b2 v
  ·rw[uP];exact a3
  ·rw[mG];exact b3
 ·have hno:∀o,es[tZ es key]? =some o->o.k≠key:=fun o ho hk=>h ⟨o,ho,hk⟩
  obtain⟨a1,a2,a3⟩:=hs.2 hno
  obtain⟨b1,b2,b3⟩:=hv.2 hno
  refine⟨es.take (tZ es key),[],es.drop (tZ es key),?_,.inl rfl,a1,b1,fun s v b=> ?_,fun s v b=> ?_,?_,?_⟩
  ·rw[dS,bV]
  ·rw[uP];exact a2 s
  ·rw[mG];exact b2 v
  ·rw[bV];exact a3
  ·rw[bV];exact b3
theorem ve.keep {σ σ':dF}{head size:Nat}{rs:List (Nat×Nat)}(h:ve σ head size rs)(h1:σ'.hasB head=true)(h2:σ'.mem head=σ.mem head):ve σ' head size rs:=by
 obtain⟨a,_,c,d,e,f,g⟩:=h
 exact⟨a,h1,by rw[h2];exact c,d,e,f,g⟩
theorem oQ.keep {σ σ':dF}{head:Nat}{t:List UInt8}{rs:List (Nat×Nat)}(h:oQ σ head t rs)(hk:∀x∈jY head rs,σ'.hasB x=true/\σ'.mem x=σ.mem x):oQ σ' head t rs:=by
 have hin:∀b∈fJ rs++[head],((b:Nat):Int)∈jY head rs:=fun b hb=>jJ hb
 refine⟨h.hd.keep (hk _ (hin head (by simp))).1 (hk _ (hin head (by simp))).2,h.nd,fun i hi=> ?_⟩
 obtain⟨a,b,c⟩:=h.blk i hi
 have:=hk _ (hin (fJ rs)[i] (dO _ (bD hi)))
 exact⟨this.1,b,this.2.trans c⟩
theorem ValAt.keep {σ σ':dF}{s v:ByteArray}{vb:List Int}(h:ValAt σ s v vb)(hk:∀x∈vb,σ'.hasB x=true/\σ'.mem x=σ.mem x):ValAt σ' s v vb:=by
 rcases h with h|⟨hd,rs,h1,h2,h3,h4⟩
 ·exact .inl h
 ·exact .inr ⟨hd,rs,h1,h2,h3.keep (fun x hx=>hk x (by rw[h4];exact hx)),h4⟩
theorem ValAt.all {σ:dF}{s v:ByteArray}{vb:List Int}(h:ValAt σ s v vb):∀x∈vb,σ.hasB x=true/\2<=x:=by
 rcases h with ⟨_,_,rfl⟩|⟨hd,rs,_,_,h3,rfl⟩
 ·intro x hx;cases hx
 ·exact h3.all
theorem dU.TU {T:ByteArray->Option ByteArray->Int->List Pr->List Int->Prop}(hT:∀k z b c x,T k z b c x->∀y∈x,2<=y){hi:Option ByteArray}{l:List (ByteArray×Int)}{cs:List Pr}{bs:List Int}(h:dU T hi l cs bs):∀y∈bs,2<=y:=dU.has hT h
theorem iL.two {σ:dF}:∀{h m:Nat} {lo:ByteArray} {hi:Option ByteArray} {b:Int} {cs:List Pr} {bs:List Int},iL σ h m lo hi b cs bs->∀x∈bs,2<=x
 |0,_,_,_,_,_,_,⟨nd,h1,_,_,_,_,_,_,h8⟩=>by
  intro x hx
  rw[h8] at hx
  rw[bK.1 hx]
  exact h1.lo
 |h+1,_,_,_,_,_,_,⟨nd,bs',h1,_,_,_,h5,h6⟩=>by
  subst h5
  intro x hx
  rcases bX.1 hx with rfl|hx
  ·exact h1.lo
  ·exact dU.TU (fun _ _ _ _ _ ht=>iL.two ht) h6 x hx
theorem Ae.two {σ:dF}{root:Int}{cs:List Pr}{bs:List Int}(h:Ae σ root cs bs):∀x∈bs,2<=x:=by
 rcases h with ⟨_,_,rfl⟩|⟨h,ht⟩
 ·intro x hx;cases hx
 ·exact ht.two
structure Own (σ:dF)(bs:List Int):Prop where
 nd:bs.Nodup
 ex:∀x,σ.hasB x=true->x=0\/x=1\/x∈bs
 size:σ.sz=countB σ.H.old σ.most+nh σ bs
theorem Own.BS {σ σ':dF}{us bs:List Int}(h:Own σ us)(hc:lM σ σ' us bs):Own σ' bs:=by
 refine⟨hc.nd h.nd,fun x hx=> ?_,?_⟩
 ·rcases hc.ex x hx with y|⟨y,z⟩
  ·exact .inr (.inr y)
  ·exact(h.ex x y).imp id (fun e=>e.imp id (fun e=>absurd e z))
 ·have a:=hc.size
  have b:=h.size
  rw[hc.H,hc.most,tJ hc.H]
  omega
structure Live (σ:dF)(root:Int)(es:List nD)(tb:List Int):Prop where
 tree:Ae σ root (jc es) tb
 val:∀e∈es,ValAt σ e.s e.v e.b
 own:Own σ (tb++dV es)
theorem Live.bb {σ:dF}{root:Int}{es:List nD}{tb:List Int}(h:Live σ root es tb):∀x∈dV es,σ.hasB x=true/\2<=x:=by
 intro x hx
 obtain⟨e,he,hx⟩:=p9.1 hx
 exact(h.val e he).all x hx
theorem Live.all {σ:dF}{root:Int}{es:List nD}{tb:List Int}(h:Live σ root es tb):∀x∈tb++dV es,σ.hasB x=true/\2<=x:=by
 intro x hx
 rcases bO.1 hx with hx|hx
 ·exact⟨h.tree.has x hx,h.tree.two x hx⟩
 ·exact h.bb x hx
theorem nK {a b:List Int}(h:(a++b).Nodup):∀x∈b,x∉a:=fun x hx ha=>(dX.1 h).2.2 x ha x hx rfl
theorem Gm {σ σ1 σ2 σ3:dF}{root root':Int}{es l o r:List nD}{tb nb:List Int}{key s v:ByteArray}(hL:Live σ root es tb)(hA:rR es key l o r)(h1:lM σ σ1 (dV o) [])(h2:lM σ1 σ2 [] nb)(hv:ValAt σ2 s v nb){n:Nat}(h3:zC σ2 tb (mI (jc es) key s) n σ3 root'):
  ∃tb',Live σ3 root' (l++⟨key,s,v,nb⟩::r) tb'/\lM σ σ3 (tb++dV es) (tb'++dV (l++⟨key,s,v,nb⟩::r)):=by
 obtain⟨tb',ht,h3,_,_⟩:=h3
 have hall:=hL.all
 have hn:=hL.own.nd
 have hes:=hA.eq
 have hbb:dV es=dV l++dV o++dV r:=by rw[hes,iR,iR]
 obtain⟨R,hR⟩:∃R,R=tb++dV l++dV r:=⟨_,rfl⟩
 have hp1:(tb++dV es).Perm (dV o++R):=by
  rw[hbb,hR]
  have:(tb++(dV l++dV o++dV r)).Perm (tb++(dV o++dV l++dV r)):=((fV).append_right _).append_left _
  refine this.trans ?_
  have e1:tb++(dV o++dV l++dV r)=tb++dV o++(dV l++dV r):=by simp
  have e2:dV o++(tb++dV l++dV r)=dV o++tb++(dV l++dV r):=by simp
  rw[e1,e2]
  exact fV.append_right _
 have hn1:=hp1.nodup_iff.1 hn
 have hRa:∀x∈R,σ.hasB x=true:=fun x hx=>(hall x (hp1.mem_iff.2 (dP _ hx))).1
 have c1:=h1.left (rs:=R) hn1 hRa
 have hR1:∀x∈R,σ1.hasB x=true:=fun x hx=>(c1.new x hx).1
 have c2:=h2.left (rs:=R) (c1.nd hn1) hR1
 have hn2:=c2.nd (c1.nd hn1)
 have hp3:(nb++R).Perm (tb++(nb++dV l++dV r)):=by
  rw[hR]
  have e1:nb++(tb++dV l++dV r)=nb++tb++(dV l++dV r):=by simp
  have e2:tb++(nb++dV l++dV r)=tb++nb++(dV l++dV r):=by simp
  rw[e1,e2]
  exact fV.append_right _
 have hn3:=hp3.nodup_iff.1 hn2
 have hS2:∀x∈nb++R,σ2.hasB x=true:=fun x hx=>(c2.new x hx).1
 have c3:=h3.left (rs:=nb++dV l++dV r) hn3 (fun x hx=>hS2 x (hp3.mem_iff.2 (dP _ hx)))
 have hbb':dV (l++⟨key,s,v,nb⟩::r)=dV l++(nb++dV r):=by rw[iR,DZ]
 have hp4:(tb'++(nb++dV l++dV r)).Perm (tb'++dV (l++⟨key,s,v,nb⟩::r)):=by
  rw[hbb',<-aN (dV l)]
  exact(fV.append_right _).append_left _
 have C:lM σ σ3 (tb++dV es) (tb'++dV (l++⟨key,s,v,nb⟩::r)):=by
  have a:lM σ σ2 (tb++dV es) (tb++(nb++dV l++dV r)):=(c1.trans c2).perm hp1.symm hp3
  exact(a.trans c3).perm (jH _) hp4
 refine⟨tb',⟨?_,fun e he=> ?_,hL.own.BS C⟩,C⟩
 ·rw[<-hA.is s v nb];exact ht
 ·have hoff:∀x∈nb++dV l++dV r,x∉tb:=nK hn3
  rcases bO.1 he with he|he
  ·have hin:∀x∈e.b,x∈dV l:=fun x hx=>p9.2 ⟨e,he,hx⟩
   refine(hL.val e (by rw[hes];exact dO _ (dO _ he))).keep fun x hx=> ?_
   have hxR:x∈R:=by rw[hR];exact dO _ (dP _ (hin x hx))
   have f1:=h1.frame x (hRa x hxR) (.inl (nK hn1 x hxR))
   have f2:=h2.frame x f1.1 (.inl (by simp))
   have f3:=h3.frame x f2.1 (.inl (hoff x (dO _ (dP _ (hin x hx)))))
   exact⟨f3.1,f3.2.trans (f2.2.trans f1.2)⟩
  ·rcases bX.1 he with rfl|he
   ·exact hv.keep fun x hx=>h3.frame x (hS2 x (dO _ hx)) (.inl (hoff x (dO _ (dO _ hx))))
   ·have hin:∀x∈e.b,x∈dV r:=fun x hx=>p9.2 ⟨e,he,hx⟩
    refine(hL.val e (by rw[hes];exact dP _ he)).keep fun x hx=> ?_
    have hxR:x∈R:=by rw[hR];exact dP _ (hin x hx)
    have f1:=h1.frame x (hRa x hxR) (.inl (nK hn1 x hxR))
    have f2:=h2.frame x f1.1 (.inl (by simp))
    have f3:=h3.frame x f2.1 (.inl (hoff x (dP _ (hin x hx))))
    exact⟨f3.1,f3.2.trans (f2.2.trans f1.2)⟩
theorem Gn {σ σ1 σ3:dF}{root root':Int}{es l o r:List nD}{tb:List Int}{key:ByteArray}(hL:Live σ root es tb)(hA:rR es key l o r)(h1:lM σ σ1 (dV o) []){n:Nat}(h3:zC σ1 tb (nu (jc es) key) n σ3 root'):
  ∃tb',Live σ3 root' (l++r) tb'/\lM σ σ3 (tb++dV es) (tb'++dV (l++r)):=by
 obtain⟨tb',ht,h3,_,_⟩:=h3
 have hall:=hL.all
 have hn:=hL.own.nd
 have hes:=hA.eq
 have hbb:dV es=dV l++dV o++dV r:=by rw[hes,iR,iR]
 have hp1:(tb++dV es).Perm (dV o++(tb++(dV l++dV r))):=by
  rw[hbb]
  have:(tb++(dV l++dV o++dV r)).Perm (tb++(dV o++dV l++dV r)):=((fV).append_right _).append_left _
  refine this.trans ?_
  have e1:tb++(dV o++dV l++dV r)=tb++dV o++(dV l++dV r):=by simp
  have e2:dV o++(tb++(dV l++dV r))=dV o++tb++(dV l++dV r):=by simp
  rw[e1,e2]
  exact fV.append_right _
 have hn1:=hp1.nodup_iff.1 hn
 have hRa:∀x∈tb++(dV l++dV r),σ.hasB x=true:=fun x hx=>(hall x (hp1.mem_iff.2 (dP _ hx))).1
 have c1:=h1.left (rs:=tb++(dV l++dV r)) hn1 hRa
 have hR1:∀x∈tb++(dV l++dV r),σ1.hasB x=true:=fun x hx=>(c1.new x hx).1
 have hn3:(tb++(dV l++dV r)).Nodup:=c1.nd hn1
 have c3:=h3.left (rs:=dV l++dV r) hn3 (fun x hx=>hR1 x (dP _ hx))
 have C:lM σ σ3 (tb++dV es) (tb'++dV (l++r)):=by
  rw[iR]
  exact(c1.trans c3).perm hp1.symm (jH _)
 refine⟨tb',⟨?_,fun e he=> ?_,hL.own.BS C⟩,C⟩
 ·rw[<-hA.ds];exact ht
 ·have hin:∀x∈e.b,x∈dV l++dV r:=fun x hx=>by rw[<-iR];exact p9.2 ⟨e,he,hx⟩
  have hmem:e∈es:=by
   rw[hes]
   rcases bO.1 he with he|he
   ·exact dO _ (dO _ he)
   ·exact dP _ he
  refine(hL.val e hmem).keep fun x hx=> ?_
  have hxR:=dP tb (hin x hx)
  have f1:=h1.frame x (hRa x hxR) (.inl (nK hn1 x hxR))
  have f3:=h3.frame x f1.1 (.inl (nK hn3 x (hin x hx)))
  exact⟨f3.1,f3.2.trans f1.2⟩
theorem wZ:∀(n:Nat) (f:Nat->Bool) (L:List Nat),L.Nodup->(∀x,x∈L↔x<n/\f x=true)->countB f n=L.length
 |0,f,L,_,h=>by
  cases L with
  |nil=>rfl
  |cons a L=>exact absurd ((h a).1 (bF ..)).1 (oG _)
 |n+1,f,L,hn,h=>by
  rw[jG]
  by_cases hf:f n=true
  ·have hm:n∈L:=(h n).2 ⟨gV n,hf⟩
   have ih:=wZ n f (L.erase n) (hn.erase n) (fun x=>by
    rw[hn.mem_erase_iff,h]
    constructor
    ·rintro⟨a,b,c⟩;exact⟨by omega,c⟩
    ·rintro⟨a,b⟩;exact⟨by omega,by omega,b⟩)
   rw[ih,hf,List.length_erase_of_mem hm]
   have:=List.length_pos_of_mem hm
   simp;omega
  ·have hf':f n=false:=by simpa using hf
   have ih:=wZ n f L hn (fun x=>by
    rw[h]
    constructor
    ·rintro⟨a,b⟩
     exact⟨by have:x≠n:=fun e=>hf (e▸b);omega,b⟩
    ·rintro⟨a,b⟩;exact⟨by omega,b⟩)
   rw[ih,hf'];rfl
theorem Own.count {σ:dF}{bs:List Int}(h:Own σ bs)(hok:σ.Ok)(hb:∀x∈bs,σ.hasB x=true/\2<=x):countB σ.now σ.most=2+bs.length:=by
 obtain⟨L,hL⟩:∃L:List Nat,L=bs.map Int.toNat:=⟨_,rfl⟩
 have h2:=hok.two
 have hin:∀x∈L,2<=x/\x<σ.most/\σ.now x=true:=by
  intro x hx
  rw[hL] at hx
  obtain⟨y,hy,rfl⟩:=dL.1 hx
  obtain⟨n,e,a,b⟩:=dF.ng (hb y hy).1
  have:=(hb y hy).2
  rw[e,gH]
  exact⟨by omega,a,b⟩
 have hnd:L.Nodup:=by
  rw[hL]
  refine List.Pairwise.map _ (R:=fun a b=>a≠b/\2<=a/\2<=b) (fun a b (hab:a≠b/\2<=a/\2<=b) e=>hab.1 (by omega)) ?_
  have:=h.nd
  exact List.Pairwise.imp_of_mem (fun ha hb' hab=>⟨hab,(hb _ ha).2,(hb _ hb').2⟩) this
 rw[wZ σ.most σ.now (0::1::L) ?_ fun x=> ?_]
 ·rw[hL];simp;omega
 ·refine oH.2 ⟨fun e=> ?_,oH.2 ⟨fun e=> ?_,hnd⟩⟩
  ·rcases bX.1 e with e|e
   ·cases e
   ·have:=(hin 0 e).1;omega
  ·have:=(hin 1 e).1;omega
 ·constructor
  ·intro hx
   rcases bX.1 hx with rfl|hx
   ·exact⟨by omega,hok.n0⟩
   ·rcases bX.1 hx with rfl|hx
    ·exact⟨by omega,hok.n1⟩
    ·exact(hin x hx).2
  ·rintro⟨a,b⟩
   have hh:σ.hasB (x:Int)=true:=by unfold dF.hasB;rw[gH,b];simp[a]
   rcases h.ex x hh with e|e|e
   ·have:x=0:=by omega
    subst this;exact bF ..
   ·have:x=1:=by omega
    subst this;exact bq _ (bF ..)
   ·refine bq _ (bq _ ?_)
    rw[hL]
    exact dL.2 ⟨x,e,by simp⟩
theorem Qz (mp:VS)(root:Int)(w:World)(hr:0<=root):
  Calls Tryz.prog 60 #[.iface 105 mp.agg,.int .i64 root] w fun e w'=>e= .returned (.pointer (some ⟨w.heap.size,0,none⟩))/\dA w' w.heap.size mp root 0/\w'.heap.size=w.heap.size+1/\Below w.heap.size w w':=by
 have hr2:¬root<0:=by omega
 have heq:∀w:World,(binOp BinOp.eql 168 (.iface 105 mp.agg) .nilIface).run Tryz.prog w= .ok (.bool false) w:=fun _=>by kernel_rfl
 go_enter Tryz.func60,Tryz.ntmps60
 go_wp2_with fail
 go_ret
 exact⟨rfl,aP _ _,by simp,aK _ _⟩
def Pe (l:List UInt8)(root:Nat):Prop:=root<65536/\∃rest,l=[UInt8.ofNat root,UInt8.ofNat (root/256)]++rest
def dF.start (σ:Dk)(l:Lg)(p:Pg)(f:Nat->Bool):dF:=⟨⟨σ,l,p,f⟩,p.blocks σ,Im.none,f,countB f (p.blocks σ)⟩
theorem dF.Ok.start {σ:Dk}{l:Lg}{p:Pg}{f:Nat->Bool}(hp:p.Ok σ l)(hs:σ.Ok)(hd:p.dead=false)(hsd:σ.dead=false)(h2:2<=p.blocks σ)(hhi:∀b,p.blocks σ<=b->f b=false)(h0:f 0=true)(h1:f 1=true):(dF.start σ l p f).Ok:=by
 refine⟨hd,hsd,rfl,h2,?_,hhi,hhi,h0,h1,(fun b hb=>by cases hb),(fun b _ hn ho=> ?_),?_,fun b _=> ?_⟩
 ·have:=hs.hi
  show p.blocks σ<=4096
  unfold Pg.blocks;omega
 ·have hn':f b=true:=hn
  have ho':f b=false:=ho
  rw[hn'] at ho';cases ho'
 ·show countB (fun x=>f x||f x) (p.blocks σ)<=countB f (p.blocks σ)
  exact pu _ (fun x _ hx=>by simpa using hx)
 ·show (p.look Im.none σ b).length=512
  rw[Pg.Dt]
  unfold Im.find
  split
  ·exact hp.fresh.img _ ‹_›
  ·exact hs.get _
def MP (pg d:Nat)(σ:Dk)(l:Lg)(p:Pg)(f:Nat->Bool)(root:Nat)(S:Nat->Prop)(w:World)(e:Ending)(w':World):Prop:=
 ∃t tr mp S',e= .returned (.tuple #[.pointer (some ⟨t,0,none⟩),.int .i64 0])/\mp.pg=pg/\mp.d=d/\w'.heap[t]? =some (.cells (fK mp (some tr) false 0) 110 (0,0))/\dA w' tr mp root 0/\Inv (dF.start σ l p f) S' mp w'/\Step S S' w w'/\¬S' t/\¬S' tr/\w.heap.size<=t/\w.heap.size<=tr
theorem Rn (v pg d:Nat)(σ:Dk)(l:Lg)(p:Pg)(f:Nat->Bool)(root:Nat)(S:Nat->Prop)(w:World)(hv:w.heap[v]? =some (.cells #[.pointer (some ⟨pg,0,none⟩)] 93 (0,0)))(hvS:¬S v)(h:kP w S pg d σ l p (.pointer none))(hd:p.dead=false)(hsd:σ.dead=false)(h2:2<=p.blocks σ)(hf:p.look Im.none σ 0=bytesOf f)(hhi:∀b,p.blocks σ<=b->f b=false)(h0:f 0=true)(h1:f 1=true)(hr:Pe (p.look Im.none σ 1) root):
  Calls Tryz.prog 35 #[.pointer (some ⟨v,0,none⟩)] w (MP pg d σ l p f root S w):=by
 have hok:=dF.Ok.start h.ok.1 h.ok.2.1 hd hsd h2 hhi h0 h1
 have c0:w.cell? ⟨v,0,none⟩=some (.pointer (some ⟨pg,0,none⟩)):=by simp[World.cell?,hv]
 have hlt:=(aj.1 hv).1
 have HB:=af (NP pg d σ l p S w h hd)
 have HV:=af hv;have HOK:=af hok
 have hsub:=h.sub
 obtain⟨hr1,rest,hr2⟩:=hr
 have HF:=af (aC hf (aC hhi (aC h0 h1)))
 have HR2:=af hr2
 clear hv h hok hf hhi h0 h1 hr2
 go_enter Tryz.func35,Tryz.ntmps35
 go_wp2_with (first
  |(go_at_call 52;go_must (refine HB.out.mono ?_;rintro e w1 ⟨tx,T,rfl,hp1,htx1,hs1,hT1⟩;refine Stop.of ?_)))
 refine Stop.on ?_
 have hdis:∀g,S g->¬T g:=fun g hg e=>absurd (hT1 g e) (fI.2 (hsub g hg))
 have hv1:=(hs1.1.block v hlt hvS).trans HV.out
 have d0:w1.cell? ⟨v,0,none⟩=some (.pointer (some ⟨pg,0,none⟩)):=by simp[World.cell?,hv1]
 have hl1:=(aj.1 hv1).1
 have HBK:=af (Ew pg d σ l p _ S w1 hp1)
 have HLD:=af (Ru tx pg d σ l p _ Im.none S T f w1.drew (hp1.below ((aO _ w1).drew)) (htx1.below ((aO _ w1).drew)) hd hsd h2 HF.out.1 HF.out.2.1 HF.out.2.2.1 HF.out.2.2.2)
 have HP1:=af (aC hp1 (aC htx1 hs1))
 clear hv1 hp1 htx1 hs1
 go_wp2_with (first
  |(go_at_call 54;go_must (refine HBK.out.mono ?_;rintro e w2 ⟨rfl,hw2⟩;subst w2))
  |(go_at_call 57;go_must (refine HLD.out.mono ?_;rintro e w2 ⟨mp,rfl,hmp2,hmlo,hb2⟩;refine Stop.of ?_)))
 refine Stop.on ?_
 have hb12:Below w1.heap.size w1 w2:=((aO _ w1).drew).trans hb2
 have hp2:=HP1.out.1.below hb12
 have htx2:=HP1.out.2.1.below hb12
 have HRD:=tread tx pg d σ l p _ Im.none S T 1 w2 hp2 htx2 hd hsd (by omega)
 rw[HR2.out] at HRD
 have HRD:=af HRD
 go_wp2_with (first
  |(go_at_call 59;go_must (refine HRD.out.mono ?_;rintro e w3 ⟨rv,rfl,hrv3,hro3,hb3⟩;refine Stop.of ?_)))
 refine Stop.on ?_
 obtain⟨ro,rc,rfl,r1,r2,r3,r4⟩:=bJ.form hrv3
 have hbt:=UInt8.toNat_lt (UInt8.ofNat root)
 have hbt2:=UInt8.toNat_lt (UInt8.ofNat (root/256))
 have e1:(UInt8.ofNat root).toNat=root%256:=by rw[eZ]
 have e2:(UInt8.ofNat (root/256)).toNat=root/256:=by rw[eZ];omega
 obtain⟨pb,po,rfl,e30⟩:=hrv3.yD rfl 0 (.int .u8 ((root%256:Nat):Int)) (by simp[aL,e1])
 obtain⟨pb',po',e',e31⟩:=hrv3.yD rfl 1 (.int .u8 ((root/256:Nat):Int)) (by simp[aL,e2])
 cases e'
 have hpb:=aD w3 _ e30
 obtain⟨lo,hlo⟩:∃n:Nat,n=root%256:=⟨_,rfl⟩
 obtain⟨hi,hhi⟩:∃n:Nat,n=root/256:=⟨_,rfl⟩
 rw[<-hlo] at e30
 rw[<-hhi] at e31
 have hlo2:lo<256:=by omega
 have hhi2:hi<256:=by omega
 have hroot:root=lo+256*hi:=by omega
 have q1:IntKind.i64.wrap (lo:Int)=(lo:Int):=aM _ (by omega)
 have q2:IntKind.i64.wrap (hi:Int)=(hi:Int):=aM _ (by omega)
 have p1:IntKind.i64.wrap ((hi:Int)*256)=((256*hi:Nat):Int):=by rw[aM _ (by omega)];omega
 have o1:=Gd lo hi 256 root 8 rfl hlo2 hroot (by omega)
 have HRT:=af hroot
 obtain⟨m1,hm1⟩:∃m:Nat,Hid (256*hi=m):=⟨_,af rfl⟩
 rw[hm1.out] at p1 o1
 have HP3:=af (aC (hp2.below hb3) (aC (htx2.below hb3) (hb12.trans (hb3.mono hb12.size))))
 have hmp3:=af ((hb3.block mp (aj.1 hmp2).1).trans hmp2)
 clear hrv3 hro3 e1 e2 hbt hbt2 hlo hhi hroot hp2 htx2 hmp2
 go_upto_region 15 with (fail)
 have hb4:=aK w3 (.cells #[.pointer (some ⟨tx,0,none⟩),.pointer (some ⟨mp,0,none⟩)] 105)
 have h4:=aP w3 (.cells #[.pointer (some ⟨tx,0,none⟩),.pointer (some ⟨mp,0,none⟩)] 105)
 obtain⟨sb,hsb⟩:∃sb,Hid (w3.heap.size=sb):=⟨_,af rfl⟩
 obtain⟨w4,hw4⟩:∃w4,Hid (w3.alloc (.cells #[.pointer (some ⟨tx,0,none⟩),.pointer (some ⟨mp,0,none⟩)] 105)=w4):=⟨_,af rfl⟩
 rw[hw4.out] at hb4 h4 ⊢
 rw[hsb.out] at h4 ⊢
 have HCL:=af (show ∀W:World,Below w4.heap.size w4 W->(W.cell? ⟨sb,0,none⟩=some (.pointer (some ⟨tx,0,none⟩))/\W.cell? ⟨sb,1,none⟩=some (.pointer (some ⟨mp,0,none⟩))/\W.cell? ⟨pb,po,none⟩=some (.int .u8 (lo:Int))/\W.cell? ⟨pb,po+1,none⟩=some (.int .u8 (hi:Int))/\sb<W.heap.size/\pb<W.heap.size) from fun W hW=>by
  have hl:=(aj.1 h4).1
  have hl3:=ax hpb hb4.size
  have h5:=(hW.block sb hl).trans h4
  exact⟨by simp[World.cell?,h5],by simp[World.cell?,h5],(hW.cell (p:=⟨pb,po,none⟩) hl3).trans ((hb4.cell (p:=⟨pb,po,none⟩) hpb).trans e30),(hW.cell (p:=⟨pb,po+1,none⟩) hl3).trans ((hb4.cell (p:=⟨pb,po+1,none⟩) hpb).trans e31),ax hl hW.size,ax hl3 hW.size⟩)
 have HB4:=af hb4
 clear e30 e31 h4 hb4
 refine aS (fun W=>W.cell? ⟨sb,0,none⟩=some (.pointer (some ⟨tx,0,none⟩))/\W.cell? ⟨sb,1,none⟩=some (.pointer (some ⟨mp,0,none⟩))/\W.cell? ⟨pb,po,none⟩=some (.int .u8 (lo:Int))/\W.cell? ⟨pb,po+1,none⟩=some (.int .u8 (hi:Int))/\sb<W.heap.size/\pb<W.heap.size) (fun i=> !([13,15].contains i)) [0,1,2,3,4,5,6,7,8,9,10,11,12,13,14,15,16,17] rfl (by kernel_rfl) (HCL.out _ ((aO _ w4).drew)) ?_
 repeat ((refine bL (v:= ?_) rfl rfl (fun _ _ _ h=>h) rfl (fun W hW=> ?_) ?_);rotate_left;(focus ((try dsimp only at hW);obtain⟨a0,a1,a2,a3,a4,a5⟩:=hW;(go_simp;first|done|with_reducible rfl)));(try simp only[Act.put,ah,au,ak]))
 obtain⟨ms,hms⟩:∃ms:VS,ms=⟨tx,pg,d,mp⟩:=⟨_,rfl⟩
 have HBO:=af (Qz ms (root:Int) w4.drew (by omega))
 rw[hms] at HBO
 refine dm rfl rfl rfl ?_;intro K hK;go_simp
 refine HBO.out.mono ?_;rintro e w5 ⟨rfl,htr5,-,hb5⟩
 have hb45:Below w4.heap.size w4 w5:=((aO _ w4).drew).trans hb5
 refine hK.out _ _ (HCL.out _ hb45) ?_
 (try simp only[Act.put,ah,au,ak])
 repeat ((refine bL (v:= ?_) rfl rfl (fun _ _ _ h=>h) rfl (fun W hW=> ?_) ?_);rotate_left;(focus ((try dsimp only at hW);obtain⟨a0,a1,a2,a3,a4,a5⟩:=hW;(go_simp;first|done|with_reducible rfl)));(try simp only[Act.put,ah,au,ak]))
 refine dm rfl rfl rfl ?_;intro K hK;go_simp
 have hb6:=aK w5 (.cells #[.pointer (some ⟨tx,0,none⟩),.pointer (some ⟨mp,0,none⟩),.pointer (some ⟨w4.heap.size,0,none⟩),.bool false,.int .i64 0] 110)
 have h6:=aP w5 (.cells #[.pointer (some ⟨tx,0,none⟩),.pointer (some ⟨mp,0,none⟩),.pointer (some ⟨w4.heap.size,0,none⟩),.bool false,.int .i64 0] 110)
 have hb46:=hb45.trans (hb6.mono hb45.size)
 refine hK.out _ _ (HCL.out _ hb46) ?_
 (try simp only[Act.put,ah,au,ak])
 repeat ((refine bL (v:= ?_) rfl rfl (fun _ _ _ h=>h) rfl (fun W hW=> ?_) ?_);rotate_left;(focus ((try dsimp only at hW);obtain⟨a0,a1,a2,a3,a4,a5⟩:=hW;(go_simp;first|done|with_reducible rfl)));(try simp only[Act.put,ah,au,ak]))
 refine bR ?_
 go_wp2_with fail
 go_ret2
 have hb36:=HB4.out.trans (hb46.mono HB4.out.size)
 have hmpl:=(aj.1 hmp3.out).1
 have hT1':∀g,T g->w.heap.size<=g:=hT1
 have hl3:w1.heap.size<=w3.heap.size:=HP3.out.2.2.size
 have hl01:=HP1.out.2.2.1.size
 have hbt:w3.heap.size<=w4.heap.size:=HB4.out.size
 have hbu:w4.heap.size<=w5.heap.size:=hb45.size
 have hsub1:∀g,S g->g<w1.heap.size:=fun g hg=>ax (hsub g hg) hl01
 have hsubT:∀g,T g->g<w1.heap.size:=HP1.out.2.1.sub
 have hlo2':w1.heap.size<=mp:=hmlo
 refine⟨w5.heap.size,w4.heap.size,⟨tx,pg,d,mp⟩,fun g=>S g\/T g\/g=mp,rfl,rfl,rfl,h6,?_,⟨S,T,⟨HOK.out,HP3.out.1.below hb36,HP3.out.2.1.below hb36,(hb36.block mp hmpl).trans hmp3.out,hdis,fun e=>absurd (hsub1 mp e) (bM.2 hlo2'),fun e=>absurd (hsubT mp e) (bM.2 hlo2')⟩,fun g=>Iff.rfl⟩,⟨?_,fun g hg=> ?_⟩,?_,?_,?_,?_⟩
 ·exact(hb6.block _ (aj.1 htr5).1).trans htr5
 ·refine(HP1.out.2.2.1.trans (Keep.of_below (HP3.out.2.2.trans (hb36.mono hl3)) fH) (fun _ _ e=>e.elim))
 ·rcases hg with hg|hg|hg
  ·exact .inl hg
  ·exact .inr (hT1' g hg)
  ·exact .inr (by rw[hg];omega)
 ·rintro(e|e|e)
  ·have:=hsub1 _ e;omega
  ·have:=hsubT _ e;omega
  ·omega
 ·rintro(e|e|e)
  ·have:=hsub1 _ e;omega
  ·have:=hsubT _ e;omega
  ·omega
 ·omega
 ·omega
theorem GQ:∀(l:List Int) (σ:dF),(σ.frees l).tk=σ.tk
 |[],_=>rfl
 |y::l,σ=>GQ l (σ.gone y)
theorem su {w:World}{t tr:Nat}{mp mp':VS}{tr':Option Nat}{ch:Bool}{er root err:Int}(h:w.heap[t]? =some (.cells (fK mp tr' ch er) 110 (0,0)))(ht:dA w tr mp' root err):t≠tr:=by
 rintro rfl
 unfold dA at ht
 rw[h] at ht
 injection ht with ht
 injection ht with _ h2
 exact absurd h2 (by decide)
theorem Da (l:List Int):(xE l).Perm l:=yI _ _
theorem Nc (t tr:Nat)(mp:VS)(root:Int)(ch:Bool)(er:Int)(σ:dF)(S:Nat->Prop)(w:World)(es l o r:List nD)(tb:List Int)(key:ByteArray)(h:w.heap[t]? =some (.cells (fK mp (some tr) ch er) 110 (0,0)))(hI:Inv σ S mp w)(ht:dA w tr mp root 0)(hL:Live σ root es tb)(hA:rR es key l o r)(hl:es.length<=4090)(hg:1<=key.size/\key.size<=128):
  Calls Tryz.prog 63 #[.pointer (some ⟨t,0,none⟩),.string key] w fun e w'=>e= .returned (.int .i64 0)/\∃σ1,Inv σ1 S mp w'/\Step S S w w'/\lM σ σ1 (dV o) []/\σ1.tk=σ.tk:=by
 have hl':(jc es).length<=4090:=by rw[fC];exact hl
 have hsmall:tK ((eT (jc es) key).getD ⟨#[]⟩).data.toList=none->((eT (jc es) key).getD ⟨#[]⟩).size<=1000000->dV o=[]->Calls Tryz.prog 63 #[.pointer (some ⟨t,0,none⟩),.string key] w fun e w'=>e= .returned (.int .i64 0)/\∃σ1,Inv σ1 S mp w'/\Step S S w w'/\lM σ σ1 (dV o) []/\σ1.tk=σ.tk:=by
  intro h1 h2 h3
  refine(Az t tr mp root ch er σ S w (jc es) tb key h hI ht hL.tree hl' hg h1 h2).mono ?_
  rintro e w' ⟨rfl,hb⟩
  rw[h3]
  exact⟨rfl,σ,hI.below hb,Step.of_below hb,lM.refl (fun x hx=>by cases hx),rfl⟩
 rcases hA.one with rfl|⟨e,rfl,hk⟩
 ·have hls:eT (jc es) key=none:=hA.ls
  refine hsmall ?_ ?_ rfl
  ·rw[hls];rfl
  ·rw[hls];exact aX _
 ·have hls:eT (jc es) key=some e.s:=hA.ls
  have hv:=hL.val e (by rw[hA.eq];simp)
  have hbo:dV [e]=e.b:=by simp[dV]
  rcases hv with ⟨h1,h2,h3⟩|⟨hd,rs,h1,h2,h3,h4⟩
  ·refine hsmall ?_ ?_ (by rw[hbo,h3])
   ·rw[hls,Sw,h1];exact zL _
   ·rw[hls,Sw,h1]
    have:(strOf (0::e.v.data.toList)).size=e.v.size+1:=by show (0::e.v.data.toList).toArray.size=e.v.data.size+1;simp
    omega
  ·refine(IJ t tr mp root ch er σ S w (jc es) tb key e.s hd e.v.data.toList rs h hI ht hL.tree hl' hg hls (by rw[h1];exact Bp hd h2.1) (by rw[h1];show [1,UInt8.ofNat hd,UInt8.ofNat (hd/256)].toArray.size<=_;simp) h3).mono ?_
   rintro e' w' ⟨rfl,hI',hs'⟩
   refine⟨rfl,_,hI',hs',?_,GQ _ _⟩
   rw[hbo,h4]
   exact(zu (xE (jY hd rs)) σ (fun x hx=>(h3.all x ((FJ x).1 hx)).1) ((Da _).nodup_iff.2 h3.nd)).perm (Da _) (jH _)
structure Ad (w:World)(S:Nat->Prop)(t tr:Nat)(mp:VS)(σ:dF)(root err:Int)(ch:Bool)(er:Int):Prop where
 tx:w.heap[t]? =some (.cells (fK mp (some tr) ch er) 110 (0,0))
 tree:dA w tr mp root err
 inv:Inv σ S mp w
 nt:¬S t
 ntr:¬S tr
theorem Ad.keep {w w':World}{S M:Nat->Prop}{t tr:Nat}{mp:VS}{σ:dF}{root err:Int}{ch:Bool}{er:Int}(h:Ad w S t tr mp σ root err ch er)(hk:Keep M w w')(hM:∀g,S g\/g=t\/g=tr->¬M g):Ad w' S t tr mp σ root err ch er:=
 ⟨(hk.block t (aj.1 h.tx).1 (hM t (.inr (.inl rfl)))).trans h.tx,(hk.block tr (aj.1 h.tree).1 (hM tr (.inr (.inr rfl)))).trans h.tree,h.inv.mH hk (fun g hg=>hM g (.inl hg)),h.nt,h.ntr⟩
theorem Ad.below {w w':World}{S:Nat->Prop}{t tr:Nat}{mp:VS}{σ:dF}{root err:Int}{ch:Bool}{er:Int}(h:Ad w S t tr mp σ root err ch er)(hb:Below w.heap.size w w'):Ad w' S t tr mp σ root err ch er:=h.keep (Keep.of_below hb fH) (fun _ _ e=>e)
def gN (S S':Nat->Prop)(t tr:Nat)(w w':World):Prop:=Keep (fun g=>S g\/g=t\/g=tr) w w'/\∀g,S' g->S g\/w.heap.size<=g
theorem gN.of {S S':Nat->Prop}{t tr:Nat}{w w':World}(h:Step S S' w w'):gN S S' t tr w w':=⟨h.1.mono (fun _ _ e=> .inl e),h.2⟩
theorem gN.trans {S S1 S2:Nat->Prop}{t tr:Nat}{w w1 w2:World}(h:gN S S1 t tr w w1)(k:gN S1 S2 t tr w1 w2):gN S S2 t tr w w2:=
 ⟨h.1.trans k.1 (fun g hg e=>e.elim (fun x=>(h.2 g x).elim .inl (fun y=>absurd hg (bM.2 y))) .inr),fun g hg=>(k.2 g hg).elim (fun x=>h.2 g x) (fun x=> .inr (aH h.1.size x))⟩
theorem gN.one {S:Nat->Prop}{t tr:Nat}{w w':World}(h:Keep (· =t) w w'):gN S S t tr w w':=⟨h.mono (fun _ _ e=> .inr (.inl e)),fun _ hg=> .inl hg⟩
theorem gN.tree {S S':Nat->Prop}{t tr:Nat}{w w':World}(h:Keep (fun g=>S g\/g=tr) w w')(h2:∀g,S' g->S g\/w.heap.size<=g):gN S S' t tr w w':=⟨h.mono (fun _ _ e=>e.imp id .inr),h2⟩
def Ui (σ σ':dF)(tb:List Int)(c:Nat):Prop:=∀L,σ.sz+c<=L+nh σ tb->σ.tk<=L->σ'.tk<=L
def QK (t tr:Nat)(mp:VS)(S:Nat->Prop)(σ:dF)(ch:Bool)(es l r:List nD)(tb:List Int)(key:ByteArray)(w w':World):Prop:=
 ∃σ' S' root' tb',Ad w' S' t tr mp σ' root' 0 (ch||(eT (iQ es) key).isSome) 0/\Live σ' root' (l++r) tb'/\lM σ σ' (tb++dV es) (tb'++dV (l++r))/\gN S S' t tr w w'/\Ui σ σ' tb (2*(es.length+1))/\((l++r).length<=299->xu σ σ' 65)
def rP (t tr:Nat)(mp:VS)(S:Nat->Prop)(σ:dF)(ch:Bool)(w w':World):Prop:=
 ∃σ' S' root' err',Ad w' S' t tr mp σ' root' err' ch 12/\σ'.H=σ.H/\σ'.most=σ.most/\gN S S' t tr w w'
theorem Ig {σ σ1:dF}{us:List Int}(h:lM σ σ1 us [])(ht:σ1.tk=σ.tk):xu σ σ1 0:=by
 have hs:=h.size
 have hz:nh σ []=0:=rfl
 exact⟨by omega,fun L _ t=>by omega⟩
theorem KO {σ σ1 σ2:dF}{us:List Int}{tb:List Int}{es l o r:List nD}{key:ByteArray}{n:Nat}{root':Int}(_:σ1.most=σ.most)(_:σ1.H=σ.H)(hs:σ1.sz+nh σ us=σ.sz+nh σ [])(ht:σ1.tk=σ.tk)(hP:zC σ1 tb (nu (jc es) key) n σ2 root')(hA:rR es key l o r)(hc:(l++r).length<=299):xu σ σ2 65:=by
 obtain⟨_,_,_,_,h⟩:=hP
 have hz:nh σ []=0:=rfl
 have h0:xu σ σ1 0:=⟨by omega,fun L _ t=>by omega⟩
 exact(h0.trans (h (by rw[hA.ds,fC];exact hc))).more (by omega)
theorem PU (t tr:Nat)(mp:VS)(root:Int)(ch:Bool)(σ:dF)(S:Nat->Prop)(w:World)(es l o r:List nD)(tb:List Int)(key:ByteArray)(hT:Ad w S t tr mp σ root 0 ch 0)(hL:Live σ root es tb)(hA:rR es key l o r)(hl:es.length<=4090)(hg:1<=key.size/\key.size<=128):
  Calls Tryz.prog 41 #[.pointer (some ⟨t,0,none⟩),.string key] w fun e w'=>(e= .returned (.tuple #[.bool (eT (iQ es) key).isSome,.int .i64 0])/\QK t tr mp S σ ch es l r tb key w w')\/
   (e= .returned (.tuple #[.bool false,.int .i64 12])/\σ.most+nh σ tb<σ.sz+2*(es.length+1)/\rP t tr mp S σ ch w w'):=by
 have hne:=su hT.tx hT.tree
 have HU:=af (sj t mp tr ch 0 key w hT.tx)
 have hu:jh 0 key=0:=by unfold jh;rw[if_neg (by simp),if_neg (by omega)]
 rw[hu] at HU
 have HD:=af (Nc t tr mp root ch 0 σ S w es l o r tb key hT.tx hT.inv hT.tree hL hA hl hg)
 have HT:=af hT
 have hlt:=(aj.1 hT.tx).1
 have hl':(jc es).length<=4090:=by rw[fC];exact hl
 have hsm:(eT (jc es) key).isSome=(eT (iQ es) key).isSome:=by rw[hA.ls,hA.lv];cases o.head? <;>rfl
 obtain⟨was,hwas⟩:∃b,b=(eT (iQ es) key).isSome:=⟨_,rfl⟩
 rw[<-hwas] at hsm
 have HSM:=af hsm;have HWAS:=af hwas
 rw[<-hwas]
 clear hT hu hsm hwas
 go_enter Tryz.func41,Tryz.ntmps41
 go_wp2_with (first
  |(go_at_call 61;go_must (refine HU.out.mono ?_;rintro e w1 ⟨rfl,rfl⟩))
  |(go_at_call 63;go_must (refine HD.out.mono ?_;rintro e w1 ⟨rfl,σ1,hI1,hs1,hc1,htk1⟩;refine Stop.of ?_)))
 refine Stop.on ?_
 have hT1:Ad w1 S t tr mp σ1 root 0 ch 0:=⟨(hs1.1.block t hlt HT.out.nt).trans HT.out.tx,(hs1.1.block tr (aj.1 HT.out.tree).1 HT.out.ntr).trans HT.out.tree,hI1,HT.out.nt,HT.out.ntr⟩
 have hall:=hL.all
 have hnd:=hL.own.nd
 have hbo:∀x∈dV o,x∈dV es:=fun x hx=>by rw[hA.eq,iR,iR];simp[hx]
 have hTr1:Ae σ1 root (jc es) tb:=hL.tree.keep hc1 (fun x hx=> .inl (fun e=>nK hnd x (hbo x e) hx))
 have HDT:=He tr mp root σ1 S (jc es) tb key w1 hI1 hT1.tree HT.out.ntr hTr1 (dX.1 hnd).1 hl' hg
 rw[HSM.out] at HDT
 have HDT:=af HDT
 have c2:w1.cell? ⟨t,2,none⟩=some (.pointer (some ⟨tr,0,none⟩)):=by simp[World.cell?,hT1.tx,fK]
 have hlt1:=(aj.1 hT1.tx).1
 have HT1:=af (aC hT1 (aC hc1 hs1))
 clear hI1 hs1 hc1 hT1 hTr1
 go_wp2_with (first
  |(go_at_call 71;go_must (refine HDT.out.mono ?_;rintro e w2 (⟨rfl,σ2,S2,b2,hI2,ht2,hst2,hP2,hk2,hn2⟩|⟨rfl,hlost,σ2,S2,hI2,ht2,hst2,hH2,hm2,hk2,hn2⟩)<;>refine Stop.of ?_)))
 ·refine Stop.on ?_
  have htx2:=(hk2.block t hlt1 (fun e=>e.elim HT.out.nt hne)).trans HT1.out.1.tx
  have hns2:¬S2 t:=fun e=>(hn2 t e).elim HT.out.nt (fun x=>absurd hlt1 (bM.2 x))
  have d3:w2.cell? ⟨t,3,none⟩=some (.bool ch):=by simp[World.cell?,htx2,fK]
  have f3:w2.frozen? ⟨t,3,none⟩=false:=by simp[World.frozen?,htx2]
  have hlt2:=(aj.1 htx2).1
  have HX2:=af (aC htx2 (aC hI2 (aC ht2 (aC hk2 hn2))))
  have HP2:=af hP2
  have HC:=af HT1.out.2.1
  have HT1tk:=af htk1
  clear htx2 hI2 ht2 hk2 hn2 hP2
  cases ch
  ·go_wp2_with fail
   go_ret2
   have hk3:Keep (· =t) w2 (w2.setCell ⟨t,3,none⟩ (.bool was)):=(Keep.refl (· =t) _).setCell (p:=⟨t,3,none⟩) (.inr rfl) _
   obtain⟨tb',hL',hC'⟩:=Gn hL hA HC.out HP2.out
   refine .inl ⟨rfl,σ2,S2,b2,tb',⟨?_,?_,HX2.out.2.1.mH hk3 (fun g hg e=>hns2 (e▸hg)),hns2,hst2⟩,hL',hC',?_,fun L r t0=> ?_,fun hc=> ?_⟩
   ·rw[<-HWAS.out]
    simp[World.setCell,bn,HX2.out.1]
    rfl
   ·exact(hk3.block tr (aj.1 HX2.out.2.2.1).1 (fun e=>hne e.symm)).trans HX2.out.2.2.1
   ·exact((gN.of HT1.out.2.2).trans (gN.tree HX2.out.2.2.2.1 HX2.out.2.2.2.2)).trans (gN.one hk3)
   ·obtain⟨_,_,_,hpk,_⟩:=HP2.out
    have hsz:=HC.out.size
    have hz:nh σ []=0:=rfl
    refine hpk L ?_ (by rw[htk1];exact t0)
    unfold kL
    rw[tJ HC.out.H,fC]
    omega
   ·exact KO HC.out.most HC.out.H HC.out.size HT1tk.out HP2.out hA hc
  ·go_wp2_with fail
   go_ret2
   have hk3:Keep (· =t) w2 (w2.setCell ⟨t,3,none⟩ (.bool true)):=(Keep.refl (· =t) _).setCell (p:=⟨t,3,none⟩) (.inr rfl) _
   obtain⟨tb',hL',hC'⟩:=Gn hL hA HC.out HP2.out
   refine .inl ⟨rfl,σ2,S2,b2,tb',⟨?_,?_,HX2.out.2.1.mH hk3 (fun g hg e=>hns2 (e▸hg)),hns2,hst2⟩,hL',hC',?_,fun L r t0=> ?_,fun hc=> ?_⟩
   ·rw[<-HWAS.out]
    simp[World.setCell,bn,HX2.out.1]
    rfl
   ·exact(hk3.block tr (aj.1 HX2.out.2.2.1).1 (fun e=>hne e.symm)).trans HX2.out.2.2.1
   ·exact((gN.of HT1.out.2.2).trans (gN.tree HX2.out.2.2.2.1 HX2.out.2.2.2.2)).trans (gN.one hk3)
   ·obtain⟨_,_,_,hpk,_⟩:=HP2.out
    have hsz:=HC.out.size
    have hz:nh σ []=0:=rfl
    refine hpk L ?_ (by rw[htk1];exact t0)
    unfold kL
    rw[tJ HC.out.H,fC]
    omega
   ·exact KO HC.out.most HC.out.H HC.out.size HT1tk.out HP2.out hA hc
 ·refine Stop.on ?_
  have htx2:=(hk2.block t hlt1 (fun e=>e.elim HT.out.nt hne)).trans HT1.out.1.tx
  have hns2:¬S2 t:=fun e=>(hn2 t e).elim HT.out.nt (fun x=>absurd hlt1 (bM.2 x))
  have HSP:=af (Ec t mp (some tr) ch 0 12 w2 htx2)
  have HX2:=af (aC htx2 (aC hI2 (aC ht2 (aC hk2 hn2))))
  have HLO:=af (aC hlost (aC hH2 hm2))
  have HC:=af HT1.out.2.1
  clear htx2 hI2 ht2 hk2 hn2 hlost hH2 hm2
  go_wp2_with (first
   |(go_at_call 64;go_must (refine HSP.out.mono ?_;rintro e w3 ⟨rfl,h3,hk3⟩)))
  go_ret2
  refine .inr ⟨rfl,?_,σ2,S2,root,12,⟨h3,(hk3.block tr (aj.1 HX2.out.2.2.1).1 (fun e=>hne e.symm)).trans HX2.out.2.2.1,HX2.out.2.1.mH hk3 (fun g hg e=>hns2 (e▸hg)),hns2,hst2⟩,HLO.out.2.1.trans HC.out.H,HLO.out.2.2.trans HC.out.most,((gN.of HT1.out.2.2).trans (gN.tree HX2.out.2.2.2.1 HX2.out.2.2.2.2)).trans (gN.one hk3)⟩
  have hno:=HLO.out.1
  have hsz:=HC.out.size
  unfold Room at hno
  rw[tJ HC.out.H,HC.out.most,fC] at hno
  have:nh σ []=0:=rfl
  omega
end Go.Proofs.YtpgdljlghiifjaaGreatDoor
