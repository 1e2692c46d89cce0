/- parts -/
import Derived.Test.YtogbkgmlhhahdaaGreatQ14
import Derived.Test.YtogbkgmlhhahdaaGreatQ23
set_option maxRecDepth 100000
set_option maxHeartbeats 8000000
set_option linter.all false
namespace Go.Proofs.YtogbkgmlhhahdaaGreat
open Go.RowKit
def Ud (mp:VS)(σ:bZ)(S:Nat->Prop)(t:List UInt8)(w:World)(e:Ending)(w':World):Prop:=
 (∃(head:Nat) (rs:List (Nat×Nat)) (σ':bZ),e= .returned (.tuple #[.int .i64 head,.int .i64 0])/\pF σ' head t rs/\nu σ σ' [] (jZ head rs)/\σ'.tk<=max σ.tk (σ.sz+(1+sJ t.length))/\Inv σ' S mp w'/\Step S S w w')\/
 (e= .returned (.tuple #[.int .i64 0,.int .i64 12])/\σ.most<σ.sz+(1+sJ t.length)/\∃σ',Inv σ' S mp w'/\Step S S w w'/\σ'.H=σ.H/\σ'.most=σ.most)
theorem Bq {P:Program}{o:Oper}{a:Act}{w w':World}{K:Act->World->Prop}{Q:Exit->Act->World->Prop}(src dst:TypeId)(x:Operand)(hop:o.op= .convert src dst x)(s:ByteArray)(hx:a.eval x= .string s)(v:Value)(hr:(convert src dst (.string s)).run P w= .ok v w')(hK:K (a.put o.dst v) w'):o.wp P a w K Q:=by
 unfold Oper.wp
 simp[execOp,hop,hx,hr,Result.andThen]
 exact hK
theorem En (σ:bZ)(b x:Nat)(l:List UInt8):(σ.wrote b l).mem (x:Nat)=if x=b then l else σ.mem (x:Nat):=by
 show σ.H.pg.look (σ.im.put b l) σ.H.dk ((x:Nat):Int).toNat=_
 rw[pX,fw]
 rfl
theorem Da (hd:Nat)(rs:List (Nat×Nat)):(jw (hd::fQ rs)).Perm (jZ hd rs):=by
 show (jw ([hd]++fQ rs)).Perm (jw (fQ rs++[hd]))
 exact gJ.map _
theorem NZ {σ2:bZ}{hd:Nat}{tl:List Nat}{rs:List (Nat×Nat)}{t:List UInt8}(hrt:fQ rs=tl)(ok:qX rs)(hl:tl.length=sJ t.length)(h1:1<=t.length)(h2:t.length<=49152)(hnd:(hd::tl).Nodup)(htwo:∀b∈hd::tl,2<=b)(hhas:∀b∈hd::tl,σ2.hasB (b:Nat)=true)(hmem:∀j (hj:j<tl.length),σ2.mem (tl[j]:Nat)=pad (chunk t j)):
  pF (σ2.wrote hd (pad (encR t.length rs))) hd t rs:=by
 subst hrt
 refine⟨⟨htwo hd (bg ..),hhas hd (bg ..),⟨List.replicate (512 - (encR t.length rs).length) 0,?_⟩,ok,hl,h1,h2⟩,?_,fun i hi=>⟨hhas _ (aW _ (bE hi)),htwo _ (aW _ (bE hi)),?_⟩⟩
 ·rw[En,if_pos rfl];rfl
 ·exact(Da hd rs).nodup_iff.1 (vw hnd)
 ·rw[En,if_neg]
  ·exact hmem i hi
  ·intro e
   exact(lu.1 hnd).1 (e▸bE hi)
theorem Uc (mp:VS)(σ:bZ)(S:Nat->Prop)(w:World)(data:ByteArray)(h:Inv σ S mp w)(h1:1<=data.size)(h2:data.size<=49152):
  Calls Tryz.prog 62 #[.iface 97 mp.agg,.string data] w (Ud mp σ S data.data.toList w):=by
 have hsub:=h.sub
 have HI:=ah h
 have x1:¬(49152:Int)<(data.size:Int):=by omega
 have x2:data.toList.isEmpty=false:=by
  rw[toList_eq]
  cases hq:data.data.toList with
  |nil=>
   have:data.size=0:=by(show data.data.size=0);rw[<-kE,hq];rfl
   omega
  |cons a b=>rfl
 obtain⟨nb,hnb⟩:∃nb,nb=sJ data.size:=⟨_,rfl⟩
 have hnb1:1<=nb/\nb<=96:=by rw[hnb];unfold sJ;omega
 have q1:(1:Int)+((data.size:Int)+512 - 1)/512=((nb+1:Nat):Int):=by rw[hnb];unfold sJ;omega
 have HNB:=ah hnb
 have hmT:∀w,(method 454 97 mp.agg "Take").run Tryz.prog w= .ok (259,.pointer (some ⟨mp.mp,0,none⟩)) w:=fun _=>by kernel_rfl
 have hmf:∀(fn:Fn) (first cap:Array Value) (w:World),(Instr.makeFunc fn first cap).run Tryz.prog w= .ok (.func fn first cap) w:=fun _ _ _ _=>rfl
 clear h hnb
 go_enter Tryz.func62,Tryz.ntmps62
 go_upto_region 9 with (fail)
 obtain⟨sb,HSB⟩:∃sb,Hid (w.heap.size=sb):=⟨_,ah rfl⟩
 have hb0:=ic w (.cells #[.iface 97 mp.agg] 158) (.cells #[.slice none 0 0] 93)
 have hst0:((w.alloc (.cells #[.iface 97 mp.agg] 158)).alloc (.cells #[.slice none 0 0] 93)).heap[sb]? =some (.cells #[.iface 97 mp.agg] 158 (0,0)):=by
  rw[<-HSB.out];exact((aO (w.alloc _) _).block _ (by simp)).trans (bD w _)
 have htk0:((w.alloc (.cells #[.iface 97 mp.agg] 158)).alloc (.cells #[.slice none 0 0] 93)).heap[sb+1]? =some (.cells #[.slice none 0 0] 93 (0,0)):=by
  rw[<-HSB.out];have:=bD (w.alloc (.cells #[.iface 97 mp.agg] 158)) (.cells #[.slice none 0 0] 93);rwa [aS] at this
 rw[HSB.out]
 generalize (w.alloc (.cells #[.iface 97 mp.agg] 158)).alloc (.cells #[.slice none 0 0] 93)=w0 at hb0 hst0 htk0 ⊢
 have hns0:¬S sb:=fun x=>absurd (hsub sb x) (by rw[HSB.out];exact dB _)
 have hns1:¬S (sb+1):=fun x=>absurd (hsub (sb+1) x) (by rw[HSB.out];omega)
 have hwv0:WV w0 S sb (sb+1) sb mp []:=⟨⟨_,htk0,aQ.nil _ _ _ _ _⟩,hst0,hns1,hns0⟩
 have hI0:=HI.out.below hb0
 have hT0:QG σ σ []:=⟨nu.refl (by simp),by simp,by simp,Jt _ _⟩
 have hs0:Step S S w w0:=Step.of_below hb0
 clear hst0 htk0 hb0
 go_wp2_with fail
 go_loopw [4,5,8,9,32] (fun _ _ _ _ i wr=>∃(bs:List Nat) (σk:bZ),bs.length<=nb+1/\i= .int .i64 bs.length/\Inv σk S mp wr/\WV wr S sb (sb+1) sb mp bs/\QG σ σk bs/\Step S S w wr) (fun _ _ _ _ i _=>nb+1 - (intOf i).toNat)
 case atStart=>exact⟨[],σ,by simp,rfl,hI0,hwv0,hT0,hs0⟩
 case round=>
  clear hI0 hwv0 hT0 hs0
  obtain⟨bs,σk,hk,rfl,hIk,hwv,hTk,hsk⟩:=hrel
  have HTK:=ah hTk;have HWV:=ah hwv
  obtain⟨⟨tv,t1,t2⟩,t3,t4,t5⟩:=hwv
  obtain⟨xo,xc,rfl,_,_,_,_⟩:=aX.form t2.dm
  have s0:wr.cell? ⟨sb,0,none⟩=some (.iface 97 mp.agg):=by simp[World.cell?,t3]
  have sl:=(aj.1 t3).1
  have tkl:=(aj.1 t1).1
  have HT1:=ah t1;have HT2:=ah t2;have HT3:=ah t3
  clear t1 t2 t3 hTk
  by_cases hkl:bs.length<nb+1
  ·have y1:(bs.length:Int)<((nb+1:Nat):Int):=by omega
   go_wp2_with (refine(Li mp σk S wr hIk).mono ?_;rintro e w1 (⟨f,rfl,f1,f2,f3,f4,f6,hI1,hs1⟩|⟨rfl,hfull,hI1,hs1⟩)<;>refine Stop.of ?_)
   ·refine Stop.on ?_
    have hob1:=(hs1.1.block (sb+1) tkl t4).trans HT1.out
    have hst1:=(hs1.1.block sb sl t5).trans HT3.out
    have hown1:=HT2.out.step hs1
    have e1:w1.cell? ⟨sb+1,0,none⟩=some (.slice xo bs.length xc):=by simp[World.cell?,hob1]
    have el1:=(aj.1 hob1).1
    have hS1:∀g,S g->g<w1.heap.size:=hI1.sub
    have hsb1:sb<=w1.heap.size:=by omega
    have hTn:=HTK.out.more f3 f4 f1 f2
    have HTN:=ah hTn
    have HIN:=ah (show ints bs++[.int .i64 (f:Int)]=ints (bs++[f]) by simp[ints])
    clear hTn s0
    go_wp2_with (first
     |(at_builtin;go_must ((refine cK rfl (.tmp 46) (.tmp 48) 93 93 rfl S sb 3 1 8 _ bf gX rfl (.slice xo bs.length xc) _ _ rfl (hown1.below (aO _ _)) _ 1 _ rfl (gu [.int .i64 (f:Int)] _ 1 1 1 (by simp) bf rfl ?_) (eU hS1 _) ?_ ?_ ?_ ?_);(focus (simp[Value.oneCell']));(focus (simp only[aS];omega));(focus (unfold maxLen;omega));(focus omega);intro ao3 c3 w3 hown3 hk3 hb3 hd3;refine Stop.of ?_)))
    refine Stop.on ?_
    have hownA:=hown1.below (w':=w1.alloc (.cells #[.int .i64 (f:Int)] 3)) (aO _ _)
    have hobA:=((aO w1 (.cells #[.int .i64 (f:Int)] 3)).block (sb+1) el1).trans hob1
    have hstA:=((aO w1 (.cells #[.int .i64 (f:Int)] 3)).block sb (aj.1 hst1).1).trans hst1
    have hob3:w3.heap[sb+1]? =_:=(hk3.block _ (aj.1 hobA).1 (hownA.ne hobA (by decide))).trans hobA
    have hst3:w3.heap[sb]? =_:=(hk3.block _ (aj.1 hstA).1 (hownA.ne hstA (by decide))).trans hstA
    have g1:w3.cell? ⟨sb+1,0,none⟩=some (.slice xo bs.length xc):=by simp[World.cell?,hob3]
    have gf:w3.frozen? ⟨sb+1,0,none⟩=false:=by simp[World.frozen?,hob3]
    have gl:=(aj.1 hob3).1
    rw[HIN.out] at hown3
    have HO3:=ah hown3
    clear hown3
    go_wp2_with fail
    have hk5:Keep (· =sb+1) w3 (w3.setCell ⟨sb+1,0,none⟩ (.slice ao3 (bs.length+1) c3)):=(Keep.refl (· =sb+1) _).setCell (p:=⟨sb+1,0,none⟩) (.inr rfl) _
    have hb13:Below sb w1 (w3.setCell ⟨sb+1,0,none⟩ (.slice ao3 (bs.length+1) c3)):=((aO w1 (.cells #[.int .i64 (f:Int)] 3)|>.mono hsb1).trans hb3).setCell (by show sb<=sb+1;omega) _
    have hne:=HO3.out.ne hob3 (by decide)
    have hlen2:(bs++[f]).length=bs.length+1:=by simp
    go_roundw
    case rel=>
     refine⟨bs++[f],σk.took f,by rw[hlen2];omega,by rw[hlen2];go_num,hI1.P6 hb13 (fun g hg=>by rw[<-HSB.out];exact hsub g hg),⟨⟨_,by simp[World.setCell,bn,hob3];rfl,?_⟩,(hk5.block sb (aj.1 hst3).1 (by omega)).trans hst3,t4,t5⟩,HTN.out,?_⟩
     ·rw[hlen2]
      exact HO3.out.keep fun g hg hl hs=>⟨hk5.block g hl (fun e=>hne (by rw[hg,e])),hs⟩
     ·exact(hsk.trans hs1).OU (by rw[HSB.out];exact hb13)
    case measure=>simp[intOf];omega
   ·refine Stop.on ?_
    have hwv1:=HWV.out.step hs1
    have HBK:=ah (U6 mp σk S w1 sb (sb+1) sb bs 12 hI1 hwv1 HTK.out.nd (by omega) HTK.out.has)
    have hent:∀args w,(callFunc 104 args).run Tryz.prog w= .ok (.enter 104 args) w:=fun _ _=>by kernel_rfl
    go_wp2_with (first
     |(go_at_call 104;go_must (refine HBK.out.mono ?_;rintro e w2 ⟨rfl,hI2,hs2⟩)))
    go_ret2
    have htl:data.data.toList.length=data.size:=by show data.data.toList.length=data.data.size;simp
    have hz:=HTK.out.sz
    have hm:=HTK.out.Dt.most
    have hall:=HTK.out.has
    have cf:=Ac (jw bs) σk (fun x hx=>by obtain⟨b,hb,rfl⟩:=eT.1 hx;exact(hall b hb).1) (vw HTK.out.nd)
    refine .inr ⟨rfl,?_,_,hI2,(hsk.trans hs1).trans hs2,cf.H.trans HTK.out.Dt.H,cf.most.trans hm⟩
    rw[htl,<-HNB.out]
    omega
  ·have hke:bs.length=nb+1:=by omega
   clear hkl
   obtain⟨hd,tl,rfl⟩:∃hd tl,bs=hd::tl:=by
    cases bs with
    |nil=>simp at hke
    |cons a b=>exact⟨a,b,rfl⟩
   have htl:tl.length=nb:=by simpa using hke
   obtain⟨wo,rfl⟩:∃x:World,x=wr:=⟨_,rfl⟩
   have hn1:(hd::tl).length=nb+1:=hke
   rw[hn1] at HT1 HT2 ⊢
   have y0:¬(((nb+1:Nat):Int))<((nb+1:Nat):Int):=by omega
   obtain⟨lb,HLB⟩:∃lb,Hid (wo.heap.size=lb):=⟨_,ah rfl⟩
   have hb2:=aO wo (.cells #[.int .i64 data.size,.slice none 0 0] 186)
   have hL2:(wo.alloc (.cells #[.int .i64 data.size,.slice none 0 0] 186)).heap[lb]? =some (.cells #[.int .i64 data.size,.slice none 0 0] 186 (0,0)):=by rw[<-HLB.out];exact bD wo _
   have hsl:¬S lb:=fun x=>absurd (hIk.sub lb x) (by rw[HLB.out];exact dB _)
   have hA2:mZ (wo.alloc (.cells #[.int .i64 data.size,.slice none 0 0] 186)) S lb lb data.size [] (.slice none 0 0):=⟨hL2,aQ.nil _ _ _ _ _,aC _,hsl⟩
   have hI2:=hIk.below hb2
   have hW2:=HWV.out.step (Step.of_below (S:=S) hb2)
   have hs2:Step S S w (wo.alloc (.cells #[.int .i64 data.size,.slice none 0 0] 186)):=hsk.trans (Step.of_below hb2)
   obtain⟨pb,po,hxo,d0⟩:∃pb po,xo=some ⟨pb,po,none⟩/\∀i (hi:i<(hd::tl).length),wo.cell? ⟨pb,po+i,none⟩=some (.int .i64 ((hd::tl)[i]:Nat)):=by
    have hil:jJ wo S (.slice xo (nb+1) xc) (jw (hd::tl)):=by
     have:=HT2.out.dm
     rw[Cx] at this
     unfold jJ
     rw[show (jw (hd::tl)).length=nb+1 by simp[jw];exact htl]
     exact this
    obtain⟨pb,po,e,_⟩:=hil.at rfl 0 (by simp[jw])
    refine⟨pb,po,e,fun i hi=> ?_⟩
    obtain⟨pb',po',e',d⟩:=hil.at rfl i (by simpa [jw] using hi)
    rw[e] at e'
    cases e'
    have hv:(jw (hd::tl))[i]'(by simpa [jw] using hi)=(((hd::tl)[i]:Nat):Int):=by unfold jw;rw[List.getElem_map]
    rw[hv] at d
    exact d
   subst hxo
   have HD0:=ah d0
   have hpb:pb<wo.heap.size:=aD wo _ (d0 0 (by simp))
   have hpS:¬S pb:=(HT2.out.2 pb rfl)
   have hpsb:sb<=pb:=HT2.out.lo pb rfl
   have hobr:=HT1.out
   have e1:wo.cell? ⟨sb+1,0,none⟩=some (.slice (some ⟨pb,po,none⟩) (nb+1) xc):=by simp[World.cell?,hobr]
   have E1:=(hb2.cell (p:=⟨sb+1,0,none⟩) tkl).trans e1
   have tkl2:=ak tkl hb2.size
   have hxc1:¬xc=1:=by omega
   have hxc2:(1:Int)<=(xc:Int):=by omega
   generalize hw2:wo.alloc (.cells #[.int .i64 data.size,.slice none 0 0] 186)=w2 at hb2 hL2 hA2 hI2 hW2 hs2 E1 tkl2
   have HWW2:=ah hw2
   have HWV2:=ah hW2
   have HSB2:=ah ((hb2.block sb sl).trans HT3.out)
   have HTB2:=ah ((hb2.block (sb+1) tkl).trans HT1.out)
   have HPB2:=ah (fun i (hi:i<(hd::tl).length)=>(hb2.cell (p:=⟨pb,po+i,none⟩) hpb).trans (d0 i hi))
   clear d0 hL2 e1 s0 hobr hW2
   have HHB:=ah hb2
   clear hb2
   go_upto_region 17 with (fail)
   rw[HLB.out]
   have hlb2:lb<w2.heap.size:=by rw[<-hw2,<-HLB.out];simp
   have hlbs:sb+1<lb:=by rw[<-HLB.out];exact tkl
   have hpbl:pb<lb:=by rw[<-HLB.out];exact hpb
   clear hw2
   obtain⟨t,ht⟩:∃t,t=data.data.toList:=⟨_,rfl⟩
   have htL:t.length=data.size:=by rw[ht];show data.data.toList.length=data.data.size;simp
   rw[<-ht]
   have HTL:=ah htL;have HTT:=ah ht
   have HSO:=ah (show ∀g,S g->g<lb from fun g hg=>by have:=hIk.sub g hg;rwa [HLB.out] at this)
   have HNDD:=ah HTK.out.nd
   have HTW:=ah HTK.out.two
   have hmW:∀w,(method 454 97 mp.agg "Write").run Tryz.prog w= .ok (66,.pointer (some ⟨mp.tx,0,none⟩)) w:=fun _=>by kernel_rfl
   have hna:∀w,(nilAhead 454 97 mp.agg "Write").run Tryz.prog w= .ok (some false) w:=fun _=>by kernel_rfl
   have hC0:nu σ σk [] (jw (hd::tl)):=HTK.out.Dt
   have hend:(nb:Int)+1 - 1=(nb:Int):=by omega
   go_wp2_with fail
   go_loopw [11,12,13,58] (fun _ _ _ i wk=>∃(k:Nat) (rs:List (Nat×Nat)) (v:Value) (σ2:bZ),k<=nb/\i= .int .i64 k/\mZ wk S lb lb data.size rs v/\fQ rs=tl.take k/\qX rs/\Inv σ2 S mp wk/\nu σ σ2 [] (jw (hd::tl))/\σ2.tk=σk.tk/\(∀j (hj:j<tl.length),j<k->σ2.mem (tl[j]:Nat)=pad (chunk t j))/\Keep (fun g=>S g\/lb<=g) w2 wk) (fun _ _ _ i _=>nb - (intOf i).toNat)
   case atStart=>exact⟨0,[],_,σk,by omega,rfl,hA2,by simp[fQ],(fun r hr=>by cases hr),hI2,hC0,rfl,fun j hj h0=>by omega,Keep.refl _ _⟩
   case round=>
    clear hA2 hI2 hC0
    obtain⟨k,rs,v,σ2,hk2,rfl,hA,hrs,hok,hIw,hCw,htkw,hmemw,hkw⟩:=hrel
    have hlw:lb<wr.heap.size:=(aj.1 hA.obj).1
    by_cases hkl:k<nb
    ·have y1:(k:Int)<(nb:Int):=by omega
     have hkt:k<tl.length:=by omega
     obtain⟨b,hbq⟩:∃b,b=tl[k]:=⟨_,rfl⟩
     have hbm:b∈hd::tl:=by rw[hbq];exact aW _ (bE hkt)
     obtain⟨hb2',hbM⟩:=HTW.out b hbm
     have dk:wr.cell? ⟨pb,po+1+k,none⟩=some (.int .i64 (b:Int)):=by
      have:=HPB2.out (k+1) (by simp;omega)
      rw[uG,<-hbq,show po+(k+1)=po+1+k by omega] at this
      exact(hkw.cell (p:=⟨pb,po+1+k,none⟩) (nE hpbl hlb2) (fun e=>e.elim hpS (fun e=>absurd hpbl (bq.2 e)))).trans this
     have hpk:pb<wr.heap.size:=nE hpbl hlw
     have HSBk:=(hkw.block sb (by omega) (fun e=>e.elim t5 (fun e=>by omega))).trans HSB2.out
     have s0k:wr.cell? ⟨sb,0,none⟩=some (.iface 97 mp.agg):=by simp[World.cell?,HSBk]
     have slk:=(aj.1 HSBk).1
     obtain⟨lo,hlo⟩:∃lo:Nat,lo=k*512:=⟨_,rfl⟩
     obtain⟨k1,hk1⟩:∃k1:Nat,k1=k+1:=⟨_,rfl⟩
     obtain⟨up,hup⟩:∃up:Nat,up=k1*512:=⟨_,rfl⟩
     obtain⟨hi,hhi⟩:∃hi:Nat,hi=min up data.size:=⟨_,rfl⟩
     have hnbk:k*512<data.size:=by have:=HNB.out;unfold sJ at this;omega
     have r1:IntKind.i64.wrap ((k:Int)*512)=(lo:Int):=by rw[aG _ (by omega)];omega
     have r2:IntKind.i64.wrap ((k:Int)+1)=(k1:Int):=by rw[aG _ (by omega)];omega
     have r3:IntKind.i64.wrap ((k1:Int)*512)=(up:Int):=by rw[aG _ (by omega)];omega
     have r4:min (up:Int) (data.size:Int)=(hi:Int):=by omega
     have r5:(0:Int)<=(lo:Int):=by omega
     have r6:(lo:Int)<=(hi:Int):=by omega
     have r7:(hi:Int)<=(data.size:Int):=by omega
     have r8:lo<=hi:=by omega
     have r9:hi<=data.size:=by omega
     have hch:(data.extract lo hi).data.toList=chunk t k:=by
      rw[HTT.out]
      unfold chunk
      rw[Gh,Mt,hhi,hup,hk1,hlo]
      show ((data.data.toList.drop (k*512)).take (min ((k+1)*512) data.size - k*512))=_
      rw[Nat.mul_comm k 512,List.take_eq_take_iff,aN,kE]
      show min (min ((k+1)*512) data.size - 512*k) (data.size - 512*k)=min 512 (data.size - 512*k)
      omega
     obtain⟨piece,hpc⟩:∃p,p=data.extract lo hi:=⟨_,rfl⟩
     have HCH:=ah hch
     have HPC:=ah hpc
     clear hlo hk1 hup hhi hch hpc
     have HHA:=ah hA
     have HHI:=ah hIw
     have HREL:=ah (aF hrs (aF hok (aF hmemw (aF htkw hCw))))
     clear hA hIw hrs hok hmemw htkw hCw
     go_upto_region 20 with (fail)
     refine aP (fun W=>W.cell? ⟨sb,0,none⟩=some (.iface 97 mp.agg)/\sb<W.heap.size) (fun i=> !([12,16].contains i)) [0,1,2,3,4,5,6,7,8,9,10,11,13,14,15,12,16,17] rfl (by kernel_rfl) ⟨s0k,slk⟩ ?_
     repeat ((refine bP (v:= ?_) rfl rfl (fun _ _ _ h=>h) rfl (fun W hW=> ?_) ?_);rotate_left;(focus ((try dsimp only at hW);obtain⟨z0,z1⟩:=hW;have:=hna;(go_simp;first|done|with_reducible rfl)));(try simp only[Act.put,ai,ax,au]))
     have hpsz:piece.size<=1000000:=by rw[HPC.out,ByteArray.size_extract];omega
     obtain⟨pc,w4,hcv,hpv,hb4⟩:=C8 piece wr.drew hpsz
     have hpl:piece.data.toList=chunk t k:=by rw[HPC.out];exact HCH.out
     have hps:piece.size=(chunk t k).length:=by rw[<-hpl];show piece.data.size=_;simp
     rw[hpl] at hpv
     rw[hps] at hcv hpv
     rw[<-HPC.out]
     have hb4':Below wr.heap.size wr w4:=((aR _ wr).drew).trans hb4
     have HCV:=ah hcv;have HPV:=ah hpv;have HB4:=ah hb4'
     clear hcv hpv hb4 hb4'
     refine dK rfl rfl rfl ?_;intro K hK
     refine Bq 9 70 (.tmp 74) rfl piece rfl _ HCV.out ?_
     clear hps hpl
     have s04:=(HB4.out.cell (p:=⟨sb,0,none⟩) slk).trans s0k
     have sl4:=ak slk HB4.out.size
     refine hK.out _ _ ⟨s04,sl4⟩ ?_
     (try simp only[Act.put,ai,ax,au])
     have hI4:=HHI.out.below HB4.out
     have hcl:(chunk t k).length<=512:=by rw[oQ];omega
     have hmost2:tl[k]<σ2.most:=by
      rw[HREL.out.2.2.2.2.most,<-hbq];exact hbM
     have HWR:=ah (wC mp σ2 S w4 tl[k] _ (chunk t k) hI4 hmost2 HPV.out hcl (bZ.Pz (HREL.out.2.2.2.2.new _ (kD (aW _ (bE hkt)))).1 ((Bh HREL.out.2.2.2.2.H _).trans (HTK.out.nheld _ (aW _ (bE hkt))))))
     obtain⟨cl,hcln⟩:∃n,Hid ((chunk t k).length=n):=⟨_,ah rfl⟩
     obtain⟨vb4,hvb4⟩:∃g,Hid (wr.drew.heap.size=g):=⟨_,ah rfl⟩
     rw[hcln.out,hvb4.out] at HWR ⊢
     obtain⟨bk,hbk⟩:∃g:Nat,Hid (tl[k]=g):=⟨_,ah rfl⟩
     rw[hbk.out] at HWR ⊢
     refine dK rfl rfl rfl ?_;intro K hK;go_simp
     refine HWR.out.mono ?_;rintro e w5 ⟨rfl,hI5,hs5⟩
     have s05:w5.cell? ⟨sb,0,none⟩=some (.iface 97 mp.agg):=by
      have:=(hs5.1.block sb sl4 t5).trans ((HB4.out.block sb slk).trans HSBk)
      simp[World.cell?,this]
     refine hK.out _ _ ⟨s05,ak sl4 hs5.1.size⟩ ?_
     (try simp only[Act.put,ai,ax,au])
     repeat ((refine bP (v:= ?_) rfl rfl (fun _ _ _ h=>h) rfl (fun W hW=> ?_) ?_);rotate_left;(focus ((try dsimp only at hW);obtain⟨z0,z1⟩:=hW;(go_simp;first|done|with_reducible rfl)));(try simp only[Act.put,ai,ax,au]))
     refine bS ?_
     have hA5:=(HHA.out.below HB4.out).step hs5
     have hrl:rs.length<=1000:=by
      have a:=HREL.out.2.1.le
      rw[HREL.out.1,aH] at a
      omega
     have hS5:∀g,S g->g<w5.heap.size:=hI5.sub
     have hbk5:bk<=65535:=by have:=hbk.out;have:=HHI.out.cap;omega
     have HBA:=ah (Vn lb data.size bk rs v lb S w5 hA5 hS5 HREL.out.2.1 hrl hbk5)
     clear hrl r1 r2 r3 r4 r5 r6 r7 r8 r9 hcl
     go_wp2_with (first
      |(go_at_call 105;go_must (refine HBA.out.mono ?_;rintro e w6 ⟨rfl,⟨v6,hA6⟩,hb6⟩)))
     have hbkm:(bk:Int)∈jw (hd::tl):=by
      rw[<-hbk.out]
      exact kD (aW _ (bE hkt))
     have hbk2:2<=bk:=by rw[<-hbk.out,<-hbq];exact hb2'
     have hcw:=L8 (σ:=σ2) (us:=jw (hd::tl)) (b:=bk) (l:=pad (chunk t k)) (fun x hx=>(HREL.out.2.2.2.2.new x hx).1) hbkm hbk2
     go_roundw
     case rel=>
      refine⟨k+1,Af rs bk,v6,σ2.wrote bk (pad (chunk t k)),by omega,by go_num,hA6,?_,HREL.out.2.1.add bk (by omega),hI5.P6 hb6 HSO.out,HREL.out.2.2.2.2.trans hcw,?_,?_,?_⟩
      ·rw[J7,HREL.out.1,aM hkt,hbk.out]
      ·exact HREL.out.2.2.2.1
      ·intro j hj hjk
       show σ2.H.pg.look (σ2.im.put bk (pad (chunk t k))) σ2.H.dk ((tl[j]:Nat):Int).toNat=_
       rw[pX,fw]
       by_cases hje:j=k
       ·subst hje
        rw[if_pos hbk.out]
       ·rw[if_neg (fun e=>by
         have hnd:=(lu.1 HNDD.out).2
         rw[<-hbk.out] at e
         exact hje ((Ut hnd).1 e))]
        exact HREL.out.2.2.1 j hj (by omega)
      ·refine((hkw.trans (Keep.of_below HB4.out (fun g=>S g\/lb<=g)) (fun _ _ e=>e)).trans (hs5.1.mono (fun _ _ e=> .inl e)) (fun _ _ e=>e)).trans ?_ (fun _ _ e=>e)
       exact⟨hb6.os,hb6.tape,hb6.output,hb6.size,fun g _ hn=>hb6.block g (Nat.lt_of_not_le (fun e=>hn (.inr e)))⟩
     case measure=>simp[intOf];omega
    ·obtain rfl:k=nb:=by omega
     have hrt:fQ rs=tl:=by rw[hrs];exact aJ (by omega)
     have hrl96:rs.length<=96:=by have:=hok.le;rw[hrt] at this;omega
     have HSBk:=(hkw.block sb (by omega) (fun e=>e.elim t5 (fun e=>by omega))).trans HSB2.out
     have HTBk:=(hkw.block (sb+1) (by omega) (fun e=>e.elim t4 (fun e=>by omega))).trans HTB2.out
     have d0:wr.cell? ⟨pb,po,none⟩=some (.int .i64 (hd:Int)):=by
      have:=HPB2.out 0 (by simp)
      exact(hkw.cell (p:=⟨pb,po,none⟩) (nE hpbl hlb2) (fun e=>e.elim hpS (fun e=>absurd hpbl (bq.2 e)))).trans this
     have hpk:pb<wr.heap.size:=nE hpbl hlw
     have slk:=(aj.1 HSBk).1
     have tlk:=(aj.1 HTBk).1
     have HP:=ah (show ∀(W:World),(∀g,g<lb->¬S g->W.heap[g]? =wr.heap[g]?)->wr.heap.size<=W.heap.size->(W.cell? ⟨sb,0,none⟩=some (.iface 97 mp.agg)/\W.cell? ⟨sb+1,0,none⟩=some (.slice (some ⟨pb,po,none⟩) (k+1) xc)/\W.cell? ⟨pb,po,none⟩=some (.int .i64 (hd:Int))/\sb<W.heap.size/\sb+1<W.heap.size/\pb<W.heap.size) from fun W hW hz=>by
      have a:=(hW sb (by omega) t5).trans HSBk
      have b:=(hW (sb+1) (by omega) t4).trans HTBk
      exact⟨by simp[World.cell?,a],by simp[World.cell?,b],(nQ (w:=wr) (a:=⟨pb,po,none⟩) (hW pb hpbl hpS)).trans d0,by omega,by omega,by omega⟩)
     have HEN:=ah (Sb lb data.size rs v lb S wr.drew ⟨hA.obj,hA.own.drew,hA.lo,hA.ns⟩ hIw.sub (by omega) hok (by omega))
     have HIW:=ah hIw;have HCW:=ah hCw
     have HREL:=ah (aF hok (aF hmemw htkw))
     have HRT:=ah hrt
     have hel:=Az data.size rs
     have helle:(encR data.size rs).length<=512:=by omega
     have z0:(0:Int)<((k+1:Nat):Int):=by omega
     have z1:(0:Int)<(k:Int)+1:=by omega
     have HHA:=ah hA
     clear hA hIw hCw hok hmemw htkw hrs hrt hel hkl HSBk HTBk d0
     go_upto_region 25 with (fail)
     refine aP (fun W=>W.cell? ⟨sb,0,none⟩=some (.iface 97 mp.agg)/\W.cell? ⟨sb+1,0,none⟩=some (.slice (some ⟨pb,po,none⟩) (k+1) xc)/\W.cell? ⟨pb,po,none⟩=some (.int .i64 (hd:Int))/\sb<W.heap.size/\sb+1<W.heap.size/\pb<W.heap.size) (fun i=> !([5,9].contains i)) [0,1,2,3,4,6,7,8,5,9,10] rfl (by kernel_rfl) (HP.out wr.drew (fun g _ _=>rfl) (aC _)) ?_
     repeat ((refine bP (v:= ?_) rfl rfl (fun _ _ _ h=>h) rfl (fun W hW=> ?_) ?_);rotate_left;(focus ((try dsimp only at hW);obtain⟨a0,a1,a2,a3,a4,a5⟩:=hW;have:=hna;(go_simp;first|done|with_reducible rfl)));(try simp only[Act.put,ai,ax,au]))
     refine dK rfl rfl rfl ?_;intro K hK;go_simp
     refine HEN.out.mono ?_;rintro e w5 ⟨ev,rfl,hown5,hb5⟩
     obtain⟨eo,ec,rfl,_,_,_,_⟩:=aX.form hown5.dm
     have hb5':Below wr.heap.size wr w5:=((aR _ wr).drew).trans hb5
     refine hK.out _ _ (HP.out w5 (fun g hg _=>hb5'.block g (nE hg hlw)) hb5'.size) ?_
     (try simp only[Act.put,ai,ax,au])
     have hI5:=HIW.out.below hb5'
     have hhd:=HTW.out hd (bg ..)
     have hmost2:hd<σ2.most:=by rw[HCW.out.most];exact hhd.2
     have HWR:=ah (wC mp σ2 S w5 hd _ (encR data.size rs) hI5 hmost2 (aX.loose hown5.dm) helle (bZ.Pz (HCW.out.new _ (kD (bg ..))).1 ((Bh HCW.out.H _).trans (HTK.out.nheld _ (bg ..)))))
     refine dK rfl rfl rfl ?_;intro K hK;go_simp
     refine HWR.out.mono ?_;rintro e w6 ⟨rfl,hI6,hs6⟩
     have hP6:=HP.out w6 (fun g hg hn=>(hs6.1.block g (ak (nE hg hlw) hb5'.size) hn).trans (hb5'.block g (nE hg hlw))) (aK hb5'.size hs6.1.size)
     refine hK.out _ _ hP6 ?_
     (try simp only[Act.put,ai,ax,au])
     repeat ((refine bP (v:= ?_) rfl rfl (fun _ _ _ h=>h) rfl (fun W hW=> ?_) ?_);rotate_left;(focus ((try dsimp only at hW);obtain⟨a0,a1,a2,a3,a4,a5⟩:=hW;(go_simp;first|done|with_reducible rfl)));(try simp only[Act.put,ai,ax,au]))
     refine bS ?_
     obtain⟨a0,a1,a2,a3,a4,a5⟩:=hP6
     go_wp2_with fail
     go_ret2
     have hcw:=L8 (σ:=σ2) (us:=jw (hd::tl)) (b:=hd) (l:=pad (encR data.size rs)) (fun x hx=>(HCW.out.new x hx).1) (kD (bg ..)) hhd.1
     have hln:tl.length=sJ data.size:=by rw[htl,HNB.out]
     have hbl:=NZ (σ2:=σ2) (t:=t) HRT.out HREL.out.1 (by rw[HTL.out];exact hln) (by rw[HTL.out];exact h1) (by rw[HTL.out];exact h2) HNDD.out (fun b hb=>(HTW.out b hb).1) (fun b hb=>(HCW.out.new _ (kD hb)).1) (fun j hj=>HREL.out.2.1 j hj (by omega))
     rw[HTL.out] at hbl
     refine .inl ⟨hd,rs,σ2.wrote hd (pad (encR data.size rs)),rfl,?_,?_,?_,hI6,?_⟩
     ·rw[<-HTT.out];exact hbl
     ·exact(HCW.out.trans hcw).perm (jK _) (by have:=Da hd rs;rwa [HRT.out] at this)
     ·rw[<-HTT.out,HTL.out,<-hln,htl]
      show σ2.tk<=_
      rw[HREL.out.2.2]
      have a:=HTK.out.tk
      have b:=HTK.out.sz
      rw[aZ,htl] at b
      omega
     ·have hsz:w.heap.size<=lb:=by have:=HSB.out;omega
      refine⟨((hs2.1.trans hkw (fun i hi e=>e.elim id (fun y=>absurd hi (bq.2 (aK hsz y))))).trans (Keep.of_below hb5' S) (fun _ _ e=>e)).trans hs6.1 (fun _ _ e=>e),fun g hg=> .inl hg⟩
def rO:List UInt8->Option Nat
 |[a,b,c]=>if a=1 then some (b.toNat+256*c.toNat) else none
 |_=>none
theorem D6 (s:ByteArray)(w:World)(hs:s.size<=1000000):
  Calls Tryz.prog 48 #[.string s] w fun e w'=>Below w.heap.size w w'/\e= .returned (.tuple #[.int .i64 ((rO s.data.toList).getD 0:Nat),.bool (rO s.data.toList).isSome]):=by
 have hsz:s.data.toList.length=s.size:=by show s.data.toList.length=s.data.size;simp
 by_cases h3:s.size=3
 ·have y1:(s.size:Int)=3:=by omega
  obtain⟨a,b,c,hl⟩:∃a b c,s.data.toList=[a,b,c]:=by
   have:=hsz.trans h3
   revert this
   generalize s.data.toList=l
   intro h
   match l,h with
   |[a,b,c],_=>exact⟨a,b,c,rfl⟩
  have hss:s=strOf [a,b,c]:=by
   unfold strOf
   rw[<-hl]
  rw[hl]
  clear hsz hl h3
  subst hss
  have i0:∀W:World,(Instr.index 9 (.string (strOf [a,b,c])) (.int .i64 0)).run Tryz.prog W= .ok (.int .u8 (a.toNat:Int)) W:=fun W=>qO _ 0 a rfl W
  have i1:∀W:World,(Instr.index 9 (.string (strOf [a,b,c])) (.int .i64 1)).run Tryz.prog W= .ok (.int .u8 (b.toNat:Int)) W:=fun W=>qO _ 1 b rfl W
  have i2:∀W:World,(Instr.index 9 (.string (strOf [a,b,c])) (.int .i64 2)).run Tryz.prog W= .ok (.int .u8 (c.toNat:Int)) W:=fun W=>qO _ 2 c rfl W
  have hb:=b.toNat_lt;have hc:=c.toNat_lt
  obtain⟨t,ht⟩:∃t,Hid (strOf [a,b,c]=t):=⟨_,ah rfl⟩
  rw[ht.out] at i0 i1 i2 hs y1 ⊢
  by_cases ha:a=1
  ·subst ha
   have hl:rO [1,b,c]=some (b.toNat+256*c.toNat):=rfl
   rw[hl]
   have j0:∀W:World,(Instr.index 9 (.string t) (.int .i64 0)).run Tryz.prog W= .ok (.int .u8 1) W:=i0
   clear i0 hl
   have q1:IntKind.i64.wrap (b.toNat:Int)=(b.toNat:Int):=aG _ (by omega)
   have q2:IntKind.i64.wrap (c.toNat:Int)=(c.toNat:Int):=aG _ (by omega)
   obtain⟨n1,hn1⟩:∃n,n=b.toNat+256*c.toNat:=⟨_,rfl⟩
   have p1:IntKind.i64.wrap ((c.toNat:Int)*256)=((256*c.toNat:Nat):Int):=by rw[aG _ (by omega)];omega
   have o1:=uZ b.toNat c.toNat 256 n1 8 rfl hb hn1 (by omega)
   have HN:=ah hn1
   obtain⟨m1,hm1⟩:∃m:Nat,Hid (256*c.toNat=m):=⟨_,ah rfl⟩
   rw[hm1.out] at p1 o1
   clear hn1 hb hc
   go_enter Tryz.func48,Tryz.ntmps48
   go_wp2_with fail
   refine aP (fun W=>W=w.drew) (fun i=>true) [0,1,2,3,4,5,6,7,8,9] rfl (by kernel_rfl) rfl ?_
   repeat ((refine bP (v:= ?_) rfl rfl (fun _ _ _ h=>h) rfl (fun W hW=> ?_) ?_);rotate_left;(focus ((try dsimp only at hW);subst hW;(go_simp;first|done|with_reducible rfl)));(try simp only[Act.put,ai,ax,au]))
   refine bS ?_
   go_wp2_with fail
   go_ret2
   refine⟨(aR _ w).drew,?_⟩
   rw[<-HN.out]
   rfl
  ·have hl:rO [a,b,c]=none:=if_neg ha
   rw[hl]
   have hne:¬(a.toNat:Int)=1:=fun e=>ha (Js.1 (by show a.toNat=1;omega))
   clear hb hc hl
   go_enter Tryz.func48,Tryz.ntmps48
   go_wp2_with fail
   go_ret2
   exact⟨aR _ w,rfl⟩
 ·have y1:¬(s.size:Int)=3:=by omega
  have hn:rO s.data.toList=none:=by
   generalize s.data.toList=l at hsz
   match l,hsz with
   |[a,b,c],h=>exact absurd h (by simp;omega)
   |[],_=>rfl
   |[_],_=>rfl
   |[_,_],_=>rfl
   |_::_::_::_::_,_=>rfl
  rw[hn]
  go_enter Tryz.func48,Tryz.ntmps48
  go_wp2_with fail
  go_ret2
  exact⟨aR _ w,rfl⟩
def jm (er:Int)(key:ByteArray):Int:=if er≠0 then er else if key.size=0\/128<key.size then 1 else 0
def dH (mp:VS)(tr:Option Nat)(ch:Bool)(er:Int):Array Value:=#[.pointer (some ⟨mp.tx,0,none⟩),.pointer (some ⟨mp.mp,0,none⟩),.pointer (tr.map fun b=>⟨b,0,none⟩),.bool ch,.int .i64 er]
theorem pI (t:Nat)(mp:VS)(tr:Nat)(ch:Bool)(er:Int)(key:ByteArray)(w:World)(h:w.heap[t]? =some (.cells (dH mp (some tr) ch er) 100 (0,0))):
  Calls Tryz.prog 59 #[.pointer (some ⟨t,0,none⟩),.string key] w fun e w'=>w'=w/\e= .returned (.int .i64 (jm er key)):=by
 have c2:w.cell? ⟨t,2,none⟩=some (.pointer (some ⟨tr,0,none⟩)):=by simp[World.cell?,h,dH]
 have c4:w.cell? ⟨t,4,none⟩=some (.int .i64 er):=by simp[World.cell?,h,dH]
 have hl:=(aj.1 h).1
 have hk:key.toList.isEmpty=decide (key.size=0):=by
  rw[toList_eq]
  have:key.data.toList.length=key.size:=by show key.data.toList.length=key.data.size;simp
  rw[<-this]
  cases key.data.toList<;>simp
 clear h
 by_cases he:er=0
 ·subst he
  by_cases h0:key.size=0
  ·have hu:jm 0 key=1:=by unfold jm;rw[if_neg (by simp),if_pos (.inl h0)]
   rw[hu]
   have hk':key.toList.isEmpty=true:=by rw[hk];simp[h0]
   clear hk hu
   go_enter Tryz.func59,Tryz.ntmps59
   go_wp2_with fail
   go_ret
   exact⟨rfl,rfl⟩
  ·have hk':key.toList.isEmpty=false:=by rw[hk];simp[h0]
   clear hk
   by_cases h1:128<key.size
   ·have hu:jm 0 key=1:=by unfold jm;rw[if_neg (by simp),if_pos (.inr h1)]
    rw[hu]
    have y1:(128:Int)<(key.size:Int):=by omega
    clear hu
    go_enter Tryz.func59,Tryz.ntmps59
    go_wp2_with fail
    go_ret
    exact⟨rfl,rfl⟩
   ·have hu:jm 0 key=0:=by unfold jm;rw[if_neg (by simp),if_neg (by omega)]
    rw[hu]
    have y1:¬(128:Int)<(key.size:Int):=by omega
    clear hu
    go_enter Tryz.func59,Tryz.ntmps59
    go_wp2_with fail
    go_ret
    exact⟨rfl,rfl⟩
 ·have hu:jm er key=er:=if_pos he
  rw[hu]
  have hne:(er !=0)=true:=by simp[he]
  clear hk hu
  go_enter Tryz.func59,Tryz.ntmps59
  go_wp2_with fail
  go_ret
  exact⟨rfl,rfl⟩
theorem JG (t:Nat)(mp:VS)(tr:Option Nat)(ch:Bool)(er e:Int)(w:World)(h:w.heap[t]? =some (.cells (dH mp tr ch er) 100 (0,0))):
  Calls Tryz.prog 61 #[.pointer (some ⟨t,0,none⟩),.int .i64 e] w fun r w'=>r= .returned (.int .i64 e)/\w'.heap[t]? =some (.cells (dH mp tr ch e) 100 (0,0))/\Keep (· =t) w w':=by
 have c4:w.cell? ⟨t,4,none⟩=some (.int .i64 er):=by simp[World.cell?,h,dH]
 have f4:w.frozen? ⟨t,4,none⟩=false:=by simp[World.frozen?,h]
 have hl:=(aj.1 h).1
 have HH:=ah h
 clear h
 go_enter Tryz.func61,Tryz.ntmps61
 go_wp2_with fail
 go_ret
 refine⟨rfl,?_,(Keep.refl (· =t) _).setCell (p:=⟨t,4,none⟩) (.inr rfl) _⟩
 simp[World.setCell,bn,HH.out]
 rfl
theorem Lc (tp:Option Addr)(key value:ByteArray)(er:Int)(w:World)(hu:Calls Tryz.prog 59 #[.pointer tp,.string key] w fun e w'=>w'=w/\e= .returned (.int .i64 er))(her:er≠0):
  Calls Tryz.prog 23 #[.pointer tp,.string key,.string value] w fun e w'=>w'=w/\e= .returned (.int .i64 er):=by
 have hne:(er !=0)=true:=by simp[her]
 have HU:=ah hu
 clear hu
 go_enter Tryz.func23,SX
 go_wp2_with (first
  |(go_at_call 59;go_must (refine HU.out.mono ?_;rintro e w1 ⟨rfl,rfl⟩)))
 go_ret
 exact⟨rfl,rfl⟩
theorem ER (tp:Option Addr)(s:ByteArray)(w:World)(hs:s.size<=1000000)(h1:1<=s.size)(hl:rO s.data.toList=none):
  Calls Tryz.prog 68 #[.pointer tp,.string s] w fun e w'=>Below w.heap.size w w'/\e= .returned (.tuple #[.string (s.extract 1 s.size),.int .i64 0]):=by
 have HL:=ah (D6 s w hs)
 rw[hl] at HL
 have r1:min (1:Int) (s.size:Int)=1:=by omega
 have r2:(1:Int)<=(s.size:Int):=by omega
 clear hl
 go_enter Tryz.func68,Tryz.ntmps68
 go_wp2_with (first
  |(go_at_call 48;go_must (refine HL.out.mono ?_;rintro e w1 ⟨hb1,rfl⟩)))
 go_ret2
 exact⟨hb1,rfl⟩
theorem Gp (t:Nat)(mp:VS)(tr:Option Nat)(ch:Bool)(er:Int)(σ:bZ)(S:Nat->Prop)(w:World)(s:ByteArray)(hd:Nat)(l:List UInt8)(rs:List (Nat×Nat))(h:w.heap[t]? =some (.cells (dH mp tr ch er) 100 (0,0)))(hI:Inv σ S mp w)(hB:pF σ hd l rs)(hs:s.size<=1000000)(hl:rO s.data.toList=some hd):
  Calls Tryz.prog 68 #[.pointer (some ⟨t,0,none⟩),.string s] w fun e w'=>Below w.heap.size w w'/\e= .returned (.tuple #[.string ⟨l.toArray⟩,.int .i64 0]):=by
 have HL:=ah (D6 s w hs)
 rw[hl] at HL
 have HH:=ah h;have HI:=ah hI
 have hlt:=(aj.1 h).1
 clear hl h hI
 go_enter Tryz.func68,Tryz.ntmps68
 go_wp2_with (first
  |(go_at_call 48;go_must (refine HL.out.mono ?_;rintro e w1 ⟨hb1,rfl⟩;refine Stop.of ?_)))
 refine Stop.on ?_
 have h1:=(hb1.block t hlt).trans HH.out
 have hlt1:=ak hlt hb1.size
 have c0:w1.cell? ⟨t,0,none⟩=some (.pointer (some ⟨mp.tx,0,none⟩)):=by simp[World.cell?,h1,dH]
 have c1:w1.cell? ⟨t,1,none⟩=some (.pointer (some ⟨mp.mp,0,none⟩)):=by simp[World.cell?,h1,dH]
 have HR:=ah (U7 mp σ S w1 hd l rs (HI.out.below hb1) hB)
 clear h1
 go_wp2_with (first
  |(go_at_call 115;go_must (refine HR.out.mono ?_;rintro e w2 ⟨rfl,hb2⟩)))
 go_ret2
 exact⟨hb1.trans (hb2.mono hb1.size),rfl⟩
def ValAt (σ:bZ)(small v:ByteArray)(vb:List Int):Prop:=
 (small=strOf (0::v.data.toList)/\v.size<=63/\vb=[])\/
 ∃hd rs,small=strOf [1,UInt8.ofNat hd,UInt8.ofNat (hd/256)]/\(hd<65536/\63<v.size)/\pF σ hd v.data.toList rs/\vb=jZ hd rs
theorem vg (l:List UInt8):rO (0::l)=none:=by
 match l with
 |[]=>rfl
 |[_]=>rfl
 |[_,_]=>rfl
 |_::_::_::_=>rfl
theorem xS (hd:Nat)(h:hd<65536):rO [1,UInt8.ofNat hd,UInt8.ofNat (hd/256)]=some hd:=by
 show some ((UInt8.ofNat hd).toNat+256*(UInt8.ofNat (hd/256)).toNat)=some hd
 rw[fe,fe]
 congr 1
 omega
theorem J3 (v:ByteArray):(strOf (0::v.data.toList)).extract 1 (strOf (0::v.data.toList)).size=v:=by
 have hs:(strOf (0::v.data.toList)).size=v.data.toList.length+1:=by show (0::v.data.toList).toArray.size=_;simp
 apply Q5
 rw[Gh]
 apply EQ.1
 rw[Mt,hs]
 show ((0::v.data.toList).drop 1).take (v.data.toList.length+1 - 1)=v.data.toList
 rw[su,gm,dP]
 exact bR
theorem OE (t:Nat)(mp:VS)(tr:Option Nat)(ch:Bool)(er:Int)(σ:bZ)(S:Nat->Prop)(w:World)(small v:ByteArray)(vb:List Int)(h:w.heap[t]? =some (.cells (dH mp tr ch er) 100 (0,0)))(hI:Inv σ S mp w)(hv:ValAt σ small v vb):
  Calls Tryz.prog 68 #[.pointer (some ⟨t,0,none⟩),.string small] w fun e w'=>Below w.heap.size w w'/\e= .returned (.tuple #[.string v,.int .i64 0]):=by
 rcases hv with ⟨rfl,h1,_⟩|⟨hd,rs,rfl,h1,h2,_⟩
 ·have hs:(strOf (0::v.data.toList)).size=v.size+1:=by show (0::v.data.toList).toArray.size=v.data.size+1;simp
  have:=ER (some ⟨t,0,none⟩) (strOf (0::v.data.toList)) w (by omega) (by omega) (vg _)
  rwa [J3] at this
 ·exact Gp t mp tr ch er σ S w _ hd v.data.toList rs h hI h2 (by show [1,UInt8.ofNat hd,UInt8.ofNat (hd/256)].toArray.size<=_;simp) (xS hd h1.1)
theorem UE (t tr:Nat)(mp:VS)(root:Int)(ch:Bool)(σ:bZ)(S:Nat->Prop)(w:World)(cs:List Pr)(bs:List Int)(key v:ByteArray)(vb:List Int)(h:w.heap[t]? =some (.cells (dH mp (some tr) ch 0) 100 (0,0)))(hI:Inv σ S mp w)(ht:dG w tr mp root 0)(hT:zG σ root cs bs)(hl:cs.length<=4090)(hg:1<=key.size/\key.size<=128)(hv:∀small,fD cs key=some small->ValAt σ small v vb):
  Calls Tryz.prog 36 #[.pointer (some ⟨t,0,none⟩),.string key] w fun e w'=>e= .returned (.tuple #[.string (if (fD cs key).isSome then v else ByteArray.empty),.bool (fD cs key).isSome,.int .i64 0])/\Below w.heap.size w w':=by
 have HU:=ah (pI t mp tr ch 0 key w h)
 have hu:jm 0 key=0:=by unfold jm;rw[if_neg (by simp),if_neg (by omega)]
 rw[hu] at HU
 have HG:=ah (CJ tr mp root σ S cs bs key w hI ht hT hl hg)
 have c2:w.cell? ⟨t,2,none⟩=some (.pointer (some ⟨tr,0,none⟩)):=by simp[World.cell?,h,dH]
 have hlt:=(aj.1 h).1
 have HH:=ah h;have HI:=ah hI
 clear h hI hu ht
 cases hx:fD cs key with
 |none=>
  rw[hx] at HG
  clear hv
  go_enter Tryz.func36,Tryz.ntmps36
  go_wp2_with (first
   |(go_at_call 59;go_must (refine HU.out.mono ?_;rintro e w1 ⟨rfl,rfl⟩))
   |(go_at_call 73;go_must (refine HG.out.mono ?_;rintro e w2 ⟨rfl,hb2⟩)))
  go_ret3
  exact⟨rfl,hb2⟩
 |some small=>
  rw[hx] at HG
  have HV:=ah (hv small hx)
  clear hv
  go_enter Tryz.func36,Tryz.ntmps36
  go_wp2_with (first
   |(go_at_call 59;go_must (refine HU.out.mono ?_;rintro e w1 ⟨rfl,rfl⟩))
   |(go_at_call 73;go_must (refine HG.out.mono ?_;rintro e w2 ⟨rfl,hb2⟩))
   |(go_at_call 68;go_must (refine(OE t mp (some tr) ch 0 σ S _ small v vb ((hb2.block t hlt).trans HH.out) (HI.out.below hb2) HV.out).mono ?_;rintro e w3 ⟨hb3,rfl⟩)))
  go_ret3
  exact⟨rfl,hb2.trans (hb3.mono hb2.size)⟩
theorem JJ (t tr:Nat)(mp:VS)(root:Int)(ch:Bool)(er:Int)(σ:bZ)(S:Nat->Prop)(w:World)(cs:List Pr)(bs:List Int)(key:ByteArray)(h:w.heap[t]? =some (.cells (dH mp (some tr) ch er) 100 (0,0)))(hI:Inv σ S mp w)(ht:dG w tr mp root 0)(hT:zG σ root cs bs)(hl:cs.length<=4090)(hg:1<=key.size/\key.size<=128)(hv:rO ((fD cs key).getD ⟨#[]⟩).data.toList=none)(hs:((fD cs key).getD ⟨#[]⟩).size<=1000000):
  Calls Tryz.prog 60 #[.pointer (some ⟨t,0,none⟩),.string key] w fun e w'=>e= .returned (.int .i64 0)/\Below w.heap.size w w':=by
 have HG:=ah (CJ tr mp root σ S cs bs key w hI ht hT hl hg)
 have c2:w.cell? ⟨t,2,none⟩=some (.pointer (some ⟨tr,0,none⟩)):=by simp[World.cell?,h,dH]
 have hlt:=(aj.1 h).1
 obtain⟨small,hsm⟩:∃s,s=(fD cs key).getD ⟨#[]⟩:=⟨_,rfl⟩
 rw[<-hsm] at HG hv hs
 have HS:=ah hs
 have HL:=ah hv
 clear h hI ht hv hs hsm
 go_enter Tryz.func60,Tryz.ntmps60
 go_wp2_with (first
  |(go_at_call 73;go_must (refine HG.out.mono ?_;rintro e w2 ⟨rfl,hb2⟩))
  |(go_at_call 48;go_must (refine(D6 small _ HS.out).mono ?_;rw[HL.out];rintro e w3 ⟨hb3,rfl⟩)))
 go_ret
 exact⟨rfl,hb2.trans (hb3.mono hb2.size)⟩
theorem JK (t tr:Nat)(mp:VS)(root:Int)(ch:Bool)(er:Int)(σ:bZ)(S:Nat->Prop)(w:World)(cs:List Pr)(bs:List Int)(key small:ByteArray)(hd:Nat)(l:List UInt8)(rs:List (Nat×Nat))(h:w.heap[t]? =some (.cells (dH mp (some tr) ch er) 100 (0,0)))(hI:Inv σ S mp w)(ht:dG w tr mp root 0)(hT:zG σ root cs bs)(hl:cs.length<=4090)(hg:1<=key.size/\key.size<=128)(hx:fD cs key=some small)(hv:rO small.data.toList=some hd)(hs:small.size<=1000000)(hB:pF σ hd l rs):
  Calls Tryz.prog 60 #[.pointer (some ⟨t,0,none⟩),.string key] w fun e w'=>e= .returned (.int .i64 0)/\Inv (σ.frees (qf (jZ hd rs))) S mp w'/\Step S S w w':=by
 have HG:=ah (CJ tr mp root σ S cs bs key w hI ht hT hl hg)
 have c2:w.cell? ⟨t,2,none⟩=some (.pointer (some ⟨tr,0,none⟩)):=by simp[World.cell?,h,dH]
 have hlt:=(aj.1 h).1
 have HH:=ah h;have HI:=ah hI
 rw[hx] at HG
 have HS:=ah hs
 have HL:=ah hv
 clear h hI ht hv hs hx
 go_enter Tryz.func60,Tryz.ntmps60
 go_wp2_with (first
  |(go_at_call 73;go_must (refine HG.out.mono ?_;rintro e w2 ⟨rfl,hb2⟩))
  |(go_at_call 48;go_must (refine(D6 small _ HS.out).mono ?_;rw[HL.out];rintro e w3 ⟨hb3,rfl⟩;refine Stop.of ?_)))
 refine Stop.on ?_
 have hb23:=hb2.trans (hb3.mono hb2.size)
 have h1:=(hb23.block t hlt).trans HH.out
 have hlt1:=ak hlt hb23.size
 have c0:w3.cell? ⟨t,0,none⟩=some (.pointer (some ⟨mp.tx,0,none⟩)):=by simp[World.cell?,h1,dH]
 have c1:w3.cell? ⟨t,1,none⟩=some (.pointer (some ⟨mp.mp,0,none⟩)):=by simp[World.cell?,h1,dH]
 have HF:=ah (U8 mp σ S w3 hd l rs (HI.out.below hb23) hB)
 clear h1
 go_wp2_with (first
  |(go_at_call 103;go_must (refine HF.out.mono ?_;rintro e w4 ⟨rfl,hI4,hs4⟩)))
 go_ret
 exact⟨rfl,hI4,(Step.of_below hb23).trans hs4⟩
theorem OM (t tr:Nat)(mp:VS)(ch:Bool)(er:Int)(σ:bZ)(S:Nat->Prop)(w:World)(h:w.heap[t]? =some (.cells (dH mp (some tr) ch er) 100 (0,0)))(hI:Inv σ S mp w)(hns:¬S t):
  Calls Tryz.prog 31 #[.pointer (some ⟨t,0,none⟩)] w fun e w'=>e= .returned (.tuple #[])/\(∃Sp,jh w' Sp mp.pg mp.d σ.H.dk σ.H.lg σ.H.pg (.pointer none)/\∀g,Sp g->S g)/\w'.heap[t]? =some (.cells (dH mp none ch er) 100 (0,0))/\Keep (fun g=>S g\/g=t) w w':=by
 obtain⟨Sp,T,hI,hS⟩:=hI
 have c0:w.cell? ⟨t,0,none⟩=some (.pointer (some ⟨mp.tx,0,none⟩)):=by simp[World.cell?,h,dH]
 have c2:w.cell? ⟨t,2,none⟩=some (.pointer (some ⟨tr,0,none⟩)):=by simp[World.cell?,h,dH]
 have hlt:=(aj.1 h).1
 have HT:=ah (OW mp.tx mp.pg mp.d _ _ _ _ _ _ Sp T w hI.pg hI.tx hI.dis)
 have HH:=ah h
 have HS:=ah hS
 have hn1:¬Sp t:=fun x=>hns ((hS t).2 (.inl x))
 have hn2:¬T t:=fun x=>hns ((hS t).2 (.inr (.inl x)))
 clear h hI hS
 go_enter Tryz.func31,Tryz.ntmps31
 go_wp2_with (first
  |(go_at_call 56;go_must (refine HT.out.mono ?_;rintro e w2 ⟨rfl,hp2,_,hk2⟩;refine Stop.of ?_)))
 refine Stop.on ?_
 have h2:=(hk2.block t hlt (fun e=>e.elim hn1 hn2)).trans HH.out
 have hlt2:=(aj.1 h2).1
 have d2:w2.cell? ⟨t,2,none⟩=some (.pointer (some ⟨tr,0,none⟩)):=by simp[World.cell?,h2,dH]
 have f2:w2.frozen? ⟨t,2,none⟩=false:=by simp[World.frozen?,h2]
 have HH2:=ah h2
 clear h2
 go_wp2_with fail
 go_end0
 have hk3:Keep (· =t) w2 (w2.setCell ⟨t,2,none⟩ (.pointer none)):=(Keep.refl (· =t) _).setCell (p:=⟨t,2,none⟩) (.inr rfl) _
 refine⟨rfl,⟨Sp,hp2.keep hk3 (fun g hg e=>hn1 (e▸hg)),fun g hg=>(HS.out g).2 (.inl hg)⟩,?_,?_⟩
 ·simp[World.setCell,bn,HH2.out]
  rfl
 ·exact(hk2.mono (fun g _ e=> .inl ((HS.out g).2 (e.imp id .inl)))).trans (hk3.mono (fun g _ e=> .inr e)) (fun _ _ e=>e)
theorem Rf (v pg d:Nat)(σ:Dk)(l:Lg)(p:Pg)(op:Value)(S:Nat->Prop)(w:World)(hv:w.heap[v]? =some (.cells #[.pointer (some ⟨pg,0,none⟩)] 88 (0,0)))(h:jh w S pg d σ l p op):
  Calls Tryz.prog 14 #[.pointer (some ⟨v,0,none⟩)] w fun e w'=>e= .returned (.int .i64 (p.blocks σ))/\w'=w.drew:=by
 have c0:w.cell? ⟨v,0,none⟩=some (.pointer (some ⟨pg,0,none⟩)):=by simp[World.cell?,hv]
 have hlt:=(aj.1 hv).1
 have HP:=ah (yM pg d σ l p op S w h)
 clear hv h
 go_enter Tryz.func14,Tryz.ntmps14
 go_wp2_with (first
  |(go_at_call 42;go_must (refine HP.out.mono ?_;rintro e w2 ⟨rfl,rfl⟩)))
 go_ret
 exact⟨rfl,rfl⟩
theorem UF (v pg d:Nat)(σ:Dk)(l:Lg)(p:Pg)(op:Value)(S:Nat->Prop)(w:World)(hv:w.heap[v]? =some (.cells #[.pointer (some ⟨pg,0,none⟩)] 88 (0,0)))(h:jh w S pg d σ l p op)(hb:(l.last:Int)<=1000000000000):
  Calls Tryz.prog 12 #[.pointer (some ⟨v,0,none⟩)] w fun e w'=>e= .returned (.int .i64 ((l.last:Int) - 1))/\w'=w:=by
 have c0:w.cell? ⟨v,0,none⟩=some (.pointer (some ⟨pg,0,none⟩)):=by simp[World.cell?,hv]
 have hlt:=(aj.1 hv).1
 have HP:=ah (SE pg d σ l p op S w h)
 have q:IntKind.i64.wrap ((l.last:Int) - 1)=(l.last:Int) - 1:=aG _ (by omega)
 clear hv h
 go_enter Tryz.func12,Tryz.ntmps12
 go_wp2_with (first
  |(go_at_call 45;go_must (refine HP.out.mono ?_;rintro e w2 ⟨rfl,rfl⟩)))
 go_ret
 exact⟨rfl,rfl⟩
structure Um (σ:Dk)(l:Lg)(p:Pg):Prop where
 free:σ.nX
 ld:l.dead=false
 pd:p.dead=false
 wt:σ.waits.length<=l.used
theorem Lg.D8 {σ:Dk}{l:Lg}(h:σ.nX)(hd:l.dead=false)(hf:l.frm<σ.n):l.sync σ=((σ.flush.put l.frm l.all.fE).flush,l.all,0):=by
 unfold Lg.sync
 rw[hd,if_neg (by simp),h.sync]
 dsimp only
 rw[if_pos rfl,Lg.zR h.flush l.all hf]
 dsimp only
 rw[if_pos rfl]
 rfl
theorem xV (σ:Dk)(f j:Nat)(x:List UInt8)(h:f≠j):((σ.flush.put f x).flush).get j=σ.get j:=by
 rw[Dk.oh,Dk.get_put,if_neg h,Dk.oh]
theorem Pg.Ia (p:Pg):∀(r:List Nat) (σ:Dk),σ.nX->(∀b∈r,p.skip+b<σ.n/\(p.fresh.img b).length=512)->
  ∃σ',p.lay r σ=(σ',0)/\σ'.nX/\σ'.n=σ.n/\(∀b,σ'.get (p.skip+b)=if b∈r then p.fresh.img b else σ.get (p.skip+b))/\∀j,j<p.skip->σ'.get j=σ.get j
 |[],σ,h,_=>⟨σ,rfl,h,rfl,fun b=>by simp,fun _ _=>rfl⟩
 |b::r,σ,h,hr=>by
  obtain⟨h1,h2⟩:=hr b (bg ..)
  have hw:=h.write (p.skip+b) (p.fresh.img b) h1 (by omega)
  obtain⟨σ',q1,q2,q3,q4,q5⟩:=Pg.Ia p r (σ.put (p.skip+b) (p.fresh.img b)) (h.put _ _) (fun c hc=>hr c (aW _ hc))
  refine⟨σ',?_,q2,q3,fun c=> ?_,fun j hj=> ?_⟩
  ·rw[p.yX,hw]
   dsimp only
   rw[if_pos rfl,q1]
  ·rw[q4,Dk.get_put]
   by_cases hc:c∈r
   ·rw[if_pos hc,if_pos (aW _ hc)]
   ·rw[if_neg hc]
    by_cases e:c=b
    ·subst e
     rw[if_pos rfl,if_pos (bg ..)]
     exact yN h2
    ·rw[if_neg (by omega),if_neg (fun x=>(bM.1 x).elim e hc)]
  ·rw[q5 j hj,Dk.get_put,if_neg (by omega)]
theorem Pg.Nz {σ:Dk}{l:Lg}{p:Pg}(hV:Um σ l p)(hp:p.Ok σ l):
  ∃σ',p.home σ l=(σ',l.all.cut l.last,{p with fresh:=Im.none},0)/\σ'.nX/\σ'.n=σ.n/\σ'.waits=[]/\∀b,σ'.get (p.skip+b)=(p.fresh.find b).getD (σ.get (p.skip+b)):=by
 have hfit:=hp.fit
 have hfrm:=hp.frm
 have hskip:=hp.skip
 have hring:=hp.ring
 have hs:=Lg.D8 hV.free hV.ld (by omega:l.frm<σ.n)
 obtain⟨σ1,hσ1⟩:∃σ1,σ1=(σ.flush.put l.frm l.all.fE).flush:=⟨_,rfl⟩
 rw[<-hσ1] at hs
 have hF1:σ1.nX:=by rw[hσ1];exact hV.free
 have hn1:σ1.n=σ.n:=by rw[hσ1];rfl
 have hg1:∀b,σ1.get (p.skip+b)=σ.get (p.skip+b):=fun b=>by rw[hσ1];exact xV _ _ _ _ (by omega)
 obtain⟨σ2,e2,F2,n2,g2,_⟩:=Pg.Ia p p.fresh.ks σ1 hF1 (fun b hb=>⟨by have:=hp.fresh.hi b hb;omega,hp.fresh.img b hb⟩)
 have hm:=Lg.zR F2.flush (l.all.cut l.all.last) (by show l.frm<σ2.n;omega)
 have ht:l.all.trim σ2.flush l.all.last=(((σ2.flush).put l.frm (l.all.cut l.all.last).fE).flush,l.all.cut l.all.last,0):=by
  unfold Lg.trim
  have hd:l.all.dead=false:=hV.ld
  rw[hd,if_neg (by simp),if_neg (by show ¬l.last<l.last;omega),hm]
  dsimp only
  rw[if_pos rfl]
  rfl
 refine⟨((σ2.flush).put l.frm (l.all.cut l.all.last).fE).flush,?_,F2,by rw[<-hn1,<-n2];rfl,rfl,fun b=> ?_⟩
 ·unfold Pg.home
  rw[hs]
  dsimp only
  rw[if_pos rfl,e2]
  dsimp only
  rw[if_pos rfl,F2.sync]
  dsimp only
  rw[if_pos rfl,ht]
  dsimp only
  rw[if_pos rfl]
  rfl
 ·rw[Dk.oh,Dk.get_put,if_neg (by omega),Dk.oh,g2,hg1]
  unfold Im.find
  split<;>rfl
theorem Lg.BO (l:Lg)(b:List UInt8)(hn:2<=l.n):∀(k i:Nat) (σ:Dk),σ.nX->l.frm+l.n<=σ.n->
  ∃σ',l.qK b k i σ=(σ',0)/\σ'.nX/\σ'.n=σ.n/\σ'.waits.length=σ.waits.length+k/\∀j,l.frm+l.n<=j->σ'.get j=σ.get j
 |0,_,σ,h,_=>⟨σ,rfl,h,rfl,rfl,fun _ _=>rfl⟩
 |k+1,i,σ,h,hf=>by
  have hr:l.ring (l.start+l.used+i)<l.frm+l.n:=by
   unfold Lg.ring
   have:=mD (l.start+l.used+i) (by omega:0<l.n - 1)
   omega
  obtain⟨x,hx⟩:∃x,x=(b.drop (i*512)).take 512:=⟨_,rfl⟩
  have hw:=h.write (l.ring (l.start+l.used+i)) x (by omega) (by rw[hx,aH];omega)
  obtain⟨σ',q1,q2,q3,q4,q5⟩:=Lg.BO l b hn k (i+1) (σ.put (l.ring (l.start+l.used+i)) x) (h.put _ _) hf
  refine⟨σ',?_,q2,q3,?_,fun j hj=> ?_⟩
  ·rw[l.tC,<-hx,hw]
   dsimp only
   rw[if_pos rfl,q1]
  ·rw[q4]
   show (σ.waits++[_]).length+k=_
   simp;omega
  ·rw[q5 j hj,Dk.get_put,if_neg (by omega)]
theorem Pg.zS (p:Pg)(σ:Dk)(b:Nat):p.look Im.none σ b=(p.fresh.find b).getD (σ.get (p.skip+b)):=rfl
theorem Im.Em (m d:Im)(b:Nat):(m.over d).find b=if b∈d.ks then some (d.img b) else m.find b:=by
 unfold Im.find Im.over
 rw[Im.vD]
 simp only[Im.wR]
 by_cases h:b∈d.ks
 ·simp[h]
 ·simp[h]
theorem Pg.El (p:Pg)(d:Im)(σ:Dk)(b:Nat):({p with fresh:=p.fresh.over d}:Pg).look Im.none σ b=p.look d σ b:=by
 rw[Pg.zS]
 show ((p.fresh.over d).find b).getD (σ.get (p.skip+b))=_
 rw[Im.Em]
 unfold Pg.look
 by_cases h:b∈d.ks
 ·have:d.find b=some (d.img b):=if_pos h
  rw[if_pos h,this];rfl
 ·have:d.find b=none:=if_neg h
  rw[if_neg h,this];rfl
def Pg.rH (p:Pg)(im:Im):Prop:=p.ring<dQ im.bF\/1024<im.ks.length
theorem IY {σ:Dk}{l:Lg}{p:Pg}{im:Im}(hV:Um σ l p)(hp:p.Ok σ l)(hl:l.Ok)(hi:im.Ok (p.blocks σ)):
  (im.ks=[]/\p.commit σ l im=(σ,l,p,l.last,0))\/
  (im.ks≠[]/\p.rH im/\p.commit σ l im=(σ,l,p,0,13))\/
  (im.ks≠[]/\¬p.rH im/\∃σ' l' p',p.commit σ l im=(σ',l',p',l.last+1,0)/\Um σ' l' p'/\l'.last=l.last+1/\p'.skip=p.skip/\p'.ring=p.ring/\σ'.n=σ.n/\∀b,p'.look Im.none σ' b=p.look im σ b):=by
 have hfit:=hp.fit
 have hfrm:=hp.frm
 have hskip:=hp.skip
 have hring:=hp.ring
 have hn2:=hl.n2
 by_cases hk:im.ks=[]
 ·refine .inl ⟨hk,?_⟩
  unfold Pg.commit
  rw[hV.pd,if_neg (by simp),if_pos hk]
 by_cases ho:p.rH im
 ·refine .inr (.inl ⟨hk,ho,?_⟩)
  unfold Pg.commit
  unfold Pg.rH at ho
  rw[hV.pd,if_neg (by simp),if_neg hk,if_pos ho]
 have ho':¬(p.ring<dQ im.bF\/1024<im.ks.length):=ho
 refine .inr (.inr ⟨hk,ho,?_⟩)
 have hk0:0<im.ks.length:=dx.2 hk
 obtain⟨nd,hnd⟩:∃nd,dQ im.bF=nd:=⟨_,rfl⟩
 rw[hnd] at ho'
 obtain⟨σ5,l5,p5,hr,V5,F5,hn5,hk5,hrg5,hl5,hf5,hsz5,hroom,hg5⟩:∃σ5 l5 p5,p.ready σ l nd=(σ5,l5,p5,0)/\(l5.dead=false/\p5.dead=false/\σ5.waits.length<=l5.used)/\σ5.nX/\σ5.n=σ.n/\p5.skip=p.skip/\p5.ring=p.ring/\l5.last=l.last/\l5.frm=l.frm/\l5.n=l.n/\nd<=l5.room/\∀b,p5.look im σ5 b=p.look im σ b:=by
  by_cases hrm:l.room<nd
  ·obtain⟨σ',h1,h2,h3,h4,h5⟩:=Pg.Nz hV hp
   have hz:=Pg.EA hl (p:=p) (σ:=σ) (by rw[h1])
   rw[h1] at hz
   refine⟨σ',l.all.cut l.last,{p with fresh:=Im.none},?_,⟨hV.ld,hV.pd,by rw[h4];exact aT _⟩,h2,h3,rfl,rfl,rfl,rfl,rfl,by have:=hz.2.2.2.1;dsimp only at this;omega,fun b=> ?_⟩
   ·unfold Pg.ready
    rw[if_pos hrm,h1]
   ·unfold Pg.look
    congr 1
    show σ'.get (p.skip+b)=_
    exact h5 b
  ·refine⟨σ,l,p,?_,⟨hV.ld,hV.pd,hV.wt⟩,hV.free,rfl,rfl,rfl,rfl,rfl,rfl,by omega,fun _=>rfl⟩
   unfold Pg.ready
   rw[if_neg hrm]
 have hbad:l5.bad im.bF=0:=by
  have:=Lg.zu (l:=l5) hi V5.1 hk0 (by omega) (by rw[hnd];exact hroom)
  rwa [qE] at this
 obtain⟨σ6,q1,q2,q3,q4,q5⟩:=Lg.BO l5 (iH (l5.last+1) im.bF) (by omega) (dQ im.bF) 0 σ5 F5 (by omega)
 have hap:l5.append σ5 im.bF=(σ6,l5.more im.bF,l5.last+1,0):=by
  unfold Lg.append
  rw[hbad,if_neg (by simp),q1]
  dsimp only
  rw[if_pos rfl]
 have hc:=Pg.sM hV.pd hk hnd (by omega) hr hap
 rw[if_pos rfl] at hc
 refine⟨σ6,l5.more im.bF,{p5 with fresh:=p5.fresh.over im},?_,⟨q2,V5.1,V5.2.1,?_⟩,?_,hk5,hrg5,q3.trans hn5,fun b=> ?_⟩
 ·rw[hc,hl5]
 ·show _<=l5.used+dQ im.bF
  rw[q4];have:=V5.2.2;omega
 ·show l5.last+1=_
  rw[hl5]
 ·rw[Pg.El,<-hg5]
  unfold Pg.look
  rw[q5 _ (by omega)]
theorem MK {σ:Dk}{l:Lg}{p:Pg}(hV:Um σ l p)(hp:p.Ok σ l):
  ∃σ' l',p.sync σ l=(σ',l',p,0)/\Um σ' l' p/\l'.last=l.last/\l'.synced=l.last/\σ'.n=σ.n/\∀im b,p.look im σ' b=p.look im σ b:=by
 have hfit:=hp.fit
 have hfrm:=hp.frm
 have hskip:=hp.skip
 have hring:=hp.ring
 unfold Pg.sync
 rw[hV.pd,if_neg (by simp)]
 by_cases h1:l.synced=l.last/\σ.dead=false
 ·rw[if_pos h1]
  exact⟨σ,l,rfl,hV,rfl,h1.1,rfl,fun _ _=>rfl⟩
 ·rw[if_neg h1,Lg.D8 hV.free hV.ld (by omega)]
  dsimp only
  rw[if_pos rfl]
  refine⟨_,_,rfl,⟨hV.free,hV.ld,hV.pd,aT _⟩,rfl,rfl,rfl,fun im b=> ?_⟩
  unfold Pg.look
  rw[xV _ _ _ _ (by omega)]
theorem D9 (l:Lg)(B:List UInt8)(P:(Nat->List UInt8)->Prop)(nd:Nat)(hn2:2<=l.n)(hnd:nd<=l.n - 1)(hc:∀s j x,j<nd->P s->P (sG s (l.ring (l.start+l.used+j)) x)):
  ∀(k i:Nat) (σ:Dk),i+k<=nd->σ.dead=false->l.frm+l.n<=σ.n->Al σ P->
  (∃σ',l.qK B k i σ=(σ',0)/\σ'.dead=false/\(σ.fuel= -1->σ'.fuel= -1)/\σ'.n=σ.n/\σ'.waits.length=σ.waits.length+k/\Al σ' P/\
   (∀j,i<=j->j<i+k->σ'.get (l.ring (l.start+l.used+j))=pad ((B.drop (j*512)).take 512))/\∀x,(∀j,i<=j->j<i+k->x≠l.ring (l.start+l.used+j))->σ'.get x=σ.get x)\/
  (∃σ',l.qK B k i σ=(σ',10)/\σ'.dead=true/\σ.fuel≠-1/\σ'.n=σ.n/\Al σ' P)
 |0,i,σ,_,hd,_,hP=> .inl ⟨σ,rfl,hd,id,rfl,rfl,hP,fun j h1 h2=>absurd h2 (by omega),fun _ _=>rfl⟩
 |k+1,i,σ,hik,hd,hf,hP=>by
  have hr:l.ring (l.start+l.used+i)<l.frm+l.n:=by
   unfold Lg.ring
   have:=mD (l.start+l.used+i) (by omega:0<l.n - 1)
   omega
  obtain⟨x,hx⟩:∃x,x=(B.drop (i*512)).take 512:=⟨_,rfl⟩
  have hxl:x.length<=512:=by rw[hx,aH];omega
  rw[l.tC,<-hx]
  rcases zL hd (i:=l.ring (l.start+l.used+i)) (by omega) hxl with ⟨e,hb⟩|⟨e,hb⟩
  ·rw[e]
   dsimp only
   rw[if_pos rfl]
   obtain⟨τ,hτ⟩:∃τ,τ=σ.fF.put (l.ring (l.start+l.used+i)) x:=⟨_,rfl⟩
   rw[<-hτ]
   have hd2:τ.dead=false:=by rw[hτ];exact hb
   have hn:τ.n=σ.n:=by rw[hτ];exact σ.dW.1
   have hf2:σ.fuel= -1->τ.fuel= -1:=fun h=>by rw[hτ];exact(l7 hd h).2
   have hP2:Al τ P:=by rw[hτ];exact hP.fF.put fun s hs=>hc s i _ (by omega) hs
   have hw2:τ.waits.length=σ.waits.length+1:=by rw[hτ];show (σ.fF.waits++[_]).length=_;rw[σ.dW.2.2];simp
   have hg2:∀y,τ.get y=if l.ring (l.start+l.used+i)=y then pad x else σ.get y:=fun y=>by rw[hτ,Dk.get_put,σ.qW]
   rcases D9 l B P nd hn2 hnd hc k (i+1) τ (by omega) hd2 (by omega) hP2 with ⟨σ',q1,q2,q3,q4,q5,q6,q7,q8⟩|⟨σ',q1,q2,q3,q4,q5⟩
   ·refine .inl ⟨σ',q1,q2,fun h=>q3 (hf2 h),q4.trans hn,by rw[q5,hw2];omega,q6,fun j h1 h2=> ?_,fun y hy=> ?_⟩
    ·by_cases hj:j=i
     ·subst hj
      rw[q8 _ (fun m h3 h4=>GQ (by omega) (by omega)),hg2,if_pos rfl,hx]
     ·exact q7 j (by omega) (by omega)
    ·rw[q8 y (fun m h3 h4=>hy m (by omega) (by omega)),hg2,if_neg (Ne.symm (hy i (aC _) (by omega)))]
   ·exact .inr ⟨σ',q1,q2,fun h=>q3 (hf2 h),q4.trans hn,q5⟩
  ·rw[e]
   dsimp only
   rw[if_neg (by omega)]
   refine .inr ⟨_,rfl,hb,fun h=> ?_,σ.dW.1,hP.fF⟩
   have:=(l7 hd h).1
   rw[hb] at this;cases this
def Ej (B:List UInt8):List UInt8:=B++List.replicate ((B.length+511)/512*512 - B.length) 0
theorem Fw (B:List UInt8):(Ej B).length=(B.length+511)/512*512:=by unfold Ej;simp;omega
theorem M8 (B:List UInt8)(j:Nat)(h:j<(B.length+511)/512):((Ej B).drop (j*512)).take 512=pad ((B.drop (j*512)).take 512):=by
 have h1:j*512<=B.length:=by omega
 have h2:(j+1)*512<=(B.length+511)/512*512:=bY 512 h
 unfold Ej pad
 rw[eY h1]
 by_cases h3:512<=B.length - j*512
 ·rw[bK (by rw[aN];omega)]
  rw[aH,aN,bI h3]
  simp
 ·rw[wY,aJ (l:=B.drop (j*512)) (by rw[aN];omega),aN,List.take_replicate]
  congr 2
  omega
theorem RO {s:Nat->List UInt8}{l:Lg}{at_:Nat}{B:List UInt8}(h:∀j,j<(B.length+511)/512->s (l.ring (at_+j))=pad ((B.drop (j*512)).take 512)):Dj s l at_ B:=
 ⟨Ej B,Fw B,by unfold Ej;rw[iE],fun j hj=>by rw[h j hj,M8 B j hj]⟩
theorem MW {σ:Dk}{l:Lg}{p:Pg}{ims:List Im}(h:Rest σ l p ims):wide (gF ims)=l.used:=by
 rw[<-h.lok.sum,h.list,xY]
theorem K3 {σ:Dk}{l:Lg}{p:Pg}{ims:List Im}(h:Rest σ l p ims)(hd:σ.dead=false)(hld:l.dead=false){im:Im}(hb:im.Oj (p.blocks σ))(hr:dQ im.bF<=l.room)(hla:l.last<1000000000000):
  (∃σ',l.append σ im.bF=(σ',l.more im.bF,l.last+1,0)/\σ'.dead=false/\(σ.fuel= -1->σ'.fuel= -1)/\σ'.n=σ.n/\(∀b,σ'.get (p.skip+b)=σ.get (p.skip+b))/\Rest σ' (l.more im.bF) {p with fresh:=p.fresh.over im} (ims++[im]))\/
  (∃σ',l.append σ im.bF=(σ',l.dies,0,10)/\σ'.dead=true/\σ.fuel≠-1/\σ'.n=σ.n/\Al σ' fun s=>qm s l ims p.skip (p.blocks σ) (fun b=>σ.get (p.skip+b)) l.synced):=by
 have hpo:=h.pok
 have hfit:=hpo.fit;have hfrm:=hpo.frm;have hskip:=hpo.skip;have hring:=hpo.ring;have hlok:=h.lok;have hsy:=hlok.sy;have hsyn:=h.uM;have hlen:=h.len
 have hn2:=hlok.n2;have hus:=hlok.us
 have hused:=MW h
 obtain⟨nd,hnd⟩:∃nd,nd=dQ im.bF:=⟨_,rfl⟩
 have hnd1:1<=nd:=by rw[hnd];exact yR _
 unfold Lg.room at hr
 have hrm:l.used+nd<=l.n - 1:=by omega
 have hbad:l.bad im.bF=0:=by
  have:=Lg.zu (l:=l) hb.ok hld hb.lo hb.hi (by unfold Lg.room;omega)
  rwa [qE] at this
 obtain⟨N,hN⟩:∃N,N=p.blocks σ:=⟨_,rfl⟩
 obtain⟨H,hH⟩:∃H:Nat->List UInt8,H=fun b=>σ.get (p.skip+b):=⟨_,rfl⟩
 have hall:=h.all
 rw[<-hN,<-hH] at hall
 have hclose:∀s j x,j<nd->Ph l l.fE ims (l.uM ims.length) p.skip N H s->Ph l l.fE ims (l.uM ims.length) p.skip N H (sG s (l.ring (l.start+l.used+j)) x):=fun s j x hj hs=>by
  have hp0:=uS l (l.start+l.used+j) hn2 hfrm
  refine⟨?_,hs.on.set fun i hi=> ?_,fun b hb=> ?_⟩
  ·unfold sG
   rw[if_neg (by omega)]
   exact hs.mark
  ·have hw:=zO (gF ims) (l.uM ims.length)
   exact Lu (l:=l) (a:=l.start) (b:=l.start+l.used) (k:=l.used) (m:=nd) (aC _) (by omega) (by omega) hj
  ·unfold sG
   rw[if_neg (by omega)]
   exact hs.home b hb
 unfold Lg.append
 rw[hbad,if_neg (by simp)]
 rw[<-hnd]
 rcases D9 l (iH (l.last+1) im.bF) _ nd hn2 (by omega) hclose nd 0 σ (by omega) hd (by omega) hall with ⟨σ',q1,q2,q3,q4,q5,q6,q7,q8⟩|⟨σ',q1,q2,q3,q4,q5⟩
 ·left
  rw[q1]
  dsimp only
  rw[if_pos rfl]
  have hNb:({p with fresh:=p.fresh.over im}:Pg).blocks σ'=N:=by rw[hN];unfold Pg.blocks;rw[q4]
  have hne:∀x,(∀j,j<nd->x≠l.ring (l.start+l.used+j))->σ'.get x=σ.get x:=fun x hx=>q8 x fun j _ hj=>hx j (by omega)
  have hhome:∀b,σ'.get (p.skip+b)=σ.get (p.skip+b):=fun b=>hne _ fun j _=>by
   have:=uS l (l.start+l.used+j) hn2 hfrm
   omega
  have hlast:(l.more im.bF).last+1 - (ims++[im]).length=l.last+1 - ims.length:=by
   show l.last+1+1 - _=_
   rw[ay,dM];omega
  have hbt:gF (ims++[im])=gF ims++[im.bF]:=by simp[gF]
  have hon:oU σ'.get (l.more im.bF) (l.last+1 - ims.length) (gF ims):=h.on.congr rfl rfl rfl fun j hj=>hne _ fun i hi=>
   (Lu (l:=l) (a:=l.start) (b:=l.start+l.used) (k:=l.used) (m:=nd) (aC _) (by omega) (by omega) hi).symm
  have hlie:Dj σ'.get (l.more im.bF) (l.start+wide (gF ims)) (iH (l.last+1 - ims.length+(gF ims).length) im.bF):=by
   rw[dD,show l.last+1 - ims.length+ims.length=l.last+1 by omega,hused]
   refine RO fun j hj=> ?_
   rw[tJ] at hj
   exact q7 j (aT _) (by omega)
  have hlok':(l.more im.bF).Ok:=by
   refine⟨hlok.n2,hlok.hi,hlok.st,?_,?_,?_,?_,?_⟩
   ·show l.used+dQ im.bF<=_;rw[<-hnd];exact hrm
   ·show l.last+1<=_;omega
   ·show l.synced<=l.last+1;omega
   ·intro e he
    rcases bX.1 he with he|he
    ·have:=hlok.ent e he
     exact⟨this.1,kZ this.2⟩
    ·rw[bO.1 he]
     exact⟨yR _,aC _⟩
   ·show ((l.list++[(l.last+1,dQ im.bF)]).map (·.2)).sum=l.used+dQ im.bF
    rw[bU,ny,hlok.sum];simp
  refine⟨σ',rfl,q2,q3,q4,hhome,⟨hlok',⟨hfrm,hskip,hring,by rw[q4];exact hfit,?_⟩,?_,?_,?_,?_,?_,?_,?_,?_,?_⟩⟩
  ·show (p.fresh.over im).Ok (σ'.n - p.skip)
   rw[q4]
   exact hpo.fresh.over hb.ok
  ·show l.list++[_]=_
   rw[hlast,hbt,vG,h.list,dD]
   congr 3
   omega
  ·rw[ay,dM]
   show _<=l.last+1
   omega
  ·rw[ay,dM]
   show l.last+1<=l.synced+_
   omega
  ·intro i hi
   rw[hNb,hN]
   rcases bX.1 hi with hi|hi
   ·exact h.bat i hi
   ·rw[bO.1 hi];exact hb
  ·rw[hlast,hbt]
   exact hon.snoc hlie
  ·intro s hs
   have q:=q6 s hs
   have hmk:(l.more im.bF).fE=l.fE:=by
    refine Hz ?_
    have hfl:=qR (l:=l) (bs:=gF ims) (by rw[dD];exact h.list) (by rw[dD];exact hlen)
    have hfl':=qR (l:=l.more im.bF) (bs:=gF (ims++[im])) (by
     rw[dD,hlast,hbt,vG,dD]
     show l.list++[_]=_
     rw[h.list]
     congr 3
     omega) (by rw[dD,ay,dM];show _<=l.last+1;omega)
    rw[dD] at hfl hfl'
    rw[hlast] at hfl'
    unfold Lg.fields
    rw[hfl,hfl'];rfl
   refine⟨by rw[hmk];exact q.mark,?_,fun b hb=> ?_⟩
   ·rw[hlast,hbt]
    have e:(l.more im.bF).uM (ims++[im]).length=l.uM ims.length:=by
     unfold Lg.uM
     rw[ay,dM]
     show l.synced+_ - (l.last+1)=_
     omega
    rw[e,bK (by rw[dD];unfold Lg.uM;omega)]
    exact q.on.congr rfl rfl rfl fun _ _=>rfl
   ·rw[q.home b (by rw[<-hNb];exact hb),hH]
    exact(hhome b).symm
  ·intro b
   show (p.fresh.over im).find b=_
   rw[zh,Im.Em,h.fresh b]
   unfold Im.find
   split<;>rfl
  ·show _<=l.used+dQ im.bF
   rw[q5,<-hnd];have:=h.cap;omega
  ·intro e
   have e:l.synced=l.last+1:=e
   omega
 ·right
  rw[q1]
  dsimp only
  rw[if_neg (by omega)]
  refine⟨σ',rfl,q2,q3,q4,fun s hs=> ?_⟩
  rw[<-hN,<-hH]
  exact(q5 s hs).recs (l':=l) hlok hfrm hskip.symm h.list hlen (by rw[hN];exact h.bat) rfl (by unfold Lg.uM;omega) (by unfold Lg.uM;omega)
def Ga (l:Lg)(ims:List Im)(N:Nat)(H:Nat->List UInt8)(C:Nat->Nat->List UInt8):Prop:=∀k,l.synced<=k->k<=l.last->∀b,b<N->C k b=oZ (ims.take (k+ims.length - l.last)) H b
def mY (σ:Dk)(l:Lg)(p:Pg)(C:Nat->Nat->List UInt8):Prop:=∃ims,Rest σ l p ims/\Ga l ims (p.blocks σ) (fun b=>σ.get (p.skip+b)) C
def EM (σ:Dk)(l:Lg)(L N:Nat)(C:Nat->Nat->List UInt8):Prop:=Al σ fun s=>∃k,l.synced<=k/\k<=l.last/\sP s L N k (C k)
theorem qm.CF {s:Nat->List UInt8}{l:Lg}{ims:List Im}{L N k:Nat}{H:Nat->List UInt8}{C:Nat->Nat->List UInt8}(h:qm s l ims L N H k)(hC:Ga l ims N H C)(h1:l.synced<=k)(h2:k<=l.last):sP s L N k (C k):=sP.congr h fun b hb=>hC k h1 h2 b hb
theorem mY.dead {σ:Dk}{l:Lg}{p:Pg}{C:Nat->Nat->List UInt8}(h:mY σ l p C):EM σ l p.skip (p.blocks σ) C:=fun s hs=>by
 obtain⟨ims,h,hC⟩:=h
 exact⟨l.synced,aC _,h.lok.sy,(h.recs s hs).CF hC (aC _) h.lok.sy⟩
theorem Sr.CF {σ':Dk}{l l':Lg}{ims:List Im}{L N:Nat}{H:Nat->List UInt8}{C:Nat->Nat->List UInt8}(h:Sr σ' l' l ims L N H)(hC:Ga l ims N H C)(hs:l.synced<=l.last):EM σ' l' L N C/\l.synced<=l'.synced/\l'.last=l.last:=by
 obtain⟨h1,⟨h2,h3⟩|⟨h2,h3⟩⟩:=h
 ·refine⟨fun s hs'=> ?_,by omega,h1⟩
  rw[h1,h2]
  rcases h3 s hs' with e|e
  ·exact⟨_,aC _,hs,e.CF hC (aC _) hs⟩
  ·exact⟨_,hs,aC _,e.CF hC hs (aC _)⟩
 ·refine⟨fun s hs'=> ?_,by omega,h1⟩
  rw[h1,h2]
  exact⟨_,aC _,aC _,(h3 s hs').CF hC hs (aC _)⟩
theorem mY.look {σ:Dk}{l:Lg}{p:Pg}{C:Nat->Nat->List UInt8}(h:mY σ l p C)(b:Nat)(hb:b<p.blocks σ):p.look Im.none σ b=C l.last b:=by
 obtain⟨ims,h,hC⟩:=h
 rw[Pg.zS,h.fresh,hC l.last h.lok.sy (aC _) b hb,dF,aJ (aC _)]
 rfl
theorem BJ {σ:Dk}{l:Lg}{p:Pg}{C:Nat->Nat->List UInt8}(h:mY σ l p C)(hd:σ.dead=false)(hld:l.dead=false)(hpd:p.dead=false):
  (∃σ' l',p.sync σ l=(σ',l',p,0)/\σ'.dead=false/\l'.dead=false/\(σ.fuel= -1->σ'.fuel= -1)/\σ'.n=σ.n/\σ'.waits=[]/\l'.last=l.last/\l'.synced=l.last/\mY σ' l' p C/\∀im b,p.look im σ' b=p.look im σ b)\/
  (∃σ' l',p.sync σ l=(σ',l',p.dies,10)/\σ'.dead=true/\σ.fuel≠-1/\σ'.n=σ.n/\EM σ' l' p.skip (p.blocks σ) C/\l.synced<=l'.synced/\l'.last=l.last):=by
 obtain⟨ims,h,hC⟩:=h
 have hskip:=h.pok.skip;have hn2:=h.lok.n2;have hsy:=h.lok.sy
 unfold Pg.sync
 rw[hpd,if_neg (by simp)]
 by_cases h1:l.synced=l.last/\σ.dead=false
 ·rw[if_pos h1]
  exact .inl ⟨σ,l,rfl,hd,hld,id,rfl,h.wt h1.1,rfl,h1.1,⟨ims,h,hC⟩,fun _ _=>rfl⟩
 ·rw[if_neg h1]
  rcases Eo h hd hld with ⟨σ',e,a1,a2,a3,a4,a5,a6⟩|⟨σ',e,a1,a2,a3,a4⟩
  ·rw[e]
   dsimp only
   rw[if_pos rfl]
   have hg:∀b,σ'.get (p.skip+b)=σ.get (p.skip+b):=fun b=>a5 _ (by omega)
   have hNb:p.blocks σ'=p.blocks σ:=by unfold Pg.blocks;rw[a3]
   refine .inl ⟨σ',_,rfl,a1,hld,a2,a3,a4,rfl,rfl,⟨ims,a6,fun k k1 k2 b hb=> ?_⟩,fun im b=> ?_⟩
   ·have k1:l.last<=k:=k1
    rw[hNb] at hb
    rw[hC k (by omega) k2 b hb]
    show (findAll _ b).getD (σ.get (p.skip+b))=(findAll _ b).getD (σ'.get (p.skip+b))
    rw[hg];rfl
   ·unfold Pg.look
    rw[hg]
  ·rw[e]
   dsimp only
   rw[if_neg (by omega)]
   have:=a4.CF hC hsy
   exact .inr ⟨σ',_,rfl,a1,a2,a3,this⟩
def FK (C:Nat->Nat->List UInt8)(n:Nat)(x:Nat->List UInt8):Nat->Nat->List UInt8:=fun k=>if k=n then x else C k
theorem vM {σ:Dk}{l:Lg}{p:Pg}{C:Nat->Nat->List UInt8}(h:mY σ l p C)(hd:σ.dead=false)(hld:l.dead=false)(hpd:p.dead=false){im:Im}(hi:im.Ok (p.blocks σ))(hla:l.last<1000000000000):
  (im.ks=[]/\p.commit σ l im=(σ,l,p,l.last,0))\/
  (im.ks≠[]/\p.rH im/\p.commit σ l im=(σ,l,p,0,13))\/
  (im.ks≠[]/\¬p.rH im/\((∃σ' l' p',p.commit σ l im=(σ',l',p',l.last+1,0)/\σ'.dead=false/\l'.dead=false/\p'.dead=false/\(σ.fuel= -1->σ'.fuel= -1)/\l'.last=l.last+1/\l.synced<=l'.synced/\p'.skip=p.skip/\p'.ring=p.ring/\σ'.n=σ.n/\
    mY σ' l' p' (FK C (l.last+1) (p.look im σ))/\∀b,b<p.blocks σ->p'.look Im.none σ' b=p.look im σ b)\/
   ∃σ' l' p',p.commit σ l im=(σ',l',p',0,10)/\σ'.dead=true/\σ.fuel≠-1/\p'.skip=p.skip/\σ'.n=σ.n/\EM σ' l' p.skip (p.blocks σ) C/\l.synced<=l'.synced/\l'.last=l.last)):=by
 by_cases hk:im.ks=[]
 ·refine .inl ⟨hk,?_⟩
  unfold Pg.commit
  rw[hpd,if_neg (by simp),if_pos hk]
 by_cases ho:p.rH im
 ·refine .inr (.inl ⟨hk,ho,?_⟩)
  unfold Pg.commit
  unfold Pg.rH at ho
  rw[hpd,if_neg (by simp),if_neg hk,if_pos ho]
 refine .inr (.inr ⟨hk,ho,?_⟩)
 have ho':¬(p.ring<dQ im.bF\/1024<im.ks.length):=ho
 have hk0:0<im.ks.length:=dx.2 hk
 have hbat:im.Oj (p.blocks σ):=⟨hi,hk0,by omega⟩
 obtain⟨ims,h,hC⟩:=h
 have hsy:=h.lok.sy;have hsyn:=h.uM;have hring:=h.pok.ring;have hus:=h.lok.us;have hn2:=h.lok.n2
 obtain⟨nd,hnd⟩:∃nd,dQ im.bF=nd:=⟨_,rfl⟩
 rw[hnd] at ho'
 obtain⟨N,hN⟩:∃N,N=p.blocks σ:=⟨_,rfl⟩
 rw[<-hN] at hC hbat ⊢
 have hready:(∃σ5 l5 p5 ims5,p.ready σ l nd=(σ5,l5,p5,0)/\σ5.dead=false/\l5.dead=false/\p5.dead=false/\(σ.fuel= -1->σ5.fuel= -1)/\σ5.n=σ.n/\p5.skip=p.skip/\p5.ring=p.ring/\l5.last=l.last/\l.synced<=l5.synced/\nd<=l5.room/\Rest σ5 l5 p5 ims5/\Ga l5 ims5 N (fun b=>σ5.get (p.skip+b)) C/\∀b,b<N->p5.look im σ5 b=p.look im σ b)\/
   (∃σ5 l5,p.ready σ l nd=(σ5,l5,p.dies,10)/\σ5.dead=true/\σ.fuel≠-1/\σ5.n=σ.n/\EM σ5 l5 p.skip N C/\l.synced<=l5.synced/\l5.last=l.last):=by
  unfold Pg.ready
  by_cases hrm:l.room<nd
  ·rw[if_pos hrm]
   rcases Ir h hd hld hpd with ⟨σ5,e,a1,a2,a3,a4,a5,a6⟩|⟨σ5,l5,e,a1,a2,a3,a4⟩
   ·rw[<-hN] at a6
    have hc:=FR (l:=l.all) ⟨h.lok.n2,h.lok.hi,h.lok.st,h.lok.us,h.lok.la,aC _,h.lok.ent,h.lok.sum⟩
    obtain⟨k1,k2,k3,k4,k5,k6,k7⟩:=hc
    have k2:(l.all.cut l.last).used=0:=k2
    have k4:(l.all.cut l.last).n=l.n:=k4
    have k5:(l.all.cut l.last).last=l.last:=k5
    have k6:(l.all.cut l.last).synced=l.last:=k6
    have k7:(l.all.cut l.last).dead=l.dead:=k7
    refine .inl ⟨σ5,_,_,[],e,a1,by rw[k7];exact hld,hpd,a2,a3,rfl,rfl,k5,by rw[k6];exact hsy,?_,a5,fun k q1 q2 b hb=> ?_,fun b hb=> ?_⟩
    ·unfold Lg.room
     rw[k2,k4];omega
    ·rw[k6] at q1
     rw[k5] at q2
     obtain rfl:k=l.last:=by omega
     rw[hC _ hsy (aC _) b hb,dF,aJ (aC _),<-a6 b hb]
     show σ5.get (p.skip+b)=oZ (List.take _ []) _ b
     rw[QZ];rfl
    ·unfold Pg.look
     congr 1
     show (Im.none.find b).getD _=_
     have e1:Im.none.find b=none:=rfl
     rw[e1]
     show σ5.get (p.skip+b)=_
     rw[a6 b hb,h.fresh b];rfl
   ·rw[<-hN] at a4
    exact .inr ⟨σ5,l5,e,a1,a2,a3,a4.CF hC hsy⟩
  ·rw[if_neg hrm]
   exact .inl ⟨σ,l,p,ims,rfl,hd,hld,hpd,id,rfl,rfl,rfl,rfl,aC _,by omega,h,hC,fun _ _=>rfl⟩
 rcases hready with ⟨σ5,l5,p5,ims5,e5,b1,b2,b3,b4,b5,b6,b7,b8,b9,b10,b11,b12,b13⟩|⟨σ5,l5,e5,b1,b2,b3,b4,b5,b6⟩
 ·have hN5:p5.blocks σ5=N:=by rw[hN];unfold Pg.blocks;rw[b5,b6]
  rcases K3 b11 b1 b2 (im:=im) (by rw[hN5];exact hbat) (by rw[hnd];exact b10) (by omega) with ⟨σ6,e6,c1,c2,c3,c4,c5⟩|⟨σ6,e6,c1,c2,c3,c4⟩
  ·left
   have hc:=Pg.sM hpd hk hnd (by omega) e5 e6
   rw[if_pos rfl] at hc
   rw[b8] at hc
   have hlk:∀b,({p5 with fresh:=p5.fresh.over im}:Pg).look Im.none σ6 b=p5.look im σ5 b:=fun b=>by
    rw[Pg.El]
    unfold Pg.look
    rw[c4]
   refine⟨σ6,_,_,hc,c1,b2,b3,fun hf=>c2 (b4 hf),?_,b9,b6,b7,c3.trans b5,⟨_,c5,fun k q1 q2 b hb=> ?_⟩,fun b hb=>by rw[hlk,b13 b hb]⟩
   ·show l5.last+1=_
    rw[b8]
   ·have hNb:({p5 with fresh:=p5.fresh.over im}:Pg).blocks σ6=N:=by rw[<-hN5];unfold Pg.blocks;rw[c3]
    rw[hNb] at hb
    have q1:l5.synced<=k:=q1
    have q2:k<=l5.last+1:=q2
    have hsyn5:=b11.uM
    have hlast:(l5.more im.bF).last=l5.last+1:=rfl
    rw[hlast]
    unfold FK
    by_cases hkl:k=l.last+1
    ·rw[if_pos hkl]
     have e1:k+(ims5++[im]).length - (l5.last+1)=(ims5++[im]).length:=by omega
     rw[e1,aJ (aC _),<-b13 b hb]
     unfold oZ Pg.look
     rw[zh,<-b11.fresh b]
     show _=((im.find b).or (p5.fresh.find b)).getD (σ6.get (p5.skip+b))
     rw[c4]
     cases im.find b<;>rfl
    ·rw[if_neg hkl,b12 k q1 (by omega) b hb]
     have e1:k+(ims5++[im]).length - (l5.last+1)=k+ims5.length - l5.last:=by rw[ay,dM];omega
     rw[e1,bK (by omega)]
     unfold oZ
     show _=(findAll _ b).getD (σ6.get (p5.skip+b))
     rw[c4,b6]
  ·right
   have hc:=Pg.sM hpd hk hnd (by omega) e5 e6
   rw[if_neg (by omega)] at hc
   refine⟨σ6,_,_,hc,c1,fun hf=>c2 (b4 hf),b6,c3.trans b5,fun s hs=> ?_,b9,b8⟩
   have q:=c4 s hs
   rw[hN5,b6] at q
   exact⟨l5.synced,aC _,b11.lok.sy,q.CF b12 (aC _) b11.lok.sy⟩
 ·right
  refine⟨σ5,l5,p.dies,?_,b1,b2,rfl,b3,b4,b5,b6⟩
  unfold Pg.commit
  rw[hpd,if_neg (by simp),if_neg hk,hnd,if_neg (by omega),e5]
  dsimp only
  rw[if_neg (by omega)]
end Go.Proofs.YtogbkgmlhhahdaaGreat
