/- parts -/
import Derived.Test.YtpmbddooibgnaaaGreatDoorS9
set_option maxRecDepth 100000
set_option maxHeartbeats 8000000
set_option linter.all false
namespace Go.Proofs.YtpmbddooibgnaaaGreatDoor
open Go.RowKit
theorem Qd (lg d:Nat)(l:Lg)(S:Nat->Prop)(ao:Option Addr)(n cp:Nat)(dn:Bool)(c:Int)(w:World)(h:oL w S lg d l (.slice ao n cp) dn c):
  Calls Tryz.prog 235 #[.pointer (some ⟨lg,0,none⟩)] w fun e w'=>∃g,e= .returned (.pointer (some ⟨g,0,none⟩))/\w.heap.size<=g/\Row w' g 389 [.int .i64 l.start,.int .i64 l.used,.slice ao n cp]/\Below w.heap.size w w':=by
 obtain⟨_,_,_,c3,c4,c5,_,_,_,hlt,_⟩:=h.cells
 have c3':w.drew.cell? ⟨lg,3,none⟩=some (.int .i64 l.start):=c3
 have c4':w.drew.cell? ⟨lg,4,none⟩=some (.int .i64 l.used):=c4
 have c5':w.drew.cell? ⟨lg,5,none⟩=some (.slice ao n cp):=c5
 clear h
 go_enter Tryz.func235,Tryz.ntmps235
 go_wp2_with fail
 refine aK (fun W=>Below w.heap.size w W) (fun i=> !([13].contains i)) [0,1,2,3,4,5,6,7,8,9,10,11,12,13,14] rfl (by kernel_rfl) ((aH _ w).drew) ?_
 repeat ((refine bq (v:= ?_) rfl rfl (fun _ _ _ h=>h) rfl (fun W hW=> ?_) ?_);rotate_left;(focus ((try dsimp only at hW);have r3:=(hW.cell (p:=⟨lg,3,none⟩) hlt).trans c3;have r4:=(hW.cell (p:=⟨lg,4,none⟩) hlt).trans c4;have r5:=(hW.cell (p:=⟨lg,5,none⟩) hlt).trans c5;have r0:=ax hlt hW.size;(go_simp;first|done|with_reducible rfl)));(try simp only[Act.put,aj,av,au]))
 refine bP rfl rfl rfl ?_;intro K hK;go_simp
 refine hK.out _ _ ((aC w _).drew) ?_
 repeat ((refine bq (v:= ?_) rfl rfl (fun _ _ _ h=>h) rfl (fun W hW=> ?_) ?_);rotate_left;(focus ((try dsimp only at hW);(go_simp;first|done|with_reducible rfl)));(try simp only[Act.put,aj,av,au]))
 refine bF ?_
 go_wp2_with fail
 go_ret
 exact⟨_,rfl,aA _,Row.new w _ _,(aC w _).drew⟩
theorem uK (upto:Nat):∀(es:List (Nat×Nat)) (m s u:Nat),(∀e∈es,e.1<=upto)->(Lg.oV upto es m s u).1=[]/\(Lg.oV upto es m s u).2.2=u - (es.map (·.2)).sum/\(0<m->s<m->(Lg.oV upto es m s u).2.1<m)
 |[],m,s,u,_=>⟨rfl,by simp[Lg.oV],fun _ h=>h⟩
 |e::es,m,s,u,h=>by
  have he:=h e (aP ..)
  have ih:=uK upto es m ((s+e.2)%m) (u - e.2) (fun x hx=>h x (aT _ hx))
  unfold Lg.oV
  rw[if_pos he]
  refine⟨ih.1,?_,fun hm _=>ih.2.2 hm (nL _ hm)⟩
  rw[ih.2.1,dO,jQ]
  omega
theorem Lg.Ok.cut {l:Lg}(h:l.Ok):(l.cut l.last).Ok:=by
 have hs:=uK l.last l.list (l.n - 1) l.start l.used (fun e he=>(h.ent e he).2)
 have h1:=h.n2
 have h2:=h.st
 refine⟨h.n2,h.hi,hs.2.2 (by omega) h2,?_,h.la,h.sy,?_,?_⟩
 ·show (Lg.oV l.last l.list (l.n - 1) l.start l.used).2.2<=l.n - 1
  rw[hs.2.1,h.sum];omega
 ·intro e he
  have:(l.cut l.last).list=[]:=hs.1
  rw[this] at he
  cases he
 ·show ((Lg.oV l.last l.list (l.n - 1) l.start l.used).1.map (fun e:Nat×Nat=>e.2)).sum=(Lg.oV l.last l.list (l.n - 1) l.start l.used).2.2
  rw[hs.1,hs.2.1,h.sum]
  simp
def zo (w:World)(g j:Nat):Nat:=match w.cell? ⟨g,j,none⟩ with|some (.slice _ n _)=>n|_=>0
def Lg.at_ (l:Lg)(j s u:Nat):Lg:={l with list:=l.list.drop j,start:=s,used:=u}
theorem RS (lg d:Nat)(σ:Dk)(l:Lg)(Sd Sl:Nat->Prop)(w:World)(h:iy w Sd Sl lg d σ l)(hd:l.dead=false)(hsy:l.synced=l.last)(hcap:σ.waits.length<=100000):
  Calls Tryz.prog 155 #[.pointer (some ⟨lg,0,none⟩),.int .i64 l.last] w fun e w'=>e= .returned (.int .i64 (l.trim σ l.last).2.2)/\∃Sd' Sl',iy w' Sd' Sl' lg d (l.trim σ l.last).1 (l.trim σ l.last).2.1/\Two Sd Sl Sd' Sl' w w':=by
 obtain⟨lv,dn,c,hL⟩:=h.lg
 have hok:=hL.ok
 obtain⟨c0,c1,c2,c3,c4,c5,c6,c7,c8,hlt,hfz⟩:=hL.cells
 rw[hsy] at c7
 rw[hd] at c8
 obtain⟨la,lcp,rfl,y1,y2,y3,y4⟩:=aW.form ((hL.lst hd).dL (S:=d9) (fun _ _ e=>e))
 have HSh:=af (Qd lg d l Sl la l.list.length lcp dn c w hL)
 have hla:=hok.la
 have t0:¬((l.last:Int)<0):=by omega
 have t1:decide ((l.last:Int)<0)=false:=bH t0
 have t2:decide ((l.last:Int)<(l.last:Int))=false:=bH (by omega)
 have HH:=af h;have HL:=af hL;have HD:=af hd;have HSY:=af hsy
 clear h hL hd hsy c0 c1 c2 c3 c4 c5 c6
 go_enter Tryz.func155,Tryz.ntmps155
 go_wp2_with (first
  |(go_at_call 235;go_must (refine HSh.out.mono ?_;rintro e w1 ⟨g1,rfl,hg1,hr1,hb1⟩;refine Stop.of ?_)))
 refine Stop.on ?_
 have hL1:=HL.out.keep (Keep.of_below hb1 d9) (fun _ _ e=>e)
 obtain⟨_,_,d2,d3,d4,d5,_,_,_,hlt1,_⟩:=hL1.cells
 have hgn:g1≠lg:=fun e=>by omega
 have hr1c0:=hr1.cell 0;have hr1c1:=hr1.cell 1;have hr1c2:=hr1.cell 2
 have hg1l:=hr1.lt
 go_wp2_with fail
 obtain⟨w2,HW2⟩:∃w2:World,Hid ((w1.alloc (.cells #[.int .i64 l.start,.int .i64 l.used,.slice la l.list.length lcp] 389))=w2):=⟨_,af rfl⟩
 have hb12:Below w1.heap.size w1 w2:=by rw[<-HW2.out];exact aC w1 _
 have hrx:Row w2 w1.heap.size 389 [.int .i64 l.start,.int .i64 l.used,.slice la l.list.length lcp]:=by rw[<-HW2.out];exact Row.new w1 _ _
 obtain⟨x,HX⟩:∃x,Hid (w1.heap.size=x):=⟨_,af rfl⟩
 rw[HX.out] at hrx
 rw[HW2.out,HX.out]
 have hb2:=hb1.trans (hb12.mono hb1.size)
 have hL2:=HL.out.keep (Keep.of_below hb2 d9) (fun _ _ e=>e)
 have hxS:w.heap.size<=x:=by rw[<-HX.out];exact hb1.size
 have hn0:=hok.n2;have hst:=hok.st;have hus:=hok.us;have hhi:=hok.hi
 have HB2:=af hb2;have HRX:=af hrx
 have hlen:=l.list.length
 clear hb1 hb12 hb2 hrx hr1 hr1c0 hr1c1 hr1c2 hg1l hL1 d2 d3 d4 d5 hlt1 hgn hg1 y1 y2 y3 y4 hlt hfz c7 c8
 go_loopw [46] (fun _ wr=>∃(j n s u cp:Nat) (ao:Option Addr),n+j=l.list.length/\Hid (oL wr Sl lg d (l.at_ j s u) (.slice ao n cp) dn c)/\Hid (Lg.oV l.last l.list (l.n - 1) l.start l.used=Lg.oV l.last (l.list.drop j) (l.n - 1) s u)/\Hid (Keep (· =lg) w2 wr)) (fun _ wr=>zo wr lg 5)
 case atStart=>exact⟨0,l.list.length,l.start,l.used,lcp,la,rfl,af hL2,af rfl,af (Keep.refl _ _)⟩
 case round=>
  obtain⟨j,n,s,u,cp,ao,hnj,HLj,HSh,HK⟩:=hrel
  obtain⟨_,_,e2,e3,e4,e5,_,_,_,hlt,hfz⟩:=HLj.out.cells
  have hdj:(l.at_ j s u).dead=false:=HD.out
  have hsl:=(HLj.out.lst hdj).dL (S:=d9) (fun _ _ e=>e)
  have hlj:(l.at_ j s u).list.length=n:=by show (l.list.drop j).length=n;rw[bB];omega
  rw[hlj] at hsl
  have hokj:=HLj.out.ok
  have hsj:s<l.n - 1:=hokj.st
  have huj:u<=l.n - 1:=hokj.us
  rcases Nat.eq_zero_or_pos n with hn|hn
  ·subst hn
   obtain rfl:j=l.list.length:=by omega
   have hcut:l.at_ l.list.length s u=l.cut l.last:=by
    unfold Lg.cut
    rw[HSh.out]
    rw[iB]
    show _=({l with list:=(Lg.oV l.last [] (l.n - 1) s u).1,start:=(Lg.oV l.last [] (l.n - 1) s u).2.1,used:=(Lg.oV l.last [] (l.n - 1) s u).2.2}:Lg)
    unfold Lg.at_ Lg.oV
    rw[iB]
   have hbS:∀g,(Sd g\/Sl g)->g<w.heap.size:=fun g hg=>hg.elim (HH.out.dk.sub g) (HH.out.lg.sub g)
   have hkw:Keep (· =lg) w wr:=(Keep.of_below HB2.out (fun y=>y=lg)).trans HK.out (fun _ _ e=>e)
   have hlgS:Sl lg:=HLj.out.sl
   have hAr:iy wr Sd Sl lg d σ (l.cut l.last):=⟨HH.out.dk.keep hkw (fun g hg e=>HH.out.dis g hg (e▸hlgS)),by rw[<-hcut];exact⟨_,_,_,HLj.out⟩,HH.out.dis,HH.out.fit⟩
   have hTr:Two Sd Sl Sd Sl w wr:=⟨hkw.mono (fun _ _ e=>e▸.inr hlgS),fun _ hg=> .inl hg⟩
   have hxr:Row wr x 389 [.int .i64 l.start,.int .i64 l.used,.slice la l.list.length lcp]:=HRX.out.keep HK.out (fun e=>by have:=HLj.out.sub lg hlgS;have:=HL.out.sub lg hlgS;omega)
   have hnn:¬(0:Int)<0:=by omega
   have HM:=af (KL lg d σ (l.cut l.last) Sd Sl wr hAr HD.out hcap)
   have hmc:=(l.cut l.last).zm σ
   have HTrim:=af (show l.trim σ l.last=if ((l.cut l.last).mark σ).2.2=0 then(l.cut l.last).mark σ else(((l.cut l.last).mark σ).1,l.dies,10) by
    unfold Lg.trim
    rw[HD.out,HSY.out]
    simp)
   obtain⟨κ,k,q,HKq⟩:∃κ k q,Hid ((l.cut l.last).mark σ=(κ,k,q)):=⟨_,_,_,af rfl⟩
   rw[HKq.out] at HM hmc HTrim
   have HMC:=af hmc
   have HTR:=af hTr;have HXR:=af hxr
   clear hmc hcut hkw hAr hTr hxr hsl e2 e3 e4
   go_wp2_with (first
    |(go_at_call 152;go_must (refine HM.out.mono ?_;rintro e w3 ⟨rfl,Sd3,Sl3,hA3,hT3⟩;refine Stop.of ?_)))
   refine Stop.on ?_
   have HA3:=af hA3;have HT3:=af (HTR.out.trans hT3)
   have hxS3:¬(Sd x\/Sl x):=fun e=>by have:=hbS x e;omega
   have hx3:=HXR.out.keep hT3.1 hxS3
   clear hA3 hT3
   rcases HMC.out with ⟨h1,h2⟩|⟨h1,h2⟩
   ·have hq:q=0:=h1
    subst hq
    have HE:=af (show l.trim σ l.last=(κ,k,0) by rw[HTrim.out];rfl)
    clear h1 h2 hx3
    go_wp2_with fail
    go_ret
    rw[HE.out]
    exact⟨rfl,Sd3,Sl3,HA3.out,HT3.out⟩
   ·have hq:q=10:=h1
    have hk:k=(l.cut l.last).dies:=h2
    subst hq;subst hk
    clear h1 h2
    have x0:=hx3.cell 0;have x1:=hx3.cell 1;have x2:=hx3.cell 2
    have hxl:=hx3.lt
    obtain⟨lv3,dn3,c3,hL3⟩:=HA3.out.lg
    obtain⟨_,_,_,m3,m4,m5,_,_,_,hlt3,hfz3⟩:=hL3.cells
    have z3:=hfz3 3;have z4:=hfz3 4;have z5:=hfz3 5
    have hr3:=hL3.row
    have HE:=af (show l.trim σ l.last=(κ,l.dies,10) by rw[HTrim.out];rfl)
    have hxlg:x≠lg:=fun e=>hxS3 (e▸.inr hlgS)
    have HX3:=af hx3;have HR3:=af hr3;have HLL3:=af hL3
    clear hx3 hr3 hL3
    have hcx:∀(W:World),Keep (· =lg) w3 W->W.cell? ⟨x,0,none⟩=some (.int .i64 l.start)/\W.cell? ⟨x,1,none⟩=some (.int .i64 l.used)/\W.cell? ⟨x,2,none⟩=some (.slice la l.list.length lcp)/\x<W.heap.size/\lg<W.heap.size:=fun W hW=>
     ⟨(hW.cell (p:=⟨x,0,none⟩) hxl hxlg).trans x0,(hW.cell (p:=⟨x,1,none⟩) hxl hxlg).trans x1,(hW.cell (p:=⟨x,2,none⟩) hxl hxlg).trans x2,ax hxl hW.size,ax hlt3 hW.size⟩
    have HCX:=af hcx;clear hcx
    have k1:=((Keep.refl (· =lg) w3).setCell (p:=⟨lg,3,none⟩) (.inr rfl) (.int .i64 l.start)).drew
    have r1:=HR3.out.setCell 3 (.int .i64 l.start)
    have m4':((w3.setCell ⟨lg,3,none⟩ (.int .i64 l.start)).drew).cell? ⟨lg,4,none⟩=some (.int .i64 (l.cut l.last).dies.used):=r1.cell 4
    have z4':((w3.setCell ⟨lg,3,none⟩ (.int .i64 l.start)).drew).frozen? ⟨lg,4,none⟩=false:=r1.frozen 4
    have k2:=(((Keep.refl (· =lg) w3).setCell (p:=⟨lg,3,none⟩) (.inr rfl) (.int .i64 l.start)).setCell (p:=⟨lg,4,none⟩) (.inr rfl) (.int .i64 l.used)).drew
    have m5':(((w3.setCell ⟨lg,3,none⟩ (.int .i64 l.start)).setCell ⟨lg,4,none⟩ (.int .i64 l.used)).drew).cell? ⟨lg,5,none⟩=some lv3:=(r1.setCell 4 (.int .i64 l.used)).cell 5
    have z5':(((w3.setCell ⟨lg,3,none⟩ (.int .i64 l.start)).setCell ⟨lg,4,none⟩ (.int .i64 l.used)).drew).frozen? ⟨lg,5,none⟩=false:=(r1.setCell 4 (.int .i64 l.used)).frozen 5
    have r2:=r1.setCell 4 (.int .i64 l.used)
    have HK1:=af k1;have HK2:=af k2;have HR2:=af r2
    clear k1 k2 r1 r2 x0 x1 x2
    go_wp2_with fail
    refine aK (fun W=>W.cell? ⟨x,0,none⟩=some (.int .i64 l.start)/\W.cell? ⟨x,1,none⟩=some (.int .i64 l.used)/\W.cell? ⟨x,2,none⟩=some (.slice la l.list.length lcp)/\x<W.heap.size/\lg<W.heap.size) (fun i=> !([11,14,17].contains i)) [0,1,2,3,4,5,6,7,8,9,10,11,12,13,14,15,16,17] rfl (by kernel_rfl) (HCX.out _ ((Keep.refl _ _).drew)) ?_
    repeat ((refine bq (v:= ?_) rfl rfl (fun _ _ _ h=>h) rfl (fun W hW=> ?_) ?_);rotate_left;(focus ((try dsimp only at hW);have r0:=hW.1;have r1:=hW.2.1;have r2:=hW.2.2.1;have r3:=hW.2.2.2.1;have r4:=hW.2.2.2.2;(go_simp;first|done|with_reducible rfl)));(try simp only[Act.put,aj,av,au]))
    refine bP rfl rfl rfl ?_;intro K hK;go_simp
    refine hK.out _ _ (HCX.out _ HK1.out) ?_
    repeat ((refine bq (v:= ?_) rfl rfl (fun _ _ _ h=>h) rfl (fun W hW=> ?_) ?_);rotate_left;(focus ((try dsimp only at hW);have r0:=hW.1;have r1:=hW.2.1;have r2:=hW.2.2.1;have r3:=hW.2.2.2.1;have r4:=hW.2.2.2.2;(go_simp;first|done|with_reducible rfl)));(try simp only[Act.put,aj,av,au]))
    refine bP rfl rfl rfl ?_;intro K hK;go_simp
    refine hK.out _ _ (HCX.out _ HK2.out) ?_
    repeat ((refine bq (v:= ?_) rfl rfl (fun _ _ _ h=>h) rfl (fun W hW=> ?_) ?_);rotate_left;(focus ((try dsimp only at hW);have r0:=hW.1;have r1:=hW.2.1;have r2:=hW.2.2.1;have r3:=hW.2.2.2.1;have r4:=hW.2.2.2.2;(go_simp;first|done|with_reducible rfl)));(try simp only[Act.put,aj,av,au]))
    refine jm rfl rfl rfl (by kernel_rfl) ?_;intro K hK;go_simp
    refine hK.out _ _ ?_
    refine bF ?_
    go_wp2_with fail
    go_ret
    rw[HE.out]
    refine⟨rfl,?_⟩
    obtain⟨w9,Hw9⟩:∃w9:World,Hid ((((w3.setCell ⟨lg,3,none⟩ (.int .i64 l.start)).setCell ⟨lg,4,none⟩ (.int .i64 l.used)).setCell ⟨lg,5,none⟩ (.slice la l.list.length lcp)).drew=w9):=⟨_,af rfl⟩
    have hr9:Row w9 lg 288 (iC (iY d l.dies (.slice la l.list.length lcp)) dn3 c3 []):=by rw[<-Hw9.out];exact HR2.out.setCell 5 _
    have hk9:Keep (· =lg) w3 w9:=by rw[<-Hw9.out];exact((((Keep.refl (· =lg) w3).setCell (p:=⟨lg,3,none⟩) (.inr rfl) _).setCell (p:=⟨lg,4,none⟩) (.inr rfl) _).setCell (p:=⟨lg,5,none⟩) (.inr rfl) _).drew
    rw[Hw9.out]
    have hL9:qd w9 Sl3 lg d l.dies:=⟨_,dn3,c3,hok.dies,fun g hg=>ax (HLL3.out.sub g hg) hk9.size,HLL3.out.sl,hr9,(fun e=>by cases e),(fun e=>by cases e)⟩
    have hA9:=HA3.out.log hL9 ⟨hk9.mono (fun _ _ e=>e▸HLL3.out.sl),fun _ hg=> .inl hg⟩ ⟨rfl,rfl⟩
    exact⟨Sd3,Sl3,hA9.1,HT3.out.trans hA9.2⟩
  ·have hj:j<l.list.length:=by omega
   obtain⟨b,o,rfl,hbl,hcl⟩:=hsl.nth hn (by omega)
   obtain⟨e,HE⟩:∃e,Hid (l.list[j]=e):=⟨_,af rfl⟩
   have hdrop:l.list.drop j=e::l.list.drop (j+1):=by rw[dA hj,HE.out]
   have hc0:wr.cell? ⟨b,o,none⟩=some (.int .i64 (e.1:Int)):=by
    have:=hcl 0 (.int .i64 (e.1:Int)) (by show (jG (l.list.drop j))[0]? =_;rw[hdrop];rfl)
    rwa [jw] at this
   have hc1:wr.cell? ⟨b,o+1,none⟩=some (.int .i64 (e.2:Int)):=hcl 1 (.int .i64 (e.2:Int)) (by show (jG (l.list.drop j))[1]? =_;rw[hdrop];rfl)
   have hee:=hokj.ent e (by show e∈l.list.drop j;rw[hdrop];exact aP ..)
   have he1:e.1<=l.last:=hee.2
   have hsum:e.2<=u:=by
    have:(l.list.drop j|>.map (·.2)).sum=u:=hokj.sum
    rw[hdrop,dO,jQ] at this
    omega
   have hbn:b≠lg:=(HLj.out.slv hdj b rfl).2
   obtain⟨m,HM⟩:∃m,Hid (l.n - 1=m):=⟨_,af rfl⟩
   have hm1:s<m:=by rw[<-HM.out];exact hsj
   have hm2:u<=m:=by rw[<-HM.out];exact huj
   have hm3:m<=4096:=by rw[<-HM.out];omega
   obtain⟨z,HZ⟩:∃z,Hid ((s+e.2)%m=z):=⟨_,af rfl⟩
   obtain⟨y,HY⟩:∃y,Hid (s+e.2=y):=⟨_,af rfl⟩
   obtain⟨v,HV⟩:∃v,Hid (u - e.2=v):=⟨_,af rfl⟩
   have q1:IntKind.i64.wrap ((s:Int)+(e.2:Int))=(y:Int):=by rw[aS _ (by omega),<-HY.out];omega
   have q2:IntKind.i64.wrap ((l.n:Int) - 1)=(m:Int):=by rw[aS _ (by omega),<-HM.out];omega
   have q3:(y:Int)%(m:Int)=(z:Int):=by rw[<-HZ.out,<-HY.out];exact(Int.natCast_emod _ _).symm
   have q3':(y:Int).tmod (m:Int)=(z:Int):=by rw[xV (by omega)];exact q3
   have q4:¬m=0:=by omega
   have q5:IntKind.i64.wrap ((u:Int) - (e.2:Int))=(v:Int):=by rw[aS _ (by omega),<-HV.out];omega
   have p0:(0:Int)<(n:Int):=by omega
   have p1:decide ((e.1:Int)<=(l.last:Int))=true:=eT (by omega)
   have p2:(e.1:Int)<=(l.last:Int):=by omega
   have e2':wr.cell? ⟨lg,2,none⟩=some (.int .i64 l.n):=e2
   have e3':wr.cell? ⟨lg,3,none⟩=some (.int .i64 s):=e3
   have e4':wr.cell? ⟨lg,4,none⟩=some (.int .i64 u):=e4
   clear e2 e3 e4 hee hcl hsl hdrop
   go_wp2_with fail
   have z3:=hfz 3;have z4:=hfz 4;have z5:=hfz 5
   have e5':wr.drew.cell? ⟨lg,5,none⟩=some (.slice (some ⟨b,o,none⟩) n cp):=e5
   refine aK (fun W=>W=wr.drew) (fun i=> !([21].contains i)) [0,1,2,3,4,5,6,7,8,9,10,11,12,13,14,15,16,17,18,19,20,21] rfl (by kernel_rfl) rfl ?_
   repeat ((refine bq (v:= ?_) rfl rfl (fun _ _ _ h=>h) rfl (fun W hW=> ?_) ?_);rotate_left;(focus ((try dsimp only at hW);subst hW;(go_simp;first|done|with_reducible rfl)));(try simp only[Act.put,aj,av,au]))
   refine jm rfl rfl rfl (by kernel_rfl) ?_;intro K hK;go_simp
   refine hK.out _ _ ?_
   refine bF ?_
   obtain⟨w9,Hw9⟩:∃w9:World,Hid ((wr.setCell ⟨lg,3,none⟩ (.int .i64 z)).drew=w9):=⟨_,af rfl⟩
   have hr9:Row w9 lg 288 ((iC (iY d (l.at_ j s u) (.slice (some ⟨b,o,none⟩) n cp)) dn c []).set 3 (.int .i64 z)):=by rw[<-Hw9.out];exact HLj.out.row.setCell 3 _
   have hk9:Keep (· =lg) wr w9:=by rw[<-Hw9.out];exact((Keep.refl (· =lg) wr).setCell (p:=⟨lg,3,none⟩) (.inr rfl) _).drew
   rw[Hw9.out]
   have hc09:w9.cell? ⟨b,o,none⟩=some (.int .i64 (e.1:Int)):=(hk9.cell (p:=⟨b,o,none⟩) hbl hbn).trans hc0
   have hc19:w9.cell? ⟨b,o+1,none⟩=some (.int .i64 (e.2:Int)):=(hk9.cell (p:=⟨b,o+1,none⟩) hbl hbn).trans hc1
   have hbl9:=ax hbl hk9.size
   have f4:w9.drew.cell? ⟨lg,4,none⟩=some (.int .i64 u):=hr9.cell 4
   have f5:w9.drew.cell? ⟨lg,5,none⟩=some (.slice (some ⟨b,o,none⟩) n cp):=hr9.cell 5
   have fz4:w9.frozen? ⟨lg,4,none⟩=false:=hr9.frozen 4
   have hlt9:=hr9.lt
   clear e2' e3' e4' e5 e5' hc0 hc1 hbl z3 z4 z5 hlt q1 q2 q3 q3' q4
   go_wp2_with fail
   refine aK (fun W=>W=w9.drew) (fun i=> !([14].contains i)) [0,1,2,3,4,5,6,7,8,9,10,11,12,13,14] rfl (by kernel_rfl) rfl ?_
   repeat ((refine bq (v:= ?_) rfl rfl (fun _ _ _ h=>h) rfl (fun W hW=> ?_) ?_);rotate_left;(focus ((try dsimp only at hW);subst hW;(go_simp;first|done|with_reducible rfl)));(try simp only[Act.put,aj,av,au]))
   refine jm rfl rfl rfl (by kernel_rfl) ?_;intro K hK;go_simp
   refine hK.out _ _ ?_
   refine bF ?_
   obtain⟨w10,Hw10⟩:∃w10:World,Hid ((w9.setCell ⟨lg,4,none⟩ (.int .i64 v)).drew=w10):=⟨_,af rfl⟩
   have hr10:Row w10 lg 288 (((iC (iY d (l.at_ j s u) (.slice (some ⟨b,o,none⟩) n cp)) dn c []).set 3 (.int .i64 z)).set 4 (.int .i64 v)):=by rw[<-Hw10.out];exact hr9.setCell 4 _
   have hk10:Keep (· =lg) w9 w10:=by rw[<-Hw10.out];exact((Keep.refl (· =lg) w9).setCell (p:=⟨lg,4,none⟩) (.inr rfl) _).drew
   rw[Hw10.out]
   have g5:w10.cell? ⟨lg,5,none⟩=some (.slice (some ⟨b,o,none⟩) n cp):=hr10.cell 5
   have gz5:w10.frozen? ⟨lg,5,none⟩=false:=hr10.frozen 5
   have hlt10:=hr10.lt
   have hle1:(1:Int)<=(n:Int):=by omega
   have hnc:n<=cp:=by
    obtain⟨_,_,hv,h1,_⟩:=(HLj.out.lst hdj).dL (S:=d9) (fun _ _ e=>e)
    cases hv;rw[hlj] at h1;exact h1
   have hle2:(n:Int)<=(cp:Int):=by omega
   clear f4 f5 fz4 hc09 hc19 hlt9 hbl9
   have HR10:=af hr10;have HK10:=af (hk9.trans hk10 (fun _ _ e=>e));clear hr10 hr9 hk9 hk10
   go_wp2_with fail
   have hown':∀g,(Value.slice (if cp=1 then some (⟨b,o,none⟩:Addr) else some ⟨b,o+2,none⟩) (n - 1) (cp - 1)).ownBlock=some g->g=b:=fun g hg=>by
    split at hg<;>cases hg<;>rfl
   have hoff:kY wr 296 2 (.slice (if cp=1 then some (⟨b,o,none⟩:Addr) else some ⟨b,o+2,none⟩) (n - 1) (cp - 1)) (n - 1) (jG (l.list.drop (j+1))):=by
    have h0:=HLj.out.lst hdj
    rw[hlj] at h0
    have h1:=h0.after 1 (by omega)
    have e1:(jG (l.at_ j s u).list).drop (1*2)=jG (l.list.drop (j+1)):=by
     show (jG (l.list.drop j)).drop (1*2)=_
     rw[dA hj]
     rfl
    rw[e1] at h1
    simpa [ig] using h1
   have HOF:=af hoff
   have HOW:=af hown'
   clear hoff hown' g5 gz5
   generalize (if cp=1 then some (⟨b,o,none⟩:Addr) else some ⟨b,o+2,none⟩)=ao' at*
   obtain⟨w11,Hw11⟩:∃w11:World,Hid (w10.setCell ⟨lg,5,none⟩ (.slice ao' (n - 1) (cp - 1))=w11):=⟨_,af rfl⟩
   have hr11:Row w11 lg 288 (iC (iY d (l.at_ (j+1) z v) (.slice ao' (n - 1) (cp - 1))) dn c []):=by rw[<-Hw11.out];exact HR10.out.setCell 5 _
   have hk11:Keep (· =lg) w10 w11:=by rw[<-Hw11.out];exact(Keep.refl (· =lg) w10).setCell (p:=⟨lg,5,none⟩) (.inr rfl) _
   have hkr:Keep (· =lg) wr w11:=HK10.out.trans hk11 (fun _ _ e=>e)
   have hdr2:l.list.drop j=e::l.list.drop (j+1):=by rw[dA hj,HE.out]
   have hok11:(l.at_ (j+1) z v).Ok:=by
    refine⟨hokj.n2,hokj.hi,?_,?_,hokj.la,hokj.sy,fun e' he'=> ?_,?_⟩
    ·show z<l.n - 1
     rw[<-HZ.out,HM.out];exact nL _ (by omega)
    ·show v<=l.n - 1
     have:=HV.out;omega
    ·exact hokj.ent e' (by show e'∈l.list.drop j;rw[hdr2];exact aT _ he')
    ·have h1:((l.list.drop j).map (fun e:Nat×Nat=>e.2)).sum=u:=hokj.sum
     rw[hdr2,dO,jQ] at h1
     show ((l.list.drop (j+1)).map (fun e:Nat×Nat=>e.2)).sum=v
     have:=HV.out;omega
   have hL11:oL w11 Sl lg d (l.at_ (j+1) z v) (.slice ao' (n - 1) (cp - 1)) dn c:=by
    refine⟨hok11,fun g hg=>ax (HLj.out.sub g hg) hkr.size,HLj.out.sl,hr11,fun _=> ?_,fun _ g hg=> ?_⟩
    ·have e1:(l.at_ (j+1) z v).list.length=n - 1:=by show (l.list.drop (j+1)).length=n - 1;rw[bB];omega
     rw[e1]
     exact HOF.out.keep fun g hg=>hkr.block g (HOF.out.lt hg) (by rw[HOW.out g hg];exact hbn)
    ·rw[HOW.out g hg]
     exact HLj.out.slv hdj b rfl
   have HL11:=af hL11
   have hm0:zo w11 lg 5=n - 1:=by unfold zo;rw[show w11.cell? ⟨lg,5,none⟩=some (.slice ao' (n - 1) (cp - 1)) from hr11.cell 5]
   have hm1':zo wr lg 5=n:=by unfold zo;rw[show wr.cell? ⟨lg,5,none⟩=some (.slice (some ⟨b,o,none⟩) n cp) from HLj.out.row.cell 5]
   have hlt':zo w11 lg 5<zo wr lg 5:=by omega
   have hshd:Lg.oV l.last l.list (l.n - 1) l.start l.used=Lg.oV l.last (l.list.drop (j+1)) (l.n - 1) z v:=by
    rw[HSh.out,hdr2]
    show (if e.1<=l.last then _ else _)=_
    rw[if_pos he1,HM.out,HZ.out,HV.out]
   have HSHD:=af hshd;have HKK:=af (HK.out.trans hkr (fun _ _ e=>e));have HLT:=af hlt'
   clear hr11 hk11 hkr hdr2 hok11 hL11 hm0 hm1' hlt' hshd
   rw[Hw11.out]
   go_roundw
   case rel=>exact⟨j+1,n - 1,z,v,cp - 1,ao',by omega,HL11,HSHD,HKK⟩
   case measure=>exact HLT.out
end Go.Proofs.YtpmbddooibgnaaaGreatDoor
