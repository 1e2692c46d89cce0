/- parts -/
import Derived.Test.YtogbkgmlhhahdaaGreatQ1
import Derived.Test.YtogbkgmlhhahdaaGreatQ3
import Derived.Test.YtogbkgmlhhahdaaGreatQ12
import Derived.Test.YtogbkgmlhhahdaaGreatQ13
import Derived.Lib.Overlaps
set_option maxRecDepth 100000
set_option maxHeartbeats 8000000
set_option linter.all false
namespace Go.Proofs.YtogbkgmlhhahdaaGreat
open Go.RowKit
theorem l7 {σ:Dk}(h1:σ.dead=false)(h2:σ.fuel= -1):σ.fF.dead=false/\σ.fF.fuel= -1:=by rw[Dk.nX.fF ⟨h1,h2⟩];exact⟨h1,h2⟩
theorem Ph.Rq {l:Lg}{mk mk':List UInt8}{ims:List Im}{m L N:Nat}{H:Nat->List UInt8}{s:Nat->List UInt8}(h:Ph l mk ims m L N H s)(hok:l.Ok)(hf:l.frm=0)(hL:l.n=L):Ph l mk' ims m L N H (sG s 0 (pad mk')):=by
 have h2:=hok.n2
 refine⟨by unfold sG;rw[if_pos rfl],h.on.set fun j _=> ?_,fun b hb=> ?_⟩
 ·have:=uS l (l.start+j) h2 hf
  omega
 ·unfold sG
  rw[if_neg (by omega)]
  exact h.home b hb
def Sr (σ':Dk)(l' l:Lg)(ims:List Im)(L N:Nat)(H:Nat->List UInt8):Prop:=
 l'.last=l.last/\((l'.synced=l.synced/\Al σ' fun s=>qm s l ims L N H l.synced\/qm s l ims L N H l.last)\/(l'.synced=l.last/\Al σ' fun s=>qm s l ims L N H l.last))
theorem Eo {σ:Dk}{l:Lg}{p:Pg}{ims:List Im}(h:Rest σ l p ims)(hd:σ.dead=false)(hld:l.dead=false):
  (∃σ',l.sync σ=(σ',l.all,0)/\σ'.dead=false/\(σ.fuel= -1->σ'.fuel= -1)/\σ'.n=σ.n/\σ'.waits=[]/\(∀x,0<x->σ'.get x=σ.get x)/\Rest σ' l.all p ims)\/
  (∃σ',l.sync σ=(σ',l.dies,10)/\σ'.dead=true/\σ.fuel≠-1/\σ'.n=σ.n/\Sr σ' l.dies l ims p.skip (p.blocks σ) (fun b=>σ.get (p.skip+b))):=by
 have hok:=h.lok
 have hpo:=h.pok
 have hfit:=hpo.fit;have hfrm:=hpo.frm;have hskip:=hpo.skip;have hring:=hpo.ring;have hsy:=hok.sy;have hsyn:=h.uM;have hn2:=hok.n2
 have hrec:=h.recs
 obtain⟨N,hN⟩:∃N,N=p.blocks σ:=⟨_,rfl⟩
 rw[<-hN] at hrec ⊢
 obtain⟨H,hH⟩:∃H:Nat->List UInt8,H=fun b=>σ.get (p.skip+b):=⟨_,rfl⟩
 have hall:=h.all
 rw[<-hN,<-hH] at hall
 rw[<-hH] at hrec ⊢
 have hget:Ph l l.fE ims ims.length p.skip N H σ.get:=⟨hall.get.mark,by rw[aJ (by rw[dD];omega)];exact h.on,hall.get.home⟩
 have hold:∀s,Ph l l.fE ims ims.length p.skip N H s->qm s l ims p.skip N H l.synced:=fun s hs=>by
  have h1:Ph l l.fE ims (l.uM ims.length) p.skip N H s:=⟨hs.mark,by
   have:=hs.on.take (l.uM ims.length)
   rw[dz,bI (by unfold Lg.uM;omega)] at this
   exact this,hs.home⟩
  exact h1.recs (l':=l) hok hfrm hskip.symm h.list h.len (by rw[hN];exact h.bat) rfl (by unfold Lg.uM;omega) (by unfold Lg.uM;omega)
 have hfa:l.all.first=l.first:=rfl
 have hnew:∀s,Ph l l.all.fE ims ims.length p.skip N H s->qm s l ims p.skip N H l.last:=fun s hs=>by
  have:=hs.recs (l':=l.all) hok hfrm hskip.symm h.list h.len (by rw[hN];exact h.bat) rfl (by show l.last+_=_;omega) (aC _)
  unfold qm
  rw[dF]
  exact this
 unfold Lg.sync
 rw[hld,if_neg (by simp)]
 rcases BI hd with ⟨e,hb⟩|⟨e,hb⟩
 ·rw[e]
  dsimp only
  rw[if_pos rfl]
  have hd1:σ.fF.flush.dead=false:=hb
  have hn1:σ.fF.flush.n=σ.n:=σ.dW.1
  have hg1:∀x,σ.fF.flush.get x=σ.get x:=fun x=>by rw[Dk.oh,Dk.qW]
  have hcs:∀s,CS σ.fF.flush s->Ph l l.fE ims ims.length p.skip N H s:=fun s hs=>by
   rw[hs.none rfl,show σ.fF.flush.get=σ.get from funext hg1];exact hget
  rcases Hu l.all hd1 (show l.frm<σ.fF.flush.n by rw[hn1];omega) with ⟨σ',e2,h1,h2,h3,h4,h5⟩|⟨σ',e2,h1,h2,h3,h4⟩
  ·left
   rw[e2]
   dsimp only
   rw[if_pos rfl]
   have hg:∀x,0<x->σ'.get x=σ.get x:=fun x hx=>by
    rw[h5,if_neg (by show l.frm≠x;omega),hg1]
   have hn':σ'.n=σ.n:=h3.trans hn1
   have hNb:p.blocks σ'=N:=by rw[hN];unfold Pg.blocks;rw[hn']
   have hon:oU σ'.get l.all (l.all.last+1 - ims.length) (gF ims):=h.on.congr rfl rfl rfl fun j _=>hg _ (uS l _ hn2 hfrm).1
   refine⟨σ',rfl,h1,fun hf=>h2 (l7 hd hf).2,hn',h4,hg,?_⟩
   refine⟨⟨hok.n2,hok.hi,hok.st,hok.us,hok.la,aC _,hok.ent,hok.sum⟩,⟨hfrm,hskip,hring,by rw[hn'];exact hfit,by rw[hn'];exact hpo.fresh⟩,h.list,h.len,by show l.last<=l.last+_;omega,by rw[hNb,hN];exact h.bat,hon,?_,h.fresh,by rw[h4];exact aT _,fun _=>h4⟩
   refine Al.none ⟨?_,?_,fun b _=>rfl⟩ h4
   ·rw[h5,if_pos (by show l.frm=0;exact hfrm)]
   ·rw[aJ (by rw[dD];unfold Lg.uM;show _<=l.last+_ - l.last;omega)]
    exact hon
  ·right
   rw[e2]
   dsimp only
   rw[if_neg (by omega)]
   refine⟨σ',rfl,h1,fun hf=>h2 (l7 hd hf).2,h3.trans hn1,rfl,.inl ⟨rfl,fun s hs=> ?_⟩⟩
   obtain⟨s',g1,g2⟩:=h4 s hs
   have g1:=hcs s' g1
   rcases g2 with rfl|rfl
   ·exact .inl (hold _ g1)
   ·right
    rw[show l.all.frm=0 from hfrm]
    exact hnew _ (g1.Rq hok hfrm hskip.symm)
 ·right
  rw[e]
  dsimp only
  rw[if_neg (by omega)]
  refine⟨_,rfl,hb,fun hf=> ?_,σ.dW.1,rfl,.inl ⟨rfl,fun s hs=> .inl (hrec s (hs.same σ.dW.2.1 σ.dW.2.2))⟩⟩
  have:=(l7 hd hf).1
  rw[hb] at this;cases this
theorem LU (p:Pg)(P:(Nat->List UInt8)->Prop):∀(r:List Nat) (σ:Dk),σ.dead=false->(∀b∈r,p.skip+b<σ.n/\(p.fresh.img b).length=512)->(∀s b,b∈r->P s->P (sG s (p.skip+b) (p.fresh.img b)))->Al σ P->
  (∃σ',p.lay r σ=(σ',0)/\σ'.dead=false/\(σ.fuel= -1->σ'.fuel= -1)/\σ'.n=σ.n/\Al σ' P/\(∀b,σ'.get (p.skip+b)=if b∈r then p.fresh.img b else σ.get (p.skip+b))/\∀j,j<p.skip->σ'.get j=σ.get j)\/
  (∃σ',p.lay r σ=(σ',10)/\σ'.dead=true/\σ.fuel≠-1/\σ'.n=σ.n/\Al σ' P)
 |[],σ,h,_,_,hP=> .inl ⟨σ,rfl,h,id,rfl,hP,fun b=>by simp,fun _ _=>rfl⟩
 |b::r,σ,h,hr,hc,hP=>by
  obtain⟨h1,h2⟩:=hr b (bg ..)
  rw[p.yX]
  rcases zL h h1 (by omega:(p.fresh.img b).length<=512) with ⟨e,hb⟩|⟨e,hb⟩
  ·rw[e]
   dsimp only
   rw[if_pos rfl]
   have hd2:(σ.fF.put (p.skip+b) (p.fresh.img b)).dead=false:=hb
   have hn2:(σ.fF.put (p.skip+b) (p.fresh.img b)).n=σ.n:=σ.dW.1
   have hf2:σ.fuel= -1->(σ.fF.put (p.skip+b) (p.fresh.img b)).fuel= -1:=fun hf=>(l7 h hf).2
   have hP2:Al (σ.fF.put (p.skip+b) (p.fresh.img b)) P:=hP.fF.put fun s hs=>by
    rw[yN h2];exact hc s b (bg ..) hs
   rcases LU p P r _ hd2 (fun c hc=>by rw[hn2];exact hr c (aW _ hc)) (fun s c hm=>hc s c (aW _ hm)) hP2 with ⟨σ',q1,q2,q3,q4,q5,q6,q7⟩|⟨σ',q1,q2,q3,q4,q5⟩
   ·refine .inl ⟨σ',q1,q2,fun hf=>q3 (hf2 hf),q4.trans hn2,q5,fun c=> ?_,fun j hj=> ?_⟩
    ·rw[q6,Dk.get_put]
     by_cases hc:c∈r
     ·rw[if_pos hc,if_pos (aW _ hc)]
     ·rw[if_neg hc]
      by_cases e:c=b
      ·subst e
       rw[if_pos rfl,if_pos (bg ..)]
       exact yN h2
      ·rw[if_neg (by omega),if_neg (fun x=>(bM.1 x).elim e hc),σ.qW]
    ·rw[q7 j hj,Dk.get_put,if_neg (by omega),σ.qW]
   ·exact .inr ⟨σ',q1,q2,fun hf=>q3 (hf2 hf),q4.trans hn2,q5⟩
  ·rw[e]
   dsimp only
   rw[if_neg (by omega)]
   refine .inr ⟨_,rfl,hb,fun hf=> ?_,σ.dW.1,hP.fF⟩
   have:=(l7 h hf).1
   rw[hb] at this;cases this
theorem FR {l:Lg}(h:l.Ok):(l.cut l.last).list=[]/\(l.cut l.last).used=0/\(l.cut l.last).frm=l.frm/\(l.cut l.last).n=l.n/\(l.cut l.last).last=l.last/\(l.cut l.last).synced=l.synced/\(l.cut l.last).dead=l.dead:=by
 have hs:=yD l.last l.list (l.n - 1) l.start l.used (fun e he=>(h.ent e he).2)
 refine⟨hs.1,?_,rfl,rfl,rfl,rfl,rfl⟩
 show (Lg.ru l.last l.list (l.n - 1) l.start l.used).2.2=0
 rw[hs.2.1,h.sum];omega
theorem Ir {σ:Dk}{l:Lg}{p:Pg}{ims:List Im}(h:Rest σ l p ims)(hd:σ.dead=false)(hld:l.dead=false)(hpd:p.dead=false):
  (∃σ',p.home σ l=(σ',l.all.cut l.last,{p with fresh:=Im.none},0)/\σ'.dead=false/\(σ.fuel= -1->σ'.fuel= -1)/\σ'.n=σ.n/\σ'.waits=[]/\Rest σ' (l.all.cut l.last) {p with fresh:=Im.none} []/\∀b,b<p.blocks σ->σ'.get (p.skip+b)=oZ ims (fun b=>σ.get (p.skip+b)) b)\/
  (∃σ' l',p.home σ l=(σ',l',p.dies,10)/\σ'.dead=true/\σ.fuel≠-1/\σ'.n=σ.n/\Sr σ' l' l ims p.skip (p.blocks σ) (fun b=>σ.get (p.skip+b))):=by
 have hpo:=h.pok
 have hfit:=hpo.fit;have hfrm:=hpo.frm;have hskip:=hpo.skip;have hring:=hpo.ring;have hlok:=h.lok
 have hn2:=hlok.n2
 obtain⟨N,hN⟩:∃N,N=p.blocks σ:=⟨_,rfl⟩
 obtain⟨H,hH⟩:∃H:Nat->List UInt8,H=fun b=>σ.get (p.skip+b):=⟨_,rfl⟩
 have hout:=Eo h hd hld
 rw[<-hN,<-hH] at hout ⊢
 unfold Pg.home
 rcases hout with ⟨σ1,e1,d1,f1,n1,w1,g1,R1⟩|⟨σ1,e1,d1,f1,n1,D1⟩
 rotate_left
 ·rw[e1]
  dsimp only
  rw[if_neg (by omega)]
  exact .inr ⟨σ1,_,rfl,d1,f1,n1,D1⟩
 rw[e1]
 dsimp only
 rw[if_pos rfl]
 have hH1:∀b,σ1.get (p.skip+b)=H b:=fun b=>by rw[hH];exact g1 _ (by omega)
 have hNb:p.blocks σ1=N:=by rw[hN];unfold Pg.blocks;rw[n1]
 obtain⟨P,hP⟩:∃P:(Nat->List UInt8)->Prop,P=fun s=>s 0=pad l.all.fE/\oU s l (l.last+1 - ims.length) (gF ims)/\∀b,b<N->findAll ims b=none->s (p.skip+b)=H b:=⟨_,rfl⟩
 have hPr:∀s,P s->qm s l ims p.skip N H l.last:=fun s hs=>by
  rw[hP] at hs
  obtain⟨a1,a2,a3⟩:=hs
  have hph:Ph l l.all.fE ims ims.length p.skip N (fun b=>s (p.skip+b)) s:=⟨a1,by rw[aJ (by rw[dD];omega)];exact a2,fun _ _=>rfl⟩
  have:=hph.recs (l':=l.all) hlok hfrm hskip.symm h.list h.len (by rw[hN];exact h.bat) rfl (by show l.last+_=_;omega) (aC _)
  unfold qm
  rw[dF]
  refine sP.congr this fun b hb=> ?_
  rw[aJ (aC _)]
  unfold oZ
  cases hf:findAll ims b with
  |some x=>rfl
  |none=>
   show H b=s (p.skip+b)
   rw[a3 b hb hf]
 have hal1:Al σ1 P:=fun s hs=>by
  have q:=R1.all s hs
  rw[hP]
  refine⟨q.mark,?_,fun b hb _=> ?_⟩
  ·have:=q.on
   rw[aJ (by rw[dD];unfold Lg.uM;show _<=l.last+_ - l.last;omega)] at this
   exact this.congr rfl rfl rfl fun _ _=>rfl
  ·rw[q.home b (by rw[hNb];exact hb)]
   exact hH1 b
 have hfk:∀b∈p.fresh.ks,findAll ims b=some (p.fresh.img b):=fun b hb=>by
  rw[<-h.fresh b];unfold Im.find;rw[if_pos hb]
 have hfi:=hpo.fresh
 have hclo:∀s b,b∈p.fresh.ks->P s->P (sG s (p.skip+b) (p.fresh.img b)):=fun s b hb hs=>by
  rw[hP] at hs ⊢
  obtain⟨a1,a2,a3⟩:=hs
  have hbn:=hfi.hi b hb
  refine⟨by unfold sG;rw[if_neg (by omega)];exact a1,a2.set fun j _=> ?_,fun c hc hf=> ?_⟩
  ·have:=uS l (l.start+j) hn2 hfrm
   omega
  ·unfold sG
   by_cases e:b=c
   ·subst e
    rw[hfk b hb] at hf;cases hf
   ·rw[if_neg (by omega)]
    exact a3 c hc hf
 rcases LU p P p.fresh.ks σ1 d1 (fun b hb=>⟨by have:=hfi.hi b hb;omega,hfi.img b hb⟩) hclo hal1 with ⟨σ2,e2,d2,f2,n2,A2,g2,g2'⟩|⟨σ2,e2,d2,f2,n2,A2⟩
 ·rw[e2]
  dsimp only
  rw[if_pos rfl]
  have hlo:∀b,b<N->σ2.get (p.skip+b)=oZ ims H b:=fun b hb=>by
   rw[g2,hH1]
   unfold oZ
   rw[<-h.fresh b]
   unfold Im.find
   split<;>rfl
  rcases BI d2 with ⟨e3,d3⟩|⟨e3,d3⟩
  ·rw[e3]
   dsimp only
   rw[if_pos rfl]
   have d3':σ2.fF.flush.dead=false:=d3
   have n3:σ2.fF.flush.n=σ.n:=σ2.dW.1.trans (n2.trans n1)
   have g3:∀x,σ2.fF.flush.get x=σ2.get x:=fun x=>by rw[Dk.oh,Dk.qW]
   have hc:=FR (l:=l.all) ⟨hlok.n2,hlok.hi,hlok.st,hlok.us,hlok.la,aC _,hlok.ent,hlok.sum⟩
   obtain⟨c,hce⟩:∃c,c=l.all.cut l.all.last:=⟨_,rfl⟩
   have hcok:c.Ok:=by rw[hce];exact Lg.Ok.cut ⟨hlok.n2,hlok.hi,hlok.st,hlok.us,hlok.la,aC _,hlok.ent,hlok.sum⟩
   rw[<-hce] at hc
   obtain⟨k1,k2,k3,k4,k5,k6,k7⟩:=hc
   have k3:c.frm=0:=k3.trans hfrm
   have k4:c.n=l.n:=k4
   have k5:c.last=l.last:=k5
   have k6:c.synced=l.last:=k6
   have hsf:∀s,CS σ2.fF.flush s->P s:=fun s hs=>by
    rw[hs.none rfl,show σ2.fF.flush.get=σ2.get from funext g3];exact A2.get
   have hsn:∀s,CS σ2.fF.flush s->qm (sG s 0 (pad c.fE)) l ims p.skip N H l.last:=fun s hs=>by
    have hph:Ph c c.fE [] 0 p.skip N (oZ ims H) (sG s 0 (pad c.fE)):=⟨by unfold sG;rw[if_pos rfl],fun i hi=>by simp[gF] at hi,fun b hb=>by
     unfold sG
     rw[if_neg (by omega),hs.none rfl,g3]
     exact hlo b hb⟩
    have:=hph.recs (l':=c) hcok k3 (k4.trans hskip.symm) k1 (aT _) (fun im hi=>by cases hi) rfl (by show c.synced+0=c.last+0;rw[k6,k5]) (aC _)
    unfold qm
    rw[dF,aJ (aC _),<-k6]
    exact this
   have htrim:l.all.trim σ2.fF.flush l.all.last=if (c.mark σ2.fF.flush).2.2=0 then c.mark σ2.fF.flush else((c.mark σ2.fF.flush).1,l.all.dies,10):=by
    unfold Lg.trim
    have hd:l.all.dead=false:=hld
    rw[hd,if_neg (by simp),if_neg (by show ¬l.last<l.last;omega),<-hce]
   rcases Hu c d3' (by rw[k3,n3];omega) with ⟨σ4,e4,h1,h2,h3,h4,h5⟩|⟨σ4,e4,h1,h2,h3,h4⟩
   ·left
    rw[htrim,e4]
    dsimp only
    rw[if_pos rfl]
    dsimp only
    rw[if_pos rfl]
    have hn':σ4.n=σ.n:=h3.trans n3
    have hg4:∀b,b<N->σ4.get (p.skip+b)=oZ ims H b:=fun b hb=>by
     rw[h5,if_neg (by rw[k3];omega),g3];exact hlo b hb
    have hcl:c=l.all.cut l.last:=hce
    rw[<-hcl]
    refine⟨σ4,rfl,h1,fun hf=>h2 (l7 d2 (f2 (f1 hf))).2,hn',h4,?_,hg4⟩
    refine⟨hcok,⟨k3,by rw[k4];exact hskip,by rw[k4];exact hring,by rw[k4,hn'];exact hfit,Im.Ok.none _⟩,k1,aT _,by rw[k5,k6];omega,(fun im hi=>by cases hi),(fun i hi=>by simp[gF] at hi),?_,fun b=>rfl,by rw[h4];exact aT _,fun _=>h4⟩
    refine Al.none ⟨by rw[h5,if_pos k3],fun i hi=>by simp[gF] at hi,fun b _=>rfl⟩ h4
   ·right
    rw[htrim,e4]
    dsimp only
    rw[if_neg (show ¬((10:Int)=0) by omega)]
    dsimp only
    rw[if_neg (show ¬((10:Int)=0) by omega)]
    refine⟨σ4,_,rfl,h1,fun hf=>h2 (l7 d2 (f2 (f1 hf))).2,h3.trans n3,rfl,.inr ⟨rfl,fun s hs=> ?_⟩⟩
    obtain⟨s',a1,a2⟩:=h4 s hs
    rcases a2 with rfl|rfl
    ·exact hPr _ (hsf _ a1)
    ·rw[k3]
     exact hsn _ a1
  ·right
   rw[e3]
   dsimp only
   rw[if_neg (by omega)]
   refine⟨_,_,rfl,d3,fun hf=> ?_,σ2.dW.1.trans (n2.trans n1),rfl,.inr ⟨rfl,fun s hs=>hPr s (A2 s (hs.same σ2.dW.2.1 σ2.dW.2.2))⟩⟩
   have:=(l7 d2 (f2 (f1 hf))).1
   rw[d3] at this;cases this
 ·right
  rw[e2]
  dsimp only
  rw[if_neg (by omega)]
  exact⟨σ2,_,rfl,d2,fun hf=>f2 (f1 hf),n2.trans n1,rfl,.inr ⟨rfl,fun s hs=>hPr s (A2 s hs)⟩⟩
theorem Qd {α:Type}(cur xs news:List α)(i n cap k:Nat)(hi:i<n)(hc:n+1<=cap)(hl:cur.length=cap*k)(hx:cur.take (n*k)=xs)(hnl:news.length=k):
  (splice cur ((i+1)*k) (xs.drop (i*k))).length=cap*k/\(splice (splice cur ((i+1)*k) (xs.drop (i*k))) (i*k) news).length=cap*k/\
  (splice (splice cur ((i+1)*k) (xs.drop (i*k))) (i*k) news).take ((n+1)*k)=xs.take (i*k)++news++xs.drop (i*k):=by
 have hik:i*k<=n*k:=bY _ (iQ hi)
 have hik1:(i+1)*k<=n*k:=bY _ hi
 have hnk1:(n+1)*k<=cap*k:=bY _ hc
 rw[eH,jX] at hik1 hnk1
 have hxl:xs.length=n*k:=by rw[<-hx,aH];omega
 have e2:(xs.drop (i*k)).length=n*k - i*k:=by rw[aN,hxl]
 have hl1:(splice cur ((i+1)*k) (xs.drop (i*k))).length=cap*k:=by rw[eP _ _ _ (by rw[e2,eH,jX];omega)];exact hl
 have hl2:(splice (splice cur ((i+1)*k) (xs.drop (i*k))) (i*k) news).length=cap*k:=by rw[eP _ _ _ (by rw[hl1];omega)];exact hl1
 refine⟨hl1,hl2,?_⟩
 have e1:(cur.take (i*k)).length=i*k:=by rw[aH];omega
 have e3:xs.take (i*k)=cur.take (i*k):=by rw[<-hx,dz,bI (by omega)]
 have e4:splice cur ((i+1)*k) (xs.drop (i*k))=cur.take (i*k)++((cur.drop (i*k)).take k++(xs.drop (i*k)++cur.drop ((i+1)*k+(xs.drop (i*k)).length))):=by
  unfold splice
  rw[eH,jX,Q0,aL]
 rw[e4,wJ _ _ _ _ _ e1 (by rw[aH,aN,hnl];omega),e3,<-aL,<-aL,
  bK (by simp only[ay,e1,e2,hnl,eH,jX];omega),aJ (by simp only[ay,e1,e2,hnl,eH,jX];omega)]
theorem Nv {α:Type}(cur rest xs news:List α)(i n c k:Nat)(hi:i<n)(hc:n+1<=c)(hx:cur.take (n*k)=xs)(hcl:n*k<=cur.length)(hl:(cur.take (i*k)++rest).length=c*k)(hnl:news.length=k):
  (splice (cur.take (i*k)++rest) (i*k) news).length=c*k/\(splice (splice (cur.take (i*k)++rest) (i*k) news) ((i+1)*k) (xs.drop (i*k))).length=c*k/\
  (splice (splice (cur.take (i*k)++rest) (i*k) news) ((i+1)*k) (xs.drop (i*k))).take ((n+1)*k)=xs.take (i*k)++news++xs.drop (i*k):=by
 have hik:i*k<=n*k:=bY _ (iQ hi)
 have hik1:(i+1)*k<=n*k:=bY _ hi
 have hnk1:(n+1)*k<=c*k:=bY _ hc
 rw[eH,jX] at hik1 hnk1
 have hxl:xs.length=n*k:=by rw[<-hx,aH];omega
 have e2:(xs.drop (i*k)).length=n*k - i*k:=by rw[aN,hxl]
 have e1:(cur.take (i*k)).length=i*k:=by rw[aH];omega
 have e3:xs.take (i*k)=cur.take (i*k):=by rw[<-hx,dz,bI (by omega)]
 have hrl:rest.length=c*k - i*k:=by rw[ay,e1] at hl;omega
 have hl1:(splice (cur.take (i*k)++rest) (i*k) news).length=c*k:=by rw[eP _ _ _ (by rw[hl];omega)];exact hl
 have hl2:(splice (splice (cur.take (i*k)++rest) (i*k) news) ((i+1)*k) (xs.drop (i*k))).length=c*k:=by rw[eP _ _ _ (by rw[hl1,e2,eH,jX];omega)];exact hl1
 refine⟨hl1,hl2,?_⟩
 have e4:splice (cur.take (i*k)++rest) (i*k) news=(cur.take (i*k)++news)++((rest.drop k).take (n*k - i*k)++(rest.drop k).drop (n*k - i*k)):=by
  rw[bJ]
  have:=wJ (cur.take (i*k)) (rest.take k) (rest.drop k) news (i*k) e1 (by rw[aH,hnl];omega)
  rw[bJ] at this
  rw[this,aL]
 rw[e4,wJ _ _ _ _ _ (by simp only[ay,e1,hnl,eH,jX]) (by rw[e2,aH,aN];omega),e3,<-aL,
  bK (by simp only[ay,e1,e2,hnl,eH,jX];omega),aJ (by simp only[ay,e1,e2,hnl,eH,jX];omega)]
theorem Kz (v:Value)(n:Nat)(xs:List Value)(vb:Nat)(news:List Value)(w:World)(S:Nat->Prop)(B:Nat)(hS:∀g,S g->g<w.heap.size)(hB:B<=w.heap.size)(h:aQ w S B 103 2 v n xs)(hv:Row w vb 103 news)(hnl:news.length=2)(hone:∀u∈news,u.oneCell'=true)(hn:n<=1000000):
  Calls Tryz.prog 114 #[v,.int .i64 n,.slice (some ⟨vb,0,none⟩) 1 1] w fun e w'=>∃v',e= .returned v'/\aQ w' S B 103 2 v' (n+1) (xs++news)/\Keep (fun g=>v.ownBlock=some g) w w'/\Below B w w':=by
 have hsrc:Src Tryz.prog 2 52 (.slice (some ⟨vb,0,none⟩) 1 1) 1 news w:=by
  have:=(hv.dm (S:=fZ) (k:=2) (off:=0) 1 1 (by omega) id (aC _) (by simp[maxLen])).src bT
  rw[dP,aJ (by omega)] at this
  exact this hone
 have hh:=h
 obtain⟨ao,c,rfl,h1,h2,h3,h4⟩:=h.dm.form
 have k1:n - n=0:=by omega
 have Hone:=ah hone;clear hone
 have Hnl:=ah hnl;clear hnl
 go_enter Tryz.func114,Tryz.ntmps114
 go_wp2_with (at_builtin;(refine cK rfl (.tmp 23) (.tmp 24) 52 52 rfl S B 103 2 32 _ bT jl rfl (.slice ao n c) _ _ rfl hh (.slice (some ⟨vb,0,none⟩) 1 1) _ _ rfl hsrc hS hB ?_ ?_ ?_);(focus (unfold maxLen;omega));(focus omega);intro ao1 c1 w1 hown1 hk1 hb1 hd1)
 all_goals
  go_ret
  exact⟨_,rfl,hown1,hk1.mono (fun _ _ h=>by cases ao<;>exact h),hb1⟩
theorem Kw (g cap n i:Nat)(xs:List Value)(vb:Nat)(news:List Value)(w:World)(S:Nat->Prop)(B:Nat)(h:aQ w S B 103 2 (.slice (some ⟨g,0,none⟩) n cap) n xs)(hx1:∀u∈xs,u.oneCell'=true)(hv:Row w vb 103 news)(hvg:vb≠g)(hnl:news.length=2)(hone:∀u∈news,u.oneCell'=true)(hn:n<=1000000)(hi:i<n)(hroom:n+1<=cap):
  Calls Tryz.prog 114 #[.slice (some ⟨g,0,none⟩) n cap,.int .i64 i,.slice (some ⟨vb,0,none⟩) 1 1] w fun e w'=>∃v',e= .returned v'/\aQ w' S B 103 2 v' (n+1) (xs.take (i*2)++news++xs.drop (i*2))/\Keep (fun k=>k=g) w w':=by
 obtain⟨cur,hr,hl,hx,hBg,hSg,hc,hc2⟩:=h.row
 have hc3:cap<=9223372036854775807:=by simpa [maxLen] using hc2
 have hxl:=h.1.1
 clear h
 have hov:(callFunc 158 #[.slice (some ⟨vb,0,none⟩) 1 1,.slice (some ⟨g,(i+1)*2,none⟩) (n - i) (cap - (i+1))]).run Tryz.prog w= .ok (.value (.bool false)) w:=by
  rw[AP Tryz.func158 (by kernel_rfl) (by kernel_rfl) (by kernel_rfl) (e:=Extern.SlicesOverlaps.overlaps #[52,52] #[4]) (by kernel_rfl)]
  rw[Lib.run_overlaps_apart w 52 4 103 bT 2 (fun w=>by kernel_rfl) ⟨vb,0,none⟩ ⟨g,(i+1)*2,none⟩ 1 1 (n - i) (cap - (i+1)) hvg 103 103 2 (cap*2)
   (by unfold Row at hv;simp[World.shape?,hv,hnl]) (by unfold Row at hr;simp[World.shape?,hr,hl]) (by omega) (hv.frozen 0) (hv.frozen 2)]
  rfl
 have k1:(0:Int)<=(i:Int):=by omega
 have k2:(i:Int)<=(cap:Int):=by omega
 have k3:(0:Int)<=(i:Int)+1:=by omega
 have k4:(i:Int)+1<=(n:Int)+1:=by omega
 have k5:((i:Int)+1).toNat=i+1:=by omega
 have k6:((n:Int)+1).toNat=n+1:=by omega
 have k7:(n:Int)+1<=(cap:Int):=by omega
 have k8:((i:Int)==(n:Int))=false:=by rw[fG];omega
 have k9:IntKind.i64.wrap ((i:Int)+1)=(i:Int)+1:=aG _ (by omega)
 have k10:¬cap=i:=by omega
 have k11:(i:Int)<=(n:Int)+1:=by omega
 have k12:¬cap=i+1:=by omega
 have hsrc1:aX w.drew fZ 2 (.slice (some ⟨g,i*2,none⟩) (n+1 - i) (cap - i)) (n+1 - i) ((cur.drop (i*2)).take ((n+1 - i)*2)):=Row.dm (w:=w.drew) hr _ _ (by omega) id (by omega) (by unfold maxLen;omega)
 have hcs1:((cur.drop (i*2)).take ((n+1 - i)*2)).take ((n - i)*2)=xs.drop (i*2):=by
  rw[dz,bI (by omega),<-hx,gV];congr 1;omega
 have hsrc2:aX w fZ 2 (.slice (some ⟨vb,0,none⟩) 1 1) 1 news:=by
  have:=hv.dm (S:=fZ) (k:=2) (off:=0) 1 1 (by omega) id (aC _) (by simp[maxLen])
  rwa [dP,aJ (by omega)] at this
 have Hl:=ah hl;clear hl
 have Hx:=ah hx;clear hx
 have Hxl:=ah hxl;clear hxl
 have Hnl:=ah hnl;clear hnl
 have Hcs1:=ah hcs1;clear hcs1
 go_enter Tryz.func114,Tryz.ntmps114
 go_wp2
 go_region_held3 (fun _=>True) (trivial) (first|((refine Bg rfl (gU (.tmp 73) (.tmp 76) 52 52 rfl 103 2 32 _ bT jl g ((i+1)*2) 103 (n - i) (n - i) (cap - (i+1)) (some ⟨g,(i+1)*2,none⟩) cur ?_ hr (.slice (some ⟨g,i*2,none⟩) (n+1 - i) (cap - i)) ?_ (n+1 - i) (xs.drop (i*2)) rfl ?_ ?_ ?_ (fun _=>rfl) ?_ ?_ ?_));(focus (first|rfl|(show Value.slice _ _ _=_;congr 1;omega)));(focus (first|rfl|(show Value.slice _ _ _=_;congr 1<;>omega)));(focus (exact(Nat.min_eq_right (by omega)).symm));(focus (rw[aN,Hxl.out];omega));(focus (rw[<-Hcs1.out];exact hsrc1.first (n - i) (by omega)));(focus (rw[aN,Hxl.out,Hl.out];omega));(focus (exact fun u hu=>hx1 u (dh hu)));intro w1 hr1 hk1))
 have hnews:(Builtin.firstCells 2 1 (.slice (some ⟨vb,0,none⟩) 1 1)).run Tryz.prog w1= .ok news.toArray w1:=by
  have h1:aX w1 fZ 2 (.slice (some ⟨vb,0,none⟩) 1 1) 1 news:=hsrc2.keep fun g' hg' hl _=>by cases hg';exact⟨hk1.block vb hl hvg,id⟩
  have:=h1.first (P:=Tryz.prog) 1 (aC _)
  rwa [aJ (by have:=Hnl.out;omega)] at this
 obtain⟨m1,m2,m3⟩:=Qd cur xs news i n cap 2 hi hroom Hl.out Hx.out Hnl.out
 have M1:=ah m1;clear m1
 have M2:=ah m2;clear m2
 have M3:=ah m3;clear m3
 go_wp2_with (first|((refine dU rfl ?_);intro K hK;(refine gU (.tmp 80) (.tmp 81) 52 52 rfl 103 2 32 _ bT jl g (i*2) 103 1 (n+1 - i) (cap - i) (some ⟨g,i*2,none⟩) _ rfl hr1 (.slice (some ⟨vb,0,none⟩) 1 1) rfl 1 news rfl ?_ ?_ hnews (fun _=>rfl) ?_ hone ?_);(focus (exact(bI (by omega)).symm));(focus (rw[Hnl.out]));(focus (rw[M1.out,Hnl.out];omega));intro w2 hr2 hk2;refine hK _ _ ?_))
 go_ret
 refine⟨_,rfl,?_,((Keep.refl (· =g) w).drew.trans hk1 (fun _ _ h=>h)).trans hk2 (fun _ _ h=>h)⟩
 rw[<-M3.out]
 exact Row.own hr2 (n+1) M2.out hBg hSg hroom hc2
theorem uP {α:Type}(X b:List α)(off:Nat)(h:off+b.length<=X.length):(splice X off b).take (off+b.length)=X.take off++b:=by
 unfold splice
 rw[<-aL,bK (by simp only[ay,aH];omega),aJ (by simp only[ay,aH];omega)]
theorem mK {α:Type}(X b:List α)(off t:Nat)(ht:t<=off)(h:off<=X.length):(splice X off b).take t=X.take t:=by
 unfold splice
 rw[bK (by rw[aH];omega),dz,bI ht]
theorem IG {α:Type}(X b:List α)(off:Nat)(h:off<=X.length):(splice X off b).drop off=b++X.drop (off+b.length):=by
 unfold splice
 rw[eY (by rw[aH];omega),fq (by rw[aH];omega),jq]
theorem qU {α:Type}(X b:List α)(off t:Nat)(ht:off+b.length<=t)(h:off<=X.length):(splice X off b).drop t=X.drop t:=by
 obtain⟨d,rfl⟩:∃d,t=off+b.length+d:=⟨t - (off+b.length),by omega⟩
 have e:(splice X off b).drop (off+b.length)=X.drop (off+b.length):=by
  unfold splice
  rw[<-aL]
  exact fI (by simp only[ay,aH];omega)
 rw[<-kY,e,kY]
theorem Bd {α:Type}(cur news b:List α)(i:Nat)(h:i+news.length+b.length<=cur.length):
  (splice (splice cur i news) (i+news.length) b).length=cur.length/\(splice (splice cur i news) (i+news.length) b).take (i+news.length+b.length)=cur.take i++news++b:=by
 have h1:(splice cur i news).length=cur.length:=eP _ _ _ (by omega)
 exact⟨(eP _ _ _ (by omega)).trans h1,by rw[uP _ _ _ (by omega),uP _ _ _ (by omega)]⟩
theorem Lx {α:Type}(cur news b:List α)(i:Nat)(h:i+news.length+b.length<=cur.length):
  (splice (splice cur (i+news.length) b) i news).length=cur.length/\(splice (splice cur (i+news.length) b) i news).take (i+news.length+b.length)=cur.take i++news++b:=by
 have h1:(splice cur (i+news.length) b).length=cur.length:=eP _ _ _ (by omega)
 refine⟨(eP _ _ _ (by omega)).trans h1,?_⟩
 rw[Q0,uP _ _ _ (by omega),mK _ _ _ _ (by omega) (by omega)]
 congr 1
 rw[qU _ _ _ _ (aC _) (by omega),IG _ _ _ (by omega),bK (aC _),bR]
theorem DC (g cap n i:Nat)(xs:List Value)(vv:Value)(m:Nat)(news:List Value)(w:World)(S:Nat->Prop)(B:Nat)(hS:∀g,S g->g<w.heap.size)(hB:B<=w.heap.size)(h:aQ w S B 9 1 (.slice (some ⟨g,0,none⟩) n cap) n xs)(hv:aQ w S B 9 1 vv m news)(hone:∀u∈news,u.oneCell'=true)(hn:n<=1000000)(hm:m<=1000000)(hi:n=i+1)(hm0:0<m):
  Calls Tryz.prog 182 #[.slice (some ⟨g,0,none⟩) n cap,.int .i64 i,.int .i64 ((i:Int)+1),vv] w fun e w'=>∃v',e= .returned v'/\aQ w' S B 9 1 v' (i+m) (xs.take i++news)/\Keep (· =g) w w'/\Below B w w':=by
 obtain⟨cur,hr,hl,hx,hBg,hSg,hc,hc2⟩:=h.row
 have hc3:cap<=9223372036854775807:=by simpa [maxLen] using hc2
 have hh:aQ w S B 9 1 (.slice (some ⟨g,0,none⟩) i cap) i (xs.take i):=by
  have:=Row.own hr i hl hBg hSg (by omega) hc2
  rwa [show cur.take (i*1)=xs.take i by rw[<-hx,dz,aU,aU,bI (by omega)]] at this
 have hsrc:Src Tryz.prog 1 142 vv m news w:=hv.dm.src aY hone
 obtain⟨vo,vc,rfl,v1,v2,v3,v4⟩:=hv.dm.form
 clear h hv hx hl hr
 subst hi
 have k1:(0:Int)<=(i:Int):=by omega
 have k2:(i:Int)<=(cap:Int):=by omega
 have k3:(0:Int)<=(i:Int)+1:=by omega
 have k4:(i:Int)+1<=(cap:Int):=by omega
 have k5:((i:Int)+1).toNat=i+1:=by omega
 have k6:¬(((i+m:Nat):Int)<((i+1:Nat):Int)):=by omega
 have k7:¬((i:Int)+(m:Int)<(i:Int)+1):=by omega
 have Hone:=ah hone;clear hone
 go_enter S9,Om
 go_wp2_with (at_builtin;(refine cK rfl (.tmp 32) (.tmp 33) 142 142 rfl S B 9 1 16 _ aY gW rfl (.slice (some ⟨g,0,none⟩) i cap) _ _ rfl hh (.slice vo m vc) _ _ rfl hsrc hS hB ?_ ?_ ?_);(focus (unfold maxLen;omega));(focus omega);intro ao1 c1 w1 hown1 hk1 hb1 hd1)
 all_goals
  go_ret
  exact⟨_,rfl,hown1,hk1.mono (fun _ _ h=>by cases h;rfl),hb1⟩
theorem DF (g cap n i:Nat)(xs:List Value)(vv:Value)(w:World)(S:Nat->Prop)(B:Nat)(h:aQ w S B 9 1 (.slice (some ⟨g,0,none⟩) n cap) n xs)(hv:aQ w S B 9 1 vv 0 [])(hn:n<=1000000)(hi:n=i+1):
  Calls Tryz.prog 182 #[.slice (some ⟨g,0,none⟩) n cap,.int .i64 i,.int .i64 ((i:Int)+1),vv] w fun e w'=>∃v',e= .returned v'/\aQ w' S B 9 1 v' i (xs.take i)/\Keep (· =g) w w':=by
 obtain⟨cur,hr,hl,hx,hBg,hSg,hc,hc2⟩:=h.row
 have hc3:cap<=9223372036854775807:=by simpa [maxLen] using hc2
 have hsrc:Src Tryz.prog 1 142 vv 0 [] w:=hv.dm.src aY (by simp)
 obtain⟨vo,vc,rfl,v1,v2,v3,v4⟩:=hv.dm.form
 clear h hv
 subst hi
 have hx':cur.take i=xs.take i:=by rw[<-hx,dz,aU,bI (by omega)]
 have hll:cur.length=cap:=by omega
 have e1:splice cur i ([]:List Value)=cur:=by simp[splice]
 have hr0:Row w g 9 (splice cur (i*1) [])->Row w g 9 cur:=by rw[aU,e1];exact id
 have k1:(0:Int)<=(i:Int):=by omega
 have k2:(i:Int)<=(cap:Int):=by omega
 have k3:(0:Int)<=(i:Int)+1:=by omega
 have k4:(i:Int)+1<=(cap:Int):=by omega
 have k5:((i:Int)+1).toNat=i+1:=by omega
 have k6:i+1 - i=1:=by omega
 have k7:¬cap=i:=by omega
 have Hl:=ah hll;clear hll hl hx
 have E1:=ah e1;clear e1 hr0
 go_enter S9,Om
 go_wp2_with (first
  |(refine dU rfl ?_;intro K hK;(refine A9 (.tmp 32) (.tmp 33) 142 142 rfl 9 1 16 _ aY gW g i cap _ cur rfl hr (.slice vo 0 vc) 0 [] rfl hsrc ?_ ?_ ?_);(focus omega);(focus (have:=Hl.out;simp only[bV];omega));intro w1 hr1 hk1;refine hK _ _ ?_)
  |(refine dU rfl ?_;intro K hK;(refine og (.tmp 43) 142 rfl 9 1 16 _ aY gW rfl g i 9 1 _ (some ⟨g,i,none⟩) _ rfl hr1 (fun _=>rfl) ?_ ?_ ?_);(focus (simp only[aU,E1.out,Hl.out];omega));(focus (exact lZ _ _ (by simp[Value.cells,Value.oneCell']) (by simp[Value.cells])));intro w2 zs hz hr2 hk2;refine hK _ _ ?_))
 all_goals
  go_ret
  rw[aU,E1.out] at hr2
  have hlz:(splice cur i zs).length=cap:=by rw[eP _ _ _ (by have:=Hl.out;omega)];exact Hl.out
  have:=Row.own (k:=1) hr2 i (by omega) hBg hSg (by omega) hc2
  rw[aU,mK _ _ _ _ (aC _) (by have:=Hl.out;omega),hx'] at this
  exact⟨_,rfl,this,hk1.trans hk2 (fun _ _ h=>h)⟩
theorem BX (g cap n i:Nat)(xs:List Value)(vv:Value)(m:Nat)(news:List Value)(w:World)(S:Nat->Prop)(B:Nat)(h:aQ w S B 9 1 (.slice (some ⟨g,0,none⟩) n cap) n xs)(hx1:∀u∈xs,u.oneCell'=true)(hv:aQ w S B 9 1 vv m news)(hvg:vv.ownBlock≠some g)(hone:∀u∈news,u.oneCell'=true)(hn:n<=1000000)(hi:i+1<n)(hm:m<=1)(N:Nat)(L:List Value)(hN:N=n - 1+m)(hL:L=xs.take i++news++xs.drop (i+1)):
  Calls Tryz.prog 182 #[.slice (some ⟨g,0,none⟩) n cap,.int .i64 i,.int .i64 ((i:Int)+1),vv] w fun e w'=>∃v',e= .returned v'/\aQ w' S B 9 1 v' N L/\Keep (· =g) w w':=by
 obtain⟨cur,hr,hl,hx,hBg,hSg,hc,hc2⟩:=h.row
 have hc3:cap<=9223372036854775807:=by simpa [maxLen] using hc2
 have hnl:news.length=m:=by have:=hv.1.1;omega
 have hll:cur.length=cap:=by omega
 have hx':cur.take n=xs:=by rw[<-hx,aU]
 obtain⟨vo,vc,rfl,v1,v2,v3,v4⟩:=hv.dm.form
 have hvs:=hv.dm
 clear h hv hl hx
 obtain⟨d,rfl⟩:∃d,n=i+1+(d+1):=⟨n - (i+2),by omega⟩
 have HN:=ah hN;clear hN
 have HL:=ah hL;clear hL
 have k1:(0:Int)<=(i:Int):=by omega
 have k2:(i:Int)<=(cap:Int):=by omega
 have k3:(0:Int)<=(i:Int)+1:=by omega
 have k4:(i:Int)+1<=(cap:Int):=by omega
 have k5:((i:Int)+1).toNat=i+1:=by omega
 have Hl:=ah hll;clear hll
 have Hx:=ah hx';clear hx'
 have Hn:=ah hnl;clear hnl
 go_enter S9,Om
 have k6:¬cap=i+1:=by omega
 have k7:(i:Int)+1<=(i:Int)+1+((d:Int)+1):=by omega
 have k8:IntKind.i64.wrap ((i:Int)+(m:Int))=(i:Int)+(m:Int):=aG _ (by omega)
 have k9:i+1+(d+1) - (i+1)=d+1:=by omega
 have k10:IntKind.i64.wrap ((i:Int)+(m:Int)+((d:Int)+1))=(i:Int)+(m:Int)+((d:Int)+1):=aG _ (by omega)
 have k11:¬((cap:Int)<(i:Int)+(m:Int)+((d:Int)+1)):=by omega
 have k12:((i:Int)+(m:Int)+((d:Int)+1)).toNat=i+m+(d+1):=by omega
 have k13:(0:Int)<=(i:Int)+(m:Int)+((d:Int)+1):=by omega
 have k14:(i:Int)+(m:Int)+((d:Int)+1)<=cap:=by omega
 have k15:(i:Int)+(m:Int)<=(i:Int)+1:=by omega
 have k16:(i:Int)<=(i:Int)+(m:Int)+((d:Int)+1):=by omega
 have k17:¬cap=i:=by omega
 go_wp2_with fail
 refine aP (fun _=>True) (fun _=>true) [0,1,2,3,4,5,6,7,8,9,10,11,12] rfl (by kernel_rfl) trivial ?_
 repeat ((refine bP (v:= ?_) rfl rfl (fun _ _ _ h=>h) rfl (fun W hW=> ?_) ?_);rotate_left;(focus ((try dsimp only at hW);skip;first|(go_simp;first|done|with_reducible rfl)));(try simp only[Act.put,ai,ax,au]))
 refine bS ?_
 have hD:(xs.drop (i+1)).length=d+1:=by rw[aN,<-Hx.out,aH,Hl.out];omega
 have hT:cur.take i=xs.take i:=by rw[<-Hx.out,dz,bI (by omega)]
 obtain⟨hF1,hF2⟩:=Bd cur news (xs.drop (i+1)) i (by rw[Hn.out,hD,Hl.out];omega)
 rw[Hn.out,hD,hT] at hF2
 rw[Hn.out] at hF1
 have hcs1:(Builtin.firstCells 1 m (.slice vo m vc)).run Tryz.prog w.drew= .ok news.toArray w.drew:=by
  have h1:=aX.first (P:=Tryz.prog) (w:=w.drew) (hvs.keep fun _ _ _ h=>⟨rfl,h⟩) m (aC _)
  rwa [aJ (by rw[Hn.out];omega)] at h1
 have hcs2:∀W,Row W g 9 (splice cur i news)->(Builtin.firstCells 1 (d+1) (.slice (some ⟨g,i+1,none⟩) (d+1) (cap - (i+1)))).run Tryz.prog W= .ok (xs.drop (i+1)).toArray W:=by
  intro W hW
  have h1:=(Row.dm (S:=fZ) (k:=1) (off:=i+1) hW (d+1) (cap - (i+1)) (by rw[eP _ _ _ (by rw[Hn.out,Hl.out];omega),Hl.out];omega) id (by omega) (by unfold maxLen;omega)).first (P:=Tryz.prog) (d+1) (aC _)
  rw[dz,iP,qU _ _ _ _ (by rw[Hn.out];omega) (by rw[Hl.out];omega),aU] at h1
  rwa [show (cur.drop (i+1)).take (d+1)=xs.drop (i+1) by rw[<-Hx.out,gV];congr 1;omega] at h1
 have HD:=ah hD;clear hD
 have HT:=ah hT;clear hT
 have HF1:=ah hF1;clear hF1
 have HF2:=ah hF2;clear hF2
 have Hc1:=ah hcs1;clear hcs1
 have Hc2:=ah hcs2;clear hcs2
 have k18:¬cap=i+m:=by omega
 have k19:i+m+(d+1) - (i+m)=d+1:=by omega
 have k20:(0:Int)<=(i:Int)+(m:Int):=by omega
 have k21:(i:Int)+(m:Int)<=(i:Int)+(m:Int)+((d:Int)+1):=by omega
 have k22:((i:Int)+(m:Int)).toNat=i+m:=by omega
 have k23:(i:Int)+(m:Int)+((d:Int)+1)<=(i:Int)+1+((d:Int)+1):=by omega
 go_wp2_with (first
  |((refine dU rfl ?_);intro K hK;(refine gU (.tmp 95) (.tmp 96) 142 142 rfl 9 1 16 _ aY gW g i 9 m (i+m+(d+1) - i) (cap - i) (some ⟨g,i,none⟩) cur rfl hr (.slice vo m vc) rfl m news rfl ?_ ?_ Hc1.out (fun _=>rfl) ?_ hone ?_);(focus (exact(bI (by omega)).symm));(focus (rw[Hn.out,aU]));(focus (rw[Hn.out,Hl.out];omega));intro w1 hr1 hk1;refine hK _ _ (Stop.of ?_)))
 refine Stop.on ?_
 go_wp2_with fail
 refine aP (fun _=>True) (fun i=> !([9].contains i)) [0,1,2,3,4,5,6,7,8,9] rfl (by kernel_rfl) trivial ?_
 repeat ((refine bP (v:= ?_) rfl rfl (fun _ _ _ h=>h) rfl (fun W hW=> ?_) ?_);rotate_left;(focus ((try dsimp only at hW);skip;first|(go_simp;first|done|with_reducible rfl)));(try simp only[Act.put,ai,ax,au]))
 refine jO rfl rfl rfl (by kernel_rfl) ?_
 intro K hK
 refine gU (.tmp 103) (.tmp 106) 142 142 rfl 9 1 16 _ aY gW g (i+m) 9 (d+1) (d+1) (cap - (i+m)) (some ⟨g,i+m,none⟩) _ rfl (w:=w1.drew) hr1 (.slice (some ⟨g,i+1,none⟩) (d+1) (cap - (i+1))) rfl (d+1) (xs.drop (i+1)) rfl (iP _).symm (by rw[HD.out,aU]) (Hc2.out _ hr1) (fun _=>rfl) ?_ (fun u hu=>hx1 u (dh hu)) ?_
 ·rw[eP _ _ _ (by rw[Hn.out,Hl.out];omega),HD.out,Hl.out];omega
 intro w2 hr2 hk2
 refine hK.out _ _ (bS ?_)
 go_wp2_with (first
  |((refine dU rfl ?_);intro K hK;(refine og (.tmp 110) 142 rfl 9 1 16 _ aY gW rfl g (i+m+(d+1)) 9 _ _ _ _ rfl hr2 ?_ ?_ ?_ ?_);(focus (intro h0;first|rfl|(exfalso;omega)|(rw[if_neg (by omega)])));(focus (rw[HF1.out,Hl.out];omega));(focus (exact lZ _ _ (by simp[Value.cells,Value.oneCell']) (by simp[Value.cells])));intro w3 zs hz hr3 hk3;refine hK _ _ ?_))
 all_goals
  go_ret
  have hown:=Row.own (k:=1) hr3 (i+m+(d+1)) (by rw[eP _ _ _ (by rw[HF1.out,Hl.out,hz];omega),HF1.out,Hl.out,aU]) hBg hSg (by omega) hc2
  rw[aU,mK _ _ _ _ (aC _) (by rw[HF1.out,Hl.out];omega),HF2.out] at hown
  refine⟨_,rfl,?_,((((Keep.refl (· =g) w).drew.trans hk1 (fun _ _ h=>h)).drew).trans hk2 (fun _ _ h=>h)).trans hk3 (fun _ _ h=>h)⟩
  rw[HL.out,show N=i+m+(d+1) by rw[HN.out];omega]
  first|exact hown|(rw[‹cap=i+m+(d+1)›] at hown;exact hown)
theorem DI (g cap n i:Nat)(xs:List Value)(vv:Value)(m:Nat)(news:List Value)(w:World)(S:Nat->Prop)(B:Nat)(hS:∀g,S g->g<w.heap.size)(hB:B<=w.heap.size)(h:aQ w S B 3 1 (.slice (some ⟨g,0,none⟩) n cap) n xs)(hv:aQ w S B 3 1 vv m news)(hone:∀u∈news,u.oneCell'=true)(hn:n<=1000000)(hm:m<=1000000)(hi:n=i+1)(hm0:0<m):
  Calls Tryz.prog 183 #[.slice (some ⟨g,0,none⟩) n cap,.int .i64 i,.int .i64 ((i:Int)+1),vv] w fun e w'=>∃v',e= .returned v'/\aQ w' S B 3 1 v' (i+m) (xs.take i++news)/\Keep (· =g) w w'/\Below B w w':=by
 obtain⟨cur,hr,hl,hx,hBg,hSg,hc,hc2⟩:=h.row
 have hc3:cap<=9223372036854775807:=by simpa [maxLen] using hc2
 have hh:aQ w S B 3 1 (.slice (some ⟨g,0,none⟩) i cap) i (xs.take i):=by
  have:=Row.own hr i hl hBg hSg (by omega) hc2
  rwa [show cur.take (i*1)=xs.take i by rw[<-hx,dz,aU,aU,bI (by omega)]] at this
 have hsrc:Src Tryz.prog 1 93 vv m news w:=hv.dm.src bf hone
 obtain⟨vo,vc,rfl,v1,v2,v3,v4⟩:=hv.dm.form
 clear h hv hx hl hr
 subst hi
 have k1:(0:Int)<=(i:Int):=by omega
 have k2:(i:Int)<=(cap:Int):=by omega
 have k3:(0:Int)<=(i:Int)+1:=by omega
 have k4:(i:Int)+1<=(cap:Int):=by omega
 have k5:((i:Int)+1).toNat=i+1:=by omega
 have k6:¬(((i+m:Nat):Int)<((i+1:Nat):Int)):=by omega
 have k7:¬((i:Int)+(m:Int)<(i:Int)+1):=by omega
 have Hone:=ah hone;clear hone
 go_enter SY,Ol
 go_wp2_with (at_builtin;(refine cK rfl (.tmp 32) (.tmp 33) 93 93 rfl S B 3 1 8 _ bf gX rfl (.slice (some ⟨g,0,none⟩) i cap) _ _ rfl hh (.slice vo m vc) _ _ rfl hsrc hS hB ?_ ?_ ?_);(focus (unfold maxLen;omega));(focus omega);intro ao1 c1 w1 hown1 hk1 hb1 hd1)
 all_goals
  go_ret
  exact⟨_,rfl,hown1,hk1.mono (fun _ _ h=>by cases h;rfl),hb1⟩
theorem DJ (g cap n i:Nat)(xs:List Value)(vv:Value)(w:World)(S:Nat->Prop)(B:Nat)(h:aQ w S B 3 1 (.slice (some ⟨g,0,none⟩) n cap) n xs)(hv:aQ w S B 3 1 vv 0 [])(hn:n<=1000000)(hi:n=i+1):
  Calls Tryz.prog 183 #[.slice (some ⟨g,0,none⟩) n cap,.int .i64 i,.int .i64 ((i:Int)+1),vv] w fun e w'=>∃v',e= .returned v'/\aQ w' S B 3 1 v' i (xs.take i)/\Keep (· =g) w w':=by
 obtain⟨cur,hr,hl,hx,hBg,hSg,hc,hc2⟩:=h.row
 have hc3:cap<=9223372036854775807:=by simpa [maxLen] using hc2
 have hsrc:Src Tryz.prog 1 93 vv 0 [] w:=hv.dm.src bf (by simp)
 obtain⟨vo,vc,rfl,v1,v2,v3,v4⟩:=hv.dm.form
 clear h hv
 subst hi
 have hx':cur.take i=xs.take i:=by rw[<-hx,dz,aU,bI (by omega)]
 have hll:cur.length=cap:=by omega
 have e1:splice cur i ([]:List Value)=cur:=by simp[splice]
 have hr0:Row w g 3 (splice cur (i*1) [])->Row w g 3 cur:=by rw[aU,e1];exact id
 have k1:(0:Int)<=(i:Int):=by omega
 have k2:(i:Int)<=(cap:Int):=by omega
 have k3:(0:Int)<=(i:Int)+1:=by omega
 have k4:(i:Int)+1<=(cap:Int):=by omega
 have k5:((i:Int)+1).toNat=i+1:=by omega
 have k6:i+1 - i=1:=by omega
 have k7:¬cap=i:=by omega
 have Hl:=ah hll;clear hll hl hx
 have E1:=ah e1;clear e1 hr0
 go_enter SY,Ol
 go_wp2_with (first
  |(refine dU rfl ?_;intro K hK;(refine A9 (.tmp 32) (.tmp 33) 93 93 rfl 3 1 8 _ bf gX g i cap _ cur rfl hr (.slice vo 0 vc) 0 [] rfl hsrc ?_ ?_ ?_);(focus omega);(focus (have:=Hl.out;simp only[bV];omega));intro w1 hr1 hk1;refine hK _ _ ?_)
  |(refine dU rfl ?_;intro K hK;(refine og (.tmp 43) 93 rfl 3 1 8 _ bf gX rfl g i 3 1 _ (some ⟨g,i,none⟩) _ rfl hr1 (fun _=>rfl) ?_ ?_ ?_);(focus (simp only[aU,E1.out,Hl.out];omega));(focus (exact lZ _ _ (by simp[Value.cells,Value.oneCell']) (by simp[Value.cells])));intro w2 zs hz hr2 hk2;refine hK _ _ ?_))
 all_goals
  go_ret
  rw[aU,E1.out] at hr2
  have hlz:(splice cur i zs).length=cap:=by rw[eP _ _ _ (by have:=Hl.out;omega)];exact Hl.out
  have:=Row.own (k:=1) hr2 i (by omega) hBg hSg (by omega) hc2
  rw[aU,mK _ _ _ _ (aC _) (by have:=Hl.out;omega),hx'] at this
  exact⟨_,rfl,this,hk1.trans hk2 (fun _ _ h=>h)⟩
theorem Cb (g cap n i:Nat)(xs:List Value)(vv:Value)(m:Nat)(news:List Value)(w:World)(S:Nat->Prop)(B:Nat)(h:aQ w S B 3 1 (.slice (some ⟨g,0,none⟩) n cap) n xs)(hx1:∀u∈xs,u.oneCell'=true)(hv:aQ w S B 3 1 vv m news)(hvg:vv.ownBlock≠some g)(hone:∀u∈news,u.oneCell'=true)(hn:n<=1000000)(hi:i+1<n)(hm:m<=1)(N:Nat)(L:List Value)(hN:N=n - 1+m)(hL:L=xs.take i++news++xs.drop (i+1)):
  Calls Tryz.prog 183 #[.slice (some ⟨g,0,none⟩) n cap,.int .i64 i,.int .i64 ((i:Int)+1),vv] w fun e w'=>∃v',e= .returned v'/\aQ w' S B 3 1 v' N L/\Keep (· =g) w w':=by
 obtain⟨cur,hr,hl,hx,hBg,hSg,hc,hc2⟩:=h.row
 have hc3:cap<=9223372036854775807:=by simpa [maxLen] using hc2
 have hnl:news.length=m:=by have:=hv.1.1;omega
 have hll:cur.length=cap:=by omega
 have hx':cur.take n=xs:=by rw[<-hx,aU]
 obtain⟨vo,vc,rfl,v1,v2,v3,v4⟩:=hv.dm.form
 have hvs:=hv.dm
 clear h hv hl hx
 obtain⟨d,rfl⟩:∃d,n=i+1+(d+1):=⟨n - (i+2),by omega⟩
 have HN:=ah hN;clear hN
 have HL:=ah hL;clear hL
 have k1:(0:Int)<=(i:Int):=by omega
 have k2:(i:Int)<=(cap:Int):=by omega
 have k3:(0:Int)<=(i:Int)+1:=by omega
 have k4:(i:Int)+1<=(cap:Int):=by omega
 have k5:((i:Int)+1).toNat=i+1:=by omega
 have Hl:=ah hll;clear hll
 have Hx:=ah hx';clear hx'
 have Hn:=ah hnl;clear hnl
 go_enter SY,Ol
 have k6:¬cap=i+1:=by omega
 have k7:(i:Int)+1<=(i:Int)+1+((d:Int)+1):=by omega
 have k8:IntKind.i64.wrap ((i:Int)+(m:Int))=(i:Int)+(m:Int):=aG _ (by omega)
 have k9:i+1+(d+1) - (i+1)=d+1:=by omega
 have k10:IntKind.i64.wrap ((i:Int)+(m:Int)+((d:Int)+1))=(i:Int)+(m:Int)+((d:Int)+1):=aG _ (by omega)
 have k11:¬((cap:Int)<(i:Int)+(m:Int)+((d:Int)+1)):=by omega
 have k12:((i:Int)+(m:Int)+((d:Int)+1)).toNat=i+m+(d+1):=by omega
 have k13:(0:Int)<=(i:Int)+(m:Int)+((d:Int)+1):=by omega
 have k14:(i:Int)+(m:Int)+((d:Int)+1)<=cap:=by omega
 have k15:(i:Int)+(m:Int)<=(i:Int)+1:=by omega
 have k16:(i:Int)<=(i:Int)+(m:Int)+((d:Int)+1):=by omega
 have k17:¬cap=i:=by omega
 go_wp2_with fail
 refine aP (fun _=>True) (fun _=>true) [0,1,2,3,4,5,6,7,8,9,10,11,12] rfl (by kernel_rfl) trivial ?_
 repeat ((refine bP (v:= ?_) rfl rfl (fun _ _ _ h=>h) rfl (fun W hW=> ?_) ?_);rotate_left;(focus ((try dsimp only at hW);skip;first|(go_simp;first|done|with_reducible rfl)));(try simp only[Act.put,ai,ax,au]))
 refine bS ?_
 have hD:(xs.drop (i+1)).length=d+1:=by rw[aN,<-Hx.out,aH,Hl.out];omega
 have hT:cur.take i=xs.take i:=by rw[<-Hx.out,dz,bI (by omega)]
 obtain⟨hF1,hF2⟩:=Bd cur news (xs.drop (i+1)) i (by rw[Hn.out,hD,Hl.out];omega)
 rw[Hn.out,hD,hT] at hF2
 rw[Hn.out] at hF1
 have hcs1:(Builtin.firstCells 1 m (.slice vo m vc)).run Tryz.prog w.drew= .ok news.toArray w.drew:=by
  have h1:=aX.first (P:=Tryz.prog) (w:=w.drew) (hvs.keep fun _ _ _ h=>⟨rfl,h⟩) m (aC _)
  rwa [aJ (by rw[Hn.out];omega)] at h1
 have hcs2:∀W,Row W g 3 (splice cur i news)->(Builtin.firstCells 1 (d+1) (.slice (some ⟨g,i+1,none⟩) (d+1) (cap - (i+1)))).run Tryz.prog W= .ok (xs.drop (i+1)).toArray W:=by
  intro W hW
  have h1:=(Row.dm (S:=fZ) (k:=1) (off:=i+1) hW (d+1) (cap - (i+1)) (by rw[eP _ _ _ (by rw[Hn.out,Hl.out];omega),Hl.out];omega) id (by omega) (by unfold maxLen;omega)).first (P:=Tryz.prog) (d+1) (aC _)
  rw[dz,iP,qU _ _ _ _ (by rw[Hn.out];omega) (by rw[Hl.out];omega),aU] at h1
  rwa [show (cur.drop (i+1)).take (d+1)=xs.drop (i+1) by rw[<-Hx.out,gV];congr 1;omega] at h1
 have HD:=ah hD;clear hD
 have HT:=ah hT;clear hT
 have HF1:=ah hF1;clear hF1
 have HF2:=ah hF2;clear hF2
 have Hc1:=ah hcs1;clear hcs1
 have Hc2:=ah hcs2;clear hcs2
 have k18:¬cap=i+m:=by omega
 have k19:i+m+(d+1) - (i+m)=d+1:=by omega
 have k20:(0:Int)<=(i:Int)+(m:Int):=by omega
 have k21:(i:Int)+(m:Int)<=(i:Int)+(m:Int)+((d:Int)+1):=by omega
 have k22:((i:Int)+(m:Int)).toNat=i+m:=by omega
 have k23:(i:Int)+(m:Int)+((d:Int)+1)<=(i:Int)+1+((d:Int)+1):=by omega
 go_wp2_with (first
  |((refine dU rfl ?_);intro K hK;(refine gU (.tmp 95) (.tmp 96) 93 93 rfl 3 1 8 _ bf gX g i 3 m (i+m+(d+1) - i) (cap - i) (some ⟨g,i,none⟩) cur rfl hr (.slice vo m vc) rfl m news rfl ?_ ?_ Hc1.out (fun _=>rfl) ?_ hone ?_);(focus (exact(bI (by omega)).symm));(focus (rw[Hn.out,aU]));(focus (rw[Hn.out,Hl.out];omega));intro w1 hr1 hk1;refine hK _ _ (Stop.of ?_)))
 refine Stop.on ?_
 go_wp2_with fail
 refine aP (fun _=>True) (fun i=> !([9].contains i)) [0,1,2,3,4,5,6,7,8,9] rfl (by kernel_rfl) trivial ?_
 repeat ((refine bP (v:= ?_) rfl rfl (fun _ _ _ h=>h) rfl (fun W hW=> ?_) ?_);rotate_left;(focus ((try dsimp only at hW);skip;first|(go_simp;first|done|with_reducible rfl)));(try simp only[Act.put,ai,ax,au]))
 refine jO rfl rfl rfl (by kernel_rfl) ?_
 intro K hK
 refine gU (.tmp 103) (.tmp 106) 93 93 rfl 3 1 8 _ bf gX g (i+m) 3 (d+1) (d+1) (cap - (i+m)) (some ⟨g,i+m,none⟩) _ rfl (w:=w1.drew) hr1 (.slice (some ⟨g,i+1,none⟩) (d+1) (cap - (i+1))) rfl (d+1) (xs.drop (i+1)) rfl (iP _).symm (by rw[HD.out,aU]) (Hc2.out _ hr1) (fun _=>rfl) ?_ (fun u hu=>hx1 u (dh hu)) ?_
 ·rw[eP _ _ _ (by rw[Hn.out,Hl.out];omega),HD.out,Hl.out];omega
 intro w2 hr2 hk2
 refine hK.out _ _ (bS ?_)
 go_wp2_with (first
  |((refine dU rfl ?_);intro K hK;(refine og (.tmp 110) 93 rfl 3 1 8 _ bf gX rfl g (i+m+(d+1)) 3 _ _ _ _ rfl hr2 ?_ ?_ ?_ ?_);(focus (intro h0;first|rfl|(exfalso;omega)|(rw[if_neg (by omega)])));(focus (rw[HF1.out,Hl.out];omega));(focus (exact lZ _ _ (by simp[Value.cells,Value.oneCell']) (by simp[Value.cells])));intro w3 zs hz hr3 hk3;refine hK _ _ ?_))
 all_goals
  go_ret
  have hown:=Row.own (k:=1) hr3 (i+m+(d+1)) (by rw[eP _ _ _ (by rw[HF1.out,Hl.out,hz];omega),HF1.out,Hl.out,aU]) hBg hSg (by omega) hc2
  rw[aU,mK _ _ _ _ (aC _) (by rw[HF1.out,Hl.out];omega),HF2.out] at hown
  refine⟨_,rfl,?_,((((Keep.refl (· =g) w).drew.trans hk1 (fun _ _ h=>h)).drew).trans hk2 (fun _ _ h=>h)).trans hk3 (fun _ _ h=>h)⟩
  rw[HL.out,show N=i+m+(d+1) by rw[HN.out];omega]
  first|exact hown|(rw[‹cap=i+m+(d+1)›] at hown;exact hown)
theorem BV (g cap n i:Nat)(xs:List Value)(vb vc m:Nat)(news:List Value)(w:World)(S:Nat->Prop)(B:Nat)(h:aQ w S B 9 1 (.slice (some ⟨g,0,none⟩) n cap) n xs)(hx1:∀u∈xs,u.oneCell'=true)(hv:aQ w S B 9 1 (.slice (some ⟨vb,0,none⟩) m vc) m news)(hvg:vb≠g)(hone:∀u∈news,u.oneCell'=true)(hn:n<=1000000)(hmm:m<=1000000)(hi:i+1<n)(hm:2<=m)(hroom:n - 1+m<=cap)(N:Nat)(L:List Value)(hN:N=n - 1+m)(hL:L=xs.take i++news++xs.drop (i+1)):
  Calls Tryz.prog 182 #[.slice (some ⟨g,0,none⟩) n cap,.int .i64 i,.int .i64 ((i:Int)+1),.slice (some ⟨vb,0,none⟩) m vc] w fun e w'=>∃v',e= .returned v'/\aQ w' S B 9 1 v' N L/\Keep (· =g) w w':=by
 obtain⟨cur,hr,hl,hx,hBg,hSg,hc,hc2⟩:=h.row
 obtain⟨curv,hrv,hlv,_,_,_,hcv,hcv2⟩:=hv.row
 have hc3:cap<=9223372036854775807:=by simpa [maxLen] using hc2
 have hcv3:vc<=9223372036854775807:=by simpa [maxLen] using hcv2
 have hnl:news.length=m:=by have:=hv.1.1;omega
 have hll:cur.length=cap:=by omega
 have hllv:curv.length=vc:=by omega
 have hx':cur.take n=xs:=by rw[<-hx,aU]
 have hvs:=hv.dm
 clear h hv hl hx hlv
 obtain⟨d,rfl⟩:∃d,n=i+1+(d+1):=⟨n - (i+2),by omega⟩
 have hov:(callFunc 204 #[.slice (some ⟨g,i+m,none⟩) (d+1) (cap - (i+m)),.slice (some ⟨vb,0,none⟩) m vc]).run Tryz.prog w.drew= .ok (.value (.bool false)) w.drew:=by
  rw[AP Tryz.func204 (by kernel_rfl) (by kernel_rfl) (by kernel_rfl) (e:=Extern.SlicesOverlaps.overlaps #[142,142] #[4]) (by kernel_rfl)]
  rw[Lib.run_overlaps_apart w.drew 142 4 9 aY 1 (fun w=>by kernel_rfl) ⟨g,i+m,none⟩ ⟨vb,0,none⟩ (d+1) (cap - (i+m)) m vc (Ne.symm hvg) 9 9 cap vc
   (by have hr':w.drew.heap[g]? =_:=hr;simp[World.shape?,hr',hll]) (by have hr':w.drew.heap[vb]? =_:=hrv;simp[World.shape?,hr',hllv]) (by omega) (hr.frozen _) (hr.frozen _)]
  rfl
 have HN:=ah hN;clear hN
 have HL:=ah hL;clear hL
 have k1:(0:Int)<=(i:Int):=by omega
 have k2:(i:Int)<=(cap:Int):=by omega
 have k3:(0:Int)<=(i:Int)+1:=by omega
 have k4:(i:Int)+1<=(cap:Int):=by omega
 have k5:((i:Int)+1).toNat=i+1:=by omega
 have Hl:=ah hll;clear hll
 have Hx:=ah hx';clear hx'
 have Hn:=ah hnl;clear hnl
 have k6:¬cap=i+1:=by omega
 have k7:(i:Int)+1<=(i:Int)+1+((d:Int)+1):=by omega
 have k8:IntKind.i64.wrap ((i:Int)+(m:Int))=(i:Int)+(m:Int):=aG _ (by omega)
 have k9:i+1+(d+1) - (i+1)=d+1:=by omega
 have k10:IntKind.i64.wrap ((i:Int)+(m:Int)+((d:Int)+1))=(i:Int)+(m:Int)+((d:Int)+1):=aG _ (by omega)
 have k11:¬((cap:Int)<(i:Int)+(m:Int)+((d:Int)+1)):=by omega
 have k12:((i:Int)+(m:Int)+((d:Int)+1)).toNat=i+m+(d+1):=by omega
 have k13:(0:Int)<=(i:Int)+(m:Int)+((d:Int)+1):=by omega
 have k14:(i:Int)+(m:Int)+((d:Int)+1)<=cap:=by omega
 have k15:¬((i:Int)+(m:Int)<=(i:Int)+1):=by omega
 have k16:(i:Int)<=(i:Int)+(m:Int)+((d:Int)+1):=by omega
 have k17:¬cap=i:=by omega
 have hD:(xs.drop (i+1)).length=d+1:=by rw[aN,<-Hx.out,aH,Hl.out];omega
 have hT:cur.take i=xs.take i:=by rw[<-Hx.out,dz,bI (by omega)]
 obtain⟨hF1,hF2⟩:=Lx cur news (xs.drop (i+1)) i (by rw[Hn.out,hD,Hl.out];omega)
 rw[Hn.out,hD,hT] at hF2
 rw[Hn.out] at hF1
 have hcs1:∀W,Keep (· =g) w W->(Builtin.firstCells 1 m (.slice (some ⟨vb,0,none⟩) m vc)).run Tryz.prog W= .ok news.toArray W:=by
  intro W hW
  have h1:=aX.first (P:=Tryz.prog) (w:=W) (hvs.keep fun g' hg hl hs=>⟨hW.block g' hl (fun e=>hvg (by cases hg;exact e)),hs⟩) m (aC _)
  rwa [aJ (by rw[Hn.out];omega)] at h1
 have hcs2:(Builtin.firstCells 1 (d+1) (.slice (some ⟨g,i+1,none⟩) (d+1) (cap - (i+1)))).run Tryz.prog w.drew.drew= .ok (xs.drop (i+1)).toArray w.drew.drew:=by
  have h1:=(Row.dm (w:=w.drew.drew) (S:=fZ) (k:=1) (off:=i+1) hr (d+1) (cap - (i+1)) (by rw[Hl.out];omega) id (by omega) (by unfold maxLen;omega)).first (P:=Tryz.prog) (d+1) (aC _)
  rw[dz,iP,aU] at h1
  rwa [show (cur.drop (i+1)).take (d+1)=xs.drop (i+1) by rw[<-Hx.out,gV];congr 1;omega] at h1
 have HD:=ah hD;clear hD
 have HT:=ah hT;clear hT
 have HF1:=ah hF1;clear hF1
 have HF2:=ah hF2;clear hF2
 have Hc1:=ah hcs1;clear hcs1
 have Hc2:=ah hcs2;clear hcs2
 have k18:¬cap=i+m:=by omega
 have k19:i+m+(d+1) - (i+m)=d+1:=by omega
 have k20:(0:Int)<=(i:Int)+(m:Int):=by omega
 have k21:(i:Int)+(m:Int)<=(i:Int)+(m:Int)+((d:Int)+1):=by omega
 have k22:((i:Int)+(m:Int)).toNat=i+m:=by omega
 go_enter S9,Om
 go_wp2_with fail
 refine aP (fun _=>True) (fun _=>true) [0,1,2,3,4,5,6,7,8,9,10,11,12] rfl (by kernel_rfl) trivial ?_
 repeat ((refine bP (v:= ?_) rfl rfl (fun _ _ _ h=>h) rfl (fun W hW=> ?_) ?_);rotate_left;(focus ((try dsimp only at hW);skip;first|(go_simp;first|done|with_reducible rfl)));(try simp only[Act.put,ai,ax,au]))
 refine bS ?_
 go_wp2_with fail
 refine aP (fun _=>True) (fun i=> !([9].contains i)) [0,1,2,3,4,5,6,7,8,9] rfl (by kernel_rfl) trivial ?_
 repeat ((refine bP (v:= ?_) rfl rfl (fun _ _ _ h=>h) rfl (fun W hW=> ?_) ?_);rotate_left;(focus ((try dsimp only at hW);skip;first|(go_simp;first|done|with_reducible rfl)));(try simp only[Act.put,ai,ax,au]))
 refine jO rfl rfl rfl (by kernel_rfl) ?_
 intro K hK
 refine gU (.tmp 126) (.tmp 129) 142 142 rfl 9 1 16 _ aY gW g (i+m) 9 (d+1) (d+1) (cap - (i+m)) (some ⟨g,i+m,none⟩) _ rfl (w:=w.drew.drew) hr (.slice (some ⟨g,i+1,none⟩) (d+1) (cap - (i+1))) rfl (d+1) (xs.drop (i+1)) rfl (iP _).symm (by rw[HD.out,aU]) Hc2.out (fun _=>rfl) ?_ (fun u hu=>hx1 u (dh hu)) ?_
 ·rw[HD.out,Hl.out];omega
 intro w2 hr2 hk2
 refine hK.out _ _ (bS ?_)
 have hkk:Keep (· =g) w w2:=(Keep.refl (· =g) w).drew.drew.trans hk2 (fun _ _ h=>h)
 go_wp2_with (first
  |((refine dU rfl ?_);intro K hK;(refine gU (.tmp 133) (.tmp 134) 142 142 rfl 9 1 16 _ aY gW g i 9 m (i+m+(d+1) - i) (cap - i) (some ⟨g,i,none⟩) _ rfl hr2 (.slice (some ⟨vb,0,none⟩) m vc) rfl m news rfl ?_ ?_ (Hc1.out _ hkk) (fun _=>rfl) ?_ hone ?_);(focus (exact(bI (by omega)).symm));(focus (rw[Hn.out,aU]));(focus (rw[eP _ _ _ (by rw[HD.out,Hl.out];omega),Hn.out,Hl.out];omega));intro w3 hr3 hk3;refine hK _ _ ?_))
 go_ret
 have hown:=Row.own (k:=1) hr3 (i+m+(d+1)) (by rw[HF1.out,Hl.out,aU]) hBg hSg (by omega) hc2
 rw[aU,HF2.out] at hown
 refine⟨_,rfl,?_,hkk.trans hk3 (fun _ _ h=>h)⟩
 rw[HL.out,show N=i+m+(d+1) by rw[HN.out];omega]
 exact hown
theorem Ca (g cap n i:Nat)(xs:List Value)(vb vc m:Nat)(news:List Value)(w:World)(S:Nat->Prop)(B:Nat)(h:aQ w S B 3 1 (.slice (some ⟨g,0,none⟩) n cap) n xs)(hx1:∀u∈xs,u.oneCell'=true)(hv:aQ w S B 3 1 (.slice (some ⟨vb,0,none⟩) m vc) m news)(hvg:vb≠g)(hone:∀u∈news,u.oneCell'=true)(hn:n<=1000000)(hmm:m<=1000000)(hi:i+1<n)(hm:2<=m)(hroom:n - 1+m<=cap)(N:Nat)(L:List Value)(hN:N=n - 1+m)(hL:L=xs.take i++news++xs.drop (i+1)):
  Calls Tryz.prog 183 #[.slice (some ⟨g,0,none⟩) n cap,.int .i64 i,.int .i64 ((i:Int)+1),.slice (some ⟨vb,0,none⟩) m vc] w fun e w'=>∃v',e= .returned v'/\aQ w' S B 3 1 v' N L/\Keep (· =g) w w':=by
 obtain⟨cur,hr,hl,hx,hBg,hSg,hc,hc2⟩:=h.row
 obtain⟨curv,hrv,hlv,_,_,_,hcv,hcv2⟩:=hv.row
 have hc3:cap<=9223372036854775807:=by simpa [maxLen] using hc2
 have hcv3:vc<=9223372036854775807:=by simpa [maxLen] using hcv2
 have hnl:news.length=m:=by have:=hv.1.1;omega
 have hll:cur.length=cap:=by omega
 have hllv:curv.length=vc:=by omega
 have hx':cur.take n=xs:=by rw[<-hx,aU]
 have hvs:=hv.dm
 clear h hv hl hx hlv
 obtain⟨d,rfl⟩:∃d,n=i+1+(d+1):=⟨n - (i+2),by omega⟩
 have hov:(callFunc 208 #[.slice (some ⟨g,i+m,none⟩) (d+1) (cap - (i+m)),.slice (some ⟨vb,0,none⟩) m vc]).run Tryz.prog w.drew= .ok (.value (.bool false)) w.drew:=by
  rw[AP Tryz.func208 (by kernel_rfl) (by kernel_rfl) (by kernel_rfl) (e:=Extern.SlicesOverlaps.overlaps #[93,93] #[4]) (by kernel_rfl)]
  rw[Lib.run_overlaps_apart w.drew 93 4 3 bf 1 (fun w=>by kernel_rfl) ⟨g,i+m,none⟩ ⟨vb,0,none⟩ (d+1) (cap - (i+m)) m vc (Ne.symm hvg) 3 3 cap vc
   (by have hr':w.drew.heap[g]? =_:=hr;simp[World.shape?,hr',hll]) (by have hr':w.drew.heap[vb]? =_:=hrv;simp[World.shape?,hr',hllv]) (by omega) (hr.frozen _) (hr.frozen _)]
  rfl
 have HN:=ah hN;clear hN
 have HL:=ah hL;clear hL
 have k1:(0:Int)<=(i:Int):=by omega
 have k2:(i:Int)<=(cap:Int):=by omega
 have k3:(0:Int)<=(i:Int)+1:=by omega
 have k4:(i:Int)+1<=(cap:Int):=by omega
 have k5:((i:Int)+1).toNat=i+1:=by omega
 have Hl:=ah hll;clear hll
 have Hx:=ah hx';clear hx'
 have Hn:=ah hnl;clear hnl
 have k6:¬cap=i+1:=by omega
 have k7:(i:Int)+1<=(i:Int)+1+((d:Int)+1):=by omega
 have k8:IntKind.i64.wrap ((i:Int)+(m:Int))=(i:Int)+(m:Int):=aG _ (by omega)
 have k9:i+1+(d+1) - (i+1)=d+1:=by omega
 have k10:IntKind.i64.wrap ((i:Int)+(m:Int)+((d:Int)+1))=(i:Int)+(m:Int)+((d:Int)+1):=aG _ (by omega)
 have k11:¬((cap:Int)<(i:Int)+(m:Int)+((d:Int)+1)):=by omega
 have k12:((i:Int)+(m:Int)+((d:Int)+1)).toNat=i+m+(d+1):=by omega
 have k13:(0:Int)<=(i:Int)+(m:Int)+((d:Int)+1):=by omega
 have k14:(i:Int)+(m:Int)+((d:Int)+1)<=cap:=by omega
 have k15:¬((i:Int)+(m:Int)<=(i:Int)+1):=by omega
 have k16:(i:Int)<=(i:Int)+(m:Int)+((d:Int)+1):=by omega
 have k17:¬cap=i:=by omega
 have hD:(xs.drop (i+1)).length=d+1:=by rw[aN,<-Hx.out,aH,Hl.out];omega
 have hT:cur.take i=xs.take i:=by rw[<-Hx.out,dz,bI (by omega)]
 obtain⟨hF1,hF2⟩:=Lx cur news (xs.drop (i+1)) i (by rw[Hn.out,hD,Hl.out];omega)
 rw[Hn.out,hD,hT] at hF2
 rw[Hn.out] at hF1
 have hcs1:∀W,Keep (· =g) w W->(Builtin.firstCells 1 m (.slice (some ⟨vb,0,none⟩) m vc)).run Tryz.prog W= .ok news.toArray W:=by
  intro W hW
  have h1:=aX.first (P:=Tryz.prog) (w:=W) (hvs.keep fun g' hg hl hs=>⟨hW.block g' hl (fun e=>hvg (by cases hg;exact e)),hs⟩) m (aC _)
  rwa [aJ (by rw[Hn.out];omega)] at h1
 have hcs2:(Builtin.firstCells 1 (d+1) (.slice (some ⟨g,i+1,none⟩) (d+1) (cap - (i+1)))).run Tryz.prog w.drew.drew= .ok (xs.drop (i+1)).toArray w.drew.drew:=by
  have h1:=(Row.dm (w:=w.drew.drew) (S:=fZ) (k:=1) (off:=i+1) hr (d+1) (cap - (i+1)) (by rw[Hl.out];omega) id (by omega) (by unfold maxLen;omega)).first (P:=Tryz.prog) (d+1) (aC _)
  rw[dz,iP,aU] at h1
  rwa [show (cur.drop (i+1)).take (d+1)=xs.drop (i+1) by rw[<-Hx.out,gV];congr 1;omega] at h1
 have HD:=ah hD;clear hD
 have HT:=ah hT;clear hT
 have HF1:=ah hF1;clear hF1
 have HF2:=ah hF2;clear hF2
 have Hc1:=ah hcs1;clear hcs1
 have Hc2:=ah hcs2;clear hcs2
 have k18:¬cap=i+m:=by omega
 have k19:i+m+(d+1) - (i+m)=d+1:=by omega
 have k20:(0:Int)<=(i:Int)+(m:Int):=by omega
 have k21:(i:Int)+(m:Int)<=(i:Int)+(m:Int)+((d:Int)+1):=by omega
 have k22:((i:Int)+(m:Int)).toNat=i+m:=by omega
 go_enter SY,Ol
 go_wp2_with fail
 refine aP (fun _=>True) (fun _=>true) [0,1,2,3,4,5,6,7,8,9,10,11,12] rfl (by kernel_rfl) trivial ?_
 repeat ((refine bP (v:= ?_) rfl rfl (fun _ _ _ h=>h) rfl (fun W hW=> ?_) ?_);rotate_left;(focus ((try dsimp only at hW);skip;first|(go_simp;first|done|with_reducible rfl)));(try simp only[Act.put,ai,ax,au]))
 refine bS ?_
 go_wp2_with fail
 refine aP (fun _=>True) (fun i=> !([9].contains i)) [0,1,2,3,4,5,6,7,8,9] rfl (by kernel_rfl) trivial ?_
 repeat ((refine bP (v:= ?_) rfl rfl (fun _ _ _ h=>h) rfl (fun W hW=> ?_) ?_);rotate_left;(focus ((try dsimp only at hW);skip;first|(go_simp;first|done|with_reducible rfl)));(try simp only[Act.put,ai,ax,au]))
 refine jO rfl rfl rfl (by kernel_rfl) ?_
 intro K hK
 refine gU (.tmp 126) (.tmp 129) 93 93 rfl 3 1 8 _ bf gX g (i+m) 3 (d+1) (d+1) (cap - (i+m)) (some ⟨g,i+m,none⟩) _ rfl (w:=w.drew.drew) hr (.slice (some ⟨g,i+1,none⟩) (d+1) (cap - (i+1))) rfl (d+1) (xs.drop (i+1)) rfl (iP _).symm (by rw[HD.out,aU]) Hc2.out (fun _=>rfl) ?_ (fun u hu=>hx1 u (dh hu)) ?_
 ·rw[HD.out,Hl.out];omega
 intro w2 hr2 hk2
 refine hK.out _ _ (bS ?_)
 have hkk:Keep (· =g) w w2:=(Keep.refl (· =g) w).drew.drew.trans hk2 (fun _ _ h=>h)
 go_wp2_with (first
  |((refine dU rfl ?_);intro K hK;(refine gU (.tmp 133) (.tmp 134) 93 93 rfl 3 1 8 _ bf gX g i 3 m (i+m+(d+1) - i) (cap - i) (some ⟨g,i,none⟩) _ rfl hr2 (.slice (some ⟨vb,0,none⟩) m vc) rfl m news rfl ?_ ?_ (Hc1.out _ hkk) (fun _=>rfl) ?_ hone ?_);(focus (exact(bI (by omega)).symm));(focus (rw[Hn.out,aU]));(focus (rw[eP _ _ _ (by rw[HD.out,Hl.out];omega),Hn.out,Hl.out];omega));intro w3 hr3 hk3;refine hK _ _ ?_))
 go_ret
 have hown:=Row.own (k:=1) hr3 (i+m+(d+1)) (by rw[HF1.out,Hl.out,aU]) hBg hSg (by omega) hc2
 rw[aU,HF2.out] at hown
 refine⟨_,rfl,?_,hkk.trans hk3 (fun _ _ h=>h)⟩
 rw[HL.out,show N=i+m+(d+1) by rw[HN.out];omega]
 exact hown
theorem BZ (g cap n i:Nat)(xs:List Value)(vb vc m:Nat)(news:List Value)(w:World)(S:Nat->Prop)(B:Nat)(hS:∀g,S g->g<w.heap.size)(hB:B<=w.heap.size)(h:aQ w S B 9 1 (.slice (some ⟨g,0,none⟩) n cap) n xs)(hx1:∀u∈xs,u.oneCell'=true)(hv:aQ w S B 9 1 (.slice (some ⟨vb,0,none⟩) m vc) m news)(hone:∀u∈news,u.oneCell'=true)(hn:n<=1000000)(hmm:m<=1000000)(hi:i+1<n)(hroom:cap<n - 1+m)(N:Nat)(L:List Value)(hN:N=n - 1+m)(hL:L=xs.take i++news++xs.drop (i+1)):
  Calls Tryz.prog 182 #[.slice (some ⟨g,0,none⟩) n cap,.int .i64 i,.int .i64 ((i:Int)+1),.slice (some ⟨vb,0,none⟩) m vc] w fun e w'=>∃v',e= .returned v'/\aQ w' S B 9 1 v' N L/\Keep fZ w w':=by
 obtain⟨cur,hr,hl,hx,hBg,hSg,hc,hc2⟩:=h.row
 have hc3:cap<=9223372036854775807:=by simpa [maxLen] using hc2
 have hnl:news.length=m:=by have:=hv.1.1;omega
 have hll:cur.length=cap:=by omega
 have hx':cur.take n=xs:=by rw[<-hx,aU]
 have hvs:=hv.dm
 obtain⟨vo,vc',e0,v1,v2,_,_⟩:=hv.dm.form
 cases e0
 clear h hv hl hx
 obtain⟨d,rfl⟩:∃d,n=i+1+(d+1):=⟨n - (i+2),by omega⟩
 have HN:=ah hN;clear hN
 have HL:=ah hL;clear hL
 have k1:(0:Int)<=(i:Int):=by omega
 have k2:(i:Int)<=(cap:Int):=by omega
 have k3:(0:Int)<=(i:Int)+1:=by omega
 have k4:(i:Int)+1<=(cap:Int):=by omega
 have k5:((i:Int)+1).toNat=i+1:=by omega
 have Hl:=ah hll;clear hll
 have Hx:=ah hx';clear hx'
 have Hn:=ah hnl;clear hnl
 have k6:¬cap=i+1:=by omega
 have k7:(i:Int)+1<=(i:Int)+1+((d:Int)+1):=by omega
 have k8:IntKind.i64.wrap ((i:Int)+(m:Int))=(i:Int)+(m:Int):=aG _ (by omega)
 have k9:i+1+(d+1) - (i+1)=d+1:=by omega
 have k10:IntKind.i64.wrap ((i:Int)+(m:Int)+((d:Int)+1))=(i:Int)+(m:Int)+((d:Int)+1):=aG _ (by omega)
 have k11:(cap:Int)<(i:Int)+(m:Int)+((d:Int)+1):=by omega
 have k17:¬cap=i:=by omega
 have k18:(i:Int)+(m:Int)+((d:Int)+1) - (i:Int)=((m+(d+1):Nat):Int):=by omega
 have k19:i+(m+(d+1))=i+m+(d+1):=by omega
 have k20:(0:Int)<=(i:Int)+(m:Int):=by omega
 have k22:((i:Int)+(m:Int)).toNat=i+m:=by omega
 have hD:(xs.drop (i+1)).length=d+1:=by rw[aN,<-Hx.out,aH,Hl.out];omega
 have hT:cur.take i=xs.take i:=by rw[<-Hx.out,dz,bI (by omega)]
 have hgl:g<w.heap.size:=hr.lt
 have HD:=ah hD;clear hD
 have HT:=ah hT;clear hT
 go_enter S9,Om
 go_wp2_with fail
 refine aP (fun _=>True) (fun _=>true) [0,1,2,3,4,5,6,7,8,9,10,11,12] rfl (by kernel_rfl) trivial ?_
 repeat ((refine bP (v:= ?_) rfl rfl (fun _ _ _ h=>h) rfl (fun W hW=> ?_) ?_);rotate_left;(focus ((try dsimp only at hW);skip;first|(go_simp;first|done|with_reducible rfl)));(try simp only[Act.put,ai,ax,au]))
 refine bS ?_
 go_wp2_with (first|(at_builtin;(refine dU rfl ?_);intro K hK;go_must ((refine sU (w:=w.drew) (.tmp 63) (.tmp 66) 142 3 rfl 9 1 16 _ aY jo gW rfl (by omega) g i cap (m+(d+1)) cur rfl ?_ hr ?_ ?_ ?_ ?_ ?_ ?_);(focus (first|rfl|(show Value.int _ _=_;congr 1;first|done|omega)));(focus (rw[Hl.out];omega));(focus omega);(focus omega);(focus (unfold maxLen;omega));(focus omega);intro c1 w1 rest hr1 hl1 hc1 hc1' hk1;refine hK _ _ (Stop.of ?_))))
 have hr1:Row w1 w.heap.size 9 (cur.take i++rest):=by rw[aU] at hr1;exact hr1
 have hl1:(cur.take i++rest).length=c1:=by rw[aU,aU] at hl1;exact hl1
 have hk1:Keep fZ w w1:=(Keep.refl fZ w).drew.trans hk1 (fun _ _ h=>h)
 have k12:¬c1=i:=by omega
 have k14:¬c1=i+m:=by omega
 have k15:(i:Int)<=(c1:Int):=by omega
 have k16:(i:Int)+(m:Int)<=(i:Int)+(m:Int)+((d:Int)+1):=by omega
 have hc1'':c1<=9223372036854775807:=by simpa [maxLen] using hc1'
 have hci:(cur.take i).length=i:=by rw[aH,Hl.out];omega
 obtain⟨hF1,hF2⟩:=Bd (cur.take i++rest) news (xs.drop (i+1)) i (by rw[Hn.out,HD.out,hl1];omega)
 rw[Hn.out,HD.out,gQ hci] at hF2
 rw[Hn.out] at hF1
 have hcs1:(Builtin.firstCells 1 m (.slice (some ⟨vb,0,none⟩) m vc)).run Tryz.prog w1= .ok news.toArray w1:=by
  have h1:=aX.first (P:=Tryz.prog) (w:=w1) (hvs.keep fun g' hg hl hs=>⟨hk1.block g' hl id,hs⟩) m (aC _)
  rwa [aJ (by rw[Hn.out];omega)] at h1
 have Hl1:=ah hl1;clear hl1
 have HF1:=ah hF1;clear hF1
 have HF2:=ah hF2;clear hF2
 have Hc1:=ah hcs1;clear hcs1
 have Hci:=ah hci;clear hci
 refine Stop.on ?_
 go_wp2_with (first|((refine dU rfl ?_);intro K hK;(refine gU (.tmp 70) (.tmp 71) 142 142 rfl 9 1 16 _ aY gW w.heap.size i 9 m (i+m+(d+1) - i) (c1 - i) (some ⟨w.heap.size,i,none⟩) _ ?_ hr1 (.slice (some ⟨vb,0,none⟩) m vc) rfl m news rfl ?_ ?_ Hc1.out (fun _=>rfl) ?_ hone ?_);go_must ((focus (first|rfl|(show Value.slice _ _ _=_;congr 1;omega)));(focus (exact(bI (by omega)).symm));(focus (rw[Hn.out,aU]));(focus (rw[Hl1.out,Hn.out];omega));intro w2 hr2 hk2;refine hK _ _ (Stop.of ?_))))
 have hkk:Keep fZ w w2:=hk1.trans hk2 (fun _ hl e=>absurd hl (by omega))
 have hg2:Row w2 g 9 cur:=hr.keep hkk id
 have hcs:(Builtin.firstCells 1 (d+1) (.slice (some ⟨g,i+1,none⟩) (d+1) (cap - (i+1)))).run Tryz.prog w2.drew= .ok (xs.drop (i+1)).toArray w2.drew:=by
  have h1:=(Row.dm (w:=w2.drew) (S:=fZ) (k:=1) (off:=i+1) hg2 (d+1) (cap - (i+1)) (by rw[Hl.out];omega) id (by omega) (by unfold maxLen;omega)).first (P:=Tryz.prog) (d+1) (aC _)
  rw[dz,iP,aU] at h1
  rwa [show (cur.drop (i+1)).take (d+1)=xs.drop (i+1) by rw[<-Hx.out,gV];congr 1;omega] at h1
 have Hcs:=ah hcs;clear hcs
 have k23:i+m+(d+1) - (i+m)=d+1:=by omega
 refine Stop.on ?_
 go_wp2_with fail
 refine aP (fun _=>True) (fun i=> !([9].contains i)) [0,1,2,3,4,5,6,7,8,9] rfl (by kernel_rfl) trivial ?_
 repeat ((refine bP (v:= ?_) rfl rfl (fun _ _ _ h=>h) rfl (fun W hW=> ?_) ?_);rotate_left;(focus ((try dsimp only at hW);skip;first|(go_simp;first|done|with_reducible rfl)));(try simp only[Act.put,ai,ax,au]))
 refine jO rfl rfl rfl (by kernel_rfl) ?_
 intro K hK
 refine gU (.tmp 78) (.tmp 81) 142 142 rfl 9 1 16 _ aY gW w.heap.size (i+m) 9 (d+1) (d+1) (c1 - (i+m)) (some ⟨w.heap.size,i+m,none⟩) _ rfl (w:=w2.drew) hr2 (.slice (some ⟨g,i+1,none⟩) (d+1) (cap - (i+1))) rfl (d+1) (xs.drop (i+1)) rfl (iP _).symm (by rw[HD.out,aU]) Hcs.out (fun _=>rfl) ?_ (fun u hu=>hx1 u (dh hu)) ?_
 ·rw[eP _ _ _ (by rw[Hn.out,Hl1.out];omega),HD.out,Hl1.out];omega
 intro w3 hr3 hk3
 refine hK.out _ _ (bS ?_)
 go_wp2
 go_ret
 have hown:=Row.own (S:=S) (B:=B) (k:=1) hr3 (i+m+(d+1)) (by rw[HF1.out,Hl1.out,aU]) hB (fun hs=>absurd (hS _ hs) (dB _)) (by omega) hc1'
 rw[aU,HF2.out] at hown
 refine⟨_,rfl,?_,hkk.drew.trans hk3 (fun _ hl e=>absurd hl (by omega))⟩
 rw[HL.out,show N=i+m+(d+1) by rw[HN.out];omega,<-HT.out]
 exact hown
theorem Kb (v:Value)(n i:Nat)(xs:List Value)(vv:Value)(m:Nat)(news:List Value)(w:World)(S:Nat->Prop)(B:Nat)(hS:∀g,S g->g<w.heap.size)(hB:B<=w.heap.size)(h:aQ w S B 9 1 v n xs)(hx1:∀u∈xs,u.oneCell'=true)(hv:aQ w S B 9 1 vv m news)(hvg:∀g,v.ownBlock=some g->vv.ownBlock≠some g)(hone:∀u∈news,u.oneCell'=true)(hn:n<=1000000)(hmm:m<=1000000)(hi:i<n):
  Calls Tryz.prog 182 #[v,.int .i64 i,.int .i64 ((i:Int)+1),vv] w fun e w'=>∃v',e= .returned v'/\aQ w' S B 9 1 v' (n - 1+m) (xs.take i++news++xs.drop (i+1))/\Keep (fun g=>v.ownBlock=some g) w w':=by
 have hxl:=h.1.1
 have hnl:=hv.1.1
 rw[aU] at hxl hnl
 rcases h.1.2 with ⟨rfl,h0⟩|⟨g,cap,cur,rfl,_⟩
 ·omega
 have hvg':=hvg g rfl
 by_cases hin:n=i+1
 ·have e1:xs.drop (i+1)=[]:=fq (by omega)
  have e2:n - 1+m=i+m:=by omega
  rw[e1,e2,dJ]
  by_cases hm0:m=0
  ·subst hm0
   obtain rfl:news=[]:=aV hnl
   refine(DF g cap n i xs vv w S B h hv hn hin).mono ?_
   rintro e w' ⟨v',rfl,h1,h2⟩
   exact⟨v',rfl,by rw[dJ];exact h1,h2.mono (fun k _ hk=>by rw[hk];rfl)⟩
  ·refine(DC g cap n i xs vv m news w S B hS hB h hv hone hn hmm hin (by omega)).mono ?_
   rintro e w' ⟨v',rfl,h1,h2,_⟩
   exact⟨v',rfl,h1,h2.mono (fun k _ hk=>by rw[hk];rfl)⟩
 ·by_cases hm1:m<=1
  ·refine(BX g cap n i xs vv m news w S B h hx1 hv hvg' hone hn (by omega) hm1 _ _ rfl rfl).mono ?_
   rintro e w' ⟨v',rfl,h1,h2⟩
   exact⟨v',rfl,h1,h2.mono (fun k _ hk=>by rw[hk];rfl)⟩
  ·rcases hv.1.2 with ⟨rfl,h0⟩|⟨vb,vc,curv,rfl,_⟩
   ·omega
   ·by_cases hroom:n - 1+m<=cap
    ·refine(BV g cap n i xs vb vc m news w S B h hx1 hv (fun e=>hvg' (by rw[e];rfl)) hone hn hmm (by omega) (by omega) hroom _ _ rfl rfl).mono ?_
     rintro e w' ⟨v',rfl,h1,h2⟩
     exact⟨v',rfl,h1,h2.mono (fun k _ hk=>by rw[hk];rfl)⟩
    ·refine(BZ g cap n i xs vb vc m news w S B hS hB h hx1 hv hone hn hmm (by omega) (by omega) _ _ rfl rfl).mono ?_
     rintro e w' ⟨v',rfl,h1,h2⟩
     exact⟨v',rfl,h1,h2.mono (fun _ _ hk=>hk.elim)⟩
theorem Cc (g cap n i:Nat)(xs:List Value)(vb vc m:Nat)(news:List Value)(w:World)(S:Nat->Prop)(B:Nat)(hS:∀g,S g->g<w.heap.size)(hB:B<=w.heap.size)(h:aQ w S B 3 1 (.slice (some ⟨g,0,none⟩) n cap) n xs)(hx1:∀u∈xs,u.oneCell'=true)(hv:aQ w S B 3 1 (.slice (some ⟨vb,0,none⟩) m vc) m news)(hone:∀u∈news,u.oneCell'=true)(hn:n<=1000000)(hmm:m<=1000000)(hi:i+1<n)(hroom:cap<n - 1+m)(N:Nat)(L:List Value)(hN:N=n - 1+m)(hL:L=xs.take i++news++xs.drop (i+1)):
  Calls Tryz.prog 183 #[.slice (some ⟨g,0,none⟩) n cap,.int .i64 i,.int .i64 ((i:Int)+1),.slice (some ⟨vb,0,none⟩) m vc] w fun e w'=>∃v',e= .returned v'/\aQ w' S B 3 1 v' N L/\Keep fZ w w':=by
 obtain⟨cur,hr,hl,hx,hBg,hSg,hc,hc2⟩:=h.row
 have hc3:cap<=9223372036854775807:=by simpa [maxLen] using hc2
 have hnl:news.length=m:=by have:=hv.1.1;omega
 have hll:cur.length=cap:=by omega
 have hx':cur.take n=xs:=by rw[<-hx,aU]
 have hvs:=hv.dm
 obtain⟨vo,vc',e0,v1,v2,_,_⟩:=hv.dm.form
 cases e0
 clear h hv hl hx
 obtain⟨d,rfl⟩:∃d,n=i+1+(d+1):=⟨n - (i+2),by omega⟩
 have HN:=ah hN;clear hN
 have HL:=ah hL;clear hL
 have k1:(0:Int)<=(i:Int):=by omega
 have k2:(i:Int)<=(cap:Int):=by omega
 have k3:(0:Int)<=(i:Int)+1:=by omega
 have k4:(i:Int)+1<=(cap:Int):=by omega
 have k5:((i:Int)+1).toNat=i+1:=by omega
 have Hl:=ah hll;clear hll
 have Hx:=ah hx';clear hx'
 have Hn:=ah hnl;clear hnl
 have k6:¬cap=i+1:=by omega
 have k7:(i:Int)+1<=(i:Int)+1+((d:Int)+1):=by omega
 have k8:IntKind.i64.wrap ((i:Int)+(m:Int))=(i:Int)+(m:Int):=aG _ (by omega)
 have k9:i+1+(d+1) - (i+1)=d+1:=by omega
 have k10:IntKind.i64.wrap ((i:Int)+(m:Int)+((d:Int)+1))=(i:Int)+(m:Int)+((d:Int)+1):=aG _ (by omega)
 have k11:(cap:Int)<(i:Int)+(m:Int)+((d:Int)+1):=by omega
 have k17:¬cap=i:=by omega
 have k18:(i:Int)+(m:Int)+((d:Int)+1) - (i:Int)=((m+(d+1):Nat):Int):=by omega
 have k19:i+(m+(d+1))=i+m+(d+1):=by omega
 have k20:(0:Int)<=(i:Int)+(m:Int):=by omega
 have k22:((i:Int)+(m:Int)).toNat=i+m:=by omega
 have hD:(xs.drop (i+1)).length=d+1:=by rw[aN,<-Hx.out,aH,Hl.out];omega
 have hT:cur.take i=xs.take i:=by rw[<-Hx.out,dz,bI (by omega)]
 have hgl:g<w.heap.size:=hr.lt
 have HD:=ah hD;clear hD
 have HT:=ah hT;clear hT
 go_enter SY,Ol
 go_wp2_with fail
 refine aP (fun _=>True) (fun _=>true) [0,1,2,3,4,5,6,7,8,9,10,11,12] rfl (by kernel_rfl) trivial ?_
 repeat ((refine bP (v:= ?_) rfl rfl (fun _ _ _ h=>h) rfl (fun W hW=> ?_) ?_);rotate_left;(focus ((try dsimp only at hW);skip;first|(go_simp;first|done|with_reducible rfl)));(try simp only[Act.put,ai,ax,au]))
 refine bS ?_
 go_wp2_with (first|(at_builtin;(refine dU rfl ?_);intro K hK;go_must ((refine sU (w:=w.drew) (.tmp 63) (.tmp 66) 93 3 rfl 3 1 8 _ bf jo gX rfl (by omega) g i cap (m+(d+1)) cur rfl ?_ hr ?_ ?_ ?_ ?_ ?_ ?_);(focus (first|rfl|(show Value.int _ _=_;congr 1;first|done|omega)));(focus (rw[Hl.out];omega));(focus omega);(focus omega);(focus (unfold maxLen;omega));(focus omega);intro c1 w1 rest hr1 hl1 hc1 hc1' hk1;refine hK _ _ (Stop.of ?_))))
 have hr1:Row w1 w.heap.size 3 (cur.take i++rest):=by rw[aU] at hr1;exact hr1
 have hl1:(cur.take i++rest).length=c1:=by rw[aU,aU] at hl1;exact hl1
 have hk1:Keep fZ w w1:=(Keep.refl fZ w).drew.trans hk1 (fun _ _ h=>h)
 have k12:¬c1=i:=by omega
 have k14:¬c1=i+m:=by omega
 have k15:(i:Int)<=(c1:Int):=by omega
 have k16:(i:Int)+(m:Int)<=(i:Int)+(m:Int)+((d:Int)+1):=by omega
 have hc1'':c1<=9223372036854775807:=by simpa [maxLen] using hc1'
 have hci:(cur.take i).length=i:=by rw[aH,Hl.out];omega
 obtain⟨hF1,hF2⟩:=Bd (cur.take i++rest) news (xs.drop (i+1)) i (by rw[Hn.out,HD.out,hl1];omega)
 rw[Hn.out,HD.out,gQ hci] at hF2
 rw[Hn.out] at hF1
 have hcs1:(Builtin.firstCells 1 m (.slice (some ⟨vb,0,none⟩) m vc)).run Tryz.prog w1= .ok news.toArray w1:=by
  have h1:=aX.first (P:=Tryz.prog) (w:=w1) (hvs.keep fun g' hg hl hs=>⟨hk1.block g' hl id,hs⟩) m (aC _)
  rwa [aJ (by rw[Hn.out];omega)] at h1
 have Hl1:=ah hl1;clear hl1
 have HF1:=ah hF1;clear hF1
 have HF2:=ah hF2;clear hF2
 have Hc1:=ah hcs1;clear hcs1
 have Hci:=ah hci;clear hci
 refine Stop.on ?_
 go_wp2_with (first|((refine dU rfl ?_);intro K hK;(refine gU (.tmp 70) (.tmp 71) 93 93 rfl 3 1 8 _ bf gX w.heap.size i 3 m (i+m+(d+1) - i) (c1 - i) (some ⟨w.heap.size,i,none⟩) _ ?_ hr1 (.slice (some ⟨vb,0,none⟩) m vc) rfl m news rfl ?_ ?_ Hc1.out (fun _=>rfl) ?_ hone ?_);go_must ((focus (first|rfl|(show Value.slice _ _ _=_;congr 1;omega)));(focus (exact(bI (by omega)).symm));(focus (rw[Hn.out,aU]));(focus (rw[Hl1.out,Hn.out];omega));intro w2 hr2 hk2;refine hK _ _ (Stop.of ?_))))
 have hkk:Keep fZ w w2:=hk1.trans hk2 (fun _ hl e=>absurd hl (by omega))
 have hg2:Row w2 g 3 cur:=hr.keep hkk id
 have hcs:(Builtin.firstCells 1 (d+1) (.slice (some ⟨g,i+1,none⟩) (d+1) (cap - (i+1)))).run Tryz.prog w2.drew= .ok (xs.drop (i+1)).toArray w2.drew:=by
  have h1:=(Row.dm (w:=w2.drew) (S:=fZ) (k:=1) (off:=i+1) hg2 (d+1) (cap - (i+1)) (by rw[Hl.out];omega) id (by omega) (by unfold maxLen;omega)).first (P:=Tryz.prog) (d+1) (aC _)
  rw[dz,iP,aU] at h1
  rwa [show (cur.drop (i+1)).take (d+1)=xs.drop (i+1) by rw[<-Hx.out,gV];congr 1;omega] at h1
 have Hcs:=ah hcs;clear hcs
 have k23:i+m+(d+1) - (i+m)=d+1:=by omega
 refine Stop.on ?_
 go_wp2_with fail
 refine aP (fun _=>True) (fun i=> !([9].contains i)) [0,1,2,3,4,5,6,7,8,9] rfl (by kernel_rfl) trivial ?_
 repeat ((refine bP (v:= ?_) rfl rfl (fun _ _ _ h=>h) rfl (fun W hW=> ?_) ?_);rotate_left;(focus ((try dsimp only at hW);skip;first|(go_simp;first|done|with_reducible rfl)));(try simp only[Act.put,ai,ax,au]))
 refine jO rfl rfl rfl (by kernel_rfl) ?_
 intro K hK
 refine gU (.tmp 78) (.tmp 81) 93 93 rfl 3 1 8 _ bf gX w.heap.size (i+m) 3 (d+1) (d+1) (c1 - (i+m)) (some ⟨w.heap.size,i+m,none⟩) _ rfl (w:=w2.drew) hr2 (.slice (some ⟨g,i+1,none⟩) (d+1) (cap - (i+1))) rfl (d+1) (xs.drop (i+1)) rfl (iP _).symm (by rw[HD.out,aU]) Hcs.out (fun _=>rfl) ?_ (fun u hu=>hx1 u (dh hu)) ?_
 ·rw[eP _ _ _ (by rw[Hn.out,Hl1.out];omega),HD.out,Hl1.out];omega
 intro w3 hr3 hk3
 refine hK.out _ _ (bS ?_)
 go_wp2
 go_ret
 have hown:=Row.own (S:=S) (B:=B) (k:=1) hr3 (i+m+(d+1)) (by rw[HF1.out,Hl1.out,aU]) hB (fun hs=>absurd (hS _ hs) (dB _)) (by omega) hc1'
 rw[aU,HF2.out] at hown
 refine⟨_,rfl,?_,hkk.drew.trans hk3 (fun _ hl e=>absurd hl (by omega))⟩
 rw[HL.out,show N=i+m+(d+1) by rw[HN.out];omega,<-HT.out]
 exact hown
theorem Kc (v:Value)(n i:Nat)(xs:List Value)(vv:Value)(m:Nat)(news:List Value)(w:World)(S:Nat->Prop)(B:Nat)(hS:∀g,S g->g<w.heap.size)(hB:B<=w.heap.size)(h:aQ w S B 3 1 v n xs)(hx1:∀u∈xs,u.oneCell'=true)(hv:aQ w S B 3 1 vv m news)(hvg:∀g,v.ownBlock=some g->vv.ownBlock≠some g)(hone:∀u∈news,u.oneCell'=true)(hn:n<=1000000)(hmm:m<=1000000)(hi:i<n):
  Calls Tryz.prog 183 #[v,.int .i64 i,.int .i64 ((i:Int)+1),vv] w fun e w'=>∃v',e= .returned v'/\aQ w' S B 3 1 v' (n - 1+m) (xs.take i++news++xs.drop (i+1))/\Keep (fun g=>v.ownBlock=some g) w w':=by
 have hxl:=h.1.1
 have hnl:=hv.1.1
 rw[aU] at hxl hnl
 rcases h.1.2 with ⟨rfl,h0⟩|⟨g,cap,cur,rfl,_⟩
 ·omega
 have hvg':=hvg g rfl
 by_cases hin:n=i+1
 ·have e1:xs.drop (i+1)=[]:=fq (by omega)
  have e2:n - 1+m=i+m:=by omega
  rw[e1,e2,dJ]
  by_cases hm0:m=0
  ·subst hm0
   obtain rfl:news=[]:=aV hnl
   refine(DJ g cap n i xs vv w S B h hv hn hin).mono ?_
   rintro e w' ⟨v',rfl,h1,h2⟩
   exact⟨v',rfl,by rw[dJ];exact h1,h2.mono (fun k _ hk=>by rw[hk];rfl)⟩
  ·refine(DI g cap n i xs vv m news w S B hS hB h hv hone hn hmm hin (by omega)).mono ?_
   rintro e w' ⟨v',rfl,h1,h2,_⟩
   exact⟨v',rfl,h1,h2.mono (fun k _ hk=>by rw[hk];rfl)⟩
 ·by_cases hm1:m<=1
  ·refine(Cb g cap n i xs vv m news w S B h hx1 hv hvg' hone hn (by omega) hm1 _ _ rfl rfl).mono ?_
   rintro e w' ⟨v',rfl,h1,h2⟩
   exact⟨v',rfl,h1,h2.mono (fun k _ hk=>by rw[hk];rfl)⟩
  ·rcases hv.1.2 with ⟨rfl,h0⟩|⟨vb,vc,curv,rfl,_⟩
   ·omega
   ·by_cases hroom:n - 1+m<=cap
    ·refine(Ca g cap n i xs vb vc m news w S B h hx1 hv (fun e=>hvg' (by rw[e];rfl)) hone hn hmm (by omega) (by omega) hroom _ _ rfl rfl).mono ?_
     rintro e w' ⟨v',rfl,h1,h2⟩
     exact⟨v',rfl,h1,h2.mono (fun k _ hk=>by rw[hk];rfl)⟩
    ·refine(Cc g cap n i xs vb vc m news w S B hS hB h hx1 hv hone hn hmm (by omega) (by omega) _ _ rfl rfl).mono ?_
     rintro e w' ⟨v',rfl,h1,h2⟩
     exact⟨v',rfl,h1,h2.mono (fun _ _ hk=>hk.elim)⟩
end Go.Proofs.YtogbkgmlhhahdaaGreat
