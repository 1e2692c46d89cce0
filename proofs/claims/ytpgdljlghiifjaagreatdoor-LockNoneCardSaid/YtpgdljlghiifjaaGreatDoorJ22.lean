/- parts -/
import Derived.Test.YtpgdljlghiifjaaGreatDoorJ21
namespace Go.Proofs.YtpgdljlghiifjaaGreatDoor
open Go.RowKit
set_option maxRecDepth 100000
set_option maxHeartbeats 8000000
set_option linter.all false
structure VI (σ:Dk) (l:Lg) (p:Pg):Prop where
 free:σ.nQ
 ld:l.dead=false
 pd:p.dead=false
 wt:σ.waits.length≤l.used
theorem Lg.Ce {σ:Dk} {l:Lg} (h:σ.nQ) (hd:l.dead=false) (hf:l.frm<σ.n):l.sync σ=((σ.flush.put l.frm l.all.kY).flush,l.all,0):=by
 unfold Lg.sync
 rw[hd,if_neg (by simp),h.sync]
 dsimp only
 rw[if_pos rfl,Lg.xS h.flush l.all hf]
 dsimp only
 rw[if_pos rfl]
 rfl
theorem vG (σ:Dk) (f j:Nat) (x:List UInt8) (h:f≠j):((σ.flush.put f x).flush).get j=σ.get j:=by
 rw[Dk.uJ,Dk.get_put,if_neg h,Dk.uJ]
theorem Pg.Fx (p:Pg):∀(r:List Nat) (σ:Dk),σ.nQ→(∀b∈r,p.skip+b<σ.n∧(p.fresh.img b).length=512)→
  ∃σ',p.lay r σ=(σ',0)∧σ'.nQ∧σ'.n=σ.n∧(∀b,σ'.get (p.skip+b)=if b∈r then p.fresh.img b else σ.get (p.skip+b))∧∀j,j<p.skip→σ'.get j=σ.get j
 |[],σ,h,_=>⟨σ,rfl,h,rfl,fun b=>by simp,fun _ _=>rfl⟩
 |b::r,σ,h,hr=>by
  obtain⟨h1,h2⟩:=hr b (bg ..)
  have hw:=h.write (p.skip+b) (p.fresh.img b) h1 (by omega)
  obtain⟨σ',q1,q2,q3,q4,q5⟩:=Pg.Fx p r (σ.put (p.skip+b) (p.fresh.img b)) (h.put _ _) (fun c hc=>hr c (aX _ hc))
  refine⟨σ',?_,q2,q3,fun c=> ?_,fun j hj=> ?_⟩
  ·rw[p.Au,hw]
   dsimp only
   rw[if_pos rfl,q1]
  ·rw[q4,Dk.get_put]
   by_cases hc:c∈r
   ·rw[if_pos hc,if_pos (aX _ hc)]
   ·rw[if_neg hc]
    by_cases e:c=b
    ·subst e
     rw[if_pos rfl,if_pos (bg ..)]
     exact MJ h2
    ·rw[if_neg (by omega),if_neg (fun x=>(bK.1 x).elim e hc)]
  ·rw[q5 j hj,Dk.get_put,if_neg (by omega)]
theorem Pg.KV {σ:Dk} {l:Lg} {p:Pg} (hV:VI σ l p) (hp:p.Ok σ l):
  ∃σ',p.home σ l=(σ',l.all.cut l.last,{p with fresh:=Im.none},0)∧σ'.nQ∧σ'.n=σ.n∧σ'.waits=[]∧∀b,σ'.get (p.skip+b)=(p.fresh.find b).getD (σ.get (p.skip+b)):=by
 have hfit:=hp.fit
 have hfrm:=hp.frm
 have hskip:=hp.skip
 have hring:=hp.ring
 have hs:=Lg.Ce hV.free hV.ld (by omega:l.frm<σ.n)
 obtain⟨σ1,hσ1⟩:∃σ1,σ1=(σ.flush.put l.frm l.all.kY).flush:=⟨_,rfl⟩
 rw[←hσ1] at hs
 have hF1:σ1.nQ:=by rw[hσ1];exact hV.free
 have hn1:σ1.n=σ.n:=by rw[hσ1];rfl
 have hg1:∀b,σ1.get (p.skip+b)=σ.get (p.skip+b):=fun b=>by rw[hσ1];exact vG _ _ _ _ (by omega)
 obtain⟨σ2,e2,F2,n2,g2,_⟩:=Pg.Fx p p.fresh.ks σ1 hF1 (fun b hb=>⟨by have:=hp.fresh.hi b hb;omega,hp.fresh.img b hb⟩)
 have hm:=Lg.xS F2.flush (l.all.cut l.all.last) (by show l.frm<σ2.n;omega)
 have ht:l.all.trim σ2.flush l.all.last=(((σ2.flush).put l.frm (l.all.cut l.all.last).kY).flush,l.all.cut l.all.last,0):=by
  unfold Lg.trim
  have hd:l.all.dead=false:=hV.ld
  rw[hd,if_neg (by simp),if_neg (by show ¬l.last<l.last;omega),hm]
  dsimp only
  rw[if_pos rfl]
  rfl
 refine⟨((σ2.flush).put l.frm (l.all.cut l.all.last).kY).flush,?_,F2,by rw[←hn1,←n2];rfl,rfl,fun b=> ?_⟩
 ·unfold Pg.home
  rw[hs]
  dsimp only
  rw[if_pos rfl,e2]
  dsimp only
  rw[if_pos rfl,F2.sync]
  dsimp only
  rw[if_pos rfl,ht]
  dsimp only
  rw[if_pos rfl]
  rfl
 ·rw[Dk.uJ,Dk.get_put,if_neg (by omega),Dk.uJ,g2,hg1]
  unfold Im.find
  split<;>rfl
theorem Lg.zR (l:Lg) (b:List UInt8) (hn:2≤l.n):∀(k i:Nat) (σ:Dk),σ.nQ→l.frm+l.n≤σ.n→
  ∃σ',l.qC b k i σ=(σ',0)∧σ'.nQ∧σ'.n=σ.n∧σ'.waits.length=σ.waits.length+k∧∀j,l.frm+l.n≤j→σ'.get j=σ.get j
 |0,_,σ,h,_=>⟨σ,rfl,h,rfl,rfl,fun _ _=>rfl⟩
 |k+1,i,σ,h,hf=>by
  have hr:l.ring (l.start+l.used+i)<l.frm+l.n:=by
   unfold Lg.ring
   have:=qA (l.start+l.used+i) (by omega:0<l.n - 1)
   omega
  obtain⟨x,hx⟩:∃x,x=(b.drop (i*512)).take 512:=⟨_,rfl⟩
  have hw:=h.write (l.ring (l.start+l.used+i)) x (by omega) (by rw[hx,aD];omega)
  obtain⟨σ',q1,q2,q3,q4,q5⟩:=Lg.zR l b hn k (i+1) (σ.put (l.ring (l.start+l.used+i)) x) (h.put _ _) hf
  refine⟨σ',?_,q2,q3,?_,fun j hj=> ?_⟩
  ·rw[l.vD,←hx,hw]
   dsimp only
   rw[if_pos rfl,q1]
  ·rw[q4]
   show (σ.waits++[_]).length+k=_
   simp;omega
  ·rw[q5 j hj,Dk.get_put,if_neg (by omega)]
theorem Pg.Cu (p:Pg) (σ:Dk) (b:Nat):p.look Im.none σ b=(p.fresh.find b).getD (σ.get (p.skip+b)):=rfl
theorem Im.KC (m d:Im) (b:Nat):(m.over d).find b=if b∈d.ks then some (d.img b) else m.find b:=by
 unfold Im.find Im.over
 rw[Im.AQ]
 simp only[Im.DV]
 by_cases h:b∈d.ks
 ·simp[h]
 ·simp[h]
theorem Pg.KA (p:Pg) (d:Im) (σ:Dk) (b:Nat):({p with fresh:=p.fresh.over d}:Pg).look Im.none σ b=p.look d σ b:=by
 rw[Pg.Cu]
 show ((p.fresh.over d).find b).getD (σ.get (p.skip+b))=_
 rw[Im.KC]
 unfold Pg.look
 by_cases h:b∈d.ks
 ·have:d.find b=some (d.img b):=if_pos h
  rw[if_pos h,this];rfl
 ·have:d.find b=none:=if_neg h
  rw[if_neg h,this];rfl
def Pg.E9 (p:Pg) (im:Im):Prop:=p.ring<eO im.dV∨1024<im.ks.length
theorem IX {σ:Dk} {l:Lg} {p:Pg} {im:Im} (hV:VI σ l p) (hp:p.Ok σ l) (hl:l.Ok) (hi:im.Ok (p.blocks σ)):
  (im.ks=[]∧p.commit σ l im=(σ,l,p,l.last,0))∨
  (im.ks≠[]∧p.E9 im∧p.commit σ l im=(σ,l,p,0,13))∨
  (im.ks≠[]∧¬p.E9 im∧∃σ' l' p',p.commit σ l im=(σ',l',p',l.last+1,0)∧VI σ' l' p'∧l'.last=l.last+1∧p'.skip=p.skip∧p'.ring=p.ring∧σ'.n=σ.n∧∀b,p'.look Im.none σ' b=p.look im σ b):=by
 have hfit:=hp.fit
 have hfrm:=hp.frm
 have hskip:=hp.skip
 have hring:=hp.ring
 have hn2:=hl.n2
 by_cases hk:im.ks=[]
 ·refine .inl ⟨hk,?_⟩
  unfold Pg.commit
  rw[hV.pd,if_neg (by simp),if_pos hk]
 by_cases ho:p.E9 im
 ·refine .inr (.inl ⟨hk,ho,?_⟩)
  unfold Pg.commit
  unfold Pg.E9 at ho
  rw[hV.pd,if_neg (by simp),if_neg hk,if_pos ho]
 have ho':¬(p.ring<eO im.dV∨1024<im.ks.length):=ho
 refine .inr (.inr ⟨hk,ho,?_⟩)
 have hk0:0<im.ks.length:=dm.2 hk
 obtain⟨nd,hnd⟩:∃nd,eO im.dV=nd:=⟨_,rfl⟩
 rw[hnd] at ho'
 obtain⟨σ5,l5,p5,hr,V5,F5,hn5,hk5,hrg5,hl5,hf5,hsz5,hroom,hg5⟩:∃σ5 l5 p5,p.ready σ l nd=(σ5,l5,p5,0)∧(l5.dead=false∧p5.dead=false∧σ5.waits.length≤l5.used)∧σ5.nQ∧σ5.n=σ.n∧p5.skip=p.skip∧p5.ring=p.ring∧l5.last=l.last∧l5.frm=l.frm∧l5.n=l.n∧nd≤l5.room∧∀b,p5.look im σ5 b=p.look im σ b:=by
  by_cases hrm:l.room<nd
  ·obtain⟨σ',h1,h2,h3,h4,h5⟩:=Pg.KV hV hp
   have hz:=Pg.CK hl (p:=p) (σ:=σ) (by rw[h1])
   rw[h1] at hz
   refine⟨σ',l.all.cut l.last,{p with fresh:=Im.none},?_,⟨hV.ld,hV.pd,by rw[h4];exact aY _⟩,h2,h3,rfl,rfl,rfl,rfl,rfl,by have:=hz.2.2.2.1;dsimp only at this;omega,fun b=> ?_⟩
   ·unfold Pg.ready
    rw[if_pos hrm,h1]
   ·unfold Pg.look
    congr 1
    show σ'.get (p.skip+b)=_
    exact h5 b
  ·refine⟨σ,l,p,?_,⟨hV.ld,hV.pd,hV.wt⟩,hV.free,rfl,rfl,rfl,rfl,rfl,rfl,by omega,fun _=>rfl⟩
   unfold Pg.ready
   rw[if_neg hrm]
 have hbad:l5.bad im.dV=0:=by
  have:=Lg.Bg (l:=l5) hi V5.1 hk0 (by omega) (by rw[hnd];exact hroom)
  rwa [qD] at this
 obtain⟨σ6,q1,q2,q3,q4,q5⟩:=Lg.zR l5 (Be (l5.last+1) im.dV) (by omega) (eO im.dV) 0 σ5 F5 (by omega)
 have hap:l5.append σ5 im.dV=(σ6,l5.more im.dV,l5.last+1,0):=by
  unfold Lg.append
  rw[hbad,if_neg (by simp),q1]
  dsimp only
  rw[if_pos rfl]
 have hc:=Pg.yg hV.pd hk hnd (by omega) hr hap
 rw[if_pos rfl] at hc
 refine⟨σ6,l5.more im.dV,{p5 with fresh:=p5.fresh.over im},?_,⟨q2,V5.1,V5.2.1,?_⟩,?_,hk5,hrg5,q3.trans hn5,fun b=> ?_⟩
 ·rw[hc,hl5]
 ·show _≤l5.used+eO im.dV
  rw[q4];have:=V5.2.2;omega
 ·show l5.last+1=_
  rw[hl5]
 ·rw[Pg.KA,←hg5]
  unfold Pg.look
  rw[q5 _ (by omega)]
theorem Mi {σ:Dk} {l:Lg} {p:Pg} (hV:VI σ l p) (hp:p.Ok σ l):
  ∃σ' l',p.sync σ l=(σ',l',p,0)∧VI σ' l' p∧l'.last=l.last∧l'.synced=l.last∧σ'.n=σ.n∧∀im b,p.look im σ' b=p.look im σ b:=by
 have hfit:=hp.fit
 have hfrm:=hp.frm
 have hskip:=hp.skip
 have hring:=hp.ring
 unfold Pg.sync
 rw[hV.pd,if_neg (by simp)]
 by_cases h1:l.synced=l.last∧σ.dead=false
 ·rw[if_pos h1]
  exact⟨σ,l,rfl,hV,rfl,h1.1,rfl,fun _ _=>rfl⟩
 ·rw[if_neg h1,Lg.Ce hV.free hV.ld (by omega)]
  dsimp only
  rw[if_pos rfl]
  refine⟨_,_,rfl,⟨hV.free,hV.ld,hV.pd,aY _⟩,rfl,rfl,rfl,fun im b=> ?_⟩
  unfold Pg.look
  rw[vG _ _ _ _ (by omega)]
structure lG where
 k:ByteArray
 s:ByteArray
 v:ByteArray
 b:List Int
def iP (es:List lG):List Pr:=es.map fun e=>(e.k,e.s)
def ic (es:List lG):List Pr:=es.map fun e=>(e.k,e.v)
def dL (es:List lG):List Int:=es.flatMap (·.b)
theorem tH (a b:List lG):iP (a++b)=iP a++iP b:=by simp[iP]
theorem lU (a b:List lG):ic (a++b)=ic a++ic b:=by simp[ic]
theorem iC (a b:List lG):dL (a++b)=dL a++dL b:=by simp[dL]
theorem CX (e:lG) (b:List lG):dL (e::b)=e.b++dL b:=by simp[dL]
theorem eU (es:List lG):(iP es).length=es.length:=by simp[iP]
theorem je (es:List lG):(ic es).length=es.length:=by simp[ic]
def sj (es:List lG) (key:ByteArray):Nat:=(es.takeWhile fun e=>lt e.k key).length
theorem Dx (f:lG→Pr) (hf:∀e,(f e).1=e.k) (es:List lG) (key:ByteArray):dB (es.map f) key=sj es key:=by
 unfold dB sj
 rw[List.takeWhile_map,dW]
 congr 2
 funext e
 simp[hf]
theorem JJ (f:lG→Pr) (hf:∀e,(f e).1=e.k) (es:List lG) (key:ByteArray):
  (∀o,es[sj es key]? =some o→o.k=key→d9 (es.map f) key=some (f o).2∧(∀x,kN (es.map f) key x=(es.take (sj es key)).map f++(key,x)::(es.drop (sj es key+1)).map f)∧lV (es.map f) key=(es.take (sj es key)).map f++(es.drop (sj es key+1)).map f)∧
  ((∀o,es[sj es key]? =some o→o.k≠key)→d9 (es.map f) key=none∧(∀x,kN (es.map f) key x=(es.take (sj es key)).map f++(key,x)::(es.drop (sj es key)).map f)∧lV (es.map f) key=es.map f):=by
 have hp:=Dx f hf es key
 constructor
 ·intro o ho hk
  obtain⟨hl,_⟩:=bZ.1 ho
  have hat:mE (es.map f) key=true:=by
   unfold mE
   rw[hp,cZ,ho]
   simp[hf,hk]
  refine⟨?_,fun x=> ?_,?_⟩
  ·unfold d9
   rw[if_pos hat,hp,cZ,ho];rfl
  ·unfold kN
   rw[if_pos hat,hp,qP,if_pos (by rw[dW];exact hl),gI,fK]
  ·unfold lV
   rw[if_pos hat,hp,gI,fK]
 ·intro hno
  have hat:mE (es.map f) key=false:=by
   unfold mE
   rw[hp,cZ]
   cases he:es[sj es key]? with
   |none=>rfl
   |some o=>simp[hf,hno o he]
  refine⟨?_,fun x=> ?_,?_⟩
  ·unfold d9
   rw[if_neg (by rw[hat];simp)]
  ·unfold kN
   rw[if_neg (by rw[hat];simp),hp,gI,fK]
  ·unfold lV
   rw[if_neg (by rw[hat];simp)]
structure qL (es:List lG) (key:ByteArray) (l o r:List lG):Prop where
 eq:es=l++o++r
 one:o=[]∨∃e,o=[e]∧e.k=key
 ls:d9 (iP es) key=o.head?.map (·.s)
 lv:d9 (ic es) key=o.head?.map (·.v)
 is:∀s v b,kN (iP es) key s=iP (l++⟨key,s,v,b⟩::r)
 iv:∀s v b,kN (ic es) key v=ic (l++⟨key,s,v,b⟩::r)
 ds:lV (iP es) key=iP (l++r)
 dv:lV (ic es) key=ic (l++r)
theorem I6 (es:List lG) (key:ByteArray):∃l o r,qL es key l o r:=by
 have hs:=JJ (fun e=>(e.k,e.s)) (fun _=>rfl) es key
 have hv:=JJ (fun e=>(e.k,e.v)) (fun _=>rfl) es key
 by_cases h:∃o,es[sj es key]? =some o∧o.k=key
 ·obtain⟨o,ho,hk⟩:=h
  obtain⟨hl,he⟩:=bZ.1 ho
  obtain⟨a1,a2,a3⟩:=hs.1 o ho hk
  obtain⟨b1,b2,b3⟩:=hv.1 o ho hk
  refine⟨es.take (sj es key),[o],es.drop (sj es key+1),?_,.inr ⟨o,rfl,hk⟩,a1,b1,fun s v b=> ?_,fun s v b=> ?_,?_,?_⟩
  ·rw[←he,aL,List.singleton_append,List.getElem_cons_drop,bI]
  ·rw[tH];exact a2 s
  ·rw[lU];exact b2 v
  ·rw[tH];exact a3
  ·rw[lU];exact b3
 ·have hno:∀o,es[sj es key]? =some o→o.k≠key:=fun o ho hk=>h ⟨o,ho,hk⟩
  obtain⟨a1,a2,a3⟩:=hs.2 hno
  obtain⟨b1,b2,b3⟩:=hv.2 hno
  refine⟨es.take (sj es key),[],es.drop (sj es key),?_,.inl rfl,a1,b1,fun s v b=> ?_,fun s v b=> ?_,?_,?_⟩
  ·rw[dG,bI]
  ·rw[tH];exact a2 s
  ·rw[lU];exact b2 v
  ·rw[bI];exact a3
  ·rw[bI];exact b3
theorem uf.keep {σ σ':cK} {head size:Nat} {rs:List (Nat×Nat)} (h:uf σ head size rs) (h1:σ'.hasB head=true) (h2:σ'.mem head=σ.mem head):uf σ' head size rs:=by
 obtain⟨a,_,c,d,e,f,g⟩:=h
 exact⟨a,h1,by rw[h2];exact c,d,e,f,g⟩
theorem oh.keep {σ σ':cK} {head:Nat} {t:List UInt8} {rs:List (Nat×Nat)} (h:oh σ head t rs) (hk:∀x∈jL head rs,σ'.hasB x=true∧σ'.mem x=σ.mem x):oh σ' head t rs:=by
 have hin:∀b∈fu rs++[head],((b:Nat):Int)∈jL head rs:=fun b hb=>gW hb
 refine⟨h.hd.keep (hk _ (hin head (by simp))).1 (hk _ (hin head (by simp))).2,h.nd,fun i hi=> ?_⟩
 obtain⟨a,b,c⟩:=h.blk i hi
 have:=hk _ (hin (fu rs)[i] (dz _ (bq hi)))
 exact⟨this.1,b,this.2.trans c⟩
theorem ValAt.keep {σ σ':cK} {s v:ByteArray} {vb:List Int} (h:ValAt σ s v vb) (hk:∀x∈vb,σ'.hasB x=true∧σ'.mem x=σ.mem x):ValAt σ' s v vb:=by
 rcases h with h|⟨hd,rs,h1,h2,h3,h4⟩
 ·exact .inl h
 ·exact .inr ⟨hd,rs,h1,h2,h3.keep (fun x hx=>hk x (by rw[h4];exact hx)),h4⟩
theorem ValAt.all {σ:cK} {s v:ByteArray} {vb:List Int} (h:ValAt σ s v vb):∀x∈vb,σ.hasB x=true∧2≤x:=by
 rcases h with ⟨_,_,rfl⟩|⟨hd,rs,_,_,h3,rfl⟩
 ·intro x hx;cases hx
 ·exact h3.all
theorem dJ.Sc {T:ByteArray→Option ByteArray→Int→List Pr→List Int→Prop} (hT:∀k z b c x,T k z b c x→∀y∈x,2≤y) {hi:Option ByteArray} {l:List (ByteArray×Int)} {cs:List Pr} {bs:List Int} (h:dJ T hi l cs bs):∀y∈bs,2≤y:=dJ.has hT h
theorem iy.two {σ:cK}:∀{h m:Nat} {lo:ByteArray} {hi:Option ByteArray} {b:Int} {cs:List Pr} {bs:List Int},iy σ h m lo hi b cs bs→∀x∈bs,2≤x
 |0,_,_,_,_,_,_,⟨nd,h1,_,_,_,_,_,_,h8⟩=>by
  intro x hx
  rw[h8] at hx
  rw[bH.1 hx]
  exact h1.lo
 |h+1,_,_,_,_,_,_,⟨nd,bs',h1,_,_,_,h5,h6⟩=>by
  subst h5
  intro x hx
  rcases bK.1 hx with rfl|hx
  ·exact h1.lo
  ·exact dJ.Sc (fun _ _ _ _ _ ht=>iy.two ht) h6 x hx
theorem xg.two {σ:cK} {root:Int} {cs:List Pr} {bs:List Int} (h:xg σ root cs bs):∀x∈bs,2≤x:=by
 rcases h with ⟨_,_,rfl⟩|⟨h,ht⟩
 ·intro x hx;cases hx
 ·exact ht.two
structure Own (σ:cK) (bs:List Int):Prop where
 nd:bs.Nodup
 ex:∀x,σ.hasB x=true→x=0∨x=1∨x∈bs
 size:σ.sz=countB σ.H.old σ.most+nh σ bs
theorem Own.Ba {σ σ':cK} {us bs:List Int} (h:Own σ us) (hc:kW σ σ' us bs):Own σ' bs:=by
 refine⟨hc.nd h.nd,fun x hx=> ?_,?_⟩
 ·rcases hc.ex x hx with y|⟨y,z⟩
  ·exact .inr (.inr y)
  ·exact(h.ex x y).imp id (fun e=>e.imp id (fun e=>absurd e z))
 ·have a:=hc.size
  have b:=h.size
  rw[hc.H,hc.most,rV hc.H]
  omega
theorem Own.perm {σ:cK} {us bs:List Int} (h:Own σ us) (hp:us.Perm bs):Own σ bs:=
 ⟨hp.nodup_iff.1 h.nd,fun x hx=>(h.ex x hx).imp id (fun e=>e.imp id hp.mem_iff.1),by rw[←DF hp];exact h.size⟩
structure Live (σ:cK) (root:Int) (es:List lG) (tb:List Int):Prop where
 tree:xg σ root (iP es) tb
 val:∀e∈es,ValAt σ e.s e.v e.b
 own:Own σ (tb++dL es)
theorem Live.bb {σ:cK} {root:Int} {es:List lG} {tb:List Int} (h:Live σ root es tb):∀x∈dL es,σ.hasB x=true∧2≤x:=by
 intro x hx
 obtain⟨e,he,hx⟩:=mY.1 hx
 exact(h.val e he).all x hx
theorem Live.all {σ:cK} {root:Int} {es:List lG} {tb:List Int} (h:Live σ root es tb):∀x∈tb++dL es,σ.hasB x=true∧2≤x:=by
 intro x hx
 rcases bJ.1 hx with hx|hx
 ·exact⟨h.tree.has x hx,h.tree.two x hx⟩
 ·exact h.bb x hx
theorem mR {a b:List Int} (h:(a++b).Nodup):∀x∈b,x∉a:=fun x hx ha=>(dN.1 h).2.2 x ha x hx rfl
theorem Fs {σ σ1 σ2 σ3:cK} {root root':Int} {es l o r:List lG} {tb nb:List Int} {key s v:ByteArray} (hL:Live σ root es tb) (hA:qL es key l o r) (h1:kW σ σ1 (dL o) []) (h2:kW σ1 σ2 [] nb) (hv:ValAt σ2 s v nb) {n:Nat} (h3:yB σ2 tb (kN (iP es) key s) n σ3 root'):
  ∃tb',Live σ3 root' (l++⟨key,s,v,nb⟩::r) tb'∧kW σ σ3 (tb++dL es) (tb'++dL (l++⟨key,s,v,nb⟩::r)):=by
 obtain⟨tb',ht,h3,_,_⟩:=h3
 have hall:=hL.all
 have hn:=hL.own.nd
 have hes:=hA.eq
 have hbb:dL es=dL l++dL o++dL r:=by rw[hes,iC,iC]
 obtain⟨R,hR⟩:∃R,R=tb++dL l++dL r:=⟨_,rfl⟩
 have hp1:(tb++dL es).Perm (dL o++R):=by
  rw[hbb,hR]
  have:(tb++(dL l++dL o++dL r)).Perm (tb++(dL o++dL l++dL r)):=((eZ).append_right _).append_left _
  refine this.trans ?_
  have e1:tb++(dL o++dL l++dL r)=tb++dL o++(dL l++dL r):=by simp
  have e2:dL o++(tb++dL l++dL r)=dL o++tb++(dL l++dL r):=by simp
  rw[e1,e2]
  exact eZ.append_right _
 have hn1:=hp1.nodup_iff.1 hn
 have hRa:∀x∈R,σ.hasB x=true:=fun x hx=>(hall x (hp1.mem_iff.2 (dA _ hx))).1
 have c1:=h1.left (rs:=R) hn1 hRa
 have hR1:∀x∈R,σ1.hasB x=true:=fun x hx=>(c1.new x hx).1
 have c2:=h2.left (rs:=R) (c1.nd hn1) hR1
 have hn2:=c2.nd (c1.nd hn1)
 have hp3:(nb++R).Perm (tb++(nb++dL l++dL r)):=by
  rw[hR]
  have e1:nb++(tb++dL l++dL r)=nb++tb++(dL l++dL r):=by simp
  have e2:tb++(nb++dL l++dL r)=tb++nb++(dL l++dL r):=by simp
  rw[e1,e2]
  exact eZ.append_right _
 have hn3:=hp3.nodup_iff.1 hn2
 have hS2:∀x∈nb++R,σ2.hasB x=true:=fun x hx=>(c2.new x hx).1
 have c3:=h3.left (rs:=nb++dL l++dL r) hn3 (fun x hx=>hS2 x (hp3.mem_iff.2 (dA _ hx)))
 have hbb':dL (l++⟨key,s,v,nb⟩::r)=dL l++(nb++dL r):=by rw[iC,CX]
 have hp4:(tb'++(nb++dL l++dL r)).Perm (tb'++dL (l++⟨key,s,v,nb⟩::r)):=by
  rw[hbb',←aL (dL l)]
  exact(eZ.append_right _).append_left _
 have C:kW σ σ3 (tb++dL es) (tb'++dL (l++⟨key,s,v,nb⟩::r)):=by
  have a:kW σ σ2 (tb++dL es) (tb++(nb++dL l++dL r)):=(c1.trans c2).perm hp1.symm hp3
  exact(a.trans c3).perm (iF _) hp4
 refine⟨tb',⟨?_,fun e he=> ?_,hL.own.Ba C⟩,C⟩
 ·rw[←hA.is s v nb];exact ht
 ·have hoff:∀x∈nb++dL l++dL r,x∉tb:=mR hn3
  rcases bJ.1 he with he|he
  ·have hin:∀x∈e.b,x∈dL l:=fun x hx=>mY.2 ⟨e,he,hx⟩
   refine(hL.val e (by rw[hes];exact dz _ (dz _ he))).keep fun x hx=> ?_
   have hxR:x∈R:=by rw[hR];exact dz _ (dA _ (hin x hx))
   have f1:=h1.frame x (hRa x hxR) (.inl (mR hn1 x hxR))
   have f2:=h2.frame x f1.1 (.inl (by simp))
   have f3:=h3.frame x f2.1 (.inl (hoff x (dz _ (dA _ (hin x hx)))))
   exact⟨f3.1,f3.2.trans (f2.2.trans f1.2)⟩
  ·rcases bK.1 he with rfl|he
   ·exact hv.keep fun x hx=>h3.frame x (hS2 x (dz _ hx)) (.inl (hoff x (dz _ (dz _ hx))))
   ·have hin:∀x∈e.b,x∈dL r:=fun x hx=>mY.2 ⟨e,he,hx⟩
    refine(hL.val e (by rw[hes];exact dA _ he)).keep fun x hx=> ?_
    have hxR:x∈R:=by rw[hR];exact dA _ (hin x hx)
    have f1:=h1.frame x (hRa x hxR) (.inl (mR hn1 x hxR))
    have f2:=h2.frame x f1.1 (.inl (by simp))
    have f3:=h3.frame x f2.1 (.inl (hoff x (dA _ (hin x hx))))
    exact⟨f3.1,f3.2.trans (f2.2.trans f1.2)⟩
theorem Fv {σ σ1 σ3:cK} {root root':Int} {es l o r:List lG} {tb:List Int} {key:ByteArray} (hL:Live σ root es tb) (hA:qL es key l o r) (h1:kW σ σ1 (dL o) []) {n:Nat} (h3:yB σ1 tb (lV (iP es) key) n σ3 root'):
  ∃tb',Live σ3 root' (l++r) tb'∧kW σ σ3 (tb++dL es) (tb'++dL (l++r)):=by
 obtain⟨tb',ht,h3,_,_⟩:=h3
 have hall:=hL.all
 have hn:=hL.own.nd
 have hes:=hA.eq
 have hbb:dL es=dL l++dL o++dL r:=by rw[hes,iC,iC]
 have hp1:(tb++dL es).Perm (dL o++(tb++(dL l++dL r))):=by
  rw[hbb]
  have:(tb++(dL l++dL o++dL r)).Perm (tb++(dL o++dL l++dL r)):=((eZ).append_right _).append_left _
  refine this.trans ?_
  have e1:tb++(dL o++dL l++dL r)=tb++dL o++(dL l++dL r):=by simp
  have e2:dL o++(tb++(dL l++dL r))=dL o++tb++(dL l++dL r):=by simp
  rw[e1,e2]
  exact eZ.append_right _
 have hn1:=hp1.nodup_iff.1 hn
 have hRa:∀x∈tb++(dL l++dL r),σ.hasB x=true:=fun x hx=>(hall x (hp1.mem_iff.2 (dA _ hx))).1
 have c1:=h1.left (rs:=tb++(dL l++dL r)) hn1 hRa
 have hR1:∀x∈tb++(dL l++dL r),σ1.hasB x=true:=fun x hx=>(c1.new x hx).1
 have hn3:(tb++(dL l++dL r)).Nodup:=c1.nd hn1
 have c3:=h3.left (rs:=dL l++dL r) hn3 (fun x hx=>hR1 x (dA _ hx))
 have C:kW σ σ3 (tb++dL es) (tb'++dL (l++r)):=by
  rw[iC]
  exact(c1.trans c3).perm hp1.symm (iF _)
 refine⟨tb',⟨?_,fun e he=> ?_,hL.own.Ba C⟩,C⟩
 ·rw[←hA.ds];exact ht
 ·have hin:∀x∈e.b,x∈dL l++dL r:=fun x hx=>by rw[←iC];exact mY.2 ⟨e,he,hx⟩
  have hmem:e∈es:=by
   rw[hes]
   rcases bJ.1 he with he|he
   ·exact dz _ (dz _ he)
   ·exact dA _ he
  refine(hL.val e hmem).keep fun x hx=> ?_
  have hxR:=dA tb (hin x hx)
  have f1:=h1.frame x (hRa x hxR) (.inl (mR hn1 x hxR))
  have f3:=h3.frame x f1.1 (.inl (mR hn3 x (hin x hx)))
  exact⟨f3.1,f3.2.trans f1.2⟩
theorem vK:∀(n:Nat) (f:Nat→Bool) (L:List Nat),L.Nodup→(∀x,x∈L↔x<n∧f x=true)→countB f n=L.length
 |0,f,L,_,h=>by
  cases L with
  |nil=>rfl
  |cons a L=>exact absurd ((h a).1 (bg ..)).1 (qz _)
 |n+1,f,L,hn,h=>by
  rw[jw]
  by_cases hf:f n=true
  ·have hm:n∈L:=(h n).2 ⟨gD n,hf⟩
   have ih:=vK n f (L.erase n) (hn.erase n) (fun x=>by
    rw[hn.mem_erase_iff,h]
    constructor
    ·rintro⟨a,b,c⟩;exact⟨by omega,c⟩
    ·rintro⟨a,b⟩;exact⟨by omega,by omega,b⟩)
   rw[ih,hf,List.length_erase_of_mem hm]
   have:=List.length_pos_of_mem hm
   simp;omega
  ·have hf':f n=false:=by simpa using hf
   have ih:=vK n f L hn (fun x=>by
    rw[h]
    constructor
    ·rintro⟨a,b⟩
     exact⟨by have:x≠n:=fun e=>hf (e▸b);omega,b⟩
    ·rintro⟨a,b⟩;exact⟨by omega,b⟩)
   rw[ih,hf'];rfl
theorem Own.count {σ:cK} {bs:List Int} (h:Own σ bs) (hok:σ.Ok) (hb:∀x∈bs,σ.hasB x=true∧2≤x):countB σ.now σ.most=2+bs.length:=by
 obtain⟨L,hL⟩:∃L:List Nat,L=bs.map Int.toNat:=⟨_,rfl⟩
 have h2:=hok.two
 have hin:∀x∈L,2≤x∧x<σ.most∧σ.now x=true:=by
  intro x hx
  rw[hL] at hx
  obtain⟨y,hy,rfl⟩:=dP.1 hx
  obtain⟨n,e,a,b⟩:=cK.mF (hb y hy).1
  have:=(hb y hy).2
  rw[e,fU]
  exact⟨by omega,a,b⟩
 have hnd:L.Nodup:=by
  rw[hL]
  refine List.Pairwise.map _ (R:=fun a b=>a≠b∧2≤a∧2≤b) (fun a b (hab:a≠b∧2≤a∧2≤b) e=>hab.1 (by omega)) ?_
  have:=h.nd
  exact List.Pairwise.imp_of_mem (fun ha hb' hab=>⟨hab,(hb _ ha).2,(hb _ hb').2⟩) this
 rw[vK σ.most σ.now (0::1::L) ?_ fun x=> ?_]
 ·rw[hL];simp;omega
 ·refine nS.2 ⟨fun e=> ?_,nS.2 ⟨fun e=> ?_,hnd⟩⟩
  ·rcases bK.1 e with e|e
   ·cases e
   ·have:=(hin 0 e).1;omega
  ·have:=(hin 1 e).1;omega
 ·constructor
  ·intro hx
   rcases bK.1 hx with rfl|hx
   ·exact⟨by omega,hok.n0⟩
   ·rcases bK.1 hx with rfl|hx
    ·exact⟨by omega,hok.n1⟩
    ·exact(hin x hx).2
  ·rintro⟨a,b⟩
   have hh:σ.hasB (x:Int)=true:=by unfold cK.hasB;rw[fU,b];simp[a]
   rcases h.ex x hh with e|e|e
   ·have:x=0:=by omega
    subst this;exact bg ..
   ·have:x=1:=by omega
    subst this;exact aX _ (bg ..)
   ·refine aX _ (aX _ ?_)
    rw[hL]
    exact dP.2 ⟨x,e,by simp⟩
theorem Pq (mp:VS) (root:Int) (w:World) (hr:0≤root):
  Calls Tryz.prog 60 #[.iface 105 mp.agg,.int .i64 root] w fun e w'=>e= .returned (.pointer (some ⟨w.heap.size,0,none⟩))∧cu w' w.heap.size mp root 0∧w'.heap.size=w.heap.size+1∧Below w.heap.size w w':=by
 have hr2:¬root<0:=by omega
 have heq:∀w:World,(binOp BinOp.eql 168 (.iface 105 mp.agg) .nilIface).run Tryz.prog w= .ok (.bool false) w:=fun _=>by kernel_rfl
 go_enter Tryz.func60,Tryz.ntmps60
 go_wp2_with fail
 go_ret
 exact⟨rfl,aM _ _,by simp,aI _ _⟩
def I8 (l:List UInt8) (root:Nat):Prop:=root<65536∧∃rest,l=[UInt8.ofNat root,UInt8.ofNat (root/256)]++rest
def cK.start (σ:Dk) (l:Lg) (p:Pg) (f:Nat→Bool):cK:=⟨⟨σ,l,p,f⟩,p.blocks σ,Im.none,f,countB f (p.blocks σ)⟩
theorem cK.Ok.start {σ:Dk} {l:Lg} {p:Pg} {f:Nat→Bool} (hp:p.Ok σ l) (hs:σ.Ok) (hd:p.dead=false) (hsd:σ.dead=false) (h2:2≤p.blocks σ) (hhi:∀b,p.blocks σ≤b→f b=false) (h0:f 0=true) (h1:f 1=true):(cK.start σ l p f).Ok:=by
 refine⟨hd,hsd,rfl,h2,?_,hhi,hhi,h0,h1,(fun b hb=>by cases hb),(fun b _ hn ho=> ?_),?_,fun b _=> ?_⟩
 ·have:=hs.hi
  show p.blocks σ≤4096
  unfold Pg.blocks;omega
 ·have hn':f b=true:=hn
  have ho':f b=false:=ho
  rw[hn'] at ho';cases ho'
 ·show countB (fun x=>f x||f x) (p.blocks σ)≤countB f (p.blocks σ)
  exact oC _ (fun x _ hx=>by simpa using hx)
 ·show (p.look Im.none σ b).length=512
  rw[Pg.Cu]
  unfold Im.find
  split
  ·exact hp.fresh.img _ ‹_›
  ·exact hs.get _
def LC (pg d:Nat) (σ:Dk) (l:Lg) (p:Pg) (f:Nat→Bool) (root:Nat) (S:Nat→Prop) (w:World) (e:Ending) (w':World):Prop:=
 ∃t tr mp S',e= .returned (.tuple #[.pointer (some ⟨t,0,none⟩),.int .i64 0])∧mp.pg=pg∧mp.d=d∧w'.heap[t]? =some (.cells (eX mp (some tr) false 0) 110 (0,0))∧cu w' tr mp root 0∧Inv (cK.start σ l p f) S' mp w'∧Step S S' w w'∧¬S' t∧¬S' tr∧w.heap.size≤t∧w.heap.size≤tr
theorem Ql (v pg d:Nat) (σ:Dk) (l:Lg) (p:Pg) (f:Nat→Bool) (root:Nat) (S:Nat→Prop) (w:World) (hv:w.heap[v]? =some (.cells #[.pointer (some ⟨pg,0,none⟩)] 93 (0,0))) (hvS:¬S v) (h:jN w S pg d σ l p (.pointer none)) (hd:p.dead=false) (hsd:σ.dead=false) (h2:2≤p.blocks σ) (hf:p.look Im.none σ 0=bytesOf f) (hhi:∀b,p.blocks σ≤b→f b=false) (h0:f 0=true) (h1:f 1=true) (hr:I8 (p.look Im.none σ 1) root):
  Calls Tryz.prog 35 #[.pointer (some ⟨v,0,none⟩)] w (LC pg d σ l p f root S w):=by
 have hok:=cK.Ok.start h.ok.1 h.ok.2.1 hd hsd h2 hhi h0 h1
 have c0:w.cell? ⟨v,0,none⟩=some (.pointer (some ⟨pg,0,none⟩)):=by simp[World.cell?,hv]
 have hlt:=(ah.1 hv).1
 have HB:=af (MI pg d σ l p S w h hd)
 have HV:=af hv;have HOK:=af hok
 have hsub:=h.sub
 obtain⟨hr1,rest,hr2⟩:=hr
 have HF:=af (ay hf (ay hhi (ay h0 h1)))
 have HR2:=af hr2
 clear hv h hok hf hhi h0 h1 hr2
 go_enter Tryz.func35,Tryz.ntmps35
 go_wp2_with (first
  |(go_at_call 52;go_must (refine HB.out.mono ?_;rintro e w1 ⟨tx,T,rfl,hp1,htx1,hs1,hT1⟩;refine Stop.of ?_)))
 refine Stop.on ?_
 have hdis:∀g,S g→¬T g:=fun g hg e=>absurd (hT1 g e) (fq.2 (hsub g hg))
 have hv1:=(hs1.1.block v hlt hvS).trans HV.out
 have d0:w1.cell? ⟨v,0,none⟩=some (.pointer (some ⟨pg,0,none⟩)):=by simp[World.cell?,hv1]
 have hl1:=(ah.1 hv1).1
 have HBK:=af (Dy pg d σ l p _ S w1 hp1)
 have HLD:=af (Qr tx pg d σ l p _ Im.none S T f w1.drew (hp1.below ((aQ _ w1).drew)) (htx1.below ((aQ _ w1).drew)) hd hsd h2 HF.out.1 HF.out.2.1 HF.out.2.2.1 HF.out.2.2.2)
 have HP1:=af (ay hp1 (ay htx1 hs1))
 clear hv1 hp1 htx1 hs1
 go_wp2_with (first
  |(go_at_call 54;go_must (refine HBK.out.mono ?_;rintro e w2 ⟨rfl,hw2⟩;subst w2))
  |(go_at_call 57;go_must (refine HLD.out.mono ?_;rintro e w2 ⟨mp,rfl,hmp2,hmlo,hb2⟩;refine Stop.of ?_)))
 refine Stop.on ?_
 have hb12:Below w1.heap.size w1 w2:=((aQ _ w1).drew).trans hb2
 have hp2:=HP1.out.1.below hb12
 have htx2:=HP1.out.2.1.below hb12
 have HRD:=tread tx pg d σ l p _ Im.none S T 1 w2 hp2 htx2 hd hsd (by omega)
 rw[HR2.out] at HRD
 have HRD:=af HRD
 go_wp2_with (first
  |(go_at_call 59;go_must (refine HRD.out.mono ?_;rintro e w3 ⟨rv,rfl,hrv3,hro3,hb3⟩;refine Stop.of ?_)))
 refine Stop.on ?_
 obtain⟨ro,rc,rfl,r1,r2,r3,r4⟩:=bE.form hrv3
 have hbt:=UInt8.toNat_lt (UInt8.ofNat root)
 have hbt2:=UInt8.toNat_lt (UInt8.ofNat (root/256))
 have e1:(UInt8.ofNat root).toNat=root%256:=by rw[eG]
 have e2:(UInt8.ofNat (root/256)).toNat=root/256:=by rw[eG];omega
 obtain⟨pb,po,rfl,e30⟩:=hrv3.yx rfl 0 (.int .u8 ((root%256:Nat):Int)) (by simp[aJ,e1])
 obtain⟨pb',po',e',e31⟩:=hrv3.yx rfl 1 (.int .u8 ((root/256:Nat):Int)) (by simp[aJ,e2])
 cases e'
 have hpb:=aF w3 _ e30
 obtain⟨lo,hlo⟩:∃n:Nat,n=root%256:=⟨_,rfl⟩
 obtain⟨hi,hhi⟩:∃n:Nat,n=root/256:=⟨_,rfl⟩
 rw[←hlo] at e30
 rw[←hhi] at e31
 have hlo2:lo<256:=by omega
 have hhi2:hi<256:=by omega
 have hroot:root=lo+256*hi:=by omega
 have q1:IntKind.i64.wrap (lo:Int)=(lo:Int):=aR _ (by omega)
 have q2:IntKind.i64.wrap (hi:Int)=(hi:Int):=aR _ (by omega)
 have p1:IntKind.i64.wrap ((hi:Int)*256)=((256*hi:Nat):Int):=by rw[aR _ (by omega)];omega
 have o1:=Fa lo hi 256 root 8 rfl hlo2 hroot (by omega)
 have HRT:=af hroot
 obtain⟨m1,hm1⟩:∃m:Nat,Hid (256*hi=m):=⟨_,af rfl⟩
 rw[hm1.out] at p1 o1
 have HP3:=af (ay (hp2.below hb3) (ay (htx2.below hb3) (hb12.trans (hb3.mono hb12.size))))
 have hmp3:=af ((hb3.block mp (ah.1 hmp2).1).trans hmp2)
 clear hrv3 hro3 e1 e2 hbt hbt2 hlo hhi hroot hp2 htx2 hmp2
 go_upto_region 15 with (fail)
 have hb4:=aI w3 (.cells #[.pointer (some ⟨tx,0,none⟩),.pointer (some ⟨mp,0,none⟩)] 105)
 have h4:=aM w3 (.cells #[.pointer (some ⟨tx,0,none⟩),.pointer (some ⟨mp,0,none⟩)] 105)
 obtain⟨sb,hsb⟩:∃sb,Hid (w3.heap.size=sb):=⟨_,af rfl⟩
 obtain⟨w4,hw4⟩:∃w4,Hid (w3.alloc (.cells #[.pointer (some ⟨tx,0,none⟩),.pointer (some ⟨mp,0,none⟩)] 105)=w4):=⟨_,af rfl⟩
 rw[hw4.out] at hb4 h4 ⊢
 rw[hsb.out] at h4 ⊢
 have HCL:=af (show ∀W:World,Below w4.heap.size w4 W→(W.cell? ⟨sb,0,none⟩=some (.pointer (some ⟨tx,0,none⟩))∧W.cell? ⟨sb,1,none⟩=some (.pointer (some ⟨mp,0,none⟩))∧W.cell? ⟨pb,po,none⟩=some (.int .u8 (lo:Int))∧W.cell? ⟨pb,po+1,none⟩=some (.int .u8 (hi:Int))∧sb<W.heap.size∧pb<W.heap.size) from fun W hW=>by
  have hl:=(ah.1 h4).1
  have hl3:=ax hpb hb4.size
  have h5:=(hW.block sb hl).trans h4
  exact⟨by simp[World.cell?,h5],by simp[World.cell?,h5],(hW.cell (p:=⟨pb,po,none⟩) hl3).trans ((hb4.cell (p:=⟨pb,po,none⟩) hpb).trans e30),(hW.cell (p:=⟨pb,po+1,none⟩) hl3).trans ((hb4.cell (p:=⟨pb,po+1,none⟩) hpb).trans e31),ax hl hW.size,ax hl3 hW.size⟩)
 have HB4:=af hb4
 clear e30 e31 h4 hb4
 refine aP (fun W=>W.cell? ⟨sb,0,none⟩=some (.pointer (some ⟨tx,0,none⟩))∧W.cell? ⟨sb,1,none⟩=some (.pointer (some ⟨mp,0,none⟩))∧W.cell? ⟨pb,po,none⟩=some (.int .u8 (lo:Int))∧W.cell? ⟨pb,po+1,none⟩=some (.int .u8 (hi:Int))∧sb<W.heap.size∧pb<W.heap.size) (fun i=> !([13,15].contains i)) [0,1,2,3,4,5,6,7,8,9,10,11,12,13,14,15,16,17] rfl (by kernel_rfl) (HCL.out _ ((aQ _ w4).drew)) ?_
 repeat ((refine bO (v:= ?_) rfl rfl (fun _ _ _ h=>h) rfl (fun W hW=> ?_) ?_);rotate_left;(focus ((try dsimp only at hW);obtain⟨a0,a1,a2,a3,a4,a5⟩:=hW;(go_simp;first|done|with_reducible rfl)));(try simp only[Act.put,aj,au,ak]))
 obtain⟨ms,hms⟩:∃ms:VS,ms=⟨tx,pg,d,mp⟩:=⟨_,rfl⟩
 have HBO:=af (Pq ms (root:Int) w4.drew (by omega))
 rw[hms] at HBO
 refine dw rfl rfl rfl ?_;intro K hK;go_simp
 refine HBO.out.mono ?_;rintro e w5 ⟨rfl,htr5,-,hb5⟩
 have hb45:Below w4.heap.size w4 w5:=((aQ _ w4).drew).trans hb5
 refine hK.out _ _ (HCL.out _ hb45) ?_
 (try simp only[Act.put,aj,au,ak])
 repeat ((refine bO (v:= ?_) rfl rfl (fun _ _ _ h=>h) rfl (fun W hW=> ?_) ?_);rotate_left;(focus ((try dsimp only at hW);obtain⟨a0,a1,a2,a3,a4,a5⟩:=hW;(go_simp;first|done|with_reducible rfl)));(try simp only[Act.put,aj,au,ak]))
 refine dw rfl rfl rfl ?_;intro K hK;go_simp
 have hb6:=aI w5 (.cells #[.pointer (some ⟨tx,0,none⟩),.pointer (some ⟨mp,0,none⟩),.pointer (some ⟨w4.heap.size,0,none⟩),.bool false,.int .i64 0] 110)
 have h6:=aM w5 (.cells #[.pointer (some ⟨tx,0,none⟩),.pointer (some ⟨mp,0,none⟩),.pointer (some ⟨w4.heap.size,0,none⟩),.bool false,.int .i64 0] 110)
 have hb46:=hb45.trans (hb6.mono hb45.size)
 refine hK.out _ _ (HCL.out _ hb46) ?_
 (try simp only[Act.put,aj,au,ak])
 repeat ((refine bO (v:= ?_) rfl rfl (fun _ _ _ h=>h) rfl (fun W hW=> ?_) ?_);rotate_left;(focus ((try dsimp only at hW);obtain⟨a0,a1,a2,a3,a4,a5⟩:=hW;(go_simp;first|done|with_reducible rfl)));(try simp only[Act.put,aj,au,ak]))
 refine bR ?_
 go_wp2_with fail
 go_ret2
 have hb36:=HB4.out.trans (hb46.mono HB4.out.size)
 have hmpl:=(ah.1 hmp3.out).1
 have hT1':∀g,T g→w.heap.size≤g:=hT1
 have hl3:w1.heap.size≤w3.heap.size:=HP3.out.2.2.size
 have hl01:=HP1.out.2.2.1.size
 have hbt:w3.heap.size≤w4.heap.size:=HB4.out.size
 have hbu:w4.heap.size≤w5.heap.size:=hb45.size
 have hsub1:∀g,S g→g<w1.heap.size:=fun g hg=>ax (hsub g hg) hl01
 have hsubT:∀g,T g→g<w1.heap.size:=HP1.out.2.1.sub
 have hlo2':w1.heap.size≤mp:=hmlo
 refine⟨w5.heap.size,w4.heap.size,⟨tx,pg,d,mp⟩,fun g=>S g∨T g∨g=mp,rfl,rfl,rfl,h6,?_,⟨S,T,⟨HOK.out,HP3.out.1.below hb36,HP3.out.2.1.below hb36,(hb36.block mp hmpl).trans hmp3.out,hdis,fun e=>absurd (hsub1 mp e) (bF.2 hlo2'),fun e=>absurd (hsubT mp e) (bF.2 hlo2')⟩,fun g=>Iff.rfl⟩,⟨?_,fun g hg=> ?_⟩,?_,?_,?_,?_⟩
 ·exact(hb6.block _ (ah.1 htr5).1).trans htr5
 ·refine(HP1.out.2.2.1.trans (Keep.of_below (HP3.out.2.2.trans (hb36.mono hl3)) fO) (fun _ _ e=>e.elim))
 ·rcases hg with hg|hg|hg
  ·exact .inl hg
  ·exact .inr (hT1' g hg)
  ·exact .inr (by rw[hg];omega)
 ·rintro(e|e|e)
  ·have:=hsub1 _ e;omega
  ·have:=hsubT _ e;omega
  ·omega
 ·rintro(e|e|e)
  ·have:=hsub1 _ e;omega
  ·have:=hsubT _ e;omega
  ·omega
 ·omega
 ·omega
theorem FV:∀(l:List Int) (σ:cK),(σ.frees l).tk=σ.tk
 |[],_=>rfl
 |y::l,σ=>FV l (σ.gone y)
theorem qV {w:World} {t tr:Nat} {mp mp':VS} {tr':Option Nat} {ch:Bool} {er root err:Int} (h:w.heap[t]? =some (.cells (eX mp tr' ch er) 110 (0,0))) (ht:cu w tr mp' root err):t≠tr:=by
 rintro rfl
 unfold cu at ht
 rw[h] at ht
 injection ht with ht
 injection ht with _ h2
 exact absurd h2 (by decide)
theorem Cf (l:List Int):(vW l).Perm l:=xw _ _
theorem LZ (t tr:Nat) (mp:VS) (root:Int) (ch:Bool) (er:Int) (σ:cK) (S:Nat→Prop) (w:World) (es l o r:List lG) (tb:List Int) (key:ByteArray) (h:w.heap[t]? =some (.cells (eX mp (some tr) ch er) 110 (0,0))) (hI:Inv σ S mp w) (ht:cu w tr mp root 0) (hL:Live σ root es tb) (hA:qL es key l o r) (hl:es.length≤4090) (hg:1≤key.size∧key.size≤128):
  Calls Tryz.prog 63 #[.pointer (some ⟨t,0,none⟩),.string key] w fun e w'=>e= .returned (.int .i64 0)∧∃σ1,Inv σ1 S mp w'∧Step S S w w'∧kW σ σ1 (dL o) []∧σ1.tk=σ.tk:=by
 have hl':(iP es).length≤4090:=by rw[eU];exact hl
 have hsmall:rW ((d9 (iP es) key).getD ⟨#[]⟩).data.toList=none→((d9 (iP es) key).getD ⟨#[]⟩).size≤1000000→dL o=[]→Calls Tryz.prog 63 #[.pointer (some ⟨t,0,none⟩),.string key] w fun e w'=>e= .returned (.int .i64 0)∧∃σ1,Inv σ1 S mp w'∧Step S S w w'∧kW σ σ1 (dL o) []∧σ1.tk=σ.tk:=by
  intro h1 h2 h3
  refine(zH t tr mp root ch er σ S w (iP es) tb key h hI ht hL.tree hl' hg h1 h2).mono ?_
  rintro e w' ⟨rfl,hb⟩
  rw[h3]
  exact⟨rfl,σ,hI.below hb,Step.of_below hb,kW.refl (fun x hx=>by cases hx),rfl⟩
 rcases hA.one with rfl|⟨e,rfl,hk⟩
 ·have hls:d9 (iP es) key=none:=hA.ls
  refine hsmall ?_ ?_ rfl
  ·rw[hls];rfl
  ·rw[hls];exact aY _
 ·have hls:d9 (iP es) key=some e.s:=hA.ls
  have hv:=hL.val e (by rw[hA.eq];simp)
  have hbo:dL [e]=e.b:=by simp[dL]
  rcases hv with ⟨h1,h2,h3⟩|⟨hd,rs,h1,h2,h3,h4⟩
  ·refine hsmall ?_ ?_ (by rw[hbo,h3])
   ·rw[hls,Q9,h1];exact yJ _
   ·rw[hls,Q9,h1]
    have:(strOf (0::e.v.data.toList)).size=e.v.size+1:=by show (0::e.v.data.toList).toArray.size=e.v.data.size+1;simp
    omega
  ·refine(GQ t tr mp root ch er σ S w (iP es) tb key e.s hd e.v.data.toList rs h hI ht hL.tree hl' hg hls (by rw[h1];exact Al hd h2.1) (by rw[h1];show [1,UInt8.ofNat hd,UInt8.ofNat (hd/256)].toArray.size≤_;simp) h3).mono ?_
   rintro e' w' ⟨rfl,hI',hs'⟩
   refine⟨rfl,_,hI',hs',?_,FV _ _⟩
   rw[hbo,h4]
   exact(yo (vW (jL hd rs)) σ (fun x hx=>(h3.all x ((EC x).1 hx)).1) ((Cf _).nodup_iff.2 h3.nd)).perm (Cf _) (iF _)
structure zh (w:World) (S:Nat→Prop) (t tr:Nat) (mp:VS) (σ:cK) (root err:Int) (ch:Bool) (er:Int):Prop where
 tx:w.heap[t]? =some (.cells (eX mp (some tr) ch er) 110 (0,0))
 tree:cu w tr mp root err
 inv:Inv σ S mp w
 nt:¬S t
 ntr:¬S tr
theorem zh.keep {w w':World} {S M:Nat→Prop} {t tr:Nat} {mp:VS} {σ:cK} {root err:Int} {ch:Bool} {er:Int} (h:zh w S t tr mp σ root err ch er) (hk:Keep M w w') (hM:∀g,S g∨g=t∨g=tr→¬M g):zh w' S t tr mp σ root err ch er:=
 ⟨(hk.block t (ah.1 h.tx).1 (hM t (.inr (.inl rfl)))).trans h.tx,(hk.block tr (ah.1 h.tree).1 (hM tr (.inr (.inr rfl)))).trans h.tree,h.inv.jZ hk (fun g hg=>hM g (.inl hg)),h.nt,h.ntr⟩
theorem zh.below {w w':World} {S:Nat→Prop} {t tr:Nat} {mp:VS} {σ:cK} {root err:Int} {ch:Bool} {er:Int} (h:zh w S t tr mp σ root err ch er) (hb:Below w.heap.size w w'):zh w' S t tr mp σ root err ch er:=h.keep (Keep.of_below hb fO) (fun _ _ e=>e)
def gq (S S':Nat→Prop) (t tr:Nat) (w w':World):Prop:=Keep (fun g=>S g∨g=t∨g=tr) w w'∧∀g,S' g→S g∨w.heap.size≤g
theorem gq.of {S S':Nat→Prop} {t tr:Nat} {w w':World} (h:Step S S' w w'):gq S S' t tr w w':=⟨h.1.mono (fun _ _ e=> .inl e),h.2⟩
theorem gq.trans {S S1 S2:Nat→Prop} {t tr:Nat} {w w1 w2:World} (h:gq S S1 t tr w w1) (k:gq S1 S2 t tr w1 w2):gq S S2 t tr w w2:=
 ⟨h.1.trans k.1 (fun g hg e=>e.elim (fun x=>(h.2 g x).elim .inl (fun y=>absurd hg (bF.2 y))) .inr),fun g hg=>(k.2 g hg).elim (fun x=>h.2 g x) (fun x=> .inr (aH h.1.size x))⟩
theorem gq.one {S:Nat→Prop} {t tr:Nat} {w w':World} (h:Keep (· =t) w w'):gq S S t tr w w':=⟨h.mono (fun _ _ e=> .inr (.inl e)),fun _ hg=> .inl hg⟩
theorem gq.tree {S S':Nat→Prop} {t tr:Nat} {w w':World} (h:Keep (fun g=>S g∨g=tr) w w') (h2:∀g,S' g→S g∨w.heap.size≤g):gq S S' t tr w w':=⟨h.mono (fun _ _ e=>e.imp id .inr),h2⟩
def Sy (σ σ':cK) (tb:List Int) (c:Nat):Prop:=∀L,σ.sz+c≤L+nh σ tb→σ.tk≤L→σ'.tk≤L
def PK (t tr:Nat) (mp:VS) (S:Nat→Prop) (σ:cK) (ch:Bool) (es l r:List lG) (tb:List Int) (key:ByteArray) (w w':World):Prop:=
 ∃σ' S' root' tb',zh w' S' t tr mp σ' root' 0 (ch||(d9 (ic es) key).isSome) 0∧Live σ' root' (l++r) tb'∧kW σ σ' (tb++dL es) (tb'++dL (l++r))∧gq S S' t tr w w'∧Sy σ σ' tb (2*(es.length+1))∧((l++r).length≤299→vP σ σ' 65)
def qK (t tr:Nat) (mp:VS) (S:Nat→Prop) (σ:cK) (ch:Bool) (w w':World):Prop:=
 ∃σ' S' root' err',zh w' S' t tr mp σ' root' err' ch 12∧σ'.H=σ.H∧σ'.most=σ.most∧gq S S' t tr w w'
theorem Gr {σ σ1:cK} {us:List Int} (h:kW σ σ1 us []) (ht:σ1.tk=σ.tk):vP σ σ1 0:=by
 have hs:=h.size
 have hz:nh σ []=0:=rfl
 exact⟨by omega,fun L _ t=>by omega⟩
theorem JK {σ σ1 σ2:cK} {us:List Int} {tb:List Int} {es l o r:List lG} {key:ByteArray} {n:Nat} {root':Int} (_:σ1.most=σ.most) (_:σ1.H=σ.H) (hs:σ1.sz+nh σ us=σ.sz+nh σ []) (ht:σ1.tk=σ.tk) (hP:yB σ1 tb (lV (iP es) key) n σ2 root') (hA:qL es key l o r) (hc:(l++r).length≤299):vP σ σ2 65:=by
 obtain⟨_,_,_,_,h⟩:=hP
 have hz:nh σ []=0:=rfl
 have h0:vP σ σ1 0:=⟨by omega,fun L _ t=>by omega⟩
 exact(h0.trans (h (by rw[hA.ds,eU];exact hc))).more (by omega)
theorem OC (t tr:Nat) (mp:VS) (root:Int) (ch:Bool) (σ:cK) (S:Nat→Prop) (w:World) (es l o r:List lG) (tb:List Int) (key:ByteArray) (hT:zh w S t tr mp σ root 0 ch 0) (hL:Live σ root es tb) (hA:qL es key l o r) (hl:es.length≤4090) (hg:1≤key.size∧key.size≤128):
  Calls Tryz.prog 41 #[.pointer (some ⟨t,0,none⟩),.string key] w fun e w'=>(e= .returned (.tuple #[.bool (d9 (ic es) key).isSome,.int .i64 0])∧PK t tr mp S σ ch es l r tb key w w')∨
   (e= .returned (.tuple #[.bool false,.int .i64 12])∧σ.most+nh σ tb<σ.sz+2*(es.length+1)∧qK t tr mp S σ ch w w'):=by
 have hne:=qV hT.tx hT.tree
 have HU:=af (oV t mp tr ch 0 key w hT.tx)
 have hu:iD 0 key=0:=by unfold iD;rw[if_neg (by simp),if_neg (by omega)]
 rw[hu] at HU
 have HD:=af (LZ t tr mp root ch 0 σ S w es l o r tb key hT.tx hT.inv hT.tree hL hA hl hg)
 have HT:=af hT
 have hlt:=(ah.1 hT.tx).1
 have hl':(iP es).length≤4090:=by rw[eU];exact hl
 have hsm:(d9 (iP es) key).isSome=(d9 (ic es) key).isSome:=by rw[hA.ls,hA.lv];cases o.head? <;>rfl
 obtain⟨was,hwas⟩:∃b,b=(d9 (ic es) key).isSome:=⟨_,rfl⟩
 rw[←hwas] at hsm
 have HSM:=af hsm;have HWAS:=af hwas
 rw[←hwas]
 clear hT hu hsm hwas
 go_enter Tryz.func41,Tryz.ntmps41
 go_wp2_with (first
  |(go_at_call 61;go_must (refine HU.out.mono ?_;rintro e w1 ⟨rfl,rfl⟩))
  |(go_at_call 63;go_must (refine HD.out.mono ?_;rintro e w1 ⟨rfl,σ1,hI1,hs1,hc1,htk1⟩;refine Stop.of ?_)))
 refine Stop.on ?_
 have hT1:zh w1 S t tr mp σ1 root 0 ch 0:=⟨(hs1.1.block t hlt HT.out.nt).trans HT.out.tx,(hs1.1.block tr (ah.1 HT.out.tree).1 HT.out.ntr).trans HT.out.tree,hI1,HT.out.nt,HT.out.ntr⟩
 have hall:=hL.all
 have hnd:=hL.own.nd
 have hbo:∀x∈dL o,x∈dL es:=fun x hx=>by rw[hA.eq,iC,iC];simp[hx]
 have hTr1:xg σ1 root (iP es) tb:=hL.tree.keep hc1 (fun x hx=> .inl (fun e=>mR hnd x (hbo x e) hx))
 have HDT:=Ga tr mp root σ1 S (iP es) tb key w1 hI1 hT1.tree HT.out.ntr hTr1 (dN.1 hnd).1 hl' hg
 rw[HSM.out] at HDT
 have HDT:=af HDT
 have c2:w1.cell? ⟨t,2,none⟩=some (.pointer (some ⟨tr,0,none⟩)):=by simp[World.cell?,hT1.tx,eX]
 have hlt1:=(ah.1 hT1.tx).1
 have HT1:=af (ay hT1 (ay hc1 hs1))
 clear hI1 hs1 hc1 hT1 hTr1
 go_wp2_with (first
  |(go_at_call 71;go_must (refine HDT.out.mono ?_;rintro e w2 (⟨rfl,σ2,S2,b2,hI2,ht2,hst2,hP2,hk2,hn2⟩|⟨rfl,hlost,σ2,S2,hI2,ht2,hst2,hH2,hm2,hk2,hn2⟩)<;>refine Stop.of ?_)))
 ·refine Stop.on ?_
  have htx2:=(hk2.block t hlt1 (fun e=>e.elim HT.out.nt hne)).trans HT1.out.1.tx
  have hns2:¬S2 t:=fun e=>(hn2 t e).elim HT.out.nt (fun x=>absurd hlt1 (bF.2 x))
  have d3:w2.cell? ⟨t,3,none⟩=some (.bool ch):=by simp[World.cell?,htx2,eX]
  have f3:w2.frozen? ⟨t,3,none⟩=false:=by simp[World.frozen?,htx2]
  have hlt2:=(ah.1 htx2).1
  have HX2:=af (ay htx2 (ay hI2 (ay ht2 (ay hk2 hn2))))
  have HP2:=af hP2
  have HC:=af HT1.out.2.1
  have HT1tk:=af htk1
  clear htx2 hI2 ht2 hk2 hn2 hP2
  cases ch
  ·go_wp2_with fail
   go_ret2
   have hk3:Keep (· =t) w2 (w2.setCell ⟨t,3,none⟩ (.bool was)):=(Keep.refl (· =t) _).setCell (p:=⟨t,3,none⟩) (.inr rfl) _
   obtain⟨tb',hL',hC'⟩:=Fv hL hA HC.out HP2.out
   refine .inl ⟨rfl,σ2,S2,b2,tb',⟨?_,?_,HX2.out.2.1.jZ hk3 (fun g hg e=>hns2 (e▸hg)),hns2,hst2⟩,hL',hC',?_,fun L r t0=> ?_,fun hc=> ?_⟩
   ·rw[←HWAS.out]
    simp[World.setCell,aW,HX2.out.1]
    rfl
   ·exact(hk3.block tr (ah.1 HX2.out.2.2.1).1 (fun e=>hne e.symm)).trans HX2.out.2.2.1
   ·exact((gq.of HT1.out.2.2).trans (gq.tree HX2.out.2.2.2.1 HX2.out.2.2.2.2)).trans (gq.one hk3)
   ·obtain⟨_,_,_,hpk,_⟩:=HP2.out
    have hsz:=HC.out.size
    have hz:nh σ []=0:=rfl
    refine hpk L ?_ (by rw[htk1];exact t0)
    unfold jX
    rw[rV HC.out.H,eU]
    omega
   ·exact JK HC.out.most HC.out.H HC.out.size HT1tk.out HP2.out hA hc
  ·go_wp2_with fail
   go_ret2
   have hk3:Keep (· =t) w2 (w2.setCell ⟨t,3,none⟩ (.bool true)):=(Keep.refl (· =t) _).setCell (p:=⟨t,3,none⟩) (.inr rfl) _
   obtain⟨tb',hL',hC'⟩:=Fv hL hA HC.out HP2.out
   refine .inl ⟨rfl,σ2,S2,b2,tb',⟨?_,?_,HX2.out.2.1.jZ hk3 (fun g hg e=>hns2 (e▸hg)),hns2,hst2⟩,hL',hC',?_,fun L r t0=> ?_,fun hc=> ?_⟩
   ·rw[←HWAS.out]
    simp[World.setCell,aW,HX2.out.1]
    rfl
   ·exact(hk3.block tr (ah.1 HX2.out.2.2.1).1 (fun e=>hne e.symm)).trans HX2.out.2.2.1
   ·exact((gq.of HT1.out.2.2).trans (gq.tree HX2.out.2.2.2.1 HX2.out.2.2.2.2)).trans (gq.one hk3)
   ·obtain⟨_,_,_,hpk,_⟩:=HP2.out
    have hsz:=HC.out.size
    have hz:nh σ []=0:=rfl
    refine hpk L ?_ (by rw[htk1];exact t0)
    unfold jX
    rw[rV HC.out.H,eU]
    omega
   ·exact JK HC.out.most HC.out.H HC.out.size HT1tk.out HP2.out hA hc
 ·refine Stop.on ?_
  have htx2:=(hk2.block t hlt1 (fun e=>e.elim HT.out.nt hne)).trans HT1.out.1.tx
  have hns2:¬S2 t:=fun e=>(hn2 t e).elim HT.out.nt (fun x=>absurd hlt1 (bF.2 x))
  have HSP:=af (Df t mp (some tr) ch 0 12 w2 htx2)
  have HX2:=af (ay htx2 (ay hI2 (ay ht2 (ay hk2 hn2))))
  have HLO:=af (ay hlost (ay hH2 hm2))
  have HC:=af HT1.out.2.1
  clear htx2 hI2 ht2 hk2 hn2 hlost hH2 hm2
  go_wp2_with (first
   |(go_at_call 64;go_must (refine HSP.out.mono ?_;rintro e w3 ⟨rfl,h3,hk3⟩)))
  go_ret2
  refine .inr ⟨rfl,?_,σ2,S2,root,12,⟨h3,(hk3.block tr (ah.1 HX2.out.2.2.1).1 (fun e=>hne e.symm)).trans HX2.out.2.2.1,HX2.out.2.1.jZ hk3 (fun g hg e=>hns2 (e▸hg)),hns2,hst2⟩,HLO.out.2.1.trans HC.out.H,HLO.out.2.2.trans HC.out.most,((gq.of HT1.out.2.2).trans (gq.tree HX2.out.2.2.2.1 HX2.out.2.2.2.2)).trans (gq.one hk3)⟩
  have hno:=HLO.out.1
  have hsz:=HC.out.size
  unfold Room at hno
  rw[rV HC.out.H,HC.out.most,eU] at hno
  have:nh σ []=0:=rfl
  omega
def kG (value:ByteArray):Nat:=if value.size≤63 then 0 else 1+rf value.size
def Ef (t tr:Nat) (mp:VS) (S:Nat→Prop) (σ:cK) (es l r:List lG) (tb:List Int) (key value:ByteArray) (w w':World):Prop:=
 ∃σ' S' root' tb' s nb,zh w' S' t tr mp σ' root' 0 true 0∧Live σ' root' (l++⟨key,s,value,nb⟩::r) tb'∧kW σ σ' (tb++dL es) (tb'++dL (l++⟨key,s,value,nb⟩::r))∧gq S S' t tr w w'∧Sy σ σ' tb (2*(es.length+1)+kG value)∧((l++⟨key,s,value,nb⟩::r).length≤299→vP σ σ' (65+kG value))
theorem Cg (value:ByteArray):(⟨#[0]⟩:ByteArray)++value=strOf (0::value.data.toList):=by
 apply BA
 rw[ByteArray.data_append]
 apply Db.1
 rw[xD]
 rfl
theorem uo (t tr:Nat) (mp:VS) (root:Int) (ch:Bool) (σ:cK) (S:Nat→Prop) (w:World) (es l o r:List lG) (tb:List Int) (key:ByteArray) (hT:zh w S t tr mp σ root 0 ch 0) (hL:Live σ root es tb) (hA:qL es key l o r) (hl:es.length≤4090) (hg:1≤key.size∧key.size≤128):
  Calls Tryz.prog 62 #[.pointer (some ⟨t,0,none⟩),.string key] w fun e w'=>e= .returned (.tuple #[.string ((d9 (ic es) key).getD ByteArray.empty),.bool (d9 (ic es) key).isSome,.int .i64 0])∧Below w.heap.size w w':=by
 have hl':(iP es).length≤4090:=by rw[eU];exact hl
 rcases hA.one with rfl|⟨e,rfl,hk⟩
 ·have h1:d9 (iP es) key=none:=hA.ls
  have h2:d9 (ic es) key=none:=hA.lv
  have:=Rj t tr mp root ch σ S w (iP es) tb key ByteArray.empty [] hT.tx hT.inv hT.tree hL.tree hl' hg (fun s hs=>by rw[h1] at hs;cases hs)
  rw[h1] at this
  rw[h2]
  exact this
 ·have h1:d9 (iP es) key=some e.s:=hA.ls
  have h2:d9 (ic es) key=some e.v:=hA.lv
  have:=Rj t tr mp root ch σ S w (iP es) tb key e.v e.b hT.tx hT.inv hT.tree hL.tree hl' hg (fun s hs=>by
   rw[h1] at hs;cases hs
   exact hL.val e (by rw[hA.eq];simp))
  rw[h1] at this
  rw[h2]
  exact this
theorem J7 (t tr:Nat) (mp:VS) (root:Int) (ch:Bool) (σ:cK) (S:Nat→Prop) (w:World) (es l o r:List lG) (tb:List Int) (key value:ByteArray) (hT:zh w S t tr mp σ root 0 ch 0) (hL:Live σ root es tb) (hA:qL es key l o r) (hl:es.length≤4090) (hg:1≤key.size∧key.size≤128) (hv:value.size≤49152) (hs:d9 (ic es) key=some value):
  Calls Tryz.prog 38 #[.pointer (some ⟨t,0,none⟩),.string key,.string value] w fun e w'=>e= .returned (.int .i64 0)∧Below w.heap.size w w':=by
 have HU:=af (oV t mp tr ch 0 key w hT.tx)
 have hu:iD 0 key=0:=by unfold iD;rw[if_neg (by simp),if_neg (by omega)]
 rw[hu] at HU
 have HG:=uo t tr mp root ch σ S w es l o r tb key hT hL hA hl hg
 rw[hs] at HG
 have HG:=af HG
 have x1:¬(49152:Int)<(value.size:Int):=by omega
 clear hT hu
 go_enter Tryz.func38,Tryz.ntmps38
 go_wp2_with (first
  |(go_at_call 61;go_must (refine HU.out.mono ?_;rintro e w1 ⟨rfl,rfl⟩))
  |(go_at_call 62;go_must (refine HG.out.mono ?_;rintro e w1 ⟨rfl,hb1⟩)))
 go_ret
 exact⟨rfl,hb1⟩
theorem QU (hd:Nat) (hb:hd<65536) (w:World):(convert 101 9 (.slice (some ⟨w.heap.size,0,none⟩) 3 3)).run Tryz.prog (w.alloc (.cells #[.int .u8 1,.int .u8 ((hd:Int)%256),.int .u8 ((hd:Int)/256)] 5))= .ok (.string (strOf [1,UInt8.ofNat hd,UInt8.ofNat (hd/256)])) (w.alloc (.cells #[.int .u8 1,.int .u8 ((hd:Int)%256),.int .u8 ((hd:Int)/256)] 5)):=by
 have he:[Value.int .u8 1,.int .u8 ((hd:Int)%256),.int .u8 ((hd:Int)/256)]=aJ [1,UInt8.ofNat hd,UInt8.ofNat (hd/256)]:=by
  simp[aJ,eG]
  omega
 have hr:Row (w.alloc (.cells #[.int .u8 1,.int .u8 ((hd:Int)%256),.int .u8 ((hd:Int)/256)] 5)) w.heap.size 5 (aJ [1,UInt8.ofNat hd,UInt8.ofNat (hd/256)]):=by
  rw[←he];exact Row.new w _ _
 have hs:bE (w.alloc (.cells #[.int .u8 1,.int .u8 ((hd:Int)%256),.int .u8 ((hd:Int)/256)] 5)) fO 1 (.slice (some ⟨w.heap.size,0,none⟩) 3 3) [1,UInt8.ofNat hd,UInt8.ofNat (hd/256)].length (aJ [1,UInt8.ofNat hd,UInt8.ofNat (hd/256)]):=by
  have:=hr.dD (S:=fO) (k:=1) (off:=0) 3 3 (by simp[aJ]) id (aG _) (by simp[maxLen])
  rw[eT,aN (by simp[aJ])] at this
  exact this
 exact hs.strOf
theorem GL (t tr:Nat) (mp:VS) (root:Int) (ch:Bool) (σ:cK) (S:Nat→Prop) (w:World) (es l o r:List lG) (tb:List Int) (key value:ByteArray) (hT:zh w S t tr mp σ root 0 ch 0) (hL:Live σ root es tb) (hA:qL es key l o r) (hl:es.length≤4090) (hg:1≤key.size∧key.size≤128) (hv:value.size≤63) (there:Bool) (was:ByteArray) (hget:(d9 (ic es) key).isSome=there∧(d9 (ic es) key).getD ByteArray.empty=was) (hno:there=true→(was.toList==value.toList)=false):
  Calls Tryz.prog 38 #[.pointer (some ⟨t,0,none⟩),.string key,.string value] w fun e w'=>(e= .returned (.int .i64 0)∧Ef t tr mp S σ es l r tb key value w w')∨
   (e= .returned (.int .i64 12)∧σ.most+nh σ tb<σ.sz+2*(es.length+1)+kG value∧qK t tr mp S σ ch w w'):=by
 have hne:=qV hT.tx hT.tree
 have HU:=af (oV t mp tr ch 0 key w hT.tx)
 have hu:iD 0 key=0:=by unfold iD;rw[if_neg (by simp),if_neg (by omega)]
 rw[hu] at HU
 have HG:=uo t tr mp root ch σ S w es l o r tb key hT hL hA hl hg
 rw[hget.1,hget.2] at HG
 have HG:=af HG
 have x1:¬(49152:Int)<(value.size:Int):=by omega
 have x2:¬(63:Int)<(value.size:Int):=by omega
 have hb:kG value=0:=if_pos hv
 have HBC:=af hb
 have x0:=hv
 have HT:=af hT
 have hl':(iP es).length≤4090:=by rw[eU];exact hl
 have hall:=hL.all
 have hnd:=hL.own.nd
 have hbo:∀x∈dL o,x∈dL es:=fun x hx=>by rw[hA.eq,iC,iC];simp[hx]
 have hcnt:=hL.tree.count
 rw[eU] at hcnt
 have hnh:=qf σ tb
 have hsum:(⟨#[0]⟩:ByteArray)++value=strOf (0::value.data.toList):=Cg value
 have hsz0:(strOf (0::value.data.toList)).size=value.size+1:=by show (0::value.data.toList).toArray.size=value.data.size+1;simp
 have hadd:∀W:World,(Op.stringOp .add (⟨#[0]⟩:ByteArray) value).run Tryz.prog W= .ok (.string (strOf (0::value.data.toList))) W:=fun W=>by rw[←hsum];exact run_string_add W _ _ (by show ((1:Nat):Int)≤_;omega) (by omega)
 have HSZ:=af hsz0;have HSUM:=af hsum
 obtain⟨small,hsmall⟩:∃s,Hid (strOf (0::value.data.toList)=s):=⟨_,af rfl⟩
 rw[hsmall.out] at hadd HSZ HSUM
 have HCNT:=af (ay hcnt (ay hnh hb))
 clear hT hu hsum hsz0 hb hcnt hnh
 go_enter Tryz.func38,Tryz.ntmps38
 go_wp2_with (first
  |(go_at_call 61;go_must (refine HU.out.mono ?_;rintro e w1 ⟨rfl,rfl⟩))
  |(go_at_call 62;go_must (refine HG.out.mono ?_;rintro e w1 ⟨rfl,hb1⟩;refine Stop.of ?_)))
 refine Stop.on ?_
 have hT1:=HT.out.below hb1
 have hlt1:=(ah.1 hT1.tx).1
 have HD:=af (LZ t tr mp root ch 0 σ S w1 es l o r tb key hT1.tx hT1.inv hT1.tree hL hA hl hg)
 have HT1:=af (ay hT1 hb1)
 clear hT1 hb1
 cases there
 all_goals
  try have hno:=hno rfl
  go_wp2_with (first
   |(go_at_call 63;go_must (refine HD.out.mono ?_;rintro e w2 ⟨rfl,σ1,hI1,hs1,hc1,htk1⟩;refine Stop.of ?_)))
  refine Stop.on ?_
  have hT2:zh w2 S t tr mp σ1 root 0 ch 0:=⟨(hs1.1.block t hlt1 HT.out.nt).trans HT1.out.1.tx,(hs1.1.block tr (ah.1 HT1.out.1.tree).1 HT.out.ntr).trans HT1.out.1.tree,hI1,HT.out.nt,HT.out.ntr⟩
  have hTr1:xg σ1 root (iP es) tb:=hL.tree.keep hc1 (fun x hx=> .inl (fun e=>mR hnd x (hbo x e) hx))
  have hlt2:=(ah.1 hT2.tx).1
  have HS2:=af ((gq.of (t:=t) (tr:=tr) (Step.of_below (S:=S) HT1.out.2)).trans (gq.of hs1))
  have HC1:=af hc1
  have HTR1:=af hTr1
  clear hI1 hs1 hc1 hTr1
  have hc2:kW σ1 σ1 [] []:=kW.refl (fun x hx=>by cases hx)
  have hv2:ValAt σ1 small value []:= .inl ⟨hsmall.out.symm,x0,rfl⟩
  have HV2:=af (ay hc2 hv2)
  clear hc2 hv2
  have HPT:=af (EU tr mp root σ1 S (iP es) tb key small w2 hT2.inv hT2.tree HT.out.ntr HTR1.out (dN.1 hnd).1 hl' ⟨hg,by have:=HSZ.out;omega⟩)
  have c2:World.cell? w2 ⟨t,2,none⟩=some (.pointer (some ⟨tr,0,none⟩)):=by simp[World.cell?,hT2.tx,eX]
  have HT2:=af hT2
  clear hT2
  go_wp2_with (first
   |(go_at_call 66;go_must (refine HPT.out.mono ?_;rintro e w5 (⟨rfl,σ3,S3,b3,hI3,ht3,hst3,hP3,hk3,hn3⟩|⟨rfl,hlost,σ3,S3,hI3,ht3,hst3,hH3,hm3,hk3,hn3⟩)<;>refine Stop.of ?_)))
  ·refine Stop.on ?_
   have htx3:=(hk3.block t hlt2 (fun e=>e.elim HT.out.nt hne)).trans HT2.out.tx
   have hns3:¬S3 t:=fun e=>(hn3 t e).elim HT.out.nt (fun x=>absurd hlt2 (bF.2 x))
   have d3:w5.cell? ⟨t,3,none⟩=some (.bool ch):=by simp[World.cell?,htx3,eX]
   have f3:w5.frozen? ⟨t,3,none⟩=false:=by simp[World.frozen?,htx3]
   have hlt3:=(ah.1 htx3).1
   have HX3:=af (ay htx3 (ay hI3 (ay ht3 (ay hk3 hn3))))
   have HP3:=af hP3
   clear htx3 hI3 ht3 hk3 hn3 hP3
   go_wp2_with fail
   go_ret
   have hk4:Keep (· =t) w5 (w5.setCell ⟨t,3,none⟩ (.bool true)):=(Keep.refl (· =t) _).setCell (p:=⟨t,3,none⟩) (.inr rfl) _
   obtain⟨tb',hL',hC'⟩:=Fs hL hA HC1.out HV2.out.1 HV2.out.2 HP3.out
   refine .inl ⟨rfl,σ3,S3,b3,tb',small,_,⟨?_,?_,HX3.out.2.1.jZ hk4 (fun g hg e=>hns3 (e▸hg)),hns3,hst3⟩,hL',hC',?_,fun L r t0=> ?_,fun hc=> ?_⟩
   ·simp[World.setCell,aW,HX3.out.1]
    rfl
   ·exact(hk4.block tr (ah.1 HX3.out.2.2.1).1 (fun e=>hne e.symm)).trans HX3.out.2.2.1
   ·exact(HS2.out.trans (gq.tree HX3.out.2.2.2.1 HX3.out.2.2.2.2)).trans (gq.one hk4)
   ·obtain⟨_,_,_,hpk,_⟩:=HP3.out
    have hCC:=HC1.out.trans HV2.out.1
    have hsz:=hCC.size
    have hsz1:=HC1.out.size
    have hnl:=qf σ []
    have hcc:=HCNT.out
    have hz:nh σ []=0:=rfl
    have h0:nh σ []=0:=rfl
    rw[hcc.2.2] at r
    refine hpk L ?_ ?_
    ·unfold jX
     rw[rV hCC.H,eU]
     omega
    ·rw[htk1];exact t0
   ·obtain⟨_,_,_,_,hft⟩:=HP3.out
    have h0:=Gr HC1.out htk1
    have h2:=hft (by rw[hA.is small value [],eU];exact hc)
    exact(h0.trans h2).more (by omega)
  ·refine Stop.on ?_
   have htx3:=(hk3.block t hlt2 (fun e=>e.elim HT.out.nt hne)).trans HT2.out.tx
   have hns3:¬S3 t:=fun e=>(hn3 t e).elim HT.out.nt (fun x=>absurd hlt2 (bF.2 x))
   have HSP:=af (Df t mp (some tr) ch 0 12 w5 htx3)
   have HX3:=af (ay htx3 (ay hI3 (ay ht3 (ay hk3 hn3))))
   have HLO:=af (ay hlost (ay hH3 hm3))
   clear htx3 hI3 ht3 hk3 hn3 hlost hH3 hm3
   go_wp2_with (first
    |(go_at_call 64;go_must (refine HSP.out.mono ?_;rintro e w6 ⟨rfl,h6,hk6⟩)))
   go_ret
   have hCC:=HC1.out.trans HV2.out.1
   refine .inr ⟨rfl,?_,σ3,S3,root,12,⟨h6,(hk6.block tr (ah.1 HX3.out.2.2.1).1 (fun e=>hne e.symm)).trans HX3.out.2.2.1,HX3.out.2.1.jZ hk6 (fun g hg e=>hns3 (e▸hg)),hns3,hst3⟩,HLO.out.2.1.trans hCC.H,HLO.out.2.2.trans hCC.most,(HS2.out.trans (gq.tree HX3.out.2.2.2.1 HX3.out.2.2.2.2)).trans (gq.one hk6)⟩
   have hno3:=HLO.out.1
   have hsz:=hCC.size
   have hnl:=qf σ []
   unfold Room at hno3
   rw[rV hCC.H,hCC.most,eU] at hno3
   have hcc:=HCNT.out
   have h0:nh σ []=0:=rfl
   rw[hcc.2.2]
   omega
theorem J8 (t tr:Nat) (mp:VS) (root:Int) (ch:Bool) (σ:cK) (S:Nat→Prop) (w:World) (es l o r:List lG) (tb:List Int) (key value:ByteArray) (hT:zh w S t tr mp σ root 0 ch 0) (hL:Live σ root es tb) (hA:qL es key l o r) (hl:es.length≤4090) (hg:1≤key.size∧key.size≤128) (hv:63<value.size∧value.size≤49152) (there:Bool) (was:ByteArray) (hget:(d9 (ic es) key).isSome=there∧(d9 (ic es) key).getD ByteArray.empty=was) (hno:there=true→(was.toList==value.toList)=false):
  Calls Tryz.prog 38 #[.pointer (some ⟨t,0,none⟩),.string key,.string value] w fun e w'=>(e= .returned (.int .i64 0)∧Ef t tr mp S σ es l r tb key value w w')∨
   (e= .returned (.int .i64 12)∧σ.most+nh σ tb<σ.sz+2*(es.length+1)+kG value∧qK t tr mp S σ ch w w'):=by
 have hne:=qV hT.tx hT.tree
 have HU:=af (oV t mp tr ch 0 key w hT.tx)
 have hu:iD 0 key=0:=by unfold iD;rw[if_neg (by simp),if_neg (by omega)]
 rw[hu] at HU
 have HG:=uo t tr mp root ch σ S w es l o r tb key hT hL hA hl hg
 rw[hget.1,hget.2] at HG
 have HG:=af HG
 have x1:¬(49152:Int)<(value.size:Int):=by omega
 have x2:(63:Int)<(value.size:Int):=by omega
 have hb:kG value=1+rf value.size:=if_neg (by omega)
 have HBC:=af hb
 have HT:=af hT
 have hl':(iP es).length≤4090:=by rw[eU];exact hl
 have hall:=hL.all
 have hnd:=hL.own.nd
 have hbo:∀x∈dL o,x∈dL es:=fun x hx=>by rw[hA.eq,iC,iC];simp[hx]
 have hcnt:=hL.tree.count
 rw[eU] at hcnt
 have hnh:=qf σ tb
 have hsum:(⟨#[0]⟩:ByteArray)++value=strOf (0::value.data.toList):=Cg value
 have hsz0:(strOf (0::value.data.toList)).size=value.size+1:=by show (0::value.data.toList).toArray.size=value.data.size+1;simp
 have hadd:∀W:World,(Op.stringOp .add (⟨#[0]⟩:ByteArray) value).run Tryz.prog W= .ok (.string (strOf (0::value.data.toList))) W:=fun W=>by rw[←hsum];exact run_string_add W _ _ (by show ((1:Nat):Int)≤_;omega) (by omega)
 have HSZ:=af hsz0;have HSUM:=af hsum
 obtain⟨small,hsmall⟩:∃s,Hid (strOf (0::value.data.toList)=s):=⟨_,af rfl⟩
 rw[hsmall.out] at hadd HSZ HSUM
 have HCNT:=af (ay hcnt (ay hnh hb))
 clear hT hu hsum hsz0 hb hcnt hnh
 go_enter Tryz.func38,Tryz.ntmps38
 go_wp2_with (first
  |(go_at_call 61;go_must (refine HU.out.mono ?_;rintro e w1 ⟨rfl,rfl⟩))
  |(go_at_call 62;go_must (refine HG.out.mono ?_;rintro e w1 ⟨rfl,hb1⟩;refine Stop.of ?_)))
 refine Stop.on ?_
 have hT1:=HT.out.below hb1
 have hlt1:=(ah.1 hT1.tx).1
 have HD:=af (LZ t tr mp root ch 0 σ S w1 es l o r tb key hT1.tx hT1.inv hT1.tree hL hA hl hg)
 have HT1:=af (ay hT1 hb1)
 clear hT1 hb1
 cases there
 all_goals
  try have hno:=hno rfl
  go_wp2_with (first
   |(go_at_call 63;go_must (refine HD.out.mono ?_;rintro e w2 ⟨rfl,σ1,hI1,hs1,hc1,htk1⟩;refine Stop.of ?_)))
  refine Stop.on ?_
  have hT2:zh w2 S t tr mp σ1 root 0 ch 0:=⟨(hs1.1.block t hlt1 HT.out.nt).trans HT1.out.1.tx,(hs1.1.block tr (ah.1 HT1.out.1.tree).1 HT.out.ntr).trans HT1.out.1.tree,hI1,HT.out.nt,HT.out.ntr⟩
  have hTr1:xg σ1 root (iP es) tb:=hL.tree.keep hc1 (fun x hx=> .inl (fun e=>mR hnd x (hbo x e) hx))
  have hlt2:=(ah.1 hT2.tx).1
  have HS2:=af ((gq.of (t:=t) (tr:=tr) (Step.of_below (S:=S) HT1.out.2)).trans (gq.of hs1))
  have HC1:=af hc1
  have HTR1:=af hTr1
  clear hI1 hs1 hc1 hTr1
  have c0:w2.cell? ⟨t,0,none⟩=some (.pointer (some ⟨mp.tx,0,none⟩)):=by simp[World.cell?,hT2.tx,eX]
  have c1:w2.cell? ⟨t,1,none⟩=some (.pointer (some ⟨mp.mp,0,none⟩)):=by simp[World.cell?,hT2.tx,eX]
  have HW:=af (QW mp σ1 S w2 value hT2.inv (by omega) (by omega))
  have HT2':=af hT2
  clear hT2
  go_wp2_with (first
   |(go_at_call 65;go_must (refine HW.out.mono ?_;rintro e w3 (⟨hd,rs,σ2,rfl,hB2,hC2,htk2,hI2,hs2⟩|⟨rfl,hlow,σ2,hI2,hs2,hH2,hm2⟩)<;>refine Stop.of ?_)))
  ·refine Stop.on ?_
   have hT3:zh w3 S t tr mp σ2 root 0 ch 0:=⟨(hs2.1.block t hlt2 HT.out.nt).trans HT2'.out.tx,(hs2.1.block tr (ah.1 HT2'.out.tree).1 HT.out.ntr).trans HT2'.out.tree,hI2,HT.out.nt,HT.out.ntr⟩
   have hlt3:=(ah.1 hT3.tx).1
   have hdm:hd<65536:=by
    obtain⟨n,q1,q2,_⟩:=cK.mF hB2.hd.has
    have:=hI2.cap
    omega
   have hlen:(jL hd rs).length=1+rf value.size:=by
    have e1:=hB2.hd.len
    have e2:value.data.toList.length=value.size:=by show value.data.toList.length=value.data.size;simp
    rw[e2] at e1
    simp[jL,e1];omega
   have HLEN:=af hlen
   have HV2:=af (ay hC2 (show ValAt σ2 (strOf [1,UInt8.ofNat hd,UInt8.ofNat (hd/256)]) value (jL hd rs) from .inr ⟨hd,rs,rfl,⟨hdm,hv.1⟩,hB2,rfl⟩))
   have HTR2:=af (HTR1.out.keep hC2 (fun x _=> .inl (by simp)))
   have HS3:=af (HS2.out.trans (gq.of hs2))
   clear hsmall HSZ HSUM hadd
   have HCV:=af (QU hd hdm w3)
   have q1:IntKind.i64.wrap ((hd:Int)/256)=(hd:Int)/256:=aR _ (by omega)
   have HTK2:=af htk2
   clear hlen hC2 hB2 hI2 hs2 htk2
   go_upto_region 17 with (fail)
   have hcv:=HCV.out
   go_upto_region 18 with (fail)
   obtain⟨small,hsmall⟩:∃s,Hid (strOf [1,UInt8.ofNat hd,UInt8.ofNat (hd/256)]=s):=⟨_,af rfl⟩
   rw[hsmall.out] at HV2 ⊢
   have HSZ:=af (show small.size=3 by rw[←hsmall.out];rfl)
   clear hcv HCV
   obtain⟨w4,hw4,hb4⟩:∃w4,w4=w3.alloc (.cells #[.int .u8 1,.int .u8 ((hd:Int)%256),.int .u8 ((hd:Int)/256)] 5)∧Below w3.heap.size w3 w4:=⟨_,rfl,aI _ _⟩
   rw[←hw4]
   have hT4:=hT3.below hb4
   have HS4:=af (HS3.out.trans (gq.of (Step.of_below (S:=S) hb4)))
   have hlt4:=(ah.1 hT4.tx).1
   clear hT3 hw4 hb4
   have HPT:=af (EU tr mp root σ2 S (iP es) tb key small w4 hT4.inv hT4.tree HT.out.ntr HTR2.out (dN.1 hnd).1 hl' ⟨hg,by have:=HSZ.out;omega⟩)
   have c2:World.cell? w4 ⟨t,2,none⟩=some (.pointer (some ⟨tr,0,none⟩)):=by simp[World.cell?,hT4.tx,eX]
   have HT2:=af hT4
   clear hT4
   go_wp2_with (first
    |(go_at_call 66;go_must (refine HPT.out.mono ?_;rintro e w5 (⟨rfl,σ3,S3,b3,hI3,ht3,hst3,hP3,hk3,hn3⟩|⟨rfl,hlost,σ3,S3,hI3,ht3,hst3,hH3,hm3,hk3,hn3⟩)<;>refine Stop.of ?_)))
   ·refine Stop.on ?_
    have htx3:=(hk3.block t hlt4 (fun e=>e.elim HT.out.nt hne)).trans HT2.out.tx
    have hns3:¬S3 t:=fun e=>(hn3 t e).elim HT.out.nt (fun x=>absurd hlt4 (bF.2 x))
    have d3:w5.cell? ⟨t,3,none⟩=some (.bool ch):=by simp[World.cell?,htx3,eX]
    have f3:w5.frozen? ⟨t,3,none⟩=false:=by simp[World.frozen?,htx3]
    have hlt3:=(ah.1 htx3).1
    have HX3:=af (ay htx3 (ay hI3 (ay ht3 (ay hk3 hn3))))
    have HP3:=af hP3
    clear htx3 hI3 ht3 hk3 hn3 hP3
    go_wp2_with fail
    go_ret
    have hk4:Keep (· =t) w5 (w5.setCell ⟨t,3,none⟩ (.bool true)):=(Keep.refl (· =t) _).setCell (p:=⟨t,3,none⟩) (.inr rfl) _
    obtain⟨tb',hL',hC'⟩:=Fs hL hA HC1.out HV2.out.1 HV2.out.2 HP3.out
    refine .inl ⟨rfl,σ3,S3,b3,tb',small,_,⟨?_,?_,HX3.out.2.1.jZ hk4 (fun g hg e=>hns3 (e▸hg)),hns3,hst3⟩,hL',hC',?_,fun L r t0=> ?_,fun hc=> ?_⟩
    ·simp[World.setCell,aW,HX3.out.1]
     rfl
    ·exact(hk4.block tr (ah.1 HX3.out.2.2.1).1 (fun e=>hne e.symm)).trans HX3.out.2.2.1
    ·exact(HS4.out.trans (gq.tree HX3.out.2.2.2.1 HX3.out.2.2.2.2)).trans (gq.one hk4)
    ·obtain⟨_,_,_,hpk,_⟩:=HP3.out
     have hCC:=HC1.out.trans HV2.out.1
     have hsz:=hCC.size
     have hsz1:=HC1.out.size
     have hnl:=qf σ (jL hd rs)
     have hcc:=HCNT.out
     have hz:nh σ []=0:=rfl
     have hle:=HLEN.out
     rw[hcc.2.2] at r
     refine hpk L ?_ ?_
     ·unfold jX
      rw[rV hCC.H,eU]
      omega
     ·have e1:=HTK2.out;have e2:value.data.toList.length=value.size:=(by show value.data.toList.length=value.data.size;simp);rw[e2,htk1] at e1;omega
    ·obtain⟨_,_,_,_,hft⟩:=HP3.out
     have h0:=Gr HC1.out htk1
     have h2:=hft (by rw[hA.is small value (jL hd rs),eU];exact hc)
     have e2:value.data.toList.length=value.size:=by show value.data.toList.length=value.data.size;simp
     have e1:=HTK2.out
     rw[e2] at e1
     have hcc:=HCNT.out
     have hs2:=HV2.out.1.size
     have hn1:=qf σ1 (jL hd rs)
     have hz:nh σ1 []=0:=rfl
     have hle:=HLEN.out
     have h1:vP σ1 σ2 (kG value):=⟨by omega,fun L r t=>by omega⟩
     exact((h0.trans h1).trans h2).more (by omega)
   ·refine Stop.on ?_
    have htx3:=(hk3.block t hlt4 (fun e=>e.elim HT.out.nt hne)).trans HT2.out.tx
    have hns3:¬S3 t:=fun e=>(hn3 t e).elim HT.out.nt (fun x=>absurd hlt4 (bF.2 x))
    have HSP:=af (Df t mp (some tr) ch 0 12 w5 htx3)
    have HX3:=af (ay htx3 (ay hI3 (ay ht3 (ay hk3 hn3))))
    have HLO:=af (ay hlost (ay hH3 hm3))
    clear htx3 hI3 ht3 hk3 hn3 hlost hH3 hm3
    go_wp2_with (first
     |(go_at_call 64;go_must (refine HSP.out.mono ?_;rintro e w6 ⟨rfl,h6,hk6⟩)))
    go_ret
    have hCC:=HC1.out.trans HV2.out.1
    refine .inr ⟨rfl,?_,σ3,S3,root,12,⟨h6,(hk6.block tr (ah.1 HX3.out.2.2.1).1 (fun e=>hne e.symm)).trans HX3.out.2.2.1,HX3.out.2.1.jZ hk6 (fun g hg e=>hns3 (e▸hg)),hns3,hst3⟩,HLO.out.2.1.trans hCC.H,HLO.out.2.2.trans hCC.most,(HS4.out.trans (gq.tree HX3.out.2.2.2.1 HX3.out.2.2.2.2)).trans (gq.one hk6)⟩
    have hno3:=HLO.out.1
    have hsz:=hCC.size
    have hnl:=qf σ (jL hd rs)
    unfold Room at hno3
    rw[rV hCC.H,hCC.most,eU] at hno3
    have hcc:=HCNT.out
    have hle:=HLEN.out
    rw[hcc.2.2]
    omega
  ·refine Stop.on ?_
   have htx3:=(hs2.1.block t hlt2 HT.out.nt).trans HT2'.out.tx
   have HSP:=af (Df t mp (some tr) ch 0 12 w3 htx3)
   have htr3:=(hs2.1.block tr (ah.1 HT2'.out.tree).1 HT.out.ntr).trans HT2'.out.tree
   have HX3:=af (ay hI2 (ay hs2 (ay htr3 (ay hlow (ay hH2 hm2)))))
   clear htx3 hI2 hs2 hlow hH2 hm2 htr3
   go_wp2_with (first
    |(go_at_call 64;go_must (refine HSP.out.mono ?_;rintro e w6 ⟨rfl,h6,hk6⟩)))
   go_ret
   refine .inr ⟨rfl,?_,σ2,S,root,0,⟨h6,(hk6.block tr (ah.1 HX3.out.2.2.1).1 (fun e=>hne e.symm)).trans HX3.out.2.2.1,HX3.out.1.jZ hk6 (fun g hg e=>HT.out.nt (e▸hg)),HT.out.nt,HT.out.ntr⟩,HX3.out.2.2.2.2.1.trans HC1.out.H,HX3.out.2.2.2.2.2.trans HC1.out.most,(HS2.out.trans (gq.of HX3.out.2.1)).trans (gq.one hk6)⟩
   have hlo:=HX3.out.2.2.2.1
   have hsz:=HC1.out.size
   have hmo:=HC1.out.most
   have hcc:=HCNT.out
   have e2:value.data.toList.length=value.size:=by show value.data.toList.length=value.data.size;simp
   rw[e2] at hlo
   rw[hcc.2.2]
   have:nh σ []=0:=rfl
   omega
def uS (kv:List Pr) (key:ByteArray) (most:Int):List Pr:=(kv.drop (dB kv key)).take most.toNat
theorem aS.set2 {w:World} {S:Nat→Prop} {B g n c:Nat} {ps:List Pr} (h:aS w S B 130 2 (.slice (some ⟨g,0,none⟩) n c) n (dH ps)) (i:Nat) (hi:i<n) (hn:ps.length=n) (u:ByteArray):
  aS (w.setCell ⟨g,i*2+1,none⟩ (.string u)) S B 130 2 (.slice (some ⟨g,0,none⟩) n c) n (dH (ps.set i (ps[i].1,u)))∧Keep (· =g) w (w.setCell ⟨g,i*2+1,none⟩ (.string u))∧w.frozen? ⟨g,i*2+1,none⟩=false∧g<w.heap.size∧B≤g:=by
 obtain⟨cur,hr,hl,hx,hBg,hSg,hc,hc2⟩:=h.row
 have hk5:Keep (· =g) w (w.setCell ⟨g,i*2+1,none⟩ (.string u)):=Keep.setCell (M:=(· =g)) (p:=⟨g,i*2+1,none⟩) (Keep.refl _ _) (.inr rfl) _
 have hr':Row (w.setCell ⟨g,i*2+1,none⟩ (.string u)) g 130 (cur.set (i*2+1) (.string u)):=by
  unfold Row at hr ⊢
  simp[World.setCell,aW,hr]
 refine⟨?_,hk5,hr.frozen _,hr.lt,hBg⟩
 have:=hr'.own (S:=S) (B:=B) (k:=2) (cap:=c) n (by simpa using hl) hBg hSg hc hc2
 rw[show (cur.set (i*2+1) (.string u)).take (n*2)=dH (ps.set i (ps[i].1,u)) from by rw[←yI _ _ i (by omega),←hx,←List.take_set]] at this
 exact this
def uQ (es:List lG) (k:Nat):List Pr:=ic (es.take k)++iP (es.drop k)
theorem oz (es:List lG) (k:Nat):(uQ es k).length=es.length:=by
 unfold uQ
 rw[aC,je,eU,aD,aO];omega
theorem Jy (es:List lG) (k:Nat) (h:k<es.length):(uQ es k)[k]'(by rw[oz];exact h)=(es[k].k,es[k].s):=by
 unfold uQ
 have hl:(ic (es.take k)).length=k:=by rw[je,aD];omega
 rw[List.getElem_append_right (by omega)]
 simp[iP,hl]
theorem MR (es:List lG) (k:Nat) (h:k<es.length):(uQ es k).set k (es[k].k,es[k].v)=uQ es (k+1):=by
 unfold uQ
 have hl:(ic (es.take k)).length=k:=by rw[je,aD];omega
 have e:iP (es.drop k)=(es[k].k,es[k].s)::iP (es.drop (k+1)):=by rw[bP h];rfl
 rw[gY _ _ (by omega),hl,xI,e,au,aK h,lU]
 simp[ic]
theorem MS (es:List lG):uQ es es.length=ic es:=by unfold uQ;simp[iP]
theorem KH (es:List lG):uQ es 0=iP es:=by unfold uQ;simp[ic]
theorem Ko (es:List lG) (key:ByteArray) (most:Int):∃xs:List lG,(∀e∈xs,e∈es)∧((iP es).drop (dB (iP es) key)).take most.toNat=iP xs∧uS (ic es) key most=ic xs:=by
 refine⟨(es.drop (sj es key)).take most.toNat,fun e he=>bS (dZ he),?_,?_⟩
 ·show ((iP es).drop (dB (iP es) key)).take most.toNat=_
  unfold iP
  rw[Dx (fun e=>(e.k,e.s)) (fun _=>rfl),gI,fK]
 ·unfold uS ic
  rw[Dx (fun e=>(e.k,e.v)) (fun _=>rfl),gI,fK]
theorem Rh (t tr:Nat) (mp:VS) (root:Int) (ch:Bool) (σ:cK) (S:Nat→Prop) (w:World) (es:List lG) (tb:List Int) (key:ByteArray) (most:Int) (hT:zh w S t tr mp σ root 0 ch 0) (hL:Live σ root es tb) (hl:es.length≤4090):
  Calls Tryz.prog 72 #[.pointer (some ⟨t,0,none⟩),.string key,.int .i64 most] w fun e w'=>∃v,e= .returned (.tuple #[v,.int .i64 0])∧aS w' S w.heap.size 130 2 v (uS (ic es) key most).length (dH (uS (ic es) key most))∧Below w.heap.size w w':=by
 have HU:=af (oV t mp tr ch 0 ⟨#[107]⟩ w hT.tx)
 have hu:iD 0 (⟨#[107]⟩:ByteArray)=0:=by decide
 rw[hu] at HU
 obtain⟨xs,hx1,hx2,hx3⟩:=Ko es key most
 have HS:=Kn tr mp root σ S (iP es) tb key most w hT.inv hT.tree hL.tree (by rw[eU];exact hl)
 have hx2:((iP es).drop (dB (iP es) key)).take most.toNat=iP xs:=hx2
 rw[hx2] at HS
 have HS:=af HS
 have HXS:=af (ay hx1 hx3)
 have c2:w.cell? ⟨t,2,none⟩=some (.pointer (some ⟨tr,0,none⟩)):=by simp[World.cell?,hT.tx,eX]
 have hlt:=(ah.1 hT.tx).1
 have HT:=af hT
 rw[hx3,je]
 obtain⟨n,hn⟩:∃n,n=xs.length:=⟨_,rfl⟩
 have HN:=af hn
 rw[eU,←hn] at HS
 rw[←hn]
 clear hT hu hx1 hx2 hx3 hn
 go_enter Tryz.func72,Tryz.ntmps72
 go_wp2_with (first
  |(go_at_call 61;go_must (refine HU.out.mono ?_;rintro e w1 ⟨hw1,rfl⟩;subst w1))
  |(go_at_call 122;go_must (refine HS.out.mono ?_;rintro e w1 ⟨v,rfl,hown1,hb1⟩;refine Stop.of ?_)))
 refine Stop.on ?_
 obtain⟨ao,cp,rfl,_,_,_,_⟩:=bE.form hown1.dD
 rw[←KH] at hown1
 have HO1:=af hown1;have HB1:=af hb1
 clear hown1 hb1
 go_wp2_with fail
 go_loopw [10,11,12,35] (fun e _ _ i wr=>∃k:Nat,k≤n∧e= .int .i64 0∧i= .int .i64 k∧aS wr S w.heap.size 130 2 (.slice ao n cp) n (dH (uQ xs k))∧Below w.heap.size w wr) (fun _ _ _ i _=>n - (intOf i).toNat)
 case atStart=>exact⟨0,aY _,rfl,rfl,HO1.out,HB1.out⟩
 case round=>
  obtain⟨k,hk,rfl,rfl,hok,hbk⟩:=hrel
  by_cases hkn:k<n
  ·have y1:(k:Int)<(n:Int):=by omega
   obtain⟨g,c,e,hc1,hc2,hg1,hg2⟩:=hok.AP (by omega)
   cases e
   have hkx:k<xs.length:=by rw[←HN.out];exact hkn
   have hP:mJ wr S (.slice (some ⟨g,0,none⟩) n cp) (uQ xs k):=by
    have:=hok.dD
    unfold mJ
    rw[oz,←HN.out];exact this
   obtain⟨pb,po,e1,d0,d1⟩:=hP.at rfl k (by rw[oz];exact hkx)
   cases e1
   rw[Jy xs k hkx] at d0 d1
   rw[eH] at d0 d1
   obtain⟨E,hE⟩:∃E,Hid (xs[k]=E):=⟨_,af rfl⟩
   rw[hE.out] at d0 d1
   have hmem:E∈es:=HXS.out.1 E (by rw[←hE.out];exact bq hkx)
   have HV:=af (hL.val E hmem)
   have hTk:=HT.out.below hbk
   have HOK:=af hok;have HBK:=af hbk;have HTK:=af hTk
   have htk:=(ah.1 hTk.tx).1
   clear hok hbk hTk hP
   go_wp2_with (first
    |(go_at_call 101;go_must (refine(LX t mp (some tr) ch 0 σ S _ E.s E.v E.b (((aI wr (.cells #[.string E.k,.string E.s] 130)).block t htk).trans HTK.out.tx) (HTK.out.inv.below (aI wr (.cells #[.string E.k,.string E.s] 130))) HV.out).mono ?_;rintro e w5 ⟨hb5,rfl⟩;refine Stop.of ?_)))
   refine Stop.on ?_
   have hbw5:Below wr.heap.size wr w5:=(aI wr (.cells #[.string E.k,.string E.s] 130)).trans (hb5.mono (by simp))
   have hO5:=HOK.out.below hbw5
   obtain⟨u1,u2,u3,u4,u5⟩:=hO5.set2 k hkn (by rw[oz,←HN.out]) E.v
   have u0:w5.cell? ⟨g,k*2+1,none⟩=some (.string E.s):=(hbw5.cell (p:=⟨g,k*2+1,none⟩) hg2).trans d1
   have hms:(uQ xs k).set k (((uQ xs k)[k]'(by rw[oz];exact hkx)).1,E.v)=uQ xs (k+1):=by
    rw[Jy xs k hkx,←hE.out]
    exact MR xs k hkx
   rw[hms] at u1
   have hbs:Below w.heap.size w (w5.setCell ⟨g,k*2+1,none⟩ (.string E.v)):=(HBK.out.trans (hbw5.mono HBK.out.size)).setCell (by simpa using u5) _
   have HU1:=af (ay u1 hbs)
   clear u1 u2 hO5 hbw5 hb5 hms hbs
   go_wp2_with fail
   go_roundw
   case rel=>exact⟨k+1,by omega,rfl,by go_num,HU1.out.1,HU1.out.2⟩
   case measure=>simp[intOf];omega
  ·obtain rfl:k=n:=by omega
   have y1:¬(k:Int)<(k:Int):=by omega
   rw[HN.out,MS] at hok
   go_wp2_with fail
   go_ret2
   exact⟨_,rfl,by rw[HN.out];exact hok,hbk⟩
structure JX (σ:Dk) (l:Lg) (p:Pg) (f:Nat→Bool) (root:Nat):Prop where
 pd:p.dead=false
 sd:σ.dead=false
 two:2≤p.blocks σ
 map:p.look Im.none σ 0=bytesOf f
 hi:∀b,p.blocks σ≤b→f b=false
 f0:f 0=true
 f1:f 1=true
 root:I8 (p.look Im.none σ 1) root
def D9 (n:Nat) (log:Int):Int:=if log<6∨(n:Int) - 8<log then 1 else 0
theorem R9 (d:Nat) (σ:Dk) (Sd:Nat→Prop) (log:Int) (w:World) (h:qO w Sd d σ):
  Calls Tryz.prog 50 #[.pointer (some ⟨d,0,none⟩),.int .i64 log] w fun e w'=>e= .returned (.int .i64 (D9 σ.n log))∧w'=w:=by
 have HS:=af (F6 d σ Sd w h)
 have hi:=h.ok.hi
 have q:IntKind.i64.wrap ((σ.n:Int) - 8)=(σ.n:Int) - 8:=aR _ (by omega)
 clear h
 unfold D9
 by_cases h1:log<6
 ·rw[if_pos (.inl h1)]
  go_enter Tryz.func50,Tryz.ntmps50
  go_wp2_with fail
  go_ret
  exact⟨rfl,rfl⟩
 ·by_cases h2:(σ.n:Int) - 8<log
  ·rw[if_pos (.inr h2)]
   go_enter Tryz.func50,Tryz.ntmps50
   go_wp2_with (first
    |(go_at_call 79;go_must (refine HS.out.mono ?_;rintro e w1 ⟨rfl,hw1⟩;subst w1)))
   go_ret
   exact⟨rfl,rfl⟩
  ·rw[if_neg (by omega)]
   go_enter Tryz.func50,Tryz.ntmps50
   go_wp2_with (first
    |(go_at_call 79;go_must (refine HS.out.mono ?_;rintro e w1 ⟨rfl,hw1⟩;subst w1)))
   go_ret
   exact⟨rfl,rfl⟩
theorem O3 {im:Im} {n:Nat} (h:im.Ok n):eO im.dV=(16+520*im.ks.length+511)/512:=by
 have e:(im.dV.map fun r=>4+r.length).sum=520*im.ks.length:=by
  unfold Im.dV
  rw[Em]
  have hi:=h.img
  revert hi
  generalize im.ks=ks
  intro hi
  induction ks with
  |nil=>rfl
  |cons k ks ih=>
   rw[cO,uR,ih (fun x hx=>hi x (aX _ hx)),bf]
   have:=hi k (bg ..)
   show 4+(leB k 4++im.img k).length+_=_
   rw[aC,fC,this];omega
 unfold eO
 rw[e]
theorem Dk.Ep:∀(k i:Nat) (σ:Dk) (j:Nat),i≤j→j<i+k→(Dk.sF k i σ).get j=pad []
 |0,_,_,_,h1,h2=>absurd h2 (by omega)
 |k+1,i,σ,j,h1,h2=>by
  rw[Dk.xL,Dk.get_put]
  split
  ·rfl
  ·exact Dk.Ep k i σ j h1 (by omega)
structure QZ (σ0:Dk) (log:Nat) (σ:Dk) (l:Lg) (p:Pg):Prop where
 vi:VI σ l p
 last:l.last=1
 synced:l.synced=1
 skip:p.skip=log
 ring:p.ring=log - 1
 n:σ.n=σ0.n
 base:JX σ l p two 0
theorem QZ.live {σ:Dk} {l:Lg} {p:Pg}:Live (cK.start σ l p two) 0 [] []:=by
 refine⟨.inl ⟨rfl,rfl,rfl⟩,(fun e he=>by cases he),⟨oO,fun x hx=> ?_,?_⟩⟩
 ·obtain⟨n,rfl,_,h⟩:=cK.mF hx
  have h:two n=true:=h
  unfold two at h
  have:=iq h
  omega
 ·show countB (fun x=>two x||two x) (p.blocks σ)=countB two (p.blocks σ)+0
  rw[iK]
  exact jT _ (fun x _=>Bool.or_self _)
theorem Ri (d:Nat) (σ:Dk) (Sd:Nat→Prop) (log:Nat) (w:World) (h:qO w Sd d σ) (hf:σ.nQ) (h1:6≤log) (h2:log+8≤σ.n) (hcap:σ.waits.length≤50000):
  Calls Tryz.prog 33 #[.pointer (some ⟨d,0,none⟩),.int .i64 log] w fun e w'=>∃v pg σ' l' p' S',e= .returned (.tuple #[.pointer (some ⟨v,0,none⟩),.int .i64 0])∧w'.heap[v]? =some (.cells #[.pointer (some ⟨pg,0,none⟩)] 93 (0,0))∧¬S' v∧w.heap.size≤v∧jN w' S' pg d σ' l' p' (.pointer none)∧QZ σ log σ' l' p'∧Step Sd S' w w':=by
 have hck:=R9 d σ Sd log w h
 have hc0:D9 σ.n log=0:=by unfold D9;rw[if_neg (by omega)]
 rw[hc0] at hck
 have HCK:=af hck
 have hdn:=h.ok.hi
 have HPM:=af (Rp d σ Sd log w h hf (by omega) (by omega) hcap)
 have hsub:=h.sub
 clear h hck hc0
 go_enter Tryz.func33,Tryz.ntmps33
 go_wp2_with (first
  |(go_at_call 50;go_must (refine HCK.out.mono ?_;rintro e w1 ⟨rfl,hw1⟩;subst w1))
  |(go_at_call 51;go_must (refine HPM.out.mono ?_;rintro e w1 ⟨pg,S1,rfl,hp1,hs1⟩;refine Stop.of ?_)))
 refine Stop.on ?_
 obtain⟨σ1,hσ1⟩:∃σ1,σ1=(((Dk.sF (σ.n - log) log σ).flush.put 0 (Lg.new 0 log).kY).flush):=⟨_,rfl⟩
 rw[←hσ1] at hp1
 have hn1:σ1.n=σ.n:=by rw[hσ1];exact Dk.xM _ _ _
 have hf1:σ1.nQ:=by rw[hσ1];exact Dk.ul _ _ _ hf
 have hw1:σ1.waits=[]:=by rw[hσ1];rfl
 have hg1:∀j,log≤j→j<σ.n→σ1.get j=pad []:=fun j a b=>by
  rw[hσ1,vG _ _ _ _ (by omega)]
  exact Dk.Ep _ _ _ _ a (by omega)
 have hbl:(Pg.new log).blocks σ1=σ.n - log:=by unfold Pg.blocks;rw[hn1];rfl
 have HBG:=af (MI pg d σ1 (Lg.new 0 log) (Pg.new log) S1 w1 hp1 rfl)
 have hsub1:=hp1.sub
 have HS1:=af hs1
 have HF1:=af (ay hn1 (ay hf1 (ay hw1 hg1)))
 clear hσ1 hp1 hs1 hn1 hf1 hw1 hg1
 go_wp2_with (first
  |(go_at_call 52;go_must (refine HBG.out.mono ?_;rintro e w2 ⟨t,T,rfl,hp2,ht2,hs2,hT2⟩;refine Stop.of ?_)))
 refine Stop.on ?_
 have hdis:∀g,S1 g→¬T g:=fun g hg e=>absurd (hT2 g e) (fq.2 (hsub1 g hg))
 have HBL:=af (Dy pg d σ1 (Lg.new 0 log) (Pg.new log) _ S1 w2 hp2)
 have HSM:=af (Qq t pg d σ1 (Lg.new 0 log) (Pg.new log) _ Im.none S1 T w2.drew (hp2.below ((aQ _ w2).drew)) (ht2.below ((aQ _ w2).drew)) rfl (by omega))
 clear hbl
 have HX2:=af (ay hp2 hs2)
 clear hp2 ht2 hs2
 go_wp2_with (first
  |(go_at_call 54;go_must (refine HBL.out.mono ?_;rintro e w3 ⟨rfl,hw3⟩;subst w3))
  |(go_at_call 53;go_must (refine HSM.out.mono ?_;rintro e w3 ⟨rfl,ht3,hs3⟩;refine Stop.of ?_)))
 refine Stop.on ?_
 obtain⟨im,him⟩:∃im,im=Im.none.put 0 (bytesOf two):=⟨_,rfl⟩
 rw[←him] at ht3
 have hp3:=(HX2.out.1.below ((aQ _ w2).drew)).keep hs3.1 (fun g hg e=>hdis g hg e)
 have himok:im.Ok ((Pg.new log).blocks σ1):=by obtain⟨_,q⟩:=ht3;exact q.ok
 have hks:im.ks=[0]:=by rw[him];rfl
 have hPO:=hp3.ok
 have hV1:VI σ1 (Lg.new 0 log) (Pg.new log):=⟨HF1.out.2.1,rfl,rfl,by rw[HF1.out.2.2.1];exact aY _⟩
 have HCM:=OY t pg d σ1 (Lg.new 0 log) (Pg.new log) _ im S1 T w3 hp3 ht3 hdis rfl rfl (by rw[HF1.out.2.2.1];exact aY _) (by show 0<1000000000000;omega)
 obtain⟨σ2,l2,p2,hcm,hV2,hl2,hk2,hr2,hn2,hlk2⟩:∃σ2 l2 p2,(Pg.new log).commit σ1 (Lg.new 0 log) im=(σ2,l2,p2,1,0)∧VI σ2 l2 p2∧l2.last=1∧p2.skip=log∧p2.ring=log - 1∧σ2.n=σ1.n∧∀b,p2.look Im.none σ2 b=(Pg.new log).look im σ1 b:=by
  rcases IX hV1 hPO.1 hPO.2.2 himok with ⟨q,_⟩|⟨_,q,_⟩|⟨_,_,σ2,l2,p2,q1,q2,q3,q4,q5,q6,q7⟩
  ·rw[hks] at q;cases q
  ·unfold Pg.E9 at q
   rw[O3 himok,hks] at q
   have:(Pg.new log).ring=log - 1:=rfl
   rw[this] at q
   simp at q
   omega
  ·exact⟨σ2,l2,p2,q1,q2,q3,q4,q5,q6,q7⟩
 rw[hcm] at HCM
 have HCM:=af HCM
 have HLK:=af (ay hV2 (ay hl2 (ay hk2 (ay hr2 (ay hn2 (ay hlk2 him))))))
 have HS3:=af (HX2.out.2.trans ((Step.of_below ((aQ _ w2).drew):Step S1 S1 w2 w2.drew)))
 have HK3:=af hs3
 clear hp3 ht3 himok hks hPO hV1 hcm hV2 hl2 hk2 hr2 hn2 hlk2 him hs3
 go_wp2_with (first
  |(go_at_call 55;go_must (refine HCM.out.mono ?_;rintro e w4 ⟨rfl,S4,hp4,hE4,hs4⟩;refine Stop.of ?_)))
 refine Stop.on ?_
 obtain⟨σ5,l5,hsy,hV5,hl5,hy5,hn5,hlk5⟩:=Mi HLK.out.1 hp4.ok.1
 have HSY:=Ro pg d σ2 l2 p2 _ S4 w4 hp4 (by have:=HLK.out.1.wt;have:=hp4.ok.2.2.us;have:=hp4.ok.2.2.hi;omega)
 rw[hsy] at HSY
 have HSY:=af HSY
 have HL5:=af (ay hV5 (ay hl5 (ay hy5 (ay hn5 hlk5))))
 have HS4:=af hs4
 clear hp4 hE4 hs4 hsy hV5 hl5 hy5 hn5 hlk5
 go_wp2_with (first
  |(go_at_call 56;go_must (refine HSY.out.mono ?_;rintro e w5 ⟨rfl,S5,hp5,hs5⟩;refine Stop.of ?_)))
 refine Stop.on ?_
 go_wp2_with fail
 go_ret2
 have hb6:=aI w5 (.cells #[.pointer (some ⟨pg,0,none⟩)] 93)
 have hsub5:=hp5.sub
 have hz5:w.heap.size≤w5.heap.size:=by
  have a:=HS1.out.1.size;have b:=HS3.out.1.size;have c:=HK3.out.1.size;have d:=HS4.out.1.size;have e:=hs5.1.size
  omega
 have hskip:=HLK.out.2.2.1
 have hlook:∀b,p2.look Im.none σ5 b=(Pg.new log).look im σ1 b:=fun b=>(HL5.out.2.2.2.2 Im.none b).trans (HLK.out.2.2.2.2.2.1 b)
 have hn5:σ5.n=σ.n:=HL5.out.2.2.2.1.trans (HLK.out.2.2.2.2.1.trans HF1.out.1)
 refine⟨w5.heap.size,pg,σ5,l5,p2,S5,rfl,aM w5 _,fun e=>dI _ (hsub5 _ e),hz5,hp5.below hb6,⟨HL5.out.1,HL5.out.2.1.trans HLK.out.2.1,HL5.out.2.2.1.trans HLK.out.2.1,hskip,HLK.out.2.2.2.1,hn5,?_⟩,?_⟩
 ·have hbl5:p2.blocks σ5=σ.n - log:=by unfold Pg.blocks;rw[hn5,hskip]
  refine⟨HLK.out.1.pd,HL5.out.1.free.1,by omega,?_,fun b hb=> ?_,rfl,rfl,?_⟩
  ·rw[hlook,HLK.out.2.2.2.2.2.2]
   unfold Pg.look
   rw[Im.AU,if_pos rfl];rfl
  ·unfold two
   exact bD (by omega)
  ·rw[hlook,HLK.out.2.2.2.2.2.2]
   have:(Pg.new log).look (Im.none.put 0 (bytesOf two)) σ1 1=pad []:=by
    unfold Pg.look
    rw[Im.AU,if_neg (by omega)]
    exact HF1.out.2.2.2 (log+1) (by omega) (by omega)
   rw[this]
   exact⟨by omega,List.replicate 510 0,rfl⟩
 ·have h0:=HS1.out.trans HS3.out
  have a:Step Sd (fun g=>S1 g∨T g) w w2.drew:=⟨h0.1,fun g hg=>hg.elim (h0.2 g) (fun e=> .inr (aH HS1.out.1.size (hT2 g e)))⟩
  have b:Step Sd (fun g=>S1 g∨T g) w w3:=a.trans ⟨HK3.out.1.mono (fun g _ e=> .inr e),fun g hg=> .inl hg⟩
  have c:=b.trans HS4.out
  have e:Step Sd S5 w w5:=c.trans ⟨hs5.1.mono (fun g _ e=> .inl e),fun g hg=>(hs5.2 g hg).imp .inl id⟩
  exact e.trans (Step.of_below hb6)
structure LD (w:World) (S:Nat→Prop) (v pg d:Nat) (σ:Dk) (l:Lg) (p:Pg) (f:Nat→Bool) (root:Nat) (es:List lG) (tb:List Int):Prop where
 obj:w.heap[v]? =some (.cells #[.pointer (some ⟨pg,0,none⟩)] 93 (0,0))
 nv:¬S v
 pgr:jN w S pg d σ l p (.pointer none)
 vi:VI σ l p
 base:JX σ l p f root
 live:Live (cK.start σ l p f) root es tb
structure R6 (σ:cK) (root:Nat) (es:List lG) (tb:List Int):Prop where
 vi:VI σ.H.dk σ.H.lg σ.H.pg
 base:JX σ.H.dk σ.H.lg σ.H.pg σ.H.old root
 live:Live (cK.start σ.H.dk σ.H.lg σ.H.pg σ.H.old) root es tb
structure vN (w:World) (S:Nat→Prop) (v t tr:Nat) (mp:VS) (σ:cK) (root:Int) (es:List lG) (tb:List Int) (ch:Bool) (root0:Nat) (es0:List lG) (tb0:List Int):Prop where
 obj:w.heap[v]? =some (.cells #[.pointer (some ⟨mp.pg,0,none⟩)] 93 (0,0))
 nv:¬S v
 tx:zh w S t tr mp σ root 0 ch 0
 live:Live σ root es tb
 bas:R6 σ root0 es0 tb0
 ch:ch=false→σ=cK.start σ.H.dk σ.H.lg σ.H.pg σ.H.old∧es=es0
structure Om (w:World) (S:Nat→Prop) (v t tr:Nat) (mp:VS) (σ:cK) (ch:Bool) (root0:Nat) (es0:List lG) (tb0:List Int):Prop where
 obj:w.heap[v]? =some (.cells #[.pointer (some ⟨mp.pg,0,none⟩)] 93 (0,0))
 nv:¬S v
 tx:∃root err,zh w S t tr mp σ root err ch 12
 bas:R6 σ root0 es0 tb0
theorem Qm {w:World} {v t pg:Nat} {mp:VS} {tr:Option Nat} {ch:Bool} {er:Int} (h:w.heap[v]? =some (.cells #[.pointer (some ⟨pg,0,none⟩)] 93 (0,0))) (ht:w.heap[t]? =some (.cells (eX mp tr ch er) 110 (0,0))):v≠t:=by
 rintro rfl
 rw[h] at ht
 injection ht with ht
 injection ht with _ h2
 exact absurd h2 (by decide)
theorem OD {w:World} {v t pg:Nat} {mp:VS} {root err:Int} (h:w.heap[v]? =some (.cells #[.pointer (some ⟨pg,0,none⟩)] 93 (0,0))) (ht:cu w t mp root err):v≠t:=by
 rintro rfl
 unfold cu at ht
 rw[h] at ht
 injection ht with ht
 injection ht with _ h2
 exact absurd h2 (by decide)
theorem vN.Jw {w w':World} {S S':Nat→Prop} {v t tr:Nat} {mp:VS} (h:w.heap[v]? =some (.cells #[.pointer (some ⟨mp.pg,0,none⟩)] 93 (0,0))) (hn:¬S v) {ch:Bool} {er root err:Int} (htx:w.heap[t]? =some (.cells (eX mp (some tr) ch er) 110 (0,0))) (htr:cu w tr mp root err) (hs:gq S S' t tr w w'):
  w'.heap[v]? =some (.cells #[.pointer (some ⟨mp.pg,0,none⟩)] 93 (0,0))∧¬S' v:=by
 have hl:=(ah.1 h).1
 refine⟨(hs.1.block v hl (fun e=> ?_)).trans h,fun e=>(hs.2 v e).elim hn (fun x=>absurd hl (bF.2 x))⟩
 rcases e with e|e|e
 ·exact hn e
 ·exact Qm h htx e
 ·exact OD h htr e
theorem LD.below {w w':World} {S:Nat→Prop} {v pg d:Nat} {σ:Dk} {l:Lg} {p:Pg} {f:Nat→Bool} {root:Nat} {es:List lG} {tb:List Int} (h:LD w S v pg d σ l p f root es tb) (hb:Below w.heap.size w w'):LD w' S v pg d σ l p f root es tb:=
 ⟨(hb.block v (ah.1 h.obj).1).trans h.obj,h.nv,h.pgr.below hb,h.vi,h.base,h.live⟩
theorem LD.step {w w':World} {S S':Nat→Prop} {v pg d:Nat} {σ:Dk} {l:Lg} {p:Pg} {f:Nat→Bool} {root:Nat} {es:List lG} {tb:List Int} (h:LD w S v pg d σ l p f root es tb) {σ':Dk} {l':Lg} {p':Pg} (hp:jN w' S' pg d σ' l' p' (.pointer none)) (hs:Step S S' w w') (hv:VI σ' l' p') (hb:JX σ' l' p' f root) (hl:Live (cK.start σ' l' p' f) root es tb):LD w' S' v pg d σ' l' p' f root es tb:=by
 have hlt:=(ah.1 h.obj).1
 exact⟨(hs.1.block v hlt h.nv).trans h.obj,fun e=>(hs.2 v e).elim h.nv (fun x=>absurd hlt (bF.2 x)),hp,hv,hb,hl⟩
theorem vN.below {w w':World} {S:Nat→Prop} {v t tr:Nat} {mp:VS} {σ:cK} {root:Int} {es:List lG} {tb:List Int} {ch:Bool} {root0:Nat} {es0:List lG} {tb0:List Int} (h:vN w S v t tr mp σ root es tb ch root0 es0 tb0) (hb:Below w.heap.size w w'):vN w' S v t tr mp σ root es tb ch root0 es0 tb0:=
 ⟨(hb.block v (ah.1 h.obj).1).trans h.obj,h.nv,h.tx.below hb,h.live,h.bas,h.ch⟩
structure kH where
 F:Nat→Prop
 w:World
instance :Coe World kH:=⟨fun w=>⟨fun g=>g<w.heap.size,w⟩⟩
structure VB (b:kH) (w:World) (S:Nat→Prop):Prop where
 os:w.os=b.w.os
 tape:w.tape=b.w.tape
 output:w.output=b.w.output
 size:b.w.heap.size≤w.heap.size
 block:∀g,b.F g→w.heap[g]? =b.w.heap[g]?
 fs:∀g,b.F g→g<b.w.heap.size
 lo:∀g,S g→¬b.F g
theorem VB.pU {w0 w:World} {S:Nat→Prop} (h:VB w0 w S):Below w0.heap.size w0 w:=⟨h.os,h.tape,h.output,h.size,fun k hk=>h.block k hk⟩
theorem VB.of {w0 w:World} {S:Nat→Prop} (h:Below w0.heap.size w0 w) (hl:∀g,S g→w0.heap.size≤g):VB w0 w S:=⟨h.os,h.tape,h.output,h.size,fun k hk=>h.block k hk,fun _ hg=>hg,fun g hg=>bF.2 (hl g hg)⟩
theorem VB.keep {b:kH} {w w':World} {S S' M:Nat→Prop} (h:VB b w S) (hk:Keep M w w') (hM:∀g,b.F g→¬M g) (hS:∀g,S' g→S g∨w.heap.size≤g):VB b w' S':=
 ⟨hk.os.trans h.os,hk.tape.trans h.tape,hk.output.trans h.output,aH h.size hk.size,fun g hg=>(hk.block g (ax (h.fs g hg) h.size) (hM g hg)).trans (h.block g hg),h.fs,fun g hg hf=>(hS g hg).elim (fun e=>h.lo g e hf) (fun e=>absurd (ax (h.fs g hf) h.size) (bF.2 e))⟩
theorem VB.step {b:kH} {w w':World} {S S':Nat→Prop} (h:VB b w S) (hs:Step S S' w w'):VB b w' S':=h.keep hs.1 (fun g hg e=>h.lo g e hg) hs.2
theorem VB.Ca {b:kH} {w w':World} {S S':Nat→Prop} {t tr:Nat} (h:VB b w S) (ht:¬b.F t) (htr:¬b.F tr) (hs:gq S S' t tr w w'):VB b w' S':=h.keep hs.1 (fun g hg e=>by
  rcases e with e|e|e
  ·exact h.lo g e hg
  ·exact ht (e▸hg)
  ·exact htr (e▸hg)) hs.2
theorem VB.below {b:kH} {w w':World} {S:Nat→Prop} (h:VB b w S) (hb:Below w.heap.size w w'):VB b w' S:=h.step (Step.of_below hb)
theorem VB.new {b:kH} {w:World} {S:Nat→Prop} (h:VB b w S) {g:Nat} (hg:w.heap.size≤g):¬b.F g:=fun hf=>absurd (ax (h.fs g hf) h.size) (bF.2 hg)
section
variable {w:World} {S:Nat→Prop} {v pg d:Nat} {σ:Dk} {l:Lg} {p:Pg} {f:Nat→Bool} {root:Nat} {es:List lG} {tb:List Int}
theorem LD.begin (h:LD w S v pg d σ l p f root es tb):
  Calls Tryz.prog 35 #[.pointer (some ⟨v,0,none⟩)] w fun e w'=>∃t tr mp S',e= .returned (.tuple #[.pointer (some ⟨t,0,none⟩),.int .i64 0])∧mp.pg=pg∧mp.d=d∧vN w' S' v t tr mp (cK.start σ l p f) root es tb false root es tb∧Step S S' w w'∧w.heap.size≤t∧w.heap.size≤tr:=by
 refine(Ql v pg d σ l p f root S w h.obj h.nv h.pgr h.base.pd h.base.sd h.base.two h.base.map h.base.hi h.base.f0 h.base.f1 h.base.root).mono ?_
 rintro e w1 ⟨t,tr,mp,S1,rfl,hpg,hd,htx,htr,hI1,hs1,hn1,hn2,hlo1,hlo2⟩
 have hlt:=(ah.1 h.obj).1
 exact⟨t,tr,mp,S1,rfl,hpg,hd,⟨by rw[hpg];exact(hs1.1.block v hlt h.nv).trans h.obj,fun e=>(hs1.2 v e).elim h.nv (fun x=>absurd hlt (bF.2 x)),⟨htx,htr,hI1,hn1,hn2⟩,h.live,⟨h.vi,h.base,h.live⟩,fun _=>⟨rfl,rfl⟩⟩,hs1,hlo1,hlo2⟩
end
section
variable {w:World} {S:Nat→Prop} {v t tr:Nat} {mp:VS} {σ:cK} {root:Int} {es:List lG} {tb:List Int} {ch:Bool} {root0:Nat} {es0:List lG} {tb0:List Int}
theorem Om.usable (h:Om w S v t tr mp σ ch root0 es0 tb0) (key:ByteArray):
  Calls Tryz.prog 61 #[.pointer (some ⟨t,0,none⟩),.string key] w fun e w'=>w'=w∧e= .returned (.int .i64 12):=by
 obtain⟨rt,er,hT⟩:=h.tx
 have:=oV t mp tr ch 12 key w hT.tx
 unfold iD at this
 rwa [if_pos (by decide)] at this
theorem vN.spoilt (h:vN w S v t tr mp σ root es tb ch root0 es0 tb0) {w':World} (hp:qK t tr mp S σ ch w w'):
  ∃σ' S',Om w' S' v t tr mp σ' ch root0 es0 tb0∧σ'.H=σ.H∧gq S S' t tr w w':=by
 obtain⟨σ',S',rt,er,hT,hH,hm,hs⟩:=hp
 obtain⟨a,b⟩:=vN.Jw h.obj h.nv h.tx.tx h.tx.tree hs
 refine⟨σ',S',⟨a,b,⟨rt,er,hT⟩,?_⟩,hH,hs⟩
 have:=h.bas
 obtain⟨x,y,z⟩:=this
 rw[←hH] at x y z
 exact⟨x,y,z⟩
theorem vN.moved (h:vN w S v t tr mp σ root es tb ch root0 es0 tb0) {w':World} {σ':cK} {S':Nat→Prop} {root':Int} {es':List lG} {tb':List Int} {ch':Bool} (hT:zh w' S' t tr mp σ' root' 0 ch' 0) (hL:Live σ' root' es' tb') (hH:σ'.H=σ.H) (hs:gq S S' t tr w w') (hc:ch'=false→σ'=cK.start σ'.H.dk σ'.H.lg σ'.H.pg σ'.H.old∧es'=es0):vN w' S' v t tr mp σ' root' es' tb' ch' root0 es0 tb0:=by
 obtain⟨a,b⟩:=vN.Jw h.obj h.nv h.tx.tx h.tx.tree hs
 refine⟨a,b,hT,hL,?_,hc⟩
 obtain⟨x,y,z⟩:=h.bas
 rw[←hH] at x y z
 exact⟨x,y,z⟩
theorem vN.get (h:vN w S v t tr mp σ root es tb ch root0 es0 tb0) (key:ByteArray) (hl:es.length≤4090) (hg:1≤key.size∧key.size≤128):
  Calls Tryz.prog 62 #[.pointer (some ⟨t,0,none⟩),.string key] w fun e w'=>e= .returned (.tuple #[.string ((d9 (ic es) key).getD ByteArray.empty),.bool (d9 (ic es) key).isSome,.int .i64 0])∧vN w' S v t tr mp σ root es tb ch root0 es0 tb0∧Below w.heap.size w w':=by
 obtain⟨a,o,r,hA⟩:=I6 es key
 refine(uo t tr mp root ch σ S w es a o r tb key h.tx h.live hA hl hg).mono ?_
 rintro e w' ⟨rfl,hb⟩
 exact⟨rfl,h.below hb,hb⟩
theorem vN.usable (h:vN w S v t tr mp σ root es tb ch root0 es0 tb0) (key:ByteArray):
  Calls Tryz.prog 61 #[.pointer (some ⟨t,0,none⟩),.string key] w fun e w'=>w'=w∧e= .returned (.int .i64 (iD 0 key)):=oV t mp tr ch 0 key w h.tx.tx
end
end Go.Proofs.YtpgdljlghiifjaaGreatDoor
