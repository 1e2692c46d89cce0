/- parts -/
import Derived.Test.YtfgpefcphnpabaaGreatJ21
namespace Go.Proofs.YtfgpefcphnpabaaGreat
open Go.RowKit
set_option maxRecDepth 100000
set_option maxHeartbeats 8000000
set_option linter.all false
structure VI (σ:Dk) (l:Lg) (p:Pg):Prop where
 free:σ.nN
 ld:l.dead=false
 pd:p.dead=false
 wt:σ.waits.length≤l.used
theorem Lg.BN {σ:Dk} {l:Lg} (h:σ.nN) (hd:l.dead=false) (hf:l.frm<σ.n):l.sync σ=((σ.flush.put l.frm l.all.lu).flush,l.all,0):=by
 unfold Lg.sync
 rw[hd,if_neg (by simp),h.sync]
 dsimp only
 rw[if_pos rfl,Lg.xE h.flush l.all hf]
 dsimp only
 rw[if_pos rfl]
 rfl
theorem vE (σ:Dk) (f j:Nat) (x:List UInt8) (h:f≠j):((σ.flush.put f x).flush).get j=σ.get j:=by
 rw[Dk.uF,Dk.get_put,if_neg h,Dk.uF]
theorem Pg.Fj (p:Pg):∀(r:List Nat) (σ:Dk),σ.nN→(∀b∈r,p.skip+b<σ.n∧(p.fresh.img b).length=512)→
  ∃σ',p.lay r σ=(σ',0)∧σ'.nN∧σ'.n=σ.n∧(∀b,σ'.get (p.skip+b)=if b∈r then p.fresh.img b else σ.get (p.skip+b))∧∀j,j<p.skip→σ'.get j=σ.get j
 |[],σ,h,_=>⟨σ,rfl,h,rfl,fun b=>by simp,fun _ _=>rfl⟩
 |b::r,σ,h,hr=>by
  obtain⟨h1,h2⟩:=hr b (aZ ..)
  have hw:=h.write (p.skip+b) (p.fresh.img b) h1 (by omega)
  obtain⟨σ',q1,q2,q3,q4,q5⟩:=Pg.Fj p r (σ.put (p.skip+b) (p.fresh.img b)) (h.put _ _) (fun c hc=>hr c (aW _ hc))
  refine⟨σ',?_,q2,q3,fun c=> ?_,fun j hj=> ?_⟩
  ·rw[p.Ai,hw]
   dsimp only
   rw[if_pos rfl,q1]
  ·rw[q4,Dk.get_put]
   by_cases hc:c∈r
   ·rw[if_pos hc,if_pos (aW _ hc)]
   ·rw[if_neg hc]
    by_cases e:c=b
    ·subst e
     rw[if_pos rfl,if_pos (aZ ..)]
     exact EW h2
    ·rw[if_neg (by omega),if_neg (fun x=>(bD.1 x).elim e hc)]
  ·rw[q5 j hj,Dk.get_put,if_neg (by omega)]
theorem Pg.KD {σ:Dk} {l:Lg} {p:Pg} (hV:VI σ l p) (hp:p.Ok σ l):
  ∃σ',p.home σ l=(σ',l.all.cut l.last,{p with fresh:=Im.none},0)∧σ'.nN∧σ'.n=σ.n∧σ'.waits=[]∧∀b,σ'.get (p.skip+b)=(p.fresh.find b).getD (σ.get (p.skip+b)):=by
 have hfit:=hp.fit
 have hfrm:=hp.frm
 have hskip:=hp.skip
 have hring:=hp.ring
 have hs:=Lg.BN hV.free hV.ld (by omega:l.frm<σ.n)
 obtain⟨σ1,hσ1⟩:∃σ1,σ1=(σ.flush.put l.frm l.all.lu).flush:=⟨_,rfl⟩
 rw[←hσ1] at hs
 have hF1:σ1.nN:=by rw[hσ1];exact hV.free
 have hn1:σ1.n=σ.n:=by rw[hσ1];rfl
 have hg1:∀b,σ1.get (p.skip+b)=σ.get (p.skip+b):=fun b=>by rw[hσ1];exact vE _ _ _ _ (by omega)
 obtain⟨σ2,e2,F2,n2,g2,_⟩:=Pg.Fj p p.fresh.ks σ1 hF1 (fun b hb=>⟨by have:=hp.fresh.hi b hb;omega,hp.fresh.img b hb⟩)
 have hm:=Lg.xE F2.flush (l.all.cut l.all.last) (by show l.frm<σ2.n;omega)
 have ht:l.all.trim σ2.flush l.all.last=(((σ2.flush).put l.frm (l.all.cut l.all.last).lu).flush,l.all.cut l.all.last,0):=by
  unfold Lg.trim
  have hd:l.all.dead=false:=hV.ld
  rw[hd,if_neg (by simp),if_neg (by show ¬l.last<l.last;omega),hm]
  dsimp only
  rw[if_pos rfl]
  rfl
 refine⟨((σ2.flush).put l.frm (l.all.cut l.all.last).lu).flush,?_,F2,by rw[←hn1,←n2];rfl,rfl,fun b=> ?_⟩
 ·unfold Pg.home
  rw[hs]
  dsimp only
  rw[if_pos rfl,e2]
  dsimp only
  rw[if_pos rfl,F2.sync]
  dsimp only
  rw[if_pos rfl,ht]
  dsimp only
  rw[if_pos rfl]
  rfl
 ·rw[Dk.uF,Dk.get_put,if_neg (by omega),Dk.uF,g2,hg1]
  unfold Im.find
  split<;>rfl
theorem Lg.zJ (l:Lg) (b:List UInt8) (hn:2≤l.n):∀(k i:Nat) (σ:Dk),σ.nN→l.frm+l.n≤σ.n→
  ∃σ',l.qJ b k i σ=(σ',0)∧σ'.nN∧σ'.n=σ.n∧σ'.waits.length=σ.waits.length+k∧∀j,l.frm+l.n≤j→σ'.get j=σ.get j
 |0,_,σ,h,_=>⟨σ,rfl,h,rfl,rfl,fun _ _=>rfl⟩
 |k+1,i,σ,h,hf=>by
  have hr:l.ring (l.start+l.used+i)<l.frm+l.n:=by
   unfold Lg.ring
   have:=qG (l.start+l.used+i) (by omega:0<l.n - 1)
   omega
  obtain⟨x,hx⟩:∃x,x=(b.drop (i*512)).take 512:=⟨_,rfl⟩
  have hw:=h.write (l.ring (l.start+l.used+i)) x (by omega) (by rw[hx,aD];omega)
  obtain⟨σ',q1,q2,q3,q4,q5⟩:=Lg.zJ l b hn k (i+1) (σ.put (l.ring (l.start+l.used+i)) x) (h.put _ _) hf
  refine⟨σ',?_,q2,q3,?_,fun j hj=> ?_⟩
  ·rw[l.vg,←hx,hw]
   dsimp only
   rw[if_pos rfl,q1]
  ·rw[q4]
   show (σ.waits++[_]).length+k=_
   simp;omega
  ·rw[q5 j hj,Dk.get_put,if_neg (by omega)]
theorem Pg.Cf (p:Pg) (σ:Dk) (b:Nat):p.look Im.none σ b=(p.fresh.find b).getD (σ.get (p.skip+b)):=rfl
theorem Im.Kj (m d:Im) (b:Nat):(m.over d).find b=if b∈d.ks then some (d.img b) else m.find b:=by
 unfold Im.find Im.over
 rw[Im.Ay]
 simp only[Im.DF]
 by_cases h:b∈d.ks
 ·simp[h]
 ·simp[h]
theorem Pg.Ki (p:Pg) (d:Im) (σ:Dk) (b:Nat):({p with fresh:=p.fresh.over d}:Pg).look Im.none σ b=p.look d σ b:=by
 rw[Pg.Cf]
 show ((p.fresh.over d).find b).getD (σ.get (p.skip+b))=_
 rw[Im.Kj]
 unfold Pg.look
 by_cases h:b∈d.ks
 ·have:d.find b=some (d.img b):=if_pos h
  rw[if_pos h,this];rfl
 ·have:d.find b=none:=if_neg h
  rw[if_neg h,this];rfl
def Pg.zZ (p:Pg) (im:Im):Prop:=p.ring<eD im.dL∨1024<im.ks.length
theorem vM {σ:Dk} {l:Lg} {p:Pg} {im:Im} (hV:VI σ l p) (hp:p.Ok σ l) (hl:l.Ok) (hi:im.Ok (p.blocks σ)):
  (im.ks=[]∧p.commit σ l im=(σ,l,p,l.last,0))∨
  (im.ks≠[]∧p.zZ im∧p.commit σ l im=(σ,l,p,0,13))∨
  (im.ks≠[]∧¬p.zZ im∧∃σ' l' p',p.commit σ l im=(σ',l',p',l.last+1,0)∧VI σ' l' p'∧l'.last=l.last+1∧p'.skip=p.skip∧p'.ring=p.ring∧σ'.n=σ.n∧∀b,p'.look Im.none σ' b=p.look im σ b):=by
 have hfit:=hp.fit
 have hfrm:=hp.frm
 have hskip:=hp.skip
 have hring:=hp.ring
 have hn2:=hl.n2
 by_cases hk:im.ks=[]
 ·refine .inl ⟨hk,?_⟩
  unfold Pg.commit
  rw[hV.pd,if_neg (by simp),if_pos hk]
 by_cases ho:p.zZ im
 ·refine .inr (.inl ⟨hk,ho,?_⟩)
  unfold Pg.commit
  unfold Pg.zZ at ho
  rw[hV.pd,if_neg (by simp),if_neg hk,if_pos ho]
 have ho':¬(p.ring<eD im.dL∨1024<im.ks.length):=ho
 refine .inr (.inr ⟨hk,ho,?_⟩)
 have hk0:0<im.ks.length:=cZ.2 hk
 obtain⟨nd,hnd⟩:∃nd,eD im.dL=nd:=⟨_,rfl⟩
 rw[hnd] at ho'
 obtain⟨σ5,l5,p5,hr,V5,F5,hn5,hk5,hrg5,hl5,hf5,hsz5,hroom,hg5⟩:∃σ5 l5 p5,p.ready σ l nd=(σ5,l5,p5,0)∧(l5.dead=false∧p5.dead=false∧σ5.waits.length≤l5.used)∧σ5.nN∧σ5.n=σ.n∧p5.skip=p.skip∧p5.ring=p.ring∧l5.last=l.last∧l5.frm=l.frm∧l5.n=l.n∧nd≤l5.room∧∀b,p5.look im σ5 b=p.look im σ b:=by
  by_cases hrm:l.room<nd
  ·obtain⟨σ',h1,h2,h3,h4,h5⟩:=Pg.KD hV hp
   have hz:=Pg.Co hl (p:=p) (σ:=σ) (by rw[h1])
   rw[h1] at hz
   refine⟨σ',l.all.cut l.last,{p with fresh:=Im.none},?_,⟨hV.ld,hV.pd,by rw[h4];exact aU _⟩,h2,h3,rfl,rfl,rfl,rfl,rfl,by have:=hz.2.2.2.1;dsimp only at this;omega,fun b=> ?_⟩
   ·unfold Pg.ready
    rw[if_pos hrm,h1]
   ·unfold Pg.look
    congr 1
    show σ'.get (p.skip+b)=_
    exact h5 b
  ·refine⟨σ,l,p,?_,⟨hV.ld,hV.pd,hV.wt⟩,hV.free,rfl,rfl,rfl,rfl,rfl,rfl,by omega,fun _=>rfl⟩
   unfold Pg.ready
   rw[if_neg hrm]
 have hbad:l5.bad im.dL=0:=by
  have:=Lg.A9 (l:=l5) hi V5.1 hk0 (by omega) (by rw[hnd];exact hroom)
  rwa [qK] at this
 obtain⟨σ6,q1,q2,q3,q4,q5⟩:=Lg.zJ l5 (A7 (l5.last+1) im.dL) (by omega) (eD im.dL) 0 σ5 F5 (by omega)
 have hap:l5.append σ5 im.dL=(σ6,l5.more im.dL,l5.last+1,0):=by
  unfold Lg.append
  rw[hbad,if_neg (by simp),q1]
  dsimp only
  rw[if_pos rfl]
 have hc:=Pg.xN hV.pd hk hnd (by omega) hr hap
 rw[if_pos rfl] at hc
 refine⟨σ6,l5.more im.dL,{p5 with fresh:=p5.fresh.over im},?_,⟨q2,V5.1,V5.2.1,?_⟩,?_,hk5,hrg5,q3.trans hn5,fun b=> ?_⟩
 ·rw[hc,hl5]
 ·show _≤l5.used+eD im.dL
  rw[q4];have:=V5.2.2;omega
 ·show l5.last+1=_
  rw[hl5]
 ·rw[Pg.Ki,←hg5]
  unfold Pg.look
  rw[q5 _ (by omega)]
theorem Eu {σ:Dk} {l:Lg} {p:Pg} (hV:VI σ l p) (hp:p.Ok σ l):
  ∃σ' l',p.sync σ l=(σ',l',p,0)∧VI σ' l' p∧l'.last=l.last∧l'.synced=l.last∧σ'.n=σ.n∧∀im b,p.look im σ' b=p.look im σ b:=by
 have hfit:=hp.fit
 have hfrm:=hp.frm
 have hskip:=hp.skip
 have hring:=hp.ring
 unfold Pg.sync
 rw[hV.pd,if_neg (by simp)]
 by_cases h1:l.synced=l.last∧σ.dead=false
 ·rw[if_pos h1]
  exact⟨σ,l,rfl,hV,rfl,h1.1,rfl,fun _ _=>rfl⟩
 ·rw[if_neg h1,Lg.BN hV.free hV.ld (by omega)]
  dsimp only
  rw[if_pos rfl]
  refine⟨_,_,rfl,⟨hV.free,hV.ld,hV.pd,aU _⟩,rfl,rfl,rfl,fun im b=> ?_⟩
  unfold Pg.look
  rw[vE _ _ _ _ (by omega)]
structure kU where
 k:ByteArray
 s:ByteArray
 v:ByteArray
 b:List Int
def gY (es:List kU):List Pr:=es.map fun e=>(e.k,e.s)
def iC (es:List kU):List Pr:=es.map fun e=>(e.k,e.v)
def dm (es:List kU):List Int:=es.flatMap (·.b)
theorem sU (a b:List kU):gY (a++b)=gY a++gY b:=by simp[gY]
theorem lX (a b:List kU):iC (a++b)=iC a++iC b:=by simp[iC]
theorem gK (a b:List kU):dm (a++b)=dm a++dm b:=by simp[dm]
theorem Cy (e:kU) (b:List kU):dm (e::b)=e.b++dm b:=by simp[dm]
theorem dK (es:List kU):(gY es).length=es.length:=by simp[gY]
theorem gZ (es:List kU):(iC es).length=es.length:=by simp[iC]
def rU (es:List kU) (key:ByteArray):Nat:=(es.takeWhile fun e=>lt e.k key).length
theorem Dl (f:kU→Pr) (hf:∀e,(f e).1=e.k) (es:List kU) (key:ByteArray):bO (es.map f) key=rU es key:=by
 unfold bO rU
 rw[List.takeWhile_map,jl]
 congr 2
 funext e
 simp[hf]
theorem Ju (f:kU→Pr) (hf:∀e,(f e).1=e.k) (es:List kU) (key:ByteArray):
  (∀o,es[rU es key]? =some o→o.k=key→cu (es.map f) key=some (f o).2∧(∀x,jv (es.map f) key x=(es.take (rU es key)).map f++(key,x)::(es.drop (rU es key+1)).map f)∧iW (es.map f) key=(es.take (rU es key)).map f++(es.drop (rU es key+1)).map f)∧
  ((∀o,es[rU es key]? =some o→o.k≠key)→cu (es.map f) key=none∧(∀x,jv (es.map f) key x=(es.take (rU es key)).map f++(key,x)::(es.drop (rU es key)).map f)∧iW (es.map f) key=es.map f):=by
 have hp:=Dl f hf es key
 constructor
 ·intro o ho hk
  obtain⟨hl,_⟩:=bT.1 ho
  have hat:nM (es.map f) key=true:=by
   unfold nM
   rw[hp,eX,ho]
   simp[hf,hk]
  refine⟨?_,fun x=> ?_,?_⟩
  ·unfold cu
   rw[if_pos hat,hp,eX,ho];rfl
  ·unfold jv
   rw[if_pos hat,hp,l9,if_pos (by rw[jl];exact hl),iL,gM]
  ·unfold iW
   rw[if_pos hat,hp,iL,gM]
 ·intro hno
  have hat:nM (es.map f) key=false:=by
   unfold nM
   rw[hp,eX]
   cases he:es[rU es key]? with
   |none=>rfl
   |some o=>simp[hf,hno o he]
  refine⟨?_,fun x=> ?_,?_⟩
  ·unfold cu
   rw[if_neg (by rw[hat];simp)]
  ·unfold jv
   rw[if_neg (by rw[hat];simp),hp,iL,gM]
  ·unfold iW
   rw[if_neg (by rw[hat];simp)]
structure qP (es:List kU) (key:ByteArray) (l o r:List kU):Prop where
 eq:es=l++o++r
 one:o=[]∨∃e,o=[e]∧e.k=key
 ls:cu (gY es) key=o.head?.map (·.s)
 lv:cu (iC es) key=o.head?.map (·.v)
 is:∀s v b,jv (gY es) key s=gY (l++⟨key,s,v,b⟩::r)
 iv:∀s v b,jv (iC es) key v=iC (l++⟨key,s,v,b⟩::r)
 ds:iW (gY es) key=gY (l++r)
 dv:iW (iC es) key=iC (l++r)
theorem IK (es:List kU) (key:ByteArray):∃l o r,qP es key l o r:=by
 have hs:=Ju (fun e=>(e.k,e.s)) (fun _=>rfl) es key
 have hv:=Ju (fun e=>(e.k,e.v)) (fun _=>rfl) es key
 by_cases h:∃o,es[rU es key]? =some o∧o.k=key
 ·obtain⟨o,ho,hk⟩:=h
  obtain⟨hl,he⟩:=bT.1 ho
  obtain⟨a1,a2,a3⟩:=hs.1 o ho hk
  obtain⟨b1,b2,b3⟩:=hv.1 o ho hk
  refine⟨es.take (rU es key),[o],es.drop (rU es key+1),?_,.inr ⟨o,rfl,hk⟩,a1,b1,fun s v b=> ?_,fun s v b=> ?_,?_,?_⟩
  ·rw[←he,aM,List.singleton_append,List.getElem_cons_drop,bE]
  ·rw[sU];exact a2 s
  ·rw[lX];exact b2 v
  ·rw[sU];exact a3
  ·rw[lX];exact b3
 ·have hno:∀o,es[rU es key]? =some o→o.k≠key:=fun o ho hk=>h ⟨o,ho,hk⟩
  obtain⟨a1,a2,a3⟩:=hs.2 hno
  obtain⟨b1,b2,b3⟩:=hv.2 hno
  refine⟨es.take (rU es key),[],es.drop (rU es key),?_,.inl rfl,a1,b1,fun s v b=> ?_,fun s v b=> ?_,?_,?_⟩
  ·rw[dF,bE]
  ·rw[sU];exact a2 s
  ·rw[lX];exact b2 v
  ·rw[bE];exact a3
  ·rw[bE];exact b3
theorem tN.keep {σ σ':bP} {head size:Nat} {rs:List (Nat×Nat)} (h:tN σ head size rs) (h1:σ'.hasB head=true) (h2:σ'.mem head=σ.mem head):tN σ' head size rs:=by
 obtain⟨a,_,c,d,e,f,g⟩:=h
 exact⟨a,h1,by rw[h2];exact c,d,e,f,g⟩
theorem nW.keep {σ σ':bP} {head:Nat} {t:List UInt8} {rs:List (Nat×Nat)} (h:nW σ head t rs) (hk:∀x∈jE head rs,σ'.hasB x=true∧σ'.mem x=σ.mem x):nW σ' head t rs:=by
 have hin:∀b∈eZ rs++[head],((b:Nat):Int)∈jE head rs:=fun b hb=>jH hb
 refine⟨h.hd.keep (hk _ (hin head (by simp))).1 (hk _ (hin head (by simp))).2,h.nd,fun i hi=> ?_⟩
 obtain⟨a,b,c⟩:=h.blk i hi
 have:=hk _ (hin (eZ rs)[i] (bW _ (bg hi)))
 exact⟨this.1,b,this.2.trans c⟩
theorem ValAt.keep {σ σ':bP} {s v:ByteArray} {vb:List Int} (h:ValAt σ s v vb) (hk:∀x∈vb,σ'.hasB x=true∧σ'.mem x=σ.mem x):ValAt σ' s v vb:=by
 rcases h with h|⟨hd,rs,h1,h2,h3,h4⟩
 ·exact .inl h
 ·exact .inr ⟨hd,rs,h1,h2,h3.keep (fun x hx=>hk x (by rw[h4];exact hx)),h4⟩
theorem ValAt.all {σ:bP} {s v:ByteArray} {vb:List Int} (h:ValAt σ s v vb):∀x∈vb,σ.hasB x=true∧2≤x:=by
 rcases h with ⟨_,_,rfl⟩|⟨hd,rs,_,_,h3,rfl⟩
 ·intro x hx;cases hx
 ·exact h3.all
theorem dB.Rl {T:ByteArray→Option ByteArray→Int→List Pr→List Int→Prop} (hT:∀k z b c x,T k z b c x→∀y∈x,2≤y) {hi:Option ByteArray} {l:List (ByteArray×Int)} {cs:List Pr} {bs:List Int} (h:dB T hi l cs bs):∀y∈bs,2≤y:=dB.has hT h
theorem iE.two {σ:bP}:∀{h m:Nat} {lo:ByteArray} {hi:Option ByteArray} {b:Int} {cs:List Pr} {bs:List Int},iE σ h m lo hi b cs bs→∀x∈bs,2≤x
 |0,_,_,_,_,_,_,⟨nd,h1,_,_,_,_,_,_,h8⟩=>by
  intro x hx
  rw[h8] at hx
  rw[bI.1 hx]
  exact h1.lo
 |h+1,_,_,_,_,_,_,⟨nd,bs',h1,_,_,_,h5,h6⟩=>by
  subst h5
  intro x hx
  rcases bD.1 hx with rfl|hx
  ·exact h1.lo
  ·exact dB.Rl (fun _ _ _ _ _ ht=>iE.two ht) h6 x hx
theorem uW.two {σ:bP} {root:Int} {cs:List Pr} {bs:List Int} (h:uW σ root cs bs):∀x∈bs,2≤x:=by
 rcases h with ⟨_,_,rfl⟩|⟨h,ht⟩
 ·intro x hx;cases hx
 ·exact ht.two
structure Own (σ:bP) (bs:List Int):Prop where
 nd:bs.Nodup
 ex:∀x,σ.hasB x=true→x=0∨x=1∨x∈bs
 size:σ.sz=countB σ.H.old σ.most+nh σ bs
theorem Own.AU {σ σ':bP} {us bs:List Int} (h:Own σ us) (hc:kZ σ σ' us bs):Own σ' bs:=by
 refine⟨hc.nd h.nd,fun x hx=> ?_,?_⟩
 ·rcases hc.ex x hx with y|⟨y,z⟩
  ·exact .inr (.inr y)
  ·exact(h.ex x y).imp id (fun e=>e.imp id (fun e=>absurd e z))
 ·have a:=hc.size
  have b:=h.size
  rw[hc.H,hc.most,rO hc.H]
  omega
theorem Own.perm {σ:bP} {us bs:List Int} (h:Own σ us) (hp:us.Perm bs):Own σ bs:=
 ⟨hp.nodup_iff.1 h.nd,fun x hx=>(h.ex x hx).imp id (fun e=>e.imp id hp.mem_iff.1),by rw[←Dq hp];exact h.size⟩
structure Live (σ:bP) (root:Int) (es:List kU) (tb:List Int):Prop where
 tree:uW σ root (gY es) tb
 val:∀e∈es,ValAt σ e.s e.v e.b
 own:Own σ (tb++dm es)
theorem Live.bb {σ:bP} {root:Int} {es:List kU} {tb:List Int} (h:Live σ root es tb):∀x∈dm es,σ.hasB x=true∧2≤x:=by
 intro x hx
 obtain⟨e,he,hx⟩:=jQ.1 hx
 exact(h.val e he).all x hx
theorem Live.all {σ:bP} {root:Int} {es:List kU} {tb:List Int} (h:Live σ root es tb):∀x∈tb++dm es,σ.hasB x=true∧2≤x:=by
 intro x hx
 rcases bM.1 hx with hx|hx
 ·exact⟨h.tree.has x hx,h.tree.two x hx⟩
 ·exact h.bb x hx
theorem mU {a b:List Int} (h:(a++b).Nodup):∀x∈b,x∉a:=fun x hx ha=>(dH.1 h).2.2 x ha x hx rfl
theorem Fa {σ σ1 σ2 σ3:bP} {root root':Int} {es l o r:List kU} {tb nb:List Int} {key s v:ByteArray} (hL:Live σ root es tb) (hA:qP es key l o r) (h1:kZ σ σ1 (dm o) []) (h2:kZ σ1 σ2 [] nb) (hv:ValAt σ2 s v nb) {n:Nat} (h3:xW σ2 tb (jv (gY es) key s) n σ3 root'):
  ∃tb',Live σ3 root' (l++⟨key,s,v,nb⟩::r) tb'∧kZ σ σ3 (tb++dm es) (tb'++dm (l++⟨key,s,v,nb⟩::r)):=by
 obtain⟨tb',ht,h3,_,_⟩:=h3
 have hall:=hL.all
 have hn:=hL.own.nd
 have hes:=hA.eq
 have hbb:dm es=dm l++dm o++dm r:=by rw[hes,gK,gK]
 obtain⟨R,hR⟩:∃R,R=tb++dm l++dm r:=⟨_,rfl⟩
 have hp1:(tb++dm es).Perm (dm o++R):=by
  rw[hbb,hR]
  have:(tb++(dm l++dm o++dm r)).Perm (tb++(dm o++dm l++dm r)):=((eG).append_right _).append_left _
  refine this.trans ?_
  have e1:tb++(dm o++dm l++dm r)=tb++dm o++(dm l++dm r):=by simp
  have e2:dm o++(tb++dm l++dm r)=dm o++tb++(dm l++dm r):=by simp
  rw[e1,e2]
  exact eG.append_right _
 have hn1:=hp1.nodup_iff.1 hn
 have hRa:∀x∈R,σ.hasB x=true:=fun x hx=>(hall x (hp1.mem_iff.2 (bQ _ hx))).1
 have c1:=h1.left (rs:=R) hn1 hRa
 have hR1:∀x∈R,σ1.hasB x=true:=fun x hx=>(c1.new x hx).1
 have c2:=h2.left (rs:=R) (c1.nd hn1) hR1
 have hn2:=c2.nd (c1.nd hn1)
 have hp3:(nb++R).Perm (tb++(nb++dm l++dm r)):=by
  rw[hR]
  have e1:nb++(tb++dm l++dm r)=nb++tb++(dm l++dm r):=by simp
  have e2:tb++(nb++dm l++dm r)=tb++nb++(dm l++dm r):=by simp
  rw[e1,e2]
  exact eG.append_right _
 have hn3:=hp3.nodup_iff.1 hn2
 have hS2:∀x∈nb++R,σ2.hasB x=true:=fun x hx=>(c2.new x hx).1
 have c3:=h3.left (rs:=nb++dm l++dm r) hn3 (fun x hx=>hS2 x (hp3.mem_iff.2 (bQ _ hx)))
 have hbb':dm (l++⟨key,s,v,nb⟩::r)=dm l++(nb++dm r):=by rw[gK,Cy]
 have hp4:(tb'++(nb++dm l++dm r)).Perm (tb'++dm (l++⟨key,s,v,nb⟩::r)):=by
  rw[hbb',←aM (dm l)]
  exact(eG.append_right _).append_left _
 have C:kZ σ σ3 (tb++dm es) (tb'++dm (l++⟨key,s,v,nb⟩::r)):=by
  have a:kZ σ σ2 (tb++dm es) (tb++(nb++dm l++dm r)):=(c1.trans c2).perm hp1.symm hp3
  exact(a.trans c3).perm (iI _) hp4
 refine⟨tb',⟨?_,fun e he=> ?_,hL.own.AU C⟩,C⟩
 ·rw[←hA.is s v nb];exact ht
 ·have hoff:∀x∈nb++dm l++dm r,x∉tb:=mU hn3
  rcases bM.1 he with he|he
  ·have hin:∀x∈e.b,x∈dm l:=fun x hx=>jQ.2 ⟨e,he,hx⟩
   refine(hL.val e (by rw[hes];exact bW _ (bW _ he))).keep fun x hx=> ?_
   have hxR:x∈R:=by rw[hR];exact bW _ (bQ _ (hin x hx))
   have f1:=h1.frame x (hRa x hxR) (.inl (mU hn1 x hxR))
   have f2:=h2.frame x f1.1 (.inl (by simp))
   have f3:=h3.frame x f2.1 (.inl (hoff x (bW _ (bQ _ (hin x hx)))))
   exact⟨f3.1,f3.2.trans (f2.2.trans f1.2)⟩
  ·rcases bD.1 he with rfl|he
   ·exact hv.keep fun x hx=>h3.frame x (hS2 x (bW _ hx)) (.inl (hoff x (bW _ (bW _ hx))))
   ·have hin:∀x∈e.b,x∈dm r:=fun x hx=>jQ.2 ⟨e,he,hx⟩
    refine(hL.val e (by rw[hes];exact bQ _ he)).keep fun x hx=> ?_
    have hxR:x∈R:=by rw[hR];exact bQ _ (hin x hx)
    have f1:=h1.frame x (hRa x hxR) (.inl (mU hn1 x hxR))
    have f2:=h2.frame x f1.1 (.inl (by simp))
    have f3:=h3.frame x f2.1 (.inl (hoff x (bQ _ (hin x hx))))
    exact⟨f3.1,f3.2.trans (f2.2.trans f1.2)⟩
theorem Fb {σ σ1 σ3:bP} {root root':Int} {es l o r:List kU} {tb:List Int} {key:ByteArray} (hL:Live σ root es tb) (hA:qP es key l o r) (h1:kZ σ σ1 (dm o) []) {n:Nat} (h3:xW σ1 tb (iW (gY es) key) n σ3 root'):
  ∃tb',Live σ3 root' (l++r) tb'∧kZ σ σ3 (tb++dm es) (tb'++dm (l++r)):=by
 obtain⟨tb',ht,h3,_,_⟩:=h3
 have hall:=hL.all
 have hn:=hL.own.nd
 have hes:=hA.eq
 have hbb:dm es=dm l++dm o++dm r:=by rw[hes,gK,gK]
 have hp1:(tb++dm es).Perm (dm o++(tb++(dm l++dm r))):=by
  rw[hbb]
  have:(tb++(dm l++dm o++dm r)).Perm (tb++(dm o++dm l++dm r)):=((eG).append_right _).append_left _
  refine this.trans ?_
  have e1:tb++(dm o++dm l++dm r)=tb++dm o++(dm l++dm r):=by simp
  have e2:dm o++(tb++(dm l++dm r))=dm o++tb++(dm l++dm r):=by simp
  rw[e1,e2]
  exact eG.append_right _
 have hn1:=hp1.nodup_iff.1 hn
 have hRa:∀x∈tb++(dm l++dm r),σ.hasB x=true:=fun x hx=>(hall x (hp1.mem_iff.2 (bQ _ hx))).1
 have c1:=h1.left (rs:=tb++(dm l++dm r)) hn1 hRa
 have hR1:∀x∈tb++(dm l++dm r),σ1.hasB x=true:=fun x hx=>(c1.new x hx).1
 have hn3:(tb++(dm l++dm r)).Nodup:=c1.nd hn1
 have c3:=h3.left (rs:=dm l++dm r) hn3 (fun x hx=>hR1 x (bQ _ hx))
 have C:kZ σ σ3 (tb++dm es) (tb'++dm (l++r)):=by
  rw[gK]
  exact(c1.trans c3).perm hp1.symm (iI _)
 refine⟨tb',⟨?_,fun e he=> ?_,hL.own.AU C⟩,C⟩
 ·rw[←hA.ds];exact ht
 ·have hin:∀x∈e.b,x∈dm l++dm r:=fun x hx=>by rw[←gK];exact jQ.2 ⟨e,he,hx⟩
  have hmem:e∈es:=by
   rw[hes]
   rcases bM.1 he with he|he
   ·exact bW _ (bW _ he)
   ·exact bQ _ he
  refine(hL.val e hmem).keep fun x hx=> ?_
  have hxR:=bQ tb (hin x hx)
  have f1:=h1.frame x (hRa x hxR) (.inl (mU hn1 x hxR))
  have f3:=h3.frame x f1.1 (.inl (mU hn3 x (hin x hx)))
  exact⟨f3.1,f3.2.trans f1.2⟩
theorem vK:∀(n:Nat) (f:Nat→Bool) (L:List Nat),L.Nodup→(∀x,x∈L↔x<n∧f x=true)→countB f n=L.length
 |0,f,L,_,h=>by
  cases L with
  |nil=>rfl
  |cons a L=>exact absurd ((h a).1 (aZ ..)).1 (Gq _)
 |n+1,f,L,hn,h=>by
  rw[eP]
  by_cases hf:f n=true
  ·have hm:n∈L:=(h n).2 ⟨gF n,hf⟩
   have ih:=vK n f (L.erase n) (hn.erase n) (fun x=>by
    rw[hn.mem_erase_iff,h]
    constructor
    ·rintro⟨a,b,c⟩;exact⟨by omega,c⟩
    ·rintro⟨a,b⟩;exact⟨by omega,by omega,b⟩)
   rw[ih,hf,List.length_erase_of_mem hm]
   have:=List.length_pos_of_mem hm
   simp;omega
  ·have hf':f n=false:=by simpa using hf
   have ih:=vK n f L hn (fun x=>by
    rw[h]
    constructor
    ·rintro⟨a,b⟩
     exact⟨by have:x≠n:=fun e=>hf (e▸b);omega,b⟩
    ·rintro⟨a,b⟩;exact⟨by omega,b⟩)
   rw[ih,hf'];rfl
theorem Own.count {σ:bP} {bs:List Int} (h:Own σ bs) (hok:σ.Ok) (hb:∀x∈bs,σ.hasB x=true∧2≤x):countB σ.now σ.most=2+bs.length:=by
 obtain⟨L,hL⟩:∃L:List Nat,L=bs.map Int.toNat:=⟨_,rfl⟩
 have h2:=hok.two
 have hin:∀x∈L,2≤x∧x<σ.most∧σ.now x=true:=by
  intro x hx
  rw[hL] at hx
  obtain⟨y,hy,rfl⟩:=dU.1 hx
  obtain⟨n,e,a,b⟩:=bP.kz (hb y hy).1
  have:=(hb y hy).2
  rw[e,eH]
  exact⟨by omega,a,b⟩
 have hnd:L.Nodup:=by
  rw[hL]
  refine List.Pairwise.map _ (R:=fun a b=>a≠b∧2≤a∧2≤b) (fun a b (hab:a≠b∧2≤a∧2≤b) e=>hab.1 (by omega)) ?_
  have:=h.nd
  exact List.Pairwise.imp_of_mem (fun ha hb' hab=>⟨hab,(hb _ ha).2,(hb _ hb').2⟩) this
 rw[vK σ.most σ.now (0::1::L) ?_ fun x=> ?_]
 ·rw[hL];simp;omega
 ·refine kF.2 ⟨fun e=> ?_,kF.2 ⟨fun e=> ?_,hnd⟩⟩
  ·rcases bD.1 e with e|e
   ·cases e
   ·have:=(hin 0 e).1;omega
  ·have:=(hin 1 e).1;omega
 ·constructor
  ·intro hx
   rcases bD.1 hx with rfl|hx
   ·exact⟨by omega,hok.n0⟩
   ·rcases bD.1 hx with rfl|hx
    ·exact⟨by omega,hok.n1⟩
    ·exact(hin x hx).2
  ·rintro⟨a,b⟩
   have hh:σ.hasB (x:Int)=true:=by unfold bP.hasB;rw[eH,b];simp[a]
   rcases h.ex x hh with e|e|e
   ·have:x=0:=by omega
    subst this;exact aZ ..
   ·have:x=1:=by omega
    subst this;exact aW _ (aZ ..)
   ·refine aW _ (aW _ ?_)
    rw[hL]
    exact dU.2 ⟨x,e,by simp⟩
theorem GI (t:Nat) (w:World) (h:Gm w t):
  Calls Tryz.prog 55 #[.pointer (some ⟨t,0,none⟩)] w fun e w'=>e= .returned (.tuple #[])∧w'=w:=by
 obtain⟨db,h⟩:=h
 have c0:w.cell? ⟨t,0,none⟩=some (.pointer none):=by simp[World.cell?,h]
 have hlt:=(ah.1 h).1
 clear h
 go_enter Tryz.func55,Tryz.ntmps55
 go_wp2_with fail
 go_end0
 exact⟨rfl,rfl⟩
theorem OL (mp:VS) (root:Int) (w:World) (hr:0≤root):
  Calls Tryz.prog 57 #[.iface 113 mp.agg,.int .i64 root] w fun e w'=>e= .returned (.pointer (some ⟨w.heap.size,0,none⟩))∧bU w' w.heap.size mp root 0∧w'.heap.size=w.heap.size+1∧Below w.heap.size w w':=by
 have hr2:¬root<0:=by omega
 have heq:∀w:World,(binOp BinOp.eql 171 (.iface 113 mp.agg) .nilIface).run Tryz.prog w= .ok (.bool false) w:=fun _=>by kernel_rfl
 go_enter Tryz.func57,Tryz.ntmps57
 go_wp2_with fail
 go_ret
 exact⟨rfl,aS _ _,by simp,aI _ _⟩
theorem OJ (t:Nat) (mp:VS) (root err:Int) (w:World) (h:bU w t mp root err):
  Calls Tryz.prog 63 #[.pointer (some ⟨t,0,none⟩)] w fun e w'=>e= .returned (.int .i64 root)∧w'=w:=by
 obtain⟨_,c1,_,_,_,_,hlt⟩:=cells3 h
 go_enter Tryz.func63,Tryz.ntmps63
 go_wp2
 go_ret
 exact⟨rfl,rfl⟩
theorem QB (v pg d:Nat) (σ:Dk) (l:Lg) (p:Pg) (op:Value) (S:Nat→Prop) (w:World) (hv:w.heap[v]? =some (.cells #[.pointer (some ⟨pg,0,none⟩)] 102 (0,0))) (h:iy w S pg d σ l p op) (hcap:σ.waits.length≤90000):
  Calls Tryz.prog 30 #[.pointer (some ⟨v,0,none⟩)] w fun e w'=>e= .returned (.int .i64 (p.sync σ l).2.2.2)∧∃S',iy w' S' pg d (p.sync σ l).1 (p.sync σ l).2.1 (p.sync σ l).2.2.1 op∧Step S S' w w':=by
 have c0:w.cell? ⟨v,0,none⟩=some (.pointer (some ⟨pg,0,none⟩)):=by simp[World.cell?,hv]
 have hlt:=(ah.1 hv).1
 have HP:=af (O4 pg d σ l p op S w h hcap)
 clear hv h
 go_enter Tryz.func30,Tryz.ntmps30
 go_wp2_with (first
  |(go_at_call 53;go_must (refine HP.out.mono ?_;rintro e w2 ⟨rfl,hp2⟩)))
 go_ret
 exact⟨rfl,hp2⟩
def IQ (l:List UInt8) (root:Nat):Prop:=root<65536∧∃rest,l=[UInt8.ofNat root,UInt8.ofNat (root/256)]++rest
def bP.start (σ:Dk) (l:Lg) (p:Pg) (f:Nat→Bool):bP:=⟨⟨σ,l,p,f⟩,p.blocks σ,Im.none,f,countB f (p.blocks σ)⟩
theorem bP.Ok.start {σ:Dk} {l:Lg} {p:Pg} {f:Nat→Bool} (hp:p.Ok σ l) (hs:σ.Ok) (hd:p.dead=false) (hsd:σ.dead=false) (h2:2≤p.blocks σ) (hhi:∀b,p.blocks σ≤b→f b=false) (h0:f 0=true) (h1:f 1=true):(bP.start σ l p f).Ok:=by
 refine⟨hd,hsd,rfl,h2,?_,hhi,hhi,h0,h1,(fun b hb=>by cases hb),(fun b _ hn ho=> ?_),?_,fun b _=> ?_⟩
 ·have:=hs.hi
  show p.blocks σ≤4096
  unfold Pg.blocks;omega
 ·have hn':f b=true:=hn
  have ho':f b=false:=ho
  rw[hn'] at ho';cases ho'
 ·show countB (fun x=>f x||f x) (p.blocks σ)≤countB f (p.blocks σ)
  exact mV _ (fun x _ hx=>by simpa using hx)
 ·show (p.look Im.none σ b).length=512
  rw[Pg.Cf]
  unfold Im.find
  split
  ·exact hp.fresh.img _ ‹_›
  ·exact hs.get _
def La (pg d:Nat) (σ:Dk) (l:Lg) (p:Pg) (f:Nat→Bool) (root:Nat) (S:Nat→Prop) (w:World) (e:Ending) (w':World):Prop:=
 ∃t tr mp S',e= .returned (.tuple #[.pointer (some ⟨t,0,none⟩),.int .i64 0])∧mp.pg=pg∧mp.d=d∧w'.heap[t]? =some (.cells (bS mp (some tr) false 0) 118 (0,0))∧bU w' tr mp root 0∧Inv (bP.start σ l p f) S' mp w'∧Step S S' w w'∧¬S' t∧¬S' tr∧w.heap.size≤t∧w.heap.size≤tr
theorem Gz (v pg d:Nat) (σ:Dk) (l:Lg) (p:Pg) (f:Nat→Bool) (root:Nat) (S:Nat→Prop) (w:World) (hv:w.heap[v]? =some (.cells #[.pointer (some ⟨pg,0,none⟩)] 102 (0,0))) (hvS:¬S v) (h:iy w S pg d σ l p (.pointer none)) (hd:p.dead=false) (hsd:σ.dead=false) (h2:2≤p.blocks σ) (hf:p.look Im.none σ 0=bytesOf f) (hhi:∀b,p.blocks σ≤b→f b=false) (h0:f 0=true) (h1:f 1=true) (hr:IQ (p.look Im.none σ 1) root):
  Calls Tryz.prog 13 #[.pointer (some ⟨v,0,none⟩)] w (La pg d σ l p f root S w):=by
 have hok:=bP.Ok.start h.ok.1 h.ok.2.1 hd hsd h2 hhi h0 h1
 have c0:w.cell? ⟨v,0,none⟩=some (.pointer (some ⟨pg,0,none⟩)):=by simp[World.cell?,hv]
 have hlt:=(ah.1 hv).1
 have HB:=af (Mr pg d σ l p S w h hd)
 have HV:=af hv;have HOK:=af hok
 have hsub:=h.sub
 obtain⟨hr1,rest,hr2⟩:=hr
 have HF:=af (ax hf (ax hhi (ax h0 h1)))
 have HR2:=af hr2
 clear hv h hok hf hhi h0 h1 hr2
 go_enter Tryz.func13,Tryz.ntmps13
 go_wp2_with (first
  |(go_at_call 49;go_must (refine HB.out.mono ?_;rintro e w1 ⟨tx,T,rfl,hp1,htx1,hs1,hT1⟩;refine Stop.of ?_)))
 refine Stop.on ?_
 have hdis:∀g,S g→¬T g:=fun g hg e=>absurd (hT1 g e) (fC.2 (hsub g hg))
 have hv1:=(hs1.1.block v hlt hvS).trans HV.out
 have d0:w1.cell? ⟨v,0,none⟩=some (.pointer (some ⟨pg,0,none⟩)):=by simp[World.cell?,hv1]
 have hl1:=(ah.1 hv1).1
 have HBK:=af (yX pg d σ l p _ S w1 hp1)
 have HLD:=af (PK tx pg d σ l p _ Im.none S T f w1.drew (hp1.below ((aR _ w1).drew)) (htx1.below ((aR _ w1).drew)) hd hsd h2 HF.out.1 HF.out.2.1 HF.out.2.2.1 HF.out.2.2.2)
 have HP1:=af (ax hp1 (ax htx1 hs1))
 clear hv1 hp1 htx1 hs1
 go_wp2_with (first
  |(go_at_call 51;go_must (refine HBK.out.mono ?_;rintro e w2 ⟨rfl,hw2⟩;subst w2))
  |(go_at_call 54;go_must (refine HLD.out.mono ?_;rintro e w2 ⟨mp,rfl,hmp2,hmlo,hb2⟩;refine Stop.of ?_)))
 refine Stop.on ?_
 have hb12:Below w1.heap.size w1 w2:=((aR _ w1).drew).trans hb2
 have hp2:=HP1.out.1.below hb12
 have htx2:=HP1.out.2.1.below hb12
 have HRD:=tread tx pg d σ l p _ Im.none S T 1 w2 hp2 htx2 hd hsd (by omega)
 rw[HR2.out] at HRD
 have HRD:=af HRD
 go_wp2_with (first
  |(go_at_call 56;go_must (refine HRD.out.mono ?_;rintro e w3 ⟨rv,rfl,hrv3,hro3,hb3⟩;refine Stop.of ?_)))
 refine Stop.on ?_
 obtain⟨ro,rc,rfl,r1,r2,r3,r4⟩:=aX.form hrv3
 have hbt:=UInt8.toNat_lt (UInt8.ofNat root)
 have hbt2:=UInt8.toNat_lt (UInt8.ofNat (root/256))
 have e1:(UInt8.ofNat root).toNat=root%256:=by rw[d9]
 have e2:(UInt8.ofNat (root/256)).toNat=root/256:=by rw[d9];omega
 obtain⟨pb,po,rfl,e30⟩:=hrv3.Eb rfl 0 (.int .u8 ((root%256:Nat):Int)) (by simp[aG,e1])
 obtain⟨pb',po',e',e31⟩:=hrv3.Eb rfl 1 (.int .u8 ((root/256:Nat):Int)) (by simp[aG,e2])
 cases e'
 have hpb:=ay w3 _ e30
 obtain⟨lo,hlo⟩:∃n:Nat,n=root%256:=⟨_,rfl⟩
 obtain⟨hi,hhi⟩:∃n:Nat,n=root/256:=⟨_,rfl⟩
 rw[←hlo] at e30
 rw[←hhi] at e31
 have hlo2:lo<256:=by omega
 have hhi2:hi<256:=by omega
 have hroot:root=lo+256*hi:=by omega
 have q1:IntKind.i64.wrap (lo:Int)=(lo:Int):=aF _ (by omega)
 have q2:IntKind.i64.wrap (hi:Int)=(hi:Int):=aF _ (by omega)
 have p1:IntKind.i64.wrap ((hi:Int)*256)=((256*hi:Nat):Int):=by rw[aF _ (by omega)];omega
 have o1:=EX lo hi 256 root 8 rfl hlo2 hroot (by omega)
 have HRT:=af hroot
 obtain⟨m1,hm1⟩:∃m:Nat,Hid (256*hi=m):=⟨_,af rfl⟩
 rw[hm1.out] at p1 o1
 have HP3:=af (ax (hp2.below hb3) (ax (htx2.below hb3) (hb12.trans (hb3.mono hb12.size))))
 have hmp3:=af ((hb3.block mp (ah.1 hmp2).1).trans hmp2)
 clear hrv3 hro3 e1 e2 hbt hbt2 hlo hhi hroot hp2 htx2 hmp2
 go_upto_region 15 with (fail)
 have hb4:=aI w3 (.cells #[.pointer (some ⟨tx,0,none⟩),.pointer (some ⟨mp,0,none⟩)] 113)
 have h4:=aS w3 (.cells #[.pointer (some ⟨tx,0,none⟩),.pointer (some ⟨mp,0,none⟩)] 113)
 obtain⟨sb,hsb⟩:∃sb,Hid (w3.heap.size=sb):=⟨_,af rfl⟩
 obtain⟨w4,hw4⟩:∃w4,Hid (w3.alloc (.cells #[.pointer (some ⟨tx,0,none⟩),.pointer (some ⟨mp,0,none⟩)] 113)=w4):=⟨_,af rfl⟩
 rw[hw4.out] at hb4 h4 ⊢
 rw[hsb.out] at h4 ⊢
 have HCL:=af (show ∀W:World,Below w4.heap.size w4 W→(W.cell? ⟨sb,0,none⟩=some (.pointer (some ⟨tx,0,none⟩))∧W.cell? ⟨sb,1,none⟩=some (.pointer (some ⟨mp,0,none⟩))∧W.cell? ⟨pb,po,none⟩=some (.int .u8 (lo:Int))∧W.cell? ⟨pb,po+1,none⟩=some (.int .u8 (hi:Int))∧sb<W.heap.size∧pb<W.heap.size) from fun W hW=>by
  have hl:=(ah.1 h4).1
  have hl3:=ak hpb hb4.size
  have h5:=(hW.block sb hl).trans h4
  exact⟨by simp[World.cell?,h5],by simp[World.cell?,h5],(hW.cell (p:=⟨pb,po,none⟩) hl3).trans ((hb4.cell (p:=⟨pb,po,none⟩) hpb).trans e30),(hW.cell (p:=⟨pb,po+1,none⟩) hl3).trans ((hb4.cell (p:=⟨pb,po+1,none⟩) hpb).trans e31),ak hl hW.size,ak hl3 hW.size⟩)
 have HB4:=af hb4
 clear e30 e31 h4 hb4
 refine aO (fun W=>W.cell? ⟨sb,0,none⟩=some (.pointer (some ⟨tx,0,none⟩))∧W.cell? ⟨sb,1,none⟩=some (.pointer (some ⟨mp,0,none⟩))∧W.cell? ⟨pb,po,none⟩=some (.int .u8 (lo:Int))∧W.cell? ⟨pb,po+1,none⟩=some (.int .u8 (hi:Int))∧sb<W.heap.size∧pb<W.heap.size) (fun i=> !([13,15].contains i)) [0,1,2,3,4,5,6,7,8,9,10,11,12,13,14,15,16,17] rfl (by kernel_rfl) (HCL.out _ ((aR _ w4).drew)) ?_
 repeat ((refine bG (v:= ?_) rfl rfl (fun _ _ _ h=>h) rfl (fun W hW=> ?_) ?_);rotate_left;(focus ((try dsimp only at hW);obtain⟨a0,a1,a2,a3,a4,a5⟩:=hW;(go_simp;first|done|with_reducible rfl)));(try simp only[Act.put,ai,au,aj]))
 obtain⟨ms,hms⟩:∃ms:VS,ms=⟨tx,pg,d,mp⟩:=⟨_,rfl⟩
 have HBO:=af (OL ms (root:Int) w4.drew (by omega))
 rw[hms] at HBO
 refine dz rfl rfl rfl ?_;intro K hK;go_simp
 refine HBO.out.mono ?_;rintro e w5 ⟨rfl,htr5,-,hb5⟩
 have hb45:Below w4.heap.size w4 w5:=((aR _ w4).drew).trans hb5
 refine hK.out _ _ (HCL.out _ hb45) ?_
 (try simp only[Act.put,ai,au,aj])
 repeat ((refine bG (v:= ?_) rfl rfl (fun _ _ _ h=>h) rfl (fun W hW=> ?_) ?_);rotate_left;(focus ((try dsimp only at hW);obtain⟨a0,a1,a2,a3,a4,a5⟩:=hW;(go_simp;first|done|with_reducible rfl)));(try simp only[Act.put,ai,au,aj]))
 refine dz rfl rfl rfl ?_;intro K hK;go_simp
 have hb6:=aI w5 (.cells #[.pointer (some ⟨tx,0,none⟩),.pointer (some ⟨mp,0,none⟩),.pointer (some ⟨w4.heap.size,0,none⟩),.bool false,.int .i64 0] 118)
 have h6:=aS w5 (.cells #[.pointer (some ⟨tx,0,none⟩),.pointer (some ⟨mp,0,none⟩),.pointer (some ⟨w4.heap.size,0,none⟩),.bool false,.int .i64 0] 118)
 have hb46:=hb45.trans (hb6.mono hb45.size)
 refine hK.out _ _ (HCL.out _ hb46) ?_
 (try simp only[Act.put,ai,au,aj])
 repeat ((refine bG (v:= ?_) rfl rfl (fun _ _ _ h=>h) rfl (fun W hW=> ?_) ?_);rotate_left;(focus ((try dsimp only at hW);obtain⟨a0,a1,a2,a3,a4,a5⟩:=hW;(go_simp;first|done|with_reducible rfl)));(try simp only[Act.put,ai,au,aj]))
 refine bK ?_
 go_wp2_with fail
 go_ret2
 have hb36:=HB4.out.trans (hb46.mono HB4.out.size)
 have hmpl:=(ah.1 hmp3.out).1
 have hT1':∀g,T g→w.heap.size≤g:=hT1
 have hl3:w1.heap.size≤w3.heap.size:=HP3.out.2.2.size
 have hl01:=HP1.out.2.2.1.size
 have hbt:w3.heap.size≤w4.heap.size:=HB4.out.size
 have hbu:w4.heap.size≤w5.heap.size:=hb45.size
 have hsub1:∀g,S g→g<w1.heap.size:=fun g hg=>ak (hsub g hg) hl01
 have hsubT:∀g,T g→g<w1.heap.size:=HP1.out.2.1.sub
 have hlo2':w1.heap.size≤mp:=hmlo
 refine⟨w5.heap.size,w4.heap.size,⟨tx,pg,d,mp⟩,fun g=>S g∨T g∨g=mp,rfl,rfl,rfl,h6,?_,⟨S,T,⟨HOK.out,HP3.out.1.below hb36,HP3.out.2.1.below hb36,(hb36.block mp hmpl).trans hmp3.out,hdis,fun e=>absurd (hsub1 mp e) (aY.2 hlo2'),fun e=>absurd (hsubT mp e) (aY.2 hlo2')⟩,fun g=>Lb⟩,⟨?_,fun g hg=> ?_⟩,?_,?_,?_,?_⟩
 ·exact(hb6.block _ (ah.1 htr5).1).trans htr5
 ·refine(HP1.out.2.2.1.trans (Keep.of_below (HP3.out.2.2.trans (hb36.mono hl3)) gL) (fun _ _ e=>e.elim))
 ·rcases hg with hg|hg|hg
  ·exact .inl hg
  ·exact .inr (hT1' g hg)
  ·exact .inr (by rw[hg];omega)
 ·rintro(e|e|e)
  ·have:=hsub1 _ e;omega
  ·have:=hsubT _ e;omega
  ·omega
 ·rintro(e|e|e)
  ·have:=hsub1 _ e;omega
  ·have:=hsubT _ e;omega
  ·omega
 ·omega
 ·omega
theorem FJ:∀(l:List Int) (σ:bP),(σ.frees l).tk=σ.tk
 |[],_=>rfl
 |y::l,σ=>FJ l (σ.gone y)
theorem qV {w:World} {t tr:Nat} {mp mp':VS} {tr':Option Nat} {ch:Bool} {er root err:Int} (h:w.heap[t]? =some (.cells (bS mp tr' ch er) 118 (0,0))) (ht:bU w tr mp' root err):t≠tr:=by
 rintro rfl
 unfold bU at ht
 rw[h] at ht
 injection ht with ht
 injection ht with _ h2
 exact absurd h2 (by decide)
theorem qH (l:List Int):(oG l).Perm l:=pY _ _
theorem LF (t tr:Nat) (mp:VS) (root:Int) (ch:Bool) (er:Int) (σ:bP) (S:Nat→Prop) (w:World) (es l o r:List kU) (tb:List Int) (key:ByteArray) (h:w.heap[t]? =some (.cells (bS mp (some tr) ch er) 118 (0,0))) (hI:Inv σ S mp w) (ht:bU w tr mp root 0) (hL:Live σ root es tb) (hA:qP es key l o r) (hl:es.length≤4090) (hg:1≤key.size∧key.size≤128):
  Calls Tryz.prog 59 #[.pointer (some ⟨t,0,none⟩),.string key] w fun e w'=>e= .returned (.int .i64 0)∧∃σ1,Inv σ1 S mp w'∧Step S S w w'∧kZ σ σ1 (dm o) []∧σ1.tk=σ.tk:=by
 have hl':(gY es).length≤4090:=by rw[dK];exact hl
 have hsmall:qj ((cu (gY es) key).getD ⟨#[]⟩).data.toList=none→((cu (gY es) key).getD ⟨#[]⟩).size≤1000000→dm o=[]→Calls Tryz.prog 59 #[.pointer (some ⟨t,0,none⟩),.string key] w fun e w'=>e= .returned (.int .i64 0)∧∃σ1,Inv σ1 S mp w'∧Step S S w w'∧kZ σ σ1 (dm o) []∧σ1.tk=σ.tk:=by
  intro h1 h2 h3
  refine(zw t tr mp root ch er σ S w (gY es) tb key h hI ht hL.tree hl' hg h1 h2).mono ?_
  rintro e w' ⟨rfl,hb⟩
  rw[h3]
  exact⟨rfl,σ,hI.below hb,Step.of_below hb,kZ.refl (fun x hx=>by cases hx),rfl⟩
 rcases hA.one with rfl|⟨e,rfl,hk⟩
 ·have hls:cu (gY es) key=none:=hA.ls
  refine hsmall ?_ ?_ rfl
  ·rw[hls];rfl
  ·rw[hls];exact aU _
 ·have hls:cu (gY es) key=some e.s:=hA.ls
  have hv:=hL.val e (by rw[hA.eq];simp)
  have hbo:dm [e]=e.b:=by simp[dm]
  rcases hv with ⟨h1,h2,h3⟩|⟨hd,rs,h1,h2,h3,h4⟩
  ·refine hsmall ?_ ?_ (by rw[hbo,h3])
   ·rw[hls,Qs,h1];exact sJ _
   ·rw[hls,Qs,h1]
    have:(strOf (0::e.v.data.toList)).size=e.v.size+1:=by show (0::e.v.data.toList).toArray.size=e.v.data.size+1;simp
    omega
  ·refine(Gx t tr mp root ch er σ S w (gY es) tb key e.s hd e.v.data.toList rs h hI ht hL.tree hl' hg hls (by rw[h1];exact vD hd h2.1) (by rw[h1];show [1,UInt8.ofNat hd,UInt8.ofNat (hd/256)].toArray.size≤_;simp) h3).mono ?_
   rintro e' w' ⟨rfl,hI',hs'⟩
   refine⟨rfl,_,hI',hs',?_,FJ _ _⟩
   rw[hbo,h4]
   exact(xQ (oG (jE hd rs)) σ (fun x hx=>(h3.all x ((zH x).1 hx)).1) ((qH _).nodup_iff.2 h3.nd)).perm (qH _) (iI _)
structure xV (w:World) (S:Nat→Prop) (t tr:Nat) (mp:VS) (σ:bP) (root err:Int) (ch:Bool) (er:Int):Prop where
 tx:w.heap[t]? =some (.cells (bS mp (some tr) ch er) 118 (0,0))
 tree:bU w tr mp root err
 inv:Inv σ S mp w
 nt:¬S t
 ntr:¬S tr
theorem xV.keep {w w':World} {S M:Nat→Prop} {t tr:Nat} {mp:VS} {σ:bP} {root err:Int} {ch:Bool} {er:Int} (h:xV w S t tr mp σ root err ch er) (hk:Keep M w w') (hM:∀g,S g∨g=t∨g=tr→¬M g):xV w' S t tr mp σ root err ch er:=
 ⟨(hk.block t (ah.1 h.tx).1 (hM t (.inr (.inl rfl)))).trans h.tx,(hk.block tr (ah.1 h.tree).1 (hM tr (.inr (.inr rfl)))).trans h.tree,h.inv.ku hk (fun g hg=>hM g (.inl hg)),h.nt,h.ntr⟩
theorem xV.below {w w':World} {S:Nat→Prop} {t tr:Nat} {mp:VS} {σ:bP} {root err:Int} {ch:Bool} {er:Int} (h:xV w S t tr mp σ root err ch er) (hb:Below w.heap.size w w'):xV w' S t tr mp σ root err ch er:=h.keep (Keep.of_below hb gL) (fun _ _ e=>e)
def fG (S S':Nat→Prop) (t tr:Nat) (w w':World):Prop:=Keep (fun g=>S g∨g=t∨g=tr) w w'∧∀g,S' g→S g∨w.heap.size≤g
theorem fG.of {S S':Nat→Prop} {t tr:Nat} {w w':World} (h:Step S S' w w'):fG S S' t tr w w':=⟨h.1.mono (fun _ _ e=> .inl e),h.2⟩
theorem fG.trans {S S1 S2:Nat→Prop} {t tr:Nat} {w w1 w2:World} (h:fG S S1 t tr w w1) (k:fG S1 S2 t tr w1 w2):fG S S2 t tr w w2:=
 ⟨h.1.trans k.1 (fun g hg e=>e.elim (fun x=>(h.2 g x).elim .inl (fun y=>absurd hg (aY.2 y))) .inr),fun g hg=>(k.2 g hg).elim (fun x=>h.2 g x) (fun x=> .inr (aH h.1.size x))⟩
theorem fG.one {S:Nat→Prop} {t tr:Nat} {w w':World} (h:Keep (· =t) w w'):fG S S t tr w w':=⟨h.mono (fun _ _ e=> .inr (.inl e)),fun _ hg=> .inl hg⟩
theorem fG.tree {S S':Nat→Prop} {t tr:Nat} {w w':World} (h:Keep (fun g=>S g∨g=tr) w w') (h2:∀g,S' g→S g∨w.heap.size≤g):fG S S' t tr w w':=⟨h.mono (fun _ _ e=>e.imp id .inr),h2⟩
def Rs (σ σ':bP) (tb:List Int) (c:Nat):Prop:=∀L,σ.sz+c≤L+nh σ tb→σ.tk≤L→σ'.tk≤L
def OY (t tr:Nat) (mp:VS) (S:Nat→Prop) (σ:bP) (ch:Bool) (es l r:List kU) (tb:List Int) (key:ByteArray) (w w':World):Prop:=
 ∃σ' S' root' tb',xV w' S' t tr mp σ' root' 0 (ch||(cu (iC es) key).isSome) 0∧Live σ' root' (l++r) tb'∧kZ σ σ' (tb++dm es) (tb'++dm (l++r))∧fG S S' t tr w w'∧Rs σ σ' tb (2*(es.length+1))∧((l++r).length≤299→vP σ σ' 65)
def qO (t tr:Nat) (mp:VS) (S:Nat→Prop) (σ:bP) (ch:Bool) (w w':World):Prop:=
 ∃σ' S' root' err',xV w' S' t tr mp σ' root' err' ch 12∧σ'.H=σ.H∧σ'.most=σ.most∧fG S S' t tr w w'
theorem Gi {σ σ1:bP} {us:List Int} (h:kZ σ σ1 us []) (ht:σ1.tk=σ.tk):vP σ σ1 0:=by
 have hs:=h.size
 have hz:nh σ []=0:=rfl
 exact⟨by omega,fun L _ t=>by omega⟩
theorem Jv {σ σ1 σ2:bP} {us:List Int} {tb:List Int} {es l o r:List kU} {key:ByteArray} {n:Nat} {root':Int} (_:σ1.most=σ.most) (_:σ1.H=σ.H) (hs:σ1.sz+nh σ us=σ.sz+nh σ []) (ht:σ1.tk=σ.tk) (hP:xW σ1 tb (iW (gY es) key) n σ2 root') (hA:qP es key l o r) (hc:(l++r).length≤299):vP σ σ2 65:=by
 obtain⟨_,_,_,_,h⟩:=hP
 have hz:nh σ []=0:=rfl
 have h0:vP σ σ1 0:=⟨by omega,fun L _ t=>by omega⟩
 exact(h0.trans (h (by rw[hA.ds,dK];exact hc))).more (by omega)
theorem NZ (t tr:Nat) (mp:VS) (root:Int) (ch:Bool) (σ:bP) (S:Nat→Prop) (w:World) (es l o r:List kU) (tb:List Int) (key:ByteArray) (hT:xV w S t tr mp σ root 0 ch 0) (hL:Live σ root es tb) (hA:qP es key l o r) (hl:es.length≤4090) (hg:1≤key.size∧key.size≤128):
  Calls Tryz.prog 19 #[.pointer (some ⟨t,0,none⟩),.string key] w fun e w'=>(e= .returned (.tuple #[.bool (cu (iC es) key).isSome,.int .i64 0])∧OY t tr mp S σ ch es l r tb key w w')∨
   (e= .returned (.tuple #[.bool false,.int .i64 12])∧σ.most+nh σ tb<σ.sz+2*(es.length+1)∧qO t tr mp S σ ch w w'):=by
 have hne:=qV hT.tx hT.tree
 have HU:=af (mJ t mp tr ch 0 key w hT.tx)
 have hu:gH 0 key=0:=by unfold gH;rw[if_neg (by simp),if_neg (by omega)]
 rw[hu] at HU
 have HD:=af (LF t tr mp root ch 0 σ S w es l o r tb key hT.tx hT.inv hT.tree hL hA hl hg)
 have HT:=af hT
 have hlt:=(ah.1 hT.tx).1
 have hl':(gY es).length≤4090:=by rw[dK];exact hl
 have hsm:(cu (gY es) key).isSome=(cu (iC es) key).isSome:=by rw[hA.ls,hA.lv];cases o.head? <;>rfl
 obtain⟨was,hwas⟩:∃b,b=(cu (iC es) key).isSome:=⟨_,rfl⟩
 rw[←hwas] at hsm
 have HSM:=af hsm;have HWAS:=af hwas
 rw[←hwas]
 clear hT hu hsm hwas
 go_enter Tryz.func19,Tryz.ntmps19
 go_wp2_with (first
  |(go_at_call 58;go_must (refine HU.out.mono ?_;rintro e w1 ⟨rfl,rfl⟩))
  |(go_at_call 59;go_must (refine HD.out.mono ?_;rintro e w1 ⟨rfl,σ1,hI1,hs1,hc1,htk1⟩;refine Stop.of ?_)))
 refine Stop.on ?_
 have hT1:xV w1 S t tr mp σ1 root 0 ch 0:=⟨(hs1.1.block t hlt HT.out.nt).trans HT.out.tx,(hs1.1.block tr (ah.1 HT.out.tree).1 HT.out.ntr).trans HT.out.tree,hI1,HT.out.nt,HT.out.ntr⟩
 have hall:=hL.all
 have hnd:=hL.own.nd
 have hbo:∀x∈dm o,x∈dm es:=fun x hx=>by rw[hA.eq,gK,gK];simp[hx]
 have hTr1:uW σ1 root (gY es) tb:=hL.tree.keep hc1 (fun x hx=> .inl (fun e=>mU hnd x (hbo x e) hx))
 have HDT:=FR tr mp root σ1 S (gY es) tb key w1 hI1 hT1.tree HT.out.ntr hTr1 (dH.1 hnd).1 hl' hg
 rw[HSM.out] at HDT
 have HDT:=af HDT
 have c2:w1.cell? ⟨t,2,none⟩=some (.pointer (some ⟨tr,0,none⟩)):=by simp[World.cell?,hT1.tx,bS]
 have hlt1:=(ah.1 hT1.tx).1
 have HT1:=af (ax hT1 (ax hc1 hs1))
 clear hI1 hs1 hc1 hT1 hTr1
 go_wp2_with (first
  |(go_at_call 69;go_must (refine HDT.out.mono ?_;rintro e w2 (⟨rfl,σ2,S2,b2,hI2,ht2,hst2,hP2,hk2,hn2⟩|⟨rfl,hlost,σ2,S2,hI2,ht2,hst2,hH2,hm2,hk2,hn2⟩)<;>refine Stop.of ?_)))
 ·refine Stop.on ?_
  have htx2:=(hk2.block t hlt1 (fun e=>e.elim HT.out.nt hne)).trans HT1.out.1.tx
  have hns2:¬S2 t:=fun e=>(hn2 t e).elim HT.out.nt (fun x=>absurd hlt1 (aY.2 x))
  have d3:w2.cell? ⟨t,3,none⟩=some (.bool ch):=by simp[World.cell?,htx2,bS]
  have f3:w2.frozen? ⟨t,3,none⟩=false:=by simp[World.frozen?,htx2]
  have hlt2:=(ah.1 htx2).1
  have HX2:=af (ax htx2 (ax hI2 (ax ht2 (ax hk2 hn2))))
  have HP2:=af hP2
  have HC:=af HT1.out.2.1
  have HT1tk:=af htk1
  clear htx2 hI2 ht2 hk2 hn2 hP2
  cases ch
  ·go_wp2_with fail
   go_ret2
   have hk3:Keep (· =t) w2 (w2.setCell ⟨t,3,none⟩ (.bool was)):=(Keep.refl (· =t) _).setCell (p:=⟨t,3,none⟩) (.inr rfl) _
   obtain⟨tb',hL',hC'⟩:=Fb hL hA HC.out HP2.out
   refine .inl ⟨rfl,σ2,S2,b2,tb',⟨?_,?_,HX2.out.2.1.ku hk3 (fun g hg e=>hns2 (e▸hg)),hns2,hst2⟩,hL',hC',?_,fun L r t0=> ?_,fun hc=> ?_⟩
   ·rw[←HWAS.out]
    simp[World.setCell,aL,HX2.out.1]
    rfl
   ·exact(hk3.block tr (ah.1 HX2.out.2.2.1).1 (fun e=>hne e.symm)).trans HX2.out.2.2.1
   ·exact((fG.of HT1.out.2.2).trans (fG.tree HX2.out.2.2.2.1 HX2.out.2.2.2.2)).trans (fG.one hk3)
   ·obtain⟨_,_,_,hpk,_⟩:=HP2.out
    have hsz:=HC.out.size
    have hz:nh σ []=0:=rfl
    refine hpk L ?_ (by rw[htk1];exact t0)
    unfold jZ
    rw[rO HC.out.H,dK]
    omega
   ·exact Jv HC.out.most HC.out.H HC.out.size HT1tk.out HP2.out hA hc
  ·go_wp2_with fail
   go_ret2
   have hk3:Keep (· =t) w2 (w2.setCell ⟨t,3,none⟩ (.bool true)):=(Keep.refl (· =t) _).setCell (p:=⟨t,3,none⟩) (.inr rfl) _
   obtain⟨tb',hL',hC'⟩:=Fb hL hA HC.out HP2.out
   refine .inl ⟨rfl,σ2,S2,b2,tb',⟨?_,?_,HX2.out.2.1.ku hk3 (fun g hg e=>hns2 (e▸hg)),hns2,hst2⟩,hL',hC',?_,fun L r t0=> ?_,fun hc=> ?_⟩
   ·rw[←HWAS.out]
    simp[World.setCell,aL,HX2.out.1]
    rfl
   ·exact(hk3.block tr (ah.1 HX2.out.2.2.1).1 (fun e=>hne e.symm)).trans HX2.out.2.2.1
   ·exact((fG.of HT1.out.2.2).trans (fG.tree HX2.out.2.2.2.1 HX2.out.2.2.2.2)).trans (fG.one hk3)
   ·obtain⟨_,_,_,hpk,_⟩:=HP2.out
    have hsz:=HC.out.size
    have hz:nh σ []=0:=rfl
    refine hpk L ?_ (by rw[htk1];exact t0)
    unfold jZ
    rw[rO HC.out.H,dK]
    omega
   ·exact Jv HC.out.most HC.out.H HC.out.size HT1tk.out HP2.out hA hc
 ·refine Stop.on ?_
  have htx2:=(hk2.block t hlt1 (fun e=>e.elim HT.out.nt hne)).trans HT1.out.1.tx
  have hns2:¬S2 t:=fun e=>(hn2 t e).elim HT.out.nt (fun x=>absurd hlt1 (aY.2 x))
  have HSP:=af (CK t mp (some tr) ch 0 12 w2 htx2)
  have HX2:=af (ax htx2 (ax hI2 (ax ht2 (ax hk2 hn2))))
  have HLO:=af (ax hlost (ax hH2 hm2))
  have HC:=af HT1.out.2.1
  clear htx2 hI2 ht2 hk2 hn2 hlost hH2 hm2
  go_wp2_with (first
   |(go_at_call 60;go_must (refine HSP.out.mono ?_;rintro e w3 ⟨rfl,h3,hk3⟩)))
  go_ret2
  refine .inr ⟨rfl,?_,σ2,S2,root,12,⟨h3,(hk3.block tr (ah.1 HX2.out.2.2.1).1 (fun e=>hne e.symm)).trans HX2.out.2.2.1,HX2.out.2.1.ku hk3 (fun g hg e=>hns2 (e▸hg)),hns2,hst2⟩,HLO.out.2.1.trans HC.out.H,HLO.out.2.2.trans HC.out.most,((fG.of HT1.out.2.2).trans (fG.tree HX2.out.2.2.2.1 HX2.out.2.2.2.2)).trans (fG.one hk3)⟩
  have hno:=HLO.out.1
  have hsz:=HC.out.size
  unfold Room at hno
  rw[rO HC.out.H,HC.out.most,dK] at hno
  have:nh σ []=0:=rfl
  omega
def eU (value:ByteArray):Nat:=if value.size≤63 then 0 else 1+pz value.size
def D6 (t tr:Nat) (mp:VS) (S:Nat→Prop) (σ:bP) (es l r:List kU) (tb:List Int) (key value:ByteArray) (w w':World):Prop:=
 ∃σ' S' root' tb' s nb,xV w' S' t tr mp σ' root' 0 true 0∧Live σ' root' (l++⟨key,s,value,nb⟩::r) tb'∧kZ σ σ' (tb++dm es) (tb'++dm (l++⟨key,s,value,nb⟩::r))∧fG S S' t tr w w'∧Rs σ σ' tb (2*(es.length+1)+eU value)∧((l++⟨key,s,value,nb⟩::r).length≤299→vP σ σ' (65+eU value))
theorem BO (value:ByteArray):(⟨#[0]⟩:ByteArray)++value=strOf (0::value.data.toList):=by
 apply NQ
 rw[ByteArray.data_append]
 apply CG.1
 rw[p8]
 rfl
theorem LD (t tr:Nat) (mp:VS) (ch:Bool) (w:World) (key value:ByteArray) (h:w.heap[t]? =some (.cells (bS mp (some tr) ch 0) 118 (0,0))) (hg:1≤key.size∧key.size≤128) (hv:49152<value.size):
  Calls Tryz.prog 14 #[.pointer (some ⟨t,0,none⟩),.string key,.string value] w fun e w'=>e= .returned (.int .i64 1)∧w'=w:=by
 have HU:=af (mJ t mp tr ch 0 key w h)
 have hu:gH 0 key=0:=by unfold gH;rw[if_neg (by simp),if_neg (by omega)]
 rw[hu] at HU
 have x1:(49152:Int)<(value.size:Int):=by omega
 clear h hu
 go_enter Tryz.func14,Tryz.ntmps14
 go_wp2_with (first
  |(go_at_call 58;go_must (refine HU.out.mono ?_;rintro e w1 ⟨rfl,rfl⟩)))
 go_ret
 exact⟨rfl,rfl⟩
theorem uh (t tr:Nat) (mp:VS) (root:Int) (ch:Bool) (σ:bP) (S:Nat→Prop) (w:World) (es l o r:List kU) (tb:List Int) (key:ByteArray) (hT:xV w S t tr mp σ root 0 ch 0) (hL:Live σ root es tb) (hA:qP es key l o r) (hl:es.length≤4090) (hg:1≤key.size∧key.size≤128):
  Calls Tryz.prog 18 #[.pointer (some ⟨t,0,none⟩),.string key] w fun e w'=>e= .returned (.tuple #[.string ((cu (iC es) key).getD ByteArray.empty),.bool (cu (iC es) key).isSome,.int .i64 0])∧Below w.heap.size w w':=by
 have hl':(gY es).length≤4090:=by rw[dK];exact hl
 rcases hA.one with rfl|⟨e,rfl,hk⟩
 ·have h1:cu (gY es) key=none:=hA.ls
  have h2:cu (iC es) key=none:=hA.lv
  have:=QD t tr mp root ch σ S w (gY es) tb key ByteArray.empty [] hT.tx hT.inv hT.tree hL.tree hl' hg (fun s hs=>by rw[h1] at hs;cases hs)
  rw[h1] at this
  rw[h2]
  exact this
 ·have h1:cu (gY es) key=some e.s:=hA.ls
  have h2:cu (iC es) key=some e.v:=hA.lv
  have:=QD t tr mp root ch σ S w (gY es) tb key e.v e.b hT.tx hT.inv hT.tree hL.tree hl' hg (fun s hs=>by
   rw[h1] at hs;cases hs
   exact hL.val e (by rw[hA.eq];simp))
  rw[h1] at this
  rw[h2]
  exact this
theorem JR (t tr:Nat) (mp:VS) (root:Int) (ch:Bool) (σ:bP) (S:Nat→Prop) (w:World) (es l o r:List kU) (tb:List Int) (key value:ByteArray) (hT:xV w S t tr mp σ root 0 ch 0) (hL:Live σ root es tb) (hA:qP es key l o r) (hl:es.length≤4090) (hg:1≤key.size∧key.size≤128) (hv:value.size≤49152) (hs:cu (iC es) key=some value):
  Calls Tryz.prog 14 #[.pointer (some ⟨t,0,none⟩),.string key,.string value] w fun e w'=>e= .returned (.int .i64 0)∧Below w.heap.size w w':=by
 have HU:=af (mJ t mp tr ch 0 key w hT.tx)
 have hu:gH 0 key=0:=by unfold gH;rw[if_neg (by simp),if_neg (by omega)]
 rw[hu] at HU
 have HG:=uh t tr mp root ch σ S w es l o r tb key hT hL hA hl hg
 rw[hs] at HG
 have HG:=af HG
 have x1:¬(49152:Int)<(value.size:Int):=by omega
 clear hT hu
 go_enter Tryz.func14,Tryz.ntmps14
 go_wp2_with (first
  |(go_at_call 58;go_must (refine HU.out.mono ?_;rintro e w1 ⟨rfl,rfl⟩))
  |(go_at_call 18;go_must (refine HG.out.mono ?_;rintro e w1 ⟨rfl,hb1⟩)))
 go_ret
 exact⟨rfl,hb1⟩
theorem Qf (hd:Nat) (hb:hd<65536) (w:World):(convert 86 9 (.slice (some ⟨w.heap.size,0,none⟩) 3 3)).run Tryz.prog (w.alloc (.cells #[.int .u8 1,.int .u8 ((hd:Int)%256),.int .u8 ((hd:Int)/256)] 5))= .ok (.string (strOf [1,UInt8.ofNat hd,UInt8.ofNat (hd/256)])) (w.alloc (.cells #[.int .u8 1,.int .u8 ((hd:Int)%256),.int .u8 ((hd:Int)/256)] 5)):=by
 have he:[Value.int .u8 1,.int .u8 ((hd:Int)%256),.int .u8 ((hd:Int)/256)]=aG [1,UInt8.ofNat hd,UInt8.ofNat (hd/256)]:=by
  simp[aG,d9]
  omega
 have hr:Row (w.alloc (.cells #[.int .u8 1,.int .u8 ((hd:Int)%256),.int .u8 ((hd:Int)/256)] 5)) w.heap.size 5 (aG [1,UInt8.ofNat hd,UInt8.ofNat (hd/256)]):=by
  rw[←he];exact Row.new w _ _
 have hs:aX (w.alloc (.cells #[.int .u8 1,.int .u8 ((hd:Int)%256),.int .u8 ((hd:Int)/256)] 5)) gL 1 (.slice (some ⟨w.heap.size,0,none⟩) 3 3) [1,UInt8.ofNat hd,UInt8.ofNat (hd/256)].length (aG [1,UInt8.ofNat hd,UInt8.ofNat (hd/256)]):=by
  have:=hr.cK (S:=gL) (k:=1) (off:=0) 3 3 (by simp[aG]) id (aC _) (by simp[maxLen])
  rw[eu,aJ (by simp[aG])] at this
  exact this
 exact hs.strOf
theorem Gw (t tr:Nat) (mp:VS) (root:Int) (ch:Bool) (σ:bP) (S:Nat→Prop) (w:World) (es l o r:List kU) (tb:List Int) (key value:ByteArray) (hT:xV w S t tr mp σ root 0 ch 0) (hL:Live σ root es tb) (hA:qP es key l o r) (hl:es.length≤4090) (hg:1≤key.size∧key.size≤128) (hv:value.size≤63) (there:Bool) (was:ByteArray) (hget:(cu (iC es) key).isSome=there∧(cu (iC es) key).getD ByteArray.empty=was) (hno:there=true→(was.toList==value.toList)=false):
  Calls Tryz.prog 14 #[.pointer (some ⟨t,0,none⟩),.string key,.string value] w fun e w'=>(e= .returned (.int .i64 0)∧D6 t tr mp S σ es l r tb key value w w')∨
   (e= .returned (.int .i64 12)∧σ.most+nh σ tb<σ.sz+2*(es.length+1)+eU value∧qO t tr mp S σ ch w w'):=by
 have hne:=qV hT.tx hT.tree
 have HU:=af (mJ t mp tr ch 0 key w hT.tx)
 have hu:gH 0 key=0:=by unfold gH;rw[if_neg (by simp),if_neg (by omega)]
 rw[hu] at HU
 have HG:=uh t tr mp root ch σ S w es l o r tb key hT hL hA hl hg
 rw[hget.1,hget.2] at HG
 have HG:=af HG
 have x1:¬(49152:Int)<(value.size:Int):=by omega
 have x2:¬(63:Int)<(value.size:Int):=by omega
 have hb:eU value=0:=if_pos hv
 have HBC:=af hb
 have x0:=hv
 have HT:=af hT
 have hl':(gY es).length≤4090:=by rw[dK];exact hl
 have hall:=hL.all
 have hnd:=hL.own.nd
 have hbo:∀x∈dm o,x∈dm es:=fun x hx=>by rw[hA.eq,gK,gK];simp[hx]
 have hcnt:=hL.tree.count
 rw[dK] at hcnt
 have hnh:=qi σ tb
 have hsum:(⟨#[0]⟩:ByteArray)++value=strOf (0::value.data.toList):=BO value
 have hsz0:(strOf (0::value.data.toList)).size=value.size+1:=by show (0::value.data.toList).toArray.size=value.data.size+1;simp
 have hadd:∀W:World,(Op.stringOp .add (⟨#[0]⟩:ByteArray) value).run Tryz.prog W= .ok (.string (strOf (0::value.data.toList))) W:=fun W=>by rw[←hsum];exact run_string_add W _ _ (by show ((1:Nat):Int)≤_;omega) (by omega)
 have HSZ:=af hsz0;have HSUM:=af hsum
 obtain⟨small,hsmall⟩:∃s,Hid (strOf (0::value.data.toList)=s):=⟨_,af rfl⟩
 rw[hsmall.out] at hadd HSZ HSUM
 have HCNT:=af (ax hcnt (ax hnh hb))
 clear hT hu hsum hsz0 hb hcnt hnh
 go_enter Tryz.func14,Tryz.ntmps14
 go_wp2_with (first
  |(go_at_call 58;go_must (refine HU.out.mono ?_;rintro e w1 ⟨rfl,rfl⟩))
  |(go_at_call 18;go_must (refine HG.out.mono ?_;rintro e w1 ⟨rfl,hb1⟩;refine Stop.of ?_)))
 refine Stop.on ?_
 have hT1:=HT.out.below hb1
 have hlt1:=(ah.1 hT1.tx).1
 have HD:=af (LF t tr mp root ch 0 σ S w1 es l o r tb key hT1.tx hT1.inv hT1.tree hL hA hl hg)
 have HT1:=af (ax hT1 hb1)
 clear hT1 hb1
 cases there
 all_goals
  try have hno:=hno rfl
  go_wp2_with (first
   |(go_at_call 59;go_must (refine HD.out.mono ?_;rintro e w2 ⟨rfl,σ1,hI1,hs1,hc1,htk1⟩;refine Stop.of ?_)))
  refine Stop.on ?_
  have hT2:xV w2 S t tr mp σ1 root 0 ch 0:=⟨(hs1.1.block t hlt1 HT.out.nt).trans HT1.out.1.tx,(hs1.1.block tr (ah.1 HT1.out.1.tree).1 HT.out.ntr).trans HT1.out.1.tree,hI1,HT.out.nt,HT.out.ntr⟩
  have hTr1:uW σ1 root (gY es) tb:=hL.tree.keep hc1 (fun x hx=> .inl (fun e=>mU hnd x (hbo x e) hx))
  have hlt2:=(ah.1 hT2.tx).1
  have HS2:=af ((fG.of (t:=t) (tr:=tr) (Step.of_below (S:=S) HT1.out.2)).trans (fG.of hs1))
  have HC1:=af hc1
  have HTR1:=af hTr1
  clear hI1 hs1 hc1 hTr1
  have hc2:kZ σ1 σ1 [] []:=kZ.refl (fun x hx=>by cases hx)
  have hv2:ValAt σ1 small value []:= .inl ⟨hsmall.out.symm,x0,rfl⟩
  have HV2:=af (ax hc2 hv2)
  clear hc2 hv2
  have HPT:=af (EN tr mp root σ1 S (gY es) tb key small w2 hT2.inv hT2.tree HT.out.ntr HTR1.out (dH.1 hnd).1 hl' ⟨hg,by have:=HSZ.out;omega⟩)
  have c2:World.cell? w2 ⟨t,2,none⟩=some (.pointer (some ⟨tr,0,none⟩)):=by simp[World.cell?,hT2.tx,bS]
  have HT2:=af hT2
  clear hT2
  go_wp2_with (first
   |(go_at_call 62;go_must (refine HPT.out.mono ?_;rintro e w5 (⟨rfl,σ3,S3,b3,hI3,ht3,hst3,hP3,hk3,hn3⟩|⟨rfl,hlost,σ3,S3,hI3,ht3,hst3,hH3,hm3,hk3,hn3⟩)<;>refine Stop.of ?_)))
  ·refine Stop.on ?_
   have htx3:=(hk3.block t hlt2 (fun e=>e.elim HT.out.nt hne)).trans HT2.out.tx
   have hns3:¬S3 t:=fun e=>(hn3 t e).elim HT.out.nt (fun x=>absurd hlt2 (aY.2 x))
   have d3:w5.cell? ⟨t,3,none⟩=some (.bool ch):=by simp[World.cell?,htx3,bS]
   have f3:w5.frozen? ⟨t,3,none⟩=false:=by simp[World.frozen?,htx3]
   have hlt3:=(ah.1 htx3).1
   have HX3:=af (ax htx3 (ax hI3 (ax ht3 (ax hk3 hn3))))
   have HP3:=af hP3
   clear htx3 hI3 ht3 hk3 hn3 hP3
   go_wp2_with fail
   go_ret
   have hk4:Keep (· =t) w5 (w5.setCell ⟨t,3,none⟩ (.bool true)):=(Keep.refl (· =t) _).setCell (p:=⟨t,3,none⟩) (.inr rfl) _
   obtain⟨tb',hL',hC'⟩:=Fa hL hA HC1.out HV2.out.1 HV2.out.2 HP3.out
   refine .inl ⟨rfl,σ3,S3,b3,tb',small,_,⟨?_,?_,HX3.out.2.1.ku hk4 (fun g hg e=>hns3 (e▸hg)),hns3,hst3⟩,hL',hC',?_,fun L r t0=> ?_,fun hc=> ?_⟩
   ·simp[World.setCell,aL,HX3.out.1]
    rfl
   ·exact(hk4.block tr (ah.1 HX3.out.2.2.1).1 (fun e=>hne e.symm)).trans HX3.out.2.2.1
   ·exact(HS2.out.trans (fG.tree HX3.out.2.2.2.1 HX3.out.2.2.2.2)).trans (fG.one hk4)
   ·obtain⟨_,_,_,hpk,_⟩:=HP3.out
    have hCC:=HC1.out.trans HV2.out.1
    have hsz:=hCC.size
    have hsz1:=HC1.out.size
    have hnl:=qi σ []
    have hcc:=HCNT.out
    have hz:nh σ []=0:=rfl
    have h0:nh σ []=0:=rfl
    rw[hcc.2.2] at r
    refine hpk L ?_ ?_
    ·unfold jZ
     rw[rO hCC.H,dK]
     omega
    ·rw[htk1];exact t0
   ·obtain⟨_,_,_,_,hft⟩:=HP3.out
    have h0:=Gi HC1.out htk1
    have h2:=hft (by rw[hA.is small value [],dK];exact hc)
    exact(h0.trans h2).more (by omega)
  ·refine Stop.on ?_
   have htx3:=(hk3.block t hlt2 (fun e=>e.elim HT.out.nt hne)).trans HT2.out.tx
   have hns3:¬S3 t:=fun e=>(hn3 t e).elim HT.out.nt (fun x=>absurd hlt2 (aY.2 x))
   have HSP:=af (CK t mp (some tr) ch 0 12 w5 htx3)
   have HX3:=af (ax htx3 (ax hI3 (ax ht3 (ax hk3 hn3))))
   have HLO:=af (ax hlost (ax hH3 hm3))
   clear htx3 hI3 ht3 hk3 hn3 hlost hH3 hm3
   go_wp2_with (first
    |(go_at_call 60;go_must (refine HSP.out.mono ?_;rintro e w6 ⟨rfl,h6,hk6⟩)))
   go_ret
   have hCC:=HC1.out.trans HV2.out.1
   refine .inr ⟨rfl,?_,σ3,S3,root,12,⟨h6,(hk6.block tr (ah.1 HX3.out.2.2.1).1 (fun e=>hne e.symm)).trans HX3.out.2.2.1,HX3.out.2.1.ku hk6 (fun g hg e=>hns3 (e▸hg)),hns3,hst3⟩,HLO.out.2.1.trans hCC.H,HLO.out.2.2.trans hCC.most,(HS2.out.trans (fG.tree HX3.out.2.2.2.1 HX3.out.2.2.2.2)).trans (fG.one hk6)⟩
   have hno3:=HLO.out.1
   have hsz:=hCC.size
   have hnl:=qi σ []
   unfold Room at hno3
   rw[rO hCC.H,hCC.most,dK] at hno3
   have hcc:=HCNT.out
   have h0:nh σ []=0:=rfl
   rw[hcc.2.2]
   omega
theorem JS (t tr:Nat) (mp:VS) (root:Int) (ch:Bool) (σ:bP) (S:Nat→Prop) (w:World) (es l o r:List kU) (tb:List Int) (key value:ByteArray) (hT:xV w S t tr mp σ root 0 ch 0) (hL:Live σ root es tb) (hA:qP es key l o r) (hl:es.length≤4090) (hg:1≤key.size∧key.size≤128) (hv:63<value.size∧value.size≤49152) (there:Bool) (was:ByteArray) (hget:(cu (iC es) key).isSome=there∧(cu (iC es) key).getD ByteArray.empty=was) (hno:there=true→(was.toList==value.toList)=false):
  Calls Tryz.prog 14 #[.pointer (some ⟨t,0,none⟩),.string key,.string value] w fun e w'=>(e= .returned (.int .i64 0)∧D6 t tr mp S σ es l r tb key value w w')∨
   (e= .returned (.int .i64 12)∧σ.most+nh σ tb<σ.sz+2*(es.length+1)+eU value∧qO t tr mp S σ ch w w'):=by
 have hne:=qV hT.tx hT.tree
 have HU:=af (mJ t mp tr ch 0 key w hT.tx)
 have hu:gH 0 key=0:=by unfold gH;rw[if_neg (by simp),if_neg (by omega)]
 rw[hu] at HU
 have HG:=uh t tr mp root ch σ S w es l o r tb key hT hL hA hl hg
 rw[hget.1,hget.2] at HG
 have HG:=af HG
 have x1:¬(49152:Int)<(value.size:Int):=by omega
 have x2:(63:Int)<(value.size:Int):=by omega
 have hb:eU value=1+pz value.size:=if_neg (by omega)
 have HBC:=af hb
 have HT:=af hT
 have hl':(gY es).length≤4090:=by rw[dK];exact hl
 have hall:=hL.all
 have hnd:=hL.own.nd
 have hbo:∀x∈dm o,x∈dm es:=fun x hx=>by rw[hA.eq,gK,gK];simp[hx]
 have hcnt:=hL.tree.count
 rw[dK] at hcnt
 have hnh:=qi σ tb
 have hsum:(⟨#[0]⟩:ByteArray)++value=strOf (0::value.data.toList):=BO value
 have hsz0:(strOf (0::value.data.toList)).size=value.size+1:=by show (0::value.data.toList).toArray.size=value.data.size+1;simp
 have hadd:∀W:World,(Op.stringOp .add (⟨#[0]⟩:ByteArray) value).run Tryz.prog W= .ok (.string (strOf (0::value.data.toList))) W:=fun W=>by rw[←hsum];exact run_string_add W _ _ (by show ((1:Nat):Int)≤_;omega) (by omega)
 have HSZ:=af hsz0;have HSUM:=af hsum
 obtain⟨small,hsmall⟩:∃s,Hid (strOf (0::value.data.toList)=s):=⟨_,af rfl⟩
 rw[hsmall.out] at hadd HSZ HSUM
 have HCNT:=af (ax hcnt (ax hnh hb))
 clear hT hu hsum hsz0 hb hcnt hnh
 go_enter Tryz.func14,Tryz.ntmps14
 go_wp2_with (first
  |(go_at_call 58;go_must (refine HU.out.mono ?_;rintro e w1 ⟨rfl,rfl⟩))
  |(go_at_call 18;go_must (refine HG.out.mono ?_;rintro e w1 ⟨rfl,hb1⟩;refine Stop.of ?_)))
 refine Stop.on ?_
 have hT1:=HT.out.below hb1
 have hlt1:=(ah.1 hT1.tx).1
 have HD:=af (LF t tr mp root ch 0 σ S w1 es l o r tb key hT1.tx hT1.inv hT1.tree hL hA hl hg)
 have HT1:=af (ax hT1 hb1)
 clear hT1 hb1
 cases there
 all_goals
  try have hno:=hno rfl
  go_wp2_with (first
   |(go_at_call 59;go_must (refine HD.out.mono ?_;rintro e w2 ⟨rfl,σ1,hI1,hs1,hc1,htk1⟩;refine Stop.of ?_)))
  refine Stop.on ?_
  have hT2:xV w2 S t tr mp σ1 root 0 ch 0:=⟨(hs1.1.block t hlt1 HT.out.nt).trans HT1.out.1.tx,(hs1.1.block tr (ah.1 HT1.out.1.tree).1 HT.out.ntr).trans HT1.out.1.tree,hI1,HT.out.nt,HT.out.ntr⟩
  have hTr1:uW σ1 root (gY es) tb:=hL.tree.keep hc1 (fun x hx=> .inl (fun e=>mU hnd x (hbo x e) hx))
  have hlt2:=(ah.1 hT2.tx).1
  have HS2:=af ((fG.of (t:=t) (tr:=tr) (Step.of_below (S:=S) HT1.out.2)).trans (fG.of hs1))
  have HC1:=af hc1
  have HTR1:=af hTr1
  clear hI1 hs1 hc1 hTr1
  have c0:w2.cell? ⟨t,0,none⟩=some (.pointer (some ⟨mp.tx,0,none⟩)):=by simp[World.cell?,hT2.tx,bS]
  have c1:w2.cell? ⟨t,1,none⟩=some (.pointer (some ⟨mp.mp,0,none⟩)):=by simp[World.cell?,hT2.tx,bS]
  have HW:=af (Qh mp σ1 S w2 value hT2.inv (by omega) (by omega))
  have HT2':=af hT2
  clear hT2
  go_wp2_with (first
   |(go_at_call 61;go_must (refine HW.out.mono ?_;rintro e w3 (⟨hd,rs,σ2,rfl,hB2,hC2,htk2,hI2,hs2⟩|⟨rfl,hlow,σ2,hI2,hs2,hH2,hm2⟩)<;>refine Stop.of ?_)))
  ·refine Stop.on ?_
   have hT3:xV w3 S t tr mp σ2 root 0 ch 0:=⟨(hs2.1.block t hlt2 HT.out.nt).trans HT2'.out.tx,(hs2.1.block tr (ah.1 HT2'.out.tree).1 HT.out.ntr).trans HT2'.out.tree,hI2,HT.out.nt,HT.out.ntr⟩
   have hlt3:=(ah.1 hT3.tx).1
   have hdm:hd<65536:=by
    obtain⟨n,q1,q2,_⟩:=bP.kz hB2.hd.has
    have:=hI2.cap
    omega
   have hlen:(jE hd rs).length=1+pz value.size:=by
    have e1:=hB2.hd.len
    have e2:value.data.toList.length=value.size:=by show value.data.toList.length=value.data.size;simp
    rw[e2] at e1
    simp[jE,e1];omega
   have HLEN:=af hlen
   have HV2:=af (ax hC2 (show ValAt σ2 (strOf [1,UInt8.ofNat hd,UInt8.ofNat (hd/256)]) value (jE hd rs) from .inr ⟨hd,rs,rfl,⟨hdm,hv.1⟩,hB2,rfl⟩))
   have HTR2:=af (HTR1.out.keep hC2 (fun x _=> .inl (by simp)))
   have HS3:=af (HS2.out.trans (fG.of hs2))
   clear hsmall HSZ HSUM hadd
   have HCV:=af (Qf hd hdm w3)
   have q1:IntKind.i64.wrap ((hd:Int)/256)=(hd:Int)/256:=aF _ (by omega)
   have HTK2:=af htk2
   clear hlen hC2 hB2 hI2 hs2 htk2
   go_upto_region 17 with (fail)
   have hcv:=HCV.out
   go_upto_region 18 with (fail)
   obtain⟨small,hsmall⟩:∃s,Hid (strOf [1,UInt8.ofNat hd,UInt8.ofNat (hd/256)]=s):=⟨_,af rfl⟩
   rw[hsmall.out] at HV2 ⊢
   have HSZ:=af (show small.size=3 by rw[←hsmall.out];rfl)
   clear hcv HCV
   obtain⟨w4,hw4,hb4⟩:∃w4,w4=w3.alloc (.cells #[.int .u8 1,.int .u8 ((hd:Int)%256),.int .u8 ((hd:Int)/256)] 5)∧Below w3.heap.size w3 w4:=⟨_,rfl,aI _ _⟩
   rw[←hw4]
   have hT4:=hT3.below hb4
   have HS4:=af (HS3.out.trans (fG.of (Step.of_below (S:=S) hb4)))
   have hlt4:=(ah.1 hT4.tx).1
   clear hT3 hw4 hb4
   have HPT:=af (EN tr mp root σ2 S (gY es) tb key small w4 hT4.inv hT4.tree HT.out.ntr HTR2.out (dH.1 hnd).1 hl' ⟨hg,by have:=HSZ.out;omega⟩)
   have c2:World.cell? w4 ⟨t,2,none⟩=some (.pointer (some ⟨tr,0,none⟩)):=by simp[World.cell?,hT4.tx,bS]
   have HT2:=af hT4
   clear hT4
   go_wp2_with (first
    |(go_at_call 62;go_must (refine HPT.out.mono ?_;rintro e w5 (⟨rfl,σ3,S3,b3,hI3,ht3,hst3,hP3,hk3,hn3⟩|⟨rfl,hlost,σ3,S3,hI3,ht3,hst3,hH3,hm3,hk3,hn3⟩)<;>refine Stop.of ?_)))
   ·refine Stop.on ?_
    have htx3:=(hk3.block t hlt4 (fun e=>e.elim HT.out.nt hne)).trans HT2.out.tx
    have hns3:¬S3 t:=fun e=>(hn3 t e).elim HT.out.nt (fun x=>absurd hlt4 (aY.2 x))
    have d3:w5.cell? ⟨t,3,none⟩=some (.bool ch):=by simp[World.cell?,htx3,bS]
    have f3:w5.frozen? ⟨t,3,none⟩=false:=by simp[World.frozen?,htx3]
    have hlt3:=(ah.1 htx3).1
    have HX3:=af (ax htx3 (ax hI3 (ax ht3 (ax hk3 hn3))))
    have HP3:=af hP3
    clear htx3 hI3 ht3 hk3 hn3 hP3
    go_wp2_with fail
    go_ret
    have hk4:Keep (· =t) w5 (w5.setCell ⟨t,3,none⟩ (.bool true)):=(Keep.refl (· =t) _).setCell (p:=⟨t,3,none⟩) (.inr rfl) _
    obtain⟨tb',hL',hC'⟩:=Fa hL hA HC1.out HV2.out.1 HV2.out.2 HP3.out
    refine .inl ⟨rfl,σ3,S3,b3,tb',small,_,⟨?_,?_,HX3.out.2.1.ku hk4 (fun g hg e=>hns3 (e▸hg)),hns3,hst3⟩,hL',hC',?_,fun L r t0=> ?_,fun hc=> ?_⟩
    ·simp[World.setCell,aL,HX3.out.1]
     rfl
    ·exact(hk4.block tr (ah.1 HX3.out.2.2.1).1 (fun e=>hne e.symm)).trans HX3.out.2.2.1
    ·exact(HS4.out.trans (fG.tree HX3.out.2.2.2.1 HX3.out.2.2.2.2)).trans (fG.one hk4)
    ·obtain⟨_,_,_,hpk,_⟩:=HP3.out
     have hCC:=HC1.out.trans HV2.out.1
     have hsz:=hCC.size
     have hsz1:=HC1.out.size
     have hnl:=qi σ (jE hd rs)
     have hcc:=HCNT.out
     have hz:nh σ []=0:=rfl
     have hle:=HLEN.out
     rw[hcc.2.2] at r
     refine hpk L ?_ ?_
     ·unfold jZ
      rw[rO hCC.H,dK]
      omega
     ·have e1:=HTK2.out;have e2:value.data.toList.length=value.size:=(by show value.data.toList.length=value.data.size;simp);rw[e2,htk1] at e1;omega
    ·obtain⟨_,_,_,_,hft⟩:=HP3.out
     have h0:=Gi HC1.out htk1
     have h2:=hft (by rw[hA.is small value (jE hd rs),dK];exact hc)
     have e2:value.data.toList.length=value.size:=by show value.data.toList.length=value.data.size;simp
     have e1:=HTK2.out
     rw[e2] at e1
     have hcc:=HCNT.out
     have hs2:=HV2.out.1.size
     have hn1:=qi σ1 (jE hd rs)
     have hz:nh σ1 []=0:=rfl
     have hle:=HLEN.out
     have h1:vP σ1 σ2 (eU value):=⟨by omega,fun L r t=>by omega⟩
     exact((h0.trans h1).trans h2).more (by omega)
   ·refine Stop.on ?_
    have htx3:=(hk3.block t hlt4 (fun e=>e.elim HT.out.nt hne)).trans HT2.out.tx
    have hns3:¬S3 t:=fun e=>(hn3 t e).elim HT.out.nt (fun x=>absurd hlt4 (aY.2 x))
    have HSP:=af (CK t mp (some tr) ch 0 12 w5 htx3)
    have HX3:=af (ax htx3 (ax hI3 (ax ht3 (ax hk3 hn3))))
    have HLO:=af (ax hlost (ax hH3 hm3))
    clear htx3 hI3 ht3 hk3 hn3 hlost hH3 hm3
    go_wp2_with (first
     |(go_at_call 60;go_must (refine HSP.out.mono ?_;rintro e w6 ⟨rfl,h6,hk6⟩)))
    go_ret
    have hCC:=HC1.out.trans HV2.out.1
    refine .inr ⟨rfl,?_,σ3,S3,root,12,⟨h6,(hk6.block tr (ah.1 HX3.out.2.2.1).1 (fun e=>hne e.symm)).trans HX3.out.2.2.1,HX3.out.2.1.ku hk6 (fun g hg e=>hns3 (e▸hg)),hns3,hst3⟩,HLO.out.2.1.trans hCC.H,HLO.out.2.2.trans hCC.most,(HS4.out.trans (fG.tree HX3.out.2.2.2.1 HX3.out.2.2.2.2)).trans (fG.one hk6)⟩
    have hno3:=HLO.out.1
    have hsz:=hCC.size
    have hnl:=qi σ (jE hd rs)
    unfold Room at hno3
    rw[rO hCC.H,hCC.most,dK] at hno3
    have hcc:=HCNT.out
    have hle:=HLEN.out
    rw[hcc.2.2]
    omega
  ·refine Stop.on ?_
   have htx3:=(hs2.1.block t hlt2 HT.out.nt).trans HT2'.out.tx
   have HSP:=af (CK t mp (some tr) ch 0 12 w3 htx3)
   have htr3:=(hs2.1.block tr (ah.1 HT2'.out.tree).1 HT.out.ntr).trans HT2'.out.tree
   have HX3:=af (ax hI2 (ax hs2 (ax htr3 (ax hlow (ax hH2 hm2)))))
   clear htx3 hI2 hs2 hlow hH2 hm2 htr3
   go_wp2_with (first
    |(go_at_call 60;go_must (refine HSP.out.mono ?_;rintro e w6 ⟨rfl,h6,hk6⟩)))
   go_ret
   refine .inr ⟨rfl,?_,σ2,S,root,0,⟨h6,(hk6.block tr (ah.1 HX3.out.2.2.1).1 (fun e=>hne e.symm)).trans HX3.out.2.2.1,HX3.out.1.ku hk6 (fun g hg e=>HT.out.nt (e▸hg)),HT.out.nt,HT.out.ntr⟩,HX3.out.2.2.2.2.1.trans HC1.out.H,HX3.out.2.2.2.2.2.trans HC1.out.most,(HS2.out.trans (fG.of HX3.out.2.1)).trans (fG.one hk6)⟩
   have hlo:=HX3.out.2.2.2.1
   have hsz:=HC1.out.size
   have hmo:=HC1.out.most
   have hcc:=HCNT.out
   have e2:value.data.toList.length=value.size:=by show value.data.toList.length=value.data.size;simp
   rw[e2] at hlo
   rw[hcc.2.2]
   have:nh σ []=0:=rfl
   omega
def vX (kv:List Pr) (key:ByteArray) (most:Int):List Pr:=(kv.drop (bO kv key)).take most.toNat
theorem aP.set2 {w:World} {S:Nat→Prop} {B g n c:Nat} {ps:List Pr} (h:aP w S B 127 2 (.slice (some ⟨g,0,none⟩) n c) n (dw ps)) (i:Nat) (hi:i<n) (hn:ps.length=n) (u:ByteArray):
  aP (w.setCell ⟨g,i*2+1,none⟩ (.string u)) S B 127 2 (.slice (some ⟨g,0,none⟩) n c) n (dw (ps.set i (ps[i].1,u)))∧Keep (· =g) w (w.setCell ⟨g,i*2+1,none⟩ (.string u))∧w.frozen? ⟨g,i*2+1,none⟩=false∧g<w.heap.size∧B≤g:=by
 obtain⟨cur,hr,hl,hx,hBg,hSg,hc,hc2⟩:=h.row
 have hk5:Keep (· =g) w (w.setCell ⟨g,i*2+1,none⟩ (.string u)):=Keep.setCell (M:=(· =g)) (p:=⟨g,i*2+1,none⟩) (Keep.refl _ _) (.inr rfl) _
 have hr':Row (w.setCell ⟨g,i*2+1,none⟩ (.string u)) g 127 (cur.set (i*2+1) (.string u)):=by
  unfold Row at hr ⊢
  simp[World.setCell,aL,hr]
 refine⟨?_,hk5,hr.frozen _,hr.lt,hBg⟩
 have:=hr'.own (S:=S) (B:=B) (k:=2) (cap:=c) n (by simpa using hl) hBg hSg hc hc2
 rw[show (cur.set (i*2+1) (.string u)).take (n*2)=dw (ps.set i (ps[i].1,u)) from by rw[←yj _ _ i (by omega),←hx,←List.take_set]] at this
 exact this
def uL (es:List kU) (k:Nat):List Pr:=iC (es.take k)++gY (es.drop k)
theorem oq (es:List kU) (k:Nat):(uL es k).length=es.length:=by
 unfold uL
 rw[av,gZ,dK,aD,aN];omega
theorem Jo (es:List kU) (k:Nat) (h:k<es.length):(uL es k)[k]'(by rw[oq];exact h)=(es[k].k,es[k].s):=by
 unfold uL
 have hl:(iC (es.take k)).length=k:=by rw[gZ,aD];omega
 rw[List.getElem_append_right (by omega)]
 simp[gY,hl]
theorem MF (es:List kU) (k:Nat) (h:k<es.length):(uL es k).set k (es[k].k,es[k].v)=uL es (k+1):=by
 unfold uL
 have hl:(iC (es.take k)).length=k:=by rw[gZ,aD];omega
 have e:gY (es.drop k)=(es[k].k,es[k].s)::gY (es.drop (k+1)):=by rw[bZ h];rfl
 rw[iA _ _ (by omega),hl,rQ,e,au,aK h,lX]
 simp[iC]
theorem MG (es:List kU):uL es es.length=iC es:=by unfold uL;simp[gY]
theorem Ko (es:List kU):uL es 0=gY es:=by unfold uL;simp[iC]
theorem J7 (es:List kU) (key:ByteArray) (most:Int):∃xs:List kU,(∀e∈xs,e∈es)∧((gY es).drop (bO (gY es) key)).take most.toNat=gY xs∧vX (iC es) key most=iC xs:=by
 refine⟨(es.drop (rU es key)).take most.toNat,fun e he=>bR (fD he),?_,?_⟩
 ·show ((gY es).drop (bO (gY es) key)).take most.toNat=_
  unfold gY
  rw[Dl (fun e=>(e.k,e.s)) (fun _=>rfl),iL,gM]
 ·unfold vX iC
  rw[Dl (fun e=>(e.k,e.v)) (fun _=>rfl),iL,gM]
theorem QC (t tr:Nat) (mp:VS) (root:Int) (ch:Bool) (σ:bP) (S:Nat→Prop) (w:World) (es:List kU) (tb:List Int) (key:ByteArray) (most:Int) (hT:xV w S t tr mp σ root 0 ch 0) (hL:Live σ root es tb) (hl:es.length≤4090):
  Calls Tryz.prog 20 #[.pointer (some ⟨t,0,none⟩),.string key,.int .i64 most] w fun e w'=>∃v,e= .returned (.tuple #[v,.int .i64 0])∧aP w' S w.heap.size 127 2 v (vX (iC es) key most).length (dw (vX (iC es) key most))∧Below w.heap.size w w':=by
 have HU:=af (mJ t mp tr ch 0 ⟨#[107]⟩ w hT.tx)
 have hu:gH 0 (⟨#[107]⟩:ByteArray)=0:=by decide
 rw[hu] at HU
 obtain⟨xs,hx1,hx2,hx3⟩:=J7 es key most
 have HS:=BR tr mp root σ S (gY es) tb key most w hT.inv hT.tree hL.tree (by rw[dK];exact hl)
 have hx2:((gY es).drop (bO (gY es) key)).take most.toNat=gY xs:=hx2
 rw[hx2] at HS
 have HS:=af HS
 have HXS:=af (ax hx1 hx3)
 have c2:w.cell? ⟨t,2,none⟩=some (.pointer (some ⟨tr,0,none⟩)):=by simp[World.cell?,hT.tx,bS]
 have hlt:=(ah.1 hT.tx).1
 have HT:=af hT
 rw[hx3,gZ]
 obtain⟨n,hn⟩:∃n,n=xs.length:=⟨_,rfl⟩
 have HN:=af hn
 rw[dK,←hn] at HS
 rw[←hn]
 clear hT hu hx1 hx2 hx3 hn
 go_enter Tryz.func20,Tryz.ntmps20
 go_wp2_with (first
  |(go_at_call 58;go_must (refine HU.out.mono ?_;rintro e w1 ⟨hw1,rfl⟩;subst w1))
  |(go_at_call 70;go_must (refine HS.out.mono ?_;rintro e w1 ⟨v,rfl,hown1,hb1⟩;refine Stop.of ?_)))
 refine Stop.on ?_
 obtain⟨ao,cp,rfl,_,_,_,_⟩:=aX.form hown1.cK
 rw[←Ko] at hown1
 have HO1:=af hown1;have HB1:=af hb1
 clear hown1 hb1
 go_wp2_with fail
 go_loopw [10,11,12,35] (fun e _ _ i wr=>∃k:Nat,k≤n∧e= .int .i64 0∧i= .int .i64 k∧aP wr S w.heap.size 127 2 (.slice ao n cp) n (dw (uL xs k))∧Below w.heap.size w wr) (fun _ _ _ i _=>n - (intOf i).toNat)
 case atStart=>exact⟨0,aU _,rfl,rfl,HO1.out,HB1.out⟩
 case round=>
  obtain⟨k,hk,rfl,rfl,hok,hbk⟩:=hrel
  by_cases hkn:k<n
  ·have y1:(k:Int)<(n:Int):=by omega
   obtain⟨g,c,e,hc1,hc2,hg1,hg2⟩:=hok.wO (by omega)
   cases e
   have hkx:k<xs.length:=by rw[←HN.out];exact hkn
   have hP:iY wr S (.slice (some ⟨g,0,none⟩) n cp) (uL xs k):=by
    have:=hok.cK
    unfold iY
    rw[oq,←HN.out];exact this
   obtain⟨pb,po,e1,d0,d1⟩:=hP.at rfl k (by rw[oq];exact hkx)
   cases e1
   rw[Jo xs k hkx] at d0 d1
   rw[dN] at d0 d1
   obtain⟨E,hE⟩:∃E,Hid (xs[k]=E):=⟨_,af rfl⟩
   rw[hE.out] at d0 d1
   have hmem:E∈es:=HXS.out.1 E (by rw[←hE.out];exact bg hkx)
   have HV:=af (hL.val E hmem)
   have hTk:=HT.out.below hbk
   have HOK:=af hok;have HBK:=af hbk;have HTK:=af hTk
   have htk:=(ah.1 hTk.tx).1
   clear hok hbk hTk hP
   go_wp2_with (first
    |(go_at_call 68;go_must (refine(LA t mp (some tr) ch 0 σ S _ E.s E.v E.b (((aI wr (.cells #[.string E.k,.string E.s] 127)).block t htk).trans HTK.out.tx) (HTK.out.inv.below (aI wr (.cells #[.string E.k,.string E.s] 127))) HV.out).mono ?_;rintro e w5 ⟨hb5,rfl⟩;refine Stop.of ?_)))
   refine Stop.on ?_
   have hbw5:Below wr.heap.size wr w5:=(aI wr (.cells #[.string E.k,.string E.s] 127)).trans (hb5.mono (by simp))
   have hO5:=HOK.out.below hbw5
   obtain⟨u1,u2,u3,u4,u5⟩:=hO5.set2 k hkn (by rw[oq,←HN.out]) E.v
   have u0:w5.cell? ⟨g,k*2+1,none⟩=some (.string E.s):=(hbw5.cell (p:=⟨g,k*2+1,none⟩) hg2).trans d1
   have hms:(uL xs k).set k (((uL xs k)[k]'(by rw[oq];exact hkx)).1,E.v)=uL xs (k+1):=by
    rw[Jo xs k hkx,←hE.out]
    exact MF xs k hkx
   rw[hms] at u1
   have hbs:Below w.heap.size w (w5.setCell ⟨g,k*2+1,none⟩ (.string E.v)):=(HBK.out.trans (hbw5.mono HBK.out.size)).setCell (by simpa using u5) _
   have HU1:=af (ax u1 hbs)
   clear u1 u2 hO5 hbw5 hb5 hms hbs
   go_wp2_with fail
   go_roundw
   case rel=>exact⟨k+1,by omega,rfl,by go_num,HU1.out.1,HU1.out.2⟩
   case measure=>simp[intOf];omega
  ·obtain rfl:k=n:=by omega
   have y1:¬(k:Int)<(k:Int):=by omega
   rw[HN.out,MG] at hok
   go_wp2_with fail
   go_ret2
   exact⟨_,rfl,by rw[HN.out];exact hok,hbk⟩
theorem Eo (t tr:Nat) (mp:VS) (ch:Bool) (er:Int) (σ:bP) (S:Nat→Prop) (u:FrameMode) (w:World) (h:w.heap[t]? =some (.cells (bS mp (some tr) ch er) 118 (0,0))) (hI:Inv σ S mp w) (hns:¬S t):
  CallsD Tryz.prog 32 #[.pointer (some ⟨t,0,none⟩)] u w fun e u' w'=>u'=u∧e= .returned (.tuple #[])∧(∃Sp,iy w' Sp mp.pg mp.d σ.H.dk σ.H.lg σ.H.pg (.pointer none)∧∀g,Sp g→S g)∧w'.heap[t]? =some (.cells (bS mp none ch er) 118 (0,0))∧Keep (fun g=>S g∨g=t) w w':=by
 obtain⟨Sp,T,hI,hS⟩:=hI
 have c0:w.cell? ⟨t,0,none⟩=some (.pointer (some ⟨mp.tx,0,none⟩)):=by simp[World.cell?,h,bS]
 have c2:w.cell? ⟨t,2,none⟩=some (.pointer (some ⟨tr,0,none⟩)):=by simp[World.cell?,h,bS]
 have hlt:=(ah.1 h).1
 have HT:=af (LV mp.tx mp.pg mp.d _ _ _ _ _ _ Sp T w hI.pg hI.tx hI.dis)
 have HH:=af h
 have HS:=af hS
 have hn1:¬Sp t:=fun x=>hns ((hS t).2 (.inl x))
 have hn2:¬T t:=fun x=>hns ((hS t).2 (.inr (.inl x)))
 clear h hI hS
 go_enter_d Tryz.func32,Tryz.ntmps32
 go_wp2_with (first
  |(go_at_call 55;go_must (refine HT.out.mono ?_;rintro e w2 ⟨rfl,hp2,_,hk2⟩;refine Stop.of ?_)))
 refine Stop.on ?_
 have h2:=(hk2.block t hlt (fun e=>e.elim hn1 hn2)).trans HH.out
 have hlt2:=(ah.1 h2).1
 have d2:w2.cell? ⟨t,2,none⟩=some (.pointer (some ⟨tr,0,none⟩)):=by simp[World.cell?,h2,bS]
 have f2:w2.frozen? ⟨t,2,none⟩=false:=by simp[World.frozen?,h2]
 have HH2:=af h2
 clear h2
 go_wp2_with fail
 go_end0
 have hk3:Keep (· =t) w2 (w2.setCell ⟨t,2,none⟩ (.pointer none)):=(Keep.refl (· =t) _).setCell (p:=⟨t,2,none⟩) (.inr rfl) _
 refine⟨rfl,⟨Sp,hp2.keep hk3 (fun g hg e=>hn1 (e▸hg)),fun g hg=>(HS.out g).2 (.inl hg)⟩,?_,?_⟩
 ·simp[World.setCell,aL,HH2.out]
  rfl
 ·exact(hk2.mono (fun g _ e=> .inl ((HS.out g).2 (e.imp id .inl)))).trans (hk3.mono (fun g _ e=> .inr e)) (fun _ _ e=>e)
theorem oQ (t tr:Nat) (mp:VS) (ch:Bool) (er:Int) (u:FrameMode) (w:World) (h:w.heap[t]? =some (.cells (bS mp (some tr) ch er) 118 (0,0))) (hE:Gm w mp.tx):
  CallsD Tryz.prog 32 #[.pointer (some ⟨t,0,none⟩)] u w fun e u' w'=>u'=u∧e= .returned (.tuple #[])∧w'.heap[t]? =some (.cells (bS mp none ch er) 118 (0,0))∧Keep (· =t) w w':=by
 have c0:w.cell? ⟨t,0,none⟩=some (.pointer (some ⟨mp.tx,0,none⟩)):=by simp[World.cell?,h,bS]
 have c2:w.cell? ⟨t,2,none⟩=some (.pointer (some ⟨tr,0,none⟩)):=by simp[World.cell?,h,bS]
 have f2:w.frozen? ⟨t,2,none⟩=false:=by simp[World.frozen?,h]
 have hlt:=(ah.1 h).1
 have HT:=af (GI mp.tx w hE)
 have HH:=af h
 clear h hE
 go_enter_d Tryz.func32,Tryz.ntmps32
 go_wp2_with (first
  |(go_at_call 55;go_must (refine HT.out.mono ?_;rintro e w2 ⟨rfl,hw2⟩;subst w2)))
 go_end0
 refine⟨rfl,?_,(Keep.refl (· =t) _).setCell (p:=⟨t,2,none⟩) (.inr rfl) _⟩
 simp[World.setCell,aL,HH.out]
 rfl
theorem sZ (f:Nat→Bool):(bytesOf f).length=512:=by
 have:=fP f
 rwa [bq] at this
theorem PY (mp:VS) (σ:bP) (S:Nat→Prop) (w:World) (h:Inv σ S mp w):
  Calls Tryz.prog 65 #[.pointer (some ⟨mp.mp,0,none⟩),.iface 97 (.pointer (some ⟨mp.tx,0,none⟩))] w fun e w'=>e= .returned (.int .i64 0)∧Inv (σ.wrote 0 (bytesOf σ.now)) S mp w'∧Step S S w w':=by
 obtain⟨Sp,T,h,hS⟩:=h
 have hm:=h.ok.most
 have h2:=h.ok.two
 have htx:=h.tx
 rw[hm] at htx
 refine(Oa mp.tx mp.pg mp.d mp.mp σ.most σ.now σ.H.old σ.H.dk σ.H.lg σ.H.pg _ σ.im Sp T w h.pg htx h.ok.live (by omega) h.map).mono ?_
 rintro e w' ⟨rfl,ht,hs⟩
 rw[←hm] at ht
 exact⟨rfl,⟨Sp,T,⟨h.ok.wrote 0 (bytesOf σ.now) (sZ _) (by omega) (.inl (by omega)),h.pg.keep hs.1 (fun g hg e=>h.dis g hg e),ht,h.map.keep (hs.1.block _ h.map.lt h.mpT),h.dis,h.mpS,h.mpT⟩,hS⟩,hs.1.mono (fun g _ e=>(hS g).2 (.inr (.inl e))),fun g hg=> .inl hg⟩
theorem Jp (mp:VS) (σ:bP) (S:Nat→Prop) (w:World) (h:Inv σ S mp w) (hld:σ.H.lg.dead=false) (hcap:σ.H.dk.waits.length≤90000) (hll:σ.H.lg.last<1000000000000):
  Calls Tryz.prog 52 #[.pointer (some ⟨mp.tx,0,none⟩)] w fun e w'=>e= .returned (.tuple #[.int .i64 (σ.H.pg.commit σ.H.dk σ.H.lg σ.im).2.2.2.1,.int .i64 (σ.H.pg.commit σ.H.dk σ.H.lg σ.im).2.2.2.2])∧
   ∃S',iy w' S' mp.pg mp.d (σ.H.pg.commit σ.H.dk σ.H.lg σ.im).1 (σ.H.pg.commit σ.H.dk σ.H.lg σ.im).2.1 (σ.H.pg.commit σ.H.dk σ.H.lg σ.im).2.2.1 (.pointer none)∧Gm w' mp.tx∧Step S S' w w':=by
 obtain⟨Sp,T,h,hS⟩:=h
 have hm:=h.ok.most
 have htx:=h.tx
 rw[hm] at htx
 refine(Jj mp.tx mp.pg mp.d σ.H.dk σ.H.lg σ.H.pg _ σ.im Sp T w h.pg htx h.dis h.ok.live hld hcap hll).mono ?_
 rintro e w' ⟨rfl,S',hp,hE,hs⟩
 refine⟨rfl,S',hp,hE,hs.1.mono (fun g _ e=>(hS g).2 (e.imp id .inl)),fun g hg=> ?_⟩
 exact(hs.2 g (.inl hg)).imp (fun e=>(hS g).2 (e.imp id .inl)) id
def pV (t:Nat) (mp:VS) (S:Nat→Prop) (σ:bP) (ch:Bool) (im:Im) (w:World) (e:Ending) (w':World):Prop:=
 e= .returned (.tuple (if (σ.H.pg.commit σ.H.dk σ.H.lg im).2.2.2.2=0 then #[.int .i64 (((σ.H.pg.commit σ.H.dk σ.H.lg im).2.2.2.1:Int) - 1),.int .i64 0] else #[.int .i64 0,.int .i64 (σ.H.pg.commit σ.H.dk σ.H.lg im).2.2.2.2]))∧
 ∃S',iy w' S' mp.pg mp.d (σ.H.pg.commit σ.H.dk σ.H.lg im).1 (σ.H.pg.commit σ.H.dk σ.H.lg im).2.1 (σ.H.pg.commit σ.H.dk σ.H.lg im).2.2.1 (.pointer none)∧w'.heap[t]? =some (.cells (bS mp none ch 0) 118 (0,0))∧¬S' t∧Keep (fun g=>S g∨g=t) w w'∧∀g,S' g→S g∨w.heap.size≤g
theorem CR (t tr:Nat) (mp:VS) (root:Int) (σ:bP) (S:Nat→Prop) (w:World) (hT:xV w S t tr mp σ root 0 false 0) (hld:σ.H.lg.dead=false) (hcap:σ.H.dk.waits.length≤90000) (hll:σ.H.lg.last<1000000000000) (hk:(σ.H.pg.commit σ.H.dk σ.H.lg σ.im).2.2.2.1≤1000000000000):
  Calls Tryz.prog 15 #[.pointer (some ⟨t,0,none⟩)] w (pV t mp S σ false σ.im w):=by
 have HU:=af (mJ t mp tr false 0 ⟨#[107]⟩ w hT.tx)
 have hu:gH 0 (⟨#[107]⟩:ByteArray)=0:=by decide
 rw[hu] at HU
 have HC:=Jp mp σ S w hT.inv hld hcap hll
 unfold pV
 generalize hcm:σ.H.pg.commit σ.H.dk σ.H.lg σ.im=R at HC hk ⊢
 obtain⟨σ',l',p',k,q⟩:=R
 dsimp only at HC hk ⊢
 have HC:=af HC
 have c0:w.cell? ⟨t,0,none⟩=some (.pointer (some ⟨mp.tx,0,none⟩)):=by simp[World.cell?,hT.tx,bS]
 have c3:w.cell? ⟨t,3,none⟩=some (.bool false):=by simp[World.cell?,hT.tx,bS]
 have hlt:=(ah.1 hT.tx).1
 have q1:IntKind.i64.wrap ((k:Int) - 1)=(k:Int) - 1:=aF _ (by omega)
 have HT:=af hT
 clear hT hu hcm
 by_cases hq:q=0
 ·subst hq
  go_enter_defers Tryz.func15,Tryz.ntmps15
  go_wp2_with (first
   |(go_at_call 58;go_must (refine HU.out.mono ?_;rintro e w1 ⟨hw1,rfl⟩;subst w1))
   |(go_at_call 52;go_must (refine HC.out.mono ?_;rintro e w1 ⟨rfl,S1,hp1,hE1,hs1⟩)))
  have htx1:=(hs1.1.block t hlt HT.out.nt).trans HT.out.tx
  have hn1:¬S1 t:=fun e=>(hs1.2 t e).elim HT.out.nt (fun x=>absurd hlt (aY.2 x))
  refine iD (f:=32) (args:=#[.pointer (some ⟨t,0,none⟩)]) (by simp) (by simp[go_sem]) ?_
  refine(oQ t tr mp false 0 _ _ htx1 hE1).mono ?_
  rintro e u' w2 ⟨rfl,rfl,h2,hk2⟩
  exact⟨_,by simp[results,Tryz.results15,go_sem],rfl,S1,hp1.keep hk2 (fun g hg e=>hn1 (e▸hg)),h2,hn1,(hs1.1.mono (fun g _ e=> .inl e)).trans (hk2.mono (fun g _ e=> .inr e)) (fun _ _ e=>e),hs1.2⟩
 ·have hq':(q !=0)=true:=by simpa using hq
  go_enter_defers Tryz.func15,Tryz.ntmps15
  go_wp2_with (first
   |(go_at_call 58;go_must (refine HU.out.mono ?_;rintro e w1 ⟨hw1,rfl⟩;subst w1))
   |(go_at_call 52;go_must (refine HC.out.mono ?_;rintro e w1 ⟨rfl,S1,hp1,hE1,hs1⟩)))
  have htx1:=(hs1.1.block t hlt HT.out.nt).trans HT.out.tx
  have hn1:¬S1 t:=fun e=>(hs1.2 t e).elim HT.out.nt (fun x=>absurd hlt (aY.2 x))
  refine iD (f:=32) (args:=#[.pointer (some ⟨t,0,none⟩)]) (by simp) (by simp[go_sem]) ?_
  refine(oQ t tr mp false 0 _ _ htx1 hE1).mono ?_
  rintro e u' w2 ⟨rfl,rfl,h2,hk2⟩
  exact⟨.tuple #[.int .i64 0,.int .i64 q],by simp[results,Tryz.results15,go_sem],rfl,S1,hp1.keep hk2 (fun g hg e=>hn1 (e▸hg)),h2,hn1,(hs1.1.mono (fun g _ e=> .inl e)).trans (hk2.mono (fun g _ e=> .inr e)) (fun _ _ e=>e),hs1.2⟩
theorem xY {R:Ending→World→Prop} {d:Nat} (h2:d≠2) (h3:d≠3) {c:List PanicEntry} {a:Act} {v:Value} {w:World} (h:bodyPostD Tryz.prog Tryz.f15 R (.panic c) (a.put (some d) v) w):bodyPostD Tryz.prog Tryz.f15 R (.panic c) a w:=by
 refine ql ?_ _ _ _ (show Leaves Tryz.prog Tryz.f15 (a.tmps.setIfInBounds d v) R a.defers (.panicking c) w from h)
 unfold results
 rw[Tryz.results15]
 simp[Array.getD_eq_getD_getElem?,Rh,h2,h3]
def nG (root:Nat):List UInt8:=[UInt8.ofNat root,UInt8.ofNat (root/256)]
theorem G9 (root:Nat) (hb:root<65536) (w:World):ji (w.alloc (.cells #[.int .u8 ((root:Int)%256),.int .u8 ((root:Int)/256)] 5)) gL (.slice (some ⟨w.heap.size,0,none⟩) 2 2) (nG root):=by
 have he:[Value.int .u8 ((root:Int)%256),.int .u8 ((root:Int)/256)]=aG (nG root):=by
  simp[nG,aG,d9]
  omega
 have hr:Row (w.alloc (.cells #[.int .u8 ((root:Int)%256),.int .u8 ((root:Int)/256)] 5)) w.heap.size 5 (aG (nG root)):=by
  rw[←he];exact Row.new w _ _
 have:=hr.cK (S:=gL) (k:=1) (off:=0) 2 2 (by simp[aG,nG]) id (aC _) (by simp[maxLen])
 rw[eu,aJ (by simp[aG,nG])] at this
 exact this
def bP.sealed (σ:bP) (root:Nat):bP:=(σ.wrote 1 (pad (nG root))).wrote 0 (bytesOf σ.now)
theorem CQ (t tr:Nat) (mp:VS) (root:Nat) (σ:bP) (S:Nat→Prop) (w:World) (hT:xV w S t tr mp σ root 0 true 0) (hr:root≤4096) (hld:σ.H.lg.dead=false) (hcap:σ.H.dk.waits.length≤90000) (hll:σ.H.lg.last<1000000000000) (hk:(σ.H.pg.commit σ.H.dk σ.H.lg (σ.sealed root).im).2.2.2.1≤1000000000000):
  Calls Tryz.prog 15 #[.pointer (some ⟨t,0,none⟩)] w (pV t mp S σ true (σ.sealed root).im w):=by
 have HU:=af (mJ t mp tr true 0 ⟨#[107]⟩ w hT.tx)
 have hu:gH 0 (⟨#[107]⟩:ByteArray)=0:=by decide
 rw[hu] at HU
 have HR:=af (OJ tr mp root 0 w hT.tree)
 have hb1:=aI w (.cells #[.int .u8 ((root:Int)%256),.int .u8 ((root:Int)/256)] 5)
 have h2:=hT.inv.ok.two
 have HW:=af (tZ mp σ S _ 1 _ (nG root) (hT.inv.below hb1) (by omega) (G9 root (by omega) w) (by simp[nG]) (.inl (by omega)))
 have HB1:=af hb1
 have q0:IntKind.i64.wrap ((root:Int)/256)=(root:Int)/256:=aF _ (by omega)
 have c0:w.cell? ⟨t,0,none⟩=some (.pointer (some ⟨mp.tx,0,none⟩)):=by simp[World.cell?,hT.tx,bS]
 have c2:w.cell? ⟨t,2,none⟩=some (.pointer (some ⟨tr,0,none⟩)):=by simp[World.cell?,hT.tx,bS]
 have c3:w.cell? ⟨t,3,none⟩=some (.bool true):=by simp[World.cell?,hT.tx,bS]
 have hlt:=(ah.1 hT.tx).1
 have HT:=af hT
 clear hT hu hb1
 go_enter_defers Tryz.func15,Tryz.ntmps15
 go_wp2_with (first
  |(go_at_call 58;go_must (refine HU.out.mono ?_;rintro e w1 ⟨hw1,rfl⟩;subst w1))
  |(go_at_call 63;go_must (refine HR.out.mono ?_;rintro e w1 ⟨rfl,hw1⟩;subst w1))
  |(go_at_call 64;go_must (refine HW.out.mono ?_;rintro e w1 ⟨rfl,hI1,hs1⟩;refine Stop.of ?_)))
 refine Stop.on ?_
 have hbs:Step S S w w1:=(Step.of_below HB1.out).trans hs1
 have htx1:=(hbs.1.block t hlt HT.out.nt).trans HT.out.tx
 have hlt1:=(ah.1 htx1).1
 have d0:w1.cell? ⟨t,0,none⟩=some (.pointer (some ⟨mp.tx,0,none⟩)):=by simp[World.cell?,htx1,bS]
 have d1:w1.cell? ⟨t,1,none⟩=some (.pointer (some ⟨mp.mp,0,none⟩)):=by simp[World.cell?,htx1,bS]
 have HST:=PY mp (σ.wrote 1 (pad (nG root))) S w1.drew (hI1.below ((aR _ w1).drew))
 have hse:(σ.wrote 1 (pad (nG root))).wrote 0 (bytesOf (σ.wrote 1 (pad (nG root))).now)=σ.sealed root:=rfl
 rw[hse] at HST
 have HST:=af HST
 have HX1:=af (ax htx1 hbs)
 clear htx1 hbs hse hI1 hs1
 go_upto_region 11 with (fail)
 refine aO (fun W=>W.cell? ⟨t,0,none⟩=some (.pointer (some ⟨mp.tx,0,none⟩))∧W.cell? ⟨t,1,none⟩=some (.pointer (some ⟨mp.mp,0,none⟩))∧t<W.heap.size) (fun i=> !([11].contains i)) [0,1,2,3,4,5,6,7,8,9,10,11,12] rfl (by kernel_rfl) ⟨d0,d1,hlt1⟩ ?_
 repeat ((refine bG (v:= ?_) rfl rfl ?_ rfl (fun W hW=> ?_) ?_);rotate_left;(focus (exact fun c a w h=>xY (by decide) (by decide) h));(focus ((try dsimp only at hW);obtain⟨a0,a1,a2⟩:=hW;(go_simp;first|done|with_reducible rfl)));(try simp only[Act.put,ai,au,aj]))
 refine dz rfl rfl rfl ?_;intro K hK;go_simp
 refine HST.out.mono ?_;rintro e w2 ⟨rfl,hI2,hs2⟩
 have htx2:=(hs2.1.block t hlt1 HT.out.nt).trans HX1.out.1
 have hlt2:=(ah.1 htx2).1
 have g0:w2.cell? ⟨t,0,none⟩=some (.pointer (some ⟨mp.tx,0,none⟩)):=by simp[World.cell?,htx2,bS]
 have g1:w2.cell? ⟨t,1,none⟩=some (.pointer (some ⟨mp.mp,0,none⟩)):=by simp[World.cell?,htx2,bS]
 refine hK.out _ _ ⟨g0,g1,hlt2⟩ ?_
 (try simp only[Act.put,ai,au,aj])
 repeat ((refine bG (v:= ?_) rfl rfl ?_ rfl (fun W hW=> ?_) ?_);rotate_left;(focus (exact fun c a w h=>xY (by decide) (by decide) h));(focus ((try dsimp only at hW);obtain⟨a0,a1,a2⟩:=hW;(go_simp;first|done|with_reducible rfl)));(try simp only[Act.put,ai,au,aj]))
 refine bK ?_
 have HC:=Jp mp (σ.sealed root) S w2 hI2 hld hcap hll
 have hH:(σ.sealed root).H=σ.H:=rfl
 rw[hH] at HC
 obtain⟨R,hcm⟩:∃R,σ.H.pg.commit σ.H.dk σ.H.lg (σ.sealed root).im=R:=⟨_,rfl⟩
 obtain⟨σ',l',p',k,q⟩:=R
 rw[hcm] at HC hk
 have HCM:=af hcm
 dsimp only at HC hk
 have HC:=af HC
 have q1:IntKind.i64.wrap ((k:Int) - 1)=(k:Int) - 1:=aF _ (by omega)
 have HX2:=af (ax htx2 (HX1.out.2.trans (((Step.of_below ((aR _ w1).drew)):Step S S w1 w1.drew).trans hs2)))
 clear hcm hH hI2 hs2 htx2
 by_cases hq:q=0
 ·subst hq
  go_wp2_with (first
   |(go_at_call 52;go_must (refine HC.out.mono ?_;rintro e w3 ⟨rfl,S1,hp1,hE1,hs3⟩)))
  have htx3:=(hs3.1.block t hlt2 HT.out.nt).trans HX2.out.1
  have hn1:¬S1 t:=fun e=>(hs3.2 t e).elim HT.out.nt (fun x=>absurd hlt2 (aY.2 x))
  refine iD (f:=32) (args:=#[.pointer (some ⟨t,0,none⟩)]) (by simp) (by simp[go_sem]) ?_
  refine(oQ t tr mp true 0 _ _ htx3 hE1).mono ?_
  rintro e u' w4 ⟨rfl,rfl,h4,hk4⟩
  have hst:=HX2.out.2.trans hs3
  refine⟨.tuple #[.int .i64 ((k:Int) - 1),.int .i64 0],by simp[results,Tryz.results15,go_sem],?_⟩
  unfold pV
  rw[HCM.out]
  exact⟨rfl,S1,hp1.keep hk4 (fun g hg e=>hn1 (e▸hg)),h4,hn1,(hst.1.mono (fun g _ e=> .inl e)).trans (hk4.mono (fun g _ e=> .inr e)) (fun _ _ e=>e),hst.2⟩
 ·have hq':(q !=0)=true:=by simpa using hq
  go_wp2_with (first
   |(go_at_call 52;go_must (refine HC.out.mono ?_;rintro e w3 ⟨rfl,S1,hp1,hE1,hs3⟩)))
  have htx3:=(hs3.1.block t hlt2 HT.out.nt).trans HX2.out.1
  have hn1:¬S1 t:=fun e=>(hs3.2 t e).elim HT.out.nt (fun x=>absurd hlt2 (aY.2 x))
  refine iD (f:=32) (args:=#[.pointer (some ⟨t,0,none⟩)]) (by simp) (by simp[go_sem]) ?_
  refine(oQ t tr mp true 0 _ _ htx3 hE1).mono ?_
  rintro e u' w4 ⟨rfl,rfl,h4,hk4⟩
  have hst:=HX2.out.2.trans hs3
  refine⟨.tuple #[.int .i64 0,.int .i64 q],by simp[results,Tryz.results15,go_sem],?_⟩
  unfold pV
  rw[HCM.out]
  exact⟨by dsimp only;rw[if_neg hq],S1,hp1.keep hk4 (fun g hg e=>hn1 (e▸hg)),h4,hn1,(hst.1.mono (fun g _ e=> .inl e)).trans (hk4.mono (fun g _ e=> .inr e)) (fun _ _ e=>e),hst.2⟩
end Go.Proofs.YtfgpefcphnpabaaGreat
