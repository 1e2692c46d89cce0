/- parts -/
import Derived.Test.YtogbkgmlhhahdaaGreatP25
set_option maxRecDepth 100000
set_option maxHeartbeats 8000000
set_option linter.all false
namespace Go.Proofs.YtogbkgmlhhahdaaGreat
open Go.RowKit
structure Dr (w:World)(S:Nat->Prop)(v pg d:Nat)(σ:Dk)(l:Lg)(p:Pg)(f:Nat->Bool)(root:Nat)(es:List nU)(tb:List Int):Prop where
 obj:w.heap[v]? =some (.cells #[.pointer (some ⟨pg,0,none⟩)] 88 (0,0))
 nv:¬S v
 pgr:je w S pg d σ l p (.pointer none)
 vi:VI σ l p
 base:BN σ l p f root
 live:Live (cK.start σ l p f) root es tb
structure RL (σ:cK)(root:Nat)(es:List nU)(tb:List Int):Prop where
 vi:VI σ.H.dk σ.H.lg σ.H.pg
 base:BN σ.H.dk σ.H.lg σ.H.pg σ.H.old root
 live:Live (cK.start σ.H.dk σ.H.lg σ.H.pg σ.H.old) root es tb
structure BH (w:World)(S:Nat->Prop)(v t tr:Nat)(mp:VS)(σ:cK)(root:Int)(es:List nU)(tb:List Int)(ch:Bool)(root0:Nat)(es0:List nU)(tb0:List Int):Prop where
 obj:w.heap[v]? =some (.cells #[.pointer (some ⟨mp.pg,0,none⟩)] 88 (0,0))
 nv:¬S v
 tx:Dt w S t tr mp σ root 0 ch 0
 live:Live σ root es tb
 bas:RL σ root0 es0 tb0
 ch:ch=false->σ=cK.start σ.H.dk σ.H.lg σ.H.pg σ.H.old/\es=es0
structure RH (w:World)(S:Nat->Prop)(v t tr:Nat)(mp:VS)(σ:cK)(ch:Bool)(root0:Nat)(es0:List nU)(tb0:List Int):Prop where
 obj:w.heap[v]? =some (.cells #[.pointer (some ⟨mp.pg,0,none⟩)] 88 (0,0))
 nv:¬S v
 tx:∃root err,Dt w S t tr mp σ root err ch 12
 bas:RL σ root0 es0 tb0
theorem P9 {w:World}{v t pg:Nat}{mp:VS}{tr:Option Nat}{ch:Bool}{er:Int}(h:w.heap[v]? =some (.cells #[.pointer (some ⟨pg,0,none⟩)] 88 (0,0)))(ht:w.heap[t]? =some (.cells (dM mp tr ch er) 100 (0,0))):v≠t:=by
 rintro rfl
 rw[h] at ht
 injection ht with ht
 injection ht with _ h2
 exact absurd h2 (by decide)
theorem Ot {w:World}{v t pg:Nat}{mp:VS}{root err:Int}(h:w.heap[v]? =some (.cells #[.pointer (some ⟨pg,0,none⟩)] 88 (0,0)))(ht:di w t mp root err):v≠t:=by
 rintro rfl
 unfold di at ht
 rw[h] at ht
 injection ht with ht
 injection ht with _ h2
 exact absurd h2 (by decide)
theorem BH.D8 {w w':World}{S S':Nat->Prop}{v t tr:Nat}{mp:VS}(h:w.heap[v]? =some (.cells #[.pointer (some ⟨mp.pg,0,none⟩)] 88 (0,0)))(hn:¬S v){ch:Bool}{er root err:Int}(htx:w.heap[t]? =some (.cells (dM mp (some tr) ch er) 100 (0,0)))(htr:di w tr mp root err)(hs:iX S S' t tr w w'):
  w'.heap[v]? =some (.cells #[.pointer (some ⟨mp.pg,0,none⟩)] 88 (0,0))/\¬S' v:=by
 have hl:=(aj.1 h).1
 refine⟨(hs.1.block v hl (fun e=> ?_)).trans h,fun e=>(hs.2 v e).elim hn (fun x=>absurd hl (bn.2 x))⟩
 rcases e with e|e|e
 ·exact hn e
 ·exact P9 h htx e
 ·exact Ot h htr e
theorem Dr.below {w w':World}{S:Nat->Prop}{v pg d:Nat}{σ:Dk}{l:Lg}{p:Pg}{f:Nat->Bool}{root:Nat}{es:List nU}{tb:List Int}(h:Dr w S v pg d σ l p f root es tb)(hb:Below w.heap.size w w'):Dr w' S v pg d σ l p f root es tb:=
 ⟨(hb.block v (aj.1 h.obj).1).trans h.obj,h.nv,h.pgr.below hb,h.vi,h.base,h.live⟩
theorem Dr.step {w w':World}{S S':Nat->Prop}{v pg d:Nat}{σ:Dk}{l:Lg}{p:Pg}{f:Nat->Bool}{root:Nat}{es:List nU}{tb:List Int}(h:Dr w S v pg d σ l p f root es tb){σ':Dk}{l':Lg}{p':Pg}(hp:je w' S' pg d σ' l' p' (.pointer none))(hs:Step S S' w w')(hv:VI σ' l' p')(hb:BN σ' l' p' f root)(hl:Live (cK.start σ' l' p' f) root es tb):Dr w' S' v pg d σ' l' p' f root es tb:=by
 have hlt:=(aj.1 h.obj).1
 exact⟨(hs.1.block v hlt h.nv).trans h.obj,fun e=>(hs.2 v e).elim h.nv (fun x=>absurd hlt (bn.2 x)),hp,hv,hb,hl⟩
theorem BH.below {w w':World}{S:Nat->Prop}{v t tr:Nat}{mp:VS}{σ:cK}{root:Int}{es:List nU}{tb:List Int}{ch:Bool}{root0:Nat}{es0:List nU}{tb0:List Int}(h:BH w S v t tr mp σ root es tb ch root0 es0 tb0)(hb:Below w.heap.size w w'):BH w' S v t tr mp σ root es tb ch root0 es0 tb0:=
 ⟨(hb.block v (aj.1 h.obj).1).trans h.obj,h.nv,h.tx.below hb,h.live,h.bas,h.ch⟩
theorem FC {σ:cK}{root:Nat}{es:List nU}{tb:List Int}(ok:σ.Ok)(hL:Live σ root es tb)(hr:root<65536){σ':Dk}{l':Lg}{p':Pg}(hb:p'.blocks σ'=σ.most)(hv:VI σ' l' p')(hlook:∀b,p'.look Im.none σ' b=σ.H.pg.look (σ.sealed root).im σ.H.dk b):
  BN σ' l' p' σ.now root/\Live (cK.start σ' l' p' σ.now) root es tb:=by
 have h2:=ok.two
 have hl:∀b,p'.look Im.none σ' b=if b=0 then bytesOf σ.now else if b=1 then pad (nK root) else σ.mem (b:Nat):=by
  intro b
  rw[hlook]
  show σ.H.pg.look ((σ.im.put 1 (pad (nK root))).put 0 (bytesOf σ.now)) σ.H.dk b=_
  rw[oM,oM]
  split
  ·rfl
  ·split
   ·rfl
   ·unfold cK.mem;rw[eX]
 refine⟨⟨hv.pd,hv.free.1,by omega,by rw[hl,if_pos rfl],fun b hb'=>ok.nhi b (by omega),ok.n0,ok.n1,?_⟩,?_⟩
 ·rw[hl,if_neg (by omega),if_pos rfl]
  exact⟨hr,List.replicate (512 - (nK root).length) 0,rfl⟩
 ·have hhas:∀x,(cK.start σ' l' p' σ.now).hasB x=σ.hasB x:=fun x=>by
   show (decide (0<=x) && (decide (x.toNat<p'.blocks σ') && σ.now x.toNat))=_
   rw[hb];rfl
  have hmv:∀x∈tb++eO es,(cK.start σ' l' p' σ.now).hasB x=true/\(cK.start σ' l' p' σ.now).mem x=σ.mem x:=by
   intro x hx
   obtain⟨a,b⟩:=hL.all x hx
   refine⟨by rw[hhas];exact a,?_⟩
   show p'.look Im.none σ' x.toNat=_
   rw[hl,if_neg (by omega),if_neg (by omega)]
   congr 1
   omega
  refine⟨?_,fun e he=>(hL.val e he).keep fun x hx=>hmv x (dJ _ (pM.2 ⟨e,he,hx⟩)),⟨hL.own.nd,fun x hx=>hL.own.ex x (by rw[<-hhas];exact hx),?_⟩⟩
  ·rcases hL.tree with h|⟨h,ht⟩
   ·exact .inl h
   ·exact .inr ⟨h,ht.move fun x hx=>hmv x (dz _ hx)⟩
  ·have hz:nh (cK.start σ' l' p' σ.now) (tb++eO es)=0:=by
    unfold nh
    rw[List.filter_eq_nil_iff.2]
    ·rfl
    ·intro x hx
     obtain⟨n,e,_,hn⟩:=cK.kF (hL.all x hx).1
     have:(cK.start σ' l' p' σ.now).held x=true:=by
      show (decide (0<=x) && σ.now x.toNat)=true
      rw[e,eX,hn]
      simp
     rw[this];simp
   rw[hz,iL]
   exact jl _ (fun x _=>Bool.or_self _)
theorem Kt {σ:cK}{S:Nat->Prop}{mp:VS}{w:World}(h:Inv σ S mp w)(root:Nat):(σ.sealed root).im.Ok (σ.H.pg.blocks σ.H.dk)/\(σ.sealed root).im.ks.length+countB σ.H.old σ.most<=σ.tk+2/\(σ.sealed root).im.ks≠[]:=by
 have ok:=h.ok
 have hm:=ok.most
 have h2:=ok.two
 obtain⟨Sp,T,h,_⟩:=h
 have hi:σ.im.Ok σ.most:=by obtain⟨_,q⟩:=h.tx;exact q.ok
 have h1:=hi.put 1 (pad (nK root)) (by omega) (nZ (by simp[nK]))
 have h0:=h1.put 0 (bytesOf σ.now) (by omega) (uD _)
 have ok1:(σ.sealed root).Ok:=(ok.wrote 1 (pad (nK root)) (nZ (by simp[nK])) (by omega) (.inl (by omega))).wrote 0 (bytesOf σ.now) (uD _) (by show 0<σ.most;omega) (.inl (by omega))
 refine⟨by rw[<-hm];exact h0,ok1.Qv h0.rise,fun e=> ?_⟩
 have:0∈(σ.sealed root).im.ks:=kU.2 (.inl rfl)
 rw[e] at this;cases this
structure nX where
 F:Nat->Prop
 w:World
instance :Coe World nX:=⟨fun w=>⟨fun g=>g<w.heap.size,w⟩⟩
structure VB (b:nX)(w:World)(S:Nat->Prop):Prop where
 os:w.os=b.w.os
 tape:w.tape=b.w.tape
 output:w.output=b.w.output
 size:b.w.heap.size<=w.heap.size
 block:∀g,b.F g->w.heap[g]? =b.w.heap[g]?
 fs:∀g,b.F g->g<b.w.heap.size
 lo:∀g,S g->¬b.F g
theorem VB.ru {w0 w:World}{S:Nat->Prop}(h:VB w0 w S):Below w0.heap.size w0 w:=⟨h.os,h.tape,h.output,h.size,fun k hk=>h.block k hk⟩
theorem VB.of {w0 w:World}{S:Nat->Prop}(h:Below w0.heap.size w0 w)(hl:∀g,S g->w0.heap.size<=g):VB w0 w S:=⟨h.os,h.tape,h.output,h.size,fun k hk=>h.block k hk,fun _ hg=>hg,fun g hg=>bn.2 (hl g hg)⟩
theorem VB.keep {b:nX}{w w':World}{S S' M:Nat->Prop}(h:VB b w S)(hk:Keep M w w')(hM:∀g,b.F g->¬M g)(hS:∀g,S' g->S g\/w.heap.size<=g):VB b w' S':=
 ⟨hk.os.trans h.os,hk.tape.trans h.tape,hk.output.trans h.output,aK h.size hk.size,fun g hg=>(hk.block g (ax (h.fs g hg) h.size) (hM g hg)).trans (h.block g hg),h.fs,fun g hg hf=>(hS g hg).elim (fun e=>h.lo g e hf) (fun e=>absurd (ax (h.fs g hf) h.size) (bn.2 e))⟩
theorem VB.step {b:nX}{w w':World}{S S':Nat->Prop}(h:VB b w S)(hs:Step S S' w w'):VB b w' S':=h.keep hs.1 (fun g hg e=>h.lo g e hg) hs.2
theorem VB.Mr {b:nX}{w w':World}{S S':Nat->Prop}{t tr:Nat}(h:VB b w S)(ht:¬b.F t)(htr:¬b.F tr)(hs:iX S S' t tr w w'):VB b w' S':=h.keep hs.1 (fun g hg e=>by
  rcases e with e|e|e
  ·exact h.lo g e hg
  ·exact ht (e▸hg)
  ·exact htr (e▸hg)) hs.2
theorem VB.below {b:nX}{w w':World}{S:Nat->Prop}(h:VB b w S)(hb:Below w.heap.size w w'):VB b w' S:=h.step (Step.of_below hb)
theorem VB.new {b:nX}{w:World}{S:Nat->Prop}(h:VB b w S){g:Nat}(hg:w.heap.size<=g):¬b.F g:=fun hf=>absurd (ax (h.fs g hf) h.size) (bn.2 hg)
section
variable {w:World} {S:Nat->Prop} {v pg d:Nat} {σ:Dk} {l:Lg} {p:Pg} {f:Nat->Bool} {root:Nat} {es:List nU} {tb:List Int}
theorem Dr.begin (h:Dr w S v pg d σ l p f root es tb):
  Calls Tryz.prog 21 #[.pointer (some ⟨v,0,none⟩)] w fun e w'=>∃t tr mp S',e= .returned (.tuple #[.pointer (some ⟨t,0,none⟩),.int .i64 0])/\mp.pg=pg/\mp.d=d/\BH w' S' v t tr mp (cK.start σ l p f) root es tb false root es tb/\Step S S' w w'/\w.heap.size<=t/\w.heap.size<=tr:=by
 refine(Mj v pg d σ l p f root S w h.obj h.nv h.pgr h.base.pd h.base.sd h.base.two h.base.map h.base.hi h.base.f0 h.base.f1 h.base.root).mono ?_
 rintro e w1 ⟨t,tr,mp,S1,rfl,hpg,hd,htx,htr,hI1,hs1,hn1,hn2,hlo1,hlo2⟩
 have hlt:=(aj.1 h.obj).1
 exact⟨t,tr,mp,S1,rfl,hpg,hd,⟨by rw[hpg];exact(hs1.1.block v hlt h.nv).trans h.obj,fun e=>(hs1.2 v e).elim h.nv (fun x=>absurd hlt (bn.2 x)),⟨htx,htr,hI1,hn1,hn2⟩,h.live,⟨h.vi,h.base,h.live⟩,fun _=>⟨rfl,rfl⟩⟩,hs1,hlo1,hlo2⟩
theorem Dr.check (h:Dr w S v pg d σ l p f root es tb)(hl:es.length<=4090):
  Calls Tryz.prog 13 #[.pointer (some ⟨v,0,none⟩)] w fun e w'=>e= .returned (.int .i64 0)/\∃S',Dr w' S' v pg d σ l p f root es tb/\Step S S' w w':=by
 refine(Hg v pg d σ l p f root S w es tb h.obj h.nv h.pgr h.base h.live hl).mono ?_
 rintro e w' ⟨rfl,S',hp,hs⟩
 exact⟨rfl,S',h.step hp hs h.vi h.base h.live,hs⟩
theorem Dr.blocks (h:Dr w S v pg d σ l p f root es tb):
  Calls Tryz.prog 14 #[.pointer (some ⟨v,0,none⟩)] w fun e w'=>e= .returned (.int .i64 (p.blocks σ))/\Dr w' S v pg d σ l p f root es tb/\Below w.heap.size w w':=by
 refine(Jo v pg d σ l p _ S w h.obj h.pgr).mono ?_
 rintro e w' ⟨rfl,rfl⟩
 have hb:Below w.heap.size w w.drew:=(aQ _ w).drew
 exact⟨rfl,h.below hb,hb⟩
theorem Dr.done (h:Dr w S v pg d σ l p f root es tb)(hb:(l.last:Int)<=1000000000000):
  Calls Tryz.prog 12 #[.pointer (some ⟨v,0,none⟩)] w fun e w'=>e= .returned (.int .i64 ((l.last:Int) - 1))/\w'=w:=Mh v pg d σ l p _ S w h.obj h.pgr hb
end
section
variable {w:World} {S:Nat->Prop} {v t tr:Nat} {mp:VS} {σ:cK} {root:Int} {es:List nU} {tb:List Int} {ch:Bool} {root0:Nat} {es0:List nU} {tb0:List Int}
theorem BH.spoilt (h:BH w S v t tr mp σ root es tb ch root0 es0 tb0){w':World}(hp:vJ t tr mp S σ ch w w'):
  ∃σ' S',RH w' S' v t tr mp σ' ch root0 es0 tb0/\σ'.H=σ.H/\iX S S' t tr w w':=by
 obtain⟨σ',S',rt,er,hT,hH,hm,hs⟩:=hp
 obtain⟨a,b⟩:=BH.D8 h.obj h.nv h.tx.tx h.tx.tree hs
 refine⟨σ',S',⟨a,b,⟨rt,er,hT⟩,?_⟩,hH,hs⟩
 have:=h.bas
 obtain⟨x,y,z⟩:=this
 rw[<-hH] at x y z
 exact⟨x,y,z⟩
theorem BH.moved (h:BH w S v t tr mp σ root es tb ch root0 es0 tb0){w':World}{σ':cK}{S':Nat->Prop}{root':Int}{es':List nU}{tb':List Int}{ch':Bool}(hT:Dt w' S' t tr mp σ' root' 0 ch' 0)(hL:Live σ' root' es' tb')(hH:σ'.H=σ.H)(hs:iX S S' t tr w w')(hc:ch'=false->σ'=cK.start σ'.H.dk σ'.H.lg σ'.H.pg σ'.H.old/\es'=es0):BH w' S' v t tr mp σ' root' es' tb' ch' root0 es0 tb0:=by
 obtain⟨a,b⟩:=BH.D8 h.obj h.nv h.tx.tx h.tx.tree hs
 refine⟨a,b,hT,hL,?_,hc⟩
 obtain⟨x,y,z⟩:=h.bas
 rw[<-hH] at x y z
 exact⟨x,y,z⟩
theorem BH.get (h:BH w S v t tr mp σ root es tb ch root0 es0 tb0)(key:ByteArray)(hl:es.length<=4090)(hg:1<=key.size/\key.size<=128):
  Calls Tryz.prog 36 #[.pointer (some ⟨t,0,none⟩),.string key] w fun e w'=>e= .returned (.tuple #[.string ((fF (kE es) key).getD ByteArray.empty),.bool (fF (kE es) key).isSome,.int .i64 0])/\BH w' S v t tr mp σ root es tb ch root0 es0 tb0/\Below w.heap.size w w':=by
 obtain⟨a,o,r,hA⟩:=NK es key
 refine(uV t tr mp root ch σ S w es a o r tb key h.tx h.live hA hl hg).mono ?_
 rintro e w' ⟨rfl,hb⟩
 exact⟨rfl,h.below hb,hb⟩
end
theorem xX.ML {σ:cK}{root:Int}{cs:List Pr}{bs:List Int}(h:xX σ root cs bs)(hc:σ.most<=4096):∃n:Nat,root=n/\n<=4096:=by
 rcases h with ⟨rfl,_,_⟩|⟨h,ht⟩
 ·exact⟨0,rfl,bg _⟩
 ·have hb:σ.hasB root=true:=by
   cases h with
   |zero=>obtain⟨nd,h1,_⟩:=ht;exact h1.has
   |succ h=>obtain⟨nd,bs',h1,_⟩:=ht;exact h1.has
  obtain⟨n,e,h1,_⟩:=cK.kF hb
  exact⟨n,e,by omega⟩
theorem Nf {es l o r:List nU}{key v:ByteArray}(hA:zk es key l o r)(h:fF (kE es) key=some v):mP (kE es) key v=kE es:=by
 rw[hA.lv] at h
 rcases hA.one with rfl|⟨e,rfl,hk⟩
 ·cases h
 ·have hv:e.v=v:=by simpa using h
  rw[hA.iv e.s v e.b,hA.eq,mW,mW,mW,aL]
  congr 1
  simp[kE,hk,hv]
theorem ByteArray.bne {a b:ByteArray}(h:a≠b):(a.toList==b.toList)=false:=by
 rw[fG]
 intro e
 exact h (Og (Dx.1 (by rw[toList_eq,toList_eq] at e;exact e)))
section
variable {w:World} {S:Nat->Prop} {v t tr:Nat} {mp:VS} {σ:cK} {root:Int} {es:List nU} {tb:List Int} {ch:Bool} {root0:Nat} {es0:List nU} {tb0:List Int}
def JZ (w:World)(S:Nat->Prop)(v t tr:Nat)(mp:VS)(σ:cK)(es:List nU)(tb:List Int)(ch':Bool)(root0:Nat)(es0:List nU)(tb0:List Int)(c W:Nat)(qs:List Pr)(w':World):Prop:=
 ∃σ' S' root' es' tb',BH w' S' v t tr mp σ' root' es' tb' ch' root0 es0 tb0/\kE es'=qs/\σ'.H=σ.H/\σ'.most=σ.most/\iX S S' t tr w w'/\RI σ σ' tb c/\lX σ σ' (tb++eO es) (tb'++eO es')/\(es'.length<=299->zC σ σ' W)
def PK (w:World)(S:Nat->Prop)(v t tr:Nat)(mp:VS)(σ:cK)(ch:Bool)(root0:Nat)(es0:List nU)(tb0:List Int)(w':World):Prop:=
 ∃σ' S',RH w' S' v t tr mp σ' ch root0 es0 tb0/\σ'.H=σ.H/\iX S S' t tr w w'
theorem BH.put (h:BH w S v t tr mp σ root es tb ch root0 es0 tb0)(key value:ByteArray)(hl:es.length<=4090)(hg:1<=key.size/\key.size<=128)(hv:value.size<=49152):
  Calls Tryz.prog 23 #[.pointer (some ⟨t,0,none⟩),.string key,.string value] w fun e w'=>
   (e= .returned (.int .i64 0)/\JZ w S v t tr mp σ es tb (ch|| !decide (fF (kE es) key=some value)) root0 es0 tb0 (2*(es.length+1)+l7 value) (65+l7 value) (mP (kE es) key value) w')\/
   (e= .returned (.int .i64 12)/\σ.most+nh σ tb<σ.sz+2*(es.length+1)+l7 value/\PK w S v t tr mp σ ch root0 es0 tb0 w'):=by
 obtain⟨a,o,r,hA⟩:=NK es key
 by_cases hs:fF (kE es) key=some value
 ·refine(Kb t tr mp root ch σ S w es a o r tb key value h.tx h.live hA hl hg hv hs).mono ?_
  rintro e w' ⟨rfl,hb⟩
  refine .inl ⟨rfl,σ,S,root,es,tb,?_,(Nf hA hs).symm,rfl,rfl,iX.of (Step.of_below hb),fun _ _ t=>t,lX.refl (fun x hx=>(h.live.all x hx).1),fun _=>(zC.refl _).more (bg _)⟩
  have:(ch|| !decide (fF (kE es) key=some value))=ch:=by simp[hs]
  rw[this]
  exact h.below hb
 ·have hc:(ch|| !decide (fF (kE es) key=some value))=true:=by simp[hs]
  rw[hc]
  have hno:∀(there:Bool) (was:ByteArray),(fF (kE es) key).isSome=there/\(fF (kE es) key).getD ByteArray.empty=was->there=true->(was.toList==value.toList)=false:=by
   rintro there was ⟨h1,h2⟩ ht
   refine ByteArray.bne fun e=>hs ?_
   subst ht
   obtain⟨x,hx⟩:=Option.isSome_iff_exists.1 h1
   rw[hx] at h2 ⊢
   rw[<-e,<-h2];rfl
  have hput:∀(e:Ending) (w':World),((e= .returned (.int .i64 0)/\Eu t tr mp S σ es a r tb key value w w')\/(e= .returned (.int .i64 12)/\σ.most+nh σ tb<σ.sz+2*(es.length+1)+l7 value/\vJ t tr mp S σ ch w w'))->
    ((e= .returned (.int .i64 0)/\JZ w S v t tr mp σ es tb true root0 es0 tb0 (2*(es.length+1)+l7 value) (65+l7 value) (mP (kE es) key value) w')\/(e= .returned (.int .i64 12)/\σ.most+nh σ tb<σ.sz+2*(es.length+1)+l7 value/\PK w S v t tr mp σ ch root0 es0 tb0 w')):=by
   rintro e w' (⟨rfl,σ',S',root',tb',s,nb,q1,q2,q3,q4,q5,q6⟩|⟨rfl,hr,hp⟩)
   ·exact .inl ⟨rfl,σ',S',root',_,tb',h.moved q1 q2 q3.H q4 (fun e=>by cases e),(hA.iv s value nb).symm,q3.H,q3.most,q4,q5,q3,q6⟩
   ·exact .inr ⟨rfl,hr,h.spoilt hp⟩
  by_cases hz:value.size<=63
  ·exact(G8 t tr mp root ch σ S w es a o r tb key value h.tx h.live hA hl hg hz _ _ ⟨rfl,rfl⟩ (hno _ _ ⟨rfl,rfl⟩)).mono hput
  ·exact(Kc t tr mp root ch σ S w es a o r tb key value h.tx h.live hA hl hg ⟨by omega,hv⟩ _ _ ⟨rfl,rfl⟩ (hno _ _ ⟨rfl,rfl⟩)).mono hput
def LK (w:World)(S:Nat->Prop)(v t tr:Nat)(mp:VS)(σ:cK)(es:List nU)(tb:List Int)(ch:Bool)(root0:Nat)(es0:List nU)(tb0:List Int)(e:Ending)(w':World):Prop:=
 ∃S',iX S S' t tr w w'/\
  ((ch=false/\es=es0/\e= .returned (.tuple #[.int .i64 ((σ.H.lg.last:Int) - 1),.int .i64 0])/\Dr w' S' v mp.pg mp.d σ.H.dk σ.H.lg σ.H.pg σ.H.old root0 es0 tb0)\/
   (ch=true/\(∃r,(σ.sealed r).im.ks≠[]/\σ.H.pg.tN (σ.sealed r).im/\(σ.sealed r).im.Ok (σ.H.pg.blocks σ.H.dk)/\(σ.sealed r).im.ks.length+countB σ.H.old σ.most<=σ.tk+2)/\e= .returned (.tuple #[.int .i64 0,.int .i64 13])/\Dr w' S' v mp.pg mp.d σ.H.dk σ.H.lg σ.H.pg σ.H.old root0 es0 tb0)\/
   (ch=true/\e= .returned (.tuple #[.int .i64 (σ.H.lg.last:Int),.int .i64 0])/\∃(σ':Dk) (l':Lg) (p':Pg) (root':Nat),Dr w' S' v mp.pg mp.d σ' l' p' σ.now root' es tb/\l'.last=σ.H.lg.last+1/\p'.blocks σ'=σ.most/\p'.ring=σ.H.pg.ring))
theorem BH.commit (h:BH w S v t tr mp σ root es tb ch root0 es0 tb0)(hll:σ.H.lg.last<100000000000):
  Calls Tryz.prog 25 #[.pointer (some ⟨t,0,none⟩)] w (LK w S v t tr mp σ es tb ch root0 es0 tb0):=by
 have hV:=h.bas.vi
 have hI:=h.tx.inv
 obtain⟨hpo,hdo,hlo⟩:σ.H.pg.Ok σ.H.dk σ.H.lg/\σ.H.dk.Ok/\σ.H.lg.Ok:=by obtain⟨Sp,T,q,_⟩:=hI;exact q.pg.ok
 have hcap:σ.H.dk.waits.length<=90000:=by have a:=hV.wt;have b:=hlo.us;have c:=hlo.hi;omega
 have hstep:∀{S':Nat->Prop} {w':World},Keep (fun g=>S g\/g=t) w w'->(∀g,S' g->S g\/w.heap.size<=g)->iX S S' t tr w w':=fun a b=>⟨a.mono (fun g _ e=>e.imp id .inl),b⟩
 have hobj:∀{S':Nat->Prop} {w':World},iX S S' t tr w w'->w'.heap[v]? =some (.cells #[.pointer (some ⟨mp.pg,0,none⟩)] 88 (0,0))/\¬S' v:=fun a=>BH.D8 h.obj h.nv h.tx.tx h.tx.tree a
 cases ch with
 |false=>
  obtain⟨h1,h2⟩:=h.ch rfl
  have him:σ.im=Im.none:=by rw[h1];rfl
  have hc:σ.H.pg.commit σ.H.dk σ.H.lg σ.im=(σ.H.dk,σ.H.lg,σ.H.pg,σ.H.lg.last,0):=by
   rcases wJ hV hpo hlo (im:=σ.im) (by obtain⟨Sp,T,q,_⟩:=hI;obtain⟨_,q2⟩:=q.tx;have hm:=q.ok.most;rw[<-hm];exact q2.ok) with ⟨_,q⟩|⟨q,_⟩|⟨q,_⟩
   ·exact q
   ·rw[him] at q;exact absurd rfl q
   ·rw[him] at q;exact absurd rfl q
  refine(DF t tr mp root σ S w h.tx hV.ld hcap (by omega) (by rw[hc];show σ.H.lg.last<=_;omega)).mono ?_
  rintro e w' ⟨rfl,S',hp,_,_,hk,hn⟩
  rw[hc] at hp ⊢
  have hs:=hstep hk hn
  obtain⟨a,b⟩:=hobj hs
  exact⟨S',hs,.inl ⟨rfl,h2,rfl,a,b,hp,hV,h.bas.base,h.bas.live⟩⟩
 |true=>
  obtain⟨r,hr,hr2⟩:=h.live.tree.ML hI.ok.cap
  obtain⟨s1,s2,s3⟩:=Kt hI r
  have hTx:=h.tx
  rw[hr] at hTx
  have hlaw:=wJ hV hpo hlo s1
  have hk0:(σ.H.pg.commit σ.H.dk σ.H.lg (σ.sealed r).im).2.2.2.1<=1000000000000:=by
   rcases hlaw with ⟨_,q⟩|⟨_,_,q⟩|⟨_,_,_,_,_,q,_⟩
   ·rw[q];show σ.H.lg.last<=_;omega
   ·rw[q];exact bg _
   ·rw[q];show σ.H.lg.last+1<=_;omega
  refine(DC t tr mp r σ S w hTx hr2 hV.ld hcap (by omega) hk0).mono ?_
  rintro e w' ⟨rfl,S',hp,_,_,hk,hn⟩
  have hs:=hstep hk hn
  obtain⟨a,b⟩:=hobj hs
  refine⟨S',hs,.inr ?_⟩
  rcases hlaw with ⟨q,_⟩|⟨q1,q2,q⟩|⟨_,_,σ',l',p',q,V',e1,e2,e3,e4,e5⟩
  ·exact absurd q s3
  ·rw[q] at hp ⊢
   exact .inl ⟨rfl,⟨r,q1,q2,s1,s2⟩,rfl,a,b,hp,hV,h.bas.base,h.bas.live⟩
  ·rw[q] at hp ⊢
   have hbl:p'.blocks σ'=σ.most:=by rw[hI.ok.most];unfold Pg.blocks;rw[e2,e4]
   obtain⟨b1,b2⟩:=FC hI.ok (by have:=h.live;rwa [hr] at this) (by omega) hbl V' e5
   refine .inr ⟨rfl,?_,σ',l',p',r,⟨a,b,hp,V',b1,b2⟩,e1,hbl,e3⟩
   show Ending.returned (.tuple #[.int .i64 (((σ.H.lg.last+1:Nat):Int) - 1),.int .i64 0])=_
   rw[show ((σ.H.lg.last+1:Nat):Int) - 1=σ.H.lg.last by omega]
end
def Lp (kv:List Pr):Nat:=(kv.map fun p=>l7 p.2).sum
theorem ValAt.cost {σ:cK}{s v:ByteArray}{b:List Int}(h:ValAt σ s v b):b.length=l7 v:=by
 rcases h with ⟨_,h2,rfl⟩|⟨hd,rs,_,⟨_,h2⟩,h3,rfl⟩
 ·unfold l7;rw[if_pos h2];rfl
 ·unfold l7
  rw[if_neg (by omega)]
  have e1:=h3.hd.len
  have e2:v.data.toList.length=v.size:=by show v.data.toList.length=v.data.size;simp
  rw[e2] at e1
  simp[jF,e1];omega
theorem Dm {σ:cK}:∀{es:List nU},(∀e∈es,ValAt σ e.s e.v e.b)->(eO es).length=Lp (kE es)
 |[],_=>rfl
 |e::es,h=>by
  have h1:=(h e (aZ ..)).cost
  have h2:=Dm (es:=es) fun x hx=>h x (aU _ hx)
  rw[Dq,ay,h1,h2];rfl
def Et (w0:nX)(v N R dn u:Nat)(kv:List Pr)(w:World):Prop:=
 ∃S pg d σ l p f root es tb,Dr w S v pg d σ l p f root es tb/\VB w0 w S/\¬w0.F v/\p.blocks σ=N/\p.ring=R/\l.last=dn+1/\kE es=kv/\(tb++eO es).length=u
def Cq (w0:nX)(v t N R dn u:Nat)(kv0 kv:List Pr)(ch:Bool)(P:Nat)(w:World):Prop:=
 ∃S tr mp σ root es tb root0 es0 tb0,BH w S v t tr mp σ root es tb ch root0 es0 tb0/\VB w0 w S/\¬w0.F v/\¬w0.F t/\¬w0.F tr/\σ.most=N/\σ.H.pg.ring=R/\σ.H.lg.last=dn+1/\kE es=kv/\kE es0=kv0/\(tb0++eO es0).length=u/\σ.tk<=P
def RN (w0:nX)(v t N R dn u:Nat)(kv0:List Pr)(w:World):Prop:=
 ∃S tr mp σ ch root0 es0 tb0,RH w S v t tr mp σ ch root0 es0 tb0/\VB w0 w S/\¬w0.F v/\¬w0.F t/\¬w0.F tr/\σ.H.pg.blocks σ.H.dk=N/\σ.H.pg.ring=R/\σ.H.lg.last=dn+1/\kE es0=kv0/\(tb0++eO es0).length=u
def RO (t:Nat)(w:World):Prop:=∃mp ch er,w.heap[t]? =some (.cells (dM mp none ch er) 100 (0,0))
section
variable {w0:nX} {w:World} {v t N R dn u P:Nat} {kv kv0:List Pr} {ch:Bool}
theorem Et.ru {w0:World}(h:Et w0 v N R dn u kv w):Below w0.heap.size w0 w:=by obtain⟨_,_,_,_,_,_,_,_,_,_,_,h,_⟩:=h;exact h.ru
theorem Et.make (w0:nX)(w:World)(n:Nat)(log:Nat)(d:Nat)(S:Nat->Prop)(hb:VB w0 w S)(h:om w S d (Dk.new n))(h1:6<=log)(h2:log+8<=n):
  Calls Tryz.prog 11 #[.pointer (some ⟨d,0,none⟩),.int .i64 log] w fun e w'=>∃v,e= .returned (.tuple #[.pointer (some ⟨v,0,none⟩),.int .i64 0])/\Et w0 v (n - log) (log - 1) 0 0 [] w':=by
 refine(Pn d (Dk.new n) S log w h ⟨rfl,rfl⟩ h1 h2 (bg _)).mono ?_
 rintro e w' ⟨v,pg,σ',l',p',S',rfl,hobj,hn,hlo,hp,hN,hs⟩
 refine⟨v,rfl,S',pg,d,σ',l',p',two,0,[],[],⟨hobj,hn,hp,hN.vi,hN.base,LH.live⟩,hb.step hs,hb.new hlo,?_,hN.ring,hN.last,rfl,rfl⟩
 unfold Pg.blocks
 rw[hN.n,hN.skip];rfl
theorem Et.begin (h:Et w0 v N R dn u kv w):
  Calls Tryz.prog 21 #[.pointer (some ⟨v,0,none⟩)] w fun e w'=>∃t,e= .returned (.tuple #[.pointer (some ⟨t,0,none⟩),.int .i64 0])/\Cq w0 v t N R dn u kv kv false (2+u) w':=by
 obtain⟨S,pg,d,σ,l,p,f,root,es,tb,hA,hB,h1,h2,h3,h4,h5,h6⟩:=h
 refine hA.begin.mono ?_
 rintro e w' ⟨t,tr,mp,S',rfl,_,_,hT,hs,hl1,hl2⟩
 have hok:=cK.Ok.start hA.pgr.ok.1 hA.pgr.ok.2.1 hA.base.pd hA.base.sd hA.base.two hA.base.hi hA.base.f0 hA.base.f1
 have hc:countB f (p.blocks σ)=2+(tb++eO es).length:=hA.live.own.count hok hA.live.all
 exact⟨t,rfl,S',tr,mp,_,root,es,tb,root,es,tb,hT,hB.step hs,h1,hB.new hl1,hB.new hl2,h2,h3,h4,h5,h5,h6,by rw[<-h6,<-hc];exact aC _⟩
theorem Et.check (h:Et w0 v N R dn u kv w)(hl:kv.length<=4090):
  Calls Tryz.prog 13 #[.pointer (some ⟨v,0,none⟩)] w fun e w'=>e= .returned (.int .i64 0)/\Et w0 v N R dn u kv w':=by
 obtain⟨S,pg,d,σ,l,p,f,root,es,tb,hA,hB,h1,h2,h3,h4,h5,h6⟩:=h
 refine(hA.check (by rw[<-tT,h5];exact hl)).mono ?_
 rintro e w' ⟨rfl,S',hV,hs⟩
 exact⟨rfl,S',pg,d,σ,l,p,f,root,es,tb,hV,hB.step hs,h1,h2,h3,h4,h5,h6⟩
theorem Et.blocks (h:Et w0 v N R dn u kv w):
  Calls Tryz.prog 14 #[.pointer (some ⟨v,0,none⟩)] w fun e w'=>e= .returned (.int .i64 N)/\Et w0 v N R dn u kv w':=by
 obtain⟨S,pg,d,σ,l,p,f,root,es,tb,hA,hB,h1,h2,h3,h4,h5,h6⟩:=h
 refine hA.blocks.mono ?_
 rintro e w' ⟨rfl,hV,hb⟩
 exact⟨by rw[h2],S,pg,d,σ,l,p,f,root,es,tb,hV,hB.below hb,h1,h2,h3,h4,h5,h6⟩
theorem Et.done (h:Et w0 v N R dn u kv w)(hd:dn<=100000000):
  Calls Tryz.prog 12 #[.pointer (some ⟨v,0,none⟩)] w fun e w'=>e= .returned (.int .i64 dn)/\w'=w:=by
 obtain⟨S,pg,d,σ,l,p,f,root,es,tb,hA,hB,h1,h2,h3,h4,h5,h6⟩:=h
 refine(hA.done (by omega)).mono ?_
 rintro e w' ⟨rfl,rfl⟩
 exact⟨by rw[show (l.last:Int) - 1=dn by omega],rfl⟩
def nX.next (b:nX)(w w':World):nX:=⟨fun g=>b.F g\/(w.heap.size<=g/\g<w'.heap.size),w'⟩
theorem Cq.sizes {S:Nat->Prop}{tr:Nat}{mp:VS}{σ:cK}{root:Int}{es:List nU}{tb:List Int}{root0:Nat}{es0:List nU}{tb0:List Int}(h:BH w S v t tr mp σ root es tb ch root0 es0 tb0):
  σ.sz<=2+(tb0++eO es0).length+nh σ tb+Lp (kE es)/\countB σ.H.old σ.most=2+(tb0++eO es0).length:=by
 have hI:=h.tx.inv
 have e1:=h.live.own.size
 have hm:=hI.ok.most
 obtain⟨hpo,hdo,hlo⟩:σ.H.pg.Ok σ.H.dk σ.H.lg/\σ.H.dk.Ok/\σ.H.lg.Ok:=by obtain⟨Sp,T,q,_⟩:=hI;exact q.pg.ok
 have hB:=h.bas.base
 have hok:=cK.Ok.start hpo hdo hB.pd hB.sd hB.two hB.hi hB.f0 hB.f1
 have hc:countB σ.H.old (σ.H.pg.blocks σ.H.dk)=2+(tb0++eO es0).length:=h.bas.live.own.count hok h.bas.live.all
 rw[<-hm] at hc
 rw[og,hc] at e1
 have e2:=qF σ (eO es)
 rw[Dm h.live.val] at e2
 exact⟨by omega,hc⟩
theorem Cq.get (h:Cq w0 v t N R dn u kv0 kv ch P w)(key:ByteArray)(hl:kv.length<=4090)(hg:1<=key.size/\key.size<=128):
  Calls Tryz.prog 36 #[.pointer (some ⟨t,0,none⟩),.string key] w fun e w'=>e= .returned (.tuple #[.string ((fF kv key).getD ByteArray.empty),.bool (fF kv key).isSome,.int .i64 0])/\Cq w0 v t N R dn u kv0 kv ch P w':=by
 obtain⟨S,tr,mp,σ,root,es,tb,root0,es0,tb0,hA,hB,h1,h2,h3,h4,h5,h6,h7,h8⟩:=h
 refine(hA.get key (by rw[<-tT,h7];exact hl) hg).mono ?_
 rintro e w' ⟨rfl,hT,hb⟩
 exact⟨by rw[h7],S,tr,mp,σ,root,es,tb,root0,es0,tb0,hT,hB.below hb,h1,h2,h3,h4,h5,h6,h7,h8⟩
theorem Cq.put (h:Cq w0 v t N R dn u kv0 kv ch P w)(key value:ByteArray)(hl:kv.length<=4090)(hg:1<=key.size/\key.size<=128)(hv:value.size<=49152)(hP:2+u+Lp kv+2*(kv.length+1)+l7 value<=P):
  Calls Tryz.prog 23 #[.pointer (some ⟨t,0,none⟩),.string key,.string value] w fun e w'=>
   (e= .returned (.int .i64 0)/\Cq w0 v t N R dn u kv0 (mP kv key value) (ch|| !decide (fF kv key=some value)) P w')\/
   (e= .returned (.int .i64 12)/\N<2+u+Lp kv+2*(kv.length+1)+l7 value/\RN w0 v t N R dn u kv0 w'):=by
 obtain⟨S,tr,mp,σ,root,es,tb,root0,es0,tb0,hA,hB,h1,h2,h3,h4,h5,h6,h7,h8,h9,h10⟩:=h
 obtain⟨e1,e2⟩:=Cq.sizes hA
 have hel:es.length=kv.length:=by rw[<-h7,tT]
 rw[h9,h7] at e1
 have hm:=hA.tx.inv.ok.most
 refine(hA.put key value (by omega) hg hv).mono ?_
 rintro e w' (⟨rfl,σ',S',root',es',tb',q1,q2,q3,q4,q5,q6,q7,_⟩|⟨rfl,q0,σ',S',q1,q2,q3⟩)
 ·refine .inl ⟨rfl,S',tr,mp,σ',root',es',tb',root0,es0,tb0,?_,hB.Mr h2 h3 q5,h1,h2,h3,by rw[q4,h4],by rw[q3,h5],by rw[q3,h6],by rw[q2,h7],h8,h9,q6 P (by omega) h10⟩
  rw[h7] at q1;exact q1
 ·exact .inr ⟨rfl,by omega,S',tr,mp,σ',ch,root0,es0,tb0,q1,hB.Mr h2 h3 q3,h1,h2,h3,by rw[q2,<-hm,h4],by rw[q2,h5],by rw[q2,h6],h8,h9⟩
def MV (k:Nat):Nat:=(16+520*k+511)/512
theorem Cq.commit (h:Cq w0 v t N R dn u kv0 kv ch P w)(hd:dn<=100000000):
  Calls Tryz.prog 25 #[.pointer (some ⟨t,0,none⟩)] w fun e w'=>
   (ch=false/\kv=kv0/\e= .returned (.tuple #[.int .i64 dn,.int .i64 0])/\Et w0 v N R dn u kv0 w')\/
   (ch=true/\(R<MV (P - u)\/1024<P - u)/\e= .returned (.tuple #[.int .i64 0,.int .i64 13])/\Et w0 v N R dn u kv0 w')\/
   (ch=true/\e= .returned (.tuple #[.int .i64 ((dn+1:Nat):Int),.int .i64 0])/\∃u',Et w0 v N R (dn+1) u' kv w'):=by
 obtain⟨S,tr,mp,σ,root,es,tb,root0,es0,tb0,hA,hB,h1,h2,h3,h4,h5,h6,h7,h8,h9,h10⟩:=h
 have hm:=hA.tx.inv.ok.most
 obtain⟨_,e2⟩:=Cq.sizes hA
 refine(hA.commit (by omega)).mono ?_
 rintro e w' ⟨S',hs,(⟨rfl,q1,rfl,q2⟩|⟨rfl,⟨r,q1,q2,q3,q4⟩,rfl,q5⟩|⟨rfl,rfl,σ',l',p',root',q1,q2,q3,q4⟩)⟩
 all_goals have hB':=hB.Mr h2 h3 hs
 ·refine .inl ⟨rfl,by rw[<-h7,<-h8,q1],by rw[show (σ.H.lg.last:Int) - 1=dn by omega],S',_,_,_,_,_,_,root0,es0,tb0,q2,hB',h1,by rw[<-hm,h4],h5,h6,h8,h9⟩
 ·refine .inr (.inl ⟨rfl,?_,rfl,S',_,_,_,_,_,_,root0,es0,tb0,q5,hB',h1,by rw[<-hm,h4],h5,h6,h8,h9⟩)
  unfold Pg.tN at q2
  rw[JG q3,h5] at q2
  unfold MV
  rw[e2,h9] at q4
  omega
 ·exact .inr (.inr ⟨rfl,by rw[h6],_,S',_,_,σ',l',p',_,root',es,tb,q1,hB',h1,by rw[q3,h4],by rw[q4,h5],by rw[q2,h6],h7,rfl⟩)
end
theorem Cq.more {w0:nX}{w:World}{v t N R dn u P P':Nat}{kv kv0:List Pr}{ch:Bool}(h:Cq w0 v t N R dn u kv0 kv ch P w)(hp:P<=P'):Cq w0 v t N R dn u kv0 kv ch P' w:=by
 obtain⟨S,tr,mp,σ,root,es,tb,root0,es0,tb0,hA,hB,h1,h2,h3,h4,h5,h6,h7,h8,h9,h10⟩:=h
 exact⟨S,tr,mp,σ,root,es,tb,root0,es0,tb0,hA,hB,h1,h2,h3,h4,h5,h6,h7,h8,h9,aK h10 hp⟩
theorem Ni (k x:ByteArray):mP [] k x=[(k,x)]:=rfl
theorem KO (k x:ByteArray):fF [(k,x)] k=some x:=by
 have h:lt k k=false:=lt_irrefl k
 have hp:dU [(k,x)] k=0:=by unfold dU;simp[h]
 unfold fF oO
 rw[hp]
 simp
theorem Cq.Qk {w0:nX}{w:World}{v t N R dn u P:Nat}{kv kv0:List Pr}{ch:Bool}(h:Cq w0 v t N R dn u kv0 kv ch P w)(key value:ByteArray)(hl:kv.length<=4090)(hg:1<=key.size/\key.size<=128)(hv:value.size<=49152)(Q:Nat)(hQ:Q=max P (2+u+Lp kv+2*(kv.length+1)+l7 value))(hN:2+u+Lp kv+2*(kv.length+1)+l7 value<=N):
  Calls Tryz.prog 23 #[.pointer (some ⟨t,0,none⟩),.string key,.string value] w fun e w'=>
   e= .returned (.int .i64 0)/\Cq w0 v t N R dn u kv0 (mP kv key value) (ch|| !decide (fF kv key=some value)) Q w':=by
 refine((h.more (P':=Q) (by omega)).put key value hl hg hv (by omega)).mono ?_
 rintro e w' (h|⟨_,h,_⟩)
 ·exact h
 ·omega
theorem Cq.Lb {w0:nX}{w:World}{v t N R dn u P:Nat}{kv kv0:List Pr}(h:Cq w0 v t N R dn u kv0 kv true P w)(hd:dn<=100000000)(hR:MV (P - u)<=R)(hP:P - u<=1024):
  Calls Tryz.prog 25 #[.pointer (some ⟨t,0,none⟩)] w fun e w'=>
   e= .returned (.tuple #[.int .i64 ((dn+1:Nat):Int),.int .i64 0])/\∃u',Et w0 v N R (dn+1) u' kv w':=by
 refine(h.commit hd).mono ?_
 rintro e w' (⟨h,_⟩|⟨_,h,_⟩|⟨_,h⟩)
 ·cases h
 ·omega
 ·exact h
theorem K3 (w:World):Calls Tryz.prog 7 #[] w fun e w'=>e= .returned (.bool true)/\Below w.heap.size w w':=by
 go_enter Tryz.func7,Tryz.ntmps7
 go_wp2_with (first
  |(go_at_call 8;go_must ((refine(Rl 40 w).mono ?_);rintro e w1 ⟨d,S,rfl,hD,hb1,hS⟩;have HV:=ah (Et.make w w1 40 12 d S (VB.of hb1 hS) hD (by omega) (by omega));clear hD hb1 hS))
  |(go_at_call 11;go_must ((refine HV.out.mono ?_);rintro e w2 ⟨v,rfl,hV2⟩;clear HV))
  |(go_at_call 14;go_must ((refine hV2.blocks.mono ?_);rintro e w3 ⟨rfl,hV3⟩;clear hV2))
  |(go_at_call 12;go_must ((refine(hV3.done (by omega)).mono ?_);rintro e w4 ⟨rfl,hw⟩;subst w4))
  |(go_at_call 21;go_must ((refine hV3.begin.mono ?_);rintro e w5 ⟨t,rfl,hT5⟩;clear hV3))
  |(go_at_call 23;go_must ((refine(hT5.Qk ⟨#[97]⟩ ⟨#[120]⟩ (by simp) ⟨by decide,by decide⟩ (by decide) 4 (by decide) (by decide)).mono ?_);rintro e w6 ⟨rfl,hT6⟩;rw[Ni] at hT6;clear hT5))
  |(go_at_call 36;go_must ((refine(hT6.get ⟨#[97]⟩ (by simp) ⟨by decide,by decide⟩).mono ?_);rw[KO];rintro e w7 ⟨rfl,hT7⟩;clear hT6;have HC:=ah (Cq.Lb hT7 (by omega) (by decide) (by decide));clear hT7))
  |(go_at_call 25;go_must ((refine HC.out.mono ?_);rintro e w8 ⟨rfl,u',hV8⟩;clear HC))
  |(go_at_call 13;go_must ((refine(hV8.check (by simp)).mono ?_);rintro e w9 ⟨rfl,hV9⟩;clear hV8)))
 go_ret
 exact⟨rfl,hV9.ru⟩
end Go.Proofs.YtogbkgmlhhahdaaGreat
