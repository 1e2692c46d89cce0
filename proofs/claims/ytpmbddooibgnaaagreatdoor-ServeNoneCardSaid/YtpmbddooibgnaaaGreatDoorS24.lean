/- parts -/
import Derived.Test.YtpmbddooibgnaaaGreatDoorS1
import Derived.Test.YtpmbddooibgnaaaGreatDoorS5
import Derived.Test.YtpmbddooibgnaaaGreatDoorS21
import Derived.Test.YtpmbddooibgnaaaGreatDoorS23
import Derived.Lib.ValidU
import Derived.Lib.IndexAny
import Derived.Defers
import Derived.Recover
set_option maxRecDepth 100000
set_option maxHeartbeats 8000000
set_option linter.all false
namespace Go.Proofs.YtpmbddooibgnaaaGreatDoor
open Go.RowKit
def oI (kv:List Pr):Nat:=(kv.map fun p=>jI p.2).sum
theorem ValAt.cost {σ:bR}{s v:ByteArray}{b:List Int}(h:ValAt σ s v b):b.length=jI v:=by
 rcases h with ⟨_,h2,rfl⟩|⟨hd,rs,_,⟨_,h2⟩,h3,rfl⟩
 ·unfold jI;rw[if_pos h2];rfl
 ·unfold jI
  rw[if_neg (by omega)]
  have e1:=h3.hd.len
  have e2:v.data.toList.length=v.size:=by show v.data.toList.length=v.data.size;simp
  rw[e2] at e1
  simp[kX,e1];omega
theorem Bq {σ:bR}:∀{es:List kS},(∀e∈es,ValAt σ e.s e.v e.b)->(dM es).length=oI (fM es)
 |[],_=>rfl
 |e::es,h=>by
  have h1:=(h e (aP ..)).cost
  have h2:=Bq (es:=es) fun x hx=>h x (aT _ hx)
  rw[Bv,ay,h1,h2];rfl
def rV (w0:gJ)(v N R dn u:Nat)(kv:List Pr)(w:World):Prop:=
 ∃S pg d σ l p f root es tb,Kt w S v pg d σ l p f root es tb/\VB w0 w S/\(¬w0.F v/\w0.D d σ l p)/\p.blocks σ=N/\p.ring=R/\l.last=dn+1/\fM es=kv/\(tb++dM es).length=u
def qa (w0:gJ)(v t N R dn u:Nat)(kv0 kv:List Pr)(ch:Bool)(P:Nat)(w:World):Prop:=
 ∃S tr mp σ root es tb root0 es0 tb0,vY w S v t tr mp σ root es tb ch root0 es0 tb0/\VB w0 w S/\(¬w0.F v/\w0.D mp.d σ.H.dk σ.H.lg σ.H.pg)/\¬w0.F t/\¬w0.F tr/\σ.most=N/\σ.H.pg.ring=R/\σ.H.lg.last=dn+1/\fM es=kv/\fM es0=kv0/\(tb0++dM es0).length=u/\σ.tk<=P
def UC (w0:gJ)(v t N R dn u:Nat)(kv0:List Pr)(w:World):Prop:=
 ∃S tr mp σ ch root0 es0 tb0,Uj w S v t tr mp σ ch root0 es0 tb0/\VB w0 w S/\(¬w0.F v/\w0.D mp.d σ.H.dk σ.H.lg σ.H.pg)/\¬w0.F t/\¬w0.F tr/\σ.H.pg.blocks σ.H.dk=N/\σ.H.pg.ring=R/\σ.H.lg.last=dn+1/\fM es0=kv0/\(tb0++dM es0).length=u
def RL (t:Nat)(w:World):Prop:=∃mp ch er,w.heap[t]? =some (.cells (dw mp none ch er) 181 (0,0))
section
variable {w0:gJ} {w:World} {v t N R dn u P:Nat} {kv kv0:List Pr} {ch:Bool}
theorem rV.Bu {w0:World}(h:rV w0 v N R dn u kv w):Below w0.heap.size w0 w:=by obtain⟨_,_,_,_,_,_,_,_,_,_,_,h,_⟩:=h;exact h.Bu
theorem qa.below {w':World}(h:qa w0 v t N R dn u kv0 kv ch P w)(hb:Below w.heap.size w w'):qa w0 v t N R dn u kv0 kv ch P w':=by
 obtain⟨S,tr,mp,σ,root,es,tb,root0,es0,tb0,hA,hB,h1⟩:=h
 exact⟨S,tr,mp,σ,root,es,tb,root0,es0,tb0,hA.below hb,hB.below hb,h1⟩
theorem rV.make (w0:gJ)(w:World)(n:Nat)(log:Nat)(d:Nat)(S:Nat->Prop)(hb:VB w0 w S)(h:qI w S d (Dk.new n))(h1:6<=log)(h2:log+8<=n)(hD:∀σ l p,O8 (Dk.new n) log σ l p->w0.D d σ l p:=by exact fun _ _ _ h=>h.vi.free.2):
  Calls Tryz.prog 25 #[.pointer (some ⟨d,0,none⟩),.int .i64 log] w fun e w'=>∃v,e= .returned (.tuple #[.pointer (some ⟨v,0,none⟩),.int .i64 0])/\rV w0 v (n - log) (log - 1) 0 0 [] w':=by
 refine(R5 d (Dk.new n) S log w h ⟨rfl,rfl⟩ h1 h2 (aN _)).mono ?_
 rintro e w' ⟨v,pg,σ',l',p',S',rfl,hobj,hn,hlo,hp,hN,hs⟩
 refine⟨v,rfl,S',pg,d,σ',l',p',two,0,[],[],⟨hobj,hn,hp,hN.vi.vj,hN.base,O8.live⟩,hb.step hs,⟨hb.new hlo,hD _ _ _ hN⟩,?_,hN.ring,hN.last,rfl,rfl⟩
 unfold Pg.blocks
 rw[hN.n,hN.skip];rfl
theorem rV.begin (h:rV w0 v N R dn u kv w):
  Calls Tryz.prog 77 #[.pointer (some ⟨v,0,none⟩)] w fun e w'=>∃t,e= .returned (.tuple #[.pointer (some ⟨t,0,none⟩),.int .i64 0])/\qa w0 v t N R dn u kv kv false (2+u) w':=by
 obtain⟨S,pg,d,σ,l,p,f,root,es,tb,hA,hB,h1,h2,h3,h4,h5,h6⟩:=h
 refine hA.begin.mono ?_
 rintro e w' ⟨t,tr,mp,S',rfl,_,hmd,hT,hs,hl1,hl2⟩
 have hok:=bR.Ok.start hA.pgr.ok.1 hA.pgr.ok.2.1 hA.base.pd hA.base.sd hA.base.two hA.base.hi hA.base.f0 hA.base.f1
 have hc:countB f (p.blocks σ)=2+(tb++dM es).length:=hA.live.own.count hok hA.live.all
 exact⟨t,rfl,S',tr,mp,_,root,es,tb,root,es,tb,hT,hB.step hs,⟨h1.1,by rw[hmd];exact h1.2⟩,hB.new hl1,hB.new hl2,h2,h3,h4,h5,h5,h6,by rw[<-h6,<-hc];exact aA _⟩
theorem Kt.mF {M S:Nat->Prop}{w':World}{pg d:Nat}{σ:Dk}{l:Lg}{p:Pg}{f:Nat->Bool}{root:Nat}{es:List kS}{tb:List Int}(h:Kt w S v pg d σ l p f root es tb)(hk:Keep M w w')(hM:∀g,S g\/g=v->¬M g):Kt w' S v pg d σ l p f root es tb:=
 ⟨(hk.block v (ah.1 h.obj).1 (hM v (.inr rfl))).trans h.obj,h.nv,h.pgr.keep hk (fun g hg=>hM g (.inl hg)),h.vi,h.base,h.live⟩
theorem vY.mF {M S:Nat->Prop}{w':World}{tr:Nat}{mp:VS}{σ:bR}{root:Int}{es:List kS}{tb:List Int}{root0:Nat}{es0:List kS}{tb0:List Int}(h:vY w S v t tr mp σ root es tb ch root0 es0 tb0)(hk:Keep M w w')(hM:∀g,S g\/g=v\/g=t\/g=tr->¬M g):vY w' S v t tr mp σ root es tb ch root0 es0 tb0:=
 ⟨(hk.block v (ah.1 h.obj).1 (hM v (.inr (.inl rfl)))).trans h.obj,h.nv,h.tx.keep hk (fun g hg=>hM g (hg.imp id .inr)),h.live,h.bas,h.ch⟩
def gJ.next (b:gJ)(w w':World):gJ:=⟨fun g=>b.F g\/(w.heap.size<=g/\g<w'.heap.size),w',b.D⟩
theorem VB.next {S M:Nat->Prop}{w':World}(h:VB w0 w S)(hk:Keep M w w')(hs:∀g,S g->g<w.heap.size):VB (w0.next w w') w' S:=
 ⟨rfl,rfl,rfl,aA _,fun _ _=>rfl,fun g hg=>hg.elim (fun e=>ax (h.fs g e) (aG h.size hk.size)) (fun e=>e.2),fun g hg e=>e.elim (h.lo g hg) (fun e=>absurd (hs g hg) (aV.2 e.1))⟩
theorem gJ.no {w':World}{g:Nat}(h:¬w0.F g)(hg:g<w.heap.size):¬(w0.next w w').F g:=fun e=>e.elim h (fun e=>absurd hg (aV.2 e.1))
theorem rV.next {M:Nat->Prop}{w':World}(h:rV w0 v N R dn u kv w)(hk:Keep M w w')(hM:∀g,M g->w0.F g):rV (w0.next w w') v N R dn u kv w':=by
 obtain⟨S,pg,d,σ,l,p,f,root,es,tb,hA,hB,h1,h2⟩:=h
 have hl:=(ah.1 hA.obj).1
 exact⟨S,pg,d,σ,l,p,f,root,es,tb,hA.mF hk (fun g hg e=>hg.elim (fun x=>hB.lo g x (hM g e)) (fun x=>h1.1 (x▸hM g e))),hB.next hk hA.pgr.sub,⟨gJ.no h1.1 hl,h1.2⟩,h2⟩
theorem qa.next {M:Nat->Prop}{w':World}(h:qa w0 v t N R dn u kv0 kv ch P w)(hk:Keep M w w')(hM:∀g,M g->w0.F g):qa (w0.next w w') v t N R dn u kv0 kv ch P w':=by
 obtain⟨S,tr,mp,σ,root,es,tb,root0,es0,tb0,hA,hB,h1,h2,h3,h4⟩:=h
 have hl:=(ah.1 hA.obj).1
 have hl2:=(ah.1 hA.tx.tx).1
 have hl3:=(ah.1 hA.tx.tree).1
 refine⟨S,tr,mp,σ,root,es,tb,root0,es0,tb0,hA.mF hk (fun g hg e=> ?_),hB.next hk hA.tx.inv.sub,⟨gJ.no h1.1 hl,h1.2⟩,gJ.no h2 hl2,gJ.no h3 hl3,h4⟩
 rcases hg with x|x|x|x
 ·exact hB.lo g x (hM g e)
 ·exact h1.1 (x▸hM g e)
 ·exact h2 (x▸hM g e)
 ·exact h3 (x▸hM g e)
theorem qa.block (h:qa w0 v t N R dn u kv0 kv ch P w){g:Nat}(hg:w0.F g):w.heap[g]? =w0.w.heap[g]? :=by obtain⟨_,_,_,_,_,_,_,_,_,_,_,h,_⟩:=h;exact h.block g hg
theorem qa.sizes {S:Nat->Prop}{tr:Nat}{mp:VS}{σ:bR}{root:Int}{es:List kS}{tb:List Int}{root0:Nat}{es0:List kS}{tb0:List Int}(h:vY w S v t tr mp σ root es tb ch root0 es0 tb0):
  σ.sz<=2+(tb0++dM es0).length+nh σ tb+oI (fM es)/\countB σ.H.old σ.most=2+(tb0++dM es0).length:=by
 have hI:=h.tx.inv
 have e1:=h.live.own.size
 have hm:=hI.ok.most
 obtain⟨hpo,hdo,hlo⟩:σ.H.pg.Ok σ.H.dk σ.H.lg/\σ.H.dk.Ok/\σ.H.lg.Ok:=by obtain⟨Sp,T,q,_⟩:=hI;exact q.pg.ok
 have hB:=h.bas.base
 have hok:=bR.Ok.start hpo hdo hB.pd hB.sd hB.two hB.hi hB.f0 hB.f1
 have hc:countB σ.H.old (σ.H.pg.blocks σ.H.dk)=2+(tb0++dM es0).length:=h.bas.live.own.count hok h.bas.live.all
 rw[<-hm] at hc
 rw[wP,hc] at e1
 have e2:=DW σ (dM es)
 rw[Bq h.live.val] at e2
 exact⟨by omega,hc⟩
theorem Iu (kv:List Pr):3*kv.length<=fQ kv:=by
 induction kv with
 |nil=>exact aN _
 |cons p kv ih=>simp only[fQ,dO,jQ,aU] at*;omega
theorem Oz (kv:List Pr)(key value:ByteArray):3*kv.length<=fQ (gZ kv key value):=by
 refine aG (Nat.mul_le_mul_left 3 ?_) (Iu _)
 unfold gZ
 split
 ·simp
 ·simp;omega
theorem qa.put (h:qa w0 v t N R dn u kv0 kv ch P w)(key value:ByteArray)(hl:kv.length<=4090)(hg:1<=key.size/\key.size<=128)(hv:value.size<=63)(hz:2+fQ (gZ kv key value)<=512)(hP:2+u+oI kv+2*(kv.length+1)+jI value<=P):
  Calls Tryz.prog 411 #[.pointer (some ⟨t,0,none⟩),.string key,.string value] w fun e w'=>
   (e= .returned (.int .i64 0)/\qa w0 v t N R dn u kv0 (gZ kv key value) (ch|| !decide (cu kv key=some value)) P w')\/
   (e= .returned (.int .i64 12)/\N<2+u+oI kv+2*(kv.length+1)+jI value/\UC w0 v t N R dn u kv0 w'):=by
 obtain⟨S,tr,mp,σ,root,es,tb,root0,es0,tb0,hA,hB,h1,h2,h3,h4,h5,h6,h7,h8,h9,h10⟩:=h
 obtain⟨e1,e2⟩:=qa.sizes hA
 have hel:es.length=kv.length:=by rw[<-h7,kG]
 rw[h9,h7] at e1
 have hm:=hA.tx.inv.ok.most
 refine(hA.put key value (by omega) hg hv ⟨by have:=Iu kv;have:=Oz kv key value;omega,by rw[h7];exact hz⟩).mono ?_
 rintro e w' (⟨rfl,σ',S',root',es',tb',q1,q2,q3,q4,q5,q6,q7⟩|⟨rfl,q0,σ',S',q1,q2,q3⟩)
 ·refine .inl ⟨rfl,S',tr,mp,σ',root',es',tb',root0,es0,tb0,?_,hB.KV h2 h3 q5,⟨h1.1,by rw[q3];exact h1.2⟩,h2,h3,by rw[q4,h4],by rw[q3,h5],by rw[q3,h6],by rw[q2,h7],h8,h9,q6 P (by omega) h10⟩
  rw[h7] at q1;exact q1
 ·exact .inr ⟨rfl,by omega,S',tr,mp,σ',ch,root0,es0,tb0,q1,hB.KV h2 h3 q3,⟨h1.1,by rw[q2];exact h1.2⟩,h2,h3,by rw[q2,<-hm,h4],by rw[q2,h5],by rw[q2,h6],h8,h9⟩
def Ii (k:Nat):Nat:=(16+520*k+511)/512
def Uk (kv:List Pr)(σ:Dk)(l:Lg)(p:Pg)(σ':Dk)(l':Lg)(p':Pg):Prop:=∃im f root es tb,Nk σ l p im σ' l' p'/\fM es=kv/\xR σ' l' p' f root/\Live (bR.start σ' l' p' f) root es tb
def UA (b:gJ)(v d:Nat)(σ:Dk)(l:Lg)(p:Pg)(w:World):Prop:=∃S pg op,w.heap[v]? =some (.cells #[.pointer (some ⟨pg,0,none⟩)] 130 (0,0))/\¬S v/\iF w S pg d σ l p op/\VB b w S/\¬b.F v
def Tv (b:gJ)(v N R dn:Nat)(w:World):Prop:=∃d σ l p σ' l' p',b.D d σ l p/\l.last=dn+1/\p.blocks σ=N/\p.ring=R/\IX σ l p σ' l' p'/\UA b v d σ' l' p' w
theorem qa.ML (h:qa w0 v t N R dn u kv0 kv ch P w)(hd:dn<=100000000)(D':Nat->Dk->Lg->Pg->Prop)(hD:∀d σ l p σ' l' p',w0.D d σ l p->l.last=dn+1->p.blocks σ=N->Uk kv σ l p σ' l' p'->D' d σ' l' p'):
  Calls Tryz.prog 62 #[.pointer (some ⟨t,0,none⟩)] w fun e w'=>RL t w'/\(
   (ch=false/\kv=kv0/\e= .returned (.tuple #[.int .i64 dn,.int .i64 0])/\rV w0 v N R dn u kv0 w')\/
   (ch=true/\(R<Ii (P - u)\/1024<P - u)/\e= .returned (.tuple #[.int .i64 0,.int .i64 13])/\rV w0 v N R dn u kv0 w')\/
   (ch=true/\e= .returned (.tuple #[.int .i64 ((dn+1:Nat):Int),.int .i64 0])/\∃u',rV (w0.to D') v N R (dn+1) u' kv w')\/
   (ch=true/\e= .returned (.tuple #[.int .i64 0,.int .i64 10])/\Tv w0 v N R dn w')):=by
 obtain⟨S,tr,mp,σ,root,es,tb,root0,es0,tb0,hA,hB,h1,h2,h3,h4,h5,h6,h7,h8,h9,h10⟩:=h
 have hm:=hA.tx.inv.ok.most
 obtain⟨_,e2⟩:=qa.sizes hA
 refine(hA.Cw (by omega)).mono ?_
 rintro e w' ⟨⟨S',hs,(⟨rfl,q1,rfl,q2⟩|⟨rfl,⟨r,q1,q2,q3,q4⟩,rfl,q5⟩|⟨rfl,rfl,σ',l',p',root',im,q1,q2,q3⟩|⟨rfl,rfl,σ',l',p',q1,q2,q3,q4⟩)⟩,hdt⟩
 all_goals have hB':=hB.KV h2 h3 hs
 all_goals refine⟨⟨_,_,_,hdt⟩,?_⟩
 ·refine .inl ⟨rfl,by rw[<-h7,<-h8,q1],by rw[show (σ.H.lg.last:Int) - 1=dn by omega],S',_,_,_,_,_,_,root0,es0,tb0,q2,hB',h1,by rw[<-hm,h4],h5,h6,h8,h9⟩
 ·refine .inr (.inl ⟨rfl,?_,rfl,S',_,_,_,_,_,_,root0,es0,tb0,q5,hB',h1,by rw[<-hm,h4],h5,h6,h8,h9⟩)
  unfold Pg.pu at q2
  rw[Ih q3,h5] at q2
  unfold Ii
  rw[e2,h9] at q4
  omega
 ·exact .inr (.inr (.inl ⟨rfl,by rw[h6],_,S',_,_,σ',l',p',_,root',es,tb,q1,hB'.to,⟨h1.1,hD _ _ _ _ _ _ _ h1.2 h6 (by rw[<-hm,h4]) ⟨im,_,_,_,_,q2,h7,q1.base,q1.live⟩⟩,by rw[q3,h4],by rw[q2.ring,h5],by rw[q2.last,h6],h7,rfl⟩))
 ·exact .inr (.inr (.inr ⟨rfl,rfl,mp.d,_,_,_,σ',l',p',h1.2,h6,by rw[<-hm,h4],h5,q1,S',mp.pg,_,q3,q4,q2,hB',h1.1⟩))
theorem qa.Cw (h:qa w0 v t N R dn u kv0 kv ch P w)(hd:dn<=100000000)(hc:w0.Calm:=by exact OW rfl):
  Calls Tryz.prog 62 #[.pointer (some ⟨t,0,none⟩)] w fun e w'=>RL t w'/\(
   (ch=false/\kv=kv0/\e= .returned (.tuple #[.int .i64 dn,.int .i64 0])/\rV w0 v N R dn u kv0 w')\/
   (ch=true/\(R<Ii (P - u)\/1024<P - u)/\e= .returned (.tuple #[.int .i64 0,.int .i64 13])/\rV w0 v N R dn u kv0 w')\/
   (ch=true/\e= .returned (.tuple #[.int .i64 ((dn+1:Nat):Int),.int .i64 0])/\∃u',rV w0 v N R (dn+1) u' kv w')):=by
 refine(h.ML hd w0.D fun d σ l p σ' l' p' e _ _ ⟨_,_,_,_,_,q,_⟩=>hc.two e (q.fu (hc.one e))).mono ?_
 rintro e w' ⟨hdt,(h|h|h|⟨_,_,_,_,_,_,_,_,_,q,_,_,_,q2,_⟩)⟩
 ·exact⟨hdt,.inl h⟩
 ·exact⟨hdt,.inr (.inl h)⟩
 ·exact⟨hdt,.inr (.inr h)⟩
 ·exact absurd (hc.one q) q2.fu
theorem qa.scan (h:qa w0 v t N R dn u kv0 kv ch P w)(key:ByteArray)(most:Int)(hl:kv.length<=4090):
  Calls Tryz.prog 238 #[.pointer (some ⟨t,0,none⟩),.string key,.int .i64 most] w fun e w'=>∃x,e= .returned (.tuple #[x,.int .i64 0])/\aQ w' d9 w.heap.size 188 2 x (qF kv key most).length (bZ (qF kv key most))/\qa w0 v t N R dn u kv0 kv ch P w'/\Below w.heap.size w w':=by
 obtain⟨S,tr,mp,σ,root,es,tb,root0,es0,tb0,hA,hB,h1,h2,h3,h4,h5,h6,h7,h8⟩:=h
 refine(hA.scan key most (by rw[<-kG,h7];exact hl)).mono ?_
 rintro e w' ⟨x,rfl,hx,hb⟩
 rw[h7] at hx
 exact⟨x,rfl,hx.other (fun g _ e=>e.elim),⟨S,tr,mp,σ,root,es,tb,root0,es0,tb0,hA.below hb,hB.below hb,h1,h2,h3,h4,h5,h6,h7,h8⟩,hb⟩
end
structure Kv (kv:List Pr)(n:Nat):Prop where
 rise:gu kv
 len:kv.length<=n
 val:∀p∈kv,p.2.size<=49152
def Q9 (t:ByteArray):ByteArray:=⟨#[108]++t.data⟩
def jh.key (l:jh):ByteArray:=Q9 l.token
def jh.pair (l:jh):Pr:=(l.key,strOf l.enc)
structure jh.Fit (l:jh):Prop where
 tok:l.token.size<=60
 segs:l.path.length<=12
 seg:∀s∈l.path,s.size<=64
 own:l.owner.size<=512
 till: -9223372036854775808<=l.till/\l.till<9223372036854775808
theorem Kb (s:ByteArray):s.data.toList.length=s.size:=by show s.data.toList.length=s.data.size;simp
structure UG (ls:List jh):Prop where
 rise:gu (ls.map jh.pair)
 fit:∀l∈ls,l.Fit
 len:ls.length<=33
def Ub (ls:List jh)(l:jh):List jh:=ls.take (cZ (ls.map jh.pair) l.key)++l::ls.drop (cZ (ls.map jh.pair) l.key+(if oW (ls.map jh.pair) l.key then 1 else 0))
def Lh (s:ByteArray):Bool:=decide (0<s.size) && (!decide (s=⟨#[46]⟩) && (!decide (s=⟨#[46,46]⟩) && (decide (s.size<=64) && (Lib.validD s.data.toList && !Lib.containsAny s.data.toList [47,0]))))
def pX (p:List ByteArray):Bool:=p.all Lh && decide (p.length<=12)
def TI (c:UInt8):Bool:=decide (33<=c.toNat/\c.toNat<=126/\c.toNat≠60/\c.toNat≠62)
def jh.good (l:jh):Bool:=l.token.data.toList.all TI && (decide (0<l.token.size) && (decide (l.token.size<=60) && (pX l.path && decide (l.owner.size<=512))))
def live (now:Int)(ls:List jh):List jh:=ls.filter fun l=>decide (now<l.till)
def Ui (ls:List jh)(l:jh)(now:Int):Int:=
 if l.good=false\/l.till<=now then 1
 else if (live now ls).any (fun x=>decide (x.token=l.token)) then 3
 else if (live now ls).any (fun x=>x.clash l) then 63
 else if 32<=(live now ls).length then 4
 else 0
def Uz (ls:List jh)(l:jh)(now:Int):List jh:=if Ui ls l now=0 then Ub (live now ls) l else ls
end Go.Proofs.YtpmbddooibgnaaaGreatDoor
namespace Go.Proofs.YtpmbddooibgnaaaGreatDoor
open Go.RowKit Go.Shelf
def kQ (w:World):Prop:=Lib.Utf8Tabs (fK.g 3) (fK.g 4) w
theorem kQ.below {w w':World}(h:kQ w)(hb:Below w.heap.size w w'):kQ w':=Utf8Tabs_below h hb
theorem Jt {s:ByteArray}:decide (0<s.size)= !s.toList.isEmpty:=by
 have hb:=Kb s
 rw[Lib.toList_data]
 cases h:s.data.toList with
 |nil=>
  rw[h,ja] at hb
  rw[<-hb];rfl
 |cons a l=>
  rw[h,aU] at hb
  rw[eT (by omega)];rfl
theorem Dg (s:ByteArray)(w:World)(hs:s.size<=9223372036854775807)(hT:kQ w):
  Calls Tryz.prog 324 #[.string s] w fun e w'=>e= .returned (.bool (Lh s))/\Below w.heap.size w w':=by
 have hv0:Calls Tryz.prog 249 #[.string s] w fun e w'=>e= .returned (.bool (Lib.validD s.data.toList))/\Below w.heap.size w w':=Any.utf8_ValidString FH s w hs hT
 have HV:=af hv0
 have HC:=af (fun (W:World) (h:s.size<=64)=>MQ s W h)
 have tl:∀l:List UInt8,s.toList=l↔s=⟨l.toArray⟩:=fun l=>by
  rw[Lib.toList_data]
  constructor
  ·intro h;cases s;exact congrArg ByteArray.mk (Nv (by simpa using h))
  ·intro h;rw[h]
 have t1:=tl [46]
 have t2:=tl [46,46]
 unfold Lh
 rw[Jt]
 obtain⟨V,hV⟩:∃V,Lib.validD s.data.toList=V:=⟨_,rfl⟩
 obtain⟨C,hC⟩:∃C,Lib.containsAny s.data.toList [47,0]=C:=⟨_,rfl⟩
 rw[hV] at HV ⊢
 rw[hC] at HC ⊢
 clear hv0 hV hC hT tl
 obtain⟨D1,hD1⟩:∃D,decide (s=⟨#[46]⟩)=D:=⟨_,rfl⟩
 obtain⟨D2,hD2⟩:∃D,decide (s=⟨#[46,46]⟩)=D:=⟨_,rfl⟩
 rw[hD1,hD2]
 have f1:(s.toList=[46])=(D1=true):=by rw[<-hD1,dB];exact propext t1
 have f2:(s.toList=[46,46])=(D2=true):=by rw[<-hD2,dB];exact propext t2
 clear hD1 hD2 t1 t2
 obtain⟨E,hE⟩:∃E,s.toList.isEmpty=E:=⟨_,rfl⟩
 rw[hE]
 go_enter Tryz.func324,Tryz.ntmps324
 cases E with
 |true=>
  go_wp2
  go_ret
  exact⟨rfl,aH _ _⟩
 |false=>
  cases D1 with
  |true=>
   have g1:s.toList=[46]:=f1▸rfl
   clear f1 f2
   go_wp2
   go_ret
   exact⟨rfl,aH _ _⟩
  |false=>
   have g1:¬s.toList=[46]:=by rw[f1];simp
   cases D2 with
   |true=>
    have g2:s.toList=[46,46]:=f2▸rfl
    clear f1 f2
    go_wp2
    go_ret
    exact⟨rfl,aH _ _⟩
   |false=>
    have g2:¬s.toList=[46,46]:=by rw[f2];simp
    clear f1 f2
    by_cases h64:s.size<=64
    ·have hz:(s.size:Int)<=64:=by omega
     rw[eT h64]
     cases V with
     |false=>
      go_wp2_with (first
       |(go_at_call 249;go_must (refine HV.out.mono ?_;rintro e w1 ⟨rfl,hb1⟩)))
      go_ret
      exact⟨rfl,hb1⟩
     |true=>
      go_wp2_with (first
       |(go_at_call 249;go_must (refine HV.out.mono ?_;rintro e w1 ⟨rfl,hb1⟩))
       |(go_at_call 250;go_must (refine(HC.out _ h64).mono ?_;rintro e w2 ⟨rfl,hb2⟩)))
      go_ret
      exact⟨by simp[g1,g2],hb1.trans (hb2.mono hb1.size)⟩
    ·have hz:¬(s.size:Int)<=64:=by omega
     rw[bH h64]
     go_wp2
     go_ret
     exact⟨rfl,aH _ _⟩
theorem KT (pv:Value)(path:List ByteArray)(S:Nat->Prop)(w:World)(hp:nH w S pv path)(hs:∀s∈path,s.size<=9223372036854775807)(hT:kQ w):
  Calls Tryz.prog 208 #[pv] w fun e w'=>e= .returned (.bool (pX path))/\Below w.heap.size w w':=by
 obtain⟨po,pc,rfl,h1,h2,_,_⟩:=jf.form hp
 have HP:=af hp;have HS:=af hs;have HT:=af hT
 obtain⟨R,hR⟩:∃R,Hid (pX path=R):=⟨_,af rfl⟩
 rw[hR.out]
 clear hp hs hT
 go_enter Tryz.func208,Tryz.ntmps208
 go_upto_region 2 with (fail)
 go_loopw [4,7] (fun _ i wr=>∃k:Nat,k<=path.length/\i= .int .i64 k/\(path.take k).all Lh=true/\Below w.heap.size w wr) (fun _ i _=>path.length - (intOf i).toNat)
 case atStart=>exact⟨0,aN _,rfl,rfl,aH _ _⟩
 case round=>
  obtain⟨k,hk,rfl,hall,hbw⟩:=hrel
  by_cases hkl:k<path.length
  ·have hkl':(k:Int)<(path.length:Int):=by omega
   obtain⟨ga,oa,rfl,da⟩:=jf.Bz (jf.below HP.out hbw) rfl k (.string path[k]) (by rw[dH,bD hkl];rfl)
   have la:=aD wr _ da
   have htk:path.take (k+1)=path.take k++[path[k]]:=aM hkl
   have hsz:=HS.out path[k] (bI hkl)
   have hmem:=bI hkl
   obtain⟨sg,hsg⟩:∃sg,Hid (path[k]=sg):=⟨_,af rfl⟩
   rw[hsg.out] at da htk hsz hmem
   have hsc:=Dg sg wr hsz (HT.out.below hbw)
   obtain⟨C,hC⟩:∃C,Hid (Lh sg=C):=⟨_,af rfl⟩
   rw[hC.out] at hsc
   have HSC:=af hsc
   have HX:=af (ak htk (ak hall (ak hbw hmem)))
   clear hsc htk hall hbw hmem hsz
   cases C with
   |false=>
    have hr:R=false:=by
     rw[<-hR.out]
     unfold pX
     rw[Bool.and_eq_false_iff]
     left
     rw[List.all_eq_false]
     exact⟨sg,HX.out.2.2.2,by rw[hC.out];simp⟩
    go_wp2_with (first
     |(go_at_call 324;go_must (refine HSC.out.mono ?_;rintro e w3 ⟨rfl,hb3⟩)))
    go_ret
    exact⟨by simp[hr],HX.out.2.2.1.trans (hb3.mono HX.out.2.2.1.size)⟩
   |true=>
    go_wp2_with (first
     |(go_at_call 324;go_must (refine HSC.out.mono ?_;rintro e w3 ⟨rfl,hb3⟩)))
    have HB3:=af (HX.out.2.2.1.trans (hb3.mono HX.out.2.2.1.size))
    clear hb3
    go_roundw
    case rel=>
     refine⟨k+1,by omega,by go_num,?_,HB3.out⟩
     rw[HX.out.1,List.all_append,HX.out.2.1]
     simp[hC.out]
    case measure=>simp[intOf];omega
  ·obtain rfl:k=path.length:=by omega
   have x2:¬(path.length:Int)<(path.length:Int):=by omega
   rw[bW] at hall
   have HX:=af (ak hall hbw)
   clear hall hbw
   by_cases h12:path.length<=12
   ·have hz:(path.length:Int)<=12:=by omega
    have hr:R=true:=by rw[<-hR.out];unfold pX;rw[HX.out.1,eT h12];rfl
    clear h12
    go_wp2_with (fail)
    go_ret
    exact⟨by simp[hr],HX.out.2⟩
   ·have hz:¬(path.length:Int)<=12:=by omega
    have hr:R=false:=by rw[<-hR.out];unfold pX;rw[HX.out.1,bH h12];rfl
    clear h12
    go_wp2_with (fail)
    go_ret
    exact⟨by simp[hr],HX.out.2⟩
def ji:ByteArray:=⟨#[97]⟩
theorem Qq (w:World):Calls Tryz.prog 165 #[.string mq] w fun e w'=>e= .returned (.tuple #[.string mq,.bool true])/\w'=w:=by
 have HC:=af (Ef mq ⟨#[104,116,116,112,58,47,47]⟩ w mq false (by kernel_rfl) (by kernel_rfl))
 go_enter Tryz.func165,Tryz.ntmps165
 go_wp2_with (first
  |(go_at_call 239;go_must (refine HC.out.mono ?_;rintro e w1 ⟨rfl,hw⟩;subst w1)))
 go_ret2
 exact⟨rfl,rfl⟩
def TQ (c:UInt8):Bool:=decide (33<=c.toNat) && decide (c.toNat<=126) && decide (c.toNat≠63) && decide (c.toNat≠35)
theorem Qn (s:ByteArray)(w:World)(hs:s.size<=1000000)(h:s.data.toList.all TQ=true):
  Calls Tryz.prog 166 #[.string s] w fun e w'=>e= .returned (.bool true)/\w'=w:=by
 have HB:Hid (∀k (hk:k<s.size),TQ (s[k]'hk)=true):=af (fun k hk=>bytes_at h hk)
 clear h
 go_enter Tryz.func166,Tryz.ntmps166
 go_wp2
 go_loopw [3,6] (fun _ i wr=>∃k:Nat,k<=s.size/\i= .int .i64 k/\wr=w) (fun _ i _=>s.size - (intOf i).toNat)
 case atStart=>exact⟨0,aN _,rfl,rfl⟩
 case round=>
  obtain⟨k,hk,rfl,hwr⟩:=hrel
  subst hwr
  by_cases hkl:k<s.size
  ·have hkl':(k:Int)<(s.size:Int):=by omega
   have hb:=HB.out k hkl
   obtain⟨x,hx⟩:∃x:UInt8,s[k]'hkl=x:=⟨_,rfl⟩
   rw[hx] at hb
   simp only[TQ,dI,dB] at hb
   have x1:¬((x.toNat:Int)<33):=by omega
   have x2:¬((126:Int)<(x.toNat:Int)):=by omega
   have x3:((x.toNat:Int)==63)=false:=by simp;omega
   have x4:((x.toNat:Int)==35)=false:=by simp;omega
   clear hb
   go_wp2_with fail
   go_roundw
   case rel=>exact⟨k+1,by omega,by go_num,by trivial⟩
   case measure=>simp[intOf];omega
  ·obtain rfl:k=s.size:=by omega
   have x2:¬(s.size:Int)<(s.size:Int):=by omega
   go_wp2_with fail
   go_ret
   exact⟨rfl,rfl⟩
theorem NE (w:World)(hT:kQ w):Calls Tryz.prog 168 #[.string ji] w fun e w'=>e= .returned (.tuple #[.string ji,.bool true])/\Below w.heap.size w w':=by
 have hu0:=pK.new w w.heap.size (aA _)
 have hb1:=aC w (.cells #[.pointer none,.slice none 0 0] 156)
 obtain⟨w1,hw1⟩:∃x:World,Hid (w.alloc (.cells #[.pointer none,.slice none 0 0] 156)=x):=⟨_,af rfl⟩
 rw[hw1.out] at hb1 hu0
 obtain⟨bb,hbb⟩:∃x:Nat,Hid (w.heap.size=x):=⟨_,af rfl⟩
 have HT:=af hT
 have HA:=af (ak hu0 hb1)
 clear hT hu0 hb1
 go_enter Tryz.func168,Tryz.ntmps168
 go_upto_region 2 with (fail)
 rw[hw1.out,hbb.out]
 go_wp2_with fail
 go_loopw [5,6] (fun i _ wr=>((i= .int .i64 0/\pK wr w.heap.size bb [])\/(i= .int .i64 1/\pK wr w.heap.size bb [97]))/\Below w.heap.size w wr) (fun i _ _=>1 - (intOf i).toNat)
 case atStart=>exact⟨.inl ⟨rfl,hbb.out▸HA.out.1⟩,HA.out.2⟩
 case round=>
  obtain⟨hh,hbel⟩:=hrel
  rcases hh with ⟨rfl,hu⟩|⟨rfl,hu⟩
  ·have HB:=af (OX w.heap.size bb [] 97 wr hu hbel.size (by simp) (by omega))
   have HBL:=af hbel
   clear hu hbel
   go_wp2_with (first
    |(go_at_call 248;go_must (refine HB.out.mono ?_;rintro e w3 ⟨rfl,hu3,hb3⟩)))
   go_roundw
   case rel=>exact⟨.inr ⟨by go_num,hu3⟩,HBL.out.trans hb3⟩
   case measure=>simp[intOf]
  ·have HB:=af (Bp w.heap.size bb [97] wr hu)
   have HBL:=af hbel
   have HV:=af (fun (W:World) (h:kQ W)=>Any.utf8_ValidString FH ji W (by decide) h)
   have HC:=af (fun (W:World)=>MQ ji W (by decide))
   have hv:Lib.validD ji.data.toList=true:=by kernel_rfl
   have hc:Lib.containsAny ji.data.toList [47,0]=false:=by kernel_rfl
   rw[hv] at HV
   rw[hc] at HC
   clear hu hbel hv hc
   go_wp2_with (first
    |(go_at_call 67;go_must (refine HB.out.mono ?_;rintro e w3 ⟨rfl,hb3⟩))
    |(go_at_call 249;go_must (refine(HV.out _ (HT.out.below (HBL.out.trans hb3))).mono ?_;rintro e w4 ⟨rfl,hb4⟩))
    |(go_at_call 250;go_must (refine(HC.out _).mono ?_;rintro e w5 ⟨rfl,hb5⟩)))
   go_ret2
   have h3:=HBL.out.trans hb3
   have h4:=h3.trans (hb4.mono h3.size)
   exact⟨rfl,h4.trans (hb5.mono h4.size)⟩
theorem Qo (w:World)(hT:kQ w)(hm:jZ w):Calls Tryz.prog 109 #[.string mq] w fun e w'=>∃v,e= .returned (.tuple #[v,.bool false,.int .i64 0])/\aQ w' d9 w.heap.size 9 1 v 1 [.string ji]/\Below w.heap.size w w':=by
 have HP:=af (Qn mq w (by decide) (by decide))
 have HS:=af (Ou mq ⟨#[47]⟩ w true (by kernel_rfl))
 have HL:=af (Qq w)
 have HSp:=af (wS ji ⟨#[47]⟩ w [ji] hm ⟨by decide,by decide⟩ (by kernel_rfl) (by kernel_rfl))
 have HT:=af hT
 have hb1:=aC w (.cells #[.string ji] 9)
 have hn1:=aF w (.cells #[.string ji] 9)
 have HA:=af hb1
 clear hT hm
 go_enter Tryz.func109,Tryz.ntmps109
 go_wp2_with (first
  |(go_at_call 165;go_must (refine HL.out.mono ?_;rintro e w1 ⟨rfl,hw⟩;subst w1))
  |(go_at_call 166;go_must (refine HP.out.mono ?_;rintro e w1 ⟨rfl,hw⟩;subst w1))
  |(go_at_call 167;go_must (refine HS.out.mono ?_;rintro e w1 ⟨rfl,hw⟩;subst w1))
  |(go_at_call 108;go_must (refine HSp.out.mono ?_;rintro e w1 ⟨rfl,hw⟩;refine Stop.of ?_)))
 refine Stop.on ?_
 obtain⟨w1,hw1⟩:∃x:World,Hid (w.alloc (.cells #[.string ji] 9)=x):=⟨_,af rfl⟩
 have hn1':w1.heap[w.heap.size]? =some (.cells #[.string ji] 9 (0,0)):=by rw[<-hw1.out];exact hn1
 have hb1':Below w.heap.size w w1:=by rw[<-hw1.out];exact hb1
 rw[hw1.out]
 obtain⟨pb,hpb⟩:∃x:Nat,Hid (w.heap.size=x):=⟨_,af rfl⟩
 rw[hpb.out] at hn1'
 rw[hpb.out]
 have HX:=af (ak hb1' hn1')
 have HQ:=af (fun (W:World) (h:kQ W)=>NE W h)
 clear hn1 hb1 hn1' hb1'
 go_wp2_with fail
 go_loopw [7,8,10,11,12,34,53,56] (fun l d _ _ _ i _ _ wr=>((i= .int .i64 0/\l= .slice none 0 0)\/(i= .int .i64 1/\aQ wr d9 w.heap.size 9 1 l 1 [.string ji]))/\d= .bool false/\Below w.heap.size w wr/\wr.heap[pb]? =some (.cells #[.string ji] 9 (0,0))) (fun _ _ _ _ _ i _ _ _=>1 - (intOf i).toNat)
 case atStart=>exact⟨.inl ⟨rfl,rfl⟩,rfl,HX.out.1,HX.out.2⟩
 case round=>
  obtain⟨hh,rfl,hbel,hn⟩:=hrel
  rcases hh with ⟨rfl,rfl⟩|⟨rfl,ho⟩
  ·have c0:wr.cell? ⟨pb,0,none⟩=some (.string ji):=by simp[World.cell?,hn]
   have lp:=(ah.1 hn).1
   have HR:=af (ak hbel hn)
   have x1:¬((64:Int)<(ji.size:Int)):=by decide
   have x2:ji.toList.isEmpty=false:=by kernel_rfl
   have x3:(ji.toList==[46])=false:=by kernel_rfl
   have x4:(ji.toList==[46,46])=false:=by kernel_rfl
   clear hbel hn
   go_wp2_with (first
    |(go_at_call 168;go_must (refine(HQ.out _ (HT.out.below HR.out.1)).mono ?_;rintro e w3 ⟨rfl,hb3⟩;refine Stop.of ?_)))
   refine Stop.on ?_
   have h13:Below w.heap.size w w3:=HR.out.1.trans (hb3.mono HR.out.1.size)
   have hn3:=(hb3.block pb lp).trans HR.out.2
   have hb4:=aC w3 (.cells #[.string ji] 9)
   have hz:(w3.alloc (.cells #[.string ji] 9)).heap.size=w3.heap.size+1:=by simp
   have ho0:aQ (w3.alloc (.cells #[.string ji] 9)) d9 w.heap.size 9 1 (.slice none 0 0) 0 []:=aQ.nil _ _ _ _ _
   clear c0 lp
   go_wp2_with (at_builtin;go_must ((refine dS rfl (.tmp 49) (.tmp 51) 146 146 rfl d9 w.heap.size 9 1 16 _ iV vB rfl (.slice none 0 0) 0 _ rfl ho0 (.slice (some ⟨w3.heap.size,0,none⟩) 1 1) 1 [.string ji] rfl (iq [.string ji] 9 1 1 1 rfl iV rfl (by intro u hu;simp only[aX,cK,iL] at hu;subst hu;rfl)) (fun g hg=>hg.elim) ?_ ?_ ?_ ?_);(focus (have:=h13.size;have:=hb4.size;omega));(focus (unfold maxLen;omega));(focus omega);intro ao3 c3 w5 hown3 hk3 hb5 hd3))
   go_roundw
   case rel=>
    have h14:=h13.trans (hb4.mono h13.size)
    exact⟨.inr ⟨by go_num,hown3⟩,rfl,h14.trans hb5,(hk3.block pb (by rw[hz];have:=(ah.1 hn3).1;omega) (fun e=>nomatch e)).trans ((hb4.block pb (ah.1 hn3).1).trans hn3)⟩
   case measure=>simp[intOf]
  ·obtain⟨lo,lc,rfl,_⟩:=aW.form ho.dL
   have HR:=af (ak hbel ho)
   clear hbel hn ho
   go_wp2_with fail
   go_ret3
   exact⟨_,rfl,HR.out.2,HR.out.1⟩
end Go.Proofs.YtpmbddooibgnaaaGreatDoor
namespace Go.Proofs.YtpmbddooibgnaaaGreatDoor
open Go.RowKit
theorem SG (t:Nat)(w:World):Calls Tryz.prog 105 #[.pointer (some ⟨t,0,none⟩)] w fun e w'=>e= .returned (.pointer (some ⟨w.heap.size,0,none⟩))/\w'.heap[w.heap.size]? =some (.cells #[.pointer (some ⟨t,0,none⟩)] 298 (0,0))/\Below w.heap.size w w':=by
 go_enter Tryz.func105,Tryz.ntmps105
 go_wp2
 go_ret
 exact⟨rfl,aF w _,aC w _⟩
theorem OA (f:Value)(w:World):Calls Tryz.prog 241 #[.slice none 0 0,f] w fun e w'=>e= .returned (.int .i64 (-1))/\w'=w:=by
 go_enter Tryz.func241,Tryz.ntmps241
 go_wp2
 go_loopw [5,8] (fun _ i wr=>i= .int .i64 0/\wr=w) (fun _ _ _=>0)
 case atStart=>exact⟨rfl,rfl⟩
 case round=>
  obtain⟨rfl,rfl⟩:=hrel
  go_wp2_with fail
  go_ret
  exact⟨rfl,rfl⟩
theorem OM (f:Value)(w:World):Calls Tryz.prog 162 #[.slice none 0 0,f] w fun e w'=>e= .returned (.slice none 0 0)/\w'=w:=by
 go_enter Tryz.func162,Tryz.ntmps162
 go_wp2_with (first
  |(go_at_call 241;go_must (refine(OA f w).mono ?_;rintro e w1 ⟨rfl,rfl⟩)))
 go_ret
 exact⟨rfl,rfl⟩
theorem Dm {a:ByteArray}{l:List UInt8}(h:a.data.toList=l):a=strOf l:=by
 cases a
 exact congrArg ByteArray.mk (Nv (by rw[h]))
theorem lJ (l:List UInt8):(strOf l).size=l.length:=by show l.toArray.size=_;simp
theorem MG (t:List UInt8)(n:Nat):(strOf t).extract 0 n=strOf (t.take n):=Dm (by rw[C8,I5];simp[strOf])
theorem MH (t:List UInt8)(n:Nat):(strOf t).extract n t.length=strOf (t.drop n):=Dm (by
 rw[C8,I5]
 simp only[strOf,List.toList_toArray]
 exact aI (by simp))
def tq (w:World)(rb:Nat)(t:List UInt8):Prop:=w.heap[rb]? =some (.cells #[.string (strOf t),.bool false] 254 (0,0))
theorem tq.cells {w:World}{rb:Nat}{t:List UInt8}(h:tq w rb t):w.cell? ⟨rb,0,none⟩=some (.string (strOf t))/\w.cell? ⟨rb,1,none⟩=some (.bool false)/\w.frozen? ⟨rb,0,none⟩=false/\rb<w.heap.size:=by
 unfold tq at h
 exact⟨by simp[World.cell?,h],by simp[World.cell?,h],by simp[World.frozen?,h],(ah.1 h).1⟩
theorem tq.set {w:World}{rb:Nat}{t:List UInt8}(h:tq w rb t)(n:Nat):tq (w.setCell ⟨rb,0,none⟩ (.string (strOf (t.drop n)))) rb (t.drop n)/\Keep (· =rb) w (w.setCell ⟨rb,0,none⟩ (.string (strOf (t.drop n)))):=by
 refine⟨?_,(Keep.refl (· =rb) w).setCell (p:=⟨rb,0,none⟩) (.inr rfl) _⟩
 unfold tq at h ⊢
 simp[World.setCell,aJ,h]
theorem QK (rb:Nat)(t:List UInt8)(n:Nat)(w:World)(h:tq w rb t)(hn:n<=t.length):
  Calls Tryz.prog 216 #[.pointer (some ⟨rb,0,none⟩),.int .i64 n] w fun e w'=>e= .returned (.string (strOf (t.take n)))/\tq w' rb (t.drop n)/\Keep (· =rb) w w':=by
 obtain⟨c0,c1,f0,lr⟩:=h.cells
 have hsz:=lJ t
 have x1:¬(t.length:Int)<(n:Int):=by omega
 have x2:(n:Int)<=(t.length:Int):=by omega
 have e1:=MG t n
 have e2:=MH t n
 have HP:=af (h.set n)
 obtain⟨p,hp⟩:∃p,strOf (t.take n)=p:=⟨_,rfl⟩
 obtain⟨q,hq⟩:∃q,strOf (t.drop n)=q:=⟨_,rfl⟩
 rw[hp] at e1 ⊢;rw[hq] at e2 HP
 clear hp hq h
 go_enter Tryz.func216,Tryz.ntmps216
 go_wp2
 go_ret
 exact⟨rfl,HP.out.1,HP.out.2⟩
theorem Gh (rb:Nat)(v:Int)(t:List UInt8)(w:World)(h:tq w rb (jD v++t))(hv: -9223372036854775808<=v/\v<9223372036854775808):
  Calls Tryz.prog 134 #[.pointer (some ⟨rb,0,none⟩)] w fun e w'=>e= .returned (.int .i64 v)/\tq w' rb t/\Keep (· =rb) w w':=by
 have hc:=QK rb (jD v++t) 8 w h (by rw[ay,eF];omega)
 rw[bL (by rw[eF];omega),aI (by rw[eF];omega),mo (by rw[eF];omega),CZ (by rw[eF];omega),mG] at hc
 have HC:=af hc
 have hix:∀(i:Nat),i<8->∀W:World,(Instr.index 9 (.string (strOf (jD v))) (.int .i64 (i:Int))).run Tryz.prog W= .ok (.int .u8 (v/(256^i:Nat)%256)) W:=by
  intro i hi W
  have hb:(jD v)[i]? =some (UInt8.ofNat (v/(256^i:Nat)%256).toNat):=by
   unfold jD
   rw[dH,KC hi];rfl
  have:=vD (jD v) i _ hb W
  rw[this]
  have hb2:0<=v/(256^i:Nat)%256/\v/(256^i:Nat)%256<256:=⟨Int.emod_nonneg _ (by decide),Nu _ (by decide)⟩
  congr 2
  rw[dD]
  omega
 have HIX:=af hix
 have hsz:(strOf (jD v)).size=8:=by rw[lJ,eF]
 obtain⟨s,hs⟩:∃s,Hid (strOf (jD v)=s):=⟨_,af rfl⟩
 rw[hs.out] at HC HIX hsz
 have hwr:=Jg v hv
 clear hix hc h
 go_enter Tryz.func134,Tryz.ntmps134
 go_wp2_with (first
  |(go_at_call 216;go_must (refine HC.out.mono ?_;rintro e w1 ⟨rfl,hR1,hk1⟩)))
 have HR:=af (ak hR1 hk1)
 clear hR1 hk1
 go_loopw [4,5] (fun n i wr=>∃k:Nat,k<=8/\n= .int .i64 (IntKind.i64.wrap (uD v k))/\i= .int .i64 ((k:Int) - 1)/\wr=w1) (fun _ i _=>(intOf i+1).toNat)
 case atStart=>exact⟨8,aA _,by rw[K3];rfl,rfl,rfl⟩
 case round=>
  obtain⟨k,hk,rfl,rfl,rfl⟩:=hrel
  by_cases hk0:k=0
  ·subst hk0
   rw[hwr]
   go_wp2_with fail
   go_ret
   exact⟨rfl,HR.out.1,HR.out.2⟩
  ·obtain⟨j,rfl⟩:∃j,k=j+1:=⟨k - 1,by omega⟩
   have hix:=HIX.out j (by omega)
   have hb:=NH v (j+1) (by omega) (by omega)
   have hb2:0<=v/(256^j:Nat)%256/\v/(256^j:Nat)%256<256:=⟨Int.emod_nonneg _ (by decide),Nu _ (by decide)⟩
   have ho:=QT (uD v (j+1)) (v/(256^j:Nat)%256) hb hb2
   rw[<-Jh v j (by omega)] at ho
   have HO:=af ho
   have HW:=af (aS (uD v (j+1)) (by omega))
   clear ho hb hb2
   go_wp2_with fail
   go_roundw
   case rel=>
    refine⟨j,by omega,?_,rfl,trivial⟩
    have e1:=HO.out
    have e2:=HW.out
    rw[IntWalk.i64_left] at e2
    rw[IntWalk.i64_left (uD v (j+1)*256)] at e1
    rw[<-e1,e2]
    simp
   case measure=>simp[intOf]
end Go.Proofs.YtpmbddooibgnaaaGreatDoor
namespace Go.Proofs.YtpmbddooibgnaaaGreatDoor
open Go.RowKit Go.Shelf
structure yh (w:World)(B b:Nat)(l:List UInt8):Prop where
 lo:B<=b
 at_:∃p v,(p= .pointer none\/p= .pointer (some ⟨b,0,none⟩))/\w.heap[b]? =some (.cells #[p,v] 580 (0,0))/\aQ w d9 B 5 1 v l.length (aB l)
theorem SI:liesAt Tryz.prog Tryz.prog.depth 580 (2/Tryz.prog.cellsOf 580) 0 156 1=true:=by kernel_rfl
theorem Lu (B b:Nat)(l:List UInt8)(w:World)(h:yh w B b l):
  Calls Tryz.prog 121 #[.pointer (some ⟨b,0,none⟩)] w fun e w'=>e= .returned (.tuple #[])/\(∃v,w'.heap[b]? =some (.cells #[.pointer (some ⟨b,0,none⟩),v] 580 (0,0))/\aQ w' d9 B 5 1 v l.length (aB l))/\Keep (· =b) w w':=by
 obtain⟨h2,p,v,h3,h4,h5⟩:=h
 rcases h3 with rfl|rfl
 ·obtain⟨j,hj,hjs⟩:=Option.map_eq_some_iff.1 p8.sizeBuilder
  have c0:w.cell? ⟨b,0,none⟩=some (.pointer none):=by simp[World.cell?,h4]
  have hsh:w.shape? b=some (580,2):=by simp[World.shape?,h4]
  have f0:w.frozen? ⟨b,0,none⟩=false:=by simp[World.frozen?,h4]
  have lt:=(ah.1 h4).1
  go_enter Tryz.func121,Tryz.ntmps121
  go_wp2
  rw[Lib.run_to_unsafe w ⟨b,0,none⟩ tN nX hj (by rw[hjs];decide) hsh (Nat.zero_lt_succ 1)]
  simp only[Result.andThen]
  rw[Oper.upon_value]
  go_wp2
  rw[Pj Tryz.func195 (by kernel_rfl) (by kernel_rfl) (by kernel_rfl) (e:=Extern.AbiNoEscape.same) (by kernel_rfl)]
  rw[Lib.run_noEscape]
  simp only[Result.andThen]
  rw[Oper.upon_value]
  go_wp2
  rw[Lib.run_from_unsafe w ⟨b,0,none⟩ nX tN hj hsh SI]
  simp only[Result.andThen]
  rw[Oper.upon_value]
  go_wp2
  go_end0
  have hk:Keep (· =b) w (w.setCell ⟨b,0,none⟩ (.pointer (some ⟨b,0,none⟩))):=(Keep.refl (· =b) _).setCell (p:=⟨b,0,none⟩) (.inr rfl) _
  exact⟨rfl,⟨v,by simp[World.setCell,aJ,h4],h5.keep fun g hg hl hs=>⟨hk.block g hl (fun e=>h5.ne h4 (by decide) (by rw[hg,e])),hs⟩⟩,hk⟩
 ·refine(Any.Builder_copyCheck_used xk p8.toX72 b w (by simp[World.cell?,h4])).mono ?_
  rintro e w' ⟨rfl,rfl⟩
  exact⟨rfl,⟨v,h4,h5⟩,Keep.refl _ _⟩
theorem QL {B b n:Nat}{w1 w3:World}{ao:Option Addr}{c:Nat}{v:Value}{l:List UInt8}(hlo:B<=b)(hb:w3.heap[b]? =some (.cells #[.pointer (some ⟨b,0,none⟩),v] 580 (0,0)))(ho:aQ w3 d9 B 5 1 (.slice ao n c) n (aB l))(hn:n=l.length)(hb3:Below B w1 w3):
  yh (w3.setCell ⟨b,1,none⟩ (.slice ao n c)) B b l/\Below B w1 (w3.setCell ⟨b,1,none⟩ (.slice ao n c)):=by
 subst hn
 have hk:Keep (· =b) w3 (w3.setCell ⟨b,1,none⟩ (.slice ao l.length c)):=(Keep.refl (· =b) _).setCell (p:=⟨b,1,none⟩) (.inr rfl) _
 exact⟨⟨hlo,_,_,.inr rfl,by simp[World.setCell,aJ,hb],ho.keep fun g hg hl hs=>⟨hk.block g hl (fun e=>ho.ne hb (by decide) (by rw[hg,e])),hs⟩⟩,hb3.setCell (p:=⟨b,1,none⟩) hlo _⟩
theorem N7 (B b:Nat)(l:List UInt8)(c:Int)(w:World)(h:yh w B b l)(hB:B<=w.heap.size)(hl:l.length<=1000000)(hc:0<=c/\c<=255):
  Calls Tryz.prog 248 #[.pointer (some ⟨b,0,none⟩),.int .u8 c] w fun e w'=>e= .returned .nilIface/\yh w' B b (l++[UInt8.ofNat c.toNat])/\Below B w w':=by
 have HC:=af (Lu B b l w h)
 have hlo:=h.lo
 clear h
 go_enter Tryz.func248,Tryz.ntmps248
 go_wp2_with (first
  |(go_at_call 121;go_must (refine HC.out.mono ?_;rintro e w1 ⟨rfl,⟨v,hobj,hown⟩,hk1⟩;refine Stop.of ?_)))
 refine Stop.on ?_
 obtain⟨ao,cc,rfl,_,_,_,_⟩:=aW.form hown.dL
 have hbw1:Below B w w1:=hk1.dY hB (fun g hg e=>by have e:g=b:=e;omega)
 have hB1:=aG hB hk1.size
 have c1:w1.cell? ⟨b,1,none⟩=some (.slice ao l.length cc):=by simp[World.cell?,hobj]
 have lt:=(ah.1 hobj).1
 go_wp2_with (first
  |(at_builtin;go_must ((refine dS rfl (.tmp 11) (.tmp 13) 154 154 rfl d9 B 5 1 1 (.int .u8 0) aO iJ rfl (.slice ao l.length cc) _ _ rfl (hown.below (aC _ _)) _ 1 _ rfl (iq [_] _ 1 1 1 (by simp) aO rfl ?_) (fun _ h=>h.elim) ?_ ?_ ?_ ?_);(focus (simp[Value.oneCell']));(focus (simp only[aZ];omega));(focus (unfold maxLen;omega));(focus omega);intro ao3 c3 w3 hown3 hk3 hb3 hd3;refine Stop.of ?_)))
 refine Stop.on ?_
 have hob3:=(hk3.block b (by simp;omega) (fun e=>by
  have:=hown.ne hobj (by decide)
  exact this e)).trans ((aC w1 _).block b lt|>.trans hobj)
 have d1:w3.cell? ⟨b,1,none⟩=some (.slice ao l.length cc):=by simp[World.cell?,hob3]
 have df:w3.frozen? ⟨b,1,none⟩=false:=by simp[World.frozen?,hob3]
 have dl:=(ah.1 hob3).1
 have hcc:aB l++[Value.int .u8 c]=aB (l++[UInt8.ofNat c.toNat]):=by
  rw[eB]
  congr 1
  simp[aB]
  omega
 rw[hcc] at hown3
 have HE:=af (QL (w1:=w) hlo hob3 hown3 (by simp) ((hbw1.trans ((aC w1 _).mono hB1)).trans hb3))
 clear hown3 hcc
 go_wp2_with fail
 go_ret
 exact⟨rfl,HE.out⟩
theorem NZ (l:List UInt8)(v:Int)(k:Nat)(hk:k<8):l++(jD v).take k++[UInt8.ofNat (v/(256^k:Nat)%256).toNat]=l++(jD v).take (k+1):=by
 rw[bC,aM (by rw[eF];exact hk)]
 congr 2
 simp[jD]
theorem QO (v:Int)(k:Nat)(hk:k<8):v/2^(8*(k:Int)).toNat=v/((256^k:Nat):Int):=by
 have h:k=0\/k=1\/k=2\/k=3\/k=4\/k=5\/k=6\/k=7:=by omega
 rcases h with rfl|rfl|rfl|rfl|rfl|rfl|rfl|rfl<;>rfl
theorem Gj (B b:Nat)(l:List UInt8)(v:Int)(w:World)(h:yh w B b l)(hB:B<=w.heap.size)(hl:l.length<=900000):
  Calls Tryz.prog 460 #[.pointer (some ⟨b,0,none⟩),.int .i64 v] w fun e w'=>e= .returned (.pointer (some ⟨b,0,none⟩))/\yh w' B b (l++jD v)/\Below B w w':=by
 have H:=af h
 clear h
 go_enter Tryz.func460,Tryz.ntmps460
 go_upto_region 2 with fail
 go_loopw [5,6] (fun _ i wr=>∃k:Nat,k<=8/\i= .int .i64 k/\yh wr B b (l++(jD v).take k)/\Below B w wr) (fun _ i _=>8 - (intOf i).toNat)
 case atStart=>exact⟨0,by omega,rfl,by rw[gN,fV];exact H.out,aH _ _⟩
 case round=>
  obtain⟨k,hk,rfl,hP,hbw⟩:=hrel
  have HP:=af (ak hP hbw)
  clear hP hbw
  by_cases hk8:k<8
  ·have hkl:(k:Int)<8:=by omega
   have hlen:(l++(jD v).take k).length<=1000000:=by rw[ay,aL];omega
   have hwd:yh wr.drew B b (l++(jD v).take k):=⟨HP.out.1.lo,HP.out.1.at_⟩
   have hBr:B<=wr.drew.heap.size:=aG hB HP.out.2.size
   have hc:=N7 B b (l++(jD v).take k) (v/(256^k:Nat)%256) wr.drew hwd hBr hlen ⟨Int.emod_nonneg _ (by decide),by have:=Nu (v/(256^k:Nat)) (show (0:Int)<256 by decide);omega⟩
   rw[NZ l v k hk8] at hc
   have HC:=af hc
   clear hc hwd hlen hBr
   have hm:IntKind.i64.wrap (8*(k:Int))=8*(k:Int):=by rw[bJ];omega
   have he0:IntKind.u8.wrap (v/2^(8*(k:Int)).toNat)=v/((256^k:Nat):Int)%256:=by rw[<-QO v k hk8,IntKind.wrap_u8]
   obtain⟨q,hq⟩:∃q,Hid (v/((256^k:Nat):Int)=q):=⟨_,af rfl⟩
   rw[hq.out] at he0 HC
   have he:=af he0
   clear he0
   have hk0:=hk8
   clear hk8
   go_wp2_with fail
   refine aK (fun W=>W=wr.drew) (fun i=> !([8].contains i)) [0,1,2,3,4,5,6,7,8] rfl (by kernel_rfl) rfl ?_
   repeat ((refine bq (v:= ?_) rfl rfl (fun _ _ _ h=>h) rfl (fun W hW=> ?_) ?_);rotate_left;(focus ((try dsimp only at hW);subst hW;(go_simp;first|done|with_reducible rfl)));(try simp only[Act.put,aj,av,au]))
   refine jm rfl rfl rfl (by kernel_rfl) ?_;intro K hK;go_simp
   rw[he.out]
   refine HC.out.mono ?_;rintro e w4 ⟨rfl,hP4,hb4⟩
   refine hK.out _ _ ?_
   refine bF ?_
   have HP4:=af (ak hP4 (HP.out.2.trans ((aH B wr).drew.trans hb4)))
   clear hP4 hb4 hm
   go_wp2_with fail
   go_roundw
   case rel=>exact⟨k+1,by omega,by go_num,HP4.out.1,HP4.out.2⟩
   case measure=>simp[intOf];omega
  ·obtain rfl:k=8:=by omega
   go_wp2_with fail
   go_ret
   have e:(jD v).take 8=jD v:=aI (by rw[eF];exact aA 8)
   rw[e] at HP
   exact⟨rfl,HP.out⟩
theorem JF (B b:Nat)(l:List UInt8)(w:World)(h:yh w B b l)(h0:l≠[]):
  Calls Tryz.prog 67 #[.pointer (some ⟨b,0,none⟩)] w fun e w'=>e= .returned (.string ⟨l.toArray⟩)/\Below B w w':=by
 have L:=yT
 have X:=p8
 obtain⟨hlo,p,v,_,hbk,hO⟩:=h
 have hown:=hO.1
 have hl0:l.length≠0:=by simpa using h0
 obtain⟨g,cap,cur,rfl,hbg,hg,hnc,hcm,hcs,htake⟩:∃g cap cur,v= .slice (some ⟨g,0,none⟩) l.length cap/\B<=g/\w.heap[g]? =some (.cells cur (xu.t 5) (0,0))/\l.length<=cap/\cap<=maxLen/\cur.size=cap*1/\cur.toList.take (l.length*1)=Lib.byteCells l:=by
  rcases hown.2 with ⟨_,hz⟩|⟨g,cap,cur,hv,r⟩
  ·exact absurd hz hl0
  ·exact⟨g,cap,cur,hv,r⟩
 have c1:w.drew.cell? ⟨b,1,none⟩=some (.slice (some ⟨g,0,none⟩) l.length cap):=by
  have:w.drew.heap[b]? =some (.cells #[p,.slice (some ⟨g,0,none⟩) l.length cap] 580 (0,0)):=hbk
  rw[Lib.cell_of_heap this];rfl
 have hSD:(Builtin.unsafeSliceData_ #[154] 235 #[.slice (some ⟨g,0,none⟩) l.length cap]).run Tryz.prog w.drew= .ok (.pointer (some ⟨g,0,none⟩)) w.drew:=
  Lib.run_unsafeSliceData_row _ _ _ _ _ _ (by omega)
 have hUS:(Builtin.unsafeString_ #[235,3] 9 #[.pointer (some ⟨g,0,none⟩),.int .i64 l.length]).run Tryz.prog w.drew= .ok (.string ⟨l.toArray⟩) (w.drew.freeze ⟨g,0,none⟩ l.length):=by
  refine Lib.run_unsafeString_row w.drew 235 3 9 (xu.t 5) L.t127 X.cellsByte g cur.size (by have hg':w.drew.heap[g]? =some (.cells cur (xu.t 5) (0,0)):=hg;simp[World.shape?,hg']) l h0 (by omega) (by unfold maxLen at hcm;omega) ?_
  intro j x hx
  have:=hown.cells (g:=g) rfl j (.int .u8 x.toNat) (by simp[aB,hx])
  exact this
 clear hO hown
 have mixed:=L.mixed
 go_enter Tryz.func67,Tryz.ntmps67
 go_wp2
 go_region_o
 all_goals (go_wp2;go_ret;exact⟨rfl,Lib.below_freeze (Below.drew (aH B w)) (p:=⟨g,0,none⟩) hbg _⟩)
theorem Hu (B b:Nat)(l:List UInt8)(w:World)(h:yh w B b l)(h0:l≠[]):
  Calls Tryz.prog 461 #[.pointer (some ⟨b,0,none⟩)] w fun e w'=>e= .returned (.string ⟨l.toArray⟩)/\Below B w w':=by
 have HS:=af (JF B b l w h h0)
 clear h
 go_enter Tryz.func461,Tryz.ntmps461
 go_wp2_with (first
  |(go_at_call 67;go_must (refine HS.out.mono ?_;rintro e w1 ⟨rfl,hb1⟩)))
 go_ret
 exact⟨rfl,hb1⟩
end Go.Proofs.YtpmbddooibgnaaaGreatDoor
namespace Go.Proofs.YtpmbddooibgnaaaGreatDoor
open Go.RowKit
structure TP where
 F:Nat->Prop
 D:Nat->Dk->Lg->Pg->Prop
 v:Nat
 t:Nat
 x:Nat
 N:Nat
 R:Nat
 dn:Nat
 u:Nat
 P:Nat
 kv0:List Pr
def TP.base (p:TP)(w:World):gJ:=⟨p.F,w,p.D⟩
def TP.add (p:TP)(w w':World):TP:={p with F:=fun g=>p.F g\/(w.heap.size<=g/\g<w'.heap.size)}
section
variable {b:gJ} {w w':World} {v t N R dn u P:Nat} {kv kv0:List Pr} {ch:Bool}
theorem qa.Er (h:qa b v t N R dn u kv0 kv ch P w):Keep (fun g=>¬b.F g) b.w w:=by
 obtain⟨_,_,_,_,_,_,_,_,_,_,_,h,_⟩:=h
 exact⟨h.os,h.tape,h.output,h.size,fun k _ hn=>h.block k (Classical.not_not.1 hn)⟩
theorem qa.Ul (h:qa b v t N R dn u kv0 kv ch P w):qa ⟨b.F,w,b.D⟩ v t N R dn u kv0 kv ch P w:=by
 obtain⟨S,tr,mp,σ,root,es,tb,root0,es0,tb0,hA,h,h1⟩:=h
 exact⟨S,tr,mp,σ,root,es,tb,root0,es0,tb0,hA,⟨rfl,rfl,rfl,aA _,fun _ _=>rfl,fun g hg=>ax (h.fs g hg) h.size,h.lo⟩,h1⟩
theorem qa.TJ {F F':Nat->Prop}{D:Nat->Dk->Lg->Pg->Prop}(h:qa ⟨F',w,D⟩ v t N R dn u kv0 kv ch P w)(hF:∀g,F g->F' g):qa ⟨F,w,D⟩ v t N R dn u kv0 kv ch P w:=by
 obtain⟨S,tr,mp,σ,root,es,tb,root0,es0,tb0,hA,h,h1,h2,h3,h4⟩:=h
 exact⟨S,tr,mp,σ,root,es,tb,root0,es0,tb0,hA,⟨rfl,rfl,rfl,aA _,fun _ _=>rfl,fun g hg=>h.fs g (hF g hg),fun g hg e=>h.lo g hg (hF g e)⟩,⟨fun e=>h1.1 (hF _ e),h1.2⟩,fun e=>h2 (hF _ e),fun e=>h3 (hF _ e),h4⟩
theorem qa.Uc (h:qa b v t N R dn u kv0 kv ch P w)(key:ByteArray)(hl:kv.length<=4090)(hg:1<=key.size/\key.size<=128):
  Calls Tryz.prog 215 #[.pointer (some ⟨t,0,none⟩),.string key] w fun e w'=>e= .returned (.tuple #[.string ((cu kv key).getD ByteArray.empty),.bool (cu kv key).isSome,.int .i64 0])/\Below w.heap.size w w':=by
 obtain⟨S,tr,mp,σ,root,es,tb,root0,es0,tb0,hA,hB,h1,h2,h3,h4,h5,h6,h7,h8⟩:=h
 refine(hA.get key (by rw[<-kG,h7];exact hl) hg).mono ?_
 rintro e w' ⟨rfl,hT,hb⟩
 exact⟨by rw[h7],hb⟩
end
structure RT (p:TP)(kv:List Pr)(w:World):Prop where
 ts:∃ch,qa ⟨p.F,w,p.D⟩ p.v p.t p.N p.R p.dn p.u p.kv0 kv ch p.P w
 obj:w.heap[p.x]? =some (.cells #[.pointer (some ⟨p.t,0,none⟩)] 305 (0,0))
 fb:p.F p.x
theorem BX (ps:List Pr)(i:Nat)(k v:ByteArray):oI (ps.set i (k,v))<=oI ps+jI v:=by
 induction ps generalizing i with
 |nil=>exact aN _
 |cons p r ih=>
  cases i with
  |zero=>
   show jI v+oI r<=(jI p.2+oI r)+jI v
   omega
  |succ i=>
   show jI p.2+oI (r.set i (k,v))<=(jI p.2+oI r)+jI v
   have:=ih i
   omega
theorem EW (a b:List Pr):oI (a++b)=oI a+oI b:=by simp[oI]
theorem Ki (ps:List Pr)(k v:ByteArray):oI (gZ ps k v)<=oI ps+jI v:=by
 unfold gZ
 split
 ·exact BX ps _ k v
 ·have h:oI ps=oI (ps.take (cZ ps k))+oI (ps.drop (cZ ps k)):=by rw[<-EW,bG]
  have e:oI ((k,v)::ps.drop (cZ ps k))=jI v+oI (ps.drop (cZ ps k)):=rfl
  rw[EW,e]
  omega
theorem Me (ps:List Pr)(k v:ByteArray):(gZ ps k v).length<=ps.length+1:=by
 unfold gZ
 split
 ·simp
 ·have:=bG (cZ ps k) ps
  have h:ps.length=(ps.take (cZ ps k)).length+(ps.drop (cZ ps k)).length:=by rw[<-ay,this]
  simp only[ay,aU] at*
  omega
theorem yB (a b:List Pr):fQ (a++b)=fQ a+fQ b:=by simp[fQ]
theorem zu (p:Pr)(b:List Pr):fQ (p::b)=3+p.1.size+p.2.size+fQ b:=rfl
theorem Ei (kv:List Pr)(key value:ByteArray):fQ (gZ kv key value)<=fQ kv+(3+key.size+value.size):=by
 have e:=bG (cZ kv key) kv
 unfold gZ
 split
 ·rename_i hat
  obtain⟨hlt,_⟩:=sQ hat
  rw[Pm,if_pos hlt,yB,zu]
  have h1:fQ kv=fQ (kv.take (cZ kv key))+(3+kv[cZ kv key].1.size+kv[cZ kv key].2.size+fQ (kv.drop (cZ kv key+1))):=by
   rw[<-zu,<-dA hlt,<-yB,e]
  show _+(3+key.size+value.size+_)<=_
  omega
 ·have h1:fQ kv=fQ (kv.take (cZ kv key))+fQ (kv.drop (cZ kv key)):=by rw[<-yB,e]
  rw[yB,zu]
  show _+(3+key.size+value.size+_)<=_
  omega
section
variable {p:TP} {kv:List Pr} {w w':World} {M:Nat->Prop}
theorem RT.lt (h:RT p kv w):p.x<w.heap.size:=(ah.1 h.obj).1
theorem RT.c0 (h:RT p kv w):w.cell? ⟨p.x,0,none⟩=some (.pointer (some ⟨p.t,0,none⟩)):=by simp[World.cell?,h.obj]
theorem RT.Ig (h:RT p kv w)(hk:Keep M w w')(hM:∀g,M g->p.F g)(hb:¬M p.x):RT (p.add w w') kv w':=
 ⟨h.ts.imp fun _ q=>q.next hk hM,(hk.block p.x h.lt hb).trans h.obj,.inl h.fb⟩
theorem RT.next (h:RT p kv w)(hb:Below w.heap.size w w'):RT (p.add w w') kv w':=h.Ig (Keep.of_below hb (fun _=>False)) (fun _ e=>e.elim) id
theorem RT.sub {F:Nat->Prop}(h:RT {p with F:=F} kv w)(hF:∀g,p.F g->F g)(hb:p.F p.x):RT p kv w:=⟨h.ts.imp fun _ q=>qa.TJ (F':=F) q hF,h.obj,hb⟩
theorem RT.keep (h:RT p kv w)(hk:Keep M w w')(hM:∀g,M g->p.F g)(hb:¬M p.x):RT p kv w':=(h.Ig hk hM hb).sub (fun _ e=> .inl e) h.fb
theorem RT.below (h:RT p kv w)(hb:Below w.heap.size w w'):RT p kv w':=h.keep (Keep.of_below hb (fun _=>False)) (fun _ e=>e.elim) id
def TP.room (p:TP)(kv:List Pr)(value:ByteArray):Prop:=kv.length<=4090/\2+p.u+oI kv+2*(kv.length+1)+jI value<=p.P/\p.P<=p.N/\value.size<=63/\fQ kv+196<=512
theorem RT.Ud (h:RT p kv w)(key:ByteArray)(hl:kv.length<=4090)(hg:1<=key.size/\key.size<=128):
  Calls Tryz.prog 215 #[.pointer (some ⟨p.t,0,none⟩),.string key] w fun e w'=>e= .returned (.tuple #[.string ((cu kv key).getD ByteArray.empty),.bool (cu kv key).isSome,.int .i64 0])/\Below w.heap.size w w':=by
 obtain⟨ch,ht⟩:=h.ts
 exact ht.Uc key hl hg
theorem RT.QN (h:RT p kv w)(key value:ByteArray)(hg:1<=key.size/\key.size<=128)(hr:p.room kv value):
  Calls Tryz.prog 411 #[.pointer (some ⟨p.t,0,none⟩),.string key,.string value] w fun e w'=>e= .returned (.int .i64 0)/\RT p (gZ kv key value) w'/\Keep (fun g=>¬p.F g) w w':=by
 obtain⟨ch,ht⟩:=h.ts
 obtain⟨r1,r2,r3,r4,r5⟩:=hr
 have e3:=Ei kv key value
 refine(ht.put key value r1 hg r4 (by omega) r2).mono ?_
 rintro e w' (⟨rfl,q⟩|⟨_,q,_⟩)
 ·exact⟨rfl,⟨⟨_,q.Ul⟩,(q.block h.fb).trans h.obj,h.fb⟩,q.Er⟩
 ·omega
end
def TP.rm (p:TP)(kv:List Pr)(k:Nat):Prop:=kv.length+k<=4000/\2+p.u+oI kv+2*(kv.length+k)<=p.P/\p.P<=p.N/\fQ kv+40*k+156<=512
theorem TP.rm.room {p:TP}{kv:List Pr}{k:Nat}{value:ByteArray}(h:p.rm kv (k+1))(hv:value.size<=63):p.room kv value:=by
 obtain⟨h1,h2,h3,h4⟩:=h
 have hb:jI value=0:=if_pos hv
 exact⟨by omega,by rw[hb];omega,h3,hv,by omega⟩
theorem TP.rm.ins {p:TP}{kv:List Pr}{k:Nat}{value:ByteArray}(h:p.rm kv (k+1))(hv:value.size<=63)(key:ByteArray)(hk:key.size+value.size<=37):p.rm (gZ kv key value) k:=by
 obtain⟨h1,h2,h3,h4⟩:=h
 have hb:jI value=0:=if_pos hv
 have e1:=Ki kv key value
 have e2:=Me kv key value
 have e3:=Ei kv key value
 exact⟨by omega,by omega,h3,by omega⟩
theorem NF (t:Nat)(w:World):Calls Tryz.prog 107 #[.pointer (some ⟨t,0,none⟩)] w fun e w'=>e= .returned (.pointer (some ⟨w.heap.size,0,none⟩))/\w'.heap[w.heap.size]? =some (.cells #[.pointer (some ⟨t,0,none⟩)] 305 (0,0))/\Below w.heap.size w w':=by
 have hb:=aC w (.cells #[.pointer (some ⟨t,0,none⟩)] 305)
 have hn:=aF w (.cells #[.pointer (some ⟨t,0,none⟩)] 305)
 go_enter Tryz.func107,Tryz.ntmps107
 go_wp2
 go_ret
 exact⟨rfl,hn,hb⟩
theorem K4 (w:World):Calls Tryz.prog 214 #[.int .i64 0] w fun e w'=>e= .returned (.tuple #[])/\w'=w:=by
 go_enter Tryz.func214,Tryz.ntmps214
 go_wp2
 go_end0
 exact⟨rfl,rfl⟩
def NJ (e:Int):List PanicEntry:=[{v:= .iface 354 (.agg #[.int .i64 e]),recovered:=false}]
theorem uE (n:Int)(w:World):Calls Tryz.prog 361 #[.bool false,.int .i64 n] w fun e w'=>e= .returned (.tuple #[])/\w'=w:=by
 go_enter Tryz.func361,Tryz.ntmps361
 go_wp2
 go_end0
 exact⟨rfl,rfl⟩
section
variable {p:TP} {kv:List Pr} {w:World}
theorem RT.get (h:RT p kv w)(key:ByteArray)(hl:kv.length<=4090)(hg:1<=key.size/\key.size<=128):
  Calls Tryz.prog 133 #[.pointer (some ⟨p.x,0,none⟩),.string key] w fun e w'=>e= .returned (.tuple #[.string ((cu kv key).getD ByteArray.empty),.bool (cu kv key).isSome])/\Below w.heap.size w w':=by
 have HG:=af (h.Ud key hl hg)
 have c0:=h.c0
 have hlt:=h.lt
 obtain⟨q,hq⟩:∃q,Hid (cu kv key=q):=⟨_,af rfl⟩
 rw[hq.out] at HG ⊢
 clear h hl hg
 go_enter Tryz.func133,Tryz.ntmps133
 go_wp2_with (first
  |(go_at_call 215;go_must (refine HG.out.mono ?_;rintro e w1 ⟨rfl,hb1⟩))
  |(go_at_call 214;go_must (refine(K4 _).mono ?_;rintro e w2 ⟨rfl,rfl⟩)))
 go_ret2
 exact⟨rfl,hb1⟩
theorem RT.put (h:RT p kv w)(key value:ByteArray)(hg:1<=key.size/\key.size<=128)(hr:p.room kv value):
  Calls Tryz.prog 368 #[.pointer (some ⟨p.x,0,none⟩),.string key,.string value] w fun e w'=>e= .returned (.tuple #[])/\RT p (gZ kv key value) w'/\Keep (fun g=>¬p.F g) w w':=by
 have HG:=af (h.QN key value hg hr)
 have c0:=h.c0
 have hlt:=h.lt
 clear h hg hr
 go_enter Tryz.func368,Tryz.ntmps368
 go_wp2_with (first
  |(go_at_call 411;go_must (refine HG.out.mono ?_;rintro e w1 ⟨rfl,hR,hk⟩))
  |(go_at_call 214;go_must (refine(K4 _).mono ?_;rintro e w2 ⟨rfl,rfl⟩)))
 go_end0
 exact⟨rfl,hR,hk⟩
theorem RT.Qp (h:RT p [] w)(key:ByteArray):
  Calls Tryz.prog 211 #[.pointer (some ⟨p.x,0,none⟩),.string key] w fun e w'=>e= .returned (.slice none 0 0)/\Below w.heap.size w w':=by
 obtain⟨ch,ht⟩:=h.ts
 have HS:=af (ht.scan key 201 (by simp))
 have c0:=h.c0
 have hlt:=h.lt
 clear h ht
 go_enter Tryz.func211,Tryz.ntmps211
 go_wp2_with (first
  |(go_at_call 238;go_must (refine HS.out.mono ?_;rintro e w1 ⟨x,rfl,hx,_,hb1⟩;refine Stop.of ?_)))
 refine Stop.on ?_
 have hz:(qF ([]:List Pr) key 201).length=0:=by unfold qF;simp
 rw[hz] at hx
 obtain⟨xo,xc,rfl,_,_,_,_⟩:=jf.form hx.JU
 have HB:=af hb1
 clear hx hb1 hz
 go_wp2_with (first
  |(go_at_call 214;go_must (refine(K4 _).mono ?_;rintro e w2 ⟨rfl,hw2⟩;subst w2)))
 go_loopw [7,9,10,11,25] (fun o _ _ _ i wr=>o= .slice none 0 0/\i= .int .i64 0/\wr=w1) (fun _ _ _ _ _ _=>0)
 case atStart=>exact⟨rfl,rfl,rfl⟩
 case round=>
  obtain⟨rfl,rfl,hw⟩:=hrel
  subst wr
  go_wp2_with fail
  go_ret
  exact⟨rfl,HB.out⟩
end
theorem NY (rb:Nat)(w:World)(h:tq w rb []):
  Calls Tryz.prog 134 #[.pointer (some ⟨rb,0,none⟩)] w fun e w'=>e= .returned (.int .i64 0)/\Keep (· =rb) w w':=by
 have hc:Calls Tryz.prog 216 #[.pointer (some ⟨rb,0,none⟩),.int .i64 8] w fun e w'=>e= .returned (.string ⟨#[]⟩)/\Keep (· =rb) w w':=by
  obtain⟨c0,c1,f0,lr⟩:=h.cells
  have hsz:(strOf []).size=0:=rfl
  have f1:w.frozen? ⟨rb,1,none⟩=false:=by unfold tq at h;simp[World.frozen?,h]
  have HK:=af ((Keep.refl (· =rb) w).setCell (p:=⟨rb,1,none⟩) (.inr rfl) (.bool true))
  obtain⟨s,hs⟩:∃s,Hid (strOf []=s):=⟨_,af rfl⟩
  rw[hs.out] at c0 hsz
  clear h
  go_enter Tryz.func216,Tryz.ntmps216
  go_wp2
  go_ret
  exact⟨rfl,HK.out⟩
 have HC:=af hc
 clear hc h
 go_enter Tryz.func134,Tryz.ntmps134
 go_wp2_with (first
  |(go_at_call 216;go_must (refine HC.out.mono ?_;rintro e w1 ⟨rfl,hk1⟩)))
 go_loopw [4,5] (fun n i wr=>n= .int .i64 0/\i= .int .i64 (-1)/\wr=w1) (fun _ _ _=>0)
 case atStart=>exact⟨rfl,rfl,rfl⟩
 case round=>
  obtain⟨rfl,rfl,hw⟩:=hrel
  subst wr
  go_wp2_with fail
  go_ret
  exact⟨rfl,hk1⟩
theorem KW (ao:Option Addr)(path:List ByteArray)(c:Nat)(S:Nat->Prop)(w:World)(hp:nH w S (.slice ao path.length c) path)(h0:path≠[]):
  Calls Tryz.prog 366 #[.slice ao path.length c] w fun e w'=>e= .returned (.tuple #[.slice ao (path.length - 1) c,.string (path.getLast h0)])/\Below w.heap.size w w':=by
 obtain⟨n,hn⟩:∃n,path.length=n+1:=⟨path.length - 1,by have:=gH.2 h0;omega⟩
 have hgl:path[n]? =some (path.getLast h0):=by
  have:=List.getLast?_eq_some_getLast h0
  rw[List.getLast?_eq_getElem?,hn] at this
  exact this
 obtain⟨b,o,rfl,d0⟩:=jf.Bz hp rfl n (.string (path.getLast h0)) (by rw[dH,hgl];rfl)
 obtain⟨s,hs⟩:∃s,Hid (path.getLast h0=s):=⟨_,af rfl⟩
 obtain⟨_,_,e,hc1,hc2,_,_⟩:=jf.form hp
 cases e
 rw[hs.out] at d0 ⊢
 rw[hn] at hc1 ⊢
 rw[show n+1 - 1=n by omega]
 have hbl:=aD w _ d0
 clear hp hs hgl
 have x1:IntKind.i64.wrap ((n:Int)+1 - 1)=(n:Int):=by rw[bJ];omega
 have x2:(0:Int)<=(n:Int):=by omega
 have x3:(n:Int)<=(c:Int):=by omega
 have x4:(n:Int)<(n:Int)+1:=by omega
 go_enter Tryz.func366,Tryz.ntmps366
 go_upto_region 1 with (fail)
 go_quiet (fail)
 go_wp2_with fail
 go_ret2
 exact⟨rfl,below_drewN (aH _ _) _⟩
section
variable {p:TP} {kv:List Pr} {w:World}
def Us (kv:List Pr)(key:ByteArray)(n:Int):Prop:=(cu kv key=none/\n=0)\/(cu kv key=some (strOf (jD n))/\0<=n/\n<1000000)
theorem RT.count (h:RT p kv w)(key:ByteArray)(n:Int)(hl:kv.length<=4090)(hg:1<=key.size/\key.size<=128)(hc:Us kv key n)(hr:p.room kv (strOf (jD (n+1)))):
  Calls Tryz.prog 369 #[.pointer (some ⟨p.x,0,none⟩),.string key] w fun e w'=>e= .returned (.int .i64 (n+1))/\RT p (gZ kv key (strOf (jD (n+1)))) w'/\Keep (fun g=>¬p.F g) w w':=by
 have HG:=af (h.get key hl hg)
 obtain⟨s,hs,hs2⟩:∃s:List UInt8,(cu kv key).getD ByteArray.empty=strOf s/\((s=[]/\n=0)\/(s=jD n/\0<=n/\n<1000000)):=by
  rcases hc with ⟨h1,h2⟩|⟨h1,h2⟩
  ·exact⟨[],by rw[h1];rfl,.inl ⟨rfl,h2⟩⟩
  ·exact⟨jD n,by rw[h1];rfl,.inr ⟨rfl,h2⟩⟩
 have hn:0<=n/\n<1000000:=by rcases hs2 with ⟨_,rfl⟩|⟨_,h⟩<;>omega
 rw[hs] at HG
 obtain⟨q,hq⟩:∃q,Hid ((cu kv key).isSome=q):=⟨_,af rfl⟩
 rw[hq.out] at HG
 have HN:=af (fun (rb:Nat) (W:World) (hR:tq W rb s)=>show Calls Tryz.prog 134 #[.pointer (some ⟨rb,0,none⟩)] W fun e w'=>e= .returned (.int .i64 n)/\Keep (· =rb) W w' by
  rcases hs2 with ⟨rfl,rfl⟩|⟨rfl,_⟩
  ·exact NY rb W hR
  ·refine(Gh rb n [] W (by rw[fV];exact hR) (by omega)).mono ?_
   rintro e w' ⟨rfl,_,hk⟩
   exact⟨rfl,hk⟩)
 have HH:=af (ak h (ak hg hr))
 clear h hs hs2 hc hq hg hr
 have hwr:IntKind.i64.wrap (n+1)=n+1:=by rw[bJ];omega
 have HNN:=af hn
 clear hn
 go_enter Tryz.func369,Tryz.ntmps369
 go_wp2_with (first
  |(go_at_call 133;go_must (refine HG.out.mono ?_;rintro e w1 ⟨rfl,hb1⟩;refine Stop.of ?_)))
 refine Stop.on ?_
 have hb2:=aC w1 (.cells #[.string (strOf s),.bool false] 254)
 have hR2:tq (w1.alloc (.cells #[.string (strOf s),.bool false] 254)) w1.heap.size s:=aF w1 _
 have hb12:=hb1.trans (hb2.mono hb1.size)
 have hn2:=HN.out w1.heap.size _ hR2
 have hlo:=hb1.size
 have HX:=af (ak hb12 hlo)
 have HN2:=af hn2
 clear hb1 hb2 hR2 hb12 hn2 hlo
 go_wp2_with (first
  |(go_at_call 134;go_must (refine HN2.out.mono ?_;rintro e w3 ⟨rfl,hk3⟩;refine Stop.of ?_)))
 refine Stop.on ?_
 have hb3:Below w.heap.size w w3:=HX.out.1.trans (hk3.dY HX.out.1.size fun g hg e=>by have:=HX.out.2;omega)
 have hb4:=aC w3 (.cells #[.pointer none,.slice none 0 0] 580)
 have hP4:yh (w3.alloc (.cells #[.pointer none,.slice none 0 0] 580)) w3.heap.size w3.heap.size []:=⟨aA _,_,_,.inl rfl,aF w3 _,aQ.nil _ _ _ _ _⟩
 have hn4:=Gj w3.heap.size w3.heap.size [] (n+1) _ hP4 (by simp) (by simp)
 have HX3:=af (ak hb3 hb4)
 have HN4:=af hn4
 clear hk3 hb3 hb4 hP4 hn4
 go_wp2_with (first
  |(go_at_call 460;go_must (refine HN4.out.mono ?_;rintro e w5 ⟨rfl,hP5,hb5⟩;refine Stop.of ?_)))
 refine Stop.on ?_
 have hd5:=Hu _ _ _ w5 hP5 (by rw[mG];intro e;have:=eF (n+1);rw[e] at this;simp at this)
 rw[mG] at hd5
 have hb15:Below w.heap.size w w5:=HX3.out.1.trans ((HX3.out.2.trans (hb5.mono (aA _))).mono HX3.out.1.size)
 have hsz:w3.heap.size<=w5.heap.size:=aG HX3.out.2.size hb5.size
 have HX5:=af (ak hb15 hsz)
 have HD5:=af hd5
 clear hP5 hb5 hd5 hb15 hsz
 go_wp2_with (first
  |(go_at_call 461;go_must (refine HD5.out.mono ?_;rintro e w6 ⟨rfl,hb6⟩;refine Stop.of ?_)))
 refine Stop.on ?_
 have hb16:Below w.heap.size w w6:=HX5.out.1.trans (hb6.mono (aG HX3.out.1.size (aA _)))
 have hT6:=HH.out.1.below hb16
 have hp6:=hT6.put key (strOf (jD (n+1))) HH.out.2.1 HH.out.2.2
 have HB16:=af hb16
 have HP6:=af hp6
 clear hb6 hb16 hT6 hp6
 go_wp2_with (first
  |(go_at_call 368;go_must (refine HP6.out.mono ?_;rintro e w7 ⟨rfl,hT7,hk7⟩)))
 go_ret
 exact⟨rfl,hT7,(Keep.of_below HB16.out (fun g=>¬p.F g)).trans hk7 (fun _ _ e=>e)⟩
theorem Rw (a b c d:UInt8)(w:World):(convert 154 9 (.slice (some ⟨w.heap.size,0,none⟩) 4 4)).run Tryz.prog (w.alloc (.cells (aB [a,b,c,d]).toArray 5))= .ok (.string (strOf [a,b,c,d])) (w.alloc (.cells (aB [a,b,c,d]).toArray 5)):=by
 have hr:Row (w.alloc (.cells (aB [a,b,c,d]).toArray 5)) w.heap.size 5 (aB [a,b,c,d]):=Row.new w _ _
 have hs:aW (w.alloc (.cells (aB [a,b,c,d]).toArray 5)) d9 1 (.slice (some ⟨w.heap.size,0,none⟩) 4 4) [a,b,c,d].length (aB [a,b,c,d]):=by
  have:=hr.dL (S:=d9) (k:=1) (off:=0) 4 4 (by simp[aB]) id (aA _) (by simp[maxLen])
  rw[fE,aI (by simp[aB])] at this
  exact this
 exact hs.strOf
def id1:ByteArray:=strOf [0,0,0,1]
theorem RT.Rn (h:RT p kv w)(hl:kv.length<=4090)(hc:cu kv ⟨#[105]⟩=none)(hr:p.room kv (strOf (jD 1))):
  Calls Tryz.prog 367 #[.pointer (some ⟨p.x,0,none⟩)] w fun e w'=>e= .returned (.string id1)/\RT p (gZ kv ⟨#[105]⟩ (strOf (jD 1))) w'/\Keep (fun g=>¬p.F g) w w':=by
 have HC:=af (h.count ⟨#[105]⟩ 0 hl ⟨by decide,by decide⟩ (.inl ⟨hc,rfl⟩) hr)
 clear h hc hr
 go_enter Tryz.func367,Tryz.ntmps367
 go_wp2_with (first
  |(go_at_call 369;go_must (refine HC.out.mono ?_;rintro e w1 ⟨rfl,hT1,hk1⟩;refine Stop.of ?_)))
 refine Stop.on ?_
 have hcv:=Rw 0 0 0 1 w1
 have he:aB [0,0,0,1]=[.int .u8 0,.int .u8 0,.int .u8 0,.int .u8 1]:=rfl
 rw[he] at hcv
 have hbw:=aC w1 (.cells #[.int .u8 0,.int .u8 0,.int .u8 0,.int .u8 1] 5)
 have HX:=af (ak (hT1.below hbw) (hk1.trans (Keep.of_below hbw (fun _=>False)) (fun _ _ e=>e.elim)))
 clear hT1 hk1 hbw
 go_wp2
 go_ret
 exact⟨rfl,HX.out.1,HX.out.2⟩
def wN (k e:Int):ByteArray:=strOf (jD k++jD e)
theorem wM (k e:Int):(wN k e).size=16:=by unfold wN;rw[lJ,ay,eF,eF]
def uV (i:ByteArray):ByteArray:=⟨#[110]⟩++i
def vR (i:ByteArray):ByteArray:=⟨#[98]⟩++i
def uj (i s:ByteArray):ByteArray:=⟨#[99]⟩++i++s
theorem wQ (i:ByteArray):(uV i).size=i.size+1:=by unfold uV;rw[mV,show (⟨#[110]⟩:ByteArray).size=1 from rfl];omega
theorem Bw (i:ByteArray):(vR i).size=i.size+1:=by unfold vR;rw[mV,show (⟨#[98]⟩:ByteArray).size=1 from rfl];omega
theorem RT.save (h:RT p kv w)(i:ByteArray)(k e:Int)(hi:i.size<=100)(hr:p.room kv (wN k e)):
  Calls Tryz.prog 370 #[.pointer (some ⟨p.x,0,none⟩),.agg #[.string i,.int .i64 k,.int .i64 e]] w fun ex w'=>ex= .returned (.tuple #[])/\RT p (gZ kv (uV i) (wN k e)) w'/\Keep (fun g=>¬p.F g) w w':=by
 have hb1:=aC w (.cells #[.string i,.int .i64 k,.int .i64 e] 246)
 have hn1:=aF w (.cells #[.string i,.int .i64 k,.int .i64 e] 246)
 obtain⟨w1,hw1⟩:∃w1:World,Hid (w.alloc (.cells #[.string i,.int .i64 k,.int .i64 e] 246)=w1):=⟨_,af rfl⟩
 rw[hw1.out] at hb1 hn1
 obtain⟨nb,hnb⟩:∃nb:Nat,Hid (w.heap.size=nb):=⟨_,af rfl⟩
 rw[hnb.out] at hn1
 have e0:w1.cell? ⟨nb,0,none⟩=some (.string i):=by simp[World.cell?,hn1]
 have e1:w1.cell? ⟨nb,1,none⟩=some (.int .i64 k):=by simp[World.cell?,hn1]
 have e2:w1.cell? ⟨nb,2,none⟩=some (.int .i64 e):=by simp[World.cell?,hn1]
 have le:=(ah.1 hn1).1
 have HT:=af (ak h (ak hr hb1))
 have hks:=wQ i
 have hadd:∀W:World,(Op.stringOp .add (⟨#[110]⟩:ByteArray) i).run Tryz.prog W= .ok (.string (uV i)) W:=fun W=>gB W _ _ (by show ((1:Nat):Int)<=_;omega) (by omega)
 have HK:=af (show 1<=(uV i).size/\(uV i).size<=128 by omega)
 obtain⟨ky,hky⟩:∃ky,Hid (uV i=ky):=⟨_,af rfl⟩
 rw[hky.out] at hadd HK ⊢
 clear h hr hb1 hn1 hks hi
 go_enter Tryz.func370,Tryz.ntmps370
 go_upto_region 1 with (fail)
 rw[hw1.out,hnb.out]
 refine aK (fun W=>Below w1.heap.size w1 W) (fun i=> !([4,7,10,11,12].contains i)) [0,1,2,3,5,6,8,9,4,7,10,11,12] rfl (by kernel_rfl) ((aH _ w1).drew) ?_
 repeat ((refine bq (v:= ?_) rfl rfl (fun _ _ _ h=>h) rfl (fun W hW=> ?_) ?_);rotate_left;(focus ((try dsimp only at hW);have q0:=(hW.cell (p:=⟨nb,0,none⟩) le).trans e0;have q1:=(hW.cell (p:=⟨nb,1,none⟩) le).trans e1;have q2:=(hW.cell (p:=⟨nb,2,none⟩) le).trans e2;have q6:=ax le hW.size;(go_simp;first|done|with_reducible rfl)));(try simp only[Act.put,aj,av,au]))
 refine bP rfl rfl rfl ?_;intro K hK;go_simp
 have hbW:=(aC w1 (.cells #[.pointer none,.slice none 0 0] 580)).drew
 have hP0:yh (w1.alloc (.cells #[.pointer none,.slice none 0 0] 580)).drew w1.heap.size w1.heap.size []:=⟨aA _,_,_,.inl rfl,aF w1 _,aQ.nil _ _ _ _ _⟩
 refine hK.out _ _ hbW ?_
 (try simp only[Act.put,aj,av,au])
 have hbs:=hbW.size
 generalize (w1.alloc (.cells #[.pointer none,.slice none 0 0] 580)).drew=w2 at hP0 hbW hbs ⊢
 obtain⟨gb,hgb⟩:∃gb:Nat,Hid (w1.heap.size=gb):=⟨_,af rfl⟩
 rw[hgb.out] at hP0 hbs hbW
 rw[hgb.out]
 have HP0:=af hP0
 clear hP0
 refine bP rfl rfl rfl ?_;intro K hK;go_simp
 refine(Gj gb gb _ k w2 HP0.out hbs (by simp)).mono ?_;rintro e w3 ⟨rfl,hP3,hb3⟩
 have hbW3:Below gb w1 w3:=hbW.trans hb3
 have hbs3:gb<=w3.heap.size:=aG (fA hgb.out.symm) hbW3.size
 refine hK.out _ _ hbW3 ?_
 (try simp only[Act.put,aj,av,au])
 refine bP rfl rfl rfl ?_;intro K hK;go_simp
 refine(Gj gb gb _ e w3 hP3 hbs3 (by simp[eF])).mono ?_;rintro e w4 ⟨rfl,hP4,hb4⟩
 have hbW4:Below gb w1 w4:=hbW3.trans hb4
 have hbs4:gb<=w4.heap.size:=aG (fA hgb.out.symm) hbW4.size
 refine hK.out _ _ hbW4 ?_
 (try simp only[Act.put,aj,av,au])
 rw[mG] at hP4
 refine bP rfl rfl rfl ?_;intro K hK;go_simp
 refine(Hu gb gb _ w4 hP4 (by intro x;have:=congrArg List.length x;rw[ay,eF] at this;simp at this)).mono ?_;rintro e w5 ⟨rfl,hb5⟩
 have hbW5:Below gb w1 w5:=hbW4.trans hb5
 refine hK.out _ _ hbW5 ?_
 (try simp only[Act.put,aj,av,au])
 have hb15:Below w.heap.size w w5:=HT.out.2.2.trans (Below.mono (by rw[hgb.out] at*;exact hbW5) (by have:=HT.out.2.2.size;have:=hgb.out;omega))
 have hp5:=(HT.out.1.below hb15).put ky (wN k e) HK.out HT.out.2.1
 unfold wN strOf at hp5
 refine jm rfl rfl rfl (by kernel_rfl) ?_;intro K hK;go_simp
 refine hp5.mono ?_;rintro e w6 ⟨rfl,hT6,hk6⟩
 refine hK.out _ _ ?_
 refine bF ?_
 go_end0
 refine⟨rfl,hT6,(Keep.of_below hb15 (fun g=>¬p.F g)).trans hk6 (fun _ _ e=>e)⟩
structure ND where
 i:ByteArray
 k:Int
 e:Int
def nd0:ND:=⟨⟨#[]⟩,0,0⟩
def ow:ND:=⟨⟨#[0,0,0,0]⟩,2,0⟩
def ND.row (n:ND):List Value:=[.string n.i,.int .i64 n.k,.int .i64 n.e]
theorem ND.one (n:ND):∀v∈n.row,v.oneCell'=true:=by
 intro v hv
 simp only[ND.row,aX,List.mem_nil_iff,iL] at hv
 rcases hv with rfl|rfl|rfl<;>rfl
theorem nV:(Tryz.prog.info? 246).map (·.size)=some 3:=by kernel_rfl
theorem jE {w:World}{b:Nat}{n:ND}(h:Row w b 246 n.row):w.cell? ⟨b,0,none⟩=some (.string n.i)/\w.cell? ⟨b,1,none⟩=some (.int .i64 n.k)/\w.cell? ⟨b,2,none⟩=some (.int .i64 n.e)/\w.frozen? ⟨b,0,none⟩=false/\w.frozen? ⟨b,1,none⟩=false/\w.frozen? ⟨b,2,none⟩=false/\b<w.heap.size:=by
 have h':w.heap[b]? =some (.cells #[.string n.i,.int .i64 n.k,.int .i64 n.e] 246 (0,0)):=h
 exact⟨by simp[World.cell?,h'],by simp[World.cell?,h'],by simp[World.cell?,h'],by simp[World.frozen?,h'],by simp[World.frozen?,h'],by simp[World.frozen?,h'],(ah.1 h').1⟩
def Un (kv:List Pr)(i:ByteArray)(k e:Int):Prop:=cu kv (uV i)=some (wN k e)/\0<=k/\k<1000000/\0<=e/\e<1000000
theorem RT.load (h:RT p kv w)(i:ByteArray)(k e:Int)(hl:kv.length<=4090)(hi:i.size<=100)(hr:Un kv i k e):
  Calls Tryz.prog 212 #[.pointer (some ⟨p.x,0,none⟩),.string i] w fun ex w'=>ex= .returned (.agg #[.string i,.int .i64 k,.int .i64 e])/\Below w.heap.size w w':=by
 obtain⟨hr,h1,h2,h3,h4⟩:=hr
 have hb1:=aC w (.cells #[.string ⟨#[]⟩,.int .i64 0,.int .i64 0] 246)
 have hn1:=aF w (.cells #[.string ⟨#[]⟩,.int .i64 0,.int .i64 0] 246)
 obtain⟨w1,hw1⟩:∃w1:World,Hid (w.alloc (.cells #[.string ⟨#[]⟩,.int .i64 0,.int .i64 0] 246)=w1):=⟨_,af rfl⟩
 rw[hw1.out] at hb1 hn1
 obtain⟨nb,hnb⟩:∃nb:Nat,Hid (w.heap.size=nb):=⟨_,af rfl⟩
 rw[hnb.out] at hn1
 have hks:=wQ i
 have hG:=(h.below hb1).get (uV i) hl (by omega)
 rw[hr] at hG
 have HG:=af hG
 have hadd:∀W:World,(Op.stringOp .add (⟨#[110]⟩:ByteArray) i).run Tryz.prog W= .ok (.string (uV i)) W:=fun W=>gB W _ _ (by show ((1:Nat):Int)<=_;omega) (by omega)
 have HB1:=af (ak hb1 hn1)
 have HE:=af (ak h1 (ak h2 (ak h3 h4)))
 obtain⟨ky,hky⟩:∃ky,Hid (uV i=ky):=⟨_,af rfl⟩
 rw[hky.out] at hadd HG
 clear h hr hb1 hn1 hks hG h1 h2 h3 h4 hi
 go_enter Tryz.func212,Tryz.ntmps212
 go_upto_region 1 with (fail)
 rw[hw1.out,hnb.out]
 go_wp2_with (first
  |(go_at_call 133;go_must (refine HG.out.mono ?_;rintro e w2 ⟨rfl,hb2⟩;refine Stop.of ?_)))
 refine Stop.on ?_
 have hn2:=(hb2.block nb (ah.1 HB1.out.2).1).trans HB1.out.2
 have hb12:Below w.heap.size w w2:=HB1.out.1.trans (hb2.mono HB1.out.1.size)
 have hl2:=(ah.1 hn2).1
 obtain⟨rc,hrc⟩:∃rc,Hid (wN k e=rc):=⟨_,af rfl⟩
 have hR3:tq (w2.alloc (.cells #[.string (wN k e),.bool false] 254)) w2.heap.size (jD k++jD e):=aF w2 _
 have hb3:=aC w2 (.cells #[.string (wN k e),.bool false] 254)
 obtain⟨rb,hrb⟩:∃rb:Nat,Hid (w2.heap.size=rb):=⟨_,af rfl⟩
 have hn3:=(hb3.block nb hl2).trans hn2
 rw[hrb.out,hrc.out] at hR3
 rw[hrc.out] at hn3 hb3
 simp only[hrc.out]
 obtain⟨w3,hw3⟩:∃w3:World,Hid (w2.alloc (.cells #[.string rc,.bool false] 254)=w3):=⟨_,af rfl⟩
 rw[hw3.out] at hR3 hn3 hb3
 have hq1:=Gh rb k (jD e) w3 hR3 (by have:=HE.out;omega)
 have HQ1:=af hq1
 have HX:=af (ak hb12 (ak hb3 (ak hn3 hl2)))
 clear hb2 hn2 hb12 hl2 hR3 hb3 hn3 hq1
 go_upto_region 3 with (fail)
 rw[hw3.out,hrb.out]
 go_wp2_with (first
  |(go_at_call 134;go_must (refine HQ1.out.mono ?_;rintro e' w4 ⟨rfl,hR4,hk4⟩;refine Stop.of ?_)))
 refine Stop.on ?_
 have hq2:=Gh rb e [] w4 (by rw[fV];exact hR4) (by have:=HE.out;omega)
 have HQ2:=af (ak hq2 hk4)
 clear hq2 hR4 hk4
 go_wp2_with (first
  |(go_at_call 134;go_must (refine HQ2.out.1.mono ?_;rintro e' w5 ⟨rfl,_,hk5⟩;refine Stop.of ?_)))
 refine Stop.on ?_
 have hne:¬nb=rb:=by have:=HX.out.2.2.2;have:=hrb.out;omega
 have hk35:Keep (· =rb) w3 w5:=HQ2.out.2.trans hk5 (fun _ _ e=>e)
 have hn5:Row w5 nb 246 nd0.row:=(hk35.block nb (ah.1 HX.out.2.2.1).1 hne).trans HX.out.2.2.1
 have hB5:Below w.heap.size w w5:=(HX.out.1.trans (HX.out.2.1.mono HX.out.1.size)).trans (hk35.dY (aG HX.out.1.size HX.out.2.1.size) fun g hg e=>by have:=HX.out.1.size;have:=hrb.out;omega)
 have HB5:=af hB5
 clear hk35 hB5 hk5
 go_wp2_with (first
  |((refine bU rfl ?_);intro K hK;(refine wp_store_row 246 (.tmp 4) (.tmp 23) rfl nb 0 246 _ (ND.row ⟨i,k,e⟩) rfl rfl hn5 nV (aA 3) (ND.one ⟨i,k,e⟩) ?_);intro w6 hr6 hk6;refine hK _ _ ?_))
 refine eX (oZ rfl _ w6 nb 246 _ (0,0) _ rfl hr6 Fw rfl (by kernel_rfl)) rfl ?_
 exact⟨rfl,HB5.out.trans (hk6.dY HB5.out.size fun g hg e=>by have:=hnb.out;omega)⟩
end
def tL (kv:List Pr):List ByteArray->ND->ND->Prop
 |[],n,m=>m=n
 |s::r,n,m=>s.size<=64/\((cu kv (uj n.i s)=none/\m=nd0)\/(n.k=2/\∃o:ND,cu kv (uj n.i s)=some o.i/\o.i.size<=4/\Un kv o.i o.k o.e/\tL kv r o m))
section
variable {p:TP} {kv:List Pr} {w:World}
theorem RT.find (h:RT p kv w)(pv:Value)(path:List ByteArray)(S:Nat->Prop)(hp:nH w S pv path)(m:ND)(hl:kv.length<=4090)(hf:tL kv path ow m):
  Calls Tryz.prog 131 #[.pointer (some ⟨p.x,0,none⟩),pv] w fun ex w'=>ex= .returned (.agg #[.string m.i,.int .i64 m.k,.int .i64 m.e])/\Below w.heap.size w w':=by
 obtain⟨po,pc,rfl,hn1,hn2,_,_⟩:=jf.form hp
 have hb1:=aC w (.cells #[.string ⟨#[]⟩,.int .i64 0,.int .i64 0] 246)
 have hn1':=aF w (.cells #[.string ⟨#[]⟩,.int .i64 0,.int .i64 0] 246)
 obtain⟨w1,hw1⟩:∃w1:World,Hid (w.alloc (.cells #[.string ⟨#[]⟩,.int .i64 0,.int .i64 0] 246)=w1):=⟨_,af rfl⟩
 have hs1:w1.heap.size=w.heap.size+1:=by rw[<-hw1.out];simp
 rw[hw1.out] at hb1 hn1'
 have hb2:=aC w1 (.cells #[.string ⟨#[0,0,0,0]⟩,.int .i64 2,.int .i64 0] 246)
 have hn2':=aF w1 (.cells #[.string ⟨#[0,0,0,0]⟩,.int .i64 2,.int .i64 0] 246)
 obtain⟨w2,hw2⟩:∃w2:World,Hid (w1.alloc (.cells #[.string ⟨#[0,0,0,0]⟩,.int .i64 2,.int .i64 0] 246)=w2):=⟨_,af rfl⟩
 rw[hw2.out] at hb2 hn2'
 obtain⟨rb,hrb⟩:∃rb:Nat,Hid (w.heap.size=rb):=⟨_,af rfl⟩
 obtain⟨nb,hnb⟩:∃nb:Nat,Hid (rb+1=nb):=⟨_,af rfl⟩
 rw[hs1,hrb.out,hnb.out] at hn2'
 rw[hrb.out] at hn1'
 have hR2:Row w2 rb 246 nd0.row:=(hb2.block rb (ah.1 hn1').1).trans hn1'
 have hN2:Row w2 nb 246 ow.row:=hn2'
 have hb12:Below w.heap.size w w2:=hb1.trans (hb2.mono hb1.size)
 have HA:=af (ak h (ak hp (ak hl (show w.heap.size<=rb/\w.heap.size<=nb/\rb≠nb by have:=hrb.out;have:=hnb.out;omega))))
 have HS:=af (ak hR2 (ak hN2 (ak hb12 hf)))
 have HS1:=af hs1
 clear h hp hl hf hb1 hb2 hn1' hn2' hs1 hR2 hN2 hb12
 go_enter Tryz.func131,Tryz.ntmps131
 go_upto_region 1 with (fail)
 rw[hw1.out,hrb.out]
 go_upto_region 2 with (fail)
 rw[HS1.out,hrb.out,hnb.out,hw2.out]
 go_upto_region 3 with (fail)
 go_loopw [7,8,9,13] (fun _ _ _ i wr=>∃(j:Nat) (n:ND),j<=path.length/\i= .int .i64 j/\tL kv (path.drop j) n m/\n.i.size<=4/\Row wr nb 246 n.row/\Row wr rb 246 nd0.row/\Below w.heap.size w wr) (fun _ _ _ i _=>path.length - (intOf i).toNat)
 case atStart=>exact⟨0,ow,aN _,rfl,HS.out.2.2.2,by decide,HS.out.2.1,HS.out.1,HS.out.2.2.1⟩
 case round=>
  obtain⟨j,n,hj,rfl,hf,hni,hN,hR,hbw⟩:=hrel
  obtain⟨c0,c1,c2,f0,f1,f2,ln⟩:=jE hN
  by_cases hjl:j<path.length
  ·have hjl':(j:Int)<(path.length:Int):=by omega
   obtain⟨ga,oa,rfl,da⟩:=jf.Bz (jf.below HA.out.2.1 hbw) rfl j (.string path[j]) (by rw[dH,bD hjl];rfl)
   have la:=aD wr _ da
   have hdr:path.drop j=path[j]::path.drop (j+1):=dA hjl
   rw[hdr] at hf
   obtain⟨sg,hsg⟩:∃sg,Hid (path[j]=sg):=⟨_,af rfl⟩
   rw[hsg.out] at da hf
   obtain⟨hs64,hf⟩:=hf
   have hz1:(⟨#[99]⟩:ByteArray).size=1:=rfl
   have ha1:∀W:World,(Op.stringOp .add (⟨#[99]⟩:ByteArray) n.i).run Tryz.prog W= .ok (.string (⟨#[99]⟩++n.i)) W:=fun W=>gB W _ _ (by show ((1:Nat):Int)<=_;omega) (by omega)
   have hz2:((⟨#[99]⟩:ByteArray)++n.i).size=n.i.size+1:=by rw[mV,hz1];omega
   have ha2:∀W:World,(Op.stringOp .add ((⟨#[99]⟩:ByteArray)++n.i) sg).run Tryz.prog W= .ok (.string (uj n.i sg)) W:=fun W=>gB W _ _ (by rw[hz2];omega) (by omega)
   have hks:(uj n.i sg).size=n.i.size+1+sg.size:=by unfold uj;rw[mV,hz2]
   have hG:=(HA.out.1.below hbw).get (uj n.i sg) HA.out.2.2.1 (by omega)
   have HX:=af (ak hN (ak hR hbw))
   obtain⟨ky,hky⟩:∃ky,Hid (uj n.i sg=ky):=⟨_,af rfl⟩
   rw[hky.out] at ha2 hf hG
   obtain⟨kc,hkc⟩:∃kc,Hid ((⟨#[99]⟩:ByteArray)++n.i=kc):=⟨_,af rfl⟩
   rw[hkc.out] at ha1 ha2
   rcases hf with ⟨hno,hm⟩|⟨hk2,o,hyes,ho4,hrc,hf⟩
   ·rw[hno] at hG
    have HG:=af hG
    have HM:=af hm
    clear hm hno hG hks hz1 hz2 hs64 hni hN hR hbw hdr
    go_wp2_with (first
     |(go_at_call 133;go_must (refine HG.out.mono ?_;rintro e w3 ⟨rfl,hb3⟩;refine Stop.of ?_)))
    refine Stop.on ?_
    have hR3:Row w3 rb 246 nd0.row:=(hb3.block rb (ah.1 HX.out.2.1).1).trans HX.out.2.1
    have hbb3:=HX.out.2.2.trans (hb3.mono HX.out.2.2.size)
    have HB3:=af hbb3
    clear c0 c1 c2 f0 f1 f2 ln da la hb3 hbb3
    go_wp2_with (first
     |((refine bU rfl ?_);intro K hK;(refine wp_store_row 246 (.tmp 4) (.tmp 34) rfl rb 0 246 _ nd0.row rfl rfl hR3 nV (aA 3) nd0.one ?_);intro w4 hr4 hk4;refine hK _ _ ?_))
    refine eX (oZ rfl _ w4 rb 246 _ (0,0) _ rfl hr4 Fw rfl (by kernel_rfl)) rfl ?_
    rw[HM.out]
    exact⟨rfl,HB3.out.trans (hk4.dY HB3.out.size fun g hg e=>by have:=HA.out.2.2.2.1;omega)⟩
   ·rw[hyes] at hG
    have HG:=af hG
    have HF:=af (ak hf (ak ho4 hrc))
    clear hf hyes hG hks hz1 hz2 hs64 hni hN hR hbw hdr ho4 hrc
    rw[hk2] at c1
    go_wp2_with (first
     |(go_at_call 133;go_must (refine HG.out.mono ?_;rintro e w3 ⟨rfl,hb3⟩;refine Stop.of ?_)))
    refine Stop.on ?_
    have hN3:Row w3 nb 246 n.row:=(hb3.block nb (ah.1 HX.out.1).1).trans HX.out.1
    have hR3:Row w3 rb 246 nd0.row:=(hb3.block rb (ah.1 HX.out.2.1).1).trans HX.out.2.1
    have hbb3:=HX.out.2.2.trans (hb3.mono HX.out.2.2.size)
    have hL:=(HA.out.1.below hbb3).load o.i o.k o.e HA.out.2.2.1 (by have:=HF.out.2.1;omega) HF.out.2.2
    have HX3:=af (ak hN3 (ak hR3 hbb3))
    have HL:=af hL
    clear c0 c1 c2 f0 f1 f2 ln da la hb3 hbb3 hR3 hL
    obtain⟨c0,c1,c2,f0,f1,f2,ln⟩:=jE hN3
    rw[hk2] at c1
    clear hN3
    go_wp2_with (first
     |(go_at_call 212;go_must (refine HL.out.mono ?_;rintro e w4 ⟨rfl,hb4⟩;refine Stop.of ?_)))
    refine Stop.on ?_
    have hN4:Row w4 nb 246 n.row:=(hb4.block nb (ah.1 HX3.out.1).1).trans HX3.out.1
    have hR4:Row w4 rb 246 nd0.row:=(hb4.block rb (ah.1 HX3.out.2.1).1).trans HX3.out.2.1
    have HB4:=af (ak hR4 (HX3.out.2.2.trans (hb4.mono HX3.out.2.2.size)))
    clear c0 c1 c2 f0 f1 f2 ln hb4 hR4
    go_wp2_with (first
     |((refine bU rfl ?_);intro K hK;(refine wp_store_row 246 (.tmp 5) (.tmp 37) rfl nb 0 246 _ o.row rfl rfl hN4 nV (aA 3) o.one ?_);intro w5 hr5 hk5;refine hK _ _ ?_))
    have hfin:Row w5 nb 246 o.row/\Row w5 rb 246 nd0.row/\Below w.heap.size w w5:=
     ⟨hr5,(hk5.block rb (ah.1 HB4.out.1).1 HA.out.2.2.2.2.2).trans HB4.out.1,HB4.out.2.trans (hk5.dY HB4.out.2.size fun g hg e=>by have:=HA.out.2.2.2.2.1;omega)⟩
    have HFIN:=af hfin
    clear hfin hr5 hk5 hN4
    go_wp2_with fail
    go_roundw
    case rel=>exact⟨j+1,o,by omega,by go_num,HF.out.1,HF.out.2.1,HFIN.out.1,HFIN.out.2.1,HFIN.out.2.2⟩
    case measure=>simp[intOf];omega
  ·obtain rfl:j=path.length:=by omega
   have x2:¬(path.length:Int)<(path.length:Int):=by omega
   rw[iB] at hf
   have hm:m=n:=hf
   subst hm
   have HB:=af hbw
   clear hf hbw hN hni
   go_wp2_with (first
    |((refine bU rfl ?_);intro K hK;(refine wp_store_row 246 (.tmp 4) (.tmp 39) rfl rb 0 246 _ m.row rfl rfl hR nV (aA 3) m.one ?_);intro w4 hr4 hk4;refine hK _ _ ?_))
   refine eX (oZ rfl _ w4 rb 246 _ (0,0) _ rfl hr4 Fw rfl (by kernel_rfl)) rfl ?_
   exact⟨rfl,HB.out.trans (hk4.dY HB.out.size fun g hg e=>by have:=HA.out.2.2.2.1;omega)⟩
theorem nH.init {w:World}{S:Nat->Prop}{po:Option Addr}{pc:Nat}{path:List ByteArray}(h:nH w S (.slice po path.length pc) path):nH w S (.slice po (path.length - 1) pc) path.dropLast:=by
 have h1:=jf.upto h (path.length - 1) (by omega)
 rw[iA,<-jR,<-List.dropLast_eq_take] at h1
 have e:path.dropLast.length=path.length - 1:=List.length_dropLast
 unfold nH
 rw[e]
 exact h1
theorem RT.QR (h:RT p [] w)(po:Option Addr)(s:ByteArray)(pc:Nat)(S:Nat->Prop)(hp:nH w S (.slice po 1 pc) [s]):
  Calls Tryz.prog 365 #[.pointer (some ⟨p.x,0,none⟩),.slice po 1 pc] w fun ex w'=>ex= .returned (.agg #[.string ⟨#[0,0,0,0]⟩,.int .i64 2,.int .i64 0])/\Below w.heap.size w w':=by
 have hb1:=aC w (.cells #[.string ⟨#[]⟩,.int .i64 0,.int .i64 0] 246)
 have hn1:=aF w (.cells #[.string ⟨#[]⟩,.int .i64 0,.int .i64 0] 246)
 obtain⟨w1,hw1⟩:∃w1:World,Hid (w.alloc (.cells #[.string ⟨#[]⟩,.int .i64 0,.int .i64 0] 246)=w1):=⟨_,af rfl⟩
 rw[hw1.out] at hb1 hn1
 have hsp:=KW po [s] pc S w1 (jf.below hp hb1) (by simp)
 have HSP:=af hsp
 have hpi:=nH.init (path:=[s]) hp
 have HA:=af (ak h (ak hpi (ak hb1 hn1)))
 clear h hp hb1 hn1 hsp hpi
 obtain⟨rb,hrb⟩:∃rb:Nat,Hid (w.heap.size=rb):=⟨_,af rfl⟩
 go_enter Tryz.func365,Tryz.ntmps365
 go_upto_region 1 with (fail)
 rw[hw1.out,hrb.out]
 go_wp2_with (first
  |(go_at_call 366;go_must (refine HSP.out.mono ?_;rintro e w2 ⟨rfl,hb2⟩;refine Stop.of ?_)))
 refine Stop.on ?_
 have hb12:=HA.out.2.2.1.trans (hb2.mono HA.out.2.2.1.size)
 have hf:=(HA.out.1.below hb12).find _ _ _ (jf.below HA.out.2.1 hb12) ow (by simp) (show tL [] [] ow ow from rfl)
 have hq2:=(hb2.block _ (ah.1 HA.out.2.2.2).1).trans HA.out.2.2.2
 have HB2:=af (ak hb12 hq2)
 have HF:=af hf
 clear hb2 hb12 hf hq2
 go_wp2_with (first
  |(go_at_call 131;go_must (refine HF.out.mono ?_;rintro e w3 ⟨rfl,hb3⟩;refine Stop.of ?_)))
 refine Stop.on ?_
 have hb4:=aC w3 (.cells #[.string ow.i,.int .i64 ow.k,.int .i64 ow.e] 246)
 have hn4:=aF w3 (.cells #[.string ow.i,.int .i64 ow.k,.int .i64 ow.e] 246)
 obtain⟨w4,hw4⟩:∃w4:World,Hid (w3.alloc (.cells #[.string ow.i,.int .i64 ow.k,.int .i64 ow.e] 246)=w4):=⟨_,af rfl⟩
 rw[hw4.out] at hb4 hn4
 obtain⟨nb,hnb⟩:∃nb:Nat,Hid (w3.heap.size=nb):=⟨_,af rfl⟩
 have hb34:=hb3.trans (hb4.mono hb3.size)
 have hb14:=HB2.out.1.trans (hb34.mono HB2.out.1.size)
 have hq4:=(hb34.block _ (ah.1 HB2.out.2).1).trans HB2.out.2
 rw[hrb.out] at hq4
 have hu:=(HA.out.1.below hb14).Qp (⟨#[99]⟩++⟨#[0,0,0,0]⟩)
 rw[hnb.out] at hn4
 obtain⟨c0,c1,c2,f0,f1,f2,ln⟩:=jE (n:=ow) hn4
 have HU:=af hu
 have HB4:=af (ak hb14 (ak hq4 hn4))
 have ha1:∀W:World,(Op.stringOp .add (⟨#[99]⟩:ByteArray) ⟨#[0,0,0,0]⟩).run Tryz.prog W= .ok (.string (⟨#[99]⟩++⟨#[0,0,0,0]⟩)) W:=fun W=>gB W _ _ (by decide) (by decide)
 obtain⟨ky,hky⟩:∃ky,Hid ((⟨#[99]⟩:ByteArray)++⟨#[0,0,0,0]⟩=ky):=⟨_,af rfl⟩
 rw[hky.out] at HU ha1
 unfold ow at c0 c1 c2
 dsimp only at c0 c1 c2
 clear hb3 hb4 hn4 hb34 hb14 hq4 hu
 go_upto_region 3 with (fail)
 rw[show ow.i=⟨#[0,0,0,0]⟩ from rfl,show ow.k=2 from rfl,show ow.e=0 from rfl] at hw4
 rw[show ow.i=⟨#[0,0,0,0]⟩ from rfl,show ow.k=2 from rfl,show ow.e=0 from rfl,hw4.out,hnb.out]
 go_wp2_with (first
  |(go_at_call 361;go_must (refine(uE _ _).mono ?_;rintro e w5 ⟨rfl,hw5⟩;subst w5))
  |(go_at_call 211;go_must (refine HU.out.mono ?_;rintro e w5 ⟨rfl,hb5⟩;refine Stop.of ?_)))
 refine Stop.on ?_
 have hq5:Row w5 rb 246 nd0.row:=(hb5.block _ (ah.1 HB4.out.2.1).1).trans HB4.out.2.1
 have hn5:Row w5 nb 246 ow.row:=(hb5.block _ (ah.1 HB4.out.2.2).1).trans HB4.out.2.2
 have HB5:=af (HB4.out.1.trans (hb5.mono HB4.out.1.size))
 clear c0 c1 c2 f0 f1 f2 ln hb5
 obtain⟨c0,c1,c2,f0,f1,f2,ln⟩:=jE hn5
 unfold ow at c0 c1 c2
 dsimp only at c0 c1 c2
 clear hn5
 go_wp2_with (first
  |(go_at_call 361;go_must (refine(uE _ _).mono ?_;rintro e w6 ⟨rfl,hw6⟩;subst w6))
  |((refine bU rfl ?_);intro K hK;(refine wp_store_row 246 (.tmp 4) (.tmp 28) rfl rb 0 246 _ ow.row rfl rfl hq5 nV (aA 3) ow.one ?_);intro w6 hr6 hk6;refine hK _ _ ?_))
 refine eX (oZ rfl _ w6 rb 246 _ (0,0) _ rfl hr6 Fw rfl (by kernel_rfl)) rfl ?_
 exact⟨rfl,HB5.out.trans (hk6.dY HB5.out.size fun g hg e=>by have:=hrb.out;omega)⟩
end
theorem FO (eb:Nat)(w:World):
  CallsD Tryz.prog 209 #[.pointer (some ⟨eb,0,none⟩)] .returning w fun e u' w'=>e= .returned (.tuple #[])/\u'= .returning/\Below w.heap.size w w':=by
 refine uq Tryz.func209 rfl fun c₀ cs hu=> ?_
 apply si
 apply lG
 have hta:∀w:World,(Instr.typeAssert Value.nilIface 20 354 true).run Tryz.prog w= .ok (.tuple #[.agg #[.int .i64 0],.bool false]) w:=fun _=>by kernel_rfl
 simp[wpOpsS,go_sem,recoverD,hu,Tryz.ntmps209,Exit.thenS,hta,Array.replicate,List.replicate]
 apply si
 apply lG
 simp[wpOpsS,go_sem,Exit.thenS]
 refine wpS_cond (t:=false) (by simp[Act.eval]) ?_
 simp only[pR,if_false]
 refine Fh (wp_skip ?_)
 cases c₀
 simp_all [bodyPostS,results,Tryz.results209]
 exact aC _ _
theorem FP (eb:Nat)(n e0:Int)(w:World)(he:w.heap[eb]? =some (.cells #[.int .i64 e0] 26 (0,0))):
  CallsD Tryz.prog 209 #[.pointer (some ⟨eb,0,none⟩)] (.panicking (NJ n)) w fun e u' w'=>e= .returned (.tuple #[])/\settle u'= .returning/\w'.cell? ⟨eb,0,none⟩=some (.int .i64 n)/\Keep (· =eb) w w':=by
 refine uq Tryz.func209 rfl fun c₀ cs hu=> ?_
 apply si
 apply lG
 have hta:∀w:World,(Instr.typeAssert (.iface 354 (.agg #[.int .i64 n])) 20 354 true).run Tryz.prog w= .ok (.tuple #[.agg #[.int .i64 n],.bool true]) w:=fun _=>by kernel_rfl
 simp[wpOpsS,go_sem,recoverD,hu,NJ,Tryz.ntmps209,Exit.thenS,hta,Array.replicate,List.replicate]
 have hlt:=(ah.1 he).1
 have hb1:=aC w (.cells #[.int .i64 n] 354)
 have hn1:=aF w (.cells #[.int .i64 n] 354)
 obtain⟨w1,HW1⟩:∃w1:World,Hid (w.alloc (.cells #[.int .i64 n] 354)=w1):=⟨_,af rfl⟩
 rw[HW1.out] at hb1 hn1
 rw[HW1.out]
 have hx:w1.cell? ⟨w.heap.size,0,none⟩=some (.int .i64 n):=by simp[World.cell?,hn1]
 have hxl:w.heap.size<w1.heap.size:=(ah.1 hn1).1
 have he1:=(hb1.block eb hlt).trans he
 have hlt1:=(ah.1 he1).1
 have c0:w1.cell? ⟨eb,0,none⟩=some (.int .i64 e0):=by simp[World.cell?,he1]
 have f0:w1.frozen? ⟨eb,0,none⟩=false:=by simp[World.frozen?,he1]
 apply si
 apply lG
 simp[wpOpsS,go_sem,Exit.thenS]
 refine wpS_cond (t:=true) (by simp[Act.eval]) ?_
 simp only[lH]
 refine Fh ?_
 go_wp2
 have hk:Keep (· =eb) w1 (w1.setCell ⟨eb,0,none⟩ (.int .i64 n)):=(Keep.refl (· =eb) _).setCell (p:=⟨eb,0,none⟩) (.inr rfl) _
 refine⟨rfl,_,rfl,_,?_,rfl,rfl,?_,?_⟩
 ·simp[results,Tryz.results209,go_sem]
 ·simp[World.setCell,World.cell?,aJ,he1]
 ·exact(Keep.of_below hb1 (· =eb)).trans hk (fun _ _ e=>e)
theorem Sb (x g:Nat)(cb:Array Value)(pb:Nat)(pv:Value)(path:List ByteArray)(S:Nat->Prop)(w:World)(R:World->Prop)(R2:Int->World->Prop)
  (hent:∀args w,(callFunc g args).run Tryz.prog w= .ok (.enter g args) w) (hpb:w.heap[pb]? =some (.cells #[pv] 146 (0,0))) (hp:nH w S pv path) (hs:∀s∈path,s.size<=9223372036854775807) (hT:kQ w) (hg:pX path=true)
  (hf:∀w1:World,Below w.heap.size w w1->w1.heap[w.heap.size]? =some (.cells #[.int .i64 0] 26 (0,0))->Calls Tryz.prog g cb w1 fun e w'=>w'.heap[w.heap.size]? =some (.cells #[.int .i64 0] 26 (0,0))/\((e= .returned (.tuple #[])/\R w')\/(∃n,e= .panicked (NJ n)/\R2 n w'))):
  Calls Tryz.prog 128 #[.pointer (some ⟨x,0,none⟩),.func (.func g) #[] cb,.slice (some ⟨pb,0,none⟩) 1 1] w fun e w'=>
   (e= .returned (.int .i64 0)/\∃w1,R w1/\Keep (· =w.heap.size) w1 w')\/(∃n,e= .returned (.int .i64 n)/\∃w1,R2 n w1/\Keep (· =w.heap.size) w1 w'):=by
 have hmf:∀(fn:Fn) (first cap:Array Value) (w:World),(Instr.makeFunc fn first cap).run Tryz.prog w= .ok (.func fn first cap) w:=fun _ _ _ _=>rfl
 obtain⟨po,pc,rfl,_,_,_,_⟩:=jf.form hp
 have hb1:=aC w (.cells #[.int .i64 0] 26)
 have hn1:=aF w (.cells #[.int .i64 0] 26)
 obtain⟨w1,hw1⟩:∃w1:World,Hid (w.alloc (.cells #[.int .i64 0] 26)=w1):=⟨_,af rfl⟩
 rw[hw1.out] at hb1 hn1
 have HF:=af hf
 obtain⟨eb,heb⟩:∃eb:Nat,Hid (w.heap.size=eb):=⟨_,af rfl⟩
 rw[heb.out] at hn1 HF ⊢
 have HA:=af (ak hb1 (ak hn1 (ak hpb (ak hp (ak hs hT)))))
 have HG:=af hg
 clear hf hb1 hn1 hpb hp hs hT hg
 go_enter_defers Tryz.func128,Tryz.ntmps128
 go_upto_region 1 with (fail)
 rw[hw1.out,heb.out]
 go_upto_region 4 with (fail)
 go_loopw [8,13] (fun _ i wr=>(i= .int .i64 0\/i= .int .i64 1)/\Below w1.heap.size w1 wr) (fun _ i _=>1 - (intOf i).toNat)
 case atStart=>exact⟨.inl rfl,aH _ _⟩
 case round=>
  obtain⟨hi,hbw⟩:=hrel
  rcases hi with rfl|rfl
  ·have hbw0:=HA.out.1.trans (hbw.mono HA.out.1.size)
   have hq:=(hbw0.block pb (ah.1 HA.out.2.2.1).1).trans HA.out.2.2.1
   have c0:wr.cell? ⟨pb,0,none⟩=some (.slice po path.length pc):=by simp[World.cell?,hq]
   have lp:=(ah.1 hq).1
   have hgd:=KT _ path S wr (jf.below HA.out.2.2.2.1 hbw0) HA.out.2.2.2.2.1 (HA.out.2.2.2.2.2.below hbw0)
   rw[HG.out] at hgd
   have HGD:=af hgd
   have HBW:=af hbw
   clear hgd hbw hbw0 hq
   go_wp2_with (first
    |(go_at_call 208;go_must (refine HGD.out.mono ?_;rintro e w3 ⟨rfl,hb3⟩)))
   have HB3:=af (HBW.out.trans (hb3.mono HBW.out.size))
   clear hb3
   go_roundw
   case rel=>exact⟨.inr (by go_num),HB3.out⟩
   case measure=>simp[intOf]
  ·have hbw0:=HA.out.1.trans (hbw.mono HA.out.1.size)
   have hn:=(hbw.block eb (ah.1 HA.out.2.1).1).trans HA.out.2.1
   have Hf:=af (HF.out wr (by rw[<-heb.out];exact hbw0) hn)
   clear hbw hbw0 hn
   go_wp2_with (refine Hf.out.mono ?_;rintro e w4 ⟨hr,(⟨rfl,hR⟩|⟨n,rfl,hR2⟩)⟩<;>refine Stop.of ?_)
   ·have r0:w4.cell? ⟨eb,0,none⟩=some (.int .i64 0):=by simp[World.cell?,hr]
    have r1:w4.frozen? ⟨eb,0,none⟩=false:=by simp[World.frozen?,hr]
    have r2:=(ah.1 hr).1
    refine Stop.on ?_
    go_wp2_with fail
    have hk:Keep (· =eb) w4 (w4.setCell ⟨eb,0,none⟩ (.int .i64 0)):=Keep.setCell (M:=(· =eb)) (p:=⟨eb,0,none⟩) (Keep.refl _ _) (.inr rfl) _
    have hr':(w4.setCell ⟨eb,0,none⟩ (.int .i64 0)).cell? ⟨eb,0,none⟩=some (.int .i64 0):=by simp[World.setCell,World.cell?,aJ,hr]
    have hlt':eb<(w4.setCell ⟨eb,0,none⟩ (.int .i64 0)).heap.size:=ax r2 hk.size
    generalize w4.setCell ⟨eb,0,none⟩ (.int .i64 0)=w5 at*
    refine dQ (f:=209) (args:=#[.pointer (some ⟨eb,0,none⟩)]) (by simp) (by simp[go_sem]) ?_
    refine(FO eb w5).mono ?_
    rintro e u' w'' ⟨rfl,rfl,hb⟩
    have hc:w''.cell? ⟨eb,0,none⟩=some (.int .i64 0):=(hb.cell (p:=⟨eb,0,none⟩) hlt').trans hr'
    have hfin:Keep (· =eb) w4 w'':=hk.trans (Keep.of_below hb (fun _=>False)) (fun _ _ h=>h.elim)
    refine⟨_,?_,.inl ⟨rfl,w4,hR,hfin⟩⟩
    simp[results,Tryz.results128,go_sem,hc]
   ·refine Stop.on ?_
    refine dQ (f:=209) (args:=#[.pointer (some ⟨eb,0,none⟩)]) (by simp) (by simp[go_sem]) ?_
    refine(FP eb n 0 w4 hr).mono ?_
    rintro e u' w'' ⟨rfl,hu,hc,hk⟩
    show Leaves _ _ _ _ [] (settle u') w''
    rw[hu]
    refine⟨_,?_,.inr ⟨n,rfl,w4,hR2,hk⟩⟩
    simp[results,Tryz.results128,go_sem,hc]
end Go.Proofs.YtpmbddooibgnaaaGreatDoor
