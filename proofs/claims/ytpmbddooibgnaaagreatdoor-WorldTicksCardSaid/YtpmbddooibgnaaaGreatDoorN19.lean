/- parts -/
import Derived.Test.YtpmbddooibgnaaaGreatDoorN1
import Derived.Test.YtpmbddooibgnaaaGreatDoorN4
import Derived.Test.YtpmbddooibgnaaaGreatDoorN15
import Derived.Test.YtpmbddooibgnaaaGreatDoorN16
import Derived.Test.YtpmbddooibgnaaaGreatDoorN18
set_option maxRecDepth 100000
set_option maxHeartbeats 8000000
set_option linter.all false
namespace Go.Proofs.YtpmbddooibgnaaaGreatDoor
open Go.RowKit
structure Fe (σ:cK)(b:Int)(nd:Nd):Prop where
 has:σ.hasB b=true
 lo:2<=b
 hi:b<=4096
 mem:∃rest,σ.mem b=nd.enc++rest
 fits:nd.Fits
def bY (w:World)(t:Nat)(mp:VS)(root err:Int):Prop:=w.heap[t]? =some (.cells #[.iface 178 mp.agg,.int .i64 root,.int .i64 err] 267 (0,0))
theorem o7 (t:Nat)(l:VS)(m z b d:Int)(x:cK)(S:Nat->Prop)(s:Nd)(w:World)(h:Inv x S l w)(I:bY w t l m z)(q:Fe x b s)(Y:d<=40):
  Calls Tryz.prog 140 #[.pointer (some ⟨t,0,none⟩),.int .i64 b,.int .i64 d] w fun e B=>∃r,e= .returned (.tuple #[.pointer (some ⟨r,0,none⟩),.int .i64 0])/\ig B S w.heap.size r s/\Below w.heap.size w B:=by
 obtain⟨X,V,W,_,_,_,M⟩:=cells3 I
 obtain⟨f,c⟩:=q.mem
 have i:=BA l x S w b h q.has
 have k:=q.fits
 have o:=h.sub
 have p:(s.enc++f).length=512:=by
  rw[<-c];obtain⟨n,rfl,y,_⟩:=cK.lH q.has;exact h.ok.len n y
 rw[c] at i
 have K:¬((40:Int)<d):=by omega
 go_enter Tryz.func140,Tryz.ntmps140
 have Z:∀w,(method 841 178 l.agg "Read").run Tryz.prog w= .ok (136,.pointer (some ⟨l.tx,0,none⟩)) w:=fun _=>by kernel_rfl
 have A:=ah i;clear i c
 go_wp2_with (first
  |(refine A.out.mono ?_;rintro e C ⟨v,rfl,P,_,a⟩)
  |(go_at_call 218;go_must ((refine(Kg _ s f C S (fun g H=>aA (o g H) a.size) (by unfold fA;rw[p];exact P) k (by rw[p];omega)).mono ?_);rintro e T ⟨r,rfl,y,j⟩)))
 go_ret2
 refine⟨r,rfl,?_,a.trans (j.mono a.size)⟩
 obtain⟨O,D,J,E,N,R,F,G,Q⟩:=y
 exact⟨O,aI a.size D,J,E,N,R,F.base a.size,G.base a.size,Q.base a.size⟩
theorem bY.step {w e:World}{t:Nat}{c:VS}{a b:Int}{S S':Nat->Prop}(h:bY w t c a b)(g:¬S t)(d:Step S S' w e):bY e t c a b/\¬S' t:=by
 have f:=(aj.1 h).1
 exact⟨(d.1.block t f g).trans h,fun x=>(d.2 t x).elim g (fun y=>absurd f (aX.2 y))⟩
theorem OE (t:Nat)(f:VS)(d i b c:Int)(g:cK)(S:Nat->Prop)(o:Nd)(w:World)(h:Inv g S f w)(m:bY w t f d i)(q:¬S t)(k:Fe g b o)(y:c<=40):
  Calls Tryz.prog 563 #[.pointer (some ⟨t,0,none⟩),.int .i64 b,.int .i64 c] w fun e l=>∃j,e= .returned (.pointer (some ⟨j,0,none⟩))/\ig l S w.heap.size j o/\Inv (g.gone b) S f l/\Step S S w l:=by
 have n:t<w.heap.size:=(aj.1 m).1
 go_enter Tryz.func563,Tryz.ntmps563
 have B:∀w,(method 841 178 f.agg "Free").run Tryz.prog w= .ok (619,.pointer (some ⟨f.mp,0,none⟩)) w:=fun _=>by kernel_rfl
 go_wp2_with (first
  |(go_at_call 140;go_must ((refine(o7 t f d i b c g S o w h m k y).mono ?_);rintro e p ⟨j,rfl,x,a⟩))
  |(go_at_call 562;go_must ((refine(yt _).mono ?_);rintro e p ⟨rfl,rfl⟩;refine Stop.of ?_)))
 refine Stop.on ?_
 obtain⟨A,_,_,_,_,_,s⟩:=cells3 ((a.block t n).trans m)
 go_wp2_with (first
  |(go_at_call 619;go_must ((refine(GX f g S _ b (h.below a) k.lo k.has).mono ?_);rintro e z ⟨rfl,v,r⟩))
  |(go_at_call 562;go_must ((refine(yt _).mono ?_);rintro e p ⟨rfl,rfl⟩;refine Stop.of ?_)))
 refine Stop.on ?_
 go_wp2_with fail
 go_ret
 exact⟨j,rfl,x.step r,v,(Step.of_below a).trans r⟩
structure Wrote (σ:cK)(b:Int)(nd:Nd)(σ':cK):Prop where
 new:σ.hasB b=false
 nheld:σ.held b=false
 blk:Fe σ' b nd
 other:∀x,x≠b->σ'.hasB x=σ.hasB x/\σ'.mem x=σ.mem x
 size:σ'.sz=σ.sz+1
 held:σ'.H=σ.H
 most:σ'.most=σ.most
 tk:σ'.tk=max σ.tk σ'.sz
def Ku (mp:VS)(σ:cK)(S:Nat->Prop)(w:World)(e:Ending)(w':World):Prop:=
 e= .panicked (brk 12)/\∃σ' S',Inv σ' S' mp w'/\Step S S' w w'/\σ'.H=σ.H/\σ'.most=σ.most
theorem Ku.after {l:VS}{g f:cK}{S k:Nat->Prop}{w j m:World}{e:Ending}(h:Ku l f k j e m)(q:Step S k w j)(r:f.H=g.H)(p:f.most=g.most):Ku l g S w e m:=by
 obtain⟨n,i,o,a,b,c,d⟩:=h
 exact⟨n,i,o,a,q.trans b,c.trans r,d.trans p⟩
theorem N7 {a:cK}(q:a.Ok){f:Nat}{c:Nd}(r:2<=f)(n:f<a.most)(m:a.hasB f=false)(o:a.held f=false)(g:c.Fits):Wrote a f c ((a.took f).wrote f (pad c.enc)):=by
 have p:=q.cap
 have j:a.now f=false:=by
  unfold cK.hasB at m
  simpa [n] using m
 have i:a.H.old f=false:=by
  unfold cK.held at o
  simpa using o
 have k:∀x:Int,x≠f->0<=x->x.toNat≠f:=fun x k l e=>k (by omega)
 refine⟨m,o,⟨?_,by omega,by omega,⟨List.replicate (512 - c.enc.length) 0,?_⟩,g⟩,fun x d=>⟨?_,?_⟩,?_,rfl,rfl,rfl⟩
 ·show (decide ((0:Int)<=(f:Int)) && (decide ((f:Int).toNat<a.most) && gN a.now f true (f:Int).toNat))=true
  simp[gN,n]
 ·show a.H.pg.look (a.im.put f (pad c.enc)) a.H.dk (f:Int).toNat=_
  rw[uR,dz,if_pos rfl];rfl
 ·show (decide (0<=x) && (decide (x.toNat<a.most) && gN a.now f true x.toNat))=_
  unfold cK.hasB
  by_cases l:0<=x
  ·unfold gN;rw[if_neg (k x d l)]
  ·simp[l]
 ·show a.H.pg.look (a.im.put f (pad c.enc)) a.H.dk x.toNat=a.H.pg.look a.im a.H.dk x.toNat
  rw[uR]
  split
  ·rename_i e
   exact absurd (by omega:x=f) d
  ·rfl
 ·show countB (fun x=>gN a.now f true x||a.H.old x) a.most=countB (fun x=>a.now x||a.H.old x) a.most+1
  rw[<-DT (f:=fun x=>a.now x||a.H.old x) (b:=f) (by rw[j,i];rfl) _ n]
  refine jw _ (fun x _=> ?_)
  unfold gN
  split<;>simp
theorem C8 (t:Nat)(j:VS)(V q9:Int)(s:cK)(S:Nat->Prop)(N:Nat)(B:Nd)(a:ByteArray)(w:World)(h:Inv s S j w)(ht:bY w t j V q9)(qO:¬S t)(hn:mG w S N B)(A:B.Fits)(hs:B.size<=512):
  Calls Tryz.prog 573 #[.pointer (some ⟨t,0,none⟩),.pointer (some ⟨N,0,none⟩),.string a] w fun e w'=>(∃(f:Nat) (O:cK) (S':Nat->Prop),e= .returned (.agg #[.int .i64 f,.string a])/\Wrote s f B O/\Inv O S' j w'/\Step S S' w w')\/(s.sz=s.most/\Ku j s S w e w'):=by
 obtain⟨c0,_,_,_,_,_,di⟩:=cells3 ht
 have qo:N<w.heap.size:=by obtain⟨_,_,_,_,hb,_⟩:=hn;exact(aj.1 hb).1
 have E:=h.sub
 go_enter Tryz.func573,Tryz.ntmps573
 have bf:∀w,(method 841 178 j.agg "Take").run Tryz.prog w= .ok (620,.pointer (some ⟨j.mp,0,none⟩)) w:=fun _=>by kernel_rfl
 have dn:∀w,(method 841 178 j.agg "Write").run Tryz.prog w= .ok (118,.pointer (some ⟨j.tx,0,none⟩)) w:=fun _=>by kernel_rfl
 have G:=aG w (.cells #[.int .i64 0,.string ⟨#[]⟩] 659)
 go_wp2_with (first
  |(go_at_call 620;go_must ((refine(Rq j s S _ (h.below G)).mono ?_);rintro e y (⟨f,rfl,f1,f2,f3,f4,f6,q,r⟩|⟨rfl,m,q,r⟩)<;>refine Stop.of ?_)))
 rotate_left
 ·refine Stop.on ?_
  have qb:=ah m;clear m
  go_wp2_with (first
   |(go_at_call 562;go_must ((refine(Pt 12 rfl _).mono ?_);rintro e z ⟨rfl,hw⟩;subst z)))
  exact⟨rfl,.inr ⟨qb.out,rfl,s,S,q,(Step.of_below G).trans r,rfl,rfl⟩⟩
 refine Stop.on ?_
 go_wp2_with (first
  |(go_at_call 562;go_must ((refine(yt _).mono ?_);rintro e z ⟨rfl,hw⟩;subst z)))
 have b:Step S S w y:=(Step.of_below G).trans r
 have l:=ht.step qO b
 have qC:=hn.step b
 have H:=q.sub
 have c:y.heap[w.heap.size]? =some (.cells #[.int .i64 0,.string ⟨#[]⟩] 659 (0,0)):=(r.1.block _ (by rw[bD];exact nP _) (fun x=>absurd (E _ x) (cO _))).trans (aH _ _)
 obtain⟨c1,_,_,_,_,_,Y⟩:=cells3 l.1
 have av:N<y.heap.size:=aA qo b.1.size
 have ai:=h.cap
 have T:=ah f2
 have f5:f<=4096:=by omega
 clear f2 c0
 refine aP (fun W=>W.cell? ⟨t,0,none⟩=some (.iface 178 j.agg)/\t<W.heap.size) (fun i=> !([6,9,10].contains i)) [0,1,2,3,4,5,7,8,6,9,10] rfl (by kernel_rfl) ⟨c1,Y⟩ ?_
 repeat ((refine bE (v:= ?_) rfl rfl (fun _ _ _ h=>h) rfl (fun W hW=> ?_) ?_);rotate_left;(focus ((try dsimp only at hW);have q0:=hW.1;have q1:=hW.2;first|(go_simp;first|done|with_reducible rfl)));(try simp only[Act.put,ak,ay,ax]))
 have hE:=Ka N B y.drew S H qC (by omega) A.kd
 refine bT rfl rfl rfl ?_;intro K X;go_simp
 refine hE.mono ?_;rintro e z ⟨v,rfl,hv,n⟩
 have qf:Inv (s.took f) S j z:=q.below (((aJ _ y).drew).trans n)
 have P:Step S S y z:=Step.of_below (((aJ _ y).drew).trans n)
 have ql:=l.1.step l.2 P
 obtain⟨c2,_,_,_,_,_,R⟩:=cells3 ql.1
 refine X.out _ _ ⟨c2,R⟩ ?_
 have p9:fA z eG v B.enc:=bq.loose hv.dM
 have qc:B.enc.length<=512:=by rw[Nd.Kb];exact hs
 have I:=CZ j _ S z f v B.enc qf T.out p9 qc (.inr ⟨by simp[cK.took,gN],by show s.H.old f=false;have:=f4;unfold cK.held at this;simpa using this⟩)
 have qm:=ah I;clear I hE
 refine bT rfl rfl rfl ?_;intro K X;go_simp
 refine qm.out.mono ?_;rintro e k ⟨rfl,Z,pV⟩
 have o:Step S S y k:=P.trans pV
 have qy:=l.1.step l.2 o
 obtain⟨c3,_,_,_,_,_,F⟩:=cells3 qy.1
 refine X.out _ _ ⟨c3,F⟩ ?_
 refine bT rfl rfl rfl ?_;intro K X;go_simp
 refine(yt _).mono ?_;rintro e w4 ⟨rfl,hw⟩;subst w4
 refine X.out _ _ ⟨c3,F⟩ ?_
 refine bN ?_
 have q8:w.heap.size<y.heap.size:=(aj.1 c).1
 have D:¬S w.heap.size:=fun x=>absurd (E _ x) (cO _)
 have d:k.heap[w.heap.size]? =some (.cells #[.int .i64 0,.string ⟨#[]⟩] 659 (0,0)):=(o.1.block _ q8 D).trans c
 have af:w.heap.size<k.heap.size:=(aj.1 d).1
 have r0:k.cell? ⟨w.heap.size,0,none⟩=some (.int .i64 0):=by simp[World.cell?,d]
 have r1:k.cell? ⟨w.heap.size,1,none⟩=some (.string ⟨#[]⟩):=by simp[World.cell?,d]
 have g0:k.frozen? ⟨w.heap.size,0,none⟩=false:=by simp[World.frozen?,d]
 have g1:k.frozen? ⟨w.heap.size,1,none⟩=false:=by simp[World.frozen?,d]
 have bg:=Z.sub
 have J:=ah (au f3 (au f4 f6))
 clear c1 c2 c3 c f3 f4 f6
 go_wp2_with fail
 have Q:Keep (· =w.heap.size) k ((k.setCell ⟨w.heap.size,0,none⟩ (.int .i64 f)).setCell ⟨w.heap.size,1,none⟩ (.string a)):=((Keep.refl (· =w.heap.size) k).setCell (p:=⟨w.heap.size,0,none⟩) (.inr rfl) _).setCell (p:=⟨w.heap.size,1,none⟩) (.inr rfl) _
 have M:((k.setCell ⟨w.heap.size,0,none⟩ (.int .i64 f)).setCell ⟨w.heap.size,1,none⟩ (.string a)).heap[w.heap.size]? =some (.cells #[.int .i64 f,.string a] 659 (0,0)):=by
  simp[World.setCell,aK,d]
 refine dJ (qU rfl _ _ _ 659 #[.int .i64 f,.string a] (0,0) _ rfl M Tryz.underlying659 rfl rfl) rfl ?_
 have C:Step S S w k:=b.trans o
 refine .inl ⟨f,_,S,rfl,?_,Z.nY Q (fun g hg e=>D (by rw[<-e];exact hg)),C.1.trans Q (fun i hi e=>absurd hi (by rw[e];exact cO _)),C.2⟩
 exact N7 h.ok f1 T.out J.out.1 J.out.2.1 A
structure Nd.Ok (nd:Nd):Prop where
 pr:∀p∈nd.pairs,p.1.size<=128/\p.2.size<=64
 ky:∀k∈nd.keys,k.size<=128
 kd:∀k∈nd.kids,1<=k/\k<=4096
 kk:nd.keys.length=nd.kids.length - 1
 one:nd.kids≠[]->nd.pairs=[]
 np:nd.pairs.length<=2000
 nk:nd.kids.length<=2000
theorem Ga (a:List Pr)(h:∀p∈a,p.1.size<=128/\p.2.size<=64):fM a<=194*a.length:=by
 induction a with
 |nil=>exact aR _
 |cons p a ih=>
  have c:=h p (by simp)
  have:=ih (fun q b=>h q (by simp[b]))
  rw[oW,aZ];omega
theorem EL (a:List ByteArray)(h:∀p∈a,p.size<=128):iI a<=129*a.length:=by
 induction a with
 |nil=>exact aR _
 |cons p a ih=>
  have c:=h p (by simp)
  have:=ih (fun q b=>h q (by simp[b]))
  rw[tC,aZ];omega
theorem Nd.Ok.size_le {a:Nd}(h:a.Ok):a.size<=1000000:=by
 have e:=Ga _ h.pr
 have d:=EL _ h.ky
 have b:=h.np
 have c:=h.nk
 have f:=h.kk
 unfold Nd.size
 omega
theorem Nd.Ok.fits {a:Nd}(h:a.Ok)(e:a.size<=512)(c:a.kids≠[]\/a.pairs≠[]):a.Fits:=by
 have f:=oL a.pairs
 have g:=nX a.keys
 unfold Nd.size at e
 refine⟨by omega,by omega,fun p d=> ?_,fun k b=> ?_,fun k b=> ?_,h.kk,?_,?_⟩
 ·have:=h.pr p d;omega
 ·have:=h.ky k b;omega
 ·have:=h.kd k b;omega
 ·intro d b;exact c.elim (fun x=>x b) (fun x=>x d)
 ·intro b;exact h.one b
inductive Q8:Nd->ByteArray->List (ByteArray×Nd)->Prop
 |none {nd l}:nd.kids=[]->nd.pairs=[]->Q8 nd l []
 |one {nd l}:(nd.kids≠[]\/nd.pairs≠[])->nd.size<=512->Q8 nd l [(leastOf nd l,nd)]
 |leaf {nd l} (i:Nat) (hi:i<nd.pairs.length) {A B}:nd.kids=[]->512<nd.size->1<=i->Tn nd i->Q8 ⟨nd.pairs.take i,[],[]⟩ l A->Q8 ⟨nd.pairs.drop i,[],[]⟩ (leastOf ⟨nd.pairs.drop i,[],[]⟩ nd.pairs[i].1) B->Q8 nd l (A++B)
 |inner {nd l} (i:Nat) (hi:i - 1<nd.keys.length) {A B}:nd.kids≠[]->512<nd.size->i=nd.kids.length/2->Q8 ⟨[],nd.keys.take (i - 1),nd.kids.take i⟩ l A->Q8 ⟨[],nd.keys.drop i,nd.kids.drop i⟩ (leastOf ⟨[],nd.keys.drop i,nd.kids.drop i⟩ nd.keys[i - 1]) B->Q8 nd l (A++B)
def Puts:cK->List Pc->List (ByteArray×Nd)->cK->Prop
 |σ,[],[],σ'=>σ'=σ
 |σ,p::ps,z::zs,σ'=>∃σ1,p.2=z.1/\Wrote σ p.1 z.2 σ1/\Puts σ1 ps zs σ'
 |_,_,_,_=>False
def Nd.room (nd:Nd):Nat:=nd.pairs.length+(if nd.kids=[] then 0 else max 1 (nd.kids.length/2))
def om (mp:VS)(σ:cK)(S:Nat->Prop)(nd:Nd)(least:ByteArray)(w:World)(e:Ending)(w':World):Prop:=
 (∃v ps zs σ' S',e= .returned v/\aV w' S' w.heap.size 659 2 v ps.length (xZ ps)/\Q8 nd least zs/\Puts σ ps zs σ'/\Inv σ' S' mp w'/\Step S S' w w')\/(σ.most<σ.sz+nd.room/\Ku mp σ S w e w')
theorem O3 {b:Nd}(a:b.kids≠[]\/b.pairs≠[]):1<=b.room:=by
 unfold Nd.room
 rcases a with h|h
 ·rw[if_neg h];omega
 ·have:=gY.2 h;omega
theorem Bp (t:Nat)(r:VS)(l A:Int)(C:cK)(S:Nat->Prop)(m:Nat)(c:Nd)(b:ByteArray)(w:World)(h:Inv C S r w)(R:bY w t r l A)(G:¬S t)(hn:mG w S m c)(Y:c.Ok)(g:c.kids≠[]\/c.pairs≠[])(I:c.size<=512):
  Calls Tryz.prog 561 #[.pointer (some ⟨t,0,none⟩),.pointer (some ⟨m,0,none⟩),.string b] w (om r C S c b w):=by
 have q:=hn
 obtain⟨_,v0,v1,v2,hb,h0,P,H⟩:=hn
 obtain⟨c0,c1,c2,_,_,_,qc⟩:=cells3 hb
 obtain⟨ql,p9,rfl,n0,m0,_,_⟩:=bq.form h0
 have o:=Y.fits I g
 have HR:=ah (O3 g)
 have i:(c.kids.isEmpty && c.pairs.isEmpty)=false:=by
  rcases g with g|g<;>cases P:c.kids<;>cases H:c.pairs<;>simp_all
 have p:=ah (show c.kids=[]->c.pairs≠[] from fun x y=>g.elim (fun z=>z x) (fun z=>z y))
 have F:t<w.heap.size:=(aj.1 R).1
 have qb:(c.size:Int)<=512:=by omega
 go_enter Tryz.func561,Tryz.ntmps561
 have j:∀(f:Nat) (d:cK) (n:Nat->Prop) (D:World),Wrote C f c d->Inv d n r D->Step S n w D->om r C S c b w (.returned (.slice (some ⟨D.heap.size,0,none⟩) 1 1)) (D.alloc (.cells #[.int .i64 f,.string (leastOf c b)] 659)):=by
  intro f d n D P H h3
  refine .inl ⟨_,[((f:Int),leastOf c b)],_,d,n,rfl,?_,.one g I,⟨d,rfl,P,rfl⟩,H.below (aG _ _),h3.trans (Step.of_below (aG _ _))⟩
  have:=yc (w:=D) (S:=n) (B:=w.heap.size) (e:=659) (k:=2) (xZ [((f:Int),leastOf c b)]) 1 1 rfl rfl (aC _) (by simp[maxLen]) h3.1.size H.sub
  exact this
 cases T:c.kids.isEmpty with
 |true=>
  have qf:¬c.pairs.length=0:=by
   rw[T] at i;intro e;rw[bK e] at i;simp at i
  have pV:¬((c.pairs.length:Int)=0):=by omega
  go_wp2_with (first
   |(go_at_call 219;go_must ((refine(mX m c _ S q).mono ?_);rintro e E ⟨rfl,V⟩;subst E;rw[T]))
   |(go_at_call 572;go_must ((refine(FP m c _ S q Y.size_le).mono ?_);rintro e E ⟨rfl,a⟩))
   |(go_at_call 574;go_must ((refine(DC m c b _ S (q.below a) p.out).mono ?_);rintro e J ⟨rfl,V⟩;subst J))
   |(go_at_call 573;go_must ((refine(C8 t r l A C S m c _ _ (h.below a) ((a.block _ F).trans R) G (q.below a) o I).mono ?_);rintro e W (⟨f,d,n,rfl,Q,K,M⟩|⟨v,rfl,s,N,O,Z,g3,X⟩)<;>refine Stop.of ?_)))
  rotate_left
  ·refine Stop.on ?_
   exact⟨rfl,.inr ⟨by have:=HR.out;omega,rfl,s,N,O,(Step.of_below a).trans Z,g3,X⟩⟩
  refine Stop.on ?_
  go_wp2_with fail
  go_ret
  exact j f d n W Q K ((Step.of_below a).trans M)
 |false=>
  go_wp2_with (first
   |(go_at_call 219;go_must ((refine(mX m c _ S q).mono ?_);rintro e E ⟨rfl,V⟩;subst E;rw[T]))
   |(go_at_call 572;go_must ((refine(FP m c _ S q Y.size_le).mono ?_);rintro e E ⟨rfl,a⟩))
   |(go_at_call 574;go_must ((refine(DC m c b _ S (q.below a) p.out).mono ?_);rintro e J ⟨rfl,V⟩;subst J))
   |(go_at_call 573;go_must ((refine(C8 t r l A C S m c _ _ (h.below a) ((a.block _ F).trans R) G (q.below a) o I).mono ?_);rintro e W (⟨f,d,n,rfl,Q,K,M⟩|⟨v,rfl,s,N,O,Z,g3,X⟩)<;>refine Stop.of ?_)))
  rotate_left
  ·refine Stop.on ?_
   exact⟨rfl,.inr ⟨by have:=HR.out;omega,rfl,s,N,O,(Step.of_below a).trans Z,g3,X⟩⟩
  refine Stop.on ?_
  go_wp2_with fail
  go_ret
  exact j f d n W Q K ((Step.of_below a).trans M)
def rR (w:World)(b:Nat)(s:ByteArray):Prop:=w.heap[b]? =some (.cells #[.string s] 9 (0,0))
def Ng (ps:List Pr)(key:ByteArray):List Pr:=if qQ ps key then ps.take (dI ps key)++ps.drop (dI ps key+1) else ps
def jh (ps:List Pr)(key value:ByteArray):List Pr:=if qQ ps key then ps.set (dI ps key) (key,value) else ps.take (dI ps key)++(key,value)::ps.drop (dI ps key)
theorem vW {b:List Pr}{a:ByteArray}(h:qQ b a=true):∃h:dI b a<b.length,b[dI b a].1=a:=by
 unfold qQ at h
 split at h
 ·rename_i p e
  obtain⟨c,d⟩:=bO.1 e
  exact⟨c,by rw[d];exact bF h⟩
 ·cases h
theorem mM {w:World}{b:Nat}{s:ByteArray}(h:rR w b s):w.cell? ⟨b,0,none⟩=some (.string s)/\b<w.heap.size:=by
 unfold rR at h
 exact⟨by simp[World.cell?,h],(aj.1 h).1⟩
theorem aV.DL {w:World}{S:Nat->Prop}{B e k n:Nat}{v:Value}{f:List Value}(h:aV w S B e k v n f)(m:0<n):∃g c,v= .slice (some ⟨g,0,none⟩) n c/\n<=c/\c<=9223372036854775807/\B<=g/\g<w.heap.size:=by
 obtain⟨o,c,rfl,i,d,_⟩:=h.dM.form
 rcases h.1.2 with ⟨e,b⟩|⟨g,l,a,e,hB,j,_⟩
 ·exact absurd b (by omega)
 ·cases e;exact⟨g,c,rfl,i,d,hB,(aj.1 j).1⟩
theorem ig.OU {w W:World}{S:Nat->Prop}{B b:Nat}{nd:Nd}{s l m c:Value}{k:List Pr}(j:W.heap[b]? =some (.cells #[s,l,m] 272 (0,0)))(r:¬S b)(hB:B<=b)(q:aV W S B 9 1 l nd.keys.length (nd.keys.map .string))(o:aV W S B 3 1 m nd.kids.length (nd.kids.map (.int .i64)))
  (n:aV W S B 188 2 c k.length (dG k)) (t:Below B w W):ig (W.setCell ⟨b,0,none⟩ c) S B b ⟨k,nd.keys,nd.kids⟩/\Below B w (W.setCell ⟨b,0,none⟩ c):=by
 have a:Keep (· =b) W (W.setCell ⟨b,0,none⟩ c):=Keep.setCell (M:=(· =b)) (p:=⟨b,0,none⟩) (Keep.refl _ _) (.inr rfl) c
 refine⟨⟨r,hB,c,l,m,?_,n.keep fun g f i d=>⟨a.block g i (fun e=>n.ne j (by decide) (by rw[f,e])),d⟩,q.keep fun g f i d=>⟨a.block g i (fun e=>q.ne j (by decide) (by rw[f,e])),d⟩,o.keep fun g f i d=>⟨a.block g i (fun e=>o.ne j (by decide) (by rw[f,e])),d⟩⟩,t.setCell (by simpa using hB) c⟩
 simp[World.setCell,aK,j]
theorem zZ (a:List Pr)(v:ByteArray):∀(i:Nat) (h:i<a.length),(dG a).set (i*2+1) (.string v)=dG (a.set i (a[i].1,v)):=by
 induction a with
 |nil=>intro i h;simp at h
 |cons p a ih=>
  intro i h
  cases i with
  |zero=>rfl
  |succ i=>
   have:=ih i (by simpa using h)
   simp only[lm,ax,Fq,Uf]
   rw[this]
theorem ig.FQ {w W:World}{S:Nat->Prop}{B b g c:Nat}{nd:Nd}{s x:Value}{value:ByteArray}(i:Nat)(F:i<nd.pairs.length)(n:W.heap[b]? =some (.cells #[.slice (some ⟨g,0,none⟩) nd.pairs.length c,s,x] 272 (0,0)))(E:¬S b)(hB:B<=b)(A:aV W S B 9 1 s nd.keys.length (nd.keys.map .string))(z:aV W S B 3 1 x nd.kids.length (nd.kids.map (.int .i64)))
  (l:aV W S B 188 2 (.slice (some ⟨g,0,none⟩) nd.pairs.length c) nd.pairs.length (dG nd.pairs)) (G:Below B w W):ig (W.setCell ⟨g,i*2+1,none⟩ (.string value)) S B b ⟨nd.pairs.set i (nd.pairs[i].1,value),nd.keys,nd.kids⟩/\Below B w (W.setCell ⟨g,i*2+1,none⟩ (.string value)):=by
 obtain⟨d,C,j,D,f,r,H,y⟩:=l.row
 have a:Keep (· =g) W (W.setCell ⟨g,i*2+1,none⟩ (.string value)):=Keep.setCell (M:=(· =g)) (p:=⟨g,i*2+1,none⟩) (Keep.refl _ _) (.inr rfl) _
 have q:Row (W.setCell ⟨g,i*2+1,none⟩ (.string value)) g 188 (d.set (i*2+1) (.string value)):=by
  unfold Row at C ⊢
  simp[World.setCell,aK,C]
 have m:b≠g:=fun e=>by subst e;exact l.ne n (by decide) rfl
 refine⟨⟨E,hB,_,s,x,(a.block b (aj.1 n).1 m).trans n,?_,A.keep fun t v j o=>⟨a.block t j (fun e=>aV.RY A l (by decide) _ v (by rw[e];rfl)),o⟩,z.keep fun t v j o=>⟨a.block t j (fun e=>aV.RY z l (by decide) _ v (by rw[e];rfl)),o⟩⟩,G.setCell (by simpa using f) _⟩
 have:=q.own (S:=S) (B:=B) (k:=2) (cap:=c) nd.pairs.length (by simpa using j) f r H y
 rw[show (d.set (i*2+1) (.string value)).take (nd.pairs.length*2)=dG (nd.pairs.set i (nd.pairs[i].1,value)) from by rw[<-zZ _ _ i F,<-D,<-List.take_set]] at this
 simpa using this
theorem MH (N p m B:Nat)(b value:ByteArray)(d:Nd)(S:Nat->Prop)(w:World)(hk:rR w N b)(O:rR w p value)(F:ig w S B m d)(hr:iK d.pairs)(hl:d.pairs.length<=1000000)(n:qQ d.pairs b=true):
  Calls Tryz.prog 545 #[.pointer (some ⟨m,0,none⟩),.pointer (some ⟨N,0,none⟩),.pointer (some ⟨p,0,none⟩)] w fun e G=>e= .returned (.tuple #[])/\ig G S B m ⟨jh d.pairs b value,d.keys,d.kids⟩/\Below B w G:=by
 have hN:=F
 obtain⟨Y,hB,v0,v1,v2,x,y,Z,V⟩:=F
 obtain⟨c0,Q,R,_,_,_,o⟩:=cells3 x
 obtain⟨k0,kl⟩:=mM hk
 have z:B<=w.heap.size:=aI hB (gJ o)
 obtain⟨H,k⟩:=vW n
 have A:jh d.pairs b value=d.pairs.set (dI d.pairs b) (b,value):=by unfold jh;rw[n];rfl
 generalize E:dI d.pairs b=P at H k A
 obtain⟨g,c,rfl,p9,qb,X,s⟩:=y.DL (by omega)
 go_enter Tryz.func545,Tryz.ntmps545
 have HP:=ah E;clear E
 go_wp2_with (first
  |(go_at_call 220;go_must ((refine(uY m d b _ S hN.lu hr hl).mono ?_);rw[n,HP.out];rintro e j ⟨rfl,f⟩)))
 have a:=f
 obtain⟨e0,_,_,_,_,_,M⟩:=cells3 ((f.block m o).trans x)
 obtain⟨f0,fl⟩:=mM (show rR j p value from(f.block p (mM O).2).trans O)
 have J:g<j.heap.size:=aA s f.size
 have r:=(y.step (Step.of_below f)).row
 obtain⟨t,l,T,_⟩:=r
 have D:=l.frozen (P*2+1)
 have C:=l.cell (P*2+1)
 clear c0 Q R
 refine aP (fun W=>W=j.drew) (fun i=> !([8].contains i)) [0,1,2,3,4,5,6,7,8] rfl (by kernel_rfl) rfl ?_
 have d0:j.drew.cell? ⟨m,0,none⟩=some (.slice (some ⟨g,0,none⟩) d.pairs.length c):=e0
 have d1:j.drew.cell? ⟨p,0,none⟩=some (.string value):=f0
 have pV:(P:Int)<(d.pairs.length:Int):=by omega
 repeat ((refine bE (v:= ?_) rfl rfl (fun _ _ _ h=>h) rfl (fun W I=> ?_) ?_);rotate_left;(focus ((try dsimp only at I);subst I;first|(go_simp;first|done|with_reducible rfl)));(try simp only[Act.put,ak,ay,ax]))
 have x0:j.drew.frozen? ⟨g,P*2+1,none⟩=false:=D
 have x1:j.drew.cell? ⟨g,P*2+1,none⟩=some t[P*2+1]:=C.trans (bB (by omega))
 refine jR rfl rfl rfl (by kernel_rfl) ?_;intro K hK;go_simp
 refine hK.out _ _ ?_
 refine bN ?_
 have HD:=ah A;clear A
 go_wp2_with fail
 go_end0
 rw[HD.out,<-k]
 have q:=ig.FQ (W:=j.drew) (w:=w) (value:=value) P H ((a.block m o).trans x) Y hB (Z.step (Step.of_below a.drew)) (V.step (Step.of_below a.drew)) (y.step (Step.of_below a.drew)) (a.drew.mono z)
 exact⟨rfl,q.1,q.2⟩
theorem MG (z p l B:Nat)(a value:ByteArray)(nd:Nd)(S:Nat->Prop)(w:World)(qC:∀g,S g->g<w.heap.size)(hk:rR w z a)(hv:rR w p value)(Z:z<B)(J:p<B)(hn:ig w S B l nd)(hr:iK nd.pairs)(hl:nd.pairs.length<=999999)(ql:qQ nd.pairs a=false):
  Calls Tryz.prog 545 #[.pointer (some ⟨l,0,none⟩),.pointer (some ⟨z,0,none⟩),.pointer (some ⟨p,0,none⟩)] w fun e w'=>e= .returned (.tuple #[])/\ig w' S B l ⟨jh nd.pairs a value,nd.keys,nd.kids⟩/\Below B w w':=by
 have hN:=hn
 obtain⟨hS,hB,v0,v1,v2,hb,h0,h1,h2⟩:=hn
 obtain⟨c0,c1,c2,_,_,_,p9⟩:=cells3 hb
 obtain⟨k0,kl⟩:=mM hk
 have D:B<=w.heap.size:=aI hB (gJ p9)
 have hp:=BD nd.pairs a
 have hd:jh nd.pairs a value=nd.pairs.take (dI nd.pairs a)++(a,value)::nd.pairs.drop (dI nd.pairs a):=by unfold jh;rw[ql];rfl
 generalize hP:dI nd.pairs a=P at hp hd
 obtain⟨Q,O,rfl,n0,m0,_,_⟩:=h0.dM.form
 go_enter Tryz.func545,Tryz.ntmps545
 have HP:=ah hP;clear hP
 have HD:=ah hd;clear hd
 go_wp2_with (first
  |(go_at_call 220;go_must ((refine(uY l nd a _ S hN.lu hr (by omega)).mono ?_);rw[ql,HP.out];rintro e n ⟨rfl,f⟩)))
 have H:=(f.block l p9).trans hb
 obtain⟨e0,_,_,_,_,_,I⟩:=cells3 H
 obtain⟨f0,fl⟩:=mM (show rR n z a from(f.block z kl).trans hk)
 have ko:rR n p value:=(f.block p (mM hv).2).trans hv
 have t:=f.size
 have q9:Below B w n.drew:=(f.mono D).drew
 have M:=h0.step (Step.of_below f)
 have dM:=h1.step (Step.of_below f)
 have av:=h2.step (Step.of_below f)
 clear c0 c1 c2
 refine aP (fun W=>W.cell? ⟨l,0,none⟩=some (.slice Q nd.pairs.length O)/\l<W.heap.size/\W.cell? ⟨z,0,none⟩=some (.string a)/\z<W.heap.size) (fun i=> !([8,9,12].contains i)) [0,1,2,3,4,5,6,7,8,9,10,11,12] rfl (by kernel_rfl) ⟨e0,I,f0,fl⟩ ?_
 repeat ((refine bE (v:= ?_) rfl rfl (fun _ _ _ h=>h) rfl (fun W m=> ?_) ?_);rotate_left;(focus ((try dsimp only at m);have q0:=m.1;have q1:=m.2.1;have q2:=m.2.2.1;have q3:=m.2.2.2;first|(go_simp;first|done|with_reducible rfl)));(try simp only[Act.put,ak,ay,ax]))
 refine bT rfl rfl rfl ?_;intro K T;go_simp
 have k:Below n.drew.heap.size n.drew (n.alloc (.cells #[.string a,.string ⟨#[]⟩] 188)).drew:=aG n.drew (.cells #[.string a,.string ⟨#[]⟩] 188)
 have F:Below B w (n.alloc (.cells #[.string a,.string ⟨#[]⟩] 188)).drew:=q9.trans (k.mono (aI D t))
 have j:=(k.block l I).trans H
 have qb:rR (n.alloc (.cells #[.string a,.string ⟨#[]⟩] 188)).drew z a:=(F.block z Z).trans hk
 have j4:rR (n.alloc (.cells #[.string a,.string ⟨#[]⟩] 188)).drew p value:=(F.block p J).trans hv
 have qf:=GJ (.slice Q nd.pairs.length O) nd.pairs.length P (dG nd.pairs) n.heap.size [.string a,.string ⟨#[]⟩] (n.alloc (.cells #[.string a,.string ⟨#[]⟩] 188)).drew S B (fun g hg=>aA (qC g hg) (aI t k.size)) (aI D (aI t k.size)) ((M.drew).step (Step.of_below k)) (RQ _) (aH n.drew _) M.lt rfl (by intro u hu;simp at hu;rcases hu with rfl|rfl<;>rfl) (by omega) hp
 have qy:=(dM.drew).step (Step.of_below k)
 have qO:=(av.drew).step (Step.of_below k)
 have C:=(M.drew).step (Step.of_below k)
 generalize (n.alloc (.cells #[.string a,.string ⟨#[]⟩] 188)).drew=w2 at*
 refine T.out _ _ ⟨(cells3 j).1,(cells3 j).2.2.2.2.2.2,(mM qb).1,(mM qb).2⟩ ?_
 refine bT rfl rfl rfl ?_;intro K T;go_simp
 refine qf.mono ?_;rintro e A ⟨v3,rfl,V,E⟩
 have qo:(Value.slice Q nd.pairs.length O).ownBlock≠some l:=C.ne j (by decide)
 have b:=(E.block l (cells3 j).2.2.2.2.2.2 qo).trans j
 have N:Below B w A:=F.trans (E.fw (aI D F.size) (fun i hi e=>absurd (C.lo i e) (jX.2 hi)))
 have G:rR A z a:=(N.block z Z).trans hk
 have fo:rR A p value:=(N.block p J).trans hv
 have di:=qy.keep (w':=A) (S':=S) (fun g hg hl hs=>⟨E.block g hl (fun e=>aV.RY qy C (by decide) _ hg e),hs⟩)
 have ai:=qO.keep (w':=A) (S':=S) (fun g hg hl hs=>⟨E.block g hl (fun e=>aV.RY qO C (by decide) _ hg e),hs⟩)
 refine T.out _ _ ⟨(cells3 b).1,(cells3 b).2.2.2.2.2.2,(mM G).1,(mM G).2⟩ ?_
 repeat ((refine bE (v:= ?_) rfl rfl (fun _ _ _ h=>h) rfl (fun W m=> ?_) ?_);rotate_left;(focus ((try dsimp only at m);have q0:=m.1;have q1:=m.2.1;have q2:=m.2.2.1;have q3:=m.2.2.2;first|(go_simp;first|done|with_reducible rfl)));(try simp only[Act.put,ak,ay,ax]))
 have x:(nd.pairs.take P++(a,(⟨#[]⟩:ByteArray))::nd.pairs.drop P).length=nd.pairs.length+1:=by simp only[aB,aQ,aZ,bG];omega
 have d:aV A S B 188 2 v3 (nd.pairs.take P++(a,(⟨#[]⟩:ByteArray))::nd.pairs.drop P).length (dG (nd.pairs.take P++(a,(⟨#[]⟩:ByteArray))::nd.pairs.drop P)):=by
  rw[x,nW,lm,Ew,xX];simpa using V
 have qc:P<(nd.pairs.take P++(a,(⟨#[]⟩:ByteArray))::nd.pairs.drop P).length:=by rw[x];omega
 have r:(nd.pairs.take P++(a,(⟨#[]⟩:ByteArray))::nd.pairs.drop P).set P (a,value)=nd.pairs.take P++(a,value)::nd.pairs.drop P:=by
  rw[dO _ _ (by rw[aQ];omega)]
  rw[show P - (nd.pairs.take P).length=0 from by rw[aQ];omega]
  rfl
 have s:(nd.pairs.take P++(a,(⟨#[]⟩:ByteArray))::nd.pairs.drop P)[P].1=a:=by
  have h1:(nd.pairs.take P++(a,(⟨#[]⟩:ByteArray))::nd.pairs.drop P)[P]? =some (a,(⟨#[]⟩:ByteArray)):=by
   rw[bP (by rw[aQ];omega),show P - (nd.pairs.take P).length=0 from by rw[aQ];omega]
   rfl
  rw[(bO.1 h1).2]
 generalize hX:nd.pairs.take P++(a,(⟨#[]⟩:ByteArray))::nd.pairs.drop P=X at d qc r s x
 have qm:=ah r;clear r
 have HX:=ah hX;clear hX
 have q:=ig.OU (nd:=nd) b hS hB di ai d N
 obtain⟨g,c,rfl,j6,jv,iO,kz⟩:=d.DL (by omega)
 have jb:=ah x;clear x
 have x0:A.frozen? ⟨l,0,none⟩=false:=(cells3 b).2.2.2.1
 have x1:=(cells3 b).1
 have x2:=(cells3 b).2.2.2.2.2.2
 refine jR rfl rfl rfl (by kernel_rfl) ?_;intro K T;go_simp
 refine T.out _ _ ?_
 refine bN ?_
 have pV:rR (A.setCell ⟨l,0,none⟩ (.slice (some ⟨g,0,none⟩) X.length c)) p value:=(q.2.block p J).trans hv
 have o:(A.setCell ⟨l,0,none⟩ (.slice (some ⟨g,0,none⟩) X.length c)).cell? ⟨l,0,none⟩=some (.slice (some ⟨g,0,none⟩) X.length c):=by simp[World.setCell,World.cell?,aK,b]
 generalize A.setCell ⟨l,0,none⟩ (.slice (some ⟨g,0,none⟩) X.length c)=Y at*
 clear x0 x1 x2
 go_wp2_with fail
 obtain⟨⟨_,_,u0,u1,u2,R,q0,q1,q2⟩,af⟩:=q
 have dn:u0= .slice (some ⟨g,0,none⟩) X.length c:=by have e:=o.symm.trans (cells3 R).1;cases e;rfl
 subst dn
 obtain⟨bg,y,j5,_⟩:=q0.row
 have eZ:=y.lt
 have eH:=(cells3 R).2.2.2.2.2.2
 have q8:=y.frozen (P*2+1)
 have bf:=y.cell (P*2+1)
 have d0:Y.drew.cell? ⟨l,0,none⟩=some (.slice (some ⟨g,0,none⟩) X.length c):=o
 have d1:Y.drew.cell? ⟨p,0,none⟩=some (.string value):=(mM pV).1
 have d9:=(mM pV).2
 have j3:(P:Int)<(X.length:Int):=by omega
 refine aP (fun W=>W=Y.drew) (fun i=> !([8].contains i)) [0,1,2,3,4,5,6,7,8] rfl (by kernel_rfl) rfl ?_
 repeat ((refine bE (v:= ?_) rfl rfl (fun _ _ _ h=>h) rfl (fun W m=> ?_) ?_);rotate_left;(focus ((try dsimp only at m);subst m;first|(go_simp;first|done|with_reducible rfl)));(try simp only[Act.put,ak,ay,ax]))
 have x0:Y.drew.frozen? ⟨g,P*2+1,none⟩=false:=q8
 have x1:Y.drew.cell? ⟨g,P*2+1,none⟩=some (bg.getD (P*2+1) undef):=bf.trans (by rw[fE,bB (by have:nd.pairs.length<=999999:=hl;omega)];rfl)
 refine jR rfl rfl rfl (by kernel_rfl) ?_;intro K T;go_simp
 refine T.out _ _ ?_
 refine bN ?_
 go_wp2_with fail
 go_end0
 have qq:=ig.FQ (nd:=⟨X,nd.keys,nd.kids⟩) (W:=Y.drew) (w:=w) (value:=value) P qc R hS hB q1 q2 q0 af.drew
 rw[HD.out,<-qm.out]
 have e2:X[P]=(a,X[P].2):=by rw[<-s]
 have e3:X.set P (X[P].1,value)=X.set P (a,value):=by rw[s]
 rw[<-e3]
 exact⟨rfl,qq.1,qq.2⟩
theorem MI (k j d B:Nat)(b a:ByteArray)(c:Nd)(S:Nat->Prop)(w:World)(i:∀g,S g->g<w.heap.size)(q:rR w k b)(r:rR w j a)(l:k<B)(m:j<B)(n:ig w S B d c)(p:iK c.pairs)(s:c.pairs.length<=999999):
  Calls Tryz.prog 545 #[.pointer (some ⟨d,0,none⟩),.pointer (some ⟨k,0,none⟩),.pointer (some ⟨j,0,none⟩)] w fun e o=>e= .returned (.tuple #[])/\ig o S B d ⟨jh c.pairs b a,c.keys,c.kids⟩/\Below B w o:=by
 cases f:qQ c.pairs b with
 |true=>exact MH k j d B b a c S w q r n p (by omega) f
 |false=>exact MG k j d B b a c S w i q r l m n p s f
end Go.Proofs.YtpmbddooibgnaaaGreatDoor
