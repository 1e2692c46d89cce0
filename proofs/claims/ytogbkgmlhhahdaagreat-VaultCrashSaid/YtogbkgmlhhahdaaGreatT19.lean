--
import Derived.Test.YtogbkgmlhhahdaaGreatT15
import Derived.Test.YtogbkgmlhhahdaaGreatT16
import Derived.Test.YtogbkgmlhhahdaaGreatT17
import Derived.Test.YtogbkgmlhhahdaaGreatT18
set_option maxRecDepth 100000
set_option maxHeartbeats 0
set_option linter.all false
namespace Go.Proofs.YtogbkgmlhhahdaaGreat
open Go.RowKit
variable{S:Nat->Prop}{a:Nd}{v:Value}{w:World}
structure Cm (σ:cK)(b:Int)(nd:Nd):Prop where
 has:σ.hasB b=true
 lo:2<=b
 hi:b<=4096
 mem:∃rest,σ.mem b=nd.enc++rest
 fits:nd.Fits
def dw (w:World)(t:Nat)(mp:VS)(root err:Int):Prop:=w.heap[t]? =some (.cells #[.iface 97 mp.agg,.int .i64 root,.int .i64 err] 160 (0,0))
theorem nM (t:Nat)(p:VS)(m x b c:Int)(y:cK)(S:Nat->Prop)(s:Nd)(w:World)(h:Inv y S p w)(G:dw w t p m x)(q:Cm y b s)(T:c<=40):
  Calls Tryz.prog 93 #[.pointer (some ⟨t,0,none⟩),.int .i64 b,.int .i64 c] w fun e B=>∃r,e= .returned (.tuple #[.pointer (some ⟨r,0,none⟩),.int .i64 0])/\iQ B S w.heap.size r s/\Below w.heap.size w B:=by
 obtain⟨V,W,X,_,_,_,E⟩:=cells3 G;obtain⟨f,d⟩:=q.mem;have j:=Df p y S w b h q.has;have l:=q.fits;have o:=h.sub;have k:(s.enc++f).length=512:=by
  rw[<-d];obtain⟨n,rfl,z,_⟩:=cK.kT q.has;exact h.ok.len n z
 rw[d] at j;have C:¬((40:Int)<c):=by omega
 go_enter Tryz.func93,Tryz.ntmps93;have Y:∀w,(method 454 97 p.agg "Read").run Tryz.prog w= .ok (57,.pointer (some ⟨p.tx,0,none⟩)) w:=fun _=>by kernel_rfl
 have A:=ah j;clear j d;go_wp2_with (first|(refine A.out.mono ?_;rintro e D ⟨v,rfl,P,_,a⟩)|(go_at_call 136;go_must ((refine(L8 _ s f D S (fun g H=>ax (o g H) a.size) (by unfold gF;rw[k];exact P) l (by rw[k];omega)).mono ?_);rintro e Z ⟨r,rfl,z,i⟩)))
 go_ret2;refine⟨r,rfl,?_,a.trans (i.mono a.size)⟩;obtain⟨F,I,Q,J,O,R,K,N,M⟩:=z;exact⟨F,aK a.size I,Q,J,O,R,K.base a.size,N.base a.size,M.base a.size⟩
def dw.step {w w':World}{t:Nat}{f:VS}{a b:Int}{S S':Nat->Prop}(h:dw w t f a b)(d:¬S t)(e:Step S S' w w'):dw w' t f a b/\¬S' t:=by
 have c:=(ai.1 h).1;exact⟨(e.1.block t c d).trans h,fun x=>(e.2 t x).elim d (fun y=>absurd c (bg.2 y))⟩
theorem Il (t:Nat)(f:VS)(d g b c:Int)(i:cK)(S:Nat->Prop)(o:Nd)(w:World)(h:Inv i S f w)(m:dw w t f d g)(s:¬S t)(n:Cm i b o)(v:c<=40):
  Calls Tryz.prog 152 #[.pointer (some ⟨t,0,none⟩),.int .i64 b,.int .i64 c] w fun e l=>∃j,e= .returned (.pointer (some ⟨j,0,none⟩))/\iQ l S w.heap.size j o/\Inv (i.gone b) S f l/\Step S S w l:=by
 have k:t<w.heap.size:=(ai.1 m).1;go_enter Tryz.func152,Tryz.ntmps152;have z:∀w,(method 454 97 f.agg "Free").run Tryz.prog w= .ok (258,.pointer (some ⟨f.mp,0,none⟩)) w:=fun _=>by kernel_rfl
 go_wp2_with (first|(go_at_call 93;go_must ((refine(nM t f d g b c i S o w h m n v).mono ?_);rintro e p ⟨j,rfl,y,a⟩))|(go_at_call 151;go_must ((refine(pJ _).mono ?_);rintro e p ⟨rfl,rfl⟩;refine sO ?_)))
 refine sN ?_;obtain⟨B,_,_,_,_,_,q⟩:=cells3 ((a.block t k).trans m);go_wp2_with (first|(go_at_call 258;go_must ((refine(tZ f i S _ b (h.below a) n.lo n.has).mono ?_);rintro e A ⟨rfl,x,r⟩))|(go_at_call 151;go_must ((refine(pJ _).mono ?_);rintro e p ⟨rfl,rfl⟩;refine sO ?_)))
 refine sN ?_;go_wp2_with fail;go_ret;exact⟨j,rfl,y.step r,x,(Step.of_below a).trans r⟩
structure Wrote (σ:cK)(b:Int)(nd:Nd)(σ':cK):Prop where
 new:σ.hasB b=false
 nheld:σ.held b=false
 blk:Cm σ' b nd
 other:∀x,x≠b->σ'.hasB x=σ.hasB x/\σ'.mem x=σ.mem x
 size:σ'.sz=σ.sz+1
 held:σ'.H=σ.H
 most:σ'.most=σ.most
 tk:σ'.tk=max σ.tk σ'.sz
def Em (mp:VS)(σ:cK)(S:Nat->Prop)(w:World)(e:Ending)(w':World):Prop:=
 e= .panicked (brk 12)/\∃σ' S',Inv σ' S' mp w'/\Step S S' w w'/\σ'.H=σ.H/\σ'.most=σ.most
def Em.after {m:VS}{i f:cK}{l:Nat->Prop}{j k:World}{e:Ending}(h:Em m f l j e k)(p:Step S l w j)(o:f.H=i.H)(n:f.most=i.most):Em m i S w e k:=by
 obtain⟨r,g,q,a,b,c,d⟩:=h;exact⟨r,g,q,a,p.trans b,c.trans o,d.trans n⟩
def PO {a:cK}(q:a.Ok){f:Nat}{c:Nd}(r:2<=f)(k:f<a.most)(m:a.hasB f=false)(l:a.held f=false)(d:c.Fits):Wrote a f c ((a.took f).wrote f (pad c.enc)):=by
 have p:=q.cap;have j:a.now f=false:=by
  unfold cK.hasB at m;simpa [k] using m
 have i:a.H.old f=false:=by
  unfold cK.held at l;simpa using l
 have o:∀x:Int,x≠f->0<=x->x.toNat≠f:=fun x o n e=>o (by omega)
 refine⟨m,l,⟨?_,by omega,by omega,⟨List.replicate (512 - c.enc.length) 0,?_⟩,d⟩,fun x g=>⟨?_,?_⟩,?_,rfl,rfl,rfl⟩
 ·show (decide ((0:Int)<=(f:Int)) && (decide ((f:Int).toNat<a.most) && iB a.now f true (f:Int).toNat))=true
  simp[iB,k]
 ·show a.H.pg.look (a.im.put f (pad c.enc)) a.H.dk (f:Int).toNat=_
  rw[qA,fE,if_pos rfl];rfl
 ·show (decide (0<=x) && (decide (x.toNat<a.most) && iB a.now f true x.toNat))=_
  unfold cK.hasB
  by_cases n:0<=x
  ·unfold iB;rw[if_neg (o x g n)]
  ·simp[n]
 ·show a.H.pg.look (a.im.put f (pad c.enc)) a.H.dk x.toNat=a.H.pg.look a.im a.H.dk x.toNat
  rw[qA]
  split
  ·rename_i e
   exact absurd (by omega:x=f) g
  ·rfl
 ·show countB (fun x=>iB a.now f true x||a.H.old x) a.most=countB (fun x=>a.now x||a.H.old x) a.most+1
  rw[<-A7 (f:=fun x=>a.now x||a.H.old x) (b:=f) (by rw[j,i];rfl) _ k];refine jW _ (fun x _=> ?_);unfold iB
  split<;>simp
theorem EN (t:Nat)(k:VS)(J q9:Int)(s:cK)(S:Nat->Prop)(I:Nat)(B:Nd)(a:ByteArray)(w:World)(h:Inv s S k w)(ht:dw w t k J q9)(qo:¬S t)(hn:gN w S I B)(C:B.Fits)(hs:B.size<=512):
  Calls Tryz.prog 179 #[.pointer (some ⟨t,0,none⟩),.pointer (some ⟨I,0,none⟩),.string a] w fun e w'=>(∃(f:Nat) (Y:cK) (S':Nat->Prop),e= .returned (.agg #[.int .i64 f,.string a])/\Wrote s f B Y/\Inv Y S' k w'/\Step S S' w w')\/(s.sz=s.most/\Em k s S w e w'):=by
 obtain⟨c0,_,_,_,_,_,di⟩:=cells3 ht;have q8:I<w.heap.size:=by obtain⟨_,_,_,_,hb,_⟩:=hn;exact(ai.1 hb).1
 have D:=h.sub;go_enter Tryz.func179,Tryz.ntmps179;have bN:∀w,(method 454 97 k.agg "Take").run Tryz.prog w= .ok (259,.pointer (some ⟨k.mp,0,none⟩)) w:=fun _=>by kernel_rfl
 have dn:∀w,(method 454 97 k.agg "Write").run Tryz.prog w= .ok (66,.pointer (some ⟨k.tx,0,none⟩)) w:=fun _=>by kernel_rfl
 have G:=aN w (.cells #[.int .i64 0,.string ⟨#[]⟩] 253);go_wp2_with (first|(go_at_call 259;go_must ((refine(MO k s S _ (h.below G)).mono ?_);rintro e y (⟨f,rfl,f1,f2,f3,f4,f6,q,r⟩|⟨rfl,o,q,r⟩)<;>refine sO ?_)))
 rotate_left
 ·refine sN ?_
  have bB:=ah o;clear o;go_wp2_with (first|(go_at_call 151;go_must ((refine(QX 12 rfl _).mono ?_);rintro e F ⟨rfl,hw⟩;subst F)))
  exact⟨rfl,.inr ⟨bB.out,rfl,s,S,q,(Step.of_below G).trans r,rfl,rfl⟩⟩
 refine sN ?_;go_wp2_with (first|(go_at_call 151;go_must ((refine(pJ _).mono ?_);rintro e F ⟨rfl,hw⟩;subst F)))
 have b:Step S S w y:=(Step.of_below G).trans r;have m:=ht.step qo b;have p9:=hn.step b;have H:=q.sub;have c:y.heap[w.heap.size]? =some (.cells #[.int .i64 0,.string ⟨#[]⟩] 253 (0,0)):=(r.1.block _ (by rw[aU];exact iL _) (fun x=>absurd (D _ x) (dB _))).trans (aV _ _);obtain⟨c1,_,_,_,_,_,N⟩:=cells3 m.1;have bH:I<y.heap.size:=ax q8 b.1.size;have bC:=h.cap;have X:=ah f2;have f5:f<=4096:=by omega
 clear f2 c0;refine aP (fun W=>W.cell? ⟨t,0,none⟩=some (.iface 97 k.agg)/\t<W.heap.size) (fun i=> !([6,9,10].contains i)) [0,1,2,3,4,5,7,8,6,9,10] rfl (by kernel_rfl) ⟨c1,N⟩ ?_
 repeat (refine oq ?_ rfl rfl rfl ?_ ?_;rotate_left;(focus intro W hW;(try dsimp only at hW);have q0:=hW.1;have q1:=hW.2;first|(go_simp;first|done|with_reducible rfl));try simp only[Act.put,aj,au,ak])
 have hE:=LQ I B y.drew S H p9 (by omega) C.kd;refine dI rfl rfl rfl ?_;intro K T;go_simp;refine hE.mono ?_;rintro e F ⟨v,rfl,hv,n⟩;have af:Inv (s.took f) S k F:=q.below (((aR _ y).drew).trans n);have M:Step S S y F:=Step.of_below (((aR _ y).drew).trans n);have aA:=m.1.step m.2 M;obtain⟨c2,_,_,_,_,_,Z⟩:=cells3 aA.1;refine T.out _ _ ⟨c2,Z⟩ ?_;have bA:gF F gB v B.enc:=aZ.loose hv.dx;have av:B.enc.length<=512:=by rw[Nd.DW];exact hs
 have V:=xD k _ S F f v B.enc af X.out bA av (.inr ⟨by simp[cK.took,iB],by show s.H.old f=false;have:=f4;unfold cK.held at this;simpa using this⟩);have qc:=ah V;clear V hE;refine dI rfl rfl rfl ?_;intro K T;go_simp;refine qc.out.mono ?_;rintro e j ⟨rfl,O,pM⟩;have l:Step S S y j:=M.trans pM;have aB:=m.1.step m.2 l;obtain⟨c3,_,_,_,_,_,E⟩:=cells3 aB.1;refine T.out _ _ ⟨c3,E⟩ ?_;refine dI rfl rfl rfl ?_;intro K T;go_simp;refine(pJ _).mono ?_;rintro e w4 ⟨rfl,hw⟩;subst w4;refine T.out _ _ ⟨c3,E⟩ ?_;refine bR ?_;have ql:w.heap.size<y.heap.size:=(ai.1 c).1;have A:¬S w.heap.size:=fun x=>absurd (D _ x) (dB _)
 have d:j.heap[w.heap.size]? =some (.cells #[.int .i64 0,.string ⟨#[]⟩] 253 (0,0)):=(l.1.block _ ql A).trans c;have qb:w.heap.size<j.heap.size:=(ai.1 d).1;have r0:j.cell? ⟨w.heap.size,0,none⟩=some (.int .i64 0):=by simp[World.cell?,d]
 have r1:j.cell? ⟨w.heap.size,1,none⟩=some (.string ⟨#[]⟩):=by simp[World.cell?,d]
 have g0:j.frozen? ⟨w.heap.size,0,none⟩=false:=by simp[World.frozen?,d]
 have g1:j.frozen? ⟨w.heap.size,1,none⟩=false:=by simp[World.frozen?,d]
 have dx:=O.sub;have P:=ah (aC f3 (aC f4 f6));clear c1 c2 c3 c f3 f4 f6;go_wp2_with fail;have Q:Keep (· =w.heap.size) j ((j.setCell ⟨w.heap.size,0,none⟩ (.int .i64 f)).setCell ⟨w.heap.size,1,none⟩ (.string a)):=((Keep.refl (· =w.heap.size) j).setCell (p:=⟨w.heap.size,0,none⟩) (.inr rfl) _).setCell (p:=⟨w.heap.size,1,none⟩) (.inr rfl) _;have R:((j.setCell ⟨w.heap.size,0,none⟩ (.int .i64 f)).setCell ⟨w.heap.size,1,none⟩ (.string a)).heap[w.heap.size]? =some (.cells #[.int .i64 f,.string a] 253 (0,0)):=by
  simp[World.setCell,aQ,d]
 refine jE (results_cell_row rfl _ _ _ 253 #[.int .i64 f,.string a] (0,0) _ rfl R Tryz.underlying253 rfl rfl) rfl ?_;have z:Step S S w j:=b.trans l;refine .inl ⟨f,_,S,rfl,?_,O.lQ Q (fun g hg e=>A (by rw[<-e];exact hg)),z.1.trans Q (fun i hi e=>absurd hi (by rw[e];exact dB _)),z.2⟩;exact PO h.ok f1 X.out P.out.1 P.out.2.1 C
structure Nd.Ok (nd:Nd):Prop where
 pr:∀p∈nd.pairs,p.1.size<=128/\p.2.size<=64
 ky:∀k∈nd.keys,k.size<=128
 kd:∀k∈nd.kids,1<=k/\k<=4096
 kk:nd.keys.length=nd.kids.length - 1
 one:nd.kids≠[]->nd.pairs=[]
 np:nd.pairs.length<=2000
 nk:nd.kids.length<=2000
def vW (a:List Pr)(h:∀p∈a,p.1.size<=128/\p.2.size<=64):eG a<=194*a.length:=by
 induction a with
 |nil=>exact aS _
 |cons p a ih=>
  have c:=h p (by simp);have:=ih (fun q b=>h q (by simp[b]));rw[lq,bn];omega
def uO (a:List ByteArray)(h:∀p∈a,p.size<=128):eP a<=129*a.length:=by
 induction a with
 |nil=>exact aS _
 |cons p a ih=>
  have c:=h p (by simp);have:=ih (fun q b=>h q (by simp[b]));rw[lu,bn];omega
def Nd.Ok.size_le (h:a.Ok):a.size<=1000000:=by
 have d:=vW _ h.pr;have b:=uO _ h.ky;have f:=h.np;have c:=h.nk;have e:=h.kk;unfold Nd.size;omega
def Nd.Ok.fits (h:a.Ok)(e:a.size<=512)(d:a.kids≠[]\/a.pairs≠[]):a.Fits:=by
 have g:=p8 a.pairs;have f:=pK a.keys;unfold Nd.size at e;refine⟨by omega,by omega,fun p c=> ?_,fun k b=> ?_,fun k b=> ?_,h.kk,?_,?_⟩
 ·have:=h.pr p c;omega
 ·have:=h.ky k b;omega
 ·have:=h.kd k b;omega
 ·intro c b;exact d.elim (fun x=>x b) (fun x=>x c)
 ·intro b;exact h.one b
inductive xX:Nd->ByteArray->List (ByteArray×Nd)->Prop
 |none {nd l}:nd.kids=[]->nd.pairs=[]->xX nd l []
 |one {nd l}:(nd.kids≠[]\/nd.pairs≠[])->nd.size<=512->xX nd l [(leastOf nd l,nd)]
 |leaf {nd l} (i:Nat) (hi:i<nd.pairs.length) {A B}:nd.kids=[]->512<nd.size->1<=i->xY nd i->xX ⟨nd.pairs.take i,[],[]⟩ l A->xX ⟨nd.pairs.drop i,[],[]⟩ (leastOf ⟨nd.pairs.drop i,[],[]⟩ nd.pairs[i].1) B->xX nd l (A++B)
 |inner {nd l} (i:Nat) (hi:i - 1<nd.keys.length) {A B}:nd.kids≠[]->512<nd.size->i=nd.kids.length/2->xX ⟨[],nd.keys.take (i - 1),nd.kids.take i⟩ l A->xX ⟨[],nd.keys.drop i,nd.kids.drop i⟩ (leastOf ⟨[],nd.keys.drop i,nd.kids.drop i⟩ nd.keys[i - 1]) B->xX nd l (A++B)
def Puts:cK->List Pc->List (ByteArray×Nd)->cK->Prop
 |σ,[],[],σ'=>σ'=σ
 |σ,p::ps,z::zs,σ'=>∃σ1,p.2=z.1/\Wrote σ p.1 z.2 σ1/\Puts σ1 ps zs σ'
 |_,_,_,_=>False
def Puts.append {e b c:cK}{d f:List Pc}{a g:List (ByteArray×Nd)}(h:Puts e d a b)(k:Puts b f g c):Puts e (d++f) (a++g) c:=by
 induction d generalizing e a with
 |nil=>
  cases a with
  |nil=>cases h;exact k
  |cons z a=>exact absurd h id
 |cons p d ih=>
  cases a with
  |nil=>exact absurd h id
  |cons z a=>
   obtain⟨l,j,i,m⟩:=h;exact⟨l,j,i,ih m⟩
def Puts.length {c a:cK}{ps:List Pc}{b:List (ByteArray×Nd)}(h:Puts c ps b a):ps.length=b.length/\a.sz=c.sz+b.length/\a.most=c.most/\a.H=c.H/\a.tk<=max c.tk a.sz:=by
 induction ps generalizing c b with
 |nil=>
  cases b with
  |nil=>cases h;exact⟨rfl,rfl,rfl,rfl,Kq _ _⟩
  |cons z b=>exact absurd h id
 |cons p ps ih=>
  cases b with
  |nil=>exact absurd h id
  |cons z b=>
   obtain⟨j,i,d,e⟩:=h;have:=ih e;have s:=d.size;have k:=d.tk;refine⟨by simp[this.1],by rw[this.2.1,bn];omega,this.2.2.1.trans d.most,this.2.2.2.1.trans d.held,by have f:=this.2.1;have g:=this.2.2.2.2;omega⟩
def Nd.room (nd:Nd):Nat:=nd.pairs.length+(if nd.kids=[] then 0 else max 1 (nd.kids.length/2))
def Nd.Ok.big (h:a.Ok)(b:512<a.size):(a.kids=[]->3<=a.pairs.length)/\(a.kids≠[]->5<=a.kids.length):=by
 have e:=vW _ h.pr;have g:=uO _ h.ky;have d:=h.kk;unfold Nd.size at b;constructor
 ·intro c
  rw[c] at d b;simp only[bV] at d b;rw[d] at g;omega
 ·intro c
  have f:=h.one c;rw[f] at e b;simp only[bV] at e;omega
def Nd.Ok.left (h:a.Ok)(i:Nat)(c:a.kids=[]):Nd.Ok ⟨a.pairs.take i,[],[]⟩:=
 ⟨fun p b=>h.pr p (eT b),by simp,by simp,rfl,by simp,by have:=h.np;simp only[aH];omega,by simp⟩
def Nd.Ok.right (h:a.Ok)(i:Nat)(c:a.kids=[]):Nd.Ok ⟨a.pairs.drop i,[],[]⟩:=
 ⟨fun p b=>h.pr p (cZ b),by simp,by simp,rfl,by simp,by have:=h.np;simp;omega,by simp⟩
def Nd.Ok.Fv (h:a.Ok)(i:Nat)(c:i<=a.kids.length):Nd.Ok ⟨[],a.keys.take (i - 1),a.kids.take i⟩:=
 ⟨by simp,fun k b=>h.ky k (eT b),fun k b=>h.kd k (eT b),by have:=h.kk;simp;omega,by simp,by simp,by have:=h.nk;simp;omega⟩
def Nd.Ok.AJ (h:a.Ok)(i:Nat):Nd.Ok ⟨[],a.keys.drop i,a.kids.drop i⟩:=
 ⟨by simp,fun k b=>h.ky k (cZ b),fun k b=>h.kd k (cZ b),by have:=h.kk;simp;omega,by simp,by simp,by have:=h.nk;simp;omega⟩
def xX.room {c:Nd}{l:ByteArray}{n:List (ByteArray×Nd)}(h:xX c l n)(k:c.Ok):n.length<=c.room:=by
 induction h with
 |none j p=>simp
 |@one c l j p=>
  unfold Nd.room;rcases j with j|j
  ·rw[if_neg j];simp;omega
  ·have:=dD.2 j;simp;omega
 |@leaf c l i q A B g o m _ _ _ d f=>
  have a:=d (k.left i g);have b:=f (k.right i g);unfold Nd.room at*;rw[g];simp at*;omega
 |@inner c l i q A B g o m _ _ d f=>
  have a:=d (k.Fv i (by omega));have b:=f (k.AJ i);have t:=(k.big o).2 g;unfold Nd.room at*;have r:c.kids.take i≠[]:=fun e=>by have:=congrArg List.length e;simp only[aH,bV] at this;omega
  have s:c.kids.drop i≠[]:=fun e=>by have:=congrArg List.length e;simp only[aO,bV] at this;omega
  rw[if_neg r] at a;rw[if_neg s] at b;rw[if_neg g];simp only[aH,aO,bV,ay] at*;omega
def mF (mp:VS)(σ:cK)(S:Nat->Prop)(nd:Nd)(least:ByteArray)(w:World)(e:Ending)(w':World):Prop:=
 (∃v ps zs σ' S',e= .returned v/\aT w' S' w.heap.size 253 2 v ps.length (mq ps)/\xX nd least zs/\Puts σ ps zs σ'/\Inv σ' S' mp w'/\Step S S' w w')\/(σ.most<σ.sz+nd.room/\Em mp σ S w e w')
def QE (b:a.kids≠[]\/a.pairs≠[]):1<=a.room:=by
 unfold Nd.room;rcases b with h|h
 ·rw[if_neg h];omega
 ·have:=dD.2 h;omega
theorem Ir (t:Nat)(k:VS)(f:cK)(S:Nat->Prop)(c:Nat)(b:Nd)(a:ByteArray)(w:World)(h:Inv f S k w)(j:gN w S c b)(g:b.kids=[])(i:b.pairs=[]):
  Calls Tryz.prog 150 #[.pointer (some ⟨t,0,none⟩),.pointer (some ⟨c,0,none⟩),.string a] w (mF k f S b a w):=by
 have s:=j;obtain⟨_,G,y,F,p,o,x,v⟩:=j;obtain⟨z,B,D,_,_,_,m⟩:=cells3 p;obtain⟨r,q,rfl,A,E,_,_⟩:=aZ.form o;have d:b.kids.isEmpty=true:=by rw[g];rfl
 have n:b.pairs.length=0:=by rw[i];rfl
 go_enter Tryz.func150,Tryz.ntmps150;go_wp2_with (first|(go_at_call 121;go_must ((refine(ku c b _ S s).mono ?_);rintro e l ⟨rfl,C⟩;subst l;rw[d])))
 go_ret;exact .inl ⟨_,[],[],f,S,rfl,aT.nil _ _ _ _ _,.none g i,rfl,h,Step.refl S w⟩
theorem CR (t:Nat)(A:VS)(l r:Int)(D:cK)(S:Nat->Prop)(m:Nat)(c:Nd)(b:ByteArray)(w:World)(h:Inv D S A w)(K:dw w t A l r)(G:¬S t)(hn:gN w S m c)(W:c.Ok)(i:c.kids≠[]\/c.pairs≠[])(I:c.size<=512):
  Calls Tryz.prog 150 #[.pointer (some ⟨t,0,none⟩),.pointer (some ⟨m,0,none⟩),.string b] w (mF A D S c b w):=by
 have q:=hn;obtain⟨_,v0,v1,v2,hb,h0,P,H⟩:=hn;obtain⟨c0,c1,c2,_,_,_,p9⟩:=cells3 hb;obtain⟨ql,qc,rfl,n0,m0,_,_⟩:=aZ.form h0;have o:=W.fits I i;have HR:=ah (QE i);have g:(c.kids.isEmpty && c.pairs.isEmpty)=false:=by
  rcases i with i|i<;>cases P:c.kids<;>cases H:c.pairs<;>simp_all
 have p:=ah (show c.kids=[]->c.pairs≠[] from fun x y=>i.elim (fun z=>z x) (fun z=>z y));have F:t<w.heap.size:=(ai.1 K).1;have qo:(c.size:Int)<=512:=by omega
 go_enter Tryz.func150,Tryz.ntmps150;have j:∀(f:Nat) (d:cK) (n:Nat->Prop) (C:World),Wrote D f c d->Inv d n A C->Step S n w C->mF A D S c b w (.returned (.slice (some ⟨C.heap.size,0,none⟩) 1 1)) (C.alloc (.cells #[.int .i64 f,.string (leastOf c b)] 253)):=by
  intro f d n C P H h3;refine .inl ⟨_,[((f:Int),leastOf c b)],_,d,n,rfl,?_,.one i I,⟨d,rfl,P,rfl⟩,H.below (aN _ _),h3.trans (Step.of_below (aN _ _))⟩;have:=mX (w:=C) (S:=n) (B:=w.heap.size) (e:=253) (k:=2) (mq [((f:Int),leastOf c b)]) 1 1 rfl rfl (aD _) (by simp[maxLen]) h3.1.size H.sub;exact this
 cases O:c.kids.isEmpty with
 |true=>
  have qb:¬c.pairs.length=0:=by
   rw[O] at g;intro e;rw[aY e] at g;simp at g
  have pM:¬((c.pairs.length:Int)=0):=by omega
  go_wp2_with (first|(go_at_call 121;go_must ((refine(ku m c _ S q).mono ?_);rintro e E ⟨rfl,Q⟩;subst E;rw[O]))|(go_at_call 178;go_must ((refine(pu m c _ S q W.size_le).mono ?_);rintro e E ⟨rfl,a⟩))|(go_at_call 180;go_must ((refine(xR m c b _ S (q.below a) p.out).mono ?_);rintro e Z ⟨rfl,Q⟩;subst Z))|(go_at_call 179;go_must ((refine(EN t A l r D S m c _ _ (h.below a) ((a.block _ F).trans K) G (q.below a) o I).mono ?_);rintro e J (⟨f,d,n,rfl,M,T,X⟩|⟨v,rfl,s,Y,V,N,g3,R⟩)<;>refine sO ?_)))
  rotate_left
  ·refine sN ?_
   exact⟨rfl,.inr ⟨by have:=HR.out;omega,rfl,s,Y,V,(Step.of_below a).trans N,g3,R⟩⟩
  refine sN ?_;go_wp2_with fail;go_ret;exact j f d n J M T ((Step.of_below a).trans X)
 |false=>
  go_wp2_with (first|(go_at_call 121;go_must ((refine(ku m c _ S q).mono ?_);rintro e E ⟨rfl,Q⟩;subst E;rw[O]))|(go_at_call 178;go_must ((refine(pu m c _ S q W.size_le).mono ?_);rintro e E ⟨rfl,a⟩))|(go_at_call 180;go_must ((refine(xR m c b _ S (q.below a) p.out).mono ?_);rintro e Z ⟨rfl,Q⟩;subst Z))|(go_at_call 179;go_must ((refine(EN t A l r D S m c _ _ (h.below a) ((a.block _ F).trans K) G (q.below a) o I).mono ?_);rintro e J (⟨f,d,n,rfl,M,T,X⟩|⟨v,rfl,s,Y,V,N,g3,R⟩)<;>refine sO ?_)))
  rotate_left
  ·refine sN ?_
   exact⟨rfl,.inr ⟨by have:=HR.out;omega,rfl,s,Y,V,(Step.of_below a).trans N,g3,R⟩⟩
  refine sN ?_;go_wp2_with fail;go_ret;exact j f d n J M T ((Step.of_below a).trans X)
def DI:(Tryz.prog.info? 253).map (fun i=>(i.zero,i.size,i.bytes))=some (some (.agg #[.int .i64 0,.string ⟨#[]⟩]),2,24):=by kernel_rfl
def M5 (b:List Pc):∀u∈mq b,u.oneCell'=true:=by
 intro u c;obtain⟨p,_,a⟩:=kF.1 c;simp at a;rcases a with rfl|rfl<;>rfl
def vY (a b:List Pc):mq (a++b)=mq a++mq b:=by simp[mq]
def Step.app {b:Nat->Prop}{c d:World}(h:Step S b w c)(f:Keep (fun g=>v.ownBlock=some g) c d)(a:∀g,v.ownBlock=some g->w.heap.size<=g):Step S b w d:=
 ⟨h.1.trans f (fun i j e=>absurd j (bg.2 (a i e))),h.2⟩
def R3 (t:Nat)(mp:VS)(root err:Int)(n:Nat):Prop:=
 ∀(σ:cK) (S:Nat->Prop) (nb:Nat) (nd:Nd) (least:ByteArray) (w:World),Inv σ S mp w->dw w t mp root err->¬S t->gN w S nb nd->nd.Ok->nd.pairs.length+nd.kids.length<n->
  Calls Tryz.prog 150 #[.pointer (some ⟨t,0,none⟩),.pointer (some ⟨nb,0,none⟩),.string least] w (mF mp σ S nd least w)
def room_le {b:Nd}(a:b.Ok):b.room<=4000:=by
 have:=a.np;have:=a.nk;unfold Nd.room
 split<;>omega
def K7 (a:Nd)(i:Nat)(b:a.kids≠[])(f:5<=a.kids.length)(g:i=a.kids.length/2):Nd.room ⟨[],a.keys.take (i - 1),a.kids.take i⟩+Nd.room ⟨[],a.keys.drop i,a.kids.drop i⟩<=a.room:=by
 have c:a.kids.take i≠[]:=fun e=>by have:=congrArg List.length e;simp only[aH,bV] at this;omega
 have d:a.kids.drop i≠[]:=fun e=>by have:=congrArg List.length e;simp only[aO,bV] at this;omega
 unfold Nd.room;rw[if_neg c,if_neg d,if_neg b];simp only[aH,aO,bV];omega
def QW (a:Nd)(i:Nat)(b:i<a.pairs.length):Nd.kids ⟨a.pairs.drop i,[],[]⟩=[]->Nd.pairs ⟨a.pairs.drop i,[],[]⟩≠[]:=fun _ e=>by have:=congrArg List.length e;simp only[aO,bV] at this;omega
def Oz (a:Nd)(i:Nat)(b:5<=a.kids.length)(c:i=a.kids.length/2):Nd.kids ⟨[],a.keys.drop i,a.kids.drop i⟩=[]->Nd.pairs ⟨[],a.keys.drop i,a.kids.drop i⟩≠[]:=fun e=>absurd e (fun e=>by have:=congrArg List.length e;simp only[aO,bV] at this;omega)
theorem Iu (t:Nat)(mp:VS)(C q8:Int)(j:Nd)(IH:R3 t mp C q8 (j.pairs.length+j.kids.length))(σ:cK)(S:Nat->Prop)(R:Nat)(o:ByteArray)(w:World)(h:Inv σ S mp w)(ht:dw w t mp C q8)(bN:¬S t)(hn:gN w S R j)(H:j.Ok)(hs:512<j.size)(N:j.kids=[]):
  Calls Tryz.prog 150 #[.pointer (some ⟨t,0,none⟩),.pointer (some ⟨R,0,none⟩),.string o] w (mF mp σ S j o w):=by
 have hN:=hn;obtain⟨_,v0,v1,v2,hb,h0,h1,h2⟩:=hn;obtain⟨c0,c1,c2,_,_,_,jF⟩:=cells3 hb;obtain⟨jl,jO,rfl,n0,m0,_,_⟩:=aZ.form h0;have j4:=H.np;have j6:=H.nk;have iO:=ah H.kk;have F:=ah ((H.big hs).1 N);have kg:t<w.heap.size:=(ai.1 ht).1;have HS:=ah hs;have jv:¬((j.size:Int)<=512):=by omega
 clear hs;have HI:=ah IH;clear IH;have T:=H.size_le;have dn:j.kids.isEmpty=true:=by rw[N];rfl
 have j5:¬j.pairs.length=0:=by have:=F.out;omega
 have fK:¬((j.pairs.length:Int)=0):=by omega
 go_enter Tryz.func150,Tryz.ntmps150;go_wp2_with (first|(go_at_call 121;go_must ((refine(ku R j _ S hN).mono ?_);rintro e w1 ⟨rfl,hw⟩;subst w1;rw[dn]))|(go_at_call 178;go_must ((refine(pu R j _ S hN T).mono ?_);rintro e w1 ⟨rfl,l⟩))|(go_at_call 181;go_must ((refine(DJ R j _ S (fun g hg=>ax (h.sub g hg) l.size) (hN.below l) N (by have:=F.out;omega) T).mono ?_);rintro e w2 ⟨i,hi,b1,b2,qb,rfl,hA,hB,M,hcut⟩;have W:=ah qb;have af:=ah hcut;clear qb hcut;clear c0 c1 c2;refine sO ?_)))
 refine sN ?_;have f:Below w.heap.size w w2:=l.trans (M.mono l.size);have G:=ah (show (Nd.pairs ⟨j.pairs.take i,[],[]⟩).length+(Nd.kids ⟨j.pairs.take i,[],[]⟩).length<j.pairs.length+j.kids.length/\(Nd.pairs ⟨j.pairs.drop i,[],[]⟩).length+(Nd.kids ⟨j.pairs.drop i,[],[]⟩).length<j.pairs.length+j.kids.length from by have:=W.out;simp only[aH,aO,bV];omega);have k:=ah (show Nd.room ⟨j.pairs.take i,[],[]⟩+Nd.room ⟨j.pairs.drop i,[],[]⟩<=j.room from by unfold Nd.room;simp only[aH,aO,iX];omega);have v:=ah (H.left i N);have r:=ah (H.right i N);have dZ:=h.below f;have A:=ht.step bN (Step.of_below f);go_wp2_with (first|(go_at_call 150;go_must ((refine(HI.out σ S b1 ⟨j.pairs.take i,[],[]⟩ o w2 dZ A.1 A.2 hA v.out G.out.1).mono ?_);rintro e w3 (⟨x1,m,bH,dx,S1,rfl,y,D,x,dR,q⟩|⟨p9,rfl,τ,K,g1,g2,g3,g4⟩)<;>refine sO ?_)))
 rotate_left
 ·refine sN ?_
  exact⟨rfl,.inr ⟨by have:=k.out;omega,rfl,τ,K,g1,(Step.of_below f).trans g2,g3,g4⟩⟩
 refine sN ?_;have Y:=x.length;have X:=D.room v.out;have pM:=hB.step q;have av:=A.1.step A.2 q;obtain⟨bA,di,rfl,n1,m1,_,_⟩:=aZ.form y.dx;have qo:=ah Y;clear Y;have ql:=ah X;clear X;go_wp2_with (first|(go_at_call 180;go_must ((refine(xR b2 ⟨j.pairs.drop i,[],[]⟩ _ _ S1 pM (QW j i hi)).mono ?_);rintro e w4 ⟨rfl,hw⟩;subst w4))|(go_at_call 150;go_must ((refine(HI.out dx S1 b2 ⟨j.pairs.drop i,[],[]⟩ _ w3 dR av.1 av.2 pM r.out G.out.2).mono ?_);rintro e w5 (⟨x2,n,fB,fA,S2,rfl,s,E,z,qc,J⟩|⟨p9,rfl,τ,K,g1,g2,g3,g4⟩)<;>refine sO ?_)))
 rotate_left
 ·refine sN ?_
  have a:=qo.out;have b:=ql.out;have c:=k.out;exact⟨rfl,.inr ⟨by rw[a.2.1,a.2.2.1] at p9;omega,rfl,τ,K,g1,((Step.of_below f).trans q).trans g2,g3.trans a.2.2.2.1,g4.trans a.2.2.1⟩⟩
 refine sN ?_;have q9:=z.length;have O:=E.room r.out;have kT:m.length<=4000:=by have a:=qo.out.1;have b:=ql.out;have c:=k.out;have d:=v.out;rw[a];refine aK b ?_;have:=room_le d;omega
 have j3:n.length<=4000:=by rw[q9.1];refine aK O ?_;have:=room_le r.out;omega
 clear q9 O;have p:=(y.step J).base (B:=w.heap.size) f.size;have bC:=qc.sub;have aB:w.heap.size<=w5.heap.size:=aK f.size (aK q.1.size J.1.size);obtain⟨fJ,bB,rfl,n2,m2,_,_⟩:=aZ.form s.dx;have aA:=s.dx.src (P:=Tryz.prog) Kr (M5 _);have V:(m.length+n.length)*24<=140737488355328:=by omega
 have fo:m.length+n.length<=maxLen:=by simp only[maxLen];omega
 go_wp2_with (first|(at_builtin;go_must (refine cO rfl (.tmp 41) (.tmp 47) 190 190 rfl S2 w.heap.size 253 2 24 _ Kr DI rfl (.slice bA m.length di) m.length (mq m) rfl p (.slice fJ n.length bB) n.length (mq n) rfl aA bC aB fo V ?_;intro jb c3 w7 I Q kr ko)))
 go_ret;have Z:Step S S2 w w7:=(((Step.of_below f).trans q).trans J).app Q p.lo;refine .inl ⟨_,m++n,bH++fB,fA,S2,rfl,?_,.leaf i hi N HS.out W.out af.out D E,x.append z,qc.lQ Q (fun g hg e=>p.2 g e hg),Z⟩;rw[ay,vY];exact I
theorem Gc (t:Nat)(mp:VS)(E qo:Int)(f:Nd)(IH:R3 t mp E qo (f.pairs.length+f.kids.length))(σ:cK)(S:Nat->Prop)(R:Nat)(o:ByteArray)(w:World)(h:Inv σ S mp w)(ht:dw w t mp E qo)(bH:¬S t)(hn:gN w S R f)(I:f.Ok)(hs:512<f.size)(hk:f.kids≠[]):
  Calls Tryz.prog 150 #[.pointer (some ⟨t,0,none⟩),.pointer (some ⟨R,0,none⟩),.string o] w (mF mp σ S f o w):=by
 have hN:=hn;obtain⟨_,v0,v1,v2,hb,h0,h1,h2⟩:=hn;obtain⟨c0,c1,c2,_,_,_,jb⟩:=cells3 hb;obtain⟨fK,jl,rfl,n0,m0,_,_⟩:=aZ.form h0;have jF:=I.np;have jO:=I.nk;have aA:=ah I.kk;have q:=ah ((I.big hs).2 hk);have j3:t<w.heap.size:=(ai.1 ht).1;have HS:=ah hs;have iO:¬((f.size:Int)<=512):=by omega
 clear hs;have HI:=ah IH;clear IH;have T:=I.size_le;have di:f.kids.isEmpty=false:=by cases hq:f.kids with|nil=>exact absurd hq hk|cons a b=>rfl
 go_enter Tryz.func150,Tryz.ntmps150;go_wp2_with (first|(go_at_call 121;go_must ((refine(ku R f _ S hN).mono ?_);rintro e w1 ⟨rfl,hw⟩;subst w1;rw[di]))|(go_at_call 178;go_must ((refine(pu R f _ S hN T).mono ?_);rintro e w1 ⟨rfl,l⟩))|(go_at_call 181;go_must ((refine(BV R f _ S (fun g hg=>ax (h.sub g hg) l.size) (hN.below l) (by have:=q.out;omega) aA.out T).mono ?_);rintro e w2 ⟨i,hi,b1,b2,p9,rfl,hA,hB,N⟩;have x:=ah p9;clear p9;clear c0 c1 c2;refine sO ?_)))
 refine sN ?_;have j:Below w.heap.size w w2:=l.trans (N.mono l.size);have H:=ah (show (Nd.pairs ⟨[],f.keys.take (i - 1),f.kids.take i⟩).length+(Nd.kids ⟨[],f.keys.take (i - 1),f.kids.take i⟩).length<f.pairs.length+f.kids.length/\(Nd.pairs ⟨[],f.keys.drop i,f.kids.drop i⟩).length+(Nd.kids ⟨[],f.keys.drop i,f.kids.drop i⟩).length<f.pairs.length+f.kids.length from by have:=x.out;have:=q.out;simp only[aH,aO,bV];omega);have k:=ah (show Nd.room ⟨[],f.keys.take (i - 1),f.kids.take i⟩+Nd.room ⟨[],f.keys.drop i,f.kids.drop i⟩<=f.room from K7 f i hk q.out x.out);have y:=ah (I.Fv i (by have:=x.out;omega));have s:=ah (I.AJ i);have dR:=h.below j;have D:=ht.step bH (Step.of_below j);go_wp2_with (first|(go_at_call 150;go_must ((refine(HI.out σ S b1 ⟨[],f.keys.take (i - 1),f.kids.take i⟩ o w2 dR D.1 D.2 hA y.out H.out.1).mono ?_);rintro e w3 (⟨x1,m,bC,dn,S1,rfl,A,F,z,dx,r⟩|⟨pM,rfl,τ,M,g1,g2,g3,g4⟩)<;>refine sO ?_)))
 rotate_left
 ·refine sN ?_
  exact⟨rfl,.inr ⟨by have:=k.out;omega,rfl,τ,M,g1,(Step.of_below j).trans g2,g3,g4⟩⟩
 refine sN ?_;have X:=z.length;have W:=F.room y.out;have Z:=hB.step r;have q9:=D.1.step D.2 r;obtain⟨aB,bN,rfl,n1,m1,_,_⟩:=aZ.form A.dx;have ql:=ah X;clear X;have qc:=ah W;clear W;go_wp2_with (first|(go_at_call 180;go_must ((refine(xR b2 ⟨[],f.keys.drop i,f.kids.drop i⟩ _ _ S1 Z (Oz f i q.out x.out)).mono ?_);rintro e w4 ⟨rfl,hw⟩;subst w4))|(go_at_call 150;go_must ((refine(HI.out dn S1 b2 ⟨[],f.keys.drop i,f.kids.drop i⟩ _ w3 dx q9.1 q9.2 Z s.out H.out.2).mono ?_);rintro e w5 (⟨x2,n,fA,fo,S2,rfl,v,G,C,qb,K⟩|⟨pM,rfl,τ,M,g1,g2,g3,g4⟩)<;>refine sO ?_)))
 rotate_left
 ·refine sN ?_
  have a:=ql.out;have b:=qc.out;have c:=k.out;exact⟨rfl,.inr ⟨by rw[a.2.1,a.2.2.1] at pM;omega,rfl,τ,M,g1,((Step.of_below j).trans r).trans g2,g3.trans a.2.2.2.1,g4.trans a.2.2.1⟩⟩
 refine sN ?_;have q8:=C.length;have O:=G.room s.out;have j6:m.length<=4000:=by have a:=ql.out.1;have b:=qc.out;have c:=k.out;have d:=y.out;rw[a];refine aK b ?_;have:=room_le d;omega
 have jv:n.length<=4000:=by rw[q8.1];refine aK O ?_;have:=room_le s.out;omega
 clear q8 O;have p:=(A.step K).base (B:=w.heap.size) j.size;have bB:=qb.sub;have av:w.heap.size<=w5.heap.size:=aK j.size (aK r.1.size K.1.size);obtain⟨fB,bA,rfl,n2,m2,_,_⟩:=aZ.form v.dx;have af:=v.dx.src (P:=Tryz.prog) Kr (M5 _);have V:(m.length+n.length)*24<=140737488355328:=by omega
 have dZ:m.length+n.length<=maxLen:=by simp only[maxLen];omega
 go_wp2_with (first|(at_builtin;go_must (refine cO rfl (.tmp 41) (.tmp 47) 190 190 rfl S2 w.heap.size 253 2 24 _ Kr DI rfl (.slice aB m.length bN) m.length (mq m) rfl p (.slice fB n.length bA) n.length (mq n) rfl af bB av dZ V ?_;intro fJ c3 w7 J Q j5 j4)))
 go_ret;have Y:Step S S2 w w7:=(((Step.of_below j).trans r).trans K).app Q p.lo;refine .inl ⟨_,m++n,bC++fA,fo,S2,rfl,?_,.inner i hi hk HS.out x.out F G,z.append C,qb.lQ Q (fun g hg e=>p.2 g e hg),Y⟩;rw[ay,vY];exact J
def rE (t:Nat)(f:VS)(b c:Int):∀n,R3 t f b c n:=by
 intro n
 induction n using Nat.strongRecOn with
 |_ n ih=>
  intro i S g e a w h k d j m q
  by_cases l:e.kids=[]
  ·by_cases p:e.pairs=[]
   ·exact Ir t f i S g e a w h j l p
   ·by_cases o:e.size<=512
    ·exact CR t f b c i S g e a w h k d j m (.inr p) o
    ·exact Iu t f b c e (ih _ q) i S g a w h k d j m (by omega) l
  ·by_cases o:e.size<=512
   ·exact CR t f b c i S g e a w h k d j m (.inl l) o
   ·exact Gc t f b c e (ih _ q) i S g a w h k d j m (by omega) l
def sI (w:World)(b:Nat)(s:ByteArray):Prop:=w.heap[b]? =some (.cells #[.string s] 9 (0,0))
def jR (ps:List Pr)(key:ByteArray):List Pr:=if pU ps key then ps.take (bX ps key)++ps.drop (bX ps key+1) else ps
def kC (ps:List Pr)(key value:ByteArray):List Pr:=if pU ps key then ps.set (bX ps key) (key,value) else ps.take (bX ps key)++(key,value)::ps.drop (bX ps key)
def mY {b:List Pr}{a:ByteArray}(h:pU b a=true):∃h:bX b a<b.length,b[bX b a].1=a:=by
 unfold pU at h
 split at h
 ·rename_i p c
  obtain⟨e,d⟩:=dm.1 c;exact⟨e,by rw[d];exact jS h⟩
 ·cases h
def nP {b:Nat}{s:ByteArray}(h:sI w b s):w.cell? ⟨b,0,none⟩=some (.string s)/\b<w.heap.size:=by
 unfold sI at h;exact⟨by simp[World.cell?,h],(ai.1 h).1⟩
def aT.yx {B e k n:Nat}{l:List Value}(h:aT w S B e k v n l)(p:0<n):∃g c,v= .slice (some ⟨g,0,none⟩) n c/\n<=c/\c<=9223372036854775807/\B<=g/\g<w.heap.size:=by
 obtain⟨o,c,rfl,f,a,_⟩:=h.dx.form;rcases h.1.2 with ⟨e,b⟩|⟨g,i,j,e,m,d,_⟩
 ·exact absurd b (by omega)
 ·cases e;exact⟨g,c,rfl,f,a,m,(ai.1 d).1⟩
def iQ.Iz {W:World}{B b:Nat}{nd:Nd}{l m a:Value}{k:List Pr}(j:W.heap[b]? =some (.cells #[v,l,m] 165 (0,0)))(t:¬S b)(r:B<=b)(q:aT W S B 9 1 l nd.keys.length (nd.keys.map .string))(n:aT W S B 3 1 m nd.kids.length (nd.kids.map (.int .i64)))
  (o:aT W S B 103 2 a k.length (dP k)) (s:Below B w W):iQ (W.setCell ⟨b,0,none⟩ a) S B b ⟨k,nd.keys,nd.kids⟩/\Below B w (W.setCell ⟨b,0,none⟩ a):=by
 have c:Keep (· =b) W (W.setCell ⟨b,0,none⟩ a):=Keep.setCell (M:=(· =b)) (p:=⟨b,0,none⟩) (Keep.refl _ _) (.inr rfl) a;refine⟨⟨t,r,a,l,m,?_,o.keep fun g d f i=>⟨c.block g f (fun e=>o.ne j (by decide) (by rw[d,e])),i⟩,q.keep fun g d f i=>⟨c.block g f (fun e=>q.ne j (by decide) (by rw[d,e])),i⟩,n.keep fun g d f i=>⟨c.block g f (fun e=>n.ne j (by decide) (by rw[d,e])),i⟩⟩,s.setCell (by simpa using r) a⟩;simp[World.setCell,aQ,j]
def Bv (a:List Pr)(v:ByteArray):∀(i:Nat) (h:i<a.length),(dP a).set (i*2+1) (.string v)=dP (a.set i (a[i].1,v)):=by
 induction a with
 |nil=>intro i h;simp at h
 |cons p a ih=>
  intro i h;cases i with
  |zero=>rfl
  |succ i=>
   have:=ih i (by simpa using h);simp only[mh,ak,vG,UB];rw[this]
def iQ.Iy {W:World}{B b g c:Nat}{nd:Nd}{q s:Value}{value:ByteArray}(i:Nat)(E:i<nd.pairs.length)(n:W.heap[b]? =some (.cells #[.slice (some ⟨g,0,none⟩) nd.pairs.length c,q,s] 165 (0,0)))(G:¬S b)(H:B<=b)(A:aT W S B 9 1 q nd.keys.length (nd.keys.map .string))(z:aT W S B 3 1 s nd.kids.length (nd.kids.map (.int .i64)))
  (l:aT W S B 103 2 (.slice (some ⟨g,0,none⟩) nd.pairs.length c) nd.pairs.length (dP nd.pairs)) (D:Below B w W):iQ (W.setCell ⟨g,i*2+1,none⟩ (.string value)) S B b ⟨nd.pairs.set i (nd.pairs[i].1,value),nd.keys,nd.kids⟩/\Below B w (W.setCell ⟨g,i*2+1,none⟩ (.string value)):=by
 obtain⟨f,C,j,F,d,y,I,t⟩:=l.row;have a:Keep (· =g) W (W.setCell ⟨g,i*2+1,none⟩ (.string value)):=Keep.setCell (M:=(· =g)) (p:=⟨g,i*2+1,none⟩) (Keep.refl _ _) (.inr rfl) _;have m:Row (W.setCell ⟨g,i*2+1,none⟩ (.string value)) g 103 (f.set (i*2+1) (.string value)):=by
  unfold Row at C ⊢;simp[World.setCell,aQ,C]
 have x:b≠g:=fun e=>by subst e;exact l.ne n (by decide) rfl
 refine⟨⟨G,H,_,q,s,(a.block b (ai.1 n).1 x).trans n,?_,A.keep fun r o j v=>⟨a.block r j (fun e=>aT.Hz A l (by decide) _ o (by rw[e];rfl)),v⟩,z.keep fun r o j v=>⟨a.block r j (fun e=>aT.Hz z l (by decide) _ o (by rw[e];rfl)),v⟩⟩,D.setCell (by simpa using d) _⟩;have:=m.own (S:=S) (B:=B) (k:=2) (cap:=c) nd.pairs.length (by simpa using j) d y I t;rw[show (f.set (i*2+1) (.string value)).take (nd.pairs.length*2)=dP (nd.pairs.set i (nd.pairs[i].1,value)) from by rw[<-Bv _ _ i E,<-F,<-List.take_set]] at this;simpa using this
theorem GZ (kb l B:Nat)(d:ByteArray)(a:Nd)(S:Nat->Prop)(w:World)(hk:sI w kb d)(X:iQ w S B l a)(W:fG a.pairs)(s:a.pairs.length<=1000000):
  Calls Tryz.prog 194 #[.pointer (some ⟨l,0,none⟩),.pointer (some ⟨kb,0,none⟩)] w fun e D=>e= .returned (.tuple #[])/\iQ D S B l ⟨jR a.pairs d,a.keys,a.kids⟩/\Below B w D:=by
 have N:=X;obtain⟨hS,hB,v0,v1,v2,F,x,R,Q⟩:=X;obtain⟨T,c1,c2,_,_,_,m⟩:=cells3 F;obtain⟨k0,kl⟩:=nP hk;have t:B<=w.heap.size:=aK hB (iF m);cases f:pU a.pairs d with
 |false=>
  have v:jR a.pairs d=a.pairs:=by unfold jR;rw[f];rfl
  rw[v];go_enter Tryz.func194,Tryz.ntmps194;go_wp2_with (first|(go_at_call 113;go_must ((refine(rT l a d _ S N.jO W s).mono ?_);rw[f];rintro e w1 ⟨rfl,b⟩)))
  go_end0;exact⟨rfl,N.step (Step.of_below b),b.mono t⟩
 |true=>
  obtain⟨V,z⟩:=mY f;have v:jR a.pairs d=a.pairs.take (bX a.pairs d)++a.pairs.drop (bX a.pairs d+1):=by unfold jR;rw[f];rfl
  generalize Z:bX a.pairs d=P at V z v;obtain⟨g,c,rfl,qb,qc,H,ql⟩:=x.yx (by omega);have p9:IntKind.i64.wrap ((P:Int)+1)=(P:Int)+1:=aG _ (by omega);go_enter Tryz.func194,Tryz.ntmps194;have HP:=ah Z;clear Z;go_wp2_with (first|(go_at_call 113;go_must ((refine(rT l a d _ S N.jO W s).mono ?_);rw[f,HP.out];rintro e w1 ⟨rfl,b⟩;have pM:=(b.cell (p:=⟨l,0,none⟩) m).trans T;have y:=ax m b.size;clear T c1 c2))|(go_at_call 195;go_must ((refine(JN g c a.pairs.length P (dP a.pairs) _ S B (x.step (Step.of_below b)) (Cg _) V s).mono ?_);rintro e C ⟨c',rfl,o,n⟩;refine sO ?_)))
  have O:l≠g:=fun e=>by subst e;exact x.ne F (by decide) rfl
  have r:Below B w C:=(b.mono t).trans (n.jF (aK t b.size) (fun i hi e=>absurd H (by rw[<-e];exact gG.2 hi)));have A:C.heap[l]? =some (.cells #[.slice (some ⟨g,0,none⟩) a.pairs.length c,v1,v2] 165 (0,0)):=(n.block l y O).trans ((b.block l m).trans F);have I:=(R.step (Step.of_below b)).keep (w':=C) (S':=S) (fun J G s M=>⟨n.block J s (fun e=>aT.Hz R x (by decide) _ G (by rw[e];rfl)),M⟩);have E:=(Q.step (Step.of_below b)).keep (w':=C) (S':=S) (fun J G s M=>⟨n.block J s (fun e=>aT.Hz Q x (by decide) _ G (by rw[e];rfl)),M⟩);obtain⟨e0,e1,e2,_,_,_,Y⟩:=cells3 A;have j:(a.pairs.take P++a.pairs.drop (P+1)).length=a.pairs.length - 1:=by rw[ay,aH,aO];omega
  have k:aT C S B 103 2 (.slice (some ⟨g,0,none⟩) (a.pairs.length - 1) c') (a.pairs.take P++a.pairs.drop (P+1)).length (dP (a.pairs.take P++a.pairs.drop (P+1))):=by
   rw[j,ic,uK,qX];exact o
  have HH:=ah j;clear j;have K:=ah k;clear k o;have HD:=ah v;clear v;refine sN ?_;go_wp2_with fail;go_end0;rw[HD.out];have q:=iQ.Iz A hS hB I E K.out r;exact⟨rfl,q.1,q.2⟩
theorem Oj (Q r p B:Nat)(b a:ByteArray)(f:Nd)(S:Nat->Prop)(w:World)(Y:sI w Q b)(J:sI w r a)(I:iQ w S B p f)(hr:fG f.pairs)(hl:f.pairs.length<=1000000)(o:pU f.pairs b=true):
  Calls Tryz.prog 112 #[.pointer (some ⟨p,0,none⟩),.pointer (some ⟨Q,0,none⟩),.pointer (some ⟨r,0,none⟩)] w fun e E=>e= .returned (.tuple #[])/\iQ E S B p ⟨kC f.pairs b a,f.keys,f.kids⟩/\Below B w E:=by
 have hN:=I;obtain⟨hS,O,v0,v1,v2,y,x,h1,T⟩:=I;obtain⟨c0,c1,c2,_,_,_,n⟩:=cells3 y;obtain⟨k0,kl⟩:=nP Y;have D:B<=w.heap.size:=aK O (iF n);obtain⟨H,l⟩:=mY o;have t:kC f.pairs b a=f.pairs.set (bX f.pairs b) (b,a):=by unfold kC;rw[o];rfl
 generalize M:bX f.pairs b=P at H l t;obtain⟨g,c,rfl,pM,p9,Z,C⟩:=x.yx (by omega);go_enter Tryz.func112,Tryz.ntmps112;have HP:=ah M;clear M;go_wp2_with (first|(go_at_call 113;go_must ((refine(rT p f b _ S hN.jO hr hl).mono ?_);rw[o,HP.out];rintro e k ⟨rfl,j⟩)))
 have d:=j;obtain⟨R,_,_,_,_,_,F⟩:=cells3 ((j.block p n).trans y);obtain⟨X,fl⟩:=nP (show sI k r a from(j.block r (nP J).2).trans J);have N:g<k.heap.size:=ax C j.size;have s:=(x.step (Step.of_below j)).row;obtain⟨A,m,qb,_⟩:=s;have v:=m.frozen (P*2+1);have z:=m.cell (P*2+1);clear c0 c1 c2;refine aP (fun W=>W=k.drew) (fun i=> !([8].contains i)) [0,1,2,3,4,5,6,7,8] rfl (by kernel_rfl) rfl ?_;have d0:k.drew.cell? ⟨p,0,none⟩=some (.slice (some ⟨g,0,none⟩) f.pairs.length c):=R;have d1:k.drew.cell? ⟨r,0,none⟩=some (.string a):=X;have V:(P:Int)<(f.pairs.length:Int):=by omega
 repeat (refine oq ?_ rfl rfl rfl ?_ ?_;rotate_left;(focus intro W G;(try dsimp only at G);subst G;first|(go_simp;first|done|with_reducible rfl));try simp only[Act.put,aj,au,ak])
 have x0:k.drew.frozen? ⟨g,P*2+1,none⟩=false:=v;have x1:k.drew.cell? ⟨g,P*2+1,none⟩=some A[P*2+1]:=z.trans (bD (by omega));refine jC rfl rfl rfl (by kernel_rfl) ?_;intro K hK;go_simp;refine hK.out _ _ ?_;refine bR ?_;have HD:=ah t;clear t;go_wp2_with fail;go_end0;rw[HD.out,<-l];have q:=iQ.Iy (W:=k.drew) (w:=w) (value:=a) P H ((d.block p n).trans y) hS O (h1.step (Step.of_below d.drew)) (T.step (Step.of_below d.drew)) (x.step (Step.of_below d.drew)) (d.drew.mono D);exact⟨rfl,q.1,q.2⟩
theorem Oi (A s n B:Nat)(a b:ByteArray)(d:Nd)(S:Nat->Prop)(w:World)(af:∀g,S g->g<w.heap.size)(hk:sI w A a)(hv:sI w s b)(q8:A<B)(V:s<B)(hn:iQ w S B n d)(hr:fG d.pairs)(hl:d.pairs.length<=999999)(aA:pU d.pairs a=false):
  Calls Tryz.prog 112 #[.pointer (some ⟨n,0,none⟩),.pointer (some ⟨A,0,none⟩),.pointer (some ⟨s,0,none⟩)] w fun e w'=>e= .returned (.tuple #[])/\iQ w' S B n ⟨kC d.pairs a b,d.keys,d.kids⟩/\Below B w w':=by
 have hN:=hn;obtain⟨hS,hB,v0,v1,v2,hb,h0,h1,h2⟩:=hn;obtain⟨c0,c1,c2,_,_,_,p9⟩:=cells3 hb;obtain⟨k0,kl⟩:=nP hk;have G:B<=w.heap.size:=aK hB (iF p9);have hp:=nK d.pairs a;have hd:kC d.pairs a b=d.pairs.take (bX d.pairs a)++(a,b)::d.pairs.drop (bX d.pairs a):=by unfold kC;rw[aA];rfl
 generalize hP:bX d.pairs a=P at hp hd;obtain⟨N,Q,rfl,n0,m0,_,_⟩:=h0.dx.form;go_enter Tryz.func112,Tryz.ntmps112;have HP:=ah hP;clear hP;have HD:=ah hd;clear hd;go_wp2_with (first|(go_at_call 113;go_must ((refine(rT n d a _ S hN.jO hr (by omega)).mono ?_);rw[aA,HP.out];rintro e p ⟨rfl,m⟩)))
 have J:=(m.block n p9).trans hb;obtain⟨e0,_,_,_,_,_,H⟩:=cells3 J;obtain⟨f0,fl⟩:=nP (show sI p A a from(m.block A kl).trans hk);have iO:sI p s b:=(m.block s (nP hv).2).trans hv;have v:=m.size;have bB:Below B w p.drew:=(m.mono G).drew;have M:=h0.step (Step.of_below m);have dZ:=h1.step (Step.of_below m);have di:=h2.step (Step.of_below m);clear c0 c1 c2;refine aP (fun W=>W.cell? ⟨n,0,none⟩=some (.slice N d.pairs.length Q)/\n<W.heap.size/\W.cell? ⟨A,0,none⟩=some (.string a)/\A<W.heap.size) (fun i=> !([8,9,12].contains i)) [0,1,2,3,4,5,6,7,8,9,10,11,12] rfl (by kernel_rfl) ⟨e0,H,f0,fl⟩ ?_
 repeat (refine oq ?_ rfl rfl rfl ?_ ?_;rotate_left;(focus intro W r;(try dsimp only at r);have q0:=r.1;have q1:=r.2.1;have q2:=r.2.2.1;have q3:=r.2.2.2;first|(go_simp;first|done|with_reducible rfl));try simp only[Act.put,aj,au,ak])
 refine dI rfl rfl rfl ?_;intro K T;go_simp;have l:Below p.drew.heap.size p.drew (p.alloc (.cells #[.string a,.string ⟨#[]⟩] 103)).drew:=aN p.drew (.cells #[.string a,.string ⟨#[]⟩] 103);have E:Below B w (p.alloc (.cells #[.string a,.string ⟨#[]⟩] 103)).drew:=bB.trans (l.mono (aK G v));have k:=(l.block n H).trans J;have qb:sI (p.alloc (.cells #[.string a,.string ⟨#[]⟩] 103)).drew A a:=(E.block A q8).trans hk;have jv:sI (p.alloc (.cells #[.string a,.string ⟨#[]⟩] 103)).drew s b:=(E.block s V).trans hv;have pM:=Jt (.slice N d.pairs.length Q) d.pairs.length P (dP d.pairs) p.heap.size [.string a,.string ⟨#[]⟩] (p.alloc (.cells #[.string a,.string ⟨#[]⟩] 103)).drew S B (fun g hg=>ax (af g hg) (aK v l.size)) (aK G (aK v l.size)) ((M.drew).step (Step.of_below l)) (Cg _) (aV p.drew _) M.lt rfl (by intro u hu;simp at hu;rcases hu with rfl|rfl<;>rfl) (by omega) hp;have q9:=(dZ.drew).step (Step.of_below l);have av:=(di.drew).step (Step.of_below l);have D:=(M.drew).step (Step.of_below l);generalize (p.alloc (.cells #[.string a,.string ⟨#[]⟩] 103)).drew=w2 at*;refine T.out _ _ ⟨(cells3 k).1,(cells3 k).2.2.2.2.2.2,(nP qb).1,(nP qb).2⟩ ?_;refine dI rfl rfl rfl ?_;intro K T;go_simp;refine pM.mono ?_;rintro e C ⟨v3,rfl,R,F⟩;have qo:(Value.slice N d.pairs.length Q).ownBlock≠some n:=D.ne k (by decide);have f:=(F.block n (cells3 k).2.2.2.2.2.2 qo).trans k;have O:Below B w C:=E.trans (F.jF (aK G E.size) (fun i hi e=>absurd (D.lo i e) (gG.2 hi)));have I:sI C A a:=(O.block A q8).trans hk;have fA:sI C s b:=(O.block s V).trans hv;have bA:=q9.keep (w':=C) (S':=S) (fun g hg hl hs=>⟨F.block g hl (fun e=>aT.Hz q9 D (by decide) _ hg e),hs⟩);have dn:=av.keep (w':=C) (S':=S) (fun g hg hl hs=>⟨F.block g hl (fun e=>aT.Hz av D (by decide) _ hg e),hs⟩);refine T.out _ _ ⟨(cells3 f).1,(cells3 f).2.2.2.2.2.2,(nP I).1,(nP I).2⟩ ?_
 repeat (refine oq ?_ rfl rfl rfl ?_ ?_;rotate_left;(focus intro W r;(try dsimp only at r);have q0:=r.1;have q1:=r.2.1;have q2:=r.2.2.1;have q3:=r.2.2.2;first|(go_simp;first|done|with_reducible rfl));try simp only[Act.put,aj,au,ak])
 have y:(d.pairs.take P++(a,(⟨#[]⟩:ByteArray))::d.pairs.drop P).length=d.pairs.length+1:=by simp only[ay,aH,bn,aO];omega
 have j:aT C S B 103 2 v3 (d.pairs.take P++(a,(⟨#[]⟩:ByteArray))::d.pairs.drop P).length (dP (d.pairs.take P++(a,(⟨#[]⟩:ByteArray))::d.pairs.drop P)):=by
  rw[y,ic,mh,uK,qX];simpa using R
 have aB:P<(d.pairs.take P++(a,(⟨#[]⟩:ByteArray))::d.pairs.drop P).length:=by rw[y];omega
 have x:(d.pairs.take P++(a,(⟨#[]⟩:ByteArray))::d.pairs.drop P).set P (a,b)=d.pairs.take P++(a,b)::d.pairs.drop P:=by
  rw[jr _ _ (by rw[aH];omega)];rw[show P - (d.pairs.take P).length=0 from by rw[aH];omega];rfl
 have t:(d.pairs.take P++(a,(⟨#[]⟩:ByteArray))::d.pairs.drop P)[P].1=a:=by
  have h1:(d.pairs.take P++(a,(⟨#[]⟩:ByteArray))::d.pairs.drop P)[P]? =some (a,(⟨#[]⟩:ByteArray)):=by
   rw[dA (by rw[aH];omega),show P - (d.pairs.take P).length=0 from by rw[aH];omega];rfl
  rw[(dm.1 h1).2]
 generalize hX:d.pairs.take P++(a,(⟨#[]⟩:ByteArray))::d.pairs.drop P=X at j aB x t y;have ql:=ah x;clear x;have HX:=ah hX;clear hX;have q:=iQ.Iz (nd:=d) f hS hB bA dn j O;obtain⟨g,c,rfl,j4,jl,jF,fK⟩:=j.yx (by omega);have jb:=ah y;clear y;have x0:C.frozen? ⟨n,0,none⟩=false:=(cells3 f).2.2.2.1;have x1:=(cells3 f).1;have x2:=(cells3 f).2.2.2.2.2.2;refine jC rfl rfl rfl (by kernel_rfl) ?_;intro K T;go_simp;refine T.out _ _ ?_;refine bR ?_;have qc:sI (C.setCell ⟨n,0,none⟩ (.slice (some ⟨g,0,none⟩) X.length c)) s b:=(q.2.block s V).trans hv;have o:(C.setCell ⟨n,0,none⟩ (.slice (some ⟨g,0,none⟩) X.length c)).cell? ⟨n,0,none⟩=some (.slice (some ⟨g,0,none⟩) X.length c):=by simp[World.setCell,World.cell?,aQ,f]
 generalize C.setCell ⟨n,0,none⟩ (.slice (some ⟨g,0,none⟩) X.length c)=Z at*;clear x0 x1 x2;go_wp2_with fail;obtain⟨⟨_,_,u0,u1,u2,Y,q0,q1,q2⟩,bH⟩:=q;have bN:u0= .slice (some ⟨g,0,none⟩) X.length c:=by have e:=o.symm.trans (cells3 Y).1;cases e;rfl
 subst bN;obtain⟨bC,z,j3,_⟩:=q0.row;have fB:=z.lt;have fo:=(cells3 Y).2.2.2.2.2.2;have dx:=z.frozen (P*2+1);have dR:=z.cell (P*2+1);have d0:Z.drew.cell? ⟨n,0,none⟩=some (.slice (some ⟨g,0,none⟩) X.length c):=o;have d1:Z.drew.cell? ⟨s,0,none⟩=some (.string b):=(nP qc).1;have fJ:=(nP qc).2;have jO:(P:Int)<(X.length:Int):=by omega
 refine aP (fun W=>W=Z.drew) (fun i=> !([8].contains i)) [0,1,2,3,4,5,6,7,8] rfl (by kernel_rfl) rfl ?_
 repeat (refine oq ?_ rfl rfl rfl ?_ ?_;rotate_left;(focus intro W r;(try dsimp only at r);subst r;first|(go_simp;first|done|with_reducible rfl));try simp only[Act.put,aj,au,ak])
 have x0:Z.drew.frozen? ⟨g,P*2+1,none⟩=false:=dx;have x1:Z.drew.cell? ⟨g,P*2+1,none⟩=some (bC.getD (P*2+1) undef):=dR.trans (by rw[eu,bD (by have:d.pairs.length<=999999:=hl;omega)];rfl);refine jC rfl rfl rfl (by kernel_rfl) ?_;intro K T;go_simp;refine T.out _ _ ?_;refine bR ?_;go_wp2_with fail;go_end0;have qq:=iQ.Iy (nd:=⟨X,d.keys,d.kids⟩) (W:=Z.drew) (w:=w) (value:=b) P aB Y hS hB q1 q2 q0 bH.drew;rw[HD.out,<-ql.out];have e2:X[P]=(a,X[P].2):=by rw[<-t]
 have e3:X.set P (X[P].1,b)=X.set P (a,b):=by rw[t]
 rw[<-e3];exact⟨rfl,qq.1,qq.2⟩
def Ol (k i f B:Nat)(b a:ByteArray)(c:Nd)(S:Nat->Prop)(w:World)(j:∀g,S g->g<w.heap.size)(o:sI w k b)(r:sI w i a)(l:k<B)(m:i<B)(q:iQ w S B f c)(p:fG c.pairs)(s:c.pairs.length<=999999):
  Calls Tryz.prog 112 #[.pointer (some ⟨f,0,none⟩),.pointer (some ⟨k,0,none⟩),.pointer (some ⟨i,0,none⟩)] w fun e n=>e= .returned (.tuple #[])/\iQ n S B f ⟨kC c.pairs b a,c.keys,c.kids⟩/\Below B w n:=by
 cases d:pU c.pairs b with
 |true=>exact Oj k i f B b a c S w o r q p (by omega) d
 |false=>exact Oi k i f B b a c S w j o r l m q p s d
