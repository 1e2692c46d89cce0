/- parts -/
import Derived.Test.YtpgdljlghiifjaaGreatDoorM20
import Derived.Deep.CutRange
import Derived.Deep.CutBlock
set_option maxRecDepth 100000
set_option maxHeartbeats 8000000
set_option linter.all false
namespace Go.Proofs.YtpgdljlghiifjaaGreatDoor
open Go.RowKit
def nh (σ:dF)(bs:List Int):Nat:=(bs.filter fun b=> !σ.held b).length
theorem oL (σ:dF)(a b:List Int):nh σ (a++b)=nh σ a+nh σ b:=by simp[nh]
theorem qM (σ:dF)(a:List Int):nh σ a<=a.length:=Iy _ _
theorem Kz {σ:dF}{a b:List Int}(h:a.Perm b):nh σ a=nh σ b:=(h.filter _).length_eq
theorem Ao {σ σ':dF}(h:σ'.H=σ.H)(x:Int):σ'.held x=σ.held x:=by unfold dF.held;rw[h]
theorem tJ {σ σ':dF}(h:σ'.H=σ.H)(a:List Int):nh σ' a=nh σ a:=by
 unfold nh;congr 2;funext x;rw[Ao h]
def PG (_:dF):Prop:=True
structure lM (σ σ':dF)(us bs:List Int):Prop where
 H:σ'.H=σ.H
 most:σ'.most=σ.most
 frame:∀x,σ.hasB x=true->(x∉us\/False)->σ'.hasB x=true/\σ'.mem x=σ.mem x
 new:∀x∈bs,σ'.hasB x=true/\(x∈us\/σ.hasB x=false)
 nd:us.Nodup->bs.Nodup
 size:σ'.sz+nh σ us=σ.sz+nh σ bs
 ex:∀x,σ'.hasB x=true->x∈bs\/(σ.hasB x=true/\x∉us)
theorem lM.refl {σ:dF}{us:List Int}(h:∀x∈us,σ.hasB x=true):lM σ σ us us:=
 ⟨rfl,rfl,fun _ h _=>⟨h,rfl⟩,fun x hx=>⟨h x hx,.inl hx⟩,id,rfl,fun x hx=>by
  by_cases hu:x∈us
  ·exact .inl hu
  ·exact .inr ⟨hx,hu⟩⟩
theorem lM.trans {σ σ1 σ2:dF}{us bs cs:List Int}(h:lM σ σ1 us bs)(k:lM σ1 σ2 bs cs):lM σ σ2 us cs:=by
 refine⟨k.H.trans h.H,k.most.trans h.most,fun x hx hn=> ?_,fun x hx=> ?_,fun hn=>k.nd (h.nd hn),?_,fun x hx=> ?_⟩
 ·obtain⟨a,b⟩:=h.frame x hx hn
  have hb:x∉bs\/False:=by
   rcases hn with hn|hn
   ·refine .inl fun hb=> ?_
    rcases (h.new x hb).2 with y|y
    ·exact hn y
    ·rw[hx] at y;cases y
   ·exact hn.elim
  obtain⟨c,d⟩:=k.frame x a hb
  exact⟨c,d.trans b⟩
 ·obtain⟨a,b⟩:=k.new x hx
  refine⟨a,?_⟩
  rcases b with b|b
  ·exact(h.new x b).2
  ·cases hh:σ.hasB x with
   |false=>exact .inr rfl
   |true=>
    refine .inl (jX fun hn=> ?_)
    have:=(h.frame x hh (.inl hn)).1
    rw[b] at this;cases this
 ·have a:=h.size
  have b:=k.size
  rw[tJ h.H,tJ h.H] at b
  omega
 ·rcases k.ex x hx with y|⟨y,z⟩
  ·exact .inl y
  ·exact .inr ((h.ex x y).resolve_left z)
theorem lM.perm {σ σ':dF}{us bs us' bs':List Int}(h:lM σ σ' us bs)(ha:us.Perm us')(hb:bs.Perm bs'):lM σ σ' us' bs':=
 ⟨h.H,h.most,fun x hx hn=>h.frame x hx (hn.imp (fun y z=>y (ha.mem_iff.1 z)) id),fun x hx=>(h.new x (hb.mem_iff.2 hx)).imp id (fun y=>y.imp ha.mem_iff.1 id),fun hn=>(hb.nodup_iff).1 (h.nd (ha.nodup_iff.2 hn)),by rw[<-Kz ha,<-Kz hb];exact h.size,fun x hx=>(h.ex x hx).imp hb.mem_iff.1 (fun y=>⟨y.1,fun z=>y.2 (ha.mem_iff.2 z)⟩)⟩
theorem lM.left {σ σ':dF}{us bs rs:List Int}(h:lM σ σ' us bs)(hn:(us++rs).Nodup)(hr:∀x∈rs,σ.hasB x=true):lM σ σ' (us++rs) (bs++rs):=by
 obtain⟨n1,n2,n3⟩:=dX.1 hn
 have hfr:∀x∈rs,x∉us:=fun x hx ha=>n3 x ha x hx rfl
 refine⟨h.H,h.most,fun x hx hm=>h.frame x hx (hm.imp (fun y z=>y (dO _ z)) id),fun x hx=> ?_,fun _=> ?_,?_,fun x hx=> ?_⟩
 ·rcases bO.1 hx with hx|hx
  ·exact(h.new x hx).imp id (fun y=>y.imp (dO _) id)
  ·exact⟨(h.frame x (hr x hx) (.inl (hfr x hx))).1,.inl (dP _ hx)⟩
 ·refine dX.2 ⟨h.nd n1,n2,fun x hx y hy e=> ?_⟩
  subst e
  rcases (h.new x hx).2 with z|z
  ·exact hfr x hy z
  ·rw[hr x hy] at z;cases z
 ·have:=h.size
  rw[oL,oL];omega
 ·rcases h.ex x hx with y|⟨y,z⟩
  ·exact .inl (dO _ y)
  ·by_cases hr:x∈rs
   ·exact .inl (dP _ hr)
   ·exact .inr ⟨y,fun e=>(bO.1 e).elim z hr⟩
theorem lM.mid {σ σ':dF}{us bs ls rs:List Int}(h:lM σ σ' us bs)(hn:(ls++us++rs).Nodup)(hl:∀x∈ls,σ.hasB x=true)(hr:∀x∈rs,σ.hasB x=true):lM σ σ' (ls++us++rs) (ls++bs++rs):=by
 have p:∀l:List Int,(l++(ls++rs)).Perm (ls++l++rs):=fun l=>by
  rw[<-aN];exact List.Perm.append_right _ fV
 refine(h.left (rs:=ls++rs) ((p us).nodup_iff.2 hn) fun x hx=> ?_).perm (p us) (p bs)
 rcases bO.1 hx with hx|hx
 ·exact hl x hx
 ·exact hr x hx
theorem lM.Mr {σ σ':dF}{us bs:List Int}(_:lM σ σ' us bs)(_:PG σ):PG σ':=trivial
theorem Ms {σ σ':dF}{b:Int}{nd:Nd}(h:Wrote σ b nd σ')(_:PG σ):lM σ σ' [] [b]:=by
 have hne:∀x,σ.hasB x=true->x≠b:=fun x hx e=>by subst e;have:=h.new;rw[hx] at this;cases this
 refine⟨h.held,h.most,fun x hx _=>⟨(h.other x (hne x hx)).1.trans hx,(h.other x (hne x hx)).2⟩,fun x hx=> ?_,fun _=>by simp,?_,fun x hx=> ?_⟩
 ·obtain rfl:x=b:=by simpa using hx
  exact⟨h.blk.has,.inr h.new⟩
 ·rw[h.size]
  have:σ.held b=false:=h.nheld
  simp[nh,this]
 ·by_cases e:x=b
  ·exact .inl (by rw[e];exact bF ..)
  ·exact .inr ⟨by rw[<-(h.other x e).1];exact hx,by simp⟩
theorem Inv.Mr {σ:dF}{S:Nat->Prop}{mp:VS}{w:World}(_:Inv σ S mp w):PG σ:=trivial
theorem dF.zi {σ:dF}{b x:Int}(h0:0<=b)(hne:x≠b):(σ.gone b).hasB x=σ.hasB x:=by
 show (decide (0<=x) && (decide (x.toNat<σ.most) && gP σ.now b.toNat false x.toNat))=_
 unfold dF.hasB
 by_cases hx:0<=x
 ·unfold gP;rw[if_neg (by omega)]
 ·simp[hx]
theorem vR {σ:dF}{b:Int}(hb:σ.hasB b=true):lM σ (σ.gone b) [b] []:=by
 obtain⟨n,rfl,hn,hnow⟩:=dF.ng hb
 refine⟨rfl,rfl,fun x hx hm=>⟨?_,rfl⟩,(fun x hx=>by cases hx),(fun _=>pQ),?_,fun x hx=> .inr ?_⟩
 ·rw[dF.zi (by omega) (fun e=>(hm.resolve_right id) (by simpa using e))]
  exact hx
 ·show countB (fun x=>gP σ.now (n:Int).toNat false x||σ.H.old x) σ.most+_=countB (fun x=>σ.now x||σ.H.old x) σ.most+_
  rw[gH]
  have hh:σ.held (n:Int)=σ.H.old n:=by unfold dF.held;rw[gH];simp
  simp only[nh,List.filter_cons,hh,List.filter_nil,aJ,iX]
  cases ho:σ.H.old n with
  |true=>
   simp only[Bool.not_true,PK,if_false,aJ,iX]
   refine kF _ (fun x _=> ?_)
   unfold gP
   split
   ·rename_i e;subst e;rw[ho,hnow];rfl
   ·rfl
  |false=>
   simp only[Bool.not_false,iw,lY]
   rw[<-BQ (f:=fun x=>σ.now x||σ.H.old x) (b:=n) (by rw[hnow];rfl) _ hn]
   congr 1
   refine kF _ (fun x _=> ?_)
   unfold gP
   split
   ·rename_i e;subst e;rw[ho];rfl
   ·rfl
 ·have hne:x≠(n:Int):=fun e=>by
   rw[e] at hx
   have:(decide ((0:Int)<=(n:Int)) && (decide ((n:Int).toNat<σ.most) && gP σ.now (n:Int).toNat false (n:Int).toNat))=true:=hx
   simp[gP] at this
  rw[dF.zi (by omega) hne] at hx
  exact⟨hx,by simpa using hne⟩
theorem BR {σ:dF}{S:Nat->Prop}{mp:VS}{w:World}(_:Inv σ S mp w){b:Int}(hb:σ.hasB b=true):lM σ (σ.gone b) [b] []:=vR hb
theorem Mt {σ:dF}{S:Nat->Prop}{mp:VS}{w:World}(_:Inv σ S mp w){b1 b2:Int}(h1:σ.hasB b1=true)(h2:σ.hasB b2=true)(hne:b1≠b2):lM σ ((σ.gone b1).gone b2) [b1,b2] []/\(σ.gone b1).hasB b2=true:=by
 have c1:=vR h1
 have hb:=(c1.frame b2 h2 (.inl (by simpa using fun e=>hne e.symm))).1
 have c2:=vR hb
 have c1':=c1.left (rs:=[b2]) (by simpa using hne) (fun x hx=>by rw[bK.1 hx];exact h2)
 exact⟨c1'.trans c2,hb⟩
theorem Cq.move {σ σ':dF}{b:Int}{nd:Nd}(h:Cq σ b nd)(h1:σ'.hasB b=true)(h2:σ'.mem b=σ.mem b):Cq σ' b nd:=
 ⟨h1,h.lo,h.hi,by rw[h2];exact h.mem,h.fits⟩
theorem dU.change {T T':ByteArray->Option ByteArray->Int->List Pr->List Int->Prop}{hi:Option ByteArray}:∀{l:List (ByteArray×Int)} {cs:List Pr} {bs:List Int},dU T hi l cs bs->(∀k z b c x,(∀y∈x,y∈bs)->T k z b c x->T' k z b c x)->dU T' hi l cs bs
 |[],_,_,h,_=>h
 |(k,b)::l,_,_,h,hT=>by
  obtain⟨c,cs',x,bs',h1,h2,rfl,rfl⟩:=h
  exact⟨c,cs',x,bs',hT _ _ _ _ _ (fun y hy=>dO _ hy) h1,dU.change h2 (fun k z b c x hx=>hT k z b c x (fun y hy=>dP _ (hx y hy))),rfl,rfl⟩
theorem iL.move {σ σ':dF}:∀{h m:Nat} {lo:ByteArray} {hi:Option ByteArray} {b:Int} {cs:List Pr} {bs:List Int},iL σ h m lo hi b cs bs->(∀x∈bs,σ'.hasB x=true/\σ'.mem x=σ.mem x)->iL σ' h m lo hi b cs bs
 |0,_,_,_,_,_,_,⟨nd,h1,h2,h3,h4,h5,h6,h7,h8⟩,hx=>by
  have:=hx _ (by rw[h8];exact bK.2 rfl)
  exact⟨nd,h1.move this.1 this.2,h2,h3,h4,h5,h6,h7,h8⟩
 |h+1,_,_,_,_,_,_,⟨nd,bs',h1,h2,h3,h4,h5,h6⟩,hx=>by
  subst h5
  have:=hx _ (bF ..)
  exact⟨nd,bs',h1.move this.1 this.2,h2,h3,h4,rfl,h6.change fun k z b c x hb ht=>iL.move ht fun y hy=>hx y (bq _ (hb y hy))⟩
theorem dU.has {T:ByteArray->Option ByteArray->Int->List Pr->List Int->Prop}{p:Int->Prop}(hT:∀k z b c x,T k z b c x->∀y∈x,p y){hi:Option ByteArray}:∀{l:List (ByteArray×Int)} {cs:List Pr} {bs:List Int},dU T hi l cs bs->∀y∈bs,p y
 |[],_,_,⟨_,e⟩=>by subst e;simp
 |(k,b)::l,_,_,h=>by
  obtain⟨c,cs',x,bs',h1,h2,rfl,rfl⟩:=h
  intro y hy
  rcases bO.1 hy with hy|hy
  ·exact hT _ _ _ _ _ h1 y hy
  ·exact dU.has hT h2 y hy
theorem iL.has {σ:dF}:∀{h m:Nat} {lo:ByteArray} {hi:Option ByteArray} {b:Int} {cs:List Pr} {bs:List Int},iL σ h m lo hi b cs bs->∀x∈bs,σ.hasB x=true
 |0,_,_,_,_,_,_,⟨nd,h1,_,_,_,_,_,_,h8⟩=>by
  intro x hx
  rw[h8] at hx
  rw[bK.1 hx]
  exact h1.has
 |h+1,_,_,_,_,_,_,⟨nd,bs',h1,_,_,_,h5,h6⟩=>by
  subst h5
  intro x hx
  rcases bX.1 hx with rfl|hx
  ·exact h1.has
  ·exact dU.has (fun _ _ _ _ _ ht=>iL.has ht) h6 x hx
theorem dU.count {T:ByteArray->Option ByteArray->Int->List Pr->List Int->Prop}(hT:∀k z b c x,T k z b c x->x.length+1<=2*c.length){hi:Option ByteArray}:∀{l:List (ByteArray×Int)} {cs:List Pr} {bs:List Int},dU T hi l cs bs->bs.length+l.length<=2*cs.length
 |[],_,_,⟨e,e2⟩=>by subst e e2;simp
 |(k,b)::l,_,_,h=>by
  obtain⟨c,cs',x,bs',h1,h2,rfl,rfl⟩:=h
  have a:=hT _ _ _ _ _ h1
  have b:=dU.count hT h2
  simp only[ay,bE];omega
theorem Nd.mh (nd:Nd)(ok:nd.Ok)(hk:nd.kids≠[])(lo:ByteArray):(nd.row lo).length=nd.kids.length:=by
 have:=ok.kk
 have:=dD.2 hk
 unfold Nd.row;simp;omega
theorem iL.count {σ:dF}:∀{h m:Nat} {lo:ByteArray} {hi:Option ByteArray} {b:Int} {cs:List Pr} {bs:List Int},iL σ h m lo hi b cs bs->2<=m->bs.length+1<=2*cs.length
 |0,_,_,_,_,_,_,⟨_,_,_,_,_,h5,_,_,h8⟩,_=>by
  subst h8
  have:=dD.2 h5
  simp;omega
 |h+1,_,_,_,_,_,_,⟨nd,bs',_,h2,h3,h4,h5,h6⟩,hm=>by
  subst h5
  have:=dU.count (fun _ _ _ _ _ ht=>iL.count ht (aG 2)) h6
  rw[nd.mh h2 h3] at this
  simp;omega
theorem iL.R6 {σ:dF}:∀{h m:Nat} {lo:ByteArray} {hi:Option ByteArray} {b:Int} {cs:List Pr} {bs:List Int},iL σ h m lo hi b cs bs->bs.length<=2*cs.length
 |0,_,_,_,_,_,_,⟨_,_,_,_,_,h5,_,_,h8⟩=>by
  subst h8
  have:=dD.2 h5
  simp;omega
 |h+1,_,_,_,_,_,_,⟨nd,bs',_,h2,h3,h4,h5,h6⟩=>by
  subst h5
  have:=dU.count (fun _ _ _ _ _ ht=>iL.count ht (aG 2)) h6
  rw[nd.mh h2 h3] at this
  have:=dD.2 h3
  simp;omega
def kT (lo:ByteArray):List Pc->List (ByteArray×Int)
 |[]=>[]
 |p::r=>(lo,p.1)::r.map fun q=>(q.2,q.1)
theorem xN (lo:ByteArray)(ps:List Pc):(kT lo ps).length=ps.length:=by cases ps<;>simp[kT]
theorem xO (lo:ByteArray)(ps:List Pc)(q:Pc)(qs:List Pc)(hp:ps≠[]):kT lo (ps++q::qs)=kT lo ps++kT q.2 (q::qs):=by
 cases ps with
 |nil=>exact absurd rfl hp
 |cons p r=>simp[kT]
theorem vS.head {nd:Nd}{l:ByteArray}{zs:List (ByteArray×Nd)}(h:vS nd l zs)(ok:nd.Ok)(hne:nd.kids≠[]\/nd.pairs≠[]):∃z r,zs=z::r/\z.1=leastOf nd l:=by
 induction h with
 |none h1 h2=>rcases hne with h|h;exact absurd h1 h;exact absurd h2 h
 |@one nd l h1 h2=>exact⟨_,_,rfl,rfl⟩
 |@leaf nd l i hi A B hk hs hi1 _ _ _ iha ihb=>
  have hp:nd.pairs.take i≠[]:=fun e=>by have:=congrArg List.length e;simp only[aF,aJ] at this;omega
  obtain⟨z,r,rfl,hz⟩:=iha (ok.left i hk) (.inr hp)
  refine⟨z,r++B,rfl,hz.trans ?_⟩
  unfold leastOf
  rw[hk]
  cases hq:nd.pairs with
  |nil=>rw[hq] at hi;simp at hi
  |cons p ps=>
   obtain⟨i,rfl⟩:∃d,i=d+1:=⟨i - 1,by omega⟩
   rfl
 |@inner nd l i hi A B hk hs hi1 _ _ iha ihb=>
  have h5:=(ok.big hs).2 hk
  have hp:nd.kids.take i≠[]:=fun e=>by have:=congrArg List.length e;simp only[aF,aJ] at this;omega
  obtain⟨z,r,rfl,hz⟩:=iha (ok.Dx i (by omega)) (.inl hp)
  refine⟨z,r++B,rfl,hz.trans ?_⟩
  unfold leastOf
  cases hq:nd.kids with
  |nil=>exact absurd hq hk
  |cons k ks=>
   obtain⟨i,rfl⟩:∃d,i=d+1:=⟨i - 1,by omega⟩
   rfl
theorem Puts.split:∀{A:List (ByteArray×Nd)} {σ σ':dF} {ps:List Pc} {B:List (ByteArray×Nd)},Puts σ ps (A++B) σ'->∃ps1 ps2 σ1,ps=ps1++ps2/\Puts σ ps1 A σ1/\Puts σ1 ps2 B σ'
 |[],σ,σ',ps,B,h=>⟨[],ps,σ,rfl,rfl,h⟩
 |z::A,σ,σ',ps,B,h=>by
  cases ps with
  |nil=>exact absurd h id
  |cons p ps=>
   obtain⟨τ,h1,h2,h3⟩:=h
   obtain⟨ps1,ps2,σ1,rfl,g1,g2⟩:=Puts.split h3
   exact⟨p::ps1,ps2,σ1,rfl,⟨τ,h1,h2,g1⟩,g2⟩
theorem Puts.BS:∀{zs:List (ByteArray×Nd)} {σ σ':dF} {ps:List Pc},Puts σ ps zs σ'->PG σ->lM σ σ' [] (ps.map (·.1))
 |[],σ,σ',ps,h,_=>by
  cases ps with
  |nil=>cases h;exact lM.refl (by simp)
  |cons p ps=>exact absurd h id
 |z::zs,σ,σ',ps,h,hc=>by
  cases ps with
  |nil=>exact absurd h id
  |cons p ps=>
   obtain⟨τ,h1,h2,h3⟩:=h
   have c1:=Ms h2 hc
   have c2:=(Puts.BS h3 (c1.Mr hc)).left (rs:=[p.1]) (by simp) (fun x hx=>by rw[bK.1 hx];exact h2.blk.has)
   exact c1.trans (c2.perm (jH _) (fV (l₁:=ps.map (·.1)) (l₂:=[p.1])))
theorem iL.keep {σ σ':dF}{us bs':List Int}(hc:lM σ σ' us bs'){h m:Nat}{lo:ByteArray}{hi:Option ByteArray}{b:Int}{cs:List Pr}{bs:List Int}(ht:iL σ h m lo hi b cs bs)(hd:∀x∈bs,x∉us):iL σ' h m lo hi b cs bs:=
 ht.move fun x hx=>hc.frame x (ht.has x hx) (.inl (hd x hx))
theorem dU.keep {σ σ':dF}{us bs':List Int}(hc:lM σ σ' us bs'){h m:Nat}{hi:Option ByteArray}{l:List (ByteArray×Int)}{cs:List Pr}{bs:List Int}(ht:dU (iL σ h m) hi l cs bs)(hd:∀x∈bs,x∉us):dU (iL σ' h m) hi l cs bs:=
 ht.change fun _ _ _ _ _ hx ht=>ht.keep hc fun y hy=>hd y (hx y hy)
theorem vI {σ σ':dF}{ps:List Pc}{z:ByteArray×Nd}{r:List (ByteArray×Nd)}(h:Puts σ ps (z::r) σ'):∃q qs,ps=q::qs/\q.2=z.1:=by
 cases ps with
 |nil=>exact absurd h id
 |cons q qs=>obtain⟨_,h1,_⟩:=h;exact⟨q,qs,rfl,h1⟩
theorem vS.Qk {nd:Nd}{l:ByteArray}{zs:List (ByteArray×Nd)}(h:vS nd l zs):∀{σ σ':dF} {ps:List Pc} {lo:ByteArray} {hi:Option ByteArray},nd.Ok->nd.kids=[]->gJ nd.pairs->(∀p∈nd.pairs,Within lo hi p.1)->Puts σ ps zs σ'->PG σ->∀m,dU (iL σ' 0 m) hi (kT lo ps) nd.pairs (ps.map (·.1)):=by
 induction h with
 |@none nd l h1 h2=>
  intro σ σ' ps lo hi ok hk hr hw hp hc m
  cases ps with
  |nil=>rw[h2];exact⟨rfl,rfl⟩
  |cons p ps=>exact absurd hp id
 |@one nd l h1 h2=>
  intro σ σ' ps lo hi ok hk hr hw hp hc m
  cases ps with
  |nil=>exact absurd hp id
  |cons p ps=>
   cases ps with
   |cons _ _=>obtain⟨_,_,_,x⟩:=hp;exact absurd x id
   |nil=>
    obtain⟨τ,h3,h4,rfl⟩:=hp
    exact⟨nd.pairs,[],[p.1],[],⟨nd,h4.blk,ok,hk,rfl,h1.resolve_left (fun x=>x hk),hr,hw,rfl⟩,⟨rfl,rfl⟩,by simp,rfl⟩
 |@leaf nd l i hi A B hk hs hi1 _ sa sb iha ihb=>
  intro σ σ' ps lo hib ok _ hr hw hp hc m
  obtain⟨ps1,ps2,σ1,rfl,g1,g2⟩:=hp.split
  have okA:=ok.left i hk
  have okB:=ok.right i hk
  have neA:nd.pairs.take i≠[]:=fun e=>by have:=congrArg List.length e;simp only[aF,aJ] at this;omega
  have neB:nd.pairs.drop i≠[]:=fun e=>by have:=congrArg List.length e;simp only[aR,aJ] at this;omega
  obtain⟨za,ra,rfl,_⟩:=sa.head okA (.inr neA)
  obtain⟨zb,rb,rfl,hzb⟩:=sb.head okB (.inr neB)
  obtain⟨q1,qs1,rfl,_⟩:=vI g1
  obtain⟨q,qs,rfl,hq⟩:=vI g2
  have hk2:q.2=nd.pairs[i].1:=by
   rw[hq,hzb]
   show leastOf _ _=_
   unfold leastOf
   rw[bT hi]
   rfl
  have hri:∀j (hj:j<nd.pairs.length),j<i->lt nd.pairs[j].1 nd.pairs[i].1=true:=fun j hj hji=>jW.1 hr j i hj hi hji
  have c2:=g2.BS ((g1.BS hc).Mr hc)
  have ra':=iha (lo:=lo) (hi:=some nd.pairs[i].1) okA rfl (hr.sublist (List.take_sublist _ _)) (fun p hp=>by
   obtain⟨j,hj,rfl⟩:=gU hp
   simp only[aF] at hj
   refine⟨?_,fun y hy=> ?_⟩
   ·have:=(hw _ (fD hp)).1
    exact this
   ·cases hy
    rw[Ck]
    exact hri j (by omega) (by omega)) g1 hc m
  have rb':=ihb (lo:=nd.pairs[i].1) (hi:=hib) okB rfl (hr.sublist (List.drop_sublist _ _)) (fun p hp=>by
   obtain⟨j,hj,e⟩:=gU hp
   refine⟨?_,(hw p (cO hp)).2⟩
   rw[Cm] at e
   rw[<-e]
   cases j with
   |zero=>exact lt_irrefl _
   |succ j=>
    exact lt_asymm (jW.1 hr i (i+(j+1)) hi (by simp only[aR] at hj;omega) (by omega))) g2 ((g1.BS hc).Mr hc) m
  rw[xO _ _ _ _ (by simp),hk2,dz]
  have ra2:dU (iL σ' 0 m) (jl (kT nd.pairs[i].1 (q::qs)) hib) (kT lo (q1::qs1)) (nd.pairs.take i) ((q1::qs1).map (·.1)):=ra'.keep c2 (by simp)
  have:=dU.append rb' ra2
  rw[show Nd.pairs ⟨nd.pairs.drop i,[],[]⟩=nd.pairs.drop i from rfl,bV] at this
  exact this
 |@inner nd l i hi A B hk hs hi1 sa sb iha ihb=>
  intro σ σ' ps lo hi ok hk2
  exact absurd hk2 hk
theorem NG (nd:Nd)(lo:ByteArray)(i:Nat)(hi:1<=i):Nd.row ⟨[],nd.keys.take (i - 1),nd.kids.take i⟩ lo=(nd.row lo).take i:=by
 obtain⟨i,rfl⟩:∃d,i=d+1:=⟨i - 1,by omega⟩
 unfold Nd.row
 rw[yG,yG,List.take_zipWith]
 rfl
theorem NH (nd:Nd)(lo:ByteArray)(i:Nat)(hi:i - 1<nd.keys.length)(h1:1<=i):Nd.row ⟨[],nd.keys.drop i,nd.kids.drop i⟩ nd.keys[i - 1]=(nd.row lo).drop i:=by
 obtain⟨i,rfl⟩:∃d,i=d+1:=⟨i - 1,by omega⟩
 unfold Nd.row
 rw[yG,yG,List.drop_zipWith,fM]
 simp only[zU] at hi ⊢
 rw[bT hi]
theorem vS.Ou {nd:Nd}{l:ByteArray}{zs:List (ByteArray×Nd)}(h:vS nd l zs):∀{σ σ':dF} {ps:List Pc} {lo:ByteArray} {hi:Option ByteArray} {h m:Nat} {cs:List Pr} {bs:List Int},nd.Ok->nd.kids≠[]->dU (iL σ h 2) hi (nd.row lo) cs bs->Puts σ ps zs σ'->PG σ->m<=2->m<=nd.kids.length->
  ∃bs',dU (iL σ' (h+1) m) hi (kT lo ps) cs bs'/\bs'.Perm (ps.map (·.1)++bs):=by
 induction h with
 |@none nd l h1 h2=>intro σ σ' ps lo hi h m cs bs ok hk;exact absurd h1 hk
 |@one nd l h1 h2=>
  intro σ σ' ps lo hi h m cs bs ok hk hr hp hc hm hm2
  have hc2:=hp.BS hc
  cases ps with
  |nil=>exact absurd hp id
  |cons p ps=>
   cases ps with
   |cons _ _=>obtain⟨_,_,_,x⟩:=hp;exact absurd x id
   |nil=>
    obtain⟨τ,h3,h4,rfl⟩:=hp
    exact⟨p.1::bs,⟨cs,[],p.1::bs,[],⟨nd,bs,h4.blk,ok,hk,hm2,rfl,hr.keep hc2 (by simp)⟩,⟨rfl,rfl⟩,by simp,by simp⟩,jH _⟩
 |@leaf nd l i hi A B hk hs hi1 _ sa sb iha ihb=>intro σ σ' ps lo hi h m cs bs ok hk2;exact absurd hk hk2
 |@inner nd l i hi A B hk hs hi1 sa sb iha ihb=>
  intro σ σ' ps lo hib h m cs bs ok _ hr hp hc hm hm2
  have h5:=(ok.big hs).2 hk
  obtain⟨ps1,ps2,σ1,rfl,g1,g2⟩:=hp.split
  have okA:=ok.Dx i (by omega)
  have okB:=ok.y8 i
  have neA:nd.kids.take i≠[]:=fun e=>by have:=congrArg List.length e;simp only[aF,aJ] at this;omega
  have neB:nd.kids.drop i≠[]:=fun e=>by have:=congrArg List.length e;simp only[aR,aJ] at this;omega
  obtain⟨za,ra,rfl,_⟩:=sa.head okA (.inl neA)
  obtain⟨zb,rb,rfl,hzb⟩:=sb.head okB (.inl neB)
  obtain⟨q1,qs1,rfl,_⟩:=vI g1
  obtain⟨q,qs,rfl,hq⟩:=vI g2
  have hk2:q.2=nd.keys[i - 1]:=by
   rw[hq,hzb]
   show leastOf _ _=_
   have:leastOf ⟨[],nd.keys.drop i,nd.kids.drop i⟩ nd.keys[i - 1]=nd.keys[i - 1]:=by
    unfold leastOf
    cases hq:nd.kids.drop i with
    |nil=>exact absurd hq neB
    |cons a r=>rfl
   rw[this,this]
  have c1:=g1.BS hc
  have c2:=g2.BS (c1.Mr hc)
  have er:nd.row lo=(nd.row lo).take i++(nd.row lo).drop i:=(bV _ _).symm
  rw[er] at hr
  obtain⟨cl,cm,bl,bm,r1,r2,rfl,rfl⟩:=hr.split
  rw[<-NH nd lo i hi (by omega)] at r1 r2
  rw[<-NG nd lo i (by omega)] at r1
  have hnl:∀z,jl (Nd.row ⟨[],nd.keys.drop i,nd.kids.drop i⟩ nd.keys[i - 1]) z=some nd.keys[i - 1]:=by
   intro z
   unfold Nd.row
   cases hq:nd.kids.drop i with
   |nil=>exact absurd hq neB
   |cons a r=>rfl
  rw[hnl] at r1
  obtain⟨bs1,x1,y1⟩:=iha (m:=m) okA neA r1 g1 hc hm (by simp only[aF];omega)
  obtain⟨bs2,x2,y2⟩:=ihb (m:=m) okB neB (r2.keep c1 (by simp)) g2 (c1.Mr hc) hm (by simp only[aR];omega)
  rw[xO _ _ _ _ (by simp),hk2,dz]
  refine⟨bs1++bs2,dU.append x2 (l:=kT lo (q1::qs1)) (x1.keep c2 (by simp)),?_⟩
  refine(y1.append y2).trans ?_
  generalize (q1::qs1).map (·.1)=A at*
  generalize (q::qs).map (·.1)=B at*
  have:(A++bl++(B++bm)).Perm (A++B++(bl++bm)):=by
   rw[aN,aN]
   refine Iz A ?_
   rw[<-aN,<-aN]
   exact List.Perm.append_right bm fV
  exact this
def pO (σ:dF)(h:Nat)(lo:ByteArray)(hi:Option ByteArray)(nd:Nd)(cs:List Pr)(bs:List Int):Prop:=
 match h with
 |0=>nd.kids=[]/\nd.pairs=cs/\gJ cs/\(∀p∈cs,Within lo hi p.1)/\bs=[]
 |h+1=>nd.kids≠[]/\dU (iL σ h 2) hi (nd.row lo) cs bs
def Kids (h m:Nat)(nd:Nd):Prop:=h=0\/m<=nd.kids.length
theorem sF {σ:dF}{h m:Nat}{lo:ByteArray}{hi:Option ByteArray}{b:Int}{cs:List Pr}{bs:List Int}:iL σ h m lo hi b cs bs↔∃nd bs',Cq σ b nd/\nd.Ok/\pO σ h lo hi nd cs bs'/\Kids h m nd/\cs≠[]/\bs=b::bs':=by
 cases h with
 |zero=>
  constructor
  ·rintro⟨nd,h1,h2,h3,h4,h5,h6,h7,h8⟩
   exact⟨nd,[],h1,h2,⟨h3,h4.symm,h6,h7,rfl⟩,.inl rfl,h5,h8⟩
  ·rintro⟨nd,bs',h1,h2,⟨h3,h4,h5,h6,rfl⟩,_,h7,h8⟩
   exact⟨nd,h1,h2,h3,h4.symm,h7,h5,h6,h8⟩
 |succ h=>
  constructor
  ·intro ht
   have hc:=ht.content.ne
   obtain⟨nd,bs',h1,h2,h3,h4,h5,h6⟩:=ht
   exact⟨nd,bs',h1,h2,⟨h3,h6⟩,.inr h4,hc,h5⟩
  ·rintro⟨nd,bs',h1,h2,⟨h3,h6⟩,h4,_,h5⟩
   exact⟨nd,bs',h1,h2,h3,h4.resolve_left (by omega),h5,h6⟩
theorem wR {nd:Nd}{l:ByteArray}{zs:List (ByteArray×Nd)}(hs:vS nd l zs){σ σ':dF}{ps:List Pc}{lo:ByteArray}{hi:Option ByteArray}{h m:Nat}{cs:List Pr}{bs:List Int}(ok:nd.Ok)(hr:pO σ h lo hi nd cs bs)(hp:Puts σ ps zs σ')(hc:PG σ)(hm:m<=2)(hk:Kids h m nd)(hn:bs.Nodup)(hb:∀x∈bs,σ.hasB x=true):
  ∃bs',dU (iL σ' h m) hi (kT lo ps) cs bs'/\lM σ σ' bs bs':=by
 have c:=hp.BS hc
 cases h with
 |zero=>
  obtain⟨h1,rfl,h3,h4,rfl⟩:=hr
  exact⟨_,hs.Qk ok h1 h3 h4 hp hc m,c⟩
 |succ h=>
  obtain⟨h1,h2⟩:=hr
  obtain⟨bs',x,y⟩:=hs.Ou ok h1 h2 hp hc hm (hk.resolve_left (by omega))
  exact⟨bs',x,(c.left (rs:=bs) (by simpa using hn) hb).perm (by simp) y.symm⟩
def lG (nd:Nd)(lo:ByteArray)(R:List (ByteArray×Int)):Prop:=lo::nd.keys=R.map (·.1)/\nd.kids=R.map (·.2)
theorem lG.row {nd:Nd}{lo:ByteArray}{R:List (ByteArray×Int)}(h:lG nd lo R):nd.row lo=R:=by
 unfold Nd.row
 rw[h.1,h.2,List.zip_map']
 simp
theorem rowOf {nd:Nd}(ok:nd.Ok)(hk:nd.kids≠[])(lo:ByteArray):lG nd lo (nd.row lo):=by
 obtain⟨b,l,e,e2,e3⟩:=qd ok.kk hk lo
 unfold Nd.row
 rw[e]
 exact⟨by simp[e2],by simp[e3]⟩
theorem lG.len {nd:Nd}{lo:ByteArray}{R:List (ByteArray×Int)}(h:lG nd lo R):nd.kids.length=R.length/\nd.keys.length+1=R.length:=by
 have h1:=congrArg List.length h.1
 have h2:=congrArg List.length h.2
 simp at h1 h2
 omega
theorem lG.ne {nd:Nd}{lo:ByteArray}{R:List (ByteArray×Int)}(h:lG nd lo R):R≠[]:=fun e=>by
 have:=h.len;subst e;simp at this
def Km (lo:ByteArray):List (ByteArray×Int)->List (ByteArray×Int)
 |[]=>[]
 |(_,b)::r=>(lo,b)::r
theorem Dm (k:ByteArray)(ps:List Pc):(kT k ps).map (·.1)=lF k ps:=by cases ps<;>simp[kT,lF]
theorem Dl (k:ByteArray)(ps:List Pc):(kT k ps).map (·.2)=ps.map (·.1):=by cases ps<;>simp[kT]
theorem wT {nd:Nd}{lo k:ByteArray}{b:Int}{L M:List (ByteArray×Int)}{ps:List Pc}(h:lG nd lo (L++(k,b)::M))(hne:L≠[]\/ps≠[]):lG (nd.ql L.length ps) lo (L++kT k ps++M):=by
 obtain⟨h1,h2⟩:=h
 constructor
 ·cases L with
  |nil=>
   simp only[dB,dG,oI] at h1
   obtain⟨rfl,h1⟩:=h1
   cases ps with
   |nil=>simp at hne
   |cons p r=>
    simp only[Nd.ql,gI,h1,aJ,gW,dB,lF,nS,fM,fo,kT,dG,dz,Fq,oI,true_and]
    rfl
  |cons l L=>
   simp only[nS,dG,oI,dz] at h1
   obtain⟨rfl,h1⟩:=h1
   have hg:(gI nd).getD (L.length+1) ⟨#[]⟩=k:=by
    simp[gI,h1,fE]
   simp only[Nd.ql,bE,hg]
   simp only[gI,h1,kY,nS,fM,fo,dG,dz,Dm]
   congr 1
   rw[bU (by simp),aQ (by simp),nR]
   simp
 ·simp only[Nd.ql,h2,dz,dG,Dl]
  rw[bU (by simp),aQ (by simp)]
  congr 1
  rw[nR]
  simp
theorem FX {nd:Nd}{lo k:ByteArray}{b:Int}{M:List (ByteArray×Int)}(h:lG nd lo ((k,b)::M))(hM:M≠[]):lG (nd.ql 0 []) lo (Km lo M):=by
 obtain⟨h1,h2⟩:=h
 simp only[dG,oI] at h1
 obtain⟨rfl,h1⟩:=h1
 cases M with
 |nil=>exact absurd rfl hM
 |cons m M=>
  constructor
  ·simp[Nd.ql,gI,h1,lF,Km]
  ·simp[Nd.ql,h2,Km]
theorem Dh {key:ByteArray}:∀{k:ByteArray} {b:Int} {r:List (ByteArray×Int)},lt key k=false->∃L k' b' M,(k,b)::r=L++(k',b')::M/\L.length=iE (r.map (·.1)) key/\lt key k'=false/\∀k2 b2 M2,M=(k2,b2)::M2->lt key k2=true
 |k,b,[],hk=>⟨[],k,b,[],rfl,rfl,hk,fun _ _ _ h=>by cases h⟩
 |k,b,(k1,b1)::r,hk=>by
  cases h1:lt key k1 with
  |true=>exact⟨[],k,b,(k1,b1)::r,rfl,by simp[iE,h1],hk,fun _ _ _ h=>by cases h;exact h1⟩
  |false=>
   obtain⟨L,k',b',M,e,e2,e3,e4⟩:=Dh (b:=b1) (r:=r) h1
   exact⟨(k,b)::L,k',b',M,by rw[e];rfl,by simp[iE,h1,e2],e3,e4⟩
structure J5 (F:List Pr->List Pr)(key:ByteArray):Prop where
 loc:∀cl c cr,(∀p∈cl,lt p.1 key=true)->(∀p∈cr,lt key p.1=true)->F (cl++c++cr)=cl++F c++cr
 rise:∀c,gJ c->gJ (F c)
 mem:∀c,gJ c->∀p∈F c,p∈c\/(p.1=key/\p.1.size<=128/\p.2.size<=64)
 len:∀c,(F c).length<=c.length+1
 size:∀c,d9 (F c)<=d9 c+194
theorem Bf (cl r:List Pr)(key:ByteArray)(h:∀p∈cl,lt p.1 key=true):dN (cl++r) key=cl.length+dN r key:=by
 unfold dN
 rw[List.takeWhile_append_of_pos h,ay]
theorem uz (c cr:List Pr)(key:ByteArray)(h:∀p∈cr,lt key p.1=true):dN (c++cr) key=dN c key:=by
 induction c with
 |nil=>
  cases cr with
  |nil=>rfl
  |cons p r=>simp[dN,lt_asymm (h p (by simp))]
 |cons p c ih=>
  unfold dN at*
  rw[nS,yH,yH]
  split
  ·simp[ih]
  ·rfl
theorem wU (cl c cr:List Pr)(key:ByteArray)(h1:∀p∈cl,lt p.1 key=true)(h2:∀p∈cr,lt key p.1=true):dN (cl++c++cr) key=cl.length+dN c key:=by
 rw[aN,Bf _ _ _ h1,uz _ _ _ h2]
theorem DC (cl c cr:List Pr)(key:ByteArray)(h1:∀p∈cl,lt p.1 key=true)(h2:∀p∈cr,lt key p.1=true):nT (cl++c++cr) key=nT c key:=by
 unfold nT
 rw[wU cl c cr key h1 h2,aN,cK (by omega),eP]
 by_cases hc:dN c key<c.length
 ·rw[fu hc]
 ·rw[cK (by omega),gT (l:=c) (by omega)]
  have hp:=o8 c key
  cases cr with
  |nil=>rfl
  |cons p r=>
   rw[show dN c key - c.length=0 by omega]
   have:=QS (h2 p (by simp))
   simp only[List.getElem?_cons_zero,rT]
   exact fun e=>this e.symm
theorem Qn (key value:ByteArray):∀cl c cr,(∀p∈cl,lt p.1 key=true)->(∀p∈cr,lt key p.1=true)->mI (cl++c++cr) key value=cl++mI c key value++cr:=by
 intro cl c cr h1 h2
 have hp:=o8 c key
 unfold mI
 rw[DC cl c cr key h1 h2,wU cl c cr key h1 h2]
 cases hat:nT c key with
 |true=>
  obtain⟨hlt,_⟩:=oV hat
  simp only[iw]
  rw[aN,iG _ _ (by omega),eP,K3 _ _ hlt,aN]
 |false=>
  simp only[PK,if_false]
  rw[aN,D7,nR,aQ (by omega),dZ (by omega),eP,bU hp,fF hp]
  simp
theorem KQ (key:ByteArray):∀cl c cr,(∀p∈cl,lt p.1 key=true)->(∀p∈cr,lt key p.1=true)->nu (cl++c++cr) key=cl++nu c key++cr:=by
 intro cl c cr h1 h2
 have hp:=o8 c key
 unfold nu
 rw[DC cl c cr key h1 h2,wU cl c cr key h1 h2]
 cases hat:nT c key with
 |true=>
  obtain⟨hlt,_⟩:=oV hat
  simp only[iw]
  rw[aN,D7,nR,aQ (by omega),dZ (by omega),kG,eP,eP,bU hp,fF (by omega)]
  simp
 |false=>simp
theorem Gy (key value:ByteArray)(hk:key.size<=128)(hv:value.size<=64):J5 (fun ps=>mI ps key value) key:=by
 refine⟨Qn key value,fun c hr=> ?_,fun c hr p hp=> ?_,fun c=> ?_,fun c=> ?_⟩
 ·obtain⟨f1,f2⟩:=qL key c hr
  unfold mI
  split
  ·rename_i hat
   obtain⟨hlt,hkey⟩:=oV hat
   refine jW.2 fun i j hi hj hij=> ?_
   have:=jW.1 hr i j (by simpa using hi) (by simpa using hj) hij
   rw[List.getElem_set,List.getElem_set]
   split
   ·rename_i e;subst e
    rw[if_neg (by omega)]
    rw[hkey] at this;exact this
   ·split
    ·rename_i e;subst e
     rw[hkey] at this;exact this
    ·exact this
  ·rename_i hat
   have hne:∀i (h:i<c.length),dN c key<=i->lt key c[i].1=true:=by
    intro i hi hle
    have h1:=f2 i hi hle
    cases h2:lt key c[i].1 with
    |true=>rfl
    |false=>
     have e:=xU h1 h2
     have hi2:i=dN c key:=by
      rcases iW (dN c key) i with h3|h3
      ·have h4:=jW.1 hr (dN c key) i (by omega) hi h3
       have h5:=f2 (dN c key) (by omega) (aG _)
       rw[e] at h4;rw[h4] at h5;cases h5
      ·omega
     subst hi2
     exfalso
     apply hat
     unfold nT
     rw[aW hi]
     simp[e]
   refine K4.2 ⟨hr.sublist (List.take_sublist _ _),fw.2 ⟨fun q hq=> ?_,hr.sublist (List.drop_sublist _ _)⟩,fun q hq z hz=> ?_⟩
   ·obtain⟨i,hi,rfl⟩:=gU hq
    rw[Cm]
    exact hne _ _ (by omega)
   ·obtain⟨i,hi,rfl⟩:=gU hq
    rw[aF] at hi
    rw[Ck]
    have h1:=f1 i (by omega) (by omega)
    rcases bX.1 hz with rfl|hz
    ·exact h1
    ·obtain⟨j,hj,rfl⟩:=gU hz
     rw[Cm]
     exact lt_trans h1 (hne _ _ (by omega))
 ·unfold mI at hp
  split at hp
  ·rcases List.mem_or_eq_of_mem_set hp with h|rfl
   ·exact .inl h
   ·exact .inr ⟨rfl,hk,hv⟩
  ·rcases bO.1 hp with h|h
   ·exact .inl (fD h)
   ·rcases bX.1 h with rfl|h
    ·exact .inr ⟨rfl,hk,hv⟩
    ·exact .inl (cO h)
 ·simp only[mI]
  split<;>simp<;>omega
 ·have e0:2+(key,value).1.size+(key,value).2.size<=194:=by show 2+key.size+value.size<=194;omega
  simp only[mI]
  split
  ·rename_i hat
   obtain⟨hlt,_⟩:=oV hat
   have e1:d9 (c.take (dN c key))+d9 (c.drop (dN c key))=d9 c:=by rw[<-kH,bV]
   rw[rU,if_pos hlt,kH,kC]
   rw[bT hlt,kC] at e1
   omega
  ·have e1:d9 (c.take (dN c key))+d9 (c.drop (dN c key))=d9 c:=by rw[<-kH,bV]
   rw[kH,kC]
   omega
theorem OI (key:ByteArray):J5 (fun ps=>nu ps key) key:=by
 have hsub:∀c,(nu c key).Sublist c:=fun c=>by
  unfold nu
  split
  ·have h1:(c.take (dN c key)++c.drop (dN c key+1)).Sublist (c.take (dN c key)++c.drop (dN c key)):=
    List.Sublist.append (Rc _) (List.drop_sublist_drop_left _ (by omega))
   rwa [bV] at h1
  ·exact Rc _
 refine⟨KQ key,fun c hr=>hr.sublist (hsub c),fun c _ p hp=> .inl ((hsub c).mem hp),fun c=>mW (hsub c).length_le,fun c=> ?_⟩
 have:∀a b:List Pr,a.Sublist b->d9 a<=d9 b:=by
  intro a b h
  induction h with
  |slnil=>exact aG _
  |cons x _ ih=>rw[kC];omega
  |cons_cons x _ ih=>rw[kC,kC];omega
 exact aH (this _ _ (hsub c)) (Nat.le_add_right _ _)
def Room (σ:dF)(bs:List Int)(n:Nat):Prop:=σ.sz+2*n<=σ.most+nh σ bs
theorem lM.room {σ σ':dF}{us bs:List Int}{n:Nat}(h:lM σ σ' us bs)(r:Room σ us n):Room σ' bs n:=by
 have:=h.size
 unfold Room at*
 rw[h.most,tJ h.H];omega
theorem iL.top {σ:dF}{h m:Nat}{lo:ByteArray}{hi:Option ByteArray}{b:Int}{cs:List Pr}{bs:List Int}(ht:iL σ h m lo hi b cs bs):1<=b/\b<=4096:=by
 obtain⟨nd,_,h1,_⟩:=sF.1 ht
 exact⟨by have:=h1.lo;omega,h1.hi⟩
theorem dU.FB {T:ByteArray->Option ByteArray->Int->List Pr->List Int->Prop}{q:Int->Prop}(hT:∀k z b c x,T k z b c x->q b){hi:Option ByteArray}:∀{l:List (ByteArray×Int)} {cs:List Pr} {bs:List Int},dU T hi l cs bs->∀p∈l,q p.2
 |[],_,_,_=>by simp
 |(k,b)::l,_,_,h=>by
  obtain⟨c,cs',x,bs',h1,h2,rfl,rfl⟩:=h
  intro p hp
  rcases bX.1 hp with rfl|hp
  ·exact hT _ _ _ _ _ h1
  ·exact dU.FB hT h2 p hp
theorem lG.ok {nd:Nd}{lo:ByteArray}{R:List (ByteArray×Int)}(h:lG nd lo R)(hp:nd.pairs=[])(hky:∀k∈nd.keys,k.size<=128)(hkd:∀p∈R,1<=p.2/\p.2<=4096)(hl:R.length<=2000):nd.Ok:=by
 have hlen:=h.len
 refine⟨by simp[hp],hky,fun k hk=> ?_,by omega,fun _=>hp,by simp[hp],by omega⟩
 rw[h.2] at hk
 obtain⟨p,hp,rfl⟩:=dL.1 hk
 exact hkd p hp
theorem Dj {nd:Nd}{i:Nat}{ps:List Pc}(h:∀k∈nd.keys,k.size<=128)(hp:∀p∈ps,p.2.size<=128):∀k∈(nd.ql i ps).keys,k.size<=128:=by
 have he:∀k∈gI nd,k.size<=128:=fun k hk=>by
  rcases bX.1 hk with rfl|hk
  ·exact aX _
  ·exact h k hk
 have hg:((gI nd).getD i ⟨#[]⟩).size<=128:=by
  rw[fE]
  cases hq:(gI nd)[i]? with
  |none=>exact aX _
  |some x=>exact he x (kN hq)
 intro k hk
 have hk:=cO hk
 rcases bO.1 hk with hk|hk
 ·rcases bO.1 hk with hk|hk
  ·exact he k (fD hk)
  ·cases ps with
   |nil=>cases hk
   |cons p r=>
    rcases bX.1 hk with rfl|hk
    ·exact hg
    ·obtain⟨q,hq,rfl⟩:=dL.1 hk
     exact hp q (bq _ hq)
 ·exact he k (cO hk)
theorem vS.keys {nd:Nd}{l:ByteArray}{zs:List (ByteArray×Nd)}(h:vS nd l zs)(ok:nd.Ok)(hl:l.size<=128):∀z∈zs,z.1.size<=128:=by
 have hle:∀(nd:Nd) (l:ByteArray),nd.Ok->l.size<=128->(leastOf nd l).size<=128:=fun nd l ok hl=>by
  unfold leastOf
  split
  ·cases hq:nd.pairs with
   |nil=>exact aX _
   |cons p r=>exact(ok.pr p (by rw[hq];simp)).1
  ·exact hl
 induction h with
 |none _ _=>simp
 |one _ _=>intro z hz;rw[bK.1 hz];exact hle _ _ ok hl
 |@leaf nd l i hi A B hk hs hi1 _ _ _ iha ihb=>
  intro z hz
  rcases bO.1 hz with hz|hz
  ·exact iha (ok.left i hk) hl z hz
  ·exact ihb (ok.right i hk) (hle _ _ (ok.right i hk) (ok.pr _ (bD hi)).1) z hz
 |@inner nd l i hi A B hk hs hi1 _ _ iha ihb=>
  intro z hz
  rcases bO.1 hz with hz|hz
  ·exact iha (ok.Dx i (by omega)) hl z hz
  ·exact ihb (ok.y8 i) (hle _ _ (ok.y8 i) (ok.ky _ (bD hi))) z hz
theorem Puts.keys:∀{zs:List (ByteArray×Nd)} {σ σ':dF} {ps:List Pc},Puts σ ps zs σ'->(∀z∈zs,z.1.size<=128)->∀p∈ps,p.2.size<=128
 |[],_,_,[],_,_=>by simp
 |[],_,_,_::_,h,_=>absurd h id
 |_::_,_,_,[],h,_=>absurd h id
 |z::zs,_,_,p::ps,h,hz=>by
  obtain⟨τ,h1,h2,h3⟩:=h
  intro q hq
  rcases bX.1 hq with rfl|hq
  ·rw[h1];exact hz z (by simp)
  ·exact Puts.keys h3 (fun y hy=>hz y (bq _ hy)) q hq
structure TL (σ:dF)(h m:Nat)(lo:ByteArray)(hi:Option ByteArray)(ps:List Pc)(cs:List Pr)(bs:List Int):Prop where
 row:dU (iL σ h m) hi (kT lo ps) cs bs
 key:∀p∈ps,p.2.size<=128
 len:ps.length<=900
 m1:1<=m
 m2:m<=2
 single:m=2\/ps.length=1
inductive Mid (σ:dF)(h:Nat)(hi:Option ByteArray)(z:Nat):List (ByteArray×Int)->Nat->List Pr->List Int->Prop
 |two {R i cs bs}:dU (iL σ h 2) hi R cs bs->Mid σ h hi z R i cs bs
 |one {L k b M cl bl c x cm bm}:dU (iL σ h 2) (some k) L cl bl->iL σ h 1 k (jl M hi) b c x->dU (iL σ h 2) hi M cm bm->2<=(L++(k,b)::M).length->c.length=z->Mid σ h hi z (L++(k,b)::M) L.length (cl++(c++cm)) (bl++(x++bm))
theorem J3 {σ:dF}{h m:Nat}{lo k:ByteArray}{b:Int}{hi:Option ByteArray}{nd:Nd}{L M:List (ByteArray×Int)}{cl cm c:List Pr}{bl bm x:List Int}{ps:List Pc}(hR:lG nd lo (L++(k,b)::M))(hL:dU (iL σ h 2) (some k) L cl bl)(hM:dU (iL σ h 2) hi M cm bm)(hP:TL σ h m k (jl M hi) ps c x)(h2:2<=(L++(k,b)::M).length)
  (hlo:∀k1 b1 M',M=(k1,b1)::M'->lt k1 lo=false) (hkz:∀y,jl M hi=some y->lt y k=false):
  ∃R,lG (nd.ql L.length ps) lo R/\(∀z,(ps.length=1->z=c.length)->Mid σ h hi z R L.length (cl++(c++cm)) (bl++(x++bm)))/\R.length<=L.length+ps.length+M.length:=by
 cases ps with
 |nil=>
  obtain⟨rfl,rfl⟩:=hP.row
  cases L with
  |nil=>
   obtain⟨rfl,rfl⟩:=hL
   cases M with
   |nil=>simp at h2
   |cons q M=>
    obtain⟨k1,b1⟩:=q
    refine⟨_,FX hR (by simp),fun z _=> .two (dU.Fx (fun z b c x ht=>iL.weaken ht (hlo k1 b1 M rfl) (fun y hy=>⟨y,hy,lt_irrefl y⟩)) hM),by simp[Km]⟩
  |cons l L=>
   refine⟨_,wT hR (.inl (by simp)),fun z _=> .two ?_,by simp[kT];omega⟩
   have hL':dU (iL σ h 2) (jl M hi) (l::L) cl bl:=dU.Ay (fun k' b' c' x' ht=>iL.weaken ht (lt_irrefl _) (fun y hy=>⟨k,rfl,hkz y hy⟩)) hL
   have:=hM.append hL'
   simpa [kT] using this
 |cons p r=>
  refine⟨_,wT hR (.inr (by simp)),fun z hz=> ?_,by simp[kT];omega⟩
  by_cases hr:r=[]
  ·subst hr
   obtain⟨c1,c2,x1,x2,ht,⟨rfl,rfl⟩,rfl,rfl⟩:=hP.row
   rw[dS] at hz
   rw[dS,dS]
   have ht':iL σ h 1 k (jl M hi) p.1 c1 x1:=ht.less hP.m1
   have:=Mid.one (b:=p.1) hL ht' hM (by simpa using h2) (hz rfl).symm
   simpa [kT] using this
  ·have hm:m=2:=hP.single.resolve_right (by cases r with|nil=>exact absurd rfl hr|cons _ _=>simp)
   subst hm
   have h1:=dU.append hM hP.row
   rw[aN]
   exact .two (dU.append h1 hL)
structure J4 (σ:dF)(h:Nat)(hi:Option ByteArray)(R:List (ByteArray×Int))(j:Nat)(cs:List Pr)(bs:List Int)(L:List (ByteArray×Int))(k1:ByteArray)(b1:Int)(k2:ByteArray)(b2:Int)(M:List (ByteArray×Int))(cl ca cb cm:List Pr)(bl xa xb bm:List Int)(m1 m2 z:Nat):Prop where
 row:R=L++(k1,b1)::(k2,b2)::M
 len:L.length=j
 l:dU (iL σ h 2) (some k1) L cl bl
 a:iL σ h m1 k1 (some k2) b1 ca xa
 b:iL σ h m2 k2 (jl M hi) b2 cb xb
 m:dU (iL σ h 2) hi M cm bm
 cs:cs=cl++(ca++(cb++cm))
 bs:bs=bl++(xa++(xb++bm))
 m12:(m1=2/\m2=2)\/(m1=1/\m2=2/\ca.length=z)\/(m1=2/\m2=1/\cb.length=z)
theorem Mid.skip {σ:dF}{h z:Nat}{hi:Option ByteArray}{R:List (ByteArray×Int)}{i:Nat}{cs:List Pr}{bs:List Int}(hm:Mid σ h hi z R i cs bs)(hs:R.length<2\/R.length<=i):dU (iL σ h 2) hi R cs bs:=by
 cases hm with
 |two h=>exact h
 |one h1 h2 h3 h4 _=>simp at hs h4;omega
theorem Mid.pair {σ:dF}{h z:Nat}{hi:Option ByteArray}{R:List (ByteArray×Int)}{i:Nat}{cs:List Pr}{bs:List Int}(hm:Mid σ h hi z R i cs bs)(h2:2<=R.length):
  ∃L k1 b1 k2 b2 M cl ca cb cm bl xa xb bm m1 m2,J4 σ h hi R (min i (R.length - 2)) cs bs L k1 b1 k2 b2 M cl ca cb cm bl xa xb bm m1 m2 z:=by
 cases hm with
 |two hr=>
  obtain⟨j,hj⟩:∃j,j=min i (R.length - 2):=⟨_,rfl⟩
  rw[<-hj]
  have e1:=bV j R
  have e2:R.drop j=R[j]'(by omega)::R[j+1]'(by omega)::R.drop (j+2):=by
   rw[bT (by omega),bT (i:=j+1) (by omega)]
  generalize R[j]'(by omega)=p1 at e2
  generalize R[j+1]'(by omega)=p2 at e2
  obtain⟨k1,b1⟩:=p1
  obtain⟨k2,b2⟩:=p2
  have hl:(R.take j).length=j:=by rw[aF];omega
  rw[e2] at e1
  generalize R.take j=L at e1 hl
  generalize R.drop (j+2)=M at e1
  rw[<-e1] at hr
  obtain⟨cl,cr,bl,br,r1,r2,rfl,rfl⟩:=hr.split
  obtain⟨ca,cr,xa,br,ta,⟨cb,cm,xb,bm,tb,rm,rfl,rfl⟩,rfl,rfl⟩:=r2
  exact⟨L,k1,b1,k2,b2,M,cl,ca,cb,cm,bl,xa,xb,bm,2,2,e1.symm,hl,r1,ta,tb,rm,rfl,rfl,.inl ⟨rfl,rfl⟩⟩
 |@one L k b M cl bl c x cm bm h1 h3 h4 h5 h6=>
  cases M with
  |cons q M=>
   obtain⟨k2,b2⟩:=q
   obtain⟨cb,cm,xb,bm,tb,rm,rfl,rfl⟩:=h4
   exact⟨L,k,b,k2,b2,M,cl,c,cb,cm,bl,x,xb,bm,1,2,rfl,by simp;omega,h1,h3,tb,rm,rfl,rfl,.inr (.inl ⟨rfl,rfl,h6⟩)⟩
  |nil=>
   obtain⟨rfl,rfl⟩:=h4
   rcases List.eq_nil_or_concat L with rfl|⟨L,q,rfl⟩
   ·simp at h5
   ·obtain⟨k1,b1⟩:=q
    rw[List.concat_eq_append] at h1
    obtain⟨cl',cr,bl',br,r1,r2,rfl,rfl⟩:=h1.split
    obtain⟨ca,c0,xa,x0,ta,⟨rfl,rfl⟩,rfl,rfl⟩:=r2
    exact⟨L,k1,b1,k,b,[],cl',ca,c,[],bl',xa,x,[],2,1,by simp,by simp,r1,ta,h3,⟨rfl,rfl⟩,by simp,by simp,.inr (.inr ⟨rfl,rfl,h6⟩)⟩
def eO (A B:Nd)(k:ByteArray):Nd:=⟨A.pairs++B.pairs,if A.kids=[] then[] else A.keys++[k]++B.keys,A.kids++B.kids⟩
theorem pO.rows {σ:dF}{h:Nat}{lo:ByteArray}{hi:Option ByteArray}{nd:Nd}{cs:List Pr}{bs:List Int}(hn:pO σ (h+1) lo hi nd cs bs)(ok:nd.Ok):lG nd lo (nd.row lo):=rowOf ok hn.1 lo
theorem Dz {σ:dF}{h:Nat}{k1 k2:ByteArray}{hi:Option ByteArray}{A B:Nd}{ca cb:List Pr}{xa xb:List Int}(okA:A.Ok)(okB:B.Ok)(hA:pO σ h k1 (some k2) A ca xa)(hB:pO σ h k2 hi B cb xb)(na:ca≠[])(nb:cb≠[])(hk2:k2.size<=128)(fA:A.Fits)(fB:B.Fits):
  pO σ h k1 hi (eO A B k2) (ca++cb) (xa++xb)/\(eO A B k2).Ok/\(eO A B k2).kids.length=A.kids.length+B.kids.length/\(eO A B k2).pairs.length=A.pairs.length+B.pairs.length:=by
 have hokk:(eO A B k2).Ok↔(eO A B k2).keys.length=(eO A B k2).kids.length - 1/\((eO A B k2).kids≠[]->(eO A B k2).pairs=[]):=by
  constructor
  ·exact fun h=>⟨h.kk,h.one⟩
  ·rintro⟨h1,h2⟩
   have a1:=fA.np;have a2:=fB.np;have a3:=fA.nk;have a4:=fB.nk
   refine⟨fun p hp=> ?_,fun k hk=> ?_,fun k hk=> ?_,h1,h2,by simp[eO];omega,by simp[eO];omega⟩
   ·rcases bO.1 hp with hp|hp
    ·exact okA.pr p hp
    ·exact okB.pr p hp
   ·unfold eO at hk
    dsimp only at hk
    split at hk
    ·cases hk
    ·simp only[aN,bO,bK] at hk
     rcases hk with hk|rfl|hk
     ·exact okA.ky k hk
     ·exact hk2
     ·exact okB.ky k hk
   ·rcases bO.1 hk with hk|hk
    ·exact okA.kd k hk
    ·exact okB.kd k hk
 refine⟨?_,hokk.2 ?_,by simp[eO],by simp[eO]⟩
 ·cases h with
  |zero=>
   obtain⟨a1,a2,a3,a4,a5⟩:=hA
   obtain⟨b1,b2,b3,b4,b5⟩:=hB
   have:=Content.append ⟨na,a3,a4⟩ ⟨nb,b3,b4⟩
   exact⟨by simp[eO,a1,b1],by simp[eO,a2,b2],this.rise,this.within,by simp[a5,b5]⟩
  |succ h=>
   have rA:=hA.rows okA
   have rB:=hB.rows okB
   have rJ:lG (eO A B k2) k1 (A.row k1++B.row k2):=by
    constructor
    ·simp only[eO,if_neg hA.1,dz,<-rA.1,<-rB.1]
     simp
    ·simp only[eO,dz,<-rA.2,<-rB.2]
   refine⟨by simp[eO,hA.1],?_⟩
   rw[rJ.row]
   have hnl:jl (B.row k2) hi=some k2:=by
    obtain⟨b,l,e,_⟩:=qd okB.kk hB.1 k2
    unfold Nd.row
    rw[e];rfl
   have h1:=hA.2
   rw[<-hnl] at h1
   exact dU.append hB.2 h1
 ·cases h with
  |zero=>simp[eO,hA.1,hB.1]
  |succ h=>
   have a1:=okA.kk;have a2:=okB.kk
   have a3:=dD.2 hA.1;have a4:=dD.2 hB.1
   refine⟨by simp[eO,hA.1];omega,fun _=>by simp[eO,okA.one hA.1,okB.one hB.1]⟩
def Nd.kE (nd:Nd)(j:Nat):Nd:=⟨nd.pairs,nd.keys.take j++nd.keys.drop (j+1),nd.kids.take (j+1)++nd.kids.drop (j+2)⟩
theorem Ho {nd:Nd}{lo k1 k2:ByteArray}{b1 b2:Int}{L M:List (ByteArray×Int)}(h:lG nd lo (L++(k1,b1)::(k2,b2)::M)):lG (nd.kE L.length) lo (L++(k1,b1)::M)/\nd.keys[L.length]? =some k2/\nd.kids[L.length]? =some b1/\nd.kids[L.length+1]? =some b2:=by
 obtain⟨h1,h2⟩:=h
 have hk:nd.keys=(L.map (·.1)++[k1]).drop 1++k2::M.map (·.1):=by
  have:=congrArg (List.drop 1) h1
  simp only[fM,fo] at this
  rw[this]
  cases L<;>simp
 have hlen:((L.map (·.1)++[k1]).drop 1).length=L.length:=by simp
 have hD:lo::(L.map (·.1)++[k1]).drop 1=L.map (·.1)++[k1]:=by
  cases L with
  |nil=>simp only[dB,dG,oI] at h1;simp[h1.1]
  |cons l L=>simp only[nS,dG,oI] at h1;simp[h1.1]
 generalize (L.map (·.1)++[k1]).drop 1=D at hk hlen hD
 refine⟨⟨?_,?_⟩,?_,?_,?_⟩
 ·have h3:(nd.kE L.length).keys=D++M.map (·.1):=by
   simp only[Nd.kE,hk]
   rw[bU (by omega),aQ (by omega),nR,dZ (by omega),hlen]
   simp
  rw[h3,<-nS,hD]
  simp
 ·simp only[Nd.kE,h2,dz,dG]
  rw[D7,nR]
  simp
  rw[aQ (by simp),dZ (by simp)]
  simp
 ·rw[hk,cK (by omega),hlen];simp
 ·rw[h2];simp
 ·rw[h2];simp
theorem Oi {σ σ2 σ3:dF}{h:Nat}{hi:Option ByteArray}{R:List (ByteArray×Int)}{j:Nat}{cs:List Pr}{bs:List Int}{L:List (ByteArray×Int)}{k1:ByteArray}{b1:Int}{k2:ByteArray}{b2:Int}{M:List (ByteArray×Int)}{cl ca cb cm:List Pr}{bl xa xb bm:List Int}{m1 m2 z:Nat}{A B:Nd}{ps:List Pc}{zs:List (ByteArray×Nd)}
  (hP:J4 σ h hi R j cs bs L k1 b1 k2 b2 M cl ca cb cm bl (b1::xa) (b2::xb) bm m1 m2 z) (okA:A.Ok) (okB:B.Ok) (fA:A.Fits) (fB:B.Fits) (nA:pO σ h k1 (some k2) A ca xa) (nB:pO σ h k2 (jl M hi) B cb xb) (kA:Kids h m1 A) (kB:Kids h m2 B) (na:ca≠[]) (nb:cb≠[]) (hk2:k2.size<=128)
  (hc:lM σ σ2 [b1,b2] []) (hcl:PG σ2) (hs:vS (eO A B k2) ⟨#[]⟩ zs) (hp:Puts σ2 ps zs σ3) (hn:bs.Nodup):
  ∃xs,dU (iL σ3 h 2) hi (L++kT k1 ps++M) cs (bl++(xs++bm))/\lM σ σ3 bs (bl++(xs++bm))/\ps≠[]/\(∀p∈ps,p.2.size<=128)/\ps.length<=510:=by
 obtain⟨hrow,hlen,hl,ha,hb,hm,rfl,rfl,h12⟩:=hP
 have hall:∀x∈bl++(b1::xa++(b2::xb++bm)),σ.hasB x=true:=by
  intro x hx
  simp only[bO] at hx
  rcases hx with hx|hx|hx|hx
  ·exact dU.has (fun _ _ _ _ _ ht=>iL.has ht) hl x hx
  ·exact ha.has x hx
  ·exact hb.has x hx
  ·exact dU.has (fun _ _ _ _ _ ht=>iL.has ht) hm x hx
 have hperm:(bl++(b1::xa++(b2::xb++bm))).Perm ([b1,b2]++(bl++((xa++xb)++bm))):=by
  have e1:(b1::xa++(b2::xb++bm)).Perm ([b1,b2]++((xa++xb)++bm)):=by
   show (b1::(xa++b2::(xb++bm))).Perm (b1::b2::((xa++xb)++bm))
   refine List.Perm.cons _ ?_
   rw[aN]
   exact List.perm_middle
  exact(Iz bl e1).trans (List.perm_append_comm_assoc _ _ _)
 have hn2:=hperm.nodup_iff.1 hn
 have hrest:∀x∈bl++((xa++xb)++bm),σ.hasB x=true:=fun x hx=>hall x (hperm.mem_iff.2 (dP _ hx))
 have c1:=hc.left hn2 hrest
 have hdis:∀x∈bl++((xa++xb)++bm),x∉[b1,b2]:=fun x hx hy=>(dX.1 hn2).2.2 x hy x hx rfl
 have mA:pO σ2 h k1 (some k2) A ca xa:=by
  cases h with
  |zero=>exact nA
  |succ h=>exact⟨nA.1,nA.2.keep hc fun x hx=>hdis x (by simp[hx])⟩
 have mB:pO σ2 h k2 (jl M hi) B cb xb:=by
  cases h with
  |zero=>exact nB
  |succ h=>exact⟨nB.1,nB.2.keep hc fun x hx=>hdis x (by simp[hx])⟩
 obtain⟨nJ,okJ,lJ,lJ2⟩:=Dz okA okB mA mB na nb hk2 fA fB
 have hn3:(bl++((xa++xb)++bm)).Nodup:=(dX.1 hn2).2.1
 have hn4:=hn3
 rw[<-aN] at hn4
 have hxx:(xa++xb).Nodup:=(dX.1 (dX.1 hn3).2.1).1
 have has2:∀x∈bl++((xa++xb)++bm),σ2.hasB x=true:=fun x hx=>(hc.frame x (hrest x hx) (.inl (hdis x hx))).1
 obtain⟨xs,q1,q2⟩:=wR hs (m:=2) okJ nJ hp hcl (aG 2) (by
  rcases kA with rfl|kA
  ·exact .inl rfl
  ·rcases kB with rfl|kB
   ·exact .inl rfl
   ·exact .inr (by rw[lJ];omega)) hxx (fun x hx=>has2 x (by simp only[bO] at hx ⊢;exact .inr (.inl hx)))
 have c2:=q2.mid (ls:=bl) (rs:=bm) hn4 (fun x hx=>has2 x (by simp[hx])) (fun x hx=>has2 x (by simp[hx]))
 have c12:=c1.trans (c2.perm (by rw[aN];exact jH _) (jH _))
 have hne:ps≠[]:=fun e=>by
  subst e
  have:=q1.1
  simp at this
  exact na this.1
 obtain⟨p,r,rfl⟩:=lW hne
 have hdl:∀x∈bl,x∉xa++xb:=fun x hx hy=>(dX.1 hn3).2.2 x hx x (dO _ hy) rfl
 have hdm:∀x∈bm,x∉xa++xb:=fun x hx hy=>(dX.1 (dX.1 hn3).2.1).2.2 x hy x hx rfl
 have hm3:dU (iL σ3 h 2) hi M cm bm:=(hm.keep hc fun x hx=>hdis x (by simp[hx])).keep q2 hdm
 have hl3:dU (iL σ3 h 2) (some k1) L cl bl:=(hl.keep hc fun x hx=>hdis x (by simp[hx])).keep q2 hdl
 refine⟨xs,?_,(c12.perm hperm.symm (by rw[aN])),by simp,?_,?_⟩
 ·have e1:=dU.append hm3 q1
  have e2:=dU.append e1 (l:=L) hl3
  rw[aN L,<-aN ca cb cm]
  exact e2
 ·exact hp.keys (hs.keys okJ (aX _))
 ·have e1:=hs.room okJ
  have e2:=hp.length.1
  have a1:=fA.np;have a2:=fB.np;have a3:=fA.nk;have a4:=fB.nk
  unfold Nd.room at e1
  rw[lJ2,lJ] at e1
  rw[e2]
  by_cases hk:(eO A B k2).kids=[]
  ·rw[if_pos hk] at e1;omega
  ·have h0:=okJ.one hk
   have h1:=congrArg List.length h0
   rw[lJ2] at h1
   simp only[aJ] at h1
   rw[if_neg hk] at e1;omega
theorem L8 (t nb:Nat)(nd:Nd)(i:Nat)(deep:Int)(w:World)(S:Nat->Prop)(hn:fT w S nb nd)(hs:nd.kids.length<2\/nd.kids.length<=i):
  Calls Tryz.prog 153 #[.pointer (some ⟨t,0,none⟩),.pointer (some ⟨nb,0,none⟩),.int .i64 i,.int .i64 deep] w fun e w'=>e= .returned (.tuple #[])/\w'=w:=by
 obtain⟨_,v0,v1,v2,hb,h0,h1,h2⟩:=hn
 obtain⟨c0,c1,c2,_,_,_,hlt⟩:=cells3 hb
 obtain⟨ao2,cp2,rfl,n2,m2,_,_⟩:=bJ.form h2
 by_cases h:nd.kids.length<2
 ·have x1:(nd.kids.length:Int)<2:=by omega
  go_enter Tryz.func153,Tryz.ntmps153
  go_wp2
  refine qH (Ag rfl _ _ _) rfl ?_
  exact⟨rfl,rfl⟩
 ·have x1:¬(nd.kids.length:Int)<2:=by omega
  have x2:(nd.kids.length:Int)<=(i:Int):=by omega
  have x3:nd.kids.length<=i:=by omega
  go_enter Tryz.func153,Tryz.ntmps153
  go_wp2
  refine qH (Ag rfl _ _ _) rfl ?_
  exact⟨rfl,rfl⟩
theorem xQ (l:List Int):∀u∈l.map (Value.int .i64),u.oneCell'=true:=by
 intro u hu
 obtain⟨p,_,rfl⟩:=dL.1 hu
 rfl
def SJ (t:Nat)(mp:VS)(nb pb po j n cp:Nat)(root err b1 b2:Int)(v0 v1:Value)(W:World):Prop:=
 dA W t mp root err/\W.heap[nb]? =some (.cells #[v0,v1,.slice (some ⟨pb,po,none⟩) n cp] 189 (0,0))/\W.cell? ⟨pb,po+j,none⟩=some (.int .i64 b1)/\W.cell? ⟨pb,po+(j+1),none⟩=some (.int .i64 b2)
theorem SJ.step {t:Nat}{mp:VS}{nb pb po j n cp:Nat}{root err b1 b2:Int}{v0 v1:Value}{W W':World}{S S':Nat->Prop}(h:SJ t mp nb pb po j n cp root err b1 b2 v0 v1 W)(hs:Step S S' W W')(h1:¬S t)(h2:¬S nb)(h3:¬S pb):SJ t mp nb pb po j n cp root err b1 b2 v0 v1 W':=by
 obtain⟨q1,q2,q3,q4⟩:=h
 have l3:=aD W _ q3
 exact⟨(q1.step h1 hs).1,(hs.1.block nb (aj.1 q2).1 h2).trans q2,(nE (w:=W) (a:=⟨pb,po+j,none⟩) (hs.1.block pb l3 h3)).trans q3,(nE (w:=W) (a:=⟨pb,po+(j+1),none⟩) (hs.1.block pb l3 h3)).trans q4⟩
theorem SJ.cells {t:Nat}{mp:VS}{nb pb po j n cp:Nat}{root err b1 b2:Int}{v0 v1:Value}{W:World}(h:SJ t mp nb pb po j n cp root err b1 b2 v0 v1 W):
  W.cell? ⟨t,0,none⟩=some (.iface 105 mp.agg)/\t<W.heap.size/\W.cell? ⟨nb,2,none⟩=some (.slice (some ⟨pb,po,none⟩) n cp)/\nb<W.heap.size/\W.cell? ⟨pb,po+j,none⟩=some (.int .i64 b1)/\W.cell? ⟨pb,po+(j+1),none⟩=some (.int .i64 b2)/\pb<W.heap.size:=by
 obtain⟨q1,q2,q3,q4⟩:=h
 obtain⟨c0,_,_,_,_,_,hl⟩:=cells3 q1
 obtain⟨_,_,c2,_,_,_,hl2⟩:=cells3 q2
 exact⟨c0,hl,c2,hl2,q3,q4,aD W _ q3⟩
theorem xR {W:World}{S:Nat->Prop}{b:Nat}{ps:List Pr}{ks':List ByteArray}{ns:List Int}{v0 v1 v2 v':Value}(hb:W.heap[b]? =some (.cells #[v0,v1,v2] 189 (0,0)))(hS:¬S b)(h0:oF W S v0 ps)(h2:jE W S v2 ns)(h0b:v0.ownBlock≠some b)(h2b:v2.ownBlock≠some b)(hv:iZ W S v' ks')(hvb:v'.ownBlock≠some b):fT (W.setCell ⟨b,1,none⟩ v') S b ⟨ps,ks',ns⟩:=by
 have hk:Keep (· =b) W (W.setCell ⟨b,1,none⟩ v'):=Keep.setCell (M:=(· =b)) (p:=⟨b,1,none⟩) (Keep.refl _ _) (.inr rfl) _
 refine⟨hS,v0,v',v2,by simp[World.setCell,bn,hb],bJ.keep h0 fun g hg hl hs=>⟨hk.block g hl (fun e=>h0b (by rw[hg,e])),hs⟩,bJ.keep hv fun g hg hl hs=>⟨hk.block g hl (fun e=>hvb (by rw[hg,e])),hs⟩,bJ.keep h2 fun g hg hl hs=>⟨hk.block g hl (fun e=>h2b (by rw[hg,e])),hs⟩⟩
theorem PX {W:World}{S:Nat->Prop}{b:Nat}{ao0 ao1 ao2:Option Addr}{x0 x1 x2 y0 y1 y2:Nat}{ks:List ByteArray}(hb:W.heap[b]? =some (.cells #[.slice ao0 x0 y0,.slice ao1 x1 y1,.slice ao2 x2 y2] 189 (0,0)))(h:iZ W S (.slice ao1 x1 y1) ks)(hk:0<ks.length):(Value.slice ao1 x1 y1).ownBlock≠some b:=by
 obtain⟨ao,c,e,_,_,_,_,_,h6⟩:=h
 cases e
 obtain⟨b',o,rfl,hc⟩:=h6 0 (.string ks[0]) (by simp[hk])
 intro e
 cases e
 rw[iX] at hc
 rcases o with _|_|_|o<;>simp[World.cell?,hb] at hc
def Pt (mp:VS)(σ:dF)(S:Nat->Prop)(nb:Nat)(nd A B:Nd)(k2:ByteArray)(b1 b2:Int)(j:Nat)(w:World)(e:Ending)(w':World):Prop:=
 (e= .returned (.tuple #[])/\∃σ' S' nd',Inv σ' S' mp w'/\fT w' S' nb nd'/\Keep (fun g=>S g\/g=nb) w w'/\(∀g,S' g->S g\/w.heap.size<=g)/\
  ((512<(eO A B k2).size/\A.kids.length≠1/\B.kids.length≠1/\σ'=σ/\nd'=nd)\/∃ps zs,vS (eO A B k2) ⟨#[]⟩ zs/\Puts ((σ.gone b1).gone b2) ps zs σ'/\nd'=(nd.kE j).ql j ps/\¬(512<(eO A B k2).size/\A.kids.length≠1/\B.kids.length≠1)))\/
  (((σ.gone b1).gone b2).most<((σ.gone b1).gone b2).sz+(eO A B k2).room/\Cg mp σ S w e w')
theorem Ol (t:Nat)(mp:VS)(root err:Int)(σ:dF)(S:Nat->Prop)(nb:Nat)(nd A B:Nd)(k2:ByteArray)(i j:Nat)(deep b1 b2:Int)(w:World)(h:Inv σ S mp w)(ht:dA w t mp root err)(hst:¬S t)(hn:fT w S nb nd)(h2:2<=nd.kids.length)(hi:i<nd.kids.length)(hj:j=min i (nd.kids.length - 2))(hk1:nd.kids[j]? =some b1)(hk2:nd.kids[j+1]? =some b2)(hkey:nd.keys[j]? =some k2)
  (hp:nd.pairs=[]) (hkk:nd.keys.length=nd.kids.length - 1) (hA:Cq σ b1 A) (hB:Cq σ b2 B) (hB2:(σ.gone b1).hasB b2=true) (okJ:(eO A B k2).Ok) (hd:deep<=40) (hl:nd.kids.length<=2000):
  Calls Tryz.prog 153 #[.pointer (some ⟨t,0,none⟩),.pointer (some ⟨nb,0,none⟩),.int .i64 i,.int .i64 deep] w (Pt mp σ S nb nd A B k2 b1 b2 j w):=by
 have hN:=hn
 obtain⟨hSb,v0,v1,v2,hb,h0,h1,h22⟩:=hn
 obtain⟨c0,c1,c2,_,_,_,hlt⟩:=cells3 hb
 obtain⟨ao2,cp2,rfl,n2,m2,_,_⟩:=bJ.form h22
 obtain⟨hj1,hj1'⟩:=dh.1 hk1
 obtain⟨hj2,hj2'⟩:=dh.1 hk2
 obtain⟨pb,po,rfl,d1⟩:=h22.at rfl j hj1
 obtain⟨_,_,e',d2⟩:=h22.at rfl (j+1) hj2
 cases e'
 rw[hj1'] at d1
 rw[hj2'] at d2
 have hpb:pb<w.heap.size:=aD w _ d1
 have hSp:¬S pb:=by
  obtain⟨_,_,e,_,_,_,_,h5,_⟩:=h22
  cases e
  exact(h5 _ rfl).2.2
 have hSJ:SJ t mp nb pb po j nd.kids.length cp2 root err b1 b2 v0 v1 w:=⟨ht,hb,d1,d2⟩
 have HSJ:=af hSJ
 have HK:=af hkey
 have HP:=af hp
 have HKK:=af hkk
 have HN:=af hN
 have HB2:=af hB2
 have HJ:=af hj
 have hj3:j+2<=nd.kids.length:=by omega
 have x4:min (i:Int) ((nd.kids.length:Int) - 2)=(j:Int):=by omega
 have HX4:=af x4
 have HD1:=af hk1
 have HD2:=af hk2
 clear hk1 hk2 hj1' hj2' hSJ hkey hp hkk hN hB2 hb d1 d2 hj hj1 hj2 c0 c1 x4
 have x1:¬(nd.kids.length:Int)<2:=by omega
 have x2:¬(nd.kids.length:Int)<=(i:Int):=by omega
 have x3:¬nd.kids.length<=i:=by omega
 go_enter Tryz.func153,Tryz.ntmps153
 go_upto_region 1 with fail
 go_cut [2] from 13 to 196 (fun x wx=>x= .int .i64 j/\w=wx)
 case first=>
  go_wp2_with fail
  all_goals
   go_meet
   refine⟨?_,rfl⟩
   have:=HX4.out
   congr 1<;>omega
 case rest=>
  obtain⟨rfl,rfl⟩:=hcut
  obtain⟨y0,y1,y2,y3,y4,y5,y6⟩:=HSJ.out.cells
  have HA:=af hA
  have HB:=af hB
  have hj4:(j:Int)+2<=(nd.kids.length:Int):=by omega
  have HI:=af h
  have HT:=af ht
  clear hA hB h ht c2
  go_wp2_with (first
   |(go_at_call 143;go_must ((refine(mZ t mp root err b1 deep σ S A w HI.out HT.out HA.out hd).mono ?_);rintro e w1 ⟨na,rfl,hnA,hb1⟩;refine Stop.of ?_)))
  refine Stop.on ?_
  have HI1:=af (HI.out.below hb1)
  obtain⟨y0,y1,y2,y3,y4,y5,y6⟩:=(HSJ.out.step (Step.of_below (S:=S) hb1) hst hSb hSp).cells
  go_wp2_with (first
   |(go_at_call 150;go_must ((refine(oh _).mono ?_);rintro e w2 ⟨rfl,hw⟩;subst w2))
   |(go_at_call 143;go_must ((refine(mZ t mp root err b2 deep σ S B w1 HI1.out ((HT.out).step hst (Step.of_below (S:=S) hb1)).1 HB.out hd).mono ?_);rintro e w2 ⟨nbb,rfl,hnB,hb2⟩;refine Stop.of ?_)))
  refine Stop.on ?_
  have hbw2:Below w.heap.size w w2:=hb1.trans (hb2.mono hb1.size)
  have HI2:=af (HI.out.below hbw2)
  have hsj2:=af (HSJ.out.step (Step.of_below (S:=S) hbw2) hst hSb hSp)
  have hA2:=hnA.jd.below hb2
  have hB2':=hnB.jd
  have HA2:=af hA2
  have HB2':=af hB2'
  obtain⟨hSA,a0,a1,a2,bA,A0,A1,A2⟩:=hA2
  obtain⟨hSB,g0,g1,g2,bB,B0,B1,B2⟩:=hB2'
  have hnaw:w.heap.size<=na:=hnA.2.1
  obtain⟨e0,e1,e2,_,_,_,lna⟩:=cells3 bA
  obtain⟨f0,f1,f2,_,_,_,lnb⟩:=cells3 bB
  clear y0 y1 y2 y3 y4 y5 y6 bA bB hnA hnB
  go_wp2_with (first
   |(go_at_call 150;go_must ((refine(oh _).mono ?_);rintro e w3 ⟨rfl,hw⟩;subst w3)))
  have hsub2:=HI2.out.sub
  have la:=HA.out.fits.np
  have lb:=HB.out.fits.np
  have ka:=HA.out.fits.nk
  have kb:=HB.out.fits.nk
  refine aS (fun W=>Below w2.heap.size w2 W) (fun i=> !([4,9,14,19,21].contains i)) [0,1,2,3,5,6,7,8,10,11,12,13,15,16,17,18,4,9,14,19,20,21,22] rfl (by kernel_rfl) ((aO _ w2).drew) ?_
  repeat ((refine bL (v:= ?_) rfl rfl (fun _ _ _ h=>h) rfl (fun W hW=> ?_) ?_);rotate_left;(focus ((try dsimp only at hW);have q0:=(hW.cell (p:=⟨na,0,none⟩) lna).trans e0;have q1:=(hW.cell (p:=⟨na,1,none⟩) lna).trans e1;have q2:=(hW.cell (p:=⟨na,2,none⟩) lna).trans e2;have q3:=(hW.cell (p:=⟨nbb,0,none⟩) lnb).trans f0;have q4:=(hW.cell (p:=⟨nbb,1,none⟩) lnb).trans f1;have q5:=(hW.cell (p:=⟨nbb,2,none⟩) lnb).trans f2;have q6:=ax lna hW.size;have q7:=ax lnb hW.size;first|(go_simp;first|done|with_reducible rfl)));(try simp only[Act.put,ah,au,ak]))
  have hbd:Below w2.heap.size w2 w2.drew:=(aO _ w2).drew
  have hC1:=CR a0 A.pairs.length (dK A.pairs) w2.drew S hsub2 (bJ.below A0 hbd) (Ak _) (by omega)
  have HC1:=af hC1;clear hC1
  refine dm rfl rfl rfl ?_;intro K hK;go_simp
  refine HC1.out.mono ?_;rintro e w3 ⟨u0,rfl,hu0,hb3⟩
  have hb23:Below w2.heap.size w2 w3:=hbd.trans hb3
  refine hK.out _ _ hb23 ?_
  (try simp only[Act.put,ah,au,ak])
  refine dm rfl rfl rfl ?_;intro K hK
  refine lZ (.tmp 71) (.tmp 75) 126 126 rfl S w2.heap.size 130 2 32 _ dH jZ rfl u0 A.pairs.length (dK A.pairs) rfl hu0 g0 B.pairs.length (dK B.pairs) rfl ((bJ.below B0 hb23).src dH (Ak _)) (fun g hg=>ax (hsub2 g hg) hb23.size) hb23.size (by unfold maxLen;omega) (by omega) ?_
  intro ao4 c4 w4 hown4 hk4 hb4 hd4
  have hb24:Below w2.heap.size w2 w4:=hb23.trans hb4
  refine hK.out _ _ hb24 ?_
  (try simp only[Act.put,ah,au,ak])
  have hC2:=sW a2 A.kids.length (A.kids.map (.int .i64)) w4 S (fun g hg=>ax (hsub2 g hg) hb24.size) (bJ.below A2 hb24) (xQ _) (by omega)
  have HC2:=af hC2;clear hC2
  refine dm rfl rfl rfl ?_;intro K hK;go_simp
  refine HC2.out.mono ?_;rintro e w5 ⟨u2,rfl,hu2,hb5⟩
  have hb25:Below w2.heap.size w2 w5:=hb24.trans (hb5.mono hb24.size)
  refine hK.out _ _ hb25 ?_
  (try simp only[Act.put,ah,au,ak])
  refine dm rfl rfl rfl ?_;intro K hK
  refine lZ (.tmp 81) (.tmp 85) 151 151 rfl S w2.heap.size 3 1 8 _ bG iF rfl u2 A.kids.length (A.kids.map (.int .i64)) rfl (hu2.base hb24.size) g2 B.kids.length (B.kids.map (.int .i64)) rfl ((bJ.below B2 hb25).src bG (xQ _)) (fun g hg=>ax (hsub2 g hg) hb25.size) hb25.size (by unfold maxLen;omega) (by omega) ?_
  intro ao6 c6 w6 hown6 hk6 hb6 hd6
  have hb26:Below w2.heap.size w2 w6:=hb25.trans hb6
  refine hK.out _ _ hb26 ?_
  (try simp only[Act.put,ah,au,ak])
  repeat ((refine bL (v:= ?_) rfl rfl (fun _ _ _ h=>h) rfl (fun W hW=> ?_) ?_);rotate_left;(focus ((try dsimp only at hW);have q0:=(hW.cell (p:=⟨na,0,none⟩) lna).trans e0;have q1:=(hW.cell (p:=⟨na,1,none⟩) lna).trans e1;have q2:=(hW.cell (p:=⟨na,2,none⟩) lna).trans e2;have q3:=(hW.cell (p:=⟨nbb,0,none⟩) lnb).trans f0;have q4:=(hW.cell (p:=⟨nbb,1,none⟩) lnb).trans f1;have q5:=(hW.cell (p:=⟨nbb,2,none⟩) lnb).trans f2;have q6:=ax lna hW.size;have q7:=ax lnb hW.size;first|(go_simp;first|done|with_reducible rfl)));(try simp only[Act.put,ah,au,ak]))
  refine dm rfl rfl rfl ?_;intro K hK;go_simp
  have hb7:=aK w6 (.cells #[.slice ao4 (A.pairs.length+B.pairs.length) c4,.slice none 0 0,.slice ao6 (A.kids.length+B.kids.length) c6] 189)
  have hb27:Below w2.heap.size w2 (w6.alloc (.cells #[.slice ao4 (A.pairs.length+B.pairs.length) c4,.slice none 0 0,.slice ao6 (A.kids.length+B.kids.length) c6] 189)):=hb26.trans (hb7.mono hb26.size)
  refine hK.out _ _ hb27 ?_
  (try simp only[Act.put,ah,au,ak])
  repeat ((refine bL (v:= ?_) rfl rfl (fun _ _ _ h=>h) rfl (fun W hW=> ?_) ?_);rotate_left;(focus ((try dsimp only at hW);have q0:=(hW.cell (p:=⟨na,0,none⟩) lna).trans e0;have q1:=(hW.cell (p:=⟨na,1,none⟩) lna).trans e1;have q2:=(hW.cell (p:=⟨na,2,none⟩) lna).trans e2;have q3:=(hW.cell (p:=⟨nbb,0,none⟩) lnb).trans f0;have q4:=(hW.cell (p:=⟨nbb,1,none⟩) lnb).trans f1;have q5:=(hW.cell (p:=⟨nbb,2,none⟩) lnb).trans f2;have q6:=ax lna hW.size;have q7:=ax lnb hW.size;first|(go_simp;first|done|with_reducible rfl)));(try simp only[Act.put,ah,au,ak]))
  refine bR ?_
  have hcn:fT (w6.alloc (.cells #[.slice ao4 (A.pairs.length+B.pairs.length) c4,.slice none 0 0,.slice ao6 (A.kids.length+B.kids.length) c6] 189)) S w6.heap.size ⟨A.pairs++B.pairs,[],A.kids++B.kids⟩:=by
   refine⟨fun hs=>absurd (hsub2 _ hs) (bM.2 hb26.size),_,_,_,aP w6 _,?_,bJ.nil _ _ _,?_⟩
   ·have q1:=(hown4.below (hb5)).keep (w':=w6) (S':=S) (fun g hg hl hs=>⟨hk6.block g hl (fun e=>aT.Fg (hown4.below hb5) (hu2.base hb24.size) (by decide) g hg e),hs⟩)
    have:=(q1.below hb7).dI
    unfold oF
    rw[ay,mD]
    exact this
   ·have:=(hown6.below hb7).dI
    unfold jE
    rw[ay,dz]
    exact this
  have hnc:w2.heap.size<=w6.heap.size:=hb26.size
  have hbC:(w6.alloc (.cells #[.slice ao4 (A.pairs.length+B.pairs.length) c4,.slice none 0 0,.slice ao6 (A.kids.length+B.kids.length) c6] 189)).heap[w6.heap.size]? =some (.cells #[.slice ao4 (A.pairs.length+B.pairs.length) c4,.slice none 0 0,.slice ao6 (A.kids.length+B.kids.length) c6] 189 (0,0)):=aP w6 _
  have hz0:(Value.slice ao4 (A.pairs.length+B.pairs.length) c4).ownBlock≠some w6.heap.size:=hown4.lt' (aH hb5.size hb6.size)
  have hz2:(Value.slice ao6 (A.kids.length+B.kids.length) c6).ownBlock≠some w6.heap.size:=hown6.lt' (aG _)
  obtain⟨_,_,_,_,hbC',hP7,_,hI7⟩:=id hcn
  rw[hbC] at hbC'
  cases hbC'
  clear hown4 hown6 hu0 hu2 hb3 hb4 hb5 hb6 hb7 hk4 hk6 hd4 hd6 hb23 hb24 hb25 hb26 hbd HC1 HC2
  generalize (w6.alloc (.cells #[.slice ao4 (A.pairs.length+B.pairs.length) c4,.slice none 0 0,.slice ao6 (A.kids.length+B.kids.length) c6] 189))=w7 at hcn hb27 hbC hP7 hI7 ⊢
  generalize w6.heap.size=nc at hcn hnc hbC hz0 hz2 ⊢
  clear K hK
  have hHA7:=HA2.out.below hb27
  go_upto_if 91 with (first
   |(go_at_call 144;go_must ((refine(jm na A _ S hHA7).mono ?_);rintro e w8 ⟨rfl,hw⟩;subst w8)))
  go_cut [] from 13 to 196 (fun wx=>fT wx S nc (eO A B k2)/\Below w2.heap.size w2 wx)
  case first=>
   by_cases hAk:A.kids=[]
   ·have hke:A.kids.isEmpty=true:=by rw[hAk];rfl
    have HAk:=af hAk;clear hAk
    rw[hke]
    go_wp2_with fail
    go_meet
    refine⟨?_,hb27⟩
    have:eO A B k2=⟨A.pairs++B.pairs,[],A.kids++B.kids⟩:=by unfold eO;rw[if_pos HAk.out]
    rw[this]
    exact hcn
   ·as_aux_lemma=>
     have hke:A.kids.isEmpty=false:=by cases hq:A.kids with|nil=>exact absurd hq hAk|cons a b=>rfl
     have hJe:eO A B k2=⟨A.pairs++B.pairs,A.keys++[k2]++B.keys,A.kids++B.kids⟩:=by unfold eO;rw[if_neg hAk]
     have HAk:=af hAk;clear hAk
     rw[hke]
     go_wp2_with fail
     have hcN:=hcn
     have bC:=hbC
     obtain⟨_,nc1,_,_,_,_,lnc⟩:=cells3 bC
     have hN7:=HN.out.below (hbw2.trans (hb27.mono hbw2.size))
     obtain⟨_,nv0,nv1,nv2,bN,_,hn1,_⟩:=hN7
     obtain⟨_,n1,_,_,_,_,lnn⟩:=cells3 bN
     obtain⟨kao,kcp,rfl,km0,km1,_,_⟩:=bJ.form hn1
     obtain⟨kb0,ko0,rfl,nk1⟩:=bJ.yD hn1 rfl j (.string k2) (by rw[di,HK.out];rfl)
     have lkk:=aD w7 _ nk1
     have hkj:(j:Int)<(nd.keys.length:Int):=by have:=HKK.out;omega
     have hbd:Below w7.heap.size w7 w7.drew:=(aO _ w7).drew
     have hsub7:∀g,S g->g<w7.heap.size:=fun g hg=>ax (hsub2 g hg) hb27.size
     have lak:A.keys.length<=1000000:=by have:=HA.out.fits.kk;omega
     have lbk:B.keys.length<=1000000:=by have:=HB.out.fits.kk;omega
     have e1:=(hb27.cell (p:=⟨na,1,none⟩) lna).trans e1
     have f1:=(hb27.cell (p:=⟨nbb,1,none⟩) lnb).trans f1
     have lna:=ax lna hb27.size
     have lnb:=ax lnb hb27.size
     have hC3:=sV a1 A.keys.length (A.keys.map .string) w7.drew S hsub7 (bJ.below (bJ.below A1 hb27) hbd) (og _) lak
     have HC3:=af hC3;clear hC3
     refine nU (fun W=>Below w7.heap.size w7 W) (fun i=> !([5,13,14,19,22].contains i)) [0,1,2,3,4,6,7,8,9,10,11,12,15,16,17,18] 5 13 [13,14,19,20,21,22] [5,14,19,20,21,22] rfl (by kernel_rfl) hbd ?_
     repeat ((refine Ez (v:= ?_) rfl rfl (fun _ _ _ h=>h) rfl (fun W hW=> ?_) ?_);rotate_left;(focus ((try dsimp only at hW);have q0:=(hW.cell (p:=⟨na,1,none⟩) lna).trans e1;have q1:=(hW.cell (p:=⟨nbb,1,none⟩) lnb).trans f1;have q2:=ax lna hW.size;have q3:=ax lnb hW.size;have q4:=(hW.cell (p:=⟨nb,1,none⟩) lnn).trans n1;have q5:=ax lnn hW.size;have q6:=(hW.cell (p:=⟨kb0,ko0+j,none⟩) lkk).trans nk1;have q7:=ax lkk hW.size;have q8:=(hW.cell (p:=⟨nc,1,none⟩) lnc).trans nc1;have q9:=ax lnc hW.size;first|(go_simp;first|done|with_reducible rfl)));(try simp only[Act.put,ah,au,ak]))
     refine xP (yt rfl rfl rfl rfl ?_ ?_)
     ·skip
      intro K hK;go_simp
      refine HC3.out.mono ?_;rintro e w9 ⟨u1,rfl,hu1,hb9⟩
      have hb79:Below w7.heap.size w7 w9:=hbd.trans hb9
      refine hK.out _ _ hb79 ?_
      (try simp only[Act.put,ah,au,ak])
      refine dm rfl rfl rfl ?_;intro K hK;go_simp
      have hb10:=aK w9 (.cells #[.string k2] 9)
      have hb710:Below w7.heap.size w7 (w9.alloc (.cells #[.string k2] 9)):=hb79.trans (hb10.mono hb79.size)
      refine hK.out _ _ hb710 ?_
      (try simp only[Act.put,ah,au,ak])
      have hown:=(hu1.below hb10)
      have hsrc:Src Tryz.prog 1 22 (.slice (some ⟨w9.heap.size,0,none⟩) 1 1) 1 [.string k2] (w9.alloc (.cells #[.string k2] 9)):=iq (w:=w9) [.string k2] 9 1 1 1 rfl aY rfl (by intro u hu;rw[bK.1 hu];rfl)
      generalize w9.alloc (.cells #[.string k2] 9)=w10 at hb710 hown hsrc ⊢
      generalize w9.heap.size=kb9 at hsrc ⊢
      refine dm rfl rfl rfl ?_;intro K hK
      refine lZ (.tmp 97) (.tmp 105) 22 22 rfl S w7.heap.size 9 1 16 _ aY gD rfl u1 A.keys.length (A.keys.map .string) rfl hown (.slice (some ⟨kb9,0,none⟩) 1 1) 1 [.string k2] rfl hsrc (fun g hg=>ax (hsub7 g hg) hb710.size) hb710.size (by unfold maxLen;omega) (by omega) ?_
      intro ao11 c11 w11 hown11 hk11 hb11 hd11
      have hb711:Below w7.heap.size w7 w11:=hb710.trans hb11
      refine hK.out _ _ hb711 ?_
      (try simp only[Act.put,ah,au,ak])
      refine dm rfl rfl rfl ?_;intro K hK
      refine lZ (.tmp 106) (.tmp 110) 22 22 rfl S w7.heap.size 9 1 16 _ aY gD rfl (.slice ao11 (A.keys.length+1) c11) (A.keys.length+1) _ rfl hown11 g1 B.keys.length (B.keys.map .string) rfl ((bJ.below (bJ.below B1 hb27) hb711).src aY (og _)) (fun g hg=>ax (hsub7 g hg) hb711.size) hb711.size (by unfold maxLen;omega) (by omega) ?_
      intro ao12 c12 w12 hown12 hk12 hb12 hd12
      have hb712:Below w7.heap.size w7 w12:=hb711.trans hb12
      refine hK.out _ _ hb712 ?_
      (try simp only[Act.put,ah,au,ak])
      repeat ((refine bL (v:= ?_) rfl rfl (fun _ _ _ h=>h) rfl (fun W hW=> ?_) ?_);rotate_left;(focus ((try dsimp only at hW);have q0:=(hW.cell (p:=⟨na,1,none⟩) lna).trans e1;have q1:=(hW.cell (p:=⟨nbb,1,none⟩) lnb).trans f1;have q2:=ax lna hW.size;have q3:=ax lnb hW.size;have q4:=(hW.cell (p:=⟨nb,1,none⟩) lnn).trans n1;have q5:=ax lnn hW.size;have q6:=(hW.cell (p:=⟨kb0,ko0+j,none⟩) lkk).trans nk1;have q7:=ax lkk hW.size;have q8:=(hW.cell (p:=⟨nc,1,none⟩) lnc).trans nc1;have q9:=ax lnc hW.size;first|(go_simp;first|done|with_reducible rfl)));(try simp only[Act.put,ah,au,ak]))
      have hnc12:=(hb712.block nc lnc).trans bC
      obtain⟨_,m1,_,_,mf,_,lm⟩:=cells3 hnc12
      refine jk rfl rfl rfl (by kernel_rfl) ?_;intro K hK;go_simp
      refine hK.out _ _ ?_
      refine bR ?_
      go_wp2_with fail
      go_meet
      refine⟨?_,hb27.trans ((hb712.mono hb27.size).setCell hnc _)⟩
      rw[hJe]
      exact xR hnc12 (fun hs=>absurd (hsub2 _ hs) (bM.2 hnc)) (bJ.below hP7 hb712) (bJ.below hI7 hb712) hz0 hz2 (by
       have:=hown12.dI
       rw[show A.keys.map Value.string++[Value.string k2]++B.keys.map Value.string=(A.keys++[k2]++B.keys).map Value.string from by simp] at this
       unfold iZ
       rw[show (A.keys++[k2]++B.keys).length=A.keys.length+1+B.keys.length from by rw[ay,ay,lY]]
       exact this) (hown12.ne hnc12 (by decide))
     ·skip
      intro K hK;go_simp
      have hb79:Below w7.heap.size w7 (w7.alloc (.cells #[.string k2] 9)).drew:=(aK w7 (.cells #[.string k2] 9)).drew
      refine hK.out _ _ hb79 ?_
      (try simp only[Act.put,ah,au,ak])
      have hown0:=(mO (w:=w7) (S:=S) (B:=w7.heap.size) (e:=9) (k:=1) [.string k2] 1 1 rfl rfl (aG _) (by simp[maxLen]) (aG _) hsub7).drew
      generalize (w7.alloc (.cells #[.string k2] 9)).drew=w9 at hb79 hown0 ⊢
      have hC4:=sV a1 A.keys.length (A.keys.map .string) w9 S (fun g hg=>ax (hsub7 g hg) hb79.size) (bJ.below (bJ.below A1 hb27) hb79) (og _) lak
      have HC4:=af hC4;clear hC4
      refine dm rfl rfl rfl ?_;intro K hK;go_simp
      refine HC4.out.mono ?_;rintro e w10 ⟨u1,rfl,hu1,hb10⟩
      have hb710:Below w7.heap.size w7 w10:=hb79.trans (hb10.mono hb79.size)
      refine hK.out _ _ hb710 ?_
      (try simp only[Act.put,ah,au,ak])
      have hown:=hu1.base (B:=w7.heap.size) hb79.size
      have hsrc:Src Tryz.prog 1 22 (.slice (some ⟨w7.heap.size,0,none⟩) 1 1) 1 [.string k2] w10:=(hown0.below hb10).dI.src aY (by intro u hu;rw[bK.1 hu];rfl)
      refine dm rfl rfl rfl ?_;intro K hK
      refine lZ (.tmp 97) (.tmp 105) 22 22 rfl S w7.heap.size 9 1 16 _ aY gD rfl u1 A.keys.length (A.keys.map .string) rfl hown (.slice (some ⟨w7.heap.size,0,none⟩) 1 1) 1 [.string k2] rfl hsrc (fun g hg=>ax (hsub7 g hg) hb710.size) hb710.size (by unfold maxLen;omega) (by omega) ?_
      intro ao11 c11 w11 hown11 hk11 hb11 hd11
      have hb711:Below w7.heap.size w7 w11:=hb710.trans hb11
      refine hK.out _ _ hb711 ?_
      (try simp only[Act.put,ah,au,ak])
      refine dm rfl rfl rfl ?_;intro K hK
      refine lZ (.tmp 106) (.tmp 110) 22 22 rfl S w7.heap.size 9 1 16 _ aY gD rfl (.slice ao11 (A.keys.length+1) c11) (A.keys.length+1) _ rfl hown11 g1 B.keys.length (B.keys.map .string) rfl ((bJ.below (bJ.below B1 hb27) hb711).src aY (og _)) (fun g hg=>ax (hsub7 g hg) hb711.size) hb711.size (by unfold maxLen;omega) (by omega) ?_
      intro ao12 c12 w12 hown12 hk12 hb12 hd12
      have hb712:Below w7.heap.size w7 w12:=hb711.trans hb12
      refine hK.out _ _ hb712 ?_
      (try simp only[Act.put,ah,au,ak])
      repeat ((refine bL (v:= ?_) rfl rfl (fun _ _ _ h=>h) rfl (fun W hW=> ?_) ?_);rotate_left;(focus ((try dsimp only at hW);have q0:=(hW.cell (p:=⟨na,1,none⟩) lna).trans e1;have q1:=(hW.cell (p:=⟨nbb,1,none⟩) lnb).trans f1;have q2:=ax lna hW.size;have q3:=ax lnb hW.size;have q4:=(hW.cell (p:=⟨nb,1,none⟩) lnn).trans n1;have q5:=ax lnn hW.size;have q6:=(hW.cell (p:=⟨kb0,ko0+j,none⟩) lkk).trans nk1;have q7:=ax lkk hW.size;have q8:=(hW.cell (p:=⟨nc,1,none⟩) lnc).trans nc1;have q9:=ax lnc hW.size;first|(go_simp;first|done|with_reducible rfl)));(try simp only[Act.put,ah,au,ak]))
      have hnc12:=(hb712.block nc lnc).trans bC
      obtain⟨_,m1,_,_,mf,_,lm⟩:=cells3 hnc12
      refine jk rfl rfl rfl (by kernel_rfl) ?_;intro K hK;go_simp
      refine hK.out _ _ ?_
      refine bR ?_
      go_wp2_with fail
      go_meet
      refine⟨?_,hb27.trans ((hb712.mono hb27.size).setCell hnc _)⟩
      rw[hJe]
      exact xR hnc12 (fun hs=>absurd (hsub2 _ hs) (bM.2 hnc)) (bJ.below hP7 hb712) (bJ.below hI7 hb712) hz0 hz2 (by
       have:=hown12.dI
       rw[show A.keys.map Value.string++[Value.string k2]++B.keys.map Value.string=(A.keys++[k2]++B.keys).map Value.string from by simp] at this
       unfold iZ
       rw[show (A.keys++[k2]++B.keys).length=A.keys.length+1+B.keys.length from by rw[ay,ay,lY]]
       exact this) (hown12.ne hnc12 (by decide))
  case rest=>
   as_aux_lemma=>
    obtain⟨wb,rfl⟩:∃x:World,x=wc:=⟨_,rfl⟩
    obtain⟨hcJ,hb2c⟩:=hcut
    obtain⟨aA,cA,rfl,_,_,_,_⟩:=bJ.form A2
    obtain⟨aB,cB,rfl,_,_,_,_⟩:=bJ.form B2
    have e2:=(hb2c.cell (p:=⟨na,2,none⟩) lna).trans e2
    have f2:=(hb2c.cell (p:=⟨nbb,2,none⟩) lnb).trans f2
    have lna:=ax lna hb2c.size
    have lnb:=ax lnb hb2c.size
    have hJs:=okJ.size_le
    go_upto_region 9 with fail
    go_cut [132] from 13 to 196 (fun x wx=>x= .bool (decide (512<(eO A B k2).size/\A.kids.length≠1/\B.kids.length≠1))/\Below wb.heap.size wb wx)
    case first=>
     by_cases t1:512<(eO A B k2).size
     ·have s1:(512:Int)<((eO A B k2).size:Int):=by omega
      have T1:=af t1;clear t1
      by_cases t2:A.kids.length=1
      ·have s2:(A.kids.length:Int)=1:=by omega
       have T2:=af t2;clear t2
       go_wp2_with (first
        |(go_at_call 183;go_must ((refine(nW nc _ _ S hcJ hJs).mono ?_);rintro e w8 ⟨rfl,hb8⟩;have e3:=(hb8.cell (p:=⟨na,2,none⟩) lna).trans e2;have f3:=(hb8.cell (p:=⟨nbb,2,none⟩) lnb).trans f2;have lna3:=ax lna hb8.size;have lnb3:=ax lnb hb8.size;clear e2 f2)))
       go_meet
       exact⟨by rw[aZ (fun h=>h.2.1 T2.out)],hb8⟩
      ·have s2:¬(A.kids.length:Int)=1:=by omega
       have s2':((A.kids.length:Int)==1)=false:=by rw[cu];omega
       have T2:=af t2;clear t2
       by_cases t3:B.kids.length=1
       ·have s3:(B.kids.length:Int)=1:=by omega
        have T3:=af t3;clear t3
        go_wp2_with (first
         |(go_at_call 183;go_must ((refine(nW nc _ _ S hcJ hJs).mono ?_);rintro e w8 ⟨rfl,hb8⟩;have e3:=(hb8.cell (p:=⟨na,2,none⟩) lna).trans e2;have f3:=(hb8.cell (p:=⟨nbb,2,none⟩) lnb).trans f2;have lna3:=ax lna hb8.size;have lnb3:=ax lnb hb8.size;clear e2 f2)))
        go_meet
        exact⟨by rw[aZ (fun h=>h.2.2 T3.out)],hb8⟩
       ·have s3:¬(B.kids.length:Int)=1:=by omega
        have s3':((B.kids.length:Int)==1)=false:=by rw[cu];omega
        have T3:=af t3;clear t3
        go_wp2_with (first
         |(go_at_call 183;go_must ((refine(nW nc _ _ S hcJ hJs).mono ?_);rintro e w8 ⟨rfl,hb8⟩;have e3:=(hb8.cell (p:=⟨na,2,none⟩) lna).trans e2;have f3:=(hb8.cell (p:=⟨nbb,2,none⟩) lnb).trans f2;have lna3:=ax lna hb8.size;have lnb3:=ax lnb hb8.size;clear e2 f2)))
        go_meet
        exact⟨by rw[bZ ⟨T1.out,T2.out,T3.out⟩];have q2:=T2.out;have q3:=T3.out;congr 1;rw[dx];constructor<;>rw[bne_iff_ne]<;>omega,hb8⟩
     ·have s1:¬(512:Int)<((eO A B k2).size:Int):=by omega
      have T1:=af t1;clear t1
      go_wp2_with (first
       |(go_at_call 183;go_must ((refine(nW nc _ _ S hcJ hJs).mono ?_);rintro e w8 ⟨rfl,hb8⟩;clear e2 f2)))
      go_meet
      exact⟨by rw[aZ (fun h=>T1.out h.1)],hb8⟩
    case rest=>
     obtain⟨rfl,hbcd⟩:=hcut
     have hbw:Below w.heap.size w wc:=(hbw2.trans (hb2c.mono hbw2.size)).trans (hbcd.mono (aH hbw2.size hb2c.size))
     have hcJ':=hcJ.below hbcd
     have hIc:=HI.out.below hbw
     have hTc:=(HT.out).step hst (Step.of_below (S:=S) hbw)
     have hNc:=HN.out.below hbw
     have hSJc:=HSJ.out.step (Step.of_below (S:=S) hbw) hst hSb hSp
     clear hb2c hbcd hcJ e2 f2 lna lnb hb27 hP7 hI7 hcn hbC hz0 hz2 hHA7 hb1 hb2 HI1 HI2 hsj2 e0 e1 f0 f1 A0 A1 B0 B1
     by_cases hout:512<(eO A B k2).size/\A.kids.length≠1/\B.kids.length≠1
     ·have ho:decide (512<(eO A B k2).size/\A.kids.length≠1/\B.kids.length≠1)=true:=bZ hout
      rw[ho]
      have HO:=af hout;clear hout ho
      go_wp2_with fail
      refine qH (Ag rfl _ _ _) rfl ?_
      exact .inl ⟨rfl,σ,S,nd,hIc,hNc,Keep.of_below hbw _,fun g hg=> .inl hg,.inl ⟨HO.out.1,HO.out.2.1,HO.out.2.2,rfl,rfl⟩⟩
     ·have ho:decide (512<(eO A B k2).size/\A.kids.length≠1/\B.kids.length≠1)=false:=aZ hout
      rw[ho]
      have HNO:=af hout
      clear hout ho
      have hf1:=rH mp σ S wc.drew b1 (hIc.below ((aO _ wc).drew)) HA.out.lo HA.out.has
      have HF1:=af hf1;clear hf1
      have hm:∀w,(method 475 105 mp.agg "Free").run Tryz.prog w= .ok (285,.pointer (some ⟨mp.mp,0,none⟩)) w:=fun _=>by kernel_rfl
      obtain⟨q0,q1,q2,q3,q4,q5,q6⟩:=hSJc.cells
      clear q0 q1 q2 q3 q4 q5 q6
      have hj5:(j:Int)<(nd.kids.length:Int):=by omega
      have hj6:(j:Int)+1<(nd.kids.length:Int):=by omega
      go_wp2_with fail
      refine aS (fun W=>SJ t mp nb pb po j nd.kids.length cp2 root err b1 b2 v0 v1 W) (fun i=> !([13,14].contains i)) [0,1,2,3,4,5,6,7,8,9,10,11,12,13,14] rfl (by kernel_rfl) hSJc ?_
      repeat ((refine bL (v:= ?_) rfl rfl (fun _ _ _ h=>h) rfl (fun W hW=> ?_) ?_);rotate_left;(focus ((try dsimp only at hW);obtain⟨q0,q1,q2,q3,q4,q5,q6⟩:=hW.cells;first|(go_simp;first|done|with_reducible rfl)));(try simp only[Act.put,ah,au,ak]))
      refine dm rfl rfl rfl ?_;intro K hK;go_simp
      refine HF1.out.mono ?_;rintro e w3 ⟨rfl,hI3,hs3⟩
      have hs3:Step S S wc w3:=(Step.of_below ((aO _ wc).drew)).trans hs3
      have hSJ3:=hSJc.step hs3 hst hSb hSp
      refine hK.out _ _ hSJ3 ?_
      (try simp only[Act.put,ah,au,ak])
      refine dm rfl rfl rfl ?_;intro K hK;go_simp
      refine(oh _).mono ?_;rintro e w4 ⟨rfl,hw⟩;subst w4
      refine hK.out _ _ hSJ3 ?_
      refine bR ?_
      have hf2:=rH mp (σ.gone b1) S w3.drew b2 (hI3.below ((aO _ w3).drew)) HB.out.lo HB2.out
      have HF2:=af hf2;clear hf2
      have hpw:IntKind.i64.wrap ((j:Int)+1)=(j:Int)+1:=aM _ (by omega)
      have hpt:((j:Int)+1).toNat=j+1:=by omega
      have hp0:(0:Int)<=(j:Int)+1:=by omega
      go_wp2_with fail
      refine aS (fun W=>SJ t mp nb pb po j nd.kids.length cp2 root err b1 b2 v0 v1 W) (fun i=> !([14,15].contains i)) [0,1,2,3,4,5,6,7,8,9,10,11,12,13,14,15] rfl (by kernel_rfl) hSJ3 ?_
      repeat ((refine bL (v:= ?_) rfl rfl (fun _ _ _ h=>h) rfl (fun W hW=> ?_) ?_);rotate_left;(focus ((try dsimp only at hW);obtain⟨q0,q1,q2,q3,q4,q5,q6⟩:=hW.cells;first|(go_simp;first|done|with_reducible rfl)));(try simp only[Act.put,ah,au,ak]))
      refine dm rfl rfl rfl ?_;intro K hK;go_simp
      refine HF2.out.mono ?_;rintro e w4 ⟨rfl,hI4,hs4⟩
      have hs4:Step S S w3 w4:=(Step.of_below ((aO _ w3).drew)).trans hs4
      have hSJ4:=hSJ3.step hs4 hst hSb hSp
      refine hK.out _ _ hSJ4 ?_
      (try simp only[Act.put,ah,au,ak])
      refine dm rfl rfl rfl ?_;intro K hK;go_simp
      refine(oh _).mono ?_;rintro e w5 ⟨rfl,hw⟩;subst w5
      refine hK.out _ _ hSJ4 ?_
      refine bR ?_
      clear hpw hpt hp0
      have hs14:Step S S wc w4:=hs3.trans hs4
      have hT4:=hTc.1.step hTc.2 hs14
      have hJ4:=hcJ'.step hs14
      have hN4:=hNc.step hs14
      have hst4:Step S S w w4:=(Step.of_below hbw).trans hs14
      clear hSJc hSJ3 hSJ4 hIc hTc hNc hI3 hs3 hs4 hcJ'
      go_wp2_with (first
       |(go_at_call 149;go_must ((refine(qj t mp root err _ ((σ.gone b1).gone b2) S nc (eO A B k2) ⟨#[]⟩ w4 hI4 hT4.1 hT4.2 hJ4 okJ (gV _)).mono ?_);rintro e w5 (⟨v,ps,zs,σ',S',rfl,hown,hspr,hputs,hI5,hs5⟩|⟨hno,rfl,τ,Sτ,g1,g2,g3,g4⟩)<;>refine Stop.of ?_)))
      rotate_left
      ·refine Stop.on ?_
       exact⟨rfl,.inr ⟨hno,rfl,τ,Sτ,g1,hst4.trans g2,g3,g4⟩⟩
      refine Stop.on ?_
      have hst5:Step S S' w w5:=hst4.trans hs5
      obtain⟨hSb5,n0,n1,n2,bN,N0,N1,N2⟩:=HN.out.step hst5
      obtain⟨ao0,cp0,rfl,_,_,_,_⟩:=bJ.form N0
      obtain⟨ao1,cp1,rfl,_,_,_,_⟩:=bJ.form N1
      obtain⟨ao2,cp2',rfl,_,_,_,_⟩:=bJ.form N2
      have hkpos:0<nd.keys.length:=by have:=HKK.out;omega
      have hkl:nd.keys.length<=1000000:=by have:=HKK.out;omega
      have hjk:j<nd.keys.length:=by have:=HKK.out;omega
      have hne1:=PX bN N1 hkpos
      obtain⟨_,_,y2,_,_,_,ly⟩:=cells3 bN
      have hC5:=sW (.slice ao2 nd.kids.length cp2') nd.kids.length (nd.kids.map (.int .i64)) w5 S' hI5.sub N2 (xQ _) (by omega)
      have HC5:=af hC5;clear hC5
      have hpw:IntKind.i64.wrap ((j:Int)+1)=(j:Int)+1:=aM _ (by omega)
      have hpw2:IntKind.i64.wrap ((j:Int)+2)=(j:Int)+2:=aM _ (by omega)
      go_wp2_with (first
       |(go_at_call 189;go_must (refine HC5.out.mono ?_;rintro e w6 ⟨u1,rfl,hu1,hb6⟩;refine Stop.of ?_)))
      refine Stop.on ?_
      obtain⟨g6,c6',rfl,_,_,hg6,_⟩:=hu1.BG (by omega)
      have hD6:=JQ g6 c6' nd.kids.length (j+1) (nd.kids.map (.int .i64)) w6 S' w5.heap.size hu1 (xQ _) (by omega) (by omega)
      rw[show ((j+1:Nat):Int)=(j:Int)+1 from by omega,show (j:Int)+1+1=(j:Int)+2 from by omega] at hD6
      have HD6:=af hD6;clear hD6
      go_wp2_with (first
       |(go_at_call 192;go_must (refine HD6.out.mono ?_;rintro e w7 ⟨c7,rfl,hu7,hk7⟩;refine Stop.of ?_)))
      refine Stop.on ?_
      have hgb:nb≠g6:=fun e=>by rw[<-e] at hg6;exact absurd ly (bM.2 hg6)
      have ly6:=ax ly hb6.size
      have bN7:w7.heap[nb]? =some (.cells #[.slice ao0 nd.pairs.length cp0,.slice ao1 nd.keys.length cp1,.slice ao2 nd.kids.length cp2'] 189 (0,0)):=(hk7.block nb ly6 hgb).trans ((hb6.block nb ly).trans bN)
      have hb57:Below w5.heap.size w5 w7:=hb6.trans (hk7.iH hb6.size (fun i hi e=>absurd hg6 (fI.2 (by rw[<-e];exact hi))))
      obtain⟨_,_,z2,_,_,zf,lz⟩:=cells3 bN7
      clear y2
      go_upto_region 14 with fail
      have hk8:Keep (· =nb) w7 (w7.setCell ⟨nb,2,none⟩ (.slice (some ⟨g6,0,none⟩) (nd.kids.length - 1) c7)):=Keep.setCell (M:=(· =nb)) (p:=⟨nb,2,none⟩) (Keep.refl _ _) (.inr rfl) _
      have bN8:(w7.setCell ⟨nb,2,none⟩ (.slice (some ⟨g6,0,none⟩) (nd.kids.length - 1) c7)).heap[nb]? =some (.cells #[.slice ao0 nd.pairs.length cp0,.slice ao1 nd.keys.length cp1,.slice (some ⟨g6,0,none⟩) (nd.kids.length - 1) c7] 189 (0,0)):=by
       simp[World.setCell,bn,bN7]
      clear z2 zf lz
      generalize w7.setCell ⟨nb,2,none⟩ (.slice (some ⟨g6,0,none⟩) (nd.kids.length - 1) c7)=w8 at hk8 bN8 ⊢
      have N18:iZ w8 S' (.slice ao1 nd.keys.length cp1) nd.keys:=bJ.keep (bJ.below N1 hb57) fun g hg hl hs=>⟨hk8.block g hl (fun e=>hne1 (by rw[hg,e])),hs⟩
      have hu8:=hu7.keep (w':=w8) (S':=S') fun g hg hl hs=>⟨hk8.block g hl (fun e=>hu7.ne bN7 (by decide) (by rw[hg,e])),hs⟩
      have hbw8:∀g,g<w5.heap.size->g≠nb->w8.heap[g]? =w5.heap[g]? :=fun g hg hn=>(hk8.block g (ax hg hb57.size) hn).trans (hb57.block g hg)
      have hsz8:w5.heap.size<=w8.heap.size:=aH hb57.size hk8.size
      have hsub8:∀g,S' g->g<w8.heap.size:=fun g hg=>ax (hI5.sub g hg) hsz8
      obtain⟨_,y1,_,_,_,_,ly8⟩:=cells3 bN8
      have hC8:=sV (.slice ao1 nd.keys.length cp1) nd.keys.length (nd.keys.map .string) w8 S' hsub8 N18 (og _) hkl
      have HC8:=af hC8;clear hC8
      go_wp2_with (first
       |(go_at_call 191;go_must (refine HC8.out.mono ?_;rintro e w9 ⟨u2,rfl,hu9,hb9⟩;refine Stop.of ?_)))
      refine Stop.on ?_
      obtain⟨g9,c9,rfl,_,_,hg9,_⟩:=hu9.BG hkpos
      have hD9:=JP g9 c9 nd.keys.length j (nd.keys.map .string) w9 S' w8.heap.size hu9 (og _) hjk hkl
      have HD9:=af hD9;clear hD9
      go_wp2_with (first
       |(go_at_call 193;go_must (refine HD9.out.mono ?_;rintro e w10 ⟨c10,rfl,hu10,hk10⟩;refine Stop.of ?_)))
      refine Stop.on ?_
      have hgb9:nb≠g9:=fun e=>by rw[<-e] at hg9;exact absurd ly8 (bM.2 hg9)
      have bN10:w10.heap[nb]? =some (.cells #[.slice ao0 nd.pairs.length cp0,.slice ao1 nd.keys.length cp1,.slice (some ⟨g6,0,none⟩) (nd.kids.length - 1) c7] 189 (0,0)):=(hk10.block nb (ax ly8 hb9.size) hgb9).trans ((hb9.block nb ly8).trans bN8)
      have hb810:Below w8.heap.size w8 w10:=hb9.trans (hk10.iH hb9.size (fun i hi e=>absurd hg9 (fI.2 (by rw[<-e];exact hi))))
      obtain⟨_,z1,_,_,zf,_,lz⟩:=cells3 bN10
      clear y1
      go_upto_region 15 with fail
      have hk11:Keep (· =nb) w10 (w10.setCell ⟨nb,1,none⟩ (.slice (some ⟨g9,0,none⟩) (nd.keys.length - 1) c10)):=Keep.setCell (M:=(· =nb)) (p:=⟨nb,1,none⟩) (Keep.refl _ _) (.inr rfl) _
      have bN11:(w10.setCell ⟨nb,1,none⟩ (.slice (some ⟨g9,0,none⟩) (nd.keys.length - 1) c10)).heap[nb]? =some (.cells #[.slice ao0 nd.pairs.length cp0,.slice (some ⟨g9,0,none⟩) (nd.keys.length - 1) c10,.slice (some ⟨g6,0,none⟩) (nd.kids.length - 1) c7] 189 (0,0)):=by
       simp[World.setCell,bn,bN10]
      clear z1 zf lz
      generalize w10.setCell ⟨nb,1,none⟩ (.slice (some ⟨g9,0,none⟩) (nd.keys.length - 1) c10)=w11 at hk11 bN11 ⊢
      have hu11:=hu10.keep (w':=w11) (S':=S') fun g hg hl hs=>⟨hk11.block g hl (fun e=>hu10.ne bN10 (by decide) (by rw[hg,e])),hs⟩
      have hu811:=(hu8.below hb810).keep (w':=w11) (S':=S') fun g hg hl hs=>⟨hk11.block g hl (fun e=>(hu8.below hb810).ne bN10 (by decide) (by rw[hg,e])),hs⟩
      have hsz11:w5.heap.size<=w11.heap.size:=aH hsz8 (aH hb810.size hk11.size)
      have hbw11:∀g,g<w5.heap.size->g≠nb->w11.heap[g]? =w5.heap[g]? :=fun g hg hn=>(hk11.block g (ax hg (aH hsz8 hb810.size)) hn).trans ((hb810.block g (ax hg hsz8)).trans (hbw8 g hg hn))
      have hkeep:Keep (· =nb) w5 w11:=⟨hk11.os.trans (hb810.os.trans (hk8.os.trans hb57.os)),hk11.tape.trans (hb810.tape.trans (hk8.tape.trans hb57.tape)),hk11.output.trans (hb810.output.trans (hk8.output.trans hb57.output)),hsz11,fun g hg hn=>hbw11 g hg hn⟩
      have hlenk:(nd.kE j).kids.length=nd.kids.length - 1:=by simp[Nd.kE];omega
      have hlenks:(nd.kE j).keys.length=nd.keys.length - 1:=by simp[Nd.kE];omega
      have hN11:fT w11 S' nb (nd.kE j):=by
       refine⟨hSb5,_,_,_,bN11,?_,?_,?_⟩
       ·have e:(nd.kE j).pairs=[]:=HP.out
        rw[e]
        have N0':=N0
        unfold oF at N0' ⊢
        rw[HP.out] at N0' ⊢
        exact bJ.empty N0' hsz11
       ·have:=hu11.dI
        unfold iZ
        rw[hlenks]
        have e:(nd.kE j).keys.map Value.string=(nd.keys.map Value.string).take (j*1)++(nd.keys.map Value.string).drop ((j+1)*1):=by simp[Nd.kE,gK,gu]
        rw[e];exact this
       ·have:=hu811.dI
        unfold jE
        rw[hlenk]
        have e:(nd.kE j).kids.map (Value.int .i64)=(nd.kids.map (Value.int .i64)).take ((j+1)*1)++(nd.kids.map (Value.int .i64)).drop ((j+1+1)*1):=by simp[Nd.kE,gK,gu]
        rw[e];exact this
      have hown11:=hown.keep (w':=w11) (S':=S') fun g hg hl hs=>⟨hkeep.block g hl (fun e=>hown.ne bN (by decide) (by rw[hg,e])),hs⟩
      have hI11:=hI5.mH hkeep (fun g hg e=>hSb5 (by rw[<-e];exact hg))
      have hpl:ps.length<=100000:=by
       have e1:=hputs.length.1
       have e2:=hspr.room okJ
       have e3:=room_le okJ
       omega
      have hR:=zI nb (nd.kE j) v ps j w11 S' hI11.sub hN11 HP.out hown11.dI (by rw[hlenk];omega) (by rw[hlenk,hlenks,HKK.out]) (by rw[hlenk];omega) hpl
      have HRp:=af hR;clear hR
      have HSP:=af hspr;clear hspr
      have HPU:=af hputs;clear hputs
      go_wp2_with (first
       |(go_at_call 152;go_must (refine HRp.out.mono ?_;rintro e w12 ⟨rfl,hN12,hk12⟩)))
      go_end0
      refine .inl ⟨rfl,σ',S',_,hI11.mH hk12 (fun g hg e=>hSb5 (by rw[<-e];exact hg)),hN12,?_,hst5.2,.inr ⟨ps,zs,HSP.out,HPU.out,rfl,HNO.out⟩⟩
      exact((hst5.1.mono (fun _ _ h=> .inl h)).trans hkeep (fun _ _ h=> .inr h)).trans hk12 (fun _ _ h=> .inr h)
end Go.Proofs.YtpgdljlghiifjaaGreatDoor
