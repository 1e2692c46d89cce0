/- parts -/
import Derived.Test.YtbfjgkafmlbpcaaGreatDoorT19
import Derived.Test.YtbfjgkafmlbpcaaGreatDoorT20
import Derived.Deep.CutRange
import Derived.Deep.CutBlock
set_option maxRecDepth 100000
set_option maxHeartbeats 8000000
set_option linter.all false
namespace Go.Proofs.YtbfjgkafmlbpcaaGreatDoor
open Go.RowKit
def kK (lo:ByteArray):List Pc->List (ByteArray×Int)
 |[]=>[]
 |p::r=>(lo,p.1)::r.map fun q=>(q.2,q.1)
theorem wS (lo:ByteArray)(ps:List Pc):(kK lo ps).length=ps.length:=by cases ps<;>simp[kK]
theorem wT (lo:ByteArray)(ps:List Pc)(q:Pc)(qs:List Pc)(hp:ps≠[]):kK lo (ps++q::qs)=kK lo ps++kK q.2 (q::qs):=by
 cases ps with
 |nil=>exact absurd rfl hp
 |cons p r=>simp[kK]
theorem uO.head {nd:Nd}{l:ByteArray}{zs:List (ByteArray×Nd)}(h:uO nd l zs)(ok:nd.Ok)(hne:nd.kids≠[]\/nd.pairs≠[]):∃z r,zs=z::r/\z.1=leastOf nd l:=by
 induction h with
 |none h1 h2=>rcases hne with h|h;exact absurd h1 h;exact absurd h2 h
 |@one nd l h1 h2=>exact⟨_,_,rfl,rfl⟩
 |@leaf nd l i hi A B hk hs hi1 _ _ _ iha ihb=>
  have hp:nd.pairs.take i≠[]:=fun e=>by have:=congrArg List.length e;simp only[aC,bI] at this;omega
  obtain⟨z,r,rfl,hz⟩:=iha (ok.left i hk) (.inr hp)
  refine⟨z,r++B,rfl,hz.trans ?_⟩
  unfold leastOf
  rw[hk]
  cases hq:nd.pairs with
  |nil=>rw[hq] at hi;simp at hi
  |cons p ps=>
   obtain⟨i,rfl⟩:∃d,i=d+1:=⟨i - 1,by omega⟩
   rfl
 |@inner nd l i hi A B hk hs hi1 _ _ iha ihb=>
  have h5:=(ok.big hs).2 hk
  have hp:nd.kids.take i≠[]:=fun e=>by have:=congrArg List.length e;simp only[aC,bI] at this;omega
  obtain⟨z,r,rfl,hz⟩:=iha (ok.CV i (by omega)) (.inl hp)
  refine⟨z,r++B,rfl,hz.trans ?_⟩
  unfold leastOf
  cases hq:nd.kids with
  |nil=>exact absurd hq hk
  |cons k ks=>
   obtain⟨i,rfl⟩:∃d,i=d+1:=⟨i - 1,by omega⟩
   rfl
theorem Puts.split:∀{A:List (ByteArray×Nd)} {σ σ':bY} {ps:List Pc} {B:List (ByteArray×Nd)},Puts σ ps (A++B) σ'->∃ps1 ps2 σ1,ps=ps1++ps2/\Puts σ ps1 A σ1/\Puts σ1 ps2 B σ'
 |[],σ,σ',ps,B,h=>⟨[],ps,σ,rfl,rfl,h⟩
 |z::A,σ,σ',ps,B,h=>by
  cases ps with
  |nil=>exact absurd h id
  |cons p ps=>
   obtain⟨τ,h1,h2,h3⟩:=h
   obtain⟨ps1,ps2,σ1,rfl,g1,g2⟩:=Puts.split h3
   exact⟨p::ps1,ps2,σ1,rfl,⟨τ,h1,h2,g1⟩,g2⟩
theorem Puts.BJ:∀{zs:List (ByteArray×Nd)} {σ σ':bY} {ps:List Pc},Puts σ ps zs σ'->Oq σ->lS σ σ' [] (ps.map (·.1))
 |[],σ,σ',ps,h,_=>by
  cases ps with
  |nil=>cases h;exact lS.refl (by simp)
  |cons p ps=>exact absurd h id
 |z::zs,σ,σ',ps,h,hc=>by
  cases ps with
  |nil=>exact absurd h id
  |cons p ps=>
   obtain⟨τ,h1,h2,h3⟩:=h
   have c1:=K3 h2 hc
   have c2:=(Puts.BJ h3 (c1.KZ hc)).left (rs:=[p.1]) (by simp) (fun x hx=>by rw[bK.1 hx];exact h2.blk.has)
   exact c1.trans (c2.perm (kr _) (gX (l₁:=ps.map (·.1)) (l₂:=[p.1])))
theorem iw.keep {σ σ':bY}{us bs':List Int}(hc:lS σ σ' us bs'){h m:Nat}{lo:ByteArray}{hi:Option ByteArray}{b:Int}{cs:List Pr}{bs:List Int}(ht:iw σ h m lo hi b cs bs)(hd:∀x∈bs,x∉us):iw σ' h m lo hi b cs bs:=
 ht.move fun x hx=>hc.frame x (ht.has x hx) (.inl (hd x hx))
theorem dm.keep {σ σ':bY}{us bs':List Int}(hc:lS σ σ' us bs'){h m:Nat}{hi:Option ByteArray}{l:List (ByteArray×Int)}{cs:List Pr}{bs:List Int}(ht:dm (iw σ h m) hi l cs bs)(hd:∀x∈bs,x∉us):dm (iw σ' h m) hi l cs bs:=
 ht.change fun _ _ _ _ _ hx ht=>ht.keep hc fun y hy=>hd y (hx y hy)
theorem uG {σ σ':bY}{ps:List Pc}{z:ByteArray×Nd}{r:List (ByteArray×Nd)}(h:Puts σ ps (z::r) σ'):∃q qs,ps=q::qs/\q.2=z.1:=by
 cases ps with
 |nil=>exact absurd h id
 |cons q qs=>obtain⟨_,h1,_⟩:=h;exact⟨q,qs,rfl,h1⟩
theorem uO.O7 {nd:Nd}{l:ByteArray}{zs:List (ByteArray×Nd)}(h:uO nd l zs):∀{σ σ':bY} {ps:List Pc} {lo:ByteArray} {hi:Option ByteArray},nd.Ok->nd.kids=[]->iG nd.pairs->(∀p∈nd.pairs,Within lo hi p.1)->Puts σ ps zs σ'->Oq σ->∀m,dm (iw σ' 0 m) hi (kK lo ps) nd.pairs (ps.map (·.1)):=by
 induction h with
 |@none nd l h1 h2=>
  intro σ σ' ps lo hi ok hk hr hw hp hc m
  cases ps with
  |nil=>rw[h2];exact⟨rfl,rfl⟩
  |cons p ps=>exact absurd hp id
 |@one nd l h1 h2=>
  intro σ σ' ps lo hi ok hk hr hw hp hc m
  cases ps with
  |nil=>exact absurd hp id
  |cons p ps=>
   cases ps with
   |cons _ _=>obtain⟨_,_,_,x⟩:=hp;exact absurd x id
   |nil=>
    obtain⟨τ,h3,h4,rfl⟩:=hp
    exact⟨nd.pairs,[],[p.1],[],⟨nd,h4.blk,ok,hk,rfl,h1.resolve_left (fun x=>x hk),hr,hw,rfl⟩,⟨rfl,rfl⟩,by simp,rfl⟩
 |@leaf nd l i hi A B hk hs hi1 _ sa sb iha ihb=>
  intro σ σ' ps lo hib ok _ hr hw hp hc m
  obtain⟨ps1,ps2,σ1,rfl,g1,g2⟩:=hp.split
  have okA:=ok.left i hk
  have okB:=ok.right i hk
  have neA:nd.pairs.take i≠[]:=fun e=>by have:=congrArg List.length e;simp only[aC,bI] at this;omega
  have neB:nd.pairs.drop i≠[]:=fun e=>by have:=congrArg List.length e;simp only[aJ,bI] at this;omega
  obtain⟨za,ra,rfl,_⟩:=sa.head okA (.inr neA)
  obtain⟨zb,rb,rfl,hzb⟩:=sb.head okB (.inr neB)
  obtain⟨q1,qs1,rfl,_⟩:=uG g1
  obtain⟨q,qs,rfl,hq⟩:=uG g2
  have hk2:q.2=nd.pairs[i].1:=by
   rw[hq,hzb]
   show leastOf _ _=_
   unfold leastOf
   rw[cO hi]
   rfl
  have hri:∀j (hj:j<nd.pairs.length),j<i->lt nd.pairs[j].1 nd.pairs[i].1=true:=fun j hj hji=>jK.1 hr j i hj hi hji
  have c2:=g2.BJ ((g1.BJ hc).KZ hc)
  have ra':=iha (lo:=lo) (hi:=some nd.pairs[i].1) okA rfl (hr.sublist (List.take_sublist _ _)) (fun p hp=>by
   obtain⟨j,hj,rfl⟩:=iM hp
   simp only[aC] at hj
   refine⟨?_,fun y hy=> ?_⟩
   ·have:=(hw _ (fo hp)).1
    exact this
   ·cases hy
    rw[rZ]
    exact hri j (by omega) (by omega)) g1 hc m
  have rb':=ihb (lo:=nd.pairs[i].1) (hi:=hib) okB rfl (hr.sublist (List.drop_sublist _ _)) (fun p hp=>by
   obtain⟨j,hj,e⟩:=iM hp
   refine⟨?_,(hw p (bU hp)).2⟩
   rw[BH] at e
   rw[<-e]
   cases j with
   |zero=>exact lt_irrefl _
   |succ j=>
    exact lt_asymm (jK.1 hr i (i+(j+1)) hi (by simp only[aJ] at hj;omega) (by omega))) g2 ((g1.BJ hc).KZ hc) m
  rw[wT _ _ _ _ (by simp),hk2,bX]
  have ra2:dm (iw σ' 0 m) (iY (kK nd.pairs[i].1 (q::qs)) hib) (kK lo (q1::qs1)) (nd.pairs.take i) ((q1::qs1).map (·.1)):=ra'.keep c2 (by simp)
  have:=dm.append rb' ra2
  rw[show Nd.pairs ⟨nd.pairs.drop i,[],[]⟩=nd.pairs.drop i from rfl,bJ] at this
  exact this
 |@inner nd l i hi A B hk hs hi1 sa sb iha ihb=>
  intro σ σ' ps lo hi ok hk2
  exact absurd hk2 hk
theorem MF (nd:Nd)(lo:ByteArray)(i:Nat)(hi:1<=i):Nd.row ⟨[],nd.keys.take (i - 1),nd.kids.take i⟩ lo=(nd.row lo).take i:=by
 obtain⟨i,rfl⟩:∃d,i=d+1:=⟨i - 1,by omega⟩
 unfold Nd.row
 rw[xS,xS,List.take_zipWith]
 rfl
theorem MG (nd:Nd)(lo:ByteArray)(i:Nat)(hi:i - 1<nd.keys.length)(h1:1<=i):Nd.row ⟨[],nd.keys.drop i,nd.kids.drop i⟩ nd.keys[i - 1]=(nd.row lo).drop i:=by
 obtain⟨i,rfl⟩:∃d,i=d+1:=⟨i - 1,by omega⟩
 unfold Nd.row
 rw[xS,xS,List.drop_zipWith,eZ]
 simp only[zo] at hi ⊢
 rw[cO hi]
theorem uO.Np {nd:Nd}{l:ByteArray}{zs:List (ByteArray×Nd)}(h:uO nd l zs):∀{σ σ':bY} {ps:List Pc} {lo:ByteArray} {hi:Option ByteArray} {h m:Nat} {cs:List Pr} {bs:List Int},nd.Ok->nd.kids≠[]->dm (iw σ h 2) hi (nd.row lo) cs bs->Puts σ ps zs σ'->Oq σ->m<=2->m<=nd.kids.length->
  ∃bs',dm (iw σ' (h+1) m) hi (kK lo ps) cs bs'/\bs'.Perm (ps.map (·.1)++bs):=by
 induction h with
 |@none nd l h1 h2=>intro σ σ' ps lo hi h m cs bs ok hk;exact absurd h1 hk
 |@one nd l h1 h2=>
  intro σ σ' ps lo hi h m cs bs ok hk hr hp hc hm hm2
  have hc2:=hp.BJ hc
  cases ps with
  |nil=>exact absurd hp id
  |cons p ps=>
   cases ps with
   |cons _ _=>obtain⟨_,_,_,x⟩:=hp;exact absurd x id
   |nil=>
    obtain⟨τ,h3,h4,rfl⟩:=hp
    exact⟨p.1::bs,⟨cs,[],p.1::bs,[],⟨nd,bs,h4.blk,ok,hk,hm2,rfl,hr.keep hc2 (by simp)⟩,⟨rfl,rfl⟩,by simp,by simp⟩,kr _⟩
 |@leaf nd l i hi A B hk hs hi1 _ sa sb iha ihb=>intro σ σ' ps lo hi h m cs bs ok hk2;exact absurd hk hk2
 |@inner nd l i hi A B hk hs hi1 sa sb iha ihb=>
  intro σ σ' ps lo hib h m cs bs ok _ hr hp hc hm hm2
  have h5:=(ok.big hs).2 hk
  obtain⟨ps1,ps2,σ1,rfl,g1,g2⟩:=hp.split
  have okA:=ok.CV i (by omega)
  have okB:=ok.yw i
  have neA:nd.kids.take i≠[]:=fun e=>by have:=congrArg List.length e;simp only[aC,bI] at this;omega
  have neB:nd.kids.drop i≠[]:=fun e=>by have:=congrArg List.length e;simp only[aJ,bI] at this;omega
  obtain⟨za,ra,rfl,_⟩:=sa.head okA (.inl neA)
  obtain⟨zb,rb,rfl,hzb⟩:=sb.head okB (.inl neB)
  obtain⟨q1,qs1,rfl,_⟩:=uG g1
  obtain⟨q,qs,rfl,hq⟩:=uG g2
  have hk2:q.2=nd.keys[i - 1]:=by
   rw[hq,hzb]
   show leastOf _ _=_
   have:leastOf ⟨[],nd.keys.drop i,nd.kids.drop i⟩ nd.keys[i - 1]=nd.keys[i - 1]:=by
    unfold leastOf
    cases hq:nd.kids.drop i with
    |nil=>exact absurd hq neB
    |cons a r=>rfl
   rw[this,this]
  have c1:=g1.BJ hc
  have c2:=g2.BJ (c1.KZ hc)
  have er:nd.row lo=(nd.row lo).take i++(nd.row lo).drop i:=(bJ _ _).symm
  rw[er] at hr
  obtain⟨cl,cm,bl,bm,r1,r2,rfl,rfl⟩:=hr.split
  rw[<-MG nd lo i hi (by omega)] at r1 r2
  rw[<-MF nd lo i (by omega)] at r1
  have hnl:∀z,iY (Nd.row ⟨[],nd.keys.drop i,nd.kids.drop i⟩ nd.keys[i - 1]) z=some nd.keys[i - 1]:=by
   intro z
   unfold Nd.row
   cases hq:nd.kids.drop i with
   |nil=>exact absurd hq neB
   |cons a r=>rfl
  rw[hnl] at r1
  obtain⟨bs1,x1,y1⟩:=iha (m:=m) okA neA r1 g1 hc hm (by simp only[aC];omega)
  obtain⟨bs2,x2,y2⟩:=ihb (m:=m) okB neB (r2.keep c1 (by simp)) g2 (c1.KZ hc) hm (by simp only[aJ];omega)
  rw[wT _ _ _ _ (by simp),hk2,bX]
  refine⟨bs1++bs2,dm.append x2 (l:=kK lo (q1::qs1)) (x1.keep c2 (by simp)),?_⟩
  refine(y1.append y2).trans ?_
  generalize (q1::qs1).map (·.1)=A at*
  generalize (q::qs).map (·.1)=B at*
  have:(A++bl++(B++bm)).Perm (A++B++(bl++bm)):=by
   rw[aL,aL]
   refine GA A ?_
   rw[<-aL,<-aL]
   exact List.Perm.append_right bm gX
  exact this
def oK (σ:bY)(h:Nat)(lo:ByteArray)(hi:Option ByteArray)(nd:Nd)(cs:List Pr)(bs:List Int):Prop:=
 match h with
 |0=>nd.kids=[]/\nd.pairs=cs/\iG cs/\(∀p∈cs,Within lo hi p.1)/\bs=[]
 |h+1=>nd.kids≠[]/\dm (iw σ h 2) hi (nd.row lo) cs bs
def Kids (h m:Nat)(nd:Nd):Prop:=h=0\/m<=nd.kids.length
theorem qX {σ:bY}{h m:Nat}{lo:ByteArray}{hi:Option ByteArray}{b:Int}{cs:List Pr}{bs:List Int}:iw σ h m lo hi b cs bs↔∃nd bs',BK σ b nd/\nd.Ok/\oK σ h lo hi nd cs bs'/\Kids h m nd/\cs≠[]/\bs=b::bs':=by
 cases h with
 |zero=>
  constructor
  ·rintro⟨nd,h1,h2,h3,h4,h5,h6,h7,h8⟩
   exact⟨nd,[],h1,h2,⟨h3,h4.symm,h6,h7,rfl⟩,.inl rfl,h5,h8⟩
  ·rintro⟨nd,bs',h1,h2,⟨h3,h4,h5,h6,rfl⟩,_,h7,h8⟩
   exact⟨nd,h1,h2,h3,h4.symm,h7,h5,h6,h8⟩
 |succ h=>
  constructor
  ·intro ht
   have hc:=ht.content.ne
   obtain⟨nd,bs',h1,h2,h3,h4,h5,h6⟩:=ht
   exact⟨nd,bs',h1,h2,⟨h3,h6⟩,.inr h4,hc,h5⟩
  ·rintro⟨nd,bs',h1,h2,⟨h3,h6⟩,h4,_,h5⟩
   exact⟨nd,bs',h1,h2,h3,h4.resolve_left (by omega),h5,h6⟩
theorem vM {nd:Nd}{l:ByteArray}{zs:List (ByteArray×Nd)}(hs:uO nd l zs){σ σ':bY}{ps:List Pc}{lo:ByteArray}{hi:Option ByteArray}{h m:Nat}{cs:List Pr}{bs:List Int}(ok:nd.Ok)(hr:oK σ h lo hi nd cs bs)(hp:Puts σ ps zs σ')(hc:Oq σ)(hm:m<=2)(hk:Kids h m nd)(hn:bs.Nodup)(hb:∀x∈bs,σ.hasB x=true):
  ∃bs',dm (iw σ' h m) hi (kK lo ps) cs bs'/\lS σ σ' bs bs':=by
 have c:=hp.BJ hc
 cases h with
 |zero=>
  obtain⟨h1,rfl,h3,h4,rfl⟩:=hr
  exact⟨_,hs.O7 ok h1 h3 h4 hp hc m,c⟩
 |succ h=>
  obtain⟨h1,h2⟩:=hr
  obtain⟨bs',x,y⟩:=hs.Np ok h1 h2 hp hc hm (hk.resolve_left (by omega))
  exact⟨bs',x,(c.left (rs:=bs) (by simpa using hn) hb).perm (by simp) y.symm⟩
def kT (nd:Nd)(lo:ByteArray)(R:List (ByteArray×Int)):Prop:=lo::nd.keys=R.map (·.1)/\nd.kids=R.map (·.2)
theorem kT.row {nd:Nd}{lo:ByteArray}{R:List (ByteArray×Int)}(h:kT nd lo R):nd.row lo=R:=by
 unfold Nd.row
 rw[h.1,h.2,List.zip_map']
 simp
theorem rowOf {nd:Nd}(ok:nd.Ok)(hk:nd.kids≠[])(lo:ByteArray):kT nd lo (nd.row lo):=by
 obtain⟨b,l,e,e2,e3⟩:=o8 ok.kk hk lo
 unfold Nd.row
 rw[e]
 exact⟨by simp[e2],by simp[e3]⟩
theorem kT.len {nd:Nd}{lo:ByteArray}{R:List (ByteArray×Int)}(h:kT nd lo R):nd.kids.length=R.length/\nd.keys.length+1=R.length:=by
 have h1:=congrArg List.length h.1
 have h2:=congrArg List.length h.2
 simp at h1 h2
 omega
theorem kT.ne {nd:Nd}{lo:ByteArray}{R:List (ByteArray×Int)}(h:kT nd lo R):R≠[]:=fun e=>by
 have:=h.len;subst e;simp at this
def Jk (lo:ByteArray):List (ByteArray×Int)->List (ByteArray×Int)
 |[]=>[]
 |(_,b)::r=>(lo,b)::r
theorem CB (k:ByteArray)(ps:List Pc):(kK k ps).map (·.1)=kS k ps:=by cases ps<;>simp[kK,kS]
theorem Cz (k:ByteArray)(ps:List Pc):(kK k ps).map (·.2)=ps.map (·.1):=by cases ps<;>simp[kK]
theorem vN {nd:Nd}{lo k:ByteArray}{b:Int}{L M:List (ByteArray×Int)}{ps:List Pc}(h:kT nd lo (L++(k,b)::M))(hne:L≠[]\/ps≠[]):kT (nd.pG L.length ps) lo (L++kK k ps++M):=by
 obtain⟨h1,h2⟩:=h
 constructor
 ·cases L with
  |nil=>
   simp only[fM,cu,lT] at h1
   obtain⟨rfl,h1⟩:=h1
   cases ps with
   |nil=>simp at hne
   |cons p r=>
    simp only[Nd.pG,fV,h1,bI,gP,fM,kS,jQ,eZ,eP,kK,cu,bX,Ev,lT,true_and]
    rfl
  |cons l L=>
   simp only[jQ,cu,lT,bX] at h1
   obtain⟨rfl,h1⟩:=h1
   have hg:(fV nd).getD (L.length+1) ⟨#[]⟩=k:=by
    simp[fV,h1,fF]
   simp only[Nd.pG,aY,hg]
   simp only[fV,h1,gV,jQ,eZ,eP,cu,bX,CB]
   congr 1
   rw[bD (by simp),aG (by simp),o7]
   simp
 ·simp only[Nd.pG,h2,bX,cu,Cz]
  rw[bD (by simp),aG (by simp)]
  congr 1
  rw[o7]
  simp
theorem E5 {nd:Nd}{lo k:ByteArray}{b:Int}{M:List (ByteArray×Int)}(h:kT nd lo ((k,b)::M))(hM:M≠[]):kT (nd.pG 0 []) lo (Jk lo M):=by
 obtain⟨h1,h2⟩:=h
 simp only[cu,lT] at h1
 obtain⟨rfl,h1⟩:=h1
 cases M with
 |nil=>exact absurd rfl hM
 |cons m M=>
  constructor
  ·simp[Nd.pG,fV,h1,kS,Jk]
  ·simp[Nd.pG,h2,Jk]
theorem Cw {key:ByteArray}:∀{k:ByteArray} {b:Int} {r:List (ByteArray×Int)},lt key k=false->∃L k' b' M,(k,b)::r=L++(k',b')::M/\L.length=gT (r.map (·.1)) key/\lt key k'=false/\∀k2 b2 M2,M=(k2,b2)::M2->lt key k2=true
 |k,b,[],hk=>⟨[],k,b,[],rfl,rfl,hk,fun _ _ _ h=>by cases h⟩
 |k,b,(k1,b1)::r,hk=>by
  cases h1:lt key k1 with
  |true=>exact⟨[],k,b,(k1,b1)::r,rfl,by simp[gT,h1],hk,fun _ _ _ h=>by cases h;exact h1⟩
  |false=>
   obtain⟨L,k',b',M,e,e2,e3,e4⟩:=Cw (b:=b1) (r:=r) h1
   exact⟨(k,b)::L,k',b',M,by rw[e];rfl,by simp[gT,h1,e2],e3,e4⟩
structure Ll (F:List Pr->List Pr)(key:ByteArray):Prop where
 loc:∀cl c cr,(∀p∈cl,lt p.1 key=true)->(∀p∈cr,lt key p.1=true)->F (cl++c++cr)=cl++F c++cr
 rise:∀c,iG c->iG (F c)
 mem:∀c,iG c->∀p∈F c,p∈c\/(p.1=key/\p.1.size<=128/\p.2.size<=64)
 len:∀c,(F c).length<=c.length+1
 size:∀c,dO (F c)<=dO c+194
theorem Ay (cl r:List Pr)(key:ByteArray)(h:∀p∈cl,lt p.1 key=true):dw (cl++r) key=cl.length+dw r key:=by
 unfold dw
 rw[List.takeWhile_append_of_pos h,av]
theorem sQ (c cr:List Pr)(key:ByteArray)(h:∀p∈cr,lt key p.1=true):dw (c++cr) key=dw c key:=by
 induction c with
 |nil=>
  cases cr with
  |nil=>rfl
  |cons p r=>simp[dw,lt_asymm (h p (by simp))]
 |cons p c ih=>
  unfold dw at*
  rw[jQ,List.takeWhile_cons,List.takeWhile_cons]
  split
  ·simp[ih]
  ·rfl
theorem Az (cl c cr:List Pr)(key:ByteArray)(h1:∀p∈cl,lt p.1 key=true)(h2:∀p∈cr,lt key p.1=true):dw (cl++c++cr) key=cl.length+dw c key:=by
 rw[aL,Ay _ _ _ h1,sQ _ _ _ h2]
theorem KL (cl c cr:List Pr)(key:ByteArray)(h1:∀p∈cl,lt p.1 key=true)(h2:∀p∈cr,lt key p.1=true):ou (cl++c++cr) key=ou c key:=by
 unfold ou
 rw[Az cl c cr key h1 h2,aL,bV (by omega),dH]
 by_cases hc:dw c key<c.length
 ·rw[fJ hc]
 ·rw[bV (by omega),nY (l:=c) (by omega)]
  have hp:=qK c key
  cases cr with
  |nil=>rfl
  |cons p r=>
   rw[show dw c key - c.length=0 by omega]
   have:=PZ (h2 p (by simp))
   simp only[List.getElem?_cons_zero,decide_eq_false_iff_not]
   exact fun e=>this e.symm
theorem Pb (key value:ByteArray):∀cl c cr,(∀p∈cl,lt p.1 key=true)->(∀p∈cr,lt key p.1=true)->jT (cl++c++cr) key value=cl++jT c key value++cr:=by
 intro cl c cr h1 h2
 have hp:=qK c key
 unfold jT
 rw[KL cl c cr key h1 h2,Az cl c cr key h1 h2]
 cases hat:ou c key with
 |true=>
  obtain⟨hlt,_⟩:=uL hat
  simp only[iI]
  rw[aL,gW _ _ (by omega),dH,JS _ _ hlt,aL]
 |false=>
  simp only[zu,if_false]
  rw[aL,Dp,o7,aG (by omega),eH (by omega),dH,bD hp,fH hp]
  simp
theorem Nl (key value:ByteArray)(hk:key.size<=128)(hv:value.size<=64):Ll (fun ps=>jT ps key value) key:=by
 refine⟨Pb key value,fun c hr=> ?_,fun c hr p hp=> ?_,fun c=> ?_,fun c=> ?_⟩
 ·obtain⟨f1,f2⟩:=ql key c hr
  unfold jT
  split
  ·rename_i hat
   obtain⟨hlt,hkey⟩:=uL hat
   refine jK.2 fun i j hi hj hij=> ?_
   have:=jK.1 hr i j (by simpa using hi) (by simpa using hj) hij
   rw[List.getElem_set,List.getElem_set]
   split
   ·rename_i e;subst e
    rw[if_neg (by omega)]
    rw[hkey] at this;exact this
   ·split
    ·rename_i e;subst e
     rw[hkey] at this;exact this
    ·exact this
  ·rename_i hat
   have hne:∀i (h:i<c.length),dw c key<=i->lt key c[i].1=true:=by
    intro i hi hle
    have h1:=f2 i hi hle
    cases h2:lt key c[i].1 with
    |true=>rfl
    |false=>
     have e:=xh h1 h2
     have hi2:i=dw c key:=by
      rcases iJ (dw c key) i with h3|h3
      ·have h4:=jK.1 hr (dw c key) i (by omega) hi h3
       have h5:=f2 (dw c key) (by omega) (ax _)
       rw[e] at h4;rw[h4] at h5;cases h5
      ·omega
     subst hi2
     exfalso
     apply hat
     unfold ou
     rw[bF hi]
     simp[e]
   refine List.pairwise_append.2 ⟨hr.sublist (List.take_sublist _ _),eT.2 ⟨fun q hq=> ?_,hr.sublist (List.drop_sublist _ _)⟩,fun q hq z hz=> ?_⟩
   ·obtain⟨i,hi,rfl⟩:=iM hq
    rw[BH]
    exact hne _ _ (by omega)
   ·obtain⟨i,hi,rfl⟩:=iM hq
    rw[aC] at hi
    rw[rZ]
    have h1:=f1 i (by omega) (by omega)
    rcases bM.1 hz with rfl|hz
    ·exact h1
    ·obtain⟨j,hj,rfl⟩:=iM hz
     rw[BH]
     exact lt_trans h1 (hne _ _ (by omega))
 ·unfold jT at hp
  split at hp
  ·rcases List.mem_or_eq_of_mem_set hp with h|rfl
   ·exact .inl h
   ·exact .inr ⟨rfl,hk,hv⟩
  ·rcases bR.1 hp with h|h
   ·exact .inl (fo h)
   ·rcases bM.1 h with rfl|h
    ·exact .inr ⟨rfl,hk,hv⟩
    ·exact .inl (bU h)
 ·simp only[jT]
  split<;>simp<;>omega
 ·have e0:2+(key,value).1.size+(key,value).2.size<=194:=by show 2+key.size+value.size<=194;omega
  simp only[jT]
  split
  ·rename_i hat
   obtain⟨hlt,_⟩:=uL hat
   have e1:dO (c.take (dw c key))+dO (c.drop (dw c key))=dO c:=by rw[<-jW,bJ]
   rw[PN,if_pos hlt,jW,mK]
   rw[cO hlt,mK] at e1
   omega
  ·have e1:dO (c.take (dw c key))+dO (c.drop (dw c key))=dO c:=by rw[<-jW,bJ]
   rw[jW,mK]
   omega
def Room (σ:bY)(bs:List Int)(n:Nat):Prop:=σ.sz+2*n<=σ.most+nh σ bs
theorem lS.room {σ σ':bY}{us bs:List Int}{n:Nat}(h:lS σ σ' us bs)(r:Room σ us n):Room σ' bs n:=by
 have:=h.size
 unfold Room at*
 rw[h.most,wY h.H];omega
theorem iw.top {σ:bY}{h m:Nat}{lo:ByteArray}{hi:Option ByteArray}{b:Int}{cs:List Pr}{bs:List Int}(ht:iw σ h m lo hi b cs bs):1<=b/\b<=4096:=by
 obtain⟨nd,_,h1,_⟩:=qX.1 ht
 exact⟨by have:=h1.lo;omega,h1.hi⟩
theorem dm.EF {T:ByteArray->Option ByteArray->Int->List Pr->List Int->Prop}{q:Int->Prop}(hT:∀k z b c x,T k z b c x->q b){hi:Option ByteArray}:∀{l:List (ByteArray×Int)} {cs:List Pr} {bs:List Int},dm T hi l cs bs->∀p∈l,q p.2
 |[],_,_,_=>by simp
 |(k,b)::l,_,_,h=>by
  obtain⟨c,cs',x,bs',h1,h2,rfl,rfl⟩:=h
  intro p hp
  rcases bM.1 hp with rfl|hp
  ·exact hT _ _ _ _ _ h1
  ·exact dm.EF hT h2 p hp
theorem kT.ok {nd:Nd}{lo:ByteArray}{R:List (ByteArray×Int)}(h:kT nd lo R)(hp:nd.pairs=[])(hky:∀k∈nd.keys,k.size<=128)(hkd:∀p∈R,1<=p.2/\p.2<=4096)(hl:R.length<=2000):nd.Ok:=by
 have hlen:=h.len
 refine⟨by simp[hp],hky,fun k hk=> ?_,by omega,fun _=>hp,by simp[hp],by omega⟩
 rw[h.2] at hk
 obtain⟨p,hp,rfl⟩:=d9.1 hk
 exact hkd p hp
theorem Cy {nd:Nd}{i:Nat}{ps:List Pc}(h:∀k∈nd.keys,k.size<=128)(hp:∀p∈ps,p.2.size<=128):∀k∈(nd.pG i ps).keys,k.size<=128:=by
 have he:∀k∈fV nd,k.size<=128:=fun k hk=>by
  rcases bM.1 hk with rfl|hk
  ·exact bf _
  ·exact h k hk
 have hg:((fV nd).getD i ⟨#[]⟩).size<=128:=by
  rw[fF]
  cases hq:(fV nd)[i]? with
  |none=>exact bf _
  |some x=>exact he x (JU hq)
 intro k hk
 have hk:=bU hk
 rcases bR.1 hk with hk|hk
 ·rcases bR.1 hk with hk|hk
  ·exact he k (fo hk)
  ·cases ps with
   |nil=>cases hk
   |cons p r=>
    rcases bM.1 hk with rfl|hk
    ·exact hg
    ·obtain⟨q,hq,rfl⟩:=d9.1 hk
     exact hp q (aU _ hq)
 ·exact he k (bU hk)
theorem uO.keys {nd:Nd}{l:ByteArray}{zs:List (ByteArray×Nd)}(h:uO nd l zs)(ok:nd.Ok)(hl:l.size<=128):∀z∈zs,z.1.size<=128:=by
 have hle:∀(nd:Nd) (l:ByteArray),nd.Ok->l.size<=128->(leastOf nd l).size<=128:=fun nd l ok hl=>by
  unfold leastOf
  split
  ·cases hq:nd.pairs with
   |nil=>exact bf _
   |cons p r=>exact(ok.pr p (by rw[hq];simp)).1
  ·exact hl
 induction h with
 |none _ _=>simp
 |one _ _=>intro z hz;rw[bK.1 hz];exact hle _ _ ok hl
 |@leaf nd l i hi A B hk hs hi1 _ _ _ iha ihb=>
  intro z hz
  rcases bR.1 hz with hz|hz
  ·exact iha (ok.left i hk) hl z hz
  ·exact ihb (ok.right i hk) (hle _ _ (ok.right i hk) (ok.pr _ (bG hi)).1) z hz
 |@inner nd l i hi A B hk hs hi1 _ _ iha ihb=>
  intro z hz
  rcases bR.1 hz with hz|hz
  ·exact iha (ok.CV i (by omega)) hl z hz
  ·exact ihb (ok.yw i) (hle _ _ (ok.yw i) (ok.ky _ (bG hi))) z hz
theorem Puts.keys:∀{zs:List (ByteArray×Nd)} {σ σ':bY} {ps:List Pc},Puts σ ps zs σ'->(∀z∈zs,z.1.size<=128)->∀p∈ps,p.2.size<=128
 |[],_,_,[],_,_=>by simp
 |[],_,_,_::_,h,_=>absurd h id
 |_::_,_,_,[],h,_=>absurd h id
 |z::zs,_,_,p::ps,h,hz=>by
  obtain⟨τ,h1,h2,h3⟩:=h
  intro q hq
  rcases bM.1 hq with rfl|hq
  ·rw[h1];exact hz z (by simp)
  ·exact Puts.keys h3 (fun y hy=>hz y (aU _ hy)) q hq
structure SY (σ:bY)(h m:Nat)(lo:ByteArray)(hi:Option ByteArray)(ps:List Pc)(cs:List Pr)(bs:List Int):Prop where
 row:dm (iw σ h m) hi (kK lo ps) cs bs
 key:∀p∈ps,p.2.size<=128
 len:ps.length<=900
 m1:1<=m
 m2:m<=2
 single:m=2\/ps.length=1
inductive Mid (σ:bY)(h:Nat)(hi:Option ByteArray)(z:Nat):List (ByteArray×Int)->Nat->List Pr->List Int->Prop
 |two {R i cs bs}:dm (iw σ h 2) hi R cs bs->Mid σ h hi z R i cs bs
 |one {L k b M cl bl c x cm bm}:dm (iw σ h 2) (some k) L cl bl->iw σ h 1 k (iY M hi) b c x->dm (iw σ h 2) hi M cm bm->2<=(L++(k,b)::M).length->c.length=z->Mid σ h hi z (L++(k,b)::M) L.length (cl++(c++cm)) (bl++(x++bm))
theorem I7 {σ:bY}{h m:Nat}{lo k:ByteArray}{b:Int}{hi:Option ByteArray}{nd:Nd}{L M:List (ByteArray×Int)}{cl cm c:List Pr}{bl bm x:List Int}{ps:List Pc}(hR:kT nd lo (L++(k,b)::M))(hL:dm (iw σ h 2) (some k) L cl bl)(hM:dm (iw σ h 2) hi M cm bm)(hP:SY σ h m k (iY M hi) ps c x)(h2:2<=(L++(k,b)::M).length)
  (hlo:∀k1 b1 M',M=(k1,b1)::M'->lt k1 lo=false) (hkz:∀y,iY M hi=some y->lt y k=false):
  ∃R,kT (nd.pG L.length ps) lo R/\(∀z,(ps.length=1->z=c.length)->Mid σ h hi z R L.length (cl++(c++cm)) (bl++(x++bm)))/\R.length<=L.length+ps.length+M.length:=by
 cases ps with
 |nil=>
  obtain⟨rfl,rfl⟩:=hP.row
  cases L with
  |nil=>
   obtain⟨rfl,rfl⟩:=hL
   cases M with
   |nil=>simp at h2
   |cons q M=>
    obtain⟨k1,b1⟩:=q
    refine⟨_,E5 hR (by simp),fun z _=> .two (dm.EA (fun z b c x ht=>iw.weaken ht (hlo k1 b1 M rfl) (fun y hy=>⟨y,hy,lt_irrefl y⟩)) hM),by simp[Jk]⟩
  |cons l L=>
   refine⟨_,vN hR (.inl (by simp)),fun z _=> .two ?_,by simp[kK];omega⟩
   have hL':dm (iw σ h 2) (iY M hi) (l::L) cl bl:=dm.zZ (fun k' b' c' x' ht=>iw.weaken ht (lt_irrefl _) (fun y hy=>⟨k,rfl,hkz y hy⟩)) hL
   have:=hM.append hL'
   simpa [kK] using this
 |cons p r=>
  refine⟨_,vN hR (.inr (by simp)),fun z hz=> ?_,by simp[kK];omega⟩
  by_cases hr:r=[]
  ·subst hr
   obtain⟨c1,c2,x1,x2,ht,⟨rfl,rfl⟩,rfl,rfl⟩:=hP.row
   rw[dW] at hz
   rw[dW,dW]
   have ht':iw σ h 1 k (iY M hi) p.1 c1 x1:=ht.less hP.m1
   have:=Mid.one (b:=p.1) hL ht' hM (by simpa using h2) (hz rfl).symm
   simpa [kK] using this
  ·have hm:m=2:=hP.single.resolve_right (by cases r with|nil=>exact absurd rfl hr|cons _ _=>simp)
   subst hm
   have h1:=dm.append hM hP.row
   rw[aL]
   exact .two (dm.append h1 hL)
structure I9 (σ:bY)(h:Nat)(hi:Option ByteArray)(R:List (ByteArray×Int))(j:Nat)(cs:List Pr)(bs:List Int)(L:List (ByteArray×Int))(k1:ByteArray)(b1:Int)(k2:ByteArray)(b2:Int)(M:List (ByteArray×Int))(cl ca cb cm:List Pr)(bl xa xb bm:List Int)(m1 m2 z:Nat):Prop where
 row:R=L++(k1,b1)::(k2,b2)::M
 len:L.length=j
 l:dm (iw σ h 2) (some k1) L cl bl
 a:iw σ h m1 k1 (some k2) b1 ca xa
 b:iw σ h m2 k2 (iY M hi) b2 cb xb
 m:dm (iw σ h 2) hi M cm bm
 cs:cs=cl++(ca++(cb++cm))
 bs:bs=bl++(xa++(xb++bm))
 m12:(m1=2/\m2=2)\/(m1=1/\m2=2/\ca.length=z)\/(m1=2/\m2=1/\cb.length=z)
theorem Mid.skip {σ:bY}{h z:Nat}{hi:Option ByteArray}{R:List (ByteArray×Int)}{i:Nat}{cs:List Pr}{bs:List Int}(hm:Mid σ h hi z R i cs bs)(hs:R.length<2\/R.length<=i):dm (iw σ h 2) hi R cs bs:=by
 cases hm with
 |two h=>exact h
 |one h1 h2 h3 h4 _=>simp at hs h4;omega
theorem Mid.pair {σ:bY}{h z:Nat}{hi:Option ByteArray}{R:List (ByteArray×Int)}{i:Nat}{cs:List Pr}{bs:List Int}(hm:Mid σ h hi z R i cs bs)(h2:2<=R.length):
  ∃L k1 b1 k2 b2 M cl ca cb cm bl xa xb bm m1 m2,I9 σ h hi R (min i (R.length - 2)) cs bs L k1 b1 k2 b2 M cl ca cb cm bl xa xb bm m1 m2 z:=by
 cases hm with
 |two hr=>
  obtain⟨j,hj⟩:∃j,j=min i (R.length - 2):=⟨_,rfl⟩
  rw[<-hj]
  have e1:=bJ j R
  have e2:R.drop j=R[j]'(by omega)::R[j+1]'(by omega)::R.drop (j+2):=by
   rw[cO (by omega),cO (i:=j+1) (by omega)]
  generalize R[j]'(by omega)=p1 at e2
  generalize R[j+1]'(by omega)=p2 at e2
  obtain⟨k1,b1⟩:=p1
  obtain⟨k2,b2⟩:=p2
  have hl:(R.take j).length=j:=by rw[aC];omega
  rw[e2] at e1
  generalize R.take j=L at e1 hl
  generalize R.drop (j+2)=M at e1
  rw[<-e1] at hr
  obtain⟨cl,cr,bl,br,r1,r2,rfl,rfl⟩:=hr.split
  obtain⟨ca,cr,xa,br,ta,⟨cb,cm,xb,bm,tb,rm,rfl,rfl⟩,rfl,rfl⟩:=r2
  exact⟨L,k1,b1,k2,b2,M,cl,ca,cb,cm,bl,xa,xb,bm,2,2,e1.symm,hl,r1,ta,tb,rm,rfl,rfl,.inl ⟨rfl,rfl⟩⟩
 |@one L k b M cl bl c x cm bm h1 h3 h4 h5 h6=>
  cases M with
  |cons q M=>
   obtain⟨k2,b2⟩:=q
   obtain⟨cb,cm,xb,bm,tb,rm,rfl,rfl⟩:=h4
   exact⟨L,k,b,k2,b2,M,cl,c,cb,cm,bl,x,xb,bm,1,2,rfl,by simp;omega,h1,h3,tb,rm,rfl,rfl,.inr (.inl ⟨rfl,rfl,h6⟩)⟩
  |nil=>
   obtain⟨rfl,rfl⟩:=h4
   rcases List.eq_nil_or_concat L with rfl|⟨L,q,rfl⟩
   ·simp at h5
   ·obtain⟨k1,b1⟩:=q
    rw[List.concat_eq_append] at h1
    obtain⟨cl',cr,bl',br,r1,r2,rfl,rfl⟩:=h1.split
    obtain⟨ca,c0,xa,x0,ta,⟨rfl,rfl⟩,rfl,rfl⟩:=r2
    exact⟨L,k1,b1,k,b,[],cl',ca,c,[],bl',xa,x,[],2,1,by simp,by simp,r1,ta,h3,⟨rfl,rfl⟩,by simp,by simp,.inr (.inr ⟨rfl,rfl,h6⟩)⟩
def dP (A B:Nd)(k:ByteArray):Nd:=⟨A.pairs++B.pairs,if A.kids=[] then[] else A.keys++[k]++B.keys,A.kids++B.kids⟩
theorem oK.rows {σ:bY}{h:Nat}{lo:ByteArray}{hi:Option ByteArray}{nd:Nd}{cs:List Pr}{bs:List Int}(hn:oK σ (h+1) lo hi nd cs bs)(ok:nd.Ok):kT nd lo (nd.row lo):=rowOf ok hn.1 lo
theorem CZ {σ:bY}{h:Nat}{k1 k2:ByteArray}{hi:Option ByteArray}{A B:Nd}{ca cb:List Pr}{xa xb:List Int}(okA:A.Ok)(okB:B.Ok)(hA:oK σ h k1 (some k2) A ca xa)(hB:oK σ h k2 hi B cb xb)(na:ca≠[])(nb:cb≠[])(hk2:k2.size<=128)(fA:A.Fits)(fB:B.Fits):
  oK σ h k1 hi (dP A B k2) (ca++cb) (xa++xb)/\(dP A B k2).Ok/\(dP A B k2).kids.length=A.kids.length+B.kids.length/\(dP A B k2).pairs.length=A.pairs.length+B.pairs.length:=by
 have hokk:(dP A B k2).Ok↔(dP A B k2).keys.length=(dP A B k2).kids.length - 1/\((dP A B k2).kids≠[]->(dP A B k2).pairs=[]):=by
  constructor
  ·exact fun h=>⟨h.kk,h.one⟩
  ·rintro⟨h1,h2⟩
   have a1:=fA.np;have a2:=fB.np;have a3:=fA.nk;have a4:=fB.nk
   refine⟨fun p hp=> ?_,fun k hk=> ?_,fun k hk=> ?_,h1,h2,by simp[dP];omega,by simp[dP];omega⟩
   ·rcases bR.1 hp with hp|hp
    ·exact okA.pr p hp
    ·exact okB.pr p hp
   ·unfold dP at hk
    dsimp only at hk
    split at hk
    ·cases hk
    ·simp only[aL,bR,bK] at hk
     rcases hk with hk|rfl|hk
     ·exact okA.ky k hk
     ·exact hk2
     ·exact okB.ky k hk
   ·rcases bR.1 hk with hk|hk
    ·exact okA.kd k hk
    ·exact okB.kd k hk
 refine⟨?_,hokk.2 ?_,by simp[dP],by simp[dP]⟩
 ·cases h with
  |zero=>
   obtain⟨a1,a2,a3,a4,a5⟩:=hA
   obtain⟨b1,b2,b3,b4,b5⟩:=hB
   have:=Content.append ⟨na,a3,a4⟩ ⟨nb,b3,b4⟩
   exact⟨by simp[dP,a1,b1],by simp[dP,a2,b2],this.rise,this.within,by simp[a5,b5]⟩
  |succ h=>
   have rA:=hA.rows okA
   have rB:=hB.rows okB
   have rJ:kT (dP A B k2) k1 (A.row k1++B.row k2):=by
    constructor
    ·simp only[dP,if_neg hA.1,bX,<-rA.1,<-rB.1]
     simp
    ·simp only[dP,bX,<-rA.2,<-rB.2]
   refine⟨by simp[dP,hA.1],?_⟩
   rw[rJ.row]
   have hnl:iY (B.row k2) hi=some k2:=by
    obtain⟨b,l,e,_⟩:=o8 okB.kk hB.1 k2
    unfold Nd.row
    rw[e];rfl
   have h1:=hA.2
   rw[<-hnl] at h1
   exact dm.append hB.2 h1
 ·cases h with
  |zero=>simp[dP,hA.1,hB.1]
  |succ h=>
   have a1:=okA.kk;have a2:=okB.kk
   have a3:=bS.2 hA.1;have a4:=bS.2 hB.1
   refine⟨by simp[dP,hA.1];omega,fun _=>by simp[dP,okA.one hA.1,okB.one hB.1]⟩
def Nd.jU (nd:Nd)(j:Nat):Nd:=⟨nd.pairs,nd.keys.take j++nd.keys.drop (j+1),nd.kids.take (j+1)++nd.kids.drop (j+2)⟩
theorem F9 {nd:Nd}{lo k1 k2:ByteArray}{b1 b2:Int}{L M:List (ByteArray×Int)}(h:kT nd lo (L++(k1,b1)::(k2,b2)::M)):kT (nd.jU L.length) lo (L++(k1,b1)::M)/\nd.keys[L.length]? =some k2/\nd.kids[L.length]? =some b1/\nd.kids[L.length+1]? =some b2:=by
 obtain⟨h1,h2⟩:=h
 have hk:nd.keys=(L.map (·.1)++[k1]).drop 1++k2::M.map (·.1):=by
  have:=congrArg (List.drop 1) h1
  simp only[eZ,eP] at this
  rw[this]
  cases L<;>simp
 have hlen:((L.map (·.1)++[k1]).drop 1).length=L.length:=by simp
 have hD:lo::(L.map (·.1)++[k1]).drop 1=L.map (·.1)++[k1]:=by
  cases L with
  |nil=>simp only[fM,cu,lT] at h1;simp[h1.1]
  |cons l L=>simp only[jQ,cu,lT] at h1;simp[h1.1]
 generalize (L.map (·.1)++[k1]).drop 1=D at hk hlen hD
 refine⟨⟨?_,?_⟩,?_,?_,?_⟩
 ·have h3:(nd.jU L.length).keys=D++M.map (·.1):=by
   simp only[Nd.jU,hk]
   rw[bD (by omega),aG (by omega),o7,eH (by omega),hlen]
   simp
  rw[h3,<-jQ,hD]
  simp
 ·simp only[Nd.jU,h2,bX,cu]
  rw[Dp,o7]
  simp
  rw[aG (by simp),eH (by simp)]
  simp
 ·rw[hk,bV (by omega),hlen];simp
 ·rw[h2];simp
 ·rw[h2];simp
theorem Nh {σ σ2 σ3:bY}{h:Nat}{hi:Option ByteArray}{R:List (ByteArray×Int)}{j:Nat}{cs:List Pr}{bs:List Int}{L:List (ByteArray×Int)}{k1:ByteArray}{b1:Int}{k2:ByteArray}{b2:Int}{M:List (ByteArray×Int)}{cl ca cb cm:List Pr}{bl xa xb bm:List Int}{m1 m2 z:Nat}{A B:Nd}{ps:List Pc}{zs:List (ByteArray×Nd)}
  (hP:I9 σ h hi R j cs bs L k1 b1 k2 b2 M cl ca cb cm bl (b1::xa) (b2::xb) bm m1 m2 z) (okA:A.Ok) (okB:B.Ok) (fA:A.Fits) (fB:B.Fits) (nA:oK σ h k1 (some k2) A ca xa) (nB:oK σ h k2 (iY M hi) B cb xb) (kA:Kids h m1 A) (kB:Kids h m2 B) (na:ca≠[]) (nb:cb≠[]) (hk2:k2.size<=128)
  (hc:lS σ σ2 [b1,b2] []) (hcl:Oq σ2) (hs:uO (dP A B k2) ⟨#[]⟩ zs) (hp:Puts σ2 ps zs σ3) (hn:bs.Nodup):
  ∃xs,dm (iw σ3 h 2) hi (L++kK k1 ps++M) cs (bl++(xs++bm))/\lS σ σ3 bs (bl++(xs++bm))/\ps≠[]/\(∀p∈ps,p.2.size<=128)/\ps.length<=510:=by
 obtain⟨hrow,hlen,hl,ha,hb,hm,rfl,rfl,h12⟩:=hP
 have hall:∀x∈bl++(b1::xa++(b2::xb++bm)),σ.hasB x=true:=by
  intro x hx
  simp only[bR] at hx
  rcases hx with hx|hx|hx|hx
  ·exact dm.has (fun _ _ _ _ _ ht=>iw.has ht) hl x hx
  ·exact ha.has x hx
  ·exact hb.has x hx
  ·exact dm.has (fun _ _ _ _ _ ht=>iw.has ht) hm x hx
 have hperm:(bl++(b1::xa++(b2::xb++bm))).Perm ([b1,b2]++(bl++((xa++xb)++bm))):=by
  have e1:(b1::xa++(b2::xb++bm)).Perm ([b1,b2]++((xa++xb)++bm)):=by
   show (b1::(xa++b2::(xb++bm))).Perm (b1::b2::((xa++xb)++bm))
   refine List.Perm.cons _ ?_
   rw[aL]
   exact List.perm_middle
  exact(GA bl e1).trans (List.perm_append_comm_assoc _ _ _)
 have hn2:=hperm.nodup_iff.1 hn
 have hrest:∀x∈bl++((xa++xb)++bm),σ.hasB x=true:=fun x hx=>hall x (hperm.mem_iff.2 (eu _ hx))
 have c1:=hc.left hn2 hrest
 have hdis:∀x∈bl++((xa++xb)++bm),x∉[b1,b2]:=fun x hx hy=>(dK.1 hn2).2.2 x hy x hx rfl
 have mA:oK σ2 h k1 (some k2) A ca xa:=by
  cases h with
  |zero=>exact nA
  |succ h=>exact⟨nA.1,nA.2.keep hc fun x hx=>hdis x (by simp[hx])⟩
 have mB:oK σ2 h k2 (iY M hi) B cb xb:=by
  cases h with
  |zero=>exact nB
  |succ h=>exact⟨nB.1,nB.2.keep hc fun x hx=>hdis x (by simp[hx])⟩
 obtain⟨nJ,okJ,lJ,lJ2⟩:=CZ okA okB mA mB na nb hk2 fA fB
 have hn3:(bl++((xa++xb)++bm)).Nodup:=(dK.1 hn2).2.1
 have hn4:=hn3
 rw[<-aL] at hn4
 have hxx:(xa++xb).Nodup:=(dK.1 (dK.1 hn3).2.1).1
 have has2:∀x∈bl++((xa++xb)++bm),σ2.hasB x=true:=fun x hx=>(hc.frame x (hrest x hx) (.inl (hdis x hx))).1
 obtain⟨xs,q1,q2⟩:=vM hs (m:=2) okJ nJ hp hcl (ax 2) (by
  rcases kA with rfl|kA
  ·exact .inl rfl
  ·rcases kB with rfl|kB
   ·exact .inl rfl
   ·exact .inr (by rw[lJ];omega)) hxx (fun x hx=>has2 x (by simp only[bR] at hx ⊢;exact .inr (.inl hx)))
 have c2:=q2.mid (ls:=bl) (rs:=bm) hn4 (fun x hx=>has2 x (by simp[hx])) (fun x hx=>has2 x (by simp[hx]))
 have c12:=c1.trans (c2.perm (by rw[aL];exact kr _) (kr _))
 have hne:ps≠[]:=fun e=>by
  subst e
  have:=q1.1
  simp at this
  exact na this.1
 obtain⟨p,r,rfl⟩:=kX hne
 have hdl:∀x∈bl,x∉xa++xb:=fun x hx hy=>(dK.1 hn3).2.2 x hx x (dL _ hy) rfl
 have hdm:∀x∈bm,x∉xa++xb:=fun x hx hy=>(dK.1 (dK.1 hn3).2.1).2.2 x hy x hx rfl
 have hm3:dm (iw σ3 h 2) hi M cm bm:=(hm.keep hc fun x hx=>hdis x (by simp[hx])).keep q2 hdm
 have hl3:dm (iw σ3 h 2) (some k1) L cl bl:=(hl.keep hc fun x hx=>hdis x (by simp[hx])).keep q2 hdl
 refine⟨xs,?_,(c12.perm hperm.symm (by rw[aL])),by simp,?_,?_⟩
 ·have e1:=dm.append hm3 q1
  have e2:=dm.append e1 (l:=L) hl3
  rw[aL L,<-aL ca cb cm]
  exact e2
 ·exact hp.keys (hs.keys okJ (bf _))
 ·have e1:=hs.room okJ
  have e2:=hp.length.1
  have a1:=fA.np;have a2:=fB.np;have a3:=fA.nk;have a4:=fB.nk
  unfold Nd.room at e1
  rw[lJ2,lJ] at e1
  rw[e2]
  by_cases hk:(dP A B k2).kids=[]
  ·rw[if_pos hk] at e1;omega
  ·have h0:=okJ.one hk
   have h1:=congrArg List.length h0
   rw[lJ2] at h1
   simp only[bI] at h1
   rw[if_neg hk] at e1;omega
theorem KI (t nb:Nat)(nd:Nd)(i:Nat)(deep:Int)(w:World)(S:Nat->Prop)(hn:fD w S nb nd)(hs:nd.kids.length<2\/nd.kids.length<=i):
  Calls Tryz.prog 210 #[.pointer (some ⟨t,0,none⟩),.pointer (some ⟨nb,0,none⟩),.int .i64 i,.int .i64 deep] w fun e w'=>e= .returned (.tuple #[])/\w'=w:=by
 obtain⟨_,v0,v1,v2,hb,h0,h1,h2⟩:=hn
 obtain⟨c0,c1,c2,_,_,_,hlt⟩:=cells3 hb
 obtain⟨ao2,cp2,rfl,n2,m2,_,_⟩:=bn.form h2
 by_cases h:nd.kids.length<2
 ·have x1:(nd.kids.length:Int)<2:=by omega
  go_enter Tryz.func210,Tryz.ntmps210
  go_wp2
  refine eO (zK rfl _ _ _) rfl ?_
  exact⟨rfl,rfl⟩
 ·have x1:¬(nd.kids.length:Int)<2:=by omega
  have x2:(nd.kids.length:Int)<=(i:Int):=by omega
  have x3:nd.kids.length<=i:=by omega
  go_enter Tryz.func210,Tryz.ntmps210
  go_wp2
  refine eO (zK rfl _ _ _) rfl ?_
  exact⟨rfl,rfl⟩
theorem wW (l:List Int):∀u∈l.map (Value.int .i64),u.oneCell'=true:=by
 intro u hu
 obtain⟨p,_,rfl⟩:=d9.1 hu
 rfl
def SJ (t:Nat)(mp:VS)(nb pb po j n cp:Nat)(root err b1 b2:Int)(v0 v1:Value)(W:World):Prop:=
 cK W t mp root err/\W.heap[nb]? =some (.cells #[v0,v1,.slice (some ⟨pb,po,none⟩) n cp] 260 (0,0))/\W.cell? ⟨pb,po+j,none⟩=some (.int .i64 b1)/\W.cell? ⟨pb,po+(j+1),none⟩=some (.int .i64 b2)
theorem SJ.step {t:Nat}{mp:VS}{nb pb po j n cp:Nat}{root err b1 b2:Int}{v0 v1:Value}{W W':World}{S S':Nat->Prop}(h:SJ t mp nb pb po j n cp root err b1 b2 v0 v1 W)(hs:Step S S' W W')(h1:¬S t)(h2:¬S nb)(h3:¬S pb):SJ t mp nb pb po j n cp root err b1 b2 v0 v1 W':=by
 obtain⟨q1,q2,q3,q4⟩:=h
 have l3:=aH W _ q3
 exact⟨(q1.step h1 hs).1,(hs.1.block nb (ah.1 q2).1 h2).trans q2,(mo (w:=W) (a:=⟨pb,po+j,none⟩) (hs.1.block pb l3 h3)).trans q3,(mo (w:=W) (a:=⟨pb,po+(j+1),none⟩) (hs.1.block pb l3 h3)).trans q4⟩
theorem SJ.cells {t:Nat}{mp:VS}{nb pb po j n cp:Nat}{root err b1 b2:Int}{v0 v1:Value}{W:World}(h:SJ t mp nb pb po j n cp root err b1 b2 v0 v1 W):
  W.cell? ⟨t,0,none⟩=some (.iface 123 mp.agg)/\t<W.heap.size/\W.cell? ⟨nb,2,none⟩=some (.slice (some ⟨pb,po,none⟩) n cp)/\nb<W.heap.size/\W.cell? ⟨pb,po+j,none⟩=some (.int .i64 b1)/\W.cell? ⟨pb,po+(j+1),none⟩=some (.int .i64 b2)/\pb<W.heap.size:=by
 obtain⟨q1,q2,q3,q4⟩:=h
 obtain⟨c0,_,_,_,_,_,hl⟩:=cells3 q1
 obtain⟨_,_,c2,_,_,_,hl2⟩:=cells3 q2
 exact⟨c0,hl,c2,hl2,q3,q4,aH W _ q3⟩
theorem wX {W:World}{S:Nat->Prop}{b:Nat}{ps:List Pr}{ks':List ByteArray}{ns:List Int}{v0 v1 v2 v':Value}(hb:W.heap[b]? =some (.cells #[v0,v1,v2] 260 (0,0)))(hS:¬S b)(h0:nN W S v0 ps)(h2:jq W S v2 ns)(h0b:v0.ownBlock≠some b)(h2b:v2.ownBlock≠some b)(hv:iL W S v' ks')(hvb:v'.ownBlock≠some b):fD (W.setCell ⟨b,1,none⟩ v') S b ⟨ps,ks',ns⟩:=by
 have hk:Keep (· =b) W (W.setCell ⟨b,1,none⟩ v'):=Keep.setCell (M:=(· =b)) (p:=⟨b,1,none⟩) (Keep.refl _ _) (.inr rfl) _
 refine⟨hS,v0,v',v2,by simp[World.setCell,aS,hb],bn.keep h0 fun g hg hl hs=>⟨hk.block g hl (fun e=>h0b (by rw[hg,e])),hs⟩,bn.keep hv fun g hg hl hs=>⟨hk.block g hl (fun e=>hvb (by rw[hg,e])),hs⟩,bn.keep h2 fun g hg hl hs=>⟨hk.block g hl (fun e=>h2b (by rw[hg,e])),hs⟩⟩
theorem OH {W:World}{S:Nat->Prop}{b:Nat}{ao0 ao1 ao2:Option Addr}{x0 x1 x2 y0 y1 y2:Nat}{ks:List ByteArray}(hb:W.heap[b]? =some (.cells #[.slice ao0 x0 y0,.slice ao1 x1 y1,.slice ao2 x2 y2] 260 (0,0)))(h:iL W S (.slice ao1 x1 y1) ks)(hk:0<ks.length):(Value.slice ao1 x1 y1).ownBlock≠some b:=by
 obtain⟨ao,c,e,_,_,_,_,_,h6⟩:=h
 cases e
 obtain⟨b',o,rfl,hc⟩:=h6 0 (.string ks[0]) (by simp[hk])
 intro e
 cases e
 rw[iW] at hc
 rcases o with _|_|_|o<;>simp[World.cell?,hb] at hc
def Oe (mp:VS)(σ:bY)(S:Nat->Prop)(nb:Nat)(nd A B:Nd)(k2:ByteArray)(b1 b2:Int)(j:Nat)(w:World)(e:Ending)(w':World):Prop:=
 (e= .returned (.tuple #[])/\∃σ' S' nd',Inv σ' S' mp w'/\fD w' S' nb nd'/\Keep (fun g=>S g\/g=nb) w w'/\(∀g,S' g->S g\/w.heap.size<=g)/\
  ((512<(dP A B k2).size/\A.kids.length≠1/\B.kids.length≠1/\σ'=σ/\nd'=nd)\/∃ps zs,uO (dP A B k2) ⟨#[]⟩ zs/\Puts ((σ.gone b1).gone b2) ps zs σ'/\nd'=(nd.jU j).pG j ps/\¬(512<(dP A B k2).size/\A.kids.length≠1/\B.kids.length≠1)))\/
  (((σ.gone b1).gone b2).most<((σ.gone b1).gone b2).sz+(dP A B k2).room/\BA mp σ S w e w')
theorem Nj (t:Nat)(mp:VS)(root err:Int)(σ:bY)(S:Nat->Prop)(nb:Nat)(nd A B:Nd)(k2:ByteArray)(i j:Nat)(deep b1 b2:Int)(w:World)(h:Inv σ S mp w)(ht:cK w t mp root err)(hst:¬S t)(hn:fD w S nb nd)(h2:2<=nd.kids.length)(hi:i<nd.kids.length)(hj:j=min i (nd.kids.length - 2))(hk1:nd.kids[j]? =some b1)(hk2:nd.kids[j+1]? =some b2)(hkey:nd.keys[j]? =some k2)
  (hp:nd.pairs=[]) (hkk:nd.keys.length=nd.kids.length - 1) (hA:BK σ b1 A) (hB:BK σ b2 B) (hB2:(σ.gone b1).hasB b2=true) (okJ:(dP A B k2).Ok) (hd:deep<=40) (hl:nd.kids.length<=2000):
  Calls Tryz.prog 210 #[.pointer (some ⟨t,0,none⟩),.pointer (some ⟨nb,0,none⟩),.int .i64 i,.int .i64 deep] w (Oe mp σ S nb nd A B k2 b1 b2 j w):=by
 have hN:=hn
 obtain⟨hSb,v0,v1,v2,hb,h0,h1,h22⟩:=hn
 obtain⟨c0,c1,c2,_,_,_,hlt⟩:=cells3 hb
 obtain⟨ao2,cp2,rfl,n2,m2,_,_⟩:=bn.form h22
 obtain⟨hj1,hj1'⟩:=bT.1 hk1
 obtain⟨hj2,hj2'⟩:=bT.1 hk2
 obtain⟨pb,po,rfl,d1⟩:=h22.at rfl j hj1
 obtain⟨_,_,e',d2⟩:=h22.at rfl (j+1) hj2
 cases e'
 rw[hj1'] at d1
 rw[hj2'] at d2
 have hpb:pb<w.heap.size:=aH w _ d1
 have hSp:¬S pb:=by
  obtain⟨_,_,e,_,_,_,_,h5,_⟩:=h22
  cases e
  exact(h5 _ rfl).2.2
 have hSJ:SJ t mp nb pb po j nd.kids.length cp2 root err b1 b2 v0 v1 w:=⟨ht,hb,d1,d2⟩
 have HSJ:=af hSJ
 have HK:=af hkey
 have HP:=af hp
 have HKK:=af hkk
 have HN:=af hN
 have HB2:=af hB2
 have HJ:=af hj
 have hj3:j+2<=nd.kids.length:=by omega
 have x4:min (i:Int) ((nd.kids.length:Int) - 2)=(j:Int):=by omega
 have HX4:=af x4
 have HD1:=af hk1
 have HD2:=af hk2
 clear hk1 hk2 hj1' hj2' hSJ hkey hp hkk hN hB2 hb d1 d2 hj hj1 hj2 c0 c1 x4
 have x1:¬(nd.kids.length:Int)<2:=by omega
 have x2:¬(nd.kids.length:Int)<=(i:Int):=by omega
 have x3:¬nd.kids.length<=i:=by omega
 go_enter Tryz.func210,Tryz.ntmps210
 go_upto_region 1 with fail
 go_cut [2] from 13 to 196 (fun x wx=>x= .int .i64 j/\w=wx)
 case first=>
  go_wp2_with fail
  all_goals
   go_meet
   refine⟨?_,rfl⟩
   have:=HX4.out
   congr 1<;>omega
 case rest=>
  obtain⟨rfl,rfl⟩:=hcut
  obtain⟨y0,y1,y2,y3,y4,y5,y6⟩:=HSJ.out.cells
  have HA:=af hA
  have HB:=af hB
  have hj4:(j:Int)+2<=(nd.kids.length:Int):=by omega
  have HI:=af h
  have HT:=af ht
  clear hA hB h ht c2
  go_wp2_with (first
   |(go_at_call 149;go_must ((refine(l7 t mp root err b1 deep σ S A w HI.out HT.out HA.out hd).mono ?_);rintro e w1 ⟨na,rfl,hnA,hb1⟩;refine Stop.of ?_)))
  refine Stop.on ?_
  have HI1:=af (HI.out.below hb1)
  obtain⟨y0,y1,y2,y3,y4,y5,y6⟩:=(HSJ.out.step (Step.of_below (S:=S) hb1) hst hSb hSp).cells
  go_wp2_with (first
   |(go_at_call 207;go_must ((refine(ny _).mono ?_);rintro e w2 ⟨rfl,hw⟩;subst w2))
   |(go_at_call 149;go_must ((refine(l7 t mp root err b2 deep σ S B w1 HI1.out ((HT.out).step hst (Step.of_below (S:=S) hb1)).1 HB.out hd).mono ?_);rintro e w2 ⟨nbb,rfl,hnB,hb2⟩;refine Stop.of ?_)))
  refine Stop.on ?_
  have hbw2:Below w.heap.size w w2:=hb1.trans (hb2.mono hb1.size)
  have HI2:=af (HI.out.below hbw2)
  have hsj2:=af (HSJ.out.step (Step.of_below (S:=S) hbw2) hst hSb hSp)
  have hA2:=hnA.jl.below hb2
  have hB2':=hnB.jl
  have HA2:=af hA2
  have HB2':=af hB2'
  obtain⟨hSA,a0,a1,a2,bA,A0,A1,A2⟩:=hA2
  obtain⟨hSB,g0,g1,g2,bB,B0,B1,B2⟩:=hB2'
  have hnaw:w.heap.size<=na:=hnA.2.1
  obtain⟨e0,e1,e2,_,_,_,lna⟩:=cells3 bA
  obtain⟨f0,f1,f2,_,_,_,lnb⟩:=cells3 bB
  clear y0 y1 y2 y3 y4 y5 y6 bA bB hnA hnB
  go_wp2_with (first
   |(go_at_call 207;go_must ((refine(ny _).mono ?_);rintro e w3 ⟨rfl,hw⟩;subst w3)))
  have hsub2:=HI2.out.sub
  have la:=HA.out.fits.np
  have lb:=HB.out.fits.np
  have ka:=HA.out.fits.nk
  have kb:=HB.out.fits.nk
  refine aN (fun W=>Below w2.heap.size w2 W) (fun i=> !([4,9,14,19,21].contains i)) [0,1,2,3,5,6,7,8,10,11,12,13,15,16,17,18,4,9,14,19,20,21,22] rfl (by kernel_rfl) ((aO _ w2).drew) ?_
  repeat ((refine bL (v:= ?_) rfl rfl (fun _ _ _ h=>h) rfl (fun W hW=> ?_) ?_);rotate_left;(focus ((try dsimp only at hW);have q0:=(hW.cell (p:=⟨na,0,none⟩) lna).trans e0;have q1:=(hW.cell (p:=⟨na,1,none⟩) lna).trans e1;have q2:=(hW.cell (p:=⟨na,2,none⟩) lna).trans e2;have q3:=(hW.cell (p:=⟨nbb,0,none⟩) lnb).trans f0;have q4:=(hW.cell (p:=⟨nbb,1,none⟩) lnb).trans f1;have q5:=(hW.cell (p:=⟨nbb,2,none⟩) lnb).trans f2;have q6:=ak lna hW.size;have q7:=ak lnb hW.size;first|(go_simp;first|done|with_reducible rfl)));(try simp only[Act.put,ai,au,aj]))
  have hbd:Below w2.heap.size w2 w2.drew:=(aO _ w2).drew
  have hC1:=Cf a0 A.pairs.length (dN A.pairs) w2.drew S hsub2 (bn.below A0 hbd) (DZ _) (by omega)
  have HC1:=af hC1;clear hC1
  refine dA rfl rfl rfl ?_;intro K hK;go_simp
  refine HC1.out.mono ?_;rintro e w3 ⟨u0,rfl,hu0,hb3⟩
  have hb23:Below w2.heap.size w2 w3:=hbd.trans hb3
  refine hK.out _ _ hb23 ?_
  (try simp only[Act.put,ai,au,aj])
  refine dA rfl rfl rfl ?_;intro K hK
  refine mE (.tmp 71) (.tmp 75) 76 76 rfl S w2.heap.size 79 2 32 _ dQ kV rfl u0 A.pairs.length (dN A.pairs) rfl hu0 g0 B.pairs.length (dN B.pairs) rfl ((bn.below B0 hb23).src dQ (DZ _)) (fun g hg=>ak (hsub2 g hg) hb23.size) hb23.size (by unfold maxLen;omega) (by omega) ?_
  intro ao4 c4 w4 hown4 hk4 hb4 hd4
  have hb24:Below w2.heap.size w2 w4:=hb23.trans hb4
  refine hK.out _ _ hb24 ?_
  (try simp only[Act.put,ai,au,aj])
  have hC2:=rO a2 A.kids.length (A.kids.map (.int .i64)) w4 S (fun g hg=>ak (hsub2 g hg) hb24.size) (bn.below A2 hb24) (wW _) (by omega)
  have HC2:=af hC2;clear hC2
  refine dA rfl rfl rfl ?_;intro K hK;go_simp
  refine HC2.out.mono ?_;rintro e w5 ⟨u2,rfl,hu2,hb5⟩
  have hb25:Below w2.heap.size w2 w5:=hb24.trans (hb5.mono hb24.size)
  refine hK.out _ _ hb25 ?_
  (try simp only[Act.put,ai,au,aj])
  refine dA rfl rfl rfl ?_;intro K hK
  refine mE (.tmp 81) (.tmp 85) 171 171 rfl S w2.heap.size 3 1 8 _ aZ gU rfl u2 A.kids.length (A.kids.map (.int .i64)) rfl (hu2.base hb24.size) g2 B.kids.length (B.kids.map (.int .i64)) rfl ((bn.below B2 hb25).src aZ (wW _)) (fun g hg=>ak (hsub2 g hg) hb25.size) hb25.size (by unfold maxLen;omega) (by omega) ?_
  intro ao6 c6 w6 hown6 hk6 hb6 hd6
  have hb26:Below w2.heap.size w2 w6:=hb25.trans hb6
  refine hK.out _ _ hb26 ?_
  (try simp only[Act.put,ai,au,aj])
  repeat ((refine bL (v:= ?_) rfl rfl (fun _ _ _ h=>h) rfl (fun W hW=> ?_) ?_);rotate_left;(focus ((try dsimp only at hW);have q0:=(hW.cell (p:=⟨na,0,none⟩) lna).trans e0;have q1:=(hW.cell (p:=⟨na,1,none⟩) lna).trans e1;have q2:=(hW.cell (p:=⟨na,2,none⟩) lna).trans e2;have q3:=(hW.cell (p:=⟨nbb,0,none⟩) lnb).trans f0;have q4:=(hW.cell (p:=⟨nbb,1,none⟩) lnb).trans f1;have q5:=(hW.cell (p:=⟨nbb,2,none⟩) lnb).trans f2;have q6:=ak lna hW.size;have q7:=ak lnb hW.size;first|(go_simp;first|done|with_reducible rfl)));(try simp only[Act.put,ai,au,aj]))
  refine dA rfl rfl rfl ?_;intro K hK;go_simp
  have hb7:=aF w6 (.cells #[.slice ao4 (A.pairs.length+B.pairs.length) c4,.slice none 0 0,.slice ao6 (A.kids.length+B.kids.length) c6] 260)
  have hb27:Below w2.heap.size w2 (w6.alloc (.cells #[.slice ao4 (A.pairs.length+B.pairs.length) c4,.slice none 0 0,.slice ao6 (A.kids.length+B.kids.length) c6] 260)):=hb26.trans (hb7.mono hb26.size)
  refine hK.out _ _ hb27 ?_
  (try simp only[Act.put,ai,au,aj])
  repeat ((refine bL (v:= ?_) rfl rfl (fun _ _ _ h=>h) rfl (fun W hW=> ?_) ?_);rotate_left;(focus ((try dsimp only at hW);have q0:=(hW.cell (p:=⟨na,0,none⟩) lna).trans e0;have q1:=(hW.cell (p:=⟨na,1,none⟩) lna).trans e1;have q2:=(hW.cell (p:=⟨na,2,none⟩) lna).trans e2;have q3:=(hW.cell (p:=⟨nbb,0,none⟩) lnb).trans f0;have q4:=(hW.cell (p:=⟨nbb,1,none⟩) lnb).trans f1;have q5:=(hW.cell (p:=⟨nbb,2,none⟩) lnb).trans f2;have q6:=ak lna hW.size;have q7:=ak lnb hW.size;first|(go_simp;first|done|with_reducible rfl)));(try simp only[Act.put,ai,au,aj]))
  refine bO ?_
  have hcn:fD (w6.alloc (.cells #[.slice ao4 (A.pairs.length+B.pairs.length) c4,.slice none 0 0,.slice ao6 (A.kids.length+B.kids.length) c6] 260)) S w6.heap.size ⟨A.pairs++B.pairs,[],A.kids++B.kids⟩:=by
   refine⟨fun hs=>absurd (hsub2 _ hs) (bE.2 hb26.size),_,_,_,aK w6 _,?_,bn.nil _ _ _,?_⟩
   ·have q1:=(hown4.below (hb5)).keep (w':=w6) (S':=S) (fun g hg hl hs=>⟨hk6.block g hl (fun e=>aP.Ij (hown4.below hb5) (hu2.base hb24.size) (by decide) g hg e),hs⟩)
    have:=(q1.below hb7).cZ
    unfold nN
    rw[av,ni]
    exact this
   ·have:=(hown6.below hb7).cZ
    unfold jq
    rw[av,bX]
    exact this
  have hnc:w2.heap.size<=w6.heap.size:=hb26.size
  have hbC:(w6.alloc (.cells #[.slice ao4 (A.pairs.length+B.pairs.length) c4,.slice none 0 0,.slice ao6 (A.kids.length+B.kids.length) c6] 260)).heap[w6.heap.size]? =some (.cells #[.slice ao4 (A.pairs.length+B.pairs.length) c4,.slice none 0 0,.slice ao6 (A.kids.length+B.kids.length) c6] 260 (0,0)):=aK w6 _
  have hz0:(Value.slice ao4 (A.pairs.length+B.pairs.length) c4).ownBlock≠some w6.heap.size:=hown4.lt' (aI hb5.size hb6.size)
  have hz2:(Value.slice ao6 (A.kids.length+B.kids.length) c6).ownBlock≠some w6.heap.size:=hown6.lt' (ax _)
  obtain⟨_,_,_,_,hbC',hP7,_,hI7⟩:=id hcn
  rw[hbC] at hbC'
  cases hbC'
  clear hown4 hown6 hu0 hu2 hb3 hb4 hb5 hb6 hb7 hk4 hk6 hd4 hd6 hb23 hb24 hb25 hb26 hbd HC1 HC2
  generalize (w6.alloc (.cells #[.slice ao4 (A.pairs.length+B.pairs.length) c4,.slice none 0 0,.slice ao6 (A.kids.length+B.kids.length) c6] 260))=w7 at hcn hb27 hbC hP7 hI7 ⊢
  generalize w6.heap.size=nc at hcn hnc hbC hz0 hz2 ⊢
  clear K hK
  have hHA7:=HA2.out.below hb27
  go_upto_if 91 with (first
   |(go_at_call 150;go_must ((refine(iZ na A _ S hHA7).mono ?_);rintro e w8 ⟨rfl,hw⟩;subst w8)))
  go_cut [] from 13 to 196 (fun wx=>fD wx S nc (dP A B k2)/\Below w2.heap.size w2 wx)
  case first=>
   by_cases hAk:A.kids=[]
   ·have hke:A.kids.isEmpty=true:=by rw[hAk];rfl
    have HAk:=af hAk;clear hAk
    rw[hke]
    go_wp2_with fail
    go_meet
    refine⟨?_,hb27⟩
    have:dP A B k2=⟨A.pairs++B.pairs,[],A.kids++B.kids⟩:=by unfold dP;rw[if_pos HAk.out]
    rw[this]
    exact hcn
   ·as_aux_lemma=>
     have hke:A.kids.isEmpty=false:=by cases hq:A.kids with|nil=>exact absurd hq hAk|cons a b=>rfl
     have hJe:dP A B k2=⟨A.pairs++B.pairs,A.keys++[k2]++B.keys,A.kids++B.kids⟩:=by unfold dP;rw[if_neg hAk]
     have HAk:=af hAk;clear hAk
     rw[hke]
     go_wp2_with fail
     have hcN:=hcn
     have bC:=hbC
     obtain⟨_,nc1,_,_,_,_,lnc⟩:=cells3 bC
     have hN7:=HN.out.below (hbw2.trans (hb27.mono hbw2.size))
     obtain⟨_,nv0,nv1,nv2,bN,_,hn1,_⟩:=hN7
     obtain⟨_,n1,_,_,_,_,lnn⟩:=cells3 bN
     obtain⟨kao,kcp,rfl,km0,km1,_,_⟩:=bn.form hn1
     obtain⟨kb0,ko0,rfl,nk1⟩:=bn.Bt hn1 rfl j (.string k2) (by rw[dM,HK.out];rfl)
     have lkk:=aH w7 _ nk1
     have hkj:(j:Int)<(nd.keys.length:Int):=by have:=HKK.out;omega
     have hbd:Below w7.heap.size w7 w7.drew:=(aO _ w7).drew
     have hsub7:∀g,S g->g<w7.heap.size:=fun g hg=>ak (hsub2 g hg) hb27.size
     have lak:A.keys.length<=1000000:=by have:=HA.out.fits.kk;omega
     have lbk:B.keys.length<=1000000:=by have:=HB.out.fits.kk;omega
     have e1:=(hb27.cell (p:=⟨na,1,none⟩) lna).trans e1
     have f1:=(hb27.cell (p:=⟨nbb,1,none⟩) lnb).trans f1
     have lna:=ak lna hb27.size
     have lnb:=ak lnb hb27.size
     have hC3:=rM a1 A.keys.length (A.keys.map .string) w7.drew S hsub7 (bn.below (bn.below A1 hb27) hbd) (nu _) lak
     have HC3:=af hC3;clear hC3
     refine mV (fun W=>Below w7.heap.size w7 W) (fun i=> !([5,13,14,19,22].contains i)) [0,1,2,3,4,6,7,8,9,10,11,12,15,16,17,18] 5 13 [13,14,19,20,21,22] [5,14,19,20,21,22] rfl (by kernel_rfl) hbd ?_
     repeat ((refine DY (v:= ?_) rfl rfl (fun _ _ _ h=>h) rfl (fun W hW=> ?_) ?_);rotate_left;(focus ((try dsimp only at hW);have q0:=(hW.cell (p:=⟨na,1,none⟩) lna).trans e1;have q1:=(hW.cell (p:=⟨nbb,1,none⟩) lnb).trans f1;have q2:=ak lna hW.size;have q3:=ak lnb hW.size;have q4:=(hW.cell (p:=⟨nb,1,none⟩) lnn).trans n1;have q5:=ak lnn hW.size;have q6:=(hW.cell (p:=⟨kb0,ko0+j,none⟩) lkk).trans nk1;have q7:=ak lkk hW.size;have q8:=(hW.cell (p:=⟨nc,1,none⟩) lnc).trans nc1;have q9:=ak lnc hW.size;first|(go_simp;first|done|with_reducible rfl)));(try simp only[Act.put,ai,au,aj]))
     refine wV (xD rfl rfl rfl rfl ?_ ?_)
     ·skip
      intro K hK;go_simp
      refine HC3.out.mono ?_;rintro e w9 ⟨u1,rfl,hu1,hb9⟩
      have hb79:Below w7.heap.size w7 w9:=hbd.trans hb9
      refine hK.out _ _ hb79 ?_
      (try simp only[Act.put,ai,au,aj])
      refine dA rfl rfl rfl ?_;intro K hK;go_simp
      have hb10:=aF w9 (.cells #[.string k2] 9)
      have hb710:Below w7.heap.size w7 (w9.alloc (.cells #[.string k2] 9)):=hb79.trans (hb10.mono hb79.size)
      refine hK.out _ _ hb710 ?_
      (try simp only[Act.put,ai,au,aj])
      have hown:=(hu1.below hb10)
      have hsrc:Src Tryz.prog 1 22 (.slice (some ⟨w9.heap.size,0,none⟩) 1 1) 1 [.string k2] (w9.alloc (.cells #[.string k2] 9)):=gY (w:=w9) [.string k2] 9 1 1 1 rfl aW rfl (by intro u hu;rw[bK.1 hu];rfl)
      generalize w9.alloc (.cells #[.string k2] 9)=w10 at hb710 hown hsrc ⊢
      generalize w9.heap.size=kb9 at hsrc ⊢
      refine dA rfl rfl rfl ?_;intro K hK
      refine mE (.tmp 97) (.tmp 105) 22 22 rfl S w7.heap.size 9 1 16 _ aW gu rfl u1 A.keys.length (A.keys.map .string) rfl hown (.slice (some ⟨kb9,0,none⟩) 1 1) 1 [.string k2] rfl hsrc (fun g hg=>ak (hsub7 g hg) hb710.size) hb710.size (by unfold maxLen;omega) (by omega) ?_
      intro ao11 c11 w11 hown11 hk11 hb11 hd11
      have hb711:Below w7.heap.size w7 w11:=hb710.trans hb11
      refine hK.out _ _ hb711 ?_
      (try simp only[Act.put,ai,au,aj])
      refine dA rfl rfl rfl ?_;intro K hK
      refine mE (.tmp 106) (.tmp 110) 22 22 rfl S w7.heap.size 9 1 16 _ aW gu rfl (.slice ao11 (A.keys.length+1) c11) (A.keys.length+1) _ rfl hown11 g1 B.keys.length (B.keys.map .string) rfl ((bn.below (bn.below B1 hb27) hb711).src aW (nu _)) (fun g hg=>ak (hsub7 g hg) hb711.size) hb711.size (by unfold maxLen;omega) (by omega) ?_
      intro ao12 c12 w12 hown12 hk12 hb12 hd12
      have hb712:Below w7.heap.size w7 w12:=hb711.trans hb12
      refine hK.out _ _ hb712 ?_
      (try simp only[Act.put,ai,au,aj])
      repeat ((refine bL (v:= ?_) rfl rfl (fun _ _ _ h=>h) rfl (fun W hW=> ?_) ?_);rotate_left;(focus ((try dsimp only at hW);have q0:=(hW.cell (p:=⟨na,1,none⟩) lna).trans e1;have q1:=(hW.cell (p:=⟨nbb,1,none⟩) lnb).trans f1;have q2:=ak lna hW.size;have q3:=ak lnb hW.size;have q4:=(hW.cell (p:=⟨nb,1,none⟩) lnn).trans n1;have q5:=ak lnn hW.size;have q6:=(hW.cell (p:=⟨kb0,ko0+j,none⟩) lkk).trans nk1;have q7:=ak lkk hW.size;have q8:=(hW.cell (p:=⟨nc,1,none⟩) lnc).trans nc1;have q9:=ak lnc hW.size;first|(go_simp;first|done|with_reducible rfl)));(try simp only[Act.put,ai,au,aj]))
      have hnc12:=(hb712.block nc lnc).trans bC
      obtain⟨_,m1,_,_,mf,_,lm⟩:=cells3 hnc12
      refine jf rfl rfl rfl (by kernel_rfl) ?_;intro K hK;go_simp
      refine hK.out _ _ ?_
      refine bO ?_
      go_wp2_with fail
      go_meet
      refine⟨?_,hb27.trans ((hb712.mono hb27.size).setCell hnc _)⟩
      rw[hJe]
      exact wX hnc12 (fun hs=>absurd (hsub2 _ hs) (bE.2 hnc)) (bn.below hP7 hb712) (bn.below hI7 hb712) hz0 hz2 (by
       have:=hown12.cZ
       rw[show A.keys.map Value.string++[Value.string k2]++B.keys.map Value.string=(A.keys++[k2]++B.keys).map Value.string from by simp] at this
       unfold iL
       rw[show (A.keys++[k2]++B.keys).length=A.keys.length+1+B.keys.length from by rw[av,av,eB]]
       exact this) (hown12.ne hnc12 (by decide))
     ·skip
      intro K hK;go_simp
      have hb79:Below w7.heap.size w7 (w7.alloc (.cells #[.string k2] 9)).drew:=(aF w7 (.cells #[.string k2] 9)).drew
      refine hK.out _ _ hb79 ?_
      (try simp only[Act.put,ai,au,aj])
      have hown0:=(mq (w:=w7) (S:=S) (B:=w7.heap.size) (e:=9) (k:=1) [.string k2] 1 1 rfl rfl (ax _) (by simp[maxLen]) (ax _) hsub7).drew
      generalize (w7.alloc (.cells #[.string k2] 9)).drew=w9 at hb79 hown0 ⊢
      have hC4:=rM a1 A.keys.length (A.keys.map .string) w9 S (fun g hg=>ak (hsub7 g hg) hb79.size) (bn.below (bn.below A1 hb27) hb79) (nu _) lak
      have HC4:=af hC4;clear hC4
      refine dA rfl rfl rfl ?_;intro K hK;go_simp
      refine HC4.out.mono ?_;rintro e w10 ⟨u1,rfl,hu1,hb10⟩
      have hb710:Below w7.heap.size w7 w10:=hb79.trans (hb10.mono hb79.size)
      refine hK.out _ _ hb710 ?_
      (try simp only[Act.put,ai,au,aj])
      have hown:=hu1.base (B:=w7.heap.size) hb79.size
      have hsrc:Src Tryz.prog 1 22 (.slice (some ⟨w7.heap.size,0,none⟩) 1 1) 1 [.string k2] w10:=(hown0.below hb10).cZ.src aW (by intro u hu;rw[bK.1 hu];rfl)
      refine dA rfl rfl rfl ?_;intro K hK
      refine mE (.tmp 97) (.tmp 105) 22 22 rfl S w7.heap.size 9 1 16 _ aW gu rfl u1 A.keys.length (A.keys.map .string) rfl hown (.slice (some ⟨w7.heap.size,0,none⟩) 1 1) 1 [.string k2] rfl hsrc (fun g hg=>ak (hsub7 g hg) hb710.size) hb710.size (by unfold maxLen;omega) (by omega) ?_
      intro ao11 c11 w11 hown11 hk11 hb11 hd11
      have hb711:Below w7.heap.size w7 w11:=hb710.trans hb11
      refine hK.out _ _ hb711 ?_
      (try simp only[Act.put,ai,au,aj])
      refine dA rfl rfl rfl ?_;intro K hK
      refine mE (.tmp 106) (.tmp 110) 22 22 rfl S w7.heap.size 9 1 16 _ aW gu rfl (.slice ao11 (A.keys.length+1) c11) (A.keys.length+1) _ rfl hown11 g1 B.keys.length (B.keys.map .string) rfl ((bn.below (bn.below B1 hb27) hb711).src aW (nu _)) (fun g hg=>ak (hsub7 g hg) hb711.size) hb711.size (by unfold maxLen;omega) (by omega) ?_
      intro ao12 c12 w12 hown12 hk12 hb12 hd12
      have hb712:Below w7.heap.size w7 w12:=hb711.trans hb12
      refine hK.out _ _ hb712 ?_
      (try simp only[Act.put,ai,au,aj])
      repeat ((refine bL (v:= ?_) rfl rfl (fun _ _ _ h=>h) rfl (fun W hW=> ?_) ?_);rotate_left;(focus ((try dsimp only at hW);have q0:=(hW.cell (p:=⟨na,1,none⟩) lna).trans e1;have q1:=(hW.cell (p:=⟨nbb,1,none⟩) lnb).trans f1;have q2:=ak lna hW.size;have q3:=ak lnb hW.size;have q4:=(hW.cell (p:=⟨nb,1,none⟩) lnn).trans n1;have q5:=ak lnn hW.size;have q6:=(hW.cell (p:=⟨kb0,ko0+j,none⟩) lkk).trans nk1;have q7:=ak lkk hW.size;have q8:=(hW.cell (p:=⟨nc,1,none⟩) lnc).trans nc1;have q9:=ak lnc hW.size;first|(go_simp;first|done|with_reducible rfl)));(try simp only[Act.put,ai,au,aj]))
      have hnc12:=(hb712.block nc lnc).trans bC
      obtain⟨_,m1,_,_,mf,_,lm⟩:=cells3 hnc12
      refine jf rfl rfl rfl (by kernel_rfl) ?_;intro K hK;go_simp
      refine hK.out _ _ ?_
      refine bO ?_
      go_wp2_with fail
      go_meet
      refine⟨?_,hb27.trans ((hb712.mono hb27.size).setCell hnc _)⟩
      rw[hJe]
      exact wX hnc12 (fun hs=>absurd (hsub2 _ hs) (bE.2 hnc)) (bn.below hP7 hb712) (bn.below hI7 hb712) hz0 hz2 (by
       have:=hown12.cZ
       rw[show A.keys.map Value.string++[Value.string k2]++B.keys.map Value.string=(A.keys++[k2]++B.keys).map Value.string from by simp] at this
       unfold iL
       rw[show (A.keys++[k2]++B.keys).length=A.keys.length+1+B.keys.length from by rw[av,av,eB]]
       exact this) (hown12.ne hnc12 (by decide))
  case rest=>
   as_aux_lemma=>
    obtain⟨wb,rfl⟩:∃x:World,x=wc:=⟨_,rfl⟩
    obtain⟨hcJ,hb2c⟩:=hcut
    obtain⟨aA,cA,rfl,_,_,_,_⟩:=bn.form A2
    obtain⟨aB,cB,rfl,_,_,_,_⟩:=bn.form B2
    have e2:=(hb2c.cell (p:=⟨na,2,none⟩) lna).trans e2
    have f2:=(hb2c.cell (p:=⟨nbb,2,none⟩) lnb).trans f2
    have lna:=ak lna hb2c.size
    have lnb:=ak lnb hb2c.size
    have hJs:=okJ.size_le
    go_upto_region 9 with fail
    go_cut [132] from 13 to 196 (fun x wx=>x= .bool (decide (512<(dP A B k2).size/\A.kids.length≠1/\B.kids.length≠1))/\Below wb.heap.size wb wx)
    case first=>
     by_cases t1:512<(dP A B k2).size
     ·have s1:(512:Int)<((dP A B k2).size:Int):=by omega
      have T1:=af t1;clear t1
      by_cases t2:A.kids.length=1
      ·have s2:(A.kids.length:Int)=1:=by omega
       have T2:=af t2;clear t2
       go_wp2_with (first
        |(go_at_call 252;go_must ((refine(mY nc _ _ S hcJ hJs).mono ?_);rintro e w8 ⟨rfl,hb8⟩;have e3:=(hb8.cell (p:=⟨na,2,none⟩) lna).trans e2;have f3:=(hb8.cell (p:=⟨nbb,2,none⟩) lnb).trans f2;have lna3:=ak lna hb8.size;have lnb3:=ak lnb hb8.size;clear e2 f2)))
       go_meet
       exact⟨by rw[bP (fun h=>h.2.1 T2.out)],hb8⟩
      ·have s2:¬(A.kids.length:Int)=1:=by omega
       have s2':((A.kids.length:Int)==1)=false:=by rw[dZ];omega
       have T2:=af t2;clear t2
       by_cases t3:B.kids.length=1
       ·have s3:(B.kids.length:Int)=1:=by omega
        have T3:=af t3;clear t3
        go_wp2_with (first
         |(go_at_call 252;go_must ((refine(mY nc _ _ S hcJ hJs).mono ?_);rintro e w8 ⟨rfl,hb8⟩;have e3:=(hb8.cell (p:=⟨na,2,none⟩) lna).trans e2;have f3:=(hb8.cell (p:=⟨nbb,2,none⟩) lnb).trans f2;have lna3:=ak lna hb8.size;have lnb3:=ak lnb hb8.size;clear e2 f2)))
        go_meet
        exact⟨by rw[bP (fun h=>h.2.2 T3.out)],hb8⟩
       ·have s3:¬(B.kids.length:Int)=1:=by omega
        have s3':((B.kids.length:Int)==1)=false:=by rw[dZ];omega
        have T3:=af t3;clear t3
        go_wp2_with (first
         |(go_at_call 252;go_must ((refine(mY nc _ _ S hcJ hJs).mono ?_);rintro e w8 ⟨rfl,hb8⟩;have e3:=(hb8.cell (p:=⟨na,2,none⟩) lna).trans e2;have f3:=(hb8.cell (p:=⟨nbb,2,none⟩) lnb).trans f2;have lna3:=ak lna hb8.size;have lnb3:=ak lnb hb8.size;clear e2 f2)))
        go_meet
        exact⟨by rw[eY ⟨T1.out,T2.out,T3.out⟩];have q2:=T2.out;have q3:=T3.out;congr 1;rw[dU];constructor<;>rw[bne_iff_ne]<;>omega,hb8⟩
     ·have s1:¬(512:Int)<((dP A B k2).size:Int):=by omega
      have T1:=af t1;clear t1
      go_wp2_with (first
       |(go_at_call 252;go_must ((refine(mY nc _ _ S hcJ hJs).mono ?_);rintro e w8 ⟨rfl,hb8⟩;clear e2 f2)))
      go_meet
      exact⟨by rw[bP (fun h=>T1.out h.1)],hb8⟩
    case rest=>
     obtain⟨rfl,hbcd⟩:=hcut
     have hbw:Below w.heap.size w wc:=(hbw2.trans (hb2c.mono hbw2.size)).trans (hbcd.mono (aI hbw2.size hb2c.size))
     have hcJ':=hcJ.below hbcd
     have hIc:=HI.out.below hbw
     have hTc:=(HT.out).step hst (Step.of_below (S:=S) hbw)
     have hNc:=HN.out.below hbw
     have hSJc:=HSJ.out.step (Step.of_below (S:=S) hbw) hst hSb hSp
     clear hb2c hbcd hcJ e2 f2 lna lnb hb27 hP7 hI7 hcn hbC hz0 hz2 hHA7 hb1 hb2 HI1 HI2 hsj2 e0 e1 f0 f1 A0 A1 B0 B1
     by_cases hout:512<(dP A B k2).size/\A.kids.length≠1/\B.kids.length≠1
     ·have ho:decide (512<(dP A B k2).size/\A.kids.length≠1/\B.kids.length≠1)=true:=eY hout
      rw[ho]
      have HO:=af hout;clear hout ho
      go_wp2_with fail
      refine eO (zK rfl _ _ _) rfl ?_
      exact .inl ⟨rfl,σ,S,nd,hIc,hNc,Keep.of_below hbw _,fun g hg=> .inl hg,.inl ⟨HO.out.1,HO.out.2.1,HO.out.2.2,rfl,rfl⟩⟩
     ·have ho:decide (512<(dP A B k2).size/\A.kids.length≠1/\B.kids.length≠1)=false:=bP hout
      rw[ho]
      have HNO:=af hout
      clear hout ho
      have hf1:=qN mp σ S wc.drew b1 (hIc.below ((aO _ wc).drew)) HA.out.lo HA.out.has
      have HF1:=af hf1;clear hf1
      have hm:∀w,(method 607 123 mp.agg "Free").run Tryz.prog w= .ok (382,.pointer (some ⟨mp.mp,0,none⟩)) w:=fun _=>by kernel_rfl
      obtain⟨q0,q1,q2,q3,q4,q5,q6⟩:=hSJc.cells
      clear q0 q1 q2 q3 q4 q5 q6
      have hj5:(j:Int)<(nd.kids.length:Int):=by omega
      have hj6:(j:Int)+1<(nd.kids.length:Int):=by omega
      go_wp2_with fail
      refine aN (fun W=>SJ t mp nb pb po j nd.kids.length cp2 root err b1 b2 v0 v1 W) (fun i=> !([13,14].contains i)) [0,1,2,3,4,5,6,7,8,9,10,11,12,13,14] rfl (by kernel_rfl) hSJc ?_
      repeat ((refine bL (v:= ?_) rfl rfl (fun _ _ _ h=>h) rfl (fun W hW=> ?_) ?_);rotate_left;(focus ((try dsimp only at hW);obtain⟨q0,q1,q2,q3,q4,q5,q6⟩:=hW.cells;first|(go_simp;first|done|with_reducible rfl)));(try simp only[Act.put,ai,au,aj]))
      refine dA rfl rfl rfl ?_;intro K hK;go_simp
      refine HF1.out.mono ?_;rintro e w3 ⟨rfl,hI3,hs3⟩
      have hs3:Step S S wc w3:=(Step.of_below ((aO _ wc).drew)).trans hs3
      have hSJ3:=hSJc.step hs3 hst hSb hSp
      refine hK.out _ _ hSJ3 ?_
      (try simp only[Act.put,ai,au,aj])
      refine dA rfl rfl rfl ?_;intro K hK;go_simp
      refine(ny _).mono ?_;rintro e w4 ⟨rfl,hw⟩;subst w4
      refine hK.out _ _ hSJ3 ?_
      refine bO ?_
      have hf2:=qN mp (σ.gone b1) S w3.drew b2 (hI3.below ((aO _ w3).drew)) HB.out.lo HB2.out
      have HF2:=af hf2;clear hf2
      have hpw:IntKind.i64.wrap ((j:Int)+1)=(j:Int)+1:=aM _ (by omega)
      have hpt:((j:Int)+1).toNat=j+1:=by omega
      have hp0:(0:Int)<=(j:Int)+1:=by omega
      go_wp2_with fail
      refine aN (fun W=>SJ t mp nb pb po j nd.kids.length cp2 root err b1 b2 v0 v1 W) (fun i=> !([14,15].contains i)) [0,1,2,3,4,5,6,7,8,9,10,11,12,13,14,15] rfl (by kernel_rfl) hSJ3 ?_
      repeat ((refine bL (v:= ?_) rfl rfl (fun _ _ _ h=>h) rfl (fun W hW=> ?_) ?_);rotate_left;(focus ((try dsimp only at hW);obtain⟨q0,q1,q2,q3,q4,q5,q6⟩:=hW.cells;first|(go_simp;first|done|with_reducible rfl)));(try simp only[Act.put,ai,au,aj]))
      refine dA rfl rfl rfl ?_;intro K hK;go_simp
      refine HF2.out.mono ?_;rintro e w4 ⟨rfl,hI4,hs4⟩
      have hs4:Step S S w3 w4:=(Step.of_below ((aO _ w3).drew)).trans hs4
      have hSJ4:=hSJ3.step hs4 hst hSb hSp
      refine hK.out _ _ hSJ4 ?_
      (try simp only[Act.put,ai,au,aj])
      refine dA rfl rfl rfl ?_;intro K hK;go_simp
      refine(ny _).mono ?_;rintro e w5 ⟨rfl,hw⟩;subst w5
      refine hK.out _ _ hSJ4 ?_
      refine bO ?_
      clear hpw hpt hp0
      have hs14:Step S S wc w4:=hs3.trans hs4
      have hT4:=hTc.1.step hTc.2 hs14
      have hJ4:=hcJ'.step hs14
      have hN4:=hNc.step hs14
      have hst4:Step S S w w4:=(Step.of_below hbw).trans hs14
      clear hSJc hSJ3 hSJ4 hIc hTc hNc hI3 hs3 hs4 hcJ'
      go_wp2_with (first
       |(go_at_call 206;go_must ((refine(pE t mp root err _ ((σ.gone b1).gone b2) S nc (dP A B k2) ⟨#[]⟩ w4 hI4 hT4.1 hT4.2 hJ4 okJ (gB _)).mono ?_);rintro e w5 (⟨v,ps,zs,σ',S',rfl,hown,hspr,hputs,hI5,hs5⟩|⟨hno,rfl,τ,Sτ,g1,g2,g3,g4⟩)<;>refine Stop.of ?_)))
      rotate_left
      ·refine Stop.on ?_
       exact⟨rfl,.inr ⟨hno,rfl,τ,Sτ,g1,hst4.trans g2,g3,g4⟩⟩
      refine Stop.on ?_
      have hst5:Step S S' w w5:=hst4.trans hs5
      obtain⟨hSb5,n0,n1,n2,bN,N0,N1,N2⟩:=HN.out.step hst5
      obtain⟨ao0,cp0,rfl,_,_,_,_⟩:=bn.form N0
      obtain⟨ao1,cp1,rfl,_,_,_,_⟩:=bn.form N1
      obtain⟨ao2,cp2',rfl,_,_,_,_⟩:=bn.form N2
      have hkpos:0<nd.keys.length:=by have:=HKK.out;omega
      have hkl:nd.keys.length<=1000000:=by have:=HKK.out;omega
      have hjk:j<nd.keys.length:=by have:=HKK.out;omega
      have hne1:=OH bN N1 hkpos
      obtain⟨_,_,y2,_,_,_,ly⟩:=cells3 bN
      have hC5:=rO (.slice ao2 nd.kids.length cp2') nd.kids.length (nd.kids.map (.int .i64)) w5 S' hI5.sub N2 (wW _) (by omega)
      have HC5:=af hC5;clear hC5
      have hpw:IntKind.i64.wrap ((j:Int)+1)=(j:Int)+1:=aM _ (by omega)
      have hpw2:IntKind.i64.wrap ((j:Int)+2)=(j:Int)+2:=aM _ (by omega)
      go_wp2_with (first
       |(go_at_call 258;go_must (refine HC5.out.mono ?_;rintro e w6 ⟨u1,rfl,hu1,hb6⟩;refine Stop.of ?_)))
      refine Stop.on ?_
      obtain⟨g6,c6',rfl,_,_,hg6,_⟩:=hu1.C9 (by omega)
      have hD6:=IU g6 c6' nd.kids.length (j+1) (nd.kids.map (.int .i64)) w6 S' w5.heap.size hu1 (wW _) (by omega) (by omega)
      rw[show ((j+1:Nat):Int)=(j:Int)+1 from by omega,show (j:Int)+1+1=(j:Int)+2 from by omega] at hD6
      have HD6:=af hD6;clear hD6
      go_wp2_with (first
       |(go_at_call 260;go_must (refine HD6.out.mono ?_;rintro e w7 ⟨c7,rfl,hu7,hk7⟩;refine Stop.of ?_)))
      refine Stop.on ?_
      have hgb:nb≠g6:=fun e=>by rw[<-e] at hg6;exact absurd ly (bE.2 hg6)
      have ly6:=ak ly hb6.size
      have bN7:w7.heap[nb]? =some (.cells #[.slice ao0 nd.pairs.length cp0,.slice ao1 nd.keys.length cp1,.slice ao2 nd.kids.length cp2'] 260 (0,0)):=(hk7.block nb ly6 hgb).trans ((hb6.block nb ly).trans bN)
      have hb57:Below w5.heap.size w5 w7:=hb6.trans (hk7.fP hb6.size (fun i hi e=>absurd hg6 (fE.2 (by rw[<-e];exact hi))))
      obtain⟨_,_,z2,_,_,zf,lz⟩:=cells3 bN7
      clear y2
      go_upto_region 14 with fail
      have hk8:Keep (· =nb) w7 (w7.setCell ⟨nb,2,none⟩ (.slice (some ⟨g6,0,none⟩) (nd.kids.length - 1) c7)):=Keep.setCell (M:=(· =nb)) (p:=⟨nb,2,none⟩) (Keep.refl _ _) (.inr rfl) _
      have bN8:(w7.setCell ⟨nb,2,none⟩ (.slice (some ⟨g6,0,none⟩) (nd.kids.length - 1) c7)).heap[nb]? =some (.cells #[.slice ao0 nd.pairs.length cp0,.slice ao1 nd.keys.length cp1,.slice (some ⟨g6,0,none⟩) (nd.kids.length - 1) c7] 260 (0,0)):=by
       simp[World.setCell,aS,bN7]
      clear z2 zf lz
      generalize w7.setCell ⟨nb,2,none⟩ (.slice (some ⟨g6,0,none⟩) (nd.kids.length - 1) c7)=w8 at hk8 bN8 ⊢
      have N18:iL w8 S' (.slice ao1 nd.keys.length cp1) nd.keys:=bn.keep (bn.below N1 hb57) fun g hg hl hs=>⟨hk8.block g hl (fun e=>hne1 (by rw[hg,e])),hs⟩
      have hu8:=hu7.keep (w':=w8) (S':=S') fun g hg hl hs=>⟨hk8.block g hl (fun e=>hu7.ne bN7 (by decide) (by rw[hg,e])),hs⟩
      have hbw8:∀g,g<w5.heap.size->g≠nb->w8.heap[g]? =w5.heap[g]? :=fun g hg hn=>(hk8.block g (ak hg hb57.size) hn).trans (hb57.block g hg)
      have hsz8:w5.heap.size<=w8.heap.size:=aI hb57.size hk8.size
      have hsub8:∀g,S' g->g<w8.heap.size:=fun g hg=>ak (hI5.sub g hg) hsz8
      obtain⟨_,y1,_,_,_,_,ly8⟩:=cells3 bN8
      have hC8:=rM (.slice ao1 nd.keys.length cp1) nd.keys.length (nd.keys.map .string) w8 S' hsub8 N18 (nu _) hkl
      have HC8:=af hC8;clear hC8
      go_wp2_with (first
       |(go_at_call 77;go_must (refine HC8.out.mono ?_;rintro e w9 ⟨u2,rfl,hu9,hb9⟩;refine Stop.of ?_)))
      refine Stop.on ?_
      obtain⟨g9,c9,rfl,_,_,hg9,_⟩:=hu9.C9 hkpos
      have hD9:=IQ g9 c9 nd.keys.length j (nd.keys.map .string) w9 S' w8.heap.size hu9 (nu _) hjk hkl
      have HD9:=af hD9;clear hD9
      go_wp2_with (first
       |(go_at_call 261;go_must (refine HD9.out.mono ?_;rintro e w10 ⟨c10,rfl,hu10,hk10⟩;refine Stop.of ?_)))
      refine Stop.on ?_
      have hgb9:nb≠g9:=fun e=>by rw[<-e] at hg9;exact absurd ly8 (bE.2 hg9)
      have bN10:w10.heap[nb]? =some (.cells #[.slice ao0 nd.pairs.length cp0,.slice ao1 nd.keys.length cp1,.slice (some ⟨g6,0,none⟩) (nd.kids.length - 1) c7] 260 (0,0)):=(hk10.block nb (ak ly8 hb9.size) hgb9).trans ((hb9.block nb ly8).trans bN8)
      have hb810:Below w8.heap.size w8 w10:=hb9.trans (hk10.fP hb9.size (fun i hi e=>absurd hg9 (fE.2 (by rw[<-e];exact hi))))
      obtain⟨_,z1,_,_,zf,_,lz⟩:=cells3 bN10
      clear y1
      go_upto_region 15 with fail
      have hk11:Keep (· =nb) w10 (w10.setCell ⟨nb,1,none⟩ (.slice (some ⟨g9,0,none⟩) (nd.keys.length - 1) c10)):=Keep.setCell (M:=(· =nb)) (p:=⟨nb,1,none⟩) (Keep.refl _ _) (.inr rfl) _
      have bN11:(w10.setCell ⟨nb,1,none⟩ (.slice (some ⟨g9,0,none⟩) (nd.keys.length - 1) c10)).heap[nb]? =some (.cells #[.slice ao0 nd.pairs.length cp0,.slice (some ⟨g9,0,none⟩) (nd.keys.length - 1) c10,.slice (some ⟨g6,0,none⟩) (nd.kids.length - 1) c7] 260 (0,0)):=by
       simp[World.setCell,aS,bN10]
      clear z1 zf lz
      generalize w10.setCell ⟨nb,1,none⟩ (.slice (some ⟨g9,0,none⟩) (nd.keys.length - 1) c10)=w11 at hk11 bN11 ⊢
      have hu11:=hu10.keep (w':=w11) (S':=S') fun g hg hl hs=>⟨hk11.block g hl (fun e=>hu10.ne bN10 (by decide) (by rw[hg,e])),hs⟩
      have hu811:=(hu8.below hb810).keep (w':=w11) (S':=S') fun g hg hl hs=>⟨hk11.block g hl (fun e=>(hu8.below hb810).ne bN10 (by decide) (by rw[hg,e])),hs⟩
      have hsz11:w5.heap.size<=w11.heap.size:=aI hsz8 (aI hb810.size hk11.size)
      have hbw11:∀g,g<w5.heap.size->g≠nb->w11.heap[g]? =w5.heap[g]? :=fun g hg hn=>(hk11.block g (ak hg (aI hsz8 hb810.size)) hn).trans ((hb810.block g (ak hg hsz8)).trans (hbw8 g hg hn))
      have hkeep:Keep (· =nb) w5 w11:=⟨hk11.os.trans (hb810.os.trans (hk8.os.trans hb57.os)),hk11.tape.trans (hb810.tape.trans (hk8.tape.trans hb57.tape)),hk11.output.trans (hb810.output.trans (hk8.output.trans hb57.output)),hsz11,fun g hg hn=>hbw11 g hg hn⟩
      have hlenk:(nd.jU j).kids.length=nd.kids.length - 1:=by simp[Nd.jU];omega
      have hlenks:(nd.jU j).keys.length=nd.keys.length - 1:=by simp[Nd.jU];omega
      have hN11:fD w11 S' nb (nd.jU j):=by
       refine⟨hSb5,_,_,_,bN11,?_,?_,?_⟩
       ·have e:(nd.jU j).pairs=[]:=HP.out
        rw[e]
        have N0':=N0
        unfold nN at N0' ⊢
        rw[HP.out] at N0' ⊢
        exact bn.empty N0' hsz11
       ·have:=hu11.cZ
        unfold iL
        rw[hlenks]
        have e:(nd.jU j).keys.map Value.string=(nd.keys.map Value.string).take (j*1)++(nd.keys.map Value.string).drop ((j+1)*1):=by simp[Nd.jU,gG,gH]
        rw[e];exact this
       ·have:=hu811.cZ
        unfold jq
        rw[hlenk]
        have e:(nd.jU j).kids.map (Value.int .i64)=(nd.kids.map (Value.int .i64)).take ((j+1)*1)++(nd.kids.map (Value.int .i64)).drop ((j+1+1)*1):=by simp[Nd.jU,gG,gH]
        rw[e];exact this
      have hown11:=hown.keep (w':=w11) (S':=S') fun g hg hl hs=>⟨hkeep.block g hl (fun e=>hown.ne bN (by decide) (by rw[hg,e])),hs⟩
      have hI11:=hI5.nD hkeep (fun g hg e=>hSb5 (by rw[<-e];exact hg))
      have hpl:ps.length<=100000:=by
       have e1:=hputs.length.1
       have e2:=hspr.room okJ
       have e3:=room_le okJ
       omega
      have hR:=yU nb (nd.jU j) v ps j w11 S' hI11.sub hN11 HP.out hown11.cZ (by rw[hlenk];omega) (by rw[hlenk,hlenks,HKK.out]) (by rw[hlenk];omega) hpl
      have HRp:=af hR;clear hR
      have HSP:=af hspr;clear hspr
      have HPU:=af hputs;clear hputs
      go_wp2_with (first
       |(go_at_call 209;go_must (refine HRp.out.mono ?_;rintro e w12 ⟨rfl,hN12,hk12⟩)))
      go_end0
      refine .inl ⟨rfl,σ',S',_,hI11.nD hk12 (fun g hg e=>hSb5 (by rw[<-e];exact hg)),hN12,?_,hst5.2,.inr ⟨ps,zs,HSP.out,HPU.out,rfl,HNO.out⟩⟩
      exact((hst5.1.mono (fun _ _ h=> .inl h)).trans hkeep (fun _ _ h=> .inr h)).trans hk12 (fun _ _ h=> .inr h)
def zG (σ σ':bY)(W:Nat):Prop:=σ'.sz<=σ.sz+W/\∀L,σ.sz+W<=L->σ.tk<=L->σ'.tk<=L
theorem zG.refl (σ:bY):zG σ σ 0:=⟨ax _,fun _ _ t=>t⟩
theorem zG.trans {σ σ1 σ2:bY}{a b:Nat}(h:zG σ σ1 a)(k:zG σ1 σ2 b):zG σ σ2 (a+b):=
 ⟨by have:=h.1;have:=k.1;omega,fun L r t=>k.2 L (by have:=h.1;omega) (h.2 L (by omega) t)⟩
theorem zG.more {σ σ':bY}{a b:Nat}(h:zG σ σ' a)(hb:a<=b):zG σ σ' b:=
 ⟨by have:=h.1;omega,fun L r t=>h.2 L (by omega) t⟩
theorem Puts.RS {σ σ':bY}{ps:List Pc}{zs:List (ByteArray×Nd)}(h:Puts σ ps zs σ'):zG σ σ' ps.length:=by
 obtain⟨e1,e2,_,_,e3⟩:=h.length
 exact⟨by omega,fun L r t=>by omega⟩
theorem uO.small {nd:Nd}{l:ByteArray}{zs:List (ByteArray×Nd)}(h:uO nd l zs)(hs:nd.size<=512):zs.length<=1:=by
 cases h with
 |none=>simp
 |one=>simp
 |leaf i hi hk hs'=>omega
 |inner i hi hk hs'=>omega
theorem Fe (ps:List Pr)(i:Nat):dO (ps.take i)+dO (ps.drop i)=dO ps:=by rw[<-jW,bJ]
theorem rD (ps:List ByteArray)(i:Nat):dI (ps.take i)+dI (ps.drop i)=dI ps:=by rw[<-ja,bJ]
theorem Fb (ps:List Pr){i j:Nat}(h:i<=j):dO (ps.take i)<=dO (ps.take j):=by
 have:=jD (ps.take j) i
 rwa [bZ,bq h] at this
theorem uQ.parts {ps:List Pr}(hp:∀p∈ps,p.1.size<=128/\p.2.size<=64){i:Nat}(h1:1<=i)(hi:i<ps.length)(h:uQ ⟨ps,[],[]⟩ i)(hs:Nd.size ⟨ps,[],[]⟩<=706):
  Nd.size ⟨ps.drop i,[],[]⟩<=512/\dO (ps.take (i - 1))<=353/\Nd.size ⟨ps.take i,[],[]⟩<=550:=by
 obtain⟨c1,c2⟩:=h
 have e:∀qs:List Pr,Nd.size ⟨qs,[],[]⟩=2+dO qs:=fun qs=>by simp[Nd.size,dI]
 rw[e] at hs c1 c2
 rw[e,e]
 have hd:=Fe ps i
 have ht:=ol ps (i - 1) (by omega)
 rw[show i - 1+1=i by omega] at ht
 have hq:=hp _ (bG (show i - 1<ps.length by omega))
 have hlo:dO (ps.take (i - 1))<=353:=by
  by_cases h2:1<i
  ·have:=c1 h2;simp only at this;omega
  ·rw[show i - 1=0 by omega];simp[dO]
 refine⟨?_,hlo,by omega⟩
 rcases c2 with c2|c2
 ·have hl:(ps.drop i).length<=1:=by simp only at c2;rw[aJ];omega
  have:=sP (ps.drop i) (fun p hp'=>hp p (bU hp'))
  omega
 ·simp only at c2;omega
theorem uO.Sr {nd:Nd}{l:ByteArray}{zs:List (ByteArray×Nd)}(h:uO nd l zs)(hk:nd.kids=[])(hkk:nd.keys=[])(hp:∀p∈nd.pairs,p.1.size<=128/\p.2.size<=64)(hs:nd.size<=706):zs.length<=3:=by
 obtain⟨ps,ks,ns⟩:=nd
 simp only at hk hkk hp
 subst hk hkk
 cases h with
 |none=>simp
 |one=>simp
 |inner i hi hk=>exact absurd rfl hk
 |leaf i hi hk hs' h1 hc sa sb=>
  obtain⟨a,b,c⟩:=uQ.parts hp h1 hi hc hs
  have e2:=sb.small a
  have e1:∀{A:List (ByteArray×Nd)},uO ⟨ps.take i,[],[]⟩ l A->A.length<=2:=by
   intro A sa
   have hp':∀p∈ps.take i,p.1.size<=128/\p.2.size<=64:=fun p hp'=>hp p (fo hp')
   cases sa with
   |none=>simp
   |one=>simp
   |inner i hi hk=>exact absurd rfl hk
   |leaf i2 hi2 hk2 hs2 h12 hc2 sa2 sb2=>
    obtain⟨a2,_,_⟩:=uQ.parts hp' h12 hi2 hc2 (by omega)
    have f2:=sb2.small a2
    have hi2':i2<(ps.take i).length:=hi2
    rw[aC] at hi2'
    have f1:=sa2.small (by
     show Nd.size ⟨(ps.take i).take i2,[],[]⟩<=512
     rw[bZ,bq (by omega)]
     have:=Fb ps (show i2<=i - 1 by omega)
     simp[Nd.size,dI];omega)
    rw[av];omega
  have:=e1 sa
  rw[av];omega
def Lh (K:Nat):Nat:=if K<=4 then 0 else if K<=8 then 1 else if K<=16 then 2 else if K<=32 then 3 else if K<=64 then 4 else if K<=128 then 5 else if K<=256 then 6 else if K<=512 then 7 else K
theorem uh (n:Nat):(n<=4/\Lh n=0)\/(4<n/\n<=8/\Lh n=1)\/(8<n/\n<=16/\Lh n=2)\/(16<n/\n<=32/\Lh n=3)\/(32<n/\n<=64/\Lh n=4)\/(64<n/\n<=128/\Lh n=5)\/(128<n/\n<=256/\Lh n=6)\/(256<n/\n<=512/\Lh n=7)\/(512<n/\Lh n=n):=by
 unfold Lh
 by_cases h0:n<=4
 ·exact .inl ⟨h0,if_pos h0⟩
 rw[if_neg h0]
 by_cases h1:n<=8
 ·exact .inr (.inl ⟨by omega,h1,if_pos h1⟩)
 rw[if_neg h1]
 by_cases h2:n<=16
 ·exact .inr (.inr (.inl ⟨by omega,h2,if_pos h2⟩))
 rw[if_neg h2]
 by_cases h3:n<=32
 ·exact .inr (.inr (.inr (.inl ⟨by omega,h3,if_pos h3⟩)))
 rw[if_neg h3]
 by_cases h4:n<=64
 ·exact .inr (.inr (.inr (.inr (.inl ⟨by omega,h4,if_pos h4⟩))))
 rw[if_neg h4]
 by_cases h5:n<=128
 ·exact .inr (.inr (.inr (.inr (.inr (.inl ⟨by omega,h5,if_pos h5⟩)))))
 rw[if_neg h5]
 by_cases h6:n<=256
 ·exact .inr (.inr (.inr (.inr (.inr (.inr (.inl ⟨by omega,h6,if_pos h6⟩))))))
 rw[if_neg h6]
 by_cases h7:n<=512
 ·exact .inr (.inr (.inr (.inr (.inr (.inr (.inr (.inl ⟨by omega,h7,if_pos h7⟩)))))))
 rw[if_neg h7]
 exact .inr (.inr (.inr (.inr (.inr (.inr (.inr (.inr (⟨by omega,rfl⟩))))))))
theorem PG {a b:Nat}(h:a<=b):Lh a<=Lh b:=by
 have h1:=uh a
 have h2:=uh b
 omega
theorem JJ {K a:Nat}(h:5<=K)(ha:2*a<=K+1):Lh a+1<=Lh K:=by
 have h1:=uh a
 have h2:=uh K
 omega
theorem uO.Rf {nd:Nd}{l:ByteArray}{zs:List (ByteArray×Nd)}(h:uO nd l zs):nd.Ok->nd.kids≠[]->zs.length<=1+(nd.size - 1)/512*Lh nd.kids.length:=by
 induction h with
 |none h1=>intro _ hk;exact absurd h1 hk
 |one=>intro _ _;simp
 |leaf i hi hk=>intro _ hk';exact absurd hk hk'
 |@inner nd l i hi A B hk hs hi1 sa sb iha ihb=>
  intro ok _
  have h5:=(ok.big hs).2 hk
  have n1:nd.kids.take i≠[]:=fun e=>by have:=congrArg List.length e;simp only[aC,bI] at this;omega
  have n2:nd.kids.drop i≠[]:=fun e=>by have:=congrArg List.length e;simp only[aJ,bI] at this;omega
  have a:=iha (ok.CV i (by omega)) n1
  have b:=ihb (ok.yw i) n2
  have hp:=ok.one hk
  have s1:Nd.size ⟨[],nd.keys.take (i - 1),nd.kids.take i⟩=2+dI (nd.keys.take (i - 1))+2*i:=by
   simp only[Nd.size,dO,iq,List.sum_nil,aC];omega
  have s2:Nd.size ⟨[],nd.keys.drop i,nd.kids.drop i⟩=2+dI (nd.keys.drop i)+2*(nd.kids.length - i):=by
   simp only[Nd.size,dO,iq,List.sum_nil,aJ];omega
  have s0:nd.size=2+dI nd.keys+2*nd.kids.length:=by
   unfold Nd.size;rw[hp];simp[dO]
  have t1:=rz nd.keys (i - 1) hi
  rw[show i - 1+1=i by omega] at t1
  have t2:=rD nd.keys i
  have hl1:(nd.kids.take i).length=i:=by rw[aC];omega
  have hl2:(nd.kids.drop i).length=nd.kids.length - i:=aJ
  simp only[hl1] at a
  simp only[hl2] at b
  have l1:=JJ (a:=i) h5 (by omega)
  have l2:=JJ (a:=nd.kids.length - i) h5 (by omega)
  obtain⟨m1,hm1⟩:∃m,m=(Nd.size ⟨[],nd.keys.take (i - 1),nd.kids.take i⟩ - 1)/512:=⟨_,rfl⟩
  obtain⟨m2,hm2⟩:∃m,m=(Nd.size ⟨[],nd.keys.drop i,nd.kids.drop i⟩ - 1)/512:=⟨_,rfl⟩
  obtain⟨m,hm⟩:∃m,m=(nd.size - 1)/512:=⟨_,rfl⟩
  have hmm:m1+m2<=m:=by rw[hm1,hm2,hm];omega
  have hm0:1<=m:=by omega
  rw[<-hm1] at a
  rw[<-hm2] at b
  rw[<-hm]
  generalize Lh nd.kids.length=K at l1 l2 ⊢
  have a':m1*Lh i<=m1*(K - 1):=mI _ (by omega)
  have b':m2*Lh (nd.kids.length - i)<=m2*(K - 1):=mI _ (by omega)
  have c':(m1+m2)*(K - 1)<=m*(K - 1):=bQ _ hmm
  rw[dX] at c'
  have d':m*K=m*(K - 1)+m:=by rw[<-Nat.mul_succ];congr 1;omega
  rw[av]
  omega
def TT (x K:Nat):Nat:=min ((511+131*x)/512*Lh K) (K/2 - 1)
theorem JI {x x' K K':Nat}(hx:x<=x')(hK:K<=K'):TT x K<=TT x' K':=by
 unfold TT
 have h1:(511+131*x)/512<=(511+131*x')/512:=JR (by omega)
 have h2:=Nat.mul_le_mul h1 (PG hK)
 omega
theorem uO.tt {nd:Nd}{l:ByteArray}{zs:List (ByteArray×Nd)}(h:uO nd l zs)(ok:nd.Ok)(hk:nd.kids≠[]){x K:Nat}(hs:nd.size<=512+131*x)(hK:nd.kids.length<=K):zs.length<=1+TT x K:=by
 refine aI ?_ (Nat.add_le_add_left (JI (ax x) hK) 1)
 have a:=h.Rf ok hk
 have b:=h.room ok
 have c:(nd.size - 1)/512*Lh nd.kids.length<=(511+131*x)/512*Lh nd.kids.length:=bQ _ (JR (by omega))
 unfold Nd.room at b
 rw[ok.one hk,if_neg hk] at b
 simp only[bI] at b
 unfold TT
 omega
def cA (l:Nat):Nat:=[0,594,519,132,24].getD l 0
def cB (l:Nat):Nat:=[0,3,1,38].getD l 24
def cX (h:Nat):Nat:=[2,7,12,20,24,20,14,8,4].getD h 2
def Wb (h W q c:Nat):Prop:=c<=299->24*W+cA (h+1)+cB (h+1)*(q - 1)<=672+3*c/\q - 1<=cX h
theorem Oz {q:Nat}(h:q<=3)(c:Nat):Wb 0 q q c:=fun _=>by
 show 24*q+594+3*(q - 1)<=672+3*c/\q - 1<=2
 omega
def Qc:Bool:=(List.range 9).all fun h=>(List.range (cX h+1)).all fun x=>(List.range (299/2^h+1)).all fun k=>
 decide (24*(2+TT x (k+1+x))+cA (h+2)+cB (h+2)*TT x (k+1+x)<=cA (h+1)+cB (h+1)*x+3*(k*2^h)\/k=0) && decide (TT x (k+1+x)<=cX (h+1)\/k=0)
def Tf (j:Nat):Nat:=[2,4,8,16,32,64,128,256].getD j 512
def Qb:Bool:=(List.range 8).all fun h=>(List.range (299/2^(h+1)+1)).all fun k=>(List.range 8).all fun j=>
 decide (299<k*2^(h+1)+Tf j*2^h)||(decide (24*(2+j+TT j (k+2+j))+cA (h+3)+cB (h+3)*TT j (k+2+j)<=cA (h+2)+3*(k*2^(h+1)+Tf j*2^h)) && decide (TT j (k+2+j)<=cX (h+2)))
theorem NK:Qc=true:=by decide+kernel
theorem NI:Qb=true:=by decide+kernel
end Go.Proofs.YtbfjgkafmlbpcaaGreatDoor
