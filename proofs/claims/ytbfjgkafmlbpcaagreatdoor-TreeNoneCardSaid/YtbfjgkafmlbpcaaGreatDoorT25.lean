/- parts -/
import Derived.Test.YtbfjgkafmlbpcaaGreatDoorT24
set_option maxRecDepth 100000
set_option maxHeartbeats 8000000
set_option linter.all false
namespace Go.Proofs.YtbfjgkafmlbpcaaGreatDoor
open Go.RowKit
structure VI (σ:Dk)(l:Lg)(p:Pg):Prop where
 free:σ.mH
 ld:l.dead=false
 pd:p.dead=false
 wt:σ.waits.length<=l.used
 rc:l.last<1000000000000->∃C,pX σ l p C
theorem VI.v0 {σ:Dk}{l:Lg}{p:Pg}(h:VI σ l p):RD σ l p:=⟨h.free,h.ld,h.pd,h.wt⟩
theorem IW {σ:Dk}{l:Lg}{p:Pg}{im:Im}(hV:VI σ l p)(hp:p.Ok σ l)(hl:l.Ok)(hi:im.Ok (p.blocks σ)):
  (im.ks=[]/\p.commit σ l im=(σ,l,p,l.last,0))\/
  (im.ks≠[]/\p.sU im/\p.commit σ l im=(σ,l,p,0,13))\/
  (im.ks≠[]/\¬p.sU im/\∃σ' l' p',p.commit σ l im=(σ',l',p',l.last+1,0)/\VI σ' l' p'/\l'.last=l.last+1/\p'.skip=p.skip/\p'.ring=p.ring/\σ'.n=σ.n/\∀b,p'.look Im.none σ' b=p.look im σ b):=by
 refine(Gd hV.v0 hp hl hi).imp_right (Or.imp_right ?_)
 rintro⟨h1,h2,σ',l',p',q1,q2,q3,q4⟩
 refine⟨h1,h2,σ',l',p',q1,⟨q2.free,q2.ld,q2.pd,q2.wt,fun hla=> ?_⟩,q3,q4⟩
 obtain⟨C,hC⟩:=hV.rc (by omega)
 rcases Gf hC hV.free.1 hV.ld hV.pd hi (by omega) with ⟨q,_⟩|⟨_,q,_⟩|⟨_,_,⟨_,_,_,q,_,_,_,_,_,_,_,_,_,r,_⟩|⟨_,_,_,q,_⟩⟩
 ·exact absurd q h1
 ·exact absurd q h2
 ·rw[q1] at q
  simp only[uY] at q
  obtain⟨rfl,rfl,rfl,_⟩:=q
  exact⟨_,r⟩
 ·rw[q1] at q
  simp at q
theorem Ml {σ:Dk}{l:Lg}{p:Pg}(hV:VI σ l p)(hp:p.Ok σ l):
  ∃σ' l',p.sync σ l=(σ',l',p,0)/\VI σ' l' p/\l'.last=l.last/\l'.synced=l.last/\σ'.n=σ.n/\∀im b,p.look im σ' b=p.look im σ b:=by
 obtain⟨σ',l',q1,q2,q3,q4⟩:=Kb hV.v0 hp
 refine⟨σ',l',q1,⟨q2.free,q2.ld,q2.pd,q2.wt,fun hla=> ?_⟩,q3,q4⟩
 obtain⟨C,hC⟩:=hV.rc (by omega)
 rcases Mq hC hV.free.1 hV.ld hV.pd with ⟨_,_,q,_,_,_,_,_,_,_,r,_⟩|⟨_,_,q,_⟩
 ·rw[q1] at q
  simp only[uY] at q
  obtain⟨rfl,rfl,_⟩:=q
  exact⟨_,r⟩
 ·rw[q1] at q
  simp at q
structure VJ (σ:Dk)(l:Lg)(p:Pg):Prop where
 nd:σ.dead=false
 ld:l.dead=false
 pd:p.dead=false
 wt:σ.waits.length<=l.used
 rc:l.last<1000000000000->∃C,pX σ l p C
theorem VI.vj {σ:Dk}{l:Lg}{p:Pg}(h:VI σ l p):VJ σ l p:=⟨h.free.1,h.ld,h.pd,h.wt,h.rc⟩
structure Uf (σ:Dk)(l:Lg)(p:Pg)(im:Im)(σ':Dk)(l':Lg)(p':Pg):Prop where
 vj:VJ σ' l' p'
 last:l'.last=l.last+1
 skip:p'.skip=p.skip
 ring:p'.ring=p.ring
 n:σ'.n=σ.n
 look:∀b,b<p.blocks σ->p'.look Im.none σ' b=p.look im σ b
 fu:σ.fuel= -1->σ'.fuel= -1
 wG:l.synced<=l'.synced
 Cb:∀C,pX σ l p C->pX σ' l' p' (D9 C (l.last+1) (p.look im σ))
structure Ue (σ:Dk)(l:Lg)(p:Pg)(σ':Dk)(l':Lg)(p':Pg):Prop where
 dead:σ'.dead=true
 fu:σ.fuel≠-1
 skip:p'.skip=p.skip
 n:σ'.n=σ.n
 wG:l.synced<=l'.synced
 last:l'.last=l.last
 Cb:∀C,pX σ l p C->Gv σ' l' p.skip (p.blocks σ) C
structure SX (σ:Dk)(l:Lg)(p:Pg)(σ':Dk)(l':Lg):Prop where
 vj:VJ σ' l' p
 last:l'.last=l.last
 wG:l'.synced=l.last
 n:σ'.n=σ.n
 look:∀im b,p.look im σ' b=p.look im σ b
 fu:σ.fuel= -1->σ'.fuel= -1
 wts:σ'.waits=[]
 Cb:∀C,pX σ l p C->pX σ' l' p C
structure nI where
 k:ByteArray
 s:ByteArray
 v:ByteArray
 b:List Int
def jF (es:List nI):List Pr:=es.map fun e=>(e.k,e.s)
def iU (es:List nI):List Pr:=es.map fun e=>(e.k,e.v)
def fe (es:List nI):List Int:=es.flatMap (·.b)
theorem tN (a b:List nI):jF (a++b)=jF a++jF b:=by simp[jF]
theorem lK (a b:List nI):iU (a++b)=iU a++iU b:=by simp[iU]
theorem lN (a b:List nI):fe (a++b)=fe a++fe b:=by simp[fe]
theorem Di (e:nI)(b:List nI):fe (e::b)=e.b++fe b:=by simp[fe]
theorem gF (es:List nI):(jF es).length=es.length:=by simp[jF]
theorem lI (es:List nI):(iU es).length=es.length:=by simp[iU]
def sj (es:List nI)(key:ByteArray):Nat:=(es.takeWhile fun e=>lt e.k key).length
theorem DU (f:nI->Pr)(hf:∀e,(f e).1=e.k)(es:List nI)(key:ByteArray):dw (es.map f) key=sj es key:=by
 unfold dw sj
 rw[List.takeWhile_map,kJ]
 congr 2
 funext e
 simp[hf]
theorem JD (f:nI->Pr)(hf:∀e,(f e).1=e.k)(es:List nI)(key:ByteArray):
  (∀o,es[sj es key]? =some o->o.k=key->dG (es.map f) key=some (f o).2/\(∀x,jT (es.map f) key x=(es.take (sj es key)).map f++(key,x)::(es.drop (sj es key+1)).map f)/\KW (es.map f) key=(es.take (sj es key)).map f++(es.drop (sj es key+1)).map f)/\
  ((∀o,es[sj es key]? =some o->o.k≠key)->dG (es.map f) key=none/\(∀x,jT (es.map f) key x=(es.take (sj es key)).map f++(key,x)::(es.drop (sj es key)).map f)/\KW (es.map f) key=es.map f):=by
 have hp:=DU f hf es key
 constructor
 ·intro o ho hk
  obtain⟨hl,_⟩:=bT.1 ho
  have hat:ou (es.map f) key=true:=by
   unfold ou
   rw[hp,dM,ho]
   simp[hf,hk]
  refine⟨?_,fun x=> ?_,?_⟩
  ·unfold dG
   rw[if_pos hat,hp,dM,ho];rfl
  ·unfold jT
   rw[if_pos hat,hp,PN,if_pos (by rw[kJ];exact hl),gG,gH]
  ·unfold KW
   rw[if_pos hat,hp,gG,gH]
 ·intro hno
  have hat:ou (es.map f) key=false:=by
   unfold ou
   rw[hp,dM]
   cases he:es[sj es key]? with
   |none=>rfl
   |some o=>simp[hf,hno o he]
  refine⟨?_,fun x=> ?_,?_⟩
  ·unfold dG
   rw[if_neg (by rw[hat];simp)]
  ·unfold jT
   rw[if_neg (by rw[hat];simp),hp,gG,gH]
  ·unfold KW
   rw[if_neg (by rw[hat];simp)]
structure zm (es:List nI)(key:ByteArray)(l o r:List nI):Prop where
 eq:es=l++o++r
 one:o=[]\/∃e,o=[e]/\e.k=key
 ls:dG (jF es) key=o.head?.map (·.s)
 lv:dG (iU es) key=o.head?.map (·.v)
 is:∀s v b,jT (jF es) key s=jF (l++⟨key,s,v,b⟩::r)
 iv:∀s v b,jT (iU es) key v=iU (l++⟨key,s,v,b⟩::r)
 ds:KW (jF es) key=jF (l++r)
 dv:KW (iU es) key=iU (l++r)
theorem NU (es:List nI)(key:ByteArray):∃l o r,zm es key l o r:=by
 have hs:=JD (fun e=>(e.k,e.s)) (fun _=>rfl) es key
 have hv:=JD (fun e=>(e.k,e.v)) (fun _=>rfl) es key
 by_cases h:∃o,es[sj es key]? =some o/\o.k=key
 ·obtain⟨o,ho,hk⟩:=h
  obtain⟨hl,he⟩:=bT.1 ho
  obtain⟨a1,a2,a3⟩:=hs.1 o ho hk
  obtain⟨b1,b2,b3⟩:=hv.1 o ho hk
  refine⟨es.take (sj es key),[o],es.drop (sj es key+1),?_,.inr ⟨o,rfl,hk⟩,a1,b1,fun s v b=> ?_,fun s v b=> ?_,?_,?_⟩
  ·rw[<-he,aL,List.singleton_append,List.getElem_cons_drop,bJ]
  ·rw[tN];exact a2 s
  ·rw[lK];exact b2 v
  ·rw[tN];exact a3
  ·rw[lK];exact b3
 ·have hno:∀o,es[sj es key]? =some o->o.k≠key:=fun o ho hk=>h ⟨o,ho,hk⟩
  obtain⟨a1,a2,a3⟩:=hs.2 hno
  obtain⟨b1,b2,b3⟩:=hv.2 hno
  refine⟨es.take (sj es key),[],es.drop (sj es key),?_,.inl rfl,a1,b1,fun s v b=> ?_,fun s v b=> ?_,?_,?_⟩
  ·rw[dW,bJ]
  ·rw[tN];exact a2 s
  ·rw[lK];exact b2 v
  ·rw[bJ];exact a3
  ·rw[bJ];exact b3
theorem uj.keep {σ σ':bY}{head size:Nat}{rs:List (Nat×Nat)}(h:uj σ head size rs)(h1:σ'.hasB head=true)(h2:σ'.mem head=σ.mem head):uj σ' head size rs:=by
 obtain⟨a,_,c,d,e,f,g⟩:=h
 exact⟨a,h1,by rw[h2];exact c,d,e,f,g⟩
theorem nV.keep {σ σ':bY}{head:Nat}{t:List UInt8}{rs:List (Nat×Nat)}(h:nV σ head t rs)(hk:∀x∈jL head rs,σ'.hasB x=true/\σ'.mem x=σ.mem x):nV σ' head t rs:=by
 have hin:∀b∈eU rs++[head],((b:Nat):Int)∈jL head rs:=fun b hb=>jy hb
 refine⟨h.hd.keep (hk _ (hin head (by simp))).1 (hk _ (hin head (by simp))).2,h.nd,fun i hi=> ?_⟩
 obtain⟨a,b,c⟩:=h.blk i hi
 have:=hk _ (hin (eU rs)[i] (dL _ (bG hi)))
 exact⟨this.1,b,this.2.trans c⟩
theorem ValAt.keep {σ σ':bY}{s v:ByteArray}{vb:List Int}(h:ValAt σ s v vb)(hk:∀x∈vb,σ'.hasB x=true/\σ'.mem x=σ.mem x):ValAt σ' s v vb:=by
 rcases h with h|⟨hd,rs,h1,h2,h3,h4⟩
 ·exact .inl h
 ·exact .inr ⟨hd,rs,h1,h2,h3.keep (fun x hx=>hk x (by rw[h4];exact hx)),h4⟩
theorem ValAt.all {σ:bY}{s v:ByteArray}{vb:List Int}(h:ValAt σ s v vb):∀x∈vb,σ.hasB x=true/\2<=x:=by
 rcases h with ⟨_,_,rfl⟩|⟨hd,rs,_,_,h3,rfl⟩
 ·intro x hx;cases hx
 ·exact h3.all
theorem dm.Tw {T:ByteArray->Option ByteArray->Int->List Pr->List Int->Prop}(hT:∀k z b c x,T k z b c x->∀y∈x,2<=y){hi:Option ByteArray}{l:List (ByteArray×Int)}{cs:List Pr}{bs:List Int}(h:dm T hi l cs bs):∀y∈bs,2<=y:=dm.has hT h
theorem iw.two {σ:bY}:∀{h m:Nat} {lo:ByteArray} {hi:Option ByteArray} {b:Int} {cs:List Pr} {bs:List Int},iw σ h m lo hi b cs bs->∀x∈bs,2<=x
 |0,_,_,_,_,_,_,⟨nd,h1,_,_,_,_,_,_,h8⟩=>by
  intro x hx
  rw[h8] at hx
  rw[bK.1 hx]
  exact h1.lo
 |h+1,_,_,_,_,_,_,⟨nd,bs',h1,_,_,_,h5,h6⟩=>by
  subst h5
  intro x hx
  rcases bM.1 hx with rfl|hx
  ·exact h1.lo
  ·exact dm.Tw (fun _ _ _ _ _ ht=>iw.two ht) h6 x hx
theorem Bu.two {σ:bY}{root:Int}{cs:List Pr}{bs:List Int}(h:Bu σ root cs bs):∀x∈bs,2<=x:=by
 rcases h with ⟨_,_,rfl⟩|⟨h,ht⟩
 ·intro x hx;cases hx
 ·exact ht.two
structure Own (σ:bY)(bs:List Int):Prop where
 nd:bs.Nodup
 ex:∀x,σ.hasB x=true->x=0\/x=1\/x∈bs
 size:σ.sz=countB σ.H.old σ.most+nh σ bs
theorem Own.BJ {σ σ':bY}{us bs:List Int}(h:Own σ us)(hc:lS σ σ' us bs):Own σ' bs:=by
 refine⟨hc.nd h.nd,fun x hx=> ?_,?_⟩
 ·rcases hc.ex x hx with y|⟨y,z⟩
  ·exact .inr (.inr y)
  ·exact(h.ex x y).imp id (fun e=>e.imp id (fun e=>absurd e z))
 ·have a:=hc.size
  have b:=h.size
  rw[hc.H,hc.most,wY hc.H]
  omega
structure Live (σ:bY)(root:Int)(es:List nI)(tb:List Int):Prop where
 tree:Bu σ root (jF es) tb
 val:∀e∈es,ValAt σ e.s e.v e.b
 own:Own σ (tb++fe es)
theorem Live.bb {σ:bY}{root:Int}{es:List nI}{tb:List Int}(h:Live σ root es tb):∀x∈fe es,σ.hasB x=true/\2<=x:=by
 intro x hx
 obtain⟨e,he,hx⟩:=uS.1 hx
 exact(h.val e he).all x hx
theorem Live.all {σ:bY}{root:Int}{es:List nI}{tb:List Int}(h:Live σ root es tb):∀x∈tb++fe es,σ.hasB x=true/\2<=x:=by
 intro x hx
 rcases bR.1 hx with hx|hx
 ·exact⟨h.tree.has x hx,h.tree.two x hx⟩
 ·exact h.bb x hx
theorem qL {a b:List Int}(h:(a++b).Nodup):∀x∈b,x∉a:=fun x hx ha=>(dK.1 h).2.2 x ha x hx rfl
theorem FB {σ σ1 σ2 σ3:bY}{root root':Int}{es l o r:List nI}{tb nb:List Int}{key s v:ByteArray}(hL:Live σ root es tb)(hA:zm es key l o r)(h1:lS σ σ1 (fe o) [])(h2:lS σ1 σ2 [] nb)(hv:ValAt σ2 s v nb){n:Nat}(h3:I8 σ2 tb (jT (jF es) key s) n σ3 root'):
  ∃tb',Live σ3 root' (l++⟨key,s,v,nb⟩::r) tb'/\lS σ σ3 (tb++fe es) (tb'++fe (l++⟨key,s,v,nb⟩::r)):=by
 obtain⟨tb',ht,h3,_,_⟩:=h3
 have hall:=hL.all
 have hn:=hL.own.nd
 have hes:=hA.eq
 have hbb:fe es=fe l++fe o++fe r:=by rw[hes,lN,lN]
 obtain⟨R,hR⟩:∃R,R=tb++fe l++fe r:=⟨_,rfl⟩
 have hp1:(tb++fe es).Perm (fe o++R):=by
  rw[hbb,hR]
  have:(tb++(fe l++fe o++fe r)).Perm (tb++(fe o++fe l++fe r)):=((gX).append_right _).append_left _
  refine this.trans ?_
  have e1:tb++(fe o++fe l++fe r)=tb++fe o++(fe l++fe r):=by simp
  have e2:fe o++(tb++fe l++fe r)=fe o++tb++(fe l++fe r):=by simp
  rw[e1,e2]
  exact gX.append_right _
 have hn1:=hp1.nodup_iff.1 hn
 have hRa:∀x∈R,σ.hasB x=true:=fun x hx=>(hall x (hp1.mem_iff.2 (eu _ hx))).1
 have c1:=h1.left (rs:=R) hn1 hRa
 have hR1:∀x∈R,σ1.hasB x=true:=fun x hx=>(c1.new x hx).1
 have c2:=h2.left (rs:=R) (c1.nd hn1) hR1
 have hn2:=c2.nd (c1.nd hn1)
 have hp3:(nb++R).Perm (tb++(nb++fe l++fe r)):=by
  rw[hR]
  have e1:nb++(tb++fe l++fe r)=nb++tb++(fe l++fe r):=by simp
  have e2:tb++(nb++fe l++fe r)=tb++nb++(fe l++fe r):=by simp
  rw[e1,e2]
  exact gX.append_right _
 have hn3:=hp3.nodup_iff.1 hn2
 have hS2:∀x∈nb++R,σ2.hasB x=true:=fun x hx=>(c2.new x hx).1
 have c3:=h3.left (rs:=nb++fe l++fe r) hn3 (fun x hx=>hS2 x (hp3.mem_iff.2 (eu _ hx)))
 have hbb':fe (l++⟨key,s,v,nb⟩::r)=fe l++(nb++fe r):=by rw[lN,Di]
 have hp4:(tb'++(nb++fe l++fe r)).Perm (tb'++fe (l++⟨key,s,v,nb⟩::r)):=by
  rw[hbb',<-aL (fe l)]
  exact(gX.append_right _).append_left _
 have C:lS σ σ3 (tb++fe es) (tb'++fe (l++⟨key,s,v,nb⟩::r)):=by
  have a:lS σ σ2 (tb++fe es) (tb++(nb++fe l++fe r)):=(c1.trans c2).perm hp1.symm hp3
  exact(a.trans c3).perm (kr _) hp4
 refine⟨tb',⟨?_,fun e he=> ?_,hL.own.BJ C⟩,C⟩
 ·rw[<-hA.is s v nb];exact ht
 ·have hoff:∀x∈nb++fe l++fe r,x∉tb:=qL hn3
  rcases bR.1 he with he|he
  ·have hin:∀x∈e.b,x∈fe l:=fun x hx=>uS.2 ⟨e,he,hx⟩
   refine(hL.val e (by rw[hes];exact dL _ (dL _ he))).keep fun x hx=> ?_
   have hxR:x∈R:=by rw[hR];exact dL _ (eu _ (hin x hx))
   have f1:=h1.frame x (hRa x hxR) (.inl (qL hn1 x hxR))
   have f2:=h2.frame x f1.1 (.inl (by simp))
   have f3:=h3.frame x f2.1 (.inl (hoff x (dL _ (eu _ (hin x hx)))))
   exact⟨f3.1,f3.2.trans (f2.2.trans f1.2)⟩
  ·rcases bM.1 he with rfl|he
   ·exact hv.keep fun x hx=>h3.frame x (hS2 x (dL _ hx)) (.inl (hoff x (dL _ (dL _ hx))))
   ·have hin:∀x∈e.b,x∈fe r:=fun x hx=>uS.2 ⟨e,he,hx⟩
    refine(hL.val e (by rw[hes];exact eu _ he)).keep fun x hx=> ?_
    have hxR:x∈R:=by rw[hR];exact eu _ (hin x hx)
    have f1:=h1.frame x (hRa x hxR) (.inl (qL hn1 x hxR))
    have f2:=h2.frame x f1.1 (.inl (by simp))
    have f3:=h3.frame x f2.1 (.inl (hoff x (eu _ (hin x hx))))
    exact⟨f3.1,f3.2.trans (f2.2.trans f1.2)⟩
theorem vT:∀(n:Nat) (f:Nat->Bool) (L:List Nat),L.Nodup->(∀x,x∈L↔x<n/\f x=true)->countB f n=L.length
 |0,f,L,_,h=>by
  cases L with
  |nil=>rfl
  |cons a L=>exact absurd ((h a).1 (aX ..)).1 (Nat.not_lt_zero _)
 |n+1,f,L,hn,h=>by
  rw[jr]
  by_cases hf:f n=true
  ·have hm:n∈L:=(h n).2 ⟨gB n,hf⟩
   have ih:=vT n f (L.erase n) (hn.erase n) (fun x=>by
    rw[hn.mem_erase_iff,h]
    constructor
    ·rintro⟨a,b,c⟩;exact⟨by omega,c⟩
    ·rintro⟨a,b⟩;exact⟨by omega,by omega,b⟩)
   rw[ih,hf,List.length_erase_of_mem hm]
   have:=List.length_pos_of_mem hm
   simp;omega
  ·have hf':f n=false:=by simpa using hf
   have ih:=vT n f L hn (fun x=>by
    rw[h]
    constructor
    ·rintro⟨a,b⟩
     exact⟨by have:x≠n:=fun e=>hf (e▸b);omega,b⟩
    ·rintro⟨a,b⟩;exact⟨by omega,b⟩)
   rw[ih,hf'];rfl
theorem Own.count {σ:bY}{bs:List Int}(h:Own σ bs)(hok:σ.Ok)(hb:∀x∈bs,σ.hasB x=true/\2<=x):countB σ.now σ.most=2+bs.length:=by
 obtain⟨L,hL⟩:∃L:List Nat,L=bs.map Int.toNat:=⟨_,rfl⟩
 have h2:=hok.two
 have hin:∀x∈L,2<=x/\x<σ.most/\σ.now x=true:=by
  intro x hx
  rw[hL] at hx
  obtain⟨y,hy,rfl⟩:=d9.1 hx
  obtain⟨n,e,a,b⟩:=bY.l8 (hb y hy).1
  have:=(hb y hy).2
  rw[e,fT]
  exact⟨by omega,a,b⟩
 have hnd:L.Nodup:=by
  rw[hL]
  refine List.Pairwise.map _ (R:=fun a b=>a≠b/\2<=a/\2<=b) (fun a b (hab:a≠b/\2<=a/\2<=b) e=>hab.1 (by omega)) ?_
  have:=h.nd
  exact List.Pairwise.imp_of_mem (fun ha hb' hab=>⟨hab,(hb _ ha).2,(hb _ hb').2⟩) this
 rw[vT σ.most σ.now (0::1::L) ?_ fun x=> ?_]
 ·rw[hL];simp;omega
 ·refine nO.2 ⟨fun e=> ?_,nO.2 ⟨fun e=> ?_,hnd⟩⟩
  ·rcases bM.1 e with e|e
   ·cases e
   ·have:=(hin 0 e).1;omega
  ·have:=(hin 1 e).1;omega
 ·constructor
  ·intro hx
   rcases bM.1 hx with rfl|hx
   ·exact⟨by omega,hok.n0⟩
   ·rcases bM.1 hx with rfl|hx
    ·exact⟨by omega,hok.n1⟩
    ·exact(hin x hx).2
  ·rintro⟨a,b⟩
   have hh:σ.hasB (x:Int)=true:=by unfold bY.hasB;rw[fT,b];simp[a]
   rcases h.ex x hh with e|e|e
   ·have:x=0:=by omega
    subst this;exact aX ..
   ·have:x=1:=by omega
    subst this;exact aU _ (aX ..)
   ·refine aU _ (aU _ ?_)
    rw[hL]
    exact d9.2 ⟨x,e,by simp⟩
theorem Pp (mp:VS)(root:Int)(w:World)(hr:0<=root):
  Calls Tryz.prog 64 #[.iface 123 mp.agg,.int .i64 root] w fun e w'=>e= .returned (.pointer (some ⟨w.heap.size,0,none⟩))/\cK w' w.heap.size mp root 0/\w'.heap.size=w.heap.size+1/\Below w.heap.size w w':=by
 have hr2:¬root<0:=by omega
 have heq:∀w:World,(binOp BinOp.eql 189 (.iface 123 mp.agg) .nilIface).run Tryz.prog w= .ok (.bool false) w:=fun _=>by kernel_rfl
 go_enter Tryz.func64,Tryz.ntmps64
 go_wp2_with fail
 go_ret
 exact⟨rfl,aK _ _,by simp,aF _ _⟩
def N7 (l:List UInt8)(root:Nat):Prop:=root<65536/\∃rest,l=[UInt8.ofNat root,UInt8.ofNat (root/256)]++rest
def bY.start (σ:Dk)(l:Lg)(p:Pg)(f:Nat->Bool):bY:=⟨⟨σ,l,p,f⟩,p.blocks σ,Im.none,f,countB f (p.blocks σ)⟩
theorem bY.Ok.start {σ:Dk}{l:Lg}{p:Pg}{f:Nat->Bool}(hp:p.Ok σ l)(hs:σ.Ok)(hd:p.dead=false)(hsd:σ.dead=false)(h2:2<=p.blocks σ)(hhi:∀b,p.blocks σ<=b->f b=false)(h0:f 0=true)(h1:f 1=true):(bY.start σ l p f).Ok:=by
 refine⟨hd,hsd,rfl,h2,?_,hhi,hhi,h0,h1,(fun b hb=>by cases hb),(fun b _ hn ho=> ?_),?_,fun b _=> ?_⟩
 ·have:=hs.hi
  show p.blocks σ<=4096
  unfold Pg.blocks;omega
 ·have hn':f b=true:=hn
  have ho':f b=false:=ho
  rw[hn'] at ho';cases ho'
 ·show countB (fun x=>f x||f x) (p.blocks σ)<=countB f (p.blocks σ)
  exact ow _ (fun x _ hx=>by simpa using hx)
 ·show (p.look Im.none σ b).length=512
  rw[Pg.CQ]
  unfold Im.find
  split
  ·exact hp.fresh.img _ ‹_›
  ·exact hs.get _
def Lm (pg d:Nat)(σ:Dk)(l:Lg)(p:Pg)(f:Nat->Bool)(root:Nat)(S:Nat->Prop)(w:World)(e:Ending)(w':World):Prop:=
 ∃t tr mp S',e= .returned (.tuple #[.pointer (some ⟨t,0,none⟩),.int .i64 0])/\mp.pg=pg/\mp.d=d/\w'.heap[t]? =some (.cells (fI mp (some tr) false 0) 128 (0,0))/\cK w' tr mp root 0/\Inv (bY.start σ l p f) S' mp w'/\Step S S' w w'/\¬S' t/\¬S' tr/\w.heap.size<=t/\w.heap.size<=tr
theorem Qx (v pg d:Nat)(σ:Dk)(l:Lg)(p:Pg)(f:Nat->Bool)(root:Nat)(S:Nat->Prop)(w:World)(hv:w.heap[v]? =some (.cells #[.pointer (some ⟨pg,0,none⟩)] 111 (0,0)))(hvS:¬S v)(h:kC w S pg d σ l p (.pointer none))(hd:p.dead=false)(hsd:σ.dead=false)(h2:2<=p.blocks σ)(hf:p.look Im.none σ 0=bytesOf f)(hhi:∀b,p.blocks σ<=b->f b=false)(h0:f 0=true)(h1:f 1=true)(hr:N7 (p.look Im.none σ 1) root):
  Calls Tryz.prog 21 #[.pointer (some ⟨v,0,none⟩)] w (Lm pg d σ l p f root S w):=by
 have hok:=bY.Ok.start h.ok.1 h.ok.2.1 hd hsd h2 hhi h0 h1
 have c0:w.cell? ⟨v,0,none⟩=some (.pointer (some ⟨pg,0,none⟩)):=by simp[World.cell?,hv]
 have hlt:=(ah.1 hv).1
 have HB:=af (MP pg d σ l p S w h hd)
 have HV:=af hv;have HOK:=af hok
 have hsub:=h.sub
 obtain⟨hr1,rest,hr2⟩:=hr
 have HF:=af (ay hf (ay hhi (ay h0 h1)))
 have HR2:=af hr2
 clear hv h hok hf hhi h0 h1 hr2
 go_enter Tryz.func21,Tryz.ntmps21
 go_wp2_with (first
  |(go_at_call 56;go_must (refine HB.out.mono ?_;rintro e w1 ⟨tx,T,rfl,hp1,htx1,hs1,hT1⟩;refine Stop.of ?_)))
 refine Stop.on ?_
 have hdis:∀g,S g->¬T g:=fun g hg e=>absurd (hT1 g e) (fE.2 (hsub g hg))
 have hv1:=(hs1.1.block v hlt hvS).trans HV.out
 have d0:w1.cell? ⟨v,0,none⟩=some (.pointer (some ⟨pg,0,none⟩)):=by simp[World.cell?,hv1]
 have hl1:=(ah.1 hv1).1
 have HBK:=af (DV pg d σ l p _ S w1 hp1)
 have HLD:=af (QH tx pg d σ l p _ Im.none S T f w1.drew (hp1.below ((aO _ w1).drew)) (htx1.below ((aO _ w1).drew)) hd hsd h2 HF.out.1 HF.out.2.1 HF.out.2.2.1 HF.out.2.2.2)
 have HP1:=af (ay hp1 (ay htx1 hs1))
 clear hv1 hp1 htx1 hs1
 go_wp2_with (first
  |(go_at_call 58;go_must (refine HBK.out.mono ?_;rintro e w2 ⟨rfl,hw2⟩;subst w2))
  |(go_at_call 61;go_must (refine HLD.out.mono ?_;rintro e w2 ⟨mp,rfl,hmp2,hmlo,hb2⟩;refine Stop.of ?_)))
 refine Stop.on ?_
 have hb12:Below w1.heap.size w1 w2:=((aO _ w1).drew).trans hb2
 have hp2:=HP1.out.1.below hb12
 have htx2:=HP1.out.2.1.below hb12
 have HRD:=tread tx pg d σ l p _ Im.none S T 1 w2 hp2 htx2 hd hsd (by omega)
 rw[HR2.out] at HRD
 have HRD:=af HRD
 go_wp2_with (first
  |(go_at_call 63;go_must (refine HRD.out.mono ?_;rintro e w3 ⟨rv,rfl,hrv3,hro3,hb3⟩;refine Stop.of ?_)))
 refine Stop.on ?_
 obtain⟨ro,rc,rfl,r1,r2,r3,r4⟩:=bn.form hrv3
 have hbt:=UInt8.toNat_lt (UInt8.ofNat root)
 have hbt2:=UInt8.toNat_lt (UInt8.ofNat (root/256))
 have e1:(UInt8.ofNat root).toNat=root%256:=by rw[dY]
 have e2:(UInt8.ofNat (root/256)).toNat=root/256:=by rw[dY];omega
 obtain⟨pb,po,rfl,e30⟩:=hrv3.Bt rfl 0 (.int .u8 ((root%256:Nat):Int)) (by simp[aD,e1])
 obtain⟨pb',po',e',e31⟩:=hrv3.Bt rfl 1 (.int .u8 ((root/256:Nat):Int)) (by simp[aD,e2])
 cases e'
 have hpb:=aH w3 _ e30
 obtain⟨lo,hlo⟩:∃n:Nat,n=root%256:=⟨_,rfl⟩
 obtain⟨hi,hhi⟩:∃n:Nat,n=root/256:=⟨_,rfl⟩
 rw[<-hlo] at e30
 rw[<-hhi] at e31
 have hlo2:lo<256:=by omega
 have hhi2:hi<256:=by omega
 have hroot:root=lo+256*hi:=by omega
 have q1:IntKind.i64.wrap (lo:Int)=(lo:Int):=aM _ (by omega)
 have q2:IntKind.i64.wrap (hi:Int)=(hi:Int):=aM _ (by omega)
 have p1:IntKind.i64.wrap ((hi:Int)*256)=((256*hi:Nat):Int):=by rw[aM _ (by omega)];omega
 have o1:=Fp lo hi 256 root 8 rfl hlo2 hroot (by omega)
 have HRT:=af hroot
 obtain⟨m1,hm1⟩:∃m:Nat,Hid (256*hi=m):=⟨_,af rfl⟩
 rw[hm1.out] at p1 o1
 have HP3:=af (ay (hp2.below hb3) (ay (htx2.below hb3) (hb12.trans (hb3.mono hb12.size))))
 have hmp3:=af ((hb3.block mp (ah.1 hmp2).1).trans hmp2)
 clear hrv3 hro3 e1 e2 hbt hbt2 hlo hhi hroot hp2 htx2 hmp2
 go_upto_region 15 with (fail)
 have hb4:=aF w3 (.cells #[.pointer (some ⟨tx,0,none⟩),.pointer (some ⟨mp,0,none⟩)] 123)
 have h4:=aK w3 (.cells #[.pointer (some ⟨tx,0,none⟩),.pointer (some ⟨mp,0,none⟩)] 123)
 obtain⟨sb,hsb⟩:∃sb,Hid (w3.heap.size=sb):=⟨_,af rfl⟩
 obtain⟨w4,hw4⟩:∃w4,Hid (w3.alloc (.cells #[.pointer (some ⟨tx,0,none⟩),.pointer (some ⟨mp,0,none⟩)] 123)=w4):=⟨_,af rfl⟩
 rw[hw4.out] at hb4 h4 ⊢
 rw[hsb.out] at h4 ⊢
 have HCL:=af (show ∀W:World,Below w4.heap.size w4 W->(W.cell? ⟨sb,0,none⟩=some (.pointer (some ⟨tx,0,none⟩))/\W.cell? ⟨sb,1,none⟩=some (.pointer (some ⟨mp,0,none⟩))/\W.cell? ⟨pb,po,none⟩=some (.int .u8 (lo:Int))/\W.cell? ⟨pb,po+1,none⟩=some (.int .u8 (hi:Int))/\sb<W.heap.size/\pb<W.heap.size) from fun W hW=>by
  have hl:=(ah.1 h4).1
  have hl3:=ak hpb hb4.size
  have h5:=(hW.block sb hl).trans h4
  exact⟨by simp[World.cell?,h5],by simp[World.cell?,h5],(hW.cell (p:=⟨pb,po,none⟩) hl3).trans ((hb4.cell (p:=⟨pb,po,none⟩) hpb).trans e30),(hW.cell (p:=⟨pb,po+1,none⟩) hl3).trans ((hb4.cell (p:=⟨pb,po+1,none⟩) hpb).trans e31),ak hl hW.size,ak hl3 hW.size⟩)
 have HB4:=af hb4
 clear e30 e31 h4 hb4
 refine aN (fun W=>W.cell? ⟨sb,0,none⟩=some (.pointer (some ⟨tx,0,none⟩))/\W.cell? ⟨sb,1,none⟩=some (.pointer (some ⟨mp,0,none⟩))/\W.cell? ⟨pb,po,none⟩=some (.int .u8 (lo:Int))/\W.cell? ⟨pb,po+1,none⟩=some (.int .u8 (hi:Int))/\sb<W.heap.size/\pb<W.heap.size) (fun i=> !([13,15].contains i)) [0,1,2,3,4,5,6,7,8,9,10,11,12,13,14,15,16,17] rfl (by kernel_rfl) (HCL.out _ ((aO _ w4).drew)) ?_
 repeat ((refine bL (v:= ?_) rfl rfl (fun _ _ _ h=>h) rfl (fun W hW=> ?_) ?_);rotate_left;(focus ((try dsimp only at hW);obtain⟨a0,a1,a2,a3,a4,a5⟩:=hW;(go_simp;first|done|with_reducible rfl)));(try simp only[Act.put,ai,au,aj]))
 obtain⟨ms,hms⟩:∃ms:VS,ms=⟨tx,pg,d,mp⟩:=⟨_,rfl⟩
 have HBO:=af (Pp ms (root:Int) w4.drew (by omega))
 rw[hms] at HBO
 refine dA rfl rfl rfl ?_;intro K hK;go_simp
 refine HBO.out.mono ?_;rintro e w5 ⟨rfl,htr5,-,hb5⟩
 have hb45:Below w4.heap.size w4 w5:=((aO _ w4).drew).trans hb5
 refine hK.out _ _ (HCL.out _ hb45) ?_
 (try simp only[Act.put,ai,au,aj])
 repeat ((refine bL (v:= ?_) rfl rfl (fun _ _ _ h=>h) rfl (fun W hW=> ?_) ?_);rotate_left;(focus ((try dsimp only at hW);obtain⟨a0,a1,a2,a3,a4,a5⟩:=hW;(go_simp;first|done|with_reducible rfl)));(try simp only[Act.put,ai,au,aj]))
 refine dA rfl rfl rfl ?_;intro K hK;go_simp
 have hb6:=aF w5 (.cells #[.pointer (some ⟨tx,0,none⟩),.pointer (some ⟨mp,0,none⟩),.pointer (some ⟨w4.heap.size,0,none⟩),.bool false,.int .i64 0] 128)
 have h6:=aK w5 (.cells #[.pointer (some ⟨tx,0,none⟩),.pointer (some ⟨mp,0,none⟩),.pointer (some ⟨w4.heap.size,0,none⟩),.bool false,.int .i64 0] 128)
 have hb46:=hb45.trans (hb6.mono hb45.size)
 refine hK.out _ _ (HCL.out _ hb46) ?_
 (try simp only[Act.put,ai,au,aj])
 repeat ((refine bL (v:= ?_) rfl rfl (fun _ _ _ h=>h) rfl (fun W hW=> ?_) ?_);rotate_left;(focus ((try dsimp only at hW);obtain⟨a0,a1,a2,a3,a4,a5⟩:=hW;(go_simp;first|done|with_reducible rfl)));(try simp only[Act.put,ai,au,aj]))
 refine bO ?_
 go_wp2_with fail
 go_ret2
 have hb36:=HB4.out.trans (hb46.mono HB4.out.size)
 have hmpl:=(ah.1 hmp3.out).1
 have hT1':∀g,T g->w.heap.size<=g:=hT1
 have hl3:w1.heap.size<=w3.heap.size:=HP3.out.2.2.size
 have hl01:=HP1.out.2.2.1.size
 have hbt:w3.heap.size<=w4.heap.size:=HB4.out.size
 have hbu:w4.heap.size<=w5.heap.size:=hb45.size
 have hsub1:∀g,S g->g<w1.heap.size:=fun g hg=>ak (hsub g hg) hl01
 have hsubT:∀g,T g->g<w1.heap.size:=HP1.out.2.1.sub
 have hlo2':w1.heap.size<=mp:=hmlo
 refine⟨w5.heap.size,w4.heap.size,⟨tx,pg,d,mp⟩,fun g=>S g\/T g\/g=mp,rfl,rfl,rfl,h6,?_,⟨S,T,⟨HOK.out,HP3.out.1.below hb36,HP3.out.2.1.below hb36,(hb36.block mp hmpl).trans hmp3.out,hdis,fun e=>absurd (hsub1 mp e) (bE.2 hlo2'),fun e=>absurd (hsubT mp e) (bE.2 hlo2')⟩,fun g=>Iff.rfl⟩,⟨?_,fun g hg=> ?_⟩,?_,?_,?_,?_⟩
 ·exact(hb6.block _ (ah.1 htr5).1).trans htr5
 ·refine(HP1.out.2.2.1.trans (Keep.of_below (HP3.out.2.2.trans (hb36.mono hl3)) gJ) (fun _ _ e=>e.elim))
 ·rcases hg with hg|hg|hg
  ·exact .inl hg
  ·exact .inr (hT1' g hg)
  ·exact .inr (by rw[hg];omega)
 ·rintro(e|e|e)
  ·have:=hsub1 _ e;omega
  ·have:=hsubT _ e;omega
  ·omega
 ·rintro(e|e|e)
  ·have:=hsub1 _ e;omega
  ·have:=hsubT _ e;omega
  ·omega
 ·omega
 ·omega
theorem FV:∀(l:List Int) (σ:bY),(σ.frees l).tk=σ.tk
 |[],_=>rfl
 |y::l,σ=>FV l (σ.gone y)
theorem Aa {w:World}{t tr:Nat}{mp mp':VS}{tr':Option Nat}{ch:Bool}{er root err:Int}(h:w.heap[t]? =some (.cells (fI mp tr' ch er) 128 (0,0)))(ht:cK w tr mp' root err):t≠tr:=by
 rintro rfl
 unfold cK at ht
 rw[h] at ht
 injection ht with ht
 injection ht with _ h2
 exact absurd h2 (by decide)
theorem Cr (l:List Int):(wI l).Perm l:=xU _ _
theorem PU (t tr:Nat)(mp:VS)(root:Int)(ch:Bool)(er:Int)(σ:bY)(S:Nat->Prop)(w:World)(es l o r:List nI)(tb:List Int)(key:ByteArray)(h:w.heap[t]? =some (.cells (fI mp (some tr) ch er) 128 (0,0)))(hI:Inv σ S mp w)(ht:cK w tr mp root 0)(hL:Live σ root es tb)(hA:zm es key l o r)(hl:es.length<=4090)(hg:1<=key.size/\key.size<=128):
  Calls Tryz.prog 114 #[.pointer (some ⟨t,0,none⟩),.string key] w fun e w'=>e= .returned (.int .i64 0)/\∃σ1,Inv σ1 S mp w'/\Step S S w w'/\lS σ σ1 (fe o) []/\σ1.tk=σ.tk:=by
 have hl':(jF es).length<=4090:=by rw[gF];exact hl
 have hsmall:rX ((dG (jF es) key).getD ⟨#[]⟩).data.toList=none->((dG (jF es) key).getD ⟨#[]⟩).size<=1000000->fe o=[]->Calls Tryz.prog 114 #[.pointer (some ⟨t,0,none⟩),.string key] w fun e w'=>e= .returned (.int .i64 0)/\∃σ1,Inv σ1 S mp w'/\Step S S w w'/\lS σ σ1 (fe o) []/\σ1.tk=σ.tk:=by
  intro h1 h2 h3
  refine(GL t tr mp root ch er σ S w (jF es) tb key h hI ht hL.tree hl' hg h1 h2).mono ?_
  rintro e w' ⟨rfl,hb⟩
  rw[h3]
  exact⟨rfl,σ,hI.below hb,Step.of_below hb,lS.refl (fun x hx=>by cases hx),rfl⟩
 rcases hA.one with rfl|⟨e,rfl,hk⟩
 ·have hls:dG (jF es) key=none:=hA.ls
  refine hsmall ?_ ?_ rfl
  ·rw[hls];rfl
  ·rw[hls];exact bf _
 ·have hls:dG (jF es) key=some e.s:=hA.ls
  have hv:=hL.val e (by rw[hA.eq];simp)
  have hbo:fe [e]=e.b:=by simp[fe]
  rcases hv with ⟨h1,h2,h3⟩|⟨hd,rs,h1,h2,h3,h4⟩
  ·refine hsmall ?_ ?_ (by rw[hbo,h3])
   ·rw[hls,RF,h1];exact yY _
   ·rw[hls,RF,h1]
    have:(strOf (0::e.v.data.toList)).size=e.v.size+1:=by show (0::e.v.data.toList).toArray.size=e.v.data.size+1;simp
    omega
  ·refine(GQ t tr mp root ch er σ S w (jF es) tb key e.s hd e.v.data.toList rs h hI ht hL.tree hl' hg hls (by rw[h1];exact AV hd h2.1) (by rw[h1];show [1,UInt8.ofNat hd,UInt8.ofNat (hd/256)].toArray.size<=_;simp) h3).mono ?_
   rintro e' w' ⟨rfl,hI',hs'⟩
   refine⟨rfl,_,hI',hs',?_,FV _ _⟩
   rw[hbo,h4]
   exact(yK (wI (jL hd rs)) σ (fun x hx=>(h3.all x ((EQ x).1 hx)).1) ((Cr _).nodup_iff.2 h3.nd)).perm (Cr _) (kr _)
structure Em (w:World)(S:Nat->Prop)(t tr:Nat)(mp:VS)(σ:bY)(root err:Int)(ch:Bool)(er:Int):Prop where
 tx:w.heap[t]? =some (.cells (fI mp (some tr) ch er) 128 (0,0))
 tree:cK w tr mp root err
 inv:Inv σ S mp w
 nt:¬S t
 ntr:¬S tr
theorem Em.keep {w w':World}{S M:Nat->Prop}{t tr:Nat}{mp:VS}{σ:bY}{root err:Int}{ch:Bool}{er:Int}(h:Em w S t tr mp σ root err ch er)(hk:Keep M w w')(hM:∀g,S g\/g=t\/g=tr->¬M g):Em w' S t tr mp σ root err ch er:=
 ⟨(hk.block t (ah.1 h.tx).1 (hM t (.inr (.inl rfl)))).trans h.tx,(hk.block tr (ah.1 h.tree).1 (hM tr (.inr (.inr rfl)))).trans h.tree,h.inv.nD hk (fun g hg=>hM g (.inl hg)),h.nt,h.ntr⟩
theorem Em.below {w w':World}{S:Nat->Prop}{t tr:Nat}{mp:VS}{σ:bY}{root err:Int}{ch:Bool}{er:Int}(h:Em w S t tr mp σ root err ch er)(hb:Below w.heap.size w w'):Em w' S t tr mp σ root err ch er:=h.keep (Keep.of_below hb gJ) (fun _ _ e=>e)
def jc (S S':Nat->Prop)(t tr:Nat)(w w':World):Prop:=Keep (fun g=>S g\/g=t\/g=tr) w w'/\∀g,S' g->S g\/w.heap.size<=g
theorem jc.of {S S':Nat->Prop}{t tr:Nat}{w w':World}(h:Step S S' w w'):jc S S' t tr w w':=⟨h.1.mono (fun _ _ e=> .inl e),h.2⟩
theorem jc.trans {S S1 S2:Nat->Prop}{t tr:Nat}{w w1 w2:World}(h:jc S S1 t tr w w1)(k:jc S1 S2 t tr w1 w2):jc S S2 t tr w w2:=
 ⟨h.1.trans k.1 (fun g hg e=>e.elim (fun x=>(h.2 g x).elim .inl (fun y=>absurd hg (bE.2 y))) .inr),fun g hg=>(k.2 g hg).elim (fun x=>h.2 g x) (fun x=> .inr (aI h.1.size x))⟩
theorem jc.one {S:Nat->Prop}{t tr:Nat}{w w':World}(h:Keep (· =t) w w'):jc S S t tr w w':=⟨h.mono (fun _ _ e=> .inr (.inl e)),fun _ hg=> .inl hg⟩
theorem jc.tree {S S':Nat->Prop}{t tr:Nat}{w w':World}(h:Keep (fun g=>S g\/g=tr) w w')(h2:∀g,S' g->S g\/w.heap.size<=g):jc S S' t tr w w':=⟨h.mono (fun _ _ e=>e.imp id .inr),h2⟩
def Ub (σ σ':bY)(tb:List Int)(c:Nat):Prop:=∀L,σ.sz+c<=L+nh σ tb->σ.tk<=L->σ'.tk<=L
def uP (t tr:Nat)(mp:VS)(S:Nat->Prop)(σ:bY)(ch:Bool)(w w':World):Prop:=
 ∃σ' S' root' err',Em w' S' t tr mp σ' root' err' ch 12/\σ'.H=σ.H/\σ'.most=σ.most/\jc S S' t tr w w'
theorem Gr {σ σ1:bY}{us:List Int}(h:lS σ σ1 us [])(ht:σ1.tk=σ.tk):zG σ σ1 0:=by
 have hs:=h.size
 have hz:nh σ []=0:=rfl
 exact⟨by omega,fun L _ t=>by omega⟩
def jv (value:ByteArray):Nat:=if value.size<=63 then 0 else 1+su value.size
def En (t tr:Nat)(mp:VS)(S:Nat->Prop)(σ:bY)(es l r:List nI)(tb:List Int)(key value:ByteArray)(w w':World):Prop:=
 ∃σ' S' root' tb' s nb,Em w' S' t tr mp σ' root' 0 true 0/\Live σ' root' (l++⟨key,s,value,nb⟩::r) tb'/\lS σ σ' (tb++fe es) (tb'++fe (l++⟨key,s,value,nb⟩::r))/\jc S S' t tr w w'/\Ub σ σ' tb (2*(es.length+1)+jv value)/\((l++⟨key,s,value,nb⟩::r).length<=299->zG σ σ' (65+jv value))
theorem Ct (value:ByteArray):(⟨#[0]⟩:ByteArray)++value=strOf (0::value.data.toList):=by
 apply Om
 rw[ByteArray.data_append]
 apply Dr.1
 rw[LD]
 rfl
theorem uw (t tr:Nat)(mp:VS)(root:Int)(ch:Bool)(σ:bY)(S:Nat->Prop)(w:World)(es l o r:List nI)(tb:List Int)(key:ByteArray)(hT:Em w S t tr mp σ root 0 ch 0)(hL:Live σ root es tb)(hA:zm es key l o r)(hl:es.length<=4090)(hg:1<=key.size/\key.size<=128):
  Calls Tryz.prog 68 #[.pointer (some ⟨t,0,none⟩),.string key] w fun e w'=>e= .returned (.tuple #[.string ((dG (iU es) key).getD ByteArray.empty),.bool (dG (iU es) key).isSome,.int .i64 0])/\Below w.heap.size w w':=by
 have hl':(jF es).length<=4090:=by rw[gF];exact hl
 rcases hA.one with rfl|⟨e,rfl,hk⟩
 ·have h1:dG (jF es) key=none:=hA.ls
  have h2:dG (iU es) key=none:=hA.lv
  have:=RP t tr mp root ch σ S w (jF es) tb key ByteArray.empty [] hT.tx hT.inv hT.tree hL.tree hl' hg (fun s hs=>by rw[h1] at hs;cases hs)
  rw[h1] at this
  rw[h2]
  exact this
 ·have h1:dG (jF es) key=some e.s:=hA.ls
  have h2:dG (iU es) key=some e.v:=hA.lv
  have:=RP t tr mp root ch σ S w (jF es) tb key e.v e.b hT.tx hT.inv hT.tree hL.tree hl' hg (fun s hs=>by
   rw[h1] at hs;cases hs
   exact hL.val e (by rw[hA.eq];simp))
  rw[h1] at this
  rw[h2]
  exact this
theorem J2 (t tr:Nat)(mp:VS)(root:Int)(ch:Bool)(σ:bY)(S:Nat->Prop)(w:World)(es l o r:List nI)(tb:List Int)(key value:ByteArray)(hT:Em w S t tr mp σ root 0 ch 0)(hL:Live σ root es tb)(hA:zm es key l o r)(hl:es.length<=4090)(hg:1<=key.size/\key.size<=128)(hv:value.size<=49152)(hs:dG (iU es) key=some value):
  Calls Tryz.prog 72 #[.pointer (some ⟨t,0,none⟩),.string key,.string value] w fun e w'=>e= .returned (.int .i64 0)/\Below w.heap.size w w':=by
 have HU:=af (wE t mp tr ch 0 key w hT.tx)
 have hu:jR 0 key=0:=by unfold jR;rw[if_neg (by simp),if_neg (by omega)]
 rw[hu] at HU
 have HG:=uw t tr mp root ch σ S w es l o r tb key hT hL hA hl hg
 rw[hs] at HG
 have HG:=af HG
 have x1:¬(49152:Int)<(value.size:Int):=by omega
 clear hT hu
 go_enter Tryz.func72,Tryz.ntmps72
 go_wp2_with (first
  |(go_at_call 108;go_must (refine HU.out.mono ?_;rintro e w1 ⟨rfl,rfl⟩))
  |(go_at_call 68;go_must (refine HG.out.mono ?_;rintro e w1 ⟨rfl,hb1⟩)))
 go_ret
 exact⟨rfl,hb1⟩
theorem Rs (hd:Nat)(hb:hd<65536)(w:World):(convert 119 9 (.slice (some ⟨w.heap.size,0,none⟩) 3 3)).run Tryz.prog (w.alloc (.cells #[.int .u8 1,.int .u8 ((hd:Int)%256),.int .u8 ((hd:Int)/256)] 5))= .ok (.string (strOf [1,UInt8.ofNat hd,UInt8.ofNat (hd/256)])) (w.alloc (.cells #[.int .u8 1,.int .u8 ((hd:Int)%256),.int .u8 ((hd:Int)/256)] 5)):=by
 have he:[Value.int .u8 1,.int .u8 ((hd:Int)%256),.int .u8 ((hd:Int)/256)]=aD [1,UInt8.ofNat hd,UInt8.ofNat (hd/256)]:=by
  simp[aD,dY]
  omega
 have hr:Row (w.alloc (.cells #[.int .u8 1,.int .u8 ((hd:Int)%256),.int .u8 ((hd:Int)/256)] 5)) w.heap.size 5 (aD [1,UInt8.ofNat hd,UInt8.ofNat (hd/256)]):=by
  rw[<-he];exact Row.new w _ _
 have hs:bn (w.alloc (.cells #[.int .u8 1,.int .u8 ((hd:Int)%256),.int .u8 ((hd:Int)/256)] 5)) gJ 1 (.slice (some ⟨w.heap.size,0,none⟩) 3 3) [1,UInt8.ofNat hd,UInt8.ofNat (hd/256)].length (aD [1,UInt8.ofNat hd,UInt8.ofNat (hd/256)]):=by
  have:=hr.cZ (S:=gJ) (k:=1) (off:=0) 3 3 (by simp[aD]) id (ax _) (by simp[maxLen])
  rw[eP,aG (by simp[aD])] at this
  exact this
 exact hs.strOf
theorem GK (t tr:Nat)(mp:VS)(root:Int)(ch:Bool)(σ:bY)(S:Nat->Prop)(w:World)(es l o r:List nI)(tb:List Int)(key value:ByteArray)(hT:Em w S t tr mp σ root 0 ch 0)(hL:Live σ root es tb)(hA:zm es key l o r)(hl:es.length<=4090)(hg:1<=key.size/\key.size<=128)(hv:value.size<=63)(there:Bool)(was:ByteArray)(hget:(dG (iU es) key).isSome=there/\(dG (iU es) key).getD ByteArray.empty=was)(hno:there=true->(was.toList==value.toList)=false):
  Calls Tryz.prog 72 #[.pointer (some ⟨t,0,none⟩),.string key,.string value] w fun e w'=>(e= .returned (.int .i64 0)/\En t tr mp S σ es l r tb key value w w')\/
   (e= .returned (.int .i64 12)/\σ.most+nh σ tb<σ.sz+2*(es.length+1)+jv value/\uP t tr mp S σ ch w w'):=by
 have hne:=Aa hT.tx hT.tree
 have HU:=af (wE t mp tr ch 0 key w hT.tx)
 have hu:jR 0 key=0:=by unfold jR;rw[if_neg (by simp),if_neg (by omega)]
 rw[hu] at HU
 have HG:=uw t tr mp root ch σ S w es l o r tb key hT hL hA hl hg
 rw[hget.1,hget.2] at HG
 have HG:=af HG
 have x1:¬(49152:Int)<(value.size:Int):=by omega
 have x2:¬(63:Int)<(value.size:Int):=by omega
 have hb:jv value=0:=if_pos hv
 have HBC:=af hb
 have x0:=hv
 have HT:=af hT
 have hl':(jF es).length<=4090:=by rw[gF];exact hl
 have hall:=hL.all
 have hnd:=hL.own.nd
 have hbo:∀x∈fe o,x∈fe es:=fun x hx=>by rw[hA.eq,lN,lN];simp[hx]
 have hcnt:=hL.tree.count
 rw[gF] at hcnt
 have hnh:=qp σ tb
 have hsum:(⟨#[0]⟩:ByteArray)++value=strOf (0::value.data.toList):=Ct value
 have hsz0:(strOf (0::value.data.toList)).size=value.size+1:=by show (0::value.data.toList).toArray.size=value.data.size+1;simp
 have hadd:∀W:World,(Op.stringOp .add (⟨#[0]⟩:ByteArray) value).run Tryz.prog W= .ok (.string (strOf (0::value.data.toList))) W:=fun W=>by rw[<-hsum];exact iH W _ _ (by show ((1:Nat):Int)<=_;omega) (by omega)
 have HSZ:=af hsz0;have HSUM:=af hsum
 obtain⟨small,hsmall⟩:∃s,Hid (strOf (0::value.data.toList)=s):=⟨_,af rfl⟩
 rw[hsmall.out] at hadd HSZ HSUM
 have HCNT:=af (ay hcnt (ay hnh hb))
 clear hT hu hsum hsz0 hb hcnt hnh
 go_enter Tryz.func72,Tryz.ntmps72
 go_wp2_with (first
  |(go_at_call 108;go_must (refine HU.out.mono ?_;rintro e w1 ⟨rfl,rfl⟩))
  |(go_at_call 68;go_must (refine HG.out.mono ?_;rintro e w1 ⟨rfl,hb1⟩;refine Stop.of ?_)))
 refine Stop.on ?_
 have hT1:=HT.out.below hb1
 have hlt1:=(ah.1 hT1.tx).1
 have HD:=af (PU t tr mp root ch 0 σ S w1 es l o r tb key hT1.tx hT1.inv hT1.tree hL hA hl hg)
 have HT1:=af (ay hT1 hb1)
 clear hT1 hb1
 cases there
 all_goals
  try have hno:=hno rfl
  go_wp2_with (first
   |(go_at_call 114;go_must (refine HD.out.mono ?_;rintro e w2 ⟨rfl,σ1,hI1,hs1,hc1,htk1⟩;refine Stop.of ?_)))
  refine Stop.on ?_
  have hT2:Em w2 S t tr mp σ1 root 0 ch 0:=⟨(hs1.1.block t hlt1 HT.out.nt).trans HT1.out.1.tx,(hs1.1.block tr (ah.1 HT1.out.1.tree).1 HT.out.ntr).trans HT1.out.1.tree,hI1,HT.out.nt,HT.out.ntr⟩
  have hTr1:Bu σ1 root (jF es) tb:=hL.tree.keep hc1 (fun x hx=> .inl (fun e=>qL hnd x (hbo x e) hx))
  have hlt2:=(ah.1 hT2.tx).1
  have HS2:=af ((jc.of (t:=t) (tr:=tr) (Step.of_below (S:=S) HT1.out.2)).trans (jc.of hs1))
  have HC1:=af hc1
  have HTR1:=af hTr1
  clear hI1 hs1 hc1 hTr1
  have hc2:lS σ1 σ1 [] []:=lS.refl (fun x hx=>by cases hx)
  have hv2:ValAt σ1 small value []:= .inl ⟨hsmall.out.symm,x0,rfl⟩
  have HV2:=af (ay hc2 hv2)
  clear hc2 hv2
  have HPT:=af (Fa tr mp root σ1 S (jF es) tb key small w2 hT2.inv hT2.tree HT.out.ntr HTR1.out (dK.1 hnd).1 hl' ⟨hg,by have:=HSZ.out;omega⟩)
  have c2:World.cell? w2 ⟨t,2,none⟩=some (.pointer (some ⟨tr,0,none⟩)):=by simp[World.cell?,hT2.tx,fI]
  have HT2:=af hT2
  clear hT2
  go_wp2_with (first
   |(go_at_call 116;go_must (refine HPT.out.mono ?_;rintro e w5 (⟨rfl,σ3,S3,b3,hI3,ht3,hst3,hP3,hk3,hn3⟩|⟨rfl,hlost,σ3,S3,hI3,ht3,hst3,hH3,hm3,hk3,hn3⟩)<;>refine Stop.of ?_)))
  ·refine Stop.on ?_
   have htx3:=(hk3.block t hlt2 (fun e=>e.elim HT.out.nt hne)).trans HT2.out.tx
   have hns3:¬S3 t:=fun e=>(hn3 t e).elim HT.out.nt (fun x=>absurd hlt2 (bE.2 x))
   have d3:w5.cell? ⟨t,3,none⟩=some (.bool ch):=by simp[World.cell?,htx3,fI]
   have f3:w5.frozen? ⟨t,3,none⟩=false:=by simp[World.frozen?,htx3]
   have hlt3:=(ah.1 htx3).1
   have HX3:=af (ay htx3 (ay hI3 (ay ht3 (ay hk3 hn3))))
   have HP3:=af hP3
   clear htx3 hI3 ht3 hk3 hn3 hP3
   go_wp2_with fail
   go_ret
   have hk4:Keep (· =t) w5 (w5.setCell ⟨t,3,none⟩ (.bool true)):=(Keep.refl (· =t) _).setCell (p:=⟨t,3,none⟩) (.inr rfl) _
   obtain⟨tb',hL',hC'⟩:=FB hL hA HC1.out HV2.out.1 HV2.out.2 HP3.out
   refine .inl ⟨rfl,σ3,S3,b3,tb',small,_,⟨?_,?_,HX3.out.2.1.nD hk4 (fun g hg e=>hns3 (e▸hg)),hns3,hst3⟩,hL',hC',?_,fun L r t0=> ?_,fun hc=> ?_⟩
   ·simp[World.setCell,aS,HX3.out.1]
    rfl
   ·exact(hk4.block tr (ah.1 HX3.out.2.2.1).1 (fun e=>hne e.symm)).trans HX3.out.2.2.1
   ·exact(HS2.out.trans (jc.tree HX3.out.2.2.2.1 HX3.out.2.2.2.2)).trans (jc.one hk4)
   ·obtain⟨_,_,_,hpk,_⟩:=HP3.out
    have hCC:=HC1.out.trans HV2.out.1
    have hsz:=hCC.size
    have hsz1:=HC1.out.size
    have hnl:=qp σ []
    have hcc:=HCNT.out
    have hz:nh σ []=0:=rfl
    have h0:nh σ []=0:=rfl
    rw[hcc.2.2] at r
    refine hpk L ?_ ?_
    ·unfold kL
     rw[wY hCC.H,gF]
     omega
    ·rw[htk1];exact t0
   ·obtain⟨_,_,_,_,hft⟩:=HP3.out
    have h0:=Gr HC1.out htk1
    have h2:=hft (by rw[hA.is small value [],gF];exact hc)
    exact(h0.trans h2).more (by omega)
  ·refine Stop.on ?_
   have htx3:=(hk3.block t hlt2 (fun e=>e.elim HT.out.nt hne)).trans HT2.out.tx
   have hns3:¬S3 t:=fun e=>(hn3 t e).elim HT.out.nt (fun x=>absurd hlt2 (bE.2 x))
   have HSP:=af (GJ t mp (some tr) ch 0 12 w5 htx3)
   have HX3:=af (ay htx3 (ay hI3 (ay ht3 (ay hk3 hn3))))
   have HLO:=af (ay hlost (ay hH3 hm3))
   clear htx3 hI3 ht3 hk3 hn3 hlost hH3 hm3
   go_wp2_with (first
    |(go_at_call 110;go_must (refine HSP.out.mono ?_;rintro e w6 ⟨rfl,h6,hk6⟩)))
   go_ret
   have hCC:=HC1.out.trans HV2.out.1
   refine .inr ⟨rfl,?_,σ3,S3,root,12,⟨h6,(hk6.block tr (ah.1 HX3.out.2.2.1).1 (fun e=>hne e.symm)).trans HX3.out.2.2.1,HX3.out.2.1.nD hk6 (fun g hg e=>hns3 (e▸hg)),hns3,hst3⟩,HLO.out.2.1.trans hCC.H,HLO.out.2.2.trans hCC.most,(HS2.out.trans (jc.tree HX3.out.2.2.2.1 HX3.out.2.2.2.2)).trans (jc.one hk6)⟩
   have hno3:=HLO.out.1
   have hsz:=hCC.size
   have hnl:=qp σ []
   unfold Room at hno3
   rw[wY hCC.H,hCC.most,gF] at hno3
   have hcc:=HCNT.out
   have h0:nh σ []=0:=rfl
   rw[hcc.2.2]
   omega
theorem J3 (t tr:Nat)(mp:VS)(root:Int)(ch:Bool)(σ:bY)(S:Nat->Prop)(w:World)(es l o r:List nI)(tb:List Int)(key value:ByteArray)(hT:Em w S t tr mp σ root 0 ch 0)(hL:Live σ root es tb)(hA:zm es key l o r)(hl:es.length<=4090)(hg:1<=key.size/\key.size<=128)(hv:63<value.size/\value.size<=49152)(there:Bool)(was:ByteArray)(hget:(dG (iU es) key).isSome=there/\(dG (iU es) key).getD ByteArray.empty=was)(hno:there=true->(was.toList==value.toList)=false):
  Calls Tryz.prog 72 #[.pointer (some ⟨t,0,none⟩),.string key,.string value] w fun e w'=>(e= .returned (.int .i64 0)/\En t tr mp S σ es l r tb key value w w')\/
   (e= .returned (.int .i64 12)/\σ.most+nh σ tb<σ.sz+2*(es.length+1)+jv value/\uP t tr mp S σ ch w w'):=by
 have hne:=Aa hT.tx hT.tree
 have HU:=af (wE t mp tr ch 0 key w hT.tx)
 have hu:jR 0 key=0:=by unfold jR;rw[if_neg (by simp),if_neg (by omega)]
 rw[hu] at HU
 have HG:=uw t tr mp root ch σ S w es l o r tb key hT hL hA hl hg
 rw[hget.1,hget.2] at HG
 have HG:=af HG
 have x1:¬(49152:Int)<(value.size:Int):=by omega
 have x2:(63:Int)<(value.size:Int):=by omega
 have hb:jv value=1+su value.size:=if_neg (by omega)
 have HBC:=af hb
 have HT:=af hT
 have hl':(jF es).length<=4090:=by rw[gF];exact hl
 have hall:=hL.all
 have hnd:=hL.own.nd
 have hbo:∀x∈fe o,x∈fe es:=fun x hx=>by rw[hA.eq,lN,lN];simp[hx]
 have hcnt:=hL.tree.count
 rw[gF] at hcnt
 have hnh:=qp σ tb
 have hsum:(⟨#[0]⟩:ByteArray)++value=strOf (0::value.data.toList):=Ct value
 have hsz0:(strOf (0::value.data.toList)).size=value.size+1:=by show (0::value.data.toList).toArray.size=value.data.size+1;simp
 have hadd:∀W:World,(Op.stringOp .add (⟨#[0]⟩:ByteArray) value).run Tryz.prog W= .ok (.string (strOf (0::value.data.toList))) W:=fun W=>by rw[<-hsum];exact iH W _ _ (by show ((1:Nat):Int)<=_;omega) (by omega)
 have HSZ:=af hsz0;have HSUM:=af hsum
 obtain⟨small,hsmall⟩:∃s,Hid (strOf (0::value.data.toList)=s):=⟨_,af rfl⟩
 rw[hsmall.out] at hadd HSZ HSUM
 have HCNT:=af (ay hcnt (ay hnh hb))
 clear hT hu hsum hsz0 hb hcnt hnh
 go_enter Tryz.func72,Tryz.ntmps72
 go_wp2_with (first
  |(go_at_call 108;go_must (refine HU.out.mono ?_;rintro e w1 ⟨rfl,rfl⟩))
  |(go_at_call 68;go_must (refine HG.out.mono ?_;rintro e w1 ⟨rfl,hb1⟩;refine Stop.of ?_)))
 refine Stop.on ?_
 have hT1:=HT.out.below hb1
 have hlt1:=(ah.1 hT1.tx).1
 have HD:=af (PU t tr mp root ch 0 σ S w1 es l o r tb key hT1.tx hT1.inv hT1.tree hL hA hl hg)
 have HT1:=af (ay hT1 hb1)
 clear hT1 hb1
 cases there
 all_goals
  try have hno:=hno rfl
  go_wp2_with (first
   |(go_at_call 114;go_must (refine HD.out.mono ?_;rintro e w2 ⟨rfl,σ1,hI1,hs1,hc1,htk1⟩;refine Stop.of ?_)))
  refine Stop.on ?_
  have hT2:Em w2 S t tr mp σ1 root 0 ch 0:=⟨(hs1.1.block t hlt1 HT.out.nt).trans HT1.out.1.tx,(hs1.1.block tr (ah.1 HT1.out.1.tree).1 HT.out.ntr).trans HT1.out.1.tree,hI1,HT.out.nt,HT.out.ntr⟩
  have hTr1:Bu σ1 root (jF es) tb:=hL.tree.keep hc1 (fun x hx=> .inl (fun e=>qL hnd x (hbo x e) hx))
  have hlt2:=(ah.1 hT2.tx).1
  have HS2:=af ((jc.of (t:=t) (tr:=tr) (Step.of_below (S:=S) HT1.out.2)).trans (jc.of hs1))
  have HC1:=af hc1
  have HTR1:=af hTr1
  clear hI1 hs1 hc1 hTr1
  have c0:w2.cell? ⟨t,0,none⟩=some (.pointer (some ⟨mp.tx,0,none⟩)):=by simp[World.cell?,hT2.tx,fI]
  have c1:w2.cell? ⟨t,1,none⟩=some (.pointer (some ⟨mp.mp,0,none⟩)):=by simp[World.cell?,hT2.tx,fI]
  have HW:=af (Ru mp σ1 S w2 value hT2.inv (by omega) (by omega))
  have HT2':=af hT2
  clear hT2
  go_wp2_with (first
   |(go_at_call 115;go_must (refine HW.out.mono ?_;rintro e w3 (⟨hd,rs,σ2,rfl,hB2,hC2,htk2,hI2,hs2⟩|⟨rfl,hlow,σ2,hI2,hs2,hH2,hm2⟩)<;>refine Stop.of ?_)))
  ·refine Stop.on ?_
   have hT3:Em w3 S t tr mp σ2 root 0 ch 0:=⟨(hs2.1.block t hlt2 HT.out.nt).trans HT2'.out.tx,(hs2.1.block tr (ah.1 HT2'.out.tree).1 HT.out.ntr).trans HT2'.out.tree,hI2,HT.out.nt,HT.out.ntr⟩
   have hlt3:=(ah.1 hT3.tx).1
   have hdm:hd<65536:=by
    obtain⟨n,q1,q2,_⟩:=bY.l8 hB2.hd.has
    have:=hI2.cap
    omega
   have hlen:(jL hd rs).length=1+su value.size:=by
    have e1:=hB2.hd.len
    have e2:value.data.toList.length=value.size:=by show value.data.toList.length=value.data.size;simp
    rw[e2] at e1
    simp[jL,e1];omega
   have HLEN:=af hlen
   have HV2:=af (ay hC2 (show ValAt σ2 (strOf [1,UInt8.ofNat hd,UInt8.ofNat (hd/256)]) value (jL hd rs) from .inr ⟨hd,rs,rfl,⟨hdm,hv.1⟩,hB2,rfl⟩))
   have HTR2:=af (HTR1.out.keep hC2 (fun x _=> .inl (by simp)))
   have HS3:=af (HS2.out.trans (jc.of hs2))
   clear hsmall HSZ HSUM hadd
   have HCV:=af (Rs hd hdm w3)
   have q1:IntKind.i64.wrap ((hd:Int)/256)=(hd:Int)/256:=aM _ (by omega)
   have HTK2:=af htk2
   clear hlen hC2 hB2 hI2 hs2 htk2
   go_upto_region 17 with (fail)
   have hcv:=HCV.out
   go_upto_region 18 with (fail)
   obtain⟨small,hsmall⟩:∃s,Hid (strOf [1,UInt8.ofNat hd,UInt8.ofNat (hd/256)]=s):=⟨_,af rfl⟩
   rw[hsmall.out] at HV2 ⊢
   have HSZ:=af (show small.size=3 by rw[<-hsmall.out];rfl)
   clear hcv HCV
   obtain⟨w4,hw4,hb4⟩:∃w4,w4=w3.alloc (.cells #[.int .u8 1,.int .u8 ((hd:Int)%256),.int .u8 ((hd:Int)/256)] 5)/\Below w3.heap.size w3 w4:=⟨_,rfl,aF _ _⟩
   rw[<-hw4]
   have hT4:=hT3.below hb4
   have HS4:=af (HS3.out.trans (jc.of (Step.of_below (S:=S) hb4)))
   have hlt4:=(ah.1 hT4.tx).1
   clear hT3 hw4 hb4
   have HPT:=af (Fa tr mp root σ2 S (jF es) tb key small w4 hT4.inv hT4.tree HT.out.ntr HTR2.out (dK.1 hnd).1 hl' ⟨hg,by have:=HSZ.out;omega⟩)
   have c2:World.cell? w4 ⟨t,2,none⟩=some (.pointer (some ⟨tr,0,none⟩)):=by simp[World.cell?,hT4.tx,fI]
   have HT2:=af hT4
   clear hT4
   go_wp2_with (first
    |(go_at_call 116;go_must (refine HPT.out.mono ?_;rintro e w5 (⟨rfl,σ3,S3,b3,hI3,ht3,hst3,hP3,hk3,hn3⟩|⟨rfl,hlost,σ3,S3,hI3,ht3,hst3,hH3,hm3,hk3,hn3⟩)<;>refine Stop.of ?_)))
   ·refine Stop.on ?_
    have htx3:=(hk3.block t hlt4 (fun e=>e.elim HT.out.nt hne)).trans HT2.out.tx
    have hns3:¬S3 t:=fun e=>(hn3 t e).elim HT.out.nt (fun x=>absurd hlt4 (bE.2 x))
    have d3:w5.cell? ⟨t,3,none⟩=some (.bool ch):=by simp[World.cell?,htx3,fI]
    have f3:w5.frozen? ⟨t,3,none⟩=false:=by simp[World.frozen?,htx3]
    have hlt3:=(ah.1 htx3).1
    have HX3:=af (ay htx3 (ay hI3 (ay ht3 (ay hk3 hn3))))
    have HP3:=af hP3
    clear htx3 hI3 ht3 hk3 hn3 hP3
    go_wp2_with fail
    go_ret
    have hk4:Keep (· =t) w5 (w5.setCell ⟨t,3,none⟩ (.bool true)):=(Keep.refl (· =t) _).setCell (p:=⟨t,3,none⟩) (.inr rfl) _
    obtain⟨tb',hL',hC'⟩:=FB hL hA HC1.out HV2.out.1 HV2.out.2 HP3.out
    refine .inl ⟨rfl,σ3,S3,b3,tb',small,_,⟨?_,?_,HX3.out.2.1.nD hk4 (fun g hg e=>hns3 (e▸hg)),hns3,hst3⟩,hL',hC',?_,fun L r t0=> ?_,fun hc=> ?_⟩
    ·simp[World.setCell,aS,HX3.out.1]
     rfl
    ·exact(hk4.block tr (ah.1 HX3.out.2.2.1).1 (fun e=>hne e.symm)).trans HX3.out.2.2.1
    ·exact(HS4.out.trans (jc.tree HX3.out.2.2.2.1 HX3.out.2.2.2.2)).trans (jc.one hk4)
    ·obtain⟨_,_,_,hpk,_⟩:=HP3.out
     have hCC:=HC1.out.trans HV2.out.1
     have hsz:=hCC.size
     have hsz1:=HC1.out.size
     have hnl:=qp σ (jL hd rs)
     have hcc:=HCNT.out
     have hz:nh σ []=0:=rfl
     have hle:=HLEN.out
     rw[hcc.2.2] at r
     refine hpk L ?_ ?_
     ·unfold kL
      rw[wY hCC.H,gF]
      omega
     ·have e1:=HTK2.out;have e2:value.data.toList.length=value.size:=(by show value.data.toList.length=value.data.size;simp);rw[e2,htk1] at e1;omega
    ·obtain⟨_,_,_,_,hft⟩:=HP3.out
     have h0:=Gr HC1.out htk1
     have h2:=hft (by rw[hA.is small value (jL hd rs),gF];exact hc)
     have e2:value.data.toList.length=value.size:=by show value.data.toList.length=value.data.size;simp
     have e1:=HTK2.out
     rw[e2] at e1
     have hcc:=HCNT.out
     have hs2:=HV2.out.1.size
     have hn1:=qp σ1 (jL hd rs)
     have hz:nh σ1 []=0:=rfl
     have hle:=HLEN.out
     have h1:zG σ1 σ2 (jv value):=⟨by omega,fun L r t=>by omega⟩
     exact((h0.trans h1).trans h2).more (by omega)
   ·refine Stop.on ?_
    have htx3:=(hk3.block t hlt4 (fun e=>e.elim HT.out.nt hne)).trans HT2.out.tx
    have hns3:¬S3 t:=fun e=>(hn3 t e).elim HT.out.nt (fun x=>absurd hlt4 (bE.2 x))
    have HSP:=af (GJ t mp (some tr) ch 0 12 w5 htx3)
    have HX3:=af (ay htx3 (ay hI3 (ay ht3 (ay hk3 hn3))))
    have HLO:=af (ay hlost (ay hH3 hm3))
    clear htx3 hI3 ht3 hk3 hn3 hlost hH3 hm3
    go_wp2_with (first
     |(go_at_call 110;go_must (refine HSP.out.mono ?_;rintro e w6 ⟨rfl,h6,hk6⟩)))
    go_ret
    have hCC:=HC1.out.trans HV2.out.1
    refine .inr ⟨rfl,?_,σ3,S3,root,12,⟨h6,(hk6.block tr (ah.1 HX3.out.2.2.1).1 (fun e=>hne e.symm)).trans HX3.out.2.2.1,HX3.out.2.1.nD hk6 (fun g hg e=>hns3 (e▸hg)),hns3,hst3⟩,HLO.out.2.1.trans hCC.H,HLO.out.2.2.trans hCC.most,(HS4.out.trans (jc.tree HX3.out.2.2.2.1 HX3.out.2.2.2.2)).trans (jc.one hk6)⟩
    have hno3:=HLO.out.1
    have hsz:=hCC.size
    have hnl:=qp σ (jL hd rs)
    unfold Room at hno3
    rw[wY hCC.H,hCC.most,gF] at hno3
    have hcc:=HCNT.out
    have hle:=HLEN.out
    rw[hcc.2.2]
    omega
  ·refine Stop.on ?_
   have htx3:=(hs2.1.block t hlt2 HT.out.nt).trans HT2'.out.tx
   have HSP:=af (GJ t mp (some tr) ch 0 12 w3 htx3)
   have htr3:=(hs2.1.block tr (ah.1 HT2'.out.tree).1 HT.out.ntr).trans HT2'.out.tree
   have HX3:=af (ay hI2 (ay hs2 (ay htr3 (ay hlow (ay hH2 hm2)))))
   clear htx3 hI2 hs2 hlow hH2 hm2 htr3
   go_wp2_with (first
    |(go_at_call 110;go_must (refine HSP.out.mono ?_;rintro e w6 ⟨rfl,h6,hk6⟩)))
   go_ret
   refine .inr ⟨rfl,?_,σ2,S,root,0,⟨h6,(hk6.block tr (ah.1 HX3.out.2.2.1).1 (fun e=>hne e.symm)).trans HX3.out.2.2.1,HX3.out.1.nD hk6 (fun g hg e=>HT.out.nt (e▸hg)),HT.out.nt,HT.out.ntr⟩,HX3.out.2.2.2.2.1.trans HC1.out.H,HX3.out.2.2.2.2.2.trans HC1.out.most,(HS2.out.trans (jc.of HX3.out.2.1)).trans (jc.one hk6)⟩
   have hlo:=HX3.out.2.2.2.1
   have hsz:=HC1.out.size
   have hmo:=HC1.out.most
   have hcc:=HCNT.out
   have e2:value.data.toList.length=value.size:=by show value.data.toList.length=value.data.size;simp
   rw[e2] at hlo
   rw[hcc.2.2]
   have:nh σ []=0:=rfl
   omega
def ve (kv:List Pr)(key:ByteArray)(most:Int):List Pr:=(kv.drop (dw kv key)).take most.toNat
theorem aP.set2 {w:World}{S:Nat->Prop}{B g n c:Nat}{ps:List Pr}(h:aP w S B 79 2 (.slice (some ⟨g,0,none⟩) n c) n (dN ps))(i:Nat)(hi:i<n)(hn:ps.length=n)(u:ByteArray):
  aP (w.setCell ⟨g,i*2+1,none⟩ (.string u)) S B 79 2 (.slice (some ⟨g,0,none⟩) n c) n (dN (ps.set i (ps[i].1,u)))/\Keep (· =g) w (w.setCell ⟨g,i*2+1,none⟩ (.string u))/\w.frozen? ⟨g,i*2+1,none⟩=false/\g<w.heap.size/\B<=g:=by
 obtain⟨cur,hr,hl,hx,hBg,hSg,hc,hc2⟩:=h.row
 have hk5:Keep (· =g) w (w.setCell ⟨g,i*2+1,none⟩ (.string u)):=Keep.setCell (M:=(· =g)) (p:=⟨g,i*2+1,none⟩) (Keep.refl _ _) (.inr rfl) _
 have hr':Row (w.setCell ⟨g,i*2+1,none⟩ (.string u)) g 79 (cur.set (i*2+1) (.string u)):=by
  unfold Row at hr ⊢
  simp[World.setCell,aS,hr]
 refine⟨?_,hk5,hr.frozen _,hr.lt,hBg⟩
 have:=hr'.own (S:=S) (B:=B) (k:=2) (cap:=c) n (by simpa using hl) hBg hSg hc hc2
 rw[show (cur.set (i*2+1) (.string u)).take (n*2)=dN (ps.set i (ps[i].1,u)) from by rw[<-yX _ _ i (by omega),<-hx,<-List.take_set]] at this
 exact this
def uU (es:List nI)(k:Nat):List Pr:=iU (es.take k)++jF (es.drop k)
theorem oq (es:List nI)(k:Nat):(uU es k).length=es.length:=by
 unfold uU
 rw[av,lI,gF,aC,aJ];omega
theorem Ju (es:List nI)(k:Nat)(h:k<es.length):(uU es k)[k]'(by rw[oq];exact h)=(es[k].k,es[k].s):=by
 unfold uU
 have hl:(iU (es.take k)).length=k:=by rw[lI,aC];omega
 rw[List.getElem_append_right (by omega)]
 simp[jF,hl]
theorem MZ (es:List nI)(k:Nat)(h:k<es.length):(uU es k).set k (es[k].k,es[k].v)=uU es (k+1):=by
 unfold uU
 have hl:(iU (es.take k)).length=k:=by rw[lI,aC];omega
 have e:jF (es.drop k)=(es[k].k,es[k].s)::jF (es.drop (k+1)):=by rw[cO h];rfl
 rw[gW _ _ (by omega),hl,xZ,e,au,aQ h,lK]
 simp[iU]
theorem M0 (es:List nI):uU es es.length=iU es:=by unfold uU;simp[jF]
theorem KE (es:List nI):uU es 0=jF es:=by unfold uU;simp[iU]
theorem Kk (es:List nI)(key:ByteArray)(most:Int):∃xs:List nI,(∀e∈xs,e∈es)/\((jF es).drop (dw (jF es) key)).take most.toNat=jF xs/\ve (iU es) key most=iU xs:=by
 refine⟨(es.drop (sj es key)).take most.toNat,fun e he=>bU (fo he),?_,?_⟩
 ·show ((jF es).drop (dw (jF es) key)).take most.toNat=_
  unfold jF
  rw[DU (fun e=>(e.k,e.s)) (fun _=>rfl),gG,gH]
 ·unfold ve iU
  rw[DU (fun e=>(e.k,e.v)) (fun _=>rfl),gG,gH]
theorem RN (t tr:Nat)(mp:VS)(root:Int)(ch:Bool)(σ:bY)(S:Nat->Prop)(w:World)(es:List nI)(tb:List Int)(key:ByteArray)(most:Int)(hT:Em w S t tr mp σ root 0 ch 0)(hL:Live σ root es tb)(hl:es.length<=4090):
  Calls Tryz.prog 70 #[.pointer (some ⟨t,0,none⟩),.string key,.int .i64 most] w fun e w'=>∃v,e= .returned (.tuple #[v,.int .i64 0])/\aP w' S w.heap.size 79 2 v (ve (iU es) key most).length (dN (ve (iU es) key most))/\Below w.heap.size w w':=by
 have HU:=af (wE t mp tr ch 0 ⟨#[107]⟩ w hT.tx)
 have hu:jR 0 (⟨#[107]⟩:ByteArray)=0:=by decide
 rw[hu] at HU
 obtain⟨xs,hx1,hx2,hx3⟩:=Kk es key most
 have HS:=Kj tr mp root σ S (jF es) tb key most w hT.inv hT.tree hL.tree (by rw[gF];exact hl)
 have hx2:((jF es).drop (dw (jF es) key)).take most.toNat=jF xs:=hx2
 rw[hx2] at HS
 have HS:=af HS
 have HXS:=af (ay hx1 hx3)
 have c2:w.cell? ⟨t,2,none⟩=some (.pointer (some ⟨tr,0,none⟩)):=by simp[World.cell?,hT.tx,fI]
 have hlt:=(ah.1 hT.tx).1
 have HT:=af hT
 rw[hx3,lI]
 obtain⟨n,hn⟩:∃n,n=xs.length:=⟨_,rfl⟩
 have HN:=af hn
 rw[gF,<-hn] at HS
 rw[<-hn]
 clear hT hu hx1 hx2 hx3 hn
 go_enter Tryz.func70,Tryz.ntmps70
 go_wp2_with (first
  |(go_at_call 108;go_must (refine HU.out.mono ?_;rintro e w1 ⟨hw1,rfl⟩;subst w1))
  |(go_at_call 112;go_must (refine HS.out.mono ?_;rintro e w1 ⟨v,rfl,hown1,hb1⟩;refine Stop.of ?_)))
 refine Stop.on ?_
 obtain⟨ao,cp,rfl,_,_,_,_⟩:=bn.form hown1.cZ
 rw[<-KE] at hown1
 have HO1:=af hown1;have HB1:=af hb1
 clear hown1 hb1
 go_wp2_with fail
 go_loopw [10,11,12,35] (fun e _ _ i wr=>∃k:Nat,k<=n/\e= .int .i64 0/\i= .int .i64 k/\aP wr S w.heap.size 79 2 (.slice ao n cp) n (dN (uU xs k))/\Below w.heap.size w wr) (fun _ _ _ i _=>n - (intOf i).toNat)
 case atStart=>exact⟨0,bf _,rfl,rfl,HO1.out,HB1.out⟩
 case round=>
  obtain⟨k,hk,rfl,rfl,hok,hbk⟩:=hrel
  by_cases hkn:k<n
  ·have y1:(k:Int)<(n:Int):=by omega
   obtain⟨g,c,e,hc1,hc2,hg1,hg2⟩:=hok.C9 (by omega)
   cases e
   have hkx:k<xs.length:=by rw[<-HN.out];exact hkn
   have hP:nN wr S (.slice (some ⟨g,0,none⟩) n cp) (uU xs k):=by
    have:=hok.cZ
    unfold nN
    rw[oq,<-HN.out];exact this
   obtain⟨pb,po,e1,d0,d1⟩:=hP.at rfl k (by rw[oq];exact hkx)
   cases e1
   rw[Ju xs k hkx] at d0 d1
   rw[eG] at d0 d1
   obtain⟨E,hE⟩:∃E,Hid (xs[k]=E):=⟨_,af rfl⟩
   rw[hE.out] at d0 d1
   have hmem:E∈es:=HXS.out.1 E (by rw[<-hE.out];exact bG hkx)
   have HV:=af (hL.val E hmem)
   have hTk:=HT.out.below hbk
   have HOK:=af hok;have HBK:=af hbk;have HTK:=af hTk
   have htk:=(ah.1 hTk.tx).1
   clear hok hbk hTk hP
   go_wp2_with (first
    |(go_at_call 111;go_must (refine(LV t mp (some tr) ch 0 σ S _ E.s E.v E.b (((aF wr (.cells #[.string E.k,.string E.s] 79)).block t htk).trans HTK.out.tx) (HTK.out.inv.below (aF wr (.cells #[.string E.k,.string E.s] 79))) HV.out).mono ?_;rintro e w5 ⟨hb5,rfl⟩;refine Stop.of ?_)))
   refine Stop.on ?_
   have hbw5:Below wr.heap.size wr w5:=(aF wr (.cells #[.string E.k,.string E.s] 79)).trans (hb5.mono (by simp))
   have hO5:=HOK.out.below hbw5
   obtain⟨u1,u2,u3,u4,u5⟩:=hO5.set2 k hkn (by rw[oq,<-HN.out]) E.v
   have u0:w5.cell? ⟨g,k*2+1,none⟩=some (.string E.s):=(hbw5.cell (p:=⟨g,k*2+1,none⟩) hg2).trans d1
   have hms:(uU xs k).set k (((uU xs k)[k]'(by rw[oq];exact hkx)).1,E.v)=uU xs (k+1):=by
    rw[Ju xs k hkx,<-hE.out]
    exact MZ xs k hkx
   rw[hms] at u1
   have hbs:Below w.heap.size w (w5.setCell ⟨g,k*2+1,none⟩ (.string E.v)):=(HBK.out.trans (hbw5.mono HBK.out.size)).setCell (by simpa using u5) _
   have HU1:=af (ay u1 hbs)
   clear u1 u2 hO5 hbw5 hb5 hms hbs
   go_wp2_with fail
   go_roundw
   case rel=>exact⟨k+1,by omega,rfl,by go_num,HU1.out.1,HU1.out.2⟩
   case measure=>simp[intOf];omega
  ·obtain rfl:k=n:=by omega
   have y1:¬(k:Int)<(k:Int):=by omega
   rw[HN.out,M0] at hok
   go_wp2_with fail
   go_ret2
   exact⟨_,rfl,by rw[HN.out];exact hok,hbk⟩
structure Oi (σ:Dk)(l:Lg)(p:Pg)(f:Nat->Bool)(root:Nat):Prop where
 pd:p.dead=false
 sd:σ.dead=false
 two:2<=p.blocks σ
 map:p.look Im.none σ 0=bytesOf f
 hi:∀b,p.blocks σ<=b->f b=false
 f0:f 0=true
 f1:f 1=true
 root:N7 (p.look Im.none σ 1) root
def Eg (n:Nat)(log:Int):Int:=if log<6\/(n:Int) - 8<log then 1 else 0
theorem Tv (d:Nat)(σ:Dk)(Sd:Nat->Prop)(log:Int)(w:World)(h:rY w Sd d σ):
  Calls Tryz.prog 54 #[.pointer (some ⟨d,0,none⟩),.int .i64 log] w fun e w'=>e= .returned (.int .i64 (Eg σ.n log))/\w'=w:=by
 have HS:=af (F3 d σ Sd w h)
 have hi:=h.ok.hi
 have q:IntKind.i64.wrap ((σ.n:Int) - 8)=(σ.n:Int) - 8:=aM _ (by omega)
 clear h
 unfold Eg
 by_cases h1:log<6
 ·rw[if_pos (.inl h1)]
  go_enter Tryz.func54,Tryz.ntmps54
  go_wp2_with fail
  go_ret
  exact⟨rfl,rfl⟩
 ·by_cases h2:(σ.n:Int) - 8<log
  ·rw[if_pos (.inr h2)]
   go_enter Tryz.func54,Tryz.ntmps54
   go_wp2_with (first
    |(go_at_call 86;go_must (refine HS.out.mono ?_;rintro e w1 ⟨rfl,hw1⟩;subst w1)))
   go_ret
   exact⟨rfl,rfl⟩
  ·rw[if_neg (by omega)]
   go_enter Tryz.func54,Tryz.ntmps54
   go_wp2_with (first
    |(go_at_call 86;go_must (refine HS.out.mono ?_;rintro e w1 ⟨rfl,hw1⟩;subst w1)))
   go_ret
   exact⟨rfl,rfl⟩
theorem O5 {im:Im}{n:Nat}(h:im.Ok n):dz im.bW=(16+520*im.ks.length+511)/512:=by
 have e:(im.bW.map fun r=>4+r.length).sum=520*im.ks.length:=by
  unfold Im.bW
  rw[Ev]
  have hi:=h.img
  revert hi
  generalize im.ks=ks
  intro hi
  induction ks with
  |nil=>rfl
  |cons k ks ih=>
   rw[cu,qA,ih (fun x hx=>hi x (aU _ hx)),aY]
   have:=hi k (aX ..)
   show 4+(leB k 4++im.img k).length+_=_
   rw[av,eX,this];omega
 unfold dz
 rw[e]
theorem Dk.Ez:∀(k i:Nat) (σ:Dk) (j:Nat),i<=j->j<i+k->(Dk.sF k i σ).get j=pad []
 |0,_,_,_,h1,h2=>absurd h2 (by omega)
 |k+1,i,σ,j,h1,h2=>by
  rw[Dk.yh,Dk.get_put]
  split
  ·rfl
  ·exact Dk.Ez k i σ j h1 (by omega)
theorem MU {σ:Dk}{log:Nat}(hl:(Lg.new 0 log).Ok)(hp:(Pg.new log).Ok σ (Lg.new 0 log))(hw:σ.waits=[])(hm:σ.get 0=pad (Lg.new 0 log).fQ):pX σ (Lg.new 0 log) (Pg.new log) (fun _ b=>σ.get (log+b)):=
 ⟨[],⟨hl,hp,rfl,ax _,ax _,(fun im h=>by cases h),(fun i h=>by cases h),Al.none ⟨hm,(fun i h=>by simp[iB] at h),fun b _=>rfl⟩ hw,fun b=>rfl,(by rw[hw];exact ax _),fun _=>hw⟩,fun k _ _ b _=>by rw[List.take_nil];rfl⟩
structure PD (σ0:Dk)(log:Nat)(σ:Dk)(l:Lg)(p:Pg):Prop where
 vi:VI σ l p
 last:l.last=1
 synced:l.synced=1
 skip:p.skip=log
 ring:p.ring=log - 1
 n:σ.n=σ0.n
 base:Oi σ l p two 0
 rc:∃C,pX σ l p C
 wts:σ.waits=[]
theorem PD.live {σ:Dk}{l:Lg}{p:Pg}:Live (bY.start σ l p two) 0 [] []:=by
 refine⟨.inl ⟨rfl,rfl,rfl⟩,(fun e he=>by cases he),⟨oL,fun x hx=> ?_,?_⟩⟩
 ·obtain⟨n,rfl,_,h⟩:=bY.l8 hx
  have h:two n=true:=h
  unfold two at h
  have:=lU h
  omega
 ·show countB (fun x=>two x||two x) (p.blocks σ)=countB two (p.blocks σ)+0
  rw[iW]
  exact jV _ (fun x _=>Bool.or_self _)
theorem RO (d:Nat)(σ:Dk)(Sd:Nat->Prop)(log:Nat)(w:World)(h:rY w Sd d σ)(hf:σ.mH)(h1:6<=log)(h2:log+8<=σ.n)(hcap:σ.waits.length<=50000):
  Calls Tryz.prog 19 #[.pointer (some ⟨d,0,none⟩),.int .i64 log] w fun e w'=>∃v pg σ' l' p' S',e= .returned (.tuple #[.pointer (some ⟨v,0,none⟩),.int .i64 0])/\w'.heap[v]? =some (.cells #[.pointer (some ⟨pg,0,none⟩)] 111 (0,0))/\¬S' v/\w.heap.size<=v/\kC w' S' pg d σ' l' p' (.pointer none)/\PD σ log σ' l' p'/\Step Sd S' w w':=by
 have hck:=Tv d σ Sd log w h
 have hc0:Eg σ.n log=0:=by unfold Eg;rw[if_neg (by omega)]
 rw[hc0] at hck
 have HCK:=af hck
 have hdn:=h.ok.hi
 have HPM:=af (Sb d σ Sd log w h hf (by omega) (by omega) hcap)
 have hsub:=h.sub
 clear h hck hc0
 go_enter Tryz.func19,Tryz.ntmps19
 go_wp2_with (first
  |(go_at_call 54;go_must (refine HCK.out.mono ?_;rintro e w1 ⟨rfl,hw1⟩;subst w1))
  |(go_at_call 55;go_must (refine HPM.out.mono ?_;rintro e w1 ⟨pg,S1,rfl,hp1,hs1⟩;refine Stop.of ?_)))
 refine Stop.on ?_
 obtain⟨σ1,hσ1⟩:∃σ1,σ1=(((Dk.sF (σ.n - log) log σ).flush.put 0 (Lg.new 0 log).fQ).flush):=⟨_,rfl⟩
 rw[<-hσ1] at hp1
 have hn1:σ1.n=σ.n:=by rw[hσ1];exact Dk.yj _ _ _
 have hf1:σ1.mH:=by rw[hσ1];exact Dk.uo _ _ _ hf
 have hw1:σ1.waits=[]:=by rw[hσ1];rfl
 have hg1:∀j,log<=j->j<σ.n->σ1.get j=pad []:=fun j a b=>by
  rw[hσ1,vP _ _ _ _ (by omega)]
  exact Dk.Ez _ _ _ _ a (by omega)
 have hm1:σ1.get 0=pad (Lg.new 0 log).fQ:=by rw[hσ1,Dk.mM,Dk.get_put,if_pos rfl]
 have HRC:=af (MU hp1.ok.2.2 hp1.ok.1 hw1 hm1)
 clear hm1
 have hbl:(Pg.new log).blocks σ1=σ.n - log:=by unfold Pg.blocks;rw[hn1];rfl
 have HBG:=af (MP pg d σ1 (Lg.new 0 log) (Pg.new log) S1 w1 hp1 rfl)
 have hsub1:=hp1.sub
 have HS1:=af hs1
 have HF1:=af (ay hn1 (ay hf1 (ay hw1 hg1)))
 clear hσ1 hp1 hs1 hn1 hf1 hw1 hg1
 go_wp2_with (first
  |(go_at_call 56;go_must (refine HBG.out.mono ?_;rintro e w2 ⟨t,T,rfl,hp2,ht2,hs2,hT2⟩;refine Stop.of ?_)))
 refine Stop.on ?_
 have hdis:∀g,S1 g->¬T g:=fun g hg e=>absurd (hT2 g e) (fE.2 (hsub1 g hg))
 have HBL:=af (DV pg d σ1 (Lg.new 0 log) (Pg.new log) _ S1 w2 hp2)
 have HSM:=af (QG t pg d σ1 (Lg.new 0 log) (Pg.new log) _ Im.none S1 T w2.drew (hp2.below ((aO _ w2).drew)) (ht2.below ((aO _ w2).drew)) rfl (by omega))
 clear hbl
 have HX2:=af (ay hp2 hs2)
 clear hp2 ht2 hs2
 go_wp2_with (first
  |(go_at_call 58;go_must (refine HBL.out.mono ?_;rintro e w3 ⟨rfl,hw3⟩;subst w3))
  |(go_at_call 57;go_must (refine HSM.out.mono ?_;rintro e w3 ⟨rfl,ht3,hs3⟩;refine Stop.of ?_)))
 refine Stop.on ?_
 obtain⟨im,him⟩:∃im,im=Im.none.put 0 (bytesOf two):=⟨_,rfl⟩
 rw[<-him] at ht3
 have hp3:=(HX2.out.1.below ((aO _ w2).drew)).keep hs3.1 (fun g hg e=>hdis g hg e)
 have himok:im.Ok ((Pg.new log).blocks σ1):=by obtain⟨_,q⟩:=ht3;exact q.ok
 have hks:im.ks=[0]:=by rw[him];rfl
 have hPO:=hp3.ok
 have hV1:VI σ1 (Lg.new 0 log) (Pg.new log):=⟨HF1.out.2.1,rfl,rfl,by rw[HF1.out.2.2.1];exact bf _,fun _=>⟨_,HRC.out⟩⟩
 have HCM:=O0 t pg d σ1 (Lg.new 0 log) (Pg.new log) _ im S1 T w3 hp3 ht3 hdis rfl rfl (by rw[HF1.out.2.2.1];exact bf _) (by show 0<1000000000000;omega)
 obtain⟨σ2,l2,p2,hcm,hV2,hl2,hk2,hr2,hn2,hlk2⟩:∃σ2 l2 p2,(Pg.new log).commit σ1 (Lg.new 0 log) im=(σ2,l2,p2,1,0)/\VI σ2 l2 p2/\l2.last=1/\p2.skip=log/\p2.ring=log - 1/\σ2.n=σ1.n/\∀b,p2.look Im.none σ2 b=(Pg.new log).look im σ1 b:=by
  rcases IW hV1 hPO.1 hPO.2.2 himok with ⟨q,_⟩|⟨_,q,_⟩|⟨_,_,σ2,l2,p2,q1,q2,q3,q4,q5,q6,q7⟩
  ·rw[hks] at q;cases q
  ·unfold Pg.sU at q
   rw[O5 himok,hks] at q
   have:(Pg.new log).ring=log - 1:=rfl
   rw[this] at q
   simp at q
   omega
  ·exact⟨σ2,l2,p2,q1,q2,q3,q4,q5,q6,q7⟩
 have hrc:∃C,pX σ2 l2 p2 C:=by
  rcases Gf HRC.out HF1.out.2.1.1 rfl rfl himok (by show 0<1000000000000;omega) with ⟨q,_⟩|⟨_,_,q⟩|⟨_,_,⟨_,_,_,q,_,_,_,_,_,_,_,_,_,r,_⟩|⟨_,_,_,q,_⟩⟩
  ·rw[hks] at q;cases q
  ·rw[hcm] at q;simp at q
  ·rw[hcm] at q
   simp only[uY] at q
   obtain⟨rfl,rfl,rfl,_⟩:=q
   exact⟨_,r⟩
  ·rw[hcm] at q;simp at q
 have HRC2:=af hrc
 clear hrc
 rw[hcm] at HCM
 have HCM:=af HCM
 have HLK:=af (ay hV2 (ay hl2 (ay hk2 (ay hr2 (ay hn2 (ay hlk2 him))))))
 have HS3:=af (HX2.out.2.trans ((Step.of_below ((aO _ w2).drew):Step S1 S1 w2 w2.drew)))
 have HK3:=af hs3
 clear hp3 ht3 himok hks hPO hV1 hcm hV2 hl2 hk2 hr2 hn2 hlk2 him hs3
 go_wp2_with (first
  |(go_at_call 59;go_must (refine HCM.out.mono ?_;rintro e w4 ⟨rfl,S4,hp4,hE4,hs4⟩;refine Stop.of ?_)))
 refine Stop.on ?_
 obtain⟨σ5,l5,hsy,hV5,hl5,hy5,hn5,hlk5⟩:=Ml HLK.out.1 hp4.ok.1
 have HSY:=R9 pg d σ2 l2 p2 _ S4 w4 hp4 (by have:=HLK.out.1.wt;have:=hp4.ok.2.2.us;have:=hp4.ok.2.2.hi;omega)
 have hrc:(∃C,pX σ5 l5 p2 C)/\σ5.waits=[]:=by
  obtain⟨C,hC⟩:=HRC2.out
  rcases Mq hC HLK.out.1.free.1 HLK.out.1.ld HLK.out.1.pd with ⟨_,_,q,_,_,_,_,hw,_,_,r,_⟩|⟨_,_,q,_⟩
  ·rw[hsy] at q
   simp only[uY] at q
   obtain⟨rfl,rfl,_⟩:=q
   exact⟨⟨_,r⟩,hw⟩
  ·rw[hsy] at q;simp at q
 have HRC5:=af hrc
 clear hrc
 rw[hsy] at HSY
 have HSY:=af HSY
 have HL5:=af (ay hV5 (ay hl5 (ay hy5 (ay hn5 hlk5))))
 have HS4:=af hs4
 clear hp4 hE4 hs4 hsy hV5 hl5 hy5 hn5 hlk5
 go_wp2_with (first
  |(go_at_call 60;go_must (refine HSY.out.mono ?_;rintro e w5 ⟨rfl,S5,hp5,hs5⟩;refine Stop.of ?_)))
 refine Stop.on ?_
 go_wp2_with fail
 go_ret2
 have hb6:=aF w5 (.cells #[.pointer (some ⟨pg,0,none⟩)] 111)
 have hsub5:=hp5.sub
 have hz5:w.heap.size<=w5.heap.size:=by
  have a:=HS1.out.1.size;have b:=HS3.out.1.size;have c:=HK3.out.1.size;have d:=HS4.out.1.size;have e:=hs5.1.size
  omega
 have hskip:=HLK.out.2.2.1
 have hlook:∀b,p2.look Im.none σ5 b=(Pg.new log).look im σ1 b:=fun b=>(HL5.out.2.2.2.2 Im.none b).trans (HLK.out.2.2.2.2.2.1 b)
 have hn5:σ5.n=σ.n:=HL5.out.2.2.2.1.trans (HLK.out.2.2.2.2.1.trans HF1.out.1)
 refine⟨w5.heap.size,pg,σ5,l5,p2,S5,rfl,aK w5 _,fun e=>di _ (hsub5 _ e),hz5,hp5.below hb6,⟨HL5.out.1,HL5.out.2.1.trans HLK.out.2.1,HL5.out.2.2.1.trans HLK.out.2.1,hskip,HLK.out.2.2.2.1,hn5,?_,HRC5.out.1,HRC5.out.2⟩,?_⟩
 ·have hbl5:p2.blocks σ5=σ.n - log:=by unfold Pg.blocks;rw[hn5,hskip]
  refine⟨HLK.out.1.pd,HL5.out.1.free.1,by omega,?_,fun b hb=> ?_,rfl,rfl,?_⟩
  ·rw[hlook,HLK.out.2.2.2.2.2.2]
   unfold Pg.look
   rw[Im.Bd,if_pos rfl];rfl
  ·unfold two
   exact bP (by omega)
  ·rw[hlook,HLK.out.2.2.2.2.2.2]
   have:(Pg.new log).look (Im.none.put 0 (bytesOf two)) σ1 1=pad []:=by
    unfold Pg.look
    rw[Im.Bd,if_neg (by omega)]
    exact HF1.out.2.2.2 (log+1) (by omega) (by omega)
   rw[this]
   exact⟨by omega,List.replicate 510 0,rfl⟩
 ·have h0:=HS1.out.trans HS3.out
  have a:Step Sd (fun g=>S1 g\/T g) w w2.drew:=⟨h0.1,fun g hg=>hg.elim (h0.2 g) (fun e=> .inr (aI HS1.out.1.size (hT2 g e)))⟩
  have b:Step Sd (fun g=>S1 g\/T g) w w3:=a.trans ⟨HK3.out.1.mono (fun g _ e=> .inr e),fun g hg=> .inl hg⟩
  have c:=b.trans HS4.out
  have e:Step Sd S5 w w5:=c.trans ⟨hs5.1.mono (fun g _ e=> .inl e),fun g hg=>(hs5.2 g hg).imp .inl id⟩
  exact e.trans (Step.of_below hb6)
structure TW (w:World)(S:Nat->Prop)(v pg d:Nat)(σ:Dk)(l:Lg)(p:Pg)(f:Nat->Bool)(root:Nat)(es:List nI)(tb:List Int):Prop where
 obj:w.heap[v]? =some (.cells #[.pointer (some ⟨pg,0,none⟩)] 111 (0,0))
 nv:¬S v
 pgr:kC w S pg d σ l p (.pointer none)
 vi:VJ σ l p
 base:Oi σ l p f root
 live:Live (bY.start σ l p f) root es tb
structure Ug (σ:bY)(root:Nat)(es:List nI)(tb:List Int):Prop where
 vi:VJ σ.H.dk σ.H.lg σ.H.pg
 base:Oi σ.H.dk σ.H.lg σ.H.pg σ.H.old root
 live:Live (bY.start σ.H.dk σ.H.lg σ.H.pg σ.H.old) root es tb
structure zH (w:World)(S:Nat->Prop)(v t tr:Nat)(mp:VS)(σ:bY)(root:Int)(es:List nI)(tb:List Int)(ch:Bool)(root0:Nat)(es0:List nI)(tb0:List Int):Prop where
 obj:w.heap[v]? =some (.cells #[.pointer (some ⟨mp.pg,0,none⟩)] 111 (0,0))
 nv:¬S v
 tx:Em w S t tr mp σ root 0 ch 0
 live:Live σ root es tb
 bas:Ug σ root0 es0 tb0
 ch:ch=false->σ=bY.start σ.H.dk σ.H.lg σ.H.pg σ.H.old/\es=es0
structure T9 (w:World)(S:Nat->Prop)(v t tr:Nat)(mp:VS)(σ:bY)(ch:Bool)(root0:Nat)(es0:List nI)(tb0:List Int):Prop where
 obj:w.heap[v]? =some (.cells #[.pointer (some ⟨mp.pg,0,none⟩)] 111 (0,0))
 nv:¬S v
 tx:∃root err,Em w S t tr mp σ root err ch 12
 bas:Ug σ root0 es0 tb0
theorem Qy {w:World}{v t pg:Nat}{mp:VS}{tr:Option Nat}{ch:Bool}{er:Int}(h:w.heap[v]? =some (.cells #[.pointer (some ⟨pg,0,none⟩)] 111 (0,0)))(ht:w.heap[t]? =some (.cells (fI mp tr ch er) 128 (0,0))):v≠t:=by
 rintro rfl
 rw[h] at ht
 injection ht with ht
 injection ht with _ h2
 exact absurd h2 (by decide)
theorem OB {w:World}{v t pg:Nat}{mp:VS}{root err:Int}(h:w.heap[v]? =some (.cells #[.pointer (some ⟨pg,0,none⟩)] 111 (0,0)))(ht:cK w t mp root err):v≠t:=by
 rintro rfl
 unfold cK at ht
 rw[h] at ht
 injection ht with ht
 injection ht with _ h2
 exact absurd h2 (by decide)
theorem zH.Jr {w w':World}{S S':Nat->Prop}{v t tr:Nat}{mp:VS}(h:w.heap[v]? =some (.cells #[.pointer (some ⟨mp.pg,0,none⟩)] 111 (0,0)))(hn:¬S v){ch:Bool}{er root err:Int}(htx:w.heap[t]? =some (.cells (fI mp (some tr) ch er) 128 (0,0)))(htr:cK w tr mp root err)(hs:jc S S' t tr w w'):
  w'.heap[v]? =some (.cells #[.pointer (some ⟨mp.pg,0,none⟩)] 111 (0,0))/\¬S' v:=by
 have hl:=(ah.1 h).1
 refine⟨(hs.1.block v hl (fun e=> ?_)).trans h,fun e=>(hs.2 v e).elim hn (fun x=>absurd hl (bE.2 x))⟩
 rcases e with e|e|e
 ·exact hn e
 ·exact Qy h htx e
 ·exact OB h htr e
theorem zH.below {w w':World}{S:Nat->Prop}{v t tr:Nat}{mp:VS}{σ:bY}{root:Int}{es:List nI}{tb:List Int}{ch:Bool}{root0:Nat}{es0:List nI}{tb0:List Int}(h:zH w S v t tr mp σ root es tb ch root0 es0 tb0)(hb:Below w.heap.size w w'):zH w' S v t tr mp σ root es tb ch root0 es0 tb0:=
 ⟨(hb.block v (ah.1 h.obj).1).trans h.obj,h.nv,h.tx.below hb,h.live,h.bas,h.ch⟩
structure jY where
 F:Nat->Prop
 w:World
 D:Nat->Dk->Lg->Pg->Prop
def JG:Nat->Dk->Lg->Pg->Prop:=fun _ σ _ _=>σ.fuel= -1
instance :Coe World jY:=⟨fun w=>⟨fun g=>g<w.heap.size,w,JG⟩⟩
structure jY.Calm (b:jY):Prop where
 one:∀{d:Nat} {σ:Dk} {l:Lg} {p:Pg},b.D d σ l p->σ.fuel= -1
 two:∀{d:Nat} {σ σ':Dk} {l l':Lg} {p p':Pg},b.D d σ l p->σ'.fuel= -1->b.D d σ' l' p'
def jY.to (b:jY)(D:Nat->Dk->Lg->Pg->Prop):jY:=⟨b.F,b.w,D⟩
structure VB (b:jY)(w:World)(S:Nat->Prop):Prop where
 os:w.os=b.w.os
 tape:w.tape=b.w.tape
 output:w.output=b.w.output
 size:b.w.heap.size<=w.heap.size
 block:∀g,b.F g->w.heap[g]? =b.w.heap[g]?
 fs:∀g,b.F g->g<b.w.heap.size
 lo:∀g,S g->¬b.F g
theorem VB.qI {w0 w:World}{S:Nat->Prop}(h:VB w0 w S):Below w0.heap.size w0 w:=⟨h.os,h.tape,h.output,h.size,fun k hk=>h.block k hk⟩
theorem VB.of {w0 w:World}{S:Nat->Prop}(h:Below w0.heap.size w0 w)(hl:∀g,S g->w0.heap.size<=g):VB w0 w S:=⟨h.os,h.tape,h.output,h.size,fun k hk=>h.block k hk,fun _ hg=>hg,fun g hg=>bE.2 (hl g hg)⟩
theorem VB.keep {b:jY}{w w':World}{S S' M:Nat->Prop}(h:VB b w S)(hk:Keep M w w')(hM:∀g,b.F g->¬M g)(hS:∀g,S' g->S g\/w.heap.size<=g):VB b w' S':=
 ⟨hk.os.trans h.os,hk.tape.trans h.tape,hk.output.trans h.output,aI h.size hk.size,fun g hg=>(hk.block g (ak (h.fs g hg) h.size) (hM g hg)).trans (h.block g hg),h.fs,fun g hg hf=>(hS g hg).elim (fun e=>h.lo g e hf) (fun e=>absurd (ak (h.fs g hf) h.size) (bE.2 e))⟩
theorem VB.step {b:jY}{w w':World}{S S':Nat->Prop}(h:VB b w S)(hs:Step S S' w w'):VB b w' S':=h.keep hs.1 (fun g hg e=>h.lo g e hg) hs.2
theorem VB.PV {b:jY}{w w':World}{S S':Nat->Prop}{t tr:Nat}(h:VB b w S)(ht:¬b.F t)(htr:¬b.F tr)(hs:jc S S' t tr w w'):VB b w' S':=h.keep hs.1 (fun g hg e=>by
  rcases e with e|e|e
  ·exact h.lo g e hg
  ·exact ht (e▸hg)
  ·exact htr (e▸hg)) hs.2
theorem VB.below {b:jY}{w w':World}{S:Nat->Prop}(h:VB b w S)(hb:Below w.heap.size w w'):VB b w' S:=h.step (Step.of_below hb)
theorem VB.new {b:jY}{w:World}{S:Nat->Prop}(h:VB b w S){g:Nat}(hg:w.heap.size<=g):¬b.F g:=fun hf=>absurd (ak (h.fs g hf) h.size) (bE.2 hg)
section
variable {w:World} {S:Nat->Prop} {v pg d:Nat} {σ:Dk} {l:Lg} {p:Pg} {f:Nat->Bool} {root:Nat} {es:List nI} {tb:List Int}
theorem TW.begin (h:TW w S v pg d σ l p f root es tb):
  Calls Tryz.prog 21 #[.pointer (some ⟨v,0,none⟩)] w fun e w'=>∃t tr mp S',e= .returned (.tuple #[.pointer (some ⟨t,0,none⟩),.int .i64 0])/\mp.pg=pg/\mp.d=d/\zH w' S' v t tr mp (bY.start σ l p f) root es tb false root es tb/\Step S S' w w'/\w.heap.size<=t/\w.heap.size<=tr:=by
 refine(Qx v pg d σ l p f root S w h.obj h.nv h.pgr h.base.pd h.base.sd h.base.two h.base.map h.base.hi h.base.f0 h.base.f1 h.base.root).mono ?_
 rintro e w1 ⟨t,tr,mp,S1,rfl,hpg,hd,htx,htr,hI1,hs1,hn1,hn2,hlo1,hlo2⟩
 have hlt:=(ah.1 h.obj).1
 exact⟨t,tr,mp,S1,rfl,hpg,hd,⟨by rw[hpg];exact(hs1.1.block v hlt h.nv).trans h.obj,fun e=>(hs1.2 v e).elim h.nv (fun x=>absurd hlt (bE.2 x)),⟨htx,htr,hI1,hn1,hn2⟩,h.live,⟨h.vi,h.base,h.live⟩,fun _=>⟨rfl,rfl⟩⟩,hs1,hlo1,hlo2⟩
end
section
variable {w:World} {S:Nat->Prop} {v t tr:Nat} {mp:VS} {σ:bY} {root:Int} {es:List nI} {tb:List Int} {ch:Bool} {root0:Nat} {es0:List nI} {tb0:List Int}
theorem zH.spoilt (h:zH w S v t tr mp σ root es tb ch root0 es0 tb0){w':World}(hp:uP t tr mp S σ ch w w'):
  ∃σ' S',T9 w' S' v t tr mp σ' ch root0 es0 tb0/\σ'.H=σ.H/\jc S S' t tr w w':=by
 obtain⟨σ',S',rt,er,hT,hH,hm,hs⟩:=hp
 obtain⟨a,b⟩:=zH.Jr h.obj h.nv h.tx.tx h.tx.tree hs
 refine⟨σ',S',⟨a,b,⟨rt,er,hT⟩,?_⟩,hH,hs⟩
 have:=h.bas
 obtain⟨x,y,z⟩:=this
 rw[<-hH] at x y z
 exact⟨x,y,z⟩
theorem zH.moved (h:zH w S v t tr mp σ root es tb ch root0 es0 tb0){w':World}{σ':bY}{S':Nat->Prop}{root':Int}{es':List nI}{tb':List Int}{ch':Bool}(hT:Em w' S' t tr mp σ' root' 0 ch' 0)(hL:Live σ' root' es' tb')(hH:σ'.H=σ.H)(hs:jc S S' t tr w w')(hc:ch'=false->σ'=bY.start σ'.H.dk σ'.H.lg σ'.H.pg σ'.H.old/\es'=es0):zH w' S' v t tr mp σ' root' es' tb' ch' root0 es0 tb0:=by
 obtain⟨a,b⟩:=zH.Jr h.obj h.nv h.tx.tx h.tx.tree hs
 refine⟨a,b,hT,hL,?_,hc⟩
 obtain⟨x,y,z⟩:=h.bas
 rw[<-hH] at x y z
 exact⟨x,y,z⟩
theorem zH.get (h:zH w S v t tr mp σ root es tb ch root0 es0 tb0)(key:ByteArray)(hl:es.length<=4090)(hg:1<=key.size/\key.size<=128):
  Calls Tryz.prog 68 #[.pointer (some ⟨t,0,none⟩),.string key] w fun e w'=>e= .returned (.tuple #[.string ((dG (iU es) key).getD ByteArray.empty),.bool (dG (iU es) key).isSome,.int .i64 0])/\zH w' S v t tr mp σ root es tb ch root0 es0 tb0/\Below w.heap.size w w':=by
 obtain⟨a,o,r,hA⟩:=NU es key
 refine(uw t tr mp root ch σ S w es a o r tb key h.tx h.live hA hl hg).mono ?_
 rintro e w' ⟨rfl,hb⟩
 exact⟨rfl,h.below hb,hb⟩
end
theorem Nk {es l o r:List nI}{key v:ByteArray}(hA:zm es key l o r)(h:dG (iU es) key=some v):jT (iU es) key v=iU es:=by
 rw[hA.lv] at h
 rcases hA.one with rfl|⟨e,rfl,hk⟩
 ·cases h
 ·have hv:e.v=v:=by simpa using h
  rw[hA.iv e.s v e.b,hA.eq,lK,lK,lK,aL]
  congr 1
  simp[iU,hk,hv]
theorem ByteArray.bne {a b:ByteArray}(h:a≠b):(a.toList==b.toList)=false:=by
 rw[dZ]
 intro e
 exact h (Om (Dr.1 (by rw[toList_eq,toList_eq] at e;exact e)))
section
variable {w:World} {S:Nat->Prop} {v t tr:Nat} {mp:VS} {σ:bY} {root:Int} {es:List nI} {tb:List Int} {ch:Bool} {root0:Nat} {es0:List nI} {tb0:List Int}
def JP (w:World)(S:Nat->Prop)(v t tr:Nat)(mp:VS)(σ:bY)(es:List nI)(tb:List Int)(ch':Bool)(root0:Nat)(es0:List nI)(tb0:List Int)(c W:Nat)(qs:List Pr)(w':World):Prop:=
 ∃σ' S' root' es' tb',zH w' S' v t tr mp σ' root' es' tb' ch' root0 es0 tb0/\iU es'=qs/\σ'.H=σ.H/\σ'.most=σ.most/\jc S S' t tr w w'/\Ub σ σ' tb c/\lS σ σ' (tb++fe es) (tb'++fe es')/\(es'.length<=299->zG σ σ' W)
def Qf (w:World)(S:Nat->Prop)(v t tr:Nat)(mp:VS)(σ:bY)(ch:Bool)(root0:Nat)(es0:List nI)(tb0:List Int)(w':World):Prop:=
 ∃σ' S',T9 w' S' v t tr mp σ' ch root0 es0 tb0/\σ'.H=σ.H/\jc S S' t tr w w'
theorem zH.put (h:zH w S v t tr mp σ root es tb ch root0 es0 tb0)(key value:ByteArray)(hl:es.length<=4090)(hg:1<=key.size/\key.size<=128)(hv:value.size<=49152):
  Calls Tryz.prog 72 #[.pointer (some ⟨t,0,none⟩),.string key,.string value] w fun e w'=>
   (e= .returned (.int .i64 0)/\JP w S v t tr mp σ es tb (ch|| !decide (dG (iU es) key=some value)) root0 es0 tb0 (2*(es.length+1)+jv value) (65+jv value) (jT (iU es) key value) w')\/
   (e= .returned (.int .i64 12)/\σ.most+nh σ tb<σ.sz+2*(es.length+1)+jv value/\Qf w S v t tr mp σ ch root0 es0 tb0 w'):=by
 obtain⟨a,o,r,hA⟩:=NU es key
 by_cases hs:dG (iU es) key=some value
 ·refine(J2 t tr mp root ch σ S w es a o r tb key value h.tx h.live hA hl hg hv hs).mono ?_
  rintro e w' ⟨rfl,hb⟩
  refine .inl ⟨rfl,σ,S,root,es,tb,?_,(Nk hA hs).symm,rfl,rfl,jc.of (Step.of_below hb),fun _ _ t=>t,lS.refl (fun x hx=>(h.live.all x hx).1),fun _=>(zG.refl _).more (bf _)⟩
  have:(ch|| !decide (dG (iU es) key=some value))=ch:=by simp[hs]
  rw[this]
  exact h.below hb
 ·have hc:(ch|| !decide (dG (iU es) key=some value))=true:=by simp[hs]
  rw[hc]
  have hno:∀(there:Bool) (was:ByteArray),(dG (iU es) key).isSome=there/\(dG (iU es) key).getD ByteArray.empty=was->there=true->(was.toList==value.toList)=false:=by
   rintro there was ⟨h1,h2⟩ ht
   refine ByteArray.bne fun e=>hs ?_
   subst ht
   obtain⟨x,hx⟩:=Option.isSome_iff_exists.1 h1
   rw[hx] at h2 ⊢
   rw[<-e,<-h2];rfl
  have hput:∀(e:Ending) (w':World),((e= .returned (.int .i64 0)/\En t tr mp S σ es a r tb key value w w')\/(e= .returned (.int .i64 12)/\σ.most+nh σ tb<σ.sz+2*(es.length+1)+jv value/\uP t tr mp S σ ch w w'))->
    ((e= .returned (.int .i64 0)/\JP w S v t tr mp σ es tb true root0 es0 tb0 (2*(es.length+1)+jv value) (65+jv value) (jT (iU es) key value) w')\/(e= .returned (.int .i64 12)/\σ.most+nh σ tb<σ.sz+2*(es.length+1)+jv value/\Qf w S v t tr mp σ ch root0 es0 tb0 w')):=by
   rintro e w' (⟨rfl,σ',S',root',tb',s,nb,q1,q2,q3,q4,q5,q6⟩|⟨rfl,hr,hp⟩)
   ·exact .inl ⟨rfl,σ',S',root',_,tb',h.moved q1 q2 q3.H q4 (fun e=>by cases e),(hA.iv s value nb).symm,q3.H,q3.most,q4,q5,q3,q6⟩
   ·exact .inr ⟨rfl,hr,h.spoilt hp⟩
  by_cases hz:value.size<=63
  ·exact(GK t tr mp root ch σ S w es a o r tb key value h.tx h.live hA hl hg hz _ _ ⟨rfl,rfl⟩ (hno _ _ ⟨rfl,rfl⟩)).mono hput
  ·exact(J3 t tr mp root ch σ S w es a o r tb key value h.tx h.live hA hl hg ⟨by omega,hv⟩ _ _ ⟨rfl,rfl⟩ (hno _ _ ⟨rfl,rfl⟩)).mono hput
theorem zH.scan (h:zH w S v t tr mp σ root es tb ch root0 es0 tb0)(key:ByteArray)(most:Int)(hl:es.length<=4090):
  Calls Tryz.prog 70 #[.pointer (some ⟨t,0,none⟩),.string key,.int .i64 most] w fun e w'=>∃v,e= .returned (.tuple #[v,.int .i64 0])/\aP w' S w.heap.size 79 2 v (ve (iU es) key most).length (dN (ve (iU es) key most))/\Below w.heap.size w w':=
 RN t tr mp root ch σ S w es tb key most h.tx h.live hl
end
def pU (kv:List Pr):Nat:=(kv.map fun p=>jv p.2).sum
theorem ValAt.cost {σ:bY}{s v:ByteArray}{b:List Int}(h:ValAt σ s v b):b.length=jv v:=by
 rcases h with ⟨_,h2,rfl⟩|⟨hd,rs,_,⟨_,h2⟩,h3,rfl⟩
 ·unfold jv;rw[if_pos h2];rfl
 ·unfold jv
  rw[if_neg (by omega)]
  have e1:=h3.hd.len
  have e2:v.data.toList.length=v.size:=by show v.data.toList.length=v.data.size;simp
  rw[e2] at e1
  simp[jL,e1];omega
theorem Df {σ:bY}:∀{es:List nI},(∀e∈es,ValAt σ e.s e.v e.b)->(fe es).length=pU (iU es)
 |[],_=>rfl
 |e::es,h=>by
  have h1:=(h e (aX ..)).cost
  have h2:=Df (es:=es) fun x hx=>h x (aU _ hx)
  rw[Di,av,h1,h2];rfl
def SV (w0:jY)(v N R dn u:Nat)(kv:List Pr)(w:World):Prop:=
 ∃S pg d σ l p f root es tb,TW w S v pg d σ l p f root es tb/\VB w0 w S/\(¬w0.F v/\w0.D d σ l p)/\p.blocks σ=N/\p.ring=R/\l.last=dn+1/\iU es=kv/\(tb++fe es).length=u
def vW (w0:jY)(v t N R dn u:Nat)(kv0 kv:List Pr)(ch:Bool)(P:Nat)(w:World):Prop:=
 ∃S tr mp σ root es tb root0 es0 tb0,zH w S v t tr mp σ root es tb ch root0 es0 tb0/\VB w0 w S/\(¬w0.F v/\w0.D mp.d σ.H.dk σ.H.lg σ.H.pg)/\¬w0.F t/\¬w0.F tr/\σ.most=N/\σ.H.pg.ring=R/\σ.H.lg.last=dn+1/\iU es=kv/\iU es0=kv0/\(tb0++fe es0).length=u/\σ.tk<=P
def Uk (w0:jY)(v t N R dn u:Nat)(kv0:List Pr)(w:World):Prop:=
 ∃S tr mp σ ch root0 es0 tb0,T9 w S v t tr mp σ ch root0 es0 tb0/\VB w0 w S/\(¬w0.F v/\w0.D mp.d σ.H.dk σ.H.lg σ.H.pg)/\¬w0.F t/\¬w0.F tr/\σ.H.pg.blocks σ.H.dk=N/\σ.H.pg.ring=R/\σ.H.lg.last=dn+1/\iU es0=kv0/\(tb0++fe es0).length=u
def Un (t:Nat)(w:World):Prop:=∃mp ch er,w.heap[t]? =some (.cells (fI mp none ch er) 128 (0,0))
section
variable {w0:jY} {w:World} {v t N R dn u P:Nat} {kv kv0:List Pr} {ch:Bool}
theorem vW.qI {w0:World}(h:vW w0 v t N R dn u kv0 kv ch P w):Below w0.heap.size w0 w:=by obtain⟨_,_,_,_,_,_,_,_,_,_,_,h,_⟩:=h;exact h.qI
theorem SV.make (w0:jY)(w:World)(n:Nat)(log:Nat)(d:Nat)(S:Nat->Prop)(hb:VB w0 w S)(h:rY w S d (Dk.new n))(h1:6<=log)(h2:log+8<=n)(hD:∀σ l p,PD (Dk.new n) log σ l p->w0.D d σ l p:=by exact fun _ _ _ h=>h.vi.free.2):
  Calls Tryz.prog 19 #[.pointer (some ⟨d,0,none⟩),.int .i64 log] w fun e w'=>∃v,e= .returned (.tuple #[.pointer (some ⟨v,0,none⟩),.int .i64 0])/\SV w0 v (n - log) (log - 1) 0 0 [] w':=by
 refine(RO d (Dk.new n) S log w h ⟨rfl,rfl⟩ h1 h2 (bf _)).mono ?_
 rintro e w' ⟨v,pg,σ',l',p',S',rfl,hobj,hn,hlo,hp,hN,hs⟩
 refine⟨v,rfl,S',pg,d,σ',l',p',two,0,[],[],⟨hobj,hn,hp,hN.vi.vj,hN.base,PD.live⟩,hb.step hs,⟨hb.new hlo,hD _ _ _ hN⟩,?_,hN.ring,hN.last,rfl,rfl⟩
 unfold Pg.blocks
 rw[hN.n,hN.skip];rfl
theorem SV.begin (h:SV w0 v N R dn u kv w):
  Calls Tryz.prog 21 #[.pointer (some ⟨v,0,none⟩)] w fun e w'=>∃t,e= .returned (.tuple #[.pointer (some ⟨t,0,none⟩),.int .i64 0])/\vW w0 v t N R dn u kv kv false (2+u) w':=by
 obtain⟨S,pg,d,σ,l,p,f,root,es,tb,hA,hB,h1,h2,h3,h4,h5,h6⟩:=h
 refine hA.begin.mono ?_
 rintro e w' ⟨t,tr,mp,S',rfl,_,hmd,hT,hs,hl1,hl2⟩
 have hok:=bY.Ok.start hA.pgr.ok.1 hA.pgr.ok.2.1 hA.base.pd hA.base.sd hA.base.two hA.base.hi hA.base.f0 hA.base.f1
 have hc:countB f (p.blocks σ)=2+(tb++fe es).length:=hA.live.own.count hok hA.live.all
 exact⟨t,rfl,S',tr,mp,_,root,es,tb,root,es,tb,hT,hB.step hs,⟨h1.1,by rw[hmd];exact h1.2⟩,hB.new hl1,hB.new hl2,h2,h3,h4,h5,h5,h6,by rw[<-h6,<-hc];exact ax _⟩
theorem zH.nD {M S:Nat->Prop}{w':World}{tr:Nat}{mp:VS}{σ:bY}{root:Int}{es:List nI}{tb:List Int}{root0:Nat}{es0:List nI}{tb0:List Int}(h:zH w S v t tr mp σ root es tb ch root0 es0 tb0)(hk:Keep M w w')(hM:∀g,S g\/g=v\/g=t\/g=tr->¬M g):zH w' S v t tr mp σ root es tb ch root0 es0 tb0:=
 ⟨(hk.block v (ah.1 h.obj).1 (hM v (.inr (.inl rfl)))).trans h.obj,h.nv,h.tx.keep hk (fun g hg=>hM g (hg.imp id .inr)),h.live,h.bas,h.ch⟩
def jY.next (b:jY)(w w':World):jY:=⟨fun g=>b.F g\/(w.heap.size<=g/\g<w'.heap.size),w',b.D⟩
theorem VB.next {S M:Nat->Prop}{w':World}(h:VB w0 w S)(hk:Keep M w w')(hs:∀g,S g->g<w.heap.size):VB (w0.next w w') w' S:=
 ⟨rfl,rfl,rfl,ax _,fun _ _=>rfl,fun g hg=>hg.elim (fun e=>ak (h.fs g e) (aI h.size hk.size)) (fun e=>e.2),fun g hg e=>e.elim (h.lo g hg) (fun e=>absurd (hs g hg) (bE.2 e.1))⟩
theorem jY.no {w':World}{g:Nat}(h:¬w0.F g)(hg:g<w.heap.size):¬(w0.next w w').F g:=fun e=>e.elim h (fun e=>absurd hg (bE.2 e.1))
theorem vW.next {M:Nat->Prop}{w':World}(h:vW w0 v t N R dn u kv0 kv ch P w)(hk:Keep M w w')(hM:∀g,M g->w0.F g):vW (w0.next w w') v t N R dn u kv0 kv ch P w':=by
 obtain⟨S,tr,mp,σ,root,es,tb,root0,es0,tb0,hA,hB,h1,h2,h3,h4⟩:=h
 have hl:=(ah.1 hA.obj).1
 have hl2:=(ah.1 hA.tx.tx).1
 have hl3:=(ah.1 hA.tx.tree).1
 refine⟨S,tr,mp,σ,root,es,tb,root0,es0,tb0,hA.nD hk (fun g hg e=> ?_),hB.next hk hA.tx.inv.sub,⟨jY.no h1.1 hl,h1.2⟩,jY.no h2 hl2,jY.no h3 hl3,h4⟩
 rcases hg with x|x|x|x
 ·exact hB.lo g x (hM g e)
 ·exact h1.1 (x▸hM g e)
 ·exact h2 (x▸hM g e)
 ·exact h3 (x▸hM g e)
theorem vW.block (h:vW w0 v t N R dn u kv0 kv ch P w){g:Nat}(hg:w0.F g):w.heap[g]? =w0.w.heap[g]? :=by obtain⟨_,_,_,_,_,_,_,_,_,_,_,h,_⟩:=h;exact h.block g hg
theorem vW.sizes {S:Nat->Prop}{tr:Nat}{mp:VS}{σ:bY}{root:Int}{es:List nI}{tb:List Int}{root0:Nat}{es0:List nI}{tb0:List Int}(h:zH w S v t tr mp σ root es tb ch root0 es0 tb0):
  σ.sz<=2+(tb0++fe es0).length+nh σ tb+pU (iU es)/\countB σ.H.old σ.most=2+(tb0++fe es0).length:=by
 have hI:=h.tx.inv
 have e1:=h.live.own.size
 have hm:=hI.ok.most
 obtain⟨hpo,hdo,hlo⟩:σ.H.pg.Ok σ.H.dk σ.H.lg/\σ.H.dk.Ok/\σ.H.lg.Ok:=by obtain⟨Sp,T,q,_⟩:=hI;exact q.pg.ok
 have hB:=h.bas.base
 have hok:=bY.Ok.start hpo hdo hB.pd hB.sd hB.two hB.hi hB.f0 hB.f1
 have hc:countB σ.H.old (σ.H.pg.blocks σ.H.dk)=2+(tb0++fe es0).length:=h.bas.live.own.count hok h.bas.live.all
 rw[<-hm] at hc
 rw[nQ,hc] at e1
 have e2:=qp σ (fe es)
 rw[Df h.live.val] at e2
 exact⟨by omega,hc⟩
theorem vW.put (h:vW w0 v t N R dn u kv0 kv ch P w)(key value:ByteArray)(hl:kv.length<=4090)(hg:1<=key.size/\key.size<=128)(hv:value.size<=49152)(hP:2+u+pU kv+2*(kv.length+1)+jv value<=P):
  Calls Tryz.prog 72 #[.pointer (some ⟨t,0,none⟩),.string key,.string value] w fun e w'=>
   (e= .returned (.int .i64 0)/\vW w0 v t N R dn u kv0 (jT kv key value) (ch|| !decide (dG kv key=some value)) P w')\/
   (e= .returned (.int .i64 12)/\N<2+u+pU kv+2*(kv.length+1)+jv value/\Uk w0 v t N R dn u kv0 w'):=by
 obtain⟨S,tr,mp,σ,root,es,tb,root0,es0,tb0,hA,hB,h1,h2,h3,h4,h5,h6,h7,h8,h9,h10⟩:=h
 obtain⟨e1,e2⟩:=vW.sizes hA
 have hel:es.length=kv.length:=by rw[<-h7,lI]
 rw[h9,h7] at e1
 have hm:=hA.tx.inv.ok.most
 refine(hA.put key value (by omega) hg hv).mono ?_
 rintro e w' (⟨rfl,σ',S',root',es',tb',q1,q2,q3,q4,q5,q6,q7,_⟩|⟨rfl,q0,σ',S',q1,q2,q3⟩)
 ·refine .inl ⟨rfl,S',tr,mp,σ',root',es',tb',root0,es0,tb0,?_,hB.PV h2 h3 q5,⟨h1.1,by rw[q3];exact h1.2⟩,h2,h3,by rw[q4,h4],by rw[q3,h5],by rw[q3,h6],by rw[q2,h7],h8,h9,q6 P (by omega) h10⟩
  rw[h7] at q1;exact q1
 ·exact .inr ⟨rfl,by omega,S',tr,mp,σ',ch,root0,es0,tb0,q1,hB.PV h2 h3 q3,⟨h1.1,by rw[q2];exact h1.2⟩,h2,h3,by rw[q2,<-hm,h4],by rw[q2,h5],by rw[q2,h6],h8,h9⟩
theorem vW.scan (h:vW w0 v t N R dn u kv0 kv ch P w)(key:ByteArray)(most:Int)(hl:kv.length<=4090):
  Calls Tryz.prog 70 #[.pointer (some ⟨t,0,none⟩),.string key,.int .i64 most] w fun e w'=>∃x,e= .returned (.tuple #[x,.int .i64 0])/\aP w' gJ w.heap.size 79 2 x (ve kv key most).length (dN (ve kv key most))/\vW w0 v t N R dn u kv0 kv ch P w'/\Below w.heap.size w w':=by
 obtain⟨S,tr,mp,σ,root,es,tb,root0,es0,tb0,hA,hB,h1,h2,h3,h4,h5,h6,h7,h8⟩:=h
 refine(hA.scan key most (by rw[<-lI,h7];exact hl)).mono ?_
 rintro e w' ⟨x,rfl,hx,hb⟩
 rw[h7] at hx
 exact⟨x,rfl,hx.other (fun g _ e=>e.elim),⟨S,tr,mp,σ,root,es,tb,root0,es0,tb0,hA.below hb,hB.below hb,h1,h2,h3,h4,h5,h6,h7,h8⟩,hb⟩
end
theorem vW.more {w0:jY}{w:World}{v t N R dn u P P':Nat}{kv kv0:List Pr}{ch:Bool}(h:vW w0 v t N R dn u kv0 kv ch P w)(hp:P<=P'):vW w0 v t N R dn u kv0 kv ch P' w:=by
 obtain⟨S,tr,mp,σ,root,es,tb,root0,es0,tb0,hA,hB,h1,h2,h3,h4,h5,h6,h7,h8,h9,h10⟩:=h
 exact⟨S,tr,mp,σ,root,es,tb,root0,es0,tb0,hA,hB,h1,h2,h3,h4,h5,h6,h7,h8,h9,aI h10 hp⟩
theorem DK (ps:List Pr)(i:Nat)(k v:ByteArray):pU (ps.set i (k,v))<=pU ps+jv v:=by
 induction ps generalizing i with
 |nil=>exact bf _
 |cons p r ih=>
  cases i with
  |zero=>
   show jv v+pU r<=(jv p.2+pU r)+jv v
   omega
  |succ i=>
   show jv p.2+pU (r.set i (k,v))<=(jv p.2+pU r)+jv v
   have:=ih i
   omega
theorem Gl (a b:List Pr):pU (a++b)=pU a+pU b:=by simp[pU]
theorem La (ps:List Pr)(k v:ByteArray):pU (jT ps k v)<=pU ps+jv v:=by
 unfold jT
 split
 ·exact DK ps _ k v
 ·have h:pU ps=pU (ps.take (dw ps k))+pU (ps.drop (dw ps k)):=by rw[<-Gl,bJ]
  have e:pU ((k,v)::ps.drop (dw ps k))=jv v+pU (ps.drop (dw ps k)):=rfl
  rw[Gl,e]
  omega
theorem Nb (ps:List Pr)(k v:ByteArray):(jT ps k v).length<=ps.length+1:=by
 unfold jT
 split
 ·simp
 ·have:=bJ (dw ps k) ps
  have h:ps.length=(ps.take (dw ps k)).length+(ps.drop (dw ps k)).length:=by rw[<-av,this]
  simp only[av,aY] at*
  omega
end Go.Proofs.YtbfjgkafmlbpcaaGreatDoor
