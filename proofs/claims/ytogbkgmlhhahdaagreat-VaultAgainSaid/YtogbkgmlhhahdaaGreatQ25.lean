/- parts -/
import Derived.Test.YtogbkgmlhhahdaaGreatQ24
set_option maxRecDepth 100000
set_option maxHeartbeats 8000000
set_option linter.all false
namespace Go.Proofs.YtogbkgmlhhahdaaGreat
open Go.RowKit
structure VI (σ:Dk)(l:Lg)(p:Pg):Prop where
 free:σ.nX
 ld:l.dead=false
 pd:p.dead=false
 wt:σ.waits.length<=l.used
 rc:l.last<1000000000000->∃C,mY σ l p C
theorem VI.v0 {σ:Dk}{l:Lg}{p:Pg}(h:VI σ l p):Um σ l p:=⟨h.free,h.ld,h.pd,h.wt⟩
theorem KR {σ:Dk}{l:Lg}{p:Pg}{im:Im}(hV:VI σ l p)(hp:p.Ok σ l)(hl:l.Ok)(hi:im.Ok (p.blocks σ)):
  (im.ks=[]/\p.commit σ l im=(σ,l,p,l.last,0))\/
  (im.ks≠[]/\p.rH im/\p.commit σ l im=(σ,l,p,0,13))\/
  (im.ks≠[]/\¬p.rH im/\∃σ' l' p',p.commit σ l im=(σ',l',p',l.last+1,0)/\VI σ' l' p'/\l'.last=l.last+1/\p'.skip=p.skip/\p'.ring=p.ring/\σ'.n=σ.n/\∀b,p'.look Im.none σ' b=p.look im σ b):=by
 refine(IY hV.v0 hp hl hi).imp_right (Or.imp_right ?_)
 rintro⟨h1,h2,σ',l',p',q1,q2,q3,q4⟩
 refine⟨h1,h2,σ',l',p',q1,⟨q2.free,q2.ld,q2.pd,q2.wt,fun hla=> ?_⟩,q3,q4⟩
 obtain⟨C,hC⟩:=hV.rc (by omega)
 rcases vM hC hV.free.1 hV.ld hV.pd hi (by omega) with ⟨q,_⟩|⟨_,q,_⟩|⟨_,_,⟨_,_,_,q,_,_,_,_,_,_,_,_,_,r,_⟩|⟨_,_,_,q,_⟩⟩
 ·exact absurd q h1
 ·exact absurd q h2
 ·rw[q1] at q
  simp only[nM] at q
  obtain⟨rfl,rfl,rfl,_⟩:=q
  exact⟨_,r⟩
 ·rw[q1] at q
  simp at q
theorem OY {σ:Dk}{l:Lg}{p:Pg}(hV:VI σ l p)(hp:p.Ok σ l):
  ∃σ' l',p.sync σ l=(σ',l',p,0)/\VI σ' l' p/\l'.last=l.last/\l'.synced=l.last/\σ'.n=σ.n/\∀im b,p.look im σ' b=p.look im σ b:=by
 obtain⟨σ',l',q1,q2,q3,q4⟩:=MK hV.v0 hp
 refine⟨σ',l',q1,⟨q2.free,q2.ld,q2.pd,q2.wt,fun hla=> ?_⟩,q3,q4⟩
 obtain⟨C,hC⟩:=hV.rc (by omega)
 rcases BJ hC hV.free.1 hV.ld hV.pd with ⟨_,_,q,_,_,_,_,_,_,_,r,_⟩|⟨_,_,q,_⟩
 ·rw[q1] at q
  simp only[nM] at q
  obtain⟨rfl,rfl,_⟩:=q
  exact⟨_,r⟩
 ·rw[q1] at q
  simp at q
structure VJ (σ:Dk)(l:Lg)(p:Pg):Prop where
 nd:σ.dead=false
 ld:l.dead=false
 pd:p.dead=false
 wt:σ.waits.length<=l.used
 rc:l.last<1000000000000->∃C,mY σ l p C
theorem VI.vj {σ:Dk}{l:Lg}{p:Pg}(h:VI σ l p):VJ σ l p:=⟨h.free.1,h.ld,h.pd,h.wt,h.rc⟩
theorem mY.cap {σ:Dk}{l:Lg}{p:Pg}{C:Nat->Nat->List UInt8}(h:mY σ l p C):σ.waits.length<=l.used:=by
 obtain⟨ims,hR,_⟩:=h
 exact hR.cap
structure QV (σ:Dk)(l:Lg)(p:Pg)(im:Im)(σ':Dk)(l':Lg)(p':Pg):Prop where
 vj:VJ σ' l' p'
 last:l'.last=l.last+1
 skip:p'.skip=p.skip
 ring:p'.ring=p.ring
 n:σ'.n=σ.n
 look:∀b,b<p.blocks σ->p'.look Im.none σ' b=p.look im σ b
 fu:σ.fuel= -1->σ'.fuel= -1
 uM:l.synced<=l'.synced
 CF:∀C,mY σ l p C->mY σ' l' p' (FK C (l.last+1) (p.look im σ))
structure Mk (σ:Dk)(l:Lg)(p:Pg)(σ':Dk)(l':Lg)(p':Pg):Prop where
 dead:σ'.dead=true
 fu:σ.fuel≠-1
 skip:p'.skip=p.skip
 n:σ'.n=σ.n
 uM:l.synced<=l'.synced
 last:l'.last=l.last
 CF:∀C,mY σ l p C->EM σ' l' p.skip (p.blocks σ) C
structure QH (σ:Dk)(l:Lg)(p:Pg)(σ':Dk)(l':Lg):Prop where
 vj:VJ σ' l' p
 last:l'.last=l.last
 uM:l'.synced=l.last
 n:σ'.n=σ.n
 look:∀im b,p.look im σ' b=p.look im σ b
 fu:σ.fuel= -1->σ'.fuel= -1
 wts:σ'.waits=[]
 CF:∀C,mY σ l p C->mY σ' l' p C
theorem IZ {σ:Dk}{l:Lg}{p:Pg}{im:Im}(hV:VJ σ l p)(hi:im.Ok (p.blocks σ))(hla:l.last<1000000000000):
  (im.ks=[]/\p.commit σ l im=(σ,l,p,l.last,0))\/
  (im.ks≠[]/\p.rH im/\p.commit σ l im=(σ,l,p,0,13))\/
  (im.ks≠[]/\∃σ' l' p',p.commit σ l im=(σ',l',p',l.last+1,0)/\QV σ l p im σ' l' p')\/
  (im.ks≠[]/\∃σ' l' p',p.commit σ l im=(σ',l',p',0,10)/\Mk σ l p σ' l' p'):=by
 obtain⟨C0,hC0⟩:=hV.rc hla
 rcases vM hC0 hV.nd hV.ld hV.pd hi hla with h|h|⟨k1,_,⟨σ',l',p',q,a1,a2,a3,a4,a5,a6,a7,a8,a9,a10,a11⟩|⟨σ',l',p',q,a1,a2,a3,a4,a5,a6,a7⟩⟩
 ·exact .inl h
 ·exact .inr (.inl h)
 ·refine .inr (.inr (.inl ⟨k1,σ',l',p',q,⟨a1,a2,a3,a10.cap,fun _=>⟨_,a10⟩⟩,a5,a7,a8,a9,a11,a4,a6,fun C hC=> ?_⟩))
  rcases vM hC hV.nd hV.ld hV.pd hi hla with ⟨e,_⟩|⟨_,_,e⟩|⟨_,_,⟨_,_,_,e,_,_,_,_,_,_,_,_,_,r,_⟩|⟨_,_,_,e,_⟩⟩
  ·exact absurd e k1
  ·rw[q] at e;simp at e
  ·rw[q] at e
   simp only[nM] at e
   obtain⟨rfl,rfl,rfl,_⟩:=e
   exact r
  ·rw[q] at e;simp at e
 ·refine .inr (.inr (.inr ⟨k1,σ',l',p',q,a1,a2,a3,a4,a6,a7,fun C hC=> ?_⟩))
  rcases vM hC hV.nd hV.ld hV.pd hi hla with ⟨e,_⟩|⟨_,_,e⟩|⟨_,_,⟨_,_,_,e,_⟩|⟨_,_,_,e,_,_,_,_,r,_⟩⟩
  ·exact absurd e k1
  ·rw[q] at e;simp at e
  ·rw[q] at e;simp at e
  ·rw[q] at e
   simp only[nM] at e
   obtain⟨rfl,rfl,rfl,_⟩:=e
   exact r
theorem Tt {σ:Dk}{l:Lg}{p:Pg}(hV:VJ σ l p)(hla:l.last<1000000000000):
  (∃σ' l',p.sync σ l=(σ',l',p,0)/\QH σ l p σ' l')\/
  (∃σ' l',p.sync σ l=(σ',l',p.dies,10)/\Mk σ l p σ' l' p.dies):=by
 obtain⟨C0,hC0⟩:=hV.rc hla
 rcases BJ hC0 hV.nd hV.ld hV.pd with ⟨σ',l',q,a1,a2,a3,a4,a5,a6,a7,a8,a9⟩|⟨σ',l',q,a1,a2,a3,a4,a5,a6⟩
 ·refine .inl ⟨σ',l',q,⟨a1,a2,hV.pd,a8.cap,fun _=>⟨_,a8⟩⟩,a6,a7,a4,a9,a3,a5,fun C hC=> ?_⟩
  rcases BJ hC hV.nd hV.ld hV.pd with ⟨_,_,e,_,_,_,_,_,_,_,r,_⟩|⟨_,_,e,_⟩
  ·rw[q] at e
   simp only[nM] at e
   obtain⟨rfl,rfl,_⟩:=e
   exact r
  ·rw[q] at e;simp at e
 ·refine .inr ⟨σ',l',q,a1,a2,rfl,a3,a5,a6,fun C hC=> ?_⟩
  rcases BJ hC hV.nd hV.ld hV.pd with ⟨_,_,e,_⟩|⟨_,_,e,_,_,_,r,_⟩
  ·rw[q] at e;simp at e
  ·rw[q] at e
   simp only[nM] at e
   obtain⟨rfl,rfl,_⟩:=e
   exact r
structure mH where
 k:ByteArray
 s:ByteArray
 v:ByteArray
 b:List Int
def jC (es:List mH):List Pr:=es.map fun e=>(e.k,e.s)
def jF (es:List mH):List Pr:=es.map fun e=>(e.k,e.v)
def eX (es:List mH):List Int:=es.flatMap (·.b)
theorem vK (a b:List mH):jC (a++b)=jC a++jC b:=by simp[jC]
theorem mV (a b:List mH):jF (a++b)=jF a++jF b:=by simp[jF]
theorem kS (a b:List mH):eX (a++b)=eX a++eX b:=by simp[eX]
theorem EK (e:mH)(b:List mH):eX (e::b)=e.b++eX b:=by simp[eX]
theorem fM (es:List mH):(jC es).length=es.length:=by simp[jC]
theorem jR (es:List mH):(jF es).length=es.length:=by simp[jF]
def uL (es:List mH)(key:ByteArray):Nat:=(es.takeWhile fun e=>lt e.k key).length
theorem Fv (f:mH->Pr)(hf:∀e,(f e).1=e.k)(es:List mH)(key:ByteArray):cO (es.map f) key=uL es key:=by
 unfold cO uL
 rw[List.takeWhile_map,jM]
 congr 2
 funext e
 simp[hf]
theorem LZ (f:mH->Pr)(hf:∀e,(f e).1=e.k)(es:List mH)(key:ByteArray):
  (∀o,es[uL es key]? =some o->o.k=key->fD (es.map f) key=some (f o).2/\(∀x,jB (es.map f) key x=(es.take (uL es key)).map f++(key,x)::(es.drop (uL es key+1)).map f)/\nO (es.map f) key=(es.take (uL es key)).map f++(es.drop (uL es key+1)).map f)/\
  ((∀o,es[uL es key]? =some o->o.k≠key)->fD (es.map f) key=none/\(∀x,jB (es.map f) key x=(es.take (uL es key)).map f++(key,x)::(es.drop (uL es key)).map f)/\nO (es.map f) key=es.map f):=by
 have hp:=Fv f hf es key
 constructor
 ·intro o ho hk
  obtain⟨hl,_⟩:=cu.1 ho
  have hat:pz (es.map f) key=true:=by
   unfold pz
   rw[hp,eG,ho]
   simp[hf,hk]
  refine⟨?_,fun x=> ?_,?_⟩
  ·unfold fD
   rw[if_pos hat,hp,eG,ho];rfl
  ·unfold jB
   rw[if_pos hat,hp,sQ,if_pos (by rw[jM];exact hl),gB,fO]
  ·unfold nO
   rw[if_pos hat,hp,gB,fO]
 ·intro hno
  have hat:pz (es.map f) key=false:=by
   unfold pz
   rw[hp,eG]
   cases he:es[uL es key]? with
   |none=>rfl
   |some o=>simp[hf,hno o he]
  refine⟨?_,fun x=> ?_,?_⟩
  ·unfold fD
   rw[if_neg (by rw[hat];simp)]
  ·unfold jB
   rw[if_neg (by rw[hat];simp),hp,gB,fO]
  ·unfold nO
   rw[if_neg (by rw[hat];simp)]
structure AL (es:List mH)(key:ByteArray)(l o r:List mH):Prop where
 eq:es=l++o++r
 one:o=[]\/∃e,o=[e]/\e.k=key
 ls:fD (jC es) key=o.head?.map (·.s)
 lv:fD (jF es) key=o.head?.map (·.v)
 is:∀s v b,jB (jC es) key s=jC (l++⟨key,s,v,b⟩::r)
 iv:∀s v b,jB (jF es) key v=jF (l++⟨key,s,v,b⟩::r)
 ds:nO (jC es) key=jC (l++r)
 dv:nO (jF es) key=jF (l++r)
theorem QE (es:List mH)(key:ByteArray):∃l o r,AL es key l o r:=by
 have hs:=LZ (fun e=>(e.k,e.s)) (fun _=>rfl) es key
 have hv:=LZ (fun e=>(e.k,e.v)) (fun _=>rfl) es key
 by_cases h:∃o,es[uL es key]? =some o/\o.k=key
 ·obtain⟨o,ho,hk⟩:=h
  obtain⟨hl,he⟩:=cu.1 ho
  obtain⟨a1,a2,a3⟩:=hs.1 o ho hk
  obtain⟨b1,b2,b3⟩:=hv.1 o ho hk
  refine⟨es.take (uL es key),[o],es.drop (uL es key+1),?_,.inr ⟨o,rfl,hk⟩,a1,b1,fun s v b=> ?_,fun s v b=> ?_,?_,?_⟩
  ·rw[<-he,aL,List.singleton_append,List.getElem_cons_drop,bJ]
  ·rw[vK];exact a2 s
  ·rw[mV];exact b2 v
  ·rw[vK];exact a3
  ·rw[mV];exact b3
 ·have hno:∀o,es[uL es key]? =some o->o.k≠key:=fun o ho hk=>h ⟨o,ho,hk⟩
  obtain⟨a1,a2,a3⟩:=hs.2 hno
  obtain⟨b1,b2,b3⟩:=hv.2 hno
  refine⟨es.take (uL es key),[],es.drop (uL es key),?_,.inl rfl,a1,b1,fun s v b=> ?_,fun s v b=> ?_,?_,?_⟩
  ·rw[dJ,bJ]
  ·rw[vK];exact a2 s
  ·rw[mV];exact b2 v
  ·rw[bJ];exact a3
  ·rw[bJ];exact b3
theorem vW.keep {σ σ':bZ}{head size:Nat}{rs:List (Nat×Nat)}(h:vW σ head size rs)(h1:σ'.hasB head=true)(h2:σ'.mem head=σ.mem head):vW σ' head size rs:=by
 obtain⟨a,_,c,d,e,f,g⟩:=h
 exact⟨a,h1,by rw[h2];exact c,d,e,f,g⟩
theorem pF.keep {σ σ':bZ}{head:Nat}{t:List UInt8}{rs:List (Nat×Nat)}(h:pF σ head t rs)(hk:∀x∈jZ head rs,σ'.hasB x=true/\σ'.mem x=σ.mem x):pF σ' head t rs:=by
 have hin:∀b∈fQ rs++[head],((b:Nat):Int)∈jZ head rs:=fun b hb=>kD hb
 refine⟨h.hd.keep (hk _ (hin head (by simp))).1 (hk _ (hin head (by simp))).2,h.nd,fun i hi=> ?_⟩
 obtain⟨a,b,c⟩:=h.blk i hi
 have:=hk _ (hin (fQ rs)[i] (dI _ (bE hi)))
 exact⟨this.1,b,this.2.trans c⟩
theorem ValAt.keep {σ σ':bZ}{s v:ByteArray}{vb:List Int}(h:ValAt σ s v vb)(hk:∀x∈vb,σ'.hasB x=true/\σ'.mem x=σ.mem x):ValAt σ' s v vb:=by
 rcases h with h|⟨hd,rs,h1,h2,h3,h4⟩
 ·exact .inl h
 ·exact .inr ⟨hd,rs,h1,h2,h3.keep (fun x hx=>hk x (by rw[h4];exact hx)),h4⟩
theorem ValAt.all {σ:bZ}{s v:ByteArray}{vb:List Int}(h:ValAt σ s v vb):∀x∈vb,σ.hasB x=true/\2<=x:=by
 rcases h with ⟨_,_,rfl⟩|⟨hd,rs,_,_,h3,rfl⟩
 ·intro x hx;cases hx
 ·exact h3.all
theorem dS.Vh {T:ByteArray->Option ByteArray->Int->List Pr->List Int->Prop}(hT:∀k z b c x,T k z b c x->∀y∈x,2<=y){hi:Option ByteArray}{l:List (ByteArray×Int)}{cs:List Pr}{bs:List Int}(h:dS T hi l cs bs):∀y∈bs,2<=y:=dS.has hT h
theorem jg.two {σ:bZ}:∀{h m:Nat} {lo:ByteArray} {hi:Option ByteArray} {b:Int} {cs:List Pr} {bs:List Int},jg σ h m lo hi b cs bs->∀x∈bs,2<=x
 |0,_,_,_,_,_,_,⟨nd,h1,_,_,_,_,_,_,h8⟩=>by
  intro x hx
  rw[h8] at hx
  rw[bO.1 hx]
  exact h1.lo
 |h+1,_,_,_,_,_,_,⟨nd,bs',h1,_,_,_,h5,h6⟩=>by
  subst h5
  intro x hx
  rcases bM.1 hx with rfl|hx
  ·exact h1.lo
  ·exact dS.Vh (fun _ _ _ _ _ ht=>jg.two ht) h6 x hx
theorem zG.two {σ:bZ}{root:Int}{cs:List Pr}{bs:List Int}(h:zG σ root cs bs):∀x∈bs,2<=x:=by
 rcases h with ⟨_,_,rfl⟩|⟨h,ht⟩
 ·intro x hx;cases hx
 ·exact ht.two
structure Own (σ:bZ)(bs:List Int):Prop where
 nd:bs.Nodup
 ex:∀x,σ.hasB x=true->x=0\/x=1\/x∈bs
 size:σ.sz=countB σ.H.old σ.most+nh σ bs
theorem Own.Dt {σ σ':bZ}{us bs:List Int}(h:Own σ us)(hc:nu σ σ' us bs):Own σ' bs:=by
 refine⟨hc.nd h.nd,fun x hx=> ?_,?_⟩
 ·rcases hc.ex x hx with y|⟨y,z⟩
  ·exact .inr (.inr y)
  ·exact(h.ex x y).imp id (fun e=>e.imp id (fun e=>absurd e z))
 ·have a:=hc.size
  have b:=h.size
  rw[hc.H,hc.most,yQ hc.H]
  omega
structure Live (σ:bZ)(root:Int)(es:List mH)(tb:List Int):Prop where
 tree:zG σ root (jC es) tb
 val:∀e∈es,ValAt σ e.s e.v e.b
 own:Own σ (tb++eX es)
theorem Live.bb {σ:bZ}{root:Int}{es:List mH}{tb:List Int}(h:Live σ root es tb):∀x∈eX es,σ.hasB x=true/\2<=x:=by
 intro x hx
 obtain⟨e,he,hx⟩:=l8.1 hx
 exact(h.val e he).all x hx
theorem Live.all {σ:bZ}{root:Int}{es:List mH}{tb:List Int}(h:Live σ root es tb):∀x∈tb++eX es,σ.hasB x=true/\2<=x:=by
 intro x hx
 rcases bX.1 hx with hx|hx
 ·exact⟨h.tree.has x hx,h.tree.two x hx⟩
 ·exact h.bb x hx
theorem sI {a b:List Int}(h:(a++b).Nodup):∀x∈b,x∉a:=fun x hx ha=>(eD.1 h).2.2 x ha x hx rfl
theorem H8 {σ σ1 σ2 σ3:bZ}{root root':Int}{es l o r:List mH}{tb nb:List Int}{key s v:ByteArray}(hL:Live σ root es tb)(hA:AL es key l o r)(h1:nu σ σ1 (eX o) [])(h2:nu σ1 σ2 [] nb)(hv:ValAt σ2 s v nb){n:Nat}(h3:K5 σ2 tb (jB (jC es) key s) n σ3 root'):
  ∃tb',Live σ3 root' (l++⟨key,s,v,nb⟩::r) tb'/\nu σ σ3 (tb++eX es) (tb'++eX (l++⟨key,s,v,nb⟩::r)):=by
 obtain⟨tb',ht,h3,_,_⟩:=h3
 have hall:=hL.all
 have hn:=hL.own.nd
 have hes:=hA.eq
 have hbb:eX es=eX l++eX o++eX r:=by rw[hes,kS,kS]
 obtain⟨R,hR⟩:∃R,R=tb++eX l++eX r:=⟨_,rfl⟩
 have hp1:(tb++eX es).Perm (eX o++R):=by
  rw[hbb,hR]
  have:(tb++(eX l++eX o++eX r)).Perm (tb++(eX o++eX l++eX r)):=((gJ).append_right _).append_left _
  refine this.trans ?_
  have e1:tb++(eX o++eX l++eX r)=tb++eX o++(eX l++eX r):=by simp
  have e2:eX o++(tb++eX l++eX r)=eX o++tb++(eX l++eX r):=by simp
  rw[e1,e2]
  exact gJ.append_right _
 have hn1:=hp1.nodup_iff.1 hn
 have hRa:∀x∈R,σ.hasB x=true:=fun x hx=>(hall x (hp1.mem_iff.2 (dL _ hx))).1
 have c1:=h1.left (rs:=R) hn1 hRa
 have hR1:∀x∈R,σ1.hasB x=true:=fun x hx=>(c1.new x hx).1
 have c2:=h2.left (rs:=R) (c1.nd hn1) hR1
 have hn2:=c2.nd (c1.nd hn1)
 have hp3:(nb++R).Perm (tb++(nb++eX l++eX r)):=by
  rw[hR]
  have e1:nb++(tb++eX l++eX r)=nb++tb++(eX l++eX r):=by simp
  have e2:tb++(nb++eX l++eX r)=tb++nb++(eX l++eX r):=by simp
  rw[e1,e2]
  exact gJ.append_right _
 have hn3:=hp3.nodup_iff.1 hn2
 have hS2:∀x∈nb++R,σ2.hasB x=true:=fun x hx=>(c2.new x hx).1
 have c3:=h3.left (rs:=nb++eX l++eX r) hn3 (fun x hx=>hS2 x (hp3.mem_iff.2 (dL _ hx)))
 have hbb':eX (l++⟨key,s,v,nb⟩::r)=eX l++(nb++eX r):=by rw[kS,EK]
 have hp4:(tb'++(nb++eX l++eX r)).Perm (tb'++eX (l++⟨key,s,v,nb⟩::r)):=by
  rw[hbb',<-aL (eX l)]
  exact(gJ.append_right _).append_left _
 have C:nu σ σ3 (tb++eX es) (tb'++eX (l++⟨key,s,v,nb⟩::r)):=by
  have a:nu σ σ2 (tb++eX es) (tb++(nb++eX l++eX r)):=(c1.trans c2).perm hp1.symm hp3
  exact(a.trans c3).perm (jK _) hp4
 refine⟨tb',⟨?_,fun e he=> ?_,hL.own.Dt C⟩,C⟩
 ·rw[<-hA.is s v nb];exact ht
 ·have hoff:∀x∈nb++eX l++eX r,x∉tb:=sI hn3
  rcases bX.1 he with he|he
  ·have hin:∀x∈e.b,x∈eX l:=fun x hx=>l8.2 ⟨e,he,hx⟩
   refine(hL.val e (by rw[hes];exact dI _ (dI _ he))).keep fun x hx=> ?_
   have hxR:x∈R:=by rw[hR];exact dI _ (dL _ (hin x hx))
   have f1:=h1.frame x (hRa x hxR) (.inl (sI hn1 x hxR))
   have f2:=h2.frame x f1.1 (.inl (by simp))
   have f3:=h3.frame x f2.1 (.inl (hoff x (dI _ (dL _ (hin x hx)))))
   exact⟨f3.1,f3.2.trans (f2.2.trans f1.2)⟩
  ·rcases bM.1 he with rfl|he
   ·exact hv.keep fun x hx=>h3.frame x (hS2 x (dI _ hx)) (.inl (hoff x (dI _ (dI _ hx))))
   ·have hin:∀x∈e.b,x∈eX r:=fun x hx=>l8.2 ⟨e,he,hx⟩
    refine(hL.val e (by rw[hes];exact dL _ he)).keep fun x hx=> ?_
    have hxR:x∈R:=by rw[hR];exact dL _ (hin x hx)
    have f1:=h1.frame x (hRa x hxR) (.inl (sI hn1 x hxR))
    have f2:=h2.frame x f1.1 (.inl (by simp))
    have f3:=h3.frame x f2.1 (.inl (hoff x (dL _ (hin x hx))))
    exact⟨f3.1,f3.2.trans (f2.2.trans f1.2)⟩
theorem yg:∀(n:Nat) (f:Nat->Bool) (L:List Nat),L.Nodup->(∀x,x∈L↔x<n/\f x=true)->countB f n=L.length
 |0,f,L,_,h=>by
  cases L with
  |nil=>rfl
  |cons a L=>exact absurd ((h a).1 (bg ..)).1 (si _)
 |n+1,f,L,hn,h=>by
  rw[fJ]
  by_cases hf:f n=true
  ·have hm:n∈L:=(h n).2 ⟨iC n,hf⟩
   have ih:=yg n f (L.erase n) (hn.erase n) (fun x=>by
    rw[hn.mem_erase_iff,h]
    constructor
    ·rintro⟨a,b,c⟩;exact⟨by omega,c⟩
    ·rintro⟨a,b⟩;exact⟨by omega,by omega,b⟩)
   rw[ih,hf,List.length_erase_of_mem hm]
   have:=List.length_pos_of_mem hm
   simp;omega
  ·have hf':f n=false:=by simpa using hf
   have ih:=yg n f L hn (fun x=>by
    rw[h]
    constructor
    ·rintro⟨a,b⟩
     exact⟨by have:x≠n:=fun e=>hf (e▸b);omega,b⟩
    ·rintro⟨a,b⟩;exact⟨by omega,b⟩)
   rw[ih,hf'];rfl
theorem Own.count {σ:bZ}{bs:List Int}(h:Own σ bs)(hok:σ.Ok)(hb:∀x∈bs,σ.hasB x=true/\2<=x):countB σ.now σ.most=2+bs.length:=by
 obtain⟨L,hL⟩:∃L:List Nat,L=bs.map Int.toNat:=⟨_,rfl⟩
 have h2:=hok.two
 have hin:∀x∈L,2<=x/\x<σ.most/\σ.now x=true:=by
  intro x hx
  rw[hL] at hx
  obtain⟨y,hy,rfl⟩:=eT.1 hx
  obtain⟨n,e,a,b⟩:=bZ.kJ (hb y hy).1
  have:=(hb y hy).2
  rw[e,fw]
  exact⟨by omega,a,b⟩
 have hnd:L.Nodup:=by
  rw[hL]
  refine List.Pairwise.map _ (R:=fun a b=>a≠b/\2<=a/\2<=b) (fun a b (hab:a≠b/\2<=a/\2<=b) e=>hab.1 (by omega)) ?_
  have:=h.nd
  exact List.Pairwise.imp_of_mem (fun ha hb' hab=>⟨hab,(hb _ ha).2,(hb _ hb').2⟩) this
 rw[yg σ.most σ.now (0::1::L) ?_ fun x=> ?_]
 ·rw[hL];simp;omega
 ·refine lu.2 ⟨fun e=> ?_,lu.2 ⟨fun e=> ?_,hnd⟩⟩
  ·rcases bM.1 e with e|e
   ·cases e
   ·have:=(hin 0 e).1;omega
  ·have:=(hin 1 e).1;omega
 ·constructor
  ·intro hx
   rcases bM.1 hx with rfl|hx
   ·exact⟨by omega,hok.n0⟩
   ·rcases bM.1 hx with rfl|hx
    ·exact⟨by omega,hok.n1⟩
    ·exact(hin x hx).2
  ·rintro⟨a,b⟩
   have hh:σ.hasB (x:Int)=true:=by unfold bZ.hasB;rw[fw,b];simp[a]
   rcases h.ex x hh with e|e|e
   ·have:x=0:=by omega
    subst this;exact bg ..
   ·have:x=1:=by omega
    subst this;exact aW _ (bg ..)
   ·refine aW _ (aW _ ?_)
    rw[hL]
    exact eT.2 ⟨x,e,by simp⟩
theorem JR (t:Nat)(w:World)(h:Jm w t):
  Calls Tryz.prog 56 #[.pointer (some ⟨t,0,none⟩)] w fun e w'=>e= .returned (.tuple #[])/\w'=w:=by
 obtain⟨db,h⟩:=h
 have c0:w.cell? ⟨t,0,none⟩=some (.pointer none):=by simp[World.cell?,h]
 have hlt:=(aj.1 h).1
 clear h
 go_enter Tryz.func56,Tryz.ntmps56
 go_wp2_with fail
 go_end0
 exact⟨rfl,rfl⟩
theorem R6 (mp:VS)(root:Int)(w:World)(hr:0<=root):
  Calls Tryz.prog 58 #[.iface 97 mp.agg,.int .i64 root] w fun e w'=>e= .returned (.pointer (some ⟨w.heap.size,0,none⟩))/\dG w' w.heap.size mp root 0/\w'.heap.size=w.heap.size+1/\Below w.heap.size w w':=by
 have hr2:¬root<0:=by omega
 have heq:∀w:World,(binOp BinOp.eql 158 (.iface 97 mp.agg) .nilIface).run Tryz.prog w= .ok (.bool false) w:=fun _=>by kernel_rfl
 go_enter Tryz.func58,Tryz.ntmps58
 go_wp2_with fail
 go_ret
 exact⟨rfl,bD _ _,by simp,aO _ _⟩
theorem R5 (t:Nat)(mp:VS)(root err:Int)(w:World)(h:dG w t mp root err):
  Calls Tryz.prog 65 #[.pointer (some ⟨t,0,none⟩)] w fun e w'=>e= .returned (.int .i64 root)/\w'=w:=by
 obtain⟨_,c1,_,_,_,_,hlt⟩:=cells3 h
 go_enter Tryz.func65,Tryz.ntmps65
 go_wp2
 go_ret
 exact⟨rfl,rfl⟩
theorem UA (v pg d:Nat)(σ:Dk)(l:Lg)(p:Pg)(op:Value)(S:Nat->Prop)(w:World)(hv:w.heap[v]? =some (.cells #[.pointer (some ⟨pg,0,none⟩)] 88 (0,0)))(h:jh w S pg d σ l p op)(hcap:σ.waits.length<=90000):
  Calls Tryz.prog 27 #[.pointer (some ⟨v,0,none⟩)] w fun e w'=>e= .returned (.int .i64 (p.sync σ l).2.2.2)/\∃S',jh w' S' pg d (p.sync σ l).1 (p.sync σ l).2.1 (p.sync σ l).2.2.1 op/\Step S S' w w':=by
 have c0:w.cell? ⟨v,0,none⟩=some (.pointer (some ⟨pg,0,none⟩)):=by simp[World.cell?,hv]
 have hlt:=(aj.1 hv).1
 have HP:=ah (Sz pg d σ l p op S w h hcap)
 clear hv h
 go_enter Tryz.func27,Tryz.ntmps27
 go_wp2_with (first
  |(go_at_call 44;go_must (refine HP.out.mono ?_;rintro e w2 ⟨rfl,hp2⟩)))
 go_ret
 exact⟨rfl,hp2⟩
def QJ (l:List UInt8)(root:Nat):Prop:=root<65536/\∃rest,l=[UInt8.ofNat root,UInt8.ofNat (root/256)]++rest
def bZ.start (σ:Dk)(l:Lg)(p:Pg)(f:Nat->Bool):bZ:=⟨⟨σ,l,p,f⟩,p.blocks σ,Im.none,f,countB f (p.blocks σ)⟩
theorem bZ.Ok.start {σ:Dk}{l:Lg}{p:Pg}{f:Nat->Bool}(hp:p.Ok σ l)(hs:σ.Ok)(hd:p.dead=false)(hsd:σ.dead=false)(h2:2<=p.blocks σ)(hhi:∀b,p.blocks σ<=b->f b=false)(h0:f 0=true)(h1:f 1=true):(bZ.start σ l p f).Ok:=by
 refine⟨hd,hsd,rfl,h2,?_,hhi,hhi,h0,h1,(fun b hb=>by cases hb),(fun b _ hn ho=> ?_),?_,fun b _=> ?_⟩
 ·have:=hs.hi
  show p.blocks σ<=4096
  unfold Pg.blocks;omega
 ·have hn':f b=true:=hn
  have ho':f b=false:=ho
  rw[hn'] at ho';cases ho'
 ·show countB (fun x=>f x||f x) (p.blocks σ)<=countB f (p.blocks σ)
  exact ol _ (fun x _ hx=>by simpa using hx)
 ·show (p.look Im.none σ b).length=512
  rw[Pg.zS]
  unfold Im.find
  split
  ·exact hp.fresh.img _ ‹_›
  ·exact hs.get _
def Oe (pg d:Nat)(σ:Dk)(l:Lg)(p:Pg)(f:Nat->Bool)(root:Nat)(S:Nat->Prop)(w:World)(e:Ending)(w':World):Prop:=
 ∃t tr mp S',e= .returned (.tuple #[.pointer (some ⟨t,0,none⟩),.int .i64 0])/\mp.pg=pg/\mp.d=d/\w'.heap[t]? =some (.cells (dH mp (some tr) false 0) 100 (0,0))/\dG w' tr mp root 0/\Inv (bZ.start σ l p f) S' mp w'/\Step S S' w w'/\¬S' t/\¬S' tr/\w.heap.size<=t/\w.heap.size<=tr
theorem OJ (v pg d:Nat)(σ:Dk)(l:Lg)(p:Pg)(f:Nat->Bool)(root:Nat)(S:Nat->Prop)(w:World)(hv:w.heap[v]? =some (.cells #[.pointer (some ⟨pg,0,none⟩)] 88 (0,0)))(hvS:¬S v)(h:jh w S pg d σ l p (.pointer none))(hd:p.dead=false)(hsd:σ.dead=false)(h2:2<=p.blocks σ)(hf:p.look Im.none σ 0=bytesOf f)(hhi:∀b,p.blocks σ<=b->f b=false)(h0:f 0=true)(h1:f 1=true)(hr:QJ (p.look Im.none σ 1) root):
  Calls Tryz.prog 21 #[.pointer (some ⟨v,0,none⟩)] w (Oe pg d σ l p f root S w):=by
 have hok:=bZ.Ok.start h.ok.1 h.ok.2.1 hd hsd h2 hhi h0 h1
 have c0:w.cell? ⟨v,0,none⟩=some (.pointer (some ⟨pg,0,none⟩)):=by simp[World.cell?,hv]
 have hlt:=(aj.1 hv).1
 have HB:=ah (Py pg d σ l p S w h hd)
 have HV:=ah hv;have HOK:=ah hok
 have hsub:=h.sub
 obtain⟨hr1,rest,hr2⟩:=hr
 have HF:=ah (aF hf (aF hhi (aF h0 h1)))
 have HR2:=ah hr2
 clear hv h hok hf hhi h0 h1 hr2
 go_enter Tryz.func21,Tryz.ntmps21
 go_wp2_with (first
  |(go_at_call 40;go_must (refine HB.out.mono ?_;rintro e w1 ⟨tx,T,rfl,hp1,htx1,hs1,hT1⟩;refine Stop.of ?_)))
 refine Stop.on ?_
 have hdis:∀g,S g->¬T g:=fun g hg e=>absurd (hT1 g e) (gI.2 (hsub g hg))
 have hv1:=(hs1.1.block v hlt hvS).trans HV.out
 have d0:w1.cell? ⟨v,0,none⟩=some (.pointer (some ⟨pg,0,none⟩)):=by simp[World.cell?,hv1]
 have hl1:=(aj.1 hv1).1
 have HBK:=ah (yM pg d σ l p _ S w1 hp1)
 have HLD:=ah (Tx tx pg d σ l p _ Im.none S T f w1.drew (hp1.below ((aR _ w1).drew)) (htx1.below ((aR _ w1).drew)) hd hsd h2 HF.out.1 HF.out.2.1 HF.out.2.2.1 HF.out.2.2.2)
 have HP1:=ah (aF hp1 (aF htx1 hs1))
 clear hv1 hp1 htx1 hs1
 go_wp2_with (first
  |(go_at_call 42;go_must (refine HBK.out.mono ?_;rintro e w2 ⟨rfl,hw2⟩;subst w2))
  |(go_at_call 55;go_must (refine HLD.out.mono ?_;rintro e w2 ⟨mp,rfl,hmp2,hmlo,hb2⟩;refine Stop.of ?_)))
 refine Stop.on ?_
 have hb12:Below w1.heap.size w1 w2:=((aR _ w1).drew).trans hb2
 have hp2:=HP1.out.1.below hb12
 have htx2:=HP1.out.2.1.below hb12
 have HRD:=tread tx pg d σ l p _ Im.none S T 1 w2 hp2 htx2 hd hsd (by omega)
 rw[HR2.out] at HRD
 have HRD:=ah HRD
 go_wp2_with (first
  |(go_at_call 57;go_must (refine HRD.out.mono ?_;rintro e w3 ⟨rv,rfl,hrv3,hro3,hb3⟩;refine Stop.of ?_)))
 refine Stop.on ?_
 obtain⟨ro,rc,rfl,r1,r2,r3,r4⟩:=aX.form hrv3
 have hbt:=UInt8.toNat_lt (UInt8.ofNat root)
 have hbt2:=UInt8.toNat_lt (UInt8.ofNat (root/256))
 have e1:(UInt8.ofNat root).toNat=root%256:=by rw[fe]
 have e2:(UInt8.ofNat (root/256)).toNat=root/256:=by rw[fe];omega
 obtain⟨pb,po,rfl,e30⟩:=hrv3.DU rfl 0 (.int .u8 ((root%256:Nat):Int)) (by simp[aI,e1])
 obtain⟨pb',po',e',e31⟩:=hrv3.DU rfl 1 (.int .u8 ((root/256:Nat):Int)) (by simp[aI,e2])
 cases e'
 have hpb:=aD w3 _ e30
 obtain⟨lo,hlo⟩:∃n:Nat,n=root%256:=⟨_,rfl⟩
 obtain⟨hi,hhi⟩:∃n:Nat,n=root/256:=⟨_,rfl⟩
 rw[<-hlo] at e30
 rw[<-hhi] at e31
 have hlo2:lo<256:=by omega
 have hhi2:hi<256:=by omega
 have hroot:root=lo+256*hi:=by omega
 have q1:IntKind.i64.wrap (lo:Int)=(lo:Int):=aG _ (by omega)
 have q2:IntKind.i64.wrap (hi:Int)=(hi:Int):=aG _ (by omega)
 have p1:IntKind.i64.wrap ((hi:Int)*256)=((256*hi:Nat):Int):=by rw[aG _ (by omega)];omega
 have o1:=uZ lo hi 256 root 8 rfl hlo2 hroot (by omega)
 have HRT:=ah hroot
 obtain⟨m1,hm1⟩:∃m:Nat,Hid (256*hi=m):=⟨_,ah rfl⟩
 rw[hm1.out] at p1 o1
 have HP3:=ah (aF (hp2.below hb3) (aF (htx2.below hb3) (hb12.trans (hb3.mono hb12.size))))
 have hmp3:=ah ((hb3.block mp (aj.1 hmp2).1).trans hmp2)
 clear hrv3 hro3 e1 e2 hbt hbt2 hlo hhi hroot hp2 htx2 hmp2
 go_upto_region 15 with (fail)
 have hb4:=aO w3 (.cells #[.pointer (some ⟨tx,0,none⟩),.pointer (some ⟨mp,0,none⟩)] 97)
 have h4:=bD w3 (.cells #[.pointer (some ⟨tx,0,none⟩),.pointer (some ⟨mp,0,none⟩)] 97)
 obtain⟨sb,hsb⟩:∃sb,Hid (w3.heap.size=sb):=⟨_,ah rfl⟩
 obtain⟨w4,hw4⟩:∃w4,Hid (w3.alloc (.cells #[.pointer (some ⟨tx,0,none⟩),.pointer (some ⟨mp,0,none⟩)] 97)=w4):=⟨_,ah rfl⟩
 rw[hw4.out] at hb4 h4 ⊢
 rw[hsb.out] at h4 ⊢
 have HCL:=ah (show ∀W:World,Below w4.heap.size w4 W->(W.cell? ⟨sb,0,none⟩=some (.pointer (some ⟨tx,0,none⟩))/\W.cell? ⟨sb,1,none⟩=some (.pointer (some ⟨mp,0,none⟩))/\W.cell? ⟨pb,po,none⟩=some (.int .u8 (lo:Int))/\W.cell? ⟨pb,po+1,none⟩=some (.int .u8 (hi:Int))/\sb<W.heap.size/\pb<W.heap.size) from fun W hW=>by
  have hl:=(aj.1 h4).1
  have hl3:=ak hpb hb4.size
  have h5:=(hW.block sb hl).trans h4
  exact⟨by simp[World.cell?,h5],by simp[World.cell?,h5],(hW.cell (p:=⟨pb,po,none⟩) hl3).trans ((hb4.cell (p:=⟨pb,po,none⟩) hpb).trans e30),(hW.cell (p:=⟨pb,po+1,none⟩) hl3).trans ((hb4.cell (p:=⟨pb,po+1,none⟩) hpb).trans e31),ak hl hW.size,ak hl3 hW.size⟩)
 have HB4:=ah hb4
 clear e30 e31 h4 hb4
 refine aP (fun W=>W.cell? ⟨sb,0,none⟩=some (.pointer (some ⟨tx,0,none⟩))/\W.cell? ⟨sb,1,none⟩=some (.pointer (some ⟨mp,0,none⟩))/\W.cell? ⟨pb,po,none⟩=some (.int .u8 (lo:Int))/\W.cell? ⟨pb,po+1,none⟩=some (.int .u8 (hi:Int))/\sb<W.heap.size/\pb<W.heap.size) (fun i=> !([13,15].contains i)) [0,1,2,3,4,5,6,7,8,9,10,11,12,13,14,15,16,17] rfl (by kernel_rfl) (HCL.out _ ((aR _ w4).drew)) ?_
 repeat ((refine bP (v:= ?_) rfl rfl (fun _ _ _ h=>h) rfl (fun W hW=> ?_) ?_);rotate_left;(focus ((try dsimp only at hW);obtain⟨a0,a1,a2,a3,a4,a5⟩:=hW;(go_simp;first|done|with_reducible rfl)));(try simp only[Act.put,ai,ax,au]))
 obtain⟨ms,hms⟩:∃ms:VS,ms=⟨tx,pg,d,mp⟩:=⟨_,rfl⟩
 have HBO:=ah (R6 ms (root:Int) w4.drew (by omega))
 rw[hms] at HBO
 refine dK rfl rfl rfl ?_;intro K hK;go_simp
 refine HBO.out.mono ?_;rintro e w5 ⟨rfl,htr5,-,hb5⟩
 have hb45:Below w4.heap.size w4 w5:=((aR _ w4).drew).trans hb5
 refine hK.out _ _ (HCL.out _ hb45) ?_
 (try simp only[Act.put,ai,ax,au])
 repeat ((refine bP (v:= ?_) rfl rfl (fun _ _ _ h=>h) rfl (fun W hW=> ?_) ?_);rotate_left;(focus ((try dsimp only at hW);obtain⟨a0,a1,a2,a3,a4,a5⟩:=hW;(go_simp;first|done|with_reducible rfl)));(try simp only[Act.put,ai,ax,au]))
 refine dK rfl rfl rfl ?_;intro K hK;go_simp
 have hb6:=aO w5 (.cells #[.pointer (some ⟨tx,0,none⟩),.pointer (some ⟨mp,0,none⟩),.pointer (some ⟨w4.heap.size,0,none⟩),.bool false,.int .i64 0] 100)
 have h6:=bD w5 (.cells #[.pointer (some ⟨tx,0,none⟩),.pointer (some ⟨mp,0,none⟩),.pointer (some ⟨w4.heap.size,0,none⟩),.bool false,.int .i64 0] 100)
 have hb46:=hb45.trans (hb6.mono hb45.size)
 refine hK.out _ _ (HCL.out _ hb46) ?_
 (try simp only[Act.put,ai,ax,au])
 repeat ((refine bP (v:= ?_) rfl rfl (fun _ _ _ h=>h) rfl (fun W hW=> ?_) ?_);rotate_left;(focus ((try dsimp only at hW);obtain⟨a0,a1,a2,a3,a4,a5⟩:=hW;(go_simp;first|done|with_reducible rfl)));(try simp only[Act.put,ai,ax,au]))
 refine bS ?_
 go_wp2_with fail
 go_ret2
 have hb36:=HB4.out.trans (hb46.mono HB4.out.size)
 have hmpl:=(aj.1 hmp3.out).1
 have hT1':∀g,T g->w.heap.size<=g:=hT1
 have hl3:w1.heap.size<=w3.heap.size:=HP3.out.2.2.size
 have hl01:=HP1.out.2.2.1.size
 have hbt:w3.heap.size<=w4.heap.size:=HB4.out.size
 have hbu:w4.heap.size<=w5.heap.size:=hb45.size
 have hsub1:∀g,S g->g<w1.heap.size:=fun g hg=>ak (hsub g hg) hl01
 have hsubT:∀g,T g->g<w1.heap.size:=HP1.out.2.1.sub
 have hlo2':w1.heap.size<=mp:=hmlo
 refine⟨w5.heap.size,w4.heap.size,⟨tx,pg,d,mp⟩,fun g=>S g\/T g\/g=mp,rfl,rfl,rfl,h6,?_,⟨S,T,⟨HOK.out,HP3.out.1.below hb36,HP3.out.2.1.below hb36,(hb36.block mp hmpl).trans hmp3.out,hdis,fun e=>absurd (hsub1 mp e) (bq.2 hlo2'),fun e=>absurd (hsubT mp e) (bq.2 hlo2')⟩,fun g=>Og⟩,⟨?_,fun g hg=> ?_⟩,?_,?_,?_,?_⟩
 ·exact(hb6.block _ (aj.1 htr5).1).trans htr5
 ·refine(HP1.out.2.2.1.trans (Keep.of_below (HP3.out.2.2.trans (hb36.mono hl3)) fZ) (fun _ _ e=>e.elim))
 ·rcases hg with hg|hg|hg
  ·exact .inl hg
  ·exact .inr (hT1' g hg)
  ·exact .inr (by rw[hg];omega)
 ·rintro(e|e|e)
  ·have:=hsub1 _ e;omega
  ·have:=hsubT _ e;omega
  ·omega
 ·rintro(e|e|e)
  ·have:=hsub1 _ e;omega
  ·have:=hsubT _ e;omega
  ·omega
 ·omega
 ·omega
theorem Iy:∀(l:List Int) (σ:bZ),(σ.frees l).tk=σ.tk
 |[],_=>rfl
 |y::l,σ=>Iy l (σ.gone y)
theorem Bz {w:World}{t tr:Nat}{mp mp':VS}{tr':Option Nat}{ch:Bool}{er root err:Int}(h:w.heap[t]? =some (.cells (dH mp tr' ch er) 100 (0,0)))(ht:dG w tr mp' root err):t≠tr:=by
 rintro rfl
 unfold dG at ht
 rw[h] at ht
 injection ht with ht
 injection ht with _ h2
 exact absurd h2 (by decide)
theorem sD (l:List Int):(qf l).Perm l:=rf _ _
theorem Sw (t tr:Nat)(mp:VS)(root:Int)(ch:Bool)(er:Int)(σ:bZ)(S:Nat->Prop)(w:World)(es l o r:List mH)(tb:List Int)(key:ByteArray)(h:w.heap[t]? =some (.cells (dH mp (some tr) ch er) 100 (0,0)))(hI:Inv σ S mp w)(ht:dG w tr mp root 0)(hL:Live σ root es tb)(hA:AL es key l o r)(hl:es.length<=4090)(hg:1<=key.size/\key.size<=128):
  Calls Tryz.prog 60 #[.pointer (some ⟨t,0,none⟩),.string key] w fun e w'=>e= .returned (.int .i64 0)/\∃σ1,Inv σ1 S mp w'/\Step S S w w'/\nu σ σ1 (eX o) []/\σ1.tk=σ.tk:=by
 have hl':(jC es).length<=4090:=by rw[fM];exact hl
 have hsmall:rO ((fD (jC es) key).getD ⟨#[]⟩).data.toList=none->((fD (jC es) key).getD ⟨#[]⟩).size<=1000000->eX o=[]->Calls Tryz.prog 60 #[.pointer (some ⟨t,0,none⟩),.string key] w fun e w'=>e= .returned (.int .i64 0)/\∃σ1,Inv σ1 S mp w'/\Step S S w w'/\nu σ σ1 (eX o) []/\σ1.tk=σ.tk:=by
  intro h1 h2 h3
  refine(JJ t tr mp root ch er σ S w (jC es) tb key h hI ht hL.tree hl' hg h1 h2).mono ?_
  rintro e w' ⟨rfl,hb⟩
  rw[h3]
  exact⟨rfl,σ,hI.below hb,Step.of_below hb,nu.refl (fun x hx=>by cases hx),rfl⟩
 rcases hA.one with rfl|⟨e,rfl,hk⟩
 ·have hls:fD (jC es) key=none:=hA.ls
  refine hsmall ?_ ?_ rfl
  ·rw[hls];rfl
  ·rw[hls];exact aT _
 ·have hls:fD (jC es) key=some e.s:=hA.ls
  have hv:=hL.val e (by rw[hA.eq];simp)
  have hbo:eX [e]=e.b:=by simp[eX]
  rcases hv with ⟨h1,h2,h3⟩|⟨hd,rs,h1,h2,h3,h4⟩
  ·refine hsmall ?_ ?_ (by rw[hbo,h3])
   ·rw[hls,Us,h1];exact vg _
   ·rw[hls,Us,h1]
    have:(strOf (0::e.v.data.toList)).size=e.v.size+1:=by show (0::e.v.data.toList).toArray.size=e.v.data.size+1;simp
    omega
  ·refine(JK t tr mp root ch er σ S w (jC es) tb key e.s hd e.v.data.toList rs h hI ht hL.tree hl' hg hls (by rw[h1];exact xS hd h2.1) (by rw[h1];show [1,UInt8.ofNat hd,UInt8.ofNat (hd/256)].toArray.size<=_;simp) h3).mono ?_
   rintro e' w' ⟨rfl,hI',hs'⟩
   refine⟨rfl,_,hI',hs',?_,Iy _ _⟩
   rw[hbo,h4]
   exact(Ac (qf (jZ hd rs)) σ (fun x hx=>(h3.all x ((BM x).1 hx)).1) ((sD _).nodup_iff.2 h3.nd)).perm (sD _) (jK _)
structure DW (w:World)(S:Nat->Prop)(t tr:Nat)(mp:VS)(σ:bZ)(root err:Int)(ch:Bool)(er:Int):Prop where
 tx:w.heap[t]? =some (.cells (dH mp (some tr) ch er) 100 (0,0))
 tree:dG w tr mp root err
 inv:Inv σ S mp w
 nt:¬S t
 ntr:¬S tr
theorem DW.keep {w w':World}{S M:Nat->Prop}{t tr:Nat}{mp:VS}{σ:bZ}{root err:Int}{ch:Bool}{er:Int}(h:DW w S t tr mp σ root err ch er)(hk:Keep M w w')(hM:∀g,S g\/g=t\/g=tr->¬M g):DW w' S t tr mp σ root err ch er:=
 ⟨(hk.block t (aj.1 h.tx).1 (hM t (.inr (.inl rfl)))).trans h.tx,(hk.block tr (aj.1 h.tree).1 (hM tr (.inr (.inr rfl)))).trans h.tree,h.inv.mW hk (fun g hg=>hM g (.inl hg)),h.nt,h.ntr⟩
theorem DW.below {w w':World}{S:Nat->Prop}{t tr:Nat}{mp:VS}{σ:bZ}{root err:Int}{ch:Bool}{er:Int}(h:DW w S t tr mp σ root err ch er)(hb:Below w.heap.size w w'):DW w' S t tr mp σ root err ch er:=h.keep (Keep.of_below hb fZ) (fun _ _ e=>e)
def jd (S S':Nat->Prop)(t tr:Nat)(w w':World):Prop:=Keep (fun g=>S g\/g=t\/g=tr) w w'/\∀g,S' g->S g\/w.heap.size<=g
theorem jd.of {S S':Nat->Prop}{t tr:Nat}{w w':World}(h:Step S S' w w'):jd S S' t tr w w':=⟨h.1.mono (fun _ _ e=> .inl e),h.2⟩
theorem jd.trans {S S1 S2:Nat->Prop}{t tr:Nat}{w w1 w2:World}(h:jd S S1 t tr w w1)(k:jd S1 S2 t tr w1 w2):jd S S2 t tr w w2:=
 ⟨h.1.trans k.1 (fun g hg e=>e.elim (fun x=>(h.2 g x).elim .inl (fun y=>absurd hg (bq.2 y))) .inr),fun g hg=>(k.2 g hg).elim (fun x=>h.2 g x) (fun x=> .inr (aK h.1.size x))⟩
theorem jd.one {S:Nat->Prop}{t tr:Nat}{w w':World}(h:Keep (· =t) w w'):jd S S t tr w w':=⟨h.mono (fun _ _ e=> .inr (.inl e)),fun _ hg=> .inl hg⟩
theorem jd.tree {S S':Nat->Prop}{t tr:Nat}{w w':World}(h:Keep (fun g=>S g\/g=tr) w w')(h2:∀g,S' g->S g\/w.heap.size<=g):jd S S' t tr w w':=⟨h.mono (fun _ _ e=>e.imp id .inr),h2⟩
def Vr (σ σ':bZ)(tb:List Int)(c:Nat):Prop:=∀L,σ.sz+c<=L+nh σ tb->σ.tk<=L->σ'.tk<=L
def wW (t tr:Nat)(mp:VS)(S:Nat->Prop)(σ:bZ)(ch:Bool)(w w':World):Prop:=
 ∃σ' S' root' err',DW w' S' t tr mp σ' root' err' ch 12/\σ'.H=σ.H/\σ'.most=σ.most/\jd S S' t tr w w'
theorem Ji {σ σ1:bZ}{us:List Int}(h:nu σ σ1 us [])(ht:σ1.tk=σ.tk):A7 σ σ1 0:=by
 have hs:=h.size
 have hz:nh σ []=0:=rfl
 exact⟨by omega,fun L _ t=>by omega⟩
def gP (value:ByteArray):Nat:=if value.size<=63 then 0 else 1+sJ value.size
def F7 (t tr:Nat)(mp:VS)(S:Nat->Prop)(σ:bZ)(es l r:List mH)(tb:List Int)(key value:ByteArray)(w w':World):Prop:=
 ∃σ' S' root' tb' s nb,DW w' S' t tr mp σ' root' 0 true 0/\Live σ' root' (l++⟨key,s,value,nb⟩::r) tb'/\nu σ σ' (tb++eX es) (tb'++eX (l++⟨key,s,value,nb⟩::r))/\jd S S' t tr w w'/\Vr σ σ' tb (2*(es.length+1)+gP value)/\((l++⟨key,s,value,nb⟩::r).length<=299->A7 σ σ' (65+gP value))
theorem Ea (value:ByteArray):(⟨#[0]⟩:ByteArray)++value=strOf (0::value.data.toList):=by
 apply Q5
 rw[ByteArray.data_append]
 apply EQ.1
 rw[rq]
 rfl
theorem OG (t tr:Nat)(mp:VS)(ch:Bool)(w:World)(key value:ByteArray)(h:w.heap[t]? =some (.cells (dH mp (some tr) ch 0) 100 (0,0)))(hg:1<=key.size/\key.size<=128)(hv:49152<value.size):
  Calls Tryz.prog 23 #[.pointer (some ⟨t,0,none⟩),.string key,.string value] w fun e w'=>e= .returned (.int .i64 1)/\w'=w:=by
 have HU:=ah (pI t mp tr ch 0 key w h)
 have hu:jm 0 key=0:=by unfold jm;rw[if_neg (by simp),if_neg (by omega)]
 rw[hu] at HU
 have x1:(49152:Int)<(value.size:Int):=by omega
 clear h hu
 go_enter Tryz.func23,SX
 go_wp2_with (first
  |(go_at_call 59;go_must (refine HU.out.mono ?_;rintro e w1 ⟨rfl,rfl⟩)))
 go_ret
 exact⟨rfl,rfl⟩
theorem wF (t tr:Nat)(mp:VS)(root:Int)(ch:Bool)(σ:bZ)(S:Nat->Prop)(w:World)(es l o r:List mH)(tb:List Int)(key:ByteArray)(hT:DW w S t tr mp σ root 0 ch 0)(hL:Live σ root es tb)(hA:AL es key l o r)(hl:es.length<=4090)(hg:1<=key.size/\key.size<=128):
  Calls Tryz.prog 36 #[.pointer (some ⟨t,0,none⟩),.string key] w fun e w'=>e= .returned (.tuple #[.string ((fD (jF es) key).getD ByteArray.empty),.bool (fD (jF es) key).isSome,.int .i64 0])/\Below w.heap.size w w':=by
 have hl':(jC es).length<=4090:=by rw[fM];exact hl
 rcases hA.one with rfl|⟨e,rfl,hk⟩
 ·have h1:fD (jC es) key=none:=hA.ls
  have h2:fD (jF es) key=none:=hA.lv
  have:=UE t tr mp root ch σ S w (jC es) tb key ByteArray.empty [] hT.tx hT.inv hT.tree hL.tree hl' hg (fun s hs=>by rw[h1] at hs;cases hs)
  rw[h1] at this
  rw[h2]
  exact this
 ·have h1:fD (jC es) key=some e.s:=hA.ls
  have h2:fD (jF es) key=some e.v:=hA.lv
  have:=UE t tr mp root ch σ S w (jC es) tb key e.v e.b hT.tx hT.inv hT.tree hL.tree hl' hg (fun s hs=>by
   rw[h1] at hs;cases hs
   exact hL.val e (by rw[hA.eq];simp))
  rw[h1] at this
  rw[h2]
  exact this
theorem MC (t tr:Nat)(mp:VS)(root:Int)(ch:Bool)(σ:bZ)(S:Nat->Prop)(w:World)(es l o r:List mH)(tb:List Int)(key value:ByteArray)(hT:DW w S t tr mp σ root 0 ch 0)(hL:Live σ root es tb)(hA:AL es key l o r)(hl:es.length<=4090)(hg:1<=key.size/\key.size<=128)(hv:value.size<=49152)(hs:fD (jF es) key=some value):
  Calls Tryz.prog 23 #[.pointer (some ⟨t,0,none⟩),.string key,.string value] w fun e w'=>e= .returned (.int .i64 0)/\Below w.heap.size w w':=by
 have HU:=ah (pI t mp tr ch 0 key w hT.tx)
 have hu:jm 0 key=0:=by unfold jm;rw[if_neg (by simp),if_neg (by omega)]
 rw[hu] at HU
 have HG:=wF t tr mp root ch σ S w es l o r tb key hT hL hA hl hg
 rw[hs] at HG
 have HG:=ah HG
 have x1:¬(49152:Int)<(value.size:Int):=by omega
 clear hT hu
 go_enter Tryz.func23,SX
 go_wp2_with (first
  |(go_at_call 59;go_must (refine HU.out.mono ?_;rintro e w1 ⟨rfl,rfl⟩))
  |(go_at_call 36;go_must (refine HG.out.mono ?_;rintro e w1 ⟨rfl,hb1⟩)))
 go_ret
 exact⟨rfl,hb1⟩
theorem Ua (hd:Nat)(hb:hd<65536)(w:World):(convert 70 9 (.slice (some ⟨w.heap.size,0,none⟩) 3 3)).run Tryz.prog (w.alloc (.cells #[.int .u8 1,.int .u8 ((hd:Int)%256),.int .u8 ((hd:Int)/256)] 5))= .ok (.string (strOf [1,UInt8.ofNat hd,UInt8.ofNat (hd/256)])) (w.alloc (.cells #[.int .u8 1,.int .u8 ((hd:Int)%256),.int .u8 ((hd:Int)/256)] 5)):=by
 have he:[Value.int .u8 1,.int .u8 ((hd:Int)%256),.int .u8 ((hd:Int)/256)]=aI [1,UInt8.ofNat hd,UInt8.ofNat (hd/256)]:=by
  simp[aI,fe]
  omega
 have hr:Row (w.alloc (.cells #[.int .u8 1,.int .u8 ((hd:Int)%256),.int .u8 ((hd:Int)/256)] 5)) w.heap.size 5 (aI [1,UInt8.ofNat hd,UInt8.ofNat (hd/256)]):=by
  rw[<-he];exact Row.new w _ _
 have hs:aX (w.alloc (.cells #[.int .u8 1,.int .u8 ((hd:Int)%256),.int .u8 ((hd:Int)/256)] 5)) fZ 1 (.slice (some ⟨w.heap.size,0,none⟩) 3 3) [1,UInt8.ofNat hd,UInt8.ofNat (hd/256)].length (aI [1,UInt8.ofNat hd,UInt8.ofNat (hd/256)]):=by
  have:=hr.dm (S:=fZ) (k:=1) (off:=0) 3 3 (by simp[aI]) id (aC _) (by simp[maxLen])
  rw[dP,aJ (by simp[aI])] at this
  exact this
 exact hs.strOf
theorem JI (t tr:Nat)(mp:VS)(root:Int)(ch:Bool)(σ:bZ)(S:Nat->Prop)(w:World)(es l o r:List mH)(tb:List Int)(key value:ByteArray)(hT:DW w S t tr mp σ root 0 ch 0)(hL:Live σ root es tb)(hA:AL es key l o r)(hl:es.length<=4090)(hg:1<=key.size/\key.size<=128)(hv:value.size<=63)(there:Bool)(was:ByteArray)(hget:(fD (jF es) key).isSome=there/\(fD (jF es) key).getD ByteArray.empty=was)(hno:there=true->(was.toList==value.toList)=false):
  Calls Tryz.prog 23 #[.pointer (some ⟨t,0,none⟩),.string key,.string value] w fun e w'=>(e= .returned (.int .i64 0)/\F7 t tr mp S σ es l r tb key value w w')\/
   (e= .returned (.int .i64 12)/\σ.most+nh σ tb<σ.sz+2*(es.length+1)+gP value/\wW t tr mp S σ ch w w'):=by
 have hne:=Bz hT.tx hT.tree
 have HU:=ah (pI t mp tr ch 0 key w hT.tx)
 have hu:jm 0 key=0:=by unfold jm;rw[if_neg (by simp),if_neg (by omega)]
 rw[hu] at HU
 have HG:=wF t tr mp root ch σ S w es l o r tb key hT hL hA hl hg
 rw[hget.1,hget.2] at HG
 have HG:=ah HG
 have x1:¬(49152:Int)<(value.size:Int):=by omega
 have x2:¬(63:Int)<(value.size:Int):=by omega
 have hb:gP value=0:=if_pos hv
 have HBC:=ah hb
 have x0:=hv
 have HT:=ah hT
 have hl':(jC es).length<=4090:=by rw[fM];exact hl
 have hall:=hL.all
 have hnd:=hL.own.nd
 have hbo:∀x∈eX o,x∈eX es:=fun x hx=>by rw[hA.eq,kS,kS];simp[hx]
 have hcnt:=hL.tree.count
 rw[fM] at hcnt
 have hnh:=rM σ tb
 have hsum:(⟨#[0]⟩:ByteArray)++value=strOf (0::value.data.toList):=Ea value
 have hsz0:(strOf (0::value.data.toList)).size=value.size+1:=by show (0::value.data.toList).toArray.size=value.data.size+1;simp
 have hadd:∀W:World,(Op.stringOp .add (⟨#[0]⟩:ByteArray) value).run Tryz.prog W= .ok (.string (strOf (0::value.data.toList))) W:=fun W=>by rw[<-hsum];exact run_string_add W _ _ (by show ((1:Nat):Int)<=_;omega) (by omega)
 have HSZ:=ah hsz0;have HSUM:=ah hsum
 obtain⟨small,hsmall⟩:∃s,Hid (strOf (0::value.data.toList)=s):=⟨_,ah rfl⟩
 rw[hsmall.out] at hadd HSZ HSUM
 have HCNT:=ah (aF hcnt (aF hnh hb))
 clear hT hu hsum hsz0 hb hcnt hnh
 go_enter Tryz.func23,SX
 go_wp2_with (first
  |(go_at_call 59;go_must (refine HU.out.mono ?_;rintro e w1 ⟨rfl,rfl⟩))
  |(go_at_call 36;go_must (refine HG.out.mono ?_;rintro e w1 ⟨rfl,hb1⟩;refine Stop.of ?_)))
 refine Stop.on ?_
 have hT1:=HT.out.below hb1
 have hlt1:=(aj.1 hT1.tx).1
 have HD:=ah (Sw t tr mp root ch 0 σ S w1 es l o r tb key hT1.tx hT1.inv hT1.tree hL hA hl hg)
 have HT1:=ah (aF hT1 hb1)
 clear hT1 hb1
 cases there
 all_goals
  try have hno:=hno rfl
  go_wp2_with (first
   |(go_at_call 60;go_must (refine HD.out.mono ?_;rintro e w2 ⟨rfl,σ1,hI1,hs1,hc1,htk1⟩;refine Stop.of ?_)))
  refine Stop.on ?_
  have hT2:DW w2 S t tr mp σ1 root 0 ch 0:=⟨(hs1.1.block t hlt1 HT.out.nt).trans HT1.out.1.tx,(hs1.1.block tr (aj.1 HT1.out.1.tree).1 HT.out.ntr).trans HT1.out.1.tree,hI1,HT.out.nt,HT.out.ntr⟩
  have hTr1:zG σ1 root (jC es) tb:=hL.tree.keep hc1 (fun x hx=> .inl (fun e=>sI hnd x (hbo x e) hx))
  have hlt2:=(aj.1 hT2.tx).1
  have HS2:=ah ((jd.of (t:=t) (tr:=tr) (Step.of_below (S:=S) HT1.out.2)).trans (jd.of hs1))
  have HC1:=ah hc1
  have HTR1:=ah hTr1
  clear hI1 hs1 hc1 hTr1
  have hc2:nu σ1 σ1 [] []:=nu.refl (fun x hx=>by cases hx)
  have hv2:ValAt σ1 small value []:= .inl ⟨hsmall.out.symm,x0,rfl⟩
  have HV2:=ah (aF hc2 hv2)
  clear hc2 hv2
  have HPT:=ah (G5 tr mp root σ1 S (jC es) tb key small w2 hT2.inv hT2.tree HT.out.ntr HTR1.out (eD.1 hnd).1 hl' ⟨hg,by have:=HSZ.out;omega⟩)
  have c2:World.cell? w2 ⟨t,2,none⟩=some (.pointer (some ⟨tr,0,none⟩)):=by simp[World.cell?,hT2.tx,dH]
  have HT2:=ah hT2
  clear hT2
  go_wp2_with (first
   |(go_at_call 63;go_must (refine HPT.out.mono ?_;rintro e w5 (⟨rfl,σ3,S3,b3,hI3,ht3,hst3,hP3,hk3,hn3⟩|⟨rfl,hlost,σ3,S3,hI3,ht3,hst3,hH3,hm3,hk3,hn3⟩)<;>refine Stop.of ?_)))
  ·refine Stop.on ?_
   have htx3:=(hk3.block t hlt2 (fun e=>e.elim HT.out.nt hne)).trans HT2.out.tx
   have hns3:¬S3 t:=fun e=>(hn3 t e).elim HT.out.nt (fun x=>absurd hlt2 (bq.2 x))
   have d3:w5.cell? ⟨t,3,none⟩=some (.bool ch):=by simp[World.cell?,htx3,dH]
   have f3:w5.frozen? ⟨t,3,none⟩=false:=by simp[World.frozen?,htx3]
   have hlt3:=(aj.1 htx3).1
   have HX3:=ah (aF htx3 (aF hI3 (aF ht3 (aF hk3 hn3))))
   have HP3:=ah hP3
   clear htx3 hI3 ht3 hk3 hn3 hP3
   go_wp2_with fail
   go_ret
   have hk4:Keep (· =t) w5 (w5.setCell ⟨t,3,none⟩ (.bool true)):=(Keep.refl (· =t) _).setCell (p:=⟨t,3,none⟩) (.inr rfl) _
   obtain⟨tb',hL',hC'⟩:=H8 hL hA HC1.out HV2.out.1 HV2.out.2 HP3.out
   refine .inl ⟨rfl,σ3,S3,b3,tb',small,_,⟨?_,?_,HX3.out.2.1.mW hk4 (fun g hg e=>hns3 (e▸hg)),hns3,hst3⟩,hL',hC',?_,fun L r t0=> ?_,fun hc=> ?_⟩
   ·simp[World.setCell,bn,HX3.out.1]
    rfl
   ·exact(hk4.block tr (aj.1 HX3.out.2.2.1).1 (fun e=>hne e.symm)).trans HX3.out.2.2.1
   ·exact(HS2.out.trans (jd.tree HX3.out.2.2.2.1 HX3.out.2.2.2.2)).trans (jd.one hk4)
   ·obtain⟨_,_,_,hpk,_⟩:=HP3.out
    have hCC:=HC1.out.trans HV2.out.1
    have hsz:=hCC.size
    have hsz1:=HC1.out.size
    have hnl:=rM σ []
    have hcc:=HCNT.out
    have hz:nh σ []=0:=rfl
    have h0:nh σ []=0:=rfl
    rw[hcc.2.2] at r
    refine hpk L ?_ ?_
    ·unfold lD
     rw[yQ hCC.H,fM]
     omega
    ·rw[htk1];exact t0
   ·obtain⟨_,_,_,_,hft⟩:=HP3.out
    have h0:=Ji HC1.out htk1
    have h2:=hft (by rw[hA.is small value [],fM];exact hc)
    exact(h0.trans h2).more (by omega)
  ·refine Stop.on ?_
   have htx3:=(hk3.block t hlt2 (fun e=>e.elim HT.out.nt hne)).trans HT2.out.tx
   have hns3:¬S3 t:=fun e=>(hn3 t e).elim HT.out.nt (fun x=>absurd hlt2 (bq.2 x))
   have HSP:=ah (JG t mp (some tr) ch 0 12 w5 htx3)
   have HX3:=ah (aF htx3 (aF hI3 (aF ht3 (aF hk3 hn3))))
   have HLO:=ah (aF hlost (aF hH3 hm3))
   clear htx3 hI3 ht3 hk3 hn3 hlost hH3 hm3
   go_wp2_with (first
    |(go_at_call 61;go_must (refine HSP.out.mono ?_;rintro e w6 ⟨rfl,h6,hk6⟩)))
   go_ret
   have hCC:=HC1.out.trans HV2.out.1
   refine .inr ⟨rfl,?_,σ3,S3,root,12,⟨h6,(hk6.block tr (aj.1 HX3.out.2.2.1).1 (fun e=>hne e.symm)).trans HX3.out.2.2.1,HX3.out.2.1.mW hk6 (fun g hg e=>hns3 (e▸hg)),hns3,hst3⟩,HLO.out.2.1.trans hCC.H,HLO.out.2.2.trans hCC.most,(HS2.out.trans (jd.tree HX3.out.2.2.2.1 HX3.out.2.2.2.2)).trans (jd.one hk6)⟩
   have hno3:=HLO.out.1
   have hsz:=hCC.size
   have hnl:=rM σ []
   unfold Room at hno3
   rw[yQ hCC.H,hCC.most,fM] at hno3
   have hcc:=HCNT.out
   have h0:nh σ []=0:=rfl
   rw[hcc.2.2]
   omega
theorem ME (t tr:Nat)(mp:VS)(root:Int)(ch:Bool)(σ:bZ)(S:Nat->Prop)(w:World)(es l o r:List mH)(tb:List Int)(key value:ByteArray)(hT:DW w S t tr mp σ root 0 ch 0)(hL:Live σ root es tb)(hA:AL es key l o r)(hl:es.length<=4090)(hg:1<=key.size/\key.size<=128)(hv:63<value.size/\value.size<=49152)(there:Bool)(was:ByteArray)(hget:(fD (jF es) key).isSome=there/\(fD (jF es) key).getD ByteArray.empty=was)(hno:there=true->(was.toList==value.toList)=false):
  Calls Tryz.prog 23 #[.pointer (some ⟨t,0,none⟩),.string key,.string value] w fun e w'=>(e= .returned (.int .i64 0)/\F7 t tr mp S σ es l r tb key value w w')\/
   (e= .returned (.int .i64 12)/\σ.most+nh σ tb<σ.sz+2*(es.length+1)+gP value/\wW t tr mp S σ ch w w'):=by
 have hne:=Bz hT.tx hT.tree
 have HU:=ah (pI t mp tr ch 0 key w hT.tx)
 have hu:jm 0 key=0:=by unfold jm;rw[if_neg (by simp),if_neg (by omega)]
 rw[hu] at HU
 have HG:=wF t tr mp root ch σ S w es l o r tb key hT hL hA hl hg
 rw[hget.1,hget.2] at HG
 have HG:=ah HG
 have x1:¬(49152:Int)<(value.size:Int):=by omega
 have x2:(63:Int)<(value.size:Int):=by omega
 have hb:gP value=1+sJ value.size:=if_neg (by omega)
 have HBC:=ah hb
 have HT:=ah hT
 have hl':(jC es).length<=4090:=by rw[fM];exact hl
 have hall:=hL.all
 have hnd:=hL.own.nd
 have hbo:∀x∈eX o,x∈eX es:=fun x hx=>by rw[hA.eq,kS,kS];simp[hx]
 have hcnt:=hL.tree.count
 rw[fM] at hcnt
 have hnh:=rM σ tb
 have hsum:(⟨#[0]⟩:ByteArray)++value=strOf (0::value.data.toList):=Ea value
 have hsz0:(strOf (0::value.data.toList)).size=value.size+1:=by show (0::value.data.toList).toArray.size=value.data.size+1;simp
 have hadd:∀W:World,(Op.stringOp .add (⟨#[0]⟩:ByteArray) value).run Tryz.prog W= .ok (.string (strOf (0::value.data.toList))) W:=fun W=>by rw[<-hsum];exact run_string_add W _ _ (by show ((1:Nat):Int)<=_;omega) (by omega)
 have HSZ:=ah hsz0;have HSUM:=ah hsum
 obtain⟨small,hsmall⟩:∃s,Hid (strOf (0::value.data.toList)=s):=⟨_,ah rfl⟩
 rw[hsmall.out] at hadd HSZ HSUM
 have HCNT:=ah (aF hcnt (aF hnh hb))
 clear hT hu hsum hsz0 hb hcnt hnh
 go_enter Tryz.func23,SX
 go_wp2_with (first
  |(go_at_call 59;go_must (refine HU.out.mono ?_;rintro e w1 ⟨rfl,rfl⟩))
  |(go_at_call 36;go_must (refine HG.out.mono ?_;rintro e w1 ⟨rfl,hb1⟩;refine Stop.of ?_)))
 refine Stop.on ?_
 have hT1:=HT.out.below hb1
 have hlt1:=(aj.1 hT1.tx).1
 have HD:=ah (Sw t tr mp root ch 0 σ S w1 es l o r tb key hT1.tx hT1.inv hT1.tree hL hA hl hg)
 have HT1:=ah (aF hT1 hb1)
 clear hT1 hb1
 cases there
 all_goals
  try have hno:=hno rfl
  go_wp2_with (first
   |(go_at_call 60;go_must (refine HD.out.mono ?_;rintro e w2 ⟨rfl,σ1,hI1,hs1,hc1,htk1⟩;refine Stop.of ?_)))
  refine Stop.on ?_
  have hT2:DW w2 S t tr mp σ1 root 0 ch 0:=⟨(hs1.1.block t hlt1 HT.out.nt).trans HT1.out.1.tx,(hs1.1.block tr (aj.1 HT1.out.1.tree).1 HT.out.ntr).trans HT1.out.1.tree,hI1,HT.out.nt,HT.out.ntr⟩
  have hTr1:zG σ1 root (jC es) tb:=hL.tree.keep hc1 (fun x hx=> .inl (fun e=>sI hnd x (hbo x e) hx))
  have hlt2:=(aj.1 hT2.tx).1
  have HS2:=ah ((jd.of (t:=t) (tr:=tr) (Step.of_below (S:=S) HT1.out.2)).trans (jd.of hs1))
  have HC1:=ah hc1
  have HTR1:=ah hTr1
  clear hI1 hs1 hc1 hTr1
  have c0:w2.cell? ⟨t,0,none⟩=some (.pointer (some ⟨mp.tx,0,none⟩)):=by simp[World.cell?,hT2.tx,dH]
  have c1:w2.cell? ⟨t,1,none⟩=some (.pointer (some ⟨mp.mp,0,none⟩)):=by simp[World.cell?,hT2.tx,dH]
  have HW:=ah (Uc mp σ1 S w2 value hT2.inv (by omega) (by omega))
  have HT2':=ah hT2
  clear hT2
  go_wp2_with (first
   |(go_at_call 62;go_must (refine HW.out.mono ?_;rintro e w3 (⟨hd,rs,σ2,rfl,hB2,hC2,htk2,hI2,hs2⟩|⟨rfl,hlow,σ2,hI2,hs2,hH2,hm2⟩)<;>refine Stop.of ?_)))
  ·refine Stop.on ?_
   have hT3:DW w3 S t tr mp σ2 root 0 ch 0:=⟨(hs2.1.block t hlt2 HT.out.nt).trans HT2'.out.tx,(hs2.1.block tr (aj.1 HT2'.out.tree).1 HT.out.ntr).trans HT2'.out.tree,hI2,HT.out.nt,HT.out.ntr⟩
   have hlt3:=(aj.1 hT3.tx).1
   have hdm:hd<65536:=by
    obtain⟨n,q1,q2,_⟩:=bZ.kJ hB2.hd.has
    have:=hI2.cap
    omega
   have hlen:(jZ hd rs).length=1+sJ value.size:=by
    have e1:=hB2.hd.len
    have e2:value.data.toList.length=value.size:=by show value.data.toList.length=value.data.size;simp
    rw[e2] at e1
    simp[jZ,e1];omega
   have HLEN:=ah hlen
   have HV2:=ah (aF hC2 (show ValAt σ2 (strOf [1,UInt8.ofNat hd,UInt8.ofNat (hd/256)]) value (jZ hd rs) from .inr ⟨hd,rs,rfl,⟨hdm,hv.1⟩,hB2,rfl⟩))
   have HTR2:=ah (HTR1.out.keep hC2 (fun x _=> .inl (by simp)))
   have HS3:=ah (HS2.out.trans (jd.of hs2))
   clear hsmall HSZ HSUM hadd
   have HCV:=ah (Ua hd hdm w3)
   have q1:IntKind.i64.wrap ((hd:Int)/256)=(hd:Int)/256:=aG _ (by omega)
   have HTK2:=ah htk2
   clear hlen hC2 hB2 hI2 hs2 htk2
   go_upto_region 17 with (fail)
   have hcv:=HCV.out
   go_upto_region 18 with (fail)
   obtain⟨small,hsmall⟩:∃s,Hid (strOf [1,UInt8.ofNat hd,UInt8.ofNat (hd/256)]=s):=⟨_,ah rfl⟩
   rw[hsmall.out] at HV2 ⊢
   have HSZ:=ah (show small.size=3 by rw[<-hsmall.out];rfl)
   clear hcv HCV
   obtain⟨w4,hw4,hb4⟩:∃w4,w4=w3.alloc (.cells #[.int .u8 1,.int .u8 ((hd:Int)%256),.int .u8 ((hd:Int)/256)] 5)/\Below w3.heap.size w3 w4:=⟨_,rfl,aO _ _⟩
   rw[<-hw4]
   have hT4:=hT3.below hb4
   have HS4:=ah (HS3.out.trans (jd.of (Step.of_below (S:=S) hb4)))
   have hlt4:=(aj.1 hT4.tx).1
   clear hT3 hw4 hb4
   have HPT:=ah (G5 tr mp root σ2 S (jC es) tb key small w4 hT4.inv hT4.tree HT.out.ntr HTR2.out (eD.1 hnd).1 hl' ⟨hg,by have:=HSZ.out;omega⟩)
   have c2:World.cell? w4 ⟨t,2,none⟩=some (.pointer (some ⟨tr,0,none⟩)):=by simp[World.cell?,hT4.tx,dH]
   have HT2:=ah hT4
   clear hT4
   go_wp2_with (first
    |(go_at_call 63;go_must (refine HPT.out.mono ?_;rintro e w5 (⟨rfl,σ3,S3,b3,hI3,ht3,hst3,hP3,hk3,hn3⟩|⟨rfl,hlost,σ3,S3,hI3,ht3,hst3,hH3,hm3,hk3,hn3⟩)<;>refine Stop.of ?_)))
   ·refine Stop.on ?_
    have htx3:=(hk3.block t hlt4 (fun e=>e.elim HT.out.nt hne)).trans HT2.out.tx
    have hns3:¬S3 t:=fun e=>(hn3 t e).elim HT.out.nt (fun x=>absurd hlt4 (bq.2 x))
    have d3:w5.cell? ⟨t,3,none⟩=some (.bool ch):=by simp[World.cell?,htx3,dH]
    have f3:w5.frozen? ⟨t,3,none⟩=false:=by simp[World.frozen?,htx3]
    have hlt3:=(aj.1 htx3).1
    have HX3:=ah (aF htx3 (aF hI3 (aF ht3 (aF hk3 hn3))))
    have HP3:=ah hP3
    clear htx3 hI3 ht3 hk3 hn3 hP3
    go_wp2_with fail
    go_ret
    have hk4:Keep (· =t) w5 (w5.setCell ⟨t,3,none⟩ (.bool true)):=(Keep.refl (· =t) _).setCell (p:=⟨t,3,none⟩) (.inr rfl) _
    obtain⟨tb',hL',hC'⟩:=H8 hL hA HC1.out HV2.out.1 HV2.out.2 HP3.out
    refine .inl ⟨rfl,σ3,S3,b3,tb',small,_,⟨?_,?_,HX3.out.2.1.mW hk4 (fun g hg e=>hns3 (e▸hg)),hns3,hst3⟩,hL',hC',?_,fun L r t0=> ?_,fun hc=> ?_⟩
    ·simp[World.setCell,bn,HX3.out.1]
     rfl
    ·exact(hk4.block tr (aj.1 HX3.out.2.2.1).1 (fun e=>hne e.symm)).trans HX3.out.2.2.1
    ·exact(HS4.out.trans (jd.tree HX3.out.2.2.2.1 HX3.out.2.2.2.2)).trans (jd.one hk4)
    ·obtain⟨_,_,_,hpk,_⟩:=HP3.out
     have hCC:=HC1.out.trans HV2.out.1
     have hsz:=hCC.size
     have hsz1:=HC1.out.size
     have hnl:=rM σ (jZ hd rs)
     have hcc:=HCNT.out
     have hz:nh σ []=0:=rfl
     have hle:=HLEN.out
     rw[hcc.2.2] at r
     refine hpk L ?_ ?_
     ·unfold lD
      rw[yQ hCC.H,fM]
      omega
     ·have e1:=HTK2.out;have e2:value.data.toList.length=value.size:=(by show value.data.toList.length=value.data.size;simp);rw[e2,htk1] at e1;omega
    ·obtain⟨_,_,_,_,hft⟩:=HP3.out
     have h0:=Ji HC1.out htk1
     have h2:=hft (by rw[hA.is small value (jZ hd rs),fM];exact hc)
     have e2:value.data.toList.length=value.size:=by show value.data.toList.length=value.data.size;simp
     have e1:=HTK2.out
     rw[e2] at e1
     have hcc:=HCNT.out
     have hs2:=HV2.out.1.size
     have hn1:=rM σ1 (jZ hd rs)
     have hz:nh σ1 []=0:=rfl
     have hle:=HLEN.out
     have h1:A7 σ1 σ2 (gP value):=⟨by omega,fun L r t=>by omega⟩
     exact((h0.trans h1).trans h2).more (by omega)
   ·refine Stop.on ?_
    have htx3:=(hk3.block t hlt4 (fun e=>e.elim HT.out.nt hne)).trans HT2.out.tx
    have hns3:¬S3 t:=fun e=>(hn3 t e).elim HT.out.nt (fun x=>absurd hlt4 (bq.2 x))
    have HSP:=ah (JG t mp (some tr) ch 0 12 w5 htx3)
    have HX3:=ah (aF htx3 (aF hI3 (aF ht3 (aF hk3 hn3))))
    have HLO:=ah (aF hlost (aF hH3 hm3))
    clear htx3 hI3 ht3 hk3 hn3 hlost hH3 hm3
    go_wp2_with (first
     |(go_at_call 61;go_must (refine HSP.out.mono ?_;rintro e w6 ⟨rfl,h6,hk6⟩)))
    go_ret
    have hCC:=HC1.out.trans HV2.out.1
    refine .inr ⟨rfl,?_,σ3,S3,root,12,⟨h6,(hk6.block tr (aj.1 HX3.out.2.2.1).1 (fun e=>hne e.symm)).trans HX3.out.2.2.1,HX3.out.2.1.mW hk6 (fun g hg e=>hns3 (e▸hg)),hns3,hst3⟩,HLO.out.2.1.trans hCC.H,HLO.out.2.2.trans hCC.most,(HS4.out.trans (jd.tree HX3.out.2.2.2.1 HX3.out.2.2.2.2)).trans (jd.one hk6)⟩
    have hno3:=HLO.out.1
    have hsz:=hCC.size
    have hnl:=rM σ (jZ hd rs)
    unfold Room at hno3
    rw[yQ hCC.H,hCC.most,fM] at hno3
    have hcc:=HCNT.out
    have hle:=HLEN.out
    rw[hcc.2.2]
    omega
  ·refine Stop.on ?_
   have htx3:=(hs2.1.block t hlt2 HT.out.nt).trans HT2'.out.tx
   have HSP:=ah (JG t mp (some tr) ch 0 12 w3 htx3)
   have htr3:=(hs2.1.block tr (aj.1 HT2'.out.tree).1 HT.out.ntr).trans HT2'.out.tree
   have HX3:=ah (aF hI2 (aF hs2 (aF htr3 (aF hlow (aF hH2 hm2)))))
   clear htx3 hI2 hs2 hlow hH2 hm2 htr3
   go_wp2_with (first
    |(go_at_call 61;go_must (refine HSP.out.mono ?_;rintro e w6 ⟨rfl,h6,hk6⟩)))
   go_ret
   refine .inr ⟨rfl,?_,σ2,S,root,0,⟨h6,(hk6.block tr (aj.1 HX3.out.2.2.1).1 (fun e=>hne e.symm)).trans HX3.out.2.2.1,HX3.out.1.mW hk6 (fun g hg e=>HT.out.nt (e▸hg)),HT.out.nt,HT.out.ntr⟩,HX3.out.2.2.2.2.1.trans HC1.out.H,HX3.out.2.2.2.2.2.trans HC1.out.most,(HS2.out.trans (jd.of HX3.out.2.1)).trans (jd.one hk6)⟩
   have hlo:=HX3.out.2.2.2.1
   have hsz:=HC1.out.size
   have hmo:=HC1.out.most
   have hcc:=HCNT.out
   have e2:value.data.toList.length=value.size:=by show value.data.toList.length=value.data.size;simp
   rw[e2] at hlo
   rw[hcc.2.2]
   have:nh σ []=0:=rfl
   omega
def xg (kv:List Pr)(key:ByteArray)(most:Int):List Pr:=(kv.drop (cO kv key)).take most.toNat
theorem aQ.set2 {w:World}{S:Nat->Prop}{B g n c:Nat}{ps:List Pr}(h:aQ w S B 103 2 (.slice (some ⟨g,0,none⟩) n c) n (dO ps))(i:Nat)(hi:i<n)(hn:ps.length=n)(u:ByteArray):
  aQ (w.setCell ⟨g,i*2+1,none⟩ (.string u)) S B 103 2 (.slice (some ⟨g,0,none⟩) n c) n (dO (ps.set i (ps[i].1,u)))/\Keep (· =g) w (w.setCell ⟨g,i*2+1,none⟩ (.string u))/\w.frozen? ⟨g,i*2+1,none⟩=false/\g<w.heap.size/\B<=g:=by
 obtain⟨cur,hr,hl,hx,hBg,hSg,hc,hc2⟩:=h.row
 have hk5:Keep (· =g) w (w.setCell ⟨g,i*2+1,none⟩ (.string u)):=Keep.setCell (M:=(· =g)) (p:=⟨g,i*2+1,none⟩) (Keep.refl _ _) (.inr rfl) _
 have hr':Row (w.setCell ⟨g,i*2+1,none⟩ (.string u)) g 103 (cur.set (i*2+1) (.string u)):=by
  unfold Row at hr ⊢
  simp[World.setCell,bn,hr]
 refine⟨?_,hk5,hr.frozen _,hr.lt,hBg⟩
 have:=hr'.own (S:=S) (B:=B) (k:=2) (cap:=c) n (by simpa using hl) hBg hSg hc hc2
 rw[show (cur.set (i*2+1) (.string u)).take (n*2)=dO (ps.set i (ps[i].1,u)) from by rw[<-Aq _ _ i (by omega),<-hx,<-List.take_set]] at this
 exact this
def wZ (es:List mH)(k:Nat):List Pr:=jF (es.take k)++jC (es.drop k)
theorem pW (es:List mH)(k:Nat):(wZ es k).length=es.length:=by
 unfold wZ
 rw[ay,jR,fM,aH,aN];omega
theorem LM (es:List mH)(k:Nat)(h:k<es.length):(wZ es k)[k]'(by rw[pW];exact h)=(es[k].k,es[k].s):=by
 unfold wZ
 have hl:(jF (es.take k)).length=k:=by rw[jR,aH];omega
 rw[Bo (by omega)]
 simp[jC,hl]
theorem PO (es:List mH)(k:Nat)(h:k<es.length):(wZ es k).set k (es[k].k,es[k].v)=wZ es (k+1):=by
 unfold wZ
 have hl:(jF (es.take k)).length=k:=by rw[jR,aH];omega
 have e:jC (es.drop k)=(es[k].k,es[k].s)::jC (es.drop (k+1)):=by rw[dA h];rfl
 rw[iY _ _ (by omega),hl,uD,e,ax,aM h,mV]
 simp[jF]
theorem PS (es:List mH):wZ es es.length=jF es:=by unfold wZ;simp[jC]
theorem Ni (es:List mH):wZ es 0=jC es:=by unfold wZ;simp[jF]
theorem MS (es:List mH)(key:ByteArray)(most:Int):∃xs:List mH,(∀e∈xs,e∈es)/\((jC es).drop (cO (jC es) key)).take most.toNat=jC xs/\xg (jF es) key most=jF xs:=by
 refine⟨(es.drop (uL es key)).take most.toNat,fun e he=>dh (eO he),?_,?_⟩
 ·show ((jC es).drop (cO (jC es) key)).take most.toNat=_
  unfold jC
  rw[Fv (fun e=>(e.k,e.s)) (fun _=>rfl),gB,fO]
 ·unfold xg jF
  rw[Fv (fun e=>(e.k,e.v)) (fun _=>rfl),gB,fO]
theorem UB (t tr:Nat)(mp:VS)(root:Int)(ch:Bool)(σ:bZ)(S:Nat->Prop)(w:World)(es:List mH)(tb:List Int)(key:ByteArray)(most:Int)(hT:DW w S t tr mp σ root 0 ch 0)(hL:Live σ root es tb)(hl:es.length<=4090):
  Calls Tryz.prog 29 #[.pointer (some ⟨t,0,none⟩),.string key,.int .i64 most] w fun e w'=>∃v,e= .returned (.tuple #[v,.int .i64 0])/\aQ w' S w.heap.size 103 2 v (xg (jF es) key most).length (dO (xg (jF es) key most))/\Below w.heap.size w w':=by
 have HU:=ah (pI t mp tr ch 0 ⟨#[107]⟩ w hT.tx)
 have hu:jm 0 (⟨#[107]⟩:ByteArray)=0:=by decide
 rw[hu] at HU
 obtain⟨xs,hx1,hx2,hx3⟩:=MS es key most
 have HS:=Eb tr mp root σ S (jC es) tb key most w hT.inv hT.tree hL.tree (by rw[fM];exact hl)
 have hx2:((jC es).drop (cO (jC es) key)).take most.toNat=jC xs:=hx2
 rw[hx2] at HS
 have HS:=ah HS
 have HXS:=ah (aF hx1 hx3)
 have c2:w.cell? ⟨t,2,none⟩=some (.pointer (some ⟨tr,0,none⟩)):=by simp[World.cell?,hT.tx,dH]
 have hlt:=(aj.1 hT.tx).1
 have HT:=ah hT
 rw[hx3,jR]
 obtain⟨n,hn⟩:∃n,n=xs.length:=⟨_,rfl⟩
 have HN:=ah hn
 rw[fM,<-hn] at HS
 rw[<-hn]
 clear hT hu hx1 hx2 hx3 hn
 go_enter Tryz.func29,Tryz.ntmps29
 go_wp2_with (first
  |(go_at_call 59;go_must (refine HU.out.mono ?_;rintro e w1 ⟨hw1,rfl⟩;subst w1))
  |(go_at_call 47;go_must (refine HS.out.mono ?_;rintro e w1 ⟨v,rfl,hown1,hb1⟩;refine Stop.of ?_)))
 refine Stop.on ?_
 obtain⟨ao,cp,rfl,_,_,_,_⟩:=aX.form hown1.dm
 rw[<-Ni] at hown1
 have HO1:=ah hown1;have HB1:=ah hb1
 clear hown1 hb1
 go_wp2_with fail
 go_loopw [10,11,12,35] (fun e _ _ i wr=>∃k:Nat,k<=n/\e= .int .i64 0/\i= .int .i64 k/\aQ wr S w.heap.size 103 2 (.slice ao n cp) n (dO (wZ xs k))/\Below w.heap.size w wr) (fun _ _ _ i _=>n - (intOf i).toNat)
 case atStart=>exact⟨0,aT _,rfl,rfl,HO1.out,HB1.out⟩
 case round=>
  obtain⟨k,hk,rfl,rfl,hok,hbk⟩:=hrel
  by_cases hkn:k<n
  ·have y1:(k:Int)<(n:Int):=by omega
   obtain⟨g,c,e,hc1,hc2,hg1,hg2⟩:=hok.Ay (by omega)
   cases e
   have hkx:k<xs.length:=by rw[<-HN.out];exact hkn
   have hP:jH wr S (.slice (some ⟨g,0,none⟩) n cp) (wZ xs k):=by
    have:=hok.dm
    unfold jH
    rw[pW,<-HN.out];exact this
   obtain⟨pb,po,e1,d0,d1⟩:=hP.at rfl k (by rw[pW];exact hkx)
   cases e1
   rw[LM xs k hkx] at d0 d1
   rw[dV] at d0 d1
   obtain⟨E,hE⟩:∃E,Hid (xs[k]=E):=⟨_,ah rfl⟩
   rw[hE.out] at d0 d1
   have hmem:E∈es:=HXS.out.1 E (by rw[<-hE.out];exact bE hkx)
   have HV:=ah (hL.val E hmem)
   have hTk:=HT.out.below hbk
   have HOK:=ah hok;have HBK:=ah hbk;have HTK:=ah hTk
   have htk:=(aj.1 hTk.tx).1
   clear hok hbk hTk hP
   go_wp2_with (first
    |(go_at_call 68;go_must (refine(OE t mp (some tr) ch 0 σ S _ E.s E.v E.b (((aO wr (.cells #[.string E.k,.string E.s] 103)).block t htk).trans HTK.out.tx) (HTK.out.inv.below (aO wr (.cells #[.string E.k,.string E.s] 103))) HV.out).mono ?_;rintro e w5 ⟨hb5,rfl⟩;refine Stop.of ?_)))
   refine Stop.on ?_
   have hbw5:Below wr.heap.size wr w5:=(aO wr (.cells #[.string E.k,.string E.s] 103)).trans (hb5.mono (by simp))
   have hO5:=HOK.out.below hbw5
   obtain⟨u1,u2,u3,u4,u5⟩:=hO5.set2 k hkn (by rw[pW,<-HN.out]) E.v
   have u0:w5.cell? ⟨g,k*2+1,none⟩=some (.string E.s):=(hbw5.cell (p:=⟨g,k*2+1,none⟩) hg2).trans d1
   have hms:(wZ xs k).set k (((wZ xs k)[k]'(by rw[pW];exact hkx)).1,E.v)=wZ xs (k+1):=by
    rw[LM xs k hkx,<-hE.out]
    exact PO xs k hkx
   rw[hms] at u1
   have hbs:Below w.heap.size w (w5.setCell ⟨g,k*2+1,none⟩ (.string E.v)):=(HBK.out.trans (hbw5.mono HBK.out.size)).setCell (by simpa using u5) _
   have HU1:=ah (aF u1 hbs)
   clear u1 u2 hO5 hbw5 hb5 hms hbs
   go_wp2_with fail
   go_roundw
   case rel=>exact⟨k+1,by omega,rfl,by go_num,HU1.out.1,HU1.out.2⟩
   case measure=>simp[intOf];omega
  ·obtain rfl:k=n:=by omega
   have y1:¬(k:Int)<(k:Int):=by omega
   rw[HN.out,PS] at hok
   go_wp2_with fail
   go_ret2
   exact⟨_,rfl,by rw[HN.out];exact hok,hbk⟩
theorem OL (t tr:Nat)(mp:VS)(ch:Bool)(er:Int)(σ:bZ)(S:Nat->Prop)(u:FrameMode)(w:World)(h:w.heap[t]? =some (.cells (dH mp (some tr) ch er) 100 (0,0)))(hI:Inv σ S mp w)(hns:¬S t):
  CallsD Tryz.prog 31 #[.pointer (some ⟨t,0,none⟩)] u w fun e u' w'=>u'=u/\e= .returned (.tuple #[])/\(∃Sp,jh w' Sp mp.pg mp.d σ.H.dk σ.H.lg σ.H.pg (.pointer none)/\∀g,Sp g->S g)/\w'.heap[t]? =some (.cells (dH mp none ch er) 100 (0,0))/\Keep (fun g=>S g\/g=t) w w':=by
 obtain⟨Sp,T,hI,hS⟩:=hI
 have c0:w.cell? ⟨t,0,none⟩=some (.pointer (some ⟨mp.tx,0,none⟩)):=by simp[World.cell?,h,dH]
 have c2:w.cell? ⟨t,2,none⟩=some (.pointer (some ⟨tr,0,none⟩)):=by simp[World.cell?,h,dH]
 have hlt:=(aj.1 h).1
 have HT:=ah (OW mp.tx mp.pg mp.d _ _ _ _ _ _ Sp T w hI.pg hI.tx hI.dis)
 have HH:=ah h
 have HS:=ah hS
 have hn1:¬Sp t:=fun x=>hns ((hS t).2 (.inl x))
 have hn2:¬T t:=fun x=>hns ((hS t).2 (.inr (.inl x)))
 clear h hI hS
 go_enter_d Tryz.func31,Tryz.ntmps31
 go_wp2_with (first
  |(go_at_call 56;go_must (refine HT.out.mono ?_;rintro e w2 ⟨rfl,hp2,_,hk2⟩;refine Stop.of ?_)))
 refine Stop.on ?_
 have h2:=(hk2.block t hlt (fun e=>e.elim hn1 hn2)).trans HH.out
 have hlt2:=(aj.1 h2).1
 have d2:w2.cell? ⟨t,2,none⟩=some (.pointer (some ⟨tr,0,none⟩)):=by simp[World.cell?,h2,dH]
 have f2:w2.frozen? ⟨t,2,none⟩=false:=by simp[World.frozen?,h2]
 have HH2:=ah h2
 clear h2
 go_wp2_with fail
 go_end0
 have hk3:Keep (· =t) w2 (w2.setCell ⟨t,2,none⟩ (.pointer none)):=(Keep.refl (· =t) _).setCell (p:=⟨t,2,none⟩) (.inr rfl) _
 refine⟨rfl,⟨Sp,hp2.keep hk3 (fun g hg e=>hn1 (e▸hg)),fun g hg=>(HS.out g).2 (.inl hg)⟩,?_,?_⟩
 ·simp[World.setCell,bn,HH2.out]
  rfl
 ·exact(hk2.mono (fun g _ e=> .inl ((HS.out g).2 (e.imp id .inl)))).trans (hk3.mono (fun g _ e=> .inr e)) (fun _ _ e=>e)
theorem qB (t tr:Nat)(mp:VS)(ch:Bool)(er:Int)(u:FrameMode)(w:World)(h:w.heap[t]? =some (.cells (dH mp (some tr) ch er) 100 (0,0)))(hE:Jm w mp.tx):
  CallsD Tryz.prog 31 #[.pointer (some ⟨t,0,none⟩)] u w fun e u' w'=>u'=u/\e= .returned (.tuple #[])/\w'.heap[t]? =some (.cells (dH mp none ch er) 100 (0,0))/\Keep (· =t) w w':=by
 have c0:w.cell? ⟨t,0,none⟩=some (.pointer (some ⟨mp.tx,0,none⟩)):=by simp[World.cell?,h,dH]
 have c2:w.cell? ⟨t,2,none⟩=some (.pointer (some ⟨tr,0,none⟩)):=by simp[World.cell?,h,dH]
 have f2:w.frozen? ⟨t,2,none⟩=false:=by simp[World.frozen?,h]
 have hlt:=(aj.1 h).1
 have HT:=ah (JR mp.tx w hE)
 have HH:=ah h
 clear h hE
 go_enter_d Tryz.func31,Tryz.ntmps31
 go_wp2_with (first
  |(go_at_call 56;go_must (refine HT.out.mono ?_;rintro e w2 ⟨rfl,hw2⟩;subst w2)))
 go_end0
 refine⟨rfl,?_,(Keep.refl (· =t) _).setCell (p:=⟨t,2,none⟩) (.inr rfl) _⟩
 simp[World.setCell,bn,HH.out]
 rfl
theorem vO (f:Nat->Bool):(bytesOf f).length=512:=by
 have:=gL f
 rwa [bL] at this
theorem TH (mp:VS)(σ:bZ)(S:Nat->Prop)(w:World)(h:Inv σ S mp w):
  Calls Tryz.prog 67 #[.pointer (some ⟨mp.mp,0,none⟩),.iface 89 (.pointer (some ⟨mp.tx,0,none⟩))] w fun e w'=>e= .returned (.int .i64 0)/\Inv (σ.wrote 0 (bytesOf σ.now)) S mp w'/\Step S S w w':=by
 obtain⟨Sp,T,h,hS⟩:=h
 have hm:=h.ok.most
 have h2:=h.ok.two
 have htx:=h.tx
 rw[hm] at htx
 refine(Rn mp.tx mp.pg mp.d mp.mp σ.most σ.now σ.H.old σ.H.dk σ.H.lg σ.H.pg _ σ.im Sp T w h.pg htx h.ok.live (by omega) h.map).mono ?_
 rintro e w' ⟨rfl,ht,hs⟩
 rw[<-hm] at ht
 exact⟨rfl,⟨Sp,T,⟨h.ok.wrote 0 (bytesOf σ.now) (vO _) (by omega) (.inl (by omega)),h.pg.keep hs.1 (fun g hg e=>h.dis g hg e),ht,h.map.keep (hs.1.block _ h.map.lt h.mpT),h.dis,h.mpS,h.mpT⟩,hS⟩,hs.1.mono (fun g _ e=>(hS g).2 (.inr (.inl e))),fun g hg=> .inl hg⟩
theorem LP (mp:VS)(σ:bZ)(S:Nat->Prop)(w:World)(h:Inv σ S mp w)(hld:σ.H.lg.dead=false)(hcap:σ.H.dk.waits.length<=90000)(hll:σ.H.lg.last<1000000000000):
  Calls Tryz.prog 43 #[.pointer (some ⟨mp.tx,0,none⟩)] w fun e w'=>e= .returned (.tuple #[.int .i64 (σ.H.pg.commit σ.H.dk σ.H.lg σ.im).2.2.2.1,.int .i64 (σ.H.pg.commit σ.H.dk σ.H.lg σ.im).2.2.2.2])/\
   ∃S',jh w' S' mp.pg mp.d (σ.H.pg.commit σ.H.dk σ.H.lg σ.im).1 (σ.H.pg.commit σ.H.dk σ.H.lg σ.im).2.1 (σ.H.pg.commit σ.H.dk σ.H.lg σ.im).2.2.1 (.pointer none)/\Jm w' mp.tx/\Step S S' w w':=by
 obtain⟨Sp,T,h,hS⟩:=h
 have hm:=h.ok.most
 have htx:=h.tx
 rw[hm] at htx
 refine(LD mp.tx mp.pg mp.d σ.H.dk σ.H.lg σ.H.pg _ σ.im Sp T w h.pg htx h.dis h.ok.live hld hcap hll).mono ?_
 rintro e w' ⟨rfl,S',hp,hE,hs⟩
 refine⟨rfl,S',hp,hE,hs.1.mono (fun g _ e=>(hS g).2 (e.imp id .inl)),fun g hg=> ?_⟩
 exact(hs.2 g (.inl hg)).imp (fun e=>(hS g).2 (e.imp id .inl)) id
def qY (t:Nat)(mp:VS)(S:Nat->Prop)(σ:bZ)(ch:Bool)(im:Im)(w:World)(e:Ending)(w':World):Prop:=
 e= .returned (.tuple (if (σ.H.pg.commit σ.H.dk σ.H.lg im).2.2.2.2=0 then #[.int .i64 (((σ.H.pg.commit σ.H.dk σ.H.lg im).2.2.2.1:Int) - 1),.int .i64 0] else #[.int .i64 0,.int .i64 (σ.H.pg.commit σ.H.dk σ.H.lg im).2.2.2.2]))/\
 ∃S',jh w' S' mp.pg mp.d (σ.H.pg.commit σ.H.dk σ.H.lg im).1 (σ.H.pg.commit σ.H.dk σ.H.lg im).2.1 (σ.H.pg.commit σ.H.dk σ.H.lg im).2.2.1 (.pointer none)/\w'.heap[t]? =some (.cells (dH mp none ch 0) 100 (0,0))/\¬S' t/\Keep (fun g=>S g\/g=t) w w'/\∀g,S' g->S g\/w.heap.size<=g
theorem EU (t tr:Nat)(mp:VS)(root:Int)(σ:bZ)(S:Nat->Prop)(w:World)(hT:DW w S t tr mp σ root 0 false 0)(hld:σ.H.lg.dead=false)(hcap:σ.H.dk.waits.length<=90000)(hll:σ.H.lg.last<1000000000000)(hk:(σ.H.pg.commit σ.H.dk σ.H.lg σ.im).2.2.2.1<=1000000000000):
  Calls Tryz.prog 25 #[.pointer (some ⟨t,0,none⟩)] w (qY t mp S σ false σ.im w):=by
 have HU:=ah (pI t mp tr false 0 ⟨#[107]⟩ w hT.tx)
 have hu:jm 0 (⟨#[107]⟩:ByteArray)=0:=by decide
 rw[hu] at HU
 have HC:=LP mp σ S w hT.inv hld hcap hll
 unfold qY
 generalize hcm:σ.H.pg.commit σ.H.dk σ.H.lg σ.im=R at HC hk ⊢
 obtain⟨σ',l',p',k,q⟩:=R
 dsimp only at HC hk ⊢
 have HC:=ah HC
 have c0:w.cell? ⟨t,0,none⟩=some (.pointer (some ⟨mp.tx,0,none⟩)):=by simp[World.cell?,hT.tx,dH]
 have c3:w.cell? ⟨t,3,none⟩=some (.bool false):=by simp[World.cell?,hT.tx,dH]
 have hlt:=(aj.1 hT.tx).1
 have q1:IntKind.i64.wrap ((k:Int) - 1)=(k:Int) - 1:=aG _ (by omega)
 have HT:=ah hT
 clear hT hu hcm
 by_cases hq:q=0
 ·subst hq
  go_enter_defers Tryz.func25,Tryz.ntmps25
  go_wp2_with (first
   |(go_at_call 59;go_must (refine HU.out.mono ?_;rintro e w1 ⟨hw1,rfl⟩;subst w1))
   |(go_at_call 43;go_must (refine HC.out.mono ?_;rintro e w1 ⟨rfl,S1,hp1,hE1,hs1⟩)))
  have htx1:=(hs1.1.block t hlt HT.out.nt).trans HT.out.tx
  have hn1:¬S1 t:=fun e=>(hs1.2 t e).elim HT.out.nt (fun x=>absurd hlt (bq.2 x))
  refine jA (f:=31) (args:=#[.pointer (some ⟨t,0,none⟩)]) (by simp) (by simp[go_sem]) ?_
  refine(qB t tr mp false 0 _ _ htx1 hE1).mono ?_
  rintro e u' w2 ⟨rfl,rfl,h2,hk2⟩
  exact⟨_,by simp[results,zH,go_sem],rfl,S1,hp1.keep hk2 (fun g hg e=>hn1 (e▸hg)),h2,hn1,(hs1.1.mono (fun g _ e=> .inl e)).trans (hk2.mono (fun g _ e=> .inr e)) (fun _ _ e=>e),hs1.2⟩
 ·have hq':(q !=0)=true:=by simpa using hq
  go_enter_defers Tryz.func25,Tryz.ntmps25
  go_wp2_with (first
   |(go_at_call 59;go_must (refine HU.out.mono ?_;rintro e w1 ⟨hw1,rfl⟩;subst w1))
   |(go_at_call 43;go_must (refine HC.out.mono ?_;rintro e w1 ⟨rfl,S1,hp1,hE1,hs1⟩)))
  have htx1:=(hs1.1.block t hlt HT.out.nt).trans HT.out.tx
  have hn1:¬S1 t:=fun e=>(hs1.2 t e).elim HT.out.nt (fun x=>absurd hlt (bq.2 x))
  refine jA (f:=31) (args:=#[.pointer (some ⟨t,0,none⟩)]) (by simp) (by simp[go_sem]) ?_
  refine(qB t tr mp false 0 _ _ htx1 hE1).mono ?_
  rintro e u' w2 ⟨rfl,rfl,h2,hk2⟩
  exact⟨.tuple #[.int .i64 0,.int .i64 q],by simp[results,zH,go_sem],rfl,S1,hp1.keep hk2 (fun g hg e=>hn1 (e▸hg)),h2,hn1,(hs1.1.mono (fun g _ e=> .inl e)).trans (hk2.mono (fun g _ e=> .inr e)) (fun _ _ e=>e),hs1.2⟩
theorem Aj {R:Ending->World->Prop}{d:Nat}(h2:d≠2)(h3:d≠3){c:List PanicEntry}{a:Act}{v:Value}{w:World}(h:bodyPostD Tryz.prog Tryz.f25 R (.panic c) (a.put (some d) v) w):bodyPostD Tryz.prog Tryz.f25 R (.panic c) a w:=by
 refine rP ?_ _ _ _ (show Leaves Tryz.prog Tryz.f25 (a.tmps.setIfInBounds d v) R a.defers (.panicking c) w from h)
 unfold results
 rw[zH]
 simp[Array.getD_eq_getD_getElem?,Vg,h2,h3]
def oI (root:Nat):List UInt8:=[UInt8.ofNat root,UInt8.ofNat (root/256)]
theorem J8 (root:Nat)(hb:root<65536)(w:World):gy (w.alloc (.cells #[.int .u8 ((root:Int)%256),.int .u8 ((root:Int)/256)] 5)) fZ (.slice (some ⟨w.heap.size,0,none⟩) 2 2) (oI root):=by
 have he:[Value.int .u8 ((root:Int)%256),.int .u8 ((root:Int)/256)]=aI (oI root):=by
  simp[oI,aI,fe]
  omega
 have hr:Row (w.alloc (.cells #[.int .u8 ((root:Int)%256),.int .u8 ((root:Int)/256)] 5)) w.heap.size 5 (aI (oI root)):=by
  rw[<-he];exact Row.new w _ _
 have:=hr.dm (S:=fZ) (k:=1) (off:=0) 2 2 (by simp[aI,oI]) id (aC _) (by simp[maxLen])
 rw[dP,aJ (by simp[aI,oI])] at this
 exact this
def bZ.sealed (σ:bZ)(root:Nat):bZ:=(σ.wrote 1 (pad (oI root))).wrote 0 (bytesOf σ.now)
theorem ET (t tr:Nat)(mp:VS)(root:Nat)(σ:bZ)(S:Nat->Prop)(w:World)(hT:DW w S t tr mp σ root 0 true 0)(hr:root<=4096)(hld:σ.H.lg.dead=false)(hcap:σ.H.dk.waits.length<=90000)(hll:σ.H.lg.last<1000000000000)(hk:(σ.H.pg.commit σ.H.dk σ.H.lg (σ.sealed root).im).2.2.2.1<=1000000000000):
  Calls Tryz.prog 25 #[.pointer (some ⟨t,0,none⟩)] w (qY t mp S σ true (σ.sealed root).im w):=by
 have HU:=ah (pI t mp tr true 0 ⟨#[107]⟩ w hT.tx)
 have hu:jm 0 (⟨#[107]⟩:ByteArray)=0:=by decide
 rw[hu] at HU
 have HR:=ah (R5 tr mp root 0 w hT.tree)
 have hb1:=aO w (.cells #[.int .u8 ((root:Int)%256),.int .u8 ((root:Int)/256)] 5)
 have h2:=hT.inv.ok.two
 have HW:=ah (wC mp σ S _ 1 _ (oI root) (hT.inv.below hb1) (by omega) (J8 root (by omega) w) (by simp[oI]) (.inl (by omega)))
 have HB1:=ah hb1
 have q0:IntKind.i64.wrap ((root:Int)/256)=(root:Int)/256:=aG _ (by omega)
 have c0:w.cell? ⟨t,0,none⟩=some (.pointer (some ⟨mp.tx,0,none⟩)):=by simp[World.cell?,hT.tx,dH]
 have c2:w.cell? ⟨t,2,none⟩=some (.pointer (some ⟨tr,0,none⟩)):=by simp[World.cell?,hT.tx,dH]
 have c3:w.cell? ⟨t,3,none⟩=some (.bool true):=by simp[World.cell?,hT.tx,dH]
 have hlt:=(aj.1 hT.tx).1
 have HT:=ah hT
 clear hT hu hb1
 go_enter_defers Tryz.func25,Tryz.ntmps25
 go_wp2_with (first
  |(go_at_call 59;go_must (refine HU.out.mono ?_;rintro e w1 ⟨hw1,rfl⟩;subst w1))
  |(go_at_call 65;go_must (refine HR.out.mono ?_;rintro e w1 ⟨rfl,hw1⟩;subst w1))
  |(go_at_call 66;go_must (refine HW.out.mono ?_;rintro e w1 ⟨rfl,hI1,hs1⟩;refine Stop.of ?_)))
 refine Stop.on ?_
 have hbs:Step S S w w1:=(Step.of_below HB1.out).trans hs1
 have htx1:=(hbs.1.block t hlt HT.out.nt).trans HT.out.tx
 have hlt1:=(aj.1 htx1).1
 have d0:w1.cell? ⟨t,0,none⟩=some (.pointer (some ⟨mp.tx,0,none⟩)):=by simp[World.cell?,htx1,dH]
 have d1:w1.cell? ⟨t,1,none⟩=some (.pointer (some ⟨mp.mp,0,none⟩)):=by simp[World.cell?,htx1,dH]
 have HST:=TH mp (σ.wrote 1 (pad (oI root))) S w1.drew (hI1.below ((aR _ w1).drew))
 have hse:(σ.wrote 1 (pad (oI root))).wrote 0 (bytesOf (σ.wrote 1 (pad (oI root))).now)=σ.sealed root:=rfl
 rw[hse] at HST
 have HST:=ah HST
 have HX1:=ah (aF htx1 hbs)
 clear htx1 hbs hse hI1 hs1
 go_upto_region 11 with (fail)
 refine aP (fun W=>W.cell? ⟨t,0,none⟩=some (.pointer (some ⟨mp.tx,0,none⟩))/\W.cell? ⟨t,1,none⟩=some (.pointer (some ⟨mp.mp,0,none⟩))/\t<W.heap.size) (fun i=> !([11].contains i)) [0,1,2,3,4,5,6,7,8,9,10,11,12] rfl (by kernel_rfl) ⟨d0,d1,hlt1⟩ ?_
 repeat ((refine bP (v:= ?_) rfl rfl ?_ rfl (fun W hW=> ?_) ?_);rotate_left;(focus (exact fun c a w h=>Aj (by decide) (by decide) h));(focus ((try dsimp only at hW);obtain⟨a0,a1,a2⟩:=hW;(go_simp;first|done|with_reducible rfl)));(try simp only[Act.put,ai,ax,au]))
 refine dK rfl rfl rfl ?_;intro K hK;go_simp
 refine HST.out.mono ?_;rintro e w2 ⟨rfl,hI2,hs2⟩
 have htx2:=(hs2.1.block t hlt1 HT.out.nt).trans HX1.out.1
 have hlt2:=(aj.1 htx2).1
 have g0:w2.cell? ⟨t,0,none⟩=some (.pointer (some ⟨mp.tx,0,none⟩)):=by simp[World.cell?,htx2,dH]
 have g1:w2.cell? ⟨t,1,none⟩=some (.pointer (some ⟨mp.mp,0,none⟩)):=by simp[World.cell?,htx2,dH]
 refine hK.out _ _ ⟨g0,g1,hlt2⟩ ?_
 (try simp only[Act.put,ai,ax,au])
 repeat ((refine bP (v:= ?_) rfl rfl ?_ rfl (fun W hW=> ?_) ?_);rotate_left;(focus (exact fun c a w h=>Aj (by decide) (by decide) h));(focus ((try dsimp only at hW);obtain⟨a0,a1,a2⟩:=hW;(go_simp;first|done|with_reducible rfl)));(try simp only[Act.put,ai,ax,au]))
 refine bS ?_
 have HC:=LP mp (σ.sealed root) S w2 hI2 hld hcap hll
 have hH:(σ.sealed root).H=σ.H:=rfl
 rw[hH] at HC
 obtain⟨R,hcm⟩:∃R,σ.H.pg.commit σ.H.dk σ.H.lg (σ.sealed root).im=R:=⟨_,rfl⟩
 obtain⟨σ',l',p',k,q⟩:=R
 rw[hcm] at HC hk
 have HCM:=ah hcm
 dsimp only at HC hk
 have HC:=ah HC
 have q1:IntKind.i64.wrap ((k:Int) - 1)=(k:Int) - 1:=aG _ (by omega)
 have HX2:=ah (aF htx2 (HX1.out.2.trans (((Step.of_below ((aR _ w1).drew)):Step S S w1 w1.drew).trans hs2)))
 clear hcm hH hI2 hs2 htx2
 by_cases hq:q=0
 ·subst hq
  go_wp2_with (first
   |(go_at_call 43;go_must (refine HC.out.mono ?_;rintro e w3 ⟨rfl,S1,hp1,hE1,hs3⟩)))
  have htx3:=(hs3.1.block t hlt2 HT.out.nt).trans HX2.out.1
  have hn1:¬S1 t:=fun e=>(hs3.2 t e).elim HT.out.nt (fun x=>absurd hlt2 (bq.2 x))
  refine jA (f:=31) (args:=#[.pointer (some ⟨t,0,none⟩)]) (by simp) (by simp[go_sem]) ?_
  refine(qB t tr mp true 0 _ _ htx3 hE1).mono ?_
  rintro e u' w4 ⟨rfl,rfl,h4,hk4⟩
  have hst:=HX2.out.2.trans hs3
  refine⟨.tuple #[.int .i64 ((k:Int) - 1),.int .i64 0],by simp[results,zH,go_sem],?_⟩
  unfold qY
  rw[HCM.out]
  exact⟨rfl,S1,hp1.keep hk4 (fun g hg e=>hn1 (e▸hg)),h4,hn1,(hst.1.mono (fun g _ e=> .inl e)).trans (hk4.mono (fun g _ e=> .inr e)) (fun _ _ e=>e),hst.2⟩
 ·have hq':(q !=0)=true:=by simpa using hq
  go_wp2_with (first
   |(go_at_call 43;go_must (refine HC.out.mono ?_;rintro e w3 ⟨rfl,S1,hp1,hE1,hs3⟩)))
  have htx3:=(hs3.1.block t hlt2 HT.out.nt).trans HX2.out.1
  have hn1:¬S1 t:=fun e=>(hs3.2 t e).elim HT.out.nt (fun x=>absurd hlt2 (bq.2 x))
  refine jA (f:=31) (args:=#[.pointer (some ⟨t,0,none⟩)]) (by simp) (by simp[go_sem]) ?_
  refine(qB t tr mp true 0 _ _ htx3 hE1).mono ?_
  rintro e u' w4 ⟨rfl,rfl,h4,hk4⟩
  have hst:=HX2.out.2.trans hs3
  refine⟨.tuple #[.int .i64 0,.int .i64 q],by simp[results,zH,go_sem],?_⟩
  unfold qY
  rw[HCM.out]
  exact⟨by dsimp only;rw[if_neg hq],S1,hp1.keep hk4 (fun g hg e=>hn1 (e▸hg)),h4,hn1,(hst.1.mono (fun g _ e=> .inl e)).trans (hk4.mono (fun g _ e=> .inr e)) (fun _ _ e=>e),hst.2⟩
end Go.Proofs.YtogbkgmlhhahdaaGreat
