/- parts -/
import Derived.Test.YtogbkgmlhhahdaaGreatP24
set_option maxRecDepth 100000
set_option maxHeartbeats 8000000
set_option linter.all false
namespace Go.Proofs.YtogbkgmlhhahdaaGreat
open Go.RowKit
structure nU where
 k:ByteArray
 s:ByteArray
 v:ByteArray
 b:List Int
def kC (es:List nU):List Pr:=es.map fun e=>(e.k,e.s)
def kE (es:List nU):List Pr:=es.map fun e=>(e.k,e.v)
def eO (es:List nU):List Int:=es.flatMap (·.b)
theorem uw (a b:List nU):kC (a++b)=kC a++kC b:=by simp[kC]
theorem mW (a b:List nU):kE (a++b)=kE a++kE b:=by simp[kE]
theorem jX (a b:List nU):eO (a++b)=eO a++eO b:=by simp[eO]
theorem Dq (e:nU)(b:List nU):eO (e::b)=e.b++eO b:=by simp[eO]
theorem gB (es:List nU):(kC es).length=es.length:=by simp[kC]
theorem tT (es:List nU):(kE es).length=es.length:=by simp[kE]
def tH (es:List nU)(key:ByteArray):Nat:=(es.takeWhile fun e=>lt e.k key).length
theorem OI (f:nU->Pr)(hf:∀e,(f e).1=e.k)(es:List nU)(key:ByteArray):dU (es.map f) key=tH es key:=by
 unfold dU tH
 rw[List.takeWhile_map,kH]
 congr 2
 funext e
 simp[hf]
theorem JO (f:nU->Pr)(hf:∀e,(f e).1=e.k)(es:List nU)(key:ByteArray):
  (∀o,es[tH es key]? =some o->o.k=key->fF (es.map f) key=some (f o).2/\(∀x,mP (es.map f) key x=(es.take (tH es key)).map f++(key,x)::(es.drop (tH es key+1)).map f)/\La (es.map f) key=(es.take (tH es key)).map f++(es.drop (tH es key+1)).map f)/\
  ((∀o,es[tH es key]? =some o->o.k≠key)->fF (es.map f) key=none/\(∀x,mP (es.map f) key x=(es.take (tH es key)).map f++(key,x)::(es.drop (tH es key)).map f)/\La (es.map f) key=es.map f):=by
 have hp:=OI f hf es key
 constructor
 ·intro o ho hk
  obtain⟨hl,_⟩:=bX.1 ho
  have hat:oO (es.map f) key=true:=by
   unfold oO
   rw[hp,dZ,ho]
   simp[hf,hk]
  refine⟨?_,fun x=> ?_,?_⟩
  ·unfold fF
   rw[if_pos hat,hp,dZ,ho];rfl
  ·unfold mP
   rw[if_pos hat,hp,Pj,if_pos (by rw[kH];exact hl),fO,gq]
  ·unfold La
   rw[if_pos hat,hp,fO,gq]
 ·intro hno
  have hat:oO (es.map f) key=false:=by
   unfold oO
   rw[hp,dZ]
   cases he:es[tH es key]? with
   |none=>rfl
   |some o=>simp[hf,hno o he]
  refine⟨?_,fun x=> ?_,?_⟩
  ·unfold fF
   rw[if_neg (by rw[hat];simp)]
  ·unfold mP
   rw[if_neg (by rw[hat];simp),hp,fO,gq]
  ·unfold La
   rw[if_neg (by rw[hat];simp)]
structure zk (es:List nU)(key:ByteArray)(l o r:List nU):Prop where
 eq:es=l++o++r
 one:o=[]\/∃e,o=[e]/\e.k=key
 ls:fF (kC es) key=o.head?.map (·.s)
 lv:fF (kE es) key=o.head?.map (·.v)
 is:∀s v b,mP (kC es) key s=kC (l++⟨key,s,v,b⟩::r)
 iv:∀s v b,mP (kE es) key v=kE (l++⟨key,s,v,b⟩::r)
 ds:La (kC es) key=kC (l++r)
 dv:La (kE es) key=kE (l++r)
theorem NK (es:List nU)(key:ByteArray):∃l o r,zk es key l o r:=by
 have hs:=JO (fun e=>(e.k,e.s)) (fun _=>rfl) es key
 have hv:=JO (fun e=>(e.k,e.v)) (fun _=>rfl) es key
 by_cases h:∃o,es[tH es key]? =some o/\o.k=key
 ·obtain⟨o,ho,hk⟩:=h
  obtain⟨hl,he⟩:=bX.1 ho
  obtain⟨a1,a2,a3⟩:=hs.1 o ho hk
  obtain⟨b1,b2,b3⟩:=hv.1 o ho hk
  refine⟨es.take (tH es key),[o],es.drop (tH es key+1),?_,.inr ⟨o,rfl,hk⟩,a1,b1,fun s v b=> ?_,fun s v b=> ?_,?_,?_⟩
  ·rw[<-he,aL,List.singleton_append,List.getElem_cons_drop,bO]
  ·rw[uw];exact a2 s
  ·rw[mW];exact b2 v
  ·rw[uw];exact a3
  ·rw[mW];exact b3
 ·have hno:∀o,es[tH es key]? =some o->o.k≠key:=fun o ho hk=>h ⟨o,ho,hk⟩
  obtain⟨a1,a2,a3⟩:=hs.2 hno
  obtain⟨b1,b2,b3⟩:=hv.2 hno
  refine⟨es.take (tH es key),[],es.drop (tH es key),?_,.inl rfl,a1,b1,fun s v b=> ?_,fun s v b=> ?_,?_,?_⟩
  ·rw[dQ,bO]
  ·rw[uw];exact a2 s
  ·rw[mW];exact b2 v
  ·rw[bO];exact a3
  ·rw[bO];exact b3
theorem uK.keep {σ σ':cK}{head size:Nat}{rs:List (Nat×Nat)}(h:uK σ head size rs)(h1:σ'.hasB head=true)(h2:σ'.mem head=σ.mem head):uK σ' head size rs:=by
 obtain⟨a,_,c,d,e,f,g⟩:=h
 exact⟨a,h1,by rw[h2];exact c,d,e,f,g⟩
theorem ou.keep {σ σ':cK}{head:Nat}{t:List UInt8}{rs:List (Nat×Nat)}(h:ou σ head t rs)(hk:∀x∈jF head rs,σ'.hasB x=true/\σ'.mem x=σ.mem x):ou σ' head t rs:=by
 have hin:∀b∈fC rs++[head],((b:Nat):Int)∈jF head rs:=fun b hb=>jJ hb
 refine⟨h.hd.keep (hk _ (hin head (by simp))).1 (hk _ (hin head (by simp))).2,h.nd,fun i hi=> ?_⟩
 obtain⟨a,b,c⟩:=h.blk i hi
 have:=hk _ (hin (fC rs)[i] (dz _ (bJ hi)))
 exact⟨this.1,b,this.2.trans c⟩
theorem ValAt.keep {σ σ':cK}{s v:ByteArray}{vb:List Int}(h:ValAt σ s v vb)(hk:∀x∈vb,σ'.hasB x=true/\σ'.mem x=σ.mem x):ValAt σ' s v vb:=by
 rcases h with h|⟨hd,rs,h1,h2,h3,h4⟩
 ·exact .inl h
 ·exact .inr ⟨hd,rs,h1,h2,h3.keep (fun x hx=>hk x (by rw[h4];exact hx)),h4⟩
theorem ValAt.all {σ:cK}{s v:ByteArray}{vb:List Int}(h:ValAt σ s v vb):∀x∈vb,σ.hasB x=true/\2<=x:=by
 rcases h with ⟨_,_,rfl⟩|⟨hd,rs,_,_,h3,rfl⟩
 ·intro x hx;cases hx
 ·exact h3.all
theorem dL.RA {T:ByteArray->Option ByteArray->Int->List Pr->List Int->Prop}(hT:∀k z b c x,T k z b c x->∀y∈x,2<=y){hi:Option ByteArray}{l:List (ByteArray×Int)}{cs:List Pr}{bs:List Int}(h:dL T hi l cs bs):∀y∈bs,2<=y:=dL.has hT h
theorem iM.two {σ:cK}:∀{h m:Nat} {lo:ByteArray} {hi:Option ByteArray} {b:Int} {cs:List Pr} {bs:List Int},iM σ h m lo hi b cs bs->∀x∈bs,2<=x
 |0,_,_,_,_,_,_,⟨nd,h1,_,_,_,_,_,_,h8⟩=>by
  intro x hx
  rw[h8] at hx
  rw[bK.1 hx]
  exact h1.lo
 |h+1,_,_,_,_,_,_,⟨nd,bs',h1,_,_,_,h5,h6⟩=>by
  subst h5
  intro x hx
  rcases bQ.1 hx with rfl|hx
  ·exact h1.lo
  ·exact dL.RA (fun _ _ _ _ _ ht=>iM.two ht) h6 x hx
theorem xX.two {σ:cK}{root:Int}{cs:List Pr}{bs:List Int}(h:xX σ root cs bs):∀x∈bs,2<=x:=by
 rcases h with ⟨_,_,rfl⟩|⟨h,ht⟩
 ·intro x hx;cases hx
 ·exact ht.two
structure Own (σ:cK)(bs:List Int):Prop where
 nd:bs.Nodup
 ex:∀x,σ.hasB x=true->x=0\/x=1\/x∈bs
 size:σ.sz=countB σ.H.old σ.most+nh σ bs
theorem Own.BV {σ σ':cK}{us bs:List Int}(h:Own σ us)(hc:lX σ σ' us bs):Own σ' bs:=by
 refine⟨hc.nd h.nd,fun x hx=> ?_,?_⟩
 ·rcases hc.ex x hx with y|⟨y,z⟩
  ·exact .inr (.inr y)
  ·exact(h.ex x y).imp id (fun e=>e.imp id (fun e=>absurd e z))
 ·have a:=hc.size
  have b:=h.size
  rw[hc.H,hc.most,xB hc.H]
  omega
structure Live (σ:cK)(root:Int)(es:List nU)(tb:List Int):Prop where
 tree:xX σ root (kC es) tb
 val:∀e∈es,ValAt σ e.s e.v e.b
 own:Own σ (tb++eO es)
theorem Live.bb {σ:cK}{root:Int}{es:List nU}{tb:List Int}(h:Live σ root es tb):∀x∈eO es,σ.hasB x=true/\2<=x:=by
 intro x hx
 obtain⟨e,he,hx⟩:=pM.1 hx
 exact(h.val e he).all x hx
theorem Live.all {σ:cK}{root:Int}{es:List nU}{tb:List Int}(h:Live σ root es tb):∀x∈tb++eO es,σ.hasB x=true/\2<=x:=by
 intro x hx
 rcases bU.1 hx with hx|hx
 ·exact⟨h.tree.has x hx,h.tree.two x hx⟩
 ·exact h.bb x hx
theorem qZ {a b:List Int}(h:(a++b).Nodup):∀x∈b,x∉a:=fun x hx ha=>(dV.1 h).2.2 x ha x hx rfl
theorem FD {σ σ1 σ2 σ3:cK}{root root':Int}{es l o r:List nU}{tb nb:List Int}{key s v:ByteArray}(hL:Live σ root es tb)(hA:zk es key l o r)(h1:lX σ σ1 (eO o) [])(h2:lX σ1 σ2 [] nb)(hv:ValAt σ2 s v nb){n:Nat}(h3:Jk σ2 tb (mP (kC es) key s) n σ3 root'):
  ∃tb',Live σ3 root' (l++⟨key,s,v,nb⟩::r) tb'/\lX σ σ3 (tb++eO es) (tb'++eO (l++⟨key,s,v,nb⟩::r)):=by
 obtain⟨tb',ht,h3,_,_⟩:=h3
 have hall:=hL.all
 have hn:=hL.own.nd
 have hes:=hA.eq
 have hbb:eO es=eO l++eO o++eO r:=by rw[hes,jX,jX]
 obtain⟨R,hR⟩:∃R,R=tb++eO l++eO r:=⟨_,rfl⟩
 have hp1:(tb++eO es).Perm (eO o++R):=by
  rw[hbb,hR]
  have:(tb++(eO l++eO o++eO r)).Perm (tb++(eO o++eO l++eO r)):=((fV).append_right _).append_left _
  refine this.trans ?_
  have e1:tb++(eO o++eO l++eO r)=tb++eO o++(eO l++eO r):=by simp
  have e2:eO o++(tb++eO l++eO r)=eO o++tb++(eO l++eO r):=by simp
  rw[e1,e2]
  exact fV.append_right _
 have hn1:=hp1.nodup_iff.1 hn
 have hRa:∀x∈R,σ.hasB x=true:=fun x hx=>(hall x (hp1.mem_iff.2 (dJ _ hx))).1
 have c1:=h1.left (rs:=R) hn1 hRa
 have hR1:∀x∈R,σ1.hasB x=true:=fun x hx=>(c1.new x hx).1
 have c2:=h2.left (rs:=R) (c1.nd hn1) hR1
 have hn2:=c2.nd (c1.nd hn1)
 have hp3:(nb++R).Perm (tb++(nb++eO l++eO r)):=by
  rw[hR]
  have e1:nb++(tb++eO l++eO r)=nb++tb++(eO l++eO r):=by simp
  have e2:tb++(nb++eO l++eO r)=tb++nb++(eO l++eO r):=by simp
  rw[e1,e2]
  exact fV.append_right _
 have hn3:=hp3.nodup_iff.1 hn2
 have hS2:∀x∈nb++R,σ2.hasB x=true:=fun x hx=>(c2.new x hx).1
 have c3:=h3.left (rs:=nb++eO l++eO r) hn3 (fun x hx=>hS2 x (hp3.mem_iff.2 (dJ _ hx)))
 have hbb':eO (l++⟨key,s,v,nb⟩::r)=eO l++(nb++eO r):=by rw[jX,Dq]
 have hp4:(tb'++(nb++eO l++eO r)).Perm (tb'++eO (l++⟨key,s,v,nb⟩::r)):=by
  rw[hbb',<-aL (eO l)]
  exact(fV.append_right _).append_left _
 have C:lX σ σ3 (tb++eO es) (tb'++eO (l++⟨key,s,v,nb⟩::r)):=by
  have a:lX σ σ2 (tb++eO es) (tb++(nb++eO l++eO r)):=(c1.trans c2).perm hp1.symm hp3
  exact(a.trans c3).perm (ji _) hp4
 refine⟨tb',⟨?_,fun e he=> ?_,hL.own.BV C⟩,C⟩
 ·rw[<-hA.is s v nb];exact ht
 ·have hoff:∀x∈nb++eO l++eO r,x∉tb:=qZ hn3
  rcases bU.1 he with he|he
  ·have hin:∀x∈e.b,x∈eO l:=fun x hx=>pM.2 ⟨e,he,hx⟩
   refine(hL.val e (by rw[hes];exact dz _ (dz _ he))).keep fun x hx=> ?_
   have hxR:x∈R:=by rw[hR];exact dz _ (dJ _ (hin x hx))
   have f1:=h1.frame x (hRa x hxR) (.inl (qZ hn1 x hxR))
   have f2:=h2.frame x f1.1 (.inl (by simp))
   have f3:=h3.frame x f2.1 (.inl (hoff x (dz _ (dJ _ (hin x hx)))))
   exact⟨f3.1,f3.2.trans (f2.2.trans f1.2)⟩
  ·rcases bQ.1 he with rfl|he
   ·exact hv.keep fun x hx=>h3.frame x (hS2 x (dz _ hx)) (.inl (hoff x (dz _ (dz _ hx))))
   ·have hin:∀x∈e.b,x∈eO r:=fun x hx=>pM.2 ⟨e,he,hx⟩
    refine(hL.val e (by rw[hes];exact dJ _ he)).keep fun x hx=> ?_
    have hxR:x∈R:=by rw[hR];exact dJ _ (hin x hx)
    have f1:=h1.frame x (hRa x hxR) (.inl (qZ hn1 x hxR))
    have f2:=h2.frame x f1.1 (.inl (by simp))
    have f3:=h3.frame x f2.1 (.inl (hoff x (dJ _ (hin x hx))))
    exact⟨f3.1,f3.2.trans (f2.2.trans f1.2)⟩
theorem wI:∀(n:Nat) (f:Nat->Bool) (L:List Nat),L.Nodup->(∀x,x∈L↔x<n/\f x=true)->countB f n=L.length
 |0,f,L,_,h=>by
  cases L with
  |nil=>rfl
  |cons a L=>exact absurd ((h a).1 (aZ ..)).1 (qQ _)
 |n+1,f,L,hn,h=>by
  rw[fq]
  by_cases hf:f n=true
  ·have hm:n∈L:=(h n).2 ⟨gT n,hf⟩
   have ih:=wI n f (L.erase n) (hn.erase n) (fun x=>by
    rw[hn.mem_erase_iff,h]
    constructor
    ·rintro⟨a,b,c⟩;exact⟨by omega,c⟩
    ·rintro⟨a,b⟩;exact⟨by omega,by omega,b⟩)
   rw[ih,hf,List.length_erase_of_mem hm]
   have:=List.length_pos_of_mem hm
   simp;omega
  ·have hf':f n=false:=by simpa using hf
   have ih:=wI n f L hn (fun x=>by
    rw[h]
    constructor
    ·rintro⟨a,b⟩
     exact⟨by have:x≠n:=fun e=>hf (e▸b);omega,b⟩
    ·rintro⟨a,b⟩;exact⟨by omega,b⟩)
   rw[ih,hf'];rfl
theorem Own.count {σ:cK}{bs:List Int}(h:Own σ bs)(hok:σ.Ok)(hb:∀x∈bs,σ.hasB x=true/\2<=x):countB σ.now σ.most=2+bs.length:=by
 obtain⟨L,hL⟩:∃L:List Nat,L=bs.map Int.toNat:=⟨_,rfl⟩
 have h2:=hok.two
 have hin:∀x∈L,2<=x/\x<σ.most/\σ.now x=true:=by
  intro x hx
  rw[hL] at hx
  obtain⟨y,hy,rfl⟩:=eU.1 hx
  obtain⟨n,e,a,b⟩:=cK.kF (hb y hy).1
  have:=(hb y hy).2
  rw[e,eX]
  exact⟨by omega,a,b⟩
 have hnd:L.Nodup:=by
  rw[hL]
  refine List.Pairwise.map _ (R:=fun a b=>a≠b/\2<=a/\2<=b) (fun a b (hab:a≠b/\2<=a/\2<=b) e=>hab.1 (by omega)) ?_
  have:=h.nd
  exact List.Pairwise.imp_of_mem (fun ha hb' hab=>⟨hab,(hb _ ha).2,(hb _ hb').2⟩) this
 rw[wI σ.most σ.now (0::1::L) ?_ fun x=> ?_]
 ·rw[hL];simp;omega
 ·refine kG.2 ⟨fun e=> ?_,kG.2 ⟨fun e=> ?_,hnd⟩⟩
  ·rcases bQ.1 e with e|e
   ·cases e
   ·have:=(hin 0 e).1;omega
  ·have:=(hin 1 e).1;omega
 ·constructor
  ·intro hx
   rcases bQ.1 hx with rfl|hx
   ·exact⟨by omega,hok.n0⟩
   ·rcases bQ.1 hx with rfl|hx
    ·exact⟨by omega,hok.n1⟩
    ·exact(hin x hx).2
  ·rintro⟨a,b⟩
   have hh:σ.hasB (x:Int)=true:=by unfold cK.hasB;rw[eX,b];simp[a]
   rcases h.ex x hh with e|e|e
   ·have:x=0:=by omega
    subst this;exact aZ ..
   ·have:x=1:=by omega
    subst this;exact aU _ (aZ ..)
   ·refine aU _ (aU _ ?_)
    rw[hL]
    exact eU.2 ⟨x,e,by simp⟩
theorem Hu (t:Nat)(w:World)(h:Gz w t):
  Calls Tryz.prog 56 #[.pointer (some ⟨t,0,none⟩)] w fun e w'=>e= .returned (.tuple #[])/\w'=w:=by
 obtain⟨db,h⟩:=h
 have c0:w.cell? ⟨t,0,none⟩=some (.pointer none):=by simp[World.cell?,h]
 have hlt:=(aj.1 h).1
 clear h
 go_enter Tryz.func56,Tryz.ntmps56
 go_wp2_with fail
 go_end0
 exact⟨rfl,rfl⟩
theorem O1 (mp:VS)(root:Int)(w:World)(hr:0<=root):
  Calls Tryz.prog 58 #[.iface 97 mp.agg,.int .i64 root] w fun e w'=>e= .returned (.pointer (some ⟨w.heap.size,0,none⟩))/\di w' w.heap.size mp root 0/\w'.heap.size=w.heap.size+1/\Below w.heap.size w w':=by
 have hr2:¬root<0:=by omega
 have heq:∀w:World,(binOp BinOp.eql 158 (.iface 97 mp.agg) .nilIface).run Tryz.prog w= .ok (.bool false) w:=fun _=>by kernel_rfl
 go_enter Tryz.func58,Tryz.ntmps58
 go_wp2_with fail
 go_ret
 exact⟨rfl,bD _ _,by simp,aN _ _⟩
theorem O0 (t:Nat)(mp:VS)(root err:Int)(w:World)(h:di w t mp root err):
  Calls Tryz.prog 65 #[.pointer (some ⟨t,0,none⟩)] w fun e w'=>e= .returned (.int .i64 root)/\w'=w:=by
 obtain⟨_,c1,_,_,_,_,hlt⟩:=cells3 h
 go_enter Tryz.func65,Tryz.ntmps65
 go_wp2
 go_ret
 exact⟨rfl,rfl⟩
def NQ (l:List UInt8)(root:Nat):Prop:=root<65536/\∃rest,l=[UInt8.ofNat root,UInt8.ofNat (root/256)]++rest
def cK.start (σ:Dk)(l:Lg)(p:Pg)(f:Nat->Bool):cK:=⟨⟨σ,l,p,f⟩,p.blocks σ,Im.none,f,countB f (p.blocks σ)⟩
theorem cK.Ok.start {σ:Dk}{l:Lg}{p:Pg}{f:Nat->Bool}(hp:p.Ok σ l)(hs:σ.Ok)(hd:p.dead=false)(hsd:σ.dead=false)(h2:2<=p.blocks σ)(hhi:∀b,p.blocks σ<=b->f b=false)(h0:f 0=true)(h1:f 1=true):(cK.start σ l p f).Ok:=by
 refine⟨hd,hsd,rfl,h2,?_,hhi,hhi,h0,h1,(fun b hb=>by cases hb),(fun b _ hn ho=> ?_),?_,fun b _=> ?_⟩
 ·have:=hs.hi
  show p.blocks σ<=4096
  unfold Pg.blocks;omega
 ·have hn':f b=true:=hn
  have ho':f b=false:=ho
  rw[hn'] at ho';cases ho'
 ·show countB (fun x=>f x||f x) (p.blocks σ)<=countB f (p.blocks σ)
  exact mY _ (fun x _ hx=>by simpa using hx)
 ·show (p.look Im.none σ b).length=512
  rw[Pg.yB]
  unfold Im.find
  split
  ·exact hp.fresh.img _ ‹_›
  ·exact hs.get _
def LM (pg d:Nat)(σ:Dk)(l:Lg)(p:Pg)(f:Nat->Bool)(root:Nat)(S:Nat->Prop)(w:World)(e:Ending)(w':World):Prop:=
 ∃t tr mp S',e= .returned (.tuple #[.pointer (some ⟨t,0,none⟩),.int .i64 0])/\mp.pg=pg/\mp.d=d/\w'.heap[t]? =some (.cells (dM mp (some tr) false 0) 100 (0,0))/\di w' tr mp root 0/\Inv (cK.start σ l p f) S' mp w'/\Step S S' w w'/\¬S' t/\¬S' tr/\w.heap.size<=t/\w.heap.size<=tr
theorem Mj (v pg d:Nat)(σ:Dk)(l:Lg)(p:Pg)(f:Nat->Bool)(root:Nat)(S:Nat->Prop)(w:World)(hv:w.heap[v]? =some (.cells #[.pointer (some ⟨pg,0,none⟩)] 88 (0,0)))(hvS:¬S v)(h:je w S pg d σ l p (.pointer none))(hd:p.dead=false)(hsd:σ.dead=false)(h2:2<=p.blocks σ)(hf:p.look Im.none σ 0=bytesOf f)(hhi:∀b,p.blocks σ<=b->f b=false)(h0:f 0=true)(h1:f 1=true)(hr:NQ (p.look Im.none σ 1) root):
  Calls Tryz.prog 21 #[.pointer (some ⟨v,0,none⟩)] w (LM pg d σ l p f root S w):=by
 have hok:=cK.Ok.start h.ok.1 h.ok.2.1 hd hsd h2 hhi h0 h1
 have c0:w.cell? ⟨v,0,none⟩=some (.pointer (some ⟨pg,0,none⟩)):=by simp[World.cell?,hv]
 have hlt:=(aj.1 hv).1
 have HB:=ah (MO pg d σ l p S w h hd)
 have HV:=ah hv;have HOK:=ah hok
 have hsub:=h.sub
 obtain⟨hr1,rest,hr2⟩:=hr
 have HF:=ah (aD hf (aD hhi (aD h0 h1)))
 have HR2:=ah hr2
 clear hv h hok hf hhi h0 h1 hr2
 go_enter Tryz.func21,Tryz.ntmps21
 go_wp2_with (first
  |(go_at_call 40;go_must (refine HB.out.mono ?_;rintro e w1 ⟨tx,T,rfl,hp1,htx1,hs1,hT1⟩;refine Stop.of ?_)))
 refine Stop.on ?_
 have hdis:∀g,S g->¬T g:=fun g hg e=>absurd (hT1 g e) (eZ.2 (hsub g hg))
 have hv1:=(hs1.1.block v hlt hvS).trans HV.out
 have d0:w1.cell? ⟨v,0,none⟩=some (.pointer (some ⟨pg,0,none⟩)):=by simp[World.cell?,hv1]
 have hl1:=(aj.1 hv1).1
 have HBK:=ah (xq pg d σ l p _ S w1 hp1)
 have HLD:=ah (Qi tx pg d σ l p _ Im.none S T f w1.drew (hp1.below ((aQ _ w1).drew)) (htx1.below ((aQ _ w1).drew)) hd hsd h2 HF.out.1 HF.out.2.1 HF.out.2.2.1 HF.out.2.2.2)
 have HP1:=ah (aD hp1 (aD htx1 hs1))
 clear hv1 hp1 htx1 hs1
 go_wp2_with (first
  |(go_at_call 42;go_must (refine HBK.out.mono ?_;rintro e w2 ⟨rfl,hw2⟩;subst w2))
  |(go_at_call 55;go_must (refine HLD.out.mono ?_;rintro e w2 ⟨mp,rfl,hmp2,hmlo,hb2⟩;refine Stop.of ?_)))
 refine Stop.on ?_
 have hb12:Below w1.heap.size w1 w2:=((aQ _ w1).drew).trans hb2
 have hp2:=HP1.out.1.below hb12
 have htx2:=HP1.out.2.1.below hb12
 have HRD:=tread tx pg d σ l p _ Im.none S T 1 w2 hp2 htx2 hd hsd (by omega)
 rw[HR2.out] at HRD
 have HRD:=ah HRD
 go_wp2_with (first
  |(go_at_call 57;go_must (refine HRD.out.mono ?_;rintro e w3 ⟨rv,rfl,hrv3,hro3,hb3⟩;refine Stop.of ?_)))
 refine Stop.on ?_
 obtain⟨ro,rc,rfl,r1,r2,r3,r4⟩:=aY.form hrv3
 have hbt:=UInt8.toNat_lt (UInt8.ofNat root)
 have hbt2:=UInt8.toNat_lt (UInt8.ofNat (root/256))
 have e1:(UInt8.ofNat root).toNat=root%256:=by rw[eY]
 have e2:(UInt8.ofNat (root/256)).toNat=root/256:=by rw[eY];omega
 obtain⟨pb,po,rfl,e30⟩:=hrv3.Co rfl 0 (.int .u8 ((root%256:Nat):Int)) (by simp[aG,e1])
 obtain⟨pb',po',e',e31⟩:=hrv3.Co rfl 1 (.int .u8 ((root/256:Nat):Int)) (by simp[aG,e2])
 cases e'
 have hpb:=aJ w3 _ e30
 obtain⟨lo,hlo⟩:∃n:Nat,n=root%256:=⟨_,rfl⟩
 obtain⟨hi,hhi⟩:∃n:Nat,n=root/256:=⟨_,rfl⟩
 rw[<-hlo] at e30
 rw[<-hhi] at e31
 have hlo2:lo<256:=by omega
 have hhi2:hi<256:=by omega
 have hroot:root=lo+256*hi:=by omega
 have q1:IntKind.i64.wrap (lo:Int)=(lo:Int):=aH _ (by omega)
 have q2:IntKind.i64.wrap (hi:Int)=(hi:Int):=aH _ (by omega)
 have p1:IntKind.i64.wrap ((hi:Int)*256)=((256*hi:Nat):Int):=by rw[aH _ (by omega)];omega
 have o1:=tO lo hi 256 root 8 rfl hlo2 hroot (by omega)
 have HRT:=ah hroot
 obtain⟨m1,hm1⟩:∃m:Nat,Hid (256*hi=m):=⟨_,ah rfl⟩
 rw[hm1.out] at p1 o1
 have HP3:=ah (aD (hp2.below hb3) (aD (htx2.below hb3) (hb12.trans (hb3.mono hb12.size))))
 have hmp3:=ah ((hb3.block mp (aj.1 hmp2).1).trans hmp2)
 clear hrv3 hro3 e1 e2 hbt hbt2 hlo hhi hroot hp2 htx2 hmp2
 go_upto_region 15 with (fail)
 have hb4:=aN w3 (.cells #[.pointer (some ⟨tx,0,none⟩),.pointer (some ⟨mp,0,none⟩)] 97)
 have h4:=bD w3 (.cells #[.pointer (some ⟨tx,0,none⟩),.pointer (some ⟨mp,0,none⟩)] 97)
 obtain⟨sb,hsb⟩:∃sb,Hid (w3.heap.size=sb):=⟨_,ah rfl⟩
 obtain⟨w4,hw4⟩:∃w4,Hid (w3.alloc (.cells #[.pointer (some ⟨tx,0,none⟩),.pointer (some ⟨mp,0,none⟩)] 97)=w4):=⟨_,ah rfl⟩
 rw[hw4.out] at hb4 h4 ⊢
 rw[hsb.out] at h4 ⊢
 have HCL:=ah (show ∀W:World,Below w4.heap.size w4 W->(W.cell? ⟨sb,0,none⟩=some (.pointer (some ⟨tx,0,none⟩))/\W.cell? ⟨sb,1,none⟩=some (.pointer (some ⟨mp,0,none⟩))/\W.cell? ⟨pb,po,none⟩=some (.int .u8 (lo:Int))/\W.cell? ⟨pb,po+1,none⟩=some (.int .u8 (hi:Int))/\sb<W.heap.size/\pb<W.heap.size) from fun W hW=>by
  have hl:=(aj.1 h4).1
  have hl3:=ax hpb hb4.size
  have h5:=(hW.block sb hl).trans h4
  exact⟨by simp[World.cell?,h5],by simp[World.cell?,h5],(hW.cell (p:=⟨pb,po,none⟩) hl3).trans ((hb4.cell (p:=⟨pb,po,none⟩) hpb).trans e30),(hW.cell (p:=⟨pb,po+1,none⟩) hl3).trans ((hb4.cell (p:=⟨pb,po+1,none⟩) hpb).trans e31),ax hl hW.size,ax hl3 hW.size⟩)
 have HB4:=ah hb4
 clear e30 e31 h4 hb4
 refine aO (fun W=>W.cell? ⟨sb,0,none⟩=some (.pointer (some ⟨tx,0,none⟩))/\W.cell? ⟨sb,1,none⟩=some (.pointer (some ⟨mp,0,none⟩))/\W.cell? ⟨pb,po,none⟩=some (.int .u8 (lo:Int))/\W.cell? ⟨pb,po+1,none⟩=some (.int .u8 (hi:Int))/\sb<W.heap.size/\pb<W.heap.size) (fun i=> !([13,15].contains i)) [0,1,2,3,4,5,6,7,8,9,10,11,12,13,14,15,16,17] rfl (by kernel_rfl) (HCL.out _ ((aQ _ w4).drew)) ?_
 repeat ((refine bM (v:= ?_) rfl rfl (fun _ _ _ h=>h) rfl (fun W hW=> ?_) ?_);rotate_left;(focus ((try dsimp only at hW);obtain⟨a0,a1,a2,a3,a4,a5⟩:=hW;(go_simp;first|done|with_reducible rfl)));(try simp only[Act.put,ai,au,ak]))
 obtain⟨ms,hms⟩:∃ms:VS,ms=⟨tx,pg,d,mp⟩:=⟨_,rfl⟩
 have HBO:=ah (O1 ms (root:Int) w4.drew (by omega))
 rw[hms] at HBO
 refine dF rfl rfl rfl ?_;intro K hK;go_simp
 refine HBO.out.mono ?_;rintro e w5 ⟨rfl,htr5,-,hb5⟩
 have hb45:Below w4.heap.size w4 w5:=((aQ _ w4).drew).trans hb5
 refine hK.out _ _ (HCL.out _ hb45) ?_
 (try simp only[Act.put,ai,au,ak])
 repeat ((refine bM (v:= ?_) rfl rfl (fun _ _ _ h=>h) rfl (fun W hW=> ?_) ?_);rotate_left;(focus ((try dsimp only at hW);obtain⟨a0,a1,a2,a3,a4,a5⟩:=hW;(go_simp;first|done|with_reducible rfl)));(try simp only[Act.put,ai,au,ak]))
 refine dF rfl rfl rfl ?_;intro K hK;go_simp
 have hb6:=aN w5 (.cells #[.pointer (some ⟨tx,0,none⟩),.pointer (some ⟨mp,0,none⟩),.pointer (some ⟨w4.heap.size,0,none⟩),.bool false,.int .i64 0] 100)
 have h6:=bD w5 (.cells #[.pointer (some ⟨tx,0,none⟩),.pointer (some ⟨mp,0,none⟩),.pointer (some ⟨w4.heap.size,0,none⟩),.bool false,.int .i64 0] 100)
 have hb46:=hb45.trans (hb6.mono hb45.size)
 refine hK.out _ _ (HCL.out _ hb46) ?_
 (try simp only[Act.put,ai,au,ak])
 repeat ((refine bM (v:= ?_) rfl rfl (fun _ _ _ h=>h) rfl (fun W hW=> ?_) ?_);rotate_left;(focus ((try dsimp only at hW);obtain⟨a0,a1,a2,a3,a4,a5⟩:=hW;(go_simp;first|done|with_reducible rfl)));(try simp only[Act.put,ai,au,ak]))
 refine bP ?_
 go_wp2_with fail
 go_ret2
 have hb36:=HB4.out.trans (hb46.mono HB4.out.size)
 have hmpl:=(aj.1 hmp3.out).1
 have hT1':∀g,T g->w.heap.size<=g:=hT1
 have hl3:w1.heap.size<=w3.heap.size:=HP3.out.2.2.size
 have hl01:=HP1.out.2.2.1.size
 have hbt:w3.heap.size<=w4.heap.size:=HB4.out.size
 have hbu:w4.heap.size<=w5.heap.size:=hb45.size
 have hsub1:∀g,S g->g<w1.heap.size:=fun g hg=>ax (hsub g hg) hl01
 have hsubT:∀g,T g->g<w1.heap.size:=HP1.out.2.1.sub
 have hlo2':w1.heap.size<=mp:=hmlo
 refine⟨w5.heap.size,w4.heap.size,⟨tx,pg,d,mp⟩,fun g=>S g\/T g\/g=mp,rfl,rfl,rfl,h6,?_,⟨S,T,⟨HOK.out,HP3.out.1.below hb36,HP3.out.2.1.below hb36,(hb36.block mp hmpl).trans hmp3.out,hdis,fun e=>absurd (hsub1 mp e) (bn.2 hlo2'),fun e=>absurd (hsubT mp e) (bn.2 hlo2')⟩,fun g=>LP⟩,⟨?_,fun g hg=> ?_⟩,?_,?_,?_,?_⟩
 ·exact(hb6.block _ (aj.1 htr5).1).trans htr5
 ·refine(HP1.out.2.2.1.trans (Keep.of_below (HP3.out.2.2.trans (hb36.mono hl3)) fU) (fun _ _ e=>e.elim))
 ·rcases hg with hg|hg|hg
  ·exact .inl hg
  ·exact .inr (hT1' g hg)
  ·exact .inr (by rw[hg];omega)
 ·rintro(e|e|e)
  ·have:=hsub1 _ e;omega
  ·have:=hsubT _ e;omega
  ·omega
 ·rintro(e|e|e)
  ·have:=hsub1 _ e;omega
  ·have:=hsubT _ e;omega
  ·omega
 ·omega
 ·omega
theorem FX:∀(l:List Int) (σ:cK),(σ.frees l).tk=σ.tk
 |[],_=>rfl
 |y::l,σ=>FX l (σ.gone y)
theorem Ab {w:World}{t tr:Nat}{mp mp':VS}{tr':Option Nat}{ch:Bool}{er root err:Int}(h:w.heap[t]? =some (.cells (dM mp tr' ch er) 100 (0,0)))(ht:di w tr mp' root err):t≠tr:=by
 rintro rfl
 unfold di at ht
 rw[h] at ht
 injection ht with ht
 injection ht with _ h2
 exact absurd h2 (by decide)
theorem qU (l:List Int):(oZ l).Perm l:=qy _ _
theorem Po (t tr:Nat)(mp:VS)(root:Int)(ch:Bool)(er:Int)(σ:cK)(S:Nat->Prop)(w:World)(es l o r:List nU)(tb:List Int)(key:ByteArray)(h:w.heap[t]? =some (.cells (dM mp (some tr) ch er) 100 (0,0)))(hI:Inv σ S mp w)(ht:di w tr mp root 0)(hL:Live σ root es tb)(hA:zk es key l o r)(hl:es.length<=4090)(hg:1<=key.size/\key.size<=128):
  Calls Tryz.prog 60 #[.pointer (some ⟨t,0,none⟩),.string key] w fun e w'=>e= .returned (.int .i64 0)/\∃σ1,Inv σ1 S mp w'/\Step S S w w'/\lX σ σ1 (eO o) []/\σ1.tk=σ.tk:=by
 have hl':(kC es).length<=4090:=by rw[gB];exact hl
 have hsmall:qG ((fF (kC es) key).getD ⟨#[]⟩).data.toList=none->((fF (kC es) key).getD ⟨#[]⟩).size<=1000000->eO o=[]->Calls Tryz.prog 60 #[.pointer (some ⟨t,0,none⟩),.string key] w fun e w'=>e= .returned (.int .i64 0)/\∃σ1,Inv σ1 S mp w'/\Step S S w w'/\lX σ σ1 (eO o) []/\σ1.tk=σ.tk:=by
  intro h1 h2 h3
  refine(G9 t tr mp root ch er σ S w (kC es) tb key h hI ht hL.tree hl' hg h1 h2).mono ?_
  rintro e w' ⟨rfl,hb⟩
  rw[h3]
  exact⟨rfl,σ,hI.below hb,Step.of_below hb,lX.refl (fun x hx=>by cases hx),rfl⟩
 rcases hA.one with rfl|⟨e,rfl,hk⟩
 ·have hls:fF (kC es) key=none:=hA.ls
  refine hsmall ?_ ?_ rfl
  ·rw[hls];rfl
  ·rw[hls];exact bg _
 ·have hls:fF (kC es) key=some e.s:=hA.ls
  have hv:=hL.val e (by rw[hA.eq];simp)
  have hbo:eO [e]=e.b:=by simp[eO]
  rcases hv with ⟨h1,h2,h3⟩|⟨hd,rs,h1,h2,h3,h4⟩
  ·refine hsmall ?_ ?_ (by rw[hbo,h3])
   ·rw[hls,QO,h1];exact tQ _
   ·rw[hls,QO,h1]
    have:(strOf (0::e.v.data.toList)).size=e.v.size+1:=by show (0::e.v.data.toList).toArray.size=e.v.data.size+1;simp
    omega
  ·refine(He t tr mp root ch er σ S w (kC es) tb key e.s hd e.v.data.toList rs h hI ht hL.tree hl' hg hls (by rw[h1];exact wC hd h2.1) (by rw[h1];show [1,UInt8.ofNat hd,UInt8.ofNat (hd/256)].toArray.size<=_;simp) h3).mono ?_
   rintro e' w' ⟨rfl,hI',hs'⟩
   refine⟨rfl,_,hI',hs',?_,FX _ _⟩
   rw[hbo,h4]
   exact(yM (oZ (jF hd rs)) σ (fun x hx=>(h3.all x ((Ah x).1 hx)).1) ((qU _).nodup_iff.2 h3.nd)).perm (qU _) (ji _)
structure Dt (w:World)(S:Nat->Prop)(t tr:Nat)(mp:VS)(σ:cK)(root err:Int)(ch:Bool)(er:Int):Prop where
 tx:w.heap[t]? =some (.cells (dM mp (some tr) ch er) 100 (0,0))
 tree:di w tr mp root err
 inv:Inv σ S mp w
 nt:¬S t
 ntr:¬S tr
theorem Dt.keep {w w':World}{S M:Nat->Prop}{t tr:Nat}{mp:VS}{σ:cK}{root err:Int}{ch:Bool}{er:Int}(h:Dt w S t tr mp σ root err ch er)(hk:Keep M w w')(hM:∀g,S g\/g=t\/g=tr->¬M g):Dt w' S t tr mp σ root err ch er:=
 ⟨(hk.block t (aj.1 h.tx).1 (hM t (.inr (.inl rfl)))).trans h.tx,(hk.block tr (aj.1 h.tree).1 (hM tr (.inr (.inr rfl)))).trans h.tree,h.inv.oN hk (fun g hg=>hM g (.inl hg)),h.nt,h.ntr⟩
theorem Dt.below {w w':World}{S:Nat->Prop}{t tr:Nat}{mp:VS}{σ:cK}{root err:Int}{ch:Bool}{er:Int}(h:Dt w S t tr mp σ root err ch er)(hb:Below w.heap.size w w'):Dt w' S t tr mp σ root err ch er:=h.keep (Keep.of_below hb fU) (fun _ _ e=>e)
def iX (S S':Nat->Prop)(t tr:Nat)(w w':World):Prop:=Keep (fun g=>S g\/g=t\/g=tr) w w'/\∀g,S' g->S g\/w.heap.size<=g
theorem iX.of {S S':Nat->Prop}{t tr:Nat}{w w':World}(h:Step S S' w w'):iX S S' t tr w w':=⟨h.1.mono (fun _ _ e=> .inl e),h.2⟩
theorem iX.trans {S S1 S2:Nat->Prop}{t tr:Nat}{w w1 w2:World}(h:iX S S1 t tr w w1)(k:iX S1 S2 t tr w1 w2):iX S S2 t tr w w2:=
 ⟨h.1.trans k.1 (fun g hg e=>e.elim (fun x=>(h.2 g x).elim .inl (fun y=>absurd hg (bn.2 y))) .inr),fun g hg=>(k.2 g hg).elim (fun x=>h.2 g x) (fun x=> .inr (aK h.1.size x))⟩
theorem iX.one {S:Nat->Prop}{t tr:Nat}{w w':World}(h:Keep (· =t) w w'):iX S S t tr w w':=⟨h.mono (fun _ _ e=> .inr (.inl e)),fun _ hg=> .inl hg⟩
theorem iX.tree {S S':Nat->Prop}{t tr:Nat}{w w':World}(h:Keep (fun g=>S g\/g=tr) w w')(h2:∀g,S' g->S g\/w.heap.size<=g):iX S S' t tr w w':=⟨h.mono (fun _ _ e=>e.imp id .inr),h2⟩
def RI (σ σ':cK)(tb:List Int)(c:Nat):Prop:=∀L,σ.sz+c<=L+nh σ tb->σ.tk<=L->σ'.tk<=L
def vJ (t tr:Nat)(mp:VS)(S:Nat->Prop)(σ:cK)(ch:Bool)(w w':World):Prop:=
 ∃σ' S' root' err',Dt w' S' t tr mp σ' root' err' ch 12/\σ'.H=σ.H/\σ'.most=σ.most/\iX S S' t tr w w'
theorem Gw {σ σ1:cK}{us:List Int}(h:lX σ σ1 us [])(ht:σ1.tk=σ.tk):zC σ σ1 0:=by
 have hs:=h.size
 have hz:nh σ []=0:=rfl
 exact⟨by omega,fun L _ t=>by omega⟩
def l7 (value:ByteArray):Nat:=if value.size<=63 then 0 else 1+sQ value.size
def Eu (t tr:Nat)(mp:VS)(S:Nat->Prop)(σ:cK)(es l r:List nU)(tb:List Int)(key value:ByteArray)(w w':World):Prop:=
 ∃σ' S' root' tb' s nb,Dt w' S' t tr mp σ' root' 0 true 0/\Live σ' root' (l++⟨key,s,value,nb⟩::r) tb'/\lX σ σ' (tb++eO es) (tb'++eO (l++⟨key,s,value,nb⟩::r))/\iX S S' t tr w w'/\RI σ σ' tb (2*(es.length+1)+l7 value)/\((l++⟨key,s,value,nb⟩::r).length<=299->zC σ σ' (65+l7 value))
theorem Cz (value:ByteArray):(⟨#[0]⟩:ByteArray)++value=strOf (0::value.data.toList):=by
 apply Og
 rw[ByteArray.data_append]
 apply Dx.1
 rw[LX]
 rfl
theorem uV (t tr:Nat)(mp:VS)(root:Int)(ch:Bool)(σ:cK)(S:Nat->Prop)(w:World)(es l o r:List nU)(tb:List Int)(key:ByteArray)(hT:Dt w S t tr mp σ root 0 ch 0)(hL:Live σ root es tb)(hA:zk es key l o r)(hl:es.length<=4090)(hg:1<=key.size/\key.size<=128):
  Calls Tryz.prog 36 #[.pointer (some ⟨t,0,none⟩),.string key] w fun e w'=>e= .returned (.tuple #[.string ((fF (kE es) key).getD ByteArray.empty),.bool (fF (kE es) key).isSome,.int .i64 0])/\Below w.heap.size w w':=by
 have hl':(kC es).length<=4090:=by rw[gB];exact hl
 rcases hA.one with rfl|⟨e,rfl,hk⟩
 ·have h1:fF (kC es) key=none:=hA.ls
  have h2:fF (kE es) key=none:=hA.lv
  have:=QZ t tr mp root ch σ S w (kC es) tb key ByteArray.empty [] hT.tx hT.inv hT.tree hL.tree hl' hg (fun s hs=>by rw[h1] at hs;cases hs)
  rw[h1] at this
  rw[h2]
  exact this
 ·have h1:fF (kC es) key=some e.s:=hA.ls
  have h2:fF (kE es) key=some e.v:=hA.lv
  have:=QZ t tr mp root ch σ S w (kC es) tb key e.v e.b hT.tx hT.inv hT.tree hL.tree hl' hg (fun s hs=>by
   rw[h1] at hs;cases hs
   exact hL.val e (by rw[hA.eq];simp))
  rw[h1] at this
  rw[h2]
  exact this
theorem Kb (t tr:Nat)(mp:VS)(root:Int)(ch:Bool)(σ:cK)(S:Nat->Prop)(w:World)(es l o r:List nU)(tb:List Int)(key value:ByteArray)(hT:Dt w S t tr mp σ root 0 ch 0)(hL:Live σ root es tb)(hA:zk es key l o r)(hl:es.length<=4090)(hg:1<=key.size/\key.size<=128)(hv:value.size<=49152)(hs:fF (kE es) key=some value):
  Calls Tryz.prog 23 #[.pointer (some ⟨t,0,none⟩),.string key,.string value] w fun e w'=>e= .returned (.int .i64 0)/\Below w.heap.size w w':=by
 have HU:=ah (uT t mp tr ch 0 key w hT.tx)
 have hu:jQ 0 key=0:=by unfold jQ;rw[if_neg (by simp),if_neg (by omega)]
 rw[hu] at HU
 have HG:=uV t tr mp root ch σ S w es l o r tb key hT hL hA hl hg
 rw[hs] at HG
 have HG:=ah HG
 have x1:¬(49152:Int)<(value.size:Int):=by omega
 clear hT hu
 go_enter Tryz.func23,Tryz.ntmps23
 go_wp2_with (first
  |(go_at_call 59;go_must (refine HU.out.mono ?_;rintro e w1 ⟨rfl,rfl⟩))
  |(go_at_call 36;go_must (refine HG.out.mono ?_;rintro e w1 ⟨rfl,hb1⟩)))
 go_ret
 exact⟨rfl,hb1⟩
theorem QE (hd:Nat)(hb:hd<65536)(w:World):(convert 70 9 (.slice (some ⟨w.heap.size,0,none⟩) 3 3)).run Tryz.prog (w.alloc (.cells #[.int .u8 1,.int .u8 ((hd:Int)%256),.int .u8 ((hd:Int)/256)] 5))= .ok (.string (strOf [1,UInt8.ofNat hd,UInt8.ofNat (hd/256)])) (w.alloc (.cells #[.int .u8 1,.int .u8 ((hd:Int)%256),.int .u8 ((hd:Int)/256)] 5)):=by
 have he:[Value.int .u8 1,.int .u8 ((hd:Int)%256),.int .u8 ((hd:Int)/256)]=aG [1,UInt8.ofNat hd,UInt8.ofNat (hd/256)]:=by
  simp[aG,eY]
  omega
 have hr:Row (w.alloc (.cells #[.int .u8 1,.int .u8 ((hd:Int)%256),.int .u8 ((hd:Int)/256)] 5)) w.heap.size 5 (aG [1,UInt8.ofNat hd,UInt8.ofNat (hd/256)]):=by
  rw[<-he];exact Row.new w _ _
 have hs:aY (w.alloc (.cells #[.int .u8 1,.int .u8 ((hd:Int)%256),.int .u8 ((hd:Int)/256)] 5)) fU 1 (.slice (some ⟨w.heap.size,0,none⟩) 3 3) [1,UInt8.ofNat hd,UInt8.ofNat (hd/256)].length (aG [1,UInt8.ofNat hd,UInt8.ofNat (hd/256)]):=by
  have:=hr.dh (S:=fU) (k:=1) (off:=0) 3 3 (by simp[aG]) id (aC _) (by simp[maxLen])
  rw[dN,aI (by simp[aG])] at this
  exact this
 exact hs.strOf
theorem G8 (t tr:Nat)(mp:VS)(root:Int)(ch:Bool)(σ:cK)(S:Nat->Prop)(w:World)(es l o r:List nU)(tb:List Int)(key value:ByteArray)(hT:Dt w S t tr mp σ root 0 ch 0)(hL:Live σ root es tb)(hA:zk es key l o r)(hl:es.length<=4090)(hg:1<=key.size/\key.size<=128)(hv:value.size<=63)(there:Bool)(was:ByteArray)(hget:(fF (kE es) key).isSome=there/\(fF (kE es) key).getD ByteArray.empty=was)(hno:there=true->(was.toList==value.toList)=false):
  Calls Tryz.prog 23 #[.pointer (some ⟨t,0,none⟩),.string key,.string value] w fun e w'=>(e= .returned (.int .i64 0)/\Eu t tr mp S σ es l r tb key value w w')\/
   (e= .returned (.int .i64 12)/\σ.most+nh σ tb<σ.sz+2*(es.length+1)+l7 value/\vJ t tr mp S σ ch w w'):=by
 have hne:=Ab hT.tx hT.tree
 have HU:=ah (uT t mp tr ch 0 key w hT.tx)
 have hu:jQ 0 key=0:=by unfold jQ;rw[if_neg (by simp),if_neg (by omega)]
 rw[hu] at HU
 have HG:=uV t tr mp root ch σ S w es l o r tb key hT hL hA hl hg
 rw[hget.1,hget.2] at HG
 have HG:=ah HG
 have x1:¬(49152:Int)<(value.size:Int):=by omega
 have x2:¬(63:Int)<(value.size:Int):=by omega
 have hb:l7 value=0:=if_pos hv
 have HBC:=ah hb
 have x0:=hv
 have HT:=ah hT
 have hl':(kC es).length<=4090:=by rw[gB];exact hl
 have hall:=hL.all
 have hnd:=hL.own.nd
 have hbo:∀x∈eO o,x∈eO es:=fun x hx=>by rw[hA.eq,jX,jX];simp[hx]
 have hcnt:=hL.tree.count
 rw[gB] at hcnt
 have hnh:=qF σ tb
 have hsum:(⟨#[0]⟩:ByteArray)++value=strOf (0::value.data.toList):=Cz value
 have hsz0:(strOf (0::value.data.toList)).size=value.size+1:=by show (0::value.data.toList).toArray.size=value.data.size+1;simp
 have hadd:∀W:World,(Op.stringOp .add (⟨#[0]⟩:ByteArray) value).run Tryz.prog W= .ok (.string (strOf (0::value.data.toList))) W:=fun W=>by rw[<-hsum];exact run_string_add W _ _ (by show ((1:Nat):Int)<=_;omega) (by omega)
 have HSZ:=ah hsz0;have HSUM:=ah hsum
 obtain⟨small,hsmall⟩:∃s,Hid (strOf (0::value.data.toList)=s):=⟨_,ah rfl⟩
 rw[hsmall.out] at hadd HSZ HSUM
 have HCNT:=ah (aD hcnt (aD hnh hb))
 clear hT hu hsum hsz0 hb hcnt hnh
 go_enter Tryz.func23,Tryz.ntmps23
 go_wp2_with (first
  |(go_at_call 59;go_must (refine HU.out.mono ?_;rintro e w1 ⟨rfl,rfl⟩))
  |(go_at_call 36;go_must (refine HG.out.mono ?_;rintro e w1 ⟨rfl,hb1⟩;refine Stop.of ?_)))
 refine Stop.on ?_
 have hT1:=HT.out.below hb1
 have hlt1:=(aj.1 hT1.tx).1
 have HD:=ah (Po t tr mp root ch 0 σ S w1 es l o r tb key hT1.tx hT1.inv hT1.tree hL hA hl hg)
 have HT1:=ah (aD hT1 hb1)
 clear hT1 hb1
 cases there
 all_goals
  try have hno:=hno rfl
  go_wp2_with (first
   |(go_at_call 60;go_must (refine HD.out.mono ?_;rintro e w2 ⟨rfl,σ1,hI1,hs1,hc1,htk1⟩;refine Stop.of ?_)))
  refine Stop.on ?_
  have hT2:Dt w2 S t tr mp σ1 root 0 ch 0:=⟨(hs1.1.block t hlt1 HT.out.nt).trans HT1.out.1.tx,(hs1.1.block tr (aj.1 HT1.out.1.tree).1 HT.out.ntr).trans HT1.out.1.tree,hI1,HT.out.nt,HT.out.ntr⟩
  have hTr1:xX σ1 root (kC es) tb:=hL.tree.keep hc1 (fun x hx=> .inl (fun e=>qZ hnd x (hbo x e) hx))
  have hlt2:=(aj.1 hT2.tx).1
  have HS2:=ah ((iX.of (t:=t) (tr:=tr) (Step.of_below (S:=S) HT1.out.2)).trans (iX.of hs1))
  have HC1:=ah hc1
  have HTR1:=ah hTr1
  clear hI1 hs1 hc1 hTr1
  have hc2:lX σ1 σ1 [] []:=lX.refl (fun x hx=>by cases hx)
  have hv2:ValAt σ1 small value []:= .inl ⟨hsmall.out.symm,x0,rfl⟩
  have HV2:=ah (aD hc2 hv2)
  clear hc2 hv2
  have HPT:=ah (Ff tr mp root σ1 S (kC es) tb key small w2 hT2.inv hT2.tree HT.out.ntr HTR1.out (dV.1 hnd).1 hl' ⟨hg,by have:=HSZ.out;omega⟩)
  have c2:World.cell? w2 ⟨t,2,none⟩=some (.pointer (some ⟨tr,0,none⟩)):=by simp[World.cell?,hT2.tx,dM]
  have HT2:=ah hT2
  clear hT2
  go_wp2_with (first
   |(go_at_call 63;go_must (refine HPT.out.mono ?_;rintro e w5 (⟨rfl,σ3,S3,b3,hI3,ht3,hst3,hP3,hk3,hn3⟩|⟨rfl,hlost,σ3,S3,hI3,ht3,hst3,hH3,hm3,hk3,hn3⟩)<;>refine Stop.of ?_)))
  ·refine Stop.on ?_
   have htx3:=(hk3.block t hlt2 (fun e=>e.elim HT.out.nt hne)).trans HT2.out.tx
   have hns3:¬S3 t:=fun e=>(hn3 t e).elim HT.out.nt (fun x=>absurd hlt2 (bn.2 x))
   have d3:w5.cell? ⟨t,3,none⟩=some (.bool ch):=by simp[World.cell?,htx3,dM]
   have f3:w5.frozen? ⟨t,3,none⟩=false:=by simp[World.frozen?,htx3]
   have hlt3:=(aj.1 htx3).1
   have HX3:=ah (aD htx3 (aD hI3 (aD ht3 (aD hk3 hn3))))
   have HP3:=ah hP3
   clear htx3 hI3 ht3 hk3 hn3 hP3
   go_wp2_with fail
   go_ret
   have hk4:Keep (· =t) w5 (w5.setCell ⟨t,3,none⟩ (.bool true)):=(Keep.refl (· =t) _).setCell (p:=⟨t,3,none⟩) (.inr rfl) _
   obtain⟨tb',hL',hC'⟩:=FD hL hA HC1.out HV2.out.1 HV2.out.2 HP3.out
   refine .inl ⟨rfl,σ3,S3,b3,tb',small,_,⟨?_,?_,HX3.out.2.1.oN hk4 (fun g hg e=>hns3 (e▸hg)),hns3,hst3⟩,hL',hC',?_,fun L r t0=> ?_,fun hc=> ?_⟩
   ·simp[World.setCell,bF,HX3.out.1]
    rfl
   ·exact(hk4.block tr (aj.1 HX3.out.2.2.1).1 (fun e=>hne e.symm)).trans HX3.out.2.2.1
   ·exact(HS2.out.trans (iX.tree HX3.out.2.2.2.1 HX3.out.2.2.2.2)).trans (iX.one hk4)
   ·obtain⟨_,_,_,hpk,_⟩:=HP3.out
    have hCC:=HC1.out.trans HV2.out.1
    have hsz:=hCC.size
    have hsz1:=HC1.out.size
    have hnl:=qF σ []
    have hcc:=HCNT.out
    have hz:nh σ []=0:=rfl
    have h0:nh σ []=0:=rfl
    rw[hcc.2.2] at r
    refine hpk L ?_ ?_
    ·unfold kK
     rw[xB hCC.H,gB]
     omega
    ·rw[htk1];exact t0
   ·obtain⟨_,_,_,_,hft⟩:=HP3.out
    have h0:=Gw HC1.out htk1
    have h2:=hft (by rw[hA.is small value [],gB];exact hc)
    exact(h0.trans h2).more (by omega)
  ·refine Stop.on ?_
   have htx3:=(hk3.block t hlt2 (fun e=>e.elim HT.out.nt hne)).trans HT2.out.tx
   have hns3:¬S3 t:=fun e=>(hn3 t e).elim HT.out.nt (fun x=>absurd hlt2 (bn.2 x))
   have HSP:=ah (G7 t mp (some tr) ch 0 12 w5 htx3)
   have HX3:=ah (aD htx3 (aD hI3 (aD ht3 (aD hk3 hn3))))
   have HLO:=ah (aD hlost (aD hH3 hm3))
   clear htx3 hI3 ht3 hk3 hn3 hlost hH3 hm3
   go_wp2_with (first
    |(go_at_call 61;go_must (refine HSP.out.mono ?_;rintro e w6 ⟨rfl,h6,hk6⟩)))
   go_ret
   have hCC:=HC1.out.trans HV2.out.1
   refine .inr ⟨rfl,?_,σ3,S3,root,12,⟨h6,(hk6.block tr (aj.1 HX3.out.2.2.1).1 (fun e=>hne e.symm)).trans HX3.out.2.2.1,HX3.out.2.1.oN hk6 (fun g hg e=>hns3 (e▸hg)),hns3,hst3⟩,HLO.out.2.1.trans hCC.H,HLO.out.2.2.trans hCC.most,(HS2.out.trans (iX.tree HX3.out.2.2.2.1 HX3.out.2.2.2.2)).trans (iX.one hk6)⟩
   have hno3:=HLO.out.1
   have hsz:=hCC.size
   have hnl:=qF σ []
   unfold Room at hno3
   rw[xB hCC.H,hCC.most,gB] at hno3
   have hcc:=HCNT.out
   have h0:nh σ []=0:=rfl
   rw[hcc.2.2]
   omega
theorem Kc (t tr:Nat)(mp:VS)(root:Int)(ch:Bool)(σ:cK)(S:Nat->Prop)(w:World)(es l o r:List nU)(tb:List Int)(key value:ByteArray)(hT:Dt w S t tr mp σ root 0 ch 0)(hL:Live σ root es tb)(hA:zk es key l o r)(hl:es.length<=4090)(hg:1<=key.size/\key.size<=128)(hv:63<value.size/\value.size<=49152)(there:Bool)(was:ByteArray)(hget:(fF (kE es) key).isSome=there/\(fF (kE es) key).getD ByteArray.empty=was)(hno:there=true->(was.toList==value.toList)=false):
  Calls Tryz.prog 23 #[.pointer (some ⟨t,0,none⟩),.string key,.string value] w fun e w'=>(e= .returned (.int .i64 0)/\Eu t tr mp S σ es l r tb key value w w')\/
   (e= .returned (.int .i64 12)/\σ.most+nh σ tb<σ.sz+2*(es.length+1)+l7 value/\vJ t tr mp S σ ch w w'):=by
 have hne:=Ab hT.tx hT.tree
 have HU:=ah (uT t mp tr ch 0 key w hT.tx)
 have hu:jQ 0 key=0:=by unfold jQ;rw[if_neg (by simp),if_neg (by omega)]
 rw[hu] at HU
 have HG:=uV t tr mp root ch σ S w es l o r tb key hT hL hA hl hg
 rw[hget.1,hget.2] at HG
 have HG:=ah HG
 have x1:¬(49152:Int)<(value.size:Int):=by omega
 have x2:(63:Int)<(value.size:Int):=by omega
 have hb:l7 value=1+sQ value.size:=if_neg (by omega)
 have HBC:=ah hb
 have HT:=ah hT
 have hl':(kC es).length<=4090:=by rw[gB];exact hl
 have hall:=hL.all
 have hnd:=hL.own.nd
 have hbo:∀x∈eO o,x∈eO es:=fun x hx=>by rw[hA.eq,jX,jX];simp[hx]
 have hcnt:=hL.tree.count
 rw[gB] at hcnt
 have hnh:=qF σ tb
 have hsum:(⟨#[0]⟩:ByteArray)++value=strOf (0::value.data.toList):=Cz value
 have hsz0:(strOf (0::value.data.toList)).size=value.size+1:=by show (0::value.data.toList).toArray.size=value.data.size+1;simp
 have hadd:∀W:World,(Op.stringOp .add (⟨#[0]⟩:ByteArray) value).run Tryz.prog W= .ok (.string (strOf (0::value.data.toList))) W:=fun W=>by rw[<-hsum];exact run_string_add W _ _ (by show ((1:Nat):Int)<=_;omega) (by omega)
 have HSZ:=ah hsz0;have HSUM:=ah hsum
 obtain⟨small,hsmall⟩:∃s,Hid (strOf (0::value.data.toList)=s):=⟨_,ah rfl⟩
 rw[hsmall.out] at hadd HSZ HSUM
 have HCNT:=ah (aD hcnt (aD hnh hb))
 clear hT hu hsum hsz0 hb hcnt hnh
 go_enter Tryz.func23,Tryz.ntmps23
 go_wp2_with (first
  |(go_at_call 59;go_must (refine HU.out.mono ?_;rintro e w1 ⟨rfl,rfl⟩))
  |(go_at_call 36;go_must (refine HG.out.mono ?_;rintro e w1 ⟨rfl,hb1⟩;refine Stop.of ?_)))
 refine Stop.on ?_
 have hT1:=HT.out.below hb1
 have hlt1:=(aj.1 hT1.tx).1
 have HD:=ah (Po t tr mp root ch 0 σ S w1 es l o r tb key hT1.tx hT1.inv hT1.tree hL hA hl hg)
 have HT1:=ah (aD hT1 hb1)
 clear hT1 hb1
 cases there
 all_goals
  try have hno:=hno rfl
  go_wp2_with (first
   |(go_at_call 60;go_must (refine HD.out.mono ?_;rintro e w2 ⟨rfl,σ1,hI1,hs1,hc1,htk1⟩;refine Stop.of ?_)))
  refine Stop.on ?_
  have hT2:Dt w2 S t tr mp σ1 root 0 ch 0:=⟨(hs1.1.block t hlt1 HT.out.nt).trans HT1.out.1.tx,(hs1.1.block tr (aj.1 HT1.out.1.tree).1 HT.out.ntr).trans HT1.out.1.tree,hI1,HT.out.nt,HT.out.ntr⟩
  have hTr1:xX σ1 root (kC es) tb:=hL.tree.keep hc1 (fun x hx=> .inl (fun e=>qZ hnd x (hbo x e) hx))
  have hlt2:=(aj.1 hT2.tx).1
  have HS2:=ah ((iX.of (t:=t) (tr:=tr) (Step.of_below (S:=S) HT1.out.2)).trans (iX.of hs1))
  have HC1:=ah hc1
  have HTR1:=ah hTr1
  clear hI1 hs1 hc1 hTr1
  have c0:w2.cell? ⟨t,0,none⟩=some (.pointer (some ⟨mp.tx,0,none⟩)):=by simp[World.cell?,hT2.tx,dM]
  have c1:w2.cell? ⟨t,1,none⟩=some (.pointer (some ⟨mp.mp,0,none⟩)):=by simp[World.cell?,hT2.tx,dM]
  have HW:=ah (QG mp σ1 S w2 value hT2.inv (by omega) (by omega))
  have HT2':=ah hT2
  clear hT2
  go_wp2_with (first
   |(go_at_call 62;go_must (refine HW.out.mono ?_;rintro e w3 (⟨hd,rs,σ2,rfl,hB2,hC2,htk2,hI2,hs2⟩|⟨rfl,hlow,σ2,hI2,hs2,hH2,hm2⟩)<;>refine Stop.of ?_)))
  ·refine Stop.on ?_
   have hT3:Dt w3 S t tr mp σ2 root 0 ch 0:=⟨(hs2.1.block t hlt2 HT.out.nt).trans HT2'.out.tx,(hs2.1.block tr (aj.1 HT2'.out.tree).1 HT.out.ntr).trans HT2'.out.tree,hI2,HT.out.nt,HT.out.ntr⟩
   have hlt3:=(aj.1 hT3.tx).1
   have hdm:hd<65536:=by
    obtain⟨n,q1,q2,_⟩:=cK.kF hB2.hd.has
    have:=hI2.cap
    omega
   have hlen:(jF hd rs).length=1+sQ value.size:=by
    have e1:=hB2.hd.len
    have e2:value.data.toList.length=value.size:=by show value.data.toList.length=value.data.size;simp
    rw[e2] at e1
    simp[jF,e1];omega
   have HLEN:=ah hlen
   have HV2:=ah (aD hC2 (show ValAt σ2 (strOf [1,UInt8.ofNat hd,UInt8.ofNat (hd/256)]) value (jF hd rs) from .inr ⟨hd,rs,rfl,⟨hdm,hv.1⟩,hB2,rfl⟩))
   have HTR2:=ah (HTR1.out.keep hC2 (fun x _=> .inl (by simp)))
   have HS3:=ah (HS2.out.trans (iX.of hs2))
   clear hsmall HSZ HSUM hadd
   have HCV:=ah (QE hd hdm w3)
   have q1:IntKind.i64.wrap ((hd:Int)/256)=(hd:Int)/256:=aH _ (by omega)
   have HTK2:=ah htk2
   clear hlen hC2 hB2 hI2 hs2 htk2
   go_upto_region 17 with (fail)
   have hcv:=HCV.out
   go_upto_region 18 with (fail)
   obtain⟨small,hsmall⟩:∃s,Hid (strOf [1,UInt8.ofNat hd,UInt8.ofNat (hd/256)]=s):=⟨_,ah rfl⟩
   rw[hsmall.out] at HV2 ⊢
   have HSZ:=ah (show small.size=3 by rw[<-hsmall.out];rfl)
   clear hcv HCV
   obtain⟨w4,hw4,hb4⟩:∃w4,w4=w3.alloc (.cells #[.int .u8 1,.int .u8 ((hd:Int)%256),.int .u8 ((hd:Int)/256)] 5)/\Below w3.heap.size w3 w4:=⟨_,rfl,aN _ _⟩
   rw[<-hw4]
   have hT4:=hT3.below hb4
   have HS4:=ah (HS3.out.trans (iX.of (Step.of_below (S:=S) hb4)))
   have hlt4:=(aj.1 hT4.tx).1
   clear hT3 hw4 hb4
   have HPT:=ah (Ff tr mp root σ2 S (kC es) tb key small w4 hT4.inv hT4.tree HT.out.ntr HTR2.out (dV.1 hnd).1 hl' ⟨hg,by have:=HSZ.out;omega⟩)
   have c2:World.cell? w4 ⟨t,2,none⟩=some (.pointer (some ⟨tr,0,none⟩)):=by simp[World.cell?,hT4.tx,dM]
   have HT2:=ah hT4
   clear hT4
   go_wp2_with (first
    |(go_at_call 63;go_must (refine HPT.out.mono ?_;rintro e w5 (⟨rfl,σ3,S3,b3,hI3,ht3,hst3,hP3,hk3,hn3⟩|⟨rfl,hlost,σ3,S3,hI3,ht3,hst3,hH3,hm3,hk3,hn3⟩)<;>refine Stop.of ?_)))
   ·refine Stop.on ?_
    have htx3:=(hk3.block t hlt4 (fun e=>e.elim HT.out.nt hne)).trans HT2.out.tx
    have hns3:¬S3 t:=fun e=>(hn3 t e).elim HT.out.nt (fun x=>absurd hlt4 (bn.2 x))
    have d3:w5.cell? ⟨t,3,none⟩=some (.bool ch):=by simp[World.cell?,htx3,dM]
    have f3:w5.frozen? ⟨t,3,none⟩=false:=by simp[World.frozen?,htx3]
    have hlt3:=(aj.1 htx3).1
    have HX3:=ah (aD htx3 (aD hI3 (aD ht3 (aD hk3 hn3))))
    have HP3:=ah hP3
    clear htx3 hI3 ht3 hk3 hn3 hP3
    go_wp2_with fail
    go_ret
    have hk4:Keep (· =t) w5 (w5.setCell ⟨t,3,none⟩ (.bool true)):=(Keep.refl (· =t) _).setCell (p:=⟨t,3,none⟩) (.inr rfl) _
    obtain⟨tb',hL',hC'⟩:=FD hL hA HC1.out HV2.out.1 HV2.out.2 HP3.out
    refine .inl ⟨rfl,σ3,S3,b3,tb',small,_,⟨?_,?_,HX3.out.2.1.oN hk4 (fun g hg e=>hns3 (e▸hg)),hns3,hst3⟩,hL',hC',?_,fun L r t0=> ?_,fun hc=> ?_⟩
    ·simp[World.setCell,bF,HX3.out.1]
     rfl
    ·exact(hk4.block tr (aj.1 HX3.out.2.2.1).1 (fun e=>hne e.symm)).trans HX3.out.2.2.1
    ·exact(HS4.out.trans (iX.tree HX3.out.2.2.2.1 HX3.out.2.2.2.2)).trans (iX.one hk4)
    ·obtain⟨_,_,_,hpk,_⟩:=HP3.out
     have hCC:=HC1.out.trans HV2.out.1
     have hsz:=hCC.size
     have hsz1:=HC1.out.size
     have hnl:=qF σ (jF hd rs)
     have hcc:=HCNT.out
     have hz:nh σ []=0:=rfl
     have hle:=HLEN.out
     rw[hcc.2.2] at r
     refine hpk L ?_ ?_
     ·unfold kK
      rw[xB hCC.H,gB]
      omega
     ·have e1:=HTK2.out;have e2:value.data.toList.length=value.size:=(by show value.data.toList.length=value.data.size;simp);rw[e2,htk1] at e1;omega
    ·obtain⟨_,_,_,_,hft⟩:=HP3.out
     have h0:=Gw HC1.out htk1
     have h2:=hft (by rw[hA.is small value (jF hd rs),gB];exact hc)
     have e2:value.data.toList.length=value.size:=by show value.data.toList.length=value.data.size;simp
     have e1:=HTK2.out
     rw[e2] at e1
     have hcc:=HCNT.out
     have hs2:=HV2.out.1.size
     have hn1:=qF σ1 (jF hd rs)
     have hz:nh σ1 []=0:=rfl
     have hle:=HLEN.out
     have h1:zC σ1 σ2 (l7 value):=⟨by omega,fun L r t=>by omega⟩
     exact((h0.trans h1).trans h2).more (by omega)
   ·refine Stop.on ?_
    have htx3:=(hk3.block t hlt4 (fun e=>e.elim HT.out.nt hne)).trans HT2.out.tx
    have hns3:¬S3 t:=fun e=>(hn3 t e).elim HT.out.nt (fun x=>absurd hlt4 (bn.2 x))
    have HSP:=ah (G7 t mp (some tr) ch 0 12 w5 htx3)
    have HX3:=ah (aD htx3 (aD hI3 (aD ht3 (aD hk3 hn3))))
    have HLO:=ah (aD hlost (aD hH3 hm3))
    clear htx3 hI3 ht3 hk3 hn3 hlost hH3 hm3
    go_wp2_with (first
     |(go_at_call 61;go_must (refine HSP.out.mono ?_;rintro e w6 ⟨rfl,h6,hk6⟩)))
    go_ret
    have hCC:=HC1.out.trans HV2.out.1
    refine .inr ⟨rfl,?_,σ3,S3,root,12,⟨h6,(hk6.block tr (aj.1 HX3.out.2.2.1).1 (fun e=>hne e.symm)).trans HX3.out.2.2.1,HX3.out.2.1.oN hk6 (fun g hg e=>hns3 (e▸hg)),hns3,hst3⟩,HLO.out.2.1.trans hCC.H,HLO.out.2.2.trans hCC.most,(HS4.out.trans (iX.tree HX3.out.2.2.2.1 HX3.out.2.2.2.2)).trans (iX.one hk6)⟩
    have hno3:=HLO.out.1
    have hsz:=hCC.size
    have hnl:=qF σ (jF hd rs)
    unfold Room at hno3
    rw[xB hCC.H,hCC.most,gB] at hno3
    have hcc:=HCNT.out
    have hle:=HLEN.out
    rw[hcc.2.2]
    omega
  ·refine Stop.on ?_
   have htx3:=(hs2.1.block t hlt2 HT.out.nt).trans HT2'.out.tx
   have HSP:=ah (G7 t mp (some tr) ch 0 12 w3 htx3)
   have htr3:=(hs2.1.block tr (aj.1 HT2'.out.tree).1 HT.out.ntr).trans HT2'.out.tree
   have HX3:=ah (aD hI2 (aD hs2 (aD htr3 (aD hlow (aD hH2 hm2)))))
   clear htx3 hI2 hs2 hlow hH2 hm2 htr3
   go_wp2_with (first
    |(go_at_call 61;go_must (refine HSP.out.mono ?_;rintro e w6 ⟨rfl,h6,hk6⟩)))
   go_ret
   refine .inr ⟨rfl,?_,σ2,S,root,0,⟨h6,(hk6.block tr (aj.1 HX3.out.2.2.1).1 (fun e=>hne e.symm)).trans HX3.out.2.2.1,HX3.out.1.oN hk6 (fun g hg e=>HT.out.nt (e▸hg)),HT.out.nt,HT.out.ntr⟩,HX3.out.2.2.2.2.1.trans HC1.out.H,HX3.out.2.2.2.2.2.trans HC1.out.most,(HS2.out.trans (iX.of HX3.out.2.1)).trans (iX.one hk6)⟩
   have hlo:=HX3.out.2.2.2.1
   have hsz:=HC1.out.size
   have hmo:=HC1.out.most
   have hcc:=HCNT.out
   have e2:value.data.toList.length=value.size:=by show value.data.toList.length=value.data.size;simp
   rw[e2] at hlo
   rw[hcc.2.2]
   have:nh σ []=0:=rfl
   omega
theorem Mk (t tr:Nat)(mp:VS)(ch:Bool)(er:Int)(σ:cK)(S:Nat->Prop)(u:FrameMode)(w:World)(h:w.heap[t]? =some (.cells (dM mp (some tr) ch er) 100 (0,0)))(hI:Inv σ S mp w)(hns:¬S t):
  CallsD Tryz.prog 31 #[.pointer (some ⟨t,0,none⟩)] u w fun e u' w'=>u'=u/\e= .returned (.tuple #[])/\(∃Sp,je w' Sp mp.pg mp.d σ.H.dk σ.H.lg σ.H.pg (.pointer none)/\∀g,Sp g->S g)/\w'.heap[t]? =some (.cells (dM mp none ch er) 100 (0,0))/\Keep (fun g=>S g\/g=t) w w':=by
 obtain⟨Sp,T,hI,hS⟩:=hI
 have c0:w.cell? ⟨t,0,none⟩=some (.pointer (some ⟨mp.tx,0,none⟩)):=by simp[World.cell?,h,dM]
 have c2:w.cell? ⟨t,2,none⟩=some (.pointer (some ⟨tr,0,none⟩)):=by simp[World.cell?,h,dM]
 have hlt:=(aj.1 h).1
 have HT:=ah (Qc mp.tx mp.pg mp.d _ _ _ _ _ _ Sp T w hI.pg hI.tx hI.dis)
 have HH:=ah h
 have HS:=ah hS
 have hn1:¬Sp t:=fun x=>hns ((hS t).2 (.inl x))
 have hn2:¬T t:=fun x=>hns ((hS t).2 (.inr (.inl x)))
 clear h hI hS
 go_enter_d Tryz.func31,Tryz.ntmps31
 go_wp2_with (first
  |(go_at_call 56;go_must (refine HT.out.mono ?_;rintro e w2 ⟨rfl,hp2,_,hk2⟩;refine Stop.of ?_)))
 refine Stop.on ?_
 have h2:=(hk2.block t hlt (fun e=>e.elim hn1 hn2)).trans HH.out
 have hlt2:=(aj.1 h2).1
 have d2:w2.cell? ⟨t,2,none⟩=some (.pointer (some ⟨tr,0,none⟩)):=by simp[World.cell?,h2,dM]
 have f2:w2.frozen? ⟨t,2,none⟩=false:=by simp[World.frozen?,h2]
 have HH2:=ah h2
 clear h2
 go_wp2_with fail
 go_end0
 have hk3:Keep (· =t) w2 (w2.setCell ⟨t,2,none⟩ (.pointer none)):=(Keep.refl (· =t) _).setCell (p:=⟨t,2,none⟩) (.inr rfl) _
 refine⟨rfl,⟨Sp,hp2.keep hk3 (fun g hg e=>hn1 (e▸hg)),fun g hg=>(HS.out g).2 (.inl hg)⟩,?_,?_⟩
 ·simp[World.setCell,bF,HH2.out]
  rfl
 ·exact(hk2.mono (fun g _ e=> .inl ((HS.out g).2 (e.imp id .inl)))).trans (hk3.mono (fun g _ e=> .inr e)) (fun _ _ e=>e)
theorem pI (t tr:Nat)(mp:VS)(ch:Bool)(er:Int)(u:FrameMode)(w:World)(h:w.heap[t]? =some (.cells (dM mp (some tr) ch er) 100 (0,0)))(hE:Gz w mp.tx):
  CallsD Tryz.prog 31 #[.pointer (some ⟨t,0,none⟩)] u w fun e u' w'=>u'=u/\e= .returned (.tuple #[])/\w'.heap[t]? =some (.cells (dM mp none ch er) 100 (0,0))/\Keep (· =t) w w':=by
 have c0:w.cell? ⟨t,0,none⟩=some (.pointer (some ⟨mp.tx,0,none⟩)):=by simp[World.cell?,h,dM]
 have c2:w.cell? ⟨t,2,none⟩=some (.pointer (some ⟨tr,0,none⟩)):=by simp[World.cell?,h,dM]
 have f2:w.frozen? ⟨t,2,none⟩=false:=by simp[World.frozen?,h]
 have hlt:=(aj.1 h).1
 have HT:=ah (Hu mp.tx w hE)
 have HH:=ah h
 clear h hE
 go_enter_d Tryz.func31,Tryz.ntmps31
 go_wp2_with (first
  |(go_at_call 56;go_must (refine HT.out.mono ?_;rintro e w2 ⟨rfl,hw2⟩;subst w2)))
 go_end0
 refine⟨rfl,?_,(Keep.refl (· =t) _).setCell (p:=⟨t,2,none⟩) (.inr rfl) _⟩
 simp[World.setCell,bF,HH.out]
 rfl
theorem uD (f:Nat->Bool):(bytesOf f).length=512:=by
 have:=gu f
 rwa [bL] at this
theorem Qs (mp:VS)(σ:cK)(S:Nat->Prop)(w:World)(h:Inv σ S mp w):
  Calls Tryz.prog 67 #[.pointer (some ⟨mp.mp,0,none⟩),.iface 89 (.pointer (some ⟨mp.tx,0,none⟩))] w fun e w'=>e= .returned (.int .i64 0)/\Inv (σ.wrote 0 (bytesOf σ.now)) S mp w'/\Step S S w w':=by
 obtain⟨Sp,T,h,hS⟩:=h
 have hm:=h.ok.most
 have h2:=h.ok.two
 have htx:=h.tx
 rw[hm] at htx
 refine(Ox mp.tx mp.pg mp.d mp.mp σ.most σ.now σ.H.old σ.H.dk σ.H.lg σ.H.pg _ σ.im Sp T w h.pg htx h.ok.live (by omega) h.map).mono ?_
 rintro e w' ⟨rfl,ht,hs⟩
 rw[<-hm] at ht
 exact⟨rfl,⟨Sp,T,⟨h.ok.wrote 0 (bytesOf σ.now) (uD _) (by omega) (.inl (by omega)),h.pg.keep hs.1 (fun g hg e=>h.dis g hg e),ht,h.map.keep (hs.1.block _ h.map.lt h.mpT),h.dis,h.mpS,h.mpT⟩,hS⟩,hs.1.mono (fun g _ e=>(hS g).2 (.inr (.inl e))),fun g hg=> .inl hg⟩
theorem JH (mp:VS)(σ:cK)(S:Nat->Prop)(w:World)(h:Inv σ S mp w)(hld:σ.H.lg.dead=false)(hcap:σ.H.dk.waits.length<=90000)(hll:σ.H.lg.last<1000000000000):
  Calls Tryz.prog 43 #[.pointer (some ⟨mp.tx,0,none⟩)] w fun e w'=>e= .returned (.tuple #[.int .i64 (σ.H.pg.commit σ.H.dk σ.H.lg σ.im).2.2.2.1,.int .i64 (σ.H.pg.commit σ.H.dk σ.H.lg σ.im).2.2.2.2])/\
   ∃S',je w' S' mp.pg mp.d (σ.H.pg.commit σ.H.dk σ.H.lg σ.im).1 (σ.H.pg.commit σ.H.dk σ.H.lg σ.im).2.1 (σ.H.pg.commit σ.H.dk σ.H.lg σ.im).2.2.1 (.pointer none)/\Gz w' mp.tx/\Step S S' w w':=by
 obtain⟨Sp,T,h,hS⟩:=h
 have hm:=h.ok.most
 have htx:=h.tx
 rw[hm] at htx
 refine(JA mp.tx mp.pg mp.d σ.H.dk σ.H.lg σ.H.pg _ σ.im Sp T w h.pg htx h.dis h.ok.live hld hcap hll).mono ?_
 rintro e w' ⟨rfl,S',hp,hE,hs⟩
 refine⟨rfl,S',hp,hE,hs.1.mono (fun g _ e=>(hS g).2 (e.imp id .inl)),fun g hg=> ?_⟩
 exact(hs.2 g (.inl hg)).imp (fun e=>(hS g).2 (e.imp id .inl)) id
def qw (t:Nat)(mp:VS)(S:Nat->Prop)(σ:cK)(ch:Bool)(im:Im)(w:World)(e:Ending)(w':World):Prop:=
 e= .returned (.tuple (if (σ.H.pg.commit σ.H.dk σ.H.lg im).2.2.2.2=0 then #[.int .i64 (((σ.H.pg.commit σ.H.dk σ.H.lg im).2.2.2.1:Int) - 1),.int .i64 0] else #[.int .i64 0,.int .i64 (σ.H.pg.commit σ.H.dk σ.H.lg im).2.2.2.2]))/\
 ∃S',je w' S' mp.pg mp.d (σ.H.pg.commit σ.H.dk σ.H.lg im).1 (σ.H.pg.commit σ.H.dk σ.H.lg im).2.1 (σ.H.pg.commit σ.H.dk σ.H.lg im).2.2.1 (.pointer none)/\w'.heap[t]? =some (.cells (dM mp none ch 0) 100 (0,0))/\¬S' t/\Keep (fun g=>S g\/g=t) w w'/\∀g,S' g->S g\/w.heap.size<=g
theorem DF (t tr:Nat)(mp:VS)(root:Int)(σ:cK)(S:Nat->Prop)(w:World)(hT:Dt w S t tr mp σ root 0 false 0)(hld:σ.H.lg.dead=false)(hcap:σ.H.dk.waits.length<=90000)(hll:σ.H.lg.last<1000000000000)(hk:(σ.H.pg.commit σ.H.dk σ.H.lg σ.im).2.2.2.1<=1000000000000):
  Calls Tryz.prog 25 #[.pointer (some ⟨t,0,none⟩)] w (qw t mp S σ false σ.im w):=by
 have HU:=ah (uT t mp tr false 0 ⟨#[107]⟩ w hT.tx)
 have hu:jQ 0 (⟨#[107]⟩:ByteArray)=0:=by decide
 rw[hu] at HU
 have HC:=JH mp σ S w hT.inv hld hcap hll
 unfold qw
 generalize hcm:σ.H.pg.commit σ.H.dk σ.H.lg σ.im=R at HC hk ⊢
 obtain⟨σ',l',p',k,q⟩:=R
 dsimp only at HC hk ⊢
 have HC:=ah HC
 have c0:w.cell? ⟨t,0,none⟩=some (.pointer (some ⟨mp.tx,0,none⟩)):=by simp[World.cell?,hT.tx,dM]
 have c3:w.cell? ⟨t,3,none⟩=some (.bool false):=by simp[World.cell?,hT.tx,dM]
 have hlt:=(aj.1 hT.tx).1
 have q1:IntKind.i64.wrap ((k:Int) - 1)=(k:Int) - 1:=aH _ (by omega)
 have HT:=ah hT
 clear hT hu hcm
 by_cases hq:q=0
 ·subst hq
  go_enter_defers Tryz.func25,Tryz.ntmps25
  go_wp2_with (first
   |(go_at_call 59;go_must (refine HU.out.mono ?_;rintro e w1 ⟨hw1,rfl⟩;subst w1))
   |(go_at_call 43;go_must (refine HC.out.mono ?_;rintro e w1 ⟨rfl,S1,hp1,hE1,hs1⟩)))
  have htx1:=(hs1.1.block t hlt HT.out.nt).trans HT.out.tx
  have hn1:¬S1 t:=fun e=>(hs1.2 t e).elim HT.out.nt (fun x=>absurd hlt (bn.2 x))
  refine iW (f:=31) (args:=#[.pointer (some ⟨t,0,none⟩)]) (by simp) (by simp[go_sem]) ?_
  refine(pI t tr mp false 0 _ _ htx1 hE1).mono ?_
  rintro e u' w2 ⟨rfl,rfl,h2,hk2⟩
  exact⟨_,by simp[results,GU,go_sem],rfl,S1,hp1.keep hk2 (fun g hg e=>hn1 (e▸hg)),h2,hn1,(hs1.1.mono (fun g _ e=> .inl e)).trans (hk2.mono (fun g _ e=> .inr e)) (fun _ _ e=>e),hs1.2⟩
 ·have hq':(q !=0)=true:=by simpa using hq
  go_enter_defers Tryz.func25,Tryz.ntmps25
  go_wp2_with (first
   |(go_at_call 59;go_must (refine HU.out.mono ?_;rintro e w1 ⟨hw1,rfl⟩;subst w1))
   |(go_at_call 43;go_must (refine HC.out.mono ?_;rintro e w1 ⟨rfl,S1,hp1,hE1,hs1⟩)))
  have htx1:=(hs1.1.block t hlt HT.out.nt).trans HT.out.tx
  have hn1:¬S1 t:=fun e=>(hs1.2 t e).elim HT.out.nt (fun x=>absurd hlt (bn.2 x))
  refine iW (f:=31) (args:=#[.pointer (some ⟨t,0,none⟩)]) (by simp) (by simp[go_sem]) ?_
  refine(pI t tr mp false 0 _ _ htx1 hE1).mono ?_
  rintro e u' w2 ⟨rfl,rfl,h2,hk2⟩
  exact⟨.tuple #[.int .i64 0,.int .i64 q],by simp[results,GU,go_sem],rfl,S1,hp1.keep hk2 (fun g hg e=>hn1 (e▸hg)),h2,hn1,(hs1.1.mono (fun g _ e=> .inl e)).trans (hk2.mono (fun g _ e=> .inr e)) (fun _ _ e=>e),hs1.2⟩
theorem yR {R:Ending->World->Prop}{d:Nat}(h2:d≠2)(h3:d≠3){c:List PanicEntry}{a:Act}{v:Value}{w:World}(h:bodyPostD Tryz.prog Tryz.f25 R (.panic c) (a.put (some d) v) w):bodyPostD Tryz.prog Tryz.f25 R (.panic c) a w:=by
 refine qH ?_ _ _ _ (show Leaves Tryz.prog Tryz.f25 (a.tmps.setIfInBounds d v) R a.defers (.panicking c) w from h)
 unfold results
 rw[GU]
 simp[Array.getD_eq_getD_getElem?,Rz,h2,h3]
def nK (root:Nat):List UInt8:=[UInt8.ofNat root,UInt8.ofNat (root/256)]
theorem Ij (root:Nat)(hb:root<65536)(w:World):fJ (w.alloc (.cells #[.int .u8 ((root:Int)%256),.int .u8 ((root:Int)/256)] 5)) fU (.slice (some ⟨w.heap.size,0,none⟩) 2 2) (nK root):=by
 have he:[Value.int .u8 ((root:Int)%256),.int .u8 ((root:Int)/256)]=aG (nK root):=by
  simp[nK,aG,eY]
  omega
 have hr:Row (w.alloc (.cells #[.int .u8 ((root:Int)%256),.int .u8 ((root:Int)/256)] 5)) w.heap.size 5 (aG (nK root)):=by
  rw[<-he];exact Row.new w _ _
 have:=hr.dh (S:=fU) (k:=1) (off:=0) 2 2 (by simp[aG,nK]) id (aC _) (by simp[maxLen])
 rw[dN,aI (by simp[aG,nK])] at this
 exact this
def cK.sealed (σ:cK)(root:Nat):cK:=(σ.wrote 1 (pad (nK root))).wrote 0 (bytesOf σ.now)
theorem DC (t tr:Nat)(mp:VS)(root:Nat)(σ:cK)(S:Nat->Prop)(w:World)(hT:Dt w S t tr mp σ root 0 true 0)(hr:root<=4096)(hld:σ.H.lg.dead=false)(hcap:σ.H.dk.waits.length<=90000)(hll:σ.H.lg.last<1000000000000)(hk:(σ.H.pg.commit σ.H.dk σ.H.lg (σ.sealed root).im).2.2.2.1<=1000000000000):
  Calls Tryz.prog 25 #[.pointer (some ⟨t,0,none⟩)] w (qw t mp S σ true (σ.sealed root).im w):=by
 have HU:=ah (uT t mp tr true 0 ⟨#[107]⟩ w hT.tx)
 have hu:jQ 0 (⟨#[107]⟩:ByteArray)=0:=by decide
 rw[hu] at HU
 have HR:=ah (O0 tr mp root 0 w hT.tree)
 have hb1:=aN w (.cells #[.int .u8 ((root:Int)%256),.int .u8 ((root:Int)/256)] 5)
 have h2:=hT.inv.ok.two
 have HW:=ah (uQ mp σ S _ 1 _ (nK root) (hT.inv.below hb1) (by omega) (Ij root (by omega) w) (by simp[nK]) (.inl (by omega)))
 have HB1:=ah hb1
 have q0:IntKind.i64.wrap ((root:Int)/256)=(root:Int)/256:=aH _ (by omega)
 have c0:w.cell? ⟨t,0,none⟩=some (.pointer (some ⟨mp.tx,0,none⟩)):=by simp[World.cell?,hT.tx,dM]
 have c2:w.cell? ⟨t,2,none⟩=some (.pointer (some ⟨tr,0,none⟩)):=by simp[World.cell?,hT.tx,dM]
 have c3:w.cell? ⟨t,3,none⟩=some (.bool true):=by simp[World.cell?,hT.tx,dM]
 have hlt:=(aj.1 hT.tx).1
 have HT:=ah hT
 clear hT hu hb1
 go_enter_defers Tryz.func25,Tryz.ntmps25
 go_wp2_with (first
  |(go_at_call 59;go_must (refine HU.out.mono ?_;rintro e w1 ⟨hw1,rfl⟩;subst w1))
  |(go_at_call 65;go_must (refine HR.out.mono ?_;rintro e w1 ⟨rfl,hw1⟩;subst w1))
  |(go_at_call 66;go_must (refine HW.out.mono ?_;rintro e w1 ⟨rfl,hI1,hs1⟩;refine Stop.of ?_)))
 refine Stop.on ?_
 have hbs:Step S S w w1:=(Step.of_below HB1.out).trans hs1
 have htx1:=(hbs.1.block t hlt HT.out.nt).trans HT.out.tx
 have hlt1:=(aj.1 htx1).1
 have d0:w1.cell? ⟨t,0,none⟩=some (.pointer (some ⟨mp.tx,0,none⟩)):=by simp[World.cell?,htx1,dM]
 have d1:w1.cell? ⟨t,1,none⟩=some (.pointer (some ⟨mp.mp,0,none⟩)):=by simp[World.cell?,htx1,dM]
 have HST:=Qs mp (σ.wrote 1 (pad (nK root))) S w1.drew (hI1.below ((aQ _ w1).drew))
 have hse:(σ.wrote 1 (pad (nK root))).wrote 0 (bytesOf (σ.wrote 1 (pad (nK root))).now)=σ.sealed root:=rfl
 rw[hse] at HST
 have HST:=ah HST
 have HX1:=ah (aD htx1 hbs)
 clear htx1 hbs hse hI1 hs1
 go_upto_region 11 with (fail)
 refine aO (fun W=>W.cell? ⟨t,0,none⟩=some (.pointer (some ⟨mp.tx,0,none⟩))/\W.cell? ⟨t,1,none⟩=some (.pointer (some ⟨mp.mp,0,none⟩))/\t<W.heap.size) (fun i=> !([11].contains i)) [0,1,2,3,4,5,6,7,8,9,10,11,12] rfl (by kernel_rfl) ⟨d0,d1,hlt1⟩ ?_
 repeat ((refine bM (v:= ?_) rfl rfl ?_ rfl (fun W hW=> ?_) ?_);rotate_left;(focus (exact fun c a w h=>yR (by decide) (by decide) h));(focus ((try dsimp only at hW);obtain⟨a0,a1,a2⟩:=hW;(go_simp;first|done|with_reducible rfl)));(try simp only[Act.put,ai,au,ak]))
 refine dF rfl rfl rfl ?_;intro K hK;go_simp
 refine HST.out.mono ?_;rintro e w2 ⟨rfl,hI2,hs2⟩
 have htx2:=(hs2.1.block t hlt1 HT.out.nt).trans HX1.out.1
 have hlt2:=(aj.1 htx2).1
 have g0:w2.cell? ⟨t,0,none⟩=some (.pointer (some ⟨mp.tx,0,none⟩)):=by simp[World.cell?,htx2,dM]
 have g1:w2.cell? ⟨t,1,none⟩=some (.pointer (some ⟨mp.mp,0,none⟩)):=by simp[World.cell?,htx2,dM]
 refine hK.out _ _ ⟨g0,g1,hlt2⟩ ?_
 (try simp only[Act.put,ai,au,ak])
 repeat ((refine bM (v:= ?_) rfl rfl ?_ rfl (fun W hW=> ?_) ?_);rotate_left;(focus (exact fun c a w h=>yR (by decide) (by decide) h));(focus ((try dsimp only at hW);obtain⟨a0,a1,a2⟩:=hW;(go_simp;first|done|with_reducible rfl)));(try simp only[Act.put,ai,au,ak]))
 refine bP ?_
 have HC:=JH mp (σ.sealed root) S w2 hI2 hld hcap hll
 have hH:(σ.sealed root).H=σ.H:=rfl
 rw[hH] at HC
 obtain⟨R,hcm⟩:∃R,σ.H.pg.commit σ.H.dk σ.H.lg (σ.sealed root).im=R:=⟨_,rfl⟩
 obtain⟨σ',l',p',k,q⟩:=R
 rw[hcm] at HC hk
 have HCM:=ah hcm
 dsimp only at HC hk
 have HC:=ah HC
 have q1:IntKind.i64.wrap ((k:Int) - 1)=(k:Int) - 1:=aH _ (by omega)
 have HX2:=ah (aD htx2 (HX1.out.2.trans (((Step.of_below ((aQ _ w1).drew)):Step S S w1 w1.drew).trans hs2)))
 clear hcm hH hI2 hs2 htx2
 by_cases hq:q=0
 ·subst hq
  go_wp2_with (first
   |(go_at_call 43;go_must (refine HC.out.mono ?_;rintro e w3 ⟨rfl,S1,hp1,hE1,hs3⟩)))
  have htx3:=(hs3.1.block t hlt2 HT.out.nt).trans HX2.out.1
  have hn1:¬S1 t:=fun e=>(hs3.2 t e).elim HT.out.nt (fun x=>absurd hlt2 (bn.2 x))
  refine iW (f:=31) (args:=#[.pointer (some ⟨t,0,none⟩)]) (by simp) (by simp[go_sem]) ?_
  refine(pI t tr mp true 0 _ _ htx3 hE1).mono ?_
  rintro e u' w4 ⟨rfl,rfl,h4,hk4⟩
  have hst:=HX2.out.2.trans hs3
  refine⟨.tuple #[.int .i64 ((k:Int) - 1),.int .i64 0],by simp[results,GU,go_sem],?_⟩
  unfold qw
  rw[HCM.out]
  exact⟨rfl,S1,hp1.keep hk4 (fun g hg e=>hn1 (e▸hg)),h4,hn1,(hst.1.mono (fun g _ e=> .inl e)).trans (hk4.mono (fun g _ e=> .inr e)) (fun _ _ e=>e),hst.2⟩
 ·have hq':(q !=0)=true:=by simpa using hq
  go_wp2_with (first
   |(go_at_call 43;go_must (refine HC.out.mono ?_;rintro e w3 ⟨rfl,S1,hp1,hE1,hs3⟩)))
  have htx3:=(hs3.1.block t hlt2 HT.out.nt).trans HX2.out.1
  have hn1:¬S1 t:=fun e=>(hs3.2 t e).elim HT.out.nt (fun x=>absurd hlt2 (bn.2 x))
  refine iW (f:=31) (args:=#[.pointer (some ⟨t,0,none⟩)]) (by simp) (by simp[go_sem]) ?_
  refine(pI t tr mp true 0 _ _ htx3 hE1).mono ?_
  rintro e u' w4 ⟨rfl,rfl,h4,hk4⟩
  have hst:=HX2.out.2.trans hs3
  refine⟨.tuple #[.int .i64 0,.int .i64 q],by simp[results,GU,go_sem],?_⟩
  unfold qw
  rw[HCM.out]
  exact⟨by dsimp only;rw[if_neg hq],S1,hp1.keep hk4 (fun g hg e=>hn1 (e▸hg)),h4,hn1,(hst.1.mono (fun g _ e=> .inl e)).trans (hk4.mono (fun g _ e=> .inr e)) (fun _ _ e=>e),hst.2⟩
theorem Bu {f:Nat->Bool}:∀{n m:Nat},n<=m->(∀b,n<=b->f b=false)->countB f m=countB f n
 |n,0,h,_=>by
  obtain rfl:n=0:=by omega
  rfl
 |n,m+1,h,hf=>by
  rcases iK m n with hm|hm
  ·obtain rfl:n=m+1:=by omega
   rfl
  ·rw[fq,Bu hm hf,hf m hm]
   rfl
structure BN (σ:Dk)(l:Lg)(p:Pg)(f:Nat->Bool)(root:Nat):Prop where
 pd:p.dead=false
 sd:σ.dead=false
 two:2<=p.blocks σ
 map:p.look Im.none σ 0=bytesOf f
 hi:∀b,p.blocks σ<=b->f b=false
 f0:f 0=true
 f1:f 1=true
 root:NQ (p.look Im.none σ 1) root
theorem EP (tr:Nat)(mp:VS)(root:Int)(σ:cK)(S:Nat->Prop)(cs:List Pr)(tb:List Int)(w:World)(h:Inv σ S mp w)(ht:di w tr mp root 0)(hT:xX σ root cs tb)(hl:cs.length<=4090):
  Calls Tryz.prog 46 #[.pointer (some ⟨tr,0,none⟩)] w fun e w'=>∃(v:Value) (L:List Int),e= .returned (.tuple #[v,.int .i64 0])/\L.Perm tb/\aR w' S w.heap.size 3 1 v L.length (L.map (.int .i64))/\Below w.heap.size w w':=by
 obtain⟨n,T,hn,hB,hp⟩:=hT.bl (by omega)
 by_cases hr:root=0
 ·subst hr
  refine(Gp tr mp S w ht).mono ?_
  rintro e w' ⟨v,rfl,ho,hb⟩
  rw[if_pos rfl] at hB
  have hT0:T=[]:=by cases hB<;>simp_all
  exact⟨v,_,rfl,by rw[<-hT0];exact(qU _).trans hp,ho,hb⟩
 ·rw[if_neg hr] at hB
  refine(Gq tr mp root σ S w h ht hr n T hn hB (by have:=hp.length_eq;have:=hT.count;omega)).mono ?_
  rintro e w' ⟨v,rfl,ho,hb⟩
  exact⟨v,_,rfl,(qU _).trans hp,ho,hb⟩
theorem Kv (es:List nU):((kC es).drop (dU (kC es) ⟨#[]⟩))=kC es:=by
 have:dU (kC es) ⟨#[]⟩=0:=by
  unfold dU
  cases kC es with
  |nil=>rfl
  |cons p r=>rw[LV,A8];rfl
 rw[this,dN]
theorem Qo {w:World}{S:Nat->Prop}{B g n c:Nat}{ps:List Pr}(h:aR w S B 103 2 (.slice (some ⟨g,0,none⟩) n c) n (eD ps))(hn:ps.length=n)(k:Nat)(hk:k<n):
  w.cell? ⟨g,k*2,none⟩=some (.string (ps[k]'(by omega)).1)/\w.cell? ⟨g,k*2+1,none⟩=some (.string (ps[k]'(by omega)).2):=by
 have hP:nW w S (.slice (some ⟨g,0,none⟩) n c) ps:=by
  unfold nW
  rw[hn];exact h.dh
 obtain⟨pb,po,e1,d0,d1⟩:=hP.at rfl k (by omega)
 cases e1
 rw[eG] at d0 d1
 exact⟨d0,d1⟩
theorem Hg (v pg d:Nat)(σ:Dk)(l:Lg)(p:Pg)(f:Nat->Bool)(root:Nat)(S:Nat->Prop)(w:World)(es:List nU)(tb:List Int)(hv:w.heap[v]? =some (.cells #[.pointer (some ⟨pg,0,none⟩)] 88 (0,0)))(hvS:¬S v)(h:je w S pg d σ l p (.pointer none))(hB:BN σ l p f root)(hL:Live (cK.start σ l p f) root es tb)(hl:es.length<=4090):
  Calls Tryz.prog 13 #[.pointer (some ⟨v,0,none⟩)] w fun e w'=>e= .returned (.int .i64 0)/\∃S',je w' S' pg d σ l p (.pointer none)/\Step S S' w w':=by
 have HB:=ah (Mj v pg d σ l p f root S w hv hvS h hB.pd hB.sd hB.two hB.map hB.hi hB.f0 hB.f1 hB.root)
 have hcap:p.blocks σ<=4096:=by have:=h.ok.2.1.hi;unfold Pg.blocks;omega
 have HC:=ah (Bu hcap hB.hi)
 have hsub:=h.sub
 clear hv h
 go_enter_defers Tryz.func13,Tryz.ntmps13
 go_wp2_with (first
  |(go_at_call 21;go_must (refine HB.out.mono ?_;rintro e w1 ⟨t,tr,mp,S1,rfl,hpg,hd,htx,htr,hI1,hs1,hn1,hn2,hlo1,hlo2⟩;refine Stop.of ?_)))
 refine Stop.on ?_
 obtain⟨τ,hτ⟩:∃τ,τ=cK.start σ l p f:=⟨_,rfl⟩
 rw[<-hτ] at hI1 hL
 have c2:w1.cell? ⟨t,2,none⟩=some (.pointer (some ⟨tr,0,none⟩)):=by simp[World.cell?,htx,dM]
 have hlt:=(aj.1 htx).1
 have hl':(kC es).length<=4090:=by rw[gB];exact hl
 have HTB:=ah (EP tr mp root τ S1 (kC es) tb w1 hI1 htr hL.tree hl')
 have hS1:∀g,S1 g->g<w1.heap.size:=hI1.sub
 have hI1':=hI1.ok
 have HX:=ah (aD htx (aD htr (aD hI1 hs1)))
 have HTAU:=ah hτ
 clear htx htr hI1 hs1 hτ
 go_wp2_with (first
  |(go_at_call 46;go_must (refine HTB.out.mono ?_;rintro e w2 ⟨bv,L,rfl,hp2,ho2,hb2⟩;refine Stop.of ?_)))
 refine Stop.on ?_
 obtain⟨xo,xc,rfl,_,_,_,_⟩:=aY.form ho2.dh
 have hS2:∀g,S1 g->g<w2.heap.size:=fun g hg=>ax (hS1 g hg) hb2.size
 have hLl:L.length<=9000:=by have:=hp2.length_eq;have:=hL.tree.count;omega
 have HP2:=ah hp2
 go_wp2_with (first
  |(at_builtin;go_must ((refine dx rfl (.tmp 35) (.tmp 36) 93 93 rfl S1 w1.heap.size 3 1 8 _ aX gJ rfl (.slice xo L.length xc) _ _ rfl (ho2.below (aN _ _)) _ 2 _ rfl (gU [.int .i64 0,.int .i64 1] _ 1 2 2 (by simp) aX rfl ?_) (fI hS2 _) ?_ ?_ ?_ ?_);(focus (simp[Value.oneCell']));(focus (simp only[aT];have:=hb2.size;omega));(focus (unfold maxLen;omega));(focus omega);intro ao3 c3 w3 hown3 hk3 hb3 hd3;refine Stop.of ?_)))
 refine Stop.on ?_
 have hb13:Below w1.heap.size w1 w3:=(hb2.trans ((aN w2 _).mono hb2.size)).trans hb3
 have hE:L.map (Value.int .i64)++[.int .i64 0,.int .i64 1]=(L++[0,1]).map (.int .i64):=by simp
 have hE2:L.length+2=(L++[0,1]).length:=by simp
 rw[hE,hE2] at hown3
 have htx3:=(hb13.block t hlt).trans HX.out.1
 have d2:w3.cell? ⟨t,2,none⟩=some (.pointer (some ⟨tr,0,none⟩)):=by simp[World.cell?,htx3,dM]
 have hlt3:=(aj.1 htx3).1
 have hI3:=HX.out.2.2.1.below hb13
 have htr3:di w3 tr mp root 0:=(hb13.block tr (aj.1 HX.out.2.1).1).trans HX.out.2.1
 have hSC:=Ku tr mp root τ S1 (kC es) tb ⟨#[]⟩ 262144 w3 hI3 htr3 hL.tree hl'
 rw[Kv,aI (by rw[gB];show es.length<=(262144:Int).toNat;omega),gB] at hSC
 have HSC:=ah hSC
 have HO3:=ah hown3
 have HB13:=ah hb13
 have HI3:=ah hI3
 obtain⟨A0,hA0⟩:∃A,A=L++[0,1]:=⟨_,rfl⟩
 obtain⟨n0,hn0⟩:∃n,n=L.length+2:=⟨_,rfl⟩
 rw[<-hE2,<-hn0,<-hA0] at HO3
 rw[<-hn0]
 have HA0:=ah hA0;have HN0:=ah (show A0.length=n0 by rw[hA0,hn0];simp);have HNL:=ah (aD hLl hn0)
 clear hown3 hb13 hI3 hSC htx3 htr3 hb3 hk3 hd3 ho2 hb2 hp2 hE hE2 hA0 hn0
 go_wp2_with (first
  |(go_at_call 47;go_must (refine HSC.out.mono ?_;rintro e w4 ⟨pv,rfl,ho4,hb4⟩;refine Stop.of ?_)))
 refine Stop.on ?_
 obtain⟨po,pc,rfl,_,_,_,_⟩:=aY.form ho4.dh
 obtain⟨n,hn⟩:∃n,n=es.length:=⟨_,rfl⟩
 have HN:=ah hn
 rw[<-hn] at ho4 ⊢
 have ho4':=ho4.base HB13.out.size
 have hA4:=HO3.out.below hb4
 have hb14:=HB13.out.trans (hb4.mono HB13.out.size)
 have HV:=ah hL.val
 have hct:=hL.own.count hI1' hL.all
 have hbn:(eO es).length<=4096:=by
  have:=countB_le τ.now τ.most
  rw[hct,ay] at this
  have:=hI1'.cap
  omega
 have HBN:=ah hbn;have HCT:=ah hct
 clear hbn hct
 clear hn ho4 hb4
 go_wp2_with fail
 go_loopw [5,8,9,10,11,12,51] (fun a _ _ _ _ _ i wr=>∃(k:Nat) (A:List Int),k<=n/\i= .int .i64 k/\aR wr S1 w1.heap.size 3 1 a A.length (A.map (.int .i64))/\A.Perm (A0++eO (es.take k))/\aR wr S1 w1.heap.size 103 2 (.slice po n pc) n (eD (kC es))/\Below w1.heap.size w1 wr) (fun _ _ _ _ _ _ i _=>n - (intOf i).toNat)
 case atStart=>exact⟨0,A0,bg _,rfl,by rw[HN0.out];exact hA4,by simp[eO],ho4',hb14⟩
 case round=>
  clear hA4 ho4' hb14
  obtain⟨k,A,hk,rfl,hAo,hAp,hPo,hbk⟩:=hrel
  obtain⟨ao,ac,rfl,_,_,_,_⟩:=aY.form hAo.dh
  by_cases hkn:k<n
  ·have y1:(k:Int)<(n:Int):=by omega
   have hkx:k<es.length:=by rw[<-HN.out];exact hkn
   obtain⟨g,c,e1,_,_,hg1,hg2⟩:=hPo.Dg (by omega)
   cases e1
   obtain⟨d0,d1⟩:=Qo hPo (by rw[gB];exact HN.out.symm) k hkn
   obtain⟨E,hE⟩:∃E,Hid (es[k]=E):=⟨_,ah rfl⟩
   have hcs:(kC es)[k]'(by rw[gB];exact hkx)=(E.k,E.s):=by rw[<-hE.out];simp[kC]
   rw[hcs] at d0 d1
   have hEm:E∈es:=by rw[<-hE.out];exact bJ hkx
   have HTK:=ah (show eO (es.take (k+1))=eO (es.take k)++E.b by rw[aP hkx,jX,hE.out];simp[eO])
   have hAl:A.length+97<=20000:=by
    have e1:=hAp.length_eq
    rw[ay,HN0.out] at e1
    have e2:=HBN.out
    have e4:=HNL.out
    have e3:(eO (es.take k)).length<=(eO es).length:=by
     have:eO es=eO (es.take k)++eO (es.drop k):=by rw[<-jX,bO]
     rw[this,ay];omega
    omega
   have hlw:g<wr.heap.size:=hg2
   have hsr:∀g,S1 g->g<wr.heap.size:=fun g hg=>ax (hS1 g hg) hbk.size
   have HAO:=ah hAo;have HAP:=ah hAp;have HPO:=ah hPo;have HBK:=ah hbk
   clear hcs hAo hAp hPo hbk
   rcases HV.out E hEm with ⟨s1,s2,s3⟩|⟨hd',rs,s1,s2,s3,s4⟩
   ·have hsz:E.s.size<=1000000:=by
     have:E.s.size=E.v.size+1:=by rw[s1];show (0::E.v.data.toList).toArray.size=E.v.data.size+1;simp
     omega
    have hl0:qG E.s.data.toList=none:=by rw[s1];exact tQ _
    have HL0:=ah hl0
    clear s1 s2 hl0
    go_wp2_with (first
     |(go_at_call 48;go_must (refine(Cv E.s _ hsz).mono ?_;rw[HL0.out];rintro e w5 ⟨hb5,rfl⟩;refine Stop.of ?_)))
    refine Stop.on ?_
    have hbw5:Below wr.heap.size wr w5:=(aN wr _).trans (hb5.mono (by simp))
    clear hb5
    go_wp2_with fail
    go_roundw
    case rel=>exact⟨k+1,A,by omega,by go_num,HAO.out.below hbw5,by rw[HTK.out,s3,dQ];exact HAP.out,HPO.out.below hbw5,HBK.out.trans (hbw5.mono HBK.out.size)⟩
    case measure=>simp[intOf];omega
   ·have hsz:E.s.size<=1000000:=by rw[s1];show [1,UInt8.ofNat hd',UInt8.ofNat (hd'/256)].toArray.size<=_;simp
    have hl0:qG E.s.data.toList=some hd':=by rw[s1];exact wC hd' s2.1
    have HL0:=ah hl0;have HS3:=ah s3;have HS4:=ah s4
    clear s1 s2 hl0 s3 s4
    go_wp2_with (first
     |(go_at_call 48;go_must (refine(Cv E.s _ hsz).mono ?_;rw[HL0.out];rintro e w5 ⟨hb5,rfl⟩;refine Stop.of ?_)))
    refine Stop.on ?_
    have hbw5:Below wr.heap.size wr w5:=(aN wr _).trans (hb5.mono (by simp))
    have hb15:=HBK.out.trans (hbw5.mono HBK.out.size)
    have htx5:=(hb15.block t hlt).trans HX.out.1
    have f0:w5.cell? ⟨t,0,none⟩=some (.pointer (some ⟨mp.tx,0,none⟩)):=by simp[World.cell?,htx5,dM]
    have f1:w5.cell? ⟨t,1,none⟩=some (.pointer (some ⟨mp.mp,0,none⟩)):=by simp[World.cell?,htx5,dM]
    have hlt5:=(aj.1 htx5).1
    have HBB:=ah (JQ mp τ S1 w5 hd' _ rs (HX.out.2.2.1.below hb15) HS3.out.hd)
    have HB5:=ah (aD hbw5 hb15)
    clear hb5 hbw5 hb15 htx5
    go_wp2_with (first
     |(go_at_call 49;go_must (refine HBB.out.mono ?_;rintro e w6 ⟨mv,rfl,ho6,hb6⟩;refine Stop.of ?_)))
    refine Stop.on ?_
    obtain⟨mo,mc,rfl,_,_,_,_⟩:=aY.form ho6.dh
    have hml:(oZ (jF hd' rs)).length<=97:=by
     rw[qV]
     have:=HS3.out.hd.runs.2
     simp[jF];omega
    have hb56:=HB5.out.1.trans (hb6.mono HB5.out.1.size)
    have hsrc:=aY.src (P:=Tryz.prog) ho6.dh aX (pY _)
    have hA6:=HAO.out.below hb56
    have hP6:=HPO.out.below hb56
    have hs6:∀g,S1 g->g<w6.heap.size:=fun g hg=>ax (hsr g hg) hb56.size
    have hz6:w1.heap.size<=w6.heap.size:=aK HBK.out.size hb56.size
    obtain⟨B,hB⟩:∃B,Hid (oZ (jF hd' rs)=B):=⟨_,ah rfl⟩
    rw[hB.out] at hml hsrc ⊢
    clear ho6 hb6
    go_wp2_with (first
     |(at_builtin;(refine dx rfl (.tmp 75) (.tmp 76) 93 93 rfl S1 w1.heap.size 3 1 8 _ aX gJ rfl (.slice ao A.length ac) A.length _ rfl hA6 (.slice mo B.length mc) B.length _ rfl hsrc hs6 hz6 (by unfold maxLen;omega) (by omega) ?_);go_must (intro ao7 c7 w7 hown7 hk7 hb7 hd7;refine Stop.of ?_)))
    refine Stop.on ?_
    go_wp2_with fail
    have hAm:A.map (Value.int .i64)++B.map (.int .i64)=(A++B).map (.int .i64):=by simp
    have hAl2:A.length+B.length=(A++B).length:=by simp
    go_roundw
    case rel=>
     refine⟨k+1,A++B,by omega,by go_num,by rw[<-hAm,<-hAl2];exact hown7,?_,hP6.keep fun x hx hl hs=>⟨hk7.block x hl (fun e=>aR.GJ hP6 hA6 (by decide) _ hx e),hs⟩,(HBK.out.trans (hb56.mono HBK.out.size)).trans hb7⟩
     rw[HTK.out,HS4.out,<-aL]
     exact HAP.out.append (by rw[<-hB.out];exact qU _)
    case measure=>simp[intOf];omega
  ·obtain rfl:k=n:=by omega
   have y1:¬(k:Int)<(k:Int):=by omega
   have hAp2:A.Perm (A0++eO es):=by
    have:=hAp
    rwa [HN.out,bW] at this
   have hperm:A.Perm (0::1::(tb++eO es)):=by
    refine hAp2.trans ?_
    rw[HA0.out]
    have e1:(L++[0,1]++eO es).Perm ([0,1]++L++eO es):=fV.append_right _
    refine e1.trans ?_
    have e2:([0,1]++L++eO es)=0::1::(L++eO es):=by simp
    rw[e2]
    exact((HP2.out.append_right _).cons _).cons _
   have hlen:A.length=countB f 4096:=by
    rw[hperm.length_eq,HC.out]
    have e1:=HCT.out
    have e2:countB τ.now τ.most=countB f (p.blocks σ):=by rw[HTAU.out];rfl
    rw[e2] at e1
    rw[e1];simp;omega
   have hAll:∀x∈A,∃b:Nat,x=b/\b<τ.most/\τ.now b=true:=by
    intro x hx
    rcases bQ.1 (hperm.mem_iff.1 hx) with rfl|hx
    ·exact⟨0,rfl,by have:=hI1'.two;omega,hI1'.n0⟩
    ·rcases bQ.1 hx with rfl|hx
     ·exact⟨1,rfl,by have:=hI1'.two;omega,hI1'.n1⟩
     ·exact cK.kF (hL.all x hx).1
   have hnd:A.Nodup:=by
    refine hperm.nodup_iff.2 (kG.2 ⟨fun e=> ?_,kG.2 ⟨fun e=> ?_,hL.own.nd⟩⟩)
    ·rcases bQ.1 e with e|e
     ·cases e
     ·have:=(hL.all 0 e).2;omega
    ·have:=(hL.all 1 e).2;omega
   have hAl:A.length<=4096:=by rw[hlen];exact countB_le f 4096
   have HSO:=ah (wS _ A wr S1 w1.heap.size hAo (by omega) hbk.size)
   obtain⟨Q,hQ⟩:∃Q,Hid (oZ A=Q):=⟨_,ah rfl⟩
   have hQr:=Ko hnd
   have hQl:=qV A
   have hQm:∀x∈oZ A,x∈A:=fun x hx=>(Ah x).1 hx
   rw[hQ.out] at HSO hQr hQl hQm
   obtain⟨m,hm⟩:∃m,m=A.length:=⟨_,rfl⟩
   rw[hQl,<-hm] at HSO
   rw[<-hm] at hQl hlen hAl ⊢
   have HQ:=ah (aD hQr (aD hQl (aD hQm hAll)))
   have HLEN:=ah hlen;have HBK:=ah hbk
   clear hAp hAp2 hperm hlen hAll hnd hQr hQl hQm hm hAo hPo hbk
   go_wp2_with (first
    |(go_at_call 50;go_must (refine HSO.out.mono ?_;rintro e w5 ⟨rfl,ho5,hb5⟩;refine Stop.of ?_)))
   refine Stop.on ?_
   have hb15:=HBK.out.trans hb5
   have htx5:=(hb15.block t hlt).trans HX.out.1
   have f1:w5.cell? ⟨t,1,none⟩=some (.pointer (some ⟨mp.mp,0,none⟩)):=by simp[World.cell?,htx5,dM]
   have hlt5:=(aj.1 htx5).1
   have hI5:=HX.out.2.2.1.below hb15
   have hmap:o8 w5 mp.mp τ.most τ.now τ.H.old:=by obtain⟨Sp,T,hI,_⟩:=hI5;exact hI.map
   have HMAP:=ah hmap;have HO5:=ah ho5;have HX5:=ah (aD htx5 (aD hI5 hb15))
   clear hmap ho5 htx5 hI5 hb15 hb5
   have hmc:=hI1'.cap
   go_wp2_with fail
   go_loopw [13,14,83] (fun _ _ i wk=>∃j:Nat,j<=m/\i= .int .i64 j/\wk=w5) (fun _ _ i _=>m - (intOf i).toNat)
   case atStart=>exact⟨0,bg _,rfl,rfl⟩
   case round=>
    obtain⟨j,hj,rfl,hwk⟩:=hrel
    subst hwk
    by_cases hjm:j<m
    ·have y2:(j:Int)<(m:Int):=by omega
     have hI:jf wr S1 (.slice ao m ac) Q:=by
      have:=HO5.out.dh
      unfold jf
      rw[HQ.out.2.1];exact this
     have hjQ:j<Q.length:=by rw[HQ.out.2.1];exact hjm
     obtain⟨pb,po',rfl,q1⟩:=hI.at rfl j hjQ
     have hpb:=aJ wr _ q1
     obtain⟨b,hb,hbm,hbn⟩:=HQ.out.2.2.2 Q[j] (HQ.out.2.2.1 _ (bJ hjQ))
     have HBQ:=ah hb
     rw[hb] at q1
     have HHS:=Rc mp.mp τ.most τ.now τ.H.old b wr HMAP.out hmc (by omega)
     rw[show (decide (b<τ.most) && τ.now b)=true by simp[hbm,hbn]] at HHS
     have HHS:=ah HHS
     by_cases hj0:j=0
     ·subst hj0
      rw[iL] at q1
      clear hI hb hbm hbn
      go_wp2_with (first
       |(go_at_call 51;go_must (refine HHS.out.mono ?_;rintro e w6 ⟨rfl,hw6⟩;subst w6)))
      go_roundw
      case rel=>exact⟨1,by omega,by go_num,trivial⟩
      case measure=>simp[intOf];omega
     ·have hj1:j - 1<Q.length:=by omega
      obtain⟨pb',po'',e',q2⟩:=hI.at rfl (j - 1) hj1
      cases e'
      obtain⟨b2,hb2,_,_⟩:=HQ.out.2.2.2 Q[j - 1] (HQ.out.2.2.1 _ (bJ hj1))
      have hne:¬b2=b:=by
       have:=iY.1 HQ.out.1 (j - 1) j hj1 hjQ (by omega)
       omega
      rw[hb2] at q2
      have y3:(0:Int)<(j:Int):=by omega
      have y4:IntKind.i64.wrap ((j:Int) - 1)=((j - 1:Nat):Int):=by rw[aH _ (by omega)];omega
      have y5:((j - 1:Nat):Int)<(m:Int):=by omega
      have y6:(0:Int)<=((j - 1:Nat):Int):=by omega
      have y7:¬(b2:Int)=(b:Int):=by omega
      have y8:((b2:Int)==(b:Int))=false:=by simpa using y7
      obtain⟨j1,hj1e⟩:∃x:Nat,Hid (j - 1=x):=⟨_,ah rfl⟩
      rw[hj1e.out] at q2 y4 y5 y6
      clear hI hb hbm hbn hb2
      go_wp2_with (first
       |(go_at_call 51;go_must (refine HHS.out.mono ?_;rintro e w6 ⟨rfl,hw6⟩;subst w6)))
      go_roundw
      case rel=>exact⟨j+1,by omega,by go_num,trivial⟩
      case measure=>simp[intOf];omega
    ·obtain rfl:j=m:=by omega
     have y2:¬(j:Int)<(j:Int):=by omega
     have HU:=Ra mp.mp τ.most τ.now τ.H.old wr HMAP.out
     have hnow:countB τ.now 4096=j:=by rw[HLEN.out,HTAU.out];rfl
     rw[hnow] at HU
     have HU:=ah HU
     have HLO:=ah (aD hlo1 (aD hpg (aD hd hn1)))
     clear hnow
     go_wp2_with (first
      |(go_at_call 52;go_must (refine HU.out.mono ?_;rintro e w6 ⟨rfl,hw6⟩;subst w6)))
     refine iW (f:=31) (args:=#[.pointer (some ⟨t,0,none⟩)]) (by simp) (by simp[go_sem]) ?_
     refine(Mk t tr mp false 0 τ S1 _ _ HX5.out.1 HX5.out.2.1 hn1).mono ?_
     rintro e u' w7 ⟨rfl,rfl,⟨Sp,hp7,hsp7⟩,h7,hk7⟩
     rw[HTAU.out] at hp7
     refine⟨_,by simp[results,Tryz.results13,go_sem],rfl,Sp,by rw[<-HLO.out.2.1,<-HLO.out.2.2.1];exact hp7,(HX.out.2.2.2.1.trans (Keep.of_below HX5.out.2.2 fU) (fun _ _ e=>e.elim)).trans hk7 (fun g hg e=> ?_),fun g hg=>HX.out.2.2.2.2 g (hsp7 g hg)⟩
     rcases e with e|e
     ·exact(HX.out.2.2.2.2 g e).elim id (fun x=>absurd hg (bn.2 x))
     ·subst e;exact absurd hg (bn.2 HLO.out.1)
def o7 (n:Nat)(log:Int):Int:=if log<6\/(n:Int) - 8<log then 1 else 0
theorem Mi (d:Nat)(σ:Dk)(Sd:Nat->Prop)(log:Int)(w:World)(h:om w Sd d σ):
  Calls Tryz.prog 37 #[.pointer (some ⟨d,0,none⟩),.int .i64 log] w fun e w'=>e= .returned (.int .i64 (o7 σ.n log))/\w'=w:=by
 have HS:=ah (Br d σ Sd w h)
 have hi:=h.ok.hi
 have q:IntKind.i64.wrap ((σ.n:Int) - 8)=(σ.n:Int) - 8:=aH _ (by omega)
 clear h
 unfold o7
 by_cases h1:log<6
 ·rw[if_pos (.inl h1)]
  go_enter Tryz.func37,Tryz.ntmps37
  go_wp2_with fail
  go_ret
  exact⟨rfl,rfl⟩
 ·by_cases h2:(σ.n:Int) - 8<log
  ·rw[if_pos (.inr h2)]
   go_enter Tryz.func37,Tryz.ntmps37
   go_wp2_with (first
    |(go_at_call 9;go_must (refine HS.out.mono ?_;rintro e w1 ⟨rfl,hw1⟩;subst w1)))
   go_ret
   exact⟨rfl,rfl⟩
  ·rw[if_neg (by omega)]
   go_enter Tryz.func37,Tryz.ntmps37
   go_wp2_with (first
    |(go_at_call 9;go_must (refine HS.out.mono ?_;rintro e w1 ⟨rfl,hw1⟩;subst w1)))
   go_ret
   exact⟨rfl,rfl⟩
theorem EN (log:Int)(w:World):
  Calls Tryz.prog 37 #[.pointer none,.int .i64 log] w fun e w'=>e= .returned (.int .i64 2)/\w'=w:=by
 go_enter Tryz.func37,Tryz.ntmps37
 go_wp2_with fail
 go_ret
 exact⟨rfl,rfl⟩
theorem JG {im:Im}{n:Nat}(h:im.Ok n):dH im.bq=(16+520*im.ks.length+511)/512:=by
 have e:(im.bq.map fun r=>4+r.length).sum=520*im.ks.length:=by
  unfold Im.bq
  rw[yh]
  have hi:=h.img
  revert hi
  generalize im.ks=ks
  intro hi
  induction ks with
  |nil=>rfl
  |cons k ks ih=>
   rw[dw,ow,ih (fun x hx=>hi x (aU _ hx)),bf]
   have:=hi k (aZ ..)
   show 4+(leB k 4++im.img k).length+_=_
   rw[ay,bT,this];omega
 unfold dH
 rw[e]
theorem Dk.EJ:∀(k i:Nat) (σ:Dk) (j:Nat),i<=j->j<i+k->(Dk.sU k i σ).get j=pad []
 |0,_,_,_,h1,h2=>absurd h2 (by omega)
 |k+1,i,σ,j,h1,h2=>by
  rw[Dk.yo,Dk.get_put]
  split
  ·rfl
  ·exact Dk.EJ k i σ j h1 (by omega)
theorem MU {σ:Dk}{log:Nat}(hl:(Lg.new 0 log).Ok)(hp:(Pg.new log).Ok σ (Lg.new 0 log))(hw:σ.waits=[])(hm:σ.get 0=pad (Lg.new 0 log).eP):oQ σ (Lg.new 0 log) (Pg.new log) (fun _ b=>σ.get (log+b)):=
 ⟨[],⟨hl,hp,rfl,aC _,aC _,(fun im h=>by cases h),(fun i h=>by cases h),Al.none ⟨hm,(fun i h=>by simp[gm] at h),fun b _=>rfl⟩ hw,fun b=>rfl,(by rw[hw];exact aC _),fun _=>hw⟩,fun k _ _ b _=>by rw[Od];rfl⟩
structure LH (σ0:Dk)(log:Nat)(σ:Dk)(l:Lg)(p:Pg):Prop where
 vi:VI σ l p
 last:l.last=1
 synced:l.synced=1
 skip:p.skip=log
 ring:p.ring=log - 1
 n:σ.n=σ0.n
 base:BN σ l p two 0
 rc:∃C,oQ σ l p C
 wts:σ.waits=[]
theorem LH.live {σ:Dk}{l:Lg}{p:Pg}:Live (cK.start σ l p two) 0 [] []:=by
 refine⟨.inl ⟨rfl,rfl,rfl⟩,(fun e he=>by cases he),⟨pE,fun x hx=> ?_,?_⟩⟩
 ·obtain⟨n,rfl,_,h⟩:=cK.kF hx
  have h:two n=true:=h
  unfold two at h
  have:=jH h
  omega
 ·show countB (fun x=>two x||two x) (p.blocks σ)=countB two (p.blocks σ)+0
  rw[iL]
  exact jl _ (fun x _=>Bool.or_self _)
theorem Pn (d:Nat)(σ:Dk)(Sd:Nat->Prop)(log:Nat)(w:World)(h:om w Sd d σ)(hf:σ.nC)(h1:6<=log)(h2:log+8<=σ.n)(hcap:σ.waits.length<=50000):
  Calls Tryz.prog 11 #[.pointer (some ⟨d,0,none⟩),.int .i64 log] w fun e w'=>∃v pg σ' l' p' S',e= .returned (.tuple #[.pointer (some ⟨v,0,none⟩),.int .i64 0])/\w'.heap[v]? =some (.cells #[.pointer (some ⟨pg,0,none⟩)] 88 (0,0))/\¬S' v/\w.heap.size<=v/\je w' S' pg d σ' l' p' (.pointer none)/\LH σ log σ' l' p'/\Step Sd S' w w':=by
 have hck:=Mi d σ Sd log w h
 have hc0:o7 σ.n log=0:=by unfold o7;rw[if_neg (by omega)]
 rw[hc0] at hck
 have HCK:=ah hck
 have hdn:=h.ok.hi
 have HPM:=ah (Q9 d σ Sd log w h hf (by omega) (by omega) hcap)
 have hsub:=h.sub
 clear h hck hc0
 go_enter Tryz.func11,Tryz.ntmps11
 go_wp2_with (first
  |(go_at_call 37;go_must (refine HCK.out.mono ?_;rintro e w1 ⟨rfl,hw1⟩;subst w1))
  |(go_at_call 39;go_must (refine HPM.out.mono ?_;rintro e w1 ⟨pg,S1,rfl,hp1,hs1⟩;refine Stop.of ?_)))
 refine Stop.on ?_
 obtain⟨σ1,hσ1⟩:∃σ1,σ1=(((Dk.sU (σ.n - log) log σ).flush.put 0 (Lg.new 0 log).eP).flush):=⟨_,rfl⟩
 rw[<-hσ1] at hp1
 have hn1:σ1.n=σ.n:=by rw[hσ1];exact Dk.yt _ _ _
 have hf1:σ1.nC:=by rw[hσ1];exact Dk.uR _ _ _ hf
 have hw1:σ1.waits=[]:=by rw[hσ1];rfl
 have hg1:∀j,log<=j->j<σ.n->σ1.get j=pad []:=fun j a b=>by
  rw[hσ1,wD _ _ _ _ (by omega)]
  exact Dk.EJ _ _ _ _ a (by omega)
 have hm1:σ1.get 0=pad (Lg.new 0 log).eP:=by rw[hσ1,Dk.mX,Dk.get_put,if_pos rfl]
 have HRC:=ah (MU hp1.ok.2.2 hp1.ok.1 hw1 hm1)
 clear hm1
 have hbl:(Pg.new log).blocks σ1=σ.n - log:=by unfold Pg.blocks;rw[hn1];rfl
 have HBG:=ah (MO pg d σ1 (Lg.new 0 log) (Pg.new log) S1 w1 hp1 rfl)
 have hsub1:=hp1.sub
 have HS1:=ah hs1
 have HF1:=ah (aD hn1 (aD hf1 (aD hw1 hg1)))
 clear hσ1 hp1 hs1 hn1 hf1 hw1 hg1
 go_wp2_with (first
  |(go_at_call 40;go_must (refine HBG.out.mono ?_;rintro e w2 ⟨t,T,rfl,hp2,ht2,hs2,hT2⟩;refine Stop.of ?_)))
 refine Stop.on ?_
 have hdis:∀g,S1 g->¬T g:=fun g hg e=>absurd (hT2 g e) (eZ.2 (hsub1 g hg))
 have HBL:=ah (xq pg d σ1 (Lg.new 0 log) (Pg.new log) _ S1 w2 hp2)
 have HSM:=ah (Qh t pg d σ1 (Lg.new 0 log) (Pg.new log) _ Im.none S1 T w2.drew (hp2.below ((aQ _ w2).drew)) (ht2.below ((aQ _ w2).drew)) rfl (by omega))
 clear hbl
 have HX2:=ah (aD hp2 hs2)
 clear hp2 ht2 hs2
 go_wp2_with (first
  |(go_at_call 42;go_must (refine HBL.out.mono ?_;rintro e w3 ⟨rfl,hw3⟩;subst w3))
  |(go_at_call 41;go_must (refine HSM.out.mono ?_;rintro e w3 ⟨rfl,ht3,hs3⟩;refine Stop.of ?_)))
 refine Stop.on ?_
 obtain⟨im,him⟩:∃im,im=Im.none.put 0 (bytesOf two):=⟨_,rfl⟩
 rw[<-him] at ht3
 have hp3:=(HX2.out.1.below ((aQ _ w2).drew)).keep hs3.1 (fun g hg e=>hdis g hg e)
 have himok:im.Ok ((Pg.new log).blocks σ1):=by obtain⟨_,q⟩:=ht3;exact q.ok
 have hks:im.ks=[0]:=by rw[him];rfl
 have hPO:=hp3.ok
 have hV1:VI σ1 (Lg.new 0 log) (Pg.new log):=⟨HF1.out.2.1,rfl,rfl,by rw[HF1.out.2.2.1];exact bg _⟩
 have HCM:=JA t pg d σ1 (Lg.new 0 log) (Pg.new log) _ im S1 T w3 hp3 ht3 hdis rfl rfl (by rw[HF1.out.2.2.1];exact bg _) (by show 0<1000000000000;omega)
 obtain⟨σ2,l2,p2,hcm,hV2,hl2,hk2,hr2,hn2,hlk2⟩:∃σ2 l2 p2,(Pg.new log).commit σ1 (Lg.new 0 log) im=(σ2,l2,p2,1,0)/\VI σ2 l2 p2/\l2.last=1/\p2.skip=log/\p2.ring=log - 1/\σ2.n=σ1.n/\∀b,p2.look Im.none σ2 b=(Pg.new log).look im σ1 b:=by
  rcases wJ hV1 hPO.1 hPO.2.2 himok with ⟨q,_⟩|⟨_,q,_⟩|⟨_,_,σ2,l2,p2,q1,q2,q3,q4,q5,q6,q7⟩
  ·rw[hks] at q;cases q
  ·unfold Pg.tN at q
   rw[JG himok,hks] at q
   have:(Pg.new log).ring=log - 1:=rfl
   rw[this] at q
   simp at q
   omega
  ·exact⟨σ2,l2,p2,q1,q2,q3,q4,q5,q6,q7⟩
 have hrc:∃C,oQ σ2 l2 p2 C:=by
  rcases Nu HRC.out HF1.out.2.1.1 rfl rfl himok (by show 0<1000000000000;omega) with ⟨q,_⟩|⟨_,_,q⟩|⟨_,_,⟨_,_,_,q,_,_,_,_,_,_,_,_,_,r,_⟩|⟨_,_,_,q,_⟩⟩
  ·rw[hks] at q;cases q
  ·rw[hcm] at q;simp at q
  ·rw[hcm] at q
   simp only[Prod.mk.injEq] at q
   obtain⟨rfl,rfl,rfl,_⟩:=q
   exact⟨_,r⟩
  ·rw[hcm] at q;simp at q
 have HRC2:=ah hrc
 clear hrc
 rw[hcm] at HCM
 have HCM:=ah HCM
 have HLK:=ah (aD hV2 (aD hl2 (aD hk2 (aD hr2 (aD hn2 (aD hlk2 him))))))
 have HS3:=ah (HX2.out.2.trans ((Step.of_below ((aQ _ w2).drew):Step S1 S1 w2 w2.drew)))
 have HK3:=ah hs3
 clear hp3 ht3 himok hks hPO hV1 hcm hV2 hl2 hk2 hr2 hn2 hlk2 him hs3
 go_wp2_with (first
  |(go_at_call 43;go_must (refine HCM.out.mono ?_;rintro e w4 ⟨rfl,S4,hp4,hE4,hs4⟩;refine Stop.of ?_)))
 refine Stop.on ?_
 obtain⟨σ5,l5,hsy,hV5,hl5,hy5,hn5,hlk5⟩:=Mx HLK.out.1 hp4.ok.1
 have HSY:=Q7 pg d σ2 l2 p2 _ S4 w4 hp4 (by have:=HLK.out.1.wt;have:=hp4.ok.2.2.us;have:=hp4.ok.2.2.hi;omega)
 have hrc:(∃C,oQ σ5 l5 p2 C)/\σ5.waits=[]:=by
  obtain⟨C,hC⟩:=HRC2.out
  rcases Qf hC HLK.out.1.free.1 HLK.out.1.ld HLK.out.1.pd with ⟨_,_,q,_,_,_,_,hw,_,_,r,_⟩|⟨_,_,q,_⟩
  ·rw[hsy] at q
   simp only[Prod.mk.injEq] at q
   obtain⟨rfl,rfl,_⟩:=q
   exact⟨⟨_,r⟩,hw⟩
  ·rw[hsy] at q;simp at q
 have HRC5:=ah hrc
 clear hrc
 rw[hsy] at HSY
 have HSY:=ah HSY
 have HL5:=ah (aD hV5 (aD hl5 (aD hy5 (aD hn5 hlk5))))
 have HS4:=ah hs4
 clear hp4 hE4 hs4 hsy hV5 hl5 hy5 hn5 hlk5
 go_wp2_with (first
  |(go_at_call 44;go_must (refine HSY.out.mono ?_;rintro e w5 ⟨rfl,S5,hp5,hs5⟩;refine Stop.of ?_)))
 refine Stop.on ?_
 go_wp2_with fail
 go_ret2
 have hb6:=aN w5 (.cells #[.pointer (some ⟨pg,0,none⟩)] 88)
 have hsub5:=hp5.sub
 have hz5:w.heap.size<=w5.heap.size:=by
  have a:=HS1.out.1.size;have b:=HS3.out.1.size;have c:=HK3.out.1.size;have d:=HS4.out.1.size;have e:=hs5.1.size
  omega
 have hskip:=HLK.out.2.2.1
 have hlook:∀b,p2.look Im.none σ5 b=(Pg.new log).look im σ1 b:=fun b=>(HL5.out.2.2.2.2 Im.none b).trans (HLK.out.2.2.2.2.2.1 b)
 have hn5:σ5.n=σ.n:=HL5.out.2.2.2.1.trans (HLK.out.2.2.2.2.1.trans HF1.out.1)
 refine⟨w5.heap.size,pg,σ5,l5,p2,S5,rfl,bD w5 _,fun e=>dD _ (hsub5 _ e),hz5,hp5.below hb6,⟨HL5.out.1,HL5.out.2.1.trans HLK.out.2.1,HL5.out.2.2.1.trans HLK.out.2.1,hskip,HLK.out.2.2.2.1,hn5,?_,HRC5.out.1,HRC5.out.2⟩,?_⟩
 ·have hbl5:p2.blocks σ5=σ.n - log:=by unfold Pg.blocks;rw[hn5,hskip]
  refine⟨HLK.out.1.pd,HL5.out.1.free.1,by omega,?_,fun b hb=> ?_,rfl,rfl,?_⟩
  ·rw[hlook,HLK.out.2.2.2.2.2.2]
   unfold Pg.look
   rw[Im.Bn,if_pos rfl];rfl
  ·unfold two
   exact bY (by omega)
  ·rw[hlook,HLK.out.2.2.2.2.2.2]
   have:(Pg.new log).look (Im.none.put 0 (bytesOf two)) σ1 1=pad []:=by
    unfold Pg.look
    rw[Im.Bn,if_neg (by omega)]
    exact HF1.out.2.2.2 (log+1) (by omega) (by omega)
   rw[this]
   exact⟨by omega,List.replicate 510 0,rfl⟩
 ·have h0:=HS1.out.trans HS3.out
  have a:Step Sd (fun g=>S1 g\/T g) w w2.drew:=⟨h0.1,fun g hg=>hg.elim (h0.2 g) (fun e=> .inr (aK HS1.out.1.size (hT2 g e)))⟩
  have b:Step Sd (fun g=>S1 g\/T g) w w3:=a.trans ⟨HK3.out.1.mono (fun g _ e=> .inr e),fun g hg=> .inl hg⟩
  have c:=b.trans HS4.out
  have e:Step Sd S5 w w5:=c.trans ⟨hs5.1.mono (fun g _ e=> .inl e),fun g hg=>(hs5.2 g hg).imp .inl id⟩
  exact e.trans (Step.of_below hb6)
end Go.Proofs.YtogbkgmlhhahdaaGreat
