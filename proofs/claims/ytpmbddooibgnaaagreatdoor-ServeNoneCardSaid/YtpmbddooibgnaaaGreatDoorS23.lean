/- parts -/
import Derived.Test.YtpmbddooibgnaaaGreatDoorS22
set_option maxRecDepth 100000
set_option maxHeartbeats 8000000
set_option linter.all false
namespace Go.Proofs.YtpmbddooibgnaaaGreatDoor
open Go.RowKit
structure kS where
 k:ByteArray
 s:ByteArray
 v:ByteArray
 b:List Int
def ic (es:List kS):List Pr:=es.map fun e=>(e.k,e.s)
def fM (es:List kS):List Pr:=es.map fun e=>(e.k,e.v)
def dM (es:List kS):List Int:=es.flatMap (·.b)
theorem pz (a b:List kS):ic (a++b)=ic a++ic b:=by simp[ic]
theorem kH (a b:List kS):fM (a++b)=fM a++fM b:=by simp[fM]
theorem ni (a b:List kS):dM (a++b)=dM a++dM b:=by simp[dM]
theorem Bv (e:kS)(b:List kS):dM (e::b)=e.b++dM b:=by simp[dM]
theorem jo (es:List kS):(ic es).length=es.length:=by simp[ic]
theorem kG (es:List kS):(fM es).length=es.length:=by simp[fM]
def qL (es:List kS)(key:ByteArray):Nat:=(es.takeWhile fun e=>lt e.k key).length
theorem Cf (f:kS->Pr)(hf:∀e,(f e).1=e.k)(es:List kS)(key:ByteArray):cZ (es.map f) key=qL es key:=by
 unfold cZ qL
 rw[List.takeWhile_map,jc]
 congr 2
 funext e
 simp[hf]
theorem IB (f:kS->Pr)(hf:∀e,(f e).1=e.k)(es:List kS)(key:ByteArray):
  (∀o,es[qL es key]? =some o->o.k=key->cu (es.map f) key=some (f o).2/\(∀x,gZ (es.map f) key x=(es.take (qL es key)).map f++(key,x)::(es.drop (qL es key+1)).map f)/\J7 (es.map f) key=(es.take (qL es key)).map f++(es.drop (qL es key+1)).map f)/\
  ((∀o,es[qL es key]? =some o->o.k≠key)->cu (es.map f) key=none/\(∀x,gZ (es.map f) key x=(es.take (qL es key)).map f++(key,x)::(es.drop (qL es key)).map f)/\J7 (es.map f) key=es.map f):=by
 have hp:=Cf f hf es key
 constructor
 ·intro o ho hk
  obtain⟨hl,_⟩:=bg.1 ho
  have hat:oW (es.map f) key=true:=by
   unfold oW
   rw[hp,dH,ho]
   simp[hf,hk]
  refine⟨?_,fun x=> ?_,?_⟩
  ·unfold cu
   rw[if_pos hat,hp,dH,ho];rfl
  ·unfold gZ
   rw[if_pos hat,hp,Pm,if_pos (by rw[jc];exact hl),jR,mP]
  ·unfold J7
   rw[if_pos hat,hp,jR,mP]
 ·intro hno
  have hat:oW (es.map f) key=false:=by
   unfold oW
   rw[hp,dH]
   cases he:es[qL es key]? with
   |none=>rfl
   |some o=>simp[hf,hno o he]
  refine⟨?_,fun x=> ?_,?_⟩
  ·unfold cu
   rw[if_neg (by rw[hat];simp)]
  ·unfold gZ
   rw[if_neg (by rw[hat];simp),hp,jR,mP]
  ·unfold J7
   rw[if_neg (by rw[hat];simp)]
structure vU (es:List kS)(key:ByteArray)(l o r:List kS):Prop where
 eq:es=l++o++r
 one:o=[]\/∃e,o=[e]/\e.k=key
 ls:cu (ic es) key=o.head?.map (·.s)
 lv:cu (fM es) key=o.head?.map (·.v)
 is:∀s v b,gZ (ic es) key s=ic (l++⟨key,s,v,b⟩::r)
 iv:∀s v b,gZ (fM es) key v=fM (l++⟨key,s,v,b⟩::r)
 ds:J7 (ic es) key=ic (l++r)
 dv:J7 (fM es) key=fM (l++r)
theorem MX (es:List kS)(key:ByteArray):∃l o r,vU es key l o r:=by
 have hs:=IB (fun e=>(e.k,e.s)) (fun _=>rfl) es key
 have hv:=IB (fun e=>(e.k,e.v)) (fun _=>rfl) es key
 by_cases h:∃o,es[qL es key]? =some o/\o.k=key
 ·obtain⟨o,ho,hk⟩:=h
  obtain⟨hl,he⟩:=bg.1 ho
  obtain⟨a1,a2,a3⟩:=hs.1 o ho hk
  obtain⟨b1,b2,b3⟩:=hv.1 o ho hk
  refine⟨es.take (qL es key),[o],es.drop (qL es key+1),?_,.inr ⟨o,rfl,hk⟩,a1,b1,fun s v b=> ?_,fun s v b=> ?_,?_,?_⟩
  ·rw[<-he,bC,List.singleton_append,List.getElem_cons_drop,bG]
  ·rw[pz];exact a2 s
  ·rw[kH];exact b2 v
  ·rw[pz];exact a3
  ·rw[kH];exact b3
 ·have hno:∀o,es[qL es key]? =some o->o.k≠key:=fun o ho hk=>h ⟨o,ho,hk⟩
  obtain⟨a1,a2,a3⟩:=hs.2 hno
  obtain⟨b1,b2,b3⟩:=hv.2 hno
  refine⟨es.take (qL es key),[],es.drop (qL es key),?_,.inl rfl,a1,b1,fun s v b=> ?_,fun s v b=> ?_,?_,?_⟩
  ·rw[fV,bG]
  ·rw[pz];exact a2 s
  ·rw[kH];exact b2 v
  ·rw[bG];exact a3
  ·rw[bG];exact b3
theorem r9.keep {σ σ':bR}{head size:Nat}{rs:List (Nat×Nat)}(h:r9 σ head size rs)(h1:σ'.hasB head=true)(h2:σ'.mem head=σ.mem head):r9 σ' head size rs:=by
 obtain⟨a,_,c,d,e,f,g⟩:=h
 exact⟨a,h1,by rw[h2];exact c,d,e,f,g⟩
theorem oO.keep {σ σ':bR}{head:Nat}{t:List UInt8}{rs:List (Nat×Nat)}(h:oO σ head t rs)(hk:∀x∈kX head rs,σ'.hasB x=true/\σ'.mem x=σ.mem x):oO σ' head t rs:=by
 have hin:∀b∈eD rs++[head],((b:Nat):Int)∈kX head rs:=fun b hb=>List.mem_map_of_mem hb
 refine⟨h.hd.keep (hk _ (hin head (by simp))).1 (hk _ (hin head (by simp))).2,h.nd,fun i hi=> ?_⟩
 obtain⟨a,b,c⟩:=h.blk i hi
 have:=hk _ (hin (eD rs)[i] (cO _ (bI hi)))
 exact⟨this.1,b,this.2.trans c⟩
theorem ValAt.keep {σ σ':bR}{s v:ByteArray}{vb:List Int}(h:ValAt σ s v vb)(hk:∀x∈vb,σ'.hasB x=true/\σ'.mem x=σ.mem x):ValAt σ' s v vb:=by
 rcases h with h|⟨hd,rs,h1,h2,h3,h4⟩
 ·exact .inl h
 ·exact .inr ⟨hd,rs,h1,h2,h3.keep (fun x hx=>hk x (by rw[h4];exact hx)),h4⟩
theorem ValAt.all {σ:bR}{s v:ByteArray}{vb:List Int}(h:ValAt σ s v vb):∀x∈vb,σ.hasB x=true/\2<=x:=by
 rcases h with ⟨_,_,rfl⟩|⟨hd,rs,_,_,h3,rfl⟩
 ·intro x hx;cases hx
 ·exact h3.all
theorem kR.TH {T:ByteArray->Option ByteArray->Int->List Pr->List Int->Prop}(hT:∀k z b c x,T k z b c x->∀y∈x,2<=y){hi:Option ByteArray}{l:List (ByteArray×Int)}{cs:List Pr}{bs:List Int}(h:kR T hi l cs bs):∀y∈bs,2<=y:=kR.has hT h
theorem uo.two {σ:bR}:∀{h m:Nat} {lo:ByteArray} {hi:Option ByteArray} {b:Int} {cs:List Pr} {bs:List Int},uo σ h m lo hi b cs bs->∀x∈bs,2<=x
 |0,_,_,_,_,_,_,⟨nd,h1,_,_,_,_,_,_,h8⟩=>by
  intro x hx
  rw[h8] at hx
  rw[bO.1 hx]
  exact h1.lo
 |h+1,_,_,_,_,_,_,⟨nd,bs',h1,_,_,_,h5,h6⟩=>by
  subst h5
  intro x hx
  rcases aX.1 hx with rfl|hx
  ·exact h1.lo
  ·exact kR.TH (fun _ _ _ _ _ ht=>uo.two ht) h6 x hx
theorem yg.two {σ:bR}{root:Int}{cs:List Pr}{bs:List Int}(h:yg σ root cs bs):∀x∈bs,2<=x:=by
 rcases h with ⟨_,_,rfl⟩|⟨h,ht⟩
 ·intro x hx;cases hx
 ·exact ht.two
structure Own (σ:bR)(bs:List Int):Prop where
 nd:bs.Nodup
 ex:∀x,σ.hasB x=true->x=0\/x=1\/x∈bs
 size:σ.sz=countB σ.H.old σ.most+nh σ bs
theorem Own.Um {σ σ':bR}{us bs:List Int}(h:Own σ us)(hc:qO σ σ' us bs):Own σ' bs:=by
 refine⟨hc.nd h.nd,fun x hx=> ?_,?_⟩
 ·rcases hc.ex x hx with y|⟨y,z⟩
  ·exact .inr (.inr y)
  ·exact(h.ex x y).imp id (fun e=>e.imp id (fun e=>absurd e z))
 ·have a:=hc.size
  have b:=h.size
  rw[hc.H,hc.most,DX hc.H]
  omega
structure Live (σ:bR)(root:Int)(es:List kS)(tb:List Int):Prop where
 tree:yg σ root (ic es) tb
 val:∀e∈es,ValAt σ e.s e.v e.b
 own:Own σ (tb++dM es)
theorem Live.bb {σ:bR}{root:Int}{es:List kS}{tb:List Int}(h:Live σ root es tb):∀x∈dM es,σ.hasB x=true/\2<=x:=by
 intro x hx
 obtain⟨e,he,hx⟩:=nZ.1 hx
 exact(h.val e he).all x hx
theorem Live.all {σ:bR}{root:Int}{es:List kS}{tb:List Int}(h:Live σ root es tb):∀x∈tb++dM es,σ.hasB x=true/\2<=x:=by
 intro x hx
 rcases dG.1 hx with hx|hx
 ·exact⟨h.tree.has x hx,h.tree.two x hx⟩
 ·exact h.bb x hx
theorem sM {a b:List Int}(h:(a++b).Nodup):∀x∈b,x∉a:=fun x hx ha=>(P9.1 h).2.2 x ha x hx rfl
theorem Mc {σ σ1 σ2 σ3:bR}{root root':Int}{es l o r:List kS}{tb nb:List Int}{key s v:ByteArray}(hL:Live σ root es tb)(hA:vU es key l o r)(h1:qO σ σ1 (dM o) [])(h2:qO σ1 σ2 [] nb)(hv:ValAt σ2 s v nb){n:Nat}(h3:CG σ2 tb (gZ (ic es) key s) n σ3 root'):
  ∃tb',Live σ3 root' (l++⟨key,s,v,nb⟩::r) tb'/\qO σ σ3 (tb++dM es) (tb'++dM (l++⟨key,s,v,nb⟩::r)):=by
 obtain⟨tb',ht,h3,_,_⟩:=h3
 have hall:=hL.all
 have hn:=hL.own.nd
 have hes:=hA.eq
 have hbb:dM es=dM l++dM o++dM r:=by rw[hes,ni,ni]
 obtain⟨R,hR⟩:∃R,R=tb++dM l++dM r:=⟨_,rfl⟩
 have hp1:(tb++dM es).Perm (dM o++R):=by
  rw[hbb,hR]
  have:(tb++(dM l++dM o++dM r)).Perm (tb++(dM o++dM l++dM r)):=((List.perm_append_comm).append_right _).append_left _
  refine this.trans ?_
  have e1:tb++(dM o++dM l++dM r)=tb++dM o++(dM l++dM r):=by simp
  have e2:dM o++(tb++dM l++dM r)=dM o++tb++(dM l++dM r):=by simp
  rw[e1,e2]
  exact List.perm_append_comm.append_right _
 have hn1:=hp1.nodup_iff.1 hn
 have hRa:∀x∈R,σ.hasB x=true:=fun x hx=>(hall x (hp1.mem_iff.2 (bX _ hx))).1
 have c1:=h1.left (rs:=R) hn1 hRa
 have hR1:∀x∈R,σ1.hasB x=true:=fun x hx=>(c1.new x hx).1
 have c2:=h2.left (rs:=R) (c1.nd hn1) hR1
 have hn2:=c2.nd (c1.nd hn1)
 have hp3:(nb++R).Perm (tb++(nb++dM l++dM r)):=by
  rw[hR]
  have e1:nb++(tb++dM l++dM r)=nb++tb++(dM l++dM r):=by simp
  have e2:tb++(nb++dM l++dM r)=tb++nb++(dM l++dM r):=by simp
  rw[e1,e2]
  exact List.perm_append_comm.append_right _
 have hn3:=hp3.nodup_iff.1 hn2
 have hS2:∀x∈nb++R,σ2.hasB x=true:=fun x hx=>(c2.new x hx).1
 have c3:=h3.left (rs:=nb++dM l++dM r) hn3 (fun x hx=>hS2 x (hp3.mem_iff.2 (bX _ hx)))
 have hbb':dM (l++⟨key,s,v,nb⟩::r)=dM l++(nb++dM r):=by rw[ni,Bv]
 have hp4:(tb'++(nb++dM l++dM r)).Perm (tb'++dM (l++⟨key,s,v,nb⟩::r)):=by
  rw[hbb',<-bC (dM l)]
  exact(List.perm_append_comm.append_right _).append_left _
 have C:qO σ σ3 (tb++dM es) (tb'++dM (l++⟨key,s,v,nb⟩::r)):=by
  have a:qO σ σ2 (tb++dM es) (tb++(nb++dM l++dM r)):=(c1.trans c2).perm hp1.symm hp3
  exact(a.trans c3).perm (List.Perm.refl _) hp4
 refine⟨tb',⟨?_,fun e he=> ?_,hL.own.Um C⟩,C⟩
 ·rw[<-hA.is s v nb];exact ht
 ·have hoff:∀x∈nb++dM l++dM r,x∉tb:=sM hn3
  rcases dG.1 he with he|he
  ·have hin:∀x∈e.b,x∈dM l:=fun x hx=>nZ.2 ⟨e,he,hx⟩
   refine(hL.val e (by rw[hes];exact cO _ (cO _ he))).keep fun x hx=> ?_
   have hxR:x∈R:=by rw[hR];exact cO _ (bX _ (hin x hx))
   have f1:=h1.frame x (hRa x hxR) (.inl (sM hn1 x hxR))
   have f2:=h2.frame x f1.1 (.inl (by simp))
   have f3:=h3.frame x f2.1 (.inl (hoff x (cO _ (bX _ (hin x hx)))))
   exact⟨f3.1,f3.2.trans (f2.2.trans f1.2)⟩
  ·rcases aX.1 he with rfl|he
   ·exact hv.keep fun x hx=>h3.frame x (hS2 x (cO _ hx)) (.inl (hoff x (cO _ (cO _ hx))))
   ·have hin:∀x∈e.b,x∈dM r:=fun x hx=>nZ.2 ⟨e,he,hx⟩
    refine(hL.val e (by rw[hes];exact bX _ he)).keep fun x hx=> ?_
    have hxR:x∈R:=by rw[hR];exact bX _ (hin x hx)
    have f1:=h1.frame x (hRa x hxR) (.inl (sM hn1 x hxR))
    have f2:=h2.frame x f1.1 (.inl (by simp))
    have f3:=h3.frame x f2.1 (.inl (hoff x (bX _ (hin x hx))))
    exact⟨f3.1,f3.2.trans (f2.2.trans f1.2)⟩
theorem ug:∀(n:Nat) (f:Nat->Bool) (L:List Nat),L.Nodup->(∀x,x∈L↔x<n/\f x=true)->countB f n=L.length
 |0,f,L,_,h=>by
  cases L with
  |nil=>rfl
  |cons a L=>exact absurd ((h a).1 (aP ..)).1 (Fj _)
 |n+1,f,L,hn,h=>by
  rw[dN]
  by_cases hf:f n=true
  ·have hm:n∈L:=(h n).2 ⟨lT n,hf⟩
   have ih:=ug n f (L.erase n) (hn.erase n) (fun x=>by
    rw[hn.mem_erase_iff,h]
    constructor
    ·rintro⟨a,b,c⟩;exact⟨by omega,c⟩
    ·rintro⟨a,b⟩;exact⟨by omega,by omega,b⟩)
   rw[ih,hf,List.length_erase_of_mem hm]
   have:=List.length_pos_of_mem hm
   simp;omega
  ·have hf':f n=false:=by simpa using hf
   have ih:=ug n f L hn (fun x=>by
    rw[h]
    constructor
    ·rintro⟨a,b⟩
     exact⟨by have:x≠n:=fun e=>hf (e▸b);omega,b⟩
    ·rintro⟨a,b⟩;exact⟨by omega,b⟩)
   rw[ih,hf'];rfl
theorem Own.count {σ:bR}{bs:List Int}(h:Own σ bs)(hok:σ.Ok)(hb:∀x∈bs,σ.hasB x=true/\2<=x):countB σ.now σ.most=2+bs.length:=by
 obtain⟨L,hL⟩:∃L:List Nat,L=bs.map Int.toNat:=⟨_,rfl⟩
 have h2:=hok.two
 have hin:∀x∈L,2<=x/\x<σ.most/\σ.now x=true:=by
  intro x hx
  rw[hL] at hx
  obtain⟨y,hy,rfl⟩:=gV.1 hx
  obtain⟨n,e,a,b⟩:=bR.kJ (hb y hy).1
  have:=(hb y hy).2
  rw[e,cB]
  exact⟨by omega,a,b⟩
 have hnd:L.Nodup:=by
  rw[hL]
  refine List.Pairwise.map _ (R:=fun a b=>a≠b/\2<=a/\2<=b) (fun a b (hab:a≠b/\2<=a/\2<=b) e=>hab.1 (by omega)) ?_
  have:=h.nd
  exact List.Pairwise.imp_of_mem (fun ha hb' hab=>⟨hab,(hb _ ha).2,(hb _ hb').2⟩) this
 rw[ug σ.most σ.now (0::1::L) ?_ fun x=> ?_]
 ·rw[hL];simp;omega
 ·refine List.nodup_cons.2 ⟨fun e=> ?_,List.nodup_cons.2 ⟨fun e=> ?_,hnd⟩⟩
  ·rcases aX.1 e with e|e
   ·cases e
   ·have:=(hin 0 e).1;omega
  ·have:=(hin 1 e).1;omega
 ·constructor
  ·intro hx
   rcases aX.1 hx with rfl|hx
   ·exact⟨by omega,hok.n0⟩
   ·rcases aX.1 hx with rfl|hx
    ·exact⟨by omega,hok.n1⟩
    ·exact(hin x hx).2
  ·rintro⟨a,b⟩
   have hh:σ.hasB (x:Int)=true:=by unfold bR.hasB;rw[cB,b];simp[a]
   rcases h.ex x hh with e|e|e
   ·have:x=0:=by omega
    subst this;exact aP ..
   ·have:x=1:=by omega
    subst this;exact aT _ (aP ..)
   ·refine aT _ (aT _ ?_)
    rw[hL]
    exact gV.2 ⟨x,e,by simp⟩
theorem FR (t:Nat)(w:World)(h:Fb w t):
  Calls Tryz.prog 93 #[.pointer (some ⟨t,0,none⟩)] w fun e w'=>e= .returned (.tuple #[])/\w'=w:=by
 obtain⟨db,h⟩:=h
 have c0:w.cell? ⟨t,0,none⟩=some (.pointer none):=by simp[World.cell?,h]
 have hlt:=(ah.1 h).1
 clear h
 go_enter Tryz.func93,Tryz.ntmps93
 go_wp2_with fail
 go_end0
 exact⟨rfl,rfl⟩
theorem OZ (mp:VS)(root:Int)(w:World)(hr:0<=root):
  Calls Tryz.prog 137 #[.iface 178 mp.agg,.int .i64 root] w fun e w'=>e= .returned (.pointer (some ⟨w.heap.size,0,none⟩))/\bK w' w.heap.size mp root 0/\w'.heap.size=w.heap.size+1/\Below w.heap.size w w':=by
 have hr2:¬root<0:=by omega
 have heq:∀w:World,(binOp BinOp.eql 265 (.iface 178 mp.agg) .nilIface).run Tryz.prog w= .ok (.bool false) w:=fun _=>by kernel_rfl
 go_enter Tryz.func137,Tryz.ntmps137
 go_wp2_with fail
 go_ret
 exact⟨rfl,aF _ _,by simp,aC _ _⟩
theorem OY (t:Nat)(mp:VS)(root err:Int)(w:World)(h:bK w t mp root err):
  Calls Tryz.prog 117 #[.pointer (some ⟨t,0,none⟩)] w fun e w'=>e= .returned (.int .i64 root)/\w'=w:=by
 obtain⟨_,c1,_,_,_,_,hlt⟩:=cells3 h
 go_enter Tryz.func117,Tryz.ntmps117
 go_wp2
 go_ret
 exact⟨rfl,rfl⟩
theorem R3 (v pg d:Nat)(σ:Dk)(l:Lg)(p:Pg)(op:Value)(S:Nat->Prop)(w:World)(hv:w.heap[v]? =some (.cells #[.pointer (some ⟨pg,0,none⟩)] 130 (0,0)))(h:iF w S pg d σ l p op)(hcap:σ.waits.length<=90000):
  Calls Tryz.prog 33 #[.pointer (some ⟨v,0,none⟩)] w fun e w'=>e= .returned (.int .i64 (p.sync σ l).2.2.2)/\∃S',iF w' S' pg d (p.sync σ l).1 (p.sync σ l).2.1 (p.sync σ l).2.2.1 op/\Step S S' w w':=by
 have c0:w.cell? ⟨v,0,none⟩=some (.pointer (some ⟨pg,0,none⟩)):=by simp[World.cell?,hv]
 have hlt:=(ah.1 hv).1
 have HP:=af (Pz pg d σ l p op S w h hcap)
 clear hv h
 go_enter Tryz.func33,Tryz.ntmps33
 go_wp2_with (first
  |(go_at_call 54;go_must (refine HP.out.mono ?_;rintro e w2 ⟨rfl,hp2⟩)))
 go_ret
 exact⟨rfl,hp2⟩
def M6 (l:List UInt8)(root:Nat):Prop:=root<65536/\∃rest,l=[UInt8.ofNat root,UInt8.ofNat (root/256)]++rest
def bR.start (σ:Dk)(l:Lg)(p:Pg)(f:Nat->Bool):bR:=⟨⟨σ,l,p,f⟩,p.blocks σ,Im.none,f,countB f (p.blocks σ)⟩
theorem bR.Ok.start {σ:Dk}{l:Lg}{p:Pg}{f:Nat->Bool}(hp:p.Ok σ l)(hs:σ.Ok)(hd:p.dead=false)(hsd:σ.dead=false)(h2:2<=p.blocks σ)(hhi:∀b,p.blocks σ<=b->f b=false)(h0:f 0=true)(h1:f 1=true):(bR.start σ l p f).Ok:=by
 refine⟨hd,hsd,rfl,h2,?_,hhi,hhi,h0,h1,(fun b hb=>by cases hb),(fun b _ hn ho=> ?_),?_,fun b _=> ?_⟩
 ·have:=hs.hi
  show p.blocks σ<=4096
  unfold Pg.blocks;omega
 ·have hn':f b=true:=hn
  have ho':f b=false:=ho
  rw[hn'] at ho';cases ho'
 ·show countB (fun x=>f x||f x) (p.blocks σ)<=countB f (p.blocks σ)
  exact mZ _ (fun x _ hx=>by simpa using hx)
 ·show (p.look Im.none σ b).length=512
  rw[Pg.A7]
  unfold Im.find
  split
  ·exact hp.fresh.img _ ‹_›
  ·exact hs.get _
def Kn (pg d:Nat)(σ:Dk)(l:Lg)(p:Pg)(f:Nat->Bool)(root:Nat)(S:Nat->Prop)(w:World)(e:Ending)(w':World):Prop:=
 ∃t tr mp S',e= .returned (.tuple #[.pointer (some ⟨t,0,none⟩),.int .i64 0])/\mp.pg=pg/\mp.d=d/\w'.heap[t]? =some (.cells (dw mp (some tr) false 0) 181 (0,0))/\bK w' tr mp root 0/\Inv (bR.start σ l p f) S' mp w'/\Step S S' w w'/\¬S' t/\¬S' tr/\w.heap.size<=t/\w.heap.size<=tr
theorem Ql (v pg d:Nat)(σ:Dk)(l:Lg)(p:Pg)(f:Nat->Bool)(root:Nat)(S:Nat->Prop)(w:World)(hv:w.heap[v]? =some (.cells #[.pointer (some ⟨pg,0,none⟩)] 130 (0,0)))(hvS:¬S v)(h:iF w S pg d σ l p (.pointer none))(hd:p.dead=false)(hsd:σ.dead=false)(h2:2<=p.blocks σ)(hf:p.look Im.none σ 0=bytesOf f)(hhi:∀b,p.blocks σ<=b->f b=false)(h0:f 0=true)(h1:f 1=true)(hr:M6 (p.look Im.none σ 1) root):
  Calls Tryz.prog 77 #[.pointer (some ⟨v,0,none⟩)] w (Kn pg d σ l p f root S w):=by
 have hok:=bR.Ok.start h.ok.1 h.ok.2.1 hd hsd h2 hhi h0 h1
 have c0:w.cell? ⟨v,0,none⟩=some (.pointer (some ⟨pg,0,none⟩)):=by simp[World.cell?,hv]
 have hlt:=(ah.1 hv).1
 have HB:=af (LA pg d σ l p S w h hd)
 have HV:=af hv;have HOK:=af hok
 have hsub:=h.sub
 obtain⟨hr1,rest,hr2⟩:=hr
 have HF:=af (ak hf (ak hhi (ak h0 h1)))
 have HR2:=af hr2
 clear hv h hok hf hhi h0 h1 hr2
 go_enter Tryz.func77,Tryz.ntmps77
 go_wp2_with (first
  |(go_at_call 50;go_must (refine HB.out.mono ?_;rintro e w1 ⟨tx,T,rfl,hp1,htx1,hs1,hT1⟩;refine Stop.of ?_)))
 refine Stop.on ?_
 have hdis:∀g,S g->¬T g:=fun g hg e=>absurd (hT1 g e) (jk.2 (hsub g hg))
 have hv1:=(hs1.1.block v hlt hvS).trans HV.out
 have d0:w1.cell? ⟨v,0,none⟩=some (.pointer (some ⟨pg,0,none⟩)):=by simp[World.cell?,hv1]
 have hl1:=(ah.1 hv1).1
 have HBK:=af (Cg pg d σ l p _ S w1 hp1)
 have HLD:=af (QA tx pg d σ l p _ Im.none S T f w1.drew (hp1.below ((aH _ w1).drew)) (htx1.below ((aH _ w1).drew)) hd hsd h2 HF.out.1 HF.out.2.1 HF.out.2.2.1 HF.out.2.2.2)
 have HP1:=af (ak hp1 (ak htx1 hs1))
 clear hv1 hp1 htx1 hs1
 go_wp2_with (first
  |(go_at_call 52;go_must (refine HBK.out.mono ?_;rintro e w2 ⟨rfl,hw2⟩;subst w2))
  |(go_at_call 135;go_must (refine HLD.out.mono ?_;rintro e w2 ⟨mp,rfl,hmp2,hmlo,hb2⟩;refine Stop.of ?_)))
 refine Stop.on ?_
 have hb12:Below w1.heap.size w1 w2:=((aH _ w1).drew).trans hb2
 have hp2:=HP1.out.1.below hb12
 have htx2:=HP1.out.2.1.below hb12
 have HRD:=tread tx pg d σ l p _ Im.none S T 1 w2 hp2 htx2 hd hsd (by omega)
 rw[HR2.out] at HRD
 have HRD:=af HRD
 go_wp2_with (first
  |(go_at_call 136;go_must (refine HRD.out.mono ?_;rintro e w3 ⟨rv,rfl,hrv3,hro3,hb3⟩;refine Stop.of ?_)))
 refine Stop.on ?_
 obtain⟨ro,rc,rfl,r1,r2,r3,r4⟩:=aW.form hrv3
 have hbt:=UInt8.toNat_lt (UInt8.ofNat root)
 have hbt2:=UInt8.toNat_lt (UInt8.ofNat (root/256))
 have e1:(UInt8.ofNat root).toNat=root%256:=by rw[dD]
 have e2:(UInt8.ofNat (root/256)).toNat=root/256:=by rw[dD];omega
 obtain⟨pb,po,rfl,e30⟩:=hrv3.Bz rfl 0 (.int .u8 ((root%256:Nat):Int)) (by simp[aB,e1])
 obtain⟨pb',po',e',e31⟩:=hrv3.Bz rfl 1 (.int .u8 ((root/256:Nat):Int)) (by simp[aB,e2])
 cases e'
 have hpb:=aD w3 _ e30
 obtain⟨lo,hlo⟩:∃n:Nat,n=root%256:=⟨_,rfl⟩
 obtain⟨hi,hhi⟩:∃n:Nat,n=root/256:=⟨_,rfl⟩
 rw[<-hlo] at e30
 rw[<-hhi] at e31
 have hlo2:lo<256:=by omega
 have hhi2:hi<256:=by omega
 have hroot:root=lo+256*hi:=by omega
 have q1:IntKind.i64.wrap (lo:Int)=(lo:Int):=aS _ (by omega)
 have q2:IntKind.i64.wrap (hi:Int)=(hi:Int):=aS _ (by omega)
 have p1:IntKind.i64.wrap ((hi:Int)*256)=((256*hi:Nat):Int):=by rw[aS _ (by omega)];omega
 have o1:=DV lo hi 256 root 8 rfl hlo2 hroot (by omega)
 have HRT:=af hroot
 obtain⟨m1,hm1⟩:∃m:Nat,Hid (256*hi=m):=⟨_,af rfl⟩
 rw[hm1.out] at p1 o1
 have HP3:=af (ak (hp2.below hb3) (ak (htx2.below hb3) (hb12.trans (hb3.mono hb12.size))))
 have hmp3:=af ((hb3.block mp (ah.1 hmp2).1).trans hmp2)
 clear hrv3 hro3 e1 e2 hbt hbt2 hlo hhi hroot hp2 htx2 hmp2
 go_upto_region 15 with (fail)
 have hb4:=aC w3 (.cells #[.pointer (some ⟨tx,0,none⟩),.pointer (some ⟨mp,0,none⟩)] 178)
 have h4:=aF w3 (.cells #[.pointer (some ⟨tx,0,none⟩),.pointer (some ⟨mp,0,none⟩)] 178)
 obtain⟨sb,hsb⟩:∃sb,Hid (w3.heap.size=sb):=⟨_,af rfl⟩
 obtain⟨w4,hw4⟩:∃w4,Hid (w3.alloc (.cells #[.pointer (some ⟨tx,0,none⟩),.pointer (some ⟨mp,0,none⟩)] 178)=w4):=⟨_,af rfl⟩
 rw[hw4.out] at hb4 h4 ⊢
 rw[hsb.out] at h4 ⊢
 have HCL:=af (show ∀W:World,Below w4.heap.size w4 W->(W.cell? ⟨sb,0,none⟩=some (.pointer (some ⟨tx,0,none⟩))/\W.cell? ⟨sb,1,none⟩=some (.pointer (some ⟨mp,0,none⟩))/\W.cell? ⟨pb,po,none⟩=some (.int .u8 (lo:Int))/\W.cell? ⟨pb,po+1,none⟩=some (.int .u8 (hi:Int))/\sb<W.heap.size/\pb<W.heap.size) from fun W hW=>by
  have hl:=(ah.1 h4).1
  have hl3:=ax hpb hb4.size
  have h5:=(hW.block sb hl).trans h4
  exact⟨by simp[World.cell?,h5],by simp[World.cell?,h5],(hW.cell (p:=⟨pb,po,none⟩) hl3).trans ((hb4.cell (p:=⟨pb,po,none⟩) hpb).trans e30),(hW.cell (p:=⟨pb,po+1,none⟩) hl3).trans ((hb4.cell (p:=⟨pb,po+1,none⟩) hpb).trans e31),ax hl hW.size,ax hl3 hW.size⟩)
 have HB4:=af hb4
 clear e30 e31 h4 hb4
 refine aK (fun W=>W.cell? ⟨sb,0,none⟩=some (.pointer (some ⟨tx,0,none⟩))/\W.cell? ⟨sb,1,none⟩=some (.pointer (some ⟨mp,0,none⟩))/\W.cell? ⟨pb,po,none⟩=some (.int .u8 (lo:Int))/\W.cell? ⟨pb,po+1,none⟩=some (.int .u8 (hi:Int))/\sb<W.heap.size/\pb<W.heap.size) (fun i=> !([13,15].contains i)) [0,1,2,3,4,5,6,7,8,9,10,11,12,13,14,15,16,17] rfl (by kernel_rfl) (HCL.out _ ((aH _ w4).drew)) ?_
 repeat ((refine bq (v:= ?_) rfl rfl (fun _ _ _ h=>h) rfl (fun W hW=> ?_) ?_);rotate_left;(focus ((try dsimp only at hW);obtain⟨a0,a1,a2,a3,a4,a5⟩:=hW;(go_simp;first|done|with_reducible rfl)));(try simp only[Act.put,aj,av,au]))
 obtain⟨ms,hms⟩:∃ms:VS,ms=⟨tx,pg,d,mp⟩:=⟨_,rfl⟩
 have HBO:=af (OZ ms (root:Int) w4.drew (by omega))
 rw[hms] at HBO
 refine bP rfl rfl rfl ?_;intro K hK;go_simp
 refine HBO.out.mono ?_;rintro e w5 ⟨rfl,htr5,-,hb5⟩
 have hb45:Below w4.heap.size w4 w5:=((aH _ w4).drew).trans hb5
 refine hK.out _ _ (HCL.out _ hb45) ?_
 (try simp only[Act.put,aj,av,au])
 repeat ((refine bq (v:= ?_) rfl rfl (fun _ _ _ h=>h) rfl (fun W hW=> ?_) ?_);rotate_left;(focus ((try dsimp only at hW);obtain⟨a0,a1,a2,a3,a4,a5⟩:=hW;(go_simp;first|done|with_reducible rfl)));(try simp only[Act.put,aj,av,au]))
 refine bP rfl rfl rfl ?_;intro K hK;go_simp
 have hb6:=aC w5 (.cells #[.pointer (some ⟨tx,0,none⟩),.pointer (some ⟨mp,0,none⟩),.pointer (some ⟨w4.heap.size,0,none⟩),.bool false,.int .i64 0] 181)
 have h6:=aF w5 (.cells #[.pointer (some ⟨tx,0,none⟩),.pointer (some ⟨mp,0,none⟩),.pointer (some ⟨w4.heap.size,0,none⟩),.bool false,.int .i64 0] 181)
 have hb46:=hb45.trans (hb6.mono hb45.size)
 refine hK.out _ _ (HCL.out _ hb46) ?_
 (try simp only[Act.put,aj,av,au])
 repeat ((refine bq (v:= ?_) rfl rfl (fun _ _ _ h=>h) rfl (fun W hW=> ?_) ?_);rotate_left;(focus ((try dsimp only at hW);obtain⟨a0,a1,a2,a3,a4,a5⟩:=hW;(go_simp;first|done|with_reducible rfl)));(try simp only[Act.put,aj,av,au]))
 refine bF ?_
 go_wp2_with fail
 go_ret2
 have hb36:=HB4.out.trans (hb46.mono HB4.out.size)
 have hmpl:=(ah.1 hmp3.out).1
 have hT1':∀g,T g->w.heap.size<=g:=hT1
 have hl3:w1.heap.size<=w3.heap.size:=HP3.out.2.2.size
 have hl01:=HP1.out.2.2.1.size
 have hbt:w3.heap.size<=w4.heap.size:=HB4.out.size
 have hbu:w4.heap.size<=w5.heap.size:=hb45.size
 have hsub1:∀g,S g->g<w1.heap.size:=fun g hg=>ax (hsub g hg) hl01
 have hsubT:∀g,T g->g<w1.heap.size:=HP1.out.2.1.sub
 have hlo2':w1.heap.size<=mp:=hmlo
 refine⟨w5.heap.size,w4.heap.size,⟨tx,pg,d,mp⟩,fun g=>S g\/T g\/g=mp,rfl,rfl,rfl,h6,?_,⟨S,T,⟨HOK.out,HP3.out.1.below hb36,HP3.out.2.1.below hb36,(hb36.block mp hmpl).trans hmp3.out,hdis,fun e=>absurd (hsub1 mp e) (aV.2 hlo2'),fun e=>absurd (hsubT mp e) (aV.2 hlo2')⟩,fun g=>Iff.rfl⟩,⟨?_,fun g hg=> ?_⟩,?_,?_,?_,?_⟩
 ·exact(hb6.block _ (ah.1 htr5).1).trans htr5
 ·refine(HP1.out.2.2.1.trans (Keep.of_below (HP3.out.2.2.trans (hb36.mono hl3)) d9) (fun _ _ e=>e.elim))
 ·rcases hg with hg|hg|hg
  ·exact .inl hg
  ·exact .inr (hT1' g hg)
  ·exact .inr (by rw[hg];omega)
 ·rintro(e|e|e)
  ·have:=hsub1 _ e;omega
  ·have:=hsubT _ e;omega
  ·omega
 ·rintro(e|e|e)
  ·have:=hsub1 _ e;omega
  ·have:=hsubT _ e;omega
  ·omega
 ·omega
 ·omega
theorem EB:∀(l:List Int) (σ:bR),(σ.frees l).tk=σ.tk
 |[],_=>rfl
 |y::l,σ=>EB l (σ.gone y)
theorem FM {w:World}{t tr:Nat}{mp mp':VS}{tr':Option Nat}{ch:Bool}{er root err:Int}(h:w.heap[t]? =some (.cells (dw mp tr' ch er) 181 (0,0)))(ht:bK w tr mp' root err):t≠tr:=by
 rintro rfl
 unfold bK at ht
 rw[h] at ht
 injection ht with ht
 injection ht with _ h2
 exact absurd h2 (by decide)
theorem AJ (l:List Int):(uI l).Perm l:=vW _ _
theorem R7 (t tr:Nat)(mp:VS)(root:Int)(ch:Bool)(er:Int)(σ:bR)(S:Nat->Prop)(w:World)(es l o r:List kS)(tb:List Int)(key:ByteArray)(h:w.heap[t]? =some (.cells (dw mp (some tr) ch er) 181 (0,0)))(hI:Inv σ S mp w)(ht:bK w tr mp root 0)(hL:Live σ root es tb)(hA:vU es key l o r)(hl:es.length<=4090)(hg:1<=key.size/\key.size<=128):
  Calls Tryz.prog 492 #[.pointer (some ⟨t,0,none⟩),.string key] w fun e w'=>e= .returned (.int .i64 0)/\∃σ1,Inv σ1 S mp w'/\Step S S w w'/\qO σ σ1 (dM o) []/\σ1.tk=σ.tk:=by
 have hl':(ic es).length<=4090:=by rw[jo];exact hl
 have hsmall:qG ((cu (ic es) key).getD ⟨#[]⟩).data.toList=none->((cu (ic es) key).getD ⟨#[]⟩).size<=1000000->dM o=[]->Calls Tryz.prog 492 #[.pointer (some ⟨t,0,none⟩),.string key] w fun e w'=>e= .returned (.int .i64 0)/\∃σ1,Inv σ1 S mp w'/\Step S S w w'/\qO σ σ1 (dM o) []/\σ1.tk=σ.tk:=by
  intro h1 h2 h3
  refine(FJ t tr mp root ch er σ S w (ic es) tb key h hI ht hL.tree hl' hg h1 h2).mono ?_
  rintro e w' ⟨rfl,hb⟩
  rw[h3]
  exact⟨rfl,σ,hI.below hb,Step.of_below hb,qO.refl (fun x hx=>by cases hx),rfl⟩
 rcases hA.one with rfl|⟨e,rfl,hk⟩
 ·have hls:cu (ic es) key=none:=hA.ls
  refine hsmall ?_ ?_ rfl
  ·rw[hls];rfl
  ·rw[hls];exact aN _
 ·have hls:cu (ic es) key=some e.s:=hA.ls
  have hv:=hL.val e (by rw[hA.eq];simp)
  have hbo:dM [e]=e.b:=by simp[dM]
  rcases hv with ⟨h1,h2,h3⟩|⟨hd,rs,h1,h2,h3,h4⟩
  ·refine hsmall ?_ ?_ (by rw[hbo,h3])
   ·rw[hls,RN,h1];exact xJ _
   ·rw[hls,RN,h1]
    have:(strOf (0::e.v.data.toList)).size=e.v.size+1:=by show (0::e.v.data.toList).toArray.size=e.v.data.size+1;simp
    omega
  ·refine(FK t tr mp root ch er σ S w (ic es) tb key e.s hd e.v.data.toList rs h hI ht hL.tree hl' hg hls (by rw[h1];exact zn hd h2.1) (by rw[h1];show [1,UInt8.ofNat hd,UInt8.ofNat (hd/256)].toArray.size<=_;simp) h3).mono ?_
   rintro e' w' ⟨rfl,hI',hs'⟩
   refine⟨rfl,_,hI',hs',?_,EB _ _⟩
   rw[hbo,h4]
   exact(Bo (uI (kX hd rs)) σ (fun x hx=>(h3.all x ((Dp x).1 hx)).1) ((AJ _).nodup_iff.2 h3.nd)).perm (AJ _) (List.Perm.refl _)
structure CR (w:World)(S:Nat->Prop)(t tr:Nat)(mp:VS)(σ:bR)(root err:Int)(ch:Bool)(er:Int):Prop where
 tx:w.heap[t]? =some (.cells (dw mp (some tr) ch er) 181 (0,0))
 tree:bK w tr mp root err
 inv:Inv σ S mp w
 nt:¬S t
 ntr:¬S tr
theorem CR.keep {w w':World}{S M:Nat->Prop}{t tr:Nat}{mp:VS}{σ:bR}{root err:Int}{ch:Bool}{er:Int}(h:CR w S t tr mp σ root err ch er)(hk:Keep M w w')(hM:∀g,S g\/g=t\/g=tr->¬M g):CR w' S t tr mp σ root err ch er:=
 ⟨(hk.block t (ah.1 h.tx).1 (hM t (.inr (.inl rfl)))).trans h.tx,(hk.block tr (ah.1 h.tree).1 (hM tr (.inr (.inr rfl)))).trans h.tree,h.inv.mF hk (fun g hg=>hM g (.inl hg)),h.nt,h.ntr⟩
theorem CR.below {w w':World}{S:Nat->Prop}{t tr:Nat}{mp:VS}{σ:bR}{root err:Int}{ch:Bool}{er:Int}(h:CR w S t tr mp σ root err ch er)(hb:Below w.heap.size w w'):CR w' S t tr mp σ root err ch er:=h.keep (Keep.of_below hb d9) (fun _ _ e=>e)
def jA (S S':Nat->Prop)(t tr:Nat)(w w':World):Prop:=Keep (fun g=>S g\/g=t\/g=tr) w w'/\∀g,S' g->S g\/w.heap.size<=g
theorem jA.of {S S':Nat->Prop}{t tr:Nat}{w w':World}(h:Step S S' w w'):jA S S' t tr w w':=⟨h.1.mono (fun _ _ e=> .inl e),h.2⟩
theorem jA.trans {S S1 S2:Nat->Prop}{t tr:Nat}{w w1 w2:World}(h:jA S S1 t tr w w1)(k:jA S1 S2 t tr w1 w2):jA S S2 t tr w w2:=
 ⟨h.1.trans k.1 (fun g hg e=>e.elim (fun x=>(h.2 g x).elim .inl (fun y=>absurd hg (aV.2 y))) .inr),fun g hg=>(k.2 g hg).elim (fun x=>h.2 g x) (fun x=> .inr (aG h.1.size x))⟩
theorem jA.one {S:Nat->Prop}{t tr:Nat}{w w':World}(h:Keep (· =t) w w'):jA S S t tr w w':=⟨h.mono (fun _ _ e=> .inr (.inl e)),fun _ hg=> .inl hg⟩
theorem jA.tree {S S':Nat->Prop}{t tr:Nat}{w w':World}(h:Keep (fun g=>S g\/g=tr) w w')(h2:∀g,S' g->S g\/w.heap.size<=g):jA S S' t tr w w':=⟨h.mono (fun _ _ e=>e.imp id .inr),h2⟩
def Uo (σ σ':bR)(tb:List Int)(c:Nat):Prop:=∀L,σ.sz+c<=L+nh σ tb->σ.tk<=L->σ'.tk<=L
def xA (t tr:Nat)(mp:VS)(S:Nat->Prop)(σ:bR)(ch:Bool)(w w':World):Prop:=
 ∃σ' S' root' err',CR w' S' t tr mp σ' root' err' ch 12/\σ'.H=σ.H/\σ'.most=σ.most/\jA S S' t tr w w'
def jI (value:ByteArray):Nat:=if value.size<=63 then 0 else 1+DZ value.size
def IJ (t tr:Nat)(mp:VS)(S:Nat->Prop)(σ:bR)(es l r:List kS)(tb:List Int)(key value:ByteArray)(w w':World):Prop:=
 ∃σ' S' root' tb' s nb,CR w' S' t tr mp σ' root' 0 true 0/\Live σ' root' (l++⟨key,s,value,nb⟩::r) tb'/\qO σ σ' (tb++dM es) (tb'++dM (l++⟨key,s,value,nb⟩::r))/\jA S S' t tr w w'/\Uo σ σ' tb (2*(es.length+1)+jI value)
theorem Js (value:ByteArray):(⟨#[0]⟩:ByteArray)++value=strOf (0::value.data.toList):=by
 apply Nq
 rw[ByteArray.data_append]
 apply BF.1
 rw[KE]
 rfl
theorem wI (t tr:Nat)(mp:VS)(root:Int)(ch:Bool)(σ:bR)(S:Nat->Prop)(w:World)(es l o r:List kS)(tb:List Int)(key:ByteArray)(hT:CR w S t tr mp σ root 0 ch 0)(hL:Live σ root es tb)(hA:vU es key l o r)(hl:es.length<=4090)(hg:1<=key.size/\key.size<=128):
  Calls Tryz.prog 215 #[.pointer (some ⟨t,0,none⟩),.string key] w fun e w'=>e= .returned (.tuple #[.string ((cu (fM es) key).getD ByteArray.empty),.bool (cu (fM es) key).isSome,.int .i64 0])/\Below w.heap.size w w':=by
 have hl':(ic es).length<=4090:=by rw[jo];exact hl
 rcases hA.one with rfl|⟨e,rfl,hk⟩
 ·have h1:cu (ic es) key=none:=hA.ls
  have h2:cu (fM es) key=none:=hA.lv
  have:=R6 t tr mp root ch σ S w (ic es) tb key ByteArray.empty [] hT.tx hT.inv hT.tree hL.tree hl' hg (fun s hs=>by rw[h1] at hs;cases hs)
  rw[h1] at this
  rw[h2]
  exact this
 ·have h1:cu (ic es) key=some e.s:=hA.ls
  have h2:cu (fM es) key=some e.v:=hA.lv
  have:=R6 t tr mp root ch σ S w (ic es) tb key e.v e.b hT.tx hT.inv hT.tree hL.tree hl' hg (fun s hs=>by
   rw[h1] at hs;cases hs
   exact hL.val e (by rw[hA.eq];simp))
  rw[h1] at this
  rw[h2]
  exact this
theorem Jb (t tr:Nat)(mp:VS)(root:Int)(ch:Bool)(σ:bR)(S:Nat->Prop)(w:World)(es l o r:List kS)(tb:List Int)(key value:ByteArray)(hT:CR w S t tr mp σ root 0 ch 0)(hL:Live σ root es tb)(hA:vU es key l o r)(hl:es.length<=4090)(hg:1<=key.size/\key.size<=128)(hv:value.size<=49152)(hs:cu (fM es) key=some value):
  Calls Tryz.prog 411 #[.pointer (some ⟨t,0,none⟩),.string key,.string value] w fun e w'=>e= .returned (.int .i64 0)/\Below w.heap.size w w':=by
 have HU:=af (sG t mp tr ch 0 key w hT.tx)
 have hu:jl 0 key=0:=by unfold jl;rw[if_neg (by simp),if_neg (by omega)]
 rw[hu] at HU
 have HG:=wI t tr mp root ch σ S w es l o r tb key hT hL hA hl hg
 rw[hs] at HG
 have HG:=af HG
 have x1:¬(49152:Int)<(value.size:Int):=by omega
 clear hT hu
 go_enter Tryz.func411,Tryz.ntmps411
 go_wp2_with (first
  |(go_at_call 116;go_must (refine HU.out.mono ?_;rintro e w1 ⟨rfl,rfl⟩))
  |(go_at_call 215;go_must (refine HG.out.mono ?_;rintro e w1 ⟨rfl,hb1⟩)))
 go_ret
 exact⟨rfl,hb1⟩
theorem FI (t tr:Nat)(mp:VS)(root:Int)(ch:Bool)(σ:bR)(S:Nat->Prop)(w:World)(es l o r:List kS)(tb:List Int)(key value:ByteArray)(hT:CR w S t tr mp σ root 0 ch 0)(hL:Live σ root es tb)(hA:vU es key l o r)(hl:es.length<=4090)(hg:1<=key.size/\key.size<=128)(hv:value.size<=63)(there:Bool)(was:ByteArray)(hget:(cu (fM es) key).isSome=there/\(cu (fM es) key).getD ByteArray.empty=was)(hno:there=true->(was.toList==value.toList)=false)(hz:es.length<=999/\2+eu (gZ (ic es) key (strOf (0::value.data.toList)))<=512):
  Calls Tryz.prog 411 #[.pointer (some ⟨t,0,none⟩),.string key,.string value] w fun e w'=>(e= .returned (.int .i64 0)/\IJ t tr mp S σ es l r tb key value w w')\/
   (e= .returned (.int .i64 12)/\σ.most+nh σ tb<σ.sz+2*(es.length+1)+jI value/\xA t tr mp S σ ch w w'):=by
 have hne:=FM hT.tx hT.tree
 have HU:=af (sG t mp tr ch 0 key w hT.tx)
 have hu:jl 0 key=0:=by unfold jl;rw[if_neg (by simp),if_neg (by omega)]
 rw[hu] at HU
 have HG:=wI t tr mp root ch σ S w es l o r tb key hT hL hA hl hg
 rw[hget.1,hget.2] at HG
 have HG:=af HG
 have x1:¬(49152:Int)<(value.size:Int):=by omega
 have x2:¬(63:Int)<(value.size:Int):=by omega
 have hb:jI value=0:=if_pos hv
 have HBC:=af hb
 have x0:=hv
 have HT:=af hT
 have hl':(ic es).length<=999:=by rw[jo];exact hz.1
 have HZ:=af hz.2;clear hz
 have hall:=hL.all
 have hnd:=hL.own.nd
 have hbo:∀x∈dM o,x∈dM es:=fun x hx=>by rw[hA.eq,ni,ni];simp[hx]
 have hcnt:=hL.tree.count
 rw[jo] at hcnt
 have hnh:=DW σ tb
 have hsum:(⟨#[0]⟩:ByteArray)++value=strOf (0::value.data.toList):=Js value
 have hsz0:(strOf (0::value.data.toList)).size=value.size+1:=by show (0::value.data.toList).toArray.size=value.data.size+1;simp
 have hadd:∀W:World,(Op.stringOp .add (⟨#[0]⟩:ByteArray) value).run Tryz.prog W= .ok (.string (strOf (0::value.data.toList))) W:=fun W=>by rw[<-hsum];exact gB W _ _ (by show ((1:Nat):Int)<=_;omega) (by omega)
 have HSZ:=af hsz0;have HSUM:=af hsum
 obtain⟨small,hsmall⟩:∃s,Hid (strOf (0::value.data.toList)=s):=⟨_,af rfl⟩
 rw[hsmall.out] at hadd HSZ HSUM HZ
 have HCNT:=af (ak hcnt (ak hnh hb))
 clear hT hu hsum hsz0 hb hcnt hnh
 go_enter Tryz.func411,Tryz.ntmps411
 go_wp2_with (first
  |(go_at_call 116;go_must (refine HU.out.mono ?_;rintro e w1 ⟨rfl,rfl⟩))
  |(go_at_call 215;go_must (refine HG.out.mono ?_;rintro e w1 ⟨rfl,hb1⟩;refine Stop.of ?_)))
 refine Stop.on ?_
 have hT1:=HT.out.below hb1
 have hlt1:=(ah.1 hT1.tx).1
 have HD:=af (R7 t tr mp root ch 0 σ S w1 es l o r tb key hT1.tx hT1.inv hT1.tree hL hA hl hg)
 have HT1:=af (ak hT1 hb1)
 clear hT1 hb1
 cases there
 all_goals
  try have hno:=hno rfl
  go_wp2_with (first
   |(go_at_call 492;go_must (refine HD.out.mono ?_;rintro e w2 ⟨rfl,σ1,hI1,hs1,hc1,htk1⟩;refine Stop.of ?_)))
  refine Stop.on ?_
  have hT2:CR w2 S t tr mp σ1 root 0 ch 0:=⟨(hs1.1.block t hlt1 HT.out.nt).trans HT1.out.1.tx,(hs1.1.block tr (ah.1 HT1.out.1.tree).1 HT.out.ntr).trans HT1.out.1.tree,hI1,HT.out.nt,HT.out.ntr⟩
  have hTr1:yg σ1 root (ic es) tb:=hL.tree.keep hc1 (fun x hx=> .inl (fun e=>sM hnd x (hbo x e) hx))
  have hlt2:=(ah.1 hT2.tx).1
  have HS2:=af ((jA.of (t:=t) (tr:=tr) (Step.of_below (S:=S) HT1.out.2)).trans (jA.of hs1))
  have HC1:=af hc1
  have HTR1:=af hTr1
  clear hI1 hs1 hc1 hTr1
  have hc2:qO σ1 σ1 [] []:=qO.refl (fun x hx=>by cases hx)
  have hv2:ValAt σ1 small value []:= .inl ⟨hsmall.out.symm,x0,rfl⟩
  have HV2:=af (ak hc2 hv2)
  clear hc2 hv2
  have HPT:=af (Lv tr mp root σ1 S (ic es) tb key small w2 hT2.inv hT2.tree HT.out.ntr HTR1.out hl' ⟨hg,by have:=HSZ.out;omega⟩ HZ.out)
  have c2:World.cell? w2 ⟨t,2,none⟩=some (.pointer (some ⟨tr,0,none⟩)):=by simp[World.cell?,hT2.tx,dw]
  have HT2:=af hT2
  clear hT2
  go_wp2_with (first
   |(go_at_call 494;go_must (refine HPT.out.mono ?_;rintro e w5 (⟨rfl,σ3,S3,b3,hI3,ht3,hst3,hP3,hk3,hn3⟩|⟨rfl,hlost,σ3,S3,hI3,ht3,hst3,hH3,hm3,hk3,hn3⟩)<;>refine Stop.of ?_)))
  ·refine Stop.on ?_
   have htx3:=(hk3.block t hlt2 (fun e=>e.elim HT.out.nt hne)).trans HT2.out.tx
   have hns3:¬S3 t:=fun e=>(hn3 t e).elim HT.out.nt (fun x=>absurd hlt2 (aV.2 x))
   have d3:w5.cell? ⟨t,3,none⟩=some (.bool ch):=by simp[World.cell?,htx3,dw]
   have f3:w5.frozen? ⟨t,3,none⟩=false:=by simp[World.frozen?,htx3]
   have hlt3:=(ah.1 htx3).1
   have HX3:=af (ak htx3 (ak hI3 (ak ht3 (ak hk3 hn3))))
   have HP3:=af hP3
   clear htx3 hI3 ht3 hk3 hn3 hP3
   go_wp2_with fail
   go_ret
   have hk4:Keep (· =t) w5 (w5.setCell ⟨t,3,none⟩ (.bool true)):=(Keep.refl (· =t) _).setCell (p:=⟨t,3,none⟩) (.inr rfl) _
   obtain⟨tb',hL',hC'⟩:=Mc hL hA HC1.out HV2.out.1 HV2.out.2 HP3.out
   refine .inl ⟨rfl,σ3,S3,b3,tb',small,_,⟨?_,?_,HX3.out.2.1.mF hk4 (fun g hg e=>hns3 (e▸hg)),hns3,hst3⟩,hL',hC',?_,fun L r t0=> ?_⟩
   ·simp[World.setCell,aJ,HX3.out.1]
    rfl
   ·exact(hk4.block tr (ah.1 HX3.out.2.2.1).1 (fun e=>hne e.symm)).trans HX3.out.2.2.1
   ·exact(HS2.out.trans (jA.tree HX3.out.2.2.2.1 HX3.out.2.2.2.2)).trans (jA.one hk4)
   ·obtain⟨_,_,_,hpk,_⟩:=HP3.out
    have hCC:=HC1.out.trans HV2.out.1
    have hsz:=hCC.size
    have hsz1:=HC1.out.size
    have hnl:=DW σ []
    have hcc:=HCNT.out
    have hz:nh σ []=0:=rfl
    have h0:nh σ []=0:=rfl
    rw[hcc.2.2] at r
    refine hpk L ?_ ?_
    ·unfold M7
     rw[DX hCC.H,jo]
     omega
    ·rw[htk1];exact t0
  ·refine Stop.on ?_
   have htx3:=(hk3.block t hlt2 (fun e=>e.elim HT.out.nt hne)).trans HT2.out.tx
   have hns3:¬S3 t:=fun e=>(hn3 t e).elim HT.out.nt (fun x=>absurd hlt2 (aV.2 x))
   have HSP:=af (Qi t mp (some tr) ch 0 12 w5 htx3)
   have HX3:=af (ak htx3 (ak hI3 (ak ht3 (ak hk3 hn3))))
   have HLO:=af (ak hlost (ak hH3 hm3))
   clear htx3 hI3 ht3 hk3 hn3 hlost hH3 hm3
   go_wp2_with (first
    |(go_at_call 333;go_must (refine HSP.out.mono ?_;rintro e w6 ⟨rfl,h6,hk6⟩)))
   go_ret
   have hCC:=HC1.out.trans HV2.out.1
   refine .inr ⟨rfl,?_,σ3,S3,root,12,⟨h6,(hk6.block tr (ah.1 HX3.out.2.2.1).1 (fun e=>hne e.symm)).trans HX3.out.2.2.1,HX3.out.2.1.mF hk6 (fun g hg e=>hns3 (e▸hg)),hns3,hst3⟩,HLO.out.2.1.trans hCC.H,HLO.out.2.2.trans hCC.most,(HS2.out.trans (jA.tree HX3.out.2.2.2.1 HX3.out.2.2.2.2)).trans (jA.one hk6)⟩
   have hno3:=HLO.out.1
   have hsz:=hCC.size
   have hnl:=DW σ []
   unfold Room at hno3
   rw[DX hCC.H,hCC.most,jo] at hno3
   have hcc:=HCNT.out
   have h0:nh σ []=0:=rfl
   rw[hcc.2.2]
   omega
def qF (kv:List Pr)(key:ByteArray)(most:Int):List Pr:=(kv.drop (cZ kv key)).take most.toNat
theorem aQ.set2 {w:World}{S:Nat->Prop}{B g n c:Nat}{ps:List Pr}(h:aQ w S B 188 2 (.slice (some ⟨g,0,none⟩) n c) n (bZ ps))(i:Nat)(hi:i<n)(hn:ps.length=n)(u:ByteArray):
  aQ (w.setCell ⟨g,i*2+1,none⟩ (.string u)) S B 188 2 (.slice (some ⟨g,0,none⟩) n c) n (bZ (ps.set i (ps[i].1,u)))/\Keep (· =g) w (w.setCell ⟨g,i*2+1,none⟩ (.string u))/\w.frozen? ⟨g,i*2+1,none⟩=false/\g<w.heap.size/\B<=g:=by
 obtain⟨cur,hr,hl,hx,hBg,hSg,hc,hc2⟩:=h.row
 have hk5:Keep (· =g) w (w.setCell ⟨g,i*2+1,none⟩ (.string u)):=Keep.setCell (M:=(· =g)) (p:=⟨g,i*2+1,none⟩) (Keep.refl _ _) (.inr rfl) _
 have hr':Row (w.setCell ⟨g,i*2+1,none⟩ (.string u)) g 188 (cur.set (i*2+1) (.string u)):=by
  unfold Row at hr ⊢
  simp[World.setCell,aJ,hr]
 refine⟨?_,hk5,hr.frozen _,hr.lt,hBg⟩
 have:=hr'.own (S:=S) (B:=B) (k:=2) (cap:=c) n (by simpa using hl) hBg hSg hc hc2
 rw[show (cur.set (i*2+1) (.string u)).take (n*2)=bZ (ps.set i (ps[i].1,u)) from by rw[<-xI _ _ i (by omega),<-hx,<-List.take_set]] at this
 exact this
def sZ (es:List kS)(k:Nat):List Pr:=fM (es.take k)++ic (es.drop k)
theorem mY (es:List kS)(k:Nat):(sZ es k).length=es.length:=by
 unfold sZ
 rw[ay,kG,jo,aL,bB];omega
theorem Il (es:List kS)(k:Nat)(h:k<es.length):(sZ es k)[k]'(by rw[mY];exact h)=(es[k].k,es[k].s):=by
 unfold sZ
 have hl:(fM (es.take k)).length=k:=by rw[kG,aL];omega
 rw[yG (by omega)]
 simp[ic,hl]
theorem LM (es:List kS)(k:Nat)(h:k<es.length):(sZ es k).set k (es[k].k,es[k].v)=sZ es (k+1):=by
 unfold sZ
 have hl:(fM (es.take k)).length=k:=by rw[kG,aL];omega
 have e:ic (es.drop k)=(es[k].k,es[k].s)::ic (es.drop (k+1)):=by rw[dA h];rfl
 rw[dm _ _ (by omega),hl,jN,e,av,aM h,kH]
 simp[fM]
theorem LQ (es:List kS):sZ es es.length=fM es:=by unfold sZ;simp[ic]
theorem JP (es:List kS):sZ es 0=ic es:=by unfold sZ;simp[fM]
theorem Jy (es:List kS)(key:ByteArray)(most:Int):∃xs:List kS,(∀e∈xs,e∈es)/\((ic es).drop (cZ (ic es) key)).take most.toNat=ic xs/\qF (fM es) key most=fM xs:=by
 refine⟨(es.drop (qL es key)).take most.toNat,fun e he=>tQ (nN he),?_,?_⟩
 ·show ((ic es).drop (cZ (ic es) key)).take most.toNat=_
  unfold ic
  rw[Cf (fun e=>(e.k,e.s)) (fun _=>rfl),jR,mP]
 ·unfold qF fM
  rw[Cf (fun e=>(e.k,e.v)) (fun _=>rfl),jR,mP]
theorem R4 (t tr:Nat)(mp:VS)(root:Int)(ch:Bool)(σ:bR)(S:Nat->Prop)(w:World)(es:List kS)(tb:List Int)(key:ByteArray)(most:Int)(hT:CR w S t tr mp σ root 0 ch 0)(hL:Live σ root es tb)(hl:es.length<=4090):
  Calls Tryz.prog 238 #[.pointer (some ⟨t,0,none⟩),.string key,.int .i64 most] w fun e w'=>∃v,e= .returned (.tuple #[v,.int .i64 0])/\aQ w' S w.heap.size 188 2 v (qF (fM es) key most).length (bZ (qF (fM es) key most))/\Below w.heap.size w w':=by
 have HU:=af (sG t mp tr ch 0 ⟨#[107]⟩ w hT.tx)
 have hu:jl 0 (⟨#[107]⟩:ByteArray)=0:=by decide
 rw[hu] at HU
 obtain⟨xs,hx1,hx2,hx3⟩:=Jy es key most
 have HS:=Jw tr mp root σ S (ic es) tb key most w hT.inv hT.tree hL.tree (by rw[jo];exact hl)
 have hx2:((ic es).drop (cZ (ic es) key)).take most.toNat=ic xs:=hx2
 rw[hx2] at HS
 have HS:=af HS
 have HXS:=af (ak hx1 hx3)
 have c2:w.cell? ⟨t,2,none⟩=some (.pointer (some ⟨tr,0,none⟩)):=by simp[World.cell?,hT.tx,dw]
 have hlt:=(ah.1 hT.tx).1
 have HT:=af hT
 rw[hx3,kG]
 obtain⟨n,hn⟩:∃n,n=xs.length:=⟨_,rfl⟩
 have HN:=af hn
 rw[jo,<-hn] at HS
 rw[<-hn]
 clear hT hu hx1 hx2 hx3 hn
 go_enter Tryz.func238,Tryz.ntmps238
 go_wp2_with (first
  |(go_at_call 116;go_must (refine HU.out.mono ?_;rintro e w1 ⟨hw1,rfl⟩;subst w1))
  |(go_at_call 82;go_must (refine HS.out.mono ?_;rintro e w1 ⟨v,rfl,hown1,hb1⟩;refine Stop.of ?_)))
 refine Stop.on ?_
 obtain⟨ao,cp,rfl,_,_,_,_⟩:=aW.form hown1.dL
 rw[<-JP] at hown1
 have HO1:=af hown1;have HB1:=af hb1
 clear hown1 hb1
 go_wp2_with fail
 go_loopw [10,11,12,35] (fun e _ _ i wr=>∃k:Nat,k<=n/\e= .int .i64 0/\i= .int .i64 k/\aQ wr S w.heap.size 188 2 (.slice ao n cp) n (bZ (sZ xs k))/\Below w.heap.size w wr) (fun _ _ _ i _=>n - (intOf i).toNat)
 case atStart=>exact⟨0,aN _,rfl,rfl,HO1.out,HB1.out⟩
 case round=>
  obtain⟨k,hk,rfl,rfl,hok,hbk⟩:=hrel
  by_cases hkn:k<n
  ·have y1:(k:Int)<(n:Int):=by omega
   obtain⟨g,c,e,hc1,hc2,hg1,hg2⟩:=hok.ED (by omega)
   cases e
   have hkx:k<xs.length:=by rw[<-HN.out];exact hkn
   have hP:rZ wr S (.slice (some ⟨g,0,none⟩) n cp) (sZ xs k):=by
    have:=hok.dL
    unfold rZ
    rw[mY,<-HN.out];exact this
   obtain⟨pb,po,e1,d0,d1⟩:=hP.at rfl k (by rw[mY];exact hkx)
   cases e1
   rw[Il xs k hkx] at d0 d1
   rw[iN] at d0 d1
   obtain⟨E,hE⟩:∃E,Hid (xs[k]=E):=⟨_,af rfl⟩
   rw[hE.out] at d0 d1
   have hmem:E∈es:=HXS.out.1 E (by rw[<-hE.out];exact bI hkx)
   have HV:=af (hL.val E hmem)
   have hTk:=HT.out.below hbk
   have HOK:=af hok;have HBK:=af hbk;have HTK:=af hTk
   have htk:=(ah.1 hTk.tx).1
   clear hok hbk hTk hP
   go_wp2_with (first
    |(go_at_call 334;go_must (refine(KS t mp (some tr) ch 0 σ S _ E.s E.v E.b (((aC wr (.cells #[.string E.k,.string E.s] 188)).block t htk).trans HTK.out.tx) (HTK.out.inv.below (aC wr (.cells #[.string E.k,.string E.s] 188))) HV.out).mono ?_;rintro e w5 ⟨hb5,rfl⟩;refine Stop.of ?_)))
   refine Stop.on ?_
   have hbw5:Below wr.heap.size wr w5:=(aC wr (.cells #[.string E.k,.string E.s] 188)).trans (hb5.mono (by simp))
   have hO5:=HOK.out.below hbw5
   obtain⟨u1,u2,u3,u4,u5⟩:=hO5.set2 k hkn (by rw[mY,<-HN.out]) E.v
   have u0:w5.cell? ⟨g,k*2+1,none⟩=some (.string E.s):=(hbw5.cell (p:=⟨g,k*2+1,none⟩) hg2).trans d1
   have hms:(sZ xs k).set k (((sZ xs k)[k]'(by rw[mY];exact hkx)).1,E.v)=sZ xs (k+1):=by
    rw[Il xs k hkx,<-hE.out]
    exact LM xs k hkx
   rw[hms] at u1
   have hbs:Below w.heap.size w (w5.setCell ⟨g,k*2+1,none⟩ (.string E.v)):=(HBK.out.trans (hbw5.mono HBK.out.size)).setCell (by simpa using u5) _
   have HU1:=af (ak u1 hbs)
   clear u1 u2 hO5 hbw5 hb5 hms hbs
   go_wp2_with fail
   go_roundw
   case rel=>exact⟨k+1,by omega,rfl,by go_num,HU1.out.1,HU1.out.2⟩
   case measure=>simp[intOf];omega
  ·obtain rfl:k=n:=by omega
   have y1:¬(k:Int)<(k:Int):=by omega
   rw[HN.out,LQ] at hok
   go_wp2_with fail
   go_ret2
   exact⟨_,rfl,by rw[HN.out];exact hok,hbk⟩
theorem nR (t tr:Nat)(mp:VS)(ch:Bool)(er:Int)(u:FrameMode)(w:World)(h:w.heap[t]? =some (.cells (dw mp (some tr) ch er) 181 (0,0)))(hE:Fb w mp.tx):
  CallsD Tryz.prog 56 #[.pointer (some ⟨t,0,none⟩)] u w fun e u' w'=>u'=u/\e= .returned (.tuple #[])/\w'.heap[t]? =some (.cells (dw mp none ch er) 181 (0,0))/\Keep (· =t) w w':=by
 have c0:w.cell? ⟨t,0,none⟩=some (.pointer (some ⟨mp.tx,0,none⟩)):=by simp[World.cell?,h,dw]
 have c2:w.cell? ⟨t,2,none⟩=some (.pointer (some ⟨tr,0,none⟩)):=by simp[World.cell?,h,dw]
 have f2:w.frozen? ⟨t,2,none⟩=false:=by simp[World.frozen?,h]
 have hlt:=(ah.1 h).1
 have HT:=af (FR mp.tx w hE)
 have HH:=af h
 clear h hE
 go_enter_d Tryz.func56,Tryz.ntmps56
 go_wp2_with (first
  |(go_at_call 93;go_must (refine HT.out.mono ?_;rintro e w2 ⟨rfl,hw2⟩;subst w2)))
 go_end0
 refine⟨rfl,?_,(Keep.refl (· =t) _).setCell (p:=⟨t,2,none⟩) (.inr rfl) _⟩
 simp[World.setCell,aJ,HH.out]
 rfl
theorem rP (f:Nat->Bool):(bytesOf f).length=512:=by
 have:=fG f
 rwa [aY] at this
theorem QY (mp:VS)(σ:bR)(S:Nat->Prop)(w:World)(h:Inv σ S mp w):
  Calls Tryz.prog 119 #[.pointer (some ⟨mp.mp,0,none⟩),.iface 123 (.pointer (some ⟨mp.tx,0,none⟩))] w fun e w'=>e= .returned (.int .i64 0)/\Inv (σ.wrote 0 (bytesOf σ.now)) S mp w'/\Step S S w w':=by
 obtain⟨Sp,T,h,hS⟩:=h
 have hm:=h.ok.most
 have h2:=h.ok.two
 have htx:=h.tx
 rw[hm] at htx
 refine(NN mp.tx mp.pg mp.d mp.mp σ.most σ.now σ.H.old σ.H.dk σ.H.lg σ.H.pg _ σ.im Sp T w h.pg htx h.ok.live (by omega) h.map).mono ?_
 rintro e w' ⟨rfl,ht,hs⟩
 rw[<-hm] at ht
 exact⟨rfl,⟨Sp,T,⟨h.ok.wrote 0 (bytesOf σ.now) (rP _) (by omega) (.inl (by omega)),h.pg.keep hs.1 (fun g hg e=>h.dis g hg e),ht,h.map.keep (hs.1.block _ h.map.lt h.mpT),h.dis,h.mpS,h.mpT⟩,hS⟩,hs.1.mono (fun g _ e=>(hS g).2 (.inr (.inl e))),fun g hg=> .inl hg⟩
theorem Ip (mp:VS)(σ:bR)(S:Nat->Prop)(w:World)(h:Inv σ S mp w)(hld:σ.H.lg.dead=false)(hcap:σ.H.dk.waits.length<=90000)(hll:σ.H.lg.last<1000000000000):
  Calls Tryz.prog 53 #[.pointer (some ⟨mp.tx,0,none⟩)] w fun e w'=>e= .returned (.tuple #[.int .i64 (σ.H.pg.commit σ.H.dk σ.H.lg σ.im).2.2.2.1,.int .i64 (σ.H.pg.commit σ.H.dk σ.H.lg σ.im).2.2.2.2])/\
   ∃S',iF w' S' mp.pg mp.d (σ.H.pg.commit σ.H.dk σ.H.lg σ.im).1 (σ.H.pg.commit σ.H.dk σ.H.lg σ.im).2.1 (σ.H.pg.commit σ.H.dk σ.H.lg σ.im).2.2.1 (.pointer none)/\Fb w' mp.tx/\Step S S' w w':=by
 obtain⟨Sp,T,h,hS⟩:=h
 have hm:=h.ok.most
 have htx:=h.tx
 rw[hm] at htx
 refine(Ia mp.tx mp.pg mp.d σ.H.dk σ.H.lg σ.H.pg _ σ.im Sp T w h.pg htx h.dis h.ok.live hld hcap hll).mono ?_
 rintro e w' ⟨rfl,S',hp,hE,hs⟩
 refine⟨rfl,S',hp,hE,hs.1.mono (fun g _ e=>(hS g).2 (e.imp id .inl)),fun g hg=> ?_⟩
 exact(hs.2 g (.inl hg)).imp (fun e=>(hS g).2 (e.imp id .inl)) id
def oN (t:Nat)(mp:VS)(S:Nat->Prop)(σ:bR)(ch:Bool)(im:Im)(w:World)(e:Ending)(w':World):Prop:=
 e= .returned (.tuple (if (σ.H.pg.commit σ.H.dk σ.H.lg im).2.2.2.2=0 then #[.int .i64 (((σ.H.pg.commit σ.H.dk σ.H.lg im).2.2.2.1:Int) - 1),.int .i64 0] else #[.int .i64 0,.int .i64 (σ.H.pg.commit σ.H.dk σ.H.lg im).2.2.2.2]))/\
 ∃S',iF w' S' mp.pg mp.d (σ.H.pg.commit σ.H.dk σ.H.lg im).1 (σ.H.pg.commit σ.H.dk σ.H.lg im).2.1 (σ.H.pg.commit σ.H.dk σ.H.lg im).2.2.1 (.pointer none)/\w'.heap[t]? =some (.cells (dw mp none ch 0) 181 (0,0))/\¬S' t/\Keep (fun g=>S g\/g=t) w w'/\∀g,S' g->S g\/w.heap.size<=g
theorem BK (t tr:Nat)(mp:VS)(root:Int)(σ:bR)(S:Nat->Prop)(w:World)(hT:CR w S t tr mp σ root 0 false 0)(hld:σ.H.lg.dead=false)(hcap:σ.H.dk.waits.length<=90000)(hll:σ.H.lg.last<1000000000000)(hk:(σ.H.pg.commit σ.H.dk σ.H.lg σ.im).2.2.2.1<=1000000000000):
  Calls Tryz.prog 62 #[.pointer (some ⟨t,0,none⟩)] w (oN t mp S σ false σ.im w):=by
 have HU:=af (sG t mp tr false 0 ⟨#[107]⟩ w hT.tx)
 have hu:jl 0 (⟨#[107]⟩:ByteArray)=0:=by decide
 rw[hu] at HU
 have HC:=Ip mp σ S w hT.inv hld hcap hll
 unfold oN
 generalize hcm:σ.H.pg.commit σ.H.dk σ.H.lg σ.im=R at HC hk ⊢
 obtain⟨σ',l',p',k,q⟩:=R
 dsimp only at HC hk ⊢
 have HC:=af HC
 have c0:w.cell? ⟨t,0,none⟩=some (.pointer (some ⟨mp.tx,0,none⟩)):=by simp[World.cell?,hT.tx,dw]
 have c3:w.cell? ⟨t,3,none⟩=some (.bool false):=by simp[World.cell?,hT.tx,dw]
 have hlt:=(ah.1 hT.tx).1
 have q1:IntKind.i64.wrap ((k:Int) - 1)=(k:Int) - 1:=aS _ (by omega)
 have HT:=af hT
 clear hT hu hcm
 by_cases hq:q=0
 ·subst hq
  go_enter_defers Tryz.func62,Tryz.ntmps62
  go_wp2_with (first
   |(go_at_call 116;go_must (refine HU.out.mono ?_;rintro e w1 ⟨hw1,rfl⟩;subst w1))
   |(go_at_call 53;go_must (refine HC.out.mono ?_;rintro e w1 ⟨rfl,S1,hp1,hE1,hs1⟩)))
  have htx1:=(hs1.1.block t hlt HT.out.nt).trans HT.out.tx
  have hn1:¬S1 t:=fun e=>(hs1.2 t e).elim HT.out.nt (fun x=>absurd hlt (aV.2 x))
  refine dQ (f:=56) (args:=#[.pointer (some ⟨t,0,none⟩)]) (by simp) (by simp[go_sem]) ?_
  refine(nR t tr mp false 0 _ _ htx1 hE1).mono ?_
  rintro e u' w2 ⟨rfl,rfl,h2,hk2⟩
  exact⟨_,by simp[results,Fz,go_sem],rfl,S1,hp1.keep hk2 (fun g hg e=>hn1 (e▸hg)),h2,hn1,(hs1.1.mono (fun g _ e=> .inl e)).trans (hk2.mono (fun g _ e=> .inr e)) (fun _ _ e=>e),hs1.2⟩
 ·have hq':(q !=0)=true:=by simpa using hq
  go_enter_defers Tryz.func62,Tryz.ntmps62
  go_wp2_with (first
   |(go_at_call 116;go_must (refine HU.out.mono ?_;rintro e w1 ⟨hw1,rfl⟩;subst w1))
   |(go_at_call 53;go_must (refine HC.out.mono ?_;rintro e w1 ⟨rfl,S1,hp1,hE1,hs1⟩)))
  have htx1:=(hs1.1.block t hlt HT.out.nt).trans HT.out.tx
  have hn1:¬S1 t:=fun e=>(hs1.2 t e).elim HT.out.nt (fun x=>absurd hlt (aV.2 x))
  refine dQ (f:=56) (args:=#[.pointer (some ⟨t,0,none⟩)]) (by simp) (by simp[go_sem]) ?_
  refine(nR t tr mp false 0 _ _ htx1 hE1).mono ?_
  rintro e u' w2 ⟨rfl,rfl,h2,hk2⟩
  exact⟨.tuple #[.int .i64 0,.int .i64 q],by simp[results,Fz,go_sem],rfl,S1,hp1.keep hk2 (fun g hg e=>hn1 (e▸hg)),h2,hn1,(hs1.1.mono (fun g _ e=> .inl e)).trans (hk2.mono (fun g _ e=> .inr e)) (fun _ _ e=>e),hs1.2⟩
theorem xD {R:Ending->World->Prop}{d:Nat}(h2:d≠2)(h3:d≠3){c:List PanicEntry}{a:Act}{v:Value}{w:World}(h:bodyPostD Tryz.prog Tryz.f62 R (.panic c) (a.put (some d) v) w):bodyPostD Tryz.prog Tryz.f62 R (.panic c) a w:=by
 refine lK ?_ _ _ _ (show Leaves Tryz.prog Tryz.f62 (a.tmps.setIfInBounds d v) R a.defers (.panicking c) w from h)
 unfold results
 rw[Fz]
 simp[nA,gW,h2,h3]
def lY (root:Nat):List UInt8:=[UInt8.ofNat root,UInt8.ofNat (root/256)]
theorem Gf (root:Nat)(hb:root<65536)(w:World):gT (w.alloc (.cells #[.int .u8 ((root:Int)%256),.int .u8 ((root:Int)/256)] 5)) d9 (.slice (some ⟨w.heap.size,0,none⟩) 2 2) (lY root):=by
 have he:[Value.int .u8 ((root:Int)%256),.int .u8 ((root:Int)/256)]=aB (lY root):=by
  simp[lY,aB,dD]
  omega
 have hr:Row (w.alloc (.cells #[.int .u8 ((root:Int)%256),.int .u8 ((root:Int)/256)] 5)) w.heap.size 5 (aB (lY root)):=by
  rw[<-he];exact Row.new w _ _
 have:=hr.dL (S:=d9) (k:=1) (off:=0) 2 2 (by simp[aB,lY]) id (aA _) (by simp[maxLen])
 rw[fE,aI (by simp[aB,lY])] at this
 exact this
def bR.sealed (σ:bR)(root:Nat):bR:=(σ.wrote 1 (pad (lY root))).wrote 0 (bytesOf σ.now)
theorem BJ (t tr:Nat)(mp:VS)(root:Nat)(σ:bR)(S:Nat->Prop)(w:World)(hT:CR w S t tr mp σ root 0 true 0)(hr:root<=4096)(hld:σ.H.lg.dead=false)(hcap:σ.H.dk.waits.length<=90000)(hll:σ.H.lg.last<1000000000000)(hk:(σ.H.pg.commit σ.H.dk σ.H.lg (σ.sealed root).im).2.2.2.1<=1000000000000):
  Calls Tryz.prog 62 #[.pointer (some ⟨t,0,none⟩)] w (oN t mp S σ true (σ.sealed root).im w):=by
 have HU:=af (sG t mp tr true 0 ⟨#[107]⟩ w hT.tx)
 have hu:jl 0 (⟨#[107]⟩:ByteArray)=0:=by decide
 rw[hu] at HU
 have HR:=af (OY tr mp root 0 w hT.tree)
 have hb1:=aC w (.cells #[.int .u8 ((root:Int)%256),.int .u8 ((root:Int)/256)] 5)
 have h2:=hT.inv.ok.two
 have HW:=af (Aq mp σ S _ 1 _ (lY root) (hT.inv.below hb1) (by omega) (Gf root (by omega) w) (by simp[lY]) (.inl (by omega)))
 have HB1:=af hb1
 have q0:IntKind.i64.wrap ((root:Int)/256)=(root:Int)/256:=aS _ (by omega)
 have c0:w.cell? ⟨t,0,none⟩=some (.pointer (some ⟨mp.tx,0,none⟩)):=by simp[World.cell?,hT.tx,dw]
 have c2:w.cell? ⟨t,2,none⟩=some (.pointer (some ⟨tr,0,none⟩)):=by simp[World.cell?,hT.tx,dw]
 have c3:w.cell? ⟨t,3,none⟩=some (.bool true):=by simp[World.cell?,hT.tx,dw]
 have hlt:=(ah.1 hT.tx).1
 have HT:=af hT
 clear hT hu hb1
 go_enter_defers Tryz.func62,Tryz.ntmps62
 go_wp2_with (first
  |(go_at_call 116;go_must (refine HU.out.mono ?_;rintro e w1 ⟨hw1,rfl⟩;subst w1))
  |(go_at_call 117;go_must (refine HR.out.mono ?_;rintro e w1 ⟨rfl,hw1⟩;subst w1))
  |(go_at_call 118;go_must (refine HW.out.mono ?_;rintro e w1 ⟨rfl,hI1,hs1⟩;refine Stop.of ?_)))
 refine Stop.on ?_
 have hbs:Step S S w w1:=(Step.of_below HB1.out).trans hs1
 have htx1:=(hbs.1.block t hlt HT.out.nt).trans HT.out.tx
 have hlt1:=(ah.1 htx1).1
 have d0:w1.cell? ⟨t,0,none⟩=some (.pointer (some ⟨mp.tx,0,none⟩)):=by simp[World.cell?,htx1,dw]
 have d1:w1.cell? ⟨t,1,none⟩=some (.pointer (some ⟨mp.mp,0,none⟩)):=by simp[World.cell?,htx1,dw]
 have HST:=QY mp (σ.wrote 1 (pad (lY root))) S w1.drew (hI1.below ((aH _ w1).drew))
 have hse:(σ.wrote 1 (pad (lY root))).wrote 0 (bytesOf (σ.wrote 1 (pad (lY root))).now)=σ.sealed root:=rfl
 rw[hse] at HST
 have HST:=af HST
 have HX1:=af (ak htx1 hbs)
 clear htx1 hbs hse hI1 hs1
 go_upto_region 11 with (fail)
 refine aK (fun W=>W.cell? ⟨t,0,none⟩=some (.pointer (some ⟨mp.tx,0,none⟩))/\W.cell? ⟨t,1,none⟩=some (.pointer (some ⟨mp.mp,0,none⟩))/\t<W.heap.size) (fun i=> !([11].contains i)) [0,1,2,3,4,5,6,7,8,9,10,11,12] rfl (by kernel_rfl) ⟨d0,d1,hlt1⟩ ?_
 repeat ((refine bq (v:= ?_) rfl rfl ?_ rfl (fun W hW=> ?_) ?_);rotate_left;(focus (exact fun c a w h=>xD (by decide) (by decide) h));(focus ((try dsimp only at hW);obtain⟨a0,a1,a2⟩:=hW;(go_simp;first|done|with_reducible rfl)));(try simp only[Act.put,aj,av,au]))
 refine bP rfl rfl rfl ?_;intro K hK;go_simp
 refine HST.out.mono ?_;rintro e w2 ⟨rfl,hI2,hs2⟩
 have htx2:=(hs2.1.block t hlt1 HT.out.nt).trans HX1.out.1
 have hlt2:=(ah.1 htx2).1
 have g0:w2.cell? ⟨t,0,none⟩=some (.pointer (some ⟨mp.tx,0,none⟩)):=by simp[World.cell?,htx2,dw]
 have g1:w2.cell? ⟨t,1,none⟩=some (.pointer (some ⟨mp.mp,0,none⟩)):=by simp[World.cell?,htx2,dw]
 refine hK.out _ _ ⟨g0,g1,hlt2⟩ ?_
 (try simp only[Act.put,aj,av,au])
 repeat ((refine bq (v:= ?_) rfl rfl ?_ rfl (fun W hW=> ?_) ?_);rotate_left;(focus (exact fun c a w h=>xD (by decide) (by decide) h));(focus ((try dsimp only at hW);obtain⟨a0,a1,a2⟩:=hW;(go_simp;first|done|with_reducible rfl)));(try simp only[Act.put,aj,av,au]))
 refine bF ?_
 have HC:=Ip mp (σ.sealed root) S w2 hI2 hld hcap hll
 have hH:(σ.sealed root).H=σ.H:=rfl
 rw[hH] at HC
 obtain⟨R,hcm⟩:∃R,σ.H.pg.commit σ.H.dk σ.H.lg (σ.sealed root).im=R:=⟨_,rfl⟩
 obtain⟨σ',l',p',k,q⟩:=R
 rw[hcm] at HC hk
 have HCM:=af hcm
 dsimp only at HC hk
 have HC:=af HC
 have q1:IntKind.i64.wrap ((k:Int) - 1)=(k:Int) - 1:=aS _ (by omega)
 have HX2:=af (ak htx2 (HX1.out.2.trans (((Step.of_below ((aH _ w1).drew)):Step S S w1 w1.drew).trans hs2)))
 clear hcm hH hI2 hs2 htx2
 by_cases hq:q=0
 ·subst hq
  go_wp2_with (first
   |(go_at_call 53;go_must (refine HC.out.mono ?_;rintro e w3 ⟨rfl,S1,hp1,hE1,hs3⟩)))
  have htx3:=(hs3.1.block t hlt2 HT.out.nt).trans HX2.out.1
  have hn1:¬S1 t:=fun e=>(hs3.2 t e).elim HT.out.nt (fun x=>absurd hlt2 (aV.2 x))
  refine dQ (f:=56) (args:=#[.pointer (some ⟨t,0,none⟩)]) (by simp) (by simp[go_sem]) ?_
  refine(nR t tr mp true 0 _ _ htx3 hE1).mono ?_
  rintro e u' w4 ⟨rfl,rfl,h4,hk4⟩
  have hst:=HX2.out.2.trans hs3
  refine⟨.tuple #[.int .i64 ((k:Int) - 1),.int .i64 0],by simp[results,Fz,go_sem],?_⟩
  unfold oN
  rw[HCM.out]
  exact⟨rfl,S1,hp1.keep hk4 (fun g hg e=>hn1 (e▸hg)),h4,hn1,(hst.1.mono (fun g _ e=> .inl e)).trans (hk4.mono (fun g _ e=> .inr e)) (fun _ _ e=>e),hst.2⟩
 ·have hq':(q !=0)=true:=by simpa using hq
  go_wp2_with (first
   |(go_at_call 53;go_must (refine HC.out.mono ?_;rintro e w3 ⟨rfl,S1,hp1,hE1,hs3⟩)))
  have htx3:=(hs3.1.block t hlt2 HT.out.nt).trans HX2.out.1
  have hn1:¬S1 t:=fun e=>(hs3.2 t e).elim HT.out.nt (fun x=>absurd hlt2 (aV.2 x))
  refine dQ (f:=56) (args:=#[.pointer (some ⟨t,0,none⟩)]) (by simp) (by simp[go_sem]) ?_
  refine(nR t tr mp true 0 _ _ htx3 hE1).mono ?_
  rintro e u' w4 ⟨rfl,rfl,h4,hk4⟩
  have hst:=HX2.out.2.trans hs3
  refine⟨.tuple #[.int .i64 0,.int .i64 q],by simp[results,Fz,go_sem],?_⟩
  unfold oN
  rw[HCM.out]
  exact⟨by dsimp only;rw[if_neg hq],S1,hp1.keep hk4 (fun g hg e=>hn1 (e▸hg)),h4,hn1,(hst.1.mono (fun g _ e=> .inl e)).trans (hk4.mono (fun g _ e=> .inr e)) (fun _ _ e=>e),hst.2⟩
structure xR (σ:Dk)(l:Lg)(p:Pg)(f:Nat->Bool)(root:Nat):Prop where
 pd:p.dead=false
 sd:σ.dead=false
 two:2<=p.blocks σ
 map:p.look Im.none σ 0=bytesOf f
 hi:∀b,p.blocks σ<=b->f b=false
 f0:f 0=true
 f1:f 1=true
 root:M6 (p.look Im.none σ 1) root
def Cx (n:Nat)(log:Int):Int:=if log<6\/(n:Int) - 8<log then 1 else 0
theorem TG (d:Nat)(σ:Dk)(Sd:Nat->Prop)(log:Int)(w:World)(h:qI w Sd d σ):
  Calls Tryz.prog 48 #[.pointer (some ⟨d,0,none⟩),.int .i64 log] w fun e w'=>e= .returned (.int .i64 (Cx σ.n log))/\w'=w:=by
 have HS:=af (EJ d σ Sd w h)
 have hi:=h.ok.hi
 have q:IntKind.i64.wrap ((σ.n:Int) - 8)=(σ.n:Int) - 8:=aS _ (by omega)
 clear h
 unfold Cx
 by_cases h1:log<6
 ·rw[if_pos (.inl h1)]
  go_enter Tryz.func48,Tryz.ntmps48
  go_wp2_with fail
  go_ret
  exact⟨rfl,rfl⟩
 ·by_cases h2:(σ.n:Int) - 8<log
  ·rw[if_pos (.inr h2)]
   go_enter Tryz.func48,Tryz.ntmps48
   go_wp2_with (first
    |(go_at_call 87;go_must (refine HS.out.mono ?_;rintro e w1 ⟨rfl,hw1⟩;subst w1)))
   go_ret
   exact⟨rfl,rfl⟩
  ·rw[if_neg (by omega)]
   go_enter Tryz.func48,Tryz.ntmps48
   go_wp2_with (first
    |(go_at_call 87;go_must (refine HS.out.mono ?_;rintro e w1 ⟨rfl,hw1⟩;subst w1)))
   go_ret
   exact⟨rfl,rfl⟩
theorem Ih {im:Im}{n:Nat}(h:im.Ok n):bN im.bE=(16+520*im.ks.length+511)/512:=by
 have e:(im.bE.map fun r=>4+r.length).sum=520*im.ks.length:=by
  unfold Im.bE
  rw[List.map_map]
  have hi:=h.img
  revert hi
  generalize im.ks=ks
  intro hi
  induction ks with
  |nil=>rfl
  |cons k ks ih=>
   rw[dO,jQ,ih (fun x hx=>hi x (aT _ hx)),aU]
   have:=hi k (aP ..)
   show 4+(leB k 4++im.img k).length+_=_
   rw[ay,dK,this];omega
 unfold bN
 rw[e]
theorem Dk.Dc:∀(k i:Nat) (σ:Dk) (j:Nat),i<=j->j<i+k->(Dk.qQ k i σ).get j=pad []
 |0,_,_,_,h1,h2=>absurd h2 (by omega)
 |k+1,i,σ,j,h1,h2=>by
  rw[Dk.wF,Dk.get_put]
  split
  ·rfl
  ·exact Dk.Dc k i σ j h1 (by omega)
theorem LD {σ:Dk}{log:Nat}(hl:(Lg.new 0 log).Ok)(hp:(Pg.new log).Ok σ (Lg.new 0 log))(hw:σ.waits=[])(hm:σ.get 0=pad (Lg.new 0 log).dZ):nu σ (Lg.new 0 log) (Pg.new log) (fun _ b=>σ.get (log+b)):=
 ⟨[],⟨hl,hp,rfl,aA _,aA _,(fun im h=>by cases h),(fun i h=>by cases h),Al.none ⟨hm,(fun i h=>by simp[fT] at h),fun b _=>rfl⟩ hw,fun b=>rfl,(by rw[hw];exact aA _),fun _=>hw⟩,fun k _ _ b _=>by rw[List.take_nil];rfl⟩
structure O8 (σ0:Dk)(log:Nat)(σ:Dk)(l:Lg)(p:Pg):Prop where
 vi:VI σ l p
 last:l.last=1
 synced:l.synced=1
 skip:p.skip=log
 ring:p.ring=log - 1
 n:σ.n=σ0.n
 base:xR σ l p two 0
 rc:∃C,nu σ l p C
 wts:σ.waits=[]
theorem O8.live {σ:Dk}{l:Lg}{p:Pg}:Live (bR.start σ l p two) 0 [] []:=by
 refine⟨.inl ⟨rfl,rfl,rfl⟩,(fun e he=>by cases he),⟨List.nodup_nil,fun x hx=> ?_,?_⟩⟩
 ·obtain⟨n,rfl,_,h⟩:=bR.kJ hx
  have h:two n=true:=h
  unfold two at h
  have:=aR h
  omega
 ·show countB (fun x=>two x||two x) (p.blocks σ)=countB two (p.blocks σ)+0
  rw[jw]
  exact iK _ (fun x _=>Bool.or_self _)
theorem R5 (d:Nat)(σ:Dk)(Sd:Nat->Prop)(log:Nat)(w:World)(h:qI w Sd d σ)(hf:σ.lF)(h1:6<=log)(h2:log+8<=σ.n)(hcap:σ.waits.length<=50000):
  Calls Tryz.prog 25 #[.pointer (some ⟨d,0,none⟩),.int .i64 log] w fun e w'=>∃v pg σ' l' p' S',e= .returned (.tuple #[.pointer (some ⟨v,0,none⟩),.int .i64 0])/\w'.heap[v]? =some (.cells #[.pointer (some ⟨pg,0,none⟩)] 130 (0,0))/\¬S' v/\w.heap.size<=v/\iF w' S' pg d σ' l' p' (.pointer none)/\O8 σ log σ' l' p'/\Step Sd S' w w':=by
 have hck:=TG d σ Sd log w h
 have hc0:Cx σ.n log=0:=by unfold Cx;rw[if_neg (by omega)]
 rw[hc0] at hck
 have HCK:=af hck
 have hdn:=h.ok.hi
 have HPM:=af (Sq d σ Sd log w h hf (by omega) (by omega) hcap)
 have hsub:=h.sub
 clear h hck hc0
 go_enter Tryz.func25,Tryz.ntmps25
 go_wp2_with (first
  |(go_at_call 48;go_must (refine HCK.out.mono ?_;rintro e w1 ⟨rfl,hw1⟩;subst w1))
  |(go_at_call 49;go_must (refine HPM.out.mono ?_;rintro e w1 ⟨pg,S1,rfl,hp1,hs1⟩;refine Stop.of ?_)))
 refine Stop.on ?_
 obtain⟨σ1,hσ1⟩:∃σ1,σ1=(((Dk.qQ (σ.n - log) log σ).flush.put 0 (Lg.new 0 log).dZ).flush):=⟨_,rfl⟩
 rw[<-hσ1] at hp1
 have hn1:σ1.n=σ.n:=by rw[hσ1];exact Dk.wG _ _ _
 have hf1:σ1.lF:=by rw[hσ1];exact Dk.sD _ _ _ hf
 have hw1:σ1.waits=[]:=by rw[hσ1];rfl
 have hg1:∀j,log<=j->j<σ.n->σ1.get j=pad []:=fun j a b=>by
  rw[hσ1,tX _ _ _ _ (by omega)]
  exact Dk.Dc _ _ _ _ a (by omega)
 have hm1:σ1.get 0=pad (Lg.new 0 log).dZ:=by rw[hσ1,Dk.lN,Dk.get_put,if_pos rfl]
 have HRC:=af (LD hp1.ok.2.2 hp1.ok.1 hw1 hm1)
 clear hm1
 have hbl:(Pg.new log).blocks σ1=σ.n - log:=by unfold Pg.blocks;rw[hn1];rfl
 have HBG:=af (LA pg d σ1 (Lg.new 0 log) (Pg.new log) S1 w1 hp1 rfl)
 have hsub1:=hp1.sub
 have HS1:=af hs1
 have HF1:=af (ak hn1 (ak hf1 (ak hw1 hg1)))
 clear hσ1 hp1 hs1 hn1 hf1 hw1 hg1
 go_wp2_with (first
  |(go_at_call 50;go_must (refine HBG.out.mono ?_;rintro e w2 ⟨t,T,rfl,hp2,ht2,hs2,hT2⟩;refine Stop.of ?_)))
 refine Stop.on ?_
 have hdis:∀g,S1 g->¬T g:=fun g hg e=>absurd (hT2 g e) (jk.2 (hsub1 g hg))
 have HBL:=af (Cg pg d σ1 (Lg.new 0 log) (Pg.new log) _ S1 w2 hp2)
 have HSM:=af (Qz t pg d σ1 (Lg.new 0 log) (Pg.new log) _ Im.none S1 T w2.drew (hp2.below ((aH _ w2).drew)) (ht2.below ((aH _ w2).drew)) rfl (by omega))
 clear hbl
 have HX2:=af (ak hp2 hs2)
 clear hp2 ht2 hs2
 go_wp2_with (first
  |(go_at_call 52;go_must (refine HBL.out.mono ?_;rintro e w3 ⟨rfl,hw3⟩;subst w3))
  |(go_at_call 51;go_must (refine HSM.out.mono ?_;rintro e w3 ⟨rfl,ht3,hs3⟩;refine Stop.of ?_)))
 refine Stop.on ?_
 obtain⟨im,him⟩:∃im,im=Im.none.put 0 (bytesOf two):=⟨_,rfl⟩
 rw[<-him] at ht3
 have hp3:=(HX2.out.1.below ((aH _ w2).drew)).keep hs3.1 (fun g hg e=>hdis g hg e)
 have himok:im.Ok ((Pg.new log).blocks σ1):=by obtain⟨_,q⟩:=ht3;exact q.ok
 have hks:im.ks=[0]:=by rw[him];rfl
 have hPO:=hp3.ok
 have hV1:VI σ1 (Lg.new 0 log) (Pg.new log):=⟨HF1.out.2.1,rfl,rfl,by rw[HF1.out.2.2.1];exact aN _,fun _=>⟨_,HRC.out⟩⟩
 have HCM:=Ia t pg d σ1 (Lg.new 0 log) (Pg.new log) _ im S1 T w3 hp3 ht3 hdis rfl rfl (by rw[HF1.out.2.2.1];exact aN _) (by show 0<1000000000000;omega)
 obtain⟨σ2,l2,p2,hcm,hV2,hl2,hk2,hr2,hn2,hlk2⟩:∃σ2 l2 p2,(Pg.new log).commit σ1 (Lg.new 0 log) im=(σ2,l2,p2,1,0)/\VI σ2 l2 p2/\l2.last=1/\p2.skip=log/\p2.ring=log - 1/\σ2.n=σ1.n/\∀b,p2.look Im.none σ2 b=(Pg.new log).look im σ1 b:=by
  rcases GJ hV1 hPO.1 hPO.2.2 himok with ⟨q,_⟩|⟨_,q,_⟩|⟨_,_,σ2,l2,p2,q1,q2,q3,q4,q5,q6,q7⟩
  ·rw[hks] at q;cases q
  ·unfold Pg.pu at q
   rw[Ih himok,hks] at q
   have:(Pg.new log).ring=log - 1:=rfl
   rw[this] at q
   simp at q
   omega
  ·exact⟨σ2,l2,p2,q1,q2,q3,q4,q5,q6,q7⟩
 have hrc:∃C,nu σ2 l2 p2 C:=by
  rcases rM HRC.out HF1.out.2.1.1 rfl rfl himok (by show 0<1000000000000;omega) with ⟨q,_⟩|⟨_,_,q⟩|⟨_,_,⟨_,_,_,q,_,_,_,_,_,_,_,_,_,r,_⟩|⟨_,_,_,q,_⟩⟩
  ·rw[hks] at q;cases q
  ·rw[hcm] at q;simp at q
  ·rw[hcm] at q
   simp only[kU] at q
   obtain⟨rfl,rfl,rfl,_⟩:=q
   exact⟨_,r⟩
  ·rw[hcm] at q;simp at q
 have HRC2:=af hrc
 clear hrc
 rw[hcm] at HCM
 have HCM:=af HCM
 have HLK:=af (ak hV2 (ak hl2 (ak hk2 (ak hr2 (ak hn2 (ak hlk2 him))))))
 have HS3:=af (HX2.out.2.trans ((Step.of_below ((aH _ w2).drew):Step S1 S1 w2 w2.drew)))
 have HK3:=af hs3
 clear hp3 ht3 himok hks hPO hV1 hcm hV2 hl2 hk2 hr2 hn2 hlk2 him hs3
 go_wp2_with (first
  |(go_at_call 53;go_must (refine HCM.out.mono ?_;rintro e w4 ⟨rfl,S4,hp4,hE4,hs4⟩;refine Stop.of ?_)))
 refine Stop.on ?_
 obtain⟨σ5,l5,hsy,hV5,hl5,hy5,hn5,hlk5⟩:=K8 HLK.out.1 hp4.ok.1
 have HSY:=Pz pg d σ2 l2 p2 _ S4 w4 hp4 (by have:=HLK.out.1.wt;have:=hp4.ok.2.2.us;have:=hp4.ok.2.2.hi;omega)
 have hrc:(∃C,nu σ5 l5 p2 C)/\σ5.waits=[]:=by
  obtain⟨C,hC⟩:=HRC2.out
  rcases yS hC HLK.out.1.free.1 HLK.out.1.ld HLK.out.1.pd with ⟨_,_,q,_,_,_,_,hw,_,_,r,_⟩|⟨_,_,q,_⟩
  ·rw[hsy] at q
   simp only[kU] at q
   obtain⟨rfl,rfl,_⟩:=q
   exact⟨⟨_,r⟩,hw⟩
  ·rw[hsy] at q;simp at q
 have HRC5:=af hrc
 clear hrc
 rw[hsy] at HSY
 have HSY:=af HSY
 have HL5:=af (ak hV5 (ak hl5 (ak hy5 (ak hn5 hlk5))))
 have HS4:=af hs4
 clear hp4 hE4 hs4 hsy hV5 hl5 hy5 hn5 hlk5
 go_wp2_with (first
  |(go_at_call 54;go_must (refine HSY.out.mono ?_;rintro e w5 ⟨rfl,S5,hp5,hs5⟩;refine Stop.of ?_)))
 refine Stop.on ?_
 go_wp2_with fail
 go_ret2
 have hb6:=aC w5 (.cells #[.pointer (some ⟨pg,0,none⟩)] 130)
 have hsub5:=hp5.sub
 have hz5:w.heap.size<=w5.heap.size:=by
  have a:=HS1.out.1.size;have b:=HS3.out.1.size;have c:=HK3.out.1.size;have d:=HS4.out.1.size;have e:=hs5.1.size
  omega
 have hskip:=HLK.out.2.2.1
 have hlook:∀b,p2.look Im.none σ5 b=(Pg.new log).look im σ1 b:=fun b=>(HL5.out.2.2.2.2 Im.none b).trans (HLK.out.2.2.2.2.2.1 b)
 have hn5:σ5.n=σ.n:=HL5.out.2.2.2.1.trans (HLK.out.2.2.2.2.1.trans HF1.out.1)
 refine⟨w5.heap.size,pg,σ5,l5,p2,S5,rfl,aF w5 _,fun e=>bY _ (hsub5 _ e),hz5,hp5.below hb6,⟨HL5.out.1,HL5.out.2.1.trans HLK.out.2.1,HL5.out.2.2.1.trans HLK.out.2.1,hskip,HLK.out.2.2.2.1,hn5,?_,HRC5.out.1,HRC5.out.2⟩,?_⟩
 ·have hbl5:p2.blocks σ5=σ.n - log:=by unfold Pg.blocks;rw[hn5,hskip]
  refine⟨HLK.out.1.pd,HL5.out.1.free.1,by omega,?_,fun b hb=> ?_,rfl,rfl,?_⟩
  ·rw[hlook,HLK.out.2.2.2.2.2.2]
   unfold Pg.look
   rw[Im.zF,if_pos rfl];rfl
  ·unfold two
   exact bH (by omega)
  ·rw[hlook,HLK.out.2.2.2.2.2.2]
   have:(Pg.new log).look (Im.none.put 0 (bytesOf two)) σ1 1=pad []:=by
    unfold Pg.look
    rw[Im.zF,if_neg (by omega)]
    exact HF1.out.2.2.2 (log+1) (by omega) (by omega)
   rw[this]
   exact⟨by omega,List.replicate 510 0,rfl⟩
 ·have h0:=HS1.out.trans HS3.out
  have a:Step Sd (fun g=>S1 g\/T g) w w2.drew:=⟨h0.1,fun g hg=>hg.elim (h0.2 g) (fun e=> .inr (aG HS1.out.1.size (hT2 g e)))⟩
  have b:Step Sd (fun g=>S1 g\/T g) w w3:=a.trans ⟨HK3.out.1.mono (fun g _ e=> .inr e),fun g hg=> .inl hg⟩
  have c:=b.trans HS4.out
  have e:Step Sd S5 w w5:=c.trans ⟨hs5.1.mono (fun g _ e=> .inl e),fun g hg=>(hs5.2 g hg).imp .inl id⟩
  exact e.trans (Step.of_below hb6)
structure Kt (w:World)(S:Nat->Prop)(v pg d:Nat)(σ:Dk)(l:Lg)(p:Pg)(f:Nat->Bool)(root:Nat)(es:List kS)(tb:List Int):Prop where
 obj:w.heap[v]? =some (.cells #[.pointer (some ⟨pg,0,none⟩)] 130 (0,0))
 nv:¬S v
 pgr:iF w S pg d σ l p (.pointer none)
 vi:VJ σ l p
 base:xR σ l p f root
 live:Live (bR.start σ l p f) root es tb
structure Ut (σ:bR)(root:Nat)(es:List kS)(tb:List Int):Prop where
 vi:VJ σ.H.dk σ.H.lg σ.H.pg
 base:xR σ.H.dk σ.H.lg σ.H.pg σ.H.old root
 live:Live (bR.start σ.H.dk σ.H.lg σ.H.pg σ.H.old) root es tb
structure vY (w:World)(S:Nat->Prop)(v t tr:Nat)(mp:VS)(σ:bR)(root:Int)(es:List kS)(tb:List Int)(ch:Bool)(root0:Nat)(es0:List kS)(tb0:List Int):Prop where
 obj:w.heap[v]? =some (.cells #[.pointer (some ⟨mp.pg,0,none⟩)] 130 (0,0))
 nv:¬S v
 tx:CR w S t tr mp σ root 0 ch 0
 live:Live σ root es tb
 bas:Ut σ root0 es0 tb0
 ch:ch=false->σ=bR.start σ.H.dk σ.H.lg σ.H.pg σ.H.old/\es=es0
structure Uj (w:World)(S:Nat->Prop)(v t tr:Nat)(mp:VS)(σ:bR)(ch:Bool)(root0:Nat)(es0:List kS)(tb0:List Int):Prop where
 obj:w.heap[v]? =some (.cells #[.pointer (some ⟨mp.pg,0,none⟩)] 130 (0,0))
 nv:¬S v
 tx:∃root err,CR w S t tr mp σ root err ch 12
 bas:Ut σ root0 es0 tb0
theorem Qm {w:World}{v t pg:Nat}{mp:VS}{tr:Option Nat}{ch:Bool}{er:Int}(h:w.heap[v]? =some (.cells #[.pointer (some ⟨pg,0,none⟩)] 130 (0,0)))(ht:w.heap[t]? =some (.cells (dw mp tr ch er) 181 (0,0))):v≠t:=by
 rintro rfl
 rw[h] at ht
 injection ht with ht
 injection ht with _ h2
 exact absurd h2 (by decide)
theorem NC {w:World}{v t pg:Nat}{mp:VS}{root err:Int}(h:w.heap[v]? =some (.cells #[.pointer (some ⟨pg,0,none⟩)] 130 (0,0)))(ht:bK w t mp root err):v≠t:=by
 rintro rfl
 unfold bK at ht
 rw[h] at ht
 injection ht with ht
 injection ht with _ h2
 exact absurd h2 (by decide)
theorem vY.Ci {w w':World}{S S':Nat->Prop}{v t tr:Nat}{mp:VS}(h:w.heap[v]? =some (.cells #[.pointer (some ⟨mp.pg,0,none⟩)] 130 (0,0)))(hn:¬S v){ch:Bool}{er root err:Int}(htx:w.heap[t]? =some (.cells (dw mp (some tr) ch er) 181 (0,0)))(htr:bK w tr mp root err)(hs:jA S S' t tr w w'):
  w'.heap[v]? =some (.cells #[.pointer (some ⟨mp.pg,0,none⟩)] 130 (0,0))/\¬S' v:=by
 have hl:=(ah.1 h).1
 refine⟨(hs.1.block v hl (fun e=> ?_)).trans h,fun e=>(hs.2 v e).elim hn (fun x=>absurd hl (aV.2 x))⟩
 rcases e with e|e|e
 ·exact hn e
 ·exact Qm h htx e
 ·exact NC h htr e
theorem Kt.step {w w':World}{S S':Nat->Prop}{v pg d:Nat}{σ:Dk}{l:Lg}{p:Pg}{f:Nat->Bool}{root:Nat}{es:List kS}{tb:List Int}(h:Kt w S v pg d σ l p f root es tb){σ':Dk}{l':Lg}{p':Pg}(hp:iF w' S' pg d σ' l' p' (.pointer none))(hs:Step S S' w w')(hv:VJ σ' l' p')(hb:xR σ' l' p' f root)(hl:Live (bR.start σ' l' p' f) root es tb):Kt w' S' v pg d σ' l' p' f root es tb:=by
 have hlt:=(ah.1 h.obj).1
 exact⟨(hs.1.block v hlt h.nv).trans h.obj,fun e=>(hs.2 v e).elim h.nv (fun x=>absurd hlt (aV.2 x)),hp,hv,hb,hl⟩
theorem vY.below {w w':World}{S:Nat->Prop}{v t tr:Nat}{mp:VS}{σ:bR}{root:Int}{es:List kS}{tb:List Int}{ch:Bool}{root0:Nat}{es0:List kS}{tb0:List Int}(h:vY w S v t tr mp σ root es tb ch root0 es0 tb0)(hb:Below w.heap.size w w'):vY w' S v t tr mp σ root es tb ch root0 es0 tb0:=
 ⟨(hb.block v (ah.1 h.obj).1).trans h.obj,h.nv,h.tx.below hb,h.live,h.bas,h.ch⟩
theorem Ec {σ:bR}{root:Nat}{es:List kS}{tb:List Int}(ok:σ.Ok)(hL:Live σ root es tb)(hr:root<65536){σ':Dk}{l':Lg}{p':Pg}(hb:p'.blocks σ'=σ.most)(hv:VJ σ' l' p')(hlook:∀b,b<σ.most->p'.look Im.none σ' b=σ.H.pg.look (σ.sealed root).im σ.H.dk b):
  xR σ' l' p' σ.now root/\Live (bR.start σ' l' p' σ.now) root es tb:=by
 have h2:=ok.two
 have hl:∀b,b<σ.most->p'.look Im.none σ' b=if b=0 then bytesOf σ.now else if b=1 then pad (lY root) else σ.mem (b:Nat):=by
  intro b hbm
  rw[hlook b hbm]
  show σ.H.pg.look ((σ.im.put 1 (pad (lY root))).put 0 (bytesOf σ.now)) σ.H.dk b=_
  rw[qY,qY]
  split
  ·rfl
  ·split
   ·rfl
   ·unfold bR.mem;rw[cB]
 refine⟨⟨hv.pd,hv.nd,by omega,by rw[hl 0 (by omega),if_pos rfl],fun b hb'=>ok.nhi b (by omega),ok.n0,ok.n1,?_⟩,?_⟩
 ·rw[hl 1 (by omega),if_neg (by omega),if_pos rfl]
  exact⟨hr,List.replicate (512 - (lY root).length) 0,rfl⟩
 ·have hhas:∀x,(bR.start σ' l' p' σ.now).hasB x=σ.hasB x:=fun x=>by
   show (decide (0<=x) && (decide (x.toNat<p'.blocks σ') && σ.now x.toNat))=_
   rw[hb];rfl
  have hmv:∀x∈tb++dM es,(bR.start σ' l' p' σ.now).hasB x=true/\(bR.start σ' l' p' σ.now).mem x=σ.mem x:=by
   intro x hx
   obtain⟨a,b⟩:=hL.all x hx
   refine⟨by rw[hhas];exact a,?_⟩
   obtain⟨xn,hxe,hxl,_⟩:=bR.kJ a
   show p'.look Im.none σ' x.toNat=_
   rw[hl _ (by omega),if_neg (by omega),if_neg (by omega)]
   congr 1
   omega
  refine⟨?_,fun e he=>(hL.val e he).keep fun x hx=>hmv x (bX _ (nZ.2 ⟨e,he,hx⟩)),⟨hL.own.nd,fun x hx=>hL.own.ex x (by rw[<-hhas];exact hx),?_⟩⟩
  ·rcases hL.tree with h|⟨h,ht⟩
   ·exact .inl h
   ·exact .inr ⟨h,ht.move fun x hx=>hmv x (cO _ hx)⟩
  ·have hz:nh (bR.start σ' l' p' σ.now) (tb++dM es)=0:=by
    unfold nh
    rw[List.filter_eq_nil_iff.2]
    ·rfl
    ·intro x hx
     obtain⟨n,e,_,hn⟩:=bR.kJ (hL.all x hx).1
     have:(bR.start σ' l' p' σ.now).held x=true:=by
      show (decide (0<=x) && σ.now x.toNat)=true
      rw[e,cB,hn]
      simp
     rw[this];simp
   rw[hz,jw]
   exact iK _ (fun x _=>Bool.or_self _)
theorem Jv {σ:bR}{S:Nat->Prop}{mp:VS}{w:World}(h:Inv σ S mp w)(root:Nat):(σ.sealed root).im.Ok (σ.H.pg.blocks σ.H.dk)/\(σ.sealed root).im.ks.length+countB σ.H.old σ.most<=σ.tk+2/\(σ.sealed root).im.ks≠[]:=by
 have ok:=h.ok
 have hm:=ok.most
 have h2:=ok.two
 obtain⟨Sp,T,h,_⟩:=h
 have hi:σ.im.Ok σ.most:=by obtain⟨_,q⟩:=h.tx;exact q.ok
 have h1:=hi.put 1 (pad (lY root)) (by omega) (mJ (by simp[lY]))
 have h0:=h1.put 0 (bytesOf σ.now) (by omega) (rP _)
 have ok1:(σ.sealed root).Ok:=(ok.wrote 1 (pad (lY root)) (mJ (by simp[lY])) (by omega) (.inl (by omega))).wrote 0 (bytesOf σ.now) (rP _) (by show 0<σ.most;omega) (.inl (by omega))
 refine⟨by rw[<-hm];exact h0,ok1.Rh h0.rise,fun e=> ?_⟩
 have:0∈(σ.sealed root).im.ks:=jO.2 (.inl rfl)
 rw[e] at this;cases this
structure gJ where
 F:Nat->Prop
 w:World
 D:Nat->Dk->Lg->Pg->Prop
def nK:Nat->Dk->Lg->Pg->Prop:=fun _ σ _ _=>σ.fuel= -1
instance :Coe World gJ:=⟨fun w=>⟨fun g=>g<w.heap.size,w,nK⟩⟩
structure gJ.Calm (b:gJ):Prop where
 one:∀{d:Nat} {σ:Dk} {l:Lg} {p:Pg},b.D d σ l p->σ.fuel= -1
 two:∀{d:Nat} {σ σ':Dk} {l l':Lg} {p p':Pg},b.D d σ l p->σ'.fuel= -1->b.D d σ' l' p'
theorem OW {b:gJ}(h:b.D=nK):b.Calm:=⟨fun e=>by rw[h] at e;exact e,fun _ e=>by rw[h];exact e⟩
def gJ.to (b:gJ)(D:Nat->Dk->Lg->Pg->Prop):gJ:=⟨b.F,b.w,D⟩
structure VB (b:gJ)(w:World)(S:Nat->Prop):Prop where
 os:w.os=b.w.os
 tape:w.tape=b.w.tape
 output:w.output=b.w.output
 size:b.w.heap.size<=w.heap.size
 block:∀g,b.F g->w.heap[g]? =b.w.heap[g]?
 fs:∀g,b.F g->g<b.w.heap.size
 lo:∀g,S g->¬b.F g
theorem VB.to {b:gJ}{w:World}{S:Nat->Prop}(h:VB b w S){D:Nat->Dk->Lg->Pg->Prop}:VB (b.to D) w S:=⟨h.os,h.tape,h.output,h.size,h.block,h.fs,h.lo⟩
theorem VB.Bu {w0 w:World}{S:Nat->Prop}(h:VB w0 w S):Below w0.heap.size w0 w:=⟨h.os,h.tape,h.output,h.size,fun k hk=>h.block k hk⟩
theorem VB.of {w0 w:World}{S:Nat->Prop}(h:Below w0.heap.size w0 w)(hl:∀g,S g->w0.heap.size<=g):VB w0 w S:=⟨h.os,h.tape,h.output,h.size,fun k hk=>h.block k hk,fun _ hg=>hg,fun g hg=>aV.2 (hl g hg)⟩
theorem VB.keep {b:gJ}{w w':World}{S S' M:Nat->Prop}(h:VB b w S)(hk:Keep M w w')(hM:∀g,b.F g->¬M g)(hS:∀g,S' g->S g\/w.heap.size<=g):VB b w' S':=
 ⟨hk.os.trans h.os,hk.tape.trans h.tape,hk.output.trans h.output,aG h.size hk.size,fun g hg=>(hk.block g (ax (h.fs g hg) h.size) (hM g hg)).trans (h.block g hg),h.fs,fun g hg hf=>(hS g hg).elim (fun e=>h.lo g e hf) (fun e=>absurd (ax (h.fs g hf) h.size) (aV.2 e))⟩
theorem VB.step {b:gJ}{w w':World}{S S':Nat->Prop}(h:VB b w S)(hs:Step S S' w w'):VB b w' S':=h.keep hs.1 (fun g hg e=>h.lo g e hg) hs.2
theorem VB.KV {b:gJ}{w w':World}{S S':Nat->Prop}{t tr:Nat}(h:VB b w S)(ht:¬b.F t)(htr:¬b.F tr)(hs:jA S S' t tr w w'):VB b w' S':=h.keep hs.1 (fun g hg e=>by
  rcases e with e|e|e
  ·exact h.lo g e hg
  ·exact ht (e▸hg)
  ·exact htr (e▸hg)) hs.2
theorem VB.below {b:gJ}{w w':World}{S:Nat->Prop}(h:VB b w S)(hb:Below w.heap.size w w'):VB b w' S:=h.step (Step.of_below hb)
theorem VB.new {b:gJ}{w:World}{S:Nat->Prop}(h:VB b w S){g:Nat}(hg:w.heap.size<=g):¬b.F g:=fun hf=>absurd (ax (h.fs g hf) h.size) (aV.2 hg)
section
variable {w:World} {S:Nat->Prop} {v pg d:Nat} {σ:Dk} {l:Lg} {p:Pg} {f:Nat->Bool} {root:Nat} {es:List kS} {tb:List Int}
theorem Kt.begin (h:Kt w S v pg d σ l p f root es tb):
  Calls Tryz.prog 77 #[.pointer (some ⟨v,0,none⟩)] w fun e w'=>∃t tr mp S',e= .returned (.tuple #[.pointer (some ⟨t,0,none⟩),.int .i64 0])/\mp.pg=pg/\mp.d=d/\vY w' S' v t tr mp (bR.start σ l p f) root es tb false root es tb/\Step S S' w w'/\w.heap.size<=t/\w.heap.size<=tr:=by
 refine(Ql v pg d σ l p f root S w h.obj h.nv h.pgr h.base.pd h.base.sd h.base.two h.base.map h.base.hi h.base.f0 h.base.f1 h.base.root).mono ?_
 rintro e w1 ⟨t,tr,mp,S1,rfl,hpg,hd,htx,htr,hI1,hs1,hn1,hn2,hlo1,hlo2⟩
 have hlt:=(ah.1 h.obj).1
 exact⟨t,tr,mp,S1,rfl,hpg,hd,⟨by rw[hpg];exact(hs1.1.block v hlt h.nv).trans h.obj,fun e=>(hs1.2 v e).elim h.nv (fun x=>absurd hlt (aV.2 x)),⟨htx,htr,hI1,hn1,hn2⟩,h.live,⟨h.vi,h.base,h.live⟩,fun _=>⟨rfl,rfl⟩⟩,hs1,hlo1,hlo2⟩
end
section
variable {w:World} {S:Nat->Prop} {v t tr:Nat} {mp:VS} {σ:bR} {root:Int} {es:List kS} {tb:List Int} {ch:Bool} {root0:Nat} {es0:List kS} {tb0:List Int}
theorem vY.spoilt (h:vY w S v t tr mp σ root es tb ch root0 es0 tb0){w':World}(hp:xA t tr mp S σ ch w w'):
  ∃σ' S',Uj w' S' v t tr mp σ' ch root0 es0 tb0/\σ'.H=σ.H/\jA S S' t tr w w':=by
 obtain⟨σ',S',rt,er,hT,hH,hm,hs⟩:=hp
 obtain⟨a,b⟩:=vY.Ci h.obj h.nv h.tx.tx h.tx.tree hs
 refine⟨σ',S',⟨a,b,⟨rt,er,hT⟩,?_⟩,hH,hs⟩
 have:=h.bas
 obtain⟨x,y,z⟩:=this
 rw[<-hH] at x y z
 exact⟨x,y,z⟩
theorem vY.moved (h:vY w S v t tr mp σ root es tb ch root0 es0 tb0){w':World}{σ':bR}{S':Nat->Prop}{root':Int}{es':List kS}{tb':List Int}{ch':Bool}(hT:CR w' S' t tr mp σ' root' 0 ch' 0)(hL:Live σ' root' es' tb')(hH:σ'.H=σ.H)(hs:jA S S' t tr w w')(hc:ch'=false->σ'=bR.start σ'.H.dk σ'.H.lg σ'.H.pg σ'.H.old/\es'=es0):vY w' S' v t tr mp σ' root' es' tb' ch' root0 es0 tb0:=by
 obtain⟨a,b⟩:=vY.Ci h.obj h.nv h.tx.tx h.tx.tree hs
 refine⟨a,b,hT,hL,?_,hc⟩
 obtain⟨x,y,z⟩:=h.bas
 rw[<-hH] at x y z
 exact⟨x,y,z⟩
theorem vY.get (h:vY w S v t tr mp σ root es tb ch root0 es0 tb0)(key:ByteArray)(hl:es.length<=4090)(hg:1<=key.size/\key.size<=128):
  Calls Tryz.prog 215 #[.pointer (some ⟨t,0,none⟩),.string key] w fun e w'=>e= .returned (.tuple #[.string ((cu (fM es) key).getD ByteArray.empty),.bool (cu (fM es) key).isSome,.int .i64 0])/\vY w' S v t tr mp σ root es tb ch root0 es0 tb0/\Below w.heap.size w w':=by
 obtain⟨a,o,r,hA⟩:=MX es key
 refine(wI t tr mp root ch σ S w es a o r tb key h.tx h.live hA hl hg).mono ?_
 rintro e w' ⟨rfl,hb⟩
 exact⟨rfl,h.below hb,hb⟩
end
theorem yg.Lp {σ:bR}{root:Int}{cs:List Pr}{bs:List Int}(h:yg σ root cs bs)(hc:σ.most<=4096):∃n:Nat,root=n/\n<=4096:=by
 rcases h with ⟨rfl,_,_⟩|⟨_,nd,h1,_⟩
 ·exact⟨0,rfl,aN _⟩
 ·obtain⟨n,e,h1,_⟩:=bR.kJ h1.has
  exact⟨n,e,by omega⟩
theorem Mh {es l o r:List kS}{key v:ByteArray}(hA:vU es key l o r)(h:cu (fM es) key=some v):gZ (fM es) key v=fM es:=by
 rw[hA.lv] at h
 rcases hA.one with rfl|⟨e,rfl,hk⟩
 ·cases h
 ·have hv:e.v=v:=by simpa using h
  rw[hA.iv e.s v e.b,hA.eq,kH,kH,kH,bC]
  congr 1
  simp[fM,hk,hv]
theorem ByteArray.bne {a b:ByteArray}(h:a≠b):(a.toList==b.toList)=false:=by
 rw[eO]
 intro e
 exact h (Nq (BF.1 (by rw[toList_eq,toList_eq] at e;exact e)))
def fQ (kv:List Pr):Nat:=(kv.map fun p=>3+p.1.size+p.2.size).sum
theorem ValAt.le {σ:bR}{s v:ByteArray}{b:List Int}(h:ValAt σ s v b):s.size<=1+v.size:=by
 rcases h with ⟨rfl,_,_⟩|⟨hd,rs,rfl,⟨_,h2⟩,_⟩
 ·show (0::v.data.toList).toArray.size<=1+v.data.size;simp;omega
 ·show [1,UInt8.ofNat hd,UInt8.ofNat (hd/256)].toArray.size<=_;simp;omega
theorem zq {σ:bR}:∀{es:List kS},(∀e∈es,ValAt σ e.s e.v e.b)->eu (ic es)<=fQ (fM es)
 |[],_=>aA _
 |e::es,h=>by
  have h1:=(h e (aP ..)).le
  have h2:=zq (es:=es) fun x hx=>h x (aT _ hx)
  have e1:eu (ic (e::es))=2+e.k.size+e.s.size+eu (ic es):=mX _ _
  have e2:fQ (fM (e::es))=3+e.k.size+e.v.size+fQ (fM es):=by simp[fQ,fM]
  omega
theorem vU.Uv {σ:bR}{root:Int}{es l o r:List kS}{tb:List Int}{key value:ByteArray}(hA:vU es key l o r)(hL:Live σ root es tb):eu (gZ (ic es) key (strOf (0::value.data.toList)))<=fQ (gZ (fM es) key value):=by
 have h1:=zq (σ:=σ) (es:=l) fun e he=>hL.val e (by rw[hA.eq];simp[he])
 have h2:=zq (σ:=σ) (es:=r) fun e he=>hL.val e (by rw[hA.eq];simp[he])
 rw[hA.iv (strOf (0::value.data.toList)) value [],hA.is (strOf (0::value.data.toList)) value []]
 have e1:eu (ic (l++⟨key,strOf (0::value.data.toList),value,[]⟩::r))=eu (ic l)+(2+key.size+(strOf (0::value.data.toList)).size+eu (ic r)):=by
  rw[pz,pI];exact congrArg _ (mX _ _)
 have e2:fQ (fM (l++⟨key,strOf (0::value.data.toList),value,[]⟩::r))=fQ (fM l)+(3+key.size+value.size+fQ (fM r)):=by simp[fQ,fM]
 have e3:(strOf (0::value.data.toList)).size=value.size+1:=by show (0::value.data.toList).toArray.size=value.data.size+1;simp
 omega
section
variable {w:World} {S:Nat->Prop} {v t tr:Nat} {mp:VS} {σ:bR} {root:Int} {es:List kS} {tb:List Int} {ch:Bool} {root0:Nat} {es0:List kS} {tb0:List Int}
def IY (w:World)(S:Nat->Prop)(v t tr:Nat)(mp:VS)(σ:bR)(es:List kS)(tb:List Int)(ch':Bool)(root0:Nat)(es0:List kS)(tb0:List Int)(c:Nat)(qs:List Pr)(w':World):Prop:=
 ∃σ' S' root' es' tb',vY w' S' v t tr mp σ' root' es' tb' ch' root0 es0 tb0/\fM es'=qs/\σ'.H=σ.H/\σ'.most=σ.most/\jA S S' t tr w w'/\Uo σ σ' tb c/\qO σ σ' (tb++dM es) (tb'++dM es')
def PV (w:World)(S:Nat->Prop)(v t tr:Nat)(mp:VS)(σ:bR)(ch:Bool)(root0:Nat)(es0:List kS)(tb0:List Int)(w':World):Prop:=
 ∃σ' S',Uj w' S' v t tr mp σ' ch root0 es0 tb0/\σ'.H=σ.H/\jA S S' t tr w w'
theorem vY.put (h:vY w S v t tr mp σ root es tb ch root0 es0 tb0)(key value:ByteArray)(hl:es.length<=4090)(hg:1<=key.size/\key.size<=128)(hv:value.size<=63)(hz:es.length<=999/\2+fQ (gZ (fM es) key value)<=512):
  Calls Tryz.prog 411 #[.pointer (some ⟨t,0,none⟩),.string key,.string value] w fun e w'=>
   (e= .returned (.int .i64 0)/\IY w S v t tr mp σ es tb (ch|| !decide (cu (fM es) key=some value)) root0 es0 tb0 (2*(es.length+1)+jI value) (gZ (fM es) key value) w')\/
   (e= .returned (.int .i64 12)/\σ.most+nh σ tb<σ.sz+2*(es.length+1)+jI value/\PV w S v t tr mp σ ch root0 es0 tb0 w'):=by
 obtain⟨a,o,r,hA⟩:=MX es key
 by_cases hs:cu (fM es) key=some value
 ·refine(Jb t tr mp root ch σ S w es a o r tb key value h.tx h.live hA hl hg (by omega) hs).mono ?_
  rintro e w' ⟨rfl,hb⟩
  refine .inl ⟨rfl,σ,S,root,es,tb,?_,(Mh hA hs).symm,rfl,rfl,jA.of (Step.of_below hb),fun _ _ t=>t,qO.refl (fun x hx=>(h.live.all x hx).1)⟩
  have:(ch|| !decide (cu (fM es) key=some value))=ch:=by simp[hs]
  rw[this]
  exact h.below hb
 ·have hc:(ch|| !decide (cu (fM es) key=some value))=true:=by simp[hs]
  rw[hc]
  have hno:∀(there:Bool) (was:ByteArray),(cu (fM es) key).isSome=there/\(cu (fM es) key).getD ByteArray.empty=was->there=true->(was.toList==value.toList)=false:=by
   rintro there was ⟨h1,h2⟩ ht
   refine ByteArray.bne fun e=>hs ?_
   subst ht
   obtain⟨x,hx⟩:=Option.isSome_iff_exists.1 h1
   rw[hx] at h2 ⊢
   rw[<-e,<-h2];rfl
  have hput:∀(e:Ending) (w':World),((e= .returned (.int .i64 0)/\IJ t tr mp S σ es a r tb key value w w')\/(e= .returned (.int .i64 12)/\σ.most+nh σ tb<σ.sz+2*(es.length+1)+jI value/\xA t tr mp S σ ch w w'))->
    ((e= .returned (.int .i64 0)/\IY w S v t tr mp σ es tb true root0 es0 tb0 (2*(es.length+1)+jI value) (gZ (fM es) key value) w')\/(e= .returned (.int .i64 12)/\σ.most+nh σ tb<σ.sz+2*(es.length+1)+jI value/\PV w S v t tr mp σ ch root0 es0 tb0 w')):=by
   rintro e w' (⟨rfl,σ',S',root',tb',s,nb,q1,q2,q3,q4,q5⟩|⟨rfl,hr,hp⟩)
   ·exact .inl ⟨rfl,σ',S',root',_,tb',h.moved q1 q2 q3.H q4 (fun e=>by cases e),(hA.iv s value nb).symm,q3.H,q3.most,q4,q5,q3⟩
   ·exact .inr ⟨rfl,hr,h.spoilt hp⟩
  exact(FI t tr mp root ch σ S w es a o r tb key value h.tx h.live hA hl hg hv _ _ ⟨rfl,rfl⟩ (hno _ _ ⟨rfl,rfl⟩) ⟨hz.1,aG (Nat.add_le_add_left (hA.Uv h.live) 2) hz.2⟩).mono hput
theorem vY.scan (h:vY w S v t tr mp σ root es tb ch root0 es0 tb0)(key:ByteArray)(most:Int)(hl:es.length<=4090):
  Calls Tryz.prog 238 #[.pointer (some ⟨t,0,none⟩),.string key,.int .i64 most] w fun e w'=>∃v,e= .returned (.tuple #[v,.int .i64 0])/\aQ w' S w.heap.size 188 2 v (qF (fM es) key most).length (bZ (qF (fM es) key most))/\Below w.heap.size w w':=
 R4 t tr mp root ch σ S w es tb key most h.tx h.live hl
def Km (w:World)(S:Nat->Prop)(v t tr:Nat)(mp:VS)(σ:bR)(es:List kS)(tb:List Int)(ch:Bool)(root0:Nat)(es0:List kS)(tb0:List Int)(e:Ending)(w':World):Prop:=
 ∃S',jA S S' t tr w w'/\
  ((ch=false/\es=es0/\e= .returned (.tuple #[.int .i64 ((σ.H.lg.last:Int) - 1),.int .i64 0])/\Kt w' S' v mp.pg mp.d σ.H.dk σ.H.lg σ.H.pg σ.H.old root0 es0 tb0)\/
   (ch=true/\(∃r,(σ.sealed r).im.ks≠[]/\σ.H.pg.pu (σ.sealed r).im/\(σ.sealed r).im.Ok (σ.H.pg.blocks σ.H.dk)/\(σ.sealed r).im.ks.length+countB σ.H.old σ.most<=σ.tk+2)/\e= .returned (.tuple #[.int .i64 0,.int .i64 13])/\Kt w' S' v mp.pg mp.d σ.H.dk σ.H.lg σ.H.pg σ.H.old root0 es0 tb0)\/
   (ch=true/\e= .returned (.tuple #[.int .i64 (σ.H.lg.last:Int),.int .i64 0])/\∃(σ':Dk) (l':Lg) (p':Pg) (root':Nat) (im:Im),Kt w' S' v mp.pg mp.d σ' l' p' σ.now root' es tb/\Nk σ.H.dk σ.H.lg σ.H.pg im σ' l' p'/\p'.blocks σ'=σ.most)\/
   (ch=true/\e= .returned (.tuple #[.int .i64 0,.int .i64 10])/\∃(σ':Dk) (l':Lg) (p':Pg),IX σ.H.dk σ.H.lg σ.H.pg σ' l' p'/\iF w' S' mp.pg mp.d σ' l' p' (.pointer none)/\w'.heap[v]? =some (.cells #[.pointer (some ⟨mp.pg,0,none⟩)] 130 (0,0))/\¬S' v))
theorem vY.Cw (h:vY w S v t tr mp σ root es tb ch root0 es0 tb0)(hll:σ.H.lg.last<100000000000):
  Calls Tryz.prog 62 #[.pointer (some ⟨t,0,none⟩)] w fun e w'=>Km w S v t tr mp σ es tb ch root0 es0 tb0 e w'/\w'.heap[t]? =some (.cells (dw mp none ch 0) 181 (0,0)):=by
 have hV:=h.bas.vi
 have hI:=h.tx.inv
 obtain⟨hpo,hdo,hlo⟩:σ.H.pg.Ok σ.H.dk σ.H.lg/\σ.H.dk.Ok/\σ.H.lg.Ok:=by obtain⟨Sp,T,q,_⟩:=hI;exact q.pg.ok
 have hcap:σ.H.dk.waits.length<=90000:=by have a:=hV.wt;have b:=hlo.us;have c:=hlo.hi;omega
 have hstep:∀{S':Nat->Prop} {w':World},Keep (fun g=>S g\/g=t) w w'->(∀g,S' g->S g\/w.heap.size<=g)->jA S S' t tr w w':=fun a b=>⟨a.mono (fun g _ e=>e.imp id .inl),b⟩
 have hobj:∀{S':Nat->Prop} {w':World},jA S S' t tr w w'->w'.heap[v]? =some (.cells #[.pointer (some ⟨mp.pg,0,none⟩)] 130 (0,0))/\¬S' v:=fun a=>vY.Ci h.obj h.nv h.tx.tx h.tx.tree a
 cases ch with
 |false=>
  obtain⟨h1,h2⟩:=h.ch rfl
  have him:σ.im=Im.none:=by rw[h1];rfl
  have hc:σ.H.pg.commit σ.H.dk σ.H.lg σ.im=(σ.H.dk,σ.H.lg,σ.H.pg,σ.H.lg.last,0):=by
   rcases EQ hV (im:=σ.im) (by obtain⟨Sp,T,q,_⟩:=hI;obtain⟨_,q2⟩:=q.tx;have hm:=q.ok.most;rw[<-hm];exact q2.ok) (by omega) with ⟨_,q⟩|⟨q,_⟩|⟨q,_⟩|⟨q,_⟩
   ·exact q
   ·rw[him] at q;exact absurd rfl q
   ·rw[him] at q;exact absurd rfl q
   ·rw[him] at q;exact absurd rfl q
  refine(BK t tr mp root σ S w h.tx hV.ld hcap (by omega) (by rw[hc];show σ.H.lg.last<=_;omega)).mono ?_
  rintro e w' ⟨rfl,S',hp,hdt,_,hk,hn⟩
  rw[hc] at hp ⊢
  have hs:=hstep hk hn
  obtain⟨a,b⟩:=hobj hs
  exact⟨⟨S',hs,.inl ⟨rfl,h2,rfl,a,b,hp,hV,h.bas.base,h.bas.live⟩⟩,hdt⟩
 |true=>
  obtain⟨r,hr,hr2⟩:=h.live.tree.Lp hI.ok.cap
  obtain⟨s1,s2,s3⟩:=Jv hI r
  have hTx:=h.tx
  rw[hr] at hTx
  have hlaw:=EQ hV s1 (by omega)
  have hk0:(σ.H.pg.commit σ.H.dk σ.H.lg (σ.sealed r).im).2.2.2.1<=1000000000000:=by
   rcases hlaw with ⟨_,q⟩|⟨_,_,q⟩|⟨_,_,_,_,q,_⟩|⟨_,_,_,_,q,_⟩
   ·rw[q];show σ.H.lg.last<=_;omega
   ·rw[q];exact aN _
   ·rw[q];show σ.H.lg.last+1<=_;omega
   ·rw[q];exact aN _
  refine(BJ t tr mp r σ S w hTx hr2 hV.ld hcap (by omega) hk0).mono ?_
  rintro e w' ⟨rfl,S',hp,hdt,_,hk,hn⟩
  have hs:=hstep hk hn
  obtain⟨a,b⟩:=hobj hs
  refine⟨⟨S',hs,.inr ?_⟩,hdt⟩
  rcases hlaw with ⟨q,_⟩|⟨q1,q2,q⟩|⟨_,σ',l',p',q,cm⟩|⟨_,σ',l',p',q,di⟩
  ·exact absurd q s3
  ·rw[q] at hp ⊢
   exact .inl ⟨rfl,⟨r,q1,q2,s1,s2⟩,rfl,a,b,hp,hV,h.bas.base,h.bas.live⟩
  ·rw[q] at hp ⊢
   have hbl:p'.blocks σ'=σ.most:=by rw[hI.ok.most];unfold Pg.blocks;rw[cm.skip,cm.n]
   obtain⟨b1,b2⟩:=Ec hI.ok (by have:=h.live;rwa [hr] at this) (by omega) hbl cm.vj (fun b hb=>cm.look b (by rw[<-hI.ok.most];exact hb))
   refine .inr (.inl ⟨rfl,?_,σ',l',p',r,_,⟨a,b,hp,cm.vj,b1,b2⟩,cm,hbl⟩)
   show Ending.returned (.tuple #[.int .i64 (((σ.H.lg.last+1:Nat):Int) - 1),.int .i64 0])=_
   rw[show ((σ.H.lg.last+1:Nat):Int) - 1=σ.H.lg.last by omega]
  ·rw[q] at hp ⊢
   exact .inr (.inr ⟨rfl,rfl,σ',l',p',di,hp,a,b⟩)
end
end Go.Proofs.YtpmbddooibgnaaaGreatDoor
