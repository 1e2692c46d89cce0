/- parts -/
import Derived.Test.YtpmbddooibgnaaaGreatDoorS1
import Derived.OrdersHeld
import Derived.Deep.RegionHeld
set_option maxRecDepth 100000
set_option maxHeartbeats 8000000
set_option linter.all false
namespace Go.Proofs.YtpmbddooibgnaaaGreatDoor
open Go.RowKit
section
variable {P:Program} {ops:Array Oper} {Q:Exit->Act->World->Prop} {md:Region.Mode} {S:World->Prop}
def EF (md:Region.Mode)(ops:Array Oper)(j:Nat):List Nat:=
 match ops[j]? with
 |none=>[]
 |some o=>(o.after.toList.filter (Region.binds md)).map (·.on)
def marks (md:Region.Mode)(ops:Array Oper):List Nat->List Nat->List Nat
 |[],l=>l
 |i::r,l=>marks md ops r (if l.contains i then(EF md ops i).foldl (fun acc k=>if acc.contains k then acc else k::acc) l else l)
def mW (md:Region.Mode)(ops:Array Oper)(j:Nat):Bool:=
 let l:=marks md ops (List.range ops.size).reverse (EF md ops j)
 (List.range ops.size).all fun i=>i==j||l.contains i
def rX (md:Region.Mode)(ops:Array Oper)(listed:Array Bool):Prop:=∀i k,i<ops.size->k∈EF md ops i->listed.getD i true=true->listed.getD k false=true
theorem rH {j k:Nat}{listed:Array Bool}(hj:j∈Region.ready md ops listed)(hk:k∈EF md ops j):listed.getD k false=true:=by
 obtain⟨_,o,ho,hall⟩:=mem_ready.1 hj
 unfold EF at hk
 rw[ho] at hk
 simp only[gV,List.mem_filter,Array.mem_toList_iff] at hk
 obtain⟨e,⟨he,hb⟩,rfl⟩:=hk
 exact hall e he hb
theorem rX.set {j:Nat}{listed:Array Bool}(h:rX md ops listed)(hj:j∈Region.ready md ops listed):rX md ops (listed.setIfInBounds j true):=by
 intro i k hi hk hl
 by_cases hij:j=i
 ·subst hij;exact getD_set_true (rH hj hk)
 ·rw[getD_set_ne true hij] at hl;exact getD_set_true (h i k hi hk hl)
theorem rX.replicate:rX md ops (Array.replicate ops.size false):=by
 intro i k hi hk hl
 simp[hi] at hl
theorem tC {x:Nat}:∀(es:List Nat) (l:List Nat),x∈es.foldl (fun acc k=>if acc.contains k then acc else k::acc) l->x∈es\/x∈l
 |[],l,h=> .inr h
 |e::r,l,h=>by
  rcases tC r _ h with h|h
  ·exact .inl (aT _ h)
  ·dsimp only at h
   split at h
   ·exact .inr h
   ·rcases aX.1 h with rfl|h
    ·exact .inl (aP ..)
    ·exact .inr h
theorem oG {listed:Array Bool}{i:Nat}(h:listed.getD i false=true):listed.getD i true=true:=by
 rcases jv i listed.size with h'|h'
 ·simpa [h'] using h
 ·simp[C9 h'] at h
theorem uY {listed:Array Bool}(h:rX md ops listed):∀(r l:List Nat),(∀i∈r,i<ops.size)->(∀x∈l,listed.getD x false=true)->∀x∈marks md ops r l,listed.getD x false=true
 |[],_,_,hl=>hl
 |i::r,l,hr,hl=>by
  refine uY h r _ (fun k hk=>hr k (aT _ hk)) ?_
  intro x hx
  split at hx
  ·rename_i hc
   rcases tC _ _ hx with hx|hx
   ·exact h i x (hr i (aP ..)) hx (oG (hl i (by simpa using hc)))
   ·exact hl x hx
  ·exact hl x hx
theorem Aa {i j:Nat}{listed:Array Bool}(h:mW md ops j=true)(hs:rX md ops listed)(hj:j∈Region.ready md ops listed)(hi:i<ops.size)(hne:i≠j):listed.getD i false=true:=by
 unfold mW at h
 have:=BB.1 h i (List.mem_range.2 hi)
 simp only[uy,CU,hne,false_or] at this
 refine uY hs (List.range ops.size).reverse _ (fun k hk=>by simpa using hk) (fun x hx=>rH hj hx) i (by simpa using this)
def yM (P:Program)(md:Region.Mode)(ops:Array Oper)(Q:Exit->Act->World->Prop)(S:World->Prop):Nat->Array Bool->Act->World->Prop
 |0,listed,a,w=>Region.ready md ops listed=[]/\Q .normal a w
 |fuel+1,listed,a,w=>
  (Region.ready md ops listed=[]->Q .normal a w)/\
  ∀i∈Region.ready md ops listed,wpOp P ops Q i (fun a' w'=>(mW md ops i=true\/S w')/\yM P md ops Q S fuel (listed.setIfInBounds i true) a' w') a w
theorem yL:∀(fuel:Nat) (listed:Array Bool) (a:Act) (w:World),yM P md ops Q S fuel listed a w->wpAny P md ops Q fuel listed a w
 |0,_,_,_,h=>h
 |fuel+1,_,_,_,h=>⟨h.1,fun i hi=>wpOp_mono (fun a' w' h'=>yL fuel _ a' w' h'.2) (h.2 i hi)⟩
theorem Ea {i:Nat}{listed:Array Bool}(h:i∈Region.ready md ops listed):i<ops.size:=by
 obtain⟨_,o,ho,_⟩:=mem_ready.1 h
 exact(ah.1 ho).1
theorem JO {i j:Nat}{listed:Array Bool}(hs:rX md ops listed)(hi:i∈Region.ready md ops listed)(hj:j∈Region.ready md ops listed)(hne:i≠j):mW md ops j=false:=by
 cases hw:mW md ops j with
 |false=>rfl
 |true=>
  have h1:=oG (Aa hw hs hj (Ea hi) hne)
  rw[(mem_ready.1 hi).1] at h1
  cases h1
theorem BH {i:Nat}{oi:Oper}{v:Value}(hi:ops[i]? =some oi)(hsel:∀(j:Nat) (o:Oper) cs b,ops[j]? =some o->o.op≠.select cs b)
  (hQ:∀c a w,Q (.panic c) (a.put oi.dst v) w->Q (.panic c) a w):
  ∀(fuel:Nat) (listed:Array Bool) (a:Act) (w:World),rX md ops listed->
   (∀j oj,ops[j]? =some oj->j≠i->listed.getD j true=false->(∀e∈oj.after,Region.binds md e=true->e.on≠i)->oi.apart ops oj=true)->
   i∈Region.ready md ops listed->YieldsIf P ops S oi v a->S w->
   yM P md ops Q S fuel (listed.setIfInBounds i true) (a.put oi.dst v) w->yM P md ops Q S (fuel+1) listed a w:=by
 intro fuel
 induction fuel with
 |zero=>
  intro listed a w hsh _ hr hy hS H
  refine⟨fun h=>(by rw[h] at hr;cases hr),fun j hj=> ?_⟩
  by_cases hji:j=i
  ·subst hji;exact hy.wpOp hi hS ⟨.inr hS,H⟩
  ·have:=ready_mono hj hji
   rw[H.1] at this
   cases this
 |succ fuel ih=>
  intro listed a w hsh hfree hr hy hS H
  refine⟨fun h=>(by rw[h] at hr;cases hr),fun j hj=> ?_⟩
  by_cases hji:j=i
  ·subst hji;exact hy.wpOp hi hS ⟨.inr hS,H⟩
  ·have h1:=H.2 j (ready_mono hj hji)
   have hnw:=JO hsh hr hj (Ne.symm hji)
   obtain⟨hjun,oj,hoj,hall⟩:=mem_ready.1 hj
   have hnot:∀e∈oj.after,Region.binds md e=true->e.on≠i:=fun e he hb heq=>by
    have q1:=hall e he hb
    have q0:=(mem_ready.1 hr).1
    rw[heq] at q1
    rcases jv i listed.size with h'|h'
    ·simp[h'] at q0 q1;rw[q0] at q1;cases q1
    ·simp[C9 h'] at q1
   have h2:=wpOp_putIf hoj (hfree j oj hoj hji hjun hnot) (fun cs b=>hsel i oi cs b hi) (fun cs b=>hsel j oj cs b hoj) hQ hy h1
   have hfree':∀k ok,ops[k]? =some ok->k≠i->(listed.setIfInBounds j true).getD k true=false->
     (∀e∈ok.after,Region.binds md e=true->e.on≠i)->oi.apart ops ok=true:=fun k ok hk hki hun hno=>by
    refine hfree k ok hk hki ?_ hno
    by_cases hjk:j=k
    ·subst hjk;exact hjun
    ·rw[getD_set_ne true hjk] at hun;exact hun
   refine wpOp_mono (fun a' w' h3=> ?_) h2
   have hS':S w':=h3.2.1.resolve_left (by rw[hnw];simp)
   refine⟨.inr hS',ih (listed.setIfInBounds j true) a' w' (hsh.set hj) hfree' (ready_mono hr (Ne.symm hji)) h3.1 hS' ?_⟩
   rw[Array.setIfInBounds_comm _ _ hji]
   exact h3.2.2
def DU (md:Region.Mode)(ops:Array Oper)(q:Nat->Bool):List Nat->Array Bool->Bool
 |[],listed=>(Region.ready md ops listed).isEmpty
 |i::rest,listed=>
  (if q i then(Region.ready md ops listed).contains i && Region.free md ops listed i
   else(Region.ready md ops listed==[i]) && (!mW md ops i||rest.isEmpty)) && DU md ops q rest (listed.setIfInBounds i true)
def lV (P:Program)(md:Region.Mode)(ops:Array Oper)(Q:Exit->Act->World->Prop)(S:World->Prop)(q:Nat->Bool):List Nat->Act->World->Prop
 |[],a,w=>Q .normal a w
 |i::rest,a,w=>
  if q i then ∃o v,ops[i]? =some o/\(∀c a w,Q (.panic c) (a.put o.dst v) w->Q (.panic c) a w)/\YieldsIf P ops S o v a/\lV P md ops Q S q rest (a.put o.dst v) w
  else wpOp P ops Q i (fun a' w'=>(mW md ops i=true\/S w')/\lV P md ops Q S q rest a' w') a w
theorem pF (hs:Region.noSelect ops=true){q:Nat->Bool}:∀(order:List Nat) (fuel:Nat) (listed:Array Bool) (a:Act) (w:World),rX md ops listed->
  DU md ops q order listed=true->order.length<=fuel->(order=[]\/S w)->lV P md ops Q S q order a w->yM P md ops Q S fuel listed a w
 |[],fuel,listed,a,w,_,hok,_,_,h=>by
  have h0:Region.ready md ops listed=[]:=by simpa [DU] using hok
  cases fuel with
  |zero=>exact⟨h0,h⟩
  |succ fuel=>exact⟨fun _=>h,fun i hi=>by rw[h0] at hi;cases hi⟩
 |i::rest,0,_,_,_,_,_,hf,_,_=>absurd hf (by simp)
 |i::rest,fuel+1,listed,a,w,hsh,hok,hf,hSw,h=>by
  have hS:S w:=hSw.resolve_left (by simp)
  simp only[DU,dI] at hok
  obtain⟨hi,hrest⟩:=hok
  by_cases hq:q i=true
  ·simp only[hq,lH,dI] at hi
   simp only[lV,hq,lH] at h
   obtain⟨o,v,ho,hQ,hy,h⟩:=h
   exact BH ho (Region.noSelect_spec hs) hQ fuel listed a w hsh (Region.free_spec ho hi.2) (by simpa using hi.1) hy hS
    (pF hs rest fuel _ _ _ (hsh.set (by simpa using hi.1)) hrest (by simpa using hf) (.inr hS) h)
  ·rw[if_neg hq,dI,CU] at hi
   simp only[lV] at h
   rw[if_neg hq] at h
   have hr:Region.ready md ops listed=[i]:=by simpa using hi.1
   refine⟨fun h0=>(by rw[hr] at h0;cases h0),fun j hj=> ?_⟩
   rw[hr] at hj
   obtain rfl:j=i:=by simpa using hj
   refine wpOp_mono (fun a' w' h3=>⟨h3.1,pF hs rest fuel _ _ _ (hsh.set (by rw[hr];exact bO.2 rfl)) hrest (by simpa using hf) ?_ h3.2⟩) h
   rcases h3.1 with hw|hS'
   ·have:=hi.2
    simp only[hw] at this
    exact .inl (by simpa using this)
   ·exact .inr hS'
theorem aK {id:Nat}{a:Act}{w:World}(S:World->Prop)(q:Nat->Bool)(order:List Nat)(hm:P.follows .mixedOrders=true)(hok:(Region.noSelect ops && decide (order.length<=ops.size) && DU .any ops q order (Array.replicate ops.size false))=true)
  (hS:S w.drew) (h:lV P .any ops Q S q order a w.drew):(Code.region id ops true).wp P Q a w:=by
 simp only[dI,dB] at hok
 exact wp_region_any hm (yL _ _ _ _ (pF hok.1.1 order _ _ _ _ rX.replicate hok.2 hok.1.2 (.inr hS) h))
theorem bF {q:Nat->Bool}{a:Act}{w:World}(h:Q .normal a w):lV P md ops Q S q [] a w:=h
theorem bq {q:Nat->Bool}{i:Nat}{rest:List Nat}{a:Act}{w:World}{o:Oper}{v:Value}(hq:q i=true)(hi':ops.toList[i]? =some o)(hQ:∀c a w,Q (.panic c) (a.put o.dst v) w->Q (.panic c) a w)
  (hw:Region.wanted o (yielded ops a.tmps)=true) (hy:∀W,S W->(execOp a.eval o).run P W= .ok (.value v) W) (h:lV P md ops Q S q rest (a.put o.dst v) w):lV P md ops Q S q (i::rest) a w:=by
 have hi:ops[i]? =some o:=by rw[<-su];exact hi'
 simp only[lV,hq,lH];exact⟨o,v,hi,hQ,.inl ⟨hw,hy⟩,h⟩
theorem LB {q:Nat->Bool}{i:Nat}{rest:List Nat}{a:Act}{w:World}{o:Oper}(hq:q i=true)(hi':ops.toList[i]? =some o)(hQ:∀c a w,Q (.panic c) (a.put o.dst undef) w->Q (.panic c) a w)
  (hw:Region.wanted o (yielded ops a.tmps)=false) (h:lV P md ops Q S q rest (a.put o.dst undef) w):lV P md ops Q S q (i::rest) a w:=by
 have hi:ops[i]? =some o:=by rw[<-su];exact hi'
 simp only[lV,hq,lH];exact⟨o,undef,hi,hQ,.inr ⟨hw,rfl⟩,h⟩
theorem bP {q:Nat->Bool}{i:Nat}{rest:List Nat}{a:Act}{w:World}{o:Oper}(hq:q i=false)(hi':ops.toList[i]? =some o)(hw:Region.wanted o (yielded ops a.tmps)=true)
  (h:∀K:Act->World->Prop,Shut (∀a w,S w->lV P md ops Q S q rest a w->K a w)->o.wp P a w K Q):lV P md ops Q S q (i::rest) a w:=by
 have hi:ops[i]? =some o:=by rw[<-su];exact hi'
 simp only[lV,hq,wpOp,hi,hw,lH]
 exact .inl (h _ (fun a w hS hW=>⟨.inr hS,hW⟩))
theorem jm {q:Nat->Bool}{i:Nat}{rest:List Nat}{a:Act}{w:World}{o:Oper}(hq:q i=false)(hi':ops.toList[i]? =some o)(hw:Region.wanted o (yielded ops a.tmps)=true)(hl:mW md ops i=true)
  (h:∀K:Act->World->Prop,Shut (∀a w,lV P md ops Q S q rest a w->K a w)->o.wp P a w K Q):lV P md ops Q S q (i::rest) a w:=by
 have hi:ops[i]? =some o:=by rw[<-su];exact hi'
 simp only[lV,hq,wpOp,hi,hw,lH]
 exact .inl (h _ (fun a w hW=>⟨.inl hl,hW⟩))
end
end Go.Proofs.YtpmbddooibgnaaaGreatDoor
