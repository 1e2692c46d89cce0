/- parts -/
import Derived.Test.YtbfjgkafmlbpcaaGreatDoorT3
import Derived.Test.YtbfjgkafmlbpcaaGreatDoorT6
set_option maxRecDepth 100000
set_option maxHeartbeats 8000000
set_option linter.all false
namespace Go.Proofs.YtbfjgkafmlbpcaaGreatDoor
open Go.RowKit
section
variable {P:Program} {ops:Array Oper} {Q:Exit->Act->World->Prop} {md:Region.Mode} {S:World->Prop}
def DX (md:Region.Mode)(ops:Array Oper)(q:Nat->Bool)(chk:Array Bool->Bool):List Nat->Array Bool->Bool
 |[],listed=>chk listed
 |i::rest,listed=>
  (if q i then(Region.ready md ops listed).contains i && Region.free md ops listed i
   else(Region.ready md ops listed==[i]) && !mW md ops i) && DX md ops q chk rest (listed.setIfInBounds i true)
def qB (P:Program)(md:Region.Mode)(ops:Array Oper)(Q:Exit->Act->World->Prop)(S:World->Prop)(q:Nat->Bool)(fin:Act->World->Prop):List Nat->Act->World->Prop
 |[],a,w=>fin a w
 |i::rest,a,w=>
  if q i then ∃o v,ops[i]? =some o/\(∀c a w,Q (.panic c) (a.put o.dst v) w->Q (.panic c) a w)/\YieldsIf P ops S o v a/\qB P md ops Q S q fin rest (a.put o.dst v) w
  else wpOp P ops Q i (fun a' w'=>S w'/\qB P md ops Q S q fin rest a' w') a w
theorem pq (hs:Region.noSelect ops=true){q:Nat->Bool}{chk:Array Bool->Bool}{fin:Act->World->Prop}{m:Nat}
  (hfin:∀(fuel:Nat) (listed:Array Bool) (a:Act) (w:World),pV md ops listed->chk listed=true->m<=fuel->S w->fin a w->sD P md ops Q S fuel listed a w):
  ∀(order:List Nat) (fuel:Nat) (listed:Array Bool) (a:Act) (w:World),pV md ops listed->DX md ops q chk order listed=true->order.length+m<=fuel->S w->qB P md ops Q S q fin order a w->sD P md ops Q S fuel listed a w
 |[],fuel,listed,a,w,hsh,hok,hf,hS,h=>hfin fuel listed a w hsh hok (by simpa using hf) hS h
 |i::rest,0,_,_,_,_,_,hf,_,_=>absurd hf (by simp)
 |i::rest,fuel+1,listed,a,w,hsh,hok,hf,hS,h=>by
  simp only[DX,dU] at hok
  obtain⟨hi,hrest⟩:=hok
  have hf':rest.length+m<=fuel:=by simp only[aY] at hf;omega
  by_cases hq:q i=true
  ·simp only[hq,iI,dU] at hi
   simp only[qB,hq,iI] at h
   obtain⟨o,v,ho,hQ,hy,h⟩:=h
   exact wD ho (Region.noSelect_spec hs) hQ fuel listed a w hsh (Region.free_spec ho hi.2) (by simpa using hi.1) hy hS
    (pq hs hfin rest fuel _ _ _ (hsh.set (by simpa using hi.1)) hrest hf' hS h)
  ·rw[if_neg hq,dU] at hi
   simp only[qB] at h
   rw[if_neg hq] at h
   have hr:Region.ready md ops listed=[i]:=by simpa using hi.1
   refine⟨fun h0=>(by rw[hr] at h0;cases h0),fun j hj=> ?_⟩
   rw[hr] at hj
   obtain rfl:j=i:=by simpa using hj
   exact Ou (fun a' w' h3=>⟨.inr h3.1,pq hs hfin rest fuel _ _ _ (hsh.set (by rw[hr];exact bK.2 rfl)) hrest hf' h3.1 h3.2⟩) h
def IC (md:Region.Mode)(ops:Array Oper)(q:Nat->Bool)(i j:Nat)(ri rj:List Nat)(listed:Array Bool):Bool:=
 (Region.ready md ops listed==[i,j]) && (AJ md ops q ri (listed.setIfInBounds i true) && AJ md ops q rj (listed.setIfInBounds j true))
def GH (P:Program)(md:Region.Mode)(ops:Array Oper)(Q:Exit->Act->World->Prop)(S:World->Prop)(q:Nat->Bool)(i j:Nat)(ri rj:List Nat)(a:Act)(w:World):Prop:=
 wpOp P ops Q i (fun a' w'=>S w'/\kZ P md ops Q S q ri a' w') a w/\wpOp P ops Q j (fun a' w'=>S w'/\kZ P md ops Q S q rj a' w') a w
theorem zY (hs:Region.noSelect ops=true){q:Nat->Bool}{i j:Nat}{ri rj:List Nat}(fuel:Nat)(listed:Array Bool)(a:Act)(w:World)(hsh:pV md ops listed)(hok:IC md ops q i j ri rj listed=true)
  (hf:max ri.length rj.length+1<=fuel) (h:GH P md ops Q S q i j ri rj a w):sD P md ops Q S fuel listed a w:=by
 simp only[IC,dU,uR] at hok
 obtain⟨hr,hi,hj⟩:=hok
 cases fuel with
 |zero=>omega
 |succ fuel=>
  refine⟨fun h0=>(by rw[hr] at h0;cases h0),fun k hk=> ?_⟩
  have hk':=hk
  rw[hr] at hk'
  rcases bM.1 hk' with rfl|hk'
  ·exact Ou (fun a' w' h3=>⟨.inr h3.1,lZ hs ri fuel _ _ _ (hsh.set hk) hi (by omega) (.inr h3.1) h3.2⟩) h.1
  ·obtain rfl:k=j:=by simpa using hk'
   exact Ou (fun a' w' h3=>⟨.inr h3.1,lZ hs rj fuel _ _ _ (hsh.set hk) hj (by omega) (.inr h3.1) h3.2⟩) h.2
theorem mV {id:Nat}{a:Act}{w:World}(S:World->Prop)(q:Nat->Bool)(order:List Nat)(i j:Nat)(ri rj:List Nat)(hm:P.follows .mixedOrders=true)
  (hok:(Region.noSelect ops && decide (order.length+(max ri.length rj.length+1)<=ops.size) && DX .any ops q (IC .any ops q i j ri rj) order (Array.replicate ops.size false))=true)
  (hS:S w.drew) (h:qB P .any ops Q S q (GH P .any ops Q S q i j ri rj) order a w.drew):(Code.region id ops true).wp P Q a w:=by
 simp only[dU,eD] at hok
 exact wp_region_any hm (vK _ _ _ _ (pq hok.1.1 (fun fuel listed a w hsh hok2 hf _ hfin=>zY hok.1.1 fuel listed a w hsh hok2 hf hfin) order _ _ _ _ pV.replicate hok.2 hok.1.2 hS h))
theorem wV {q:Nat->Bool}{fin:Act->World->Prop}{a:Act}{w:World}(h:fin a w):qB P md ops Q S q fin [] a w:=h
theorem DY {q:Nat->Bool}{fin:Act->World->Prop}{i:Nat}{rest:List Nat}{a:Act}{w:World}{o:Oper}{v:Value}(hq:q i=true)(hi':ops.toList[i]? =some o)(hQ:∀c a w,Q (.panic c) (a.put o.dst v) w->Q (.panic c) a w)
  (hw:Region.wanted o (yielded ops a.tmps)=true) (hy:∀W,S W->(execOp a.eval o).run P W= .ok (.value v) W) (h:qB P md ops Q S q fin rest (a.put o.dst v) w):qB P md ops Q S q fin (i::rest) a w:=by
 have hi:ops[i]? =some o:=by rw[<-jO];exact hi'
 simp only[qB,hq,iI];exact⟨o,v,hi,hQ,.inl ⟨hw,hy⟩,h⟩
theorem xD {q:Nat->Bool}{i j:Nat}{ri rj:List Nat}{a:Act}{w:World}{oi oj:Oper}(hi':ops.toList[i]? =some oi)(hj':ops.toList[j]? =some oj)(hwi:Region.wanted oi (yielded ops a.tmps)=true)(hwj:Region.wanted oj (yielded ops a.tmps)=true)
  (hi:∀K:Act->World->Prop,Shut (∀a w,S w->kZ P md ops Q S q ri a w->K a w)->oi.wp P a w K Q)
  (hj:∀K:Act->World->Prop,Shut (∀a w,S w->kZ P md ops Q S q rj a w->K a w)->oj.wp P a w K Q):GH P md ops Q S q i j ri rj a w:=by
 have e1:ops[i]? =some oi:=by rw[<-jO];exact hi'
 have e2:ops[j]? =some oj:=by rw[<-jO];exact hj'
 constructor
 ·simp only[wpOp,e1,hwi,iI]
  exact .inl (hi _ (fun a w hS hW=>⟨hS,hW⟩))
 ·simp only[wpOp,e2,hwj,iI]
  exact .inl (hj _ (fun a w hS hW=>⟨hS,hW⟩))
end
theorem wR (ps:List (ByteArray×ByteArray)):∀k,dN (ps.take k)=(dN ps).take (k*2):=by
 induction ps with
 |nil=>intro k;simp[dN]
 |cons p ps ih=>
  intro k
  cases k with
  |zero=>simp[dN]
  |succ k=>rw[gV,kP,kP,ih,Qo,gV,gV]
theorem qZ (ps:List (ByteArray×ByteArray)):∀k,dN (ps.drop k)=(dN ps).drop (k*2):=by
 induction ps with
 |nil=>intro k;simp[dN]
 |cons p ps ih=>
  intro k
  cases k with
  |zero=>simp
  |succ k=>rw[eZ,kP,ih,Qo,eZ,eZ]
theorem uy (W:World)(o1 o2:Obj):((W.alloc o1).alloc o2).drew.heap[W.heap.size]? =some o1:=by
 show ((W.alloc o1).alloc o2).heap[W.heap.size]? =some o1
 exact((aF (W.alloc o1) o2).block _ (by rw[aV];omega)).trans (aK _ _)
theorem uz (W:World)(o1 o2:Obj):((W.alloc o1).alloc o2).drew.heap[W.heap.size+1]? =some o2:=by
 show ((W.alloc o1).alloc o2).heap[W.heap.size+1]? =some o2
 rw[<-aV W o1]
 exact aK _ _
theorem qx {w W:World}{S:Nat->Prop}{g:Nat}{v0:Value}{ps:List Pr}(hW:Below w.heap.size w W)(h:nN w S v0 ps)(hb:W.heap[g]? =some (.cells #[v0,.slice none 0 0,.slice none 0 0] 260 (0,0)))(hg:¬S g):fD W S g ⟨ps,[],[]⟩:=
 ⟨hg,_,_,_,hb,bn.below h hW,bn.nil _ _ _,bn.nil _ _ _⟩
def uQ (nd:Nd)(i:Nat):Prop:=(1<i->2*dO (nd.pairs.take (i - 1))<nd.size)/\(i+1=nd.pairs.length\/nd.size<=2*dO (nd.pairs.take i))
theorem Ba (b:Nat)(nd:Nd)(w:World)(S:Nat->Prop)(hS:∀g,S g->g<w.heap.size)(h:fD w S b nd)(hk:nd.kids=[])(h2:2<=nd.pairs.length)(hs:nd.size<=1000000):
  Calls Tryz.prog 255 #[.pointer (some ⟨b,0,none⟩)] w fun e w'=>∃(i:Nat) (hi:i<nd.pairs.length) (b1 b2:Nat),1<=i/\e= .returned (.tuple #[.pointer (some ⟨b1,0,none⟩),.pointer (some ⟨b2,0,none⟩),.string nd.pairs[i].1])/\
   fD w' S b1 ⟨nd.pairs.take i,[],[]⟩/\fD w' S b2 ⟨nd.pairs.drop i,[],[]⟩/\Below w.heap.size w w'/\uQ nd i:=by
 have hN:=h
 obtain⟨_,v0,v1,v2,hb,h0,h1,h22⟩:=h
 obtain⟨c0,c1,c2,_,_,_,hlt⟩:=cells3 hb
 obtain⟨ao0,cp0,rfl,n0,m0,_,_⟩:=bn.form h0
 have hps:dO nd.pairs<=1000000:=by unfold Nd.size at hs;omega
 have hke:nd.kids.isEmpty=true:=by rw[hk];rfl
 obtain⟨b0,o0,rfl,d1,d2⟩:=h0.at rfl 0 (by omega)
 rw[xX,iW] at d1 d2
 have z0:=ol nd.pairs 0 (by omega)
 rw[show dO (nd.pairs.take 0)=0 from rfl,eG,eG] at z0
 have z1:=jD nd.pairs 1
 have hz:nd.pairs[0].1.size+nd.pairs[0].2.size<=1000000:=by omega
 have Z0:=af z0;clear z0 z1 h22 h1
 have x1:IntKind.i64.wrap ((2:Int)+(nd.pairs[0].1.size:Int))=(2:Int)+(nd.pairs[0].1.size:Int):=aM _ (by omega)
 have x2:IntKind.i64.wrap ((2:Int)+(nd.pairs[0].1.size:Int)+(nd.pairs[0].2.size:Int))=(2:Int)+(nd.pairs[0].1.size:Int)+(nd.pairs[0].2.size:Int):=aM _ (by omega)
 have p1:(0:Int)<(nd.pairs.length:Int):=by omega
 have p2:0<nd.pairs.length:=by omega
 go_enter Tryz.func255,Tryz.ntmps255
 go_wp2_with (first|(go_at_call 150;go_must (refine(iZ b nd w S hN).mono ?_;rintro e w1 ⟨rfl,rfl⟩;rw[hke];refine Stop.of ?_)))
 refine Stop.on ?_
 go_wp2_with fail
 refine aN (fun W=>W.cell? ⟨b,0,none⟩=some (.slice (some ⟨b0,o0,none⟩) nd.pairs.length cp0)/\W.cell? ⟨b0,o0,none⟩=some (.string nd.pairs[0].1)/\W.cell? ⟨b0,o0+1,none⟩=some (.string nd.pairs[0].2)) (fun _=>true) [0,1,2,3,4,5,6,7,8,9,10,11,12,13,14,15,16,17,18,19] rfl (by kernel_rfl) ⟨c0,d1,d2⟩ ?_
 repeat ((refine bL (v:= ?_) rfl rfl (fun _ _ _ h=>h) rfl (fun W hW=> ?_) ?_);rotate_left;(focus ((try dsimp only at hW);have q0:=hW.1;have q1:=hW.2.1;have q2:=hW.2.2;first|(go_simp;first|done|with_reducible rfl)));(try simp only[Act.put,ai,au,aj]))
 refine bO ?_
 go_wp2_with fail
 go_loopw [5,6] (fun i s wr=>∃(k:Nat) (z:Nat),1<=k/\k<nd.pairs.length/\i= .int .i64 k/\s= .int .i64 z/\z=dO (nd.pairs.take k)/\Below w.heap.size w wr/\Hid (1<k->2*dO (nd.pairs.take (k - 1))<nd.size)) (fun i _ _=>nd.pairs.length - (intOf i).toNat)
 case atStart=>exact⟨1,2+nd.pairs[0].1.size+nd.pairs[0].2.size,ax _,by omega,rfl,by go_num,by rw[Z0.out],(aO _ _).drew,af (fun h=>absurd h (by omega))⟩
 case round=>
  obtain⟨k,z,hk1,hk2,rfl,rfl,hzz,hbel,HLO⟩:=hrel
  have c0':=(hbel.cell (p:=⟨b,0,none⟩) hlt).trans c0
  have hzl:=jD nd.pairs k
  have hlr:=hbel.size
  obtain⟨_,_,e,d3,d4⟩:=h0.at rfl k hk2
  cases e
  have d3':=(hbel.cell (p:=⟨b0,o0+k*2,none⟩) (aH w _ d3)).trans d3
  have d4':=(hbel.cell (p:=⟨b0,o0+k*2+1,none⟩) (aH w _ d4)).trans d4
  have y0:=ol nd.pairs k hk2
  have y1:=jD nd.pairs (k+1)
  have hz2:nd.pairs[k].1.size+nd.pairs[k].2.size+z<=1000000:=by omega
  have hk3:(k:Int)<nd.pairs.length:=by omega
  have Y0:=af y0;clear y0 y1
  have ZZ:=af hzz;clear hzz
  have k1:(0:Int)<=(k:Int):=by omega
  have k2:(k:Int)<=cp0:=by omega
  have f0:∀W,Below w.heap.size w W->W.cell? ⟨b,0,none⟩=some (.slice (some ⟨b0,o0,none⟩) nd.pairs.length cp0):=fun W hW=>(hW.cell (p:=⟨b,0,none⟩) hlt).trans c0
  have f1:∀W,Below w.heap.size w W->W.cell? ⟨b0,o0+k*2,none⟩=some (.string nd.pairs[k].1):=fun W hW=>(hW.cell (p:=⟨b0,o0+k*2,none⟩) (aH w _ d3)).trans d3
  have f2:∀W,Below w.heap.size w W->W.cell? ⟨b0,o0+k*2+1,none⟩=some (.string nd.pairs[k].2):=fun W hW=>(hW.cell (p:=⟨b0,o0+k*2+1,none⟩) (aH w _ d4)).trans d4
  have k3:(k:Int)<=nd.pairs.length:=by omega
  have x3:IntKind.i64.wrap ((2:Int)+(nd.pairs[k].1.size:Int))=(2:Int)+(nd.pairs[k].1.size:Int):=aM _ (by omega)
  have x4:IntKind.i64.wrap ((2:Int)+(nd.pairs[k].1.size:Int)+(nd.pairs[k].2.size:Int))=(2:Int)+(nd.pairs[k].1.size:Int)+(nd.pairs[k].2.size:Int):=aM _ (by omega)
  have x5:IntKind.i64.wrap ((z:Int)+((2:Int)+(nd.pairs[k].1.size:Int)+(nd.pairs[k].2.size:Int)))=(z:Int)+((2:Int)+(nd.pairs[k].1.size:Int)+(nd.pairs[k].2.size:Int)):=aM _ (by omega)
  have k4:¬cp0=k:=by omega
  have HB:=hbel
  have hL1:nN w S (.slice (some ⟨b0,o0,none⟩) k cp0) (nd.pairs.take k):=by
   have:=bn.upto h0 k (ig hk2)
   unfold nN;rw[aC,bq (ig hk2),wR];exact this
  have hL2:nN w S (.slice (some ⟨b0,o0+k*2,none⟩) (nd.pairs.length - k) (cp0 - k)) (nd.pairs.drop k):=by
   have:=bn.after h0 k (ig hk2)
   rw[if_neg k4,fC,fZ] at this
   unfold nN;rw[aJ,qZ];exact this
  have hno:∀g,w.heap.size<=g->¬S g:=fun g hg x=>absurd (hS _ x) (bE.2 hg)
  go_wp2_with (first|(go_at_call 252;go_must (refine(mY b nd _ S (hN.below hbel) hs).mono ?_;rintro e w1 ⟨rfl,hb1⟩;refine Stop.of ?_)))
  ·have HB:=hbel.trans (hb1.mono hlr)
   refine Stop.on ?_
   go_wp2_with fail
   ·refine aN (fun W=>Below w.heap.size w W) (fun _=>true) [0,1,2,3,4,5,6,7,8,9,10,11,12,13,14,15,16,17,18,19,20,21,22] rfl (by kernel_rfl) HB.drew ?_
    repeat ((refine bL (v:= ?_) rfl rfl (fun _ _ _ h=>h) rfl (fun W hW=> ?_) ?_);rotate_left;(focus ((try dsimp only at hW);have q0:=f0 W hW;have q1:=f1 W hW;have q2:=f2 W hW;first|(go_simp;first|done|with_reducible rfl)));(try simp only[Act.put,ai,au,aj]))
    refine bO ?_
    go_wp2
    go_roundw
    case rel=>exact⟨k+1,z+(2+nd.pairs[k].1.size+nd.pairs[k].2.size),by omega,by omega,by go_num,by go_num,by rw[Y0.out,ZZ.out],HB.drew,af (fun _=>by have:=ZZ.out;rw[show k+1 - 1=k from rfl];omega)⟩
    case measure=>simp[intOf];omega
   ·refine mV (fun W=>Below w.heap.size w W) (fun i=> !([7,15].contains i)) [0,1,2,3,4,5,6,8,9,10,11,12,13,14,16,17,18,19,20,21,22,23] 7 15 [24,15,25,26] [7,24,25,26] rfl (by kernel_rfl) HB.drew ?_
    repeat ((refine DY (v:= ?_) rfl rfl (fun _ _ _ h=>h) rfl (fun W hW=> ?_) ?_);rotate_left;(focus ((try dsimp only at hW);have q0:=f0 W hW;have q1:=f1 W hW;have q2:=f2 W hW;first|(go_simp;first|done|with_reducible rfl)));(try simp only[Act.put,ai,au,aj]))
    refine wV (xD rfl rfl rfl rfl ?_ ?_)
    ·intro K hK
     go_simp
     refine hK.out _ _ (HB.drew.alloc HB.size _) ?_
     (try simp only[Act.put,ai,au,aj])
     repeat ((refine bL (v:= ?_) rfl rfl (fun _ _ _ h=>h) rfl (fun W hW=> ?_) ?_);rotate_left;(focus ((try dsimp only at hW);have q0:=f0 W hW;have q1:=f1 W hW;have q2:=f2 W hW;first|(go_simp;first|done|with_reducible rfl)));(try simp only[Act.put,ai,au,aj]))
     refine dA rfl rfl rfl ?_
     intro K hK
     go_simp
     have HB2:=fun o1 o2=>(HB.drew.alloc HB.size o1).alloc (aI HB.size (by simp)) o2
     refine hK.out _ _ (HB2 _ _) ?_
     (try simp only[Act.put,ai,au,aj])
     repeat ((refine bL (v:= ?_) rfl rfl (fun _ _ _ h=>h) rfl (fun W hW=> ?_) ?_);rotate_left;(focus ((try dsimp only at hW);have q0:=f0 W hW;have q1:=f1 W hW;have q2:=f2 W hW;first|(go_simp;first|done|with_reducible rfl)));(try simp only[Act.put,ai,au,aj]))
     refine bO ?_
     go_wp2
     go_ret3
     exact⟨k,hk2,_,_,hk1,rfl,qx (HB2 _ _) hL1 (uy _ _ _) (hno _ HB.size),qx (HB2 _ _) hL2 (uz _ _ _) (hno _ (lW HB.size)),HB2 _ _,HLO.out,by have:=ZZ.out;omega⟩
    ·intro K hK
     go_simp
     refine hK.out _ _ (HB.drew.alloc HB.size _) ?_
     (try simp only[Act.put,ai,au,aj])
     repeat ((refine bL (v:= ?_) rfl rfl (fun _ _ _ h=>h) rfl (fun W hW=> ?_) ?_);rotate_left;(focus ((try dsimp only at hW);have q0:=f0 W hW;have q1:=f1 W hW;have q2:=f2 W hW;first|(go_simp;first|done|with_reducible rfl)));(try simp only[Act.put,ai,au,aj]))
     refine dA rfl rfl rfl ?_
     intro K hK
     go_simp
     have HB2:=fun o1 o2=>(HB.drew.alloc HB.size o1).alloc (aI HB.size (by simp)) o2
     refine hK.out _ _ (HB2 _ _) ?_
     (try simp only[Act.put,ai,au,aj])
     repeat ((refine bL (v:= ?_) rfl rfl (fun _ _ _ h=>h) rfl (fun W hW=> ?_) ?_);rotate_left;(focus ((try dsimp only at hW);have q0:=f0 W hW;have q1:=f1 W hW;have q2:=f2 W hW;first|(go_simp;first|done|with_reducible rfl)));(try simp only[Act.put,ai,au,aj]))
     refine bO ?_
     go_wp2
     go_ret3
     exact⟨k,hk2,_,_,hk1,rfl,qx (HB2 _ _) hL1 (uz _ _ _) (hno _ (lW HB.size)),qx (HB2 _ _) hL2 (uy _ _ _) (hno _ HB.size),HB2 _ _,HLO.out,by have:=ZZ.out;omega⟩
  ·refine mV (fun W=>Below w.heap.size w W) (fun i=> !([7,15].contains i)) [0,1,2,3,4,5,6,8,9,10,11,12,13,14,16,17,18,19,20,21,22,23] 7 15 [24,15,25,26] [7,24,25,26] rfl (by kernel_rfl) HB.drew ?_
   repeat ((refine DY (v:= ?_) rfl rfl (fun _ _ _ h=>h) rfl (fun W hW=> ?_) ?_);rotate_left;(focus ((try dsimp only at hW);have q0:=f0 W hW;have q1:=f1 W hW;have q2:=f2 W hW;first|(go_simp;first|done|with_reducible rfl)));(try simp only[Act.put,ai,au,aj]))
   refine wV (xD rfl rfl rfl rfl ?_ ?_)
   ·intro K hK
    go_simp
    refine hK.out _ _ (HB.drew.alloc HB.size _) ?_
    (try simp only[Act.put,ai,au,aj])
    repeat ((refine bL (v:= ?_) rfl rfl (fun _ _ _ h=>h) rfl (fun W hW=> ?_) ?_);rotate_left;(focus ((try dsimp only at hW);have q0:=f0 W hW;have q1:=f1 W hW;have q2:=f2 W hW;first|(go_simp;first|done|with_reducible rfl)));(try simp only[Act.put,ai,au,aj]))
    refine dA rfl rfl rfl ?_
    intro K hK
    go_simp
    have HB2:=fun o1 o2=>(HB.drew.alloc HB.size o1).alloc (aI HB.size (by simp)) o2
    refine hK.out _ _ (HB2 _ _) ?_
    (try simp only[Act.put,ai,au,aj])
    repeat ((refine bL (v:= ?_) rfl rfl (fun _ _ _ h=>h) rfl (fun W hW=> ?_) ?_);rotate_left;(focus ((try dsimp only at hW);have q0:=f0 W hW;have q1:=f1 W hW;have q2:=f2 W hW;first|(go_simp;first|done|with_reducible rfl)));(try simp only[Act.put,ai,au,aj]))
    refine bO ?_
    go_wp2
    go_ret3
    exact⟨k,hk2,_,_,hk1,rfl,qx (HB2 _ _) hL1 (uy _ _ _) (hno _ HB.size),qx (HB2 _ _) hL2 (uz _ _ _) (hno _ (lW HB.size)),HB2 _ _,HLO.out,by have:=ZZ.out;omega⟩
   ·intro K hK
    go_simp
    refine hK.out _ _ (HB.drew.alloc HB.size _) ?_
    (try simp only[Act.put,ai,au,aj])
    repeat ((refine bL (v:= ?_) rfl rfl (fun _ _ _ h=>h) rfl (fun W hW=> ?_) ?_);rotate_left;(focus ((try dsimp only at hW);have q0:=f0 W hW;have q1:=f1 W hW;have q2:=f2 W hW;first|(go_simp;first|done|with_reducible rfl)));(try simp only[Act.put,ai,au,aj]))
    refine dA rfl rfl rfl ?_
    intro K hK
    go_simp
    have HB2:=fun o1 o2=>(HB.drew.alloc HB.size o1).alloc (aI HB.size (by simp)) o2
    refine hK.out _ _ (HB2 _ _) ?_
    (try simp only[Act.put,ai,au,aj])
    repeat ((refine bL (v:= ?_) rfl rfl (fun _ _ _ h=>h) rfl (fun W hW=> ?_) ?_);rotate_left;(focus ((try dsimp only at hW);have q0:=f0 W hW;have q1:=f1 W hW;have q2:=f2 W hW;first|(go_simp;first|done|with_reducible rfl)));(try simp only[Act.put,ai,au,aj]))
    refine bO ?_
    go_wp2
    go_ret3
    exact⟨k,hk2,_,_,hk1,rfl,qx (HB2 _ _) hL1 (uz _ _ _) (hno _ (lW HB.size)),qx (HB2 _ _) hL2 (uy _ _ _) (hno _ HB.size),HB2 _ _,HLO.out,by have:=ZZ.out;omega⟩
theorem xu {w W:World}{S:Nat->Prop}{g:Nat}{v1 v2:Value}{ks:List ByteArray}{ns:List Int}(hW:Below w.heap.size w W)(h1:iL w S v1 ks)(h2:jq w S v2 ns)(hb:W.heap[g]? =some (.cells #[.slice none 0 0,v1,v2] 260 (0,0)))(hg:¬S g):fD W S g ⟨[],ks,ns⟩:=
 ⟨hg,_,_,_,hb,bn.nil _ _ _,bn.below h1 hW,bn.below h2 hW⟩
theorem zA (b:Nat)(nd:Nd)(w:World)(S:Nat->Prop)(hS:∀g,S g->g<w.heap.size)(h:fD w S b nd)(h2:3<=nd.kids.length)(hkk:nd.keys.length=nd.kids.length - 1)(hs:nd.size<=1000000):
  Calls Tryz.prog 255 #[.pointer (some ⟨b,0,none⟩)] w fun e w'=>∃(i:Nat) (hi:i - 1<nd.keys.length) (b1 b2:Nat),i=nd.kids.length/2/\e= .returned (.tuple #[.pointer (some ⟨b1,0,none⟩),.pointer (some ⟨b2,0,none⟩),.string nd.keys[i - 1]])/\
   fD w' S b1 ⟨[],nd.keys.take (i - 1),nd.kids.take i⟩/\fD w' S b2 ⟨[],nd.keys.drop i,nd.kids.drop i⟩/\Below w.heap.size w w':=by
 have hN:=h
 obtain⟨_,v0,v1,v2,hb,h0,h1,h22⟩:=h
 obtain⟨c0,c1,c2,_,_,_,hlt⟩:=cells3 hb
 have hke:nd.kids.isEmpty=false:=by cases hq:nd.kids with|nil=>rw[hq] at h2;simp at h2|cons=>rfl
 have hsz:2*nd.kids.length<=1000000:=by unfold Nd.size at hs;omega
 obtain⟨i,hi⟩:∃i,i=nd.kids.length/2:=⟨_,rfl⟩
 obtain⟨j,rfl⟩:∃j,i=j+1:=⟨i - 1,by omega⟩
 have hi2:j+2<nd.kids.length:=by omega
 have hjk:j+1<nd.keys.length:=by omega
 have hj:j<nd.keys.length:=by omega
 obtain⟨ao1,cp1,rfl,n1,m1,q1,_⟩:=bn.form h1
 obtain⟨ao2,cp2,rfl,n2,m2,q2,_⟩:=bn.form h22
 obtain⟨b1,o1,rfl,d1⟩:=h1.at rfl j hj
 obtain⟨b2,o2,rfl,_⟩:=h22.at rfl 0 (by omega)
 have k1:¬cp1=j+1:=by omega
 have k2:¬cp2=j+1:=by omega
 have k3:(nd.kids.length:Int).tdiv 2=((j:Int)+1):=by rw[Int.tdiv_eq_ediv_of_nonneg (by omega)];omega
 have k4:(nd.kids.length:Int)/2=((j:Int)+1):=by omega
 have k5:(0:Int)<=(j:Int)+1:=by omega
 have k6:(j:Int)+1<=(cp2:Int):=by omega
 have k7:((j:Int)+1).toNat=j+1:=by omega
 have k8:(j:Int)<=(cp1:Int):=by omega
 have k9:(0:Int)<=(j:Int):=by omega
 have k10:(j:Int)+1<=(nd.kids.length:Int):=by omega
 have k11:(j:Int)+1<=(nd.keys.length:Int):=by omega
 have k12:(j:Int)<(nd.keys.length:Int):=by omega
 have k13:(j:Int)+1 - 1=(j:Int):=by omega
 have k14:IntKind.i64.wrap (j:Int)=(j:Int):=aM _ (by omega)
 have HI:=af hi;clear hi
 have HKK:=af hkk;clear hkk
 have f0:∀W,Below w.heap.size w W->W.cell? ⟨b,1,none⟩=some (.slice (some ⟨b1,o1,none⟩) nd.keys.length cp1):=fun W hW=>(hW.cell (p:=⟨b,1,none⟩) hlt).trans c1
 have f1:∀W,Below w.heap.size w W->W.cell? ⟨b,2,none⟩=some (.slice (some ⟨b2,o2,none⟩) nd.kids.length cp2):=fun W hW=>(hW.cell (p:=⟨b,2,none⟩) hlt).trans c2
 have f2:∀W,Below w.heap.size w W->W.cell? ⟨b1,o1+j,none⟩=some (.string (nd.keys[j]'hj)):=fun W hW=>(hW.cell (p:=⟨b1,o1+j,none⟩) (aH w _ d1)).trans d1
 have hno:∀g,w.heap.size<=g->¬S g:=fun g hg x=>absurd (hS _ x) (bE.2 hg)
 have hA1:iL w S (.slice (some ⟨b1,o1,none⟩) j cp1) (nd.keys.take j):=by
  have:=bn.upto h1 j (by omega)
  unfold iL;rw[aC,bq (by omega),gG];rw[aT] at this;exact this
 have hA2:jq w S (.slice (some ⟨b2,o2,none⟩) (j+1) cp2) (nd.kids.take (j+1)):=by
  have:=bn.upto h22 (j+1) (by omega)
  unfold jq;rw[aC,bq (by omega),gG];rw[aT] at this;exact this
 have hB1:iL w S (.slice (some ⟨b1,o1+(j+1),none⟩) (nd.keys.length - (j+1)) (cp1 - (j+1))) (nd.keys.drop (j+1)):=by
  have:=bn.after h1 (j+1) (by omega)
  rw[if_neg k1,fC,fZ,aT] at this
  unfold iL;rw[aJ,gH];exact this
 have hB2:jq w S (.slice (some ⟨b2,o2+(j+1),none⟩) (nd.kids.length - (j+1)) (cp2 - (j+1))) (nd.kids.drop (j+1)):=by
  have:=bn.after h22 (j+1) (by omega)
  rw[if_neg k2,fC,fZ,aT] at this
  unfold jq;rw[aJ,gH];exact this
 clear h0 q1 q2
 go_enter Tryz.func255,Tryz.ntmps255
 go_wp2_with (first|(go_at_call 150;go_must (refine(iZ b nd w S hN).mono ?_;rintro e w1 ⟨rfl,rfl⟩;rw[hke];refine Stop.of ?_)))
 refine Stop.on ?_
 have HB:=aO w.heap.size w
 go_wp2_with fail
 refine mV (fun W=>Below w.heap.size w W) (fun i=> !([14,28].contains i)) [0,1,2,3,4,5,6,7,8,9,10,11,12,13,15,16,17,18,19,20,21,22,23,24,25,26,27,29,30,31,32,33,34,35,36] 14 28 [37,28,38,39] [14,37,38,39] rfl (by kernel_rfl) HB.drew ?_
 repeat ((refine DY (v:= ?_) rfl rfl (fun _ _ _ h=>h) rfl (fun W hW=> ?_) ?_);rotate_left;(focus ((try dsimp only at hW);have q0:=f0 W hW;have q1:=f1 W hW;have q2:=f2 W hW;first|(go_simp;first|done|with_reducible rfl)));(try simp only[Act.put,ai,au,aj]))
 refine wV (xD rfl rfl rfl rfl ?_ ?_)
 ·intro K hK
  go_simp
  refine hK.out _ _ (HB.drew.alloc HB.size _) ?_
  (try simp only[Act.put,ai,au,aj])
  repeat ((refine bL (v:= ?_) rfl rfl (fun _ _ _ h=>h) rfl (fun W hW=> ?_) ?_);rotate_left;(focus ((try dsimp only at hW);have q0:=f0 W hW;have q1:=f1 W hW;have q2:=f2 W hW;first|(go_simp;first|done|with_reducible rfl)));(try simp only[Act.put,ai,au,aj]))
  refine dA rfl rfl rfl ?_
  intro K hK
  go_simp
  have HB2:=fun o1 o2=>(HB.drew.alloc HB.size o1).alloc (aI HB.size (by simp)) o2
  refine hK.out _ _ (HB2 _ _) ?_
  (try simp only[Act.put,ai,au,aj])
  repeat ((refine bL (v:= ?_) rfl rfl (fun _ _ _ h=>h) rfl (fun W hW=> ?_) ?_);rotate_left;(focus ((try dsimp only at hW);have q0:=f0 W hW;have q1:=f1 W hW;have q2:=f2 W hW;first|(go_simp;first|done|with_reducible rfl)));(try simp only[Act.put,ai,au,aj]))
  refine bO ?_
  go_wp2
  go_ret3
  exact⟨j+1,by omega,_,_,HI.out,rfl,xu (HB2 _ _) hA1 hA2 (uy _ _ _) (hno _ (ax _)),xu (HB2 _ _) hB1 hB2 (uz _ _ _) (hno _ (nL _)),HB2 _ _⟩
 ·intro K hK
  go_simp
  refine hK.out _ _ (HB.drew.alloc HB.size _) ?_
  (try simp only[Act.put,ai,au,aj])
  repeat ((refine bL (v:= ?_) rfl rfl (fun _ _ _ h=>h) rfl (fun W hW=> ?_) ?_);rotate_left;(focus ((try dsimp only at hW);have q0:=f0 W hW;have q1:=f1 W hW;have q2:=f2 W hW;first|(go_simp;first|done|with_reducible rfl)));(try simp only[Act.put,ai,au,aj]))
  refine dA rfl rfl rfl ?_
  intro K hK
  go_simp
  have HB2:=fun o1 o2=>(HB.drew.alloc HB.size o1).alloc (aI HB.size (by simp)) o2
  refine hK.out _ _ (HB2 _ _) ?_
  (try simp only[Act.put,ai,au,aj])
  repeat ((refine bL (v:= ?_) rfl rfl (fun _ _ _ h=>h) rfl (fun W hW=> ?_) ?_);rotate_left;(focus ((try dsimp only at hW);have q0:=f0 W hW;have q1:=f1 W hW;have q2:=f2 W hW;first|(go_simp;first|done|with_reducible rfl)));(try simp only[Act.put,ai,au,aj]))
  refine bO ?_
  go_wp2
  go_ret3
  exact⟨j+1,by omega,_,_,HI.out,rfl,xu (HB2 _ _) hA1 hA2 (uz _ _ _) (hno _ (nL _)),xu (HB2 _ _) hB1 hB2 (uy _ _ _) (hno _ (ax _)),HB2 _ _⟩
end Go.Proofs.YtbfjgkafmlbpcaaGreatDoor
