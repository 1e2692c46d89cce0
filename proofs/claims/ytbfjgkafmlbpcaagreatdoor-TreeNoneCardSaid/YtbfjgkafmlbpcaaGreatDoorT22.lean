/- parts -/
import Derived.Test.YtbfjgkafmlbpcaaGreatDoorT11
import Derived.Test.YtbfjgkafmlbpcaaGreatDoorT21
import Derived.Sort.OwnSortedInts
set_option maxRecDepth 100000
set_option maxHeartbeats 8000000
set_option linter.all false
namespace Go.Proofs.YtbfjgkafmlbpcaaGreatDoor
open Go.RowKit
theorem Fg {h k:Nat}(hk:1<=k)(hc:k*2^h<=299):h<9:=by
 apply p8
 intro hn
 have h1:2^9<=2^h:=JQ (by omega) (by omega)
 have h2:1*2^h<=k*2^h:=bQ _ hk
 omega
theorem NM {h x k:Nat}(hx:x<=cX h)(hk:2<=k)(hc:(k - 1)*2^h<=299):
  24*(2+TT x (k+x))+cA (h+2)+cB (h+2)*TT x (k+x)<=cA (h+1)+cB (h+1)*x+3*((k - 1)*2^h)/\TT x (k+x)<=cX (h+1):=by
 have hh:=Fg (show 1<=k - 1 by omega) hc
 have hd:k - 1<299/2^h+1:=Nat.lt_succ_of_le ((Nat.le_div_iff_mul_le (Nat.two_pow_pos h)).2 hc)
 have cert:=NK
 unfold Qc at cert
 have c1:=mU.1 cert h (oM.2 hh)
 have c2:=mU.1 c1 x (oM.2 (by omega))
 have c3:=mU.1 c2 (k - 1) (oM.2 hd)
 rw[dU,eD,eD,show k - 1+1=k by omega] at c3
 exact⟨c3.1.resolve_right (by omega),c3.2.resolve_right (by omega)⟩
theorem Q9 {kb:Nat}(h2:2<=kb)(h9:kb<=299):TT 1 (kb+1)<8/\Tf (TT 1 (kb+1))<=kb:=by
 have h:=uh (kb+1)
 have ht:TT 1 (kb+1)<=Lh (kb+1):=by unfold TT;omega
 have h8:TT 1 (kb+1)<8:=by omega
 refine⟨h8,?_⟩
 generalize TT 1 (kb+1)=j at ht h8 ⊢
 generalize Lh (kb+1)=l at h ht
 have hj:j=0\/j=1\/j=2\/j=3\/j=4\/j=5\/j=6\/j=7:=by omega
 rcases hj with rfl|rfl|rfl|rfl|rfl|rfl|rfl|rfl
 ·show 2<=kb;omega
 ·show 4<=kb;omega
 ·show 8<=kb;omega
 ·show 16<=kb;omega
 ·show 32<=kb;omega
 ·show 64<=kb;omega
 ·show 128<=kb;omega
 ·show 256<=kb;omega
theorem NJ {h k kb:Nat}(h2:2<=kb)(hk:2<=k)(hc:(k - 2)*2^(h+1)+kb*2^h<=299):
  24*(2+TT 1 (kb+1)+TT (TT 1 (kb+1)) (k+TT 1 (kb+1)))+cA (h+3)+cB (h+3)*TT (TT 1 (kb+1)) (k+TT 1 (kb+1))<=cA (h+2)+3*((k - 2)*2^(h+1)+kb*2^h)/\TT (TT 1 (kb+1)) (k+TT 1 (kb+1))<=cX (h+2):=by
 have hp:=Nat.two_pow_pos h
 have hkb:kb<=299:=by
  have:kb*1<=kb*2^h:=mI _ hp
  omega
 have hh:h<8:=by
  apply p8
  intro hn
  have h1:2^8<=2^h:=JQ (by omega) (by omega)
  have h3:2*2^h<=kb*2^h:=bQ _ h2
  omega
 obtain⟨j8,jb⟩:=Q9 h2 hkb
 generalize TT 1 (kb+1)=j at j8 jb ⊢
 have hm:Tf j*2^h<=kb*2^h:=bQ _ jb
 have hd:k - 2<299/2^(h+1)+1:=Nat.lt_succ_of_le ((Nat.le_div_iff_mul_le (Nat.two_pow_pos (h+1))).2 (by omega))
 have cert:=NI
 unfold Qb at cert
 have c1:=mU.1 cert h (oM.2 hh)
 have c2:=mU.1 c1 (k - 2) (oM.2 hd)
 have c3:=mU.1 c2 j (oM.2 j8)
 rw[qH,dU,eD,eD,eD,show k - 2+2=k by omega] at c3
 obtain⟨a,b⟩:=c3.resolve_left (by omega)
 exact⟨by omega,b⟩
theorem LQ {h W q c C k q' J:Nat}(hw:Wb h W q c)(hk:2<=k)(hC:c+(k - 1)*2^h<=C)(hq:q'<=1+TT (q - 1) (k+(q - 1)))(hJ:J<=1):Wb (h+1) (W+J+q') q' C:=by
 intro hC9
 obtain⟨e1,e2⟩:=hw (by omega)
 obtain⟨f1,f2⟩:=NM e2 hk (by omega)
 have g1:q' - 1<=TT (q - 1) (k+(q - 1)):=by omega
 have g2:=mI (cB (h+2)) g1
 refine⟨?_,by omega⟩
 show 24*(W+J+q')+cA (h+2)+cB (h+2)*(q' - 1)<=_
 generalize cB (h+1)*(q - 1)=z1 at e1 f1
 generalize cB (h+2)*(q' - 1)=z2 at g2 ⊢
 generalize cB (h+2)*TT (q - 1) (k+(q - 1))=z3 at f1 g2
 generalize (k - 1)*2^h=z4 at hC f1
 omega
theorem OA {h W c C k kb q' jj:Nat}(hw:Wb (h+1) W 1 c)(hk:2<=k)(hkb:2<=kb)(hC:c+((k - 2)*2^(h+1)+kb*2^h)<=C)(hj:jj<=1+TT 1 (kb+1))(hq:q'<=1+TT (jj - 1) (k+(jj - 1))):Wb (h+2) (W+jj+q') q' C:=by
 intro hC9
 obtain⟨e1,e2⟩:=hw (aI (aI (Nat.le_add_right _ _) hC) hC9)
 obtain⟨f1,f2⟩:=NJ hkb hk (aI (aI (Nat.le_add_left _ c) hC) hC9)
 have g1:q' - 1<=TT (TT 1 (kb+1)) (k+TT 1 (kb+1)):=by
  have:=JI (x:=jj - 1) (x':=TT 1 (kb+1)) (K:=k+(jj - 1)) (K':=k+TT 1 (kb+1)) (by omega) (by omega)
  omega
 have g2:=mI (cB (h+3)) g1
 refine⟨?_,by omega⟩
 show 24*(W+jj+q')+cA (h+3)+cB (h+3)*(q' - 1)<=_
 have e1':24*W+cA (h+2)<=672+3*c:=by
  have:cB (h+2)*(1 - 1)=0:=Nat.mul_zero _
  have e1:24*W+cA (h+2)+cB (h+2)*(1 - 1)<=672+3*c:=e1
  omega
 generalize cB (h+3)*(q' - 1)=z2 at g2 ⊢
 generalize cB (h+3)*TT (TT 1 (kb+1)) (k+TT 1 (kb+1))=z3 at f1 g2
 generalize (k - 2)*2^(h+1)+kb*2^h=z4 at hC f1
 omega
theorem Qw {h W q c:Nat}(hw:Wb h W q c)(hc:c<=299):W+(q - 1)<=65:=by
 obtain⟨e1,e2⟩:=hw hc
 have hz:24*(q - 1)<=cA (h+1)+cB (h+1)*(q - 1):=by
  match h with
  |0=>have:q - 1<=2:=e2;show 24*(q - 1)<=594+3*(q - 1);omega
  |1=>have:q - 1<=7:=e2;show 24*(q - 1)<=519+1*(q - 1);omega
  |2=>have:q - 1<=12:=e2;show 24*(q - 1)<=132+38*(q - 1);omega
  |h+3=>
   have:cB (h+3+1)=24:=by
    unfold cB
    rw[fF,nY (by simp)];rfl
   rw[this];omega
 omega
theorem FJ (ks:List ByteArray):dI (ks.drop 1)<=dI ks - 1:=by
 cases ks with
 |nil=>exact bf _
 |cons k ks=>rw[jS,eZ,eP];omega
theorem D8 (x:ByteArray)(ps:List Pc)(hp:∀p∈ps,p.2.size<=128):dI (kS x ps)<=1+x.size+129*(ps.length - 1):=by
 cases ps with
 |nil=>exact bf _
 |cons p r=>
  show dI (x::r.map (·.2))<=_
  rw[jS]
  have:=rC (r.map (·.2)) (fun k hk=>by
   obtain⟨q,hq,rfl⟩:=d9.1 hk
   exact hp q (aU _ hq))
  rw[kJ] at this
  simp only[aY,zo]
  omega
theorem Nd.Cx {nd:Nd}{i:Nat}{ps:List Pc}(hi:i<nd.kids.length)(hkk:nd.keys.length=nd.kids.length - 1)(hp:∀p∈ps,p.2.size<=128):(nd.pG i ps).size<=nd.size+131*(ps.length - 1)/\(nd.pG i ps).kids.length+1=nd.kids.length+ps.length:=by
 have hE:(fV nd).length=nd.kids.length:=by unfold fV;rw[aY];omega
 have hiE:i<(fV nd).length:=by omega
 have e1:=rD (fV nd) i
 have e2:dI ((fV nd).drop i)=1+((fV nd)[i]).size+dI ((fV nd).drop (i+1)):=by rw[cO hiE,jS]
 have e3:(fV nd).getD i ⟨#[]⟩=(fV nd)[i]:=by rw[fF,bF hiE];rfl
 have e4:dI (fV nd)=1+dI nd.keys:=by
  unfold fV
  rw[jS];rfl
 have e5:=D8 ((fV nd).getD i ⟨#[]⟩) ps hp
 rw[e3] at e5
 have e6:=FJ ((fV nd).take i++kS ((fV nd).getD i ⟨#[]⟩) ps++(fV nd).drop (i+1))
 rw[ja,ja,e3] at e6
 have hk:(nd.pG i ps).kids.length+1=nd.kids.length+ps.length:=by
  unfold Nd.pG
  simp only[av,aC,aJ,kJ]
  omega
 refine⟨?_,hk⟩
 have hs:(nd.pG i ps).size=2+dO nd.pairs+dI (((fV nd).take i++kS ((fV nd)[i]) ps++(fV nd).drop (i+1)).drop 1)+2*(nd.pG i ps).kids.length:=by
  rw[<-e3];rfl
 rw[hs]
 unfold Nd.size
 rw[e3] at*
 omega
theorem Nd.NA {nd:Nd}{j:Nat}(hj:j+1<nd.kids.length)(hkk:nd.keys.length=nd.kids.length - 1):(nd.jU j).size<=nd.size/\(nd.jU j).kids.length+1=nd.kids.length/\(nd.jU j).keys.length=(nd.jU j).kids.length - 1:=by
 have e1:=rD nd.keys j
 have e2:dI (nd.keys.drop j)=1+(nd.keys[j]'(by omega)).size+dI (nd.keys.drop (j+1)):=by rw[cO (by omega),jS]
 have hk:(nd.jU j).kids.length+1=nd.kids.length:=by
  unfold Nd.jU
  simp only[av,aC,aJ]
  omega
 have hy:(nd.jU j).keys.length=(nd.jU j).kids.length - 1:=by
  unfold Nd.jU
  simp only[av,aC,aJ]
  omega
 refine⟨?_,hk,hy⟩
 have hs:(nd.jU j).size=2+dO nd.pairs+dI (nd.keys.take j++nd.keys.drop (j+1))+2*(nd.jU j).kids.length:=rfl
 rw[hs,ja]
 unfold Nd.size
 omega
theorem dm.low {T:ByteArray->Option ByteArray->Int->List Pr->List Int->Prop}{m:Nat}(hT:∀k z b c x,T k z b c x->m<=c.length){hi:Option ByteArray}:∀{l:List (ByteArray×Int)} {cs:List Pr} {bs:List Int},dm T hi l cs bs->l.length*m<=cs.length
 |[],_,_,⟨e,e2⟩=>by subst e e2;simp
 |(k,b)::l,_,_,h=>by
  obtain⟨c,cs',x,bs',h1,h2,rfl,rfl⟩:=h
  have a:=hT _ _ _ _ _ h1
  have b:=dm.low hT h2
  rw[aY,dX,jZ,av]
  omega
theorem iw.pw {σ:bY}:∀{h:Nat} {lo:ByteArray} {hi:Option ByteArray} {b:Int} {cs:List Pr} {bs:List Int},iw σ h 2 lo hi b cs bs->2^h<=cs.length
 |0,_,_,_,_,_,⟨_,_,_,_,_,h5,_,_,_⟩=>bS.2 h5
 |h+1,lo,_,_,_,_,⟨nd,bs',_,ok,hk,hm,_,hr⟩=>by
  have a:=dm.low (m:=2^h) (fun _ _ _ _ _ ht=>iw.pw ht) hr
  rw[nd.lD ok hk] at a
  have b:2*2^h<=nd.kids.length*2^h:=bQ _ hm
  rw[Qp]
  omega
theorem tC (σ:bY)(b:Int):zG σ (σ.gone b) 0:=by
 have hs:(σ.gone b).sz<=σ.sz:=ow _ (fun x _ hx=>by
  have hx:(gm σ.now b.toNat false x||σ.H.old x)=true:=hx
  show (σ.now x||σ.H.old x)=true
  rw[qH] at hx ⊢
  refine hx.imp (fun h=> ?_) id
  unfold gm at h
  split at h
  ·cases h
  ·exact h)
 exact⟨by omega,fun L _ t=>t⟩
theorem BK.size {σ:bY}{S:Nat->Prop}{mp:VS}{w:World}(hI:Inv σ S mp w){b:Int}{nd:Nd}(h:BK σ b nd):nd.size<=512:=by
 obtain⟨n,rfl,hn,_⟩:=bY.l8 h.has
 obtain⟨rest,hm⟩:=h.mem
 have hl:=hI.ok.len n hn
 have hm:σ.H.pg.look σ.im σ.H.dk n=nd.enc++rest:=by
  have:σ.mem (n:Int)=σ.H.pg.look σ.im σ.H.dk n:=rfl
  rw[<-this];exact hm
 rw[hm,av,Nd.Bg] at hl
 omega
def JB (nd nd':Nd)(h z c W:Nat):Prop:=
 (W<=1/\nd'.kids.length<=nd.kids.length/\nd'.size<=nd.size)\/
 ∃hh kb,h=hh+1/\2<=kb/\z+((nd.kids.length - 2)*2^h+kb*2^hh)<=c/\2<=nd.kids.length/\W<=1+TT 1 (kb+1)/\nd'.kids.length+2=nd.kids.length+W/\nd'.size<=nd.size+131*(W - 1)
theorem KJ {A B:Nd}{k:ByteArray}(okA:A.Ok)(okB:B.Ok)(hA:A.kids≠[])(hB:B.kids≠[])(hk:k.size<=128)(sA:A.size<=512)(sB:B.size<=512)(h1:A.kids.length=1\/B.kids.length=1):(dP A B k).size<=512+131*1:=by
 have pA:=okA.one hA
 have pB:=okB.one hB
 have hs:(dP A B k).size=2+dO (A.pairs++B.pairs)+dI (A.keys++[k]++B.keys)+2*(A.kids++B.kids).length:=by
  unfold dP;rw[if_neg hA];rfl
 rw[hs,pA,pB,ja,ja,av]
 have e0:dO ([]++[])=0:=rfl
 have e1:dI [k]=1+k.size:=by simp[dI]
 rw[e0,e1]
 unfold Nd.size at sA sB
 have kA:=okA.kk
 have kB:=okB.kk
 rcases h1 with h1|h1
 ·have:A.keys=[]:=aR (by omega)
  rw[this]
  have e2:dI []=0:=rfl
  omega
 ·have:B.keys=[]:=aR (by omega)
  rw[this]
  have e2:dI []=0:=rfl
  omega
theorem Sw {σ:bY}{h z:Nat}{hi:Option ByteArray}{R:List (ByteArray×Int)}{j:Nat}{cs:List Pr}{bs:List Int}{L:List (ByteArray×Int)}{k1:ByteArray}{b1:Int}{k2:ByteArray}{b2:Int}{M:List (ByteArray×Int)}{cl ca cb cm:List Pr}{bl xa xb bm:List Int}{m1 m2:Nat}{A B:Nd}{nd:Nd}{ps:List Pc}{zs:List (ByteArray×Nd)}
  (hP:I9 σ h hi R j cs bs L k1 b1 k2 b2 M cl ca cb cm bl (b1::xa) (b2::xb) bm m1 m2 z) (okA:A.Ok) (okB:B.Ok) (nA:oK σ h k1 (some k2) A ca xa) (nB:oK σ h k2 (iY M hi) B cb xb) (kA:Kids h m1 A) (kB:Kids h m2 B) (hk2:k2.size<=128) (sA:A.size<=512) (sB:B.size<=512) (okJ:(dP A B k2).Ok)
  (hspr:uO (dP A B k2) ⟨#[]⟩ zs) (hl:ps.length=zs.length) (hkey:∀p∈ps,p.2.size<=128) (hno:¬(512<(dP A B k2).size/\A.kids.length≠1/\B.kids.length≠1)) (hR:R.length=nd.kids.length) (hkk:nd.keys.length=nd.kids.length - 1):
  JB nd ((nd.jU j).pG j ps) h z cs.length ps.length:=by
 have hrow:=congrArg List.length hP.row
 simp only[av,aY] at hrow
 have hlen:=hP.len
 obtain⟨d1,d2,d3⟩:=Nd.NA (nd:=nd) (j:=j) (by omega) hkk
 obtain⟨r1,r2⟩:=Nd.Cx (nd:=nd.jU j) (i:=j) (ps:=ps) (by omega) d3 hkey
 rcases iJ 512 (dP A B k2).size with h5|h5
 ·have h1:A.kids.length=1\/B.kids.length=1:=by
   apply p8
   intro hn
   exact hno ⟨h5,fun e=>hn (.inl e),fun e=>hn (.inr e)⟩
  cases h with
  |zero=>
   obtain⟨a1,_⟩:=nA
   obtain⟨b1',_⟩:=nB
   rw[a1,b1'] at h1
   simp at h1
  |succ hh=>
   have hA:=nA.1
   have hB:=nB.1
   have lA:=dm.low (m:=2^hh) (fun _ _ _ _ _ ht=>iw.pw ht) nA.2
   have lB:=dm.low (m:=2^hh) (fun _ _ _ _ _ ht=>iw.pw ht) nB.2
   rw[A.lD okA hA] at lA
   rw[B.lD okB hB] at lB
   have l1:=dm.low (m:=2^(hh+1)) (fun _ _ _ _ _ ht=>iw.pw ht) hP.l
   have l2:=dm.low (m:=2^(hh+1)) (fun _ _ _ _ _ ht=>iw.pw ht) hP.m
   have hLM:nd.kids.length - 2=L.length+M.length:=by omega
   have hcs:=congrArg List.length hP.cs
   simp only[av] at hcs
   have hsz:=KJ okA okB hA hB hk2 sA sB h1
   have hjk:(dP A B k2).kids.length=A.kids.length+B.kids.length:=by unfold dP;rw[av]
   have hjn:(dP A B k2).kids≠[]:=fun e=>by
    have:=bS.2 hA
    rw[e] at hjk;simp at hjk;omega
   have hm:(nd.kids.length - 2)*2^(hh+1)<=cl.length+cm.length:=by rw[hLM,dX];omega
   have hkA:m1<=A.kids.length:=kA.resolve_left (by omega)
   have hkB:m2<=B.kids.length:=kB.resolve_left (by omega)
   rcases hP.m12 with ⟨e1,e2⟩|⟨e1,e2,e3⟩|⟨e1,e2,e3⟩
   ·omega
   ·have ha1:A.kids.length=1:=by omega
    have ht:=hspr.tt okJ hjn hsz (K:=B.kids.length+1) (by omega)
    exact .inr ⟨hh,B.kids.length,rfl,by omega,by revert hm lB;generalize (nd.kids.length - 2)*2^(hh+1)=P;generalize B.kids.length*2^hh=Q;intro hm lB;omega,by omega,by omega,by omega,by omega⟩
   ·have ha1:B.kids.length=1:=by omega
    have ht:=hspr.tt okJ hjn hsz (K:=A.kids.length+1) (by omega)
    exact .inr ⟨hh,A.kids.length,rfl,by omega,by revert hm lA;generalize (nd.kids.length - 2)*2^(hh+1)=P;generalize A.kids.length*2^hh=Q;intro hm lA;omega,by omega,by omega,by omega,by omega⟩
 ·have:=hspr.small h5
  exact .inl ⟨by omega,by omega,by omega⟩
def kL (L:Nat)(σ:bY)(bs:List Int)(n:Nat):Prop:=σ.sz+2*n<=L+nh σ bs
theorem lS.Aj {L:Nat}{σ σ':bY}{us bs:List Int}{n:Nat}(h:lS σ σ' us bs)(r:kL L σ us n):kL L σ' bs n:=by
 have:=h.size
 unfold kL at*
 rw[wY h.H];omega
def Pk (σ σ':bY)(bs:List Int)(n:Nat):Prop:=∀L,kL L σ bs n->σ.tk<=L->σ'.tk<=L
theorem Pk.refl (σ:bY)(bs:List Int)(n:Nat):Pk σ σ bs n:=fun _ _ t=>t
theorem Pk.trans {σ σ1 σ2:bY}{us bs:List Int}{n:Nat}(a:Pk σ σ1 us n)(h:lS σ σ1 us bs)(b:Pk σ1 σ2 bs n):Pk σ σ2 us n:=fun L r t=>b L (h.Aj r) (a L r t)
theorem wQ {nd:Nd}{l:ByteArray}{zs:List (ByteArray×Nd)}(hs:uO nd l zs)(ok:nd.Ok){σ σ':bY}{ps:List Pc}(hp:Puts σ ps zs σ'){L:Nat}(hr:σ.sz+nd.room<=L)(t:σ.tk<=L):σ'.tk<=L:=by
 have e1:=hs.room ok
 obtain⟨_,e2,_,_,e3⟩:=hp.length
 omega
def Oh (mp:VS)(σ:bY)(S:Nat->Prop)(h:Nat)(lo:ByteArray)(hi:Option ByteArray)(cs:List Pr)(bs:List Int)(n:Nat)(w:World)(e:Ending)(w':World):Prop:=
 (∃v ps σ' S' bs' m,e= .returned v/\aP w' S' w.heap.size 324 2 v ps.length (kQ ps)/\SY σ' h m lo hi ps cs bs'/\lS σ σ' bs bs'/\(Pk σ σ' bs n/\∃W,zG σ σ' W/\Wb h W ps.length cs.length)/\Inv σ' S' mp w'/\Step S S' w w')\/(¬Room σ bs n/\BA mp σ S w e w')
def Er (t:Nat)(mp:VS)(root err:Int)(key:ByteArray)(g:Nat)(cb:Array Value)(F:List Pr->List Pr)(vs:List (Nat×ByteArray))(h:Nat):Prop:=
 ∀(σ:bY) (S:Nat->Prop) (b deep:Int) (least lo:ByteArray) (hi:Option ByteArray) (cs:List Pr) (bs:List Int) (w:World),Inv σ S mp w->cK w t mp root err->¬S t->vG w S vs->iw σ h 2 lo hi b cs bs->bs.Nodup->Within lo hi key->deep+h<=40->0<=deep->least.size<=128->
  Calls Tryz.prog 165 #[.pointer (some ⟨t,0,none⟩),.int .i64 b,.int .i64 deep,.string key,.string least,.func (.func g) #[] cb] w (Oh mp σ S h lo hi (F cs) bs (cs.length+1) w)
theorem zN {nd:Nd}{l:ByteArray}{zs:List (ByteArray×Nd)}(hs:uO nd l zs){σ σ':bY}{ps:List Pc}{lo:ByteArray}{hi:Option ByteArray}{h:Nat}{cs:List Pr}{bs:List Int}(ok:nd.Ok)(hr:oK σ h lo hi nd cs bs)(hp:Puts σ ps zs σ')(hc:Oq σ)(hn:bs.Nodup)(hb:∀x∈bs,σ.hasB x=true)(hl:l.size<=128)(hroom:nd.room<=900):
  ∃m bs',SY σ' h m lo hi ps cs bs'/\lS σ σ' bs bs':=by
 have hlen:ps.length<=900:=by
  have e1:=hs.room ok
  have e2:=hp.length.1
  omega
 have hkey:=hp.keys (hs.keys ok hl)
 by_cases h2:h=0\/2<=nd.kids.length
 ·obtain⟨bs',q1,q2⟩:=vM hs (m:=2) ok hr hp hc (ax 2) (by rcases h2 with h2|h2;exact .inl h2;exact .inr h2) hn hb
  exact⟨2,bs',⟨q1,hkey,hlen,by omega,by omega,.inl rfl⟩,q2⟩
 ·obtain⟨h',rfl⟩:∃d,h=d+1:=⟨h - 1,by omega⟩
  have hk:=hr.1
  have hk1:=bS.2 hk
  obtain⟨bs',q1,q2⟩:=vM hs (m:=1) ok hr hp hc (by omega) (.inr (by omega)) hn hb
  refine⟨1,bs',⟨q1,hkey,hlen,by omega,by omega,.inr ?_⟩,q2⟩
  have e2:=hp.length.1
  have hsz:nd.size<=512:=by
   rcases iJ 512 nd.size with h5|h5
   ·have:=(ok.big h5).2 hk;omega
   ·exact h5
  cases hs with
  |none h1 _=>exact absurd h1 hk
  |one _ _=>simpa using e2
  |leaf _ _ _ h2=>omega
  |inner _ _ _ h2=>omega
theorem Pj (t:Nat)(mp:VS)(root err:Int)(key:ByteArray)(g:Nat)(cb:Array Value)(F:List Pr->List Pr)(vs:List (Nat×ByteArray))(hent:∀args w,(callFunc g args).run Tryz.prog w= .ok (.enter g args) w)(hf:Dj g cb F vs)(hF:Ll F key):Er t mp root err key g cb F vs 0:=by
 intro σ S b deep least lo hi cs bs w h ht hst hbx hT hn hw hd hd0 hl
 obtain⟨nd,h1,h2,h3,h4,h5,h6,h7,h8⟩:=hT
 subst h4 h8
 have hlen:=hF.len nd.pairs
 have hnp:=h1.fits.np
 have ok:Nd.Ok ⟨F nd.pairs,[],[]⟩:=⟨fun p hp=>by
  rcases hF.mem _ h6 p hp with h|h
  ·exact h2.pr p h
  ·exact h.2,by simp,by simp,rfl,by simp,by show (F nd.pairs).length<=2000;omega,by simp⟩
 have hc1:=Bn h h1.has
 refine(KR t mp root err b deep σ S key least nd g cb F vs hent hf w h ht hst hbx h1 h3 (by omega) h6 ok).mono ?_
 rintro e w' (⟨v,ps,zs,σ',S',rfl,p2,p3,p4,p5,p6⟩|⟨hno,hg⟩)
 rotate_left
 ·refine .inr ⟨fun hR=> ?_,hg.after (Step.refl S w) rfl rfl⟩
  have hR1:=hc1.room hR
  unfold Room at hR1;simp[nh] at hR1;unfold Nd.room at hno;simp only[iI] at hno;omega
 have hcl:=hc1.KZ h.KZ
 obtain⟨m,bs',q1,q2⟩:=zN p3 (lo:=lo) (hi:=hi) (h:=0) (cs:=F nd.pairs) (bs:=[]) ok ⟨rfl,rfl,hF.rise _ h6,fun p hp=>by
  rcases hF.mem _ h6 p hp with h|h
  ·exact h7 p h
  ·rw[h.1];exact hw,rfl⟩ p4 hcl oL (by simp) hl (by unfold Nd.room;simp only[iI];omega)
 refine .inl ⟨v,ps,σ',S',bs',m,rfl,p2,q1,hc1.trans q2,⟨fun L r t=>wQ p3 ok p4 ?_ t,ps.length,?_,Oz ?_ _⟩,p5,p6⟩
 ·have hR1:=hc1.Aj r
  unfold kL at hR1;simp[nh] at hR1;unfold Nd.room;simp only[iI];omega
 ·exact((tC σ b).trans p4.RS).more (by omega)
 ·rw[p4.length.1]
  have sz:=h1.size h
  have e1:=hF.size nd.pairs
  have e2:Nd.size ⟨F nd.pairs,[],[]⟩=2+dO (F nd.pairs):=by simp[Nd.size,dI]
  have e3:2+dO nd.pairs<=nd.size:=by unfold Nd.size;omega
  exact p3.Sr rfl rfl ok.pr (by omega)
structure Ud (σ:bY)(h:Nat)(lo:ByteArray)(hi:Option ByteArray)(b:Int)(cs:List Pr)(bs:List Int)(key:ByteArray)(nd:Nd)(L:List (ByteArray×Int))(k:ByteArray)(kb:Int)(M:List (ByteArray×Int))(cl c cm:List Pr)(bl x bm:List Int):Prop where
 blk:BK σ b nd
 ok:nd.Ok
 kids:2<=nd.kids.length
 row:kT nd lo (L++(k,kb)::M)
 l:dm (iw σ h 2) (some k) L cl bl
 t:iw σ h 2 k (iY M hi) kb c x
 m:dm (iw σ h 2) hi M cm bm
 cs:cs=cl++(c++cm)
 bs:bs=b::(bl++(x++bm))
 at_:L.length=gT nd.keys key
 w:Within k (iY M hi) key
 rise:ug nd.keys
 lo1:∀k1 b1 M',M=(k1,b1)::M'->lt k1 lo=false
theorem Pm {σ:bY}{h:Nat}{lo:ByteArray}{hi:Option ByteArray}{b:Int}{cs:List Pr}{bs:List Int}{key:ByteArray}(ht:iw σ (h+1) 2 lo hi b cs bs)(hw:Within lo hi key):
  ∃nd L k kb M cl c cm bl x bm,Ud σ h lo hi b cs bs key nd L k kb M cl c cm bl x bm:=by
 obtain⟨nd,bs',h1,h2,h3,h4,h5,h6⟩:=ht
 have hro:=rowOf h2 h3 lo
 have hri:=iw.rising h2 h3 h6
 obtain⟨b0,l,e,e2,e3⟩:=o8 h2.kk h3 lo
 have er:nd.row lo=(lo,b0)::l:=e
 obtain⟨L,k,kb,M,q1,q2,q3,q4⟩:=Cw (b:=b0) (r:=l) (key:=key) hw.1
 rw[er] at hro h6
 rw[q1] at hro h6
 have hlows:=dm.QX (fun k z b c x ht=>iw.content ht) (by rw[<-q1] at h6;exact h6)
 obtain⟨cl,cr,bl,br,r1,⟨c,cm,x,bm,tk,rm,rfl,rfl⟩,rfl,rfl⟩:=h6.split
 refine⟨nd,L,k,kb,M,cl,c,cm,bl,x,bm,h1,h2,h4,hro,r1,tk,rm,rfl,h5,by rw[q2,e2],⟨q3,fun y hy=> ?_⟩,hri,fun k1 b1 M' hM=> ?_⟩
 ·cases M with
  |nil=>exact hw.2 y hy
  |cons m M=>obtain⟨k1,b1⟩:=m;cases hy;exact q4 _ _ _ rfl
 ·subst hM
  have hmem:(k1,b1)∈(lo,b0)::l:=by rw[q1];simp
  rcases bM.1 hmem with h|h
  ·cases h;exact lt_irrefl _
  ·exact lt_asymm ((eT.1 hlows).1 k1 (jy h))
theorem Rl {σ:bY}{h:Nat}{lo:ByteArray}{hi:Option ByteArray}{b:Int}{cs:List Pr}{bs:List Int}{key:ByteArray}{nd:Nd}{L:List (ByteArray×Int)}{k:ByteArray}{kb:Int}{M:List (ByteArray×Int)}{cl c cm:List Pr}{bl x bm:List Int}(hE:Ud σ h lo hi b cs bs key nd L k kb M cl c cm bl x bm){F:List Pr->List Pr}(hF:Ll F key):F cs=cl++(F c++cm):=by
 rw[hE.cs,<-aL,hF.loc cl c cm,aL]
 ·intro p hp
  have:∀{l:List (ByteArray×Int)} {cl:List Pr} {bl:List Int},dm (iw σ h 2) (some k) l cl bl->∀p∈cl,lt p.1 k=true:=by
   intro l cl bl hl p hp
   cases l with
   |nil=>obtain⟨rfl,_⟩:=hl;cases hp
   |cons q l=>
    have:=dm.content (fun k z b c x ht=>iw.content ht) hl
    exact(this.within p hp).2 k rfl
  exact AU (this hE.l p hp) hE.w.1
 ·intro p hp
  have hm:=hE.m
  cases M with
  |nil=>obtain⟨rfl,_⟩:=hm;cases hp
  |cons q M=>
   obtain⟨k1,b1⟩:=q
   have:=dm.content (fun k z b c x ht=>iw.content ht) hm
   exact AU (hE.w.2 k1 rfl) (this.within p hp).1
theorem AA {Lr:Nat}{σ σ2:bY}{h:Nat}{hi:Option ByteArray}{k1 k2:ByteArray}{A B:Nd}{L M:List (ByteArray×Int)}{cl ca cb cm:List Pr}{bl xa xb bm:List Int}{n:Nat}(okA:A.Ok)(okB:B.Ok)(hl:dm (iw σ h 2) (some k1) L cl bl)(hm:dm (iw σ h 2) hi M cm bm)(nA:oK σ h k1 (some k2) A ca xa)(nB:oK σ h k2 (iY M hi) B cb xb)(hr:kL Lr σ2 (bl++((xa++xb)++bm)) n)(hn:(cl++(ca++(cb++cm))).length<=n):
  σ2.sz+(dP A B k2).room<=Lr:=by
 have e1:=dm.count (fun _ _ _ _ _ ht=>iw.count ht (ax 2)) hl
 have e2:=dm.count (fun _ _ _ _ _ ht=>iw.count ht (ax 2)) hm
 have f1:=qp σ2 bl
 have f2:=qp σ2 (xa++xb)
 have f3:=qp σ2 bm
 unfold kL at hr
 rw[nQ,nQ] at hr
 simp only[av] at hn f2
 cases h with
 |zero=>
  obtain⟨a1,rfl,_,_,rfl⟩:=nA
  obtain⟨b1,rfl,_,_,rfl⟩:=nB
  have:(dP A B k2).room=A.pairs.length+B.pairs.length:=by simp[Nd.room,dP,a1,b1]
  rw[this]
  simp only[bI] at f2
  omega
 |succ h=>
  have g1:=dm.count (fun _ _ _ _ _ ht=>iw.count ht (ax 2)) nA.2
  have g2:=dm.count (fun _ _ _ _ _ ht=>iw.count ht (ax 2)) nB.2
  rw[A.lD okA nA.1] at g1
  rw[B.lD okB nB.1] at g2
  have p1:=bS.2 nA.1
  have p2:=bS.2 nB.1
  have:(dP A B k2).room<=A.kids.length+B.kids.length:=by
   simp[Nd.room,dP,okA.one nA.1,okB.one nB.1,nA.1];omega
  omega
theorem Ni (t:Nat)(mp:VS)(root err:Int)(σ:bY)(S:Nat->Prop)(nb:Nat)(nd:Nd)(i:Nat)(deep:Int)(h z:Nat)(hi:Option ByteArray)(lo:ByteArray)(R:List (ByteArray×Int))(cs:List Pr)(bs:List Int)(n:Nat)(w:World)(hI:Inv σ S mp w)(ht:cK w t mp root err)(hst:¬S t)(hn:fD w S nb nd)(ok:nd.Ok)(hR:kT nd lo R)(hM:Mid σ h hi z R i cs bs)(hnd:bs.Nodup)(hd:deep<=40)(hcs:cs.length<=n)(hl:R.length<=1160):
  Calls Tryz.prog 210 #[.pointer (some ⟨t,0,none⟩),.pointer (some ⟨nb,0,none⟩),.int .i64 i,.int .i64 deep] w fun e w'=>(e= .returned (.tuple #[])/\∃σ' S' nd' R' bs',Inv σ' S' mp w'/\fD w' S' nb nd'/\kT nd' lo R'/\dm (iw σ' h 2) hi R' cs bs'/\lS σ σ' bs bs'/\(Pk σ σ' bs n/\∃W,zG σ σ' W/\JB nd nd' h z cs.length W)/\nd'.Ok/\nd'.kids.length<=1700/\Keep (fun g=>S g\/g=nb) w w'/\∀g,S' g->S g\/w.heap.size<=g)\/(¬Room σ bs n/\BA mp σ S w e w'):=by
 have hlen:=hR.len
 have hall:∀x∈bs,σ.hasB x=true:=by
  cases hM with
  |two hr=>exact fun x hx=>dm.has (fun _ _ _ _ _ ht=>iw.has ht) hr x hx
  |one q1 q2 q3 _=>
   intro x hx
   simp only[bR] at hx
   rcases hx with hx|hx|hx
   ·exact dm.has (fun _ _ _ _ _ ht=>iw.has ht) q1 x hx
   ·exact q2.has x hx
   ·exact dm.has (fun _ _ _ _ _ ht=>iw.has ht) q3 x hx
 by_cases hs:R.length<2\/R.length<=i
 ·refine(KI t nb nd i deep w S hn (by omega)).mono ?_
  rintro e w' ⟨rfl,rfl⟩
  exact .inl ⟨rfl,σ,S,nd,R,bs,hI,hn,hR,hM.skip hs,lS.refl hall,⟨Pk.refl _ _ _,0,zG.refl _,.inl ⟨by omega,ax _,ax _⟩⟩,ok,by omega,Keep.refl _ _,fun g hg=> .inl hg⟩
 ·obtain⟨L,k1,b1,k2,b2,M,cl,ca,cb,cm,bl,xa,xb,bm,m1,m2,hP⟩:=hM.pair (by omega)
  rw[<-hlen.1] at hP
  have hro:=hR
  rw[hP.row] at hro
  obtain⟨dR,d1,d2,d3⟩:=F9 hro
  have hLj:=hP.len
  rw[hLj] at dR d1 d2 d3
  obtain⟨A,xa',bA,okA,nA,kA,na,rfl⟩:=qX.1 hP.a
  obtain⟨B,xb',bB,okB,nB,kB,nb',rfl⟩:=qX.1 hP.b
  have hk2:k2.size<=128:=ok.ky k2 (JU d1)
  obtain⟨nJ,okJ,lJ,lJ2⟩:=CZ okA okB nA nB na nb' hk2 bA.fits bB.fits
  have hbs:=hP.bs
  have hb12:b1≠b2:=by
   rintro rfl
   rw[hbs] at hnd
   have h1:=(dK.1 hnd).2.1
   exact(dK.1 h1).2.2 b1 (by simp) b1 (by simp) rfl
  obtain⟨c12,hB2⟩:=K4 hI bA.has bB.has hb12
  have hcl:=c12.KZ hI.KZ
  have hperm:bs.Perm ([b1,b2]++(bl++((xa'++xb')++bm))):=by
   rw[hbs]
   have e1:(b1::xa'++(b2::xb'++bm)).Perm ([b1,b2]++((xa'++xb')++bm)):=by
    show (b1::(xa'++b2::(xb'++bm))).Perm (b1::b2::((xa'++xb')++bm))
    refine List.Perm.cons _ ?_
    rw[aL]
    exact List.perm_middle
   exact(GA bl e1).trans (List.perm_append_comm_assoc _ _ _)
  have c1:=c12.left (hperm.nodup_iff.1 hnd) (fun x hx=>hall x (hperm.mem_iff.2 (eu _ hx)))
  have hrm:=fun (hroom:Room σ bs n)=>AA (Lr:=((σ.gone b1).gone b2).most) okA okB hP.l hP.m nA nB ((c1.perm hperm.symm (kr _)).room hroom) (by rw[<-hP.cs];exact hcs)
  have hrmL:∀L,kL L σ bs n->((σ.gone b1).gone b2).sz+(dP A B k2).room<=L:=fun L hroom=>AA okA okB hP.l hP.m nA nB ((c1.perm hperm.symm (kr _)).Aj hroom) (by rw[<-hP.cs];exact hcs)
  refine(Nj t mp root err σ S nb nd A B k2 i (min i (nd.kids.length - 2)) deep b1 b2 w hI ht hst hn (by omega) (by omega) rfl d2 d3 d1 (ok.one (by intro e;rw[e] at hlen;simp at hlen;omega)) ok.kk bA bB hB2 okJ hd (by omega)).mono ?_
  rintro e w' (⟨rfl,σ',S',nd',hI',hN',hK',hS',hres⟩|⟨hno,hg⟩)
  rotate_left
  ·exact .inr ⟨fun hroom=>absurd (hrm hroom) (fE.2 hno),hg⟩
  refine .inl ⟨rfl,σ',S',nd',?_⟩
  rcases hres with ⟨s1,s2,s3,rfl,rfl⟩|⟨ps,zs,hspr,hput,rfl,hno⟩
  ·refine⟨R,bs,hI',hN',hR,?_,lS.refl hall,⟨Pk.refl _ _ _,0,zG.refl _,.inl ⟨by omega,ax _,ax _⟩⟩,ok,by omega,hK',hS'⟩
   rw[hP.row,hP.cs,hP.bs]
   have tA:iw σ' h 2 k1 (some k2) b1 ca (b1::xa'):=qX.2 ⟨A,xa',bA,okA,nA,by
    cases h with
    |zero=>exact .inl rfl
    |succ h=>exact .inr (by have:=bS.2 nA.1;omega),na,rfl⟩
   have tB:iw σ' h 2 k2 (iY M hi) b2 cb (b2::xb'):=qX.2 ⟨B,xb',bB,okB,nB,by
    cases h with
    |zero=>exact .inl rfl
    |succ h=>exact .inr (by have:=bS.2 nB.1;omega),nb',rfl⟩
   exact dm.append (m:=(k1,b1)::(k2,b2)::M) ⟨ca,_,_,_,tA,⟨cb,_,_,_,tB,hP.m,rfl,rfl⟩,rfl,rfl⟩ hP.l
  ·obtain⟨xs,q1,q2,q3,q4,q5⟩:=Nh hP okA okB bA.fits bB.fits nA nB kA kB na nb' hk2 c12 hcl hspr hput hnd
   have hRo:=vN (ps:=ps) (by rw[<-hLj] at*;exact dR) (.inr q3)
   rw[hLj] at hRo
   have hl2:(L++kK k1 ps++M).length<=1700:=by
    have:=congrArg List.length hP.row
    simp only[av,aY,wS] at this ⊢
    omega
   refine⟨_,_,hI',hN',hRo,q1,q2,⟨fun L r t=>wQ hspr okJ hput (hrmL L r) t,ps.length,?_,Sw hP okA okB nA nB kA kB hk2 (bA.size hI) (bB.size hI) okJ hspr hput.length.1 q4 hno (by omega) ok.kk⟩,?_,by rw[hRo.len.1];exact hl2,hK',hS'⟩
   ·have:=((tC σ b1).trans (tC _ b2)).trans hput.RS
    exact this.more (by omega)
   refine hRo.ok ?_ ?_ (dm.EF (fun _ _ _ _ _ ht=>ht.top) q1) (by omega)
   ·exact ok.one (by intro e;rw[e] at hlen;simp at hlen;omega)
   ·exact Cy (fun k hk=>by
     rcases bR.1 hk with hk|hk
     ·exact ok.ky k (fo hk)
     ·exact ok.ky k (bU hk)) q4
theorem Mid.EF {σ:bY}{h z:Nat}{hi:Option ByteArray}{R:List (ByteArray×Int)}{i:Nat}{cs:List Pr}{bs:List Int}(hm:Mid σ h hi z R i cs bs):∀p∈R,1<=p.2/\p.2<=4096:=by
 cases hm with
 |two hr=>exact dm.EF (fun _ _ _ _ _ ht=>ht.top) hr
 |one q1 q2 q3 _=>
  intro p hp
  rcases bR.1 hp with hp|hp
  ·exact dm.EF (fun _ _ _ _ _ ht=>ht.top) q1 p hp
  ·rcases bM.1 hp with rfl|hp
   ·exact q2.top
   ·exact dm.EF (fun _ _ _ _ _ ht=>ht.top) q3 p hp
theorem Step.PW {S S1 S2:Nat->Prop}{w w3 w5:World}{nb:Nat}(h:Step S S1 w w3)(hk:Keep (fun g=>S1 g\/g=nb) w3 w5)(h2:∀g,S2 g->S1 g\/w3.heap.size<=g)(hnb:w.heap.size<=nb):Step S S2 w w5:=
 ⟨h.1.trans hk (fun i hi x=>x.elim (fun s=>(h.2 i s).elim id (fun y=>absurd hi (bE.2 y))) (fun e=>absurd hi (bE.2 (by rw[e];exact hnb)))),
  fun g hg=>(h2 g hg).elim (fun s=>h.2 g s) (fun y=> .inr (aI h.1.size y))⟩
theorem CW {Lr:Nat}{σ σ0:bY}{h:Nat}{k:ByteArray}{hi:Option ByteArray}{L M:List (ByteArray×Int)}{cl c cm:List Pr}{bl x bm:List Int}(hl:dm (iw σ h 2) (some k) L cl bl)(hm:dm (iw σ h 2) hi M cm bm)(hr:kL Lr σ0 (bl++(x++bm)) ((cl++(c++cm)).length+1)):kL Lr σ0 x (c.length+1):=by
 have e1:=dm.count (fun _ _ _ _ _ ht=>iw.count ht (ax 2)) hl
 have e2:=dm.count (fun _ _ _ _ _ ht=>iw.count ht (ax 2)) hm
 have f1:=qp σ0 bl
 have f3:=qp σ0 bm
 unfold kL at*
 rw[nQ,nQ] at hr
 simp only[av] at hr
 omega
theorem rq {Lr:Nat}{σ:bY}{h:Nat}{hi:Option ByteArray}{lo:ByteArray}{nd:Nd}{R:List (ByteArray×Int)}{cs:List Pr}{bs:List Int}{n:Nat}(ok:nd.Ok)(hR:kT nd lo R)(hr:dm (iw σ h 2) hi R cs bs)(hm:kL Lr σ bs n)(hn:cs.length<=n):σ.sz+nd.room<=Lr:=by
 have e1:=dm.count (fun _ _ _ _ _ ht=>iw.count ht (ax 2)) hr
 have f1:=qp σ bs
 have hl:=hR.len
 have hk:nd.kids≠[]:=fun e=>by rw[e] at hl;simp at hl;omega
 have hp:=ok.one hk
 have:nd.room<=nd.kids.length:=by
  have:=bS.2 hk
  simp[Nd.room,hp,hk];omega
 unfold kL at hm
 omega
theorem AO {nd:Nd}{lo:ByteArray}{R:List (ByteArray×Int)}(ok:nd.Ok)(hR:kT nd lo R):nd.room<=nd.kids.length:=by
 have hl:=hR.len
 have hk:nd.kids≠[]:=fun e=>by rw[e] at hl;simp at hl;omega
 have hp:=ok.one hk
 have:=bS.2 hk
 simp[Nd.room,hp,hk];omega
theorem IJ (t:Nat)(mp:VS)(root err:Int)(key:ByteArray)(g:Nat)(cb:Array Value)(F:List Pr->List Pr)(vs:List (Nat×ByteArray))(hF:Ll F key)(hks:key.size<=128)(h:Nat)(ih:Er t mp root err key g cb F vs h):Er t mp root err key g cb F vs (h+1):=by
 intro σ S b deep least lo hi cs bs w hI ht hst hbx hT hn hw hd hd0 hl
 have hTc:=hT.has
 obtain⟨nd,L,k,kb,M,cl,c,cm,bl,x,bm,hE⟩:=Pm hT hw
 have hFc:=Rl hE hF
 have hb0:(b==0)=false:=by have:=hE.blk.lo;simp;omega
 have hlen:=hE.row.len
 have hLM:L.length+M.length+1=nd.kids.length:=by rw[hlen.1];simp;omega
 have hkne:nd.kids≠[]:=fun e=>by have:=hE.kids;rw[e] at this;simp at this
 have hke:nd.kids.isEmpty=false:=by cases hq:nd.kids with|nil=>exact absurd hq hkne|cons a b=>rfl
 have hnk:=hE.blk.fits.nk
 have hcs:=hE.cs
 have hbs:=hE.bs
 subst hbs
 have cg:=Bn hI hE.blk.has
 have c0:lS σ (σ.gone b) (b::(bl++(x++bm))) (bl++(x++bm)):=cg.left (us:=[b]) (bs:=[]) (rs:=bl++(x++bm)) hn (fun y hy=>hTc y (aU _ hy))
 have n0:=c0.nd hn
 have R0:Room σ (b::(bl++(x++bm))) (cs.length+1)->Room (σ.gone b) (bl++(x++bm)) ((cl++(c++cm)).length+1):=fun hR=>by
  have:=c0.room hR
  rwa [hcs] at this
 have hbx0:∀y∈bl++(x++bm),y∉[b]:=fun y hy e=>(nO.1 hn).1 (by rw[<-bK.1 e];exact hy)
 have hh0:∀y∈bl++(x++bm),(σ.gone b).hasB y=true:=fun y hy=>(c0.new y hy).1
 have Rk:Room σ (b::(bl++(x++bm))) (cs.length+1)->Room (σ.gone b) x (c.length+1):=fun hR=>CW (Lr:=(σ.gone b).most) hE.l hE.m (R0 hR)
 have R0L:∀Lr,kL Lr σ (b::(bl++(x++bm))) (cs.length+1)->kL Lr (σ.gone b) (bl++(x++bm)) ((cl++(c++cm)).length+1):=fun Lr hR=>by
  have:=c0.Aj hR
  rwa [hcs] at this
 have RkL:∀Lr,kL Lr σ (b::(bl++(x++bm))) (cs.length+1)->kL Lr (σ.gone b) x (c.length+1):=fun Lr hR=>CW hE.l hE.m (R0L Lr hR)
 have HR0L:=af R0L;clear R0L
 have HRkL:=af RkL;clear RkL
 have HRk:=af Rk;clear Rk
 have T0:=hE.t.keep cg (fun y hy=>hbx0 y (by simp[hy]))
 have l0:=hE.l.keep cg (fun y hy=>hbx0 y (by simp[hy]))
 have m0:=hE.m.keep cg (fun y hy=>hbx0 y (by simp[hy]))
 have hkz:∀y,iY M hi=some y->lt y k=false:=fun y hy=>by
  have hc:=T0.content
  rw[hy] at hc
  obtain⟨p,r,e⟩:=kX hc.ne
  exact lt_asymm (hc.within p (by rw[e];simp)).M9
 have nx:x.Nodup:=(dK.1 (dK.1 n0).2.1).1
 have HE:=af hE;clear hE
 have HFc:=af hFc;clear hFc
 have HCS:=af hcs;clear hcs
 have HR0:=af R0;clear R0
 have HIH:=af ih;clear ih
 have HKZ:=af hkz;clear hkz
 have HB0:=af hbx0;clear hbx0
 have HH0:=af hh0;clear hh0
 have HTC:=af hTc;clear hTc hT
 have HLM:=af hLM;clear hLM
 have HLE:=af hlen;clear hlen
 have htl:t<w.heap.size:=(ah.1 ht).1
 have hid:kb=kb:=rfl
 have hkid:nd.kids[L.length]? =some kb:=by rw[HE.out.row.2];simp
 obtain⟨hil,hkid'⟩:=bT.1 hkid
 clear hkid hid
 have HKid:=af hkid';clear hkid'
 have hil':(L.length:Int)<(nd.kids.length:Int):=by omega
 have hkl:nd.keys.length<=1000000:=by have:=HE.out.ok.kk;omega
 have HAt:=af HE.out.at_
 go_enter Tryz.func165,Tryz.ntmps165
 go_wp2_with (first
  |(go_at_call 208;go_must ((refine(EL t mp root err b deep σ S nd w hI ht hst HE.out.blk (by omega)).mono ?_);rintro e w1 ⟨nb,rfl,hn1,hI1,hs1⟩))
  |(go_at_call 150;go_must ((refine(iZ nb nd _ S hn1.jl).mono ?_);rintro e w2 ⟨rfl,hw⟩;subst w2;rw[hke]))
  |(go_at_call 152;go_must ((refine(D7 nb nd key _ S hn1.jl HE.out.rise hkl).mono ?_);rw[<-HAt.out];rintro e w2 ⟨rfl,hb2⟩;refine Stop.of ?_)))
 refine Stop.on ?_
 have hs2:Step S S w w2:=hs1.trans (Step.of_below hb2)
 have hN2:=hn1.jl.below hb2
 have hI2:=hI1.below hb2
 have ht2:=ht.step hst hs2
 have hbx2:=hbx.step hs2
 have hnbw:w.heap.size<=nb:=hn1.2.1
 obtain⟨hSb,v0,v1,v2,bN,N0,N1,N2⟩:=id hN2
 obtain⟨ao2,cp2,rfl,_,_,_,_⟩:=bn.form N2
 obtain⟨pb,po,rfl,d2⟩:=N2.at rfl L.length hil
 rw[HKid.out] at d2
 have hpb:=aH w2 _ d2
 obtain⟨_,_,y2,_,_,_,ly⟩:=cells3 bN
 have hE1:=HIH.out (σ.gone b) S kb (deep+1) key k (iY M hi) c x w2 hI2 ht2.1 hst hbx2 T0 nx HE.out.w (by omega) (by omega) hks
 have HE1:=af hE1;clear hE1
 go_wp2_with (first
  |(go_at_call 165;go_must (refine HE1.out.mono ?_;rintro e w3 (⟨v,ps,σ1,S1,x',m,rfl,hown,hP,hc1,⟨hpk1,W1,hW1,hB1⟩,hI3,hs3⟩|⟨hno,rfl,τ,Sτ,g1,g2,g3,g4⟩)<;>refine Stop.of ?_)))
 rotate_left
 ·refine Stop.on ?_
  exact⟨rfl,.inr ⟨fun hR=>hno (HRk.out hR),rfl,τ,Sτ,g1,hs2.trans g2,g3,g4⟩⟩
 refine Stop.on ?_
 have hN3:=hN2.step hs3
 have hpl:=hP.len
 have hRp:=yU nb nd v ps L.length w3 S1 hI3.sub hN3 (HE.out.ok.one hkne) hown.cZ hil HE.out.ok.kk (by omega) (by omega)
 have HRp:=af hRp;clear hRp
 clear y2 d2 hpb
 go_wp2_with (first
  |(go_at_call 209;go_must (refine HRp.out.mono ?_;rintro e w4 ⟨rfl,hN4,hk4⟩;refine Stop.of ?_)))
 refine Stop.on ?_
 have hS1b:¬S1 nb:=hN4.1
 have hI4:=hI3.nD hk4 (fun g hg e=>hS1b (by rw[<-e];exact hg))
 have ht3:=ht2.1.step ht2.2 hs3
 have hnbt:t≠nb:=fun e=>by rw[e] at htl;omega
 have ht4:cK w4 t mp root err:=(hk4.block t (ah.1 ht3.1).1 hnbt).trans ht3.1
 have hs4:Step S S1 w w4:=(hs2.trans hs3).PW (hk4.mono (fun _ _ h=> .inr h)) (fun g hg=> .inl hg) hnbw
 have cm1:=hc1.mid (ls:=bl) (rs:=bm) (by rw[aL];exact n0) (fun y hy=>HH0.out y (by simp[hy])) (fun y hy=>HH0.out y (by simp[hy]))
 rw[aL,aL] at cm1
 have hdl:∀y∈bl,y∉x:=fun y hy hx=>(dK.1 n0).2.2 y hy y (dL _ hx) rfl
 have hdm:∀y∈bm,y∉x:=fun y hy hx=>(dK.1 (dK.1 n0).2.1).2.2 y hx y hy rfl
 have HW1:=af (ay hW1 hB1);clear hW1 hB1
 obtain⟨R,hRo,hMidz,hRl⟩:=I7 HE.out.row (l0.keep hc1 hdl) (m0.keep hc1 hdm) hP (by have:=HLE.out.1;have:=HE.out.kids;omega) HE.out.lo1 HKZ.out
 have hRl2:R.length<=1160:=by have:=HLM.out;omega
 obtain⟨zc,hzc⟩:∃zc,zc=if ps.length=1 then(F c).length else(cl++(F c++cm)).length+1:=⟨_,rfl⟩
 have hMid:=hMidz zc (fun e=>by rw[hzc,if_pos e])
 have HZC:=af hzc;clear hzc hMidz
 have hRS:=Nd.Cx (nd:=nd) (i:=L.length) (ps:=ps) hil HE.out.ok.kk hP.key
 have HRS:=af hRS;clear hRS
 have ok1:(nd.pG L.length ps).Ok:=by
  exact hRo.ok (HE.out.ok.one hkne) (Cy HE.out.ok.ky hP.key) hMid.EF (by omega)
 have n1:=cm1.nd n0
 have R1:=fun hR=>cm1.room (HR0.out hR)
 have R1L:∀Lr,kL Lr σ (b::(bl++(x++bm))) (cs.length+1)->kL Lr σ1 (bl++(x'++bm)) ((cl++(c++cm)).length+1):=fun Lr hR=>cm1.Aj (HR0L.out Lr hR)
 have HR1L:=af R1L;clear R1L
 have HPK1:=af (show ∀Lr,kL Lr σ (b::(bl++(x++bm))) (cs.length+1)->σ.tk<=Lr->σ1.tk<=Lr from fun Lr hR t=>hpk1 Lr (HRkL.out Lr hR) t);clear hpk1
 have HR1:=af R1;clear R1
 have hFl:(cl++(F c++cm)).length<=(cl++(c++cm)).length+1:=by
  have:=hF.len c
  simp only[av];omega
 have hJ:=Ni t mp root err σ1 S1 nb (nd.pG L.length ps) L.length (deep+1) h zc hi lo R (cl++(F c++cm)) (bl++(x'++bm)) _ w4 hI4 ht4 (fun x=>ht3.2 x) hN4 ok1 hRo hMid n1 (by omega) hFl hRl2
 have HJ:=af hJ;clear hJ
 have HP:=af hP;clear hP
 have HRo:=af hRo;clear hRo hRl
 have HC:=af (c0.trans cm1)
 go_wp2_with (first
  |(go_at_call 210;go_must (refine HJ.out.mono ?_;rintro e w5 (⟨rfl,σ2,S2,n2,R2,bs2,hI5,hN5,hRo2,hr2,hc2,⟨hpk2,W2,hW2,hB2⟩,ok2,hl2,hk5,hS2⟩|⟨hno,rfl,τ,Sτ,g1,g2,g3,g4⟩)<;>refine Stop.of ?_)))
 rotate_left
 ·refine Stop.on ?_
  exact⟨rfl,.inr ⟨fun hR=>hno (HR1.out hR),rfl,τ,Sτ,g1,hs4.trans g2,g3.trans HC.out.H,g4.trans HC.out.most⟩⟩
 refine Stop.on ?_
 have hs5:Step S S2 w w5:=hs4.PW hk5 hS2 hnbw
 have HW2:=af (ay hW2 hB2);clear hW2 hB2
 have ht5:=ht.step hst hs5
 have rm2:=AO ok2 hRo2
 have rm1:=fun hR=>rq (Lr:=σ2.most) ok2 hRo2 hr2 (hc2.room (HR1.out hR)) hFl
 have HRML:=af (show ∀Lr,kL Lr σ (b::(bl++(x++bm))) (cs.length+1)->σ2.sz+n2.room<=Lr from fun Lr hR=>rq ok2 hRo2 hr2 (hc2.Aj (HR1L.out Lr hR)) hFl)
 have HPK2:=af (show ∀Lr,kL Lr σ (b::(bl++(x++bm))) (cs.length+1)->σ.tk<=Lr->σ2.tk<=Lr from fun Lr hR t=>hpk2 Lr (HR1L.out Lr hR) (HPK1.out Lr hR t));clear hpk2
 have hRl2':=af hRo2
 have HNL:=af rm2
 have HRM:=af rm1
 clear rm1 rm2 hRo2
 go_wp2_with (first
  |(go_at_call 206;go_must ((refine(pE t mp root err _ σ2 S2 nb n2 least w5 hI5 ht5.1 ht5.2 hN5 ok2 (gB _)).mono ?_);rintro e w6 (⟨v6,ps6,zs,σ3,S3,rfl,p2,p3,p4,p5,p6⟩|⟨hno,rfl,τ,Sτ,g1,g2,g3,g4⟩)<;>refine Stop.of ?_)))
 rotate_left
 ·refine Stop.on ?_
  exact⟨rfl,.inr ⟨fun hR=>absurd (HRM.out hR) (fE.2 hno),rfl,τ,Sτ,g1,hs5.trans g2,g3.trans (hc2.H.trans HC.out.H),g4.trans (hc2.most.trans HC.out.most)⟩⟩
 refine Stop.on ?_
 go_wp2_with fail
 go_ret
 have hkne2:n2.kids≠[]:=fun e=>hRl2'.out.ne (by have:=hRl2'.out.2;rw[e] at this;exact List.map_eq_nil_iff.1 this.symm)
 obtain⟨m3,bs3,q1,q2⟩:=zN p3 (lo:=lo) (hi:=hi) (h:=h+1) (cs:=cl++(F c++cm)) (bs:=bs2) ok2 ⟨hkne2,by rw[hRl2'.out.row];exact hr2⟩ p4 hI5.KZ (hc2.nd n1) (dm.has (fun _ _ _ _ _ ht=>ht.has) hr2) hl (by have:=HNL.out;have:=ok2.one hkne2;simp[Nd.room,this,hkne2];omega)
 refine .inl ⟨v6,ps6,σ3,S3,bs3,m3,rfl,p2.base hs5.1.size,?_,(HC.out.trans hc2).trans q2,⟨fun Lr hR t=>wQ p3 ok2 p4 (HRML.out Lr hR) (HPK2.out Lr hR t),W1+W2+ps6.length,?_,?_⟩,p5,hs5.trans p6⟩
 ·rw[HFc.out]
  exact q1
 ·exact((((tC σ b).trans HW1.out.1).trans HW2.out.1).trans p4.RS).more (by omega)
 ·rw[HFc.out]
  have hlz:=p4.length.1
  have hk2:=HE.out.kids
  have sz:=HE.out.blk.size hI
  obtain⟨r1,r2⟩:=HRS.out
  have hlm:=HLM.out
  rcases HW2.out.2 with ⟨j1,j2,j3⟩|⟨hh,kb,rfl,hkb,hz,_,j1,j2,j3⟩
  ·have ht:=p3.tt ok2 hkne2 (x:=ps.length - 1) (K:=nd.kids.length+(ps.length - 1)) (by omega) (by omega)
   have l1:=dm.low (m:=2^h) (fun _ _ _ _ _ ht=>iw.pw ht) HE.out.l
   have l2:=dm.low (m:=2^h) (fun _ _ _ _ _ ht=>iw.pw ht) HE.out.m
   have hm:(nd.kids.length - 1)*2^h<=cl.length+cm.length:=by
    rw[show nd.kids.length - 1=L.length+M.length by omega,dX];omega
   refine LQ HW1.out.2 hk2 ?_ (by rw[hlz];exact ht) j1
   simp only[av]
   omega
  ·have hzc:=HZC.out
   by_cases hq:ps.length=1
   ·rw[if_pos hq] at hzc
    rw[hzc] at hz
    have hB1:=HW1.out.2
    rw[hq] at hB1 r1 r2
    have ht:=p3.tt ok2 hkne2 (x:=W2 - 1) (K:=nd.kids.length+(W2 - 1)) (by omega) (by omega)
    have hkn:(nd.pG L.length ps).kids.length=nd.kids.length:=by omega
    rw[hkn] at hz
    exact OA hB1 hk2 hkb hz j1 (by rw[hlz];exact ht)
   ·rw[if_neg hq] at hzc
    omega
theorem FW (t:Nat)(mp:VS)(root err:Int)(key:ByteArray)(g:Nat)(cb:Array Value)(F:List Pr->List Pr)(vs:List (Nat×ByteArray))(hent:∀args w,(callFunc g args).run Tryz.prog w= .ok (.enter g args) w)(hf:Dj g cb F vs)(hF:Ll F key)(hks:key.size<=128):∀h,Er t mp root err key g cb F vs h
 |0=>Pj t mp root err key g cb F vs hent hf hF
 |h+1=>IJ t mp root err key g cb F vs hF hks h (FW t mp root err key g cb F vs hent hf hF hks h)
structure GN (w0:World)(S:Nat->Prop)(nb:Nat)(ks:List ByteArray)(ns:List Int)(v1 v2:Value)(wr:World):Prop where
 qI:Below w0.heap.size w0 wr
 lo:w0.heap.size<=nb
 node:wr.heap[nb]? =some (.cells #[.slice none 0 0,v1,v2] 260 (0,0))
 o1:aP wr S w0.heap.size 9 1 v1 ks.length (ks.map .string)
 o2:aP wr S w0.heap.size 3 1 v2 ns.length (ns.map (.int .i64))
theorem GN.lt {w0:World}{S:Nat->Prop}{nb:Nat}{ks:List ByteArray}{ns:List Int}{v1 v2:Value}{wr:World}(h:GN w0 S nb ks ns v1 v2 wr):nb<wr.heap.size:=(ah.1 h.node).1
theorem GN.below {w0:World}{S:Nat->Prop}{nb:Nat}{ks:List ByteArray}{ns:List Int}{v1 v2:Value}{wr wr':World}(h:GN w0 S nb ks ns v1 v2 wr)(hb:Below wr.heap.size wr wr'):GN w0 S nb ks ns v1 v2 wr':=
 ⟨h.qI.trans (hb.mono h.qI.size),h.lo,(hb.block nb h.lt).trans h.node,h.o1.below hb,h.o2.below hb⟩
theorem GN.QN {w0:World}{S:Nat->Prop}{nb:Nat}{ks:List ByteArray}{ns ns':List Int}{v1 v2 v2':Value}{wr w':World}(h:GN w0 S nb ks ns v1 v2 wr)(hk:Keep (fun g=>v2.ownBlock=some g) wr w')(hb:Below w0.heap.size wr w')(ho:aP w' S w0.heap.size 3 1 v2' ns'.length (ns'.map (.int .i64))):GN w0 S nb ks ns' v1 v2' (w'.setCell ⟨nb,2,none⟩ v2'):=by
 have hn:w'.heap[nb]? =_:=(hk.block nb h.lt (h.o2.ne h.node (by decide))).trans h.node
 have hk5:Keep (· =nb) w' (w'.setCell ⟨nb,2,none⟩ v2'):=Keep.setCell (M:=(· =nb)) (p:=⟨nb,2,none⟩) (Keep.refl _ _) (.inr rfl) _
 have h1:aP w' S w0.heap.size 9 1 v1 ks.length (ks.map .string):=h.o1.keep fun g hg hl hs=>⟨hk.block g hl (fun e=>aP.Ij h.o1 h.o2 (by decide) g hg e),hs⟩
 refine⟨(h.qI.trans hb).setCell (by exact h.lo) _,h.lo,by simp[World.setCell,aS,hn],h1.keep fun g hg hl hs=>⟨hk5.block g hl (fun e=>h1.ne hn (by decide) (by rw[hg,e])),hs⟩,ho.keep fun g hg hl hs=>⟨hk5.block g hl (fun e=>ho.ne hn (by decide) (by rw[hg,e])),hs⟩⟩
theorem GN.MN {w0:World}{S:Nat->Prop}{nb:Nat}{ks ks':List ByteArray}{ns:List Int}{v1 v2 v1':Value}{wr w':World}(h:GN w0 S nb ks ns v1 v2 wr)(hk:Keep (fun g=>v1.ownBlock=some g) wr w')(hb:Below w0.heap.size wr w')(ho:aP w' S w0.heap.size 9 1 v1' ks'.length (ks'.map .string)):GN w0 S nb ks' ns v1' v2 (w'.setCell ⟨nb,1,none⟩ v1'):=by
 have hn:w'.heap[nb]? =_:=(hk.block nb h.lt (h.o1.ne h.node (by decide))).trans h.node
 have hk5:Keep (· =nb) w' (w'.setCell ⟨nb,1,none⟩ v1'):=Keep.setCell (M:=(· =nb)) (p:=⟨nb,1,none⟩) (Keep.refl _ _) (.inr rfl) _
 have h2:aP w' S w0.heap.size 3 1 v2 ns.length (ns.map (.int .i64)):=h.o2.keep fun g hg hl hs=>⟨hk.block g hl (fun e=>aP.Ij h.o2 h.o1 (by decide) g hg e),hs⟩
 refine⟨(h.qI.trans hb).setCell (by exact h.lo) _,h.lo,by simp[World.setCell,aS,hn],ho.keep fun g hg hl hs=>⟨hk5.block g hl (fun e=>ho.ne hn (by decide) (by rw[hg,e])),hs⟩,h2.keep fun g hg hl hs=>⟨hk5.block g hl (fun e=>h2.ne hn (by decide) (by rw[hg,e])),hs⟩⟩
def Bu (σ:bY)(root:Int)(cs:List Pr)(bs:List Int):Prop:=(root=0/\cs=[]/\bs=[])\/∃h,iw σ h 2 ⟨#[]⟩ none root cs bs
def Og (mp:VS)(σ:bY)(S:Nat->Prop)(cs:List Pr)(bs:List Int)(n q:Nat)(w:World)(e:Ending)(w':World):Prop:=
 (∃b σ' S' bs',e= .returned (.int .i64 b)/\Bu σ' b cs bs'/\lS σ σ' bs bs'/\(Pk σ σ' bs n/\zG σ σ' q)/\Inv σ' S' mp w'/\Step S S' w w')\/(¬Room σ bs n/\BA mp σ S w e w')
def TK:Value->Nat| .slice _ n _=>n|_=>0
def GR (mp:VS)(σ0:bY)(S0:Nat->Prop)(cs:List Pr)(bs0:List Int)(n q:Nat)(w:World)(v:Value)(wr:World):Prop:=
 ∃ps h m σ S bs,Gu wr S v ps/\SY σ h m ⟨#[]⟩ none ps cs bs/\lS σ0 σ bs0 bs/\(Pk σ0 σ bs0 n/\∃W,zG σ0 σ W/\W+(ps.length - 1)<=q)/\Inv σ S mp wr/\Step S0 S w wr
theorem FU (t:Nat)(mp:VS)(root err:Int)(σ:bY)(v:Value)(ps:List Pc)(h m:Nat)(cs:List Pr)(bs:List Int)(n:Nat)(S:Nat->Prop)(w:World)(hI:Inv σ S mp w)(ht:cK w t mp root err)(hst:¬S t)(hv:Gu w S v ps)(hP:SY σ h m ⟨#[]⟩ none ps cs bs)(hn:bs.Nodup)(hcs:cs.length<=n)(q:Nat)(hq:ps.length - 1<=q):
  Calls Tryz.prog 164 #[.pointer (some ⟨t,0,none⟩),v] w (Og mp σ S cs bs n q w):=by
 have hb0:∀x∈bs,σ.hasB x=true:=dm.has (fun _ _ _ _ _ ht=>ht.has) hP.row
 have htl:t<w.heap.size:=(ah.1 ht).1
 go_enter Tryz.func164,Tryz.ntmps164
 go_wp2
 go_loopw [1,5,6,7] (fun l _ _ _ wr=>GR mp σ S cs bs n q w l wr) (fun l _ _ _ _=>TK l)
 case atStart=>exact⟨ps,h,m,σ,S,bs,hv,hP,lS.refl hb0,⟨Pk.refl _ _ _,0,zG.refl _,by omega⟩,hI,Step.refl S w⟩
 case round=>
  obtain⟨wo,rfl⟩:∃x:World,x=wr:=⟨_,rfl⟩
  obtain⟨ps,h,m,σ1,S1,bs1,hv1,hP1,hC1,hK1,hI1,hs1⟩:=hrel
  have HPK:=af hK1;clear hK1
  have HP1:=af hP1
  have HC1:=af hC1
  have hlen:=hP1.len
  clear hP1 hC1 hb0 hP hv hI
  have ht1:=ht.step hst hs1
  obtain⟨pao,pc,rfl,_,_,_,_⟩:=bn.form hv1
  by_cases h1:1<ps.length
  ·have x1:(1:Int)<(ps.length:Int):=by omega
   have hb0:=aF wo (.cells #[.slice none 0 0,.slice none 0 0,.slice none 0 0] 260)
   have hG0:GN wo S1 wo.heap.size [] [] (.slice none 0 0) (.slice none 0 0) (wo.alloc (.cells #[.slice none 0 0,.slice none 0 0,.slice none 0 0] 260)):=
    ⟨hb0,ax _,aK wo _,aP.nil _ _ _ _ _,aP.nil _ _ _ _ _⟩
   obtain⟨pb,po,rfl⟩:∃pb po,pao=some ⟨pb,po,none⟩:=by
    obtain⟨b,o,e,_⟩:=hv1.at rfl 0 (by omega)
    exact⟨b,o,e⟩
   go_wp2_with fail
   go_loopw [6,7,19] (fun _ _ i wk=>∃(k:Nat) (v1 v2:Value),k<=ps.length/\i= .int .i64 k/\GN wo S1 wo.heap.size (((ps.take k).drop 1).map (·.2)) ((ps.take k).map (·.1)) v1 v2 wk) (fun _ _ i _=>ps.length - (intOf i).toNat)
   case atStart=>exact⟨0,_,_,bf _,rfl,by simpa using hG0⟩
   case round=>
    obtain⟨k,v1,v2,hk,rfl,hG⟩:=hrel
    by_cases hlt:k<ps.length
    ·obtain⟨ns,hns⟩:∃ns,ns=(ps.take k).map (·.1):=⟨_,rfl⟩
     obtain⟨ks,hks⟩:∃ks,ks=((ps.take k).drop 1).map (·.2):=⟨_,rfl⟩
     have hnl:ns.length=k:=by rw[hns];simp;omega
     have hkl:ks.length=k - 1:=by rw[hks];simp;omega
     rw[<-hns,<-hks] at hG
     have hns2:(ps.take (k+1)).map (·.1)=ns++[ps[k].1]:=by rw[hns,aQ hlt,bX];rfl
     have HNS:=af hns2;clear hns hns2
     have hks2:((ps.take (k+1)).drop 1).map (·.2)=if k=0 then ks else ks++[ps[k].2]:=by
      rw[hks,aQ hlt]
      split
      ·rename_i e;subst e;simp
      ·rw[fH (by simp;omega),bX];rfl
     have HKS:=af hks2;clear hks hks2
     obtain⟨_,_,e,d1,d2⟩:=hv1.at rfl k hlt
     cases e
     have d1':=(hG.qI.cell (p:=⟨pb,po+k*2,none⟩) (aH wo _ d1)).trans d1
     have d2':=(hG.qI.cell (p:=⟨pb,po+k*2+1,none⟩) (aH wo _ d2)).trans d2
     have hpb:=aH wr _ d1'
     have hlti:(k:Int)<(ps.length:Int):=by omega
     have hGA:=(hG.below (aF wr (.cells #[.int .i64 ps[k].1,.string ps[k].2] 324)))
     have hPA:(wr.alloc (.cells #[.int .i64 ps[k].1,.string ps[k].2] 324)).heap[wr.heap.size]? =some (.cells #[.int .i64 ps[k].1,.string ps[k].2] 324 (0,0)):=aK wr _
     clear d1 d2
     go_wp2_with fail
     generalize wr.alloc (.cells #[.int .i64 ps[k].1,.string ps[k].2] 324)=wA at hGA hPA ⊢
     have hqb:wo.heap.size<=wr.heap.size:=hG.qI.size
     have hqn:wo.heap.size<wr.heap.size:=hG.lt
     clear d1' d2' hpb hG
     generalize wr.heap.size=qb at hPA hqb hqn ⊢
     have hsub:=hI1.sub
     have o2:=hGA.o2
     rw[hnl] at o2
     obtain⟨ao2,c2,rfl,_,_,_,_⟩:=bn.form o2.cZ
     obtain⟨_,_,y2,_,_,_,ly⟩:=cells3 hGA.node
     obtain⟨z0,z1,lz⟩:wA.cell? ⟨qb,0,none⟩=some (.int .i64 ps[k].1)/\wA.cell? ⟨qb,1,none⟩=some (.string ps[k].2)/\qb<wA.heap.size:=⟨by simp[World.cell?,hPA],by simp[World.cell?,hPA],(ah.1 hPA).1⟩
     refine aN (fun W=>W.cell? ⟨wo.heap.size,2,none⟩=some (.slice ao2 k c2)/\wo.heap.size<W.heap.size/\W.cell? ⟨qb,0,none⟩=some (.int .i64 ps[k].1)/\qb<W.heap.size) (fun i=> !([7,8,11].contains i)) [0,1,2,3,4,5,6,7,8,9,10,11] rfl (by kernel_rfl) ⟨y2,ly,z0,lz⟩ ?_
     repeat ((refine bL (v:= ?_) rfl rfl (fun _ _ _ h=>h) rfl (fun W hW=> ?_) ?_);rotate_left;(focus ((try dsimp only at hW);obtain⟨q0,q1,q2,q3⟩:=hW;first|(go_simp;first|done|with_reducible rfl)));(try simp only[Act.put,ai,au,aj]))
     refine dA rfl rfl rfl ?_;intro K hK;go_simp
     have hbB:=(aF wA (.cells #[.int .i64 ps[k].1] 3)).drew
     have hGB:=hGA.below hbB
     have oB:=o2.below hbB
     obtain⟨_,_,y2,_,_,_,ly⟩:=cells3 hGB.node
     have z0B:=(hbB.cell (p:=⟨qb,0,none⟩) lz).trans z0
     have lzB:=ak lz hbB.size
     refine hK.out _ _ ⟨y2,ly,z0B,lzB⟩ ?_
     (try simp only[Act.put,ai,au,aj])
     have hPB:=(hbB.block qb lz).trans hPA
     have hsrc:Src Tryz.prog 1 171 (.slice (some ⟨wA.heap.size,0,none⟩) 1 1) 1 [.int .i64 ps[k].1] (wA.alloc (.cells #[.int .i64 ps[k].1] 3)).drew:=(mq (w:=wA) (S:=S1) (B:=wo.heap.size) (e:=3) (k:=1) [.int .i64 ps[k].1] 1 1 rfl rfl (ax _) (by simp[maxLen]) hGA.qI.size (fun g hg=>ak (hsub g hg) hGA.qI.size)).drew.cZ.src aZ (by intro u hu;rw[bK.1 hu];rfl)
     have hsubB:∀g,S1 g->g<(wA.alloc (.cells #[.int .i64 ps[k].1] 3)).drew.heap.size:=fun g hg=>ak (ak (hsub g hg) hGA.qI.size) hbB.size
     have hszB:=hGB.qI.size
     generalize (wA.alloc (.cells #[.int .i64 ps[k].1] 3)).drew=wB at hGB oB hPB hsrc hsubB hszB ⊢
     refine dA rfl rfl rfl ?_;intro K hK
     refine mE (.tmp 28) (.tmp 31) 171 171 rfl S1 wo.heap.size 3 1 8 _ aZ gU rfl (.slice ao2 k c2) k (ns.map (.int .i64)) rfl oB (.slice (some ⟨wA.heap.size,0,none⟩) 1 1) 1 [.int .i64 ps[k].1] rfl hsrc hsubB hszB (by unfold maxLen;omega) (by omega) ?_
     intro ao3 c3 w3 hown3 hk3 hb3 hd3
     have hG3:=hGB.QN hk3 hb3 (ns':=ns++[ps[k].1]) (v2':= .slice ao3 (k+1) c3) (by rw[av,eB,hnl,bX];exact hown3)
     have hN3:w3.heap[wo.heap.size]? =_:=(hk3.block _ hGB.lt (hGB.o2.ne hGB.node (by decide))).trans hGB.node
     have hP3:w3.heap[qb]? =_:=(hk3.block qb (ah.1 hPB).1 (oB.ne hPB (by decide))).trans hPB
     obtain⟨_,_,y2,_,_,yf,ly⟩:=cells3 hN3
     have z3:w3.cell? ⟨qb,0,none⟩=some (.int .i64 ps[k].1):=by simp[World.cell?,hP3]
     have l3:=(ah.1 hP3).1
     refine hK.out _ _ ⟨y2,ly,z3,l3⟩ ?_
     (try simp only[Act.put,ai,au,aj])
     repeat ((refine bL (v:= ?_) rfl rfl (fun _ _ _ h=>h) rfl (fun W hW=> ?_) ?_);rotate_left;(focus ((try dsimp only at hW);obtain⟨q0,q1,q2,q3⟩:=hW;first|(go_simp;first|done|with_reducible rfl)));(try simp only[Act.put,ai,au,aj]))
     refine jf rfl rfl rfl (by kernel_rfl) ?_;intro K hK;go_simp
     refine hK.out _ _ ?_
     refine bO ?_
     have hk4:Keep (· =wo.heap.size) w3 (w3.setCell ⟨wo.heap.size,2,none⟩ (.slice ao3 (k+1) c3)):=Keep.setCell (M:=(· =wo.heap.size)) (p:=⟨wo.heap.size,2,none⟩) (Keep.refl _ _) (.inr rfl) _
     have hP4:=(hk4.block qb l3 (by omega)).trans hP3
     generalize w3.setCell ⟨wo.heap.size,2,none⟩ (.slice ao3 (k+1) c3)=w4 at hG3 hP4 ⊢
     clear hk4 hN3 hP3 hGB oB hPB hsrc hsubB hGA hPA o2 hown3 hk3 hb3 hd3 y2 yf ly z3 l3 z0 z1 lz z0B lzB hbB hszB
     by_cases hk0:k=0
     ·have x2:¬(0:Int)<(k:Int):=by omega
      have HK0:=af hk0;clear hk0
      go_wp2_with fail
      go_roundw
      case rel=>exact⟨k+1,_,_,by omega,by go_num,by rw[HNS.out,HKS.out,if_pos HK0.out];exact hG3⟩
      case measure=>simp[intOf];omega
     ·have x2:(0:Int)<(k:Int):=by omega
      have hkn:k - 1+1=k:=by omega
      have HK0:=af hk0;clear hk0
      have o1:=hG3.o1
      rw[hkl] at o1
      have v14:bn w4 S1 1 v1 (k - 1) (ks.map .string):=o1.cZ
      obtain⟨ao5,c5,rfl,_,_,_,_⟩:=bn.form v14
      clear v14
      obtain⟨_,y1,_,_,_,_,ly⟩:=cells3 hG3.node
      obtain⟨z1,lz⟩:w4.cell? ⟨qb,1,none⟩=some (.string ps[k].2)/\qb<w4.heap.size:=⟨by simp[World.cell?,hP4],(ah.1 hP4).1⟩
      go_wp2_with fail
      refine aN (fun W=>W.cell? ⟨wo.heap.size,1,none⟩=some (.slice ao5 (k - 1) c5)/\wo.heap.size<W.heap.size/\W.cell? ⟨qb,1,none⟩=some (.string ps[k].2)/\qb<W.heap.size) (fun i=> !([7,8,11].contains i)) [0,1,2,3,4,5,6,7,8,9,10,11] rfl (by kernel_rfl) ⟨y1,ly,z1,lz⟩ ?_
      repeat ((refine bL (v:= ?_) rfl rfl (fun _ _ _ h=>h) rfl (fun W hW=> ?_) ?_);rotate_left;(focus ((try dsimp only at hW);obtain⟨q0,q1,q2,q3⟩:=hW;first|(go_simp;first|done|with_reducible rfl)));(try simp only[Act.put,ai,au,aj]))
      refine dA rfl rfl rfl ?_;intro K hK;go_simp
      have hbB:=(aF w4 (.cells #[.string ps[k].2] 9)).drew
      have hGB:=hG3.below hbB
      have oB:=o1.below hbB
      obtain⟨_,y1,_,_,_,_,ly⟩:=cells3 hGB.node
      have z1B:=(hbB.cell (p:=⟨qb,1,none⟩) lz).trans z1
      have lzB:=ak lz hbB.size
      refine hK.out _ _ ⟨y1,ly,z1B,lzB⟩ ?_
      (try simp only[Act.put,ai,au,aj])
      have hPB:=(hbB.block qb lz).trans hP4
      have hsrc:Src Tryz.prog 1 22 (.slice (some ⟨w4.heap.size,0,none⟩) 1 1) 1 [.string ps[k].2] (w4.alloc (.cells #[.string ps[k].2] 9)).drew:=(mq (w:=w4) (S:=S1) (B:=wo.heap.size) (e:=9) (k:=1) [.string ps[k].2] 1 1 rfl rfl (ax _) (by simp[maxLen]) hG3.qI.size (fun g hg=>ak (hsub g hg) hG3.qI.size)).drew.cZ.src aW (by intro u hu;rw[bK.1 hu];rfl)
      have hsubB:∀g,S1 g->g<(w4.alloc (.cells #[.string ps[k].2] 9)).drew.heap.size:=fun g hg=>ak (ak (hsub g hg) hG3.qI.size) hbB.size
      have hszB:=hGB.qI.size
      generalize (w4.alloc (.cells #[.string ps[k].2] 9)).drew=wB at hGB oB hPB hsrc hsubB hszB ⊢
      refine dA rfl rfl rfl ?_;intro K hK
      refine mE (.tmp 41) (.tmp 44) 22 22 rfl S1 wo.heap.size 9 1 16 _ aW gu rfl (.slice ao5 (k - 1) c5) (k - 1) (ks.map .string) rfl oB (.slice (some ⟨w4.heap.size,0,none⟩) 1 1) 1 [.string ps[k].2] rfl hsrc hsubB hszB (by unfold maxLen;omega) (by omega) ?_
      intro ao6 c6 w6 hown6 hk6 hb6 hd6
      have hG6:=hGB.MN hk6 hb6 (ks':=ks++[ps[k].2]) (v1':= .slice ao6 (k - 1+1) c6) (by rw[av,eB,hkl,bX];exact hown6)
      have hN6:w6.heap[wo.heap.size]? =_:=(hk6.block _ hGB.lt (hGB.o1.ne hGB.node (by decide))).trans hGB.node
      have hP6:w6.heap[qb]? =_:=(hk6.block qb (ah.1 hPB).1 (oB.ne hPB (by decide))).trans hPB
      obtain⟨_,y1,_,_,yf,_,ly⟩:=cells3 hN6
      have z6:w6.cell? ⟨qb,1,none⟩=some (.string ps[k].2):=by simp[World.cell?,hP6]
      have l6:=(ah.1 hP6).1
      refine hK.out _ _ ⟨y1,ly,z6,l6⟩ ?_
      (try simp only[Act.put,ai,au,aj])
      repeat ((refine bL (v:= ?_) rfl rfl (fun _ _ _ h=>h) rfl (fun W hW=> ?_) ?_);rotate_left;(focus ((try dsimp only at hW);obtain⟨q0,q1,q2,q3⟩:=hW;first|(go_simp;first|done|with_reducible rfl)));(try simp only[Act.put,ai,au,aj]))
      refine jf rfl rfl rfl (by kernel_rfl) ?_;intro K hK;go_simp
      refine hK.out _ _ ?_
      refine bO ?_
      rw[hkn] at hG6
      clear y1 yf ly z6 l6 hN6 hP6 hGB oB hPB hsrc hsubB hown6 hk6 hb6 hd6 hszB
      go_wp2_with fail
      go_roundw
      case rel=>exact⟨k+1,_,_,by omega,by go_num,by rw[HNS.out,HKS.out,if_neg HK0.out];exact hG6⟩
      case measure=>simp[intOf];omega
    ·obtain rfl:k=ps.length:=by omega
     rw[dF] at hG
     have x2:¬(ps.length:Int)<(ps.length:Int):=by omega
     have hRo:kT ⟨[],(ps.drop 1).map (·.2),ps.map (·.1)⟩ ⟨#[]⟩ (kK ⟨#[]⟩ ps):=by
      constructor
      ·rw[CB]
       cases ps with
       |nil=>simp at h1
       |cons p r=>simp[kS]
      ·rw[Cz]
     have hm2:m=2:=HP1.out.single.resolve_right (by omega)
     subst hm2
     have ok:Nd.Ok ⟨[],(ps.drop 1).map (·.2),ps.map (·.1)⟩:=hRo.ok rfl (fun k hk=>by
      obtain⟨p,hp,rfl⟩:=d9.1 hk
      exact HP1.out.key p (bU hp)) (dm.EF (fun _ _ _ _ _ ht=>ht.top) HP1.out.row) (by rw[wS];omega)
     have hkne:(ps.map (·.1))≠[]:=fun e=>by rw[List.map_eq_nil_iff.1 e] at h1;simp at h1
     have rm2:=AO ok hRo
     have rm1:=fun hR=>rq (Lr:=σ1.most) ok hRo HP1.out.row (HC1.out.room hR) hcs
     have HRML:=af (show ∀Lr,kL Lr σ bs n->σ1.sz+Nd.room ⟨[],(ps.drop 1).map (·.2),ps.map (·.1)⟩<=Lr from fun Lr hR=>rq ok hRo HP1.out.row (HC1.out.Aj hR) hcs)
     have hnode:fD wr S1 wo.heap.size ⟨[],(ps.drop 1).map (·.2),ps.map (·.1)⟩:=⟨fun hs=>absurd (hI1.sub _ hs) (di _),_,_,_,hG.node,bn.nil _ _ _,hG.o1.cZ,hG.o2.cZ⟩
     have hIr:=hI1.below hG.qI
     have htr:=ht1.1.step ht1.2 (Step.of_below (S:=S1) hG.qI)
     obtain⟨_,_,e,d1,d2⟩:=hv1.at rfl 0 (by omega)
     cases e
     rw[xX,iW] at d2
     have d2':=(hG.qI.cell (p:=⟨pb,po+1,none⟩) (aH wo _ d2)).trans d2
     have hpb:=aH wr _ d2'
     have hlp:(0:Int)<(ps.length:Int):=by omega
     have hlp2:0<ps.length:=by omega
     have hRM:=af rm1
     have HRO:=af hRo
     have hroom2:=af rm2
     clear rm1 rm2 hRo d1 d2
     go_wp2_with (first
      |(go_at_call 206;go_must ((refine(pE t mp root err _ σ1 S1 wo.heap.size ⟨[],(ps.drop 1).map (·.2),ps.map (·.1)⟩ _ wr hIr htr.1 htr.2 hnode ok (gB _)).mono ?_);rintro e w6 (⟨v6,ps6,zs,σ3,S3,rfl,p2,p3,p4,p5,p6⟩|⟨hno,rfl,τ,Sτ,g1,g2,g3,g4⟩)<;>refine Stop.of ?_)))
     rotate_left
     ·refine Stop.on ?_
      exact⟨rfl,.inr ⟨fun hR=>absurd (hRM.out hR) (fE.2 hno),rfl,τ,Sτ,g1,(hs1.trans (Step.of_below hG.qI)).trans g2,g3.trans HC1.out.H,g4.trans HC1.out.most⟩⟩
     refine Stop.on ?_
     go_wp2_with fail
     obtain⟨m3,bs3,q1,q2⟩:=zN p3 (lo:=⟨#[]⟩) (hi:=none) (h:=h+1) (cs:=cs) (bs:=bs1) ok ⟨hkne,by rw[HRO.out.row];exact HP1.out.row⟩ p4 hI1.KZ (HC1.out.nd hn) (dm.has (fun _ _ _ _ _ ht=>ht.has) HP1.out.row) (HP1.out.key _ (bG hlp2)) (by have:=hroom2.out;simp at this ⊢;omega)
     have hl6:ps6.length<ps.length:=by
      have e1:=p3.room ok
      have e2:=p4.length.1
      simp[Nd.room] at e1
      have:¬ps=[]:=fun e=>by rw[e] at h1;simp at h1
      rw[if_neg this] at e1
      omega
     have hl7:ps6.length<=1\/2*ps6.length<=ps.length:=by
      have e1:=p3.room ok
      have e2:=p4.length.1
      simp[Nd.room] at e1
      have:¬ps=[]:=fun e=>by rw[e] at h1;simp at h1
      rw[if_neg this] at e1
      omega
     go_roundw
     case rel=>exact⟨ps6,h+1,m3,σ3,S3,bs3,p2.cZ,q1,HC1.out.trans q2,⟨fun Lr hR t=>wQ p3 ok p4 (HRML.out Lr hR) (HPK.out.1 Lr hR t),by obtain⟨W,w1,w2⟩:=HPK.out.2;exact⟨W+ps6.length,w1.trans p4.RS,by omega⟩⟩,p5,(hs1.trans (Step.of_below hG.qI)).trans p6⟩
     case measure=>
      obtain⟨ao6,c6,rfl,_⟩:=bn.form p2.cZ
      exact hl6
  ·have x1:¬(1:Int)<(ps.length:Int):=by omega
   by_cases h0:ps.length=0
   ·have x0:(ps.length:Int)=0:=by omega
    have hp0:ps=[]:=aR h0
    subst hp0
    obtain⟨hc0,hb0⟩:=HP1.out.row
    have HC0:=af hc0
    have HB0:=af hb0
    clear hc0 hb0 h0 x0
    go_wp2_with fail
    go_ret
    exact .inl ⟨0,σ1,S1,bs1,rfl,.inl ⟨rfl,HC0.out,HB0.out⟩,HC1.out,⟨HPK.out.1,by obtain⟨W,w1,w2⟩:=HPK.out.2;exact w1.more (by omega)⟩,hI1,hs1⟩
   ·have h11:ps.length=1:=by omega
    obtain⟨p,hp⟩:∃p,ps=[p]:=List.length_eq_one_iff.1 h11
    subst hp
    obtain⟨c1,c2,y1,y2,hT,⟨hc2,hy2⟩,hc,hy⟩:=HP1.out.row
    subst hc2 hy2
    rw[dW] at hc hy
    subst hc hy
    have HT:=af hT;clear hT
    obtain⟨pb,po,e,d1,d2⟩:=hv1.at rfl 0 (gB 0)
    subst e
    have d1':wo.cell? ⟨pb,po,none⟩=some (.int .i64 p.1):=d1
    have hpl:pb<wo.heap.size:=aH wo _ d1
    clear d1 d2 h0 h11 h1
    go_wp2_with fail
    go_loopw [8,9,10,11] (fun x y _ _ wx=>∃(b:Int) (d h m:Nat) (σ2:bY) (S2:Nat->Prop) (bs2:List Int),x= .int .i64 b/\y= .int .i64 d/\iw σ2 h m ⟨#[]⟩ none b cs bs2/\(m=2\/d=0)/\d<=1/\lS σ σ2 bs bs2/\(Pk σ σ2 bs n/\zG σ σ2 q)/\Inv σ2 S2 mp wx/\Step S S2 w wx) (fun _ y _ _ _=>2 - (intOf y).toNat)
    case atStart=>exact⟨p.1,0,h,m,σ1,S1,_,rfl,rfl,HT.out,.inr rfl,by omega,HC1.out,⟨HPK.out.1,by obtain⟨W,w1,w2⟩:=HPK.out.2;exact w1.more (by omega)⟩,hI1,hs1⟩
    case round=>
     obtain⟨wo2,rfl⟩:∃x:World,x=wr:=⟨_,rfl⟩
     obtain⟨b,d,h2,m2,σ2,S2,bs2,rfl,rfl,hT2,hmd,hd1,hC2,hK2,hI2,hs2⟩:=hrel
     have HPK2:=af hK2;clear hK2
     obtain⟨nd,bs3,hB,ok,hNr,hKd,hne,rfl⟩:=qX.1 hT2
     have HT2:=af hT2;clear hT2
     have HC2:=af hC2;clear hC2
     have ht2:=ht.step hst hs2
     have hd40:(d:Int)<=40:=by omega
     have hnk:=hB.fits.nk
     by_cases hk1:nd.kids.length=1
     ·obtain⟨h3,rfl⟩:∃h3,h2=h3+1:=by
       cases h2 with
       |zero=>have:=hNr.1;rw[this] at hk1;simp at hk1
       |succ h3=>exact⟨h3,rfl⟩
      have hd0:d=0:=hmd.resolve_left (fun e=>by
       have:=hKd.resolve_left (by omega)
       omega)
      have x1:(nd.kids.length:Int)=1:=by omega
      have HK1:=af hk1
      have HD0:=af hd0
      have hrow:=rowOf ok hNr.1 ⟨#[]⟩
      obtain⟨b0,l,e,e2,e3⟩:=o8 ok.kk hNr.1 ⟨#[]⟩
      have hl0:l=[]:=by
       have:=congrArg List.length e3
       simp at this
       exact aR (by omega)
      subst hl0
      have hr2:=hNr.2
      unfold Nd.row at hr2
      rw[e] at hr2
      obtain⟨c1,c2,y1,y2,hT3,⟨hc2,hy2⟩,hc,hy⟩:=hr2
      subst hc2 hy2
      rw[dW] at hc hy
      subst hc hy
      have E3:=af e3
      clear e e2 e3 hk1 hd0 hrow
      have cg:=Bn hI2 hB.has
      have hnd3:=HC2.out.nd hn
      have cl:=cg.left (us:=[b]) (bs:=[]) (rs:=bs3) hnd3 (fun x hx=>HT2.out.has x (aU _ hx))
      have hT4:=hT3.keep cg (fun y hy e=>(nO.1 hnd3).1 (by rw[<-bK.1 e];exact hy))
      have hm:∀w,(method 607 123 mp.agg "Free").run Tryz.prog w= .ok (382,.pointer (some ⟨mp.mp,0,none⟩)) w:=fun _=>by kernel_rfl
      go_wp2_with (first
       |(go_at_call 149;go_must ((refine(l7 t mp root err b d σ2 S2 nd _ hI2 ht2.1 hB hd40).mono ?_);rintro e w1 ⟨nb,rfl,hn1,hb1⟩))
       |(go_at_call 207;go_must ((refine(ny _).mono ?_);rintro e w2 ⟨rfl,hw⟩;subst w2;refine Stop.of ?_)))
      refine Stop.on ?_
      obtain⟨_,v0,v1,v2,bN,_,_,N2⟩:=hn1.jl
      obtain⟨ao2,cp2,rfl,_,_,_,_⟩:=bn.form N2
      obtain⟨_,_,y2,_,_,_,ly⟩:=cells3 bN
      obtain⟨tc0,_,_,_,_,_,tl0⟩:=cells3 ((hb1.block t (ah.1 ht2.1).1).trans ht2.1)
      go_wp2_with (first
       |(go_at_call 382;go_must ((refine(qN mp σ2 S2 w1 b (hI2.below hb1) hB.lo hB.has).mono ?_);rintro e w3 ⟨rfl,hI3,hs3⟩;refine Stop.of ?_)))
      refine Stop.on ?_
      obtain⟨_,v0',v1',v2',bN3,_,_,N23⟩:=hn1.jl.step hs3
      obtain⟨ao3,cp3,rfl,_,_,_,_⟩:=bn.form N23
      obtain⟨pb2,po2,rfl,d2⟩:=N23.at rfl 0 (by rw[HK1.out];exact gB 0)
      have hk0:nd.kids[0]'(by rw[HK1.out];exact gB 0)=b0:=by
       have:=E3.out
       simp at this
       simp[this]
      rw[hk0,iW] at d2
      obtain⟨_,_,y2,_,_,_,ly⟩:=cells3 bN3
      have hp2:=aH w3 _ d2
      go_wp2_with (first
       |(go_at_call 207;go_must ((refine(ny _).mono ?_);rintro e w2 ⟨rfl,hw⟩;subst w2)))
      go_roundw
      case rel=>exact⟨b0,d+1,h3,2,σ2.gone b,S2,bs3,rfl,by go_num,hT4,.inl rfl,by have:=HD0.out;omega,HC2.out.trans cl,⟨HPK2.out.1,by have:=HPK2.out.2.trans (tC σ2 b);rwa [iW] at this⟩,hI3,(hs2.trans (Step.of_below hb1)).trans hs3⟩
      case measure=>simp[intOf];omega
     ·have x1:¬(nd.kids.length:Int)=1:=by omega
      have x1':((nd.kids.length:Int)==1)=false:=by rw[dZ];omega
      have HK1:=af hk1;clear hk1
      go_wp2_with (first
       |(go_at_call 149;go_must ((refine(l7 t mp root err b d σ2 S2 nd _ hI2 ht2.1 hB hd40).mono ?_);rintro e w1 ⟨nb,rfl,hn1,hb1⟩))
       |(go_at_call 207;go_must ((refine(ny _).mono ?_);rintro e w2 ⟨rfl,hw⟩;subst w2;refine Stop.of ?_)))
      refine Stop.on ?_
      obtain⟨_,v0,v1,v2,bN,_,_,N2⟩:=hn1.jl
      obtain⟨ao2,cp2,rfl,_,_,_,_⟩:=bn.form N2
      obtain⟨_,_,y2,_,_,_,ly⟩:=cells3 bN
      go_wp2_with fail
      go_ret
      refine .inl ⟨b,σ2,S2,_,rfl,.inr ⟨h2,qX.2 ⟨nd,bs3,hB,ok,hNr,?_,hne,rfl⟩⟩,HC2.out,HPK2.out,hI2.below hb1,hs2.trans (Step.of_below hb1)⟩
      cases h2 with
      |zero=>exact .inl rfl
      |succ h2=>exact .inr (by have:=bS.2 hNr.1;have:=HK1.out;omega)
theorem Ic (c:List Pr)(key:ByteArray)(h:∀p∈c,lt key p.1=true):dw c key=0:=sQ [] c key h
theorem MH {σ:bY}{key:ByteArray}{h:Nat}{hi:Option ByteArray}(hW:∀k z b c x,iw σ h 2 k z b c x->uf σ key h b (c.drop (dw c key))):∀{l:List (ByteArray×Int)} {cs:List Pr} {bs:List Int},dm (iw σ h 2) hi l cs bs->(∀p∈cs,lt key p.1=true)->
  ∃Ls:List (List Pr),Ls.length=(l.map (·.2)).length/\(∀i (h1:i<(l.map (·.2)).length) (h2:i<Ls.length),uf σ key h (l.map (·.2))[i] Ls[i])/\Ls.flatten=cs
 |[],_,_,⟨e,_⟩,_=>⟨[],rfl,fun i h1=>absurd h1 (by simp),e.symm⟩
 |(k,b)::l,_,_,hr,hp=>by
  obtain⟨c,cs',x,bs',h1,h2,rfl,rfl⟩:=hr
  obtain⟨Ls,q1,q2,q3⟩:=MH hW h2 (fun p hp'=>hp p (eu _ hp'))
  have hw:=hW _ _ _ _ _ h1
  rw[Ic c key (fun p hp'=>hp p (dL _ hp')),eP] at hw
  refine⟨c::Ls,by simp at q1 ⊢;exact q1,fun i i1 i2=> ?_,by rw[Qq,q3]⟩
  cases i with
  |zero=>exact hw
  |succ i=>exact q2 i (by simpa using i1) (by simpa using i2)
theorem Jh {σ:bY}{key:ByteArray}{h:Nat}{hi:Option ByteArray}(hW:∀k z b c x,iw σ h 2 k z b c x->uf σ key h b (c.drop (dw c key))):∀{r:List (ByteArray×Int)} {k:ByteArray} {b:Int} {cs:List Pr} {bs:List Int},dm (iw σ h 2) hi ((k,b)::r) cs bs->
  ∃Ls:List (List Pr),Ls.length=((b::r.map (·.2)).drop (gT (r.map (·.1)) key)).length/\(∀i (h1:i<((b::r.map (·.2)).drop (gT (r.map (·.1)) key)).length) (h2:i<Ls.length),uf σ key h ((b::r.map (·.2)).drop (gT (r.map (·.1)) key))[i] Ls[i])/\Ls.flatten=cs.drop (dw cs key)
 |[],k,b,_,_,hr=>by
  obtain⟨c,cs',x,bs',h1,⟨rfl,rfl⟩,rfl,rfl⟩:=hr
  refine⟨[c.drop (dw c key)],by simp[gT],fun i i1 i2=> ?_,by simp⟩
  have:i=0:=by simp at i2;exact i2
  subst this
  exact hW _ _ _ _ _ h1
 |(k1,b1)::r,k,b,_,_,hr=>by
  obtain⟨c,cs',x,bs',h1,h2,rfl,rfl⟩:=hr
  have hT:∀k z b c x,iw σ h 2 k z b c x->Content k z c:=fun _ _ _ _ _ ht=>ht.content
  cases hlt:lt key k1 with
  |true=>
   have hc:=dm.content hT h2
   have hall:∀p∈cs',lt key p.1=true:=fun p hp=>AU hlt (hc.within p hp).1
   obtain⟨Ls,q1,q2,q3⟩:=MH hW h2 hall
   have e:gT (((k1,b1)::r).map (·.1)) key=0:=by simp[gT,hlt]
   simp only[e,eP]
   refine⟨c.drop (dw c key)::Ls,by simp at q1 ⊢;exact q1,fun i i1 i2=> ?_,?_⟩
   ·cases i with
    |zero=>exact hW _ _ _ _ _ h1
    |succ i=>exact q2 i (by simpa using i1) (by simpa using i2)
   ·rw[Qq,q3,sQ c cs' key hall,fH (qK _ _)]
  |false=>
   obtain⟨Ls,q1,q2,q3⟩:=Jh hW h2
   have e:gT (((k1,b1)::r).map (·.1)) key=gT (r.map (·.1)) key+1:=by simp[gT,hlt]
   have hall:∀p∈c,lt p.1 key=true:=fun p hp=>AU ((hT _ _ _ _ _ h1).within p hp|>.2 k1 rfl) hlt
   simp only[e,eZ]
   refine⟨Ls,by simpa using q1,fun i i1 i2=>q2 i (by simpa using i1) i2,?_⟩
   rw[q3,Ay c cs' key hall,o7,eH (l:=c) (by omega),dH,fM]
theorem iw.walk {σ:bY}{key:ByteArray}:∀{h m:Nat} {lo:ByteArray} {hi:Option ByteArray} {b:Int} {cs:List Pr} {bs:List Int},iw σ h m lo hi b cs bs->uf σ key h b (cs.drop (dw cs key))
 |0,_,_,_,_,_,_,⟨nd,h1,_,h3,h4,_,h6,_,_⟩=>by
  subst h4
  exact .leaf h1 h3 h6
 |h+1,m,lo,hi,b,cs,bs,⟨nd,bs',h1,h2,h3,_,_,h6⟩=>by
  have hkeys:=iw.rising h2 h3 h6
  obtain⟨b0,l,e,e2,e3⟩:=o8 h2.kk h3 lo
  unfold Nd.row at h6
  rw[e] at h6
  obtain⟨Ls,q1,q2,q3⟩:=Jh (key:=key) (fun _ _ _ _ _ ht=>iw.walk ht) h6
  have e4:(l.map (·.1))=nd.keys:=e2
  have e5:b0::l.map (·.2)=nd.kids:=e3.symm
  simp only[e4,e5] at q1 q2
  rw[<-q3]
  exact .inner Ls h1 h3 hkeys q1 q2
theorem dm.pow {T:ByteArray->Option ByteArray->Int->List Pr->List Int->Prop}{p:Nat}(hT:∀k z b c x,T k z b c x->p<=c.length){hi:Option ByteArray}:∀{l:List (ByteArray×Int)} {cs:List Pr} {bs:List Int},dm T hi l cs bs->l.length*p<=cs.length
 |[],_,_,_=>by simp
 |(k,b)::l,_,_,h=>by
  obtain⟨c,cs',x,bs',h1,h2,rfl,rfl⟩:=h
  have a:=hT _ _ _ _ _ h1
  have b:=dm.pow hT h2
  simp only[av,aY,dX,jZ];omega
theorem iw.pow {σ:bY}:∀{h:Nat} {lo:ByteArray} {hi:Option ByteArray} {b:Int} {cs:List Pr} {bs:List Int},iw σ h 2 lo hi b cs bs->2^h<=cs.length
 |0,_,_,_,_,_,⟨_,_,_,_,_,h5,_,_,_⟩=>by
  rw[Nat.pow_zero]
  exact bS.2 h5
 |h+1,_,_,_,_,_,⟨nd,bs',_,h2,h3,h4,h5,h6⟩=>by
  have:=dm.pow (fun _ _ _ _ _ ht=>iw.pow ht) h6
  rw[nd.lD h2 h3] at this
  have:2*2^h<=nd.kids.length*2^h:=bQ _ h4
  rw[Qp];omega
theorem iw.low {σ:bY}{h:Nat}{lo:ByteArray}{hi:Option ByteArray}{b:Int}{cs:List Pr}{bs:List Int}(ht:iw σ h 2 lo hi b cs bs)(hl:cs.length<=4095):h<=11:=by
 have h1:=ht.pow
 rcases iJ 11 h with h2|h2
 ·have:2^12<=2^h:=JQ (by omega) h2
  omega
 ·exact h2
theorem Bu.has {σ:bY}{root:Int}{cs:List Pr}{bs:List Int}(h:Bu σ root cs bs):∀x∈bs,σ.hasB x=true:=by
 rcases h with ⟨_,_,rfl⟩|⟨h,ht⟩
 ·simp
 ·exact ht.has
theorem Bu.count {σ:bY}{root:Int}{cs:List Pr}{bs:List Int}(h:Bu σ root cs bs):bs.length<=2*cs.length:=by
 rcases h with ⟨_,_,rfl⟩|⟨h,ht⟩
 ·simp
 ·exact ht.Ro
theorem Bu.keep {σ σ':bY}{us bs':List Int}(hc:lS σ σ' us bs'){root:Int}{cs:List Pr}{bs:List Int}(h:Bu σ root cs bs)(hd:∀x∈bs,x∉us\/False):Bu σ' root cs bs:=by
 rcases h with h|⟨h,ht⟩
 ·exact .inl h
 ·exact .inr ⟨h,ht.move fun x hx=>hc.frame x (ht.has x hx) (hd x hx)⟩
theorem Bu.look {σ:bY}{root:Int}{cs:List Pr}{bs:List Int}(h:Bu σ root cs bs)(hl:cs.length<=4095)(key:ByteArray):∃n,n<=40/\Look σ key n root (dG cs key):=by
 rcases h with ⟨rfl,rfl,_⟩|⟨h,ht⟩
 ·exact⟨0,by omega,.nil⟩
 ·exact⟨h,by have:=ht.low hl;omega,ht.look ⟨by cases hq:lt key ⟨#[]⟩ with|false=>rfl|true=>(simp[lt,toList_eq] at hq;cases hb:key.data.toList<;>simp[hb,Op.bytesLess] at hq),fun y hy=>by cases hy⟩⟩
theorem Fz (k:ByteArray):lt k ⟨#[]⟩=false:=by
 cases hq:lt k ⟨#[]⟩ with
 |false=>rfl
 |true=>(simp[lt,toList_eq] at hq;cases hb:k.data.toList<;>simp[hb,Op.bytesLess] at hq)
def I8 (σ:bY)(bs:List Int)(cs:List Pr)(n:Nat)(σ':bY)(b:Int):Prop:=∃bs',Bu σ' b cs bs'/\lS σ σ' bs bs'/\Pk σ σ' bs n/\(cs.length<=299->zG σ σ' 65)
theorem OD {σ:bY}{root:Int}{cs:List Pr}{bs:List Int}(hT:Bu σ root cs bs)(hn:bs.Nodup)(hl:cs.length<=4090)(t:Nat)(mp:VS)(S:Nat->Prop)(key:ByteArray)(hks:key.size<=128)(g:Nat)(cb:Array Value)(F:List Pr->List Pr)(vs:List (Nat×ByteArray))(hent:∀args w,(callFunc g args).run Tryz.prog w= .ok (.enter g args) w)(hf:Dj g cb F vs)(hF:Ll F key)
  (W:World) (h:Inv σ S mp W) (ht:cK W t mp root 0) (hst:¬S t) (hbx:vG W S vs):EG t mp root key g cb σ S (¬Room σ bs (cs.length+1)) (I8 σ bs (F cs) (cs.length+1)) W:=by
 have hFl:=hF.len cs
 rcases hT with ⟨rfl,rfl,rfl⟩|⟨h',hT⟩
 ·have ok:Nd.Ok ⟨F [],[],[]⟩:=⟨fun p hp=>by
   rcases hF.mem _ BI p hp with h|h
   ·cases h
   ·exact h.2,by simp,by simp,rfl,by simp,by simp at hFl;show (F []).length<=2000;omega,by simp⟩
  simp only[bI] at hFl
  refine(KQ t mp 0 0 0 σ S key ⟨#[]⟩ g cb F vs hent hf W h ht hst hbx ok).mono ?_
  rintro e w1 (⟨v,ps,zs,σ',S',rfl,p2,p3,p4,p5,p6⟩|⟨hno,hg⟩)
  rotate_left
  ·refine .inr ⟨fun hR=> ?_,hg⟩
   unfold Room at hR;simp[nh] at hR;unfold Nd.room at hno;simp only[iI] at hno;omega
  obtain⟨m,bs',q1,q2⟩:=zN p3 (lo:=⟨#[]⟩) (hi:=none) (h:=0) (cs:=F []) (bs:=[]) ok ⟨rfl,rfl,hF.rise _ BI,fun p hp=>⟨Fz _,fun y hy=>by cases hy⟩,rfl⟩ p4 h.KZ oL (by simp) hks (by unfold Nd.room;simp only[iI];omega)
  refine .inl ⟨v,S',rfl,p6,?_⟩
  have ht1:=ht.step hst p6
  refine(FU t mp 0 0 σ' v ps 0 m (F []) bs' _ S' w1 p5 ht1.1 ht1.2 p2.cZ q1 (q2.nd oL) (by simpa using hFl) (ps.length - 1) (ax _)).mono ?_
  rintro e2 w2 (⟨b,σ2,S2,bs2,rfl,r1,r2,⟨rk,rt⟩,r3,r4⟩|⟨hno,hg⟩)
  rotate_left
  ·exact .inr ⟨fun hR=>hno (q2.room hR),hg.after (Step.refl _ _) q2.H q2.most⟩
  exact .inl ⟨b,σ2,S2,rfl,r3,r4,bs2,r1,q2.trans r2,Pk.trans (fun L r t=>wQ p3 ok p4 (by unfold kL at r;simp[nh] at r;unfold Nd.room;simp only[iI];omega) t) q2 rk,fun _=>(p4.RS.trans rt).more (by
   have e1:=p4.length.1
   have e2:=p3.small (by
    have f1:=hF.size []
    have f2:dO []=0:=rfl
    have f3:Nd.size ⟨F [],[],[]⟩=2+dO (F []):=by simp[Nd.size,dI]
    omega)
   omega)⟩
 ·have hh:=hT.low (by omega)
  refine(FW t mp root 0 key g cb F vs hent hf hF hks h' σ S root 0 ⟨#[]⟩ ⟨#[]⟩ none cs bs W h ht hst hbx hT hn ⟨Fz _,fun y hy=>by cases hy⟩ (by omega) (by omega) (bf _)).mono ?_
  rintro e w1 (⟨v,ps,σ',S',bs',m,rfl,p2,q1,q2,⟨qk,Wn,qt,qb⟩,p5,p6⟩|hg)
  rotate_left
  ·exact .inr hg
  refine .inl ⟨v,S',rfl,p6,?_⟩
  have ht1:=ht.step hst p6
  refine(FU t mp root 0 σ' v ps h' m (F cs) bs' _ S' w1 p5 ht1.1 ht1.2 p2.cZ q1 (q2.nd hn) hFl (ps.length - 1) (ax _)).mono ?_
  rintro e2 w2 (⟨b,σ2,S2,bs2,rfl,r1,r2,⟨rk,rt⟩,r3,r4⟩|⟨hno,hg⟩)
  rotate_left
  ·exact .inr ⟨fun hR=>hno (q2.room hR),hg.after (Step.refl _ _) q2.H q2.most⟩
  exact .inl ⟨b,σ2,S2,rfl,r3,r4,bs2,r1,q2.trans r2,qk.trans q2 rk,fun hc=>(qt.trans rt).more (Qw qb hc)⟩
def Rz (key value:ByteArray):Prop:=(1<=key.size/\key.size<=128)/\value.size<=64
theorem Kn (kb vb:Nat)(key value:ByteArray):Dj 166 #[.pointer (some ⟨kb,0,none⟩),.pointer (some ⟨vb,0,none⟩)] (fun ps=>jT ps key value) [(kb,key),(vb,value)]:=by
 intro nb B nd S w hsub hbx hn hr hl
 exact Kr kb vb nb B key value nd S w hsub (hbx (kb,key) (by simp)).1 (hbx (vb,value) (by simp)).1 (hbx (kb,key) (by simp)).2 (hbx (vb,value) (by simp)).2 hn hr hl
theorem Fa (t:Nat)(mp:VS)(root:Int)(σ:bY)(S:Nat->Prop)(cs:List Pr)(bs:List Int)(key value:ByteArray)(w:World)(h:Inv σ S mp w)(ht:cK w t mp root 0)(hst:¬S t)(hT:Bu σ root cs bs)(hn:bs.Nodup)(hl:cs.length<=4090)(hg:Rz key value):
  Calls Tryz.prog 116 #[.pointer (some ⟨t,0,none⟩),.string key,.string value] w fun e w'=>(e= .returned (.int .i64 0)/\Es t mp S (I8 σ bs (jT cs key value) (cs.length+1)) w w')\/(e= .returned (.int .i64 12)/\Bv t mp root σ S (¬Room σ bs (cs.length+1)) w w'):=by
 refine OU t mp root σ S _ _ key value w h.sub ht hst hg.1.1 hg.1.2 hg.2 fun W kb vb hbW hbx=> ?_
 exact OD hT hn hl t mp S key hg.1.2 _ _ (fun ps=>jT ps key value) [(kb,key),(vb,value)] (fun _ _=>by kernel_rfl) (Kn kb vb key value) (Nl key value hg.1.2 hg.2) W (h.below hbW) ((hbW.block t (ah.1 ht).1).trans ht) hst hbx
theorem Bb (t:Nat)(mp:VS)(root:Int)(σ:bY)(S:Nat->Prop)(cs:List Pr)(bs:List Int)(key:ByteArray)(w:World)(h:Inv σ S mp w)(ht:cK w t mp root 0)(hT:Bu σ root cs bs)(hl:cs.length<=4090)(hg:1<=key.size/\key.size<=128):
  Calls Tryz.prog 109 #[.pointer (some ⟨t,0,none⟩),.string key] w fun e w'=>e= .returned (.tuple #[.string ((dG cs key).getD ⟨#[]⟩),.bool (dG cs key).isSome,.int .i64 0])/\Below w.heap.size w w':=by
 obtain⟨n,hn40,hlk⟩:=hT.look (by omega) key
 exact Pf t mp root σ S key _ w h ht hg.1 hg.2 n hn40 hlk
theorem Kj (t:Nat)(mp:VS)(root:Int)(σ:bY)(S:Nat->Prop)(cs:List Pr)(bs:List Int)(key:ByteArray)(most:Int)(w:World)(h:Inv σ S mp w)(ht:cK w t mp root 0)(hT:Bu σ root cs bs)(hl:cs.length<=4090):
  Calls Tryz.prog 112 #[.pointer (some ⟨t,0,none⟩),.string key,.int .i64 most] w fun e w'=>∃v,e= .returned (.tuple #[v,.int .i64 0])/\aP w' S w.heap.size 79 2 v ((cs.drop (dw cs key)).take most.toNat).length (dN ((cs.drop (dw cs key)).take most.toNat))/\Below w.heap.size w w':=by
 by_cases hm:most<=0
 ·refine(Cu t mp root key most w ht (.inr hm)).mono ?_
  rintro e w' ⟨rfl,hb⟩
  refine⟨_,rfl,?_,hb⟩
  rw[show most.toNat=0 from by omega,gP]
  exact aP.nil _ _ _ _ _
 ·rcases hT with ⟨rfl,rfl,_⟩|⟨h',hT⟩
  ·refine(Cu t mp 0 key most w ht (.inl rfl)).mono ?_
   rintro e w' ⟨rfl,hb⟩
   refine⟨_,rfl,?_,hb⟩
   rw[List.drop_nil,List.take_nil]
   exact aP.nil _ _ _ _ _
  ·exact MB t mp root σ S key most _ h' w h ht (by have:=hT.top;omega) (by omega) (by have:=hT.low (by omega);omega) hT.walk (by simp only[aJ];omega)
def Fo (σ:bY)(h:Nat):List Int->List Int->Prop
 |[],bs=>bs=[]
 |b::L,bs=>∃lo hi c x bs',iw σ h 2 lo hi b c x/\Fo σ h L bs'/\bs=x++bs'
inductive BL (σ:bY):Nat->List Int->List Int->Prop
 |done:BL σ 0 [] []
 |step {n:Nat} {L:List Int} {nds:List Nd} {T:List Int}:L≠[]->nds.length=L.length->(∀i (h1:i<L.length) (h2:i<nds.length),BK σ L[i] nds[i])->BL σ n (nds.flatMap (·.kids)) T->BL σ (n+1) L (L++T)
def wI (T:List Int):List Int:=T.mergeSort fun x y=>decide (x<=y)
theorem wH (T:List Int):(wI T).length=T.length:=List.length_mergeSort _
theorem EQ {T:List Int}(x:Int):x∈wI T↔x∈T:=(xU T _).mem_iff
theorem Ms (v:Value)(T:List Int)(w:World)(S:Nat->Prop)(B:Nat)(h:aP w S B 3 1 v T.length (T.map (.int .i64)))(hl:T.length<=100000)(hB:B<=w.heap.size):
  Calls Tryz.prog 136 #[v] w fun e w'=>e= .returned (.tuple #[])/\aP w' S B 3 1 v (wI T).length ((wI T).map (.int .i64))/\Below B w w':=by
 obtain⟨⟨hxl,hr⟩,hn⟩:=h
 rcases hr with ⟨rfl,h0⟩|⟨g,cap,cur,rfl,hb,hg,h1,h2,h3,h4⟩
 ·refine(Any.slices_Sort_int_none wJ none 0 w).mono ?_
  rintro e w' ⟨rfl,rfl⟩
  have hT:T=[]:=aR h0
  subst hT
  refine⟨rfl,?_,aO _ _⟩
  have:wI []=[]:=aR (wH [])
  rw[this]
  exact aP.nil _ _ _ _ _
 ·have hH:Go.Sort.Holds (Value.int .i64) w g 0 T.toArray:=holds_of_blockI hg (by rw[<-h4,aT])
  refine(Any.slices_Sort_int wJ g 0 cap T w hH (ah.1 hg).1 (by omega)).mono ?_
  rintro e w' ⟨rfl,n,os,rfl⟩
  have hgb:=grownBy_sortedI (w:=w) (g:=g) (n:=n) (os:=os) (wI T).toArray
  refine⟨rfl,⟨?_,hn⟩,⟨hgb.os,hgb.tape,hgb.output,hgb.size,fun k hk=>hgb.block k (ak hk hB) (fun e=>by have:=wh e;omega)⟩⟩
  have:=ownsRow_sortedI (w:=w) (base:=B) (n:=n) (os:=os) (ts:=wI T) (wH T) hb hg h1 h2 h3
  rw[wH]
  exact this
def wM (r:Nat×Nat):List Nat:=(List.range r.2).map (r.1+ ·)
def eU (rs:List (Nat×Nat)):List Nat:=rs.flatMap wM
theorem Ht (r:Nat×Nat)(rs:List (Nat×Nat)):eU (r::rs)=wM r++eU rs:=rfl
theorem mZ (a b:List (Nat×Nat)):eU (a++b)=eU a++eU b:=by simp[eU]
theorem sJ (r:Nat×Nat):(wM r).length=r.2:=by simp[wM]
def yP (rs:List (Nat×Nat))(b:Nat):List (Nat×Nat):=
 match rs.getLast? with
 |some r=>if r.1+r.2=b/\r.2<255 then rs.dropLast++[(r.1,r.2+1)] else rs++[(b,1)]
 |none=>[(b,1)]
theorem Cv (f n:Nat):wM (f,n+1)=wM (f,n)++[f+n]:=by simp[wM,List.range_succ]
theorem Hu (rs:List (Nat×Nat))(b:Nat):eU (yP rs b)=eU rs++[b]:=by
 unfold yP
 split
 ·rename_i r hr
  obtain⟨l,rfl⟩:=List.getLast?_eq_some_iff.1 hr
  split
  ·rename_i h
   rw[List.dropLast_concat,mZ,mZ,aL]
   congr 1
   obtain⟨f,n⟩:=r
   show wM (f,n+1)++[]=(wM (f,n)++[])++[b]
   have h1:f+n=b:=h.1
   rw[Cv,h1];simp
  ·rw[mZ];simp[eU,wM]
 ·rename_i hr
  rw[List.getLast?_eq_none_iff] at hr
  subst hr
  simp[eU,wM]
def pW (rs:List (Nat×Nat)):Prop:=∀r∈rs,1<=r.2/\r.2<=255/\r.1+r.2<=65536
theorem pW.add {rs:List (Nat×Nat)}(h:pW rs)(b:Nat)(hb:b<65536):pW (yP rs b):=by
 unfold yP
 split
 ·rename_i r hr
  obtain⟨l,rfl⟩:=List.getLast?_eq_some_iff.1 hr
  split
  ·rename_i hc
   rw[List.dropLast_concat]
   intro q hq
   rcases bR.1 hq with hq|hq
   ·exact h q (dL _ hq)
   ·have:=h r (by simp)
    rw[bK.1 hq]
    show 1<=r.2+1/\r.2+1<=255/\r.1+(r.2+1)<=65536
    omega
  ·intro q hq
   rcases bR.1 hq with hq|hq
   ·exact h q hq
   ·rw[bK.1 hq]
    show 1<=1/\1<=255/\b+1<=65536
    omega
 ·intro q hq
  rw[bK.1 hq]
  show 1<=1/\1<=255/\b+1<=65536
  omega
theorem pW.le {rs:List (Nat×Nat)}(h:pW rs):rs.length<=(eU rs).length:=by
 induction rs with
 |nil=>exact bf _
 |cons r rs ih=>
  have h1:=h r (aX ..)
  have:=ih (fun q hq=>h q (aU _ hq))
  rw[Ht,av,sJ,aY];omega
def qD (r:Nat×Nat):List UInt8:=[UInt8.ofNat r.1,UInt8.ofNat (r.1/256),UInt8.ofNat r.2]
def encR (size:Nat)(rs:List (Nat×Nat)):List UInt8:=[177,UInt8.ofNat size,UInt8.ofNat (size/256),UInt8.ofNat rs.length]++rs.flatMap qD
theorem zh (size:Nat)(rs:List (Nat×Nat)):(encR size rs).length=4+3*rs.length:=by
 have:(rs.flatMap qD).length=3*rs.length:=by
  induction rs with
  |nil=>rfl
  |cons r rs ih=>rw[kH,av,ih,aY];simp[qD];omega
 unfold encR
 rw[av,this]
 simp only[aY,bI]
def iA (rs:List (Nat×Nat)):List Value:=rs.flatMap fun r=>[.int .i64 r.1,.int .i64 r.2]
theorem rW (a b:List (Nat×Nat)):iA (a++b)=iA a++iA b:=by simp[iA]
theorem EX (rs:List (Nat×Nat))(i:Nat)(h:i<rs.length):(iA rs)[i*2]? =some (.int .i64 rs[i].1)/\(iA rs)[i*2+1]? =some (.int .i64 rs[i].2):=by
 induction rs generalizing i with
 |nil=>simp at h
 |cons r rs ih=>
  cases i with
  |zero=>exact⟨rfl,rfl⟩
  |succ i=>
   have:=ih i (by simpa using h)
   rw[show (i+1)*2=i*2+2 by omega]
   exact this
structure lQ (w:World)(S:Nat->Prop)(B lb size:Nat)(rs:List (Nat×Nat))(v:Value):Prop where
 obj:w.heap[lb]? =some (.cells #[.int .i64 size,v] 271 (0,0))
 own:aP w S B 319 2 v rs.length (iA rs)
 lo:B<=lb
 ns:¬S lb
theorem lQ.below {w w':World}{S:Nat->Prop}{B lb size:Nat}{rs:List (Nat×Nat)}{v:Value}(h:lQ w S B lb size rs v)(hb:Below w.heap.size w w'):lQ w' S B lb size rs v:=
 ⟨(hb.block lb (ah.1 h.obj).1).trans h.obj,h.own.below hb,h.lo,h.ns⟩
theorem lQ.step {w w':World}{S S':Nat->Prop}{B lb size:Nat}{rs:List (Nat×Nat)}{v:Value}(h:lQ w S B lb size rs v)(hs:Step S S' w w'):lQ w' S' B lb size rs v:=by
 have hl:=(ah.1 h.obj).1
 exact⟨(hs.1.block lb hl h.ns).trans h.obj,h.own.step hs,h.lo,fun x=>(hs.2 lb x).elim h.ns (fun y=>absurd hl (bE.2 y))⟩
theorem Hr (rs:List (Nat×Nat))(k:Nat)(h:k<rs.length):eU (rs.take (k+1))=eU (rs.take k)++wM rs[k]:=by
 rw[aQ h,mZ];simp[eU]
theorem vg (rs:List (Nat×Nat))(k:Nat):(eU (rs.take k)).length<=(eU rs).length:=by
 have:eU rs=eU (rs.take k)++eU (rs.drop k):=by rw[<-mZ,bJ]
 rw[this,av];omega
def ints (l:List Nat):List Value:=l.map fun (b:Nat)=>Value.int .i64 (b:Int)
theorem FM (a b:List Nat):ints (a++b)=ints a++ints b:=by simp[ints]
theorem Jz (l:List Nat):ints l=(l.map fun (b:Nat)=>(b:Int)).map (.int .i64):=by simp[ints]
def Bz (w:World)(S:Nat->Prop)(v:Value)(rs:List (Nat×Nat)):Prop:=bn w S 2 v rs.length (iA rs)
theorem Bz.at {w:World}{S:Nat->Prop}{v:Value}{rs:List (Nat×Nat)}{ao:Option Addr}{n c:Nat}(h:Bz w S v rs)(hv:v= .slice ao n c)(i:Nat)(hi:i<rs.length):
  ∃b o,ao=some ⟨b,o,none⟩/\w.cell? ⟨b,o+i*2,none⟩=some (.int .i64 rs[i].1)/\w.cell? ⟨b,o+i*2+1,none⟩=some (.int .i64 rs[i].2):=by
 obtain⟨h1,h2⟩:=EX rs i hi
 obtain⟨ao',c',rfl,_,_,_,_,_,h6⟩:=h
 cases hv
 obtain⟨b,o,rfl,hc⟩:=h6 (i*2) _ h1
 obtain⟨b',o',e,hc'⟩:=h6 (i*2+1) _ h2
 cases e
 exact⟨b,o,rfl,hc,by rw[lY];exact hc'⟩
theorem Ej (lb size:Nat)(rs:List (Nat×Nat))(lv:Value)(B:Nat)(S:Nat->Prop)(w:World)(h:lQ w S B lb size rs lv)(hS:∀g,S g->g<w.heap.size)(ok:pW rs)(hl:(eU rs).length<=1000):
  Calls Tryz.prog 250 #[.pointer (some ⟨lb,0,none⟩)] w fun e w'=>∃v,e= .returned v/\aP w' S w.heap.size 3 1 v (eU rs).length (ints (eU rs))/\Below w.heap.size w w':=by
 obtain⟨ao,c,rfl,n0,m0,_,_⟩:=bn.form h.own.cZ
 have hsl:=h.own.cZ
 have c0:w.cell? ⟨lb,0,none⟩=some (.int .i64 size):=by simp[World.cell?,h.obj]
 have c1:w.cell? ⟨lb,1,none⟩=some (.slice ao rs.length c):=by simp[World.cell?,h.obj]
 have hlt:lb<w.heap.size:=(ah.1 h.obj).1
 have hrl:=ok.le
 have HOK:=af ok
 have HSL:=af hsl
 clear h hsl ok
 go_enter Tryz.func250,Tryz.ntmps250
 go_wp2_with fail
 go_loopw [3,5,6,12,18] (fun o _ _ i _ wr=>∃k:Nat,k<=rs.length/\i= .int .i64 k/\aP wr S w.heap.size 3 1 o (eU (rs.take k)).length (ints (eU (rs.take k)))/\Below w.heap.size w wr) (fun _ _ _ i _ _=>rs.length - (intOf i).toNat)
 case atStart=>exact⟨0,by omega,rfl,by rw[gP];exact aP.nil _ _ _ _ _,aO _ _⟩
 case round=>
  obtain⟨k,hk,rfl,ho,hb⟩:=hrel
  have htl:=vg rs k
  obtain⟨F,hF⟩:∃F,Hid (F=eU (rs.take k)):=⟨_,af rfl⟩
  rw[<-hF.out] at ho htl
  obtain⟨oo,oc,rfl,_,_,_,_⟩:=bn.form ho.cZ
  by_cases hkl:k<rs.length
  ·have x1:(k:Int)<(rs.length:Int):=by omega
   obtain⟨pb,po,rfl,d1,d2⟩:=Bz.at HSL.out rfl k hkl
   have d1':=(hb.cell (p:=⟨pb,po+k*2,none⟩) (aH w _ d1)).trans d1
   have d2':=(hb.cell (p:=⟨pb,po+k*2+1,none⟩) (aH w _ d2)).trans d2
   have hpb:=aH wr _ d1'
   have HT:=af (Hr rs k hkl)
   have htl2:=vg rs (k+1)
   rw[HT.out,<-hF.out,av,sJ] at htl2
   have hrk:=HOK.out rs[k] (bG hkl)
   obtain⟨f,hf⟩:∃f,f=rs[k].1:=⟨_,rfl⟩
   obtain⟨n,hn⟩:∃n,n=rs[k].2:=⟨_,rfl⟩
   have hrun:rs[k]=(f,n):=by rw[hf,hn]
   rw[<-hf,<-hn] at hrk
   rw[<-hf] at d1'
   rw[<-hn] at d2' htl2
   have HRUN:=af hrun
   clear hf hn hrun d1 d2
   obtain⟨wo,rfl⟩:∃x:World,x=wr:=⟨_,rfl⟩
   have hbA:=aF wo (.cells #[.int .i64 f,.int .i64 n] 319)
   have hA:(wo.alloc (.cells #[.int .i64 f,.int .i64 n] 319)).heap[wo.heap.size]? =some (.cells #[.int .i64 f,.int .i64 n] 319 (0,0)):=aK wo _
   go_wp2_with fail
   generalize hwA:wo.alloc (.cells #[.int .i64 f,.int .i64 n] 319)=wA at hbA hA ⊢
   have hqn:wo.heap.size<wA.heap.size:=(ah.1 hA).1
   go_loopw [3,6,18] (fun o _ i wk=>∃j:Nat,j<=n/\i= .int .i64 j/\aP wk S w.heap.size 3 1 o (F.length+j) (ints (F++wM (f,j)))/\Below w.heap.size w wk/\wk.heap[wo.heap.size]? =some (.cells #[.int .i64 f,.int .i64 n] 319 (0,0))) (fun _ _ i _=>n - (intOf i).toNat)
   case atStart=>exact⟨0,by omega,rfl,by simpa [wM] using ho.below hbA,hb.trans (hbA.mono hb.size),hA⟩
   case round=>
    obtain⟨j,hj,rfl,hoj,hbj,hAj⟩:=hrel
    obtain⟨qo,qc,rfl,_,_,_,_⟩:=bn.form hoj.cZ
    have r0:wr.cell? ⟨wo.heap.size,0,none⟩=some (.int .i64 f):=by simp[World.cell?,hAj]
    have hAl:=(ah.1 hAj).1
    by_cases hjn:j<n
    ·have y1:(j:Int)<(n:Int):=by omega
     have HR:=af (Cv f j)
     have hS6:∀g,S g->g<wr.heap.size:=fun g hg=>ak (hS g hg) hbj.size
     have hbg:=hbj.size
     go_wp2_with (first
      |(at_builtin;go_must ((refine dB rfl (.tmp 21) (.tmp 26) 171 171 rfl S w.heap.size 3 1 8 _ aZ gU rfl (.slice qo (F.length+j) qc) _ _ rfl (hoj.below (aF _ _)) _ 1 _ rfl (gY [.int .i64 ((f:Int)+(j:Int))] _ 1 1 1 (by simp) aZ rfl ?_) (fq hS6 _) ?_ ?_ ?_ ?_);(focus (simp[Value.oneCell']));(focus (simp only[aV];omega));(focus (unfold maxLen;omega));(focus omega);intro ao1 c1 w1 hown1 hk1 hb1 hd1)))
     go_roundw
     case rel=>
      have hne:(Value.slice qo (F.length+j) qc).ownBlock≠some wo.heap.size:=hoj.ne hAj (by decide)
      refine⟨j+1,by omega,by go_num,?_,(hbj.trans (aF wr _|>.mono hbj.size)).trans hb1,?_⟩
      ·rw[HR.out,<-aL,FM]
       have e:ints [f+j]=[.int .i64 ((f:Int)+(j:Int))]:=by simp[ints]
       rw[e]
       exact hown1
      ·exact(hk1.block wo.heap.size (by simp only[aV];omega) hne).trans ((oG _ _ _ (by omega)).trans hAj)
     case measure=>simp[intOf];omega
    ·have hjn2:j=n:=by omega
     subst hjn2
     go_wp2_with fail
     go_roundw
     case rel=>exact⟨k+1,by omega,by go_num,by rw[HT.out,HRUN.out,<-hF.out,av,sJ];exact hoj,hbj⟩
     case measure=>simp[intOf];omega
  ·have:k=rs.length:=by omega
   subst this
   rw[dF] at hF
   have x1:¬(rs.length:Int)<(rs.length:Int):=by omega
   go_wp2_with fail
   go_ret
   exact⟨_,rfl,by rw[<-hF.out];exact ho,hb⟩
end Go.Proofs.YtbfjgkafmlbpcaaGreatDoor
