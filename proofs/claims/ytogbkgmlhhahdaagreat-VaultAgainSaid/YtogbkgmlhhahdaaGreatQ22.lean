/- parts -/
import Derived.Test.YtogbkgmlhhahdaaGreatQ11
import Derived.Test.YtogbkgmlhhahdaaGreatQ21
import Derived.Sort.OwnSortedInts
set_option maxRecDepth 100000
set_option maxHeartbeats 8000000
set_option linter.all false
namespace Go.Proofs.YtogbkgmlhhahdaaGreat
open Go.RowKit
theorem G9 {h k:Nat}(hk:1<=k)(hc:k*2^h<=299):h<9:=by
 apply fV
 intro hn
 have h1:2^9<=2^h:=xI (by omega) (by omega)
 have h2:1*2^h<=k*2^h:=bY _ hk
 omega
theorem Qw {h x k:Nat}(hx:x<=cX h)(hk:2<=k)(hc:(k - 1)*2^h<=299):
  24*(2+TT x (k+x))+cA (h+2)+cB (h+2)*TT x (k+x)<=cA (h+1)+cB (h+1)*x+3*((k - 1)*2^h)/\TT x (k+x)<=cX (h+1):=by
 have hh:=G9 (show 1<=k - 1 by omega) hc
 have hd:k - 1<299/2^h+1:=Nat.lt_succ_of_le ((Nat.le_div_iff_mul_le (Nat.two_pow_pos h)).2 hc)
 have cert:=Qv
 unfold SI at cert
 have c1:=ow.1 cert h (mE.2 hh)
 have c2:=ow.1 c1 x (mE.2 (by omega))
 have c3:=ow.1 c2 (k - 1) (mE.2 hd)
 rw[dN,eZ,eZ,show k - 1+1=k by omega] at c3
 exact⟨c3.1.resolve_right (by omega),c3.2.resolve_right (by omega)⟩
theorem TJ {kb:Nat}(h2:2<=kb)(h9:kb<=299):TT 1 (kb+1)<8/\Ve (TT 1 (kb+1))<=kb:=by
 have h:=vV (kb+1)
 have ht:TT 1 (kb+1)<=Lh (kb+1):=by unfold TT;omega
 have h8:TT 1 (kb+1)<8:=by omega
 refine⟨h8,?_⟩
 generalize TT 1 (kb+1)=j at ht h8 ⊢
 generalize Lh (kb+1)=l at h ht
 have hj:j=0\/j=1\/j=2\/j=3\/j=4\/j=5\/j=6\/j=7:=by omega
 rcases hj with rfl|rfl|rfl|rfl|rfl|rfl|rfl|rfl
 ·show 2<=kb;omega
 ·show 4<=kb;omega
 ·show 8<=kb;omega
 ·show 16<=kb;omega
 ·show 32<=kb;omega
 ·show 64<=kb;omega
 ·show 128<=kb;omega
 ·show 256<=kb;omega
theorem Qu {h k kb:Nat}(h2:2<=kb)(hk:2<=k)(hc:(k - 2)*2^(h+1)+kb*2^h<=299):
  24*(2+TT 1 (kb+1)+TT (TT 1 (kb+1)) (k+TT 1 (kb+1)))+cA (h+3)+cB (h+3)*TT (TT 1 (kb+1)) (k+TT 1 (kb+1))<=cA (h+2)+3*((k - 2)*2^(h+1)+kb*2^h)/\TT (TT 1 (kb+1)) (k+TT 1 (kb+1))<=cX (h+2):=by
 have hp:=Nat.two_pow_pos h
 have hkb:kb<=299:=by
  have:kb*1<=kb*2^h:=nY _ hp
  omega
 have hh:h<8:=by
  apply fV
  intro hn
  have h1:2^8<=2^h:=xI (by omega) (by omega)
  have h3:2*2^h<=kb*2^h:=bY _ h2
  omega
 obtain⟨j8,jb⟩:=TJ h2 hkb
 generalize TT 1 (kb+1)=j at j8 jb ⊢
 have hm:Ve j*2^h<=kb*2^h:=bY _ jb
 have hd:k - 2<299/2^(h+1)+1:=Nat.lt_succ_of_le ((Nat.le_div_iff_mul_le (Nat.two_pow_pos (h+1))).2 (by omega))
 have cert:=Qt
 unfold SH at cert
 have c1:=ow.1 cert h (mE.2 hh)
 have c2:=ow.1 c1 (k - 2) (mE.2 hd)
 have c3:=ow.1 c2 j (mE.2 j8)
 rw[sj,dN,eZ,eZ,eZ,show k - 2+2=k by omega] at c3
 obtain⟨a,b⟩:=c3.resolve_left (by omega)
 exact⟨by omega,b⟩
theorem OC {h W q c C k q' J:Nat}(hw:Wb h W q c)(hk:2<=k)(hC:c+(k - 1)*2^h<=C)(hq:q'<=1+TT (q - 1) (k+(q - 1)))(hJ:J<=1):Wb (h+1) (W+J+q') q' C:=by
 intro hC9
 obtain⟨e1,e2⟩:=hw (by omega)
 obtain⟨f1,f2⟩:=Qw e2 hk (by omega)
 have g1:q' - 1<=TT (q - 1) (k+(q - 1)):=by omega
 have g2:=nY (cB (h+2)) g1
 refine⟨?_,by omega⟩
 show 24*(W+J+q')+cA (h+2)+cB (h+2)*(q' - 1)<=_
 generalize cB (h+1)*(q - 1)=z1 at e1 f1
 generalize cB (h+2)*(q' - 1)=z2 at g2 ⊢
 generalize cB (h+2)*TT (q - 1) (k+(q - 1))=z3 at f1 g2
 generalize (k - 1)*2^h=z4 at hC f1
 omega
theorem Rc {h W c C k kb q' jj:Nat}(hw:Wb (h+1) W 1 c)(hk:2<=k)(hkb:2<=kb)(hC:c+((k - 2)*2^(h+1)+kb*2^h)<=C)(hj:jj<=1+TT 1 (kb+1))(hq:q'<=1+TT (jj - 1) (k+(jj - 1))):Wb (h+2) (W+jj+q') q' C:=by
 intro hC9
 obtain⟨e1,e2⟩:=hw (aK (aK (Nat.le_add_right _ _) hC) hC9)
 obtain⟨f1,f2⟩:=Qu hkb hk (aK (aK (Nat.le_add_left _ c) hC) hC9)
 have g1:q' - 1<=TT (TT 1 (kb+1)) (k+TT 1 (kb+1)):=by
  have:=Md (x:=jj - 1) (x':=TT 1 (kb+1)) (K:=k+(jj - 1)) (K':=k+TT 1 (kb+1)) (by omega) (by omega)
  omega
 have g2:=nY (cB (h+3)) g1
 refine⟨?_,by omega⟩
 show 24*(W+jj+q')+cA (h+3)+cB (h+3)*(q' - 1)<=_
 have e1':24*W+cA (h+2)<=672+3*c:=by
  have:cB (h+2)*(1 - 1)=0:=Nat.mul_zero _
  have e1:24*W+cA (h+2)+cB (h+2)*(1 - 1)<=672+3*c:=e1
  omega
 generalize cB (h+3)*(q' - 1)=z2 at g2 ⊢
 generalize cB (h+3)*TT (TT 1 (kb+1)) (k+TT 1 (kb+1))=z3 at f1 g2
 generalize (k - 2)*2^(h+1)+kb*2^h=z4 at hC f1
 omega
theorem Tk {h W q c:Nat}(hw:Wb h W q c)(hc:c<=299):W+(q - 1)<=65:=by
 obtain⟨e1,e2⟩:=hw hc
 have hz:24*(q - 1)<=cA (h+1)+cB (h+1)*(q - 1):=by
  match h with
  |0=>have:q - 1<=2:=e2;show 24*(q - 1)<=594+3*(q - 1);omega
  |1=>have:q - 1<=7:=e2;show 24*(q - 1)<=519+1*(q - 1);omega
  |2=>have:q - 1<=12:=e2;show 24*(q - 1)<=132+38*(q - 1);omega
  |h+3=>
   have:cB (h+3+1)=24:=by
    unfold cB
    rw[dX,mG (by simp)];rfl
   rw[this];omega
 omega
theorem Ig (ks:List ByteArray):eB (ks.drop 1)<=eB ks - 1:=by
 cases ks with
 |nil=>exact aT _
 |cons k ks=>rw[kQ,gm,dP];omega
theorem FJ (x:ByteArray)(ps:List Pc)(hp:∀p∈ps,p.2.size<=128):eB (lS x ps)<=1+x.size+129*(ps.length - 1):=by
 cases ps with
 |nil=>exact aT _
 |cons p r=>
  show eB (x::r.map (·.2))<=_
  rw[kQ]
  have:=tL (r.map (·.2)) (fun k hk=>by
   obtain⟨q,hq,rfl⟩:=eT.1 hk
   exact hp q (aW _ hq))
  rw[jM] at this
  simp only[aZ,su]
  omega
theorem Nd.Ef {nd:Nd}{i:Nat}{ps:List Pc}(hi:i<nd.kids.length)(hkk:nd.keys.length=nd.kids.length - 1)(hp:∀p∈ps,p.2.size<=128):(nd.qL i ps).size<=nd.size+131*(ps.length - 1)/\(nd.qL i ps).kids.length+1=nd.kids.length+ps.length:=by
 have hE:(gY nd).length=nd.kids.length:=by unfold gY;rw[aZ];omega
 have hiE:i<(gY nd).length:=by omega
 have e1:=tN (gY nd) i
 have e2:eB ((gY nd).drop i)=1+((gY nd)[i]).size+eB ((gY nd).drop (i+1)):=by rw[dA hiE,kQ]
 have e3:(gY nd).getD i ⟨#[]⟩=(gY nd)[i]:=by rw[dX,bG hiE];rfl
 have e4:eB (gY nd)=1+eB nd.keys:=by
  unfold gY
  rw[kQ];rfl
 have e5:=FJ ((gY nd).getD i ⟨#[]⟩) ps hp
 rw[e3] at e5
 have e6:=Ig ((gY nd).take i++lS ((gY nd).getD i ⟨#[]⟩) ps++(gY nd).drop (i+1))
 rw[jS,jS,e3] at e6
 have hk:(nd.qL i ps).kids.length+1=nd.kids.length+ps.length:=by
  unfold Nd.qL
  simp only[ay,aH,aN,jM]
  omega
 refine⟨?_,hk⟩
 have hs:(nd.qL i ps).size=2+d9 nd.pairs+eB (((gY nd).take i++lS ((gY nd)[i]) ps++(gY nd).drop (i+1)).drop 1)+2*(nd.qL i ps).kids.length:=by
  rw[<-e3];rfl
 rw[hs]
 unfold Nd.size
 rw[e3] at*
 omega
theorem Nd.Qm {nd:Nd}{j:Nat}(hj:j+1<nd.kids.length)(hkk:nd.keys.length=nd.kids.length - 1):(nd.kR j).size<=nd.size/\(nd.kR j).kids.length+1=nd.kids.length/\(nd.kR j).keys.length=(nd.kR j).kids.length - 1:=by
 have e1:=tN nd.keys j
 have e2:eB (nd.keys.drop j)=1+(nd.keys[j]'(by omega)).size+eB (nd.keys.drop (j+1)):=by rw[dA (by omega),kQ]
 have hk:(nd.kR j).kids.length+1=nd.kids.length:=by
  unfold Nd.kR
  simp only[ay,aH,aN]
  omega
 have hy:(nd.kR j).keys.length=(nd.kR j).kids.length - 1:=by
  unfold Nd.kR
  simp only[ay,aH,aN]
  omega
 refine⟨?_,hk,hy⟩
 have hs:(nd.kR j).size=2+d9 nd.pairs+eB (nd.keys.take j++nd.keys.drop (j+1))+2*(nd.kR j).kids.length:=rfl
 rw[hs,jS]
 unfold Nd.size
 omega
theorem dS.low {T:ByteArray->Option ByteArray->Int->List Pr->List Int->Prop}{m:Nat}(hT:∀k z b c x,T k z b c x->m<=c.length){hi:Option ByteArray}:∀{l:List (ByteArray×Int)} {cs:List Pr} {bs:List Int},dS T hi l cs bs->l.length*m<=cs.length
 |[],_,_,⟨e,e2⟩=>by subst e e2;simp
 |(k,b)::l,_,_,h=>by
  obtain⟨c,cs',x,bs',h1,h2,rfl,rfl⟩:=h
  have a:=hT _ _ _ _ _ h1
  have b:=dS.low hT h2
  rw[aZ,eH,jX,ay]
  omega
theorem jg.pw {σ:bZ}:∀{h:Nat} {lo:ByteArray} {hi:Option ByteArray} {b:Int} {cs:List Pr} {bs:List Int},jg σ h 2 lo hi b cs bs->2^h<=cs.length
 |0,_,_,_,_,_,⟨_,_,_,_,_,h5,_,_,_⟩=>dx.2 h5
 |h+1,lo,_,_,_,_,⟨nd,bs',_,ok,hk,hm,_,hr⟩=>by
  have a:=dS.low (m:=2^h) (fun _ _ _ _ _ ht=>jg.pw ht) hr
  rw[nd.mO ok hk] at a
  have b:2*2^h<=nd.kids.length*2^h:=bY _ hm
  rw[zJ]
  omega
theorem vC (σ:bZ)(b:Int):A7 σ (σ.gone b) 0:=by
 have hs:(σ.gone b).sz<=σ.sz:=ol _ (fun x _ hx=>by
  have hx:(ig σ.now b.toNat false x||σ.H.old x)=true:=hx
  show (σ.now x||σ.H.old x)=true
  rw[sj] at hx ⊢
  refine hx.imp (fun h=> ?_) id
  unfold ig at h
  split at h
  ·cases h
  ·exact h)
 exact⟨by omega,fun L _ t=>t⟩
theorem Bl.size {σ:bZ}{S:Nat->Prop}{mp:VS}{w:World}(hI:Inv σ S mp w){b:Int}{nd:Nd}(h:Bl σ b nd):nd.size<=512:=by
 obtain⟨n,rfl,hn,_⟩:=bZ.kJ h.has
 obtain⟨rest,hm⟩:=h.mem
 have hl:=hI.ok.len n hn
 have hm:σ.H.pg.look σ.im σ.H.dk n=nd.enc++rest:=by
  have:σ.mem (n:Int)=σ.H.pg.look σ.im σ.H.dk n:=rfl
  rw[<-this];exact hm
 rw[hm,ay,Nd.CU] at hl
 omega
def JB (nd nd':Nd)(h z c W:Nat):Prop:=
 (W<=1/\nd'.kids.length<=nd.kids.length/\nd'.size<=nd.size)\/
 ∃hh kb,h=hh+1/\2<=kb/\z+((nd.kids.length - 2)*2^h+kb*2^hh)<=c/\2<=nd.kids.length/\W<=1+TT 1 (kb+1)/\nd'.kids.length+2=nd.kids.length+W/\nd'.size<=nd.size+131*(W - 1)
theorem Nu {A B:Nd}{k:ByteArray}(okA:A.Ok)(okB:B.Ok)(hA:A.kids≠[])(hB:B.kids≠[])(hk:k.size<=128)(sA:A.size<=512)(sB:B.size<=512)(h1:A.kids.length=1\/B.kids.length=1):(eF A B k).size<=512+131*1:=by
 have pA:=okA.one hA
 have pB:=okB.one hB
 have hs:(eF A B k).size=2+d9 (A.pairs++B.pairs)+eB (A.keys++[k]++B.keys)+2*(A.kids++B.kids).length:=by
  unfold eF;rw[if_neg hA];rfl
 rw[hs,pA,pB,jS,jS,ay]
 have e0:d9 ([]++[])=0:=rfl
 have e1:eB [k]=1+k.size:=by simp[eB]
 rw[e0,e1]
 unfold Nd.size at sA sB
 have kA:=okA.kk
 have kB:=okB.kk
 rcases h1 with h1|h1
 ·have:A.keys=[]:=aV (by omega)
  rw[this]
  have e2:eB []=0:=rfl
  omega
 ·have:B.keys=[]:=aV (by omega)
  rw[this]
  have e2:eB []=0:=rfl
  omega
theorem UZ {σ:bZ}{h z:Nat}{hi:Option ByteArray}{R:List (ByteArray×Int)}{j:Nat}{cs:List Pr}{bs:List Int}{L:List (ByteArray×Int)}{k1:ByteArray}{b1:Int}{k2:ByteArray}{b2:Int}{M:List (ByteArray×Int)}{cl ca cb cm:List Pr}{bl xa xb bm:List Int}{m1 m2:Nat}{A B:Nd}{nd:Nd}{ps:List Pc}{zs:List (ByteArray×Nd)}
  (hP:K6 σ h hi R j cs bs L k1 b1 k2 b2 M cl ca cb cm bl (b1::xa) (b2::xb) bm m1 m2 z) (okA:A.Ok) (okB:B.Ok) (nA:qp σ h k1 (some k2) A ca xa) (nB:qp σ h k2 (jP M hi) B cb xb) (kA:Kids h m1 A) (kB:Kids h m2 B) (hk2:k2.size<=128) (sA:A.size<=512) (sB:B.size<=512) (okJ:(eF A B k2).Ok)
  (hspr:wV (eF A B k2) ⟨#[]⟩ zs) (hl:ps.length=zs.length) (hkey:∀p∈ps,p.2.size<=128) (hno:¬(512<(eF A B k2).size/\A.kids.length≠1/\B.kids.length≠1)) (hR:R.length=nd.kids.length) (hkk:nd.keys.length=nd.kids.length - 1):
  JB nd ((nd.kR j).qL j ps) h z cs.length ps.length:=by
 have hrow:=congrArg List.length hP.row
 simp only[ay,aZ] at hrow
 have hlen:=hP.len
 obtain⟨d1,d2,d3⟩:=Nd.Qm (nd:=nd) (j:=j) (by omega) hkk
 obtain⟨r1,r2⟩:=Nd.Ef (nd:=nd.kR j) (i:=j) (ps:=ps) (by omega) d3 hkey
 rcases jf 512 (eF A B k2).size with h5|h5
 ·have h1:A.kids.length=1\/B.kids.length=1:=by
   apply fV
   intro hn
   exact hno ⟨h5,fun e=>hn (.inl e),fun e=>hn (.inr e)⟩
  cases h with
  |zero=>
   obtain⟨a1,_⟩:=nA
   obtain⟨b1',_⟩:=nB
   rw[a1,b1'] at h1
   simp at h1
  |succ hh=>
   have hA:=nA.1
   have hB:=nB.1
   have lA:=dS.low (m:=2^hh) (fun _ _ _ _ _ ht=>jg.pw ht) nA.2
   have lB:=dS.low (m:=2^hh) (fun _ _ _ _ _ ht=>jg.pw ht) nB.2
   rw[A.mO okA hA] at lA
   rw[B.mO okB hB] at lB
   have l1:=dS.low (m:=2^(hh+1)) (fun _ _ _ _ _ ht=>jg.pw ht) hP.l
   have l2:=dS.low (m:=2^(hh+1)) (fun _ _ _ _ _ ht=>jg.pw ht) hP.m
   have hLM:nd.kids.length - 2=L.length+M.length:=by omega
   have hcs:=congrArg List.length hP.cs
   simp only[ay] at hcs
   have hsz:=Nu okA okB hA hB hk2 sA sB h1
   have hjk:(eF A B k2).kids.length=A.kids.length+B.kids.length:=by unfold eF;rw[ay]
   have hjn:(eF A B k2).kids≠[]:=fun e=>by
    have:=dx.2 hA
    rw[e] at hjk;simp at hjk;omega
   have hm:(nd.kids.length - 2)*2^(hh+1)<=cl.length+cm.length:=by rw[hLM,eH];omega
   have hkA:m1<=A.kids.length:=kA.resolve_left (by omega)
   have hkB:m2<=B.kids.length:=kB.resolve_left (by omega)
   rcases hP.m12 with ⟨e1,e2⟩|⟨e1,e2,e3⟩|⟨e1,e2,e3⟩
   ·omega
   ·have ha1:A.kids.length=1:=by omega
    have ht:=hspr.tt okJ hjn hsz (K:=B.kids.length+1) (by omega)
    exact .inr ⟨hh,B.kids.length,rfl,by omega,by revert hm lB;generalize (nd.kids.length - 2)*2^(hh+1)=P;generalize B.kids.length*2^hh=Q;intro hm lB;omega,by omega,by omega,by omega,by omega⟩
   ·have ha1:B.kids.length=1:=by omega
    have ht:=hspr.tt okJ hjn hsz (K:=A.kids.length+1) (by omega)
    exact .inr ⟨hh,A.kids.length,rfl,by omega,by revert hm lA;generalize (nd.kids.length - 2)*2^(hh+1)=P;generalize A.kids.length*2^hh=Q;intro hm lA;omega,by omega,by omega,by omega,by omega⟩
 ·have:=hspr.small h5
  exact .inl ⟨by omega,by omega,by omega⟩
def lD (L:Nat)(σ:bZ)(bs:List Int)(n:Nat):Prop:=σ.sz+2*n<=L+nh σ bs
theorem nu.BR {L:Nat}{σ σ':bZ}{us bs:List Int}{n:Nat}(h:nu σ σ' us bs)(r:lD L σ us n):lD L σ' bs n:=by
 have:=h.size
 unfold lD at*
 rw[yQ h.H];omega
def Pk (σ σ':bZ)(bs:List Int)(n:Nat):Prop:=∀L,lD L σ bs n->σ.tk<=L->σ'.tk<=L
theorem Pk.refl (σ:bZ)(bs:List Int)(n:Nat):Pk σ σ bs n:=fun _ _ t=>t
theorem Pk.trans {σ σ1 σ2:bZ}{us bs:List Int}{n:Nat}(a:Pk σ σ1 us n)(h:nu σ σ1 us bs)(b:Pk σ1 σ2 bs n):Pk σ σ2 us n:=fun L r t=>b L (h.BR r) (a L r t)
theorem yI {nd:Nd}{l:ByteArray}{zs:List (ByteArray×Nd)}(hs:wV nd l zs)(ok:nd.Ok){σ σ':bZ}{ps:List Pc}(hp:Puts σ ps zs σ'){L:Nat}(hr:σ.sz+nd.room<=L)(t:σ.tk<=L):σ'.tk<=L:=by
 have e1:=hs.room ok
 obtain⟨_,e2,_,_,e3⟩:=hp.length
 omega
def QU (mp:VS)(σ:bZ)(S:Nat->Prop)(h:Nat)(lo:ByteArray)(hi:Option ByteArray)(cs:List Pr)(bs:List Int)(n:Nat)(w:World)(e:Ending)(w':World):Prop:=
 (∃v ps σ' S' bs' m,e= .returned v/\aQ w' S' w.heap.size 253 2 v ps.length (lM ps)/\U9 σ' h m lo hi ps cs bs'/\nu σ σ' bs bs'/\(Pk σ σ' bs n/\∃W,A7 σ σ' W/\Wb h W ps.length cs.length)/\Inv σ' S' mp w'/\Step S S' w w')\/(¬Room σ bs n/\Dn mp σ S w e w')
def Gb (t:Nat)(mp:VS)(root err:Int)(key:ByteArray)(g:Nat)(cb:Array Value)(F:List Pr->List Pr)(vs:List (Nat×ByteArray))(h:Nat):Prop:=
 ∀(σ:bZ) (S:Nat->Prop) (b deep:Int) (least lo:ByteArray) (hi:Option ByteArray) (cs:List Pr) (bs:List Int) (w:World),Inv σ S mp w->dG w t mp root err->¬S t->xE w S vs->jg σ h 2 lo hi b cs bs->bs.Nodup->Within lo hi key->deep+h<=40->0<=deep->least.size<=128->
  Calls Tryz.prog 111 #[.pointer (some ⟨t,0,none⟩),.int .i64 b,.int .i64 deep,.string key,.string least,.func (.func g) #[] cb] w (QU mp σ S h lo hi (F cs) bs (cs.length+1) w)
theorem Bc {nd:Nd}{l:ByteArray}{zs:List (ByteArray×Nd)}(hs:wV nd l zs){σ σ':bZ}{ps:List Pc}{lo:ByteArray}{hi:Option ByteArray}{h:Nat}{cs:List Pr}{bs:List Int}(ok:nd.Ok)(hr:qp σ h lo hi nd cs bs)(hp:Puts σ ps zs σ')(hc:Q7 σ)(hn:bs.Nodup)(hb:∀x∈bs,σ.hasB x=true)(hl:l.size<=128)(hroom:nd.room<=900):
  ∃m bs',U9 σ' h m lo hi ps cs bs'/\nu σ σ' bs bs':=by
 have hlen:ps.length<=900:=by
  have e1:=hs.room ok
  have e2:=hp.length.1
  omega
 have hkey:=hp.keys (hs.keys ok hl)
 by_cases h2:h=0\/2<=nd.kids.length
 ·obtain⟨bs',q1,q2⟩:=xN hs (m:=2) ok hr hp hc (aC 2) (by rcases h2 with h2|h2;exact .inl h2;exact .inr h2) hn hb
  exact⟨2,bs',⟨q1,hkey,hlen,by omega,by omega,.inl rfl⟩,q2⟩
 ·obtain⟨h',rfl⟩:∃d,h=d+1:=⟨h - 1,by omega⟩
  have hk:=hr.1
  have hk1:=dx.2 hk
  obtain⟨bs',q1,q2⟩:=xN hs (m:=1) ok hr hp hc (by omega) (.inr (by omega)) hn hb
  refine⟨1,bs',⟨q1,hkey,hlen,by omega,by omega,.inr ?_⟩,q2⟩
  have e2:=hp.length.1
  have hsz:nd.size<=512:=by
   rcases jf 512 nd.size with h5|h5
   ·have:=(ok.big h5).2 hk;omega
   ·exact h5
  cases hs with
  |none h1 _=>exact absurd h1 hk
  |one _ _=>simpa using e2
  |leaf _ _ _ h2=>omega
  |inner _ _ _ h2=>omega
theorem RV (t:Nat)(mp:VS)(root err:Int)(key:ByteArray)(g:Nat)(cb:Array Value)(F:List Pr->List Pr)(vs:List (Nat×ByteArray))(hent:∀args w,(callFunc g args).run Tryz.prog w= .ok (.enter g args) w)(hf:EL g cb F vs)(hF:K7 F key):Gb t mp root err key g cb F vs 0:=by
 intro σ S b deep least lo hi cs bs w h ht hst hbx hT hn hw hd hd0 hl
 obtain⟨nd,h1,h2,h3,h4,h5,h6,h7,h8⟩:=hT
 subst h4 h8
 have hlen:=hF.len nd.pairs
 have hnp:=h1.fits.np
 have ok:Nd.Ok ⟨F nd.pairs,[],[]⟩:=⟨fun p hp=>by
  rcases hF.mem _ h6 p hp with h|h
  ·exact h2.pr p h
  ·exact h.2,by simp,by simp,rfl,by simp,by show (F nd.pairs).length<=2000;omega,by simp⟩
 have hc1:=CZ h h1.has
 refine(NE t mp root err b deep σ S key least nd g cb F vs hent hf w h ht hst hbx h1 h3 (by omega) h6 ok).mono ?_
 rintro e w' (⟨v,ps,zs,σ',S',rfl,p2,p3,p4,p5,p6⟩|⟨hno,hg⟩)
 rotate_left
 ·refine .inr ⟨fun hR=> ?_,hg.after (Step.refl S w) rfl rfl⟩
  have hR1:=hc1.room hR
  unfold Room at hR1;simp[nh] at hR1;unfold Nd.room at hno;simp only[iI] at hno;omega
 have hcl:=hc1.NN h.NN
 obtain⟨m,bs',q1,q2⟩:=Bc p3 (lo:=lo) (hi:=hi) (h:=0) (cs:=F nd.pairs) (bs:=[]) ok ⟨rfl,rfl,hF.rise _ h6,fun p hp=>by
  rcases hF.mem _ h6 p hp with h|h
  ·exact h7 p h
  ·rw[h.1];exact hw,rfl⟩ p4 hcl qz (by simp) hl (by unfold Nd.room;simp only[iI];omega)
 refine .inl ⟨v,ps,σ',S',bs',m,rfl,p2,q1,hc1.trans q2,⟨fun L r t=>yI p3 ok p4 ?_ t,ps.length,?_,Rb ?_ _⟩,p5,p6⟩
 ·have hR1:=hc1.BR r
  unfold lD at hR1;simp[nh] at hR1;unfold Nd.room;simp only[iI];omega
 ·exact((vC σ b).trans p4.UI).more (by omega)
 ·rw[p4.length.1]
  have sz:=h1.size h
  have e1:=hF.size nd.pairs
  have e2:Nd.size ⟨F nd.pairs,[],[]⟩=2+d9 (F nd.pairs):=by simp[Nd.size,eB]
  have e3:2+d9 nd.pairs<=nd.size:=by unfold Nd.size;omega
  exact p3.UY rfl rfl ok.pr (by omega)
structure Vs (σ:bZ)(h:Nat)(lo:ByteArray)(hi:Option ByteArray)(b:Int)(cs:List Pr)(bs:List Int)(key:ByteArray)(nd:Nd)(L:List (ByteArray×Int))(k:ByteArray)(kb:Int)(M:List (ByteArray×Int))(cl c cm:List Pr)(bl x bm:List Int):Prop where
 blk:Bl σ b nd
 ok:nd.Ok
 kids:2<=nd.kids.length
 row:lV nd lo (L++(k,kb)::M)
 l:dS (jg σ h 2) (some k) L cl bl
 t:jg σ h 2 k (jP M hi) kb c x
 m:dS (jg σ h 2) hi M cm bm
 cs:cs=cl++(c++cm)
 bs:bs=b::(bl++(x++bm))
 at_:L.length=iV nd.keys key
 w:Within k (jP M hi) key
 rise:vT nd.keys
 lo1:∀k1 b1 M',M=(k1,b1)::M'->lt k1 lo=false
theorem RX {σ:bZ}{h:Nat}{lo:ByteArray}{hi:Option ByteArray}{b:Int}{cs:List Pr}{bs:List Int}{key:ByteArray}(ht:jg σ (h+1) 2 lo hi b cs bs)(hw:Within lo hi key):
  ∃nd L k kb M cl c cm bl x bm,Vs σ h lo hi b cs bs key nd L k kb M cl c cm bl x bm:=by
 obtain⟨nd,bs',h1,h2,h3,h4,h5,h6⟩:=ht
 have hro:=rowOf h2 h3 lo
 have hri:=jg.rising h2 h3 h6
 obtain⟨b0,l,e,e2,e3⟩:=pO h2.kk h3 lo
 have er:nd.row lo=(lo,b0)::l:=e
 obtain⟨L,k,kb,M,q1,q2,q3,q4⟩:=Ee (b:=b0) (r:=l) (key:=key) hw.1
 rw[er] at hro h6
 rw[q1] at hro h6
 have hlows:=dS.TI (fun k z b c x ht=>jg.content ht) (by rw[<-q1] at h6;exact h6)
 obtain⟨cl,cr,bl,br,r1,⟨c,cm,x,bm,tk,rm,rfl,rfl⟩,rfl,rfl⟩:=h6.split
 refine⟨nd,L,k,kb,M,cl,c,cm,bl,x,bm,h1,h2,h4,hro,r1,tk,rm,rfl,h5,by rw[q2,e2],⟨q3,fun y hy=> ?_⟩,hri,fun k1 b1 M' hM=> ?_⟩
 ·cases M with
  |nil=>exact hw.2 y hy
  |cons m M=>obtain⟨k1,b1⟩:=m;cases hy;exact q4 _ _ _ rfl
 ·subst hM
  have hmem:(k1,b1)∈(lo,b0)::l:=by rw[q1];simp
  rcases bM.1 hmem with h|h
  ·cases h;exact lt_irrefl _
  ·exact lt_asymm ((fP.1 hlows).1 k1 (kD h))
theorem TQ {σ:bZ}{h:Nat}{lo:ByteArray}{hi:Option ByteArray}{b:Int}{cs:List Pr}{bs:List Int}{key:ByteArray}{nd:Nd}{L:List (ByteArray×Int)}{k:ByteArray}{kb:Int}{M:List (ByteArray×Int)}{cl c cm:List Pr}{bl x bm:List Int}(hE:Vs σ h lo hi b cs bs key nd L k kb M cl c cm bl x bm){F:List Pr->List Pr}(hF:K7 F key):F cs=cl++(F c++cm):=by
 rw[hE.cs,<-aL,hF.loc cl c cm,aL]
 ·intro p hp
  have:∀{l:List (ByteArray×Int)} {cl:List Pr} {bl:List Int},dS (jg σ h 2) (some k) l cl bl->∀p∈cl,lt p.1 k=true:=by
   intro l cl bl hl p hp
   cases l with
   |nil=>obtain⟨rfl,_⟩:=hl;cases hp
   |cons q l=>
    have:=dS.content (fun k z b c x ht=>jg.content ht) hl
    exact(this.within p hp).2 k rfl
  exact Cs (this hE.l p hp) hE.w.1
 ·intro p hp
  have hm:=hE.m
  cases M with
  |nil=>obtain⟨rfl,_⟩:=hm;cases hp
  |cons q M=>
   obtain⟨k1,b1⟩:=q
   have:=dS.content (fun k z b c x ht=>jg.content ht) hm
   exact Cs (hE.w.2 k1 rfl) (this.within p hp).1
theorem Ci {Lr:Nat}{σ σ2:bZ}{h:Nat}{hi:Option ByteArray}{k1 k2:ByteArray}{A B:Nd}{L M:List (ByteArray×Int)}{cl ca cb cm:List Pr}{bl xa xb bm:List Int}{n:Nat}(okA:A.Ok)(okB:B.Ok)(hl:dS (jg σ h 2) (some k1) L cl bl)(hm:dS (jg σ h 2) hi M cm bm)(nA:qp σ h k1 (some k2) A ca xa)(nB:qp σ h k2 (jP M hi) B cb xb)(hr:lD Lr σ2 (bl++((xa++xb)++bm)) n)(hn:(cl++(ca++(cb++cm))).length<=n):
  σ2.sz+(eF A B k2).room<=Lr:=by
 have e1:=dS.count (fun _ _ _ _ _ ht=>jg.count ht (aC 2)) hl
 have e2:=dS.count (fun _ _ _ _ _ ht=>jg.count ht (aC 2)) hm
 have f1:=rM σ2 bl
 have f2:=rM σ2 (xa++xb)
 have f3:=rM σ2 bm
 unfold lD at hr
 rw[pq,pq] at hr
 simp only[ay] at hn f2
 cases h with
 |zero=>
  obtain⟨a1,rfl,_,_,rfl⟩:=nA
  obtain⟨b1,rfl,_,_,rfl⟩:=nB
  have:(eF A B k2).room=A.pairs.length+B.pairs.length:=by simp[Nd.room,eF,a1,b1]
  rw[this]
  simp only[bV] at f2
  omega
 |succ h=>
  have g1:=dS.count (fun _ _ _ _ _ ht=>jg.count ht (aC 2)) nA.2
  have g2:=dS.count (fun _ _ _ _ _ ht=>jg.count ht (aC 2)) nB.2
  rw[A.mO okA nA.1] at g1
  rw[B.mO okB nB.1] at g2
  have p1:=dx.2 nA.1
  have p2:=dx.2 nB.1
  have:(eF A B k2).room<=A.kids.length+B.kids.length:=by
   simp[Nd.room,eF,okA.one nA.1,okB.one nB.1,nA.1];omega
  omega
theorem P9 (t:Nat)(mp:VS)(root err:Int)(σ:bZ)(S:Nat->Prop)(nb:Nat)(nd:Nd)(i:Nat)(deep:Int)(h z:Nat)(hi:Option ByteArray)(lo:ByteArray)(R:List (ByteArray×Int))(cs:List Pr)(bs:List Int)(n:Nat)(w:World)(hI:Inv σ S mp w)(ht:dG w t mp root err)(hst:¬S t)(hn:gG w S nb nd)(ok:nd.Ok)(hR:lV nd lo R)(hM:Mid σ h hi z R i cs bs)(hnd:bs.Nodup)(hd:deep<=40)(hcs:cs.length<=n)(hl:R.length<=1160):
  Calls Tryz.prog 154 #[.pointer (some ⟨t,0,none⟩),.pointer (some ⟨nb,0,none⟩),.int .i64 i,.int .i64 deep] w fun e w'=>(e= .returned (.tuple #[])/\∃σ' S' nd' R' bs',Inv σ' S' mp w'/\gG w' S' nb nd'/\lV nd' lo R'/\dS (jg σ' h 2) hi R' cs bs'/\nu σ σ' bs bs'/\(Pk σ σ' bs n/\∃W,A7 σ σ' W/\JB nd nd' h z cs.length W)/\nd'.Ok/\nd'.kids.length<=1700/\Keep (fun g=>S g\/g=nb) w w'/\∀g,S' g->S g\/w.heap.size<=g)\/(¬Room σ bs n/\Dn mp σ S w e w'):=by
 have hlen:=hR.len
 have hall:∀x∈bs,σ.hasB x=true:=by
  cases hM with
  |two hr=>exact fun x hx=>dS.has (fun _ _ _ _ _ ht=>jg.has ht) hr x hx
  |one q1 q2 q3 _=>
   intro x hx
   simp only[bX] at hx
   rcases hx with hx|hx|hx
   ·exact dS.has (fun _ _ _ _ _ ht=>jg.has ht) q1 x hx
   ·exact q2.has x hx
   ·exact dS.has (fun _ _ _ _ _ ht=>jg.has ht) q3 x hx
 by_cases hs:R.length<2\/R.length<=i
 ·refine(Nt t nb nd i deep w S hn (by omega)).mono ?_
  rintro e w' ⟨rfl,rfl⟩
  exact .inl ⟨rfl,σ,S,nd,R,bs,hI,hn,hR,hM.skip hs,nu.refl hall,⟨Pk.refl _ _ _,0,A7.refl _,.inl ⟨by omega,aC _,aC _⟩⟩,ok,by omega,Keep.refl _ _,fun g hg=> .inl hg⟩
 ·obtain⟨L,k1,b1,k2,b2,M,cl,ca,cb,cm,bl,xa,xb,bm,m1,m2,hP⟩:=hM.pair (by omega)
  rw[<-hlen.1] at hP
  have hro:=hR
  rw[hP.row] at hro
  obtain⟨dR,d1,d2,d3⟩:=IL hro
  have hLj:=hP.len
  rw[hLj] at dR d1 d2 d3
  obtain⟨A,xa',bA,okA,nA,kA,na,rfl⟩:=tu.1 hP.a
  obtain⟨B,xb',bB,okB,nB,kB,nb',rfl⟩:=tu.1 hP.b
  have hk2:k2.size<=128:=ok.ky k2 (List.mem_of_getElem? d1)
  obtain⟨nJ,okJ,lJ,lJ2⟩:=Ey okA okB nA nB na nb' hk2 bA.fits bB.fits
  have hbs:=hP.bs
  have hb12:b1≠b2:=by
   rintro rfl
   rw[hbs] at hnd
   have h1:=(eD.1 hnd).2.1
   exact(eD.1 h1).2.2 b1 (by simp) b1 (by simp) rfl
  obtain⟨c12,hB2⟩:=NQ hI bA.has bB.has hb12
  have hcl:=c12.NN hI.NN
  have hperm:bs.Perm ([b1,b2]++(bl++((xa'++xb')++bm))):=by
   rw[hbs]
   have e1:(b1::xa'++(b2::xb'++bm)).Perm ([b1,b2]++((xa'++xb')++bm)):=by
    show (b1::(xa'++b2::(xb'++bm))).Perm (b1::b2::((xa'++xb')++bm))
    refine List.Perm.cons _ ?_
    rw[aL]
    exact List.perm_middle
   exact(pM bl e1).trans (List.perm_append_comm_assoc _ _ _)
  have c1:=c12.left (hperm.nodup_iff.1 hnd) (fun x hx=>hall x (hperm.mem_iff.2 (dL _ hx)))
  have hrm:=fun (hroom:Room σ bs n)=>Ci (Lr:=((σ.gone b1).gone b2).most) okA okB hP.l hP.m nA nB ((c1.perm hperm.symm (jK _)).room hroom) (by rw[<-hP.cs];exact hcs)
  have hrmL:∀L,lD L σ bs n->((σ.gone b1).gone b2).sz+(eF A B k2).room<=L:=fun L hroom=>Ci okA okB hP.l hP.m nA nB ((c1.perm hperm.symm (jK _)).BR hroom) (by rw[<-hP.cs];exact hcs)
  refine(Qa t mp root err σ S nb nd A B k2 i (min i (nd.kids.length - 2)) deep b1 b2 w hI ht hst hn (by omega) (by omega) rfl d2 d3 d1 (ok.one (by intro e;rw[e] at hlen;simp at hlen;omega)) ok.kk bA bB hB2 okJ hd (by omega)).mono ?_
  rintro e w' (⟨rfl,σ',S',nd',hI',hN',hK',hS',hres⟩|⟨hno,hg⟩)
  rotate_left
  ·exact .inr ⟨fun hroom=>absurd (hrm hroom) (gI.2 hno),hg⟩
  refine .inl ⟨rfl,σ',S',nd',?_⟩
  rcases hres with ⟨s1,s2,s3,rfl,rfl⟩|⟨ps,zs,hspr,hput,rfl,hno⟩
  ·refine⟨R,bs,hI',hN',hR,?_,nu.refl hall,⟨Pk.refl _ _ _,0,A7.refl _,.inl ⟨by omega,aC _,aC _⟩⟩,ok,by omega,hK',hS'⟩
   rw[hP.row,hP.cs,hP.bs]
   have tA:jg σ' h 2 k1 (some k2) b1 ca (b1::xa'):=tu.2 ⟨A,xa',bA,okA,nA,by
    cases h with
    |zero=>exact .inl rfl
    |succ h=>exact .inr (by have:=dx.2 nA.1;omega),na,rfl⟩
   have tB:jg σ' h 2 k2 (jP M hi) b2 cb (b2::xb'):=tu.2 ⟨B,xb',bB,okB,nB,by
    cases h with
    |zero=>exact .inl rfl
    |succ h=>exact .inr (by have:=dx.2 nB.1;omega),nb',rfl⟩
   exact dS.append (m:=(k1,b1)::(k2,b2)::M) ⟨ca,_,_,_,tA,⟨cb,_,_,_,tB,hP.m,rfl,rfl⟩,rfl,rfl⟩ hP.l
  ·obtain⟨xs,q1,q2,q3,q4,q5⟩:=P8 hP okA okB bA.fits bB.fits nA nB kA kB na nb' hk2 c12 hcl hspr hput hnd
   have hRo:=xP (ps:=ps) (by rw[<-hLj] at*;exact dR) (.inr q3)
   rw[hLj] at hRo
   have hl2:(L++lC k1 ps++M).length<=1700:=by
    have:=congrArg List.length hP.row
    simp only[ay,aZ,yK] at this ⊢
    omega
   refine⟨_,_,hI',hN',hRo,q1,q2,⟨fun L r t=>yI hspr okJ hput (hrmL L r) t,ps.length,?_,UZ hP okA okB nA nB kA kB hk2 (bA.size hI) (bB.size hI) okJ hspr hput.length.1 q4 hno (by omega) ok.kk⟩,?_,by rw[hRo.len.1];exact hl2,hK',hS'⟩
   ·have:=((vC σ b1).trans (vC _ b2)).trans hput.UI
    exact this.more (by omega)
   refine hRo.ok ?_ ?_ (dS.Gt (fun _ _ _ _ _ ht=>ht.top) q1) (by omega)
   ·exact ok.one (by intro e;rw[e] at hlen;simp at hlen;omega)
   ·exact Eg (fun k hk=>by
     rcases bX.1 hk with hk|hk
     ·exact ok.ky k (eO hk)
     ·exact ok.ky k (dh hk)) q4
theorem Mid.Gt {σ:bZ}{h z:Nat}{hi:Option ByteArray}{R:List (ByteArray×Int)}{i:Nat}{cs:List Pr}{bs:List Int}(hm:Mid σ h hi z R i cs bs):∀p∈R,1<=p.2/\p.2<=4096:=by
 cases hm with
 |two hr=>exact dS.Gt (fun _ _ _ _ _ ht=>ht.top) hr
 |one q1 q2 q3 _=>
  intro p hp
  rcases bX.1 hp with hp|hp
  ·exact dS.Gt (fun _ _ _ _ _ ht=>ht.top) q1 p hp
  ·rcases bM.1 hp with rfl|hp
   ·exact q2.top
   ·exact dS.Gt (fun _ _ _ _ _ ht=>ht.top) q3 p hp
theorem Step.Sy {S S1 S2:Nat->Prop}{w w3 w5:World}{nb:Nat}(h:Step S S1 w w3)(hk:Keep (fun g=>S1 g\/g=nb) w3 w5)(h2:∀g,S2 g->S1 g\/w3.heap.size<=g)(hnb:w.heap.size<=nb):Step S S2 w w5:=
 ⟨h.1.trans hk (fun i hi x=>x.elim (fun s=>(h.2 i s).elim id (fun y=>absurd hi (bq.2 y))) (fun e=>absurd hi (bq.2 (by rw[e];exact hnb)))),
  fun g hg=>(h2 g hg).elim (fun s=>h.2 g s) (fun y=> .inr (aK h.1.size y))⟩
theorem Ev {Lr:Nat}{σ σ0:bZ}{h:Nat}{k:ByteArray}{hi:Option ByteArray}{L M:List (ByteArray×Int)}{cl c cm:List Pr}{bl x bm:List Int}(hl:dS (jg σ h 2) (some k) L cl bl)(hm:dS (jg σ h 2) hi M cm bm)(hr:lD Lr σ0 (bl++(x++bm)) ((cl++(c++cm)).length+1)):lD Lr σ0 x (c.length+1):=by
 have e1:=dS.count (fun _ _ _ _ _ ht=>jg.count ht (aC 2)) hl
 have e2:=dS.count (fun _ _ _ _ _ ht=>jg.count ht (aC 2)) hm
 have f1:=rM σ0 bl
 have f3:=rM σ0 bm
 unfold lD at*
 rw[pq,pq] at hr
 simp only[ay] at hr
 omega
theorem tH {Lr:Nat}{σ:bZ}{h:Nat}{hi:Option ByteArray}{lo:ByteArray}{nd:Nd}{R:List (ByteArray×Int)}{cs:List Pr}{bs:List Int}{n:Nat}(ok:nd.Ok)(hR:lV nd lo R)(hr:dS (jg σ h 2) hi R cs bs)(hm:lD Lr σ bs n)(hn:cs.length<=n):σ.sz+nd.room<=Lr:=by
 have e1:=dS.count (fun _ _ _ _ _ ht=>jg.count ht (aC 2)) hr
 have f1:=rM σ bs
 have hl:=hR.len
 have hk:nd.kids≠[]:=fun e=>by rw[e] at hl;simp at hl;omega
 have hp:=ok.one hk
 have:nd.room<=nd.kids.length:=by
  have:=dx.2 hk
  simp[Nd.room,hp,hk];omega
 unfold lD at hm
 omega
theorem Co {nd:Nd}{lo:ByteArray}{R:List (ByteArray×Int)}(ok:nd.Ok)(hR:lV nd lo R):nd.room<=nd.kids.length:=by
 have hl:=hR.len
 have hk:nd.kids≠[]:=fun e=>by rw[e] at hl;simp at hl;omega
 have hp:=ok.one hk
 have:=dx.2 hk
 simp[Nd.room,hp,hk];omega
theorem KL (t:Nat)(mp:VS)(root err:Int)(key:ByteArray)(g:Nat)(cb:Array Value)(F:List Pr->List Pr)(vs:List (Nat×ByteArray))(hF:K7 F key)(hks:key.size<=128)(h:Nat)(ih:Gb t mp root err key g cb F vs h):Gb t mp root err key g cb F vs (h+1):=by
 intro σ S b deep least lo hi cs bs w hI ht hst hbx hT hn hw hd hd0 hl
 have hTc:=hT.has
 obtain⟨nd,L,k,kb,M,cl,c,cm,bl,x,bm,hE⟩:=RX hT hw
 have hFc:=TQ hE hF
 have hb0:(b==0)=false:=by have:=hE.blk.lo;simp;omega
 have hlen:=hE.row.len
 have hLM:L.length+M.length+1=nd.kids.length:=by rw[hlen.1];simp;omega
 have hkne:nd.kids≠[]:=fun e=>by have:=hE.kids;rw[e] at this;simp at this
 have hke:nd.kids.isEmpty=false:=by cases hq:nd.kids with|nil=>exact absurd hq hkne|cons a b=>rfl
 have hnk:=hE.blk.fits.nk
 have hcs:=hE.cs
 have hbs:=hE.bs
 subst hbs
 have cg:=CZ hI hE.blk.has
 have c0:nu σ (σ.gone b) (b::(bl++(x++bm))) (bl++(x++bm)):=cg.left (us:=[b]) (bs:=[]) (rs:=bl++(x++bm)) hn (fun y hy=>hTc y (aW _ hy))
 have n0:=c0.nd hn
 have R0:Room σ (b::(bl++(x++bm))) (cs.length+1)->Room (σ.gone b) (bl++(x++bm)) ((cl++(c++cm)).length+1):=fun hR=>by
  have:=c0.room hR
  rwa [hcs] at this
 have hbx0:∀y∈bl++(x++bm),y∉[b]:=fun y hy e=>(lu.1 hn).1 (by rw[<-bO.1 e];exact hy)
 have hh0:∀y∈bl++(x++bm),(σ.gone b).hasB y=true:=fun y hy=>(c0.new y hy).1
 have Rk:Room σ (b::(bl++(x++bm))) (cs.length+1)->Room (σ.gone b) x (c.length+1):=fun hR=>Ev (Lr:=(σ.gone b).most) hE.l hE.m (R0 hR)
 have R0L:∀Lr,lD Lr σ (b::(bl++(x++bm))) (cs.length+1)->lD Lr (σ.gone b) (bl++(x++bm)) ((cl++(c++cm)).length+1):=fun Lr hR=>by
  have:=c0.BR hR
  rwa [hcs] at this
 have RkL:∀Lr,lD Lr σ (b::(bl++(x++bm))) (cs.length+1)->lD Lr (σ.gone b) x (c.length+1):=fun Lr hR=>Ev hE.l hE.m (R0L Lr hR)
 have HR0L:=ah R0L;clear R0L
 have HRkL:=ah RkL;clear RkL
 have HRk:=ah Rk;clear Rk
 have T0:=hE.t.keep cg (fun y hy=>hbx0 y (by simp[hy]))
 have l0:=hE.l.keep cg (fun y hy=>hbx0 y (by simp[hy]))
 have m0:=hE.m.keep cg (fun y hy=>hbx0 y (by simp[hy]))
 have hkz:∀y,jP M hi=some y->lt y k=false:=fun y hy=>by
  have hc:=T0.content
  rw[hy] at hc
  obtain⟨p,r,e⟩:=mF hc.ne
  exact lt_asymm (hc.within p (by rw[e];simp)).PY
 have nx:x.Nodup:=(eD.1 (eD.1 n0).2.1).1
 have HE:=ah hE;clear hE
 have HFc:=ah hFc;clear hFc
 have HCS:=ah hcs;clear hcs
 have HR0:=ah R0;clear R0
 have HIH:=ah ih;clear ih
 have HKZ:=ah hkz;clear hkz
 have HB0:=ah hbx0;clear hbx0
 have HH0:=ah hh0;clear hh0
 have HTC:=ah hTc;clear hTc hT
 have HLM:=ah hLM;clear hLM
 have HLE:=ah hlen;clear hlen
 have htl:t<w.heap.size:=(aj.1 ht).1
 have hid:kb=kb:=rfl
 have hkid:nd.kids[L.length]? =some kb:=by rw[HE.out.row.2];simp
 obtain⟨hil,hkid'⟩:=cu.1 hkid
 clear hkid hid
 have HKid:=ah hkid';clear hkid'
 have hil':(L.length:Int)<(nd.kids.length:Int):=by omega
 have hkl:nd.keys.length<=1000000:=by have:=HE.out.ok.kk;omega
 have HAt:=ah HE.out.at_
 go_enter Tryz.func111,Tryz.ntmps111
 go_wp2_with (first
  |(go_at_call 152;go_must ((refine(Gu t mp root err b deep σ S nd w hI ht hst HE.out.blk (by omega)).mono ?_);rintro e w1 ⟨nb,rfl,hn1,hI1,hs1⟩))
  |(go_at_call 121;go_must ((refine(jQ nb nd _ S hn1.jT).mono ?_);rintro e w2 ⟨rfl,hw⟩;subst w2;rw[hke]))
  |(go_at_call 122;go_must ((refine(FI nb nd key _ S hn1.jT HE.out.rise hkl).mono ?_);rw[<-HAt.out];rintro e w2 ⟨rfl,hb2⟩;refine Stop.of ?_)))
 refine Stop.on ?_
 have hs2:Step S S w w2:=hs1.trans (Step.of_below hb2)
 have hN2:=hn1.jT.below hb2
 have hI2:=hI1.below hb2
 have ht2:=ht.step hst hs2
 have hbx2:=hbx.step hs2
 have hnbw:w.heap.size<=nb:=hn1.2.1
 obtain⟨hSb,v0,v1,v2,bN,N0,N1,N2⟩:=id hN2
 obtain⟨ao2,cp2,rfl,_,_,_,_⟩:=aX.form N2
 obtain⟨pb,po,rfl,d2⟩:=N2.at rfl L.length hil
 rw[HKid.out] at d2
 have hpb:=aD w2 _ d2
 obtain⟨_,_,y2,_,_,_,ly⟩:=cells3 bN
 have hE1:=HIH.out (σ.gone b) S kb (deep+1) key k (jP M hi) c x w2 hI2 ht2.1 hst hbx2 T0 nx HE.out.w (by omega) (by omega) hks
 have HE1:=ah hE1;clear hE1
 go_wp2_with (first
  |(go_at_call 111;go_must (refine HE1.out.mono ?_;rintro e w3 (⟨v,ps,σ1,S1,x',m,rfl,hown,hP,hc1,⟨hpk1,W1,hW1,hB1⟩,hI3,hs3⟩|⟨hno,rfl,τ,Sτ,g1,g2,g3,g4⟩)<;>refine Stop.of ?_)))
 rotate_left
 ·refine Stop.on ?_
  exact⟨rfl,.inr ⟨fun hR=>hno (HRk.out hR),rfl,τ,Sτ,g1,hs2.trans g2,g3,g4⟩⟩
 refine Stop.on ?_
 have hN3:=hN2.step hs3
 have hpl:=hP.len
 have hRp:=Ao nb nd v ps L.length w3 S1 hI3.sub hN3 (HE.out.ok.one hkne) hown.dm hil HE.out.ok.kk (by omega) (by omega)
 have HRp:=ah hRp;clear hRp
 clear y2 d2 hpb
 go_wp2_with (first
  |(go_at_call 153;go_must (refine HRp.out.mono ?_;rintro e w4 ⟨rfl,hN4,hk4⟩;refine Stop.of ?_)))
 refine Stop.on ?_
 have hS1b:¬S1 nb:=hN4.1
 have hI4:=hI3.mW hk4 (fun g hg e=>hS1b (by rw[<-e];exact hg))
 have ht3:=ht2.1.step ht2.2 hs3
 have hnbt:t≠nb:=fun e=>by rw[e] at htl;omega
 have ht4:dG w4 t mp root err:=(hk4.block t (aj.1 ht3.1).1 hnbt).trans ht3.1
 have hs4:Step S S1 w w4:=(hs2.trans hs3).Sy (hk4.mono (fun _ _ h=> .inr h)) (fun g hg=> .inl hg) hnbw
 have cm1:=hc1.mid (ls:=bl) (rs:=bm) (by rw[aL];exact n0) (fun y hy=>HH0.out y (by simp[hy])) (fun y hy=>HH0.out y (by simp[hy]))
 rw[aL,aL] at cm1
 have hdl:∀y∈bl,y∉x:=fun y hy hx=>(eD.1 n0).2.2 y hy y (dI _ hx) rfl
 have hdm:∀y∈bm,y∉x:=fun y hy hx=>(eD.1 (eD.1 n0).2.1).2.2 y hx y hy rfl
 have HW1:=ah (aF hW1 hB1);clear hW1 hB1
 obtain⟨R,hRo,hMidz,hRl⟩:=K4 HE.out.row (l0.keep hc1 hdl) (m0.keep hc1 hdm) hP (by have:=HLE.out.1;have:=HE.out.kids;omega) HE.out.lo1 HKZ.out
 have hRl2:R.length<=1160:=by have:=HLM.out;omega
 obtain⟨zc,hzc⟩:∃zc,zc=if ps.length=1 then(F c).length else(cl++(F c++cm)).length+1:=⟨_,rfl⟩
 have hMid:=hMidz zc (fun e=>by rw[hzc,if_pos e])
 have HZC:=ah hzc;clear hzc hMidz
 have hRS:=Nd.Ef (nd:=nd) (i:=L.length) (ps:=ps) hil HE.out.ok.kk hP.key
 have HRS:=ah hRS;clear hRS
 have ok1:(nd.qL L.length ps).Ok:=by
  exact hRo.ok (HE.out.ok.one hkne) (Eg HE.out.ok.ky hP.key) hMid.Gt (by omega)
 have n1:=cm1.nd n0
 have R1:=fun hR=>cm1.room (HR0.out hR)
 have R1L:∀Lr,lD Lr σ (b::(bl++(x++bm))) (cs.length+1)->lD Lr σ1 (bl++(x'++bm)) ((cl++(c++cm)).length+1):=fun Lr hR=>cm1.BR (HR0L.out Lr hR)
 have HR1L:=ah R1L;clear R1L
 have HPK1:=ah (show ∀Lr,lD Lr σ (b::(bl++(x++bm))) (cs.length+1)->σ.tk<=Lr->σ1.tk<=Lr from fun Lr hR t=>hpk1 Lr (HRkL.out Lr hR) t);clear hpk1
 have HR1:=ah R1;clear R1
 have hFl:(cl++(F c++cm)).length<=(cl++(c++cm)).length+1:=by
  have:=hF.len c
  simp only[ay];omega
 have hJ:=P9 t mp root err σ1 S1 nb (nd.qL L.length ps) L.length (deep+1) h zc hi lo R (cl++(F c++cm)) (bl++(x'++bm)) _ w4 hI4 ht4 (fun x=>ht3.2 x) hN4 ok1 hRo hMid n1 (by omega) hFl hRl2
 have HJ:=ah hJ;clear hJ
 have HP:=ah hP;clear hP
 have HRo:=ah hRo;clear hRo hRl
 have HC:=ah (c0.trans cm1)
 go_wp2_with (first
  |(go_at_call 154;go_must (refine HJ.out.mono ?_;rintro e w5 (⟨rfl,σ2,S2,n2,R2,bs2,hI5,hN5,hRo2,hr2,hc2,⟨hpk2,W2,hW2,hB2⟩,ok2,hl2,hk5,hS2⟩|⟨hno,rfl,τ,Sτ,g1,g2,g3,g4⟩)<;>refine Stop.of ?_)))
 rotate_left
 ·refine Stop.on ?_
  exact⟨rfl,.inr ⟨fun hR=>hno (HR1.out hR),rfl,τ,Sτ,g1,hs4.trans g2,g3.trans HC.out.H,g4.trans HC.out.most⟩⟩
 refine Stop.on ?_
 have hs5:Step S S2 w w5:=hs4.Sy hk5 hS2 hnbw
 have HW2:=ah (aF hW2 hB2);clear hW2 hB2
 have ht5:=ht.step hst hs5
 have rm2:=Co ok2 hRo2
 have rm1:=fun hR=>tH (Lr:=σ2.most) ok2 hRo2 hr2 (hc2.room (HR1.out hR)) hFl
 have HRML:=ah (show ∀Lr,lD Lr σ (b::(bl++(x++bm))) (cs.length+1)->σ2.sz+n2.room<=Lr from fun Lr hR=>tH ok2 hRo2 hr2 (hc2.BR (HR1L.out Lr hR)) hFl)
 have HPK2:=ah (show ∀Lr,lD Lr σ (b::(bl++(x++bm))) (cs.length+1)->σ.tk<=Lr->σ2.tk<=Lr from fun Lr hR t=>hpk2 Lr (HR1L.out Lr hR) (HPK1.out Lr hR t));clear hpk2
 have hRl2':=ah hRo2
 have HNL:=ah rm2
 have HRM:=ah rm1
 clear rm1 rm2 hRo2
 go_wp2_with (first
  |(go_at_call 150;go_must ((refine(qJ t mp root err _ σ2 S2 nb n2 least w5 hI5 ht5.1 ht5.2 hN5 ok2 (iC _)).mono ?_);rintro e w6 (⟨v6,ps6,zs,σ3,S3,rfl,p2,p3,p4,p5,p6⟩|⟨hno,rfl,τ,Sτ,g1,g2,g3,g4⟩)<;>refine Stop.of ?_)))
 rotate_left
 ·refine Stop.on ?_
  exact⟨rfl,.inr ⟨fun hR=>absurd (HRM.out hR) (gI.2 hno),rfl,τ,Sτ,g1,hs5.trans g2,g3.trans (hc2.H.trans HC.out.H),g4.trans (hc2.most.trans HC.out.most)⟩⟩
 refine Stop.on ?_
 go_wp2_with fail
 go_ret
 have hkne2:n2.kids≠[]:=fun e=>hRl2'.out.ne (by have:=hRl2'.out.2;rw[e] at this;exact List.map_eq_nil_iff.1 this.symm)
 obtain⟨m3,bs3,q1,q2⟩:=Bc p3 (lo:=lo) (hi:=hi) (h:=h+1) (cs:=cl++(F c++cm)) (bs:=bs2) ok2 ⟨hkne2,by rw[hRl2'.out.row];exact hr2⟩ p4 hI5.NN (hc2.nd n1) (dS.has (fun _ _ _ _ _ ht=>ht.has) hr2) hl (by have:=HNL.out;have:=ok2.one hkne2;simp[Nd.room,this,hkne2];omega)
 refine .inl ⟨v6,ps6,σ3,S3,bs3,m3,rfl,p2.base hs5.1.size,?_,(HC.out.trans hc2).trans q2,⟨fun Lr hR t=>yI p3 ok2 p4 (HRML.out Lr hR) (HPK2.out Lr hR t),W1+W2+ps6.length,?_,?_⟩,p5,hs5.trans p6⟩
 ·rw[HFc.out]
  exact q1
 ·exact((((vC σ b).trans HW1.out.1).trans HW2.out.1).trans p4.UI).more (by omega)
 ·rw[HFc.out]
  have hlz:=p4.length.1
  have hk2:=HE.out.kids
  have sz:=HE.out.blk.size hI
  obtain⟨r1,r2⟩:=HRS.out
  have hlm:=HLM.out
  rcases HW2.out.2 with ⟨j1,j2,j3⟩|⟨hh,kb,rfl,hkb,hz,_,j1,j2,j3⟩
  ·have ht:=p3.tt ok2 hkne2 (x:=ps.length - 1) (K:=nd.kids.length+(ps.length - 1)) (by omega) (by omega)
   have l1:=dS.low (m:=2^h) (fun _ _ _ _ _ ht=>jg.pw ht) HE.out.l
   have l2:=dS.low (m:=2^h) (fun _ _ _ _ _ ht=>jg.pw ht) HE.out.m
   have hm:(nd.kids.length - 1)*2^h<=cl.length+cm.length:=by
    rw[show nd.kids.length - 1=L.length+M.length by omega,eH];omega
   refine OC HW1.out.2 hk2 ?_ (by rw[hlz];exact ht) j1
   simp only[ay]
   omega
  ·have hzc:=HZC.out
   by_cases hq:ps.length=1
   ·rw[if_pos hq] at hzc
    rw[hzc] at hz
    have hB1:=HW1.out.2
    rw[hq] at hB1 r1 r2
    have ht:=p3.tt ok2 hkne2 (x:=W2 - 1) (K:=nd.kids.length+(W2 - 1)) (by omega) (by omega)
    have hkn:(nd.qL L.length ps).kids.length=nd.kids.length:=by omega
    rw[hkn] at hz
    exact Rc hB1 hk2 hkb hz j1 (by rw[hlz];exact ht)
   ·rw[if_neg hq] at hzc
    omega
theorem Iz (t:Nat)(mp:VS)(root err:Int)(key:ByteArray)(g:Nat)(cb:Array Value)(F:List Pr->List Pr)(vs:List (Nat×ByteArray))(hent:∀args w,(callFunc g args).run Tryz.prog w= .ok (.enter g args) w)(hf:EL g cb F vs)(hF:K7 F key)(hks:key.size<=128):∀h,Gb t mp root err key g cb F vs h
 |0=>RV t mp root err key g cb F vs hent hf hF
 |h+1=>KL t mp root err key g cb F vs hF hks h (Iz t mp root err key g cb F vs hent hf hF hks h)
structure GN (w0:World)(S:Nat->Prop)(nb:Nat)(ks:List ByteArray)(ns:List Int)(v1 v2:Value)(wr:World):Prop where
 nD:Below w0.heap.size w0 wr
 lo:w0.heap.size<=nb
 node:wr.heap[nb]? =some (.cells #[.slice none 0 0,v1,v2] 165 (0,0))
 o1:aQ wr S w0.heap.size 9 1 v1 ks.length (ks.map .string)
 o2:aQ wr S w0.heap.size 3 1 v2 ns.length (ns.map (.int .i64))
theorem GN.lt {w0:World}{S:Nat->Prop}{nb:Nat}{ks:List ByteArray}{ns:List Int}{v1 v2:Value}{wr:World}(h:GN w0 S nb ks ns v1 v2 wr):nb<wr.heap.size:=(aj.1 h.node).1
theorem GN.below {w0:World}{S:Nat->Prop}{nb:Nat}{ks:List ByteArray}{ns:List Int}{v1 v2:Value}{wr wr':World}(h:GN w0 S nb ks ns v1 v2 wr)(hb:Below wr.heap.size wr wr'):GN w0 S nb ks ns v1 v2 wr':=
 ⟨h.nD.trans (hb.mono h.nD.size),h.lo,(hb.block nb h.lt).trans h.node,h.o1.below hb,h.o2.below hb⟩
theorem GN.TD {w0:World}{S:Nat->Prop}{nb:Nat}{ks:List ByteArray}{ns ns':List Int}{v1 v2 v2':Value}{wr w':World}(h:GN w0 S nb ks ns v1 v2 wr)(hk:Keep (fun g=>v2.ownBlock=some g) wr w')(hb:Below w0.heap.size wr w')(ho:aQ w' S w0.heap.size 3 1 v2' ns'.length (ns'.map (.int .i64))):GN w0 S nb ks ns' v1 v2' (w'.setCell ⟨nb,2,none⟩ v2'):=by
 have hn:w'.heap[nb]? =_:=(hk.block nb h.lt (h.o2.ne h.node (by decide))).trans h.node
 have hk5:Keep (· =nb) w' (w'.setCell ⟨nb,2,none⟩ v2'):=Keep.setCell (M:=(· =nb)) (p:=⟨nb,2,none⟩) (Keep.refl _ _) (.inr rfl) _
 have h1:aQ w' S w0.heap.size 9 1 v1 ks.length (ks.map .string):=h.o1.keep fun g hg hl hs=>⟨hk.block g hl (fun e=>aQ.Ju h.o1 h.o2 (by decide) g hg e),hs⟩
 refine⟨(h.nD.trans hb).setCell (by exact h.lo) _,h.lo,by simp[World.setCell,bn,hn],h1.keep fun g hg hl hs=>⟨hk5.block g hl (fun e=>h1.ne hn (by decide) (by rw[hg,e])),hs⟩,ho.keep fun g hg hl hs=>⟨hk5.block g hl (fun e=>ho.ne hn (by decide) (by rw[hg,e])),hs⟩⟩
theorem GN.Pw {w0:World}{S:Nat->Prop}{nb:Nat}{ks ks':List ByteArray}{ns:List Int}{v1 v2 v1':Value}{wr w':World}(h:GN w0 S nb ks ns v1 v2 wr)(hk:Keep (fun g=>v1.ownBlock=some g) wr w')(hb:Below w0.heap.size wr w')(ho:aQ w' S w0.heap.size 9 1 v1' ks'.length (ks'.map .string)):GN w0 S nb ks' ns v1' v2 (w'.setCell ⟨nb,1,none⟩ v1'):=by
 have hn:w'.heap[nb]? =_:=(hk.block nb h.lt (h.o1.ne h.node (by decide))).trans h.node
 have hk5:Keep (· =nb) w' (w'.setCell ⟨nb,1,none⟩ v1'):=Keep.setCell (M:=(· =nb)) (p:=⟨nb,1,none⟩) (Keep.refl _ _) (.inr rfl) _
 have h2:aQ w' S w0.heap.size 3 1 v2 ns.length (ns.map (.int .i64)):=h.o2.keep fun g hg hl hs=>⟨hk.block g hl (fun e=>aQ.Ju h.o2 h.o1 (by decide) g hg e),hs⟩
 refine⟨(h.nD.trans hb).setCell (by exact h.lo) _,h.lo,by simp[World.setCell,bn,hn],ho.keep fun g hg hl hs=>⟨hk5.block g hl (fun e=>ho.ne hn (by decide) (by rw[hg,e])),hs⟩,h2.keep fun g hg hl hs=>⟨hk5.block g hl (fun e=>h2.ne hn (by decide) (by rw[hg,e])),hs⟩⟩
def zG (σ:bZ)(root:Int)(cs:List Pr)(bs:List Int):Prop:=(root=0/\cs=[]/\bs=[])\/∃h,jg σ h 2 ⟨#[]⟩ none root cs bs
def QT (mp:VS)(σ:bZ)(S:Nat->Prop)(cs:List Pr)(bs:List Int)(n q:Nat)(w:World)(e:Ending)(w':World):Prop:=
 (∃b σ' S' bs',e= .returned (.int .i64 b)/\zG σ' b cs bs'/\nu σ σ' bs bs'/\(Pk σ σ' bs n/\A7 σ σ' q)/\Inv σ' S' mp w'/\Step S S' w w')\/(¬Room σ bs n/\Dn mp σ S w e w')
def Vk:Value->Nat| .slice _ n _=>n|_=>0
def GR (mp:VS)(σ0:bZ)(S0:Nat->Prop)(cs:List Pr)(bs0:List Int)(n q:Nat)(w:World)(v:Value)(wr:World):Prop:=
 ∃ps h m σ S bs,Jp wr S v ps/\U9 σ h m ⟨#[]⟩ none ps cs bs/\nu σ0 σ bs0 bs/\(Pk σ0 σ bs0 n/\∃W,A7 σ0 σ W/\W+(ps.length - 1)<=q)/\Inv σ S mp wr/\Step S0 S w wr
theorem Iu (t:Nat)(mp:VS)(root err:Int)(σ:bZ)(v:Value)(ps:List Pc)(h m:Nat)(cs:List Pr)(bs:List Int)(n:Nat)(S:Nat->Prop)(w:World)(hI:Inv σ S mp w)(ht:dG w t mp root err)(hst:¬S t)(hv:Jp w S v ps)(hP:U9 σ h m ⟨#[]⟩ none ps cs bs)(hn:bs.Nodup)(hcs:cs.length<=n)(q:Nat)(hq:ps.length - 1<=q):
  Calls Tryz.prog 110 #[.pointer (some ⟨t,0,none⟩),v] w (QT mp σ S cs bs n q w):=by
 have hb0:∀x∈bs,σ.hasB x=true:=dS.has (fun _ _ _ _ _ ht=>ht.has) hP.row
 have htl:t<w.heap.size:=(aj.1 ht).1
 go_enter Tryz.func110,Tryz.ntmps110
 go_wp2
 go_loopw [1,5,6,7] (fun l _ _ _ wr=>GR mp σ S cs bs n q w l wr) (fun l _ _ _ _=>Vk l)
 case atStart=>exact⟨ps,h,m,σ,S,bs,hv,hP,nu.refl hb0,⟨Pk.refl _ _ _,0,A7.refl _,by omega⟩,hI,Step.refl S w⟩
 case round=>
  obtain⟨wo,rfl⟩:∃x:World,x=wr:=⟨_,rfl⟩
  obtain⟨ps,h,m,σ1,S1,bs1,hv1,hP1,hC1,hK1,hI1,hs1⟩:=hrel
  have HPK:=ah hK1;clear hK1
  have HP1:=ah hP1
  have HC1:=ah hC1
  have hlen:=hP1.len
  clear hP1 hC1 hb0 hP hv hI
  have ht1:=ht.step hst hs1
  obtain⟨pao,pc,rfl,_,_,_,_⟩:=aX.form hv1
  by_cases h1:1<ps.length
  ·have x1:(1:Int)<(ps.length:Int):=by omega
   have hb0:=aO wo (.cells #[.slice none 0 0,.slice none 0 0,.slice none 0 0] 165)
   have hG0:GN wo S1 wo.heap.size [] [] (.slice none 0 0) (.slice none 0 0) (wo.alloc (.cells #[.slice none 0 0,.slice none 0 0,.slice none 0 0] 165)):=
    ⟨hb0,aC _,bD wo _,aQ.nil _ _ _ _ _,aQ.nil _ _ _ _ _⟩
   obtain⟨pb,po,rfl⟩:∃pb po,pao=some ⟨pb,po,none⟩:=by
    obtain⟨b,o,e,_⟩:=hv1.at rfl 0 (by omega)
    exact⟨b,o,e⟩
   go_wp2_with fail
   go_loopw [6,7,19] (fun _ _ i wk=>∃(k:Nat) (v1 v2:Value),k<=ps.length/\i= .int .i64 k/\GN wo S1 wo.heap.size (((ps.take k).drop 1).map (·.2)) ((ps.take k).map (·.1)) v1 v2 wk) (fun _ _ i _=>ps.length - (intOf i).toNat)
   case atStart=>exact⟨0,_,_,aT _,rfl,by simpa using hG0⟩
   case round=>
    obtain⟨k,v1,v2,hk,rfl,hG⟩:=hrel
    by_cases hlt:k<ps.length
    ·obtain⟨ns,hns⟩:∃ns,ns=(ps.take k).map (·.1):=⟨_,rfl⟩
     obtain⟨ks,hks⟩:∃ks,ks=((ps.take k).drop 1).map (·.2):=⟨_,rfl⟩
     have hnl:ns.length=k:=by rw[hns];simp;omega
     have hkl:ks.length=k - 1:=by rw[hks];simp;omega
     rw[<-hns,<-hks] at hG
     have hns2:(ps.take (k+1)).map (·.1)=ns++[ps[k].1]:=by rw[hns,aM hlt,bU];rfl
     have HNS:=ah hns2;clear hns hns2
     have hks2:((ps.take (k+1)).drop 1).map (·.2)=if k=0 then ks else ks++[ps[k].2]:=by
      rw[hks,aM hlt]
      split
      ·rename_i e;subst e;simp
      ·rw[eY (by simp;omega),bU];rfl
     have HKS:=ah hks2;clear hks hks2
     obtain⟨_,_,e,d1,d2⟩:=hv1.at rfl k hlt
     cases e
     have d1':=(hG.nD.cell (p:=⟨pb,po+k*2,none⟩) (aD wo _ d1)).trans d1
     have d2':=(hG.nD.cell (p:=⟨pb,po+k*2+1,none⟩) (aD wo _ d2)).trans d2
     have hpb:=aD wr _ d1'
     have hlti:(k:Int)<(ps.length:Int):=by omega
     have hGA:=(hG.below (aO wr (.cells #[.int .i64 ps[k].1,.string ps[k].2] 253)))
     have hPA:(wr.alloc (.cells #[.int .i64 ps[k].1,.string ps[k].2] 253)).heap[wr.heap.size]? =some (.cells #[.int .i64 ps[k].1,.string ps[k].2] 253 (0,0)):=bD wr _
     clear d1 d2
     go_wp2_with fail
     generalize wr.alloc (.cells #[.int .i64 ps[k].1,.string ps[k].2] 253)=wA at hGA hPA ⊢
     have hqb:wo.heap.size<=wr.heap.size:=hG.nD.size
     have hqn:wo.heap.size<wr.heap.size:=hG.lt
     clear d1' d2' hpb hG
     generalize wr.heap.size=qb at hPA hqb hqn ⊢
     have hsub:=hI1.sub
     have o2:=hGA.o2
     rw[hnl] at o2
     obtain⟨ao2,c2,rfl,_,_,_,_⟩:=aX.form o2.dm
     obtain⟨_,_,y2,_,_,_,ly⟩:=cells3 hGA.node
     obtain⟨z0,z1,lz⟩:wA.cell? ⟨qb,0,none⟩=some (.int .i64 ps[k].1)/\wA.cell? ⟨qb,1,none⟩=some (.string ps[k].2)/\qb<wA.heap.size:=⟨by simp[World.cell?,hPA],by simp[World.cell?,hPA],(aj.1 hPA).1⟩
     refine aP (fun W=>W.cell? ⟨wo.heap.size,2,none⟩=some (.slice ao2 k c2)/\wo.heap.size<W.heap.size/\W.cell? ⟨qb,0,none⟩=some (.int .i64 ps[k].1)/\qb<W.heap.size) (fun i=> !([7,8,11].contains i)) [0,1,2,3,4,5,6,7,8,9,10,11] rfl (by kernel_rfl) ⟨y2,ly,z0,lz⟩ ?_
     repeat ((refine bP (v:= ?_) rfl rfl (fun _ _ _ h=>h) rfl (fun W hW=> ?_) ?_);rotate_left;(focus ((try dsimp only at hW);obtain⟨q0,q1,q2,q3⟩:=hW;first|(go_simp;first|done|with_reducible rfl)));(try simp only[Act.put,ai,ax,au]))
     refine dK rfl rfl rfl ?_;intro K hK;go_simp
     have hbB:=(aO wA (.cells #[.int .i64 ps[k].1] 3)).drew
     have hGB:=hGA.below hbB
     have oB:=o2.below hbB
     obtain⟨_,_,y2,_,_,_,ly⟩:=cells3 hGB.node
     have z0B:=(hbB.cell (p:=⟨qb,0,none⟩) lz).trans z0
     have lzB:=ak lz hbB.size
     refine hK.out _ _ ⟨y2,ly,z0B,lzB⟩ ?_
     (try simp only[Act.put,ai,ax,au])
     have hPB:=(hbB.block qb lz).trans hPA
     have hsrc:Src Tryz.prog 1 93 (.slice (some ⟨wA.heap.size,0,none⟩) 1 1) 1 [.int .i64 ps[k].1] (wA.alloc (.cells #[.int .i64 ps[k].1] 3)).drew:=(mq (w:=wA) (S:=S1) (B:=wo.heap.size) (e:=3) (k:=1) [.int .i64 ps[k].1] 1 1 rfl rfl (aC _) (by simp[maxLen]) hGA.nD.size (fun g hg=>ak (hsub g hg) hGA.nD.size)).drew.dm.src bf (by intro u hu;rw[bO.1 hu];rfl)
     have hsubB:∀g,S1 g->g<(wA.alloc (.cells #[.int .i64 ps[k].1] 3)).drew.heap.size:=fun g hg=>ak (ak (hsub g hg) hGA.nD.size) hbB.size
     have hszB:=hGB.nD.size
     generalize (wA.alloc (.cells #[.int .i64 ps[k].1] 3)).drew=wB at hGB oB hPB hsrc hsubB hszB ⊢
     refine dK rfl rfl rfl ?_;intro K hK
     refine nK (.tmp 28) (.tmp 31) 93 93 rfl S1 wo.heap.size 3 1 8 _ bf gX rfl (.slice ao2 k c2) k (ns.map (.int .i64)) rfl oB (.slice (some ⟨wA.heap.size,0,none⟩) 1 1) 1 [.int .i64 ps[k].1] rfl hsrc hsubB hszB (by unfold maxLen;omega) (by omega) ?_
     intro ao3 c3 w3 hown3 hk3 hb3 hd3
     have hG3:=hGB.TD hk3 hb3 (ns':=ns++[ps[k].1]) (v2':= .slice ao3 (k+1) c3) (by rw[ay,dM,hnl,bU];exact hown3)
     have hN3:w3.heap[wo.heap.size]? =_:=(hk3.block _ hGB.lt (hGB.o2.ne hGB.node (by decide))).trans hGB.node
     have hP3:w3.heap[qb]? =_:=(hk3.block qb (aj.1 hPB).1 (oB.ne hPB (by decide))).trans hPB
     obtain⟨_,_,y2,_,_,yf,ly⟩:=cells3 hN3
     have z3:w3.cell? ⟨qb,0,none⟩=some (.int .i64 ps[k].1):=by simp[World.cell?,hP3]
     have l3:=(aj.1 hP3).1
     refine hK.out _ _ ⟨y2,ly,z3,l3⟩ ?_
     (try simp only[Act.put,ai,ax,au])
     repeat ((refine bP (v:= ?_) rfl rfl (fun _ _ _ h=>h) rfl (fun W hW=> ?_) ?_);rotate_left;(focus ((try dsimp only at hW);obtain⟨q0,q1,q2,q3⟩:=hW;first|(go_simp;first|done|with_reducible rfl)));(try simp only[Act.put,ai,ax,au]))
     refine jO rfl rfl rfl (by kernel_rfl) ?_;intro K hK;go_simp
     refine hK.out _ _ ?_
     refine bS ?_
     have hk4:Keep (· =wo.heap.size) w3 (w3.setCell ⟨wo.heap.size,2,none⟩ (.slice ao3 (k+1) c3)):=Keep.setCell (M:=(· =wo.heap.size)) (p:=⟨wo.heap.size,2,none⟩) (Keep.refl _ _) (.inr rfl) _
     have hP4:=(hk4.block qb l3 (by omega)).trans hP3
     generalize w3.setCell ⟨wo.heap.size,2,none⟩ (.slice ao3 (k+1) c3)=w4 at hG3 hP4 ⊢
     clear hk4 hN3 hP3 hGB oB hPB hsrc hsubB hGA hPA o2 hown3 hk3 hb3 hd3 y2 yf ly z3 l3 z0 z1 lz z0B lzB hbB hszB
     by_cases hk0:k=0
     ·have x2:¬(0:Int)<(k:Int):=by omega
      have HK0:=ah hk0;clear hk0
      go_wp2_with fail
      go_roundw
      case rel=>exact⟨k+1,_,_,by omega,by go_num,by rw[HNS.out,HKS.out,if_pos HK0.out];exact hG3⟩
      case measure=>simp[intOf];omega
     ·have x2:(0:Int)<(k:Int):=by omega
      have hkn:k - 1+1=k:=by omega
      have HK0:=ah hk0;clear hk0
      have o1:=hG3.o1
      rw[hkl] at o1
      have v14:aX w4 S1 1 v1 (k - 1) (ks.map .string):=o1.dm
      obtain⟨ao5,c5,rfl,_,_,_,_⟩:=aX.form v14
      clear v14
      obtain⟨_,y1,_,_,_,_,ly⟩:=cells3 hG3.node
      obtain⟨z1,lz⟩:w4.cell? ⟨qb,1,none⟩=some (.string ps[k].2)/\qb<w4.heap.size:=⟨by simp[World.cell?,hP4],(aj.1 hP4).1⟩
      go_wp2_with fail
      refine aP (fun W=>W.cell? ⟨wo.heap.size,1,none⟩=some (.slice ao5 (k - 1) c5)/\wo.heap.size<W.heap.size/\W.cell? ⟨qb,1,none⟩=some (.string ps[k].2)/\qb<W.heap.size) (fun i=> !([7,8,11].contains i)) [0,1,2,3,4,5,6,7,8,9,10,11] rfl (by kernel_rfl) ⟨y1,ly,z1,lz⟩ ?_
      repeat ((refine bP (v:= ?_) rfl rfl (fun _ _ _ h=>h) rfl (fun W hW=> ?_) ?_);rotate_left;(focus ((try dsimp only at hW);obtain⟨q0,q1,q2,q3⟩:=hW;first|(go_simp;first|done|with_reducible rfl)));(try simp only[Act.put,ai,ax,au]))
      refine dK rfl rfl rfl ?_;intro K hK;go_simp
      have hbB:=(aO w4 (.cells #[.string ps[k].2] 9)).drew
      have hGB:=hG3.below hbB
      have oB:=o1.below hbB
      obtain⟨_,y1,_,_,_,_,ly⟩:=cells3 hGB.node
      have z1B:=(hbB.cell (p:=⟨qb,1,none⟩) lz).trans z1
      have lzB:=ak lz hbB.size
      refine hK.out _ _ ⟨y1,ly,z1B,lzB⟩ ?_
      (try simp only[Act.put,ai,ax,au])
      have hPB:=(hbB.block qb lz).trans hP4
      have hsrc:Src Tryz.prog 1 142 (.slice (some ⟨w4.heap.size,0,none⟩) 1 1) 1 [.string ps[k].2] (w4.alloc (.cells #[.string ps[k].2] 9)).drew:=(mq (w:=w4) (S:=S1) (B:=wo.heap.size) (e:=9) (k:=1) [.string ps[k].2] 1 1 rfl rfl (aC _) (by simp[maxLen]) hG3.nD.size (fun g hg=>ak (hsub g hg) hG3.nD.size)).drew.dm.src aY (by intro u hu;rw[bO.1 hu];rfl)
      have hsubB:∀g,S1 g->g<(w4.alloc (.cells #[.string ps[k].2] 9)).drew.heap.size:=fun g hg=>ak (ak (hsub g hg) hG3.nD.size) hbB.size
      have hszB:=hGB.nD.size
      generalize (w4.alloc (.cells #[.string ps[k].2] 9)).drew=wB at hGB oB hPB hsrc hsubB hszB ⊢
      refine dK rfl rfl rfl ?_;intro K hK
      refine nK (.tmp 41) (.tmp 44) 142 142 rfl S1 wo.heap.size 9 1 16 _ aY gW rfl (.slice ao5 (k - 1) c5) (k - 1) (ks.map .string) rfl oB (.slice (some ⟨w4.heap.size,0,none⟩) 1 1) 1 [.string ps[k].2] rfl hsrc hsubB hszB (by unfold maxLen;omega) (by omega) ?_
      intro ao6 c6 w6 hown6 hk6 hb6 hd6
      have hG6:=hGB.Pw hk6 hb6 (ks':=ks++[ps[k].2]) (v1':= .slice ao6 (k - 1+1) c6) (by rw[ay,dM,hkl,bU];exact hown6)
      have hN6:w6.heap[wo.heap.size]? =_:=(hk6.block _ hGB.lt (hGB.o1.ne hGB.node (by decide))).trans hGB.node
      have hP6:w6.heap[qb]? =_:=(hk6.block qb (aj.1 hPB).1 (oB.ne hPB (by decide))).trans hPB
      obtain⟨_,y1,_,_,yf,_,ly⟩:=cells3 hN6
      have z6:w6.cell? ⟨qb,1,none⟩=some (.string ps[k].2):=by simp[World.cell?,hP6]
      have l6:=(aj.1 hP6).1
      refine hK.out _ _ ⟨y1,ly,z6,l6⟩ ?_
      (try simp only[Act.put,ai,ax,au])
      repeat ((refine bP (v:= ?_) rfl rfl (fun _ _ _ h=>h) rfl (fun W hW=> ?_) ?_);rotate_left;(focus ((try dsimp only at hW);obtain⟨q0,q1,q2,q3⟩:=hW;first|(go_simp;first|done|with_reducible rfl)));(try simp only[Act.put,ai,ax,au]))
      refine jO rfl rfl rfl (by kernel_rfl) ?_;intro K hK;go_simp
      refine hK.out _ _ ?_
      refine bS ?_
      rw[hkn] at hG6
      clear y1 yf ly z6 l6 hN6 hP6 hGB oB hPB hsrc hsubB hown6 hk6 hb6 hd6 hszB
      go_wp2_with fail
      go_roundw
      case rel=>exact⟨k+1,_,_,by omega,by go_num,by rw[HNS.out,HKS.out,if_neg HK0.out];exact hG6⟩
      case measure=>simp[intOf];omega
    ·obtain rfl:k=ps.length:=by omega
     rw[bR] at hG
     have x2:¬(ps.length:Int)<(ps.length:Int):=by omega
     have hRo:lV ⟨[],(ps.drop 1).map (·.2),ps.map (·.1)⟩ ⟨#[]⟩ (lC ⟨#[]⟩ ps):=by
      constructor
      ·rw[Ei]
       cases ps with
       |nil=>simp at h1
       |cons p r=>simp[lS]
      ·rw[Eh]
     have hm2:m=2:=HP1.out.single.resolve_right (by omega)
     subst hm2
     have ok:Nd.Ok ⟨[],(ps.drop 1).map (·.2),ps.map (·.1)⟩:=hRo.ok rfl (fun k hk=>by
      obtain⟨p,hp,rfl⟩:=eT.1 hk
      exact HP1.out.key p (dh hp)) (dS.Gt (fun _ _ _ _ _ ht=>ht.top) HP1.out.row) (by rw[yK];omega)
     have hkne:(ps.map (·.1))≠[]:=fun e=>by rw[List.map_eq_nil_iff.1 e] at h1;simp at h1
     have rm2:=Co ok hRo
     have rm1:=fun hR=>tH (Lr:=σ1.most) ok hRo HP1.out.row (HC1.out.room hR) hcs
     have HRML:=ah (show ∀Lr,lD Lr σ bs n->σ1.sz+Nd.room ⟨[],(ps.drop 1).map (·.2),ps.map (·.1)⟩<=Lr from fun Lr hR=>tH ok hRo HP1.out.row (HC1.out.BR hR) hcs)
     have hnode:gG wr S1 wo.heap.size ⟨[],(ps.drop 1).map (·.2),ps.map (·.1)⟩:=⟨fun hs=>absurd (hI1.sub _ hs) (dB _),_,_,_,hG.node,aX.nil _ _ _,hG.o1.dm,hG.o2.dm⟩
     have hIr:=hI1.below hG.nD
     have htr:=ht1.1.step ht1.2 (Step.of_below (S:=S1) hG.nD)
     obtain⟨_,_,e,d1,d2⟩:=hv1.at rfl 0 (by omega)
     cases e
     rw[uz,iw] at d2
     have d2':=(hG.nD.cell (p:=⟨pb,po+1,none⟩) (aD wo _ d2)).trans d2
     have hpb:=aD wr _ d2'
     have hlp:(0:Int)<(ps.length:Int):=by omega
     have hlp2:0<ps.length:=by omega
     have hRM:=ah rm1
     have HRO:=ah hRo
     have hroom2:=ah rm2
     clear rm1 rm2 hRo d1 d2
     go_wp2_with (first
      |(go_at_call 150;go_must ((refine(qJ t mp root err _ σ1 S1 wo.heap.size ⟨[],(ps.drop 1).map (·.2),ps.map (·.1)⟩ _ wr hIr htr.1 htr.2 hnode ok (iC _)).mono ?_);rintro e w6 (⟨v6,ps6,zs,σ3,S3,rfl,p2,p3,p4,p5,p6⟩|⟨hno,rfl,τ,Sτ,g1,g2,g3,g4⟩)<;>refine Stop.of ?_)))
     rotate_left
     ·refine Stop.on ?_
      exact⟨rfl,.inr ⟨fun hR=>absurd (hRM.out hR) (gI.2 hno),rfl,τ,Sτ,g1,(hs1.trans (Step.of_below hG.nD)).trans g2,g3.trans HC1.out.H,g4.trans HC1.out.most⟩⟩
     refine Stop.on ?_
     go_wp2_with fail
     obtain⟨m3,bs3,q1,q2⟩:=Bc p3 (lo:=⟨#[]⟩) (hi:=none) (h:=h+1) (cs:=cs) (bs:=bs1) ok ⟨hkne,by rw[HRO.out.row];exact HP1.out.row⟩ p4 hI1.NN (HC1.out.nd hn) (dS.has (fun _ _ _ _ _ ht=>ht.has) HP1.out.row) (HP1.out.key _ (bE hlp2)) (by have:=hroom2.out;simp at this ⊢;omega)
     have hl6:ps6.length<ps.length:=by
      have e1:=p3.room ok
      have e2:=p4.length.1
      simp[Nd.room] at e1
      have:¬ps=[]:=fun e=>by rw[e] at h1;simp at h1
      rw[if_neg this] at e1
      omega
     have hl7:ps6.length<=1\/2*ps6.length<=ps.length:=by
      have e1:=p3.room ok
      have e2:=p4.length.1
      simp[Nd.room] at e1
      have:¬ps=[]:=fun e=>by rw[e] at h1;simp at h1
      rw[if_neg this] at e1
      omega
     go_roundw
     case rel=>exact⟨ps6,h+1,m3,σ3,S3,bs3,p2.dm,q1,HC1.out.trans q2,⟨fun Lr hR t=>yI p3 ok p4 (HRML.out Lr hR) (HPK.out.1 Lr hR t),by obtain⟨W,w1,w2⟩:=HPK.out.2;exact⟨W+ps6.length,w1.trans p4.UI,by omega⟩⟩,p5,(hs1.trans (Step.of_below hG.nD)).trans p6⟩
     case measure=>
      obtain⟨ao6,c6,rfl,_⟩:=aX.form p2.dm
      exact hl6
  ·have x1:¬(1:Int)<(ps.length:Int):=by omega
   by_cases h0:ps.length=0
   ·have x0:(ps.length:Int)=0:=by omega
    have hp0:ps=[]:=aV h0
    subst hp0
    obtain⟨hc0,hb0⟩:=HP1.out.row
    have HC0:=ah hc0
    have HB0:=ah hb0
    clear hc0 hb0 h0 x0
    go_wp2_with fail
    go_ret
    exact .inl ⟨0,σ1,S1,bs1,rfl,.inl ⟨rfl,HC0.out,HB0.out⟩,HC1.out,⟨HPK.out.1,by obtain⟨W,w1,w2⟩:=HPK.out.2;exact w1.more (by omega)⟩,hI1,hs1⟩
   ·have h11:ps.length=1:=by omega
    obtain⟨p,hp⟩:∃p,ps=[p]:=List.length_eq_one_iff.1 h11
    subst hp
    obtain⟨c1,c2,y1,y2,hT,⟨hc2,hy2⟩,hc,hy⟩:=HP1.out.row
    subst hc2 hy2
    rw[dJ] at hc hy
    subst hc hy
    have HT:=ah hT;clear hT
    obtain⟨pb,po,e,d1,d2⟩:=hv1.at rfl 0 (iC 0)
    subst e
    have d1':wo.cell? ⟨pb,po,none⟩=some (.int .i64 p.1):=d1
    have hpl:pb<wo.heap.size:=aD wo _ d1
    clear d1 d2 h0 h11 h1
    go_wp2_with fail
    go_loopw [8,9,10,11] (fun x y _ _ wx=>∃(b:Int) (d h m:Nat) (σ2:bZ) (S2:Nat->Prop) (bs2:List Int),x= .int .i64 b/\y= .int .i64 d/\jg σ2 h m ⟨#[]⟩ none b cs bs2/\(m=2\/d=0)/\d<=1/\nu σ σ2 bs bs2/\(Pk σ σ2 bs n/\A7 σ σ2 q)/\Inv σ2 S2 mp wx/\Step S S2 w wx) (fun _ y _ _ _=>2 - (intOf y).toNat)
    case atStart=>exact⟨p.1,0,h,m,σ1,S1,_,rfl,rfl,HT.out,.inr rfl,by omega,HC1.out,⟨HPK.out.1,by obtain⟨W,w1,w2⟩:=HPK.out.2;exact w1.more (by omega)⟩,hI1,hs1⟩
    case round=>
     obtain⟨wo2,rfl⟩:∃x:World,x=wr:=⟨_,rfl⟩
     obtain⟨b,d,h2,m2,σ2,S2,bs2,rfl,rfl,hT2,hmd,hd1,hC2,hK2,hI2,hs2⟩:=hrel
     have HPK2:=ah hK2;clear hK2
     obtain⟨nd,bs3,hB,ok,hNr,hKd,hne,rfl⟩:=tu.1 hT2
     have HT2:=ah hT2;clear hT2
     have HC2:=ah hC2;clear hC2
     have ht2:=ht.step hst hs2
     have hd40:(d:Int)<=40:=by omega
     have hnk:=hB.fits.nk
     by_cases hk1:nd.kids.length=1
     ·obtain⟨h3,rfl⟩:∃h3,h2=h3+1:=by
       cases h2 with
       |zero=>have:=hNr.1;rw[this] at hk1;simp at hk1
       |succ h3=>exact⟨h3,rfl⟩
      have hd0:d=0:=hmd.resolve_left (fun e=>by
       have:=hKd.resolve_left (by omega)
       omega)
      have x1:(nd.kids.length:Int)=1:=by omega
      have HK1:=ah hk1
      have HD0:=ah hd0
      have hrow:=rowOf ok hNr.1 ⟨#[]⟩
      obtain⟨b0,l,e,e2,e3⟩:=pO ok.kk hNr.1 ⟨#[]⟩
      have hl0:l=[]:=by
       have:=congrArg List.length e3
       simp at this
       exact aV (by omega)
      subst hl0
      have hr2:=hNr.2
      unfold Nd.row at hr2
      rw[e] at hr2
      obtain⟨c1,c2,y1,y2,hT3,⟨hc2,hy2⟩,hc,hy⟩:=hr2
      subst hc2 hy2
      rw[dJ] at hc hy
      subst hc hy
      have E3:=ah e3
      clear e e2 e3 hk1 hd0 hrow
      have cg:=CZ hI2 hB.has
      have hnd3:=HC2.out.nd hn
      have cl:=cg.left (us:=[b]) (bs:=[]) (rs:=bs3) hnd3 (fun x hx=>HT2.out.has x (aW _ hx))
      have hT4:=hT3.keep cg (fun y hy e=>(lu.1 hnd3).1 (by rw[<-bO.1 e];exact hy))
      have hm:∀w,(method 454 97 mp.agg "Free").run Tryz.prog w= .ok (258,.pointer (some ⟨mp.mp,0,none⟩)) w:=fun _=>by kernel_rfl
      go_wp2_with (first
       |(go_at_call 93;go_must ((refine(mU t mp root err b d σ2 S2 nd _ hI2 ht2.1 hB hd40).mono ?_);rintro e w1 ⟨nb,rfl,hn1,hb1⟩))
       |(go_at_call 151;go_must ((refine(oL _).mono ?_);rintro e w2 ⟨rfl,hw⟩;subst w2;refine Stop.of ?_)))
      refine Stop.on ?_
      obtain⟨_,v0,v1,v2,bN,_,_,N2⟩:=hn1.jT
      obtain⟨ao2,cp2,rfl,_,_,_,_⟩:=aX.form N2
      obtain⟨_,_,y2,_,_,_,ly⟩:=cells3 bN
      obtain⟨tc0,_,_,_,_,_,tl0⟩:=cells3 ((hb1.block t (aj.1 ht2.1).1).trans ht2.1)
      go_wp2_with (first
       |(go_at_call 258;go_must ((refine(sK mp σ2 S2 w1 b (hI2.below hb1) hB.lo hB.has).mono ?_);rintro e w3 ⟨rfl,hI3,hs3⟩;refine Stop.of ?_)))
      refine Stop.on ?_
      obtain⟨_,v0',v1',v2',bN3,_,_,N23⟩:=hn1.jT.step hs3
      obtain⟨ao3,cp3,rfl,_,_,_,_⟩:=aX.form N23
      obtain⟨pb2,po2,rfl,d2⟩:=N23.at rfl 0 (by rw[HK1.out];exact iC 0)
      have hk0:nd.kids[0]'(by rw[HK1.out];exact iC 0)=b0:=by
       have:=E3.out
       simp at this
       simp[this]
      rw[hk0,iw] at d2
      obtain⟨_,_,y2,_,_,_,ly⟩:=cells3 bN3
      have hp2:=aD w3 _ d2
      go_wp2_with (first
       |(go_at_call 151;go_must ((refine(oL _).mono ?_);rintro e w2 ⟨rfl,hw⟩;subst w2)))
      go_roundw
      case rel=>exact⟨b0,d+1,h3,2,σ2.gone b,S2,bs3,rfl,by go_num,hT4,.inl rfl,by have:=HD0.out;omega,HC2.out.trans cl,⟨HPK2.out.1,by have:=HPK2.out.2.trans (vC σ2 b);rwa [iw] at this⟩,hI3,(hs2.trans (Step.of_below hb1)).trans hs3⟩
      case measure=>simp[intOf];omega
     ·have x1:¬(nd.kids.length:Int)=1:=by omega
      have x1':((nd.kids.length:Int)==1)=false:=by rw[fG];omega
      have HK1:=ah hk1;clear hk1
      go_wp2_with (first
       |(go_at_call 93;go_must ((refine(mU t mp root err b d σ2 S2 nd _ hI2 ht2.1 hB hd40).mono ?_);rintro e w1 ⟨nb,rfl,hn1,hb1⟩))
       |(go_at_call 151;go_must ((refine(oL _).mono ?_);rintro e w2 ⟨rfl,hw⟩;subst w2;refine Stop.of ?_)))
      refine Stop.on ?_
      obtain⟨_,v0,v1,v2,bN,_,_,N2⟩:=hn1.jT
      obtain⟨ao2,cp2,rfl,_,_,_,_⟩:=aX.form N2
      obtain⟨_,_,y2,_,_,_,ly⟩:=cells3 bN
      go_wp2_with fail
      go_ret
      refine .inl ⟨b,σ2,S2,_,rfl,.inr ⟨h2,tu.2 ⟨nd,bs3,hB,ok,hNr,?_,hne,rfl⟩⟩,HC2.out,HPK2.out,hI2.below hb1,hs2.trans (Step.of_below hb1)⟩
      cases h2 with
      |zero=>exact .inl rfl
      |succ h2=>exact .inr (by have:=dx.2 hNr.1;have:=HK1.out;omega)
theorem Ch (c:List Pr)(key:ByteArray)(h:∀p∈c,lt key p.1=true):cO c key=0:=uW [] c key h
theorem Pd {σ:bZ}{key:ByteArray}{h:Nat}{hi:Option ByteArray}(hW:∀k z b c x,jg σ h 2 k z b c x->vS σ key h b (c.drop (cO c key))):∀{l:List (ByteArray×Int)} {cs:List Pr} {bs:List Int},dS (jg σ h 2) hi l cs bs->(∀p∈cs,lt key p.1=true)->
  ∃Ls:List (List Pr),Ls.length=(l.map (·.2)).length/\(∀i (h1:i<(l.map (·.2)).length) (h2:i<Ls.length),vS σ key h (l.map (·.2))[i] Ls[i])/\Ls.flatten=cs
 |[],_,_,⟨e,_⟩,_=>⟨[],rfl,fun i h1=>absurd h1 (by simp),e.symm⟩
 |(k,b)::l,_,_,hr,hp=>by
  obtain⟨c,cs',x,bs',h1,h2,rfl,rfl⟩:=hr
  obtain⟨Ls,q1,q2,q3⟩:=Pd hW h2 (fun p hp'=>hp p (dL _ hp'))
  have hw:=hW _ _ _ _ _ h1
  rw[Ch c key (fun p hp'=>hp p (dI _ hp')),dP] at hw
  refine⟨c::Ls,by simp at q1 ⊢;exact q1,fun i i1 i2=> ?_,by rw[Td,q3]⟩
  cases i with
  |zero=>exact hw
  |succ i=>exact q2 i (by simpa using i1) (by simpa using i2)
theorem Lp {σ:bZ}{key:ByteArray}{h:Nat}{hi:Option ByteArray}(hW:∀k z b c x,jg σ h 2 k z b c x->vS σ key h b (c.drop (cO c key))):∀{r:List (ByteArray×Int)} {k:ByteArray} {b:Int} {cs:List Pr} {bs:List Int},dS (jg σ h 2) hi ((k,b)::r) cs bs->
  ∃Ls:List (List Pr),Ls.length=((b::r.map (·.2)).drop (iV (r.map (·.1)) key)).length/\(∀i (h1:i<((b::r.map (·.2)).drop (iV (r.map (·.1)) key)).length) (h2:i<Ls.length),vS σ key h ((b::r.map (·.2)).drop (iV (r.map (·.1)) key))[i] Ls[i])/\Ls.flatten=cs.drop (cO cs key)
 |[],k,b,_,_,hr=>by
  obtain⟨c,cs',x,bs',h1,⟨rfl,rfl⟩,rfl,rfl⟩:=hr
  refine⟨[c.drop (cO c key)],by simp[iV],fun i i1 i2=> ?_,by simp⟩
  have:i=0:=by simp at i2;exact i2
  subst this
  exact hW _ _ _ _ _ h1
 |(k1,b1)::r,k,b,_,_,hr=>by
  obtain⟨c,cs',x,bs',h1,h2,rfl,rfl⟩:=hr
  have hT:∀k z b c x,jg σ h 2 k z b c x->Content k z c:=fun _ _ _ _ _ ht=>ht.content
  cases hlt:lt key k1 with
  |true=>
   have hc:=dS.content hT h2
   have hall:∀p∈cs',lt key p.1=true:=fun p hp=>Cs hlt (hc.within p hp).1
   obtain⟨Ls,q1,q2,q3⟩:=Pd hW h2 hall
   have e:iV (((k1,b1)::r).map (·.1)) key=0:=by simp[iV,hlt]
   simp only[e,dP]
   refine⟨c.drop (cO c key)::Ls,by simp at q1 ⊢;exact q1,fun i i1 i2=> ?_,?_⟩
   ·cases i with
    |zero=>exact hW _ _ _ _ _ h1
    |succ i=>exact q2 i (by simpa using i1) (by simpa using i2)
   ·rw[Td,q3,uW c cs' key hall,eY (pU _ _)]
  |false=>
   obtain⟨Ls,q1,q2,q3⟩:=Lp hW h2
   have e:iV (((k1,b1)::r).map (·.1)) key=iV (r.map (·.1)) key+1:=by simp[iV,hlt]
   have hall:∀p∈c,lt p.1 key=true:=fun p hp=>Cs ((hT _ _ _ _ _ h1).within p hp|>.2 k1 rfl) hlt
   simp only[e,gm]
   refine⟨Ls,by simpa using q1,fun i i1 i2=>q2 i (by simpa using i1) i2,?_⟩
   rw[q3,xQ c cs' key hall,ou,fq (l:=c) (by omega),dF,jq]
theorem jg.walk {σ:bZ}{key:ByteArray}:∀{h m:Nat} {lo:ByteArray} {hi:Option ByteArray} {b:Int} {cs:List Pr} {bs:List Int},jg σ h m lo hi b cs bs->vS σ key h b (cs.drop (cO cs key))
 |0,_,_,_,_,_,_,⟨nd,h1,_,h3,h4,_,h6,_,_⟩=>by
  subst h4
  exact .leaf h1 h3 h6
 |h+1,m,lo,hi,b,cs,bs,⟨nd,bs',h1,h2,h3,_,_,h6⟩=>by
  have hkeys:=jg.rising h2 h3 h6
  obtain⟨b0,l,e,e2,e3⟩:=pO h2.kk h3 lo
  unfold Nd.row at h6
  rw[e] at h6
  obtain⟨Ls,q1,q2,q3⟩:=Lp (key:=key) (fun _ _ _ _ _ ht=>jg.walk ht) h6
  have e4:(l.map (·.1))=nd.keys:=e2
  have e5:b0::l.map (·.2)=nd.kids:=e3.symm
  simp only[e4,e5] at q1 q2
  rw[<-q3]
  exact .inner Ls h1 h3 hkeys q1 q2
theorem dS.pow {T:ByteArray->Option ByteArray->Int->List Pr->List Int->Prop}{p:Nat}(hT:∀k z b c x,T k z b c x->p<=c.length){hi:Option ByteArray}:∀{l:List (ByteArray×Int)} {cs:List Pr} {bs:List Int},dS T hi l cs bs->l.length*p<=cs.length
 |[],_,_,_=>by simp
 |(k,b)::l,_,_,h=>by
  obtain⟨c,cs',x,bs',h1,h2,rfl,rfl⟩:=h
  have a:=hT _ _ _ _ _ h1
  have b:=dS.pow hT h2
  simp only[ay,aZ,eH,jX];omega
theorem jg.pow {σ:bZ}:∀{h:Nat} {lo:ByteArray} {hi:Option ByteArray} {b:Int} {cs:List Pr} {bs:List Int},jg σ h 2 lo hi b cs bs->2^h<=cs.length
 |0,_,_,_,_,_,⟨_,_,_,_,_,h5,_,_,_⟩=>by
  rw[Nat.pow_zero]
  exact dx.2 h5
 |h+1,_,_,_,_,_,⟨nd,bs',_,h2,h3,h4,h5,h6⟩=>by
  have:=dS.pow (fun _ _ _ _ _ ht=>jg.pow ht) h6
  rw[nd.mO h2 h3] at this
  have:2*2^h<=nd.kids.length*2^h:=bY _ h4
  rw[zJ];omega
theorem jg.low {σ:bZ}{h:Nat}{lo:ByteArray}{hi:Option ByteArray}{b:Int}{cs:List Pr}{bs:List Int}(ht:jg σ h 2 lo hi b cs bs)(hl:cs.length<=4095):h<=11:=by
 have h1:=ht.pow
 rcases jf 11 h with h2|h2
 ·have:2^12<=2^h:=xI (by omega) h2
  omega
 ·exact h2
theorem zG.has {σ:bZ}{root:Int}{cs:List Pr}{bs:List Int}(h:zG σ root cs bs):∀x∈bs,σ.hasB x=true:=by
 rcases h with ⟨_,_,rfl⟩|⟨h,ht⟩
 ·simp
 ·exact ht.has
theorem zG.count {σ:bZ}{root:Int}{cs:List Pr}{bs:List Int}(h:zG σ root cs bs):bs.length<=2*cs.length:=by
 rcases h with ⟨_,_,rfl⟩|⟨h,ht⟩
 ·simp
 ·exact ht.TY
theorem zG.keep {σ σ':bZ}{us bs':List Int}(hc:nu σ σ' us bs'){root:Int}{cs:List Pr}{bs:List Int}(h:zG σ root cs bs)(hd:∀x∈bs,x∉us\/False):zG σ' root cs bs:=by
 rcases h with h|⟨h,ht⟩
 ·exact .inl h
 ·exact .inr ⟨h,ht.move fun x hx=>hc.frame x (ht.has x hx) (hd x hx)⟩
theorem zG.look {σ:bZ}{root:Int}{cs:List Pr}{bs:List Int}(h:zG σ root cs bs)(hl:cs.length<=4095)(key:ByteArray):∃n,n<=40/\Look σ key n root (fD cs key):=by
 rcases h with ⟨rfl,rfl,_⟩|⟨h,ht⟩
 ·exact⟨0,by omega,.nil⟩
 ·exact⟨h,by have:=ht.low hl;omega,ht.look ⟨by cases hq:lt key ⟨#[]⟩ with|false=>rfl|true=>(simp[lt,toList_eq] at hq;cases hb:key.data.toList<;>simp[hb,Op.bytesLess] at hq),fun y hy=>by cases hy⟩⟩
theorem yU (k:ByteArray):lt k ⟨#[]⟩=false:=by
 cases hq:lt k ⟨#[]⟩ with
 |false=>rfl
 |true=>(simp[lt,toList_eq] at hq;cases hb:k.data.toList<;>simp[hb,Op.bytesLess] at hq)
def K5 (σ:bZ)(bs:List Int)(cs:List Pr)(n:Nat)(σ':bZ)(b:Int):Prop:=∃bs',zG σ' b cs bs'/\nu σ σ' bs bs'/\Pk σ σ' bs n/\(cs.length<=299->A7 σ σ' 65)
theorem Rj {σ:bZ}{root:Int}{cs:List Pr}{bs:List Int}(hT:zG σ root cs bs)(hn:bs.Nodup)(hl:cs.length<=4090)(t:Nat)(mp:VS)(S:Nat->Prop)(key:ByteArray)(hks:key.size<=128)(g:Nat)(cb:Array Value)(F:List Pr->List Pr)(vs:List (Nat×ByteArray))(hent:∀args w,(callFunc g args).run Tryz.prog w= .ok (.enter g args) w)(hf:EL g cb F vs)(hF:K7 F key)
  (W:World) (h:Inv σ S mp W) (ht:dG W t mp root 0) (hst:¬S t) (hbx:xE W S vs):EG t mp root key g cb σ S (¬Room σ bs (cs.length+1)) (K5 σ bs (F cs) (cs.length+1)) W:=by
 have hFl:=hF.len cs
 rcases hT with ⟨rfl,rfl,rfl⟩|⟨h',hT⟩
 ·have ok:Nd.Ok ⟨F [],[],[]⟩:=⟨fun p hp=>by
   rcases hF.mem _ uJ p hp with h|h
   ·cases h
   ·exact h.2,by simp,by simp,rfl,by simp,by simp at hFl;show (F []).length<=2000;omega,by simp⟩
  simp only[bV] at hFl
  refine(ND t mp 0 0 0 σ S key ⟨#[]⟩ g cb F vs hent hf W h ht hst hbx ok).mono ?_
  rintro e w1 (⟨v,ps,zs,σ',S',rfl,p2,p3,p4,p5,p6⟩|⟨hno,hg⟩)
  rotate_left
  ·refine .inr ⟨fun hR=> ?_,hg⟩
   unfold Room at hR;simp[nh] at hR;unfold Nd.room at hno;simp only[iI] at hno;omega
  obtain⟨m,bs',q1,q2⟩:=Bc p3 (lo:=⟨#[]⟩) (hi:=none) (h:=0) (cs:=F []) (bs:=[]) ok ⟨rfl,rfl,hF.rise _ uJ,fun p hp=>⟨yU _,fun y hy=>by cases hy⟩,rfl⟩ p4 h.NN qz (by simp) hks (by unfold Nd.room;simp only[iI];omega)
  refine .inl ⟨v,S',rfl,p6,?_⟩
  have ht1:=ht.step hst p6
  refine(Iu t mp 0 0 σ' v ps 0 m (F []) bs' _ S' w1 p5 ht1.1 ht1.2 p2.dm q1 (q2.nd qz) (by simpa using hFl) (ps.length - 1) (aC _)).mono ?_
  rintro e2 w2 (⟨b,σ2,S2,bs2,rfl,r1,r2,⟨rk,rt⟩,r3,r4⟩|⟨hno,hg⟩)
  rotate_left
  ·exact .inr ⟨fun hR=>hno (q2.room hR),hg.after (Step.refl _ _) q2.H q2.most⟩
  exact .inl ⟨b,σ2,S2,rfl,r3,r4,bs2,r1,q2.trans r2,Pk.trans (fun L r t=>yI p3 ok p4 (by unfold lD at r;simp[nh] at r;unfold Nd.room;simp only[iI];omega) t) q2 rk,fun _=>(p4.UI.trans rt).more (by
   have e1:=p4.length.1
   have e2:=p3.small (by
    have f1:=hF.size []
    have f2:d9 []=0:=rfl
    have f3:Nd.size ⟨F [],[],[]⟩=2+d9 (F []):=by simp[Nd.size,eB]
    omega)
   omega)⟩
 ·have hh:=hT.low (by omega)
  refine(Iz t mp root 0 key g cb F vs hent hf hF hks h' σ S root 0 ⟨#[]⟩ ⟨#[]⟩ none cs bs W h ht hst hbx hT hn ⟨yU _,fun y hy=>by cases hy⟩ (by omega) (by omega) (aT _)).mono ?_
  rintro e w1 (⟨v,ps,σ',S',bs',m,rfl,p2,q1,q2,⟨qk,Wn,qt,qb⟩,p5,p6⟩|hg)
  rotate_left
  ·exact .inr hg
  refine .inl ⟨v,S',rfl,p6,?_⟩
  have ht1:=ht.step hst p6
  refine(Iu t mp root 0 σ' v ps h' m (F cs) bs' _ S' w1 p5 ht1.1 ht1.2 p2.dm q1 (q2.nd hn) hFl (ps.length - 1) (aC _)).mono ?_
  rintro e2 w2 (⟨b,σ2,S2,bs2,rfl,r1,r2,⟨rk,rt⟩,r3,r4⟩|⟨hno,hg⟩)
  rotate_left
  ·exact .inr ⟨fun hR=>hno (q2.room hR),hg.after (Step.refl _ _) q2.H q2.most⟩
  exact .inl ⟨b,σ2,S2,rfl,r3,r4,bs2,r1,q2.trans r2,qk.trans q2 rk,fun hc=>(qt.trans rt).more (Tk qb hc)⟩
def Uh (key value:ByteArray):Prop:=(1<=key.size/\key.size<=128)/\value.size<=64
theorem MX (kb vb:Nat)(key value:ByteArray):EL 112 #[.pointer (some ⟨kb,0,none⟩),.pointer (some ⟨vb,0,none⟩)] (fun ps=>jB ps key value) [(kb,key),(vb,value)]:=by
 intro nb B nd S w hsub hbx hn hr hl
 exact M4 kb vb nb B key value nd S w hsub (hbx (kb,key) (by simp)).1 (hbx (vb,value) (by simp)).1 (hbx (kb,key) (by simp)).2 (hbx (vb,value) (by simp)).2 hn hr hl
theorem G5 (t:Nat)(mp:VS)(root:Int)(σ:bZ)(S:Nat->Prop)(cs:List Pr)(bs:List Int)(key value:ByteArray)(w:World)(h:Inv σ S mp w)(ht:dG w t mp root 0)(hst:¬S t)(hT:zG σ root cs bs)(hn:bs.Nodup)(hl:cs.length<=4090)(hg:Uh key value):
  Calls Tryz.prog 63 #[.pointer (some ⟨t,0,none⟩),.string key,.string value] w fun e w'=>(e= .returned (.int .i64 0)/\Gc t mp S (K5 σ bs (jB cs key value) (cs.length+1)) w w')\/(e= .returned (.int .i64 12)/\Di t mp root σ S (¬Room σ bs (cs.length+1)) w w'):=by
 refine Rw t mp root σ S _ _ key value w h.sub ht hst hg.1.1 hg.1.2 hg.2 fun W kb vb hbW hbx=> ?_
 exact Rj hT hn hl t mp S key hg.1.2 _ _ (fun ps=>jB ps key value) [(kb,key),(vb,value)] (fun _ _=>by kernel_rfl) (MX kb vb key value) (Cy key value hg.1.2 hg.2) W (h.below hbW) ((hbW.block t (aj.1 ht).1).trans ht) hst hbx
theorem CJ (t:Nat)(mp:VS)(root:Int)(σ:bZ)(S:Nat->Prop)(cs:List Pr)(bs:List Int)(key:ByteArray)(w:World)(h:Inv σ S mp w)(ht:dG w t mp root 0)(hT:zG σ root cs bs)(hl:cs.length<=4090)(hg:1<=key.size/\key.size<=128):
  Calls Tryz.prog 73 #[.pointer (some ⟨t,0,none⟩),.string key] w fun e w'=>e= .returned (.tuple #[.string ((fD cs key).getD ⟨#[]⟩),.bool (fD cs key).isSome,.int .i64 0])/\Below w.heap.size w w':=by
 obtain⟨n,hn40,hlk⟩:=hT.look (by omega) key
 exact RU t mp root σ S key _ w h ht hg.1 hg.2 n hn40 hlk
theorem Eb (t:Nat)(mp:VS)(root:Int)(σ:bZ)(S:Nat->Prop)(cs:List Pr)(bs:List Int)(key:ByteArray)(most:Int)(w:World)(h:Inv σ S mp w)(ht:dG w t mp root 0)(hT:zG σ root cs bs)(hl:cs.length<=4090):
  Calls Tryz.prog 47 #[.pointer (some ⟨t,0,none⟩),.string key,.int .i64 most] w fun e w'=>∃v,e= .returned (.tuple #[v,.int .i64 0])/\aQ w' S w.heap.size 103 2 v ((cs.drop (cO cs key)).take most.toNat).length (dO ((cs.drop (cO cs key)).take most.toNat))/\Below w.heap.size w w':=by
 by_cases hm:most<=0
 ·refine(Ec t mp root key most w ht (.inr hm)).mono ?_
  rintro e w' ⟨rfl,hb⟩
  refine⟨_,rfl,?_,hb⟩
  rw[show most.toNat=0 from by omega,iD]
  exact aQ.nil _ _ _ _ _
 ·rcases hT with ⟨rfl,rfl,_⟩|⟨h',hT⟩
  ·refine(Ec t mp 0 key most w ht (.inl rfl)).mono ?_
   rintro e w' ⟨rfl,hb⟩
   refine⟨_,rfl,?_,hb⟩
   rw[List.drop_nil,QZ]
   exact aQ.nil _ _ _ _ _
  ·exact O4 t mp root σ S key most _ h' w h ht (by have:=hT.top;omega) (by omega) (by have:=hT.low (by omega);omega) hT.walk (by simp only[aN];omega)
def Fo (σ:bZ)(h:Nat):List Int->List Int->Prop
 |[],bs=>bs=[]
 |b::L,bs=>∃lo hi c x bs',jg σ h 2 lo hi b c x/\Fo σ h L bs'/\bs=x++bs'
theorem Fo.append {σ:bZ}{h:Nat}:∀{L M:List Int} {x y:List Int},Fo σ h L x->Fo σ h M y->Fo σ h (L++M) (x++y)
 |[],_,_,_,h1,h2=>by obtain rfl:=h1;exact h2
 |b::L,_,_,_,⟨lo,hi,c,x,bs',h1,h2,rfl⟩,hM=>⟨lo,hi,c,x,_,h1,Fo.append h2 hM,aL _ _ _⟩
theorem dS.fo {σ:bZ}{h:Nat}{hi:Option ByteArray}:∀{l:List (ByteArray×Int)} {cs:List Pr} {bs:List Int},dS (jg σ h 2) hi l cs bs->Fo σ h (l.map (·.2)) bs
 |[],_,_,⟨_,e⟩=>e
 |(k,_)::_,_,_,⟨c,_,x,bs',h1,h2,_,e⟩=>⟨k,_,c,x,bs',h1,dS.fo h2,e⟩
inductive BL (σ:bZ):Nat->List Int->List Int->Prop
 |done:BL σ 0 [] []
 |step {n:Nat} {L:List Int} {nds:List Nd} {T:List Int}:L≠[]->nds.length=L.length->(∀i (h1:i<L.length) (h2:i<nds.length),Bl σ L[i] nds[i])->BL σ n (nds.flatMap (·.kids)) T->BL σ (n+1) L (L++T)
theorem BL.le {σ:bZ}{n:Nat}{L T:List Int}(h:BL σ n L T):L.length<=T.length:=by
 cases h with
 |done=>simp
 |step _ _ _ _=>simp
theorem Fo.zero {σ:bZ}:∀{L bs:List Int},Fo σ 0 L bs->∃nds:List Nd,nds.length=L.length/\(∀i (h1:i<L.length) (h2:i<nds.length),Bl σ L[i] nds[i])/\nds.flatMap (·.kids)=[]/\bs=L
 |[],_,h=>⟨[],rfl,fun i h1=>absurd h1 (by simp),rfl,h⟩
 |b::L,_,⟨lo,hi,c,x,bs',⟨nd,h1,_,h3,_,_,_,_,h8⟩,h2,e⟩=>by
  obtain⟨nds,q1,q2,q3,rfl⟩:=Fo.zero h2
  subst e h8
  refine⟨nd::nds,by simp[q1],fun i i1 i2=> ?_,by rw[iJ,h3,q3];rfl,rfl⟩
  cases i with
  |zero=>exact h1
  |succ i=>exact q2 i (by simpa using i1) (by simpa using i2)
theorem Fo.succ {σ:bZ}{h:Nat}:∀{L bs:List Int},Fo σ (h+1) L bs->∃(nds:List Nd) (bs':List Int),nds.length=L.length/\(∀i (h1:i<L.length) (h2:i<nds.length),Bl σ L[i] nds[i])/\Fo σ h (nds.flatMap (·.kids)) bs'/\(L++bs').Perm bs/\(L≠[]->nds.flatMap (·.kids)≠[])
 |[],_,h=>⟨[],[],rfl,fun i h1=>absurd h1 (by simp),rfl,by obtain rfl:=h;exact jK _,fun h=>absurd rfl h⟩
 |b::L,_,⟨lo,hi,c,x,bs',⟨nd,x',h1,ho,hk,_,e1,h6⟩,h2,e⟩=>by
  obtain⟨nds,y,q1,q2,q3,q4,_⟩:=Fo.succ h2
  subst e e1
  obtain⟨b0,l,e0,_,e3⟩:=pO ho.kk hk lo
  have hf:Fo σ h nd.kids x':=by
   have:=h6.fo
   unfold Nd.row at this
   rw[e0] at this
   rw[e3]
   exact this
  refine⟨nd::nds,x'++y,by simp[q1],fun i i1 i2=> ?_,by rw[iJ];exact hf.append q3,?_,fun _=>by rw[iJ];intro h0;exact hk (List.append_eq_nil_iff.1 h0).1⟩
  ·cases i with
   |zero=>exact h1
   |succ i=>exact q2 i (by simpa using i1) (by simpa using i2)
  ·have p1:(L++(x'++y)).Perm (x'++(L++y)):=by
    rw[<-aL,<-aL]
    exact Gg _ gJ
   exact(p1.trans (pM _ q4)).cons b
theorem Fo.bl {σ:bZ}:∀{h:Nat} {L bs:List Int},L≠[]->Fo σ h L bs->∃T,BL σ (h+1) L T/\T.Perm bs
 |0,L,bs,hL,hf=>by
  obtain⟨nds,q1,q2,q3,rfl⟩:=hf.zero
  refine⟨bs++[],.step hL q1 q2 (by rw[q3];exact .done),by rw[dJ]⟩
 |h+1,L,bs,hL,hf=>by
  obtain⟨nds,bs',q1,q2,q3,q4,q5⟩:=hf.succ
  obtain⟨T,r1,r2⟩:=Fo.bl (q5 hL) q3
  exact⟨L++T,.step hL q1 q2 r1,(pM _ r2).trans q4⟩
theorem zG.bl {σ:bZ}{root:Int}{cs:List Pr}{bs:List Int}(h:zG σ root cs bs)(hl:cs.length<=4095):∃n T,n<=12/\BL σ n (if root=0 then[] else[root]) T/\T.Perm bs:=by
 rcases h with ⟨rfl,_,rfl⟩|⟨h,ht⟩
 ·exact⟨0,[],by omega,.done,jK _⟩
 ·have hr:=ht.top
  have hlow:=ht.low hl
  obtain⟨T,h1,h2⟩:=Fo.bl (L:=[root]) (by simp) (show Fo σ h [root] (bs++[]) from⟨_,_,_,_,_,ht,rfl,rfl⟩)
  rw[dJ] at h2
  exact⟨h+1,T,by omega,by rw[if_neg (by omega)];exact h1,h2⟩
def qf (T:List Int):List Int:=T.mergeSort fun x y=>decide (x<=y)
theorem sF (T:List Int):(qf T).length=T.length:=List.length_mergeSort _
theorem MN {T:List Int}(h:T.Nodup):(qf T).Pairwise (· < ·):=by
 have h1:(qf T).Pairwise fun a b=>decide (a<=b)=true:=List.pairwise_mergeSort (fun a b c h1 h2=>by simp at*;omega) (fun a b=>by simp;omega) T
 have h2:(qf T).Nodup:=(rf T _).nodup_iff.2 h
 exact(h1.and h2).imp fun {a b} ⟨h1,h2⟩=>by have:=je h1;omega
theorem BM {T:List Int}(x:Int):x∈qf T↔x∈T:=(rf T _).mem_iff
theorem yB (v:Value)(T:List Int)(w:World)(S:Nat->Prop)(B:Nat)(h:aQ w S B 3 1 v T.length (T.map (.int .i64)))(hl:T.length<=100000)(hB:B<=w.heap.size):
  Calls Tryz.prog 50 #[v] w fun e w'=>e= .returned (.tuple #[])/\aQ w' S B 3 1 v (qf T).length ((qf T).map (.int .i64))/\Below B w w':=by
 obtain⟨⟨hxl,hr⟩,hn⟩:=h
 rcases hr with ⟨rfl,h0⟩|⟨g,cap,cur,rfl,hb,hg,h1,h2,h3,h4⟩
 ·refine(Any.slices_Sort_int_none yC none 0 w).mono ?_
  rintro e w' ⟨rfl,rfl⟩
  have hT:T=[]:=aV h0
  subst hT
  refine⟨rfl,?_,aR _ _⟩
  have:qf []=[]:=aV (sF [])
  rw[this]
  exact aQ.nil _ _ _ _ _
 ·have hH:Go.Sort.Holds (Value.int .i64) w g 0 T.toArray:=holds_of_blockI hg (by rw[<-h4,aU])
  refine(Any.slices_Sort_int yC g 0 cap T w hH (aj.1 hg).1 (by omega)).mono ?_
  rintro e w' ⟨rfl,n,os,rfl⟩
  have hgb:=grownBy_sortedI (w:=w) (g:=g) (n:=n) (os:=os) (qf T).toArray
  refine⟨rfl,⟨?_,hn⟩,⟨hgb.os,hgb.tape,hgb.output,hgb.size,fun k hk=>hgb.block k (ak hk hB) (fun e=>by have:=yu e;omega)⟩⟩
  have:=ownsRow_sortedI (w:=w) (base:=B) (n:=n) (os:=os) (ts:=qf T) (sF T) hb hg h1 h2 h3
  rw[sF]
  exact this
theorem CP (nds:List Nd)(k:Nat)(h:k<nds.length):(nds.take (k+1)).flatMap (·.kids)=(nds.take k).flatMap (·.kids)++nds[k].kids:=by
 rw[aM h,nZ,iJ,Uu,dJ]
theorem Qk (nds:List Nd)(k:Nat):((nds.take k).flatMap (·.kids)).length<=(nds.flatMap (·.kids)).length:=by
 have:(nds.take k).flatMap (·.kids)++(nds.drop k).flatMap (·.kids)=nds.flatMap (·.kids):=by rw[<-nZ,bJ]
 rw[<-this];simp
theorem Jb (t:Nat)(mp:VS)(S:Nat->Prop)(w:World)(ht:dG w t mp 0 0):
  Calls Tryz.prog 46 #[.pointer (some ⟨t,0,none⟩)] w fun e w'=>∃v,e= .returned (.tuple #[v,.int .i64 0])/\aQ w' S w.heap.size 3 1 v (qf []).length ((qf []).map (.int .i64))/\Below w.heap.size w w':=by
 obtain⟨_,c1,_,_,_,_,hlt⟩:=cells3 ht
 go_enter Tryz.func46,Tryz.ntmps46
 go_wp2_with (first
  |(go_at_call 92;go_must ((refine(nT t mp 0 0 _ ht).mono ?_);rintro e w1 ⟨rfl,hw⟩;subst w1)))
 go_loopw [5,6,7,8,10,11,12] (fun o l _ _ _ _ _ wr=>o= .slice none 0 0/\l= .slice none 0 0/\Below w.heap.size w wr) (fun _ _ _ _ _ _ _ _=>0)
 case atStart=>exact⟨rfl,rfl,aO w _⟩
 case round=>
  obtain⟨rfl,rfl,hb⟩:=hrel
  go_wp2_with (first
   |(go_at_call 50;go_must ((refine(yB (.slice none 0 0) [] _ S w.heap.size (aQ.nil _ _ _ _ _) (by simp) hb.size).mono ?_);rintro e w2 ⟨rfl,ho,hb2⟩)))
  go_ret2
  exact⟨_,rfl,ho,hb.trans hb2⟩
theorem Jc (t:Nat)(mp:VS)(root:Int)(σ:bZ)(S:Nat->Prop)(w:World)(h:Inv σ S mp w)(ht:dG w t mp root 0)(hr:root≠0)(n:Nat)(T:List Int)(hn:n<=12)(hB:BL σ n [root] T)(hl:T.length<=9000):
  Calls Tryz.prog 46 #[.pointer (some ⟨t,0,none⟩)] w fun e w'=>∃v,e= .returned (.tuple #[v,.int .i64 0])/\aQ w' S w.heap.size 3 1 v (qf T).length ((qf T).map (.int .i64))/\Below w.heap.size w w':=by
 obtain⟨_,c1,_,_,_,_,hlt⟩:=cells3 ht
 have hsub:=h.sub
 have hr0:(root==0)=false:=by simpa using hr
 have HB:=ah hB;clear hB
 have h0:aQ (w.alloc (.cells #[.int .i64 root] 3)) S w.heap.size 3 1 (.slice (some ⟨w.heap.size,0,none⟩) 1 1) 1 [.int .i64 root]:=mq (w:=w) (S:=S) (B:=w.heap.size) (e:=3) (k:=1) [.int .i64 root] 1 1 rfl rfl (aC _) (by simp[maxLen]) (aC _) hsub
 go_enter Tryz.func46,Tryz.ntmps46
 go_wp2_with (first
  |(go_at_call 92;go_must ((refine(nT t mp root 0 _ ht).mono ?_);rintro e w1 ⟨rfl,hw⟩;subst w1)))
 go_loopw [5,6,7,8,10,11,12] (fun o l x _ _ _ _ wr=>∃(O L T':List Int) (d m:Nat),x= .int .i64 d/\d+m<=12/\aQ wr S w.heap.size 3 1 o O.length (O.map (.int .i64))/\aQ wr S w.heap.size 3 1 l L.length (L.map (.int .i64))/\BL σ m L T'/\O++T'=T/\Below w.heap.size w wr) (fun _ _ x _ _ _ _ _=>13 - (intOf x).toNat)
 case atStart=>exact⟨[],[root],T,0,n,rfl,by omega,aQ.nil _ _ _ _ _,h0,HB.out,rfl,aO w _⟩
 case round=>
  clear h0
  obtain⟨O,L,T',d,m,rfl,hdm,hO,hL,hBL,hT,hbel⟩:=hrel
  have hlen:O.length+T'.length<=9000:=by rw[<-ay,hT];exact hl
  cases hBL with
  |done=>
   rw[dJ] at hT
   have HT:=ah hT;clear hT
   obtain⟨ao,c,rfl,_,_,_,_⟩:=aX.form hL.dm
   go_wp2_with (first
    |(go_at_call 50;go_must ((refine(yB _ O _ S w.heap.size hO (by omega) hbel.size).mono ?_);rintro e w2 ⟨rfl,ho,hb2⟩)))
   go_ret2
   rw[HT.out] at ho
   exact⟨_,rfl,ho,hbel.trans hb2⟩
  |@step m _ nds T2 hne hnl hblk hB2=>
   have HBK:=ah hblk;clear hblk
   have HB2:=ah hB2;clear hB2
   have HT:=ah hT;clear hT
   have hle2:=HB2.out.le
   have hnle:=Qk nds
   have HNL:=ah hnle;clear hnle
   rw[ay] at hlen
   obtain⟨ao,c,rfl,_,_,_,_⟩:=aX.form hL.dm
   obtain⟨oo,oc,rfl,_,_,_,_⟩:=aX.form hO.dm
   have hLp:0<L.length:=dx.2 hne
   have hLp':(0:Int)<(L.length:Int):=by omega
   clear hne
   have hd40:(d:Int)<=40:=by omega
   obtain⟨wo,rfl⟩:∃x:World,x=wr:=⟨_,rfl⟩
   go_wp2_with fail
   go_loopw [8,10,11,12,35] (fun v _ _ _ i wk=>∃k:Nat,k<=L.length/\i= .int .i64 k/\aQ wk S wo.heap.size 3 1 v ((nds.take k).flatMap (·.kids)).length (((nds.take k).flatMap (·.kids)).map (.int .i64))/\Below wo.heap.size wo wk) (fun _ _ _ _ i _=>L.length - (intOf i).toNat)
   case atStart=>exact⟨0,by omega,rfl,aQ.nil _ _ _ _ _,aR _ _⟩
   case round=>
    obtain⟨k,hk,rfl,hV,hbk⟩:=hrel
    have hbw:=hbel.trans (hbk.mono hbel.size)
    obtain⟨Fk,hFk⟩:∃F,F=(nds.take k).flatMap (·.kids):=⟨_,rfl⟩
    rw[<-hFk] at hV
    obtain⟨vo,vc,rfl,_,_,_,_⟩:=aX.form hV.dm
    by_cases hkl:k<L.length
    ·have hkn:k<nds.length:=by omega
     have hb:=HBK.out k hkl hkn
     obtain⟨pb,po,rfl,d1⟩:=jJ.at (zs:=L) (hL.dm.below hbk) rfl k hkl
     have hpb:=aD wr _ d1
     have hkli:(k:Int)<(L.length:Int):=by omega
     have hNk:=HNL.out (k+1)
     rw[CP nds k hkn,<-hFk,ay] at hNk
     have hFT:=CP nds k hkn
     rw[<-hFk] at hFT
     clear hFk
     have HFT:=ah hFT;clear hFT
     have hIr:=h.below hbw
     have htr:dG wr t mp root 0:=(hbw.block t hlt).trans ht
     go_wp2_with (first
      |(go_at_call 93;go_must ((refine(mU t mp root 0 L[k] d σ S nds[k] _ hIr htr hb hd40).mono ?_);rintro e w1 ⟨nb,rfl,hn1,hb1⟩;refine Stop.of ?_)))
     refine Stop.on ?_
     obtain⟨_,v0,v1,v2,hbn,_,_,hk2⟩:=hn1.jT
     obtain⟨_,_,e2,_,_,_,hl3⟩:=cells3 hbn
     have hsrc:=aX.src (P:=Tryz.prog) hk2 bf (qM _)
     obtain⟨ko,kc,rfl,_,_,_,_⟩:=aX.form hk2
     have hV1:=hV.below hb1
     have hbk1:=hbk.trans (hb1.mono hbk.size)
     have hsub1:∀g,S g->g<w1.heap.size:=fun g hg=>ak (hsub g hg) (aK hbw.size hb1.size)
     go_wp2_with (first
      |(at_builtin;(refine cK rfl (.tmp 49) (.tmp 53) 93 93 rfl S wo.heap.size 3 1 8 _ bf gX rfl (.slice vo Fk.length vc) Fk.length _ rfl hV1 (.slice ko nds[k].kids.length kc) nds[k].kids.length _ rfl hsrc hsub1 hbk1.size (by unfold maxLen;omega) (by omega) ?_);go_must (intro ao6 c6 w6 hown6 hk6 hb6 hd6;refine Stop.of ?_)))
     refine Stop.on ?_
     go_wp2_with fail
     go_roundw
     case rel=>exact⟨k+1,by omega,by go_num,by rw[HFT.out,ay,bU];exact hown6,hbk1.trans hb6⟩
     case measure=>simp[intOf];omega
    ·have hke:k=L.length:=by omega
     subst hke
     rw[<-hnl,bR] at hFk
     have HFK:=ah hFk;clear hFk
     have hfl:Fk.length<=9000:=by rw[HFK.out];omega
     have hsrc:=aX.src (P:=Tryz.prog) (hL.dm.below hbk) bf (qM _)
     have hsub1:∀g,S g->g<wr.heap.size:=fun g hg=>ak (hsub g hg) hbw.size
     have hOr:=hO.below hbk
     clear hk hkl
     have hle3:(nds.flatMap (·.kids)).length<=9000:=by omega
     have hbg:=hbw.size
     go_wp2_with (first
      |(at_builtin;(refine cK rfl (.tmp 56) (.tmp 57) 93 93 rfl S w.heap.size 3 1 8 _ bf gX rfl (.slice oo O.length oc) O.length _ rfl hOr (.slice ao L.length c) L.length _ rfl hsrc hsub1 hbg (by unfold maxLen;omega) (by omega) ?_);go_must (intro ao7 c7 w7 hown7 hk7 hb7 hd7;refine Stop.of ?_)))
     refine Stop.on ?_
     have hV7:=hV.keep (w':=w7) (S':=S) fun g hg' hl' hs=>⟨hk7.block g hl' (fun e=>by
      have a:=hV.lo g hg'
      have b:=(hO.1.lt g e).2
      omega),hs⟩
     go_wp2_with fail
     go_roundw
     case rel=>exact⟨O++L,nds.flatMap (·.kids),T2,d+1,m,by go_num,by omega,by rw[ay,bU];exact hown7,by rw[<-HFK.out];exact hV7.base hbel.size,HB2.out,by rw[aL,HT.out],hbw.trans hb7⟩
     case measure=>simp[intOf];omega
end Go.Proofs.YtogbkgmlhhahdaaGreat
