--
import Derived.Test.YtogbkgmlhhahdaaGreatT6
set_option maxRecDepth 100000
set_option maxHeartbeats 0
set_option linter.all false
namespace Go.Proofs.YtogbkgmlhhahdaaGreat
open Go.RowKit
variable{a:Act}{q:Nat->Bool}{w:World}
section
variable {P:Program} {ops:Array Oper} {Q:Exit->Act->World->Prop} {md:Region.Mode} {S:World->Prop}
def Gu (md:Region.Mode)(ops:Array Oper)(q:Nat->Bool)(chk:Array Bool->Bool):List Nat->Array Bool->Bool
 |[],listed=>chk listed
 |i::rest,listed=>
  (if q i then(Region.ready md ops listed).contains i && Region.free md ops listed i
   else(Region.ready md ops listed==[i]) && !ny md ops i) && Gu md ops q chk rest (listed.setIfInBounds i true)
def tC (P:Program)(md:Region.Mode)(ops:Array Oper)(Q:Exit->Act->World->Prop)(S:World->Prop)(q:Nat->Bool)(fin:Act->World->Prop):List Nat->Act->World->Prop
 |[],a,w=>fin a w
 |i::rest,a,w=>
  if q i then ∃o v,ops[i]? =some o/\(∀c a w,Q (.panic c) (a.put o.dst v) w->Q (.panic c) a w)/\YieldsIf P ops S o v a/\tC P md ops Q S q fin rest (a.put o.dst v) w
  else wpOp P ops Q i (fun a' w'=>S w'/\tC P md ops Q S q fin rest a' w') a w
theorem rC (B:Region.noSelect ops=true){t:Array Bool->Bool}{p:Act->World->Prop}{m:Nat}
  (f:∀(c:Nat) (b:Array Bool) (a:Act) (w:World),qB md ops b->t b=true->m<=c->S w->p a w->uF P md ops Q S c b a w):
  ∀(d:List Nat) (c:Nat) (b:Array Bool) (a:Act) (w:World),qB md ops b->Gu md ops q t d b=true->d.length+m<=c->S w->tC P md ops Q S q p d a w->uF P md ops Q S c b a w
 |[],c,b,a,w,g,l,s,y,h=>f c b a w g l (by simpa using s) y h
 |i::e,0,_,_,_,_,_,s,_,_=>absurd s (by simp)
 |i::e,c+1,b,a,w,g,l,s,y,h=>by
  simp only[Gu,dG] at l
  obtain⟨n,k⟩:=l
  have r:e.length+m<=c:=by simp only[bn] at s;omega
  by_cases x:q i=true
  ·simp only[x,iX,dG] at n
   simp only[tC,x,iX] at h
   obtain⟨o,v,D,F,G,h⟩:=h
   exact uE D (Sy B) F c b a w g (Region.free_spec D n.2) (by simpa using n.1) G y
    (rC B f e c _ _ _ (g.set (by simpa using n.1)) k r y h)
  ·rw[if_neg x,dG] at n
   simp only[tC] at h
   rw[if_neg x] at h
   have z:Region.ready md ops b=[i]:=by simpa using n.1
   refine⟨fun C=>(by rw[z] at C;cases C),fun j E=> ?_⟩
   rw[z] at E
   obtain rfl:j=i:=by simpa using E
   exact y9 (fun I H A=>⟨.inr A.1,rC B f e c _ _ _ (g.set (by rw[z];exact bQ.2 rfl)) k r A.1 A.2⟩) h
def LM (md:Region.Mode)(ops:Array Oper)(q:Nat->Bool)(i j:Nat)(ri rj:List Nat)(listed:Array Bool):Bool:=
 (Region.ready md ops listed==[i,j]) && (Dm md ops q ri (listed.setIfInBounds i true) && Dm md ops q rj (listed.setIfInBounds j true))
def KC (P:Program)(md:Region.Mode)(ops:Array Oper)(Q:Exit->Act->World->Prop)(S:World->Prop)(q:Nat->Bool)(i j:Nat)(ri rj:List Nat)(a:Act)(w:World):Prop:=
 wpOp P ops Q i (fun a' w'=>S w'/\mH P md ops Q S q ri a' w') a w/\wpOp P ops Q j (fun a' w'=>S w'/\mH P md ops Q S q rj a' w') a w
def Ct (r:Region.noSelect ops=true){i j:Nat}{m l:List Nat}(b:Nat)(c:Array Bool)(a:Act)(w:World)(g:qB md ops c)(f:LM md ops q i j m l c=true)
  (y:max m.length l.length+1<=b) (h:KC P md ops Q S q i j m l a w):uF P md ops Q S b c a w:=by
 simp only[LM,dG,qQ] at f;obtain⟨p,v,x⟩:=f;cases b with
 |zero=>omega
 |succ b=>
  refine⟨fun o=>(by rw[p] at o;cases o),fun k n=> ?_⟩;have d:=n;rw[p] at d;rcases bO.1 d with rfl|d
  ·exact y9 (fun t s e=>⟨.inr e.1,ou r m b _ _ _ (g.set n) v (by omega) (.inr e.1) e.2⟩) h.1
  ·obtain rfl:k=j:=by simpa using d
   exact y9 (fun t s e=>⟨.inr e.1,ou r l b _ _ _ (g.set n) x (by omega) (.inr e.1) e.2⟩) h.2
def o9 {n:Nat}(S:World->Prop)(q:Nat->Bool)(b:List Nat)(i j:Nat)(l k:List Nat)(p:P.follows .mixedOrders=true)
  (c:(Region.noSelect ops && decide (b.length+(max l.length k.length+1)<=ops.size) && Gu .any ops q (LM .any ops q i j l k) b (Array.replicate ops.size false))=true)
  (r:S w.drew) (h:tC P .any ops Q S q (KC P .any ops Q S q i j l k) b a w.drew):(Code.region n ops true).wp P Q a w:=by
 simp only[dG,eB] at c;exact wp_region_any p (uD _ _ _ _ (rC c.1.1 (fun g d a w m e o _ f=>Ct c.1.1 g d a w m e o f) b _ _ _ _ qB.replicate c.2 c.1.2 r h))
def zL {b:Act->World->Prop}(h:b a w):tC P md ops Q S q b [] a w:=h
def Gv {d:Act->World->Prop}{i:Nat}{b:List Nat}{o:Oper}{v:Value}(g:q i=true)(e:ops.toList[i]? =some o)(k:∀c a w,Q (.panic c) (a.put o.dst v) w->Q (.panic c) a w)
  (f:Region.wanted o (yielded ops a.tmps)=true) (j:∀W,S W->(execOp a.eval o).run P W= .ok (.value v) W) (h:tC P md ops Q S q d b (a.put o.dst v) w):tC P md ops Q S q d (i::b) a w:=by
 have l:ops[i]? =some o:=by rw[<-gT];exact e
 simp only[tC,g,iX];exact⟨o,v,l,k,.inl ⟨f,j⟩,h⟩
def zY {i j:Nat}{n m:List Nat}{b c:Oper}(f:ops.toList[i]? =some b)(g:ops.toList[j]? =some c)(d:Region.wanted b (yielded ops a.tmps)=true)(k:Region.wanted c (yielded ops a.tmps)=true)
  (p:∀K:Act->World->Prop,Shut (∀a w,S w->mH P md ops Q S q n a w->K a w)->b.wp P a w K Q)
  (s:∀K:Act->World->Prop,Shut (∀a w,S w->mH P md ops Q S q m a w->K a w)->c.wp P a w K Q):KC P md ops Q S q i j n m a w:=by
 have r:ops[i]? =some b:=by rw[<-gT];exact f
 have o:ops[j]? =some c:=by rw[<-gT];exact g
 constructor
 ·simp only[wpOp,r,d,iX]
  exact .inl (p _ (fun a w l e=>⟨l,e⟩))
 ·simp only[wpOp,o,k,iX]
  exact .inl (s _ (fun a w l e=>⟨l,e⟩))
end
def uK (a:List (ByteArray×ByteArray)):∀k,dP (a.take k)=(dP a).take (k*2):=by
 induction a with
 |nil=>intro k;simp[dP]
 |cons p a ih=>
  intro k;cases k with
  |zero=>simp[dP]
  |succ k=>rw[jq,mh,mh,ih,UB,jq,jq]
def qX (a:List (ByteArray×ByteArray)):∀k,dP (a.drop k)=(dP a).drop (k*2):=by
 induction a with
 |nil=>intro k;simp[dP]
 |cons p a ih=>
  intro k;cases k with
  |zero=>simp
  |succ k=>rw[gy,mh,ih,UB,gy,gy]
def xI (W:World)(a b:Obj):((W.alloc a).alloc b).drew.heap[W.heap.size]? =some a:=by
 show ((W.alloc a).alloc b).heap[W.heap.size]? =some a;exact((aN (W.alloc a) b).block _ (by rw[aU];omega)).trans (aV _ _)
def xJ (W:World)(b a:Obj):((W.alloc b).alloc a).drew.heap[W.heap.size+1]? =some a:=by
 show ((W.alloc b).alloc a).heap[W.heap.size+1]? =some a;rw[<-aU W b];exact aV _ _
def sV {W:World}{S:Nat->Prop}{g:Nat}{b:Value}{a:List Pr}(c:Below w.heap.size w W)(h:jo w S b a)(d:W.heap[g]? =some (.cells #[b,.slice none 0 0,.slice none 0 0] 165 (0,0)))(e:¬S g):gN W S g ⟨a,[],[]⟩:=
 ⟨e,_,_,_,d,aZ.below h c,aZ.nil _ _ _,aZ.nil _ _ _⟩
def xY (nd:Nd)(i:Nat):Prop:=(1<i->2*eG (nd.pairs.take (i - 1))<nd.size)/\(i+1=nd.pairs.length\/nd.size<=2*eG (nd.pairs.take i))
theorem DJ (b:Nat)(c:Nd)(w:World)(S:Nat->Prop)(hS:∀g,S g->g<w.heap.size)(h:gN w S b c)(hk:c.kids=[])(h2:2<=c.pairs.length)(hs:c.size<=1000000):
  Calls Tryz.prog 181 #[.pointer (some ⟨b,0,none⟩)] w fun e w'=>∃(i:Nat) (hi:i<c.pairs.length) (b1 b2:Nat),1<=i/\e= .returned (.tuple #[.pointer (some ⟨b1,0,none⟩),.pointer (some ⟨b2,0,none⟩),.string c.pairs[i].1])/\
   gN w' S b1 ⟨c.pairs.take i,[],[]⟩/\gN w' S b2 ⟨c.pairs.drop i,[],[]⟩/\Below w.heap.size w w'/\xY c i:=by
 have hN:=h;obtain⟨_,v0,v1,v2,hb,P,h1,Z⟩:=h;obtain⟨Y,c1,c2,_,_,_,N⟩:=cells3 hb;obtain⟨qb,o,rfl,n0,m0,_,_⟩:=aZ.form P;have qo:eG c.pairs<=1000000:=by unfold Nd.size at hs;omega
 have X:c.kids.isEmpty=true:=by rw[hk];rfl
 obtain⟨q,r,rfl,d1,d2⟩:=P.at rfl 0 (by omega);rw[rq,iG] at d1 d2;have T:=qx c.pairs 0 (by omega);rw[show eG (c.pairs.take 0)=0 from rfl,dX,dX] at T;have z1:=kR c.pairs 1;have hz:c.pairs[0].1.size+c.pairs[0].2.size<=1000000:=by omega
 have Z0:=ah T;clear T z1 Z h1;have x1:IntKind.i64.wrap ((2:Int)+(c.pairs[0].1.size:Int))=(2:Int)+(c.pairs[0].1.size:Int):=aG _ (by omega);have x2:IntKind.i64.wrap ((2:Int)+(c.pairs[0].1.size:Int)+(c.pairs[0].2.size:Int))=(2:Int)+(c.pairs[0].1.size:Int)+(c.pairs[0].2.size:Int):=aG _ (by omega);have p1:(0:Int)<(c.pairs.length:Int):=by omega
 have p2:0<c.pairs.length:=by omega
 go_enter Tryz.func181,Tryz.ntmps181;go_wp2_with (first|(go_at_call 121;go_must (refine(ku b c w S hN).mono ?_;rintro e w1 ⟨rfl,rfl⟩;rw[X];refine sO ?_)));refine sN ?_;go_wp2_with fail;refine aP (fun W=>W.cell? ⟨b,0,none⟩=some (.slice (some ⟨q,r,none⟩) c.pairs.length o)/\W.cell? ⟨q,r,none⟩=some (.string c.pairs[0].1)/\W.cell? ⟨q,r+1,none⟩=some (.string c.pairs[0].2)) (fun _=>true) [0,1,2,3,4,5,6,7,8,9,10,11,12,13,14,15,16,17,18,19] rfl (by kernel_rfl) ⟨Y,d1,d2⟩ ?_
 repeat (refine oq ?_ rfl rfl rfl ?_ ?_;rotate_left;(focus intro W a;(try dsimp only at a);have B:=a.1;have D:=a.2.1;have A:=a.2.2;first|(go_simp;first|done|with_reducible rfl));try simp only[Act.put,aj,au,ak])
 refine bR ?_;go_wp2_with fail;go_loopw [5,6] (fun i s wr=>∃(k:Nat) (z:Nat),1<=k/\k<c.pairs.length/\i= .int .i64 k/\s= .int .i64 z/\z=eG (c.pairs.take k)/\Below w.heap.size w wr/\Hid (1<k->2*eG (c.pairs.take (k - 1))<c.size)) (fun i _ _=>c.pairs.length - (intOf i).toNat)
 case atStart=>exact⟨1,2+c.pairs[0].1.size+c.pairs[0].2.size,aD _,by omega,rfl,by go_num,by rw[Z0.out],(aR _ _).drew,ah (fun h=>absurd h (by omega))⟩
 case round=>
  obtain⟨k,z,H,l,rfl,rfl,O,j,F⟩:=hrel;have qc:=(j.cell (p:=⟨b,0,none⟩) N).trans Y;have p9:=kR c.pairs k;have V:=j.size;obtain⟨_,_,e,Q,R⟩:=P.at rfl k l;cases e
  have ql:=(j.cell (p:=⟨q,r+k*2,none⟩) (aF w _ Q)).trans Q;have af:=(j.cell (p:=⟨q,r+k*2+1,none⟩) (aF w _ R)).trans R;have y0:=qx c.pairs k l;have y1:=kR c.pairs (k+1);have q8:c.pairs[k].1.size+c.pairs[k].2.size+z<=1000000:=by omega
  have q9:(k:Int)<c.pairs.length:=by omega
  have Y0:=ah y0;clear y0 y1;have M:=ah O;clear O;have k1:(0:Int)<=(k:Int):=by omega
  have k2:(k:Int)<=o:=by omega
  have C:∀W,Below w.heap.size w W->W.cell? ⟨b,0,none⟩=some (.slice (some ⟨q,r,none⟩) c.pairs.length o):=fun W a=>(a.cell (p:=⟨b,0,none⟩) N).trans Y
  have y:∀W,Below w.heap.size w W->W.cell? ⟨q,r+k*2,none⟩=some (.string c.pairs[k].1):=fun W a=>(a.cell (p:=⟨q,r+k*2,none⟩) (aF w _ Q)).trans Q
  have t:∀W,Below w.heap.size w W->W.cell? ⟨q,r+k*2+1,none⟩=some (.string c.pairs[k].2):=fun W a=>(a.cell (p:=⟨q,r+k*2+1,none⟩) (aF w _ R)).trans R
  have k3:(k:Int)<=c.pairs.length:=by omega
  have x3:IntKind.i64.wrap ((2:Int)+(c.pairs[k].1.size:Int))=(2:Int)+(c.pairs[k].1.size:Int):=aG _ (by omega);have x4:IntKind.i64.wrap ((2:Int)+(c.pairs[k].1.size:Int)+(c.pairs[k].2.size:Int))=(2:Int)+(c.pairs[k].1.size:Int)+(c.pairs[k].2.size:Int):=aG _ (by omega);have x5:IntKind.i64.wrap ((z:Int)+((2:Int)+(c.pairs[k].1.size:Int)+(c.pairs[k].2.size:Int)))=(z:Int)+((2:Int)+(c.pairs[k].1.size:Int)+(c.pairs[k].2.size:Int)):=aG _ (by omega);have k4:¬o=k:=by omega
  have f:=j;have E:jo w S (.slice (some ⟨q,r,none⟩) k o) (c.pairs.take k):=by
   have:=aZ.upto P k (iF l);unfold jo;rw[aH,bK (iF l),uK];exact this
  have G:jo w S (.slice (some ⟨q,r+k*2,none⟩) (c.pairs.length - k) (o - k)) (c.pairs.drop k):=by
   have:=aZ.after P k (iF l);rw[if_neg k4,iJ,dU] at this;unfold jo;rw[aO,qX];exact this
  have m:∀g,w.heap.size<=g->¬S g:=fun g hg x=>absurd (hS _ x) (bg.2 hg)
  go_wp2_with (first|(go_at_call 178;go_must (refine(pu b c _ S (hN.below j) hs).mono ?_;rintro e w1 ⟨rfl,pM⟩;refine sO ?_)))
  ·have f:=j.trans (pM.mono V)
   refine sN ?_;go_wp2_with fail
   ·refine aP (fun W=>Below w.heap.size w W) (fun _=>true) [0,1,2,3,4,5,6,7,8,9,10,11,12,13,14,15,16,17,18,19,20,21,22] rfl (by kernel_rfl) f.drew ?_
    repeat (refine oq ?_ rfl rfl rfl ?_ ?_;rotate_left;(focus intro W a;(try dsimp only at a);have B:=C W a;have D:=y W a;have A:=t W a;first|(go_simp;first|done|with_reducible rfl));try simp only[Act.put,aj,au,ak])
    refine bR ?_
    go_wp2
    go_roundw
    case rel=>exact⟨k+1,z+(2+c.pairs[k].1.size+c.pairs[k].2.size),by omega,by omega,by go_num,by go_num,by rw[Y0.out,M.out],f.drew,ah (fun _=>by have:=M.out;rw[show k+1 - 1=k from rfl];omega)⟩
    case measure=>simp[intOf];omega
   ·refine o9 (fun W=>Below w.heap.size w W) (fun i=> !([7,15].contains i)) [0,1,2,3,4,5,6,8,9,10,11,12,13,14,16,17,18,19,20,21,22,23] 7 15 [24,15,25,26] [7,24,25,26] rfl (by kernel_rfl) f.drew ?_
    repeat ((refine Gv (v:= ?_) rfl rfl (fun _ _ _ h=>h) rfl (fun W a=> ?_) ?_);rotate_left;(focus (try dsimp only at a);have B:=C W a;have D:=y W a;have A:=t W a;first|(go_simp;first|done|with_reducible rfl));(try simp only[Act.put,aj,au,ak]))
    refine zL (zY rfl rfl rfl rfl ?_ ?_)
    ·intro K n
     go_simp
     refine n.out _ _ (f.drew.alloc f.size _) ?_
     (try simp only[Act.put,aj,au,ak])
     repeat (refine oq ?_ rfl rfl rfl ?_ ?_;rotate_left;(focus intro W a;(try dsimp only at a);have B:=C W a;have D:=y W a;have A:=t W a;first|(go_simp;first|done|with_reducible rfl));try simp only[Act.put,aj,au,ak])
     refine dI rfl rfl rfl ?_;intro K n
     go_simp
     have d:=fun J I=>(f.drew.alloc f.size J).alloc (aK f.size (by simp)) I
     refine n.out _ _ (d _ _) ?_
     (try simp only[Act.put,aj,au,ak])
     repeat (refine oq ?_ rfl rfl rfl ?_ ?_;rotate_left;(focus intro W a;(try dsimp only at a);have B:=C W a;have D:=y W a;have A:=t W a;first|(go_simp;first|done|with_reducible rfl));try simp only[Act.put,aj,au,ak])
     refine bR ?_
     go_wp2
     go_ret3
     exact⟨k,l,_,_,H,rfl,sV (d _ _) E (xI _ _ _) (m _ f.size),sV (d _ _) G (xJ _ _ _) (m _ (lS f.size)),d _ _,F.out,by have:=M.out;omega⟩
    ·intro K n
     go_simp
     refine n.out _ _ (f.drew.alloc f.size _) ?_
     (try simp only[Act.put,aj,au,ak])
     repeat (refine oq ?_ rfl rfl rfl ?_ ?_;rotate_left;(focus intro W a;(try dsimp only at a);have B:=C W a;have D:=y W a;have A:=t W a;first|(go_simp;first|done|with_reducible rfl));try simp only[Act.put,aj,au,ak])
     refine dI rfl rfl rfl ?_;intro K n
     go_simp
     have d:=fun J I=>(f.drew.alloc f.size J).alloc (aK f.size (by simp)) I
     refine n.out _ _ (d _ _) ?_
     (try simp only[Act.put,aj,au,ak])
     repeat (refine oq ?_ rfl rfl rfl ?_ ?_;rotate_left;(focus intro W a;(try dsimp only at a);have B:=C W a;have D:=y W a;have A:=t W a;first|(go_simp;first|done|with_reducible rfl));try simp only[Act.put,aj,au,ak])
     refine bR ?_
     go_wp2
     go_ret3
     exact⟨k,l,_,_,H,rfl,sV (d _ _) E (xJ _ _ _) (m _ (lS f.size)),sV (d _ _) G (xI _ _ _) (m _ f.size),d _ _,F.out,by have:=M.out;omega⟩
  ·refine o9 (fun W=>Below w.heap.size w W) (fun i=> !([7,15].contains i)) [0,1,2,3,4,5,6,8,9,10,11,12,13,14,16,17,18,19,20,21,22,23] 7 15 [24,15,25,26] [7,24,25,26] rfl (by kernel_rfl) f.drew ?_
   repeat ((refine Gv (v:= ?_) rfl rfl (fun _ _ _ h=>h) rfl (fun W a=> ?_) ?_);rotate_left;(focus (try dsimp only at a);have B:=C W a;have D:=y W a;have A:=t W a;first|(go_simp;first|done|with_reducible rfl));(try simp only[Act.put,aj,au,ak]))
   refine zL (zY rfl rfl rfl rfl ?_ ?_)
   ·intro K n
    go_simp
    refine n.out _ _ (f.drew.alloc f.size _) ?_
    (try simp only[Act.put,aj,au,ak])
    repeat (refine oq ?_ rfl rfl rfl ?_ ?_;rotate_left;(focus intro W a;(try dsimp only at a);have B:=C W a;have D:=y W a;have A:=t W a;first|(go_simp;first|done|with_reducible rfl));try simp only[Act.put,aj,au,ak])
    refine dI rfl rfl rfl ?_;intro K n
    go_simp
    have d:=fun J I=>(f.drew.alloc f.size J).alloc (aK f.size (by simp)) I
    refine n.out _ _ (d _ _) ?_
    (try simp only[Act.put,aj,au,ak])
    repeat (refine oq ?_ rfl rfl rfl ?_ ?_;rotate_left;(focus intro W a;(try dsimp only at a);have B:=C W a;have D:=y W a;have A:=t W a;first|(go_simp;first|done|with_reducible rfl));try simp only[Act.put,aj,au,ak])
    refine bR ?_
    go_wp2
    go_ret3
    exact⟨k,l,_,_,H,rfl,sV (d _ _) E (xI _ _ _) (m _ f.size),sV (d _ _) G (xJ _ _ _) (m _ (lS f.size)),d _ _,F.out,by have:=M.out;omega⟩
   ·intro K n
    go_simp
    refine n.out _ _ (f.drew.alloc f.size _) ?_
    (try simp only[Act.put,aj,au,ak])
    repeat (refine oq ?_ rfl rfl rfl ?_ ?_;rotate_left;(focus intro W a;(try dsimp only at a);have B:=C W a;have D:=y W a;have A:=t W a;first|(go_simp;first|done|with_reducible rfl));try simp only[Act.put,aj,au,ak])
    refine dI rfl rfl rfl ?_;intro K n
    go_simp
    have d:=fun J I=>(f.drew.alloc f.size J).alloc (aK f.size (by simp)) I
    refine n.out _ _ (d _ _) ?_
    (try simp only[Act.put,aj,au,ak])
    repeat (refine oq ?_ rfl rfl rfl ?_ ?_;rotate_left;(focus intro W a;(try dsimp only at a);have B:=C W a;have D:=y W a;have A:=t W a;first|(go_simp;first|done|with_reducible rfl));try simp only[Act.put,aj,au,ak])
    refine bR ?_
    go_wp2
    go_ret3
    exact⟨k,l,_,_,H,rfl,sV (d _ _) E (xJ _ _ _) (m _ (lS f.size)),sV (d _ _) G (xI _ _ _) (m _ f.size),d _ _,F.out,by have:=M.out;omega⟩
def zT {W:World}{S:Nat->Prop}{g:Nat}{c b:Value}{e:List ByteArray}{d:List Int}(a:Below w.heap.size w W)(i:jP w S c e)(f:jV w S b d)(j:W.heap[g]? =some (.cells #[.slice none 0 0,c,b] 165 (0,0)))(k:¬S g):gN W S g ⟨[],e,d⟩:=
 ⟨k,_,_,_,j,aZ.nil _ _ _,aZ.below i a,aZ.below f a⟩
theorem BV (b:Nat)(a:Nd)(w:World)(S:Nat->Prop)(hS:∀g,S g->g<w.heap.size)(h:gN w S b a)(V:3<=a.kids.length)(B:a.keys.length=a.kids.length - 1)(hs:a.size<=1000000):
  Calls Tryz.prog 181 #[.pointer (some ⟨b,0,none⟩)] w fun e P=>∃(i:Nat) (O:i - 1<a.keys.length) (q z:Nat),i=a.kids.length/2/\e= .returned (.tuple #[.pointer (some ⟨q,0,none⟩),.pointer (some ⟨z,0,none⟩),.string a.keys[i - 1]])/\
   gN P S q ⟨[],a.keys.take (i - 1),a.kids.take i⟩/\gN P S z ⟨[],a.keys.drop i,a.kids.drop i⟩/\Below w.heap.size w P:=by
 have hN:=h;obtain⟨_,v0,v1,v2,Y,h0,M,o⟩:=h;obtain⟨c0,c1,c2,_,_,_,E⟩:=cells3 Y;have N:a.kids.isEmpty=false:=by cases hq:a.kids with|nil=>rw[hq] at V;simp at V|cons=>rfl
 have p9:2*a.kids.length<=1000000:=by unfold Nd.size at hs;omega
 obtain⟨i,O⟩:=nx (a.kids.length/2);obtain⟨j,rfl⟩:∃j,i=j+1:=⟨i - 1,by omega⟩
 have pM:j+2<a.kids.length:=by omega
 have qb:j+1<a.keys.length:=by omega
 have Q:j<a.keys.length:=by omega
 obtain⟨Z,k,rfl,n1,m1,y,_⟩:=aZ.form M;obtain⟨q9,f,rfl,n2,m2,t,_⟩:=aZ.form o;obtain⟨q,n,rfl,R⟩:=M.at rfl j Q;obtain⟨z,r,rfl,_⟩:=o.at rfl 0 (by omega);have k1:¬k=j+1:=by omega
 have k2:¬f=j+1:=by omega
 have k3:(a.kids.length:Int).tdiv 2=((j:Int)+1):=by rw[Int.tdiv_eq_ediv_of_nonneg (by omega)];omega
 have k4:(a.kids.length:Int)/2=((j:Int)+1):=by omega
 have k5:(0:Int)<=(j:Int)+1:=by omega
 have k6:(j:Int)+1<=(f:Int):=by omega
 have k7:((j:Int)+1).toNat=j+1:=by omega
 have k8:(j:Int)<=(k:Int):=by omega
 have k9:(0:Int)<=(j:Int):=by omega
 have ql:(j:Int)+1<=(a.kids.length:Int):=by omega
 have qo:(j:Int)+1<=(a.keys.length:Int):=by omega
 have af:(j:Int)<(a.keys.length:Int):=by omega
 have q8:(j:Int)+1 - 1=(j:Int):=by omega
 have qc:IntKind.i64.wrap (j:Int)=(j:Int):=aG _ (by omega);have T:=ah O;clear O;have X:=ah B;clear B;have I:∀W,Below w.heap.size w W->W.cell? ⟨b,1,none⟩=some (.slice (some ⟨q,n,none⟩) a.keys.length k):=fun W c=>(c.cell (p:=⟨b,1,none⟩) E).trans c1
 have H:∀W,Below w.heap.size w W->W.cell? ⟨b,2,none⟩=some (.slice (some ⟨z,r,none⟩) a.kids.length f):=fun W c=>(c.cell (p:=⟨b,2,none⟩) E).trans c2
 have D:∀W,Below w.heap.size w W->W.cell? ⟨q,n+j,none⟩=some (.string (a.keys[j]'Q)):=fun W c=>(c.cell (p:=⟨q,n+j,none⟩) (aF w _ R)).trans R
 have m:∀g,w.heap.size<=g->¬S g:=fun g hg x=>absurd (hS _ x) (bg.2 hg)
 have G:jP w S (.slice (some ⟨q,n,none⟩) j k) (a.keys.take j):=by
  have:=aZ.upto M j (by omega);unfold jP;rw[aH,bK (by omega),gI];rw[aW] at this;exact this
 have C:jV w S (.slice (some ⟨z,r,none⟩) (j+1) f) (a.kids.take (j+1)):=by
  have:=aZ.upto o (j+1) (by omega);unfold jV;rw[aH,bK (by omega),gI];rw[aW] at this;exact this
 have A:jP w S (.slice (some ⟨q,n+(j+1),none⟩) (a.keys.length - (j+1)) (k - (j+1))) (a.keys.drop (j+1)):=by
  have:=aZ.after M (j+1) (by omega);rw[if_neg k1,iJ,dU,aW] at this;unfold jP;rw[aO,fT];exact this
 have F:jV w S (.slice (some ⟨z,r+(j+1),none⟩) (a.kids.length - (j+1)) (f - (j+1))) (a.kids.drop (j+1)):=by
  have:=aZ.after o (j+1) (by omega);rw[if_neg k2,iJ,dU,aW] at this;unfold jV;rw[aO,fT];exact this
 clear h0 y t;go_enter Tryz.func181,Tryz.ntmps181;go_wp2_with (first|(go_at_call 121;go_must (refine(ku b a w S hN).mono ?_;rintro e w1 ⟨rfl,rfl⟩;rw[N];refine sO ?_)));refine sN ?_;have l:=aR w.heap.size w;go_wp2_with fail;refine o9 (fun W=>Below w.heap.size w W) (fun i=> !([14,28].contains i)) [0,1,2,3,4,5,6,7,8,9,10,11,12,13,15,16,17,18,19,20,21,22,23,24,25,26,27,29,30,31,32,33,34,35,36] 14 28 [37,28,38,39] [14,37,38,39] rfl (by kernel_rfl) l.drew ?_
 repeat ((refine Gv (v:= ?_) rfl rfl (fun _ _ _ h=>h) rfl (fun W c=> ?_) ?_);rotate_left;(focus (try dsimp only at c);have J:=I W c;have y:=H W c;have t:=D W c;first|(go_simp;first|done|with_reducible rfl));(try simp only[Act.put,aj,au,ak]))
 refine zL (zY rfl rfl rfl rfl ?_ ?_)
 ·intro K s
  go_simp
  refine s.out _ _ (l.drew.alloc l.size _) ?_
  (try simp only[Act.put,aj,au,ak])
  repeat (refine oq ?_ rfl rfl rfl ?_ ?_;rotate_left;(focus intro W c;(try dsimp only at c);have J:=I W c;have y:=H W c;have t:=D W c;first|(go_simp;first|done|with_reducible rfl));try simp only[Act.put,aj,au,ak])
  refine dI rfl rfl rfl ?_;intro K s
  go_simp
  have d:=fun n r=>(l.drew.alloc l.size n).alloc (aK l.size (by simp)) r
  refine s.out _ _ (d _ _) ?_
  (try simp only[Act.put,aj,au,ak])
  repeat (refine oq ?_ rfl rfl rfl ?_ ?_;rotate_left;(focus intro W c;(try dsimp only at c);have J:=I W c;have y:=H W c;have t:=D W c;first|(go_simp;first|done|with_reducible rfl));try simp only[Act.put,aj,au,ak])
  refine bR ?_
  go_wp2
  go_ret3
  exact⟨j+1,by omega,_,_,T.out,rfl,zT (d _ _) G C (xI _ _ _) (m _ (aD _)),zT (d _ _) A F (xJ _ _ _) (m _ (nY _)),d _ _⟩
 ·intro K s
  go_simp
  refine s.out _ _ (l.drew.alloc l.size _) ?_
  (try simp only[Act.put,aj,au,ak])
  repeat (refine oq ?_ rfl rfl rfl ?_ ?_;rotate_left;(focus intro W c;(try dsimp only at c);have J:=I W c;have y:=H W c;have t:=D W c;first|(go_simp;first|done|with_reducible rfl));try simp only[Act.put,aj,au,ak])
  refine dI rfl rfl rfl ?_;intro K s
  go_simp
  have d:=fun n r=>(l.drew.alloc l.size n).alloc (aK l.size (by simp)) r
  refine s.out _ _ (d _ _) ?_
  (try simp only[Act.put,aj,au,ak])
  repeat (refine oq ?_ rfl rfl rfl ?_ ?_;rotate_left;(focus intro W c;(try dsimp only at c);have J:=I W c;have y:=H W c;have t:=D W c;first|(go_simp;first|done|with_reducible rfl));try simp only[Act.put,aj,au,ak])
  refine bR ?_
  go_wp2
  go_ret3
  exact⟨j+1,by omega,_,_,T.out,rfl,zT (d _ _) G C (xJ _ _ _) (m _ (nY _)),zT (d _ _) A F (xI _ _ _) (m _ (aD _)),d _ _⟩
