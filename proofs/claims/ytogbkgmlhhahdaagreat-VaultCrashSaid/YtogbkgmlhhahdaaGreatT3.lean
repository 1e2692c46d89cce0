--
import Derived.Test.YtogbkgmlhhahdaaGreatT2
import Derived.Deep.MidRow
import Derived.OrdersHeld
import Derived.Deep.RegionHeld
set_option maxRecDepth 100000
set_option maxHeartbeats 0
set_option linter.all false
namespace Go.Proofs.YtogbkgmlhhahdaaGreat
open Go.RowKit
variable{a:Array Bool}{b:List Nat}{i j:Nat}{q:Nat->Bool}{o:Oper}{w:World}
structure Dk where
 n:Nat
 sec:Nat->List UInt8
 waits:List (Nat×List UInt8)
 fuel:Int
 dead:Bool
def behind (ws:List (Nat×List UInt8))(i:Nat)(x:List UInt8):List UInt8:=ws.foldl (fun x p=>if p.1=i then p.2 else x) x
def Dk.get (σ:Dk)(i:Nat):List UInt8:=behind σ.waits i (σ.sec i)
def pad (l:List UInt8):List UInt8:=l++List.replicate (512 - l.length) 0
def pX {l:List UInt8}(h:l.length<=512):(pad l).length=512:=by simp[pad];omega
def ow (a b:List (Nat×List UInt8))(i:Nat)(x:List UInt8):behind (a++b) i x=behind b i (behind a i x):=by simp[behind]
def wS:∀(a:List (Nat×List UInt8)) (i:Nat) (x:List UInt8),(∀p∈a,p.1≠i)->behind a i x=x
 |[],_,_,_=>rfl
 |p::a,i,x,h=>by
  have c:behind (p::a) i x=behind a i (if p.1=i then p.2 else x):=rfl
  rw[c,if_neg (h p (bf ..))]
  exact wS a i x fun q b=>h q (aX _ b)
def Pt (a:List (Nat×List UInt8))(i k:Nat)(x:List UInt8)(l:k<a.length)(f:a[k].1=i)(d:∀j (c:j<a.length),k<j->a[j].1≠i):behind a i x=a[k].2:=by
 have e:a.take k++a[k]::a.drop (k+1)=a:=by rw[List.getElem_cons_drop,bJ]
 have g:behind (a.take k++a[k]::a.drop (k+1)) i x=a[k].2:=by
  rw[ow];show behind (a.drop (k+1)) i (if a[k].1=i then a[k].2 else behind (a.take k) i x)=_;rw[if_pos f];exact wS (a.drop (k+1)) i a[k].2 (fun p b=>by
   obtain⟨j,c,rfl⟩:=List.mem_iff_getElem.1 b
   rw[qE]
   exact d _ _ (by omega))
 rwa [e] at g
def EL (a:List (Nat×List UInt8))(i:Nat)(x:List UInt8)(b:x.length=512)(h:∀p∈a,p.2.length=512):(behind a i x).length=512:=by
 induction a generalizing x with
 |nil=>exact b
 |cons p a ih=>
  show (behind a i (if p.1=i then p.2 else x)).length=512;refine ih _ ?_ fun q c=>h q (aX _ c)
  split
  ·exact h p (bf ..)
  ·exact b
def gD (p:Nat×List UInt8):List Value:= .int .i64 (p.1:Int)::aI p.2
def kG (ws:List (Nat×List UInt8)):List Value:=ws.flatMap gD
def BR (a b:List (Nat×List UInt8)):kG (a++b)=kG a++kG b:=by simp[kG]
def jJ {p:Nat×List UInt8}(h:p.2.length=512):(gD p).length=513:=by simp[gD,bP,h]
def vg {a:List (Nat×List UInt8)}(h:∀p∈a,p.2.length=512):(kG a).length=a.length*513:=by
 induction a with
 |nil=>rfl
 |cons p a ih=>
  have:=ih fun q b=>h q (aX _ b)
  simp only[kG,iY,ay,bn] at*;rw[jJ (h p (bf ..)),this];omega
structure Dk.Ok (σ:Dk):Prop where
 lo:1<=σ.n
 hi:σ.n<=4096
 sec:∀i,(σ.sec i).length=512
 wt:∀p∈σ.waits,p.1<σ.n/\p.2.length=512
 fl: -1<=σ.fuel/\σ.fuel<=9223372036854775807
def Dk.Ok.get {a:Dk}(h:a.Ok)(i:Nat):(a.get i).length=512:=EL _ _ _ (h.sec i) fun p b=>(h.wt p b).2
def Dk.fK (σ:Dk):Dk:=if σ.fuel=0 then{σ with dead:=true} else if 0<σ.fuel then{σ with fuel:=σ.fuel - 1} else σ
def Dk.put (σ:Dk)(i:Nat)(l:List UInt8):Dk:={σ with waits:=σ.waits++[(i,pad l)]}
def Dk.flush (σ:Dk):Dk:={σ with sec:=σ.get,waits:=[]}
def Dk.get_put (a:Dk)(i j:Nat)(l:List UInt8):(a.put i l).get j=if i=j then pad l else a.get j:=by
 unfold Dk.get Dk.put;rw[ow];rfl
def Dk.oO (a:Dk)(j:Nat):a.flush.get j=a.get j:=rfl
def Dk.Ok.put {b:Dk}(h:b.Ok)(i:Nat)(l:List UInt8)(d:i<b.n)(c:l.length<=512):(b.put i l).Ok:=
 ⟨h.lo,h.hi,h.sec,fun p a=>by
  rcases bU.1 a with a|a
  ·exact h.wt p a
  ·rw[bQ.1 a];exact⟨d,pX c⟩,h.fl⟩
def Dk.Ok.fK {a:Dk}(h:a.Ok):a.fK.Ok:=by
 have b:=h.fl;unfold Dk.fK
 split
 ·exact⟨h.lo,h.hi,h.sec,h.wt,h.fl⟩
 ·split
  ·refine⟨h.lo,h.hi,h.sec,h.wt,?_⟩
   show -1<=a.fuel - 1/\a.fuel - 1<=9223372036854775807;omega
  ·exact h
def Dk.write (σ:Dk)(i:Int)(l:List UInt8):Dk×Int:=
 if σ.dead then(σ,10) else if i<0\/(σ.n:Int)<=i then(σ,1) else if 512<l.length then(σ,1) else
 if σ.fK.dead then(σ.fK,10) else(σ.fK.put i.toNat l,0)
def Dk.sync (σ:Dk):Dk×Int:=if σ.dead then(σ,10) else if σ.fK.dead then(σ.fK,10) else(σ.fK.flush,0)
def Dk.bad (σ:Dk)(i:Int):Int:=if σ.dead then 10 else if i<0\/(σ.n:Int)<=i then 1 else 0
structure o8 (w:World)(S:Nat->Prop)(d:Nat)(σ:Dk)(gs:Nat)(wv:Value):Prop where
 ok:σ.Ok
 sub:∀g,S g->g<w.heap.size
 sd:S d
 sg:S gs
 ne:gs≠d
 obj:w.heap[d]? =some (.cells #[.slice (some ⟨gs,0,none⟩) σ.n σ.n,wv,.int .i64 σ.fuel,.bool σ.dead] 82 (0,0))
 blk:∃C,w.heap[gs]? =some (.cells C 111 (0,0))/\C.size=σ.n*512
 sec:∀i,i<σ.n->w.rangeAt gs (i*512) (aI (σ.sec i))
 own:aT w gB 0 113 513 wv σ.waits.length (kG σ.waits)
 sw:∀g,wv.ownBlock=some g->S g/\g≠d/\g≠gs
def o8.cells {S:Nat->Prop}{d:Nat}{a:Dk}{e:Nat}{c:Value}(h:o8 w S d a e c):
  w.cell? ⟨d,0,none⟩=some (.slice (some ⟨e,0,none⟩) a.n a.n)/\w.cell? ⟨d,1,none⟩=some c/\w.cell? ⟨d,2,none⟩=some (.int .i64 a.fuel)/\w.cell? ⟨d,3,none⟩=some (.bool a.dead)/\d<w.heap.size/\(∀i,i<4->w.frozen? ⟨d,i,none⟩=false):=by
 have b:=h.obj;refine⟨?_,?_,?_,?_,(ai.1 b).1,?_⟩
 all_goals first
  |(simp[World.cell?,b];done)
  |(intro i _;simp[World.frozen?,b])
theorem nO (d:Nat)(c:Dk)(S:Nat->Prop)(k:Nat)(m:Value)(i:Int)(w:World)(h:o8 w S d c k m):
  Calls Tryz.prog 53 #[.pointer (some ⟨d,0,none⟩),.int .i64 i] w fun e g=>e= .returned (.int .i64 (c.bad i))/\g=w:=by
 obtain⟨p,_,_,f,o,_⟩:=h.cells;go_enter Tryz.func53,Tryz.ntmps53;cases b:c.dead with
 |true=>
  rw[b] at f;go_wp2_with fail;go_ret;exact⟨by simp[Dk.bad,b],rfl⟩
 |false=>
  rw[b] at f
  by_cases a:i<0\/(c.n:Int)<=i
  ·rcases a with a|a
   ·go_wp2_with fail
    go_ret;exact⟨by simp[Dk.bad,b,a],rfl⟩
   ·have n:¬i<0:=by omega
    go_wp2_with fail;go_ret;exact⟨by simp[Dk.bad,b,a],rfl⟩
  ·have j:¬i<0:=fun x=>a (.inl x)
   have l:¬(c.n:Int)<=i:=fun x=>a (.inr x)
   go_wp2_with fail;go_ret;exact⟨by simp[Dk.bad,b,j,l],rfl⟩
def o8.U3 {f:World}{S:Nat->Prop}{d:Nat}{b a:Dk}{c:Nat}{n:Value}(h:o8 w S d b c n)(e:Keep (· =d) w f)(m:a.n=b.n)(l:a.sec=b.sec)(s:a.waits=b.waits)(t:a.Ok)
  (q:f.heap[d]? =some (.cells #[.slice (some ⟨c,0,none⟩) b.n b.n,n,.int .i64 a.fuel,.bool a.dead] 82 (0,0))):o8 f S d a c n:=by
 refine⟨t,fun g k=>ax (h.sub g k) e.size,h.sd,h.sg,h.ne,by rw[m];exact q,?_,fun i y=> ?_,?_,h.sw⟩
 ·obtain⟨C,r,o⟩:=h.blk
  exact⟨C,(e.block c (h.sub _ h.sg) h.ne).trans r,by rw[m];exact o⟩
 ·rw[l]
  intro j v z;exact(e.cell (p:=⟨c,i*512+j,none⟩) (h.sub _ h.sg) h.ne).trans (h.sec i (by rw[<-m];exact y) j v z)
 ·rw[s]
  exact h.own.keep fun g k x l=>⟨e.block g x (h.sw g k).2.1,l⟩
theorem Ae (d:Nat)(a:Dk)(S:Nat->Prop)(l:Nat)(n:Value)(w:World)(h:o8 w S d a l n)(j:a.dead=false):
  Calls Tryz.prog 54 #[.pointer (some ⟨d,0,none⟩)] w fun e k=>e= .returned (.bool (!a.fK.dead))/\o8 k S d a.fK l n/\Keep (· =d) w k:=by
 obtain⟨_,_,r,t,y,m⟩:=h.cells;have v:=m 2 (by omega);have o:=m 3 (by omega);have g:=h.obj;have s:=h.ok.fl.2;have b:=h.ok.fK;rw[j] at t;go_enter Tryz.func54,Tryz.ntmps54
 by_cases i:a.fuel=0
 ·rw[i] at r
  go_wp2_with fail;go_ret;have c:a.fK={a with dead:=true}:=by unfold Dk.fK;rw[if_pos i]
  rw[c] at b ⊢;have f:Keep (· =d) w (w.setCell ⟨d,3,none⟩ (.bool true)):=(Keep.refl (· =d) w).setCell (p:=⟨d,3,none⟩) (.inr rfl) _;refine⟨rfl,h.U3 f rfl rfl rfl b ?_,f⟩;rw[iy w d 3 _ _ _ g];rfl
 ·by_cases q:0<a.fuel
  ·have x:IntKind.i64.wrap (a.fuel - 1)=a.fuel - 1:=aG _ (by omega)
   go_wp2_with fail;go_ret;have c:a.fK={a with fuel:=a.fuel - 1}:=(by unfold Dk.fK;rw[if_neg i,if_pos q]);rw[c] at b ⊢;have f:Keep (· =d) w (w.setCell ⟨d,2,none⟩ (.int .i64 (a.fuel - 1))):=(Keep.refl (· =d) w).setCell (p:=⟨d,2,none⟩) (.inr rfl) _;refine⟨by simp[j],h.U3 f rfl rfl rfl b ?_,f⟩;rw[iy w d 2 _ _ _ g];rfl
  ·go_wp2_with fail
   go_ret;have c:a.fK=a:=(by unfold Dk.fK;rw[if_neg i,if_neg (by omega)]);rw[c,j];exact⟨rfl,h,Keep.refl _ w⟩
theorem N9 (d:Nat)(a:Dk)(S:Nat->Prop)(f:Nat)(b:Value)(w:World)(h:o8 w S d a f b):
  Calls Tryz.prog 9 #[.pointer (some ⟨d,0,none⟩)] w fun e c=>e= .returned (.int .i64 a.n)/\c=w:=by
 obtain⟨k,_,_,j,i,g⟩:=h.cells;go_enter Tryz.func9,Tryz.ntmps9;go_wp2_with fail;go_ret;exact⟨rfl,rfl⟩
theorem Rz (d:Nat)(a:Dk)(S:Nat->Prop)(f:Nat)(b:Value)(w:World)(h:o8 w S d a f b):
  Calls Tryz.prog 34 #[.pointer (some ⟨d,0,none⟩)] w fun e c=>e= .returned (.bool a.dead)/\c=w:=by
 obtain⟨k,_,_,j,i,g⟩:=h.cells;go_enter Tryz.func34,Tryz.ntmps34;go_wp2_with fail;go_ret;exact⟨rfl,rfl⟩
def Dy {b o n:Nat}{a:List Value}(h:w.rangeAt b o a)(g:b<w.heap.size)(i:a.length=n)(d:n<=maxLen):aZ w gB 1 (.slice (some ⟨b,o,none⟩) n n) n a:=
 ⟨some ⟨b,o,none⟩,n,rfl,aD _,d,by rw[i,aW],fun e=>(by cases e),fun k c=>(by cases c;exact⟨rfl,g,id⟩),fun j u f=>⟨b,o,rfl,h j u f⟩⟩
def uy:∀{a:List (Nat×List UInt8)} (_:∀p∈a,p.2.length=512) (k:Nat) (c:k<a.length) (j:Nat) (v:Value),(gD a[k])[j]? =some v->(kG a)[k*513+j]? =some v
 |[],_,k,c,_,_,_=>absurd c (by simp)
 |p::a,h,0,_,j,v,d=>by
  have e:(kG (p::a))=gD p++kG a:=rfl
  have b:(gD p)[j]? =some v:=d
  rw[e,rq,dX,eF (dm.1 b).1]
  exact b
 |p::a,h,k+1,c,j,v,d=>by
  have e:(kG (p::a))=gD p++kG a:=rfl
  have b:=jJ (h p (bf ..))
  have g:=uy (fun q f=>h q (aX _ f)) k (by simpa using c) j v d
  rw[e,dA (by rw[b];omega),b,show (k+1)*513+j - 513=k*513+j from by omega]
  exact g
theorem OW (d:Nat)(a:Dk)(S:Nat->Prop)(N:Nat)(X:Value)(i:Nat)(w:World)(h:o8 w S d a N X)(Y:a.dead=false)(hi:i<a.n):
  Calls Tryz.prog 102 #[.pointer (some ⟨d,0,none⟩),.int .i64 i] w fun e W=>∃v,e= .returned (.tuple #[v,.int .i64 0])/\aT W gB w.heap.size 5 1 v 512 (aI (a.get i))/\Below w.heap.size w W:=by
 obtain⟨c0,c1,_,_,hl,_⟩:=h.cells;have E:a.bad i=0:=by unfold Dk.bad;rw[Y];simp;omega
 have s:=nO d a S N X i w h;rw[E] at s;have O:=ah s;clear s;obtain⟨wo,wc,rfl,qo,p9,_,_⟩:=aZ.form h.own.dx;have q:=ah h.ok.wt;have q8:(i:Int)<(a.n:Int):=by omega
 have pM:IntKind.i64.wrap ((a.waits.length:Int) - 1)=(a.waits.length:Int) - 1:=aG _ (by omega);go_enter Tryz.func102,Tryz.ntmps102;go_wp2_with (first|(go_at_call 53;go_must (refine O.out.mono ?_;rintro e Z ⟨rfl,hw⟩;subst Z)))
 go_loopw [7] (fun x wr=>∃(k:Nat) (z:Int),k<=a.waits.length/\z+1=k/\x= .int .i64 z/\wr=w/\∀j (m:j<a.waits.length),k<=j->a.waits[j].1≠i) (fun x _=>(intOf x+1).toNat)
 case atStart=>exact⟨a.waits.length,_,aD _,by omega,rfl,rfl,fun j m hk=>absurd m (by omega)⟩
 case round=>
  obtain⟨k,z,hk,hz,rfl,rfl,o⟩:=hrel;rcases SG k with t|t
  ·subst t
   obtain rfl:z= -1:=(by omega);have l:a.get i=a.sec i:=wS _ _ _ fun p C=>by
    obtain⟨j,m,rfl⟩:=List.mem_iff_getElem.1 C;exact o j m (aS _)
   have f:=Dy (h.sec i hi) (h.sub _ h.sg) (n:=512) (by rw[bP,h.ok.sec]) (by simp[maxLen]);have c:=wP (.slice (some ⟨N,i*512,none⟩) 512 512) 512 _ wr gB (fun g l=>l.elim) f (iA _) (by omega);have r:=ah c;clear c;go_wp2_with (first|(go_at_call 148;go_must (refine r.out.mono ?_;rintro e w2 ⟨v,rfl,G,M⟩)))
   go_ret2;rw[l];exact⟨v,rfl,G,M⟩
  ·obtain⟨j,rfl⟩:∃j,k=j+1:=⟨k - 1,by omega⟩
   obtain rfl:z=(j:Int):=(by omega);clear hz;have m:j<a.waits.length:=(by omega);have B:=(q.out _ (bF m)).2;obtain⟨g,rfl,b⟩:∃g,wo=some ⟨g,0,none⟩/\∀y u,(gD a.waits[j])[y]? =some u->wr.cell? ⟨g,j*513+y,none⟩=some u:=by
    obtain⟨⟨qc,J⟩,_⟩:=h.own;rcases J with ⟨_,h0⟩|⟨g,qb,Q,G,_⟩
    ·omega
    ·cases G
     refine⟨g,rfl,fun y u T=> ?_⟩;have A:=uy (fun p C=>(q.out p C).2) j m y u T;obtain⟨Q,H,_,K,_⟩:=aT.row h.own;rw[H.cell,<-A,<-K,fD]
     split
     ·rfl
     ·exfalso
      have h2:=(dm.1 A).1;rw[vg (fun p C=>(q.out p C).2)] at h2;omega
   have q9:(j:Int)<(a.waits.length:Int):=(by omega);have I:wr.cell? ⟨g,j*513,none⟩=some (.int .i64 (a.waits[j].1:Int)):=b 0 _ rfl;have P:wr.rangeAt g (j*513+1) (aI a.waits[j].2):=fun y u T=>by
    rw[mP,vE 1];exact b (y+1) u T
   by_cases F:a.waits[j].1=i
   ·have l:a.get i=a.waits[j].2:=Pt _ _ _ _ m F fun y R D=>o y R (by omega)
    rw[F] at I;have V:g<wr.heap.size:=(h.own.1.lt _ rfl).2;have f:=Dy P V (n:=512) (by rw[bP,B]) (by simp[maxLen]);have c:=wP (.slice (some ⟨g,j*513+1,none⟩) 512 512) 512 _ wr gB (fun g l=>l.elim) f (iA _) (by omega);have r:=ah c;clear c;have HG:=ah l;clear f l;have HE:=ah F;clear F;go_wp2_with (first|(go_at_call 148;go_must (refine r.out.mono ?_;rintro e w2 ⟨v,rfl,G,M⟩)))
    go_ret2;rw[HG.out];exact⟨v,rfl,G,M⟩
   ·have ql:(((a.waits[j].1:Nat):Int)==(i:Int))=false:=fM.2 (by omega)
    go_wp2_with fail;go_roundw
    case rel=>exact⟨j,(j:Int) - 1,by omega,by omega,by go_num,trivial,fun y R D=>by
     rcases Nat.eq_or_lt_of_le D with e|e
     ·subst e;exact F
     ·exact o y R (by omega)⟩
    case measure=>simp[intOf]
section
variable {P:Program} {ops:Array Oper} {Q:Exit->Act->World->Prop} {md:Region.Mode} {S:World->Prop}
def JD (md:Region.Mode)(ops:Array Oper)(j:Nat):List Nat:=
 match ops[j]? with
 |none=>[]
 |some o=>(o.after.toList.filter (Region.binds md)).map (·.on)
def marks (md:Region.Mode)(ops:Array Oper):List Nat->List Nat->List Nat
 |[],l=>l
 |i::r,l=>marks md ops r (if l.contains i then(JD md ops i).foldl (fun acc k=>if acc.contains k then acc else k::acc) l else l)
def ny (md:Region.Mode)(ops:Array Oper)(j:Nat):Bool:=
 let l:=marks md ops (List.range ops.size).reverse (JD md ops j)
 (List.range ops.size).all fun i=>i==j||l.contains i
def qB (md:Region.Mode)(ops:Array Oper)(listed:Array Bool):Prop:=∀i k,i<ops.size->k∈JD md ops i->listed.getD i true=true->listed.getD k false=true
def wL {k:Nat}(g:j∈Region.ready md ops a)(c:k∈JD md ops j):a.getD k false=true:=by
 obtain⟨_,o,d,b⟩:=mem_ready.1 g;unfold JD at c;rw[d] at c;simp only[fw,List.mem_filter,Array.mem_toList_iff] at c;obtain⟨e,⟨f,i⟩,rfl⟩:=c;exact b e f i
def qB.set (h:qB md ops a)(e:j∈Region.ready md ops a):qB md ops (a.setIfInBounds j true):=by
 intro i k f c d
 by_cases b:j=i
 ·subst b;exact getD_set_true (wL e c)
 ·rw[getD_set_ne true b] at d;exact getD_set_true (h i k f c d)
def qB.replicate:qB md ops (Array.replicate ops.size false):=by
 intro i k b c a;simp[b] at a
def yu {x:Nat}:∀(b:List Nat) (l:List Nat),x∈b.foldl (fun a k=>if a.contains k then a else k::a) l->x∈b\/x∈l
 |[],l,h=> .inr h
 |e::r,l,h=>by
  rcases yu r _ h with h|h
  ·exact .inl (aX _ h)
  ·dsimp only at h
   split at h
   ·exact .inr h
   ·rcases bO.1 h with rfl|h
    ·exact .inl (bf ..)
    ·exact .inr h
def rQ (h:a.getD i false=true):a.getD i true=true:=by
 rcases gH i a.size with b|b
 ·simpa [b] using h
 ·simp[Array.getElem?_eq_none b] at h
def zO (h:qB md ops a):∀(r l:List Nat),(∀i∈r,i<ops.size)->(∀x∈l,a.getD x false=true)->∀x∈marks md ops r l,a.getD x false=true
 |[],_,_,c=>c
 |i::r,l,d,c=>by
  refine zO h r _ (fun k e=>d k (aX _ e)) ?_
  intro x b
  split at b
  ·rename_i f
   rcases yu _ _ b with b|b
   ·exact h i x (d i (bf ..)) b (rQ (c i (by simpa using f)))
   ·exact c x b
  ·exact c x b
def Ev (h:ny md ops j=true)(e:qB md ops a)(d:j∈Region.ready md ops a)(f:i<ops.size)(b:i≠j):a.getD i false=true:=by
 unfold ny at h;have:=oZ.1 h i (ng.2 f);simp only[tO,qQ,b,false_or] at this;refine zO e (List.range ops.size).reverse _ (fun k c=>by simpa using c) (fun x g=>wL d g) i (by simpa using this)
def uF (P:Program)(md:Region.Mode)(ops:Array Oper)(Q:Exit->Act->World->Prop)(S:World->Prop):Nat->Array Bool->Act->World->Prop
 |0,listed,a,w=>Region.ready md ops listed=[]/\Q .normal a w
 |fuel+1,listed,a,w=>
  (Region.ready md ops listed=[]->Q .normal a w)/\
  ∀i∈Region.ready md ops listed,wpOp P ops Q i (fun a' w'=>(ny md ops i=true\/S w')/\uF P md ops Q S fuel (listed.setIfInBounds i true) a' w') a w
def uD:∀(b:Nat) (c:Array Bool) (a:Act) (w:World),uF P md ops Q S b c a w->wpAny P md ops Q b c a w
 |0,_,_,_,h=>h
 |b+1,_,_,_,h=>⟨h.1,fun i g=>y9 (fun f e d=>uD b _ f e d.2) (h.2 i g)⟩
def I9 (h:i∈Region.ready md ops a):i<ops.size:=by
 obtain⟨_,o,b,_⟩:=mem_ready.1 h;exact(ai.1 b).1
def Oy (g:qB md ops a)(d:i∈Region.ready md ops a)(f:j∈Region.ready md ops a)(b:i≠j):ny md ops j=false:=by
 cases e:ny md ops j with
 |false=>rfl
 |true=>
  have c:=rQ (Ev e g f (I9 d) b);rw[(mem_ready.1 d).1] at c;cases c
theorem uE {s:Oper}{v:Value}(V:ops[i]? =some s)(p:∀(j:Nat) (o:Oper) C b,ops[j]? =some o->o.op≠.select C b)
  (Z:∀c a w,Q (.panic c) (a.put s.dst v) w->Q (.panic c) a w):
  ∀(g:Nat) (d:Array Bool) (a:Act) (w:World),qB md ops d->
   (∀j x,ops[j]? =some x->j≠i->d.getD j true=false->(∀e∈x.after,Region.binds md e=true->e.on≠i)->s.apart ops x=true)->
   i∈Region.ready md ops d->YieldsIf P ops S s v a->S w->
   uF P md ops Q S g (d.setIfInBounds i true) (a.put s.dst v) w->uF P md ops Q S (g+1) d a w:=by
 intro g
 induction g with
 |zero=>
  intro d a w t _ q J I H;refine⟨fun h=>(by rw[h] at q;cases q),fun j y=> ?_⟩
  by_cases f:j=i
  ·subst f;exact J.wpOp V I ⟨.inr I,H⟩
  ·have:=ready_mono y f
   rw[H.1] at this;cases this
 |succ g ih=>
  intro d a w t l q J I H;refine⟨fun h=>(by rw[h] at q;cases q),fun j y=> ?_⟩
  by_cases f:j=i
  ·subst f;exact J.wpOp V I ⟨.inr I,H⟩
  ·have h1:=H.2 j (ready_mono y f)
   have R:=Oy t q y (Ne.symm f);obtain⟨n,x,r,G⟩:=mem_ready.1 y;have A:∀e∈x.after,Region.binds md e=true->e.on≠i:=fun e he hb N=>by
    have B:=G e he hb;have W:=(mem_ready.1 q).1;rw[N] at B;rcases gH i d.size with O|O
    ·simp[O] at W B;rw[W] at B;cases B
    ·simp[Array.getElem?_eq_none O] at B
   have Y:=wpOp_putIf r (l j x r f n A) (fun C b=>p i s C b V) (fun C b=>p j x C b r) Z J h1;have m:∀k D,ops[k]? =some D->k≠i->(d.setIfInBounds j true).getD k true=false->
     (∀e∈D.after,Region.binds md e=true->e.on≠i)->s.apart ops D=true:=fun k D hk M F K=>by
    refine l k D hk M ?_ K
    by_cases z:j=k
    ·subst z;exact n
    ·rw[getD_set_ne true z] at F;exact F
   refine y9 (fun a' X T=> ?_) Y;have E:S X:=T.2.1.resolve_left (by rw[R];simp);refine⟨.inr E,ih (d.setIfInBounds j true) a' X (t.set y) m (ready_mono q (Ne.symm f)) T.1 E ?_⟩;rw[Array.setIfInBounds_comm _ _ f];exact T.2.2
def Dm (md:Region.Mode)(ops:Array Oper)(q:Nat->Bool):List Nat->Array Bool->Bool
 |[],listed=>(Region.ready md ops listed).isEmpty
 |i::rest,listed=>
  (if q i then(Region.ready md ops listed).contains i && Region.free md ops listed i
   else(Region.ready md ops listed==[i]) && (!ny md ops i||rest.isEmpty)) && Dm md ops q rest (listed.setIfInBounds i true)
def mH (P:Program)(md:Region.Mode)(ops:Array Oper)(Q:Exit->Act->World->Prop)(S:World->Prop)(q:Nat->Bool):List Nat->Act->World->Prop
 |[],a,w=>Q .normal a w
 |i::rest,a,w=>
  if q i then ∃o v,ops[i]? =some o/\(∀c a w,Q (.panic c) (a.put o.dst v) w->Q (.panic c) a w)/\YieldsIf P ops S o v a/\mH P md ops Q S q rest (a.put o.dst v) w
  else wpOp P ops Q i (fun a' w'=>(ny md ops i=true\/S w')/\mH P md ops Q S q rest a' w') a w
theorem ou (x:Region.noSelect ops=true):∀(d:List Nat) (c:Nat) (b:Array Bool) (a:Act) (w:World),qB md ops b->
  Dm md ops q d b=true->d.length<=c->(d=[]\/S w)->mH P md ops Q S q d a w->uF P md ops Q S c b a w
 |[],c,b,a,w,_,k,_,_,h=>by
  have m:Region.ready md ops b=[]:=by simpa [Dm] using k
  cases c with
  |zero=>exact⟨m,h⟩
  |succ c=>exact⟨fun _=>h,fun i g=>by rw[m] at g;cases g⟩
 |i::f,0,_,_,_,_,_,p,_,_=>absurd p (by simp)
 |i::f,c+1,b,a,w,l,k,p,y,h=>by
  have B:S w:=y.resolve_left (by simp)
  simp only[Dm,dG] at k
  obtain⟨g,e⟩:=k
  by_cases n:q i=true
  ·simp only[n,iX,dG] at g
   simp only[mH,n,iX] at h
   obtain⟨o,v,z,C,E,h⟩:=h
   exact uE z (Sy x) C c b a w l (Region.free_spec z g.2) (by simpa using g.1) E B
    (ou x f c _ _ _ (l.set (by simpa using g.1)) e (by simpa using p) (.inr B) h)
  ·rw[if_neg n,dG,qQ] at g
   simp only[mH] at h
   rw[if_neg n] at h
   have s:Region.ready md ops b=[i]:=by simpa using g.1
   refine⟨fun m=>(by rw[s] at m;cases m),fun j A=> ?_⟩
   rw[s] at A
   obtain rfl:j=i:=by simpa using A
   refine y9 (fun G F t=>⟨t.1,ou x f c _ _ _ (l.set (by rw[s];exact bQ.2 rfl)) e (by simpa using p) ?_ t.2⟩) h
   rcases t.1 with D|r
   ·have:=g.2
    simp only[D] at this
    exact .inl (by simpa using this)
   ·exact .inr r
def aP {d:Nat}{a:Act}(S:World->Prop)(q:Nat->Bool)(b:List Nat)(e:P.follows .mixedOrders=true)(c:(Region.noSelect ops && decide (b.length<=ops.size) && Dm .any ops q b (Array.replicate ops.size false))=true)
  (f:S w.drew) (h:mH P .any ops Q S q b a w.drew):(Code.region d ops true).wp P Q a w:=by
 simp only[dG,eB] at c;exact wp_region_any e (uD _ _ _ _ (ou c.1.1 b _ _ _ _ qB.replicate c.2 c.1.2 (.inr f) h))
def bR {a:Act}(h:Q .normal a w):mH P md ops Q S q [] a w:=h
def wh {a:Act}{v:Value}(f:q i=true)(d:ops.toList[i]? =some o)(k:∀c a w,Q (.panic c) (a.put o.dst v) w->Q (.panic c) a w)
  (e:Region.wanted o (yielded ops a.tmps)=true) (g:∀W,S W->(execOp a.eval o).run P W= .ok (.value v) W) (h:mH P md ops Q S q b (a.put o.dst v) w):mH P md ops Q S q (i::b) a w:=by
 have j:ops[i]? =some o:=by rw[<-gT];exact d
 simp only[mH,f,iX];exact⟨o,v,j,k,.inl ⟨e,g⟩,h⟩
def QN {a:Act}(f:q i=true)(d:ops.toList[i]? =some o)(j:∀c a w,Q (.panic c) (a.put o.dst undef) w->Q (.panic c) a w)
  (e:Region.wanted o (yielded ops a.tmps)=false) (h:mH P md ops Q S q b (a.put o.dst undef) w):mH P md ops Q S q (i::b) a w:=by
 have g:ops[i]? =some o:=by rw[<-gT];exact d
 simp only[mH,f,iX];exact⟨o,undef,g,j,.inr ⟨e,rfl⟩,h⟩
def dI {a:Act}(f:q i=false)(c:ops.toList[i]? =some o)(d:Region.wanted o (yielded ops a.tmps)=true)
  (h:∀K:Act->World->Prop,Shut (∀a w,S w->mH P md ops Q S q b a w->K a w)->o.wp P a w K Q):mH P md ops Q S q (i::b) a w:=by
 have j:ops[i]? =some o:=by rw[<-gT];exact c
 simp only[mH,f,wpOp,j,d,iX];exact .inl (h _ (fun a w g e=>⟨.inr g,e⟩))
def jC {a:Act}(f:q i=false)(c:ops.toList[i]? =some o)(d:Region.wanted o (yielded ops a.tmps)=true)(g:ny md ops i=true)
  (h:∀K:Act->World->Prop,Shut (∀a w,mH P md ops Q S q b a w->K a w)->o.wp P a w K Q):mH P md ops Q S q (i::b) a w:=by
 have j:ops[i]? =some o:=by rw[<-gT];exact c
 simp only[mH,f,wpOp,j,d,iX];exact .inl (h _ (fun a w e=>⟨.inl g,e⟩))
end
def oq {P:Program}{ops:Array Oper}{Q:Exit->Act->World->Prop}{md:Region.Mode}{S:World->Prop}{a:Act}(v:Value)(f:q i=true)(d:ops.toList[i]? =some o)
    (g:Region.wanted o (yielded ops a.tmps)=true) (j:∀W,S W->(execOp a.eval o).run P W= .ok (.value v) W) (h:mH P md ops Q S q b (a.put o.dst v) w) (e:∀c a w,Q (.panic c) (a.put o.dst v) w->Q (.panic c) a w:=by exact fun _ _ _ h=>h):mH P md ops Q S q (i::b) a w:=wh f d e g j h
