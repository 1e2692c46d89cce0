/- parts -/
import Derived.Test.YtpmbddooibgnaaaGreatDoorN3
import Derived.Test.YtpmbddooibgnaaaGreatDoorN6
import Derived.Test.YtpmbddooibgnaaaGreatDoorN7
set_option maxRecDepth 100000
set_option maxHeartbeats 8000000
set_option linter.all false
namespace Go.Proofs.YtpmbddooibgnaaaGreatDoor
open Go.RowKit
structure Lg where
 frm:Nat
 n:Nat
 start:Nat
 used:Nat
 list:List (Nat×Nat)
 last:Nat
 synced:Nat
 dead:Bool
def leB (x:Nat):Nat->List UInt8
 |0=>[]
 |k+1=>b8 x::leB (x/256) k
theorem bI (x:Nat):∀k,(leB x k).length=k
 |0=>rfl
 |k+1=>by rw[leB,aZ,bI]
def rO:List UInt8->Nat
 |[]=>0
 |b::l=>b.toNat+256*rO l
theorem oZ:∀(k x:Nat),x<256^k->rO (leB x k)=x
 |0,x,h=>by simp at h;rw[h];rfl
 |k+1,x,h=>by
  have a:x/256<256^k:=by rw[Ug] at h;omega
  have b:(b8 x).toNat=x%256:=by simp[b8]
  rw[leB,rO,oZ k _ a,b]
  omega
def magic:List UInt8:=[100,111,99,107,101,116,32,108,111,103,32,49]
def Lg.first (l:Lg):Nat:=match l.list with|[]=>l.last+1|e::_=>e.1
def Lg.lG (l:Lg):List UInt8:=magic++leB l.frm 8++leB l.n 8++leB l.start 8++leB l.first 8++leB l.synced 8
def wU (l:List UInt8):Nat:=(tL l).toNat
theorem tK (l:List UInt8):tL l=(wU l:Int):=by have:=yH l;unfold wU;omega
theorem xO (l:List UInt8):wU l<4294967296:=by have:=yH l;unfold wU;omega
def Lg.d9 (l:Lg):List UInt8:=l.lG++leB (wU l.lG) 4
theorem Lg.og (l:Lg):l.lG.length=52:=by unfold Lg.lG;simp[bI,magic]
theorem Lg.yw (l:Lg):l.d9.length=56:=by unfold Lg.d9;rw[aB,l.og,bI]
def Lg.dies (l:Lg):Lg:={l with dead:=true}
def Lg.mark (d:Dk)(l:Lg):Dk×Lg×Int:=
 if (d.write l.frm l.d9).2=0 then
  if (d.write l.frm l.d9).1.sync.2=0 then((d.write l.frm l.d9).1.sync.1,l,0) else((d.write l.frm l.d9).1.sync.1,l.dies,10)
 else((d.write l.frm l.d9).1,l.dies,10)
def Lg.room (l:Lg):Nat:=l.n - 1 - l.used
def Lg.ring (l:Lg)(at_:Nat):Nat:=l.frm+1+at_%(l.n - 1)
def bZ (bg:List (List UInt8)):Nat:=(16+(bg.map fun r=>4+r.length).sum+511)/512
def gB (bg:List (List UInt8)):List UInt8:=bg.flatMap fun r=>leB r.length 4++r
def gD (k:Nat)(bg:List (List UInt8)):List UInt8:=leB (16+(gB bg).length) 4++leB k 8++leB (wU (gB bg)) 4++gB bg
theorem lC (a:List (List UInt8)):(gB a).length=(a.map fun r=>4+r.length).sum:=by
 unfold gB
 rw[List.length_flatMap]
 simp[bI]
theorem rP (k:Nat)(a:List (List UInt8)):(gD k a).length=16+(a.map fun r=>4+r.length).sum:=by
 simp only[gD,aB,bI,lC]
def Lg.qm (l:Lg)(b:List UInt8):Nat->Nat->Dk->Dk×Int
 |0,_,d=>(d,0)
 |k+1,i,d=>
  if (d.write (l.ring (l.start+l.used+i)) ((b.drop (i*512)).take 512)).2=0 then l.qm b k (i+1) (d.write (l.ring (l.start+l.used+i)) ((b.drop (i*512)).take 512)).1
  else((d.write (l.ring (l.start+l.used+i)) ((b.drop (i*512)).take 512)).1,10)
def Lg.bad (l:Lg)(bg:List (List UInt8)):Int:=
 if l.dead then 10 else if bg.length=0\/1024<bg.length then 1 else if bg.any (fun r=>decide (600<r.length)) then 1 else if l.room<bZ bg then 12 else 0
def Lg.more (l:Lg)(bg:List (List UInt8)):Lg:={l with last:=l.last+1,used:=l.used+bZ bg,list:=l.list++[(l.last+1,bZ bg)]}
def Lg.append (d:Dk)(l:Lg)(bg:List (List UInt8)):Dk×Lg×Nat×Int:=
 if l.bad bg≠0 then(d,l,0,l.bad bg) else
 if (l.qm (gD (l.last+1) bg) (bZ bg) 0 d).2=0 then((l.qm (gD (l.last+1) bg) (bZ bg) 0 d).1,l.more bg,l.last+1,0)
 else((l.qm (gD (l.last+1) bg) (bZ bg) 0 d).1,l.dies,0,10)
def Lg.all (l:Lg):Lg:={l with synced:=l.last}
def Lg.sync (d:Dk)(l:Lg):Dk×Lg×Int:=
 if l.dead then(d,l,10) else
 if d.sync.2=0 then
  if (l.all.mark d.sync.1).2.2=0 then l.all.mark d.sync.1 else((l.all.mark d.sync.1).1,l.dies,10)
 else(d.sync.1,l.dies,10)
def Lg.qO (upto:Nat):List (Nat×Nat)->Nat->Nat->Nat->List (Nat×Nat)×Nat×Nat
 |[],_,s,u=>([],s,u)
 |e::r,m,s,u=>if e.1<=upto then Lg.qO upto r m ((s+e.2)%m) (u - e.2) else(e::r,s,u)
def Lg.cut (l:Lg)(upto:Nat):Lg:={l with list:=(Lg.qO upto l.list (l.n - 1) l.start l.used).1,start:=(Lg.qO upto l.list (l.n - 1) l.start l.used).2.1,used:=(Lg.qO upto l.list (l.n - 1) l.start l.used).2.2}
def Lg.trim (d:Dk)(l:Lg)(upto:Nat):Dk×Lg×Int:=
 if l.dead then(d,l,10) else if l.synced<upto then(d,l,1) else
 if ((l.cut upto).mark d).2.2=0 then(l.cut upto).mark d else(((l.cut upto).mark d).1,l.dies,10)
theorem aV.RY {w:World}{S:Nat->Prop}{B e k n c l m:Nat}{v f:Value}{o a:List Value}(h:aV w S B e k v n o)(j:aV w S B c l f m a)(b:e≠c):∀g,v.ownBlock=some g->f.ownBlock≠some g:=by
 intro g d
 rcases h.1.2 with ⟨rfl,_⟩|⟨r,q,i,rfl,_,p,_⟩
 ·cases d
 ·cases d
  exact j.ne p b
theorem aV.lo {w:World}{S:Nat->Prop}{B e k n:Nat}{v:Value}{a:List Value}(h:aV w S B e k v n a):∀g,v.ownBlock=some g->B<=g:=fun g b=>(h.1.lt g b).1
structure DD (w:World)(S:Nat->Prop)(C:List UInt8)(v0:Value)(Ps:List Pr)(v1:Value)(Ks:List ByteArray)(v2:Value)(Ns:List Int)(wr:World):Prop where
 cut:IsCut wr S w.heap.size w.heap.size C
 node:wr.heap[w.heap.size+1]? =some (.cells #[v0,v1,v2] 272 (0,0))
 o0:aV wr S w.heap.size 188 2 v0 Ps.length (dG Ps)
 o1:aV wr S w.heap.size 9 1 v1 Ks.length (Ks.map .string)
 o2:aV wr S w.heap.size 3 1 v2 Ns.length (Ns.map (.int .i64))
 bel:Below w.heap.size w wr
section
variable {w wr:World} {S:Nat->Prop} {C:List UInt8} {v0 v1 v2:Value} {Ps:List Pr} {Ks:List ByteArray} {Ns:List Int}
theorem DD.lt (h:DD w S C v0 Ps v1 Ks v2 Ns wr):w.heap.size+1<wr.heap.size:=(aj.1 h.node).1
theorem DD.took (h:DD w S C v0 Ps v1 Ks v2 Ns wr){j:World}{l:List UInt8}(d:Keep (· =w.heap.size) wr j)(m:IsCut j S w.heap.size w.heap.size l):DD w S l v0 Ps v1 Ks v2 Ns j:=by
 have k:=h.lt
 obtain⟨_,_,n,a,_,_⟩:=h.cut
 exact⟨m,(d.block _ k (by omega)).trans h.node,
  h.o0.keep fun g c f b=>⟨d.block g f (fun e=>h.o0.ne a (by decide) (by rw[c,e])),b⟩,
  h.o1.keep fun g c f b=>⟨d.block g f (fun e=>h.o1.ne a (by decide) (by rw[c,e])),b⟩,
  h.o2.keep fun g c f b=>⟨d.block g f (fun e=>h.o2.ne a (by decide) (by rw[c,e])),b⟩,
  h.bel.trans (d.fw (by omega) (fun i o=>by omega))⟩
theorem DD.alloc (h:DD w S C v0 Ps v1 Ks v2 Ns wr)(o:Obj):DD w S C v0 Ps v1 Ks v2 Ns (wr.alloc o):=by
 have b:=h.lt
 have a:=aG wr o
 exact⟨h.cut.keep (a.block _ (by omega)) fun g c=>a.block _ (by omega),(a.block _ b).trans h.node,h.o0.below a,h.o1.below a,h.o2.below a,h.bel.trans (a.mono (by omega))⟩
theorem DD.drew (h:DD w S C v0 Ps v1 Ks v2 Ns wr):DD w S C v0 Ps v1 Ks v2 Ns wr.drew:=
 ⟨h.cut.keep rfl fun _ _=>rfl,h.node,h.o0.drew,h.o1.drew,h.o2.drew,h.bel.drew⟩
theorem DD.node2 (h:DD w S C v0 Ps v1 Ks v2 Ns wr){a:World}(b:Keep (fun g=>v2.ownBlock=some g) wr a):a.heap[w.heap.size+1]? =some (.cells #[v0,v1,v2] 272 (0,0)):=
 (b.block _ h.lt (h.o2.ne h.node (by decide))).trans h.node
theorem DD.node1 (h:DD w S C v0 Ps v1 Ks v2 Ns wr){a:World}(b:Keep (fun g=>v1.ownBlock=some g) wr a):a.heap[w.heap.size+1]? =some (.cells #[v0,v1,v2] 272 (0,0)):=
 (b.block _ h.lt (h.o1.ne h.node (by decide))).trans h.node
theorem DD.XY (h:DD w S C v0 Ps v1 Ks v2 Ns wr){f:World}(j:Keep (fun g=>v2.ownBlock=some g) wr f)(m:Below w.heap.size wr f){v':Value}{Ns':List Int}
  (i:aV f S w.heap.size 3 1 v' Ns'.length (Ns'.map (.int .i64))):DD w S C v0 Ps v1 Ks v' Ns' (f.setCell ⟨w.heap.size+1,2,none⟩ v'):=by
 have r:=h.lt
 have k:=h.node2 j
 obtain⟨_,_,s,l,_,_⟩:=h.cut
 have b:Keep (· =w.heap.size+1) f (f.setCell ⟨w.heap.size+1,2,none⟩ v'):=Keep.setCell (M:=(· =w.heap.size+1)) (p:=⟨w.heap.size+1,2,none⟩) (Keep.refl _ _) (.inr rfl) v'
 have q:=j.size
 have o:aV f S w.heap.size 188 2 v0 Ps.length (dG Ps):=h.o0.keep fun g a d c=>⟨j.block g d (h.o0.RY h.o2 (by decide) g a),c⟩
 have n:aV f S w.heap.size 9 1 v1 Ks.length (Ks.map .string):=h.o1.keep fun g a d c=>⟨j.block g d (h.o1.RY h.o2 (by decide) g a),c⟩
 refine⟨h.cut.keep ?_ ?_,?_,o.keep fun g a d c=>⟨b.block g d (fun e=>o.ne k (by decide) (by rw[a,e])),c⟩,n.keep fun g a d c=>⟨b.block g d (fun e=>n.ne k (by decide) (by rw[a,e])),c⟩,
  i.keep fun g a d c=>⟨b.block g d (fun e=>i.ne k (by decide) (by rw[a,e])),c⟩,(h.bel.trans m).setCell (by simp) v'⟩
 ·exact(b.block _ (by omega) (by omega)).trans (j.block _ (by omega) (h.o2.ne l (by decide)))
 ·exact fun g a=>(b.block _ (by omega) (by omega)).trans (m.block g a)
 ·simp[World.setCell,aK,k]
theorem DD.U7 (h:DD w S C v0 Ps v1 Ks v2 Ns wr){f:World}(j:Keep (fun g=>v1.ownBlock=some g) wr f)(m:Below w.heap.size wr f){v':Value}{Ks':List ByteArray}
  (i:aV f S w.heap.size 9 1 v' Ks'.length (Ks'.map .string)):DD w S C v0 Ps v' Ks' v2 Ns (f.setCell ⟨w.heap.size+1,1,none⟩ v'):=by
 have r:=h.lt
 have k:=h.node1 j
 obtain⟨_,_,s,l,_,_⟩:=h.cut
 have b:Keep (· =w.heap.size+1) f (f.setCell ⟨w.heap.size+1,1,none⟩ v'):=Keep.setCell (M:=(· =w.heap.size+1)) (p:=⟨w.heap.size+1,1,none⟩) (Keep.refl _ _) (.inr rfl) v'
 have q:=j.size
 have o:aV f S w.heap.size 188 2 v0 Ps.length (dG Ps):=h.o0.keep fun g a d c=>⟨j.block g d (h.o0.RY h.o1 (by decide) g a),c⟩
 have n:aV f S w.heap.size 3 1 v2 Ns.length (Ns.map (.int .i64)):=h.o2.keep fun g a d c=>⟨j.block g d (h.o2.RY h.o1 (by decide) g a),c⟩
 refine⟨h.cut.keep ?_ ?_,?_,o.keep fun g a d c=>⟨b.block g d (fun e=>o.ne k (by decide) (by rw[a,e])),c⟩,
  i.keep fun g a d c=>⟨b.block g d (fun e=>i.ne k (by decide) (by rw[a,e])),c⟩,n.keep fun g a d c=>⟨b.block g d (fun e=>n.ne k (by decide) (by rw[a,e])),c⟩,(h.bel.trans m).setCell (by simp) v'⟩
 ·exact(b.block _ (by omega) (by omega)).trans (j.block _ (by omega) (h.o1.ne l (by decide)))
 ·exact fun g a=>(b.block _ (by omega) (by omega)).trans (m.block g a)
 ·simp[World.setCell,aK,k]
theorem DD.RO (h:DD w S C v0 Ps v1 Ks v2 Ns wr)(a:¬S (w.heap.size+1)):ig wr S w.heap.size (w.heap.size+1) ⟨Ps,Ks,Ns⟩:=⟨a,by omega,v0,v1,v2,h.node,h.o0,h.o1,h.o2⟩
end
theorem JV (a c t:Nat)(j:a<256)(k:c<256)(l:t=a+256*c):bits .or .i64 (IntKind.i64.wrap (a:Int)) (IntKind.i64.wrap (IntKind.i64.wrap (c:Int)*256))=(t:Int):=by
 have d:IntKind.i64.wrap (a:Int)=(a:Int):=by rw[bX];omega
 have g:IntKind.i64.wrap (c:Int)=(c:Int):=by rw[bX];omega
 have f:IntKind.i64.wrap ((c:Int)*256)=((256*c:Nat):Int):=by rw[bX];omega
 rw[g,f,d]
 unfold bits
 have e:(BitVec.ofInt 64 (a:Int)|||BitVec.ofInt 64 ((256*c:Nat):Int)).toNat=t:=by
  rw[kL,kL,IG,jg,jg,jY (by omega),jY (by omega),Nat.or_comm]
  have:=pu (i:=8) (b:=a) (by omega) c
  rw[show (256:Nat)=2^8 from rfl,<-this]
  omega
 show IntKind.i64.wrap (((BitVec.ofInt 64 (a:Int)|||BitVec.ofInt 64 ((256*c:Nat):Int)).toNat:Nat):Int)=t
 rw[e,bX]
 omega
end Go.Proofs.YtpmbddooibgnaaaGreatDoor
