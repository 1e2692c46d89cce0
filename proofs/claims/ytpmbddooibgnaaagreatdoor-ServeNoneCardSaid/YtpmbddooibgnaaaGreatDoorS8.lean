/- parts -/
import Derived.Test.YtpmbddooibgnaaaGreatDoorS3
import Derived.Test.YtpmbddooibgnaaaGreatDoorS6
import Derived.Test.YtpmbddooibgnaaaGreatDoorS7
set_option maxRecDepth 100000
set_option maxHeartbeats 8000000
set_option linter.all false
namespace Go.Proofs.YtpmbddooibgnaaaGreatDoor
open Go.RowKit
structure Lg where
 frm:Nat
 n:Nat
 start:Nat
 used:Nat
 list:List (Nat×Nat)
 last:Nat
 synced:Nat
 dead:Bool
def leB (x:Nat):Nat->List UInt8
 |0=>[]
 |k+1=>b8 x::leB (x/256) k
theorem dK (x:Nat):∀k,(leB x k).length=k
 |0=>rfl
 |k+1=>by rw[leB,aU,dK]
def magic:List UInt8:=[100,111,99,107,101,116,32,108,111,103,32,49]
def Lg.first (l:Lg):Nat:=match l.list with|[]=>l.last+1|e::_=>e.1
def Lg.oF (l:Lg):List UInt8:=magic++leB l.frm 8++leB l.n 8++leB l.start 8++leB l.first 8++leB l.synced 8
def Dl (l:List UInt8):Nat:=(tZ l).toNat
theorem zK (l:List UInt8):tZ l=(Dl l:Int):=by have:=vL l;unfold Dl;omega
theorem G8 (l:List UInt8):Dl l<4294967296:=by have:=vL l;unfold Dl;omega
def Lg.dZ (l:Lg):List UInt8:=l.oF++leB (Dl l.oF) 4
theorem Lg.vF (l:Lg):l.oF.length=52:=by unfold Lg.oF;simp[dK,magic]
theorem Lg.uZ (l:Lg):l.dZ.length=56:=by unfold Lg.dZ;rw[ay,l.vF,dK]
def Lg.dies (l:Lg):Lg:={l with dead:=true}
def Lg.mark (d:Dk)(l:Lg):Dk×Lg×Int:=
 if (d.write l.frm l.dZ).2=0 then
  if (d.write l.frm l.dZ).1.sync.2=0 then((d.write l.frm l.dZ).1.sync.1,l,0) else((d.write l.frm l.dZ).1.sync.1,l.dies,10)
 else((d.write l.frm l.dZ).1,l.dies,10)
def Lg.room (l:Lg):Nat:=l.n - 1 - l.used
def Lg.ring (l:Lg)(at_:Nat):Nat:=l.frm+1+at_%(l.n - 1)
def bN (bE:List (List UInt8)):Nat:=(16+(bE.map fun r=>4+r.length).sum+511)/512
def ng (bE:List (List UInt8)):List UInt8:=bE.flatMap fun r=>leB r.length 4++r
def nG (k:Nat)(bE:List (List UInt8)):List UInt8:=leB (16+(ng bE).length) 4++leB k 8++leB (Dl (ng bE)) 4++ng bE
theorem vP (bE:List (List UInt8)):(ng bE).length=(bE.map fun r=>4+r.length).sum:=by
 unfold ng
 rw[List.length_flatMap]
 simp[dK]
theorem Ap (k:Nat)(bE:List (List UInt8)):(nG k bE).length=16+(bE.map fun r=>4+r.length).sum:=by
 simp only[nG,ay,dK,vP]
def Lg.oq (l:Lg)(b:List UInt8):Nat->Nat->Dk->Dk×Int
 |0,_,d=>(d,0)
 |k+1,i,d=>
  if (d.write (l.ring (l.start+l.used+i)) ((b.drop (i*512)).take 512)).2=0 then l.oq b k (i+1) (d.write (l.ring (l.start+l.used+i)) ((b.drop (i*512)).take 512)).1
  else((d.write (l.ring (l.start+l.used+i)) ((b.drop (i*512)).take 512)).1,10)
def Lg.bad (l:Lg)(bE:List (List UInt8)):Int:=
 if l.dead then 10 else if bE.length=0\/1024<bE.length then 1 else if bE.any (fun r=>decide (600<r.length)) then 1 else if l.room<bN bE then 12 else 0
def Lg.more (l:Lg)(bE:List (List UInt8)):Lg:={l with last:=l.last+1,used:=l.used+bN bE,list:=l.list++[(l.last+1,bN bE)]}
def Lg.append (d:Dk)(l:Lg)(bE:List (List UInt8)):Dk×Lg×Nat×Int:=
 if l.bad bE≠0 then(d,l,0,l.bad bE) else
 if (l.oq (nG (l.last+1) bE) (bN bE) 0 d).2=0 then((l.oq (nG (l.last+1) bE) (bN bE) 0 d).1,l.more bE,l.last+1,0)
 else((l.oq (nG (l.last+1) bE) (bN bE) 0 d).1,l.dies,0,10)
def Lg.all (l:Lg):Lg:={l with synced:=l.last}
def Lg.sync (d:Dk)(l:Lg):Dk×Lg×Int:=
 if l.dead then(d,l,10) else
 if d.sync.2=0 then
  if (l.all.mark d.sync.1).2.2=0 then l.all.mark d.sync.1 else((l.all.mark d.sync.1).1,l.dies,10)
 else(d.sync.1,l.dies,10)
def Lg.oV (upto:Nat):List (Nat×Nat)->Nat->Nat->Nat->List (Nat×Nat)×Nat×Nat
 |[],_,s,u=>([],s,u)
 |e::r,m,s,u=>if e.1<=upto then Lg.oV upto r m ((s+e.2)%m) (u - e.2) else(e::r,s,u)
def Lg.cut (l:Lg)(upto:Nat):Lg:={l with list:=(Lg.oV upto l.list (l.n - 1) l.start l.used).1,start:=(Lg.oV upto l.list (l.n - 1) l.start l.used).2.1,used:=(Lg.oV upto l.list (l.n - 1) l.start l.used).2.2}
def Lg.trim (d:Dk)(l:Lg)(upto:Nat):Dk×Lg×Int:=
 if l.dead then(d,l,10) else if l.synced<upto then(d,l,1) else
 if ((l.cut upto).mark d).2.2=0 then(l.cut upto).mark d else(((l.cut upto).mark d).1,l.dies,10)
theorem aQ.PG {w:World}{S:Nat->Prop}{B e k n e' k' n':Nat}{v v':Value}{xs xs':List Value}(h:aQ w S B e k v n xs)(h':aQ w S B e' k' v' n' xs')(hne:e≠e'):∀g,v.ownBlock=some g->v'.ownBlock≠some g:=by
 intro g hg
 rcases h.1.2 with ⟨rfl,_⟩|⟨g',cap,cur,rfl,_,hh,_⟩
 ·cases hg
 ·cases hg
  exact h'.ne hh hne
theorem aQ.lo {w:World}{S:Nat->Prop}{B e k n:Nat}{v:Value}{xs:List Value}(h:aQ w S B e k v n xs):∀g,v.ownBlock=some g->B<=g:=fun g hg=>(h.1.lt g hg).1
structure DD (w:World)(S:Nat->Prop)(C:List UInt8)(v0:Value)(Ps:List Pr)(v1:Value)(Ks:List ByteArray)(v2:Value)(Ns:List Int)(wr:World):Prop where
 cut:IsCut wr S w.heap.size w.heap.size C
 node:wr.heap[w.heap.size+1]? =some (.cells #[v0,v1,v2] 272 (0,0))
 o0:aQ wr S w.heap.size 188 2 v0 Ps.length (bZ Ps)
 o1:aQ wr S w.heap.size 9 1 v1 Ks.length (Ks.map .string)
 o2:aQ wr S w.heap.size 3 1 v2 Ns.length (Ns.map (.int .i64))
 Bu:Below w.heap.size w wr
section
variable {w wr:World} {S:Nat->Prop} {C:List UInt8} {v0 v1 v2:Value} {Ps:List Pr} {Ks:List ByteArray} {Ns:List Int}
theorem DD.lt (h:DD w S C v0 Ps v1 Ks v2 Ns wr):w.heap.size+1<wr.heap.size:=(ah.1 h.node).1
theorem DD.took (h:DD w S C v0 Ps v1 Ks v2 Ns wr){w2:World}{C':List UInt8}(hk:Keep (· =w.heap.size) wr w2)(hc:IsCut w2 S w.heap.size w.heap.size C'):DD w S C' v0 Ps v1 Ks v2 Ns w2:=by
 have hlt:=h.lt
 obtain⟨_,_,cv,hcb,_,_⟩:=h.cut
 exact⟨hc,(hk.block _ hlt (by omega)).trans h.node,
  h.o0.keep fun g hg hl hs=>⟨hk.block g hl (fun e=>h.o0.ne hcb (by decide) (by rw[hg,e])),hs⟩,
  h.o1.keep fun g hg hl hs=>⟨hk.block g hl (fun e=>h.o1.ne hcb (by decide) (by rw[hg,e])),hs⟩,
  h.o2.keep fun g hg hl hs=>⟨hk.block g hl (fun e=>h.o2.ne hcb (by decide) (by rw[hg,e])),hs⟩,
  h.Bu.trans (hk.dY (by omega) (fun i hi=>by omega))⟩
theorem DD.alloc (h:DD w S C v0 Ps v1 Ks v2 Ns wr)(o:Obj):DD w S C v0 Ps v1 Ks v2 Ns (wr.alloc o):=by
 have hlt:=h.lt
 have hb:=aC wr o
 exact⟨h.cut.keep (hb.block _ (by omega)) fun g hg=>hb.block _ (by omega),(hb.block _ hlt).trans h.node,h.o0.below hb,h.o1.below hb,h.o2.below hb,h.Bu.trans (hb.mono (by omega))⟩
theorem DD.drew (h:DD w S C v0 Ps v1 Ks v2 Ns wr):DD w S C v0 Ps v1 Ks v2 Ns wr.drew:=
 ⟨h.cut.keep rfl fun _ _=>rfl,h.node,h.o0.drew,h.o1.drew,h.o2.drew,h.Bu.drew⟩
theorem DD.node2 (h:DD w S C v0 Ps v1 Ks v2 Ns wr){w5:World}(hk:Keep (fun g=>v2.ownBlock=some g) wr w5):w5.heap[w.heap.size+1]? =some (.cells #[v0,v1,v2] 272 (0,0)):=
 (hk.block _ h.lt (h.o2.ne h.node (by decide))).trans h.node
theorem DD.node1 (h:DD w S C v0 Ps v1 Ks v2 Ns wr){w5:World}(hk:Keep (fun g=>v1.ownBlock=some g) wr w5):w5.heap[w.heap.size+1]? =some (.cells #[v0,v1,v2] 272 (0,0)):=
 (hk.block _ h.lt (h.o1.ne h.node (by decide))).trans h.node
theorem DD.TN (h:DD w S C v0 Ps v1 Ks v2 Ns wr){w5:World}(hk:Keep (fun g=>v2.ownBlock=some g) wr w5)(hb:Below w.heap.size wr w5){v':Value}{Ns':List Int}
  (hown:aQ w5 S w.heap.size 3 1 v' Ns'.length (Ns'.map (.int .i64))):DD w S C v0 Ps v1 Ks v' Ns' (w5.setCell ⟨w.heap.size+1,2,none⟩ v'):=by
 have hlt:=h.lt
 have hN:=h.node2 hk
 obtain⟨_,_,cv,hcb,_,_⟩:=h.cut
 have hk5:Keep (· =w.heap.size+1) w5 (w5.setCell ⟨w.heap.size+1,2,none⟩ v'):=Keep.setCell (M:=(· =w.heap.size+1)) (p:=⟨w.heap.size+1,2,none⟩) (Keep.refl _ _) (.inr rfl) v'
 have hs5:=hk.size
 have k0:aQ w5 S w.heap.size 188 2 v0 Ps.length (bZ Ps):=h.o0.keep fun g hg hl hs=>⟨hk.block g hl (h.o0.PG h.o2 (by decide) g hg),hs⟩
 have k1:aQ w5 S w.heap.size 9 1 v1 Ks.length (Ks.map .string):=h.o1.keep fun g hg hl hs=>⟨hk.block g hl (h.o1.PG h.o2 (by decide) g hg),hs⟩
 refine⟨h.cut.keep ?_ ?_,?_,k0.keep fun g hg hl hs=>⟨hk5.block g hl (fun e=>k0.ne hN (by decide) (by rw[hg,e])),hs⟩,k1.keep fun g hg hl hs=>⟨hk5.block g hl (fun e=>k1.ne hN (by decide) (by rw[hg,e])),hs⟩,
  hown.keep fun g hg hl hs=>⟨hk5.block g hl (fun e=>hown.ne hN (by decide) (by rw[hg,e])),hs⟩,(h.Bu.trans hb).setCell (by simp) v'⟩
 ·exact(hk5.block _ (by omega) (by omega)).trans (hk.block _ (by omega) (h.o2.ne hcb (by decide)))
 ·exact fun g hg=>(hk5.block _ (by omega) (by omega)).trans (hb.block g hg)
 ·simp[World.setCell,aJ,hN]
theorem DD.QN (h:DD w S C v0 Ps v1 Ks v2 Ns wr){w5:World}(hk:Keep (fun g=>v1.ownBlock=some g) wr w5)(hb:Below w.heap.size wr w5){v':Value}{Ks':List ByteArray}
  (hown:aQ w5 S w.heap.size 9 1 v' Ks'.length (Ks'.map .string)):DD w S C v0 Ps v' Ks' v2 Ns (w5.setCell ⟨w.heap.size+1,1,none⟩ v'):=by
 have hlt:=h.lt
 have hN:=h.node1 hk
 obtain⟨_,_,cv,hcb,_,_⟩:=h.cut
 have hk5:Keep (· =w.heap.size+1) w5 (w5.setCell ⟨w.heap.size+1,1,none⟩ v'):=Keep.setCell (M:=(· =w.heap.size+1)) (p:=⟨w.heap.size+1,1,none⟩) (Keep.refl _ _) (.inr rfl) v'
 have hs5:=hk.size
 have k0:aQ w5 S w.heap.size 188 2 v0 Ps.length (bZ Ps):=h.o0.keep fun g hg hl hs=>⟨hk.block g hl (h.o0.PG h.o1 (by decide) g hg),hs⟩
 have k2:aQ w5 S w.heap.size 3 1 v2 Ns.length (Ns.map (.int .i64)):=h.o2.keep fun g hg hl hs=>⟨hk.block g hl (h.o2.PG h.o1 (by decide) g hg),hs⟩
 refine⟨h.cut.keep ?_ ?_,?_,k0.keep fun g hg hl hs=>⟨hk5.block g hl (fun e=>k0.ne hN (by decide) (by rw[hg,e])),hs⟩,
  hown.keep fun g hg hl hs=>⟨hk5.block g hl (fun e=>hown.ne hN (by decide) (by rw[hg,e])),hs⟩,k2.keep fun g hg hl hs=>⟨hk5.block g hl (fun e=>k2.ne hN (by decide) (by rw[hg,e])),hs⟩,(h.Bu.trans hb).setCell (by simp) v'⟩
 ·exact(hk5.block _ (by omega) (by omega)).trans (hk.block _ (by omega) (h.o1.ne hcb (by decide)))
 ·exact fun g hg=>(hk5.block _ (by omega) (by omega)).trans (hb.block g hg)
 ·simp[World.setCell,aJ,hN]
theorem DD.Ob (h:DD w S C v0 Ps v1 Ks v2 Ns wr)(hS:¬S (w.heap.size+1)):fJ wr S w.heap.size (w.heap.size+1) ⟨Ps,Ks,Ns⟩:=⟨hS,by omega,v0,v1,v2,h.node,h.o0,h.o1,h.o2⟩
end
theorem Gr (a c t:Nat)(ha:a<256)(hc:c<256)(ht:t=a+256*c):bits .or .i64 (IntKind.i64.wrap (a:Int)) (IntKind.i64.wrap (IntKind.i64.wrap (c:Int)*256))=(t:Int):=by
 have e1:IntKind.i64.wrap (a:Int)=(a:Int):=by rw[bJ];omega
 have e2:IntKind.i64.wrap (c:Int)=(c:Int):=by rw[bJ];omega
 have e3:IntKind.i64.wrap ((c:Int)*256)=((256*c:Nat):Int):=by rw[bJ];omega
 rw[e2,e3,e1]
 unfold bits
 have e4:(BitVec.ofInt 64 (a:Int)|||BitVec.ofInt 64 ((256*c:Nat):Int)).toNat=t:=by
  rw[nP,nP,BitVec.toNat_or,ko,ko,lS (by omega),lS (by omega),Nat.or_comm]
  have:=wC (i:=8) (b:=a) (by omega) c
  rw[show (256:Nat)=2^8 from rfl,<-this]
  omega
 show IntKind.i64.wrap (((BitVec.ofInt 64 (a:Int)|||BitVec.ofInt 64 ((256*c:Nat):Int)).toNat:Nat):Int)=t
 rw[e4,bJ]
 omega
end Go.Proofs.YtpmbddooibgnaaaGreatDoor
