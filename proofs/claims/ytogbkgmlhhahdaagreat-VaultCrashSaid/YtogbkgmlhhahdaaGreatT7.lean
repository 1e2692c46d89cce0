--
import Derived.Test.YtogbkgmlhhahdaaGreatT6
set_option maxRecDepth 100000
set_option maxHeartbeats 0
set_option linter.all false
namespace Go.Proofs.YtogbkgmlhhahdaaGreat
open Go.RowKit
def aT.Hz {w:World}{S:Nat->Prop}{B e k n f m i:Nat}{v c:Value}{q a:List Value}(h:aT w S B e k v n q)(j:aT w S B f m c i a)(b:e≠f):∀g,v.ownBlock=some g->c.ownBlock≠some g:=by
 intro g d;rcases h.1.2 with ⟨rfl,_⟩|⟨r,l,o,rfl,_,p,_⟩
 ·cases d
 ·cases d
  exact j.ne p b
def aT.lo {w:World}{S:Nat->Prop}{B e k n:Nat}{v:Value}{a:List Value}(h:aT w S B e k v n a):∀g,v.ownBlock=some g->B<=g:=fun g b=>(h.1.lt g b).1
structure DD (w:World)(S:Nat->Prop)(C:List UInt8)(v0:Value)(Ps:List Pr)(v1:Value)(Ks:List ByteArray)(v2:Value)(Ns:List Int)(wr:World):Prop where
 cut:IsCut wr S w.heap.size w.heap.size C
 node:wr.heap[w.heap.size+1]? =some (.cells #[v0,v1,v2] 165 (0,0))
 o0:aT wr S w.heap.size 103 2 v0 Ps.length (dP Ps)
 o1:aT wr S w.heap.size 9 1 v1 Ks.length (Ks.map .string)
 o2:aT wr S w.heap.size 3 1 v2 Ns.length (Ns.map (.int .i64))
 nU:Below w.heap.size w wr
section
variable {w wr:World} {S:Nat->Prop} {C:List UInt8} {v0 v1 v2:Value} {Ps:List Pr} {Ks:List ByteArray} {Ns:List Int}
def DD.lt (h:DD w S C v0 Ps v1 Ks v2 Ns wr):w.heap.size+1<wr.heap.size:=(ai.1 h.node).1
def DD.took (h:DD w S C v0 Ps v1 Ks v2 Ns wr){k:World}{l:List UInt8}(b:Keep (· =w.heap.size) wr k)(m:IsCut k S w.heap.size w.heap.size l):DD w S l v0 Ps v1 Ks v2 Ns k:=by
 have j:=h.lt;obtain⟨_,_,n,a,_,_⟩:=h.cut;exact⟨m,(b.block _ j (by omega)).trans h.node,h.o0.keep fun g d c f=>⟨b.block g c (fun e=>h.o0.ne a (by decide) (by rw[d,e])),f⟩,h.o1.keep fun g d c f=>⟨b.block g c (fun e=>h.o1.ne a (by decide) (by rw[d,e])),f⟩,h.o2.keep fun g d c f=>⟨b.block g c (fun e=>h.o2.ne a (by decide) (by rw[d,e])),f⟩,h.nU.trans (b.jF (by omega) (fun i o=>by omega))⟩
def DD.alloc (h:DD w S C v0 Ps v1 Ks v2 Ns wr)(o:Obj):DD w S C v0 Ps v1 Ks v2 Ns (wr.alloc o):=by
 have b:=h.lt;have a:=aN wr o;exact⟨h.cut.keep (a.block _ (by omega)) fun g c=>a.block _ (by omega),(a.block _ b).trans h.node,h.o0.below a,h.o1.below a,h.o2.below a,h.nU.trans (a.mono (by omega))⟩
def DD.drew (h:DD w S C v0 Ps v1 Ks v2 Ns wr):DD w S C v0 Ps v1 Ks v2 Ns wr.drew:=
 ⟨h.cut.keep rfl fun _ _=>rfl,h.node,h.o0.drew,h.o1.drew,h.o2.drew,h.nU.drew⟩
def DD.node2 (h:DD w S C v0 Ps v1 Ks v2 Ns wr){a:World}(b:Keep (fun g=>v2.ownBlock=some g) wr a):a.heap[w.heap.size+1]? =some (.cells #[v0,v1,v2] 165 (0,0)):=
 (b.block _ h.lt (h.o2.ne h.node (by decide))).trans h.node
def DD.node1 (h:DD w S C v0 Ps v1 Ks v2 Ns wr){a:World}(b:Keep (fun g=>v1.ownBlock=some g) wr a):a.heap[w.heap.size+1]? =some (.cells #[v0,v1,v2] 165 (0,0)):=
 (b.block _ h.lt (h.o1.ne h.node (by decide))).trans h.node
def DD.UZ (h:DD w S C v0 Ps v1 Ks v2 Ns wr){i:World}(j:Keep (fun g=>v2.ownBlock=some g) wr i)(n:Below w.heap.size wr i){v':Value}{Ns':List Int}
  (f:aT i S w.heap.size 3 1 v' Ns'.length (Ns'.map (.int .i64))):DD w S C v0 Ps v1 Ks v' Ns' (i.setCell ⟨w.heap.size+1,2,none⟩ v'):=by
 have q:=h.lt;have k:=h.node2 j;obtain⟨_,_,s,l,_,_⟩:=h.cut;have b:Keep (· =w.heap.size+1) i (i.setCell ⟨w.heap.size+1,2,none⟩ v'):=Keep.setCell (M:=(· =w.heap.size+1)) (p:=⟨w.heap.size+1,2,none⟩) (Keep.refl _ _) (.inr rfl) v';have r:=j.size;have o:aT i S w.heap.size 103 2 v0 Ps.length (dP Ps):=h.o0.keep fun g a c d=>⟨j.block g c (h.o0.Hz h.o2 (by decide) g a),d⟩
 have m:aT i S w.heap.size 9 1 v1 Ks.length (Ks.map .string):=h.o1.keep fun g a c d=>⟨j.block g c (h.o1.Hz h.o2 (by decide) g a),d⟩
 refine⟨h.cut.keep ?_ ?_,?_,o.keep fun g a c d=>⟨b.block g c (fun e=>o.ne k (by decide) (by rw[a,e])),d⟩,m.keep fun g a c d=>⟨b.block g c (fun e=>m.ne k (by decide) (by rw[a,e])),d⟩,f.keep fun g a c d=>⟨b.block g c (fun e=>f.ne k (by decide) (by rw[a,e])),d⟩,(h.nU.trans n).setCell (by simp) v'⟩
 ·exact(b.block _ (by omega) (by omega)).trans (j.block _ (by omega) (h.o2.ne l (by decide)))
 ·exact fun g a=>(b.block _ (by omega) (by omega)).trans (n.block g a)
 ·simp[World.setCell,aQ,k]
def DD.QJ (h:DD w S C v0 Ps v1 Ks v2 Ns wr){i:World}(j:Keep (fun g=>v1.ownBlock=some g) wr i)(m:Below w.heap.size wr i){v':Value}{Ks':List ByteArray}
  (f:aT i S w.heap.size 9 1 v' Ks'.length (Ks'.map .string)):DD w S C v0 Ps v' Ks' v2 Ns (i.setCell ⟨w.heap.size+1,1,none⟩ v'):=by
 have q:=h.lt;have k:=h.node1 j;obtain⟨_,_,s,l,_,_⟩:=h.cut;have b:Keep (· =w.heap.size+1) i (i.setCell ⟨w.heap.size+1,1,none⟩ v'):=Keep.setCell (M:=(· =w.heap.size+1)) (p:=⟨w.heap.size+1,1,none⟩) (Keep.refl _ _) (.inr rfl) v';have r:=j.size;have n:aT i S w.heap.size 103 2 v0 Ps.length (dP Ps):=h.o0.keep fun g a c d=>⟨j.block g c (h.o0.Hz h.o1 (by decide) g a),d⟩
 have o:aT i S w.heap.size 3 1 v2 Ns.length (Ns.map (.int .i64)):=h.o2.keep fun g a c d=>⟨j.block g c (h.o2.Hz h.o1 (by decide) g a),d⟩
 refine⟨h.cut.keep ?_ ?_,?_,n.keep fun g a c d=>⟨b.block g c (fun e=>n.ne k (by decide) (by rw[a,e])),d⟩,f.keep fun g a c d=>⟨b.block g c (fun e=>f.ne k (by decide) (by rw[a,e])),d⟩,o.keep fun g a c d=>⟨b.block g c (fun e=>o.ne k (by decide) (by rw[a,e])),d⟩,(h.nU.trans m).setCell (by simp) v'⟩
 ·exact(b.block _ (by omega) (by omega)).trans (j.block _ (by omega) (h.o1.ne l (by decide)))
 ·exact fun g a=>(b.block _ (by omega) (by omega)).trans (m.block g a)
 ·simp[World.setCell,aQ,k]
def DD.Ty (h:DD w S C v0 Ps v1 Ks v2 Ns wr)(a:¬S (w.heap.size+1)):iQ wr S w.heap.size (w.heap.size+1) ⟨Ps,Ks,Ns⟩:=⟨a,by omega,v0,v1,v2,h.node,h.o0,h.o1,h.o2⟩
end
def Lx (a c t:Nat)(j:a<256)(l:c<256)(k:t=a+256*c):bits .or .i64 (IntKind.i64.wrap (a:Int)) (IntKind.i64.wrap (IntKind.i64.wrap (c:Int)*256))=(t:Int):=by
 have d:IntKind.i64.wrap (a:Int)=(a:Int):=by rw[lI];omega
 have g:IntKind.i64.wrap (c:Int)=(c:Int):=by rw[lI];omega
 have e:IntKind.i64.wrap ((c:Int)*256)=((256*c:Nat):Int):=by rw[lI];omega
 rw[g,e,d];unfold bits;have f:(BitVec.ofInt 64 (a:Int)|||BitVec.ofInt 64 ((256*c:Nat):Int)).toNat=t:=by
  rw[oh,oh,BitVec.toNat_or,pR,pR,oW (by omega),oW (by omega),Nat.or_comm];have:=Aq (i:=8) (b:=a) (by omega) c;rw[show (256:Nat)=2^8 from rfl,<-this];omega
 show IntKind.i64.wrap (((BitVec.ofInt 64 (a:Int)|||BitVec.ofInt 64 ((256*c:Nat):Int)).toNat:Nat):Int)=t;rw[f,lI];omega
