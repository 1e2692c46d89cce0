/- parts -/
import Derived.Test.YtbfjgkafmlbpcaaGreatDoorT6
set_option maxRecDepth 100000
set_option maxHeartbeats 8000000
set_option linter.all false
namespace Go.Proofs.YtbfjgkafmlbpcaaGreatDoor
open Go.RowKit
theorem aP.Ij {w:World}{S:Nat->Prop}{B e k n e' k' n':Nat}{v v':Value}{xs xs':List Value}(h:aP w S B e k v n xs)(h':aP w S B e' k' v' n' xs')(hne:e≠e'):∀g,v.ownBlock=some g->v'.ownBlock≠some g:=by
 intro g hg
 rcases h.1.2 with ⟨rfl,_⟩|⟨g',cap,cur,rfl,_,hh,_⟩
 ·cases hg
 ·cases hg
  exact h'.ne hh hne
theorem aP.lo {w:World}{S:Nat->Prop}{B e k n:Nat}{v:Value}{xs:List Value}(h:aP w S B e k v n xs):∀g,v.ownBlock=some g->B<=g:=fun g hg=>(h.1.lt g hg).1
structure DD (w:World)(S:Nat->Prop)(C:List UInt8)(v0:Value)(Ps:List Pr)(v1:Value)(Ks:List ByteArray)(v2:Value)(Ns:List Int)(wr:World):Prop where
 cut:IsCut wr S w.heap.size w.heap.size C
 node:wr.heap[w.heap.size+1]? =some (.cells #[v0,v1,v2] 260 (0,0))
 o0:aP wr S w.heap.size 79 2 v0 Ps.length (dN Ps)
 o1:aP wr S w.heap.size 9 1 v1 Ks.length (Ks.map .string)
 o2:aP wr S w.heap.size 3 1 v2 Ns.length (Ns.map (.int .i64))
 qI:Below w.heap.size w wr
section
variable {w wr:World} {S:Nat->Prop} {C:List UInt8} {v0 v1 v2:Value} {Ps:List Pr} {Ks:List ByteArray} {Ns:List Int}
theorem DD.lt (h:DD w S C v0 Ps v1 Ks v2 Ns wr):w.heap.size+1<wr.heap.size:=(ah.1 h.node).1
theorem DD.took (h:DD w S C v0 Ps v1 Ks v2 Ns wr){w2:World}{C':List UInt8}(hk:Keep (· =w.heap.size) wr w2)(hc:IsCut w2 S w.heap.size w.heap.size C'):DD w S C' v0 Ps v1 Ks v2 Ns w2:=by
 have hlt:=h.lt
 obtain⟨_,_,cv,hcb,_,_⟩:=h.cut
 exact⟨hc,(hk.block _ hlt (by omega)).trans h.node,
  h.o0.keep fun g hg hl hs=>⟨hk.block g hl (fun e=>h.o0.ne hcb (by decide) (by rw[hg,e])),hs⟩,
  h.o1.keep fun g hg hl hs=>⟨hk.block g hl (fun e=>h.o1.ne hcb (by decide) (by rw[hg,e])),hs⟩,
  h.o2.keep fun g hg hl hs=>⟨hk.block g hl (fun e=>h.o2.ne hcb (by decide) (by rw[hg,e])),hs⟩,
  h.qI.trans (hk.fP (by omega) (fun i hi=>by omega))⟩
theorem DD.alloc (h:DD w S C v0 Ps v1 Ks v2 Ns wr)(o:Obj):DD w S C v0 Ps v1 Ks v2 Ns (wr.alloc o):=by
 have hlt:=h.lt
 have hb:=aF wr o
 exact⟨h.cut.keep (hb.block _ (by omega)) fun g hg=>hb.block _ (by omega),(hb.block _ hlt).trans h.node,h.o0.below hb,h.o1.below hb,h.o2.below hb,h.qI.trans (hb.mono (by omega))⟩
theorem DD.drew (h:DD w S C v0 Ps v1 Ks v2 Ns wr):DD w S C v0 Ps v1 Ks v2 Ns wr.drew:=
 ⟨h.cut.keep rfl fun _ _=>rfl,h.node,h.o0.drew,h.o1.drew,h.o2.drew,h.qI.drew⟩
theorem DD.node2 (h:DD w S C v0 Ps v1 Ks v2 Ns wr){w5:World}(hk:Keep (fun g=>v2.ownBlock=some g) wr w5):w5.heap[w.heap.size+1]? =some (.cells #[v0,v1,v2] 260 (0,0)):=
 (hk.block _ h.lt (h.o2.ne h.node (by decide))).trans h.node
theorem DD.node1 (h:DD w S C v0 Ps v1 Ks v2 Ns wr){w5:World}(hk:Keep (fun g=>v1.ownBlock=some g) wr w5):w5.heap[w.heap.size+1]? =some (.cells #[v0,v1,v2] 260 (0,0)):=
 (hk.block _ h.lt (h.o1.ne h.node (by decide))).trans h.node
theorem DD.QN (h:DD w S C v0 Ps v1 Ks v2 Ns wr){w5:World}(hk:Keep (fun g=>v2.ownBlock=some g) wr w5)(hb:Below w.heap.size wr w5){v':Value}{Ns':List Int}
  (hown:aP w5 S w.heap.size 3 1 v' Ns'.length (Ns'.map (.int .i64))):DD w S C v0 Ps v1 Ks v' Ns' (w5.setCell ⟨w.heap.size+1,2,none⟩ v'):=by
 have hlt:=h.lt
 have hN:=h.node2 hk
 obtain⟨_,_,cv,hcb,_,_⟩:=h.cut
 have hk5:Keep (· =w.heap.size+1) w5 (w5.setCell ⟨w.heap.size+1,2,none⟩ v'):=Keep.setCell (M:=(· =w.heap.size+1)) (p:=⟨w.heap.size+1,2,none⟩) (Keep.refl _ _) (.inr rfl) v'
 have hs5:=hk.size
 have k0:aP w5 S w.heap.size 79 2 v0 Ps.length (dN Ps):=h.o0.keep fun g hg hl hs=>⟨hk.block g hl (h.o0.Ij h.o2 (by decide) g hg),hs⟩
 have k1:aP w5 S w.heap.size 9 1 v1 Ks.length (Ks.map .string):=h.o1.keep fun g hg hl hs=>⟨hk.block g hl (h.o1.Ij h.o2 (by decide) g hg),hs⟩
 refine⟨h.cut.keep ?_ ?_,?_,k0.keep fun g hg hl hs=>⟨hk5.block g hl (fun e=>k0.ne hN (by decide) (by rw[hg,e])),hs⟩,k1.keep fun g hg hl hs=>⟨hk5.block g hl (fun e=>k1.ne hN (by decide) (by rw[hg,e])),hs⟩,
  hown.keep fun g hg hl hs=>⟨hk5.block g hl (fun e=>hown.ne hN (by decide) (by rw[hg,e])),hs⟩,(h.qI.trans hb).setCell (by simp) v'⟩
 ·exact(hk5.block _ (by omega) (by omega)).trans (hk.block _ (by omega) (h.o2.ne hcb (by decide)))
 ·exact fun g hg=>(hk5.block _ (by omega) (by omega)).trans (hb.block g hg)
 ·simp[World.setCell,aS,hN]
theorem DD.MN (h:DD w S C v0 Ps v1 Ks v2 Ns wr){w5:World}(hk:Keep (fun g=>v1.ownBlock=some g) wr w5)(hb:Below w.heap.size wr w5){v':Value}{Ks':List ByteArray}
  (hown:aP w5 S w.heap.size 9 1 v' Ks'.length (Ks'.map .string)):DD w S C v0 Ps v' Ks' v2 Ns (w5.setCell ⟨w.heap.size+1,1,none⟩ v'):=by
 have hlt:=h.lt
 have hN:=h.node1 hk
 obtain⟨_,_,cv,hcb,_,_⟩:=h.cut
 have hk5:Keep (· =w.heap.size+1) w5 (w5.setCell ⟨w.heap.size+1,1,none⟩ v'):=Keep.setCell (M:=(· =w.heap.size+1)) (p:=⟨w.heap.size+1,1,none⟩) (Keep.refl _ _) (.inr rfl) v'
 have hs5:=hk.size
 have k0:aP w5 S w.heap.size 79 2 v0 Ps.length (dN Ps):=h.o0.keep fun g hg hl hs=>⟨hk.block g hl (h.o0.Ij h.o1 (by decide) g hg),hs⟩
 have k2:aP w5 S w.heap.size 3 1 v2 Ns.length (Ns.map (.int .i64)):=h.o2.keep fun g hg hl hs=>⟨hk.block g hl (h.o2.Ij h.o1 (by decide) g hg),hs⟩
 refine⟨h.cut.keep ?_ ?_,?_,k0.keep fun g hg hl hs=>⟨hk5.block g hl (fun e=>k0.ne hN (by decide) (by rw[hg,e])),hs⟩,
  hown.keep fun g hg hl hs=>⟨hk5.block g hl (fun e=>hown.ne hN (by decide) (by rw[hg,e])),hs⟩,k2.keep fun g hg hl hs=>⟨hk5.block g hl (fun e=>k2.ne hN (by decide) (by rw[hg,e])),hs⟩,(h.qI.trans hb).setCell (by simp) v'⟩
 ·exact(hk5.block _ (by omega) (by omega)).trans (hk.block _ (by omega) (h.o1.ne hcb (by decide)))
 ·exact fun g hg=>(hk5.block _ (by omega) (by omega)).trans (hb.block g hg)
 ·simp[World.setCell,aS,hN]
theorem DD.O1 (h:DD w S C v0 Ps v1 Ks v2 Ns wr)(hS:¬S (w.heap.size+1)):ic wr S w.heap.size (w.heap.size+1) ⟨Ps,Ks,Ns⟩:=⟨hS,by omega,v0,v1,v2,h.node,h.o0,h.o1,h.o2⟩
end
theorem Ir (a c t:Nat)(ha:a<256)(hc:c<256)(ht:t=a+256*c):bits .or .i64 (IntKind.i64.wrap (a:Int)) (IntKind.i64.wrap (IntKind.i64.wrap (c:Int)*256))=(t:Int):=by
 have e1:IntKind.i64.wrap (a:Int)=(a:Int):=by rw[fU];omega
 have e2:IntKind.i64.wrap (c:Int)=(c:Int):=by rw[fU];omega
 have e3:IntKind.i64.wrap ((c:Int)*256)=((256*c:Nat):Int):=by rw[fU];omega
 rw[e2,e3,e1]
 unfold bits
 have e4:(BitVec.ofInt 64 (a:Int)|||BitVec.ofInt 64 ((256*c:Nat):Int)).toNat=t:=by
  rw[oO,oO,BitVec.toNat_or,kY,kY,mP (by omega),mP (by omega),Nat.or_comm]
  have:=xY (i:=8) (b:=a) (by omega) c
  rw[show (256:Nat)=2^8 from rfl,<-this]
  omega
 show IntKind.i64.wrap (((BitVec.ofInt 64 (a:Int)|||BitVec.ofInt 64 ((256*c:Nat):Int)).toNat:Nat):Int)=t
 rw[e4,fU]
 omega
end Go.Proofs.YtbfjgkafmlbpcaaGreatDoor
