/- parts -/
import Derived.WalkKit
import Derived.WalkLawsBesides
import Derived.WalkSpells
import Derived.Lib.Hide
import Derived.Deep.AppendSrc
import Derived.OrdersHeld
import Derived.Deep.RegionHeld
namespace Go.Proofs.YtfgpefcphnpabaaGreat
open Go.RowKit
set_option linter.all false
def af := @_root_.Go.Lib.hid
def ah := @_root_.Array.getElem?_eq_some_iff
def ai := @_root_.List.setIfInBounds_toArray
def aj := @_root_.List.set_cons_succ
def ak := @_root_.Nat.lt_of_lt_of_le
def au := @_root_.List.set_cons_zero
def av := @_root_.List.length_append
def ax := @_root_.And.intro
def ay := @_root_.Go.World.block_lt_of_cell?
def aC := @_root_.Nat.le_refl
def aD := @_root_.List.length_take
def aF := @_root_.Go.IntWalk.i64_in
def aH := @_root_.Nat.le_trans
def aJ := @_root_.List.take_of_length_le
def aK := @_root_.List.take_succ_eq_append_getElem
def aL := @_root_.Array.getElem?_modify
def aM := @_root_.List.append_assoc
def aN := @_root_.List.length_drop
def aQ := @_root_.Go.World.size_alloc
def aR := @_root_.Go.RowKit.Below.refl
def aS := @_root_.Go.heap_alloc_new
def aT := @_root_.List.eq_nil_of_length_eq_zero
def aU := @_root_.Nat.zero_le
def aV := @_root_.Nat.mul_one
def aW := @_root_.List.mem_cons_of_mem
def aY := @_root_.Nat.not_lt
def aZ := @_root_.List.mem_cons_self
def bf := @_root_.List.length_cons
def bg := @_root_.List.getElem_mem
def bn := @_root_.decide_eq_false
def bD := @_root_.List.mem_cons
def bE := @_root_.List.take_append_drop
def bF := @_root_.List.getElem?_eq_getElem
def bH := @_root_.List.take_append_of_le_length
def bI := @_root_.List.mem_singleton
def bJ := @_root_.Nat.min_eq_left
def bL := @_root_.List.length_nil
def bM := @_root_.List.mem_append
def bQ := @_root_.List.mem_append_right
def bR := @_root_.List.mem_of_mem_drop
def bT := @_root_.List.getElem?_eq_some_iff
def bV := @_root_.Nat.mul_le_mul_right
def bW := @_root_.List.mem_append_left
def bX := @_root_.List.map_append
def bZ := @_root_.List.drop_eq_getElem_cons
def cO := @_root_.List.getElem?_append_right
def cZ := @_root_.List.length_pos_iff
def dh := @_root_.List.take_length
def di := @_root_.Nat.lt_irrefl
def dx := @_root_.List.map_cons
def dA := @_root_.List.take_take
def dD := @_root_.List.drop_of_length_le
def dF := @_root_.List.append_nil
def dH := @_root_.List.nodup_append
def dI := @_root_.decide_eq_true
def dN := @_root_.Nat.zero_add
def dO := @_root_.Bool.and_eq_true
def dS := @_root_.List.getElem?_cons_succ
def dU := @_root_.List.mem_map
def dV := @_root_.Go.Addr.add_lit
def dW := @_root_.Nat.add_mul
def dX := @_root_.List.drop_append_of_le_length
def dZ := @_root_.decide_eq_true_eq
def d9 := @_root_.UInt8.toNat_ofNat'
def eu := @_root_.List.drop_zero
def eB := @_root_.List.getElem_of_mem
def eF := @_root_.Nat.add_sub_cancel_left
def eG := @_root_.List.perm_append_comm
def eH := @_root_.Int.toNat_natCast
def eO := @_root_.beq_eq_false_iff_ne
def eT := @_root_.Go.run_underlying
def eX := @_root_.List.getElem?_map
def eY := @_root_.List.pairwise_cons
def fq := @_root_.List.getElem?_append_left
def fu := @_root_.Classical.byContradiction
def fw := @_root_.List.drop_succ_cons
def fC := @_root_.Nat.not_le
def fD := @_root_.List.mem_of_mem_take
def fF := @_root_.List.not_mem_nil
def fI := @_root_.Go.Result.andThen_ok
def fJ := @_root_.List.getD_eq_getElem?_getD
def fQ := @_root_.List.pairwise_iff_getElem
def gu := @_root_.List.length_singleton
def gy := @_root_.Nat.le_of_lt
def gB := @_root_.Nat.add_zero
def gF := @_root_.Nat.lt_succ_self
def gG := @_root_.Go.bodyPost_ret
def gM := @_root_.List.map_drop
def gN := @_root_.List.flatMap_cons
def gP := @_root_.Go.heap_setCell_same
def gU := @_root_.Nat.min_self
def gV := @_root_.Nat.lt_or_ge
def gW := @_root_.List.map_nil
def gX := @_root_.List.getElem?_take
def ic := @_root_.List.drop_take
def iA := @_root_.List.set_append_right
def iD := @_root_.Go.leaves_cons
def iH := @_root_.List.take_zero
def iI := @_root_.List.Perm.refl
def iJ := @_root_.Option.map_some
def iK := @_root_.List.nil_append
def iL := @_root_.List.map_take
def je := @_root_.List.take_left
def jk := @_root_.if_true
def jl := @_root_.List.length_map
def jm := @_root_.Go.Lib.run_eql_slice_nil
def jw := @_root_.Go.run_loadVar_row
def jy := @_root_.Go.Sem.run_bind
def jF := @_root_.of_decide_eq_true
def jH := @_root_.List.mem_map_of_mem
def jI := @_root_.Array.length_toList
def jP := @_root_.Array.getElem?_toList
def jQ := @_root_.List.mem_flatMap
def jU := @_root_.Nat.le_of_eq
def jY := @_root_.Go.IntKind.wrap_i64
def kr := @_root_.Nat.one_mul
def kF := @_root_.List.nodup_cons
def kL := @_root_.List.take_succ_cons
def kW := @_root_.List.map_toArray
def kX := @_root_.List.drop_length
def kY := @_root_.List.drop_append
def lF := @_root_.List.mem_range
def lG := @_root_.List.exists_cons_of_ne_nil
def l8 := @_root_.Go.grownCap_le_maxLen
def l9 := @_root_.List.set_eq_take_append_cons_drop
def mg := @_root_.Nat.lt_trans
def mh := @_root_.Nat.le_succ_of_le
def mq := @_root_.Nat.le_succ
def mD := @_root_.List.size_toArray
def mF := @_root_.Nat.add_assoc
def mI := @_root_.Go.World.cell?_of_block
def mQ := @_root_.List.flatMap_append
def mY := @_root_.or_false
def mZ := @_root_.List.cons_append
def ng := @_root_.List.all_eq_true
def nO := @_root_.List.cons.injEq
def nX := @_root_.Go.Sem.run_pure
def og := @_root_.List.getElem?_eq_none
def oh := @_root_.List.Perm.append_left
def oz := @_root_.List.getElem_take
def oC := @_root_.List.getElem_drop
def oD := @_root_.List.Pairwise.nil
def oF := @_root_.Go.RowKit.Below.heap_alloc
def oL := @_root_.Go.World.cell?_alloc_new
def oO := @_root_.List.nodup_nil
def pW := @_root_.Go.growslice_fits
def pX := @_root_.Nat.mul_le_mul_left
def pY := @_root_.List.mergeSort_perm
def p8 := @_root_.Array.toList_append
def qC := @_root_.Go.run_append_grow_src
def qD := @_root_.Bool.or_eq_true
def qG := @_root_.Nat.mod_lt
def rG := @_root_.Go.info_parts
def rP := @_root_.Nat.zero_mul
def rQ := @_root_.Nat.sub_self
def rR := @_root_.List.pairwise_map
def rT := @_root_.Bool.eq_false_iff
def tT := @_root_.Go.size_zeroCells
def tV := @_root_.List.length_filter_le
def tX := @_root_.List.eq_nil_or_concat
def tY := @_root_.List.concat_eq_append
def uJ := @_root_.beq_iff_eq
def uK := @_root_.Nat.mod_eq_of_lt
def uN := @_root_.List.sum_cons
def uX := @_root_.Go.World.cell?_alloc_old
def uY := @_root_.List.pairwise_append
def uZ := @_root_.BitVec.ofInt_natCast
def vQ := @_root_.List.sum_append
def wW := @_root_.Go.wpList_lookup_own_ok
def wX := @_root_.Go.grownCap_ge
def wY := @_root_.Go.cell_of_row
def wZ := @_root_.List.zip_eq_zipWith
def xg := @_root_.List.filter_eq_self
def xh := @_root_.Nat.add_comm
def xk := @_root_.Int.le_trans
def yE := @_root_.Go.run_firstCells_some
def yF := @_root_.Go.run_callFunc_extern
def yG := @_root_.Nat.add_sub_cancel
def yH := @_root_.List.filter_append
def yI := @_root_.List.drop_left
def yJ := @_root_.Int.tmod_eq_emod_of_nonneg
def yK := @_root_.BitVec.toNat_ofNat
def yS := @_root_.Go.results_none
def Bg := @_root_.Nat.lt_succ_of_lt
def Bh := @_root_.List.Sublist.refl
def Bj := @_root_.Array.size_append
def Cz := @_root_.decide_eq_false_iff_not
def CB := @_root_.List.take_append
def CF := @_root_.List.filter_cons
def CG := @_root_.Array.toList_inj
def Ec := @_root_.Nat.div_div_eq_div_mul
def Ed := @_root_.List.map_map
def Ee := @_root_.List.Perm.append_right
def Gp := @_root_.UInt8.toNat_inj
def Gq := @_root_.Nat.not_lt_zero
def Gr := @_root_.Nat.le_max_left
def Gs := @_root_.Go.RowKit.Below.heap_setCell
def JK := @_root_.Nat.pow_le_pow_right
def JL := @_root_.List.set_append_left
def JM := @_root_.List.drop_drop
def JN := @_root_.Go.IntKind.wrap_u8
def Lb := @_root_.Iff.rfl
def Lc := @_root_.List.takeWhile_cons
def Ld := @_root_.List.flatten_append
def NM := @_root_.Go.below_drewN
def NN := @_root_.Go.Src.ofSlice
def NP := @_root_.Go.DataW.trod_int
def NQ := @_root_.ByteArray.ext
def NS := @_root_.Go.wpOp_mono
def NT := @_root_.Bool.false_eq_true
def Pj := @_root_.Option.some.injEq
def Pm := @_root_.Nat.succ_mul
def Pn := @_root_.Nat.pow_succ
def Po := @_root_.List.flatten_cons
def Pp := @_root_.List.drop_sublist
def Qn := @_root_.Go.World.ownsMap.drew
def Qs := @_root_.Option.getD_some
def Qt := @_root_.Nat.lt_of_not_le
def Qu := @_root_.List.getElem_inj
def Qv := @_root_.List.flatMap_nil
def Qw := @_root_.List.any_eq_true
def Rh := @_root_.Array.getElem?_setIfInBounds
set_option maxRecDepth 100000
set_option maxHeartbeats 8000000
set_option linter.all false
def Stop (p:Prop):Prop:=p
theorem Stop.of {p:Prop} (h:Stop p):p:=h
theorem Stop.on {p:Prop} (h:p):Stop p:=h
structure Keep (M:Nat→Prop) (w w':World):Prop where
 os:w'.os=w.os
 tape:w'.tape=w.tape
 output:w'.output=w.output
 size:w.heap.size≤w'.heap.size
 block:∀k,k<w.heap.size→¬M k→w'.heap[k]? =w.heap[k]?
theorem Keep.refl (M:Nat→Prop) (w:World):Keep M w w:=⟨rfl,rfl,rfl,aC _,fun _ _ _=>rfl⟩
theorem Keep.trans {M M':Nat→Prop} {a b c:World} (h:Keep M a b) (k:Keep M' b c) (hm:∀i,i<a.heap.size→M' i→M i):Keep M a c:=
 ⟨k.os.trans h.os,k.tape.trans h.tape,k.output.trans h.output,aH h.size k.size,
  fun i hi hn=>(k.block i (ak hi h.size) (fun x=>hn (hm i hi x))).trans (h.block i hi hn)⟩
theorem Keep.mono {M M':Nat→Prop} {a b:World} (h:Keep M a b) (hm:∀i,i<a.heap.size→M i→M' i):Keep M' a b:=
 ⟨h.os,h.tape,h.output,h.size,fun i hi hn=>h.block i hi (fun x=>hn (hm i hi x))⟩
theorem Keep.alloc {M:Nat→Prop} {a w:World} (h:Keep M a w) (o:Obj):Keep M a (w.alloc o):=
 ⟨h.os,h.tape,h.output,aH h.size (by simp),fun k hk hn=>(oF w o k (ak hk h.size)).trans (h.block k hk hn)⟩
theorem Keep.drew {M:Nat→Prop} {a w:World} (h:Keep M a w):Keep M a w.drew:=⟨h.os,h.tape,h.output,h.size,h.block⟩
theorem Keep.setCell {M:Nat→Prop} {a w:World} (h:Keep M a w) {p:Addr} (hp:a.heap.size≤p.block∨M p.block) (u:Value):Keep M a (w.setCell p u):=
 ⟨h.os,h.tape,h.output,aH h.size (by simp),fun k hk hn=>(Gs w p u k (by rintro rfl;exact hp.elim (fun x=>absurd hk (aY.2 x)) hn)).trans (h.block k hk hn)⟩
theorem Keep.of_below {w w':World} (h:Below w.heap.size w w') (M:Nat→Prop):Keep M w w':=
 ⟨h.os,h.tape,h.output,h.size,fun k hk _=>h.block k hk⟩
theorem Keep.below {w w':World} (h:Keep (fun _=>False) w w'):Below w.heap.size w w':=
 ⟨h.os,h.tape,h.output,h.size,fun k hk=>h.block k hk id⟩
theorem Keep.jg {M:Nat→Prop} {a b:World} (h:Keep M a b) {B:Nat} (hB:B≤a.heap.size) (hM:∀i,i<B→¬M i):Below B a b:=
 ⟨h.os,h.tape,h.output,h.size,fun k hk=>h.block k (ak hk hB) (hM k hk)⟩
theorem Keep.grown {M:Nat→Prop} {a w w':World} {row:Option Nat} (h:Keep M a w) (hg:w.grownBy w' row) (hr:∀k,row=some k→a.heap.size≤k∨M k):Keep M a w':=
 ⟨hg.os.trans h.os,hg.tape.trans h.tape,hg.output.trans h.output,aH h.size hg.size,
  fun k hk hn=>(hg.block k (ak hk h.size) (fun e=>(hr k e.symm).elim (fun x=>absurd hk (aY.2 x)) hn)).trans (h.block k hk hn)⟩
theorem Keep.cell {M:Nat→Prop} {w w':World} (h:Keep M w w') {p:Addr} (hp:p.block<w.heap.size) (hn:¬M p.block):w'.cell? p=w.cell? p:=
 mI (w:=w) (h.block p.block hp hn)
theorem Keep.frozen {M:Nat→Prop} {w w':World} (h:Keep M w w') {p:Addr} (hp:p.block<w.heap.size) (hn:¬M p.block):w'.frozen? p=w.frozen? p:=
 World.frozen?_of_block (w:=w) (h.block p.block hp hn)
def gL:Nat→Prop:=fun _=>False
def Step (S S':Nat→Prop) (w w':World):Prop:=Keep S w w'∧∀g,S' g→S g∨w.heap.size≤g
theorem Step.refl (S:Nat→Prop) (w:World):Step S S w w:=⟨Keep.refl _ _,fun _ h=> .inl h⟩
theorem Step.trans {S S' S'':Nat→Prop} {a b c:World} (h:Step S S' a b) (k:Step S' S'' b c):Step S S'' a c:=
 ⟨h.1.trans k.1 fun i hi hs=>(h.2 i hs).elim id (fun x=>absurd hi (aY.2 x)),
  fun g hg=>(k.2 g hg).elim (fun x=>h.2 g x) (fun x=> .inr (aH h.1.size x))⟩
theorem Step.of_below {S:Nat→Prop} {w w':World} (h:Below w.heap.size w w'):Step S S w w':=⟨Keep.of_below h S,fun _ h=> .inl h⟩
def aX (w:World) (S:Nat→Prop) (k:Nat) (v:Value) (n:Nat) (xs:List Value):Prop:=
 ∃ao c,v= .slice ao n c∧n≤c∧c≤maxLen∧xs.length=n*k∧(ao=none→n=0∧c=0)∧(∀ad,ao=some ad→ad.spot=none∧ad.block<w.heap.size∧¬S ad.block)∧
  ∀j u,xs[j]? =some u→∃b o,ao=some ⟨b,o,none⟩∧w.cell? ⟨b,o+j,none⟩=some u
theorem aX.keep {w w':World} {S S':Nat→Prop} {k n:Nat} {v:Value} {xs:List Value} (h:aX w S k v n xs)
  (hb:∀g,v.ownBlock=some g→g<w.heap.size→¬S g→w'.heap[g]? =w.heap[g]?∧¬S' g):aX w' S' k v n xs:=by
 obtain⟨ao,c,rfl,h1,h2,h3,h4,h5,h6⟩:=h
 refine⟨ao,c,rfl,h1,h2,h3,h4,fun ad had=> ?_,fun j u hu=> ?_⟩
 ·have:=h5 ad had
  have hq:=hb ad.block (by rw[had];rfl) this.2.1 this.2.2
  refine⟨this.1,?_,hq.2⟩
  exact(ah.1 (hq.1.trans (Array.getElem?_eq_getElem this.2.1))).1
 ·obtain⟨b,o,rfl,hc⟩:=h6 j u hu
  have:=h5 _ rfl
  exact⟨b,o,rfl,(mI (w:=w) (a:=⟨b,o+j,none⟩) (hb b rfl this.2.1 this.2.2).1).trans hc⟩
theorem aX.step {w w':World} {S S':Nat→Prop} {k n:Nat} {v:Value} {xs:List Value} (h:aX w S k v n xs) (hs:Step S S' w w'):aX w' S' k v n xs:=
 h.keep fun g _ hl hn=>⟨hs.1.block g hl hn,fun x=>(hs.2 g x).elim hn (fun y=>absurd hl (aY.2 y))⟩
theorem aX.below {w w':World} {S:Nat→Prop} {k n:Nat} {v:Value} {xs:List Value} (h:aX w S k v n xs) (hs:Below w.heap.size w w'):aX w' S k v n xs:=
 h.step (Step.of_below hs)
theorem aX.nil (w:World) (S:Nat→Prop) (k:Nat):aX w S k (.slice none 0 0) 0 []:=
 ⟨none,0,rfl,aC _,aU _,by simp,fun _=>⟨rfl,rfl⟩,(fun _ h=>by cases h),(fun j u h=>by simp at h)⟩
theorem aX.form {w:World} {S:Nat→Prop} {k n:Nat} {v:Value} {xs:List Value} (h:aX w S k v n xs):
  ∃ao c,v= .slice ao n c∧n≤c∧c≤9223372036854775807∧(n=0∨∃b o,ao=some ⟨b,o,none⟩)∧(ao=none→c=0):=by
 obtain⟨ao,c,rfl,h1,h2,h3,h4,h5,h6⟩:=h
 refine⟨ao,c,rfl,h1,by simpa [maxLen] using h2,?_,fun h=>(h4 h).2⟩
 rcases ao with _|⟨b,o,sp⟩
 ·exact .inl (h4 rfl).1
 ·obtain rfl:sp=none:=(h5 _ rfl).1
  exact .inr ⟨b,o,rfl⟩
theorem aX.upto {w:World} {S:Nat→Prop} {k n c:Nat} {ao:Option Addr} {xs:List Value} (h:aX w S k (.slice ao n c) n xs) (j:Nat) (hj:j≤n):aX w S k (.slice ao j c) j (xs.take (j*k)):=by
 obtain⟨ao',c',hv,h1,h2,h3,h4,h5,h6⟩:=h
 cases hv
 refine⟨ao,c,rfl,by omega,h2,by rw[aD,h3];exact bJ (bV _ hj),fun e=>⟨by have:=(h4 e).1;omega,(h4 e).2⟩,h5,fun i u hu=> ?_⟩
 rw[gX] at hu
 split at hu
 ·exact h6 i u hu
 ·cases hu
theorem aX.after {w:World} {S:Nat→Prop} {k n c:Nat} {ao:Option Addr} {xs:List Value} (h:aX w S k (.slice ao n c) n xs) (i:Nat) (hi:i≤n):
  aX w S k (.slice (if c=i then ao else ao.map fun x=>x.add (i*k)) (n - i) (c - i)) (n - i) (xs.drop (i*k)):=by
 obtain⟨ao',c',hv,h1,h2,h3,h4,h5,h6⟩:=h
 cases hv
 have hlen:(xs.drop (i*k)).length=(n - i)*k:=by rw[aN,h3,Nat.sub_mul]
 by_cases hc:c=i
 ·rw[if_pos hc]
  have e:xs.drop (i*k)=[]:=aT (by rw[hlen,show n - i=0 by omega,rP])
  refine⟨ao,c - i,rfl,by omega,by omega,hlen,fun e=>⟨by have:=(h4 e).1;omega,by have:=(h4 e).2;omega⟩,h5,fun j u hu=> ?_⟩
  rw[e] at hu;simp at hu
 ·rw[if_neg hc]
  refine⟨_,c - i,rfl,by omega,by omega,hlen,fun e=> ?_,fun ad had=> ?_,fun j u hu=> ?_⟩
  ·cases ao with
   |none=>have:=h4 rfl;omega
   |some ad=>cases e
  ·cases ao with
   |none=>cases had
   |some a0=>
    have:=h5 a0 rfl
    obtain⟨b,o,sp⟩:=a0
    cases had
    have hs:sp=none:=this.1
    subst hs
    simp only[dV]
    exact⟨trivial,this.2⟩
  ·rw[List.getElem?_drop] at hu
   obtain⟨b,o,e,hc⟩:=h6 _ u hu
   subst e
   refine⟨b,o+i*k,by simp[dV],?_⟩
   rw[mF];exact hc
theorem aX.Eb {w:World} {S:Nat→Prop} {v:Value} {n:Nat} {xs:List Value} (h:aX w S 1 v n xs) {ao:Option Addr} {n' c:Nat} (hv:v= .slice ao n' c) (i:Nat) (u:Value) (hu:xs[i]? =some u):
  ∃b o,ao=some ⟨b,o,none⟩∧w.cell? ⟨b,o+i,none⟩=some u:=by
 obtain⟨ao',c',rfl,_,_,_,_,_,h6⟩:=h
 cases hv
 exact h6 _ _ hu
def aP (w:World) (S:Nat→Prop) (B e k:Nat) (v:Value) (n:Nat) (xs:List Value):Prop:=
 w.ownsRow B e k v n xs∧∀g,v.ownBlock=some g→¬S g
theorem aP.cK {w:World} {S:Nat→Prop} {B e k n:Nat} {v:Value} {xs:List Value} (h:aP w S B e k v n xs):aX w S k v n xs:=by
 obtain⟨⟨hl,hr⟩,hn⟩:=h
 rcases hr with ⟨rfl,rfl⟩|⟨g,cap,cur,rfl,_,hg,h1,h2,h3,h4⟩
 ·have:xs=[]:=aT (by simpa using hl)
  subst this;exact aX.nil _ _ _
 ·refine⟨_,cap,rfl,h1,h2,hl,by simp,fun ad had=> ?_,fun j u hu=>⟨g,0,rfl,?_⟩⟩
  ·cases had;exact⟨rfl,(ah.1 hg).1,hn g rfl⟩
  ·have hj:=(bT.1 hu).1
   rw[dN]
   rw[wY w g j cur e (0,0) hg]
   rw[←h4,gX] at hu
   split at hu
   ·simpa using hu
   ·cases hu
theorem aP.nil (w:World) (S:Nat→Prop) (B e k:Nat):aP w S B e k (.slice none 0 0) 0 []:=⟨World.ownsRow_nil w B e k,by simp[Value.ownBlock]⟩
theorem aP.keep {w w':World} {S S':Nat→Prop} {B e k n:Nat} {v:Value} {xs:List Value} (h:aP w S B e k v n xs)
  (hb:∀g,v.ownBlock=some g→g<w.heap.size→¬S g→w'.heap[g]? =w.heap[g]?∧¬S' g):aP w' S' B e k v n xs:=by
 obtain⟨⟨hl,hr⟩,hn⟩:=h
 rcases hr with ⟨rfl,rfl⟩|⟨g,cap,cur,rfl,h0,hg,h1⟩
 ·exact⟨⟨hl,.inl ⟨rfl,rfl⟩⟩,by simp[Value.ownBlock]⟩
 ·have:=hb g rfl (ah.1 hg).1 (hn g rfl)
  exact⟨⟨hl,.inr ⟨g,cap,cur,rfl,h0,this.1.trans hg,h1⟩⟩,fun g' hg'=>by cases hg';exact this.2⟩
theorem aP.lt {w:World} {S:Nat→Prop} {B e k n:Nat} {v:Value} {xs:List Value} (h:aP w S B e k v n xs):v.ownBlock≠some w.heap.size:=fun e=>absurd (h.1.lt _ e).2 (di _)
theorem aP.lt' {w:World} {S:Nat→Prop} {B e k n:Nat} {v:Value} {xs:List Value} (h:aP w S B e k v n xs) {g:Nat} (hg:w.heap.size≤g):v.ownBlock≠some g:=fun e=>absurd (h.1.lt _ e).2 (aY.2 hg)
theorem aP.drew {w:World} {S:Nat→Prop} {B e k n:Nat} {v:Value} {xs:List Value} (h:aP w S B e k v n xs):aP w.drew S B e k v n xs:=h
theorem aP.step {w w':World} {S S':Nat→Prop} {B e k n:Nat} {v:Value} {xs:List Value} (h:aP w S B e k v n xs) (hs:Step S S' w w'):aP w' S' B e k v n xs:=
 h.keep fun g _ hl hn=>⟨hs.1.block g hl hn,fun x=>(hs.2 g x).elim hn (fun y=>absurd hl (aY.2 y))⟩
theorem aP.below {w w':World} {S:Nat→Prop} {B e k n:Nat} {v:Value} {xs:List Value} (h:aP w S B e k v n xs) (hs:Below w.heap.size w w'):aP w' S B e k v n xs:=
 h.step (Step.of_below hs)
theorem aX.src {P:Program} {w:World} {S:Nat→Prop} {k n:Nat} {v:Value} {xs:List Value} (h:aX w S k v n xs) {tx e':TypeId} (hk:P.underlying tx=some (.slice e')) (h1:∀u∈xs,u.oneCell'=true):Src P k tx v n xs w:=by
 obtain⟨ao,c,rfl,_,_,h3,h4,h5,h6⟩:=h
 cases ao with
 |none=>
  obtain⟨rfl,rfl⟩:=h4 rfl
  have:xs=[]:=aT (by simpa using h3)
  subst this
  exact Src.ofNil w hk 0
 |some ad=>
  obtain⟨b,o,sp⟩:=ad
  obtain rfl:sp=none:=(h5 _ rfl).1
  refine NN w hk ⟨b,o,none⟩ n c xs h3 (fun j u hu=> ?_) h1
  obtain⟨b',o',e,hc⟩:=h6 j u hu
  cases e
  rw[dV];exact hc
theorem fK {P:Program} {w:World} (cs:List Value) (T k n c:Nat) {tx e':TypeId} {g:Nat} (hg:w.heap.size=g) (hk:P.underlying tx=some (.slice e')) (hl:cs.length=n*k) (h1:∀u∈cs,u.oneCell'=true):
  Src P k tx (.slice (some ⟨g,0,none⟩) n c) n cs (w.alloc (.cells cs.toArray T)):=by
 subst hg
 refine NN _ hk _ n c cs hl (fun j u hu=> ?_) h1
 rw[dV,dN,oL]
 simpa using hu
theorem lq {w:World} {S:Nat→Prop} {B e k:Nat} (cs:List Value) (n c:Nat) {g:Nat} (hg:w.heap.size=g) (hl:cs.length=c*k) (hnc:n≤c) (hc:c≤maxLen) (hB:B≤w.heap.size) (hS:∀g,S g→g<w.heap.size):
  aP (w.alloc (.cells cs.toArray e)) S B e k (.slice (some ⟨g,0,none⟩) n c) n (cs.take (n*k)):=by
 subst hg
 refine⟨⟨?_,.inr ⟨_,c,_,rfl,hB,aS w _,hnc,hc,by simpa using hl,rfl⟩⟩,fun g hg hs=> ?_⟩
 ·rw[aD,hl];exact bJ (bV _ hnc)
 ·cases hg;exact absurd (hS _ hs) (di _)
theorem dQ {S:Nat→Prop} {w:World} (h:∀g,S g→g<w.heap.size) (o:Obj):∀g,S g→g<(w.alloc o).heap.size:=fun g hg=>by
 rw[aQ];exact Bg (h g hg)
theorem xA {S:Nat→Prop} {w w':World} {B:Nat} (h:∀g,S g→g<w.heap.size) (hb:Below B w w'):∀g,S g→g<w'.heap.size:=fun g hg=>ak (h g hg) hb.size
theorem aI (w:World) (o:Obj):Below w.heap.size w (w.alloc o):=(aR _ _).alloc (aC _) _
theorem fO (w:World) (o o':Obj):Below w.heap.size w ((w.alloc o).alloc o'):=(aI w o).alloc (by simp) _
theorem Gg (w:World) (o o' o'':Obj):Below w.heap.size w (((w.alloc o).alloc o').alloc o''):=(fO w o o').alloc (by simp;omega) _
section
variable {P:Program}
theorem Oh (w:World) (S:Nat→Prop) (B:Nat) (t tx ty e:TypeId) (i:TypeInfo) (z:Value) (k bytes:Nat) (ht:P.underlying t=some (.slice e)) (hi:P.info? e=some i) (hz:i.zero=some z)
  (hsize:i.size=k) (hby:i.bytes=bytes) (hzs:z.cells.size=k)
  (v:Value) (n:Nat) (xs:List Value) (hown:aP w S B e k v n xs) (x:Value) (m:Nat) (news:List Value) (hs:Src P k tx x m news w)
  (hS:∀g,S g→g<w.heap.size) (hbase:B≤w.heap.size) (h63:n+m≤maxLen) (hbytes:(n+m)*bytes≤140737488355328):
  ∃ao c w',(Builtin.append_ #[t,tx] ty #[v,x]).run P w= .ok (.slice ao (n+m) c) w'∧aP w' S B e k (.slice ao (n+m) c) (n+m) (xs++news)∧Keep (fun g=>v.ownBlock=some g) w w'∧Below B w w'∧
   (∀g,g<w.heap.size→v.ownBlock≠some g→(Value.slice ao (n+m) c).ownBlock≠some g):=by
 suffices hsuf:∃ao c w',(Builtin.append_ #[t,tx] ty #[v,x]).run P w= .ok (.slice ao (n+m) c) w'∧aP w' S B e k (.slice ao (n+m) c) (n+m) (xs++news)∧Keep (fun g=>v.ownBlock=some g) w w'∧
   ((Value.slice ao (n+m) c).ownBlock=v.ownBlock∨∃g,ao=some ⟨g,0,none⟩∧w.heap.size≤g) by
  obtain⟨ao,c,w',h1,h2,h3,h4⟩:=hsuf
  exact⟨ao,c,w',h1,h2,h3,⟨h3.os,h3.tape,h3.output,h3.size,fun g hg=>h3.block g (ak hg hbase) (fun e=>absurd (hown.1.lt g e).1 (fC.2 hg))⟩,fun g hg hne=>h4.elim (fun e=>e▸hne) (fun ⟨g',e,hge⟩=>by rw[e];intro e';cases e';exact absurd hg (aY.2 hge))⟩
 subst hsize
 subst hby
 have hsmall:n+m≤9223372036854775807:=by simp only[maxLen] at h63;omega
 have hlen:(xs++news).length=(n+m)*i.size:=by rw[av,hown.1.1,hs.newsLen,dW]
 have grown:∀(old:Nat),old<n+m→
   aP (w.drew.alloc (.cells ((xs++news).toArray++Builtin.zeroCells z.cells (grownCap w (n+m) old e - (n+m))) e)) S B e i.size
    (.slice (some ⟨w.heap.size,0,none⟩) (n+m) (grownCap w (n+m) old e)) (n+m) (xs++news)∧
   Keep (fun g=>v.ownBlock=some g) w (w.drew.alloc (.cells ((xs++news).toArray++Builtin.zeroCells z.cells (grownCap w (n+m) old e - (n+m))) e)):=by
  intro old ho
  have hge:=wX w (n+m) old e
  have hcm:grownCap w (n+m) old e≤maxLen:=l8 w (n+m) old e h63
  refine⟨⟨⟨hlen,.inr ⟨w.heap.size,_,_,rfl,hbase,aS w.drew _,hge,hcm,?_,?_⟩⟩,fun g hg hh=> ?_⟩,(Keep.refl _ w).drew.alloc _⟩
  ·simp only[Bj,mD,hlen,tT,hzs,←dW]
   congr 1
   omega
  ·simp only[p8]
   rw[←hlen]
   exact je
  ·cases hg;exact absurd (hS _ hh) (di _)
 rcases hown.1.2 with ⟨rfl,rfl⟩|⟨g,cap,cur,rfl,hbg,hg,hnc,hcm,hcs,htake⟩
 ·have hx:xs=[]:=aT (by simpa using hown.1.1)
  subst hx
  by_cases hm:m=0
  ·subst hm
   have hn:news=[]:=aT (by simpa using hs.newsLen)
   subst hn
   refine⟨none,0,w,?_,aP.nil w S B e i.size,Keep.refl _ _,.inl rfl⟩
   rcases hs.kind with ⟨e',hk⟩|hk<;>simp[Builtin.append_,eT ht,eT hk,sizeOf,typeInfo,hi,hs.len,hs.cells]
  ·have hr:=qC (P:=P) w t tx ty e i z ht hi hz none 0 0 [] (run_firstCells_none w.drew i.size 0 0 0) x m news hs (by omega) (by omega) (pW (by omega) hbytes)
   have hgr:=grown 0 (by omega)
   exact⟨_,_,_,hr,hgr.1,hgr.2,.inr ⟨_,rfl,aC _⟩⟩
 ·by_cases hroom:n+m≤cap
  ·have hfit:n*i.size+news.length≤cur.size:=by rw[hs.newsLen,hcs,←dW];exact bV _ hroom
   have hst:=run_storeCells_at P g (n*i.size) e news 0 cur w hg (by simpa using hfit) hs.one
   simp only[gB] at hst
   refine⟨some ⟨g,0,none⟩,cap,w.setRow g (cur.toList.take (n*i.size)++news++cur.toList.drop (n*i.size+news.length)).toArray,?_,⟨⟨hlen,.inr ⟨g,cap,_,rfl,hbg,setRow_heap w g cur _ e _ hg,hroom,hcm,?_,?_⟩⟩,hown.2⟩,
    ⟨rfl,rfl,rfl,by simp,fun k' _ hk=>setRow_other w g k' _ (fun e=>hk (by simp[Value.ownBlock,e]))⟩,.inl rfl⟩
   ·rcases hs.kind with ⟨e',hk⟩|hk<;>simp[Builtin.append_,eT ht,eT hk,sizeOf,typeInfo,hi,hs.len,hroom,hs.cells,dV,hst]
   ·simp only[mD,av,aD,aN,jI]
    omega
   ·rw[htake,←hlen]
    exact je
  ·have hold:(Builtin.firstCells i.size n (.slice (some ⟨g,0,none⟩) n cap)).run P w.drew= .ok xs.toArray w.drew:=
    yE w.drew i.size n ⟨g,0,none⟩ n cap xs hown.1.1 (fun j u hu=>by simpa using hown.1.cells (g:=g) rfl j u hu)
   have hr:=qC (P:=P) w t tx ty e i z ht hi hz (some ⟨g,0,none⟩) n cap xs hold x m news hs (by omega) (by omega) (pW (by omega) hbytes)
   have hgr:=grown cap (by omega)
   exact⟨_,_,_,hr,hgr.1,hgr.2,.inr ⟨_,rfl,aC _⟩⟩
theorem mE {o:Oper} {a:Act} {w:World} {K:Act→World→Prop} {Q:Exit→Act→World→Prop} (s y:Operand) (t tx:TypeId) (ho:o.op= .call {callee:= .builtin .append,args:=#[s,y],argTypes:=#[t,tx]})
  (S:Nat→Prop) (B:Nat) (e:TypeId) (k bytes:Nat) (z:Value) (ht:P.underlying t=some (.slice e)) (hinfo:(P.info? e).map (fun i=>(i.zero,i.size,i.bytes))=some (some z,k,bytes)) (hzs:z.cells.size=k)
  (v:Value) (n:Nat) (xs:List Value) (hv:a.eval s=v) (hown:aP w S B e k v n xs) (x:Value) (m:Nat) (news:List Value) (hx:a.eval y=x) (hs:Src P k tx x m news w)
  (hS:∀g,S g→g<w.heap.size) (hbase:B≤w.heap.size) (h63:n+m≤maxLen) (hbytes:(n+m)*bytes≤140737488355328)
  (h:∀ao c w',aP w' S B e k (.slice ao (n+m) c) (n+m) (xs++news)→Keep (fun g=>v.ownBlock=some g) w w'→Below B w w'→
   (∀g,g<w.heap.size→v.ownBlock≠some g→(Value.slice ao (n+m) c).ownBlock≠some g)→K (a.put o.dst (.slice ao (n+m) c)) w'):o.wp P a w K Q:=by
 obtain⟨i,hi,hz,hsize,hby⟩:=rG hinfo
 obtain⟨ao,c,w',hr,h2,h3,h3b,h4⟩:=Oh (P:=P) w S B t tx o.type e i z k bytes ht hi hz hsize hby hzs v n xs hown x m news hs hS hbase h63 hbytes
 unfold Oper.wp execOp
 simp only[ho,resolve,invoke,builtin,jy,nX,fI,kW,dx,gW,hv,hx,hr]
 exact h ao c w' h2 h3 h3b h4
theorem bY {ops:Array Oper} {rest:List Oper} {o:Oper} {a:Act} {w:World} {Q:Exit→Act→World→Prop} (hgd:o.guard=none) (s y:Operand) (t tx:TypeId) (ho:o.op= .call {callee:= .builtin .append,args:=#[s,y],argTypes:=#[t,tx]})
  (S:Nat→Prop) (B:Nat) (e:TypeId) (k bytes:Nat) (z:Value) (ht:P.underlying t=some (.slice e)) (hinfo:(P.info? e).map (fun i=>(i.zero,i.size,i.bytes))=some (some z,k,bytes)) (hzs:z.cells.size=k)
  (v:Value) (n:Nat) (xs:List Value) (hv:a.eval s=v) (hown:aP w S B e k v n xs) (x:Value) (m:Nat) (news:List Value) (hx:a.eval y=x) (hs:Src P k tx x m news w)
  (hS:∀g,S g→g<w.heap.size) (hbase:B≤w.heap.size) (h63:n+m≤maxLen) (hbytes:(n+m)*bytes≤140737488355328)
  (h:∀ao c w',aP w' S B e k (.slice ao (n+m) c) (n+m) (xs++news)→Keep (fun g=>v.ownBlock=some g) w w'→Below B w w'→
   (∀g,g<w.heap.size→v.ownBlock≠some g→(Value.slice ao (n+m) c).ownBlock≠some g)→wpList P ops Q rest (a.put o.dst (.slice ao (n+m) c)) w'):wpList P ops Q (o::rest) a w:=
 wpList_plain hgd fun _ hK=>mE s y t tx ho S B e k bytes z ht hinfo hzs v n xs hv hown x m news hx hs hS hbase h63 hbytes fun ao c w' h2 h3 h3b h4=>hK _ _ (h ao c w' h2 h3 h3b h4)
theorem Ew {ops:Array Oper} {o:Oper} {a:Act} {w:World} {K:Act→World→Prop} {Q:Exit→Act→World→Prop} {E:Prop} (hgd:o.guard=none) (s y:Operand) (t tx:TypeId) (ho:o.op= .call {callee:= .builtin .append,args:=#[s,y],argTypes:=#[t,tx]})
  (S:Nat→Prop) (B:Nat) (e:TypeId) (k bytes:Nat) (z:Value) (ht:P.underlying t=some (.slice e)) (hinfo:(P.info? e).map (fun i=>(i.zero,i.size,i.bytes))=some (some z,k,bytes)) (hzs:z.cells.size=k)
  (v:Value) (n:Nat) (xs:List Value) (hv:a.eval s=v) (hown:aP w S B e k v n xs) (x:Value) (m:Nat) (news:List Value) (hx:a.eval y=x) (hs:Src P k tx x m news w)
  (hS:∀g,S g→g<w.heap.size) (hbase:B≤w.heap.size) (h63:n+m≤maxLen) (hbytes:(n+m)*bytes≤140737488355328)
  (h:∀ao c w',aP w' S B e k (.slice ao (n+m) c) (n+m) (xs++news)→Keep (fun g=>v.ownBlock=some g) w w'→Below B w w'→
   (∀g,g<w.heap.size→v.ownBlock≠some g→(Value.slice ao (n+m) c).ownBlock≠some g)→K (a.put o.dst (.slice ao (n+m) c)) w'):
  if Region.wanted o (yielded ops a.tmps)=true then Oper.wp P o a w K Q else E:=by
 have hw:Region.wanted o (yielded ops a.tmps)=true:=by simp[Region.wanted,hgd]
 rw[if_pos hw]
 exact mE s y t tx ho S B e k bytes z ht hinfo hzs v n xs hv hown x m news hx hs hS hbase h63 hbytes h
end
def dw (ps:List (ByteArray×ByteArray)):List Value:=ps.flatMap fun p=>[.string p.1,.string p.2]
theorem kN (p:ByteArray×ByteArray) (ps:List (ByteArray×ByteArray)):dw (p::ps)= .string p.1:: .string p.2::dw ps:=rfl
theorem EQ (ps:List (ByteArray×ByteArray)):∀i (h:i<ps.length),(dw ps)[i*2]? =some (.string ps[i].1)∧(dw ps)[i*2+1]? =some (.string ps[i].2):=by
 induction ps with
 |nil=>intro i h;exact absurd h (by simp)
 |cons p ps ih=>
  intro i h
  cases i with
  |zero=>simp[kN]
  |succ i=>
   have:=ih i (by simpa using h)
   rw[kN]
   refine⟨?_,?_⟩
   ·have e:(i+1)*2=i*2+1+1:=by omega
    rw[e,dS,dS];exact this.1
   ·have e:(i+1)*2+1=(i*2+1)+1+1:=by omega
    rw[e,dS,dS];exact this.2
theorem fU (a b:List (ByteArray×ByteArray)):dw (a++b)=dw a++dw b:=by simp[dw]
def aG (l:List UInt8):List Value:=l.map fun b=> .int .u8 (b.toNat:Int)
theorem iw (a b:List UInt8):aG (a++b)=aG a++aG b:=by simp[aG]
theorem bq (l:List UInt8):(aG l).length=l.length:=by simp[aG]
theorem wT (s:ByteArray):byteCells s=aG s.data.toList:=rfl
def iY (w:World) (S:Nat→Prop) (v:Value) (ps:List (ByteArray×ByteArray)):Prop:=aX w S 2 v ps.length (dw ps)
def iU (w:World) (S:Nat→Prop) (v:Value) (ss:List ByteArray):Prop:=aX w S 1 v ss.length (ss.map .string)
def jd (w:World) (S:Nat→Prop) (v:Value) (zs:List Int):Prop:=aX w S 1 v zs.length (zs.map (.int .i64))
def ji (w:World) (S:Nat→Prop) (v:Value) (l:List UInt8):Prop:=aX w S 1 v l.length (aG l)
theorem jd.at {w:World} {S:Nat→Prop} {v:Value} {zs:List Int} {ao:Option Addr} {n c:Nat} (h:jd w S v zs) (hv:v= .slice ao n c) (i:Nat) (hi:i<zs.length):
  ∃b o,ao=some ⟨b,o,none⟩∧w.cell? ⟨b,o+i,none⟩=some (.int .i64 zs[i]):=aX.Eb h hv i _ (by simp[hi])
theorem iU.at {w:World} {S:Nat→Prop} {v:Value} {ss:List ByteArray} {ao:Option Addr} {n c:Nat} (h:iU w S v ss) (hv:v= .slice ao n c) (i:Nat) (hi:i<ss.length):
  ∃b o,ao=some ⟨b,o,none⟩∧w.cell? ⟨b,o+i,none⟩=some (.string ss[i]):=aX.Eb h hv i _ (by simp[hi])
theorem ji.at {w:World} {S:Nat→Prop} {v:Value} {l:List UInt8} {ao:Option Addr} {n c:Nat} (h:ji w S v l) (hv:v= .slice ao n c) (i:Nat) (hi:i<l.length):
  ∃b o,ao=some ⟨b,o,none⟩∧w.cell? ⟨b,o+i,none⟩=some (.int .u8 (l[i].toNat:Int)):=aX.Eb h hv i _ (by simp[aG,hi])
theorem iY.at {w:World} {S:Nat→Prop} {v:Value} {ps:List (ByteArray×ByteArray)} {ao:Option Addr} {n c:Nat} (h:iY w S v ps) (hv:v= .slice ao n c) (i:Nat) (hi:i<ps.length):
  ∃b o,ao=some ⟨b,o,none⟩∧w.cell? ⟨b,o+i*2,none⟩=some (.string ps[i].1)∧w.cell? ⟨b,o+i*2+1,none⟩=some (.string ps[i].2):=by
 obtain⟨ao',c',rfl,_,_,_,_,_,h6⟩:=h
 cases hv
 have hg:=EQ ps i hi
 obtain⟨b,o,e,h1⟩:=h6 _ _ hg.1
 obtain⟨b',o',e',h2⟩:=h6 _ _ hg.2
 rw[e] at e';cases e'
 exact⟨b,o,e,h1,h2⟩
theorem nH (ss:List ByteArray):∀u∈ss.map Value.string,u.oneCell'=true:=by
 intro u hu;obtain⟨_,_,rfl⟩:=dU.1 hu;rfl
theorem gT (l:List UInt8):∀u∈aG l,u.oneCell'=true:=by
 intro u hu;obtain⟨_,_,rfl⟩:=dU.1 hu;rfl
theorem yY (ps:List (ByteArray×ByteArray)):∀u∈dw ps,u.oneCell'=true:=by
 intro u hu
 obtain⟨p,_,hp⟩:=jQ.1 hu
 simp at hp;rcases hp with rfl|rfl<;>rfl
section
variable {P:Program} {ops:Array Oper} {Q:Exit→Act→World→Prop} {md:Region.Mode} {S:World→Prop}
def FL (md:Region.Mode) (ops:Array Oper) (j:Nat):List Nat:=
 match ops[j]? with
 |none=>[]
 |some o=>(o.after.toList.filter (Region.binds md)).map (·.on)
def marks (md:Region.Mode) (ops:Array Oper):List Nat→List Nat→List Nat
 |[],l=>l
 |i::r,l=>marks md ops r (if l.contains i then(FL md ops i).foldl (fun acc k=>if acc.contains k then acc else k::acc) l else l)
def nu (md:Region.Mode) (ops:Array Oper) (j:Nat):Bool:=
 let l:=marks md ops (List.range ops.size).reverse (FL md ops j)
 (List.range ops.size).all fun i=>i==j||l.contains i
def pM (md:Region.Mode) (ops:Array Oper) (listed:Array Bool):Prop:=∀i k,i<ops.size→k∈FL md ops i→listed.getD i true=true→listed.getD k false=true
theorem sS {j k:Nat} {listed:Array Bool} (hj:j∈Region.ready md ops listed) (hk:k∈FL md ops j):listed.getD k false=true:=by
 obtain⟨_,o,ho,hall⟩:=mem_ready.1 hj
 unfold FL at hk
 rw[ho] at hk
 simp only[dU,List.mem_filter,Array.mem_toList_iff] at hk
 obtain⟨e,⟨he,hb⟩,rfl⟩:=hk
 exact hall e he hb
theorem pM.set {j:Nat} {listed:Array Bool} (h:pM md ops listed) (hj:j∈Region.ready md ops listed):pM md ops (listed.setIfInBounds j true):=by
 intro i k hi hk hl
 by_cases hij:j=i
 ·subst hij;exact getD_set_true (sS hj hk)
 ·rw[getD_set_ne true hij] at hl;exact getD_set_true (h i k hi hk hl)
theorem pM.replicate:pM md ops (Array.replicate ops.size false):=by
 intro i k hi hk hl
 simp[hi] at hl
theorem uR {x:Nat}:∀(es:List Nat) (l:List Nat),x∈es.foldl (fun acc k=>if acc.contains k then acc else k::acc) l→x∈es∨x∈l
 |[],l,h=> .inr h
 |e::r,l,h=>by
  rcases uR r _ h with h|h
  ·exact .inl (aW _ h)
  ·dsimp only at h
   split at h
   ·exact .inr h
   ·rcases bD.1 h with rfl|h
    ·exact .inl (aZ ..)
    ·exact .inr h
theorem pG {listed:Array Bool} {i:Nat} (h:listed.getD i false=true):listed.getD i true=true:=by
 rcases gV i listed.size with h'|h'
 ·simpa [h'] using h
 ·simp[Array.getElem?_eq_none h'] at h
theorem wH {listed:Array Bool} (h:pM md ops listed):∀(r l:List Nat),(∀i∈r,i<ops.size)→(∀x∈l,listed.getD x false=true)→∀x∈marks md ops r l,listed.getD x false=true
 |[],_,_,hl=>hl
 |i::r,l,hr,hl=>by
  refine wH h r _ (fun k hk=>hr k (aW _ hk)) ?_
  intro x hx
  split at hx
  ·rename_i hc
   rcases uR _ _ hx with hx|hx
   ·exact h i x (hr i (aZ ..)) hx (pG (hl i (by simpa using hc)))
   ·exact hl x hx
  ·exact hl x hx
theorem Bo {i j:Nat} {listed:Array Bool} (h:nu md ops j=true) (hs:pM md ops listed) (hj:j∈Region.ready md ops listed) (hi:i<ops.size) (hne:i≠j):listed.getD i false=true:=by
 unfold nu at h
 have:=ng.1 h i (lF.2 hi)
 simp only[qD,uJ,hne,false_or] at this
 refine wH hs (List.range ops.size).reverse _ (fun k hk=>by simpa using hk) (fun x hx=>sS hj hx) i (by simpa using this)
def rW (P:Program) (md:Region.Mode) (ops:Array Oper) (Q:Exit→Act→World→Prop) (S:World→Prop):Nat→Array Bool→Act→World→Prop
 |0,listed,a,w=>Region.ready md ops listed=[]∧Q .normal a w
 |fuel+1,listed,a,w=>
  (Region.ready md ops listed=[]→Q .normal a w)∧
  ∀i∈Region.ready md ops listed,wpOp P ops Q i (fun a' w'=>(nu md ops i=true∨S w')∧rW P md ops Q S fuel (listed.setIfInBounds i true) a' w') a w
theorem u6:∀(fuel:Nat) (listed:Array Bool) (a:Act) (w:World),rW P md ops Q S fuel listed a w→wpAny P md ops Q fuel listed a w
 |0,_,_,_,h=>h
 |fuel+1,_,_,_,h=>⟨h.1,fun i hi=>NS (fun a' w' h'=>u6 fuel _ a' w' h'.2) (h.2 i hi)⟩
theorem E5 {i:Nat} {listed:Array Bool} (h:i∈Region.ready md ops listed):i<ops.size:=by
 obtain⟨_,o,ho,_⟩:=mem_ready.1 h
 exact(ah.1 ho).1
theorem Km {i j:Nat} {listed:Array Bool} (hs:pM md ops listed) (hi:i∈Region.ready md ops listed) (hj:j∈Region.ready md ops listed) (hne:i≠j):nu md ops j=false:=by
 cases hw:nu md ops j with
 |false=>rfl
 |true=>
  have h1:=pG (Bo hw hs hj (E5 hi) hne)
  rw[(mem_ready.1 hi).1] at h1
  cases h1
theorem vT {i:Nat} {oi:Oper} {v:Value} (hi:ops[i]? =some oi) (hsel:∀(j:Nat) (o:Oper) cs b,ops[j]? =some o→o.op≠.select cs b)
  (hQ:∀c a w,Q (.panic c) (a.put oi.dst v) w→Q (.panic c) a w):
  ∀(fuel:Nat) (listed:Array Bool) (a:Act) (w:World),pM md ops listed→
   (∀j oj,ops[j]? =some oj→j≠i→listed.getD j true=false→(∀e∈oj.after,Region.binds md e=true→e.on≠i)→oi.apart ops oj=true)→
   i∈Region.ready md ops listed→YieldsIf P ops S oi v a→S w→
   rW P md ops Q S fuel (listed.setIfInBounds i true) (a.put oi.dst v) w→rW P md ops Q S (fuel+1) listed a w:=by
 intro fuel
 induction fuel with
 |zero=>
  intro listed a w hsh _ hr hy hS H
  refine⟨fun h=>(by rw[h] at hr;cases hr),fun j hj=> ?_⟩
  by_cases hji:j=i
  ·subst hji;exact hy.wpOp hi hS ⟨.inr hS,H⟩
  ·have:=ready_mono hj hji
   rw[H.1] at this
   cases this
 |succ fuel ih=>
  intro listed a w hsh hfree hr hy hS H
  refine⟨fun h=>(by rw[h] at hr;cases hr),fun j hj=> ?_⟩
  by_cases hji:j=i
  ·subst hji;exact hy.wpOp hi hS ⟨.inr hS,H⟩
  ·have h1:=H.2 j (ready_mono hj hji)
   have hnw:=Km hsh hr hj (Ne.symm hji)
   obtain⟨hjun,oj,hoj,hall⟩:=mem_ready.1 hj
   have hnot:∀e∈oj.after,Region.binds md e=true→e.on≠i:=fun e he hb heq=>by
    have q1:=hall e he hb
    have q0:=(mem_ready.1 hr).1
    rw[heq] at q1
    rcases gV i listed.size with h'|h'
    ·simp[h'] at q0 q1;rw[q0] at q1;cases q1
    ·simp[Array.getElem?_eq_none h'] at q1
   have h2:=wpOp_putIf hoj (hfree j oj hoj hji hjun hnot) (fun cs b=>hsel i oi cs b hi) (fun cs b=>hsel j oj cs b hoj) hQ hy h1
   have hfree':∀k ok,ops[k]? =some ok→k≠i→(listed.setIfInBounds j true).getD k true=false→
     (∀e∈ok.after,Region.binds md e=true→e.on≠i)→oi.apart ops ok=true:=fun k ok hk hki hun hno=>by
    refine hfree k ok hk hki ?_ hno
    by_cases hjk:j=k
    ·subst hjk;exact hjun
    ·rw[getD_set_ne true hjk] at hun;exact hun
   refine NS (fun a' w' h3=> ?_) h2
   have hS':S w':=h3.2.1.resolve_left (by rw[hnw];simp)
   refine⟨.inr hS',ih (listed.setIfInBounds j true) a' w' (hsh.set hj) hfree' (ready_mono hr (Ne.symm hji)) h3.1 hS' ?_⟩
   rw[Array.setIfInBounds_comm _ _ hji]
   exact h3.2.2
def Aa (md:Region.Mode) (ops:Array Oper) (q:Nat→Bool):List Nat→Array Bool→Bool
 |[],listed=>(Region.ready md ops listed).isEmpty
 |i::rest,listed=>
  (if q i then(Region.ready md ops listed).contains i && Region.free md ops listed i
   else(Region.ready md ops listed==[i]) && (!nu md ops i||rest.isEmpty)) && Aa md ops q rest (listed.setIfInBounds i true)
def lI (P:Program) (md:Region.Mode) (ops:Array Oper) (Q:Exit→Act→World→Prop) (S:World→Prop) (q:Nat→Bool):List Nat→Act→World→Prop
 |[],a,w=>Q .normal a w
 |i::rest,a,w=>
  if q i then ∃o v,ops[i]? =some o∧(∀c a w,Q (.panic c) (a.put o.dst v) w→Q (.panic c) a w)∧YieldsIf P ops S o v a∧lI P md ops Q S q rest (a.put o.dst v) w
  else wpOp P ops Q i (fun a' w'=>(nu md ops i=true∨S w')∧lI P md ops Q S q rest a' w') a w
theorem mG (hs:Region.noSelect ops=true) {q:Nat→Bool}:∀(order:List Nat) (fuel:Nat) (listed:Array Bool) (a:Act) (w:World),pM md ops listed→
  Aa md ops q order listed=true→order.length≤fuel→(order=[]∨S w)→lI P md ops Q S q order a w→rW P md ops Q S fuel listed a w
 |[],fuel,listed,a,w,_,hok,_,_,h=>by
  have h0:Region.ready md ops listed=[]:=by simpa [Aa] using hok
  cases fuel with
  |zero=>exact⟨h0,h⟩
  |succ fuel=>exact⟨fun _=>h,fun i hi=>by rw[h0] at hi;cases hi⟩
 |i::rest,0,_,_,_,_,_,hf,_,_=>absurd hf (by simp)
 |i::rest,fuel+1,listed,a,w,hsh,hok,hf,hSw,h=>by
  have hS:S w:=hSw.resolve_left (by simp)
  simp only[Aa,dO] at hok
  obtain⟨hi,hrest⟩:=hok
  by_cases hq:q i=true
  ·simp only[hq,jk,dO] at hi
   simp only[lI,hq,jk] at h
   obtain⟨o,v,ho,hQ,hy,h⟩:=h
   exact vT ho (Region.noSelect_spec hs) hQ fuel listed a w hsh (Region.free_spec ho hi.2) (by simpa using hi.1) hy hS
    (mG hs rest fuel _ _ _ (hsh.set (by simpa using hi.1)) hrest (by simpa using hf) (.inr hS) h)
  ·rw[if_neg hq,dO,uJ] at hi
   simp only[lI] at h
   rw[if_neg hq] at h
   have hr:Region.ready md ops listed=[i]:=by simpa using hi.1
   refine⟨fun h0=>(by rw[hr] at h0;cases h0),fun j hj=> ?_⟩
   rw[hr] at hj
   obtain rfl:j=i:=by simpa using hj
   refine NS (fun a' w' h3=>⟨h3.1,mG hs rest fuel _ _ _ (hsh.set (by rw[hr];exact bI.2 rfl)) hrest (by simpa using hf) ?_ h3.2⟩) h
   rcases h3.1 with hw|hS'
   ·have:=hi.2
    simp only[hw] at this
    exact .inl (by simpa using this)
   ·exact .inr hS'
theorem aO {id:Nat} {a:Act} {w:World} (S:World→Prop) (q:Nat→Bool) (order:List Nat) (hm:P.follows .mixedOrders=true) (hok:(Region.noSelect ops && decide (order.length≤ops.size) && Aa .any ops q order (Array.replicate ops.size false))=true)
  (hS:S w.drew) (h:lI P .any ops Q S q order a w.drew):(Code.region id ops true).wp P Q a w:=by
 simp only[dO,dZ] at hok
 exact wp_region_any hm (u6 _ _ _ _ (mG hok.1.1 order _ _ _ _ pM.replicate hok.2 hok.1.2 (.inr hS) h))
theorem bK {q:Nat→Bool} {a:Act} {w:World} (h:Q .normal a w):lI P md ops Q S q [] a w:=h
theorem bG {q:Nat→Bool} {i:Nat} {rest:List Nat} {a:Act} {w:World} {o:Oper} {v:Value} (hq:q i=true) (hi':ops.toList[i]? =some o) (hQ:∀c a w,Q (.panic c) (a.put o.dst v) w→Q (.panic c) a w)
  (hw:Region.wanted o (yielded ops a.tmps)=true) (hy:∀W,S W→(execOp a.eval o).run P W= .ok (.value v) W) (h:lI P md ops Q S q rest (a.put o.dst v) w):lI P md ops Q S q (i::rest) a w:=by
 have hi:ops[i]? =some o:=by rw[←jP];exact hi'
 simp only[lI,hq,jk];exact⟨o,v,hi,hQ,.inl ⟨hw,hy⟩,h⟩
theorem Mt {q:Nat→Bool} {i:Nat} {rest:List Nat} {a:Act} {w:World} {o:Oper} (hq:q i=true) (hi':ops.toList[i]? =some o) (hQ:∀c a w,Q (.panic c) (a.put o.dst undef) w→Q (.panic c) a w)
  (hw:Region.wanted o (yielded ops a.tmps)=false) (h:lI P md ops Q S q rest (a.put o.dst undef) w):lI P md ops Q S q (i::rest) a w:=by
 have hi:ops[i]? =some o:=by rw[←jP];exact hi'
 simp only[lI,hq,jk];exact⟨o,undef,hi,hQ,.inr ⟨hw,rfl⟩,h⟩
theorem dz {q:Nat→Bool} {i:Nat} {rest:List Nat} {a:Act} {w:World} {o:Oper} (hq:q i=false) (hi':ops.toList[i]? =some o) (hw:Region.wanted o (yielded ops a.tmps)=true)
  (h:∀K:Act→World→Prop,Shut (∀a w,S w→lI P md ops Q S q rest a w→K a w)→o.wp P a w K Q):lI P md ops Q S q (i::rest) a w:=by
 have hi:ops[i]? =some o:=by rw[←jP];exact hi'
 simp only[lI,hq,wpOp,hi,hw,jk]
 exact .inl (h _ (fun a w hS hW=>⟨.inr hS,hW⟩))
theorem iN {q:Nat→Bool} {i:Nat} {rest:List Nat} {a:Act} {w:World} {o:Oper} (hq:q i=false) (hi':ops.toList[i]? =some o) (hw:Region.wanted o (yielded ops a.tmps)=true) (hl:nu md ops i=true)
  (h:∀K:Act→World→Prop,Shut (∀a w,lI P md ops Q S q rest a w→K a w)→o.wp P a w K Q):lI P md ops Q S q (i::rest) a w:=by
 have hi:ops[i]? =some o:=by rw[←jP];exact hi'
 simp only[lI,hq,wpOp,hi,hw,jk]
 exact .inl (h _ (fun a w hW=>⟨.inl hl,hW⟩))
end
end Go.Proofs.YtfgpefcphnpabaaGreat
