/- parts -/
import Derived.WalkKit
import Derived.WalkLawsBesides
import Derived.WalkSpells
import Derived.Lib.Hide
import Derived.Deep.AppendSrc
import Derived.OrdersHeld
import Derived.Deep.RegionHeld
namespace Go.Proofs.YtpgdljlghiifjaaGreatDoor
open Go.RowKit
set_option linter.all false
def af := @_root_.Go.Lib.hid
def ah := @_root_.Array.getElem?_eq_some_iff
def aj := @_root_.List.setIfInBounds_toArray
def ak := @_root_.List.set_cons_succ
def au := @_root_.List.set_cons_zero
def ax := @_root_.Nat.lt_of_lt_of_le
def ay := @_root_.And.intro
def aC := @_root_.List.length_append
def aD := @_root_.List.length_take
def aF := @_root_.Go.World.block_lt_of_cell?
def aG := @_root_.Nat.le_refl
def aH := @_root_.Nat.le_trans
def aK := @_root_.List.take_succ_eq_append_getElem
def aL := @_root_.List.append_assoc
def aM := @_root_.Go.heap_alloc_new
def aN := @_root_.List.take_of_length_le
def aO := @_root_.List.length_drop
def aQ := @_root_.Go.RowKit.Below.refl
def aR := @_root_.Go.IntWalk.i64_in
def aT := @_root_.Go.World.size_alloc
def aU := @_root_.List.eq_nil_of_length_eq_zero
def aV := @_root_.Nat.mul_one
def aW := @_root_.Array.getElem?_modify
def aX := @_root_.List.mem_cons_of_mem
def aY := @_root_.Nat.zero_le
def aZ := @_root_.List.getElem?_eq_getElem
def bf := @_root_.List.length_cons
def bg := @_root_.List.mem_cons_self
def bq := @_root_.List.getElem_mem
def bD := @_root_.decide_eq_false
def bF := @_root_.Nat.not_lt
def bG := @_root_.List.length_nil
def bH := @_root_.List.mem_singleton
def bI := @_root_.List.take_append_drop
def bJ := @_root_.List.mem_append
def bK := @_root_.List.mem_cons
def bM := @_root_.Nat.min_eq_left
def bP := @_root_.List.drop_eq_getElem_cons
def bQ := @_root_.List.take_append_of_le_length
def bS := @_root_.List.mem_of_mem_drop
def bT := @_root_.decide_eq_true
def bU := @_root_.List.take_length
def bV := @_root_.List.getElem?_append_right
def bW := @_root_.Nat.mul_le_mul_right
def bX := @_root_.List.map_append
def bY := @_root_.decide_eq_true_eq
def bZ := @_root_.List.getElem?_eq_some_iff
def cO := @_root_.List.map_cons
def cZ := @_root_.List.getElem?_map
def di := @_root_.beq_eq_false_iff_ne
def dm := @_root_.List.length_pos_iff
def dx := @_root_.List.flatMap_cons
def dz := @_root_.List.mem_append_left
def dA := @_root_.List.mem_append_right
def dF := @_root_.List.take_take
def dG := @_root_.List.append_nil
def dI := @_root_.Nat.lt_irrefl
def dN := @_root_.List.nodup_append
def dP := @_root_.List.mem_map
def dQ := @_root_.List.drop_of_length_le
def dS := @_root_.Bool.and_eq_true
def dW := @_root_.List.length_map
def dX := @_root_.List.getElem?_cons_succ
def dZ := @_root_.List.mem_of_mem_take
def eB := @_root_.List.pairwise_cons
def eD := @_root_.Nat.add_sub_cancel_left
def eF := @_root_.Nat.add_mul
def eG := @_root_.UInt8.toNat_ofNat'
def eH := @_root_.Nat.zero_add
def eP := @_root_.List.getElem?_append_left
def eT := @_root_.List.drop_zero
def eY := @_root_.List.drop_append_of_le_length
def eZ := @_root_.List.perm_append_comm
def fq := @_root_.Nat.not_le
def fw := @_root_.List.drop_succ_cons
def fG := @_root_.List.getD_eq_getElem?_getD
def fH := @_root_.Nat.le_of_eq
def fJ := @_root_.Go.run_underlying
def fK := @_root_.List.map_drop
def fM := @_root_.Go.Addr.add_lit
def fU := @_root_.Int.toNat_natCast
def gy := @_root_.List.getElem?_eq_none
def gB := @_root_.List.nil_append
def gD := @_root_.Nat.lt_succ_self
def gF := @_root_.List.take_zero
def gI := @_root_.List.map_take
def gK := @_root_.Go.Result.andThen_ok
def gN := @_root_.Nat.min_self
def gP := @_root_.Nat.le_of_lt
def gQ := @_root_.List.drop_take
def gW := @_root_.List.mem_map_of_mem
def gX := @_root_.List.getElem_of_mem
def gY := @_root_.List.set_append_right
def ig := @_root_.Go.IntKind.wrap_i64
def iq := @_root_.of_decide_eq_true
def iw := @_root_.List.map_nil
def iE := @_root_.List.getElem?_take
def iF := @_root_.List.Perm.refl
def iG := @_root_.Option.map_some
def iJ := @_root_.Nat.lt_or_ge
def iK := @_root_.Nat.add_zero
def iT := @_root_.if_true
def iV := @_root_.Go.heap_setCell_same
def iY := @_root_.Option.some.inj
def iZ := @_root_.Go.Lib.run_eql_slice_nil
def jB := @_root_.List.flatMap_append
def jC := @_root_.Array.length_toList
def jH := @_root_.Go.Sem.run_bind
def jJ := @_root_.List.pairwise_iff_getElem
def jK := @_root_.Classical.byContradiction
def jM := @_root_.Array.getElem?_toList
def jU := @_root_.Nat.add_assoc
def jY := @_root_.Nat.one_mul
def kC := @_root_.List.Pairwise.nil
def kJ := @_root_.List.take_succ_cons
def kT := @_root_.List.drop_length
def kU := @_root_.List.all_eq_true
def kZ := @_root_.Go.leaves_cons
def lq := @_root_.List.take_left
def lu := @_root_.List.filter_append
def lC := @_root_.List.exists_cons_of_ne_nil
def lD := @_root_.BitVec.toNat_ofNat
def lF := @_root_.List.length_singleton
def l8 := @_root_.Nat.lt_trans
def l9 := @_root_.Nat.le_succ_of_le
def mg := @_root_.List.pairwise_append
def mK := @_root_.Go.bodyPost_ret
def mM := @_root_.Go.World.cell?_of_block
def mV := @_root_.Nat.mod_eq_of_lt
def mW := @_root_.List.not_mem_nil
def mX := @_root_.List.mem_range
def mY := @_root_.List.mem_flatMap
def mZ := @_root_.List.map_toArray
def ng := @_root_.List.drop_append
def ni := @_root_.List.cons_append
def nO := @_root_.Nat.le_succ
def nP := @_root_.beq_iff_eq
def nS := @_root_.List.nodup_cons
def nT := @_root_.List.cons.injEq
def nU := @_root_.Bool.or_eq_true
def om := @_root_.List.Perm.append_left
def oF := @_root_.List.size_toArray
def oG := @_root_.List.any_eq_false
def oH := @_root_.List.Sublist.refl
def oI := @_root_.Go.RowKit.Below.heap_alloc
def oM := @_root_.Go.World.cell?_alloc_new
def oO := @_root_.List.nodup_nil
def oP := @_root_.List.mem_of_getElem?
def oQ := @_root_.BitVec.ofInt_natCast
def pR := @_root_.Nat.mul_le_mul_left
def pY := @_root_.Go.Sem.run_pure
def qx := @_root_.Go.run_callFunc_extern
def qy := @_root_.Go.run_append_grow_src
def qz := @_root_.Nat.not_lt_zero
def qA := @_root_.Nat.mod_lt
def qB := @_root_.Array.ext'
def qM := @_root_.decide_eq_false_iff_not
def qP := @_root_.List.set_eq_take_append_cons_drop
def rQ := @_root_.Go.grownCap_le_maxLen
def rX := @_root_.or_false
def rY := @_root_.Nat.zero_mul
def rZ := @_root_.List.pairwise_map
def si := @_root_.ByteArray.data_extract
def uj := @_root_.Go.growslice_fits
def uO := @_root_.List.flatMap_nil
def uP := @_root_.List.any_eq_true
def uR := @_root_.List.sum_cons
def ve := @_root_.Go.World.cell?_alloc_old
def vg := @_root_.Array.toList_extract
def vO := @_root_.Go.info_parts
def vQ := @_root_.Array.getElem?_setIfInBounds
def xk := @_root_.Go.wpList_lookup_own_ok
def xq := @_root_.List.zip_eq_zipWith
def xu := @_root_.List.takeWhile_cons
def xw := @_root_.List.mergeSort_perm
def xA := @_root_.List.getElem?_range
def xB := @_root_.List.filter_sublist
def xC := @_root_.List.filter_eq_self
def xD := @_root_.Array.toList_append
def xG := @_root_.Nat.two_pow_add_eq_or_of_lt
def xH := @_root_.Nat.succ_mul
def xI := @_root_.Nat.sub_self
def xJ := @_root_.Nat.add_comm
def yC := @_root_.Go.IntKind.wrap_u8
def yT := @_root_.Nat.add_sub_cancel
def yU := @_root_.Int.tmod_eq_emod_of_nonneg
def zk := @_root_.Go.results_none
def Bq := @_root_.Go.size_zeroCells
def Br := @_root_.Nat.lt_succ_of_lt
def Bt := @_root_.List.getElem_take
def Bu := @_root_.List.getElem_drop
def Bv := @_root_.List.ext_getElem?
def Bw := @_root_.Bool.eq_false_iff
def Bz := @_root_.Nat.lt_succ_iff_lt_or_eq
def BA := @_root_.ByteArray.ext
def CY := @_root_.Go.cell_of_row
def CZ := @_root_.List.take_append
def C8 := @_root_.List.mem_nil_iff
def C9 := @_root_.List.getElem_map
def Da := @_root_.Int.eq_ofNat_of_zero_le
def Db := @_root_.Array.toList_inj
def El := @_root_.Nat.div_div_eq_div_mul
def Em := @_root_.List.map_map
def En := @_root_.List.Perm.append_right
def Gx := @_root_.UInt8.toNat_inj
def Gy := @_root_.Nat.le_max_left
def Gz := @_root_.List.mem_filter
def GA := @_root_.List.length_filter_le
def GD := @_root_.Bool.and_eq_false_iff
def GH := @_root_.Go.RowKit.Below.heap_setCell
def Jc := @_root_.Go.Src.ofString
def JY := @_root_.Nat.pow_le_pow_right
def JZ := @_root_.List.set_append_left
def J2 := @_root_.List.drop_left
def J3 := @_root_.List.drop_drop
def LF := @_root_.List.flatten_append
def LG := @_root_.List.Sublist.append
def Oo := @_root_.Go.grownCap_ge
def Oq := @_root_.Go.below_drewN
def Ot := @_root_.Go.Src.ofSlice
def Ov := @_root_.Go.wpOp_mono
def Ow := @_root_.Int.emod_lt_of_pos
def Ox := @_root_.Bool.false_eq_true
def PL := @_root_.Go.run_firstCells_some
def Qb := @_root_.Option.some.injEq
def Qc := @_root_.Nat.pow_succ
def Qd := @_root_.List.flatten_cons
def Qe := @_root_.List.drop_sublist
def Q8 := @_root_.Go.World.ownsMap.drew
def Q9 := @_root_.Option.getD_some
def Ra := @_root_.List.getElem_inj
def R7 := @_root_.Go.wp_scope_straight
set_option maxRecDepth 100000
set_option maxHeartbeats 8000000
set_option linter.all false
def Stop (p:Prop):Prop:=p
theorem Stop.of {p:Prop} (h:Stop p):p:=h
theorem Stop.on {p:Prop} (h:p):Stop p:=h
structure Keep (M:Nat→Prop) (w w':World):Prop where
 os:w'.os=w.os
 tape:w'.tape=w.tape
 output:w'.output=w.output
 size:w.heap.size≤w'.heap.size
 block:∀k,k<w.heap.size→¬M k→w'.heap[k]? =w.heap[k]?
theorem Keep.refl (M:Nat→Prop) (w:World):Keep M w w:=⟨rfl,rfl,rfl,aG _,fun _ _ _=>rfl⟩
theorem Keep.trans {M M':Nat→Prop} {a b c:World} (h:Keep M a b) (k:Keep M' b c) (hm:∀i,i<a.heap.size→M' i→M i):Keep M a c:=
 ⟨k.os.trans h.os,k.tape.trans h.tape,k.output.trans h.output,aH h.size k.size,
  fun i hi hn=>(k.block i (ax hi h.size) (fun x=>hn (hm i hi x))).trans (h.block i hi hn)⟩
theorem Keep.mono {M M':Nat→Prop} {a b:World} (h:Keep M a b) (hm:∀i,i<a.heap.size→M i→M' i):Keep M' a b:=
 ⟨h.os,h.tape,h.output,h.size,fun i hi hn=>h.block i hi (fun x=>hn (hm i hi x))⟩
theorem Keep.alloc {M:Nat→Prop} {a w:World} (h:Keep M a w) (o:Obj):Keep M a (w.alloc o):=
 ⟨h.os,h.tape,h.output,aH h.size (by simp),fun k hk hn=>(oI w o k (ax hk h.size)).trans (h.block k hk hn)⟩
theorem Keep.drew {M:Nat→Prop} {a w:World} (h:Keep M a w):Keep M a w.drew:=⟨h.os,h.tape,h.output,h.size,h.block⟩
theorem Keep.setCell {M:Nat→Prop} {a w:World} (h:Keep M a w) {p:Addr} (hp:a.heap.size≤p.block∨M p.block) (u:Value):Keep M a (w.setCell p u):=
 ⟨h.os,h.tape,h.output,aH h.size (by simp),fun k hk hn=>(GH w p u k (by rintro rfl;exact hp.elim (fun x=>absurd hk (bF.2 x)) hn)).trans (h.block k hk hn)⟩
theorem Keep.of_below {w w':World} (h:Below w.heap.size w w') (M:Nat→Prop):Keep M w w':=
 ⟨h.os,h.tape,h.output,h.size,fun k hk _=>h.block k hk⟩
theorem Keep.below {w w':World} (h:Keep (fun _=>False) w w'):Below w.heap.size w w':=
 ⟨h.os,h.tape,h.output,h.size,fun k hk=>h.block k hk id⟩
theorem Keep.gG {M:Nat→Prop} {a b:World} (h:Keep M a b) {B:Nat} (hB:B≤a.heap.size) (hM:∀i,i<B→¬M i):Below B a b:=
 ⟨h.os,h.tape,h.output,h.size,fun k hk=>h.block k (ax hk hB) (hM k hk)⟩
theorem Keep.grown {M:Nat→Prop} {a w w':World} {row:Option Nat} (h:Keep M a w) (hg:w.grownBy w' row) (hr:∀k,row=some k→a.heap.size≤k∨M k):Keep M a w':=
 ⟨hg.os.trans h.os,hg.tape.trans h.tape,hg.output.trans h.output,aH h.size hg.size,
  fun k hk hn=>(hg.block k (ax hk h.size) (fun e=>(hr k e.symm).elim (fun x=>absurd hk (bF.2 x)) hn)).trans (h.block k hk hn)⟩
theorem Keep.cell {M:Nat→Prop} {w w':World} (h:Keep M w w') {p:Addr} (hp:p.block<w.heap.size) (hn:¬M p.block):w'.cell? p=w.cell? p:=
 mM (w:=w) (h.block p.block hp hn)
theorem Keep.frozen {M:Nat→Prop} {w w':World} (h:Keep M w w') {p:Addr} (hp:p.block<w.heap.size) (hn:¬M p.block):w'.frozen? p=w.frozen? p:=
 World.frozen?_of_block (w:=w) (h.block p.block hp hn)
def fO:Nat→Prop:=fun _=>False
def Step (S S':Nat→Prop) (w w':World):Prop:=Keep S w w'∧∀g,S' g→S g∨w.heap.size≤g
theorem Step.refl (S:Nat→Prop) (w:World):Step S S w w:=⟨Keep.refl _ _,fun _ h=> .inl h⟩
theorem Step.trans {S S' S'':Nat→Prop} {a b c:World} (h:Step S S' a b) (k:Step S' S'' b c):Step S S'' a c:=
 ⟨h.1.trans k.1 fun i hi hs=>(h.2 i hs).elim id (fun x=>absurd hi (bF.2 x)),
  fun g hg=>(k.2 g hg).elim (fun x=>h.2 g x) (fun x=> .inr (aH h.1.size x))⟩
theorem Step.of_below {S:Nat→Prop} {w w':World} (h:Below w.heap.size w w'):Step S S w w':=⟨Keep.of_below h S,fun _ h=> .inl h⟩
def bE (w:World) (S:Nat→Prop) (k:Nat) (v:Value) (n:Nat) (xs:List Value):Prop:=
 ∃ao c,v= .slice ao n c∧n≤c∧c≤maxLen∧xs.length=n*k∧(ao=none→n=0∧c=0)∧(∀ad,ao=some ad→ad.spot=none∧ad.block<w.heap.size∧¬S ad.block)∧
  ∀j u,xs[j]? =some u→∃b o,ao=some ⟨b,o,none⟩∧w.cell? ⟨b,o+j,none⟩=some u
theorem bE.keep {w w':World} {S S':Nat→Prop} {k n:Nat} {v:Value} {xs:List Value} (h:bE w S k v n xs)
  (hb:∀g,v.ownBlock=some g→g<w.heap.size→¬S g→w'.heap[g]? =w.heap[g]?∧¬S' g):bE w' S' k v n xs:=by
 obtain⟨ao,c,rfl,h1,h2,h3,h4,h5,h6⟩:=h
 refine⟨ao,c,rfl,h1,h2,h3,h4,fun ad had=> ?_,fun j u hu=> ?_⟩
 ·have:=h5 ad had
  have hq:=hb ad.block (by rw[had];rfl) this.2.1 this.2.2
  refine⟨this.1,?_,hq.2⟩
  exact(ah.1 (hq.1.trans (Array.getElem?_eq_getElem this.2.1))).1
 ·obtain⟨b,o,rfl,hc⟩:=h6 j u hu
  have:=h5 _ rfl
  exact⟨b,o,rfl,(mM (w:=w) (a:=⟨b,o+j,none⟩) (hb b rfl this.2.1 this.2.2).1).trans hc⟩
theorem bE.step {w w':World} {S S':Nat→Prop} {k n:Nat} {v:Value} {xs:List Value} (h:bE w S k v n xs) (hs:Step S S' w w'):bE w' S' k v n xs:=
 h.keep fun g _ hl hn=>⟨hs.1.block g hl hn,fun x=>(hs.2 g x).elim hn (fun y=>absurd hl (bF.2 y))⟩
theorem bE.below {w w':World} {S:Nat→Prop} {k n:Nat} {v:Value} {xs:List Value} (h:bE w S k v n xs) (hs:Below w.heap.size w w'):bE w' S k v n xs:=
 h.step (Step.of_below hs)
theorem bE.nil (w:World) (S:Nat→Prop) (k:Nat):bE w S k (.slice none 0 0) 0 []:=
 ⟨none,0,rfl,aG _,aY _,by simp,fun _=>⟨rfl,rfl⟩,(fun _ h=>by cases h),(fun j u h=>by simp at h)⟩
theorem bE.form {w:World} {S:Nat→Prop} {k n:Nat} {v:Value} {xs:List Value} (h:bE w S k v n xs):
  ∃ao c,v= .slice ao n c∧n≤c∧c≤9223372036854775807∧(n=0∨∃b o,ao=some ⟨b,o,none⟩)∧(ao=none→c=0):=by
 obtain⟨ao,c,rfl,h1,h2,h3,h4,h5,h6⟩:=h
 refine⟨ao,c,rfl,h1,by simpa [maxLen] using h2,?_,fun h=>(h4 h).2⟩
 rcases ao with _|⟨b,o,sp⟩
 ·exact .inl (h4 rfl).1
 ·obtain rfl:sp=none:=(h5 _ rfl).1
  exact .inr ⟨b,o,rfl⟩
theorem bE.upto {w:World} {S:Nat→Prop} {k n c:Nat} {ao:Option Addr} {xs:List Value} (h:bE w S k (.slice ao n c) n xs) (j:Nat) (hj:j≤n):bE w S k (.slice ao j c) j (xs.take (j*k)):=by
 obtain⟨ao',c',hv,h1,h2,h3,h4,h5,h6⟩:=h
 cases hv
 refine⟨ao,c,rfl,by omega,h2,by rw[aD,h3];exact bM (bW _ hj),fun e=>⟨by have:=(h4 e).1;omega,(h4 e).2⟩,h5,fun i u hu=> ?_⟩
 rw[iE] at hu
 split at hu
 ·exact h6 i u hu
 ·cases hu
theorem bE.after {w:World} {S:Nat→Prop} {k n c:Nat} {ao:Option Addr} {xs:List Value} (h:bE w S k (.slice ao n c) n xs) (i:Nat) (hi:i≤n):
  bE w S k (.slice (if c=i then ao else ao.map fun x=>x.add (i*k)) (n - i) (c - i)) (n - i) (xs.drop (i*k)):=by
 obtain⟨ao',c',hv,h1,h2,h3,h4,h5,h6⟩:=h
 cases hv
 have hlen:(xs.drop (i*k)).length=(n - i)*k:=by rw[aO,h3,Nat.sub_mul]
 by_cases hc:c=i
 ·rw[if_pos hc]
  have e:xs.drop (i*k)=[]:=aU (by rw[hlen,show n - i=0 by omega,rY])
  refine⟨ao,c - i,rfl,by omega,by omega,hlen,fun e=>⟨by have:=(h4 e).1;omega,by have:=(h4 e).2;omega⟩,h5,fun j u hu=> ?_⟩
  rw[e] at hu;simp at hu
 ·rw[if_neg hc]
  refine⟨_,c - i,rfl,by omega,by omega,hlen,fun e=> ?_,fun ad had=> ?_,fun j u hu=> ?_⟩
  ·cases ao with
   |none=>have:=h4 rfl;omega
   |some ad=>cases e
  ·cases ao with
   |none=>cases had
   |some a0=>
    have:=h5 a0 rfl
    obtain⟨b,o,sp⟩:=a0
    cases had
    have hs:sp=none:=this.1
    subst hs
    simp only[fM]
    exact⟨trivial,this.2⟩
  ·rw[List.getElem?_drop] at hu
   obtain⟨b,o,e,hc⟩:=h6 _ u hu
   subst e
   refine⟨b,o+i*k,by simp[fM],?_⟩
   rw[jU];exact hc
theorem bE.yx {w:World} {S:Nat→Prop} {v:Value} {n:Nat} {xs:List Value} (h:bE w S 1 v n xs) {ao:Option Addr} {n' c:Nat} (hv:v= .slice ao n' c) (i:Nat) (u:Value) (hu:xs[i]? =some u):
  ∃b o,ao=some ⟨b,o,none⟩∧w.cell? ⟨b,o+i,none⟩=some u:=by
 obtain⟨ao',c',rfl,_,_,_,_,_,h6⟩:=h
 cases hv
 exact h6 _ _ hu
def aS (w:World) (S:Nat→Prop) (B e k:Nat) (v:Value) (n:Nat) (xs:List Value):Prop:=
 w.ownsRow B e k v n xs∧∀g,v.ownBlock=some g→¬S g
theorem aS.dD {w:World} {S:Nat→Prop} {B e k n:Nat} {v:Value} {xs:List Value} (h:aS w S B e k v n xs):bE w S k v n xs:=by
 obtain⟨⟨hl,hr⟩,hn⟩:=h
 rcases hr with ⟨rfl,rfl⟩|⟨g,cap,cur,rfl,_,hg,h1,h2,h3,h4⟩
 ·have:xs=[]:=aU (by simpa using hl)
  subst this;exact bE.nil _ _ _
 ·refine⟨_,cap,rfl,h1,h2,hl,by simp,fun ad had=> ?_,fun j u hu=>⟨g,0,rfl,?_⟩⟩
  ·cases had;exact⟨rfl,(ah.1 hg).1,hn g rfl⟩
  ·have hj:=(bZ.1 hu).1
   rw[eH]
   rw[CY w g j cur e (0,0) hg]
   rw[←h4,iE] at hu
   split at hu
   ·simpa using hu
   ·cases hu
theorem aS.nil (w:World) (S:Nat→Prop) (B e k:Nat):aS w S B e k (.slice none 0 0) 0 []:=⟨World.ownsRow_nil w B e k,by simp[Value.ownBlock]⟩
theorem aS.keep {w w':World} {S S':Nat→Prop} {B e k n:Nat} {v:Value} {xs:List Value} (h:aS w S B e k v n xs)
  (hb:∀g,v.ownBlock=some g→g<w.heap.size→¬S g→w'.heap[g]? =w.heap[g]?∧¬S' g):aS w' S' B e k v n xs:=by
 obtain⟨⟨hl,hr⟩,hn⟩:=h
 rcases hr with ⟨rfl,rfl⟩|⟨g,cap,cur,rfl,h0,hg,h1⟩
 ·exact⟨⟨hl,.inl ⟨rfl,rfl⟩⟩,by simp[Value.ownBlock]⟩
 ·have:=hb g rfl (ah.1 hg).1 (hn g rfl)
  exact⟨⟨hl,.inr ⟨g,cap,cur,rfl,h0,this.1.trans hg,h1⟩⟩,fun g' hg'=>by cases hg';exact this.2⟩
theorem aS.lt {w:World} {S:Nat→Prop} {B e k n:Nat} {v:Value} {xs:List Value} (h:aS w S B e k v n xs):v.ownBlock≠some w.heap.size:=fun e=>absurd (h.1.lt _ e).2 (dI _)
theorem aS.lt' {w:World} {S:Nat→Prop} {B e k n:Nat} {v:Value} {xs:List Value} (h:aS w S B e k v n xs) {g:Nat} (hg:w.heap.size≤g):v.ownBlock≠some g:=fun e=>absurd (h.1.lt _ e).2 (bF.2 hg)
theorem aS.drew {w:World} {S:Nat→Prop} {B e k n:Nat} {v:Value} {xs:List Value} (h:aS w S B e k v n xs):aS w.drew S B e k v n xs:=h
theorem aS.step {w w':World} {S S':Nat→Prop} {B e k n:Nat} {v:Value} {xs:List Value} (h:aS w S B e k v n xs) (hs:Step S S' w w'):aS w' S' B e k v n xs:=
 h.keep fun g _ hl hn=>⟨hs.1.block g hl hn,fun x=>(hs.2 g x).elim hn (fun y=>absurd hl (bF.2 y))⟩
theorem aS.below {w w':World} {S:Nat→Prop} {B e k n:Nat} {v:Value} {xs:List Value} (h:aS w S B e k v n xs) (hs:Below w.heap.size w w'):aS w' S B e k v n xs:=
 h.step (Step.of_below hs)
theorem bE.src {P:Program} {w:World} {S:Nat→Prop} {k n:Nat} {v:Value} {xs:List Value} (h:bE w S k v n xs) {tx e':TypeId} (hk:P.underlying tx=some (.slice e')) (h1:∀u∈xs,u.oneCell'=true):Src P k tx v n xs w:=by
 obtain⟨ao,c,rfl,_,_,h3,h4,h5,h6⟩:=h
 cases ao with
 |none=>
  obtain⟨rfl,rfl⟩:=h4 rfl
  have:xs=[]:=aU (by simpa using h3)
  subst this
  exact Src.ofNil w hk 0
 |some ad=>
  obtain⟨b,o,sp⟩:=ad
  obtain rfl:sp=none:=(h5 _ rfl).1
  refine Ot w hk ⟨b,o,none⟩ n c xs h3 (fun j u hu=> ?_) h1
  obtain⟨b',o',e,hc⟩:=h6 j u hu
  cases e
  rw[fM];exact hc
theorem gM {P:Program} {w:World} (cs:List Value) (T k n c:Nat) {tx e':TypeId} {g:Nat} (hg:w.heap.size=g) (hk:P.underlying tx=some (.slice e')) (hl:cs.length=n*k) (h1:∀u∈cs,u.oneCell'=true):
  Src P k tx (.slice (some ⟨g,0,none⟩) n c) n cs (w.alloc (.cells cs.toArray T)):=by
 subst hg
 refine Ot _ hk _ n c cs hl (fun j u hu=> ?_) h1
 rw[fM,eH,oM]
 simpa using hu
theorem mO {w:World} {S:Nat→Prop} {B e k:Nat} (cs:List Value) (n c:Nat) {g:Nat} (hg:w.heap.size=g) (hl:cs.length=c*k) (hnc:n≤c) (hc:c≤maxLen) (hB:B≤w.heap.size) (hS:∀g,S g→g<w.heap.size):
  aS (w.alloc (.cells cs.toArray e)) S B e k (.slice (some ⟨g,0,none⟩) n c) n (cs.take (n*k)):=by
 subst hg
 refine⟨⟨?_,.inr ⟨_,c,_,rfl,hB,aM w _,hnc,hc,by simpa using hl,rfl⟩⟩,fun g hg hs=> ?_⟩
 ·rw[aD,hl];exact bM (bW _ hnc)
 ·cases hg;exact absurd (hS _ hs) (dI _)
theorem fD {S:Nat→Prop} {w:World} (h:∀g,S g→g<w.heap.size) (o:Obj):∀g,S g→g<(w.alloc o).heap.size:=fun g hg=>by
 rw[aT];exact Br (h g hg)
theorem xP {S:Nat→Prop} {w w':World} {B:Nat} (h:∀g,S g→g<w.heap.size) (hb:Below B w w'):∀g,S g→g<w'.heap.size:=fun g hg=>ax (h g hg) hb.size
theorem aI (w:World) (o:Obj):Below w.heap.size w (w.alloc o):=(aQ _ _).alloc (aG _) _
theorem fI (w:World) (o o':Obj):Below w.heap.size w ((w.alloc o).alloc o'):=(aI w o).alloc (by simp) _
theorem Gq (w:World) (o o' o'':Obj):Below w.heap.size w (((w.alloc o).alloc o').alloc o''):=(fI w o o').alloc (by simp;omega) _
section
variable {P:Program}
theorem OM (w:World) (S:Nat→Prop) (B:Nat) (t tx ty e:TypeId) (i:TypeInfo) (z:Value) (k bytes:Nat) (ht:P.underlying t=some (.slice e)) (hi:P.info? e=some i) (hz:i.zero=some z)
  (hsize:i.size=k) (hby:i.bytes=bytes) (hzs:z.cells.size=k)
  (v:Value) (n:Nat) (xs:List Value) (hown:aS w S B e k v n xs) (x:Value) (m:Nat) (news:List Value) (hs:Src P k tx x m news w)
  (hS:∀g,S g→g<w.heap.size) (hbase:B≤w.heap.size) (h63:n+m≤maxLen) (hbytes:(n+m)*bytes≤140737488355328):
  ∃ao c w',(Builtin.append_ #[t,tx] ty #[v,x]).run P w= .ok (.slice ao (n+m) c) w'∧aS w' S B e k (.slice ao (n+m) c) (n+m) (xs++news)∧Keep (fun g=>v.ownBlock=some g) w w'∧Below B w w'∧
   (∀g,g<w.heap.size→v.ownBlock≠some g→(Value.slice ao (n+m) c).ownBlock≠some g):=by
 suffices hsuf:∃ao c w',(Builtin.append_ #[t,tx] ty #[v,x]).run P w= .ok (.slice ao (n+m) c) w'∧aS w' S B e k (.slice ao (n+m) c) (n+m) (xs++news)∧Keep (fun g=>v.ownBlock=some g) w w'∧
   ((Value.slice ao (n+m) c).ownBlock=v.ownBlock∨∃g,ao=some ⟨g,0,none⟩∧w.heap.size≤g) by
  obtain⟨ao,c,w',h1,h2,h3,h4⟩:=hsuf
  exact⟨ao,c,w',h1,h2,h3,⟨h3.os,h3.tape,h3.output,h3.size,fun g hg=>h3.block g (ax hg hbase) (fun e=>absurd (hown.1.lt g e).1 (fq.2 hg))⟩,fun g hg hne=>h4.elim (fun e=>e▸hne) (fun ⟨g',e,hge⟩=>by rw[e];intro e';cases e';exact absurd hg (bF.2 hge))⟩
 subst hsize
 subst hby
 have hsmall:n+m≤9223372036854775807:=by simp only[maxLen] at h63;omega
 have hlen:(xs++news).length=(n+m)*i.size:=by rw[aC,hown.1.1,hs.newsLen,eF]
 have grown:∀(old:Nat),old<n+m→
   aS (w.drew.alloc (.cells ((xs++news).toArray++Builtin.zeroCells z.cells (grownCap w (n+m) old e - (n+m))) e)) S B e i.size
    (.slice (some ⟨w.heap.size,0,none⟩) (n+m) (grownCap w (n+m) old e)) (n+m) (xs++news)∧
   Keep (fun g=>v.ownBlock=some g) w (w.drew.alloc (.cells ((xs++news).toArray++Builtin.zeroCells z.cells (grownCap w (n+m) old e - (n+m))) e)):=by
  intro old ho
  have hge:=Oo w (n+m) old e
  have hcm:grownCap w (n+m) old e≤maxLen:=rQ w (n+m) old e h63
  refine⟨⟨⟨hlen,.inr ⟨w.heap.size,_,_,rfl,hbase,aM w.drew _,hge,hcm,?_,?_⟩⟩,fun g hg hh=> ?_⟩,(Keep.refl _ w).drew.alloc _⟩
  ·simp only[Array.size_append,oF,hlen,Bq,hzs,←eF]
   congr 1
   omega
  ·simp only[xD]
   rw[←hlen]
   exact lq
  ·cases hg;exact absurd (hS _ hh) (dI _)
 rcases hown.1.2 with ⟨rfl,rfl⟩|⟨g,cap,cur,rfl,hbg,hg,hnc,hcm,hcs,htake⟩
 ·have hx:xs=[]:=aU (by simpa using hown.1.1)
  subst hx
  by_cases hm:m=0
  ·subst hm
   have hn:news=[]:=aU (by simpa using hs.newsLen)
   subst hn
   refine⟨none,0,w,?_,aS.nil w S B e i.size,Keep.refl _ _,.inl rfl⟩
   rcases hs.kind with ⟨e',hk⟩|hk<;>simp[Builtin.append_,fJ ht,fJ hk,sizeOf,typeInfo,hi,hs.len,hs.cells]
  ·have hr:=qy (P:=P) w t tx ty e i z ht hi hz none 0 0 [] (run_firstCells_none w.drew i.size 0 0 0) x m news hs (by omega) (by omega) (uj (by omega) hbytes)
   have hgr:=grown 0 (by omega)
   exact⟨_,_,_,hr,hgr.1,hgr.2,.inr ⟨_,rfl,aG _⟩⟩
 ·by_cases hroom:n+m≤cap
  ·have hfit:n*i.size+news.length≤cur.size:=by rw[hs.newsLen,hcs,←eF];exact bW _ hroom
   have hst:=run_storeCells_at P g (n*i.size) e news 0 cur w hg (by simpa using hfit) hs.one
   simp only[iK] at hst
   refine⟨some ⟨g,0,none⟩,cap,w.setRow g (cur.toList.take (n*i.size)++news++cur.toList.drop (n*i.size+news.length)).toArray,?_,⟨⟨hlen,.inr ⟨g,cap,_,rfl,hbg,setRow_heap w g cur _ e _ hg,hroom,hcm,?_,?_⟩⟩,hown.2⟩,
    ⟨rfl,rfl,rfl,by simp,fun k' _ hk=>setRow_other w g k' _ (fun e=>hk (by simp[Value.ownBlock,e]))⟩,.inl rfl⟩
   ·rcases hs.kind with ⟨e',hk⟩|hk<;>simp[Builtin.append_,fJ ht,fJ hk,sizeOf,typeInfo,hi,hs.len,hroom,hs.cells,fM,hst]
   ·simp only[oF,aC,aD,aO,jC]
    omega
   ·rw[htake,←hlen]
    exact lq
  ·have hold:(Builtin.firstCells i.size n (.slice (some ⟨g,0,none⟩) n cap)).run P w.drew= .ok xs.toArray w.drew:=
    PL w.drew i.size n ⟨g,0,none⟩ n cap xs hown.1.1 (fun j u hu=>by simpa using hown.1.cells (g:=g) rfl j u hu)
   have hr:=qy (P:=P) w t tx ty e i z ht hi hz (some ⟨g,0,none⟩) n cap xs hold x m news hs (by omega) (by omega) (uj (by omega) hbytes)
   have hgr:=grown cap (by omega)
   exact⟨_,_,_,hr,hgr.1,hgr.2,.inr ⟨_,rfl,aG _⟩⟩
theorem mh {o:Oper} {a:Act} {w:World} {K:Act→World→Prop} {Q:Exit→Act→World→Prop} (s y:Operand) (t tx:TypeId) (ho:o.op= .call {callee:= .builtin .append,args:=#[s,y],argTypes:=#[t,tx]})
  (S:Nat→Prop) (B:Nat) (e:TypeId) (k bytes:Nat) (z:Value) (ht:P.underlying t=some (.slice e)) (hinfo:(P.info? e).map (fun i=>(i.zero,i.size,i.bytes))=some (some z,k,bytes)) (hzs:z.cells.size=k)
  (v:Value) (n:Nat) (xs:List Value) (hv:a.eval s=v) (hown:aS w S B e k v n xs) (x:Value) (m:Nat) (news:List Value) (hx:a.eval y=x) (hs:Src P k tx x m news w)
  (hS:∀g,S g→g<w.heap.size) (hbase:B≤w.heap.size) (h63:n+m≤maxLen) (hbytes:(n+m)*bytes≤140737488355328)
  (h:∀ao c w',aS w' S B e k (.slice ao (n+m) c) (n+m) (xs++news)→Keep (fun g=>v.ownBlock=some g) w w'→Below B w w'→
   (∀g,g<w.heap.size→v.ownBlock≠some g→(Value.slice ao (n+m) c).ownBlock≠some g)→K (a.put o.dst (.slice ao (n+m) c)) w'):o.wp P a w K Q:=by
 obtain⟨i,hi,hz,hsize,hby⟩:=vO hinfo
 obtain⟨ao,c,w',hr,h2,h3,h3b,h4⟩:=OM (P:=P) w S B t tx o.type e i z k bytes ht hi hz hsize hby hzs v n xs hown x m news hs hS hbase h63 hbytes
 unfold Oper.wp execOp
 simp only[ho,resolve,invoke,builtin,jH,pY,gK,mZ,cO,iw,hv,hx,hr]
 exact h ao c w' h2 h3 h3b h4
theorem dK {ops:Array Oper} {rest:List Oper} {o:Oper} {a:Act} {w:World} {Q:Exit→Act→World→Prop} (hgd:o.guard=none) (s y:Operand) (t tx:TypeId) (ho:o.op= .call {callee:= .builtin .append,args:=#[s,y],argTypes:=#[t,tx]})
  (S:Nat→Prop) (B:Nat) (e:TypeId) (k bytes:Nat) (z:Value) (ht:P.underlying t=some (.slice e)) (hinfo:(P.info? e).map (fun i=>(i.zero,i.size,i.bytes))=some (some z,k,bytes)) (hzs:z.cells.size=k)
  (v:Value) (n:Nat) (xs:List Value) (hv:a.eval s=v) (hown:aS w S B e k v n xs) (x:Value) (m:Nat) (news:List Value) (hx:a.eval y=x) (hs:Src P k tx x m news w)
  (hS:∀g,S g→g<w.heap.size) (hbase:B≤w.heap.size) (h63:n+m≤maxLen) (hbytes:(n+m)*bytes≤140737488355328)
  (h:∀ao c w',aS w' S B e k (.slice ao (n+m) c) (n+m) (xs++news)→Keep (fun g=>v.ownBlock=some g) w w'→Below B w w'→
   (∀g,g<w.heap.size→v.ownBlock≠some g→(Value.slice ao (n+m) c).ownBlock≠some g)→wpList P ops Q rest (a.put o.dst (.slice ao (n+m) c)) w'):wpList P ops Q (o::rest) a w:=
 wpList_plain hgd fun _ hK=>mh s y t tx ho S B e k bytes z ht hinfo hzs v n xs hv hown x m news hx hs hS hbase h63 hbytes fun ao c w' h2 h3 h3b h4=>hK _ _ (h ao c w' h2 h3 h3b h4)
theorem EB {ops:Array Oper} {o:Oper} {a:Act} {w:World} {K:Act→World→Prop} {Q:Exit→Act→World→Prop} {E:Prop} (hgd:o.guard=none) (s y:Operand) (t tx:TypeId) (ho:o.op= .call {callee:= .builtin .append,args:=#[s,y],argTypes:=#[t,tx]})
  (S:Nat→Prop) (B:Nat) (e:TypeId) (k bytes:Nat) (z:Value) (ht:P.underlying t=some (.slice e)) (hinfo:(P.info? e).map (fun i=>(i.zero,i.size,i.bytes))=some (some z,k,bytes)) (hzs:z.cells.size=k)
  (v:Value) (n:Nat) (xs:List Value) (hv:a.eval s=v) (hown:aS w S B e k v n xs) (x:Value) (m:Nat) (news:List Value) (hx:a.eval y=x) (hs:Src P k tx x m news w)
  (hS:∀g,S g→g<w.heap.size) (hbase:B≤w.heap.size) (h63:n+m≤maxLen) (hbytes:(n+m)*bytes≤140737488355328)
  (h:∀ao c w',aS w' S B e k (.slice ao (n+m) c) (n+m) (xs++news)→Keep (fun g=>v.ownBlock=some g) w w'→Below B w w'→
   (∀g,g<w.heap.size→v.ownBlock≠some g→(Value.slice ao (n+m) c).ownBlock≠some g)→K (a.put o.dst (.slice ao (n+m) c)) w'):
  if Region.wanted o (yielded ops a.tmps)=true then Oper.wp P o a w K Q else E:=by
 have hw:Region.wanted o (yielded ops a.tmps)=true:=by simp[Region.wanted,hgd]
 rw[if_pos hw]
 exact mh s y t tx ho S B e k bytes z ht hinfo hzs v n xs hv hown x m news hx hs hS hbase h63 hbytes h
end
def dH (ps:List (ByteArray×ByteArray)):List Value:=ps.flatMap fun p=>[.string p.1,.string p.2]
theorem sO (ps:List (ByteArray×ByteArray)):(dH ps).length=ps.length*2:=by
 induction ps with
 |nil=>rfl
 |cons p ps ih=>simp[dH,dx] at*;omega
theorem kL (p:ByteArray×ByteArray) (ps:List (ByteArray×ByteArray)):dH (p::ps)= .string p.1:: .string p.2::dH ps:=rfl
theorem EY (ps:List (ByteArray×ByteArray)):∀i (h:i<ps.length),(dH ps)[i*2]? =some (.string ps[i].1)∧(dH ps)[i*2+1]? =some (.string ps[i].2):=by
 induction ps with
 |nil=>intro i h;exact absurd h (by simp)
 |cons p ps ih=>
  intro i h
  cases i with
  |zero=>simp[kL]
  |succ i=>
   have:=ih i (by simpa using h)
   rw[kL]
   refine⟨?_,?_⟩
   ·have e:(i+1)*2=i*2+1+1:=by omega
    rw[e,dX,dX];exact this.1
   ·have e:(i+1)*2+1=(i*2+1)+1+1:=by omega
    rw[e,dX,dX];exact this.2
theorem lQ (a b:List (ByteArray×ByteArray)):dH (a++b)=dH a++dH b:=by simp[dH]
def aJ (l:List UInt8):List Value:=l.map fun b=> .int .u8 (b.toNat:Int)
theorem gm (a b:List UInt8):aJ (a++b)=aJ a++aJ b:=by simp[aJ]
theorem bL (l:List UInt8):(aJ l).length=l.length:=by simp[aJ]
theorem wY (s:ByteArray):byteCells s=aJ s.data.toList:=rfl
def mJ (w:World) (S:Nat→Prop) (v:Value) (ps:List (ByteArray×ByteArray)):Prop:=bE w S 2 v ps.length (dH ps)
def iM (w:World) (S:Nat→Prop) (v:Value) (ss:List ByteArray):Prop:=bE w S 1 v ss.length (ss.map .string)
def jr (w:World) (S:Nat→Prop) (v:Value) (zs:List Int):Prop:=bE w S 1 v zs.length (zs.map (.int .i64))
def ji (w:World) (S:Nat→Prop) (v:Value) (l:List UInt8):Prop:=bE w S 1 v l.length (aJ l)
theorem jr.at {w:World} {S:Nat→Prop} {v:Value} {zs:List Int} {ao:Option Addr} {n c:Nat} (h:jr w S v zs) (hv:v= .slice ao n c) (i:Nat) (hi:i<zs.length):
  ∃b o,ao=some ⟨b,o,none⟩∧w.cell? ⟨b,o+i,none⟩=some (.int .i64 zs[i]):=bE.yx h hv i _ (by simp[hi])
theorem iM.at {w:World} {S:Nat→Prop} {v:Value} {ss:List ByteArray} {ao:Option Addr} {n c:Nat} (h:iM w S v ss) (hv:v= .slice ao n c) (i:Nat) (hi:i<ss.length):
  ∃b o,ao=some ⟨b,o,none⟩∧w.cell? ⟨b,o+i,none⟩=some (.string ss[i]):=bE.yx h hv i _ (by simp[hi])
theorem ji.at {w:World} {S:Nat→Prop} {v:Value} {l:List UInt8} {ao:Option Addr} {n c:Nat} (h:ji w S v l) (hv:v= .slice ao n c) (i:Nat) (hi:i<l.length):
  ∃b o,ao=some ⟨b,o,none⟩∧w.cell? ⟨b,o+i,none⟩=some (.int .u8 (l[i].toNat:Int)):=bE.yx h hv i _ (by simp[aJ,hi])
theorem mJ.at {w:World} {S:Nat→Prop} {v:Value} {ps:List (ByteArray×ByteArray)} {ao:Option Addr} {n c:Nat} (h:mJ w S v ps) (hv:v= .slice ao n c) (i:Nat) (hi:i<ps.length):
  ∃b o,ao=some ⟨b,o,none⟩∧w.cell? ⟨b,o+i*2,none⟩=some (.string ps[i].1)∧w.cell? ⟨b,o+i*2+1,none⟩=some (.string ps[i].2):=by
 obtain⟨ao',c',rfl,_,_,_,_,_,h6⟩:=h
 cases hv
 have hg:=EY ps i hi
 obtain⟨b,o,e,h1⟩:=h6 _ _ hg.1
 obtain⟨b',o',e',h2⟩:=h6 _ _ hg.2
 rw[e] at e';cases e'
 exact⟨b,o,e,h1,h2⟩
theorem nI (ss:List ByteArray):∀u∈ss.map Value.string,u.oneCell'=true:=by
 intro u hu;obtain⟨_,_,rfl⟩:=dP.1 hu;rfl
theorem gT (l:List UInt8):∀u∈aJ l,u.oneCell'=true:=by
 intro u hu;obtain⟨_,_,rfl⟩:=dP.1 hu;rfl
theorem zo (ps:List (ByteArray×ByteArray)):∀u∈dH ps,u.oneCell'=true:=by
 intro u hu
 obtain⟨p,_,hp⟩:=mY.1 hu
 simp at hp;rcases hp with rfl|rfl<;>rfl
section
variable {P:Program} {ops:Array Oper} {Q:Exit→Act→World→Prop} {md:Region.Mode} {S:World→Prop}
def FZ (md:Region.Mode) (ops:Array Oper) (j:Nat):List Nat:=
 match ops[j]? with
 |none=>[]
 |some o=>(o.after.toList.filter (Region.binds md)).map (·.on)
def marks (md:Region.Mode) (ops:Array Oper):List Nat→List Nat→List Nat
 |[],l=>l
 |i::r,l=>marks md ops r (if l.contains i then(FZ md ops i).foldl (fun acc k=>if acc.contains k then acc else k::acc) l else l)
def ny (md:Region.Mode) (ops:Array Oper) (j:Nat):Bool:=
 let l:=marks md ops (List.range ops.size).reverse (FZ md ops j)
 (List.range ops.size).all fun i=>i==j||l.contains i
def pK (md:Region.Mode) (ops:Array Oper) (listed:Array Bool):Prop:=∀i k,i<ops.size→k∈FZ md ops i→listed.getD i true=true→listed.getD k false=true
theorem tF {j k:Nat} {listed:Array Bool} (hj:j∈Region.ready md ops listed) (hk:k∈FZ md ops j):listed.getD k false=true:=by
 obtain⟨_,o,ho,hall⟩:=mem_ready.1 hj
 unfold FZ at hk
 rw[ho] at hk
 simp only[dP,Gz,Array.mem_toList_iff] at hk
 obtain⟨e,⟨he,hb⟩,rfl⟩:=hk
 exact hall e he hb
theorem pK.set {j:Nat} {listed:Array Bool} (h:pK md ops listed) (hj:j∈Region.ready md ops listed):pK md ops (listed.setIfInBounds j true):=by
 intro i k hi hk hl
 by_cases hij:j=i
 ·subst hij;exact getD_set_true (tF hj hk)
 ·rw[getD_set_ne true hij] at hl;exact getD_set_true (h i k hi hk hl)
theorem pK.replicate:pK md ops (Array.replicate ops.size false):=by
 intro i k hi hk hl
 simp[hi] at hl
theorem uV {x:Nat}:∀(es:List Nat) (l:List Nat),x∈es.foldl (fun acc k=>if acc.contains k then acc else k::acc) l→x∈es∨x∈l
 |[],l,h=> .inr h
 |e::r,l,h=>by
  rcases uV r _ h with h|h
  ·exact .inl (aX _ h)
  ·dsimp only at h
   split at h
   ·exact .inr h
   ·rcases bK.1 h with rfl|h
    ·exact .inl (bg ..)
    ·exact .inr h
theorem pG {listed:Array Bool} {i:Nat} (h:listed.getD i false=true):listed.getD i true=true:=by
 rcases iJ i listed.size with h'|h'
 ·simpa [h'] using h
 ·simp[Array.getElem?_eq_none h'] at h
theorem wK {listed:Array Bool} (h:pK md ops listed):∀(r l:List Nat),(∀i∈r,i<ops.size)→(∀x∈l,listed.getD x false=true)→∀x∈marks md ops r l,listed.getD x false=true
 |[],_,_,hl=>hl
 |i::r,l,hr,hl=>by
  refine wK h r _ (fun k hk=>hr k (aX _ hk)) ?_
  intro x hx
  split at hx
  ·rename_i hc
   rcases uV _ _ hx with hx|hx
   ·exact h i x (hr i (bg ..)) hx (pG (hl i (by simpa using hc)))
   ·exact hl x hx
  ·exact hl x hx
theorem BD {i j:Nat} {listed:Array Bool} (h:ny md ops j=true) (hs:pK md ops listed) (hj:j∈Region.ready md ops listed) (hi:i<ops.size) (hne:i≠j):listed.getD i false=true:=by
 unfold ny at h
 have:=kU.1 h i (mX.2 hi)
 simp only[nU,nP,hne,false_or] at this
 refine wK hs (List.range ops.size).reverse _ (fun k hk=>by simpa using hk) (fun x hx=>tF hj hx) i (by simpa using this)
def sD (P:Program) (md:Region.Mode) (ops:Array Oper) (Q:Exit→Act→World→Prop) (S:World→Prop):Nat→Array Bool→Act→World→Prop
 |0,listed,a,w=>Region.ready md ops listed=[]∧Q .normal a w
 |fuel+1,listed,a,w=>
  (Region.ready md ops listed=[]→Q .normal a w)∧
  ∀i∈Region.ready md ops listed,wpOp P ops Q i (fun a' w'=>(ny md ops i=true∨S w')∧sD P md ops Q S fuel (listed.setIfInBounds i true) a' w') a w
theorem vw:∀(fuel:Nat) (listed:Array Bool) (a:Act) (w:World),sD P md ops Q S fuel listed a w→wpAny P md ops Q fuel listed a w
 |0,_,_,_,h=>h
 |fuel+1,_,_,_,h=>⟨h.1,fun i hi=>Ov (fun a' w' h'=>vw fuel _ a' w' h'.2) (h.2 i hi)⟩
theorem Fg {i:Nat} {listed:Array Bool} (h:i∈Region.ready md ops listed):i<ops.size:=by
 obtain⟨_,o,ho,_⟩:=mem_ready.1 h
 exact(ah.1 ho).1
theorem KE {i j:Nat} {listed:Array Bool} (hs:pK md ops listed) (hi:i∈Region.ready md ops listed) (hj:j∈Region.ready md ops listed) (hne:i≠j):ny md ops j=false:=by
 cases hw:ny md ops j with
 |false=>rfl
 |true=>
  have h1:=pG (BD hw hs hj (Fg hi) hne)
  rw[(mem_ready.1 hi).1] at h1
  cases h1
theorem vT {i:Nat} {oi:Oper} {v:Value} (hi:ops[i]? =some oi) (hsel:∀(j:Nat) (o:Oper) cs b,ops[j]? =some o→o.op≠.select cs b)
  (hQ:∀c a w,Q (.panic c) (a.put oi.dst v) w→Q (.panic c) a w):
  ∀(fuel:Nat) (listed:Array Bool) (a:Act) (w:World),pK md ops listed→
   (∀j oj,ops[j]? =some oj→j≠i→listed.getD j true=false→(∀e∈oj.after,Region.binds md e=true→e.on≠i)→oi.apart ops oj=true)→
   i∈Region.ready md ops listed→YieldsIf P ops S oi v a→S w→
   sD P md ops Q S fuel (listed.setIfInBounds i true) (a.put oi.dst v) w→sD P md ops Q S (fuel+1) listed a w:=by
 intro fuel
 induction fuel with
 |zero=>
  intro listed a w hsh _ hr hy hS H
  refine⟨fun h=>(by rw[h] at hr;cases hr),fun j hj=> ?_⟩
  by_cases hji:j=i
  ·subst hji;exact hy.wpOp hi hS ⟨.inr hS,H⟩
  ·have:=ready_mono hj hji
   rw[H.1] at this
   cases this
 |succ fuel ih=>
  intro listed a w hsh hfree hr hy hS H
  refine⟨fun h=>(by rw[h] at hr;cases hr),fun j hj=> ?_⟩
  by_cases hji:j=i
  ·subst hji;exact hy.wpOp hi hS ⟨.inr hS,H⟩
  ·have h1:=H.2 j (ready_mono hj hji)
   have hnw:=KE hsh hr hj (Ne.symm hji)
   obtain⟨hjun,oj,hoj,hall⟩:=mem_ready.1 hj
   have hnot:∀e∈oj.after,Region.binds md e=true→e.on≠i:=fun e he hb heq=>by
    have q1:=hall e he hb
    have q0:=(mem_ready.1 hr).1
    rw[heq] at q1
    rcases iJ i listed.size with h'|h'
    ·simp[h'] at q0 q1;rw[q0] at q1;cases q1
    ·simp[Array.getElem?_eq_none h'] at q1
   have h2:=wpOp_putIf hoj (hfree j oj hoj hji hjun hnot) (fun cs b=>hsel i oi cs b hi) (fun cs b=>hsel j oj cs b hoj) hQ hy h1
   have hfree':∀k ok,ops[k]? =some ok→k≠i→(listed.setIfInBounds j true).getD k true=false→
     (∀e∈ok.after,Region.binds md e=true→e.on≠i)→oi.apart ops ok=true:=fun k ok hk hki hun hno=>by
    refine hfree k ok hk hki ?_ hno
    by_cases hjk:j=k
    ·subst hjk;exact hjun
    ·rw[getD_set_ne true hjk] at hun;exact hun
   refine Ov (fun a' w' h3=> ?_) h2
   have hS':S w':=h3.2.1.resolve_left (by rw[hnw];simp)
   refine⟨.inr hS',ih (listed.setIfInBounds j true) a' w' (hsh.set hj) hfree' (ready_mono hr (Ne.symm hji)) h3.1 hS' ?_⟩
   rw[Array.setIfInBounds_comm _ _ hji]
   exact h3.2.2
def Ag (md:Region.Mode) (ops:Array Oper) (q:Nat→Bool):List Nat→Array Bool→Bool
 |[],listed=>(Region.ready md ops listed).isEmpty
 |i::rest,listed=>
  (if q i then(Region.ready md ops listed).contains i && Region.free md ops listed i
   else(Region.ready md ops listed==[i]) && (!ny md ops i||rest.isEmpty)) && Ag md ops q rest (listed.setIfInBounds i true)
def lH (P:Program) (md:Region.Mode) (ops:Array Oper) (Q:Exit→Act→World→Prop) (S:World→Prop) (q:Nat→Bool):List Nat→Act→World→Prop
 |[],a,w=>Q .normal a w
 |i::rest,a,w=>
  if q i then ∃o v,ops[i]? =some o∧(∀c a w,Q (.panic c) (a.put o.dst v) w→Q (.panic c) a w)∧YieldsIf P ops S o v a∧lH P md ops Q S q rest (a.put o.dst v) w
  else wpOp P ops Q i (fun a' w'=>(ny md ops i=true∨S w')∧lH P md ops Q S q rest a' w') a w
theorem mo (hs:Region.noSelect ops=true) {q:Nat→Bool}:∀(order:List Nat) (fuel:Nat) (listed:Array Bool) (a:Act) (w:World),pK md ops listed→
  Ag md ops q order listed=true→order.length≤fuel→(order=[]∨S w)→lH P md ops Q S q order a w→sD P md ops Q S fuel listed a w
 |[],fuel,listed,a,w,_,hok,_,_,h=>by
  have h0:Region.ready md ops listed=[]:=by simpa [Ag] using hok
  cases fuel with
  |zero=>exact⟨h0,h⟩
  |succ fuel=>exact⟨fun _=>h,fun i hi=>by rw[h0] at hi;cases hi⟩
 |i::rest,0,_,_,_,_,_,hf,_,_=>absurd hf (by simp)
 |i::rest,fuel+1,listed,a,w,hsh,hok,hf,hSw,h=>by
  have hS:S w:=hSw.resolve_left (by simp)
  simp only[Ag,dS] at hok
  obtain⟨hi,hrest⟩:=hok
  by_cases hq:q i=true
  ·simp only[hq,iT,dS] at hi
   simp only[lH,hq,iT] at h
   obtain⟨o,v,ho,hQ,hy,h⟩:=h
   exact vT ho (Region.noSelect_spec hs) hQ fuel listed a w hsh (Region.free_spec ho hi.2) (by simpa using hi.1) hy hS
    (mo hs rest fuel _ _ _ (hsh.set (by simpa using hi.1)) hrest (by simpa using hf) (.inr hS) h)
  ·rw[if_neg hq,dS,nP] at hi
   simp only[lH] at h
   rw[if_neg hq] at h
   have hr:Region.ready md ops listed=[i]:=by simpa using hi.1
   refine⟨fun h0=>(by rw[hr] at h0;cases h0),fun j hj=> ?_⟩
   rw[hr] at hj
   obtain rfl:j=i:=by simpa using hj
   refine Ov (fun a' w' h3=>⟨h3.1,mo hs rest fuel _ _ _ (hsh.set (by rw[hr];exact bH.2 rfl)) hrest (by simpa using hf) ?_ h3.2⟩) h
   rcases h3.1 with hw|hS'
   ·have:=hi.2
    simp only[hw] at this
    exact .inl (by simpa using this)
   ·exact .inr hS'
theorem aP {id:Nat} {a:Act} {w:World} (S:World→Prop) (q:Nat→Bool) (order:List Nat) (hm:P.follows .mixedOrders=true) (hok:(Region.noSelect ops && decide (order.length≤ops.size) && Ag .any ops q order (Array.replicate ops.size false))=true)
  (hS:S w.drew) (h:lH P .any ops Q S q order a w.drew):(Code.region id ops true).wp P Q a w:=by
 simp only[dS,bY] at hok
 exact wp_region_any hm (vw _ _ _ _ (mo hok.1.1 order _ _ _ _ pK.replicate hok.2 hok.1.2 (.inr hS) h))
theorem bR {q:Nat→Bool} {a:Act} {w:World} (h:Q .normal a w):lH P md ops Q S q [] a w:=h
theorem bO {q:Nat→Bool} {i:Nat} {rest:List Nat} {a:Act} {w:World} {o:Oper} {v:Value} (hq:q i=true) (hi':ops.toList[i]? =some o) (hQ:∀c a w,Q (.panic c) (a.put o.dst v) w→Q (.panic c) a w)
  (hw:Region.wanted o (yielded ops a.tmps)=true) (hy:∀W,S W→(execOp a.eval o).run P W= .ok (.value v) W) (h:lH P md ops Q S q rest (a.put o.dst v) w):lH P md ops Q S q (i::rest) a w:=by
 have hi:ops[i]? =some o:=by rw[←jM];exact hi'
 simp only[lH,hq,iT];exact⟨o,v,hi,hQ,.inl ⟨hw,hy⟩,h⟩
theorem ML {q:Nat→Bool} {i:Nat} {rest:List Nat} {a:Act} {w:World} {o:Oper} (hq:q i=true) (hi':ops.toList[i]? =some o) (hQ:∀c a w,Q (.panic c) (a.put o.dst undef) w→Q (.panic c) a w)
  (hw:Region.wanted o (yielded ops a.tmps)=false) (h:lH P md ops Q S q rest (a.put o.dst undef) w):lH P md ops Q S q (i::rest) a w:=by
 have hi:ops[i]? =some o:=by rw[←jM];exact hi'
 simp only[lH,hq,iT];exact⟨o,undef,hi,hQ,.inr ⟨hw,rfl⟩,h⟩
theorem dw {q:Nat→Bool} {i:Nat} {rest:List Nat} {a:Act} {w:World} {o:Oper} (hq:q i=false) (hi':ops.toList[i]? =some o) (hw:Region.wanted o (yielded ops a.tmps)=true)
  (h:∀K:Act→World→Prop,Shut (∀a w,S w→lH P md ops Q S q rest a w→K a w)→o.wp P a w K Q):lH P md ops Q S q (i::rest) a w:=by
 have hi:ops[i]? =some o:=by rw[←jM];exact hi'
 simp only[lH,hq,wpOp,hi,hw,iT]
 exact .inl (h _ (fun a w hS hW=>⟨.inr hS,hW⟩))
theorem ja {q:Nat→Bool} {i:Nat} {rest:List Nat} {a:Act} {w:World} {o:Oper} (hq:q i=false) (hi':ops.toList[i]? =some o) (hw:Region.wanted o (yielded ops a.tmps)=true) (hl:ny md ops i=true)
  (h:∀K:Act→World→Prop,Shut (∀a w,lH P md ops Q S q rest a w→K a w)→o.wp P a w K Q):lH P md ops Q S q (i::rest) a w:=by
 have hi:ops[i]? =some o:=by rw[←jM];exact hi'
 simp only[lH,hq,wpOp,hi,hw,iT]
 exact .inl (h _ (fun a w hW=>⟨.inl hl,hW⟩))
end
end Go.Proofs.YtpgdljlghiifjaaGreatDoor
