/- parts -/
import Derived.WalkKit
import Derived.WalkLawsBesides
import Derived.WalkSpells
import Derived.Lib.Hide
import Derived.Deep.AppendSrc
import Derived.Laws.CopyOwn
import Derived.Deep.RegionLaw
import Derived.Test.YtbfjgkafmlbpcaaGreatDoorRows
import Derived.Deep.RegionHeld3
import Derived.RegionTactic
import Derived.BigRegion
import Derived.Deep.QuietTactic
import Derived.BigQuiet
import Derived.StillTailTactics
set_option maxRecDepth 100000
set_option maxHeartbeats 8000000
set_option linter.all false
namespace Go.Proofs.YtbfjgkafmlbpcaaGreatDoor
open Go.RowKit
def af := @_root_.Go.Lib.hid
def ah := @_root_.Array.getElem?_eq_some_iff
def ai := @_root_.List.setIfInBounds_toArray
def aj := @_root_.List.set_cons_succ
def ak := @_root_.Nat.lt_of_lt_of_le
def au := @_root_.List.set_cons_zero
def av := @_root_.List.length_append
def ax := @_root_.Nat.le_refl
def ay := @_root_.And.intro
def aC := @_root_.List.length_take
def aG := @_root_.List.take_of_length_le
def aH := @_root_.Go.World.block_lt_of_cell?
def aI := @_root_.Nat.le_trans
def aJ := @_root_.List.length_drop
def aK := @_root_.Go.heap_alloc_new
def aL := @_root_.List.append_assoc
def aM := @_root_.Go.IntWalk.i64_in
def aO := @_root_.Go.RowKit.Below.refl
def aQ := @_root_.List.take_succ_eq_append_getElem
def aR := @_root_.List.eq_nil_of_length_eq_zero
def aS := @_root_.Array.getElem?_modify
def aT := @_root_.Nat.mul_one
def aU := @_root_.List.mem_cons_of_mem
def aV := @_root_.Go.World.size_alloc
def aW := @_root_.Go.Proofs.Tryz.underlying22
def aX := @_root_.List.mem_cons_self
def aY := @_root_.List.length_cons
def aZ := @_root_.Go.Proofs.Tryz.underlying171
def bf := @_root_.Nat.zero_le
def bg := @_root_.Go.Proofs.Tryz.underlying119
def bq := @_root_.Nat.min_eq_left
def bD := @_root_.List.take_append_of_le_length
def bE := @_root_.Nat.not_lt
def bF := @_root_.List.getElem?_eq_getElem
def bG := @_root_.List.getElem_mem
def bI := @_root_.List.length_nil
def bJ := @_root_.List.take_append_drop
def bK := @_root_.List.mem_singleton
def bM := @_root_.List.mem_cons
def bP := @_root_.decide_eq_false
def bQ := @_root_.Nat.mul_le_mul_right
def bR := @_root_.List.mem_append
def bS := @_root_.List.length_pos_iff
def bT := @_root_.List.getElem?_eq_some_iff
def bU := @_root_.List.mem_of_mem_drop
def bV := @_root_.List.getElem?_append_right
def bX := @_root_.List.map_append
def bZ := @_root_.List.take_take
def cu := @_root_.List.map_cons
def cO := @_root_.List.drop_eq_getElem_cons
def di := @_root_.Nat.lt_irrefl
def dF := @_root_.List.take_length
def dH := @_root_.Nat.add_sub_cancel_left
def dJ := @_root_.Go.Proofs.Tryz.underlying9
def dK := @_root_.List.nodup_append
def dL := @_root_.List.mem_append_left
def dM := @_root_.List.getElem?_map
def dQ := @_root_.Go.Proofs.Tryz.underlying76
def dS := @_root_.List.getElem?_cons_succ
def dU := @_root_.Bool.and_eq_true
def dV := @_root_.Go.length_splice
def dW := @_root_.List.append_nil
def dX := @_root_.Nat.add_mul
def dY := @_root_.UInt8.toNat_ofNat'
def dZ := @_root_.beq_eq_false_iff_ne
def d9 := @_root_.List.mem_map
def eu := @_root_.List.mem_append_right
def eB := @_root_.List.length_singleton
def eD := @_root_.decide_eq_true_eq
def eG := @_root_.Nat.zero_add
def eH := @_root_.List.drop_of_length_le
def eO := @_root_.Go.bodyPost_ret
def eP := @_root_.List.drop_zero
def eT := @_root_.List.pairwise_cons
def eY := @_root_.decide_eq_true
def eZ := @_root_.List.drop_succ_cons
def fo := @_root_.List.mem_of_mem_take
def fC := @_root_.Option.map_some
def fE := @_root_.Nat.not_le
def fF := @_root_.List.getD_eq_getElem?_getD
def fG := @_root_.Go.run_underlying
def fH := @_root_.List.drop_append_of_le_length
def fJ := @_root_.List.getElem?_append_left
def fK := @_root_.Go.Proofs.Tryz.underlying163
def fM := @_root_.List.nil_append
def fT := @_root_.Int.toNat_natCast
def fU := @_root_.Go.IntKind.wrap_i64
def fZ := @_root_.Go.Addr.add_lit
def gq := @_root_.Go.Proofs.Tryz.underlying3
def gB := @_root_.Nat.lt_succ_self
def gG := @_root_.List.map_take
def gH := @_root_.List.map_drop
def gL := @_root_.Go.Result.andThen_ok
def gN := @_root_.Nat.min_self
def gP := @_root_.List.take_zero
def gV := @_root_.List.take_succ_cons
def gW := @_root_.List.set_append_right
def gX := @_root_.List.perm_append_comm
def ig := @_root_.Nat.le_of_lt
def iq := @_root_.List.map_nil
def iC := @_root_.List.drop_take
def iH := @_root_.Go.run_string_add
def iI := @_root_.if_true
def iJ := @_root_.Nat.lt_or_ge
def iM := @_root_.List.getElem_of_mem
def iP := @_root_.Go.heap_setCell_same
def iQ := @_root_.List.take_left
def iV := @_root_.Nat.le_of_eq
def iW := @_root_.Nat.add_zero
def iX := @_root_.Go.Lib.run_eql_slice_nil
def jd := @_root_.List.getElem?_take
def jy := @_root_.List.mem_map_of_mem
def jA := @_root_.Array.length_toList
def jG := @_root_.Go.Sem.run_bind
def jJ := @_root_.Go.Proofs.Tryz.underlying5
def jK := @_root_.List.pairwise_iff_getElem
def jN := @_root_.Go.leaves_cons
def jO := @_root_.Array.getElem?_toList
def jP := @_root_.List.drop_length
def jQ := @_root_.List.cons_append
def jZ := @_root_.Nat.one_mul
def kr := @_root_.List.Perm.refl
def kH := @_root_.List.flatMap_cons
def kJ := @_root_.List.length_map
def kM := @_root_.Go.Proofs.Tryz.underlying269
def kX := @_root_.List.exists_cons_of_ne_nil
def kY := @_root_.BitVec.toNat_ofNat
def lT := @_root_.List.cons.injEq
def lU := @_root_.of_decide_eq_true
def lV := @_root_.Nat.lt_trans
def lW := @_root_.Nat.le_succ_of_le
def lY := @_root_.Nat.add_assoc
def mo := @_root_.Go.World.cell?_of_block
def mD := @_root_.Go.Proofs.Tryz.results59
def mI := @_root_.Nat.mul_le_mul_left
def mP := @_root_.Nat.mod_eq_of_lt
def mQ := @_root_.List.not_mem_nil
def mR := @_root_.List.map_toArray
def mU := @_root_.List.all_eq_true
def nL := @_root_.Nat.le_succ
def nM := @_root_.Nat.mod_lt
def nO := @_root_.List.nodup_cons
def nY := @_root_.List.getElem?_eq_none
def nZ := @_root_.ByteArray.size_append
def oC := @_root_.List.size_toArray
def oD := @_root_.Go.Proofs.Tryz.underlying4
def oF := @_root_.Go.Proofs.Tryz.underlying0
def oG := @_root_.Go.RowKit.Below.heap_alloc
def oJ := @_root_.Go.World.cell?_alloc_new
def oL := @_root_.List.nodup_nil
def oM := @_root_.List.mem_range
def oN := @_root_.Go.DataW.trod_string
def oO := @_root_.BitVec.ofInt_natCast
def o7 := @_root_.List.drop_append
def p8 := @_root_.Classical.byContradiction
def p9 := @_root_.Go.Proofs.Tryz.zeroValue0
def qg := @_root_.Go.Sem.run_pure
def qA := @_root_.List.sum_cons
def qF := @_root_.Go.run_callFunc_extern
def qG := @_root_.Go.run_append_grow_src
def qH := @_root_.Bool.or_eq_true
def rU := @_root_.Go.grownCap_le_maxLen
def rZ := @_root_.List.getElem_take
def si := @_root_.ByteArray.data_extract
def um := @_root_.Go.growslice_fits
def uR := @_root_.beq_iff_eq
def uS := @_root_.List.mem_flatMap
def uX := @_root_.Go.Proofs.Tryz.zeroValue3
def uY := @_root_.Prod.mk.injEq
def vH := @_root_.Go.World.cell?_alloc_old
def vI := @_root_.Go.Proofs.Tryz.underlying331
def vJ := @_root_.Array.toList_extract
def vX := @_root_.Go.wpS_region
def vY := @_root_.Go.results_cell_row
def vZ := @_root_.Go.info_parts
def wh := @_root_.Option.some.inj
def wm := @_root_.List.sum_append
def wu := @_root_.Array.getElem?_setIfInBounds
def xR := @_root_.Go.wpList_lookup_own_ok
def xS := @_root_.List.zip_eq_zipWith
def xU := @_root_.List.mergeSort_perm
def xV := @_root_.List.flatMap_append
def xW := @_root_.Go.Proofs.Tryz.sizeOf0
def xX := @_root_.Nat.zero_mul
def xY := @_root_.Nat.two_pow_add_eq_or_of_lt
def xZ := @_root_.Nat.sub_self
def x9 := @_root_.Nat.add_comm
def yQ := @_root_.Go.IntKind.wrap_u8
def zn := @_root_.or_false
def zo := @_root_.Nat.add_sub_cancel
def zq := @_root_.Int.tmod_eq_emod_of_nonneg
def zu := @_root_.Bool.false_eq_true
def zK := @_root_.Go.results_none
def zU := @_root_.List.getLast?_eq_getElem?
def BB := @_root_.Go.size_zeroCells
def BD := @_root_.Option.some.injEq
def BF := @_root_.Nat.lt_succ_of_lt
def BG := @_root_.List.pairwise_map
def BH := @_root_.List.getElem_drop
def BI := @_root_.List.Pairwise.nil
def BM := @_root_.Go.Proofs.Tryz.isAgg0
def Dl := @_root_.Go.below_drewN
def Dm := @_root_.Go.Proofs.Tryz.zeroValue9
def Dn := @_root_.Go.Proofs.Tryz.zeroValue4
def Dp := @_root_.List.take_append
def Dq := @_root_.Int.eq_ofNat_of_zero_le
def Dr := @_root_.Array.toList_inj
def Et := @_root_.Go.Proofs.Tryz.sizeOf3
def Eu := @_root_.Nat.div_div_eq_div_mul
def Ev := @_root_.List.map_map
def Ew := @_root_.List.getElem_cons_succ
def Gw := @_root_.UInt8.toNat_inj
def Gx := @_root_.Nat.le_max_left
def Gy := @_root_.Go.Proofs.Tryz.underlying276
def Gz := @_root_.Go.Proofs.Tryz.underlying142
def GA := @_root_.List.Perm.append_left
def JQ := @_root_.Nat.pow_le_pow_right
def JR := @_root_.Nat.div_le_div_right
def JS := @_root_.List.set_append_left
def JU := @_root_.List.mem_of_getElem?
def JV := @_root_.List.drop_left
def Lp := @_root_.Go.Proofs.Tryz.underlying71
def Lu := @_root_.Go.Proofs.Tryz.isAgg3
def Lv := @_root_.Go.RowKit.Below.trans
def Lx := @_root_.Go.Proofs.Tryz.ntmps257
def LA := @_root_.Go.Proofs.Tryz.ntmps256
def LB := @_root_.List.getElem?_range
def LC := @_root_.List.flatten_append
def LD := @_root_.Array.toList_append
def Oj := @_root_.Go.grownCap_ge
def Ol := @_root_.Go.cell_of_row
def Om := @_root_.ByteArray.ext
def Ot := @_root_.Go.wpS_seq
def Ou := @_root_.Go.wpOp_mono
def Ov := @_root_.Int.emod_lt_of_pos
def Ow := @_root_.Array.ext'
def PL := @_root_.Go.run_firstCells_some
def PN := @_root_.List.set_eq_take_append_cons_drop
def Qi := @_root_.Go.callsD_of_wpS
def Qj := @_root_.Go.Proofs.Tryz.sizeOf9
def Qk := @_root_.Go.Proofs.Tryz.sizeOf4
def Ql := @_root_.Go.Proofs.Tryz.func257
def Qm := @_root_.Go.Proofs.Tryz.func256
def Qn := @_root_.Go.Proofs.Tryz.func243
def Qo := @_root_.Nat.succ_mul
def Qp := @_root_.Nat.pow_succ
def Qq := @_root_.List.flatten_cons
def RA := @_root_.Go.World.ownsMap.drew
def RB := @_root_.Go.Proofs.Tryz.zeroValue5
def RF := @_root_.Option.getD_some
def RG := @_root_.List.getElem_inj
def RH := @_root_.List.any_eq_true
def Td := @_root_.Go.wp_scope_straight
def Te := @_root_.Go.DataW.trod_struct
def Stop (p:Prop):Prop:=p
theorem Stop.of {p:Prop}(h:Stop p):p:=h
theorem Stop.on {p:Prop}(h:p):Stop p:=h
structure Keep (M:Nat->Prop)(w w':World):Prop where
 os:w'.os=w.os
 tape:w'.tape=w.tape
 output:w'.output=w.output
 size:w.heap.size<=w'.heap.size
 block:∀k,k<w.heap.size->¬M k->w'.heap[k]? =w.heap[k]?
theorem Keep.refl (M:Nat->Prop)(w:World):Keep M w w:=⟨rfl,rfl,rfl,ax _,fun _ _ _=>rfl⟩
theorem Keep.trans {M M':Nat->Prop}{a b c:World}(h:Keep M a b)(k:Keep M' b c)(hm:∀i,i<a.heap.size->M' i->M i):Keep M a c:=
 ⟨k.os.trans h.os,k.tape.trans h.tape,k.output.trans h.output,aI h.size k.size,
  fun i hi hn=>(k.block i (ak hi h.size) (fun x=>hn (hm i hi x))).trans (h.block i hi hn)⟩
theorem Keep.mono {M M':Nat->Prop}{a b:World}(h:Keep M a b)(hm:∀i,i<a.heap.size->M i->M' i):Keep M' a b:=
 ⟨h.os,h.tape,h.output,h.size,fun i hi hn=>h.block i hi (fun x=>hn (hm i hi x))⟩
theorem Keep.alloc {M:Nat->Prop}{a w:World}(h:Keep M a w)(o:Obj):Keep M a (w.alloc o):=
 ⟨h.os,h.tape,h.output,aI h.size (by simp),fun k hk hn=>(oG w o k (ak hk h.size)).trans (h.block k hk hn)⟩
theorem Keep.drew {M:Nat->Prop}{a w:World}(h:Keep M a w):Keep M a w.drew:=⟨h.os,h.tape,h.output,h.size,h.block⟩
theorem Keep.setCell {M:Nat->Prop}{a w:World}(h:Keep M a w){p:Addr}(hp:a.heap.size<=p.block\/M p.block)(u:Value):Keep M a (w.setCell p u):=
 ⟨h.os,h.tape,h.output,aI h.size (by simp),fun k hk hn=>(Below.heap_setCell w p u k (by rintro rfl;exact hp.elim (fun x=>absurd hk (bE.2 x)) hn)).trans (h.block k hk hn)⟩
theorem Keep.of_below {w w':World}(h:Below w.heap.size w w')(M:Nat->Prop):Keep M w w':=
 ⟨h.os,h.tape,h.output,h.size,fun k hk _=>h.block k hk⟩
theorem Keep.below {w w':World}(h:Keep (fun _=>False) w w'):Below w.heap.size w w':=
 ⟨h.os,h.tape,h.output,h.size,fun k hk=>h.block k hk id⟩
theorem Keep.fP {M:Nat->Prop}{a b:World}(h:Keep M a b){B:Nat}(hB:B<=a.heap.size)(hM:∀i,i<B->¬M i):Below B a b:=
 ⟨h.os,h.tape,h.output,h.size,fun k hk=>h.block k (ak hk hB) (hM k hk)⟩
theorem Keep.grown {M:Nat->Prop}{a w w':World}{row:Option Nat}(h:Keep M a w)(hg:w.grownBy w' row)(hr:∀k,row=some k->a.heap.size<=k\/M k):Keep M a w':=
 ⟨hg.os.trans h.os,hg.tape.trans h.tape,hg.output.trans h.output,aI h.size hg.size,
  fun k hk hn=>(hg.block k (ak hk h.size) (fun e=>(hr k e.symm).elim (fun x=>absurd hk (bE.2 x)) hn)).trans (h.block k hk hn)⟩
theorem Keep.cell {M:Nat->Prop}{w w':World}(h:Keep M w w'){p:Addr}(hp:p.block<w.heap.size)(hn:¬M p.block):w'.cell? p=w.cell? p:=
 mo (w:=w) (h.block p.block hp hn)
theorem Keep.frozen {M:Nat->Prop}{w w':World}(h:Keep M w w'){p:Addr}(hp:p.block<w.heap.size)(hn:¬M p.block):w'.frozen? p=w.frozen? p:=
 World.frozen?_of_block (w:=w) (h.block p.block hp hn)
def gJ:Nat->Prop:=fun _=>False
def Step (S S':Nat->Prop)(w w':World):Prop:=Keep S w w'/\∀g,S' g->S g\/w.heap.size<=g
theorem Step.refl (S:Nat->Prop)(w:World):Step S S w w:=⟨Keep.refl _ _,fun _ h=> .inl h⟩
theorem Step.trans {S S' S'':Nat->Prop}{a b c:World}(h:Step S S' a b)(k:Step S' S'' b c):Step S S'' a c:=
 ⟨h.1.trans k.1 fun i hi hs=>(h.2 i hs).elim id (fun x=>absurd hi (bE.2 x)),
  fun g hg=>(k.2 g hg).elim (fun x=>h.2 g x) (fun x=> .inr (aI h.1.size x))⟩
theorem Step.of_below {S:Nat->Prop}{w w':World}(h:Below w.heap.size w w'):Step S S w w':=⟨Keep.of_below h S,fun _ h=> .inl h⟩
def bn (w:World)(S:Nat->Prop)(k:Nat)(v:Value)(n:Nat)(xs:List Value):Prop:=
 ∃ao c,v= .slice ao n c/\n<=c/\c<=maxLen/\xs.length=n*k/\(ao=none->n=0/\c=0)/\(∀ad,ao=some ad->ad.spot=none/\ad.block<w.heap.size/\¬S ad.block)/\
  ∀j u,xs[j]? =some u->∃b o,ao=some ⟨b,o,none⟩/\w.cell? ⟨b,o+j,none⟩=some u
theorem bn.keep {w w':World}{S S':Nat->Prop}{k n:Nat}{v:Value}{xs:List Value}(h:bn w S k v n xs)
  (hb:∀g,v.ownBlock=some g->g<w.heap.size->¬S g->w'.heap[g]? =w.heap[g]?/\¬S' g):bn w' S' k v n xs:=by
 obtain⟨ao,c,rfl,h1,h2,h3,h4,h5,h6⟩:=h
 refine⟨ao,c,rfl,h1,h2,h3,h4,fun ad had=> ?_,fun j u hu=> ?_⟩
 ·have:=h5 ad had
  have hq:=hb ad.block (by rw[had];rfl) this.2.1 this.2.2
  refine⟨this.1,?_,hq.2⟩
  exact(ah.1 (hq.1.trans (Array.getElem?_eq_getElem this.2.1))).1
 ·obtain⟨b,o,rfl,hc⟩:=h6 j u hu
  have:=h5 _ rfl
  exact⟨b,o,rfl,(mo (w:=w) (a:=⟨b,o+j,none⟩) (hb b rfl this.2.1 this.2.2).1).trans hc⟩
theorem bn.step {w w':World}{S S':Nat->Prop}{k n:Nat}{v:Value}{xs:List Value}(h:bn w S k v n xs)(hs:Step S S' w w'):bn w' S' k v n xs:=
 h.keep fun g _ hl hn=>⟨hs.1.block g hl hn,fun x=>(hs.2 g x).elim hn (fun y=>absurd hl (bE.2 y))⟩
theorem bn.below {w w':World}{S:Nat->Prop}{k n:Nat}{v:Value}{xs:List Value}(h:bn w S k v n xs)(hs:Below w.heap.size w w'):bn w' S k v n xs:=
 h.step (Step.of_below hs)
theorem bn.nil (w:World)(S:Nat->Prop)(k:Nat):bn w S k (.slice none 0 0) 0 []:=
 ⟨none,0,rfl,ax _,bf _,by simp,fun _=>⟨rfl,rfl⟩,(fun _ h=>by cases h),(fun j u h=>by simp at h)⟩
theorem bn.form {w:World}{S:Nat->Prop}{k n:Nat}{v:Value}{xs:List Value}(h:bn w S k v n xs):
  ∃ao c,v= .slice ao n c/\n<=c/\c<=9223372036854775807/\(n=0\/∃b o,ao=some ⟨b,o,none⟩)/\(ao=none->c=0):=by
 obtain⟨ao,c,rfl,h1,h2,h3,h4,h5,h6⟩:=h
 refine⟨ao,c,rfl,h1,by simpa [maxLen] using h2,?_,fun h=>(h4 h).2⟩
 rcases ao with _|⟨b,o,sp⟩
 ·exact .inl (h4 rfl).1
 ·obtain rfl:sp=none:=(h5 _ rfl).1
  exact .inr ⟨b,o,rfl⟩
theorem bn.upto {w:World}{S:Nat->Prop}{k n c:Nat}{ao:Option Addr}{xs:List Value}(h:bn w S k (.slice ao n c) n xs)(j:Nat)(hj:j<=n):bn w S k (.slice ao j c) j (xs.take (j*k)):=by
 obtain⟨ao',c',hv,h1,h2,h3,h4,h5,h6⟩:=h
 cases hv
 refine⟨ao,c,rfl,by omega,h2,by rw[aC,h3];exact bq (bQ _ hj),fun e=>⟨by have:=(h4 e).1;omega,(h4 e).2⟩,h5,fun i u hu=> ?_⟩
 rw[jd] at hu
 split at hu
 ·exact h6 i u hu
 ·cases hu
theorem bn.after {w:World}{S:Nat->Prop}{k n c:Nat}{ao:Option Addr}{xs:List Value}(h:bn w S k (.slice ao n c) n xs)(i:Nat)(hi:i<=n):
  bn w S k (.slice (if c=i then ao else ao.map fun x=>x.add (i*k)) (n - i) (c - i)) (n - i) (xs.drop (i*k)):=by
 obtain⟨ao',c',hv,h1,h2,h3,h4,h5,h6⟩:=h
 cases hv
 have hlen:(xs.drop (i*k)).length=(n - i)*k:=by rw[aJ,h3,Nat.sub_mul]
 by_cases hc:c=i
 ·rw[if_pos hc]
  have e:xs.drop (i*k)=[]:=aR (by rw[hlen,show n - i=0 by omega,xX])
  refine⟨ao,c - i,rfl,by omega,by omega,hlen,fun e=>⟨by have:=(h4 e).1;omega,by have:=(h4 e).2;omega⟩,h5,fun j u hu=> ?_⟩
  rw[e] at hu;simp at hu
 ·rw[if_neg hc]
  refine⟨_,c - i,rfl,by omega,by omega,hlen,fun e=> ?_,fun ad had=> ?_,fun j u hu=> ?_⟩
  ·cases ao with
   |none=>have:=h4 rfl;omega
   |some ad=>cases e
  ·cases ao with
   |none=>cases had
   |some a0=>
    have:=h5 a0 rfl
    obtain⟨b,o,sp⟩:=a0
    cases had
    have hs:sp=none:=this.1
    subst hs
    simp only[fZ]
    exact⟨trivial,this.2⟩
  ·rw[List.getElem?_drop] at hu
   obtain⟨b,o,e,hc⟩:=h6 _ u hu
   subst e
   refine⟨b,o+i*k,by simp[fZ],?_⟩
   rw[lY];exact hc
theorem bn.Bt {w:World}{S:Nat->Prop}{v:Value}{n:Nat}{xs:List Value}(h:bn w S 1 v n xs){ao:Option Addr}{n' c:Nat}(hv:v= .slice ao n' c)(i:Nat)(u:Value)(hu:xs[i]? =some u):
  ∃b o,ao=some ⟨b,o,none⟩/\w.cell? ⟨b,o+i,none⟩=some u:=by
 obtain⟨ao',c',rfl,_,_,_,_,_,h6⟩:=h
 cases hv
 exact h6 _ _ hu
def aP (w:World)(S:Nat->Prop)(B e k:Nat)(v:Value)(n:Nat)(xs:List Value):Prop:=
 w.ownsRow B e k v n xs/\∀g,v.ownBlock=some g->¬S g
theorem aP.cZ {w:World}{S:Nat->Prop}{B e k n:Nat}{v:Value}{xs:List Value}(h:aP w S B e k v n xs):bn w S k v n xs:=by
 obtain⟨⟨hl,hr⟩,hn⟩:=h
 rcases hr with ⟨rfl,rfl⟩|⟨g,cap,cur,rfl,_,hg,h1,h2,h3,h4⟩
 ·have:xs=[]:=aR (by simpa using hl)
  subst this;exact bn.nil _ _ _
 ·refine⟨_,cap,rfl,h1,h2,hl,by simp,fun ad had=> ?_,fun j u hu=>⟨g,0,rfl,?_⟩⟩
  ·cases had;exact⟨rfl,(ah.1 hg).1,hn g rfl⟩
  ·have hj:=(bT.1 hu).1
   rw[eG]
   rw[Ol w g j cur e (0,0) hg]
   rw[<-h4,jd] at hu
   split at hu
   ·simpa using hu
   ·cases hu
theorem aP.nil (w:World)(S:Nat->Prop)(B e k:Nat):aP w S B e k (.slice none 0 0) 0 []:=⟨World.ownsRow_nil w B e k,by simp[Value.ownBlock]⟩
theorem aP.keep {w w':World}{S S':Nat->Prop}{B e k n:Nat}{v:Value}{xs:List Value}(h:aP w S B e k v n xs)
  (hb:∀g,v.ownBlock=some g->g<w.heap.size->¬S g->w'.heap[g]? =w.heap[g]?/\¬S' g):aP w' S' B e k v n xs:=by
 obtain⟨⟨hl,hr⟩,hn⟩:=h
 rcases hr with ⟨rfl,rfl⟩|⟨g,cap,cur,rfl,h0,hg,h1⟩
 ·exact⟨⟨hl,.inl ⟨rfl,rfl⟩⟩,by simp[Value.ownBlock]⟩
 ·have:=hb g rfl (ah.1 hg).1 (hn g rfl)
  exact⟨⟨hl,.inr ⟨g,cap,cur,rfl,h0,this.1.trans hg,h1⟩⟩,fun g' hg'=>by cases hg';exact this.2⟩
theorem aP.lt {w:World}{S:Nat->Prop}{B e k n:Nat}{v:Value}{xs:List Value}(h:aP w S B e k v n xs):v.ownBlock≠some w.heap.size:=fun e=>absurd (h.1.lt _ e).2 (di _)
theorem aP.lt' {w:World}{S:Nat->Prop}{B e k n:Nat}{v:Value}{xs:List Value}(h:aP w S B e k v n xs){g:Nat}(hg:w.heap.size<=g):v.ownBlock≠some g:=fun e=>absurd (h.1.lt _ e).2 (bE.2 hg)
theorem aP.drew {w:World}{S:Nat->Prop}{B e k n:Nat}{v:Value}{xs:List Value}(h:aP w S B e k v n xs):aP w.drew S B e k v n xs:=h
theorem aP.step {w w':World}{S S':Nat->Prop}{B e k n:Nat}{v:Value}{xs:List Value}(h:aP w S B e k v n xs)(hs:Step S S' w w'):aP w' S' B e k v n xs:=
 h.keep fun g _ hl hn=>⟨hs.1.block g hl hn,fun x=>(hs.2 g x).elim hn (fun y=>absurd hl (bE.2 y))⟩
theorem aP.below {w w':World}{S:Nat->Prop}{B e k n:Nat}{v:Value}{xs:List Value}(h:aP w S B e k v n xs)(hs:Below w.heap.size w w'):aP w' S B e k v n xs:=
 h.step (Step.of_below hs)
theorem bn.src {P:Program}{w:World}{S:Nat->Prop}{k n:Nat}{v:Value}{xs:List Value}(h:bn w S k v n xs){tx e':TypeId}(hk:P.underlying tx=some (.slice e'))(h1:∀u∈xs,u.oneCell'=true):Src P k tx v n xs w:=by
 obtain⟨ao,c,rfl,_,_,h3,h4,h5,h6⟩:=h
 cases ao with
 |none=>
  obtain⟨rfl,rfl⟩:=h4 rfl
  have:xs=[]:=aR (by simpa using h3)
  subst this
  exact Src.ofNil w hk 0
 |some ad=>
  obtain⟨b,o,sp⟩:=ad
  obtain rfl:sp=none:=(h5 _ rfl).1
  refine Src.ofSlice w hk ⟨b,o,none⟩ n c xs h3 (fun j u hu=> ?_) h1
  obtain⟨b',o',e,hc⟩:=h6 j u hu
  cases e
  rw[fZ];exact hc
theorem gY {P:Program}{w:World}(cs:List Value)(T k n c:Nat){tx e':TypeId}{g:Nat}(hg:w.heap.size=g)(hk:P.underlying tx=some (.slice e'))(hl:cs.length=n*k)(h1:∀u∈cs,u.oneCell'=true):
  Src P k tx (.slice (some ⟨g,0,none⟩) n c) n cs (w.alloc (.cells cs.toArray T)):=by
 subst hg
 refine Src.ofSlice _ hk _ n c cs hl (fun j u hu=> ?_) h1
 rw[fZ,eG,oJ]
 simpa using hu
theorem mq {w:World}{S:Nat->Prop}{B e k:Nat}(cs:List Value)(n c:Nat){g:Nat}(hg:w.heap.size=g)(hl:cs.length=c*k)(hnc:n<=c)(hc:c<=maxLen)(hB:B<=w.heap.size)(hS:∀g,S g->g<w.heap.size):
  aP (w.alloc (.cells cs.toArray e)) S B e k (.slice (some ⟨g,0,none⟩) n c) n (cs.take (n*k)):=by
 subst hg
 refine⟨⟨?_,.inr ⟨_,c,_,rfl,hB,aK w _,hnc,hc,by simpa using hl,rfl⟩⟩,fun g hg hs=> ?_⟩
 ·rw[aC,hl];exact bq (bQ _ hnc)
 ·cases hg;exact absurd (hS _ hs) (di _)
theorem fq {S:Nat->Prop}{w:World}(h:∀g,S g->g<w.heap.size)(o:Obj):∀g,S g->g<(w.alloc o).heap.size:=fun g hg=>by
 rw[aV];exact BF (h g hg)
theorem yt {S:Nat->Prop}{w w':World}{B:Nat}(h:∀g,S g->g<w.heap.size)(hb:Below B w w'):∀g,S g->g<w'.heap.size:=fun g hg=>ak (h g hg) hb.size
theorem aF (w:World)(o:Obj):Below w.heap.size w (w.alloc o):=(aO _ _).alloc (ax _) _
theorem gy (w:World)(o o':Obj):Below w.heap.size w ((w.alloc o).alloc o'):=(aF w o).alloc (by simp) _
theorem Gq (w:World)(o o' o'':Obj):Below w.heap.size w (((w.alloc o).alloc o').alloc o''):=(gy w o o').alloc (by simp;omega) _
section
variable {P:Program}
theorem OO (w:World)(S:Nat->Prop)(B:Nat)(t tx ty e:TypeId)(i:TypeInfo)(z:Value)(k bytes:Nat)(ht:P.underlying t=some (.slice e))(hi:P.info? e=some i)(hz:i.zero=some z)
  (hsize:i.size=k) (hby:i.bytes=bytes) (hzs:z.cells.size=k)
  (v:Value) (n:Nat) (xs:List Value) (hown:aP w S B e k v n xs) (x:Value) (m:Nat) (news:List Value) (hs:Src P k tx x m news w)
  (hS:∀g,S g->g<w.heap.size) (hbase:B<=w.heap.size) (h63:n+m<=maxLen) (hbytes:(n+m)*bytes<=140737488355328):
  ∃ao c w',(Builtin.append_ #[t,tx] ty #[v,x]).run P w= .ok (.slice ao (n+m) c) w'/\aP w' S B e k (.slice ao (n+m) c) (n+m) (xs++news)/\Keep (fun g=>v.ownBlock=some g) w w'/\Below B w w'/\
   (∀g,g<w.heap.size->v.ownBlock≠some g->(Value.slice ao (n+m) c).ownBlock≠some g):=by
 suffices hsuf:∃ao c w',(Builtin.append_ #[t,tx] ty #[v,x]).run P w= .ok (.slice ao (n+m) c) w'/\aP w' S B e k (.slice ao (n+m) c) (n+m) (xs++news)/\Keep (fun g=>v.ownBlock=some g) w w'/\
   ((Value.slice ao (n+m) c).ownBlock=v.ownBlock\/∃g,ao=some ⟨g,0,none⟩/\w.heap.size<=g) by
  obtain⟨ao,c,w',h1,h2,h3,h4⟩:=hsuf
  exact⟨ao,c,w',h1,h2,h3,⟨h3.os,h3.tape,h3.output,h3.size,fun g hg=>h3.block g (ak hg hbase) (fun e=>absurd (hown.1.lt g e).1 (fE.2 hg))⟩,fun g hg hne=>h4.elim (fun e=>e▸hne) (fun ⟨g',e,hge⟩=>by rw[e];intro e';cases e';exact absurd hg (bE.2 hge))⟩
 subst hsize
 subst hby
 have hsmall:n+m<=9223372036854775807:=by simp only[maxLen] at h63;omega
 have hlen:(xs++news).length=(n+m)*i.size:=by rw[av,hown.1.1,hs.newsLen,dX]
 have grown:∀(old:Nat),old<n+m->
   aP (w.drew.alloc (.cells ((xs++news).toArray++Builtin.zeroCells z.cells (grownCap w (n+m) old e - (n+m))) e)) S B e i.size
    (.slice (some ⟨w.heap.size,0,none⟩) (n+m) (grownCap w (n+m) old e)) (n+m) (xs++news)/\
   Keep (fun g=>v.ownBlock=some g) w (w.drew.alloc (.cells ((xs++news).toArray++Builtin.zeroCells z.cells (grownCap w (n+m) old e - (n+m))) e)):=by
  intro old ho
  have hge:=Oj w (n+m) old e
  have hcm:grownCap w (n+m) old e<=maxLen:=rU w (n+m) old e h63
  refine⟨⟨⟨hlen,.inr ⟨w.heap.size,_,_,rfl,hbase,aK w.drew _,hge,hcm,?_,?_⟩⟩,fun g hg hh=> ?_⟩,(Keep.refl _ w).drew.alloc _⟩
  ·simp only[Array.size_append,oC,hlen,BB,hzs,<-dX]
   congr 1
   omega
  ·simp only[LD]
   rw[<-hlen]
   exact iQ
  ·cases hg;exact absurd (hS _ hh) (di _)
 rcases hown.1.2 with ⟨rfl,rfl⟩|⟨g,cap,cur,rfl,hbg,hg,hnc,hcm,hcs,htake⟩
 ·have hx:xs=[]:=aR (by simpa using hown.1.1)
  subst hx
  by_cases hm:m=0
  ·subst hm
   have hn:news=[]:=aR (by simpa using hs.newsLen)
   subst hn
   refine⟨none,0,w,?_,aP.nil w S B e i.size,Keep.refl _ _,.inl rfl⟩
   rcases hs.kind with ⟨e',hk⟩|hk<;>simp[Builtin.append_,fG ht,fG hk,sizeOf,typeInfo,hi,hs.len,hs.cells]
  ·have hr:=qG (P:=P) w t tx ty e i z ht hi hz none 0 0 [] (run_firstCells_none w.drew i.size 0 0 0) x m news hs (by omega) (by omega) (um (by omega) hbytes)
   have hgr:=grown 0 (by omega)
   exact⟨_,_,_,hr,hgr.1,hgr.2,.inr ⟨_,rfl,ax _⟩⟩
 ·by_cases hroom:n+m<=cap
  ·have hfit:n*i.size+news.length<=cur.size:=by rw[hs.newsLen,hcs,<-dX];exact bQ _ hroom
   have hst:=run_storeCells_at P g (n*i.size) e news 0 cur w hg (by simpa using hfit) hs.one
   simp only[iW] at hst
   refine⟨some ⟨g,0,none⟩,cap,w.setRow g (cur.toList.take (n*i.size)++news++cur.toList.drop (n*i.size+news.length)).toArray,?_,⟨⟨hlen,.inr ⟨g,cap,_,rfl,hbg,setRow_heap w g cur _ e _ hg,hroom,hcm,?_,?_⟩⟩,hown.2⟩,
    ⟨rfl,rfl,rfl,by simp,fun k' _ hk=>setRow_other w g k' _ (fun e=>hk (by simp[Value.ownBlock,e]))⟩,.inl rfl⟩
   ·rcases hs.kind with ⟨e',hk⟩|hk<;>simp[Builtin.append_,fG ht,fG hk,sizeOf,typeInfo,hi,hs.len,hroom,hs.cells,fZ,hst]
   ·simp only[oC,av,aC,aJ,jA]
    omega
   ·rw[htake,<-hlen]
    exact iQ
  ·have hold:(Builtin.firstCells i.size n (.slice (some ⟨g,0,none⟩) n cap)).run P w.drew= .ok xs.toArray w.drew:=
    PL w.drew i.size n ⟨g,0,none⟩ n cap xs hown.1.1 (fun j u hu=>by simpa using hown.1.cells (g:=g) rfl j u hu)
   have hr:=qG (P:=P) w t tx ty e i z ht hi hz (some ⟨g,0,none⟩) n cap xs hold x m news hs (by omega) (by omega) (um (by omega) hbytes)
   have hgr:=grown cap (by omega)
   exact⟨_,_,_,hr,hgr.1,hgr.2,.inr ⟨_,rfl,ax _⟩⟩
theorem mE {o:Oper}{a:Act}{w:World}{K:Act->World->Prop}{Q:Exit->Act->World->Prop}(s y:Operand)(t tx:TypeId)(ho:o.op= .call {callee:= .builtin .append,args:=#[s,y],argTypes:=#[t,tx]})
  (S:Nat->Prop) (B:Nat) (e:TypeId) (k bytes:Nat) (z:Value) (ht:P.underlying t=some (.slice e)) (hinfo:(P.info? e).map (fun i=>(i.zero,i.size,i.bytes))=some (some z,k,bytes)) (hzs:z.cells.size=k)
  (v:Value) (n:Nat) (xs:List Value) (hv:a.eval s=v) (hown:aP w S B e k v n xs) (x:Value) (m:Nat) (news:List Value) (hx:a.eval y=x) (hs:Src P k tx x m news w)
  (hS:∀g,S g->g<w.heap.size) (hbase:B<=w.heap.size) (h63:n+m<=maxLen) (hbytes:(n+m)*bytes<=140737488355328)
  (h:∀ao c w',aP w' S B e k (.slice ao (n+m) c) (n+m) (xs++news)->Keep (fun g=>v.ownBlock=some g) w w'->Below B w w'->
   (∀g,g<w.heap.size->v.ownBlock≠some g->(Value.slice ao (n+m) c).ownBlock≠some g)->K (a.put o.dst (.slice ao (n+m) c)) w'):o.wp P a w K Q:=by
 obtain⟨i,hi,hz,hsize,hby⟩:=vZ hinfo
 obtain⟨ao,c,w',hr,h2,h3,h3b,h4⟩:=OO (P:=P) w S B t tx o.type e i z k bytes ht hi hz hsize hby hzs v n xs hown x m news hs hS hbase h63 hbytes
 unfold Oper.wp execOp
 simp only[ho,resolve,invoke,builtin,jG,qg,gL,mR,cu,iq,hv,hx,hr]
 exact h ao c w' h2 h3 h3b h4
theorem dB {ops:Array Oper}{rest:List Oper}{o:Oper}{a:Act}{w:World}{Q:Exit->Act->World->Prop}(hgd:o.guard=none)(s y:Operand)(t tx:TypeId)(ho:o.op= .call {callee:= .builtin .append,args:=#[s,y],argTypes:=#[t,tx]})
  (S:Nat->Prop) (B:Nat) (e:TypeId) (k bytes:Nat) (z:Value) (ht:P.underlying t=some (.slice e)) (hinfo:(P.info? e).map (fun i=>(i.zero,i.size,i.bytes))=some (some z,k,bytes)) (hzs:z.cells.size=k)
  (v:Value) (n:Nat) (xs:List Value) (hv:a.eval s=v) (hown:aP w S B e k v n xs) (x:Value) (m:Nat) (news:List Value) (hx:a.eval y=x) (hs:Src P k tx x m news w)
  (hS:∀g,S g->g<w.heap.size) (hbase:B<=w.heap.size) (h63:n+m<=maxLen) (hbytes:(n+m)*bytes<=140737488355328)
  (h:∀ao c w',aP w' S B e k (.slice ao (n+m) c) (n+m) (xs++news)->Keep (fun g=>v.ownBlock=some g) w w'->Below B w w'->
   (∀g,g<w.heap.size->v.ownBlock≠some g->(Value.slice ao (n+m) c).ownBlock≠some g)->wpList P ops Q rest (a.put o.dst (.slice ao (n+m) c)) w'):wpList P ops Q (o::rest) a w:=
 wpList_plain hgd fun _ hK=>mE s y t tx ho S B e k bytes z ht hinfo hzs v n xs hv hown x m news hx hs hS hbase h63 hbytes fun ao c w' h2 h3 h3b h4=>hK _ _ (h ao c w' h2 h3 h3b h4)
theorem EP {ops:Array Oper}{o:Oper}{a:Act}{w:World}{K:Act->World->Prop}{Q:Exit->Act->World->Prop}{E:Prop}(hgd:o.guard=none)(s y:Operand)(t tx:TypeId)(ho:o.op= .call {callee:= .builtin .append,args:=#[s,y],argTypes:=#[t,tx]})
  (S:Nat->Prop) (B:Nat) (e:TypeId) (k bytes:Nat) (z:Value) (ht:P.underlying t=some (.slice e)) (hinfo:(P.info? e).map (fun i=>(i.zero,i.size,i.bytes))=some (some z,k,bytes)) (hzs:z.cells.size=k)
  (v:Value) (n:Nat) (xs:List Value) (hv:a.eval s=v) (hown:aP w S B e k v n xs) (x:Value) (m:Nat) (news:List Value) (hx:a.eval y=x) (hs:Src P k tx x m news w)
  (hS:∀g,S g->g<w.heap.size) (hbase:B<=w.heap.size) (h63:n+m<=maxLen) (hbytes:(n+m)*bytes<=140737488355328)
  (h:∀ao c w',aP w' S B e k (.slice ao (n+m) c) (n+m) (xs++news)->Keep (fun g=>v.ownBlock=some g) w w'->Below B w w'->
   (∀g,g<w.heap.size->v.ownBlock≠some g->(Value.slice ao (n+m) c).ownBlock≠some g)->K (a.put o.dst (.slice ao (n+m) c)) w'):
  if Region.wanted o (yielded ops a.tmps)=true then Oper.wp P o a w K Q else E:=by
 have hw:Region.wanted o (yielded ops a.tmps)=true:=by simp[Region.wanted,hgd]
 rw[if_pos hw]
 exact mE s y t tx ho S B e k bytes z ht hinfo hzs v n xs hv hown x m news hx hs hS hbase h63 hbytes h
end
def dN (ps:List (ByteArray×ByteArray)):List Value:=ps.flatMap fun p=>[.string p.1,.string p.2]
theorem kP (p:ByteArray×ByteArray)(ps:List (ByteArray×ByteArray)):dN (p::ps)= .string p.1:: .string p.2::dN ps:=rfl
theorem Ff (ps:List (ByteArray×ByteArray)):∀i (h:i<ps.length),(dN ps)[i*2]? =some (.string ps[i].1)/\(dN ps)[i*2+1]? =some (.string ps[i].2):=by
 induction ps with
 |nil=>intro i h;exact absurd h (by simp)
 |cons p ps ih=>
  intro i h
  cases i with
  |zero=>simp[kP]
  |succ i=>
   have:=ih i (by simpa using h)
   rw[kP]
   refine⟨?_,?_⟩
   ·have e:(i+1)*2=i*2+1+1:=by omega
    rw[e,dS,dS];exact this.1
   ·have e:(i+1)*2+1=(i*2+1)+1+1:=by omega
    rw[e,dS,dS];exact this.2
theorem ni (a b:List (ByteArray×ByteArray)):dN (a++b)=dN a++dN b:=by simp[dN]
def aD (l:List UInt8):List Value:=l.map fun b=> .int .u8 (b.toNat:Int)
theorem gI (a b:List UInt8):aD (a++b)=aD a++aD b:=by simp[aD]
theorem bH (l:List UInt8):(aD l).length=l.length:=by simp[aD]
theorem xK (s:ByteArray):byteCells s=aD s.data.toList:=rfl
def nN (w:World)(S:Nat->Prop)(v:Value)(ps:List (ByteArray×ByteArray)):Prop:=bn w S 2 v ps.length (dN ps)
def iL (w:World)(S:Nat->Prop)(v:Value)(ss:List ByteArray):Prop:=bn w S 1 v ss.length (ss.map .string)
def jq (w:World)(S:Nat->Prop)(v:Value)(zs:List Int):Prop:=bn w S 1 v zs.length (zs.map (.int .i64))
def ji (w:World)(S:Nat->Prop)(v:Value)(l:List UInt8):Prop:=bn w S 1 v l.length (aD l)
theorem jq.at {w:World}{S:Nat->Prop}{v:Value}{zs:List Int}{ao:Option Addr}{n c:Nat}(h:jq w S v zs)(hv:v= .slice ao n c)(i:Nat)(hi:i<zs.length):
  ∃b o,ao=some ⟨b,o,none⟩/\w.cell? ⟨b,o+i,none⟩=some (.int .i64 zs[i]):=bn.Bt h hv i _ (by simp[hi])
theorem iL.at {w:World}{S:Nat->Prop}{v:Value}{ss:List ByteArray}{ao:Option Addr}{n c:Nat}(h:iL w S v ss)(hv:v= .slice ao n c)(i:Nat)(hi:i<ss.length):
  ∃b o,ao=some ⟨b,o,none⟩/\w.cell? ⟨b,o+i,none⟩=some (.string ss[i]):=bn.Bt h hv i _ (by simp[hi])
theorem ji.at {w:World}{S:Nat->Prop}{v:Value}{l:List UInt8}{ao:Option Addr}{n c:Nat}(h:ji w S v l)(hv:v= .slice ao n c)(i:Nat)(hi:i<l.length):
  ∃b o,ao=some ⟨b,o,none⟩/\w.cell? ⟨b,o+i,none⟩=some (.int .u8 (l[i].toNat:Int)):=bn.Bt h hv i _ (by simp[aD,hi])
theorem nN.at {w:World}{S:Nat->Prop}{v:Value}{ps:List (ByteArray×ByteArray)}{ao:Option Addr}{n c:Nat}(h:nN w S v ps)(hv:v= .slice ao n c)(i:Nat)(hi:i<ps.length):
  ∃b o,ao=some ⟨b,o,none⟩/\w.cell? ⟨b,o+i*2,none⟩=some (.string ps[i].1)/\w.cell? ⟨b,o+i*2+1,none⟩=some (.string ps[i].2):=by
 obtain⟨ao',c',rfl,_,_,_,_,_,h6⟩:=h
 cases hv
 have hg:=Ff ps i hi
 obtain⟨b,o,e,h1⟩:=h6 _ _ hg.1
 obtain⟨b',o',e',h2⟩:=h6 _ _ hg.2
 rw[e] at e';cases e'
 exact⟨b,o,e,h1,h2⟩
theorem nu (ss:List ByteArray):∀u∈ss.map Value.string,u.oneCell'=true:=by
 intro u hu;obtain⟨_,_,rfl⟩:=d9.1 hu;rfl
theorem gQ (l:List UInt8):∀u∈aD l,u.oneCell'=true:=by
 intro u hu;obtain⟨_,_,rfl⟩:=d9.1 hu;rfl
theorem DZ (ps:List (ByteArray×ByteArray)):∀u∈dN ps,u.oneCell'=true:=by
 intro u hu
 obtain⟨p,_,hp⟩:=uS.1 hu
 simp at hp;rcases hp with rfl|rfl<;>rfl
def Row (w:World)(g e:Nat)(cur:List Value):Prop:=w.heap[g]? =some (.cells cur.toArray e (0,0))
theorem Row.lt {w:World}{g e:Nat}{cur:List Value}(h:Row w g e cur):g<w.heap.size:=(ah.1 h).1
theorem Row.cell {w:World}{g e:Nat}{cur:List Value}(h:Row w g e cur)(j:Nat):w.cell? ⟨g,j,none⟩=cur[j]? :=by
 have:=Ol w g j cur.toArray e (0,0) h
 simpa using this
theorem Row.frozen {w:World}{g e:Nat}{cur:List Value}(h:Row w g e cur)(j:Nat):w.frozen? ⟨g,j,none⟩=false:=by
 unfold Row at h;simp[World.frozen?,h]
theorem Row.keep {w w':World}{g e:Nat}{cur:List Value}{M:Nat->Prop}(h:Row w g e cur)(k:Keep M w w')(hM:¬M g):Row w' g e cur:=(k.block g h.lt hM).trans h
theorem aP.row {w:World}{S:Nat->Prop}{B e k n g cap:Nat}{xs:List Value}(h:aP w S B e k (.slice (some ⟨g,0,none⟩) n cap) n xs):
  ∃cur,Row w g e cur/\cur.length=cap*k/\cur.take (n*k)=xs/\B<=g/\¬S g/\n<=cap/\cap<=maxLen:=by
 obtain⟨⟨hl,hr⟩,hn⟩:=h
 rcases hr with ⟨h,_⟩|⟨g',cap',cur,hv,hB,hg,h1,h2,h3,h4⟩
 ·cases h
 ·cases hv
  exact⟨cur.toList,hg,by simpa using h3,h4,hB,hn g rfl,h1,h2⟩
theorem aP.ne {w:World}{S:Nat->Prop}{B e k n b t:Nat}{v:Value}{xs:List Value}{cs:Array Value}{fr:Nat×Nat}(h:aP w S B e k v n xs)(hb:w.heap[b]? =some (.cells cs t fr))(ht:t≠e):v.ownBlock≠some b:=by
 intro e1
 rcases h.1.2 with ⟨rfl,_⟩|⟨g,cap,cur,rfl,_,hg,_⟩
 ·cases e1
 ·cases e1
  rw[hg] at hb;cases hb;exact ht rfl
theorem Row.own {w:World}{S:Nat->Prop}{B e k g cap:Nat}{cur:List Value}(h:Row w g e cur)(n:Nat)(hl:cur.length=cap*k)(hB:B<=g)(hS:¬S g)(hn:n<=cap)(hc:cap<=maxLen):
  aP w S B e k (.slice (some ⟨g,0,none⟩) n cap) n (cur.take (n*k)):=by
 refine⟨⟨?_,.inr ⟨g,cap,cur.toArray,rfl,hB,h,hn,hc,by simpa using hl,rfl⟩⟩,fun g' hg=>by cases hg;exact hS⟩
 rw[aC,hl];exact bq (bQ _ hn)
theorem Row.cZ {w:World}{S:Nat->Prop}{e k g off:Nat}{cur:List Value}(h:Row w g e cur)(n c:Nat)(hl:off+n*k<=cur.length)(hS:¬S g)(hn:n<=c)(hc:c<=maxLen):
  bn w S k (.slice (some ⟨g,off,none⟩) n c) n ((cur.drop off).take (n*k)):=by
 refine⟨_,c,rfl,hn,hc,?_,by simp,fun ad had=>by cases had;exact⟨rfl,h.lt,hS⟩,fun j u hu=>⟨g,off,rfl,?_⟩⟩
 ·rw[aC,aJ];omega
 ·rw[h.cell]
  rw[jd] at hu
  split at hu
  ·simpa using hu
  ·cases hu
theorem uE {α:Type}(A Y T news:List α)(off:Nat)(hA:A.length=off)(hY:Y.length=news.length):splice (A++(Y++T)) off news=A++(news++T):=by
 subst hA
 unfold splice
 rw[iQ,<-hY,<-aL A Y T,<-av,JV]
section
variable {P:Program}
theorem ng {w:World}{g e off:Nat}{cur:List Value}(h:Row w g e cur)(cs:List Value)(hfit:off+cs.length<=cur.length)(h1:∀v∈cs,v.oneCell'=true):
  ∃w',(storeCells ⟨g,off,none⟩ cs 0).run P w= .ok () w'/\Row w' g e (splice cur off cs)/\Keep (· =g) w w':=by
 have hst:=run_storeCells_at P g off e cs 0 cur.toArray w h (by simpa using hfit) h1
 simp only[iW] at hst
 refine⟨_,hst,?_,⟨rfl,rfl,rfl,by simp,fun k' _ hk=>setRow_other w g k' _ hk⟩⟩
 have:=setRow_heap w g cur.toArray (cur.toArray.toList.take off++cs++cur.toArray.toList.drop (off+cs.length)).toArray e (0,0) h
 unfold Row
 rw[this]
 simp[splice]
theorem MC {w:World}(t tx ty e:TypeId)(i:TypeInfo)(k:Nat)(ht:P.underlying t=some (.slice e))(hi:P.info? e=some i)(hk:i.size=k){g n cap e':Nat}{cur:List Value}(h:Row w g e' cur)
  (x:Value) (m:Nat) (news:List Value) (hs:Src P k tx x m news w) (hroom:n+m<=cap) (hfit:n*k+news.length<=cur.length):
  ∃w',(Builtin.append_ #[t,tx] ty #[.slice (some ⟨g,0,none⟩) n cap,x]).run P w= .ok (.slice (some ⟨g,0,none⟩) (n+m) cap) w'/\Row w' g e' (splice cur (n*k) news)/\Keep (· =g) w w':=by
 subst hk
 obtain⟨w',hst,h2,h3⟩:=ng (P:=P) h news hfit hs.one
 refine⟨w',?_,h2,h3⟩
 rcases hs.kind with ⟨e'',hk⟩|hk<;>simp[Builtin.append_,fG ht,fG hk,sizeOf,typeInfo,hi,hs.len,hroom,hs.cells,fZ,hst]
theorem zL {o:Oper}{a:Act}{w:World}{K:Act->World->Prop}{Q:Exit->Act->World->Prop}(s y:Operand)(t tx:TypeId)(ho:o.op= .call {callee:= .builtin .append,args:=#[s,y],argTypes:=#[t,tx]})
  (e k bytes:Nat) (z:Value) (ht:P.underlying t=some (.slice e)) (hinfo:(P.info? e).map (fun i=>(i.zero,i.size,i.bytes))=some (some z,k,bytes))
  (g n cap e':Nat) (cur:List Value) (hv:a.eval s= .slice (some ⟨g,0,none⟩) n cap) (hr:Row w g e' cur) (x:Value) (m:Nat) (news:List Value) (hx:a.eval y=x) (hs:Src P k tx x m news w)
  (hroom:n+m<=cap) (hfit:n*k+news.length<=cur.length)
  (h:∀w',Row w' g e' (splice cur (n*k) news)->Keep (· =g) w w'->K (a.put o.dst (.slice (some ⟨g,0,none⟩) (n+m) cap)) w'):o.wp P a w K Q:=by
 obtain⟨i,hi,hz,hsize,hby⟩:=vZ hinfo
 obtain⟨w',hrun,h2,h3⟩:=MC (P:=P) t tx o.type e i k ht hi hsize hr x m news hs hroom hfit
 unfold Oper.wp execOp
 simp only[ho,resolve,invoke,builtin,jG,qg,gL,mR,cu,iq,hv,hx,hrun]
 exact h w' h2 h3
theorem EW {w:World}(t tx ty e:TypeId)(i:TypeInfo)(k:Nat)(ht:P.underlying t=some (.slice e))(hi:P.info? e=some i)(hk:i.size=k){g off e' n dLen dCap:Nat}{dp:Option Addr}{cur:List Value}(h:Row w g e' cur)
  (x:Value) (m:Nat) (hlen:(Builtin.lenOf x).run P w= .ok m w) (hn:n=Nat.min m dLen) (cs:List Value) (hcl:cs.length=n*k) (hcs:(Builtin.firstCells k n x).run P w= .ok cs.toArray w)
  (hd:0<cs.length->dp=some ⟨g,off,none⟩) (hfit:off+cs.length<=cur.length) (h1:∀v∈cs,v.oneCell'=true):
  ∃w',(Builtin.copy_ #[t,tx] ty #[.slice dp dLen dCap,x]).run P w= .ok (goInt n) w'/\Row w' g e' (splice cur off cs)/\Keep (· =g) w w':=by
 subst hk
 subst hn
 by_cases h0:0<cs.length
 ·obtain rfl:=hd h0
  obtain⟨w',hst,h2,h3⟩:=ng (P:=P) h cs hfit h1
  refine⟨w',?_,h2,h3⟩
  simp[Builtin.copy_,fG ht,sizeOf,typeInfo,hi,hlen,hcs,hst]
 ·obtain rfl:cs=[]:=aR (by omega)
  refine⟨w,?_,by unfold Row at*;simpa [splice] using h,Keep.refl _ _⟩
  cases dp with
  |none=>simp[Builtin.copy_,fG ht,sizeOf,typeInfo,hi,hlen,hcs]
  |some ad=>simp[Builtin.copy_,fG ht,sizeOf,typeInfo,hi,hlen,hcs,storeCells]
theorem fO {o:Oper}{a:Act}{w:World}{K:Act->World->Prop}{Q:Exit->Act->World->Prop}(s y:Operand)(t tx:TypeId)(ho:o.op= .call {callee:= .builtin .copy,args:=#[s,y],argTypes:=#[t,tx]})
  (e k bytes:Nat) (z:Value) (ht:P.underlying t=some (.slice e)) (hinfo:(P.info? e).map (fun i=>(i.zero,i.size,i.bytes))=some (some z,k,bytes))
  (g off e' n dLen dCap:Nat) (dp:Option Addr) (cur:List Value) (hv:a.eval s= .slice dp dLen dCap) (hr:Row w g e' cur) (x:Value) (hx:a.eval y=x) (m:Nat) (cs:List Value)
  (hlen:(Builtin.lenOf x).run P w= .ok m w) (hn:n=Nat.min m dLen) (hcl:cs.length=n*k) (hcs:(Builtin.firstCells k n x).run P w= .ok cs.toArray w)
  (hd:0<cs.length->dp=some ⟨g,off,none⟩) (hfit:off+cs.length<=cur.length) (h1:∀v∈cs,v.oneCell'=true)
  (h:∀w',Row w' g e' (splice cur off cs)->Keep (· =g) w w'->K (a.put o.dst (goInt n)) w'):o.wp P a w K Q:=by
 obtain⟨i,hi,hz,hsize,hby⟩:=vZ hinfo
 obtain⟨w',hrun,h2,h3⟩:=EW (P:=P) t tx o.type e i k ht hi hsize hr x m hlen hn cs hcl hcs hd hfit h1 (dCap:=dCap)
 unfold Oper.wp execOp
 simp only[ho,resolve,invoke,builtin,jG,qg,gL,mR,cu,iq,hv,hx,hrun]
 exact h w' h2 h3
theorem bn.first {w:World}{S:Nat->Prop}{k n:Nat}{v:Value}{xs:List Value}(h:bn w S k v n xs)(m:Nat)(hm:m<=n):(Builtin.firstCells k m v).run P w= .ok (xs.take (m*k)).toArray w:=by
 obtain⟨ao,c,rfl,_,_,h3,h4,h5,h6⟩:=h
 cases ao with
 |none=>
  obtain⟨rfl,rfl⟩:=h4 rfl
  have:xs=[]:=aR (by simpa using h3)
  subst this
  simp[Builtin.firstCells]
 |some ad=>
  obtain⟨b,o,sp⟩:=ad
  obtain rfl:sp=none:=(h5 _ rfl).1
  refine PL w k m ⟨b,o,none⟩ n c _ (by rw[aC,h3];exact bq (bQ _ hm)) (fun j u hu=> ?_)
  rw[jd] at hu
  split at hu
  ·obtain⟨b',o',e,hc⟩:=h6 j u hu
   cases e
   rw[fZ];exact hc
  ·cases hu
theorem kU (z:Array Value)(n:Nat)(h:∀v∈z.toList,v.oneCell'=true)(h0:0<z.size):∀v∈(Builtin.zeroCells z n).toList,v.oneCell'=true:=by
 intro v hv
 simp only[Builtin.zeroCells,Array.toList_map,d9] at hv
 obtain⟨i,_,rfl⟩:=hv
 have hlt:=nM i h0
 rw[getElem!_pos z (i%z.size) hlt]
 exact h _ (by simp)
theorem DL {w:World}(t ty e:TypeId)(i:TypeInfo)(z:Value)(k:Nat)(ht:P.underlying t=some (.slice e))(hi:P.info? e=some i)(hz:i.zero=some z)(hzk:z.cells.size=k){g off e' n c:Nat}{dp:Option Addr}{cur:List Value}(h:Row w g e' cur)
  (hd:0<n->dp=some ⟨g,off,none⟩) (hfit:off+n*k<=cur.length) (h1:∀v∈(Builtin.zeroCells z.cells n).toList,v.oneCell'=true):
  ∃w' zs,(Builtin.clear_ #[t] ty #[.slice dp n c]).run P w= .ok (.tuple #[]) w'/\zs.length=n*k/\Row w' g e' (splice cur off zs)/\Keep (· =g) w w':=by
 cases n with
 |zero=>
  refine⟨w,[],?_,by simp,by unfold Row at*;simpa [splice] using h,Keep.refl _ _⟩
  cases dp<;>simp[Builtin.clear_,fG ht]
 |succ n=>
  obtain rfl:=hd (by omega)
  have hlz:(Builtin.zeroCells z.cells (n+1)).toList.length=(n+1)*k:=by rw[jA,BB,hzk]
  obtain⟨w',hst,h2,h3⟩:=ng (P:=P) h (Builtin.zeroCells z.cells (n+1)).toList (by rw[hlz];exact hfit) h1
  refine⟨w',_,?_,hlz,h2,h3⟩
  simp[Builtin.clear_,fG ht,zeroValue,typeInfo,hi,hz,hst]
theorem mJ {o:Oper}{a:Act}{w:World}{K:Act->World->Prop}{Q:Exit->Act->World->Prop}(s:Operand)(t:TypeId)(ho:o.op= .call {callee:= .builtin .clear,args:=#[s],argTypes:=#[t]})
  (e k bytes:Nat) (z:Value) (ht:P.underlying t=some (.slice e)) (hinfo:(P.info? e).map (fun i=>(i.zero,i.size,i.bytes))=some (some z,k,bytes)) (hzk:z.cells.size=k)
  (g off e' n c:Nat) (dp:Option Addr) (cur:List Value) (hv:a.eval s= .slice dp n c) (hr:Row w g e' cur)
  (hd:0<n->dp=some ⟨g,off,none⟩) (hfit:off+n*k<=cur.length) (h1:∀v∈(Builtin.zeroCells z.cells n).toList,v.oneCell'=true)
  (h:∀w' zs,zs.length=n*k->Row w' g e' (splice cur off zs)->Keep (· =g) w w'->K (a.put o.dst (.tuple #[])) w'):o.wp P a w K Q:=by
 obtain⟨i,hi,hz,hsize,hby⟩:=vZ hinfo
 obtain⟨w',zs,hrun,hl,h2,h3⟩:=DL (P:=P) t o.type e i z k ht hi hz hzk hr hd hfit h1 (c:=c)
 unfold Oper.wp execOp
 simp only[ho,resolve,invoke,builtin,jG,qg,gL,mR,cu,iq,hv,hrun]
 exact h w' zs hl h2 h3
theorem BS (w:World)(t tn ty e:TypeId)(i:TypeInfo)(z:Value)(k bytes:Nat)(ht:P.underlying t=some (.slice e))(htn:P.underlying tn=some (.int .i64))(hi:P.info? e=some i)(hz:i.zero=some z)
  (hsize:i.size=k) (hby:i.bytes=bytes) (hzs:z.cells.size=k) (hk0:0<k) {g n cap m:Nat} {cur:List Value} (h:Row w g e cur) (hn:n*k<=cur.length) (hgrow:cap<n+m) (hm:0<m) (h63:n+m<=maxLen) (hbytes:(n+m)*bytes<=140737488355328):
  ∃c w' rest,(Builtin.append_ #[t,tn] ty #[.slice (some ⟨g,0,none⟩) n cap,.int .i64 m]).run P w= .ok (.slice (some ⟨w.heap.size,0,none⟩) (n+m) c) w'/\Row w' w.heap.size e (cur.take (n*k)++rest)/\(cur.take (n*k)++rest).length=c*k/\n+m<=c/\c<=maxLen/\
   Keep gJ w w':=by
 subst hsize
 subst hby
 have hsmall:n+m<=9223372036854775807:=by simp only[maxLen] at h63;omega
 have hge:=Oj w (n+m) cap e
 have hcm:grownCap w (n+m) cap e<=maxLen:=rU w (n+m) cap e h63
 have hfit:=um hgrow hbytes
 have hold:=(h.cZ (w:=w.drew) (S:=gJ) (k:=i.size) (off:=0) n n (by omega) id (ax _) (by simp only[maxLen] at*;omega)).first (P:=P) n (ax _)
 rw[eP,bZ,gN] at hold
 have hold':(loadCells ⟨g,0,none⟩ (n*i.size)).run P w.drew= .ok (cur.take (n*i.size)).toArray w.drew:=hold
 have hw:IntKind.i64.wrap (m:Int)=m:=by rw[fU];omega
 have h1:¬((m:Int)<0):=by omega
 have h2:¬(281474976710656<(m:Int)*(i.bytes:Int)):=by
  have:m*i.bytes<=(n+m)*i.bytes:=bQ _ (by omega)
  rw[<-Int.natCast_mul];omega
 have h3:¬(n+m<=cap):=by omega
 have h4:¬(9223372036854775807<((n:Int)+(m:Int))):=by omega
 have h5:¬(281474976710656<Builtin.nextslicecap (n+m) cap*i.bytes):=by omega
 have h6:¬(m*i.size=0):=Nat.mul_ne_zero (by omega) (by omega)
 refine⟨grownCap w (n+m) cap e,w.drew.alloc (.cells ((cur.take (n*i.size)).toArray++Builtin.zeroCells z.cells m++Builtin.zeroCells z.cells (grownCap w (n+m) cap e - (n+m))) e),
  (Builtin.zeroCells z.cells m).toList++(Builtin.zeroCells z.cells (grownCap w (n+m) cap e - (n+m))).toList,?_,?_,?_,hge,hcm,(Keep.refl gJ w).drew.alloc _⟩
 ·simp[Builtin.append_,fG ht,fG htn,sizeOf,typeInfo,zeroValue,hi,hz,asInt,asIntOf,hw,h1,h2,h3,h4,h5,h6,Question.forced,newRow,grownCap,Builtin.firstCells,hold']
 ·unfold Row
  rw[show w.heap.size=w.drew.heap.size from rfl,aK]
  congr 2
  apply Ow
  simp
 ·simp only[av,aC,jA,BB,hzs]
  rw[bq hn,<-dX,<-dX]
  congr 1;omega
theorem qW {o:Oper}{a:Act}{w:World}{K:Act->World->Prop}{Q:Exit->Act->World->Prop}(s y:Operand)(t tn:TypeId)(ho:o.op= .call {callee:= .builtin .append,args:=#[s,y],argTypes:=#[t,tn]})
  (e k bytes:Nat) (z:Value) (ht:P.underlying t=some (.slice e)) (htn:P.underlying tn=some (.int .i64)) (hinfo:(P.info? e).map (fun i=>(i.zero,i.size,i.bytes))=some (some z,k,bytes)) (hzs:z.cells.size=k) (hk0:0<k)
  (g n cap m:Nat) (cur:List Value) (hv:a.eval s= .slice (some ⟨g,0,none⟩) n cap) (hx:a.eval y= .int .i64 m) (h:Row w g e cur) (hn:n*k<=cur.length) (hgrow:cap<n+m) (hm:0<m) (h63:n+m<=maxLen) (hbytes:(n+m)*bytes<=140737488355328)
  (hK:∀c w' rest,Row w' w.heap.size e (cur.take (n*k)++rest)->(cur.take (n*k)++rest).length=c*k->n+m<=c->c<=maxLen->Keep gJ w w'->K (a.put o.dst (.slice (some ⟨w.heap.size,0,none⟩) (n+m) c)) w'):o.wp P a w K Q:=by
 obtain⟨i,hi,hz,hsize,hby⟩:=vZ hinfo
 obtain⟨c,w',rest,hrun,q1,q2,q3,q4,q5⟩:=BS (P:=P) w t tn o.type e i z k bytes ht htn hi hz hsize hby hzs hk0 h hn hgrow hm h63 hbytes
 unfold Oper.wp execOp
 simp only[ho,resolve,invoke,builtin,jG,qg,gL,mR,cu,iq,hv,hx,hrun]
 exact hK c w' rest q1 q2 q3 q4 q5
theorem dh {ops:Array Oper}{rest:List Oper}{o:Oper}{a:Act}{w:World}{Q:Exit->Act->World->Prop}(hgd:o.guard=none)
  (h:∀K:Act->World->Prop,(∀a w,wpList P ops Q rest a w->K a w)->o.wp P a w K Q):wpList P ops Q (o::rest) a w:=wpList_plain hgd h
theorem zR {ops:Array Oper}{o:Oper}{a:Act}{w:World}{K:Act->World->Prop}{Q:Exit->Act->World->Prop}{E:Prop}(hgd:o.guard=none)(h:o.wp P a w K Q):
  if Region.wanted o (yielded ops a.tmps)=true then Oper.wp P o a w K Q else E:=by
 rw[if_pos (by simp[Region.wanted,hgd])];exact h
end
def mh (w:World)(e k:Nat)(v:Value)(n:Nat)(xs:List Value):Prop:=
 xs.length=n*k/\((v= .slice none 0 0/\n=0)\/∃g off cap cur,v= .slice (some ⟨g,off,none⟩) n cap/\Row w g e cur/\n<=cap/\cap<=maxLen/\off+cap*k<=cur.length/\(cur.drop off).take (n*k)=xs)
theorem mh.nil (w:World)(e k:Nat):mh w e k (.slice none 0 0) 0 []:=⟨by simp,.inl ⟨rfl,rfl⟩⟩
theorem mh.lt {w:World}{e k n:Nat}{v:Value}{xs:List Value}(h:mh w e k v n xs){g:Nat}(hg:v.ownBlock=some g):g<w.heap.size:=by
 rcases h.2 with ⟨rfl,_⟩|⟨g',off,cap,cur,rfl,hr,_⟩
 ·cases hg
 ·cases hg;exact hr.lt
theorem mh.cZ {w:World}{S:Nat->Prop}{e k n:Nat}{v:Value}{xs:List Value}(h:mh w e k v n xs)(hS:∀g,v.ownBlock=some g->¬S g):bn w S k v n xs:=by
 obtain⟨hl,hr⟩:=h
 rcases hr with ⟨rfl,rfl⟩|⟨g,off,cap,cur,rfl,hr,h1,h2,h3,h4⟩
 ·have:xs=[]:=aR (by simpa using hl)
  subst this;exact bn.nil _ _ _
 ·have hle:n*k<=cap*k:=bQ _ h1
  have:=hr.cZ (S:=S) (k:=k) (off:=off) n cap (by omega) (hS g rfl) h1 h2
  rwa [h4] at this
theorem mh.keep {w w':World}{e k n:Nat}{v:Value}{xs:List Value}(h:mh w e k v n xs)(hb:∀g,v.ownBlock=some g->w'.heap[g]? =w.heap[g]?):mh w' e k v n xs:=by
 obtain⟨hl,hr⟩:=h
 rcases hr with ⟨rfl,rfl⟩|⟨g,off,cap,cur,rfl,hr,h1⟩
 ·exact⟨hl,.inl ⟨rfl,rfl⟩⟩
 ·exact⟨hl,.inr ⟨g,off,cap,cur,rfl,(hb g rfl).trans hr,h1⟩⟩
theorem mh.after {w:World}{e k n c:Nat}{ao:Option Addr}{xs:List Value}(h:mh w e k (.slice ao n c) n xs)(i:Nat)(hi:i<=n):
  mh w e k (.slice (if c=i then ao else ao.map fun x=>x.add (i*k)) (n - i) (c - i)) (n - i) (xs.drop (i*k)):=by
 obtain⟨hl,hr⟩:=h
 have hlen:(xs.drop (i*k)).length=(n - i)*k:=by rw[aJ,hl,Nat.sub_mul]
 refine⟨hlen,?_⟩
 rcases hr with ⟨hv,rfl⟩|⟨g,off,cap,cur,hv,hr,h1,h2,h3,h4⟩
 ·cases hv
  obtain rfl:i=0:=by omega
  exact .inl ⟨by simp,by omega⟩
 ·cases hv
  have hmul:(n - i)*k<=(c - i)*k:=bQ _ (by omega)
  have hmc:(c - i)*k+i*k=c*k:=by rw[<-dX];congr 1;omega
  by_cases hc:c=i
  ·refine .inr ⟨g,off,c - i,cur,by rw[if_pos hc],hr,by omega,by omega,by omega,?_⟩
   have e0:n - i=0:=by omega
   rw[e0,xX,gP]
   exact(aR (by rw[hlen,e0,xX])).symm
  ·refine .inr ⟨g,off+i*k,c - i,cur,by rw[if_neg hc];simp[fZ],hr,by omega,by omega,by omega,?_⟩
   rw[<-h4,iC,List.drop_drop,<-Nat.sub_mul]
section
variable {P:Program}
theorem OM (w:World)(t tx ty e:TypeId)(i:TypeInfo)(z:Value)(k bytes:Nat)(ht:P.underlying t=some (.slice e))(hi:P.info? e=some i)(hz:i.zero=some z)
  (hsize:i.size=k) (hby:i.bytes=bytes) (hzs:z.cells.size=k)
  (v:Value) (n:Nat) (xs:List Value) (hown:mh w e k v n xs) (x:Value) (m:Nat) (news:List Value) (hs:Src P k tx x m news w)
  (h63:n+m<=maxLen) (hbytes:(n+m)*bytes<=140737488355328):
  ∃ao c w',(Builtin.append_ #[t,tx] ty #[v,x]).run P w= .ok (.slice ao (n+m) c) w'/\mh w' e k (.slice ao (n+m) c) (n+m) (xs++news)/\Keep (fun g=>v.ownBlock=some g) w w'/\
   ((Value.slice ao (n+m) c).ownBlock=v.ownBlock\/∃g,(Value.slice ao (n+m) c).ownBlock=some g/\w.heap.size<=g):=by
 subst hsize
 subst hby
 have hsmall:n+m<=9223372036854775807:=by simp only[maxLen] at h63;omega
 have hlen:(xs++news).length=(n+m)*i.size:=by rw[av,hown.1,hs.newsLen,dX]
 have grown:∀(old:Nat),old<n+m->
   mh (w.drew.alloc (.cells ((xs++news).toArray++Builtin.zeroCells z.cells (grownCap w (n+m) old e - (n+m))) e)) e i.size
    (.slice (some ⟨w.heap.size,0,none⟩) (n+m) (grownCap w (n+m) old e)) (n+m) (xs++news)/\
   Keep (fun g=>v.ownBlock=some g) w (w.drew.alloc (.cells ((xs++news).toArray++Builtin.zeroCells z.cells (grownCap w (n+m) old e - (n+m))) e)):=by
  intro old ho
  have hge:=Oj w (n+m) old e
  have hcm:grownCap w (n+m) old e<=maxLen:=rU w (n+m) old e h63
  have hrow:Row (w.drew.alloc (.cells ((xs++news).toArray++Builtin.zeroCells z.cells (grownCap w (n+m) old e - (n+m))) e)) w.heap.size e ((xs++news)++(Builtin.zeroCells z.cells (grownCap w (n+m) old e - (n+m))).toList):=by
   have:=aK w.drew (.cells ((xs++news).toArray++Builtin.zeroCells z.cells (grownCap w (n+m) old e - (n+m))) e)
   unfold Row
   rw[show (w.heap.size)=w.drew.heap.size from rfl,this]
   congr 2
   apply Dr.1
   simp
  refine⟨⟨hlen,.inr ⟨w.heap.size,0,_,_,rfl,hrow,hge,hcm,?_,?_⟩⟩,(Keep.refl _ w).drew.alloc _⟩
  ·rw[av,hlen,jA,BB,hzs,eG,<-dX]
   exact iV (congrArg (· *i.size) (by omega))
  ·rw[eP,<-hlen]
   exact iQ
 rcases hown.2 with ⟨rfl,rfl⟩|⟨g,off,cap,cur,rfl,hg,hnc,hcm,hcs,htake⟩
 ·have hx:xs=[]:=aR (by simpa using hown.1)
  subst hx
  by_cases hm:m=0
  ·subst hm
   have hn:news=[]:=aR (by simpa using hs.newsLen)
   subst hn
   refine⟨none,0,w,?_,mh.nil w e i.size,Keep.refl _ _,.inl rfl⟩
   rcases hs.kind with ⟨e',hk⟩|hk<;>simp[Builtin.append_,fG ht,fG hk,sizeOf,typeInfo,hi,hs.len,hs.cells]
  ·have hr:=qG (P:=P) w t tx ty e i z ht hi hz none 0 0 [] (run_firstCells_none w.drew i.size 0 0 0) x m news hs (by omega) (by omega) (um (by omega) hbytes)
   have hgr:=grown 0 (by omega)
   exact⟨_,_,_,hr,hgr.1,hgr.2,.inr ⟨_,rfl,ax _⟩⟩
 ·by_cases hroom:n+m<=cap
  ·have hmul:(n+m)*i.size<=cap*i.size:=bQ _ hroom
   have hnm:n*i.size+news.length=(n+m)*i.size:=by rw[hs.newsLen,dX]
   have hfit:(off+n*i.size)+news.length<=cur.length:=by omega
   obtain⟨w',hst,h2,h3⟩:=ng (P:=P) (off:=off+n*i.size) hg news hfit hs.one
   refine⟨some ⟨g,off,none⟩,cap,w',?_,⟨hlen,.inr ⟨g,off,cap,_,rfl,h2,hroom,hcm,?_,?_⟩⟩,h3.mono (fun k' _ hk=>by rw[hk];rfl),.inl rfl⟩
   ·rcases hs.kind with ⟨e',hk⟩|hk<;>simp[Builtin.append_,fG ht,fG hk,sizeOf,typeInfo,hi,hs.len,hroom,hs.cells,fZ,hst]
   ·unfold splice
    simp only[av,aC,aJ]
    omega
   ·unfold splice
    rw[fH (by rw[aC];omega),iC,show off+n*i.size - off=n*i.size from by omega,htake,<-hlen,<-aL]
    exact iQ
  ·have hold:(Builtin.firstCells i.size n (.slice (some ⟨g,off,none⟩) n cap)).run P w.drew= .ok xs.toArray w.drew:=
    PL w.drew i.size n ⟨g,off,none⟩ n cap xs hown.1 (fun j u hu=>by
     rw[fZ]
     show w.cell? ⟨g,off+j,none⟩=some u
     rw[hg.cell]
     rw[<-htake,jd] at hu
     split at hu
     ·simpa using hu
     ·cases hu)
   have hr:=qG (P:=P) w t tx ty e i z ht hi hz (some ⟨g,off,none⟩) n cap xs hold x m news hs (by omega) (by omega) (um (by omega) hbytes)
   have hgr:=grown cap (by omega)
   exact⟨_,_,_,hr,hgr.1,hgr.2,.inr ⟨_,rfl,ax _⟩⟩
theorem Qt {o:Oper}{a:Act}{w:World}{K:Act->World->Prop}{Q:Exit->Act->World->Prop}(s y:Operand)(t tx:TypeId)(ho:o.op= .call {callee:= .builtin .append,args:=#[s,y],argTypes:=#[t,tx]})
  (e:TypeId) (k bytes:Nat) (z:Value) (ht:P.underlying t=some (.slice e)) (hinfo:(P.info? e).map (fun i=>(i.zero,i.size,i.bytes))=some (some z,k,bytes)) (hzs:z.cells.size=k)
  (v:Value) (n:Nat) (xs:List Value) (hv:a.eval s=v) (hown:mh w e k v n xs) (x:Value) (m:Nat) (news:List Value) (hx:a.eval y=x) (hs:Src P k tx x m news w)
  (h63:n+m<=maxLen) (hbytes:(n+m)*bytes<=140737488355328)
  (h:∀ao c w',mh w' e k (.slice ao (n+m) c) (n+m) (xs++news)->Keep (fun g=>v.ownBlock=some g) w w'->
   ((Value.slice ao (n+m) c).ownBlock=v.ownBlock\/∃g,(Value.slice ao (n+m) c).ownBlock=some g/\w.heap.size<=g)->K (a.put o.dst (.slice ao (n+m) c)) w'):o.wp P a w K Q:=by
 obtain⟨i,hi,hz,hsize,hby⟩:=vZ hinfo
 obtain⟨ao,c,w',hr,h2,h3,h4⟩:=OM (P:=P) w t tx o.type e i z k bytes ht hi hz hsize hby hzs v n xs hown x m news hs h63 hbytes
 unfold Oper.wp execOp
 simp only[ho,resolve,invoke,builtin,jG,qg,gL,mR,cu,iq,hv,hx,hr]
 exact h ao c w' h2 h3 h4
end
end Go.Proofs.YtbfjgkafmlbpcaaGreatDoor
namespace Go.Proofs.YtbfjgkafmlbpcaaGreatDoor
abbrev Pr:=ByteArray×ByteArray
structure Nd where
 pairs:List Pr
 keys:List ByteArray
 kids:List Int
def dO (ps:List Pr):Nat:=(ps.map fun p=>2+p.1.size+p.2.size).sum
def dI (ks:List ByteArray):Nat:=(ks.map fun k=>1+k.size).sum
def Nd.size (n:Nd):Nat:=2+dO n.pairs+dI n.keys+2*n.kids.length
theorem mK (p:Pr)(ps:List Pr):dO (p::ps)=2+p.1.size+p.2.size+dO ps:=by simp[dO]
theorem jS (k:ByteArray)(ks:List ByteArray):dI (k::ks)=1+k.size+dI ks:=by simp[dI]
theorem jW (a b:List Pr):dO (a++b)=dO a+dO b:=by simp[dO]
theorem ja (a b:List ByteArray):dI (a++b)=dI a+dI b:=by simp[dI]
theorem ol (ps:List Pr)(i:Nat)(h:i<ps.length):dO (ps.take (i+1))=dO (ps.take i)+(2+ps[i].1.size+ps[i].2.size):=by
 rw[aQ h,jW];simp[dO]
theorem rz (ps:List ByteArray)(i:Nat)(h:i<ps.length):dI (ps.take (i+1))=dI (ps.take i)+(1+ps[i].size):=by
 rw[aQ h,ja];simp[dI]
theorem jD (ps:List Pr)(i:Nat):dO (ps.take i)<=dO ps:=by
 have:=jW (ps.take i) (ps.drop i);rw[bJ] at this;omega
theorem oH (ps:List ByteArray)(i:Nat):dI (ps.take i)<=dI ps:=by
 have:=ja (ps.take i) (ps.drop i);rw[bJ] at this;omega
theorem nS (ps:List Pr):2*ps.length<=dO ps:=by
 induction ps with
 |nil=>simp[dO]
 |cons p ps ih=>rw[mK];simp;omega
theorem nC (ps:List ByteArray):ps.length<=dI ps:=by
 induction ps with
 |nil=>simp[dI]
 |cons p ps ih=>rw[jS];simp;omega
def b8 (n:Nat):UInt8:=UInt8.ofNat n
def Bh (p:Pr):List UInt8:=[b8 p.1.size,b8 p.2.size]++p.1.data.toList++p.2.data.toList
def yG (k:Int):List UInt8:=[b8 k.toNat,b8 (k.toNat/256)]
def vR (k:ByteArray):List UInt8:=b8 k.size::k.data.toList
def nT (ps:List Pr):List UInt8:=ps.flatMap Bh
def jI (ks:List Int):List UInt8:=ks.flatMap yG
def iF (ks:List ByteArray):List UInt8:=ks.flatMap vR
def Nd.enc (n:Nd):List UInt8:=[b8 n.pairs.length,b8 n.kids.length]++nT n.pairs++jI n.kids++iF n.keys
theorem mX {α β:Type}(f:α->List β)(l:List α)(i:Nat)(h:i<l.length):(l.take (i+1)).flatMap f=(l.take i).flatMap f++f l[i]:=by
 rw[aQ h,xV,kH,List.flatMap_nil,dW]
theorem gZ (s:ByteArray):s.data.toList.length=s.size:=by rw[jA];rfl
theorem xI (p:Pr):(Bh p).length=2+p.1.size+p.2.size:=by
 simp only[Bh,av,gZ,aY,bI]
theorem vE (ps:List Pr):(nT ps).length=dO ps:=by
 induction ps with
 |nil=>rfl
 |cons p ps ih=>rw[mK];simp only[nT,kH,av,xI] at*;omega
theorem tJ (ks:List Int):(jI ks).length=2*ks.length:=by
 induction ks with
 |nil=>rfl
 |cons p ps ih=>simp only[jI,kH,av,yG,aY,bI] at*;omega
theorem tK (ks:List ByteArray):(iF ks).length=dI ks:=by
 induction ks with
 |nil=>rfl
 |cons p ps ih=>rw[jS];simp only[iF,kH,av,vR,aY,gZ] at*;omega
theorem Nd.Bg (n:Nd):n.enc.length=n.size:=by
 simp only[Nd.enc,Nd.size,av,vE,tJ,tK,aY,bI];omega
structure Nd.Fits (n:Nd):Prop where
 np:n.pairs.length<256
 nk:n.kids.length<256
 pr:∀p∈n.pairs,p.1.size<256/\p.2.size<256
 ky:∀k∈n.keys,k.size<256
 kd:∀k∈n.kids,0<=k/\k<65536
 kk:n.keys.length=n.kids.length - 1
 one:n.pairs=[]↔n.kids≠[]
theorem qQ (n:Nat)(h:n<256):(b8 n).toNat=n:=by simp[b8];omega
theorem rF {α β:Type}(f:α->List β)(l:List α)(i:Nat)(h:i<l.length):(l.drop i).flatMap f=f l[i]++(l.drop (i+1)).flatMap f:=by
 rw[cO h,kH]
end Go.Proofs.YtbfjgkafmlbpcaaGreatDoor
namespace Go.Proofs.YtbfjgkafmlbpcaaGreatDoor
open Go.RowKit
def fD (w:World)(S:Nat->Prop)(b:Nat)(nd:Nd):Prop:=
 ¬S b/\∃v0 v1 v2,w.heap[b]? =some (.cells #[v0,v1,v2] 260 (0,0))/\nN w S v0 nd.pairs/\iL w S v1 nd.keys/\jq w S v2 nd.kids
theorem cells3 {w:World}{b t:Nat}{v0 v1 v2:Value}(h:w.heap[b]? =some (.cells #[v0,v1,v2] t (0,0))):
  w.cell? ⟨b,0,none⟩=some v0/\w.cell? ⟨b,1,none⟩=some v1/\w.cell? ⟨b,2,none⟩=some v2/\
  w.frozen? ⟨b,0,none⟩=false/\w.frozen? ⟨b,1,none⟩=false/\w.frozen? ⟨b,2,none⟩=false/\b<w.heap.size:=by
 refine⟨?_,?_,?_,?_,?_,?_,(ah.1 h).1⟩<;>simp[World.cell?,World.frozen?,h]
theorem fD.step {w w':World}{S S':Nat->Prop}{b:Nat}{nd:Nd}(h:fD w S b nd)(hs:Step S S' w w'):fD w' S' b nd:=by
 obtain⟨hS,v0,v1,v2,hb,h0,h1,h2⟩:=h
 have hl:=(ah.1 hb).1
 exact⟨fun x=>(hs.2 b x).elim hS (fun y=>absurd hl (bE.2 y)),v0,v1,v2,(hs.1.block b hl hS).trans hb,bn.step h0 hs,bn.step h1 hs,bn.step h2 hs⟩
theorem fD.below {w w':World}{S:Nat->Prop}{b:Nat}{nd:Nd}(h:fD w S b nd)(hs:Below w.heap.size w w'):fD w' S b nd:=h.step (Step.of_below hs)
def ic (w:World)(S:Nat->Prop)(B:Nat)(b:Nat)(nd:Nd):Prop:=
 ¬S b/\B<=b/\∃v0 v1 v2,w.heap[b]? =some (.cells #[v0,v1,v2] 260 (0,0))/\aP w S B 79 2 v0 nd.pairs.length (dN nd.pairs)/\aP w S B 9 1 v1 nd.keys.length (nd.keys.map .string)/\aP w S B 3 1 v2 nd.kids.length (nd.kids.map (.int .i64))
theorem ic.jl {w:World}{S:Nat->Prop}{B b:Nat}{nd:Nd}(h:ic w S B b nd):fD w S b nd:=by
 obtain⟨h1,_,v0,v1,v2,hb,h2,h3,h4⟩:=h
 exact⟨h1,v0,v1,v2,hb,h2.cZ,h3.cZ,h4.cZ⟩
theorem ic.step {w w':World}{S S':Nat->Prop}{B b:Nat}{nd:Nd}(h:ic w S B b nd)(hs:Step S S' w w'):ic w' S' B b nd:=by
 obtain⟨hS,hB,v0,v1,v2,hb,h0,h1,h2⟩:=h
 have hl:=(ah.1 hb).1
 exact⟨fun x=>(hs.2 b x).elim hS (fun y=>absurd hl (bE.2 y)),hB,v0,v1,v2,(hs.1.block b hl hS).trans hb,h0.step hs,h1.step hs,h2.step hs⟩
theorem iZ (b:Nat)(nd:Nd)(w:World)(S:Nat->Prop)(h:fD w S b nd):
  Calls Tryz.prog 150 #[.pointer (some ⟨b,0,none⟩)] w fun e w'=>e= .returned (.bool (nd.kids.isEmpty))/\w=w':=by
 obtain⟨_,v0,v1,v2,hb,h0,h1,ao,c,rfl,_,_,_,_,_,_⟩:=h
 obtain⟨c0,c1,c2,f0,f1,f2,hlt⟩:=cells3 hb
 go_enter Tryz.func150,Tryz.ntmps150
 go_wp2
 go_ret
 exact⟨by congr 2;cases nd.kids<;>simp;omega,rfl⟩
theorem mY (b:Nat)(nd:Nd)(w:World)(S:Nat->Prop)(h:fD w S b nd)(hs:nd.size<=1000000):
  Calls Tryz.prog 252 #[.pointer (some ⟨b,0,none⟩)] w fun e w'=>e= .returned (.int .i64 nd.size)/\Below w.heap.size w w':=by
 obtain⟨_,v0,v1,v2,hb,h0,h1,h2⟩:=h
 obtain⟨c0,c1,c2,_,_,_,hlt⟩:=cells3 hb
 obtain⟨ao0,cp0,rfl,n0,m0,_,_⟩:=bn.form h0
 obtain⟨ao1,cp1,rfl,n1,m1,_,_⟩:=bn.form h1
 obtain⟨ao2,cp2,rfl,n2,m2,_,_⟩:=bn.form h2
 clear h2
 unfold Nd.size at hs
 have l0:=nS nd.pairs
 have l1:=nC nd.keys
 go_enter Tryz.func252,Tryz.ntmps252
 go_wp2
 go_loopw [3,13] (fun s i wr=>∃k:Nat,k<=nd.pairs.length/\i= .int .i64 k/\s= .int .i64 (2+dO (nd.pairs.take k):Nat)/\Below w.heap.size w wr) (fun _ i _=>nd.pairs.length - (intOf i).toNat)
 case atStart=>exact⟨0,by omega,rfl,by simp[dO],aO _ _⟩
 case round=>
  obtain⟨k,hk,rfl,rfl,hbel⟩:=hrel
  by_cases hlt2:k<nd.pairs.length
  ·obtain⟨b',o',rfl,hc1,hc2⟩:=h0.at rfl k hlt2
   have d1:=(hbel.cell (p:=⟨b',o'+k*2,none⟩) (aH w _ hc1)).trans hc1
   have d2:=(hbel.cell (p:=⟨b',o'+k*2+1,none⟩) (aH w _ hc2)).trans hc2
   have H:=af (ol nd.pairs k hlt2)
   have hle:=jD nd.pairs (k+1)
   have hb1:dO (nd.pairs.take k)+(2+nd.pairs[k].1.size+nd.pairs[k].2.size)<=1000000:=by rw[<-H.out];omega
   clear hle hc1 hc2
   go_wp2
   go_roundw
   case rel=>exact⟨k+1,by omega,by go_num,by rw[H.out];go_num,hbel.alloc hbel.size _⟩
   case measure=>simp[intOf];omega
  ·obtain rfl:k=nd.pairs.length:=by omega
   rw[dF]
   clear hlt2 h0 hk
   have c1':=(hbel.cell (p:=⟨b,1,none⟩) hlt).trans c1
   have c2':=(hbel.cell (p:=⟨b,2,none⟩) hlt).trans c2
   have hlt':b<wr.heap.size:=ak hlt hbel.size
   obtain⟨wo,rfl⟩:∃wo:World,wo=wr:=⟨_,rfl⟩
   go_wp2
   go_loop [3,33] (fun s i=>∃k:Nat,k<=nd.keys.length/\i= .int .i64 k/\s= .int .i64 (2+dO nd.pairs+dI (nd.keys.take k):Nat)) (fun _ i=>nd.keys.length - (intOf i).toNat)
   case atStart=>exact⟨0,by omega,rfl,by simp[dI]⟩
   case round=>
    obtain⟨k,hk,rfl,rfl⟩:=hrel
    by_cases hlt2:k<nd.keys.length
    ·obtain⟨b',o',rfl,hc1⟩:=bn.Bt h1 rfl k (.string nd.keys[k]) (by simp[hlt2])
     have d1:=(hbel.cell (p:=⟨b',o'+k,none⟩) (aH w _ hc1)).trans hc1
     have H:=af (rz nd.keys k hlt2)
     have hle:=oH nd.keys (k+1)
     have hb1:2+dO nd.pairs+dI (nd.keys.take k)+(1+nd.keys[k].size)<=1000000:=by rw[lY (2+_),<-H.out];omega
     clear hle hc1
     go_wp2
     go_round
     case rel=>exact⟨k+1,by omega,by go_num,by rw[H.out];go_num⟩
     case measure=>simp[intOf];omega
    ·obtain rfl:k=nd.keys.length:=by omega
     rw[dF]
     go_wp2
     go_ret
     exact⟨by unfold Nd.size;go_num,hbel⟩
theorem kV:(Tryz.prog.info? 79).map (fun i=>(i.zero,i.size,i.bytes))=some (some (.agg #[.string ⟨#[]⟩,.string ⟨#[]⟩]),2,32):=by kernel_rfl
theorem gU:(Tryz.prog.info? 3).map (fun i=>(i.zero,i.size,i.bytes))=some (some (.int .i64 0),1,8):=by kernel_rfl
theorem gu:(Tryz.prog.info? 9).map (fun i=>(i.zero,i.size,i.bytes))=some (some (.string ⟨#[]⟩),1,16):=by kernel_rfl
theorem F8 {α:Type}(cur xs zs:List α)(i n cap k:Nat)(hi:i<n)(hn:n<=cap)(hl:cur.length=cap*k)(hx:cur.take (n*k)=xs)(hxl:xs.length=n*k)(hz:zs.length=k):
  (splice cur (i*k) (xs.drop ((i+1)*k))).length=cap*k/\(splice (splice cur (i*k) (xs.drop ((i+1)*k))) ((n - 1)*k) zs).length=cap*k/\
  (splice (splice cur (i*k) (xs.drop ((i+1)*k))) ((n - 1)*k) zs).take ((n - 1)*k)=xs.take (i*k)++xs.drop ((i+1)*k):=by
 obtain⟨d,rfl⟩:∃d,n=i+1+d:=⟨n - (i+1),by omega⟩
 obtain⟨c,rfl⟩:∃c,cap=i+1+d+c:=⟨cap - (i+1+d),by omega⟩
 have e0:i+1+d - 1=i+d:=by omega
 rw[e0]
 simp only[dX,jZ] at*
 have e1:(cur.take (i*k)).length=i*k:=by rw[aC];omega
 have e2:(xs.drop (i*k+k)).length=d*k:=by rw[aJ];omega
 have hl1:(splice cur (i*k) (xs.drop (i*k+k))).length=i*k+k+d*k+c*k:=by rw[dV _ _ _ (by rw[e2];omega)];exact hl
 refine⟨hl1,by rw[dV _ _ _ (by rw[hl1];omega)];exact hl1,?_⟩
 unfold splice
 rw[bD (by rw[aC];simp only[av,aC,aJ];omega),bZ,gN,<-aL,
  bD (by rw[av,e1,e2];omega),aG (by rw[av,e1,e2];omega),<-hx,bZ,bq (by omega)]
theorem IU (g cap n i:Nat)(xs:List Value)(w:World)(S:Nat->Prop)(B:Nat)(h:aP w S B 3 1 (.slice (some ⟨g,0,none⟩) n cap) n xs)(hone:∀u∈xs,u.oneCell'=true)(hi:i<n)(hn:n<=1000000):
  Calls Tryz.prog 260 #[.slice (some ⟨g,0,none⟩) n cap,.int .i64 i,.int .i64 ((i:Int)+1)] w fun e w'=>∃c,e= .returned (.slice (some ⟨g,0,none⟩) (n - 1) c)/\aP w' S B 3 1 (.slice (some ⟨g,0,none⟩) (n - 1) c) (n - 1) (xs.take (i*1)++xs.drop ((i+1)*1))/\Keep (· =g) w w':=by
 obtain⟨cur,hr,hl,hx,hB,hSg,hc,hc2⟩:=h.row
 have hxl:=h.1.1
 have hc3:cap<=9223372036854775807:=by simpa [maxLen] using hc2
 clear h
 have k1:(0:Int)<=(i:Int):=by omega
 have k2:(i:Int)<=(cap:Int):=by omega
 have k3:(0:Int)<=(i:Int)+1:=by omega
 have k4:(i:Int)+1<=(n:Int):=by omega
 have k5:((i:Int)+1).toNat=i+1:=by omega
 have hsrc:Src Tryz.prog 1 171 (.slice (if cap=i+1 then some ⟨g,0,none⟩ else some ⟨g,i+1,none⟩) (n - (i+1)) (cap - (i+1))) (n - (i+1)) (xs.drop ((i+1)*1)) w.drew:=by
  split
  ·obtain rfl:n=i+1:=by omega
   rw[show cap - (i+1)=0 by omega,show i+1 - (i+1)=0 by omega,eH (by omega)]
   exact Src.ofSlice _ aZ _ 0 0 [] rfl (by simp) (by simp)
  ·have:=(Row.cZ (w:=w.drew) (S:=gJ) (k:=1) (off:=i+1) hr (n - (i+1)) (cap - (i+1)) (by omega) id (by omega) (by unfold maxLen at*;omega)).src aZ
   rw[show (cur.drop (i+1)).take ((n - (i+1))*1)=xs.drop ((i+1)*1) by rw[<-hx,iC,show (i+1)*1=i+1 by omega];congr 1;omega] at this
   exact this fun u hu=>hone u (bU hu)
 have hm:i+(n - (i+1))=n - 1:=by omega
 generalize hao:(if cap=i+1 then some (⟨g,0,none⟩:Addr) else some ⟨g,i+1,none⟩)=ao at hsrc
 have Hao:=af hao
 clear hao
 have k6:¬cap=n - 1:=by omega
 have k7:n - (n - 1)=1:=by omega
 have hl1:(splice cur (i*1) (xs.drop ((i+1)*1))).length=cap*1:=by rw[dV _ _ _ (by rw[aJ];omega)];exact hl
 have Hl:=af hl;clear hl
 have Hx:=af hx;clear hx
 have Hxl:=af hxl;clear hxl
 have Hl1:=af hl1;clear hl1
 go_enter Tryz.func260,Tryz.ntmps260
 go_wp2
 go_region_held3 (fun _=>True) (trivial) (first|(rw[Hao.out];(refine zR rfl (zL (.tmp 22) (.tmp 25) 171 171 rfl 3 1 8 _ aZ gU g i cap _ cur rfl hr (.slice ao (n - (i+1)) (cap - (i+1))) (n - (i+1)) _ rfl hsrc ?_ ?_ ?_));(focus omega);(focus (have:=Hxl.out;have:=Hl.out;rw[aJ];omega));intro w1 hr1 hk1))
 go_wp2_with (first|(refine dh rfl ?_;intro K hK;(refine mJ (.tmp 31) 171 rfl 3 1 8 _ aZ gU rfl g (n - 1) 3 1 _ (some ⟨g,n - 1,none⟩) _ rfl hr1 (fun _=>rfl) ?_ ?_ ?_);(focus (rw[Hl1.out];omega));(focus (exact kU _ _ (by simp[Value.cells,Value.oneCell']) (by simp[Value.cells])));intro w2 zs hz hr2 hk2;refine hK _ _ ?_))
 go_ret
 obtain⟨_,q2,q3⟩:=F8 cur xs zs i n cap 1 hi hc Hl.out Hx.out Hxl.out (by rw[hz])
 refine⟨cap,rfl,?_,((Keep.refl (· =g) w).drew.trans hk1 (fun _ _ h=>h)).trans hk2 (fun _ _ h=>h)⟩
 rw[<-q3]
 exact Row.own (cur:=splice _ ((n - 1)*1) zs) (by simpa only[aT] using hr2) (n - 1) q2 hB hSg (by omega) hc2
theorem IQ (g cap n i:Nat)(xs:List Value)(w:World)(S:Nat->Prop)(B:Nat)(h:aP w S B 9 1 (.slice (some ⟨g,0,none⟩) n cap) n xs)(hone:∀u∈xs,u.oneCell'=true)(hi:i<n)(hn:n<=1000000):
  Calls Tryz.prog 261 #[.slice (some ⟨g,0,none⟩) n cap,.int .i64 i,.int .i64 ((i:Int)+1)] w fun e w'=>∃c,e= .returned (.slice (some ⟨g,0,none⟩) (n - 1) c)/\aP w' S B 9 1 (.slice (some ⟨g,0,none⟩) (n - 1) c) (n - 1) (xs.take (i*1)++xs.drop ((i+1)*1))/\Keep (· =g) w w':=by
 obtain⟨cur,hr,hl,hx,hB,hSg,hc,hc2⟩:=h.row
 have hxl:=h.1.1
 have hc3:cap<=9223372036854775807:=by simpa [maxLen] using hc2
 clear h
 have k1:(0:Int)<=(i:Int):=by omega
 have k2:(i:Int)<=(cap:Int):=by omega
 have k3:(0:Int)<=(i:Int)+1:=by omega
 have k4:(i:Int)+1<=(n:Int):=by omega
 have k5:((i:Int)+1).toNat=i+1:=by omega
 have hsrc:Src Tryz.prog 1 22 (.slice (if cap=i+1 then some ⟨g,0,none⟩ else some ⟨g,i+1,none⟩) (n - (i+1)) (cap - (i+1))) (n - (i+1)) (xs.drop ((i+1)*1)) w.drew:=by
  split
  ·obtain rfl:n=i+1:=by omega
   rw[show cap - (i+1)=0 by omega,show i+1 - (i+1)=0 by omega,eH (by omega)]
   exact Src.ofSlice _ aW _ 0 0 [] rfl (by simp) (by simp)
  ·have:=(Row.cZ (w:=w.drew) (S:=gJ) (k:=1) (off:=i+1) hr (n - (i+1)) (cap - (i+1)) (by omega) id (by omega) (by unfold maxLen at*;omega)).src aW
   rw[show (cur.drop (i+1)).take ((n - (i+1))*1)=xs.drop ((i+1)*1) by rw[<-hx,iC,show (i+1)*1=i+1 by omega];congr 1;omega] at this
   exact this fun u hu=>hone u (bU hu)
 have hm:i+(n - (i+1))=n - 1:=by omega
 generalize hao:(if cap=i+1 then some (⟨g,0,none⟩:Addr) else some ⟨g,i+1,none⟩)=ao at hsrc
 have Hao:=af hao
 clear hao
 have k6:¬cap=n - 1:=by omega
 have k7:n - (n - 1)=1:=by omega
 have hl1:(splice cur (i*1) (xs.drop ((i+1)*1))).length=cap*1:=by rw[dV _ _ _ (by rw[aJ];omega)];exact hl
 have Hl:=af hl;clear hl
 have Hx:=af hx;clear hx
 have Hxl:=af hxl;clear hxl
 have Hl1:=af hl1;clear hl1
 go_enter Tryz.func261,Tryz.ntmps261
 go_wp2
 go_region_held3 (fun _=>True) (trivial) (first|(rw[Hao.out];(refine zR rfl (zL (.tmp 22) (.tmp 25) 22 22 rfl 9 1 16 _ aW gu g i cap _ cur rfl hr (.slice ao (n - (i+1)) (cap - (i+1))) (n - (i+1)) _ rfl hsrc ?_ ?_ ?_));(focus omega);(focus (have:=Hxl.out;have:=Hl.out;rw[aJ];omega));intro w1 hr1 hk1))
 go_wp2_with (first|(refine dh rfl ?_;intro K hK;(refine mJ (.tmp 31) 22 rfl 9 1 16 _ aW gu rfl g (n - 1) 9 1 _ (some ⟨g,n - 1,none⟩) _ rfl hr1 (fun _=>rfl) ?_ ?_ ?_);(focus (rw[Hl1.out];omega));(focus (exact kU _ _ (by simp[Value.cells,Value.oneCell']) (by simp[Value.cells])));intro w2 zs hz hr2 hk2;refine hK _ _ ?_))
 go_ret
 obtain⟨_,q2,q3⟩:=F8 cur xs zs i n cap 1 hi hc Hl.out Hx.out Hxl.out (by rw[hz])
 refine⟨cap,rfl,?_,((Keep.refl (· =g) w).drew.trans hk1 (fun _ _ h=>h)).trans hk2 (fun _ _ h=>h)⟩
 rw[<-q3]
 exact Row.own (cur:=splice _ ((n - 1)*1) zs) (by simpa only[aT] using hr2) (n - 1) q2 hB hSg (by omega) hc2
def L (nd:Nd)(k:Nat):List UInt8:=[b8 nd.pairs.length,b8 nd.kids.length]++nT (nd.pairs.take k)
theorem Rx (nd:Nd)(k:Nat):(L nd k).length<=2+dO nd.pairs:=by
 have:=jD nd.pairs k
 simp only[L,av,vE,aY,bI];omega
theorem yO (n:Nat):((b8 n).toNat:Int)=(n:Int)%256:=by simp[b8]
theorem Rw (nd:Nd):(L nd 0).length=2:=rfl
theorem Eo (nd:Nd):aD (L nd 0)=[.int .u8 ((nd.pairs.length:Int)%256),.int .u8 ((nd.kids.length:Int)%256)]:=by
 simp[L,nT,aD,yO]
theorem N8 {nd:Nd}{k:Nat}(h:k<nd.pairs.length):L nd (k+1)=L nd k++Bh nd.pairs[k]:=by
 simp only[L,nT,mX Bh nd.pairs k h,aL]
theorem Qg {nd:Nd}{k:Nat}(h:k<nd.pairs.length):(L nd (k+1)).length=(L nd k).length+2+nd.pairs[k].1.size+nd.pairs[k].2.size:=by
 rw[N8 h,av,xI];omega
theorem PI {nd:Nd}{k:Nat}(h:k<nd.pairs.length):aD (L nd (k+1))=aD (L nd k)++[.int .u8 ((nd.pairs[k].1.size:Int)%256),.int .u8 ((nd.pairs[k].2.size:Int)%256)]++byteCells nd.pairs[k].1++byteCells nd.pairs[k].2:=by
 rw[N8 h,gI]
 simp only[Bh,gI,xK,aL]
 simp[aD,yO]
def L2 (nd:Nd)(k:Nat):List UInt8:=L nd nd.pairs.length++jI (nd.kids.take k)
theorem JN (nd:Nd):L2 nd 0=L nd nd.pairs.length:=by simp[L2,jI]
theorem Oc (nd:Nd)(k:Nat):(L2 nd k).length<=2+dO nd.pairs+2*nd.kids.length:=by
 have:=Rx nd nd.pairs.length
 simp only[L2,av,tJ,aC];omega
theorem JO {nd:Nd}{k:Nat}(h:k<nd.kids.length):L2 nd (k+1)=L2 nd k++yG nd.kids[k]:=by
 simp only[L2,jI,mX yG nd.kids k h,aL]
theorem Ob {nd:Nd}{k:Nat}(h:k<nd.kids.length):(L2 nd (k+1)).length=(L2 nd k).length+2:=by
 rw[JO h,av];rfl
theorem Od {nd:Nd}{k:Nat}(h:k<nd.kids.length)(h0:0<=nd.kids[k])(h1:nd.kids[k]<65536):aD (L2 nd (k+1))=aD (L2 nd k)++[.int .u8 (nd.kids[k]%256),.int .u8 (nd.kids[k]/256)]:=by
 rw[JO h,gI]
 congr 1
 generalize nd.kids[k]=x at*
 obtain⟨n,rfl⟩:=Dq h0
 simp only[yG,aD,cu,iq,yO,fT]
 congr 2
 congr 1
 omega
def L3 (nd:Nd)(k:Nat):List UInt8:=L2 nd nd.kids.length++iF (nd.keys.take k)
theorem JL (nd:Nd):L3 nd 0=L2 nd nd.kids.length:=by simp[L3,iF]
theorem Ry (nd:Nd):L3 nd nd.keys.length=nd.enc:=by simp only[L3,L2,L,dF];rfl
theorem Ta (nd:Nd)(k:Nat):(L3 nd k).length<=2+dO nd.pairs+2*nd.kids.length+dI nd.keys:=by
 have:=Oc nd nd.kids.length
 have:=oH nd.keys k
 simp only[L3,av,tK];omega
theorem JM {nd:Nd}{k:Nat}(h:k<nd.keys.length):L3 nd (k+1)=L3 nd k++vR nd.keys[k]:=by
 simp only[L3,iF,mX vR nd.keys k h,aL]
theorem N9 {nd:Nd}{k:Nat}(h:k<nd.keys.length):(L3 nd (k+1)).length=(L3 nd k).length+1+nd.keys[k].size:=by
 rw[JM h,av,vR,aY,gZ];omega
theorem Oa {nd:Nd}{k:Nat}(h:k<nd.keys.length):aD (L3 nd (k+1))=aD (L3 nd k)++[.int .u8 ((nd.keys[k].size:Int)%256)]++byteCells nd.keys[k]:=by
 rw[JM h,gI,xK,vR]
 simp[aD,yO]
theorem jH:(Tryz.prog.info? 5).map (fun i=>(i.zero,i.size,i.bytes))=some (some (.int .u8 0),1,1):=by kernel_rfl
theorem IG (b:Nat)(nd:Nd)(w:World)(S:Nat->Prop)(hS:∀g,S g->g<w.heap.size)(h:fD w S b nd)(hs:nd.size<=1000000)(hkid:∀k∈nd.kids,0<=k/\k<65536):
  Calls Tryz.prog 290 #[.pointer (some ⟨b,0,none⟩)] w fun e w'=>∃v,e= .returned v/\aP w' S w.heap.size 5 1 v nd.enc.length (aD nd.enc)/\Below w.heap.size w w':=by
 obtain⟨_,v0,v1,v2,hb,h0,h1,h2⟩:=h
 obtain⟨c0,c1,c2,_,_,_,hlt⟩:=cells3 hb
 obtain⟨ao0,cp0,rfl,n0,m0,_,_⟩:=bn.form h0
 obtain⟨ao1,cp1,rfl,n1,m1,_,_⟩:=bn.form h1
 obtain⟨ao2,cp2,rfl,n2,m2,_,_⟩:=bn.form h2
 unfold Nd.size at hs
 have l0:=nS nd.pairs
 have l1:=nC nd.keys
 go_enter Tryz.func290,Tryz.ntmps290
 go_wp2
 go_still_tail 12,(by kernel_rfl)
 change wpList _ _ _ _ _ w.drew
 go_wp2
 simp only[yQ]
 go_loopw [3,28] (fun v i wr=>∃(k:Nat) (ao:Option Addr) (c:Nat),k<=nd.pairs.length/\i= .int .i64 k/\v= .slice ao (L nd k).length c/\aP wr S w.heap.size 5 1 v (L nd k).length (aD (L nd k))/\Below w.heap.size w wr) (fun _ i _=>nd.pairs.length - (intOf i).toNat)
 case atStart=>
  have hn:=mq (w:=w) (S:=S) (B:=w.heap.size) (e:=5) (k:=1) [.int .u8 ((nd.pairs.length:Int)%256),.int .u8 ((nd.kids.length:Int)%256)] 2 2 rfl rfl (ax _) (by simp[maxLen]) (ax _) hS
  exact⟨0,_,_,bf _,rfl,rfl,by rw[Rw,Eo];exact hn.drew,((aO _ _).alloc (ax _) _).drew⟩
 case round=>
  obtain⟨k,ao,c,hk,rfl,rfl,hown,hbel⟩:=hrel
  by_cases hlt2:k<nd.pairs.length
  ·obtain⟨b',o',rfl,hc1,hc2⟩:=h0.at rfl k hlt2
   have d1:=(hbel.cell (p:=⟨b',o'+k*2,none⟩) (aH w _ hc1)).trans hc1
   have d2:=(hbel.cell (p:=⟨b',o'+k*2+1,none⟩) (aH w _ hc2)).trans hc2
   have hSr:∀g,S g->g<wr.heap.size:=fun g hg=>ak (hS g hg) hbel.size
   have hsz:=hbel.size
   have hL:=Rx nd k
   have hp0:=ol nd.pairs k hlt2
   have hp2:=jD nd.pairs (k+1)
   have hz:nd.pairs[k].1.size+nd.pairs[k].2.size<=dO nd.pairs:=by omega
   clear hp0 hp2
   clear hc1 hc2
   go_wp2_with (at_builtin;go_must ((refine dB rfl (.tmp 32) (.tmp 41) 119 119 rfl S w.heap.size 5 1 1 (.int .u8 0) bg jH rfl (.slice ao (L nd k).length c) _ _ rfl (hown.below (gy _ _ _)) _ 2 _ rfl (gY [_,_] _ 1 2 2 (by simp) bg rfl ?_) (fq (fq hSr _) _) ?_ ?_ ?_ ?_);(focus (simp[Value.oneCell']));(focus (simp only[aV];omega));(focus (unfold maxLen;omega));(focus omega);intro ao1 c1 w1 hown1 hk1 hb1 hd1))
   have q1:w1.cell? ⟨wr.heap.size,0,none⟩=some (.string nd.pairs[k].1):=(hk1.cell (p:=⟨wr.heap.size,0,none⟩) (by simp;omega) hown.lt).trans (by simp[vH])
   have q2:w1.cell? ⟨wr.heap.size,1,none⟩=some (.string nd.pairs[k].2):=(hk1.cell (p:=⟨wr.heap.size,1,none⟩) (by simp;omega) hown.lt).trans (by simp[vH])
   have n1:(Value.slice ao1 ((L nd k).length+2) c1).ownBlock≠some wr.heap.size:=hd1 _ (by simp;omega) hown.lt
   have hp1:wr.heap.size<w1.heap.size:=by have:=hk1.size;simp at this;omega
   have hs1:w.heap.size<=w1.heap.size:=by omega
   have hS1:=yt (fq (fq hSr _) _) hb1
   go_region_held3 (fun w'=>w'.cell? ⟨wr.heap.size,0,none⟩=some (.string nd.pairs[k].1)/\w'.cell? ⟨wr.heap.size,1,none⟩=some (.string nd.pairs[k].2))
    (first|exact⟨q1,q2⟩|exact⟨q1',q2'⟩|exact⟨q1'',q2''⟩)
    (first
     |((refine EP rfl (.tmp 43) (.tmp 45) 119 9 rfl S w.heap.size 5 1 1 (.int .u8 0) bg jH rfl (.slice ao1 ((L nd k).length+2) c1) _ _ rfl hown1.drew (.string nd.pairs[k].1) _ _ rfl (Src.ofString _ dJ _) hS1 ?_ ?_ ?_ ?_);(focus (exact hs1));(focus (unfold maxLen;omega));(focus omega);(intro ao2' c2' w2 hown2 hk2 hb2 hd2);(have q1':=(hk2.cell (p:=⟨wr.heap.size,0,none⟩) hp1 n1).trans q1);(have q2':=(hk2.cell (p:=⟨wr.heap.size,1,none⟩) hp1 n1).trans q2);(have n2':=hd2 _ hp1 n1))
     |((refine EP rfl (.tmp 46) (.tmp 48) 119 9 rfl S w.heap.size 5 1 1 (.int .u8 0) bg jH rfl (.slice ao2' ((L nd k).length+2+nd.pairs[k].1.size) c2') _ _ rfl hown2 (.string nd.pairs[k].2) _ _ rfl (Src.ofString _ dJ _) (yt (w:=w1.drew) hS1 hb2) ?_ ?_ ?_ ?_);(focus (exact aI hs1 hk2.size));(focus (unfold maxLen;omega));(focus omega);(intro ao3 c3 w3 hown3 hk3 hb3 hd3);(have q1'':=(hk3.cell (p:=⟨wr.heap.size,0,none⟩) (ak hp1 hk2.size) n2').trans q1');(have q2'':=(hk3.cell (p:=⟨wr.heap.size,1,none⟩) (ak hp1 hk2.size) n2').trans q2')))
   go_wp2
   go_roundw
   case rel=>exact⟨k+1,ao3,c3,by omega,by go_num,by rw[Qg hlt2],by rw[Qg hlt2,PI hlt2];exact hown3,((hbel.trans (gy wr _ _|>.mono hsz)).trans hb1).trans (Lv (b:=w1.drew) (aO _ _).drew (hb2.trans hb3))⟩
   case measure=>simp[intOf];omega
  ·obtain rfl:k=nd.pairs.length:=by omega
   have c1':=(hbel.cell (p:=⟨b,1,none⟩) hlt).trans c1
   have c2':=(hbel.cell (p:=⟨b,2,none⟩) hlt).trans c2
   have hlt':b<wr.heap.size:=ak hlt hbel.size
   have hL:=Rx nd nd.pairs.length
   clear hlt2 h0 hk hb c0 c2
   obtain⟨wo,rfl⟩:∃wo:World,wo=wr:=⟨_,rfl⟩
   go_wp2
   go_loopw [3,56] (fun v i wr=>∃(k:Nat) (ao:Option Addr) (c:Nat),k<=nd.kids.length/\i= .int .i64 k/\v= .slice ao (L2 nd k).length c/\aP wr S w.heap.size 5 1 v (L2 nd k).length (aD (L2 nd k))/\Below w.heap.size w wr) (fun _ i _=>nd.kids.length - (intOf i).toNat)
   case atStart=>exact⟨0,ao,c,bf _,rfl,by rw[JN],by rw[JN];exact hown,hbel⟩
   case round=>
    obtain⟨k,ao,c,hk,rfl,rfl,hown,hbel⟩:=hrel
    by_cases hlt2:k<nd.kids.length
    ·obtain⟨b',o',rfl,hc1⟩:=h2.at rfl k hlt2
     have d1:=(hbel.cell (p:=⟨b',o'+k,none⟩) (aH w _ hc1)).trans hc1
     have hSr:∀g,S g->g<wr.heap.size:=fun g hg=>ak (hS g hg) hbel.size
     have hsz:=hbel.size
     have hL:=Oc nd k
     obtain⟨hk0,hk1'⟩:=hkid nd.kids[k] (bG hlt2)
     go_wp2_with (at_builtin;go_must ((refine dB rfl (.tmp 60) (.tmp 66) 119 119 rfl S w.heap.size 5 1 1 (.int .u8 0) bg jH rfl (.slice ao (L2 nd k).length c) _ _ rfl (hown.below (aF _ _)) _ 2 _ rfl (gY [_,_] _ 1 2 2 (by simp) bg rfl ?_) (fq hSr _) ?_ ?_ ?_ ?_);(focus (simp[Value.oneCell']));(focus (simp only[aV];omega));(focus (unfold maxLen;omega));(focus omega);intro ao1 c1 w1 hown1 hk1 hb1 hd1))
     go_roundw
     case rel=>exact⟨k+1,ao1,c1,by omega,by go_num,by rw[Ob hlt2],by rw[Ob hlt2,Od hlt2 hk0 hk1'];exact hown1,(hbel.trans (aF wr _|>.mono hsz)).trans hb1⟩
     case measure=>simp[intOf];omega
    ·obtain rfl:k=nd.kids.length:=by omega
     have c1'':=(hbel.cell (p:=⟨b,1,none⟩) hlt).trans c1
     have hL:=Oc nd nd.kids.length
     clear hlt2 h2 hk c1' c2'
     obtain⟨w2o,rfl⟩:∃w2o:World,w2o=wr:=⟨_,rfl⟩
     go_wp2
     go_loopw [3,74] (fun v i wr=>∃(k:Nat) (ao:Option Addr) (c:Nat),k<=nd.keys.length/\i= .int .i64 k/\v= .slice ao (L3 nd k).length c/\aP wr S w.heap.size 5 1 v (L3 nd k).length (aD (L3 nd k))/\Below w.heap.size w wr) (fun _ i _=>nd.keys.length - (intOf i).toNat)
     case atStart=>exact⟨0,ao,c,bf _,rfl,by rw[JL],by rw[JL];exact hown,hbel⟩
     case round=>
      obtain⟨k,ao,c,hk,rfl,rfl,hown,hbel⟩:=hrel
      by_cases hlt2:k<nd.keys.length
      ·obtain⟨b',o',rfl,hc1⟩:=h1.at rfl k hlt2
       have d1:=(hbel.cell (p:=⟨b',o'+k,none⟩) (aH w _ hc1)).trans hc1
       have hSr:∀g,S g->g<wr.heap.size:=fun g hg=>ak (hS g hg) hbel.size
       have hsz:=hbel.size
       have hL:=Ta nd k
       have hp0:=rz nd.keys k hlt2
       have hp2:=oH nd.keys (k+1)
       have hz:nd.keys[k].size<=dI nd.keys:=by omega
       clear hp0 hp2
       go_wp2_with (first
        |(at_builtin;(refine dB rfl (.tmp 78) (.tmp 82) 119 119 rfl S w.heap.size 5 1 1 (.int .u8 0) bg jH rfl (.slice ao (L3 nd k).length c) _ _ rfl (hown.below (aF _ _)) _ 1 _ rfl (gY [_] _ 1 1 1 (by simp) bg rfl ?_) (fq hSr _) ?_ ?_ ?_ ?_);(focus (simp[Value.oneCell']));(focus (simp only[aV];omega));(focus (unfold maxLen;omega));(focus omega);intro ao1 c1 w1 hown1 hk1 hb1 hd1)
        |(at_builtin;(refine dB rfl (.tmp 83) (.tmp 84) 119 9 rfl S w.heap.size 5 1 1 (.int .u8 0) bg jH rfl (.slice ao1 ((L3 nd k).length+1) c1) _ _ rfl hown1 (.string nd.keys[k]) _ _ rfl (Src.ofString _ dJ _) (yt (fq hSr _) hb1) ?_ ?_ ?_ ?_);(focus (have:=hb1.size;simp only[aV] at this;omega));(focus (unfold maxLen;omega));(focus omega);intro ao2 c2 w2 hown2 hk2 hb2 hd2))
       go_roundw
       case rel=>exact⟨k+1,ao2,c2,by omega,by go_num,by rw[N9 hlt2],by rw[N9 hlt2,Oa hlt2];exact hown2,((hbel.trans (aF wr _|>.mono hsz)).trans hb1).trans hb2⟩
       case measure=>simp[intOf];omega
      ·obtain rfl:k=nd.keys.length:=by omega
       go_wp2
       go_ret
       exact⟨_,rfl,by rw[<-Ry];exact hown,hbel⟩
end Go.Proofs.YtbfjgkafmlbpcaaGreatDoor
