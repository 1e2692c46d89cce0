/- parts -/
import Derived.WalkKit
import Derived.WalkLawsBesides
import Derived.WalkSpells
import Derived.Lib.Hide
import Derived.Deep.AppendSrc
import Derived.Laws.CopyOwn
import Derived.Deep.RegionLaw
import Derived.Test.YtpmbddooibgnaaaGreatDoorProg
import GoSem.Claim
import GoSem.ClaimJoined
import GoSem.ClaimMapViews
import Derived.JoinedTies
import Derived.KernelRfl
import Derived.RowKit
import Derived.Deep.RegionHeld3
import Derived.RegionTactic
import Derived.BigRegion
import Derived.Deep.QuietTactic
import Derived.BigQuiet
import Derived.StillTailTactics
set_option maxRecDepth 100000
set_option maxHeartbeats 8000000
set_option linter.all false
namespace Go.Proofs.YtpmbddooibgnaaaGreatDoor
open Go.RowKit
def ah := @_root_.Go.Lib.hid
def aj := @_root_.Array.getElem?_eq_some_iff
def ak := @_root_.List.setIfInBounds_toArray
def au := @_root_.And.intro
def ax := @_root_.List.set_cons_succ
def ay := @_root_.List.set_cons_zero
def aA := @_root_.Nat.lt_of_lt_of_le
def aB := @_root_.List.length_append
def aC := @_root_.Nat.le_refl
def aD := @_root_.Go.World.block_lt_of_cell?
def aH := @_root_.Go.heap_alloc_new
def aI := @_root_.Nat.le_trans
def aJ := @_root_.Go.RowKit.Below.refl
def aK := @_root_.Array.getElem?_modify
def aL := @_root_.List.take_of_length_le
def aM := @_root_.Go.IntWalk.i64_in
def aO := @_root_.List.take_succ_eq_append_getElem
def aQ := @_root_.List.length_take
def aR := @_root_.Nat.zero_le
def aU := @_root_.Go.Proofs.Tryz.underlying154
def aW := @_root_.List.mem_cons
def aX := @_root_.Nat.not_lt
def aY := @_root_.List.mem_cons_self
def aZ := @_root_.List.length_cons
def bn := @_root_.List.mem_cons_of_mem
def bA := @_root_.List.append_assoc
def bB := @_root_.List.getElem?_eq_getElem
def bD := @_root_.Go.World.size_alloc
def bF := @_root_.of_decide_eq_true
def bG := @_root_.List.length_drop
def bH := @_root_.Go.Proofs.Tryz.underlying9
def bJ := @_root_.List.getElem_mem
def bK := @_root_.List.eq_nil_of_length_eq_zero
def bL := @_root_.List.take_length
def bM := @_root_.List.take_append_drop
def bO := @_root_.List.getElem?_eq_some_iff
def bP := @_root_.List.getElem?_append_right
def bQ := @_root_.List.not_mem_nil
def bU := @_root_.decide_eq_false
def bV := @_root_.Go.Proofs.Tryz.underlying3
def bW := @_root_.List.take_append_of_le_length
def bX := @_root_.Go.IntKind.wrap_i64
def cu := @_root_.List.mem_singleton
def cB := @_root_.List.mem_append_right
def cO := @_root_.Nat.lt_irrefl
def dm := @_root_.List.getElem?_cons_succ
def dw := @_root_.Nat.mul_le_mul_right
def dx := @_root_.Nat.min_eq_left
def dz := @_root_.Int.toNat_natCast
def dA := @_root_.Bool.and_eq_true
def dB := @_root_.List.drop_eq_getElem_cons
def dD := @_root_.Nat.add_sub_cancel_left
def dF := @_root_.List.map_append
def dH := @_root_.List.mem_append_left
def dJ := @_root_.Go.bodyPost_ret
def dL := @_root_.List.getElem?_map
def dN := @_root_.Option.some.inj
def dO := @_root_.List.set_append_right
def dP := @_root_.List.length_singleton
def dR := @_root_.Go.Proofs.Tryz.underlying39
def dU := @_root_.decide_eq_true_eq
def dV := @_root_.List.append_nil
def dW := @_root_.Go.Proofs.Tryz.underlying197
def dX := @_root_.Go.Proofs.Tryz.underlying5
def dY := @_root_.List.drop_zero
def dZ := @_root_.UInt8.toNat_ofNat'
def eB := @_root_.List.mem_append
def eF := @_root_.Go.Proofs.Tryz.underlying4
def eO := @_root_.Nat.le_of_eq
def eP := @_root_.List.map_cons
def eT := @_root_.List.drop_left'
def eY := @_root_.Nat.mul_one
def fe := @_root_.Go.leaves_cons
def fB := @_root_.Nat.add_mul
def fD := @_root_.List.pairwise_cons
def fE := @_root_.List.getD_eq_getElem?_getD
def fH := @_root_.Go.Proofs.Tryz.zeroValue3
def fI := @_root_.List.getElem?_append_left
def fJ := @_root_.or_false
def fK := @_root_.List.flatMap_cons
def fT := @_root_.Go.Proofs.Tryz.zeroValue9
def fV := @_root_.beq_eq_false_iff_ne
def fZ := @_root_.Nat.zero_add
def gq := @_root_.decide_eq_true
def gu := @_root_.Go.Proofs.Tryz.underlying184
def gF := @_root_.Go.heap_setCell_same
def gJ := @_root_.Nat.le_of_lt
def gL := @_root_.Go.Proofs.Tryz.zeroValue4
def gM := @_root_.Go.Proofs.Tryz.underlying0
def gT := @_root_.List.take_zero
def gU := @_root_.List.take_left'
def gX := @_root_.Go.run_underlying
def gY := @_root_.List.length_pos_iff
def iq := @_root_.Go.Proofs.Tryz.underlying146
def iA := @_root_.Go.Addr.add_lit
def iC := @_root_.Go.Proofs.Tryz.zeroValue5
def iD := @_root_.Go.Proofs.Tryz.zeroValue0
def iG := @_root_.List.map_take
def iL := @_root_.Go.run_string_add
def iM := @_root_.Go.Proofs.Tryz.sizeOf3
def iN := @_root_.List.mem_map
def iP := @_root_.List.drop_length
def iT := @_root_.List.take_succ_cons
def iW := @_root_.Go.Proofs.Tryz.underlying232
def iZ := @_root_.Array.getElem?_toList
def ja := @_root_.Go.Result.andThen_ok
def jc := @_root_.List.take_left
def jd := @_root_.Go.Proofs.Tryz.sizeOf9
def jf := @_root_.List.getElem?_take
def jg := @_root_.BitVec.toNat_ofNat
def jk := @_root_.Go.run_loadVar_row
def jm := @_root_.Go.Proofs.Tryz.zeroValue232
def jo := @_root_.Go.Proofs.Tryz.isAgg3
def jy := @_root_.List.map_drop
def jB := @_root_.Go.Proofs.Tryz.sizeOf4
def jC := @_root_.Nat.lt_or_ge
def jD := @_root_.Nat.add_zero
def jE := @_root_.List.take_take
def jJ := @_root_.Option.map_some
def jK := @_root_.List.sum_append
def jL := @_root_.List.length_nil
def jM := @_root_.List.length_map
def jO := @_root_.Go.Proofs.Tryz.isAgg9
def jQ := @_root_.if_true
def jX := @_root_.Nat.not_le
def jY := @_root_.Nat.mod_eq_of_lt
def kr := @_root_.Go.Proofs.Tryz.underlying45
def ku := @_root_.Go.Proofs.Tryz.sizeOf5
def kE := @_root_.Go.Proofs.Tryz.sizeOf0
def kF := @_root_.Nat.sub_self
def kG := @_root_.List.sum_cons
def kK := @_root_.List.mem_of_mem_take
def kL := @_root_.BitVec.ofInt_natCast
def kM := @_root_.Go.Proofs.Tryz.isAgg4
def kT := @_root_.Array.getElem?_setIfInBounds
def kX := @_root_.List.drop_succ_cons
def lK := @_root_.Nat.one_mul
def lN := @_root_.Go.Proofs.Tryz.sizeOf232
def lQ := @_root_.Go.Proofs.Tryz.isAgg5
def lS := @_root_.Go.Proofs.Tryz.isAgg0
def lU := @_root_.Go.Sem.run_bind
def lX := @_root_.List.perm_append_comm
def mI := @_root_.List.pairwise_iff_getElem
def mO := @_root_.Go.Proofs.Tryz.isAgg232
def mP := @_root_.Prod.mk.injEq
def mQ := @_root_.Nat.mod_lt
def mR := @_root_.Nat.add_assoc
def mU := @_root_.Go.RowKit.Below.heap_alloc
def nu := @_root_.Go.Proofs.Tryz.underlying292
def ny := @_root_.Go.Proofs.Tryz.results53
def nI := @_root_.Go.wpS_region
def nJ := @_root_.List.getElem_of_mem
def nK := @_root_.List.flatMap_append
def nP := @_root_.Nat.lt_succ_self
def nQ := @_root_.List.drop_take
def nR := @_root_.List.drop_drop
def ou := @_root_.List.drop_append_of_le_length
def ow := @_root_.Go.Proofs.Tryz.underlying88
def oz := @_root_.List.map_nil
def oF := @_root_.Nat.not_lt_zero
def oG := @_root_.List.nil_append
def oQ := @_root_.List.getElem_set_self
def oU := @_root_.ByteArray.size_append
def pu := @_root_.Nat.two_pow_add_eq_or_of_lt
def pz := @_root_.List.size_toArray
def pF := @_root_.Go.Proofs.Tryz.zeroValue88
def pO := @_root_.Go.World.cell?_alloc_new
def pU := @_root_.Nat.le_succ
def qd := @_root_.Go.Proofs.Tryz.underlying333
def qg := @_root_.List.mem_flatMap
def qh := @_root_.Eq.symm
def qJ := @_root_.List.getElem_append_right
def qM := @_root_.List.mergeSort_perm
def qN := @_root_.Array.length_toList
def qU := @_root_.Go.results_cell_row
def rT := @_root_.Go.run_append_grow_src
def rU := @_root_.List.length_set
def rV := @_root_.Bool.false_eq_true
def tT := @_root_.Go.grownCap_le_maxLen
def uj := @_root_.Nat.add_comm
def ul := @_root_.List.getElem_take
def um := @_root_.List.getElem?_set_self
def uq := @_root_.ByteArray.data_extract
def vK := @_root_.Go.wpS_seq
def vL := @_root_.Go.growslice_fits
def vZ := @_root_.beq_iff_eq
def wh := @_root_.Go.Proofs.Tryz.sizeOf88
def wm := @_root_.List.map_toArray
def wK := @_root_.Go.Proofs.Tryz.underlying558
def wL := @_root_.Go.Proofs.Tryz.underlying283
def wM := @_root_.Go.Proofs.Tryz.underlying153
def wN := @_root_.List.pairwise_append
def wO := @_root_.List.mem_of_mem_drop
def wP := @_root_.List.mem_of_getElem?
def wQ := @_root_.Array.toList_extract
def xC := @_root_.Go.info_parts
def xD := @_root_.Go.callsD_of_wpS
def xE := @_root_.UInt8.toNat_inj
def xG := @_root_.List.nodup_cons
def xH := @_root_.Bool.or_eq_true
def yR := @_root_.Go.wpList_lookup_own_ok
def yU := @_root_.Go.Proofs.Tryz.zeroValue292
def yV := @_root_.Go.Proofs.Tryz.zeroValue154
def yX := @_root_.Go.Proofs.Tryz.underlying21
def yY := @_root_.Go.Proofs.Tryz.underlying20
def yZ := @_root_.Go.Proofs.Tryz.ntmps18
def y9 := @_root_.Go.Proofs.Tryz.isAgg88
def za := @_root_.Array.getD_eq_getD_getElem?
def Ai := @_root_.Nat.add_sub_cancel
def Aj := @_root_.List.exists_cons_of_ne_nil
def Ak := @_root_.List.drop_left
def Am := @_root_.Int.tmod_eq_emod_of_nonneg
def Az := @_root_.Go.Sem.run_pure
def AX := @_root_.Go.Proofs.Tryz.zeroValue21
def AY := @_root_.Go.Proofs.Tryz.zeroValue20
def AZ := @_root_.Classical.byContradiction
def Cu := @_root_.Nat.lt_succ_of_lt
def Cv := @_root_.List.pairwise_map
def Cw := @_root_.List.foldl_append
def Cx := @_root_.List.Pairwise.nil
def CF := @_root_.Go.Proofs.Tryz.func18
def Ea := @_root_.List.all_eq_true
def Eb := @_root_.Int.eq_ofNat_of_zero_le
def Ec := @_root_.Array.toList_inj
def Ff := @_root_.Go.run_call_load
def Fh := @_root_.Go.Proofs.Tryz.func458
def Fj := @_root_.Nat.zero_mul
def Fp := @_root_.Nat.div_div_eq_div_mul
def Fq := @_root_.List.getElem_cons_succ
def Fs := @_root_.List.drop_of_length_le
def Fu := @_root_.Array.getElem?_eq_none
def Fv := @_root_.Array.ext'
def IE := @_root_.Go.wpS_of_wp
def IG := @_root_.BitVec.toNat_or
def IJ := @_root_.Go.Proofs.Tryz.underlying504
def IK := @_root_.Go.Proofs.Tryz.underlying503
def IL := @_root_.Go.Proofs.Tryz.underlying501
def IQ := @_root_.Go.Proofs.Tryz.underlying260
def IU := @_root_.Go.Proofs.Tryz.underlying246
def IV := @_root_.Go.Proofs.Tryz.underlying209
def IW := @_root_.Go.Proofs.Tryz.sizeOf292
def IX := @_root_.Go.Proofs.Tryz.sizeOf154
def IY := @_root_.Go.Proofs.Tryz.results62
def IZ := @_root_.List.length_filter_le
def I4 := @_root_.List.eq_nil_or_concat
def I5 := @_root_.List.concat_eq_append
def I6 := @_root_.Go.RowKit.Below.drew
def Kw := @_root_.Go.Src.ofString
def LF := @_root_.List.set_append_left
def LG := @_root_.List.Perm.refl
def NH := @_root_.Go.World.cell?_alloc_old
def NI := @_root_.Go.Proofs.Tryz.zeroValue504
def NJ := @_root_.Go.Proofs.Tryz.zeroValue503
def NK := @_root_.Iff.rfl
def NP := @_root_.Go.Proofs.Tryz.sizeOf21
def NQ := @_root_.Go.Proofs.Tryz.sizeOf20
def NR := @_root_.Go.Proofs.Tryz.isAgg292
def NS := @_root_.Go.Proofs.Tryz.isAgg154
def NT := @_root_.List.getElem?_range
def NU := @_root_.List.flatten_append
def NV := @_root_.Array.toList_append
def QX := @_root_.Go.wp_load_mid
def QY := @_root_.Go.size_zeroCells
def QZ := @_root_.Go.grownCap_ge
def Q0 := @_root_.Go.cell_of_row
def Q5 := @_root_.Go.World.cell?_of_block
def Q6 := @_root_.List.take_nil
def Q7 := @_root_.ByteArray.ext
def Q9 := @_root_.Go.wpOp_mono
def Ra := @_root_.Nat.eq_zero_or_pos
def Rb := @_root_.Int.emod_lt_of_pos
def Tt := @_root_.Go.run_firstCells_some
def Tv := @_root_.Go.run_callFunc_extern
def Tw := @_root_.List.set_eq_take_append_cons_drop
def Ua := @_root_.Go.length_splice
def Ub := @_root_.Go.Proofs.Tryz.isAgg21
def Uc := @_root_.Go.Proofs.Tryz.isAgg20
def Ud := @_root_.Go.Proofs.Tryz.func197
def Ue := @_root_.Option.some.injEq
def Uf := @_root_.Nat.succ_mul
def Ug := @_root_.Nat.pow_succ
def Uh := @_root_.Nat.min_self
def Ui := @_root_.Nat.le_succ_of_le
def Uj := @_root_.List.set_set
def Uk := @_root_.List.nodup_append
def Ul := @_root_.List.map_map
def Um := @_root_.List.getElem_drop
def Un := @_root_.Classical.not_not
def VY := @_root_.Go.run_slice_string_h
def VZ := @_root_.Go.World.ownsMap.drew
def V8 := @_root_.Option.getD_some
def V9 := @_root_.Option.bind_some
def Wd := @_root_.List.cons_append
def Wh := @_root_.List.any_eq_true
def XD := @_root_.Go.wp_scope_straight
def Stop (p:Prop):Prop:=p
theorem Stop.of {p:Prop}(h:Stop p):p:=h
theorem Stop.on {p:Prop}(h:p):Stop p:=h
structure Keep (M:Nat->Prop)(w w':World):Prop where
 os:w'.os=w.os
 tape:w'.tape=w.tape
 output:w'.output=w.output
 size:w.heap.size<=w'.heap.size
 block:∀k,k<w.heap.size->¬M k->w'.heap[k]? =w.heap[k]?
theorem Keep.refl (M:Nat->Prop)(w:World):Keep M w w:=⟨rfl,rfl,rfl,aC _,fun _ _ _=>rfl⟩
theorem Keep.trans {M e:Nat->Prop}{a b c:World}(h:Keep M a b)(k:Keep e b c)(g:∀i,i<a.heap.size->e i->M i):Keep M a c:=
 ⟨k.os.trans h.os,k.tape.trans h.tape,k.output.trans h.output,aI h.size k.size,
  fun i d f=>(k.block i (aA d h.size) (fun x=>f (g i d x))).trans (h.block i d f)⟩
theorem Keep.mono {M M':Nat->Prop}{a b:World}(h:Keep M a b)(d:∀i,i<a.heap.size->M i->M' i):Keep M' a b:=
 ⟨h.os,h.tape,h.output,h.size,fun i c e=>h.block i c (fun x=>e (d i c x))⟩
theorem Keep.alloc {M:Nat->Prop}{a w:World}(h:Keep M a w)(o:Obj):Keep M a (w.alloc o):=
 ⟨h.os,h.tape,h.output,aI h.size (by simp),fun k b c=>(mU w o k (aA b h.size)).trans (h.block k b c)⟩
theorem Keep.drew {M:Nat->Prop}{a w:World}(h:Keep M a w):Keep M a w.drew:=⟨h.os,h.tape,h.output,h.size,h.block⟩
theorem Keep.setCell {M:Nat->Prop}{a w:World}(h:Keep M a w){p:Addr}(d:a.heap.size<=p.block\/M p.block)(u:Value):Keep M a (w.setCell p u):=
 ⟨h.os,h.tape,h.output,aI h.size (by simp),fun k b c=>(Below.heap_setCell w p u k (by rintro rfl;exact d.elim (fun x=>absurd b (aX.2 x)) c)).trans (h.block k b c)⟩
theorem Keep.of_below {w w':World}(h:Below w.heap.size w w')(M:Nat->Prop):Keep M w w':=
 ⟨h.os,h.tape,h.output,h.size,fun k a _=>h.block k a⟩
theorem Keep.below {w w':World}(h:Keep (fun _=>False) w w'):Below w.heap.size w w':=
 ⟨h.os,h.tape,h.output,h.size,fun k a=>h.block k a id⟩
theorem Keep.fw {M:Nat->Prop}{a b:World}(h:Keep M a b){B:Nat}(hB:B<=a.heap.size)(d:∀i,i<B->¬M i):Below B a b:=
 ⟨h.os,h.tape,h.output,h.size,fun k c=>h.block k (aA c hB) (d k c)⟩
theorem Keep.grown {M:Nat->Prop}{a w w':World}{b:Option Nat}(h:Keep M a w)(c:w.grownBy w' b)(g:∀k,b=some k->a.heap.size<=k\/M k):Keep M a w':=
 ⟨c.os.trans h.os,c.tape.trans h.tape,c.output.trans h.output,aI h.size c.size,
  fun k d f=>(c.block k (aA d h.size) (fun e=>(g k e.symm).elim (fun x=>absurd d (aX.2 x)) f)).trans (h.block k d f)⟩
theorem Keep.cell {M:Nat->Prop}{w w':World}(h:Keep M w w'){p:Addr}(a:p.block<w.heap.size)(b:¬M p.block):w'.cell? p=w.cell? p:=
 Q5 (w:=w) (h.block p.block a b)
theorem Keep.frozen {M:Nat->Prop}{w w':World}(h:Keep M w w'){p:Addr}(a:p.block<w.heap.size)(b:¬M p.block):w'.frozen? p=w.frozen? p:=
 World.frozen?_of_block (w:=w) (h.block p.block a b)
def eG:Nat->Prop:=fun _=>False
def Step (S S':Nat->Prop)(w w':World):Prop:=Keep S w w'/\∀g,S' g->S g\/w.heap.size<=g
theorem Step.refl (S:Nat->Prop)(w:World):Step S S w w:=⟨Keep.refl _ _,fun _ h=> .inl h⟩
theorem Step.trans {S S' d:Nat->Prop}{a b c:World}(h:Step S S' a b)(k:Step S' d b c):Step S d a c:=
 ⟨h.1.trans k.1 fun i f j=>(h.2 i j).elim id (fun x=>absurd f (aX.2 x)),
  fun g e=>(k.2 g e).elim (fun x=>h.2 g x) (fun x=> .inr (aI h.1.size x))⟩
theorem Step.of_below {S:Nat->Prop}{w w':World}(h:Below w.heap.size w w'):Step S S w w':=⟨Keep.of_below h S,fun _ h=> .inl h⟩
def bq (w:World)(S:Nat->Prop)(k:Nat)(v:Value)(n:Nat)(xs:List Value):Prop:=
 ∃ao c,v= .slice ao n c/\n<=c/\c<=maxLen/\xs.length=n*k/\(ao=none->n=0/\c=0)/\(∀ad,ao=some ad->ad.spot=none/\ad.block<w.heap.size/\¬S ad.block)/\
  ∀j u,xs[j]? =some u->∃b o,ao=some ⟨b,o,none⟩/\w.cell? ⟨b,o+j,none⟩=some u
theorem bq.keep {w w':World}{S S':Nat->Prop}{k n:Nat}{v:Value}{xs:List Value}(h:bq w S k v n xs)
  (e:∀g,v.ownBlock=some g->g<w.heap.size->¬S g->w'.heap[g]? =w.heap[g]?/\¬S' g):bq w' S' k v n xs:=by
 obtain⟨y,c,rfl,q,m,x,p,f,r⟩:=h
 refine⟨y,c,rfl,q,m,x,p,fun i d=> ?_,fun j u s=> ?_⟩
 ·have:=f i d
  have l:=e i.block (by rw[d];rfl) this.2.1 this.2.2
  refine⟨this.1,?_,l.2⟩
  exact(aj.1 (l.1.trans (Array.getElem?_eq_getElem this.2.1))).1
 ·obtain⟨b,o,rfl,t⟩:=r j u s
  have:=f _ rfl
  exact⟨b,o,rfl,(Q5 (w:=w) (a:=⟨b,o+j,none⟩) (e b rfl this.2.1 this.2.2).1).trans t⟩
theorem bq.step {w w':World}{S S':Nat->Prop}{k n:Nat}{v:Value}{xs:List Value}(h:bq w S k v n xs)(b:Step S S' w w'):bq w' S' k v n xs:=
 h.keep fun g _ c a=>⟨b.1.block g c a,fun x=>(b.2 g x).elim a (fun y=>absurd c (aX.2 y))⟩
theorem bq.below {w w':World}{S:Nat->Prop}{k n:Nat}{v:Value}{xs:List Value}(h:bq w S k v n xs)(a:Below w.heap.size w w'):bq w' S k v n xs:=
 h.step (Step.of_below a)
theorem bq.nil (w:World)(S:Nat->Prop)(k:Nat):bq w S k (.slice none 0 0) 0 []:=
 ⟨none,0,rfl,aC _,aR _,by simp,fun _=>⟨rfl,rfl⟩,(fun _ h=>by cases h),(fun j u h=>by simp at h)⟩
theorem bq.form {w:World}{S:Nat->Prop}{k n:Nat}{v:Value}{xs:List Value}(h:bq w S k v n xs):
  ∃a c,v= .slice a n c/\n<=c/\c<=9223372036854775807/\(n=0\/∃b o,a=some ⟨b,o,none⟩)/\(a=none->c=0):=by
 obtain⟨a,c,rfl,f,g,l,d,i,j⟩:=h
 refine⟨a,c,rfl,f,by simpa [maxLen] using g,?_,fun h=>(d h).2⟩
 rcases a with _|⟨b,o,e⟩
 ·exact .inl (d rfl).1
 ·obtain rfl:e=none:=(i _ rfl).1
  exact .inr ⟨b,o,rfl⟩
theorem bq.upto {w:World}{S:Nat->Prop}{k n c:Nat}{b:Option Addr}{xs:List Value}(h:bq w S k (.slice b n c) n xs)(j:Nat)(l:j<=n):bq w S k (.slice b j c) j (xs.take (j*k)):=by
 obtain⟨g,s,p,r,f,q,d,o,m⟩:=h
 cases p
 refine⟨b,c,rfl,by omega,f,by rw[aQ,q];exact dx (dw _ l),fun e=>⟨by have:=(d e).1;omega,(d e).2⟩,o,fun i u a=> ?_⟩
 rw[jf] at a
 split at a
 ·exact m i u a
 ·cases a
theorem bq.after {w:World}{S:Nat->Prop}{k n c:Nat}{d:Option Addr}{xs:List Value}(h:bq w S k (.slice d n c) n xs)(i:Nat)(D:i<=n):
  bq w S k (.slice (if c=i then d else d.map fun x=>x.add (i*k)) (n - i) (c - i)) (n - i) (xs.drop (i*k)):=by
 obtain⟨s,E,z,C,B,A,m,q,t⟩:=h
 cases z
 have a:(xs.drop (i*k)).length=(n - i)*k:=by rw[bG,A,Nat.sub_mul]
 by_cases l:c=i
 ·rw[if_pos l]
  have e:xs.drop (i*k)=[]:=bK (by rw[a,show n - i=0 by omega,Fj])
  refine⟨d,c - i,rfl,by omega,by omega,a,fun e=>⟨by have:=(m e).1;omega,by have:=(m e).2;omega⟩,q,fun j u f=> ?_⟩
  rw[e] at f;simp at f
 ·rw[if_neg l]
  refine⟨_,c - i,rfl,by omega,by omega,a,fun e=> ?_,fun y g=> ?_,fun j u f=> ?_⟩
  ·cases d with
   |none=>have:=m rfl;omega
   |some y=>cases e
  ·cases d with
   |none=>cases g
   |some p=>
    have:=q p rfl
    obtain⟨b,o,v⟩:=p
    cases g
    have r:v=none:=this.1
    subst r
    simp only[iA]
    exact⟨trivial,this.2⟩
  ·rw[List.getElem?_drop] at f
   obtain⟨b,o,e,l⟩:=t _ u f
   subst e
   refine⟨b,o+i*k,by simp[iA],?_⟩
   rw[mR];exact l
theorem bq.Cq {w:World}{S:Nat->Prop}{v:Value}{n:Nat}{xs:List Value}(h:bq w S 1 v n xs){a:Option Addr}{j c:Nat}(g:v= .slice a j c)(i:Nat)(u:Value)(f:xs[i]? =some u):
  ∃b o,a=some ⟨b,o,none⟩/\w.cell? ⟨b,o+i,none⟩=some u:=by
 obtain⟨d,k,rfl,_,_,_,_,_,e⟩:=h
 cases g
 exact e _ _ f
def aV (w:World)(S:Nat->Prop)(B e k:Nat)(v:Value)(n:Nat)(xs:List Value):Prop:=
 w.ownsRow B e k v n xs/\∀g,v.ownBlock=some g->¬S g
theorem aV.dM {w:World}{S:Nat->Prop}{B e k n:Nat}{v:Value}{xs:List Value}(h:aV w S B e k v n xs):bq w S k v n xs:=by
 obtain⟨⟨i,q⟩,m⟩:=h
 rcases q with ⟨rfl,rfl⟩|⟨g,d,b,rfl,_,f,o,l,t,p⟩
 ·have:xs=[]:=bK (by simpa using i)
  subst this;exact bq.nil _ _ _
 ·refine⟨_,d,rfl,o,l,i,by simp,fun s c=> ?_,fun j u a=>⟨g,0,rfl,?_⟩⟩
  ·cases c;exact⟨rfl,(aj.1 f).1,m g rfl⟩
  ·have r:=(bO.1 a).1
   rw[fZ]
   rw[Q0 w g j b e (0,0) f]
   rw[<-p,jf] at a
   split at a
   ·simpa using a
   ·cases a
theorem aV.nil (w:World)(S:Nat->Prop)(B e k:Nat):aV w S B e k (.slice none 0 0) 0 []:=⟨World.ownsRow_nil w B e k,by simp[Value.ownBlock]⟩
theorem aV.keep {w w':World}{S S':Nat->Prop}{B e k n:Nat}{v:Value}{xs:List Value}(h:aV w S B e k v n xs)
  (i:∀g,v.ownBlock=some g->g<w.heap.size->¬S g->w'.heap[g]? =w.heap[g]?/\¬S' g):aV w' S' B e k v n xs:=by
 obtain⟨⟨f,o⟩,l⟩:=h
 rcases o with ⟨rfl,rfl⟩|⟨g,b,a,rfl,j,d,m⟩
 ·exact⟨⟨f,.inl ⟨rfl,rfl⟩⟩,by simp[Value.ownBlock]⟩
 ·have:=i g rfl (aj.1 d).1 (l g rfl)
  exact⟨⟨f,.inr ⟨g,b,a,rfl,j,this.1.trans d,m⟩⟩,fun p c=>by cases c;exact this.2⟩
theorem aV.lt {w:World}{S:Nat->Prop}{B e k n:Nat}{v:Value}{xs:List Value}(h:aV w S B e k v n xs):v.ownBlock≠some w.heap.size:=fun e=>absurd (h.1.lt _ e).2 (cO _)
theorem aV.lt' {w:World}{S:Nat->Prop}{B e k n:Nat}{v:Value}{xs:List Value}(h:aV w S B e k v n xs){g:Nat}(a:w.heap.size<=g):v.ownBlock≠some g:=fun e=>absurd (h.1.lt _ e).2 (aX.2 a)
theorem aV.drew {w:World}{S:Nat->Prop}{B e k n:Nat}{v:Value}{xs:List Value}(h:aV w S B e k v n xs):aV w.drew S B e k v n xs:=h
theorem aV.step {w w':World}{S S':Nat->Prop}{B e k n:Nat}{v:Value}{xs:List Value}(h:aV w S B e k v n xs)(b:Step S S' w w'):aV w' S' B e k v n xs:=
 h.keep fun g _ c a=>⟨b.1.block g c a,fun x=>(b.2 g x).elim a (fun y=>absurd c (aX.2 y))⟩
theorem aV.below {w w':World}{S:Nat->Prop}{B e k n:Nat}{v:Value}{xs:List Value}(h:aV w S B e k v n xs)(a:Below w.heap.size w w'):aV w' S B e k v n xs:=
 h.step (Step.of_below a)
theorem bq.src {P:Program}{w:World}{S:Nat->Prop}{k n:Nat}{v:Value}{xs:List Value}(h:bq w S k v n xs){a g:TypeId}(d:P.underlying a=some (.slice g))(i:∀u∈xs,u.oneCell'=true):Src P k a v n xs w:=by
 obtain⟨x,c,rfl,_,_,f,l,r,m⟩:=h
 cases x with
 |none=>
  obtain⟨rfl,rfl⟩:=l rfl
  have:xs=[]:=bK (by simpa using f)
  subst this
  exact Src.ofNil w d 0
 |some s=>
  obtain⟨b,o,p⟩:=s
  obtain rfl:p=none:=(r _ rfl).1
  refine Src.ofSlice w d ⟨b,o,none⟩ n c xs f (fun j u q=> ?_) i
  obtain⟨y,z,e,t⟩:=m j u q
  cases e
  rw[iA];exact t
theorem iB {P:Program}{w:World}(a:List Value)(T k n c:Nat){tx l:TypeId}{g:Nat}(f:w.heap.size=g)(d:P.underlying tx=some (.slice l))(i:a.length=n*k)(e:∀u∈a,u.oneCell'=true):
  Src P k tx (.slice (some ⟨g,0,none⟩) n c) n a (w.alloc (.cells a.toArray T)):=by
 subst f
 refine Src.ofSlice _ d _ n c a i (fun j u b=> ?_) e
 rw[iA,fZ,pO]
 simpa using b
theorem yc {w:World}{S:Nat->Prop}{B e k:Nat}(d:List Value)(n c:Nat){g:Nat}(b:w.heap.size=g)(f:d.length=c*k)(a:n<=c)(l:c<=maxLen)(hB:B<=w.heap.size)(i:∀g,S g->g<w.heap.size):
  aV (w.alloc (.cells d.toArray e)) S B e k (.slice (some ⟨g,0,none⟩) n c) n (d.take (n*k)):=by
 subst b
 refine⟨⟨?_,.inr ⟨_,c,_,rfl,hB,aH w _,a,l,by simpa using f,rfl⟩⟩,fun g b j=> ?_⟩
 ·rw[aQ,f];exact dx (dw _ a)
 ·cases b;exact absurd (i _ j) (cO _)
theorem kP {S:Nat->Prop}{w:World}(h:∀g,S g->g<w.heap.size)(o:Obj):∀g,S g->g<(w.alloc o).heap.size:=fun g a=>by
 rw[bD];exact Cu (h g a)
theorem zn {S:Nat->Prop}{w w':World}{B:Nat}(h:∀g,S g->g<w.heap.size)(a:Below B w w'):∀g,S g->g<w'.heap.size:=fun g b=>aA (h g b) a.size
theorem aG (w:World)(o:Obj):Below w.heap.size w (w.alloc o):=(aJ _ _).alloc (aC _) _
theorem iY (w:World)(o a:Obj):Below w.heap.size w ((w.alloc o).alloc a):=(aG w o).alloc (by simp) _
theorem Ip (w:World)(o b a:Obj):Below w.heap.size w (((w.alloc o).alloc b).alloc a):=(iY w o b).alloc (by simp;omega) _
section
variable {P:Program}
theorem Rz (w:World)(S:Nat->Prop)(B:Nat)(t N V e:TypeId)(i:TypeInfo)(z:Value)(k C:Nat)(X:P.underlying t=some (.slice e))(W:P.info? e=some i)(hz:i.zero=some z)
  (I:i.size=k) (Z:i.bytes=C) (qb:z.cells.size=k)
  (v:Value) (n:Nat) (xs:List Value) (b:aV w S B e k v n xs) (x:Value) (m:Nat) (a:List Value) (q:Src P k N x m a w)
  (hS:∀g,S g->g<w.heap.size) (A:B<=w.heap.size) (M:n+m<=maxLen) (p:(n+m)*C<=140737488355328):
  ∃D c w',(Builtin.append_ #[t,N] V #[v,x]).run P w= .ok (.slice D (n+m) c) w'/\aV w' S B e k (.slice D (n+m) c) (n+m) (xs++a)/\Keep (fun g=>v.ownBlock=some g) w w'/\Below B w w'/\
   (∀g,g<w.heap.size->v.ownBlock≠some g->(Value.slice D (n+m) c).ownBlock≠some g):=by
 suffices R:∃D c w',(Builtin.append_ #[t,N] V #[v,x]).run P w= .ok (.slice D (n+m) c) w'/\aV w' S B e k (.slice D (n+m) c) (n+m) (xs++a)/\Keep (fun g=>v.ownBlock=some g) w w'/\
   ((Value.slice D (n+m) c).ownBlock=v.ownBlock\/∃g,D=some ⟨g,0,none⟩/\w.heap.size<=g) by
  obtain⟨D,c,w',h1,h2,K,h4⟩:=R
  exact⟨D,c,w',h1,h2,K,⟨K.os,K.tape,K.output,K.size,fun g E=>K.block g (aA E A) (fun e=>absurd (b.1.lt g e).1 (jX.2 E))⟩,fun g E p9=>h4.elim (fun e=>e▸p9) (fun ⟨g',e,F⟩=>by rw[e];intro e';cases e';exact absurd E (aX.2 F))⟩
 subst I
 subst Z
 have Y:n+m<=9223372036854775807:=by simp only[maxLen] at M;omega
 have f:(xs++a).length=(n+m)*i.size:=by rw[aB,b.1.1,q.newsLen,fB]
 have s:∀(d:Nat),d<n+m->
   aV (w.drew.alloc (.cells ((xs++a).toArray++Builtin.zeroCells z.cells (grownCap w (n+m) d e - (n+m))) e)) S B e i.size
    (.slice (some ⟨w.heap.size,0,none⟩) (n+m) (grownCap w (n+m) d e)) (n+m) (xs++a)/\
   Keep (fun g=>v.ownBlock=some g) w (w.drew.alloc (.cells ((xs++a).toArray++Builtin.zeroCells z.cells (grownCap w (n+m) d e - (n+m))) e)):=by
  intro d ho
  have F:=QZ w (n+m) d e
  have G:grownCap w (n+m) d e<=maxLen:=tT w (n+m) d e M
  refine⟨⟨⟨f,.inr ⟨w.heap.size,_,_,rfl,A,aH w.drew _,F,G,?_,?_⟩⟩,fun g E hh=> ?_⟩,(Keep.refl _ w).drew.alloc _⟩
  ·simp only[Array.size_append,pz,f,QY,qb,<-fB]
   congr 1
   omega
  ·simp only[NV]
   rw[<-f]
   exact jc
  ·cases E;exact absurd (hS _ hh) (cO _)
 rcases b.1.2 with ⟨rfl,rfl⟩|⟨g,o,r,rfl,pV,E,qf,G,qc,J⟩
 ·have hx:xs=[]:=bK (by simpa using b.1.1)
  subst hx
  by_cases hm:m=0
  ·subst hm
   have hn:a=[]:=bK (by simpa using q.newsLen)
   subst hn
   refine⟨none,0,w,?_,aV.nil w S B e i.size,Keep.refl _ _,.inl rfl⟩
   rcases q.kind with ⟨e',H⟩|H<;>simp[Builtin.append_,gX X,gX H,sizeOf,typeInfo,W,q.len,q.cells]
  ·have hr:=rT (P:=P) w t N V e i z X W hz none 0 0 [] (run_firstCells_none w.drew i.size 0 0 0) x m a q (by omega) (by omega) (vL (by omega) p)
   have y:=s 0 (by omega)
   exact⟨_,_,_,hr,y.1,y.2,.inr ⟨_,rfl,aC _⟩⟩
 ·by_cases l:n+m<=o
  ·have Q:n*i.size+a.length<=r.size:=by rw[q.newsLen,qc,<-fB];exact dw _ l
   have T:=run_storeCells_at P g (n*i.size) e a 0 r w E (by simpa using Q) q.one
   simp only[jD] at T
   refine⟨some ⟨g,0,none⟩,o,w.setRow g (r.toList.take (n*i.size)++a++r.toList.drop (n*i.size+a.length)).toArray,?_,⟨⟨f,.inr ⟨g,o,_,rfl,pV,setRow_heap w g r _ e _ E,l,G,?_,?_⟩⟩,b.2⟩,
    ⟨rfl,rfl,rfl,by simp,fun k' _ H=>setRow_other w g k' _ (fun e=>H (by simp[Value.ownBlock,e]))⟩,.inl rfl⟩
   ·rcases q.kind with ⟨e',H⟩|H<;>simp[Builtin.append_,gX X,gX H,sizeOf,typeInfo,W,q.len,l,q.cells,iA,T]
   ·simp only[pz,aB,aQ,bG,qN]
    omega
   ·rw[J,<-f]
    exact jc
  ·have O:(Builtin.firstCells i.size n (.slice (some ⟨g,0,none⟩) n o)).run P w.drew= .ok xs.toArray w.drew:=
    Tt w.drew i.size n ⟨g,0,none⟩ n o xs b.1.1 (fun j u hu=>by simpa using b.1.cells (g:=g) rfl j u hu)
   have hr:=rT (P:=P) w t N V e i z X W hz (some ⟨g,0,none⟩) n o xs O x m a q (by omega) (by omega) (vL (by omega) p)
   have y:=s o (by omega)
   exact⟨_,_,_,hr,y.1,y.2,.inr ⟨_,rfl,aC _⟩⟩
theorem uI {o:Oper}{a:Act}{w:World}{K:Act->World->Prop}{Q:Exit->Act->World->Prop}(s y:Operand)(t D:TypeId)(M:o.op= .call {callee:= .builtin .append,args:=#[s,y],argTypes:=#[t,D]})
  (S:Nat->Prop) (B:Nat) (e:TypeId) (k b:Nat) (z:Value) (R:P.underlying t=some (.slice e)) (l:(P.info? e).map (fun i=>(i.zero,i.size,i.bytes))=some (some z,k,b)) (F:z.cells.size=k)
  (v:Value) (n:Nat) (xs:List Value) (W:a.eval s=v) (q:aV w S B e k v n xs) (x:Value) (m:Nat) (d:List Value) (G:a.eval y=x) (I:Src P k D x m d w)
  (J:∀g,S g->g<w.heap.size) (j:B<=w.heap.size) (C:n+m<=maxLen) (f:(n+m)*b<=140737488355328)
  (h:∀r c w',aV w' S B e k (.slice r (n+m) c) (n+m) (xs++d)->Keep (fun g=>v.ownBlock=some g) w w'->Below B w w'->
   (∀g,g<w.heap.size->v.ownBlock≠some g->(Value.slice r (n+m) c).ownBlock≠some g)->K (a.put o.dst (.slice r (n+m) c)) w'):o.wp P a w K Q:=by
 obtain⟨i,O,V,p,A⟩:=xC l
 obtain⟨r,c,w',T,H,X,E,N⟩:=Rz (P:=P) w S B t D o.type e i z k b R O V p A F v n xs q x m d I J j C f
 unfold Oper.wp execOp
 simp only[M,resolve,invoke,builtin,lU,Az,ja,wm,eP,oz,W,G,T]
 exact h r c w' H X E N
theorem dQ {q:Array Oper}{j:List Oper}{o:Oper}{a:Act}{w:World}{Q:Exit->Act->World->Prop}(D:o.guard=none)(s y:Operand)(t E:TypeId)(M:o.op= .call {callee:= .builtin .append,args:=#[s,y],argTypes:=#[t,E]})
  (S:Nat->Prop) (B:Nat) (e:TypeId) (k b:Nat) (z:Value) (O:P.underlying t=some (.slice e)) (p:(P.info? e).map (fun i=>(i.zero,i.size,i.bytes))=some (some z,k,b)) (G:z.cells.size=k)
  (v:Value) (n:Nat) (xs:List Value) (T:a.eval s=v) (r:aV w S B e k v n xs) (x:Value) (m:Nat) (d:List Value) (H:a.eval y=x) (J:Src P k E x m d w)
  (K:∀g,S g->g<w.heap.size) (l:B<=w.heap.size) (C:n+m<=maxLen) (f:(n+m)*b<=140737488355328)
  (h:∀A c w',aV w' S B e k (.slice A (n+m) c) (n+m) (xs++d)->Keep (fun g=>v.ownBlock=some g) w w'->Below B w w'->
   (∀g,g<w.heap.size->v.ownBlock≠some g->(Value.slice A (n+m) c).ownBlock≠some g)->wpList P q Q j (a.put o.dst (.slice A (n+m) c)) w'):wpList P q Q (o::j) a w:=
 wpList_plain D fun _ R=>uI s y t E M S B e k b z O p G v n xs T r x m d H J K l C f fun A c w' I V F N=>R _ _ (h A c w' I V F N)
theorem FN {p:Array Oper}{o:Oper}{a:Act}{w:World}{K:Act->World->Prop}{Q:Exit->Act->World->Prop}{E:Prop}(C:o.guard=none)(s y:Operand)(t D:TypeId)(J:o.op= .call {callee:= .builtin .append,args:=#[s,y],argTypes:=#[t,D]})
  (S:Nat->Prop) (B:Nat) (e:TypeId) (k b:Nat) (z:Value) (M:P.underlying t=some (.slice e)) (l:(P.info? e).map (fun i=>(i.zero,i.size,i.bytes))=some (some z,k,b)) (F:z.cells.size=k)
  (v:Value) (n:Nat) (xs:List Value) (O:a.eval s=v) (q:aV w S B e k v n xs) (x:Value) (m:Nat) (d:List Value) (G:a.eval y=x) (H:Src P k D x m d w)
  (I:∀g,S g->g<w.heap.size) (j:B<=w.heap.size) (r:n+m<=maxLen) (f:(n+m)*b<=140737488355328)
  (h:∀A c w',aV w' S B e k (.slice A (n+m) c) (n+m) (xs++d)->Keep (fun g=>v.ownBlock=some g) w w'->Below B w w'->
   (∀g,g<w.heap.size->v.ownBlock≠some g->(Value.slice A (n+m) c).ownBlock≠some g)->K (a.put o.dst (.slice A (n+m) c)) w'):
  if Region.wanted o (yielded p a.tmps)=true then Oper.wp P o a w K Q else E:=by
 have N:Region.wanted o (yielded p a.tmps)=true:=by simp[Region.wanted,C]
 rw[if_pos N]
 exact uI s y t D J S B e k b z M l F v n xs O q x m d G H I j r f h
end
def dG (ps:List (ByteArray×ByteArray)):List Value:=ps.flatMap fun p=>[.string p.1,.string p.2]
theorem lm (p:ByteArray×ByteArray)(a:List (ByteArray×ByteArray)):dG (p::a)= .string p.1:: .string p.2::dG a:=rfl
theorem Gb (a:List (ByteArray×ByteArray)):∀i (h:i<a.length),(dG a)[i*2]? =some (.string a[i].1)/\(dG a)[i*2+1]? =some (.string a[i].2):=by
 induction a with
 |nil=>intro i h;exact absurd h (by simp)
 |cons p a ih=>
  intro i h
  cases i with
  |zero=>simp[lm]
  |succ i=>
   have:=ih i (by simpa using h)
   rw[lm]
   refine⟨?_,?_⟩
   ·have e:(i+1)*2=i*2+1+1:=by omega
    rw[e,dm,dm];exact this.1
   ·have e:(i+1)*2+1=(i*2+1)+1+1:=by omega
    rw[e,dm,dm];exact this.2
theorem nW (a b:List (ByteArray×ByteArray)):dG (a++b)=dG a++dG b:=by simp[dG]
def aF (l:List UInt8):List Value:=l.map fun b=> .int .u8 (b.toNat:Int)
theorem fG (a b:List UInt8):aF (a++b)=aF a++aF b:=by simp[aF]
theorem bC (l:List UInt8):(aF l).length=l.length:=by simp[aF]
theorem yJ (s:ByteArray):byteCells s=aF s.data.toList:=rfl
def sQ (w:World)(S:Nat->Prop)(v:Value)(ps:List (ByteArray×ByteArray)):Prop:=bq w S 2 v ps.length (dG ps)
def qG (w:World)(S:Nat->Prop)(v:Value)(ss:List ByteArray):Prop:=bq w S 1 v ss.length (ss.map .string)
def pM (w:World)(S:Nat->Prop)(v:Value)(zs:List Int):Prop:=bq w S 1 v zs.length (zs.map (.int .i64))
def fA (w:World)(S:Nat->Prop)(v:Value)(l:List UInt8):Prop:=bq w S 1 v l.length (aF l)
theorem pM.at {w:World}{S:Nat->Prop}{v:Value}{zs:List Int}{a:Option Addr}{n c:Nat}(h:pM w S v zs)(d:v= .slice a n c)(i:Nat)(e:i<zs.length):
  ∃b o,a=some ⟨b,o,none⟩/\w.cell? ⟨b,o+i,none⟩=some (.int .i64 zs[i]):=bq.Cq h d i _ (by simp[e])
theorem qG.at {w:World}{S:Nat->Prop}{v:Value}{a:List ByteArray}{d:Option Addr}{n c:Nat}(h:qG w S v a)(e:v= .slice d n c)(i:Nat)(f:i<a.length):
  ∃b o,d=some ⟨b,o,none⟩/\w.cell? ⟨b,o+i,none⟩=some (.string a[i]):=bq.Cq h e i _ (by simp[f])
theorem fA.at {w:World}{S:Nat->Prop}{v:Value}{l:List UInt8}{a:Option Addr}{n c:Nat}(h:fA w S v l)(d:v= .slice a n c)(i:Nat)(e:i<l.length):
  ∃b o,a=some ⟨b,o,none⟩/\w.cell? ⟨b,o+i,none⟩=some (.int .u8 (l[i].toNat:Int)):=bq.Cq h d i _ (by simp[aF,e])
theorem sQ.at {w:World}{S:Nat->Prop}{v:Value}{a:List (ByteArray×ByteArray)}{j:Option Addr}{n c:Nat}(h:sQ w S v a)(q:v= .slice j n c)(i:Nat)(p:i<a.length):
  ∃b o,j=some ⟨b,o,none⟩/\w.cell? ⟨b,o+i*2,none⟩=some (.string a[i].1)/\w.cell? ⟨b,o+i*2+1,none⟩=some (.string a[i].2):=by
 obtain⟨l,r,rfl,_,_,_,_,_,g⟩:=h
 cases q
 have f:=Gb a i p
 obtain⟨b,o,e,m⟩:=g _ _ f.1
 obtain⟨s,t,d,k⟩:=g _ _ f.2
 rw[e] at d;cases d
 exact⟨b,o,e,m,k⟩
theorem fO (l:List UInt8):∀u∈aF l,u.oneCell'=true:=by
 intro u a;obtain⟨_,_,rfl⟩:=iN.1 a;rfl
theorem RQ (b:List (ByteArray×ByteArray)):∀u∈dG b,u.oneCell'=true:=by
 intro u c
 obtain⟨p,_,a⟩:=qg.1 c
 simp at a;rcases a with rfl|rfl<;>rfl
def Row (w:World)(g e:Nat)(cur:List Value):Prop:=w.heap[g]? =some (.cells cur.toArray e (0,0))
theorem Row.lt {w:World}{g e:Nat}{a:List Value}(h:Row w g e a):g<w.heap.size:=(aj.1 h).1
theorem Row.cell {w:World}{g e:Nat}{a:List Value}(h:Row w g e a)(j:Nat):w.cell? ⟨g,j,none⟩=a[j]? :=by
 have:=Q0 w g j a.toArray e (0,0) h
 simpa using this
theorem Row.frozen {w:World}{g e:Nat}{a:List Value}(h:Row w g e a)(j:Nat):w.frozen? ⟨g,j,none⟩=false:=by
 unfold Row at h;simp[World.frozen?,h]
theorem Row.keep {w w':World}{g e:Nat}{cur:List Value}{M:Nat->Prop}(h:Row w g e cur)(k:Keep M w w')(a:¬M g):Row w' g e cur:=(k.block g h.lt a).trans h
theorem aV.row {w:World}{S:Nat->Prop}{B e k n g b:Nat}{xs:List Value}(h:aV w S B e k (.slice (some ⟨g,0,none⟩) n b) n xs):
  ∃a,Row w g e a/\a.length=b*k/\a.take (n*k)=xs/\B<=g/\¬S g/\n<=b/\b<=maxLen:=by
 obtain⟨⟨r,m⟩,f⟩:=h
 rcases m with ⟨h,_⟩|⟨q,c,a,o,hB,l,i,d,p,j⟩
 ·cases h
 ·cases o
  exact⟨a.toList,l,by simpa using p,j,hB,f g rfl,i,d⟩
theorem aV.ne {w:World}{S:Nat->Prop}{B e k n b t:Nat}{v:Value}{xs:List Value}{l:Array Value}{f:Nat×Nat}(h:aV w S B e k v n xs)(a:w.heap[b]? =some (.cells l t f))(j:t≠e):v.ownBlock≠some b:=by
 intro c
 rcases h.1.2 with ⟨rfl,_⟩|⟨g,m,d,rfl,_,i,_⟩
 ·cases c
 ·cases c
  rw[i] at a;cases a;exact j rfl
theorem Row.own {w:World}{S:Nat->Prop}{B e k g cap:Nat}{a:List Value}(h:Row w g e a)(n:Nat)(c:a.length=cap*k)(hB:B<=g)(i:¬S g)(b:n<=cap)(d:cap<=maxLen):
  aV w S B e k (.slice (some ⟨g,0,none⟩) n cap) n (a.take (n*k)):=by
 refine⟨⟨?_,.inr ⟨g,cap,a.toArray,rfl,hB,h,b,d,by simpa using c,rfl⟩⟩,fun j f=>by cases f;exact i⟩
 rw[aQ,c];exact dx (dw _ b)
theorem Row.dM {w:World}{S:Nat->Prop}{e k g off:Nat}{a:List Value}(h:Row w g e a)(n c:Nat)(m:off+n*k<=a.length)(i:¬S g)(f:n<=c)(l:c<=maxLen):
  bq w S k (.slice (some ⟨g,off,none⟩) n c) n ((a.drop off).take (n*k)):=by
 refine⟨_,c,rfl,f,l,?_,by simp,fun o d=>by cases d;exact⟨rfl,h.lt,i⟩,fun j u b=>⟨g,off,rfl,?_⟩⟩
 ·rw[aQ,bG];omega
 ·rw[h.cell]
  rw[jf] at b
  split at b
  ·simpa using b
  ·cases b
theorem vQ {d:Type}(A Y T a:List d)(b:Nat)(hA:A.length=b)(c:Y.length=a.length):splice (A++(Y++T)) b a=A++(a++T):=by
 subst hA
 unfold splice
 rw[jc,<-c,<-bA A Y T,<-aB,Ak]
section
variable {P:Program}
theorem sZ {w:World}{g e off:Nat}{a:List Value}(h:Row w g e a)(b:List Value)(c:off+b.length<=a.length)(i:∀v∈b,v.oneCell'=true):
  ∃w',(storeCells ⟨g,off,none⟩ b 0).run P w= .ok () w'/\Row w' g e (splice a off b)/\Keep (· =g) w w':=by
 have d:=run_storeCells_at P g off e b 0 a.toArray w h (by simpa using c) i
 simp only[jD] at d
 refine⟨_,d,?_,⟨rfl,rfl,rfl,by simp,fun f _ j=>setRow_other w g f _ j⟩⟩
 have:=setRow_heap w g a.toArray (a.toArray.toList.take off++b++a.toArray.toList.drop (off+b.length)).toArray e (0,0) h
 unfold Row
 rw[this]
 simp[splice]
theorem FR {w:World}(t C D e:TypeId)(i:TypeInfo)(k:Nat)(p:P.underlying t=some (.slice e))(o:P.info? e=some i)(G:i.size=k){g j s n c dCap:Nat}{q:Option Addr}{d:List Value}(h:Row w g s d)
  (x:Value) (m:Nat) (a:(Builtin.lenOf x).run P w= .ok m w) (B:n=Nat.min m c) (b:List Value) (z:b.length=n*k) (f:(Builtin.firstCells k n x).run P w= .ok b.toArray w)
  (F:0<b.length->q=some ⟨g,j,none⟩) (l:j+b.length<=d.length) (E:∀v∈b,v.oneCell'=true):
  ∃w',(Builtin.copy_ #[t,C] D #[.slice q c dCap,x]).run P w= .ok (goInt n) w'/\Row w' g s (splice d j b)/\Keep (· =g) w w':=by
 subst G
 subst B
 by_cases y:0<b.length
 ·obtain rfl:=F y
  obtain⟨w',r,A,H⟩:=sZ (P:=P) h b l E
  refine⟨w',?_,A,H⟩
  simp[Builtin.copy_,gX p,sizeOf,typeInfo,o,a,f,r]
 ·obtain rfl:b=[]:=bK (by omega)
  refine⟨w,?_,by unfold Row at*;simpa [splice] using h,Keep.refl _ _⟩
  cases q with
  |none=>simp[Builtin.copy_,gX p,sizeOf,typeInfo,o,a,f]
  |some I=>simp[Builtin.copy_,gX p,sizeOf,typeInfo,o,a,f,storeCells]
theorem nA {o:Oper}{a:Act}{w:World}{K:Act->World->Prop}{Q:Exit->Act->World->Prop}(s y:Operand)(t E:TypeId)(M:o.op= .call {callee:= .builtin .copy,args:=#[s,y],argTypes:=#[t,E]})
  (e k l:Nat) (z:Value) (R:P.underlying t=some (.slice e)) (d:(P.info? e).map (fun i=>(i.zero,i.size,i.bytes))=some (some z,k,l))
  (g p D n b dCap:Nat) (F:Option Addr) (c:List Value) (V:a.eval s= .slice F b dCap) (T:Row w g D c) (x:Value) (H:a.eval y=x) (m:Nat) (f:List Value)
  (q:(Builtin.lenOf x).run P w= .ok m w) (J:n=Nat.min m b) (B:f.length=n*k) (C:(Builtin.firstCells k n x).run P w= .ok f.toArray w)
  (S:0<f.length->F=some ⟨g,p,none⟩) (r:p+f.length<=c.length) (N:∀v∈f,v.oneCell'=true)
  (h:∀w',Row w' g D (splice c p f)->Keep (· =g) w w'->K (a.put o.dst (goInt n)) w'):o.wp P a w K Q:=by
 obtain⟨i,O,X,j,G⟩:=xC d
 obtain⟨w',A,I,W⟩:=FR (P:=P) t E o.type e i k R O j T x m q J f B C S r N (dCap:=dCap)
 unfold Oper.wp execOp
 simp only[M,resolve,invoke,builtin,lU,Az,ja,wm,eP,oz,V,H,A]
 exact h w' I W
theorem bq.first {w:World}{S:Nat->Prop}{k n:Nat}{v:Value}{xs:List Value}(h:bq w S k v n xs)(m:Nat)(p:m<=n):(Builtin.firstCells k m v).run P w= .ok (xs.take (m*k)).toArray w:=by
 obtain⟨f,c,rfl,_,_,d,g,q,i⟩:=h
 cases f with
 |none=>
  obtain⟨rfl,rfl⟩:=g rfl
  have:xs=[]:=bK (by simpa using d)
  subst this
  simp[Builtin.firstCells]
 |some r=>
  obtain⟨b,o,l⟩:=r
  obtain rfl:l=none:=(q _ rfl).1
  refine Tt w k m ⟨b,o,none⟩ n c _ (by rw[aQ,d];exact dx (dw _ p)) (fun j u a=> ?_)
  rw[jf] at a
  split at a
  ·obtain⟨t,x,e,s⟩:=i j u a
   cases e
   rw[iA];exact s
  ·cases a
theorem CP (w:World)(t D G e:TypeId)(i:TypeInfo)(z:Value)(k d:Nat)(K:P.underlying t=some (.slice e))(B:P.underlying D=some (.int .i64))(J:P.info? e=some i)(Q:i.zero=some z)
  (q:i.size=k) (v:i.bytes=d) (A:z.cells.size=k) (R:0<k) {g n a m:Nat} {b:List Value} (h:Row w g e b) (F:n*k<=b.length) (p:a<n+m) (V:0<m) (r:n+m<=maxLen) (f:(n+m)*d<=140737488355328):
  ∃c w' l,(Builtin.append_ #[t,D] G #[.slice (some ⟨g,0,none⟩) n a,.int .i64 m]).run P w= .ok (.slice (some ⟨w.heap.size,0,none⟩) (n+m) c) w'/\Row w' w.heap.size e (b.take (n*k)++l)/\(b.take (n*k)++l).length=c*k/\n+m<=c/\c<=maxLen/\
   Keep eG w w':=by
 subst q
 subst v
 have s:n+m<=9223372036854775807:=by simp only[maxLen] at r;omega
 have x:=QZ w (n+m) a e
 have y:grownCap w (n+m) a e<=maxLen:=tT w (n+m) a e r
 have C:=vL p f
 have j:=(h.dM (w:=w.drew) (S:=eG) (k:=i.size) (off:=0) n n (by omega) id (aC _) (by simp only[maxLen] at*;omega)).first (P:=P) n (aC _)
 rw[dY,jE,Uh] at j
 have o:(loadCells ⟨g,0,none⟩ (n*i.size)).run P w.drew= .ok (b.take (n*i.size)).toArray w.drew:=j
 have O:IntKind.i64.wrap (m:Int)=m:=by rw[bX];omega
 have I:¬((m:Int)<0):=by omega
 have E:¬(281474976710656<(m:Int)*(i.bytes:Int)):=by
  have:m*i.bytes<=(n+m)*i.bytes:=dw _ (by omega)
  rw[<-Int.natCast_mul];omega
 have T:¬(n+m<=a):=by omega
 have H:¬(9223372036854775807<((n:Int)+(m:Int))):=by omega
 have N:¬(281474976710656<Builtin.nextslicecap (n+m) a*i.bytes):=by omega
 have M:¬(m*i.size=0):=Nat.mul_ne_zero (by omega) (by omega)
 refine⟨grownCap w (n+m) a e,w.drew.alloc (.cells ((b.take (n*i.size)).toArray++Builtin.zeroCells z.cells m++Builtin.zeroCells z.cells (grownCap w (n+m) a e - (n+m))) e),
  (Builtin.zeroCells z.cells m).toList++(Builtin.zeroCells z.cells (grownCap w (n+m) a e - (n+m))).toList,?_,?_,?_,x,y,(Keep.refl eG w).drew.alloc _⟩
 ·simp[Builtin.append_,gX K,gX B,sizeOf,typeInfo,zeroValue,J,Q,asInt,asIntOf,O,I,E,T,H,N,M,Question.forced,newRow,grownCap,Builtin.firstCells,o]
 ·unfold Row
  rw[show w.heap.size=w.drew.heap.size from rfl,aH]
  congr 2
  apply Fv
  simp
 ·simp only[aB,aQ,qN,QY,A]
  rw[dx F,<-fB,<-fB]
  congr 1;omega
theorem Ee {o:Oper}{a:Act}{w:World}{K:Act->World->Prop}{Q:Exit->Act->World->Prop}(s y:Operand)(t C:TypeId)(I:o.op= .call {callee:= .builtin .append,args:=#[s,y],argTypes:=#[t,C]})
  (e k b:Nat) (z:Value) (O:P.underlying t=some (.slice e)) (D:P.underlying C=some (.int .i64)) (p:(P.info? e).map (fun i=>(i.zero,i.size,i.bytes))=some (some z,k,b)) (B:z.cells.size=k) (E:0<k)
  (g n v m:Nat) (f:List Value) (V:a.eval s= .slice (some ⟨g,0,none⟩) n v) (F:a.eval y= .int .i64 m) (h:Row w g e f) (H:n*k<=f.length) (l:v<n+m) (R:0<m) (A:n+m<=maxLen) (j:(n+m)*b<=140737488355328)
  (S:∀c w' d,Row w' w.heap.size e (f.take (n*k)++d)->(f.take (n*k)++d).length=c*k->n+m<=c->c<=maxLen->Keep eG w w'->K (a.put o.dst (.slice (some ⟨w.heap.size,0,none⟩) (n+m) c)) w'):o.wp P a w K Q:=by
 obtain⟨i,N,T,q,x⟩:=xC p
 obtain⟨c,w',d,r,G,X,J,M,W⟩:=CP (P:=P) w t C o.type e i z k b O D N T q x B E h H l R A j
 unfold Oper.wp execOp
 simp only[I,resolve,invoke,builtin,lU,Az,ja,wm,eP,oz,V,F,r]
 exact S c w' d G X J M W
theorem bS {c:Array Oper}{b:List Oper}{o:Oper}{a:Act}{w:World}{Q:Exit->Act->World->Prop}(d:o.guard=none)
  (h:∀K:Act->World->Prop,(∀a w,wpList P c Q b a w->K a w)->o.wp P a w K Q):wpList P c Q (o::b) a w:=wpList_plain d h
theorem Lb {c:Array Oper}{o:Oper}{a:Act}{w:World}{K:Act->World->Prop}{Q:Exit->Act->World->Prop}{E:Prop}(b:o.guard=none)(h:o.wp P a w K Q):
  if Region.wanted o (yielded c a.tmps)=true then Oper.wp P o a w K Q else E:=by
 rw[if_pos (by simp[Region.wanted,b])];exact h
end
def jP (w:World)(S:Nat->Prop)(k:Nat)(v:Value)(n:Nat)(xs:List Value):Prop:=bq w S k v n xs\/(n=0/\xs=[]/\∃ao,v= .slice (some ao) 0 0)
def pK (w:World)(S:Nat->Prop)(v:Value)(ss:List ByteArray):Prop:=jP w S 1 v ss.length (ss.map .string)
section
variable {w w':World} {S S':Nat->Prop} {k n:Nat} {v:Value} {xs:List Value}
theorem aV.MZ {B e:Nat}(h:aV w S B e k v n xs):jP w S k v n xs:= .inl h.dM
theorem jP.keep (h:jP w S k v n xs)(a:∀g,v.ownBlock=some g->g<w.heap.size->¬S g->w'.heap[g]? =w.heap[g]?/\¬S' g):jP w' S' k v n xs:=h.imp (fun h=>h.keep a) id
theorem jP.below (h:jP w S k v n xs)(a:Below w.heap.size w w'):jP w' S k v n xs:=h.imp (fun h=>h.below a) id
theorem jP.form (h:jP w S k v n xs):∃a c,v= .slice a n c/\n<=c/\c<=9223372036854775807/\(n=0\/∃b o,a=some ⟨b,o,none⟩)/\(a=none->c=0):=by
 rcases h with h|⟨rfl,rfl,a,rfl⟩
 ·exact h.form
 ·exact⟨some a,0,rfl,aC _,by omega,.inl rfl,fun h=>by cases h⟩
theorem jP.Cq (h:jP w S 1 v n xs){a:Option Addr}{f c:Nat}(e:v= .slice a f c)(i:Nat)(u:Value)(d:xs[i]? =some u):∃b o,a=some ⟨b,o,none⟩/\w.cell? ⟨b,o+i,none⟩=some u:=by
 rcases h with h|⟨rfl,rfl,a,rfl⟩
 ·exact h.Cq e i u d
 ·simp at d
theorem jP.upto {c:Nat}{b:Option Addr}(h:jP w S k (.slice b n c) n xs)(j:Nat)(d:j<=n):jP w S k (.slice b j c) j (xs.take (j*k)):=by
 rcases h with h|⟨rfl,rfl,a,e⟩
 ·exact .inl (h.upto j d)
 ·cases e
  obtain rfl:j=0:=by omega
  exact .inr ⟨rfl,by simp,a,rfl⟩
end
end Go.Proofs.YtpmbddooibgnaaaGreatDoor
namespace Go.Proofs.YtpmbddooibgnaaaGreatDoor
abbrev Pr:=ByteArray×ByteArray
structure Nd where
 pairs:List Pr
 keys:List ByteArray
 kids:List Int
def fM (ps:List Pr):Nat:=(ps.map fun p=>2+p.1.size+p.2.size).sum
def iI (ks:List ByteArray):Nat:=(ks.map fun k=>1+k.size).sum
def Nd.size (n:Nd):Nat:=2+fM n.pairs+iI n.keys+2*n.kids.length
theorem oW (p:Pr)(a:List Pr):fM (p::a)=2+p.1.size+p.2.size+fM a:=by simp[fM]
theorem tC (k:ByteArray)(a:List ByteArray):iI (k::a)=1+k.size+iI a:=by simp[iI]
theorem rM (a b:List Pr):fM (a++b)=fM a+fM b:=by simp[fM]
theorem uT (a b:List ByteArray):iI (a++b)=iI a+iI b:=by simp[iI]
theorem zY (a:List Pr)(i:Nat)(h:i<a.length):fM (a.take (i+1))=fM (a.take i)+(2+a[i].1.size+a[i].2.size):=by
 rw[aO h,rM];simp[fM]
theorem yC (a:List ByteArray)(i:Nat)(h:i<a.length):iI (a.take (i+1))=iI (a.take i)+(1+a[i].size):=by
 rw[aO h,uT];simp[iI]
theorem qp (a:List Pr)(i:Nat):fM (a.take i)<=fM a:=by
 have:=rM (a.take i) (a.drop i);rw[bM] at this;omega
theorem pI (a:List ByteArray)(i:Nat):iI (a.take i)<=iI a:=by
 have:=uT (a.take i) (a.drop i);rw[bM] at this;omega
theorem oL (a:List Pr):2*a.length<=fM a:=by
 induction a with
 |nil=>simp[fM]
 |cons p a ih=>rw[oW];simp;omega
theorem nX (a:List ByteArray):a.length<=iI a:=by
 induction a with
 |nil=>simp[iI]
 |cons p a ih=>rw[tC];simp;omega
def b8 (n:Nat):UInt8:=UInt8.ofNat n
def Cf (p:Pr):List UInt8:=[b8 p.1.size,b8 p.2.size]++p.1.data.toList++p.2.data.toList
def zJ (k:Int):List UInt8:=[b8 k.toNat,b8 (k.toNat/256)]
def wZ (k:ByteArray):List UInt8:=b8 k.size::k.data.toList
def oM (ps:List Pr):List UInt8:=ps.flatMap Cf
def jN (ks:List Int):List UInt8:=ks.flatMap zJ
def iJ (ks:List ByteArray):List UInt8:=ks.flatMap wZ
def Nd.enc (n:Nd):List UInt8:=[b8 n.pairs.length,b8 n.kids.length]++oM n.pairs++jN n.kids++iJ n.keys
theorem nU {a b:Type}(f:a->List b)(l:List a)(i:Nat)(h:i<l.length):(l.take (i+1)).flatMap f=(l.take i).flatMap f++f l[i]:=by
 rw[aO h,nK,fK,List.flatMap_nil,dV]
theorem ic (s:ByteArray):s.data.toList.length=s.size:=by rw[qN];rfl
theorem yG (p:Pr):(Cf p).length=2+p.1.size+p.2.size:=by
 simp only[Cf,aB,ic,aZ,jL]
theorem wG (a:List Pr):(oM a).length=fM a:=by
 induction a with
 |nil=>rfl
 |cons p a ih=>rw[oW];simp only[oM,fK,aB,yG] at*;omega
theorem vg (a:List Int):(jN a).length=2*a.length:=by
 induction a with
 |nil=>rfl
 |cons p b ih=>simp only[jN,fK,aB,zJ,aZ,jL] at*;omega
theorem vv (a:List ByteArray):(iJ a).length=iI a:=by
 induction a with
 |nil=>rfl
 |cons p b ih=>rw[tC];simp only[iJ,fK,aB,wZ,aZ,ic] at*;omega
theorem Nd.Kb (n:Nd):n.enc.length=n.size:=by
 simp only[Nd.enc,Nd.size,aB,wG,vg,vv,aZ,jL];omega
structure Nd.Fits (n:Nd):Prop where
 np:n.pairs.length<256
 nk:n.kids.length<256
 pr:∀p∈n.pairs,p.1.size<256/\p.2.size<256
 ky:∀k∈n.keys,k.size<256
 kd:∀k∈n.kids,0<=k/\k<65536
 kk:n.keys.length=n.kids.length - 1
 one:n.pairs=[]↔n.kids≠[]
theorem sI (n:Nat)(h:n<256):(b8 n).toNat=n:=by simp[b8];omega
theorem tH {a b:Type}(f:a->List b)(l:List a)(i:Nat)(h:i<l.length):(l.drop i).flatMap f=f l[i]++(l.drop (i+1)).flatMap f:=by
 rw[dB h,fK]
end Go.Proofs.YtpmbddooibgnaaaGreatDoor
namespace Go.Proofs.YtpmbddooibgnaaaGreatDoor
open Go.RowKit
def mG (w:World)(S:Nat->Prop)(b:Nat)(nd:Nd):Prop:=
 ¬S b/\∃v0 v1 v2,w.heap[b]? =some (.cells #[v0,v1,v2] 272 (0,0))/\sQ w S v0 nd.pairs/\qG w S v1 nd.keys/\pM w S v2 nd.kids
theorem cells3 {w:World}{b t:Nat}{a c d:Value}(h:w.heap[b]? =some (.cells #[a,c,d] t (0,0))):
  w.cell? ⟨b,0,none⟩=some a/\w.cell? ⟨b,1,none⟩=some c/\w.cell? ⟨b,2,none⟩=some d/\
  w.frozen? ⟨b,0,none⟩=false/\w.frozen? ⟨b,1,none⟩=false/\w.frozen? ⟨b,2,none⟩=false/\b<w.heap.size:=by
 refine⟨?_,?_,?_,?_,?_,?_,(aj.1 h).1⟩<;>simp[World.cell?,World.frozen?,h]
theorem mG.step {w w':World}{S S':Nat->Prop}{b:Nat}{f:Nd}(h:mG w S b f)(a:Step S S' w w'):mG w' S' b f:=by
 obtain⟨d,l,j,m,c,g,k,i⟩:=h
 have e:=(aj.1 c).1
 exact⟨fun x=>(a.2 b x).elim d (fun y=>absurd e (aX.2 y)),l,j,m,(a.1.block b e d).trans c,bq.step g a,bq.step k a,bq.step i a⟩
theorem mG.below {w w':World}{S:Nat->Prop}{b:Nat}{a:Nd}(h:mG w S b a)(c:Below w.heap.size w w'):mG w' S b a:=h.step (Step.of_below c)
def ig (w:World)(S:Nat->Prop)(B:Nat)(b:Nat)(nd:Nd):Prop:=
 ¬S b/\B<=b/\∃v0 v1 v2,w.heap[b]? =some (.cells #[v0,v1,v2] 272 (0,0))/\aV w S B 188 2 v0 nd.pairs.length (dG nd.pairs)/\aV w S B 9 1 v1 nd.keys.length (nd.keys.map .string)/\aV w S B 3 1 v2 nd.kids.length (nd.kids.map (.int .i64))
theorem ig.lu {w:World}{S:Nat->Prop}{B b:Nat}{a:Nd}(h:ig w S B b a):mG w S b a:=by
 obtain⟨k,_,c,d,f,e,j,g,i⟩:=h
 exact⟨k,c,d,f,e,j.dM,g.dM,i.dM⟩
theorem ig.step {w w':World}{S S':Nat->Prop}{B b:Nat}{f:Nd}(h:ig w S B b f)(a:Step S S' w w'):ig w' S' B b f:=by
 obtain⟨d,hB,l,j,m,c,g,k,i⟩:=h
 have e:=(aj.1 c).1
 exact⟨fun x=>(a.2 b x).elim d (fun y=>absurd e (aX.2 y)),hB,l,j,m,(a.1.block b e d).trans c,g.step a,k.step a,i.step a⟩
theorem mX (b:Nat)(a:Nd)(w:World)(S:Nat->Prop)(h:mG w S b a):
  Calls Tryz.prog 219 #[.pointer (some ⟨b,0,none⟩)] w fun e w'=>e= .returned (.bool (a.kids.isEmpty))/\w=w':=by
 obtain⟨_,p,l,r,d,k,n,s,c,rfl,_,_,_,_,_,_⟩:=h
 obtain⟨q,g,j,o,i,m,f⟩:=cells3 d
 go_enter Tryz.func219,Tryz.ntmps219
 go_wp2
 go_ret
 exact⟨by congr 2;cases a.kids<;>simp;omega,rfl⟩
theorem FP (b:Nat)(c:Nd)(w:World)(S:Nat->Prop)(h:mG w S b c)(D:c.size<=1000000):
  Calls Tryz.prog 572 #[.pointer (some ⟨b,0,none⟩)] w fun e w'=>e= .returned (.int .i64 c.size)/\Below w.heap.size w w':=by
 obtain⟨_,V,R,Y,B,q,v,r⟩:=h
 obtain⟨X,z,A,_,_,_,j⟩:=cells3 B
 obtain⟨K,C,rfl,O,T,_,_⟩:=bq.form q
 obtain⟨M,F,rfl,n1,m1,_,_⟩:=bq.form v
 obtain⟨I,E,rfl,Z,Q,_,_⟩:=bq.form r
 clear r
 unfold Nd.size at D
 have W:=oL c.pairs
 have l1:=nX c.keys
 go_enter Tryz.func572,Tryz.ntmps572
 go_wp2
 go_loopw [3,13] (fun s i wr=>∃k:Nat,k<=c.pairs.length/\i= .int .i64 k/\s= .int .i64 (2+fM (c.pairs.take k):Nat)/\Below w.heap.size w wr) (fun _ i _=>c.pairs.length - (intOf i).toNat)
 case atStart=>exact⟨0,by omega,rfl,by simp[fM],aJ _ _⟩
 case round=>
  obtain⟨k,x,rfl,rfl,a⟩:=hrel
  by_cases d:k<c.pairs.length
  ·obtain⟨m,n,rfl,f,l⟩:=q.at rfl k d
   have J:=(a.cell (p:=⟨m,n+k*2,none⟩) (aD w _ f)).trans f
   have P:=(a.cell (p:=⟨m,n+k*2+1,none⟩) (aD w _ l)).trans l
   have H:=ah (zY c.pairs k d)
   have g:=qp c.pairs (k+1)
   have o:fM (c.pairs.take k)+(2+c.pairs[k].1.size+c.pairs[k].2.size)<=1000000:=by rw[<-H.out];omega
   clear g f l
   go_wp2
   go_roundw
   case rel=>exact⟨k+1,by omega,by go_num,by rw[H.out];go_num,a.alloc a.size _⟩
   case measure=>simp[intOf];omega
  ·obtain rfl:k=c.pairs.length:=by omega
   rw[bL]
   clear d q x
   have N:=(a.cell (p:=⟨b,1,none⟩) j).trans z
   have G:=(a.cell (p:=⟨b,2,none⟩) j).trans A
   have t:b<wr.heap.size:=aA j a.size
   obtain⟨y,rfl⟩:∃y:World,y=wr:=⟨_,rfl⟩
   go_wp2
   go_loop [3,33] (fun s i=>∃k:Nat,k<=c.keys.length/\i= .int .i64 k/\s= .int .i64 (2+fM c.pairs+iI (c.keys.take k):Nat)) (fun _ i=>c.keys.length - (intOf i).toNat)
   case atStart=>exact⟨0,by omega,rfl,by simp[iI]⟩
   case round=>
    obtain⟨k,x,rfl,rfl⟩:=hrel
    by_cases d:k<c.keys.length
    ·obtain⟨m,n,rfl,f⟩:=bq.Cq v rfl k (.string c.keys[k]) (by simp[d])
     have J:=(a.cell (p:=⟨m,n+k,none⟩) (aD w _ f)).trans f
     have H:=ah (yC c.keys k d)
     have g:=pI c.keys (k+1)
     have o:2+fM c.pairs+iI (c.keys.take k)+(1+c.keys[k].size)<=1000000:=by rw[mR (2+_),<-H.out];omega
     clear g f
     go_wp2
     go_round
     case rel=>exact⟨k+1,by omega,by go_num,by rw[H.out];go_num⟩
     case measure=>simp[intOf];omega
    ·obtain rfl:k=c.keys.length:=by omega
     rw[bL]
     go_wp2
     go_ret
     exact⟨by unfold Nd.size;go_num,a⟩
theorem nM:(Tryz.prog.info? 188).map (fun i=>(i.zero,i.size,i.bytes))=some (some (.agg #[.string ⟨#[]⟩,.string ⟨#[]⟩]),2,32):=by kernel_rfl
theorem qx:(Tryz.prog.info? 3).map (fun i=>(i.zero,i.size,i.bytes))=some (some (.int .i64 0),1,8):=by kernel_rfl
theorem uV:(Tryz.prog.info? 9).map (fun i=>(i.zero,i.size,i.bytes))=some (some (.string ⟨#[]⟩),1,16):=by kernel_rfl
def L (nd:Nd)(k:Nat):List UInt8:=[b8 nd.pairs.length,b8 nd.kids.length]++oM (nd.pairs.take k)
theorem VU (a:Nd)(k:Nat):(L a k).length<=2+fM a.pairs:=by
 have:=qp a.pairs k
 simp only[L,aB,wG,aZ,jL];omega
theorem zR (n:Nat):((b8 n).toNat:Int)=(n:Int)%256:=by simp[b8]
theorem VT (a:Nd):(L a 0).length=2:=rfl
theorem E9 (a:Nd):aF (L a 0)=[.int .u8 ((a.pairs.length:Int)%256),.int .u8 ((a.kids.length:Int)%256)]:=by
 simp[L,oM,aF,zR]
theorem QK {a:Nd}{k:Nat}(h:k<a.pairs.length):L a (k+1)=L a k++Cf a.pairs[k]:=by
 simp only[L,oM,nU Cf a.pairs k h,bA]
theorem T9 {a:Nd}{k:Nat}(h:k<a.pairs.length):(L a (k+1)).length=(L a k).length+2+a.pairs[k].1.size+a.pairs[k].2.size:=by
 rw[QK h,aB,yG];omega
theorem Tp {a:Nd}{k:Nat}(h:k<a.pairs.length):aF (L a (k+1))=aF (L a k)++[.int .u8 ((a.pairs[k].1.size:Int)%256),.int .u8 ((a.pairs[k].2.size:Int)%256)]++byteCells a.pairs[k].1++byteCells a.pairs[k].2:=by
 rw[QK h,fG]
 simp only[Cf,fG,yJ,bA]
 simp[aF,zR]
def L2 (nd:Nd)(k:Nat):List UInt8:=L nd nd.pairs.length++jN (nd.kids.take k)
theorem Lx (a:Nd):L2 a 0=L a a.pairs.length:=by simp[L2,jN]
theorem QO (a:Nd)(k:Nat):(L2 a k).length<=2+fM a.pairs+2*a.kids.length:=by
 have:=VU a a.pairs.length
 simp only[L2,aB,vg,aQ];omega
theorem LA {a:Nd}{k:Nat}(h:k<a.kids.length):L2 a (k+1)=L2 a k++zJ a.kids[k]:=by
 simp only[L2,jN,nU zJ a.kids k h,bA]
theorem QN {a:Nd}{k:Nat}(h:k<a.kids.length):(L2 a (k+1)).length=(L2 a k).length+2:=by
 rw[LA h,aB];rfl
theorem QR {a:Nd}{k:Nat}(h:k<a.kids.length)(b:0<=a.kids[k])(c:a.kids[k]<65536):aF (L2 a (k+1))=aF (L2 a k)++[.int .u8 (a.kids[k]%256),.int .u8 (a.kids[k]/256)]:=by
 rw[LA h,fG]
 congr 1
 generalize a.kids[k]=x at*
 obtain⟨n,rfl⟩:=Eb b
 simp only[zJ,aF,eP,oz,zR,dz]
 congr 2
 congr 1
 omega
def L3 (nd:Nd)(k:Nat):List UInt8:=L2 nd nd.kids.length++iJ (nd.keys.take k)
theorem Lu (a:Nd):L3 a 0=L2 a a.kids.length:=by simp[L3,iJ]
theorem VW (a:Nd):L3 a a.keys.length=a.enc:=by simp only[L3,L2,L,bL];rfl
theorem XA (a:Nd)(k:Nat):(L3 a k).length<=2+fM a.pairs+2*a.kids.length+iI a.keys:=by
 have:=QO a a.kids.length
 have:=pI a.keys k
 simp only[L3,aB,vv];omega
theorem Lv {a:Nd}{k:Nat}(h:k<a.keys.length):L3 a (k+1)=L3 a k++wZ a.keys[k]:=by
 simp only[L3,iJ,nU wZ a.keys k h,bA]
theorem QL {a:Nd}{k:Nat}(h:k<a.keys.length):(L3 a (k+1)).length=(L3 a k).length+1+a.keys[k].size:=by
 rw[Lv h,aB,wZ,aZ,ic];omega
theorem QM {a:Nd}{k:Nat}(h:k<a.keys.length):aF (L3 a (k+1))=aF (L3 a k)++[.int .u8 ((a.keys[k].size:Int)%256)]++byteCells a.keys[k]:=by
 rw[Lv h,fG,yJ,wZ]
 simp[aF,zR]
theorem jl:(Tryz.prog.info? 5).map (fun i=>(i.zero,i.size,i.bytes))=some (some (.int .u8 0),1,1):=by kernel_rfl
theorem Ka (b:Nat)(d:Nd)(w:World)(S:Nat->Prop)(hS:∀g,S g->g<w.heap.size)(h:mG w S b d)(hs:d.size<=1000000)(W:∀k∈d.kids,0<=k/\k<65536):
  Calls Tryz.prog 585 #[.pointer (some ⟨b,0,none⟩)] w fun e w'=>∃v,e= .returned v/\aV w' S w.heap.size 5 1 v d.enc.length (aF d.enc)/\Below w.heap.size w w':=by
 obtain⟨_,v0,v1,v2,hb,h0,h1,h2⟩:=h
 obtain⟨c0,C,c2,_,_,_,A⟩:=cells3 hb
 obtain⟨ai,q8,rfl,n0,m0,_,_⟩:=bq.form h0
 obtain⟨o,qO,rfl,n1,m1,_,_⟩:=bq.form h1
 obtain⟨p9,q9,rfl,n2,m2,_,_⟩:=bq.form h2
 unfold Nd.size at hs
 have l0:=oL d.pairs
 have l1:=nX d.keys
 go_enter Tryz.func585,Tryz.ntmps585
 go_wp2
 go_still_tail 12,(by kernel_rfl)
 change wpList _ _ _ _ _ w.drew
 go_wp2
 simp only[IntKind.wrap_u8]
 go_loopw [3,28] (fun v i wr=>∃(k:Nat) (t:Option Addr) (c:Nat),k<=d.pairs.length/\i= .int .i64 k/\v= .slice t (L d k).length c/\aV wr S w.heap.size 5 1 v (L d k).length (aF (L d k))/\Below w.heap.size w wr) (fun _ i _=>d.pairs.length - (intOf i).toNat)
 case atStart=>
  have hn:=yc (w:=w) (S:=S) (B:=w.heap.size) (e:=5) (k:=1) [.int .u8 ((d.pairs.length:Int)%256),.int .u8 ((d.kids.length:Int)%256)] 2 2 rfl rfl (aC _) (by simp[maxLen]) (aC _) hS
  exact⟨0,_,_,aR _,rfl,rfl,by rw[VT,E9];exact hn.drew,((aJ _ _).alloc (aC _) _).drew⟩
 case round=>
  obtain⟨k,t,c,hk,rfl,rfl,j,a⟩:=hrel
  by_cases f:k<d.pairs.length
  ·obtain⟨M,N,rfl,m,G⟩:=h0.at rfl k f
   have d1:=(a.cell (p:=⟨M,N+k*2,none⟩) (aD w _ m)).trans m
   have d2:=(a.cell (p:=⟨M,N+k*2+1,none⟩) (aD w _ G)).trans G
   have r:∀g,S g->g<wr.heap.size:=fun g hg=>aA (hS g hg) a.size
   have z:=a.size
   have hL:=VU d k
   have J:=zY d.pairs k f
   have F:=qp d.pairs (k+1)
   have hz:d.pairs[k].1.size+d.pairs[k].2.size<=fM d.pairs:=by omega
   clear J F
   clear m G
   go_wp2_with (at_builtin;go_must ((refine dQ rfl (.tmp 32) (.tmp 41) 154 154 rfl S w.heap.size 5 1 1 (.int .u8 0) aU jl rfl (.slice t (L d k).length c) _ _ rfl (j.below (iY _ _ _)) _ 2 _ rfl (iB [_,_] _ 1 2 2 (by simp) aU rfl ?_) (kP (kP r _) _) ?_ ?_ ?_ ?_);(focus (simp[Value.oneCell']));(focus (simp only[bD];omega));(focus (unfold maxLen;omega));(focus omega);intro o C E l y n I))
   have q1:E.cell? ⟨wr.heap.size,0,none⟩=some (.string d.pairs[k].1):=(y.cell (p:=⟨wr.heap.size,0,none⟩) (by simp;omega) j.lt).trans (by simp[NH])
   have q2:E.cell? ⟨wr.heap.size,1,none⟩=some (.string d.pairs[k].2):=(y.cell (p:=⟨wr.heap.size,1,none⟩) (by simp;omega) j.lt).trans (by simp[NH])
   have n1:(Value.slice o ((L d k).length+2) C).ownBlock≠some wr.heap.size:=I _ (by simp;omega) j.lt
   have x:wr.heap.size<E.heap.size:=by have:=y.size;simp at this;omega
   have V:w.heap.size<=E.heap.size:=by omega
   have T:=zn (kP (kP r _) _) n
   go_region_held3 (fun w'=>w'.cell? ⟨wr.heap.size,0,none⟩=some (.string d.pairs[k].1)/\w'.cell? ⟨wr.heap.size,1,none⟩=some (.string d.pairs[k].2))
    (first|exact⟨q1,q2⟩|exact⟨Y,O⟩|exact⟨P,qc⟩)
    (first
     |((refine FN rfl (.tmp 43) (.tmp 45) 154 9 rfl S w.heap.size 5 1 1 (.int .u8 0) aU jl rfl (.slice o ((L d k).length+2) C) _ _ rfl l.drew (.string d.pairs[k].1) _ _ rfl (Kw _ bH _) T ?_ ?_ ?_ ?_);(focus (exact V));(focus (unfold maxLen;omega));(focus omega);(intro X H w2 q s D Z);(have Y:=(s.cell (p:=⟨wr.heap.size,0,none⟩) x n1).trans q1);(have O:=(s.cell (p:=⟨wr.heap.size,1,none⟩) x n1).trans q2);(have qb:=Z _ x n1))
     |((refine FN rfl (.tmp 46) (.tmp 48) 154 9 rfl S w.heap.size 5 1 1 (.int .u8 0) aU jl rfl (.slice X ((L d k).length+2+d.pairs[k].1.size) H) _ _ rfl q (.string d.pairs[k].2) _ _ rfl (Kw _ bH _) (zn (w:=E.drew) T D) ?_ ?_ ?_ ?_);(focus (exact aI V s.size));(focus (unfold maxLen;omega));(focus omega);(intro ql c3 w3 K pV qf af);(have P:=(pV.cell (p:=⟨wr.heap.size,0,none⟩) (aA x s.size) qb).trans Y);(have qc:=(pV.cell (p:=⟨wr.heap.size,1,none⟩) (aA x s.size) qb).trans O)))
   go_wp2
   go_roundw
   case rel=>exact⟨k+1,ql,c3,by omega,by go_num,by rw[T9 f],by rw[T9 f,Tp f];exact K,((a.trans (iY wr _ _|>.mono z)).trans n).trans (Below.trans (b:=E.drew) (aJ _ _).drew (D.trans qf))⟩
   case measure=>simp[intOf];omega
  ·obtain rfl:k=d.pairs.length:=by omega
   have qo:=(a.cell (p:=⟨b,1,none⟩) A).trans C
   have H:=(a.cell (p:=⟨b,2,none⟩) A).trans c2
   have qC:b<wr.heap.size:=aA A a.size
   have hL:=VU d d.pairs.length
   clear f h0 hk hb c0 c2
   obtain⟨wo,rfl⟩:∃wo:World,wo=wr:=⟨_,rfl⟩
   go_wp2
   go_loopw [3,56] (fun v i wr=>∃(k:Nat) (t:Option Addr) (c:Nat),k<=d.kids.length/\i= .int .i64 k/\v= .slice t (L2 d k).length c/\aV wr S w.heap.size 5 1 v (L2 d k).length (aF (L2 d k))/\Below w.heap.size w wr) (fun _ i _=>d.kids.length - (intOf i).toNat)
   case atStart=>exact⟨0,t,c,aR _,rfl,by rw[Lx],by rw[Lx];exact j,a⟩
   case round=>
    obtain⟨k,t,c,hk,rfl,rfl,j,a⟩:=hrel
    by_cases f:k<d.kids.length
    ·obtain⟨M,N,rfl,m⟩:=h2.at rfl k f
     have d1:=(a.cell (p:=⟨M,N+k,none⟩) (aD w _ m)).trans m
     have r:∀g,S g->g<wr.heap.size:=fun g hg=>aA (hS g hg) a.size
     have z:=a.size
     have hL:=QO d k
     obtain⟨qm,Q⟩:=W d.kids[k] (bJ f)
     go_wp2_with (at_builtin;go_must ((refine dQ rfl (.tmp 60) (.tmp 66) 154 154 rfl S w.heap.size 5 1 1 (.int .u8 0) aU jl rfl (.slice t (L2 d k).length c) _ _ rfl (j.below (aG _ _)) _ 2 _ rfl (iB [_,_] _ 1 2 2 (by simp) aU rfl ?_) (kP r _) ?_ ?_ ?_ ?_);(focus (simp[Value.oneCell']));(focus (simp only[bD];omega));(focus (unfold maxLen;omega));(focus omega);intro o C E l y n I))
     go_roundw
     case rel=>exact⟨k+1,o,C,by omega,by go_num,by rw[QN f],by rw[QN f,QR f qm Q];exact l,(a.trans (aG wr _|>.mono z)).trans n⟩
     case measure=>simp[intOf];omega
    ·obtain rfl:k=d.kids.length:=by omega
     have qy:=(a.cell (p:=⟨b,1,none⟩) A).trans C
     have hL:=QO d d.kids.length
     clear f h2 hk qo H
     obtain⟨R,rfl⟩:∃R:World,R=wr:=⟨_,rfl⟩
     go_wp2
     go_loopw [3,74] (fun v i wr=>∃(k:Nat) (t:Option Addr) (c:Nat),k<=d.keys.length/\i= .int .i64 k/\v= .slice t (L3 d k).length c/\aV wr S w.heap.size 5 1 v (L3 d k).length (aF (L3 d k))/\Below w.heap.size w wr) (fun _ i _=>d.keys.length - (intOf i).toNat)
     case atStart=>exact⟨0,t,c,aR _,rfl,by rw[Lu],by rw[Lu];exact j,a⟩
     case round=>
      obtain⟨k,t,c,hk,rfl,rfl,j,a⟩:=hrel
      by_cases f:k<d.keys.length
      ·obtain⟨M,N,rfl,m⟩:=h1.at rfl k f
       have d1:=(a.cell (p:=⟨M,N+k,none⟩) (aD w _ m)).trans m
       have r:∀g,S g->g<wr.heap.size:=fun g hg=>aA (hS g hg) a.size
       have z:=a.size
       have hL:=XA d k
       have J:=yC d.keys k f
       have F:=pI d.keys (k+1)
       have hz:d.keys[k].size<=iI d.keys:=by omega
       clear J F
       go_wp2_with (first
        |(at_builtin;(refine dQ rfl (.tmp 78) (.tmp 82) 154 154 rfl S w.heap.size 5 1 1 (.int .u8 0) aU jl rfl (.slice t (L3 d k).length c) _ _ rfl (j.below (aG _ _)) _ 1 _ rfl (iB [_] _ 1 1 1 (by simp) aU rfl ?_) (kP r _) ?_ ?_ ?_ ?_);(focus (simp[Value.oneCell']));(focus (simp only[bD];omega));(focus (unfold maxLen;omega));(focus omega);intro o C E l y n I)
        |(at_builtin;(refine dQ rfl (.tmp 83) (.tmp 84) 154 9 rfl S w.heap.size 5 1 1 (.int .u8 0) aU jl rfl (.slice o ((L3 d k).length+1) C) _ _ rfl l (.string d.keys[k]) _ _ rfl (Kw _ bH _) (zn (kP r _) n) ?_ ?_ ?_ ?_);(focus (have:=n.size;simp only[bD] at this;omega));(focus (unfold maxLen;omega));(focus omega);intro p9 c2 w2 q s D Z))
       go_roundw
       case rel=>exact⟨k+1,p9,c2,by omega,by go_num,by rw[QL f],by rw[QL f,QM f];exact q,((a.trans (aG wr _|>.mono z)).trans n).trans D⟩
       case measure=>simp[intOf];omega
      ·obtain rfl:k=d.keys.length:=by omega
       go_wp2
       go_ret
       exact⟨_,rfl,by rw[<-VW];exact j,a⟩
end Go.Proofs.YtpmbddooibgnaaaGreatDoor
