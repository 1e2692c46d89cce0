/- parts -/
import Derived.WalkKit
import Derived.WalkLawsBesides
import Derived.WalkSpells
import Derived.Lib.Hide
import Derived.Deep.AppendSrc
import Derived.Laws.CopyOwn
import Derived.Deep.RegionLaw
import Derived.Test.YtpmbddooibgnaaaGreatDoorProg
import GoSem.Claim
import GoSem.ClaimJoined
import GoSem.ClaimMapViews
import Derived.JoinedTies
import Derived.KernelRfl
import Derived.RowKit
import Derived.Deep.RegionHeld3
import Derived.RegionTactic
import Derived.BigRegion
import Derived.Deep.QuietTactic
import Derived.BigQuiet
import Derived.StillTailTactics
set_option maxRecDepth 100000
set_option maxHeartbeats 8000000
set_option linter.all false
namespace Go.Proofs.YtpmbddooibgnaaaGreatDoor
open Go.RowKit
def af := @_root_.Go.Lib.hid
def ah := @_root_.Array.getElem?_eq_some_iff
def aj := @_root_.List.setIfInBounds_toArray
def ak := @_root_.And.intro
def au := @_root_.List.set_cons_succ
def av := @_root_.List.set_cons_zero
def ax := @_root_.Nat.lt_of_lt_of_le
def ay := @_root_.List.length_append
def aA := @_root_.Nat.le_refl
def aD := @_root_.Go.World.block_lt_of_cell?
def aF := @_root_.Go.heap_alloc_new
def aG := @_root_.Nat.le_trans
def aH := @_root_.Go.RowKit.Below.refl
def aI := @_root_.List.take_of_length_le
def aJ := @_root_.Array.getElem?_modify
def aL := @_root_.List.length_take
def aM := @_root_.List.take_succ_eq_append_getElem
def aN := @_root_.Nat.zero_le
def aO := @_root_.Go.Proofs.Tryz.underlying154
def aP := @_root_.List.mem_cons_self
def aR := @_root_.of_decide_eq_true
def aS := @_root_.Go.IntWalk.i64_in
def aT := @_root_.List.mem_cons_of_mem
def aU := @_root_.List.length_cons
def aV := @_root_.Nat.not_lt
def aX := @_root_.List.mem_cons
def aZ := @_root_.Go.World.size_alloc
def bf := @_root_.Go.Proofs.Tryz.underlying9
def bg := @_root_.List.getElem?_eq_some_iff
def bn := @_root_.List.eq_nil_of_length_eq_zero
def bA := @_root_.List.getElem?_append_right
def bB := @_root_.List.length_drop
def bC := @_root_.List.append_assoc
def bD := @_root_.List.getElem?_eq_getElem
def bG := @_root_.List.take_append_drop
def bH := @_root_.decide_eq_false
def bI := @_root_.List.getElem_mem
def bJ := @_root_.Go.IntKind.wrap_i64
def bL := @_root_.List.take_append_of_le_length
def bO := @_root_.List.mem_singleton
def bS := @_root_.Go.Proofs.Tryz.underlying3
def bT := @_root_.List.getElem?_cons_succ
def bV := @_root_.Nat.mul_le_mul_right
def bW := @_root_.List.take_length
def bX := @_root_.List.mem_append_right
def bY := @_root_.Nat.lt_irrefl
def cB := @_root_.Int.toNat_natCast
def cK := @_root_.List.not_mem_nil
def cO := @_root_.List.mem_append_left
def dh := @_root_.Nat.min_eq_left
def dm := @_root_.List.set_append_right
def dx := @_root_.Go.Proofs.Tryz.underlying5
def dz := @_root_.Nat.add_sub_cancel_left
def dA := @_root_.List.drop_eq_getElem_cons
def dB := @_root_.decide_eq_true_eq
def dD := @_root_.UInt8.toNat_ofNat'
def dG := @_root_.List.mem_append
def dH := @_root_.List.getElem?_map
def dI := @_root_.Bool.and_eq_true
def dJ := @_root_.List.length_singleton
def dO := @_root_.List.map_cons
def dQ := @_root_.Go.leaves_cons
def dR := @_root_.List.pairwise_cons
def dU := @_root_.Nat.add_mul
def dV := @_root_.Go.Proofs.Tryz.underlying4
def dW := @_root_.Go.Proofs.Tryz.zeroValue3
def dX := @_root_.Go.Proofs.Tryz.underlying197
def eG := @_root_.Go.Proofs.Tryz.zeroValue9
def eO := @_root_.beq_eq_false_iff_ne
def eP := @_root_.List.map_append
def eT := @_root_.decide_eq_true
def eX := @_root_.Go.bodyPost_ret
def eY := @_root_.Go.Proofs.Tryz.underlying184
def fw := @_root_.List.getElem?_append_left
def fA := @_root_.Nat.le_of_eq
def fB := @_root_.Go.Proofs.Tryz.zeroValue4
def fC := @_root_.Go.Proofs.Tryz.underlying0
def fE := @_root_.List.drop_zero
def fO := @_root_.Go.Proofs.Tryz.zeroValue5
def fP := @_root_.Go.Proofs.Tryz.zeroValue0
def fU := @_root_.Option.some.inj
def fV := @_root_.List.append_nil
def gy := @_root_.Go.run_underlying
def gB := @_root_.Go.run_string_add
def gD := @_root_.Go.Proofs.Tryz.sizeOf3
def gG := @_root_.List.take_succ_cons
def gH := @_root_.List.length_pos_iff
def gK := @_root_.Go.Proofs.Tryz.underlying232
def gL := @_root_.Go.heap_setCell_same
def gM := @_root_.Go.Result.andThen_ok
def gN := @_root_.List.take_zero
def gP := @_root_.List.take_left
def gU := @_root_.Go.Proofs.Tryz.sizeOf9
def gV := @_root_.List.mem_map
def gW := @_root_.Array.getElem?_setIfInBounds
def gY := @_root_.List.getElem?_take
def ig := @_root_.Go.Addr.add_lit
def iA := @_root_.Nat.mul_one
def iB := @_root_.List.drop_length
def iG := @_root_.Go.Proofs.Tryz.zeroValue232
def iH := @_root_.Go.Proofs.Tryz.isAgg3
def iL := @_root_.or_false
def iM := @_root_.Go.Proofs.Tryz.sizeOf4
def iN := @_root_.Nat.zero_add
def iP := @_root_.Nat.le_of_lt
def iQ := @_root_.List.getElem?_set_self
def iR := @_root_.List.flatMap_cons
def iV := @_root_.Go.Proofs.Tryz.underlying146
def iZ := @_root_.List.length_set
def ja := @_root_.List.length_nil
def jc := @_root_.List.length_map
def je := @_root_.Go.Proofs.Tryz.isAgg9
def jk := @_root_.Nat.not_le
def jq := @_root_.Go.Proofs.Tryz.sizeOf5
def jr := @_root_.Go.Proofs.Tryz.sizeOf0
def jv := @_root_.Nat.lt_or_ge
def jw := @_root_.Nat.add_zero
def jB := @_root_.Go.Proofs.Tryz.isAgg4
def jJ := @_root_.List.drop_succ_cons
def jN := @_root_.Nat.sub_self
def jQ := @_root_.List.sum_cons
def jR := @_root_.List.map_take
def jV := @_root_.Go.Proofs.Tryz.sizeOf232
def jW := @_root_.Go.Proofs.Tryz.isAgg5
def jX := @_root_.Go.Proofs.Tryz.isAgg0
def kg := @_root_.Go.Sem.run_bind
def ko := @_root_.BitVec.toNat_ofNat
def kr := @_root_.Go.Proofs.Tryz.underlying39
def kN := @_root_.Option.map_some
def kT := @_root_.Go.Proofs.Tryz.isAgg232
def kU := @_root_.Prod.mk.injEq
def kV := @_root_.Nat.add_assoc
def kZ := @_root_.Go.Proofs.Tryz.results53
def lG := @_root_.Go.wpS_region
def lH := @_root_.if_true
def lI := @_root_.List.getElem_of_mem
def lS := @_root_.Nat.mod_eq_of_lt
def lT := @_root_.Nat.lt_succ_self
def lU := @_root_.List.take_take
def mh := @_root_.Nat.one_mul
def mo := @_root_.List.drop_append_of_le_length
def mD := @_root_.Go.Proofs.Tryz.underlying88
def mG := @_root_.List.nil_append
def mP := @_root_.List.map_drop
def mU := @_root_.List.getElem_set_self
def mV := @_root_.ByteArray.size_append
def ny := @_root_.List.size_toArray
def nA := @_root_.Array.getD_eq_getD_getElem?
def nC := @_root_.Go.Proofs.Tryz.zeroValue88
def nD := @_root_.Go.RowKit.Below.heap_alloc
def nI := @_root_.Go.World.cell?_alloc_new
def nL := @_root_.Nat.mod_lt
def nM := @_root_.Nat.le_succ
def nN := @_root_.List.mem_of_mem_take
def nO := @_root_.List.getD_eq_getElem?_getD
def nP := @_root_.BitVec.ofInt_natCast
def nX := @_root_.Go.Proofs.Tryz.underlying333
def nY := @_root_.Go.Proofs.Tryz.underlying292
def nZ := @_root_.List.mem_flatMap
def og := @_root_.List.map_nil
def oP := @_root_.List.pairwise_iff_getElem
def oQ := @_root_.List.mem_or_eq_of_mem_set
def oU := @_root_.Array.length_toList
def oZ := @_root_.Go.results_cell_row
def pO := @_root_.Go.run_append_grow_src
def pQ := @_root_.List.sum_append
def pR := @_root_.Bool.false_eq_true
def qg := @_root_.Go.run_call_load
def qK := @_root_.List.set_set
def si := @_root_.Go.wpS_seq
def sj := @_root_.Go.growslice_fits
def su := @_root_.Array.getElem?_toList
def sV := @_root_.Go.Proofs.Tryz.sizeOf88
def sW := @_root_.List.map_toArray
def tN := @_root_.Go.Proofs.Tryz.underlying153
def tO := @_root_.List.pairwise_append
def tQ := @_root_.List.mem_of_mem_drop
def tT := @_root_.List.mem_of_getElem?
def uq := @_root_.Go.callsD_of_wpS
def uw := @_root_.UInt8.toNat_inj
def uy := @_root_.Bool.or_eq_true
def vV := @_root_.Go.wpList_lookup_own_ok
def vW := @_root_.List.mergeSort_perm
def vX := @_root_.List.flatMap_append
def vZ := @_root_.Go.Proofs.Tryz.zeroValue292
def wh := @_root_.Go.Proofs.Tryz.zeroValue154
def wu := @_root_.Go.Proofs.Tryz.underlying21
def wz := @_root_.Go.Proofs.Tryz.underlying20
def wB := @_root_.Go.Proofs.Tryz.isAgg88
def wC := @_root_.Nat.two_pow_add_eq_or_of_lt
def wD := @_root_.Nat.add_comm
def xS := @_root_.List.exists_cons_of_ne_nil
def xU := @_root_.List.drop_take
def xV := @_root_.Int.tmod_eq_emod_of_nonneg
def yo := @_root_.Go.Sem.run_pure
def yE := @_root_.Go.Proofs.Tryz.zeroValue21
def yF := @_root_.Go.Proofs.Tryz.zeroValue20
def yG := @_root_.List.getElem_append_right
def yH := @_root_.Classical.byContradiction
def zV := @_root_.Go.info_parts
def zW := @_root_.Go.grownCap_le_maxLen
def zX := @_root_.Nat.lt_succ_of_lt
def zY := @_root_.List.pairwise_map
def zZ := @_root_.List.Pairwise.nil
def BB := @_root_.List.all_eq_true
def BD := @_root_.Int.eq_ofNat_of_zero_le
def BF := @_root_.Array.toList_inj
def CU := @_root_.beq_iff_eq
def CV := @_root_.Go.Proofs.Tryz.func458
def CW := @_root_.Go.Proofs.Tryz.func197
def CX := @_root_.Nat.zero_mul
def CY := @_root_.Nat.div_div_eq_div_mul
def CZ := @_root_.List.drop_of_length_le
def C8 := @_root_.ByteArray.data_extract
def C9 := @_root_.Array.getElem?_eq_none
def Fh := @_root_.Go.wpS_of_wp
def Fj := @_root_.Nat.not_lt_zero
def Fq := @_root_.Go.Proofs.Tryz.underlying558
def Fs := @_root_.Go.Proofs.Tryz.underlying504
def Fu := @_root_.Go.Proofs.Tryz.underlying503
def Fv := @_root_.Go.Proofs.Tryz.underlying501
def Fw := @_root_.Go.Proofs.Tryz.underlying246
def Fx := @_root_.Go.Proofs.Tryz.sizeOf292
def Fy := @_root_.Go.Proofs.Tryz.sizeOf154
def Fz := @_root_.Go.Proofs.Tryz.results62
def FB := @_root_.List.eq_nil_or_concat
def FC := @_root_.List.concat_eq_append
def GY := @_root_.Go.Src.ofString
def IZ := @_root_.List.set_append_left
def I4 := @_root_.List.drop_left
def I5 := @_root_.Array.toList_extract
def Ko := @_root_.Go.World.cell?_alloc_old
def Kq := @_root_.Go.Proofs.Tryz.zeroValue504
def Kr := @_root_.Go.Proofs.Tryz.zeroValue503
def Ku := @_root_.Go.Proofs.Tryz.sizeOf21
def Kw := @_root_.Go.Proofs.Tryz.sizeOf20
def Kz := @_root_.Go.Proofs.Tryz.isAgg292
def KA := @_root_.Go.Proofs.Tryz.isAgg154
def KC := @_root_.List.getElem?_range
def KD := @_root_.List.flatten_append
def KE := @_root_.Array.toList_append
def Nl := @_root_.Go.size_zeroCells
def Nn := @_root_.Go.cell_of_row
def Np := @_root_.Go.World.cell?_of_block
def Nq := @_root_.ByteArray.ext
def Nt := @_root_.Nat.add_sub_cancel
def Nu := @_root_.Int.emod_lt_of_pos
def Nv := @_root_.Array.ext'
def Pf := @_root_.Go.run_firstCells_some
def Pj := @_root_.Go.run_callFunc_extern
def Pm := @_root_.List.set_eq_take_append_cons_drop
def PX := @_root_.Go.length_splice
def PY := @_root_.Go.Proofs.Tryz.isAgg21
def PZ := @_root_.Go.Proofs.Tryz.isAgg20
def P5 := @_root_.Option.some.injEq
def P6 := @_root_.Nat.succ_mul
def P7 := @_root_.Nat.min_self
def P8 := @_root_.Nat.le_succ_of_le
def P9 := @_root_.List.nodup_append
def Qa := @_root_.List.getElem_take
def Qb := @_root_.List.getElem_drop
def RG := @_root_.Go.run_slice_string_h
def RH := @_root_.Go.World.ownsMap.drew
def RN := @_root_.Option.getD_some
def RO := @_root_.Option.bind_some
def RP := @_root_.List.cons_append
def RQ := @_root_.List.any_eq_true
def Tx := @_root_.Go.wp_scope_straight
def Stop (p:Prop):Prop:=p
theorem Stop.of {p:Prop}(h:Stop p):p:=h
theorem Stop.on {p:Prop}(h:p):Stop p:=h
structure Keep (M:Nat->Prop)(w w':World):Prop where
 os:w'.os=w.os
 tape:w'.tape=w.tape
 output:w'.output=w.output
 size:w.heap.size<=w'.heap.size
 block:∀k,k<w.heap.size->¬M k->w'.heap[k]? =w.heap[k]?
theorem Keep.refl (M:Nat->Prop)(w:World):Keep M w w:=⟨rfl,rfl,rfl,aA _,fun _ _ _=>rfl⟩
theorem Keep.trans {M M':Nat->Prop}{a b c:World}(h:Keep M a b)(k:Keep M' b c)(hm:∀i,i<a.heap.size->M' i->M i):Keep M a c:=
 ⟨k.os.trans h.os,k.tape.trans h.tape,k.output.trans h.output,aG h.size k.size,
  fun i hi hn=>(k.block i (ax hi h.size) (fun x=>hn (hm i hi x))).trans (h.block i hi hn)⟩
theorem Keep.mono {M M':Nat->Prop}{a b:World}(h:Keep M a b)(hm:∀i,i<a.heap.size->M i->M' i):Keep M' a b:=
 ⟨h.os,h.tape,h.output,h.size,fun i hi hn=>h.block i hi (fun x=>hn (hm i hi x))⟩
theorem Keep.alloc {M:Nat->Prop}{a w:World}(h:Keep M a w)(o:Obj):Keep M a (w.alloc o):=
 ⟨h.os,h.tape,h.output,aG h.size (by simp),fun k hk hn=>(nD w o k (ax hk h.size)).trans (h.block k hk hn)⟩
theorem Keep.drew {M:Nat->Prop}{a w:World}(h:Keep M a w):Keep M a w.drew:=⟨h.os,h.tape,h.output,h.size,h.block⟩
theorem Keep.setCell {M:Nat->Prop}{a w:World}(h:Keep M a w){p:Addr}(hp:a.heap.size<=p.block\/M p.block)(u:Value):Keep M a (w.setCell p u):=
 ⟨h.os,h.tape,h.output,aG h.size (by simp),fun k hk hn=>(Below.heap_setCell w p u k (by rintro rfl;exact hp.elim (fun x=>absurd hk (aV.2 x)) hn)).trans (h.block k hk hn)⟩
theorem Keep.of_below {w w':World}(h:Below w.heap.size w w')(M:Nat->Prop):Keep M w w':=
 ⟨h.os,h.tape,h.output,h.size,fun k hk _=>h.block k hk⟩
theorem Keep.below {w w':World}(h:Keep (fun _=>False) w w'):Below w.heap.size w w':=
 ⟨h.os,h.tape,h.output,h.size,fun k hk=>h.block k hk id⟩
theorem Keep.dY {M:Nat->Prop}{a b:World}(h:Keep M a b){B:Nat}(hB:B<=a.heap.size)(hM:∀i,i<B->¬M i):Below B a b:=
 ⟨h.os,h.tape,h.output,h.size,fun k hk=>h.block k (ax hk hB) (hM k hk)⟩
theorem Keep.grown {M:Nat->Prop}{a w w':World}{row:Option Nat}(h:Keep M a w)(hg:w.grownBy w' row)(hr:∀k,row=some k->a.heap.size<=k\/M k):Keep M a w':=
 ⟨hg.os.trans h.os,hg.tape.trans h.tape,hg.output.trans h.output,aG h.size hg.size,
  fun k hk hn=>(hg.block k (ax hk h.size) (fun e=>(hr k e.symm).elim (fun x=>absurd hk (aV.2 x)) hn)).trans (h.block k hk hn)⟩
theorem Keep.cell {M:Nat->Prop}{w w':World}(h:Keep M w w'){p:Addr}(hp:p.block<w.heap.size)(hn:¬M p.block):w'.cell? p=w.cell? p:=
 Np (w:=w) (h.block p.block hp hn)
theorem Keep.frozen {M:Nat->Prop}{w w':World}(h:Keep M w w'){p:Addr}(hp:p.block<w.heap.size)(hn:¬M p.block):w'.frozen? p=w.frozen? p:=
 World.frozen?_of_block (w:=w) (h.block p.block hp hn)
def d9:Nat->Prop:=fun _=>False
def Step (S S':Nat->Prop)(w w':World):Prop:=Keep S w w'/\∀g,S' g->S g\/w.heap.size<=g
theorem Step.refl (S:Nat->Prop)(w:World):Step S S w w:=⟨Keep.refl _ _,fun _ h=> .inl h⟩
theorem Step.trans {S S' S'':Nat->Prop}{a b c:World}(h:Step S S' a b)(k:Step S' S'' b c):Step S S'' a c:=
 ⟨h.1.trans k.1 fun i hi hs=>(h.2 i hs).elim id (fun x=>absurd hi (aV.2 x)),
  fun g hg=>(k.2 g hg).elim (fun x=>h.2 g x) (fun x=> .inr (aG h.1.size x))⟩
theorem Step.of_below {S:Nat->Prop}{w w':World}(h:Below w.heap.size w w'):Step S S w w':=⟨Keep.of_below h S,fun _ h=> .inl h⟩
def aW (w:World)(S:Nat->Prop)(k:Nat)(v:Value)(n:Nat)(xs:List Value):Prop:=
 ∃ao c,v= .slice ao n c/\n<=c/\c<=maxLen/\xs.length=n*k/\(ao=none->n=0/\c=0)/\(∀ad,ao=some ad->ad.spot=none/\ad.block<w.heap.size/\¬S ad.block)/\
  ∀j u,xs[j]? =some u->∃b o,ao=some ⟨b,o,none⟩/\w.cell? ⟨b,o+j,none⟩=some u
theorem aW.keep {w w':World}{S S':Nat->Prop}{k n:Nat}{v:Value}{xs:List Value}(h:aW w S k v n xs)
  (hb:∀g,v.ownBlock=some g->g<w.heap.size->¬S g->w'.heap[g]? =w.heap[g]?/\¬S' g):aW w' S' k v n xs:=by
 obtain⟨ao,c,rfl,h1,h2,h3,h4,h5,h6⟩:=h
 refine⟨ao,c,rfl,h1,h2,h3,h4,fun ad had=> ?_,fun j u hu=> ?_⟩
 ·have:=h5 ad had
  have hq:=hb ad.block (by rw[had];rfl) this.2.1 this.2.2
  refine⟨this.1,?_,hq.2⟩
  exact(ah.1 (hq.1.trans (Array.getElem?_eq_getElem this.2.1))).1
 ·obtain⟨b,o,rfl,hc⟩:=h6 j u hu
  have:=h5 _ rfl
  exact⟨b,o,rfl,(Np (w:=w) (a:=⟨b,o+j,none⟩) (hb b rfl this.2.1 this.2.2).1).trans hc⟩
theorem aW.step {w w':World}{S S':Nat->Prop}{k n:Nat}{v:Value}{xs:List Value}(h:aW w S k v n xs)(hs:Step S S' w w'):aW w' S' k v n xs:=
 h.keep fun g _ hl hn=>⟨hs.1.block g hl hn,fun x=>(hs.2 g x).elim hn (fun y=>absurd hl (aV.2 y))⟩
theorem aW.below {w w':World}{S:Nat->Prop}{k n:Nat}{v:Value}{xs:List Value}(h:aW w S k v n xs)(hs:Below w.heap.size w w'):aW w' S k v n xs:=
 h.step (Step.of_below hs)
theorem aW.nil (w:World)(S:Nat->Prop)(k:Nat):aW w S k (.slice none 0 0) 0 []:=
 ⟨none,0,rfl,aA _,aN _,by simp,fun _=>⟨rfl,rfl⟩,(fun _ h=>by cases h),(fun j u h=>by simp at h)⟩
theorem aW.form {w:World}{S:Nat->Prop}{k n:Nat}{v:Value}{xs:List Value}(h:aW w S k v n xs):
  ∃ao c,v= .slice ao n c/\n<=c/\c<=9223372036854775807/\(n=0\/∃b o,ao=some ⟨b,o,none⟩)/\(ao=none->c=0):=by
 obtain⟨ao,c,rfl,h1,h2,h3,h4,h5,h6⟩:=h
 refine⟨ao,c,rfl,h1,by simpa [maxLen] using h2,?_,fun h=>(h4 h).2⟩
 rcases ao with _|⟨b,o,sp⟩
 ·exact .inl (h4 rfl).1
 ·obtain rfl:sp=none:=(h5 _ rfl).1
  exact .inr ⟨b,o,rfl⟩
theorem aW.upto {w:World}{S:Nat->Prop}{k n c:Nat}{ao:Option Addr}{xs:List Value}(h:aW w S k (.slice ao n c) n xs)(j:Nat)(hj:j<=n):aW w S k (.slice ao j c) j (xs.take (j*k)):=by
 obtain⟨ao',c',hv,h1,h2,h3,h4,h5,h6⟩:=h
 cases hv
 refine⟨ao,c,rfl,by omega,h2,by rw[aL,h3];exact dh (bV _ hj),fun e=>⟨by have:=(h4 e).1;omega,(h4 e).2⟩,h5,fun i u hu=> ?_⟩
 rw[gY] at hu
 split at hu
 ·exact h6 i u hu
 ·cases hu
theorem aW.after {w:World}{S:Nat->Prop}{k n c:Nat}{ao:Option Addr}{xs:List Value}(h:aW w S k (.slice ao n c) n xs)(i:Nat)(hi:i<=n):
  aW w S k (.slice (if c=i then ao else ao.map fun x=>x.add (i*k)) (n - i) (c - i)) (n - i) (xs.drop (i*k)):=by
 obtain⟨ao',c',hv,h1,h2,h3,h4,h5,h6⟩:=h
 cases hv
 have hlen:(xs.drop (i*k)).length=(n - i)*k:=by rw[bB,h3,Nat.sub_mul]
 by_cases hc:c=i
 ·rw[if_pos hc]
  have e:xs.drop (i*k)=[]:=bn (by rw[hlen,show n - i=0 by omega,CX])
  refine⟨ao,c - i,rfl,by omega,by omega,hlen,fun e=>⟨by have:=(h4 e).1;omega,by have:=(h4 e).2;omega⟩,h5,fun j u hu=> ?_⟩
  rw[e] at hu;simp at hu
 ·rw[if_neg hc]
  refine⟨_,c - i,rfl,by omega,by omega,hlen,fun e=> ?_,fun ad had=> ?_,fun j u hu=> ?_⟩
  ·cases ao with
   |none=>have:=h4 rfl;omega
   |some ad=>cases e
  ·cases ao with
   |none=>cases had
   |some a0=>
    have:=h5 a0 rfl
    obtain⟨b,o,sp⟩:=a0
    cases had
    have hs:sp=none:=this.1
    subst hs
    simp only[ig]
    exact⟨trivial,this.2⟩
  ·rw[List.getElem?_drop] at hu
   obtain⟨b,o,e,hc⟩:=h6 _ u hu
   subst e
   refine⟨b,o+i*k,by simp[ig],?_⟩
   rw[kV];exact hc
theorem aW.Bz {w:World}{S:Nat->Prop}{v:Value}{n:Nat}{xs:List Value}(h:aW w S 1 v n xs){ao:Option Addr}{n' c:Nat}(hv:v= .slice ao n' c)(i:Nat)(u:Value)(hu:xs[i]? =some u):
  ∃b o,ao=some ⟨b,o,none⟩/\w.cell? ⟨b,o+i,none⟩=some u:=by
 obtain⟨ao',c',rfl,_,_,_,_,_,h6⟩:=h
 cases hv
 exact h6 _ _ hu
def aQ (w:World)(S:Nat->Prop)(B e k:Nat)(v:Value)(n:Nat)(xs:List Value):Prop:=
 w.ownsRow B e k v n xs/\∀g,v.ownBlock=some g->¬S g
theorem aQ.dL {w:World}{S:Nat->Prop}{B e k n:Nat}{v:Value}{xs:List Value}(h:aQ w S B e k v n xs):aW w S k v n xs:=by
 obtain⟨⟨hl,hr⟩,hn⟩:=h
 rcases hr with ⟨rfl,rfl⟩|⟨g,cap,cur,rfl,_,hg,h1,h2,h3,h4⟩
 ·have:xs=[]:=bn (by simpa using hl)
  subst this;exact aW.nil _ _ _
 ·refine⟨_,cap,rfl,h1,h2,hl,by simp,fun ad had=> ?_,fun j u hu=>⟨g,0,rfl,?_⟩⟩
  ·cases had;exact⟨rfl,(ah.1 hg).1,hn g rfl⟩
  ·have hj:=(bg.1 hu).1
   rw[iN]
   rw[Nn w g j cur e (0,0) hg]
   rw[<-h4,gY] at hu
   split at hu
   ·simpa using hu
   ·cases hu
theorem aQ.nil (w:World)(S:Nat->Prop)(B e k:Nat):aQ w S B e k (.slice none 0 0) 0 []:=⟨World.ownsRow_nil w B e k,by simp[Value.ownBlock]⟩
theorem aQ.keep {w w':World}{S S':Nat->Prop}{B e k n:Nat}{v:Value}{xs:List Value}(h:aQ w S B e k v n xs)
  (hb:∀g,v.ownBlock=some g->g<w.heap.size->¬S g->w'.heap[g]? =w.heap[g]?/\¬S' g):aQ w' S' B e k v n xs:=by
 obtain⟨⟨hl,hr⟩,hn⟩:=h
 rcases hr with ⟨rfl,rfl⟩|⟨g,cap,cur,rfl,h0,hg,h1⟩
 ·exact⟨⟨hl,.inl ⟨rfl,rfl⟩⟩,by simp[Value.ownBlock]⟩
 ·have:=hb g rfl (ah.1 hg).1 (hn g rfl)
  exact⟨⟨hl,.inr ⟨g,cap,cur,rfl,h0,this.1.trans hg,h1⟩⟩,fun g' hg'=>by cases hg';exact this.2⟩
theorem aQ.lt {w:World}{S:Nat->Prop}{B e k n:Nat}{v:Value}{xs:List Value}(h:aQ w S B e k v n xs):v.ownBlock≠some w.heap.size:=fun e=>absurd (h.1.lt _ e).2 (bY _)
theorem aQ.lt' {w:World}{S:Nat->Prop}{B e k n:Nat}{v:Value}{xs:List Value}(h:aQ w S B e k v n xs){g:Nat}(hg:w.heap.size<=g):v.ownBlock≠some g:=fun e=>absurd (h.1.lt _ e).2 (aV.2 hg)
theorem aQ.drew {w:World}{S:Nat->Prop}{B e k n:Nat}{v:Value}{xs:List Value}(h:aQ w S B e k v n xs):aQ w.drew S B e k v n xs:=h
theorem aQ.step {w w':World}{S S':Nat->Prop}{B e k n:Nat}{v:Value}{xs:List Value}(h:aQ w S B e k v n xs)(hs:Step S S' w w'):aQ w' S' B e k v n xs:=
 h.keep fun g _ hl hn=>⟨hs.1.block g hl hn,fun x=>(hs.2 g x).elim hn (fun y=>absurd hl (aV.2 y))⟩
theorem aQ.below {w w':World}{S:Nat->Prop}{B e k n:Nat}{v:Value}{xs:List Value}(h:aQ w S B e k v n xs)(hs:Below w.heap.size w w'):aQ w' S B e k v n xs:=
 h.step (Step.of_below hs)
theorem aW.src {P:Program}{w:World}{S:Nat->Prop}{k n:Nat}{v:Value}{xs:List Value}(h:aW w S k v n xs){tx e':TypeId}(hk:P.underlying tx=some (.slice e'))(h1:∀u∈xs,u.oneCell'=true):Src P k tx v n xs w:=by
 obtain⟨ao,c,rfl,_,_,h3,h4,h5,h6⟩:=h
 cases ao with
 |none=>
  obtain⟨rfl,rfl⟩:=h4 rfl
  have:xs=[]:=bn (by simpa using h3)
  subst this
  exact Src.ofNil w hk 0
 |some ad=>
  obtain⟨b,o,sp⟩:=ad
  obtain rfl:sp=none:=(h5 _ rfl).1
  refine Src.ofSlice w hk ⟨b,o,none⟩ n c xs h3 (fun j u hu=> ?_) h1
  obtain⟨b',o',e,hc⟩:=h6 j u hu
  cases e
  rw[ig];exact hc
theorem iq {P:Program}{w:World}(cs:List Value)(T k n c:Nat){tx e':TypeId}{g:Nat}(hg:w.heap.size=g)(hk:P.underlying tx=some (.slice e'))(hl:cs.length=n*k)(h1:∀u∈cs,u.oneCell'=true):
  Src P k tx (.slice (some ⟨g,0,none⟩) n c) n cs (w.alloc (.cells cs.toArray T)):=by
 subst hg
 refine Src.ofSlice _ hk _ n c cs hl (fun j u hu=> ?_) h1
 rw[ig,iN,nI]
 simpa using hu
theorem yx {w:World}{S:Nat->Prop}{B e k:Nat}(cs:List Value)(n c:Nat){g:Nat}(hg:w.heap.size=g)(hl:cs.length=c*k)(hnc:n<=c)(hc:c<=maxLen)(hB:B<=w.heap.size)(hS:∀g,S g->g<w.heap.size):
  aQ (w.alloc (.cells cs.toArray e)) S B e k (.slice (some ⟨g,0,none⟩) n c) n (cs.take (n*k)):=by
 subst hg
 refine⟨⟨?_,.inr ⟨_,c,_,rfl,hB,aF w _,hnc,hc,by simpa using hl,rfl⟩⟩,fun g hg hs=> ?_⟩
 ·rw[aL,hl];exact dh (bV _ hnc)
 ·cases hg;exact absurd (hS _ hs) (bY _)
theorem jS {S:Nat->Prop}{w:World}(h:∀g,S g->g<w.heap.size)(o:Obj):∀g,S g->g<(w.alloc o).heap.size:=fun g hg=>by
 rw[aZ];exact zX (h g hg)
theorem wK {S:Nat->Prop}{w w':World}{B:Nat}(h:∀g,S g->g<w.heap.size)(hb:Below B w w'):∀g,S g->g<w'.heap.size:=fun g hg=>ax (h g hg) hb.size
theorem aC (w:World)(o:Obj):Below w.heap.size w (w.alloc o):=(aH _ _).alloc (aA _) _
theorem iU (w:World)(o o':Obj):Below w.heap.size w ((w.alloc o).alloc o'):=(aC w o).alloc (by simp) _
theorem E5 (w:World)(o o' o'':Obj):Below w.heap.size w (((w.alloc o).alloc o').alloc o''):=(iU w o o').alloc (by simp;omega) _
section
variable {P:Program}
theorem NV (w:World)(S:Nat->Prop)(B:Nat)(t tx ty e:TypeId)(i:TypeInfo)(z:Value)(k bytes:Nat)(ht:P.underlying t=some (.slice e))(hi:P.info? e=some i)(hz:i.zero=some z)
  (hsize:i.size=k) (hby:i.bytes=bytes) (hzs:z.cells.size=k)
  (v:Value) (n:Nat) (xs:List Value) (hown:aQ w S B e k v n xs) (x:Value) (m:Nat) (news:List Value) (hs:Src P k tx x m news w)
  (hS:∀g,S g->g<w.heap.size) (hbase:B<=w.heap.size) (h63:n+m<=maxLen) (hbytes:(n+m)*bytes<=140737488355328):
  ∃ao c w',(Builtin.append_ #[t,tx] ty #[v,x]).run P w= .ok (.slice ao (n+m) c) w'/\aQ w' S B e k (.slice ao (n+m) c) (n+m) (xs++news)/\Keep (fun g=>v.ownBlock=some g) w w'/\Below B w w'/\
   (∀g,g<w.heap.size->v.ownBlock≠some g->(Value.slice ao (n+m) c).ownBlock≠some g):=by
 suffices hsuf:∃ao c w',(Builtin.append_ #[t,tx] ty #[v,x]).run P w= .ok (.slice ao (n+m) c) w'/\aQ w' S B e k (.slice ao (n+m) c) (n+m) (xs++news)/\Keep (fun g=>v.ownBlock=some g) w w'/\
   ((Value.slice ao (n+m) c).ownBlock=v.ownBlock\/∃g,ao=some ⟨g,0,none⟩/\w.heap.size<=g) by
  obtain⟨ao,c,w',h1,h2,h3,h4⟩:=hsuf
  exact⟨ao,c,w',h1,h2,h3,⟨h3.os,h3.tape,h3.output,h3.size,fun g hg=>h3.block g (ax hg hbase) (fun e=>absurd (hown.1.lt g e).1 (jk.2 hg))⟩,fun g hg hne=>h4.elim (fun e=>e▸hne) (fun ⟨g',e,hge⟩=>by rw[e];intro e';cases e';exact absurd hg (aV.2 hge))⟩
 subst hsize
 subst hby
 have hsmall:n+m<=9223372036854775807:=by simp only[maxLen] at h63;omega
 have hlen:(xs++news).length=(n+m)*i.size:=by rw[ay,hown.1.1,hs.newsLen,dU]
 have grown:∀(old:Nat),old<n+m->
   aQ (w.drew.alloc (.cells ((xs++news).toArray++Builtin.zeroCells z.cells (grownCap w (n+m) old e - (n+m))) e)) S B e i.size
    (.slice (some ⟨w.heap.size,0,none⟩) (n+m) (grownCap w (n+m) old e)) (n+m) (xs++news)/\
   Keep (fun g=>v.ownBlock=some g) w (w.drew.alloc (.cells ((xs++news).toArray++Builtin.zeroCells z.cells (grownCap w (n+m) old e - (n+m))) e)):=by
  intro old ho
  have hge:=grownCap_ge w (n+m) old e
  have hcm:grownCap w (n+m) old e<=maxLen:=zW w (n+m) old e h63
  refine⟨⟨⟨hlen,.inr ⟨w.heap.size,_,_,rfl,hbase,aF w.drew _,hge,hcm,?_,?_⟩⟩,fun g hg hh=> ?_⟩,(Keep.refl _ w).drew.alloc _⟩
  ·simp only[Array.size_append,ny,hlen,Nl,hzs,<-dU]
   congr 1
   omega
  ·simp only[KE]
   rw[<-hlen]
   exact gP
  ·cases hg;exact absurd (hS _ hh) (bY _)
 rcases hown.1.2 with ⟨rfl,rfl⟩|⟨g,cap,cur,rfl,hbg,hg,hnc,hcm,hcs,htake⟩
 ·have hx:xs=[]:=bn (by simpa using hown.1.1)
  subst hx
  by_cases hm:m=0
  ·subst hm
   have hn:news=[]:=bn (by simpa using hs.newsLen)
   subst hn
   refine⟨none,0,w,?_,aQ.nil w S B e i.size,Keep.refl _ _,.inl rfl⟩
   rcases hs.kind with ⟨e',hk⟩|hk<;>simp[Builtin.append_,gy ht,gy hk,sizeOf,typeInfo,hi,hs.len,hs.cells]
  ·have hr:=pO (P:=P) w t tx ty e i z ht hi hz none 0 0 [] (run_firstCells_none w.drew i.size 0 0 0) x m news hs (by omega) (by omega) (sj (by omega) hbytes)
   have hgr:=grown 0 (by omega)
   exact⟨_,_,_,hr,hgr.1,hgr.2,.inr ⟨_,rfl,aA _⟩⟩
 ·by_cases hroom:n+m<=cap
  ·have hfit:n*i.size+news.length<=cur.size:=by rw[hs.newsLen,hcs,<-dU];exact bV _ hroom
   have hst:=run_storeCells_at P g (n*i.size) e news 0 cur w hg (by simpa using hfit) hs.one
   simp only[jw] at hst
   refine⟨some ⟨g,0,none⟩,cap,w.setRow g (cur.toList.take (n*i.size)++news++cur.toList.drop (n*i.size+news.length)).toArray,?_,⟨⟨hlen,.inr ⟨g,cap,_,rfl,hbg,setRow_heap w g cur _ e _ hg,hroom,hcm,?_,?_⟩⟩,hown.2⟩,
    ⟨rfl,rfl,rfl,by simp,fun k' _ hk=>setRow_other w g k' _ (fun e=>hk (by simp[Value.ownBlock,e]))⟩,.inl rfl⟩
   ·rcases hs.kind with ⟨e',hk⟩|hk<;>simp[Builtin.append_,gy ht,gy hk,sizeOf,typeInfo,hi,hs.len,hroom,hs.cells,ig,hst]
   ·simp only[ny,ay,aL,bB,oU]
    omega
   ·rw[htake,<-hlen]
    exact gP
  ·have hold:(Builtin.firstCells i.size n (.slice (some ⟨g,0,none⟩) n cap)).run P w.drew= .ok xs.toArray w.drew:=
    Pf w.drew i.size n ⟨g,0,none⟩ n cap xs hown.1.1 (fun j u hu=>by simpa using hown.1.cells (g:=g) rfl j u hu)
   have hr:=pO (P:=P) w t tx ty e i z ht hi hz (some ⟨g,0,none⟩) n cap xs hold x m news hs (by omega) (by omega) (sj (by omega) hbytes)
   have hgr:=grown cap (by omega)
   exact⟨_,_,_,hr,hgr.1,hgr.2,.inr ⟨_,rfl,aA _⟩⟩
theorem qP {o:Oper}{a:Act}{w:World}{K:Act->World->Prop}{Q:Exit->Act->World->Prop}(s y:Operand)(t tx:TypeId)(ho:o.op= .call {callee:= .builtin .append,args:=#[s,y],argTypes:=#[t,tx]})
  (S:Nat->Prop) (B:Nat) (e:TypeId) (k bytes:Nat) (z:Value) (ht:P.underlying t=some (.slice e)) (hinfo:(P.info? e).map (fun i=>(i.zero,i.size,i.bytes))=some (some z,k,bytes)) (hzs:z.cells.size=k)
  (v:Value) (n:Nat) (xs:List Value) (hv:a.eval s=v) (hown:aQ w S B e k v n xs) (x:Value) (m:Nat) (news:List Value) (hx:a.eval y=x) (hs:Src P k tx x m news w)
  (hS:∀g,S g->g<w.heap.size) (hbase:B<=w.heap.size) (h63:n+m<=maxLen) (hbytes:(n+m)*bytes<=140737488355328)
  (h:∀ao c w',aQ w' S B e k (.slice ao (n+m) c) (n+m) (xs++news)->Keep (fun g=>v.ownBlock=some g) w w'->Below B w w'->
   (∀g,g<w.heap.size->v.ownBlock≠some g->(Value.slice ao (n+m) c).ownBlock≠some g)->K (a.put o.dst (.slice ao (n+m) c)) w'):o.wp P a w K Q:=by
 obtain⟨i,hi,hz,hsize,hby⟩:=zV hinfo
 obtain⟨ao,c,w',hr,h2,h3,h3b,h4⟩:=NV (P:=P) w S B t tx o.type e i z k bytes ht hi hz hsize hby hzs v n xs hown x m news hs hS hbase h63 hbytes
 unfold Oper.wp execOp
 simp only[ho,resolve,invoke,builtin,kg,yo,gM,sW,dO,og,hv,hx,hr]
 exact h ao c w' h2 h3 h3b h4
theorem dS {ops:Array Oper}{rest:List Oper}{o:Oper}{a:Act}{w:World}{Q:Exit->Act->World->Prop}(hgd:o.guard=none)(s y:Operand)(t tx:TypeId)(ho:o.op= .call {callee:= .builtin .append,args:=#[s,y],argTypes:=#[t,tx]})
  (S:Nat->Prop) (B:Nat) (e:TypeId) (k bytes:Nat) (z:Value) (ht:P.underlying t=some (.slice e)) (hinfo:(P.info? e).map (fun i=>(i.zero,i.size,i.bytes))=some (some z,k,bytes)) (hzs:z.cells.size=k)
  (v:Value) (n:Nat) (xs:List Value) (hv:a.eval s=v) (hown:aQ w S B e k v n xs) (x:Value) (m:Nat) (news:List Value) (hx:a.eval y=x) (hs:Src P k tx x m news w)
  (hS:∀g,S g->g<w.heap.size) (hbase:B<=w.heap.size) (h63:n+m<=maxLen) (hbytes:(n+m)*bytes<=140737488355328)
  (h:∀ao c w',aQ w' S B e k (.slice ao (n+m) c) (n+m) (xs++news)->Keep (fun g=>v.ownBlock=some g) w w'->Below B w w'->
   (∀g,g<w.heap.size->v.ownBlock≠some g->(Value.slice ao (n+m) c).ownBlock≠some g)->wpList P ops Q rest (a.put o.dst (.slice ao (n+m) c)) w'):wpList P ops Q (o::rest) a w:=
 wpList_plain hgd fun _ hK=>qP s y t tx ho S B e k bytes z ht hinfo hzs v n xs hv hown x m news hx hs hS hbase h63 hbytes fun ao c w' h2 h3 h3b h4=>hK _ _ (h ao c w' h2 h3 h3b h4)
theorem Dn {ops:Array Oper}{o:Oper}{a:Act}{w:World}{K:Act->World->Prop}{Q:Exit->Act->World->Prop}{E:Prop}(hgd:o.guard=none)(s y:Operand)(t tx:TypeId)(ho:o.op= .call {callee:= .builtin .append,args:=#[s,y],argTypes:=#[t,tx]})
  (S:Nat->Prop) (B:Nat) (e:TypeId) (k bytes:Nat) (z:Value) (ht:P.underlying t=some (.slice e)) (hinfo:(P.info? e).map (fun i=>(i.zero,i.size,i.bytes))=some (some z,k,bytes)) (hzs:z.cells.size=k)
  (v:Value) (n:Nat) (xs:List Value) (hv:a.eval s=v) (hown:aQ w S B e k v n xs) (x:Value) (m:Nat) (news:List Value) (hx:a.eval y=x) (hs:Src P k tx x m news w)
  (hS:∀g,S g->g<w.heap.size) (hbase:B<=w.heap.size) (h63:n+m<=maxLen) (hbytes:(n+m)*bytes<=140737488355328)
  (h:∀ao c w',aQ w' S B e k (.slice ao (n+m) c) (n+m) (xs++news)->Keep (fun g=>v.ownBlock=some g) w w'->Below B w w'->
   (∀g,g<w.heap.size->v.ownBlock≠some g->(Value.slice ao (n+m) c).ownBlock≠some g)->K (a.put o.dst (.slice ao (n+m) c)) w'):
  if Region.wanted o (yielded ops a.tmps)=true then Oper.wp P o a w K Q else E:=by
 have hw:Region.wanted o (yielded ops a.tmps)=true:=by simp[Region.wanted,hgd]
 rw[if_pos hw]
 exact qP s y t tx ho S B e k bytes z ht hinfo hzs v n xs hv hown x m news hx hs hS hbase h63 hbytes h
end
def bZ (ps:List (ByteArray×ByteArray)):List Value:=ps.flatMap fun p=>[.string p.1,.string p.2]
theorem jL (p:ByteArray×ByteArray)(ps:List (ByteArray×ByteArray)):bZ (p::ps)= .string p.1:: .string p.2::bZ ps:=rfl
theorem DN (ps:List (ByteArray×ByteArray)):∀i (h:i<ps.length),(bZ ps)[i*2]? =some (.string ps[i].1)/\(bZ ps)[i*2+1]? =some (.string ps[i].2):=by
 induction ps with
 |nil=>intro i h;exact absurd h (by simp)
 |cons p ps ih=>
  intro i h
  cases i with
  |zero=>simp[jL]
  |succ i=>
   have:=ih i (by simpa using h)
   rw[jL]
   refine⟨?_,?_⟩
   ·have e:(i+1)*2=i*2+1+1:=by omega
    rw[e,bT,bT];exact this.1
   ·have e:(i+1)*2+1=(i*2+1)+1+1:=by omega
    rw[e,bT,bT];exact this.2
theorem lZ (a b:List (ByteArray×ByteArray)):bZ (a++b)=bZ a++bZ b:=by simp[bZ]
def aB (l:List UInt8):List Value:=l.map fun b=> .int .u8 (b.toNat:Int)
theorem eB (a b:List UInt8):aB (a++b)=aB a++aB b:=by simp[aB]
theorem aY (l:List UInt8):(aB l).length=l.length:=by simp[aB]
theorem vN (s:ByteArray):byteCells s=aB s.data.toList:=rfl
def rZ (w:World)(S:Nat->Prop)(v:Value)(ps:List (ByteArray×ByteArray)):Prop:=aW w S 2 v ps.length (bZ ps)
def oM (w:World)(S:Nat->Prop)(v:Value)(ss:List ByteArray):Prop:=aW w S 1 v ss.length (ss.map .string)
def qD (w:World)(S:Nat->Prop)(v:Value)(zs:List Int):Prop:=aW w S 1 v zs.length (zs.map (.int .i64))
def gT (w:World)(S:Nat->Prop)(v:Value)(l:List UInt8):Prop:=aW w S 1 v l.length (aB l)
theorem qD.at {w:World}{S:Nat->Prop}{v:Value}{zs:List Int}{ao:Option Addr}{n c:Nat}(h:qD w S v zs)(hv:v= .slice ao n c)(i:Nat)(hi:i<zs.length):
  ∃b o,ao=some ⟨b,o,none⟩/\w.cell? ⟨b,o+i,none⟩=some (.int .i64 zs[i]):=aW.Bz h hv i _ (by simp[hi])
theorem oM.at {w:World}{S:Nat->Prop}{v:Value}{ss:List ByteArray}{ao:Option Addr}{n c:Nat}(h:oM w S v ss)(hv:v= .slice ao n c)(i:Nat)(hi:i<ss.length):
  ∃b o,ao=some ⟨b,o,none⟩/\w.cell? ⟨b,o+i,none⟩=some (.string ss[i]):=aW.Bz h hv i _ (by simp[hi])
theorem gT.at {w:World}{S:Nat->Prop}{v:Value}{l:List UInt8}{ao:Option Addr}{n c:Nat}(h:gT w S v l)(hv:v= .slice ao n c)(i:Nat)(hi:i<l.length):
  ∃b o,ao=some ⟨b,o,none⟩/\w.cell? ⟨b,o+i,none⟩=some (.int .u8 (l[i].toNat:Int)):=aW.Bz h hv i _ (by simp[aB,hi])
theorem rZ.at {w:World}{S:Nat->Prop}{v:Value}{ps:List (ByteArray×ByteArray)}{ao:Option Addr}{n c:Nat}(h:rZ w S v ps)(hv:v= .slice ao n c)(i:Nat)(hi:i<ps.length):
  ∃b o,ao=some ⟨b,o,none⟩/\w.cell? ⟨b,o+i*2,none⟩=some (.string ps[i].1)/\w.cell? ⟨b,o+i*2+1,none⟩=some (.string ps[i].2):=by
 obtain⟨ao',c',rfl,_,_,_,_,_,h6⟩:=h
 cases hv
 have hg:=DN ps i hi
 obtain⟨b,o,e,h1⟩:=h6 _ _ hg.1
 obtain⟨b',o',e',h2⟩:=h6 _ _ hg.2
 rw[e] at e';cases e'
 exact⟨b,o,e,h1,h2⟩
theorem fq (l:List UInt8):∀u∈aB l,u.oneCell'=true:=by
 intro u hu;obtain⟨_,_,rfl⟩:=gV.1 hu;rfl
theorem Oc (ps:List (ByteArray×ByteArray)):∀u∈bZ ps,u.oneCell'=true:=by
 intro u hu
 obtain⟨p,_,hp⟩:=nZ.1 hu
 simp at hp;rcases hp with rfl|rfl<;>rfl
def Row (w:World)(g e:Nat)(cur:List Value):Prop:=w.heap[g]? =some (.cells cur.toArray e (0,0))
theorem Row.lt {w:World}{g e:Nat}{cur:List Value}(h:Row w g e cur):g<w.heap.size:=(ah.1 h).1
theorem Row.cell {w:World}{g e:Nat}{cur:List Value}(h:Row w g e cur)(j:Nat):w.cell? ⟨g,j,none⟩=cur[j]? :=by
 have:=Nn w g j cur.toArray e (0,0) h
 simpa using this
theorem Row.frozen {w:World}{g e:Nat}{cur:List Value}(h:Row w g e cur)(j:Nat):w.frozen? ⟨g,j,none⟩=false:=by
 unfold Row at h;simp[World.frozen?,h]
theorem Row.keep {w w':World}{g e:Nat}{cur:List Value}{M:Nat->Prop}(h:Row w g e cur)(k:Keep M w w')(hM:¬M g):Row w' g e cur:=(k.block g h.lt hM).trans h
theorem aQ.row {w:World}{S:Nat->Prop}{B e k n g cap:Nat}{xs:List Value}(h:aQ w S B e k (.slice (some ⟨g,0,none⟩) n cap) n xs):
  ∃cur,Row w g e cur/\cur.length=cap*k/\cur.take (n*k)=xs/\B<=g/\¬S g/\n<=cap/\cap<=maxLen:=by
 obtain⟨⟨hl,hr⟩,hn⟩:=h
 rcases hr with ⟨h,_⟩|⟨g',cap',cur,hv,hB,hg,h1,h2,h3,h4⟩
 ·cases h
 ·cases hv
  exact⟨cur.toList,hg,by simpa using h3,h4,hB,hn g rfl,h1,h2⟩
theorem aQ.ne {w:World}{S:Nat->Prop}{B e k n b t:Nat}{v:Value}{xs:List Value}{cs:Array Value}{fr:Nat×Nat}(h:aQ w S B e k v n xs)(hb:w.heap[b]? =some (.cells cs t fr))(ht:t≠e):v.ownBlock≠some b:=by
 intro e1
 rcases h.1.2 with ⟨rfl,_⟩|⟨g,cap,cur,rfl,_,hg,_⟩
 ·cases e1
 ·cases e1
  rw[hg] at hb;cases hb;exact ht rfl
theorem Row.own {w:World}{S:Nat->Prop}{B e k g cap:Nat}{cur:List Value}(h:Row w g e cur)(n:Nat)(hl:cur.length=cap*k)(hB:B<=g)(hS:¬S g)(hn:n<=cap)(hc:cap<=maxLen):
  aQ w S B e k (.slice (some ⟨g,0,none⟩) n cap) n (cur.take (n*k)):=by
 refine⟨⟨?_,.inr ⟨g,cap,cur.toArray,rfl,hB,h,hn,hc,by simpa using hl,rfl⟩⟩,fun g' hg=>by cases hg;exact hS⟩
 rw[aL,hl];exact dh (bV _ hn)
theorem Row.dL {w:World}{S:Nat->Prop}{e k g off:Nat}{cur:List Value}(h:Row w g e cur)(n c:Nat)(hl:off+n*k<=cur.length)(hS:¬S g)(hn:n<=c)(hc:c<=maxLen):
  aW w S k (.slice (some ⟨g,off,none⟩) n c) n ((cur.drop off).take (n*k)):=by
 refine⟨_,c,rfl,hn,hc,?_,by simp,fun ad had=>by cases had;exact⟨rfl,h.lt,hS⟩,fun j u hu=>⟨g,off,rfl,?_⟩⟩
 ·rw[aL,bB];omega
 ·rw[h.cell]
  rw[gY] at hu
  split at hu
  ·simpa using hu
  ·cases hu
theorem sJ {α:Type}(A Y T news:List α)(off:Nat)(hA:A.length=off)(hY:Y.length=news.length):splice (A++(Y++T)) off news=A++(news++T):=by
 subst hA
 unfold splice
 rw[gP,<-hY,<-bC A Y T,<-ay,I4]
section
variable {P:Program}
theorem ql {w:World}{g e off:Nat}{cur:List Value}(h:Row w g e cur)(cs:List Value)(hfit:off+cs.length<=cur.length)(h1:∀v∈cs,v.oneCell'=true):
  ∃w',(storeCells ⟨g,off,none⟩ cs 0).run P w= .ok () w'/\Row w' g e (splice cur off cs)/\Keep (· =g) w w':=by
 have hst:=run_storeCells_at P g off e cs 0 cur.toArray w h (by simpa using hfit) h1
 simp only[jw] at hst
 refine⟨_,hst,?_,⟨rfl,rfl,rfl,by simp,fun k' _ hk=>setRow_other w g k' _ hk⟩⟩
 have:=setRow_heap w g cur.toArray (cur.toArray.toList.take off++cs++cur.toArray.toList.drop (off+cs.length)).toArray e (0,0) h
 unfold Row
 rw[this]
 simp[splice]
theorem Dw {w:World}(t tx ty e:TypeId)(i:TypeInfo)(k:Nat)(ht:P.underlying t=some (.slice e))(hi:P.info? e=some i)(hk:i.size=k){g off e' n dLen dCap:Nat}{dp:Option Addr}{cur:List Value}(h:Row w g e' cur)
  (x:Value) (m:Nat) (hlen:(Builtin.lenOf x).run P w= .ok m w) (hn:n=Nat.min m dLen) (cs:List Value) (hcl:cs.length=n*k) (hcs:(Builtin.firstCells k n x).run P w= .ok cs.toArray w)
  (hd:0<cs.length->dp=some ⟨g,off,none⟩) (hfit:off+cs.length<=cur.length) (h1:∀v∈cs,v.oneCell'=true):
  ∃w',(Builtin.copy_ #[t,tx] ty #[.slice dp dLen dCap,x]).run P w= .ok (goInt n) w'/\Row w' g e' (splice cur off cs)/\Keep (· =g) w w':=by
 subst hk
 subst hn
 by_cases h0:0<cs.length
 ·obtain rfl:=hd h0
  obtain⟨w',hst,h2,h3⟩:=ql (P:=P) h cs hfit h1
  refine⟨w',?_,h2,h3⟩
  simp[Builtin.copy_,gy ht,sizeOf,typeInfo,hi,hlen,hcs,hst]
 ·obtain rfl:cs=[]:=bn (by omega)
  refine⟨w,?_,by unfold Row at*;simpa [splice] using h,Keep.refl _ _⟩
  cases dp with
  |none=>simp[Builtin.copy_,gy ht,sizeOf,typeInfo,hi,hlen,hcs]
  |some ad=>simp[Builtin.copy_,gy ht,sizeOf,typeInfo,hi,hlen,hcs,storeCells]
theorem lm {o:Oper}{a:Act}{w:World}{K:Act->World->Prop}{Q:Exit->Act->World->Prop}(s y:Operand)(t tx:TypeId)(ho:o.op= .call {callee:= .builtin .copy,args:=#[s,y],argTypes:=#[t,tx]})
  (e k bytes:Nat) (z:Value) (ht:P.underlying t=some (.slice e)) (hinfo:(P.info? e).map (fun i=>(i.zero,i.size,i.bytes))=some (some z,k,bytes))
  (g off e' n dLen dCap:Nat) (dp:Option Addr) (cur:List Value) (hv:a.eval s= .slice dp dLen dCap) (hr:Row w g e' cur) (x:Value) (hx:a.eval y=x) (m:Nat) (cs:List Value)
  (hlen:(Builtin.lenOf x).run P w= .ok m w) (hn:n=Nat.min m dLen) (hcl:cs.length=n*k) (hcs:(Builtin.firstCells k n x).run P w= .ok cs.toArray w)
  (hd:0<cs.length->dp=some ⟨g,off,none⟩) (hfit:off+cs.length<=cur.length) (h1:∀v∈cs,v.oneCell'=true)
  (h:∀w',Row w' g e' (splice cur off cs)->Keep (· =g) w w'->K (a.put o.dst (goInt n)) w'):o.wp P a w K Q:=by
 obtain⟨i,hi,hz,hsize,hby⟩:=zV hinfo
 obtain⟨w',hrun,h2,h3⟩:=Dw (P:=P) t tx o.type e i k ht hi hsize hr x m hlen hn cs hcl hcs hd hfit h1 (dCap:=dCap)
 unfold Oper.wp execOp
 simp only[ho,resolve,invoke,builtin,kg,yo,gM,sW,dO,og,hv,hx,hrun]
 exact h w' h2 h3
theorem aW.first {w:World}{S:Nat->Prop}{k n:Nat}{v:Value}{xs:List Value}(h:aW w S k v n xs)(m:Nat)(hm:m<=n):(Builtin.firstCells k m v).run P w= .ok (xs.take (m*k)).toArray w:=by
 obtain⟨ao,c,rfl,_,_,h3,h4,h5,h6⟩:=h
 cases ao with
 |none=>
  obtain⟨rfl,rfl⟩:=h4 rfl
  have:xs=[]:=bn (by simpa using h3)
  subst this
  simp[Builtin.firstCells]
 |some ad=>
  obtain⟨b,o,sp⟩:=ad
  obtain rfl:sp=none:=(h5 _ rfl).1
  refine Pf w k m ⟨b,o,none⟩ n c _ (by rw[aL,h3];exact dh (bV _ hm)) (fun j u hu=> ?_)
  rw[gY] at hu
  split at hu
  ·obtain⟨b',o',e,hc⟩:=h6 j u hu
   cases e
   rw[ig];exact hc
  ·cases hu
theorem Ae (w:World)(t tn ty e:TypeId)(i:TypeInfo)(z:Value)(k bytes:Nat)(ht:P.underlying t=some (.slice e))(htn:P.underlying tn=some (.int .i64))(hi:P.info? e=some i)(hz:i.zero=some z)
  (hsize:i.size=k) (hby:i.bytes=bytes) (hzs:z.cells.size=k) (hk0:0<k) {g n cap m:Nat} {cur:List Value} (h:Row w g e cur) (hn:n*k<=cur.length) (hgrow:cap<n+m) (hm:0<m) (h63:n+m<=maxLen) (hbytes:(n+m)*bytes<=140737488355328):
  ∃c w' rest,(Builtin.append_ #[t,tn] ty #[.slice (some ⟨g,0,none⟩) n cap,.int .i64 m]).run P w= .ok (.slice (some ⟨w.heap.size,0,none⟩) (n+m) c) w'/\Row w' w.heap.size e (cur.take (n*k)++rest)/\(cur.take (n*k)++rest).length=c*k/\n+m<=c/\c<=maxLen/\
   Keep d9 w w':=by
 subst hsize
 subst hby
 have hsmall:n+m<=9223372036854775807:=by simp only[maxLen] at h63;omega
 have hge:=grownCap_ge w (n+m) cap e
 have hcm:grownCap w (n+m) cap e<=maxLen:=zW w (n+m) cap e h63
 have hfit:=sj hgrow hbytes
 have hold:=(h.dL (w:=w.drew) (S:=d9) (k:=i.size) (off:=0) n n (by omega) id (aA _) (by simp only[maxLen] at*;omega)).first (P:=P) n (aA _)
 rw[fE,lU,P7] at hold
 have hold':(loadCells ⟨g,0,none⟩ (n*i.size)).run P w.drew= .ok (cur.take (n*i.size)).toArray w.drew:=hold
 have hw:IntKind.i64.wrap (m:Int)=m:=by rw[bJ];omega
 have h1:¬((m:Int)<0):=by omega
 have h2:¬(281474976710656<(m:Int)*(i.bytes:Int)):=by
  have:m*i.bytes<=(n+m)*i.bytes:=bV _ (by omega)
  rw[<-Int.natCast_mul];omega
 have h3:¬(n+m<=cap):=by omega
 have h4:¬(9223372036854775807<((n:Int)+(m:Int))):=by omega
 have h5:¬(281474976710656<Builtin.nextslicecap (n+m) cap*i.bytes):=by omega
 have h6:¬(m*i.size=0):=Nat.mul_ne_zero (by omega) (by omega)
 refine⟨grownCap w (n+m) cap e,w.drew.alloc (.cells ((cur.take (n*i.size)).toArray++Builtin.zeroCells z.cells m++Builtin.zeroCells z.cells (grownCap w (n+m) cap e - (n+m))) e),
  (Builtin.zeroCells z.cells m).toList++(Builtin.zeroCells z.cells (grownCap w (n+m) cap e - (n+m))).toList,?_,?_,?_,hge,hcm,(Keep.refl d9 w).drew.alloc _⟩
 ·simp[Builtin.append_,gy ht,gy htn,sizeOf,typeInfo,zeroValue,hi,hz,asInt,asIntOf,hw,h1,h2,h3,h4,h5,h6,Question.forced,newRow,grownCap,Builtin.firstCells,hold']
 ·unfold Row
  rw[show w.heap.size=w.drew.heap.size from rfl,aF]
  congr 2
  apply Nv
  simp
 ·simp only[ay,aL,oU,Nl,hzs]
  rw[dh hn,<-dU,<-dU]
  congr 1;omega
theorem BG {o:Oper}{a:Act}{w:World}{K:Act->World->Prop}{Q:Exit->Act->World->Prop}(s y:Operand)(t tn:TypeId)(ho:o.op= .call {callee:= .builtin .append,args:=#[s,y],argTypes:=#[t,tn]})
  (e k bytes:Nat) (z:Value) (ht:P.underlying t=some (.slice e)) (htn:P.underlying tn=some (.int .i64)) (hinfo:(P.info? e).map (fun i=>(i.zero,i.size,i.bytes))=some (some z,k,bytes)) (hzs:z.cells.size=k) (hk0:0<k)
  (g n cap m:Nat) (cur:List Value) (hv:a.eval s= .slice (some ⟨g,0,none⟩) n cap) (hx:a.eval y= .int .i64 m) (h:Row w g e cur) (hn:n*k<=cur.length) (hgrow:cap<n+m) (hm:0<m) (h63:n+m<=maxLen) (hbytes:(n+m)*bytes<=140737488355328)
  (hK:∀c w' rest,Row w' w.heap.size e (cur.take (n*k)++rest)->(cur.take (n*k)++rest).length=c*k->n+m<=c->c<=maxLen->Keep d9 w w'->K (a.put o.dst (.slice (some ⟨w.heap.size,0,none⟩) (n+m) c)) w'):o.wp P a w K Q:=by
 obtain⟨i,hi,hz,hsize,hby⟩:=zV hinfo
 obtain⟨c,w',rest,hrun,q1,q2,q3,q4,q5⟩:=Ae (P:=P) w t tn o.type e i z k bytes ht htn hi hz hsize hby hzs hk0 h hn hgrow hm h63 hbytes
 unfold Oper.wp execOp
 simp only[ho,resolve,invoke,builtin,kg,yo,gM,sW,dO,og,hv,hx,hrun]
 exact hK c w' rest q1 q2 q3 q4 q5
theorem bU {ops:Array Oper}{rest:List Oper}{o:Oper}{a:Act}{w:World}{Q:Exit->Act->World->Prop}(hgd:o.guard=none)
  (h:∀K:Act->World->Prop,(∀a w,wpList P ops Q rest a w->K a w)->o.wp P a w K Q):wpList P ops Q (o::rest) a w:=wpList_plain hgd h
theorem Iz {ops:Array Oper}{o:Oper}{a:Act}{w:World}{K:Act->World->Prop}{Q:Exit->Act->World->Prop}{E:Prop}(hgd:o.guard=none)(h:o.wp P a w K Q):
  if Region.wanted o (yielded ops a.tmps)=true then Oper.wp P o a w K Q else E:=by
 rw[if_pos (by simp[Region.wanted,hgd])];exact h
end
def jf (w:World)(S:Nat->Prop)(k:Nat)(v:Value)(n:Nat)(xs:List Value):Prop:=aW w S k v n xs\/(n=0/\xs=[]/\∃ao,v= .slice (some ao) 0 0)
def nH (w:World)(S:Nat->Prop)(v:Value)(ss:List ByteArray):Prop:=jf w S 1 v ss.length (ss.map .string)
section
variable {w w':World} {S S':Nat->Prop} {k n:Nat} {v:Value} {xs:List Value}
theorem aQ.JU {B e:Nat}(h:aQ w S B e k v n xs):jf w S k v n xs:= .inl h.dL
theorem jf.keep (h:jf w S k v n xs)(hb:∀g,v.ownBlock=some g->g<w.heap.size->¬S g->w'.heap[g]? =w.heap[g]?/\¬S' g):jf w' S' k v n xs:=h.imp (fun h=>h.keep hb) id
theorem jf.below (h:jf w S k v n xs)(hs:Below w.heap.size w w'):jf w' S k v n xs:=h.imp (fun h=>h.below hs) id
theorem jf.form (h:jf w S k v n xs):∃ao c,v= .slice ao n c/\n<=c/\c<=9223372036854775807/\(n=0\/∃b o,ao=some ⟨b,o,none⟩)/\(ao=none->c=0):=by
 rcases h with h|⟨rfl,rfl,ao,rfl⟩
 ·exact h.form
 ·exact⟨some ao,0,rfl,aA _,by omega,.inl rfl,fun h=>by cases h⟩
theorem jf.Bz (h:jf w S 1 v n xs){ao:Option Addr}{n' c:Nat}(hv:v= .slice ao n' c)(i:Nat)(u:Value)(hu:xs[i]? =some u):∃b o,ao=some ⟨b,o,none⟩/\w.cell? ⟨b,o+i,none⟩=some u:=by
 rcases h with h|⟨rfl,rfl,ao,rfl⟩
 ·exact h.Bz hv i u hu
 ·simp at hu
theorem jf.upto {c:Nat}{ao:Option Addr}(h:jf w S k (.slice ao n c) n xs)(j:Nat)(hj:j<=n):jf w S k (.slice ao j c) j (xs.take (j*k)):=by
 rcases h with h|⟨rfl,rfl,a,e⟩
 ·exact .inl (h.upto j hj)
 ·cases e
  obtain rfl:j=0:=by omega
  exact .inr ⟨rfl,by simp,a,rfl⟩
end
end Go.Proofs.YtpmbddooibgnaaaGreatDoor
namespace Go.Proofs.YtpmbddooibgnaaaGreatDoor
abbrev Pr:=ByteArray×ByteArray
structure Nd where
 pairs:List Pr
 keys:List ByteArray
 kids:List Int
def eu (ps:List Pr):Nat:=(ps.map fun p=>2+p.1.size+p.2.size).sum
def gm (ks:List ByteArray):Nat:=(ks.map fun k=>1+k.size).sum
def Nd.size (n:Nd):Nat:=2+eu n.pairs+gm n.keys+2*n.kids.length
theorem mX (p:Pr)(ps:List Pr):eu (p::ps)=2+p.1.size+p.2.size+eu ps:=by simp[eu]
theorem qp (k:ByteArray)(ks:List ByteArray):gm (k::ks)=1+k.size+gm ks:=by simp[gm]
theorem pI (a b:List Pr):eu (a++b)=eu a+eu b:=by simp[eu]
theorem qZ (a b:List ByteArray):gm (a++b)=gm a+gm b:=by simp[gm]
theorem xH (ps:List Pr)(i:Nat)(h:i<ps.length):eu (ps.take (i+1))=eu (ps.take i)+(2+ps[i].1.size+ps[i].2.size):=by
 rw[aM h,pI];simp[eu]
theorem vw (ps:List ByteArray)(i:Nat)(h:i<ps.length):gm (ps.take (i+1))=gm (ps.take i)+(1+ps[i].size):=by
 rw[aM h,qZ];simp[gm]
theorem ou (ps:List Pr)(i:Nat):eu (ps.take i)<=eu ps:=by
 have:=pI (ps.take i) (ps.drop i);rw[bG] at this;omega
theorem nE (ps:List ByteArray)(i:Nat):gm (ps.take i)<=gm ps:=by
 have:=qZ (ps.take i) (ps.drop i);rw[bG] at this;omega
theorem mK (ps:List Pr):2*ps.length<=eu ps:=by
 induction ps with
 |nil=>simp[eu]
 |cons p ps ih=>rw[mX];simp;omega
theorem l8 (ps:List ByteArray):ps.length<=gm ps:=by
 induction ps with
 |nil=>simp[gm]
 |cons p ps ih=>rw[qp];simp;omega
def b8 (n:Nat):UInt8:=UInt8.ofNat n
def zJ (p:Pr):List UInt8:=[b8 p.1.size,b8 p.2.size]++p.1.data.toList++p.2.data.toList
def wZ (k:Int):List UInt8:=[b8 k.toNat,b8 (k.toNat/256)]
def tY (k:ByteArray):List UInt8:=b8 k.size::k.data.toList
def mM (ps:List Pr):List UInt8:=ps.flatMap zJ
def jd (ks:List Int):List UInt8:=ks.flatMap wZ
def gq (ks:List ByteArray):List UInt8:=ks.flatMap tY
def Nd.enc (n:Nd):List UInt8:=[b8 n.pairs.length,b8 n.kids.length]++mM n.pairs++jd n.kids++gq n.keys
theorem lW {α β:Type}(f:α->List β)(l:List α)(i:Nat)(h:i<l.length):(l.take (i+1)).flatMap f=(l.take i).flatMap f++f l[i]:=by
 rw[aM h,vX,iR,List.flatMap_nil,fV]
theorem fI (s:ByteArray):s.data.toList.length=s.size:=by rw[oU];rfl
theorem vK (p:Pr):(zJ p).length=2+p.1.size+p.2.size:=by
 simp only[zJ,ay,fI,aU,ja]
theorem tJ (ps:List Pr):(mM ps).length=eu ps:=by
 induction ps with
 |nil=>rfl
 |cons p ps ih=>rw[mX];simp only[mM,iR,ay,vK] at*;omega
theorem rF (ks:List Int):(jd ks).length=2*ks.length:=by
 induction ks with
 |nil=>rfl
 |cons p ps ih=>simp only[jd,iR,ay,wZ,aU,ja] at*;omega
theorem rG (ks:List ByteArray):(gq ks).length=gm ks:=by
 induction ks with
 |nil=>rfl
 |cons p ps ih=>rw[qp];simp only[gq,iR,ay,tY,aU,fI] at*;omega
theorem Nd.GD (n:Nd):n.enc.length=n.size:=by
 simp only[Nd.enc,Nd.size,ay,tJ,rF,rG,aU,ja];omega
structure Nd.Fits (n:Nd):Prop where
 np:n.pairs.length<256
 nk:n.kids.length<256
 pr:∀p∈n.pairs,p.1.size<256/\p.2.size<256
 ky:∀k∈n.keys,k.size<256
 kd:∀k∈n.kids,0<=k/\k<65536
 kk:n.keys.length=n.kids.length - 1
 one:n.pairs=[]↔n.kids≠[]
theorem p9 (n:Nat)(h:n<256):(b8 n).toNat=n:=by simp[b8];omega
theorem qx {α β:Type}(f:α->List β)(l:List α)(i:Nat)(h:i<l.length):(l.drop i).flatMap f=f l[i]++(l.drop (i+1)).flatMap f:=by
 rw[dA h,iR]
end Go.Proofs.YtpmbddooibgnaaaGreatDoor
namespace Go.Proofs.YtpmbddooibgnaaaGreatDoor
open Go.RowKit
def kM (w:World)(S:Nat->Prop)(b:Nat)(nd:Nd):Prop:=
 ¬S b/\∃v0 v1 v2,w.heap[b]? =some (.cells #[v0,v1,v2] 272 (0,0))/\rZ w S v0 nd.pairs/\oM w S v1 nd.keys/\qD w S v2 nd.kids
theorem cells3 {w:World}{b t:Nat}{v0 v1 v2:Value}(h:w.heap[b]? =some (.cells #[v0,v1,v2] t (0,0))):
  w.cell? ⟨b,0,none⟩=some v0/\w.cell? ⟨b,1,none⟩=some v1/\w.cell? ⟨b,2,none⟩=some v2/\
  w.frozen? ⟨b,0,none⟩=false/\w.frozen? ⟨b,1,none⟩=false/\w.frozen? ⟨b,2,none⟩=false/\b<w.heap.size:=by
 refine⟨?_,?_,?_,?_,?_,?_,(ah.1 h).1⟩<;>simp[World.cell?,World.frozen?,h]
theorem kM.step {w w':World}{S S':Nat->Prop}{b:Nat}{nd:Nd}(h:kM w S b nd)(hs:Step S S' w w'):kM w' S' b nd:=by
 obtain⟨hS,v0,v1,v2,hb,h0,h1,h2⟩:=h
 have hl:=(ah.1 hb).1
 exact⟨fun x=>(hs.2 b x).elim hS (fun y=>absurd hl (aV.2 y)),v0,v1,v2,(hs.1.block b hl hS).trans hb,aW.step h0 hs,aW.step h1 hs,aW.step h2 hs⟩
theorem kM.below {w w':World}{S:Nat->Prop}{b:Nat}{nd:Nd}(h:kM w S b nd)(hs:Below w.heap.size w w'):kM w' S b nd:=h.step (Step.of_below hs)
def fJ (w:World)(S:Nat->Prop)(B:Nat)(b:Nat)(nd:Nd):Prop:=
 ¬S b/\B<=b/\∃v0 v1 v2,w.heap[b]? =some (.cells #[v0,v1,v2] 272 (0,0))/\aQ w S B 188 2 v0 nd.pairs.length (bZ nd.pairs)/\aQ w S B 9 1 v1 nd.keys.length (nd.keys.map .string)/\aQ w S B 3 1 v2 nd.kids.length (nd.kids.map (.int .i64))
theorem fJ.jY {w:World}{S:Nat->Prop}{B b:Nat}{nd:Nd}(h:fJ w S B b nd):kM w S b nd:=by
 obtain⟨h1,_,v0,v1,v2,hb,h2,h3,h4⟩:=h
 exact⟨h1,v0,v1,v2,hb,h2.dL,h3.dL,h4.dL⟩
theorem fJ.step {w w':World}{S S':Nat->Prop}{B b:Nat}{nd:Nd}(h:fJ w S B b nd)(hs:Step S S' w w'):fJ w' S' B b nd:=by
 obtain⟨hS,hB,v0,v1,v2,hb,h0,h1,h2⟩:=h
 have hl:=(ah.1 hb).1
 exact⟨fun x=>(hs.2 b x).elim hS (fun y=>absurd hl (aV.2 y)),hB,v0,v1,v2,(hs.1.block b hl hS).trans hb,h0.step hs,h1.step hs,h2.step hs⟩
theorem kW (b:Nat)(nd:Nd)(w:World)(S:Nat->Prop)(h:kM w S b nd):
  Calls Tryz.prog 219 #[.pointer (some ⟨b,0,none⟩)] w fun e w'=>e= .returned (.bool (nd.kids.isEmpty))/\w=w':=by
 obtain⟨_,v0,v1,v2,hb,h0,h1,ao,c,rfl,_,_,_,_,_,_⟩:=h
 obtain⟨c0,c1,c2,f0,f1,f2,hlt⟩:=cells3 hb
 go_enter Tryz.func219,Tryz.ntmps219
 go_wp2
 go_ret
 exact⟨by congr 2;cases nd.kids<;>simp;omega,rfl⟩
theorem Dt (b:Nat)(nd:Nd)(w:World)(S:Nat->Prop)(h:kM w S b nd)(hs:nd.size<=1000000):
  Calls Tryz.prog 572 #[.pointer (some ⟨b,0,none⟩)] w fun e w'=>e= .returned (.int .i64 nd.size)/\Below w.heap.size w w':=by
 obtain⟨_,v0,v1,v2,hb,h0,h1,h2⟩:=h
 obtain⟨c0,c1,c2,_,_,_,hlt⟩:=cells3 hb
 obtain⟨ao0,cp0,rfl,n0,m0,_,_⟩:=aW.form h0
 obtain⟨ao1,cp1,rfl,n1,m1,_,_⟩:=aW.form h1
 obtain⟨ao2,cp2,rfl,n2,m2,_,_⟩:=aW.form h2
 clear h2
 unfold Nd.size at hs
 have l0:=mK nd.pairs
 have l1:=l8 nd.keys
 go_enter Tryz.func572,Tryz.ntmps572
 go_wp2
 go_loopw [3,13] (fun s i wr=>∃k:Nat,k<=nd.pairs.length/\i= .int .i64 k/\s= .int .i64 (2+eu (nd.pairs.take k):Nat)/\Below w.heap.size w wr) (fun _ i _=>nd.pairs.length - (intOf i).toNat)
 case atStart=>exact⟨0,by omega,rfl,by simp[eu],aH _ _⟩
 case round=>
  obtain⟨k,hk,rfl,rfl,hbel⟩:=hrel
  by_cases hlt2:k<nd.pairs.length
  ·obtain⟨b',o',rfl,hc1,hc2⟩:=h0.at rfl k hlt2
   have d1:=(hbel.cell (p:=⟨b',o'+k*2,none⟩) (aD w _ hc1)).trans hc1
   have d2:=(hbel.cell (p:=⟨b',o'+k*2+1,none⟩) (aD w _ hc2)).trans hc2
   have H:=af (xH nd.pairs k hlt2)
   have hle:=ou nd.pairs (k+1)
   have hb1:eu (nd.pairs.take k)+(2+nd.pairs[k].1.size+nd.pairs[k].2.size)<=1000000:=by rw[<-H.out];omega
   clear hle hc1 hc2
   go_wp2
   go_roundw
   case rel=>exact⟨k+1,by omega,by go_num,by rw[H.out];go_num,hbel.alloc hbel.size _⟩
   case measure=>simp[intOf];omega
  ·obtain rfl:k=nd.pairs.length:=by omega
   rw[bW]
   clear hlt2 h0 hk
   have c1':=(hbel.cell (p:=⟨b,1,none⟩) hlt).trans c1
   have c2':=(hbel.cell (p:=⟨b,2,none⟩) hlt).trans c2
   have hlt':b<wr.heap.size:=ax hlt hbel.size
   obtain⟨wo,rfl⟩:∃wo:World,wo=wr:=⟨_,rfl⟩
   go_wp2
   go_loop [3,33] (fun s i=>∃k:Nat,k<=nd.keys.length/\i= .int .i64 k/\s= .int .i64 (2+eu nd.pairs+gm (nd.keys.take k):Nat)) (fun _ i=>nd.keys.length - (intOf i).toNat)
   case atStart=>exact⟨0,by omega,rfl,by simp[gm]⟩
   case round=>
    obtain⟨k,hk,rfl,rfl⟩:=hrel
    by_cases hlt2:k<nd.keys.length
    ·obtain⟨b',o',rfl,hc1⟩:=aW.Bz h1 rfl k (.string nd.keys[k]) (by simp[hlt2])
     have d1:=(hbel.cell (p:=⟨b',o'+k,none⟩) (aD w _ hc1)).trans hc1
     have H:=af (vw nd.keys k hlt2)
     have hle:=nE nd.keys (k+1)
     have hb1:2+eu nd.pairs+gm (nd.keys.take k)+(1+nd.keys[k].size)<=1000000:=by rw[kV (2+_),<-H.out];omega
     clear hle hc1
     go_wp2
     go_round
     case rel=>exact⟨k+1,by omega,by go_num,by rw[H.out];go_num⟩
     case measure=>simp[intOf];omega
    ·obtain rfl:k=nd.keys.length:=by omega
     rw[bW]
     go_wp2
     go_ret
     exact⟨by unfold Nd.size;go_num,hbel⟩
theorem lM:(Tryz.prog.info? 188).map (fun i=>(i.zero,i.size,i.bytes))=some (some (.agg #[.string ⟨#[]⟩,.string ⟨#[]⟩]),2,32):=by kernel_rfl
theorem zy:(Tryz.prog.info? 3).map (fun i=>(i.zero,i.size,i.bytes))=some (some (.int .i64 0),1,8):=by kernel_rfl
theorem vB:(Tryz.prog.info? 9).map (fun i=>(i.zero,i.size,i.bytes))=some (some (.string ⟨#[]⟩),1,16):=by kernel_rfl
def L (nd:Nd)(k:Nat):List UInt8:=[b8 nd.pairs.length,b8 nd.kids.length]++mM (nd.pairs.take k)
theorem RB (nd:Nd)(k:Nat):(L nd k).length<=2+eu nd.pairs:=by
 have:=ou nd.pairs k
 simp only[L,ay,tJ,aU,ja];omega
theorem xw (n:Nat):((b8 n).toNat:Int)=(n:Int)%256:=by simp[b8]
theorem RA (nd:Nd):(L nd 0).length=2:=rfl
theorem CK (nd:Nd):aB (L nd 0)=[.int .u8 ((nd.pairs.length:Int)%256),.int .u8 ((nd.kids.length:Int)%256)]:=by
 simp[L,mM,aB,xw]
theorem M8 {nd:Nd}{k:Nat}(h:k<nd.pairs.length):L nd (k+1)=L nd k++zJ nd.pairs[k]:=by
 simp only[L,mM,lW zJ nd.pairs k h,bC]
theorem PW {nd:Nd}{k:Nat}(h:k<nd.pairs.length):(L nd (k+1)).length=(L nd k).length+2+nd.pairs[k].1.size+nd.pairs[k].2.size:=by
 rw[M8 h,ay,vK];omega
theorem Pd {nd:Nd}{k:Nat}(h:k<nd.pairs.length):aB (L nd (k+1))=aB (L nd k)++[.int .u8 ((nd.pairs[k].1.size:Int)%256),.int .u8 ((nd.pairs[k].2.size:Int)%256)]++byteCells nd.pairs[k].1++byteCells nd.pairs[k].2:=by
 rw[M8 h,eB]
 simp only[zJ,eB,vN,bC]
 simp[aB,xw]
def L2 (nd:Nd)(k:Nat):List UInt8:=L nd nd.pairs.length++jd (nd.kids.take k)
theorem IU (nd:Nd):L2 nd 0=L nd nd.pairs.length:=by simp[L2,jd]
theorem Nc (nd:Nd)(k:Nat):(L2 nd k).length<=2+eu nd.pairs+2*nd.kids.length:=by
 have:=RB nd nd.pairs.length
 simp only[L2,ay,rF,aL];omega
theorem IV {nd:Nd}{k:Nat}(h:k<nd.kids.length):L2 nd (k+1)=L2 nd k++wZ nd.kids[k]:=by
 simp only[L2,jd,lW wZ nd.kids k h,bC]
theorem Nb {nd:Nd}{k:Nat}(h:k<nd.kids.length):(L2 nd (k+1)).length=(L2 nd k).length+2:=by
 rw[IV h,ay];rfl
theorem Nf {nd:Nd}{k:Nat}(h:k<nd.kids.length)(h0:0<=nd.kids[k])(h1:nd.kids[k]<65536):aB (L2 nd (k+1))=aB (L2 nd k)++[.int .u8 (nd.kids[k]%256),.int .u8 (nd.kids[k]/256)]:=by
 rw[IV h,eB]
 congr 1
 generalize nd.kids[k]=x at*
 obtain⟨n,rfl⟩:=BD h0
 simp only[wZ,aB,dO,og,xw,cB]
 congr 2
 congr 1
 omega
def L3 (nd:Nd)(k:Nat):List UInt8:=L2 nd nd.kids.length++gq (nd.keys.take k)
theorem IL (nd:Nd):L3 nd 0=L2 nd nd.kids.length:=by simp[L3,gq]
theorem RD (nd:Nd):L3 nd nd.keys.length=nd.enc:=by simp only[L3,L2,L,bW];rfl
theorem Tt (nd:Nd)(k:Nat):(L3 nd k).length<=2+eu nd.pairs+2*nd.kids.length+gm nd.keys:=by
 have:=Nc nd nd.kids.length
 have:=nE nd.keys k
 simp only[L3,ay,rG];omega
theorem IQ {nd:Nd}{k:Nat}(h:k<nd.keys.length):L3 nd (k+1)=L3 nd k++tY nd.keys[k]:=by
 simp only[L3,gq,lW tY nd.keys k h,bC]
theorem M9 {nd:Nd}{k:Nat}(h:k<nd.keys.length):(L3 nd (k+1)).length=(L3 nd k).length+1+nd.keys[k].size:=by
 rw[IQ h,ay,tY,aU,fI];omega
theorem Na {nd:Nd}{k:Nat}(h:k<nd.keys.length):aB (L3 nd (k+1))=aB (L3 nd k)++[.int .u8 ((nd.keys[k].size:Int)%256)]++byteCells nd.keys[k]:=by
 rw[IQ h,eB,vN,tY]
 simp[aB,xw]
theorem iJ:(Tryz.prog.info? 5).map (fun i=>(i.zero,i.size,i.bytes))=some (some (.int .u8 0),1,1):=by kernel_rfl
theorem GA (b:Nat)(nd:Nd)(w:World)(S:Nat->Prop)(hS:∀g,S g->g<w.heap.size)(h:kM w S b nd)(hs:nd.size<=1000000)(hkid:∀k∈nd.kids,0<=k/\k<65536):
  Calls Tryz.prog 585 #[.pointer (some ⟨b,0,none⟩)] w fun e w'=>∃v,e= .returned v/\aQ w' S w.heap.size 5 1 v nd.enc.length (aB nd.enc)/\Below w.heap.size w w':=by
 obtain⟨_,v0,v1,v2,hb,h0,h1,h2⟩:=h
 obtain⟨c0,c1,c2,_,_,_,hlt⟩:=cells3 hb
 obtain⟨ao0,cp0,rfl,n0,m0,_,_⟩:=aW.form h0
 obtain⟨ao1,cp1,rfl,n1,m1,_,_⟩:=aW.form h1
 obtain⟨ao2,cp2,rfl,n2,m2,_,_⟩:=aW.form h2
 unfold Nd.size at hs
 have l0:=mK nd.pairs
 have l1:=l8 nd.keys
 go_enter Tryz.func585,Tryz.ntmps585
 go_wp2
 go_still_tail 12,(by kernel_rfl)
 change wpList _ _ _ _ _ w.drew
 go_wp2
 simp only[IntKind.wrap_u8]
 go_loopw [3,28] (fun v i wr=>∃(k:Nat) (ao:Option Addr) (c:Nat),k<=nd.pairs.length/\i= .int .i64 k/\v= .slice ao (L nd k).length c/\aQ wr S w.heap.size 5 1 v (L nd k).length (aB (L nd k))/\Below w.heap.size w wr) (fun _ i _=>nd.pairs.length - (intOf i).toNat)
 case atStart=>
  have hn:=yx (w:=w) (S:=S) (B:=w.heap.size) (e:=5) (k:=1) [.int .u8 ((nd.pairs.length:Int)%256),.int .u8 ((nd.kids.length:Int)%256)] 2 2 rfl rfl (aA _) (by simp[maxLen]) (aA _) hS
  exact⟨0,_,_,aN _,rfl,rfl,by rw[RA,CK];exact hn.drew,((aH _ _).alloc (aA _) _).drew⟩
 case round=>
  obtain⟨k,ao,c,hk,rfl,rfl,hown,hbel⟩:=hrel
  by_cases hlt2:k<nd.pairs.length
  ·obtain⟨b',o',rfl,hc1,hc2⟩:=h0.at rfl k hlt2
   have d1:=(hbel.cell (p:=⟨b',o'+k*2,none⟩) (aD w _ hc1)).trans hc1
   have d2:=(hbel.cell (p:=⟨b',o'+k*2+1,none⟩) (aD w _ hc2)).trans hc2
   have hSr:∀g,S g->g<wr.heap.size:=fun g hg=>ax (hS g hg) hbel.size
   have hsz:=hbel.size
   have hL:=RB nd k
   have hp0:=xH nd.pairs k hlt2
   have hp2:=ou nd.pairs (k+1)
   have hz:nd.pairs[k].1.size+nd.pairs[k].2.size<=eu nd.pairs:=by omega
   clear hp0 hp2
   clear hc1 hc2
   go_wp2_with (at_builtin;go_must ((refine dS rfl (.tmp 32) (.tmp 41) 154 154 rfl S w.heap.size 5 1 1 (.int .u8 0) aO iJ rfl (.slice ao (L nd k).length c) _ _ rfl (hown.below (iU _ _ _)) _ 2 _ rfl (iq [_,_] _ 1 2 2 (by simp) aO rfl ?_) (jS (jS hSr _) _) ?_ ?_ ?_ ?_);(focus (simp[Value.oneCell']));(focus (simp only[aZ];omega));(focus (unfold maxLen;omega));(focus omega);intro ao1 c1 w1 hown1 hk1 hb1 hd1))
   have q1:w1.cell? ⟨wr.heap.size,0,none⟩=some (.string nd.pairs[k].1):=(hk1.cell (p:=⟨wr.heap.size,0,none⟩) (by simp;omega) hown.lt).trans (by simp[Ko])
   have q2:w1.cell? ⟨wr.heap.size,1,none⟩=some (.string nd.pairs[k].2):=(hk1.cell (p:=⟨wr.heap.size,1,none⟩) (by simp;omega) hown.lt).trans (by simp[Ko])
   have n1:(Value.slice ao1 ((L nd k).length+2) c1).ownBlock≠some wr.heap.size:=hd1 _ (by simp;omega) hown.lt
   have hp1:wr.heap.size<w1.heap.size:=by have:=hk1.size;simp at this;omega
   have hs1:w.heap.size<=w1.heap.size:=by omega
   have hS1:=wK (jS (jS hSr _) _) hb1
   go_region_held3 (fun w'=>w'.cell? ⟨wr.heap.size,0,none⟩=some (.string nd.pairs[k].1)/\w'.cell? ⟨wr.heap.size,1,none⟩=some (.string nd.pairs[k].2))
    (first|exact⟨q1,q2⟩|exact⟨q1',q2'⟩|exact⟨q1'',q2''⟩)
    (first
     |((refine Dn rfl (.tmp 43) (.tmp 45) 154 9 rfl S w.heap.size 5 1 1 (.int .u8 0) aO iJ rfl (.slice ao1 ((L nd k).length+2) c1) _ _ rfl hown1.drew (.string nd.pairs[k].1) _ _ rfl (GY _ bf _) hS1 ?_ ?_ ?_ ?_);(focus (exact hs1));(focus (unfold maxLen;omega));(focus omega);(intro ao2' c2' w2 hown2 hk2 hb2 hd2);(have q1':=(hk2.cell (p:=⟨wr.heap.size,0,none⟩) hp1 n1).trans q1);(have q2':=(hk2.cell (p:=⟨wr.heap.size,1,none⟩) hp1 n1).trans q2);(have n2':=hd2 _ hp1 n1))
     |((refine Dn rfl (.tmp 46) (.tmp 48) 154 9 rfl S w.heap.size 5 1 1 (.int .u8 0) aO iJ rfl (.slice ao2' ((L nd k).length+2+nd.pairs[k].1.size) c2') _ _ rfl hown2 (.string nd.pairs[k].2) _ _ rfl (GY _ bf _) (wK (w:=w1.drew) hS1 hb2) ?_ ?_ ?_ ?_);(focus (exact aG hs1 hk2.size));(focus (unfold maxLen;omega));(focus omega);(intro ao3 c3 w3 hown3 hk3 hb3 hd3);(have q1'':=(hk3.cell (p:=⟨wr.heap.size,0,none⟩) (ax hp1 hk2.size) n2').trans q1');(have q2'':=(hk3.cell (p:=⟨wr.heap.size,1,none⟩) (ax hp1 hk2.size) n2').trans q2')))
   go_wp2
   go_roundw
   case rel=>exact⟨k+1,ao3,c3,by omega,by go_num,by rw[PW hlt2],by rw[PW hlt2,Pd hlt2];exact hown3,((hbel.trans (iU wr _ _|>.mono hsz)).trans hb1).trans (Below.trans (b:=w1.drew) (aH _ _).drew (hb2.trans hb3))⟩
   case measure=>simp[intOf];omega
  ·obtain rfl:k=nd.pairs.length:=by omega
   have c1':=(hbel.cell (p:=⟨b,1,none⟩) hlt).trans c1
   have c2':=(hbel.cell (p:=⟨b,2,none⟩) hlt).trans c2
   have hlt':b<wr.heap.size:=ax hlt hbel.size
   have hL:=RB nd nd.pairs.length
   clear hlt2 h0 hk hb c0 c2
   obtain⟨wo,rfl⟩:∃wo:World,wo=wr:=⟨_,rfl⟩
   go_wp2
   go_loopw [3,56] (fun v i wr=>∃(k:Nat) (ao:Option Addr) (c:Nat),k<=nd.kids.length/\i= .int .i64 k/\v= .slice ao (L2 nd k).length c/\aQ wr S w.heap.size 5 1 v (L2 nd k).length (aB (L2 nd k))/\Below w.heap.size w wr) (fun _ i _=>nd.kids.length - (intOf i).toNat)
   case atStart=>exact⟨0,ao,c,aN _,rfl,by rw[IU],by rw[IU];exact hown,hbel⟩
   case round=>
    obtain⟨k,ao,c,hk,rfl,rfl,hown,hbel⟩:=hrel
    by_cases hlt2:k<nd.kids.length
    ·obtain⟨b',o',rfl,hc1⟩:=h2.at rfl k hlt2
     have d1:=(hbel.cell (p:=⟨b',o'+k,none⟩) (aD w _ hc1)).trans hc1
     have hSr:∀g,S g->g<wr.heap.size:=fun g hg=>ax (hS g hg) hbel.size
     have hsz:=hbel.size
     have hL:=Nc nd k
     obtain⟨hk0,hk1'⟩:=hkid nd.kids[k] (bI hlt2)
     go_wp2_with (at_builtin;go_must ((refine dS rfl (.tmp 60) (.tmp 66) 154 154 rfl S w.heap.size 5 1 1 (.int .u8 0) aO iJ rfl (.slice ao (L2 nd k).length c) _ _ rfl (hown.below (aC _ _)) _ 2 _ rfl (iq [_,_] _ 1 2 2 (by simp) aO rfl ?_) (jS hSr _) ?_ ?_ ?_ ?_);(focus (simp[Value.oneCell']));(focus (simp only[aZ];omega));(focus (unfold maxLen;omega));(focus omega);intro ao1 c1 w1 hown1 hk1 hb1 hd1))
     go_roundw
     case rel=>exact⟨k+1,ao1,c1,by omega,by go_num,by rw[Nb hlt2],by rw[Nb hlt2,Nf hlt2 hk0 hk1'];exact hown1,(hbel.trans (aC wr _|>.mono hsz)).trans hb1⟩
     case measure=>simp[intOf];omega
    ·obtain rfl:k=nd.kids.length:=by omega
     have c1'':=(hbel.cell (p:=⟨b,1,none⟩) hlt).trans c1
     have hL:=Nc nd nd.kids.length
     clear hlt2 h2 hk c1' c2'
     obtain⟨w2o,rfl⟩:∃w2o:World,w2o=wr:=⟨_,rfl⟩
     go_wp2
     go_loopw [3,74] (fun v i wr=>∃(k:Nat) (ao:Option Addr) (c:Nat),k<=nd.keys.length/\i= .int .i64 k/\v= .slice ao (L3 nd k).length c/\aQ wr S w.heap.size 5 1 v (L3 nd k).length (aB (L3 nd k))/\Below w.heap.size w wr) (fun _ i _=>nd.keys.length - (intOf i).toNat)
     case atStart=>exact⟨0,ao,c,aN _,rfl,by rw[IL],by rw[IL];exact hown,hbel⟩
     case round=>
      obtain⟨k,ao,c,hk,rfl,rfl,hown,hbel⟩:=hrel
      by_cases hlt2:k<nd.keys.length
      ·obtain⟨b',o',rfl,hc1⟩:=h1.at rfl k hlt2
       have d1:=(hbel.cell (p:=⟨b',o'+k,none⟩) (aD w _ hc1)).trans hc1
       have hSr:∀g,S g->g<wr.heap.size:=fun g hg=>ax (hS g hg) hbel.size
       have hsz:=hbel.size
       have hL:=Tt nd k
       have hp0:=vw nd.keys k hlt2
       have hp2:=nE nd.keys (k+1)
       have hz:nd.keys[k].size<=gm nd.keys:=by omega
       clear hp0 hp2
       go_wp2_with (first
        |(at_builtin;(refine dS rfl (.tmp 78) (.tmp 82) 154 154 rfl S w.heap.size 5 1 1 (.int .u8 0) aO iJ rfl (.slice ao (L3 nd k).length c) _ _ rfl (hown.below (aC _ _)) _ 1 _ rfl (iq [_] _ 1 1 1 (by simp) aO rfl ?_) (jS hSr _) ?_ ?_ ?_ ?_);(focus (simp[Value.oneCell']));(focus (simp only[aZ];omega));(focus (unfold maxLen;omega));(focus omega);intro ao1 c1 w1 hown1 hk1 hb1 hd1)
        |(at_builtin;(refine dS rfl (.tmp 83) (.tmp 84) 154 9 rfl S w.heap.size 5 1 1 (.int .u8 0) aO iJ rfl (.slice ao1 ((L3 nd k).length+1) c1) _ _ rfl hown1 (.string nd.keys[k]) _ _ rfl (GY _ bf _) (wK (jS hSr _) hb1) ?_ ?_ ?_ ?_);(focus (have:=hb1.size;simp only[aZ] at this;omega));(focus (unfold maxLen;omega));(focus omega);intro ao2 c2 w2 hown2 hk2 hb2 hd2))
       go_roundw
       case rel=>exact⟨k+1,ao2,c2,by omega,by go_num,by rw[M9 hlt2],by rw[M9 hlt2,Na hlt2];exact hown2,((hbel.trans (aC wr _|>.mono hsz)).trans hb1).trans hb2⟩
       case measure=>simp[intOf];omega
      ·obtain rfl:k=nd.keys.length:=by omega
       go_wp2
       go_ret
       exact⟨_,rfl,by rw[<-RD];exact hown,hbel⟩
end Go.Proofs.YtpmbddooibgnaaaGreatDoor
