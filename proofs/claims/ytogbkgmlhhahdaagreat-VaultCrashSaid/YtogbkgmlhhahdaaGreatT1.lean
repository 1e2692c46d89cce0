--
import Derived.WalkKit
import Derived.WalkLawsBesides
import Derived.WalkSpells
import Derived.Lib.Hide
import Derived.Deep.AppendSrc
import Derived.Test.YtogbkgmlhhahdaaGreatRows
import Derived.Laws.CopyOwn
import Derived.Deep.RegionLaw
import Derived.Deep.RegionHeld3
import Derived.RegionTactic
import Derived.BigRegion
import Derived.Deep.QuietTactic
import Derived.BigQuiet
import Derived.StillTailTactics
set_option maxRecDepth 100000
set_option maxHeartbeats 0
set_option linter.all false
namespace Go.Proofs.YtogbkgmlhhahdaaGreat
open Go.RowKit
variable{K:Act->World->Prop}{Q:Exit->Act->World->Prop}{a d:List Value}{B b c e g k n:Nat}{M S S':Nat->Prop}{o:Oper}{p:Prop}{v:Value}{w w':World}
def ah := @_root_.Go.Lib.hid
def ai := @_root_.Array.getElem?_eq_some_iff
def aj := @_root_.List.setIfInBounds_toArray
def ak := @_root_.List.set_cons_succ
def au := @_root_.List.set_cons_zero
def ax := @_root_.Nat.lt_of_lt_of_le
def ay := @_root_.List.length_append
def aC := @_root_.And.intro
def aD := @_root_.Nat.le_refl
def aF := @_root_.Go.World.block_lt_of_cell?
def aG := @_root_.Go.IntWalk.i64_in
def aH := @_root_.List.length_take
def aJ := @_root_.List.take_of_length_le
def aK := @_root_.Nat.le_trans
def aL := @_root_.List.take_succ_eq_append_getElem
def aM := @_root_.List.append_assoc
def aO := @_root_.List.length_drop
def aQ := @_root_.Array.getElem?_modify
def aR := @_root_.Go.RowKit.Below.refl
def aS := @_root_.Nat.zero_le
def aU := @_root_.Go.World.size_alloc
def aV := @_root_.Go.heap_alloc_new
def aW := @_root_.Nat.mul_one
def aX := @_root_.List.mem_cons_of_mem
def aY := @_root_.List.eq_nil_of_length_eq_zero
def bf := @_root_.List.mem_cons_self
def bg := @_root_.Nat.not_lt
def bn := @_root_.List.length_cons
def bq := @_root_.Go.Proofs.Tryz.underlying142
def bD := @_root_.List.getElem?_eq_getElem
def bE := @_root_.Go.Proofs.Tryz.underlying93
def bF := @_root_.List.getElem_mem
def bG := @_root_.Go.Proofs.Tryz.underlying70
def bI := @_root_.List.take_append_of_le_length
def bJ := @_root_.List.take_append_drop
def bK := @_root_.Nat.min_eq_left
def bL := @_root_.Go.Proofs.Tryz.underlying52
def bM := @_root_.decide_eq_false
def bO := @_root_.List.mem_cons
def bQ := @_root_.List.mem_singleton
def bS := @_root_.List.take_length
def bT := @_root_.List.map_append
def bU := @_root_.List.mem_append
def bV := @_root_.List.length_nil
def bY := @_root_.List.mem_append_right
def bZ := @_root_.Nat.mul_le_mul_right
def cu := @_root_.List.drop_eq_getElem_cons
def cZ := @_root_.List.mem_of_mem_drop
def dh := @_root_.List.mem_append_left
def dm := @_root_.List.getElem?_eq_some_iff
def dz := @_root_.List.take_take
def dA := @_root_.List.getElem?_append_right
def dB := @_root_.Nat.lt_irrefl
def dD := @_root_.List.length_pos_iff
def dG := @_root_.Bool.and_eq_true
def dJ := @_root_.Nat.add_sub_cancel_left
def dK := @_root_.List.map_cons
def dM := @_root_.List.append_nil
def dN := @_root_.List.length_singleton
def dQ := @_root_.List.drop_zero
def dU := @_root_.Go.Addr.add_lit
def dX := @_root_.Nat.zero_add
def dY := @_root_.List.drop_of_length_le
def d9 := @_root_.decide_eq_true
def eu := @_root_.List.getD_eq_getElem?_getD
def eB := @_root_.decide_eq_true_eq
def eD := @_root_.List.nodup_append
def eF := @_root_.List.getElem?_append_left
def eO := @_root_.List.getElem?_cons_succ
def eT := @_root_.List.mem_of_mem_take
def eU := @_root_.List.drop_append_of_le_length
def eY := @_root_.Go.length_splice
def eZ := @_root_.List.getElem?_map
def fq := @_root_.Nat.add_mul
def fw := @_root_.List.mem_map
def fC := @_root_.UInt8.toNat_ofNat'
def fD := @_root_.List.getElem?_take
def fE := @_root_.Int.toNat_natCast
def fF := @_root_.List.getElem_of_mem
def fH := @_root_.Go.Proofs.Tryz.underlying139
def fI := @_root_.List.perm_append_comm
def fM := @_root_.beq_eq_false_iff_ne
def fO := @_root_.List.drop_left'
def fQ := @_root_.Go.run_underlying
def fT := @_root_.List.map_drop
def fU := @_root_.List.pairwise_cons
def gm := @_root_.Classical.byContradiction
def gy := @_root_.List.drop_succ_cons
def gG := @_root_.Nat.not_le
def gH := @_root_.Nat.lt_or_ge
def gI := @_root_.List.map_take
def gL := @_root_.List.not_mem_nil
def gP := @_root_.Go.Result.andThen_ok
def gQ := @_root_.List.drop_take
def gT := @_root_.Array.getElem?_toList
def gW := @_root_.Go.Proofs.Tryz.underlying9
def gX := @_root_.List.pairwise_iff_getElem
def gY := @_root_.List.take_left'
def iy := @_root_.Go.heap_setCell_same
def iE := @_root_.List.getElem?_eq_none
def iF := @_root_.Nat.le_of_lt
def iG := @_root_.Nat.add_zero
def iH := @_root_.List.map_nil
def iJ := @_root_.Option.map_some
def iL := @_root_.Nat.lt_succ_self
def iM := @_root_.List.take_zero
def iN := @_root_.List.take_left
def iX := @_root_.if_true
def iY := @_root_.List.flatMap_cons
def jf := @_root_.Nat.min_self
def jq := @_root_.List.take_succ_cons
def jr := @_root_.List.set_append_right
def jE := @_root_.Go.bodyPost_ret
def jG := @_root_.Go.Proofs.Tryz.underlying3
def jH := @_root_.List.Perm.refl
def jI := @_root_.List.nil_append
def jM := @_root_.Go.leaves_cons
def jS := @_root_.of_decide_eq_true
def jX := @_root_.List.length_map
def jY := @_root_.Go.Lib.run_eql_slice_nil
def kD := @_root_.Go.Sem.run_bind
def kE := @_root_.Nat.one_mul
def kF := @_root_.List.mem_flatMap
def kK := @_root_.List.drop_drop
def kM := @_root_.List.mem_map_of_mem
def kN := @_root_.Array.length_toList
def kP := @_root_.Go.Proofs.Tryz.underlying130
def kV := @_root_.List.sum_append
def kX := @_root_.Go.Proofs.Tryz.underlying5
def kY := @_root_.List.drop_length
def kZ := @_root_.List.cons_append
def lD := @_root_.Nat.le_of_eq
def lI := @_root_.Go.IntKind.wrap_i64
def lS := @_root_.Nat.le_succ_of_le
def lT := @_root_.List.getElem_take
def lV := @_root_.List.nodup_cons
def l7 := @_root_.Go.Proofs.Tryz.underlying184
def mG := @_root_.Go.run_loadVar_row
def mP := @_root_.Nat.add_assoc
def mR := @_root_.List.map_toArray
def mU := @_root_.List.drop_append
def mZ := @_root_.Nat.mod_lt
def ng := @_root_.List.mem_range
def ni := @_root_.List.exists_cons_of_ne_nil
def nR := @_root_.Go.grownCap_le_maxLen
def nT := @_root_.List.set_eq_take_append_cons_drop
def nW := @_root_.List.cons.injEq
def nX := @_root_.Nat.lt_trans
def nY := @_root_.Nat.le_succ
def nZ := @_root_.List.size_toArray
def og := @_root_.Int.le_trans
def oh := @_root_.BitVec.ofInt_natCast
def om := @_root_.Prod.mk.injEq
def oz := @_root_.Go.World.cell?_of_block
def oF := @_root_.Go.Proofs.Tryz.results43
def oL := @_root_.Nat.mul_le_mul_left
def oM := @_root_.List.flatMap_append
def oV := @_root_.or_false
def oW := @_root_.Nat.mod_eq_of_lt
def oZ := @_root_.List.all_eq_true
def pR := @_root_.BitVec.toNat_ofNat
def qf := @_root_.Go.Sem.run_pure
def qg := @_root_.List.sum_cons
def qj := @_root_.List.Perm.append_left
def qE := @_root_.List.getElem_drop
def qF := @_root_.Go.RowKit.Below.heap_alloc
def qL := @_root_.Go.World.cell?_alloc_new
def qQ := @_root_.beq_iff_eq
def qR := @_root_.List.nodup_nil
def rq := @_root_.Nat.zero_mul
def ru := @_root_.Nat.sub_self
def si := @_root_.Go.growslice_fits
def sj := @_root_.List.getElem_append_right
def su := @_root_.List.mergeSort_perm
def sD := @_root_.Array.toList_append
def tL := @_root_.Go.run_append_grow_src
def tN := @_root_.Nat.not_lt_zero
def tO := @_root_.Bool.or_eq_true
def ve := @_root_.Go.info_parts
def vE := @_root_.Nat.add_comm
def vF := @_root_.List.pairwise_map
def vG := @_root_.List.getElem_cons_succ
def vH := @_root_.List.drop_left
def vI := @_root_.List.Pairwise.nil
def vJ := @_root_.Bool.eq_false_iff
def xu := @_root_.Go.size_zeroCells
def xw := @_root_.List.length_filter_le
def xA := @_root_.List.eq_nil_or_concat
def xB := @_root_.List.concat_eq_append
def xC := @_root_.Go.DataW.trod_int
def x9 := @_root_.List.take_append
def yF := @_root_.Go.World.cell?_alloc_old
def yG := @_root_.Go.Proofs.Tryz.underlying204
def yH := @_root_.Nat.pow_le_pow_right
def yI := @_root_.List.pairwise_append
def y9 := @_root_.Go.wpOp_mono
def zi := @_root_.Option.some.inj
def Ai := @_root_.Go.wpList_lookup_own_ok
def Aj := @_root_.Go.grownCap_ge
def Ak := @_root_.Go.cell_of_row
def Am := @_root_.List.zip_eq_zipWith
def Ao := @_root_.List.filter_eq_self
def Ap := @_root_.Go.Proofs.Tryz.results25
def Aq := @_root_.Nat.two_pow_add_eq_or_of_lt
def Ar := @_root_.Nat.pow_succ
def Au := @_root_.List.map_map
def BK := @_root_.Go.run_firstCells_some
def BM := @_root_.Go.run_callFunc_extern
def BN := @_root_.Nat.add_sub_cancel
def BO := @_root_.List.filter_append
def BP := @_root_.Int.tmod_eq_emod_of_nonneg
def Ca := @_root_.Go.results_none
def Cn := @_root_.Go.Proofs.Tryz.underlying4
def Co := @_root_.Go.Proofs.Tryz.underlying0
def Eo := @_root_.Nat.lt_succ_of_lt
def Ep := @_root_.List.foldl_append
def Er := @_root_.List.Sublist.refl
def Es := @_root_.Array.size_append
def Et := @_root_.List.getElem_append_left
def FO := @_root_.decide_eq_false_iff_not
def FP := @_root_.Go.Proofs.Tryz.zeroValue0
def FQ := @_root_.List.filter_cons
def FR := @_root_.Array.toList_inj
def H6 := @_root_.Nat.div_div_eq_div_mul
def H7 := @_root_.List.Perm.append_right
def H8 := @_root_.Iff.rfl
def H9 := @_root_.ByteArray.data_extract
def Kn := @_root_.Go.World.cell?_spot
def Ko := @_root_.UInt8.toNat_inj
def Kq := @_root_.Nat.le_max_left
def Kr := @_root_.Go.Proofs.Tryz.underlying190
def Kt := @_root_.Go.Proofs.Tryz.underlying175
def Ku := @_root_.Go.Proofs.Tryz.underlying143
def Kw := @_root_.Go.RowKit.Below.heap_setCell
def MB := @_root_.Go.wpList_plain
def NE := @_root_.Nat.div_le_div_right
def NF := @_root_.List.set_append_left
def NG := @_root_.List.mem_of_getElem?
def NH := @_root_.Go.IntKind.wrap_u8
def NI := @_root_.Array.toList_extract
def PG := @_root_.Go.Proofs.Tryz.ntmps183
def PI := @_root_.Go.Proofs.Tryz.ntmps182
def PK := @_root_.List.takeWhile_cons
def PL := @_root_.List.flatten_append
def Sr := @_root_.Go.wp_load_mid
def Sv := @_root_.Go.below_drewN
def Sw := @_root_.Go.Src.ofSlice
def Sy := @_root_.Go.Region.noSelect_spec
def Sz := @_root_.List.take_nil
def SA := @_root_.List.take_add
def SC := @_root_.ByteArray.ext
def SF := @_root_.Nat.sub_add_cancel
def SG := @_root_.Nat.eq_zero_or_pos
def SH := @_root_.Bool.false_eq_true
def Uw := @_root_.Go.Proofs.Tryz.sizeOf0
def Ux := @_root_.Go.Proofs.Tryz.ntmps23
def Uy := @_root_.Go.Proofs.Tryz.func183
def Uz := @_root_.Go.Proofs.Tryz.func182
def UA := @_root_.Option.some.injEq
def UB := @_root_.Nat.succ_mul
def UC := @_root_.List.flatten_cons
def UD := @_root_.List.drop_sublist
def Vt := @_root_.Go.World.ownsMap.drew
def Vu := @_root_.Go.Proofs.Tryz.zeroValue3
def VA := @_root_.Option.getD_some
def VD := @_root_.Nat.lt_of_not_le
def VE := @_root_.List.getElem_inj
def VF := @_root_.List.flatMap_nil
def VG := @_root_.List.any_eq_true
def WG := @_root_.Array.getElem?_setIfInBounds
def Stop (p:Prop):Prop:=p
def Stop.of (h:Stop p):p:=h
def Stop.on (h:p):Stop p:=h
def nm {a:Sort _}(e:a):∃x,Hid (e=x):=⟨_,ah rfl⟩
def nx {a:Sort _}(e:a):∃x,x=e:=⟨_,rfl⟩
def sN (h:p):Stop p:=h
def sO (h:Stop p):p:=h
structure Keep (M:Nat->Prop)(w w':World):Prop where
 os:w'.os=w.os
 tape:w'.tape=w.tape
 output:w'.output=w.output
 size:w.heap.size<=w'.heap.size
 block:∀k,k<w.heap.size->¬M k->w'.heap[k]? =w.heap[k]?
def Keep.refl (M:Nat->Prop)(w:World):Keep M w w:=⟨rfl,rfl,rfl,aD _,fun _ _ _=>rfl⟩
def Keep.trans {e:Nat->Prop}{a b c:World}(h:Keep M a b)(k:Keep e b c)(g:∀i,i<a.heap.size->e i->M i):Keep M a c:=
 ⟨k.os.trans h.os,k.tape.trans h.tape,k.output.trans h.output,aK h.size k.size,fun i d f=>(k.block i (ax d h.size) (fun x=>f (g i d x))).trans (h.block i d f)⟩
def Keep.mono {M':Nat->Prop}{a b:World}(h:Keep M a b)(d:∀i,i<a.heap.size->M i->M' i):Keep M' a b:=
 ⟨h.os,h.tape,h.output,h.size,fun i c e=>h.block i c (fun x=>e (d i c x))⟩
def Keep.alloc {a:World}(h:Keep M a w)(o:Obj):Keep M a (w.alloc o):=
 ⟨h.os,h.tape,h.output,aK h.size (by simp),fun k b c=>(qF w o k (ax b h.size)).trans (h.block k b c)⟩
def Keep.drew {M:Nat->Prop}{a w:World}(h:Keep M a w):Keep M a w.drew:=⟨h.os,h.tape,h.output,h.size,h.block⟩
def Keep.setCell {a:World}(h:Keep M a w){p:Addr}(d:a.heap.size<=p.block\/M p.block)(u:Value):Keep M a (w.setCell p u):=
 ⟨h.os,h.tape,h.output,aK h.size (by simp),fun k b c=>(Kw w p u k (by rintro rfl;exact d.elim (fun x=>absurd b (bg.2 x)) c)).trans (h.block k b c)⟩
def Keep.of_below {a:World}(h:Below w.heap.size w a)(M:Nat->Prop):Keep M w a:=
 ⟨h.os,h.tape,h.output,h.size,fun k b _=>h.block k b⟩
def Keep.below (h:Keep (fun _=>False) w w'):Below w.heap.size w w':=
 ⟨h.os,h.tape,h.output,h.size,fun k a=>h.block k a id⟩
def Keep.jF {a b:World}(h:Keep M a b)(e:B<=a.heap.size)(d:∀i,i<B->¬M i):Below B a b:=
 ⟨h.os,h.tape,h.output,h.size,fun k c=>h.block k (ax c e) (d k c)⟩
def Keep.grown {a f:World}{b:Option Nat}(h:Keep M a w)(c:w.grownBy f b)(i:∀k,b=some k->a.heap.size<=k\/M k):Keep M a f:=
 ⟨c.os.trans h.os,c.tape.trans h.tape,c.output.trans h.output,aK h.size c.size,fun k d g=>(c.block k (ax d h.size) (fun e=>(i k e.symm).elim (fun x=>absurd d (bg.2 x)) g)).trans (h.block k d g)⟩
def Keep.cell {a:World}(h:Keep M w a){p:Addr}(b:p.block<w.heap.size)(c:¬M p.block):a.cell? p=w.cell? p:=
 oz (w:=w) (h.block p.block b c)
def Keep.frozen {a:World}(h:Keep M w a){p:Addr}(b:p.block<w.heap.size)(c:¬M p.block):a.frozen? p=w.frozen? p:=
 World.frozen?_of_block (w:=w) (h.block p.block b c)
def gB:Nat->Prop:=fun _=>False
def Step (S S':Nat->Prop)(w w':World):Prop:=Keep S w w'/\∀g,S' g->S g\/w.heap.size<=g
def Step.refl (S:Nat->Prop)(w:World):Step S S w w:=⟨Keep.refl _ _,fun _ h=> .inl h⟩
def Step.trans {d:Nat->Prop}{a b c:World}(h:Step S S' a b)(k:Step S' d b c):Step S d a c:=
 ⟨h.1.trans k.1 fun i j e=>(h.2 i e).elim id (fun x=>absurd j (bg.2 x)),fun g f=>(k.2 g f).elim (fun x=>h.2 g x) (fun x=> .inr (aK h.1.size x))⟩
def Step.of_below {a:World}(h:Below w.heap.size w a):Step S S w a:=⟨Keep.of_below h S,fun _ h=> .inl h⟩
def aZ (w:World)(S:Nat->Prop)(k:Nat)(v:Value)(n:Nat)(xs:List Value):Prop:=
 ∃ao c,v= .slice ao n c/\n<=c/\c<=maxLen/\xs.length=n*k/\(ao=none->n=0/\c=0)/\(∀ad,ao=some ad->ad.spot=none/\ad.block<w.heap.size/\¬S ad.block)/\
  ∀j u,xs[j]? =some u->∃b o,ao=some ⟨b,o,none⟩/\w.cell? ⟨b,o+j,none⟩=some u
def aZ.keep {m:List Value}(h:aZ w S k v n m)
  (e:∀g,v.ownBlock=some g->g<w.heap.size->¬S g->w'.heap[g]? =w.heap[g]?/\¬S' g):aZ w' S' k v n m:=by
 obtain⟨q,c,rfl,s,p,x,r,i,y⟩:=h;refine⟨q,c,rfl,s,p,x,r,fun l d=> ?_,fun j u t=> ?_⟩
 ·have:=i l d
  have f:=e l.block (by rw[d];rfl) this.2.1 this.2.2;refine⟨this.1,?_,f.2⟩;exact(ai.1 (f.1.trans (Array.getElem?_eq_getElem this.2.1))).1
 ·obtain⟨b,o,rfl,z⟩:=y j u t
  have:=i _ rfl;exact⟨b,o,rfl,(oz (w:=w) (a:=⟨b,o+j,none⟩) (e b rfl this.2.1 this.2.2).1).trans z⟩
def aZ.step {b:List Value}(h:aZ w S k v n b)(c:Step S S' w w'):aZ w' S' k v n b:=
 h.keep fun g _ a d=>⟨c.1.block g a d,fun x=>(c.2 g x).elim d (fun y=>absurd a (bg.2 y))⟩
def aZ.below (h:aZ w S k v n a)(b:Below w.heap.size w w'):aZ w' S k v n a:=
 h.step (Step.of_below b)
def aZ.nil (w:World)(S:Nat->Prop)(k:Nat):aZ w S k (.slice none 0 0) 0 []:=
 ⟨none,0,rfl,aD _,aS _,by simp,fun _=>⟨rfl,rfl⟩,(fun _ h=>by cases h),(fun j u h=>by simp at h)⟩
def aZ.form {i:List Value}(h:aZ w S k v n i):
  ∃a c,v= .slice a n c/\n<=c/\c<=9223372036854775807/\(n=0\/∃b o,a=some ⟨b,o,none⟩)/\(a=none->c=0):=by
 obtain⟨a,c,rfl,g,f,m,d,j,l⟩:=h;refine⟨a,c,rfl,g,by simpa [maxLen] using f,?_,fun h=>(d h).2⟩;rcases a with _|⟨b,o,e⟩
 ·exact .inl (d rfl).1
 ·obtain rfl:e=none:=(j _ rfl).1
  exact .inr ⟨b,o,rfl⟩
def aZ.upto {b:Option Addr}{f:List Value}(h:aZ w S k (.slice b n c) n f)(j:Nat)(p:j<=n):aZ w S k (.slice b j c) j (f.take (j*k)):=by
 obtain⟨q,s,r,t,g,m,d,l,o⟩:=h;cases r
 refine⟨b,c,rfl,by omega,g,by rw[aH,m];exact bK (bZ _ p),fun e=>⟨by have:=(d e).1;omega,(d e).2⟩,l,fun i u a=> ?_⟩;rw[fD] at a
 split at a
 ·exact o i u a
 ·cases a
theorem aZ.after {d:Option Addr}{l:List Value}(h:aZ w S k (.slice d n c) n l)(i:Nat)(F:i<=n):
  aZ w S k (.slice (if c=i then d else d.map fun x=>x.add (i*k)) (n - i) (c - i)) (n - i) (l.drop (i*k)):=by
 obtain⟨B,D,A,E,C,v,p,q,z⟩:=h;cases A
 have a:(l.drop (i*k)).length=(n - i)*k:=by rw[aO,v,Nat.sub_mul]
 by_cases m:c=i
 ·rw[if_pos m]
  have e:l.drop (i*k)=[]:=aY (by rw[a,show n - i=0 by omega,rq]);refine⟨d,c - i,rfl,by omega,by omega,a,fun e=>⟨by have:=(p e).1;omega,by have:=(p e).2;omega⟩,q,fun j u f=> ?_⟩;rw[e] at f;simp at f
 ·rw[if_neg m]
  refine⟨_,c - i,rfl,by omega,by omega,a,fun e=> ?_,fun t g=> ?_,fun j u f=> ?_⟩
  ·cases d with
   |none=>have:=p rfl;omega
   |some t=>cases e
  ·cases d with
   |none=>cases g
   |some r=>
    have:=q r rfl;obtain⟨b,o,s⟩:=r;cases g
    have y:s=none:=this.1;subst y;simp only[dU];exact⟨trivial,this.2⟩
  ·rw[List.getElem?_drop] at f
   obtain⟨b,o,e,m⟩:=z _ u f;subst e;refine⟨b,o+i*k,by simp[dU],?_⟩;rw[mP];exact m
def aZ.EM (h:aZ w S 1 v n d){a:Option Addr}(g:v= .slice a e c)(i:Nat)(u:Value)(k:d[i]? =some u):
  ∃b o,a=some ⟨b,o,none⟩/\w.cell? ⟨b,o+i,none⟩=some u:=by
 obtain⟨j,l,rfl,_,_,_,_,_,f⟩:=h;cases g
 exact f _ _ k
def aT (w:World)(S:Nat->Prop)(B e k:Nat)(v:Value)(n:Nat)(xs:List Value):Prop:=
 w.ownsRow B e k v n xs/\∀g,v.ownBlock=some g->¬S g
def aT.dx (h:aT w S B e k v n d):aZ w S k v n d:=by
 obtain⟨⟨l,q⟩,r⟩:=h;rcases q with ⟨rfl,rfl⟩|⟨g,b,c,rfl,_,i,p,m,t,o⟩
 ·have:d=[]:=aY (by simpa using l)
  subst this;exact aZ.nil _ _ _
 ·refine⟨_,b,rfl,p,m,l,by simp,fun s f=> ?_,fun j u a=>⟨g,0,rfl,?_⟩⟩
  ·cases f;exact⟨rfl,(ai.1 i).1,r g rfl⟩
  ·have x:=(dm.1 a).1
   rw[dX];rw[Ak w g j c e (0,0) i];rw[<-o,fD] at a
   split at a
   ·simpa using a
   ·cases a
def aT.nil (w:World)(S:Nat->Prop)(B e k:Nat):aT w S B e k (.slice none 0 0) 0 []:=⟨World.ownsRow_nil w B e k,by simp[Value.ownBlock]⟩
def aT.keep {i:List Value}(h:aT w S B e k v n i)
  (l:∀g,v.ownBlock=some g->g<w.heap.size->¬S g->w'.heap[g]? =w.heap[g]?/\¬S' g):aT w' S' B e k v n i:=by
 obtain⟨⟨f,o⟩,p⟩:=h;rcases o with ⟨rfl,rfl⟩|⟨g,b,c,rfl,j,d,m⟩
 ·exact⟨⟨f,.inl ⟨rfl,rfl⟩⟩,by simp[Value.ownBlock]⟩
 ·have:=l g rfl (ai.1 d).1 (p g rfl)
  exact⟨⟨f,.inr ⟨g,b,c,rfl,j,this.1.trans d,m⟩⟩,fun q a=>by cases a;exact this.2⟩
def aT.lt (h:aT w S B e k v n a):v.ownBlock≠some w.heap.size:=fun e=>absurd (h.1.lt _ e).2 (dB _)
def aT.lt' (h:aT w S B e k v n a)(b:w.heap.size<=g):v.ownBlock≠some g:=fun e=>absurd (h.1.lt _ e).2 (bg.2 b)
def aT.drew {w:World}{S:Nat->Prop}{B e k n:Nat}{v:Value}{a:List Value}(h:aT w S B e k v n a):aT w.drew S B e k v n a:=h
def aT.step {b:List Value}(h:aT w S B e k v n b)(c:Step S S' w w'):aT w' S' B e k v n b:=
 h.keep fun g _ a d=>⟨c.1.block g a d,fun x=>(c.2 g x).elim d (fun y=>absurd a (bg.2 y))⟩
def aT.below (h:aT w S B e k v n a)(b:Below w.heap.size w w'):aT w' S B e k v n a:=
 h.step (Step.of_below b)
def aZ.src {P:Program}(h:aZ w S k v n a){g r:TypeId}(d:P.underlying g=some (.slice r))(p:∀u∈a,u.oneCell'=true):Src P k g v n a w:=by
 obtain⟨l,c,rfl,_,_,f,m,q,x⟩:=h;cases l with
 |none=>
  obtain⟨rfl,rfl⟩:=m rfl;have:a=[]:=aY (by simpa using f);subst this;exact Src.ofNil w d 0
 |some s=>
  obtain⟨b,o,i⟩:=s;obtain rfl:i=none:=(q _ rfl).1;refine Sw w d ⟨b,o,none⟩ n c a f (fun j u t=> ?_) p;obtain⟨z,A,e,y⟩:=x j u t;cases e
  rw[dU];exact y
def gq {P:Program}(a:List Value)(T k n c:Nat){tx e':TypeId}(i:w.heap.size=g)(b:P.underlying tx=some (.slice e'))(d:a.length=n*k)(e:∀u∈a,u.oneCell'=true):
  Src P k tx (.slice (some ⟨g,0,none⟩) n c) n a (w.alloc (.cells a.toArray T)):=by
 subst i;refine Sw _ b _ n c a d (fun j u f=> ?_) e;rw[dU,dX,qL];simpa using f
def mX (b:List Value)(n c:Nat)(d:w.heap.size=g)(f:b.length=c*k)(a:n<=c)(m:c<=maxLen)(j:B<=w.heap.size)(i:∀g,S g->g<w.heap.size):
  aT (w.alloc (.cells b.toArray e)) S B e k (.slice (some ⟨g,0,none⟩) n c) n (b.take (n*k)):=by
 subst d;refine⟨⟨?_,.inr ⟨_,c,_,rfl,j,aV w _,a,m,by simpa using f,rfl⟩⟩,fun g d l=> ?_⟩
 ·rw[aH,f];exact bK (bZ _ a)
 ·cases d;exact absurd (i _ l) (dB _)
def fe (h:∀g,S g->g<w.heap.size)(o:Obj):∀g,S g->g<(w.alloc o).heap.size:=fun g a=>by
 rw[aU];exact Eo (h g a)
def AA {a:World}(h:∀g,S g->g<w.heap.size)(b:Below B w a):∀g,S g->g<a.heap.size:=fun g c=>ax (h g c) b.size
def aN (w:World)(o:Obj):Below w.heap.size w (w.alloc o):=(aR _ _).alloc (aD _) _
def gK (w:World)(o a:Obj):Below w.heap.size w ((w.alloc o).alloc a):=(aN w o).alloc (by simp) _
def J9 (w:World)(o b a:Obj):Below w.heap.size w (((w.alloc o).alloc b).alloc a):=(gK w o b).alloc (by simp;omega) _
section
variable {P:Program}
theorem Tf (w:World)(S:Nat->Prop)(B:Nat)(t W Z e:TypeId)(i:TypeInfo)(z:Value)(k D:Nat)(Y:P.underlying t=some (.slice e))(hi:P.info? e=some i)(hz:i.zero=some z)
  (I:i.size=k) (p9:i.bytes=D) (ql:z.cells.size=k)
  (v:Value) (n:Nat) (A:List Value) (b:aT w S B e k v n A) (x:Value) (m:Nat) (a:List Value) (q:Src P k W x m a w)
  (hS:∀g,S g->g<w.heap.size) (r:B<=w.heap.size) (T:n+m<=maxLen) (p:(n+m)*D<=140737488355328):
  ∃F c E,(Builtin.append_ #[t,W] Z #[v,x]).run P w= .ok (.slice F (n+m) c) E/\aT E S B e k (.slice F (n+m) c) (n+m) (A++a)/\Keep (fun g=>v.ownBlock=some g) w E/\Below B w E/\
   (∀g,g<w.heap.size->v.ownBlock≠some g->(Value.slice F (n+m) c).ownBlock≠some g):=by
 suffices R:∃F c E,(Builtin.append_ #[t,W] Z #[v,x]).run P w= .ok (.slice F (n+m) c) E/\aT E S B e k (.slice F (n+m) c) (n+m) (A++a)/\Keep (fun g=>v.ownBlock=some g) w E/\
   ((Value.slice F (n+m) c).ownBlock=v.ownBlock\/∃g,F=some ⟨g,0,none⟩/\w.heap.size<=g) by
  obtain⟨F,c,E,h1,h2,N,h4⟩:=R;exact⟨F,c,E,h1,h2,N,⟨N.os,N.tape,N.output,N.size,fun g G=>N.block g (ax G r) (fun e=>absurd (b.1.lt g e).1 (gG.2 G))⟩,fun g G pM=>h4.elim (fun e=>e▸pM) (fun ⟨g',e,H⟩=>by rw[e];intro e';cases e';exact absurd G (bg.2 H))⟩
 subst I;subst p9;have X:n+m<=9223372036854775807:=by simp only[maxLen] at T;omega
 have f:(A++a).length=(n+m)*i.size:=by rw[ay,b.1.1,q.newsLen,fq]
 have y:∀(d:Nat),d<n+m->
   aT (w.drew.alloc (.cells ((A++a).toArray++Builtin.zeroCells z.cells (grownCap w (n+m) d e - (n+m))) e)) S B e i.size
    (.slice (some ⟨w.heap.size,0,none⟩) (n+m) (grownCap w (n+m) d e)) (n+m) (A++a)/\
   Keep (fun g=>v.ownBlock=some g) w (w.drew.alloc (.cells ((A++a).toArray++Builtin.zeroCells z.cells (grownCap w (n+m) d e - (n+m))) e)):=by
  intro d ho;have H:=Aj w (n+m) d e;have J:grownCap w (n+m) d e<=maxLen:=nR w (n+m) d e T;refine⟨⟨⟨f,.inr ⟨w.heap.size,_,_,rfl,r,aV w.drew _,H,J,?_,?_⟩⟩,fun g G hh=> ?_⟩,(Keep.refl _ w).drew.alloc _⟩
  ·simp only[Es,nZ,f,xu,ql,<-fq]
   congr 1;omega
  ·simp only[sD]
   rw[<-f];exact iN
  ·cases G;exact absurd (hS _ hh) (dB _)
 rcases b.1.2 with ⟨rfl,rfl⟩|⟨g,o,s,rfl,qb,G,qo,J,qc,M⟩
 ·have hx:A=[]:=aY (by simpa using b.1.1)
  subst hx
  by_cases hm:m=0
  ·subst hm
   have hn:a=[]:=aY (by simpa using q.newsLen);subst hn;refine⟨none,0,w,?_,aT.nil w S B e i.size,Keep.refl _ _,.inl rfl⟩;rcases q.kind with ⟨e',K⟩|K<;>simp[Builtin.append_,fQ Y,fQ K,sizeOf,typeInfo,hi,q.len,q.cells]
  ·have hr:=tL (P:=P) w t W Z e i z Y hi hz none 0 0 [] (run_firstCells_none w.drew i.size 0 0 0) x m a q (by omega) (by omega) (si (by omega) p)
   have C:=y 0 (by omega);exact⟨_,_,_,hr,C.1,C.2,.inr ⟨_,rfl,aD _⟩⟩
 ·by_cases l:n+m<=o
  ·have V:n*i.size+a.length<=s.size:=by rw[q.newsLen,qc,<-fq];exact bZ _ l
   have O:=run_storeCells_at P g (n*i.size) e a 0 s w G (by simpa using V) q.one;simp only[iG] at O;refine⟨some ⟨g,0,none⟩,o,w.setRow g (s.toList.take (n*i.size)++a++s.toList.drop (n*i.size+a.length)).toArray,?_,⟨⟨f,.inr ⟨g,o,_,rfl,qb,setRow_heap w g s _ e _ G,l,J,?_,?_⟩⟩,b.2⟩,⟨rfl,rfl,rfl,by simp,fun k' _ K=>setRow_other w g k' _ (fun e=>K (by simp[Value.ownBlock,e]))⟩,.inl rfl⟩
   ·rcases q.kind with ⟨e',K⟩|K<;>simp[Builtin.append_,fQ Y,fQ K,sizeOf,typeInfo,hi,q.len,l,q.cells,dU,O]
   ·simp only[nZ,ay,aH,aO,kN]
    omega
   ·rw[M,<-f]
    exact iN
  ·have Q:(Builtin.firstCells i.size n (.slice (some ⟨g,0,none⟩) n o)).run P w.drew= .ok A.toArray w.drew:=
    BK w.drew i.size n ⟨g,0,none⟩ n o A b.1.1 (fun j u hu=>by simpa using b.1.cells (g:=g) rfl j u hu)
   have hr:=tL (P:=P) w t W Z e i z Y hi hz (some ⟨g,0,none⟩) n o A Q x m a q (by omega) (by omega) (si (by omega) p);have C:=y o (by omega);exact⟨_,_,_,hr,C.1,C.2,.inr ⟨_,rfl,aD _⟩⟩
def ol {a:Act}(s y:Operand)(t H:TypeId)(O:o.op= .call {callee:= .builtin .append,args:=#[s,y],argTypes:=#[t,H]})
  (S:Nat->Prop) (B:Nat) (e:TypeId) (k b:Nat) (z:Value) (J:P.underlying t=some (.slice e)) (p:(P.info? e).map (fun i=>(i.zero,i.size,i.bytes))=some (some z,k,b)) (F:z.cells.size=k)
  (v:Value) (n:Nat) (E:List Value) (Y:a.eval s=v) (r:aT w S B e k v n E) (x:Value) (m:Nat) (d:List Value) (X:a.eval y=x) (V:Src P k H x m d w)
  (Z:∀g,S g->g<w.heap.size) (l:B<=w.heap.size) (C:n+m<=maxLen) (f:(n+m)*b<=140737488355328)
  (h:∀A c q,aT q S B e k (.slice A (n+m) c) (n+m) (E++d)->Keep (fun g=>v.ownBlock=some g) w q->Below B w q->
   (∀g,g<w.heap.size->v.ownBlock≠some g->(Value.slice A (n+m) c).ownBlock≠some g)->K (a.put o.dst (.slice A (n+m) c)) q):o.wp P a w K Q:=by
 obtain⟨i,W,N,j,D⟩:=ve p;obtain⟨A,c,q,R,I,T,G,M⟩:=Tf (P:=P) w S B t H o.type e i z k b J W N j D F v n E r x m d V Z l C f;unfold Oper.wp execOp;simp only[O,resolve,invoke,builtin,kD,qf,gP,mR,dK,iH,Y,X,R];exact h A c q I T G M
def cO {C:Array Oper}{j:List Oper}{a:Act}(D:o.guard=none)(s y:Operand)(t I:TypeId)(O:o.op= .call {callee:= .builtin .append,args:=#[s,y],argTypes:=#[t,I]})
  (S:Nat->Prop) (B:Nat) (e:TypeId) (k b:Nat) (z:Value) (K:P.underlying t=some (.slice e)) (p:(P.info? e).map (fun i=>(i.zero,i.size,i.bytes))=some (some z,k,b)) (G:z.cells.size=k)
  (v:Value) (n:Nat) (F:List Value) (W:a.eval s=v) (r:aT w S B e k v n F) (x:Value) (m:Nat) (d:List Value) (V:a.eval y=x) (T:Src P k I x m d w)
  (X:∀g,S g->g<w.heap.size) (l:B<=w.heap.size) (E:n+m<=maxLen) (f:(n+m)*b<=140737488355328)
  (h:∀A c q,aT q S B e k (.slice A (n+m) c) (n+m) (F++d)->Keep (fun g=>v.ownBlock=some g) w q->Below B w q->
   (∀g,g<w.heap.size->v.ownBlock≠some g->(Value.slice A (n+m) c).ownBlock≠some g)->wpList P C Q j (a.put o.dst (.slice A (n+m) c)) q):wpList P C Q (o::j) a w:=
 MB D fun _ N=>ol s y t I O S B e k b z K p G v n F W r x m d V T X l E f fun A c q J R H M=>N _ _ (h A c q J R H M)
def Iq {q:Array Oper}{a:Act}{E:Prop}(A:o.guard=none)(s y:Operand)(t H:TypeId)(M:o.op= .call {callee:= .builtin .append,args:=#[s,y],argTypes:=#[t,H]})
  (S:Nat->Prop) (B:Nat) (e:TypeId) (k b:Nat) (z:Value) (I:P.underlying t=some (.slice e)) (l:(P.info? e).map (fun i=>(i.zero,i.size,i.bytes))=some (some z,k,b)) (G:z.cells.size=k)
  (v:Value) (n:Nat) (F:List Value) (R:a.eval s=v) (p:aT w S B e k v n F) (x:Value) (m:Nat) (d:List Value) (O:a.eval y=x) (N:Src P k H x m d w)
  (T:∀g,S g->g<w.heap.size) (j:B<=w.heap.size) (D:n+m<=maxLen) (f:(n+m)*b<=140737488355328)
  (h:∀C c r,aT r S B e k (.slice C (n+m) c) (n+m) (F++d)->Keep (fun g=>v.ownBlock=some g) w r->Below B w r->
   (∀g,g<w.heap.size->v.ownBlock≠some g->(Value.slice C (n+m) c).ownBlock≠some g)->K (a.put o.dst (.slice C (n+m) c)) r):
  if Region.wanted o (yielded q a.tmps)=true then Oper.wp P o a w K Q else E:=by
 have J:Region.wanted o (yielded q a.tmps)=true:=by simp[Region.wanted,A]
 rw[if_pos J];exact ol s y t H M S B e k b z I l G v n F R p x m d O N T j D f h
end
def dP (ps:List (ByteArray×ByteArray)):List Value:=ps.flatMap fun p=>[.string p.1,.string p.2]
def mh (p:ByteArray×ByteArray)(a:List (ByteArray×ByteArray)):dP (p::a)= .string p.1:: .string p.2::dP a:=rfl
def IX (a:List (ByteArray×ByteArray)):∀i (h:i<a.length),(dP a)[i*2]? =some (.string a[i].1)/\(dP a)[i*2+1]? =some (.string a[i].2):=by
 induction a with
 |nil=>intro i h;exact absurd h (by simp)
 |cons p a ih=>
  intro i h;cases i with
  |zero=>simp[mh]
  |succ i=>
   have:=ih i (by simpa using h);rw[mh];refine⟨?_,?_⟩
   ·have e:(i+1)*2=i*2+1+1:=by omega
    rw[e,eO,eO];exact this.1
   ·have e:(i+1)*2+1=(i*2+1)+1+1:=by omega
    rw[e,eO,eO];exact this.2
def ic (a b:List (ByteArray×ByteArray)):dP (a++b)=dP a++dP b:=by simp[dP]
def aI (l:List UInt8):List Value:=l.map fun b=> .int .u8 (b.toNat:Int)
def iZ (a b:List UInt8):aI (a++b)=aI a++aI b:=by simp[aI]
def bP (l:List UInt8):(aI l).length=l.length:=by simp[aI]
def Ad (s:ByteArray):byteCells s=aI s.data.toList:=rfl
def jo (w:World)(S:Nat->Prop)(v:Value)(ps:List (ByteArray×ByteArray)):Prop:=aZ w S 2 v ps.length (dP ps)
def jP (w:World)(S:Nat->Prop)(v:Value)(ss:List ByteArray):Prop:=aZ w S 1 v ss.length (ss.map .string)
def jV (w:World)(S:Nat->Prop)(v:Value)(zs:List Int):Prop:=aZ w S 1 v zs.length (zs.map (.int .i64))
def gF (w:World)(S:Nat->Prop)(v:Value)(l:List UInt8):Prop:=aZ w S 1 v l.length (aI l)
def jV.at {zs:List Int}{a:Option Addr}(h:jV w S v zs)(d:v= .slice a n c)(i:Nat)(e:i<zs.length):
  ∃b o,a=some ⟨b,o,none⟩/\w.cell? ⟨b,o+i,none⟩=some (.int .i64 zs[i]):=aZ.EM h d i _ (by simp[e])
def jP.at {a:List ByteArray}{d:Option Addr}(h:jP w S v a)(e:v= .slice d n c)(i:Nat)(f:i<a.length):
  ∃b o,d=some ⟨b,o,none⟩/\w.cell? ⟨b,o+i,none⟩=some (.string a[i]):=aZ.EM h e i _ (by simp[f])
def gF.at {l:List UInt8}{a:Option Addr}(h:gF w S v l)(d:v= .slice a n c)(i:Nat)(e:i<l.length):
  ∃b o,a=some ⟨b,o,none⟩/\w.cell? ⟨b,o+i,none⟩=some (.int .u8 (l[i].toNat:Int)):=aZ.EM h d i _ (by simp[aI,e])
def jo.at {a:List (ByteArray×ByteArray)}{f:Option Addr}(h:jo w S v a)(p:v= .slice f n c)(i:Nat)(m:i<a.length):
  ∃b o,f=some ⟨b,o,none⟩/\w.cell? ⟨b,o+i*2,none⟩=some (.string a[i].1)/\w.cell? ⟨b,o+i*2+1,none⟩=some (.string a[i].2):=by
 obtain⟨q,r,rfl,_,_,_,_,_,j⟩:=h;cases p
 have d:=IX a i m;obtain⟨b,o,e,l⟩:=j _ _ d.1;obtain⟨s,t,g,k⟩:=j _ _ d.2;rw[e] at g;cases g;exact⟨b,o,e,l,k⟩
def pI (b:List ByteArray):∀u∈b.map Value.string,u.oneCell'=true:=by
 intro u a;obtain⟨_,_,rfl⟩:=fw.1 a;rfl
def iA (l:List UInt8):∀u∈aI l,u.oneCell'=true:=by
 intro u a;obtain⟨_,_,rfl⟩:=fw.1 a;rfl
def Cg (b:List (ByteArray×ByteArray)):∀u∈dP b,u.oneCell'=true:=by
 intro u c;obtain⟨p,_,a⟩:=kF.1 c;simp at a;rcases a with rfl|rfl<;>rfl
end Go.Proofs.YtogbkgmlhhahdaaGreat
namespace Go.Proofs.YtogbkgmlhhahdaaGreat
variable{K:Act->World->Prop}{Q:Exit->Act->World->Prop}{a d:List Value}{B b c e g k n:Nat}{M S S':Nat->Prop}{o:Oper}{p:Prop}{v:Value}{w w':World}
abbrev Pr:=ByteArray×ByteArray
structure Nd where
 pairs:List Pr
 keys:List ByteArray
 kids:List Int
def eG (ps:List Pr):Nat:=(ps.map fun p=>2+p.1.size+p.2.size).sum
def eP (ks:List ByteArray):Nat:=(ks.map fun k=>1+k.size).sum
def Nd.size (n:Nd):Nat:=2+eG n.pairs+eP n.keys+2*n.kids.length
def lq (p:Pr)(a:List Pr):eG (p::a)=2+p.1.size+p.2.size+eG a:=by simp[eG]
def lu (k:ByteArray)(a:List ByteArray):eP (k::a)=1+k.size+eP a:=by simp[eP]
def lG (a b:List Pr):eG (a++b)=eG a+eG b:=by simp[eG]
def kz (a b:List ByteArray):eP (a++b)=eP a+eP b:=by simp[eP]
def qx (a:List Pr)(i:Nat)(h:i<a.length):eG (a.take (i+1))=eG (a.take i)+(2+a[i].1.size+a[i].2.size):=by
 rw[aL h,lG];simp[eG]
def uN (a:List ByteArray)(i:Nat)(h:i<a.length):eP (a.take (i+1))=eP (a.take i)+(1+a[i].size):=by
 rw[aL h,kz];simp[eP]
def kR (a:List Pr)(i:Nat):eG (a.take i)<=eG a:=by
 have:=lG (a.take i) (a.drop i);rw[bJ] at this;omega
def qH (a:List ByteArray)(i:Nat):eP (a.take i)<=eP a:=by
 have:=kz (a.take i) (a.drop i);rw[bJ] at this;omega
def p8 (a:List Pr):2*a.length<=eG a:=by
 induction a with
 |nil=>simp[eG]
 |cons p a ih=>rw[lq];simp;omega
def pK (a:List ByteArray):a.length<=eP a:=by
 induction a with
 |nil=>simp[eP]
 |cons p a ih=>rw[lu];simp;omega
def b8 (n:Nat):UInt8:=UInt8.ofNat n
def DX (p:Pr):List UInt8:=[b8 p.1.size,b8 p.2.size]++p.1.data.toList++p.2.data.toList
def AZ (k:Int):List UInt8:=[b8 k.toNat,b8 (k.toNat/256)]
def yV (k:ByteArray):List UInt8:=b8 k.size::k.data.toList
def qa (ps:List Pr):List UInt8:=ps.flatMap DX
def kW (ks:List Int):List UInt8:=ks.flatMap AZ
def jL (ks:List ByteArray):List UInt8:=ks.flatMap yV
def Nd.enc (n:Nd):List UInt8:=[b8 n.pairs.length,b8 n.kids.length]++qa n.pairs++kW n.kids++jL n.keys
def pq {a b:Type}(f:a->List b)(l:List a)(i:Nat)(h:i<l.length):(l.take (i+1)).flatMap f=(l.take i).flatMap f++f l[i]:=by
 rw[aL h,oM,iY,VF,dM]
def jy (s:ByteArray):s.data.toList.length=s.size:=by rw[kN];rfl
def Aa (p:Pr):(DX p).length=2+p.1.size+p.2.size:=by
 simp only[DX,ay,jy,bn,bV]
def yC (a:List Pr):(qa a).length=eG a:=by
 induction a with
 |nil=>rfl
 |cons p a ih=>rw[lq];simp only[qa,iY,ay,Aa] at*;omega
def wJ (a:List Int):(kW a).length=2*a.length:=by
 induction a with
 |nil=>rfl
 |cons p b ih=>simp only[kW,iY,ay,AZ,bn,bV] at*;omega
def wK (a:List ByteArray):(jL a).length=eP a:=by
 induction a with
 |nil=>rfl
 |cons p b ih=>rw[lu];simp only[jL,iY,ay,yV,bn,jy] at*;omega
def Nd.DW (n:Nd):n.enc.length=n.size:=by
 simp only[Nd.enc,Nd.size,ay,yC,wJ,wK,bn,bV];omega
structure Nd.Fits (n:Nd):Prop where
 np:n.pairs.length<256
 nk:n.kids.length<256
 pr:∀p∈n.pairs,p.1.size<256/\p.2.size<256
 ky:∀k∈n.keys,k.size<256
 kd:∀k∈n.kids,0<=k/\k<65536
 kk:n.keys.length=n.kids.length - 1
 one:n.pairs=[]↔n.kids≠[]
def uh (n:Nat)(h:n<256):(b8 n).toNat=n:=by simp[b8];omega
def uS {a b:Type}(f:a->List b)(l:List a)(i:Nat)(h:i<l.length):(l.drop i).flatMap f=f l[i]++(l.drop (i+1)).flatMap f:=by
 rw[cu h,iY]
end Go.Proofs.YtogbkgmlhhahdaaGreat
namespace Go.Proofs.YtogbkgmlhhahdaaGreat
open Go.RowKit
variable{K:Act->World->Prop}{Q:Exit->Act->World->Prop}{a d:List Value}{B b c e g k n:Nat}{M S S':Nat->Prop}{o:Oper}{p:Prop}{v:Value}{w w':World}
def gN (w:World)(S:Nat->Prop)(b:Nat)(nd:Nd):Prop:=
 ¬S b/\∃v0 v1 v2,w.heap[b]? =some (.cells #[v0,v1,v2] 165 (0,0))/\jo w S v0 nd.pairs/\jP w S v1 nd.keys/\jV w S v2 nd.kids
def cells3 {t:Nat}{d c a:Value}(h:w.heap[b]? =some (.cells #[d,c,a] t (0,0))):
  w.cell? ⟨b,0,none⟩=some d/\w.cell? ⟨b,1,none⟩=some c/\w.cell? ⟨b,2,none⟩=some a/\
  w.frozen? ⟨b,0,none⟩=false/\w.frozen? ⟨b,1,none⟩=false/\w.frozen? ⟨b,2,none⟩=false/\b<w.heap.size:=by
 refine⟨?_,?_,?_,?_,?_,?_,(ai.1 h).1⟩<;>simp[World.cell?,World.frozen?,h]
def gN.step {d:Nd}(h:gN w S b d)(a:Step S S' w w'):gN w' S' b d:=by
 obtain⟨f,m,k,l,c,i,j,g⟩:=h;have e:=(ai.1 c).1;exact⟨fun x=>(a.2 b x).elim f (fun y=>absurd e (bg.2 y)),m,k,l,(a.1.block b e f).trans c,aZ.step i a,aZ.step j a,aZ.step g a⟩
def gN.below {a:Nd}(h:gN w S b a)(c:Below w.heap.size w w'):gN w' S b a:=h.step (Step.of_below c)
def iQ (w:World)(S:Nat->Prop)(B:Nat)(b:Nat)(nd:Nd):Prop:=
 ¬S b/\B<=b/\∃v0 v1 v2,w.heap[b]? =some (.cells #[v0,v1,v2] 165 (0,0))/\aT w S B 103 2 v0 nd.pairs.length (dP nd.pairs)/\aT w S B 9 1 v1 nd.keys.length (nd.keys.map .string)/\aT w S B 3 1 v2 nd.kids.length (nd.kids.map (.int .i64))
def iQ.jO {a:Nd}(h:iQ w S B b a):gN w S b a:=by
 obtain⟨g,_,k,f,e,j,c,i,d⟩:=h;exact⟨g,k,f,e,j,c.dx,i.dx,d.dx⟩
def iQ.step {d:Nd}(h:iQ w S B b d)(a:Step S S' w w'):iQ w' S' B b d:=by
 obtain⟨f,m,n,k,l,c,i,j,g⟩:=h;have e:=(ai.1 c).1;exact⟨fun x=>(a.2 b x).elim f (fun y=>absurd e (bg.2 y)),m,n,k,l,(a.1.block b e f).trans c,i.step a,j.step a,g.step a⟩
theorem ku (b:Nat)(a:Nd)(w:World)(S:Nat->Prop)(h:gN w S b a):
  Calls Tryz.prog 121 #[.pointer (some ⟨b,0,none⟩)] w fun e f=>e= .returned (.bool (a.kids.isEmpty))/\w=f:=by
 obtain⟨_,t,n,r,g,i,m,l,c,rfl,_,_,_,_,_,_⟩:=h;obtain⟨o,p,q,j,k,s,d⟩:=cells3 g;go_enter Tryz.func121,Tryz.ntmps121
 go_wp2
 go_ret;exact⟨by congr 2;cases a.kids<;>simp;omega,rfl⟩
theorem pu (b:Nat)(c:Nd)(w:World)(S:Nat->Prop)(h:gN w S b c)(O:c.size<=1000000):
  Calls Tryz.prog 178 #[.pointer (some ⟨b,0,none⟩)] w fun e z=>e= .returned (.int .i64 c.size)/\Below w.heap.size w z:=by
 obtain⟨_,v0,R,Y,C,o,y,r⟩:=h;obtain⟨V,K,M,_,_,_,g⟩:=cells3 C;obtain⟨N,B,rfl,T,X,_,_⟩:=aZ.form o;obtain⟨D,E,rfl,n1,Z,_,_⟩:=aZ.form y;obtain⟨J,I,rfl,n2,Q,_,_⟩:=aZ.form r;clear r;unfold Nd.size at O;have W:=p8 c.pairs;have l1:=pK c.keys;go_enter Tryz.func178,Tryz.ntmps178
 go_wp2
 go_loopw [3,13] (fun s i wr=>∃k:Nat,k<=c.pairs.length/\i= .int .i64 k/\s= .int .i64 (2+eG (c.pairs.take k):Nat)/\Below w.heap.size w wr) (fun _ i _=>c.pairs.length - (intOf i).toNat)
 case atStart=>exact⟨0,by omega,rfl,by simp[eG],aR _ _⟩
 case round=>
  obtain⟨k,x,rfl,rfl,a⟩:=hrel
  by_cases d:k<c.pairs.length
  ·obtain⟨m,n,rfl,f,j⟩:=o.at rfl k d
   have F:=(a.cell (p:=⟨m,n+k*2,none⟩) (aF w _ f)).trans f;have P:=(a.cell (p:=⟨m,n+k*2+1,none⟩) (aF w _ j)).trans j;have H:=ah (qx c.pairs k d);have l:=kR c.pairs (k+1);have q:eG (c.pairs.take k)+(2+c.pairs[k].1.size+c.pairs[k].2.size)<=1000000:=(by rw[<-H.out];omega);clear l f j
   go_wp2
   go_roundw
   case rel=>exact⟨k+1,by omega,by go_num,by rw[H.out];go_num,a.alloc a.size _⟩
   case measure=>simp[intOf];omega
  ·obtain rfl:k=c.pairs.length:=by omega
   rw[bS];clear d o x;have A:=(a.cell (p:=⟨b,1,none⟩) g).trans K;have G:=(a.cell (p:=⟨b,2,none⟩) g).trans M;have t:b<wr.heap.size:=ax g a.size;obtain⟨v,rfl⟩:∃v:World,v=wr:=⟨_,rfl⟩
   go_wp2
   go_loop [3,33] (fun s i=>∃k:Nat,k<=c.keys.length/\i= .int .i64 k/\s= .int .i64 (2+eG c.pairs+eP (c.keys.take k):Nat)) (fun _ i=>c.keys.length - (intOf i).toNat)
   case atStart=>exact⟨0,by omega,rfl,by simp[eP]⟩
   case round=>
    obtain⟨k,x,rfl,rfl⟩:=hrel
    by_cases d:k<c.keys.length
    ·obtain⟨m,n,rfl,f⟩:=aZ.EM y rfl k (.string c.keys[k]) (by simp[d])
     have F:=(a.cell (p:=⟨m,n+k,none⟩) (aF w _ f)).trans f;have H:=ah (uN c.keys k d);have l:=qH c.keys (k+1);have q:2+eG c.pairs+eP (c.keys.take k)+(1+c.keys[k].size)<=1000000:=(by rw[mP (2+_),<-H.out];omega);clear l f
     go_wp2
     go_round
     case rel=>exact⟨k+1,by omega,by go_num,by rw[H.out];go_num⟩
     case measure=>simp[intOf];omega
    ·obtain rfl:k=c.keys.length:=by omega
     rw[bS]
     go_wp2
     go_ret;exact⟨by unfold Nd.size;go_num,a⟩
def Row (w:World)(g e:Nat)(cur:List Value):Prop:=w.heap[g]? =some (.cells cur.toArray e (0,0))
def Row.lt (h:Row w g e a):g<w.heap.size:=(ai.1 h).1
def Row.cell (h:Row w g e a)(j:Nat):w.cell? ⟨g,j,none⟩=a[j]? :=by
 have:=Ak w g j a.toArray e (0,0) h;simpa using this
def Row.frozen (h:Row w g e a)(j:Nat):w.frozen? ⟨g,j,none⟩=false:=by
 unfold Row at h;simp[World.frozen?,h]
def Row.keep (h:Row w g e a)(k:Keep M w w')(b:¬M g):Row w' g e a:=(k.block g h.lt b).trans h
def aT.row (h:aT w S B e k (.slice (some ⟨g,0,none⟩) n b) n d):
  ∃a,Row w g e a/\a.length=b*k/\a.take (n*k)=d/\B<=g/\¬S g/\n<=b/\b<=maxLen:=by
 obtain⟨⟨t,m⟩,p⟩:=h;rcases m with ⟨h,_⟩|⟨s,c,a,q,r,i,l,f,o,j⟩
 ·cases h
 ·cases q
  exact⟨a.toList,i,by simpa using o,j,r,p g rfl,l,f⟩
def aT.ne {t:Nat}{o:List Value}{i:Array Value}{l:Nat×Nat}(h:aT w S B e k v n o)(a:w.heap[b]? =some (.cells i t l))(d:t≠e):v.ownBlock≠some b:=by
 intro c;rcases h.1.2 with ⟨rfl,_⟩|⟨g,j,m,rfl,_,f,_⟩
 ·cases c
 ·cases c
  rw[f] at a;cases a;exact d rfl
def Row.own {cap:Nat}{cur:List Value}(h:Row w g e cur)(n:Nat)(a:cur.length=cap*k)(f:B<=g)(c:¬S g)(b:n<=cap)(i:cap<=maxLen):
  aT w S B e k (.slice (some ⟨g,0,none⟩) n cap) n (cur.take (n*k)):=by
 refine⟨⟨?_,.inr ⟨g,cap,cur.toArray,rfl,f,h,b,i,by simpa using a,rfl⟩⟩,fun j d=>by cases d;exact c⟩;rw[aH,a];exact bK (bZ _ b)
def Row.dx {off:Nat}(h:Row w g e a)(n c:Nat)(o:off+n*k<=a.length)(i:¬S g)(f:n<=c)(l:c<=maxLen):
  aZ w S k (.slice (some ⟨g,off,none⟩) n c) n ((a.drop off).take (n*k)):=by
 refine⟨_,c,rfl,f,l,?_,by simp,fun m d=>by cases d;exact⟨rfl,h.lt,i⟩,fun j u b=>⟨g,off,rfl,?_⟩⟩
 ·rw[aH,aO];omega
 ·rw[h.cell]
  rw[fD] at b
  split at b
  ·simpa using b
  ·cases b
def xL {c:Type}(A Y T a:List c)(b:Nat)(d:A.length=b)(e:Y.length=a.length):splice (A++(Y++T)) b a=A++(a++T):=by
 subst d;unfold splice;rw[iN,<-e,<-aM A Y T,<-ay,vH]
section
variable {P:Program}
def pE {off:Nat}(h:Row w g e a)(b:List Value)(d:off+b.length<=a.length)(j:∀v∈b,v.oneCell'=true):
  ∃f,(storeCells ⟨g,off,none⟩ b 0).run P w= .ok () f/\Row f g e (splice a off b)/\Keep (· =g) w f:=by
 have c:=run_storeCells_at P g off e b 0 a.toArray w h (by simpa using d) j;simp only[iG] at c;refine⟨_,c,?_,⟨rfl,rfl,rfl,by simp,fun k _ i=>setRow_other w g k _ i⟩⟩;have:=setRow_heap w g a.toArray (a.toArray.toList.take off++b++a.toArray.toList.drop (off+b.length)).toArray e (0,0) h;unfold Row;rw[this];simp[splice]
def Qw (t r A e:TypeId)(i:TypeInfo)(k:Nat)(y:P.underlying t=some (.slice e))(B:P.info? e=some i)(l:i.size=k){q:Nat}(h:Row w g q d)
  (x:Value) (m:Nat) (a:List Value) (o:Src P k r x m a w) (b:n+m<=c) (j:n*k+a.length<=d.length):
  ∃f,(Builtin.append_ #[t,r] A #[.slice (some ⟨g,0,none⟩) n c,x]).run P w= .ok (.slice (some ⟨g,0,none⟩) (n+m) c) f/\Row f g q (splice d (n*k) a)/\Keep (· =g) w f:=by
 subst l;obtain⟨f,p,s,z⟩:=pE (P:=P) h a j o.one;refine⟨f,?_,s,z⟩;rcases o.kind with ⟨v,l⟩|l<;>simp[Builtin.append_,fQ y,fQ l,sizeOf,typeInfo,B,o.len,b,o.cells,dU,p]
def zk {a:Act}(s y:Operand)(t A:TypeId)(F:o.op= .call {callee:= .builtin .append,args:=#[s,y],argTypes:=#[t,A]})
  (e k p:Nat) (z:Value) (D:P.underlying t=some (.slice e)) (j:(P.info? e).map (fun i=>(i.zero,i.size,i.bytes))=some (some z,k,p))
  (g n f B:Nat) (l:List Value) (N:a.eval s= .slice (some ⟨g,0,none⟩) n f) (G:Row w g B l) (x:Value) (m:Nat) (b:List Value) (M:a.eval y=x) (I:Src P k A x m b w)
  (d:n+m<=f) (r:n*k+b.length<=l.length)
  (h:∀q,Row q g B (splice l (n*k) b)->Keep (· =g) w q->K (a.put o.dst (.slice (some ⟨g,0,none⟩) (n+m) f)) q):o.wp P a w K Q:=by
 obtain⟨i,J,O,c,E⟩:=ve j;obtain⟨q,v,C,H⟩:=Qw (P:=P) t A o.type e i k D J c G x m b I d r;unfold Oper.wp execOp;simp only[F,resolve,invoke,builtin,kD,qf,gP,mR,dK,iH,N,M,v];exact h q C H
def IB (t I F e:TypeId)(i:TypeInfo)(k:Nat)(p:P.underlying t=some (.slice e))(s:P.info? e=some i)(C:i.size=k){f y dCap:Nat}{r:Option Addr}(h:Row w g y d)
  (x:Value) (m:Nat) (a:(Builtin.lenOf x).run P w= .ok m w) (G:n=Nat.min m c) (b:List Value) (H:b.length=n*k) (j:(Builtin.firstCells k n x).run P w= .ok b.toArray w)
  (z:0<b.length->r=some ⟨g,f,none⟩) (o:f+b.length<=d.length) (D:∀v∈b,v.oneCell'=true):
  ∃l,(Builtin.copy_ #[t,I] F #[.slice r c dCap,x]).run P w= .ok (goInt n) l/\Row l g y (splice d f b)/\Keep (· =g) w l:=by
 subst C;subst G
 by_cases B:0<b.length
 ·obtain rfl:=z B
  obtain⟨l,q,A,E⟩:=pE (P:=P) h b o D;refine⟨l,?_,A,E⟩;simp[Builtin.copy_,fQ p,sizeOf,typeInfo,s,a,j,q]
 ·obtain rfl:b=[]:=aY (by omega)
  refine⟨w,?_,by unfold Row at*;simpa [splice] using h,Keep.refl _ _⟩;cases r with
  |none=>simp[Builtin.copy_,fQ p,sizeOf,typeInfo,s,a,j]
  |some J=>simp[Builtin.copy_,fQ p,sizeOf,typeInfo,s,a,j,storeCells]
def gZ {a:Act}(s y:Operand)(t H:TypeId)(O:o.op= .call {callee:= .builtin .copy,args:=#[s,y],argTypes:=#[t,H]})
  (e k q:Nat) (z:Value) (M:P.underlying t=some (.slice e)) (j:(P.info? e).map (fun i=>(i.zero,i.size,i.bytes))=some (some z,k,q))
  (g p G n c b:Nat) (F:Option Addr) (l:List Value) (Y:a.eval s= .slice F c b) (S:Row w g G l) (x:Value) (W:a.eval y=x) (m:Nat) (f:List Value)
  (A:(Builtin.lenOf x).run P w= .ok m w) (X:n=Nat.min m c) (E:f.length=n*k) (D:(Builtin.firstCells k n x).run P w= .ok f.toArray w)
  (I:0<f.length->F=some ⟨g,p,none⟩) (C:p+f.length<=l.length) (N:∀v∈f,v.oneCell'=true)
  (h:∀r,Row r g G (splice l p f)->Keep (· =g) w r->K (a.put o.dst (goInt n)) r):o.wp P a w K Q:=by
 obtain⟨i,V,Z,d,R⟩:=ve j;obtain⟨r,B,J,T⟩:=IB (P:=P) t H o.type e i k M V d S x m A X f E D I C N (dCap:=b);unfold Oper.wp execOp;simp only[O,resolve,invoke,builtin,kD,qf,gP,mR,dK,iH,Y,W,B];exact h r J T
def aZ.first (h:aZ w S k v n d)(m:Nat)(r:m<=n):(Builtin.firstCells k m v).run P w= .ok (d.take (m*k)).toArray w:=by
 obtain⟨i,c,rfl,_,_,f,l,p,s⟩:=h;cases i with
 |none=>
  obtain⟨rfl,rfl⟩:=l rfl;have:d=[]:=aY (by simpa using f);subst this;simp[Builtin.firstCells]
 |some q=>
  obtain⟨b,o,g⟩:=q;obtain rfl:g=none:=(p _ rfl).1;refine BK w k m ⟨b,o,none⟩ n c _ (by rw[aH,f];exact bK (bZ _ r)) (fun j u a=> ?_);rw[fD] at a
  split at a
  ·obtain⟨x,y,e,t⟩:=s j u a
   cases e
   rw[dU];exact t
  ·cases a
def lF (z:Array Value)(n:Nat)(h:∀v∈z.toList,v.oneCell'=true)(c:0<z.size):∀v∈(Builtin.zeroCells z n).toList,v.oneCell'=true:=by
 intro v b;simp only[Builtin.zeroCells,Array.toList_map,fw] at b;obtain⟨i,_,rfl⟩:=b;have a:=mZ i c;rw[getElem!_pos z (i%z.size) a];exact h _ (by simp)
def Gh (t C e:TypeId)(i:TypeInfo)(z:Value)(k:Nat)(p:P.underlying t=some (.slice e))(D:P.info? e=some i)(A:i.zero=some z)(o:z.cells.size=k){r:Nat}{m:Option Addr}(h:Row w g r a)
  (s:0<n->m=some ⟨g,b,none⟩) (j:b+n*k<=a.length) (y:∀v∈(Builtin.zeroCells z.cells n).toList,v.oneCell'=true):
  ∃d q,(Builtin.clear_ #[t] C #[.slice m n c]).run P w= .ok (.tuple #[]) d/\q.length=n*k/\Row d g r (splice a b q)/\Keep (· =g) w d:=by
 cases n with
 |zero=>
  refine⟨w,[],?_,by simp,by unfold Row at*;simpa [splice] using h,Keep.refl _ _⟩;cases m<;>simp[Builtin.clear_,fQ p]
 |succ n=>
  obtain rfl:=s (by omega);have f:(Builtin.zeroCells z.cells (n+1)).toList.length=(n+1)*k:=by rw[kN,xu,o]
  obtain⟨d,l,x,B⟩:=pE (P:=P) h (Builtin.zeroCells z.cells (n+1)).toList (by rw[f];exact j) y;refine⟨d,_,?_,f,x,B⟩;simp[Builtin.clear_,fQ p,zeroValue,typeInfo,D,A,l]
def nu {a:Act}(s:Operand)(t:TypeId)(G:o.op= .call {callee:= .builtin .clear,args:=#[s],argTypes:=#[t]})
  (e k j:Nat) (z:Value) (D:P.underlying t=some (.slice e)) (b:(P.info? e).map (fun i=>(i.zero,i.size,i.bytes))=some (some z,k,j)) (x:z.cells.size=k)
  (g f A n c:Nat) (y:Option Addr) (d:List Value) (O:a.eval s= .slice y n c) (J:Row w g A d)
  (B:0<n->y=some ⟨g,f,none⟩) (m:f+n*k<=d.length) (E:∀v∈(Builtin.zeroCells z.cells n).toList,v.oneCell'=true)
  (h:∀l q,q.length=n*k->Row l g A (splice d f q)->Keep (· =g) w l->K (a.put o.dst (.tuple #[])) l):o.wp P a w K Q:=by
 obtain⟨i,N,F,r,H⟩:=ve b;obtain⟨l,q,p,I,C,M⟩:=Gh (P:=P) t o.type e i z k D N F x J B m E (c:=c);unfold Oper.wp execOp;simp only[G,resolve,invoke,builtin,kD,qf,gP,mR,dK,iH,O,p];exact h l q I C M
theorem Ez (w:World)(t E Q e:TypeId)(i:TypeInfo)(z:Value)(k d:Nat)(G:P.underlying t=some (.slice e))(A:P.underlying E=some (.int .i64))(R:P.info? e=some i)(M:i.zero=some z)
  (o:i.size=k) (B:i.bytes=d) (C:z.cells.size=k) (H:0<k) {g n a m:Nat} {b:List Value} (h:Row w g e b) (T:n*k<=b.length) (q:a<n+m) (W:0<m) (r:n+m<=maxLen) (f:(n+m)*d<=140737488355328):
  ∃c x l,(Builtin.append_ #[t,E] Q #[.slice (some ⟨g,0,none⟩) n a,.int .i64 m]).run P w= .ok (.slice (some ⟨w.heap.size,0,none⟩) (n+m) c) x/\Row x w.heap.size e (b.take (n*k)++l)/\(b.take (n*k)++l).length=c*k/\n+m<=c/\c<=maxLen/\
   Keep gB w x:=by
 subst o;subst B;have s:n+m<=9223372036854775807:=by simp only[maxLen] at r;omega
 have v:=Aj w (n+m) a e;have y:grownCap w (n+m) a e<=maxLen:=nR w (n+m) a e r;have D:=si q f;have j:=(h.dx (w:=w.drew) (S:=gB) (k:=i.size) (off:=0) n n (by omega) id (aD _) (by simp only[maxLen] at*;omega)).first (P:=P) n (aD _);rw[dQ,dz,jf] at j;have p:(loadCells ⟨g,0,none⟩ (n*i.size)).run P w.drew= .ok (b.take (n*i.size)).toArray w.drew:=j;have N:IntKind.i64.wrap (m:Int)=m:=by rw[lI];omega
 have J:¬((m:Int)<0):=by omega
 have F:¬(281474976710656<(m:Int)*(i.bytes:Int)):=by
  have:m*i.bytes<=(n+m)*i.bytes:=bZ _ (by omega);rw[<-Int.natCast_mul];omega
 have O:¬(n+m<=a):=by omega
 have I:¬(9223372036854775807<((n:Int)+(m:Int))):=by omega
 have K:¬(281474976710656<Builtin.nextslicecap (n+m) a*i.bytes):=by omega
 have V:¬(m*i.size=0):=Nat.mul_ne_zero (by omega) (by omega);refine⟨grownCap w (n+m) a e,w.drew.alloc (.cells ((b.take (n*i.size)).toArray++Builtin.zeroCells z.cells m++Builtin.zeroCells z.cells (grownCap w (n+m) a e - (n+m))) e),(Builtin.zeroCells z.cells m).toList++(Builtin.zeroCells z.cells (grownCap w (n+m) a e - (n+m))).toList,?_,?_,?_,v,y,(Keep.refl gB w).drew.alloc _⟩
 ·simp[Builtin.append_,fQ G,fQ A,sizeOf,typeInfo,zeroValue,R,M,asInt,asIntOf,N,J,F,O,I,K,V,Question.forced,newRow,grownCap,Builtin.firstCells,p]
 ·unfold Row
  rw[show w.heap.size=w.drew.heap.size from rfl,aV];congr 2;apply Array.ext';simp
 ·simp only[ay,aH,kN,xu,C]
  rw[bK T,<-fq,<-fq];congr 1;omega
def uz {a:Act}(s y:Operand)(t F:TypeId)(O:o.op= .call {callee:= .builtin .append,args:=#[s,y],argTypes:=#[t,F]})
  (e k b:Nat) (z:Value) (G:P.underlying t=some (.slice e)) (A:P.underlying F=some (.int .i64)) (p:(P.info? e).map (fun i=>(i.zero,i.size,i.bytes))=some (some z,k,b)) (E:z.cells.size=k) (B:0<k)
  (g n v m:Nat) (f:List Value) (X:a.eval s= .slice (some ⟨g,0,none⟩) n v) (T:a.eval y= .int .i64 m) (h:Row w g e f) (V:n*k<=f.length) (q:v<n+m) (W:0<m) (C:n+m<=maxLen) (j:(n+m)*b<=140737488355328)
  (I:∀c r d,Row r w.heap.size e (f.take (n*k)++d)->(f.take (n*k)++d).length=c*k->n+m<=c->c<=maxLen->Keep gB w r->K (a.put o.dst (.slice (some ⟨w.heap.size,0,none⟩) (n+m) c)) r):o.wp P a w K Q:=by
 obtain⟨i,S,N,l,D⟩:=ve p;obtain⟨c,r,d,x,H,Y,J,R,M⟩:=Ez (P:=P) w t F o.type e i z k b G A S N l D E B h V q W C j;unfold Oper.wp execOp;simp only[O,resolve,invoke,builtin,kD,qf,gP,mR,dK,iH,X,T,x];exact I c r d H Y J R M
def dV {c:Array Oper}{b:List Oper}{a:Act}(d:o.guard=none)
  (h:∀K:Act->World->Prop,(∀a w,wpList P c Q b a w->K a w)->o.wp P a w K Q):wpList P c Q (o::b) a w:=MB d h
def zV {c:Array Oper}{a:Act}{E:Prop}(b:o.guard=none)(h:o.wp P a w K Q):
  if Region.wanted o (yielded c a.tmps)=true then Oper.wp P o a w K Q else E:=by
 rw[if_pos (by simp[Region.wanted,b])];exact h
end
def iK:(Tryz.prog.info? 103).map (fun i=>(i.zero,i.size,i.bytes))=some (some (.agg #[.string ⟨#[]⟩,.string ⟨#[]⟩]),2,32):=by kernel_rfl
def iq:(Tryz.prog.info? 3).map (fun i=>(i.zero,i.size,i.bytes))=some (some (.int .i64 0),1,8):=by kernel_rfl
def ig:(Tryz.prog.info? 9).map (fun i=>(i.zero,i.size,i.bytes))=some (some (.string ⟨#[]⟩),1,16):=by kernel_rfl
def DY {q:Type}(a e g:List q)(i n b k:Nat)(t:i<n)(v:n<=b)(p:a.length=b*k)(r:a.take (n*k)=e)(o:e.length=n*k)(s:g.length=k):
  (splice a (i*k) (e.drop ((i+1)*k))).length=b*k/\(splice (splice a (i*k) (e.drop ((i+1)*k))) ((n - 1)*k) g).length=b*k/\
  (splice (splice a (i*k) (e.drop ((i+1)*k))) ((n - 1)*k) g).take ((n - 1)*k)=e.take (i*k)++e.drop ((i+1)*k):=by
 obtain⟨d,rfl⟩:∃d,n=i+1+d:=⟨n - (i+1),by omega⟩
 obtain⟨c,rfl⟩:∃c,b=i+1+d+c:=⟨b - (i+1+d),by omega⟩
 have m:i+1+d - 1=i+d:=by omega
 rw[m];simp only[fq,kE] at*;have l:(a.take (i*k)).length=i*k:=by rw[aH];omega
 have j:(e.drop (i*k+k)).length=d*k:=by rw[aO];omega
 have f:(splice a (i*k) (e.drop (i*k+k))).length=i*k+k+d*k+c*k:=by rw[eY _ _ _ (by rw[j];omega)];exact p
 refine⟨f,by rw[eY _ _ _ (by rw[f];omega)];exact f,?_⟩;unfold splice;rw[bI (by rw[aH];simp only[ay,aH,aO];omega),dz,jf,<-aM,bI (by rw[ay,l,j];omega),aJ (by rw[ay,l,j];omega),<-r,dz,bK (by omega)]
theorem JN (g a n i:Nat)(d:List Value)(w:World)(S:Nat->Prop)(B:Nat)(h:aT w S B 103 2 (.slice (some ⟨g,0,none⟩) n a) n d)(o:∀u∈d,u.oneCell'=true)(P:i<n)(hn:n<=1000000):
  Calls Tryz.prog 195 #[.slice (some ⟨g,0,none⟩) n a,.int .i64 i,.int .i64 ((i:Int)+1)] w fun e D=>∃c,e= .returned (.slice (some ⟨g,0,none⟩) (n - 1) c)/\aT D S B 103 2 (.slice (some ⟨g,0,none⟩) (n - 1) c) (n - 1) (d.take (i*2)++d.drop ((i+1)*2))/\Keep (· =g) w D:=by
 obtain⟨b,G,y,A,Q,C,T,m⟩:=h.row;have j:=h.1.1;have R:a<=9223372036854775807:=by simpa [maxLen] using m
 clear h;have W:(0:Int)<=(i:Int):=by omega
 have k2:(i:Int)<=(a:Int):=by omega
 have Z:(0:Int)<=(i:Int)+1:=by omega
 have k4:(i:Int)+1<=(n:Int):=by omega
 have k5:((i:Int)+1).toNat=i+1:=by omega
 have f:Src Tryz.prog 2 52 (.slice (if a=i+1 then some ⟨g,0,none⟩ else some ⟨g,(i+1)*2,none⟩) (n - (i+1)) (a - (i+1))) (n - (i+1)) (d.drop ((i+1)*2)) w.drew:=by
  split
  ·obtain rfl:n=i+1:=by omega
   rw[show a - (i+1)=0 by omega,show i+1 - (i+1)=0 by omega,dY (by omega)];exact Sw _ bL _ 0 0 [] rfl (by simp) (by simp)
  ·have:=(Row.dx (w:=w.drew) (S:=gB) (k:=2) (off:=(i+1)*2) G (n - (i+1)) (a - (i+1)) (by omega) id (by omega) (by unfold maxLen at*;omega)).src bL
   rw[show (b.drop ((i+1)*2)).take ((n - (i+1))*2)=d.drop ((i+1)*2) by rw[<-A,gQ,show (i+1)*2=(i+1)*2 by omega];congr 1;omega] at this;exact this fun u O=>o u (cZ O)
 have hm:i+(n - (i+1))=n - 1:=by omega
 generalize l:(if a=i+1 then some (⟨g,0,none⟩:Addr) else some ⟨g,(i+1)*2,none⟩)=I at f;have v:=ah l;clear l;have k6:¬a=n - 1:=by omega
 have Y:n - (n - 1)=1:=by omega
 have p:(splice b (i*2) (d.drop ((i+1)*2))).length=a*2:=by rw[eY _ _ _ (by rw[aO];omega)];exact y
 have F:=ah y;clear y;have H:=ah A;clear A;have q:=ah j;clear j;have x:=ah p;clear p;go_enter Tryz.func195,Tryz.ntmps195
 go_wp2
 go_region_held3 (fun _=>True) (trivial) (first|(rw[v.out];(refine zV rfl (zk (.tmp 22) (.tmp 25) 52 52 rfl 103 2 32 _ bL iK g i a _ b rfl G (.slice I (n - (i+1)) (a - (i+1))) (n - (i+1)) _ rfl f ?_ ?_ ?_));(focus omega);(focus have:=q.out;have:=F.out;rw[aO];omega);intro X z s))
 go_wp2_with (first|(refine dV rfl ?_;intro K J;(refine nu (.tmp 31) 52 rfl 103 2 32 _ bL iK rfl g ((n - 1)*2) 103 1 _ (some ⟨g,(n - 1)*2,none⟩) _ rfl z (fun _=>rfl) ?_ ?_ ?_);(focus rw[x.out];omega);(focus exact lF _ _ (by simp[Value.cells,Value.oneCell']) (by simp[Value.cells]));intro w2 E N t r;refine J _ _ ?_));go_ret;obtain⟨_,V,M⟩:=DY b d E i n a 2 P T F.out H.out q.out (by rw[N]);refine⟨a,rfl,?_,((Keep.refl (· =g) w).drew.trans s (fun _ _ h=>h)).trans r (fun _ _ h=>h)⟩;rw[<-M];exact Row.own (cur:=splice _ ((n - 1)*2) E) (t) (n - 1) V Q C (by omega) m
theorem L6 (g a n i:Nat)(d:List Value)(w:World)(S:Nat->Prop)(B:Nat)(h:aT w S B 3 1 (.slice (some ⟨g,0,none⟩) n a) n d)(o:∀u∈d,u.oneCell'=true)(P:i<n)(hn:n<=1000000):
  Calls Tryz.prog 187 #[.slice (some ⟨g,0,none⟩) n a,.int .i64 i,.int .i64 ((i:Int)+1)] w fun e D=>∃c,e= .returned (.slice (some ⟨g,0,none⟩) (n - 1) c)/\aT D S B 3 1 (.slice (some ⟨g,0,none⟩) (n - 1) c) (n - 1) (d.take (i*1)++d.drop ((i+1)*1))/\Keep (· =g) w D:=by
 obtain⟨b,G,y,z,Q,C,T,m⟩:=h.row;have j:=h.1.1;have R:a<=9223372036854775807:=by simpa [maxLen] using m
 clear h;have W:(0:Int)<=(i:Int):=by omega
 have k2:(i:Int)<=(a:Int):=by omega
 have Z:(0:Int)<=(i:Int)+1:=by omega
 have k4:(i:Int)+1<=(n:Int):=by omega
 have k5:((i:Int)+1).toNat=i+1:=by omega
 have f:Src Tryz.prog 1 93 (.slice (if a=i+1 then some ⟨g,0,none⟩ else some ⟨g,i+1,none⟩) (n - (i+1)) (a - (i+1))) (n - (i+1)) (d.drop ((i+1)*1)) w.drew:=by
  split
  ·obtain rfl:n=i+1:=by omega
   rw[show a - (i+1)=0 by omega,show i+1 - (i+1)=0 by omega,dY (by omega)];exact Sw _ bE _ 0 0 [] rfl (by simp) (by simp)
  ·have:=(Row.dx (w:=w.drew) (S:=gB) (k:=1) (off:=i+1) G (n - (i+1)) (a - (i+1)) (by omega) id (by omega) (by unfold maxLen at*;omega)).src bE
   rw[show (b.drop (i+1)).take ((n - (i+1))*1)=d.drop ((i+1)*1) by rw[<-z,gQ,show (i+1)*1=i+1 by omega];congr 1;omega] at this;exact this fun u O=>o u (cZ O)
 have hm:i+(n - (i+1))=n - 1:=by omega
 generalize l:(if a=i+1 then some (⟨g,0,none⟩:Addr) else some ⟨g,i+1,none⟩)=I at f;have v:=ah l;clear l;have k6:¬a=n - 1:=by omega
 have Y:n - (n - 1)=1:=by omega
 have p:(splice b (i*1) (d.drop ((i+1)*1))).length=a*1:=by rw[eY _ _ _ (by rw[aO];omega)];exact y
 have F:=ah y;clear y;have H:=ah z;clear z;have q:=ah j;clear j;have x:=ah p;clear p;go_enter Tryz.func187,Tryz.ntmps187
 go_wp2
 go_region_held3 (fun _=>True) (trivial) (first|(rw[v.out];(refine zV rfl (zk (.tmp 22) (.tmp 25) 93 93 rfl 3 1 8 _ bE iq g i a _ b rfl G (.slice I (n - (i+1)) (a - (i+1))) (n - (i+1)) _ rfl f ?_ ?_ ?_));(focus omega);(focus have:=q.out;have:=F.out;rw[aO];omega);intro X A s))
 go_wp2_with (first|(refine dV rfl ?_;intro K J;(refine nu (.tmp 31) 93 rfl 3 1 8 _ bE iq rfl g (n - 1) 3 1 _ (some ⟨g,n - 1,none⟩) _ rfl A (fun _=>rfl) ?_ ?_ ?_);(focus rw[x.out];omega);(focus exact lF _ _ (by simp[Value.cells,Value.oneCell']) (by simp[Value.cells]));intro w2 E N t r;refine J _ _ ?_));go_ret;obtain⟨_,V,M⟩:=DY b d E i n a 1 P T F.out H.out q.out (by rw[N]);refine⟨a,rfl,?_,((Keep.refl (· =g) w).drew.trans s (fun _ _ h=>h)).trans r (fun _ _ h=>h)⟩;rw[<-M];exact Row.own (cur:=splice _ ((n - 1)*1) E) (by simpa only[aW] using t) (n - 1) V Q C (by omega) m
theorem LZ (g a n i:Nat)(d:List Value)(w:World)(S:Nat->Prop)(B:Nat)(h:aT w S B 9 1 (.slice (some ⟨g,0,none⟩) n a) n d)(o:∀u∈d,u.oneCell'=true)(P:i<n)(hn:n<=1000000):
  Calls Tryz.prog 188 #[.slice (some ⟨g,0,none⟩) n a,.int .i64 i,.int .i64 ((i:Int)+1)] w fun e D=>∃c,e= .returned (.slice (some ⟨g,0,none⟩) (n - 1) c)/\aT D S B 9 1 (.slice (some ⟨g,0,none⟩) (n - 1) c) (n - 1) (d.take (i*1)++d.drop ((i+1)*1))/\Keep (· =g) w D:=by
 obtain⟨b,G,y,z,Q,C,T,m⟩:=h.row;have j:=h.1.1;have R:a<=9223372036854775807:=by simpa [maxLen] using m
 clear h;have W:(0:Int)<=(i:Int):=by omega
 have k2:(i:Int)<=(a:Int):=by omega
 have Z:(0:Int)<=(i:Int)+1:=by omega
 have k4:(i:Int)+1<=(n:Int):=by omega
 have k5:((i:Int)+1).toNat=i+1:=by omega
 have f:Src Tryz.prog 1 142 (.slice (if a=i+1 then some ⟨g,0,none⟩ else some ⟨g,i+1,none⟩) (n - (i+1)) (a - (i+1))) (n - (i+1)) (d.drop ((i+1)*1)) w.drew:=by
  split
  ·obtain rfl:n=i+1:=by omega
   rw[show a - (i+1)=0 by omega,show i+1 - (i+1)=0 by omega,dY (by omega)];exact Sw _ bq _ 0 0 [] rfl (by simp) (by simp)
  ·have:=(Row.dx (w:=w.drew) (S:=gB) (k:=1) (off:=i+1) G (n - (i+1)) (a - (i+1)) (by omega) id (by omega) (by unfold maxLen at*;omega)).src bq
   rw[show (b.drop (i+1)).take ((n - (i+1))*1)=d.drop ((i+1)*1) by rw[<-z,gQ,show (i+1)*1=i+1 by omega];congr 1;omega] at this;exact this fun u O=>o u (cZ O)
 have hm:i+(n - (i+1))=n - 1:=by omega
 generalize l:(if a=i+1 then some (⟨g,0,none⟩:Addr) else some ⟨g,i+1,none⟩)=I at f;have v:=ah l;clear l;have k6:¬a=n - 1:=by omega
 have Y:n - (n - 1)=1:=by omega
 have p:(splice b (i*1) (d.drop ((i+1)*1))).length=a*1:=by rw[eY _ _ _ (by rw[aO];omega)];exact y
 have F:=ah y;clear y;have H:=ah z;clear z;have q:=ah j;clear j;have x:=ah p;clear p;go_enter Tryz.func188,Tryz.ntmps188
 go_wp2
 go_region_held3 (fun _=>True) (trivial) (first|(rw[v.out];(refine zV rfl (zk (.tmp 22) (.tmp 25) 142 142 rfl 9 1 16 _ bq ig g i a _ b rfl G (.slice I (n - (i+1)) (a - (i+1))) (n - (i+1)) _ rfl f ?_ ?_ ?_));(focus omega);(focus have:=q.out;have:=F.out;rw[aO];omega);intro X A s))
 go_wp2_with (first|(refine dV rfl ?_;intro K J;(refine nu (.tmp 31) 142 rfl 9 1 16 _ bq ig rfl g (n - 1) 9 1 _ (some ⟨g,n - 1,none⟩) _ rfl A (fun _=>rfl) ?_ ?_ ?_);(focus rw[x.out];omega);(focus exact lF _ _ (by simp[Value.cells,Value.oneCell']) (by simp[Value.cells]));intro w2 E N t r;refine J _ _ ?_));go_ret;obtain⟨_,V,M⟩:=DY b d E i n a 1 P T F.out H.out q.out (by rw[N]);refine⟨a,rfl,?_,((Keep.refl (· =g) w).drew.trans s (fun _ _ h=>h)).trans r (fun _ _ h=>h)⟩;rw[<-M];exact Row.own (cur:=splice _ ((n - 1)*1) E) (by simpa only[aW] using t) (n - 1) V Q C (by omega) m
def L (nd:Nd)(k:Nat):List UInt8:=[b8 nd.pairs.length,b8 nd.kids.length]++qa (nd.pairs.take k)
def Vq (a:Nd)(k:Nat):(L a k).length<=2+eG a.pairs:=by
 have:=kR a.pairs k;simp only[L,ay,yC,bn,bV];omega
def Bd (n:Nat):((b8 n).toNat:Int)=(n:Int)%256:=by simp[b8]
def Vp (a:Nd):(L a 0).length=2:=rfl
def Hq (a:Nd):aI (L a 0)=[.int .u8 ((a.pairs.length:Int)%256),.int .u8 ((a.kids.length:Int)%256)]:=by
 simp[L,qa,aI,Bd]
def R6 {a:Nd}(h:k<a.pairs.length):L a (k+1)=L a k++DX a.pairs[k]:=by
 simp only[L,qa,pq DX a.pairs k h,aM]
def Ut {a:Nd}(h:k<a.pairs.length):(L a (k+1)).length=(L a k).length+2+a.pairs[k].1.size+a.pairs[k].2.size:=by
 rw[R6 h,ay,Aa];omega
def Ua {a:Nd}(h:k<a.pairs.length):aI (L a (k+1))=aI (L a k)++[.int .u8 ((a.pairs[k].1.size:Int)%256),.int .u8 ((a.pairs[k].2.size:Int)%256)]++byteCells a.pairs[k].1++byteCells a.pairs[k].2:=by
 rw[R6 h,iZ];simp only[DX,iZ,Ad,aM];simp[aI,Bd]
def L2 (nd:Nd)(k:Nat):List UInt8:=L nd nd.pairs.length++kW (nd.kids.take k)
def NA (a:Nd):L2 a 0=L a a.pairs.length:=by simp[L2,kW]
def Sb (a:Nd)(k:Nat):(L2 a k).length<=2+eG a.pairs+2*a.kids.length:=by
 have:=Vq a a.pairs.length;simp only[L2,ay,wJ,aH];omega
def NC {a:Nd}(h:k<a.kids.length):L2 a (k+1)=L2 a k++AZ a.kids[k]:=by
 simp only[L2,kW,pq AZ a.kids k h,aM]
def R9 {a:Nd}(h:k<a.kids.length):(L2 a (k+1)).length=(L2 a k).length+2:=by
 rw[NC h,ay];rfl
def Sc {a:Nd}(h:k<a.kids.length)(b:0<=a.kids[k])(c:a.kids[k]<65536):aI (L2 a (k+1))=aI (L2 a k)++[.int .u8 (a.kids[k]%256),.int .u8 (a.kids[k]/256)]:=by
 rw[NC h,iZ];congr 1;generalize a.kids[k]=x at*;obtain⟨n,rfl⟩:=Int.eq_ofNat_of_zero_le b;simp only[AZ,aI,dK,iH,Bd,fE];congr 2;congr 1;omega
def L3 (nd:Nd)(k:Nat):List UInt8:=L2 nd nd.kids.length++jL (nd.keys.take k)
def Ny (a:Nd):L3 a 0=L2 a a.kids.length:=by simp[L3,jL]
def Vr (a:Nd):L3 a a.keys.length=a.enc:=by simp only[L3,L2,L,bS];rfl
def Wz (a:Nd)(k:Nat):(L3 a k).length<=2+eG a.pairs+2*a.kids.length+eP a.keys:=by
 have:=Sb a a.kids.length;have:=qH a.keys k;simp only[L3,ay,wK];omega
def Nz {a:Nd}(h:k<a.keys.length):L3 a (k+1)=L3 a k++yV a.keys[k]:=by
 simp only[L3,jL,pq yV a.keys k h,aM]
def R7 {a:Nd}(h:k<a.keys.length):(L3 a (k+1)).length=(L3 a k).length+1+a.keys[k].size:=by
 rw[Nz h,ay,yV,bn,jy];omega
def R8 {a:Nd}(h:k<a.keys.length):aI (L3 a (k+1))=aI (L3 a k)++[.int .u8 ((a.keys[k].size:Int)%256)]++byteCells a.keys[k]:=by
 rw[Nz h,iZ,Ad,yV];simp[aI,Bd]
def kJ:(Tryz.prog.info? 5).map (fun i=>(i.zero,i.size,i.bytes))=some (some (.int .u8 0),1,1):=by kernel_rfl
theorem LQ (b:Nat)(d:Nd)(w:World)(S:Nat->Prop)(hS:∀g,S g->g<w.heap.size)(h:gN w S b d)(hs:d.size<=1000000)(p9:∀k∈d.kids,0<=k/\k<65536):
  Calls Tryz.prog 202 #[.pointer (some ⟨b,0,none⟩)] w fun e w'=>∃v,e= .returned v/\aT w' S w.heap.size 5 1 v d.enc.length (aI d.enc)/\Below w.heap.size w w':=by
 obtain⟨_,v0,v1,v2,hb,h0,h1,h2⟩:=h;obtain⟨c0,C,c2,_,_,_,A⟩:=cells3 hb;obtain⟨bB,bC,rfl,n0,m0,_,_⟩:=aZ.form h0;obtain⟨o,bH,rfl,n1,m1,_,_⟩:=aZ.form h1;obtain⟨qb,bA,rfl,n2,m2,_,_⟩:=aZ.form h2;unfold Nd.size at hs;have l0:=p8 d.pairs;have l1:=pK d.keys;go_enter Tryz.func202,Tryz.ntmps202
 go_wp2
 go_still_tail 12,(by kernel_rfl)
 change wpList _ _ _ _ _ w.drew
 go_wp2
 simp only[NH];go_loopw [3,28] (fun v i wr=>∃(k:Nat) (s:Option Addr) (c:Nat),k<=d.pairs.length/\i= .int .i64 k/\v= .slice s (L d k).length c/\aT wr S w.heap.size 5 1 v (L d k).length (aI (L d k))/\Below w.heap.size w wr) (fun _ i _=>d.pairs.length - (intOf i).toNat)
 case atStart=>
  have hn:=mX (w:=w) (S:=S) (B:=w.heap.size) (e:=5) (k:=1) [.int .u8 ((d.pairs.length:Int)%256),.int .u8 ((d.kids.length:Int)%256)] 2 2 rfl rfl (aD _) (by simp[maxLen]) (aD _) hS;exact⟨0,_,_,aS _,rfl,rfl,by rw[Vp,Hq];exact hn.drew,((aR _ _).alloc (aD _) _).drew⟩
 case round=>
  obtain⟨k,s,c,hk,rfl,rfl,j,a⟩:=hrel
  by_cases f:k<d.pairs.length
  ·obtain⟨M,N,rfl,m,H⟩:=h0.at rfl k f
   have d1:=(a.cell (p:=⟨M,N+k*2,none⟩) (aF w _ m)).trans m;have d2:=(a.cell (p:=⟨M,N+k*2+1,none⟩) (aF w _ H)).trans H;have r:∀g,S g->g<wr.heap.size:=fun g V=>ax (hS g V) a.size
   have x:=a.size;have hL:=Vq d k;have K:=qx d.pairs k f;have I:=kR d.pairs (k+1);have hz:d.pairs[k].1.size+d.pairs[k].2.size<=eG d.pairs:=(by omega);clear K I;clear m H;go_wp2_with (at_builtin;go_must ((refine cO rfl (.tmp 32) (.tmp 41) 70 70 rfl S w.heap.size 5 1 1 (.int .u8 0) bG kJ rfl (.slice s (L d k).length c) _ _ rfl (j.below (gK _ _ _)) _ 2 _ rfl (gq [_,_] _ 1 2 2 (by simp) bG rfl ?_) (fe (fe r _) _) ?_ ?_ ?_ ?_);(focus simp[Value.oneCell']);(focus simp only[aU];omega);(focus unfold maxLen;omega);(focus omega);intro o C E l z n J));have q1:E.cell? ⟨wr.heap.size,0,none⟩=some (.string d.pairs[k].1):=(z.cell (p:=⟨wr.heap.size,0,none⟩) (by simp;omega) j.lt).trans (by simp[yF]);have q2:E.cell? ⟨wr.heap.size,1,none⟩=some (.string d.pairs[k].2):=(z.cell (p:=⟨wr.heap.size,1,none⟩) (by simp;omega) j.lt).trans (by simp[yF]);have n1:(Value.slice o ((L d k).length+2) C).ownBlock≠some wr.heap.size:=J _ (by simp;omega) j.lt;have y:wr.heap.size<E.heap.size:=(by have:=z.size;simp at this;omega);have Y:w.heap.size<=E.heap.size:=(by omega);have qc:=AA (fe (fe r _) _) n
   go_region_held3 (fun w'=>w'.cell? ⟨wr.heap.size,0,none⟩=some (.string d.pairs[k].1)/\w'.cell? ⟨wr.heap.size,1,none⟩=some (.string d.pairs[k].2))
    (first|exact⟨q1,q2⟩|exact⟨R,ql⟩|exact⟨W,P⟩)
    (first|((refine Iq rfl (.tmp 43) (.tmp 45) 70 9 rfl S w.heap.size 5 1 1 (.int .u8 0) bG kJ rfl (.slice o ((L d k).length+2) C) _ _ rfl l.drew (.string d.pairs[k].1) _ _ rfl (Src.ofString _ gW _) qc ?_ ?_ ?_ ?_);(focus exact Y);(focus unfold maxLen;omega);(focus omega);(intro Q G w2 q t D X);(have R:=(t.cell (p:=⟨wr.heap.size,0,none⟩) y n1).trans q1);(have ql:=(t.cell (p:=⟨wr.heap.size,1,none⟩) y n1).trans q2);(have T:=X _ y n1))|((refine Iq rfl (.tmp 46) (.tmp 48) 70 9 rfl S w.heap.size 5 1 1 (.int .u8 0) bG kJ rfl (.slice Q ((L d k).length+2+d.pairs[k].1.size) G) _ _ rfl q (.string d.pairs[k].2) _ _ rfl (Src.ofString _ gW _) (AA (w:=E.drew) qc D) ?_ ?_ ?_ ?_);(focus exact aK Y t.size);(focus unfold maxLen;omega);(focus omega);(intro qo c3 w3 F Z q9 aB);(have W:=(Z.cell (p:=⟨wr.heap.size,0,none⟩) (ax y t.size) T).trans R);(have P:=(Z.cell (p:=⟨wr.heap.size,1,none⟩) (ax y t.size) T).trans ql)))
   go_wp2
   go_roundw
   case rel=>exact⟨k+1,qo,c3,by omega,by go_num,by rw[Ut f],by rw[Ut f,Ua f];exact F,((a.trans (gK wr _ _|>.mono x)).trans n).trans (Below.trans (b:=E.drew) (aR _ _).drew (D.trans q9))⟩
   case measure=>simp[intOf];omega
  ·obtain rfl:k=d.pairs.length:=by omega
   have af:=(a.cell (p:=⟨b,1,none⟩) A).trans C;have G:=(a.cell (p:=⟨b,2,none⟩) A).trans c2;have aA:b<wr.heap.size:=ax A a.size;have hL:=Vq d d.pairs.length;clear f h0 hk hb c0 c2;obtain⟨wo,rfl⟩:∃wo:World,wo=wr:=⟨_,rfl⟩
   go_wp2
   go_loopw [3,56] (fun v i wr=>∃(k:Nat) (s:Option Addr) (c:Nat),k<=d.kids.length/\i= .int .i64 k/\v= .slice s (L2 d k).length c/\aT wr S w.heap.size 5 1 v (L2 d k).length (aI (L2 d k))/\Below w.heap.size w wr) (fun _ i _=>d.kids.length - (intOf i).toNat)
   case atStart=>exact⟨0,s,c,aS _,rfl,by rw[NA],by rw[NA];exact j,a⟩
   case round=>
    obtain⟨k,s,c,hk,rfl,rfl,j,a⟩:=hrel
    by_cases f:k<d.kids.length
    ·obtain⟨M,N,rfl,m⟩:=h2.at rfl k f
     have d1:=(a.cell (p:=⟨M,N+k,none⟩) (aF w _ m)).trans m;have r:∀g,S g->g<wr.heap.size:=fun g V=>ax (hS g V) a.size
     have x:=a.size;have hL:=Sb d k;obtain⟨q8,pM⟩:=p9 d.kids[k] (bF f);go_wp2_with (at_builtin;go_must ((refine cO rfl (.tmp 60) (.tmp 66) 70 70 rfl S w.heap.size 5 1 1 (.int .u8 0) bG kJ rfl (.slice s (L2 d k).length c) _ _ rfl (j.below (aN _ _)) _ 2 _ rfl (gq [_,_] _ 1 2 2 (by simp) bG rfl ?_) (fe r _) ?_ ?_ ?_ ?_);(focus simp[Value.oneCell']);(focus simp only[aU];omega);(focus unfold maxLen;omega);(focus omega);intro o C E l z n J));go_roundw
     case rel=>exact⟨k+1,o,C,by omega,by go_num,by rw[R9 f],by rw[R9 f,Sc f q8 pM];exact l,(a.trans (aN wr _|>.mono x)).trans n⟩
     case measure=>simp[intOf];omega
    ·obtain rfl:k=d.kids.length:=by omega
     have av:=(a.cell (p:=⟨b,1,none⟩) A).trans C;have hL:=Sb d d.kids.length;clear f h2 hk af G;obtain⟨O,rfl⟩:∃O:World,O=wr:=⟨_,rfl⟩
     go_wp2
     go_loopw [3,74] (fun v i wr=>∃(k:Nat) (s:Option Addr) (c:Nat),k<=d.keys.length/\i= .int .i64 k/\v= .slice s (L3 d k).length c/\aT wr S w.heap.size 5 1 v (L3 d k).length (aI (L3 d k))/\Below w.heap.size w wr) (fun _ i _=>d.keys.length - (intOf i).toNat)
     case atStart=>exact⟨0,s,c,aS _,rfl,by rw[Ny],by rw[Ny];exact j,a⟩
     case round=>
      obtain⟨k,s,c,hk,rfl,rfl,j,a⟩:=hrel
      by_cases f:k<d.keys.length
      ·obtain⟨M,N,rfl,m⟩:=h1.at rfl k f
       have d1:=(a.cell (p:=⟨M,N+k,none⟩) (aF w _ m)).trans m;have r:∀g,S g->g<wr.heap.size:=fun g V=>ax (hS g V) a.size
       have x:=a.size;have hL:=Wz d k;have K:=uN d.keys k f;have I:=qH d.keys (k+1);have hz:d.keys[k].size<=eP d.keys:=(by omega);clear K I;go_wp2_with (first|(at_builtin;(refine cO rfl (.tmp 78) (.tmp 82) 70 70 rfl S w.heap.size 5 1 1 (.int .u8 0) bG kJ rfl (.slice s (L3 d k).length c) _ _ rfl (j.below (aN _ _)) _ 1 _ rfl (gq [_] _ 1 1 1 (by simp) bG rfl ?_) (fe r _) ?_ ?_ ?_ ?_);(focus simp[Value.oneCell']);(focus simp only[aU];omega);(focus unfold maxLen;omega);(focus omega);intro o C E l z n J)|(at_builtin;(refine cO rfl (.tmp 83) (.tmp 84) 70 9 rfl S w.heap.size 5 1 1 (.int .u8 0) bG kJ rfl (.slice o ((L3 d k).length+1) C) _ _ rfl l (.string d.keys[k]) _ _ rfl (Src.ofString _ gW _) (AA (fe r _) n) ?_ ?_ ?_ ?_);(focus have:=n.size;simp only[aU] at this;omega);(focus unfold maxLen;omega);(focus omega);intro qb c2 w2 q t D X))
       go_roundw
       case rel=>exact⟨k+1,qb,c2,by omega,by go_num,by rw[R7 f],by rw[R7 f,R8 f];exact q,((a.trans (aN wr _|>.mono x)).trans n).trans D⟩
       case measure=>simp[intOf];omega
      ·obtain rfl:k=d.keys.length:=by omega
       go_wp2
       go_ret;exact⟨_,rfl,by rw[<-Vr];exact j,a⟩
