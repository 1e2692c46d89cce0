/- parts -/
import Derived.Test.YtpmbddooibgnaaaGreatDoorS13
import Derived.Lib.BitFns
import Derived.Laws.BitsAllLaws
set_option maxRecDepth 100000
set_option maxHeartbeats 8000000
set_option linter.all false
namespace Go.Proofs.YtpmbddooibgnaaaGreatDoor
open Go.RowKit
def fe (b0 b1 b2 b3 b4 b5 b6 b7:Bool):Nat:=b0.toNat+2*b1.toNat+4*b2.toNat+8*b3.toNat+16*b4.toNat+32*b5.toNat+64*b6.toNat+128*b7.toNat
theorem MU (b0 b1 b2 b3 b4 b5 b6 b7:Bool):fe b0 b1 b2 b3 b4 b5 b6 b7<256:=by
 unfold fe
 have:=b0.toNat_le;have:=b1.toNat_le;have:=b2.toNat_le;have:=b3.toNat_le;have:=b4.toNat_le;have:=b5.toNat_le;have:=b6.toNat_le;have:=b7.toNat_le
 omega
def dP (f:Nat->Bool)(i:Nat):Nat:=fe (f (8*i)) (f (8*i+1)) (f (8*i+2)) (f (8*i+3)) (f (8*i+4)) (f (8*i+5)) (f (8*i+6)) (f (8*i+7))
theorem rQ (f:Nat->Bool)(i:Nat):dP f i<256:=MU _ _ _ _ _ _ _ _
def bytesOf (f:Nat->Bool):List UInt8:=(List.range 512).map fun i=>UInt8.ofNat (dP f i)
theorem bytesOf_length (f:Nat->Bool):(bytesOf f).length=512:=by simp[bytesOf]
theorem zN (f:Nat->Bool)(i:Nat)(hi:i<512):(bytesOf f)[i]? =some (UInt8.ofNat (dP f i)):=by
 simp[bytesOf,hi]
theorem zf (f:Nat->Bool)(i:Nat):(UInt8.ofNat (dP f i)).toNat=dP f i:=by
 rw[dD,lS (rQ f i)]
def Kk (b0 b1 b2 b3 b4 b5 b6 b7:Bool)(j:Nat):Bool:=match j with|0=>b0|1=>b1|2=>b2|3=>b3|4=>b4|5=>b5|6=>b6|_=>b7
theorem Ti (f:Nat->Bool)(b:Nat):Kk (f (8*(b/8))) (f (8*(b/8)+1)) (f (8*(b/8)+2)) (f (8*(b/8)+3)) (f (8*(b/8)+4)) (f (8*(b/8)+5)) (f (8*(b/8)+6)) (f (8*(b/8)+7)) (b%8)=f b:=by
 have h:=nL b (show 8>0 by decide)
 have e:b=8*(b/8)+b%8:=by omega
 generalize b%8=j at*
 generalize b/8=i at*
 subst e
 match j,h with
 |0,_=>rfl
 |1,_=>rfl
 |2,_=>rfl
 |3,_=>rfl
 |4,_=>rfl
 |5,_=>rfl
 |6,_=>rfl
 |7,_=>rfl
theorem O1:∀(b0 b1 b2 b3 b4 b5 b6 b7:Bool) (j:Fin 8),fe b0 b1 b2 b3 b4 b5 b6 b7/2^j.val%2=(Kk b0 b1 b2 b3 b4 b5 b6 b7 j.val).toNat:=by decide+kernel
theorem Ke (f:Nat->Bool)(b:Nat):dP f (b/8)/2^(b%8)%2=(f b).toNat:=by
 have h:=nL b (show 8>0 by decide)
 have:=O1 (f (8*(b/8))) (f (8*(b/8)+1)) (f (8*(b/8)+2)) (f (8*(b/8)+3)) (f (8*(b/8)+4)) (f (8*(b/8)+5)) (f (8*(b/8)+6)) (f (8*(b/8)+7)) ⟨b%8,h⟩
 rw[Ti] at this
 exact this
def fD (f:Nat->Bool)(b:Nat)(v:Bool):Nat->Bool:=fun x=>if x=b then v else f x
theorem O0:∀(b0 b1 b2 b3 b4 b5 b6 b7:Bool),bits .or .u8 (fe b0 b1 b2 b3 b4 b5 b6 b7:Nat) 1=(fe true b1 b2 b3 b4 b5 b6 b7:Nat)/\bits .or .u8 (fe b0 b1 b2 b3 b4 b5 b6 b7:Nat) 2=(fe b0 true b2 b3 b4 b5 b6 b7:Nat)/\bits .or .u8 (fe b0 b1 b2 b3 b4 b5 b6 b7:Nat) 4=(fe b0 b1 true b3 b4 b5 b6 b7:Nat)/\bits .or .u8 (fe b0 b1 b2 b3 b4 b5 b6 b7:Nat) 8=(fe b0 b1 b2 true b4 b5 b6 b7:Nat)/\
  bits .or .u8 (fe b0 b1 b2 b3 b4 b5 b6 b7:Nat) 16=(fe b0 b1 b2 b3 true b5 b6 b7:Nat)/\bits .or .u8 (fe b0 b1 b2 b3 b4 b5 b6 b7:Nat) 32=(fe b0 b1 b2 b3 b4 true b6 b7:Nat)/\bits .or .u8 (fe b0 b1 b2 b3 b4 b5 b6 b7:Nat) 64=(fe b0 b1 b2 b3 b4 b5 true b7:Nat)/\bits .or .u8 (fe b0 b1 b2 b3 b4 b5 b6 b7:Nat) 128=(fe b0 b1 b2 b3 b4 b5 b6 true:Nat):=by decide+kernel
theorem O3:∀(b0 b1 b2 b3 b4 b5 b6 b7:Bool),bits .andNot .u8 (fe b0 b1 b2 b3 b4 b5 b6 b7:Nat) 1=(fe false b1 b2 b3 b4 b5 b6 b7:Nat)/\bits .andNot .u8 (fe b0 b1 b2 b3 b4 b5 b6 b7:Nat) 2=(fe b0 false b2 b3 b4 b5 b6 b7:Nat)/\bits .andNot .u8 (fe b0 b1 b2 b3 b4 b5 b6 b7:Nat) 4=(fe b0 b1 false b3 b4 b5 b6 b7:Nat)/\bits .andNot .u8 (fe b0 b1 b2 b3 b4 b5 b6 b7:Nat) 8=(fe b0 b1 b2 false b4 b5 b6 b7:Nat)/\
  bits .andNot .u8 (fe b0 b1 b2 b3 b4 b5 b6 b7:Nat) 16=(fe b0 b1 b2 b3 false b5 b6 b7:Nat)/\bits .andNot .u8 (fe b0 b1 b2 b3 b4 b5 b6 b7:Nat) 32=(fe b0 b1 b2 b3 b4 false b6 b7:Nat)/\bits .andNot .u8 (fe b0 b1 b2 b3 b4 b5 b6 b7:Nat) 64=(fe b0 b1 b2 b3 b4 b5 false b7:Nat)/\bits .andNot .u8 (fe b0 b1 b2 b3 b4 b5 b6 b7:Nat) 128=(fe b0 b1 b2 b3 b4 b5 b6 false:Nat):=by decide+kernel
theorem yc (f:Nat->Bool)(b i:Nat)(v:Bool)(h:i≠b/8):dP (fD f b v) i=dP f i:=by
 unfold dP fD
 congr 1<;>(rw[if_neg (by omega)])
theorem Kc (f:Nat->Bool)(b:Nat):bits .or .u8 (dP f (b/8):Nat) ((2^(b%8):Nat):Int)=(dP (fD f b true) (b/8):Nat):=by
 have h:=nL b (show 8>0 by decide)
 have e:b=8*(b/8)+b%8:=by omega
 generalize hj:b%8=j at*
 generalize hi:b/8=i at*
 subst e
 have q:=O0 (f (8*i)) (f (8*i+1)) (f (8*i+2)) (f (8*i+3)) (f (8*i+4)) (f (8*i+5)) (f (8*i+6)) (f (8*i+7))
 unfold dP fD
 match j,h with
 |0,_=>simpa using q.1
 |1,_=>simpa using q.2.1
 |2,_=>simpa using q.2.2.1
 |3,_=>simpa using q.2.2.2.1
 |4,_=>simpa using q.2.2.2.2.1
 |5,_=>simpa using q.2.2.2.2.2.1
 |6,_=>simpa using q.2.2.2.2.2.2.1
 |7,_=>simpa using q.2.2.2.2.2.2.2
theorem Kg (f:Nat->Bool)(b:Nat):bits .andNot .u8 (dP f (b/8):Nat) ((2^(b%8):Nat):Int)=(dP (fD f b false) (b/8):Nat):=by
 have h:=nL b (show 8>0 by decide)
 have e:b=8*(b/8)+b%8:=by omega
 generalize hj:b%8=j at*
 generalize hi:b/8=i at*
 subst e
 have q:=O3 (f (8*i)) (f (8*i+1)) (f (8*i+2)) (f (8*i+3)) (f (8*i+4)) (f (8*i+5)) (f (8*i+6)) (f (8*i+7))
 unfold dP fD
 match j,h with
 |0,_=>simpa using q.1
 |1,_=>simpa using q.2.1
 |2,_=>simpa using q.2.2.1
 |3,_=>simpa using q.2.2.2.1
 |4,_=>simpa using q.2.2.2.2.1
 |5,_=>simpa using q.2.2.2.2.2.1
 |6,_=>simpa using q.2.2.2.2.2.2.1
 |7,_=>simpa using q.2.2.2.2.2.2.2
theorem ES (f:Nat->Bool)(b:Nat)(v:Bool)(hb:b<4096):(bytesOf f).set (b/8) (UInt8.ofNat (dP (fD f b v) (b/8)))=bytesOf (fD f b v):=by
 apply List.ext_getElem?
 intro i
 rw[List.getElem?_set]
 by_cases h:b/8=i
 ·subst h
  rw[if_pos rfl,if_pos (by rw[bytesOf_length];omega),zN _ _ (by omega)]
 ·rw[if_neg h]
  unfold bytesOf
  rw[dH,dH]
  rcases jv i 512 with hi|hi
  ·rw[KC hi]
   simp only[kN]
   rw[yc f b i v (fun e=>h e.symm)]
  ·simp[hi]
def countB (f:Nat->Bool)(n:Nat):Nat:=((List.range n).filter f).length
theorem dN (f:Nat->Bool)(n:Nat):countB f (n+1)=countB f n+(f n).toNat:=by
 unfold countB
 rw[List.range_succ,List.filter_append,ay]
 cases h:f n<;>simp[h]
theorem LC:∀(b0 b1 b2 b3 b4 b5 b6 b7:Bool),fe b0 b1 b2 b3 b4 b5 b6 b7≠255->Lib.trailingZeros8 (255 - fe b0 b1 b2 b3 b4 b5 b6 b7)<8/\Kk b0 b1 b2 b3 b4 b5 b6 b7 (Lib.trailingZeros8 (255 - fe b0 b1 b2 b3 b4 b5 b6 b7))=false/\∀j:Fin 8,j.val<Lib.trailingZeros8 (255 - fe b0 b1 b2 b3 b4 b5 b6 b7)->Kk b0 b1 b2 b3 b4 b5 b6 b7 j.val=true:=by decide+kernel
theorem JZ:∀(b0 b1 b2 b3 b4 b5 b6 b7:Bool),fe b0 b1 b2 b3 b4 b5 b6 b7=255->∀j:Fin 8,Kk b0 b1 b2 b3 b4 b5 b6 b7 j.val=true:=by decide+kernel
theorem MW (f:Nat->Bool)(i j:Nat)(hj:j<8):Kk (f (8*i)) (f (8*i+1)) (f (8*i+2)) (f (8*i+3)) (f (8*i+4)) (f (8*i+5)) (f (8*i+6)) (f (8*i+7)) j=f (8*i+j):=by
 have:=Ti f (8*i+j)
 rwa [show (8*i+j)/8=i by omega,show (8*i+j)%8=j by omega] at this
theorem ET (f:Nat->Bool)(i:Nat)(h:dP f i≠255):Lib.trailingZeros8 (255 - dP f i)<8/\f (8*i+Lib.trailingZeros8 (255 - dP f i))=false/\∀j,j<Lib.trailingZeros8 (255 - dP f i)->f (8*i+j)=true:=by
 obtain⟨h1,h2,h3⟩:=LC _ _ _ _ _ _ _ _ h
 refine⟨h1,?_,fun j hj=> ?_⟩
 ·have:=MW f i _ h1
  exact this.symm.trans h2
 ·have hj8:j<8:=Nat.lt_trans hj h1
  exact(MW f i j hj8).symm.trans (h3 ⟨j,hj8⟩ hj)
theorem GL (f:Nat->Bool)(i:Nat)(h:dP f i=255)(j:Nat)(hj:j<8):f (8*i+j)=true:=
 (MW f i j hj).symm.trans (JZ _ _ _ _ _ _ _ _ h ⟨j,hj⟩)
theorem Rx (b c:Bool)(n m:Nat):(b.toNat+2*n)|||(c.toNat+2*m)=(b||c).toNat+2*(n|||m):=by
 have h:∀(x:Bool) (k:Nat),(x.toNat+2*k)/2=k/\(x.toNat+2*k)%2=x.toNat:=by
  intro x k
  have:=x.toNat_le
  omega
 apply Nat.eq_of_testBit_eq
 intro i
 rw[Nat.testBit_or]
 cases i with
 |zero=>
  simp only[Nat.testBit_zero,(h _ _).2]
  cases b<;>cases c<;>rfl
 |succ i=>simp only[Nat.testBit_succ,(h _ _).1,Nat.testBit_or]
theorem ul (x0 x1 x2 x3 x4 x5 x6 x7:Bool):fe x0 x1 x2 x3 x4 x5 x6 x7=x0.toNat+2*(x1.toNat+2*(x2.toNat+2*(x3.toNat+2*(x4.toNat+2*(x5.toNat+2*(x6.toNat+2*x7.toNat)))))):=by
 unfold fe;omega
theorem MS (a0 a1 a2 a3 a4 a5 a6 a7 b0 b1 b2 b3 b4 b5 b6 b7:Bool):fe a0 a1 a2 a3 a4 a5 a6 a7|||fe b0 b1 b2 b3 b4 b5 b6 b7=fe (a0||b0) (a1||b1) (a2||b2) (a3||b3) (a4||b4) (a5||b5) (a6||b6) (a7||b7):=by
 rw[ul,ul,ul]
 simp only[Rx]
 cases a7<;>cases b7<;>rfl
theorem MR (f g:Nat->Bool)(i:Nat):dP f i|||dP g i=dP (fun x=>f x||g x) i:=MS _ _ _ _ _ _ _ _ _ _ _ _ _ _ _ _
theorem Oe (x:Int)(w:World)(h0:0<=x)(h1:x<=255):
  Calls Tryz.prog 622 #[.int .u8 x] w fun e w'=>e= .returned (.int .i64 (Lib.trailingZeros8 x.toNat))/\w'=w:=by
 have hq:wrap64 (Lib.ntz8 x)=(Lib.trailingZeros8 x.toNat:Int):=by
  have e:=Lib.ntz8_int x h0 h1
  generalize Lib.ntz8 x=y at e ⊢
  unfold wrap64
  exact e
 go_enter Tryz.func622,Tryz.ntmps622
 go_wp2
 rw[hq]
 go_ret
 exact⟨rfl,rfl⟩
theorem has_eq (f:Nat->Bool)(b:Nat):(bits .and .u8 (((dP f (b/8):Nat):Int)/2^(b%8)) 1==1)=f b:=by
 have h:=Ke f b
 have hl:=rQ f (b/8)
 have e:(((dP f (b/8):Nat):Int)/2^(b%8))=((dP f (b/8)/2^(b%8):Nat):Int):=by
  rw[Int.natCast_ediv,Int.natCast_pow];rfl
 have hl2:dP f (b/8)/2^(b%8)<256:=Nat.lt_of_le_of_lt (Nat.div_le_self _ _) hl
 rw[e]
 have:=u8_and_nat (dP f (b/8)/2^(b%8)) 1 hl2 (by omega)
 rw[show ((1:Nat):Int)=1 from rfl] at this
 rw[this,Nat.and_one_is_mod,h]
 cases f b<;>rfl
theorem Tj (mp off:Nat)(f:Nat->Bool)(b:Nat)(w:World)(hb:b<4096)(hc:w.cell? ⟨mp,off+b/8,none⟩=some (.int .u8 (dP f (b/8)))):
  Calls Tryz.prog 147 #[.pointer (some ⟨mp,off,none⟩),.int .i64 b] w fun e w'=>e= .returned (.bool (f b))/\w'=w:=by
 have hlt:=aD w _ hc
 have hlt':mp<w.heap.size:=hlt
 have HQ:=af (has_eq f b)
 go_enter Tryz.func147,Tryz.ntmps147
 go_wp2
 rw[HQ.out]
 go_ret
 exact⟨rfl,rfl⟩
theorem Ib (j:Nat)(hj:j<8):IntKind.u8.wrap ((1:Int)*2^j)=((2^j:Nat):Int):=by
 match j,hj with
 |0,_=>rfl
 |1,_=>rfl
 |2,_=>rfl
 |3,_=>rfl
 |4,_=>rfl
 |5,_=>rfl
 |6,_=>rfl
 |7,_=>rfl
theorem Uf (mp off:Nat)(f:Nat->Bool)(b:Nat)(w:World)(hb:b<4096)(hc:w.cell? ⟨mp,off+b/8,none⟩=some (.int .u8 (dP f (b/8))))(hfz:w.frozen? ⟨mp,off+b/8,none⟩=false):
  Calls Tryz.prog 623 #[.pointer (some ⟨mp,off,none⟩),.int .i64 b] w fun e w'=>e= .returned (.tuple #[])/\w'=w.drew.setCell ⟨mp,off+b/8,none⟩ (.int .u8 (dP (fD f b true) (b/8))):=by
 have hlt:=aD w _ hc
 have hlt':mp<w.drew.heap.size:=hlt
 have hp:=Kc f b
 obtain⟨n1,hn1⟩:∃n,Hid (dP (fD f b true) (b/8)=n):=⟨_,af rfl⟩
 rw[hn1.out] at hp ⊢
 obtain⟨n0,hn0⟩:∃n,Hid (dP f (b/8)=n):=⟨_,af rfl⟩
 rw[hn0.out] at hp hc
 have q1:IntKind.i64.wrap ((b:Int)/8)=((b/8:Nat):Int):=by rw[aS _ (by omega)];omega
 have q2:Int.tmod (b:Int) 8=((b%8:Nat):Int):=by rw[xV (by omega)];omega
 have hj8:b%8<8:=by omega
 have q3:=Ib (b%8) hj8
 have hi5:b/8<512:=by omega
 generalize b%8=j at*
 generalize b/8=i at*
 have hi6:(i:Int)<512:=by omega
 have hc':w.drew.cell? ⟨mp,off+i,none⟩=some (.int .u8 n0):=hc
 have hf':w.drew.frozen? ⟨mp,off+i,none⟩=false:=hfz
 go_enter Tryz.func623,Tryz.ntmps623
 go_wp2_with fail
 refine aK (fun W=>W=w.drew) (fun i=> !([12].contains i)) [0,1,2,3,4,5,6,7,8,9,10,11,12] rfl (by kernel_rfl) rfl ?_
 repeat ((refine bq (v:= ?_) rfl rfl (fun _ _ _ h=>h) rfl (fun W hW=> ?_) ?_);rotate_left;(focus ((try dsimp only at hW);subst hW;(try rw[q1]);(try rw[q2]);(go_simp;first|done|with_reducible rfl)));(try simp only[Act.put,aj,av,au]))
 have q4:IntKind.u8.wrap ((2:Int)^j)=((2^j:Nat):Int):=by
  simpa using q3
 rw[q4,hp]
 refine jm rfl rfl rfl (by kernel_rfl) ?_;intro K hK;go_simp
 refine hK.out _ _ ?_
 refine bF ?_
 go_wp2_with fail
 go_end0
 exact⟨rfl,rfl⟩
theorem Uh (mp off:Nat)(f:Nat->Bool)(b:Nat)(w:World)(hb:b<4096)(hc:w.cell? ⟨mp,off+b/8,none⟩=some (.int .u8 (dP f (b/8))))(hfz:w.frozen? ⟨mp,off+b/8,none⟩=false):
  Calls Tryz.prog 621 #[.pointer (some ⟨mp,off,none⟩),.int .i64 b] w fun e w'=>e= .returned (.tuple #[])/\w'=w.drew.setCell ⟨mp,off+b/8,none⟩ (.int .u8 (dP (fD f b false) (b/8))):=by
 have hlt:=aD w _ hc
 have hlt':mp<w.drew.heap.size:=hlt
 have hp:=Kg f b
 obtain⟨n1,hn1⟩:∃n,Hid (dP (fD f b false) (b/8)=n):=⟨_,af rfl⟩
 rw[hn1.out] at hp ⊢
 obtain⟨n0,hn0⟩:∃n,Hid (dP f (b/8)=n):=⟨_,af rfl⟩
 rw[hn0.out] at hp hc
 have q1:IntKind.i64.wrap ((b:Int)/8)=((b/8:Nat):Int):=by rw[aS _ (by omega)];omega
 have q2:Int.tmod (b:Int) 8=((b%8:Nat):Int):=by rw[xV (by omega)];omega
 have hj8:b%8<8:=by omega
 have q3:=Ib (b%8) hj8
 have hi5:b/8<512:=by omega
 generalize b%8=j at*
 generalize b/8=i at*
 have hi6:(i:Int)<512:=by omega
 have hc':w.drew.cell? ⟨mp,off+i,none⟩=some (.int .u8 n0):=hc
 have hf':w.drew.frozen? ⟨mp,off+i,none⟩=false:=hfz
 go_enter Tryz.func621,Tryz.ntmps621
 go_wp2_with fail
 refine aK (fun W=>W=w.drew) (fun i=> !([12].contains i)) [0,1,2,3,4,5,6,7,8,9,10,11,12] rfl (by kernel_rfl) rfl ?_
 repeat ((refine bq (v:= ?_) rfl rfl (fun _ _ _ h=>h) rfl (fun W hW=> ?_) ?_);rotate_left;(focus ((try dsimp only at hW);subst hW;(try rw[q1]);(try rw[q2]);(go_simp;first|done|with_reducible rfl)));(try simp only[Act.put,aj,av,au]))
 have q4:IntKind.u8.wrap ((2:Int)^j)=((2^j:Nat):Int):=by
  simpa using q3
 rw[q4,hp]
 refine jm rfl rfl rfl (by kernel_rfl) ?_;intro K hK;go_simp
 refine hK.out _ _ ?_
 refine bF ?_
 go_wp2_with fail
 go_end0
 exact⟨rfl,rfl⟩
def nS (n:Nat)(now old:Nat->Bool):List Value:= .int .i64 n::(aB (bytesOf now)++aB (bytesOf old))
def oK (w:World)(mp n:Nat)(now old:Nat->Bool):Prop:=Row w mp 262 (nS n now old)
theorem qA (f:Nat->Bool)(i:Nat)(hi:i<512):(aB (bytesOf f))[i]? =some (.int .u8 (dP f i)):=by
 unfold aB
 rw[dH,zN f i hi]
 simp only[kN,zf]
theorem fG (f:Nat->Bool):(aB (bytesOf f)).length=512:=by rw[aY,bytesOf_length]
theorem D6 (n:Nat)(now old:Nat->Bool)(i:Nat)(hi:i<512):(nS n now old)[1+i]? =some (.int .u8 (dP now i)):=by
 unfold nS
 rw[wD,bT,fw (by rw[fG];exact hi)]
 exact qA now i hi
theorem D5 (n:Nat)(now old:Nat->Bool)(i:Nat)(hi:i<512):(nS n now old)[513+i]? =some (.int .u8 (dP old i)):=by
 unfold nS
 rw[show 513+i=(512+i)+1 by omega,bT,bA (by rw[fG];omega),fG,dz]
 exact qA old i hi
theorem oK.cells {w:World}{mp n:Nat}{now old:Nat->Bool}(h:oK w mp n now old):w.cell? ⟨mp,0,none⟩=some (.int .i64 n)/\mp<w.heap.size/\(∀j,w.frozen? ⟨mp,j,none⟩=false)/\(∀i,i<512->w.cell? ⟨mp,1+i,none⟩=some (.int .u8 (dP now i)))/\∀i,i<512->w.cell? ⟨mp,513+i,none⟩=some (.int .u8 (dP old i)):=by
 refine⟨?_,h.lt,h.frozen,fun i hi=> ?_,fun i hi=> ?_⟩
 ·rw[h.cell];rfl
 ·rw[h.cell];exact D6 n now old i hi
 ·rw[h.cell];exact D5 n now old i hi
theorem oK.keep {w w':World}{mp n:Nat}{now old:Nat->Bool}(h:oK w mp n now old)(hb:w'.heap[mp]? =w.heap[mp]?):oK w' mp n now old:=hb.trans h
theorem GQ (l:List UInt8)(i:Nat)(x:UInt8):(aB l).set i (.int .u8 x.toNat)=aB (l.set i x):=by
 unfold aB
 rw[List.map_set]
theorem oK.set {w:World}{mp n:Nat}{now old:Nat->Bool}(h:oK w mp n now old)(b:Nat)(v:Bool)(hb:b<4096):oK (w.setCell ⟨mp,1+b/8,none⟩ (.int .u8 (dP (fD now b v) (b/8)))) mp n (fD now b v) old:=by
 have e:(nS n now old).set (1+b/8) (.int .u8 (dP (fD now b v) (b/8)))=nS n (fD now b v) old:=by
  unfold nS
  rw[wD,au,IZ _ _ (by rw[fG];omega)]
  have:=GQ (bytesOf now) (b/8) (UInt8.ofNat (dP (fD now b v) (b/8)))
  rw[zf,ES now b v hb] at this
  rw[this]
 unfold oK Row at*
 rw[<-e]
 simp[World.setCell,aJ,h]
theorem TW (mp n:Nat)(now old:Nat->Bool)(b:Nat)(w:World)(h:oK w mp n now old)(hn:n<=4096)(hb:b<=4096):
  Calls Tryz.prog 86 #[.pointer (some ⟨mp,0,none⟩),.int .i64 b] w fun e w'=>e= .returned (.bool (decide (b<n) && now b))/\w'=w:=by
 obtain⟨c0,hlt,hfz,hnow,_⟩:=h.cells
 by_cases hbn:b<n
 ·have HB:=af (Tj mp 1 now b w (by omega) (hnow _ (by omega)))
  have x1:(0:Int)<=(b:Int):=by omega
  have x2:(b:Int)<(n:Int):=by omega
  have x3:(decide (b<n) && now b)=now b:=by simp[hbn]
  rw[x3]
  clear h hnow
  go_enter Tryz.func86,Tryz.ntmps86
  go_wp2_with (first
   |(go_at_call 147;go_must (refine HB.out.mono ?_;rintro e w1 ⟨rfl,hw1⟩;subst w1)))
  go_ret
  exact⟨rfl,rfl⟩
 ·have x1:(0:Int)<=(b:Int):=by omega
  have x2:¬(b:Int)<(n:Int):=by omega
  have x3:(decide (b<n) && now b)=false:=by simp[hbn]
  rw[x3]
  clear h hnow
  go_enter Tryz.func86,Tryz.ntmps86
  go_wp2_with fail
  go_ret
  exact⟨rfl,rfl⟩
theorem SA (mp n:Nat)(now old:Nat->Bool)(b:Nat)(w:World)(h:oK w mp n now old)(hn:n<=4096)(hb2:2<=b)(hb:b<n)(hnow:now b=true):
  Calls Tryz.prog 619 #[.pointer (some ⟨mp,0,none⟩),.int .i64 b] w fun e w'=>e= .returned (.int .i64 0)/\oK w' mp n (fD now b false) old/\Keep (· =mp) w w':=by
 have HM:=TW mp n now old b w h hn (by omega)
 rw[hnow,eT hb] at HM
 have HM:=af HM
 obtain⟨c0,hlt,hfz,hc,_⟩:=h.cells
 have HC:=af (Uh mp 1 now b w (by omega) (hc _ (by omega)) (hfz _))
 have HS:=af (oK.set (w:=w.drew) (show oK w.drew mp n now old from h) b false (by omega))
 have x1:¬(b:Int)<2:=by omega
 have x2:¬b<2:=by omega
 clear h hc
 go_enter Tryz.func619,Tryz.ntmps619
 go_wp2_with (first
  |(go_at_call 86;go_must (refine HM.out.mono ?_;rintro e w1 ⟨rfl,hw1⟩;subst w1))
  |(go_at_call 621;go_must (refine HC.out.mono ?_;rintro e w1 ⟨rfl,hw1⟩;subst w1)))
 go_ret
 exact⟨rfl,HS.out,((Keep.refl (· =mp) w).drew).setCell (p:=⟨mp,1+b/8,none⟩) (.inr rfl) _⟩
theorem vC:(Tryz.prog.info? 260).map (fun i=>i.size)=some 512:=by kernel_rfl
theorem oK.below {w w':World}{mp n:Nat}{now old:Nat->Bool}(h:oK w mp n now old)(hb:Below w.heap.size w w'):oK w' mp n now old:=h.keep (hb.block _ h.lt)
theorem Qc:∀a:Fin 256,255^^^a.val=255 - a.val:=by decide+kernel
theorem QW (n:Nat)(h:n<256):bits .xor .u8 (if IntKind.u8.signed=true then -1 else IntKind.u8.max) (n:Int)=((255 - n:Nat):Int):=by
 have e:(if IntKind.u8.signed=true then(-1:Int) else IntKind.u8.max)=((255:Nat):Int):=rfl
 rw[e,u8_xor_nat 255 n (by omega) h,Qc ⟨n,h⟩]
theorem Sy (mp n:Nat)(now old:Nat->Bool)(w:World)(h:oK w mp n now old)(hn:n<=4096):
  Calls Tryz.prog 620 #[.pointer (some ⟨mp,0,none⟩)] w fun e w'=>
   (∃b:Nat,b<n/\(now b||old b)=false/\(∀x,x<b->(now x||old x)=true)/\e= .returned (.tuple #[.int .i64 b,.int .i64 0])/\oK w' mp n (fD now b true) old/\Keep (· =mp) w w')\/
   ((∀x,x<n->(now x||old x)=true)/\e= .returned (.tuple #[.int .i64 0,.int .i64 12])/\Below w.heap.size w w'):=by
 obtain⟨_,hlt0,_⟩:=h.cells
 have HM:=af (fun (W:World) (hW:Below w.heap.size w W)=>(h.below hW))
 clear h
 go_enter Tryz.func620,Tryz.ntmps620
 go_wp2_with fail
 go_loopw [4,5,6,9] (fun _ _ _ i wr=>∃k:Nat,k<=512/\i= .int .i64 k/\Below w.heap.size w wr/\∀x,x<8*k->(now x||old x)=true) (fun _ _ _ i _=>512 - (intOf i).toNat)
 case atStart=>exact⟨0,by omega,rfl,aH _ _,fun x hx=>by omega⟩
 case round=>
  obtain⟨k,hk,rfl,hb,hall⟩:=hrel
  have HA:=af hall;clear hall
  have HB:=af hb;clear hb
  by_cases hk5:k<512
  ·have x1:(k:Int)<512:=by omega
   obtain⟨f,hf⟩:∃f:Nat->Bool,f=fun x=>now x||old x:=⟨_,rfl⟩
   have hor:bits .or .u8 (dP now k:Int) (dP old k:Int)=(dP f k:Int):=by
    rw[u8_or_nat _ _ (rQ _ _) (rQ _ _),MR,hf]
   have hfl:=rQ f k
   have HCC:=af (fun (W:World) (hW:Below w.heap.size w W)=>(show W.cell? ⟨mp,0,none⟩=some (.int .i64 n)/\mp<W.heap.size/\W.cell? ⟨mp,1+k,none⟩=some (.int .u8 (dP now k))/\W.cell? ⟨mp,513+k,none⟩=some (.int .u8 (dP old k)) from by
    obtain⟨a,b,c,d,e⟩:=(HM.out W hW).cells
    exact⟨a,b,d k hk5,e k hk5⟩))
   go_wp2_with fail
   refine aK (fun W=>Below w.heap.size w W) (fun _=>true) [0,1,2,3,4,5,6,7,8,9,10,11,12,13,14] rfl (by kernel_rfl) HB.out.drew ?_
   repeat ((refine bq (v:= ?_) rfl rfl (fun _ _ _ h=>h) rfl (fun W hW=> ?_) ?_);rotate_left;(focus ((try dsimp only at hW);obtain⟨r0,r1,r2,r3⟩:=HCC.out W hW;(try rw[hor]);(go_simp;first|done|with_reducible rfl)));(try simp only[Act.put,aj,av,au]))
   refine bF ?_
   have hxor:bits .xor .u8 (if IntKind.u8.signed=true then -1 else IntKind.u8.max) ((dP (fun x=>now x||old x) k:Nat):Int)=((255 - dP f k:Nat):Int):=by
    rw[<-hf];exact QW _ hfl
   rw[hxor]
   clear hor hxor
   by_cases hfull:dP f k=255
   ·have y1:255 - dP f k=0:=by omega
    rw[y1]
    have HF:=af hfull;clear hfull hfl y1
    go_wp2_with fail
    go_roundw
    case rel=>
     refine⟨k+1,by omega,by go_num,HB.out.drew,fun x hx=> ?_⟩
     rcases jv x (8*k) with hx8|hx8
     ·exact HA.out x hx8
     ·have:=GL f k HF.out (x - 8*k) (by omega)
      rw[show 8*k+(x - 8*k)=x by omega,hf] at this
      exact this
    case measure=>simp[intOf];omega
   ·obtain⟨t1,t2,t3⟩:=ET f k hfull
    obtain⟨m,hm⟩:∃m,m=255 - dP f k:=⟨_,rfl⟩
    rw[<-hm] at t1 t2 t3 ⊢
    obtain⟨tz,htz⟩:∃z,z=Lib.trailingZeros8 m:=⟨_,rfl⟩
    rw[<-htz] at t1 t2 t3
    have hm0:¬m=0:=by omega
    have hm1:m<=255:=by omega
    have hnt:=Oe (m:Int) wr.drew (by omega) (by omega)
    rw[cB,<-htz] at hnt
    have HNT:=af hnt
    have HT2:=af t2;have HT3:=af t3;have HHF:=af hf
    have hcm:(m:Int)≠0:=by omega
    have hc0:=(HCC.out _ HB.out.drew).1
    have hc1:=(HCC.out _ HB.out.drew).2.1
    clear hf hm htz hnt t2 t3 hfl hfull
    by_cases hbn:8*k+tz<n
    ·have z1:¬(n:Int)<=8*(k:Int)+(tz:Int):=by omega
     have hput:=Uf mp 1 now (8*k+tz) wr.drew (by omega) (by
      obtain⟨a,b,c,d,e⟩:=(HM.out _ HB.out.drew).cells
      exact d _ (by omega)) (by
      obtain⟨a,b,c,d,e⟩:=(HM.out _ HB.out.drew).cells
      exact c _)
     have hcast:((8*k+tz:Nat):Int)=8*(k:Int)+(tz:Int):=by omega
     rw[hcast] at hput
     have HPUT:=af hput;clear hput hcast
     have HSET:=af (oK.set (HM.out _ (HB.out.drew.drew)) (8*k+tz) true (by omega))
     go_wp2_with (first
      |(go_at_call 622;go_must (refine HNT.out.mono ?_;rintro e w1 ⟨rfl,hw1⟩;subst w1))
      |(go_at_call 623;go_must (refine HPUT.out.mono ?_;rintro e w1 ⟨rfl,hw1⟩;subst w1)))
     go_ret2
     refine .inl ⟨8*k+tz,hbn,?_,fun x hx=> ?_,by go_num,HSET.out,?_⟩
     ·have:=HT2.out;rw[HHF.out] at this;exact this
     ·rcases jv x (8*k) with hx8|hx8
      ·exact HA.out x hx8
      ·have:=HT3.out (x - 8*k) (by omega)
       rw[show 8*k+(x - 8*k)=x by omega,HHF.out] at this
       exact this
     ·exact(Keep.of_below HB.out (· =mp)).drew.drew.setCell (p:=⟨mp,1+(8*k+tz)/8,none⟩) (.inr rfl) _
    ·have z1:(n:Int)<=8*(k:Int)+(tz:Int):=by omega
     go_wp2_with (first
      |(go_at_call 622;go_must (refine HNT.out.mono ?_;rintro e w1 ⟨rfl,hw1⟩;subst w1)))
     go_ret2
     refine .inr ⟨fun x hx=> ?_,rfl,HB.out.drew⟩
     rcases jv x (8*k) with hx8|hx8
     ·exact HA.out x hx8
     ·have:=HT3.out (x - 8*k) (by omega)
      rw[show 8*k+(x - 8*k)=x by omega,HHF.out] at this
      exact this
  ·obtain rfl:k=512:=by omega
   go_wp2_with fail
   go_ret2
   exact .inr ⟨fun x hx=>HA.out x (by omega),rfl,HB.out⟩
theorem Hg (t n:Nat)(w:World)(h2:2<=n)(hn:n<=4096):
  Calls Tryz.prog 91 #[.iface 123 (.pointer (some ⟨t,0,none⟩)),.int .i64 n] w fun e w'=>e= .returned (.int .i64 0)/\w'=w:=by
 have x1:¬(n:Int)<2:=by omega
 have x2:¬(4096:Int)<(n:Int):=by omega
 have x3:¬n<2:=by omega
 have x4:¬4096<n:=by omega
 go_enter Tryz.func91,Tryz.ntmps91
 go_wp2_with fail
 go_ret
 exact⟨rfl,rfl⟩
def two (b:Nat):Bool:=decide (b<2)
theorem two_bytes:bytesOf two=pad [3]:=by decide+kernel
theorem Qz (t pg d:Nat)(σ:Dk)(l:Lg)(p:Pg)(op:Value)(im:Im)(S T:Nat->Prop)(w:World)(h:iF w S pg d σ l p op)(ht:pJ w T t pg im (p.blocks σ))(hd:p.dead=false)(h2:2<=p.blocks σ):
  Calls Tryz.prog 51 #[.iface 123 (.pointer (some ⟨t,0,none⟩)),.int .i64 (p.blocks σ)] w fun e w'=>e= .returned (.int .i64 0)/\pJ w' T t pg (im.put 0 (bytesOf two)) (p.blocks σ)/\Step T T w w':=by
 have hbl:p.blocks σ<=4096:=by have:=h.ok.2.1.hi;unfold Pg.blocks;omega
 have HC:=af (Hg t (p.blocks σ) w h2 hbl)
 have hb1:=aC w (.cells #[.int .u8 3] 5)
 have hv:aW (w.alloc (.cells #[.int .u8 3] 5)) d9 1 (.slice (some ⟨w.heap.size,0,none⟩) 1 1) ([3]:List UInt8).length (aB [3]):=by
  have hr:Row (w.alloc (.cells #[.int .u8 3] 5)) w.heap.size 5 (aB [3]):=aF w _
  exact hr.dL (S:=d9) (k:=1) (off:=0) 1 1 (by simp[aB]) id (aA _) (by simp[maxLen])
 have HW:=af (FN t pg d σ l p op im S T 0 _ [3] _ (h.below hb1) (ht.below hb1) hd (by omega) hv (by simp))
 rw[<-two_bytes] at HW
 have hm:∀w,(method 841 123 (.pointer (some ⟨t,0,none⟩)) "Write").run Tryz.prog w= .ok (118,.pointer (some ⟨t,0,none⟩)) w:=fun _=>by kernel_rfl
 go_enter Tryz.func51,Tryz.ntmps51
 go_wp2_with (first
  |(go_at_call 91;go_must (refine HC.out.mono ?_;rintro e w1 ⟨rfl,hw1⟩;subst w1))
  |(go_at_call 118;go_must (refine HW.out.mono ?_;rintro e w1 ⟨rfl,ht1,hs1⟩)))
 go_ret
 exact⟨rfl,ht1,(Step.of_below hb1).trans hs1⟩
theorem Kh (i:Int):Tryz.prog.built 262 [(0,.int .i64 i)]=some (Value.int .i64 i::(aB zB++aB zB)).toArray:=by kernel_rfl
theorem FZ (i:Int)(l:List UInt8)(hl:l.length=512):splice (Value.int .i64 i::(aB zB++aB zB)) 1 (aB l)=Value.int .i64 i::(aB l++aB zB):=by
 have h1:(aB l).length=512:=by rw[aY,hl]
 have h2:(aB zB).length=512:=by rw[aY,fF]
 unfold splice
 rw[h1,gG,gN,show 1+512=512+1 by rfl,jJ,mo (fA h2.symm),<-h2,iB]
 simp
theorem FY (i:Int)(l:List UInt8)(hl:l.length=512):splice (Value.int .i64 i::(aB l++aB zB)) 513 (aB l)=Value.int .i64 i::(aB l++aB l):=by
 have h1:(aB l).length=512:=by rw[aY,hl]
 have h2:(aB zB).length=512:=by rw[aY,fF]
 unfold splice
 rw[h1,show 513=512+1 by rfl,gG,show 512+1+512=1024+1 by rfl,jJ,bL (fA h1.symm),<-h1,bW,CZ (by rw[ay,h1,h2];omega)]
 simp
theorem QA (t pg d:Nat)(σ:Dk)(l:Lg)(p:Pg)(op:Value)(im:Im)(S T:Nat->Prop)(f:Nat->Bool)(w:World)(h:iF w S pg d σ l p op)(ht:pJ w T t pg im (p.blocks σ))(hd:p.dead=false)(hsd:σ.dead=false)(h2:2<=p.blocks σ)
  (hf:p.look im σ 0=bytesOf f) (hhi:∀b,p.blocks σ<=b->f b=false) (h0:f 0=true) (h1:f 1=true):
  Calls Tryz.prog 135 #[.iface 123 (.pointer (some ⟨t,0,none⟩)),.int .i64 (p.blocks σ)] w fun e w'=>∃mp,e= .returned (.tuple #[.pointer (some ⟨mp,0,none⟩),.int .i64 0])/\oK w' mp (p.blocks σ) f f/\w.heap.size<=mp/\Below w.heap.size w w':=by
 have hbl:p.blocks σ<=4096:=by have:=h.ok.2.1.hi;unfold Pg.blocks;omega
 have HC:=af (Hg t (p.blocks σ) w h2 hbl)
 have HR:=tread t pg d σ l p op im S T 0 w h ht hd hsd (by omega)
 rw[hf] at HR
 have HR:=af HR
 obtain⟨n,hn⟩:∃n,n=p.blocks σ:=⟨_,rfl⟩
 rw[<-hn] at HC h2 hhi hbl ⊢
 have HHI:=af hhi;have H0:=af h0;have H1:=af h1
 have hlb:=bytesOf_length f
 have hm:∀w,(method 841 123 (.pointer (some ⟨t,0,none⟩)) "Read").run Tryz.prog w= .ok (136,.pointer (some ⟨t,0,none⟩)) w:=fun _=>by kernel_rfl
 clear h ht hf hhi h0 h1 hn
 go_enter Tryz.func135,Tryz.ntmps135
 go_wp2_with (first
  |(go_at_call 91;go_must (refine HC.out.mono ?_;rintro e w1 ⟨rfl,hw1⟩;subst w1))
  |(go_at_call 136;go_must (refine HR.out.mono ?_;rintro e w1 ⟨v,rfl,hv,hvb,hb1⟩;obtain⟨ao,cp,rfl,n0,m0,_,_⟩:=aW.form hv))
  |((refine bU rfl ?_);intro K hK;(refine uz 262 _ rfl (Value.int .i64 (n:Int)::(aB zB++aB zB)) (Kh n) ?_);refine hK _ _ ?_)
  |((refine bU rfl ?_);intro K hK;(refine yK 262 _ rfl (Value.int .i64 (n:Int)::(aB zB++aB zB)) rfl ?_);refine hK _ _ (Stop.of ?_)))
 refine Stop.on ?_
 obtain⟨mp,HMP⟩:∃mp,Hid (w1.heap.size=mp):=⟨_,af rfl⟩
 obtain⟨w2,HW2⟩:∃w2:World,Hid (w1.alloc (.cells (Value.int .i64 (n:Int)::(aB zB++aB zB)).toArray 262)=w2):=⟨_,af rfl⟩
 have hr2:Row w2 mp 262 (Value.int .i64 (n:Int)::(aB zB++aB zB)):=by rw[<-HW2.out,<-HMP.out];exact Row.new w1 _ _
 have hb2:Below w1.heap.size w1 w2:=by rw[<-HW2.out];exact aC w1 _
 rw[HW2.out,HMP.out]
 have hv2:=aW.below hv hb2
 have hlen:=af (fG f)
 have hfst:=hv2.first (P:=Tryz.prog) 512 (aA _)
 rw[iA,aI (fA hlen.out)] at hfst
 have hfst:=af hfst
 have hz2:=af (show (Value.int .i64 (n:Int)::(aB zB++aB zB)).length=1025 by rw[aU,ay,aY,fF])
 go_wp2_with (first
  |((refine bU rfl ?_);intro K hK;(refine lm (.tmp 31) (.tmp 32) 154 154 rfl 5 1 1 (.int .u8 0) aO iJ mp 1 262 512 512 512 (some ⟨mp,1,none⟩) _ rfl hr2 (.slice ao 512 cp) rfl 512 (aB (bytesOf f)) rfl ?_ ?_ hfst.out (fun _=>rfl) ?_ (fq _) ?_);go_must ((focus rfl);(focus (rw[hlen.out,iA]));(focus (rw[hlen.out,hz2.out];omega));intro w3 hr3 hk3;refine hK _ _ (Stop.of ?_))))
 refine Stop.on ?_
 rw[FZ _ _ hlb] at hr3
 have hb3:Below w.heap.size w w3:=by
  have hk2:Keep d9 w1 w3:=(Keep.of_below hb2 d9).trans hk3 (fun i hi e=>absurd hi (by rw[e,HMP.out];exact bY _))
  exact hb1.trans (hk2.below.mono hb1.size)
 have hmpw:w.heap.size<=mp:=by rw[<-HMP.out];exact hb1.size
 have HR3:=af hr3;have HB3:=af hb3
 have hcell:∀i,i<512->w3.cell? ⟨mp,1+i,none⟩=some (.int .u8 (dP f i)):=fun i hi=>by
  rw[hr3.cell,wD,bT,fw (by rw[hlen.out];exact hi)]
  exact qA f i hi
 have hlt3:=hr3.lt
 have HBH:=af (fun b (hb:b<4096)=>Tj mp 1 f b w3 hb (hcell _ (by omega)))
 have hrg:w3.rangeAt mp 1 (aB (bytesOf f)):=Row.range (off:=1) (n:=512) hr3 (by
  rw[List.drop_one,List.tail_cons,bL (by rw[hlen.out];exact aA _),aI (by rw[hlen.out];exact aA _)])
 have hz3:=af (show (Value.int .i64 (n:Int)::(aB (bytesOf f)++aB zB)).length=1025 by rw[aU,ay,aY,aY,hlb,fF])
 have hone:=fq (bytesOf f)
 clear hr3 hb3 hk3 hcell hr2 hb2 hv2 hv hb1 hfst HW2 HR HC hm hz2
 obtain⟨C,HCC⟩:∃C,Hid (aB (bytesOf f)=C):=⟨_,af rfl⟩
 rw[HCC.out] at hrg hlen hone HR3 hz3
 obtain⟨Z,HZ⟩:∃Z,Hid (aB zB=Z):=⟨_,af rfl⟩
 rw[HZ.out] at HR3 hz3
 go_wp2_with fail
 go_loopw [10] (fun i wr=>∃k:Nat,n<=k/\k<=4096/\i= .int .i64 k/\wr=w3) (fun i _=>4096 - (intOf i).toNat)
 case atStart=>exact⟨n,aA _,hbl,rfl,rfl⟩
 case round=>
  obtain⟨k,hk1,hk2,rfl,rfl⟩:=hrel
  by_cases hk5:k<4096
  ·have x1:(k:Int)<4096:=by omega
   have hh:=HBH.out k hk5
   rw[HHI.out k hk1] at hh
   have HH:=af hh;clear hh
   go_wp2_with (first
    |(go_at_call 147;go_must (refine HH.out.mono ?_;rintro e w1 ⟨rfl,hw1⟩;subst w1)))
   go_roundw
   case rel=>exact⟨k+1,by omega,by omega,by go_num,by trivial⟩
   case measure=>simp[intOf];omega
  ·have x1:¬(k:Int)<4096:=by omega
   have x2:¬k<4096:=hk5
   have h0:=HBH.out 0 (by omega)
   have h1:=HBH.out 1 (by omega)
   rw[H0.out] at h0
   rw[H1.out] at h1
   have HH0:=af h0;have HH1:=af h1;clear h0 h1
   go_wp2_with (first
    |(go_at_call 147;go_must (refine HH0.out.mono ?_;rintro e w1 ⟨rfl,hw1⟩;subst w1;refine Stop.of ?_)))
   refine Stop.on ?_
   go_wp2_with (first
    |(go_at_call 147;go_must (refine HH1.out.mono ?_;rintro e w1 ⟨rfl,hw1⟩;subst w1))
    |((refine bU rfl ?_);intro K hK;(refine wp_load_mid 260 _ rfl mp 1 rfl C _ hrg Tryz.underlying260 rfl (vC.trans (congrArg some hlen.out.symm)) ?_);refine hK _ _ ?_)
    |((refine bU rfl ?_);intro K hK;(refine wp_store_row 260 _ _ rfl mp 513 262 _ C rfl rfl HR3.out (vC.trans (congrArg some hlen.out.symm)) (by rw[hz3.out,hlen.out];omega) hone ?_);intro w4 hr4 hk4;refine hK _ _ (Stop.of ?_)))
   refine Stop.on ?_
   rw[<-HCC.out,<-HZ.out,FY _ _ hlb] at hr4
   have HR4:=af hr4;have HK4:=af hk4
   clear hr4 hk4
   go_wp2_with fail
   go_ret2
   exact⟨mp,rfl,HR4.out,hmpw,HB3.out.trans (HK4.out.dY HB3.out.size (fun i hi e=>absurd hi (aV.2 (by rw[e];exact hmpw))))⟩
theorem KF (w:World):(zeroValue 260).run Tryz.prog w= .ok (.agg (aB zB).toArray) w:=by kernel_rfl
theorem uT {l:List UInt8}(h:l.length=512):pad l=l:=by simp[pad,h]
theorem NN (t pg d mp n:Nat)(now old:Nat->Bool)(σ:Dk)(l:Lg)(p:Pg)(op:Value)(im:Im)(S T:Nat->Prop)(w:World)(h:iF w S pg d σ l p op)(ht:pJ w T t pg im (p.blocks σ))(hd:p.dead=false)(h2:0<p.blocks σ)(hmp:oK w mp n now old):
  Calls Tryz.prog 119 #[.pointer (some ⟨mp,0,none⟩),.iface 123 (.pointer (some ⟨t,0,none⟩))] w fun e w'=>e= .returned (.int .i64 0)/\pJ w' T t pg (im.put 0 (bytesOf now)) (p.blocks σ)/\Step T T w w':=by
 obtain⟨c0,hlt,hfz,hc,_⟩:=hmp.cells
 have hrg:w.rangeAt mp 1 (aB (bytesOf now)):=Row.range (off:=1) (n:=512) hmp (by
  unfold nS
  rw[List.drop_one,List.tail_cons,bL (by rw[fG];exact aA _),aI (by rw[fG];exact aA _)])
 have hlen:=af (fG now)
 have hone:=fq (bytesOf now)
 have hlb:=bytesOf_length now
 have hr1:Row (w.alloc (.cells (aB zB).toArray 260)) w.heap.size 260 (aB zB):=Row.new w _ _
 have hz1:=af (show (aB zB).length=512 by rw[aY,fF])
 have HW:=af (fun (W:World) (hW:Below w.heap.size w W) (hv:aW W d9 1 (.slice (some ⟨w.heap.size,0,none⟩) 512 512) (bytesOf now).length (aB (bytesOf now)))=>FN t pg d σ l p op im S T 0 _ (bytesOf now) W (h.below hW) (ht.below hW) hd h2 hv (by omega))
 rw[uT hlb] at HW
 have hm:∀w,(method 841 123 (.pointer (some ⟨t,0,none⟩)) "Write").run Tryz.prog w= .ok (118,.pointer (some ⟨t,0,none⟩)) w:=fun _=>by kernel_rfl
 have hmf:∀(fn:Fn) (first cap:Array Value) (w:World),(Instr.makeFunc fn first cap).run Tryz.prog w= .ok (.func fn first cap) w:=fun _ _ _ _=>rfl
 obtain⟨C,HC⟩:∃C,Hid (aB (bytesOf now)=C):=⟨_,af rfl⟩
 rw[HC.out] at hrg hlen hone
 clear h ht hmp hc
 go_enter Tryz.func119,Tryz.ntmps119
 go_wp2_with (first
  |((refine bU rfl ?_);intro K hK;(refine wp_load_mid 260 _ rfl mp 1 rfl C _ hrg Tryz.underlying260 rfl (vC.trans (congrArg some hlen.out.symm)) ?_);refine hK _ _ ?_)
  |((refine bU rfl ?_);intro K hK;(refine fZ 260 rfl _ KF ?_);refine hK _ _ ?_)
  |((refine bU rfl ?_);intro K hK;(refine wp_store_row 260 _ _ rfl w.heap.size 0 260 _ C rfl rfl hr1 (vC.trans (congrArg some hlen.out.symm)) (by rw[hz1.out,hlen.out];omega) hone ?_);intro w3 hr3 hk3;refine hK _ _ (Stop.of ?_)))
 refine Stop.on ?_
 rw[kC _ _ (hz1.out.trans hlen.out.symm),<-HC.out] at hr3
 have hb3:Below w.heap.size w w3:=(((Keep.refl d9 w).alloc _).trans hk3 (fun i hi e=>absurd hi (by rw[e];exact bY _))).below
 have hv3:aW w3.drew d9 1 (.slice (some ⟨w.heap.size,0,none⟩) 512 512) (bytesOf now).length (aB (bytesOf now)):=by
  have hr3':Row w3.drew w.heap.size 260 (aB (bytesOf now)):=hr3
  have:=hr3'.dL (S:=d9) (k:=1) (off:=0) 512 512 (by rw[fG];omega) id (aA _) (by simp[maxLen])
  rw[fE,aI (by rw[fG];omega)] at this
  rw[hlb];exact this
 have HWW:=af (HW.out _ hb3.drew hv3)
 clear hr3 hk3 hv3 HW hr1 hz1 hrg hone
 go_wp2_with fail
 refine aK (fun _=>True) (fun i=> !([5].contains i)) [0,1,2,3,4,5,6] rfl (by kernel_rfl) trivial ?_
 have hna:∀w,(nilAhead 841 123 (.pointer (some ⟨t,0,none⟩)) "Write").run Tryz.prog w= .ok (some false) w:=fun _=>by kernel_rfl
 repeat ((refine bq (v:= ?_) rfl rfl (fun _ _ _ h=>h) rfl (fun W hW=> ?_) ?_);rotate_left;(focus ((try dsimp only at hW);have:=hna;(go_simp;first|done|with_reducible rfl)));(try simp only[Act.put,aj,av,au]))
 refine bP rfl rfl rfl ?_;intro K hK;go_simp
 refine HWW.out.mono ?_;rintro e w4 ⟨rfl,ht4,hs4⟩
 refine hK.out _ _ trivial ?_
 repeat ((refine bq (v:= ?_) rfl rfl (fun _ _ _ h=>h) rfl (fun W hW=> ?_) ?_);rotate_left;(focus ((try dsimp only at hW);have:=hna;(go_simp;first|done|with_reducible rfl)));(try simp only[Act.put,aj,av,au]))
 refine bF ?_
 go_wp2_with fail
 go_ret
 exact⟨rfl,ht4,(Step.of_below hb3.drew).trans hs4⟩
end Go.Proofs.YtpmbddooibgnaaaGreatDoor
