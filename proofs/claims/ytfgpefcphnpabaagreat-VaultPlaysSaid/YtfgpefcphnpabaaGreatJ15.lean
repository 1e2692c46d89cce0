/- parts -/
import Derived.Test.YtfgpefcphnpabaaGreatJ14
import Derived.Lib.BitFns
import Derived.Laws.BitsAllLaws
namespace Go.Proofs.YtfgpefcphnpabaaGreat
open Go.RowKit
set_option maxRecDepth 100000
set_option maxHeartbeats 8000000
set_option linter.all false
def gJ (b0 b1 b2 b3 b4 b5 b6 b7:Bool):Nat:=b0.toNat+2*b1.toNat+4*b2.toNat+8*b3.toNat+16*b4.toNat+32*b5.toNat+64*b6.toNat+128*b7.toNat
theorem Nt (b0 b1 b2 b3 b4 b5 b6 b7:Bool):gJ b0 b1 b2 b3 b4 b5 b6 b7<256:=by
 unfold gJ
 have:=b0.toNat_le;have:=b1.toNat_le;have:=b2.toNat_le;have:=b3.toNat_le;have:=b4.toNat_le;have:=b5.toNat_le;have:=b6.toNat_le;have:=b7.toNat_le
 omega
def fe (f:Nat→Bool) (i:Nat):Nat:=gJ (f (8*i)) (f (8*i+1)) (f (8*i+2)) (f (8*i+3)) (f (8*i+4)) (f (8*i+5)) (f (8*i+6)) (f (8*i+7))
theorem pK (f:Nat→Bool) (i:Nat):fe f i<256:=Nt _ _ _ _ _ _ _ _
def bytesOf (f:Nat→Bool):List UInt8:=(List.range 512).map fun i=>UInt8.ofNat (fe f i)
theorem bytesOf_length (f:Nat→Bool):(bytesOf f).length=512:=by simp[bytesOf]
theorem AX (f:Nat→Bool) (i:Nat) (hi:i<512):(bytesOf f)[i]? =some (UInt8.ofNat (fe f i)):=by
 simp[bytesOf,hi]
theorem Ac (f:Nat→Bool) (i:Nat):(UInt8.ofNat (fe f i)).toNat=fe f i:=by
 rw[d9,uK (pK f i)]
def K5 (b0 b1 b2 b3 b4 b5 b6 b7:Bool) (j:Nat):Bool:=match j with|0=>b0|1=>b1|2=>b2|3=>b3|4=>b4|5=>b5|6=>b6|_=>b7
theorem Q0 (f:Nat→Bool) (b:Nat):K5 (f (8*(b/8))) (f (8*(b/8)+1)) (f (8*(b/8)+2)) (f (8*(b/8)+3)) (f (8*(b/8)+4)) (f (8*(b/8)+5)) (f (8*(b/8)+6)) (f (8*(b/8)+7)) (b%8)=f b:=by
 have h:=qG b (show 8>0 by decide)
 have e:b=8*(b/8)+b%8:=by omega
 generalize b%8=j at*
 generalize b/8=i at*
 subst e
 match j,h with
 |0,_=>rfl
 |1,_=>rfl
 |2,_=>rfl
 |3,_=>rfl
 |4,_=>rfl
 |5,_=>rfl
 |6,_=>rfl
 |7,_=>rfl
theorem OP:∀(b0 b1 b2 b3 b4 b5 b6 b7:Bool) (j:Fin 8),gJ b0 b1 b2 b3 b4 b5 b6 b7/2^j.val%2=(K5 b0 b1 b2 b3 b4 b5 b6 b7 j.val).toNat:=by decide+kernel
theorem KW (f:Nat→Bool) (b:Nat):fe f (b/8)/2^(b%8)%2=(f b).toNat:=by
 have h:=qG b (show 8>0 by decide)
 have:=OP (f (8*(b/8))) (f (8*(b/8)+1)) (f (8*(b/8)+2)) (f (8*(b/8)+3)) (f (8*(b/8)+4)) (f (8*(b/8)+5)) (f (8*(b/8)+6)) (f (8*(b/8)+7)) ⟨b%8,h⟩
 rw[Q0] at this
 exact this
def gm (f:Nat→Bool) (b:Nat) (v:Bool):Nat→Bool:=fun x=>if x=b then v else f x
theorem OO:∀(b0 b1 b2 b3 b4 b5 b6 b7:Bool),bits .or .u8 (gJ b0 b1 b2 b3 b4 b5 b6 b7:Nat) 1=(gJ true b1 b2 b3 b4 b5 b6 b7:Nat)∧bits .or .u8 (gJ b0 b1 b2 b3 b4 b5 b6 b7:Nat) 2=(gJ b0 true b2 b3 b4 b5 b6 b7:Nat)∧bits .or .u8 (gJ b0 b1 b2 b3 b4 b5 b6 b7:Nat) 4=(gJ b0 b1 true b3 b4 b5 b6 b7:Nat)∧bits .or .u8 (gJ b0 b1 b2 b3 b4 b5 b6 b7:Nat) 8=(gJ b0 b1 b2 true b4 b5 b6 b7:Nat)∧
  bits .or .u8 (gJ b0 b1 b2 b3 b4 b5 b6 b7:Nat) 16=(gJ b0 b1 b2 b3 true b5 b6 b7:Nat)∧bits .or .u8 (gJ b0 b1 b2 b3 b4 b5 b6 b7:Nat) 32=(gJ b0 b1 b2 b3 b4 true b6 b7:Nat)∧bits .or .u8 (gJ b0 b1 b2 b3 b4 b5 b6 b7:Nat) 64=(gJ b0 b1 b2 b3 b4 b5 true b7:Nat)∧bits .or .u8 (gJ b0 b1 b2 b3 b4 b5 b6 b7:Nat) 128=(gJ b0 b1 b2 b3 b4 b5 b6 true:Nat):=by decide+kernel
theorem OQ:∀(b0 b1 b2 b3 b4 b5 b6 b7:Bool),bits .andNot .u8 (gJ b0 b1 b2 b3 b4 b5 b6 b7:Nat) 1=(gJ false b1 b2 b3 b4 b5 b6 b7:Nat)∧bits .andNot .u8 (gJ b0 b1 b2 b3 b4 b5 b6 b7:Nat) 2=(gJ b0 false b2 b3 b4 b5 b6 b7:Nat)∧bits .andNot .u8 (gJ b0 b1 b2 b3 b4 b5 b6 b7:Nat) 4=(gJ b0 b1 false b3 b4 b5 b6 b7:Nat)∧bits .andNot .u8 (gJ b0 b1 b2 b3 b4 b5 b6 b7:Nat) 8=(gJ b0 b1 b2 false b4 b5 b6 b7:Nat)∧
  bits .andNot .u8 (gJ b0 b1 b2 b3 b4 b5 b6 b7:Nat) 16=(gJ b0 b1 b2 b3 false b5 b6 b7:Nat)∧bits .andNot .u8 (gJ b0 b1 b2 b3 b4 b5 b6 b7:Nat) 32=(gJ b0 b1 b2 b3 b4 false b6 b7:Nat)∧bits .andNot .u8 (gJ b0 b1 b2 b3 b4 b5 b6 b7:Nat) 64=(gJ b0 b1 b2 b3 b4 b5 false b7:Nat)∧bits .andNot .u8 (gJ b0 b1 b2 b3 b4 b5 b6 b7:Nat) 128=(gJ b0 b1 b2 b3 b4 b5 b6 false:Nat):=by decide+kernel
theorem yQ (f:Nat→Bool) (b i:Nat) (v:Bool) (h:i≠b/8):fe (gm f b v) i=fe f i:=by
 unfold fe gm
 congr 1<;>(rw[if_neg (by omega)])
theorem KV (f:Nat→Bool) (b:Nat):bits .or .u8 (fe f (b/8):Nat) ((2^(b%8):Nat):Int)=(fe (gm f b true) (b/8):Nat):=by
 have h:=qG b (show 8>0 by decide)
 have e:b=8*(b/8)+b%8:=by omega
 generalize hj:b%8=j at*
 generalize hi:b/8=i at*
 subst e
 have q:=OO (f (8*i)) (f (8*i+1)) (f (8*i+2)) (f (8*i+3)) (f (8*i+4)) (f (8*i+5)) (f (8*i+6)) (f (8*i+7))
 unfold fe gm
 match j,h with
 |0,_=>simpa using q.1
 |1,_=>simpa using q.2.1
 |2,_=>simpa using q.2.2.1
 |3,_=>simpa using q.2.2.2.1
 |4,_=>simpa using q.2.2.2.2.1
 |5,_=>simpa using q.2.2.2.2.2.1
 |6,_=>simpa using q.2.2.2.2.2.2.1
 |7,_=>simpa using q.2.2.2.2.2.2.2
theorem KX (f:Nat→Bool) (b:Nat):bits .andNot .u8 (fe f (b/8):Nat) ((2^(b%8):Nat):Int)=(fe (gm f b false) (b/8):Nat):=by
 have h:=qG b (show 8>0 by decide)
 have e:b=8*(b/8)+b%8:=by omega
 generalize hj:b%8=j at*
 generalize hi:b/8=i at*
 subst e
 have q:=OQ (f (8*i)) (f (8*i+1)) (f (8*i+2)) (f (8*i+3)) (f (8*i+4)) (f (8*i+5)) (f (8*i+6)) (f (8*i+7))
 unfold fe gm
 match j,h with
 |0,_=>simpa using q.1
 |1,_=>simpa using q.2.1
 |2,_=>simpa using q.2.2.1
 |3,_=>simpa using q.2.2.2.1
 |4,_=>simpa using q.2.2.2.2.1
 |5,_=>simpa using q.2.2.2.2.2.1
 |6,_=>simpa using q.2.2.2.2.2.2.1
 |7,_=>simpa using q.2.2.2.2.2.2.2
theorem F4 (f:Nat→Bool) (b:Nat) (v:Bool) (hb:b<4096):(bytesOf f).set (b/8) (UInt8.ofNat (fe (gm f b v) (b/8)))=bytesOf (gm f b v):=by
 apply List.ext_getElem?
 intro i
 rw[List.getElem?_set]
 by_cases h:b/8=i
 ·subst h
  rw[if_pos rfl,if_pos (by rw[bytesOf_length];omega),AX _ _ (by omega)]
 ·rw[if_neg h]
  unfold bytesOf
  rw[eX,eX]
  rcases gV i 512 with hi|hi
  ·rw[List.getElem?_range hi]
   simp only[iJ]
   rw[yQ f b i v (fun e=>h e.symm)]
  ·simp[hi]
def countB (f:Nat→Bool) (n:Nat):Nat:=((List.range n).filter f).length
theorem Kl:∀(b0 b1 b2 b3 b4 b5 b6 b7:Bool),Lib.onesCount (gJ b0 b1 b2 b3 b4 b5 b6 b7)=b0.toNat+b1.toNat+b2.toNat+b3.toNat+b4.toNat+b5.toNat+b6.toNat+b7.toNat:=by decide+kernel
theorem eP (f:Nat→Bool) (n:Nat):countB f (n+1)=countB f n+(f n).toNat:=by
 unfold countB
 rw[List.range_succ,yH,av]
 cases h:f n<;>simp[h]
theorem FY (f:Nat→Bool) (i:Nat):countB f (8*(i+1))=countB f (8*i)+Lib.onesCount (fe f i):=by
 have e:8*(i+1)=8*i+1+1+1+1+1+1+1+1:=by omega
 rw[e]
 simp only[eP]
 unfold fe
 rw[Kl]
 omega
theorem countB_le (f:Nat→Bool) (n:Nat):countB f n≤n:=by
 unfold countB
 have:=tV f (List.range n)
 simpa using this
theorem Mx:∀(b0 b1 b2 b3 b4 b5 b6 b7:Bool),gJ b0 b1 b2 b3 b4 b5 b6 b7≠255→Lib.trailingZeros8 (255 - gJ b0 b1 b2 b3 b4 b5 b6 b7)<8∧K5 b0 b1 b2 b3 b4 b5 b6 b7 (Lib.trailingZeros8 (255 - gJ b0 b1 b2 b3 b4 b5 b6 b7))=false∧∀j:Fin 8,j.val<Lib.trailingZeros8 (255 - gJ b0 b1 b2 b3 b4 b5 b6 b7)→K5 b0 b1 b2 b3 b4 b5 b6 b7 j.val=true:=by decide+kernel
theorem KE:∀(b0 b1 b2 b3 b4 b5 b6 b7:Bool),gJ b0 b1 b2 b3 b4 b5 b6 b7=255→∀j:Fin 8,K5 b0 b1 b2 b3 b4 b5 b6 b7 j.val=true:=by decide+kernel
theorem Nu (f:Nat→Bool) (i j:Nat) (hj:j<8):K5 (f (8*i)) (f (8*i+1)) (f (8*i+2)) (f (8*i+3)) (f (8*i+4)) (f (8*i+5)) (f (8*i+6)) (f (8*i+7)) j=f (8*i+j):=by
 have:=Q0 f (8*i+j)
 rwa [show (8*i+j)/8=i by omega,show (8*i+j)%8=j by omega] at this
theorem F7 (f:Nat→Bool) (i:Nat) (h:fe f i≠255):Lib.trailingZeros8 (255 - fe f i)<8∧f (8*i+Lib.trailingZeros8 (255 - fe f i))=false∧∀j,j<Lib.trailingZeros8 (255 - fe f i)→f (8*i+j)=true:=by
 obtain⟨h1,h2,h3⟩:=Mx _ _ _ _ _ _ _ _ h
 refine⟨h1,?_,fun j hj=> ?_⟩
 ·have:=Nu f i _ h1
  exact this.symm.trans h2
 ·have hj8:j<8:=mg hj h1
  exact(Nu f i j hj8).symm.trans (h3 ⟨j,hj8⟩ hj)
theorem IC (f:Nat→Bool) (i:Nat) (h:fe f i=255) (j:Nat) (hj:j<8):f (8*i+j)=true:=
 (Nu f i j hj).symm.trans (KE _ _ _ _ _ _ _ _ h ⟨j,hj⟩)
theorem Qg (b c:Bool) (n m:Nat):(b.toNat+2*n)|||(c.toNat+2*m)=(b||c).toNat+2*(n|||m):=by
 have h:∀(x:Bool) (k:Nat),(x.toNat+2*k)/2=k∧(x.toNat+2*k)%2=x.toNat:=by
  intro x k
  have:=x.toNat_le
  omega
 apply Nat.eq_of_testBit_eq
 intro i
 rw[Nat.testBit_or]
 cases i with
 |zero=>
  simp only[Nat.testBit_zero,(h _ _).2]
  cases b<;>cases c<;>rfl
 |succ i=>simp only[Nat.testBit_succ,(h _ _).1,Nat.testBit_or]
theorem vN (x0 x1 x2 x3 x4 x5 x6 x7:Bool):gJ x0 x1 x2 x3 x4 x5 x6 x7=x0.toNat+2*(x1.toNat+2*(x2.toNat+2*(x3.toNat+2*(x4.toNat+2*(x5.toNat+2*(x6.toNat+2*x7.toNat)))))):=by
 unfold gJ;omega
theorem Nr (a0 a1 a2 a3 a4 a5 a6 a7 b0 b1 b2 b3 b4 b5 b6 b7:Bool):gJ a0 a1 a2 a3 a4 a5 a6 a7|||gJ b0 b1 b2 b3 b4 b5 b6 b7=gJ (a0||b0) (a1||b1) (a2||b2) (a3||b3) (a4||b4) (a5||b5) (a6||b6) (a7||b7):=by
 rw[vN,vN,vN]
 simp only[Qg]
 cases a7<;>cases b7<;>rfl
theorem Nq (f g:Nat→Bool) (i:Nat):fe f i|||fe g i=fe (fun x=>f x||g x) i:=Nr _ _ _ _ _ _ _ _ _ _ _ _ _ _ _ _
theorem Mw (x:Int) (w:World) (h0:0≤x) (h1:x≤255):
  Calls Tryz.prog 116 #[.int .u8 x] w fun e w'=>e= .returned (.int .i64 (Lib.onesCount x.toNat))∧w'=w:=by
 have hq:wrap64 (Lib.pop8 x)=(Lib.onesCount x.toNat:Int):=by
  have e:=Lib.pop8_int x h0 h1
  generalize Lib.pop8 x=y at e ⊢
  unfold wrap64
  exact e
 go_enter Tryz.func116,Tryz.ntmps116
 go_wp2
 rw[hq]
 go_ret
 exact⟨rfl,rfl⟩
theorem Oz (x:Int) (w:World) (h0:0≤x) (h1:x≤255):
  Calls Tryz.prog 266 #[.int .u8 x] w fun e w'=>e= .returned (.int .i64 (Lib.trailingZeros8 x.toNat))∧w'=w:=by
 have hq:wrap64 (Lib.ntz8 x)=(Lib.trailingZeros8 x.toNat:Int):=by
  have e:=Lib.ntz8_int x h0 h1
  generalize Lib.ntz8 x=y at e ⊢
  unfold wrap64
  exact e
 go_enter Tryz.func266,Tryz.ntmps266
 go_wp2
 rw[hq]
 go_ret
 exact⟨rfl,rfl⟩
theorem has_eq (f:Nat→Bool) (b:Nat):(bits .and .u8 (((fe f (b/8):Nat):Int)/2^(b%8)) 1==1)=f b:=by
 have h:=KW f b
 have hl:=pK f (b/8)
 have e:(((fe f (b/8):Nat):Int)/2^(b%8))=((fe f (b/8)/2^(b%8):Nat):Int):=by
  rw[Int.natCast_ediv,Int.natCast_pow];rfl
 have hl2:fe f (b/8)/2^(b%8)<256:=Nat.lt_of_le_of_lt (Nat.div_le_self _ _) hl
 rw[e]
 have:=u8_and_nat (fe f (b/8)/2^(b%8)) 1 hl2 (by omega)
 rw[show ((1:Nat):Int)=1 from rfl] at this
 rw[this,Nat.and_one_is_mod,h]
 cases f b<;>rfl
theorem Q5 (mp off:Nat) (f:Nat→Bool) (b:Nat) (w:World) (hb:b<4096) (hc:w.cell? ⟨mp,off+b/8,none⟩=some (.int .u8 (fe f (b/8)))):
  Calls Tryz.prog 101 #[.pointer (some ⟨mp,off,none⟩),.int .i64 b] w fun e w'=>e= .returned (.bool (f b))∧w'=w:=by
 have hlt:=ay w _ hc
 have hlt':mp<w.heap.size:=hlt
 have HQ:=af (has_eq f b)
 go_enter Tryz.func101,Tryz.ntmps101
 go_wp2
 rw[HQ.out]
 go_ret
 exact⟨rfl,rfl⟩
theorem Jk (j:Nat) (hj:j<8):IntKind.u8.wrap ((1:Int)*2^j)=((2^j:Nat):Int):=by
 match j,hj with
 |0,_=>rfl
 |1,_=>rfl
 |2,_=>rfl
 |3,_=>rfl
 |4,_=>rfl
 |5,_=>rfl
 |6,_=>rfl
 |7,_=>rfl
theorem Ro (mp off:Nat) (f:Nat→Bool) (b:Nat) (w:World) (hb:b<4096) (hc:w.cell? ⟨mp,off+b/8,none⟩=some (.int .u8 (fe f (b/8)))) (hfz:w.frozen? ⟨mp,off+b/8,none⟩=false):
  Calls Tryz.prog 267 #[.pointer (some ⟨mp,off,none⟩),.int .i64 b] w fun e w'=>e= .returned (.tuple #[])∧w'=w.drew.setCell ⟨mp,off+b/8,none⟩ (.int .u8 (fe (gm f b true) (b/8))):=by
 have hlt:=ay w _ hc
 have hlt':mp<w.drew.heap.size:=hlt
 have hp:=KV f b
 obtain⟨n1,hn1⟩:∃n,Hid (fe (gm f b true) (b/8)=n):=⟨_,af rfl⟩
 rw[hn1.out] at hp ⊢
 obtain⟨n0,hn0⟩:∃n,Hid (fe f (b/8)=n):=⟨_,af rfl⟩
 rw[hn0.out] at hp hc
 have q1:IntKind.i64.wrap ((b:Int)/8)=((b/8:Nat):Int):=by rw[aF _ (by omega)];omega
 have q2:Int.tmod (b:Int) 8=((b%8:Nat):Int):=by rw[yJ (by omega)];omega
 have hj8:b%8<8:=by omega
 have q3:=Jk (b%8) hj8
 have hi5:b/8<512:=by omega
 generalize b%8=j at*
 generalize b/8=i at*
 have hi6:(i:Int)<512:=by omega
 have hc':w.drew.cell? ⟨mp,off+i,none⟩=some (.int .u8 n0):=hc
 have hf':w.drew.frozen? ⟨mp,off+i,none⟩=false:=hfz
 go_enter Tryz.func267,Tryz.ntmps267
 go_wp2_with fail
 refine aO (fun W=>W=w.drew) (fun i=> !([12].contains i)) [0,1,2,3,4,5,6,7,8,9,10,11,12] rfl (by kernel_rfl) rfl ?_
 repeat ((refine bG (v:= ?_) rfl rfl (fun _ _ _ h=>h) rfl (fun W hW=> ?_) ?_);rotate_left;(focus ((try dsimp only at hW);subst hW;(try rw[q1]);(try rw[q2]);(go_simp;first|done|with_reducible rfl)));(try simp only[Act.put,ai,au,aj]))
 have q4:IntKind.u8.wrap ((2:Int)^j)=((2^j:Nat):Int):=by
  simpa using q3
 rw[q4,hp]
 refine iN rfl rfl rfl (by kernel_rfl) ?_;intro K hK;go_simp
 refine hK.out _ _ ?_
 refine bK ?_
 go_wp2_with fail
 go_end0
 exact⟨rfl,rfl⟩
theorem Rp (mp off:Nat) (f:Nat→Bool) (b:Nat) (w:World) (hb:b<4096) (hc:w.cell? ⟨mp,off+b/8,none⟩=some (.int .u8 (fe f (b/8)))) (hfz:w.frozen? ⟨mp,off+b/8,none⟩=false):
  Calls Tryz.prog 265 #[.pointer (some ⟨mp,off,none⟩),.int .i64 b] w fun e w'=>e= .returned (.tuple #[])∧w'=w.drew.setCell ⟨mp,off+b/8,none⟩ (.int .u8 (fe (gm f b false) (b/8))):=by
 have hlt:=ay w _ hc
 have hlt':mp<w.drew.heap.size:=hlt
 have hp:=KX f b
 obtain⟨n1,hn1⟩:∃n,Hid (fe (gm f b false) (b/8)=n):=⟨_,af rfl⟩
 rw[hn1.out] at hp ⊢
 obtain⟨n0,hn0⟩:∃n,Hid (fe f (b/8)=n):=⟨_,af rfl⟩
 rw[hn0.out] at hp hc
 have q1:IntKind.i64.wrap ((b:Int)/8)=((b/8:Nat):Int):=by rw[aF _ (by omega)];omega
 have q2:Int.tmod (b:Int) 8=((b%8:Nat):Int):=by rw[yJ (by omega)];omega
 have hj8:b%8<8:=by omega
 have q3:=Jk (b%8) hj8
 have hi5:b/8<512:=by omega
 generalize b%8=j at*
 generalize b/8=i at*
 have hi6:(i:Int)<512:=by omega
 have hc':w.drew.cell? ⟨mp,off+i,none⟩=some (.int .u8 n0):=hc
 have hf':w.drew.frozen? ⟨mp,off+i,none⟩=false:=hfz
 go_enter Tryz.func265,Tryz.ntmps265
 go_wp2_with fail
 refine aO (fun W=>W=w.drew) (fun i=> !([12].contains i)) [0,1,2,3,4,5,6,7,8,9,10,11,12] rfl (by kernel_rfl) rfl ?_
 repeat ((refine bG (v:= ?_) rfl rfl (fun _ _ _ h=>h) rfl (fun W hW=> ?_) ?_);rotate_left;(focus ((try dsimp only at hW);subst hW;(try rw[q1]);(try rw[q2]);(go_simp;first|done|with_reducible rfl)));(try simp only[Act.put,ai,au,aj]))
 have q4:IntKind.u8.wrap ((2:Int)^j)=((2^j:Nat):Int):=by
  simpa using q3
 rw[q4,hp]
 refine iN rfl rfl rfl (by kernel_rfl) ?_;intro K hK;go_simp
 refine hK.out _ _ ?_
 refine bK ?_
 go_wp2_with fail
 go_end0
 exact⟨rfl,rfl⟩
theorem KA (cs:List Value) (i:Nat) (n:Int) (hi:i<512) (h:cs[i]? =some (.int .u8 n)) (W:World):(Instr.index 165 (.agg cs.toArray) (.int .i64 (i:Int))).run Tryz.prog W= .ok (.int .u8 n) W:=by
 have hl:=(bT.1 h).1
 have e1:(0:Int)≤(i:Int)∧(i:Int)<512:=by omega
 simp[Instr.index,eT Tryz.underlying165,asIntOf,e1,part,go_sem,h]
 omega
theorem onesCount_le8 (n:Nat) (h:n<256):Lib.onesCount n≤8:=Lib.onesCount_le8 ⟨n,h⟩
def nZ (n:Nat) (now old:Nat→Bool):List Value:= .int .i64 n::(aG (bytesOf now)++aG (bytesOf old))
def oK (w:World) (mp n:Nat) (now old:Nat→Bool):Prop:=Row w mp 167 (nZ n now old)
theorem oZ (f:Nat→Bool) (i:Nat) (hi:i<512):(aG (bytesOf f))[i]? =some (.int .u8 (fe f i)):=by
 unfold aG
 rw[eX,AX f i hi]
 simp only[iJ,Ac]
theorem fP (f:Nat→Bool):(aG (bytesOf f)).length=512:=by rw[bq,bytesOf_length]
theorem EZ (n:Nat) (now old:Nat→Bool) (i:Nat) (hi:i<512):(nZ n now old)[1+i]? =some (.int .u8 (fe now i)):=by
 unfold nZ
 rw[xh,dS,fq (by rw[fP];exact hi)]
 exact oZ now i hi
theorem EY (n:Nat) (now old:Nat→Bool) (i:Nat) (hi:i<512):(nZ n now old)[513+i]? =some (.int .u8 (fe old i)):=by
 unfold nZ
 rw[show 513+i=(512+i)+1 by omega,dS,cO (by rw[fP];omega),fP,eF]
 exact oZ old i hi
theorem oK.cells {w:World} {mp n:Nat} {now old:Nat→Bool} (h:oK w mp n now old):w.cell? ⟨mp,0,none⟩=some (.int .i64 n)∧mp<w.heap.size∧(∀j,w.frozen? ⟨mp,j,none⟩=false)∧(∀i,i<512→w.cell? ⟨mp,1+i,none⟩=some (.int .u8 (fe now i)))∧∀i,i<512→w.cell? ⟨mp,513+i,none⟩=some (.int .u8 (fe old i)):=by
 refine⟨?_,h.lt,h.frozen,fun i hi=> ?_,fun i hi=> ?_⟩
 ·rw[h.cell];rfl
 ·rw[h.cell];exact EZ n now old i hi
 ·rw[h.cell];exact EY n now old i hi
theorem oK.keep {w w':World} {mp n:Nat} {now old:Nat→Bool} (h:oK w mp n now old) (hb:w'.heap[mp]? =w.heap[mp]?):oK w' mp n now old:=hb.trans h
theorem IJ (l:List UInt8) (i:Nat) (x:UInt8):(aG l).set i (.int .u8 x.toNat)=aG (l.set i x):=by
 unfold aG
 rw[List.map_set]
theorem oK.set {w:World} {mp n:Nat} {now old:Nat→Bool} (h:oK w mp n now old) (b:Nat) (v:Bool) (hb:b<4096):oK (w.setCell ⟨mp,1+b/8,none⟩ (.int .u8 (fe (gm now b v) (b/8)))) mp n (gm now b v) old:=by
 have e:(nZ n now old).set (1+b/8) (.int .u8 (fe (gm now b v) (b/8)))=nZ n (gm now b v) old:=by
  unfold nZ
  rw[xh,aj,JL _ _ (by rw[fP];omega)]
  have:=IJ (bytesOf now) (b/8) (UInt8.ofNat (fe (gm now b v) (b/8)))
  rw[Ac,F4 now b v hb] at this
  rw[this]
 unfold oK Row at*
 rw[←e]
 simp[World.setCell,aL,h]
theorem QO (mp n:Nat) (now old:Nat→Bool) (b:Nat) (w:World) (h:oK w mp n now old) (hn:n≤4096) (hb:b≤4096):
  Calls Tryz.prog 81 #[.pointer (some ⟨mp,0,none⟩),.int .i64 b] w fun e w'=>e= .returned (.bool (decide (b<n) && now b))∧w'=w:=by
 obtain⟨c0,hlt,hfz,hnow,_⟩:=h.cells
 by_cases hbn:b<n
 ·have HB:=af (Q5 mp 1 now b w (by omega) (hnow _ (by omega)))
  have x1:(0:Int)≤(b:Int):=by omega
  have x2:(b:Int)<(n:Int):=by omega
  have x3:(decide (b<n) && now b)=now b:=by simp[hbn]
  rw[x3]
  clear h hnow
  go_enter Tryz.func81,Tryz.ntmps81
  go_wp2_with (first
   |(go_at_call 101;go_must (refine HB.out.mono ?_;rintro e w1 ⟨rfl,hw1⟩;subst w1)))
  go_ret
  exact⟨rfl,rfl⟩
 ·have x1:(0:Int)≤(b:Int):=by omega
  have x2:¬(b:Int)<(n:Int):=by omega
  have x3:(decide (b<n) && now b)=false:=by simp[hbn]
  rw[x3]
  clear h hnow
  go_enter Tryz.func81,Tryz.ntmps81
  go_wp2_with fail
  go_ret
  exact⟨rfl,rfl⟩
theorem QR (mp n:Nat) (now old:Nat→Bool) (b:Nat) (w:World) (h:oK w mp n now old) (hn:n≤4096) (hb2:2≤b) (hb:b<n) (hnow:now b=true):
  Calls Tryz.prog 263 #[.pointer (some ⟨mp,0,none⟩),.int .i64 b] w fun e w'=>e= .returned (.int .i64 0)∧oK w' mp n (gm now b false) old∧Keep (· =mp) w w':=by
 have HM:=QO mp n now old b w h hn (by omega)
 rw[hnow,dI hb] at HM
 have HM:=af HM
 obtain⟨c0,hlt,hfz,hc,_⟩:=h.cells
 have HC:=af (Rp mp 1 now b w (by omega) (hc _ (by omega)) (hfz _))
 have HS:=af (oK.set (w:=w.drew) (show oK w.drew mp n now old from h) b false (by omega))
 have x1:¬(b:Int)<2:=by omega
 have x2:¬b<2:=by omega
 clear h hc
 go_enter Tryz.func263,Tryz.ntmps263
 go_wp2_with (first
  |(go_at_call 81;go_must (refine HM.out.mono ?_;rintro e w1 ⟨rfl,hw1⟩;subst w1))
  |(go_at_call 265;go_must (refine HC.out.mono ?_;rintro e w1 ⟨rfl,hw1⟩;subst w1)))
 go_ret
 exact⟨rfl,HS.out,((Keep.refl (· =mp) w).drew).setCell (p:=⟨mp,1+b/8,none⟩) (.inr rfl) _⟩
theorem sM:(Tryz.prog.info? 165).map (fun i=>i.size)=some 512:=by kernel_rfl
theorem O7 (mp n:Nat) (now old:Nat→Bool) (w:World) (h:oK w mp n now old):
  Calls Tryz.prog 66 #[.pointer (some ⟨mp,0,none⟩)] w fun e w'=>e= .returned (.int .i64 (countB now 4096))∧w'=w:=by
 obtain⟨c0,hlt,hfz,hc,_⟩:=h.cells
 have hrg:w.rangeAt mp 1 (aG (bytesOf now)):=Row.range (off:=1) (n:=512) h (by
  unfold nZ
  rw[List.drop_one,List.tail_cons,bH (by rw[fP];exact aC _),aJ (by rw[fP];exact aC _)])
 have hbl:=fP now
 have hat:=af (fun i (hi:i<512) (W:World)=>KA (aG (bytesOf now)) i _ hi (oZ now i hi) W)
 obtain⟨C,HC⟩:∃C,Hid (aG (bytesOf now)=C):=⟨_,af rfl⟩
 rw[HC.out] at hrg hbl hat
 have HL:=af hbl
 clear h hc hbl
 go_enter Tryz.func66,Tryz.ntmps66
 go_wp2_with (first
  |((refine dG rfl ?_);intro K hK;(refine wp_load_mid 165 _ rfl mp 1 rfl C _ hrg Tryz.underlying165 rfl (sM.trans (congrArg some HL.out.symm)) ?_);refine hK _ _ ?_))
 go_loopw [3,5,12] (fun s _ i wr=>∃k:Nat,k≤512∧i= .int .i64 k∧s= .int .i64 (countB now (8*k))∧wr=w) (fun _ _ i _=>512 - (intOf i).toNat)
 case atStart=>exact⟨0,by omega,rfl,rfl,rfl⟩
 case round=>
  obtain⟨k,hk,rfl,rfl,rfl⟩:=hrel
  have hcl:=countB_le now (8*k)
  by_cases hk5:k<512
  ·have x1:(k:Int)<512:=by omega
   have hidx:=hat.out k hk5
   have hon:=Mw (fe now k:Int) wr (by omega) (by have:=pK now k;omega)
   rw[eH] at hon
   have HON:=af hon;clear hon
   have HCB:=af (FY now k)
   have hbl:=onesCount_le8 (fe now k) (pK now k)
   go_wp2_with (first
    |(go_at_call 116;go_must (refine HON.out.mono ?_;rintro e w1 ⟨rfl,hw1⟩;subst w1)))
   go_roundw
   case rel=>exact⟨k+1,by omega,by go_num,by rw[HCB.out];go_num,by trivial⟩
   case measure=>simp[intOf];omega
  ·obtain rfl:k=512:=by omega
   go_wp2_with fail
   go_ret
   exact⟨rfl,rfl⟩
theorem oK.below {w w':World} {mp n:Nat} {now old:Nat→Bool} (h:oK w mp n now old) (hb:Below w.heap.size w w'):oK w' mp n now old:=h.keep (hb.block _ h.lt)
theorem Pq:∀a:Fin 256,255^^^a.val=255 - a.val:=by decide+kernel
theorem PW (n:Nat) (h:n<256):bits .xor .u8 (if IntKind.u8.signed=true then -1 else IntKind.u8.max) (n:Int)=((255 - n:Nat):Int):=by
 have e:(if IntKind.u8.signed=true then(-1:Int) else IntKind.u8.max)=((255:Nat):Int):=rfl
 rw[e,u8_xor_nat 255 n (by omega) h,Pq ⟨n,h⟩]
theorem QN (mp n:Nat) (now old:Nat→Bool) (w:World) (h:oK w mp n now old) (hn:n≤4096):
  Calls Tryz.prog 264 #[.pointer (some ⟨mp,0,none⟩)] w fun e w'=>
   (∃b:Nat,b<n∧(now b||old b)=false∧(∀x,x<b→(now x||old x)=true)∧e= .returned (.tuple #[.int .i64 b,.int .i64 0])∧oK w' mp n (gm now b true) old∧Keep (· =mp) w w')∨
   ((∀x,x<n→(now x||old x)=true)∧e= .returned (.tuple #[.int .i64 0,.int .i64 12])∧Below w.heap.size w w'):=by
 obtain⟨_,hlt0,_⟩:=h.cells
 have HM:=af (fun (W:World) (hW:Below w.heap.size w W)=>(h.below hW))
 clear h
 go_enter Tryz.func264,Tryz.ntmps264
 go_wp2_with fail
 go_loopw [4,5,6,9] (fun _ _ _ i wr=>∃k:Nat,k≤512∧i= .int .i64 k∧Below w.heap.size w wr∧∀x,x<8*k→(now x||old x)=true) (fun _ _ _ i _=>512 - (intOf i).toNat)
 case atStart=>exact⟨0,by omega,rfl,aR _ _,fun x hx=>by omega⟩
 case round=>
  obtain⟨k,hk,rfl,hb,hall⟩:=hrel
  have HA:=af hall;clear hall
  have HB:=af hb;clear hb
  by_cases hk5:k<512
  ·have x1:(k:Int)<512:=by omega
   obtain⟨f,hf⟩:∃f:Nat→Bool,f=fun x=>now x||old x:=⟨_,rfl⟩
   have hor:bits .or .u8 (fe now k:Int) (fe old k:Int)=(fe f k:Int):=by
    rw[u8_or_nat _ _ (pK _ _) (pK _ _),Nq,hf]
   have hfl:=pK f k
   have HCC:=af (fun (W:World) (hW:Below w.heap.size w W)=>(show W.cell? ⟨mp,0,none⟩=some (.int .i64 n)∧mp<W.heap.size∧W.cell? ⟨mp,1+k,none⟩=some (.int .u8 (fe now k))∧W.cell? ⟨mp,513+k,none⟩=some (.int .u8 (fe old k)) from by
    obtain⟨a,b,c,d,e⟩:=(HM.out W hW).cells
    exact⟨a,b,d k hk5,e k hk5⟩))
   go_wp2_with fail
   refine aO (fun W=>Below w.heap.size w W) (fun _=>true) [0,1,2,3,4,5,6,7,8,9,10,11,12,13,14] rfl (by kernel_rfl) HB.out.drew ?_
   repeat ((refine bG (v:= ?_) rfl rfl (fun _ _ _ h=>h) rfl (fun W hW=> ?_) ?_);rotate_left;(focus ((try dsimp only at hW);obtain⟨r0,r1,r2,r3⟩:=HCC.out W hW;(try rw[hor]);(go_simp;first|done|with_reducible rfl)));(try simp only[Act.put,ai,au,aj]))
   refine bK ?_
   have hxor:bits .xor .u8 (if IntKind.u8.signed=true then -1 else IntKind.u8.max) ((fe (fun x=>now x||old x) k:Nat):Int)=((255 - fe f k:Nat):Int):=by
    rw[←hf];exact PW _ hfl
   rw[hxor]
   clear hor hxor
   by_cases hfull:fe f k=255
   ·have y1:255 - fe f k=0:=by omega
    rw[y1]
    have HF:=af hfull;clear hfull hfl y1
    go_wp2_with fail
    go_roundw
    case rel=>
     refine⟨k+1,by omega,by go_num,HB.out.drew,fun x hx=> ?_⟩
     rcases gV x (8*k) with hx8|hx8
     ·exact HA.out x hx8
     ·have:=IC f k HF.out (x - 8*k) (by omega)
      rw[show 8*k+(x - 8*k)=x by omega,hf] at this
      exact this
    case measure=>simp[intOf];omega
   ·obtain⟨t1,t2,t3⟩:=F7 f k hfull
    obtain⟨m,hm⟩:∃m,m=255 - fe f k:=⟨_,rfl⟩
    rw[←hm] at t1 t2 t3 ⊢
    obtain⟨tz,htz⟩:∃z,z=Lib.trailingZeros8 m:=⟨_,rfl⟩
    rw[←htz] at t1 t2 t3
    have hm0:¬m=0:=by omega
    have hm1:m≤255:=by omega
    have hnt:=Oz (m:Int) wr.drew (by omega) (by omega)
    rw[eH,←htz] at hnt
    have HNT:=af hnt
    have HT2:=af t2;have HT3:=af t3;have HHF:=af hf
    have hcm:(m:Int)≠0:=by omega
    have hc0:=(HCC.out _ HB.out.drew).1
    have hc1:=(HCC.out _ HB.out.drew).2.1
    clear hf hm htz hnt t2 t3 hfl hfull
    by_cases hbn:8*k+tz<n
    ·have z1:¬(n:Int)≤8*(k:Int)+(tz:Int):=by omega
     have hput:=Ro mp 1 now (8*k+tz) wr.drew (by omega) (by
      obtain⟨a,b,c,d,e⟩:=(HM.out _ HB.out.drew).cells
      exact d _ (by omega)) (by
      obtain⟨a,b,c,d,e⟩:=(HM.out _ HB.out.drew).cells
      exact c _)
     have hcast:((8*k+tz:Nat):Int)=8*(k:Int)+(tz:Int):=by omega
     rw[hcast] at hput
     have HPUT:=af hput;clear hput hcast
     have HSET:=af (oK.set (HM.out _ (HB.out.drew.drew)) (8*k+tz) true (by omega))
     go_wp2_with (first
      |(go_at_call 266;go_must (refine HNT.out.mono ?_;rintro e w1 ⟨rfl,hw1⟩;subst w1))
      |(go_at_call 267;go_must (refine HPUT.out.mono ?_;rintro e w1 ⟨rfl,hw1⟩;subst w1)))
     go_ret2
     refine .inl ⟨8*k+tz,hbn,?_,fun x hx=> ?_,by go_num,HSET.out,?_⟩
     ·have:=HT2.out;rw[HHF.out] at this;exact this
     ·rcases gV x (8*k) with hx8|hx8
      ·exact HA.out x hx8
      ·have:=HT3.out (x - 8*k) (by omega)
       rw[show 8*k+(x - 8*k)=x by omega,HHF.out] at this
       exact this
     ·exact(Keep.of_below HB.out (· =mp)).drew.drew.setCell (p:=⟨mp,1+(8*k+tz)/8,none⟩) (.inr rfl) _
    ·have z1:(n:Int)≤8*(k:Int)+(tz:Int):=by omega
     go_wp2_with (first
      |(go_at_call 266;go_must (refine HNT.out.mono ?_;rintro e w1 ⟨rfl,hw1⟩;subst w1)))
     go_ret2
     refine .inr ⟨fun x hx=> ?_,rfl,HB.out.drew⟩
     rcases gV x (8*k) with hx8|hx8
     ·exact HA.out x hx8
     ·have:=HT3.out (x - 8*k) (by omega)
      rw[show 8*k+(x - 8*k)=x by omega,HHF.out] at this
      exact this
  ·obtain rfl:k=512:=by omega
   go_wp2_with fail
   go_ret2
   exact .inr ⟨fun x hx=>HA.out x (by omega),rfl,HB.out⟩
theorem Jd (t n:Nat) (w:World) (h2:2≤n) (hn:n≤4096):
  Calls Tryz.prog 88 #[.iface 97 (.pointer (some ⟨t,0,none⟩)),.int .i64 n] w fun e w'=>e= .returned (.int .i64 0)∧w'=w:=by
 have x1:¬(n:Int)<2:=by omega
 have x2:¬(4096:Int)<(n:Int):=by omega
 have x3:¬n<2:=by omega
 have x4:¬4096<n:=by omega
 go_enter Tryz.func88,Tryz.ntmps88
 go_wp2_with fail
 go_ret
 exact⟨rfl,rfl⟩
def two (b:Nat):Bool:=decide (b<2)
theorem two_bytes:bytesOf two=pad [3]:=by decide+kernel
theorem PI (t pg d:Nat) (σ:Dk) (l:Lg) (p:Pg) (op:Value) (im:Im) (S T:Nat→Prop) (w:World) (h:iy w S pg d σ l p op) (ht:p9 w T t pg im (p.blocks σ)) (hd:p.dead=false) (h2:2≤p.blocks σ):
  Calls Tryz.prog 50 #[.iface 97 (.pointer (some ⟨t,0,none⟩)),.int .i64 (p.blocks σ)] w fun e w'=>e= .returned (.int .i64 0)∧p9 w' T t pg (im.put 0 (bytesOf two)) (p.blocks σ)∧Step T T w w':=by
 have hbl:p.blocks σ≤4096:=by have:=h.ok.2.1.hi;unfold Pg.blocks;omega
 have HC:=af (Jd t (p.blocks σ) w h2 hbl)
 have hb1:=aI w (.cells #[.int .u8 3] 5)
 have hv:aX (w.alloc (.cells #[.int .u8 3] 5)) gL 1 (.slice (some ⟨w.heap.size,0,none⟩) 1 1) ([3]:List UInt8).length (aG [3]):=by
  have hr:Row (w.alloc (.cells #[.int .u8 3] 5)) w.heap.size 5 (aG [3]):=aS w _
  exact hr.cK (S:=gL) (k:=1) (off:=0) 1 1 (by simp[aG]) id (aC _) (by simp[maxLen])
 have HW:=af (GA t pg d σ l p op im S T 0 _ [3] _ (h.below hb1) (ht.below hb1) hd (by omega) hv (by simp))
 rw[←two_bytes] at HW
 have hm:∀w,(method 458 97 (.pointer (some ⟨t,0,none⟩)) "Write").run Tryz.prog w= .ok (64,.pointer (some ⟨t,0,none⟩)) w:=fun _=>by kernel_rfl
 go_enter Tryz.func50,Tryz.ntmps50
 go_wp2_with (first
  |(go_at_call 88;go_must (refine HC.out.mono ?_;rintro e w1 ⟨rfl,hw1⟩;subst w1))
  |(go_at_call 64;go_must (refine HW.out.mono ?_;rintro e w1 ⟨rfl,ht1,hs1⟩)))
 go_ret
 exact⟨rfl,ht1,(Step.of_below hb1).trans hs1⟩
theorem KY (i:Int):Tryz.prog.built 167 [(0,.int .i64 i)]=some (Value.int .i64 i::(aG zB++aG zB)).toArray:=by kernel_rfl
theorem GV (i:Int) (l:List UInt8) (hl:l.length=512):splice (Value.int .i64 i::(aG zB++aG zB)) 1 (aG l)=Value.int .i64 i::(aG l++aG zB):=by
 have h1:(aG l).length=512:=by rw[bq,hl]
 have h2:(aG zB).length=512:=by rw[bq,ig]
 unfold splice
 rw[h1,kL,iH,show 1+512=512+1 by rfl,fw,dX (jU h2.symm),←h2,kX]
 simp
theorem GU (i:Int) (l:List UInt8) (hl:l.length=512):splice (Value.int .i64 i::(aG l++aG zB)) 513 (aG l)=Value.int .i64 i::(aG l++aG l):=by
 have h1:(aG l).length=512:=by rw[bq,hl]
 have h2:(aG zB).length=512:=by rw[bq,ig]
 unfold splice
 rw[h1,show 513=512+1 by rfl,kL,show 512+1+512=1024+1 by rfl,fw,bH (jU h1.symm),←h1,dh,dD (by rw[av,h1,h2];omega)]
 simp
theorem PK (t pg d:Nat) (σ:Dk) (l:Lg) (p:Pg) (op:Value) (im:Im) (S T:Nat→Prop) (f:Nat→Bool) (w:World) (h:iy w S pg d σ l p op) (ht:p9 w T t pg im (p.blocks σ)) (hd:p.dead=false) (hsd:σ.dead=false) (h2:2≤p.blocks σ)
  (hf:p.look im σ 0=bytesOf f) (hhi:∀b,p.blocks σ≤b→f b=false) (h0:f 0=true) (h1:f 1=true):
  Calls Tryz.prog 54 #[.iface 97 (.pointer (some ⟨t,0,none⟩)),.int .i64 (p.blocks σ)] w fun e w'=>∃mp,e= .returned (.tuple #[.pointer (some ⟨mp,0,none⟩),.int .i64 0])∧oK w' mp (p.blocks σ) f f∧w.heap.size≤mp∧Below w.heap.size w w':=by
 have hbl:p.blocks σ≤4096:=by have:=h.ok.2.1.hi;unfold Pg.blocks;omega
 have HC:=af (Jd t (p.blocks σ) w h2 hbl)
 have HR:=tread t pg d σ l p op im S T 0 w h ht hd hsd (by omega)
 rw[hf] at HR
 have HR:=af HR
 obtain⟨n,hn⟩:∃n,n=p.blocks σ:=⟨_,rfl⟩
 rw[←hn] at HC h2 hhi hbl ⊢
 have HHI:=af hhi;have H0:=af h0;have H1:=af h1
 have hlb:=bytesOf_length f
 have hm:∀w,(method 458 97 (.pointer (some ⟨t,0,none⟩)) "Read").run Tryz.prog w= .ok (56,.pointer (some ⟨t,0,none⟩)) w:=fun _=>by kernel_rfl
 clear h ht hf hhi h0 h1 hn
 go_enter Tryz.func54,Tryz.ntmps54
 go_wp2_with (first
  |(go_at_call 88;go_must (refine HC.out.mono ?_;rintro e w1 ⟨rfl,hw1⟩;subst w1))
  |(go_at_call 56;go_must (refine HR.out.mono ?_;rintro e w1 ⟨v,rfl,hv,hvb,hb1⟩;obtain⟨ao,cp,rfl,n0,m0,_,_⟩:=aX.form hv))
  |((refine dG rfl ?_);intro K hK;(refine vS 167 _ rfl (Value.int .i64 (n:Int)::(aG zB++aG zB)) (KY n) ?_);refine hK _ _ ?_)
  |((refine dG rfl ?_);intro K hK;(refine zn 167 _ rfl (Value.int .i64 (n:Int)::(aG zB++aG zB)) rfl ?_);refine hK _ _ (Stop.of ?_)))
 refine Stop.on ?_
 obtain⟨mp,HMP⟩:∃mp,Hid (w1.heap.size=mp):=⟨_,af rfl⟩
 obtain⟨w2,HW2⟩:∃w2:World,Hid (w1.alloc (.cells (Value.int .i64 (n:Int)::(aG zB++aG zB)).toArray 167)=w2):=⟨_,af rfl⟩
 have hr2:Row w2 mp 167 (Value.int .i64 (n:Int)::(aG zB++aG zB)):=by rw[←HW2.out,←HMP.out];exact Row.new w1 _ _
 have hb2:Below w1.heap.size w1 w2:=by rw[←HW2.out];exact aI w1 _
 rw[HW2.out,HMP.out]
 have hv2:=aX.below hv hb2
 have hlen:=af (fP f)
 have hfst:=hv2.first (P:=Tryz.prog) 512 (aC _)
 rw[aV,aJ (jU hlen.out)] at hfst
 have hfst:=af hfst
 have hz2:=af (show (Value.int .i64 (n:Int)::(aG zB++aG zB)).length=1025 by rw[bf,av,bq,ig])
 go_wp2_with (first
  |((refine dG rfl ?_);intro K hK;(refine fT (.tmp 31) (.tmp 32) 86 86 rfl 5 1 1 (.int .u8 0) Tryz.underlying86 jN mp 1 167 512 512 512 (some ⟨mp,1,none⟩) _ rfl hr2 (.slice ao 512 cp) rfl 512 (aG (bytesOf f)) rfl ?_ ?_ hfst.out (fun _=>rfl) ?_ (gT _) ?_);go_must ((focus rfl);(focus (rw[hlen.out,aV]));(focus (rw[hlen.out,hz2.out];omega));intro w3 hr3 hk3;refine hK _ _ (Stop.of ?_))))
 refine Stop.on ?_
 rw[GV _ _ hlb] at hr3
 have hb3:Below w.heap.size w w3:=by
  have hk2:Keep gL w1 w3:=(Keep.of_below hb2 gL).trans hk3 (fun i hi e=>absurd hi (by rw[e,HMP.out];exact di _))
  exact hb1.trans (hk2.below.mono hb1.size)
 have hmpw:w.heap.size≤mp:=by rw[←HMP.out];exact hb1.size
 have HR3:=af hr3;have HB3:=af hb3
 have hcell:∀i,i<512→w3.cell? ⟨mp,1+i,none⟩=some (.int .u8 (fe f i)):=fun i hi=>by
  rw[hr3.cell,xh,dS,fq (by rw[hlen.out];exact hi)]
  exact oZ f i hi
 have hlt3:=hr3.lt
 have HBH:=af (fun b (hb:b<4096)=>Q5 mp 1 f b w3 hb (hcell _ (by omega)))
 have hrg:w3.rangeAt mp 1 (aG (bytesOf f)):=Row.range (off:=1) (n:=512) hr3 (by
  rw[List.drop_one,List.tail_cons,bH (by rw[hlen.out];exact aC _),aJ (by rw[hlen.out];exact aC _)])
 have hz3:=af (show (Value.int .i64 (n:Int)::(aG (bytesOf f)++aG zB)).length=1025 by rw[bf,av,bq,bq,hlb,ig])
 have hone:=gT (bytesOf f)
 clear hr3 hb3 hk3 hcell hr2 hb2 hv2 hv hb1 hfst HW2 HR HC hm hz2
 obtain⟨C,HCC⟩:∃C,Hid (aG (bytesOf f)=C):=⟨_,af rfl⟩
 rw[HCC.out] at hrg hlen hone HR3 hz3
 obtain⟨Z,HZ⟩:∃Z,Hid (aG zB=Z):=⟨_,af rfl⟩
 rw[HZ.out] at HR3 hz3
 go_wp2_with fail
 go_loopw [10] (fun i wr=>∃k:Nat,n≤k∧k≤4096∧i= .int .i64 k∧wr=w3) (fun i _=>4096 - (intOf i).toNat)
 case atStart=>exact⟨n,aC _,hbl,rfl,rfl⟩
 case round=>
  obtain⟨k,hk1,hk2,rfl,rfl⟩:=hrel
  by_cases hk5:k<4096
  ·have x1:(k:Int)<4096:=by omega
   have hh:=HBH.out k hk5
   rw[HHI.out k hk1] at hh
   have HH:=af hh;clear hh
   go_wp2_with (first
    |(go_at_call 101;go_must (refine HH.out.mono ?_;rintro e w1 ⟨rfl,hw1⟩;subst w1)))
   go_roundw
   case rel=>exact⟨k+1,by omega,by omega,by go_num,by trivial⟩
   case measure=>simp[intOf];omega
  ·have x1:¬(k:Int)<4096:=by omega
   have x2:¬k<4096:=hk5
   have h0:=HBH.out 0 (by omega)
   have h1:=HBH.out 1 (by omega)
   rw[H0.out] at h0
   rw[H1.out] at h1
   have HH0:=af h0;have HH1:=af h1;clear h0 h1
   go_wp2_with (first
    |(go_at_call 101;go_must (refine HH0.out.mono ?_;rintro e w1 ⟨rfl,hw1⟩;subst w1;refine Stop.of ?_)))
   refine Stop.on ?_
   go_wp2_with (first
    |(go_at_call 101;go_must (refine HH1.out.mono ?_;rintro e w1 ⟨rfl,hw1⟩;subst w1))
    |((refine dG rfl ?_);intro K hK;(refine wp_load_mid 165 _ rfl mp 1 rfl C _ hrg Tryz.underlying165 rfl (sM.trans (congrArg some hlen.out.symm)) ?_);refine hK _ _ ?_)
    |((refine dG rfl ?_);intro K hK;(refine wp_store_row 165 _ _ rfl mp 513 167 _ C rfl rfl HR3.out (sM.trans (congrArg some hlen.out.symm)) (by rw[hz3.out,hlen.out];omega) hone ?_);intro w4 hr4 hk4;refine hK _ _ (Stop.of ?_)))
   refine Stop.on ?_
   rw[←HCC.out,←HZ.out,GU _ _ hlb] at hr4
   have HR4:=af hr4;have HK4:=af hk4
   clear hr4 hk4
   go_wp2_with fail
   go_ret2
   exact⟨mp,rfl,HR4.out,hmpw,HB3.out.trans (HK4.out.jg HB3.out.size (fun i hi e=>absurd hi (aY.2 (by rw[e];exact hmpw))))⟩
theorem Le (w:World):(zeroValue 165).run Tryz.prog w= .ok (.agg (aG zB).toArray) w:=by kernel_rfl
theorem EW {l:List UInt8} (h:l.length=512):pad l=l:=by simp[pad,h]
theorem Oa (t pg d mp n:Nat) (now old:Nat→Bool) (σ:Dk) (l:Lg) (p:Pg) (op:Value) (im:Im) (S T:Nat→Prop) (w:World) (h:iy w S pg d σ l p op) (ht:p9 w T t pg im (p.blocks σ)) (hd:p.dead=false) (h2:0<p.blocks σ) (hmp:oK w mp n now old):
  Calls Tryz.prog 65 #[.pointer (some ⟨mp,0,none⟩),.iface 97 (.pointer (some ⟨t,0,none⟩))] w fun e w'=>e= .returned (.int .i64 0)∧p9 w' T t pg (im.put 0 (bytesOf now)) (p.blocks σ)∧Step T T w w':=by
 obtain⟨c0,hlt,hfz,hc,_⟩:=hmp.cells
 have hrg:w.rangeAt mp 1 (aG (bytesOf now)):=Row.range (off:=1) (n:=512) hmp (by
  unfold nZ
  rw[List.drop_one,List.tail_cons,bH (by rw[fP];exact aC _),aJ (by rw[fP];exact aC _)])
 have hlen:=af (fP now)
 have hone:=gT (bytesOf now)
 have hlb:=bytesOf_length now
 have hr1:Row (w.alloc (.cells (aG zB).toArray 165)) w.heap.size 165 (aG zB):=Row.new w _ _
 have hz1:=af (show (aG zB).length=512 by rw[bq,ig])
 have HW:=af (fun (W:World) (hW:Below w.heap.size w W) (hv:aX W gL 1 (.slice (some ⟨w.heap.size,0,none⟩) 512 512) (bytesOf now).length (aG (bytesOf now)))=>GA t pg d σ l p op im S T 0 _ (bytesOf now) W (h.below hW) (ht.below hW) hd h2 hv (by omega))
 rw[EW hlb] at HW
 have hm:∀w,(method 458 97 (.pointer (some ⟨t,0,none⟩)) "Write").run Tryz.prog w= .ok (64,.pointer (some ⟨t,0,none⟩)) w:=fun _=>by kernel_rfl
 have hmf:∀(fn:Fn) (first cap:Array Value) (w:World),(Instr.makeFunc fn first cap).run Tryz.prog w= .ok (.func fn first cap) w:=fun _ _ _ _=>rfl
 obtain⟨C,HC⟩:∃C,Hid (aG (bytesOf now)=C):=⟨_,af rfl⟩
 rw[HC.out] at hrg hlen hone
 clear h ht hmp hc
 go_enter Tryz.func65,Tryz.ntmps65
 go_wp2_with (first
  |((refine dG rfl ?_);intro K hK;(refine wp_load_mid 165 _ rfl mp 1 rfl C _ hrg Tryz.underlying165 rfl (sM.trans (congrArg some hlen.out.symm)) ?_);refine hK _ _ ?_)
  |((refine dG rfl ?_);intro K hK;(refine iM 165 rfl _ Le ?_);refine hK _ _ ?_)
  |((refine dG rfl ?_);intro K hK;(refine wp_store_row 165 _ _ rfl w.heap.size 0 165 _ C rfl rfl hr1 (sM.trans (congrArg some hlen.out.symm)) (by rw[hz1.out,hlen.out];omega) hone ?_);intro w3 hr3 hk3;refine hK _ _ (Stop.of ?_)))
 refine Stop.on ?_
 rw[lQ _ _ (hz1.out.trans hlen.out.symm),←HC.out] at hr3
 have hb3:Below w.heap.size w w3:=(((Keep.refl gL w).alloc _).trans hk3 (fun i hi e=>absurd hi (by rw[e];exact di _))).below
 have hv3:aX w3.drew gL 1 (.slice (some ⟨w.heap.size,0,none⟩) 512 512) (bytesOf now).length (aG (bytesOf now)):=by
  have hr3':Row w3.drew w.heap.size 165 (aG (bytesOf now)):=hr3
  have:=hr3'.cK (S:=gL) (k:=1) (off:=0) 512 512 (by rw[fP];omega) id (aC _) (by simp[maxLen])
  rw[eu,aJ (by rw[fP];omega)] at this
  rw[hlb];exact this
 have HWW:=af (HW.out _ hb3.drew hv3)
 clear hr3 hk3 hv3 HW hr1 hz1 hrg hone
 go_wp2_with fail
 refine aO (fun _=>True) (fun i=> !([5].contains i)) [0,1,2,3,4,5,6] rfl (by kernel_rfl) trivial ?_
 have hna:∀w,(nilAhead 458 97 (.pointer (some ⟨t,0,none⟩)) "Write").run Tryz.prog w= .ok (some false) w:=fun _=>by kernel_rfl
 repeat ((refine bG (v:= ?_) rfl rfl (fun _ _ _ h=>h) rfl (fun W hW=> ?_) ?_);rotate_left;(focus ((try dsimp only at hW);have:=hna;(go_simp;first|done|with_reducible rfl)));(try simp only[Act.put,ai,au,aj]))
 refine dz rfl rfl rfl ?_;intro K hK;go_simp
 refine HWW.out.mono ?_;rintro e w4 ⟨rfl,ht4,hs4⟩
 refine hK.out _ _ trivial ?_
 repeat ((refine bG (v:= ?_) rfl rfl (fun _ _ _ h=>h) rfl (fun W hW=> ?_) ?_);rotate_left;(focus ((try dsimp only at hW);have:=hna;(go_simp;first|done|with_reducible rfl)));(try simp only[Act.put,ai,au,aj]))
 refine bK ?_
 go_wp2_with fail
 go_ret
 exact⟨rfl,ht4,(Step.of_below hb3.drew).trans hs4⟩
end Go.Proofs.YtfgpefcphnpabaaGreat
