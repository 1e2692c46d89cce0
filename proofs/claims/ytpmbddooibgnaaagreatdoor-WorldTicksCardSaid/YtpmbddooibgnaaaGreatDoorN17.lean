/- parts -/
import Derived.Test.YtpmbddooibgnaaaGreatDoorN13
import Derived.Lib.BitFns
import Derived.Laws.BitsAllLaws
set_option maxRecDepth 100000
set_option maxHeartbeats 8000000
set_option linter.all false
namespace Go.Proofs.YtpmbddooibgnaaaGreatDoor
open Go.RowKit
def gy (b0 b1 b2 b3 b4 b5 b6 b7:Bool):Nat:=b0.toNat+2*b1.toNat+4*b2.toNat+8*b3.toNat+16*b4.toNat+32*b5.toNat+64*b6.toNat+128*b7.toNat
theorem Qy (b f c e d a i g:Bool):gy b f c e d a i g<256:=by
 unfold gy
 have:=b.toNat_le;have:=f.toNat_le;have:=c.toNat_le;have:=e.toNat_le;have:=d.toNat_le;have:=a.toNat_le;have:=i.toNat_le;have:=g.toNat_le
 omega
def eX (f:Nat->Bool)(i:Nat):Nat:=gy (f (8*i)) (f (8*i+1)) (f (8*i+2)) (f (8*i+3)) (f (8*i+4)) (f (8*i+5)) (f (8*i+6)) (f (8*i+7))
theorem qB (f:Nat->Bool)(i:Nat):eX f i<256:=Qy _ _ _ _ _ _ _ _
def bytesOf (f:Nat->Bool):List UInt8:=(List.range 512).map fun i=>UInt8.ofNat (eX f i)
theorem bytesOf_length (f:Nat->Bool):(bytesOf f).length=512:=by simp[bytesOf]
theorem Cj (f:Nat->Bool)(i:Nat)(a:i<512):(bytesOf f)[i]? =some (UInt8.ofNat (eX f i)):=by
 simp[bytesOf,a]
theorem BI (f:Nat->Bool)(i:Nat):(UInt8.ofNat (eX f i)).toNat=eX f i:=by
 rw[dZ,jY (qB f i)]
def NA (b0 b1 b2 b3 b4 b5 b6 b7:Bool)(j:Nat):Bool:=match j with|0=>b0|1=>b1|2=>b2|3=>b3|4=>b4|5=>b5|6=>b6|_=>b7
theorem Xu (f:Nat->Bool)(b:Nat):NA (f (8*(b/8))) (f (8*(b/8)+1)) (f (8*(b/8)+2)) (f (8*(b/8)+3)) (f (8*(b/8)+4)) (f (8*(b/8)+5)) (f (8*(b/8)+6)) (f (8*(b/8)+7)) (b%8)=f b:=by
 have h:=mQ b (show 8>0 by decide)
 have e:b=8*(b/8)+b%8:=by omega
 generalize b%8=j at*
 generalize b/8=i at*
 subst e
 match j,h with
 |0,_=>rfl
 |1,_=>rfl
 |2,_=>rfl
 |3,_=>rfl
 |4,_=>rfl
 |5,_=>rfl
 |6,_=>rfl
 |7,_=>rfl
theorem Tc:∀(b f c e d a i g:Bool) (j:Fin 8),gy b f c e d a i g/2^j.val%2=(NA b f c e d a i g j.val).toNat:=by decide+kernel
theorem Nr (f:Nat->Bool)(b:Nat):eX f (b/8)/2^(b%8)%2=(f b).toNat:=by
 have h:=mQ b (show 8>0 by decide)
 have:=Tc (f (8*(b/8))) (f (8*(b/8)+1)) (f (8*(b/8)+2)) (f (8*(b/8)+3)) (f (8*(b/8)+4)) (f (8*(b/8)+5)) (f (8*(b/8)+6)) (f (8*(b/8)+7)) ⟨b%8,h⟩
 rw[Xu] at this
 exact this
def gN (f:Nat->Bool)(b:Nat)(v:Bool):Nat->Bool:=fun x=>if x=b then v else f x
theorem Ta:∀(b f c e d a i g:Bool),bits .or .u8 (gy b f c e d a i g:Nat) 1=(gy true f c e d a i g:Nat)/\bits .or .u8 (gy b f c e d a i g:Nat) 2=(gy b true c e d a i g:Nat)/\bits .or .u8 (gy b f c e d a i g:Nat) 4=(gy b f true e d a i g:Nat)/\bits .or .u8 (gy b f c e d a i g:Nat) 8=(gy b f c true d a i g:Nat)/\
  bits .or .u8 (gy b f c e d a i g:Nat) 16=(gy b f c e true a i g:Nat)/\bits .or .u8 (gy b f c e d a i g:Nat) 32=(gy b f c e d true i g:Nat)/\bits .or .u8 (gy b f c e d a i g:Nat) 64=(gy b f c e d a true g:Nat)/\bits .or .u8 (gy b f c e d a i g:Nat) 128=(gy b f c e d a i true:Nat):=by decide+kernel
theorem Td:∀(b f c e d a i g:Bool),bits .andNot .u8 (gy b f c e d a i g:Nat) 1=(gy false f c e d a i g:Nat)/\bits .andNot .u8 (gy b f c e d a i g:Nat) 2=(gy b false c e d a i g:Nat)/\bits .andNot .u8 (gy b f c e d a i g:Nat) 4=(gy b f false e d a i g:Nat)/\bits .andNot .u8 (gy b f c e d a i g:Nat) 8=(gy b f c false d a i g:Nat)/\
  bits .andNot .u8 (gy b f c e d a i g:Nat) 16=(gy b f c e false a i g:Nat)/\bits .andNot .u8 (gy b f c e d a i g:Nat) 32=(gy b f c e d false i g:Nat)/\bits .andNot .u8 (gy b f c e d a i g:Nat) 64=(gy b f c e d a false g:Nat)/\bits .andNot .u8 (gy b f c e d a i g:Nat) 128=(gy b f c e d a i false:Nat):=by decide+kernel
theorem Aw (f:Nat->Bool)(b i:Nat)(v:Bool)(h:i≠b/8):eX (gN f b v) i=eX f i:=by
 unfold eX gN
 congr 1<;>(rw[if_neg (by omega)])
theorem Nq (f:Nat->Bool)(b:Nat):bits .or .u8 (eX f (b/8):Nat) ((2^(b%8):Nat):Int)=(eX (gN f b true) (b/8):Nat):=by
 have h:=mQ b (show 8>0 by decide)
 have e:b=8*(b/8)+b%8:=by omega
 generalize a:b%8=j at*
 generalize c:b/8=i at*
 subst e
 have q:=Ta (f (8*i)) (f (8*i+1)) (f (8*i+2)) (f (8*i+3)) (f (8*i+4)) (f (8*i+5)) (f (8*i+6)) (f (8*i+7))
 unfold eX gN
 match j,h with
 |0,_=>simpa using q.1
 |1,_=>simpa using q.2.1
 |2,_=>simpa using q.2.2.1
 |3,_=>simpa using q.2.2.2.1
 |4,_=>simpa using q.2.2.2.2.1
 |5,_=>simpa using q.2.2.2.2.2.1
 |6,_=>simpa using q.2.2.2.2.2.2.1
 |7,_=>simpa using q.2.2.2.2.2.2.2
theorem Nt (f:Nat->Bool)(b:Nat):bits .andNot .u8 (eX f (b/8):Nat) ((2^(b%8):Nat):Int)=(eX (gN f b false) (b/8):Nat):=by
 have h:=mQ b (show 8>0 by decide)
 have e:b=8*(b/8)+b%8:=by omega
 generalize a:b%8=j at*
 generalize c:b/8=i at*
 subst e
 have q:=Td (f (8*i)) (f (8*i+1)) (f (8*i+2)) (f (8*i+3)) (f (8*i+4)) (f (8*i+5)) (f (8*i+6)) (f (8*i+7))
 unfold eX gN
 match j,h with
 |0,_=>simpa using q.1
 |1,_=>simpa using q.2.1
 |2,_=>simpa using q.2.2.1
 |3,_=>simpa using q.2.2.2.1
 |4,_=>simpa using q.2.2.2.2.1
 |5,_=>simpa using q.2.2.2.2.2.1
 |6,_=>simpa using q.2.2.2.2.2.2.1
 |7,_=>simpa using q.2.2.2.2.2.2.2
theorem Ia (f:Nat->Bool)(b:Nat)(v:Bool)(c:b<4096):(bytesOf f).set (b/8) (UInt8.ofNat (eX (gN f b v) (b/8)))=bytesOf (gN f b v):=by
 apply List.ext_getElem?
 intro i
 rw[List.getElem?_set]
 by_cases h:b/8=i
 ·subst h
  rw[if_pos rfl,if_pos (by rw[bytesOf_length];omega),Cj _ _ (by omega)]
 ·rw[if_neg h]
  unfold bytesOf
  rw[dL,dL]
  rcases jC i 512 with a|a
  ·rw[NT a]
   simp only[jJ]
   rw[Aw f b i v (fun e=>h e.symm)]
  ·simp[a]
def countB (f:Nat->Bool)(n:Nat):Nat:=((List.range n).filter f).length
theorem MP:∀(b f c e d a i g:Bool),Lib.onesCount (gy b f c e d a i g)=b.toNat+f.toNat+c.toNat+e.toNat+d.toNat+a.toNat+i.toNat+g.toNat:=by decide+kernel
theorem eD (f:Nat->Bool)(n:Nat):countB f (n+1)=countB f n+(f n).toNat:=by
 unfold countB
 rw[List.range_succ,List.filter_append,aB]
 cases h:f n<;>simp[h]
theorem Hg (f:Nat->Bool)(i:Nat):countB f (8*(i+1))=countB f (8*i)+Lib.onesCount (eX f i):=by
 have e:8*(i+1)=8*i+1+1+1+1+1+1+1+1:=by omega
 rw[e]
 simp only[eD]
 unfold eX
 rw[MP]
 omega
theorem countB_le (f:Nat->Bool)(n:Nat):countB f n<=n:=by
 unfold countB
 have:=IZ f (List.range n)
 simpa using this
theorem Pm:∀(b f c e d a i g:Bool),gy b f c e d a i g≠255->Lib.trailingZeros8 (255 - gy b f c e d a i g)<8/\NA b f c e d a i g (Lib.trailingZeros8 (255 - gy b f c e d a i g))=false/\∀j:Fin 8,j.val<Lib.trailingZeros8 (255 - gy b f c e d a i g)->NA b f c e d a i g j.val=true:=by decide+kernel
theorem M8:∀(b f c e d a i g:Bool),gy b f c e d a i g=255->∀j:Fin 8,NA b f c e d a i g j.val=true:=by decide+kernel
theorem QB (f:Nat->Bool)(i j:Nat)(a:j<8):NA (f (8*i)) (f (8*i+1)) (f (8*i+2)) (f (8*i+3)) (f (8*i+4)) (f (8*i+5)) (f (8*i+6)) (f (8*i+7)) j=f (8*i+j):=by
 have:=Xu f (8*i+j)
 rwa [show (8*i+j)/8=i by omega,show (8*i+j)%8=j by omega] at this
theorem Ib (f:Nat->Bool)(i:Nat)(h:eX f i≠255):Lib.trailingZeros8 (255 - eX f i)<8/\f (8*i+Lib.trailingZeros8 (255 - eX f i))=false/\∀j,j<Lib.trailingZeros8 (255 - eX f i)->f (8*i+j)=true:=by
 obtain⟨b,e,d⟩:=Pm _ _ _ _ _ _ _ _ h
 refine⟨b,?_,fun j c=> ?_⟩
 ·have:=QB f i _ b
  exact this.symm.trans e
 ·have a:j<8:=Nat.lt_trans c b
  exact(QB f i j a).symm.trans (d ⟨j,a⟩ c)
theorem Kk (f:Nat->Bool)(i:Nat)(h:eX f i=255)(j:Nat)(a:j<8):f (8*i+j)=true:=
 (QB f i j a).symm.trans (M8 _ _ _ _ _ _ _ _ h ⟨j,a⟩)
theorem VP (b c:Bool)(n m:Nat):(b.toNat+2*n)|||(c.toNat+2*m)=(b||c).toNat+2*(n|||m):=by
 have h:∀(x:Bool) (k:Nat),(x.toNat+2*k)/2=k/\(x.toNat+2*k)%2=x.toNat:=by
  intro x k
  have:=x.toNat_le
  omega
 apply Nat.eq_of_testBit_eq
 intro i
 rw[Nat.testBit_or]
 cases i with
 |zero=>
  simp only[Nat.testBit_zero,(h _ _).2]
  cases b<;>cases c<;>rfl
 |succ i=>simp only[Nat.testBit_succ,(h _ _).1,Nat.testBit_or]
theorem xu (i d a e g f b c:Bool):gy i d a e g f b c=i.toNat+2*(d.toNat+2*(a.toNat+2*(e.toNat+2*(g.toNat+2*(f.toNat+2*(b.toNat+2*c.toNat)))))):=by
 unfold gy;omega
theorem Qx (i c f n g o e a j p k m l d q b:Bool):gy i c f n g o e a|||gy j p k m l d q b=gy (i||j) (c||p) (f||k) (n||m) (g||l) (o||d) (e||q) (a||b):=by
 rw[xu,xu,xu]
 simp only[VP]
 cases a<;>cases b<;>rfl
theorem Qw (f g:Nat->Bool)(i:Nat):eX f i|||eX g i=eX (fun x=>f x||g x) i:=Qx _ _ _ _ _ _ _ _ _ _ _ _ _ _ _ _
theorem Pf (x:Int)(w:World)(a:0<=x)(b:x<=255):
  Calls Tryz.prog 138 #[.int .u8 x] w fun e c=>e= .returned (.int .i64 (Lib.onesCount x.toNat))/\c=w:=by
 have d:wrap64 (Lib.pop8 x)=(Lib.onesCount x.toNat:Int):=by
  have e:=Lib.pop8_int x a b
  generalize Lib.pop8 x=y at e ⊢
  unfold wrap64
  exact e
 go_enter Tryz.func138,Tryz.ntmps138
 go_wp2
 rw[d]
 go_ret
 exact⟨rfl,rfl⟩
theorem RU (x:Int)(w:World)(a:0<=x)(b:x<=255):
  Calls Tryz.prog 622 #[.int .u8 x] w fun e c=>e= .returned (.int .i64 (Lib.trailingZeros8 x.toNat))/\c=w:=by
 have d:wrap64 (Lib.ntz8 x)=(Lib.trailingZeros8 x.toNat:Int):=by
  have e:=Lib.ntz8_int x a b
  generalize Lib.ntz8 x=y at e ⊢
  unfold wrap64
  exact e
 go_enter Tryz.func622,Tryz.ntmps622
 go_wp2
 rw[d]
 go_ret
 exact⟨rfl,rfl⟩
theorem has_eq (f:Nat->Bool)(b:Nat):(bits .and .u8 (((eX f (b/8):Nat):Int)/2^(b%8)) 1==1)=f b:=by
 have h:=Nr f b
 have c:=qB f (b/8)
 have e:(((eX f (b/8):Nat):Int)/2^(b%8))=((eX f (b/8)/2^(b%8):Nat):Int):=by
  rw[Int.natCast_ediv,Int.natCast_pow];rfl
 have a:eX f (b/8)/2^(b%8)<256:=Nat.lt_of_le_of_lt (Nat.div_le_self _ _) c
 rw[e]
 have:=u8_and_nat (eX f (b/8)/2^(b%8)) 1 a (by omega)
 rw[show ((1:Nat):Int)=1 from rfl] at this
 rw[this,Nat.and_one_is_mod,h]
 cases f b<;>rfl
theorem Xv (c a:Nat)(f:Nat->Bool)(b:Nat)(w:World)(l:b<4096)(i:w.cell? ⟨c,a+b/8,none⟩=some (.int .u8 (eX f (b/8)))):
  Calls Tryz.prog 147 #[.pointer (some ⟨c,a,none⟩),.int .i64 b] w fun e j=>e= .returned (.bool (f b))/\j=w:=by
 have d:=aD w _ i
 have g:c<w.heap.size:=d
 have k:=ah (has_eq f b)
 go_enter Tryz.func147,Tryz.ntmps147
 go_wp2
 rw[k.out]
 go_ret
 exact⟨rfl,rfl⟩
theorem KS (j:Nat)(a:j<8):IntKind.u8.wrap ((1:Int)*2^j)=((2^j:Nat):Int):=by
 match j,a with
 |0,_=>rfl
 |1,_=>rfl
 |2,_=>rfl
 |3,_=>rfl
 |4,_=>rfl
 |5,_=>rfl
 |6,_=>rfl
 |7,_=>rfl
theorem Yd (c a:Nat)(f:Nat->Bool)(b:Nat)(w:World)(G:b<4096)(p:w.cell? ⟨c,a+b/8,none⟩=some (.int .u8 (eX f (b/8))))(d:w.frozen? ⟨c,a+b/8,none⟩=false):
  Calls Tryz.prog 623 #[.pointer (some ⟨c,a,none⟩),.int .i64 b] w fun e z=>e= .returned (.tuple #[])/\z=w.drew.setCell ⟨c,a+b/8,none⟩ (.int .u8 (eX (gN f b true) (b/8))):=by
 have o:=aD w _ p
 have q:c<w.drew.heap.size:=o
 have m:=Nq f b
 obtain⟨H,k⟩:∃n,Hid (eX (gN f b true) (b/8)=n):=⟨_,ah rfl⟩
 rw[k.out] at m ⊢
 obtain⟨s,g⟩:∃n,Hid (eX f (b/8)=n):=⟨_,ah rfl⟩
 rw[g.out] at m p
 have t:IntKind.i64.wrap ((b:Int)/8)=((b/8:Nat):Int):=by rw[aM _ (by omega)];omega
 have F:Int.tmod (b:Int) 8=((b%8:Nat):Int):=by rw[Am (by omega)];omega
 have l:b%8<8:=by omega
 have x:=KS (b%8) l
 have y:b/8<512:=by omega
 generalize b%8=j at*
 generalize b/8=i at*
 have B:(i:Int)<512:=by omega
 have C:w.drew.cell? ⟨c,a+i,none⟩=some (.int .u8 s):=p
 have E:w.drew.frozen? ⟨c,a+i,none⟩=false:=d
 go_enter Tryz.func623,Tryz.ntmps623
 go_wp2_with fail
 refine aP (fun W=>W=w.drew) (fun i=> !([12].contains i)) [0,1,2,3,4,5,6,7,8,9,10,11,12] rfl (by kernel_rfl) rfl ?_
 repeat ((refine bE (v:= ?_) rfl rfl (fun _ _ _ h=>h) rfl (fun W r=> ?_) ?_);rotate_left;(focus ((try dsimp only at r);subst r;(try rw[t]);(try rw[F]);(go_simp;first|done|with_reducible rfl)));(try simp only[Act.put,ak,ay,ax]))
 have A:IntKind.u8.wrap ((2:Int)^j)=((2^j:Nat):Int):=by
  simpa using x
 rw[A,m]
 refine jR rfl rfl rfl (by kernel_rfl) ?_;intro K D;go_simp
 refine D.out _ _ ?_
 refine bN ?_
 go_wp2_with fail
 go_end0
 exact⟨rfl,rfl⟩
theorem Yf (c a:Nat)(f:Nat->Bool)(b:Nat)(w:World)(G:b<4096)(p:w.cell? ⟨c,a+b/8,none⟩=some (.int .u8 (eX f (b/8))))(d:w.frozen? ⟨c,a+b/8,none⟩=false):
  Calls Tryz.prog 621 #[.pointer (some ⟨c,a,none⟩),.int .i64 b] w fun e z=>e= .returned (.tuple #[])/\z=w.drew.setCell ⟨c,a+b/8,none⟩ (.int .u8 (eX (gN f b false) (b/8))):=by
 have o:=aD w _ p
 have q:c<w.drew.heap.size:=o
 have m:=Nt f b
 obtain⟨H,k⟩:∃n,Hid (eX (gN f b false) (b/8)=n):=⟨_,ah rfl⟩
 rw[k.out] at m ⊢
 obtain⟨s,g⟩:∃n,Hid (eX f (b/8)=n):=⟨_,ah rfl⟩
 rw[g.out] at m p
 have t:IntKind.i64.wrap ((b:Int)/8)=((b/8:Nat):Int):=by rw[aM _ (by omega)];omega
 have F:Int.tmod (b:Int) 8=((b%8:Nat):Int):=by rw[Am (by omega)];omega
 have l:b%8<8:=by omega
 have x:=KS (b%8) l
 have y:b/8<512:=by omega
 generalize b%8=j at*
 generalize b/8=i at*
 have B:(i:Int)<512:=by omega
 have C:w.drew.cell? ⟨c,a+i,none⟩=some (.int .u8 s):=p
 have E:w.drew.frozen? ⟨c,a+i,none⟩=false:=d
 go_enter Tryz.func621,Tryz.ntmps621
 go_wp2_with fail
 refine aP (fun W=>W=w.drew) (fun i=> !([12].contains i)) [0,1,2,3,4,5,6,7,8,9,10,11,12] rfl (by kernel_rfl) rfl ?_
 repeat ((refine bE (v:= ?_) rfl rfl (fun _ _ _ h=>h) rfl (fun W r=> ?_) ?_);rotate_left;(focus ((try dsimp only at r);subst r;(try rw[t]);(try rw[F]);(go_simp;first|done|with_reducible rfl)));(try simp only[Act.put,ak,ay,ax]))
 have A:IntKind.u8.wrap ((2:Int)^j)=((2^j:Nat):Int):=by
  simpa using x
 rw[A,m]
 refine jR rfl rfl rfl (by kernel_rfl) ?_;intro K D;go_simp
 refine D.out _ _ ?_
 refine bN ?_
 go_wp2_with fail
 go_end0
 exact⟨rfl,rfl⟩
theorem M5 (a:List Value)(i:Nat)(n:Int)(c:i<512)(h:a[i]? =some (.int .u8 n))(W:World):(Instr.index 260 (.agg a.toArray) (.int .i64 (i:Int))).run Tryz.prog W= .ok (.int .u8 n) W:=by
 have d:=(bO.1 h).1
 have b:(0:Int)<=(i:Int)/\(i:Int)<512:=by omega
 simp[Instr.index,gX IQ,asIntOf,b,part,go_sem,h]
 omega
theorem onesCount_le8 (n:Nat)(h:n<256):Lib.onesCount n<=8:=Lib.onesCount_le8 ⟨n,h⟩
def oP (n:Nat)(now old:Nat->Bool):List Value:= .int .i64 n::(aF (bytesOf now)++aF (bytesOf old))
def pJ (w:World)(mp n:Nat)(now old:Nat->Bool):Prop:=Row w mp 262 (oP n now old)
theorem pY (f:Nat->Bool)(i:Nat)(a:i<512):(aF (bytesOf f))[i]? =some (.int .u8 (eX f i)):=by
 unfold aF
 rw[dL,Cj f i a]
 simp only[jJ,BI]
theorem fF (f:Nat->Bool):(aF (bytesOf f)).length=512:=by rw[bC,bytesOf_length]
theorem Gm (n:Nat)(a b:Nat->Bool)(i:Nat)(c:i<512):(oP n a b)[1+i]? =some (.int .u8 (eX a i)):=by
 unfold oP
 rw[uj,dm,fI (by rw[fF];exact c)]
 exact pY a i c
theorem Gj (n:Nat)(b a:Nat->Bool)(i:Nat)(c:i<512):(oP n b a)[513+i]? =some (.int .u8 (eX a i)):=by
 unfold oP
 rw[show 513+i=(512+i)+1 by omega,dm,bP (by rw[fF];omega),fF,dD]
 exact pY a i c
theorem pJ.cells {w:World}{c n:Nat}{b a:Nat->Bool}(h:pJ w c n b a):w.cell? ⟨c,0,none⟩=some (.int .i64 n)/\c<w.heap.size/\(∀j,w.frozen? ⟨c,j,none⟩=false)/\(∀i,i<512->w.cell? ⟨c,1+i,none⟩=some (.int .u8 (eX b i)))/\∀i,i<512->w.cell? ⟨c,513+i,none⟩=some (.int .u8 (eX a i)):=by
 refine⟨?_,h.lt,h.frozen,fun i d=> ?_,fun i d=> ?_⟩
 ·rw[h.cell];rfl
 ·rw[h.cell];exact Gm n b a i d
 ·rw[h.cell];exact Gj n b a i d
theorem pJ.keep {w w':World}{c n:Nat}{b a:Nat->Bool}(h:pJ w c n b a)(d:w'.heap[c]? =w.heap[c]?):pJ w' c n b a:=d.trans h
theorem Ko (l:List UInt8)(i:Nat)(x:UInt8):(aF l).set i (.int .u8 x.toNat)=aF (l.set i x):=by
 unfold aF
 rw[List.map_set]
theorem pJ.set {w:World}{d n:Nat}{a c:Nat->Bool}(h:pJ w d n a c)(b:Nat)(v:Bool)(f:b<4096):pJ (w.setCell ⟨d,1+b/8,none⟩ (.int .u8 (eX (gN a b v) (b/8)))) d n (gN a b v) c:=by
 have e:(oP n a c).set (1+b/8) (.int .u8 (eX (gN a b v) (b/8)))=oP n (gN a b v) c:=by
  unfold oP
  rw[uj,ax,LF _ _ (by rw[fF];omega)]
  have:=Ko (bytesOf a) (b/8) (UInt8.ofNat (eX (gN a b v) (b/8)))
  rw[BI,Ia a b v f] at this
  rw[this]
 unfold pJ Row at*
 rw[<-e]
 simp[World.setCell,aK,h]
theorem WX (g n:Nat)(a f:Nat->Bool)(b:Nat)(w:World)(h:pJ w g n a f)(t:n<=4096)(s:b<=4096):
  Calls Tryz.prog 86 #[.pointer (some ⟨g,0,none⟩),.int .i64 b] w fun e m=>e= .returned (.bool (decide (b<n) && a b))/\m=w:=by
 obtain⟨v,p,l,c,_⟩:=h.cells
 by_cases d:b<n
 ·have o:=ah (Xv g 1 a b w (by omega) (c _ (by omega)))
  have r:(0:Int)<=(b:Int):=by omega
  have j:(b:Int)<(n:Int):=by omega
  have i:(decide (b<n) && a b)=a b:=by simp[d]
  rw[i]
  clear h c
  go_enter Tryz.func86,Tryz.ntmps86
  go_wp2_with (first
   |(go_at_call 147;go_must (refine o.out.mono ?_;rintro e k ⟨rfl,q⟩;subst k)))
  go_ret
  exact⟨rfl,rfl⟩
 ·have r:(0:Int)<=(b:Int):=by omega
  have j:¬(b:Int)<(n:Int):=by omega
  have i:(decide (b<n) && a b)=false:=by simp[d]
  rw[i]
  clear h c
  go_enter Tryz.func86,Tryz.ntmps86
  go_wp2_with fail
  go_ret
  exact⟨rfl,rfl⟩
theorem WY (d n:Nat)(a c:Nat->Bool)(b:Nat)(w:World)(h:pJ w d n a c)(q:n<=4096)(t:2<=b)(o:b<n)(f:a b=true):
  Calls Tryz.prog 619 #[.pointer (some ⟨d,0,none⟩),.int .i64 b] w fun e l=>e= .returned (.int .i64 0)/\pJ l d n (gN a b false) c/\Keep (· =d) w l:=by
 have g:=WX d n a c b w h q (by omega)
 rw[f,gq o] at g
 have g:=ah g
 obtain⟨y,r,j,m,_⟩:=h.cells
 have v:=ah (Yf d 1 a b w (by omega) (m _ (by omega)) (j _))
 have s:=ah (pJ.set (w:=w.drew) (show pJ w.drew d n a c from h) b false (by omega))
 have z:¬(b:Int)<2:=by omega
 have x:¬b<2:=by omega
 clear h m
 go_enter Tryz.func619,Tryz.ntmps619
 go_wp2_with (first
  |(go_at_call 86;go_must (refine g.out.mono ?_;rintro e i ⟨rfl,k⟩;subst i))
  |(go_at_call 621;go_must (refine v.out.mono ?_;rintro e i ⟨rfl,k⟩;subst i)))
 go_ret
 exact⟨rfl,s.out,((Keep.refl (· =d) w).drew).setCell (p:=⟨d,1+b/8,none⟩) (.inr rfl) _⟩
theorem uW:(Tryz.prog.info? 260).map (fun i=>i.size)=some 512:=by kernel_rfl
theorem WT (g n:Nat)(a j:Nat->Bool)(w:World)(h:pJ w g n a j):
  Calls Tryz.prog 78 #[.pointer (some ⟨g,0,none⟩)] w fun e x=>e= .returned (.int .i64 (countB a 4096))/\x=w:=by
 obtain⟨F,y,v,E,_⟩:=h.cells
 have f:w.rangeAt g 1 (aF (bytesOf a)):=Row.range (off:=1) (n:=512) h (by
  unfold oP
  rw[List.drop_one,List.tail_cons,bW (by rw[fF];exact aC _),aL (by rw[fF];exact aC _)])
 have b:=fF a
 have d:=ah (fun i (p:i<512) (W:World)=>M5 (aF (bytesOf a)) i _ p (pY a i p) W)
 obtain⟨C,D⟩:∃C,Hid (aF (bytesOf a)=C):=⟨_,ah rfl⟩
 rw[D.out] at f b d
 have B:=ah b
 clear h E b
 go_enter Tryz.func78,Tryz.ntmps78
 go_wp2_with (first
  |((refine bS rfl ?_);intro K A;(refine QX 260 _ rfl g 1 rfl C _ f IQ rfl (uW.trans (congrArg some B.out.symm)) ?_);refine A _ _ ?_))
 go_loopw [3,5,12] (fun s _ i wr=>∃k:Nat,k<=512/\i= .int .i64 k/\s= .int .i64 (countB a (8*k))/\wr=w) (fun _ _ i _=>512 - (intOf i).toNat)
 case atStart=>exact⟨0,by omega,rfl,rfl,rfl⟩
 case round=>
  obtain⟨k,G,rfl,rfl,rfl⟩:=hrel
  have t:=countB_le a (8*k)
  by_cases m:k<512
  ·have H:(k:Int)<512:=by omega
   have q:=d.out k m
   have c:=Pf (eX a k:Int) wr (by omega) (by have:=qB a k;omega)
   rw[dz] at c
   have o:=ah c;clear c
   have l:=ah (Hg a k)
   have b:=onesCount_le8 (eX a k) (qB a k)
   go_wp2_with (first
    |(go_at_call 138;go_must (refine o.out.mono ?_;rintro e r ⟨rfl,z⟩;subst r)))
   go_roundw
   case rel=>exact⟨k+1,by omega,by go_num,by rw[l.out];go_num,by trivial⟩
   case measure=>simp[intOf];omega
  ·obtain rfl:k=512:=by omega
   go_wp2_with fail
   go_ret
   exact⟨rfl,rfl⟩
theorem pJ.below {w w':World}{c n:Nat}{b a:Nat->Bool}(h:pJ w c n b a)(d:Below w.heap.size w w'):pJ w' c n b a:=h.keep (d.block _ h.lt)
theorem Uo:∀a:Fin 256,255^^^a.val=255 - a.val:=by decide+kernel
theorem Vh (n:Nat)(h:n<256):bits .xor .u8 (if IntKind.u8.signed=true then -1 else IntKind.u8.max) (n:Int)=((255 - n:Nat):Int):=by
 have e:(if IntKind.u8.signed=true then(-1:Int) else IntKind.u8.max)=((255:Nat):Int):=rfl
 rw[e,u8_xor_nat 255 n (by omega) h,Uo ⟨n,h⟩]
theorem WU (r n:Nat)(g j:Nat->Bool)(w:World)(h:pJ w r n g j)(hn:n<=4096):
  Calls Tryz.prog 620 #[.pointer (some ⟨r,0,none⟩)] w fun e Z=>
   (∃b:Nat,b<n/\(g b||j b)=false/\(∀x,x<b->(g x||j x)=true)/\e= .returned (.tuple #[.int .i64 b,.int .i64 0])/\pJ Z r n (gN g b true) j/\Keep (· =r) w Z)\/
   ((∀x,x<n->(g x||j x)=true)/\e= .returned (.tuple #[.int .i64 0,.int .i64 12])/\Below w.heap.size w Z):=by
 obtain⟨_,qb,_⟩:=h.cells
 have V:=ah (fun (W:World) (H:Below w.heap.size w W)=>(h.below H))
 clear h
 go_enter Tryz.func620,Tryz.ntmps620
 go_wp2_with fail
 go_loopw [4,5,6,9] (fun _ _ _ i wr=>∃k:Nat,k<=512/\i= .int .i64 k/\Below w.heap.size w wr/\∀x,x<8*k->(g x||j x)=true) (fun _ _ _ i _=>512 - (intOf i).toNat)
 case atStart=>exact⟨0,by omega,rfl,aJ _ _,fun x S=>by omega⟩
 case round=>
  obtain⟨k,hk,rfl,hb,B⟩:=hrel
  have X:=ah B;clear B
  have t:=ah hb;clear hb
  by_cases N:k<512
  ·have x1:(k:Int)<512:=by omega
   obtain⟨f,K⟩:∃f:Nat->Bool,f=fun x=>g x||j x:=⟨_,rfl⟩
   have Q:bits .or .u8 (eX g k:Int) (eX j k:Int)=(eX f k:Int):=by
    rw[u8_or_nat _ _ (qB _ _) (qB _ _),Qw,K]
   have D:=qB f k
   have G:=ah (fun (W:World) (H:Below w.heap.size w W)=>(show W.cell? ⟨r,0,none⟩=some (.int .i64 n)/\r<W.heap.size/\W.cell? ⟨r,1+k,none⟩=some (.int .u8 (eX g k))/\W.cell? ⟨r,513+k,none⟩=some (.int .u8 (eX j k)) from by
    obtain⟨a,b,c,d,e⟩:=(V.out W H).cells
    exact⟨a,b,d k N,e k N⟩))
   go_wp2_with fail
   refine aP (fun W=>Below w.heap.size w W) (fun _=>true) [0,1,2,3,4,5,6,7,8,9,10,11,12,13,14] rfl (by kernel_rfl) t.out.drew ?_
   repeat ((refine bE (v:= ?_) rfl rfl (fun _ _ _ h=>h) rfl (fun W H=> ?_) ?_);rotate_left;(focus ((try dsimp only at H);obtain⟨r0,r1,r2,r3⟩:=G.out W H;(try rw[Q]);(go_simp;first|done|with_reducible rfl)));(try simp only[Act.put,ak,ay,ax]))
   refine bN ?_
   have A:bits .xor .u8 (if IntKind.u8.signed=true then -1 else IntKind.u8.max) ((eX (fun x=>g x||j x) k:Nat):Int)=((255 - eX f k:Nat):Int):=by
    rw[<-K];exact Vh _ D
   rw[A]
   clear Q A
   by_cases l:eX f k=255
   ·have y1:255 - eX f k=0:=by omega
    rw[y1]
    have HF:=ah l;clear l D y1
    go_wp2_with fail
    go_roundw
    case rel=>
     refine⟨k+1,by omega,by go_num,t.out.drew,fun x S=> ?_⟩
     rcases jC x (8*k) with o|o
     ·exact X.out x o
     ·have:=Kk f k HF.out (x - 8*k) (by omega)
      rw[show 8*k+(x - 8*k)=x by omega,K] at this
      exact this
    case measure=>simp[intOf];omega
   ·obtain⟨t1,T,Y⟩:=Ib f k l
    obtain⟨m,hm⟩:∃m,m=255 - eX f k:=⟨_,rfl⟩
    rw[<-hm] at t1 T Y ⊢
    obtain⟨y,C⟩:∃z,z=Lib.trailingZeros8 m:=⟨_,rfl⟩
    rw[<-C] at t1 T Y
    have qc:¬m=0:=by omega
    have ql:m<=255:=by omega
    have F:=RU (m:Int) wr.drew (by omega) (by omega)
    rw[dz,<-C] at F
    have R:=ah F
    have p9:=ah T;have I:=ah Y;have E:=ah K
    have qf:(m:Int)≠0:=by omega
    have qo:=(G.out _ t.out.drew).1
    have qm:=(G.out _ t.out.drew).2.1
    clear K hm C F T Y D l
    by_cases pV:8*k+y<n
    ·have z1:¬(n:Int)<=8*(k:Int)+(y:Int):=by omega
     have q:=Yd r 1 g (8*k+y) wr.drew (by omega) (by
      obtain⟨a,b,c,d,e⟩:=(V.out _ t.out.drew).cells
      exact d _ (by omega)) (by
      obtain⟨a,b,c,d,e⟩:=(V.out _ t.out.drew).cells
      exact c _)
     have s:((8*k+y:Nat):Int)=8*(k:Int)+(y:Int):=by omega
     rw[s] at q
     have P:=ah q;clear q s
     have M:=ah (pJ.set (V.out _ (t.out.drew.drew)) (8*k+y) true (by omega))
     go_wp2_with (first
      |(go_at_call 622;go_must (refine R.out.mono ?_;rintro e J ⟨rfl,O⟩;subst J))
      |(go_at_call 623;go_must (refine P.out.mono ?_;rintro e J ⟨rfl,O⟩;subst J)))
     go_ret2
     refine .inl ⟨8*k+y,pV,?_,fun x S=> ?_,by go_num,M.out,?_⟩
     ·have:=p9.out;rw[E.out] at this;exact this
     ·rcases jC x (8*k) with o|o
      ·exact X.out x o
      ·have:=I.out (x - 8*k) (by omega)
       rw[show 8*k+(x - 8*k)=x by omega,E.out] at this
       exact this
     ·exact(Keep.of_below t.out (· =r)).drew.drew.setCell (p:=⟨r,1+(8*k+y)/8,none⟩) (.inr rfl) _
    ·have z1:(n:Int)<=8*(k:Int)+(y:Int):=by omega
     go_wp2_with (first
      |(go_at_call 622;go_must (refine R.out.mono ?_;rintro e J ⟨rfl,O⟩;subst J)))
     go_ret2
     refine .inr ⟨fun x S=> ?_,rfl,t.out.drew⟩
     rcases jC x (8*k) with o|o
     ·exact X.out x o
     ·have:=I.out (x - 8*k) (by omega)
      rw[show 8*k+(x - 8*k)=x by omega,E.out] at this
      exact this
  ·obtain rfl:k=512:=by omega
   go_wp2_with fail
   go_ret2
   exact .inr ⟨fun x S=>X.out x (by omega),rfl,t.out⟩
theorem KI (t n:Nat)(w:World)(f:2<=n)(g:n<=4096):
  Calls Tryz.prog 91 #[.iface 123 (.pointer (some ⟨t,0,none⟩)),.int .i64 n] w fun e a=>e= .returned (.int .i64 0)/\a=w:=by
 have c:¬(n:Int)<2:=by omega
 have b:¬(4096:Int)<(n:Int):=by omega
 have d:¬n<2:=by omega
 have i:¬4096<n:=by omega
 go_enter Tryz.func91,Tryz.ntmps91
 go_wp2_with fail
 go_ret
 exact⟨rfl,rfl⟩
def two (b:Nat):Bool:=decide (b<2)
theorem two_bytes:bytesOf two=pad [3]:=by decide+kernel
theorem UQ (t c d:Nat)(a:Dk)(l:Lg)(p:Pg)(n:Value)(g:Im)(S T:Nat->Prop)(w:World)(h:iF w S c d a l p n)(s:qR w T t c g (p.blocks a))(v:p.dead=false)(r:2<=p.blocks a):
  Calls Tryz.prog 51 #[.iface 123 (.pointer (some ⟨t,0,none⟩)),.int .i64 (p.blocks a)] w fun e o=>e= .returned (.int .i64 0)/\qR o T t c (g.put 0 (bytesOf two)) (p.blocks a)/\Step T T w o:=by
 have f:p.blocks a<=4096:=by have:=h.ok.2.1.hi;unfold Pg.blocks;omega
 have z:=ah (KI t (p.blocks a) w r f)
 have b:=aG w (.cells #[.int .u8 3] 5)
 have A:bq (w.alloc (.cells #[.int .u8 3] 5)) eG 1 (.slice (some ⟨w.heap.size,0,none⟩) 1 1) ([3]:List UInt8).length (aF [3]):=by
  have x:Row (w.alloc (.cells #[.int .u8 3] 5)) w.heap.size 5 (aF [3]):=aH w _
  exact x.dM (S:=eG) (k:=1) (off:=0) 1 1 (by simp[aF]) id (aC _) (by simp[maxLen])
 have q:=ah (Je t c d a l p n g S T 0 _ [3] _ (h.below b) (s.below b) v (by omega) A (by simp))
 rw[<-two_bytes] at q
 have B:∀w,(method 841 123 (.pointer (some ⟨t,0,none⟩)) "Write").run Tryz.prog w= .ok (118,.pointer (some ⟨t,0,none⟩)) w:=fun _=>by kernel_rfl
 go_enter Tryz.func51,Tryz.ntmps51
 go_wp2_with (first
  |(go_at_call 91;go_must (refine z.out.mono ?_;rintro e m ⟨rfl,y⟩;subst m))
  |(go_at_call 118;go_must (refine q.out.mono ?_;rintro e m ⟨rfl,i,j⟩)))
 go_ret
 exact⟨rfl,i,(Step.of_below b).trans j⟩
theorem Nu (i:Int):Tryz.prog.built 262 [(0,.int .i64 i)]=some (Value.int .i64 i::(aF zB++aF zB)).toArray:=by kernel_rfl
theorem Ju (i:Int)(l:List UInt8)(c:l.length=512):splice (Value.int .i64 i::(aF zB++aF zB)) 1 (aF l)=Value.int .i64 i::(aF l++aF zB):=by
 have b:(aF l).length=512:=by rw[bC,c]
 have a:(aF zB).length=512:=by rw[bC,gG]
 unfold splice
 rw[b,iT,gT,show 1+512=512+1 by rfl,kX,ou (eO a.symm),<-a,iP]
 simp
theorem Jt (i:Int)(l:List UInt8)(c:l.length=512):splice (Value.int .i64 i::(aF l++aF zB)) 513 (aF l)=Value.int .i64 i::(aF l++aF l):=by
 have a:(aF l).length=512:=by rw[bC,c]
 have b:(aF zB).length=512:=by rw[bC,gG]
 unfold splice
 rw[a,show 513=512+1 by rfl,iT,show 512+1+512=1024+1 by rfl,kX,bW (eO a.symm),<-a,bL,Fs (by rw[aB,a,b];omega)]
 simp
theorem UR (t pg d:Nat)(o:Dk)(l:Lg)(p:Pg)(op:Value)(im:Im)(S T:Nat->Prop)(f:Nat->Bool)(w:World)(h:iF w S pg d o l p op)(ht:qR w T t pg im (p.blocks o))(hd:p.dead=false)(af:o.dead=false)(h2:2<=p.blocks o)
  (hf:p.look im o 0=bytesOf f) (H:∀b,p.blocks o<=b->f b=false) (N:f 0=true) (Q:f 1=true):
  Calls Tryz.prog 135 #[.iface 123 (.pointer (some ⟨t,0,none⟩)),.int .i64 (p.blocks o)] w fun e w'=>∃g,e= .returned (.tuple #[.pointer (some ⟨g,0,none⟩),.int .i64 0])/\pJ w' g (p.blocks o) f f/\w.heap.size<=g/\Below w.heap.size w w':=by
 have F:p.blocks o<=4096:=by have:=h.ok.2.1.hi;unfold Pg.blocks;omega
 have HC:=ah (KI t (p.blocks o) w h2 F)
 have HR:=tread t pg d o l p op im S T 0 w h ht hd af (by omega)
 rw[hf] at HR
 have HR:=ah HR
 obtain⟨n,hn⟩:∃n,n=p.blocks o:=⟨_,rfl⟩
 rw[<-hn] at HC h2 H F ⊢
 have qC:=ah H;have H0:=ah N;have H1:=ah Q
 have G:=bytesOf_length f
 have hm:∀w,(method 841 123 (.pointer (some ⟨t,0,none⟩)) "Read").run Tryz.prog w= .ok (136,.pointer (some ⟨t,0,none⟩)) w:=fun _=>by kernel_rfl
 clear h ht hf H N Q hn
 go_enter Tryz.func135,Tryz.ntmps135
 go_wp2_with (first
  |(go_at_call 91;go_must (refine HC.out.mono ?_;rintro e j ⟨rfl,M⟩;subst j))
  |(go_at_call 136;go_must (refine HR.out.mono ?_;rintro e j ⟨v,rfl,hv,av,r⟩;obtain⟨ao,cp,rfl,n0,m0,_,_⟩:=bq.form hv))
  |((refine bS rfl ?_);intro K y;(refine xI 262 _ rfl (Value.int .i64 (n:Int)::(aF zB++aF zB)) (Nu n) ?_);refine y _ _ ?_)
  |((refine bS rfl ?_);intro K y;(refine A9 262 _ rfl (Value.int .i64 (n:Int)::(aF zB++aF zB)) rfl ?_);refine y _ _ (Stop.of ?_)))
 refine Stop.on ?_
 obtain⟨g,x⟩:∃g,Hid (j.heap.size=g):=⟨_,ah rfl⟩
 obtain⟨w2,s⟩:∃w2:World,Hid (j.alloc (.cells (Value.int .i64 (n:Int)::(aF zB++aF zB)).toArray 262)=w2):=⟨_,ah rfl⟩
 have V:Row w2 g 262 (Value.int .i64 (n:Int)::(aF zB++aF zB)):=by rw[<-s.out,<-x.out];exact Row.new j _ _
 have E:Below j.heap.size j w2:=by rw[<-s.out];exact aG j _
 rw[s.out,x.out]
 have p9:=bq.below hv E
 have a:=ah (fF f)
 have c:=p9.first (P:=Tryz.prog) 512 (aC _)
 rw[eY,aL (eO a.out)] at c
 have c:=ah c
 have X:=ah (show (Value.int .i64 (n:Int)::(aF zB++aF zB)).length=1025 by rw[aZ,aB,bC,gG])
 go_wp2_with (first
  |((refine bS rfl ?_);intro K y;(refine nA (.tmp 31) (.tmp 32) 154 154 rfl 5 1 1 (.int .u8 0) aU jl g 1 262 512 512 512 (some ⟨g,1,none⟩) _ rfl V (.slice ao 512 cp) rfl 512 (aF (bytesOf f)) rfl ?_ ?_ c.out (fun _=>rfl) ?_ (fO _) ?_);go_must ((focus rfl);(focus (rw[a.out,eY]));(focus (rw[a.out,X.out];omega));intro O m qf;refine y _ _ (Stop.of ?_))))
 refine Stop.on ?_
 rw[Ju _ _ G] at m
 have W:Below w.heap.size w O:=by
  have Y:Keep eG j O:=(Keep.of_below E eG).trans qf (fun i R e=>absurd R (by rw[e,x.out];exact cO _))
  exact r.trans (Y.below.mono r.size)
 have A:w.heap.size<=g:=by rw[<-x.out];exact r.size
 have J:=ah m;have pV:=ah W
 have q:∀i,i<512->O.cell? ⟨g,1+i,none⟩=some (.int .u8 (eX f i)):=fun i R=>by
  rw[m.cell,uj,dm,fI (by rw[a.out];exact R)]
  exact pY f i R
 have ai:=m.lt
 have D:=ah (fun b (hb:b<4096)=>Xv g 1 f b O hb (q _ (by omega)))
 have ql:O.rangeAt g 1 (aF (bytesOf f)):=Row.range (off:=1) (n:=512) m (by
  rw[List.drop_one,List.tail_cons,bW (by rw[a.out];exact aC _),aL (by rw[a.out];exact aC _)])
 have I:=ah (show (Value.int .i64 (n:Int)::(aF (bytesOf f)++aF zB)).length=1025 by rw[aZ,aB,bC,bC,G,gG])
 have z:=fO (bytesOf f)
 clear m W qf q V E p9 hv r c s HR HC hm X
 obtain⟨C,qm⟩:∃C,Hid (aF (bytesOf f)=C):=⟨_,ah rfl⟩
 rw[qm.out] at ql a z J I
 obtain⟨Z,HZ⟩:∃Z,Hid (aF zB=Z):=⟨_,ah rfl⟩
 rw[HZ.out] at J I
 go_wp2_with fail
 go_loopw [10] (fun i wr=>∃k:Nat,n<=k/\k<=4096/\i= .int .i64 k/\wr=O) (fun i _=>4096 - (intOf i).toNat)
 case atStart=>exact⟨n,aC _,F,rfl,rfl⟩
 case round=>
  obtain⟨k,qO,Y,rfl,rfl⟩:=hrel
  by_cases qc:k<4096
  ·have x1:(k:Int)<4096:=by omega
   have hh:=D.out k qc
   rw[qC.out k qO] at hh
   have HH:=ah hh;clear hh
   go_wp2_with (first
    |(go_at_call 147;go_must (refine HH.out.mono ?_;rintro e j ⟨rfl,M⟩;subst j)))
   go_roundw
   case rel=>exact⟨k+1,by omega,by omega,by go_num,by trivial⟩
   case measure=>simp[intOf];omega
  ·have x1:¬(k:Int)<4096:=by omega
   have x2:¬k<4096:=qc
   have N:=D.out 0 (by omega)
   have Q:=D.out 1 (by omega)
   rw[H0.out] at N
   rw[H1.out] at Q
   have qo:=ah N;have q8:=ah Q;clear N Q
   go_wp2_with (first
    |(go_at_call 147;go_must (refine qo.out.mono ?_;rintro e j ⟨rfl,M⟩;subst j;refine Stop.of ?_)))
   refine Stop.on ?_
   go_wp2_with (first
    |(go_at_call 147;go_must (refine q8.out.mono ?_;rintro e j ⟨rfl,M⟩;subst j))
    |((refine bS rfl ?_);intro K y;(refine QX 260 _ rfl g 1 rfl C _ ql IQ rfl (uW.trans (congrArg some a.out.symm)) ?_);refine y _ _ ?_)
    |((refine bS rfl ?_);intro K y;(refine wp_store_row 260 _ _ rfl g 513 262 _ C rfl rfl J.out (uW.trans (congrArg some a.out.symm)) (by rw[I.out,a.out];omega) z ?_);intro w4 B qb;refine y _ _ (Stop.of ?_)))
   refine Stop.on ?_
   rw[<-qm.out,<-HZ.out,Jt _ _ G] at B
   have q9:=ah B;have qy:=ah qb
   clear B qb
   go_wp2_with fail
   go_ret2
   exact⟨g,rfl,q9.out,A,pV.out.trans (qy.out.fw pV.out.size (fun i R e=>absurd R (aX.2 (by rw[e];exact A))))⟩
theorem NW (w:World):(zeroValue 260).run Tryz.prog w= .ok (.agg (aF zB).toArray) w:=by kernel_rfl
theorem x9 {l:List UInt8}(h:l.length=512):pad l=l:=by simp[pad,h]
theorem Rt (t F d E n:Nat)(a G:Nat->Bool)(r:Dk)(l:Lg)(p:Pg)(P:Value)(I:Im)(S T:Nat->Prop)(w:World)(h:iF w S F d r l p P)(R:qR w T t F I (p.blocks r))(hd:p.dead=false)(Y:0<p.blocks r)(j:pJ w E n a G):
  Calls Tryz.prog 119 #[.pointer (some ⟨E,0,none⟩),.iface 123 (.pointer (some ⟨t,0,none⟩))] w fun e Q=>e= .returned (.int .i64 0)/\qR Q T t F (I.put 0 (bytesOf a)) (p.blocks r)/\Step T T w Q:=by
 obtain⟨c0,p9,Z,hc,_⟩:=j.cells
 have m:w.rangeAt E 1 (aF (bytesOf a)):=Row.range (off:=1) (n:=512) j (by
  unfold oP
  rw[List.drop_one,List.tail_cons,bW (by rw[fF];exact aC _),aL (by rw[fF];exact aC _)])
 have b:=ah (fF a)
 have c:=fO (bytesOf a)
 have A:=bytesOf_length a
 have y:Row (w.alloc (.cells (aF zB).toArray 260)) w.heap.size 260 (aF zB):=Row.new w _ _
 have f:=ah (show (aF zB).length=512 by rw[bC,gG])
 have O:=ah (fun (W:World) (q:Below w.heap.size w W) (hv:bq W eG 1 (.slice (some ⟨w.heap.size,0,none⟩) 512 512) (bytesOf a).length (aF (bytesOf a)))=>Je t F d r l p P I S T 0 _ (bytesOf a) W (h.below q) (R.below q) hd Y hv (by omega))
 rw[x9 A] at O
 have hm:∀w,(method 841 123 (.pointer (some ⟨t,0,none⟩)) "Write").run Tryz.prog w= .ok (118,.pointer (some ⟨t,0,none⟩)) w:=fun _=>by kernel_rfl
 have pV:∀(V:Fn) (first cap:Array Value) (w:World),(Instr.makeFunc V first cap).run Tryz.prog w= .ok (.func V first cap) w:=fun _ _ _ _=>rfl
 obtain⟨C,X⟩:∃C,Hid (aF (bytesOf a)=C):=⟨_,ah rfl⟩
 rw[X.out] at m b c
 clear h R j hc
 go_enter Tryz.func119,Tryz.ntmps119
 go_wp2_with (first
  |((refine bS rfl ?_);intro K o;(refine QX 260 _ rfl E 1 rfl C _ m IQ rfl (uW.trans (congrArg some b.out.symm)) ?_);refine o _ _ ?_)
  |((refine bS rfl ?_);intro K o;(refine gZ 260 rfl _ NW ?_);refine o _ _ ?_)
  |((refine bS rfl ?_);intro K o;(refine wp_store_row 260 _ _ rfl w.heap.size 0 260 _ C rfl rfl y (uW.trans (congrArg some b.out.symm)) (by rw[f.out,b.out];omega) c ?_);intro M g x;refine o _ _ (Stop.of ?_)))
 refine Stop.on ?_
 rw[kZ _ _ (f.out.trans b.out.symm),<-X.out] at g
 have s:Below w.heap.size w M:=(((Keep.refl eG w).alloc _).trans x (fun i hi e=>absurd hi (by rw[e];exact cO _))).below
 have z:bq M.drew eG 1 (.slice (some ⟨w.heap.size,0,none⟩) 512 512) (bytesOf a).length (aF (bytesOf a)):=by
  have D:Row M.drew w.heap.size 260 (aF (bytesOf a)):=g
  have:=D.dM (S:=eG) (k:=1) (off:=0) 512 512 (by rw[fF];omega) id (aC _) (by simp[maxLen])
  rw[dY,aL (by rw[fF];omega)] at this
  rw[A];exact this
 have H:=ah (O.out _ s.drew z)
 clear g x z O y f m c
 go_wp2_with fail
 refine aP (fun _=>True) (fun i=> !([5].contains i)) [0,1,2,3,4,5,6] rfl (by kernel_rfl) trivial ?_
 have B:∀w,(nilAhead 841 123 (.pointer (some ⟨t,0,none⟩)) "Write").run Tryz.prog w= .ok (some false) w:=fun _=>by kernel_rfl
 repeat ((refine bE (v:= ?_) rfl rfl (fun _ _ _ h=>h) rfl (fun W q=> ?_) ?_);rotate_left;(focus ((try dsimp only at q);have:=B;(go_simp;first|done|with_reducible rfl)));(try simp only[Act.put,ak,ay,ax]))
 refine bT rfl rfl rfl ?_;intro K o;go_simp
 refine H.out.mono ?_;rintro e w4 ⟨rfl,N,J⟩
 refine o.out _ _ trivial ?_
 repeat ((refine bE (v:= ?_) rfl rfl (fun _ _ _ h=>h) rfl (fun W q=> ?_) ?_);rotate_left;(focus ((try dsimp only at q);have:=B;(go_simp;first|done|with_reducible rfl)));(try simp only[Act.put,ak,ay,ax]))
 refine bN ?_
 go_wp2_with fail
 go_ret
 exact⟨rfl,N,(Step.of_below s.drew).trans J⟩
end Go.Proofs.YtpmbddooibgnaaaGreatDoor
