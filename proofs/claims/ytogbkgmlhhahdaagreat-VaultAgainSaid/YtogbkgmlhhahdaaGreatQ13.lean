/- parts -/
import Derived.Test.YtogbkgmlhhahdaaGreatQ4
import Derived.Test.YtogbkgmlhhahdaaGreatQ11
import Derived.Test.YtogbkgmlhhahdaaGreatQ12
import Derived.Lib.BitFns
import Derived.Laws.BitsAllLaws
set_option maxRecDepth 100000
set_option maxHeartbeats 8000000
set_option linter.all false
namespace Go.Proofs.YtogbkgmlhhahdaaGreat
open Go.RowKit
theorem Px (d:Nat)(σ:Dk)(Sd:Nat->Prop)(n:Int)(w:World)(h:rD w Sd d σ):
  Calls Tryz.prog 74 #[.pointer (some ⟨d,0,none⟩),.int .i64 n] w fun e w'=>e= .returned (.int .i64 (if n<2\/(σ.n:Int)<=n then 1 else 0))/\w'=w:=by
 have HS:=ah (IE d σ Sd w h)
 clear h
 by_cases h1:n<2
 ·rw[if_pos (.inl h1)]
  go_enter Tryz.func74,Tryz.ntmps74
  go_wp2_with fail
  go_ret
  exact⟨rfl,rfl⟩
 ·by_cases h2:(σ.n:Int)<=n
  ·rw[if_pos (.inr h2)]
   go_enter Tryz.func74,Tryz.ntmps74
   go_wp2_with (first
    |(go_at_call 9;go_must (refine HS.out.mono ?_;rintro e w1 ⟨rfl,hw1⟩;subst w1)))
   go_ret
   exact⟨rfl,rfl⟩
  ·rw[if_neg (by omega)]
   go_enter Tryz.func74,Tryz.ntmps74
   go_wp2_with (first
    |(go_at_call 9;go_must (refine HS.out.mono ?_;rintro e w1 ⟨rfl,hw1⟩;subst w1)))
   go_ret
   exact⟨rfl,rfl⟩
def Dk.uO:Nat->Nat->Dk->Dk
 |0,_,σ=>σ
 |k+1,i,σ=>Dk.uO k (i+1) (σ.put i [])
theorem Dk.zM:∀(k i:Nat) (σ:Dk),Dk.uO (k+1) i σ=(Dk.uO k i σ).put (i+k) []
 |0,i,σ=>rfl
 |k+1,i,σ=>by
  show Dk.uO (k+1) (i+1) (σ.put i [])=_
  rw[Dk.zM k (i+1)]
  show (Dk.uO k (i+1) (σ.put i [])).put (i+1+k) []=(Dk.uO k (i+1) (σ.put i [])).put (i+(k+1)) []
  rw[show i+1+k=i+(k+1) by omega]
theorem Dk.zN:∀(k i:Nat) (σ:Dk),(Dk.uO k i σ).n=σ.n
 |0,_,_=>rfl
 |k+1,i,σ=>(Dk.zN k (i+1) (σ.put i [])).trans rfl
theorem Dk.wD:∀(k i:Nat) (σ:Dk),σ.nX->(Dk.uO k i σ).nX
 |0,_,_,h=>h
 |k+1,i,σ,h=>Dk.wD k (i+1) (σ.put i []) (h.put i [])
theorem Dk.xL:∀(k i:Nat) (σ:Dk),(Dk.uO k i σ).waits.length=σ.waits.length+k
 |0,_,_=>rfl
 |k+1,i,σ=>by
  show (Dk.uO k (i+1) (σ.put i [])).waits.length=_
  rw[Dk.xL k (i+1)]
  simp[Dk.put]
  omega
def Pg.new (n:Nat):Pg:=⟨n,n - 1,Im.none,false⟩
theorem Cj {w:World}{Sd Sl:Nat->Prop}{lg d:Nat}{σ:Dk}{l:Lg}(n:Nat)(h:iT w Sd Sl lg d σ l)(hf:l.frm=0)(hn:l.n=n)(hfit:n<σ.n)(h2:2<=n):
  jh ((w.alloc (.map #[] 0)).alloc (.cells #[.pointer (some ⟨d,0,none⟩),.pointer (some ⟨lg,0,none⟩),.int .i64 n,.int .i64 ((n - 1:Nat):Int),.map (some w.heap.size),.pointer none,.bool false] 141)) (Three Sd Sl (fun g=>g=w.heap.size\/g=w.heap.size+1)) (w.heap.size+1) d σ l (Pg.new n) (.pointer none)/\
  Step (fun g=>Sd g\/Sl g) (Three Sd Sl (fun g=>g=w.heap.size\/g=w.heap.size+1)) w ((w.alloc (.map #[] 0)).alloc (.cells #[.pointer (some ⟨d,0,none⟩),.pointer (some ⟨lg,0,none⟩),.int .i64 n,.int .i64 ((n - 1:Nat):Int),.map (some w.heap.size),.pointer none,.bool false] 141)):=by
 obtain⟨cs,hcs⟩:∃cs:Array Value,cs=#[.pointer (some ⟨d,0,none⟩),.pointer (some ⟨lg,0,none⟩),.int .i64 n,.int .i64 ((n - 1:Nat):Int),.map (some w.heap.size),.pointer none,.bool false]:=⟨_,rfl⟩
 rw[<-hcs]
 have hb:Below w.heap.size w ((w.alloc (.map #[] 0)).alloc (.cells cs 141)):=ic w _ _
 have hm:kX ((w.alloc (.map #[] 0)).alloc (.cells cs 141)) w.heap.size Im.none:=(kX.none w).block (qd _ _ _ (by simp))
 have ho:((w.alloc (.map #[] 0)).alloc (.cells cs 141)).heap[w.heap.size+1]? =some (.cells cs 141 (0,0)):=by
  have:=bD (w.alloc (.map #[] 0)) (.cells cs 141)
  rwa [aS] at this
 have hs:((w.alloc (.map #[] 0)).alloc (.cells cs 141)).heap.size=w.heap.size+2:=by simp
 have hdl:∀g,Sd g->g<w.heap.size:=h.dk.sub
 have hll:∀g,Sl g->g<w.heap.size:=h.lg.sub
 refine⟨⟨Sd,Sl,_,lg,w.heap.size,⟨h.below hb,⟨hf,hn.symm,?_,by rw[hn];exact hfit,Im.Ok.none _⟩,fun g hg=> ?_,fun g hg e=> ?_,fun g hg e=> ?_,.inr rfl,.inl rfl,?_,hm⟩,fun _=>Og⟩,(Keep.of_below hb _),fun g hg=> ?_⟩
 ·show n - 1+1=l.n;omega
 ·omega
 ·have:=hdl g e;omega
 ·have:=hll g e;omega
 ·rw[ho,hcs];rfl
 ·rcases hg with hg|hg|hg
  ·exact .inl (.inl hg)
  ·exact .inl (.inr hg)
  ·right;omega
theorem UN (d:Nat)(σ:Dk)(Sd:Nat->Prop)(n:Nat)(w:World)(h:rD w Sd d σ)(hf:σ.nX)(h1:2<=n)(h2:n<σ.n)(hcap:σ.waits.length<=50000):
  Calls Tryz.prog 39 #[.pointer (some ⟨d,0,none⟩),.int .i64 n] w fun e w'=>∃pg S',e= .returned (.tuple #[.pointer (some ⟨pg,0,none⟩),.int .i64 0])/\
   jh w' S' pg d (((Dk.uO (σ.n - n) n σ).flush.put 0 (Lg.new 0 n).fE).flush) (Lg.new 0 n) (Pg.new n) (.pointer none)/\Step Sd S' w w':=by
 have hck:=Px d σ Sd n w h
 rw[if_neg (by omega)] at hck
 have HC:=ah hck;clear hck
 have hi:=h.ok.hi
 have HH:=ah h;have HF:=ah hf
 clear h hf
 go_enter Tryz.func39,Tryz.ntmps39
 go_wp2_with (first
  |(go_at_call 74;go_must (refine HC.out.mono ?_;rintro e w1 ⟨rfl,hw1⟩;subst w1)))
 go_loopw [7] (fun i wr=>∃(k:Nat) (S1:Nat->Prop),n+k<=σ.n/\i= .int .i64 ((n+k:Nat):Int)/\Hid (rD wr S1 d (Dk.uO k n σ))/\Hid (Step Sd S1 w wr)) (fun i _=>σ.n - (intOf i).toNat)
 case atStart=>exact⟨0,Sd,by omega,rfl,HH,ah (Step.refl _ _)⟩
 case round=>
  obtain⟨k,S1,hk,rfl,HD,HS⟩:=hrel
  have HSz:=ah (IE d _ S1 wr HD.out)
  rw[Dk.zN] at HSz
  obtain⟨j,HJ⟩:∃j,Hid (n+k=j):=⟨_,ah rfl⟩
  rw[HJ.out] at hk ⊢
  by_cases hlt:j<σ.n
  ·have hltI:(j:Int)<(σ.n:Int):=by omega
   have hwr:=FP d _ S1 (j:Int) (.slice none 0 0) [] wr HD.out (aX.nil _ _ _) (by rw[Dk.xL];have:=HJ.out;omega)
   rw[(Dk.wD k n σ HF.out).write j [] (by rw[Dk.zN];exact hlt) (by simp)] at hwr
   have HWr:=ah hwr;clear hwr
   go_wp2_with (first
    |(go_at_call 9;go_must (refine HSz.out.mono ?_;rintro e w1 ⟨rfl,hw1⟩;subst w1))
    |(go_at_call 78;go_must (refine HWr.out.mono ?_;rintro e w2 ⟨rfl,S2,hD2,hs2⟩)))
   have HD2:=ah hD2;have HS2:=ah (HS.out.trans hs2);clear hD2 hs2
   go_roundw
   case rel=>
    refine⟨k+1,S2,by have:=HJ.out;omega,by have:=HJ.out;go_num,ah ?_,HS2⟩
    rw[Dk.zM,HJ.out]
    exact HD2.out
   case measure=>simp[intOf];omega
  ·obtain rfl:j=σ.n:=by omega
   have hkk:k=σ.n - n:=by have:=HJ.out;omega
   rw[hkk] at HD
   have HM:=ah (Uy d _ S1 0 n wr HD.out (Dk.wD _ n σ HF.out) h1 (by rw[Dk.zN];omega) (by rw[Dk.xL];omega))
   have hmk:∀w:World,(Instr.makeMap 139 none).run Tryz.prog w= .ok (.map (some w.heap.size)) (w.alloc (.map #[] 0)):=fun w=>run_makeMap _ w
   have e1:IntKind.i64.wrap ((n:Int) - 1)=((n - 1:Nat):Int):=by rw[aG _ (by omega)];omega
   go_wp2_with (first
    |(go_at_call 9;go_must (refine HSz.out.mono ?_;rintro e w1 ⟨rfl,hw1⟩;subst w1))
    |(go_at_call 79;go_must (refine HM.out.mono ?_;rintro e w2 ⟨lg,Sd2,Sl2,rfl,hA2,hs2⟩;refine Stop.of ?_)))
   refine Stop.on ?_
   have HA2:=ah hA2;have HS2:=ah (HS.out.trans hs2);clear hA2 hs2
   go_wp2_with fail
   go_ret2
   have hb:=Cj n HA2.out rfl rfl (by show n<(((Dk.uO (σ.n - n) n σ).flush.put 0 (Lg.new 0 n).fE).flush).n;have:(((Dk.uO (σ.n - n) n σ).flush.put 0 (Lg.new 0 n).fE).flush).n=(Dk.uO (σ.n - n) n σ).n:=rfl;rw[this,Dk.zN];exact h2) h1
   exact⟨_,_,rfl,hb.1,HS2.out.trans hb.2⟩
theorem uZ (a c m t:Nat)(k:Nat)(hm:m=2^k)(ha:a<m)(ht:t=a+m*c)(hlt:t<9223372036854775808):bits .or .i64 (a:Int) ((m*c:Nat):Int)=(t:Int):=by
 unfold bits
 have hb:m*c<18446744073709551616:=by omega
 have e4:(BitVec.ofInt 64 (a:Int)|||BitVec.ofInt 64 ((m*c:Nat):Int)).toNat=t:=by
  rw[nI,nI,BitVec.toNat_or,oW,oW,oq (by omega),oq (by omega),Nat.or_comm]
  have:=zI (i:=k) (b:=a) (by omega) c
  rw[hm,<-this,ht,hm]
  omega
 show IntKind.i64.wrap (((BitVec.ofInt 64 (a:Int)|||BitVec.ofInt 64 ((m*c:Nat):Int)).toNat:Nat):Int)=t
 rw[e4,kW]
 omega
theorem qO (l:List UInt8)(i:Nat)(b:UInt8)(h:l[i]? =some b)(W:World):(Instr.index 9 (.string (strOf l)) (.int .i64 (i:Int))).run Tryz.prog W= .ok (.int .u8 (b.toNat:Int)) W:=by
 obtain⟨hi,hb⟩:=cu.1 h
 have hs:(strOf l).size=l.length:=by show l.toArray.size=_;simp
 rw[run_index_string W 9 (strOf l) .i64 (i:Int) gM,dif_pos ⟨by omega,by rw[hs];omega⟩]
 have:(strOf l)[(i:Int).toNat]'(by rw[hs];omega)=b:=by
  show l.toArray[(i:Int).toNat]'(by simpa using hi)=b
  simp[hb]
 rw[this]
theorem RG (b0 b1 b2 b3:UInt8)(r:List UInt8)(w:World):
  Calls Tryz.prog 76 #[.string (strOf (b0::b1::b2::b3::r))] w fun e w'=>e= .returned (.int .i64 (rV [b0,b1,b2,b3]))/\w'=w.drew:=by
 have h0:=b0.toNat_lt;have h1:=b1.toNat_lt;have h2:=b2.toNat_lt;have h3:=b3.toNat_lt
 have i0:∀W:World,(Instr.index 9 (.string (strOf (b0::b1::b2::b3::r))) (.int .i64 0)).run Tryz.prog W= .ok (.int .u8 (b0.toNat:Int)) W:=fun W=>qO _ 0 b0 rfl W
 have i1:∀W:World,(Instr.index 9 (.string (strOf (b0::b1::b2::b3::r))) (.int .i64 1)).run Tryz.prog W= .ok (.int .u8 (b1.toNat:Int)) W:=fun W=>qO _ 1 b1 rfl W
 have i2:∀W:World,(Instr.index 9 (.string (strOf (b0::b1::b2::b3::r))) (.int .i64 2)).run Tryz.prog W= .ok (.int .u8 (b2.toNat:Int)) W:=fun W=>qO _ 2 b2 rfl W
 have i3:∀W:World,(Instr.index 9 (.string (strOf (b0::b1::b2::b3::r))) (.int .i64 3)).run Tryz.prog W= .ok (.int .u8 (b3.toNat:Int)) W:=fun W=>qO _ 3 b3 rfl W
 obtain⟨s,hs⟩:∃s,Hid (strOf (b0::b1::b2::b3::r)=s):=⟨_,ah rfl⟩
 rw[hs.out] at i0 i1 i2 i3 ⊢
 have q0:IntKind.i64.wrap (b0.toNat:Int)=(b0.toNat:Int):=aG _ (by omega)
 have q1:IntKind.i64.wrap (b1.toNat:Int)=(b1.toNat:Int):=aG _ (by omega)
 have q2:IntKind.i64.wrap (b2.toNat:Int)=(b2.toNat:Int):=aG _ (by omega)
 have q3:IntKind.i64.wrap (b3.toNat:Int)=(b3.toNat:Int):=aG _ (by omega)
 have p1:IntKind.i64.wrap ((b1.toNat:Int)*256)=((256*b1.toNat:Nat):Int):=by rw[aG _ (by omega)];omega
 have p2:IntKind.i64.wrap ((b2.toNat:Int)*65536)=((65536*b2.toNat:Nat):Int):=by rw[aG _ (by omega)];omega
 have p3:IntKind.i64.wrap ((b3.toNat:Int)*16777216)=((16777216*b3.toNat:Nat):Int):=by rw[aG _ (by omega)];omega
 obtain⟨n1,hn1⟩:∃n,n=b0.toNat+256*b1.toNat:=⟨_,rfl⟩
 obtain⟨n2,hn2⟩:∃n,n=n1+65536*b2.toNat:=⟨_,rfl⟩
 obtain⟨n3,hn3⟩:∃n,n=n2+16777216*b3.toNat:=⟨_,rfl⟩
 have o1:=uZ b0.toNat b1.toNat 256 n1 8 rfl h0 hn1 (by omega)
 have o2:=uZ n1 b2.toNat 65536 n2 16 rfl (by omega) hn2 (by omega)
 have o3:=uZ n2 b3.toNat 16777216 n3 24 rfl (by omega) hn3 (by omega)
 have hN:=ah (show rV [b0,b1,b2,b3]=n3 by simp only[rV];omega)
 rw[hN.out]
 obtain⟨m1,hm1⟩:∃m:Nat,Hid (256*b1.toNat=m):=⟨_,ah rfl⟩
 obtain⟨m2,hm2⟩:∃m:Nat,Hid (65536*b2.toNat=m):=⟨_,ah rfl⟩
 obtain⟨m3,hm3⟩:∃m:Nat,Hid (16777216*b3.toNat=m):=⟨_,ah rfl⟩
 rw[hm1.out] at p1 o1;rw[hm2.out] at p2 o2;rw[hm3.out] at p3 o3
 clear hn1 hn2 hn3 h0 h1 h2 h3
 go_enter Tryz.func76,Tryz.ntmps76
 go_wp2_with fail
 refine aP (fun W=>W=w.drew) (fun i=>true) [0,1,2,3,4,5,6,7,8,9,10,11,12,13,14,15,16,17,18] rfl (by kernel_rfl) rfl ?_
 repeat ((refine bP (v:= ?_) rfl rfl (fun _ _ _ h=>h) rfl (fun W hW=> ?_) ?_);rotate_left;(focus ((try dsimp only at hW);subst hW;(go_simp;first|done|with_reducible rfl)));(try simp only[Act.put,ai,ax,au]))
 refine bS ?_
 go_wp2_with fail
 go_ret
 exact⟨rfl,rfl⟩
theorem OA (ph pa g:Nat)(c:Nat)(xs:List UInt8)(i N:Nat)(w:World)(hN:52<=N)(hN2:N<=100000)(h1:w.cell? ⟨ph,0,none⟩=some (.slice (some ⟨g,0,none⟩) N c))(h2:w.cell? ⟨pa,0,none⟩=some (.int .i64 12))(hx:xs.length=N)(hv:gy w fZ (.slice (some ⟨g,0,none⟩) N c) xs)(hi:i<=4):
  Calls Tryz.prog 124 #[.int .i64 i,.pointer (some ⟨ph,0,none⟩),.pointer (some ⟨pa,0,none⟩)] w fun e w'=>e= .returned (.int .u64 (rV ((xs.drop (12+8*i)).take 8)))/\w'=w:=by
 have hv':aX w fZ 1 (.slice (some ⟨g,0,none⟩) N c) N (aI xs):=by rw[<-hx];rw[<-hx] at hv;exact hv
 have hc1:N<=c:=by
  obtain⟨_,_,he,hc1,_⟩:=hv'
  injection he with e1 e2 e3
  omega
 obtain⟨z,HZ⟩:∃z,Hid (12+8*i=z):=⟨_,ah rfl⟩
 have hz:z<=44:=by have:=HZ.out;omega
 have a1:IntKind.i64.wrap (8*(i:Int))=((8*i:Nat):Int):=by rw[aG _ (by omega)];omega
 have a2:IntKind.i64.wrap (12+((8*i:Nat):Int))=(z:Int):=by rw[aG _ (by omega),<-HZ.out];omega
 have hs:=hv'.after z (by omega)
 rw[if_neg (show ¬c=z by omega)] at hs
 simp only[iB,dY,aU,dV] at hs
 have hsl:gy w fZ (.slice (some ⟨g,z,none⟩) (N - z) (c - z)) (xs.drop z):=by
  have e:List.drop z (aI xs)=aI (xs.drop z):=by simp[aI,fO]
  show aX w fZ 1 _ (xs.drop z).length _
  rw[aN,hx,<-e]
  exact hs
 have HG:=ah (MB _ (xs.drop z) 8 fZ w hsl (by rw[aN,hx];omega) (by omega))
 rw[<-HZ.out] at HG
 have k1:(z:Int)<=N:=by omega
 have hph:=aD w _ h1
 have hpa:=aD w _ h2
 clear hs hv hv' a1 a2
 go_enter Tryz.func124,Tryz.ntmps124
 go_wp2_with (first
  |(go_at_call 125;go_must (refine HG.out.mono ?_;rintro e w1 ⟨rfl,hw1⟩;subst w1)))
 go_ret
 exact⟨rfl,rfl⟩
structure Va (σ:Dk)(l:Lg)(at_:Nat)(B Z:List UInt8):Prop where
 len:Z.length=(B.length+511)/512*512
 beg:Z.take B.length=B
 sec:∀j,j<(B.length+511)/512->σ.get (l.ring (at_+j))=(Z.drop (j*512)).take 512
theorem MI (Z:List UInt8)(i:Nat):Z.take (i*512)++(Z.drop (i*512)).take 512=Z.take ((i+1)*512):=by
 rw[eH,jX,Q0]
theorem QD {Z B:List UInt8}(h:Z.take B.length=B)(i:Nat)(hi:i<=B.length):Z.take i=B.take i:=by
 rw[<-h,dz,bI hi]
theorem Sc {Z B:List UInt8}(h:Z.take B.length=B)(i j:Nat)(hi:i+j<=B.length):(Z.drop i).take j=(B.drop i).take j:=by
 have e:=QD h (i+j) hi
 have h1:(Z.drop i).take j=(Z.take (i+j)).drop i:=by rw[gV];congr 1;omega
 have h2:(B.drop i).take j=(B.take (i+j)).drop i:=by rw[gV];congr 1;omega
 rw[h1,h2,e]
theorem Jg (k:Nat)(bF:List (List UInt8)):(iH k bF).take 4=leB (iH k bF).length 4:=by
 have hl:(iH k bF).length=16+(iG bF).length:=by rw[rX,lN]
 rw[hl]
 unfold iH
 simp only[aL]
 rw[gQ (bW _ 4)]
theorem KY (k:Nat)(bF:List (List UInt8)):((iH k bF).drop 4).take 8=leB k 8:=by
 unfold iH
 simp only[aL]
 rw[fI (bW _ 4),gQ (bW _ 8)]
theorem KX (k:Nat)(bF:List (List UInt8)):((iH k bF).drop 12).take 4=leB (xM (iG bF)) 4:=by
 have e:iH k bF=(leB (16+(iG bF).length) 4++leB k 8)++(leB (xM (iG bF)) 4++iG bF):=by unfold iH;simp only[aL]
 rw[e,fI (by simp[bW]),gQ (bW _ 4)]
theorem Jh (k:Nat)(bF:List (List UInt8)):(iH k bF).drop 16=iG bF:=by
 unfold iH
 rw[fI (by simp[bW])]
theorem ug (r:List UInt8)(rest:List (List UInt8)):iG (r::rest)=leB r.length 4++r++iG rest:=by simp[iG]
theorem NY (r:List UInt8)(rest:List (List UInt8)):(iG (r::rest)).take 4=leB r.length 4:=by
 rw[ug,aL,gQ (bW _ 4)]
theorem QB (r:List UInt8)(rest:List (List UInt8)):((iG (r::rest)).take (4+r.length)).drop 4=r:=by
 rw[ug,gQ (by simp[bW]),fI (bW _ 4)]
theorem NW (r:List UInt8)(rest:List (List UInt8)):(iG (r::rest)).drop (4+r.length)=iG rest:=by
 rw[ug,fI (by simp[bW])]
theorem Ja (r:List UInt8)(rest:List (List UInt8)):(iG (r::rest)).length=4+r.length+(iG rest).length:=by
 rw[ug];simp[bW];omega
theorem Km (l:Lg)(z:List UInt8):(l.fE++z).take 12=magic:=by
 unfold Lg.fE Lg.lU
 simp only[aL]
 rw[gQ (by rfl)]
theorem Kn (l:Lg)(z:List UInt8)(i:Nat)(hi:i<5):((l.fE++z).drop (12+8*i)).take 8=leB (l.fields.getD i 0) 8:=by
 have e:l.fE++z=magic++(leB l.frm 8++(leB l.n 8++(leB l.start 8++(leB l.first 8++(leB l.synced 8++(leB (xM l.lU) 4++z)))))):=by
  unfold Lg.fE
  generalize xM l.lU=s
  rw[Lg.lU]
  simp only[aL]
 rw[e]
 have hm:magic.length=12:=rfl
 rw[show 12+8*i=magic.length+8*i by rw[hm],<-kY,uI]
 match i,hi with
 |0,_=>exact gQ (bW _ 8)
 |1,_=>rw[fI (bW _ 8)];exact gQ (bW _ 8)
 |2,_=>
  rw[show 8*2=8+8 from rfl,<-kY,fI (bW _ 8),fI (bW _ 8)];exact gQ (bW _ 8)
 |3,_=>
  rw[show 8*3=8+(8+8) from rfl,<-kY,<-kY,fI (bW _ 8),fI (bW _ 8),fI (bW _ 8)];exact gQ (bW _ 8)
 |4,_=>
  rw[show 8*4=8+(8+(8+8)) from rfl,<-kY,<-kY,<-kY,fI (bW _ 8),fI (bW _ 8),fI (bW _ 8),fI (bW _ 8)];exact gQ (bW _ 8)
theorem Nj (l:Lg)(z:List UInt8):(l.fE++z).take 52=l.lU:=by
 unfold Lg.fE
 rw[aL,gQ l.oO]
theorem PU (l:Lg)(z:List UInt8):((l.fE++z).drop 52).take 4=leB (xM l.lU) 4:=by
 unfold Lg.fE
 rw[aL,fI l.oO,gQ (bW _ 4)]
def CS (σ:Dk)(s:Nat->List UInt8):Prop:=∃ks:List Bool,s=(σ.oP ks).sec
def sG (s:Nat->List UInt8)(i:Nat)(x:List UInt8):Nat->List UInt8:=fun j=>if i=j then x else s j
def Al (σ:Dk)(P:(Nat->List UInt8)->Prop):Prop:=∀s,CS σ s->P s
theorem Nr (ks:List Bool)(ws:List (Nat×List UInt8))(p:Nat×List UInt8):kept ks (ws++[p])=kept ks ws\/kept ks (ws++[p])=kept ks ws++[p]:=by
 have h:=wP ks (ws++[p]) ws.length (by simp)
 rw[aJ (by simp),iE] at h
 rw[h]
 split
 ·right;simp
 ·left;simp
theorem Ew:∀ws:List (Nat×List UInt8),kept (List.replicate ws.length true) ws=ws
 |[]=>rfl
 |p::ws=>by
  rw[aZ,List.replicate_succ]
  simp only[kept,iI]
  rw[Ew ws]
theorem CS.get (σ:Dk):CS σ σ.get:=⟨List.replicate σ.waits.length true,by
 funext i
 show _=behind (kept _ σ.waits) i (σ.sec i)
 rw[Ew];rfl⟩
theorem CS.none {σ:Dk}{s:Nat->List UInt8}(h:CS σ s)(hw:σ.waits=[]):s=σ.get:=by
 obtain⟨ks,rfl⟩:=h
 funext i
 show behind (kept ks σ.waits) i (σ.sec i)=behind σ.waits i (σ.sec i)
 rw[hw,Cv]
theorem CS.same {σ τ:Dk}(h1:τ.sec=σ.sec)(h2:τ.waits=σ.waits){s:Nat->List UInt8}(h:CS τ s):CS σ s:=by
 obtain⟨ks,rfl⟩:=h
 exact⟨ks,by unfold Dk.oP;rw[h1,h2]⟩
theorem CS.put {σ:Dk}{i:Nat}{l:List UInt8}{s:Nat->List UInt8}(h:CS (σ.put i l) s):CS σ s\/∃s',CS σ s'/\s=sG s' i (pad l):=by
 obtain⟨ks,rfl⟩:=h
 rcases Nr ks σ.waits (i,pad l) with e|e
 ·left
  refine⟨ks,?_⟩
  funext j
  show behind (kept ks (σ.waits++[(i,pad l)])) j (σ.sec j)=_
  rw[e];rfl
 ·right
  refine⟨_,⟨ks,rfl⟩,?_⟩
  funext j
  show behind (kept ks (σ.waits++[(i,pad l)])) j (σ.sec j)=_
  rw[e,nP]
  rfl
theorem Al.get {σ:Dk}{P:(Nat->List UInt8)->Prop}(h:Al σ P):P σ.get:=h _ (CS.get σ)
theorem Al.same {σ τ:Dk}{P:(Nat->List UInt8)->Prop}(h:Al σ P)(h1:τ.sec=σ.sec)(h2:τ.waits=σ.waits):Al τ P:=fun s hs=>h s (hs.same h1 h2)
theorem Al.fF {σ:Dk}{P:(Nat->List UInt8)->Prop}(h:Al σ P):Al σ.fF P:=h.same σ.dW.2.1 σ.dW.2.2
theorem Al.put {σ:Dk}{P:(Nat->List UInt8)->Prop}(h:Al σ P){i:Nat}{l:List UInt8}(hc:∀s,P s->P (sG s i (pad l))):Al (σ.put i l) P:=fun s hs=>by
 rcases hs.put with e|⟨s',e,rfl⟩
 ·exact h s e
 ·exact hc _ (h _ e)
theorem Al.none {σ:Dk}{P:(Nat->List UInt8)->Prop}(h:P σ.get)(hw:σ.waits=[]):Al σ P:=fun s hs=>by
 rw[hs.none hw];exact h
theorem Dk.qW (σ:Dk)(i:Nat):σ.fF.get i=σ.get i:=by unfold Dk.get;rw[σ.dW.2.1,σ.dW.2.2]
theorem zL {σ:Dk}(hd:σ.dead=false){i:Nat}{l:List UInt8}(hi:i<σ.n)(hl:l.length<=512):
  (σ.write i l=(σ.fF.put i l,0)/\σ.fF.dead=false)\/(σ.write i l=(σ.fF,10)/\σ.fF.dead=true):=by
 unfold Dk.write
 rw[hd,if_neg (by simp),if_neg (by omega),if_neg (by omega)]
 cases h:σ.fF.dead with
 |true=>right;rw[if_pos rfl];exact⟨rfl,rfl⟩
 |false=>left;rw[if_neg (by simp)];exact⟨by simp,rfl⟩
theorem BI {σ:Dk}(hd:σ.dead=false):(σ.sync=(σ.fF.flush,0)/\σ.fF.dead=false)\/(σ.sync=(σ.fF,10)/\σ.fF.dead=true):=by
 unfold Dk.sync
 rw[hd,if_neg (by simp)]
 cases h:σ.fF.dead with
 |true=>right;rw[if_pos rfl];exact⟨rfl,rfl⟩
 |false=>left;rw[if_neg (by simp)];exact⟨rfl,rfl⟩
def Dj (s:Nat->List UInt8)(l:Lg)(at_:Nat)(B:List UInt8):Prop:=
 ∃Z:List UInt8,Z.length=(B.length+511)/512*512/\Z.take B.length=B/\∀j,j<(B.length+511)/512->s (l.ring (at_+j))=(Z.drop (j*512)).take 512
theorem Dj.congr {s s':Nat->List UInt8}{l l':Lg}{at_:Nat}{B:List UInt8}(h:Dj s l at_ B)(hf:l'.frm=l.frm)(hn:l'.n=l.n)(hs:∀j,j<(B.length+511)/512->s' (l.ring (at_+j))=s (l.ring (at_+j))):Dj s' l' at_ B:=by
 obtain⟨Z,h1,h2,h3⟩:=h
 refine⟨Z,h1,h2,fun j hj=> ?_⟩
 have e:l'.ring (at_+j)=l.ring (at_+j):=by unfold Lg.ring;rw[hf,hn]
 rw[e,hs j hj];exact h3 j hj
theorem GQ {l:Lg}{a b:Nat}(h1:a<b)(h2:b<a+(l.n - 1)):l.ring a≠l.ring b:=by
 unfold Lg.ring
 intro e
 have e:a%(l.n - 1)=b%(l.n - 1):=by omega
 obtain⟨m,hm⟩:∃m,m=l.n - 1:=⟨_,rfl⟩
 rw[<-hm] at h2 e
 have ha:=Nat.div_add_mod a m
 have hb:=Nat.div_add_mod b m
 have hq:a/m<=b/m:=Mq (by omega)
 rcases Nat.lt_or_eq_of_le hq with hq|hq
 ·have:m*(a/m+1)<=m*(b/m):=nY m hq
  rw[Nat.mul_add,aU] at this
  omega
 ·rw[hq] at ha;omega
theorem uS (l:Lg)(a:Nat)(h:2<=l.n)(hf:l.frm=0):0<l.ring a/\l.ring a<l.n:=by
 unfold Lg.ring
 have:=mD a (by omega:0<l.n - 1)
 omega
theorem Lu {l:Lg}{a b k m:Nat}(hak:a+k<=b)(hbm:b+m<=a+(l.n - 1)){i j:Nat}(hi:i<k)(hj:j<m):l.ring (b+j)≠l.ring (a+i):=fun e=>GQ (l:=l) (a:=a+i) (b:=b+j) (by omega) (by omega) e.symm
def kK:Nat->List (List (List UInt8))->List (Nat×Nat)
 |_,[]=>[]
 |k,b::r=>(k,dQ b)::kK (k+1) r
theorem xw:∀(r:List (List (List UInt8))) (k:Nat),(kK k r).length=r.length
 |[],_=>rfl
 |b::r,k=>by rw[kK,aZ,aZ,xw r]
theorem vG:∀(r:List (List (List UInt8))) (k:Nat) (b:List (List UInt8)),kK k (r++[b])=kK k r++[(k+r.length,dQ b)]
 |[],_,_=>rfl
 |c::r,k,b=>by
  rw[kN,kK,vG r,kK,aZ,kN]
  congr 4
  omega
theorem vF:∀(r:List (List (List UInt8))) (k i:Nat),(kK k r).take i=kK k (r.take i)
 |[],_,i=>by simp[kK]
 |b::r,k,0=>by simp[kK]
 |b::r,k,i+1=>by rw[kK,iX,vF r,iX,kK]
def wide (r:List (List (List UInt8))):Nat:=(r.map dQ).sum
theorem Ai (a b:List (List (List UInt8))):wide (a++b)=wide a+wide b:=by simp[wide]
theorem xY:∀(r:List (List (List UInt8))) (k:Nat),((kK k r).map (·.2)).sum=wide r
 |[],_=>rfl
 |b::r,k=>by rw[kK,dw,lY,xY r];simp[wide]
theorem yR (b:List (List UInt8)):1<=dQ b:=by unfold dQ;omega
theorem tJ (k:Nat)(b:List (List UInt8)):((iH k b).length+511)/512=dQ b:=by rw[rX];rfl
theorem Bu:∀r:List (List (List UInt8)),r.length<=wide r
 |[]=>aC _
 |b::r=>by
  have:=Bu r;have:=yR b
  have e:wide (b::r)=dQ b+wide r:=by simp[wide]
  rw[e,aZ];omega
theorem zO (r:List (List (List UInt8)))(i:Nat):wide (r.take i)<=wide r:=by
 have h:wide r=wide (r.take i)+wide (r.drop i):=by rw[<-Ai,bJ]
 omega
theorem DZ (r:List (List (List UInt8)))(i:Nat)(h:i<r.length):wide (r.take (i+1))=wide (r.take i)+dQ r[i]:=by
 rw[aM h,Ai]
 simp[wide]
def oU (s:Nat->List UInt8)(l:Lg)(k:Nat)(bs:List (List (List UInt8))):Prop:=
 ∀i (h:i<bs.length),Dj s l (l.start+wide (bs.take i)) (iH (k+i) bs[i])
theorem oU.congr {s s':Nat->List UInt8}{l l':Lg}{k:Nat}{bs:List (List (List UInt8))}(h:oU s l k bs)(hf:l'.frm=l.frm)(hn:l'.n=l.n)(hst:l'.start=l.start)(hs:∀j,j<wide bs->s' (l.ring (l.start+j))=s (l.ring (l.start+j))):oU s' l' k bs:=fun i hi=>by
 rw[hst]
 refine(h i hi).congr hf hn fun j hj=> ?_
 rw[tJ] at hj
 have h1:=DZ bs i hi
 have h2:=zO bs (i+1)
 rw[lX]
 exact hs _ (by omega)
theorem oU.set {s:Nat->List UInt8}{l:Lg}{k:Nat}{bs:List (List (List UInt8))}(h:oU s l k bs){i:Nat}{x:List UInt8}(hi:∀j,j<wide bs->i≠l.ring (l.start+j)):oU (sG s i x) l k bs:=
 h.congr rfl rfl rfl fun j hj=>by unfold sG;rw[if_neg (hi j hj)]
theorem oU.take {s:Nat->List UInt8}{l:Lg}{k:Nat}{bs:List (List (List UInt8))}(h:oU s l k bs)(m:Nat):oU s l k (bs.take m):=fun i hi=>by
 rw[aH] at hi
 have h1:=h i (by omega)
 rw[dz,bI (by omega),lq]
 exact h1
theorem oU.snoc {s:Nat->List UInt8}{l:Lg}{k:Nat}{bs:List (List (List UInt8))}(h:oU s l k bs){b:List (List UInt8)}(hb:Dj s l (l.start+wide bs) (iH (k+bs.length) b)):oU s l k (bs++[b]):=fun i hi=>by
 rw[ay,dM] at hi
 by_cases h1:i<bs.length
 ·rw[bK (by omega),List.getElem_append_left h1]
  exact h i h1
 ·obtain rfl:i=bs.length:=by omega
  rw[iE,Bo (by omega)]
  simpa using hb
structure qw (s:Nat->List UInt8)(l:Lg)(bs:List (List (List UInt8))):Prop where
 ok:l.Ok
 dead:l.dead=false
 frm:l.frm=0
 mark:s 0=pad l.fE
 uM:l.synced=l.last
 list:l.list=kK (l.last+1 - bs.length) bs
 len:bs.length<=l.last
 on:oU s l (l.last+1 - bs.length) bs
theorem qR {l:Lg}{bs:List (List (List UInt8))}(h:l.list=kK (l.last+1 - bs.length) bs)(hl:bs.length<=l.last):l.first=l.last+1 - bs.length:=by
 unfold Lg.first
 cases bs with
 |nil=>rw[h];rfl
 |cons b r=>rw[h];rfl
theorem Hz {l l':Lg}(h:l'.fields=l.fields):l'.fE=l.fE:=by
 unfold Lg.fields at h
 simp only[nC,and_true] at h
 obtain⟨h1,h2,h3,h4,h5⟩:=h
 unfold Lg.fE Lg.lU
 rw[h1,h2,h3,h4,h5]
def findAll (ims:List Im)(b:Nat):Option (List UInt8):=ims.foldl (fun o im=>(im.find b).or o) none
theorem zh (ims:List Im)(im:Im)(b:Nat):findAll (ims++[im]) b=(im.find b).or (findAll ims b):=by
 unfold findAll
 rw[uH];rfl
def oZ (ims:List Im)(H:Nat->List UInt8)(b:Nat):List UInt8:=(findAll ims b).getD (H b)
theorem Im.Ok.over {m im:Im}{n:Nat}(h:m.Ok n)(hi:im.Ok n):(m.over im).Ok n:=by
 unfold Im.over
 refine⟨Im.zW _ _ _ h.rise,fun k hk=> ?_,fun k hk=> ?_⟩
 ·rcases (Im.wR _ _ _ _).1 hk with e|e
  ·exact h.hi k e
  ·exact hi.hi k e
 ·rw[Im.vD]
  split
  ·rename_i e;exact hi.img k e
  ·rename_i e
   exact h.img k (((Im.wR _ _ _ _).1 hk).resolve_right e)
structure Im.Oj (im:Im)(N:Nat):Prop where
 ok:im.Ok N
 lo:0<im.ks.length
 hi:im.ks.length<=1024
def gF (ims:List Im):List (List (List UInt8)):=ims.map Im.bF
def sP (s:Nat->List UInt8)(L N k:Nat)(C:Nat->List UInt8):Prop:=
 ∃(l:Lg) (ims:List Im),qw s l (gF ims)/\l.n=L/\l.last=k/\(∀im∈ims,im.Oj N)/\∀b,b<N->C b=oZ ims (fun b=>s (L+b)) b
theorem sP.congr {s:Nat->List UInt8}{L N k:Nat}{C C':Nat->List UInt8}(h:sP s L N k C)(hc:∀b,b<N->C' b=C b):sP s L N k C':=by
 obtain⟨l,ims,h1,h2,h3,h4,h5⟩:=h
 exact⟨l,ims,h1,h2,h3,h4,fun b hb=>(hc b hb).trans (h5 b hb)⟩
def Lg.uM (l:Lg)(m:Nat):Nat:=l.synced+m - l.last
structure Ph (l:Lg)(mark:List UInt8)(ims:List Im)(m L N:Nat)(H:Nat->List UInt8)(s:Nat->List UInt8):Prop where
 mark:s 0=pad mark
 on:oU s l (l.last+1 - ims.length) ((gF ims).take m)
 home:∀b,b<N->s (L+b)=H b
structure Rest (σ:Dk)(l:Lg)(p:Pg)(ims:List Im):Prop where
 lok:l.Ok
 pok:p.Ok σ l
 list:l.list=kK (l.last+1 - ims.length) (gF ims)
 len:ims.length<=l.last
 uM:l.last<=l.synced+ims.length
 bat:∀im∈ims,im.Oj (p.blocks σ)
 on:oU σ.get l (l.last+1 - ims.length) (gF ims)
 all:Al σ (Ph l l.fE ims (l.uM ims.length) p.skip (p.blocks σ) (fun b=>σ.get (p.skip+b)))
 fresh:∀b,p.fresh.find b=findAll ims b
 cap:σ.waits.length<=l.used
 wt:l.synced=l.last->σ.waits=[]
theorem dD (ims:List Im):(gF ims).length=ims.length:=by simp[gF]
theorem AB (ims:List Im)(m:Nat):(gF ims).take m=gF (ims.take m):=by simp[gF,gB]
theorem CR:∀(r:List (List (List UInt8))) (k:Nat) (e:Nat×Nat),e∈kK k r->1<=e.2/\k<=e.1/\e.1<k+r.length
 |[],_,_,h=>by cases h
 |b::r,k,e,h=>by
  rcases bM.1 h with rfl|h
  ·exact⟨yR b,aC _,by simp⟩
  ·have:=CR r (k+1) e h
   rw[aZ]
   omega
theorem Ph.recs {l:Lg}{ims:List Im}{m L N:Nat}{H:Nat->List UInt8}{s:Nat->List UInt8}{l':Lg}(h:Ph l l'.fE ims m L N H s)(hok:l.Ok)(hf:l.frm=0)(hL:l.n=L)(hlist:l.list=kK (l.last+1 - ims.length) (gF ims))(hlen:ims.length<=l.last)(hims:∀im∈ims,im.Oj N)
  (h1:l'.fields=[l.frm,l.n,l.start,l.first,l'.synced]) (hm:l'.synced+ims.length=l.last+m) (hml:m<=ims.length):sP s L N l'.synced (oZ (ims.take m) H):=by
 have hd:({l with list:=l.list.take m,used:=((l.list.take m).map (·.2)).sum,last:=l'.synced,synced:=l'.synced,dead:=false}:Lg).list=kK (l'.synced+1 - (ims.take m).length) (gF (ims.take m)):=by
  show l.list.take m=_
  rw[hlist,vF,AB,aH,bI hml]
  congr 1
  omega
 have hlt:(ims.take m).length=m:=by rw[aH,bI hml]
 have hfirst:=qR (l:=({l with list:=l.list.take m,used:=((l.list.take m).map (·.2)).sum,last:=l'.synced,synced:=l'.synced,dead:=false}:Lg)) (bs:=gF (ims.take m)) (by rw[dD];exact hd) (by rw[dD,hlt];show m<=l'.synced;omega)
 have hfl:=qR (l:=l) (bs:=gF ims) (by rw[dD];exact hlist) (by rw[dD];exact hlen)
 rw[dD] at hfl
 rw[dD,hlt] at hfirst
 have hsub:((l.list.take m).map (·.2)).sum<=l.n - 1:=by
  have e:=hok.sum
  have hu:=hok.us
  have:l.list=l.list.take m++l.list.drop m:=(bJ m l.list).symm
  rw[this,bU,ny] at e
  omega
 refine⟨({l with list:=l.list.take m,used:=((l.list.take m).map (·.2)).sum,last:=l'.synced,synced:=l'.synced,dead:=false}:Lg),ims.take m,⟨⟨hok.n2,hok.hi,hok.st,hsub,?_,aC _,?_,rfl⟩,rfl,hf,?_,rfl,by rw[dD];exact hd,by rw[dD,hlt];show m<=l'.synced;omega,?_⟩,hL,rfl,fun im hi=>hims im (eO hi),fun b hb=> ?_⟩
 ·have:=hok.la;show l'.synced<=_;omega
 ·intro e he
  have he':e∈kK (l'.synced+1 - (ims.take m).length) (gF (ims.take m)):=by rw[<-hd];exact he
  have:=CR _ _ _ he'
  rw[dD,hlt] at this
  refine⟨this.1,?_⟩
  show e.1<=l'.synced
  omega
 ·rw[h.mark]
  congr 1
  refine(Hz ?_).symm
  rw[h1]
  unfold Lg.fields
  rw[hfirst,hfl]
  show [l.frm,l.n,l.start,l'.synced+1 - m,l'.synced]=_
  congr 4
  omega
 ·have h2:=h.on
  rw[AB] at h2
  rw[dD,hlt]
  have e:l'.synced+1 - m=l.last+1 - ims.length:=by omega
  show oU s _ (l'.synced+1 - m) _
  rw[e]
  exact h2.congr rfl rfl rfl fun _ _=>rfl
 ·unfold oZ
  show _=(findAll (List.take m ims) b).getD (s (L+b))
  rw[h.home b hb]
def qm (s:Nat->List UInt8)(l:Lg)(ims:List Im)(L N:Nat)(H:Nat->List UInt8)(k:Nat):Prop:=sP s L N k (oZ (ims.take (k+ims.length - l.last)) H)
theorem Rest.recs {σ:Dk}{l:Lg}{p:Pg}{ims:List Im}(h:Rest σ l p ims):Al σ fun s=>qm s l ims p.skip (p.blocks σ) (fun b=>σ.get (p.skip+b)) l.synced:=fun s hs=>by
 have hsy:=h.lok.sy
 have:=h.uM
 exact(h.all s hs).recs (l':=l) h.lok h.pok.frm h.pok.skip.symm h.list h.len h.bat rfl (by unfold Lg.uM;omega) (by unfold Lg.uM;omega)
theorem Hu {σ:Dk}(l:Lg)(hd:σ.dead=false)(hf:l.frm<σ.n):
  (∃σ',l.mark σ=(σ',l,0)/\σ'.dead=false/\(σ.fuel= -1->σ'.fuel= -1)/\σ'.n=σ.n/\σ'.waits=[]/\∀x,σ'.get x=if l.frm=x then pad l.fE else σ.get x)\/
  (∃σ',l.mark σ=(σ',l.dies,10)/\σ'.dead=true/\σ.fuel≠-1/\σ'.n=σ.n/\∀s,CS σ' s->∃s',CS σ s'/\(s=s'\/s=sG s' l.frm (pad l.fE))):=by
 have hbn:=σ.dW.1
 have hfu:∀τ:Dk,τ.dead=false->τ.fuel= -1->τ.fF.dead=false/\τ.fF.fuel= -1:=fun τ h1 h2=>by rw[Dk.nX.fF ⟨h1,h2⟩];exact⟨h1,h2⟩
 unfold Lg.mark
 rcases zL hd hf (by rw[l.yT];omega:l.fE.length<=512) with ⟨e,hb⟩|⟨e,hb⟩
 ·rw[e]
  dsimp only
  rw[if_pos rfl]
  have hd2:(σ.fF.put l.frm l.fE).dead=false:=hb
  rcases BI hd2 with ⟨e2,hb2⟩|⟨e2,hb2⟩
  ·rw[e2]
   dsimp only
   rw[if_pos rfl]
   refine .inl ⟨_,rfl,hb2,fun h=> ?_,?_,rfl,fun x=> ?_⟩
   ·exact(hfu _ hd2 (hfu σ hd h).2).2
   ·show (σ.fF.put l.frm l.fE).fF.n=σ.n
    exact(Dk.dW _).1.trans hbn
   ·rw[Dk.oh,Dk.qW,Dk.get_put,σ.qW]
  ·rw[e2]
   dsimp only
   rw[if_neg (by omega)]
   refine .inr ⟨_,rfl,hb2,fun h=> ?_,?_,fun s hs=> ?_⟩
   ·have:=(hfu _ hd2 (hfu σ hd h).2).1
    rw[hb2] at this;cases this
   ·exact(Dk.dW _).1.trans hbn
   ·have hs:=hs.same (Dk.dW (σ.fF.put l.frm l.fE)).2.1 (Dk.dW _).2.2
    rcases hs.put with e|⟨s',e,rfl⟩
    ·exact⟨s,e.same σ.dW.2.1 σ.dW.2.2,.inl rfl⟩
    ·exact⟨s',e.same σ.dW.2.1 σ.dW.2.2,.inr rfl⟩
 ·rw[e]
  dsimp only
  rw[if_neg (by omega)]
  refine .inr ⟨_,rfl,hb,fun h=> ?_,hbn,fun s hs=>⟨s,hs.same σ.dW.2.1 σ.dW.2.2,.inl rfl⟩⟩
  have:=(hfu σ hd h).1
  rw[hb] at this;cases this
def iF (b0 b1 b2 b3 b4 b5 b6 b7:Bool):Nat:=b0.toNat+2*b1.toNat+4*b2.toNat+8*b3.toNat+16*b4.toNat+32*b5.toNat+64*b6.toNat+128*b7.toNat
theorem QA (b0 b1 b2 b3 b4 b5 b6 b7:Bool):iF b0 b1 b2 b3 b4 b5 b6 b7<256:=by
 unfold iF
 have:=b0.toNat_le;have:=b1.toNat_le;have:=b2.toNat_le;have:=b3.toNat_le;have:=b4.toNat_le;have:=b5.toNat_le;have:=b6.toNat_le;have:=b7.toNat_le
 omega
def fT (f:Nat->Bool)(i:Nat):Nat:=iF (f (8*i)) (f (8*i+1)) (f (8*i+2)) (f (8*i+3)) (f (8*i+4)) (f (8*i+5)) (f (8*i+6)) (f (8*i+7))
theorem qV (f:Nat->Bool)(i:Nat):fT f i<256:=QA _ _ _ _ _ _ _ _
def bytesOf (f:Nat->Bool):List UInt8:=(List.range 512).map fun i=>UInt8.ofNat (fT f i)
theorem bytesOf_length (f:Nat->Bool):(bytesOf f).length=512:=by simp[bytesOf]
theorem C9 (f:Nat->Bool)(i:Nat)(hi:i<512):(bytesOf f)[i]? =some (UInt8.ofNat (fT f i)):=by
 simp[bytesOf,hi]
theorem Cn (f:Nat->Bool)(i:Nat):(UInt8.ofNat (fT f i)).toNat=fT f i:=by
 rw[fe,oq (qV f i)]
def N9 (b0 b1 b2 b3 b4 b5 b6 b7:Bool)(j:Nat):Bool:=match j with|0=>b0|1=>b1|2=>b2|3=>b3|4=>b4|5=>b5|6=>b6|_=>b7
theorem U4 (f:Nat->Bool)(b:Nat):N9 (f (8*(b/8))) (f (8*(b/8)+1)) (f (8*(b/8)+2)) (f (8*(b/8)+3)) (f (8*(b/8)+4)) (f (8*(b/8)+5)) (f (8*(b/8)+6)) (f (8*(b/8)+7)) (b%8)=f b:=by
 have h:=mD b (show 8>0 by decide)
 have e:b=8*(b/8)+b%8:=by omega
 generalize b%8=j at*
 generalize b/8=i at*
 subst e
 match j,h with
 |0,_=>rfl
 |1,_=>rfl
 |2,_=>rfl
 |3,_=>rfl
 |4,_=>rfl
 |5,_=>rfl
 |6,_=>rfl
 |7,_=>rfl
theorem R8:∀(b0 b1 b2 b3 b4 b5 b6 b7:Bool) (j:Fin 8),iF b0 b1 b2 b3 b4 b5 b6 b7/2^j.val%2=(N9 b0 b1 b2 b3 b4 b5 b6 b7 j.val).toNat:=by decide+kernel
theorem NS (f:Nat->Bool)(b:Nat):fT f (b/8)/2^(b%8)%2=(f b).toNat:=by
 have h:=mD b (show 8>0 by decide)
 have:=R8 (f (8*(b/8))) (f (8*(b/8)+1)) (f (8*(b/8)+2)) (f (8*(b/8)+3)) (f (8*(b/8)+4)) (f (8*(b/8)+5)) (f (8*(b/8)+6)) (f (8*(b/8)+7)) ⟨b%8,h⟩
 rw[U4] at this
 exact this
def ig (f:Nat->Bool)(b:Nat)(v:Bool):Nat->Bool:=fun x=>if x=b then v else f x
theorem R7:∀(b0 b1 b2 b3 b4 b5 b6 b7:Bool),bits .or .u8 (iF b0 b1 b2 b3 b4 b5 b6 b7:Nat) 1=(iF true b1 b2 b3 b4 b5 b6 b7:Nat)/\bits .or .u8 (iF b0 b1 b2 b3 b4 b5 b6 b7:Nat) 2=(iF b0 true b2 b3 b4 b5 b6 b7:Nat)/\bits .or .u8 (iF b0 b1 b2 b3 b4 b5 b6 b7:Nat) 4=(iF b0 b1 true b3 b4 b5 b6 b7:Nat)/\bits .or .u8 (iF b0 b1 b2 b3 b4 b5 b6 b7:Nat) 8=(iF b0 b1 b2 true b4 b5 b6 b7:Nat)/\
  bits .or .u8 (iF b0 b1 b2 b3 b4 b5 b6 b7:Nat) 16=(iF b0 b1 b2 b3 true b5 b6 b7:Nat)/\bits .or .u8 (iF b0 b1 b2 b3 b4 b5 b6 b7:Nat) 32=(iF b0 b1 b2 b3 b4 true b6 b7:Nat)/\bits .or .u8 (iF b0 b1 b2 b3 b4 b5 b6 b7:Nat) 64=(iF b0 b1 b2 b3 b4 b5 true b7:Nat)/\bits .or .u8 (iF b0 b1 b2 b3 b4 b5 b6 b7:Nat) 128=(iF b0 b1 b2 b3 b4 b5 b6 true:Nat):=by decide+kernel
theorem R9:∀(b0 b1 b2 b3 b4 b5 b6 b7:Bool),bits .andNot .u8 (iF b0 b1 b2 b3 b4 b5 b6 b7:Nat) 1=(iF false b1 b2 b3 b4 b5 b6 b7:Nat)/\bits .andNot .u8 (iF b0 b1 b2 b3 b4 b5 b6 b7:Nat) 2=(iF b0 false b2 b3 b4 b5 b6 b7:Nat)/\bits .andNot .u8 (iF b0 b1 b2 b3 b4 b5 b6 b7:Nat) 4=(iF b0 b1 false b3 b4 b5 b6 b7:Nat)/\bits .andNot .u8 (iF b0 b1 b2 b3 b4 b5 b6 b7:Nat) 8=(iF b0 b1 b2 false b4 b5 b6 b7:Nat)/\
  bits .andNot .u8 (iF b0 b1 b2 b3 b4 b5 b6 b7:Nat) 16=(iF b0 b1 b2 b3 false b5 b6 b7:Nat)/\bits .andNot .u8 (iF b0 b1 b2 b3 b4 b5 b6 b7:Nat) 32=(iF b0 b1 b2 b3 b4 false b6 b7:Nat)/\bits .andNot .u8 (iF b0 b1 b2 b3 b4 b5 b6 b7:Nat) 64=(iF b0 b1 b2 b3 b4 b5 false b7:Nat)/\bits .andNot .u8 (iF b0 b1 b2 b3 b4 b5 b6 b7:Nat) 128=(iF b0 b1 b2 b3 b4 b5 b6 false:Nat):=by decide+kernel
theorem AY (f:Nat->Bool)(b i:Nat)(v:Bool)(h:i≠b/8):fT (ig f b v) i=fT f i:=by
 unfold fT ig
 congr 1<;>(rw[if_neg (by omega)])
theorem NR (f:Nat->Bool)(b:Nat):bits .or .u8 (fT f (b/8):Nat) ((2^(b%8):Nat):Int)=(fT (ig f b true) (b/8):Nat):=by
 have h:=mD b (show 8>0 by decide)
 have e:b=8*(b/8)+b%8:=by omega
 generalize hj:b%8=j at*
 generalize hi:b/8=i at*
 subst e
 have q:=R7 (f (8*i)) (f (8*i+1)) (f (8*i+2)) (f (8*i+3)) (f (8*i+4)) (f (8*i+5)) (f (8*i+6)) (f (8*i+7))
 unfold fT ig
 match j,h with
 |0,_=>simpa using q.1
 |1,_=>simpa using q.2.1
 |2,_=>simpa using q.2.2.1
 |3,_=>simpa using q.2.2.2.1
 |4,_=>simpa using q.2.2.2.2.1
 |5,_=>simpa using q.2.2.2.2.2.1
 |6,_=>simpa using q.2.2.2.2.2.2.1
 |7,_=>simpa using q.2.2.2.2.2.2.2
theorem NT (f:Nat->Bool)(b:Nat):bits .andNot .u8 (fT f (b/8):Nat) ((2^(b%8):Nat):Int)=(fT (ig f b false) (b/8):Nat):=by
 have h:=mD b (show 8>0 by decide)
 have e:b=8*(b/8)+b%8:=by omega
 generalize hj:b%8=j at*
 generalize hi:b/8=i at*
 subst e
 have q:=R9 (f (8*i)) (f (8*i+1)) (f (8*i+2)) (f (8*i+3)) (f (8*i+4)) (f (8*i+5)) (f (8*i+6)) (f (8*i+7))
 unfold fT ig
 match j,h with
 |0,_=>simpa using q.1
 |1,_=>simpa using q.2.1
 |2,_=>simpa using q.2.2.1
 |3,_=>simpa using q.2.2.2.1
 |4,_=>simpa using q.2.2.2.2.1
 |5,_=>simpa using q.2.2.2.2.2.1
 |6,_=>simpa using q.2.2.2.2.2.2.1
 |7,_=>simpa using q.2.2.2.2.2.2.2
theorem I5 (f:Nat->Bool)(b:Nat)(v:Bool)(hb:b<4096):(bytesOf f).set (b/8) (UInt8.ofNat (fT (ig f b v) (b/8)))=bytesOf (ig f b v):=by
 apply List.ext_getElem?
 intro i
 rw[List.getElem?_set]
 by_cases h:b/8=i
 ·subst h
  rw[if_pos rfl,if_pos (by rw[bytesOf_length];omega),C9 _ _ (by omega)]
 ·rw[if_neg h]
  unfold bytesOf
  rw[eG,eG]
  rcases jf i 512 with hi|hi
  ·rw[List.getElem?_range hi]
   simp only[iB]
   rw[AY f b i v (fun e=>h e.symm)]
  ·simp[hi]
def countB (f:Nat->Bool)(n:Nat):Nat:=((List.range n).filter f).length
theorem Nf:∀(b0 b1 b2 b3 b4 b5 b6 b7:Bool),Lib.onesCount (iF b0 b1 b2 b3 b4 b5 b6 b7)=b0.toNat+b1.toNat+b2.toNat+b3.toNat+b4.toNat+b5.toNat+b6.toNat+b7.toNat:=by decide+kernel
theorem fJ (f:Nat->Bool)(n:Nat):countB f (n+1)=countB f n+(f n).toNat:=by
 unfold countB
 rw[List.range_succ,oV,ay]
 cases h:f n<;>simp[h]
theorem IV (f:Nat->Bool)(i:Nat):countB f (8*(i+1))=countB f (8*i)+Lib.onesCount (fT f i):=by
 have e:8*(i+1)=8*i+1+1+1+1+1+1+1+1:=by omega
 rw[e]
 simp only[fJ]
 unfold fT
 rw[Nf]
 omega
theorem countB_le (f:Nat->Bool)(n:Nat):countB f n<=n:=by
 unfold countB
 have:=wh f (List.range n)
 simpa using this
theorem PI:∀(b0 b1 b2 b3 b4 b5 b6 b7:Bool),iF b0 b1 b2 b3 b4 b5 b6 b7≠255->Lib.trailingZeros8 (255 - iF b0 b1 b2 b3 b4 b5 b6 b7)<8/\N9 b0 b1 b2 b3 b4 b5 b6 b7 (Lib.trailingZeros8 (255 - iF b0 b1 b2 b3 b4 b5 b6 b7))=false/\∀j:Fin 8,j.val<Lib.trailingZeros8 (255 - iF b0 b1 b2 b3 b4 b5 b6 b7)->N9 b0 b1 b2 b3 b4 b5 b6 b7 j.val=true:=by decide+kernel
theorem NC:∀(b0 b1 b2 b3 b4 b5 b6 b7:Bool),iF b0 b1 b2 b3 b4 b5 b6 b7=255->∀j:Fin 8,N9 b0 b1 b2 b3 b4 b5 b6 b7 j.val=true:=by decide+kernel
theorem QC (f:Nat->Bool)(i j:Nat)(hj:j<8):N9 (f (8*i)) (f (8*i+1)) (f (8*i+2)) (f (8*i+3)) (f (8*i+4)) (f (8*i+5)) (f (8*i+6)) (f (8*i+7)) j=f (8*i+j):=by
 have:=U4 f (8*i+j)
 rwa [show (8*i+j)/8=i by omega,show (8*i+j)%8=j by omega] at this
theorem I6 (f:Nat->Bool)(i:Nat)(h:fT f i≠255):Lib.trailingZeros8 (255 - fT f i)<8/\f (8*i+Lib.trailingZeros8 (255 - fT f i))=false/\∀j,j<Lib.trailingZeros8 (255 - fT f i)->f (8*i+j)=true:=by
 obtain⟨h1,h2,h3⟩:=PI _ _ _ _ _ _ _ _ h
 refine⟨h1,?_,fun j hj=> ?_⟩
 ·have:=QC f i _ h1
  exact this.symm.trans h2
 ·have hj8:j<8:=nE hj h1
  exact(QC f i j hj8).symm.trans (h3 ⟨j,hj8⟩ hj)
theorem KT (f:Nat->Bool)(i:Nat)(h:fT f i=255)(j:Nat)(hj:j<8):f (8*i+j)=true:=
 (QC f i j hj).symm.trans (NC _ _ _ _ _ _ _ _ h ⟨j,hj⟩)
theorem Ub (b c:Bool)(n m:Nat):(b.toNat+2*n)|||(c.toNat+2*m)=(b||c).toNat+2*(n|||m):=by
 have h:∀(x:Bool) (k:Nat),(x.toNat+2*k)/2=k/\(x.toNat+2*k)%2=x.toNat:=by
  intro x k
  have:=x.toNat_le
  omega
 apply Nat.eq_of_testBit_eq
 intro i
 rw[Nat.testBit_or]
 cases i with
 |zero=>
  simp only[Nat.testBit_zero,(h _ _).2]
  cases b<;>cases c<;>rfl
 |succ i=>simp only[Nat.testBit_succ,(h _ _).1,Nat.testBit_or]
theorem yh (x0 x1 x2 x3 x4 x5 x6 x7:Bool):iF x0 x1 x2 x3 x4 x5 x6 x7=x0.toNat+2*(x1.toNat+2*(x2.toNat+2*(x3.toNat+2*(x4.toNat+2*(x5.toNat+2*(x6.toNat+2*x7.toNat)))))):=by
 unfold iF;omega
theorem Qz (a0 a1 a2 a3 a4 a5 a6 a7 b0 b1 b2 b3 b4 b5 b6 b7:Bool):iF a0 a1 a2 a3 a4 a5 a6 a7|||iF b0 b1 b2 b3 b4 b5 b6 b7=iF (a0||b0) (a1||b1) (a2||b2) (a3||b3) (a4||b4) (a5||b5) (a6||b6) (a7||b7):=by
 rw[yh,yh,yh]
 simp only[Ub]
 cases a7<;>cases b7<;>rfl
theorem Qy (f g:Nat->Bool)(i:Nat):fT f i|||fT g i=fT (fun x=>f x||g x) i:=Qz _ _ _ _ _ _ _ _ _ _ _ _ _ _ _ _
theorem PG (x:Int)(w:World)(h0:0<=x)(h1:x<=255):
  Calls Tryz.prog 101 #[.int .u8 x] w fun e w'=>e= .returned (.int .i64 (Lib.onesCount x.toNat))/\w'=w:=by
 have hq:wrap64 (Lib.pop8 x)=(Lib.onesCount x.toNat:Int):=by
  have e:=Lib.pop8_int x h0 h1
  generalize Lib.pop8 x=y at e ⊢
  unfold wrap64
  exact e
 go_enter Tryz.func101,Tryz.ntmps101
 go_wp2
 rw[hq]
 go_ret
 exact⟨rfl,rfl⟩
theorem RN (x:Int)(w:World)(h0:0<=x)(h1:x<=255):
  Calls Tryz.prog 261 #[.int .u8 x] w fun e w'=>e= .returned (.int .i64 (Lib.trailingZeros8 x.toNat))/\w'=w:=by
 have hq:wrap64 (Lib.ntz8 x)=(Lib.trailingZeros8 x.toNat:Int):=by
  have e:=Lib.ntz8_int x h0 h1
  generalize Lib.ntz8 x=y at e ⊢
  unfold wrap64
  exact e
 go_enter Tryz.func261,Tryz.ntmps261
 go_wp2
 rw[hq]
 go_ret
 exact⟨rfl,rfl⟩
theorem has_eq (f:Nat->Bool)(b:Nat):(bits .and .u8 (((fT f (b/8):Nat):Int)/2^(b%8)) 1==1)=f b:=by
 have h:=NS f b
 have hl:=qV f (b/8)
 have e:(((fT f (b/8):Nat):Int)/2^(b%8))=((fT f (b/8)/2^(b%8):Nat):Int):=by
  rw[Int.natCast_ediv,Int.natCast_pow];rfl
 have hl2:fT f (b/8)/2^(b%8)<256:=Nat.lt_of_le_of_lt (Nat.div_le_self _ _) hl
 rw[e]
 have:=u8_and_nat (fT f (b/8)/2^(b%8)) 1 hl2 (by omega)
 rw[show ((1:Nat):Int)=1 from rfl] at this
 rw[this,Nat.and_one_is_mod,h]
 cases f b<;>rfl
theorem U5 (mp off:Nat)(f:Nat->Bool)(b:Nat)(w:World)(hb:b<4096)(hc:w.cell? ⟨mp,off+b/8,none⟩=some (.int .u8 (fT f (b/8)))):
  Calls Tryz.prog 100 #[.pointer (some ⟨mp,off,none⟩),.int .i64 b] w fun e w'=>e= .returned (.bool (f b))/\w'=w:=by
 have hlt:=aD w _ hc
 have hlt':mp<w.heap.size:=hlt
 have HQ:=ah (has_eq f b)
 go_enter Tryz.func100,Tryz.ntmps100
 go_wp2
 rw[HQ.out]
 go_ret
 exact⟨rfl,rfl⟩
theorem LF (j:Nat)(hj:j<8):IntKind.u8.wrap ((1:Int)*2^j)=((2^j:Nat):Int):=by
 match j,hj with
 |0,_=>rfl
 |1,_=>rfl
 |2,_=>rfl
 |3,_=>rfl
 |4,_=>rfl
 |5,_=>rfl
 |6,_=>rfl
 |7,_=>rfl
theorem Vl (mp off:Nat)(f:Nat->Bool)(b:Nat)(w:World)(hb:b<4096)(hc:w.cell? ⟨mp,off+b/8,none⟩=some (.int .u8 (fT f (b/8))))(hfz:w.frozen? ⟨mp,off+b/8,none⟩=false):
  Calls Tryz.prog 262 #[.pointer (some ⟨mp,off,none⟩),.int .i64 b] w fun e w'=>e= .returned (.tuple #[])/\w'=w.drew.setCell ⟨mp,off+b/8,none⟩ (.int .u8 (fT (ig f b true) (b/8))):=by
 have hlt:=aD w _ hc
 have hlt':mp<w.drew.heap.size:=hlt
 have hp:=NR f b
 obtain⟨n1,hn1⟩:∃n,Hid (fT (ig f b true) (b/8)=n):=⟨_,ah rfl⟩
 rw[hn1.out] at hp ⊢
 obtain⟨n0,hn0⟩:∃n,Hid (fT f (b/8)=n):=⟨_,ah rfl⟩
 rw[hn0.out] at hp hc
 have q1:IntKind.i64.wrap ((b:Int)/8)=((b/8:Nat):Int):=by rw[aG _ (by omega)];omega
 have q2:Int.tmod (b:Int) 8=((b%8:Nat):Int):=by rw[AQ (by omega)];omega
 have hj8:b%8<8:=by omega
 have q3:=LF (b%8) hj8
 have hi5:b/8<512:=by omega
 generalize b%8=j at*
 generalize b/8=i at*
 have hi6:(i:Int)<512:=by omega
 have hc':w.drew.cell? ⟨mp,off+i,none⟩=some (.int .u8 n0):=hc
 have hf':w.drew.frozen? ⟨mp,off+i,none⟩=false:=hfz
 go_enter Tryz.func262,Tryz.ntmps262
 go_wp2_with fail
 refine aP (fun W=>W=w.drew) (fun i=> !([12].contains i)) [0,1,2,3,4,5,6,7,8,9,10,11,12] rfl (by kernel_rfl) rfl ?_
 repeat ((refine bP (v:= ?_) rfl rfl (fun _ _ _ h=>h) rfl (fun W hW=> ?_) ?_);rotate_left;(focus ((try dsimp only at hW);subst hW;(try rw[q1]);(try rw[q2]);(go_simp;first|done|with_reducible rfl)));(try simp only[Act.put,ai,ax,au]))
 have q4:IntKind.u8.wrap ((2:Int)^j)=((2^j:Nat):Int):=by
  simpa using q3
 rw[q4,hp]
 refine jO rfl rfl rfl (by kernel_rfl) ?_;intro K hK;go_simp
 refine hK.out _ _ ?_
 refine bS ?_
 go_wp2_with fail
 go_end0
 exact⟨rfl,rfl⟩
theorem Vm (mp off:Nat)(f:Nat->Bool)(b:Nat)(w:World)(hb:b<4096)(hc:w.cell? ⟨mp,off+b/8,none⟩=some (.int .u8 (fT f (b/8))))(hfz:w.frozen? ⟨mp,off+b/8,none⟩=false):
  Calls Tryz.prog 260 #[.pointer (some ⟨mp,off,none⟩),.int .i64 b] w fun e w'=>e= .returned (.tuple #[])/\w'=w.drew.setCell ⟨mp,off+b/8,none⟩ (.int .u8 (fT (ig f b false) (b/8))):=by
 have hlt:=aD w _ hc
 have hlt':mp<w.drew.heap.size:=hlt
 have hp:=NT f b
 obtain⟨n1,hn1⟩:∃n,Hid (fT (ig f b false) (b/8)=n):=⟨_,ah rfl⟩
 rw[hn1.out] at hp ⊢
 obtain⟨n0,hn0⟩:∃n,Hid (fT f (b/8)=n):=⟨_,ah rfl⟩
 rw[hn0.out] at hp hc
 have q1:IntKind.i64.wrap ((b:Int)/8)=((b/8:Nat):Int):=by rw[aG _ (by omega)];omega
 have q2:Int.tmod (b:Int) 8=((b%8:Nat):Int):=by rw[AQ (by omega)];omega
 have hj8:b%8<8:=by omega
 have q3:=LF (b%8) hj8
 have hi5:b/8<512:=by omega
 generalize b%8=j at*
 generalize b/8=i at*
 have hi6:(i:Int)<512:=by omega
 have hc':w.drew.cell? ⟨mp,off+i,none⟩=some (.int .u8 n0):=hc
 have hf':w.drew.frozen? ⟨mp,off+i,none⟩=false:=hfz
 go_enter Tryz.func260,Tryz.ntmps260
 go_wp2_with fail
 refine aP (fun W=>W=w.drew) (fun i=> !([12].contains i)) [0,1,2,3,4,5,6,7,8,9,10,11,12] rfl (by kernel_rfl) rfl ?_
 repeat ((refine bP (v:= ?_) rfl rfl (fun _ _ _ h=>h) rfl (fun W hW=> ?_) ?_);rotate_left;(focus ((try dsimp only at hW);subst hW;(try rw[q1]);(try rw[q2]);(go_simp;first|done|with_reducible rfl)));(try simp only[Act.put,ai,ax,au]))
 have q4:IntKind.u8.wrap ((2:Int)^j)=((2^j:Nat):Int):=by
  simpa using q3
 rw[q4,hp]
 refine jO rfl rfl rfl (by kernel_rfl) ?_;intro K hK;go_simp
 refine hK.out _ _ ?_
 refine bS ?_
 go_wp2_with fail
 go_end0
 exact⟨rfl,rfl⟩
theorem Nw (cs:List Value)(i:Nat)(n:Int)(hi:i<512)(h:cs[i]? =some (.int .u8 n))(W:World):(Instr.index 175 (.agg cs.toArray) (.int .i64 (i:Int))).run Tryz.prog W= .ok (.int .u8 n) W:=by
 have hl:=(cu.1 h).1
 have e1:(0:Int)<=(i:Int)/\(i:Int)<512:=by omega
 simp[Instr.index,fK Jy,asIntOf,e1,part,go_sem,h]
 omega
theorem onesCount_le8 (n:Nat)(h:n<256):Lib.onesCount n<=8:=Lib.onesCount_le8 ⟨n,h⟩
def pK (n:Nat)(now old:Nat->Bool):List Value:= .int .i64 n::(aI (bytesOf now)++aI (bytesOf old))
def qi (w:World)(mp n:Nat)(now old:Nat->Bool):Prop:=Row w mp 177 (pK n now old)
theorem qD (f:Nat->Bool)(i:Nat)(hi:i<512):(aI (bytesOf f))[i]? =some (.int .u8 (fT f i)):=by
 unfold aI
 rw[eG,C9 f i hi]
 simp only[iB,Cn]
theorem gL (f:Nat->Bool):(aI (bytesOf f)).length=512:=by rw[bL,bytesOf_length]
theorem Ht (n:Nat)(now old:Nat->Bool)(i:Nat)(hi:i<512):(pK n now old)[1+i]? =some (.int .u8 (fT now i)):=by
 unfold pK
 rw[uE,eu,fU (by rw[gL];exact hi)]
 exact qD now i hi
theorem Hr (n:Nat)(now old:Nat->Bool)(i:Nat)(hi:i<512):(pK n now old)[513+i]? =some (.int .u8 (fT old i)):=by
 unfold pK
 rw[show 513+i=(512+i)+1 by omega,eu,cZ (by rw[gL];omega),gL,dF]
 exact qD old i hi
theorem qi.cells {w:World}{mp n:Nat}{now old:Nat->Bool}(h:qi w mp n now old):w.cell? ⟨mp,0,none⟩=some (.int .i64 n)/\mp<w.heap.size/\(∀j,w.frozen? ⟨mp,j,none⟩=false)/\(∀i,i<512->w.cell? ⟨mp,1+i,none⟩=some (.int .u8 (fT now i)))/\∀i,i<512->w.cell? ⟨mp,513+i,none⟩=some (.int .u8 (fT old i)):=by
 refine⟨?_,h.lt,h.frozen,fun i hi=> ?_,fun i hi=> ?_⟩
 ·rw[h.cell];rfl
 ·rw[h.cell];exact Ht n now old i hi
 ·rw[h.cell];exact Hr n now old i hi
theorem qi.keep {w w':World}{mp n:Nat}{now old:Nat->Bool}(h:qi w mp n now old)(hb:w'.heap[mp]? =w.heap[mp]?):qi w' mp n now old:=hb.trans h
theorem KZ (l:List UInt8)(i:Nat)(x:UInt8):(aI l).set i (.int .u8 x.toNat)=aI (l.set i x):=by
 unfold aI
 rw[List.map_set]
theorem qi.set {w:World}{mp n:Nat}{now old:Nat->Bool}(h:qi w mp n now old)(b:Nat)(v:Bool)(hb:b<4096):qi (w.setCell ⟨mp,1+b/8,none⟩ (.int .u8 (fT (ig now b v) (b/8)))) mp n (ig now b v) old:=by
 have e:(pK n now old).set (1+b/8) (.int .u8 (fT (ig now b v) (b/8)))=pK n (ig now b v) old:=by
  unfold pK
  rw[uE,au,Mr _ _ (by rw[gL];omega)]
  have:=KZ (bytesOf now) (b/8) (UInt8.ofNat (fT (ig now b v) (b/8)))
  rw[Cn,I5 now b v hb] at this
  rw[this]
 unfold qi Row at*
 rw[<-e]
 simp[World.setCell,bn,h]
theorem UW (mp n:Nat)(now old:Nat->Bool)(b:Nat)(w:World)(h:qi w mp n now old)(hn:n<=4096)(hb:b<=4096):
  Calls Tryz.prog 51 #[.pointer (some ⟨mp,0,none⟩),.int .i64 b] w fun e w'=>e= .returned (.bool (decide (b<n) && now b))/\w'=w:=by
 obtain⟨c0,hlt,hfz,hnow,_⟩:=h.cells
 by_cases hbn:b<n
 ·have HB:=ah (U5 mp 1 now b w (by omega) (hnow _ (by omega)))
  have x1:(0:Int)<=(b:Int):=by omega
  have x2:(b:Int)<(n:Int):=by omega
  have x3:(decide (b<n) && now b)=now b:=by simp[hbn]
  rw[x3]
  clear h hnow
  go_enter Tryz.func51,Tryz.ntmps51
  go_wp2_with (first
   |(go_at_call 100;go_must (refine HB.out.mono ?_;rintro e w1 ⟨rfl,hw1⟩;subst w1)))
  go_ret
  exact⟨rfl,rfl⟩
 ·have x1:(0:Int)<=(b:Int):=by omega
  have x2:¬(b:Int)<(n:Int):=by omega
  have x3:(decide (b<n) && now b)=false:=by simp[hbn]
  rw[x3]
  clear h hnow
  go_enter Tryz.func51,Tryz.ntmps51
  go_wp2_with fail
  go_ret
  exact⟨rfl,rfl⟩
theorem UX (mp n:Nat)(now old:Nat->Bool)(b:Nat)(w:World)(h:qi w mp n now old)(hn:n<=4096)(hb2:2<=b)(hb:b<n)(hnow:now b=true):
  Calls Tryz.prog 258 #[.pointer (some ⟨mp,0,none⟩),.int .i64 b] w fun e w'=>e= .returned (.int .i64 0)/\qi w' mp n (ig now b false) old/\Keep (· =mp) w w':=by
 have HM:=UW mp n now old b w h hn (by omega)
 rw[hnow,dZ hb] at HM
 have HM:=ah HM
 obtain⟨c0,hlt,hfz,hc,_⟩:=h.cells
 have HC:=ah (Vm mp 1 now b w (by omega) (hc _ (by omega)) (hfz _))
 have HS:=ah (qi.set (w:=w.drew) (show qi w.drew mp n now old from h) b false (by omega))
 have x1:¬(b:Int)<2:=by omega
 have x2:¬b<2:=by omega
 clear h hc
 go_enter Tryz.func258,Tryz.ntmps258
 go_wp2_with (first
  |(go_at_call 51;go_must (refine HM.out.mono ?_;rintro e w1 ⟨rfl,hw1⟩;subst w1))
  |(go_at_call 260;go_must (refine HC.out.mono ?_;rintro e w1 ⟨rfl,hw1⟩;subst w1)))
 go_ret
 exact⟨rfl,HS.out,((Keep.refl (· =mp) w).drew).setCell (p:=⟨mp,1+b/8,none⟩) (.inr rfl) _⟩
theorem vB:(Tryz.prog.info? 175).map (fun i=>i.size)=some 512:=by kernel_rfl
theorem UR (mp n:Nat)(now old:Nat->Bool)(w:World)(h:qi w mp n now old):
  Calls Tryz.prog 52 #[.pointer (some ⟨mp,0,none⟩)] w fun e w'=>e= .returned (.int .i64 (countB now 4096))/\w'=w:=by
 obtain⟨c0,hlt,hfz,hc,_⟩:=h.cells
 have hrg:w.rangeAt mp 1 (aI (bytesOf now)):=Row.range (off:=1) (n:=512) h (by
  unfold pK
  rw[List.drop_one,List.tail_cons,bK (by rw[gL];exact aC _),aJ (by rw[gL];exact aC _)])
 have hbl:=gL now
 have hat:=ah (fun i (hi:i<512) (W:World)=>Nw (aI (bytesOf now)) i _ hi (qD now i hi) W)
 obtain⟨C,HC⟩:∃C,Hid (aI (bytesOf now)=C):=⟨_,ah rfl⟩
 rw[HC.out] at hrg hbl hat
 have HL:=ah hbl
 clear h hc hbl
 go_enter Tryz.func52,Tryz.ntmps52
 go_wp2_with (first
  |((refine dU rfl ?_);intro K hK;(refine QW 175 _ rfl mp 1 rfl C _ hrg Jy rfl (vB.trans (congrArg some HL.out.symm)) ?_);refine hK _ _ ?_))
 go_loopw [3,5,12] (fun s _ i wr=>∃k:Nat,k<=512/\i= .int .i64 k/\s= .int .i64 (countB now (8*k))/\wr=w) (fun _ _ i _=>512 - (intOf i).toNat)
 case atStart=>exact⟨0,by omega,rfl,rfl,rfl⟩
 case round=>
  obtain⟨k,hk,rfl,rfl,rfl⟩:=hrel
  have hcl:=countB_le now (8*k)
  by_cases hk5:k<512
  ·have x1:(k:Int)<512:=by omega
   have hidx:=hat.out k hk5
   have hon:=PG (fT now k:Int) wr (by omega) (by have:=qV now k;omega)
   rw[fw] at hon
   have HON:=ah hon;clear hon
   have HCB:=ah (IV now k)
   have hbl:=onesCount_le8 (fT now k) (qV now k)
   go_wp2_with (first
    |(go_at_call 101;go_must (refine HON.out.mono ?_;rintro e w1 ⟨rfl,hw1⟩;subst w1)))
   go_roundw
   case rel=>exact⟨k+1,by omega,by go_num,by rw[HCB.out];go_num,by trivial⟩
   case measure=>simp[intOf];omega
  ·obtain rfl:k=512:=by omega
   go_wp2_with fail
   go_ret
   exact⟨rfl,rfl⟩
theorem qi.below {w w':World}{mp n:Nat}{now old:Nat->Bool}(h:qi w mp n now old)(hb:Below w.heap.size w w'):qi w' mp n now old:=h.keep (hb.block _ h.lt)
theorem Tf:∀a:Fin 256,255^^^a.val=255 - a.val:=by decide+kernel
theorem TG (n:Nat)(h:n<256):bits .xor .u8 (if IntKind.u8.signed=true then -1 else IntKind.u8.max) (n:Int)=((255 - n:Nat):Int):=by
 have e:(if IntKind.u8.signed=true then(-1:Int) else IntKind.u8.max)=((255:Nat):Int):=rfl
 rw[e,u8_xor_nat 255 n (by omega) h,Tf ⟨n,h⟩]
theorem UU (mp n:Nat)(now old:Nat->Bool)(w:World)(h:qi w mp n now old)(hn:n<=4096):
  Calls Tryz.prog 259 #[.pointer (some ⟨mp,0,none⟩)] w fun e w'=>
   (∃b:Nat,b<n/\(now b||old b)=false/\(∀x,x<b->(now x||old x)=true)/\e= .returned (.tuple #[.int .i64 b,.int .i64 0])/\qi w' mp n (ig now b true) old/\Keep (· =mp) w w')\/
   ((∀x,x<n->(now x||old x)=true)/\e= .returned (.tuple #[.int .i64 0,.int .i64 12])/\Below w.heap.size w w'):=by
 obtain⟨_,hlt0,_⟩:=h.cells
 have HM:=ah (fun (W:World) (hW:Below w.heap.size w W)=>(h.below hW))
 clear h
 go_enter Tryz.func259,Tryz.ntmps259
 go_wp2_with fail
 go_loopw [4,5,6,9] (fun _ _ _ i wr=>∃k:Nat,k<=512/\i= .int .i64 k/\Below w.heap.size w wr/\∀x,x<8*k->(now x||old x)=true) (fun _ _ _ i _=>512 - (intOf i).toNat)
 case atStart=>exact⟨0,by omega,rfl,aR _ _,fun x hx=>by omega⟩
 case round=>
  obtain⟨k,hk,rfl,hb,hall⟩:=hrel
  have HA:=ah hall;clear hall
  have HB:=ah hb;clear hb
  by_cases hk5:k<512
  ·have x1:(k:Int)<512:=by omega
   obtain⟨f,hf⟩:∃f:Nat->Bool,f=fun x=>now x||old x:=⟨_,rfl⟩
   have hor:bits .or .u8 (fT now k:Int) (fT old k:Int)=(fT f k:Int):=by
    rw[u8_or_nat _ _ (qV _ _) (qV _ _),Qy,hf]
   have hfl:=qV f k
   have HCC:=ah (fun (W:World) (hW:Below w.heap.size w W)=>(show W.cell? ⟨mp,0,none⟩=some (.int .i64 n)/\mp<W.heap.size/\W.cell? ⟨mp,1+k,none⟩=some (.int .u8 (fT now k))/\W.cell? ⟨mp,513+k,none⟩=some (.int .u8 (fT old k)) from by
    obtain⟨a,b,c,d,e⟩:=(HM.out W hW).cells
    exact⟨a,b,d k hk5,e k hk5⟩))
   go_wp2_with fail
   refine aP (fun W=>Below w.heap.size w W) (fun _=>true) [0,1,2,3,4,5,6,7,8,9,10,11,12,13,14] rfl (by kernel_rfl) HB.out.drew ?_
   repeat ((refine bP (v:= ?_) rfl rfl (fun _ _ _ h=>h) rfl (fun W hW=> ?_) ?_);rotate_left;(focus ((try dsimp only at hW);obtain⟨r0,r1,r2,r3⟩:=HCC.out W hW;(try rw[hor]);(go_simp;first|done|with_reducible rfl)));(try simp only[Act.put,ai,ax,au]))
   refine bS ?_
   have hxor:bits .xor .u8 (if IntKind.u8.signed=true then -1 else IntKind.u8.max) ((fT (fun x=>now x||old x) k:Nat):Int)=((255 - fT f k:Nat):Int):=by
    rw[<-hf];exact TG _ hfl
   rw[hxor]
   clear hor hxor
   by_cases hfull:fT f k=255
   ·have y1:255 - fT f k=0:=by omega
    rw[y1]
    have HF:=ah hfull;clear hfull hfl y1
    go_wp2_with fail
    go_roundw
    case rel=>
     refine⟨k+1,by omega,by go_num,HB.out.drew,fun x hx=> ?_⟩
     rcases jf x (8*k) with hx8|hx8
     ·exact HA.out x hx8
     ·have:=KT f k HF.out (x - 8*k) (by omega)
      rw[show 8*k+(x - 8*k)=x by omega,hf] at this
      exact this
    case measure=>simp[intOf];omega
   ·obtain⟨t1,t2,t3⟩:=I6 f k hfull
    obtain⟨m,hm⟩:∃m,m=255 - fT f k:=⟨_,rfl⟩
    rw[<-hm] at t1 t2 t3 ⊢
    obtain⟨tz,htz⟩:∃z,z=Lib.trailingZeros8 m:=⟨_,rfl⟩
    rw[<-htz] at t1 t2 t3
    have hm0:¬m=0:=by omega
    have hm1:m<=255:=by omega
    have hnt:=RN (m:Int) wr.drew (by omega) (by omega)
    rw[fw,<-htz] at hnt
    have HNT:=ah hnt
    have HT2:=ah t2;have HT3:=ah t3;have HHF:=ah hf
    have hcm:(m:Int)≠0:=by omega
    have hc0:=(HCC.out _ HB.out.drew).1
    have hc1:=(HCC.out _ HB.out.drew).2.1
    clear hf hm htz hnt t2 t3 hfl hfull
    by_cases hbn:8*k+tz<n
    ·have z1:¬(n:Int)<=8*(k:Int)+(tz:Int):=by omega
     have hput:=Vl mp 1 now (8*k+tz) wr.drew (by omega) (by
      obtain⟨a,b,c,d,e⟩:=(HM.out _ HB.out.drew).cells
      exact d _ (by omega)) (by
      obtain⟨a,b,c,d,e⟩:=(HM.out _ HB.out.drew).cells
      exact c _)
     have hcast:((8*k+tz:Nat):Int)=8*(k:Int)+(tz:Int):=by omega
     rw[hcast] at hput
     have HPUT:=ah hput;clear hput hcast
     have HSET:=ah (qi.set (HM.out _ (HB.out.drew.drew)) (8*k+tz) true (by omega))
     go_wp2_with (first
      |(go_at_call 261;go_must (refine HNT.out.mono ?_;rintro e w1 ⟨rfl,hw1⟩;subst w1))
      |(go_at_call 262;go_must (refine HPUT.out.mono ?_;rintro e w1 ⟨rfl,hw1⟩;subst w1)))
     go_ret2
     refine .inl ⟨8*k+tz,hbn,?_,fun x hx=> ?_,by go_num,HSET.out,?_⟩
     ·have:=HT2.out;rw[HHF.out] at this;exact this
     ·rcases jf x (8*k) with hx8|hx8
      ·exact HA.out x hx8
      ·have:=HT3.out (x - 8*k) (by omega)
       rw[show 8*k+(x - 8*k)=x by omega,HHF.out] at this
       exact this
     ·exact(Keep.of_below HB.out (· =mp)).drew.drew.setCell (p:=⟨mp,1+(8*k+tz)/8,none⟩) (.inr rfl) _
    ·have z1:(n:Int)<=8*(k:Int)+(tz:Int):=by omega
     go_wp2_with (first
      |(go_at_call 261;go_must (refine HNT.out.mono ?_;rintro e w1 ⟨rfl,hw1⟩;subst w1)))
     go_ret2
     refine .inr ⟨fun x hx=> ?_,rfl,HB.out.drew⟩
     rcases jf x (8*k) with hx8|hx8
     ·exact HA.out x hx8
     ·have:=HT3.out (x - 8*k) (by omega)
      rw[show 8*k+(x - 8*k)=x by omega,HHF.out] at this
      exact this
  ·obtain rfl:k=512:=by omega
   go_wp2_with fail
   go_ret2
   exact .inr ⟨fun x hx=>HA.out x (by omega),rfl,HB.out⟩
theorem Ll (t n:Nat)(w:World)(h2:2<=n)(hn:n<=4096):
  Calls Tryz.prog 80 #[.iface 89 (.pointer (some ⟨t,0,none⟩)),.int .i64 n] w fun e w'=>e= .returned (.int .i64 0)/\w'=w:=by
 have x1:¬(n:Int)<2:=by omega
 have x2:¬(4096:Int)<(n:Int):=by omega
 have x3:¬n<2:=by omega
 have x4:¬4096<n:=by omega
 go_enter Tryz.func80,Tryz.ntmps80
 go_wp2_with fail
 go_ret
 exact⟨rfl,rfl⟩
def two (b:Nat):Bool:=decide (b<2)
theorem two_bytes:bytesOf two=pad [3]:=by decide+kernel
theorem Tw (t pg d:Nat)(σ:Dk)(l:Lg)(p:Pg)(op:Value)(im:Im)(S T:Nat->Prop)(w:World)(h:jh w S pg d σ l p op)(ht:rz w T t pg im (p.blocks σ))(hd:p.dead=false)(h2:2<=p.blocks σ):
  Calls Tryz.prog 41 #[.iface 89 (.pointer (some ⟨t,0,none⟩)),.int .i64 (p.blocks σ)] w fun e w'=>e= .returned (.int .i64 0)/\rz w' T t pg (im.put 0 (bytesOf two)) (p.blocks σ)/\Step T T w w':=by
 have hbl:p.blocks σ<=4096:=by have:=h.ok.2.1.hi;unfold Pg.blocks;omega
 have HC:=ah (Ll t (p.blocks σ) w h2 hbl)
 have hb1:=aO w (.cells #[.int .u8 3] 5)
 have hv:aX (w.alloc (.cells #[.int .u8 3] 5)) fZ 1 (.slice (some ⟨w.heap.size,0,none⟩) 1 1) ([3]:List UInt8).length (aI [3]):=by
  have hr:Row (w.alloc (.cells #[.int .u8 3] 5)) w.heap.size 5 (aI [3]):=bD w _
  exact hr.dm (S:=fZ) (k:=1) (off:=0) 1 1 (by simp[aI]) id (aC _) (by simp[maxLen])
 have HW:=ah (JM t pg d σ l p op im S T 0 _ [3] _ (h.below hb1) (ht.below hb1) hd (by omega) hv (by simp))
 rw[<-two_bytes] at HW
 have hm:∀w,(method 454 89 (.pointer (some ⟨t,0,none⟩)) "Write").run Tryz.prog w= .ok (66,.pointer (some ⟨t,0,none⟩)) w:=fun _=>by kernel_rfl
 go_enter Tryz.func41,Tryz.ntmps41
 go_wp2_with (first
  |(go_at_call 80;go_must (refine HC.out.mono ?_;rintro e w1 ⟨rfl,hw1⟩;subst w1))
  |(go_at_call 66;go_must (refine HW.out.mono ?_;rintro e w1 ⟨rfl,ht1,hs1⟩)))
 go_ret
 exact⟨rfl,ht1,(Step.of_below hb1).trans hs1⟩
theorem NU (i:Int):Tryz.prog.built 177 [(0,.int .i64 i)]=some (Value.int .i64 i::(aI zB++aI zB)).toArray:=by kernel_rfl
theorem JZ (i:Int)(l:List UInt8)(hl:l.length=512):splice (Value.int .i64 i::(aI zB++aI zB)) 1 (aI l)=Value.int .i64 i::(aI l++aI zB):=by
 have h1:(aI l).length=512:=by rw[bL,hl]
 have h2:(aI zB).length=512:=by rw[bL,iM]
 unfold splice
 rw[h1,iX,iD,show 1+512=512+1 by rfl,gm,eY (kT h2.symm),<-h2,kM]
 simp
theorem JY (i:Int)(l:List UInt8)(hl:l.length=512):splice (Value.int .i64 i::(aI l++aI zB)) 513 (aI l)=Value.int .i64 i::(aI l++aI l):=by
 have h1:(aI l).length=512:=by rw[bL,hl]
 have h2:(aI zB).length=512:=by rw[bL,iM]
 unfold splice
 rw[h1,show 513=512+1 by rfl,iX,show 512+1+512=1024+1 by rfl,gm,bK (kT h1.symm),<-h1,bR,fq (by rw[ay,h1,h2];omega)]
 simp
theorem Tx (t pg d:Nat)(σ:Dk)(l:Lg)(p:Pg)(op:Value)(im:Im)(S T:Nat->Prop)(f:Nat->Bool)(w:World)(h:jh w S pg d σ l p op)(ht:rz w T t pg im (p.blocks σ))(hd:p.dead=false)(hsd:σ.dead=false)(h2:2<=p.blocks σ)
  (hf:p.look im σ 0=bytesOf f) (hhi:∀b,p.blocks σ<=b->f b=false) (h0:f 0=true) (h1:f 1=true):
  Calls Tryz.prog 55 #[.iface 89 (.pointer (some ⟨t,0,none⟩)),.int .i64 (p.blocks σ)] w fun e w'=>∃mp,e= .returned (.tuple #[.pointer (some ⟨mp,0,none⟩),.int .i64 0])/\qi w' mp (p.blocks σ) f f/\w.heap.size<=mp/\Below w.heap.size w w':=by
 have hbl:p.blocks σ<=4096:=by have:=h.ok.2.1.hi;unfold Pg.blocks;omega
 have HC:=ah (Ll t (p.blocks σ) w h2 hbl)
 have HR:=tread t pg d σ l p op im S T 0 w h ht hd hsd (by omega)
 rw[hf] at HR
 have HR:=ah HR
 obtain⟨n,hn⟩:∃n,n=p.blocks σ:=⟨_,rfl⟩
 rw[<-hn] at HC h2 hhi hbl ⊢
 have HHI:=ah hhi;have H0:=ah h0;have H1:=ah h1
 have hlb:=bytesOf_length f
 have hm:∀w,(method 454 89 (.pointer (some ⟨t,0,none⟩)) "Read").run Tryz.prog w= .ok (57,.pointer (some ⟨t,0,none⟩)) w:=fun _=>by kernel_rfl
 clear h ht hf hhi h0 h1 hn
 go_enter Tryz.func55,Tryz.ntmps55
 go_wp2_with (first
  |(go_at_call 80;go_must (refine HC.out.mono ?_;rintro e w1 ⟨rfl,hw1⟩;subst w1))
  |(go_at_call 57;go_must (refine HR.out.mono ?_;rintro e w1 ⟨v,rfl,hv,hvb,hb1⟩;obtain⟨ao,cp,rfl,n0,m0,_,_⟩:=aX.form hv))
  |((refine dU rfl ?_);intro K hK;(refine yw 177 _ rfl (Value.int .i64 (n:Int)::(aI zB++aI zB)) (NU n) ?_);refine hK _ _ ?_)
  |((refine dU rfl ?_);intro K hK;(refine Br 177 _ rfl (Value.int .i64 (n:Int)::(aI zB++aI zB)) rfl ?_);refine hK _ _ (Stop.of ?_)))
 refine Stop.on ?_
 obtain⟨mp,HMP⟩:∃mp,Hid (w1.heap.size=mp):=⟨_,ah rfl⟩
 obtain⟨w2,HW2⟩:∃w2:World,Hid (w1.alloc (.cells (Value.int .i64 (n:Int)::(aI zB++aI zB)).toArray 177)=w2):=⟨_,ah rfl⟩
 have hr2:Row w2 mp 177 (Value.int .i64 (n:Int)::(aI zB++aI zB)):=by rw[<-HW2.out,<-HMP.out];exact Row.new w1 _ _
 have hb2:Below w1.heap.size w1 w2:=by rw[<-HW2.out];exact aO w1 _
 rw[HW2.out,HMP.out]
 have hv2:=aX.below hv hb2
 have hlen:=ah (gL f)
 have hfst:=hv2.first (P:=Tryz.prog) 512 (aC _)
 rw[aU,aJ (kT hlen.out)] at hfst
 have hfst:=ah hfst
 have hz2:=ah (show (Value.int .i64 (n:Int)::(aI zB++aI zB)).length=1025 by rw[aZ,ay,bL,iM])
 go_wp2_with (first
  |((refine dU rfl ?_);intro K hK;(refine gU (.tmp 31) (.tmp 32) 70 70 rfl 5 1 1 (.int .u8 0) bH kz mp 1 177 512 512 512 (some ⟨mp,1,none⟩) _ rfl hr2 (.slice ao 512 cp) rfl 512 (aI (bytesOf f)) rfl ?_ ?_ hfst.out (fun _=>rfl) ?_ (gZ _) ?_);go_must ((focus rfl);(focus (rw[hlen.out,aU]));(focus (rw[hlen.out,hz2.out];omega));intro w3 hr3 hk3;refine hK _ _ (Stop.of ?_))))
 refine Stop.on ?_
 rw[JZ _ _ hlb] at hr3
 have hb3:Below w.heap.size w w3:=by
  have hk2:Keep fZ w1 w3:=(Keep.of_below hb2 fZ).trans hk3 (fun i hi e=>absurd hi (by rw[e,HMP.out];exact dB _))
  exact hb1.trans (hk2.below.mono hb1.size)
 have hmpw:w.heap.size<=mp:=by rw[<-HMP.out];exact hb1.size
 have HR3:=ah hr3;have HB3:=ah hb3
 have hcell:∀i,i<512->w3.cell? ⟨mp,1+i,none⟩=some (.int .u8 (fT f i)):=fun i hi=>by
  rw[hr3.cell,uE,eu,fU (by rw[hlen.out];exact hi)]
  exact qD f i hi
 have hlt3:=hr3.lt
 have HBH:=ah (fun b (hb:b<4096)=>U5 mp 1 f b w3 hb (hcell _ (by omega)))
 have hrg:w3.rangeAt mp 1 (aI (bytesOf f)):=Row.range (off:=1) (n:=512) hr3 (by
  rw[List.drop_one,List.tail_cons,bK (by rw[hlen.out];exact aC _),aJ (by rw[hlen.out];exact aC _)])
 have hz3:=ah (show (Value.int .i64 (n:Int)::(aI (bytesOf f)++aI zB)).length=1025 by rw[aZ,ay,bL,bL,hlb,iM])
 have hone:=gZ (bytesOf f)
 clear hr3 hb3 hk3 hcell hr2 hb2 hv2 hv hb1 hfst HW2 HR HC hm hz2
 obtain⟨C,HCC⟩:∃C,Hid (aI (bytesOf f)=C):=⟨_,ah rfl⟩
 rw[HCC.out] at hrg hlen hone HR3 hz3
 obtain⟨Z,HZ⟩:∃Z,Hid (aI zB=Z):=⟨_,ah rfl⟩
 rw[HZ.out] at HR3 hz3
 go_wp2_with fail
 go_loopw [10] (fun i wr=>∃k:Nat,n<=k/\k<=4096/\i= .int .i64 k/\wr=w3) (fun i _=>4096 - (intOf i).toNat)
 case atStart=>exact⟨n,aC _,hbl,rfl,rfl⟩
 case round=>
  obtain⟨k,hk1,hk2,rfl,rfl⟩:=hrel
  by_cases hk5:k<4096
  ·have x1:(k:Int)<4096:=by omega
   have hh:=HBH.out k hk5
   rw[HHI.out k hk1] at hh
   have HH:=ah hh;clear hh
   go_wp2_with (first
    |(go_at_call 100;go_must (refine HH.out.mono ?_;rintro e w1 ⟨rfl,hw1⟩;subst w1)))
   go_roundw
   case rel=>exact⟨k+1,by omega,by omega,by go_num,by trivial⟩
   case measure=>simp[intOf];omega
  ·have x1:¬(k:Int)<4096:=by omega
   have x2:¬k<4096:=hk5
   have h0:=HBH.out 0 (by omega)
   have h1:=HBH.out 1 (by omega)
   rw[H0.out] at h0
   rw[H1.out] at h1
   have HH0:=ah h0;have HH1:=ah h1;clear h0 h1
   go_wp2_with (first
    |(go_at_call 100;go_must (refine HH0.out.mono ?_;rintro e w1 ⟨rfl,hw1⟩;subst w1;refine Stop.of ?_)))
   refine Stop.on ?_
   go_wp2_with (first
    |(go_at_call 100;go_must (refine HH1.out.mono ?_;rintro e w1 ⟨rfl,hw1⟩;subst w1))
    |((refine dU rfl ?_);intro K hK;(refine QW 175 _ rfl mp 1 rfl C _ hrg Jy rfl (vB.trans (congrArg some hlen.out.symm)) ?_);refine hK _ _ ?_)
    |((refine dU rfl ?_);intro K hK;(refine wp_store_row 175 _ _ rfl mp 513 177 _ C rfl rfl HR3.out (vB.trans (congrArg some hlen.out.symm)) (by rw[hz3.out,hlen.out];omega) hone ?_);intro w4 hr4 hk4;refine hK _ _ (Stop.of ?_)))
   refine Stop.on ?_
   rw[<-HCC.out,<-HZ.out,JY _ _ hlb] at hr4
   have HR4:=ah hr4;have HK4:=ah hk4
   clear hr4 hk4
   go_wp2_with fail
   go_ret2
   exact⟨mp,rfl,HR4.out,hmpw,HB3.out.trans (HK4.out.ku HB3.out.size (fun i hi e=>absurd hi (bq.2 (by rw[e];exact hmpw))))⟩
theorem Ot (w:World):(zeroValue 175).run Tryz.prog w= .ok (.agg (aI zB).toArray) w:=by kernel_rfl
theorem yN {l:List UInt8}(h:l.length=512):pad l=l:=by simp[pad,h]
theorem Rn (t pg d mp n:Nat)(now old:Nat->Bool)(σ:Dk)(l:Lg)(p:Pg)(op:Value)(im:Im)(S T:Nat->Prop)(w:World)(h:jh w S pg d σ l p op)(ht:rz w T t pg im (p.blocks σ))(hd:p.dead=false)(h2:0<p.blocks σ)(hmp:qi w mp n now old):
  Calls Tryz.prog 67 #[.pointer (some ⟨mp,0,none⟩),.iface 89 (.pointer (some ⟨t,0,none⟩))] w fun e w'=>e= .returned (.int .i64 0)/\rz w' T t pg (im.put 0 (bytesOf now)) (p.blocks σ)/\Step T T w w':=by
 obtain⟨c0,hlt,hfz,hc,_⟩:=hmp.cells
 have hrg:w.rangeAt mp 1 (aI (bytesOf now)):=Row.range (off:=1) (n:=512) hmp (by
  unfold pK
  rw[List.drop_one,List.tail_cons,bK (by rw[gL];exact aC _),aJ (by rw[gL];exact aC _)])
 have hlen:=ah (gL now)
 have hone:=gZ (bytesOf now)
 have hlb:=bytesOf_length now
 have hr1:Row (w.alloc (.cells (aI zB).toArray 175)) w.heap.size 175 (aI zB):=Row.new w _ _
 have hz1:=ah (show (aI zB).length=512 by rw[bL,iM])
 have HW:=ah (fun (W:World) (hW:Below w.heap.size w W) (hv:aX W fZ 1 (.slice (some ⟨w.heap.size,0,none⟩) 512 512) (bytesOf now).length (aI (bytesOf now)))=>JM t pg d σ l p op im S T 0 _ (bytesOf now) W (h.below hW) (ht.below hW) hd h2 hv (by omega))
 rw[yN hlb] at HW
 have hm:∀w,(method 454 89 (.pointer (some ⟨t,0,none⟩)) "Write").run Tryz.prog w= .ok (66,.pointer (some ⟨t,0,none⟩)) w:=fun _=>by kernel_rfl
 have hmf:∀(fn:Fn) (first cap:Array Value) (w:World),(Instr.makeFunc fn first cap).run Tryz.prog w= .ok (.func fn first cap) w:=fun _ _ _ _=>rfl
 obtain⟨C,HC⟩:∃C,Hid (aI (bytesOf now)=C):=⟨_,ah rfl⟩
 rw[HC.out] at hrg hlen hone
 clear h ht hmp hc
 go_enter Tryz.func67,Tryz.ntmps67
 go_wp2_with (first
  |((refine dU rfl ?_);intro K hK;(refine QW 175 _ rfl mp 1 rfl C _ hrg Jy rfl (vB.trans (congrArg some hlen.out.symm)) ?_);refine hK _ _ ?_)
  |((refine dU rfl ?_);intro K hK;(refine iZ 175 rfl _ Ot ?_);refine hK _ _ ?_)
  |((refine dU rfl ?_);intro K hK;(refine wp_store_row 175 _ _ rfl w.heap.size 0 175 _ C rfl rfl hr1 (vB.trans (congrArg some hlen.out.symm)) (by rw[hz1.out,hlen.out];omega) hone ?_);intro w3 hr3 hk3;refine hK _ _ (Stop.of ?_)))
 refine Stop.on ?_
 rw[lI _ _ (hz1.out.trans hlen.out.symm),<-HC.out] at hr3
 have hb3:Below w.heap.size w w3:=(((Keep.refl fZ w).alloc _).trans hk3 (fun i hi e=>absurd hi (by rw[e];exact dB _))).below
 have hv3:aX w3.drew fZ 1 (.slice (some ⟨w.heap.size,0,none⟩) 512 512) (bytesOf now).length (aI (bytesOf now)):=by
  have hr3':Row w3.drew w.heap.size 175 (aI (bytesOf now)):=hr3
  have:=hr3'.dm (S:=fZ) (k:=1) (off:=0) 512 512 (by rw[gL];omega) id (aC _) (by simp[maxLen])
  rw[dP,aJ (by rw[gL];omega)] at this
  rw[hlb];exact this
 have HWW:=ah (HW.out _ hb3.drew hv3)
 clear hr3 hk3 hv3 HW hr1 hz1 hrg hone
 go_wp2_with fail
 refine aP (fun _=>True) (fun i=> !([5].contains i)) [0,1,2,3,4,5,6] rfl (by kernel_rfl) trivial ?_
 have hna:∀w,(nilAhead 454 89 (.pointer (some ⟨t,0,none⟩)) "Write").run Tryz.prog w= .ok (some false) w:=fun _=>by kernel_rfl
 repeat ((refine bP (v:= ?_) rfl rfl (fun _ _ _ h=>h) rfl (fun W hW=> ?_) ?_);rotate_left;(focus ((try dsimp only at hW);have:=hna;(go_simp;first|done|with_reducible rfl)));(try simp only[Act.put,ai,ax,au]))
 refine dK rfl rfl rfl ?_;intro K hK;go_simp
 refine HWW.out.mono ?_;rintro e w4 ⟨rfl,ht4,hs4⟩
 refine hK.out _ _ trivial ?_
 repeat ((refine bP (v:= ?_) rfl rfl (fun _ _ _ h=>h) rfl (fun W hW=> ?_) ?_);rotate_left;(focus ((try dsimp only at hW);have:=hna;(go_simp;first|done|with_reducible rfl)));(try simp only[Act.put,ai,ax,au]))
 refine bS ?_
 go_wp2_with fail
 go_ret
 exact⟨rfl,ht4,(Step.of_below hb3.drew).trans hs4⟩
end Go.Proofs.YtogbkgmlhhahdaaGreat
