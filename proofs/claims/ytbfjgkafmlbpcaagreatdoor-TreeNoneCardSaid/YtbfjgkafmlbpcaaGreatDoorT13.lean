/- parts -/
import Derived.Test.YtbfjgkafmlbpcaaGreatDoorT1
import Derived.Test.YtbfjgkafmlbpcaaGreatDoorT3
import Derived.Test.YtbfjgkafmlbpcaaGreatDoorT11
import Derived.Test.YtbfjgkafmlbpcaaGreatDoorT12
import Derived.Lib.Overlaps
set_option maxRecDepth 100000
set_option maxHeartbeats 8000000
set_option linter.all false
namespace Go.Proofs.YtbfjgkafmlbpcaaGreatDoor
open Go.RowKit
theorem QS (d:Nat)(σ:Dk)(Sd:Nat->Prop)(n:Int)(w:World)(h:rY w Sd d σ):
  Calls Tryz.prog 87 #[.pointer (some ⟨d,0,none⟩),.int .i64 n] w fun e w'=>e= .returned (.int .i64 (if n<2\/(σ.n:Int)<=n then 1 else 0))/\w'=w:=by
 have HS:=af (F3 d σ Sd w h)
 clear h
 by_cases h1:n<2
 ·rw[if_pos (.inl h1)]
  go_enter Tryz.func87,Tryz.ntmps87
  go_wp2_with fail
  go_ret
  exact⟨rfl,rfl⟩
 ·by_cases h2:(σ.n:Int)<=n
  ·rw[if_pos (.inr h2)]
   go_enter Tryz.func87,Tryz.ntmps87
   go_wp2_with (first
    |(go_at_call 86;go_must (refine HS.out.mono ?_;rintro e w1 ⟨rfl,hw1⟩;subst w1)))
   go_ret
   exact⟨rfl,rfl⟩
  ·rw[if_neg (by omega)]
   go_enter Tryz.func87,Tryz.ntmps87
   go_wp2_with (first
    |(go_at_call 86;go_must (refine HS.out.mono ?_;rintro e w1 ⟨rfl,hw1⟩;subst w1)))
   go_ret
   exact⟨rfl,rfl⟩
def Dk.sF:Nat->Nat->Dk->Dk
 |0,_,σ=>σ
 |k+1,i,σ=>Dk.sF k (i+1) (σ.put i [])
theorem Dk.yh:∀(k i:Nat) (σ:Dk),Dk.sF (k+1) i σ=(Dk.sF k i σ).put (i+k) []
 |0,i,σ=>rfl
 |k+1,i,σ=>by
  show Dk.sF (k+1) (i+1) (σ.put i [])=_
  rw[Dk.yh k (i+1)]
  show (Dk.sF k (i+1) (σ.put i [])).put (i+1+k) []=(Dk.sF k (i+1) (σ.put i [])).put (i+(k+1)) []
  rw[show i+1+k=i+(k+1) by omega]
theorem Dk.yj:∀(k i:Nat) (σ:Dk),(Dk.sF k i σ).n=σ.n
 |0,_,_=>rfl
 |k+1,i,σ=>(Dk.yj k (i+1) (σ.put i [])).trans rfl
theorem Dk.uo:∀(k i:Nat) (σ:Dk),σ.mH->(Dk.sF k i σ).mH
 |0,_,_,h=>h
 |k+1,i,σ,h=>Dk.uo k (i+1) (σ.put i []) (h.put i [])
theorem Dk.vL:∀(k i:Nat) (σ:Dk),(Dk.sF k i σ).waits.length=σ.waits.length+k
 |0,_,_=>rfl
 |k+1,i,σ=>by
  show (Dk.sF k (i+1) (σ.put i [])).waits.length=_
  rw[Dk.vL k (i+1)]
  simp[Dk.put]
  omega
def Pg.new (n:Nat):Pg:=⟨n,n - 1,Im.none,false⟩
theorem Ie {w:World}{Sd Sl:Nat->Prop}{lg d:Nat}{σ:Dk}{l:Lg}(n:Nat)(h:jh w Sd Sl lg d σ l)(hf:l.frm=0)(hn:l.n=n)(hfit:n<σ.n)(h2:2<=n):
  kC ((w.alloc (.map #[] 0)).alloc (.cells #[.pointer (some ⟨d,0,none⟩),.pointer (some ⟨lg,0,none⟩),.int .i64 n,.int .i64 ((n - 1:Nat):Int),.map (some w.heap.size),.pointer none,.bool false] 165)) (Three Sd Sl (fun g=>g=w.heap.size\/g=w.heap.size+1)) (w.heap.size+1) d σ l (Pg.new n) (.pointer none)/\
  Step (fun g=>Sd g\/Sl g) (Three Sd Sl (fun g=>g=w.heap.size\/g=w.heap.size+1)) w ((w.alloc (.map #[] 0)).alloc (.cells #[.pointer (some ⟨d,0,none⟩),.pointer (some ⟨lg,0,none⟩),.int .i64 n,.int .i64 ((n - 1:Nat):Int),.map (some w.heap.size),.pointer none,.bool false] 165)):=by
 obtain⟨cs,hcs⟩:∃cs:Array Value,cs=#[.pointer (some ⟨d,0,none⟩),.pointer (some ⟨lg,0,none⟩),.int .i64 n,.int .i64 ((n - 1:Nat):Int),.map (some w.heap.size),.pointer none,.bool false]:=⟨_,rfl⟩
 rw[<-hcs]
 have hb:Below w.heap.size w ((w.alloc (.map #[] 0)).alloc (.cells cs 165)):=gy w _ _
 have hm:kG ((w.alloc (.map #[] 0)).alloc (.cells cs 165)) w.heap.size Im.none:=(kG.none w).block (oG _ _ _ (by simp))
 have ho:((w.alloc (.map #[] 0)).alloc (.cells cs 165)).heap[w.heap.size+1]? =some (.cells cs 165 (0,0)):=by
  have:=aK (w.alloc (.map #[] 0)) (.cells cs 165)
  rwa [aV] at this
 have hs:((w.alloc (.map #[] 0)).alloc (.cells cs 165)).heap.size=w.heap.size+2:=by simp
 have hdl:∀g,Sd g->g<w.heap.size:=h.dk.sub
 have hll:∀g,Sl g->g<w.heap.size:=h.lg.sub
 refine⟨⟨Sd,Sl,_,lg,w.heap.size,⟨h.below hb,⟨hf,hn.symm,?_,by rw[hn];exact hfit,Im.Ok.none _⟩,fun g hg=> ?_,fun g hg e=> ?_,fun g hg e=> ?_,.inr rfl,.inl rfl,?_,hm⟩,fun _=>Iff.rfl⟩,(Keep.of_below hb _),fun g hg=> ?_⟩
 ·show n - 1+1=l.n;omega
 ·omega
 ·have:=hdl g e;omega
 ·have:=hll g e;omega
 ·rw[ho,hcs];rfl
 ·rcases hg with hg|hg|hg
  ·exact .inl (.inl hg)
  ·exact .inl (.inr hg)
  ·right;omega
theorem Sb (d:Nat)(σ:Dk)(Sd:Nat->Prop)(n:Nat)(w:World)(h:rY w Sd d σ)(hf:σ.mH)(h1:2<=n)(h2:n<σ.n)(hcap:σ.waits.length<=50000):
  Calls Tryz.prog 55 #[.pointer (some ⟨d,0,none⟩),.int .i64 n] w fun e w'=>∃pg S',e= .returned (.tuple #[.pointer (some ⟨pg,0,none⟩),.int .i64 0])/\
   kC w' S' pg d (((Dk.sF (σ.n - n) n σ).flush.put 0 (Lg.new 0 n).fQ).flush) (Lg.new 0 n) (Pg.new n) (.pointer none)/\Step Sd S' w w':=by
 have hck:=QS d σ Sd n w h
 rw[if_neg (by omega)] at hck
 have HC:=af hck;clear hck
 have hi:=h.ok.hi
 have HH:=af h;have HF:=af hf
 clear h hf
 go_enter Tryz.func55,Tryz.ntmps55
 go_wp2_with (first
  |(go_at_call 87;go_must (refine HC.out.mono ?_;rintro e w1 ⟨rfl,hw1⟩;subst w1)))
 go_loopw [7] (fun i wr=>∃(k:Nat) (S1:Nat->Prop),n+k<=σ.n/\i= .int .i64 ((n+k:Nat):Int)/\Hid (rY wr S1 d (Dk.sF k n σ))/\Hid (Step Sd S1 w wr)) (fun i _=>σ.n - (intOf i).toNat)
 case atStart=>exact⟨0,Sd,by omega,rfl,HH,af (Step.refl _ _)⟩
 case round=>
  obtain⟨k,S1,hk,rfl,HD,HS⟩:=hrel
  have HSz:=af (F3 d _ S1 wr HD.out)
  rw[Dk.yj] at HSz
  obtain⟨j,HJ⟩:∃j,Hid (n+k=j):=⟨_,af rfl⟩
  rw[HJ.out] at hk ⊢
  by_cases hlt:j<σ.n
  ·have hltI:(j:Int)<(σ.n:Int):=by omega
   have hwr:=Ec d _ S1 (j:Int) (.slice none 0 0) [] wr HD.out (bn.nil _ _ _) (by rw[Dk.vL];have:=HJ.out;omega)
   rw[(Dk.uo k n σ HF.out).write j [] (by rw[Dk.yj];exact hlt) (by simp)] at hwr
   have HWr:=af hwr;clear hwr
   go_wp2_with (first
    |(go_at_call 86;go_must (refine HSz.out.mono ?_;rintro e w1 ⟨rfl,hw1⟩;subst w1))
    |(go_at_call 88;go_must (refine HWr.out.mono ?_;rintro e w2 ⟨rfl,S2,hD2,hs2⟩)))
   have HD2:=af hD2;have HS2:=af (HS.out.trans hs2);clear hD2 hs2
   go_roundw
   case rel=>
    refine⟨k+1,S2,by have:=HJ.out;omega,by have:=HJ.out;go_num,af ?_,HS2⟩
    rw[Dk.yh,HJ.out]
    exact HD2.out
   case measure=>simp[intOf];omega
  ·obtain rfl:j=σ.n:=by omega
   have hkk:k=σ.n - n:=by have:=HJ.out;omega
   rw[hkk] at HD
   have HM:=af (RL d _ S1 0 n wr HD.out (Dk.uo _ n σ HF.out) h1 (by rw[Dk.yj];omega) (by rw[Dk.vL];omega))
   have hmk:∀w:World,(Instr.makeMap 163 none).run Tryz.prog w= .ok (.map (some w.heap.size)) (w.alloc (.map #[] 0)):=fun w=>run_makeMap _ w
   have e1:IntKind.i64.wrap ((n:Int) - 1)=((n - 1:Nat):Int):=by rw[aM _ (by omega)];omega
   go_wp2_with (first
    |(go_at_call 86;go_must (refine HSz.out.mono ?_;rintro e w1 ⟨rfl,hw1⟩;subst w1))
    |(go_at_call 89;go_must (refine HM.out.mono ?_;rintro e w2 ⟨lg,Sd2,Sl2,rfl,hA2,hs2⟩;refine Stop.of ?_)))
   refine Stop.on ?_
   have HA2:=af hA2;have HS2:=af (HS.out.trans hs2);clear hA2 hs2
   go_wp2_with fail
   go_ret2
   have hb:=Ie n HA2.out rfl rfl (by show n<(((Dk.sF (σ.n - n) n σ).flush.put 0 (Lg.new 0 n).fQ).flush).n;have:(((Dk.sF (σ.n - n) n σ).flush.put 0 (Lg.new 0 n).fQ).flush).n=(Dk.sF (σ.n - n) n σ).n:=rfl;rw[this,Dk.yj];exact h2) h1
   exact⟨_,_,rfl,hb.1,HS2.out.trans hb.2⟩
theorem Fp (a c m t:Nat)(k:Nat)(hm:m=2^k)(ha:a<m)(ht:t=a+m*c)(hlt:t<9223372036854775808):bits .or .i64 (a:Int) ((m*c:Nat):Int)=(t:Int):=by
 unfold bits
 have hb:m*c<18446744073709551616:=by omega
 have e4:(BitVec.ofInt 64 (a:Int)|||BitVec.ofInt 64 ((m*c:Nat):Int)).toNat=t:=by
  rw[oO,oO,BitVec.toNat_or,kY,kY,mP (by omega),mP (by omega),Nat.or_comm]
  have:=xY (i:=k) (b:=a) (by omega) c
  rw[hm,<-this,ht,hm]
  omega
 show IntKind.i64.wrap (((BitVec.ofInt 64 (a:Int)|||BitVec.ofInt 64 ((m*c:Nat):Int)).toNat:Nat):Int)=t
 rw[e4,fU]
 omega
theorem xA (l:List UInt8)(i:Nat)(b:UInt8)(h:l[i]? =some b)(W:World):(Instr.index 9 (.string (strOf l)) (.int .i64 (i:Int))).run Tryz.prog W= .ok (.int .u8 (b.toNat:Int)) W:=by
 obtain⟨hi,hb⟩:=bT.1 h
 have hs:(strOf l).size=l.length:=by show l.toArray.size=_;simp
 rw[run_index_string W 9 (strOf l) .i64 (i:Int) dJ,dif_pos ⟨by omega,by rw[hs];omega⟩]
 have:(strOf l)[(i:Int).toNat]'(by rw[hs];omega)=b:=by
  show l.toArray[(i:Int).toNat]'(by simpa using hi)=b
  simp[hb]
 rw[this]
theorem EO {a:ByteArray}{l:List UInt8}(h:a.data.toList=l):a=strOf l:=by
 cases a
 exact congrArg ByteArray.mk (Ow (by rw[h]))
theorem oh (l:List UInt8):(strOf l).size=l.length:=by show l.toArray.size=_;simp
theorem Nw (t:List UInt8)(n:Nat):(strOf t).extract 0 n=strOf (t.take n):=EO (by rw[si,vJ];simp[strOf])
theorem Ny (t:List UInt8)(n:Nat):(strOf t).extract n t.length=strOf (t.drop n):=EO (by
 rw[si,vJ]
 simp only[strOf,List.toList_toArray]
 exact aG (by simp))
def uW (w:World)(rb:Nat)(t:List UInt8):Prop:=w.heap[rb]? =some (.cells #[.string (strOf t),.bool false] 93 (0,0))
theorem uW.cells {w:World}{rb:Nat}{t:List UInt8}(h:uW w rb t):w.cell? ⟨rb,0,none⟩=some (.string (strOf t))/\w.cell? ⟨rb,1,none⟩=some (.bool false)/\w.frozen? ⟨rb,0,none⟩=false/\rb<w.heap.size:=by
 unfold uW at h
 exact⟨by simp[World.cell?,h],by simp[World.cell?,h],by simp[World.frozen?,h],(ah.1 h).1⟩
theorem uW.set {w:World}{rb:Nat}{t:List UInt8}(h:uW w rb t)(n:Nat):uW (w.setCell ⟨rb,0,none⟩ (.string (strOf (t.drop n)))) rb (t.drop n)/\Keep (· =rb) w (w.setCell ⟨rb,0,none⟩ (.string (strOf (t.drop n)))):=by
 refine⟨?_,(Keep.refl (· =rb) w).setCell (p:=⟨rb,0,none⟩) (.inr rfl) _⟩
 unfold uW at h ⊢
 simp[World.setCell,aS,h]
theorem QK (rb:Nat)(t:List UInt8)(n:Nat)(w:World)(h:uW w rb t)(hn:n<=t.length):
  Calls Tryz.prog 78 #[.pointer (some ⟨rb,0,none⟩),.int .i64 n] w fun e w'=>e= .returned (.string (strOf (t.take n)))/\uW w' rb (t.drop n)/\Keep (· =rb) w w':=by
 obtain⟨c0,c1,f0,lr⟩:=h.cells
 have hsz:=oh t
 have x1:¬(t.length:Int)<(n:Int):=by omega
 have x2:(n:Int)<=(t.length:Int):=by omega
 have e1:=Nw t n
 have e2:=Ny t n
 have HP:=af (h.set n)
 obtain⟨p,hp⟩:∃p,strOf (t.take n)=p:=⟨_,rfl⟩
 obtain⟨q,hq⟩:∃q,strOf (t.drop n)=q:=⟨_,rfl⟩
 rw[hp] at e1 ⊢;rw[hq] at e2 HP
 clear hp hq h
 go_enter Tryz.func78,Tryz.ntmps78
 go_wp2
 go_ret
 exact⟨rfl,HP.out.1,HP.out.2⟩
theorem H8 (rb:Nat)(v:Int)(t:List UInt8)(w:World)(h:uW w rb (ku v++t))(hv: -9223372036854775808<=v/\v<9223372036854775808):
  Calls Tryz.prog 44 #[.pointer (some ⟨rb,0,none⟩)] w fun e w'=>e= .returned (.int .i64 v)/\uW w' rb t/\Keep (· =rb) w w':=by
 have hc:=QK rb (ku v++t) 8 w h (by rw[av,gD];omega)
 rw[bD (by rw[gD];omega),aG (by rw[gD];omega),fH (by rw[gD];omega),eH (by rw[gD];omega),fM] at hc
 have HC:=af hc
 have hix:∀(i:Nat),i<8->∀W:World,(Instr.index 9 (.string (strOf (ku v))) (.int .i64 (i:Int))).run Tryz.prog W= .ok (.int .u8 (v/(256^i:Nat)%256)) W:=by
  intro i hi W
  have hb:(ku v)[i]? =some (UInt8.ofNat (v/(256^i:Nat)%256).toNat):=by
   unfold ku
   rw[dM,LB hi];rfl
  have:=xA (ku v) i _ hb W
  rw[this]
  have hb2:0<=v/(256^i:Nat)%256/\v/(256^i:Nat)%256<256:=⟨Int.emod_nonneg _ (by decide),Ov _ (by decide)⟩
  congr 2
  rw[dY]
  omega
 have HIX:=af hix
 have hsz:(strOf (ku v)).size=8:=by rw[oh,gD]
 obtain⟨s,hs⟩:∃s,Hid (strOf (ku v)=s):=⟨_,af rfl⟩
 rw[hs.out] at HC HIX hsz
 have hwr:=J7 v hv
 clear hix hc h
 go_enter Tryz.func44,Tryz.ntmps44
 go_wp2_with (first
  |(go_at_call 78;go_must (refine HC.out.mono ?_;rintro e w1 ⟨rfl,hR1,hk1⟩)))
 have HR:=af (ay hR1 hk1)
 clear hR1 hk1
 go_loopw [4,5] (fun n i wr=>∃k:Nat,k<=8/\n= .int .i64 (IntKind.i64.wrap (wF v k))/\i= .int .i64 ((k:Int) - 1)/\wr=w1) (fun _ i _=>(intOf i+1).toNat)
 case atStart=>exact⟨8,ax _,by rw[Mc];rfl,rfl,rfl⟩
 case round=>
  obtain⟨k,hk,rfl,rfl,rfl⟩:=hrel
  by_cases hk0:k=0
  ·subst hk0
   rw[hwr]
   go_wp2_with fail
   go_ret
   exact⟨rfl,HR.out.1,HR.out.2⟩
  ·obtain⟨j,rfl⟩:∃j,k=j+1:=⟨k - 1,by omega⟩
   have hix:=HIX.out j (by omega)
   have hb:=OG v (j+1) (by omega) (by omega)
   have hb2:0<=v/(256^j:Nat)%256/\v/(256^j:Nat)%256<256:=⟨Int.emod_nonneg _ (by decide),Ov _ (by decide)⟩
   have ho:=QT (wF v (j+1)) (v/(256^j:Nat)%256) hb hb2
   rw[<-J8 v j (by omega)] at ho
   have HO:=af ho
   have HW:=af (aM (wF v (j+1)) (by omega))
   clear ho hb hb2
   go_wp2_with fail
   go_roundw
   case rel=>
    refine⟨j,by omega,?_,rfl,trivial⟩
    have e1:=HO.out
    have e2:=HW.out
    rw[IntWalk.i64_left] at e2
    rw[IntWalk.i64_left (wF v (j+1)*256)] at e1
    rw[<-e1,e2]
    simp
   case measure=>simp[intOf]
theorem Nn {α:Type}(cur xs news:List α)(i n cap k:Nat)(hi:i<n)(hc:n+1<=cap)(hl:cur.length=cap*k)(hx:cur.take (n*k)=xs)(hnl:news.length=k):
  (splice cur ((i+1)*k) (xs.drop (i*k))).length=cap*k/\(splice (splice cur ((i+1)*k) (xs.drop (i*k))) (i*k) news).length=cap*k/\
  (splice (splice cur ((i+1)*k) (xs.drop (i*k))) (i*k) news).take ((n+1)*k)=xs.take (i*k)++news++xs.drop (i*k):=by
 have hik:i*k<=n*k:=bQ _ (ig hi)
 have hik1:(i+1)*k<=n*k:=bQ _ hi
 have hnk1:(n+1)*k<=cap*k:=bQ _ hc
 rw[dX,jZ] at hik1 hnk1
 have hxl:xs.length=n*k:=by rw[<-hx,aC];omega
 have e2:(xs.drop (i*k)).length=n*k - i*k:=by rw[aJ,hxl]
 have hl1:(splice cur ((i+1)*k) (xs.drop (i*k))).length=cap*k:=by rw[dV _ _ _ (by rw[e2,dX,jZ];omega)];exact hl
 have hl2:(splice (splice cur ((i+1)*k) (xs.drop (i*k))) (i*k) news).length=cap*k:=by rw[dV _ _ _ (by rw[hl1];omega)];exact hl1
 refine⟨hl1,hl2,?_⟩
 have e1:(cur.take (i*k)).length=i*k:=by rw[aC];omega
 have e3:xs.take (i*k)=cur.take (i*k):=by rw[<-hx,bZ,bq (by omega)]
 have e4:splice cur ((i+1)*k) (xs.drop (i*k))=cur.take (i*k)++((cur.drop (i*k)).take k++(xs.drop (i*k)++cur.drop ((i+1)*k+(xs.drop (i*k)).length))):=by
  unfold splice
  rw[dX,jZ,List.take_add,aL]
 rw[e4,uE _ _ _ _ _ e1 (by rw[aC,aJ,hnl];omega),e3,<-aL,<-aL,
  bD (by simp only[av,e1,e2,hnl,dX,jZ];omega),aG (by simp only[av,e1,e2,hnl,dX,jZ];omega)]
theorem KM {α:Type}(cur rest xs news:List α)(i n c k:Nat)(hi:i<n)(hc:n+1<=c)(hx:cur.take (n*k)=xs)(hcl:n*k<=cur.length)(hl:(cur.take (i*k)++rest).length=c*k)(hnl:news.length=k):
  (splice (cur.take (i*k)++rest) (i*k) news).length=c*k/\(splice (splice (cur.take (i*k)++rest) (i*k) news) ((i+1)*k) (xs.drop (i*k))).length=c*k/\
  (splice (splice (cur.take (i*k)++rest) (i*k) news) ((i+1)*k) (xs.drop (i*k))).take ((n+1)*k)=xs.take (i*k)++news++xs.drop (i*k):=by
 have hik:i*k<=n*k:=bQ _ (ig hi)
 have hik1:(i+1)*k<=n*k:=bQ _ hi
 have hnk1:(n+1)*k<=c*k:=bQ _ hc
 rw[dX,jZ] at hik1 hnk1
 have hxl:xs.length=n*k:=by rw[<-hx,aC];omega
 have e2:(xs.drop (i*k)).length=n*k - i*k:=by rw[aJ,hxl]
 have e1:(cur.take (i*k)).length=i*k:=by rw[aC];omega
 have e3:xs.take (i*k)=cur.take (i*k):=by rw[<-hx,bZ,bq (by omega)]
 have hrl:rest.length=c*k - i*k:=by rw[av,e1] at hl;omega
 have hl1:(splice (cur.take (i*k)++rest) (i*k) news).length=c*k:=by rw[dV _ _ _ (by rw[hl];omega)];exact hl
 have hl2:(splice (splice (cur.take (i*k)++rest) (i*k) news) ((i+1)*k) (xs.drop (i*k))).length=c*k:=by rw[dV _ _ _ (by rw[hl1,e2,dX,jZ];omega)];exact hl1
 refine⟨hl1,hl2,?_⟩
 have e4:splice (cur.take (i*k)++rest) (i*k) news=(cur.take (i*k)++news)++((rest.drop k).take (n*k - i*k)++(rest.drop k).drop (n*k - i*k)):=by
  rw[bJ]
  have:=uE (cur.take (i*k)) (rest.take k) (rest.drop k) news (i*k) e1 (by rw[aC,hnl];omega)
  rw[bJ] at this
  rw[this,aL]
 rw[e4,uE _ _ _ _ _ (by simp only[av,e1,hnl,dX,jZ]) (by rw[e2,aC,aJ];omega),e3,<-aL,
  bD (by simp only[av,e1,e2,hnl,dX,jZ];omega),aG (by simp only[av,e1,e2,hnl,dX,jZ];omega)]
theorem Iw (v:Value)(n:Nat)(xs:List Value)(vb:Nat)(news:List Value)(w:World)(S:Nat->Prop)(B:Nat)(hS:∀g,S g->g<w.heap.size)(hB:B<=w.heap.size)(h:aP w S B 79 2 v n xs)(hv:Row w vb 79 news)(hnl:news.length=2)(hone:∀u∈news,u.oneCell'=true)(hn:n<=1000000):
  Calls Tryz.prog 167 #[v,.int .i64 n,.slice (some ⟨vb,0,none⟩) 1 1] w fun e w'=>∃v',e= .returned v'/\aP w' S B 79 2 v' (n+1) (xs++news)/\Keep (fun g=>v.ownBlock=some g) w w'/\Below B w w':=by
 have hsrc:Src Tryz.prog 2 76 (.slice (some ⟨vb,0,none⟩) 1 1) 1 news w:=by
  have:=(hv.cZ (S:=gJ) (k:=2) (off:=0) 1 1 (by omega) id (ax _) (by simp[maxLen])).src dQ
  rw[eP,aG (by omega)] at this
  exact this hone
 have hh:=h
 obtain⟨ao,c,rfl,h1,h2,h3,h4⟩:=h.cZ.form
 have k1:n - n=0:=by omega
 have Hone:=af hone;clear hone
 have Hnl:=af hnl;clear hnl
 go_enter Tryz.func167,Tryz.ntmps167
 go_wp2_with (at_builtin;(refine dB rfl (.tmp 23) (.tmp 24) 76 76 rfl S B 79 2 32 _ dQ kV rfl (.slice ao n c) _ _ rfl hh (.slice (some ⟨vb,0,none⟩) 1 1) _ _ rfl hsrc hS hB ?_ ?_ ?_);(focus (unfold maxLen;omega));(focus omega);intro ao1 c1 w1 hown1 hk1 hb1 hd1)
 all_goals
  go_ret
  exact⟨_,rfl,hown1,hk1.mono (fun _ _ h=>by cases ao<;>exact h),hb1⟩
theorem Iu (g cap n i:Nat)(xs:List Value)(vb:Nat)(news:List Value)(w:World)(S:Nat->Prop)(B:Nat)(h:aP w S B 79 2 (.slice (some ⟨g,0,none⟩) n cap) n xs)(hx1:∀u∈xs,u.oneCell'=true)(hv:Row w vb 79 news)(hvg:vb≠g)(hnl:news.length=2)(hone:∀u∈news,u.oneCell'=true)(hn:n<=1000000)(hi:i<n)(hroom:n+1<=cap):
  Calls Tryz.prog 167 #[.slice (some ⟨g,0,none⟩) n cap,.int .i64 i,.slice (some ⟨vb,0,none⟩) 1 1] w fun e w'=>∃v',e= .returned v'/\aP w' S B 79 2 v' (n+1) (xs.take (i*2)++news++xs.drop (i*2))/\Keep (fun k=>k=g) w w':=by
 obtain⟨cur,hr,hl,hx,hBg,hSg,hc,hc2⟩:=h.row
 have hc3:cap<=9223372036854775807:=by simpa [maxLen] using hc2
 have hxl:=h.1.1
 clear h
 have hov:(callFunc 211 #[.slice (some ⟨vb,0,none⟩) 1 1,.slice (some ⟨g,(i+1)*2,none⟩) (n - i) (cap - (i+1))]).run Tryz.prog w= .ok (.value (.bool false)) w:=by
  rw[qF Tryz.func211 (by kernel_rfl) (by kernel_rfl) (by kernel_rfl) (e:=Extern.SlicesOverlaps.overlaps #[76,76] #[4]) (by kernel_rfl)]
  rw[Lib.run_overlaps_apart w 76 4 79 dQ 2 (fun w=>by kernel_rfl) ⟨vb,0,none⟩ ⟨g,(i+1)*2,none⟩ 1 1 (n - i) (cap - (i+1)) hvg 79 79 2 (cap*2)
   (by unfold Row at hv;simp[World.shape?,hv,hnl]) (by unfold Row at hr;simp[World.shape?,hr,hl]) (by omega) (hv.frozen 0) (hv.frozen 2)]
  rfl
 have k1:(0:Int)<=(i:Int):=by omega
 have k2:(i:Int)<=(cap:Int):=by omega
 have k3:(0:Int)<=(i:Int)+1:=by omega
 have k4:(i:Int)+1<=(n:Int)+1:=by omega
 have k5:((i:Int)+1).toNat=i+1:=by omega
 have k6:((n:Int)+1).toNat=n+1:=by omega
 have k7:(n:Int)+1<=(cap:Int):=by omega
 have k8:((i:Int)==(n:Int))=false:=by rw[dZ];omega
 have k9:IntKind.i64.wrap ((i:Int)+1)=(i:Int)+1:=aM _ (by omega)
 have k10:¬cap=i:=by omega
 have k11:(i:Int)<=(n:Int)+1:=by omega
 have k12:¬cap=i+1:=by omega
 have hsrc1:bn w.drew gJ 2 (.slice (some ⟨g,i*2,none⟩) (n+1 - i) (cap - i)) (n+1 - i) ((cur.drop (i*2)).take ((n+1 - i)*2)):=Row.cZ (w:=w.drew) hr _ _ (by omega) id (by omega) (by unfold maxLen;omega)
 have hcs1:((cur.drop (i*2)).take ((n+1 - i)*2)).take ((n - i)*2)=xs.drop (i*2):=by
  rw[bZ,bq (by omega),<-hx,iC];congr 1;omega
 have hsrc2:bn w gJ 2 (.slice (some ⟨vb,0,none⟩) 1 1) 1 news:=by
  have:=hv.cZ (S:=gJ) (k:=2) (off:=0) 1 1 (by omega) id (ax _) (by simp[maxLen])
  rwa [eP,aG (by omega)] at this
 have Hl:=af hl;clear hl
 have Hx:=af hx;clear hx
 have Hxl:=af hxl;clear hxl
 have Hnl:=af hnl;clear hnl
 have Hcs1:=af hcs1;clear hcs1
 go_enter Tryz.func167,Tryz.ntmps167
 go_wp2
 go_region_held3 (fun _=>True) (trivial) (first|((refine zR rfl (fO (.tmp 73) (.tmp 76) 76 76 rfl 79 2 32 _ dQ kV g ((i+1)*2) 79 (n - i) (n - i) (cap - (i+1)) (some ⟨g,(i+1)*2,none⟩) cur ?_ hr (.slice (some ⟨g,i*2,none⟩) (n+1 - i) (cap - i)) ?_ (n+1 - i) (xs.drop (i*2)) rfl ?_ ?_ ?_ (fun _=>rfl) ?_ ?_ ?_));(focus (first|rfl|(show Value.slice _ _ _=_;congr 1;omega)));(focus (first|rfl|(show Value.slice _ _ _=_;congr 1<;>omega)));(focus (exact(Nat.min_eq_right (by omega)).symm));(focus (rw[aJ,Hxl.out];omega));(focus (rw[<-Hcs1.out];exact hsrc1.first (n - i) (by omega)));(focus (rw[aJ,Hxl.out,Hl.out];omega));(focus (exact fun u hu=>hx1 u (bU hu)));intro w1 hr1 hk1))
 have hnews:(Builtin.firstCells 2 1 (.slice (some ⟨vb,0,none⟩) 1 1)).run Tryz.prog w1= .ok news.toArray w1:=by
  have h1:bn w1 gJ 2 (.slice (some ⟨vb,0,none⟩) 1 1) 1 news:=hsrc2.keep fun g' hg' hl _=>by cases hg';exact⟨hk1.block vb hl hvg,id⟩
  have:=h1.first (P:=Tryz.prog) 1 (ax _)
  rwa [aG (by have:=Hnl.out;omega)] at this
 obtain⟨m1,m2,m3⟩:=Nn cur xs news i n cap 2 hi hroom Hl.out Hx.out Hnl.out
 have M1:=af m1;clear m1
 have M2:=af m2;clear m2
 have M3:=af m3;clear m3
 go_wp2_with (first|((refine dh rfl ?_);intro K hK;(refine fO (.tmp 80) (.tmp 81) 76 76 rfl 79 2 32 _ dQ kV g (i*2) 79 1 (n+1 - i) (cap - i) (some ⟨g,i*2,none⟩) _ rfl hr1 (.slice (some ⟨vb,0,none⟩) 1 1) rfl 1 news rfl ?_ ?_ hnews (fun _=>rfl) ?_ hone ?_);(focus (exact(bq (by omega)).symm));(focus (rw[Hnl.out]));(focus (rw[M1.out,Hnl.out];omega));intro w2 hr2 hk2;refine hK _ _ ?_))
 go_ret
 refine⟨_,rfl,?_,((Keep.refl (· =g) w).drew.trans hk1 (fun _ _ h=>h)).trans hk2 (fun _ _ h=>h)⟩
 rw[<-M3.out]
 exact Row.own hr2 (n+1) M2.out hBg hSg hroom hc2
theorem sH {α:Type}(X b:List α)(off:Nat)(h:off+b.length<=X.length):(splice X off b).take (off+b.length)=X.take off++b:=by
 unfold splice
 rw[<-aL,bD (by simp only[av,aC];omega),aG (by simp only[av,aC];omega)]
theorem lu {α:Type}(X b:List α)(off t:Nat)(ht:t<=off)(h:off<=X.length):(splice X off b).take t=X.take t:=by
 unfold splice
 rw[bD (by rw[aC];omega),bZ,bq ht]
theorem F4 {α:Type}(X b:List α)(off:Nat)(h:off<=X.length):(splice X off b).drop off=b++X.drop (off+b.length):=by
 unfold splice
 rw[fH (by rw[aC];omega),eH (by rw[aC];omega),fM]
theorem pQ {α:Type}(X b:List α)(off t:Nat)(ht:off+b.length<=t)(h:off<=X.length):(splice X off b).drop t=X.drop t:=by
 obtain⟨d,rfl⟩:∃d,t=off+b.length+d:=⟨t - (off+b.length),by omega⟩
 have e:(splice X off b).drop (off+b.length)=X.drop (off+b.length):=by
  unfold splice
  rw[<-aL]
  exact List.drop_left' (by simp only[av,aC];omega)
 rw[<-List.drop_drop,e,List.drop_drop]
theorem zO {α:Type}(cur news b:List α)(i:Nat)(h:i+news.length+b.length<=cur.length):
  (splice (splice cur i news) (i+news.length) b).length=cur.length/\(splice (splice cur i news) (i+news.length) b).take (i+news.length+b.length)=cur.take i++news++b:=by
 have h1:(splice cur i news).length=cur.length:=dV _ _ _ (by omega)
 exact⟨(dV _ _ _ (by omega)).trans h1,by rw[sH _ _ _ (by omega),sH _ _ _ (by omega)]⟩
theorem Jj {α:Type}(cur news b:List α)(i:Nat)(h:i+news.length+b.length<=cur.length):
  (splice (splice cur (i+news.length) b) i news).length=cur.length/\(splice (splice cur (i+news.length) b) i news).take (i+news.length+b.length)=cur.take i++news++b:=by
 have h1:(splice cur (i+news.length) b).length=cur.length:=dV _ _ _ (by omega)
 refine⟨(dV _ _ _ (by omega)).trans h1,?_⟩
 rw[List.take_add,sH _ _ _ (by omega),lu _ _ _ _ (by omega) (by omega)]
 congr 1
 rw[pQ _ _ _ _ (ax _) (by omega),F4 _ _ _ (by omega),bD (ax _),dF]
theorem BU (g cap n i:Nat)(xs:List Value)(vv:Value)(m:Nat)(news:List Value)(w:World)(S:Nat->Prop)(B:Nat)(hS:∀g,S g->g<w.heap.size)(hB:B<=w.heap.size)(h:aP w S B 9 1 (.slice (some ⟨g,0,none⟩) n cap) n xs)(hv:aP w S B 9 1 vv m news)(hone:∀u∈news,u.oneCell'=true)(hn:n<=1000000)(hm:m<=1000000)(hi:n=i+1)(hm0:0<m):
  Calls Tryz.prog 256 #[.slice (some ⟨g,0,none⟩) n cap,.int .i64 i,.int .i64 ((i:Int)+1),vv] w fun e w'=>∃v',e= .returned v'/\aP w' S B 9 1 v' (i+m) (xs.take i++news)/\Keep (· =g) w w'/\Below B w w':=by
 obtain⟨cur,hr,hl,hx,hBg,hSg,hc,hc2⟩:=h.row
 have hc3:cap<=9223372036854775807:=by simpa [maxLen] using hc2
 have hh:aP w S B 9 1 (.slice (some ⟨g,0,none⟩) i cap) i (xs.take i):=by
  have:=Row.own hr i hl hBg hSg (by omega) hc2
  rwa [show cur.take (i*1)=xs.take i by rw[<-hx,bZ,aT,aT,bq (by omega)]] at this
 have hsrc:Src Tryz.prog 1 22 vv m news w:=hv.cZ.src aW hone
 obtain⟨vo,vc,rfl,v1,v2,v3,v4⟩:=hv.cZ.form
 clear h hv hx hl hr
 subst hi
 have k1:(0:Int)<=(i:Int):=by omega
 have k2:(i:Int)<=(cap:Int):=by omega
 have k3:(0:Int)<=(i:Int)+1:=by omega
 have k4:(i:Int)+1<=(cap:Int):=by omega
 have k5:((i:Int)+1).toNat=i+1:=by omega
 have k6:¬(((i+m:Nat):Int)<((i+1:Nat):Int)):=by omega
 have k7:¬((i:Int)+(m:Int)<(i:Int)+1):=by omega
 have Hone:=af hone;clear hone
 go_enter Qm,LA
 go_wp2_with (at_builtin;(refine dB rfl (.tmp 32) (.tmp 33) 22 22 rfl S B 9 1 16 _ aW gu rfl (.slice (some ⟨g,0,none⟩) i cap) _ _ rfl hh (.slice vo m vc) _ _ rfl hsrc hS hB ?_ ?_ ?_);(focus (unfold maxLen;omega));(focus omega);intro ao1 c1 w1 hown1 hk1 hb1 hd1)
 all_goals
  go_ret
  exact⟨_,rfl,hown1,hk1.mono (fun _ _ h=>by cases h;rfl),hb1⟩
theorem BV (g cap n i:Nat)(xs:List Value)(vv:Value)(w:World)(S:Nat->Prop)(B:Nat)(h:aP w S B 9 1 (.slice (some ⟨g,0,none⟩) n cap) n xs)(hv:aP w S B 9 1 vv 0 [])(hn:n<=1000000)(hi:n=i+1):
  Calls Tryz.prog 256 #[.slice (some ⟨g,0,none⟩) n cap,.int .i64 i,.int .i64 ((i:Int)+1),vv] w fun e w'=>∃v',e= .returned v'/\aP w' S B 9 1 v' i (xs.take i)/\Keep (· =g) w w':=by
 obtain⟨cur,hr,hl,hx,hBg,hSg,hc,hc2⟩:=h.row
 have hc3:cap<=9223372036854775807:=by simpa [maxLen] using hc2
 have hsrc:Src Tryz.prog 1 22 vv 0 [] w:=hv.cZ.src aW (by simp)
 obtain⟨vo,vc,rfl,v1,v2,v3,v4⟩:=hv.cZ.form
 clear h hv
 subst hi
 have hx':cur.take i=xs.take i:=by rw[<-hx,bZ,aT,bq (by omega)]
 have hll:cur.length=cap:=by omega
 have e1:splice cur i ([]:List Value)=cur:=by simp[splice]
 have hr0:Row w g 9 (splice cur (i*1) [])->Row w g 9 cur:=by rw[aT,e1];exact id
 have k1:(0:Int)<=(i:Int):=by omega
 have k2:(i:Int)<=(cap:Int):=by omega
 have k3:(0:Int)<=(i:Int)+1:=by omega
 have k4:(i:Int)+1<=(cap:Int):=by omega
 have k5:((i:Int)+1).toNat=i+1:=by omega
 have k6:i+1 - i=1:=by omega
 have k7:¬cap=i:=by omega
 have Hl:=af hll;clear hll hl hx
 have E1:=af e1;clear e1 hr0
 go_enter Qm,LA
 go_wp2_with (first
  |(refine dh rfl ?_;intro K hK;(refine zL (.tmp 32) (.tmp 33) 22 22 rfl 9 1 16 _ aW gu g i cap _ cur rfl hr (.slice vo 0 vc) 0 [] rfl hsrc ?_ ?_ ?_);(focus omega);(focus (have:=Hl.out;simp only[bI];omega));intro w1 hr1 hk1;refine hK _ _ ?_)
  |(refine dh rfl ?_;intro K hK;(refine mJ (.tmp 43) 22 rfl 9 1 16 _ aW gu rfl g i 9 1 _ (some ⟨g,i,none⟩) _ rfl hr1 (fun _=>rfl) ?_ ?_ ?_);(focus (simp only[aT,E1.out,Hl.out];omega));(focus (exact kU _ _ (by simp[Value.cells,Value.oneCell']) (by simp[Value.cells])));intro w2 zs hz hr2 hk2;refine hK _ _ ?_))
 all_goals
  go_ret
  rw[aT,E1.out] at hr2
  have hlz:(splice cur i zs).length=cap:=by rw[dV _ _ _ (by have:=Hl.out;omega)];exact Hl.out
  have:=Row.own (k:=1) hr2 i (by omega) hBg hSg (by omega) hc2
  rw[aT,lu _ _ _ _ (ax _) (by have:=Hl.out;omega),hx'] at this
  exact⟨_,rfl,this,hk1.trans hk2 (fun _ _ h=>h)⟩
theorem Ao (g cap n i:Nat)(xs:List Value)(vv:Value)(m:Nat)(news:List Value)(w:World)(S:Nat->Prop)(B:Nat)(h:aP w S B 9 1 (.slice (some ⟨g,0,none⟩) n cap) n xs)(hx1:∀u∈xs,u.oneCell'=true)(hv:aP w S B 9 1 vv m news)(hvg:vv.ownBlock≠some g)(hone:∀u∈news,u.oneCell'=true)(hn:n<=1000000)(hi:i+1<n)(hm:m<=1)(N:Nat)(L:List Value)(hN:N=n - 1+m)(hL:L=xs.take i++news++xs.drop (i+1)):
  Calls Tryz.prog 256 #[.slice (some ⟨g,0,none⟩) n cap,.int .i64 i,.int .i64 ((i:Int)+1),vv] w fun e w'=>∃v',e= .returned v'/\aP w' S B 9 1 v' N L/\Keep (· =g) w w':=by
 obtain⟨cur,hr,hl,hx,hBg,hSg,hc,hc2⟩:=h.row
 have hc3:cap<=9223372036854775807:=by simpa [maxLen] using hc2
 have hnl:news.length=m:=by have:=hv.1.1;omega
 have hll:cur.length=cap:=by omega
 have hx':cur.take n=xs:=by rw[<-hx,aT]
 obtain⟨vo,vc,rfl,v1,v2,v3,v4⟩:=hv.cZ.form
 have hvs:=hv.cZ
 clear h hv hl hx
 obtain⟨d,rfl⟩:∃d,n=i+1+(d+1):=⟨n - (i+2),by omega⟩
 have HN:=af hN;clear hN
 have HL:=af hL;clear hL
 have k1:(0:Int)<=(i:Int):=by omega
 have k2:(i:Int)<=(cap:Int):=by omega
 have k3:(0:Int)<=(i:Int)+1:=by omega
 have k4:(i:Int)+1<=(cap:Int):=by omega
 have k5:((i:Int)+1).toNat=i+1:=by omega
 have Hl:=af hll;clear hll
 have Hx:=af hx';clear hx'
 have Hn:=af hnl;clear hnl
 go_enter Qm,LA
 have k6:¬cap=i+1:=by omega
 have k7:(i:Int)+1<=(i:Int)+1+((d:Int)+1):=by omega
 have k8:IntKind.i64.wrap ((i:Int)+(m:Int))=(i:Int)+(m:Int):=aM _ (by omega)
 have k9:i+1+(d+1) - (i+1)=d+1:=by omega
 have k10:IntKind.i64.wrap ((i:Int)+(m:Int)+((d:Int)+1))=(i:Int)+(m:Int)+((d:Int)+1):=aM _ (by omega)
 have k11:¬((cap:Int)<(i:Int)+(m:Int)+((d:Int)+1)):=by omega
 have k12:((i:Int)+(m:Int)+((d:Int)+1)).toNat=i+m+(d+1):=by omega
 have k13:(0:Int)<=(i:Int)+(m:Int)+((d:Int)+1):=by omega
 have k14:(i:Int)+(m:Int)+((d:Int)+1)<=cap:=by omega
 have k15:(i:Int)+(m:Int)<=(i:Int)+1:=by omega
 have k16:(i:Int)<=(i:Int)+(m:Int)+((d:Int)+1):=by omega
 have k17:¬cap=i:=by omega
 go_wp2_with fail
 refine aN (fun _=>True) (fun _=>true) [0,1,2,3,4,5,6,7,8,9,10,11,12] rfl (by kernel_rfl) trivial ?_
 repeat ((refine bL (v:= ?_) rfl rfl (fun _ _ _ h=>h) rfl (fun W hW=> ?_) ?_);rotate_left;(focus ((try dsimp only at hW);skip;first|(go_simp;first|done|with_reducible rfl)));(try simp only[Act.put,ai,au,aj]))
 refine bO ?_
 have hD:(xs.drop (i+1)).length=d+1:=by rw[aJ,<-Hx.out,aC,Hl.out];omega
 have hT:cur.take i=xs.take i:=by rw[<-Hx.out,bZ,bq (by omega)]
 obtain⟨hF1,hF2⟩:=zO cur news (xs.drop (i+1)) i (by rw[Hn.out,hD,Hl.out];omega)
 rw[Hn.out,hD,hT] at hF2
 rw[Hn.out] at hF1
 have hcs1:(Builtin.firstCells 1 m (.slice vo m vc)).run Tryz.prog w.drew= .ok news.toArray w.drew:=by
  have h1:=bn.first (P:=Tryz.prog) (w:=w.drew) (hvs.keep fun _ _ _ h=>⟨rfl,h⟩) m (ax _)
  rwa [aG (by rw[Hn.out];omega)] at h1
 have hcs2:∀W,Row W g 9 (splice cur i news)->(Builtin.firstCells 1 (d+1) (.slice (some ⟨g,i+1,none⟩) (d+1) (cap - (i+1)))).run Tryz.prog W= .ok (xs.drop (i+1)).toArray W:=by
  intro W hW
  have h1:=(Row.cZ (S:=gJ) (k:=1) (off:=i+1) hW (d+1) (cap - (i+1)) (by rw[dV _ _ _ (by rw[Hn.out,Hl.out];omega),Hl.out];omega) id (by omega) (by unfold maxLen;omega)).first (P:=Tryz.prog) (d+1) (ax _)
  rw[bZ,gN,pQ _ _ _ _ (by rw[Hn.out];omega) (by rw[Hl.out];omega),aT] at h1
  rwa [show (cur.drop (i+1)).take (d+1)=xs.drop (i+1) by rw[<-Hx.out,iC];congr 1;omega] at h1
 have HD:=af hD;clear hD
 have HT:=af hT;clear hT
 have HF1:=af hF1;clear hF1
 have HF2:=af hF2;clear hF2
 have Hc1:=af hcs1;clear hcs1
 have Hc2:=af hcs2;clear hcs2
 have k18:¬cap=i+m:=by omega
 have k19:i+m+(d+1) - (i+m)=d+1:=by omega
 have k20:(0:Int)<=(i:Int)+(m:Int):=by omega
 have k21:(i:Int)+(m:Int)<=(i:Int)+(m:Int)+((d:Int)+1):=by omega
 have k22:((i:Int)+(m:Int)).toNat=i+m:=by omega
 have k23:(i:Int)+(m:Int)+((d:Int)+1)<=(i:Int)+1+((d:Int)+1):=by omega
 go_wp2_with (first
  |((refine dh rfl ?_);intro K hK;(refine fO (.tmp 95) (.tmp 96) 22 22 rfl 9 1 16 _ aW gu g i 9 m (i+m+(d+1) - i) (cap - i) (some ⟨g,i,none⟩) cur rfl hr (.slice vo m vc) rfl m news rfl ?_ ?_ Hc1.out (fun _=>rfl) ?_ hone ?_);(focus (exact(bq (by omega)).symm));(focus (rw[Hn.out,aT]));(focus (rw[Hn.out,Hl.out];omega));intro w1 hr1 hk1;refine hK _ _ (Stop.of ?_)))
 refine Stop.on ?_
 go_wp2_with fail
 refine aN (fun _=>True) (fun i=> !([9].contains i)) [0,1,2,3,4,5,6,7,8,9] rfl (by kernel_rfl) trivial ?_
 repeat ((refine bL (v:= ?_) rfl rfl (fun _ _ _ h=>h) rfl (fun W hW=> ?_) ?_);rotate_left;(focus ((try dsimp only at hW);skip;first|(go_simp;first|done|with_reducible rfl)));(try simp only[Act.put,ai,au,aj]))
 refine jf rfl rfl rfl (by kernel_rfl) ?_
 intro K hK
 refine fO (.tmp 103) (.tmp 106) 22 22 rfl 9 1 16 _ aW gu g (i+m) 9 (d+1) (d+1) (cap - (i+m)) (some ⟨g,i+m,none⟩) _ rfl (w:=w1.drew) hr1 (.slice (some ⟨g,i+1,none⟩) (d+1) (cap - (i+1))) rfl (d+1) (xs.drop (i+1)) rfl (gN _).symm (by rw[HD.out,aT]) (Hc2.out _ hr1) (fun _=>rfl) ?_ (fun u hu=>hx1 u (bU hu)) ?_
 ·rw[dV _ _ _ (by rw[Hn.out,Hl.out];omega),HD.out,Hl.out];omega
 intro w2 hr2 hk2
 refine hK.out _ _ (bO ?_)
 go_wp2_with (first
  |((refine dh rfl ?_);intro K hK;(refine mJ (.tmp 110) 22 rfl 9 1 16 _ aW gu rfl g (i+m+(d+1)) 9 _ _ _ _ rfl hr2 ?_ ?_ ?_ ?_);(focus (intro h0;first|rfl|(exfalso;omega)|(rw[if_neg (by omega)])));(focus (rw[HF1.out,Hl.out];omega));(focus (exact kU _ _ (by simp[Value.cells,Value.oneCell']) (by simp[Value.cells])));intro w3 zs hz hr3 hk3;refine hK _ _ ?_))
 all_goals
  go_ret
  have hown:=Row.own (k:=1) hr3 (i+m+(d+1)) (by rw[dV _ _ _ (by rw[HF1.out,Hl.out,hz];omega),HF1.out,Hl.out,aT]) hBg hSg (by omega) hc2
  rw[aT,lu _ _ _ _ (ax _) (by rw[HF1.out,Hl.out];omega),HF2.out] at hown
  refine⟨_,rfl,?_,((((Keep.refl (· =g) w).drew.trans hk1 (fun _ _ h=>h)).drew).trans hk2 (fun _ _ h=>h)).trans hk3 (fun _ _ h=>h)⟩
  rw[HL.out,show N=i+m+(d+1) by rw[HN.out];omega]
  first|exact hown|(rw[‹cap=i+m+(d+1)›] at hown;exact hown)
theorem BX (g cap n i:Nat)(xs:List Value)(vv:Value)(m:Nat)(news:List Value)(w:World)(S:Nat->Prop)(B:Nat)(hS:∀g,S g->g<w.heap.size)(hB:B<=w.heap.size)(h:aP w S B 3 1 (.slice (some ⟨g,0,none⟩) n cap) n xs)(hv:aP w S B 3 1 vv m news)(hone:∀u∈news,u.oneCell'=true)(hn:n<=1000000)(hm:m<=1000000)(hi:n=i+1)(hm0:0<m):
  Calls Tryz.prog 257 #[.slice (some ⟨g,0,none⟩) n cap,.int .i64 i,.int .i64 ((i:Int)+1),vv] w fun e w'=>∃v',e= .returned v'/\aP w' S B 3 1 v' (i+m) (xs.take i++news)/\Keep (· =g) w w'/\Below B w w':=by
 obtain⟨cur,hr,hl,hx,hBg,hSg,hc,hc2⟩:=h.row
 have hc3:cap<=9223372036854775807:=by simpa [maxLen] using hc2
 have hh:aP w S B 3 1 (.slice (some ⟨g,0,none⟩) i cap) i (xs.take i):=by
  have:=Row.own hr i hl hBg hSg (by omega) hc2
  rwa [show cur.take (i*1)=xs.take i by rw[<-hx,bZ,aT,aT,bq (by omega)]] at this
 have hsrc:Src Tryz.prog 1 171 vv m news w:=hv.cZ.src aZ hone
 obtain⟨vo,vc,rfl,v1,v2,v3,v4⟩:=hv.cZ.form
 clear h hv hx hl hr
 subst hi
 have k1:(0:Int)<=(i:Int):=by omega
 have k2:(i:Int)<=(cap:Int):=by omega
 have k3:(0:Int)<=(i:Int)+1:=by omega
 have k4:(i:Int)+1<=(cap:Int):=by omega
 have k5:((i:Int)+1).toNat=i+1:=by omega
 have k6:¬(((i+m:Nat):Int)<((i+1:Nat):Int)):=by omega
 have k7:¬((i:Int)+(m:Int)<(i:Int)+1):=by omega
 have Hone:=af hone;clear hone
 go_enter Ql,Lx
 go_wp2_with (at_builtin;(refine dB rfl (.tmp 32) (.tmp 33) 171 171 rfl S B 3 1 8 _ aZ gU rfl (.slice (some ⟨g,0,none⟩) i cap) _ _ rfl hh (.slice vo m vc) _ _ rfl hsrc hS hB ?_ ?_ ?_);(focus (unfold maxLen;omega));(focus omega);intro ao1 c1 w1 hown1 hk1 hb1 hd1)
 all_goals
  go_ret
  exact⟨_,rfl,hown1,hk1.mono (fun _ _ h=>by cases h;rfl),hb1⟩
theorem BZ (g cap n i:Nat)(xs:List Value)(vv:Value)(w:World)(S:Nat->Prop)(B:Nat)(h:aP w S B 3 1 (.slice (some ⟨g,0,none⟩) n cap) n xs)(hv:aP w S B 3 1 vv 0 [])(hn:n<=1000000)(hi:n=i+1):
  Calls Tryz.prog 257 #[.slice (some ⟨g,0,none⟩) n cap,.int .i64 i,.int .i64 ((i:Int)+1),vv] w fun e w'=>∃v',e= .returned v'/\aP w' S B 3 1 v' i (xs.take i)/\Keep (· =g) w w':=by
 obtain⟨cur,hr,hl,hx,hBg,hSg,hc,hc2⟩:=h.row
 have hc3:cap<=9223372036854775807:=by simpa [maxLen] using hc2
 have hsrc:Src Tryz.prog 1 171 vv 0 [] w:=hv.cZ.src aZ (by simp)
 obtain⟨vo,vc,rfl,v1,v2,v3,v4⟩:=hv.cZ.form
 clear h hv
 subst hi
 have hx':cur.take i=xs.take i:=by rw[<-hx,bZ,aT,bq (by omega)]
 have hll:cur.length=cap:=by omega
 have e1:splice cur i ([]:List Value)=cur:=by simp[splice]
 have hr0:Row w g 3 (splice cur (i*1) [])->Row w g 3 cur:=by rw[aT,e1];exact id
 have k1:(0:Int)<=(i:Int):=by omega
 have k2:(i:Int)<=(cap:Int):=by omega
 have k3:(0:Int)<=(i:Int)+1:=by omega
 have k4:(i:Int)+1<=(cap:Int):=by omega
 have k5:((i:Int)+1).toNat=i+1:=by omega
 have k6:i+1 - i=1:=by omega
 have k7:¬cap=i:=by omega
 have Hl:=af hll;clear hll hl hx
 have E1:=af e1;clear e1 hr0
 go_enter Ql,Lx
 go_wp2_with (first
  |(refine dh rfl ?_;intro K hK;(refine zL (.tmp 32) (.tmp 33) 171 171 rfl 3 1 8 _ aZ gU g i cap _ cur rfl hr (.slice vo 0 vc) 0 [] rfl hsrc ?_ ?_ ?_);(focus omega);(focus (have:=Hl.out;simp only[bI];omega));intro w1 hr1 hk1;refine hK _ _ ?_)
  |(refine dh rfl ?_;intro K hK;(refine mJ (.tmp 43) 171 rfl 3 1 8 _ aZ gU rfl g i 3 1 _ (some ⟨g,i,none⟩) _ rfl hr1 (fun _=>rfl) ?_ ?_ ?_);(focus (simp only[aT,E1.out,Hl.out];omega));(focus (exact kU _ _ (by simp[Value.cells,Value.oneCell']) (by simp[Value.cells])));intro w2 zs hz hr2 hk2;refine hK _ _ ?_))
 all_goals
  go_ret
  rw[aT,E1.out] at hr2
  have hlz:(splice cur i zs).length=cap:=by rw[dV _ _ _ (by have:=Hl.out;omega)];exact Hl.out
  have:=Row.own (k:=1) hr2 i (by omega) hBg hSg (by omega) hc2
  rw[aT,lu _ _ _ _ (ax _) (by have:=Hl.out;omega),hx'] at this
  exact⟨_,rfl,this,hk1.trans hk2 (fun _ _ h=>h)⟩
theorem Ar (g cap n i:Nat)(xs:List Value)(vv:Value)(m:Nat)(news:List Value)(w:World)(S:Nat->Prop)(B:Nat)(h:aP w S B 3 1 (.slice (some ⟨g,0,none⟩) n cap) n xs)(hx1:∀u∈xs,u.oneCell'=true)(hv:aP w S B 3 1 vv m news)(hvg:vv.ownBlock≠some g)(hone:∀u∈news,u.oneCell'=true)(hn:n<=1000000)(hi:i+1<n)(hm:m<=1)(N:Nat)(L:List Value)(hN:N=n - 1+m)(hL:L=xs.take i++news++xs.drop (i+1)):
  Calls Tryz.prog 257 #[.slice (some ⟨g,0,none⟩) n cap,.int .i64 i,.int .i64 ((i:Int)+1),vv] w fun e w'=>∃v',e= .returned v'/\aP w' S B 3 1 v' N L/\Keep (· =g) w w':=by
 obtain⟨cur,hr,hl,hx,hBg,hSg,hc,hc2⟩:=h.row
 have hc3:cap<=9223372036854775807:=by simpa [maxLen] using hc2
 have hnl:news.length=m:=by have:=hv.1.1;omega
 have hll:cur.length=cap:=by omega
 have hx':cur.take n=xs:=by rw[<-hx,aT]
 obtain⟨vo,vc,rfl,v1,v2,v3,v4⟩:=hv.cZ.form
 have hvs:=hv.cZ
 clear h hv hl hx
 obtain⟨d,rfl⟩:∃d,n=i+1+(d+1):=⟨n - (i+2),by omega⟩
 have HN:=af hN;clear hN
 have HL:=af hL;clear hL
 have k1:(0:Int)<=(i:Int):=by omega
 have k2:(i:Int)<=(cap:Int):=by omega
 have k3:(0:Int)<=(i:Int)+1:=by omega
 have k4:(i:Int)+1<=(cap:Int):=by omega
 have k5:((i:Int)+1).toNat=i+1:=by omega
 have Hl:=af hll;clear hll
 have Hx:=af hx';clear hx'
 have Hn:=af hnl;clear hnl
 go_enter Ql,Lx
 have k6:¬cap=i+1:=by omega
 have k7:(i:Int)+1<=(i:Int)+1+((d:Int)+1):=by omega
 have k8:IntKind.i64.wrap ((i:Int)+(m:Int))=(i:Int)+(m:Int):=aM _ (by omega)
 have k9:i+1+(d+1) - (i+1)=d+1:=by omega
 have k10:IntKind.i64.wrap ((i:Int)+(m:Int)+((d:Int)+1))=(i:Int)+(m:Int)+((d:Int)+1):=aM _ (by omega)
 have k11:¬((cap:Int)<(i:Int)+(m:Int)+((d:Int)+1)):=by omega
 have k12:((i:Int)+(m:Int)+((d:Int)+1)).toNat=i+m+(d+1):=by omega
 have k13:(0:Int)<=(i:Int)+(m:Int)+((d:Int)+1):=by omega
 have k14:(i:Int)+(m:Int)+((d:Int)+1)<=cap:=by omega
 have k15:(i:Int)+(m:Int)<=(i:Int)+1:=by omega
 have k16:(i:Int)<=(i:Int)+(m:Int)+((d:Int)+1):=by omega
 have k17:¬cap=i:=by omega
 go_wp2_with fail
 refine aN (fun _=>True) (fun _=>true) [0,1,2,3,4,5,6,7,8,9,10,11,12] rfl (by kernel_rfl) trivial ?_
 repeat ((refine bL (v:= ?_) rfl rfl (fun _ _ _ h=>h) rfl (fun W hW=> ?_) ?_);rotate_left;(focus ((try dsimp only at hW);skip;first|(go_simp;first|done|with_reducible rfl)));(try simp only[Act.put,ai,au,aj]))
 refine bO ?_
 have hD:(xs.drop (i+1)).length=d+1:=by rw[aJ,<-Hx.out,aC,Hl.out];omega
 have hT:cur.take i=xs.take i:=by rw[<-Hx.out,bZ,bq (by omega)]
 obtain⟨hF1,hF2⟩:=zO cur news (xs.drop (i+1)) i (by rw[Hn.out,hD,Hl.out];omega)
 rw[Hn.out,hD,hT] at hF2
 rw[Hn.out] at hF1
 have hcs1:(Builtin.firstCells 1 m (.slice vo m vc)).run Tryz.prog w.drew= .ok news.toArray w.drew:=by
  have h1:=bn.first (P:=Tryz.prog) (w:=w.drew) (hvs.keep fun _ _ _ h=>⟨rfl,h⟩) m (ax _)
  rwa [aG (by rw[Hn.out];omega)] at h1
 have hcs2:∀W,Row W g 3 (splice cur i news)->(Builtin.firstCells 1 (d+1) (.slice (some ⟨g,i+1,none⟩) (d+1) (cap - (i+1)))).run Tryz.prog W= .ok (xs.drop (i+1)).toArray W:=by
  intro W hW
  have h1:=(Row.cZ (S:=gJ) (k:=1) (off:=i+1) hW (d+1) (cap - (i+1)) (by rw[dV _ _ _ (by rw[Hn.out,Hl.out];omega),Hl.out];omega) id (by omega) (by unfold maxLen;omega)).first (P:=Tryz.prog) (d+1) (ax _)
  rw[bZ,gN,pQ _ _ _ _ (by rw[Hn.out];omega) (by rw[Hl.out];omega),aT] at h1
  rwa [show (cur.drop (i+1)).take (d+1)=xs.drop (i+1) by rw[<-Hx.out,iC];congr 1;omega] at h1
 have HD:=af hD;clear hD
 have HT:=af hT;clear hT
 have HF1:=af hF1;clear hF1
 have HF2:=af hF2;clear hF2
 have Hc1:=af hcs1;clear hcs1
 have Hc2:=af hcs2;clear hcs2
 have k18:¬cap=i+m:=by omega
 have k19:i+m+(d+1) - (i+m)=d+1:=by omega
 have k20:(0:Int)<=(i:Int)+(m:Int):=by omega
 have k21:(i:Int)+(m:Int)<=(i:Int)+(m:Int)+((d:Int)+1):=by omega
 have k22:((i:Int)+(m:Int)).toNat=i+m:=by omega
 have k23:(i:Int)+(m:Int)+((d:Int)+1)<=(i:Int)+1+((d:Int)+1):=by omega
 go_wp2_with (first
  |((refine dh rfl ?_);intro K hK;(refine fO (.tmp 95) (.tmp 96) 171 171 rfl 3 1 8 _ aZ gU g i 3 m (i+m+(d+1) - i) (cap - i) (some ⟨g,i,none⟩) cur rfl hr (.slice vo m vc) rfl m news rfl ?_ ?_ Hc1.out (fun _=>rfl) ?_ hone ?_);(focus (exact(bq (by omega)).symm));(focus (rw[Hn.out,aT]));(focus (rw[Hn.out,Hl.out];omega));intro w1 hr1 hk1;refine hK _ _ (Stop.of ?_)))
 refine Stop.on ?_
 go_wp2_with fail
 refine aN (fun _=>True) (fun i=> !([9].contains i)) [0,1,2,3,4,5,6,7,8,9] rfl (by kernel_rfl) trivial ?_
 repeat ((refine bL (v:= ?_) rfl rfl (fun _ _ _ h=>h) rfl (fun W hW=> ?_) ?_);rotate_left;(focus ((try dsimp only at hW);skip;first|(go_simp;first|done|with_reducible rfl)));(try simp only[Act.put,ai,au,aj]))
 refine jf rfl rfl rfl (by kernel_rfl) ?_
 intro K hK
 refine fO (.tmp 103) (.tmp 106) 171 171 rfl 3 1 8 _ aZ gU g (i+m) 3 (d+1) (d+1) (cap - (i+m)) (some ⟨g,i+m,none⟩) _ rfl (w:=w1.drew) hr1 (.slice (some ⟨g,i+1,none⟩) (d+1) (cap - (i+1))) rfl (d+1) (xs.drop (i+1)) rfl (gN _).symm (by rw[HD.out,aT]) (Hc2.out _ hr1) (fun _=>rfl) ?_ (fun u hu=>hx1 u (bU hu)) ?_
 ·rw[dV _ _ _ (by rw[Hn.out,Hl.out];omega),HD.out,Hl.out];omega
 intro w2 hr2 hk2
 refine hK.out _ _ (bO ?_)
 go_wp2_with (first
  |((refine dh rfl ?_);intro K hK;(refine mJ (.tmp 110) 171 rfl 3 1 8 _ aZ gU rfl g (i+m+(d+1)) 3 _ _ _ _ rfl hr2 ?_ ?_ ?_ ?_);(focus (intro h0;first|rfl|(exfalso;omega)|(rw[if_neg (by omega)])));(focus (rw[HF1.out,Hl.out];omega));(focus (exact kU _ _ (by simp[Value.cells,Value.oneCell']) (by simp[Value.cells])));intro w3 zs hz hr3 hk3;refine hK _ _ ?_))
 all_goals
  go_ret
  have hown:=Row.own (k:=1) hr3 (i+m+(d+1)) (by rw[dV _ _ _ (by rw[HF1.out,Hl.out,hz];omega),HF1.out,Hl.out,aT]) hBg hSg (by omega) hc2
  rw[aT,lu _ _ _ _ (ax _) (by rw[HF1.out,Hl.out];omega),HF2.out] at hown
  refine⟨_,rfl,?_,((((Keep.refl (· =g) w).drew.trans hk1 (fun _ _ h=>h)).drew).trans hk2 (fun _ _ h=>h)).trans hk3 (fun _ _ h=>h)⟩
  rw[HL.out,show N=i+m+(d+1) by rw[HN.out];omega]
  first|exact hown|(rw[‹cap=i+m+(d+1)›] at hown;exact hown)
theorem Am (g cap n i:Nat)(xs:List Value)(vb vc m:Nat)(news:List Value)(w:World)(S:Nat->Prop)(B:Nat)(h:aP w S B 9 1 (.slice (some ⟨g,0,none⟩) n cap) n xs)(hx1:∀u∈xs,u.oneCell'=true)(hv:aP w S B 9 1 (.slice (some ⟨vb,0,none⟩) m vc) m news)(hvg:vb≠g)(hone:∀u∈news,u.oneCell'=true)(hn:n<=1000000)(hmm:m<=1000000)(hi:i+1<n)(hm:2<=m)(hroom:n - 1+m<=cap)(N:Nat)(L:List Value)(hN:N=n - 1+m)(hL:L=xs.take i++news++xs.drop (i+1)):
  Calls Tryz.prog 256 #[.slice (some ⟨g,0,none⟩) n cap,.int .i64 i,.int .i64 ((i:Int)+1),.slice (some ⟨vb,0,none⟩) m vc] w fun e w'=>∃v',e= .returned v'/\aP w' S B 9 1 v' N L/\Keep (· =g) w w':=by
 obtain⟨cur,hr,hl,hx,hBg,hSg,hc,hc2⟩:=h.row
 obtain⟨curv,hrv,hlv,_,_,_,hcv,hcv2⟩:=hv.row
 have hc3:cap<=9223372036854775807:=by simpa [maxLen] using hc2
 have hcv3:vc<=9223372036854775807:=by simpa [maxLen] using hcv2
 have hnl:news.length=m:=by have:=hv.1.1;omega
 have hll:cur.length=cap:=by omega
 have hllv:curv.length=vc:=by omega
 have hx':cur.take n=xs:=by rw[<-hx,aT]
 have hvs:=hv.cZ
 clear h hv hl hx hlv
 obtain⟨d,rfl⟩:∃d,n=i+1+(d+1):=⟨n - (i+2),by omega⟩
 have hov:(callFunc 292 #[.slice (some ⟨g,i+m,none⟩) (d+1) (cap - (i+m)),.slice (some ⟨vb,0,none⟩) m vc]).run Tryz.prog w.drew= .ok (.value (.bool false)) w.drew:=by
  rw[qF Tryz.func292 (by kernel_rfl) (by kernel_rfl) (by kernel_rfl) (e:=Extern.SlicesOverlaps.overlaps #[22,22] #[4]) (by kernel_rfl)]
  rw[Lib.run_overlaps_apart w.drew 22 4 9 aW 1 (fun w=>by kernel_rfl) ⟨g,i+m,none⟩ ⟨vb,0,none⟩ (d+1) (cap - (i+m)) m vc (Ne.symm hvg) 9 9 cap vc
   (by have hr':w.drew.heap[g]? =_:=hr;simp[World.shape?,hr',hll]) (by have hr':w.drew.heap[vb]? =_:=hrv;simp[World.shape?,hr',hllv]) (by omega) (hr.frozen _) (hr.frozen _)]
  rfl
 have HN:=af hN;clear hN
 have HL:=af hL;clear hL
 have k1:(0:Int)<=(i:Int):=by omega
 have k2:(i:Int)<=(cap:Int):=by omega
 have k3:(0:Int)<=(i:Int)+1:=by omega
 have k4:(i:Int)+1<=(cap:Int):=by omega
 have k5:((i:Int)+1).toNat=i+1:=by omega
 have Hl:=af hll;clear hll
 have Hx:=af hx';clear hx'
 have Hn:=af hnl;clear hnl
 have k6:¬cap=i+1:=by omega
 have k7:(i:Int)+1<=(i:Int)+1+((d:Int)+1):=by omega
 have k8:IntKind.i64.wrap ((i:Int)+(m:Int))=(i:Int)+(m:Int):=aM _ (by omega)
 have k9:i+1+(d+1) - (i+1)=d+1:=by omega
 have k10:IntKind.i64.wrap ((i:Int)+(m:Int)+((d:Int)+1))=(i:Int)+(m:Int)+((d:Int)+1):=aM _ (by omega)
 have k11:¬((cap:Int)<(i:Int)+(m:Int)+((d:Int)+1)):=by omega
 have k12:((i:Int)+(m:Int)+((d:Int)+1)).toNat=i+m+(d+1):=by omega
 have k13:(0:Int)<=(i:Int)+(m:Int)+((d:Int)+1):=by omega
 have k14:(i:Int)+(m:Int)+((d:Int)+1)<=cap:=by omega
 have k15:¬((i:Int)+(m:Int)<=(i:Int)+1):=by omega
 have k16:(i:Int)<=(i:Int)+(m:Int)+((d:Int)+1):=by omega
 have k17:¬cap=i:=by omega
 have hD:(xs.drop (i+1)).length=d+1:=by rw[aJ,<-Hx.out,aC,Hl.out];omega
 have hT:cur.take i=xs.take i:=by rw[<-Hx.out,bZ,bq (by omega)]
 obtain⟨hF1,hF2⟩:=Jj cur news (xs.drop (i+1)) i (by rw[Hn.out,hD,Hl.out];omega)
 rw[Hn.out,hD,hT] at hF2
 rw[Hn.out] at hF1
 have hcs1:∀W,Keep (· =g) w W->(Builtin.firstCells 1 m (.slice (some ⟨vb,0,none⟩) m vc)).run Tryz.prog W= .ok news.toArray W:=by
  intro W hW
  have h1:=bn.first (P:=Tryz.prog) (w:=W) (hvs.keep fun g' hg hl hs=>⟨hW.block g' hl (fun e=>hvg (by cases hg;exact e)),hs⟩) m (ax _)
  rwa [aG (by rw[Hn.out];omega)] at h1
 have hcs2:(Builtin.firstCells 1 (d+1) (.slice (some ⟨g,i+1,none⟩) (d+1) (cap - (i+1)))).run Tryz.prog w.drew.drew= .ok (xs.drop (i+1)).toArray w.drew.drew:=by
  have h1:=(Row.cZ (w:=w.drew.drew) (S:=gJ) (k:=1) (off:=i+1) hr (d+1) (cap - (i+1)) (by rw[Hl.out];omega) id (by omega) (by unfold maxLen;omega)).first (P:=Tryz.prog) (d+1) (ax _)
  rw[bZ,gN,aT] at h1
  rwa [show (cur.drop (i+1)).take (d+1)=xs.drop (i+1) by rw[<-Hx.out,iC];congr 1;omega] at h1
 have HD:=af hD;clear hD
 have HT:=af hT;clear hT
 have HF1:=af hF1;clear hF1
 have HF2:=af hF2;clear hF2
 have Hc1:=af hcs1;clear hcs1
 have Hc2:=af hcs2;clear hcs2
 have k18:¬cap=i+m:=by omega
 have k19:i+m+(d+1) - (i+m)=d+1:=by omega
 have k20:(0:Int)<=(i:Int)+(m:Int):=by omega
 have k21:(i:Int)+(m:Int)<=(i:Int)+(m:Int)+((d:Int)+1):=by omega
 have k22:((i:Int)+(m:Int)).toNat=i+m:=by omega
 go_enter Qm,LA
 go_wp2_with fail
 refine aN (fun _=>True) (fun _=>true) [0,1,2,3,4,5,6,7,8,9,10,11,12] rfl (by kernel_rfl) trivial ?_
 repeat ((refine bL (v:= ?_) rfl rfl (fun _ _ _ h=>h) rfl (fun W hW=> ?_) ?_);rotate_left;(focus ((try dsimp only at hW);skip;first|(go_simp;first|done|with_reducible rfl)));(try simp only[Act.put,ai,au,aj]))
 refine bO ?_
 go_wp2_with fail
 refine aN (fun _=>True) (fun i=> !([9].contains i)) [0,1,2,3,4,5,6,7,8,9] rfl (by kernel_rfl) trivial ?_
 repeat ((refine bL (v:= ?_) rfl rfl (fun _ _ _ h=>h) rfl (fun W hW=> ?_) ?_);rotate_left;(focus ((try dsimp only at hW);skip;first|(go_simp;first|done|with_reducible rfl)));(try simp only[Act.put,ai,au,aj]))
 refine jf rfl rfl rfl (by kernel_rfl) ?_
 intro K hK
 refine fO (.tmp 126) (.tmp 129) 22 22 rfl 9 1 16 _ aW gu g (i+m) 9 (d+1) (d+1) (cap - (i+m)) (some ⟨g,i+m,none⟩) _ rfl (w:=w.drew.drew) hr (.slice (some ⟨g,i+1,none⟩) (d+1) (cap - (i+1))) rfl (d+1) (xs.drop (i+1)) rfl (gN _).symm (by rw[HD.out,aT]) Hc2.out (fun _=>rfl) ?_ (fun u hu=>hx1 u (bU hu)) ?_
 ·rw[HD.out,Hl.out];omega
 intro w2 hr2 hk2
 refine hK.out _ _ (bO ?_)
 have hkk:Keep (· =g) w w2:=(Keep.refl (· =g) w).drew.drew.trans hk2 (fun _ _ h=>h)
 go_wp2_with (first
  |((refine dh rfl ?_);intro K hK;(refine fO (.tmp 133) (.tmp 134) 22 22 rfl 9 1 16 _ aW gu g i 9 m (i+m+(d+1) - i) (cap - i) (some ⟨g,i,none⟩) _ rfl hr2 (.slice (some ⟨vb,0,none⟩) m vc) rfl m news rfl ?_ ?_ (Hc1.out _ hkk) (fun _=>rfl) ?_ hone ?_);(focus (exact(bq (by omega)).symm));(focus (rw[Hn.out,aT]));(focus (rw[dV _ _ _ (by rw[HD.out,Hl.out];omega),Hn.out,Hl.out];omega));intro w3 hr3 hk3;refine hK _ _ ?_))
 go_ret
 have hown:=Row.own (k:=1) hr3 (i+m+(d+1)) (by rw[HF1.out,Hl.out,aT]) hBg hSg (by omega) hc2
 rw[aT,HF2.out] at hown
 refine⟨_,rfl,?_,hkk.trans hk3 (fun _ _ h=>h)⟩
 rw[HL.out,show N=i+m+(d+1) by rw[HN.out];omega]
 exact hown
theorem Aq (g cap n i:Nat)(xs:List Value)(vb vc m:Nat)(news:List Value)(w:World)(S:Nat->Prop)(B:Nat)(h:aP w S B 3 1 (.slice (some ⟨g,0,none⟩) n cap) n xs)(hx1:∀u∈xs,u.oneCell'=true)(hv:aP w S B 3 1 (.slice (some ⟨vb,0,none⟩) m vc) m news)(hvg:vb≠g)(hone:∀u∈news,u.oneCell'=true)(hn:n<=1000000)(hmm:m<=1000000)(hi:i+1<n)(hm:2<=m)(hroom:n - 1+m<=cap)(N:Nat)(L:List Value)(hN:N=n - 1+m)(hL:L=xs.take i++news++xs.drop (i+1)):
  Calls Tryz.prog 257 #[.slice (some ⟨g,0,none⟩) n cap,.int .i64 i,.int .i64 ((i:Int)+1),.slice (some ⟨vb,0,none⟩) m vc] w fun e w'=>∃v',e= .returned v'/\aP w' S B 3 1 v' N L/\Keep (· =g) w w':=by
 obtain⟨cur,hr,hl,hx,hBg,hSg,hc,hc2⟩:=h.row
 obtain⟨curv,hrv,hlv,_,_,_,hcv,hcv2⟩:=hv.row
 have hc3:cap<=9223372036854775807:=by simpa [maxLen] using hc2
 have hcv3:vc<=9223372036854775807:=by simpa [maxLen] using hcv2
 have hnl:news.length=m:=by have:=hv.1.1;omega
 have hll:cur.length=cap:=by omega
 have hllv:curv.length=vc:=by omega
 have hx':cur.take n=xs:=by rw[<-hx,aT]
 have hvs:=hv.cZ
 clear h hv hl hx hlv
 obtain⟨d,rfl⟩:∃d,n=i+1+(d+1):=⟨n - (i+2),by omega⟩
 have hov:(callFunc 296 #[.slice (some ⟨g,i+m,none⟩) (d+1) (cap - (i+m)),.slice (some ⟨vb,0,none⟩) m vc]).run Tryz.prog w.drew= .ok (.value (.bool false)) w.drew:=by
  rw[qF Tryz.func296 (by kernel_rfl) (by kernel_rfl) (by kernel_rfl) (e:=Extern.SlicesOverlaps.overlaps #[171,171] #[4]) (by kernel_rfl)]
  rw[Lib.run_overlaps_apart w.drew 171 4 3 aZ 1 (fun w=>by kernel_rfl) ⟨g,i+m,none⟩ ⟨vb,0,none⟩ (d+1) (cap - (i+m)) m vc (Ne.symm hvg) 3 3 cap vc
   (by have hr':w.drew.heap[g]? =_:=hr;simp[World.shape?,hr',hll]) (by have hr':w.drew.heap[vb]? =_:=hrv;simp[World.shape?,hr',hllv]) (by omega) (hr.frozen _) (hr.frozen _)]
  rfl
 have HN:=af hN;clear hN
 have HL:=af hL;clear hL
 have k1:(0:Int)<=(i:Int):=by omega
 have k2:(i:Int)<=(cap:Int):=by omega
 have k3:(0:Int)<=(i:Int)+1:=by omega
 have k4:(i:Int)+1<=(cap:Int):=by omega
 have k5:((i:Int)+1).toNat=i+1:=by omega
 have Hl:=af hll;clear hll
 have Hx:=af hx';clear hx'
 have Hn:=af hnl;clear hnl
 have k6:¬cap=i+1:=by omega
 have k7:(i:Int)+1<=(i:Int)+1+((d:Int)+1):=by omega
 have k8:IntKind.i64.wrap ((i:Int)+(m:Int))=(i:Int)+(m:Int):=aM _ (by omega)
 have k9:i+1+(d+1) - (i+1)=d+1:=by omega
 have k10:IntKind.i64.wrap ((i:Int)+(m:Int)+((d:Int)+1))=(i:Int)+(m:Int)+((d:Int)+1):=aM _ (by omega)
 have k11:¬((cap:Int)<(i:Int)+(m:Int)+((d:Int)+1)):=by omega
 have k12:((i:Int)+(m:Int)+((d:Int)+1)).toNat=i+m+(d+1):=by omega
 have k13:(0:Int)<=(i:Int)+(m:Int)+((d:Int)+1):=by omega
 have k14:(i:Int)+(m:Int)+((d:Int)+1)<=cap:=by omega
 have k15:¬((i:Int)+(m:Int)<=(i:Int)+1):=by omega
 have k16:(i:Int)<=(i:Int)+(m:Int)+((d:Int)+1):=by omega
 have k17:¬cap=i:=by omega
 have hD:(xs.drop (i+1)).length=d+1:=by rw[aJ,<-Hx.out,aC,Hl.out];omega
 have hT:cur.take i=xs.take i:=by rw[<-Hx.out,bZ,bq (by omega)]
 obtain⟨hF1,hF2⟩:=Jj cur news (xs.drop (i+1)) i (by rw[Hn.out,hD,Hl.out];omega)
 rw[Hn.out,hD,hT] at hF2
 rw[Hn.out] at hF1
 have hcs1:∀W,Keep (· =g) w W->(Builtin.firstCells 1 m (.slice (some ⟨vb,0,none⟩) m vc)).run Tryz.prog W= .ok news.toArray W:=by
  intro W hW
  have h1:=bn.first (P:=Tryz.prog) (w:=W) (hvs.keep fun g' hg hl hs=>⟨hW.block g' hl (fun e=>hvg (by cases hg;exact e)),hs⟩) m (ax _)
  rwa [aG (by rw[Hn.out];omega)] at h1
 have hcs2:(Builtin.firstCells 1 (d+1) (.slice (some ⟨g,i+1,none⟩) (d+1) (cap - (i+1)))).run Tryz.prog w.drew.drew= .ok (xs.drop (i+1)).toArray w.drew.drew:=by
  have h1:=(Row.cZ (w:=w.drew.drew) (S:=gJ) (k:=1) (off:=i+1) hr (d+1) (cap - (i+1)) (by rw[Hl.out];omega) id (by omega) (by unfold maxLen;omega)).first (P:=Tryz.prog) (d+1) (ax _)
  rw[bZ,gN,aT] at h1
  rwa [show (cur.drop (i+1)).take (d+1)=xs.drop (i+1) by rw[<-Hx.out,iC];congr 1;omega] at h1
 have HD:=af hD;clear hD
 have HT:=af hT;clear hT
 have HF1:=af hF1;clear hF1
 have HF2:=af hF2;clear hF2
 have Hc1:=af hcs1;clear hcs1
 have Hc2:=af hcs2;clear hcs2
 have k18:¬cap=i+m:=by omega
 have k19:i+m+(d+1) - (i+m)=d+1:=by omega
 have k20:(0:Int)<=(i:Int)+(m:Int):=by omega
 have k21:(i:Int)+(m:Int)<=(i:Int)+(m:Int)+((d:Int)+1):=by omega
 have k22:((i:Int)+(m:Int)).toNat=i+m:=by omega
 go_enter Ql,Lx
 go_wp2_with fail
 refine aN (fun _=>True) (fun _=>true) [0,1,2,3,4,5,6,7,8,9,10,11,12] rfl (by kernel_rfl) trivial ?_
 repeat ((refine bL (v:= ?_) rfl rfl (fun _ _ _ h=>h) rfl (fun W hW=> ?_) ?_);rotate_left;(focus ((try dsimp only at hW);skip;first|(go_simp;first|done|with_reducible rfl)));(try simp only[Act.put,ai,au,aj]))
 refine bO ?_
 go_wp2_with fail
 refine aN (fun _=>True) (fun i=> !([9].contains i)) [0,1,2,3,4,5,6,7,8,9] rfl (by kernel_rfl) trivial ?_
 repeat ((refine bL (v:= ?_) rfl rfl (fun _ _ _ h=>h) rfl (fun W hW=> ?_) ?_);rotate_left;(focus ((try dsimp only at hW);skip;first|(go_simp;first|done|with_reducible rfl)));(try simp only[Act.put,ai,au,aj]))
 refine jf rfl rfl rfl (by kernel_rfl) ?_
 intro K hK
 refine fO (.tmp 126) (.tmp 129) 171 171 rfl 3 1 8 _ aZ gU g (i+m) 3 (d+1) (d+1) (cap - (i+m)) (some ⟨g,i+m,none⟩) _ rfl (w:=w.drew.drew) hr (.slice (some ⟨g,i+1,none⟩) (d+1) (cap - (i+1))) rfl (d+1) (xs.drop (i+1)) rfl (gN _).symm (by rw[HD.out,aT]) Hc2.out (fun _=>rfl) ?_ (fun u hu=>hx1 u (bU hu)) ?_
 ·rw[HD.out,Hl.out];omega
 intro w2 hr2 hk2
 refine hK.out _ _ (bO ?_)
 have hkk:Keep (· =g) w w2:=(Keep.refl (· =g) w).drew.drew.trans hk2 (fun _ _ h=>h)
 go_wp2_with (first
  |((refine dh rfl ?_);intro K hK;(refine fO (.tmp 133) (.tmp 134) 171 171 rfl 3 1 8 _ aZ gU g i 3 m (i+m+(d+1) - i) (cap - i) (some ⟨g,i,none⟩) _ rfl hr2 (.slice (some ⟨vb,0,none⟩) m vc) rfl m news rfl ?_ ?_ (Hc1.out _ hkk) (fun _=>rfl) ?_ hone ?_);(focus (exact(bq (by omega)).symm));(focus (rw[Hn.out,aT]));(focus (rw[dV _ _ _ (by rw[HD.out,Hl.out];omega),Hn.out,Hl.out];omega));intro w3 hr3 hk3;refine hK _ _ ?_))
 go_ret
 have hown:=Row.own (k:=1) hr3 (i+m+(d+1)) (by rw[HF1.out,Hl.out,aT]) hBg hSg (by omega) hc2
 rw[aT,HF2.out] at hown
 refine⟨_,rfl,?_,hkk.trans hk3 (fun _ _ h=>h)⟩
 rw[HL.out,show N=i+m+(d+1) by rw[HN.out];omega]
 exact hown
theorem Ap (g cap n i:Nat)(xs:List Value)(vb vc m:Nat)(news:List Value)(w:World)(S:Nat->Prop)(B:Nat)(hS:∀g,S g->g<w.heap.size)(hB:B<=w.heap.size)(h:aP w S B 9 1 (.slice (some ⟨g,0,none⟩) n cap) n xs)(hx1:∀u∈xs,u.oneCell'=true)(hv:aP w S B 9 1 (.slice (some ⟨vb,0,none⟩) m vc) m news)(hone:∀u∈news,u.oneCell'=true)(hn:n<=1000000)(hmm:m<=1000000)(hi:i+1<n)(hroom:cap<n - 1+m)(N:Nat)(L:List Value)(hN:N=n - 1+m)(hL:L=xs.take i++news++xs.drop (i+1)):
  Calls Tryz.prog 256 #[.slice (some ⟨g,0,none⟩) n cap,.int .i64 i,.int .i64 ((i:Int)+1),.slice (some ⟨vb,0,none⟩) m vc] w fun e w'=>∃v',e= .returned v'/\aP w' S B 9 1 v' N L/\Keep gJ w w':=by
 obtain⟨cur,hr,hl,hx,hBg,hSg,hc,hc2⟩:=h.row
 have hc3:cap<=9223372036854775807:=by simpa [maxLen] using hc2
 have hnl:news.length=m:=by have:=hv.1.1;omega
 have hll:cur.length=cap:=by omega
 have hx':cur.take n=xs:=by rw[<-hx,aT]
 have hvs:=hv.cZ
 obtain⟨vo,vc',e0,v1,v2,_,_⟩:=hv.cZ.form
 cases e0
 clear h hv hl hx
 obtain⟨d,rfl⟩:∃d,n=i+1+(d+1):=⟨n - (i+2),by omega⟩
 have HN:=af hN;clear hN
 have HL:=af hL;clear hL
 have k1:(0:Int)<=(i:Int):=by omega
 have k2:(i:Int)<=(cap:Int):=by omega
 have k3:(0:Int)<=(i:Int)+1:=by omega
 have k4:(i:Int)+1<=(cap:Int):=by omega
 have k5:((i:Int)+1).toNat=i+1:=by omega
 have Hl:=af hll;clear hll
 have Hx:=af hx';clear hx'
 have Hn:=af hnl;clear hnl
 have k6:¬cap=i+1:=by omega
 have k7:(i:Int)+1<=(i:Int)+1+((d:Int)+1):=by omega
 have k8:IntKind.i64.wrap ((i:Int)+(m:Int))=(i:Int)+(m:Int):=aM _ (by omega)
 have k9:i+1+(d+1) - (i+1)=d+1:=by omega
 have k10:IntKind.i64.wrap ((i:Int)+(m:Int)+((d:Int)+1))=(i:Int)+(m:Int)+((d:Int)+1):=aM _ (by omega)
 have k11:(cap:Int)<(i:Int)+(m:Int)+((d:Int)+1):=by omega
 have k17:¬cap=i:=by omega
 have k18:(i:Int)+(m:Int)+((d:Int)+1) - (i:Int)=((m+(d+1):Nat):Int):=by omega
 have k19:i+(m+(d+1))=i+m+(d+1):=by omega
 have k20:(0:Int)<=(i:Int)+(m:Int):=by omega
 have k22:((i:Int)+(m:Int)).toNat=i+m:=by omega
 have hD:(xs.drop (i+1)).length=d+1:=by rw[aJ,<-Hx.out,aC,Hl.out];omega
 have hT:cur.take i=xs.take i:=by rw[<-Hx.out,bZ,bq (by omega)]
 have hgl:g<w.heap.size:=hr.lt
 have HD:=af hD;clear hD
 have HT:=af hT;clear hT
 go_enter Qm,LA
 go_wp2_with fail
 refine aN (fun _=>True) (fun _=>true) [0,1,2,3,4,5,6,7,8,9,10,11,12] rfl (by kernel_rfl) trivial ?_
 repeat ((refine bL (v:= ?_) rfl rfl (fun _ _ _ h=>h) rfl (fun W hW=> ?_) ?_);rotate_left;(focus ((try dsimp only at hW);skip;first|(go_simp;first|done|with_reducible rfl)));(try simp only[Act.put,ai,au,aj]))
 refine bO ?_
 go_wp2_with (first|(at_builtin;(refine dh rfl ?_);intro K hK;go_must ((refine qW (w:=w.drew) (.tmp 63) (.tmp 66) 22 3 rfl 9 1 16 _ aW gq gu rfl (by omega) g i cap (m+(d+1)) cur rfl ?_ hr ?_ ?_ ?_ ?_ ?_ ?_);(focus (first|rfl|(show Value.int _ _=_;congr 1;first|done|omega)));(focus (rw[Hl.out];omega));(focus omega);(focus omega);(focus (unfold maxLen;omega));(focus omega);intro c1 w1 rest hr1 hl1 hc1 hc1' hk1;refine hK _ _ (Stop.of ?_))))
 have hr1:Row w1 w.heap.size 9 (cur.take i++rest):=by rw[aT] at hr1;exact hr1
 have hl1:(cur.take i++rest).length=c1:=by rw[aT,aT] at hl1;exact hl1
 have hk1:Keep gJ w w1:=(Keep.refl gJ w).drew.trans hk1 (fun _ _ h=>h)
 have k12:¬c1=i:=by omega
 have k14:¬c1=i+m:=by omega
 have k15:(i:Int)<=(c1:Int):=by omega
 have k16:(i:Int)+(m:Int)<=(i:Int)+(m:Int)+((d:Int)+1):=by omega
 have hc1'':c1<=9223372036854775807:=by simpa [maxLen] using hc1'
 have hci:(cur.take i).length=i:=by rw[aC,Hl.out];omega
 obtain⟨hF1,hF2⟩:=zO (cur.take i++rest) news (xs.drop (i+1)) i (by rw[Hn.out,HD.out,hl1];omega)
 rw[Hn.out,HD.out,List.take_left' hci] at hF2
 rw[Hn.out] at hF1
 have hcs1:(Builtin.firstCells 1 m (.slice (some ⟨vb,0,none⟩) m vc)).run Tryz.prog w1= .ok news.toArray w1:=by
  have h1:=bn.first (P:=Tryz.prog) (w:=w1) (hvs.keep fun g' hg hl hs=>⟨hk1.block g' hl id,hs⟩) m (ax _)
  rwa [aG (by rw[Hn.out];omega)] at h1
 have Hl1:=af hl1;clear hl1
 have HF1:=af hF1;clear hF1
 have HF2:=af hF2;clear hF2
 have Hc1:=af hcs1;clear hcs1
 have Hci:=af hci;clear hci
 refine Stop.on ?_
 go_wp2_with (first|((refine dh rfl ?_);intro K hK;(refine fO (.tmp 70) (.tmp 71) 22 22 rfl 9 1 16 _ aW gu w.heap.size i 9 m (i+m+(d+1) - i) (c1 - i) (some ⟨w.heap.size,i,none⟩) _ ?_ hr1 (.slice (some ⟨vb,0,none⟩) m vc) rfl m news rfl ?_ ?_ Hc1.out (fun _=>rfl) ?_ hone ?_);go_must ((focus (first|rfl|(show Value.slice _ _ _=_;congr 1;omega)));(focus (exact(bq (by omega)).symm));(focus (rw[Hn.out,aT]));(focus (rw[Hl1.out,Hn.out];omega));intro w2 hr2 hk2;refine hK _ _ (Stop.of ?_))))
 have hkk:Keep gJ w w2:=hk1.trans hk2 (fun _ hl e=>absurd hl (by omega))
 have hg2:Row w2 g 9 cur:=hr.keep hkk id
 have hcs:(Builtin.firstCells 1 (d+1) (.slice (some ⟨g,i+1,none⟩) (d+1) (cap - (i+1)))).run Tryz.prog w2.drew= .ok (xs.drop (i+1)).toArray w2.drew:=by
  have h1:=(Row.cZ (w:=w2.drew) (S:=gJ) (k:=1) (off:=i+1) hg2 (d+1) (cap - (i+1)) (by rw[Hl.out];omega) id (by omega) (by unfold maxLen;omega)).first (P:=Tryz.prog) (d+1) (ax _)
  rw[bZ,gN,aT] at h1
  rwa [show (cur.drop (i+1)).take (d+1)=xs.drop (i+1) by rw[<-Hx.out,iC];congr 1;omega] at h1
 have Hcs:=af hcs;clear hcs
 have k23:i+m+(d+1) - (i+m)=d+1:=by omega
 refine Stop.on ?_
 go_wp2_with fail
 refine aN (fun _=>True) (fun i=> !([9].contains i)) [0,1,2,3,4,5,6,7,8,9] rfl (by kernel_rfl) trivial ?_
 repeat ((refine bL (v:= ?_) rfl rfl (fun _ _ _ h=>h) rfl (fun W hW=> ?_) ?_);rotate_left;(focus ((try dsimp only at hW);skip;first|(go_simp;first|done|with_reducible rfl)));(try simp only[Act.put,ai,au,aj]))
 refine jf rfl rfl rfl (by kernel_rfl) ?_
 intro K hK
 refine fO (.tmp 78) (.tmp 81) 22 22 rfl 9 1 16 _ aW gu w.heap.size (i+m) 9 (d+1) (d+1) (c1 - (i+m)) (some ⟨w.heap.size,i+m,none⟩) _ rfl (w:=w2.drew) hr2 (.slice (some ⟨g,i+1,none⟩) (d+1) (cap - (i+1))) rfl (d+1) (xs.drop (i+1)) rfl (gN _).symm (by rw[HD.out,aT]) Hcs.out (fun _=>rfl) ?_ (fun u hu=>hx1 u (bU hu)) ?_
 ·rw[dV _ _ _ (by rw[Hn.out,Hl1.out];omega),HD.out,Hl1.out];omega
 intro w3 hr3 hk3
 refine hK.out _ _ (bO ?_)
 go_wp2
 go_ret
 have hown:=Row.own (S:=S) (B:=B) (k:=1) hr3 (i+m+(d+1)) (by rw[HF1.out,Hl1.out,aT]) hB (fun hs=>absurd (hS _ hs) (di _)) (by omega) hc1'
 rw[aT,HF2.out] at hown
 refine⟨_,rfl,?_,hkk.drew.trans hk3 (fun _ hl e=>absurd hl (by omega))⟩
 rw[HL.out,show N=i+m+(d+1) by rw[HN.out];omega,<-HT.out]
 exact hown
theorem H6 (v:Value)(n i:Nat)(xs:List Value)(vv:Value)(m:Nat)(news:List Value)(w:World)(S:Nat->Prop)(B:Nat)(hS:∀g,S g->g<w.heap.size)(hB:B<=w.heap.size)(h:aP w S B 9 1 v n xs)(hx1:∀u∈xs,u.oneCell'=true)(hv:aP w S B 9 1 vv m news)(hvg:∀g,v.ownBlock=some g->vv.ownBlock≠some g)(hone:∀u∈news,u.oneCell'=true)(hn:n<=1000000)(hmm:m<=1000000)(hi:i<n):
  Calls Tryz.prog 256 #[v,.int .i64 i,.int .i64 ((i:Int)+1),vv] w fun e w'=>∃v',e= .returned v'/\aP w' S B 9 1 v' (n - 1+m) (xs.take i++news++xs.drop (i+1))/\Keep (fun g=>v.ownBlock=some g) w w':=by
 have hxl:=h.1.1
 have hnl:=hv.1.1
 rw[aT] at hxl hnl
 rcases h.1.2 with ⟨rfl,h0⟩|⟨g,cap,cur,rfl,_⟩
 ·omega
 have hvg':=hvg g rfl
 by_cases hin:n=i+1
 ·have e1:xs.drop (i+1)=[]:=eH (by omega)
  have e2:n - 1+m=i+m:=by omega
  rw[e1,e2,dW]
  by_cases hm0:m=0
  ·subst hm0
   obtain rfl:news=[]:=aR hnl
   refine(BV g cap n i xs vv w S B h hv hn hin).mono ?_
   rintro e w' ⟨v',rfl,h1,h2⟩
   exact⟨v',rfl,by rw[dW];exact h1,h2.mono (fun k _ hk=>by rw[hk];rfl)⟩
  ·refine(BU g cap n i xs vv m news w S B hS hB h hv hone hn hmm hin (by omega)).mono ?_
   rintro e w' ⟨v',rfl,h1,h2,_⟩
   exact⟨v',rfl,h1,h2.mono (fun k _ hk=>by rw[hk];rfl)⟩
 ·by_cases hm1:m<=1
  ·refine(Ao g cap n i xs vv m news w S B h hx1 hv hvg' hone hn (by omega) hm1 _ _ rfl rfl).mono ?_
   rintro e w' ⟨v',rfl,h1,h2⟩
   exact⟨v',rfl,h1,h2.mono (fun k _ hk=>by rw[hk];rfl)⟩
  ·rcases hv.1.2 with ⟨rfl,h0⟩|⟨vb,vc,curv,rfl,_⟩
   ·omega
   ·by_cases hroom:n - 1+m<=cap
    ·refine(Am g cap n i xs vb vc m news w S B h hx1 hv (fun e=>hvg' (by rw[e];rfl)) hone hn hmm (by omega) (by omega) hroom _ _ rfl rfl).mono ?_
     rintro e w' ⟨v',rfl,h1,h2⟩
     exact⟨v',rfl,h1,h2.mono (fun k _ hk=>by rw[hk];rfl)⟩
    ·refine(Ap g cap n i xs vb vc m news w S B hS hB h hx1 hv hone hn hmm (by omega) (by omega) _ _ rfl rfl).mono ?_
     rintro e w' ⟨v',rfl,h1,h2⟩
     exact⟨v',rfl,h1,h2.mono (fun _ _ hk=>hk.elim)⟩
theorem Au (g cap n i:Nat)(xs:List Value)(vb vc m:Nat)(news:List Value)(w:World)(S:Nat->Prop)(B:Nat)(hS:∀g,S g->g<w.heap.size)(hB:B<=w.heap.size)(h:aP w S B 3 1 (.slice (some ⟨g,0,none⟩) n cap) n xs)(hx1:∀u∈xs,u.oneCell'=true)(hv:aP w S B 3 1 (.slice (some ⟨vb,0,none⟩) m vc) m news)(hone:∀u∈news,u.oneCell'=true)(hn:n<=1000000)(hmm:m<=1000000)(hi:i+1<n)(hroom:cap<n - 1+m)(N:Nat)(L:List Value)(hN:N=n - 1+m)(hL:L=xs.take i++news++xs.drop (i+1)):
  Calls Tryz.prog 257 #[.slice (some ⟨g,0,none⟩) n cap,.int .i64 i,.int .i64 ((i:Int)+1),.slice (some ⟨vb,0,none⟩) m vc] w fun e w'=>∃v',e= .returned v'/\aP w' S B 3 1 v' N L/\Keep gJ w w':=by
 obtain⟨cur,hr,hl,hx,hBg,hSg,hc,hc2⟩:=h.row
 have hc3:cap<=9223372036854775807:=by simpa [maxLen] using hc2
 have hnl:news.length=m:=by have:=hv.1.1;omega
 have hll:cur.length=cap:=by omega
 have hx':cur.take n=xs:=by rw[<-hx,aT]
 have hvs:=hv.cZ
 obtain⟨vo,vc',e0,v1,v2,_,_⟩:=hv.cZ.form
 cases e0
 clear h hv hl hx
 obtain⟨d,rfl⟩:∃d,n=i+1+(d+1):=⟨n - (i+2),by omega⟩
 have HN:=af hN;clear hN
 have HL:=af hL;clear hL
 have k1:(0:Int)<=(i:Int):=by omega
 have k2:(i:Int)<=(cap:Int):=by omega
 have k3:(0:Int)<=(i:Int)+1:=by omega
 have k4:(i:Int)+1<=(cap:Int):=by omega
 have k5:((i:Int)+1).toNat=i+1:=by omega
 have Hl:=af hll;clear hll
 have Hx:=af hx';clear hx'
 have Hn:=af hnl;clear hnl
 have k6:¬cap=i+1:=by omega
 have k7:(i:Int)+1<=(i:Int)+1+((d:Int)+1):=by omega
 have k8:IntKind.i64.wrap ((i:Int)+(m:Int))=(i:Int)+(m:Int):=aM _ (by omega)
 have k9:i+1+(d+1) - (i+1)=d+1:=by omega
 have k10:IntKind.i64.wrap ((i:Int)+(m:Int)+((d:Int)+1))=(i:Int)+(m:Int)+((d:Int)+1):=aM _ (by omega)
 have k11:(cap:Int)<(i:Int)+(m:Int)+((d:Int)+1):=by omega
 have k17:¬cap=i:=by omega
 have k18:(i:Int)+(m:Int)+((d:Int)+1) - (i:Int)=((m+(d+1):Nat):Int):=by omega
 have k19:i+(m+(d+1))=i+m+(d+1):=by omega
 have k20:(0:Int)<=(i:Int)+(m:Int):=by omega
 have k22:((i:Int)+(m:Int)).toNat=i+m:=by omega
 have hD:(xs.drop (i+1)).length=d+1:=by rw[aJ,<-Hx.out,aC,Hl.out];omega
 have hT:cur.take i=xs.take i:=by rw[<-Hx.out,bZ,bq (by omega)]
 have hgl:g<w.heap.size:=hr.lt
 have HD:=af hD;clear hD
 have HT:=af hT;clear hT
 go_enter Ql,Lx
 go_wp2_with fail
 refine aN (fun _=>True) (fun _=>true) [0,1,2,3,4,5,6,7,8,9,10,11,12] rfl (by kernel_rfl) trivial ?_
 repeat ((refine bL (v:= ?_) rfl rfl (fun _ _ _ h=>h) rfl (fun W hW=> ?_) ?_);rotate_left;(focus ((try dsimp only at hW);skip;first|(go_simp;first|done|with_reducible rfl)));(try simp only[Act.put,ai,au,aj]))
 refine bO ?_
 go_wp2_with (first|(at_builtin;(refine dh rfl ?_);intro K hK;go_must ((refine qW (w:=w.drew) (.tmp 63) (.tmp 66) 171 3 rfl 3 1 8 _ aZ gq gU rfl (by omega) g i cap (m+(d+1)) cur rfl ?_ hr ?_ ?_ ?_ ?_ ?_ ?_);(focus (first|rfl|(show Value.int _ _=_;congr 1;first|done|omega)));(focus (rw[Hl.out];omega));(focus omega);(focus omega);(focus (unfold maxLen;omega));(focus omega);intro c1 w1 rest hr1 hl1 hc1 hc1' hk1;refine hK _ _ (Stop.of ?_))))
 have hr1:Row w1 w.heap.size 3 (cur.take i++rest):=by rw[aT] at hr1;exact hr1
 have hl1:(cur.take i++rest).length=c1:=by rw[aT,aT] at hl1;exact hl1
 have hk1:Keep gJ w w1:=(Keep.refl gJ w).drew.trans hk1 (fun _ _ h=>h)
 have k12:¬c1=i:=by omega
 have k14:¬c1=i+m:=by omega
 have k15:(i:Int)<=(c1:Int):=by omega
 have k16:(i:Int)+(m:Int)<=(i:Int)+(m:Int)+((d:Int)+1):=by omega
 have hc1'':c1<=9223372036854775807:=by simpa [maxLen] using hc1'
 have hci:(cur.take i).length=i:=by rw[aC,Hl.out];omega
 obtain⟨hF1,hF2⟩:=zO (cur.take i++rest) news (xs.drop (i+1)) i (by rw[Hn.out,HD.out,hl1];omega)
 rw[Hn.out,HD.out,List.take_left' hci] at hF2
 rw[Hn.out] at hF1
 have hcs1:(Builtin.firstCells 1 m (.slice (some ⟨vb,0,none⟩) m vc)).run Tryz.prog w1= .ok news.toArray w1:=by
  have h1:=bn.first (P:=Tryz.prog) (w:=w1) (hvs.keep fun g' hg hl hs=>⟨hk1.block g' hl id,hs⟩) m (ax _)
  rwa [aG (by rw[Hn.out];omega)] at h1
 have Hl1:=af hl1;clear hl1
 have HF1:=af hF1;clear hF1
 have HF2:=af hF2;clear hF2
 have Hc1:=af hcs1;clear hcs1
 have Hci:=af hci;clear hci
 refine Stop.on ?_
 go_wp2_with (first|((refine dh rfl ?_);intro K hK;(refine fO (.tmp 70) (.tmp 71) 171 171 rfl 3 1 8 _ aZ gU w.heap.size i 3 m (i+m+(d+1) - i) (c1 - i) (some ⟨w.heap.size,i,none⟩) _ ?_ hr1 (.slice (some ⟨vb,0,none⟩) m vc) rfl m news rfl ?_ ?_ Hc1.out (fun _=>rfl) ?_ hone ?_);go_must ((focus (first|rfl|(show Value.slice _ _ _=_;congr 1;omega)));(focus (exact(bq (by omega)).symm));(focus (rw[Hn.out,aT]));(focus (rw[Hl1.out,Hn.out];omega));intro w2 hr2 hk2;refine hK _ _ (Stop.of ?_))))
 have hkk:Keep gJ w w2:=hk1.trans hk2 (fun _ hl e=>absurd hl (by omega))
 have hg2:Row w2 g 3 cur:=hr.keep hkk id
 have hcs:(Builtin.firstCells 1 (d+1) (.slice (some ⟨g,i+1,none⟩) (d+1) (cap - (i+1)))).run Tryz.prog w2.drew= .ok (xs.drop (i+1)).toArray w2.drew:=by
  have h1:=(Row.cZ (w:=w2.drew) (S:=gJ) (k:=1) (off:=i+1) hg2 (d+1) (cap - (i+1)) (by rw[Hl.out];omega) id (by omega) (by unfold maxLen;omega)).first (P:=Tryz.prog) (d+1) (ax _)
  rw[bZ,gN,aT] at h1
  rwa [show (cur.drop (i+1)).take (d+1)=xs.drop (i+1) by rw[<-Hx.out,iC];congr 1;omega] at h1
 have Hcs:=af hcs;clear hcs
 have k23:i+m+(d+1) - (i+m)=d+1:=by omega
 refine Stop.on ?_
 go_wp2_with fail
 refine aN (fun _=>True) (fun i=> !([9].contains i)) [0,1,2,3,4,5,6,7,8,9] rfl (by kernel_rfl) trivial ?_
 repeat ((refine bL (v:= ?_) rfl rfl (fun _ _ _ h=>h) rfl (fun W hW=> ?_) ?_);rotate_left;(focus ((try dsimp only at hW);skip;first|(go_simp;first|done|with_reducible rfl)));(try simp only[Act.put,ai,au,aj]))
 refine jf rfl rfl rfl (by kernel_rfl) ?_
 intro K hK
 refine fO (.tmp 78) (.tmp 81) 171 171 rfl 3 1 8 _ aZ gU w.heap.size (i+m) 3 (d+1) (d+1) (c1 - (i+m)) (some ⟨w.heap.size,i+m,none⟩) _ rfl (w:=w2.drew) hr2 (.slice (some ⟨g,i+1,none⟩) (d+1) (cap - (i+1))) rfl (d+1) (xs.drop (i+1)) rfl (gN _).symm (by rw[HD.out,aT]) Hcs.out (fun _=>rfl) ?_ (fun u hu=>hx1 u (bU hu)) ?_
 ·rw[dV _ _ _ (by rw[Hn.out,Hl1.out];omega),HD.out,Hl1.out];omega
 intro w3 hr3 hk3
 refine hK.out _ _ (bO ?_)
 go_wp2
 go_ret
 have hown:=Row.own (S:=S) (B:=B) (k:=1) hr3 (i+m+(d+1)) (by rw[HF1.out,Hl1.out,aT]) hB (fun hs=>absurd (hS _ hs) (di _)) (by omega) hc1'
 rw[aT,HF2.out] at hown
 refine⟨_,rfl,?_,hkk.drew.trans hk3 (fun _ hl e=>absurd hl (by omega))⟩
 rw[HL.out,show N=i+m+(d+1) by rw[HN.out];omega,<-HT.out]
 exact hown
theorem H7 (v:Value)(n i:Nat)(xs:List Value)(vv:Value)(m:Nat)(news:List Value)(w:World)(S:Nat->Prop)(B:Nat)(hS:∀g,S g->g<w.heap.size)(hB:B<=w.heap.size)(h:aP w S B 3 1 v n xs)(hx1:∀u∈xs,u.oneCell'=true)(hv:aP w S B 3 1 vv m news)(hvg:∀g,v.ownBlock=some g->vv.ownBlock≠some g)(hone:∀u∈news,u.oneCell'=true)(hn:n<=1000000)(hmm:m<=1000000)(hi:i<n):
  Calls Tryz.prog 257 #[v,.int .i64 i,.int .i64 ((i:Int)+1),vv] w fun e w'=>∃v',e= .returned v'/\aP w' S B 3 1 v' (n - 1+m) (xs.take i++news++xs.drop (i+1))/\Keep (fun g=>v.ownBlock=some g) w w':=by
 have hxl:=h.1.1
 have hnl:=hv.1.1
 rw[aT] at hxl hnl
 rcases h.1.2 with ⟨rfl,h0⟩|⟨g,cap,cur,rfl,_⟩
 ·omega
 have hvg':=hvg g rfl
 by_cases hin:n=i+1
 ·have e1:xs.drop (i+1)=[]:=eH (by omega)
  have e2:n - 1+m=i+m:=by omega
  rw[e1,e2,dW]
  by_cases hm0:m=0
  ·subst hm0
   obtain rfl:news=[]:=aR hnl
   refine(BZ g cap n i xs vv w S B h hv hn hin).mono ?_
   rintro e w' ⟨v',rfl,h1,h2⟩
   exact⟨v',rfl,by rw[dW];exact h1,h2.mono (fun k _ hk=>by rw[hk];rfl)⟩
  ·refine(BX g cap n i xs vv m news w S B hS hB h hv hone hn hmm hin (by omega)).mono ?_
   rintro e w' ⟨v',rfl,h1,h2,_⟩
   exact⟨v',rfl,h1,h2.mono (fun k _ hk=>by rw[hk];rfl)⟩
 ·by_cases hm1:m<=1
  ·refine(Ar g cap n i xs vv m news w S B h hx1 hv hvg' hone hn (by omega) hm1 _ _ rfl rfl).mono ?_
   rintro e w' ⟨v',rfl,h1,h2⟩
   exact⟨v',rfl,h1,h2.mono (fun k _ hk=>by rw[hk];rfl)⟩
  ·rcases hv.1.2 with ⟨rfl,h0⟩|⟨vb,vc,curv,rfl,_⟩
   ·omega
   ·by_cases hroom:n - 1+m<=cap
    ·refine(Aq g cap n i xs vb vc m news w S B h hx1 hv (fun e=>hvg' (by rw[e];rfl)) hone hn hmm (by omega) (by omega) hroom _ _ rfl rfl).mono ?_
     rintro e w' ⟨v',rfl,h1,h2⟩
     exact⟨v',rfl,h1,h2.mono (fun k _ hk=>by rw[hk];rfl)⟩
    ·refine(Au g cap n i xs vb vc m news w S B hS hB h hx1 hv hone hn hmm (by omega) (by omega) _ _ rfl rfl).mono ?_
     rintro e w' ⟨v',rfl,h1,h2⟩
     exact⟨v',rfl,h1,h2.mono (fun _ _ hk=>hk.elim)⟩
end Go.Proofs.YtbfjgkafmlbpcaaGreatDoor
