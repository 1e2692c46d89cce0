/- parts -/
import Derived.Test.YtpmbddooibgnaaaGreatDoorN4
import Derived.Test.YtpmbddooibgnaaaGreatDoorN5
import Derived.Test.YtpmbddooibgnaaaGreatDoorN7
import Derived.Test.YtpmbddooibgnaaaGreatDoorN12
import Derived.Test.YtpmbddooibgnaaaGreatDoorN13
import Derived.Test.YtpmbddooibgnaaaGreatDoorN17
import Derived.Test.YtpmbddooibgnaaaGreatDoorN21
import Derived.Laws.Runes
import Derived.Scope
import Derived.Laws.IdiomStrings
set_option maxRecDepth 100000
set_option maxHeartbeats 8000000
set_option linter.all false
namespace Go.Proofs.YtpmbddooibgnaaaGreatDoor
open Go.RowKit Go.Shelf
theorem Nh (s:ByteArray)(a:Nat)(h:a<s.size)(e:128<=(s.get! a).toNat):
  a+(Utf8.decode s a).2<=s.size/\∀j,a<=j->j<a+(Utf8.decode s a).2->128<=(s.get! j).toNat:=by
 rw[Lib.decode_at]
 unfold Lib.decodeN
 split
 ·omega
 split
 ·split
  ·refine⟨by dsimp only;omega,fun j c b=> ?_⟩
   dsimp only at b
   have d:j=a\/j=a+1:=by omega
   rcases d with rfl|rfl<;>omega
  ·refine⟨by dsimp only;omega,fun j c b=> ?_⟩
   dsimp only at b
   obtain rfl:j=a:=by omega
   exact e
 split
 ·split
  ·refine⟨by dsimp only;omega,fun j c b=> ?_⟩
   dsimp only at b
   have d:j=a\/j=a+1\/j=a+2:=by omega
   rcases d with rfl|rfl|rfl<;>omega
  ·refine⟨by dsimp only;omega,fun j c b=> ?_⟩
   dsimp only at b
   obtain rfl:j=a:=by omega
   exact e
 split
 ·split
  ·refine⟨by dsimp only;omega,fun j c b=> ?_⟩
   dsimp only at b
   have d:j=a\/j=a+1\/j=a+2\/j=a+3:=by omega
   rcases d with rfl|rfl|rfl|rfl<;>omega
  ·refine⟨by dsimp only;omega,fun j c b=> ?_⟩
   dsimp only at b
   obtain rfl:j=a:=by omega
   exact e
 ·refine⟨by dsimp only;omega,fun j c b=> ?_⟩
  dsimp only at b
  obtain rfl:j=a:=by omega
  exact e
theorem Lc (s:ByteArray)(j:Nat)(h:j<s.size):s.data.toList[j]? =some (s.get! j):=by
 rw[Utf8W.get!_of_lt s j h]
 exact Lib.data_getElem? s j h
theorem Sw {b:UInt8}(h:128<=b.toNat):([47,0]:List UInt8).contains b=false:=by
 cases a:([47,0]:List UInt8).contains b with
 |false=>rfl
 |true=>
  have:=List.contains_iff_mem.1 a
  simp at this
  rcases this with rfl|rfl<;>exact absurd h (by decide)
theorem JN {s:ByteArray}{i n:Nat}(h:Lib.NoAny s.data.toList [47,0] i)(f:i+n<=s.size)(c:∀j,i<=j->j<i+n->128<=(s.get! j).toNat):Lib.NoAny s.data.toList [47,0] (i+n):=fun j b d a=>by
 by_cases e:j<i
 ·exact h j b e a
 ·rw[Lc s j (by omega)] at a
  rw[<-dN a]
  exact Sw (c j (by omega) d)
section
variable {P:Program} {ρ:Ren}
theorem run_next_at (W:World)(b:Nat)(s:ByteArray)(a:Nat)(c:TypeId)(d:W.heap[b]? =some (.stringIter s a))(h:a<s.size):
  (Instr.next (.pointer (some ⟨b,0,none⟩)) true c).run P W= .ok (.tuple #[.bool true,.int .i64 a,.int .i32 (Utf8.decode s a).1]) {W with heap:=W.heap.setIfInBounds b (.stringIter s (a+(Utf8.decode s a).2))}:=by
 simp only[Instr.next,getObj,setObj,lU,Sem.run,d,Result.andThen,h,jQ]
 simp[goInt]
theorem CO (W:World)(b:Nat)(s:ByteArray)(a:Nat)(c:TypeId)(d:W.heap[b]? =some (.stringIter s a))(h:¬a<s.size):
  (Instr.next (.pointer (some ⟨b,0,none⟩)) true c).run P W= .ok (.tuple #[.bool false]) W:=by
 simp[Instr.next,getObj,Sem.run,d,h]
end
theorem Qn (r:Int)(h:128<=r):(∃x y:UInt8,Utf8.encode r=⟨#[x,y]⟩/\128<=y.toNat)\/(3<=(Utf8.encode r).size/\(Utf8.encode r).size<=4):=by
 unfold Utf8.encode
 have a:128<=(if Utf8.valid r=true then r.toNat else Utf8.runeError):=by
  split
  ·omega
  ·decide
 generalize (if Utf8.valid r=true then r.toNat else Utf8.runeError)=c at a
 dsimp only
 split
 ·omega
 split
 ·refine .inl ⟨_,_,rfl,?_⟩
  rw[dZ]
  omega
 split
 ·exact .inr ⟨aC 3,by show 3<=4;omega⟩
 ·exact .inr ⟨by show 3<=4;omega,aC 4⟩
theorem RS {P:Program}(w:World)(a:TypeId):(Instr.next (.pointer (some ⟨w.heap.size,0,none⟩)) true a).run P (w.iter ⟨#[47,0]⟩ 0)= .ok (.tuple #[.bool true,.int .i64 0,.int .i32 47]) (w.iter ⟨#[47,0]⟩ 1):=run_next_ascii w ⟨#[47,0]⟩ 0 a (by decide) (by decide)
theorem Vg {P:Program}(w:World)(a:TypeId):(Instr.next (.pointer (some ⟨w.heap.size,0,none⟩)) true a).run P (w.iter ⟨#[47,0]⟩ 1)= .ok (.tuple #[.bool true,.int .i64 1,.int .i32 0]) (w.iter ⟨#[47,0]⟩ 2):=run_next_ascii w ⟨#[47,0]⟩ 1 a (by decide) (by decide)
theorem Vf {P:Program}(w:World)(a:TypeId):(Instr.next (.pointer (some ⟨w.heap.size,0,none⟩)) true a).run P (w.iter ⟨#[47,0]⟩ 2)= .ok (.tuple #[.bool false]) (w.iter ⟨#[47,0]⟩ 2):=run_next_end w ⟨#[47,0]⟩ 2 a (by decide)
theorem Sq (r:Int)(w:World)(A:128<=r)(V:r<=2147483647):
  Calls Tryz.prog 458 #[.string ⟨#[47,0]⟩,.int .i32 r] w fun e b=>e= .returned (.int .i64 (-1))/\Below w.heap.size w b:=by
 have t:¬r<128:=by omega
 have D:(0:Int)<=r:=by omega
 by_cases d:r=65533
 ·subst d
  go_enter Fh,Tryz.ntmps458
  go_upto_region 38 with (fail)
  go_loopg [5,6] 2 (fun g _ _ l=>(g=2/\l=w.iter ⟨#[47,0]⟩ 0)\/(g=1/\l=w.iter ⟨#[47,0]⟩ 1)\/(g=0/\l=w.iter ⟨#[47,0]⟩ 2))
  case atStart=>exact .inl ⟨rfl,rfl⟩
  case round=>
   have S:=RS (P:=Tryz.prog) w;have Y:=Vg (P:=Tryz.prog) w;have X:=Vf (P:=Tryz.prog) w
   rcases hrel with ⟨rfl,rfl⟩|⟨rfl,rfl⟩|⟨rfl,rfl⟩
   ·go_wp2_with fail
    go_roundg 1
    case measure=>omega
    case rel=>exact .inr (.inl ⟨rfl,rfl⟩)
   ·go_wp2_with fail
    go_roundg 0
    case measure=>omega
    case rel=>exact .inr (.inr ⟨rfl,rfl⟩)
   ·go_wp2_with fail
    go_ret
    exact⟨rfl,aG w _⟩
 ·have s:(r==65533)=false:=fV.2 d
  cases o:Lib.validRune r with
  |false=>
   go_enter Fh,Tryz.ntmps458
   go_wp2_with (go_at_call 525;refine(Any.utf8_ValidRune (ρ:=gP) {xk with} _ _).mono ?_;rintro e b ⟨rfl,j⟩;rw[j,o])
   go_ret
   exact⟨rfl,aJ _ _⟩
  |true=>
   have k:∀W:World,(Go.convert 21 9 (.int .i32 r)).run Tryz.prog W= .ok (.string (Utf8.encode r)) W:=fun W=>run_convert_int_string W _ _ _ _ (by kernel_rfl) bH
   rcases Qn r A with ⟨x,y,z,T⟩|⟨m,n⟩
   ·have J:((0:Int)==(y.toNat:Int))=false:=fV.2 (by omega)
    have F:(⟨#[x,y]⟩:ByteArray).size=2:=rfl
    have B:(⟨#[47,0]⟩:ByteArray)[1]'(by decide)=0:=rfl
    have O:(⟨#[x,y]⟩:ByteArray)[1]'(by show 1<2;decide)=y:=rfl
    have Q:IntKind.i64.wrap 2=2:=rfl
    have G:(⟨#[47,0]⟩:ByteArray).extract 2 2=⟨#[]⟩:=by decide
    have q:∀(c:Int) (W:World),Calls Tryz.prog 245 #[.string ⟨#[]⟩,.int .u8 c] W fun e b=>e= .returned (.int .i64 (-1))/\b=W:=fun c W=>Any.strings_IndexByte (ρ:=gP) {xk with} ⟨#[]⟩ c W
    rw[z] at k
    go_enter Fh,Tryz.ntmps458
    go_upto_region 5 with (go_at_call 525;refine(Any.utf8_ValidRune (ρ:=gP) {xk with} _ _).mono ?_;rintro e b ⟨rfl,j⟩;rw[j,o])
    refine XD ?_
    go_upto_region 5 with (fail)
    go_loopw [9,10,11,12] (fun i _ _ _ wr=>i= .int .i64 1/\wr=w) (fun _ _ _ _ _=>0)
    case atStart=>exact⟨rfl,rfl⟩
    case round=>
     obtain⟨rfl,p⟩:=hrel
     subst wr
     go_wp2_with (fail)
     refine XD ?_
     go_wp2_with (fail)
     refine aP (fun W=>W=w.drew) (fun _=>true) [0,1,2,3,4,5,6] rfl (by kernel_rfl) rfl ?_
     repeat ((refine bE (v:= ?_) rfl rfl (fun _ _ _ h=>h) rfl (fun W a=> ?_) ?_);rotate_left;(focus ((try dsimp only at a);subst a;(go_simp;first|done|with_reducible rfl)));(try simp only[Act.put,ak,ay,ax]))
     refine bN ?_
     go_wp2_with (fail)
     refine aP (fun W=>W=w.drew.drew) (fun i=> !([7].contains i)) [0,1,2,3,4,5,6,7,8] rfl (by kernel_rfl) rfl ?_
     repeat ((refine bE (v:= ?_) rfl rfl (fun _ _ _ h=>h) rfl (fun W a=> ?_) ?_);rotate_left;(focus ((try dsimp only at a);subst a;(go_simp;first|done|with_reducible rfl)));(try simp only[Act.put,ak,ay,ax]))
     refine bT rfl rfl rfl ?_;intro K M;go_simp
     refine(q _ _).mono ?_;rintro e I ⟨rfl,N⟩;subst I
     refine M.out _ _ rfl ?_
     repeat ((refine bE (v:= ?_) rfl rfl (fun _ _ _ h=>h) rfl (fun W a=> ?_) ?_);rotate_left;(focus ((try dsimp only at a);subst a;(go_simp;first|done|with_reducible rfl)));(try simp only[Act.put,ak,ay,ax]))
     refine bN ?_
     go_wp2_with (fail)
     dsimp (config:={zetaDelta:=true}) only[Exit.noGoto,Exit.inBlock,Exit.then]
     go_ret
     exact⟨rfl,((aJ _ w).drew).drew⟩
   ·have R:¬((Utf8.encode r).size:Int) - 1<2:=by omega
    have H:(0:Int)<=((Utf8.encode r).size:Int) - 1:=by omega
    obtain⟨E,C⟩:∃E,Hid (Utf8.encode r=E):=⟨_,ah rfl⟩
    rw[C.out] at k R H m n
    have f:wrap64 ((E.size:Int) - 1)=(E.size:Int) - 1:=by unfold wrap64;omega
    go_enter Fh,Tryz.ntmps458
    go_upto_region 5 with (go_at_call 525;refine(Any.utf8_ValidRune (ρ:=gP) {xk with} _ _).mono ?_;rintro e b ⟨rfl,j⟩;rw[j,o])
    refine XD ?_
    go_upto_region 5 with (fail)
    go_loopw [9,10,11,12] (fun i _ _ _ wr=>i= .int .i64 ((E.size:Int) - 1)/\wr=w) (fun _ _ _ _ _=>0)
    case atStart=>exact⟨by first|rfl|(rw[f])|go_num,rfl⟩
    case round=>
     obtain⟨rfl,p⟩:=hrel
     subst wr
     go_wp2_with (fail)
     dsimp only[Exit.noGoto]
     go_ret
     exact⟨rfl,aJ _ _⟩
theorem Vr (r:Int)(w:World)(d:0<=r)(f:r<=2147483647):
  Calls Tryz.prog 458 #[.string ⟨#[47,0]⟩,.int .i32 r] w fun e a=>(∃z:Int,e= .returned (.int .i64 z)/\(r<128->z=Lib.indexByte [47,0] r.toNat.toUInt8)/\(128<=r->z= -1))/\Below w.heap.size w a:=by
 by_cases h:r<128
 ·have b:Calls Tryz.prog 458 #[.string ⟨#[47,0]⟩,.int .i32 r] w _:=Any.strings_IndexRune_ascii (ρ:=gP) {xk with} ⟨#[47,0]⟩ r w d h
  refine b.mono ?_
  rintro e a ⟨rfl,rfl⟩
  exact⟨⟨_,rfl,fun _=>rfl,fun e=>absurd h (by omega)⟩,aJ _ _⟩
 ·refine(Sq r w (by omega) f).mono ?_
  rintro e a ⟨rfl,c⟩
  exact⟨⟨_,rfl,fun e=>absurd e h,fun _=>rfl⟩,c⟩
theorem CV (b:UInt8):([47,0]:List UInt8).contains b=decide (0<=Lib.indexByte [47,0] b):=Lib.contains_iff_indexByte [47,0] b
theorem Qb (s:ByteArray)(w:World)(h8:s.size<=8):
  Calls Tryz.prog 358 #[.string s,.string ⟨#[47,0]⟩] w fun e M=>e= .returned (.int .i64 (Lib.indexAny s.data.toList [47,0]))/\Below w.heap.size w M:=by
 have O:∀w,Calls Tryz.prog 459 #[.int .i64 s.size] w fun e M=>e= .returned (.bool false)/\M=w:=fun w=>by
  have:=Any.strings_shouldUseASCIISet (P:=Tryz.prog) (ρ:=gP) {xk with} s.size w
  rw[bU (by omega)] at this
  exact this
 have pV:(⟨#[47,0]⟩:ByteArray).size=2:=rfl
 go_enter Tryz.func358,Tryz.ntmps358
 go_wp2_with (go_at_call 459;refine(O _).mono ?_;rintro e M ⟨rfl,Z⟩;rw[Z])
 go_loopg [9,10] (s.size+1) (fun g _ _ V=>∃i:Nat,i<=s.size/\g=s.size+1 - i/\V.heap[w.heap.size]? =some (.stringIter s i)/\Below w.heap.size w V/\Lib.NoAny s.data.toList [47,0] i)
 case atStart=>exact⟨0,aR _,rfl,World.iter_heap w s 0,aG w _,Lib.NoAny.zero _ _⟩
 case round=>
  obtain⟨i,hi,rfl,j,o,f⟩:=hrel
  by_cases a:i<s.size
  ·have y:=fun R=>run_next_at (P:=Tryz.prog) wr w.heap.size s i R j a
   have F:=decode_le s i
   have t:s.get! i=s[i]'a:=Utf8W.get!_of_lt s i a
   have G:=Lc s i a
   have v:Below w.heap.size w {wr with heap:=wr.heap.setIfInBounds w.heap.size (.stringIter s (i+(Utf8.decode s i).2))}:=by
    refine⟨o.os,o.tape,o.output,by simpa using o.size,fun k Y=> ?_⟩
    rw[<-o.block k Y]
    simp only[kT]
    rw[if_neg (by omega)]
   have I:=(aj.1 j).1
   have d:({wr with heap:=wr.heap.setIfInBounds w.heap.size (.stringIter s (i+(Utf8.decode s i).2))}:World).heap[w.heap.size]? =some (.stringIter s (i+(Utf8.decode s i).2)):=by
    simp only[kT]
    simp[I]
   obtain⟨T,E⟩:∃T:World,{wr with heap:=wr.heap.setIfInBounds w.heap.size (.stringIter s (i+(Utf8.decode s i).2))}=T:=⟨_,rfl⟩
   rw[E] at v d
   simp only[E] at y
   have c:(((Utf8.decode s i).1:Int)<128/\((Utf8.decode s i).1:Int).toNat.toUInt8=s.get! i/\(Utf8.decode s i).2=1)\/(128<=((Utf8.decode s i).1:Int)/\1<=(Utf8.decode s i).2/\i+(Utf8.decode s i).2<=s.size/\Lib.NoAny s.data.toList [47,0] (i+(Utf8.decode s i).2)):=by
    by_cases H:(s[i]'a).toNat<128
    ·left
     rw[decode_ascii s i a H,t]
     exact⟨by dsimp only;omega,by simp,rfl⟩
    ·right
     have A:=decode_high s i a (by omega)
     have l:=Nh s i a (by rw[t];omega)
     exact⟨by omega,A.2,l.1,JN f l.1 l.2⟩
   obtain⟨r,C⟩:∃r,(Utf8.decode s i).1=r:=⟨_,rfl⟩
   obtain⟨n,Q⟩:∃n,(Utf8.decode s i).2=n:=⟨_,rfl⟩
   rw[C,Q] at c
   rw[Q] at d
   simp only[C] at y
   rw[C] at F
   have N:=ah (Vr r T (by omega) (by omega))
   have J:=CV (s.get! i)
   have b:=ah (au c (au f (au G (au J (au d v)))))
   clear c f G J d v C Q t F I j o E
   go_wp2_with (first
    |(go_at_call 458;go_must (refine N.out.mono ?_;rintro e w3 ⟨⟨z,rfl,m,B⟩,x⟩;refine Stop.of ?_)))
   refine Stop.on ?_
   have p:=(x.block w.heap.size (aj.1 b.out.2.2.2.2.1).1).trans b.out.2.2.2.2.1
   have S:=ah (au p (b.out.2.2.2.2.2.trans (x.mono b.out.2.2.2.2.2.size)))
   clear p x
   by_cases W:(0:Int)<=z
   ·have C:Lib.indexAny s.data.toList [47,0]=i:=by
     rcases b.out.1 with ⟨A,l,_⟩|⟨A,_⟩
     ·have D:=m A
      rw[l] at D
      refine Lib.indexAny_hit b.out.2.1 b.out.2.2.1 ?_
      rw[b.out.2.2.2.1,<-D]
      exact gq W
     ·have:=B A
      omega
    have K:=ah C
    clear C m B
    go_wp2_with (fail)
    go_ret
    exact⟨by rw[K.out];rfl,S.out.2⟩
   ·have q:Lib.NoAny s.data.toList [47,0] (i+n)/\1<=n/\i+n<=s.size:=by
     rcases b.out.1 with ⟨A,l,rfl⟩|⟨_,l,D,X⟩
     ·have D:=m A
      rw[l] at D
      refine⟨b.out.2.1.succ b.out.2.2.1 ?_,aC _,by omega⟩
      rw[b.out.2.2.2.1,<-D]
      exact bU W
     ·exact⟨X,l,D⟩
    have K:=ah q
    clear q m B
    go_wp2_with (fail)
    go_roundg (s.size+1 - (i+n))
    case measure=>have:=K.out;omega
    case rel=>exact⟨i+n,K.out.2.2,rfl,S.out.1,S.out.2,K.out.1⟩
  ·obtain rfl:i=s.size:=by omega
   have y:=fun R=>CO (P:=Tryz.prog) wr w.heap.size s s.size R j (cO _)
   have b:=ah (au f o)
   clear f o j
   go_wp2_with (fail)
   go_ret
   exact⟨by rw[Lib.indexAny_none (by rw[<-Lib.size_eq];exact b.out.1)];rfl,b.out.2⟩
theorem Vv (s:ByteArray)(w:World)(i:s.size<=64):
  Calls Tryz.prog 358 #[.string s,.string ⟨#[47,0]⟩] w fun e a=>e= .returned (.int .i64 (Lib.indexAny s.data.toList [47,0]))/\Below w.heap.size w a:=by
 by_cases c:s.size<=8
 ·exact Qb s w c
 ·have d:Calls Tryz.prog 358 #[.string s,.string ⟨#[47,0]⟩] w _:=Any.strings_IndexAny_long (ρ:=gP) {xk with} (zero_of_info Jy).1 (zero_of_info Jy).2 s ⟨#[47,0]⟩ w (by decide) (by omega) (by omega) (by decide) (fun j b f=>by
   have:b=47\/b=0:=by
    have:=wP f
    simpa using this
   rcases this with rfl|rfl<;>decide)
  refine d.mono ?_
  rintro e a ⟨rfl,g⟩
  refine⟨rfl,?_⟩
  rw[g]
  exact((aJ _ _).alloc (aC _) _).alloc (by simp) _
theorem Qv (s:ByteArray)(w:World)(f:s.size<=64):
  Calls Tryz.prog 250 #[.string s,.string ⟨#[47,0]⟩] w fun e d=>e= .returned (.bool (Lib.containsAny s.data.toList [47,0]))/\Below w.heap.size w d:=by
 have c:=ah (Vv s w f)
 unfold Lib.containsAny
 obtain⟨z,b⟩:∃z,Lib.indexAny s.data.toList [47,0]=z:=⟨_,rfl⟩
 rw[b] at c ⊢
 clear b
 go_enter Tryz.func250,Tryz.ntmps250
 go_wp2_with (first
  |(go_at_call 358;go_must (refine c.out.mono ?_;rintro e g ⟨rfl,a⟩)))
 go_ret
 exact⟨rfl,a⟩
end Go.Proofs.YtpmbddooibgnaaaGreatDoor
namespace Go.Proofs.YtpmbddooibgnaaaGreatDoor
open Go.RowKit
abbrev LP:=jT×Value
def Xd (p:LP):List Value:=[.string p.1.token,p.2,.bool p.1.deep,.bool p.1.excl,.string p.1.owner,.int .i64 p.1.till]
def Yn (w:World)(S:Nat->Prop)(v:Value)(ps:List LP):Prop:=jP w S 6 v ps.length (ps.flatMap Xd)/\∀p∈ps,∃T,pK w T p.2 p.1.path
theorem Oi (n o g:Nat)(c:Nat)(a:List UInt8)(i N:Nat)(w:World)(G:52<=N)(B:N<=100000)(v:w.cell? ⟨n,0,none⟩=some (.slice (some ⟨g,0,none⟩) N c))(t:w.cell? ⟨o,0,none⟩=some (.int .i64 12))(d:a.length=N)(l:fA w eG (.slice (some ⟨g,0,none⟩) N c) a)(F:i<=4):
  Calls Tryz.prog 321 #[.int .i64 i,.pointer (some ⟨n,0,none⟩),.pointer (some ⟨o,0,none⟩)] w fun e x=>e= .returned (.int .u64 (rO ((a.drop (12+8*i)).take 8)))/\x=w:=by
 have b:bq w eG 1 (.slice (some ⟨g,0,none⟩) N c) N (aF a):=by rw[<-d];rw[<-d] at l;exact l
 have k:N<=c:=by
  obtain⟨_,_,r,k,_⟩:=b
  injection r with e1 e2 e3
  omega
 obtain⟨z,j⟩:∃z,Hid (12+8*i=z):=⟨_,ah rfl⟩
 have H:z<=44:=by have:=j.out;omega
 have C:IntKind.i64.wrap (8*(i:Int))=((8*i:Nat):Int):=by rw[aM _ (by omega)];omega
 have D:IntKind.i64.wrap (12+((8*i:Nat):Int))=(z:Int):=by rw[aM _ (by omega),<-j.out];omega
 have f:=b.after z (by omega)
 rw[if_neg (show ¬c=z by omega)] at f
 simp only[jJ,iA,eY,fZ] at f
 have m:fA w eG (.slice (some ⟨g,z,none⟩) (N - z) (c - z)) (a.drop z):=by
  have e:List.drop z (aF a)=aF (a.drop z):=by simp[aF,jy]
  show bq w eG 1 _ (a.drop z).length _
  rw[bG,d,<-e]
  exact f
 have p:=ah (LQ _ (a.drop z) 8 eG w m (by rw[bG,d];omega) (by omega))
 rw[<-j.out] at p
 have E:(z:Int)<=N:=by omega
 have q:=aD w _ v
 have A:=aD w _ t
 clear f l b C D
 go_enter Tryz.func321,Tryz.ntmps321
 go_wp2_with (first
  |(go_at_call 322;go_must (refine p.out.mono ?_;rintro e s ⟨rfl,y⟩;subst s)))
 go_ret
 exact⟨rfl,rfl⟩
structure Xz (σ:Dk)(l:Lg)(at_:Nat)(B Z:List UInt8):Prop where
 len:Z.length=(B.length+511)/512*512
 beg:Z.take B.length=B
 sec:∀j,j<(B.length+511)/512->σ.get (l.ring (at_+j))=(Z.drop (j*512)).take 512
theorem L9 (Z:List UInt8)(i:Nat):Z.take (i*512)++(Z.drop (i*512)).take 512=Z.take ((i+1)*512):=by
 rw[fB,lK,List.take_add]
theorem QC {Z B:List UInt8}(h:Z.take B.length=B)(i:Nat)(a:i<=B.length):Z.take i=B.take i:=by
 rw[<-h,jE,dx a]
theorem Te {Z B:List UInt8}(h:Z.take B.length=B)(i j:Nat)(c:i+j<=B.length):(Z.drop i).take j=(B.drop i).take j:=by
 have e:=QC h (i+j) c
 have a:(Z.drop i).take j=(Z.take (i+j)).drop i:=by rw[nQ];congr 1;omega
 have b:(B.drop i).take j=(B.take (i+j)).drop i:=by rw[nQ];congr 1;omega
 rw[a,b,e]
theorem Iq (k:Nat)(a:List (List UInt8)):(gD k a).take 4=leB (gD k a).length 4:=by
 have b:(gD k a).length=16+(gB a).length:=by rw[rP,lC]
 rw[b]
 unfold gD
 simp only[bA]
 rw[gU (bI _ 4)]
theorem Kn (k:Nat)(a:List (List UInt8)):((gD k a).drop 4).take 8=leB k 8:=by
 unfold gD
 simp only[bA]
 rw[eT (bI _ 4),gU (bI _ 8)]
theorem Km (k:Nat)(a:List (List UInt8)):((gD k a).drop 12).take 4=leB (wU (gB a)) 4:=by
 have e:gD k a=(leB (16+(gB a).length) 4++leB k 8)++(leB (wU (gB a)) 4++gB a):=by unfold gD;simp only[bA]
 rw[e,eT (by simp[bI]),gU (bI _ 4)]
theorem Ir (k:Nat)(a:List (List UInt8)):(gD k a).drop 16=gB a:=by
 unfold gD
 rw[eT (by simp[bI])]
theorem tO (r:List UInt8)(a:List (List UInt8)):gB (r::a)=leB r.length 4++r++gB a:=by simp[gB]
theorem Ny (r:List UInt8)(a:List (List UInt8)):(gB (r::a)).take 4=leB r.length 4:=by
 rw[tO,bA,gU (bI _ 4)]
theorem QA (r:List UInt8)(a:List (List UInt8)):((gB (r::a)).take (4+r.length)).drop 4=r:=by
 rw[tO,gU (by simp[bI]),eT (bI _ 4)]
theorem Nw (r:List UInt8)(a:List (List UInt8)):(gB (r::a)).drop (4+r.length)=gB a:=by
 rw[tO,eT (by simp[bI])]
theorem Ih (r:List UInt8)(a:List (List UInt8)):(gB (r::a)).length=4+r.length+(gB a).length:=by
 rw[tO];simp[bI];omega
theorem JP (l:Lg)(z:List UInt8):(l.d9++z).take 12=magic:=by
 unfold Lg.d9 Lg.lG
 simp only[bA]
 rw[gU (by rfl)]
theorem JQ (l:Lg)(z:List UInt8)(i:Nat)(b:i<5):((l.d9++z).drop (12+8*i)).take 8=leB (l.fields.getD i 0) 8:=by
 have e:l.d9++z=magic++(leB l.frm 8++(leB l.n 8++(leB l.start 8++(leB l.first 8++(leB l.synced 8++(leB (wU l.lG) 4++z)))))):=by
  unfold Lg.d9
  generalize wU l.lG=s
  rw[Lg.lG]
  simp only[bA]
 rw[e]
 have a:magic.length=12:=rfl
 rw[show 12+8*i=magic.length+8*i by rw[a],<-nR,Ak]
 match i,b with
 |0,_=>exact gU (bI _ 8)
 |1,_=>rw[eT (bI _ 8)];exact gU (bI _ 8)
 |2,_=>
  rw[show 8*2=8+8 from rfl,<-nR,eT (bI _ 8),eT (bI _ 8)];exact gU (bI _ 8)
 |3,_=>
  rw[show 8*3=8+(8+8) from rfl,<-nR,<-nR,eT (bI _ 8),eT (bI _ 8),eT (bI _ 8)];exact gU (bI _ 8)
 |4,_=>
  rw[show 8*4=8+(8+(8+8)) from rfl,<-nR,<-nR,<-nR,eT (bI _ 8),eT (bI _ 8),eT (bI _ 8),eT (bI _ 8)];exact gU (bI _ 8)
theorem MU (l:Lg)(z:List UInt8):(l.d9++z).take 52=l.lG:=by
 unfold Lg.d9
 rw[bA,gU l.og]
theorem PD (l:Lg)(z:List UInt8):((l.d9++z).drop 52).take 4=leB (wU l.lG) 4:=by
 unfold Lg.d9
 rw[bA,eT l.og,gU (bI _ 4)]
def CS (σ:Dk)(s:Nat->List UInt8):Prop:=∃ks:List Bool,s=(σ.mD ks).sec
def qP (s:Nat->List UInt8)(i:Nat)(x:List UInt8):Nat->List UInt8:=fun j=>if i=j then x else s j
def Al (σ:Dk)(P:(Nat->List UInt8)->Prop):Prop:=∀s,CS σ s->P s
theorem MX (b:List Bool)(a:List (Nat×List UInt8))(p:Nat×List UInt8):kept b (a++[p])=kept b a\/kept b (a++[p])=kept b a++[p]:=by
 have h:=vV b (a++[p]) a.length (by simp)
 rw[aL (by simp),jc] at h
 rw[h]
 split
 ·right;simp
 ·left;simp
theorem DF:∀a:List (Nat×List UInt8),kept (List.replicate a.length true) a=a
 |[]=>rfl
 |p::a=>by
  rw[aZ,List.replicate_succ]
  simp only[kept,jQ]
  rw[DF a]
theorem CS.get (a:Dk):CS a a.get:=⟨List.replicate a.waits.length true,by
 funext i
 show _=behind (kept _ a.waits) i (a.sec i)
 rw[DF];rfl⟩
theorem CS.none {a:Dk}{s:Nat->List UInt8}(h:CS a s)(c:a.waits=[]):s=a.get:=by
 obtain⟨b,rfl⟩:=h
 funext i
 show behind (kept b a.waits) i (a.sec i)=behind a.waits i (a.sec i)
 rw[c,BR]
theorem CS.same {b a:Dk}(d:a.sec=b.sec)(e:a.waits=b.waits){s:Nat->List UInt8}(h:CS a s):CS b s:=by
 obtain⟨c,rfl⟩:=h
 exact⟨c,by unfold Dk.mD;rw[d,e]⟩
theorem CS.put {a:Dk}{i:Nat}{l:List UInt8}{s:Nat->List UInt8}(h:CS (a.put i l) s):CS a s\/∃c,CS a c/\s=qP c i (pad l):=by
 obtain⟨b,rfl⟩:=h
 rcases MX b a.waits (i,pad l) with e|e
 ·left
  refine⟨b,?_⟩
  funext j
  show behind (kept b (a.waits++[(i,pad l)])) j (a.sec j)=_
  rw[e];rfl
 ·right
  refine⟨_,⟨b,rfl⟩,?_⟩
  funext j
  show behind (kept b (a.waits++[(i,pad l)])) j (a.sec j)=_
  rw[e,mY]
  rfl
theorem Al.get {a:Dk}{P:(Nat->List UInt8)->Prop}(h:Al a P):P a.get:=h _ (CS.get a)
theorem Al.same {b a:Dk}{P:(Nat->List UInt8)->Prop}(h:Al b P)(c:a.sec=b.sec)(d:a.waits=b.waits):Al a P:=fun s e=>h s (e.same c d)
theorem Al.eu {a:Dk}{P:(Nat->List UInt8)->Prop}(h:Al a P):Al a.eu P:=h.same a.dh.2.1 a.dh.2.2
theorem Al.put {a:Dk}{P:(Nat->List UInt8)->Prop}(h:Al a P){i:Nat}{l:List UInt8}(b:∀s,P s->P (qP s i (pad l))):Al (a.put i l) P:=fun s c=>by
 rcases c.put with e|⟨d,e,rfl⟩
 ·exact h s e
 ·exact b _ (h _ e)
theorem Al.none {a:Dk}{P:(Nat->List UInt8)->Prop}(h:P a.get)(b:a.waits=[]):Al a P:=fun s c=>by
 rw[c.none b];exact h
theorem Dk.qC (a:Dk)(i:Nat):a.eu.get i=a.get i:=by unfold Dk.get;rw[a.dh.2.1,a.dh.2.2]
theorem zb {a:Dk}(b:a.dead=false){i:Nat}{l:List UInt8}(c:i<a.n)(d:l.length<=512):
  (a.write i l=(a.eu.put i l,0)/\a.eu.dead=false)\/(a.write i l=(a.eu,10)/\a.eu.dead=true):=by
 unfold Dk.write
 rw[b,if_neg (by simp),if_neg (by omega),if_neg (by omega)]
 cases h:a.eu.dead with
 |true=>right;rw[if_pos rfl];exact⟨rfl,rfl⟩
 |false=>left;rw[if_neg (by simp)];exact⟨by simp,rfl⟩
theorem Bh {a:Dk}(b:a.dead=false):(a.sync=(a.eu.flush,0)/\a.eu.dead=false)\/(a.sync=(a.eu,10)/\a.eu.dead=true):=by
 unfold Dk.sync
 rw[b,if_neg (by simp)]
 cases h:a.eu.dead with
 |true=>right;rw[if_pos rfl];exact⟨rfl,rfl⟩
 |false=>left;rw[if_neg (by simp)];exact⟨rfl,rfl⟩
def Ct (s:Nat->List UInt8)(l:Lg)(at_:Nat)(B:List UInt8):Prop:=
 ∃Z:List UInt8,Z.length=(B.length+511)/512*512/\Z.take B.length=B/\∀j,j<(B.length+511)/512->s (l.ring (at_+j))=(Z.drop (j*512)).take 512
theorem Ct.congr {s c:Nat->List UInt8}{l b:Lg}{a:Nat}{B:List UInt8}(h:Ct s l a B)(n:b.frm=l.frm)(k:b.n=l.n)(m:∀j,j<(B.length+511)/512->c (l.ring (a+j))=s (l.ring (a+j))):Ct c b a B:=by
 obtain⟨Z,g,i,f⟩:=h
 refine⟨Z,g,i,fun j d=> ?_⟩
 have e:b.ring (a+j)=l.ring (a+j):=by unfold Lg.ring;rw[n,k]
 rw[e,m j d];exact f j d
theorem FV {l:Lg}{a b:Nat}(j:a<b)(f:b<a+(l.n - 1)):l.ring a≠l.ring b:=by
 unfold Lg.ring
 intro e
 have e:a%(l.n - 1)=b%(l.n - 1):=by omega
 obtain⟨m,g⟩:∃m,m=l.n - 1:=⟨_,rfl⟩
 rw[<-g] at f e
 have d:=Nat.div_add_mod a m
 have i:=Nat.div_add_mod b m
 have c:a/m<=b/m:=Nat.div_le_div_right (by omega)
 rcases Nat.lt_or_eq_of_le c with c|c
 ·have:m*(a/m+1)<=m*(b/m):=Nat.mul_le_mul_left m c
  rw[Nat.mul_add,eY] at this
  omega
 ·rw[c] at d;omega
theorem uM (l:Lg)(a:Nat)(h:2<=l.n)(b:l.frm=0):0<l.ring a/\l.ring a<l.n:=by
 unfold Lg.ring
 have:=mQ a (by omega:0<l.n - 1)
 omega
theorem KN {l:Lg}{a b k m:Nat}(c:a+k<=b)(d:b+m<=a+(l.n - 1)){i j:Nat}(g:i<k)(f:j<m):l.ring (b+j)≠l.ring (a+i):=fun e=>FV (l:=l) (a:=a+i) (b:=b+j) (by omega) (by omega) e.symm
def jI:Nat->List (List (List UInt8))->List (Nat×Nat)
 |_,[]=>[]
 |k,b::r=>(k,bZ b)::jI (k+1) r
theorem wF:∀(r:List (List (List UInt8))) (k:Nat),(jI k r).length=r.length
 |[],_=>rfl
 |b::r,k=>by rw[jI,aZ,aZ,wF r]
theorem ve:∀(r:List (List (List UInt8))) (k:Nat) (b:List (List UInt8)),jI k (r++[b])=jI k r++[(k+r.length,bZ b)]
 |[],_,_=>rfl
 |c::r,k,b=>by
  rw[Wd,jI,ve r,jI,aZ,Wd]
  congr 4
  omega
theorem uZ:∀(r:List (List (List UInt8))) (k i:Nat),(jI k r).take i=jI k (r.take i)
 |[],_,i=>by simp[jI]
 |b::r,k,0=>by simp[jI]
 |b::r,k,i+1=>by rw[jI,iT,uZ r,iT,jI]
def wide (r:List (List (List UInt8))):Nat:=(r.map bZ).sum
theorem zU (a b:List (List (List UInt8))):wide (a++b)=wide a+wide b:=by simp[wide]
theorem wY:∀(r:List (List (List UInt8))) (k:Nat),((jI k r).map (·.2)).sum=wide r
 |[],_=>rfl
 |b::r,k=>by rw[jI,eP,kG,wY r];simp[wide]
theorem yh (b:List (List UInt8)):1<=bZ b:=by unfold bZ;omega
theorem tq (k:Nat)(b:List (List UInt8)):((gD k b).length+511)/512=bZ b:=by rw[rP];rfl
theorem Bb:∀r:List (List (List UInt8)),r.length<=wide r
 |[]=>aC _
 |b::r=>by
  have:=Bb r;have:=yh b
  have e:wide (b::r)=bZ b+wide r:=by simp[wide]
  rw[e,aZ];omega
theorem zi (r:List (List (List UInt8)))(i:Nat):wide (r.take i)<=wide r:=by
 have h:wide r=wide (r.take i)+wide (r.drop i):=by rw[<-zU,bM]
 omega
theorem Da (r:List (List (List UInt8)))(i:Nat)(h:i<r.length):wide (r.take (i+1))=wide (r.take i)+bZ r[i]:=by
 rw[aO h,zU]
 simp[wide]
def oq (s:Nat->List UInt8)(l:Lg)(k:Nat)(bs:List (List (List UInt8))):Prop:=
 ∀i (h:i<bs.length),Ct s l (l.start+wide (bs.take i)) (gD (k+i) bs[i])
theorem oq.congr {s d:Nat->List UInt8}{l b:Lg}{k:Nat}{a:List (List (List UInt8))}(h:oq s l k a)(n:b.frm=l.frm)(g:b.n=l.n)(c:b.start=l.start)(m:∀j,j<wide a->d (l.ring (l.start+j))=s (l.ring (l.start+j))):oq d b k a:=fun i e=>by
 rw[c]
 refine(h i e).congr n g fun j f=> ?_
 rw[tq] at f
 have o:=Da a i e
 have p:=zi a (i+1)
 rw[mR]
 exact m _ (by omega)
theorem oq.set {s:Nat->List UInt8}{l:Lg}{k:Nat}{a:List (List (List UInt8))}(h:oq s l k a){i:Nat}{x:List UInt8}(c:∀j,j<wide a->i≠l.ring (l.start+j)):oq (qP s i x) l k a:=
 h.congr rfl rfl rfl fun j b=>by unfold qP;rw[if_neg (c j b)]
theorem oq.take {s:Nat->List UInt8}{l:Lg}{k:Nat}{a:List (List (List UInt8))}(h:oq s l k a)(m:Nat):oq s l k (a.take m):=fun i c=>by
 rw[aQ] at c
 have b:=h i (by omega)
 rw[jE,dx (by omega),ul]
 exact b
theorem oq.snoc {s:Nat->List UInt8}{l:Lg}{k:Nat}{a:List (List (List UInt8))}(h:oq s l k a){b:List (List UInt8)}(d:Ct s l (l.start+wide a) (gD (k+a.length) b)):oq s l k (a++[b]):=fun i e=>by
 rw[aB,dP] at e
 by_cases c:i<a.length
 ·rw[bW (by omega),List.getElem_append_left c]
  exact h i c
 ·obtain rfl:i=a.length:=by omega
  rw[jc,qJ (by omega)]
  simpa using d
structure pR (s:Nat->List UInt8)(l:Lg)(bs:List (List (List UInt8))):Prop where
 ok:l.Ok
 dead:l.dead=false
 frm:l.frm=0
 mark:s 0=pad l.d9
 uE:l.synced=l.last
 list:l.list=jI (l.last+1 - bs.length) bs
 len:bs.length<=l.last
 on:oq s l (l.last+1 - bs.length) bs
theorem qA {l:Lg}{bs:List (List (List UInt8))}(h:l.list=jI (l.last+1 - bs.length) bs)(a:bs.length<=l.last):l.first=l.last+1 - bs.length:=by
 unfold Lg.first
 cases bs with
 |nil=>rw[h];rfl
 |cons b r=>rw[h];rfl
theorem Gq {l a:Lg}(h:a.fields=l.fields):a.d9=l.d9:=by
 unfold Lg.fields at h
 simp only[List.cons.injEq,and_true] at h
 obtain⟨c,d,b,e,f⟩:=h
 unfold Lg.d9 Lg.lG
 rw[c,d,b,e,f]
def findAll (ims:List Im)(b:Nat):Option (List UInt8):=ims.foldl (fun o im=>(im.find b).or o) none
theorem yF (a:List Im)(c:Im)(b:Nat):findAll (a++[c]) b=(c.find b).or (findAll a b):=by
 unfold findAll
 rw[Cw];rfl
def oC (ims:List Im)(H:Nat->List UInt8)(b:Nat):List UInt8:=(findAll ims b).getD (H b)
theorem Im.Ok.over {m c:Im}{n:Nat}(h:m.Ok n)(b:c.Ok n):(m.over c).Ok n:=by
 unfold Im.over
 refine⟨Im.zH _ _ _ h.rise,fun k a=> ?_,fun k a=> ?_⟩
 ·rcases (Im.vY _ _ _ _).1 a with e|e
  ·exact h.hi k e
  ·exact b.hi k e
 ·rw[Im.uX]
  split
  ·rename_i e;exact b.img k e
  ·rename_i e
   exact h.img k (((Im.vY _ _ _ _).1 a).resolve_right e)
structure Im.NN (im:Im)(N:Nat):Prop where
 ok:im.Ok N
 lo:0<im.ks.length
 hi:im.ks.length<=1024
def fC (ims:List Im):List (List (List UInt8)):=ims.map Im.bg
def sO (s:Nat->List UInt8)(L N k:Nat)(C:Nat->List UInt8):Prop:=
 ∃(l:Lg) (ims:List Im),pR s l (fC ims)/\l.n=L/\l.last=k/\(∀im∈ims,im.NN N)/\∀b,b<N->C b=oC ims (fun b=>s (L+b)) b
theorem sO.congr {s:Nat->List UInt8}{L N k:Nat}{C c:Nat->List UInt8}(h:sO s L N k C)(e:∀b,b<N->c b=C b):sO s L N k c:=by
 obtain⟨l,a,f,g,i,j,m⟩:=h
 exact⟨l,a,f,g,i,j,fun b d=>(e b d).trans (m b d)⟩
def Lg.uE (l:Lg)(m:Nat):Nat:=l.synced+m - l.last
structure Ph (l:Lg)(mark:List UInt8)(ims:List Im)(m L N:Nat)(H:Nat->List UInt8)(s:Nat->List UInt8):Prop where
 mark:s 0=pad mark
 on:oq s l (l.last+1 - ims.length) ((fC ims).take m)
 home:∀b,b<N->s (L+b)=H b
structure Rest (σ:Dk)(l:Lg)(p:Pg)(ims:List Im):Prop where
 lok:l.Ok
 pok:p.Ok σ l
 list:l.list=jI (l.last+1 - ims.length) (fC ims)
 len:ims.length<=l.last
 uE:l.last<=l.synced+ims.length
 bat:∀im∈ims,im.NN (p.blocks σ)
 on:oq σ.get l (l.last+1 - ims.length) (fC ims)
 all:Al σ (Ph l l.d9 ims (l.uE ims.length) p.skip (p.blocks σ) (fun b=>σ.get (p.skip+b)))
 fresh:∀b,p.fresh.find b=findAll ims b
 cap:σ.waits.length<=l.used
 wt:l.synced=l.last->σ.waits=[]
theorem bR (a:List Im):(fC a).length=a.length:=by simp[fC]
theorem Ag (a:List Im)(m:Nat):(fC a).take m=fC (a.take m):=by simp[fC,iG]
theorem Cc:∀(r:List (List (List UInt8))) (k:Nat) (e:Nat×Nat),e∈jI k r->1<=e.2/\k<=e.1/\e.1<k+r.length
 |[],_,_,h=>by cases h
 |b::r,k,e,h=>by
  rcases aW.1 h with rfl|h
  ·exact⟨yh b,aC _,by simp⟩
  ·have:=Cc r (k+1) e h
   rw[aZ]
   omega
theorem Ph.recs {l:Lg}{a:List Im}{m L N:Nat}{H:Nat->List UInt8}{s:Nat->List UInt8}{l':Lg}(h:Ph l l'.d9 a m L N H s)(d:l.Ok)(y:l.frm=0)(B:l.n=L)(g:l.list=jI (l.last+1 - a.length) (fC a))(i:a.length<=l.last)(o:∀p∈a,p.NN N)
  (z:l'.fields=[l.frm,l.n,l.start,l.first,l'.synced]) (D:l'.synced+a.length=l.last+m) (j:m<=a.length):sO s L N l'.synced (oC (a.take m) H):=by
 have q:({l with list:=l.list.take m,used:=((l.list.take m).map (·.2)).sum,last:=l'.synced,synced:=l'.synced,dead:=false}:Lg).list=jI (l'.synced+1 - (a.take m).length) (fC (a.take m)):=by
  show l.list.take m=_
  rw[g,uZ,Ag,aQ,dx j]
  congr 1
  omega
 have f:(a.take m).length=m:=by rw[aQ,dx j]
 have c:=qA (l:=({l with list:=l.list.take m,used:=((l.list.take m).map (·.2)).sum,last:=l'.synced,synced:=l'.synced,dead:=false}:Lg)) (bs:=fC (a.take m)) (by rw[bR];exact q) (by rw[bR,f];show m<=l'.synced;omega)
 have k:=qA (l:=l) (bs:=fC a) (by rw[bR];exact g) (by rw[bR];exact i)
 rw[bR] at k
 rw[bR,f] at c
 have n:((l.list.take m).map (·.2)).sum<=l.n - 1:=by
  have e:=d.sum
  have C:=d.us
  have:l.list=l.list.take m++l.list.drop m:=(bM m l.list).symm
  rw[this,dF,jK] at e
  omega
 refine⟨({l with list:=l.list.take m,used:=((l.list.take m).map (·.2)).sum,last:=l'.synced,synced:=l'.synced,dead:=false}:Lg),a.take m,⟨⟨d.n2,d.hi,d.st,n,?_,aC _,?_,rfl⟩,rfl,y,?_,rfl,by rw[bR];exact q,by rw[bR,f];show m<=l'.synced;omega,?_⟩,B,rfl,fun p A=>o p (kK A),fun b x=> ?_⟩
 ·have:=d.la;show l'.synced<=_;omega
 ·intro e v
  have r:e∈jI (l'.synced+1 - (a.take m).length) (fC (a.take m)):=by rw[<-q];exact v
  have:=Cc _ _ _ r
  rw[bR,f] at this
  refine⟨this.1,?_⟩
  show e.1<=l'.synced
  omega
 ·rw[h.mark]
  congr 1
  refine(Gq ?_).symm
  rw[z]
  unfold Lg.fields
  rw[c,k]
  show [l.frm,l.n,l.start,l'.synced+1 - m,l'.synced]=_
  congr 4
  omega
 ·have t:=h.on
  rw[Ag] at t
  rw[bR,f]
  have e:l'.synced+1 - m=l.last+1 - a.length:=by omega
  show oq s _ (l'.synced+1 - m) _
  rw[e]
  exact t.congr rfl rfl rfl fun _ _=>rfl
 ·unfold oC
  show _=(findAll (List.take m a) b).getD (s (L+b))
  rw[h.home b x]
def pQ (s:Nat->List UInt8)(l:Lg)(ims:List Im)(L N:Nat)(H:Nat->List UInt8)(k:Nat):Prop:=sO s L N k (oC (ims.take (k+ims.length - l.last)) H)
theorem Rest.recs {c:Dk}{l:Lg}{p:Pg}{a:List Im}(h:Rest c l p a):Al c fun s=>pQ s l a p.skip (p.blocks c) (fun b=>c.get (p.skip+b)) l.synced:=fun s d=>by
 have e:=h.lok.sy
 have:=h.uE
 exact(h.all s d).recs (l':=l) h.lok h.pok.frm h.pok.skip.symm h.list h.len h.bat rfl (by unfold Lg.uE;omega) (by unfold Lg.uE;omega)
theorem Gp {a:Dk}(l:Lg)(n:a.dead=false)(r:l.frm<a.n):
  (∃b,l.mark a=(b,l,0)/\b.dead=false/\(a.fuel= -1->b.fuel= -1)/\b.n=a.n/\b.waits=[]/\∀x,b.get x=if l.frm=x then pad l.d9 else a.get x)\/
  (∃b,l.mark a=(b,l.dies,10)/\b.dead=true/\a.fuel≠-1/\b.n=a.n/\∀s,CS b s->∃k,CS a k/\(s=k\/s=qP k l.frm (pad l.d9))):=by
 have f:=a.dh.1
 have c:∀i:Dk,i.dead=false->i.fuel= -1->i.eu.dead=false/\i.eu.fuel= -1:=fun i q p=>by rw[Dk.nH.eu ⟨q,p⟩];exact⟨q,p⟩
 unfold Lg.mark
 rcases zb n r (by rw[l.yw];omega:l.d9.length<=512) with ⟨e,m⟩|⟨e,m⟩
 ·rw[e]
  dsimp only
  rw[if_pos rfl]
  have g:(a.eu.put l.frm l.d9).dead=false:=m
  rcases Bh g with ⟨o,d⟩|⟨o,d⟩
  ·rw[o]
   dsimp only
   rw[if_pos rfl]
   refine .inl ⟨_,rfl,d,fun h=> ?_,?_,rfl,fun x=> ?_⟩
   ·exact(c _ g (c a n h).2).2
   ·show (a.eu.put l.frm l.d9).eu.n=a.n
    exact(Dk.dh _).1.trans f
   ·rw[Dk.nN,Dk.qC,Dk.get_put,a.qC]
  ·rw[o]
   dsimp only
   rw[if_neg (by omega)]
   refine .inr ⟨_,rfl,d,fun h=> ?_,?_,fun s j=> ?_⟩
   ·have:=(c _ g (c a n h).2).1
    rw[d] at this;cases this
   ·exact(Dk.dh _).1.trans f
   ·have j:=j.same (Dk.dh (a.eu.put l.frm l.d9)).2.1 (Dk.dh _).2.2
    rcases j.put with e|⟨k,e,rfl⟩
    ·exact⟨s,e.same a.dh.2.1 a.dh.2.2,.inl rfl⟩
    ·exact⟨k,e.same a.dh.2.1 a.dh.2.2,.inr rfl⟩
 ·rw[e]
  dsimp only
  rw[if_neg (by omega)]
  refine .inr ⟨_,rfl,m,fun h=> ?_,f,fun s j=>⟨s,j.same a.dh.2.1 a.dh.2.2,.inl rfl⟩⟩
  have:=(c a n h).1
  rw[m] at this;cases this
theorem lM {a:Dk}(b:a.dead=false)(c:a.fuel= -1):a.eu.dead=false/\a.eu.fuel= -1:=by rw[Dk.nH.eu ⟨b,c⟩];exact⟨b,c⟩
theorem Ph.Rw {l:Lg}{e a:List UInt8}{c:List Im}{m L N:Nat}{H:Nat->List UInt8}{s:Nat->List UInt8}(h:Ph l e c m L N H s)(d:l.Ok)(i:l.frm=0)(k:l.n=L):Ph l a c m L N H (qP s 0 (pad a)):=by
 have g:=d.n2
 refine⟨by unfold qP;rw[if_pos rfl],h.on.set fun j _=> ?_,fun b f=> ?_⟩
 ·have:=uM l (l.start+j) g i
  omega
 ·unfold qP
  rw[if_neg (by omega)]
  exact h.home b f
def Tq (σ':Dk)(l' l:Lg)(ims:List Im)(L N:Nat)(H:Nat->List UInt8):Prop:=
 l'.last=l.last/\((l'.synced=l.synced/\Al σ' fun s=>pQ s l ims L N H l.synced\/pQ s l ims L N H l.last)\/(l'.synced=l.last/\Al σ' fun s=>pQ s l ims L N H l.last))
theorem Dv {d:Dk}{l:Lg}{p:Pg}{c:List Im}(h:Rest d l p c)(K:d.dead=false)(Q:l.dead=false):
  (∃a,l.sync d=(a,l.all,0)/\a.dead=false/\(d.fuel= -1->a.fuel= -1)/\a.n=d.n/\a.waits=[]/\(∀x,0<x->a.get x=d.get x)/\Rest a l.all p c)\/
  (∃a,l.sync d=(a,l.dies,10)/\a.dead=true/\d.fuel≠-1/\a.n=d.n/\Tq a l.dies l c p.skip (p.blocks d) (fun b=>d.get (p.skip+b))):=by
 have f:=h.lok
 have n:=h.pok
 have A:=n.fit;have g:=n.frm;have i:=n.skip;have r:=n.ring;have p9:=f.sy;have X:=h.uE;have S:=f.n2
 have o:=h.recs
 obtain⟨N,y⟩:∃N,N=p.blocks d:=⟨_,rfl⟩
 rw[<-y] at o ⊢
 obtain⟨H,W⟩:∃H:Nat->List UInt8,H=fun b=>d.get (p.skip+b):=⟨_,rfl⟩
 have k:=h.all
 rw[<-y,<-W] at k
 rw[<-W] at o ⊢
 have F:Ph l l.d9 c c.length p.skip N H d.get:=⟨k.get.mark,by rw[aL (by rw[bR];omega)];exact h.on,k.get.home⟩
 have B:∀s,Ph l l.d9 c c.length p.skip N H s->pQ s l c p.skip N H l.synced:=fun s m=>by
  have D:Ph l l.d9 c (l.uE c.length) p.skip N H s:=⟨m.mark,by
   have:=m.on.take (l.uE c.length)
   rw[jE,dx (by unfold Lg.uE;omega)] at this
   exact this,m.home⟩
  exact D.recs (l':=l) f g i.symm h.list h.len (by rw[y];exact h.bat) rfl (by unfold Lg.uE;omega) (by unfold Lg.uE;omega)
 have pV:l.all.first=l.first:=rfl
 have G:∀s,Ph l l.all.d9 c c.length p.skip N H s->pQ s l c p.skip N H l.last:=fun s m=>by
  have:=m.recs (l':=l.all) f g i.symm h.list h.len (by rw[y];exact h.bat) rfl (by show l.last+_=_;omega) (aC _)
  unfold pQ
  rw[dD]
  exact this
 unfold Lg.sync
 rw[Q,if_neg (by simp)]
 rcases Bh K with ⟨e,I⟩|⟨e,I⟩
 ·rw[e]
  dsimp only
  rw[if_pos rfl]
  have M:d.eu.flush.dead=false:=I
  have t:d.eu.flush.n=d.n:=d.dh.1
  have C:∀x,d.eu.flush.get x=d.get x:=fun x=>by rw[Dk.nN,Dk.qC]
  have T:∀s,CS d.eu.flush s->Ph l l.d9 c c.length p.skip N H s:=fun s m=>by
   rw[m.none rfl,show d.eu.flush.get=d.get from funext C];exact F
  rcases Gp l.all M (show l.frm<d.eu.flush.n by rw[t];omega) with ⟨a,R,D,P,V,v,Z⟩|⟨a,R,D,P,V,v⟩
  ·left
   rw[R]
   dsimp only
   rw[if_pos rfl]
   have Y:∀x,0<x->a.get x=d.get x:=fun x hx=>by
    rw[Z,if_neg (by show l.frm≠x;omega),C]
   have q:a.n=d.n:=V.trans t
   have O:p.blocks a=N:=by rw[y];unfold Pg.blocks;rw[q]
   have E:oq a.get l.all (l.all.last+1 - c.length) (fC c):=h.on.congr rfl rfl rfl fun j _=>Y _ (uM l _ S g).1
   refine⟨a,rfl,D,fun z=>P (lM K z).2,q,v,Y,?_⟩
   refine⟨⟨f.n2,f.hi,f.st,f.us,f.la,aC _,f.ent,f.sum⟩,⟨g,i,r,by rw[q];exact A,by rw[q];exact n.fresh⟩,h.list,h.len,by show l.last<=l.last+_;omega,by rw[O,y];exact h.bat,E,?_,h.fresh,by rw[v];exact aR _,fun _=>v⟩
   refine Al.none ⟨?_,?_,fun b _=>rfl⟩ v
   ·rw[Z,if_pos (by show l.frm=0;exact g)]
   ·rw[aL (by rw[bR];unfold Lg.uE;show _<=l.last+_ - l.last;omega)]
    exact E
  ·right
   rw[R]
   dsimp only
   rw[if_neg (by omega)]
   refine⟨a,rfl,D,fun z=>P (lM K z).2,V.trans t,rfl,.inl ⟨rfl,fun s m=> ?_⟩⟩
   obtain⟨s',J,g2⟩:=v s m
   have J:=T s' J
   rcases g2 with rfl|rfl
   ·exact .inl (B _ J)
   ·right
    rw[show l.all.frm=0 from g]
    exact G _ (J.Rw f g i.symm)
 ·right
  rw[e]
  dsimp only
  rw[if_neg (by omega)]
  refine⟨_,rfl,I,fun z=> ?_,d.dh.1,rfl,.inl ⟨rfl,fun s m=> .inl (o s (m.same d.dh.2.1 d.dh.2.2))⟩⟩
  have:=(lM K z).1
  rw[I] at this;cases this
theorem K6 (p:Pg)(P:(Nat->List UInt8)->Prop):∀(r:List Nat) (d:Dk),d.dead=false->(∀b∈r,p.skip+b<d.n/\(p.fresh.img b).length=512)->(∀s b,b∈r->P s->P (qP s (p.skip+b) (p.fresh.img b)))->Al d P->
  (∃a,p.lay r d=(a,0)/\a.dead=false/\(d.fuel= -1->a.fuel= -1)/\a.n=d.n/\Al a P/\(∀b,a.get (p.skip+b)=if b∈r then p.fresh.img b else d.get (p.skip+b))/\∀j,j<p.skip->a.get j=d.get j)\/
  (∃a,p.lay r d=(a,10)/\a.dead=true/\d.fuel≠-1/\a.n=d.n/\Al a P)
 |[],d,h,_,_,m=> .inl ⟨d,rfl,h,id,rfl,m,fun b=>by simp,fun _ _=>rfl⟩
 |b::r,d,h,B,f,m=>by
  obtain⟨D,A⟩:=B b (aY ..)
  rw[p.yB]
  rcases zb h D (by omega:(p.fresh.img b).length<=512) with ⟨e,l⟩|⟨e,l⟩
  ·rw[e]
   dsimp only
   rw[if_pos rfl]
   have v:(d.eu.put (p.skip+b) (p.fresh.img b)).dead=false:=l
   have i:(d.eu.put (p.skip+b) (p.fresh.img b)).n=d.n:=d.dh.1
   have k:d.fuel= -1->(d.eu.put (p.skip+b) (p.fresh.img b)).fuel= -1:=fun g=>(lM h g).2
   have o:Al (d.eu.put (p.skip+b) (p.fresh.img b)) P:=m.eu.put fun s C=>by
    rw[x9 A];exact f s b (aY ..) C
   rcases K6 p P r _ v (fun c f=>by rw[i];exact B c (bn _ f)) (fun s c G=>f s c (bn _ G)) o with ⟨a,n,z,q,t,y,F,H⟩|⟨a,n,z,q,t,y⟩
   ·refine .inl ⟨a,n,z,fun g=>q (k g),t.trans i,y,fun c=> ?_,fun j E=> ?_⟩
    ·rw[F,Dk.get_put]
     by_cases f:c∈r
     ·rw[if_pos f,if_pos (bn _ f)]
     ·rw[if_neg f]
      by_cases e:c=b
      ·subst e
       rw[if_pos rfl,if_pos (aY ..)]
       exact x9 A
      ·rw[if_neg (by omega),if_neg (fun x=>(aW.1 x).elim e f),d.qC]
    ·rw[H j E,Dk.get_put,if_neg (by omega),d.qC]
   ·exact .inr ⟨a,n,z,fun g=>q (k g),t.trans i,y⟩
  ·rw[e]
   dsimp only
   rw[if_neg (by omega)]
   refine .inr ⟨_,rfl,l,fun g=> ?_,d.dh.1,m.eu⟩
   have:=(lM h g).1
   rw[l] at this;cases this
theorem ES {l:Lg}(h:l.Ok):(l.cut l.last).list=[]/\(l.cut l.last).used=0/\(l.cut l.last).frm=l.frm/\(l.cut l.last).n=l.n/\(l.cut l.last).last=l.last/\(l.cut l.last).synced=l.synced/\(l.cut l.last).dead=l.dead:=by
 have a:=xR l.last l.list (l.n - 1) l.start l.used (fun e b=>(h.ent e b).2)
 refine⟨a.1,?_,rfl,rfl,rfl,rfl,rfl⟩
 show (Lg.qO l.last l.list (l.n - 1) l.start l.used).2.2=0
 rw[a.2.1,h.sum];omega
theorem GR {m:Dk}{l:Lg}{p:Pg}{f:List Im}(h:Rest m l p f)(hd:m.dead=false)(qb:l.dead=false)(q9:p.dead=false):
  (∃g,p.home m l=(g,l.all.cut l.last,{p with fresh:=Im.none},0)/\g.dead=false/\(m.fuel= -1->g.fuel= -1)/\g.n=m.n/\g.waits=[]/\Rest g (l.all.cut l.last) {p with fresh:=Im.none} []/\∀b,b<p.blocks m->g.get (p.skip+b)=oC f (fun b=>m.get (p.skip+b)) b)\/
  (∃g l',p.home m l=(g,l',p.dies,10)/\g.dead=true/\m.fuel≠-1/\g.n=m.n/\Tq g l' l f p.skip (p.blocks m) (fun b=>m.get (p.skip+b))):=by
 have v:=h.pok
 have W:=v.fit;have y:=v.frm;have o:=v.skip;have J:=v.ring;have a:=h.lok
 have qf:=a.n2
 obtain⟨N,hN⟩:∃N,N=p.blocks m:=⟨_,rfl⟩
 obtain⟨H,hH⟩:∃H:Nat->List UInt8,H=fun b=>m.get (p.skip+b):=⟨_,rfl⟩
 have D:=Dv h hd qb
 rw[<-hN,<-hH] at D ⊢
 unfold Pg.home
 rcases D with ⟨t,e1,d1,S,T,w1,g1,R1⟩|⟨t,e1,d1,S,T,D1⟩
 rotate_left
 ·rw[e1]
  dsimp only
  rw[if_neg (by omega)]
  exact .inr ⟨t,_,rfl,d1,S,T,D1⟩
 rw[e1]
 dsimp only
 rw[if_pos rfl]
 have pV:∀b,t.get (p.skip+b)=H b:=fun b=>by rw[hH];exact g1 _ (by omega)
 have qo:p.blocks t=N:=by rw[hN];unfold Pg.blocks;rw[T]
 obtain⟨P,hP⟩:∃P:(Nat->List UInt8)->Prop,P=fun s=>s 0=pad l.all.d9/\oq s l (l.last+1 - f.length) (fC f)/\∀b,b<N->findAll f b=none->s (p.skip+b)=H b:=⟨_,rfl⟩
 have G:∀s,P s->pQ s l f p.skip N H l.last:=fun s k=>by
  rw[hP] at k
  obtain⟨O,Z,a3⟩:=k
  have I:Ph l l.all.d9 f f.length p.skip N (fun b=>s (p.skip+b)) s:=⟨O,by rw[aL (by rw[bR];omega)];exact Z,fun _ _=>rfl⟩
  have:=I.recs (l':=l.all) a y o.symm h.list h.len (by rw[hN];exact h.bat) rfl (by show l.last+_=_;omega) (aC _)
  unfold pQ
  rw[dD]
  refine sO.congr this fun b n=> ?_
  rw[aL (aC _)]
  unfold oC
  cases r:findAll f b with
  |some x=>rfl
  |none=>
   show H b=s (p.skip+b)
   rw[a3 b n r]
 have V:Al t P:=fun s k=>by
  have q:=R1.all s k
  rw[hP]
  refine⟨q.mark,?_,fun b n _=> ?_⟩
  ·have:=q.on
   rw[aL (by rw[bR];unfold Lg.uE;show _<=l.last+_ - l.last;omega)] at this
   exact this.congr rfl rfl rfl fun _ _=>rfl
  ·rw[q.home b (by rw[qo];exact n)]
   exact pV b
 have q8:∀b∈p.fresh.ks,findAll f b=some (p.fresh.img b):=fun b n=>by
  rw[<-h.fresh b];unfold Im.find;rw[if_pos n]
 have K:=v.fresh
 have qc:∀s b,b∈p.fresh.ks->P s->P (qP s (p.skip+b) (p.fresh.img b)):=fun s b n k=>by
  rw[hP] at k ⊢
  obtain⟨O,Z,a3⟩:=k
  have ai:=K.hi b n
  refine⟨by unfold qP;rw[if_neg (by omega)];exact O,Z.set fun j _=> ?_,fun c hc r=> ?_⟩
  ·have:=uM l (l.start+j) qf y
   omega
  ·unfold qP
   by_cases e:b=c
   ·subst e
    rw[q8 b n] at r;cases r
   ·rw[if_neg (by omega)]
    exact a3 c hc r
 rcases K6 p P p.fresh.ks t d1 (fun b n=>⟨by have:=K.hi b n;omega,K.img b n⟩) qc V with ⟨d,e2,R,Y,n2,A2,g2,af⟩|⟨d,e2,R,Y,n2,A2⟩
 ·rw[e2]
  dsimp only
  rw[if_pos rfl]
  have X:∀b,b<N->d.get (p.skip+b)=oC f H b:=fun b n=>by
   rw[g2,pV]
   unfold oC
   rw[<-h.fresh b]
   unfold Im.find
   split<;>rfl
  rcases Bh R with ⟨e3,d3⟩|⟨e3,d3⟩
  ·rw[e3]
   dsimp only
   rw[if_pos rfl]
   have qC:d.eu.flush.dead=false:=d3
   have n3:d.eu.flush.n=m.n:=d.dh.1.trans (n2.trans T)
   have g3:∀x,d.eu.flush.get x=d.get x:=fun x=>by rw[Dk.nN,Dk.qC]
   have hc:=ES (l:=l.all) ⟨a.n2,a.hi,a.st,a.us,a.la,aC _,a.ent,a.sum⟩
   obtain⟨c,B⟩:∃c,c=l.all.cut l.all.last:=⟨_,rfl⟩
   have E:c.Ok:=by rw[B];exact Lg.Ok.cut ⟨a.n2,a.hi,a.st,a.us,a.la,aC _,a.ent,a.sum⟩
   rw[<-B] at hc
   obtain⟨k1,k2,F,M,k5,k6,k7⟩:=hc
   have F:c.frm=0:=F.trans y
   have M:c.n=l.n:=M
   have k5:c.last=l.last:=k5
   have k6:c.synced=l.last:=k6
   have qm:∀s,CS d.eu.flush s->P s:=fun s k=>by
    rw[k.none rfl,show d.eu.flush.get=d.get from funext g3];exact A2.get
   have qy:∀s,CS d.eu.flush s->pQ (qP s 0 (pad c.d9)) l f p.skip N H l.last:=fun s k=>by
    have I:Ph c c.d9 [] 0 p.skip N (oC f H) (qP s 0 (pad c.d9)):=⟨by unfold qP;rw[if_pos rfl],fun i C=>by simp[fC] at C,fun b n=>by
     unfold qP
     rw[if_neg (by omega),k.none rfl,g3]
     exact X b n⟩
    have:=I.recs (l':=c) E F (M.trans o.symm) k1 (aR _) (fun im C=>by cases C) rfl (by show c.synced+0=c.last+0;rw[k6,k5]) (aC _)
    unfold pQ
    rw[dD,aL (aC _),<-k6]
    exact this
   have A:l.all.trim d.eu.flush l.all.last=if (c.mark d.eu.flush).2.2=0 then c.mark d.eu.flush else((c.mark d.eu.flush).1,l.all.dies,10):=by
    unfold Lg.trim
    have hd:l.all.dead=false:=qb
    rw[hd,if_neg (by simp),if_neg (by show ¬l.last<l.last;omega),<-B]
   rcases Gp c qC (by rw[F,n3];omega) with ⟨z,e4,h1,h2,h3,Q,h5⟩|⟨z,e4,h1,h2,h3,Q⟩
   ·left
    rw[A,e4]
    dsimp only
    rw[if_pos rfl]
    dsimp only
    rw[if_pos rfl]
    have p9:z.n=m.n:=h3.trans n3
    have ql:∀b,b<N->z.get (p.skip+b)=oC f H b:=fun b n=>by
     rw[h5,if_neg (by rw[F];omega),g3];exact X b n
    have qO:c=l.all.cut l.last:=B
    rw[<-qO]
    refine⟨z,rfl,h1,fun r=>h2 (lM R (Y (S r))).2,p9,Q,?_,ql⟩
    refine⟨E,⟨F,by rw[M];exact o,by rw[M];exact J,by rw[M,p9];exact W,Im.Ok.none _⟩,k1,aR _,by rw[k5,k6];omega,(fun im C=>by cases C),(fun i C=>by simp[fC] at C),?_,fun b=>rfl,by rw[Q];exact aR _,fun _=>Q⟩
    refine Al.none ⟨by rw[h5,if_pos F],fun i C=>by simp[fC] at C,fun b _=>rfl⟩ Q
   ·right
    rw[A,e4]
    dsimp only
    rw[if_neg (show ¬((10:Int)=0) by omega)]
    dsimp only
    rw[if_neg (show ¬((10:Int)=0) by omega)]
    refine⟨z,_,rfl,h1,fun r=>h2 (lM R (Y (S r))).2,h3.trans n3,rfl,.inr ⟨rfl,fun s k=> ?_⟩⟩
    obtain⟨s',O,Z⟩:=Q s k
    rcases Z with rfl|rfl
    ·exact G _ (qm _ O)
    ·rw[F]
     exact qy _ O
  ·right
   rw[e3]
   dsimp only
   rw[if_neg (by omega)]
   refine⟨_,_,rfl,d3,fun r=> ?_,d.dh.1.trans (n2.trans T),rfl,.inr ⟨rfl,fun s k=>G s (A2 s (k.same d.dh.2.1 d.dh.2.2))⟩⟩
   have:=(lM R (Y (S r))).1
   rw[d3] at this;cases this
 ·right
  rw[e2]
  dsimp only
  rw[if_neg (by omega)]
  exact⟨d,_,rfl,R,fun r=>Y (S r),n2.trans T,rfl,.inr ⟨rfl,fun s k=>G s (A2 s k)⟩⟩
theorem pX (t:List UInt8)(k:Nat):(chunk t k).length=min 512 (t.length - 512*k):=by simp[chunk]
theorem Jk (t:List UInt8)(k:Nat):t.take (512*k)++chunk t k=t.take (512*(k+1)):=by
 unfold chunk
 rw[show 512*(k+1)=512*k+512 by omega,List.take_add]
theorem Tf (M:VS)(σ:cK)(S:Nat->Prop)(w:World)(d:Nat)(t:List UInt8)(c:List (Nat×Nat))(h:Inv σ S M w)(F:qI σ d t c):
  Calls Tryz.prog 522 #[.iface 178 M.agg,.int .i64 d,.int .i64 0,.int .i64 49152] w fun e w'=>e= .returned (.tuple #[.string ⟨t.toArray⟩,.int .i64 0])/\Below w.heap.size w w':=by
 have s:=h.sub
 have HL:=ah (TV M σ S w d t.length c h F.hd)
 have lg:=F.hd.lo
 have kC:=F.hd.s1
 have lG:=F.hd.s2
 have K:=ah F.hd.len
 have qo:=F.hd.runs
 obtain⟨qo,D⟩:=qo
 have eZ:=ah F.hd.ok
 have HI:=ah h
 have bg:=ah F.blk
 have x1:¬(d:Int)<0:=by omega
 have x2:decide ((d:Int)<0)=false:=bU x1
 have m1:min (0:Int) (t.length:Int)=0:=by omega
 have m2:min (49152:Int) (t.length:Int)=(t.length:Int):=by omega
 have hm:∀w,(method 841 178 M.agg "Read").run Tryz.prog w= .ok (136,.pointer (some ⟨M.tx,0,none⟩)) w:=fun _=>by kernel_rfl
 clear h F
 go_enter Tryz.func522,Tryz.ntmps522
 go_wp2_with (first
  |(go_at_call 143;go_must (refine HL.out.mono ?_;rintro e J ⟨lb,v,rfl,hA,q⟩;refine Stop.of ?_)))
 refine Stop.on ?_
 have iO:J.cell? ⟨lb,0,none⟩=some (.int .i64 t.length):=by have:=hA.obj;simp[World.cell?,this]
 have j6:lb<J.heap.size:=(aj.1 hA.obj).1
 have HA:=ah hA;clear hA
 go_upto_region 11 with (fail)
 obtain⟨f,B⟩:∃f,Hid (J.heap.size=f):=⟨_,ah rfl⟩
 obtain⟨G,W⟩:∃G:World,Hid (J.alloc (.cells #[.pointer none,.slice none 0 0] 156)=G):=⟨_,ah rfl⟩
 have R:Below J.heap.size J G:=by rw[<-W.out];exact aG J _
 have X:G.heap[f]? =some (.cells #[.pointer none,.slice none 0 0] 156 (0,0)):=by rw[<-W.out,<-B.out];exact aH J _
 rw[W.out,B.out]
 have o:w.heap.size<=f:=by rw[<-B.out];exact q.size
 have r:f<G.heap.size:=(aj.1 X).1
 have j3:∀g,S g->g<G.heap.size:=fun g E=>aA (s g E) (aI o (gJ r))
 have kz:=ah (EY lb t.length c v w.heap.size S G (HA.out.below R) j3 eZ.out (by omega))
 clear iO j6
 go_wp2_with (first
  |(go_at_call 144;go_must (refine kz.out.mono ?_;rintro e Z ⟨bv,rfl,j,A⟩;refine Stop.of ?_)))
 refine Stop.on ?_
 obtain⟨xo,xc,rfl,_,_,_,_⟩:=bq.form j.dM
 have qy:=(A.block f r).trans X
 have bf:=HI.out.below (q.trans ((R.trans (A.mono (by rw[B.out];omega))).mono q.size))
 have j5:¬S f:=fun x=>absurd (s f x) (aX.2 o)
 have z:uh Z S Z.heap.size f (t.take (512*0)):=⟨j5,_,_,.inl rfl,qy,by rw[Nat.mul_zero,gT];exact aV.nil _ _ _ _ _⟩
 have HO:=ah j
 have l:Below w.heap.size w Z:=(q.trans (R.mono q.size)).trans (A.mono (by omega))
 have j4:=ah bf
 obtain⟨C,P⟩:∃C,Hid (Z.heap.size=C):=⟨_,ah rfl⟩
 rw[P.out] at z
 have l5:f<C:=by rw[<-P.out];exact aA r A.size
 have p9:∀g,S g->g<w.heap.size:=s
 clear j bf qy X
 go_wp2_with fail
 go_loopw [14,15,16,17,18,19,62] (fun _ _ _ _ _ _ i wr=>∃k:Nat,k<=(fP c).length/\i= .int .i64 k/\uh wr S C f (t.take (512*k))/\Keep (fun g=>g=f\/C<=g) Z wr) (fun _ _ _ _ _ _ i _=>(fP c).length - (intOf i).toNat)
 case atStart=>exact⟨0,by omega,rfl,z,Keep.refl _ _⟩
 case round=>
  clear z
  obtain⟨k,hk,rfl,D,n⟩:=hrel
  by_cases qO:k<(fP c).length
  ·have y1:(k:Int)<((fP c).length:Int):=by omega
   have qc:aV wr S G.heap.size 3 1 (.slice xo (fP c).length xc) (fP c).length (ints (fP c)):=HO.out.keep fun g E hl hs=>⟨n.block g hl (fun e=>by
    have:=HO.out.lo g E
    rcases e with e|e
    ·omega
    ·rw[<-P.out] at e;omega),hs⟩
   have V:=qc.dM
   rw[Sr] at V
   have qb:pM wr S (.slice xo (fP c).length xc) ((fP c).map fun (b:Nat)=>(b:Int)):=by unfold pM;rw[jM];exact V
   obtain⟨pb,po,rfl,d1⟩:=qb.at rfl k (by simpa using qO)
   rw[List.getElem_map] at d1
   have lq:=aD wr _ d1
   obtain⟨af,av,I⟩:=bg.out k qO
   have dn:Inv σ S M wr:=j4.out.nY n (fun g E e=>by
    have:=p9 g E
    rcases e with e|e
    ·omega
    ·omega)
   have O:=BA M σ S wr ((fP c)[k]:Nat) dn af
   rw[I] at O
   have pV:=ah O
   obtain⟨bk,qC⟩:∃bk:Nat,Hid ((fP c)[k]=bk):=⟨_,ah rfl⟩
   rw[qC.out] at d1 pV
   have fo:=pX t k
   have d9:512*k<t.length:=by have ql:=K.out;unfold Gi at ql;omega
   obtain⟨m,q9⟩:∃m:Nat,m=min 512 (t.length - 512*k):=⟨_,rfl⟩
   have m3:max (-((k:Int)*512)) 0=0:=by omega
   have m4:min ((t.length:Int) - (k:Int)*512) 512=(m:Int):=by omega
   have T:=ah q9
   have z1:¬(m:Int)<=0:=by omega
   have z2:¬m=0:=by omega
   have z3:m<=512:=by omega
   clear q9 O I qc V av af fo
   go_upto_region 15 with (fail)
   have z4:¬(512:Int)<(m:Int):=by omega
   have z5:(m:Int)<=512:=by omega
   go_wp2_with (refine pV.out.mono ?_;rintro e w4 ⟨dv,rfl,Q,ko,Y⟩;refine Stop.of ?_)
   refine Stop.on ?_
   obtain⟨vo,vc,rfl,n1,lH,_,_⟩:=bq.form Q
   have y:=bq.upto (bq.loose Q) m z3
   have q8:(aF (pad (chunk t k))).take (m*1)=aF (chunk t k):=by
    rw[eY]
    unfold aF pad
    rw[<-iG,bW (by rw[pX,T.out];exact aC _),aL (by rw[pX,T.out];exact aC _)]
   rw[q8] at y
   have p:(chunk t k).length=m:=by rw[pX,T.out]
   have H:=D.below Y
   have qf:C<=w4.heap.size:=by have a:=n.size;have b:=Y.size;rw[<-P.out];omega
   have eH:∀g,S g->g<w4.heap.size:=fun g E=>by have:=p9 g E;have a:=o;omega
   have ai:=Nz C f (t.take (512*k)) (chunk t k) (.slice vo m vc) S w4 H qf eH (by rw[p];exact y) (fun g E=>by
    have h1:=ko g (by cases vo<;>exact E)
    have h2:=n.size
    rw[P.out] at h2
    omega) (by simp;omega) (by rw[p];omega)
   have dM:=ah ai
   have z6:(m:Int)<=(vc:Int):=by omega
   clear Q y q8 p ai H
   go_upto_region 21 with (fail)
   go_wp2_with (first
    |(go_at_call 557;go_must (refine dM.out.mono ?_;rintro e w5 ⟨rfl,qm,jb⟩)))
   go_roundw
   case rel=>exact⟨k+1,by omega,by go_num,by rw[<-Jk];exact qm,(n.trans (Keep.of_below Y (fun g=>g=f\/C<=g)) (fun _ _ e=>e)).trans jb (fun _ _ e=>e)⟩
   case measure=>simp[intOf];omega
  ·obtain rfl:k=(fP c).length:=by omega
   have y1:¬((fP c).length:Int)<((fP c).length:Int):=by omega
   have N:t.take (512*(fP c).length)=t:=aL (by rw[K.out];unfold Gi;omega)
   rw[N] at D
   have jv:=ah (Cm C f t S wr D)
   have kD:=ah N
   clear N
   go_wp2_with (first
    |(go_at_call 67;go_must (refine jv.out.mono ?_;rintro e w5 ⟨rfl,di⟩)))
   go_ret2
   refine⟨rfl,?_⟩
   have h1:Below w.heap.size Z wr:=n.fw l.size (fun i m e=>by
    have:=P.out
    have:=l.size
    omega)
   exact(l.trans h1).trans (di.mono (by
    have:=P.out
    have:=l.size
    omega))
theorem Xw (b:VS)(c:cK)(S:Nat->Prop)(w:World)(a:Nat)(t:List UInt8)(f:List (Nat×Nat))(h:Inv c S b w)(d:qI c a t f):
  Calls Tryz.prog 450 #[.iface 178 b.agg,.int .i64 a] w fun e j=>e= .returned (.tuple #[.string ⟨t.toArray⟩,.int .i64 0])/\Below w.heap.size w j:=by
 have i:=ah (Tf b c S w a t f h d)
 clear h d
 go_enter Tryz.func450,Tryz.ntmps450
 go_wp2_with (first
  |(go_at_call 522;go_must (refine i.out.mono ?_;rintro e k ⟨rfl,g⟩)))
 go_ret2
 exact⟨rfl,g⟩
def Xi (l:List Nat):List Int:=l.map fun (b:Nat)=>(b:Int)
structure WV (w:World)(S:Nat->Prop)(B tkb sb:Nat)(mp:VS)(bs:List Nat):Prop where
 tk:∃v,w.heap[tkb]? =some (.cells #[v] 39 (0,0))/\aV w S B 3 1 v bs.length (ints bs)
 st:w.heap[sb]? =some (.cells #[.iface 178 mp.agg] 265 (0,0))
 n1:¬S tkb
 n2:¬S sb
theorem Hz (s:ByteArray)(W:World)(n:s.size<=1000000):∃(c:Nat) (g:World),(convert 9 154 (.string s)).run Tryz.prog W= .ok (.slice (some ⟨W.heap.size,0,none⟩) s.size c) g/\bq g eG 1 (.slice (some ⟨W.heap.size,0,none⟩) s.size c) s.data.toList.length (aF s.data.toList)/\Below W.heap.size W g:=by
 refine⟨_,_,run_bytes_of_string W 9 154 5 s bH aU dX,?_,?_⟩
 ·have b:s.data.toList.length=s.size:=by show s.data.toList.length=s.data.size;simp
  rw[b]
  refine⟨_,_,rfl,QZ _ _ _ _,tT _ _ _ _ (by simp only[maxLen];omega),by rw[bC,b,eY],(fun e=>by cases e),fun o l=> ?_,fun j u d=> ?_⟩
  ·cases l
   exact⟨rfl,by simp,id⟩
  ·have k:j<s.data.size:=by
    have:=(bO.1 d).1
    rw[bC] at this
    simpa using this
   refine⟨_,_,rfl,?_⟩
   have m:=bytesRow_at s (grownCap W s.size 0 5) j k
   have f:u= .int .u8 (s.data[j].toNat:Int):=by
    unfold aF at d
    rw[dL] at d
    simp at d
    obtain⟨a,i,rfl⟩:=d
    rw[Array.getElem?_eq_getElem k] at i
    cases i;rfl
   rw[f,<-m,fZ]
   unfold World.cell?
   have:(W.drew.alloc (.cells (bytesRow s (grownCap W s.size 0 5)) 5 ((bytesRow s (grownCap W s.size 0 5)).size,(bytesRow s (grownCap W s.size 0 5)).size+1))).heap[W.heap.size]? =some (.cells (bytesRow s (grownCap W s.size 0 5)) 5 ((bytesRow s (grownCap W s.size 0 5)).size,(bytesRow s (grownCap W s.size 0 5)).size+1)):=aH W.drew _
   simp only[this]
   rfl
 ·exact((aJ _ W).drew).trans (aG W.drew _)
structure YC (σ σk:cK)(bs:List Nat):Prop where
 Yk:uG σ σk [] (Xi bs)
 two:∀b∈bs,2<=b/\b<σ.most
 nheld:∀b∈bs,σ.held (b:Nat)=false
 tk:σk.tk<=max σ.tk σk.sz
theorem Fx {P:Program}{o:Oper}{a:Act}{w e:World}{K:Act->World->Prop}{Q:Exit->Act->World->Prop}(b c:TypeId)(x:Operand)(d:o.op= .convert b c x)(s:ByteArray)(g:a.eval x= .string s)(v:Value)(f:(convert b c (.string s)).run P w= .ok v e)(i:K (a.put o.dst v) e):o.wp P a w K Q:=by
 unfold Oper.wp
 simp[execOp,d,g,f,Result.andThen]
 exact i
def rz:List UInt8->Option Nat
 |[a,b,c]=>if a=1 then some (b.toNat+256*c.toNat) else none
 |_=>none
theorem Dc (s:ByteArray)(w:World)(C:s.size<=1000000):
  Calls Tryz.prog 83 #[.string s] w fun e D=>Below w.heap.size w D/\e= .returned (.tuple #[.int .i64 ((rz s.data.toList).getD 0:Nat),.bool (rz s.data.toList).isSome]):=by
 have d:s.data.toList.length=s.size:=by show s.data.toList.length=s.data.size;simp
 by_cases y:s.size=3
 ·have z:(s.size:Int)=3:=by omega
  obtain⟨a,b,c,f⟩:∃a b c,s.data.toList=[a,b,c]:=by
   have:=d.trans y
   revert this
   generalize s.data.toList=l
   intro h
   match l,h with
   |[a,b,c],_=>exact⟨a,b,c,rfl⟩
  have q:s=strOf [a,b,c]:=by
   unfold strOf
   rw[<-f]
  rw[f]
  clear d f y
  subst q
  have j:∀W:World,(Instr.index 9 (.string (strOf [a,b,c])) (.int .i64 0)).run Tryz.prog W= .ok (.int .u8 (a.toNat:Int)) W:=fun W=>o9 _ 0 a rfl W
  have H:∀W:World,(Instr.index 9 (.string (strOf [a,b,c])) (.int .i64 1)).run Tryz.prog W= .ok (.int .u8 (b.toNat:Int)) W:=fun W=>o9 _ 1 b rfl W
  have J:∀W:World,(Instr.index 9 (.string (strOf [a,b,c])) (.int .i64 2)).run Tryz.prog W= .ok (.int .u8 (c.toNat:Int)) W:=fun W=>o9 _ 2 c rfl W
  have k:=b.toNat_lt;have x:=c.toNat_lt
  obtain⟨t,E⟩:∃t,Hid (strOf [a,b,c]=t):=⟨_,ah rfl⟩
  rw[E.out] at j H J C z ⊢
  by_cases o:a=1
  ·subst o
   have f:rz [1,b,c]=some (b.toNat+256*c.toNat):=rfl
   rw[f]
   have M:∀W:World,(Instr.index 9 (.string t) (.int .i64 0)).run Tryz.prog W= .ok (.int .u8 1) W:=j
   clear j f
   have N:IntKind.i64.wrap (b.toNat:Int)=(b.toNat:Int):=aM _ (by omega)
   have P:IntKind.i64.wrap (c.toNat:Int)=(c.toNat:Int):=aM _ (by omega)
   obtain⟨I,g⟩:∃n,n=b.toNat+256*c.toNat:=⟨_,rfl⟩
   have K:IntKind.i64.wrap ((c.toNat:Int)*256)=((256*c.toNat:Nat):Int):=by rw[aM _ (by omega)];omega
   have A:=uQ b.toNat c.toNat 256 I 8 rfl k g (by omega)
   have G:=ah g
   obtain⟨O,p⟩:∃m:Nat,Hid (256*c.toNat=m):=⟨_,ah rfl⟩
   rw[p.out] at K A
   clear g k x
   go_enter Tryz.func83,Tryz.ntmps83
   go_wp2_with fail
   refine aP (fun W=>W=w.drew) (fun i=>true) [0,1,2,3,4,5,6,7,8,9] rfl (by kernel_rfl) rfl ?_
   repeat ((refine bE (v:= ?_) rfl rfl (fun _ _ _ h=>h) rfl (fun W r=> ?_) ?_);rotate_left;(focus ((try dsimp only at r);subst r;(go_simp;first|done|with_reducible rfl)));(try simp only[Act.put,ak,ay,ax]))
   refine bN ?_
   go_wp2_with fail
   go_ret2
   refine⟨(aJ _ w).drew,?_⟩
   rw[<-G.out]
   rfl
  ·have f:rz [a,b,c]=none:=if_neg o
   rw[f]
   have F:¬(a.toNat:Int)=1:=fun e=>o (xE.1 (by show a.toNat=1;omega))
   clear k x f
   go_enter Tryz.func83,Tryz.ntmps83
   go_wp2_with fail
   go_ret2
   exact⟨aJ _ w,rfl⟩
 ·have z:¬(s.size:Int)=3:=by omega
  have B:rz s.data.toList=none:=by
   generalize s.data.toList=l at d
   match l,d with
   |[a,b,c],h=>exact absurd h (by simp;omega)
   |[],_=>rfl
   |[_],_=>rfl
   |[_,_],_=>rfl
   |_::_::_::_::_,_=>rfl
  rw[B]
  go_enter Tryz.func83,Tryz.ntmps83
  go_wp2_with fail
  go_ret2
  exact⟨aJ _ w,rfl⟩
def jZ (er:Int)(key:ByteArray):Int:=if er≠0 then er else if key.size=0\/128<key.size then 1 else 0
def cZ (mp:VS)(tr:Option Nat)(ch:Bool)(er:Int):Array Value:=#[.pointer (some ⟨mp.tx,0,none⟩),.pointer (some ⟨mp.mp,0,none⟩),.pointer (tr.map fun b=>⟨b,0,none⟩),.bool ch,.int .i64 er]
theorem vO (t:Nat)(k:VS)(j:Nat)(l:Bool)(c:Int)(a:ByteArray)(w:World)(h:w.heap[t]? =some (.cells (cZ k (some j) l c) 181 (0,0))):
  Calls Tryz.prog 116 #[.pointer (some ⟨t,0,none⟩),.string a] w fun e n=>n=w/\e= .returned (.int .i64 (jZ c a)):=by
 have q:w.cell? ⟨t,2,none⟩=some (.pointer (some ⟨j,0,none⟩)):=by simp[World.cell?,h,cZ]
 have s:w.cell? ⟨t,4,none⟩=some (.int .i64 c):=by simp[World.cell?,h,cZ]
 have r:=(aj.1 h).1
 have d:a.toList.isEmpty=decide (a.size=0):=by
  rw[toList_eq]
  have:a.data.toList.length=a.size:=by show a.data.toList.length=a.data.size;simp
  rw[<-this]
  cases a.data.toList<;>simp
 clear h
 by_cases f:c=0
 ·subst f
  by_cases i:a.size=0
  ·have b:jZ 0 a=1:=by unfold jZ;rw[if_neg (by simp),if_pos (.inl i)]
   rw[b]
   have g:a.toList.isEmpty=true:=by rw[d];simp[i]
   clear d b
   go_enter Tryz.func116,Tryz.ntmps116
   go_wp2_with fail
   go_ret
   exact⟨rfl,rfl⟩
  ·have g:a.toList.isEmpty=false:=by rw[d];simp[i]
   clear d
   by_cases m:128<a.size
   ·have b:jZ 0 a=1:=by unfold jZ;rw[if_neg (by simp),if_pos (.inr m)]
    rw[b]
    have p:(128:Int)<(a.size:Int):=by omega
    clear b
    go_enter Tryz.func116,Tryz.ntmps116
    go_wp2_with fail
    go_ret
    exact⟨rfl,rfl⟩
   ·have b:jZ 0 a=0:=by unfold jZ;rw[if_neg (by simp),if_neg (by omega)]
    rw[b]
    have p:¬(128:Int)<(a.size:Int):=by omega
    clear b
    go_enter Tryz.func116,Tryz.ntmps116
    go_wp2_with fail
    go_ret
    exact⟨rfl,rfl⟩
 ·have b:jZ c a=c:=if_pos f
  rw[b]
  have o:(c !=0)=true:=by simp[f]
  clear d b
  go_enter Tryz.func116,Tryz.ntmps116
  go_wp2_with fail
  go_ret
  exact⟨rfl,rfl⟩
theorem Uv (t:Nat)(a:VS)(d:Option Nat)(c:Bool)(b e:Int)(w:World)(h:w.heap[t]? =some (.cells (cZ a d c b) 181 (0,0))):
  Calls Tryz.prog 333 #[.pointer (some ⟨t,0,none⟩),.int .i64 e] w fun r f=>r= .returned (.int .i64 e)/\f.heap[t]? =some (.cells (cZ a d c e) 181 (0,0))/\Keep (· =t) w f:=by
 have j:w.cell? ⟨t,4,none⟩=some (.int .i64 b):=by simp[World.cell?,h,cZ]
 have i:w.frozen? ⟨t,4,none⟩=false:=by simp[World.frozen?,h]
 have k:=(aj.1 h).1
 have g:=ah h
 clear h
 go_enter Tryz.func333,Tryz.ntmps333
 go_wp2_with fail
 go_ret
 refine⟨rfl,?_,(Keep.refl (· =t) _).setCell (p:=⟨t,4,none⟩) (.inr rfl) _⟩
 simp[World.setCell,aK,g.out]
 rfl
theorem Ef (g:Option Addr)(s:ByteArray)(w:World)(d:s.size<=1000000)(l:1<=s.size)(c:rz s.data.toList=none):
  Calls Tryz.prog 334 #[.pointer g,.string s] w fun e f=>Below w.heap.size w f/\e= .returned (.tuple #[.string (s.extract 1 s.size),.int .i64 0]):=by
 have b:=ah (Dc s w d)
 rw[c] at b
 have i:min (1:Int) (s.size:Int)=1:=by omega
 have k:(1:Int)<=(s.size:Int):=by omega
 clear c
 go_enter Tryz.func334,Tryz.ntmps334
 go_wp2_with (first
  |(go_at_call 83;go_must (refine b.out.mono ?_;rintro e j ⟨a,rfl⟩)))
 go_ret2
 exact⟨a,rfl⟩
theorem FC (t:Nat)(b:VS)(z:Option Nat)(x:Bool)(A:Int)(d:cK)(S:Nat->Prop)(w:World)(s:ByteArray)(i:Nat)(l:List UInt8)(m:List (Nat×Nat))(h:w.heap[t]? =some (.cells (cZ b z x A) 181 (0,0)))(k:Inv d S b w)(hB:qI d i l m)(r:s.size<=1000000)(n:rz s.data.toList=some i):
  Calls Tryz.prog 334 #[.pointer (some ⟨t,0,none⟩),.string s] w fun e y=>Below w.heap.size w y/\e= .returned (.tuple #[.string ⟨l.toArray⟩,.int .i64 0]):=by
 have p:=ah (Dc s w r)
 rw[n] at p
 have v:=ah h;have q:=ah k
 have c:=(aj.1 h).1
 clear n h k
 go_enter Tryz.func334,Tryz.ntmps334
 go_wp2_with (first
  |(go_at_call 83;go_must (refine p.out.mono ?_;rintro e f ⟨a,rfl⟩;refine Stop.of ?_)))
 refine Stop.on ?_
 have g:=(a.block t c).trans v.out
 have o:=aA c a.size
 have E:f.cell? ⟨t,0,none⟩=some (.pointer (some ⟨b.tx,0,none⟩)):=by simp[World.cell?,g,cZ]
 have D:f.cell? ⟨t,1,none⟩=some (.pointer (some ⟨b.mp,0,none⟩)):=by simp[World.cell?,g,cZ]
 have B:=ah (Xw b d S f i l m (q.out.below a) hB)
 clear g
 go_wp2_with (first
  |(go_at_call 450;go_must (refine B.out.mono ?_;rintro e C ⟨rfl,j⟩)))
 go_ret2
 exact⟨a.trans (j.mono a.size),rfl⟩
def ValAt (σ:cK)(small v:ByteArray)(vb:List Int):Prop:=
 (small=strOf (0::v.data.toList)/\v.size<=63/\vb=[])\/
 ∃hd rs,small=strOf [1,UInt8.ofNat hd,UInt8.ofNat (hd/256)]/\(hd<65536/\63<v.size)/\qI σ hd v.data.toList rs/\vb=lV hd rs
theorem uS (l:List UInt8):rz (0::l)=none:=by
 match l with
 |[]=>rfl
 |[_]=>rfl
 |[_,_]=>rfl
 |_::_::_::_=>rfl
theorem wV (a:Nat)(h:a<65536):rz [1,UInt8.ofNat a,UInt8.ofNat (a/256)]=some a:=by
 show some ((UInt8.ofNat a).toNat+256*(UInt8.ofNat (a/256)).toNat)=some a
 rw[dZ,dZ]
 congr 1
 omega
theorem Jw (v:ByteArray):(strOf (0::v.data.toList)).extract 1 (strOf (0::v.data.toList)).size=v:=by
 have a:(strOf (0::v.data.toList)).size=v.data.toList.length+1:=by show (0::v.data.toList).toArray.size=_;simp
 apply Q7
 rw[uq]
 apply Ec.1
 rw[wQ,a]
 show ((0::v.data.toList).drop 1).take (v.data.toList.length+1 - 1)=v.data.toList
 rw[Ai,kX,dY]
 exact bL
theorem Oo (t:Nat)(d:VS)(i:Option Nat)(f:Bool)(j:Int)(c:cK)(S:Nat->Prop)(w:World)(a v:ByteArray)(o:List Int)(h:w.heap[t]? =some (.cells (cZ d i f j) 181 (0,0)))(k:Inv c S d w)(p:ValAt c a v o):
  Calls Tryz.prog 334 #[.pointer (some ⟨t,0,none⟩),.string a] w fun e n=>Below w.heap.size w n/\e= .returned (.tuple #[.string v,.int .i64 0]):=by
 rcases p with ⟨rfl,g,_⟩|⟨b,l,rfl,g,m,_⟩
 ·have q:(strOf (0::v.data.toList)).size=v.size+1:=by show (0::v.data.toList).toArray.size=v.data.size+1;simp
  have:=Ef (some ⟨t,0,none⟩) (strOf (0::v.data.toList)) w (by omega) (by omega) (uS _)
  rwa [Jw] at this
 ·exact FC t d i f j c S w _ b v.data.toList l h k m (by show [1,UInt8.ofNat b,UInt8.ofNat (b/256)].toArray.size<=_;simp) (wV b g.1)
theorem Ww (t i:Nat)(g:VS)(d:Int)(p:Bool)(j:cK)(S:Nat->Prop)(w:World)(f:List Pr)(y:List Int)(b v:ByteArray)(z:List Int)(h:w.heap[t]? =some (.cells (cZ g (some i) p 0) 181 (0,0)))(l:Inv j S g w)(s:bY w i g d 0)(H:yS j d f y)(G:f.length<=4090)(F:1<=b.size/\b.size<=128)(r:∀a,dK f b=some a->ValAt j a v z):
  Calls Tryz.prog 215 #[.pointer (some ⟨t,0,none⟩),.string b] w fun e E=>e= .returned (.tuple #[.string (if (dK f b).isSome then v else ByteArray.empty),.bool (dK f b).isSome,.int .i64 0])/\Below w.heap.size w E:=by
 have n:=ah (vO t g i p 0 b w h)
 have x:jZ 0 b=0:=by unfold jZ;rw[if_neg (by simp),if_neg (by omega)]
 rw[x] at n
 have k:=ah (BV i g d j S f y b w l s H G F)
 have J:w.cell? ⟨t,2,none⟩=some (.pointer (some ⟨i,0,none⟩)):=by simp[World.cell?,h,cZ]
 have q:=(aj.1 h).1
 have D:=ah h;have C:=ah l
 clear h l x s
 cases m:dK f b with
 |none=>
  rw[m] at k
  clear r
  go_enter Tryz.func215,Tryz.ntmps215
  go_wp2_with (first
   |(go_at_call 116;go_must (refine n.out.mono ?_;rintro e B ⟨rfl,rfl⟩))
   |(go_at_call 332;go_must (refine k.out.mono ?_;rintro e A ⟨rfl,c⟩)))
  go_ret3
  exact⟨rfl,c⟩
 |some a=>
  rw[m] at k
  have I:=ah (r a m)
  clear r
  go_enter Tryz.func215,Tryz.ntmps215
  go_wp2_with (first
   |(go_at_call 116;go_must (refine n.out.mono ?_;rintro e B ⟨rfl,rfl⟩))
   |(go_at_call 332;go_must (refine k.out.mono ?_;rintro e A ⟨rfl,c⟩))
   |(go_at_call 334;go_must (refine(Oo t g (some i) p 0 j S _ a v z ((c.block t q).trans D.out) (C.out.below c) I.out).mono ?_;rintro e K ⟨o,rfl⟩)))
  go_ret3
  exact⟨rfl,c.trans (o.mono c.size)⟩
theorem Jb (t j:Nat)(i:VS)(b:Int)(v:Bool)(E:Int)(k:cK)(S:Nat->Prop)(w:World)(d:List Pr)(q:List Int)(a:ByteArray)(h:w.heap[t]? =some (.cells (cZ i (some j) v E) 181 (0,0)))(o:Inv k S i w)(p:bY w j i b 0)(A:yS k b d q)(z:d.length<=4090)(y:1<=a.size/\a.size<=128)(n:rz ((dK d a).getD ⟨#[]⟩).data.toList=none)(l:((dK d a).getD ⟨#[]⟩).size<=1000000):
  Calls Tryz.prog 492 #[.pointer (some ⟨t,0,none⟩),.string a] w fun e x=>e= .returned (.int .i64 0)/\Below w.heap.size w x:=by
 have r:=ah (BV j i b k S d q a w o p A z y)
 have G:w.cell? ⟨t,2,none⟩=some (.pointer (some ⟨j,0,none⟩)):=by simp[World.cell?,h,cZ]
 have B:=(aj.1 h).1
 obtain⟨c,f⟩:∃s,s=(dK d a).getD ⟨#[]⟩:=⟨_,rfl⟩
 rw[<-f] at r n l
 have C:=ah l
 have D:=ah n
 clear h o p n l f
 go_enter Tryz.func492,Tryz.ntmps492
 go_wp2_with (first
  |(go_at_call 332;go_must (refine r.out.mono ?_;rintro e F ⟨rfl,g⟩))
  |(go_at_call 83;go_must (refine(Dc c _ C.out).mono ?_;rw[D.out];rintro e H ⟨m,rfl⟩)))
 go_ret
 exact⟨rfl,g.trans (m.mono g.size)⟩
theorem Jc (t m:Nat)(f:VS)(c:Int)(I:Bool)(Q:Int)(g:cK)(S:Nat->Prop)(w:World)(n:List Pr)(C:List Int)(d a:ByteArray)(k:Nat)(l:List UInt8)(p:List (Nat×Nat))(h:w.heap[t]? =some (.cells (cZ f (some m) I Q) 181 (0,0)))(o:Inv g S f w)(B:bY w m f c 0)(M:yS g c n C)(K:n.length<=4090)(J:1<=d.size/\d.size<=128)(y:dK n d=some a)(F:rz a.data.toList=some k)(z:a.size<=1000000)(hB:qI g k l p):
  Calls Tryz.prog 492 #[.pointer (some ⟨t,0,none⟩),.string d] w fun e A=>e= .returned (.int .i64 0)/\Inv (g.frees (pG (lV k p))) S f A/\Step S S w A:=by
 have E:=ah (BV m f c g S n C d w o B M K J)
 have V:w.cell? ⟨t,2,none⟩=some (.pointer (some ⟨m,0,none⟩)):=by simp[World.cell?,h,cZ]
 have i:=(aj.1 h).1
 have H:=ah h;have G:=ah o
 rw[y] at E
 have N:=ah z
 have P:=ah F
 clear h o B F z y
 go_enter Tryz.func492,Tryz.ntmps492
 go_wp2_with (first
  |(go_at_call 332;go_must (refine E.out.mono ?_;rintro e R ⟨rfl,j⟩))
  |(go_at_call 83;go_must (refine(Dc a _ N.out).mono ?_;rw[P.out];rintro e x ⟨q,rfl⟩;refine Stop.of ?_)))
 refine Stop.on ?_
 have b:=j.trans (q.mono j.size)
 have r:=(b.block t i).trans H.out
 have D:=aA i b.size
 have X:x.cell? ⟨t,0,none⟩=some (.pointer (some ⟨f.tx,0,none⟩)):=by simp[World.cell?,r,cZ]
 have T:x.cell? ⟨t,1,none⟩=some (.pointer (some ⟨f.mp,0,none⟩)):=by simp[World.cell?,r,cZ]
 have O:=ah (Xx f g S x k l p (G.out.below b) hB)
 clear r
 go_wp2_with (first
  |(go_at_call 537;go_must (refine O.out.mono ?_;rintro e W ⟨rfl,v,s⟩)))
 go_ret
 exact⟨rfl,v,(Step.of_below b).trans s⟩
theorem Wy (v a d:Nat)(c:Dk)(l:Lg)(p:Pg)(f:Value)(S:Nat->Prop)(w:World)(b:w.heap[v]? =some (.cells #[.pointer (some ⟨a,0,none⟩)] 130 (0,0)))(h:iF w S a d c l p f)(m:(l.last:Int)<=1000000000000):
  Calls Tryz.prog 45 #[.pointer (some ⟨v,0,none⟩)] w fun e g=>e= .returned (.int .i64 ((l.last:Int) - 1))/\g=w:=by
 have n:w.cell? ⟨v,0,none⟩=some (.pointer (some ⟨a,0,none⟩)):=by simp[World.cell?,b]
 have i:=(aj.1 b).1
 have j:=ah (TK a d c l p f S w h)
 have q:IntKind.i64.wrap ((l.last:Int) - 1)=(l.last:Int) - 1:=aM _ (by omega)
 clear b h
 go_enter Tryz.func45,Tryz.ntmps45
 go_wp2_with (first
  |(go_at_call 79;go_must (refine j.out.mono ?_;rintro e k ⟨rfl,rfl⟩)))
 go_ret
 exact⟨rfl,rfl⟩
structure V6 (σ:Dk)(l:Lg)(p:Pg):Prop where
 free:σ.nH
 ld:l.dead=false
 pd:p.dead=false
 wt:σ.waits.length<=l.used
theorem Lg.Dg {a:Dk}{l:Lg}(h:a.nH)(b:l.dead=false)(c:l.frm<a.n):l.sync a=((a.flush.put l.frm l.all.d9).flush,l.all,0):=by
 unfold Lg.sync
 rw[b,if_neg (by simp),h.sync]
 dsimp only
 rw[if_pos rfl,Lg.zy h.flush l.all c]
 dsimp only
 rw[if_pos rfl]
 rfl
theorem wX (a:Dk)(f j:Nat)(x:List UInt8)(h:f≠j):((a.flush.put f x).flush).get j=a.get j:=by
 rw[Dk.nN,Dk.get_put,if_neg h,Dk.nN]
theorem Pg.Gw (p:Pg):∀(r:List Nat) (d:Dk),d.nH->(∀b∈r,p.skip+b<d.n/\(p.fresh.img b).length=512)->
  ∃a,p.lay r d=(a,0)/\a.nH/\a.n=d.n/\(∀b,a.get (p.skip+b)=if b∈r then p.fresh.img b else d.get (p.skip+b))/\∀j,j<p.skip->a.get j=d.get j
 |[],d,h,_=>⟨d,rfl,h,rfl,fun b=>by simp,fun _ _=>rfl⟩
 |b::r,d,h,g=>by
  obtain⟨l,k⟩:=g b (aY ..)
  have q:=h.write (p.skip+b) (p.fresh.img b) l (by omega)
  obtain⟨a,i,t,m,n,s⟩:=Pg.Gw p r (d.put (p.skip+b) (p.fresh.img b)) (h.put _ _) (fun c f=>g c (bn _ f))
  refine⟨a,?_,t,m,fun c=> ?_,fun j o=> ?_⟩
  ·rw[p.yB,q]
   dsimp only
   rw[if_pos rfl,i]
  ·rw[n,Dk.get_put]
   by_cases f:c∈r
   ·rw[if_pos f,if_pos (bn _ f)]
   ·rw[if_neg f]
    by_cases e:c=b
    ·subst e
     rw[if_pos rfl,if_pos (aY ..)]
     exact x9 k
    ·rw[if_neg (by omega),if_neg (fun x=>(aW.1 x).elim e f)]
  ·rw[s j o,Dk.get_put,if_neg (by omega)]
theorem Pg.M7 {e:Dk}{l:Lg}{p:Pg}(i:V6 e l p)(g:p.Ok e l):
  ∃d,p.home e l=(d,l.all.cut l.last,{p with fresh:=Im.none},0)/\d.nH/\d.n=e.n/\d.waits=[]/\∀b,d.get (p.skip+b)=(p.fresh.find b).getD (e.get (p.skip+b)):=by
 have t:=g.fit
 have v:=g.frm
 have k:=g.skip
 have m:=g.ring
 have s:=Lg.Dg i.free i.ld (by omega:l.frm<e.n)
 obtain⟨c,a⟩:∃c,c=(e.flush.put l.frm l.all.d9).flush:=⟨_,rfl⟩
 rw[<-a] at s
 have n:c.nH:=by rw[a];exact i.free
 have q:c.n=e.n:=by rw[a];rfl
 have o:∀b,c.get (p.skip+b)=e.get (p.skip+b):=fun b=>by rw[a];exact wX _ _ _ _ (by omega)
 obtain⟨f,y,j,B,C,_⟩:=Pg.Gw p p.fresh.ks c n (fun b r=>⟨by have:=g.fresh.hi b r;omega,g.fresh.img b r⟩)
 have A:=Lg.zy j.flush (l.all.cut l.all.last) (by show l.frm<f.n;omega)
 have x:l.all.trim f.flush l.all.last=(((f.flush).put l.frm (l.all.cut l.all.last).d9).flush,l.all.cut l.all.last,0):=by
  unfold Lg.trim
  have z:l.all.dead=false:=i.ld
  rw[z,if_neg (by simp),if_neg (by show ¬l.last<l.last;omega),A]
  dsimp only
  rw[if_pos rfl]
  rfl
 refine⟨((f.flush).put l.frm (l.all.cut l.all.last).d9).flush,?_,j,by rw[<-q,<-B];rfl,rfl,fun b=> ?_⟩
 ·unfold Pg.home
  rw[s]
  dsimp only
  rw[if_pos rfl,y]
  dsimp only
  rw[if_pos rfl,j.sync]
  dsimp only
  rw[if_pos rfl,x]
  dsimp only
  rw[if_pos rfl]
  rfl
 ·rw[Dk.nN,Dk.get_put,if_neg (by omega),Dk.nN,C,o]
  unfold Im.find
  split<;>rfl
theorem Lg.Bq (l:Lg)(b:List UInt8)(f:2<=l.n):∀(k i:Nat) (c:Dk),c.nH->l.frm+l.n<=c.n->
  ∃a,l.qm b k i c=(a,0)/\a.nH/\a.n=c.n/\a.waits.length=c.waits.length+k/\∀j,l.frm+l.n<=j->a.get j=c.get j
 |0,_,c,h,_=>⟨c,rfl,h,rfl,rfl,fun _ _=>rfl⟩
 |k+1,i,c,h,g=>by
  have s:l.ring (l.start+l.used+i)<l.frm+l.n:=by
   unfold Lg.ring
   have:=mQ (l.start+l.used+i) (by omega:0<l.n - 1)
   omega
  obtain⟨x,d⟩:∃x,x=(b.drop (i*512)).take 512:=⟨_,rfl⟩
  have p:=h.write (l.ring (l.start+l.used+i)) x (by omega) (by rw[d,aQ];omega)
  obtain⟨a,e,r,m,n,q⟩:=Lg.Bq l b f k (i+1) (c.put (l.ring (l.start+l.used+i)) x) (h.put _ _) g
  refine⟨a,?_,r,m,?_,fun j o=> ?_⟩
  ·rw[l.sW,<-d,p]
   dsimp only
   rw[if_pos rfl,e]
  ·rw[n]
   show (c.waits++[_]).length+k=_
   simp;omega
  ·rw[q j o,Dk.get_put,if_neg (by omega)]
theorem Pg.zA (p:Pg)(a:Dk)(b:Nat):p.look Im.none a b=(p.fresh.find b).getD (a.get (p.skip+b)):=rfl
theorem Im.Dr (m d:Im)(b:Nat):(m.over d).find b=if b∈d.ks then some (d.img b) else m.find b:=by
 unfold Im.find Im.over
 rw[Im.uX]
 simp only[Im.vY]
 by_cases h:b∈d.ks
 ·simp[h]
 ·simp[h]
theorem Pg.Dq (p:Pg)(d:Im)(a:Dk)(b:Nat):({p with fresh:=p.fresh.over d}:Pg).look Im.none a b=p.look d a b:=by
 rw[Pg.zA]
 show ((p.fresh.over d).find b).getD (a.get (p.skip+b))=_
 rw[Im.Dr]
 unfold Pg.look
 by_cases h:b∈d.ks
 ·have:d.find b=some (d.img b):=if_pos h
  rw[if_pos h,this];rfl
 ·have:d.find b=none:=if_neg h
  rw[if_neg h,this];rfl
def Pg.ru (p:Pg)(im:Im):Prop:=p.ring<bZ im.bg\/1024<im.ks.length
theorem Hr {σ:Dk}{l:Lg}{p:Pg}{a:Im}(f:V6 σ l p)(q:p.Ok σ l)(M:l.Ok)(X:a.Ok (p.blocks σ)):
  (a.ks=[]/\p.commit σ l a=(σ,l,p,l.last,0))\/
  (a.ks≠[]/\p.ru a/\p.commit σ l a=(σ,l,p,0,13))\/
  (a.ks≠[]/\¬p.ru a/\∃e z r,p.commit σ l a=(e,z,r,l.last+1,0)/\V6 e z r/\z.last=l.last+1/\r.skip=p.skip/\r.ring=p.ring/\e.n=σ.n/\∀b,r.look Im.none e b=p.look a σ b):=by
 have J:=q.fit
 have N:=q.frm
 have A:=q.skip
 have B:=q.ring
 have pV:=M.n2
 by_cases k:a.ks=[]
 ·refine .inl ⟨k,?_⟩
  unfold Pg.commit
  rw[f.pd,if_neg (by simp),if_pos k]
 by_cases n:p.ru a
 ·refine .inr (.inl ⟨k,n,?_⟩)
  unfold Pg.commit
  unfold Pg.ru at n
  rw[f.pd,if_neg (by simp),if_neg k,if_pos n]
 have C:¬(p.ring<bZ a.bg\/1024<a.ks.length):=n
 refine .inr (.inr ⟨k,n,?_⟩)
 have H:0<a.ks.length:=gY.2 k
 obtain⟨s,i⟩:∃s,bZ a.bg=s:=⟨_,rfl⟩
 rw[i] at C
 obtain⟨d,c,g,Y,y,F5,I,E,m,v,S,K,j,G⟩:∃d c g,p.ready σ l s=(d,c,g,0)/\(c.dead=false/\g.dead=false/\d.waits.length<=c.used)/\d.nH/\d.n=σ.n/\g.skip=p.skip/\g.ring=p.ring/\c.last=l.last/\c.frm=l.frm/\c.n=l.n/\s<=c.room/\∀b,g.look a d b=p.look a σ b:=by
  by_cases o:l.room<s
  ·obtain⟨e,D,R,h3,T,Z⟩:=Pg.M7 f q
   have O:=Pg.DI M (p:=p) (σ:=σ) (by rw[D])
   rw[D] at O
   refine⟨e,l.all.cut l.last,{p with fresh:=Im.none},?_,⟨f.ld,f.pd,by rw[T];exact aR _⟩,R,h3,rfl,rfl,rfl,rfl,rfl,by have:=O.2.2.2.1;dsimp only at this;omega,fun b=> ?_⟩
   ·unfold Pg.ready
    rw[if_pos o,D]
   ·unfold Pg.look
    congr 1
    show e.get (p.skip+b)=_
    exact Z b
  ·refine⟨σ,l,p,?_,⟨f.ld,f.pd,f.wt⟩,f.free,rfl,rfl,rfl,rfl,rfl,rfl,by omega,fun _=>rfl⟩
   unfold Pg.ready
   rw[if_neg o]
 have x:c.bad a.bg=0:=by
  have:=Lg.yL (l:=c) X y.1 H (by omega) (by rw[i];exact j)
  rwa [qa] at this
 obtain⟨t,Q,q2,V,W,q5⟩:=Lg.Bq c (gD (c.last+1) a.bg) (by omega) (bZ a.bg) 0 d F5 (by omega)
 have F:c.append d a.bg=(t,c.more a.bg,c.last+1,0):=by
  unfold Lg.append
  rw[x,if_neg (by simp),Q]
  dsimp only
  rw[if_pos rfl]
 have P:=Pg.sF f.pd k i (by omega) Y F
 rw[if_pos rfl] at P
 refine⟨t,c.more a.bg,{g with fresh:=g.fresh.over a},?_,⟨q2,y.1,y.2.1,?_⟩,?_,E,m,V.trans I,fun b=> ?_⟩
 ·rw[P,v]
 ·show _<=c.used+bZ a.bg
  rw[W];have:=y.2.2;omega
 ·show c.last+1=_
  rw[v]
 ·rw[Pg.Dq,<-G]
  unfold Pg.look
  rw[q5 _ (by omega)]
theorem Md {c:Dk}{l:Lg}{p:Pg}(d:V6 c l p)(f:p.Ok c l):
  ∃a e,p.sync c l=(a,e,p,0)/\V6 a e p/\e.last=l.last/\e.synced=l.last/\a.n=c.n/\∀j b,p.look j a b=p.look j c b:=by
 have m:=f.fit
 have n:=f.frm
 have g:=f.skip
 have k:=f.ring
 unfold Pg.sync
 rw[d.pd,if_neg (by simp)]
 by_cases i:l.synced=l.last/\c.dead=false
 ·rw[if_pos i]
  exact⟨c,l,rfl,d,rfl,i.1,rfl,fun _ _=>rfl⟩
 ·rw[if_neg i,Lg.Dg d.free d.ld (by omega)]
  dsimp only
  rw[if_pos rfl]
  refine⟨_,_,rfl,⟨d.free,d.ld,d.pd,aR _⟩,rfl,rfl,rfl,fun j b=> ?_⟩
  unfold Pg.look
  rw[wX _ _ _ _ (by omega)]
end Go.Proofs.YtpmbddooibgnaaaGreatDoor
