/- parts -/
import Derived.Test.YtpgdljlghiifjaaGreatDoorM25
import Derived.Test.YtpgdljlghiifjaaGreatDoorM26
import Derived.Laws.Runes
import Derived.Scope
import Derived.Test.YtpgdljlghiifjaaGreatDoorRows
import Derived.Deep.Strs
import Derived.Lib.SmallJoins
import Derived.Lib.LaidU8T
import Derived.Lib.LaidIn
import Derived.ProofKit
import Derived.LaidLaws
import Derived.Stop.Joined
import Derived.MakeChecks
set_option maxRecDepth 100000
set_option maxHeartbeats 8000000
set_option linter.all false
namespace Go.Proofs.YtpgdljlghiifjaaGreatDoor
open Go.RowKit
theorem Ob (now:Int)(ps:List LP):(ps.filter (Dq fun l=>decide (l.till<=now))).map (·.1)=live now (ps.map (·.1)):=by
 unfold live
 rw[List.filter_map]
 congr 1
 apply List.filter_congr
 intro p _
 show (!decide (p.1.till<=now))=decide (now<p.1.till)
 by_cases h:p.1.till<=now
 ·rw[bZ h,aZ (by omega)];rfl
 ·rw[aZ h,bZ (by omega)];rfl
theorem IY (now:Int)(ls:List bI):mQ (fun l=>decide (l.till<=now)) ls ls.length=live now ls:=by
 rw[Ll]
 unfold live
 apply List.filter_congr
 intro l _
 by_cases h:l.till<=now
 ·rw[bZ h,aZ (by omega)];rfl
 ·rw[aZ h,bZ (by omega)];rfl
theorem RL (F:Nat->Prop)(v t b:Nat)(ls:List bI)(now:Int)(w:World)(h:LT F v t b ls w):
  Calls Tryz.prog 21 #[.pointer (some ⟨b,0,none⟩),.int .i64 now] w fun e w'=>∃x,e= .returned (.tuple #[x,.int .i64 0])/\TM w (live now ls) x w':=by
 have hb1:=aK w (.cells #[.int .i64 now] 2)
 have hn1:=aP w (.cells #[.int .i64 now] 2)
 obtain⟨w1,hw1⟩:∃w1:World,Hid (w.alloc (.cells #[.int .i64 now] 2)=w1):=⟨_,af rfl⟩
 rw[hw1.out] at hb1 hn1
 obtain⟨nb,hnb⟩:∃nb:Nat,Hid (w.heap.size=nb):=⟨_,af rfl⟩
 rw[hnb.out] at hn1
 have c1:w1.cell? ⟨nb,0,none⟩=some (.int .i64 now):=by simp[World.cell?,hn1]
 have hnl:=(aj.1 hn1).1
 have HL:=af (KC F v t b ls w1 (h.below hb1))
 have HX:=af (aC hb1 (aC c1 (aC hnl h)))
 clear h hb1 hn1 c1 hnl
 go_enter Tryz.func21,Tryz.ntmps21
 go_upto_region 1 with (fail)
 rw[hw1.out,hnb.out]
 go_wp2_with (first
  |(go_at_call 42;go_must (refine HL.out.mono ?_;rintro e w2 ⟨x,rfl,ps,hps,hx,hpp,hb2⟩;refine Stop.of ?_)))
 refine Stop.on ?_
 have hlen:ps.length<=33:=by
  have:=HX.out.2.2.2.ok.len
  rw[<-hps,eX] at this
  exact this
 have hq:∀w3,Keep (fun y=>x.ownBlock=some y) w2 w3->w3.cell? ⟨nb,0,none⟩=some (.int .i64 now)/\nb<w3.heap.size:=by
  intro w3 hk
  have h1:=HX.out.2.2.1
  have h2:=ax h1 hb2.size
  have hne:¬x.ownBlock=some nb:=fun e=>by
   have:=hx.lo nb e
   omega
  exact⟨(hk.cell (p:=⟨nb,0,none⟩) h2 hne).trans ((hb2.cell (p:=⟨nb,0,none⟩) h1).trans HX.out.2.1),ax h2 hk.size⟩
 have HD:=af (Qt 44 #[.pointer (some ⟨nb,0,none⟩)] (fun l=>decide (l.till<=now)) _ (fun _ _=>rfl) (Oc nb now) x ps w1.heap.size w2 hx (fun p hp=>cZ.keep (hpp p hp) fun g _ _ hn=>⟨rfl,fun e=>hn (.inl e)⟩) hq)
 have HY:=af (aC hps (aC hx (aC hpp hb2)))
 have hform:=cZ.form hx.rF
 clear hps hpp hb2 hlen hq hx
 obtain⟨xo,xc,rfl,_,_,_,_⟩:=hform
 go_wp2_with (first
  |(go_at_call 43;go_must (refine HD.out.mono ?_;rintro e w3 ⟨v',rfl,hv',hob,hk3⟩)))
 go_ret2
 have hw:=hnb.out
 have hbA:=HX.out.1
 have hB:=HY.out.2.2.2
 refine⟨_,rfl,_,?_,hv'.lower hbA.size,fun p hp=> ?_,?_⟩
 ·rw[Ob,HY.out.1]
 ·have hp':=(List.mem_filter.1 hp).1
  refine cZ.keep (HY.out.2.2.1 p hp') fun g hg hl hn=>⟨hk3.block g hl (fun e=>hn (.inl e)),fun e=>hn (e.imp (fun e=>hob▸e) (fun e=>ax e hbA.size))⟩
 ·refine(hbA.trans (hB.mono hbA.size)).trans (hk3.iH (aH hbA.size hB.size) fun g hg e=> ?_)
  have:=HY.out.2.1.lo g e
  have:=hbA.size
  omega
end Go.Proofs.YtpgdljlghiifjaaGreatDoor
namespace Go.Proofs.YtpgdljlghiifjaaGreatDoor
open Go.RowKit Go.Shelf
theorem Ml (s:ByteArray)(pos:Nat)(h:pos<s.size)(ha:128<=(s.get! pos).toNat):
  pos+(Utf8.decode s pos).2<=s.size/\∀j,pos<=j->j<pos+(Utf8.decode s pos).2->128<=(s.get! j).toNat:=by
 rw[Lib.decode_at]
 unfold Lib.decodeN
 split
 ·omega
 split
 ·split
  ·refine⟨by dsimp only;omega,fun j h1 h2=> ?_⟩
   dsimp only at h2
   have h3:j=pos\/j=pos+1:=by omega
   rcases h3 with rfl|rfl<;>omega
  ·refine⟨by dsimp only;omega,fun j h1 h2=> ?_⟩
   dsimp only at h2
   obtain rfl:j=pos:=by omega
   exact ha
 split
 ·split
  ·refine⟨by dsimp only;omega,fun j h1 h2=> ?_⟩
   dsimp only at h2
   have h3:j=pos\/j=pos+1\/j=pos+2:=by omega
   rcases h3 with rfl|rfl|rfl<;>omega
  ·refine⟨by dsimp only;omega,fun j h1 h2=> ?_⟩
   dsimp only at h2
   obtain rfl:j=pos:=by omega
   exact ha
 split
 ·split
  ·refine⟨by dsimp only;omega,fun j h1 h2=> ?_⟩
   dsimp only at h2
   have h3:j=pos\/j=pos+1\/j=pos+2\/j=pos+3:=by omega
   rcases h3 with rfl|rfl|rfl|rfl<;>omega
  ·refine⟨by dsimp only;omega,fun j h1 h2=> ?_⟩
   dsimp only at h2
   obtain rfl:j=pos:=by omega
   exact ha
 ·refine⟨by dsimp only;omega,fun j h1 h2=> ?_⟩
  dsimp only at h2
  obtain rfl:j=pos:=by omega
  exact ha
theorem KJ (s:ByteArray)(j:Nat)(h:j<s.size):s.data.toList[j]? =some (s.get! j):=by
 rw[Utf8W.get!_of_lt s j h]
 exact Lib.data_getElem? s j h
theorem Qp {b:UInt8}(h:128<=b.toNat):([47,0]:List UInt8).contains b=false:=by
 cases hc:([47,0]:List UInt8).contains b with
 |false=>rfl
 |true=>
  have:=List.contains_iff_mem.1 hc
  simp at this
  rcases this with rfl|rfl<;>exact absurd h (by decide)
theorem Jo {s:ByteArray}{i n:Nat}(h:Lib.NoAny s.data.toList [47,0] i)(hs:i+n<=s.size)(hh:∀j,i<=j->j<i+n->128<=(s.get! j).toNat):Lib.NoAny s.data.toList [47,0] (i+n):=fun j b hj hb=>by
 by_cases e:j<i
 ·exact h j b e hb
 ·rw[KJ s j (by omega)] at hb
  rw[<-iB hb]
  exact Qp (hh j (by omega) hj)
section
variable {P:Program} {ρ:Ren}
theorem run_next_at (W:World)(b:Nat)(s:ByteArray)(pos:Nat)(ty:TypeId)(hW:W.heap[b]? =some (.stringIter s pos))(h:pos<s.size):
  (Instr.next (.pointer (some ⟨b,0,none⟩)) true ty).run P W= .ok (.tuple #[.bool true,.int .i64 pos,.int .i32 (Utf8.decode s pos).1]) {W with heap:=W.heap.setIfInBounds b (.stringIter s (pos+(Utf8.decode s pos).2))}:=by
 simp only[Instr.next,getObj,setObj,jS,Sem.run,hW,Result.andThen,h,iw]
 simp[goInt]
theorem Cy (W:World)(b:Nat)(s:ByteArray)(pos:Nat)(ty:TypeId)(hW:W.heap[b]? =some (.stringIter s pos))(h:¬pos<s.size):
  (Instr.next (.pointer (some ⟨b,0,none⟩)) true ty).run P W= .ok (.tuple #[.bool false]) W:=by
 simp[Instr.next,getObj,Sem.run,hW,h]
end
theorem OD (r:Int)(h:128<=r):(∃x y:UInt8,Utf8.encode r=⟨#[x,y]⟩/\128<=y.toNat)\/(3<=(Utf8.encode r).size/\(Utf8.encode r).size<=4):=by
 unfold Utf8.encode
 have hc:128<=(if Utf8.valid r=true then r.toNat else Utf8.runeError):=by
  split
  ·omega
  ·decide
 generalize (if Utf8.valid r=true then r.toNat else Utf8.runeError)=c at hc
 dsimp only
 split
 ·omega
 split
 ·refine .inl ⟨_,_,rfl,?_⟩
  rw[eZ]
  omega
 split
 ·exact .inr ⟨aG 3,by show 3<=4;omega⟩
 ·exact .inr ⟨by show 3<=4;omega,aG 4⟩
theorem Qh {P:Program}(w:World)(ty:TypeId):(Instr.next (.pointer (some ⟨w.heap.size,0,none⟩)) true ty).run P (w.iter ⟨#[47,0]⟩ 0)= .ok (.tuple #[.bool true,.int .i64 0,.int .i32 47]) (w.iter ⟨#[47,0]⟩ 1):=run_next_ascii w ⟨#[47,0]⟩ 0 ty (by decide) (by decide)
theorem RH {P:Program}(w:World)(ty:TypeId):(Instr.next (.pointer (some ⟨w.heap.size,0,none⟩)) true ty).run P (w.iter ⟨#[47,0]⟩ 1)= .ok (.tuple #[.bool true,.int .i64 1,.int .i32 0]) (w.iter ⟨#[47,0]⟩ 2):=run_next_ascii w ⟨#[47,0]⟩ 1 ty (by decide) (by decide)
theorem RG {P:Program}(w:World)(ty:TypeId):(Instr.next (.pointer (some ⟨w.heap.size,0,none⟩)) true ty).run P (w.iter ⟨#[47,0]⟩ 2)= .ok (.tuple #[.bool false]) (w.iter ⟨#[47,0]⟩ 2):=run_next_end w ⟨#[47,0]⟩ 2 ty (by decide)
theorem Qm (r:Int)(w:World)(h0:128<=r)(h1:r<=2147483647):
  Calls Tryz.prog 164 #[.string ⟨#[47,0]⟩,.int .i32 r] w fun e w'=>e= .returned (.int .i64 (-1))/\Below w.heap.size w w':=by
 have h0z:¬r<128:=by omega
 have h0y:(0:Int)<=r:=by omega
 by_cases h65:r=65533
 ·subst h65
  go_enter Q9,Tryz.ntmps164
  go_upto_region 38 with (fail)
  go_loopg [5,6] 2 (fun g _ _ wx=>(g=2/\wx=w.iter ⟨#[47,0]⟩ 0)\/(g=1/\wx=w.iter ⟨#[47,0]⟩ 1)\/(g=0/\wx=w.iter ⟨#[47,0]⟩ 2))
  case atStart=>exact .inl ⟨rfl,rfl⟩
  case round=>
   have n0:=Qh (P:=Tryz.prog) w;have n1:=RH (P:=Tryz.prog) w;have n2:=RG (P:=Tryz.prog) w
   rcases hrel with ⟨rfl,rfl⟩|⟨rfl,rfl⟩|⟨rfl,rfl⟩
   ·go_wp2_with fail
    go_roundg 1
    case measure=>omega
    case rel=>exact .inr (.inl ⟨rfl,rfl⟩)
   ·go_wp2_with fail
    go_roundg 0
    case measure=>omega
    case rel=>exact .inr (.inr ⟨rfl,rfl⟩)
   ·go_wp2_with fail
    go_ret
    exact⟨rfl,aK w _⟩
 ·have h65b:(r==65533)=false:=cu.2 h65
  cases hv:Lib.validRune r with
  |false=>
   go_enter Q9,Tryz.ntmps164
   go_wp2_with (go_at_call 198;refine(Any.utf8_ValidRune (ρ:=mY) {xg with} _ _).mono ?_;rintro e w' ⟨rfl,hw⟩;rw[hw,hv])
   go_ret
   exact⟨rfl,aO _ _⟩
  |true=>
   have hcv:∀W:World,(Go.convert 21 9 (.int .i32 r)).run Tryz.prog W= .ok (.string (Utf8.encode r)) W:=fun W=>run_convert_int_string W _ _ _ _ (by kernel_rfl) eG
   rcases OD r h0 with ⟨x,y,he,hy⟩|⟨hs3,hs4⟩
   ·have hy0:((0:Int)==(y.toNat:Int))=false:=cu.2 (by omega)
    have hsz:(⟨#[x,y]⟩:ByteArray).size=2:=rfl
    have hb1:(⟨#[47,0]⟩:ByteArray)[1]'(by decide)=0:=rfl
    have hb2:(⟨#[x,y]⟩:ByteArray)[1]'(by show 1<2;decide)=y:=rfl
    have hw2:IntKind.i64.wrap 2=2:=rfl
    have hxt:(⟨#[47,0]⟩:ByteArray).extract 2 2=⟨#[]⟩:=by decide
    have hib:∀(c:Int) (W:World),Calls Tryz.prog 197 #[.string ⟨#[]⟩,.int .u8 c] W fun e w'=>e= .returned (.int .i64 (-1))/\w'=W:=fun c W=>Any.strings_IndexByte (ρ:=mY) {xg with} ⟨#[]⟩ c W
    rw[he] at hcv
    go_enter Q9,Tryz.ntmps164
    go_upto_region 5 with (go_at_call 198;refine(Any.utf8_ValidRune (ρ:=mY) {xg with} _ _).mono ?_;rintro e w' ⟨rfl,hw⟩;rw[hw,hv])
    refine TP ?_
    go_upto_region 5 with (fail)
    go_loopw [9,10,11,12] (fun i _ _ _ wr=>i= .int .i64 1/\wr=w) (fun _ _ _ _ _=>0)
    case atStart=>exact⟨rfl,rfl⟩
    case round=>
     obtain⟨rfl,hwr⟩:=hrel
     subst wr
     go_wp2_with (fail)
     refine TP ?_
     go_wp2_with (fail)
     refine aS (fun W=>W=w.drew) (fun _=>true) [0,1,2,3,4,5,6] rfl (by kernel_rfl) rfl ?_
     repeat ((refine bL (v:= ?_) rfl rfl (fun _ _ _ h=>h) rfl (fun W hW=> ?_) ?_);rotate_left;(focus ((try dsimp only at hW);subst hW;(go_simp;first|done|with_reducible rfl)));(try simp only[Act.put,ah,au,ak]))
     refine bR ?_
     go_wp2_with (fail)
     refine aS (fun W=>W=w.drew.drew) (fun i=> !([7].contains i)) [0,1,2,3,4,5,6,7,8] rfl (by kernel_rfl) rfl ?_
     repeat ((refine bL (v:= ?_) rfl rfl (fun _ _ _ h=>h) rfl (fun W hW=> ?_) ?_);rotate_left;(focus ((try dsimp only at hW);subst hW;(go_simp;first|done|with_reducible rfl)));(try simp only[Act.put,ah,au,ak]))
     refine dm rfl rfl rfl ?_;intro K hK;go_simp
     refine(hib _ _).mono ?_;rintro e w4 ⟨rfl,hw4⟩;subst w4
     refine hK.out _ _ rfl ?_
     repeat ((refine bL (v:= ?_) rfl rfl (fun _ _ _ h=>h) rfl (fun W hW=> ?_) ?_);rotate_left;(focus ((try dsimp only at hW);subst hW;(go_simp;first|done|with_reducible rfl)));(try simp only[Act.put,ah,au,ak]))
     refine bR ?_
     go_wp2_with (fail)
     dsimp (config:={zetaDelta:=true}) only[Exit.noGoto,Exit.inBlock,Exit.then]
     go_ret
     exact⟨rfl,((aO _ w).drew).drew⟩
   ·have h3:¬((Utf8.encode r).size:Int) - 1<2:=by omega
    have h4:(0:Int)<=((Utf8.encode r).size:Int) - 1:=by omega
    obtain⟨E,hE⟩:∃E,Hid (Utf8.encode r=E):=⟨_,af rfl⟩
    rw[hE.out] at hcv h3 h4 hs3 hs4
    have hw64:wrap64 ((E.size:Int) - 1)=(E.size:Int) - 1:=by unfold wrap64;omega
    go_enter Q9,Tryz.ntmps164
    go_upto_region 5 with (go_at_call 198;refine(Any.utf8_ValidRune (ρ:=mY) {xg with} _ _).mono ?_;rintro e w' ⟨rfl,hw⟩;rw[hw,hv])
    refine TP ?_
    go_upto_region 5 with (fail)
    go_loopw [9,10,11,12] (fun i _ _ _ wr=>i= .int .i64 ((E.size:Int) - 1)/\wr=w) (fun _ _ _ _ _=>0)
    case atStart=>exact⟨by first|rfl|(rw[hw64])|go_num,rfl⟩
    case round=>
     obtain⟨rfl,hwr⟩:=hrel
     subst wr
     go_wp2_with (fail)
     dsimp only[Exit.noGoto]
     go_ret
     exact⟨rfl,aO _ _⟩
theorem RO (r:Int)(w:World)(h0:0<=r)(h1:r<=2147483647):
  Calls Tryz.prog 164 #[.string ⟨#[47,0]⟩,.int .i32 r] w fun e w'=>(∃z:Int,e= .returned (.int .i64 z)/\(r<128->z=Lib.indexByte [47,0] r.toNat.toUInt8)/\(128<=r->z= -1))/\Below w.heap.size w w':=by
 by_cases h:r<128
 ·have hc:Calls Tryz.prog 164 #[.string ⟨#[47,0]⟩,.int .i32 r] w _:=Any.strings_IndexRune_ascii (ρ:=mY) {xg with} ⟨#[47,0]⟩ r w h0 h
  refine hc.mono ?_
  rintro e w' ⟨rfl,rfl⟩
  exact⟨⟨_,rfl,fun _=>rfl,fun e=>absurd h (by omega)⟩,aO _ _⟩
 ·refine(Qm r w (by omega) h1).mono ?_
  rintro e w' ⟨rfl,hb⟩
  exact⟨⟨_,rfl,fun e=>absurd e h,fun _=>rfl⟩,hb⟩
theorem CP (b:UInt8):([47,0]:List UInt8).contains b=decide (0<=Lib.indexByte [47,0] b):=Lib.contains_iff_indexByte [47,0] b
theorem Ov (s:ByteArray)(w:World)(h8:s.size<=8):
  Calls Tryz.prog 127 #[.string s,.string ⟨#[47,0]⟩] w fun e w'=>e= .returned (.int .i64 (Lib.indexAny s.data.toList [47,0]))/\Below w.heap.size w w':=by
 have hse:∀w,Calls Tryz.prog 165 #[.int .i64 s.size] w fun e w'=>e= .returned (.bool false)/\w'=w:=fun w=>by
  have:=Any.strings_shouldUseASCIISet (P:=Tryz.prog) (ρ:=mY) {xg with} s.size w
  rw[aZ (by omega)] at this
  exact this
 have hcs:(⟨#[47,0]⟩:ByteArray).size=2:=rfl
 go_enter Tryz.func127,Tryz.ntmps127
 go_wp2_with (go_at_call 165;refine(hse _).mono ?_;rintro e w' ⟨rfl,hw⟩;rw[hw])
 go_loopg [9,10] (s.size+1) (fun g _ _ wx=>∃i:Nat,i<=s.size/\g=s.size+1 - i/\wx.heap[w.heap.size]? =some (.stringIter s i)/\Below w.heap.size w wx/\Lib.NoAny s.data.toList [47,0] i)
 case atStart=>exact⟨0,aX _,rfl,World.iter_heap w s 0,aK w _,Lib.NoAny.zero _ _⟩
 case round=>
  obtain⟨i,hi,rfl,hit,hb,hno⟩:=hrel
  by_cases hil:i<s.size
  ·have hnx:=fun ty=>run_next_at (P:=Tryz.prog) wr w.heap.size s i ty hit hil
   have hle:=decode_le s i
   have hgb:s.get! i=s[i]'hil:=Utf8W.get!_of_lt s i hil
   have hat:=KJ s i hil
   have hb1:Below w.heap.size w {wr with heap:=wr.heap.setIfInBounds w.heap.size (.stringIter s (i+(Utf8.decode s i).2))}:=by
    refine⟨hb.os,hb.tape,hb.output,by simpa using hb.size,fun k hk=> ?_⟩
    rw[<-hb.block k hk]
    simp only[xw]
    rw[if_neg (by omega)]
   have hlt:=(aj.1 hit).1
   have hit1:({wr with heap:=wr.heap.setIfInBounds w.heap.size (.stringIter s (i+(Utf8.decode s i).2))}:World).heap[w.heap.size]? =some (.stringIter s (i+(Utf8.decode s i).2)):=by
    simp only[xw]
    simp[hlt]
   obtain⟨W1,hW1⟩:∃W1:World,{wr with heap:=wr.heap.setIfInBounds w.heap.size (.stringIter s (i+(Utf8.decode s i).2))}=W1:=⟨_,rfl⟩
   rw[hW1] at hb1 hit1
   simp only[hW1] at hnx
   have hcase:(((Utf8.decode s i).1:Int)<128/\((Utf8.decode s i).1:Int).toNat.toUInt8=s.get! i/\(Utf8.decode s i).2=1)\/(128<=((Utf8.decode s i).1:Int)/\1<=(Utf8.decode s i).2/\i+(Utf8.decode s i).2<=s.size/\Lib.NoAny s.data.toList [47,0] (i+(Utf8.decode s i).2)):=by
    by_cases h128:(s[i]'hil).toNat<128
    ·left
     rw[decode_ascii s i hil h128,hgb]
     exact⟨by dsimp only;omega,by simp,rfl⟩
    ·right
     have h1:=decode_high s i hil (by omega)
     have h2:=Ml s i hil (by rw[hgb];omega)
     exact⟨by omega,h1.2,h2.1,Jo hno h2.1 h2.2⟩
   obtain⟨r,hr⟩:∃r,(Utf8.decode s i).1=r:=⟨_,rfl⟩
   obtain⟨n,hn⟩:∃n,(Utf8.decode s i).2=n:=⟨_,rfl⟩
   rw[hr,hn] at hcase
   rw[hn] at hit1
   simp only[hr] at hnx
   rw[hr] at hle
   have HIR:=af (RO r W1 (by omega) (by omega))
   have hcb:=CP (s.get! i)
   have HX:=af (aC hcase (aC hno (aC hat (aC hcb (aC hit1 hb1)))))
   clear hcase hno hat hcb hit1 hb1 hr hn hgb hle hlt hit hb hW1
   go_wp2_with (first
    |(go_at_call 164;go_must (refine HIR.out.mono ?_;rintro e w3 ⟨⟨z,rfl,hz1,hz2⟩,hb3⟩;refine Stop.of ?_)))
   refine Stop.on ?_
   have hit3:=(hb3.block w.heap.size (aj.1 HX.out.2.2.2.2.1).1).trans HX.out.2.2.2.2.1
   have HY:=af (aC hit3 (HX.out.2.2.2.2.2.trans (hb3.mono HX.out.2.2.2.2.2.size)))
   clear hit3 hb3
   by_cases hz:(0:Int)<=z
   ·have hr:Lib.indexAny s.data.toList [47,0]=i:=by
     rcases HX.out.1 with ⟨h1,h2,_⟩|⟨h1,_⟩
     ·have h3:=hz1 h1
      rw[h2] at h3
      refine Lib.indexAny_hit HX.out.2.1 HX.out.2.2.1 ?_
      rw[HX.out.2.2.2.1,<-h3]
      exact bZ hz
     ·have:=hz2 h1
      omega
    have HR:=af hr
    clear hr hz1 hz2
    go_wp2_with (fail)
    go_ret
    exact⟨by rw[HR.out];rfl,HY.out.2⟩
   ·have hno':Lib.NoAny s.data.toList [47,0] (i+n)/\1<=n/\i+n<=s.size:=by
     rcases HX.out.1 with ⟨h1,h2,rfl⟩|⟨_,h2,h3,h4⟩
     ·have h3:=hz1 h1
      rw[h2] at h3
      refine⟨HX.out.2.1.succ HX.out.2.2.1 ?_,aG _,by omega⟩
      rw[HX.out.2.2.2.1,<-h3]
      exact aZ hz
     ·exact⟨h4,h2,h3⟩
    have HR:=af hno'
    clear hno' hz1 hz2
    go_wp2_with (fail)
    go_roundg (s.size+1 - (i+n))
    case measure=>have:=HR.out;omega
    case rel=>exact⟨i+n,HR.out.2.2,rfl,HY.out.1,HY.out.2,HR.out.1⟩
  ·obtain rfl:i=s.size:=by omega
   have hnx:=fun ty=>Cy (P:=Tryz.prog) wr w.heap.size s s.size ty hit (dM _)
   have HX:=af (aC hno hb)
   clear hno hb hit
   go_wp2_with (fail)
   go_ret
   exact⟨by rw[Lib.indexAny_none (by rw[<-Lib.size_eq];exact HX.out.1)];rfl,HX.out.2⟩
theorem RP (s:ByteArray)(w:World)(hs:s.size<=64):
  Calls Tryz.prog 127 #[.string s,.string ⟨#[47,0]⟩] w fun e w'=>e= .returned (.int .i64 (Lib.indexAny s.data.toList [47,0]))/\Below w.heap.size w w':=by
 by_cases h8:s.size<=8
 ·exact Ov s w h8
 ·have hc:Calls Tryz.prog 127 #[.string s,.string ⟨#[47,0]⟩] w _:=Any.strings_IndexAny_long (ρ:=mY) {xg with} (zero_of_info Nz).1 (zero_of_info Nz).2 s ⟨#[47,0]⟩ w (by decide) (by omega) (by omega) (by decide) (fun j b hb=>by
   have:b=47\/b=0:=by
    have:=kN hb
    simpa using this
   rcases this with rfl|rfl<;>decide)
  refine hc.mono ?_
  rintro e w' ⟨rfl,hw⟩
  refine⟨rfl,?_⟩
  rw[hw]
  exact((aO _ _).alloc (aG _) _).alloc (by simp) _
theorem R7 (s:ByteArray)(w:World)(hs:s.size<=64):
  Calls Tryz.prog 77 #[.string s,.string ⟨#[47,0]⟩] w fun e w'=>e= .returned (.bool (Lib.containsAny s.data.toList [47,0]))/\Below w.heap.size w w':=by
 have HI:=af (RP s w hs)
 unfold Lib.containsAny
 obtain⟨z,hz⟩:∃z,Lib.indexAny s.data.toList [47,0]=z:=⟨_,rfl⟩
 rw[hz] at HI ⊢
 clear hz
 go_enter Tryz.func77,Tryz.ntmps77
 go_wp2_with (first
  |(go_at_call 127;go_must (refine HI.out.mono ?_;rintro e w1 ⟨rfl,hb1⟩)))
 go_ret
 exact⟨rfl,hb1⟩
def vX (w:World):Prop:=Lib.Utf8Tabs (mY.g 3) (mY.g 4) w
theorem vX.below {w w':World}(h:vX w)(hb:Below w.heap.size w w'):vX w':=Utf8Tabs_below h hb
theorem yZ {s:ByteArray}:decide (0<s.size)= !s.toList.isEmpty:=by
 have hb:=kr s
 rw[Lib.toList_data]
 cases h:s.data.toList with
 |nil=>
  rw[h,aJ] at hb
  rw[<-hb];rfl
 |cons a l=>
  rw[h,bE] at hb
  rw[bZ (by omega)];rfl
theorem Fz (s:ByteArray)(w:World)(hs:s.size<=9223372036854775807)(hT:vX w):
  Calls Tryz.prog 46 #[.string s] w fun e w'=>e= .returned (.bool (zY s))/\Below w.heap.size w w':=by
 have hv0:Calls Tryz.prog 76 #[.string s] w fun e w'=>e= .returned (.bool (Lib.validD s.data.toList))/\Below w.heap.size w w':=Any.utf8_ValidString Nb s w hs hT
 have HV:=af hv0
 have HC:=af (fun (W:World) (h:s.size<=64)=>R7 s W h)
 have tl:∀l:List UInt8,s.toList=l↔s=⟨l.toArray⟩:=fun l=>by
  rw[Lib.toList_data]
  constructor
  ·intro h;cases s;exact congrArg ByteArray.mk (pV (by simpa using h))
  ·intro h;rw[h]
 have t1:=tl [46]
 have t2:=tl [46,46]
 unfold zY
 rw[yZ]
 obtain⟨V,hV⟩:∃V,Lib.validD s.data.toList=V:=⟨_,rfl⟩
 obtain⟨C,hC⟩:∃C,Lib.containsAny s.data.toList [47,0]=C:=⟨_,rfl⟩
 rw[hV] at HV ⊢
 rw[hC] at HC ⊢
 clear hv0 hV hC hT tl
 obtain⟨D1,hD1⟩:∃D,decide (s=⟨#[46]⟩)=D:=⟨_,rfl⟩
 obtain⟨D2,hD2⟩:∃D,decide (s=⟨#[46,46]⟩)=D:=⟨_,rfl⟩
 rw[hD1,hD2]
 have f1:(s.toList=[46])=(D1=true):=by rw[<-hD1,bY];exact propext t1
 have f2:(s.toList=[46,46])=(D2=true):=by rw[<-hD2,bY];exact propext t2
 clear hD1 hD2 t1 t2
 obtain⟨E,hE⟩:∃E,s.toList.isEmpty=E:=⟨_,rfl⟩
 rw[hE]
 go_enter Tryz.func46,Tryz.ntmps46
 cases E with
 |true=>
  go_wp2
  go_ret
  exact⟨rfl,aO _ _⟩
 |false=>
  cases D1 with
  |true=>
   have g1:s.toList=[46]:=f1▸rfl
   clear f1 f2
   go_wp2
   go_ret
   exact⟨rfl,aO _ _⟩
  |false=>
   have g1:¬s.toList=[46]:=by rw[f1];simp
   cases D2 with
   |true=>
    have g2:s.toList=[46,46]:=f2▸rfl
    clear f1 f2
    go_wp2
    go_ret
    exact⟨rfl,aO _ _⟩
   |false=>
    have g2:¬s.toList=[46,46]:=by rw[f2];simp
    clear f1 f2
    by_cases h64:s.size<=64
    ·have hz:(s.size:Int)<=64:=by omega
     rw[bZ h64]
     cases V with
     |false=>
      go_wp2_with (first
       |(go_at_call 76;go_must (refine HV.out.mono ?_;rintro e w1 ⟨rfl,hb1⟩)))
      go_ret
      exact⟨rfl,hb1⟩
     |true=>
      go_wp2_with (first
       |(go_at_call 76;go_must (refine HV.out.mono ?_;rintro e w1 ⟨rfl,hb1⟩))
       |(go_at_call 77;go_must (refine(HC.out _ h64).mono ?_;rintro e w2 ⟨rfl,hb2⟩)))
      go_ret
      exact⟨by simp[g1,g2],hb1.trans (hb2.mono hb1.size)⟩
    ·have hz:¬(s.size:Int)<=64:=by omega
     rw[aZ h64]
     go_wp2
     go_ret
     exact⟨rfl,aO _ _⟩
theorem Nf (pv:Value)(path:List ByteArray)(S:Nat->Prop)(w:World)(hp:gY w S pv path)(hs:∀s∈path,s.size<=9223372036854775807)(hT:vX w):
  Calls Tryz.prog 27 #[pv] w fun e w'=>e= .returned (.bool (pq path))/\Below w.heap.size w w':=by
 obtain⟨po,pc,rfl,h1,h2,_,_⟩:=cZ.form hp
 have HP:=af hp;have HS:=af hs;have HT:=af hT
 obtain⟨R,hR⟩:∃R,Hid (pq path=R):=⟨_,af rfl⟩
 rw[hR.out]
 clear hp hs hT
 go_enter Tryz.func27,Tryz.ntmps27
 go_upto_region 2 with (fail)
 go_loopw [4,7] (fun _ i wr=>∃k:Nat,k<=path.length/\i= .int .i64 k/\(path.take k).all zY=true/\Below w.heap.size w wr) (fun _ i _=>path.length - (intOf i).toNat)
 case atStart=>exact⟨0,aX _,rfl,rfl,aO _ _⟩
 case round=>
  obtain⟨k,hk,rfl,hall,hbw⟩:=hrel
  by_cases hkl:k<path.length
  ·have hkl':(k:Int)<(path.length:Int):=by omega
   obtain⟨ga,oa,rfl,da⟩:=cZ.yD (cZ.below HP.out hbw) rfl k (.string path[k]) (by rw[di,aW hkl];rfl)
   have la:=aD wr _ da
   have htk:path.take (k+1)=path.take k++[path[k]]:=aI hkl
   have hsz:=HS.out path[k] (bD hkl)
   have hmem:=bD hkl
   obtain⟨sg,hsg⟩:∃sg,Hid (path[k]=sg):=⟨_,af rfl⟩
   rw[hsg.out] at da htk hsz hmem
   have hsc:=Fz sg wr hsz (HT.out.below hbw)
   obtain⟨C,hC⟩:∃C,Hid (zY sg=C):=⟨_,af rfl⟩
   rw[hC.out] at hsc
   have HSC:=af hsc
   have HX:=af (aC htk (aC hall (aC hbw hmem)))
   clear hsc htk hall hbw hmem hsz
   cases C with
   |false=>
    have hr:R=false:=by
     rw[<-hR.out]
     unfold pq
     rw[oW]
     left
     rw[Co]
     exact⟨sg,HX.out.2.2.2,by rw[hC.out];simp⟩
    go_wp2_with (first
     |(go_at_call 46;go_must (refine HSC.out.mono ?_;rintro e w3 ⟨rfl,hb3⟩)))
    go_ret
    exact⟨by simp[hr],HX.out.2.2.1.trans (hb3.mono HX.out.2.2.1.size)⟩
   |true=>
    go_wp2_with (first
     |(go_at_call 46;go_must (refine HSC.out.mono ?_;rintro e w3 ⟨rfl,hb3⟩)))
    have HB3:=af (HX.out.2.2.1.trans (hb3.mono HX.out.2.2.1.size))
    clear hb3
    go_roundw
    case rel=>
     refine⟨k+1,by omega,by go_num,?_,HB3.out⟩
     rw[HX.out.1,Iq,HX.out.2.1]
     simp[hC.out]
    case measure=>simp[intOf];omega
  ·obtain rfl:k=path.length:=by omega
   have x2:¬(path.length:Int)<(path.length:Int):=by omega
   rw[bP] at hall
   have HX:=af (aC hall hbw)
   clear hall hbw
   by_cases h12:path.length<=12
   ·have hz:(path.length:Int)<=12:=by omega
    have hr:R=true:=by rw[<-hR.out];unfold pq;rw[HX.out.1,bZ h12];rfl
    clear h12
    go_wp2_with (fail)
    go_ret
    exact⟨by simp[hr],HX.out.2⟩
   ·have hz:¬(path.length:Int)<=12:=by omega
    have hr:R=false:=by rw[<-hR.out];unfold pq;rw[HX.out.1,aZ h12];rfl
    clear h12
    go_wp2_with (fail)
    go_ret
    exact⟨by simp[hr],HX.out.2⟩
def bI.Ik (l:bI):Prop:=l.token.size<=9223372036854775807/\l.owner.size<=9223372036854775807/\∀s∈l.path,s.size<=9223372036854775807
theorem KD (l:bI)(pv:Value)(S:Nat->Prop)(w:World)(hp:gY w S pv l.path)(hs:l.Ik)(hT:vX w):
  Calls Tryz.prog 10 #[p8 l pv] w fun e w'=>e= .returned (.bool l.good)/\Below w.heap.size w w':=by
 obtain⟨R,hR⟩:∃R,Hid (l.good=R):=⟨_,af rfl⟩
 rw[hR.out]
 obtain⟨tk,pt,dp,ex,ow,ti⟩:=l
 obtain⟨h1,h2,h3⟩:=hs
 dsimp only at hp h1 h2 h3
 obtain⟨po,pc,rfl,hn1,hn2,_,_⟩:=cZ.form hp
 have hbA:=aK w (.cells #[.string tk,.slice po pt.length pc,.bool dp,.bool ex,.string ow,.int .i64 ti] 24)
 have hnA:=aP w (.cells #[.string tk,.slice po pt.length pc,.bool dp,.bool ex,.string ow,.int .i64 ti] 24)
 obtain⟨wA,hwA⟩:∃wA:World,Hid (w.alloc (.cells #[.string tk,.slice po pt.length pc,.bool dp,.bool ex,.string ow,.int .i64 ti] 24)=wA):=⟨_,af rfl⟩
 rw[hwA.out] at hbA hnA
 obtain⟨lb,hlb⟩:∃lb:Nat,Hid (w.heap.size=lb):=⟨_,af rfl⟩
 rw[hlb.out] at hnA
 obtain⟨e0,e1,e2,e3,e4,e5,le⟩:=bW hnA
 have hug:=Nf (.slice po pt.length pc) pt S wA (cZ.below hp hbA) h3 (hT.below hbA)
 have HB:=af hbA
 have hz1:(tk.size:Int)<=9223372036854775807:=by omega
 have hz2:(ow.size:Int)<=9223372036854775807:=by omega
 have HZ:=af (aC h1 (aC hz1 hz2))
 clear hbA hp hnA h1 h2 h3 hT hz1 hz2
 unfold p8
 dsimp only
 go_enter Tryz.func10,Tryz.ntmps10
 go_upto_region 1 with (fail)
 rw[hwA.out,hlb.out]
 go_upto_region 2 with (fail)
 go_loopw [3,4,8] (fun _ _ i wr=>∃k:Nat,k<=tk.size/\i= .int .i64 k/\(tk.data.toList.take k).all qU=true/\wr=wA) (fun _ _ i _=>tk.size - (intOf i).toNat)
 case atStart=>exact⟨0,aX _,rfl,rfl,rfl⟩
 case round=>
  obtain⟨k,hk,rfl,hall,hwr⟩:=hrel
  subst wr
  by_cases hkl:k<tk.size
  ·have hkl':(k:Int)<(tk.size:Int):=by omega
   obtain⟨x,hx⟩:∃x:UInt8,tk[k]'hkl=x:=⟨_,rfl⟩
   have hxl:tk.data.toList[k]? =some x:=by rw[<-hx];exact Lib.data_getElem? tk k hkl
   have hkl2:k<tk.data.toList.length:=by rw[kr];exact hkl
   have htk:tk.data.toList.take (k+1)=tk.data.toList.take k++[x]:=by
    rw[aI hkl2]
    rw[aW hkl2] at hxl
    rw[iB hxl]
   have bad:qU x=false->R=false:=by
    intro hx
    rw[<-hR.out]
    unfold bI.good
    rw[oW]
    left
    rw[Co]
    exact⟨x,kN hxl,by rw[hx];simp⟩
   have HX:=af (aC htk (aC hall bad))
   clear htk hall bad hxl hkl2
   have hcs:qU x=true\/x.toNat<33\/(33<=x.toNat/\126<x.toNat)\/x.toNat=60\/x.toNat=62:=by
    by_cases h:qU x=true
    ·exact .inl h
    ·right
     unfold qU at h
     rw[bY] at h
     omega
   rcases hcs with hc|hc|hc|hc|hc
   ·have hc2:=hc
    unfold qU at hc2
    rw[bY] at hc2
    have q1:¬(x.toNat:Int)<33:=by omega
    have q2:¬(126:Int)<(x.toNat:Int):=by omega
    have q3:((x.toNat:Int)==60)=false:=cu.2 (by omega)
    have q4:((x.toNat:Int)==62)=false:=cu.2 (by omega)
    have HC:=af hc
    have hz1:=HZ.out.1
    clear hc hc2
    go_wp2_with (fail)
    go_roundw
    case rel=>
     refine⟨k+1,by omega,by go_num,?_,by trivial⟩
     rw[HX.out.1,Iq,HX.out.2.1]
     simp[HC.out]
    case measure=>simp[intOf];omega
   ·have q1:(x.toNat:Int)<33:=by omega
    have hr:=HX.out.2.2 (by unfold qU;rw[aZ];omega)
    go_wp2_with (fail)
    go_ret
    exact⟨by simp[hr],HB.out⟩
   ·have q1:¬(x.toNat:Int)<33:=by omega
    have q2:(126:Int)<(x.toNat:Int):=by omega
    have hr:=HX.out.2.2 (by unfold qU;rw[aZ];omega)
    go_wp2_with (fail)
    go_ret
    exact⟨by simp[hr],HB.out⟩
   ·have q1:¬(x.toNat:Int)<33:=by omega
    have q2:¬(126:Int)<(x.toNat:Int):=by omega
    have q3:((x.toNat:Int)==60)=true:=ja.2 (by omega)
    have hr:=HX.out.2.2 (by unfold qU;rw[aZ];omega)
    clear hc
    go_wp2_with (fail)
    go_ret
    exact⟨by simp[hr],HB.out⟩
   ·have q1:¬(x.toNat:Int)<33:=by omega
    have q2:¬(126:Int)<(x.toNat:Int):=by omega
    have q3:((x.toNat:Int)==60)=false:=cu.2 (by omega)
    have q4:((x.toNat:Int)==62)=true:=ja.2 (by omega)
    have hr:=HX.out.2.2 (by unfold qU;rw[aZ];omega)
    clear hc
    go_wp2_with (fail)
    go_ret
    exact⟨by simp[hr],HB.out⟩
  ·obtain rfl:k=tk.size:=by omega
   have x2:¬(tk.size:Int)<(tk.size:Int):=by omega
   rw[<-kr,bP] at hall
   have hr:R=(!tk.toList.isEmpty && (decide (tk.size<=60) && (pq pt && decide (ow.size<=512)))):=by
    rw[<-hR.out,<-yZ]
    unfold bI.good
    rw[hall]
    rfl
   have HR:=af hr
   obtain⟨G,hG⟩:∃G,Hid (pq pt=G):=⟨_,af rfl⟩
   rw[hG.out] at hug HR
   have HUG:=af hug
   obtain⟨E,hE⟩:∃E,tk.toList.isEmpty=E:=⟨_,rfl⟩
   rw[hE] at HR
   clear hr hall hug
   cases E with
   |true=>
    go_wp2_with (fail)
    go_ret
    exact⟨by simp[HR.out],HB.out⟩
   |false=>
    by_cases h60:tk.size<=60
    ·have q1:(tk.size:Int)<=60:=by omega
     rw[bZ h60] at HR
     clear h60
     cases G with
     |false=>
      go_wp2_with (first
       |(go_at_call 27;go_must (refine HUG.out.mono ?_;rintro e w3 ⟨rfl,hb3⟩)))
      go_ret
      exact⟨by simp[HR.out],HB.out.trans (hb3.mono HB.out.size)⟩
     |true=>
      by_cases h512:ow.size<=512
      ·have q2:(ow.size:Int)<=512:=by omega
       rw[bZ h512] at HR
       clear h512
       go_wp2_with (first
        |(go_at_call 27;go_must (refine HUG.out.mono ?_;rintro e w3 ⟨rfl,hb3⟩;have c4:=(hb3.cell (p:=⟨lb,4,none⟩) le).trans e4;have l4:=ax le hb3.size)))
       go_ret
       exact⟨by simp[HR.out],HB.out.trans (hb3.mono HB.out.size)⟩
      ·have q2:¬(ow.size:Int)<=512:=by omega
       rw[aZ h512] at HR
       clear h512
       go_wp2_with (first
        |(go_at_call 27;go_must (refine HUG.out.mono ?_;rintro e w3 ⟨rfl,hb3⟩;have c4:=(hb3.cell (p:=⟨lb,4,none⟩) le).trans e4;have l4:=ax le hb3.size)))
       go_ret
       exact⟨by simp[HR.out];omega,HB.out.trans (hb3.mono HB.out.size)⟩
    ·have q1:¬(tk.size:Int)<=60:=by omega
     rw[aZ h60] at HR
     clear h60
     go_wp2_with (fail)
     go_ret
     exact⟨by simp[HR.out],HB.out⟩
end Go.Proofs.YtpgdljlghiifjaaGreatDoor
namespace Go.Proofs.YtpgdljlghiifjaaGreatDoor
open Go.RowKit
section
variable {ls:List bI} {l:bI} {now:Int}
theorem QH (h:l.good=false\/l.till<=now):qY ls l now=1/\vW ls l now=ls:=by
 have e:qY ls l now=1:=by unfold qY;rw[if_pos h]
 exact⟨e,by unfold vW;rw[e];rfl⟩
theorem QG (h:¬(l.good=false\/l.till<=now))(h1:(live now ls).any (fun x=>decide (x.token=l.token))=true):qY ls l now=3/\vW ls l now=ls:=by
 have e:qY ls l now=3:=by unfold qY;rw[if_neg h,if_pos h1]
 exact⟨e,by unfold vW;rw[e];rfl⟩
theorem MK (h:¬(l.good=false\/l.till<=now))(h1:(live now ls).any (fun x=>decide (x.token=l.token))=false)(h2:(live now ls).any (fun x=>x.clash l)=true):qY ls l now=63/\vW ls l now=ls:=by
 have e:qY ls l now=63:=by unfold qY;rw[if_neg h,if_neg (by rw[h1];simp),if_pos h2]
 exact⟨e,by unfold vW;rw[e];rfl⟩
theorem O8 (h:¬(l.good=false\/l.till<=now))(h1:(live now ls).any (fun x=>decide (x.token=l.token))=false)(h2:(live now ls).any (fun x=>x.clash l)=false)(h3:32<=(live now ls).length):qY ls l now=4/\vW ls l now=ls:=by
 have e:qY ls l now=4:=by unfold qY;rw[if_neg h,if_neg (by rw[h1];simp),if_neg (by rw[h2];simp),if_pos h3]
 exact⟨e,by unfold vW;rw[e];rfl⟩
theorem Sg (h:¬(l.good=false\/l.till<=now))(h1:(live now ls).any (fun x=>decide (x.token=l.token))=false)(h2:(live now ls).any (fun x=>x.clash l)=false)(h3:¬32<=(live now ls).length):qY ls l now=0/\vW ls l now=JA (live now ls) l:=by
 have e:qY ls l now=0:=by unfold qY;rw[if_neg h,if_neg (by rw[h1];simp),if_neg (by rw[h2];simp),if_neg h3]
 exact⟨e,by unfold vW;rw[e];rfl⟩
end
def Uv (w2:World)(ps:List LP)(l:bI)(c i:Value)(wr:World):Prop:=
 ∃k:Nat,k<=ps.length/\i= .int .i64 k/\(∀p∈ps.take k,p.1.token≠l.token)/\c= .bool ((ps.take k).any fun p=>p.1.clash l)/\Below w2.heap.size w2 wr
theorem Jt (F:Nat->Prop)(v t b:Nat)(ls:List bI)(l:bI)(pv:Value)(now:Int)(w:World)(h:LT F v t b ls w)(hp:gY w (fun g=>¬F g) pv l.path)(hs:l.Ik)(hT:vX w)(hti: -9223372036854775808<=l.till/\l.till<9223372036854775808):
  Calls Tryz.prog 19 #[.pointer (some ⟨b,0,none⟩),p8 l pv,.int .i64 now] w fun e w'=>e= .returned (.int .i64 (qY ls l now))/\LT F v t b (vW ls l now) w'/\Keep (fun g=>¬F g) w w':=by
 have hgood:=fun (W:World) (hb:Below w.heap.size w W)=>KD l pv _ W (cZ.below hp hb) hs (hT.below hb)
 have hbad:=@QH ls l now
 have htok:=@QG ls l now
 have hcl:=@MK ls l now
 have hfull:=@O8 ls l now
 have hok:=@Sg ls l now
 have hfit:l.good=true->l.Fit:=fun h=>bI.good.fit h hti
 have hsame:∀w',Below w.heap.size w w'->LT F v t b ls w'/\Keep (fun g=>¬F g) w w':=fun w' hb=>⟨h.below hb,Keep.of_below hb _⟩
 obtain⟨R,hR⟩:∃R,Hid (qY ls l now=R):=⟨_,af rfl⟩
 obtain⟨L',hL'⟩:∃L',Hid (vW ls l now=L'):=⟨_,af rfl⟩
 rw[hR.out,hL'.out]
 simp only[hR.out,hL'.out] at hbad htok hcl hfull hok
 have HC:=af (aC hbad (aC htok (aC hcl (aC hfull (aC hok (aC hfit hsame))))))
 have HH:=af (aC h hp)
 have hpf:=cZ.form hp
 clear hbad htok hcl hfull hok hfit hsame h hp hs hT hti
 obtain⟨po,pc,rfl,hn1,hn2,_,_⟩:=hpf
 have hbA:=aK w (.cells #[.string l.token,.slice po l.path.length pc,.bool l.deep,.bool l.excl,.string l.owner,.int .i64 l.till] 24)
 have hnA:=aP w (.cells #[.string l.token,.slice po l.path.length pc,.bool l.deep,.bool l.excl,.string l.owner,.int .i64 l.till] 24)
 obtain⟨wA,hwA⟩:∃wA:World,Hid (w.alloc (.cells #[.string l.token,.slice po l.path.length pc,.bool l.deep,.bool l.excl,.string l.owner,.int .i64 l.till] 24)=wA):=⟨_,af rfl⟩
 have hsA:wA.heap.size=w.heap.size+1:=by rw[<-hwA.out];simp
 rw[hwA.out] at hbA hnA
 have hbB:=aK wA (.cells #[.int .i64 now] 2)
 have hnB:=aP wA (.cells #[.int .i64 now] 2)
 obtain⟨wB,hwB⟩:∃wB:World,Hid (wA.alloc (.cells #[.int .i64 now] 2)=wB):=⟨_,af rfl⟩
 rw[hwB.out] at hbB hnB
 obtain⟨lb,hlb⟩:∃lb:Nat,Hid (w.heap.size=lb):=⟨_,af rfl⟩
 obtain⟨nb,hnb⟩:∃nb:Nat,Hid (lb+1=nb):=⟨_,af rfl⟩
 rw[hsA,hlb.out,hnb.out] at hnB
 rw[hlb.out] at hnA
 have hnA2:=(hbB.block lb (aj.1 hnA).1).trans hnA
 obtain⟨e0,e1,e2,e3,e4,e5,le⟩:=bW hnA2
 have c0:wB.cell? ⟨nb,0,none⟩=some (.int .i64 now):=by simp[World.cell?,hnB]
 have nl:=(aj.1 hnB).1
 have hbAB:=hbA.trans (hbB.mono hbA.size)
 have hg:=hgood wB hbAB
 obtain⟨G,hG⟩:∃G,Hid (l.good=G):=⟨_,af rfl⟩
 rw[hG.out] at hg
 unfold p8 at hg
 have HG:=af hg
 have HB:=af (aC hbAB (aC hnA2 hnB))
 clear hgood hg hbA hbB hnA hsA hnA2 hnB hbAB
 unfold p8
 go_enter Tryz.func19,Tryz.ntmps19
 go_upto_region 1 with (fail)
 rw[hwA.out,hwB.out,hlb.out,hnb.out]
 cases G with
 |false=>
  go_wp2_with (first
   |(go_at_call 10;go_must (refine HG.out.mono ?_;rintro e w1 ⟨rfl,hb1⟩)))
  go_ret
  have hbb:=HB.out.1.trans (hb1.mono HB.out.1.size)
  obtain⟨q1,q2⟩:=HC.out.1 (.inl hG.out)
  rw[q1,q2]
  exact⟨rfl,HC.out.2.2.2.2.2.2 _ hbb⟩
 |true=>
  by_cases htn:l.till<=now
  ·go_wp2_with (first
    |(go_at_call 10;go_must (refine HG.out.mono ?_;rintro e w1 ⟨rfl,hb1⟩;have f5:=(hb1.cell (p:=⟨lb,5,none⟩) le).trans e5;have fl:=ax le hb1.size;have g0:=(hb1.cell (p:=⟨nb,0,none⟩) nl).trans c0;have gl:=ax nl hb1.size)))
   go_ret
   have hbb:=HB.out.1.trans (hb1.mono HB.out.1.size)
   obtain⟨q1,q2⟩:=HC.out.1 (.inr htn)
   rw[q1,q2]
   exact⟨rfl,HC.out.2.2.2.2.2.2 _ hbb⟩
  ·have hng:¬(l.good=false\/l.till<=now):=by rintro(e|e);(rw[hG.out] at e;cases e);exact htn e
   go_wp2_with (first
    |(go_at_call 10;go_must (refine HG.out.mono ?_;rintro e w1 ⟨rfl,hb1⟩;refine Stop.of ?_)))
   refine Stop.on ?_
   have hbb:=HB.out.1.trans (hb1.mono HB.out.1.size)
   have HA:=af (RL F v t b ls now w1 (HH.out.1.below hbb))
   have hnA1:=(hb1.block lb le).trans HB.out.2.1
   have hnB1:=(hb1.block nb nl).trans HB.out.2.2
   clear e0 e1 e2 e3 e4 e5 le c0 nl
   obtain⟨e0,e1,e2,e3,e4,e5,le⟩:=bW hnA1
   have c0:w1.cell? ⟨nb,0,none⟩=some (.int .i64 now):=by simp[World.cell?,hnB1]
   have nl:=(aj.1 hnB1).1
   have HB1:=af (aC hbb (aC hnA1 (aC hnB1 hng)))
   clear hbb hnA1 hnB1 hb1 hng
   go_wp2_with (first
    |(go_at_call 21;go_must (refine HA.out.mono ?_;rintro e w2 ⟨x,rfl,ps,hps,hx,hpp,hb2⟩;refine Stop.of ?_)))
   refine Stop.on ?_
   have hbb2:=HB1.out.1.trans (hb2.mono HB1.out.1.size)
   have hT2:=HH.out.1.next hbb2
   have hLF:qB w2 (fun g=>¬uf F w w2 g) x ps:=qB.of hx hpp (fun g h1 h2 hn=>hn (.inr ⟨aH HB1.out.1.size h1,h2⟩))
   have hpF:gY w2 (fun g=>¬uf F w w2 g) (.slice po l.path.length pc) l.path:=cZ.keep (cZ.below HH.out.2 hbb2) fun g _ _ hn=>⟨rfl,fun e=>e (.inl (Classical.not_not.1 hn))⟩
   have hnA2:=(hb2.block lb le).trans HB1.out.2.1
   have hnB2:=(hb2.block nb nl).trans HB1.out.2.2.1
   have hFl:uf F w w2 lb:= .inr ⟨fU hlb.out,(aj.1 hnA2).1⟩
   have hFn:uf F w w2 nb:= .inr ⟨by have:=hnb.out;have:=hlb.out;omega,(aj.1 hnB2).1⟩
   have hF12:∀g,F g->uf F w w2 g:=fun g e=> .inl e
   have hk2:Keep (fun g=>¬F g) w w2:=Keep.of_below hbb2 _
   generalize uf F w w2=F2 at hT2 hLF hpF hFl hFn hF12
   obtain⟨lo,lc,rfl,hl1,hl2,_,_⟩:=cZ.form hLF.1
   have hlen:ps.length<=33:=by
    have:=(HH.out.1.ok.live now).len
    rw[<-hps,eX] at this
    exact this
   have HX:=af (aC hT2 (aC hLF (aC hpF (aC hFl (aC hFn (aC hF12 (aC hk2 (aC hnA2 (aC hnB2 (aC hps hbb2))))))))))
   have hst:Uv w2 ps l (.bool false) (.int .i64 0) w2:=⟨0,aX _,rfl,by simp,rfl,aO _ _⟩
   clear htn e0 e1 e2 e3 e4 e5 le c0 nl hT2 hLF hpF hFl hFn hF12 hk2 hnA2 hnB2 hps hx hpp hb2 hbb2
   go_upto_region 10 with (fail)
   go_loopw [9,11,38] (fun c _ i wr=>Uv w2 ps l c i wr) (fun _ _ i _=>ps.length - (intOf i).toNat)
   case atStart=>exact hst
   case round=>
    obtain⟨k,hk,rfl,hno,rfl,hbw⟩:=hrel
    clear hst
    obtain⟨c,hc⟩:∃c,Hid (((ps.take k).any fun p=>p.1.clash l)=c):=⟨_,af rfl⟩
    rw[hc.out]
    have hnl2:=(hbw.block lb (aj.1 HX.out.2.2.2.2.2.2.2.1).1).trans HX.out.2.2.2.2.2.2.2.1
    by_cases hkl:k<ps.length
    ·have hkl':(k:Int)<(ps.length:Int):=by omega
     have hLr:=HX.out.2.1.keep (Keep.of_below hbw _)
     obtain⟨sb,o,rfl,d0,d1,d2,d3,d4,d5⟩:=hLr.Un.at rfl k hkl
     have hT:=hLr.2 _ (bD hkl)
     have htk:ps.take (k+1)=ps.take k++[ps[k]]:=aI hkl
     have hmem:ps[k].1∈live now ls:=by rw[<-HX.out.2.2.2.2.2.2.2.2.2.1];exact dL.2 ⟨_,bD hkl,rfl⟩
     obtain⟨p,hp⟩:∃p,ps[k]=p:=⟨_,rfl⟩
     rw[hp] at d0 d1 d2 d3 d4 d5 hT htk hmem
     have hb2:=aK wr (.cells #[.string p.1.token,p.2,.bool p.1.deep,.bool p.1.excl,.string p.1.owner,.int .i64 p.1.till] 24)
     have hn2:=aP wr (.cells #[.string p.1.token,p.2,.bool p.1.deep,.bool p.1.excl,.string p.1.owner,.int .i64 p.1.till] 24)
     have hbl:=aD wr _ d0
     obtain⟨w3,hw3⟩:∃w3:World,Hid (wr.alloc (.cells #[.string p.1.token,p.2,.bool p.1.deep,.bool p.1.excl,.string p.1.owner,.int .i64 p.1.till] 24)=w3):=⟨_,af rfl⟩
     rw[hw3.out] at hb2 hn2
     obtain⟨gb,hgb⟩:∃gb:Nat,Hid (wr.heap.size=gb):=⟨_,af rfl⟩
     rw[hgb.out] at hn2
     have hbw3:=hbw.trans (hb2.mono hbw.size)
     have hcl:=uG p.1 l p.2 (.slice po l.path.length pc) _ _ w3 (cZ.below hT hb2) (cZ.below HX.out.2.2.1 hbw3)
     obtain⟨D,hD⟩:∃D,Hid (p.1.clash l=D):=⟨_,af rfl⟩
     rw[hD.out] at hcl
     unfold p8 at hcl
     have HCL:=af hcl
     have hq:=O6 p.1.token l.token
     have hnl3:=(hb2.block lb (aj.1 hnl2).1).trans hnl2
     have HM:=af (aC htk (aC hmem (aC hno (aC hbw3 (aC hn2 (aC hnl3 hp))))))
     have hform:=cZ.form hT
     clear htk hmem hno hbw3 hn2 hcl hT hp hLr hb2 hbw hnl2 hnl3
     obtain⟨⟨tk,pt,dp,ex,ow,ti⟩,qv⟩:=p
     dsimp only at d0 d1 d2 d3 d4 d5 HCL hw3 HM hD hform hq
     obtain⟨qo,qc,rfl,_,_,_,_⟩:=hform
     go_upto_region 12 with (fail)
     rw[hw3.out,hgb.out]
     clear d0 d1 d2 d3 d4 d5 hbl
     obtain⟨e0,e1,e2,e3,e4,e5,le⟩:=bW HM.out.2.2.2.2.1
     obtain⟨f0,f1,f2,f3,f4,f5,fl⟩:=bW HM.out.2.2.2.2.2.1
     by_cases he:tk=l.token
     ·rw[bZ he] at hq
      have hany:(live now ls).any (fun x=>decide (x.token=l.token))=true:=qa.2 ⟨_,HM.out.2.1,bZ he⟩
      have HR:=af (HC.out.2.1 HB1.out.2.2.2 hany)
      clear he hany
      go_wp2_with (fail)
      go_ret
      rw[HR.out.1,HR.out.2]
      exact⟨rfl,HC.out.2.2.2.2.2.2 _ (HX.out.2.2.2.2.2.2.2.2.2.2.trans (HM.out.2.2.2.1.mono HX.out.2.2.2.2.2.2.2.2.2.2.size))⟩
     ·rw[aZ he] at hq
      have hno':∀q∈ps.take (k+1),q.1.token≠l.token:=by
       intro q hq
       rw[HM.out.1] at hq
       rcases bO.1 hq with hq|hq
       ·exact HM.out.2.2.1 q hq
       ·rw[bK.1 hq];exact he
      have hany:((ps.take (k+1)).any fun p=>p.1.clash l)=(c||D):=by
       rw[HM.out.1,ru,hc.out]
       simp[hD.out]
      have HN:=af (aC hno' hany)
      clear hno' hany he
      cases c with
      |true=>
       go_wp2_with (fail)
       go_roundw
       case rel=>exact⟨k+1,hkl,by go_num,HN.out.1,by rw[HN.out.2];rfl,HM.out.2.2.2.1⟩
       case measure=>simp[intOf];omega
      |false=>
       go_wp2_with (first
        |(go_at_call 14;go_must (refine HCL.out.mono ?_;rintro e w4 ⟨rfl,hb4⟩)))
       have HB4:=af (HM.out.2.2.2.1.trans (hb4.mono HM.out.2.2.2.1.size))
       clear hb4
       go_roundw
       case rel=>exact⟨k+1,hkl,by go_num,HN.out.1,by rw[HN.out.2];rfl,HB4.out⟩
       case measure=>simp[intOf];omega
    ·obtain rfl:k=ps.length:=by omega
     have x2:¬(ps.length:Int)<(ps.length:Int):=by omega
     have hps:=HX.out.2.2.2.2.2.2.2.2.2.1
     rw[bP] at hno
     have hcc:=hc.out
     rw[bP] at hcc
     have htok:(live now ls).any (fun x=>decide (x.token=l.token))=false:=by
      rw[<-hps,tV]
      intro y hy
      obtain⟨p,hp,rfl⟩:=dL.1 hy
      rw[bY]
      exact hno p hp
     have hcl:(live now ls).any (fun x=>x.clash l)=c:=by
      rw[<-hps,List.any_map];exact hcc
     have hll:(live now ls).length=ps.length:=by rw[<-hps,eX]
     have hbb:=HX.out.2.2.2.2.2.2.2.2.2.2.trans (hbw.mono HX.out.2.2.2.2.2.2.2.2.2.2.size)
     have HE:=af (aC htok (aC hcl (aC hll (aC hbw hbb))))
     clear hps hno hcc htok hcl hll hbw hbb
     cases c with
     |true=>
      have HR:=af (HC.out.2.2.1 HB1.out.2.2.2 HE.out.1 HE.out.2.1)
      go_wp2_with (fail)
      go_ret
      rw[HR.out.1,HR.out.2]
      exact⟨rfl,HC.out.2.2.2.2.2.2 _ HE.out.2.2.2.2⟩
     |false=>
      by_cases h32:32<=ps.length
      ·have q1:(32:Int)<=(ps.length:Int):=by omega
       have HR:=af (HC.out.2.2.2.1 HB1.out.2.2.2 HE.out.1 HE.out.2.1 (by rw[HE.out.2.2.1];exact h32))
       clear h32
       go_wp2_with (fail)
       go_ret
       rw[HR.out.1,HR.out.2]
       exact⟨rfl,HC.out.2.2.2.2.2.2 _ HE.out.2.2.2.2⟩
      ·have q1:¬(32:Int)<=(ps.length:Int):=by omega
       have HR:=af (HC.out.2.2.2.2.1 HB1.out.2.2.2 HE.out.1 HE.out.2.1 (by rw[HE.out.2.2.1];exact h32))
       have hll2:(live now ls).length<=32:=by rw[HE.out.2.2.1];omega
       have hnBr:=(HE.out.2.2.2.1.block nb (aj.1 HX.out.2.2.2.2.2.2.2.2.1).1).trans HX.out.2.2.2.2.2.2.2.2.1
       have hnAr:=hnl2
       have c0:wr.cell? ⟨nb,0,none⟩=some (.int .i64 now):=by simp[World.cell?,hnBr]
       have nl:=(aj.1 hnBr).1
       have hTr:=HX.out.1.below HE.out.2.2.2.1
       have hq:∀w',Keep (fun x=>¬F2 x) wr w'->w'.cell? ⟨nb,0,none⟩=some (.int .i64 now)/\nb<w'.heap.size:=by
        intro w' hk
        have h1:=(hk.block nb nl (fun e=>e HX.out.2.2.2.2.1)).trans hnBr
        exact⟨by simp[World.cell?,h1],(aj.1 h1).1⟩
       have HSW:=af (N9 F2 v t b ls now 37 #[.pointer (some ⟨nb,0,none⟩)] _ _ (fun _ _=>rfl) (Od nb now) wr hTr hq)
       have HRR:=af (aC hnBr (aC hnAr hll2))
       clear hnBr hnAr hTr hq h32 hnl2 hll2
       go_wp2_with (first
        |(go_at_call 36;go_must (refine HSW.out.mono ?_;rintro e w4 ⟨rfl,hT4,hk4⟩;refine Stop.of ?_)))
       refine Stop.on ?_
       rw[IY] at hT4
       have hnA4:=(hk4.block lb (aj.1 HRR.out.2.1).1 (fun e=>e HX.out.2.2.2.1)).trans HRR.out.2.1
       have hob4:=hT4.obj
       have hpr:gY w4 (fun g=>¬F2 g) (.slice po l.path.length pc) l.path:=cZ.keep (cZ.below HX.out.2.2.1 HE.out.2.2.2.1) fun g _ hl hn=>⟨hk4.block g hl hn,hn⟩
       have hfit:=HC.out.2.2.2.2.2.1 hG.out
       have hen:=LX l (.slice po l.path.length pc) _ w4.drew (cZ.below hpr ((aO _ w4).drew)) hfit
       unfold p8 at hen
       have HEN:=af hen
       have hks2:¬9223372036854775807<1+l.token.size:=by have:=hfit.tok;omega
       have hla:=QV l.token
       have HW4:=af (aC hT4 (aC hk4 (aC hnA4 (aC hob4 hfit))))
       clear hT4 hk4 hpr hen hfit c0 nl
       go_wp2_with (fail)
       refine aS (fun W=>W.heap[lb]? =some (.cells #[.string l.token,.slice po l.path.length pc,.bool l.deep,.bool l.excl,.string l.owner,.int .i64 l.till] 24 (0,0))/\W.heap[b]? =some (.cells #[.pointer (some ⟨t,0,none⟩)] 69 (0,0))) (fun i=> !([8,9].contains i)) [0,1,2,3,4,5,6,7,8,9,10] rfl (by kernel_rfl) ⟨hnA4,hob4⟩ ?_
       repeat ((refine bL (v:= ?_) rfl rfl (fun _ _ _ h=>h) rfl (fun W hW=> ?_) ?_);rotate_left;(focus ((try dsimp only at hW);obtain⟨q0,q1,q2,q3,q4,q5,q6⟩:=bW hW.1;have q7:W.cell? ⟨b,0,none⟩=some (.pointer (some ⟨t,0,none⟩)):=(by simp[World.cell?,hW.2]);have q8:=(aj.1 hW.2).1;(go_simp;first|done|with_reducible rfl)));(try simp only[Act.put,ah,au,ak]))
       refine dm rfl rfl rfl ?_;intro K hK;go_simp
       refine HEN.out.mono ?_;rintro e w5 ⟨rfl,hb5⟩
       have hb45:Below w4.heap.size w4 w5:=(aO _ w4).drew.trans hb5
       have hT5:=HW4.out.1.below hb45
       have hnA5:=(hb45.block lb (aj.1 hnA4).1).trans hnA4
       have hPT:=hT5.put l HW4.out.2.2.2.2 HRR.out.2.2
       refine hK.out _ _ ⟨hnA5,hT5.obj⟩ ?_
       (try simp only[Act.put,ah,au,ak])
       refine dm rfl rfl rfl ?_;intro K hK;go_simp
       refine hPT.mono ?_;rintro e w6 ⟨rfl,hT6,hk6⟩
       have hnA6:=(hk6.block lb (aj.1 hnA5).1 (fun e=>e HX.out.2.2.2.1)).trans hnA5
       refine hK.out _ _ ⟨hnA6,hT6.obj⟩ ?_
       (try simp only[Act.put,ah,au,ak])
       repeat ((refine bL (v:= ?_) rfl rfl (fun _ _ _ h=>h) rfl (fun W hW=> ?_) ?_);rotate_left;(focus ((try dsimp only at hW);skip;(go_simp;first|done|with_reducible rfl)));(try simp only[Act.put,ah,au,ak]))
       refine bR ?_
       have HW6:=af (aC hT6 (aC hk6 hb45))
       clear hT6 hk6 hnA6 hb5 hb45 hT5 hnA5 hPT hnA4 hob4 hla hks2
       go_wp2_with (fail)
       go_ret
       rw[HR.out.1,HR.out.2]
       refine⟨rfl,HW6.out.1.sub HX.out.2.2.2.2.2.1 HH.out.1.fb,?_⟩
       have k1:=HX.out.2.2.2.2.2.2.1
       have k2:Keep (fun g=>¬F g) w2 wr:=Keep.of_below HE.out.2.2.2.1 _
       have k3:Keep (fun g=>¬F g) wr w4:=HW4.out.2.1.imp fun g e hf=>e (HX.out.2.2.2.2.2.1 g hf)
       have k4:Keep (fun g=>¬F g) w4 w5:=Keep.of_below HW6.out.2.2 _
       have k5:Keep (fun g=>¬F g) w5 w6:=HW6.out.2.1.imp fun g e hf=>e (HX.out.2.2.2.2.2.1 g hf)
       exact(((k1.trans k2 (fun _ _ e=>e)).trans k3 (fun _ _ e=>e)).trans k4 (fun _ _ e=>e)).trans k5 (fun _ _ e=>e)
theorem DK {ls:List bI}{path tokens:List ByteArray}{l:bI}(h:l∈ls)(h1:l.covers path=true)(h2:CO tokens l.token=true):uL ls path tokens=true:=by
 unfold uL
 rw[jT]
 exact .inl (qa.2 ⟨l,h,by rw[h1,h2];rfl⟩)
theorem GU {ls:List bI}{path tokens:List ByteArray}(h:∀l∈ls,(l.covers path && CO tokens l.token)=false):uL ls path tokens= !ls.any (fun l=>l.covers path):=by
 unfold uL
 rw[tV.2 (fun l hl=>by rw[h l hl];simp),Bool.false_or]
theorem EF (lv pv tv:Value)(ps:List LP)(path tokens:List ByteArray)(S S1 S2:Nat->Prop)(w:World)(hl:tL w S lv ps)(hp:gY w S1 pv path)(ht:gY w S2 tv tokens):
  Calls Tryz.prog 16 #[lv,pv,tv] w fun e w'=>e= .returned (.bool (uL (ps.map (·.1)) path tokens))/\Below w.heap.size w w':=by
 obtain⟨lo,lc,rfl,hl1,hl2,_,_⟩:=cZ.form hl.1
 obtain⟨R,hR⟩:∃R,Hid (uL (ps.map (·.1)) path tokens=R):=⟨_,af rfl⟩
 rw[hR.out]
 have HL:=af hl;have HP:=af hp;have HT:=af ht
 clear hl hp ht
 go_enter Tryz.func16,Tryz.ntmps16
 go_upto_region 3 with fail
 go_loopw [7,9,12] (fun c _ i wr=>∃k:Nat,k<=ps.length/\i= .int .i64 k/\c= .bool ((ps.take k).any fun p=>p.1.covers path)/\(∀p∈ps.take k,(p.1.covers path && CO tokens p.1.token)=false)/\Below w.heap.size w wr) (fun _ _ i _=>ps.length - (intOf i).toNat)
 case atStart=>exact⟨0,aX _,rfl,rfl,by simp,aO _ _⟩
 case round=>
  obtain⟨k,hk,rfl,rfl,hno,hbw⟩:=hrel
  obtain⟨c,hc⟩:∃c,Hid (((ps.take k).any fun p=>p.1.covers path)=c):=⟨_,af rfl⟩
  rw[hc.out]
  have HNO:=af hno;clear hno
  by_cases hkl:k<ps.length
  ·have hkl':(k:Int)<(ps.length:Int):=by omega
   obtain⟨b,o,rfl,d0,d1,d2,d3,d4,d5⟩:=(HL.out.below hbw).at rfl k hkl
   obtain⟨T,hT⟩:=(HL.out.below hbw).2 _ (bD hkl)
   have htk:ps.take (k+1)=ps.take k++[ps[k]]:=aI hkl
   have hmem:ps[k].1∈ps.map (·.1):=dL.2 ⟨_,bD hkl,rfl⟩
   generalize ps[k]=p at d0 d1 d2 d3 d4 d5 hT htk hmem
   have hb2:=aK wr (.cells #[.string p.1.token,p.2,.bool p.1.deep,.bool p.1.excl,.string p.1.owner,.int .i64 p.1.till] 24)
   have hn2:=aP wr (.cells #[.string p.1.token,p.2,.bool p.1.deep,.bool p.1.excl,.string p.1.owner,.int .i64 p.1.till] 24)
   have hbl:=aD wr _ d0
   obtain⟨w2,hw2⟩:∃w2:World,Hid (wr.alloc (.cells #[.string p.1.token,p.2,.bool p.1.deep,.bool p.1.excl,.string p.1.owner,.int .i64 p.1.till] 24)=w2):=⟨_,af rfl⟩
   rw[hw2.out] at hb2 hn2
   have hbw2:=hbw.trans (hb2.mono hbw.size)
   have hcov:=nL p.1 p.2 pv path T S1 w2 (cZ.below hT hb2) (cZ.below HP.out hbw2)
   obtain⟨C,hC⟩:∃C,Hid (p.1.covers path=C):=⟨_,af rfl⟩
   rw[hC.out] at hcov
   unfold p8 at hcov
   have HCV:=af hcov
   have HBW2:=af hbw2
   have HM:=af (aC htk hmem)
   obtain⟨gb,hgb⟩:∃gb:Nat,Hid (wr.heap.size=gb):=⟨_,af rfl⟩
   rw[hgb.out] at hn2
   have HN2:=af hn2
   have hform:=cZ.form hT
   clear hb2 hbw2 hcov hT htk hmem hbw hn2
   obtain⟨⟨tk,pt,dp,ex,ow,ti⟩,qv⟩:=p
   dsimp only at d0 d1 d2 d3 d4 d5 HCV hw2 HN2 hC HM hform
   obtain⟨qo,qc,rfl,_,_,_,_⟩:=hform
   go_upto_region 5 with (fail)
   rw[hw2.out,hgb.out]
   obtain⟨e0,e1,e2,e3,e4,e5,le⟩:=bW HN2.out
   clear d0 d1 d2 d3 d4 d5 hbl
   cases C with
   |false=>
    go_wp2_with (first
     |(go_at_call 12;go_must (refine HCV.out.mono ?_;rintro e w3 ⟨rfl,hb3⟩;refine Stop.of ?_)))
    refine Stop.on ?_
    have HB3:=af (HBW2.out.trans (hb3.mono HBW2.out.size))
    clear hb3
    go_wp2_with fail
    go_roundw
    case rel=>
     refine⟨k+1,by omega,by go_num,?_,fun q hq=> ?_,HB3.out⟩
     ·rw[HM.out.1,ru,hc.out];simp[hC.out]
     ·rw[HM.out.1] at hq
      rcases bO.1 hq with hq|hq
      ·exact HNO.out q hq
      ·rw[bK.1 hq]
       show (_ && _)=false
       rw[hC.out];rfl
    case measure=>simp[intOf];omega
   |true=>
    go_wp2_with (first
     |(go_at_call 12;go_must (refine HCV.out.mono ?_;rintro e w3 ⟨rfl,hb3⟩;refine Stop.of ?_)))
    refine Stop.on ?_
    have hbw3:=HBW2.out.trans (hb3.mono HBW2.out.size)
    have HB3:=af hbw3
    have HCT:=af (FN tv tokens tk S2 w3 (cZ.below HT.out hbw3))
    clear e0 e1 e2 e3 e4 e5 le
    obtain⟨e0,e1,e2,e3,e4,e5,le⟩:=bW ((hb3.block _ (aj.1 HN2.out).1).trans HN2.out)
    obtain⟨H,hH⟩:∃H,Hid (CO tokens tk=H):=⟨_,af rfl⟩
    rw[hH.out] at HCT
    clear hb3 hbw3
    cases H with
    |true=>
     have hr:R=true:=by rw[<-hR.out];exact DK HM.out.2 hC.out hH.out
     go_wp2_with (first
      |(go_at_call 32;go_must (refine HCT.out.mono ?_;rintro e w4 ⟨rfl,hw⟩;subst w4)))
     go_ret
     exact⟨by simp[hr],HB3.out⟩
    |false=>
     go_wp2_with (first
      |(go_at_call 32;go_must (refine HCT.out.mono ?_;rintro e w4 ⟨rfl,hw⟩;subst w4)))
     go_roundw
     case rel=>
      refine⟨k+1,by omega,by go_num,?_,fun q hq=> ?_,HB3.out⟩
      ·rw[HM.out.1,ru];simp[hC.out]
      ·rw[HM.out.1] at hq
       rcases bO.1 hq with hq|hq
       ·exact HNO.out q hq
       ·rw[bK.1 hq]
        show (_ && _)=false
        rw[hC.out];exact hH.out
     case measure=>simp[intOf];omega
  ·obtain rfl:k=ps.length:=by omega
   have x2:¬(ps.length:Int)<(ps.length:Int):=by omega
   have hr:R= !c:=by
    rw[<-hR.out,<-hc.out,GU]
    ·rw[bP,List.any_map];rfl
    ·intro l hl
     obtain⟨p,hp,rfl⟩:=dL.1 hl
     exact HNO.out p (by rw[bP];exact hp)
   have HB:=af hbw
   clear hbw
   go_wp2_with fail
   go_ret
   exact⟨by simp,HB.out⟩
end Go.Proofs.YtpgdljlghiifjaaGreatDoor
namespace Go.Proofs.YtpgdljlghiifjaaGreatDoor
open Go.RowKit Go.Shelf
theorem vX.lt {w:World}(h:vX w):mY.g 3<w.heap.size/\mY.g 4<w.heap.size:=
 ⟨aD w _ (h.1 0 (by decide)),aD w _ (h.2 0 (by decide)).1⟩
theorem vX.keep {M:Nat->Prop}{w w':World}(h:vX w)(hk:Keep M w w')(h3:¬M (mY.g 3))(h4:¬M (mY.g 4)):vX w':=by
 obtain⟨l3,l4⟩:=h.lt
 exact⟨fun c hc=>(hk.cell (p:=⟨mY.g 3,c,none⟩) l3 h3).trans (h.1 c hc),fun i hi=>⟨(hk.cell (p:=⟨mY.g 4,2*i,none⟩) l4 h4).trans (h.2 i hi).1,(hk.cell (p:=⟨mY.g 4,2*i+1,none⟩) l4 h4).trans (h.2 i hi).2⟩⟩
def Uy (w:World)(t b:Nat)(w':World):Prop:=∃v F,LT F v t b [] w'/\(∀g,g<w.heap.size->F g)/\Below w.heap.size w w'/\w.heap.size<=b
theorem Oa (w:World):Calls Tryz.prog 18 #[] w fun e w'=>∃t b,e= .returned (.tuple #[.pointer (some ⟨t,0,none⟩),.pointer (some ⟨b,0,none⟩)])/\Uy w t b w':=by
 go_enter Tryz.func18,Tryz.ntmps18
 go_wp2_with (first
  |(go_at_call 34;go_must ((refine(Ub 4096 w).mono ?_);rintro e w1 ⟨d,S,rfl,hD,hb1,hS⟩;have HV:=af (TJ.make w w1 4096 700 d S (VB.of hb1 hS) hD (by omega) (by omega));clear hD hb1 hS))
  |(go_at_call 33;go_must ((refine HV.out.mono ?_);rintro e w2 ⟨v,rfl,hV2⟩;clear HV))
  |(go_at_call 35;go_must ((refine hV2.begin.mono ?_);rintro e w3 ⟨t,rfl,hT3⟩;clear hV2))
  |(go_at_call 25;go_must ((refine(Te t w3).mono ?_);rintro e w4 ⟨rfl,hob,hb4⟩)))
 go_ret2
 refine⟨_,_,rfl,v,_,⟨⟨false,2+0,hT3.next (Keep.of_below hb4 (fun _=>False)) (fun _ e=>e.elim)⟩,hob,.inr ⟨aG _,(aj.1 hob).1⟩,⟨tX,by simp,by simp⟩⟩,fun g hg=> .inl hg,?_⟩
 have h:=hT3.jR
 exact⟨h.trans (hb4.mono h.size),h.size⟩
def yK:bI:=⟨⟨#[116,49]⟩,[⟨#[97]⟩],true,true,⟨#[]⟩,10⟩
def KL:bI:=⟨⟨#[116,50]⟩,[⟨#[97]⟩,⟨#[98]⟩],false,false,⟨#[]⟩,20⟩
theorem Tw:qY [] yK 0=0:=by decide
theorem T9:vW [] yK 0=[yK]:=by unfold vW;rw[if_pos Tw];rfl
theorem Tv:qY [yK] KL 0=63:=by decide
theorem Tk:vW [yK] KL 0=[yK]:=by unfold vW;rw[Tv];rfl
theorem Ua:qY [yK] KL 10=0:=by decide
theorem Tt:yK.covers KL.path=true:=by decide
theorem Tq:yK.covers [⟨#[97,98]⟩]=false:=by decide
theorem Tp:yK.clash KL=true:=by decide
theorem Tn:uL [yK] KL.path []=false:=by decide
theorem Tm:uL [yK] KL.path [⟨#[116,49]⟩]=true:=by decide
theorem Ux (w:World)(o1 o2 o3 o4:Obj):((((w.alloc o1).alloc o2).alloc o3).alloc o4).heap[w.heap.size]? =some o1/\((((w.alloc o1).alloc o2).alloc o3).alloc o4).heap[w.heap.size+1]? =some o2/\((((w.alloc o1).alloc o2).alloc o3).alloc o4).heap[w.heap.size+1+1]? =some o3/\((((w.alloc o1).alloc o2).alloc o3).alloc o4).heap[w.heap.size+1+1+1]? =some o4/\Below w.heap.size w ((((w.alloc o1).alloc o2).alloc o3).alloc o4):=by
 have s1:(w.alloc o1).heap.size=w.heap.size+1:=by simp
 have s2:((w.alloc o1).alloc o2).heap.size=w.heap.size+1+1:=by simp
 have s3:(((w.alloc o1).alloc o2).alloc o3).heap.size=w.heap.size+1+1+1:=by simp
 have n1:=aP w o1
 have n2:=aP (w.alloc o1) o2
 have n3:=aP ((w.alloc o1).alloc o2) o3
 have n4:=aP (((w.alloc o1).alloc o2).alloc o3) o4
 rw[s1] at n2;rw[s2] at n3;rw[s3] at n4
 have b2:=aK (w.alloc o1) o2
 have b3:=aK ((w.alloc o1).alloc o2) o3
 have b4:=aK (((w.alloc o1).alloc o2).alloc o3) o4
 refine⟨(b4.block _ (by omega)).trans ((b3.block _ (by omega)).trans ((b2.block _ (by omega)).trans n1)),(b4.block _ (by omega)).trans ((b3.block _ (by omega)).trans n2),(b4.block _ (by omega)).trans n3,n4,?_⟩
 exact(((aK w o1).trans (b2.mono (by omega))).trans (b3.mono (by omega))).trans (b4.mono (by omega))
def Ox (w1:World):World:=((((w1.alloc (.cells #[.string ⟨#[97]⟩] 9)).alloc (.cells #[.string ⟨#[116,49]⟩,.slice (some ⟨w1.heap.size,0,none⟩) 1 1,.bool true,.bool true,.string ⟨#[]⟩,.int .i64 10] 24)).alloc (.cells #[.string ⟨#[97]⟩,.string ⟨#[98]⟩] 9)).alloc (.cells #[.string ⟨#[116,50]⟩,.slice (some ⟨w1.heap.size+1+1,0,none⟩) 2 2,.bool false,.bool false,.string ⟨#[]⟩,.int .i64 20] 24))
theorem Qq (w1:World):(Ox w1).heap.size=w1.heap.size+4:=by unfold Ox;simp
theorem Ow (w1:World):Below w1.heap.size w1 (Ox w1)/\(Ox w1).heap[w1.heap.size+1]? =some (.cells #[.string ⟨#[116,49]⟩,.slice (some ⟨w1.heap.size,0,none⟩) 1 1,.bool true,.bool true,.string ⟨#[]⟩,.int .i64 10] 24 (0,0))/\
  (Ox w1).heap[w1.heap.size+1+1+1]? =some (.cells #[.string ⟨#[116,50]⟩,.slice (some ⟨w1.heap.size+1+1,0,none⟩) 2 2,.bool false,.bool false,.string ⟨#[]⟩,.int .i64 20] 24 (0,0))/\
  (∀S:Nat->Prop,¬S w1.heap.size->gY (Ox w1) S (.slice (some ⟨w1.heap.size,0,none⟩) 1 1) yK.path)/\(∀S:Nat->Prop,¬S (w1.heap.size+1+1)->gY (Ox w1) S (.slice (some ⟨w1.heap.size+1+1,0,none⟩) 2 2) KL.path):=by
 have hal:=Ux w1 (.cells #[.string ⟨#[97]⟩] 9) (.cells #[.string ⟨#[116,49]⟩,.slice (some ⟨w1.heap.size,0,none⟩) 1 1,.bool true,.bool true,.string ⟨#[]⟩,.int .i64 10] 24) (.cells #[.string ⟨#[97]⟩,.string ⟨#[98]⟩] 9) (.cells #[.string ⟨#[116,50]⟩,.slice (some ⟨w1.heap.size+1+1,0,none⟩) 2 2,.bool false,.bool false,.string ⟨#[]⟩,.int .i64 20] 24)
 obtain⟨h0,h1,h2,h3,h4⟩:=hal
 refine⟨h4,h1,h3,?_,?_⟩
 ·intro S hS
  exact Row.rF (w:=Ox w1) (g:=w1.heap.size) (e:=9) (cur:=[.string ⟨#[97]⟩]) (off:=0) (k:=1) h0 1 1 (by simp) hS (by omega) (by unfold maxLen;omega)
 ·intro S hS
  exact Row.rF (w:=Ox w1) (g:=w1.heap.size+1+1) (e:=9) (cur:=[.string ⟨#[97]⟩,.string ⟨#[98]⟩]) (off:=0) (k:=1) h2 2 2 (by simp) hS (by omega) (by unfold maxLen;omega)
theorem Gl (w:World)(hT:vX w):Calls Tryz.prog 9 #[] w fun e w'=>e= .returned (.bool true)/\Below w.heap.size w w':=by
 have HT:=af hT
 clear hT
 go_enter Tryz.func9,Tryz.ntmps9
 go_wp2_with (first
  |(go_at_call 18;go_must ((refine(Oa w).mono ?_);rintro e w1 ⟨t,b,rfl,v,F,hL,hF,hb1,_⟩;refine Stop.of ?_)))
 refine Stop.on ?_
 have HL:=af (aC hL (aC hF hb1))
 clear hL hF hb1
 go_upto_region 4 with (fail)
 have hfx:=Ow w1
 have hfs:=Qq w1
 show Code.wp _ _ _ _ (Ox w1)
 obtain⟨sb,hsb⟩:∃sb:Nat,Hid (w1.heap.size=sb):=⟨_,af rfl⟩
 generalize Ox w1=w2 at hfx hfs ⊢
 obtain⟨hb2,hA,hB,hpA,hpB⟩:=hfx
 have hT2:=HL.out.1.next hb2
 have hF2:∀g,w1.heap.size<=g->g<w1.heap.size+4->uf F w1 w2 g:=fun g h1 h2=> .inr ⟨h1,by rw[hfs];exact h2⟩
 have hF3:∀g,g<w.heap.size->uf F w1 w2 g:=fun g hg=> .inl (HL.out.2.1 g hg)
 have hbb2:=HL.out.2.2.trans (hb2.mono HL.out.2.2.size)
 have htb2:=HT.out.below hbb2
 generalize uf F w1 w2=F2 at hT2 hF2 hF3
 rw[hsb.out] at hA hB hpA hpB hF2 ⊢
 have HF2:=af (aC hF2 hF3)
 have hFA:F2 (sb+1):=hF2 _ (by omega) (by omega)
 have hFB:F2 (sb+1+1+1):=hF2 _ (by omega) (by omega)
 have hl3:=HT.out.lt
 have ht3:F2 (mY.g 3):=hF3 _ hl3.1
 have ht4:F2 (mY.g 4):=hF3 _ hl3.2
 have hA1:=hpA (fun g=>¬F2 g) (fun e=>e (hF2 _ (by omega) (by omega)))
 have hB1:=hpB (fun g=>¬F2 g) (fun e=>e (hF2 _ (by omega) (by omega)))
 have hadd1:=Jt F2 v t b [] yK _ 0 w2 hT2 hA1 ⟨by decide,by decide,by decide⟩ htb2 (by decide)
 rw[Tw,T9] at hadd1
 have HAD1:=af hadd1
 have HX:=af (aC hA (aC hB (aC hA1 (aC hB1 (aC hFA (aC hFB (aC ht3 (aC ht4 (aC htb2 hbb2)))))))))
 obtain⟨e0,e1,e2,e3,e4,e5,le⟩:=bW hA
 clear hA hB hpA hpB hT2 hF2 hF3 hadd1 hA1 hB1 hFA hFB ht3 ht4 htb2 hbb2 hfs hb2 hl3
 go_wp2_with (first
  |(go_at_call 19;go_must (refine HAD1.out.mono ?_;rintro e w3 ⟨rfl,hT3,hk3⟩;refine Stop.of ?_)))
 refine Stop.on ?_
 have hA3:=(hk3.block _ le (fun e=>e HX.out.2.2.2.2.1)).trans HX.out.1
 have hB3:=(hk3.block _ (aj.1 HX.out.2.1).1 (fun e=>e HX.out.2.2.2.2.2.1)).trans HX.out.2.1
 have pA3:gY w3 _ _ yK.path:=cZ.keep HX.out.2.2.1 fun g _ hl hn=>⟨hk3.block g hl hn,hn⟩
 have pB3:gY w3 _ _ KL.path:=cZ.keep HX.out.2.2.2.1 fun g _ hl hn=>⟨hk3.block g hl hn,hn⟩
 have tb3:=HX.out.2.2.2.2.2.2.2.2.1.keep hk3 (fun e=>e HX.out.2.2.2.2.2.2.1) (fun e=>e HX.out.2.2.2.2.2.2.2.1)
 have hadd2:=Jt F2 v t b [yK] KL _ 0 w3 hT3 pB3 ⟨by decide,by decide,by decide⟩ tb3 (by decide)
 rw[Tv,Tk] at hadd2
 have HAD2:=af hadd2
 clear e0 e1 e2 e3 e4 e5 le
 obtain⟨e0,e1,e2,e3,e4,e5,le⟩:=bW hB3
 have HX3:=af (aC hA3 (aC hB3 (aC pA3 (aC pB3 (aC tb3 hk3)))))
 clear hA3 hB3 pA3 pB3 tb3 hk3 hadd2 hT3
 go_wp2_with (first
  |(go_at_call 19;go_must (refine HAD2.out.mono ?_;rintro e w4 ⟨rfl,hT4,hk4⟩;refine Stop.of ?_)))
 refine Stop.on ?_
 have hA4:=(hk4.block _ (aj.1 HX3.out.1).1 (fun e=>e HX.out.2.2.2.2.1)).trans HX3.out.1
 have hB4:=(hk4.block _ (aj.1 HX3.out.2.1).1 (fun e=>e HX.out.2.2.2.2.2.1)).trans HX3.out.2.1
 have pA4:gY w4 _ _ yK.path:=cZ.keep HX3.out.2.2.1 fun g _ hl hn=>⟨hk4.block g hl hn,hn⟩
 have pB4:gY w4 _ _ KL.path:=cZ.keep HX3.out.2.2.2.1 fun g _ hl hn=>⟨hk4.block g hl hn,hn⟩
 have tb4:=HX3.out.2.2.2.2.1.keep hk4 (fun e=>e HX.out.2.2.2.2.2.2.1) (fun e=>e HX.out.2.2.2.2.2.2.2.1)
 have hadd3:=Jt F2 v t b [yK] KL _ 10 w4 hT4 pB4 ⟨by decide,by decide,by decide⟩ tb4 (by decide)
 rw[Ua] at hadd3
 have HAD3:=af hadd3
 clear e0 e1 e2 e3 e4 e5 le
 obtain⟨e0,e1,e2,e3,e4,e5,le⟩:=bW hB4
 have HX4:=af (aC hA4 (aC hB4 (aC pA4 (aC pB4 (aC tb4 (HX3.out.2.2.2.2.2.trans hk4 (fun _ _ e=>e)))))))
 clear hA4 hB4 pA4 pB4 tb4 hk4 hadd3 hT4
 go_wp2_with (first
  |(go_at_call 19;go_must (refine HAD3.out.mono ?_;rintro e w5 ⟨rfl,hT5,hk5⟩;refine Stop.of ?_)))
 refine Stop.on ?_
 have hA5:=(hk5.block _ (aj.1 HX4.out.1).1 (fun e=>e HX.out.2.2.2.2.1)).trans HX4.out.1
 have hB5:=(hk5.block _ (aj.1 HX4.out.2.1).1 (fun e=>e HX.out.2.2.2.2.2.1)).trans HX4.out.2.1
 have pA5:gY w5 _ _ yK.path:=cZ.keep HX4.out.2.2.1 fun g _ hl hn=>⟨hk5.block g hl hn,hn⟩
 have pB5:gY w5 _ _ KL.path:=cZ.keep HX4.out.2.2.2.1 fun g _ hl hn=>⟨hk5.block g hl hn,hn⟩
 have hbb5:Below w.heap.size w w5:=by
  refine HX.out.2.2.2.2.2.2.2.2.2.trans ((HX4.out.2.2.2.2.2.trans hk5 (fun _ _ e=>e)).iH HX.out.2.2.2.2.2.2.2.2.2.size fun g hg e=>e (HF2.out.2 g hg))
 clear e0 e1 e2 e3 e4 e5 le
 obtain⟨e0,e1,e2,e3,e4,e5,le⟩:=bW hA5
 obtain⟨f0,f1,f2,f3,f4,f5,fl⟩:=bW hB5
 have hc1:=nL yK _ _ _ _ _ w5 pA5 pB5
 rw[Tt] at hc1
 have HC1:=af hc1
 have HX5:=af (aC hA5 (aC hB5 (aC pA5 (aC pB5 hbb5))))
 clear hA5 hB5 pA5 pB5 hk5 hT5 hc1 hbb5
 go_wp2_with (first
  |(go_at_call 12;go_must (refine HC1.out.mono ?_;rintro e w6 ⟨rfl,hb6⟩;refine Stop.of ?_)))
 refine Stop.on ?_
 have hS6:=aK w6 (.cells #[.string ⟨#[97,98]⟩] 9)
 have hn6:=aP w6 (.cells #[.string ⟨#[97,98]⟩] 9)
 have hb67:=hb6.trans (hS6.mono hb6.size)
 have hA7:=(hb67.block _ (aj.1 HX5.out.1).1).trans HX5.out.1
 have hB7:=(hb67.block _ (aj.1 HX5.out.2.1).1).trans HX5.out.2.1
 have hc2:=nL yK _ (.slice (some ⟨w6.heap.size,0,none⟩) 1 1) [⟨#[97,98]⟩] _ fH (w6.alloc (.cells #[.string ⟨#[97,98]⟩] 9)) (cZ.below HX5.out.2.2.1 hb67) (Row.rF (e:=9) (cur:=[.string ⟨#[97,98]⟩]) (off:=0) (k:=1) hn6 1 1 (by simp) id (by omega) (by unfold maxLen;omega))
 rw[Tq] at hc2
 have HC2:=af hc2
 have hA6:=(hb6.block _ (aj.1 HX5.out.1).1).trans HX5.out.1
 clear e0 e1 e2 e3 e4 e5 le f0 f1 f2 f3 f4 f5 fl
 obtain⟨e0,e1,e2,e3,e4,e5,le⟩:=bW hA6
 have HX7:=af (aC hA7 (aC hB7 hb67))
 clear hA7 hB7 hb67 hc2 hA6 hS6 hn6 hb6
 go_wp2_with (first
  |(go_at_call 12;go_must (refine HC2.out.mono ?_;rintro e w8 ⟨rfl,hb8⟩;refine Stop.of ?_)))
 refine Stop.on ?_
 have hb58:=HX7.out.2.2.trans (hb8.mono HX7.out.2.2.size)
 have hA8:=(hb8.block _ (aj.1 HX7.out.1).1).trans HX7.out.1
 have hB8:=(hb8.block _ (aj.1 HX7.out.2.1).1).trans HX7.out.2.1
 have hc3:=uG yK KL _ _ _ _ w8 (cZ.below HX5.out.2.2.1 hb58) (cZ.below HX5.out.2.2.2.1 hb58)
 rw[Tp] at hc3
 have HC3:=af hc3
 clear e0 e1 e2 e3 e4 e5 le
 obtain⟨e0,e1,e2,e3,e4,e5,le⟩:=bW hA8
 obtain⟨f0,f1,f2,f3,f4,f5,fl⟩:=bW hB8
 have HX8:=af (aC hA8 (aC hB8 hb58))
 clear hA8 hB8 hb58 hc3 hb8
 go_wp2_with (first
  |(go_at_call 14;go_must (refine HC3.out.mono ?_;rintro e w9 ⟨rfl,hb9⟩;refine Stop.of ?_)))
 refine Stop.on ?_
 have hb59:=HX8.out.2.2.trans (hb9.mono HX8.out.2.2.size)
 have hA9:=(hb9.block _ (aj.1 HX8.out.1).1).trans HX8.out.1
 have hB9:=(hb9.block _ (aj.1 HX8.out.2.1).1).trans HX8.out.2.1
 have hSA:=aK w9 (.cells #[.string ⟨#[116,49]⟩,.slice (some ⟨sb,0,none⟩) 1 1,.bool true,.bool true,.string ⟨#[]⟩,.int .i64 10] 24)
 have hnA:=aP w9 (.cells #[.string ⟨#[116,49]⟩,.slice (some ⟨sb,0,none⟩) 1 1,.bool true,.bool true,.string ⟨#[]⟩,.int .i64 10] 24)
 have hb5A:=hb59.trans (hSA.mono hb59.size)
 have hAA:=(hSA.block _ (aj.1 hA9).1).trans hA9
 have hBA:=(hSA.block _ (aj.1 hB9).1).trans hB9
 have hLA:tL (w9.alloc (.cells #[.string ⟨#[116,49]⟩,.slice (some ⟨sb,0,none⟩) 1 1,.bool true,.bool true,.string ⟨#[]⟩,.int .i64 10] 24)) fH (.slice (some ⟨w9.heap.size,0,none⟩) 1 1) [(yK,.slice (some ⟨sb,0,none⟩) 1 1)]:=
  ⟨Row.rF (e:=24) (cur:=[.string ⟨#[116,49]⟩,.slice (some ⟨sb,0,none⟩) 1 1,.bool true,.bool true,.string ⟨#[]⟩,.int .i64 10]) (off:=0) (k:=6) hnA 1 1 (by simp) id (by omega) (by unfold maxLen;omega),fun p hp=>by obtain rfl:=bK.1 hp;exact⟨_,cZ.below HX5.out.2.2.1 hb5A⟩⟩
 have hf1:=EF _ _ _ _ _ [] fH _ fH _ hLA (cZ.below HX5.out.2.2.2.1 hb5A) (cZ.nil _ _ _)
 rw[show ([(yK,(Value.slice (some ⟨sb,0,none⟩) 1 1))]:List LP).map (·.1)=[yK] from rfl,Tn] at hf1
 have HF1:=af hf1
 clear e0 e1 e2 e3 e4 e5 le f0 f1 f2 f3 f4 f5 fl
 obtain⟨e0,e1,e2,e3,e4,e5,le⟩:=bW hA9
 obtain⟨f0,f1,f2,f3,f4,f5,fl⟩:=bW hBA
 have HXA:=af (aC hAA (aC hBA hb5A))
 clear hA9 hB9 hAA hBA hb5A hb59 hf1 hLA hnA hSA hb9
 go_wp2_with (first
  |(go_at_call 16;go_must (refine HF1.out.mono ?_;rintro e wC ⟨rfl,hbC⟩;refine Stop.of ?_)))
 refine Stop.on ?_
 have hb5C:=HXA.out.2.2.trans (hbC.mono HXA.out.2.2.size)
 have hAC:=(hbC.block _ (aj.1 HXA.out.1).1).trans HXA.out.1
 have hBC:=(hbC.block _ (aj.1 HXA.out.2.1).1).trans HXA.out.2.1
 have hSD:=aK wC (.cells #[.string ⟨#[116,49]⟩,.slice (some ⟨sb,0,none⟩) 1 1,.bool true,.bool true,.string ⟨#[]⟩,.int .i64 10] 24)
 have hnD:=aP wC (.cells #[.string ⟨#[116,49]⟩,.slice (some ⟨sb,0,none⟩) 1 1,.bool true,.bool true,.string ⟨#[]⟩,.int .i64 10] 24)
 have hBD:=(hSD.block _ (aj.1 hBC).1).trans hBC
 obtain⟨wD,hwD⟩:∃wD:World,Hid (wC.alloc (.cells #[.string ⟨#[116,49]⟩,.slice (some ⟨sb,0,none⟩) 1 1,.bool true,.bool true,.string ⟨#[]⟩,.int .i64 10] 24)=wD):=⟨_,af rfl⟩
 have hsD:wD.heap.size=wC.heap.size+1:=by rw[<-hwD.out];simp
 rw[hwD.out] at hSD hnD hBD
 have hSE:=aK wD (.cells #[.string ⟨#[116,49]⟩] 9)
 have hnE:=aP wD (.cells #[.string ⟨#[116,49]⟩] 9)
 obtain⟨wE,hwE⟩:∃wE:World,Hid (wD.alloc (.cells #[.string ⟨#[116,49]⟩] 9)=wE):=⟨_,af rfl⟩
 rw[hwE.out] at hSE hnE
 have hb5E:=hb5C.trans ((hSD.trans (hSE.mono hSD.size)).mono hb5C.size)
 have hnDE:=(hSE.block _ (aj.1 hnD).1).trans hnD
 have hLE:tL wE fH (.slice (some ⟨wC.heap.size,0,none⟩) 1 1) [(yK,.slice (some ⟨sb,0,none⟩) 1 1)]:=
  ⟨Row.rF (e:=24) (cur:=[.string ⟨#[116,49]⟩,.slice (some ⟨sb,0,none⟩) 1 1,.bool true,.bool true,.string ⟨#[]⟩,.int .i64 10]) (off:=0) (k:=6) hnDE 1 1 (by simp) id (by omega) (by unfold maxLen;omega),fun p hp=>by obtain rfl:=bK.1 hp;exact⟨_,cZ.below HX5.out.2.2.1 hb5E⟩⟩
 rw[hsD] at hnE
 have hTE:gY wE fH (.slice (some ⟨wC.heap.size+1,0,none⟩) 1 1) [⟨#[116,49]⟩]:=Row.rF (e:=9) (cur:=[.string ⟨#[116,49]⟩]) (off:=0) (k:=1) hnE 1 1 (by simp) id (by omega) (by unfold maxLen;omega)
 have hf2:=EF _ _ _ _ _ [⟨#[116,49]⟩] fH _ fH _ hLE (cZ.below HX5.out.2.2.2.1 hb5E) hTE
 rw[show ([(yK,(Value.slice (some ⟨sb,0,none⟩) 1 1))]:List LP).map (·.1)=[yK] from rfl,Tm] at hf2
 have HF2':=af hf2
 clear e0 e1 e2 e3 e4 e5 le f0 f1 f2 f3 f4 f5 fl
 obtain⟨e0,e1,e2,e3,e4,e5,le⟩:=bW hAC
 obtain⟨f0,f1,f2,f3,f4,f5,fl⟩:=bW hBD
 have HXE:=af hb5E
 clear hb5C hAC hBC hSD hnD hBD hSE hnE hb5E hnDE hLE hTE hf2 hbC
 go_wp2_with (first
  |(rw[hwD.out])
  |(rw[hwE.out])
  |(go_at_call 16;go_must (refine HF2'.out.mono ?_;rintro e wF ⟨rfl,hbF⟩)))
 go_ret
 have h:=HX5.out.2.2.2.2
 have h2:=h.trans (HXE.out.mono h.size)
 exact⟨rfl,h2.trans (hbF.mono h2.size)⟩
end Go.Proofs.YtpgdljlghiifjaaGreatDoor
namespace Go.Proofs.YtpgdljlghiifjaaGreatDoor
open Go.RowKit
theorem JW (a b:bI):a.clash b=b.clash a:=by
 unfold bI.clash
 rw[Bool.or_comm a.excl,Bool.or_comm (a.covers b.path)]
theorem Fv {a b:List ByteArray}:within a b=true↔b<+:a:=by unfold within;rw[decide_eq_true_iff]
theorem BP {l:bI}{p:List ByteArray}:l.covers p=true↔l.path<+:p/\(l.deep=true\/p.length=l.path.length):=by
 unfold bI.covers
 rw[dx,Fv,jT,decide_eq_true_iff]
theorem zS (l:bI):l.covers l.path=true:=BP.2 ⟨List.prefix_refl _,.inr rfl⟩
theorem DU {a b:bI}{p:List ByteArray}(ha:a.covers p=true)(hb:b.covers p=true)(hl:a.path.length<=b.path.length):a.covers b.path=true:=by
 rw[BP] at ha hb ⊢
 refine⟨List.prefix_of_prefix_length_le ha.1 hb.1 hl,ha.2.imp id fun h=> ?_⟩
 have:=hb.1.length_le
 omega
theorem OP {a b:bI}{p:List ByteArray}(ha:a.covers p=true)(hb:b.covers p=true)(he:(a.excl||b.excl)=true):a.clash b=true:=by
 unfold bI.clash
 rw[he,Bool.true_and,jT]
 rcases Nat.le_total a.path.length b.path.length with h|h
 ·exact .inl (DU ha hb h)
 ·exact .inr (DU hb ha h)
theorem JV (a b:bI)(ps:List (List ByteArray))(ha:a.path∈ps)(hb:b.path∈ps):a.clash b=((ps.any fun p=>a.covers p && b.covers p) && (a.excl||b.excl)):=by
 cases he:a.excl||b.excl with
 |false=>unfold bI.clash;rw[he];simp
 |true=>
  rw[Bool.and_true]
  cases hc:ps.any fun p=>a.covers p && b.covers p with
  |true=>
   obtain⟨p,_,hp⟩:=qa.1 hc
   rw[dx] at hp
   exact OP hp.1 hp.2 he
  |false=>
   have h1:=tV.1 hc b.path hb
   have h2:=tV.1 hc a.path ha
   rw[zS,Bool.and_true] at h1
   rw[zS,Bool.true_and] at h2
   unfold bI.clash
   rw[he,eH.2 h1,eH.2 h2]
   rfl
structure Alone (now:Int)(ls:List bI):Prop where
 len:(live now ls).length<=32
 pair:(live now ls).Pairwise fun a b=>a.clash b=false/\a.token≠b.token
end Go.Proofs.YtpgdljlghiifjaaGreatDoor
namespace Go.Proofs.YtpgdljlghiifjaaGreatDoor
open Go.RowKit Go.ChangeShapes Go.WideShapes Go.ChangeAt Go.Deep Go.Shelf Go.Lib
theorem vJ {H:Type}{enc:TypeId×Value->H}{W:World}{fuel:Nat}{cs:List Value}{x:DataW H×List MemPlace}(h:DataW.trod enc Tryz.prog W 0 (fun _=>true) true fuel 22 cs=some x):
  ∃v l,cs=[v]/\gY W fH v l/\∀s∈l,s.size<=maxLen:=by
 rcases open_strs aY eG (by kernel_rfl) h with ⟨rfl,_⟩|⟨a,len,cap,m,Sx,rfl,hb,hl,hm,hmm,rfl,hx⟩
 ·exact⟨_,[],rfl,cZ.nil _ _ _,by simp⟩
 ·have hmc:m=cap:=by rw[hmm];simp
  by_cases hc0:cap=0
  ·obtain rfl:len=0:=by omega
   subst hc0
   exact⟨_,[],rfl,.inr ⟨rfl,rfl,a,rfl⟩,by simp⟩
  ·obtain⟨b,o,sp⟩:=a
   have h0:=(hx 0 (by omega)).1
   have hs:sp=none:=by
    have:=World.cell?_spot h0
    simpa [Addr.add] using this
   subst hs
   have hlt:=aD W _ h0
   refine⟨_,(List.range len).map Sx,rfl,.inl ?_,?_⟩
   ·refine⟨some ⟨b,o,none⟩,cap,by simp,by simpa using hl,hm,by simp,(fun e=>by cases e),(fun ad e=> ?_),fun j u hu=>⟨b,o,rfl,?_⟩⟩
    ·cases e
     refine⟨rfl,?_,fun e=>e⟩
     simpa [Addr.add] using hlt
    ·rw[di,di] at hu
     by_cases hj:j<len
     ·rw[yJ hj] at hu
      have:=(hx j (by omega)).1
      rw[gy] at this
      rw[this]
      simpa using hu
     ·rw[gT (by simpa using hj)] at hu
      simp at hu
   ·intro s hs
    obtain⟨i,hi,rfl⟩:=dL.1 hs
    exact(hx i (by have:=nP.1 hi;omega)).2
theorem vK {H:Type}{enc:TypeId×Value->H}{W:World}{fuel:Nat}{cs:List Value}{x:DataW H×List MemPlace}(h:DataW.trod enc Tryz.prog W 0 (fun _=>true) true fuel 24 cs=some x):
  ∃(l:bI) (pv:Value),cs=[.string l.token,pv,.bool l.deep,.bool l.excl,.string l.owner,.int .i64 l.till]/\gY W fH pv l.path/\l.Ik/\-9223372036854775808<=l.till/\l.till<9223372036854775808:=by
 obtain⟨xs,n,_,rfl,hl,hlen,hf⟩:=DataW.trod_struct ou h
 have h6:Tryz.prog.cellsOf 24=6:=by kernel_rfl
 have c9:Tryz.prog.cellsOf 9=1:=by kernel_rfl
 have c22:Tryz.prog.cellsOf 22=1:=by kernel_rfl
 have c4:Tryz.prog.cellsOf 4=1:=by kernel_rfl
 have c2:Tryz.prog.cellsOf 2=1:=by kernel_rfl
 rw[h6] at hl
 match xs,hlen,cs,hl with
 |[y0,y1,y2,y3,y4,y5],_,[v0,v1,v2,v3,v4,v5],_=>
  have g0:=hf 0 _ rfl
  have g1:=hf 1 _ rfl
  have g2:=hf 2 _ rfl
  have g3:=hf 3 _ rfl
  have g4:=hf 4 _ rfl
  have g5:=hf 5 _ rfl
  simp[c9,c22,c4,c2] at g0 g1 g2 g3 g4 g5
  obtain⟨s0,e0,_,k0⟩:=DataW.trod_string eG g0
  obtain⟨pv,l,e1,hp,k1⟩:=vJ g1
  obtain⟨b2,e2,_⟩:=DataW.trod_bool jV g2
  obtain⟨b3,e3,_⟩:=DataW.trod_bool jV g3
  obtain⟨s4,e4,_,k4⟩:=DataW.trod_string eG g4
  obtain⟨z5,e5,_,k5⟩:=DataW.trod_int Tryz.underlying2 g5
  simp at e0 e1 e2 e3 e4 e5
  subst e0 e1 e2 e3 e4 e5
  refine⟨⟨s0,l,b2,b3,s4,z5⟩,v1,rfl,hp,⟨?_,?_,fun s hs=> ?_⟩,?_⟩
  ·dsimp only;unfold maxLen at k0;omega
  ·dsimp only;unfold maxLen at k4;omega
  ·have:=k1 s hs;unfold maxLen at this;omega
  ·simp only[Lit.wf,dx,bY] at k5
   have h1:(IntKind.i64.min:Int)= -9223372036854775808:=rfl
   have h2:(IntKind.i64.max:Int)=9223372036854775807:=rfl
   dsimp only
   omega
theorem Ke {W:World}{l:List (String×DataW Unit)}(hl:l=[("unicode/utf8.acceptRanges",Rows.laid_unicode_utf8_acceptRanges),("unicode/utf8.first",Rows.laid_unicode_utf8_first)])(h:laidMetH Tryz.prog l W):vX W:=by
 subst hl
 rw[MakeChecks.laidMetH_plain _ _ _ (by kernel_rfl)] at h
 have e1:(Rows.laid_unicode_utf8_first:DataW Unit)=Lib.firstData:=by kernel_rfl
 have e2:(Rows.laid_unicode_utf8_acceptRanges:DataW Unit)=Lib.acceptData:=by kernel_rfl
 rw[e1,e2] at h
 exact utf8Tabs_of_readsT (U8Types.of196 Nb) ⟨by kernel_rfl,by kernel_rfl,by kernel_rfl,by kernel_rfl,by kernel_rfl,by kernel_rfl,by kernel_rfl⟩ (Lib.laidMet.reads h (.tail _ (.head _))) (Lib.laidMet.reads h (.head _))
noncomputable def vO (os:Os):World:=
 let w0:=World.holding Tryz.prog os ⟨#[],#[],[]⟩
 let put (h:Array Obj) (g:Nat) (cs:Array Value):Array Obj:=h.modify g fun
  | .cells _ t frozen=> .cells cs t frozen
  |o=>o
 let h1:=put w0.heap 0 (Lib.firstTab.map fun z=>Value.int .u8 z).toArray
 let h2:=put h1 1 ((List.range 16).flatMap fun i=>[Value.int .u8 (Lib.accLo i),Value.int .u8 (Lib.accHi i)]).toArray
 {w0 with heap:=h2}
theorem Gr (os:Os)(args:Array Value):laidMetH Tryz.prog [("unicode/utf8.acceptRanges",Rows.laid_unicode_utf8_acceptRanges),("unicode/utf8.first",Rows.laid_unicode_utf8_first)] ((vO os).forCall (fun _ _=>0) ⟨#[],args,[]⟩).memory:=by
 rw[MakeChecks.laidMetH_plain _ _ _ (by kernel_rfl)]
 have e1:(Rows.laid_unicode_utf8_first:DataW Unit)=Lib.firstData:=by kernel_rfl
 have e2:(Rows.laid_unicode_utf8_acceptRanges:DataW Unit)=Lib.acceptData:=by kernel_rfl
 rw[e1,e2]
 exact(LaidIn.of_run (l:=[("unicode/utf8.acceptRanges",Lib.acceptData),("unicode/utf8.first",Lib.firstData)]) [1,0] 8 (by kernel_rfl) (by kernel_rfl) (by kernel_rfl) (by kernel_rfl)).met
theorem oN:laidOutB Tryz.prog=true:=by kernel_rfl
theorem Dp:ownKnob Tryz.prog.godebug=none:=by kernel_rfl
end Go.Proofs.YtpgdljlghiifjaaGreatDoor
