/- parts -/
import Derived.Test.YtpmbddooibgnaaaGreatDoorS1
import Derived.Test.YtpmbddooibgnaaaGreatDoorS2
import Derived.Lib.Bytealg
import GoSem.Op.String
import Derived.Deep.QuietTactic
import Derived.BigQuiet
set_option maxRecDepth 100000
set_option maxHeartbeats 8000000
set_option linter.all false
namespace Go.Proofs.YtpmbddooibgnaaaGreatDoor
def lt (a b:ByteArray):Bool:=Op.bytesLess a.toList b.toList
theorem Bt:∀l:List UInt8,Op.bytesLess l l=false
 |[]=>rfl
 |a::l=>by simp[Op.bytesLess,Bt l]
theorem EY:∀a b c:List UInt8,Op.bytesLess a b=true->Op.bytesLess b c=true->Op.bytesLess a c=true
 |_,[],_=>by simp[Op.bytesLess]
 |_,_::_,[]=>by simp[Op.bytesLess]
 |[],_::_,_::_=>by simp[Op.bytesLess]
 |x::a,y::b,z::c=>by
  have ih:=EY a b c
  simp only[Op.bytesLess,uy,dI,dB,CU]
  rintro(h|⟨rfl,h⟩) (k|⟨rfl,k⟩)
  ·exact .inl (UInt8.lt_trans h k)
  ·exact .inl h
  ·exact .inl k
  ·exact .inr ⟨rfl,ih h k⟩
theorem EZ:∀a b:List UInt8,Op.bytesLess a b=false->Op.bytesLess b a=false->a=b
 |[],[]=>fun _ _=>rfl
 |[],_::_=>by simp[Op.bytesLess]
 |_::_,[]=>by simp[Op.bytesLess]
 |x::a,y::b=>by
  have ih:=EZ a b
  simp only[Op.bytesLess,Bool.or_eq_false_iff,Bool.and_eq_false_iff,decide_eq_false_iff_not,eO]
  rintro⟨h1,h2⟩ ⟨k1,k2⟩
  have e:x=y:=by
   apply uw.1
   rw[UInt8.lt_iff_toNat_lt] at h1 k1
   omega
  subst e
  rw[ih (by simpa using h2) (by simpa using k2)]
theorem toList_eq (a:ByteArray):a.toList=a.data.toList:=ByteArray.toList_eq a
theorem toList_inj {a b:ByteArray}(h:a.toList=b.toList):a=b:=by
 rw[toList_eq,toList_eq] at h
 cases a;cases b;congr;exact Nv h
theorem lt_irrefl (a:ByteArray):lt a a=false:=Bt _
theorem lt_trans {a b c:ByteArray}(h:lt a b=true)(k:lt b c=true):lt a c=true:=EY _ _ _ h k
theorem ve {a b:ByteArray}(h:lt a b=false)(k:lt b a=false):a=b:=toList_inj (EZ _ _ h k)
theorem lt_asymm {a b:ByteArray}(h:lt a b=true):lt b a=false:=by
 cases hb:lt b a with
 |false=>rfl
 |true=>have:=lt_trans h hb;rw[lt_irrefl] at this;cases this
theorem SE {a b:ByteArray}(h:lt a b=true):a≠b:=by rintro rfl;rw[lt_irrefl] at h;cases h
theorem PL {a b c:ByteArray}(h:lt b a=false)(k:lt b c=true):lt a c=true:=by
 cases hab:lt a b with
 |true=>exact lt_trans hab k
 |false=>rw[ve hab h];exact k
theorem PI {a b c:ByteArray}(h:lt a b=true)(k:lt c b=false):lt a c=true:=by
 cases hbc:lt b c with
 |true=>exact lt_trans h hbc
 |false=>rw[<-ve hbc k];exact h
theorem SK {a b c:ByteArray}(h:lt b a=false)(k:lt c b=false):lt c a=false:=by
 cases hca:lt c a with
 |false=>rfl
 |true=>have:=PI hca h;rw[k] at this;cases this
theorem xg:∀a b:List UInt8,(Lib.compareBytes a b<0↔Op.bytesLess a b=true)/\(Lib.compareBytes a b=0↔a=b)
 |[],[]=>by simp[Lib.compareBytes,Op.bytesLess]
 |[],_::_=>by simp[Lib.compareBytes,Op.bytesLess]
 |_::_,[]=>by simp[Lib.compareBytes,Op.bytesLess]
 |x::a,y::b=>by
  have ih:=xg a b
  unfold Lib.compareBytes Op.bytesLess
  by_cases h1:x<y
  ·have hne:x≠y:=by rintro rfl;exact absurd h1 (UInt8.lt_irrefl _)
   simp[h1,hne]
  ·rw[if_neg h1]
   by_cases h2:y<x
   ·rw[if_pos h2]
    have hne:x≠y:=by rintro rfl;exact UInt8.lt_irrefl _ h2
    simp[h1,hne]
   ·rw[if_neg h2]
    have e:x=y:=by
     apply uw.1
     rw[UInt8.lt_iff_toNat_lt] at h1 h2
     omega
    subst e
    simp[UInt8.lt_irrefl,ih]
def xh (a b:ByteArray):Int:=Lib.compareBytes a.data.toList b.data.toList
theorem ER (a b:ByteArray):xh a b<0↔lt a b=true:=by
 unfold xh lt;rw[toList_eq,toList_eq];exact(xg _ _).1
theorem J9 (a b:ByteArray):xh a b=0↔a=b:=by
 unfold xh;rw[(xg _ _).2]
 exact⟨fun h=>toList_inj (by rw[toList_eq,toList_eq];exact h),fun h=>by rw[h]⟩
theorem Rm (a b:ByteArray):(!Op.bytesLess a.toList b.toList && !(a.toList==b.toList))=lt b a:=by
 show (!lt a b && !(a.toList==b.toList))=lt b a
 cases h:lt b a with
 |true=>
  rw[lt_asymm h]
  have:(a.toList==b.toList)=false:=by rw[eO];intro e;exact SE h (toList_inj e.symm)
  rw[this];rfl
 |false=>
  cases h2:lt a b with
  |true=>rfl
  |false=>rw[ve h2 h];simp
def jg (keys:List ByteArray)(key:ByteArray):Nat:=(keys.takeWhile fun k=> !lt key k).length
def um (keys:List ByteArray):Prop:=keys.Pairwise fun a b=>lt a b=true
theorem zw (keys:List ByteArray)(key:ByteArray):jg keys key<=keys.length:=by
 unfold jg
 exact(List.takeWhile_sublist _).length_le
theorem xK (key:ByteArray):∀(keys:List ByteArray),um keys->
  (∀i (h:i<keys.length),i<jg keys key->lt key keys[i]=false)/\(∀i (h:i<keys.length),jg keys key<=i->lt key keys[i]=true)
 |[],_=>⟨fun i h=>absurd h (by simp),fun i h=>absurd h (by simp)⟩
 |k::keys,hr=>by
  have hr':=dR.1 hr
  have ih:=xK key keys hr'.2
  cases hk:lt key k with
  |true=>
   have e:jg (k::keys) key=0:=by simp[jg,hk]
   rw[e]
   refine⟨fun i _ h=>absurd h (by omega),fun i h _=> ?_⟩
   cases i with
   |zero=>exact hk
   |succ i=>exact lt_trans hk (hr'.1 _ (bI (by simpa using h)))
  |false=>
   have e:jg (k::keys) key=jg keys key+1:=by simp[jg,hk]
   rw[e]
   refine⟨fun i h hi=> ?_,fun i h hi=> ?_⟩
   ·cases i with
    |zero=>exact hk
    |succ i=>exact ih.1 i (by simpa using h) (by omega)
   ·cases i with
    |zero=>omega
    |succ i=>exact ih.2 i (by simpa using h) (by omega)
def cZ (ps:List (ByteArray×ByteArray))(key:ByteArray):Nat:=(ps.takeWhile fun p=>lt p.1 key).length
def gu (ps:List (ByteArray×ByteArray)):Prop:=ps.Pairwise fun a b=>lt a.1 b.1=true
theorem zb (ps:List (ByteArray×ByteArray))(key:ByteArray):cZ ps key<=ps.length:=by
 unfold cZ
 exact(List.takeWhile_sublist _).length_le
theorem o9 (key:ByteArray):∀(ps:List (ByteArray×ByteArray)),gu ps->
  (∀i (h:i<ps.length),i<cZ ps key->lt ps[i].1 key=true)/\(∀i (h:i<ps.length),cZ ps key<=i->lt ps[i].1 key=false)
 |[],_=>⟨fun i h=>absurd h (by simp),fun i h=>absurd h (by simp)⟩
 |k::ps,hr=>by
  have hr':=dR.1 hr
  have ih:=o9 key ps hr'.2
  cases hk:lt k.1 key with
  |false=>
   have e:cZ (k::ps) key=0:=by simp[cZ,hk]
   rw[e]
   refine⟨fun i _ h=>absurd h (by omega),fun i h _=> ?_⟩
   cases i with
   |zero=>exact hk
   |succ i=>
    cases h2:lt (k::ps)[i+1].1 key with
    |false=>rfl
    |true=>have:=lt_trans (hr'.1 _ (bI (by simpa using h))) h2;rw[hk] at this;cases this
  |true=>
   have e:cZ (k::ps) key=cZ ps key+1:=by simp[cZ,hk]
   rw[e]
   refine⟨fun i h hi=> ?_,fun i h hi=> ?_⟩
   ·cases i with
    |zero=>exact hk
    |succ i=>exact ih.1 i (by simpa using h) (by omega)
   ·cases i with
    |zero=>omega
    |succ i=>exact ih.2 i (by simpa using h) (by omega)
def oW (ps:List (ByteArray×ByteArray))(key:ByteArray):Bool:=match ps[cZ ps key]? with|some p=>decide (p.1=key)|none=>false
end Go.Proofs.YtpmbddooibgnaaaGreatDoor
namespace Go.Proofs.YtpmbddooibgnaaaGreatDoor
open Go.RowKit
theorem Ak (a b:ByteArray)(w:World):Calls Tryz.prog 451 #[.string a,.string b] w fun e w'=>e= .returned (.int .i64 (xh a b))/\w=w':=by
 have hc:∀w,(callFunc 523 #[.string a,.string b]).run Tryz.prog w= .ok (.value (.int .i64 (xh a b))) w:=fun w=>by
  rw[Pj Tryz.func523 (by kernel_rfl) (by kernel_rfl) (by kernel_rfl) (e:=Extern.BytealgCompare.compare) (by kernel_rfl),Lib.run_compareString]
  rfl
 go_enter Tryz.func451,Tryz.ntmps451
 go_wp2
 go_ret
 exact⟨rfl,rfl⟩
theorem EO (a b:ByteArray)(w:World):Calls Tryz.prog 339 #[.string a,.string b] w fun e w'=>e= .returned (.int .i64 (xh a b))/\w=w':=by
 go_enter Tryz.func339,Tryz.ntmps339
 go_wp2_with (go_at_call 451;refine(Ak _ _ _).mono ?_;rintro e w' ⟨rfl,rfl⟩)
 go_ret
 exact⟨rfl,rfl⟩
theorem wY (k v key:ByteArray)(w:World):Calls Tryz.prog 338 #[.agg #[.string k,.string v],.string key] w fun e w'=>e= .returned (.int .i64 (xh k key))/\Below w.heap.size w w':=by
 go_enter Tryz.func338,Tryz.ntmps338
 go_wp2_with (go_at_call 339;refine(EO _ _ _).mono ?_;rintro e w' ⟨rfl,rfl⟩)
 go_ret
 exact⟨rfl,aC _ _⟩
theorem Ga (n:Nat)(g:Nat)(cb:Array Value)(p:Nat->Bool)(w:World)(hn:n<=1000000)(hent:∀args w,(callFunc g args).run Tryz.prog w= .ok (.enter g args) w)
  (hf:∀W,Below w.heap.size w W->∀i,i<n->Calls Tryz.prog g (#[.int .i64 (i:Int)]++cb) W fun e w'=>e= .returned (.bool (p i))/\Below w.heap.size W w')
  (m:Nat) (hm:m<=n) (hlo:∀i,i<m->p i=false) (hhi:∀i,m<=i->i<n->p i=true):
  Calls Tryz.prog 340 #[.int .i64 n,.func (.func g) #[] cb] w fun e w'=>e= .returned (.int .i64 m)/\Below w.heap.size w w':=by
 go_enter Tryz.func340,Tryz.ntmps340
 go_wp2
 go_loopw [5,6] (fun a b wr=>∃i j:Nat,a= .int .i64 i/\b= .int .i64 j/\i<=m/\m<=j/\j<=n/\Below w.heap.size w wr) (fun a b _=>((intOf b) - (intOf a)).toNat)
 case atStart=>exact⟨0,n,rfl,rfl,aN _,hm,aA _,aH _ _⟩
 case round=>
  obtain⟨i,j,rfl,rfl,him,hmj,hjn,hbel⟩:=hrel
  by_cases hij:i<j
  ·obtain⟨d,hd⟩:∃d,d=(i+j)/2:=⟨_,rfl⟩
   have hdc:((i:Int)+(j:Int))/2=(d:Int):=by omega
   have hd1:i<=d:=by omega
   have hd2:d<j:=by omega
   have Hf:=af (hf wr hbel d (by omega))
   have hml:m<=d\/d<m:=jv d m|>.symm
   have Hlo:=af hlo
   have Hhi:=af hhi
   clear hf hlo hhi hd
   have Hdc:=af hdc;clear hdc
   by_cases hmd:m<=d
   ·have hp:=af (Hhi.out d hmd (by omega))
    go_wp2_with (first|(rw[Hdc.out];refine Hf.out.mono ?_;rw[hp.out];rintro e w1 ⟨rfl,hb1⟩))
    go_roundw
    case rel=>exact⟨i,d,rfl,rfl,by omega,hmd,by omega,hbel.trans hb1⟩
    case measure=>simp[intOf];omega
   ·have hp:=af (Hlo.out d (by omega))
    go_wp2_with (first|(rw[Hdc.out];refine Hf.out.mono ?_;rw[hp.out];rintro e w1 ⟨rfl,hb1⟩))
    go_roundw
    case rel=>exact⟨d+1,j,by go_num,rfl,by omega,by omega,by omega,hbel.trans hb1⟩
    case measure=>simp[intOf];omega
  ·obtain rfl:i=m:=by omega
   obtain rfl:j=i:=by omega
   clear hf hlo hhi
   go_wp2
   go_ret
   exact⟨rfl,hbel⟩
theorem Mf (pb kb b:Nat)(nd:Nd)(key:ByteArray)(w:World)(S:Nat->Prop)(h:kM w S b nd)(h1:w.cell? ⟨pb,0,none⟩=some (.pointer (some ⟨b,0,none⟩)))(h2:w.cell? ⟨kb,0,none⟩=some (.string key))(i:Nat)(hi:i<nd.keys.length):
  Calls Tryz.prog 341 #[.int .i64 i,.pointer (some ⟨pb,0,none⟩),.pointer (some ⟨kb,0,none⟩)] w fun e w'=>e= .returned (.bool (lt key nd.keys[i]))/\Below w.heap.size w w':=by
 obtain⟨_,v0,v1,v2,hb,_,hk,_⟩:=h
 obtain⟨c0,c1,c2,_,_,_,hlt⟩:=cells3 hb
 obtain⟨ao1,cp1,rfl,n1,m1,_,_⟩:=aW.form hk
 obtain⟨b',o',rfl,d1⟩:=hk.at rfl i hi
 have k1:(0:Int)<=(i:Int):=by omega
 have k2:(i:Int)<(nd.keys.length:Int):=by omega
 go_enter Tryz.func341,Tryz.ntmps341
 go_wp2
 go_quiet (fail)
 go_wp2
 go_ret
 exact⟨congrArg (fun x=>Ending.returned (Value.bool x)) (Rm _ _),below_drewN (aH _ _) _⟩
theorem El (args:Array Value)(w:World):(callFunc 341 args).run Tryz.prog w= .ok (.enter 341 args) w:=by
 kernel_rfl
theorem Iw (b:Nat)(nd:Nd)(key:ByteArray)(w:World)(S:Nat->Prop)(h:kM w S b nd)(hr:um nd.keys)(hn:nd.keys.length<=1000000):
  Calls Tryz.prog 221 #[.pointer (some ⟨b,0,none⟩),.string key] w fun e w'=>e= .returned (.int .i64 (jg nd.keys key))/\Below w.heap.size w w':=by
 have hN:=h
 obtain⟨hSb,v0,v1,v2,hb,h0,hk,h2⟩:=h
 obtain⟨c0,c1,c2,_,_,_,hlt⟩:=cells3 hb
 obtain⟨ao1,cp1,rfl,n1,m1,_,_⟩:=aW.form hk
 have hmf:∀(fn:Fn) (first cap:Array Value) (w:World),(Instr.makeFunc fn first cap).run Tryz.prog w= .ok (.func fn first cap) w:=fun _ _ _ _=>rfl
 obtain⟨f1,f2⟩:=xK key nd.keys hr
 have hS:=Ga nd.keys.length 341 #[.pointer (some ⟨w.heap.size,0,none⟩),.pointer (some ⟨w.heap.size+1,0,none⟩)] (fun i=>if h:i<nd.keys.length then lt key nd.keys[i] else true)
  ((w.alloc (.cells #[.pointer (some ⟨b,0,none⟩)] 268)).alloc (.cells #[.string key] 9)) hn El
  (fun W hW i hi=>by
   have hW0:Below w.heap.size w W:=(iU w _ _).trans (hW.mono (by simp;omega))
   have hNW:kM W S b nd:=hN.below hW0
   have q1:=(hW.cell (p:=⟨w.heap.size,0,none⟩) (by simp;omega)).trans (by rw[Ko _ _ _ (by simp),nI])
   have q2:=(hW.cell (p:=⟨w.heap.size+1,0,none⟩) (by simp)).trans (by rw[show w.heap.size+1=(w.alloc (.cells #[.pointer (some ⟨b,0,none⟩)] 268)).heap.size by simp,nI])
   refine(Mf w.heap.size (w.heap.size+1) b nd key W S hNW q1 q2 i hi).mono ?_
   rintro e w' ⟨rfl,hb⟩
   exact⟨by simp[hi],hb.mono hW.size⟩)
  (jg nd.keys key) (zw _ _) (fun i hi=>by have:=zw nd.keys key;simp only[dif_pos (show i<nd.keys.length by omega)];exact f1 i _ hi) (fun i hi hl=>by simp only[dif_pos hl];exact f2 i _ hi)
 have HS:=af hS
 clear hS f1 f2 hN
 go_enter Tryz.func221,Tryz.ntmps221
 go_wp2_with (go_at_call 340;refine HS.out.mono ?_;rintro e w1 ⟨rfl,hb1⟩)
 go_ret
 exact⟨rfl,(iU w _ _).trans (hb1.mono (by simp;omega))⟩
theorem EX (v:Value)(ps:List (ByteArray×ByteArray))(key:ByteArray)(w:World)(S:Nat->Prop)(h:rZ w S v ps)(hr:gu ps)(hn:ps.length<=1000000):
  Calls Tryz.prog 337 #[v,.string key,.func (.func 338) #[] #[]] w fun e w'=>e= .returned (.tuple #[.int .i64 (cZ ps key),.bool (oW ps key)])/\Below w.heap.size w w':=by
 have hP:=h
 obtain⟨ao,c,rfl,n1,m1,_,_⟩:=aW.form h
 obtain⟨f1,f2⟩:=o9 key ps hr
 have hpl:=zb ps key
 have F1:=af f1;clear f1
 have F2:=af f2;clear f2
 go_enter Tryz.func337,Tryz.ntmps337
 go_wp2
 go_loopw [9,10] (fun a b wr=>∃i j:Nat,a= .int .i64 i/\b= .int .i64 j/\i<=cZ ps key/\cZ ps key<=j/\j<=ps.length/\Below w.heap.size w wr) (fun a b _=>((intOf b) - (intOf a)).toNat)
 case atStart=>exact⟨0,ps.length,rfl,rfl,aN _,hpl,aA _,aH _ _⟩
 case round=>
  obtain⟨i,j,rfl,rfl,him,hmj,hjn,hbel⟩:=hrel
  by_cases hij:i<j
  ·obtain⟨d,hd⟩:∃d,d=(i+j)/2:=⟨_,rfl⟩
   have hdc:((i:Int)+(j:Int))/2=(d:Int):=by omega
   have hd1:i<=d:=by omega
   have hd2:d<j:=by omega
   have hd3:d<ps.length:=by omega
   obtain⟨b',o',rfl,hc1,hc2⟩:=hP.at rfl d hd3
   have d1:=(hbel.cell (p:=⟨b',o'+d*2,none⟩) (aD w _ hc1)).trans hc1
   have d2:=(hbel.cell (p:=⟨b',o'+d*2+1,none⟩) (aD w _ hc2)).trans hc2
   clear hd hc1 hc2
   have Hdc:=af hdc;clear hdc
   by_cases hmd:cZ ps key<=d
   ·have hp:=F2.out d hd3 hmd
    have hp':¬xh ps[d].1 key<0:=by rw[ER,hp];simp
    have hp2:decide (xh ps[d].1 key<0)=false:=by simpa using hp'
    go_wp2_with (first|(rw[Hdc.out])|(go_at_call 338;refine(wY _ _ _ _).mono ?_;rintro e w1 ⟨rfl,hb1⟩))
    go_roundw
    case rel=>exact⟨i,d,rfl,rfl,by omega,hmd,by omega,hbel.trans (hb1.mono hbel.size)⟩
    case measure=>simp[intOf];omega
   ·have hp:=F1.out d hd3 (by omega)
    have hp':xh ps[d].1 key<0:=by rw[ER,hp]
    have hp2:decide (xh ps[d].1 key<0)=true:=by simpa using hp'
    go_wp2_with (first|(rw[Hdc.out])|(go_at_call 338;refine(wY _ _ _ _).mono ?_;rintro e w1 ⟨rfl,hb1⟩))
    go_roundw
    case rel=>exact⟨d+1,j,by go_num,rfl,by omega,by omega,by omega,hbel.trans (hb1.mono hbel.size)⟩
    case measure=>simp[intOf];omega
  ·obtain rfl:i=cZ ps key:=by omega
   obtain rfl:j=cZ ps key:=by omega
   by_cases hin:cZ ps key<ps.length
   ·obtain⟨b',o',rfl,hc1,hc2⟩:=hP.at rfl _ hin
    have d1:=(hbel.cell (p:=⟨b',o'+cZ ps key*2,none⟩) (aD w _ hc1)).trans hc1
    have d2:=(hbel.cell (p:=⟨b',o'+cZ ps key*2+1,none⟩) (aD w _ hc2)).trans hc2
    have hat:oW ps key=(xh ps[cZ ps key].1 key==0):=by
     unfold oW
     rw[bD hin]
     rw[Bool.eq_iff_iff];simp[J9]
    have Hat:=af hat;clear hat hc1 hc2
    go_wp2_with (first|(go_at_call 338;refine(wY _ _ _ _).mono ?_;rintro e w1 ⟨rfl,hb1⟩))
    go_ret2
    exact⟨by rw[Hat.out];rfl,hbel.trans (hb1.mono hbel.size)⟩
   ·have hat:oW ps key=false:=by
     unfold oW
     rw[List.getElem?_eq_none (by omega)]
    have Hat:=af hat;clear hat
    go_wp2
    go_ret2
    exact⟨by rw[Hat.out];rfl,hbel⟩
theorem rz (b:Nat)(nd:Nd)(key:ByteArray)(w:World)(S:Nat->Prop)(h:kM w S b nd)(hr:gu nd.pairs)(hn:nd.pairs.length<=1000000):
  Calls Tryz.prog 220 #[.pointer (some ⟨b,0,none⟩),.string key] w fun e w'=>e= .returned (.tuple #[.int .i64 (cZ nd.pairs key),.bool (oW nd.pairs key)])/\Below w.heap.size w w':=by
 obtain⟨hSb,v0,v1,v2,hb,h0,hk,h2⟩:=h
 obtain⟨c0,c1,c2,_,_,_,hlt⟩:=cells3 hb
 go_enter Tryz.func220,Tryz.ntmps220
 go_wp2_with (go_at_call 337;refine(EX _ nd.pairs _ _ S h0 hr hn).mono ?_;rintro e w1 ⟨rfl,hb1⟩)
 go_ret2
 exact⟨rfl,hb1⟩
theorem uX (w:World):Calls Tryz.prog 562 #[.int .i64 0] w fun e w'=>e= .returned (.tuple #[])/\w=w':=by
 go_enter Tryz.func562,Tryz.ntmps562
 go_wp2
 go_end0
 exact⟨rfl,rfl⟩
def brk (e:Int):List PanicEntry:=[{v:= .iface 656 (.agg #[.int .i64 e]),recovered:=false}]
theorem LG (e:Int)(he:(e==0)=false)(w:World):Calls Tryz.prog 562 #[.int .i64 e] w fun e' w'=>e'= .panicked (brk e)/\w=w':=by
 have he2:(e !=0)=true:=by simp only[bne,he];rfl
 go_enter Tryz.func562,Tryz.ntmps562
 go_wp2
 exact⟨rfl,rfl,rfl⟩
def leastOf (nd:Nd)(told:ByteArray):ByteArray:=match nd.kids with|[]=>(nd.pairs.headD (⟨#[]⟩,⟨#[]⟩)).1|_=>told
theorem Bb (b:Nat)(nd:Nd)(told:ByteArray)(w:World)(S:Nat->Prop)(h:kM w S b nd)(hne:nd.kids=[]->nd.pairs≠[]):
  Calls Tryz.prog 574 #[.pointer (some ⟨b,0,none⟩),.string told] w fun e w'=>e= .returned (.string (leastOf nd told))/\w=w':=by
 have hN:=h
 obtain⟨hSb,v0,v1,v2,hb,h0,hk,h2⟩:=h
 obtain⟨c0,c1,c2,_,_,_,hlt⟩:=cells3 hb
 cases hk:nd.kids with
 |nil=>
  have hp:=hne hk
  have hl:0<nd.pairs.length:=gH.2 hp
  obtain⟨ao0,cp0,rfl,n0,m0,_,_⟩:=aW.form h0
  obtain⟨b',o',rfl,d1,d2⟩:=h0.at rfl 0 hl
  have hle:leastOf nd told=nd.pairs[0].1:=by
   unfold leastOf;rw[hk]
   show (nd.pairs.headD _).1=_
   have:∀(l:List Pr) (h:0<l.length),l.headD (⟨#[]⟩,⟨#[]⟩)=l[0]:=fun l h=>by
    cases l with
    |nil=>simp at h
    |cons=>rfl
   rw[this]
  have hleaf:nd.kids.isEmpty=true:=by rw[hk];rfl
  have Hle:=af hle
  have Hk:=af hk
  have d1':w.cell? ⟨b',o',none⟩=some (.string nd.pairs[0].1):=by simpa using d1
  have hl':(0:Int)<(nd.pairs.length:Int):=by omega
  clear hle hk hne d1 d2
  go_enter Tryz.func574,Tryz.ntmps574
  go_wp2_with (go_at_call 219;refine(kW b nd _ S hN).mono ?_;rw[hleaf];rintro e w1 ⟨rfl,rfl⟩)
  go_ret
  exact⟨by rw[Hle.out];rfl,rfl⟩
 |cons k ks=>
  have hle:leastOf nd told=told:=by unfold leastOf;rw[hk]
  have hleaf:nd.kids.isEmpty=false:=by rw[hk];rfl
  have Hle:=af hle
  have Hk:=af hk
  clear hle hk hne
  go_enter Tryz.func574,Tryz.ntmps574
  go_wp2_with (go_at_call 219;refine(kW b nd _ S hN).mono ?_;rw[hleaf];rintro e w1 ⟨rfl,rfl⟩)
  go_ret
  exact⟨by rw[Hle.out];rfl,rfl⟩
def IsCut (w:World)(S:Nat->Prop)(B b:Nat)(l:List UInt8):Prop:=¬S b/\B<=b/\∃v,w.heap[b]? =some (.cells #[v,.bool false] 485 (0,0))/\gT w S v l/\∀g,v.ownBlock=some g->g<B
theorem IsCut.keep {w w':World}{S:Nat->Prop}{B b:Nat}{l:List UInt8}(h:IsCut w S B b l)(hb:w'.heap[b]? =w.heap[b]?)(hlo:∀g,g<B->w'.heap[g]? =w.heap[g]?):IsCut w' S B b l:=by
 obtain⟨h1,h2,v,h3,h4,h5⟩:=h
 exact⟨h1,h2,v,hb.trans h3,aW.keep h4 fun g hg _ hs=>⟨hlo g (h5 g hg),hs⟩,h5⟩
theorem MP {w:World}{b t:Nat}{v0 v1:Value}(h:w.heap[b]? =some (.cells #[v0,v1] t (0,0))):
  w.cell? ⟨b,0,none⟩=some v0/\w.cell? ⟨b,1,none⟩=some v1/\w.frozen? ⟨b,0,none⟩=false/\w.frozen? ⟨b,1,none⟩=false/\b<w.heap.size:=by
 refine⟨?_,?_,?_,?_,(ah.1 h).1⟩<;>simp[World.cell?,World.frozen?,h]
theorem gT.str {P:Program}{w:World}{S:Nat->Prop}{v:Value}(s:ByteArray)(h:gT w S v s.data.toList)(src dst e:TypeId)(hs:P.underlying src=some (.slice e))(he:P.underlying e=some (.int .u8))(hd:P.underlying dst=some .string):
  (convert src dst v).run P w= .ok (.string s) w:=by
 have hh:=h
 obtain⟨ao,c,rfl,_,_,h3,h4,h5,h6⟩:=h
 cases ao with
 |none=>
  have h0:=(h4 rfl).1
  rw[run_convert_bytes_nil w src e hs he _ _ dst hd]
  have:s=ByteArray.empty:=by
   cases s with
   |mk d=>
    have:d=#[]:=Array.eq_empty_of_size_eq_zero (by simpa using h0)
    rw[this];rfl
  rw[this]
 |some ad=>
  obtain⟨b,o,sp⟩:=ad
  obtain rfl:sp=none:=(h5 _ rfl).1
  have:=run_convert_bytes_back (P:=P) w src dst e ⟨b,o,none⟩ c s.data.toList hs he hd (fun j hj=>by
   obtain⟨b',o',e',hc⟩:=hh.at rfl j hj
   cases e'
   rw[ig];exact hc)
  rw[this]
theorem OQ (B b:Nat)(l:List UInt8)(n:Nat)(w:World)(S:Nat->Prop)(h:IsCut w S B b l)(hn:n<=l.length):
  Calls Tryz.prog 336 #[.pointer (some ⟨b,0,none⟩),.int .i64 n] w fun e w'=>∃v,e= .returned v/\gT w' S v (l.take n)/\IsCut w' S B b (l.drop n)/\Keep (· =b) w w'/\(∀g,v.ownBlock=some g->g<B)/\w'.heap.size=w.heap.size:=by
 obtain⟨hS,hBb,v,hb,hl0,hvb⟩:=h
 obtain⟨c0,c1,f0,f1,hlt⟩:=MP hb
 have hB:=hl0
 obtain⟨ao,c,rfl,g1,g2,g3,g4⟩:=aW.form hl0
 have k0:(0:Int)<=(n:Int):=by omega
 have k1:(n:Int)<=(c:Int):=by omega
 have k2:(n:Int)<=(l.length:Int):=by omega
 have t1:=aW.upto hB n hn
 have t2:=aW.after hB n hn
 have hk:∀v,Keep (· =b) w (w.setCell ⟨b,0,none⟩ v):=fun v=>Keep.setCell (M:=(· =b)) (p:=⟨b,0,none⟩) (Keep.refl _ w) (.inr rfl) v
 have hblk:∀v,(w.setCell ⟨b,0,none⟩ v).heap[b]? =some (.cells #[v,.bool false] 485 (0,0)):=fun v=>by
  simp[World.setCell,aJ,hb]
 have kp:∀(v':Value) (v:Value) (m:Nat) (xs:List Value),aW w S 1 v m xs->v.ownBlock≠some b->aW (w.setCell ⟨b,0,none⟩ v') S 1 v m xs:=fun v' v m xs h hne=>
  h.keep fun g hg hl hs=>⟨(hk v').block g hl (fun e=>hne (by rw[hg,e])),hs⟩
 have b1:∀g,(Value.slice ao n c).ownBlock=some g->g<B:=by cases ao<;>exact hvb
 have b2:∀g,(Value.slice (if c=n then ao else ao.map fun x=>x.add (n*1)) (l.length - n) (c - n)).ownBlock=some g->g<B:=by
  cases ao with
  |none=>split<;>simp[Value.ownBlock]
  |some ad=>
   have hb1:ad.block<B:=hvb _ rfl
   split
   ·exact fun g e=>by injection e with e;omega
   ·intro g e
    simp only[Value.ownBlock,kN,P5] at e
    unfold Addr.add at e;split at e<;>(first|omega|(simp only at e;omega))
 have e1:(aB l).take (n*1)=aB (l.take n):=by simp[aB,jR]
 have e2:(aB l).drop (n*1)=aB (l.drop n):=by simp[aB,mP]
 rw[e1] at t1
 rw[e2] at t2
 have u1:∀v',gT (w.setCell ⟨b,0,none⟩ v') S (.slice ao n c) (l.take n):=fun v'=>by
  unfold gT;rw[aL,dh hn];exact kp v' _ _ _ t1 (fun e=>absurd (b1 _ e) (aV.2 hBb))
 have u2:∀v',gT (w.setCell ⟨b,0,none⟩ v') S (.slice (if c=n then ao else ao.map fun x=>x.add (n*1)) (l.length - n) (c - n)) (l.drop n):=fun v'=>by
  unfold gT;rw[bB];exact kp v' _ _ _ t2 (fun e=>absurd (b2 _ e) (aV.2 hBb))
 have U1:=af u1
 have U2:=af u2
 have Hk:=af hk
 have Hb:=af hblk
 have B1:=af b1
 have B2:=af b2
 clear u1 u2 hk hblk b1 b2 kp t1 t2 e1 e2 hB hl0 hvb
 by_cases hcn:c=n
 ·subst hcn
  go_enter Tryz.func336,Tryz.ntmps336
  go_wp2
  go_ret
  have q2:=U2.out (.slice ao (l.length - c) (c - c))
  have q3:=B2.out
  simp only[lH,show l.length - c=0 by omega,jN] at q2 q3
  exact⟨_,rfl,U1.out _,⟨hS,hBb,_,Hb.out _,q2,q3⟩,Hk.out _,B1.out,by simp⟩
 ·go_enter Tryz.func336,Tryz.ntmps336
  go_wp2
  go_ret
  have q2:=U2.out (.slice (ao.map fun x=>x.add n) (l.length - n) (c - n))
  have q3:=B2.out
  rw[if_neg hcn,iA] at q2 q3
  exact⟨_,rfl,U1.out _,⟨hS,hBb,_,Hb.out _,q2,q3⟩,Hk.out _,B1.out,by simp⟩
theorem qy (B b:Nat)(l:List UInt8)(n:Nat)(m:Int)(hm:m=(n:Int))(w:World)(S:Nat->Prop)(h:IsCut w S B b l)(hn:n<=l.length):
  Calls Tryz.prog 336 #[.pointer (some ⟨b,0,none⟩),.int .i64 m] w fun e w'=>∃v,e= .returned v/\gT w' S v (l.take n)/\IsCut w' S B b (l.drop n)/\Keep (· =b) w w'/\(∀g,v.ownBlock=some g->g<B)/\w'.heap.size=w.heap.size:=by
 subst hm;exact OQ B b l n w S h hn
end Go.Proofs.YtpmbddooibgnaaaGreatDoor
