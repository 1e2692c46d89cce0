/- parts -/
import Derived.Test.YtbfjgkafmlbpcaaGreatDoorT1
import Derived.Test.YtbfjgkafmlbpcaaGreatDoorT2
import Derived.Test.YtbfjgkafmlbpcaaGreatDoorT4
import Derived.Test.YtbfjgkafmlbpcaaGreatDoorT5
import Derived.Lib.Bytealg
import GoSem.Op.String
import Derived.Deep.QuietTactic
import Derived.BigQuiet
set_option maxRecDepth 100000
set_option maxHeartbeats 8000000
set_option linter.all false
namespace Go.Proofs.YtbfjgkafmlbpcaaGreatDoor
open Go.RowKit
structure Lg where
 frm:Nat
 n:Nat
 start:Nat
 used:Nat
 list:List (Nat×Nat)
 last:Nat
 synced:Nat
 dead:Bool
def leB (x:Nat):Nat->List UInt8
 |0=>[]
 |k+1=>b8 x::leB (x/256) k
theorem eX (x:Nat):∀k,(leB x k).length=k
 |0=>rfl
 |k+1=>by rw[leB,aY,eX]
def magic:List UInt8:=[100,111,99,107,101,116,32,108,111,103,32,49]
def Lg.first (l:Lg):Nat:=match l.list with|[]=>l.last+1|e::_=>e.1
def Lg.pK (l:Lg):List UInt8:=magic++leB l.frm 8++leB l.n 8++leB l.start 8++leB l.first 8++leB l.synced 8
def EN (l:List UInt8):Nat:=(vS l).toNat
theorem Bj (l:List UInt8):vS l=(EN l:Int):=by have:=xJ l;unfold EN;omega
theorem Je (l:List UInt8):EN l<4294967296:=by have:=xJ l;unfold EN;omega
def Lg.fQ (l:Lg):List UInt8:=l.pK++leB (EN l.pK) 4
theorem Lg.xC (l:Lg):l.pK.length=52:=by unfold Lg.pK;simp[eX,magic]
theorem Lg.xg (l:Lg):l.fQ.length=56:=by unfold Lg.fQ;rw[av,l.xC,eX]
def Lg.dies (l:Lg):Lg:={l with dead:=true}
def Lg.mark (d:Dk)(l:Lg):Dk×Lg×Int:=
 if (d.write l.frm l.fQ).2=0 then
  if (d.write l.frm l.fQ).1.sync.2=0 then((d.write l.frm l.fQ).1.sync.1,l,0) else((d.write l.frm l.fQ).1.sync.1,l.dies,10)
 else((d.write l.frm l.fQ).1,l.dies,10)
def Lg.room (l:Lg):Nat:=l.n - 1 - l.used
def Lg.ring (l:Lg)(at_:Nat):Nat:=l.frm+1+at_%(l.n - 1)
def dz (bW:List (List UInt8)):Nat:=(16+(bW.map fun r=>4+r.length).sum+511)/512
def oz (bW:List (List UInt8)):List UInt8:=bW.flatMap fun r=>leB r.length 4++r
def oI (k:Nat)(bW:List (List UInt8)):List UInt8:=leB (16+(oz bW).length) 4++leB k 8++leB (EN (oz bW)) 4++oz bW
theorem xM (bW:List (List UInt8)):(oz bW).length=(bW.map fun r=>4+r.length).sum:=by
 unfold oz
 rw[List.length_flatMap]
 simp[eX]
theorem Ci (k:Nat)(bW:List (List UInt8)):(oI k bW).length=16+(bW.map fun r=>4+r.length).sum:=by
 simp only[oI,av,eX,xM]
def Lg.pF (l:Lg)(b:List UInt8):Nat->Nat->Dk->Dk×Int
 |0,_,d=>(d,0)
 |k+1,i,d=>
  if (d.write (l.ring (l.start+l.used+i)) ((b.drop (i*512)).take 512)).2=0 then l.pF b k (i+1) (d.write (l.ring (l.start+l.used+i)) ((b.drop (i*512)).take 512)).1
  else((d.write (l.ring (l.start+l.used+i)) ((b.drop (i*512)).take 512)).1,10)
def Lg.bad (l:Lg)(bW:List (List UInt8)):Int:=
 if l.dead then 10 else if bW.length=0\/1024<bW.length then 1 else if bW.any (fun r=>decide (600<r.length)) then 1 else if l.room<dz bW then 12 else 0
def Lg.more (l:Lg)(bW:List (List UInt8)):Lg:={l with last:=l.last+1,used:=l.used+dz bW,list:=l.list++[(l.last+1,dz bW)]}
def Lg.append (d:Dk)(l:Lg)(bW:List (List UInt8)):Dk×Lg×Nat×Int:=
 if l.bad bW≠0 then(d,l,0,l.bad bW) else
 if (l.pF (oI (l.last+1) bW) (dz bW) 0 d).2=0 then((l.pF (oI (l.last+1) bW) (dz bW) 0 d).1,l.more bW,l.last+1,0)
 else((l.pF (oI (l.last+1) bW) (dz bW) 0 d).1,l.dies,0,10)
def Lg.all (l:Lg):Lg:={l with synced:=l.last}
def Lg.sync (d:Dk)(l:Lg):Dk×Lg×Int:=
 if l.dead then(d,l,10) else
 if d.sync.2=0 then
  if (l.all.mark d.sync.1).2.2=0 then l.all.mark d.sync.1 else((l.all.mark d.sync.1).1,l.dies,10)
 else(d.sync.1,l.dies,10)
def Lg.qa (upto:Nat):List (Nat×Nat)->Nat->Nat->Nat->List (Nat×Nat)×Nat×Nat
 |[],_,s,u=>([],s,u)
 |e::r,m,s,u=>if e.1<=upto then Lg.qa upto r m ((s+e.2)%m) (u - e.2) else(e::r,s,u)
def Lg.cut (l:Lg)(upto:Nat):Lg:={l with list:=(Lg.qa upto l.list (l.n - 1) l.start l.used).1,start:=(Lg.qa upto l.list (l.n - 1) l.start l.used).2.1,used:=(Lg.qa upto l.list (l.n - 1) l.start l.used).2.2}
def Lg.trim (d:Dk)(l:Lg)(upto:Nat):Dk×Lg×Int:=
 if l.dead then(d,l,10) else if l.synced<upto then(d,l,1) else
 if ((l.cut upto).mark d).2.2=0 then(l.cut upto).mark d else(((l.cut upto).mark d).1,l.dies,10)
end Go.Proofs.YtbfjgkafmlbpcaaGreatDoor
namespace Go.Proofs.YtbfjgkafmlbpcaaGreatDoor
def lt (a b:ByteArray):Bool:=Op.bytesLess a.toList b.toList
theorem Dh:∀l:List UInt8,Op.bytesLess l l=false
 |[]=>rfl
 |a::l=>by simp[Op.bytesLess,Dh l]
theorem Gn:∀a b c:List UInt8,Op.bytesLess a b=true->Op.bytesLess b c=true->Op.bytesLess a c=true
 |_,[],_=>by simp[Op.bytesLess]
 |_,_::_,[]=>by simp[Op.bytesLess]
 |[],_::_,_::_=>by simp[Op.bytesLess]
 |x::a,y::b,z::c=>by
  have ih:=Gn a b c
  simp only[Op.bytesLess,qH,dU,eD,uR]
  rintro(h|⟨rfl,h⟩) (k|⟨rfl,k⟩)
  ·exact .inl (UInt8.lt_trans h k)
  ·exact .inl h
  ·exact .inl k
  ·exact .inr ⟨rfl,ih h k⟩
theorem Gp:∀a b:List UInt8,Op.bytesLess a b=false->Op.bytesLess b a=false->a=b
 |[],[]=>fun _ _=>rfl
 |[],_::_=>by simp[Op.bytesLess]
 |_::_,[]=>by simp[Op.bytesLess]
 |x::a,y::b=>by
  have ih:=Gp a b
  simp only[Op.bytesLess,Bool.or_eq_false_iff,Bool.and_eq_false_iff,decide_eq_false_iff_not,dZ]
  rintro⟨h1,h2⟩ ⟨k1,k2⟩
  have e:x=y:=by
   apply Gw.1
   rw[UInt8.lt_iff_toNat_lt] at h1 k1
   omega
  subst e
  rw[ih (by simpa using h2) (by simpa using k2)]
theorem toList_eq (a:ByteArray):a.toList=a.data.toList:=ByteArray.toList_eq a
theorem toList_inj {a b:ByteArray}(h:a.toList=b.toList):a=b:=by
 rw[toList_eq,toList_eq] at h
 cases a;cases b;congr;exact Ow h
theorem lt_irrefl (a:ByteArray):lt a a=false:=Dh _
theorem lt_trans {a b c:ByteArray}(h:lt a b=true)(k:lt b c=true):lt a c=true:=Gn _ _ _ h k
theorem xh {a b:ByteArray}(h:lt a b=false)(k:lt b a=false):a=b:=toList_inj (Gp _ _ h k)
theorem lt_asymm {a b:ByteArray}(h:lt a b=true):lt b a=false:=by
 cases hb:lt b a with
 |false=>rfl
 |true=>have:=lt_trans h hb;rw[lt_irrefl] at this;cases this
theorem PZ {a b:ByteArray}(h:lt a b=true):a≠b:=by rintro rfl;rw[lt_irrefl] at h;cases h
theorem P5 {a b c:ByteArray}(h:lt b a=false)(k:lt b c=true):lt a c=true:=by
 cases hab:lt a b with
 |true=>exact lt_trans hab k
 |false=>rw[xh hab h];exact k
theorem AU {a b c:ByteArray}(h:lt a b=true)(k:lt c b=false):lt a c=true:=by
 cases hbc:lt b c with
 |true=>exact lt_trans h hbc
 |false=>rw[<-xh hbc k];exact h
theorem P6 {a b c:ByteArray}(h:lt b a=false)(k:lt c b=false):lt c a=false:=by
 cases hca:lt c a with
 |false=>rfl
 |true=>have:=AU hca h;rw[k] at this;cases this
theorem yI:∀a b:List UInt8,(Lib.compareBytes a b<0↔Op.bytesLess a b=true)/\(Lib.compareBytes a b=0↔a=b)
 |[],[]=>by simp[Lib.compareBytes,Op.bytesLess]
 |[],_::_=>by simp[Lib.compareBytes,Op.bytesLess]
 |_::_,[]=>by simp[Lib.compareBytes,Op.bytesLess]
 |x::a,y::b=>by
  have ih:=yI a b
  unfold Lib.compareBytes Op.bytesLess
  by_cases h1:x<y
  ·have hne:x≠y:=by rintro rfl;exact absurd h1 (UInt8.lt_irrefl _)
   simp[h1,hne]
  ·rw[if_neg h1]
   by_cases h2:y<x
   ·rw[if_pos h2]
    have hne:x≠y:=by rintro rfl;exact UInt8.lt_irrefl _ h2
    simp[h1,hne]
   ·rw[if_neg h2]
    have e:x=y:=by
     apply Gw.1
     rw[UInt8.lt_iff_toNat_lt] at h1 h2
     omega
    subst e
    simp[UInt8.lt_irrefl,ih]
def yJ (a b:ByteArray):Int:=Lib.compareBytes a.data.toList b.data.toList
theorem Gg (a b:ByteArray):yJ a b<0↔lt a b=true:=by
 unfold yJ lt;rw[toList_eq,toList_eq];exact(yI _ _).1
theorem KY (a b:ByteArray):yJ a b=0↔a=b:=by
 unfold yJ;rw[(yI _ _).2]
 exact⟨fun h=>toList_inj (by rw[toList_eq,toList_eq];exact h),fun h=>by rw[h]⟩
theorem Rh (a b:ByteArray):(!Op.bytesLess a.toList b.toList && !(a.toList==b.toList))=lt b a:=by
 show (!lt a b && !(a.toList==b.toList))=lt b a
 cases h:lt b a with
 |true=>
  rw[lt_asymm h]
  have:(a.toList==b.toList)=false:=by rw[dZ];intro e;exact PZ h (toList_inj e.symm)
  rw[this];rfl
 |false=>
  cases h2:lt a b with
  |true=>rfl
  |false=>rw[xh h2 h];simp
def gT (keys:List ByteArray)(key:ByteArray):Nat:=(keys.takeWhile fun k=> !lt key k).length
def ug (keys:List ByteArray):Prop:=keys.Pairwise fun a b=>lt a b=true
theorem AY (keys:List ByteArray)(key:ByteArray):gT keys key<=keys.length:=by
 unfold gT
 exact(List.takeWhile_sublist _).length_le
theorem yZ (key:ByteArray):∀(keys:List ByteArray),ug keys->
  (∀i (h:i<keys.length),i<gT keys key->lt key keys[i]=false)/\(∀i (h:i<keys.length),gT keys key<=i->lt key keys[i]=true)
 |[],_=>⟨fun i h=>absurd h (by simp),fun i h=>absurd h (by simp)⟩
 |k::keys,hr=>by
  have hr':=eT.1 hr
  have ih:=yZ key keys hr'.2
  cases hk:lt key k with
  |true=>
   have e:gT (k::keys) key=0:=by simp[gT,hk]
   rw[e]
   refine⟨fun i _ h=>absurd h (by omega),fun i h _=> ?_⟩
   cases i with
   |zero=>exact hk
   |succ i=>exact lt_trans hk (hr'.1 _ (bG (by simpa using h)))
  |false=>
   have e:gT (k::keys) key=gT keys key+1:=by simp[gT,hk]
   rw[e]
   refine⟨fun i h hi=> ?_,fun i h hi=> ?_⟩
   ·cases i with
    |zero=>exact hk
    |succ i=>exact ih.1 i (by simpa using h) (by omega)
   ·cases i with
    |zero=>omega
    |succ i=>exact ih.2 i (by simpa using h) (by omega)
def dw (ps:List (ByteArray×ByteArray))(key:ByteArray):Nat:=(ps.takeWhile fun p=>lt p.1 key).length
def iG (ps:List (ByteArray×ByteArray)):Prop:=ps.Pairwise fun a b=>lt a.1 b.1=true
theorem qK (ps:List (ByteArray×ByteArray))(key:ByteArray):dw ps key<=ps.length:=by
 unfold dw
 exact(List.takeWhile_sublist _).length_le
theorem ql (key:ByteArray):∀(ps:List (ByteArray×ByteArray)),iG ps->
  (∀i (h:i<ps.length),i<dw ps key->lt ps[i].1 key=true)/\(∀i (h:i<ps.length),dw ps key<=i->lt ps[i].1 key=false)
 |[],_=>⟨fun i h=>absurd h (by simp),fun i h=>absurd h (by simp)⟩
 |k::ps,hr=>by
  have hr':=eT.1 hr
  have ih:=ql key ps hr'.2
  cases hk:lt k.1 key with
  |false=>
   have e:dw (k::ps) key=0:=by simp[dw,hk]
   rw[e]
   refine⟨fun i _ h=>absurd h (by omega),fun i h _=> ?_⟩
   cases i with
   |zero=>exact hk
   |succ i=>
    cases h2:lt (k::ps)[i+1].1 key with
    |false=>rfl
    |true=>have:=lt_trans (hr'.1 _ (bG (by simpa using h))) h2;rw[hk] at this;cases this
  |true=>
   have e:dw (k::ps) key=dw ps key+1:=by simp[dw,hk]
   rw[e]
   refine⟨fun i h hi=> ?_,fun i h hi=> ?_⟩
   ·cases i with
    |zero=>exact hk
    |succ i=>exact ih.1 i (by simpa using h) (by omega)
   ·cases i with
    |zero=>omega
    |succ i=>exact ih.2 i (by simpa using h) (by omega)
def ou (ps:List (ByteArray×ByteArray))(key:ByteArray):Bool:=match ps[dw ps key]? with|some p=>decide (p.1=key)|none=>false
end Go.Proofs.YtbfjgkafmlbpcaaGreatDoor
namespace Go.Proofs.YtbfjgkafmlbpcaaGreatDoor
open Go.RowKit
theorem Ce (a b:ByteArray)(w:World):Calls Tryz.prog 248 #[.string a,.string b] w fun e w'=>e= .returned (.int .i64 (yJ a b))/\w=w':=by
 have hc:∀w,(callFunc 289 #[.string a,.string b]).run Tryz.prog w= .ok (.value (.int .i64 (yJ a b))) w:=fun w=>by
  rw[qF Tryz.func289 (by kernel_rfl) (by kernel_rfl) (by kernel_rfl) (e:=Extern.BytealgCompare.compare) (by kernel_rfl),Lib.run_compareString]
  rfl
 go_enter Tryz.func248,Tryz.ntmps248
 go_wp2
 go_ret
 exact⟨rfl,rfl⟩
theorem Gc (a b:ByteArray)(w:World):Calls Tryz.prog 200 #[.string a,.string b] w fun e w'=>e= .returned (.int .i64 (yJ a b))/\w=w':=by
 go_enter Tryz.func200,Tryz.ntmps200
 go_wp2_with (go_at_call 248;refine(Ce _ _ _).mono ?_;rintro e w' ⟨rfl,rfl⟩)
 go_ret
 exact⟨rfl,rfl⟩
theorem yF (k v key:ByteArray)(w:World):Calls Tryz.prog 199 #[.agg #[.string k,.string v],.string key] w fun e w'=>e= .returned (.int .i64 (yJ k key))/\Below w.heap.size w w':=by
 go_enter Tryz.func199,Tryz.ntmps199
 go_wp2_with (go_at_call 200;refine(Gc _ _ _).mono ?_;rintro e w' ⟨rfl,rfl⟩)
 go_ret
 exact⟨rfl,aF _ _⟩
theorem Hq (n:Nat)(g:Nat)(cb:Array Value)(p:Nat->Bool)(w:World)(hn:n<=1000000)(hent:∀args w,(callFunc g args).run Tryz.prog w= .ok (.enter g args) w)
  (hf:∀W,Below w.heap.size w W->∀i,i<n->Calls Tryz.prog g (#[.int .i64 (i:Int)]++cb) W fun e w'=>e= .returned (.bool (p i))/\Below w.heap.size W w')
  (m:Nat) (hm:m<=n) (hlo:∀i,i<m->p i=false) (hhi:∀i,m<=i->i<n->p i=true):
  Calls Tryz.prog 201 #[.int .i64 n,.func (.func g) #[] cb] w fun e w'=>e= .returned (.int .i64 m)/\Below w.heap.size w w':=by
 go_enter Tryz.func201,Tryz.ntmps201
 go_wp2
 go_loopw [5,6] (fun a b wr=>∃i j:Nat,a= .int .i64 i/\b= .int .i64 j/\i<=m/\m<=j/\j<=n/\Below w.heap.size w wr) (fun a b _=>((intOf b) - (intOf a)).toNat)
 case atStart=>exact⟨0,n,rfl,rfl,bf _,hm,ax _,aO _ _⟩
 case round=>
  obtain⟨i,j,rfl,rfl,him,hmj,hjn,hbel⟩:=hrel
  by_cases hij:i<j
  ·obtain⟨d,hd⟩:∃d,d=(i+j)/2:=⟨_,rfl⟩
   have hdc:((i:Int)+(j:Int))/2=(d:Int):=by omega
   have hd1:i<=d:=by omega
   have hd2:d<j:=by omega
   have Hf:=af (hf wr hbel d (by omega))
   have hml:m<=d\/d<m:=iJ d m|>.symm
   have Hlo:=af hlo
   have Hhi:=af hhi
   clear hf hlo hhi hd
   have Hdc:=af hdc;clear hdc
   by_cases hmd:m<=d
   ·have hp:=af (Hhi.out d hmd (by omega))
    go_wp2_with (first|(rw[Hdc.out];refine Hf.out.mono ?_;rw[hp.out];rintro e w1 ⟨rfl,hb1⟩))
    go_roundw
    case rel=>exact⟨i,d,rfl,rfl,by omega,hmd,by omega,hbel.trans hb1⟩
    case measure=>simp[intOf];omega
   ·have hp:=af (Hlo.out d (by omega))
    go_wp2_with (first|(rw[Hdc.out];refine Hf.out.mono ?_;rw[hp.out];rintro e w1 ⟨rfl,hb1⟩))
    go_roundw
    case rel=>exact⟨d+1,j,by go_num,rfl,by omega,by omega,by omega,hbel.trans hb1⟩
    case measure=>simp[intOf];omega
  ·obtain rfl:i=m:=by omega
   obtain rfl:j=i:=by omega
   clear hf hlo hhi
   go_wp2
   go_ret
   exact⟨rfl,hbel⟩
theorem Nc (pb kb b:Nat)(nd:Nd)(key:ByteArray)(w:World)(S:Nat->Prop)(h:fD w S b nd)(h1:w.cell? ⟨pb,0,none⟩=some (.pointer (some ⟨b,0,none⟩)))(h2:w.cell? ⟨kb,0,none⟩=some (.string key))(i:Nat)(hi:i<nd.keys.length):
  Calls Tryz.prog 202 #[.int .i64 i,.pointer (some ⟨pb,0,none⟩),.pointer (some ⟨kb,0,none⟩)] w fun e w'=>e= .returned (.bool (lt key nd.keys[i]))/\Below w.heap.size w w':=by
 obtain⟨_,v0,v1,v2,hb,_,hk,_⟩:=h
 obtain⟨c0,c1,c2,_,_,_,hlt⟩:=cells3 hb
 obtain⟨ao1,cp1,rfl,n1,m1,_,_⟩:=bn.form hk
 obtain⟨b',o',rfl,d1⟩:=hk.at rfl i hi
 have k1:(0:Int)<=(i:Int):=by omega
 have k2:(i:Int)<(nd.keys.length:Int):=by omega
 go_enter Tryz.func202,Tryz.ntmps202
 go_wp2
 go_quiet (fail)
 go_wp2
 go_ret
 exact⟨congrArg (fun x=>Ending.returned (Value.bool x)) (Rh _ _),Dl (aO _ _) _⟩
theorem FE (args:Array Value)(w:World):(callFunc 202 args).run Tryz.prog w= .ok (.enter 202 args) w:=by
 kernel_rfl
theorem D7 (b:Nat)(nd:Nd)(key:ByteArray)(w:World)(S:Nat->Prop)(h:fD w S b nd)(hr:ug nd.keys)(hn:nd.keys.length<=1000000):
  Calls Tryz.prog 152 #[.pointer (some ⟨b,0,none⟩),.string key] w fun e w'=>e= .returned (.int .i64 (gT nd.keys key))/\Below w.heap.size w w':=by
 have hN:=h
 obtain⟨hSb,v0,v1,v2,hb,h0,hk,h2⟩:=h
 obtain⟨c0,c1,c2,_,_,_,hlt⟩:=cells3 hb
 obtain⟨ao1,cp1,rfl,n1,m1,_,_⟩:=bn.form hk
 have hmf:∀(fn:Fn) (first cap:Array Value) (w:World),(Instr.makeFunc fn first cap).run Tryz.prog w= .ok (.func fn first cap) w:=fun _ _ _ _=>rfl
 obtain⟨f1,f2⟩:=yZ key nd.keys hr
 have hS:=Hq nd.keys.length 202 #[.pointer (some ⟨w.heap.size,0,none⟩),.pointer (some ⟨w.heap.size+1,0,none⟩)] (fun i=>if h:i<nd.keys.length then lt key nd.keys[i] else true)
  ((w.alloc (.cells #[.pointer (some ⟨b,0,none⟩)] 255)).alloc (.cells #[.string key] 9)) hn FE
  (fun W hW i hi=>by
   have hW0:Below w.heap.size w W:=(gy w _ _).trans (hW.mono (by simp;omega))
   have hNW:fD W S b nd:=hN.below hW0
   have q1:=(hW.cell (p:=⟨w.heap.size,0,none⟩) (by simp;omega)).trans (by rw[vH _ _ _ (by simp),oJ])
   have q2:=(hW.cell (p:=⟨w.heap.size+1,0,none⟩) (by simp)).trans (by rw[show w.heap.size+1=(w.alloc (.cells #[.pointer (some ⟨b,0,none⟩)] 255)).heap.size by simp,oJ])
   refine(Nc w.heap.size (w.heap.size+1) b nd key W S hNW q1 q2 i hi).mono ?_
   rintro e w' ⟨rfl,hb⟩
   exact⟨by simp[hi],hb.mono hW.size⟩)
  (gT nd.keys key) (AY _ _) (fun i hi=>by have:=AY nd.keys key;simp only[dif_pos (show i<nd.keys.length by omega)];exact f1 i _ hi) (fun i hi hl=>by simp only[dif_pos hl];exact f2 i _ hi)
 have HS:=af hS
 clear hS f1 f2 hN
 go_enter Tryz.func152,Tryz.ntmps152
 go_wp2_with (go_at_call 201;refine HS.out.mono ?_;rintro e w1 ⟨rfl,hb1⟩)
 go_ret
 exact⟨rfl,(gy w _ _).trans (hb1.mono (by simp;omega))⟩
theorem Gm (v:Value)(ps:List (ByteArray×ByteArray))(key:ByteArray)(w:World)(S:Nat->Prop)(h:nN w S v ps)(hr:iG ps)(hn:ps.length<=1000000):
  Calls Tryz.prog 198 #[v,.string key,.func (.func 199) #[] #[]] w fun e w'=>e= .returned (.tuple #[.int .i64 (dw ps key),.bool (ou ps key)])/\Below w.heap.size w w':=by
 have hP:=h
 obtain⟨ao,c,rfl,n1,m1,_,_⟩:=bn.form h
 obtain⟨f1,f2⟩:=ql key ps hr
 have hpl:=qK ps key
 have F1:=af f1;clear f1
 have F2:=af f2;clear f2
 go_enter Tryz.func198,Tryz.ntmps198
 go_wp2
 go_loopw [9,10] (fun a b wr=>∃i j:Nat,a= .int .i64 i/\b= .int .i64 j/\i<=dw ps key/\dw ps key<=j/\j<=ps.length/\Below w.heap.size w wr) (fun a b _=>((intOf b) - (intOf a)).toNat)
 case atStart=>exact⟨0,ps.length,rfl,rfl,bf _,hpl,ax _,aO _ _⟩
 case round=>
  obtain⟨i,j,rfl,rfl,him,hmj,hjn,hbel⟩:=hrel
  by_cases hij:i<j
  ·obtain⟨d,hd⟩:∃d,d=(i+j)/2:=⟨_,rfl⟩
   have hdc:((i:Int)+(j:Int))/2=(d:Int):=by omega
   have hd1:i<=d:=by omega
   have hd2:d<j:=by omega
   have hd3:d<ps.length:=by omega
   obtain⟨b',o',rfl,hc1,hc2⟩:=hP.at rfl d hd3
   have d1:=(hbel.cell (p:=⟨b',o'+d*2,none⟩) (aH w _ hc1)).trans hc1
   have d2:=(hbel.cell (p:=⟨b',o'+d*2+1,none⟩) (aH w _ hc2)).trans hc2
   clear hd hc1 hc2
   have Hdc:=af hdc;clear hdc
   by_cases hmd:dw ps key<=d
   ·have hp:=F2.out d hd3 hmd
    have hp':¬yJ ps[d].1 key<0:=by rw[Gg,hp];simp
    have hp2:decide (yJ ps[d].1 key<0)=false:=by simpa using hp'
    go_wp2_with (first|(rw[Hdc.out])|(go_at_call 199;refine(yF _ _ _ _).mono ?_;rintro e w1 ⟨rfl,hb1⟩))
    go_roundw
    case rel=>exact⟨i,d,rfl,rfl,by omega,hmd,by omega,hbel.trans (hb1.mono hbel.size)⟩
    case measure=>simp[intOf];omega
   ·have hp:=F1.out d hd3 (by omega)
    have hp':yJ ps[d].1 key<0:=by rw[Gg,hp]
    have hp2:decide (yJ ps[d].1 key<0)=true:=by simpa using hp'
    go_wp2_with (first|(rw[Hdc.out])|(go_at_call 199;refine(yF _ _ _ _).mono ?_;rintro e w1 ⟨rfl,hb1⟩))
    go_roundw
    case rel=>exact⟨d+1,j,by go_num,rfl,by omega,by omega,by omega,hbel.trans (hb1.mono hbel.size)⟩
    case measure=>simp[intOf];omega
  ·obtain rfl:i=dw ps key:=by omega
   obtain rfl:j=dw ps key:=by omega
   by_cases hin:dw ps key<ps.length
   ·obtain⟨b',o',rfl,hc1,hc2⟩:=hP.at rfl _ hin
    have d1:=(hbel.cell (p:=⟨b',o'+dw ps key*2,none⟩) (aH w _ hc1)).trans hc1
    have d2:=(hbel.cell (p:=⟨b',o'+dw ps key*2+1,none⟩) (aH w _ hc2)).trans hc2
    have hat:ou ps key=(yJ ps[dw ps key].1 key==0):=by
     unfold ou
     rw[bF hin]
     rw[Bool.eq_iff_iff];simp[KY]
    have Hat:=af hat;clear hat hc1 hc2
    go_wp2_with (first|(go_at_call 199;refine(yF _ _ _ _).mono ?_;rintro e w1 ⟨rfl,hb1⟩))
    go_ret2
    exact⟨by rw[Hat.out];rfl,hbel.trans (hb1.mono hbel.size)⟩
   ·have hat:ou ps key=false:=by
     unfold ou
     rw[nY (by omega)]
    have Hat:=af hat;clear hat
    go_wp2
    go_ret2
    exact⟨by rw[Hat.out];rfl,hbel⟩
theorem tF (b:Nat)(nd:Nd)(key:ByteArray)(w:World)(S:Nat->Prop)(h:fD w S b nd)(hr:iG nd.pairs)(hn:nd.pairs.length<=1000000):
  Calls Tryz.prog 151 #[.pointer (some ⟨b,0,none⟩),.string key] w fun e w'=>e= .returned (.tuple #[.int .i64 (dw nd.pairs key),.bool (ou nd.pairs key)])/\Below w.heap.size w w':=by
 obtain⟨hSb,v0,v1,v2,hb,h0,hk,h2⟩:=h
 obtain⟨c0,c1,c2,_,_,_,hlt⟩:=cells3 hb
 go_enter Tryz.func151,Tryz.ntmps151
 go_wp2_with (go_at_call 198;refine(Gm _ nd.pairs _ _ S h0 hr hn).mono ?_;rintro e w1 ⟨rfl,hb1⟩)
 go_ret2
 exact⟨rfl,hb1⟩
theorem ny (w:World):Calls Tryz.prog 207 #[.int .i64 0] w fun e w'=>e= .returned (.tuple #[])/\w=w':=by
 go_enter Tryz.func207,Tryz.ntmps207
 go_wp2
 go_end0
 exact⟨rfl,rfl⟩
def brk (e:Int):List PanicEntry:=[{v:= .iface 321 (.agg #[.int .i64 e]),recovered:=false}]
theorem MW (e:Int)(he:(e==0)=false)(w:World):Calls Tryz.prog 207 #[.int .i64 e] w fun e' w'=>e'= .panicked (brk e)/\w=w':=by
 have he2:(e !=0)=true:=by simp only[bne,he];rfl
 go_enter Tryz.func207,Tryz.ntmps207
 go_wp2
 exact⟨rfl,rfl,rfl⟩
def leastOf (nd:Nd)(told:ByteArray):ByteArray:=match nd.kids with|[]=>(nd.pairs.headD (⟨#[]⟩,⟨#[]⟩)).1|_=>told
theorem uK (b:Nat)(nd:Nd)(told:ByteArray)(w:World)(S:Nat->Prop)(h:fD w S b nd)(hne:nd.kids=[]->nd.pairs≠[]):
  Calls Tryz.prog 254 #[.pointer (some ⟨b,0,none⟩),.string told] w fun e w'=>e= .returned (.string (leastOf nd told))/\w=w':=by
 have hN:=h
 obtain⟨hSb,v0,v1,v2,hb,h0,hk,h2⟩:=h
 obtain⟨c0,c1,c2,_,_,_,hlt⟩:=cells3 hb
 cases hk:nd.kids with
 |nil=>
  have hp:=hne hk
  have hl:0<nd.pairs.length:=bS.2 hp
  obtain⟨ao0,cp0,rfl,n0,m0,_,_⟩:=bn.form h0
  obtain⟨b',o',rfl,d1,d2⟩:=h0.at rfl 0 hl
  have hle:leastOf nd told=nd.pairs[0].1:=by
   unfold leastOf;rw[hk]
   show (nd.pairs.headD _).1=_
   have:∀(l:List Pr) (h:0<l.length),l.headD (⟨#[]⟩,⟨#[]⟩)=l[0]:=fun l h=>by
    cases l with
    |nil=>simp at h
    |cons=>rfl
   rw[this]
  have hleaf:nd.kids.isEmpty=true:=by rw[hk];rfl
  have Hle:=af hle
  have Hk:=af hk
  have d1':w.cell? ⟨b',o',none⟩=some (.string nd.pairs[0].1):=by simpa using d1
  have hl':(0:Int)<(nd.pairs.length:Int):=by omega
  clear hle hk hne d1 d2
  go_enter Tryz.func254,Tryz.ntmps254
  go_wp2_with (go_at_call 150;refine(iZ b nd _ S hN).mono ?_;rw[hleaf];rintro e w1 ⟨rfl,rfl⟩)
  go_ret
  exact⟨by rw[Hle.out];rfl,rfl⟩
 |cons k ks=>
  have hle:leastOf nd told=told:=by unfold leastOf;rw[hk]
  have hleaf:nd.kids.isEmpty=false:=by rw[hk];rfl
  have Hle:=af hle
  have Hk:=af hk
  clear hle hk hne
  go_enter Tryz.func254,Tryz.ntmps254
  go_wp2_with (go_at_call 150;refine(iZ b nd _ S hN).mono ?_;rw[hleaf];rintro e w1 ⟨rfl,rfl⟩)
  go_ret
  exact⟨by rw[Hle.out];rfl,rfl⟩
def IsCut (w:World)(S:Nat->Prop)(B b:Nat)(l:List UInt8):Prop:=¬S b/\B<=b/\∃v,w.heap[b]? =some (.cells #[v,.bool false] 363 (0,0))/\ji w S v l/\∀g,v.ownBlock=some g->g<B
theorem IsCut.keep {w w':World}{S:Nat->Prop}{B b:Nat}{l:List UInt8}(h:IsCut w S B b l)(hb:w'.heap[b]? =w.heap[b]?)(hlo:∀g,g<B->w'.heap[g]? =w.heap[g]?):IsCut w' S B b l:=by
 obtain⟨h1,h2,v,h3,h4,h5⟩:=h
 exact⟨h1,h2,v,hb.trans h3,bn.keep h4 fun g hg _ hs=>⟨hlo g (h5 g hg),hs⟩,h5⟩
theorem NN {w:World}{b t:Nat}{v0 v1:Value}(h:w.heap[b]? =some (.cells #[v0,v1] t (0,0))):
  w.cell? ⟨b,0,none⟩=some v0/\w.cell? ⟨b,1,none⟩=some v1/\w.frozen? ⟨b,0,none⟩=false/\w.frozen? ⟨b,1,none⟩=false/\b<w.heap.size:=by
 refine⟨?_,?_,?_,?_,(ah.1 h).1⟩<;>simp[World.cell?,World.frozen?,h]
theorem ji.str {P:Program}{w:World}{S:Nat->Prop}{v:Value}(s:ByteArray)(h:ji w S v s.data.toList)(src dst e:TypeId)(hs:P.underlying src=some (.slice e))(he:P.underlying e=some (.int .u8))(hd:P.underlying dst=some .string):
  (convert src dst v).run P w= .ok (.string s) w:=by
 have hh:=h
 obtain⟨ao,c,rfl,_,_,h3,h4,h5,h6⟩:=h
 cases ao with
 |none=>
  have h0:=(h4 rfl).1
  rw[run_convert_bytes_nil w src e hs he _ _ dst hd]
  have:s=ByteArray.empty:=by
   cases s with
   |mk d=>
    have:d=#[]:=Array.eq_empty_of_size_eq_zero (by simpa using h0)
    rw[this];rfl
  rw[this]
 |some ad=>
  obtain⟨b,o,sp⟩:=ad
  obtain rfl:sp=none:=(h5 _ rfl).1
  have:=run_convert_bytes_back (P:=P) w src dst e ⟨b,o,none⟩ c s.data.toList hs he hd (fun j hj=>by
   obtain⟨b',o',e',hc⟩:=hh.at rfl j hj
   cases e'
   rw[fZ];exact hc)
  rw[this]
theorem Pn (B b:Nat)(l:List UInt8)(n:Nat)(w:World)(S:Nat->Prop)(h:IsCut w S B b l)(hn:n<=l.length):
  Calls Tryz.prog 247 #[.pointer (some ⟨b,0,none⟩),.int .i64 n] w fun e w'=>∃v,e= .returned v/\ji w' S v (l.take n)/\IsCut w' S B b (l.drop n)/\Keep (· =b) w w'/\(∀g,v.ownBlock=some g->g<B)/\w'.heap.size=w.heap.size:=by
 obtain⟨hS,hBb,v,hb,hl0,hvb⟩:=h
 obtain⟨c0,c1,f0,f1,hlt⟩:=NN hb
 have hB:=hl0
 obtain⟨ao,c,rfl,g1,g2,g3,g4⟩:=bn.form hl0
 have k0:(0:Int)<=(n:Int):=by omega
 have k1:(n:Int)<=(c:Int):=by omega
 have k2:(n:Int)<=(l.length:Int):=by omega
 have t1:=bn.upto hB n hn
 have t2:=bn.after hB n hn
 have hk:∀v,Keep (· =b) w (w.setCell ⟨b,0,none⟩ v):=fun v=>Keep.setCell (M:=(· =b)) (p:=⟨b,0,none⟩) (Keep.refl _ w) (.inr rfl) v
 have hblk:∀v,(w.setCell ⟨b,0,none⟩ v).heap[b]? =some (.cells #[v,.bool false] 363 (0,0)):=fun v=>by
  simp[World.setCell,aS,hb]
 have kp:∀(v':Value) (v:Value) (m:Nat) (xs:List Value),bn w S 1 v m xs->v.ownBlock≠some b->bn (w.setCell ⟨b,0,none⟩ v') S 1 v m xs:=fun v' v m xs h hne=>
  h.keep fun g hg hl hs=>⟨(hk v').block g hl (fun e=>hne (by rw[hg,e])),hs⟩
 have b1:∀g,(Value.slice ao n c).ownBlock=some g->g<B:=by cases ao<;>exact hvb
 have b2:∀g,(Value.slice (if c=n then ao else ao.map fun x=>x.add (n*1)) (l.length - n) (c - n)).ownBlock=some g->g<B:=by
  cases ao with
  |none=>split<;>simp[Value.ownBlock]
  |some ad=>
   have hb1:ad.block<B:=hvb _ rfl
   split
   ·exact fun g e=>by injection e with e;omega
   ·intro g e
    simp only[Value.ownBlock,fC,BD] at e
    unfold Addr.add at e;split at e<;>(first|omega|(simp only at e;omega))
 have e1:(aD l).take (n*1)=aD (l.take n):=by simp[aD,gG]
 have e2:(aD l).drop (n*1)=aD (l.drop n):=by simp[aD,gH]
 rw[e1] at t1
 rw[e2] at t2
 have u1:∀v',ji (w.setCell ⟨b,0,none⟩ v') S (.slice ao n c) (l.take n):=fun v'=>by
  unfold ji;rw[aC,bq hn];exact kp v' _ _ _ t1 (fun e=>absurd (b1 _ e) (bE.2 hBb))
 have u2:∀v',ji (w.setCell ⟨b,0,none⟩ v') S (.slice (if c=n then ao else ao.map fun x=>x.add (n*1)) (l.length - n) (c - n)) (l.drop n):=fun v'=>by
  unfold ji;rw[aJ];exact kp v' _ _ _ t2 (fun e=>absurd (b2 _ e) (bE.2 hBb))
 have U1:=af u1
 have U2:=af u2
 have Hk:=af hk
 have Hb:=af hblk
 have B1:=af b1
 have B2:=af b2
 clear u1 u2 hk hblk b1 b2 kp t1 t2 e1 e2 hB hl0 hvb
 by_cases hcn:c=n
 ·subst hcn
  go_enter Tryz.func247,Tryz.ntmps247
  go_wp2
  go_ret
  have q2:=U2.out (.slice ao (l.length - c) (c - c))
  have q3:=B2.out
  simp only[iI,show l.length - c=0 by omega,xZ] at q2 q3
  exact⟨_,rfl,U1.out _,⟨hS,hBb,_,Hb.out _,q2,q3⟩,Hk.out _,B1.out,by simp⟩
 ·go_enter Tryz.func247,Tryz.ntmps247
  go_wp2
  go_ret
  have q2:=U2.out (.slice (ao.map fun x=>x.add n) (l.length - n) (c - n))
  have q3:=B2.out
  rw[if_neg hcn,aT] at q2 q3
  exact⟨_,rfl,U1.out _,⟨hS,hBb,_,Hb.out _,q2,q3⟩,Hk.out _,B1.out,by simp⟩
theorem rG (B b:Nat)(l:List UInt8)(n:Nat)(m:Int)(hm:m=(n:Int))(w:World)(S:Nat->Prop)(h:IsCut w S B b l)(hn:n<=l.length):
  Calls Tryz.prog 247 #[.pointer (some ⟨b,0,none⟩),.int .i64 m] w fun e w'=>∃v,e= .returned v/\ji w' S v (l.take n)/\IsCut w' S B b (l.drop n)/\Keep (· =b) w w'/\(∀g,v.ownBlock=some g->g<B)/\w'.heap.size=w.heap.size:=by
 subst hm;exact Pn B b l n w S h hn
end Go.Proofs.YtbfjgkafmlbpcaaGreatDoor
