/- parts -/
import Derived.Test.YtogbkgmlhhahdaaGreatQ1
import Derived.Test.YtogbkgmlhhahdaaGreatQ2
import Derived.Test.YtogbkgmlhhahdaaGreatQ3
import Derived.Test.YtogbkgmlhhahdaaGreatQ5
import Derived.Lib.Bytealg
import GoSem.Op.String
import Derived.Deep.QuietTactic
import Derived.BigQuiet
set_option maxRecDepth 100000
set_option maxHeartbeats 8000000
set_option linter.all false
namespace Go.Proofs.YtogbkgmlhhahdaaGreat
open Go.RowKit
structure Lg where
 frm:Nat
 n:Nat
 start:Nat
 used:Nat
 list:List (Nat×Nat)
 last:Nat
 synced:Nat
 dead:Bool
def leB (x:Nat):Nat->List UInt8
 |0=>[]
 |k+1=>b8 x::leB (x/256) k
theorem bW (x:Nat):∀k,(leB x k).length=k
 |0=>rfl
 |k+1=>by rw[leB,aZ,bW]
def rV:List UInt8->Nat
 |[]=>0
 |b::l=>b.toNat+256*rV l
theorem pV:∀(k x:Nat),x<256^k->rV (leB x k)=x
 |0,x,h=>by simp at h;rw[h];rfl
 |k+1,x,h=>by
  have h1:x/256<256^k:=by rw[zJ] at h;omega
  have h2:(b8 x).toNat=x%256:=by simp[b8]
  rw[leB,rV,pV k _ h1,h2]
  omega
def magic:List UInt8:=[100,111,99,107,101,116,32,108,111,103,32,49]
def Lg.first (l:Lg):Nat:=match l.list with|[]=>l.last+1|e::_=>e.1
def Lg.lU (l:Lg):List UInt8:=magic++leB l.frm 8++leB l.n 8++leB l.start 8++leB l.first 8++leB l.synced 8
def xM (l:List UInt8):Nat:=(tX l).toNat
theorem tV (l:List UInt8):tX l=(xM l:Int):=by have:=zk l;unfold xM;omega
theorem yA (l:List UInt8):xM l<4294967296:=by have:=zk l;unfold xM;omega
def Lg.fE (l:Lg):List UInt8:=l.lU++leB (xM l.lU) 4
theorem Lg.oO (l:Lg):l.lU.length=52:=by unfold Lg.lU;simp[bW,magic]
theorem Lg.yT (l:Lg):l.fE.length=56:=by unfold Lg.fE;rw[ay,l.oO,bW]
def Lg.dies (l:Lg):Lg:={l with dead:=true}
def Lg.mark (d:Dk)(l:Lg):Dk×Lg×Int:=
 if (d.write l.frm l.fE).2=0 then
  if (d.write l.frm l.fE).1.sync.2=0 then((d.write l.frm l.fE).1.sync.1,l,0) else((d.write l.frm l.fE).1.sync.1,l.dies,10)
 else((d.write l.frm l.fE).1,l.dies,10)
def Lg.room (l:Lg):Nat:=l.n - 1 - l.used
def Lg.ring (l:Lg)(at_:Nat):Nat:=l.frm+1+at_%(l.n - 1)
def dQ (bF:List (List UInt8)):Nat:=(16+(bF.map fun r=>4+r.length).sum+511)/512
def iG (bF:List (List UInt8)):List UInt8:=bF.flatMap fun r=>leB r.length 4++r
def iH (k:Nat)(bF:List (List UInt8)):List UInt8:=leB (16+(iG bF).length) 4++leB k 8++leB (xM (iG bF)) 4++iG bF
theorem lN (bF:List (List UInt8)):(iG bF).length=(bF.map fun r=>4+r.length).sum:=by
 unfold iG
 rw[List.length_flatMap]
 simp[bW]
theorem rX (k:Nat)(bF:List (List UInt8)):(iH k bF).length=16+(bF.map fun r=>4+r.length).sum:=by
 simp only[iH,ay,bW,lN]
def Lg.qK (l:Lg)(b:List UInt8):Nat->Nat->Dk->Dk×Int
 |0,_,d=>(d,0)
 |k+1,i,d=>
  if (d.write (l.ring (l.start+l.used+i)) ((b.drop (i*512)).take 512)).2=0 then l.qK b k (i+1) (d.write (l.ring (l.start+l.used+i)) ((b.drop (i*512)).take 512)).1
  else((d.write (l.ring (l.start+l.used+i)) ((b.drop (i*512)).take 512)).1,10)
def Lg.bad (l:Lg)(bF:List (List UInt8)):Int:=
 if l.dead then 10 else if bF.length=0\/1024<bF.length then 1 else if bF.any (fun r=>decide (600<r.length)) then 1 else if l.room<dQ bF then 12 else 0
def Lg.more (l:Lg)(bF:List (List UInt8)):Lg:={l with last:=l.last+1,used:=l.used+dQ bF,list:=l.list++[(l.last+1,dQ bF)]}
def Lg.append (d:Dk)(l:Lg)(bF:List (List UInt8)):Dk×Lg×Nat×Int:=
 if l.bad bF≠0 then(d,l,0,l.bad bF) else
 if (l.qK (iH (l.last+1) bF) (dQ bF) 0 d).2=0 then((l.qK (iH (l.last+1) bF) (dQ bF) 0 d).1,l.more bF,l.last+1,0)
 else((l.qK (iH (l.last+1) bF) (dQ bF) 0 d).1,l.dies,0,10)
def Lg.all (l:Lg):Lg:={l with synced:=l.last}
def Lg.sync (d:Dk)(l:Lg):Dk×Lg×Int:=
 if l.dead then(d,l,10) else
 if d.sync.2=0 then
  if (l.all.mark d.sync.1).2.2=0 then l.all.mark d.sync.1 else((l.all.mark d.sync.1).1,l.dies,10)
 else(d.sync.1,l.dies,10)
def Lg.ru (upto:Nat):List (Nat×Nat)->Nat->Nat->Nat->List (Nat×Nat)×Nat×Nat
 |[],_,s,u=>([],s,u)
 |e::r,m,s,u=>if e.1<=upto then Lg.ru upto r m ((s+e.2)%m) (u - e.2) else(e::r,s,u)
def Lg.cut (l:Lg)(upto:Nat):Lg:={l with list:=(Lg.ru upto l.list (l.n - 1) l.start l.used).1,start:=(Lg.ru upto l.list (l.n - 1) l.start l.used).2.1,used:=(Lg.ru upto l.list (l.n - 1) l.start l.used).2.2}
def Lg.trim (d:Dk)(l:Lg)(upto:Nat):Dk×Lg×Int:=
 if l.dead then(d,l,10) else if l.synced<upto then(d,l,1) else
 if ((l.cut upto).mark d).2.2=0 then(l.cut upto).mark d else(((l.cut upto).mark d).1,l.dies,10)
end Go.Proofs.YtogbkgmlhhahdaaGreat
namespace Go.Proofs.YtogbkgmlhhahdaaGreat
def lt (a b:ByteArray):Bool:=Op.bytesLess a.toList b.toList
theorem EJ:∀l:List UInt8,Op.bytesLess l l=false
 |[]=>rfl
 |a::l=>by simp[Op.bytesLess,EJ l]
theorem Jd:∀a b c:List UInt8,Op.bytesLess a b=true->Op.bytesLess b c=true->Op.bytesLess a c=true
 |_,[],_=>by simp[Op.bytesLess]
 |_,_::_,[]=>by simp[Op.bytesLess]
 |[],_::_,_::_=>by simp[Op.bytesLess]
 |x::a,y::b,z::c=>by
  have ih:=Jd a b c
  simp only[Op.bytesLess,sj,dN,eZ,qy]
  rintro(h|⟨rfl,h⟩) (k|⟨rfl,k⟩)
  ·exact .inl (UInt8.lt_trans h k)
  ·exact .inl h
  ·exact .inl k
  ·exact .inr ⟨rfl,ih h k⟩
theorem Je:∀a b:List UInt8,Op.bytesLess a b=false->Op.bytesLess b a=false->a=b
 |[],[]=>fun _ _=>rfl
 |[],_::_=>by simp[Op.bytesLess]
 |_::_,[]=>by simp[Op.bytesLess]
 |x::a,y::b=>by
  have ih:=Je a b
  simp only[Op.bytesLess,Bool.or_eq_false_iff,Bool.and_eq_false_iff,EN,fG]
  rintro⟨h1,h2⟩ ⟨k1,k2⟩
  have e:x=y:=by
   apply Js.1
   rw[UInt8.lt_iff_toNat_lt] at h1 k1
   omega
  subst e
  rw[ih (by simpa using h2) (by simpa using k2)]
theorem toList_eq (a:ByteArray):a.toList=a.data.toList:=ByteArray.toList_eq a
theorem toList_inj {a b:ByteArray}(h:a.toList=b.toList):a=b:=by
 rw[toList_eq,toList_eq] at h
 cases a;cases b;congr;exact Array.ext' h
theorem lt_irrefl (a:ByteArray):lt a a=false:=EJ _
theorem lt_trans {a b c:ByteArray}(h:lt a b=true)(k:lt b c=true):lt a c=true:=Jd _ _ _ h k
theorem ve {a b:ByteArray}(h:lt a b=false)(k:lt b a=false):a=b:=toList_inj (Je _ _ h k)
theorem lt_asymm {a b:ByteArray}(h:lt a b=true):lt b a=false:=by
 cases hb:lt b a with
 |false=>rfl
 |true=>have:=lt_trans h hb;rw[lt_irrefl] at this;cases this
theorem LQ {a b:ByteArray}(h:lt a b=true):a≠b:=by rintro rfl;rw[lt_irrefl] at h;cases h
theorem SF {a b c:ByteArray}(h:lt b a=false)(k:lt b c=true):lt a c=true:=by
 cases hab:lt a b with
 |true=>exact lt_trans hab k
 |false=>rw[ve hab h];exact k
theorem Cs {a b c:ByteArray}(h:lt a b=true)(k:lt c b=false):lt a c=true:=by
 cases hbc:lt b c with
 |true=>exact lt_trans h hbc
 |false=>rw[<-ve hbc k];exact h
theorem SG {a b c:ByteArray}(h:lt b a=false)(k:lt c b=false):lt c a=false:=by
 cases hca:lt c a with
 |false=>rfl
 |true=>have:=Cs hca h;rw[k] at this;cases this
theorem Aa:∀a b:List UInt8,(Lib.compareBytes a b<0↔Op.bytesLess a b=true)/\(Lib.compareBytes a b=0↔a=b)
 |[],[]=>by simp[Lib.compareBytes,Op.bytesLess]
 |[],_::_=>by simp[Lib.compareBytes,Op.bytesLess]
 |_::_,[]=>by simp[Lib.compareBytes,Op.bytesLess]
 |x::a,y::b=>by
  have ih:=Aa a b
  unfold Lib.compareBytes Op.bytesLess
  by_cases h1:x<y
  ·have hne:x≠y:=by rintro rfl;exact absurd h1 (UInt8.lt_irrefl _)
   simp[h1,hne]
  ·rw[if_neg h1]
   by_cases h2:y<x
   ·rw[if_pos h2]
    have hne:x≠y:=by rintro rfl;exact UInt8.lt_irrefl _ h2
    simp[h1,hne]
   ·rw[if_neg h2]
    have e:x=y:=by
     apply Js.1
     rw[UInt8.lt_iff_toNat_lt] at h1 h2
     omega
    subst e
    simp[UInt8.lt_irrefl,ih]
def Ab (a b:ByteArray):Int:=Lib.compareBytes a.data.toList b.data.toList
theorem I4 (a b:ByteArray):Ab a b<0↔lt a b=true:=by
 unfold Ab lt;rw[toList_eq,toList_eq];exact(Aa _ _).1
theorem NM (a b:ByteArray):Ab a b=0↔a=b:=by
 unfold Ab;rw[(Aa _ _).2]
 exact⟨fun h=>toList_inj (by rw[toList_eq,toList_eq];exact h),fun h=>by rw[h]⟩
theorem Qg (a b:ByteArray):(!Op.bytesLess a.toList b.toList && !(a.toList==b.toList))=lt b a:=by
 show (!lt a b && !(a.toList==b.toList))=lt b a
 cases h:lt b a with
 |true=>
  rw[lt_asymm h]
  have:(a.toList==b.toList)=false:=by rw[fG];intro e;exact LQ h (toList_inj e.symm)
  rw[this];rfl
 |false=>
  cases h2:lt a b with
  |true=>rfl
  |false=>rw[ve h2 h];simp
def iV (keys:List ByteArray)(key:ByteArray):Nat:=(keys.takeWhile fun k=> !lt key k).length
def vT (keys:List ByteArray):Prop:=keys.Pairwise fun a b=>lt a b=true
theorem Cu (keys:List ByteArray)(key:ByteArray):iV keys key<=keys.length:=by
 unfold iV
 exact(List.takeWhile_sublist _).length_le
theorem Ar (key:ByteArray):∀(keys:List ByteArray),vT keys->
  (∀i (h:i<keys.length),i<iV keys key->lt key keys[i]=false)/\(∀i (h:i<keys.length),iV keys key<=i->lt key keys[i]=true)
 |[],_=>⟨fun i h=>absurd h (by simp),fun i h=>absurd h (by simp)⟩
 |k::keys,hr=>by
  have hr':=fP.1 hr
  have ih:=Ar key keys hr'.2
  cases hk:lt key k with
  |true=>
   have e:iV (k::keys) key=0:=by simp[iV,hk]
   rw[e]
   refine⟨fun i _ h=>absurd h (by omega),fun i h _=> ?_⟩
   cases i with
   |zero=>exact hk
   |succ i=>exact lt_trans hk (hr'.1 _ (bE (by simpa using h)))
  |false=>
   have e:iV (k::keys) key=iV keys key+1:=by simp[iV,hk]
   rw[e]
   refine⟨fun i h hi=> ?_,fun i h hi=> ?_⟩
   ·cases i with
    |zero=>exact hk
    |succ i=>exact ih.1 i (by simpa using h) (by omega)
   ·cases i with
    |zero=>omega
    |succ i=>exact ih.2 i (by simpa using h) (by omega)
def cO (ps:List (ByteArray×ByteArray))(key:ByteArray):Nat:=(ps.takeWhile fun p=>lt p.1 key).length
def gD (ps:List (ByteArray×ByteArray)):Prop:=ps.Pairwise fun a b=>lt a.1 b.1=true
theorem pU (ps:List (ByteArray×ByteArray))(key:ByteArray):cO ps key<=ps.length:=by
 unfold cO
 exact(List.takeWhile_sublist _).length_le
theorem mQ (key:ByteArray):∀(ps:List (ByteArray×ByteArray)),gD ps->
  (∀i (h:i<ps.length),i<cO ps key->lt ps[i].1 key=true)/\(∀i (h:i<ps.length),cO ps key<=i->lt ps[i].1 key=false)
 |[],_=>⟨fun i h=>absurd h (by simp),fun i h=>absurd h (by simp)⟩
 |k::ps,hr=>by
  have hr':=fP.1 hr
  have ih:=mQ key ps hr'.2
  cases hk:lt k.1 key with
  |false=>
   have e:cO (k::ps) key=0:=by simp[cO,hk]
   rw[e]
   refine⟨fun i _ h=>absurd h (by omega),fun i h _=> ?_⟩
   cases i with
   |zero=>exact hk
   |succ i=>
    cases h2:lt (k::ps)[i+1].1 key with
    |false=>rfl
    |true=>have:=lt_trans (hr'.1 _ (bE (by simpa using h))) h2;rw[hk] at this;cases this
  |true=>
   have e:cO (k::ps) key=cO ps key+1:=by simp[cO,hk]
   rw[e]
   refine⟨fun i h hi=> ?_,fun i h hi=> ?_⟩
   ·cases i with
    |zero=>exact hk
    |succ i=>exact ih.1 i (by simpa using h) (by omega)
   ·cases i with
    |zero=>omega
    |succ i=>exact ih.2 i (by simpa using h) (by omega)
def pz (ps:List (ByteArray×ByteArray))(key:ByteArray):Bool:=match ps[cO ps key]? with|some p=>decide (p.1=key)|none=>false
end Go.Proofs.YtogbkgmlhhahdaaGreat
namespace Go.Proofs.YtogbkgmlhhahdaaGreat
open Go.RowKit
theorem DL (a b:ByteArray)(w:World):Calls Tryz.prog 189 #[.string a,.string b] w fun e w'=>e= .returned (.int .i64 (Ab a b))/\w=w':=by
 have hc:∀w,(callFunc 211 #[.string a,.string b]).run Tryz.prog w= .ok (.value (.int .i64 (Ab a b))) w:=fun w=>by
  rw[AP Tryz.func211 (by kernel_rfl) (by kernel_rfl) (by kernel_rfl) (e:=Extern.BytealgCompare.compare) (by kernel_rfl),Lib.run_compareString]
  rfl
 go_enter Tryz.func189,Tryz.ntmps189
 go_wp2
 go_ret
 exact⟨rfl,rfl⟩
theorem IW (a b:ByteArray)(w:World):Calls Tryz.prog 157 #[.string a,.string b] w fun e w'=>e= .returned (.int .i64 (Ab a b))/\w=w':=by
 go_enter Tryz.func157,Tryz.ntmps157
 go_wp2_with (go_at_call 189;refine(DL _ _ _).mono ?_;rintro e w' ⟨rfl,rfl⟩)
 go_ret
 exact⟨rfl,rfl⟩
theorem zX (k v key:ByteArray)(w:World):Calls Tryz.prog 156 #[.agg #[.string k,.string v],.string key] w fun e w'=>e= .returned (.int .i64 (Ab k key))/\Below w.heap.size w w':=by
 go_enter Tryz.func156,Tryz.ntmps156
 go_wp2_with (go_at_call 157;refine(IW _ _ _).mono ?_;rintro e w' ⟨rfl,rfl⟩)
 go_ret
 exact⟨rfl,aO _ _⟩
theorem J4 (n:Nat)(g:Nat)(cb:Array Value)(p:Nat->Bool)(w:World)(hn:n<=1000000)(hent:∀args w,(callFunc g args).run Tryz.prog w= .ok (.enter g args) w)
  (hf:∀W,Below w.heap.size w W->∀i,i<n->Calls Tryz.prog g (#[.int .i64 (i:Int)]++cb) W fun e w'=>e= .returned (.bool (p i))/\Below w.heap.size W w')
  (m:Nat) (hm:m<=n) (hlo:∀i,i<m->p i=false) (hhi:∀i,m<=i->i<n->p i=true):
  Calls Tryz.prog 162 #[.int .i64 n,.func (.func g) #[] cb] w fun e w'=>e= .returned (.int .i64 m)/\Below w.heap.size w w':=by
 go_enter Tryz.func162,Tryz.ntmps162
 go_wp2
 go_loopw [5,6] (fun a b wr=>∃i j:Nat,a= .int .i64 i/\b= .int .i64 j/\i<=m/\m<=j/\j<=n/\Below w.heap.size w wr) (fun a b _=>((intOf b) - (intOf a)).toNat)
 case atStart=>exact⟨0,n,rfl,rfl,aT _,hm,aC _,aR _ _⟩
 case round=>
  obtain⟨i,j,rfl,rfl,him,hmj,hjn,hbel⟩:=hrel
  by_cases hij:i<j
  ·obtain⟨d,hd⟩:∃d,d=(i+j)/2:=⟨_,rfl⟩
   have hdc:((i:Int)+(j:Int))/2=(d:Int):=by omega
   have hd1:i<=d:=by omega
   have hd2:d<j:=by omega
   have Hf:=ah (hf wr hbel d (by omega))
   have hml:m<=d\/d<m:=jf d m|>.symm
   have Hlo:=ah hlo
   have Hhi:=ah hhi
   clear hf hlo hhi hd
   have Hdc:=ah hdc;clear hdc
   by_cases hmd:m<=d
   ·have hp:=ah (Hhi.out d hmd (by omega))
    go_wp2_with (first|(rw[Hdc.out];refine Hf.out.mono ?_;rw[hp.out];rintro e w1 ⟨rfl,hb1⟩))
    go_roundw
    case rel=>exact⟨i,d,rfl,rfl,by omega,hmd,by omega,hbel.trans hb1⟩
    case measure=>simp[intOf];omega
   ·have hp:=ah (Hlo.out d (by omega))
    go_wp2_with (first|(rw[Hdc.out];refine Hf.out.mono ?_;rw[hp.out];rintro e w1 ⟨rfl,hb1⟩))
    go_roundw
    case rel=>exact⟨d+1,j,by go_num,rfl,by omega,by omega,by omega,hbel.trans hb1⟩
    case measure=>simp[intOf];omega
  ·obtain rfl:i=m:=by omega
   obtain rfl:j=i:=by omega
   clear hf hlo hhi
   go_wp2
   go_ret
   exact⟨rfl,hbel⟩
theorem P5 (pb kb b:Nat)(nd:Nd)(key:ByteArray)(w:World)(S:Nat->Prop)(h:gG w S b nd)(h1:w.cell? ⟨pb,0,none⟩=some (.pointer (some ⟨b,0,none⟩)))(h2:w.cell? ⟨kb,0,none⟩=some (.string key))(i:Nat)(hi:i<nd.keys.length):
  Calls Tryz.prog 163 #[.int .i64 i,.pointer (some ⟨pb,0,none⟩),.pointer (some ⟨kb,0,none⟩)] w fun e w'=>e= .returned (.bool (lt key nd.keys[i]))/\Below w.heap.size w w':=by
 obtain⟨_,v0,v1,v2,hb,_,hk,_⟩:=h
 obtain⟨c0,c1,c2,_,_,_,hlt⟩:=cells3 hb
 obtain⟨ao1,cp1,rfl,n1,m1,_,_⟩:=aX.form hk
 obtain⟨b',o',rfl,d1⟩:=hk.at rfl i hi
 have k1:(0:Int)<=(i:Int):=by omega
 have k2:(i:Int)<(nd.keys.length:Int):=by omega
 go_enter Tryz.func163,Tryz.ntmps163
 go_wp2
 go_quiet (fail)
 go_wp2
 go_ret
 exact⟨congrArg (fun x=>Ending.returned (Value.bool x)) (Qg _ _),QX (aR _ _) _⟩
theorem Ib (args:Array Value)(w:World):(callFunc 163 args).run Tryz.prog w= .ok (.enter 163 args) w:=by
 kernel_rfl
theorem FI (b:Nat)(nd:Nd)(key:ByteArray)(w:World)(S:Nat->Prop)(h:gG w S b nd)(hr:vT nd.keys)(hn:nd.keys.length<=1000000):
  Calls Tryz.prog 122 #[.pointer (some ⟨b,0,none⟩),.string key] w fun e w'=>e= .returned (.int .i64 (iV nd.keys key))/\Below w.heap.size w w':=by
 have hN:=h
 obtain⟨hSb,v0,v1,v2,hb,h0,hk,h2⟩:=h
 obtain⟨c0,c1,c2,_,_,_,hlt⟩:=cells3 hb
 obtain⟨ao1,cp1,rfl,n1,m1,_,_⟩:=aX.form hk
 have hmf:∀(fn:Fn) (first cap:Array Value) (w:World),(Instr.makeFunc fn first cap).run Tryz.prog w= .ok (.func fn first cap) w:=fun _ _ _ _=>rfl
 obtain⟨f1,f2⟩:=Ar key nd.keys hr
 have hS:=J4 nd.keys.length 163 #[.pointer (some ⟨w.heap.size,0,none⟩),.pointer (some ⟨w.heap.size+1,0,none⟩)] (fun i=>if h:i<nd.keys.length then lt key nd.keys[i] else true)
  ((w.alloc (.cells #[.pointer (some ⟨b,0,none⟩)] 161)).alloc (.cells #[.string key] 9)) hn Ib
  (fun W hW i hi=>by
   have hW0:Below w.heap.size w W:=(ic w _ _).trans (hW.mono (by simp;omega))
   have hNW:gG W S b nd:=hN.below hW0
   have q1:=(hW.cell (p:=⟨w.heap.size,0,none⟩) (by simp;omega)).trans (by rw[xG _ _ _ (by simp),qj])
   have q2:=(hW.cell (p:=⟨w.heap.size+1,0,none⟩) (by simp)).trans (by rw[show w.heap.size+1=(w.alloc (.cells #[.pointer (some ⟨b,0,none⟩)] 161)).heap.size by simp,qj])
   refine(P5 w.heap.size (w.heap.size+1) b nd key W S hNW q1 q2 i hi).mono ?_
   rintro e w' ⟨rfl,hb⟩
   exact⟨by simp[hi],hb.mono hW.size⟩)
  (iV nd.keys key) (Cu _ _) (fun i hi=>by have:=Cu nd.keys key;simp only[dif_pos (show i<nd.keys.length by omega)];exact f1 i _ hi) (fun i hi hl=>by simp only[dif_pos hl];exact f2 i _ hi)
 have HS:=ah hS
 clear hS f1 f2 hN
 go_enter Tryz.func122,Tryz.ntmps122
 go_wp2_with (go_at_call 162;refine HS.out.mono ?_;rintro e w1 ⟨rfl,hb1⟩)
 go_ret
 exact⟨rfl,(ic w _ _).trans (hb1.mono (by simp;omega))⟩
theorem I9 (v:Value)(ps:List (ByteArray×ByteArray))(key:ByteArray)(w:World)(S:Nat->Prop)(h:jH w S v ps)(hr:gD ps)(hn:ps.length<=1000000):
  Calls Tryz.prog 155 #[v,.string key,.func (.func 156) #[] #[]] w fun e w'=>e= .returned (.tuple #[.int .i64 (cO ps key),.bool (pz ps key)])/\Below w.heap.size w w':=by
 have hP:=h
 obtain⟨ao,c,rfl,n1,m1,_,_⟩:=aX.form h
 obtain⟨f1,f2⟩:=mQ key ps hr
 have hpl:=pU ps key
 have F1:=ah f1;clear f1
 have F2:=ah f2;clear f2
 go_enter Tryz.func155,Tryz.ntmps155
 go_wp2
 go_loopw [9,10] (fun a b wr=>∃i j:Nat,a= .int .i64 i/\b= .int .i64 j/\i<=cO ps key/\cO ps key<=j/\j<=ps.length/\Below w.heap.size w wr) (fun a b _=>((intOf b) - (intOf a)).toNat)
 case atStart=>exact⟨0,ps.length,rfl,rfl,aT _,hpl,aC _,aR _ _⟩
 case round=>
  obtain⟨i,j,rfl,rfl,him,hmj,hjn,hbel⟩:=hrel
  by_cases hij:i<j
  ·obtain⟨d,hd⟩:∃d,d=(i+j)/2:=⟨_,rfl⟩
   have hdc:((i:Int)+(j:Int))/2=(d:Int):=by omega
   have hd1:i<=d:=by omega
   have hd2:d<j:=by omega
   have hd3:d<ps.length:=by omega
   obtain⟨b',o',rfl,hc1,hc2⟩:=hP.at rfl d hd3
   have d1:=(hbel.cell (p:=⟨b',o'+d*2,none⟩) (aD w _ hc1)).trans hc1
   have d2:=(hbel.cell (p:=⟨b',o'+d*2+1,none⟩) (aD w _ hc2)).trans hc2
   clear hd hc1 hc2
   have Hdc:=ah hdc;clear hdc
   by_cases hmd:cO ps key<=d
   ·have hp:=F2.out d hd3 hmd
    have hp':¬Ab ps[d].1 key<0:=by rw[I4,hp];simp
    have hp2:decide (Ab ps[d].1 key<0)=false:=by simpa using hp'
    go_wp2_with (first|(rw[Hdc.out])|(go_at_call 156;refine(zX _ _ _ _).mono ?_;rintro e w1 ⟨rfl,hb1⟩))
    go_roundw
    case rel=>exact⟨i,d,rfl,rfl,by omega,hmd,by omega,hbel.trans (hb1.mono hbel.size)⟩
    case measure=>simp[intOf];omega
   ·have hp:=F1.out d hd3 (by omega)
    have hp':Ab ps[d].1 key<0:=by rw[I4,hp]
    have hp2:decide (Ab ps[d].1 key<0)=true:=by simpa using hp'
    go_wp2_with (first|(rw[Hdc.out])|(go_at_call 156;refine(zX _ _ _ _).mono ?_;rintro e w1 ⟨rfl,hb1⟩))
    go_roundw
    case rel=>exact⟨d+1,j,by go_num,rfl,by omega,by omega,by omega,hbel.trans (hb1.mono hbel.size)⟩
    case measure=>simp[intOf];omega
  ·obtain rfl:i=cO ps key:=by omega
   obtain rfl:j=cO ps key:=by omega
   by_cases hin:cO ps key<ps.length
   ·obtain⟨b',o',rfl,hc1,hc2⟩:=hP.at rfl _ hin
    have d1:=(hbel.cell (p:=⟨b',o'+cO ps key*2,none⟩) (aD w _ hc1)).trans hc1
    have d2:=(hbel.cell (p:=⟨b',o'+cO ps key*2+1,none⟩) (aD w _ hc2)).trans hc2
    have hat:pz ps key=(Ab ps[cO ps key].1 key==0):=by
     unfold pz
     rw[bG hin]
     rw[Bool.eq_iff_iff];simp[NM]
    have Hat:=ah hat;clear hat hc1 hc2
    go_wp2_with (first|(go_at_call 156;refine(zX _ _ _ _).mono ?_;rintro e w1 ⟨rfl,hb1⟩))
    go_ret2
    exact⟨by rw[Hat.out];rfl,hbel.trans (hb1.mono hbel.size)⟩
   ·have hat:pz ps key=false:=by
     unfold pz
     rw[mG (by omega)]
    have Hat:=ah hat;clear hat
    go_wp2
    go_ret2
    exact⟨by rw[Hat.out];rfl,hbel⟩
theorem vE (b:Nat)(nd:Nd)(key:ByteArray)(w:World)(S:Nat->Prop)(h:gG w S b nd)(hr:gD nd.pairs)(hn:nd.pairs.length<=1000000):
  Calls Tryz.prog 113 #[.pointer (some ⟨b,0,none⟩),.string key] w fun e w'=>e= .returned (.tuple #[.int .i64 (cO nd.pairs key),.bool (pz nd.pairs key)])/\Below w.heap.size w w':=by
 obtain⟨hSb,v0,v1,v2,hb,h0,hk,h2⟩:=h
 obtain⟨c0,c1,c2,_,_,_,hlt⟩:=cells3 hb
 go_enter Tryz.func113,Tryz.ntmps113
 go_wp2_with (go_at_call 155;refine(I9 _ nd.pairs _ _ S h0 hr hn).mono ?_;rintro e w1 ⟨rfl,hb1⟩)
 go_ret2
 exact⟨rfl,hb1⟩
theorem oL (w:World):Calls Tryz.prog 151 #[.int .i64 0] w fun e w'=>e= .returned (.tuple #[])/\w=w':=by
 go_enter Tryz.func151,Tryz.ntmps151
 go_wp2
 go_end0
 exact⟨rfl,rfl⟩
def brk (e:Int):List PanicEntry:=[{v:= .iface 250 (.agg #[.int .i64 e]),recovered:=false}]
theorem PN (e:Int)(he:(e==0)=false)(w:World):Calls Tryz.prog 151 #[.int .i64 e] w fun e' w'=>e'= .panicked (brk e)/\w=w':=by
 have he2:(e !=0)=true:=by simp only[bne,he];rfl
 go_enter Tryz.func151,Tryz.ntmps151
 go_wp2
 exact⟨rfl,rfl,rfl⟩
def leastOf (nd:Nd)(told:ByteArray):ByteArray:=match nd.kids with|[]=>(nd.pairs.headD (⟨#[]⟩,⟨#[]⟩)).1|_=>told
theorem wO (b:Nat)(nd:Nd)(told:ByteArray)(w:World)(S:Nat->Prop)(h:gG w S b nd)(hne:nd.kids=[]->nd.pairs≠[]):
  Calls Tryz.prog 180 #[.pointer (some ⟨b,0,none⟩),.string told] w fun e w'=>e= .returned (.string (leastOf nd told))/\w=w':=by
 have hN:=h
 obtain⟨hSb,v0,v1,v2,hb,h0,hk,h2⟩:=h
 obtain⟨c0,c1,c2,_,_,_,hlt⟩:=cells3 hb
 cases hk:nd.kids with
 |nil=>
  have hp:=hne hk
  have hl:0<nd.pairs.length:=dx.2 hp
  obtain⟨ao0,cp0,rfl,n0,m0,_,_⟩:=aX.form h0
  obtain⟨b',o',rfl,d1,d2⟩:=h0.at rfl 0 hl
  have hle:leastOf nd told=nd.pairs[0].1:=by
   unfold leastOf;rw[hk]
   show (nd.pairs.headD _).1=_
   have:∀(l:List Pr) (h:0<l.length),l.headD (⟨#[]⟩,⟨#[]⟩)=l[0]:=fun l h=>by
    cases l with
    |nil=>simp at h
    |cons=>rfl
   rw[this]
  have hleaf:nd.kids.isEmpty=true:=by rw[hk];rfl
  have Hle:=ah hle
  have Hk:=ah hk
  have d1':w.cell? ⟨b',o',none⟩=some (.string nd.pairs[0].1):=by simpa using d1
  have hl':(0:Int)<(nd.pairs.length:Int):=by omega
  clear hle hk hne d1 d2
  go_enter Tryz.func180,Tryz.ntmps180
  go_wp2_with (go_at_call 121;refine(jQ b nd _ S hN).mono ?_;rw[hleaf];rintro e w1 ⟨rfl,rfl⟩)
  go_ret
  exact⟨by rw[Hle.out];rfl,rfl⟩
 |cons k ks=>
  have hle:leastOf nd told=told:=by unfold leastOf;rw[hk]
  have hleaf:nd.kids.isEmpty=false:=by rw[hk];rfl
  have Hle:=ah hle
  have Hk:=ah hk
  clear hle hk hne
  go_enter Tryz.func180,Tryz.ntmps180
  go_wp2_with (go_at_call 121;refine(jQ b nd _ S hN).mono ?_;rw[hleaf];rintro e w1 ⟨rfl,rfl⟩)
  go_ret
  exact⟨by rw[Hle.out];rfl,rfl⟩
def IsCut (w:World)(S:Nat->Prop)(B b:Nat)(l:List UInt8):Prop:=¬S b/\B<=b/\∃v,w.heap[b]? =some (.cells #[v,.bool false] 276 (0,0))/\gy w S v l/\∀g,v.ownBlock=some g->g<B
theorem IsCut.keep {w w':World}{S:Nat->Prop}{B b:Nat}{l:List UInt8}(h:IsCut w S B b l)(hb:w'.heap[b]? =w.heap[b]?)(hlo:∀g,g<B->w'.heap[g]? =w.heap[g]?):IsCut w' S B b l:=by
 obtain⟨h1,h2,v,h3,h4,h5⟩:=h
 exact⟨h1,h2,v,hb.trans h3,aX.keep h4 fun g hg _ hs=>⟨hlo g (h5 g hg),hs⟩,h5⟩
theorem Qx {w:World}{b t:Nat}{v0 v1:Value}(h:w.heap[b]? =some (.cells #[v0,v1] t (0,0))):
  w.cell? ⟨b,0,none⟩=some v0/\w.cell? ⟨b,1,none⟩=some v1/\w.frozen? ⟨b,0,none⟩=false/\w.frozen? ⟨b,1,none⟩=false/\b<w.heap.size:=by
 refine⟨?_,?_,?_,?_,(aj.1 h).1⟩<;>simp[World.cell?,World.frozen?,h]
theorem gy.str {P:Program}{w:World}{S:Nat->Prop}{v:Value}(s:ByteArray)(h:gy w S v s.data.toList)(src dst e:TypeId)(hs:P.underlying src=some (.slice e))(he:P.underlying e=some (.int .u8))(hd:P.underlying dst=some .string):
  (convert src dst v).run P w= .ok (.string s) w:=by
 have hh:=h
 obtain⟨ao,c,rfl,_,_,h3,h4,h5,h6⟩:=h
 cases ao with
 |none=>
  have h0:=(h4 rfl).1
  rw[run_convert_bytes_nil w src e hs he _ _ dst hd]
  have:s=ByteArray.empty:=by
   cases s with
   |mk d=>
    have:d=#[]:=Array.eq_empty_of_size_eq_zero (by simpa using h0)
    rw[this];rfl
  rw[this]
 |some ad=>
  obtain⟨b,o,sp⟩:=ad
  obtain rfl:sp=none:=(h5 _ rfl).1
  have:=run_convert_bytes_back (P:=P) w src dst e ⟨b,o,none⟩ c s.data.toList hs he hd (fun j hj=>by
   obtain⟨b',o',e',hc⟩:=hh.at rfl j hj
   cases e'
   rw[dY];exact hc)
  rw[this]
theorem RZ (B b:Nat)(l:List UInt8)(n:Nat)(w:World)(S:Nat->Prop)(h:IsCut w S B b l)(hn:n<=l.length):
  Calls Tryz.prog 171 #[.pointer (some ⟨b,0,none⟩),.int .i64 n] w fun e w'=>∃v,e= .returned v/\gy w' S v (l.take n)/\IsCut w' S B b (l.drop n)/\Keep (· =b) w w'/\(∀g,v.ownBlock=some g->g<B)/\w'.heap.size=w.heap.size:=by
 obtain⟨hS,hBb,v,hb,hl0,hvb⟩:=h
 obtain⟨c0,c1,f0,f1,hlt⟩:=Qx hb
 have hB:=hl0
 obtain⟨ao,c,rfl,g1,g2,g3,g4⟩:=aX.form hl0
 have k0:(0:Int)<=(n:Int):=by omega
 have k1:(n:Int)<=(c:Int):=by omega
 have k2:(n:Int)<=(l.length:Int):=by omega
 have t1:=aX.upto hB n hn
 have t2:=aX.after hB n hn
 have hk:∀v,Keep (· =b) w (w.setCell ⟨b,0,none⟩ v):=fun v=>Keep.setCell (M:=(· =b)) (p:=⟨b,0,none⟩) (Keep.refl _ w) (.inr rfl) v
 have hblk:∀v,(w.setCell ⟨b,0,none⟩ v).heap[b]? =some (.cells #[v,.bool false] 276 (0,0)):=fun v=>by
  simp[World.setCell,bn,hb]
 have kp:∀(v':Value) (v:Value) (m:Nat) (xs:List Value),aX w S 1 v m xs->v.ownBlock≠some b->aX (w.setCell ⟨b,0,none⟩ v') S 1 v m xs:=fun v' v m xs h hne=>
  h.keep fun g hg hl hs=>⟨(hk v').block g hl (fun e=>hne (by rw[hg,e])),hs⟩
 have b1:∀g,(Value.slice ao n c).ownBlock=some g->g<B:=by cases ao<;>exact hvb
 have b2:∀g,(Value.slice (if c=n then ao else ao.map fun x=>x.add (n*1)) (l.length - n) (c - n)).ownBlock=some g->g<B:=by
  cases ao with
  |none=>split<;>simp[Value.ownBlock]
  |some ad=>
   have hb1:ad.block<B:=hvb _ rfl
   split
   ·exact fun g e=>by injection e with e;omega
   ·intro g e
    simp only[Value.ownBlock,iB,Ta] at e
    unfold Addr.add at e;split at e<;>(first|omega|(simp only at e;omega))
 have e1:(aI l).take (n*1)=aI (l.take n):=by simp[aI,gB]
 have e2:(aI l).drop (n*1)=aI (l.drop n):=by simp[aI,fO]
 rw[e1] at t1
 rw[e2] at t2
 have u1:∀v',gy (w.setCell ⟨b,0,none⟩ v') S (.slice ao n c) (l.take n):=fun v'=>by
  unfold gy;rw[aH,bI hn];exact kp v' _ _ _ t1 (fun e=>absurd (b1 _ e) (bq.2 hBb))
 have u2:∀v',gy (w.setCell ⟨b,0,none⟩ v') S (.slice (if c=n then ao else ao.map fun x=>x.add (n*1)) (l.length - n) (c - n)) (l.drop n):=fun v'=>by
  unfold gy;rw[aN];exact kp v' _ _ _ t2 (fun e=>absurd (b2 _ e) (bq.2 hBb))
 have U1:=ah u1
 have U2:=ah u2
 have Hk:=ah hk
 have Hb:=ah hblk
 have B1:=ah b1
 have B2:=ah b2
 clear u1 u2 hk hblk b1 b2 kp t1 t2 e1 e2 hB hl0 hvb
 by_cases hcn:c=n
 ·subst hcn
  go_enter Tryz.func171,Tryz.ntmps171
  go_wp2
  go_ret
  have q2:=U2.out (.slice ao (l.length - c) (c - c))
  have q3:=B2.out
  simp only[iI,show l.length - c=0 by omega,uD] at q2 q3
  exact⟨_,rfl,U1.out _,⟨hS,hBb,_,Hb.out _,q2,q3⟩,Hk.out _,B1.out,by simp⟩
 ·go_enter Tryz.func171,Tryz.ntmps171
  go_wp2
  go_ret
  have q2:=U2.out (.slice (ao.map fun x=>x.add n) (l.length - n) (c - n))
  have q3:=B2.out
  rw[if_neg hcn,aU] at q2 q3
  exact⟨_,rfl,U1.out _,⟨hS,hBb,_,Hb.out _,q2,q3⟩,Hk.out _,B1.out,by simp⟩
theorem tT (B b:Nat)(l:List UInt8)(n:Nat)(m:Int)(hm:m=(n:Int))(w:World)(S:Nat->Prop)(h:IsCut w S B b l)(hn:n<=l.length):
  Calls Tryz.prog 171 #[.pointer (some ⟨b,0,none⟩),.int .i64 m] w fun e w'=>∃v,e= .returned v/\gy w' S v (l.take n)/\IsCut w' S B b (l.drop n)/\Keep (· =b) w w'/\(∀g,v.ownBlock=some g->g<B)/\w'.heap.size=w.heap.size:=by
 subst hm;exact RZ B b l n w S h hn
end Go.Proofs.YtogbkgmlhhahdaaGreat
