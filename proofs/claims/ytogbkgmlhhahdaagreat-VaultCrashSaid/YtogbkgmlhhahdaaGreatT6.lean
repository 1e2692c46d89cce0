--
import Derived.Test.YtogbkgmlhhahdaaGreatT5
import Derived.Lib.Bytealg
import GoSem.Op.String
import Derived.Deep.QuietTactic
import Derived.BigQuiet
set_option maxRecDepth 100000
set_option maxHeartbeats 0
set_option linter.all false
namespace Go.Proofs.YtogbkgmlhhahdaaGreat
open Go.RowKit
variable{a b c:ByteArray}{w:World}
structure Lg where
 frm:Nat
 n:Nat
 start:Nat
 used:Nat
 list:List (Nat×Nat)
 last:Nat
 synced:Nat
 dead:Bool
def leB (x:Nat):Nat->List UInt8
 |0=>[]
 |k+1=>b8 x::leB (x/256) k
def bW (x:Nat):∀k,(leB x k).length=k
 |0=>rfl
 |k+1=>by rw[leB,bn,bW]
def tH:List UInt8->Nat
 |[]=>0
 |b::l=>b.toNat+256*tH l
def qy:∀(k x:Nat),x<256^k->tH (leB x k)=x
 |0,x,h=>by simp at h;rw[h];rfl
 |k+1,x,h=>by
  have b:x/256<256^k:=by rw[Ar] at h;omega
  have a:(b8 x).toNat=x%256:=by simp[b8]
  rw[leB,tH,qy k _ b,a]
  omega
def magic:List UInt8:=[100,111,99,107,101,116,32,108,111,103,32,49]
def Lg.first (l:Lg):Nat:=match l.list with|[]=>l.last+1|e::_=>e.1
def Lg.mK (l:Lg):List UInt8:=magic++leB l.frm 8++leB l.n 8++leB l.start 8++leB l.first 8++leB l.synced 8
def yL (l:List UInt8):Nat:=(uV l).toNat
def uU (l:List UInt8):uV l=(yL l:Int):=by have:=Ab l;unfold yL;omega
def zq (l:List UInt8):yL l<4294967296:=by have:=Ab l;unfold yL;omega
def Lg.fJ (l:Lg):List UInt8:=l.mK++leB (yL l.mK) 4
def Lg.pM (l:Lg):l.mK.length=52:=by unfold Lg.mK;simp[bW,magic]
def Lg.zP (l:Lg):l.fJ.length=56:=by unfold Lg.fJ;rw[ay,l.pM,bW]
def Lg.dies (l:Lg):Lg:={l with dead:=true}
def Lg.mark (d:Dk)(l:Lg):Dk×Lg×Int:=
 if (d.write l.frm l.fJ).2=0 then
  if (d.write l.frm l.fJ).1.sync.2=0 then((d.write l.frm l.fJ).1.sync.1,l,0) else((d.write l.frm l.fJ).1.sync.1,l.dies,10)
 else((d.write l.frm l.fJ).1,l.dies,10)
def Lg.room (l:Lg):Nat:=l.n - 1 - l.used
def Lg.ring (l:Lg)(at_:Nat):Nat:=l.frm+1+at_%(l.n - 1)
def dS (bH:List (List UInt8)):Nat:=(16+(bH.map fun r=>4+r.length).sum+511)/512
def iU (bH:List (List UInt8)):List UInt8:=bH.flatMap fun r=>leB r.length 4++r
def iW (k:Nat)(bH:List (List UInt8)):List UInt8:=leB (16+(iU bH).length) 4++leB k 8++leB (yL (iU bH)) 4++iU bH
def mD (a:List (List UInt8)):(iU a).length=(a.map fun r=>4+r.length).sum:=by
 unfold iU;rw[List.length_flatMap];simp[bW]
def tK (k:Nat)(a:List (List UInt8)):(iW k a).length=16+(a.map fun r=>4+r.length).sum:=by
 simp only[iW,ay,bW,mD]
def Lg.rF (l:Lg)(b:List UInt8):Nat->Nat->Dk->Dk×Int
 |0,_,d=>(d,0)
 |k+1,i,d=>
  if (d.write (l.ring (l.start+l.used+i)) ((b.drop (i*512)).take 512)).2=0 then l.rF b k (i+1) (d.write (l.ring (l.start+l.used+i)) ((b.drop (i*512)).take 512)).1
  else((d.write (l.ring (l.start+l.used+i)) ((b.drop (i*512)).take 512)).1,10)
def Lg.bad (l:Lg)(bH:List (List UInt8)):Int:=
 if l.dead then 10 else if bH.length=0\/1024<bH.length then 1 else if bH.any (fun r=>decide (600<r.length)) then 1 else if l.room<dS bH then 12 else 0
def Lg.more (l:Lg)(bH:List (List UInt8)):Lg:={l with last:=l.last+1,used:=l.used+dS bH,list:=l.list++[(l.last+1,dS bH)]}
def Lg.append (d:Dk)(l:Lg)(bH:List (List UInt8)):Dk×Lg×Nat×Int:=
 if l.bad bH≠0 then(d,l,0,l.bad bH) else
 if (l.rF (iW (l.last+1) bH) (dS bH) 0 d).2=0 then((l.rF (iW (l.last+1) bH) (dS bH) 0 d).1,l.more bH,l.last+1,0)
 else((l.rF (iW (l.last+1) bH) (dS bH) 0 d).1,l.dies,0,10)
def Lg.all (l:Lg):Lg:={l with synced:=l.last}
def Lg.sync (d:Dk)(l:Lg):Dk×Lg×Int:=
 if l.dead then(d,l,10) else
 if d.sync.2=0 then
  if (l.all.mark d.sync.1).2.2=0 then l.all.mark d.sync.1 else((l.all.mark d.sync.1).1,l.dies,10)
 else(d.sync.1,l.dies,10)
def Lg.sF (upto:Nat):List (Nat×Nat)->Nat->Nat->Nat->List (Nat×Nat)×Nat×Nat
 |[],_,s,u=>([],s,u)
 |e::r,m,s,u=>if e.1<=upto then Lg.sF upto r m ((s+e.2)%m) (u - e.2) else(e::r,s,u)
def Lg.cut (l:Lg)(upto:Nat):Lg:={l with list:=(Lg.sF upto l.list (l.n - 1) l.start l.used).1,start:=(Lg.sF upto l.list (l.n - 1) l.start l.used).2.1,used:=(Lg.sF upto l.list (l.n - 1) l.start l.used).2.2}
def Lg.trim (d:Dk)(l:Lg)(upto:Nat):Dk×Lg×Int:=
 if l.dead then(d,l,10) else if l.synced<upto then(d,l,1) else
 if ((l.cut upto).mark d).2.2=0 then(l.cut upto).mark d else(((l.cut upto).mark d).1,l.dies,10)
end Go.Proofs.YtogbkgmlhhahdaaGreat
namespace Go.Proofs.YtogbkgmlhhahdaaGreat
variable{a b c:ByteArray}{w:World}
def lt (a b:ByteArray):Bool:=Op.bytesLess a.toList b.toList
def FK:∀l:List UInt8,Op.bytesLess l l=false
 |[]=>rfl
 |a::l=>by simp[Op.bytesLess,FK l]
def J7:∀a b c:List UInt8,Op.bytesLess a b=true->Op.bytesLess b c=true->Op.bytesLess a c=true
 |_,[],_=>by simp[Op.bytesLess]
 |_,_::_,[]=>by simp[Op.bytesLess]
 |[],_::_,_::_=>by simp[Op.bytesLess]
 |x::a,y::b,z::c=>by
  have ih:=J7 a b c
  simp only[Op.bytesLess,tO,dG,eB,qQ]
  rintro(h|⟨rfl,h⟩) (k|⟨rfl,k⟩)
  ·exact .inl (UInt8.lt_trans h k)
  ·exact .inl h
  ·exact .inl k
  ·exact .inr ⟨rfl,ih h k⟩
def J8:∀a b:List UInt8,Op.bytesLess a b=false->Op.bytesLess b a=false->a=b
 |[],[]=>fun _ _=>rfl
 |[],_::_=>by simp[Op.bytesLess]
 |_::_,[]=>by simp[Op.bytesLess]
 |x::a,y::b=>by
  have ih:=J8 a b
  simp only[Op.bytesLess,Bool.or_eq_false_iff,Bool.and_eq_false_iff,FO,fM]
  rintro⟨g,f⟩ ⟨c,d⟩
  have e:x=y:=by
   apply Ko.1;rw[UInt8.lt_iff_toNat_lt] at g c;omega
  subst e;rw[ih (by simpa using f) (by simpa using d)]
def toList_eq (a:ByteArray):a.toList=a.data.toList:=ByteArray.toList_eq a
def toList_inj {a b:ByteArray}(h:a.toList=b.toList):a=b:=by
 rw[toList_eq,toList_eq] at h;cases a;cases b;congr;exact Array.ext' h
def lt_irrefl (a:ByteArray):lt a a=false:=FK _
def lt_trans {a b c:ByteArray}(h:lt a b=true)(k:lt b c=true):lt a c=true:=J7 _ _ _ h k
def wu (h:lt a b=false)(k:lt b a=false):a=b:=toList_inj (J8 _ _ h k)
def lt_asymm (h:lt a b=true):lt b a=false:=by
 cases c:lt b a with
 |false=>rfl
 |true=>have:=lt_trans h c;rw[lt_irrefl] at this;cases this
def Nb (h:lt a b=true):a≠b:=by rintro rfl;rw[lt_irrefl] at h;cases h
def Ul (h:lt b a=false)(k:lt b c=true):lt a c=true:=by
 cases d:lt a b with
 |true=>exact lt_trans d k
 |false=>rw[wu d h];exact k
def Du (h:lt a b=true)(k:lt c b=false):lt a c=true:=by
 cases d:lt b c with
 |true=>exact lt_trans h d
 |false=>rw[<-wu d k];exact h
def Um (h:lt b a=false)(k:lt c b=false):lt c a=false:=by
 cases d:lt c a with
 |false=>rfl
 |true=>have:=Du d h;rw[k] at this;cases this
theorem A8:∀a b:List UInt8,(Lib.compareBytes a b<0↔Op.bytesLess a b=true)/\(Lib.compareBytes a b=0↔a=b)
 |[],[]=>by simp[Lib.compareBytes,Op.bytesLess]
 |[],_::_=>by simp[Lib.compareBytes,Op.bytesLess]
 |_::_,[]=>by simp[Lib.compareBytes,Op.bytesLess]
 |x::a,y::b=>by
  have ih:=A8 a b
  unfold Lib.compareBytes Op.bytesLess
  by_cases d:x<y
  ·have c:x≠y:=by rintro rfl;exact absurd d (UInt8.lt_irrefl _)
   simp[d,c]
  ·rw[if_neg d]
   by_cases f:y<x
   ·rw[if_pos f]
    have c:x≠y:=by rintro rfl;exact UInt8.lt_irrefl _ f
    simp[d,c]
   ·rw[if_neg f]
    have e:x=y:=by
     apply Ko.1;rw[UInt8.lt_iff_toNat_lt] at d f;omega
    subst e;simp[UInt8.lt_irrefl,ih]
def A9 (a b:ByteArray):Int:=Lib.compareBytes a.data.toList b.data.toList
def JX (a b:ByteArray):A9 a b<0↔lt a b=true:=by
 unfold A9 lt;rw[toList_eq,toList_eq];exact(A8 _ _).1
def O6 (a b:ByteArray):A9 a b=0↔a=b:=by
 unfold A9;rw[(A8 _ _).2];exact⟨fun h=>toList_inj (by rw[toList_eq,toList_eq];exact h),fun h=>by rw[h]⟩
def Rp (a b:ByteArray):(!Op.bytesLess a.toList b.toList && !(a.toList==b.toList))=lt b a:=by
 show (!lt a b && !(a.toList==b.toList))=lt b a;cases h:lt b a with
 |true=>
  rw[lt_asymm h];have:(a.toList==b.toList)=false:=by rw[fM];intro e;exact Nb h (toList_inj e.symm)
  rw[this];rfl
 |false=>
  cases c:lt a b with
  |true=>rfl
  |false=>rw[wu c h];simp
def jk (keys:List ByteArray)(key:ByteArray):Nat:=(keys.takeWhile fun k=> !lt key k).length
def wW (keys:List ByteArray):Prop:=keys.Pairwise fun a b=>lt a b=true
def Dw (a:List ByteArray)(b:ByteArray):jk a b<=a.length:=by
 unfold jk;exact(List.takeWhile_sublist _).length_le
theorem Bw (b:ByteArray):∀(a:List ByteArray),wW a->
  (∀i (h:i<a.length),i<jk a b->lt b a[i]=false)/\(∀i (h:i<a.length),jk a b<=i->lt b a[i]=true)
 |[],_=>⟨fun i h=>absurd h (by simp),fun i h=>absurd h (by simp)⟩
 |k::a,f=>by
  have d:=fU.1 f
  have ih:=Bw b a d.2
  cases c:lt b k with
  |true=>
   have e:jk (k::a) b=0:=by simp[jk,c]
   rw[e]
   refine⟨fun i _ h=>absurd h (by omega),fun i h _=> ?_⟩
   cases i with
   |zero=>exact c
   |succ i=>exact lt_trans c (d.1 _ (bF (by simpa using h)))
  |false=>
   have e:jk (k::a) b=jk a b+1:=by simp[jk,c]
   rw[e]
   refine⟨fun i h g=> ?_,fun i h g=> ?_⟩
   ·cases i with
    |zero=>exact c
    |succ i=>exact ih.1 i (by simpa using h) (by omega)
   ·cases i with
    |zero=>omega
    |succ i=>exact ih.2 i (by simpa using h) (by omega)
def bX (ps:List (ByteArray×ByteArray))(key:ByteArray):Nat:=(ps.takeWhile fun p=>lt p.1 key).length
def fG (ps:List (ByteArray×ByteArray)):Prop:=ps.Pairwise fun a b=>lt a.1 b.1=true
def nK (b:List (ByteArray×ByteArray))(a:ByteArray):bX b a<=b.length:=by
 unfold bX;exact(List.takeWhile_sublist _).length_le
theorem lX (a:ByteArray):∀(b:List (ByteArray×ByteArray)),fG b->
  (∀i (h:i<b.length),i<bX b a->lt b[i].1 a=true)/\(∀i (h:i<b.length),bX b a<=i->lt b[i].1 a=false)
 |[],_=>⟨fun i h=>absurd h (by simp),fun i h=>absurd h (by simp)⟩
 |k::b,g=>by
  have d:=fU.1 g
  have ih:=lX a b d.2
  cases c:lt k.1 a with
  |false=>
   have e:bX (k::b) a=0:=by simp[bX,c]
   rw[e]
   refine⟨fun i _ h=>absurd h (by omega),fun i h _=> ?_⟩
   cases i with
   |zero=>exact c
   |succ i=>
    cases f:lt (k::b)[i+1].1 a with
    |false=>rfl
    |true=>have:=lt_trans (d.1 _ (bF (by simpa using h))) f;rw[c] at this;cases this
  |true=>
   have e:bX (k::b) a=bX b a+1:=by simp[bX,c]
   rw[e]
   refine⟨fun i h j=> ?_,fun i h j=> ?_⟩
   ·cases i with
    |zero=>exact c
    |succ i=>exact ih.1 i (by simpa using h) (by omega)
   ·cases i with
    |zero=>omega
    |succ i=>exact ih.2 i (by simpa using h) (by omega)
def pU (ps:List (ByteArray×ByteArray))(key:ByteArray):Bool:=match ps[bX ps key]? with|some p=>decide (p.1=key)|none=>false
end Go.Proofs.YtogbkgmlhhahdaaGreat
namespace Go.Proofs.YtogbkgmlhhahdaaGreat
open Go.RowKit
variable{a b c:ByteArray}{w:World}
theorem EI (a b:ByteArray)(w:World):Calls Tryz.prog 189 #[.string a,.string b] w fun e c=>e= .returned (.int .i64 (A9 a b))/\w=c:=by
 have d:∀w,(callFunc 211 #[.string a,.string b]).run Tryz.prog w= .ok (.value (.int .i64 (A9 a b))) w:=fun w=>by
  rw[BM Tryz.func211 (by kernel_rfl) (by kernel_rfl) (by kernel_rfl) (e:=Extern.BytealgCompare.compare) (by kernel_rfl),Lib.run_compareString];rfl
 go_enter Tryz.func189,Tryz.ntmps189
 go_wp2
 go_ret;exact⟨rfl,rfl⟩
theorem JS (a b:ByteArray)(w:World):Calls Tryz.prog 157 #[.string a,.string b] w fun e c=>e= .returned (.int .i64 (A9 a b))/\w=c:=by
 go_enter Tryz.func157,Tryz.ntmps157;go_wp2_with (go_at_call 189;refine(EI _ _ _).mono ?_;rintro e c ⟨rfl,rfl⟩);go_ret;exact⟨rfl,rfl⟩
theorem AY (k v a:ByteArray)(w:World):Calls Tryz.prog 156 #[.agg #[.string k,.string v],.string a] w fun e b=>e= .returned (.int .i64 (A9 k a))/\Below w.heap.size w b:=by
 go_enter Tryz.func156,Tryz.ntmps156;go_wp2_with (go_at_call 157;refine(JS _ _ _).mono ?_;rintro e b ⟨rfl,rfl⟩);go_ret;exact⟨rfl,aN _ _⟩
theorem KX (n:Nat)(g:Nat)(B:Array Value)(p:Nat->Bool)(w:World)(O:n<=1000000)(A:∀f w,(callFunc g f).run Tryz.prog w= .ok (.enter g f) w)
  (y:∀W,Below w.heap.size w W->∀i,i<n->Calls Tryz.prog g (#[.int .i64 (i:Int)]++B) W fun e t=>e= .returned (.bool (p i))/\Below w.heap.size W t)
  (m:Nat) (N:m<=n) (l:∀i,i<m->p i=false) (k:∀i,m<=i->i<n->p i=true):
  Calls Tryz.prog 162 #[.int .i64 n,.func (.func g) #[] B] w fun e t=>e= .returned (.int .i64 m)/\Below w.heap.size w t:=by
 go_enter Tryz.func162,Tryz.ntmps162
 go_wp2
 go_loopw [5,6] (fun a b wr=>∃i j:Nat,a= .int .i64 i/\b= .int .i64 j/\i<=m/\m<=j/\j<=n/\Below w.heap.size w wr) (fun a b _=>((intOf b) - (intOf a)).toNat)
 case atStart=>exact⟨0,n,rfl,rfl,aS _,N,aD _,aR _ _⟩
 case round=>
  obtain⟨i,j,rfl,rfl,I,G,J,c⟩:=hrel
  by_cases H:i<j
  ·obtain⟨d,D⟩:=nx ((i+j)/2)
   have q:((i:Int)+(j:Int))/2=(d:Int):=(by omega);have K:i<=d:=(by omega);have E:d<j:=(by omega);have C:=ah (y wr c d (by omega));have M:m<=d\/d<m:=gH d m|>.symm
   have v:=ah l;have z:=ah k;clear y l k D;have s:=ah q;clear q
   by_cases r:m<=d
   ·have x:=ah (z.out d r (by omega))
    go_wp2_with (first|(rw[s.out];refine C.out.mono ?_;rw[x.out];rintro e F ⟨rfl,o⟩));go_roundw
    case rel=>exact⟨i,d,rfl,rfl,by omega,r,by omega,c.trans o⟩
    case measure=>simp[intOf];omega
   ·have x:=ah (v.out d (by omega))
    go_wp2_with (first|(rw[s.out];refine C.out.mono ?_;rw[x.out];rintro e F ⟨rfl,o⟩));go_roundw
    case rel=>exact⟨d+1,j,by go_num,rfl,by omega,by omega,by omega,c.trans o⟩
    case measure=>simp[intOf];omega
  ·obtain rfl:i=m:=by omega
   obtain rfl:j=i:=(by omega);clear y l k
   go_wp2
   go_ret;exact⟨rfl,c⟩
theorem Ra (f g b:Nat)(c:Nd)(a:ByteArray)(w:World)(S:Nat->Prop)(h:gN w S b c)(t:w.cell? ⟨f,0,none⟩=some (.pointer (some ⟨b,0,none⟩)))(q:w.cell? ⟨g,0,none⟩=some (.string a))(i:Nat)(o:i<c.keys.length):
  Calls Tryz.prog 163 #[.int .i64 i,.pointer (some ⟨f,0,none⟩),.pointer (some ⟨g,0,none⟩)] w fun e k=>e= .returned (.bool (lt a c.keys[i]))/\Below w.heap.size w k:=by
 obtain⟨_,G,v,B,l,_,d,_⟩:=h;obtain⟨y,z,A,_,_,_,j⟩:=cells3 l;obtain⟨m,n,rfl,F,C,_,_⟩:=aZ.form d;obtain⟨r,D,rfl,s⟩:=d.at rfl i o;have p:(0:Int)<=(i:Int):=by omega
 have E:(i:Int)<(c.keys.length:Int):=by omega
 go_enter Tryz.func163,Tryz.ntmps163
 go_wp2
 go_quiet (fail)
 go_wp2
 go_ret;exact⟨congrArg (fun x=>Ending.returned (Value.bool x)) (Rp _ _),Sv (aR _ _) _⟩
def Jl (a:Array Value)(w:World):(callFunc 163 a).run Tryz.prog w= .ok (.enter 163 a) w:=by
 kernel_rfl
theorem GH (b:Nat)(c:Nd)(a:ByteArray)(w:World)(S:Nat->Prop)(h:gN w S b c)(D:wW c.keys)(F:c.keys.length<=1000000):
  Calls Tryz.prog 122 #[.pointer (some ⟨b,0,none⟩),.string a] w fun e m=>e= .returned (.int .i64 (jk c.keys a))/\Below w.heap.size w m:=by
 have s:=h;obtain⟨B,T,K,P,g,J,x,I⟩:=h;obtain⟨M,N,O,_,_,_,t⟩:=cells3 g;obtain⟨y,z,rfl,R,Q,_,_⟩:=aZ.form x;have v:∀(o:Fn) (first cap:Array Value) (w:World),(Instr.makeFunc o first cap).run Tryz.prog w= .ok (.func o first cap) w:=fun _ _ _ _=>rfl
 obtain⟨n,q⟩:=Bw a c.keys D;have r:=KX c.keys.length 163 #[.pointer (some ⟨w.heap.size,0,none⟩),.pointer (some ⟨w.heap.size+1,0,none⟩)] (fun i=>if h:i<c.keys.length then lt a c.keys[i] else true)
  ((w.alloc (.cells #[.pointer (some ⟨b,0,none⟩)] 161)).alloc (.cells #[.string a] 9)) F Jl
  (fun W f i d=>by
   have j:Below w.heap.size w W:=(gK w _ _).trans (f.mono (by simp;omega))
   have l:gN W S b c:=s.below j
   have A:=(f.cell (p:=⟨w.heap.size,0,none⟩) (by simp;omega)).trans (by rw[yF _ _ _ (by simp),qL])
   have G:=(f.cell (p:=⟨w.heap.size+1,0,none⟩) (by simp)).trans (by rw[show w.heap.size+1=(w.alloc (.cells #[.pointer (some ⟨b,0,none⟩)] 161)).heap.size by simp,qL])
   refine(Ra w.heap.size (w.heap.size+1) b c a W S l A G i d).mono ?_
   rintro e m ⟨rfl,g⟩
   exact⟨by simp[d],g.mono f.size⟩)
  (jk c.keys a) (Dw _ _) (fun i d=>by have:=Dw c.keys a;simp only[dif_pos (show i<c.keys.length by omega)];exact n i _ d) (fun i d C=>by simp only[dif_pos C];exact q i _ d)
 have E:=ah r;clear r n q s;go_enter Tryz.func122,Tryz.ntmps122;go_wp2_with (go_at_call 162;refine E.out.mono ?_;rintro e H ⟨rfl,k⟩);go_ret;exact⟨rfl,(gK w _ _).trans (k.mono (by simp;omega))⟩
theorem J3 (v:Value)(k:List (ByteArray×ByteArray))(f:ByteArray)(w:World)(S:Nat->Prop)(h:jo w S v k)(Y:fG k)(hn:k.length<=1000000):
  Calls Tryz.prog 155 #[v,.string f,.func (.func 156) #[] #[]] w fun e N=>e= .returned (.tuple #[.int .i64 (bX k f),.bool (pU k f)])/\Below w.heap.size w N:=by
 have I:=h;obtain⟨Z,c,rfl,n1,m1,_,_⟩:=aZ.form h;obtain⟨G,H⟩:=lX f k Y;have C:=nK k f;have X:=ah G;clear G;have P:=ah H;clear H;go_enter Tryz.func155,Tryz.ntmps155
 go_wp2
 go_loopw [9,10] (fun a b wr=>∃i j:Nat,a= .int .i64 i/\b= .int .i64 j/\i<=bX k f/\bX k f<=j/\j<=k.length/\Below w.heap.size w wr) (fun a b _=>((intOf b) - (intOf a)).toNat)
 case atStart=>exact⟨0,k.length,rfl,rfl,aS _,C,aD _,aR _ _⟩
 case round=>
  obtain⟨i,j,rfl,rfl,R,O,W,g⟩:=hrel
  by_cases Q:i<j
  ·obtain⟨d,J⟩:=nx ((i+j)/2)
   have x:((i:Int)+(j:Int))/2=(d:Int):=(by omega);have V:i<=d:=(by omega);have K:d<j:=(by omega);have s:d<k.length:=(by omega);obtain⟨t,z,rfl,m,l⟩:=I.at rfl d s;have T:=(g.cell (p:=⟨t,z+d*2,none⟩) (aF w _ m)).trans m;have M:=(g.cell (p:=⟨t,z+d*2+1,none⟩) (aF w _ l)).trans l;clear J m l;have B:=ah x;clear x
   by_cases A:bX k f<=d
   ·have E:=P.out d s A
    have r:¬A9 k[d].1 f<0:=(by rw[JX,E];simp);have D:decide (A9 k[d].1 f<0)=false:=(by simpa using r);go_wp2_with (first|(rw[B.out])|(go_at_call 156;refine(AY _ _ _ _).mono ?_;rintro e F ⟨rfl,o⟩));go_roundw
    case rel=>exact⟨i,d,rfl,rfl,by omega,A,by omega,g.trans (o.mono g.size)⟩
    case measure=>simp[intOf];omega
   ·have E:=X.out d s (by omega)
    have r:A9 k[d].1 f<0:=(by rw[JX,E]);have D:decide (A9 k[d].1 f<0)=true:=(by simpa using r);go_wp2_with (first|(rw[B.out])|(go_at_call 156;refine(AY _ _ _ _).mono ?_;rintro e F ⟨rfl,o⟩));go_roundw
    case rel=>exact⟨d+1,j,by go_num,rfl,by omega,by omega,by omega,g.trans (o.mono g.size)⟩
    case measure=>simp[intOf];omega
  ·obtain rfl:i=bX k f:=by omega
   obtain rfl:j=bX k f:=by omega
   by_cases y:bX k f<k.length
   ·obtain⟨t,z,rfl,m,l⟩:=I.at rfl _ y
    have T:=(g.cell (p:=⟨t,z+bX k f*2,none⟩) (aF w _ m)).trans m;have M:=(g.cell (p:=⟨t,z+bX k f*2+1,none⟩) (aF w _ l)).trans l;have n:pU k f=(A9 k[bX k f].1 f==0):=by
     unfold pU;rw[bD y];rw[Bool.eq_iff_iff];simp[O6]
    have q:=ah n;clear n m l;go_wp2_with (first|(go_at_call 156;refine(AY _ _ _ _).mono ?_;rintro e F ⟨rfl,o⟩));go_ret2;exact⟨by rw[q.out];rfl,g.trans (o.mono g.size)⟩
   ·have n:pU k f=false:=by
     unfold pU;rw[iE (by omega)]
    have q:=ah n;clear n
    go_wp2
    go_ret2;exact⟨by rw[q.out];rfl,g⟩
theorem rT (b:Nat)(c:Nd)(a:ByteArray)(w:World)(S:Nat->Prop)(h:gN w S b c)(l:fG c.pairs)(m:c.pairs.length<=1000000):
  Calls Tryz.prog 113 #[.pointer (some ⟨b,0,none⟩),.string a] w fun e g=>e= .returned (.tuple #[.int .i64 (bX c.pairs a),.bool (pU c.pairs a)])/\Below w.heap.size w g:=by
 obtain⟨k,v,q,t,j,i,p,o⟩:=h;obtain⟨x,r,s,_,_,_,f⟩:=cells3 j;go_enter Tryz.func113,Tryz.ntmps113;go_wp2_with (go_at_call 155;refine(J3 _ c.pairs _ _ S i l m).mono ?_;rintro e n ⟨rfl,d⟩);go_ret2;exact⟨rfl,d⟩
theorem pJ (w:World):Calls Tryz.prog 151 #[.int .i64 0] w fun e a=>e= .returned (.tuple #[])/\w=a:=by
 go_enter Tryz.func151,Tryz.ntmps151
 go_wp2
 go_end0;exact⟨rfl,rfl⟩
def brk (e:Int):List PanicEntry:=[{v:= .iface 250 (.agg #[.int .i64 e]),recovered:=false}]
theorem QX (e:Int)(a:(e==0)=false)(w:World):Calls Tryz.prog 151 #[.int .i64 e] w fun d b=>d= .panicked (brk e)/\w=b:=by
 have c:(e !=0)=true:=by simp only[bne,a];rfl
 go_enter Tryz.func151,Tryz.ntmps151
 go_wp2
 exact⟨rfl,rfl,rfl⟩
def leastOf (nd:Nd)(told:ByteArray):ByteArray:=match nd.kids with|[]=>(nd.pairs.headD (⟨#[]⟩,⟨#[]⟩)).1|_=>told
theorem xR (b:Nat)(c:Nd)(a:ByteArray)(w:World)(S:Nat->Prop)(h:gN w S b c)(i:c.kids=[]->c.pairs≠[]):
  Calls Tryz.prog 180 #[.pointer (some ⟨b,0,none⟩),.string a] w fun e t=>e= .returned (.string (leastOf c a))/\w=t:=by
 have o:=h;obtain⟨z,P,I,O,x,m,g,G⟩:=h;obtain⟨Q,K,M,_,_,_,q⟩:=cells3 x;cases g:c.kids with
 |nil=>
  have A:=i g;have B:0<c.pairs.length:=dD.2 A;obtain⟨D,y,rfl,J,N,_,_⟩:=aZ.form m;obtain⟨v,E,rfl,n,p⟩:=m.at rfl 0 B;have f:leastOf c a=c.pairs[0].1:=by
   unfold leastOf;rw[g];show (c.pairs.headD _).1=_;have:∀(l:List Pr) (h:0<l.length),l.headD (⟨#[]⟩,⟨#[]⟩)=l[0]:=fun l h=>by
    cases l with
    |nil=>simp at h
    |cons=>rfl
   rw[this]
  have d:c.kids.isEmpty=true:=by rw[g];rfl
  have j:=ah f;have F:=ah g;have s:w.cell? ⟨v,E,none⟩=some (.string c.pairs[0].1):=by simpa using n
  have C:(0:Int)<(c.pairs.length:Int):=by omega
  clear f g i n p;go_enter Tryz.func180,Tryz.ntmps180;go_wp2_with (go_at_call 121;refine(ku b c _ S o).mono ?_;rw[d];rintro e r ⟨rfl,rfl⟩);go_ret;exact⟨by rw[j.out];rfl,rfl⟩
 |cons k H=>
  have f:leastOf c a=a:=by unfold leastOf;rw[g]
  have d:c.kids.isEmpty=false:=by rw[g];rfl
  have j:=ah f;have F:=ah g;clear f g i;go_enter Tryz.func180,Tryz.ntmps180;go_wp2_with (go_at_call 121;refine(ku b c _ S o).mono ?_;rw[d];rintro e r ⟨rfl,rfl⟩);go_ret;exact⟨by rw[j.out];rfl,rfl⟩
def IsCut (w:World)(S:Nat->Prop)(B b:Nat)(l:List UInt8):Prop:=¬S b/\B<=b/\∃v,w.heap[b]? =some (.cells #[v,.bool false] 276 (0,0))/\gF w S v l/\∀g,v.ownBlock=some g->g<B
def IsCut.keep {w':World}{S:Nat->Prop}{B b:Nat}{l:List UInt8}(h:IsCut w S B b l)(i:w'.heap[b]? =w.heap[b]?)(a:∀g,g<B->w'.heap[g]? =w.heap[g]?):IsCut w' S B b l:=by
 obtain⟨f,d,v,j,e,c⟩:=h;exact⟨f,d,v,i.trans j,aZ.keep e fun g m _ k=>⟨a g (c g m),k⟩,c⟩
def RO {b t:Nat}{c a:Value}(h:w.heap[b]? =some (.cells #[c,a] t (0,0))):
  w.cell? ⟨b,0,none⟩=some c/\w.cell? ⟨b,1,none⟩=some a/\w.frozen? ⟨b,0,none⟩=false/\w.frozen? ⟨b,1,none⟩=false/\b<w.heap.size:=by
 refine⟨?_,?_,?_,?_,(ai.1 h).1⟩<;>simp[World.cell?,World.frozen?,h]
theorem gF.str {P:Program}{S:Nat->Prop}{v:Value}(s:ByteArray)(h:gF w S v s.data.toList)(f a e:TypeId)(i:P.underlying f=some (.slice e))(k:P.underlying e=some (.int .u8))(g:P.underlying a=some .string):
  (convert f a v).run P w= .ok (.string s) w:=by
 have x:=h;obtain⟨n,c,rfl,_,_,B,p,q,D⟩:=h;cases n with
 |none=>
  have m:=(p rfl).1;rw[run_convert_bytes_nil w f e i k _ _ a g];have:s=ByteArray.empty:=by
   cases s with
   |mk d=>
    have:d=#[]:=Array.eq_empty_of_size_eq_zero (by simpa using m);rw[this];rfl
  rw[this]
 |some t=>
  obtain⟨b,o,l⟩:=t;obtain rfl:l=none:=(q _ rfl).1;have:=run_convert_bytes_back (P:=P) w f a e ⟨b,o,none⟩ c s.data.toList i k g (fun j y=>by
   obtain⟨A,C,r,z⟩:=x.at rfl j y
   cases r
   rw[dU];exact z)
  rw[this]
theorem TN (B b:Nat)(l:List UInt8)(n:Nat)(w:World)(S:Nat->Prop)(h:IsCut w S B b l)(G:n<=l.length):
  Calls Tryz.prog 171 #[.pointer (some ⟨b,0,none⟩),.int .i64 n] w fun e s=>∃v,e= .returned v/\gF s S v (l.take n)/\IsCut s S B b (l.drop n)/\Keep (· =b) w s/\(∀g,v.ownBlock=some g->g<B)/\s.heap.size=w.heap.size:=by
 obtain⟨R,f,v,I,j,k⟩:=h;obtain⟨c0,c1,f0,f1,W⟩:=RO I;have H:=j;obtain⟨d,c,rfl,g1,g2,g3,g4⟩:=aZ.form j;have k0:(0:Int)<=(n:Int):=by omega
 have k1:(n:Int)<=(c:Int):=by omega
 have k2:(n:Int)<=(l.length:Int):=by omega
 have D:=aZ.upto H n G;have t:=aZ.after H n G;have C:∀v,Keep (· =b) w (w.setCell ⟨b,0,none⟩ v):=fun v=>Keep.setCell (M:=(· =b)) (p:=⟨b,0,none⟩) (Keep.refl _ w) (.inr rfl) v
 have i:∀v,(w.setCell ⟨b,0,none⟩ v).heap[b]? =some (.cells #[v,.bool false] 276 (0,0)):=fun v=>by
  simp[World.setCell,aQ,I]
 have z:∀(a:Value) (v:Value) (m:Nat) (E:List Value),aZ w S 1 v m E->v.ownBlock≠some b->aZ (w.setCell ⟨b,0,none⟩ a) S 1 v m E:=fun a v m E h A=>
  h.keep fun g X Z hs=>⟨(C a).block g Z (fun e=>A (by rw[X,e])),hs⟩
 have y:∀g,(Value.slice d n c).ownBlock=some g->g<B:=by cases d<;>exact k
 have F:∀g,(Value.slice (if c=n then d else d.map fun x=>x.add (n*1)) (l.length - n) (c - n)).ownBlock=some g->g<B:=by
  cases d with
  |none=>split<;>simp[Value.ownBlock]
  |some Y=>
   have pM:Y.block<B:=k _ rfl
   split
   ·exact fun g e=>by injection e with e;omega
   ·intro g e
    simp only[Value.ownBlock,iJ,UA] at e;unfold Addr.add at e;split at e<;>(first|omega|(simp only at e;omega))
 have P:(aI l).take (n*1)=aI (l.take n):=by simp[aI,gI]
 have K:(aI l).drop (n*1)=aI (l.drop n):=by simp[aI,fT]
 rw[P] at D;rw[K] at t;have u1:∀a,gF (w.setCell ⟨b,0,none⟩ a) S (.slice d n c) (l.take n):=fun a=>by
  unfold gF;rw[aH,bK G];exact z a _ _ _ D (fun e=>absurd (y _ e) (bg.2 f))
 have u2:∀a,gF (w.setCell ⟨b,0,none⟩ a) S (.slice (if c=n then d else d.map fun x=>x.add (n*1)) (l.length - n) (c - n)) (l.drop n):=fun a=>by
  unfold gF;rw[aO];exact z a _ _ _ t (fun e=>absurd (F _ e) (bg.2 f))
 have Q:=ah u1;have N:=ah u2;have T:=ah C;have J:=ah i;have O:=ah y;have V:=ah F;clear u1 u2 C i y F z D t P K H j k
 by_cases o:c=n
 ·subst o
  go_enter Tryz.func171,Tryz.ntmps171
  go_wp2
  go_ret;have r:=N.out (.slice d (l.length - c) (c - c));have q:=V.out;simp only[iX,show l.length - c=0 by omega,ru] at r q;exact⟨_,rfl,Q.out _,⟨R,f,_,J.out _,r,q⟩,T.out _,O.out,by simp⟩
 ·go_enter Tryz.func171,Tryz.ntmps171
  go_wp2
  go_ret;have r:=N.out (.slice (d.map fun x=>x.add n) (l.length - n) (c - n));have q:=V.out;rw[if_neg o,aW] at r q;exact⟨_,rfl,Q.out _,⟨R,f,_,J.out _,r,q⟩,T.out _,O.out,by simp⟩
def uT (B b:Nat)(l:List UInt8)(n:Nat)(m:Int)(c:m=(n:Int))(w:World)(S:Nat->Prop)(h:IsCut w S B b l)(d:n<=l.length):
  Calls Tryz.prog 171 #[.pointer (some ⟨b,0,none⟩),.int .i64 m] w fun e a=>∃v,e= .returned v/\gF a S v (l.take n)/\IsCut a S B b (l.drop n)/\Keep (· =b) w a/\(∀g,v.ownBlock=some g->g<B)/\a.heap.size=w.heap.size:=by
 subst c;exact TN B b l n w S h d
