/- parts -/
import Derived.Test.YtpmbddooibgnaaaGreatDoorN1
import Derived.Test.YtpmbddooibgnaaaGreatDoorN2
import Derived.Lib.Bytealg
import GoSem.Op.String
import Derived.Deep.QuietTactic
import Derived.BigQuiet
set_option maxRecDepth 100000
set_option maxHeartbeats 8000000
set_option linter.all false
namespace Go.Proofs.YtpmbddooibgnaaaGreatDoor
def lt (a b:ByteArray):Bool:=Op.bytesLess a.toList b.toList
theorem D6:∀l:List UInt8,Op.bytesLess l l=false
 |[]=>rfl
 |a::l=>by simp[Op.bytesLess,D6 l]
theorem Ik:∀a b c:List UInt8,Op.bytesLess a b=true->Op.bytesLess b c=true->Op.bytesLess a c=true
 |_,[],_=>by simp[Op.bytesLess]
 |_,_::_,[]=>by simp[Op.bytesLess]
 |[],_::_,_::_=>by simp[Op.bytesLess]
 |x::a,y::b,z::c=>by
  have ih:=Ik a b c
  simp only[Op.bytesLess,xH,dA,dU,vZ]
  rintro(h|⟨rfl,h⟩) (k|⟨rfl,k⟩)
  ·exact .inl (UInt8.lt_trans h k)
  ·exact .inl h
  ·exact .inl k
  ·exact .inr ⟨rfl,ih h k⟩
theorem Il:∀a b:List UInt8,Op.bytesLess a b=false->Op.bytesLess b a=false->a=b
 |[],[]=>fun _ _=>rfl
 |[],_::_=>by simp[Op.bytesLess]
 |_::_,[]=>by simp[Op.bytesLess]
 |x::a,y::b=>by
  have ih:=Il a b
  simp only[Op.bytesLess,Bool.or_eq_false_iff,Bool.and_eq_false_iff,decide_eq_false_iff_not,fV]
  rintro⟨d,f⟩ ⟨c,g⟩
  have e:x=y:=by
   apply xE.1
   rw[UInt8.lt_iff_toNat_lt] at d c
   omega
  subst e
  rw[ih (by simpa using f) (by simpa using g)]
theorem toList_eq (a:ByteArray):a.toList=a.data.toList:=ByteArray.toList_eq a
theorem toList_inj {a b:ByteArray}(h:a.toList=b.toList):a=b:=by
 rw[toList_eq,toList_eq] at h
 cases a;cases b;congr;exact Fv h
theorem lt_irrefl (a:ByteArray):lt a a=false:=D6 _
theorem lt_trans {a b c:ByteArray}(h:lt a b=true)(k:lt b c=true):lt a c=true:=Ik _ _ _ h k
theorem yx {a b:ByteArray}(h:lt a b=false)(k:lt b a=false):a=b:=toList_inj (Il _ _ h k)
theorem lt_asymm {a b:ByteArray}(h:lt a b=true):lt b a=false:=by
 cases c:lt b a with
 |false=>rfl
 |true=>have:=lt_trans h c;rw[lt_irrefl] at this;cases this
theorem Xa {a b:ByteArray}(h:lt a b=true):a≠b:=by rintro rfl;rw[lt_irrefl] at h;cases h
theorem TR {a b c:ByteArray}(h:lt b a=false)(k:lt b c=true):lt a c=true:=by
 cases d:lt a b with
 |true=>exact lt_trans d k
 |false=>rw[yx d h];exact k
theorem TN {a b c:ByteArray}(h:lt a b=true)(k:lt c b=false):lt a c=true:=by
 cases d:lt b c with
 |true=>exact lt_trans h d
 |false=>rw[<-yx d k];exact h
theorem Xf {a b c:ByteArray}(h:lt b a=false)(k:lt c b=false):lt c a=false:=by
 cases d:lt c a with
 |false=>rfl
 |true=>have:=TN d h;rw[k] at this;cases this
theorem zK:∀a b:List UInt8,(Lib.compareBytes a b<0↔Op.bytesLess a b=true)/\(Lib.compareBytes a b=0↔a=b)
 |[],[]=>by simp[Lib.compareBytes,Op.bytesLess]
 |[],_::_=>by simp[Lib.compareBytes,Op.bytesLess]
 |_::_,[]=>by simp[Lib.compareBytes,Op.bytesLess]
 |x::a,y::b=>by
  have ih:=zK a b
  unfold Lib.compareBytes Op.bytesLess
  by_cases d:x<y
  ·have c:x≠y:=by rintro rfl;exact absurd d (UInt8.lt_irrefl _)
   simp[d,c]
  ·rw[if_neg d]
   by_cases f:y<x
   ·rw[if_pos f]
    have c:x≠y:=by rintro rfl;exact UInt8.lt_irrefl _ f
    simp[d,c]
   ·rw[if_neg f]
    have e:x=y:=by
     apply xE.1
     rw[UInt8.lt_iff_toNat_lt] at d f
     omega
    subst e
    simp[UInt8.lt_irrefl,ih]
def zL (a b:ByteArray):Int:=Lib.compareBytes a.data.toList b.data.toList
theorem Hu (a b:ByteArray):zL a b<0↔lt a b=true:=by
 unfold zL lt;rw[toList_eq,toList_eq];exact(zK _ _).1
theorem Nj (a b:ByteArray):zL a b=0↔a=b:=by
 unfold zL;rw[(zK _ _).2]
 exact⟨fun h=>toList_inj (by rw[toList_eq,toList_eq];exact h),fun h=>by rw[h]⟩
theorem Vy (a b:ByteArray):(!Op.bytesLess a.toList b.toList && !(a.toList==b.toList))=lt b a:=by
 show (!lt a b && !(a.toList==b.toList))=lt b a
 cases h:lt b a with
 |true=>
  rw[lt_asymm h]
  have:(a.toList==b.toList)=false:=by rw[fV];intro e;exact Xa h (toList_inj e.symm)
  rw[this];rfl
 |false=>
  cases c:lt a b with
  |true=>rfl
  |false=>rw[yx c h];simp
def jS (keys:List ByteArray)(key:ByteArray):Nat:=(keys.takeWhile fun k=> !lt key k).length
def xB (keys:List ByteArray):Prop:=keys.Pairwise fun a b=>lt a b=true
theorem BQ (a:List ByteArray)(b:ByteArray):jS a b<=a.length:=by
 unfold jS
 exact(List.takeWhile_sublist _).length_le
theorem Ab (b:ByteArray):∀(a:List ByteArray),xB a->
  (∀i (h:i<a.length),i<jS a b->lt b a[i]=false)/\(∀i (h:i<a.length),jS a b<=i->lt b a[i]=true)
 |[],_=>⟨fun i h=>absurd h (by simp),fun i h=>absurd h (by simp)⟩
 |k::a,f=>by
  have d:=fD.1 f
  have ih:=Ab b a d.2
  cases c:lt b k with
  |true=>
   have e:jS (k::a) b=0:=by simp[jS,c]
   rw[e]
   refine⟨fun i _ h=>absurd h (by omega),fun i h _=> ?_⟩
   cases i with
   |zero=>exact c
   |succ i=>exact lt_trans c (d.1 _ (bJ (by simpa using h)))
  |false=>
   have e:jS (k::a) b=jS a b+1:=by simp[jS,c]
   rw[e]
   refine⟨fun i h g=> ?_,fun i h g=> ?_⟩
   ·cases i with
    |zero=>exact c
    |succ i=>exact ih.1 i (by simpa using h) (by omega)
   ·cases i with
    |zero=>omega
    |succ i=>exact ih.2 i (by simpa using h) (by omega)
def dI (ps:List (ByteArray×ByteArray))(key:ByteArray):Nat:=(ps.takeWhile fun p=>lt p.1 key).length
def iK (ps:List (ByteArray×ByteArray)):Prop:=ps.Pairwise fun a b=>lt a.1 b.1=true
theorem BD (b:List (ByteArray×ByteArray))(a:ByteArray):dI b a<=b.length:=by
 unfold dI
 exact(List.takeWhile_sublist _).length_le
theorem qZ (a:ByteArray):∀(b:List (ByteArray×ByteArray)),iK b->
  (∀i (h:i<b.length),i<dI b a->lt b[i].1 a=true)/\(∀i (h:i<b.length),dI b a<=i->lt b[i].1 a=false)
 |[],_=>⟨fun i h=>absurd h (by simp),fun i h=>absurd h (by simp)⟩
 |k::b,f=>by
  have d:=fD.1 f
  have ih:=qZ a b d.2
  cases c:lt k.1 a with
  |false=>
   have e:dI (k::b) a=0:=by simp[dI,c]
   rw[e]
   refine⟨fun i _ h=>absurd h (by omega),fun i h _=> ?_⟩
   cases i with
   |zero=>exact c
   |succ i=>
    cases g:lt (k::b)[i+1].1 a with
    |false=>rfl
    |true=>have:=lt_trans (d.1 _ (bJ (by simpa using h))) g;rw[c] at this;cases this
  |true=>
   have e:dI (k::b) a=dI b a+1:=by simp[dI,c]
   rw[e]
   refine⟨fun i h j=> ?_,fun i h j=> ?_⟩
   ·cases i with
    |zero=>exact c
    |succ i=>exact ih.1 i (by simpa using h) (by omega)
   ·cases i with
    |zero=>omega
    |succ i=>exact ih.2 i (by simpa using h) (by omega)
def qQ (ps:List (ByteArray×ByteArray))(key:ByteArray):Bool:=match ps[dI ps key]? with|some p=>decide (p.1=key)|none=>false
end Go.Proofs.YtpmbddooibgnaaaGreatDoor
namespace Go.Proofs.YtpmbddooibgnaaaGreatDoor
open Go.RowKit
theorem CW (a b:ByteArray)(w:World):Calls Tryz.prog 451 #[.string a,.string b] w fun e c=>e= .returned (.int .i64 (zL a b))/\w=c:=by
 have d:∀w,(callFunc 523 #[.string a,.string b]).run Tryz.prog w= .ok (.value (.int .i64 (zL a b))) w:=fun w=>by
  rw[Tv Tryz.func523 (by kernel_rfl) (by kernel_rfl) (by kernel_rfl) (e:=Extern.BytealgCompare.compare) (by kernel_rfl),Lib.run_compareString]
  rfl
 go_enter Tryz.func451,Tryz.ntmps451
 go_wp2
 go_ret
 exact⟨rfl,rfl⟩
theorem Ho (a b:ByteArray)(w:World):Calls Tryz.prog 339 #[.string a,.string b] w fun e c=>e= .returned (.int .i64 (zL a b))/\w=c:=by
 go_enter Tryz.func339,Tryz.ntmps339
 go_wp2_with (go_at_call 451;refine(CW _ _ _).mono ?_;rintro e c ⟨rfl,rfl⟩)
 go_ret
 exact⟨rfl,rfl⟩
theorem zI (k v a:ByteArray)(w:World):Calls Tryz.prog 338 #[.agg #[.string k,.string v],.string a] w fun e b=>e= .returned (.int .i64 (zL k a))/\Below w.heap.size w b:=by
 go_enter Tryz.func338,Tryz.ntmps338
 go_wp2_with (go_at_call 339;refine(Ho _ _ _).mono ?_;rintro e b ⟨rfl,rfl⟩)
 go_ret
 exact⟨rfl,aG _ _⟩
theorem Jz (n:Nat)(g:Nat)(A:Array Value)(p:Nat->Bool)(w:World)(O:n<=1000000)(B:∀f w,(callFunc g f).run Tryz.prog w= .ok (.enter g f) w)
  (v:∀W,Below w.heap.size w W->∀i,i<n->Calls Tryz.prog g (#[.int .i64 (i:Int)]++A) W fun e x=>e= .returned (.bool (p i))/\Below w.heap.size W x)
  (m:Nat) (K:m<=n) (l:∀i,i<m->p i=false) (o:∀i,m<=i->i<n->p i=true):
  Calls Tryz.prog 340 #[.int .i64 n,.func (.func g) #[] A] w fun e x=>e= .returned (.int .i64 m)/\Below w.heap.size w x:=by
 go_enter Tryz.func340,Tryz.ntmps340
 go_wp2
 go_loopw [5,6] (fun a b wr=>∃i j:Nat,a= .int .i64 i/\b= .int .i64 j/\i<=m/\m<=j/\j<=n/\Below w.heap.size w wr) (fun a b _=>((intOf b) - (intOf a)).toNat)
 case atStart=>exact⟨0,n,rfl,rfl,aR _,K,aC _,aJ _ _⟩
 case round=>
  obtain⟨i,j,rfl,rfl,D,M,I,c⟩:=hrel
  by_cases N:i<j
  ·obtain⟨d,J⟩:∃d,d=(i+j)/2:=⟨_,rfl⟩
   have r:((i:Int)+(j:Int))/2=(d:Int):=by omega
   have F:i<=d:=by omega
   have H:d<j:=by omega
   have C:=ah (v wr c d (by omega))
   have G:m<=d\/d<m:=jC d m|>.symm
   have t:=ah l
   have z:=ah o
   clear v l o J
   have s:=ah r;clear r
   by_cases q:m<=d
   ·have y:=ah (z.out d q (by omega))
    go_wp2_with (first|(rw[s.out];refine C.out.mono ?_;rw[y.out];rintro e E ⟨rfl,k⟩))
    go_roundw
    case rel=>exact⟨i,d,rfl,rfl,by omega,q,by omega,c.trans k⟩
    case measure=>simp[intOf];omega
   ·have y:=ah (t.out d (by omega))
    go_wp2_with (first|(rw[s.out];refine C.out.mono ?_;rw[y.out];rintro e E ⟨rfl,k⟩))
    go_roundw
    case rel=>exact⟨d+1,j,by go_num,rfl,by omega,by omega,by omega,c.trans k⟩
    case measure=>simp[intOf];omega
  ·obtain rfl:i=m:=by omega
   obtain rfl:j=i:=by omega
   clear v l o
   go_wp2
   go_ret
   exact⟨rfl,c⟩
theorem PX (d g b:Nat)(c:Nd)(a:ByteArray)(w:World)(S:Nat->Prop)(h:mG w S b c)(y:w.cell? ⟨d,0,none⟩=some (.pointer (some ⟨b,0,none⟩)))(r:w.cell? ⟨g,0,none⟩=some (.string a))(i:Nat)(m:i<c.keys.length):
  Calls Tryz.prog 341 #[.int .i64 i,.pointer (some ⟨d,0,none⟩),.pointer (some ⟨g,0,none⟩)] w fun e l=>e= .returned (.bool (lt a c.keys[i]))/\Below w.heap.size w l:=by
 obtain⟨_,B,v,E,j,_,f,_⟩:=h
 obtain⟨D,p,q,_,_,_,n⟩:=cells3 j
 obtain⟨o,k,rfl,G,F,_,_⟩:=bq.form f
 obtain⟨z,C,rfl,A⟩:=f.at rfl i m
 have t:(0:Int)<=(i:Int):=by omega
 have s:(i:Int)<(c.keys.length:Int):=by omega
 go_enter Tryz.func341,Tryz.ntmps341
 go_wp2
 go_quiet (fail)
 go_wp2
 go_ret
 exact⟨congrArg (fun x=>Ending.returned (Value.bool x)) (Vy _ _),below_drewN (aJ _ _) _⟩
theorem Gz (a:Array Value)(w:World):(callFunc 341 a).run Tryz.prog w= .ok (.enter 341 a) w:=by
 kernel_rfl
theorem K9 (b:Nat)(c:Nd)(a:ByteArray)(w:World)(S:Nat->Prop)(h:mG w S b c)(D:xB c.keys)(v:c.keys.length<=1000000):
  Calls Tryz.prog 221 #[.pointer (some ⟨b,0,none⟩),.string a] w fun e q=>e= .returned (.int .i64 (jS c.keys a))/\Below w.heap.size w q:=by
 have s:=h
 obtain⟨z,O,N,Q,j,J,E,M⟩:=h
 obtain⟨P,H,I,_,_,_,B⟩:=cells3 j
 obtain⟨G,x,rfl,T,R,_,_⟩:=bq.form E
 have y:∀(r:Fn) (first cap:Array Value) (w:World),(Instr.makeFunc r first cap).run Tryz.prog w= .ok (.func r first cap) w:=fun _ _ _ _=>rfl
 obtain⟨m,o⟩:=Ab a c.keys D
 have n:=Jz c.keys.length 341 #[.pointer (some ⟨w.heap.size,0,none⟩),.pointer (some ⟨w.heap.size+1,0,none⟩)] (fun i=>if h:i<c.keys.length then lt a c.keys[i] else true)
  ((w.alloc (.cells #[.pointer (some ⟨b,0,none⟩)] 268)).alloc (.cells #[.string a] 9)) v Gz
  (fun W f i d=>by
   have g:Below w.heap.size w W:=(iY w _ _).trans (f.mono (by simp;omega))
   have l:mG W S b c:=s.below g
   have t:=(f.cell (p:=⟨w.heap.size,0,none⟩) (by simp;omega)).trans (by rw[NH _ _ _ (by simp),pO])
   have F:=(f.cell (p:=⟨w.heap.size+1,0,none⟩) (by simp)).trans (by rw[show w.heap.size+1=(w.alloc (.cells #[.pointer (some ⟨b,0,none⟩)] 268)).heap.size by simp,pO])
   refine(PX w.heap.size (w.heap.size+1) b c a W S l t F i d).mono ?_
   rintro e q ⟨rfl,j⟩
   exact⟨by simp[d],j.mono f.size⟩)
  (jS c.keys a) (BQ _ _) (fun i d=>by have:=BQ c.keys a;simp only[dif_pos (show i<c.keys.length by omega)];exact m i _ d) (fun i d A=>by simp only[dif_pos A];exact o i _ d)
 have C:=ah n
 clear n m o s
 go_enter Tryz.func221,Tryz.ntmps221
 go_wp2_with (go_at_call 340;refine C.out.mono ?_;rintro e K ⟨rfl,k⟩)
 go_ret
 exact⟨rfl,(iY w _ _).trans (k.mono (by simp;omega))⟩
theorem Ig (v:Value)(k:List (ByteArray×ByteArray))(f:ByteArray)(w:World)(S:Nat->Prop)(h:sQ w S v k)(T:iK k)(Z:k.length<=1000000):
  Calls Tryz.prog 337 #[v,.string f,.func (.func 338) #[] #[]] w fun e O=>e= .returned (.tuple #[.int .i64 (dI k f),.bool (qQ k f)])/\Below w.heap.size w O:=by
 have H:=h
 obtain⟨ao,c,rfl,n1,m1,_,_⟩:=bq.form h
 obtain⟨F,I⟩:=qZ f k T
 have E:=BD k f
 have Y:=ah F;clear F
 have M:=ah I;clear I
 go_enter Tryz.func337,Tryz.ntmps337
 go_wp2
 go_loopw [9,10] (fun a b wr=>∃i j:Nat,a= .int .i64 i/\b= .int .i64 j/\i<=dI k f/\dI k f<=j/\j<=k.length/\Below w.heap.size w wr) (fun a b _=>((intOf b) - (intOf a)).toNat)
 case atStart=>exact⟨0,k.length,rfl,rfl,aR _,E,aC _,aJ _ _⟩
 case round=>
  obtain⟨i,j,rfl,rfl,J,W,R,g⟩:=hrel
  by_cases X:i<j
  ·obtain⟨d,V⟩:∃d,d=(i+j)/2:=⟨_,rfl⟩
   have y:((i:Int)+(j:Int))/2=(d:Int):=by omega
   have N:i<=d:=by omega
   have Q:d<j:=by omega
   have r:d<k.length:=by omega
   obtain⟨z,A,rfl,l,m⟩:=H.at rfl d r
   have P:=(g.cell (p:=⟨z,A+d*2,none⟩) (aD w _ l)).trans l
   have K:=(g.cell (p:=⟨z,A+d*2+1,none⟩) (aD w _ m)).trans m
   clear V l m
   have B:=ah y;clear y
   by_cases x:dI k f<=d
   ·have C:=M.out d r x
    have s:¬zL k[d].1 f<0:=by rw[Hu,C];simp
    have D:decide (zL k[d].1 f<0)=false:=by simpa using s
    go_wp2_with (first|(rw[B.out])|(go_at_call 338;refine(zI _ _ _ _).mono ?_;rintro e G ⟨rfl,n⟩))
    go_roundw
    case rel=>exact⟨i,d,rfl,rfl,by omega,x,by omega,g.trans (n.mono g.size)⟩
    case measure=>simp[intOf];omega
   ·have C:=Y.out d r (by omega)
    have s:zL k[d].1 f<0:=by rw[Hu,C]
    have D:decide (zL k[d].1 f<0)=true:=by simpa using s
    go_wp2_with (first|(rw[B.out])|(go_at_call 338;refine(zI _ _ _ _).mono ?_;rintro e G ⟨rfl,n⟩))
    go_roundw
    case rel=>exact⟨d+1,j,by go_num,rfl,by omega,by omega,by omega,g.trans (n.mono g.size)⟩
    case measure=>simp[intOf];omega
  ·obtain rfl:i=dI k f:=by omega
   obtain rfl:j=dI k f:=by omega
   by_cases t:dI k f<k.length
   ·obtain⟨z,A,rfl,l,m⟩:=H.at rfl _ t
    have P:=(g.cell (p:=⟨z,A+dI k f*2,none⟩) (aD w _ l)).trans l
    have K:=(g.cell (p:=⟨z,A+dI k f*2+1,none⟩) (aD w _ m)).trans m
    have o:qQ k f=(zL k[dI k f].1 f==0):=by
     unfold qQ
     rw[bB t]
     rw[Bool.eq_iff_iff];simp[Nj]
    have q:=ah o;clear o l m
    go_wp2_with (first|(go_at_call 338;refine(zI _ _ _ _).mono ?_;rintro e G ⟨rfl,n⟩))
    go_ret2
    exact⟨by rw[q.out];rfl,g.trans (n.mono g.size)⟩
   ·have o:qQ k f=false:=by
     unfold qQ
     rw[List.getElem?_eq_none (by omega)]
    have q:=ah o;clear o
    go_wp2
    go_ret2
    exact⟨by rw[q.out];rfl,g⟩
theorem uY (b:Nat)(c:Nd)(a:ByteArray)(w:World)(S:Nat->Prop)(h:mG w S b c)(m:iK c.pairs)(i:c.pairs.length<=1000000):
  Calls Tryz.prog 220 #[.pointer (some ⟨b,0,none⟩),.string a] w fun e j=>e= .returned (.tuple #[.int .i64 (dI c.pairs a),.bool (qQ c.pairs a)])/\Below w.heap.size w j:=by
 obtain⟨k,s,r,v,f,g,x,q⟩:=h
 obtain⟨t,n,o,_,_,_,l⟩:=cells3 f
 go_enter Tryz.func220,Tryz.ntmps220
 go_wp2_with (go_at_call 337;refine(Ig _ c.pairs _ _ S g m i).mono ?_;rintro e p ⟨rfl,d⟩)
 go_ret2
 exact⟨rfl,d⟩
theorem yt (w:World):Calls Tryz.prog 562 #[.int .i64 0] w fun e a=>e= .returned (.tuple #[])/\w=a:=by
 go_enter Tryz.func562,Tryz.ntmps562
 go_wp2
 go_end0
 exact⟨rfl,rfl⟩
def brk (e:Int):List PanicEntry:=[{v:= .iface 656 (.agg #[.int .i64 e]),recovered:=false}]
theorem Pt (e:Int)(a:(e==0)=false)(w:World):Calls Tryz.prog 562 #[.int .i64 e] w fun d c=>d= .panicked (brk e)/\w=c:=by
 have b:(e !=0)=true:=by simp only[bne,a];rfl
 go_enter Tryz.func562,Tryz.ntmps562
 go_wp2
 exact⟨rfl,rfl,rfl⟩
def leastOf (nd:Nd)(told:ByteArray):ByteArray:=match nd.kids with|[]=>(nd.pairs.headD (⟨#[]⟩,⟨#[]⟩)).1|_=>told
theorem DC (b:Nat)(c:Nd)(a:ByteArray)(w:World)(S:Nat->Prop)(h:mG w S b c)(i:c.kids=[]->c.pairs≠[]):
  Calls Tryz.prog 574 #[.pointer (some ⟨b,0,none⟩),.string a] w fun e v=>e= .returned (.string (leastOf c a))/\w=v:=by
 have o:=h
 obtain⟨y,O,K,Q,q,m,g,J⟩:=h
 obtain⟨P,H,I,_,_,_,C⟩:=cells3 q
 cases g:c.kids with
 |nil=>
  have x:=i g
  have z:0<c.pairs.length:=gY.2 x
  obtain⟨E,s,rfl,G,M,_,_⟩:=bq.form m
  obtain⟨A,B,rfl,n,p⟩:=m.at rfl 0 z
  have f:leastOf c a=c.pairs[0].1:=by
   unfold leastOf;rw[g]
   show (c.pairs.headD _).1=_
   have:∀(l:List Pr) (h:0<l.length),l.headD (⟨#[]⟩,⟨#[]⟩)=l[0]:=fun l h=>by
    cases l with
    |nil=>simp at h
    |cons=>rfl
   rw[this]
  have d:c.kids.isEmpty=true:=by rw[g];rfl
  have j:=ah f
  have r:=ah g
  have D:w.cell? ⟨A,B,none⟩=some (.string c.pairs[0].1):=by simpa using n
  have F:(0:Int)<(c.pairs.length:Int):=by omega
  clear f g i n p
  go_enter Tryz.func574,Tryz.ntmps574
  go_wp2_with (go_at_call 219;refine(mX b c _ S o).mono ?_;rw[d];rintro e t ⟨rfl,rfl⟩)
  go_ret
  exact⟨by rw[j.out];rfl,rfl⟩
 |cons k N=>
  have f:leastOf c a=a:=by unfold leastOf;rw[g]
  have d:c.kids.isEmpty=false:=by rw[g];rfl
  have j:=ah f
  have r:=ah g
  clear f g i
  go_enter Tryz.func574,Tryz.ntmps574
  go_wp2_with (go_at_call 219;refine(mX b c _ S o).mono ?_;rw[d];rintro e t ⟨rfl,rfl⟩)
  go_ret
  exact⟨by rw[j.out];rfl,rfl⟩
def IsCut (w:World)(S:Nat->Prop)(B b:Nat)(l:List UInt8):Prop:=¬S b/\B<=b/\∃v,w.heap[b]? =some (.cells #[v,.bool false] 485 (0,0))/\fA w S v l/\∀g,v.ownBlock=some g->g<B
theorem IsCut.keep {w w':World}{S:Nat->Prop}{B b:Nat}{l:List UInt8}(h:IsCut w S B b l)(d:w'.heap[b]? =w.heap[b]?)(a:∀g,g<B->w'.heap[g]? =w.heap[g]?):IsCut w' S B b l:=by
 obtain⟨f,i,v,e,j,c⟩:=h
 exact⟨f,i,v,d.trans e,bq.keep j fun g k _ m=>⟨a g (c g k),m⟩,c⟩
theorem Qu {w:World}{b t:Nat}{a c:Value}(h:w.heap[b]? =some (.cells #[a,c] t (0,0))):
  w.cell? ⟨b,0,none⟩=some a/\w.cell? ⟨b,1,none⟩=some c/\w.frozen? ⟨b,0,none⟩=false/\w.frozen? ⟨b,1,none⟩=false/\b<w.heap.size:=by
 refine⟨?_,?_,?_,?_,(aj.1 h).1⟩<;>simp[World.cell?,World.frozen?,h]
theorem fA.str {P:Program}{w:World}{S:Nat->Prop}{v:Value}(s:ByteArray)(h:fA w S v s.data.toList)(f a e:TypeId)(i:P.underlying f=some (.slice e))(g:P.underlying e=some (.int .u8))(k:P.underlying a=some .string):
  (convert f a v).run P w= .ok (.string s) w:=by
 have r:=h
 obtain⟨z,c,rfl,_,_,D,n,t,B⟩:=h
 cases z with
 |none=>
  have l:=(n rfl).1
  rw[run_convert_bytes_nil w f e i g _ _ a k]
  have:s=ByteArray.empty:=by
   cases s with
   |mk d=>
    have:d=#[]:=Array.eq_empty_of_size_eq_zero (by simpa using l)
    rw[this];rfl
  rw[this]
 |some x=>
  obtain⟨b,o,q⟩:=x
  obtain rfl:q=none:=(t _ rfl).1
  have:=run_convert_bytes_back (P:=P) w f a e ⟨b,o,none⟩ c s.data.toList i g k (fun j p=>by
   obtain⟨A,C,m,y⟩:=r.at rfl j p
   cases m
   rw[iA];exact y)
  rw[this]
theorem SK (B b:Nat)(l:List UInt8)(n:Nat)(w:World)(S:Nat->Prop)(h:IsCut w S B b l)(z:n<=l.length):
  Calls Tryz.prog 336 #[.pointer (some ⟨b,0,none⟩),.int .i64 n] w fun e s=>∃v,e= .returned v/\fA s S v (l.take n)/\IsCut s S B b (l.drop n)/\Keep (· =b) w s/\(∀g,v.ownBlock=some g->g<B)/\s.heap.size=w.heap.size:=by
 obtain⟨K,f,v,J,j,k⟩:=h
 obtain⟨c0,c1,f0,f1,Z⟩:=Qu J
 have hB:=j
 obtain⟨d,c,rfl,g1,g2,g3,g4⟩:=bq.form j
 have k0:(0:Int)<=(n:Int):=by omega
 have k1:(n:Int)<=(c:Int):=by omega
 have k2:(n:Int)<=(l.length:Int):=by omega
 have G:=bq.upto hB n z
 have A:=bq.after hB n z
 have F:∀v,Keep (· =b) w (w.setCell ⟨b,0,none⟩ v):=fun v=>Keep.setCell (M:=(· =b)) (p:=⟨b,0,none⟩) (Keep.refl _ w) (.inr rfl) v
 have i:∀v,(w.setCell ⟨b,0,none⟩ v).heap[b]? =some (.cells #[v,.bool false] 485 (0,0)):=fun v=>by
  simp[World.setCell,aK,J]
 have t:∀(a:Value) (v:Value) (m:Nat) (C:List Value),bq w S 1 v m C->v.ownBlock≠some b->bq (w.setCell ⟨b,0,none⟩ a) S 1 v m C:=fun a v m C h E=>
  h.keep fun g X Y W=>⟨(F a).block g Y (fun e=>E (by rw[X,e])),W⟩
 have y:∀g,(Value.slice d n c).ownBlock=some g->g<B:=by cases d<;>exact k
 have D:∀g,(Value.slice (if c=n then d else d.map fun x=>x.add (n*1)) (l.length - n) (c - n)).ownBlock=some g->g<B:=by
  cases d with
  |none=>split<;>simp[Value.ownBlock]
  |some ad=>
   have V:ad.block<B:=k _ rfl
   split
   ·exact fun g e=>by injection e with e;omega
   ·intro g e
    simp only[Value.ownBlock,jJ,Ue] at e
    unfold Addr.add at e;split at e<;>(first|omega|(simp only at e;omega))
 have P:(aF l).take (n*1)=aF (l.take n):=by simp[aF,iG]
 have N:(aF l).drop (n*1)=aF (l.drop n):=by simp[aF,jy]
 rw[P] at G
 rw[N] at A
 have u1:∀a,fA (w.setCell ⟨b,0,none⟩ a) S (.slice d n c) (l.take n):=fun a=>by
  unfold fA;rw[aQ,dx z];exact t a _ _ _ G (fun e=>absurd (y _ e) (aX.2 f))
 have u2:∀a,fA (w.setCell ⟨b,0,none⟩ a) S (.slice (if c=n then d else d.map fun x=>x.add (n*1)) (l.length - n) (c - n)) (l.drop n):=fun a=>by
  unfold fA;rw[bG];exact t a _ _ _ A (fun e=>absurd (D _ e) (aX.2 f))
 have Q:=ah u1
 have H:=ah u2
 have I:=ah F
 have T:=ah i
 have R:=ah y
 have O:=ah D
 clear u1 u2 F i y D t G A P N hB j k
 by_cases q:c=n
 ·subst q
  go_enter Tryz.func336,Tryz.ntmps336
  go_wp2
  go_ret
  have r:=H.out (.slice d (l.length - c) (c - c))
  have o:=O.out
  simp only[jQ,show l.length - c=0 by omega,kF] at r o
  exact⟨_,rfl,Q.out _,⟨K,f,_,T.out _,r,o⟩,I.out _,R.out,by simp⟩
 ·go_enter Tryz.func336,Tryz.ntmps336
  go_wp2
  go_ret
  have r:=H.out (.slice (d.map fun x=>x.add n) (l.length - n) (c - n))
  have o:=O.out
  rw[if_neg q,eY] at r o
  exact⟨_,rfl,Q.out _,⟨K,f,_,T.out _,r,o⟩,I.out _,R.out,by simp⟩
theorem tJ (B b:Nat)(l:List UInt8)(n:Nat)(m:Int)(c:m=(n:Int))(w:World)(S:Nat->Prop)(h:IsCut w S B b l)(d:n<=l.length):
  Calls Tryz.prog 336 #[.pointer (some ⟨b,0,none⟩),.int .i64 m] w fun e a=>∃v,e= .returned v/\fA a S v (l.take n)/\IsCut a S B b (l.drop n)/\Keep (· =b) w a/\(∀g,v.ownBlock=some g->g<B)/\a.heap.size=w.heap.size:=by
 subst c;exact SK B b l n w S h d
end Go.Proofs.YtpmbddooibgnaaaGreatDoor
