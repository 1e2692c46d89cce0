--
import Derived.Test.YtogbkgmlhhahdaaGreatT26
set_option maxRecDepth 100000
set_option maxHeartbeats 0
set_option linter.all false
namespace Go.Proofs.YtogbkgmlhhahdaaGreat
open Go.RowKit
variable{S a:Nat->Prop}
def Ag (w:World)(S:Nat->Prop)(r:Nat)(rs:List Pr):Prop:=¬S r/\∃v,w.heap[r]? =some (.cells #[v] 54 (0,0))/\jo w S v rs
def qM {w:World}{r t:Nat}{v:Value}(h:w.heap[r]? =some (.cells #[v] t (0,0))):w.cell? ⟨r,0,none⟩=some v/\w.frozen? ⟨r,0,none⟩=false/\r<w.heap.size:=
 ⟨by simp[World.cell?,h],by simp[World.frozen?,h],(ai.1 h).1⟩
def Vv {a b:ByteArray}(h:a=b):(a.toList==b.toList)=true:=by rw[h];simp
def U6 {a b:ByteArray}(h:a≠b):(a.toList==b.toList)=false:=by
 rw[fM];exact fun e=>h (toList_inj e)
theorem QF (r:Nat)(a:List Pr)(c:ByteArray)(w:World)(S:Nat->Prop)(h:Ag w S r a)(t:fG a)(H:a.length<=100000):
  Calls Tryz.prog 118 #[.pointer (some ⟨r,0,none⟩),.string c] w fun e w'=>e= .returned (.tuple #[.string ((dL a c).getD ⟨#[]⟩),.bool (dL a c).isSome])/\w'=w:=by
 obtain⟨_,v,A,y⟩:=h;obtain⟨M,_,I⟩:=qM A;obtain⟨G,J,rfl,_,_,_,_⟩:=aZ.form y;go_enter Tryz.func118,Tryz.ntmps118
 go_wp2
 go_loop [6] (fun i=>∃k:Nat,k<=a.length/\i= .int .i64 k/\∀j (h:j<a.length),j<k->a[j].1≠c) (fun i=>a.length - (intOf i).toNat)
 case atStart=>exact⟨0,aS _,rfl,fun j _ h=>absurd h (by omega)⟩
 case round=>
  obtain⟨k,F,rfl,f⟩:=hrel;have s:=ah f;clear f
  by_cases m:k<a.length
  ·obtain⟨b,o,rfl,C,E⟩:=y.at rfl k m
   have z:=aF w _ C;have q:(k:Int)<(a.length:Int):=by omega
   by_cases l:a[k].1=c
   ·have p:=Vv l
    have d:dL a c=some a[k].2:=(oI t).2 (by have:=bF m;rw[<-l];exact this);have g:=ah d;clear l d
    go_wp2
    go_ret2;rw[g.out];exact⟨rfl,rfl⟩
   ·have p:=U6 l
    have D:=ah l;clear l
    go_wp2
    go_round
    case rel=>exact⟨k+1,by omega,by go_num,fun j n B=>by
     rcases gH j k with h|h
     ·exact s.out j n h
     ·obtain rfl:j=k:=by omega
      exact D.out⟩
    case measure=>simp[intOf];omega
  ·obtain rfl:k=a.length:=by omega
   have d:dL a c=none:=by
    cases p:dL a c with
    |none=>rfl
    |some x=>
     obtain⟨j,n,e⟩:=fF ((oI t).1 p);exact absurd (by rw[e]) (s.out j n n)
   have g:=ah d;clear d;have K:¬(a.length:Int)<(a.length:Int):=by omega
   go_wp2
   go_ret2;rw[g.out];exact⟨rfl,rfl⟩
def yT {b:List Pr}(j:fG b)(a:ByteArray):b.filter (fun p=> !(p.1.toList==a.toList))=jR b a:=by
 obtain⟨l,o⟩:=lX a b j;have n:∀p∈b.take (bX b a),(!(p.1.toList==a.toList))=true:=fun p d=>by
  obtain⟨i,g,rfl⟩:=fF d;rw[aH] at g;rw[lT,U6 (Nb (l i (by omega) (by omega)))];rfl
 unfold jR
 split
 ·rename_i c
  obtain⟨f,k⟩:=mY c;have e:b=b.take (bX b a)++b[bX b a]::b.drop (bX b a+1):=by
   rw[<-cu f,bJ]
  have m:∀p∈b.drop (bX b a+1),(!(p.1.toList==a.toList))=true:=fun p d=>by
   obtain⟨i,g,rfl⟩:=fF d;rw[aO] at g;have:=gX.1 j (bX b a) (bX b a+1+i) f (by omega) (by omega);rw[k] at this;rw[qE,U6 (fun e=>Nb this e.symm)];rfl
  conv=>lhs;rw[e]
  rw[BO,FQ,if_neg (by rw[Vv k];simp),Ao.2 n,Ao.2 m]
 ·rename_i c
  refine Ao.2 fun p d=> ?_
  obtain⟨i,g,rfl⟩:=fF d;rw[U6];rfl;intro e;apply c;have:(a,b[i].2)∈b:=by have:=bF g;rw[<-e];exact this
  have:=(oI j).2 this;unfold dL at this
  split at this
  ·assumption
  ·cases this
def Ry {rs:List Pr}(a:ByteArray):decide ((jR rs a).length<rs.length)=(dL rs a).isSome:=by
 unfold jR dL
 split
 ·rename_i b
  obtain⟨c,_⟩:=mY b;rw[bD c];simp;omega
 ·simp
def Gl {w wr:World}{r:Nat}{l v:Value}{b:List Pr}(f:wr.heap[r]? =some (.cells #[l] 54 (0,0)))(j:¬S r)(d:aT wr S w.heap.size 103 2 v b.length (dP b))(a:Below w.heap.size w wr):Ag (wr.setCell ⟨r,0,none⟩ v) S r b/\Keep (· =r) w (wr.setCell ⟨r,0,none⟩ v):=by
 have c:Keep (· =r) wr (wr.setCell ⟨r,0,none⟩ v):=Keep.setCell (M:=(· =r)) (p:=⟨r,0,none⟩) (Keep.refl _ _) (.inr rfl) _;refine⟨⟨j,v,by simp[World.setCell,aQ,f],?_⟩,(Keep.of_below a _).trans c (fun _ _ h=>h)⟩;exact(d.keep fun g k i m=>⟨c.block g i (fun e=>d.ne f (by decide) (by rw[k,e])),m⟩).dx
theorem Bt (r:Nat)(rs:List Pr)(d:ByteArray)(w:World)(S:Nat->Prop)(B:∀g,S g->g<w.heap.size)(h:Ag w S r rs)(hr:fG rs)(hl:rs.length<=100000):
  Calls Tryz.prog 64 #[.pointer (some ⟨r,0,none⟩),.string d] w fun e w'=>e= .returned (.bool (dL rs d).isSome)/\Ag w' S r (jR rs d)/\Keep (· =r) w w':=by
 obtain⟨G,v,K,O⟩:=h;obtain⟨c0,cf,lr⟩:=qM K;obtain⟨ao,cp,rfl,_,_,_,_⟩:=aZ.form O;have E:=ah (yT hr d);have HL:=ah (Ry (rs:=rs) d);obtain⟨s,q⟩:∃s:Pr->Bool,s=fun p=> !(p.1.toList==d.toList):=⟨_,rfl⟩
 have y:=ah q;rw[<-q] at E;clear q;go_enter Tryz.func64,Tryz.ntmps64
 go_wp2
 go_loopw [5,6] (fun l i wr=>∃(k:Nat),k<=rs.length/\i= .int .i64 k/\aT wr S w.heap.size 103 2 l ((rs.take k).filter s).length (dP ((rs.take k).filter s))/\Below w.heap.size w wr) (fun _ i _=>rs.length - (intOf i).toNat)
 case atStart=>exact⟨0,aS _,rfl,aT.nil _ _ _ _ _,aR _ _⟩
 case round=>
  obtain⟨k,hk,rfl,c,a⟩:=hrel;have z:=(a.block r lr).trans K;obtain⟨T,Z,R⟩:=qM z;have m:((rs.take k).filter s).length<=100000:=aK (xw _ _) (by rw[aH];omega);generalize A:((rs.take k).filter s).length=n at c m;have H:=ah A;clear A;obtain⟨lo,P,rfl,_,_,_,_⟩:=aZ.form c.dx
  by_cases f:k<rs.length
  ·obtain⟨b,o,rfl,F,C⟩:=O.at rfl k f
   have D:=(a.cell (p:=⟨b,o+k*2,none⟩) (aF w _ F)).trans F;have W:=(a.cell (p:=⟨b,o+k*2+1,none⟩) (aF w _ C)).trans C;have Q:=aF wr _ D;have M:(k:Int)<(rs.length:Int):=(by omega);clear F C
   by_cases t:rs[k].1=d
   ·have Y:=Vv t
    have I:=ah t;clear t;go_wp2_with fail;go_roundw
    case rel=>
     refine⟨k+1,by omega,by go_num,?_,a⟩;rw[aL f,BO,FQ,if_neg (by rw[y.out];simp[Vv I.out]),List.filter_nil,dM,H.out];exact c
    case measure=>simp[intOf];omega
   ·have Y:=U6 t
    have I:=ah t;clear t;have x:=aN wr (.cells #[.string rs[k].1,.string rs[k].2] 103);go_wp2_with (at_builtin;go_must ((refine cO rfl (.tmp 27) (.tmp 35) 52 52 rfl S w.heap.size 103 2 32 _ bL iK rfl (.slice lo n P) n _ rfl (c.below x) (.slice (some ⟨wr.heap.size,0,none⟩) 1 1) 1 [.string rs[k].1,.string rs[k].2] rfl (gq (w:=wr) [.string rs[k].1,.string rs[k].2] 103 2 1 1 rfl bL rfl (by intro u N;simp only[bO,gL,oV] at N;rcases N with rfl|rfl<;>rfl)) (fe (fun g V=>ax (B g V) a.size) _) ?_ ?_ ?_ ?_);(focus have:=a.size;simp only[aU];omega);(focus unfold maxLen;omega);(focus omega);intro pM c3 w3 j p9 J X));go_roundw
    case rel=>
     refine⟨k+1,by omega,by go_num,?_,(a.trans (x.mono a.size)).trans J⟩;rw[aL f,BO,FQ,if_pos (by rw[y.out];simp[U6 I.out]),List.filter_nil,ay,H.out,ic];exact j
    case measure=>simp[intOf];omega
  ·obtain rfl:k=rs.length:=by omega
   rw[bS,E.out] at c;have A:=H.out;rw[bS,E.out] at A;subst A;have x1:¬(rs.length:Int)<(rs.length:Int):=(by omega);go_wp2_with fail;go_ret;have:=Gl z G c a;refine⟨?_,this.1,this.2⟩;rw[<-HL.out];congr 2
def LB {b:List Pr}(j:fG b)(a c:ByteArray):kC b a c=(jR b a).take (bX (jR b a) a)++(a,c)::(jR b a).drop (bX (jR b a) a):=by
 obtain⟨l,o⟩:=lX a b j;unfold kC jR
 split
 ·rename_i f
  obtain⟨e,k⟩:=mY f;have n:∀p∈b.take (bX b a),lt p.1 a=true:=fun p d=>by
   obtain⟨i,g,rfl⟩:=fF d;rw[aH] at g;rw[lT];exact l i (by omega) (by omega)
  have m:∀p∈b.drop (bX b a+1),lt a p.1=true:=fun p d=>by
   obtain⟨i,g,rfl⟩:=fF d;rw[aO] at g;have:=gX.1 j (bX b a) (bX b a+1+i) e (by omega) (by omega);rw[k] at this;rw[qE];exact this
  have d:bX (b.take (bX b a)++b.drop (bX b a+1)) a=(b.take (bX b a)).length:=by
   rw[yO _ _ _ n,Dh _ _ m,iG]
  rw[d,iN,vH,nT,if_pos e]
 ·rfl
def Vh {b:List Pr}(f:fG b)(a:ByteArray)(k:Nat)(c:k<(jR b a).length):lt a (jR b a)[k].1=decide (bX (jR b a) a<=k):=by
 have d:fG (jR b a):=(JM a).rise b f;obtain⟨j,g⟩:=lX a _ d
 by_cases h:bX (jR b a) a<=k
 ·rw[d9 h]
  have m:=g k c h;cases l:lt a (jR b a)[k].1 with
  |true=>rfl
  |false=>
   have e:=wu m l;have i:(jR b a)[k]∈b.filter (fun p=> !(p.1.toList==a.toList)):=(by rw[yT f];exact bF c);have:=(List.mem_filter.1 i).2;rw[Vv e] at this;cases this
 ·rw[bM h]
  exact lt_asymm (j k c (by omega))
def qW (ds:List Pr)(P k:Nat)(p:Pr):List Pr:=if k<=P then ds.take k else ds.take P++p::(ds.take k).drop P
def QH (a:List Pr)(P k:Nat)(p:Pr)(b:k<=a.length)(c:P<=a.length):(qW a P k p).length=if k<=P then k else k+1:=by
 unfold qW
 split
 ·simp;omega
 ·simp;omega
def Tn (a:List Pr)(P k:Nat)(p:Pr)(b:k<a.length)(h:k<P):qW a P (k+1) p=qW a P k p++[a[k]]:=by
 unfold qW;rw[if_pos (by omega),if_pos (by omega),aL b]
def Tq (a:List Pr)(P:Nat)(p:Pr)(b:P<a.length):qW a P (P+1) p=qW a P P p++[p]++[a[P]]:=by
 unfold qW;rw[if_neg (by omega),if_pos (by omega),aL b,eU (by simp;omega),dY (by simp;omega)];simp
def Tp (a:List Pr)(P k:Nat)(p:Pr)(b:k<a.length)(h:P<k):qW a P (k+1) p=qW a P k p++[a[k]]:=by
 unfold qW;rw[if_neg (by omega),if_neg (by omega),aL b,eU (by simp;omega)];simp
def QI (a:List Pr)(P:Nat)(p:Pr)(b:P<=a.length):(if P<a.length then qW a P a.length p else qW a P a.length p++[p])=a.take P++p::a.drop P:=by
 unfold qW
 by_cases h:P<a.length
 ·rw[if_pos h,if_neg (by omega),bS]
 ·obtain rfl:P=a.length:=by omega
  rw[if_neg h,if_pos (aD _)];simp
theorem Qz (r:Nat)(I:List Pr)(f a:ByteArray)(w:World)(S:Nat->Prop)(O:∀g,S g->g<w.heap.size)(h:Ag w S r I)(hr:fG I)(hl:I.length<=90000):
  Calls Tryz.prog 24 #[.pointer (some ⟨r,0,none⟩),.string f,.string a] w fun e w'=>e= .returned (.tuple #[])/\Ag w' S r (kC I f a)/\Keep (· =r) w w':=by
 have hD:=Bt r I f w S O h hr (by omega);have HD:=ah hD;clear hD;have dx:r<w.heap.size:=by obtain⟨_,_,Y,_⟩:=h;exact(ai.1 Y).1
 have M:=LB hr f a;have qo:=Vh hr f;have fo:(jR I f).length<=I.length:=by
  have:=yT hr f;rw[<-this];exact xw _ _
 have p9:=nK (jR I f) f;generalize jR I f=m at*;generalize bX m f=P at*;have HI:=ah M;clear M;have HG:=ah qo;clear qo;have J:∀w,Below w.heap.size w (w.alloc (.cells #[.string f,.string a] 103)):=fun w=>aN w _
 go_enter Tryz.func24,Tryz.ntmps24;go_wp2_with (go_at_call 64;go_must (refine HD.out.mono ?_;rintro e x ⟨rfl,hR,R⟩));obtain⟨q8,v,Y,hv⟩:=hR;obtain⟨c0,cf,lr⟩:=qM Y;obtain⟨ao,cp,rfl,_,_,_,_⟩:=aZ.form hv;have s:∀g,S g->g<x.heap.size:=fun g y=>ax (O g y) R.size
 go_loopw [6,7,8] (fun l d i wr=>∃(k:Nat),k<=m.length/\i= .int .i64 k/\d= .bool (decide (P<k))/\aT wr S x.heap.size 103 2 l (qW m P k (f,a)).length (dP (qW m P k (f,a)))/\Below x.heap.size x wr) (fun _ _ i _=>m.length - (intOf i).toNat)
 case atStart=>exact⟨0,aS _,rfl,rfl,by have:qW m P 0 (f,a)=[]:=(by simp[qW]);rw[this];exact aT.nil _ _ _ _ _,aR _ _⟩
 case round=>
  obtain⟨k,hk,rfl,rfl,t,c⟩:=hrel;have qb:=(c.block r lr).trans Y;obtain⟨av,bN,bH⟩:=qM qb;have ql:=QH m P k (f,a) hk p9;have q9:(qW m P k (f,a)).length<=90001:=by rw[ql];split<;>omega
  clear ql;have aA:∀g,S g->g<wr.heap.size:=fun g y=>ax (s g y) c.size
  generalize hn:(qW m P k (f,a)).length=n at t q9;have HN:=ah hn;clear hn;obtain⟨lo,lc,rfl,_,_,_,_⟩:=aZ.form t.dx
  by_cases E:k<m.length
  ·obtain⟨b,o,rfl,Z,X⟩:=hv.at rfl k E
   have qc:=(c.cell (p:=⟨b,o+k*2,none⟩) (aF x _ Z)).trans Z;have bA:=(c.cell (p:=⟨b,o+k*2+1,none⟩) (aF x _ X)).trans X;have aB:=aF wr _ qc;have dn:(k:Int)<(m.length:Int):=(by omega);have y:=HG.out k E;rw[<-Rp] at y;have K:=aN wr (.cells #[.string m[k].1,.string m[k].2] 103);rcases Nat.lt_trichotomy k P with D|D|D
   ·have G:decide (P<k)=false:=bM (by omega)
    rw[bM (by omega)] at y;rw[G];have pM:=ah G;clear G;clear Z X;go_wp2_with (at_builtin;(refine cO rfl (.tmp 41) (.tmp 49) 52 52 rfl S x.heap.size 103 2 32 _ bL iK rfl _ _ _ rfl (t.below K) (.slice (some ⟨wr.heap.size,0,none⟩) 1 1) 1 [.string m[k].1,.string m[k].2] rfl (gq (w:=wr) [.string m[k].1,.string m[k].2] 103 2 1 1 rfl bL rfl (by intro u B;simp only[bO,gL,oV] at B;rcases B with rfl|rfl<;>rfl)) (fe (fun g y=>ax (s g y) (c).size) _) ?_ ?_ ?_ ?_);go_must ((focus have:=(c).size;simp only[aU];omega);(focus unfold maxLen;omega);(focus omega);intro H c3 F q W z Q));go_roundw
    case rel=>
     refine⟨k+1,by omega,by go_num,by rw[bM (by omega)],?_,(c.trans (K.mono c.size)).trans z⟩;rw[Tn m P k _ E D,ay,HN.out,ic];exact q
    case measure=>simp[intOf];omega
   ·subst D
    have G:decide (k<k)=false:=bM (dB _);rw[d9 (aD k)] at y;rw[G];have pM:=ah G;clear G;go_wp2_with (first|(at_builtin;(refine cO rfl (.tmp 35) (.tmp 39) 52 52 rfl S x.heap.size 103 2 32 _ bL iK rfl _ _ _ rfl (t.below (J wr)) (.slice (some ⟨wr.heap.size,0,none⟩) 1 1) 1 [.string f,.string a] rfl (gq (w:=wr) [.string f,.string a] 103 2 1 1 rfl bL rfl (by intro u B;simp only[bO,gL,oV] at B;rcases B with rfl|rfl<;>rfl)) (fe (fun g y=>ax (s g y) (c).size) _) ?_ ?_ ?_ ?_);go_must ((focus have:=(c).size;simp only[aU];omega);(focus unfold maxLen;omega);(focus omega);intro H c3 F q W z Q;have j:Below x.heap.size x F:=(c.trans ((J wr).mono c.size)).trans z;have C:=(j.block r lr).trans Y;obtain⟨af,bB,bC⟩:=qM C;have e1:=(j.cell (p:=⟨b,o+k*2,none⟩) (aF x _ Z)).trans Z;have e2:=(j.cell (p:=⟨b,o+k*2+1,none⟩) (aF x _ X)).trans X;have dZ:=aF F _ e1;clear av qc bA aB bN bH))|(at_builtin;(refine cO rfl (.tmp 41) (.tmp 49) 52 52 rfl S x.heap.size 103 2 32 _ bL iK rfl _ _ _ rfl (q.below (aN F (.cells #[.string m[k].1,.string m[k].2] 103))) (.slice (some ⟨F.heap.size,0,none⟩) 1 1) 1 [.string m[k].1,.string m[k].2] rfl (gq (w:=F) [.string m[k].1,.string m[k].2] 103 2 1 1 rfl bL rfl (by intro u B;simp only[bO,gL,oV] at B;rcases B with rfl|rfl<;>rfl)) (fe (fun g y=>ax (s g y) (j).size) _) ?_ ?_ ?_ ?_);go_must ((focus have:=(j).size;simp only[aU];omega);(focus unfold maxLen;omega);(focus omega);intro dR c4 w4 T fB di fA)))
    go_roundw
    case rel=>
     refine⟨k+1,by omega,by go_num,by rw[d9 (by omega)],?_,(j.trans ((aN F _).mono j.size)).trans di⟩;rw[Tq m k _ E,ay,ay,HN.out,ic,ic];exact T
    case measure=>simp[intOf];omega
   ·have G:decide (P<k)=true:=d9 D
    rw[G];have pM:=ah G;clear G y;clear Z X;go_wp2_with (at_builtin;(refine cO rfl (.tmp 41) (.tmp 49) 52 52 rfl S x.heap.size 103 2 32 _ bL iK rfl _ _ _ rfl (t.below K) (.slice (some ⟨wr.heap.size,0,none⟩) 1 1) 1 [.string m[k].1,.string m[k].2] rfl (gq (w:=wr) [.string m[k].1,.string m[k].2] 103 2 1 1 rfl bL rfl (by intro u B;simp only[bO,gL,oV] at B;rcases B with rfl|rfl<;>rfl)) (fe (fun g y=>ax (s g y) (c).size) _) ?_ ?_ ?_ ?_);go_must ((focus have:=(c).size;simp only[aU];omega);(focus unfold maxLen;omega);(focus omega);intro H c3 F q W z Q));go_roundw
    case rel=>
     refine⟨k+1,by omega,by go_num,by rw[d9 (by omega)],?_,(c.trans (K.mono c.size)).trans z⟩;rw[Tp m P k _ E D,ay,HN.out,ic];exact q
    case measure=>simp[intOf];omega
  ·obtain rfl:k=m.length:=by omega
   have N:=QI m P (f,a) p9;have HE:=ah N;clear N;have x1:¬(m.length:Int)<(m.length:Int):=by omega
   by_cases hP:P<m.length
   ·rw[d9 hP]
    have V:=ah hP;clear hP;go_wp2_with fail;go_end0;have A:aT wr S x.heap.size 103 2 (.slice lo n lc) (qW m P m.length (f,a)).length (dP (qW m P m.length (f,a))):=(by rw[HN.out];exact t);have:=Gl qb q8 A c;have D:=HE.out;rw[if_pos V.out] at D;rw[HI.out,<-D];exact⟨rfl,this.1,R.trans this.2 (fun _ _ h=>h)⟩
   ·rw[bM hP]
    have V:=ah hP;clear hP;go_wp2_with (at_builtin;(refine cO rfl (.tmp 53) (.tmp 57) 52 52 rfl S x.heap.size 103 2 32 _ bL iK rfl _ _ _ rfl (t.below (J wr)) (.slice (some ⟨wr.heap.size,0,none⟩) 1 1) 1 [.string f,.string a] rfl (gq (w:=wr) [.string f,.string a] 103 2 1 1 rfl bL rfl (by intro u B;simp only[bO,gL,oV] at B;rcases B with rfl|rfl<;>rfl)) (fe (fun g y=>ax (s g y) (c).size) _) ?_ ?_ ?_ ?_);go_must ((focus have:=(c).size;simp only[aU];omega);(focus unfold maxLen;omega);(focus omega);intro H c3 F q W z Q;have j:Below x.heap.size x F:=(c.trans ((J wr).mono c.size)).trans z;have C:=(j.block r lr).trans Y;obtain⟨af,bB,bC⟩:=qM C));go_end0;have A:aT F S x.heap.size 103 2 (.slice H (n+1) c3) (qW m P m.length (f,a)++[(f,a)]).length (dP (qW m P m.length (f,a)++[(f,a)])):=by
     rw[ay,HN.out,ic];exact q
    have:=Gl C q8 A j;have D:=HE.out;rw[if_neg V.out] at D;rw[HI.out,<-D];exact⟨rfl,this.1,R.trans this.2 (fun _ _ h=>h)⟩
def KZ (rs:List Pr)(P M k:Nat):List Pr:=((rs.take k).drop P).take M
def Td (a:List Pr)(P M k:Nat)(b:k<=a.length):(KZ a P M k).length=min (k - P) M:=by
 unfold KZ;simp;omega
def Qv (a:List Pr)(P M k:Nat)(b:k<a.length)(h:k<P\/M<=k - P):KZ a P M (k+1)=KZ a P M k:=by
 unfold KZ;rw[aL b];rcases h with h|h
 ·rw[dY (by simp;omega),dY (by simp;omega)]
 ·rw[mU,bI (by simp;omega)]
def Tc (a:List Pr)(P M k:Nat)(b:k<a.length)(h:P<=k)(d:k - P<M):KZ a P M (k+1)=KZ a P M k++[a[k]]:=by
 unfold KZ;rw[aL b,eU (by simp;omega)];have c:((a.take k).drop P).length=k - P:=by simp;omega
 generalize (a.take k).drop P=X at c;rw[aJ (l:=X) (by omega),aJ (by rw[ay,dN];omega)]
theorem Oe (r:Nat)(a:List Pr)(m:ByteArray)(j:Int)(w:World)(S:Nat->Prop)(A:∀g,S g->g<w.heap.size)(h:Ag w S r a)(hr:fG a)(hl:a.length<=90000):
  Calls Tryz.prog 119 #[.pointer (some ⟨r,0,none⟩),.string m,.int .i64 j] w fun e w'=>∃v,e= .returned v/\jo w' S v ((a.drop (bX a m)).take j.toNat)/\Below w.heap.size w w':=by
 obtain⟨q9,v,N,W⟩:=h;obtain⟨c0,cf,lr⟩:=qM N;obtain⟨ao,cp,rfl,_,_,_,_⟩:=aZ.form W;obtain⟨Q,V⟩:=lX m a hr;have q8:=nK a m;generalize bX a m=P at*;have I:=ah Q;clear Q;have H:=ah V;clear V;obtain⟨M,y⟩:=nx j.toNat;rw[<-y];have K:=ah y;clear y;go_enter Tryz.func119,Tryz.ntmps119
 go_wp2
 go_loopw [7,8] (fun l i wr=>∃(k:Nat),k<=a.length/\i= .int .i64 k/\aT wr S w.heap.size 103 2 l (KZ a P M k).length (dP (KZ a P M k))/\Below w.heap.size w wr) (fun _ i _=>a.length - (intOf i).toNat)
 case atStart=>exact⟨0,aS _,rfl,by have:KZ a P M 0=[]:=(by simp[KZ]);rw[this];exact aT.nil _ _ _ _ _,aR _ _⟩
 case round=>
  obtain⟨k,hk,rfl,d,c⟩:=hrel;have G:=(c.block r lr).trans N;obtain⟨p9,qo,pM⟩:=qM G;have f:=Td a P M k hk;have t:∀g,S g->g<wr.heap.size:=fun g E=>ax (A g E) c.size
  generalize T:(KZ a P M k).length=n at d f;have B:=ah T;clear T;have qb:n<=90000:=by omega
  obtain⟨lo,Y,rfl,_,_,_,_⟩:=aZ.form d.dx
  by_cases q:k<a.length
  ·obtain⟨b,o,rfl,F,C⟩:=W.at rfl k q
   have D:=(c.cell (p:=⟨b,o+k*2,none⟩) (aF w _ F)).trans F;have qc:=(c.cell (p:=⟨b,o+k*2+1,none⟩) (aF w _ C)).trans C;have Z:=aF wr _ D;have O:(k:Int)<(a.length:Int):=(by omega);clear F C
   by_cases X:P<=k
   ·have E:Op.bytesLess a[k].1.toList m.toList=false:=H.out k q X
    by_cases y:k - P<M
    ·have hm:(n:Int)<j:=by have:=K.out;omega
     have z:=aN wr (.cells #[.string a[k].1,.string a[k].2] 103);have x:=ah f;clear f;go_wp2_with (at_builtin;(refine cO rfl (.tmp 34) (.tmp 42) 52 52 rfl S w.heap.size 103 2 32 _ bL iK rfl (.slice lo n Y) n _ rfl (d.below z) (.slice (some ⟨wr.heap.size,0,none⟩) 1 1) 1 [.string a[k].1,.string a[k].2] rfl (gq (w:=wr) [.string a[k].1,.string a[k].2] 103 2 1 1 rfl bL rfl (by intro u R;simp only[bO,gL,oV] at R;rcases R with rfl|rfl<;>rfl)) (fe t _) ?_ ?_ ?_ ?_);go_must ((focus have:=c.size;simp only[aU];omega);(focus unfold maxLen;omega);(focus omega);intro af c3 w3 s av J ql));go_roundw
     case rel=>
      refine⟨k+1,by omega,by go_num,?_,(c.trans (z.mono c.size)).trans J⟩;rw[Tc a P M k q X y,ay,B.out,ic];exact s
     case measure=>simp[intOf];omega
    ·have hm:¬(n:Int)<j:=by have:=K.out;omega
     have x:=ah f;clear f;go_wp2_with fail;go_roundw
     case rel=>
      refine⟨k+1,by omega,by go_num,?_,c⟩;rw[Qv a P M k q (.inr (by omega)),B.out];exact d
     case measure=>simp[intOf];omega
   ·have E:Op.bytesLess a[k].1.toList m.toList=true:=I.out k q (by omega)
    have x:=ah f;clear f;go_wp2_with fail;go_roundw
    case rel=>
     refine⟨k+1,by omega,by go_num,?_,c⟩;rw[Qv a P M k q (.inl (by omega)),B.out];exact d
    case measure=>simp[intOf];omega
  ·obtain rfl:k=a.length:=by omega
   have x1:¬(a.length:Int)<(a.length:Int):=(by omega);have x:=ah f;clear f;go_wp2_with fail;go_ret;refine⟨_,rfl,?_,c⟩;have e:KZ a P M a.length=(a.drop P).take M:=(by unfold KZ;rw[bS]);rw[<-e];unfold jo;rw[B.out];exact d.dx
theorem IA (a b:Value)(d:List Pr)(w:World)(B z:Nat->Prop)(x:jo w B a d)(o:jo w z b d):
  Calls Tryz.prog 30 #[a,b] w fun e w'=>e= .returned (.bool true)/\Below w.heap.size w w':=by
 obtain⟨E,G,rfl,_,_,_,_⟩:=aZ.form x;obtain⟨M,I,rfl,_,_,_,_⟩:=aZ.form o;go_enter Tryz.func30,Tryz.ntmps30
 go_wp2
 go_loopw [5] (fun i wr=>∃k:Nat,k<=d.length/\i= .int .i64 k/\Below w.heap.size w wr) (fun i _=>d.length - (intOf i).toNat)
 case atStart=>exact⟨0,aS _,rfl,aR _ _⟩
 case round=>
  obtain⟨k,D,rfl,c⟩:=hrel
  by_cases g:k<d.length
  ·obtain⟨m,t,rfl,r,y⟩:=x.at rfl k g
   obtain⟨v,s,rfl,n,A⟩:=o.at rfl k g;have q:(k:Int)<(d.length:Int):=(by omega);have j:=aF w _ r;have l:=aF w _ n;go_wp2_with fail;refine aP (fun W=>Below w.heap.size w W) (fun _=>true) [0,1,2,3,4,5,6,7,8] rfl (by kernel_rfl) c.drew ?_
   repeat (refine oq ?_ rfl rfl rfl ?_ ?_;rotate_left;(focus intro W f;(try dsimp only at f);have C:=(f.cell (p:=⟨m,t+k*2,none⟩) j).trans r;have F:=(f.cell (p:=⟨m,t+k*2+1,none⟩) j).trans y;have O:=(f.cell (p:=⟨v,s+k*2,none⟩) l).trans n;have H:=(f.cell (p:=⟨v,s+k*2+1,none⟩) l).trans A;have K:=ax j f.size;have J:=ax l f.size;first|(go_simp;first|done|with_reducible rfl));try simp only[Act.put,aj,au,ak])
   refine bR ?_;go_wp2_with fail;go_roundw
   case rel=>exact⟨k+1,by omega,by go_num,c.drew⟩
   case measure=>simp[intOf];omega
  ·obtain rfl:k=d.length:=by omega
   have N:¬(d.length:Int)<(d.length:Int):=(by omega);go_wp2_with fail;go_ret;exact⟨rfl,c⟩
def qI (w:World)(B:Nat)(v:Value)(l:List UInt8):Prop:=
 ∃(g cap:Nat) (cur:Array Value) (fz:Nat×Nat),v= .slice (some ⟨g,0,none⟩) l.length cap/\B<=g/\w.heap[g]? =some (.cells cur 5 fz)/\(fz.2<=fz.1\/cur.size<=fz.1)/\l.length<=cap/\cap<=maxLen/\cur.size=cap/\cur.toList.take l.length=aI l
def qI.below {w w':World}{B:Nat}{v:Value}{l:List UInt8}(h:qI w B v l)(i:Below w.heap.size w w'):qI w' B v l:=by
 obtain⟨g,b,a,d,e,f,c,j⟩:=h;exact⟨g,b,a,d,e,f,(i.block g (ai.1 c).1).trans c,j⟩
def qI.dx {w:World}{B:Nat}{v:Value}{l:List UInt8}(h:qI w B v l):aZ w gB 1 v l.length (aI l):=by
 obtain⟨g,i,b,d,rfl,o,c,q,f,k,r,m⟩:=h;refine⟨_,_,rfl,f,k,by rw[bP,aW],(fun e=>by cases e),fun p n=> ?_,fun j u a=> ?_⟩
 ·cases n
  exact⟨rfl,(ai.1 c).1,id⟩
 ·refine⟨_,_,rfl,?_⟩
  rw[dX,Ak w g j b _ d c];rw[<-m,fD] at a
  split at a
  ·simpa using a
  ·cases a
def Qy (w:World)(B:Nat)(N:TypeId)(v:Value)(l:List UInt8)(x:UInt8)(h:qI w B v l)(a:Addr)(Y:w.cell? (a.add 0)=some (.int .u8 x.toNat))(Q:B<=w.heap.size)(hl:l.length<=1000000):
  ∃H w',(Builtin.append_ #[70,70] N #[v,.slice (some a) 1 1]).run Tryz.prog w= .ok H w'/\qI w' B H (l++[x])/\Below B w w':=by
 obtain⟨g,e,b,z,rfl,S,r,M,h4,T,Z,J⟩:=h;obtain⟨i,O,W,d,F⟩:∃i,Tryz.prog.info? 5=some i/\i.zero=some (.int .u8 0)/\i.size=1/\i.bytes=1:=by
  have:=kJ;cases I:Tryz.prog.info? 5 with
  |none=>rw[I] at this;cases this
  |some i=>rw[I] at this;simp at this;exact⟨i,rfl,this.1,this.2.1,this.2.2⟩
 have m:∀j u,[Value.int .u8 x.toNat][j]? =some u->w.cell? (a.add j)=some u:=fun j u p=>by
  cases j with
  |zero=>cases p;exact Y
  |succ j=>simp at p
 have c:(l++[x]).length=l.length+1:=by simp
 have q:aI (l++[x])=aI l++[.int .u8 x.toNat]:=by simp[aI]
 by_cases f:l.length+1<=e
 ·have K:=BK (P:=Tryz.prog) w i.size 1 a 1 1 [Value.int .u8 x.toNat] (by rw[d];rfl) m
  have t:l.length<b.size:=by omega
  have o:w.cell? ⟨g,l.length,none⟩=some b[l.length]:=by simp[World.cell?,r,t]
  have s:w.frozen? ⟨g,l.length,none⟩=false:=by
   obtain⟨lo,R⟩:=z;simp only[World.frozen?,r,Bool.and_eq_false_iff,FO];simp only at M;omega
  have D:(storeCells ⟨g,l.length,none⟩ [Value.int .u8 x.toNat] 0).run Tryz.prog w= .ok () (w.setRow g (b.setIfInBounds l.length (.int .u8 x.toNat))):=by
   have G:(store ((⟨g,l.length,none⟩:Addr).add 0) (.int .u8 x.toNat)).run Tryz.prog w= .ok () (w.setRow g (b.setIfInBounds l.length (.int .u8 x.toNat))):=by
    rw[dU,iG,run_store Tryz.prog w _ _ _ rfl,o];simp[s,setCell_eq_setRow w g l.length b _ z _ r]
   simp only[storeCells,kD,G,gP];rfl
  refine⟨.slice (some ⟨g,0,none⟩) (l.length+1) e,w.setRow g (b.setIfInBounds l.length (.int .u8 x.toNat)),?_,⟨g,e,_,z,by rw[c],S,setRow_heap w g b _ _ _ r,by simpa using M,by rw[c];exact f,T,by simpa using Z,?_⟩,⟨rfl,rfl,rfl,by simp,fun k hk=>setRow_other w g k _ (by omega)⟩⟩
  ·simp[Builtin.append_,fQ bG,sizeOf,typeInfo,O,d,Builtin.lenOf,f] at K ⊢
   simp[K,dU,D]
  ·have y:l.length<(b.toList.set l.length (Value.int .u8 x.toNat)).length:=by simpa using t
   have e1:(b.toList.set l.length (Value.int .u8 x.toNat)).take l.length=b.toList.take l.length:=List.take_set_of_le (aD _);have V:(b.toList.set l.length (Value.int .u8 x.toNat)).take (l.length+1)=aI l++[.int .u8 x.toNat]:=by
    rw[aL y,e1,J,List.getElem_set_self]
   rw[c,q,Array.toList_setIfInBounds];exact V
 ·have n:∀j u,(aI l)[j]? =some u->w.cell? ((⟨g,0,none⟩:Addr).add j)=some u:=fun j u p=>by
   rw[dU,dX,Ak w g j b _ z r];rw[<-J,fD] at p
   split at p
   ·simpa using p
   ·cases p
  have X:=run_append_grow (P:=Tryz.prog) w 70 N 5 i (.int .u8 0) bG O W ⟨g,0,none⟩ l.length e (aI l) (by rw[d,bP,aW]) n a 1 1 [Value.int .u8 x.toNat] (by rw[d];rfl) m (by omega) (by omega) (si (by omega) (by rw[F];omega));have A:=Aj w (l.length+1) e 5;have C:=nR w (l.length+1) e 5 (by simp only[maxLen];omega);refine⟨_,_,X,⟨w.heap.size,_,_,(0,0),by rw[c],Q,aV w.drew _,.inl (aD _),by rw[c];exact A,C,?_,?_⟩,((aR _ w).drew).alloc (by simpa using Q) _⟩
  ·have E:(Value.int IntKind.u8 0).cells.size=1:=rfl
   simp only[Es,nZ,xu,E,bP,dN];omega
  ·simp only[sD,aM]
   rw[c,q,<-aM,show l.length+1=(aI l++[Value.int .u8 x.toNat]).length by simp[bP]];exact iN
def Ic {c:Array Oper}{b:List Oper}{o:Oper}{a:Act}{w:World}{Q:Exit->Act->World->Prop}(e:o.guard=none)(s y:Operand)(k:o.op= .call {callee:= .builtin .append,args:=#[s,y],argTypes:=#[70,70]})
  (B:Nat) (v:Value) (l:List UInt8) (x:UInt8) (t:a.eval s=v) (h:qI w B v l) (f:Addr) (n:a.eval y= .slice (some f) 1 1) (r:w.cell? (f.add 0)=some (.int .u8 x.toNat)) (z:B<=w.heap.size) (m:l.length<=1000000)
  (j:∀d w',qI w' B d (l++[x])->Below B w w'->wpList Tryz.prog c Q b (a.put o.dst d) w'):wpList Tryz.prog c Q (o::b) a w:=
 MB e fun _ g=>by
  obtain⟨d,w',p,i,q⟩:=Qy w B o.type v l x h f r z m
  unfold Oper.wp execOp
  simp only[k,resolve,invoke,builtin,kD,qf,gP,mR,dK,iH,t,n,p]
  exact g _ _ (j d w' i q)
def SS (s:ByteArray)(W:World)(e:s.size<=maxLen):∃(v:Value) (w':World),(convert 9 70 (.string s)).run Tryz.prog W= .ok v w'/\qI w' W.heap.size v s.data.toList/\Below W.heap.size W w':=by
 have a:s.data.toList.length=s.size:=by show s.data.toList.length=s.data.size;simp
 have c:=Aj W s.size 0 5;refine⟨_,_,run_bytes_of_string W 9 70 5 s gW bG kX,⟨W.heap.size,_,_,_,by rw[a],aD _,aV W.drew _,.inr (aD _),by rw[a];exact c,nR _ _ _ _ e,?_,?_⟩,((aR _ W).drew).alloc (aD _) _⟩
 ·have d:s.data.size=s.size:=rfl
  simp only[bytesRow,Es,Array.size_map,Array.size_replicate,d];omega
 ·rw[a]
  simp only[bytesRow,sD,Array.toList_map];have:(s.data.toList.map fun b=>Value.int .u8 b.toNat).length=s.size:=by rw[jX,a]
  rw[<-this,iN];rfl
def CB (data:ByteArray)(n:Int):Nat:=min n.toNat (60000 - data.size)
def sM (k:Nat):List UInt8:=(List.range k).map fun i=>UInt8.ofNat (i%251)
def KL (k:Nat):sM (k+1)=sM k++[UInt8.ofNat (k%251)]:=by simp[sM,List.range_succ]
def F7 (k:Nat):(sM k).length=k:=by simp[sM]
def nC (data:ByteArray)(n:Int):List UInt8:=data.data.toList++sM (CB data n)
theorem zo (a:ByteArray)(n:Int)(w:World)(W:a.size<=maxLen):
  Calls Tryz.prog 17 #[.string a,.int .i64 n] w fun e w'=>e= .returned (.string (strOf (nC a n)))/\Below w.heap.size w w':=by
 obtain⟨v0,w0,p9,p,A⟩:=SS a w W;have O:a.data.toList.length=a.size:=by show a.data.toList.length=a.data.size;simp
 obtain⟨K,I⟩:=nx (CB a n);have B:=ah I;have HL:=ah (show nC a n=a.data.toList++sM K by rw[I];rfl);have y:=ah (aC p A);obtain⟨g0,c0,R,Y,rfl,-⟩:=id p;clear p A I;go_enter Tryz.func17,Tryz.ntmps17;go_wp2_with fail;go_loopw [5,6] (fun v i wr=>∃k:Nat,k<=K/\i= .int .i64 k/\qI wr w.heap.size v (a.data.toList++sM k)/\Below w.heap.size w wr) (fun _ i _=>K - (intOf i).toNat)
 case atStart=>exact⟨0,aS _,rfl,by simpa [sM] using y.out.1,y.out.2⟩
 case round=>
  obtain⟨k,hk,rfl,r,s⟩:=hrel;have x:k<=60000:=by have:=B.out;unfold CB at this;omega
  obtain⟨g,c,pM,fz,rfl,-⟩:=id r;obtain⟨m,Q⟩:=nx (a.size+k);have b:(a.data.toList++sM k).length=m:=by rw[ay,O,F7,Q]
  have S:=ah Q;clear Q;rw[b]
  by_cases H:k<K
  ·have Z:(k:Int)<n:=by have:=B.out;unfold CB at this;omega
   have G:(k:Int)<60000:=(by have:=B.out;unfold CB at this;omega);have y3:(m:Int)<60000:=(by have:=B.out;have:=S.out;unfold CB at*;omega);obtain⟨F,l⟩:=nx (UInt8.ofNat (k%251));obtain⟨z,N⟩:=nx ((F.toNat:Int));have q2:(k:Int)%251=z:=(by rw[N,l,fC];omega);have j:=aV wr (.cells #[.int .u8 z] 5);have f:=aN wr (.cells #[.int .u8 z] 5);have J:=ah (show ∀(q:World),q=wr.alloc (.cells #[.int .u8 z] 5)->qI q w.heap.size (.slice (some ⟨g,0,none⟩) m c) (a.data.toList++sM k)/\q.cell? ((⟨wr.heap.size,0,none⟩:Addr).add 0)=some (.int .u8 (F.toNat:Int))/\w.heap.size<=q.heap.size from fun q e=>by
    subst e
    refine⟨by rw[<-b];exact r.below f,?_,aK s.size f.size⟩
    rw[dU,<-N]
    unfold World.cell?
    simp only[j]
    rfl)
   have D:(a.data.toList++sM k).length<=1000000:=(by omega);have C:=ah (aC D f);have HX:=ah l;clear r j f D l N b x;go_wp2_with (first|(at_builtin;refine Ic rfl (.tmp 23) (.tmp 27) rfl w.heap.size (.slice (some ⟨g,0,none⟩) m c) (a.data.toList++sM k) F rfl (J.out _ rfl).1 ⟨wr.heap.size,0,none⟩ rfl (J.out _ rfl).2.1 (J.out _ rfl).2.2 C.out.1 ?_;go_must (intro v' w2 o P;refine sO ?_)))
   refine sN ?_;obtain⟨g2,c2,V,qb,rfl,-⟩:=id o;have E:=ah o;clear o;obtain⟨m2,M⟩:=nm ((a.data.toList++sM k++[F]).length);rw[M.out] at E ⊢;go_wp2_with fail;go_roundw
   case rel=>exact⟨k+1,by omega,by go_num,by rw[KL,<-aM,<-HX.out];exact E.out,s.trans ((C.out.2.mono s.size).trans P)⟩
   case measure=>simp[intOf];omega
  ·obtain rfl:k=K:=by omega
   have t:=r.dx.strOf;rw[b,<-HL.out] at t;have T:=ah s;obtain⟨X,d⟩:=nm (strOf (nC a n));rw[d.out] at t;clear r s b x H
   by_cases Z:(k:Int)<n
   ·have G:(k:Int)<60000\/¬(k:Int)<60000:=by omega
    have y3:¬(m:Int)<60000:=(by have:=B.out;have:=S.out;unfold CB at*;omega);rcases G with G|G
    all_goals
     go_wp2_with fail;go_ret;exact⟨by rw[d.out];rfl,T.out⟩
   ·go_wp2_with fail
    go_ret;exact⟨by rw[d.out];rfl,T.out⟩
def AB (c:ByteArray):(c.size=0->c.toList.isEmpty=true/\c.toList=[])/\(c.size≠0->c.toList.isEmpty=false/\¬c.toList=[]):=by
 have d:c.toList.length=c.size:=by rw[toList_eq];show c.data.toList.length=c.data.size;simp
 constructor
 ·intro h
  have:c.toList=[]:=aY (by omega);exact⟨by rw[this];rfl,this⟩
 ·intro h
  cases e:c.toList with
  |nil=>rw[e] at d;simp at d;omega
  |cons a b=>exact⟨rfl,by simp⟩
def tu (key value:ByteArray):Prop:=(1<=key.size/\key.size<=128)/\value.size<=49152
instance (key value:ByteArray):Decidable (tu key value):=by unfold tu;exact inferInstance
theorem AL (b a:ByteArray)(w:World):
  Calls Tryz.prog 18 #[.string b,.string a] w fun e w'=>w'=w/\e= .returned (.bool (decide (tu b a))):=by
 obtain⟨f,g⟩:=AB b
 by_cases d:b.size=0
 ·obtain⟨m,k⟩:=f d
  have c:decide (tu b a)=false:=bM (fun h=>by have:=h.1.1;omega);rw[c];clear f g c d;go_enter Tryz.func18,Tryz.ntmps18
  go_wp2
  go_ret;exact⟨rfl,by simp[*]⟩
 ·obtain⟨m,k⟩:=g d
  by_cases j:b.size<=128
  ·have n:(b.size:Int)<=128:=by omega
   by_cases i:a.size<=49152
   ·have l:(a.size:Int)<=49152:=by omega
    have c:decide (tu b a)=true:=d9 ⟨⟨by omega,j⟩,i⟩;rw[c];clear f g c d;go_enter Tryz.func18,Tryz.ntmps18
    go_wp2
    go_ret;exact⟨rfl,by simp[*]⟩
   ·have l:¬(a.size:Int)<=49152:=by omega
    have c:decide (tu b a)=false:=bM (fun h=>i h.2);rw[c];clear f g c d;go_enter Tryz.func18,Tryz.ntmps18
    go_wp2
    go_ret;exact⟨rfl,by simp[*]⟩
  ·have n:¬(b.size:Int)<=128:=by omega
   have c:decide (tu b a)=false:=bM (fun h=>j h.1.2);rw[c];clear f g c d;go_enter Tryz.func18,Tryz.ntmps18
   go_wp2
   go_ret;exact⟨rfl,by simp[*]⟩
theorem QG (a:ByteArray)(w:World)(d:a.size<=1000000000):
  Calls Tryz.prog 19 #[.string a] w fun e w'=>w'=w/\e= .returned (.int .i64 ((2+gu a:Nat):Int)):=by
 by_cases h:a.size<=63
 ·have c:(a.size:Int)<=63:=by omega
  have b:gu a=0:=if_pos h;rw[b];clear b h;go_enter Tryz.func19,Tryz.ntmps19;go_wp2_with fail;go_ret;exact⟨rfl,rfl⟩
 ·have c:¬(a.size:Int)<=63:=by omega
  have b:((2+gu a:Nat):Int)=3+((a.size:Int)+511)/512:=by unfold gu rM;rw[if_neg h];omega
  rw[b];clear b h;have f:IntKind.i64.wrap ((a.size:Int)+511)=(a.size:Int)+511:=aG _ (by omega);have g:IntKind.i64.wrap (3+((a.size:Int)+511)/512)=3+((a.size:Int)+511)/512:=aG _ (by omega);go_enter Tryz.func19,Tryz.ntmps19;go_wp2_with fail;go_ret;exact⟨rfl,rfl⟩
def costs (kv:List Pr):Nat:=2*kv.length+lW kv
def Ma (kv:List Pr)(k:Nat)(h:k<kv.length):costs (kv.take (k+1))=costs (kv.take k)+(2+gu kv[k].2):=by
 unfold costs lW;rw[aL h,bT,kV,ay];simp;omega
def EH (kv:List Pr)(k:Nat):costs (kv.take k)<=costs kv:=by
 have e:kv=kv.take k++kv.drop k:=(bJ k kv).symm;have:costs kv=costs (kv.take k)+costs (kv.drop k):=by
  conv=>lhs;rw[e]
  unfold costs lW;rw[bT,kV,ay];omega
 omega
theorem Ti (v:Value)(kv:List Pr)(S:Nat->Prop)(w:World)(h:jo w S v kv)(g:kv.length<=100000)(j:∀p∈kv,p.2.size<=1000000):
  Calls Tryz.prog 116 #[v] w fun e w'=>w'=w/\e= .returned (.int .i64 (costs kv)):=by
 obtain⟨N,c,rfl,_,I,_⟩:=id h;have r:costs kv<=100000*10000:=by
  have:∀l:List Pr,(∀p∈l,p.2.size<=1000000)->lW l<=9000*l.length:=by
   intro l g
   induction l with
   |nil=>exact aS _
   |cons p l ih=>
    have P:=g p (bf ..);have J:=ih (fun q A=>g q (aX _ A));have F:lW (p::l)=gu p.2+lW l:=rfl;have O:gu p.2<=9000:=(by unfold gu rM;split<;>omega);rw[F,bn];omega
  have:=this kv j;unfold costs;omega
 have G:=ah j;have B:=ah r;clear j r;have C:c<=9223372036854775807:=by simpa [maxLen] using I
 go_enter Tryz.func116,Tryz.ntmps116;go_wp2_with fail;go_loopw [3,4] (fun n i wr=>∃k:Nat,wr=w/\k<=kv.length/\i= .int .i64 k/\n= .int .i64 (costs (kv.take k))) (fun _ i _=>kv.length - (intOf i).toNat)
 case atStart=>exact⟨0,rfl,aS _,rfl,by simp[costs,lW]⟩
 case round=>
  obtain⟨k,o,M,rfl,rfl⟩:=hrel;subst o
  by_cases f:k<kv.length
  ·have H:(k:Int)<(kv.length:Int):=by omega
   obtain⟨R,K,e,E,x⟩:=h.at rfl k f;cases e
   have z:=aF _ _ x;have s:=ah (QG kv[k].2 wr (by have:=G.out _ (bF f);omega));have t:=ah (Ma kv k f);have m:=EH kv (k+1);have D:IntKind.i64.wrap ((costs (kv.take k):Int)+((2+gu kv[k].2:Nat):Int))=(costs (kv.take (k+1)):Int):=by
    rw[t.out,aG _ (by have:=B.out;have:=t.out;omega)];omega
   obtain⟨V,b⟩:=nx ((costs (kv.take k):Int));obtain⟨W,d⟩:∃a:Int,a=((2+gu kv[k].2:Nat):Int):=⟨_,rfl⟩
   rw[<-b,<-d] at D;rw[<-d] at s;rw[<-b];have Q:=ah (aC b d);clear b d m E;go_wp2_with (first|(go_at_call 19;go_must ((refine s.out.mono ?_);rintro e y ⟨T,rfl⟩;subst y)))
   go_roundw
   case rel=>exact⟨k+1,by trivial,by omega,by go_num,rfl⟩
   case measure=>simp[intOf];omega
  ·obtain rfl:k=kv.length:=by omega
   have H:¬(kv.length:Int)<(kv.length:Int):=(by omega);go_wp2_with fail;go_ret;exact⟨rfl,by simp⟩
theorem Gp (r:Nat)(v:Value)(n:Nat)(w:World)(h:w.heap[r]? =some (.cells #[v] 75 (0,0)))(b:∃a c,v= .slice a n c)(i:n<=1000000):
  Calls Tryz.prog 35 #[.pointer (some ⟨r,0,none⟩)] w fun e w'=>w'=w/\e= .returned (.int .i64 ((n:Int) - 1)):=by
 obtain⟨a,c,rfl⟩:=b;obtain⟨g,_,d⟩:=qM h;have f:IntKind.i64.wrap ((n:Int) - 1)=(n:Int) - 1:=aG _ (by omega);clear h;go_enter Tryz.func35,Tryz.ntmps35;go_wp2_with fail;go_ret;exact⟨rfl,rfl⟩
def DF:(Tryz.prog.info? 54).map (fun i=>(i.zero,i.size,i.bytes))=some (some (.agg #[.slice none 0 0]),1,24):=by kernel_rfl
def Lm (w:World):(Instr.makeSlice 73 (.int .i64 1) (.int .i64 1)).run Tryz.prog w= .ok (.slice (some ⟨w.heap.size,0,none⟩) 1 1) (w.alloc (.cells #[.slice none 0 0] 54)):=by
 obtain⟨i,d,e,a,b⟩:=ve DF;have:=run_make (P:=Tryz.prog) (w:=w) 73 54 i _ Tryz.underlying73 d e .i64 .i64 1 1 (by omega) (by omega) (by rw[b];omega) (by omega);rw[this,a];have c:madeCells (Value.agg #[Value.slice none 0 0]).cells (Int.toNat 1*1)=#[.slice none 0 0]:=by kernel_rfl
 rw[c];rfl
def Gr (kv:List Pr):∀u∈dP kv,u.oneCell'=true:=by
 intro u a;unfold dP at a;obtain⟨p,_,a⟩:=kF.1 a;simp only[bO,gL,oV] at a;rcases a with rfl|rfl<;>rfl
theorem V6 (w:World):
  Calls Tryz.prog 20 #[] w fun e w'=>e= .returned (.pointer (some ⟨w.heap.size+1,0,none⟩))/\w'.heap[w.heap.size]? =some (.cells #[.slice none 0 0] 54 (0,0))/\w'.heap[w.heap.size+1]? =some (.cells #[.slice (some ⟨w.heap.size,0,none⟩) 1 1] 75 (0,0))/\w'.heap.size=w.heap.size+2/\Below w.heap.size w w':=by
 have c:=Lm w;go_enter Tryz.func20,Tryz.ntmps20;go_wp2_with fail;go_ret;have b:=aN w (.cells #[.slice none 0 0] 54);have a:=aN (w.alloc (.cells #[.slice none 0 0] 54)) (.cells #[.slice (some ⟨w.heap.size,0,none⟩) 1 1] 75);refine⟨by simp,?_,?_,by simp,b.trans (a.mono b.size)⟩
 ·exact(a.block _ (by simp)).trans (aV w _)
 ·have:=aV (w.alloc (.cells #[.slice none 0 0] 54)) (.cells #[.slice (some ⟨w.heap.size,0,none⟩) 1 1] 75)
  simpa using this
theorem Tj (r g m c:Nat)(Y:Value)(kv:List Pr)(S:Nat->Prop)(w:World)(h:w.heap[r]? =some (.cells #[.slice (some ⟨g,0,none⟩) (m+1) c] 75 (0,0)))(hc:w.cell? ⟨g,m,none⟩=some Y)(T:jo w S Y kv)(hm:m<=1000000)(O:m+1<=c/\c<=maxLen)(hl:kv.length<=100000):
  Calls Tryz.prog 22 #[.pointer (some ⟨r,0,none⟩)] w fun e w'=>∃rt v,e= .returned (.pointer (some ⟨rt,0,none⟩))/\w'.heap[rt]? =some (.cells #[v] 54 (0,0))/\aT w' gB w.heap.size 103 2 v kv.length (dP kv)/\Below w.heap.size w w'/\w.heap.size<=rt/\v.ownBlock≠some rt:=by
 obtain⟨s,o,rfl,_,p9,_⟩:=id T;obtain⟨c0,_,lr⟩:=qM h;have y:=aF w _ hc;have pM:c<=9223372036854775807:=by have:=O.2;simpa [maxLen] using this
 have q1:IntKind.i64.wrap (m:Int)=(m:Int):=aG _ (by omega);have q2:(m:Int)<(m:Int)+1:=by omega
 have q3:(0:Int)<=(m:Int):=by omega
 have HL:=ah T;have Z:=ah (show ∀W:World,Below w.heap.size w W->W.cell? ⟨r,0,none⟩=some (.slice (some ⟨g,0,none⟩) (m+1) c)/\W.cell? ⟨g,m,none⟩=some (.slice s kv.length o)/\r<W.heap.size/\g<W.heap.size from fun W f=>
  ⟨(f.cell (p:=⟨r,0,none⟩) lr).trans c0,(f.cell (p:=⟨g,m,none⟩) y).trans hc,ax lr f.size,ax y f.size⟩)
 clear h T;go_enter Tryz.func22,Tryz.ntmps22;go_wp2_with fail;refine aP (fun W=>Below w.heap.size w W) (fun i=> !([12,13].contains i)) [0,1,2,3,4,5,6,7,8,9,10,11,12,13] rfl (by kernel_rfl) ((aR _ w).drew) ?_
 repeat (refine oq ?_ rfl rfl rfl ?_ ?_;rotate_left;(focus intro W f;(try dsimp only at f);obtain⟨r0,r1,r2,r3⟩:=Z.out W f;go_simp;first|done|with_reducible rfl);try simp only[Act.put,aj,au,ak])
 refine dI rfl rfl rfl ?_;intro K R;go_simp;have D:=aN w.drew (.cells #[.slice none 0 0] 54);have F:Below w.heap.size w (w.drew.alloc (.cells #[.slice none 0 0] 54)):=((aR _ w).drew).trans D;have M:=aV w.drew (.cells #[.slice none 0 0] 54);refine R.out _ _ F ?_
 (try simp only[Act.put,aj,au,ak])
 repeat (refine oq ?_ rfl rfl rfl ?_ ?_;rotate_left;(focus intro W f;(try dsimp only at f);obtain⟨r0,r1,r2,r3⟩:=Z.out W f;go_simp;first|done|with_reducible rfl);try simp only[Act.put,aj,au,ak])
 refine jC rfl rfl rfl (by kernel_rfl) ?_;intro K R;go_simp;refine R.out _ _ ?_;refine bR ?_;obtain⟨b1,t⟩:=nm w.heap.size;obtain⟨j,l⟩:=nm ((w.alloc (.cells #[.slice s kv.length o] 54)).drew);have z:Below w.heap.size w j:=by rw[<-l.out];exact(aN w _).drew
 have J:j.heap[w.heap.size]? =some (.cells #[.slice s kv.length o] 54 (0,0)):=by
  rw[<-l.out];exact aV w _
 rw[l.out];obtain⟨d0,_,l2⟩:=qM J;rw[t.out] at d0 l2 ⊢;have b:=ah (aC z J);clear F D M z J q1 q2 q3;have H:jo j S (.slice s kv.length o) kv:=aZ.below HL.out b.out.1;have x:=aN j (.cells #[] 103);have E:aT (j.alloc (.cells #[] 103)) gB w.heap.size 103 2 (.slice (some ⟨j.heap.size,0,none⟩) 0 0) 0 []:=mX (w:=j) (S:=gB) (B:=w.heap.size) (e:=103) (k:=2) [] 0 0 rfl rfl (aD _) (by simp[maxLen]) b.out.1.size (fun _ e=>e.elim);have q:=ah ((aZ.below H x).src (P:=Tryz.prog) bL (Gr kv));have N:=ah E;clear H E;go_wp2_with (first|(at_builtin;go_must ((refine cO rfl (.tmp 16) (.tmp 18) 52 52 rfl gB w.heap.size 103 2 32 _ bL iK rfl (.slice (some ⟨j.heap.size,0,none⟩) 0 0) 0 [] rfl N.out (.slice s kv.length o) kv.length _ rfl q.out (fun _ e=>e.elim) ?_ ?_ ?_ ?_);(focus have:=b.out.1.size;simp only[aU];omega);(focus unfold maxLen;omega);(focus omega);intro V c3 I a X G Q;refine sO ?_)))
 refine sN ?_;rw[dX,jI] at a;have n:=ah (aC a G);clear a G X Q d0 l2;go_wp2_with fail;go_ret;have C:=aN I (.cells #[.slice V kv.length c3] 54);have A:Below w.heap.size j I:=(x.mono b.out.1.size).trans n.out.2;have d:=b.out.1.trans A;refine⟨I.heap.size,_,rfl,aV I _,n.out.1.below C,d.trans (C.mono d.size),d.size,fun e=> ?_⟩;exact absurd (n.out.1.1.lt _ e).2 (dB _)
theorem IQ (r i:Value)(a:Nat)(v:Value)(n:Nat)(w:World)(g:r= .pointer (some ⟨a,0,none⟩))(h:w.heap[a]? =some (.cells #[v] 75 (0,0)))(f:∃d c,v= .slice d n c)(j:n<=1000000):
  Calls Tryz.prog 26 #[r,i,.bool false] w fun e w'=>w'=w/\e= .returned (.int .i64 ((n:Int) - 1)):=by
 subst g;have HD:=ah (Gp a v n w h f j);go_enter Tryz.func26,Tryz.ntmps26;go_wp2_with (first|(go_at_call 35;go_must ((refine HD.out.mono ?_);rintro e b ⟨k,rfl⟩;subst b)))
 go_ret;exact⟨rfl,rfl⟩
theorem Gq (r rt n:Nat)(C:Value)(q:Option Addr)(z x:Nat)(Ls:List Value)(S:Nat->Prop)(B:Nat)(w:World)(h:w.heap[r]? =some (.cells #[C] 75 (0,0)))(X:aT w S B 54 1 C n Ls)(A:w.heap[rt]? =some (.cells #[.slice q z x] 54 (0,0)))(hS:∀g,S g->g<w.heap.size)(hB:B<=w.heap.size)(hn:n<=100000)(Q:C.ownBlock≠some r)(N:C.ownBlock≠some rt):
  Calls Tryz.prog 26 #[.pointer (some ⟨r,0,none⟩),.pointer (some ⟨rt,0,none⟩),.bool true] w fun e w'=>e= .returned (.int .i64 n)/\∃l,w'.heap[r]? =some (.cells #[l] 75 (0,0))/\aT w' S B 54 1 l (n+1) (Ls++[.slice q z x])/\l.ownBlock≠some r/\Keep (fun g=>g=r\/C.ownBlock=some g) w w'/\∀g,g<w.heap.size->C.ownBlock≠some g->l.ownBlock≠some g:=by
 obtain⟨V,T,rfl,_,av,_,_⟩:=aZ.form X.dx;obtain⟨c0,f0,J⟩:=qM h;obtain⟨Y,_,lt⟩:=qM A;have G:rt≠r:=by
  rintro rfl;rw[h] at A;injection A with A
  injection A with _ h2
  exact absurd h2 (by decide)
 have HO:=ah X;have HH:=ah h;have af:=ah G;have R:=ah Q;have q8:=ah N;clear X h A G Q N;go_enter Tryz.func26,Tryz.ntmps26;go_wp2_with fail;refine aP (fun W=>W.cell? ⟨r,0,none⟩=some (.slice V n T)/\W.cell? ⟨rt,0,none⟩=some (.slice q z x)/\r<W.heap.size/\rt<W.heap.size/\W.frozen? ⟨r,0,none⟩=false) (fun i=> !([8,9,12].contains i)) [0,1,2,3,4,5,6,7,8,9,10,11,12] rfl (by kernel_rfl) ⟨c0,Y,J,lt,f0⟩ ?_
 repeat (refine oq ?_ rfl rfl rfl ?_ ?_;rotate_left;(focus intro W m;(try dsimp only at m);obtain⟨r0,r1,r2,r3,r4⟩:=m;go_simp;first|done|with_reducible rfl);try simp only[Act.put,aj,au,ak])
 refine dI rfl rfl rfl ?_;intro K O;go_simp;obtain⟨w1,s⟩:=nm ((w.alloc (.cells #[.slice q z x] 54)).drew);have c:Below w.heap.size w w1:=by rw[<-s.out];exact(aN w _).drew
 have o:Src Tryz.prog 1 73 (.slice (some ⟨w.heap.size,0,none⟩) 1 1) 1 [.slice q z x] w1:=by
  rw[<-s.out];have:=gq (P:=Tryz.prog) (w:=w.drew) [.slice q z x] 54 1 1 1 (tx:=73) (e':=54) rfl Tryz.underlying73 rfl (by simp[Value.oneCell']);exact this
 rw[s.out];have b:=ah (aC c o);have p9:=ah (HO.out.below c);refine O.out _ _ ⟨(c.cell (p:=⟨r,0,none⟩) J).trans c0,(c.cell (p:=⟨rt,0,none⟩) lt).trans Y,ax J c.size,ax lt c.size,(World.frozen?_of_block (a:=⟨r,0,none⟩) (c.block r J)).trans f0⟩ ?_
 (try simp only[Act.put,aj,au,ak])
 clear c o
 repeat (refine oq ?_ rfl rfl rfl ?_ ?_;rotate_left;(focus intro W m;(try dsimp only at m);obtain⟨r0,r1,r2,r3,r4⟩:=m;go_simp;first|done|with_reducible rfl);try simp only[Act.put,aj,au,ak])
 refine dI rfl rfl rfl ?_;intro K O;refine ol (.tmp 12) (.tmp 16) 73 73 rfl S B 54 1 24 _ Tryz.underlying73 DF rfl (.slice V n T) n Ls rfl p9.out (.slice (some ⟨w.heap.size,0,none⟩) 1 1) 1 [.slice q z x] rfl b.out.2 (fun g I=>ax (hS g I) b.out.1.size) (aK hB b.out.1.size) (by unfold maxLen;omega) (by omega) ?_;intro k E w2 f j pM y;have F:=(b.out.1.block r J).trans HH.out;have t:=(ai.1 F).1;have D:=(j.block r t R.out).trans F;obtain⟨e0,ef,e1⟩:=qM D;have d:=ah (aC f (aC j (aC D (aC (y r t R.out) (show ∀g,g<w.heap.size->(Value.slice V n T).ownBlock≠some g->(Value.slice k (n+1) E).ownBlock≠some g from fun g I hn=>y g (ax I b.out.1.size) hn)))));have q9:=ah t;have qb:=(b.out.1.cell (p:=⟨rt,0,none⟩) lt).trans Y;have H:=ax lt b.out.1.size;have qc:=(j.cell (p:=⟨rt,0,none⟩) H q8.out).trans qb;have ql:=ax H j.size;refine O.out _ _ ⟨e0,qc,e1,ql,ef⟩ ?_
 (try simp only[Act.put,aj,au,ak])
 clear f j pM y
 repeat (refine oq ?_ rfl rfl rfl ?_ ?_;rotate_left;(focus intro W m;(try dsimp only at m);obtain⟨r0,r1,r2,r3,r4⟩:=m;go_simp;first|done|with_reducible rfl);try simp only[Act.put,aj,au,ak])
 refine jC rfl rfl rfl (by kernel_rfl) ?_;intro K O;go_simp;refine O.out _ _ ?_;refine bR ?_;have M:Keep (· =r) w2 (w2.setCell ⟨r,0,none⟩ (.slice k (n+1) E)):=(Keep.refl (· =r) _).setCell (p:=⟨r,0,none⟩) (.inr rfl) _;have v:(w2.setCell ⟨r,0,none⟩ (.slice k (n+1) E)).heap[r]? =some (.cells #[.slice k (n+1) E] 75 (0,0)):=by
  simp[World.setCell,aQ,d.out.2.2.1]
 have HD:=ah (Gp r _ (n+1) _ v ⟨k,E,rfl⟩ (by omega));have Z:=ah (aC M v);clear M v;go_wp2_with (first|(go_at_call 35;go_must ((refine HD.out.mono ?_);rintro e w4 ⟨hw,rfl⟩;subst w4)))
 go_ret;refine⟨by simp,_,Z.out.2,d.out.1.keep (fun g I hl _=>⟨Z.out.1.block g hl (fun e=>d.out.2.2.2.1 (e▸I)),?_⟩),d.out.2.2.2.1,?_,d.out.2.2.2.2⟩
 ·rename_i qo
  exact qo
 ·exact(((Keep.of_below b.out.1 (fun g=>g=r\/(Value.slice V n T).ownBlock=some g)).trans (d.out.2.1.mono (fun g _ e=> .inr e)) (fun _ _ e=>e)).trans (Z.out.1.mono (fun g _ e=> .inl e)) (fun _ _ e=>e))
def sH (F:Nat->Prop)(w:World):Nat->Prop:=fun g=>g<w.heap.size/\¬F g
def jm (F:Nat->Prop)(w w':World):Nat->Prop:=fun g=>F g\/(w.heap.size<=g/\g<w'.heap.size)
def Dl {F:Nat->Prop}{w w':World}(h:w.heap.size<=w'.heap.size)(g:Nat):sH (jm F w w') w' g↔sH F w g:=by
 constructor
 ·rintro⟨b,a⟩
  have c:¬F g:=fun e=>a (.inl e)
  refine⟨?_,c⟩;apply gm;intro d;exact a (.inr ⟨by omega,b⟩)
 ·rintro⟨b,a⟩
  exact⟨by omega,fun e=>e.elim a (fun e=>by omega)⟩
def Vx (F:Nat->Prop)(w:World)(r rt:Nat)(cms:List (List Pr))(kv:List Pr)(cv:Value)(Ls:List Value):Prop:=
 w.heap[r]? =some (.cells #[cv] 75 (0,0))/\aT w (sH F w) 0 54 1 cv cms.length Ls/\cv.ownBlock≠some r/\cv.ownBlock≠some rt/\
 (∀i (hi:i<cms.length),∃Lv,Ls[i]? =some Lv/\jo w (fun g=>sH F w g\/g=r\/cv.ownBlock=some g\/g=rt) Lv cms[i])/\Ag w (fun g=>sH F w g\/g=r\/cv.ownBlock=some g) rt kv/\F r/\F rt/\r≠rt
def wX (F:Nat->Prop)(w:World)(r rt:Nat)(cms:List (List Pr))(kv:List Pr):Prop:=∃cv Ls,Vx F w r rt cms kv cv Ls
section
variable {F:Nat->Prop} {w w':World} {r rt:Nat} {cms:List (List Pr)} {kv:List Pr}
def Vx.sub {b:Value}{e:List Value}(h:Vx F w r rt cms kv b e):∀g,(sH F w g\/g=r\/b.ownBlock=some g)->g<w.heap.size:=by
 obtain⟨d,c,_⟩:=h;rintro g (a|rfl|a)
 ·exact a.1
 ·exact(ai.1 d).1
 ·exact(c.1.lt g a).2
def wX.prog (h:wX F w r rt cms kv)(x:Keep (fun g=>¬F g) w w'):wX F w' r rt cms kv:=by
 obtain⟨t,H,n,s,C,y,A,⟨E,v,o,B⟩,p,c,m⟩:=h;have l:∀g,g<w.heap.size->¬sH F w g->F g:=fun g j a=>gm fun e=>a ⟨j,e⟩
 have k:∀g,F g->¬sH F w' g:=fun g j e=>e.2 j
 have f:∀g,g<w.heap.size->F g->w'.heap[g]? =w.heap[g]? :=fun g j d=>x.block g j (fun e=>e d)
 refine⟨t,H,(f r (ai.1 n).1 p).trans n,s.keep (fun g _ b a=>⟨f g b (l g b a),k g (l g b a)⟩),C,y,fun i D=> ?_,⟨fun e=> ?_,v,(f rt (ai.1 o).1 c).trans o,aZ.keep B fun g _ b a=> ?_⟩,p,c,m⟩
 ·obtain⟨q,z,G⟩:=A i D
  refine⟨q,z,aZ.keep G fun g _ b a=> ?_⟩;have d:=l g b (fun e=>a (.inl e));exact⟨f g b d,fun e=>e.elim (k g d) (fun e=>a (.inr e))⟩
 ·exact e.elim (k rt c) (fun e=>E (.inr e))
 ·have d:=l g b (fun e=>a (.inl e))
  exact⟨f g b d,fun e=>e.elim (k g d) (fun e=>a (.inr e))⟩
def Vx.tree {a:Value}{o:List Value}{c:List Pr}(h:Vx F w r rt cms kv a o)(d:Keep (· =rt) w w')(A:Ag w' (fun g=>sH F w g\/g=r\/a.ownBlock=some g) rt c):Vx (jm F w w') w' r rt cms c a o:=by
 have C:=h.sub;obtain⟨n,q,x,m,v,D,z,j,b⟩:=h;have k:=fun g=>Dl (F:=F) d.size g
 have e:(fun g=>sH (jm F w w') w' g\/g=r\/a.ownBlock=some g)=fun g=>sH F w g\/g=r\/a.ownBlock=some g:=by
  funext g;rw[k g]
 refine⟨(d.block r (ai.1 n).1 b).trans n,q.keep (fun g s l f=>⟨d.block g l (fun e=>m (e▸s)),fun e=>f ((k g).1 e)⟩),x,m,fun i y=> ?_,by rw[e];exact A,.inl z,.inl j,b⟩;obtain⟨p,t,B⟩:=v i y;refine⟨p,t,aZ.keep B fun g _ l f=>⟨d.block g l (fun e=>f (.inr (.inr (.inr e)))),fun e=>f (e.imp (k g).1 id)⟩⟩
def wX.put (h:wX F w r rt cms kv)(b a:ByteArray)(g:fG kv)(d:kv.length<=90000):
  Calls Tryz.prog 24 #[.pointer (some ⟨rt,0,none⟩),.string b,.string a] w fun e w'=>e= .returned (.tuple #[])/\wX (jm F w w') w' r rt cms (kC kv b a)/\Keep (· =rt) w w':=by
 obtain⟨i,j,h⟩:=h;refine(Qz rt kv b a w _ h.sub h.2.2.2.2.2.1 g d).mono ?_;rintro e w' ⟨rfl,f,c⟩;exact⟨rfl,⟨i,j,h.tree c f⟩,c⟩
def wX.delete (h:wX F w r rt cms kv)(a:ByteArray)(d:fG kv)(i:kv.length<=90000):
  Calls Tryz.prog 64 #[.pointer (some ⟨rt,0,none⟩),.string a] w fun e w'=>e= .returned (.bool (dL kv a).isSome)/\wX (jm F w w') w' r rt cms (jR kv a)/\Keep (· =rt) w w':=by
 obtain⟨f,g,h⟩:=h;refine(Bt rt kv a w _ h.sub h.2.2.2.2.2.1 d (by omega)).mono ?_;rintro e w' ⟨rfl,c,b⟩;exact⟨rfl,⟨f,g,h.tree b c⟩,b⟩
def wX.get (h:wX F w r rt cms kv)(a:ByteArray)(b:fG kv)(c:kv.length<=90000):
  Calls Tryz.prog 118 #[.pointer (some ⟨rt,0,none⟩),.string a] w fun e w'=>e= .returned (.tuple #[.string ((dL kv a).getD ⟨#[]⟩),.bool (dL kv a).isSome])/\w'=w:=by
 obtain⟨d,f,h⟩:=h;exact QF rt kv a w _ h.2.2.2.2.2.1 b (by omega)
def wX.done (h:wX F w r rt cms kv)(f:cms.length<=100000):
  Calls Tryz.prog 35 #[.pointer (some ⟨r,0,none⟩)] w fun e w'=>w'=w/\e= .returned (.int .i64 ((cms.length:Int) - 1)):=by
 obtain⟨g,i,d,b,_⟩:=h;obtain⟨a,c,rfl,_⟩:=aZ.form b.dx;exact Gp r _ cms.length w d ⟨a,c,rfl⟩ (by omega)
def FM (F:Nat->Prop)(w:World)(r:Nat)(cms:List (List Pr)):Prop:=∃cv Ls,
 w.heap[r]? =some (.cells #[cv] 75 (0,0))/\aT w (sH F w) 0 54 1 cv cms.length Ls/\cv.ownBlock≠some r/\
 (∀i (hi:i<cms.length),∃Lv,Ls[i]? =some Lv/\jo w (fun g=>sH F w g\/g=r\/cv.ownBlock=some g) Lv cms[i])/\F r
def jo.less {S':Nat->Prop}{v:Value}{a:List Pr}(h:jo w S v a)(b:∀g,S' g->S g):jo w S' v a:=aZ.keep h fun g _ _ c=>⟨rfl,fun e=>c (b g e)⟩
def wX.forget (h:wX F w r rt cms kv):FM F w r cms:=by
 obtain⟨c,q,j,b,m,s,k,t,o,d,l⟩:=h;refine⟨c,q,j,b,m,fun i n=> ?_,o⟩;obtain⟨a,f,p⟩:=k i n;exact⟨a,f,p.less (fun g e=>e.imp id (fun e=>e.imp id .inl))⟩
def FM.prog (h:FM F w r cms)(q:Keep (fun g=>¬F g) w w'):FM F w' r cms:=by
 obtain⟨p,z,k,o,v,t,m⟩:=h;have j:∀g,g<w.heap.size->¬sH F w g->F g:=fun g c a=>gm fun e=>a ⟨c,e⟩
 have l:∀g,F g->¬sH F w' g:=fun g c e=>e.2 c
 have f:∀g,g<w.heap.size->F g->w'.heap[g]? =w.heap[g]? :=fun g c d=>q.block g c (fun e=>e d)
 refine⟨p,z,(f r (ai.1 k).1 m).trans k,o.keep (fun g _ b a=>⟨f g b (j g b a),l g (j g b a)⟩),v,fun i x=> ?_,m⟩;obtain⟨n,s,y⟩:=t i x;refine⟨n,s,aZ.keep y fun g _ b a=> ?_⟩;have d:=j g b (fun e=>a (.inl e));exact⟨f g b d,fun e=>e.elim (l g d) (fun e=>a (.inr e))⟩
def FM.done (h:FM F w r cms)(f:cms.length<=100000):
  Calls Tryz.prog 35 #[.pointer (some ⟨r,0,none⟩)] w fun e w'=>w'=w/\e= .returned (.int .i64 ((cms.length:Int) - 1)):=by
 obtain⟨g,i,d,b,_⟩:=h;obtain⟨a,c,rfl,_⟩:=aZ.form b.dx;exact Gp r _ cms.length w d ⟨a,c,rfl⟩ (by omega)
def wX.O5 (h:wX F w r rt cms kv)(f:cms.length<=100000):
  Calls Tryz.prog 26 #[.pointer (some ⟨r,0,none⟩),.pointer (some ⟨rt,0,none⟩),.bool false] w fun e w'=>w'=w/\e= .returned (.int .i64 ((cms.length:Int) - 1)):=by
 obtain⟨g,i,d,b,_⟩:=h;obtain⟨a,c,rfl,_⟩:=aZ.form b.dx;exact IQ _ _ r _ cms.length w rfl d ⟨a,c,rfl⟩ (by omega)
def wX.D7 (h:wX F w r rt cms kv)(p:cms.length<=100000):
  Calls Tryz.prog 26 #[.pointer (some ⟨r,0,none⟩),.pointer (some ⟨rt,0,none⟩),.bool true] w fun e w'=>e= .returned (.int .i64 cms.length)/\FM (jm F w w') w' r (cms++[kv])/\∃M:Nat->Prop,Keep M w w'/\∀g,M g->F g:=by
 obtain⟨j,z,A⟩:=h;have W:=A.sub;obtain⟨N,o,T,J,P,⟨Y,v,O,C⟩,D,I,Q⟩:=A;obtain⟨t,y,rfl,_⟩:=aZ.form C;refine(Gq r rt cms.length j t kv.length y z _ 0 w N o O (fun g d=>d.1) (aS _) p T J).mono ?_;rintro e w' ⟨rfl,b,E,S,H,x,G⟩;have B:=fun g=>Dl (F:=F) x.size g
 have c:∀g,j.ownBlock=some g->F g:=fun g d=>gm fun e=>o.2 g d ⟨(o.1.lt g d).2,e⟩
 have l:∀g,b.ownBlock=some g->j.ownBlock=some g\/w.heap.size<=g:=fun g d=>by
  apply gm;intro a;exact G g (VD fun e=>a (.inr e)) (fun e=>a (.inl e)) d
 have m:(cms++[kv]).length=cms.length+1:=by simp
 refine⟨rfl,⟨b,z++[.slice t kv.length y],E,?_,H,fun i X=> ?_,.inl D⟩,fun g=>g=r\/j.ownBlock=some g,x,fun g e=>e.elim (fun e=>e▸D) (c g)⟩
 ·rw[m]
  exact S.keep (fun g _ p a=>⟨rfl,fun e=>a ((B g).1 e)⟩)
 ·have n:∀f q,jo w (fun g=>sH F w g\/g=r\/j.ownBlock=some g) f q->jo w' (fun g=>sH (jm F w w') w' g\/g=r\/b.ownBlock=some g) f q:=fun f q R=>
   aZ.keep R fun g _ p a=>⟨x.block g p (fun e=>a (.inr e)),fun e=>by
    rcases e with e|e|e
    ·exact a (.inl ((B g).1 e))
    ·exact a (.inr (.inl e))
    ·rcases l g e with e|e
     ·exact a (.inr (.inr e))
     ·omega⟩
  have s:z.length=cms.length:=by have:=o.1.1;omega
  by_cases k:i<cms.length
  ·obtain⟨f,K,V⟩:=P i k
   refine⟨f,by rw[eF (by omega)];exact K,?_⟩;rw[Et k];exact n _ _ (V.less (fun g e=>e.imp id (fun e=>e.imp id .inl)))
  ·have e:i=cms.length:=by omega
   subst e;refine⟨.slice t kv.length y,by rw[<-s];simp,?_⟩;rw[sj (by omega)];simp only[ru,List.getElem_cons_zero];exact n _ _ C
def FM.begin {a:List Pr}(h:FM F w r (cms++[a]))(n:cms.length<=100000)(x:a.length<=100000):
  Calls Tryz.prog 22 #[.pointer (some ⟨r,0,none⟩)] w fun e w'=>∃b,e= .returned (.pointer (some ⟨b,0,none⟩))/\wX (jm F w w') w' r b (cms++[a]) a/\Below w.heap.size w w':=by
 obtain⟨W,R,A,q,M,G,O⟩:=h;have d:(cms++[a]).length=cms.length+1:=by simp
 rw[d] at q;obtain⟨g,c,rfl,D,C,J,B⟩:=q.yx (by omega);obtain⟨k,z,t⟩:=G cms.length (by rw[d];omega);have P:(cms++[a])[cms.length]'(by rw[d];omega)=a:=by simp
 rw[P] at t;have f:w.cell? ⟨g,cms.length,none⟩=some k:=by
  have:=q.1.cells (g:=g) rfl cms.length k z;rwa [dU,dX] at this
 refine(Tj r g cms.length c k a _ w A f t (by omega) ⟨D,C⟩ x).mono ?_;rintro e w' ⟨b,I,rfl,E,H,m,K,S⟩;have s:=fun g=>Dl (F:=F) m.size g
 have v:=(ai.1 A).1;have Q:g<w.heap.size:=B;have o:=(ai.1 E).1;refine⟨b,rfl,⟨_,R,(m.block r v).trans A,?_,M,?_,fun i N=> ?_,⟨?_,I,E,?_⟩,.inl O,.inr ⟨K,o⟩,by omega⟩,m⟩
 ·rw[d]
  exact q.keep (fun g V n p=>⟨m.block g n,fun e=>p ((s g).1 e)⟩)
 ·intro e
  injection e with e
  have e:g=b:=e;omega
 ·obtain⟨k,z,t⟩:=G i N
  refine⟨k,z,aZ.keep t fun j _ n p=>⟨m.block j n,fun e=> ?_⟩⟩;rcases e with e|e|e|e
  ·exact p (.inl ((s j).1 e))
  ·exact p (.inr (.inl e))
  ·exact p (.inr (.inr e))
  ·omega
 ·rintro(e|e|e)
  ·have:=((s b).1 e).1;omega
  ·omega
  ·injection e with e
   have e:g=b:=e;omega
 ·have l:=H.lo
  refine aZ.keep H.dx fun j y n _=>⟨rfl,fun e=> ?_⟩
  have T:=l j y;rcases e with e|e|e
  ·have:=((s j).1 e).1;omega
  ·omega
  ·injection e with e
   have e:g=j:=e;omega
end
variable {D:Nat->Dk->Lg->Pg->Prop}
section
variable {b:gV} {w w':World} {v t N R dn u P:Nat} {kv kv0:List Pr} {ch:Bool}
def VB.jl (h:VB b w S):Keep (fun g=>¬b.F g) b.w w:=⟨h.os,h.tape,h.output,h.size,fun k _ a=>h.block k (Classical.not_not.1 a)⟩
def VB.re (h:VB b w S):VB ⟨b.F,w,b.D⟩ w S:=⟨rfl,rfl,rfl,aD _,fun _ _=>rfl,fun g a=>ax (h.fs g a) h.size,h.lo⟩
def rf.jl (h:rf b v N R dn u kv w):Keep (fun g=>¬b.F g) b.w w:=by obtain⟨_,_,_,_,_,_,_,_,_,_,_,h,_⟩:=h;exact h.jl
def mE.jl (h:mE b v t N R dn u kv0 kv ch P w):Keep (fun g=>¬b.F g) b.w w:=by obtain⟨_,_,_,_,_,_,_,_,_,_,_,h,_⟩:=h;exact h.jl
def xZ.jl (h:xZ b v t N R dn u kv0 w):Keep (fun g=>¬b.F g) b.w w:=by obtain⟨_,_,_,_,_,_,_,_,_,h,_⟩:=h;exact h.jl
def rf.re (h:rf b v N R dn u kv w):rf ⟨b.F,w,b.D⟩ v N R dn u kv w:=by
 obtain⟨S,e,d,m,l,p,f,a,i,c,k,j,g⟩:=h;exact⟨S,e,d,m,l,p,f,a,i,c,k,j.re,g⟩
def mE.re (h:mE b v t N R dn u kv0 kv ch P w):mE ⟨b.F,w,b.D⟩ v t N R dn u kv0 kv ch P w:=by
 obtain⟨S,g,m,n,c,j,f,a,d,e,l,k,i⟩:=h;exact⟨S,g,m,n,c,j,f,a,d,e,l,k.re,i⟩
def xZ.re (h:xZ b v t N R dn u kv0 w):xZ ⟨b.F,w,b.D⟩ v t N R dn u kv0 w:=by
 obtain⟨S,e,j,k,ch,a,c,d,i,g,f⟩:=h;exact⟨S,e,j,k,ch,a,c,d,i,g.re,f⟩
def xZ.blocks (h:xZ b v t N R dn u kv0 w):
  Calls Tryz.prog 14 #[.pointer (some ⟨v,0,none⟩)] w fun e w'=>e= .returned (.int .i64 N)/\w'=w.drew:=by
 obtain⟨S,o,d,q,ch,a,k,g,c,r,n,m,p,i,_⟩:=h;obtain⟨_,_,l⟩:=c.tx;obtain⟨f,T,j,_⟩:=l.inv;refine(MI v d.pg d.d _ _ _ _ f w c.obj j.pg).mono ?_;rintro e w' ⟨rfl,rfl⟩;exact⟨by rw[i],rfl⟩
end
def Keep.out {F:Nat->Prop}{w w':World}(h:Keep (fun g=>¬F g) w w')(c:∀g,a g->F g):Keep (fun g=>¬a g) w w':=h.mono fun g _ e b=>e (c g b)
def qw (t rt:Nat)(room log err:Int)(ch:Bool):Value:= .agg #[.pointer (some ⟨t,0,none⟩),.pointer (some ⟨rt,0,none⟩),.int .i64 room,.int .i64 log,.int .i64 err,.bool ch]
def wX.WQ {F:Nat->Prop}{w:World}{r rt:Nat}{cms:List (List Pr)}{kv:List Pr}(h:wX F w r rt cms kv):∃a S,w.heap[rt]? =some (.cells #[a] 54 (0,0))/\jo w S a kv:=by
 obtain⟨d,e,_,_,_,_,_,⟨_,a,c,b⟩,_⟩:=h;exact⟨a,_,c,b⟩
def jd {d:Func}{p q:Tmp}{e:TypeId}(h:d.results=#[.cell p e,.tmp q])(a:Array Value)(w:World)(g:Nat)(y x:Value)
  (f:a.getD p undef= .pointer (some ⟨g,0,none⟩)) (j:(loadVar e ⟨g,0,none⟩).run Tryz.prog w= .ok y w) (i:a.getD q undef=x):
  (results d a).run Tryz.prog w= .ok (.tuple #[y,x]) w:=by
 have b:a[p]?.getD undef= .pointer (some ⟨g,0,none⟩):=by simpa using f
 have c:a[q]?.getD undef=x:=by simpa using i
 simp[results,h,b,c,asAddr,j]
theorem U9 (F j:Nat->Prop)(hF:∀g,j g->F g)(v r N R dn u:Nat)(kv:List Pr)(cms:List (List Pr))(w:World)(hV:rf ⟨F,w,D⟩ v N R dn u kv w)(hR:FM j w r (cms++[kv]))(hl:cms.length<=1000)(bN:kv.length<=1000)(qb:∀p∈kv,p.2.size<=49152):
  Calls Tryz.prog 69 #[.pointer (some ⟨v,0,none⟩),.pointer (some ⟨r,0,none⟩)] w fun e w'=>∃t rt F' I,e= .returned (.tuple #[qw t rt ((48+4*costs kv:Nat):Int) 32 0 false,.bool true])/\(∀g,I g->F' g)/\(∀g,F g->F' g)/\(∀g,I g->j g\/w.heap.size<=g)/\mE ⟨F',w',D⟩ v t N R dn u kv kv false (2+u) w'/\wX I w' r rt (cms++[kv]) kv/\Keep (fun g=>F g->j g) w w':=by
 have A:=aN w (.cells #[.pointer none,.pointer none,.int .i64 0,.int .i64 0,.int .i64 0,.bool false] 130);have E:=aV w (.cells #[.pointer none,.pointer none,.int .i64 0,.int .i64 0,.int .i64 0,.bool false] 130);obtain⟨n,W⟩:=nm (w.alloc (.cells #[.pointer none,.pointer none,.int .i64 0,.int .i64 0,.int .i64 0,.bool false] 130));rw[W.out] at A E;obtain⟨a,c⟩:=nm w.heap.size;have q8:rf ⟨jm F w n,n,D⟩ v N R dn u kv n:=hV.next (M:=fun _=>False) (Keep.of_below A _) (fun _ e=>e.elim);have HB:=ah q8.begin;have K:=ah (aC hV (aC hR (aC A E)));clear hV hR q8 A E;go_enter Tryz.func69,Tryz.ntmps69;go_upto_region 1 with (fail)
 rw[W.out,c.out];go_wp2_with (first|(go_at_call 21;go_must ((refine HB.out.mono ?_);rintro e Q ⟨t,rfl,G⟩;refine sO ?_)))
 refine sN ?_;have s:=G.jl;have aB:∀g,j g->jm F w n g:=fun g e=> .inl (hF g e)
 have B:jm F w n a:= .inr ⟨by rw[c.out];exact aD _,(ai.1 (by rw[<-c.out];exact K.out.2.2.2)).1⟩;have J:n.heap[a]? =some (.cells #[.pointer none,.pointer none,.int .i64 0,.int .i64 0,.int .i64 0,.bool false] 130 (0,0)):=by rw[<-c.out];exact K.out.2.2.2
 have qc:=(ai.1 J).1;have V:=(s.block a qc (fun e=>e B)).trans J;have q9:=K.out.2.1.prog (Keep.of_below K.out.2.2.1 _);have ql:=q9.prog (s.out aB);have av:=ah (ql.begin (by omega) (by omega));have d:=ah (aC G (aC s V));clear G s V q9 ql J;go_wp2_with (first|(go_at_call 22;go_must ((refine av.out.mono ?_);rintro e b ⟨rt,rfl,H,x⟩;refine sO ?_)))
 refine sN ?_;have X:mE ⟨jm (jm F w n) Q b,b,D⟩ v t N R dn u kv kv false (2+u) b:=d.out.1.re.next (M:=fun _=>False) (Keep.of_below x _) (fun _ e=>e.elim);obtain⟨vv,SP,Y,k⟩:=H.WQ;obtain⟨po,pc,rfl,_⟩:=aZ.form k;obtain⟨d0,_,dl⟩:=qM Y;have Z:=(ai.1 d.out.2.2).1;have o:=(x.block a Z).trans d.out.2.2;have bB:=(ai.1 o).1;have HC:=ah (Ti _ kv SP b k (by omega) (fun p hp=>by have:=qb p hp;omega));have bA:costs kv<=1000000:=by
  have:∀l:List Pr,(∀p∈l,p.2.size<=49152)->lW l<=97*l.length:=by
   intro l hl
   induction l with
   |nil=>exact aS _
   |cons p l ih=>
    have h1:=hl p (bf ..);have h2:=ih (fun q hq=>hl q (aX _ hq));have h3:lW (p::l)=gu p.2+lW l:=rfl;have h4:gu p.2<=97:=(by unfold gu rM;split<;>omega);rw[h3,bn];omega
  have:=this kv qb;unfold costs;omega
 obtain⟨P,p9⟩:=nm (costs kv);rw[p9.out] at HC bA;have q1:IntKind.i64.wrap (4*(P:Int))=4*(P:Int):=aG _ (by omega);have q2:IntKind.i64.wrap (48+4*(P:Int))=48+4*(P:Int):=aG _ (by omega);have m:=ah (aC X (aC H (aC x o)));have f3:b.frozen? ⟨a,0,none⟩=false/\b.frozen? ⟨a,1,none⟩=false/\b.frozen? ⟨a,2,none⟩=false/\b.frozen? ⟨a,3,none⟩=false/\b.frozen? ⟨a,4,none⟩=false/\b.frozen? ⟨a,5,none⟩=false:=by simp[World.frozen?,o]
 obtain⟨f0,f1,f2,f3,f4,f5⟩:=f3;have g3:b.cell? ⟨a,0,none⟩=some (.pointer none)/\b.cell? ⟨a,1,none⟩=some (.pointer none)/\b.cell? ⟨a,2,none⟩=some (.int .i64 0)/\b.cell? ⟨a,3,none⟩=some (.int .i64 0)/\b.cell? ⟨a,4,none⟩=some (.int .i64 0)/\b.cell? ⟨a,5,none⟩=some (.bool false):=by simp[World.cell?,o]
 obtain⟨g0,g1,g2,g3,g4,g5⟩:=g3;clear X H x k Y;go_wp2_with (first|(go_at_call 116;go_must ((refine HC.out.mono ?_);rintro e y ⟨hw,rfl⟩;subst y)))
 obtain⟨y,C⟩:=nx ((((((b.setCell ⟨a,0,none⟩ (.pointer (some ⟨t,0,none⟩))).setCell ⟨a,1,none⟩ (.pointer (some ⟨rt,0,none⟩))).setCell ⟨a,2,none⟩ (.int .i64 (48+4*(P:Int)))).setCell ⟨a,3,none⟩ (.int .i64 32)).setCell ⟨a,4,none⟩ (.int .i64 0)).setCell ⟨a,5,none⟩ (.bool false));have z:Keep (· =a) b y:=by
  rw[C];exact((((((Keep.refl (· =a) b).setCell (p:=⟨a,0,none⟩) (.inr rfl) _).setCell (p:=⟨a,1,none⟩) (.inr rfl) _).setCell (p:=⟨a,2,none⟩) (.inr rfl) _).setCell (p:=⟨a,3,none⟩) (.inr rfl) _).setCell (p:=⟨a,4,none⟩) (.inr rfl) _).setCell (p:=⟨a,5,none⟩) (.inr rfl) _
 have aA:y.heap[a]? =some (.cells #[.pointer (some ⟨t,0,none⟩),.pointer (some ⟨rt,0,none⟩),.int .i64 (48+4*(P:Int)),.int .i64 32,.int .i64 0,.bool false] 130 (0,0)):=by
  rw[C];simp[World.setCell,aQ,m.out.2.2.2]
 rw[<-C];refine jE (jd rfl _ y a _ (.bool true) rfl (mG y a 130 130 _ (0,0) _ aA kP rfl (by kernel_rfl)) rfl) rfl ?_;have af:∀g,F g->g<w.heap.size:=fun g f=>by obtain⟨_,_,_,_,_,_,_,_,_,_,_,h,_⟩:=K.out.1;exact h.fs g f
 have S:¬j a:=fun e=>by have:=af a (hF a e);have:=c.out;omega
 have di:=K.out.2.2.1.size;have qo:=d.out.2.1.size;have qo:n.heap.size<=Q.heap.size:=qo;have bC:=m.out.2.2.1.size;have dx:=z.size;have bH:=c.out;have pM:Keep (fun g=>F g->j g) w y:=by
  have k1:Keep (fun g=>F g->j g) w n:=Keep.of_below K.out.2.2.1 _;have k2:Keep (fun g=>F g->j g) w Q:=k1.trans d.out.2.1 (fun i hi e O=>absurd (Or.inl O) e);have k3:Keep (fun g=>F g->j g) w b:=k2.trans (Keep.of_below m.out.2.2.1 (fun _=>False)) (fun i _ e=>e.elim);exact k3.trans z (fun i hi e=>by omega)
 have T:Keep (fun g=>¬jm j Q b g) b y:=z.mono fun g f e O=>by
  have e:g=a:=e;subst e;rcases O with O|O
  ·exact S O
  ·have:=(ai.1 d.out.2.2).1;omega
 refine⟨t,rt,jm (jm (jm F w n) Q b) b y,jm j Q b,by rw[p9.out];rfl,fun g f=> ?_,fun g f=> .inl (.inl (.inl f)),fun g f=>f.imp id (fun e=>by omega),m.out.1.next z (fun g e=> .inl (e▸B)),m.out.2.1.prog T,pM⟩;rcases f with f|f
 ·exact .inl (.inl (.inl (hF g f)))
 ·exact .inl (.inr f)
def FM.new (w:World):
  Calls Tryz.prog 20 #[] w fun e w'=>∃r,e= .returned (.pointer (some ⟨r,0,none⟩))/\Below w.heap.size w w'/\FM (fun g=>w.heap.size<=g/\g<w'.heap.size) w' r [[]]:=by
 refine(V6 w).mono ?_;rintro e w' ⟨rfl,c,b,j,d⟩;refine⟨_,rfl,d,_,[.slice none 0 0],b,⟨?_,fun g a e=> ?_⟩,?_,fun i f=> ?_,⟨by omega,by omega⟩⟩
 ·refine⟨rfl,.inr ⟨w.heap.size,1,#[.slice none 0 0],rfl,aS _,c,by simp,by decide,rfl,rfl⟩⟩
 ·injection a with a
  subst a;exact e.2 ⟨aD _,by show w.heap.size<w'.heap.size;omega⟩
 ·intro e
  injection e with e
  have e:w.heap.size=w.heap.size+1:=e;omega
 ·have:i=0:=by simpa using f
  subst this;exact⟨_,rfl,aZ.nil _ _ _⟩
def mE.Tm {m:gV}{w:World}{v t N R dn u P:Nat}{kv kv0:List Pr}{ch:Bool}(h:mE m v t N R dn u kv0 kv ch P w)(b a:ByteArray)(g:¬tu b a):
  Calls Tryz.prog 23 #[.pointer (some ⟨t,0,none⟩),.string b,.string a] w fun e w'=>w'=w/\e= .returned (.int .i64 1):=by
 by_cases c:1<=b.size/\b.size<=128
 ·obtain⟨S,k,n,q,f,p,o,d,l,i,j,_⟩:=h
  refine(Qa t k n ch w b a j.tx.tx c (VD fun e=>g ⟨c,e⟩)).mono ?_;rintro e w' ⟨rfl,rfl⟩;exact⟨rfl,rfl⟩
 ·exact MG _ b a 1 w (h.no c) (by decide)
variable {D:Nat->Dk->Lg->Pg->Prop}
structure Fr (F F0:Nat->Prop)(w:World)(F' F0':Nat->Prop)(w':World):Prop where
 sub:∀g,F0' g->F' g
 grow:∀g,F g->F' g
 lo:∀g,F0' g->F0 g\/w.heap.size<=g
 keep:Keep (fun g=>F g->F0 g) w w'
def JV (D:Nat->Dk->Lg->Pg->Prop)(F F0:Nat->Prop)(v r N R:Nat)(cms:List (List Pr))(kv:List Pr)(w:World):Prop:=(∃u,rf ⟨F,w,D⟩ v N R cms.length u kv w)/\FM F0 w r (cms++[kv])
def rf.fs {F:Nat->Prop}{w w':World}{v N R dn u:Nat}{kv:List Pr}(h:rf ⟨F,w',D⟩ v N R dn u kv w):∀g,F g->g<w'.heap.size:=by obtain⟨_,_,_,_,_,_,_,_,_,_,_,h,_⟩:=h;exact h.fs
def mE.fs {F:Nat->Prop}{w w':World}{v t N R dn u P:Nat}{kv kv0:List Pr}{ch:Bool}(h:mE ⟨F,w',D⟩ v t N R dn u kv0 kv ch P w):∀g,F g->g<w'.heap.size:=by obtain⟨_,_,_,_,_,_,_,_,_,_,_,h,_⟩:=h;exact h.fs
def xZ.fs {F:Nat->Prop}{w w':World}{v t N R dn u:Nat}{kv0:List Pr}(h:xZ ⟨F,w',D⟩ v t N R dn u kv0 w):∀g,F g->g<w'.heap.size:=by obtain⟨_,_,_,_,_,_,_,_,_,h,_⟩:=h;exact h.fs
variable {D:Nat->Dk->Lg->Pg->Prop}
variable {D:Nat->Dk->Lg->Pg->Prop}
def JT (D:Nat->Dk->Lg->Pg->Prop)(F F0:Nat->Prop)(v r t rt N R u P:Nat)(cms:List (List Pr))(kv0 kv:List Pr)(ch:Bool)(w:World):Prop:=mE ⟨F,w,D⟩ v t N R cms.length u kv0 kv ch P w/\wX F0 w r rt (cms++[kv0]) kv
def JE (D:Nat->Dk->Lg->Pg->Prop)(F F0:Nat->Prop)(v r t rt N R u:Nat)(cms:List (List Pr))(kv0 kv:List Pr)(w:World):Prop:=xZ ⟨F,w,D⟩ v t N R cms.length u kv0 w/\wX F0 w r rt (cms++[kv0]) kv
def JT.below {F:Nat->Prop}{v r t rt N R u P:Nat}{cms:List (List Pr)}{kv0 kv:List Pr}{ch:Bool}{w w':World}(h:JT D F a v r t rt N R u P cms kv0 kv ch w)(c:∀g,a g->F g)(b:Below w.heap.size w w'):JT D (jm F w w') a v r t rt N R u P cms kv0 kv ch w'/\Fr F a w (jm F w w') a w':=
 ⟨⟨h.1.next (M:=fun _=>False) (Keep.of_below b _) (fun _ e=>e.elim),h.2.prog (Keep.of_below b _)⟩,fun g e=> .inl (c g e),fun _ e=> .inl e,fun _ e=> .inl e,Keep.of_below b _⟩
def JE.below {F:Nat->Prop}{v r t rt N R u:Nat}{cms:List (List Pr)}{kv0 kv:List Pr}{w w':World}(h:JE D F a v r t rt N R u cms kv0 kv w)(c:∀g,a g->F g)(b:Below w.heap.size w w'):JE D (jm F w w') a v r t rt N R u cms kv0 kv w'/\Fr F a w (jm F w w') a w':=
 ⟨⟨h.1.next (M:=fun _=>False) (Keep.of_below b _) (fun _ e=>e.elim),h.2.prog (Keep.of_below b _)⟩,fun g e=> .inl (c g e),fun _ e=> .inl e,fun _ e=> .inl e,Keep.of_below b _⟩
def mE.Wm {m:gV}{w:World}{v t N R dn u P:Nat}{kv kv0:List Pr}{ch:Bool}(h:mE m v t N R dn u kv0 kv ch P w)(a:ByteArray)(k:kv.length<=4090)(g:1<=a.size/\a.size<=128):
  Calls Tryz.prog 36 #[.pointer (some ⟨t,0,none⟩),.string a] w fun e w'=>e= .returned (.tuple #[.string ((dL kv a).getD ByteArray.empty),.bool (dL kv a).isSome,.int .i64 0])/\Below w.heap.size w w':=by
 obtain⟨S,x,E,B,d,z,s,b,l,i,j,D,q,n,A,o,r,C,c,y⟩:=h;refine(j.get a (by rw[<-iR,c];exact k) g).mono ?_;rintro e w' ⟨rfl,p,f⟩;exact⟨by rw[c],f⟩
def wX.scan {F:Nat->Prop}{w:World}{r rt:Nat}{cms:List (List Pr)}{kv:List Pr}(h:wX F w r rt cms kv)(b:ByteArray)(a:Int)(f:fG kv)(d:kv.length<=90000):
  Calls Tryz.prog 119 #[.pointer (some ⟨rt,0,none⟩),.string b,.int .i64 a] w fun e w'=>∃x S,e= .returned x/\jo w' S x (vR kv b a)/\Below w.heap.size w w':=by
 obtain⟨i,j,h⟩:=h;refine(Oe rt kv b a w _ h.sub h.2.2.2.2.2.1 f d).mono ?_;rintro e w' ⟨x,rfl,g,c⟩;exact⟨x,_,rfl,g,c⟩
theorem Jk (F F0:Nat->Prop)(v r t rt N R u P:Nat)(kv0 kv:List Pr)(cms:List (List Pr))(ch:Bool)(b i k n:Int)(a d:ByteArray)(w:World)(hJ:JT D F F0 v r t rt N R u P cms kv0 kv ch w)(hr:fG kv)(hl:kv.length<=4000)(hk:0<=k/\k<=255):
  Calls Tryz.prog 71 #[.agg #[.pointer (some ⟨t,0,none⟩),.pointer (some ⟨rt,0,none⟩),.int .i64 b,.int .i64 i,.int .i64 0,.bool ch],.agg #[.int .u8 k,.string a,.string d,.int .i64 n]] w fun e w'=>e= .returned (.bool true)/\Below w.heap.size w w':=by
 have K:=aN w (.cells #[.pointer (some ⟨t,0,none⟩),.pointer (some ⟨rt,0,none⟩),.int .i64 b,.int .i64 i,.int .i64 0,.bool ch] 130);have V:=aV w (.cells #[.pointer (some ⟨t,0,none⟩),.pointer (some ⟨rt,0,none⟩),.int .i64 b,.int .i64 i,.int .i64 0,.bool ch] 130);have H:(w.alloc (.cells #[.pointer (some ⟨t,0,none⟩),.pointer (some ⟨rt,0,none⟩),.int .i64 b,.int .i64 i,.int .i64 0,.bool ch] 130)).heap.size=w.heap.size+1:=by simp
 have B:=aN (w.alloc (.cells #[.pointer (some ⟨t,0,none⟩),.pointer (some ⟨rt,0,none⟩),.int .i64 b,.int .i64 i,.int .i64 0,.bool ch] 130)) (.cells #[.int .u8 k,.string a,.string d,.int .i64 n] 37);have j:=aV (w.alloc (.cells #[.pointer (some ⟨t,0,none⟩),.pointer (some ⟨rt,0,none⟩),.int .i64 b,.int .i64 i,.int .i64 0,.bool ch] 130)) (.cells #[.int .u8 k,.string a,.string d,.int .i64 n] 37);have o:=(B.block _ (by rw[H];omega)).trans V;rw[H] at j;have f:=K.trans (B.mono K.size);obtain⟨A,X⟩:=nm (((w.alloc (.cells #[.pointer (some ⟨t,0,none⟩),.pointer (some ⟨rt,0,none⟩),.int .i64 b,.int .i64 i,.int .i64 0,.bool ch] 130)).alloc (.cells #[.int .u8 k,.string a,.string d,.int .i64 n] 37)));rw[X.out] at j o f;obtain⟨q,p9⟩:=nm w.heap.size;rw[p9.out] at j o;have Y:mE ⟨jm F w A,A,D⟩ v t N R cms.length u kv0 kv ch P A:=hJ.1.next (M:=fun _=>False) (Keep.of_below f _) (fun _ e=>e.elim);have pM:=hJ.2.prog (Keep.of_below f (fun g=>¬F0 g));have HB:=ah f;have I:=ah (show ∀W:World,Below A.heap.size A W->W.cell? ⟨q,0,none⟩=some (.pointer (some ⟨t,0,none⟩))/\W.cell? ⟨q,1,none⟩=some (.pointer (some ⟨rt,0,none⟩))/\W.cell? ⟨q,4,none⟩=some (.int .i64 0)/\W.cell? ⟨q+1,0,none⟩=some (.int .u8 k)/\W.cell? ⟨q+1,1,none⟩=some (.string a)/\W.cell? ⟨q+1,3,none⟩=some (.int .i64 n)/\q<W.heap.size/\q+1<W.heap.size from fun W hW=>by
  have l1:=(ai.1 o).1
  have l2:=(ai.1 j).1
  have e1:=(hW.block q l1).trans o
  have e2:=(hW.block (q+1) l2).trans j
  exact⟨by simp[World.cell?,e1],by simp[World.cell?,e1],by simp[World.cell?,e1],by simp[World.cell?,e2],by simp[World.cell?,e2],by simp[World.cell?,e2],ax l1 hW.size,ax l2 hW.size⟩)
 have HJ:=ah (aC Y pM);clear K V H B j o f Y pM hJ;obtain⟨a0,a1,a4,o0,o1,o3,l1,l2⟩:=I.out A (aR _ _);go_enter Tryz.func71,Tryz.ntmps71;go_upto_region 1 with (fail)
 rw[X.out,p9.out]
 by_cases q9:k%8=2
 ·by_cases T:1<=a.size/\a.size<=128
  ·have HG:=ah (HJ.out.1.Wm a (by omega) T)
   go_wp2_with (first|(go_at_call 36;go_must ((refine HG.out.mono ?_);rintro e S ⟨rfl,c⟩;refine sO ?_)))
   refine sN ?_;have p:=ah (AL a ⟨#[]⟩ S);have l:decide (tu a ⟨#[]⟩)=true:=d9 ⟨T,by decide⟩;rw[l] at p;have m:=HJ.out.2.prog (Keep.of_below c (fun g=>¬F0 g));have qb:=ah (m.get a hr (by omega));have E:=ah c;obtain⟨a0,a1,a4,o0,o1,o3,l1,l2⟩:=I.out S c;clear c m l;obtain⟨lv,O⟩:=nx ((dL kv a).getD ByteArray.empty);obtain⟨lb,Q⟩:=nx ((dL kv a).isSome);have z:(dL kv a).getD ⟨#[]⟩=lv:=O.symm;rw[z,<-Q] at qb;rw[<-O,<-Q];clear O Q z T;go_wp2_with (first|(go_at_call 18;go_must ((refine p.out.mono ?_);rintro e C ⟨hw,rfl⟩;subst C))|(go_at_call 118;go_must ((refine qb.out.mono ?_);rintro e C ⟨rfl,hw⟩;subst C)))
   go_ret;exact⟨by simp,HB.out.trans (E.out.mono HB.out.size)⟩
  ·have hG:=MH (some ⟨t,0,none⟩) a 1 A (HJ.out.1.no T) (by decide)
   obtain⟨es,G⟩:=nx ByteArray.empty;rw[<-G] at hG;have s:es.size=0:=(by rw[G];rfl);obtain⟨z1,z2⟩:=(AB es).1 s;have av:max (0:Int) 1=1:=(by omega);have af:∀W:World,(Builtin.max_ #[3,3] 3 #[.int .i64 0,.int .i64 1]).run Tryz.prog W= .ok (.int .i64 1) W:=fun W=>by rw[run_max_int2];rfl
   clear s;have HG:=ah hG;clear hG G;have p:=ah (AL a ⟨#[]⟩ A);have l:decide (tu a ⟨#[]⟩)=false:=bM (fun h=>T h.1);rw[l] at p;clear l T;go_wp2_with (first|(go_at_call 36;go_must ((refine HG.out.mono ?_);rintro e S ⟨hw,rfl⟩;subst S))|(go_at_call 18;go_must ((refine p.out.mono ?_);rintro e C ⟨hw,rfl⟩;subst C)))
   go_ret;exact⟨by simp,HB.out⟩
 ·have HS:=ah (HJ.out.1.scan a n (by omega))
  go_wp2_with (first|(go_at_call 29;go_must ((refine HS.out.mono ?_);rintro e S ⟨x,rfl,hx,-,c⟩;refine sO ?_)))
  refine sN ?_;have m:=HJ.out.2.prog (Keep.of_below c (fun g=>¬F0 g));have ql:=ah (m.scan a n hr (by omega));have HX:=ah hx;have E:=ah c;obtain⟨a0,a1,a4,o0,o1,o3,l1,l2⟩:=I.out S c;clear hx c m;go_wp2_with (first|(go_at_call 119;go_must ((refine ql.out.mono ?_);rintro e C ⟨y,S2,rfl,hy,J⟩;refine sO ?_)))
  refine sN ?_;have Z:=(HX.out.below J).dx;have qc:=ah (IA x y _ C gB S2 Z hy);have qo:=ah J;clear J hy Z;go_wp2_with (first|(go_at_call 30;go_must ((refine qc.out.mono ?_);rintro e w5 ⟨rfl,q8⟩;refine sO ?_)))
  refine sN ?_;go_wp2_with fail;go_ret;have h1:=HB.out.trans (E.out.mono HB.out.size);have h2:=h1.trans (qo.out.mono h1.size);exact⟨by simp,h2.trans (q8.mono h2.size)⟩
variable {D:Nat->Dk->Lg->Pg->Prop}
theorem Jj (F T:Nat->Prop)(v r t rt N R u:Nat)(kv0 kv:List Pr)(cms:List (List Pr))(ch:Bool)(a f k n:Int)(b c:ByteArray)(w:World)(J:JE D F T v r t rt N R u cms kv0 kv w)(hk:0<=k/\k<=255):
  Calls Tryz.prog 71 #[.agg #[.pointer (some ⟨t,0,none⟩),.pointer (some ⟨rt,0,none⟩),.int .i64 a,.int .i64 f,.int .i64 12,.bool ch],.agg #[.int .u8 k,.string b,.string c,.int .i64 n]] w fun e w'=>e= .returned (.bool true)/\Below w.heap.size w w':=by
 have x:=aN w (.cells #[.pointer (some ⟨t,0,none⟩),.pointer (some ⟨rt,0,none⟩),.int .i64 a,.int .i64 f,.int .i64 12,.bool ch] 130);have y:=aV w (.cells #[.pointer (some ⟨t,0,none⟩),.pointer (some ⟨rt,0,none⟩),.int .i64 a,.int .i64 f,.int .i64 12,.bool ch] 130);have p:(w.alloc (.cells #[.pointer (some ⟨t,0,none⟩),.pointer (some ⟨rt,0,none⟩),.int .i64 a,.int .i64 f,.int .i64 12,.bool ch] 130)).heap.size=w.heap.size+1:=by simp
 have q:=aN (w.alloc (.cells #[.pointer (some ⟨t,0,none⟩),.pointer (some ⟨rt,0,none⟩),.int .i64 a,.int .i64 f,.int .i64 12,.bool ch] 130)) (.cells #[.int .u8 k,.string b,.string c,.int .i64 n] 37);have i:=aV (w.alloc (.cells #[.pointer (some ⟨t,0,none⟩),.pointer (some ⟨rt,0,none⟩),.int .i64 a,.int .i64 f,.int .i64 12,.bool ch] 130)) (.cells #[.int .u8 k,.string b,.string c,.int .i64 n] 37);have j:=(q.block _ (by rw[p];omega)).trans y;rw[p] at i;have d:=x.trans (q.mono x.size);obtain⟨o,z⟩:=nm (((w.alloc (.cells #[.pointer (some ⟨t,0,none⟩),.pointer (some ⟨rt,0,none⟩),.int .i64 a,.int .i64 f,.int .i64 12,.bool ch] 130)).alloc (.cells #[.int .u8 k,.string b,.string c,.int .i64 n] 37)));rw[z.out] at i j d;obtain⟨l,B⟩:=nm w.heap.size;rw[B.out] at i j;have A:xZ ⟨jm F w o,o,D⟩ v t N R cms.length u kv0 o:=J.1.next (M:=fun _=>False) (Keep.of_below d _) (fun _ e=>e.elim);have C:=J.2.prog (Keep.of_below d (fun g=>¬T g));have V:=ah d;have K:=ah (show ∀W:World,Below o.heap.size o W->W.cell? ⟨l,0,none⟩=some (.pointer (some ⟨t,0,none⟩))/\W.cell? ⟨l,1,none⟩=some (.pointer (some ⟨rt,0,none⟩))/\W.cell? ⟨l,4,none⟩=some (.int .i64 12)/\W.cell? ⟨l+1,0,none⟩=some (.int .u8 k)/\W.cell? ⟨l+1,1,none⟩=some (.string b)/\W.cell? ⟨l+1,3,none⟩=some (.int .i64 n)/\l<W.heap.size/\l+1<W.heap.size from fun W E=>by
  have Q:=(ai.1 j).1
  have S:=(ai.1 i).1
  have P:=(E.block l Q).trans j
  have I:=(E.block (l+1) S).trans i
  exact⟨by simp[World.cell?,P],by simp[World.cell?,P],by simp[World.cell?,P],by simp[World.cell?,I],by simp[World.cell?,I],by simp[World.cell?,I],ax Q E.size,ax S E.size⟩)
 have Y:=ah (aC A C);clear x y p q i j d A C J;obtain⟨a0,a1,a4,o0,o1,o3,Q,S⟩:=K.out o (aR _ _);go_enter Tryz.func71,Tryz.ntmps71;go_upto_region 1 with (fail)
 rw[z.out,B.out];have G:=fun b=>Y.out.1.usable b
 by_cases Z:k%8=2
 ·have O:=MH (some ⟨t,0,none⟩) b 12 o (G b) (by decide)
  obtain⟨X,s⟩:=nx ByteArray.empty;rw[<-s] at O;have m:X.size=0:=by rw[s];rfl
  obtain⟨z1,z2⟩:=(AB X).1 m;have pM:max (12:Int) 1=12:=by omega
  have p9:∀W:World,(Builtin.max_ #[3,3] 3 #[.int .i64 12,.int .i64 1]).run Tryz.prog W= .ok (.int .i64 12) W:=fun W=>by rw[run_max_int2];rfl
  have HG:=ah O;clear O s m G;go_wp2_with (first|(go_at_call 36;go_must ((refine HG.out.mono ?_);rintro e H ⟨hw,rfl⟩;subst H)))
  go_ret;exact⟨by simp,V.out⟩
 ·have HS:=ah (P9 (some ⟨t,0,none⟩) b n 12 o (G _) (by decide))
  clear G;go_wp2_with (first|(go_at_call 29;go_must ((refine HS.out.mono ?_);rintro e H ⟨hw,rfl⟩;subst H)))
  go_ret;exact⟨by simp,V.out⟩
