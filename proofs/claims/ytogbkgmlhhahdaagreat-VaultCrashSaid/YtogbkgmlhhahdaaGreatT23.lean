--
import Derived.Test.YtogbkgmlhhahdaaGreatT22
import Derived.Shelf.Strings.Builder1
import Derived.Laws.IdiomStrings
set_option maxRecDepth 100000
set_option maxHeartbeats 0
set_option linter.all false
namespace Go.Proofs.YtogbkgmlhhahdaaGreat
open Go.RowKit
variable{c:List (Nat×Nat)}{l:List UInt8}{B a b:Nat}{S:Nat->Prop}{v:Value}{w:World}
def DR (a:List Nd)(k:Nat)(h:k<a.length):(a.take (k+1)).flatMap (·.kids)=(a.take k).flatMap (·.kids)++a[k].kids:=by
 rw[aL h,oM,iY,VF,dM]
def Rt (a:List Nd)(k:Nat):((a.take k).flatMap (·.kids)).length<=(a.flatMap (·.kids)).length:=by
 have:(a.take k).flatMap (·.kids)++(a.drop k).flatMap (·.kids)=a.flatMap (·.kids):=by rw[<-oM,bJ]
 rw[<-this];simp
theorem J5 (t:Nat)(f:VS)(S:Nat->Prop)(w:World)(c:dw w t f 0 0):
  Calls Tryz.prog 46 #[.pointer (some ⟨t,0,none⟩)] w fun e b=>∃v,e= .returned (.tuple #[v,.int .i64 0])/\aT b S w.heap.size 3 1 v (qG []).length ((qG []).map (.int .i64))/\Below w.heap.size w b:=by
 obtain⟨_,k,_,_,_,_,i⟩:=cells3 c;go_enter Tryz.func46,Tryz.ntmps46;go_wp2_with (first|(go_at_call 92;go_must ((refine(oG t f 0 0 _ c).mono ?_);rintro e g ⟨rfl,m⟩;subst g)))
 go_loopw [5,6,7,8,10,11,12] (fun o l _ _ _ _ _ wr=>o= .slice none 0 0/\l= .slice none 0 0/\Below w.heap.size w wr) (fun _ _ _ _ _ _ _ _=>0)
 case atStart=>exact⟨rfl,rfl,aN w _⟩
 case round=>
  obtain⟨rfl,rfl,d⟩:=hrel;go_wp2_with (first|(go_at_call 50;go_must ((refine(zu (.slice none 0 0) [] _ S w.heap.size (aT.nil _ _ _ _ _) (by simp) d.size).mono ?_);rintro e n ⟨rfl,j,a⟩)))
  go_ret2;exact⟨_,rfl,j,d.trans a⟩
theorem J6 (t:Nat)(Y:VS)(f:Int)(σ:cK)(S:Nat->Prop)(w:World)(h:Inv σ S Y w)(ht:dw w t Y f 0)(hr:f≠0)(n:Nat)(T:List Int)(hn:n<=12)(hB:BL σ n [f] T)(hl:T.length<=9000):
  Calls Tryz.prog 46 #[.pointer (some ⟨t,0,none⟩)] w fun e w'=>∃v,e= .returned (.tuple #[v,.int .i64 0])/\aT w' S w.heap.size 3 1 v (qG T).length ((qG T).map (.int .i64))/\Below w.heap.size w w':=by
 obtain⟨_,c1,_,_,_,_,ql⟩:=cells3 ht;have z:=h.sub;have j4:(f==0)=false:=by simpa using hr
 have HB:=ah hB;clear hB;have h0:aT (w.alloc (.cells #[.int .i64 f] 3)) S w.heap.size 3 1 (.slice (some ⟨w.heap.size,0,none⟩) 1 1) 1 [.int .i64 f]:=mX (w:=w) (S:=S) (B:=w.heap.size) (e:=3) (k:=1) [.int .i64 f] 1 1 rfl rfl (aD _) (by simp[maxLen]) (aD _) z;go_enter Tryz.func46,Tryz.ntmps46;go_wp2_with (first|(go_at_call 92;go_must ((refine(oG t Y f 0 _ ht).mono ?_);rintro e w1 ⟨rfl,hw⟩;subst w1)))
 go_loopw [5,6,7,8,10,11,12] (fun o l x _ _ _ _ wr=>∃(O L T':List Int) (d m:Nat),x= .int .i64 d/\d+m<=12/\aT wr S w.heap.size 3 1 o O.length (O.map (.int .i64))/\aT wr S w.heap.size 3 1 l L.length (L.map (.int .i64))/\BL σ m L T'/\O++T'=T/\Below w.heap.size w wr) (fun _ _ x _ _ _ _ _=>13 - (intOf x).toNat)
 case atStart=>exact⟨[],[f],T,0,n,rfl,by omega,aT.nil _ _ _ _ _,h0,HB.out,rfl,aN w _⟩
 case round=>
  clear h0;obtain⟨O,L,T',d,m,rfl,j3,hO,hL,fo,M,p⟩:=hrel;have Q:O.length+T'.length<=9000:=by rw[<-ay,M];exact hl
  cases fo with
  |done=>
   rw[dM] at M;have HT:=ah M;clear M;obtain⟨ao,c,rfl,_,_,_,_⟩:=aZ.form hL.dx;go_wp2_with (first|(go_at_call 50;go_must ((refine(zu _ O _ S w.heap.size hO (by omega) p.size).mono ?_);rintro e w2 ⟨rfl,ho,af⟩)))
   go_ret2;rw[HT.out] at ho;exact⟨_,rfl,ho,p.trans af⟩
  |@step m _ j T2 N bN E V=>
   have bB:=ah E;clear E;have W:=ah V;clear V;have HT:=ah M;clear M;have fB:=W.out.le;have C:=Rt j;have aB:=ah C;clear C;rw[ay] at Q;obtain⟨ao,c,rfl,_,_,_,_⟩:=aZ.form hL.dx;obtain⟨oo,oc,rfl,_,_,_,_⟩:=aZ.form hO.dx;have jl:0<L.length:=dD.2 N;have fK:(0:Int)<(L.length:Int):=(by omega);clear N;have pM:(d:Int)<=40:=(by omega);obtain⟨wo,rfl⟩:=nx wr;go_wp2_with fail;go_loopw [8,10,11,12,35] (fun v _ _ _ i wk=>∃k:Nat,k<=L.length/\i= .int .i64 k/\aT wk S wo.heap.size 3 1 v ((j.take k).flatMap (·.kids)).length (((j.take k).flatMap (·.kids)).map (.int .i64))/\Below wo.heap.size wo wk) (fun _ _ _ _ i _=>L.length - (intOf i).toNat)
   case atStart=>exact⟨0,by omega,rfl,aT.nil _ _ _ _ _,aR _ _⟩
   case round=>
    obtain⟨k,hk,rfl,Z,y⟩:=hrel;have s:=p.trans (y.mono p.size);obtain⟨Fk,q⟩:=nx ((j.take k).flatMap (·.kids));rw[<-q] at Z;obtain⟨vo,vc,rfl,_,_,_,_⟩:=aZ.form Z.dx
    by_cases I:k<L.length
    ·have F:k<j.length:=by omega
     have hb:=bB.out k I F;obtain⟨pb,po,rfl,d1⟩:=jV.at (zs:=L) (hL.dx.below y) rfl k I;have iO:=aF wr _ d1;have fA:(k:Int)<(L.length:Int):=(by omega);have dR:=aB.out (k+1);rw[DR j k F,<-q,ay] at dR;have J:=DR j k F;rw[<-q] at J;clear q;have dn:=ah J;clear J;have av:=h.below s;have qc:dw wr t Y f 0:=(s.block t ql).trans ht;go_wp2_with (first|(go_at_call 93;go_must ((refine(nM t Y f 0 L[k] d σ S j[k] _ av qc hb pM).mono ?_);rintro e w1 ⟨nb,rfl,p9,K⟩;refine sO ?_)))
     refine sN ?_;obtain⟨_,v0,v1,v2,dZ,_,_,R⟩:=p9.jO;obtain⟨_,_,e2,_,_,_,jO⟩:=cells3 dZ;have A:=aZ.src (P:=Tryz.prog) R bE (rH _);obtain⟨ko,kc,rfl,_,_,_,_⟩:=aZ.form R;have bC:=Z.below K;have D:=y.trans (K.mono y.size);have r:∀g,S g->g<w1.heap.size:=fun g hg=>ax (z g hg) (aK s.size K.size)
     go_wp2_with (first|(at_builtin;(refine cO rfl (.tmp 49) (.tmp 53) 93 93 rfl S wo.heap.size 3 1 8 _ bE iq rfl (.slice vo Fk.length vc) Fk.length _ rfl bC (.slice ko j[k].kids.length kc) j[k].kids.length _ rfl A r D.size (by unfold maxLen;omega) (by omega) ?_);go_must (intro j6 c6 w6 G jF aA jb;refine sO ?_)))
     refine sN ?_;go_wp2_with fail;go_roundw
     case rel=>exact⟨k+1,by omega,by go_num,by rw[dn.out,ay,bT];exact G,D.trans aA⟩
     case measure=>simp[intOf];omega
    ·have q9:k=L.length:=by omega
     subst q9;rw[<-bN,bS] at q;have X:=ah q;clear q;have jv:Fk.length<=9000:=(by rw[X.out];omega);have A:=aZ.src (P:=Tryz.prog) (hL.dx.below y) bE (rH _);have r:∀g,S g->g<wr.heap.size:=fun g hg=>ax (z g hg) s.size
     have q8:=hO.below y;clear hk I;have fJ:(j.flatMap (·.kids)).length<=9000:=by omega
     have bA:=s.size;go_wp2_with (first|(at_builtin;(refine cO rfl (.tmp 56) (.tmp 57) 93 93 rfl S w.heap.size 3 1 8 _ bE iq rfl (.slice oo O.length oc) O.length _ rfl q8 (.slice ao L.length c) L.length _ rfl A r bA (by unfold maxLen;omega) (by omega) ?_);go_must (intro kg c7 w7 H qb dx j5;refine sO ?_)))
     refine sN ?_;have bH:=Z.keep (w':=w7) (S':=S) fun g qo di hs=>⟨qb.block g di (fun e=>by
      have a:=Z.lo g qo
      have b:=(hO.1.lt g e).2
      omega),hs⟩
     go_wp2_with fail;go_roundw
     case rel=>exact⟨O++L,j.flatMap (·.kids),T2,d+1,m,by go_num,by omega,by rw[ay,bT];exact H,by rw[<-X.out];exact bH.base p.size,W.out,by rw[aM,HT.out],s.trans dx⟩
     case measure=>simp[intOf];omega
def zy (r:Nat×Nat):List Nat:=(List.range r.2).map (r.1+ ·)
def fV (rs:List (Nat×Nat)):List Nat:=rs.flatMap zy
def K4 (r:Nat×Nat)(a:List (Nat×Nat)):fV (r::a)=zy r++fV a:=rfl
def pz (a b:List (Nat×Nat)):fV (a++b)=fV a++fV b:=by simp[fV]
def vS (r:Nat×Nat):(zy r).length=r.2:=by simp[zy]
def Be (rs:List (Nat×Nat))(b:Nat):List (Nat×Nat):=
 match rs.getLast? with
 |some r=>if r.1+r.2=b/\r.2<255 then rs.dropLast++[(r.1,r.2+1)] else rs++[(b,1)]
 |none=>[(b,1)]
def EZ (f n:Nat):zy (f,n+1)=zy (f,n)++[f+n]:=by simp[zy,List.range_succ]
def K5 (c:List (Nat×Nat))(b:Nat):fV (Be c b)=fV c++[b]:=by
 unfold Be
 split
 ·rename_i r a
  obtain⟨l,rfl⟩:=List.getLast?_eq_some_iff.1 a
  split
  ·rename_i h
   rw[List.dropLast_concat,pz,pz,aM];congr 1;obtain⟨f,n⟩:=r;show zy (f,n+1)++[]=(zy (f,n)++[])++[b];have d:f+n=b:=h.1;rw[EZ,d];simp
  ·rw[pz];simp[fV,zy]
 ·rename_i a
  rw[List.getLast?_eq_none_iff] at a;subst a;simp[fV,zy]
def rY (rs:List (Nat×Nat)):Prop:=∀r∈rs,1<=r.2/\r.2<=255/\r.1+r.2<=65536
def rY.add (h:rY c)(b:Nat)(e:b<65536):rY (Be c b):=by
 unfold Be
 split
 ·rename_i r d
  obtain⟨l,rfl⟩:=List.getLast?_eq_some_iff.1 d
  split
  ·rename_i f
   rw[List.dropLast_concat];intro q a;rcases bU.1 a with a|a
   ·exact h q (dh _ a)
   ·have:=h r (by simp)
    rw[bQ.1 a];show 1<=r.2+1/\r.2+1<=255/\r.1+(r.2+1)<=65536;omega
  ·intro q a
   rcases bU.1 a with a|a
   ·exact h q a
   ·rw[bQ.1 a]
    show 1<=1/\1<=255/\b+1<=65536;omega
 ·intro q a
  rw[bQ.1 a];show 1<=1/\1<=255/\b+1<=65536;omega
def rY.le {a:List (Nat×Nat)}(h:rY a):a.length<=(fV a).length:=by
 induction a with
 |nil=>exact aS _
 |cons r a ih=>
  have c:=h r (bf ..);have:=ih (fun q b=>h q (aX _ b));rw[K4,ay,vS,bn];omega
def tJ (r:Nat×Nat):List UInt8:=[UInt8.ofNat r.1,UInt8.ofNat (r.1/256),UInt8.ofNat r.2]
def encR (size:Nat)(rs:List (Nat×Nat)):List UInt8:=[177,UInt8.ofNat size,UInt8.ofNat (size/256),UInt8.ofNat rs.length]++rs.flatMap tJ
def BD (b:Nat)(a:List (Nat×Nat)):(encR b a).length=4+3*a.length:=by
 have:(a.flatMap tJ).length=3*a.length:=by
  induction a with
  |nil=>rfl
  |cons r a ih=>rw[iY,ay,ih,bn];simp[tJ];omega
 unfold encR;rw[ay,this];simp only[bn,bV]
def jB (rs:List (Nat×Nat)):List Value:=rs.flatMap fun r=>[.int .i64 r.1,.int .i64 r.2]
def vB (a b:List (Nat×Nat)):jB (a++b)=jB a++jB b:=by simp[jB]
def IC (a:List (Nat×Nat))(i:Nat)(h:i<a.length):(jB a)[i*2]? =some (.int .i64 a[i].1)/\(jB a)[i*2+1]? =some (.int .i64 a[i].2):=by
 induction a generalizing i with
 |nil=>simp at h
 |cons r a ih=>
  cases i with
  |zero=>exact⟨rfl,rfl⟩
  |succ i=>
   have:=ih i (by simpa using h);rw[show (i+1)*2=i*2+2 by omega];exact this
structure nQ (w:World)(S:Nat->Prop)(B lb size:Nat)(rs:List (Nat×Nat))(v:Value):Prop where
 obj:w.heap[lb]? =some (.cells #[.int .i64 size,v] 186 (0,0))
 own:aT w S B 236 2 v rs.length (jB rs)
 lo:B<=lb
 ns:¬S lb
def nQ.below {w':World}(h:nQ w S B b a c v)(d:Below w.heap.size w w'):nQ w' S B b a c v:=
 ⟨(d.block b (ai.1 h.obj).1).trans h.obj,h.own.below d,h.lo,h.ns⟩
def nQ.step {w w':World}{S S':Nat->Prop}{B b a:Nat}{d:List (Nat×Nat)}{v:Value}(h:nQ w S B b a d v)(c:Step S S' w w'):nQ w' S' B b a d v:=by
 have e:=(ai.1 h.obj).1;exact⟨(c.1.block b e h.ns).trans h.obj,h.own.step c,h.lo,fun x=>(c.2 b x).elim h.ns (fun y=>absurd e (bg.2 y))⟩
def K3 (a:List (Nat×Nat))(k:Nat)(h:k<a.length):fV (a.take (k+1))=fV (a.take k)++zy a[k]:=by
 rw[aL h,pz];simp[fV]
def yj (a:List (Nat×Nat))(k:Nat):(fV (a.take k)).length<=(fV a).length:=by
 have:fV a=fV (a.take k)++fV (a.drop k):=by rw[<-pz,bJ]
 rw[this,ay];omega
def ints (l:List Nat):List Value:=l.map fun (b:Nat)=>Value.int .i64 (b:Int)
def Jr (a b:List Nat):ints (a++b)=ints a++ints b:=by simp[ints]
def Nh (l:List Nat):ints l=(l.map fun (b:Nat)=>(b:Int)).map (.int .i64):=by simp[ints]
def El (w:World)(S:Nat->Prop)(v:Value)(rs:List (Nat×Nat)):Prop:=aZ w S 2 v rs.length (jB rs)
def El.at {rs:List (Nat×Nat)}{d:Option Addr}{n c:Nat}(h:El w S v rs)(l:v= .slice d n c)(i:Nat)(k:i<rs.length):
  ∃b o,d=some ⟨b,o,none⟩/\w.cell? ⟨b,o+i*2,none⟩=some (.int .i64 rs[i].1)/\w.cell? ⟨b,o+i*2+1,none⟩=some (.int .i64 rs[i].2):=by
 obtain⟨j,g⟩:=IC rs i k;obtain⟨m,q,rfl,_,_,_,_,_,f⟩:=h;cases l
 obtain⟨b,o,rfl,p⟩:=f (i*2) _ j;obtain⟨r,s,e,a⟩:=f (i*2+1) _ g;cases e
 exact⟨b,o,rfl,p,by rw[mP];exact a⟩
theorem He (G s:Nat)(a:List (Nat×Nat))(lv:Value)(B:Nat)(S:Nat->Prop)(w:World)(h:nQ w S B G s a lv)(hS:∀g,S g->g<w.heap.size)(P:rY a)(hl:(fV a).length<=1000):
  Calls Tryz.prog 97 #[.pointer (some ⟨G,0,none⟩)] w fun e w'=>∃v,e= .returned v/\aT w' S w.heap.size 3 1 v (fV a).length (ints (fV a))/\Below w.heap.size w w':=by
 obtain⟨ao,c,rfl,n0,m0,_,_⟩:=aZ.form h.own.dx;have A:=h.own.dx;have c0:w.cell? ⟨G,0,none⟩=some (.int .i64 s):=by simp[World.cell?,h.obj]
 have c1:w.cell? ⟨G,1,none⟩=some (.slice ao a.length c):=by simp[World.cell?,h.obj]
 have q9:G<w.heap.size:=(ai.1 h.obj).1;have av:=P.le;have V:=ah P;have Z:=ah A;clear h A P;go_enter Tryz.func97,Tryz.ntmps97;go_wp2_with fail;go_loopw [3,5,6,12,18] (fun o _ _ i _ wr=>∃k:Nat,k<=a.length/\i= .int .i64 k/\aT wr S w.heap.size 3 1 o (fV (a.take k)).length (ints (fV (a.take k)))/\Below w.heap.size w wr) (fun _ _ _ i _ _=>a.length - (intOf i).toNat)
 case atStart=>exact⟨0,by omega,rfl,by rw[iM];exact aT.nil _ _ _ _ _,aR _ _⟩
 case round=>
  obtain⟨k,hk,rfl,I,z⟩:=hrel;have Y:=yj a k;obtain⟨F,C⟩:∃F,Hid (F=fV (a.take k)):=⟨_,ah rfl⟩
  rw[<-C.out] at I Y;obtain⟨oo,oc,rfl,_,_,_,_⟩:=aZ.form I.dx
  by_cases y:k<a.length
  ·have x1:(k:Int)<(a.length:Int):=by omega
   obtain⟨pb,po,rfl,Q,M⟩:=El.at Z.out rfl k y;have D:=(z.cell (p:=⟨pb,po+k*2,none⟩) (aF w _ Q)).trans Q;have W:=(z.cell (p:=⟨pb,po+k*2+1,none⟩) (aF w _ M)).trans M;have qb:=aF wr _ D;have HT:=ah (K3 a k y);have q:=yj a (k+1);rw[HT.out,<-C.out,ay,vS] at q;have O:=V.out a[k] (bF y);obtain⟨f,J⟩:=nx (a[k].1);obtain⟨n,K⟩:=nx (a[k].2);have r:a[k]=(f,n):=(by rw[J,K]);rw[<-J,<-K] at O;rw[<-J] at D;rw[<-K] at W q;have H:=ah r;clear J K r Q M;obtain⟨d,rfl⟩:=nx wr;have t:=aN d (.cells #[.int .i64 f,.int .i64 n] 236);have T:(d.alloc (.cells #[.int .i64 f,.int .i64 n] 236)).heap[d.heap.size]? =some (.cells #[.int .i64 f,.int .i64 n] 236 (0,0)):=aV d _;go_wp2_with fail;generalize bA:d.alloc (.cells #[.int .i64 f,.int .i64 n] 236)=wA at t T ⊢;have bB:d.heap.size<wA.heap.size:=(ai.1 T).1;go_loopw [3,6,18] (fun o _ i R=>∃j:Nat,j<=n/\i= .int .i64 j/\aT R S w.heap.size 3 1 o (F.length+j) (ints (F++zy (f,j)))/\Below w.heap.size w R/\R.heap[d.heap.size]? =some (.cells #[.int .i64 f,.int .i64 n] 236 (0,0))) (fun _ _ i _=>n - (intOf i).toNat)
   case atStart=>exact⟨0,by omega,rfl,by simpa [zy] using I.below t,z.trans (t.mono z.size),T⟩
   case round=>
    obtain⟨j,hj,rfl,m,b,l⟩:=hrel;obtain⟨qo,qc,rfl,_,_,_,_⟩:=aZ.form m.dx;have r0:wr.cell? ⟨d.heap.size,0,none⟩=some (.int .i64 f):=(by simp[World.cell?,l]);have af:=(ai.1 l).1
    by_cases q8:j<n
    ·have y1:(j:Int)<(n:Int):=by omega
     have HR:=ah (EZ f j);have pM:∀g,S g->g<wr.heap.size:=fun g hg=>ax (hS g hg) b.size
     have aB:=b.size;go_wp2_with (first|(at_builtin;go_must ((refine cO rfl (.tmp 21) (.tmp 26) 93 93 rfl S w.heap.size 3 1 8 _ bE iq rfl (.slice qo (F.length+j) qc) _ _ rfl (m.below (aN _ _)) _ 1 _ rfl (gq [.int .i64 ((f:Int)+(j:Int))] _ 1 1 1 (by simp) bE rfl ?_) (fe pM _) ?_ ?_ ?_ ?_);(focus simp[Value.oneCell']);(focus simp only[aU];omega);(focus unfold maxLen;omega);(focus omega);intro ql c1 w1 x X p9 aA)))
     go_roundw
     case rel=>
      have N:(Value.slice qo (F.length+j) qc).ownBlock≠some d.heap.size:=m.ne l (by decide);refine⟨j+1,by omega,by go_num,?_,(b.trans (aN wr _|>.mono b.size)).trans p9,?_⟩
      ·rw[HR.out,<-aM,Jr]
       have e:ints [f+j]=[.int .i64 ((f:Int)+(j:Int))]:=(by simp[ints]);rw[e];exact x
      ·exact(X.block d.heap.size (by simp only[aU];omega) N).trans ((qF _ _ _ (by omega)).trans l)
     case measure=>simp[intOf];omega
    ·have E:j=n:=by omega
     subst E;go_wp2_with fail;go_roundw
     case rel=>exact⟨k+1,by omega,by go_num,by rw[HT.out,H.out,<-C.out,ay,vS];exact m,b⟩
     case measure=>simp[intOf];omega
  ·have:k=a.length:=by omega
   subst this;rw[bS] at C;have x1:¬(a.length:Int)<(a.length:Int):=(by omega);go_wp2_with fail;go_ret;exact⟨_,rfl,by rw[<-C.out];exact I,z⟩
def Qj (n:Nat):((UInt8.ofNat n).toNat:Int)=IntKind.u8.wrap (n:Int):=by
 rw[fC,NH];omega
def UJ (n:Nat):IntKind.u8.wrap ((n/256:Nat):Int)=IntKind.u8.wrap ((n:Int)/256):=by
 congr 1
def yB (size:Nat)(rs:List (Nat×Nat))(len:Nat):List UInt8:=[177,UInt8.ofNat size,UInt8.ofNat (size/256),UInt8.ofNat len]++rs.flatMap tJ
def GQ (a b:Nat):aI (yB a [] b)=[.int .u8 177,.int .u8 (IntKind.u8.wrap (a:Int)),.int .u8 (IntKind.u8.wrap ((a:Int)/256)),.int .u8 (IntKind.u8.wrap (b:Int))]:=by
 simp only[yB,VF,dM,aI,dK,iH,Qj,UJ];rfl
def LU (b c:Nat)(a:List (Nat×Nat))(k:Nat)(h:k<a.length)(g:a[k].1<65536)(i:a[k].2<256):aI (yB b (a.take (k+1)) c)=aI (yB b (a.take k) c)++[.int .u8 ((a[k].1:Int)%256),.int .u8 ((a[k].1:Int)/256),.int .u8 (a[k].2:Int)]:=by
 have e:yB b (a.take (k+1)) c=yB b (a.take k) c++tJ a[k]:=by
  unfold yB;rw[aL h,oM];simp
 rw[e,iZ];simp only[tJ,aI,dK,iH,Qj,NH];have d:((a[k].1/256:Nat):Int)%256=(a[k].1:Int)/256:=by omega
 have f:(a[k].2:Int)%256=(a[k].2:Int):=by omega
 rw[d,f]
theorem TV (d a:Nat)(b:List (Nat×Nat))(lv:Value)(B:Nat)(S:Nat->Prop)(w:World)(h:nQ w S B d a b lv)(Q:∀g,S g->g<w.heap.size)(qc:a<=65535)(O:rY b)(hl:b.length<=1000):
  Calls Tryz.prog 106 #[.pointer (some ⟨d,0,none⟩)] w fun e H=>∃v,e= .returned v/\aT H S w.heap.size 5 1 v (encR a b).length (aI (encR a b))/\Below w.heap.size w H:=by
 obtain⟨J,c,rfl,n0,m0,_,_⟩:=aZ.form h.own.dx;have q:=h.own.dx;have c0:w.cell? ⟨d,0,none⟩=some (.int .i64 a):=by simp[World.cell?,h.obj]
 have N:w.cell? ⟨d,1,none⟩=some (.slice J b.length c):=by simp[World.cell?,h.obj]
 have l:d<w.heap.size:=(ai.1 h.obj).1;have z:=ah O;have A:=ah q;have E:=ah (show ∀W:World,Below w.heap.size w W->W.cell? ⟨d,0,none⟩=some (.int .i64 a)/\W.cell? ⟨d,1,none⟩=some (.slice J b.length c)/\d<W.heap.size from fun W f=>
  ⟨(f.cell (p:=⟨d,0,none⟩) l).trans c0,(f.cell (p:=⟨d,1,none⟩) l).trans N,ax l f.size⟩)
 clear h q O;have q1:IntKind.i64.wrap ((a:Int)/256)=((a/256:Nat):Int):=by rw[aG _ (by omega)];omega
 go_enter Tryz.func106,Tryz.ntmps106;go_wp2_with fail;refine aP (fun W=>Below w.heap.size w W) (fun i=> !([17].contains i)) [0,1,2,3,4,5,6,7,8,9,10,11,12,13,14,15,16,17,18] rfl (by kernel_rfl) ((aR _ w).drew) ?_
 repeat (refine oq ?_ rfl rfl rfl ?_ ?_;rotate_left;(focus intro W f;(try dsimp only at f);obtain⟨r0,X,r2⟩:=E.out W f;go_simp;first|done|with_reducible rfl);try simp only[Act.put,aj,au,ak])
 refine dI rfl rfl rfl ?_;intro K hK;go_simp;have j:Below w.heap.size w (w.alloc (.cells #[.int .u8 177,.int .u8 (IntKind.u8.wrap (a:Int)),.int .u8 (IntKind.u8.wrap ((a:Int)/256)),.int .u8 (IntKind.u8.wrap (b.length:Int))] 5)).drew:=(aN w _).drew;have s:aT (w.alloc (.cells #[.int .u8 177,.int .u8 (IntKind.u8.wrap (a:Int)),.int .u8 (IntKind.u8.wrap ((a:Int)/256)),.int .u8 (IntKind.u8.wrap (b.length:Int))] 5)).drew S w.heap.size 5 1 (.slice (some ⟨w.heap.size,0,none⟩) 4 4) 4 (aI (yB a (b.take 0) b.length)):=by
  rw[iM,GQ];exact(mX (w:=w) (S:=S) (B:=w.heap.size) (e:=5) (k:=1) _ 4 4 rfl rfl (aD _) (by simp[maxLen]) (aD _) Q).drew
 generalize (w.alloc (.cells #[.int .u8 177,.int .u8 (IntKind.u8.wrap (a:Int)),.int .u8 (IntKind.u8.wrap ((a:Int)/256)),.int .u8 (IntKind.u8.wrap (b.length:Int))] 5)).drew=R at j s ⊢;refine hK.out _ _ j ?_
 repeat (refine oq ?_ rfl rfl rfl ?_ ?_;rotate_left;(focus intro W f;(try dsimp only at f);obtain⟨r0,X,r2⟩:=E.out W f;go_simp;first|done|with_reducible rfl);try simp only[Act.put,aj,au,ak])
 refine bR ?_;obtain⟨s0,s1,s2⟩:=E.out _ j;clear q1;generalize IntKind.u8.wrap (a:Int)=z1;generalize IntKind.u8.wrap ((a:Int)/256)=z2;generalize IntKind.u8.wrap (b.length:Int)=z3;generalize (a:Int)/256=z4;go_wp2_with fail;go_loopw [3,5,29] (fun v _ i wr=>∃k:Nat,k<=b.length/\i= .int .i64 k/\aT wr S w.heap.size 5 1 v (4+3*k) (aI (yB a (b.take k) b.length))/\Below w.heap.size w wr) (fun _ _ i _=>b.length - (intOf i).toNat)
 case atStart=>exact⟨0,by omega,rfl,s,j⟩
 case round=>
  obtain⟨k,hk,rfl,r,n⟩:=hrel;obtain⟨oo,Y,rfl,_,_,_,_⟩:=aZ.form r.dx
  by_cases m:k<b.length
  ·have x1:(k:Int)<(b.length:Int):=by omega
   obtain⟨M,I,rfl,D,x⟩:=El.at A.out rfl k m;have y:=(n.cell (p:=⟨M,I+k*2,none⟩) (aF w _ D)).trans D;have p9:=(n.cell (p:=⟨M,I+k*2+1,none⟩) (aF w _ x)).trans x;have T:=aF wr _ y;have F:∀g,S g->g<wr.heap.size:=fun g Z=>ax (Q g Z) n.size
   have pM:=z.out b[k] (bF m);have HT:=ah (LU a b.length b k m (by omega) (by omega));clear D x s0 s1;have qo:=n.size;go_wp2_with (first|(at_builtin;go_must ((refine cO rfl (.tmp 33) (.tmp 44) 70 70 rfl S w.heap.size 5 1 1 (.int .u8 0) bG kJ rfl (.slice oo (4+3*k) Y) _ _ rfl (r.below (gK _ _ _)) _ 3 _ rfl (gq [_,_,_] _ 1 3 3 (by simp) bG rfl ?_) (fe (fe F _) _) ?_ ?_ ?_ ?_);(focus simp[Value.oneCell']);(focus simp only[aU];omega);(focus unfold maxLen;omega);(focus omega);intro qb N R o V G ql)))
   go_roundw
   case rel=>exact⟨k+1,by omega,by go_num,by rw[HT.out];exact o,(n.trans (gK wr _ _|>.mono n.size)).trans G⟩
   case measure=>simp[intOf];omega
  ·have:k=b.length:=by omega
   subst this;rw[bS] at r;have P:yB a b b.length=encR a b:=rfl;have t:=BD a b;have x1:¬(b.length:Int)<(b.length:Int):=(by omega);rw[P] at r;have C:=ah t;clear t P;go_wp2_with fail;go_ret;exact⟨_,rfl,by rw[C.out];exact r,n⟩
def zU:(Tryz.prog.info? 236).map (fun i=>(i.zero,i.size,i.bytes))=some (some (.agg #[.int .i64 0,.int .i64 0]),2,16):=by kernel_rfl
def Pw (a:List (Nat×Nat))(m b:Nat)(e:a.length=m+1)(c:m<a.length)(h:¬(a[m].1+a[m].2=b/\a[m].2<255)):Be a b=a++[(b,1)]:=by
 have d:a.getLast? =some a[m]:=by rw[List.getLast?_eq_getElem?,show a.length - 1=m by omega,bD (by omega)]
 unfold Be;rw[d];simp only;rw[if_neg h]
def Pv (a:List (Nat×Nat))(m b:Nat)(d:a.length=m+1)(e:m<a.length)(h:a[m].1+a[m].2=b/\a[m].2<255):Be a b=a.set m (a[m].1,a[m].2+1):=by
 have f:a.getLast? =some a[m]:=by rw[List.getLast?_eq_getElem?,show a.length - 1=m by omega,bD (by omega)]
 unfold Be;rw[f];simp only;rw[if_pos h];apply List.ext_getElem?;intro i;rw[List.getElem?_set]
 by_cases c:m=i
 ·subst c
  rw[if_pos rfl,if_pos (by omega),dA (by simp;omega)];simp[d]
 ·rw[if_neg c]
  rcases gH i m with g|g
  ·rw[eF (by simp;omega),List.getElem?_dropLast,if_pos (by omega)]
  ·rw[iE (by simp;omega),iE (by omega)]
def Gi (a:List (Nat×Nat))(m n:Nat)(b:m<a.length):(jB a).set (m*2+1) (.int .i64 n)=jB (a.set m (a[m].1,n)):=by
 induction a generalizing m with
 |nil=>simp at b
 |cons r a ih=>
  cases m with
  |zero=>rfl
  |succ m=>
   have:=ih m (by simpa using b);rw[show (m+1)*2+1=(m*2+1)+2 by omega];show [Value.int .i64 (r.1:Int),Value.int .i64 (r.2:Int)]++(jB a).set (m*2+1) (.int .i64 n)=_;rw[this];rfl
def Ch {c:World}{d n:Nat}{rs':List (Nat×Nat)}{i:Value}{y:List Value}(b:w.heap[a]? =some (.cells #[.int .i64 d,v] 186 (0,0)))(f:aT w S B 236 2 v n y)(o:B<=a)(q:¬S a)(t:Keep (fun g=>v.ownBlock=some g) w c)(r:Below B w c)(l:aT c S B 236 2 i rs'.length (jB rs')):
  nQ (c.setCell ⟨a,1,none⟩ i) S B a d rs' i/\Below B w (c.setCell ⟨a,1,none⟩ i):=by
 have j:=(ai.1 b).1;have m:c.heap[a]? =_:=(t.block a j (f.ne b (by decide))).trans b;have k:Keep (· =a) c (c.setCell ⟨a,1,none⟩ i):=Keep.setCell (M:=(· =a)) (p:=⟨a,1,none⟩) (Keep.refl _ _) (.inr rfl) _;exact⟨⟨by simp[World.setCell,aQ,m],l.keep fun g s x z=>⟨k.block g x (fun e=>l.ne m (by decide) (by rw[s,e])),z⟩,o,q⟩,r.setCell (by exact o) _⟩
theorem WN (d pM b:Nat)(rs:List (Nat×Nat))(lv:Value)(B:Nat)(S:Nat->Prop)(w:World)(h:nQ w S B d pM rs lv)(hS:∀g,S g->g<w.heap.size)(ok:rY rs)(hl:rs.length<=1000)(hb:b<=65535):
  Calls Tryz.prog 105 #[.pointer (some ⟨d,0,none⟩),.int .i64 b] w fun e w'=>e= .returned (.tuple #[])/\(∃v,nQ w' S B d pM (Be rs b) v)/\Below B w w':=by
 obtain⟨ao,c,rfl,n0,m0,_,_⟩:=aZ.form h.own.dx;have G:=h.obj;have I:=h.own;have T:=h.lo;have W:=h.ns;have o:d<w.heap.size:=(ai.1 h.obj).1;have dn:=ah ok;have E:B<=w.heap.size:=aK h.lo (iF o);have HS:=ah hS;clear h ok hS;obtain⟨N,X⟩:∃N,rs.length=N:=⟨_,rfl⟩
 rw[X] at G I n0 hl;have c1:w.cell? ⟨d,1,none⟩=some (.slice ao N c):=by simp[World.cell?,G]
 have dR:=ah I.dx;have J:=ah I;have V:=ah G;have qb:=ah (show jB (rs++[(b,1)])=jB rs++[.int .i64 b,.int .i64 1] by rw[vB];rfl);have H:=ah X;clear G I;cases N with
 |zero=>
  have A:=ah (show Be rs b=rs++[(b,1)] by rw[aY X];rfl);clear X;go_enter Tryz.func105,Tryz.ntmps105;go_wp2_with fail
  go_quiet (fail)
  obtain⟨j,x⟩:=nm (w.drewN nq);have a:Below w.heap.size w j:=by rw[<-x.out];exact Sv (aR _ _) _
  rw[x.out];have z:=ah (J.out.below a);have t:=ah ((a.block d o).trans V.out);have e0:j.cell? ⟨d,1,none⟩=some (.slice ao 0 c):=(a.cell (p:=⟨d,1,none⟩) o).trans c1;have ef:j.frozen? ⟨d,1,none⟩=false:=by have:=t.out;simp[World.frozen?,this]
  have el:d<j.heap.size:=ax o a.size;have R:∀g,S g->g<j.heap.size:=fun g hg=>ax (HS.out g hg) a.size
  have O:=aK E a.size;clear c1;go_wp2_with (first|(at_builtin;go_must ((refine cO rfl (.tmp 60) (.tmp 63) 184 184 rfl S B 236 2 16 _ l7 zU rfl (.slice ao 0 c) _ _ rfl (z.out.below (aN _ _)) _ 1 _ rfl (gq [.int .i64 b,.int .i64 1] _ 2 1 1 (by simp) l7 rfl ?_) (fe R _) ?_ ?_ ?_ ?_);(focus simp[Value.oneCell']);(focus simp only[aU];omega);(focus unfold maxLen;omega);(focus omega);intro q8 c3 K r F M ql;refine sO ?_)))
  refine sN ?_;have D:=z.out.below (aN j (.cells #[.int .i64 b,.int .i64 1] 236));have l:=((aN j (.cells #[.int .i64 b,.int .i64 1] 236)).block d el).trans t.out;have s:K.heap[d]? =_:=(F.block d (ai.1 l).1 (D.ne l (by decide))).trans l;have g0:K.cell? ⟨d,1,none⟩=some (.slice ao 0 c):=by have:=s;simp only[World.cell?,this];rfl
  have gf:K.frozen? ⟨d,1,none⟩=false:=by simp[World.frozen?,s]
  have gl:=(ai.1 s).1;have q:=ah (Ch (rs':=rs++[(b,1)]) l D T W F M (by rw[ay,H.out,qb.out];exact r));go_wp2_with fail;go_end0;refine⟨rfl,⟨_,by rw[A.out];exact q.out.1⟩,?_⟩;exact(a.mono E).trans ((aN j _|>.mono O).trans q.out.2)
 |succ m=>
  have hm:m<rs.length:=by omega
  obtain⟨y,po,rfl,d1,d2⟩:=El.at (rs:=rs) (w:=w) (S:=S) (by have:=dR.out;rw[<-X] at this;exact this) rfl m hm;have bC:=dn.out rs[m] (bF hm);obtain⟨gg,cc,e,_,_,Z,_⟩:=J.out.yx (by omega);cases e
  rw[dX] at d1 d2;obtain⟨f,hf⟩:=nx (rs[m].1);obtain⟨n,hn⟩:=nx (rs[m].2);rw[<-hf,<-hn] at bC;rw[<-hf] at d1;rw[<-hn] at d2;have bA:=aF w _ d1;have Q:y<w.heap.size:=bA
  by_cases hc:f+n=b/\n<255
  ·have A:=ah (show Be rs b=rs.set m (f,n+1) by rw[Pv rs m b X hm (by rw[<-hf,<-hn];exact hc),<-hf,<-hn])
   have bH:=ah (show (jB rs).set (m*2+1) (.int .i64 ((n+1:Nat):Int))=jB (rs.set m (f,n+1)) by rw[Gi rs m (n+1) hm,<-hf]);have aA:(f:Int)+(n:Int)=(b:Int):=(by omega);have dx:(n:Int)<255:=(by omega);obtain⟨qo,P,aB,av,_,p9,af,Y⟩:=J.out.row;have C:=ah (aC P (aC aB (aC av (aC p9 (aC af Y)))));have di:=P.frozen (m*2+1);clear hf hn X hc P aB av p9 af Y;go_enter Tryz.func105,Tryz.ntmps105;go_wp2_with fail
   go_quiet (fail)
   obtain⟨j,x⟩:=nm (w.drewN nq);have a:Below w.heap.size w j:=(by rw[<-x.out];exact Sv (aR _ _) _);rw[x.out];have qc:Row j y 236 qo:=(a.block y Q).trans C.out.1;have z:=ah (J.out.below a);have t:=ah ((a.block d o).trans V.out);have e0:j.cell? ⟨d,1,none⟩=some (.slice (some ⟨y,0,none⟩) (m+1) c):=(a.cell (p:=⟨d,1,none⟩) o).trans c1;have e1:j.cell? ⟨y,m*2+1,none⟩=some (.int .i64 n):=(a.cell (p:=⟨y,m*2+1,none⟩) Q).trans d2;have ef:j.frozen? ⟨y,m*2+1,none⟩=false:=qc.frozen _;have el:d<j.heap.size:=ax o a.size;have fA:y<j.heap.size:=ax Q a.size;have bN:=ah qc;clear c1 d1 d2 di qc;go_wp2_with fail;refine jE (Ca rfl _ _ _) rfl ?_;have q9:Keep (· =y) j (j.setCell ⟨y,m*2+1,none⟩ (.int .i64 ((n:Int)+1))):=(Keep.refl (· =y) _).setCell (p:=⟨y,m*2+1,none⟩) (.inr rfl) _;have dZ:¬d=y:=fun e=>by subst e;exact z.out.ne t.out (by decide) rfl
   refine⟨rfl,⟨_,by
    rw[A.out]
    refine⟨(q9.block d el dZ).trans t.out,?_,T,W⟩
    have bB:Row (j.setCell ⟨y,m*2+1,none⟩ (.int .i64 ((n:Int)+1))) y 236 (qo.set (m*2+1) (.int .i64 ((n:Int)+1))):=by
     have:=bN.out
     unfold Row at this ⊢
     simp[World.setCell,aQ,this]
    have:=bB.own (S:=S) (B:=B) (k:=2) (cap:=c) (m+1) (by simpa using C.out.2.1) Z C.out.2.2.2.1 C.out.2.2.2.2.1 C.out.2.2.2.2.2
    rw[List.take_set,C.out.2.2.1] at this
    have e9:(jB rs).set (m*2+1) (.int .i64 ((n:Int)+1))=jB (rs.set m (f,n+1)):=bH.out
    rw[e9] at this
    rw[List.length_set,H.out]
    exact this⟩,?_⟩
   exact(a.mono E).trans (q9.jF (aK E a.size) (fun i hi e=>absurd Z (by rw[<-e];exact gG.2 hi)))
  ·have A:=ah (show Be rs b=rs++[(b,1)] from Pw rs m b X hm (by rw[<-hf,<-hn];exact hc))
   have fo:((f:Int)+(n:Int)==(b:Int))=decide (f+n=b):=by
    by_cases h:f+n=b
    ·rw[d9 h];simp;omega
    ·rw[bM h];simp;omega
   clear hf hn X;have e2:w.cell? ⟨y,m*2,none⟩=some (.int .i64 f):=d1;go_enter Tryz.func105,Tryz.ntmps105;go_wp2_with fail
   by_cases h1:f+n=b
   ·have h2:¬n<255:=fun e=>hc ⟨h1,e⟩
    have dx:decide ((n:Int)<255)=false:=bM (by omega);have aA:(f:Int)+(n:Int)=(b:Int):=by omega
    go_quiet (fail)
    obtain⟨j,x⟩:=nm (w.drewN nq);have a:Below w.heap.size w j:=(by rw[<-x.out];exact Sv (aR _ _) _);rw[x.out];have z:=ah (J.out.below a);have t:=ah ((a.block d o).trans V.out);have e0:j.cell? ⟨d,1,none⟩=some (.slice (some ⟨y,0,none⟩) (m+1) c):=(a.cell (p:=⟨d,1,none⟩) o).trans c1;have ef:j.frozen? ⟨d,1,none⟩=false:=(by have:=t.out;simp[World.frozen?,this]);have el:d<j.heap.size:=ax o a.size;have R:∀g,S g->g<j.heap.size:=fun g hg=>ax (HS.out g hg) a.size
    have O:=aK E a.size;clear c1;go_wp2_with (first|(at_builtin;go_must ((refine cO rfl (.tmp 60) (.tmp 63) 184 184 rfl S B 236 2 16 _ l7 zU rfl (.slice (some ⟨y,0,none⟩) (m+1) c) _ _ rfl (z.out.below (aN _ _)) _ 1 _ rfl (gq [.int .i64 b,.int .i64 1] _ 2 1 1 (by simp) l7 rfl ?_) (fe R _) ?_ ?_ ?_ ?_);(focus simp[Value.oneCell']);(focus simp only[aU];omega);(focus unfold maxLen;omega);(focus omega);intro q8 c3 K r F M ql;refine sO ?_)))
    refine sN ?_;have D:=z.out.below (aN j (.cells #[.int .i64 b,.int .i64 1] 236));have l:=((aN j (.cells #[.int .i64 b,.int .i64 1] 236)).block d el).trans t.out;have s:K.heap[d]? =_:=(F.block d (ai.1 l).1 (D.ne l (by decide))).trans l;have g0:K.cell? ⟨d,1,none⟩=some (.slice (some ⟨y,0,none⟩) (m+1) c):=(by have:=s;simp only[World.cell?,this];rfl);have gf:K.frozen? ⟨d,1,none⟩=false:=(by simp[World.frozen?,s]);have gl:=(ai.1 s).1;have q:=ah (Ch (rs':=rs++[(b,1)]) l D T W F M (by rw[ay,H.out,qb.out];exact r));go_wp2_with fail;go_end0;refine⟨rfl,⟨_,by rw[A.out];exact q.out.1⟩,?_⟩;exact(a.mono E).trans ((aN j _|>.mono O).trans q.out.2)
   ·have aA:¬(f:Int)+(n:Int)=(b:Int):=by omega
    go_quiet (fail)
    obtain⟨j,x⟩:=nm (w.drewN nq);have a:Below w.heap.size w j:=(by rw[<-x.out];exact Sv (aR _ _) _);rw[x.out];have z:=ah (J.out.below a);have t:=ah ((a.block d o).trans V.out);have e0:j.cell? ⟨d,1,none⟩=some (.slice (some ⟨y,0,none⟩) (m+1) c):=(a.cell (p:=⟨d,1,none⟩) o).trans c1;have ef:j.frozen? ⟨d,1,none⟩=false:=(by have:=t.out;simp[World.frozen?,this]);have el:d<j.heap.size:=ax o a.size;have R:∀g,S g->g<j.heap.size:=fun g hg=>ax (HS.out g hg) a.size
    have O:=aK E a.size;clear c1;go_wp2_with (first|(at_builtin;go_must ((refine cO rfl (.tmp 60) (.tmp 63) 184 184 rfl S B 236 2 16 _ l7 zU rfl (.slice (some ⟨y,0,none⟩) (m+1) c) _ _ rfl (z.out.below (aN _ _)) _ 1 _ rfl (gq [.int .i64 b,.int .i64 1] _ 2 1 1 (by simp) l7 rfl ?_) (fe R _) ?_ ?_ ?_ ?_);(focus simp[Value.oneCell']);(focus simp only[aU];omega);(focus unfold maxLen;omega);(focus omega);intro q8 c3 K r F M ql;refine sO ?_)))
    refine sN ?_;have D:=z.out.below (aN j (.cells #[.int .i64 b,.int .i64 1] 236));have l:=((aN j (.cells #[.int .i64 b,.int .i64 1] 236)).block d el).trans t.out;have s:K.heap[d]? =_:=(F.block d (ai.1 l).1 (D.ne l (by decide))).trans l;have g0:K.cell? ⟨d,1,none⟩=some (.slice (some ⟨y,0,none⟩) (m+1) c):=(by have:=s;simp only[World.cell?,this];rfl);have gf:K.frozen? ⟨d,1,none⟩=false:=(by simp[World.frozen?,s]);have gl:=(ai.1 s).1;have q:=ah (Ch (rs':=rs++[(b,1)]) l D T W F M (by rw[ay,H.out,qb.out];exact r));go_wp2_with fail;go_end0;refine⟨rfl,⟨_,by rw[A.out];exact q.out.1⟩,?_⟩;exact(a.mono E).trans ((aN j _|>.mono O).trans q.out.2)
def LP (a:List (Nat×Nat))(k:Nat)(h:k<a.length):(a.flatMap tJ)[3*k]? =some (UInt8.ofNat a[k].1)/\(a.flatMap tJ)[3*k+1]? =some (UInt8.ofNat (a[k].1/256))/\(a.flatMap tJ)[3*k+2]? =some (UInt8.ofNat a[k].2):=by
 induction a generalizing k with
 |nil=>simp at h
 |cons r a ih=>
  cases k with
  |zero=>exact⟨rfl,rfl,rfl⟩
  |succ k=>
   have:=ih k (by simpa using h);rw[show 3*(k+1)=3*k+1+1+1 by omega,show 3*k+1+1+1+1=(3*k+1)+1+1+1 by omega,show 3*k+1+1+1+2=(3*k+2)+1+1+1 by omega];exact this
def GU (b:Nat)(c:List (Nat×Nat))(a:List UInt8)(k j:Nat)(u:UInt8)(d:(c.flatMap tJ)[j]? =some u)(e:k=4+j):(aI (encR b c++a))[k]? =some (.int .u8 (u.toNat:Int)):=by
 subst e;have f:=(dm.1 d).1;unfold aI encR;rw[eZ,aM,dA (by simp),bn,bn,bn,bn,bV,dX,dJ,eF f,d];rfl
def FE (a:Nat)(c:List (Nat×Nat))(b:List UInt8):(aI (encR a c++b))[0]? =some (.int .u8 177)/\(aI (encR a c++b))[1]? =some (.int .u8 ((UInt8.ofNat a).toNat:Int))/\(aI (encR a c++b))[2]? =some (.int .u8 ((UInt8.ofNat (a/256)).toNat:Int))/\(aI (encR a c++b))[3]? =some (.int .u8 ((UInt8.ofNat c.length).toNat:Int)):=⟨rfl,rfl,rfl,rfl⟩
def chunk (t:List UInt8)(i:Nat):List UInt8:=(t.drop (512*i)).take 512
def rM (n:Nat):Nat:=(n+511)/512
structure xg (σ:cK)(head:Nat)(size:Nat)(rs:List (Nat×Nat)):Prop where
 lo:2<=head
 has:σ.hasB head=true
 mem:∃rest,σ.mem head=encR size rs++rest
 ok:rY rs
 len:(fV rs).length=rM size
 s1:1<=size
 s2:size<=49152
def xg.runs {e:cK}(h:xg e a b c):c.length<=96/\(fV c).length<=96:=by
 have f:=h.ok.le;have d:=h.len;have g:=h.s2;unfold rM at d;omega
theorem Us (mp:VS)(σ:cK)(S:Nat->Prop)(w:World)(r b:Nat)(d:List (Nat×Nat))(h:Inv σ S mp w)(hh:xg σ r b d):
  Calls Tryz.prog 96 #[.iface 97 mp.agg,.int .i64 r] w fun e w'=>∃c v,e= .returned (.tuple #[.pointer (some ⟨c,0,none⟩),.int .i64 0])/\nQ w' S w.heap.size c b d v/\Below w.heap.size w w':=by
 have p9:=h.sub;have dR:=Df mp σ S w r h hh.has;obtain⟨m,Z⟩:=hh.mem;rw[Z] at dR;have kg:(encR b d++m).length=512:=by
  obtain⟨n,hn,oK,_⟩:=cK.kT hh.has;rw[<-Z,hn];exact h.ok.len n oK
 have oO:=ah dR;clear dR;have rF:=hh.lo;have r9:=hh.s1;have rA:=hh.s2;obtain⟨rJ,rP⟩:=hh.runs;have HH:=ah hh;obtain⟨b0,b1,b2,b3⟩:=FE b d m;have HB:=ah (aC b0 (aC b1 (aC b2 b3)));have x1:¬(r:Int)<0:=by omega
 have x2:((r:Int)==0)=false:=by simp;omega
 have x3:¬(r:Int)=0:=by omega
 clear hh Z b0 b1 b2 b3;have hm:∀w,(method 454 97 mp.agg "Read").run Tryz.prog w= .ok (57,.pointer (some ⟨mp.tx,0,none⟩)) w:=fun _=>by kernel_rfl
 go_enter Tryz.func96,Tryz.ntmps96;go_wp2_with (refine oO.out.mono ?_;rintro e E ⟨v,rfl,hv,j4,lm⟩;refine sO ?_);refine sN ?_;have j6:=hv;obtain⟨ao,cp,rfl,n0,m0,_,_⟩:=aZ.form j6;obtain⟨b0,b1,b2,b3⟩:=HB.out;obtain⟨q,X,rfl,d0⟩:=aZ.EM hv rfl 0 _ b0;obtain⟨_,_,e,d1⟩:=aZ.EM hv rfl 1 _ b1;cases e
 obtain⟨_,_,e,d2⟩:=aZ.EM hv rfl 2 _ b2;cases e
 obtain⟨_,_,e,d3⟩:=aZ.EM hv rfl 3 _ b3;cases e
 have u3:((UInt8.ofNat d.length).toNat:Int)=(d.length:Int):=by rw[fC];omega
 obtain⟨lo,aA⟩:=nx (b%256);obtain⟨hi,qo⟩:=nx (b/256);have u1:((UInt8.ofNat b).toNat:Int)=(lo:Int):=by rw[fC,aA]
 have u2:((UInt8.ofNat (b/256)).toNat:Int)=(hi:Int):=by rw[fC,qo];omega
 rw[u1] at d1;rw[u2] at d2;rw[u3] at d3;have F:q<E.heap.size:=aF E _ d0;have rG:w.heap.size<=q:=j4 q rfl;have HV:=ah hv;have jF:lo<256:=by omega
 have jv:hi<256:=by omega
 have pM:b=lo+256*hi:=by omega
 rw[iG] at d0;clear b0 b1 b2 b3 u1 u2 u3 aA qo hv j6 j4 hm;have y1:(lo:Int)<256:=by omega
 have y2:(d.length:Int)*3+4<=512:=by omega
 obtain⟨C,bC⟩:=nm (E.alloc (.cells #[.int .i64 0,.slice none 0 0] 186));have Q:Below E.heap.size E C:=by rw[<-bC.out];exact aN E _
 have T:C.heap[E.heap.size]? =some (.cells #[.int .i64 0,.slice none 0 0] 186 (0,0)):=by rw[<-bC.out];exact aV E _
 have D0:=(Q.cell (p:=⟨q,X,none⟩) F).trans d0;have D1:=(Q.cell (p:=⟨q,X+1,none⟩) F).trans d1;have D2:=(Q.cell (p:=⟨q,X+2,none⟩) F).trans d2;have D3:=(Q.cell (p:=⟨q,X+3,none⟩) F).trans d3;have I:=ax F Q.size;have HD:=ah (aC D0 (aC D1 (aC D2 (aC D3 I))));clear d0 d1 d2 d3 D0 D1 D2 D3;go_upto_region 11 with (fail)
 rw[bC.out];obtain⟨D0,D1,D2,D3,I⟩:=HD.out;go_wp2_with fail;obtain⟨c,Y⟩:=nm E.heap.size;have t:w.heap.size<=c:=by rw[<-Y.out];exact lm.size
 rw[Y.out] at T ⊢;have av:c<C.heap.size:=(ai.1 T).1;have l5:C.drew.frozen? ⟨c,0,none⟩=false:=by show C.frozen? _=false;simp[World.frozen?,T]
 have nH:C.drew.cell? ⟨c,0,none⟩=some (.int .i64 0):=by show C.cell? _=_;simp[World.cell?,T]
 have jO:c<C.drew.heap.size:=av;have mo:=ah (Lx lo hi b jF jv pM);have sF:=ah pM;have rV:=ah kg;clear pM y1 kg;refine aP (fun W=>W=C.drew) (fun i=> !([13].contains i)) [0,1,2,3,4,5,6,7,8,9,10,11,12,13] rfl (by kernel_rfl) rfl ?_
 repeat (refine oq ?_ rfl rfl rfl ?_ ?_;rotate_left;(focus intro W o;(try dsimp only at o);subst o;have r1:C.drew.cell? ⟨q,X+1,none⟩=some (.int .u8 lo):=D1;have r2:C.drew.cell? ⟨q,X+2,none⟩=some (.int .u8 hi):=D2;have r3:q<C.drew.heap.size:=I;go_simp;first|done|with_reducible rfl);try simp only[Act.put,aj,au,ak])
 rw[mo.out];refine jC rfl rfl rfl (by kernel_rfl) ?_;intro K hK;go_simp;refine hK.out _ _ ?_;refine bR ?_;have dx:Keep (· =c) C (C.setCell ⟨c,0,none⟩ (.int .i64 b)).drew:=((Keep.refl (· =c) C).setCell (p:=⟨c,0,none⟩) (.inr rfl) _).drew;have qb:(C.setCell ⟨c,0,none⟩ (.int .i64 b)).drew.heap[c]? =some (.cells #[.int .i64 b,.slice none 0 0] 186 (0,0)):=by
  show (C.setCell ⟨c,0,none⟩ (.int .i64 b)).heap[c]? =_;simp[World.setCell,aQ,T]
 generalize (C.setCell ⟨c,0,none⟩ (.int .i64 b)).drew=w3 at dx qb ⊢;have bN:¬S c:=fun x=>absurd (p9 c x) (bg.2 t)
 have nS:nQ w3 S c c b (d.take 0) (.slice none 0 0):=⟨qb,by rw[iM];exact aT.nil _ _ _ _ _,aD _,bN⟩;have jb:Below c E w3:=by
  have:=Q;rw[Y.out] at this;exact this.trans (dx.jF (by omega) (fun i hi e=>by omega))
 have q8:q<c:=by rw[<-Y.out];exact F
 have z:=ah (fun (W:World) (o:Below c E W) (j:Nat) (u:Value) (hu:(aI (encR b d++m))[j]? =some u)=>(show W.cell? ⟨q,X+j,none⟩=some u from by
  obtain⟨_,_,e,dj⟩:=aZ.EM HV.out rfl j _ hu
  cases e
  exact(oz (w:=E) (a:=⟨q,X+j,none⟩) (o.block q q8)).trans dj))
 have fB:E.heap.size=c:=Y.out;have bB:=z.out w3 jb 3 _ (FE b d m).2.2.2;have o6:q<w3.heap.size:=ax F (by rw[fB];exact iF (ai.1 qb).1);have u3:((UInt8.ofNat d.length).toNat:Int)=(d.length:Int):=by rw[fC];omega
 rw[u3] at bB;clear D0 D1 D2 D3 I l5 nH jO av dx qb T u3 y2;go_wp2_with fail;go_loopw [9,10,70] (fun _ _ i wr=>∃(k:Nat) (v:Value),k<=d.length/\i= .int .i64 k/\nQ wr S c c b (d.take k) v/\Below c E wr) (fun _ _ i _=>d.length - (intOf i).toNat)
 case atStart=>exact⟨0,_,by omega,rfl,nS,jb⟩
 case round=>
  obtain⟨k,v,hk,rfl,hA,hb⟩:=hrel;have fK:(d.take k).length=k:=by rw[aH];omega
  obtain⟨J,N⟩:=aC hA.obj hA.own;rw[fK] at N;obtain⟨R,O,rfl,_,_,_,_⟩:=aZ.form N.dx;have l:c<wr.heap.size:=(ai.1 J).1;have di:q<wr.heap.size:=nX q8 l;have HA:=ah hA;clear hA fK
  by_cases ql:k<d.length
  ·have x1:(k:Int)<(d.length:Int):=by omega
   have z1:¬cp=4+3*k:=(by omega);have z2:((4:Int)+3*(k:Int))<=512:=(by omega);have z3:((4:Int)+3*(k:Int))<=(cp:Int):=(by omega);have z4:((4:Int)+3*(k:Int)).toNat=4+3*k:=(by omega);clear bB;go_upto_region 18 with (fail)
   obtain⟨f,hf⟩:=nx (d[k].1);obtain⟨n,hn⟩:=nx (d[k].2);have lQ:=HH.out.ok d[k] (bF ql);rw[<-hf,<-hn] at lQ;obtain⟨j0,j1,j2⟩:=LP d k ql;obtain⟨a1,fA⟩:=nx (f%256);obtain⟨a2,lg⟩:=nx (f/256);have v1:((UInt8.ofNat d[k].1).toNat:Int)=(a1:Int):=(by rw[fC,<-hf,fA]);have v2:((UInt8.ofNat (d[k].1/256)).toNat:Int)=(a2:Int):=(by rw[fC,<-hf,lg];omega);have v3:((UInt8.ofNat d[k].2).toNat:Int)=(n:Int):=(by rw[fC,<-hn];omega);have HR:=ah (show ∀W,Below c E W->W.cell? ⟨q,X+(4+3*k),none⟩=some (.int .u8 a1)/\W.cell? ⟨q,X+(4+3*k)+1,none⟩=some (.int .u8 a2)/\W.cell? ⟨q,X+(4+3*k)+2,none⟩=some (.int .u8 n) from fun W o=>by
    have e0:=z.out W o (4+3*k) _ (GU b d m _ _ _ j0 rfl)
    have e1:=z.out W o (4+3*k+1) _ (GU b d m _ _ _ j1 (by omega))
    have e2:=z.out W o (4+3*k+2) _ (GU b d m _ _ _ j2 (by omega))
    rw[v1] at e0;rw[v2] at e1;rw[v3] at e2
    exact⟨e0,by rw[mP];exact e1,by rw[mP];exact e2⟩)
   have HF:=ah (Lx a1 a2 f (by omega) (by omega) (by omega));have q9:IntKind.i64.wrap (n:Int)=(n:Int):=aG _ (by omega);have lC:=ah (show jB (d.take (k+1))=jB (d.take k)++[.int .i64 f,.int .i64 n] by
    rw[aL ql,vB,hf,hn];rfl)
   have iO:wr.cell? ⟨c,1,none⟩=some (.slice R k O):=(by simp[World.cell?,J]);have nk:0<512 - (4+3*k):=(by omega);have o5:1<512 - (4+3*k):=(by omega);have j3:2<512 - (4+3*k):=(by omega);have mK:(0:Int)<((512 - (4+3*k):Nat):Int):=(by omega);have nJ:(1:Int)<((512 - (4+3*k):Nat):Int):=(by omega);have l9:(2:Int)<((512 - (4+3*k):Nat):Int):=(by omega);clear hf hn v1 v2 v3 j0 j1 j2 fA lg z1 z2 z3 z4;generalize 512 - (4+3*k)=M at*;generalize cp - (4+3*k)=M2 at*;refine aP (fun W=>Below c E W/\W.cell? ⟨c,1,none⟩=some (.slice R k O)/\c<W.heap.size/\q<W.heap.size) (fun i=> !([20,21,24].contains i)) [0,1,2,3,4,5,6,7,8,9,10,11,12,13,14,15,16,17,18,19,20,21,22,23,24] rfl (by kernel_rfl) ⟨hb.drew,iO,l,di⟩ ?_
   repeat (refine oq ?_ rfl rfl rfl ?_ ?_;rotate_left;(focus intro W o;(try dsimp only at o);obtain⟨r0,r1,r2,r3⟩:=o;obtain⟨r4,r5,r6⟩:=HR.out W r0;clear r0;go_simp;first|done|with_reducible rfl);try simp only[Act.put,aj,au,ak])
   rw[HF.out];have A:∀g,S g->g<wr.heap.size:=fun g hg=>ax (p9 g hg) (aK t (iF l))
   have y:Below c wr (wr.alloc (.cells #[.int .i64 f,.int .i64 n] 236)).drew:=((aN wr _).mono (iF l)).drew;have s:(wr.alloc (.cells #[.int .i64 f,.int .i64 n] 236)).drew.heap[c]? =_:=((aN wr (.cells #[.int .i64 f,.int .i64 n] 236)).block c l).trans J;have H:=(N.below (aN wr (.cells #[.int .i64 f,.int .i64 n] 236))).drew;have fo:=(mX (w:=wr) (S:=S) (B:=c) (e:=236) (k:=2) [.int .i64 f,.int .i64 n] 1 1 rfl rfl (aD _) (by simp[maxLen]) (iF l) A).drew.dx.src (P:=Tryz.prog) l7 (by intro u hu;simp at hu;rcases hu with rfl|rfl<;>rfl);have oH:∀g,S g->g<(wr.alloc (.cells #[.int .i64 f,.int .i64 n] 236)).drew.heap.size:=fun g hg=>ax (A g hg) (aN wr (.cells #[.int .i64 f,.int .i64 n] 236)).size
   have lJ:(wr.alloc (.cells #[.int .i64 f,.int .i64 n] 236)).drew.cell? ⟨c,1,none⟩=some (.slice R k O):=(by have:=s;simp only[World.cell?,this];rfl);refine dI rfl rfl rfl ?_;intro K hK;go_simp;refine hK.out _ _ ⟨hb.trans y,lJ,(ai.1 s).1,ax di y.size⟩ ?_;refine dI rfl rfl rfl ?_;intro K hK;refine ol (.tmp 82) (.tmp 98) 184 184 rfl S c 236 2 16 _ l7 zU rfl (.slice R k O) k _ rfl H _ 1 _ rfl fo oH (aK (iF l) y.size) (by unfold maxLen;omega) (by omega) ?_;intro o7 c3 w4 bH kT dZ tQ;have D:w4.heap[c]? =_:=(kT.block c (ai.1 s).1 (H.ne s (by decide))).trans s;have bA:=Ch (rs':=d.take (k+1)) s H (aD _) bN kT dZ (by rw[lC.out,aH,show min (k+1) d.length=k+1 by omega];exact bH);have af:=ah bA;clear bA;refine hK.out _ _ ⟨(hb.trans y).trans dZ,by simp[World.cell?,D],(ai.1 D).1,ax (ax di y.size) dZ.size⟩ ?_
   (try simp only[Act.put,aj,au,ak])
   repeat (refine oq ?_ rfl rfl rfl ?_ ?_;rotate_left;(focus intro W o;(try dsimp only at o);obtain⟨r0,r1,r2,r3⟩:=o;clear r0;go_simp;first|done|with_reducible rfl);try simp only[Act.put,aj,au,ak])
   have g4:w4.cell? ⟨c,1,none⟩=some (.slice R k O):=(by simp[World.cell?,D]);have sP:w4.frozen? ⟨c,1,none⟩=false:=(by simp[World.frozen?,D]);have rX:=(ai.1 D).1;refine jC rfl rfl rfl (by kernel_rfl) ?_;intro K hK;go_simp;refine hK.out _ _ ?_;refine bR ?_;clear nk mK nJ l9 o5 j3 q9;go_wp2_with fail;go_roundw
   case rel=>exact⟨k+1,_,by omega,by go_num,af.out.1,(hb.trans y).trans af.out.2⟩
   case measure=>simp[intOf];omega
  ·obtain rfl:k=d.length:=by omega
   have G:=HA.out;rw[bS] at G;have V:=HH.out.len;have A:∀g,S g->g<wr.heap.size:=fun g hg=>ax (p9 g hg) (aK t (iF l))
   have oo:=ah (He c b d _ c S wr.drew (show nQ wr.drew S c c b d (.slice R d.length O) from⟨G.obj,G.own.drew,G.lo,G.ns⟩) A HH.out.ok (by omega));obtain⟨s5,mr⟩:=nx (b+512);obtain⟨s6,l6⟩:=nx (b+511);obtain⟨nb,qc⟩:=nx (rM b);have q1:IntKind.i64.wrap ((b:Int)+512)=(s5:Int):=(by rw[aG _ (by omega)];omega);have q2:IntKind.i64.wrap ((s5:Int) - 1)=(s6:Int):=(by rw[aG _ (by omega)];omega);have q3:IntKind.i64.wrap ((s6:Int)/512)=(nb:Int):=by
    have e:(s6:Int)/512=(nb:Int):=(by rw[qc];unfold rM;omega);rw[e];exact aG _ (by unfold rM at qc;omega)
   have z0:((b:Int)==0)=false:=(by simp;omega);have z1:¬b=0:=(by omega);rw[<-qc] at V;have jl:=ah V;have fJ:=ah (show ∀W,Below wr.heap.size wr W->W.cell? ⟨c,0,none⟩=some (.int .i64 b)/\c<W.heap.size from fun W o=>by
    have:=(o.block c l).trans J
    exact⟨by simp[World.cell?,this],ax l o.size⟩)
   have nA:=ah G;clear G bB mr l6 qc V N ql;go_upto_region 20 with (fail)
   refine aP (fun W=>Below wr.heap.size wr W) (fun i=> !([7].contains i)) [0,1,2,3,4,5,6,9,10,11,12,13,14,15,7,8,16,17] rfl (by kernel_rfl) ((aR _ wr).drew) ?_
   repeat (refine oq ?_ rfl rfl rfl ?_ ?_;rotate_left;(focus intro W o;(try dsimp only at o);obtain⟨r0,r1⟩:=fJ.out W o;go_simp;first|done|with_reducible rfl);try simp only[Act.put,aj,au,ak])
   refine dI rfl rfl rfl ?_;intro K hK;go_simp;refine oo.out.mono ?_;rintro e w5 ⟨bv,rfl,dn,kr⟩;obtain⟨xo,xc,rfl,_,_,_,_⟩:=aZ.form dn.dx;refine hK.out _ _ ((aR _ wr).drew.trans kr) ?_
   (try simp only[Act.put,aj,au,ak])
   have z3:=jl.out
   repeat (refine oq ?_ rfl rfl rfl ?_ ?_;rotate_left;(focus intro W o;(try dsimp only at o);obtain⟨r0,r1⟩:=fJ.out W o;(try rw[z3]);go_simp;first|done|with_reducible rfl);try simp only[Act.put,aj,au,ak])
   refine bR ?_;go_wp2_with fail;go_ret2;have aB:Below wr.heap.size wr w5:=(aR _ wr).drew.trans kr;have ko:Below c E w5:=hb.trans (aB.mono (iF l));have j5:=nA.out.below aB;refine⟨c,_,rfl,⟨j5.obj,j5.own.base t,t,bN⟩,?_⟩;exact lm.trans (ko.mono t)
def kH (head:Nat)(rs:List (Nat×Nat)):List Int:=(fV rs++[head]).map fun (b:Nat)=>(b:Int)
theorem Nt (H:VS)(D:cK)(S:Nat->Prop)(w:World)(a d:Nat)(b:List (Nat×Nat))(h:Inv D S H w)(q:xg D a d b):
  Calls Tryz.prog 49 #[.iface 97 H.agg,.int .i64 a] w fun e K=>∃v,e= .returned (.tuple #[v,.int .i64 0])/\aT K S w.heap.size 3 1 v (qG (kH a b)).length ((qG (kH a b)).map (.int .i64))/\Below w.heap.size w K:=by
 have r:=h.sub;have X:=q.lo;obtain⟨R,N⟩:=q.runs;have T:=ah (Us H D S w a d b h q);have x2:((a:Int)==0)=false:=by simp;omega
 have x3:¬a=0:=by omega
 have s:=ah q.ok;have Z:=ah (show ints (fV b)++[.int .i64 (a:Int)]=(kH a b).map (.int .i64) by simp[ints,kH]);have m:=ah (show (kH a b).length=(fV b).length+1 by simp[kH]);clear h q;go_enter Tryz.func49,Tryz.ntmps49;go_wp2_with (first|(go_at_call 96;go_must (refine T.out.mono ?_;rintro e J ⟨V,v,rfl,P,i⟩;refine sO ?_)))
 refine sN ?_;have o:∀g,S g->g<J.heap.size:=fun g x=>ax (r g x) i.size
 have C:=ah (He V d b v w.heap.size S J P o s.out (by omega));go_wp2_with (first|(go_at_call 97;go_must (refine C.out.mono ?_;rintro e G ⟨bv,rfl,f,l⟩;refine sO ?_)))
 refine sN ?_;obtain⟨Y,Q,rfl,_,_,_,_⟩:=aZ.form f.dx;have z:∀g,S g->g<G.heap.size:=fun g x=>ax (o g x) l.size
 have k:=f.base (B:=w.heap.size) i.size;have A:w.heap.size<=G.heap.size:=aK i.size l.size;go_wp2_with (first|(at_builtin;go_must ((refine cO rfl (.tmp 23) (.tmp 25) 93 93 rfl S w.heap.size 3 1 8 _ bE iq rfl (.slice Y (fV b).length Q) _ _ rfl (k.below (aN _ _)) _ 1 _ rfl (gq [.int .i64 (a:Int)] _ 1 1 1 (by simp) bE rfl ?_) (fe z _) ?_ ?_ ?_ ?_);(focus simp[Value.oneCell']);(focus simp only[aU];omega);(focus unfold maxLen;omega);(focus omega);intro p M t c W I O;refine sO ?_)))
 refine sN ?_;rw[Z.out] at c;have j:aT t S w.heap.size 3 1 (.slice p ((fV b).length+1) M) (kH a b).length ((kH a b).map (.int .i64)):=by rw[m.out];exact c
 have n:Below w.heap.size w t:=((i.trans (l.mono i.size)).trans (aN G _|>.mono A)).trans I;have E:=ah (zu (.slice p ((fV b).length+1) M) (kH a b) t S w.heap.size j (by rw[m.out];omega) n.size);go_wp2_with (first|(go_at_call 50;go_must (refine E.out.mono ?_;rintro e w4 ⟨rfl,y,F⟩;refine sO ?_)))
 refine sN ?_;go_wp2_with fail;go_ret2;exact⟨_,rfl,y,n.trans F⟩
def cK.frees (σ:cK)(l:List Int):cK:=l.foldl cK.gone σ
def DN (a:cK)(l:List Int)(k:Nat)(h:k<l.length):a.frees (l.take (k+1))=(a.frees (l.take k)).gone l[k]:=by
 rw[aL h];unfold cK.frees;rw[Ep];rfl
def yS:∀(l:List Int) (a:cK) (x:Int),(∀y∈l,0<=y)->x∉l->(a.frees l).hasB x=a.hasB x
 |[],_,_,_,_=>rfl
 |y::l,a,x,h,b=>by
  have:=yS l (a.gone y) x (fun z c=>h z (aX _ c)) (fun e=>b (aX _ e))
  show ((a.gone y).frees l).hasB x=_
  rw[this]
  exact cK.AU (h y (bf ..)) (fun e=>b (by rw[e];exact bf ..))
def Ba:∀(l:List Int) (a:cK),(∀x∈l,a.hasB x=true)->l.Nodup->mW a (a.frees l) l []
 |[],a,_,_=>mW.refl (by simp)
 |y::l,a,h,d=>by
  obtain⟨i,f⟩:=lV.1 d
  have g:=xW (h y (bf ..))
  have b:=g.left (rs:=l) d (fun x c=>h x (aX _ c))
  have e:∀x∈l,(a.gone y).hasB x=true:=fun x c=>(b.new x c).1
  exact b.trans (Ba l (a.gone y) e f)
structure qd (σ:cK)(head:Nat)(t:List UInt8)(rs:List (Nat×Nat)):Prop where
 hd:xg σ head t.length rs
 nd:(kH head rs).Nodup
 blk:∀i (h:i<(fV rs).length),σ.hasB ((fV rs)[i]:Nat)=true/\2<=(fV rs)[i]/\σ.mem ((fV rs)[i]:Nat)=pad (chunk t i)
def qd.all {f:cK}{t:List UInt8}{d:List (Nat×Nat)}(h:qd f a t d):∀x∈kH a d,f.hasB x=true/\2<=x:=by
 intro x g;unfold kH at g;obtain⟨b,c,rfl⟩:=fw.1 g;rcases bU.1 c with c|c
 ·obtain⟨i,j,e⟩:=fF c
  have:=h.blk i j;rw[e] at this;exact⟨this.1,by have:=this.2.1;omega⟩
 ·rw[bQ.1 c]
  exact⟨h.hd.has,by have:=h.hd.lo;omega⟩
theorem Wv (l:VS)(d:cK)(S:Nat->Prop)(w:World)(a:Nat)(t:List UInt8)(C:List (Nat×Nat))(h:Inv d S l w)(s:qd d a t C):
  Calls Tryz.prog 103 #[.iface 97 l.agg,.int .i64 a] w fun e I=>e= .returned (.int .i64 0)/\Inv (d.frees (qG (kH a C))) S l I/\Step S S w I:=by
 have K:=h.sub;have r:=ah (Nt l d S w a t.length C h s.hd);have g:=s.all;obtain⟨L,p⟩:=nx (qG (kH a C));have v:L.Nodup:=by rw[p];exact(su _ _).nodup_iff.2 s.nd
 have c:∀x∈L,d.hasB x=true/\2<=x:=fun x A=>g x ((CQ x).1 (by rw[<-p];exact A))
 have O:L.length<=97:=by
  rw[p,tV];have:=s.hd.runs.2;simp[kH];omega
 rw[<-p] at r ⊢;have f:=ah c;have G:=ah v;have Q:=ah h;have hm:∀w,(method 454 97 l.agg "Free").run Tryz.prog w= .ok (258,.pointer (some ⟨l.mp,0,none⟩)) w:=fun _=>by kernel_rfl
 clear h s g c v p;go_enter Tryz.func103,Tryz.ntmps103;go_wp2_with (first|(go_at_call 49;go_must (refine r.out.mono ?_;rintro e M ⟨bv,rfl,b,B⟩;refine sO ?_)))
 refine sN ?_;obtain⟨xo,xc,rfl,_,_,_,_⟩:=aZ.form b.dx;have H:=ah b;have z:=ah B;clear b B;go_wp2_with fail;go_loopw [8,9,18] (fun _ _ i wr=>∃k:Nat,k<=L.length/\i= .int .i64 k/\Inv (d.frees (L.take k)) S l wr/\Step S S M wr) (fun _ _ i _=>L.length - (intOf i).toNat)
 case atStart=>exact⟨0,by omega,rfl,by rw[iM];exact Q.out.below z.out,Step.refl _ _⟩
 case round=>
  obtain⟨k,Y,rfl,o,m⟩:=hrel
  by_cases n:k<L.length
  ·have P:(k:Int)<(L.length:Int):=by omega
   have W:=ah (DN d L k n);have A:=f.out L[k] (bF n);have q:L[k]∉L.take k:=fun e=>by
    obtain⟨i,V,J⟩:=fF e;rw[aH] at V;rw[lT] at J;have:=(VE G.out).1 J;omega
   have j:(d.frees (L.take k)).hasB L[k]=true:=by
    rw[yS _ _ _ (fun y T=>by have:=(f.out y (eT T)).2;omega) q];exact A.1
   have E:=ah (tZ l (d.frees (L.take k)) S wr L[k] o A.2 j);obtain⟨Z,X,rfl,R⟩:=jV.at (zs:=L) (H.out.step m).dx rfl k n;have N:=aF wr _ R;clear A q j;go_wp2_with (refine E.out.mono ?_;rintro e w2 ⟨rfl,D,F⟩);go_roundw
   case rel=>exact⟨k+1,by omega,by go_num,by rw[W.out];exact D,m.trans F⟩
   case measure=>simp[intOf];omega
  ·obtain rfl:k=L.length:=by omega
   rw[bS] at o;have P:¬(L.length:Int)<(L.length:Int):=(by omega);go_wp2_with fail;go_ret;exact⟨rfl,o,(Step.of_below z.out).trans m⟩
end Go.Proofs.YtogbkgmlhhahdaaGreat
namespace Go.Proofs.YtogbkgmlhhahdaaGreat
open Go.RowKit Go.Shelf
variable{c:List (Nat×Nat)}{l:List UInt8}{B a b:Nat}{S:Nat->Prop}{v:Value}{w:World}
def Mg:Go.Shelf.Ren:=⟨fun x=>match x with|240=>213|276=>220|169=>192|n=>n,fun x=>match x with|0=>0|3=>3|4=>4|5=>5|9=>9|20=>20|37=>70|70=>295|72=>297|127=>322|164=>328|n=>n,fun n=>n⟩
def FI:Lays.n240 Tryz.prog Mg where
 mixed:=by kernel_rfl
 f240:=Tryz.func213.trans (congrArg some (by kernel_rfl))
 f276:=Tryz.func220.trans (congrArg some (by kernel_rfl))
 t0:=Co
 a0:=Tryz.isAgg0
 z0:=Uw
 v0:=FP
 t4:=Cn
 a4:=Tryz.isAgg4
 z4:=Tryz.sizeOf4
 v4:=Tryz.zeroValue4
 t9:=gW
 a9:=Tryz.isAgg9
 z9:=Tryz.sizeOf9
 v9:=Tryz.zeroValue9
 t20:=Tryz.underlying20
 a20:=Tryz.isAgg20
 z20:=Tryz.sizeOf20
 v20:=Tryz.zeroValue20
 t70:=Tryz.underlying295
 a70:=Tryz.isAgg295
 z70:=Tryz.sizeOf295
 v70:=Tryz.zeroValue295
 t72:=Tryz.underlying297
 a72:=Tryz.isAgg297
 z72:=Tryz.sizeOf297
 v72:=Tryz.zeroValue297
 t164:=Tryz.underlying328
 a164:=Tryz.isAgg328
 z164:=Tryz.sizeOf328
 v164:=Tryz.zeroValue328
def KQ:Lays.n169 Tryz.prog Mg where
 mixed:=by kernel_rfl
 f169:=Tryz.func192.trans (congrArg some (by kernel_rfl))
 t0:=Co
 a0:=Tryz.isAgg0
 z0:=Uw
 v0:=FP
 t3:=jG
 a3:=Tryz.isAgg3
 z3:=Tryz.sizeOf3
 v3:=Vu
 t9:=gW
 a9:=Tryz.isAgg9
 z9:=Tryz.sizeOf9
 v9:=Tryz.zeroValue9
 t37:=bG
 a37:=Tryz.isAgg70
 z37:=Tryz.sizeOf70
 v37:=Tryz.zeroValue70
 t70:=Tryz.underlying295
 a70:=Tryz.isAgg295
 z70:=Tryz.sizeOf295
 v70:=Tryz.zeroValue295
 t72:=Tryz.underlying297
 a72:=Tryz.isAgg297
 z72:=Tryz.sizeOf297
 v72:=Tryz.zeroValue297
 t127:=Tryz.underlying322
 a127:=Tryz.isAgg322
 z127:=Tryz.sizeOf322
 v127:=Tryz.zeroValue322
def Ef:Builder.Extra Tryz.prog Mg where
 sizeBuilder:=by kernel_rfl
 liesBuilder:=by kernel_rfl
 t5:=kX
 a5:=Tryz.isAgg5
 z5:=Tryz.sizeOf5
 v5:=Tryz.zeroValue5
 infoByte:=by kernel_rfl
 cellsByte:=by kernel_rfl
 sizeByte:=by kernel_rfl
 neB5:=by decide
end Go.Proofs.YtogbkgmlhhahdaaGreat
namespace Go.Proofs.YtogbkgmlhhahdaaGreat
open Go.RowKit
variable{c:List (Nat×Nat)}{l:List UInt8}{B a b:Nat}{S:Nat->Prop}{v:Value}{w:World}
structure xk (w:World)(S:Nat->Prop)(B b:Nat)(l:List UInt8):Prop where
 ns:¬S b
 at_:∃p v,(p= .pointer none\/p= .pointer (some ⟨b,0,none⟩))/\w.heap[b]? =some (.cells #[p,v] 297 (0,0))/\aT w S B 5 1 v l.length (aI l)
def xk.below {w':World}(h:xk w S B b l)(c:Below w.heap.size w w'):xk w' S B b l:=by
 obtain⟨d,p,v,f,a,e⟩:=h;exact⟨d,p,v,f,(c.block b (ai.1 a).1).trans a,e.below c⟩
def xk.lt (h:xk w S B b l):b<w.heap.size:=by
 obtain⟨_,p,v,_,a,_⟩:=h;exact(ai.1 a).1
def Pp (B b:Nat)(l:List UInt8)(S:Nat->Prop)(w:World)(h:xk w S B b l):
  Calls Tryz.prog 213 #[.pointer (some ⟨b,0,none⟩)] w fun e c=>e= .returned (.tuple #[])/\(∃v,c.heap[b]? =some (.cells #[.pointer (some ⟨b,0,none⟩),v] 297 (0,0))/\aT c S B 5 1 v l.length (aI l))/\Keep (· =b) w c:=by
 obtain⟨n,p,v,k,a,d⟩:=h;rcases k with rfl|rfl
 ·refine(Any.Builder_copyCheck_fresh FI Ef.toX72 b w (by simp[World.cell?,a]) (by simp[World.shape?,a];rfl) (by simp[World.frozen?,a])).mono ?_
  rintro e c ⟨rfl,rfl⟩;have f:Keep (· =b) w (w.setCell ⟨b,0,none⟩ (.pointer (some ⟨b,0,none⟩))):=(Keep.refl (· =b) _).setCell (p:=⟨b,0,none⟩) (.inr rfl) _;refine⟨rfl,⟨v,by simp[World.setCell,aQ,a],d.keep fun g i j m=>⟨f.block g j (fun e=>d.ne a (by decide) (by rw[i,e])),m⟩⟩,f⟩
 ·refine(Any.Builder_copyCheck_used FI Ef.toX72 b w (by simp[World.cell?,a])).mono ?_
  rintro e c ⟨rfl,rfl⟩;exact⟨rfl,⟨v,a,d⟩,Keep.refl _ _⟩
theorem Po (B b:Nat)(l x:List UInt8)(z:Value)(S:Nat->Prop)(w:World)(h:xk w S B b l)(X:B<=w.heap.size)(W:∀g,S g->g<w.heap.size)(I:aZ w gB 1 z x.length (aI x))(H:∀g,z.ownBlock=some g->g≠b)(r:l.length<=1000000)(M:x.length<=1000000):
  Calls Tryz.prog 191 #[.pointer (some ⟨b,0,none⟩),z] w fun e K=>e= .returned (.tuple #[.int .i64 x.length,.nilIface])/\xk K S B b (l++x)/\Keep (fun g=>g=b\/B<=g) w K:=by
 have R:=ah (Pp B b l S w h);have F:=h.ns;obtain⟨Y,O,rfl,_,_,_,_⟩:=aZ.form I;have HX:=ah I;have s:=ah (show aI l++aI x=aI (l++x) from(iZ l x).symm);clear h I;go_enter Tryz.func191,Tryz.ntmps191;go_wp2_with (first|(go_at_call 213;go_must (refine R.out.mono ?_;rintro e J ⟨rfl,⟨v,f,d⟩,j⟩;refine sO ?_)))
 refine sN ?_;obtain⟨A,c,rfl,_,_,_,_⟩:=aZ.form d.dx;have o:=(aZ.keep (S':=gB) HX.out (fun g m r _=>⟨j.block g r (fun e=>H g m e),id⟩)).src (P:=Tryz.prog) bG (iA x);have Q:J.cell? ⟨b,1,none⟩=some (.slice A l.length c):=by simp[World.cell?,f]
 have t:=(ai.1 f).1;have D:∀g,S g->g<J.heap.size:=fun g m=>ax (W g m) j.size
 have y:=aK X j.size;go_wp2_with (first|(at_builtin;go_must ((refine cO rfl (.tmp 12) (.tmp 13) 70 70 rfl S B 5 1 1 (.int .u8 0) bG kJ rfl (.slice A l.length c) _ _ rfl d (.slice Y x.length O) _ _ rfl o D ?_ ?_ ?_ ?_);(focus exact y);(focus unfold maxLen;omega);(focus omega);intro G T k i q Z N;refine sO ?_)))
 refine sN ?_;have a:k.heap[b]? =_:=(q.block b t (d.ne f (by decide))).trans f;have g1:k.cell? ⟨b,1,none⟩=some (.slice A l.length c):=by simp[World.cell?,a]
 have gf:k.frozen? ⟨b,1,none⟩=false:=by simp[World.frozen?,a]
 have gl:=(ai.1 a).1;have C:=ah i;clear i;go_wp2_with fail;go_ret2;have n:Keep (· =b) k (k.setCell ⟨b,1,none⟩ (.slice G (l.length+x.length) T)):=(Keep.refl (· =b) _).setCell (p:=⟨b,1,none⟩) (.inr rfl) _;have E:=C.out;rw[s.out] at E;refine⟨rfl,⟨F,_,_,.inr rfl,by simp[World.setCell,aQ,a];rfl,?_⟩,?_⟩
 ·rw[ay]
  exact E.keep fun g m r V=>⟨n.block g r (fun e=>E.ne a (by decide) (by rw[m,e])),V⟩
 ·exact((j.mono (fun _ _ e=> .inl e)).trans (q.mono (fun g _ e=> .inr (d.lo g e))) (fun _ _ e=>e)).trans (n.mono (fun _ _ e=> .inl e)) (fun _ _ e=>e)
def Mf (B b:Nat)(l:List UInt8)(S:Nat->Prop)(w:World)(h:xk w S B b l):
  Calls Tryz.prog 192 #[.pointer (some ⟨b,0,none⟩)] w fun e k=>e= .returned (.string ⟨l.toArray⟩)/\Below (min B b) w k:=by
 have j:=h.lt;obtain⟨n,p,v,m,f,g⟩:=h;have a:=g.ne f (by decide);have d:(Lib.byteCells l)=aI l:=rfl;have c:=g.base (B:=min B b) (Nat.min_le_left _ _);have i:Lib.BuilderAt 297 5 (min B b) b p (Lib.byteCells l) w:=⟨Nat.min_le_right _ _,v,f,by rw[d,bP];exact c.1,a⟩;refine(Any.Builder_String_any KQ Ef (min B b) b l w ?_ (by omega));rcases m with rfl|rfl
 ·exact .inl i
 ·exact .inr i
def pO (t:List UInt8)(k:Nat):(chunk t k).length=min 512 (t.length - 512*k):=by simp[chunk]
def KM (t:List UInt8)(k:Nat):t.take (512*k)++chunk t k=t.take (512*(k+1)):=by
 unfold chunk;rw[show 512*(k+1)=512*k+512 by omega,SA]
theorem TY (P:VS)(σ:cK)(S:Nat->Prop)(w:World)(d:Nat)(t:List UInt8)(c:List (Nat×Nat))(h:Inv σ S P w)(B:qd σ d t c):
  Calls Tryz.prog 160 #[.iface 97 P.agg,.int .i64 d,.int .i64 0,.int .i64 49152] w fun e w'=>e= .returned (.tuple #[.string ⟨t.toArray⟩,.int .i64 0])/\Below w.heap.size w w':=by
 have s:=h.sub;have HL:=ah (Us P σ S w d t.length c h B.hd);have j6:=B.hd.lo;have kr:=B.hd.s1;have j5:=B.hd.s2;have I:=ah B.hd.len;have av:=B.hd.runs;obtain⟨av,E⟩:=av;have dR:=ah B.hd.ok;have HI:=ah h;have fJ:=ah B.blk;have x1:¬(d:Int)<0:=by omega
 have x2:decide ((d:Int)<0)=false:=bM x1;have m1:min (0:Int) (t.length:Int)=0:=by omega
 have m2:min (49152:Int) (t.length:Int)=(t.length:Int):=by omega
 have hm:∀w,(method 454 97 P.agg "Read").run Tryz.prog w= .ok (57,.pointer (some ⟨P.tx,0,none⟩)) w:=fun _=>by kernel_rfl
 clear h B;go_enter Tryz.func160,Tryz.ntmps160;go_wp2_with (first|(go_at_call 96;go_must (refine HL.out.mono ?_;rintro e J ⟨lb,v,rfl,hA,z⟩;refine sO ?_)))
 refine sN ?_;have j3:J.cell? ⟨lb,0,none⟩=some (.int .i64 t.length):=by have:=hA.obj;simp[World.cell?,this]
 have iO:lb<J.heap.size:=(ai.1 hA.obj).1;have HA:=ah hA;clear hA;go_upto_region 11 with (fail)
 obtain⟨m,F⟩:=nm J.heap.size;obtain⟨Z,K⟩:=nm (J.alloc (.cells #[.pointer none,.slice none 0 0] 297));have O:Below J.heap.size J Z:=by rw[<-K.out];exact aN J _
 have N:Z.heap[m]? =some (.cells #[.pointer none,.slice none 0 0] 297 (0,0)):=by rw[<-K.out,<-F.out];exact aV J _
 rw[K.out,F.out];have y:w.heap.size<=m:=by rw[<-F.out];exact z.size
 have r:m<Z.heap.size:=(ai.1 N).1;have fB:∀g,S g->g<Z.heap.size:=fun g A=>ax (s g A) (aK y (iF r))
 have dx:=ah (He lb t.length c v w.heap.size S Z (HA.out.below O) fB dR.out (by omega));clear j3 iO;go_wp2_with (first|(go_at_call 97;go_must (refine dx.out.mono ?_;rintro e Y ⟨bv,rfl,f,D⟩;refine sO ?_)))
 refine sN ?_;obtain⟨xo,xc,rfl,_,_,_,_⟩:=aZ.form f.dx;have ql:=(D.block m r).trans N;have af:=HI.out.below (z.trans ((O.trans (D.mono (by rw[F.out];omega))).mono z.size));have jb:¬S m:=fun x=>absurd (s m x) (bg.2 y)
 have q:xk Y S Y.heap.size m (t.take (512*0)):=⟨jb,_,_,.inl rfl,ql,by rw[Nat.mul_zero,iM];exact aT.nil _ _ _ _ _⟩;have HO:=ah f;have j:Below w.heap.size w Y:=(z.trans (O.mono z.size)).trans (D.mono (by omega));have fA:=ah af;obtain⟨C,T⟩:=nm Y.heap.size;rw[T.out] at q;have ko:m<C:=by rw[<-T.out];exact ax r D.size
 have qb:∀g,S g->g<w.heap.size:=s
 clear f af ql N;go_wp2_with fail;go_loopw [14,15,16,17,18,19,62] (fun _ _ _ _ _ _ i wr=>∃k:Nat,k<=(fV c).length/\i= .int .i64 k/\xk wr S C m (t.take (512*k))/\Keep (fun g=>g=m\/C<=g) Y wr) (fun _ _ _ _ _ _ i _=>(fV c).length - (intOf i).toNat)
 case atStart=>exact⟨0,by omega,rfl,q,Keep.refl _ _⟩
 case round=>
  clear q;obtain⟨k,hk,rfl,E,l⟩:=hrel
  by_cases bH:k<(fV c).length
  ·have y1:(k:Int)<((fV c).length:Int):=by omega
   have aA:aT wr S Z.heap.size 3 1 (.slice xo (fV c).length xc) (fV c).length (ints (fV c)):=HO.out.keep fun g A hl hs=>⟨l.block g hl (fun e=>by
    have:=HO.out.lo g A
    rcases e with e|e
    ·omega
    ·rw[<-T.out] at e;omega),hs⟩
   have V:=aA.dx;rw[Nh] at V;have bB:jV wr S (.slice xo (fV c).length xc) ((fV c).map fun (b:Nat)=>(b:Int)):=(by unfold jV;rw[jX];exact V);obtain⟨pb,po,rfl,d1⟩:=bB.at rfl k (by simpa using bH);rw[List.getElem_map] at d1;have j4:=aF wr _ d1;obtain⟨bN,qc,H⟩:=fJ.out k bH;have dZ:Inv σ S P wr:=fA.out.lQ l (fun g A e=>by
    have:=qb g A
    rcases e with e|e
    ·omega
    ·omega)
   have R:=Df P σ S wr ((fV c)[k]:Nat) dZ bN;rw[H] at R;have q8:=ah R;obtain⟨bk,bC⟩:=nm ((fV c)[k]);rw[bC.out] at d1 q8;have jF:=pO t k;have jv:512*k<t.length:=(by have p9:=I.out;unfold rM at p9;omega);obtain⟨n,q9⟩:=nx (min 512 (t.length - 512*k));have m3:max (-((k:Int)*512)) 0=0:=(by omega);have m4:min ((t.length:Int) - (k:Int)*512) 512=(n:Int):=(by omega);have W:=ah q9;have z1:¬(n:Int)<=0:=(by omega);have z2:¬n=0:=(by omega);have z3:n<=512:=(by omega);clear q9 R H aA V qc bN jF;go_upto_region 15 with (fail)
   have z4:¬(512:Int)<(n:Int):=(by omega);have z5:(n:Int)<=512:=(by omega);go_wp2_with (refine q8.out.mono ?_;rintro e w4 ⟨dv,rfl,Q,dn,X⟩;refine sO ?_);refine sN ?_;obtain⟨vo,vc,rfl,n1,kT,_,_⟩:=aZ.form Q;have p:=aZ.upto (aZ.loose Q) n z3;have bA:(aI (pad (chunk t k))).take (n*1)=aI (chunk t k):=by
    rw[aW];unfold aI pad;rw[<-gI,bI (by rw[pO,W.out];exact aD _),aJ (by rw[pO,W.out];exact aD _)]
   rw[bA] at p;have o:(chunk t k).length=n:=(by rw[pO,W.out]);have G:=E.below X;have pM:C<=w4.heap.size:=(by have a:=l.size;have b:=X.size;rw[<-T.out];omega);have fK:∀g,S g->g<w4.heap.size:=fun g A=>by have:=qb g A;have a:=y;omega
   have aB:=Po C m (t.take (512*k)) (chunk t k) (.slice vo n vc) S w4 G pM fK (by rw[o];exact p) (fun g A=>by
    have h1:=dn g (by cases vo<;>exact A)
    have h2:=l.size
    rw[T.out] at h2
    omega) (by simp;omega) (by rw[o];omega)
   have di:=ah aB;have z6:(n:Int)<=(vc:Int):=(by omega);clear Q p bA o aB G;go_upto_region 21 with (fail)
   go_wp2_with (first|(go_at_call 191;go_must (refine di.out.mono ?_;rintro e w5 ⟨rfl,qo,fo⟩)))
   go_roundw
   case rel=>exact⟨k+1,by omega,by go_num,by rw[<-KM];exact qo,(l.trans (Keep.of_below X (fun g=>g=m\/C<=g)) (fun _ _ e=>e)).trans fo (fun _ _ e=>e)⟩
   case measure=>simp[intOf];omega
  ·obtain rfl:k=(fV c).length:=by omega
   have y1:¬((fV c).length:Int)<((fV c).length:Int):=(by omega);have M:t.take (512*(fV c).length)=t:=aJ (by rw[I.out];unfold rM;omega);rw[M] at E;have jO:=ah (Mf C m t S wr E);have kg:=ah M;clear M;go_wp2_with (first|(go_at_call 192;go_must (refine jO.out.mono ?_;rintro e w5 ⟨rfl,jl⟩)))
   go_ret2;refine⟨rfl,?_⟩;have h1:Below w.heap.size Y wr:=l.jF j.size (fun i n e=>by
    have:=T.out
    have:=j.size
    omega)
   exact(j.trans h1).trans (jl.mono (by
    have:=T.out
    have:=j.size
    omega))
theorem Wu (b:VS)(c:cK)(S:Nat->Prop)(w:World)(a:Nat)(t:List UInt8)(d:List (Nat×Nat))(h:Inv c S b w)(f:qd c a t d):
  Calls Tryz.prog 115 #[.iface 97 b.agg,.int .i64 a] w fun e g=>e= .returned (.tuple #[.string ⟨t.toArray⟩,.int .i64 0])/\Below w.heap.size w g:=by
 have i:=ah (TY b c S w a t d h f);clear h f;go_enter Tryz.func115,Tryz.ntmps115;go_wp2_with (first|(go_at_call 160;go_must (refine i.out.mono ?_;rintro e k ⟨rfl,j⟩)))
 go_ret2;exact⟨rfl,j⟩
def jK (l:List Nat):List Int:=l.map fun (b:Nat)=>(b:Int)
def Dz (l:List Nat):ints l=(jK l).map (.int .i64):=Nh l
def wD {l:List Nat}(h:l.Nodup):(jK l).Nodup:=List.Pairwise.map _ (fun a b (e:a≠b)=>by show (a:Int)≠(b:Int);omega) h
structure WV (w:World)(S:Nat->Prop)(B tkb sb:Nat)(mp:VS)(bs:List Nat):Prop where
 tk:∃v,w.heap[tkb]? =some (.cells #[v] 93 (0,0))/\aT w S B 3 1 v bs.length (ints bs)
 st:w.heap[sb]? =some (.cells #[.iface 97 mp.agg] 158 (0,0))
 n1:¬S tkb
 n2:¬S sb
def WV.step {w w':World}{S S':Nat->Prop}{B b k:Nat}{l:VS}{c:List Nat}(h:WV w S B b k l c)(a:Step S S' w w'):WV w' S' B b k l c:=by
 obtain⟨⟨v,e,m⟩,g,d,f⟩:=h;have i:=(ai.1 e).1;have j:=(ai.1 g).1;exact⟨⟨v,(a.1.block _ i d).trans e,m.step a⟩,(a.1.block _ j f).trans g,fun x=>(a.2 _ x).elim d (fun y=>absurd i (bg.2 y)),fun x=>(a.2 _ x).elim f (fun y=>absurd j (bg.2 y))⟩
theorem Wt (l:VS)(q:cK)(S:Nat->Prop)(w:World)(B r A:Nat)(a:List Nat)(J:Int)(h:Inv q S l w)(T:WV w S B r A l a)(hn:a.Nodup)(hl:a.length<=1000)(g:∀b∈a,q.hasB (b:Nat)=true/\2<=b):
  Calls Tryz.prog 104 #[.int .i64 J,.pointer (some ⟨r,0,none⟩),.pointer (some ⟨A,0,none⟩)] w fun e I=>e= .returned (.tuple #[.int .i64 0,.int .i64 J])/\Inv (q.frees (jK a)) S l I/\Step S S w I:=by
 have HV:=ah T;obtain⟨⟨v,M,C⟩,Q,h4,h5⟩:=T;obtain⟨V,P,rfl,_,_,_,_⟩:=aZ.form C.dx;have c1:w.cell? ⟨r,0,none⟩=some (.slice V a.length P):=by simp[World.cell?,M]
 have l1:=(ai.1 M).1;have x:=ah g;have Z:=ah h;have H:=ah (wD hn);have HO:=ah C;have K:=ah Q;have n:=ah (show (jK a).length=a.length by simp[jK]);have hm:∀w,(method 454 97 l.agg "Free").run Tryz.prog w= .ok (258,.pointer (some ⟨l.mp,0,none⟩)) w:=fun _=>by kernel_rfl
 clear h C Q g;go_enter Tryz.func104,Tryz.ntmps104;go_wp2_with fail;go_loopw [7,10] (fun _ i wr=>∃k:Nat,k<=a.length/\i= .int .i64 k/\Inv (q.frees ((jK a).take k)) S l wr/\Step S S w wr) (fun _ i _=>a.length - (intOf i).toNat)
 case atStart=>exact⟨0,by omega,rfl,Z.out,Step.refl _ _⟩
 case round=>
  obtain⟨k,hk,rfl,o,d⟩:=hrel
  by_cases s:k<a.length
  ·have Y:(k:Int)<(a.length:Int):=by omega
   have m:k<(jK a).length:=(by rw[n.out];exact s);have W:=ah (DN q (jK a) k m);have c:(jK a)[k]=((a[k]:Nat):Int):=(by simp[jK]);have R:=x.out a[k] (bF s);have z:(jK a)[k]∉(jK a).take k:=fun e=>by
    obtain⟨i,hi,O⟩:=fF e;rw[aH] at hi;rw[lT] at O;have:=(VE H.out).1 O;omega
   have j:(q.frees ((jK a).take k)).hasB (a[k]:Nat)=true:=by
    rw[<-c,yS _ _ _ (fun y hy=>by
     obtain⟨b,_,rfl⟩:=fw.1 (eT hy)
     omega) z,c]
    exact R.1
   have D:=ah (tZ l (q.frees ((jK a).take k)) S wr (a[k]:Nat) o (by omega) j);have p:=(HO.out.step d).dx;rw[Dz] at p;have f:jV wr S (.slice V a.length P) (jK a):=(by unfold jV;rw[n.out];exact p);obtain⟨pb,po,rfl,N⟩:=f.at rfl k m;rw[c] at N;have X:=aF wr _ N;have t:=(d.1.block A (ai.1 K.out).1 h5).trans K.out;have s0:wr.cell? ⟨A,0,none⟩=some (.iface 97 l.agg):=(by simp[World.cell?,t]);have sl:=(ai.1 t).1;rw[c] at W;clear R z j p f m c;go_wp2_with (refine D.out.mono ?_;rintro e w2 ⟨rfl,E,G⟩);go_roundw
   case rel=>exact⟨k+1,by omega,by go_num,by rw[W.out];exact E,d.trans G⟩
   case measure=>simp[intOf];omega
  ·have F:k=a.length:=by omega
   subst F;rw[<-n.out,bS] at o;have Y:¬(a.length:Int)<(a.length:Int):=(by omega);go_wp2_with fail;go_ret2;exact⟨rfl,o,d⟩
def Ec (s:ByteArray)(W:World)(n:s.size<=1000000):∃(c:Nat) (f:World),(convert 9 70 (.string s)).run Tryz.prog W= .ok (.slice (some ⟨W.heap.size,0,none⟩) s.size c) f/\aZ f gB 1 (.slice (some ⟨W.heap.size,0,none⟩) s.size c) s.data.toList.length (aI s.data.toList)/\Below W.heap.size W f:=by
 refine⟨_,_,run_bytes_of_string W 9 70 5 s gW bG kX,?_,?_⟩
 ·have b:s.data.toList.length=s.size:=by show s.data.toList.length=s.data.size;simp
  rw[b];refine⟨_,_,rfl,Aj _ _ _ _,nR _ _ _ _ (by simp only[maxLen];omega),by rw[bP,b,aW],(fun e=>by cases e),fun o l=> ?_,fun j u d=> ?_⟩
  ·cases l
   exact⟨rfl,by simp,id⟩
  ·have i:j<s.data.size:=by
    have:=(dm.1 d).1;rw[bP] at this;simpa using this
   refine⟨_,_,rfl,?_⟩;have m:=bytesRow_at s (grownCap W s.size 0 5) j i;have g:u= .int .u8 (s.data[j].toNat:Int):=by
    unfold aI at d;rw[eZ] at d;simp at d;obtain⟨a,k,rfl⟩:=d;rw[Array.getElem?_eq_getElem i] at k;cases k;rfl
   rw[g,<-m,dX];unfold World.cell?;have:(W.drew.alloc (.cells (bytesRow s (grownCap W s.size 0 5)) 5 ((bytesRow s (grownCap W s.size 0 5)).size,(bytesRow s (grownCap W s.size 0 5)).size+1))).heap[W.heap.size]? =some (.cells (bytesRow s (grownCap W s.size 0 5)) 5 ((bytesRow s (grownCap W s.size 0 5)).size,(bytesRow s (grownCap W s.size 0 5)).size+1)):=aV W.drew _;simp only[this];rfl
 ·exact((aR _ W).drew).trans (aN W.drew _)
def RH {a:cK}{f:Nat}(j:a.hasB f=false)(i:a.held f=false)(k:f<a.most):mW a (a.took f) [] [(f:Int)]:=by
 have g:a.now f=false:=by unfold cK.hasB at j;simpa [k] using j
 have d:a.H.old f=false:=by unfold cK.held at i;simpa using i
 have l:∀x,(a.took f).hasB x=(a.hasB x||decide (x=(f:Int))):=fun x=>by
  show (decide (0<=x) && (decide (x.toNat<a.most) && iB a.now f true x.toNat))=_;unfold cK.hasB iB
  by_cases c:x=(f:Int)
  ·subst c;simp[k]
  ·by_cases m:0<=x
   ·rw[if_neg (by omega)];simp[c]
   ·simp[m,c]
 refine⟨rfl,rfl,fun x c _=>⟨by rw[l,c];rfl,rfl⟩,fun x c=> ?_,fun _=>by simp,?_,fun x c=> ?_⟩
 ·rw[bQ.1 c]
  exact⟨by rw[l];simp,.inr j⟩
 ·show countB (fun x=>iB a.now f true x||a.H.old x) a.most+_=countB (fun x=>a.now x||a.H.old x) a.most+_
  have e:=A7 (f:=fun x=>a.now x||a.H.old x) (b:=f) (by rw[g,d];rfl) _ k;have n:countB (fun x=>iB a.now f true x||a.H.old x) a.most=countB (iB (fun x=>a.now x||a.H.old x) f true) a.most:=jW _ (fun x _=>by unfold iB;split<;>simp);rw[n,e];simp[nh,i]
 ·rw[l,tO,eB] at c
  rcases c with c|c
  ·exact .inr ⟨c,by simp⟩
  ·exact .inl (by rw[c];exact bf ..)
def Np {σ:cK}{us:List Int}(h:∀x∈us,σ.hasB x=true)(d:(b:Int)∈us)(g:2<=b):mW σ (σ.wrote b l) us us:=by
 refine⟨rfl,rfl,fun x a f=>⟨a,?_⟩,fun x a=>⟨h x a,.inl a⟩,id,rfl,fun x a=>by
  by_cases c:x∈us
  ·exact .inl c
  ·exact .inr ⟨a,c⟩⟩
 show σ.H.pg.look (σ.im.put b l) σ.H.dk x.toNat=σ.H.pg.look σ.im σ.H.dk x.toNat;rw[qA,if_neg];intro e;exact(f.resolve_right id) (by rw[show x=(b:Int) by omega];exact d)
structure RZ (σ σk:cK)(bs:List Nat):Prop where
 D9:mW σ σk [] (jK bs)
 two:∀b∈bs,2<=b/\b<σ.most
 nheld:∀b∈bs,σ.held (b:Nat)=false
 tk:σk.tk<=max σ.tk σk.sz
def RZ.nd {f c:cK}{d:List Nat}(h:RZ f c d):d.Nodup:=by
 have:=h.D9.nd qR;unfold jK at this;exact List.Pairwise.of_map _ (fun a b (e:(a:Int)≠b)=>fun h=>e (by rw[h])) this
def RZ.sz {d a:cK}{c:List Nat}(h:RZ d a c):a.sz=d.sz+c.length:=by
 have:=h.D9.size;have e:nh d (jK c)=c.length:=by
  unfold nh jK;rw[Ao.2 (fun x g=>by
   obtain⟨b,f,rfl⟩:=fw.1 g
   rw[h.nheld b f];rfl)]
  simp
 rw[e] at this;simpa [nh] using this
def RZ.has {e a:cK}{d:List Nat}(h:RZ e a d):∀b∈d,a.hasB (b:Nat)=true/\2<=b:=fun b c=>⟨(h.D9.new _ (kM c)).1,(h.two b c).1⟩
def RZ.more {g a:cK}{bs:List Nat}(h:RZ g a bs){f:Nat}(j:a.hasB f=false)(d:a.held f=false)(n:2<=f)(i:f<a.most):RZ g (a.took f) (bs++[f]):=by
 have p:=h.D9.most;have e:=RH j d i;have l:=e.left (rs:=jK bs) (by simpa using h.D9.nd qR) (fun x o=>(h.D9.new x o).1);have m:=(h.D9.trans (by simpa using l)).perm (jH _) (bs':=jK (bs++[f])) (by
  unfold jK
  rw[bT]
  show ([(f:Int)]++bs.map fun (b:Nat)=>(b:Int)).Perm ((bs.map fun (b:Nat)=>(b:Int))++[(f:Int)])
  exact fI)
 refine⟨m,fun b c=> ?_,fun b c=> ?_,?_⟩
 ·rcases bU.1 c with c|c
  ·exact h.two b c
  ·rw[bQ.1 c];exact⟨n,by omega⟩
 ·rcases bU.1 c with c|c
  ·exact h.nheld b c
  ·rw[bQ.1 c,<-Cj h.D9.H];exact d
 ·have q:=h.tk
  have k:=e.size;simp[nh] at k;have r:(a.took f).tk=max a.tk (a.took f).sz:=rfl;omega
