--
import Derived.Test.YtogbkgmlhhahdaaGreatT7
import Derived.Lib.SlBytesConst
set_option maxRecDepth 100000
set_option maxHeartbeats 0
set_option linter.all false
namespace Go.Proofs.YtogbkgmlhhahdaaGreat
open Go.RowKit
variable{l:Lg}{a:List ByteArray}{d k n:Nat}{A B M S b c e:Nat->Prop}{v:Value}{w w':World}
def iI (d:Nat)(l:Lg)(lv:Value):List Value:=[.pointer (some ⟨d,0,none⟩),.int .i64 l.frm,.int .i64 l.n,.int .i64 l.start,.int .i64 l.used,lv,.int .i64 l.last,.int .i64 l.synced,.bool l.dead]
def EF (d:Nat)(l:Lg)(a:Value):(iI d l a).length=9:=rfl
def jQ (es:List (Nat×Nat)):List Value:=es.flatMap fun e=>[.int .i64 (e.1:Int),.int .i64 (e.2:Int)]
structure Lg.Ok (l:Lg):Prop where
 n2:2<=l.n
 hi:l.frm+l.n<=4096
 st:l.start<l.n - 1
 us:l.used<=l.n - 1
 la:l.last<=1000000000000
 sy:l.synced<=l.last
 ent:∀e∈l.list,1<=e.2/\e.1<=l.last
 sum:(l.list.map (·.2)).sum=l.used
structure pV (w:World)(S:Nat->Prop)(lg d:Nat)(l:Lg)(lv:Value)(dn:Bool)(c:Int):Prop where
 ok:l.Ok
 sub:∀g,S g->g<w.heap.size
 sl:S lg
 row:Row w lg 224 (jc (iI d l lv) dn c [])
 lst:l.dead=false->mO w 229 2 lv l.list.length (jQ l.list)
 slv:l.dead=false->∀g,lv.ownBlock=some g->S g/\g≠lg
def uq (w:World)(S:Nat->Prop)(lg d:Nat)(l:Lg):Prop:=∃lv dn c,pV w S lg d l lv dn c
def pV.cells {a:Nat}{b:Value}{e:Bool}{c:Int}(h:pV w S a d l b e c):
  w.cell? ⟨a,0,none⟩=some (.pointer (some ⟨d,0,none⟩))/\w.cell? ⟨a,1,none⟩=some (.int .i64 l.frm)/\w.cell? ⟨a,2,none⟩=some (.int .i64 l.n)/\w.cell? ⟨a,3,none⟩=some (.int .i64 l.start)/\w.cell? ⟨a,4,none⟩=some (.int .i64 l.used)/\
  w.cell? ⟨a,5,none⟩=some b/\w.cell? ⟨a,6,none⟩=some (.int .i64 l.last)/\w.cell? ⟨a,7,none⟩=some (.int .i64 l.synced)/\w.cell? ⟨a,8,none⟩=some (.bool l.dead)/\a<w.heap.size/\∀j,w.frozen? ⟨a,j,none⟩=false:=
 ⟨h.row.cell 0,h.row.cell 1,h.row.cell 2,h.row.cell 3,h.row.cell 4,h.row.cell 5,h.row.cell 6,h.row.cell 7,h.row.cell 8,h.row.lt,fun j=>h.row.frozen j⟩
def pV.keep {j:Value}{f:Bool}{c:Int}(h:pV w S k d l j f c)(e:Keep M w w')(i:∀g,S g->¬M g):pV w' S k d l j f c:=
 ⟨h.ok,fun g a=>ax (h.sub g a) e.size,h.sl,h.row.keep e (i _ h.sl),fun b=>(h.lst b).keep fun g a=>e.block g (h.sub _ (h.slv b g a).1) (i _ (h.slv b g a).1),h.slv⟩
def uq.keep {a:Nat}(h:uq w S a d l)(b:Keep M w w')(f:∀g,S g->¬M g):uq w' S a d l:=by
 obtain⟨i,e,c,h⟩:=h;exact⟨i,e,c,h.keep b f⟩
def uq.ok {a:Nat}(h:uq w S a d l):l.Ok:=by obtain⟨_,_,_,h⟩:=h;exact h.ok
def uq.sub {a:Nat}(h:uq w S a d l):∀g,S g->g<w.heap.size:=by obtain⟨_,_,_,h⟩:=h;exact h.sub
def pV.set {b:Nat}{l':Lg}{f:Value}{m:Bool}{c:Int}(h:pV w S b d l f m c)(j:Nat)(v:Value)(r:j<9)(o:l'.Ok)(q:l'.list=l.list)(a:l'.dead=false->l.dead=false)(s:(iI d l f).set j v=iI d l' f):pV (w.setCell ⟨b,j,none⟩ v) S b d l' f m c:=by
 have n:Keep (· =b) w (w.setCell ⟨b,j,none⟩ v):=(Keep.refl (· =b) w).setCell (p:=⟨b,j,none⟩) (.inr rfl) _;refine⟨o,fun g k=>ax (h.sub g k) n.size,h.sl,?_,?_,fun i=>h.slv (a i)⟩
 ·have:=h.row.setCell j v
  have e:(jc (iI d l f) m c []).set j v=jc (iI d l' f) m c []:=by
   unfold jc pW;rw[NF _ _ (by rw[EF];exact r),s]
  rwa [e] at this
 ·rw[q]
  exact fun i=>(h.lst (a i)).keep fun g k=>n.block g (h.sub _ (h.slv (a i) g k).1) (h.slv (a i) g k).2
theorem MC (a d:Nat)(l:Lg)(S:Nat->Prop)(w:World)(h:uq w S a d l):
  Calls Tryz.prog 89 #[.pointer (some ⟨a,0,none⟩)] w fun e f=>e= .returned (.int .i64 l.synced)/\f=w:=by
 obtain⟨j,g,c,h⟩:=h;obtain⟨_,_,_,_,_,_,_,i,_,b,_⟩:=h.cells;go_enter Tryz.func89,Tryz.ntmps89;go_wp2_with fail;go_ret;exact⟨rfl,rfl⟩
theorem PY (a d:Nat)(l:Lg)(S:Nat->Prop)(w:World)(h:uq w S a d l):
  Calls Tryz.prog 90 #[.pointer (some ⟨a,0,none⟩)] w fun e f=>e= .returned (.int .i64 l.last)/\f=w:=by
 obtain⟨i,g,c,h⟩:=h;obtain⟨_,_,_,_,_,_,j,_,_,b,_⟩:=h.cells;go_enter Tryz.func90,Tryz.ntmps90;go_wp2_with fail;go_ret;exact⟨rfl,rfl⟩
theorem PS (a d:Nat)(l:Lg)(S:Nat->Prop)(w:World)(h:uq w S a d l):
  Calls Tryz.prog 86 #[.pointer (some ⟨a,0,none⟩)] w fun e j=>e= .returned (.int .i64 l.room)/\j=w.drew:=by
 obtain⟨x,s,c,h⟩:=h;obtain⟨_,_,n,_,o,_,_,_,_,f,_⟩:=h.cells;have q:=h.ok.n2;have p:=h.ok.hi;have t:=h.ok.us;have v:IntKind.i64.wrap ((l.n:Int) - 1)=(l.n:Int) - 1:=aG _ (by omega);have m:IntKind.i64.wrap ((l.n:Int) - 1 - (l.used:Int))=(l.room:Int):=by rw[aG _ (by omega)];unfold Lg.room;omega
 have r:=ah m;have k:w.drew.cell? ⟨a,2,none⟩=some (.int .i64 l.n):=n;have g:w.drew.cell? ⟨a,4,none⟩=some (.int .i64 l.used):=o;go_enter Tryz.func86,Tryz.ntmps86;go_wp2_with fail;refine aP (fun W=>W=w.drew) (fun i=>true) [0,1,2,3,4,5,6,7,8,9,10] rfl (by kernel_rfl) rfl ?_
 repeat (refine oq ?_ rfl rfl rfl ?_ ?_;rotate_left;(focus intro W b;(try dsimp only at b);subst b;go_simp;first|done|with_reducible rfl);try simp only[Act.put,aj,au,ak])
 refine bR ?_;go_wp2_with fail;go_ret;exact⟨rfl,rfl⟩
theorem PU (a d:Nat)(l:Lg)(S:Nat->Prop)(k:Nat)(w:World)(h:uq w S a d l):
  Calls Tryz.prog 134 #[.pointer (some ⟨a,0,none⟩),.int .i64 k] w fun e q=>e= .returned (.int .i64 (l.ring k))/\q=w.drew:=by
 obtain⟨I,G,c,h⟩:=h;obtain⟨_,x,y,_,_,_,_,_,_,o,_⟩:=h.cells;have F:=h.ok.n2;have B:=h.ok.hi;have r:w.drew.cell? ⟨a,1,none⟩=some (.int .i64 l.frm):=x;have t:w.drew.cell? ⟨a,2,none⟩=some (.int .i64 l.n):=y;obtain⟨m,b⟩:∃m,l.n=m+1:=⟨l.n - 1,by omega⟩
 have v:1<=m:=by omega
 have g:k%m<m:=mZ _ (by omega);have A:IntKind.i64.wrap ((l.n:Int) - 1)=(m:Int):=by rw[aG _ (by omega)];omega
 have H:IntKind.i64.wrap ((l.frm:Int)+1)=(l.frm:Int)+1:=aG _ (by omega);have n:(k:Int)%(m:Int)=((k%m:Nat):Int):=(Int.natCast_emod k m).symm;have j:IntKind.i64.wrap ((l.frm:Int)+1+(k:Int)%(m:Int))=(l.ring k:Int):=by rw[n,aG _ (by omega)];unfold Lg.ring;rw[b,BN];omega
 clear n;have p:¬(m:Int)=0:=by omega
 have E:((m:Int)==0)=false:=fM.2 p;have C:¬m=0:=by omega
 have D:=ah b;clear b;have s:=ah j;clear j;go_enter Tryz.func134,Tryz.ntmps134;go_wp2_with fail;refine aP (fun W=>W=w.drew) (fun i=>true) [0,1,2,3,4,5,6,7,8,9,10,11,12,13] rfl (by kernel_rfl) rfl ?_
 repeat (refine oq ?_ rfl rfl rfl ?_ ?_;rotate_left;(focus intro W f;(try dsimp only at f);subst f;go_simp;first|done|with_reducible rfl);try simp only[Act.put,aj,au,ak])
 refine bR ?_;go_wp2_with fail;go_ret;exact⟨congrArg (fun z=>Ending.returned (.int .i64 z)) s.out,rfl⟩
theorem P5 (b:Nat)(w:World):
  Calls Tryz.prog 135 #[.pointer (some ⟨b,0,none⟩),.int .i64 0] w fun e a=>e= .returned (.int .i64 0)/\a=w:=by
 go_enter Tryz.func135,Tryz.ntmps135;go_wp2_with fail;go_ret;exact⟨rfl,rfl⟩
theorem xG (a d:Nat)(l:Lg)(S:Nat->Prop)(q:Int)(w:World)(h:uq w S a d l)(k:q≠0):
  Calls Tryz.prog 135 #[.pointer (some ⟨a,0,none⟩),.int .i64 q] w fun e g=>e= .returned (.int .i64 10)/\uq g S a d l.dies/\Step S S w g:=by
 obtain⟨t,s,c,h⟩:=h;obtain⟨_,_,_,_,_,_,_,_,o,i,f⟩:=h.cells;have r:=f 8;have n:(q !=0)=true:=by simpa using k
 have m:=ah (h.set (l':=l.dies) 8 (.bool true) (by omega) ⟨h.ok.n2,h.ok.hi,h.ok.st,h.ok.us,h.ok.la,h.ok.sy,h.ok.ent,h.ok.sum⟩ rfl (fun e=>by cases e) rfl);have b:=ah h.sl;go_enter Tryz.func135,Tryz.ntmps135;go_wp2_with fail;go_ret;exact⟨rfl,⟨_,_,_,m.out⟩,(Keep.refl S w).setCell (p:=⟨a,8,none⟩) (.inr b.out) _,fun _ j=> .inl j⟩
def vD (a b:List (Nat×Nat)):jQ (a++b)=jQ a++jQ b:=by simp[jQ]
def aZ.nth {c:Nat}{f:Option Addr}{d:List Value}(h:aZ w S k (.slice f n c) n d)(s:0<n)(l:0<k):∃b o,f=some ⟨b,o,none⟩/\b<w.heap.size/\∀j u,d[j]? =some u->w.cell? ⟨b,o+j,none⟩=some u:=by
 obtain⟨v,y,t,B,x,r,A,m,i⟩:=h;cases t
 have p:0<d.length:=by rw[r];exact Nat.mul_pos s l
 obtain⟨b,o,e,D⟩:=i 0 _ (bD p);refine⟨b,o,e,(m _ e).2.1,fun j u q=> ?_⟩;obtain⟨z,C,g,a⟩:=i j u q;rw[e] at g;cases g;exact a
theorem UG (k d:Nat)(l:Lg)(S:Nat->Prop)(w:World)(h:uq w S k d l)(i:l.dead=false):
  Calls Tryz.prog 169 #[.pointer (some ⟨k,0,none⟩)] w fun e r=>e= .returned (.int .i64 l.first)/\r=w:=by
 obtain⟨I,F,c,h⟩:=h;obtain⟨_,_,_,_,_,x,J,_,_,q,_⟩:=h.cells;have D:=h.ok.la;have a:=(h.lst i).dx (S:=gB) (fun _ _ e=>e);obtain⟨C,K,rfl,v,B,z,E⟩:=aZ.form a;cases f:l.list with
 |nil=>
  rw[f] at v z x;have H:IntKind.i64.wrap ((l.last:Int)+1)=(l.last:Int)+1:=aG _ (by omega);have j:=ah (show (l.last:Int)+1=(l.first:Int) by unfold Lg.first;rw[f];rfl);clear h a f i;go_enter Tryz.func169,Tryz.ntmps169;go_wp2_with fail;go_ret;rw[<-j.out];exact⟨rfl,rfl⟩
 |cons e G=>
  have y:0<l.list.length:=by rw[f];simp
  obtain⟨b,o,rfl,A,g⟩:=a.nth y (by omega);have t:w.cell? ⟨b,o,none⟩=some (.int .i64 (e.1:Int)):=by
   have:=g 0 (.int .i64 (e.1:Int)) (by rw[f];rfl);rwa [iG] at this
  have j:=ah (show (e.1:Int)=(l.first:Int) by unfold Lg.first;rw[f]);have s:((l.list.length:Int)==0)=false:=fM.2 (by omega);have n:l.list.isEmpty=false:=by rw[f];rfl
  have p:¬l.list=[]:=by rw[f];simp
  have m:(0:Int)<(l.list.length:Int):=by omega
  clear h a f g i;go_enter Tryz.func169,Tryz.ntmps169;go_wp2_with fail;go_ret;rw[<-j.out];exact⟨rfl,rfl⟩
theorem ME (d:Nat)(b:Dk)(S:Nat->Prop)(a n:Nat)(w:World)(h:qK w S d b)(v:2<=n)(s:a+n<=b.n):
  Calls Tryz.prog 123 #[.pointer (some ⟨d,0,none⟩),.int .i64 a,.int .i64 n] w fun e g=>e= .returned (.int .i64 0)/\g=w:=by
 have m:=ah (JH d b S w h);have k:=h.ok.hi;have o:¬((a:Int)<0):=by omega
 have l:¬((n:Int)<2):=by omega
 have p:¬((b.n:Int)<(n:Int)):=by omega
 have z:IntKind.i64.wrap ((b.n:Int) - (n:Int))=(b.n:Int) - (n:Int):=aG _ (by omega);have c:¬((b.n:Int) - (n:Int)<(a:Int)):=by omega
 have t:decide ((a:Int)<0)=false:=bM o;have q:decide ((n:Int)<2)=false:=bM l;have i:decide (n<2)=false:=bM (by omega);have r:decide ((b.n:Int)<(n:Int))=false:=bM p;have j:decide (b.n<n)=false:=bM (by omega);have y:decide ((b.n:Int) - (n:Int)<(a:Int))=false:=bM c;go_enter Tryz.func123,Tryz.ntmps123;go_wp2_with (first|(go_at_call 9;go_must (refine m.out.mono ?_;rintro e f ⟨rfl,x⟩;subst f)))
 go_ret;exact⟨rfl,rfl⟩
def kL (ss:List ByteArray):List (List UInt8):=ss.map fun s=>s.data.toList
def jN (ss:List ByteArray):Nat:=(ss.map fun s=>4+s.size).sum
def xQ (a:List ByteArray):((kL a).map fun r=>4+r.length).sum=jN a:=by
 unfold kL jN;rw[Au];congr 1
def Je (a:List ByteArray)(k:Nat)(b:k<a.length):jN (a.take (k+1))=jN (a.take k)+(4+a[k].size):=by
 unfold jN;rw[aL b,bT,kV];simp
def Fs (a:List ByteArray)(k:Nat):jN (a.take k)<=jN a:=by
 have:jN a=jN (a.take k)+jN (a.drop k):=by unfold jN;rw[<-kV,<-bT,bJ]
 omega
theorem PW (v:Value)(c:List ByteArray)(S:Nat->Prop)(w:World)(m:jP w S v c)(D:jN c<=1000000000):
  Calls Tryz.prog 85 #[v] w fun e p=>e= .returned (.int .i64 (dS (kL c)))/\p=w:=by
 obtain⟨B,E,rfl,y,A,t,C⟩:=aZ.form m;go_enter Tryz.func85,Tryz.ntmps85;go_wp2_with fail
 go_loop [3,8] (fun s i=>∃k:Nat,k<=c.length/\i= .int .i64 k/\s= .int .i64 ((16+jN (c.take k):Nat):Int)) (fun _ i=>c.length - (intOf i).toNat)
 case atStart=>exact⟨0,aS _,rfl,rfl⟩
 case round=>
  obtain⟨k,x,rfl,rfl⟩:=hrel
  by_cases d:k<c.length
  ·have l:(k:Int)<(c.length:Int):=by omega
   obtain⟨b,o,rfl,G⟩:=jP.at m rfl k d;have j:=Je c k d;have r:=Fs c (k+1);have q:IntKind.i64.wrap (4+(c[k].size:Int))=4+(c[k].size:Int):=aG _ (by omega);have g:IntKind.i64.wrap (((16+jN (c.take k):Nat):Int)+(4+(c[k].size:Int)))=((16+jN (c.take (k+1)):Nat):Int):=(by rw[aG _ (by omega),j];omega);obtain⟨a,f⟩:∃a:Nat,Hid (16+jN (c.take k)=a):=⟨_,ah rfl⟩
   rw[f.out] at g ⊢;clear j;go_wp2_with fail
   go_round
   case rel=>exact⟨k+1,by omega,by go_num,by first|rfl|rw[g]⟩
   case measure=>simp[intOf];omega
  ·obtain rfl:k=c.length:=by omega
   rw[bS];have n:=ah (show (((16+jN c:Nat):Int)+511)/512=(dS (kL c):Int) by unfold dS;rw[xQ];omega);obtain⟨a,f⟩:∃a:Nat,Hid (16+jN c=a):=⟨_,ah rfl⟩
   have F:a<=2000000000:=(by rw[<-f.out];omega);rw[f.out] at n ⊢;have q:IntKind.i64.wrap ((a:Int)+512)=(a:Int)+512:=aG _ (by omega);have g:IntKind.i64.wrap ((a:Int)+512 - 1)=(a:Int)+511:=(by rw[aG _ (by omega)];omega);go_wp2_with fail;go_ret;exact⟨congrArg (fun z=>Ending.returned (.int .i64 z)) n.out,rfl⟩
def zR:∀(x k:Nat),leB x (k+1)=leB x k++[b8 (x/256^k)]
 |x,0=>by simp[leB]
 |x,k+1=>by
  rw[leB,zR (x/256) k,leB,kZ,H6,<-Nat.pow_succ']
def Hg (x:Nat):aI [b8 x]=[.int .u8 ((x:Int)%256)]:=by simp[aI,Bd]
theorem NM (v:Value)(d:List UInt8)(x a B:Nat)(w:World)(F:aT w gB B 5 1 v d.length (aI d))(N:B<=w.heap.size)(K:x<18446744073709551616)(S:a<=8)(Q:d.length<=1000000000):
  Calls Tryz.prog 133 #[v,.int .u64 x,.int .i64 a] w fun e z=>∃A,e= .returned A/\aT z gB B 5 1 A (d++leB x a).length (aI (d++leB x a))/\Below B w z:=by
 go_enter Tryz.func133,Tryz.ntmps133;go_wp2_with fail;go_loopw [0,1,8] (fun b n i wr=>∃(k y:Nat) (o:Option Addr) (c:Nat),k<=a/\i= .int .i64 k/\b= .slice o (d++leB x k).length c/\n= .int .u64 (y:Int)/\y<18446744073709551616/\Hid (x/256^k=y)/\aT wr gB B 5 1 b (d++leB x k).length (aI (d++leB x k))/\Below B w wr) (fun _ _ i _=>a - (intOf i).toNat)
 case atStart=>
  obtain⟨o,c,rfl,_,_,_,_⟩:=aZ.form F.dx;refine⟨0,x,o,c,aS _,rfl,?_,rfl,K,ah (by simp),?_,aR _ _⟩
  ·simp[leB]
  ·simpa [leB] using F
 case round=>
  obtain⟨k,y,o,c,P,rfl,rfl,rfl,R,C,g,l⟩:=hrel
  by_cases G:k<a
  ·have D:(k:Int)<(a:Int):=by omega
   have m:=ah (show (d++leB x k).length=d.length+k by rw[ay,bW]);have f:=ah (show (d++leB x (k+1)).length=(d++leB x k).length+1 by rw[ay,ay,bW,bW];rfl);obtain⟨n,E⟩:∃n,(d++leB x k).length=n:=⟨_,rfl⟩
   have H:=ah (show aI (d++leB x (k+1))=aI (d++leB x k)++[.int .u8 ((y:Int)%256)] by rw[zR,<-aM,iZ (d++leB x k),Hg,C.out]);rw[E] at g m f ⊢;clear E;have M:n<=1000000008:=(by have:=m.out;omega);have r:=l.size;go_wp2_with (at_builtin;go_must ((refine cO rfl (.tmp 10) (.tmp 13) 70 70 rfl gB B 5 1 1 (.int .u8 0) bG kJ rfl (.slice o n c) _ _ rfl (g.below (aN _ _)) _ 1 _ rfl (gq [_] _ 1 1 1 rfl bG rfl ?_) (fun _ h=>h.elim) ?_ ?_ ?_ ?_);(focus simp[Value.oneCell']);(focus simp only[aU];omega);(focus unfold maxLen;omega);(focus omega);intro q I O j p t s));have J:=ah j;clear j p s;go_roundw
   case rel=>
    refine⟨k+1,y/256,q,I,by omega,by go_num,by rw[f.out],by go_num,by omega,ah (by rw[Ar,<-H6,C.out]),?_,(l.trans (aN wr _|>.mono (aK N r))).trans t⟩;rw[f.out,H.out];simpa using J.out
   case measure=>simp[intOf];omega
  ·obtain rfl:k=a:=by omega
   go_wp2_with fail;go_ret;exact⟨_,rfl,g,l⟩
section
variable {P:Program}
def Qx (w:World)(B:Nat)(t F G e:TypeId)(i:TypeInfo)(z:Value)(k d:Nat)(J:P.underlying t=some (.slice e))(O:P.info? e=some i)(K:i.zero=some z)
  (j:i.size=k) (D:i.bytes=d) (E:z.cells.size=k) (v:Option Addr) (n:Nat) (l:List Value) (S:Nat->Prop) (I:aZ w S k (.slice v n n) n l) (x:Value) (m:Nat) (a:List Value) (H:Src P k F x m a w)
  (T:0<m) (Q:B<=w.heap.size) (q:n+m<=maxLen) (f:(n+m)*d<=140737488355328):
  ∃r c A,(Builtin.append_ #[t,F] G #[.slice v n n,x]).run P w= .ok (.slice r (n+m) c) A/\aT A gB B e k (.slice r (n+m) c) (n+m) (l++a)/\Keep gB w A:=by
 subst j;subst D;have s:n+m<=9223372036854775807:=by simp only[maxLen] at q;omega
 have o:l.length=n*i.size:=by obtain⟨_,_,_,_,_,e,_⟩:=I;exact e
 have b:(l++a).length=(n+m)*i.size:=by rw[ay,o,H.newsLen,fq]
 have y:=Aj w (n+m) n e;have C:grownCap w (n+m) n e<=maxLen:=nR w (n+m) n e q;have p:(Builtin.firstCells i.size n (.slice v n n)).run P w.drew= .ok l.toArray w.drew:=by
  have:=(I.below (aR _ _).drew).first (P:=P) n (aD _);rwa [aJ (lD o)] at this
 have N:=tL (P:=P) w t F G e i z J O K v n n l p x m a H (by omega) (by omega) (si (by omega) f);refine⟨_,_,_,N,⟨⟨b,.inr ⟨w.heap.size,_,_,rfl,Q,aV w.drew _,y,C,?_,?_⟩⟩,fun g R M=>M.elim⟩,(Keep.refl _ w).drew.alloc _⟩
 ·simp only[Es,nZ,b,xu,E,<-fq]
  congr 1;omega
 ·simp only[sD]
  rw[<-b];exact iN
def Ib {r:Array Oper}{j:List Oper}{o:Oper}{a:Act}{Q:Exit->Act->World->Prop}(v:o.guard=none)(s y:Operand)(t H:TypeId)(N:o.op= .call {callee:= .builtin .append,args:=#[s,y],argTypes:=#[t,H]})
  (B:Nat) (e:TypeId) (k b:Nat) (z:Value) (J:P.underlying t=some (.slice e)) (p:(P.info? e).map (fun i=>(i.zero,i.size,i.bytes))=some (some z,k,b)) (G:z.cells.size=k)
  (A:Option Addr) (n:Nat) (F:List Value) (S:Nat->Prop) (Y:a.eval s= .slice A n n) (C:aZ w S k (.slice A n n) n F) (x:Value) (m:Nat) (d:List Value) (W:a.eval y=x) (T:Src P k H x m d w)
  (X:0<m) (Z:B<=w.heap.size) (D:n+m<=maxLen) (g:(n+m)*b<=140737488355328)
  (h:∀f c q,aT q gB B e k (.slice f (n+m) c) (n+m) (F++d)->Keep gB w q->wpList P r Q j (a.put o.dst (.slice f (n+m) c)) q):wpList P r Q (o::j) a w:=by
 refine MB v fun _ K=> ?_
 obtain⟨i,V,M,l,E⟩:=ve p;obtain⟨f,c,q,O,I,R⟩:=Qx (P:=P) w B t H o.type e i z k b J V M l E G A n F S C x m d T X Z D g;unfold Oper.wp execOp;simp only[N,resolve,invoke,builtin,kD,qf,gP,mR,dK,iH,Y,W,O];exact K _ _ (h f c q I R)
end
theorem NK (p:Option Addr)(d:List UInt8)(x a:Nat)(w:World)(R:aZ w gB 1 (.slice p d.length d.length) d.length (aI d))(Q:x<18446744073709551616)(N:0<a)(X:a<=8)(V:d.length<=1000000000):
  Calls Tryz.prog 133 #[.slice p d.length d.length,.int .u64 x,.int .i64 a] w fun e F=>∃G,e= .returned G/\aT F gB w.heap.size 5 1 G (d++leB x a).length (aI (d++leB x a))/\Below w.heap.size w F:=by
 go_enter Tryz.func133,Tryz.ntmps133;go_wp2_with fail;go_loopw [0,1,8] (fun b n i wr=>∃(k y:Nat) (s:Option Addr) (c:Nat),k<=a/\i= .int .i64 k/\b= .slice s (d++leB x k).length c/\n= .int .u64 (y:Int)/\y<18446744073709551616/\Hid (x/256^k=y)/\Hid ((k=0/\wr=w/\s=p/\c=d.length)\/(0<k/\aT wr gB w.heap.size 5 1 b (d++leB x k).length (aI (d++leB x k))))/\Below w.heap.size w wr) (fun _ _ i _=>a - (intOf i).toNat)
 case atStart=>exact⟨0,x,p,d.length,aS _,rfl,by simp[leB],rfl,Q,ah (by simp),ah (.inl ⟨rfl,rfl,rfl,rfl⟩),aR _ _⟩
 case round=>
  obtain⟨k,y,s,c,T,rfl,rfl,rfl,W,D,l,m⟩:=hrel
  by_cases K:k<a
  ·have H:(k:Int)<(a:Int):=by omega
   rcases l.out with ⟨rfl,rfl,rfl,rfl⟩|⟨O,j⟩
   ·have M:d++leB x 0=d:=by simp[leB]
    rw[M];have A:x=y:=(by simpa using D.out);subst A;have t:=ah (show aI (d++leB x 1)=aI d++[.int .u8 ((x:Int)%256)] by rw[zR,<-aM,iZ,Hg];simp[leB]);have f:=ah (show (d++leB x 1).length=d.length+1 by rw[ay,bW]);go_wp2_with (at_builtin;go_must ((refine Ib rfl (.tmp 10) (.tmp 13) 70 70 rfl wr.heap.size 5 1 1 (.int .u8 0) bG kJ rfl s d.length _ gB rfl (R.below (aN _ _)) _ 1 _ rfl (gq [_] _ 1 1 1 rfl bG rfl ?_) (by omega) ?_ ?_ ?_ ?_);(focus simp[Value.oneCell']);(focus simp only[aU];omega);(focus unfold maxLen;omega);(focus omega);intro r v J g o));have C:=ah g;have P:=ah ((aN wr _).trans (o.below.mono (by simp)));clear g o;go_roundw
    case rel=>
     refine⟨1,x/256,r,v,by omega,by go_num,by rw[f.out],by go_num,by omega,ah (by simp),ah (.inr ⟨by omega,?_⟩),P.out⟩;rw[f.out,t.out];simpa using C.out
    case measure=>simp[intOf];omega
   ·have l:=j;clear j
    have q:=ah (show (d++leB x k).length=d.length+k by rw[ay,bW]);have f:=ah (show (d++leB x (k+1)).length=(d++leB x k).length+1 by rw[ay,ay,bW,bW];rfl);obtain⟨n,I⟩:∃n,(d++leB x k).length=n:=⟨_,rfl⟩
    have t:=ah (show aI (d++leB x (k+1))=aI (d++leB x k)++[.int .u8 ((y:Int)%256)] by rw[zR,<-aM,iZ (d++leB x k),Hg,D.out]);rw[I] at l q f ⊢;clear I;have S:n<=1000000008:=(by have:=q.out;omega);have z:=m.size;go_wp2_with (at_builtin;go_must ((refine cO rfl (.tmp 10) (.tmp 13) 70 70 rfl gB w.heap.size 5 1 1 (.int .u8 0) bG kJ rfl (.slice s n c) _ _ rfl (l.below (aN _ _)) _ 1 _ rfl (gq [_] _ 1 1 1 rfl bG rfl ?_) (fun _ h=>h.elim) ?_ ?_ ?_ ?_);(focus simp[Value.oneCell']);(focus simp only[aU];omega);(focus unfold maxLen;omega);(focus omega);intro r v J g o E B));have C:=ah g;clear g o B;go_roundw
    case rel=>
     refine⟨k+1,y/256,r,v,by omega,by go_num,by rw[f.out],by go_num,by omega,ah (by rw[Ar,<-H6,D.out]),ah (.inr ⟨by omega,?_⟩),(m.trans (aN wr _|>.mono z)).trans E⟩;rw[f.out,t.out];simpa using C.out
    case measure=>simp[intOf];omega
  ·obtain rfl:k=a:=by omega
   obtain⟨_,j⟩:=l.out.resolve_left (by omega);go_wp2_with fail;go_ret;exact⟨_,rfl,j,m⟩
def Tz (m a t:Nat)(e:a<256)(f:t=a+256*m)(d:t<18446744073709551616):bits .or .u64 (256*m:Nat) (a:Int)=(t:Int):=by
 unfold bits;have c:(BitVec.ofInt 64 ((256*m:Nat):Int)|||BitVec.ofInt 64 (a:Int)).toNat=t:=by
  rw[oh,oh,BitVec.toNat_or,pR,pR,oW (by omega),oW (by omega)];have:=Aq (i:=8) (b:=a) (by omega) m;rw[show (256:Nat)=2^8 from rfl,<-this];omega
 show IntKind.u64.wrap (((BitVec.ofInt 64 ((256*m:Nat):Int)|||BitVec.ofInt 64 (a:Int)).toNat:Nat):Int)=t;rw[c];simp[IntKind.wrap,IntKind.bits,IntKind.signed];omega
def M6:∀l:List UInt8,tH l<256^l.length
 |[]=>by simp[tH]
 |b::l=>by
  have:=M6 l
  have a:=b.toNat_lt
  rw[tH,bn,Ar]
  omega
theorem NN (v:Value)(d:List UInt8)(c:Nat)(S:Nat->Prop)(w:World)(C:gF w S v d)(W:c<=d.length)(Q:c<=8):
  Calls Tryz.prog 125 #[v,.int .i64 c] w fun e G=>e= .returned (.int .u64 (tH (d.take c)))/\G=w:=by
 obtain⟨T,X,rfl,O,R,M,V⟩:=aZ.form C;have J:IntKind.i64.wrap ((c:Int) - 1)=(c:Int) - 1:=aG _ (by omega);go_enter Tryz.func125,Tryz.ntmps125;go_wp2_with fail
 go_loop [5,6] (fun n i=>∃(k:Nat) (z:Int) (y:Nat),k<=c/\z+1=k/\i= .int .i64 z/\n= .int .u64 (y:Int)/\Hid (tH ((d.take c).drop k)=y)) (fun _ i=>(intOf i+1).toNat)
 case atStart=>exact⟨c,_,0,aD _,by omega,rfl,rfl,ah (by rw[List.drop_eq_nil_of_le (by simp;omega)];rfl)⟩
 case round=>
  obtain⟨k,z,y,N,P,rfl,rfl,B⟩:=hrel;rcases SG k with m|m
  ·subst m
   obtain rfl:z= -1:=(by omega);go_wp2_with fail;go_ret;refine⟨?_,rfl⟩;rw[<-B.out,dQ];rfl
  ·obtain⟨j,rfl⟩:∃j,k=j+1:=⟨k - 1,by omega⟩
   obtain rfl:z=(j:Int):=(by omega);have I:j<d.length:=(by omega);have H:(j:Int)<(d.length:Int):=(by omega);obtain⟨b,o,rfl,K⟩:=gF.at C rfl j I;have s:j<(d.take c).length:=(by rw[aH];omega);have A:(d.take c).drop j=d[j]::(d.take c).drop (j+1):=by
    rw[cu s,lT]
   have f:tH ((d.take c).drop j)=d[j].toNat+256*y:=(by rw[A,tH,B.out]);have l:=M6 ((d.take c).drop j);have x:((d.take c).drop j).length<=8:=(by simp;omega);have g:tH ((d.take c).drop j)<18446744073709551616:=ax l (aK (yH (by omega) x) (by omega));have q:=d[j].toNat_lt;obtain⟨t,F⟩:=nm (tH ((d.take c).drop j));obtain⟨a,D⟩:=nx (d[j].toNat);rw[<-D] at f q K;rw[F.out] at f g;have p:=Tz y a t q f g;have r:=ah p;have E:=ah (show IntKind.u64.wrap ((y:Int)*256)=((256*y:Nat):Int) by simp[IntKind.wrap,IntKind.bits,IntKind.signed];omega);clear l A D p f;go_wp2_with fail
   go_round
   case rel=>exact⟨j,(j:Int) - 1,t,by omega,by omega,by go_num,by rw[E.out,r.out],F⟩
   case measure=>simp[intOf]
def Keep.qh {B:Nat}{a:World}(h:Below B w a):Keep (fun g=>B<=g) w a:=⟨h.os,h.tape,h.output,h.size,fun k _ b=>h.block k (gG.1 b)⟩
def Step.Wp {d:World}(h:Step A b w d)(c:∀g,A g->¬B g)(f:∀g,B g->g<w.heap.size):∀g,b g->¬B g:=fun g e a=>
 (h.2 g e).elim (fun x=>c g x a) (fun x=>absurd (f g a) (bg.2 x))
def Step.or {a:World}(h:Step A b w a)(B:Nat->Prop):Step (fun g=>A g\/B g) (fun g=>b g\/B g) w a:=
 ⟨h.1.mono (fun _ _ x=> .inl x),fun g c=>c.elim (fun x=>(h.2 g x).elim (fun y=> .inl (.inl y)) .inr) (fun x=> .inl (.inr x))⟩
structure jg (w:World)(Sd Sl:Nat->Prop)(lg d:Nat)(σ:Dk)(l:Lg):Prop where
 dk:qK w Sd d σ
 lg:uq w Sl lg d l
 dis:∀g,Sd g->¬Sl g
 fit:l.frm+l.n<=σ.n
def jg.keep {a:Nat->Prop}{f:Nat}{e:Dk}(h:jg w b a f d e l)(c:Keep M w w')(i:∀g,b g->¬M g)(j:∀g,a g->¬M g):jg w' b a f d e l:=
 ⟨h.dk.keep c i,h.lg.keep c j,h.dis,h.fit⟩
def jg.below {a:Nat->Prop}{f:Nat}{c:Dk}(h:jg w b a f d c l)(g:Below w.heap.size w w'):jg w' b a f d c l:=
 h.keep (Keep.of_below g gB) (fun _ _ e=>e) (fun _ _ e=>e)
def Two (Sd Sl Sd' Sl':Nat->Prop)(w w':World):Prop:=Step (fun g=>Sd g\/Sl g) (fun g=>Sd' g\/Sl' g) w w'
def jg.disk {e:World}{f a:Nat->Prop}{m b:Dk}(h:jg w f c k d m l)(n:qK e a d b)(i:Step f a w e)(p:b.n=m.n):jg e a c k d b l/\Two f c a c w e:=
 ⟨⟨n,h.lg.keep i.1 (fun g o j=>h.dis g j o),i.Wp h.dis h.lg.sub,by rw[p];exact h.fit⟩,i.or c⟩
def jg.log {b:World}{m a:Nat->Prop}{o:Dk}{f:Lg}(h:jg w c m k d o l)(r:uq b a k d f)(e:Step m a w b)(p:f.frm=l.frm/\f.n=l.n):jg b c a k d o f/\Two c m c a w b:=by
 refine⟨⟨h.dk.keep e.1 h.dis,r,fun g q n=>e.Wp (fun g i j=>h.dis g j i) h.dk.sub g n q,by rw[p.1,p.2];exact h.fit⟩,?_⟩;exact⟨e.1.mono (fun _ _ x=> .inr x),fun g i=>i.elim (fun x=> .inl (.inl x)) (fun x=>(e.2 g x).elim (fun y=> .inl (.inr y)) .inr)⟩
def Two.trans {a b c:World}{g f d:Nat->Prop}(h:Two A B g f a b)(k:Two g f e d b c):Two A B e d a c:=Step.trans h k
def Two.of_below {a:World}(h:Below w.heap.size w a):Two A B A B w a:=Step.of_below h
def Two.refl (A B:Nat->Prop)(w:World):Two A B A B w w:=Step.refl _ _
def Dk.qU (a:Dk)(i:Int)(l:List UInt8):(a.write i l).1.n=a.n:=by
 unfold Dk.write;have:=a.dZ.1
 split
 ·rfl
 ·split
  ·rfl
  ·split
   ·rfl
   ·split<;>exact this
def Dk.oH (a:Dk):a.sync.1.n=a.n:=by
 unfold Dk.sync;have:=a.dZ.1
 split
 ·rfl
 ·split<;>exact this
def pV.table {i:World}{e:Nat}{j:Value}{n a:Bool}{c m:Int}(h:pV w S e d l j n c)(o:Row i e 224 (jc (iI d l j) a m []))(k:Keep (· =e) w i):pV i S e d l j a m:=
 ⟨h.ok,fun g b=>ax (h.sub g b) k.size,h.sl,o,fun f=>(h.lst f).keep fun g b=>k.block g (h.sub _ (h.slv f g b).1) (h.slv f g b).2,h.slv⟩
def Lg.fields (l:Lg):List Nat:=[l.frm,l.n,l.start,l.first,l.synced]
def Lg.rP (l:Lg)(k:Nat):List UInt8:=magic++(l.fields.take k).flatMap (fun x=>leB x 8)
def Lg.LH (l:Lg):l.rP 0=magic:=by unfold Lg.rP;simp
def Lg.LK (l:Lg):l.rP 5=l.mK:=by unfold Lg.rP Lg.mK Lg.fields;simp
def Lg.LJ (l:Lg)(k:Nat)(a:k<5):l.rP (k+1)=l.rP k++leB (l.fields.getD k 0) 8:=by
 unfold Lg.rP;rw[aL (show k<l.fields.length from a),oM,aM,List.flatMap_singleton,eu,bD (show k<l.fields.length from a)];rfl
def Lg.zX (l:Lg)(k:Nat)(b:k<=5):(l.rP k).length=12+8*k:=by
 unfold Lg.rP;have e:∀L:List Nat,(L.flatMap (fun x=>leB x 8)).length=8*L.length:=fun L=>by
  induction L with
  |nil=>rfl
  |cons a L ih=>rw[iY,ay,ih,bW,bn];omega
 rw[ay,e,aH];have:l.fields.length=5:=rfl;rw[this,bK b];rfl
def Lg.Ok.first (h:l.Ok):l.first<=l.last+1:=by
 unfold Lg.first;have:=h.ent
 split
 ·exact aD _
 ·rename_i e r a
  have:=(h.ent e (by rw[a];exact bf ..)).2;omega
def Lg.Ok.fields (h:l.Ok):∀x∈l.fields,x<=2000000000000:=by
 have:=h.n2;have:=h.hi;have:=h.st;have:=h.la;have:=h.sy;have:=h.first;intro x a;simp only[Lg.fields,bO,gL,oV] at a;omega
def Cz (L:List Nat):List Value:=L.map fun (x:Nat)=>Value.int .u64 (x:Int)
def aT.other {S':Nat->Prop}{B e:Nat}{a:List Value}(h:aT w S B e k v n a)(b:∀g,B<=g->¬S' g):aT w S' B e k v n a:=⟨h.1,fun g c=>b g (h.1.lt g c).1⟩
def iC (x:Nat)(h:x<18446744073709551616):IntKind.u64.wrap (x:Int)=(x:Int):=by simp[IntKind.wrap,IntKind.bits,IntKind.signed];omega
theorem PX (o d:Nat)(y:Dk)(l:Lg)(V F:Nat->Prop)(w:World)(h:jg w V F o d y l)(mK:l.dead=false)(nA:y.waits.length<=100000):
  Calls Tryz.prog 129 #[.pointer (some ⟨o,0,none⟩)] w fun e w'=>e= .returned (.int .i64 (l.mark y).2.2)/\∃ko kr,jg w' ko kr o d (l.mark y).1 (l.mark y).2.1/\Two V F ko kr w w':=by
 have hL:=h.lg;obtain⟨lv,dn,c,hL⟩:=hL;obtain⟨c0,c1,c2,c3,c4,c5,c6,c7,c8,B,mr⟩:=hL.cells;have af:=hL.ok;have hf:=af.fields;have q0:=iC l.frm (by have:=hf l.frm (by simp[Lg.fields]);omega);have q1:=iC l.n (by have:=hf l.n (by simp[Lg.fields]);omega);have q2:=iC l.start (by have:=hf l.start (by simp[Lg.fields]);omega);have q3:=iC l.first (by have:=hf l.first (by simp[Lg.fields]);omega);have q4:=iC l.synced (by have:=hf l.synced (by simp[Lg.fields]);omega);have o5:=fun (w:World) (C:Array Value) (n c:Nat)=>Lib.run_convert_bytes_const (P:=Tryz.prog) w 70 5 C n c bG kX
 clear hf c4 c5 c6 c8;obtain⟨H,bN⟩:=nm (w.alloc (.cells #[.int .u8 100,.int .u8 111,.int .u8 99,.int .u8 107,.int .u8 101,.int .u8 116,.int .u8 32,.int .u8 108,.int .u8 111,.int .u8 103,.int .u8 32,.int .u8 49] 5 (12,13)));have G:Below w.heap.size w H:=by rw[<-bN.out];exact aN w _
 have p9:aZ H gB 1 (.slice (some ⟨w.heap.size,0,none⟩) 12 12) 12 (aI magic):=by
  rw[<-bN.out];refine⟨_,12,rfl,aD _,by simp[maxLen],rfl,(fun e=>by cases e),fun ad l6=>by cases l6;exact⟨rfl,by simp,id⟩,fun j u hu=>⟨_,_,rfl,?_⟩⟩;rw[dX];exact(Ak _ _ j _ _ (12,13) (aV w _)).trans ((List.getElem?_toArray ..).trans hu)
 have hS:∀W:World,Below w.heap.size w W->W.cell? ⟨o,0,none⟩=some (.pointer (some ⟨d,0,none⟩))/\W.cell? ⟨o,1,none⟩=some (.int .i64 l.frm)/\W.cell? ⟨o,2,none⟩=some (.int .i64 l.n)/\W.cell? ⟨o,3,none⟩=some (.int .i64 l.start)/\W.cell? ⟨o,7,none⟩=some (.int .i64 l.synced)/\o<W.heap.size:=fun W s=>
  ⟨(s.cell (p:=⟨o,0,none⟩) B).trans c0,(s.cell (p:=⟨o,1,none⟩) B).trans c1,(s.cell (p:=⟨o,2,none⟩) B).trans c2,(s.cell (p:=⟨o,3,none⟩) B).trans c3,(s.cell (p:=⟨o,7,none⟩) B).trans c7,ax B s.size⟩
 have HS:=ah hS;clear hS c0 c1 c2 c3 c7;go_enter Tryz.func129,Tryz.ntmps129;go_wp2_with fail;rw[bN.out];refine aP (fun W=>Below w.heap.size w W) (fun i=> !([16,23].contains i)) [0,1,2,3,4,5,6,7,8,9,10,11,12,13,14,15,18,19,20,21,22,25,16,17,23,24] rfl (by kernel_rfl) G.drew ?_
 repeat (refine oq ?_ rfl rfl rfl ?_ ?_;rotate_left;(focus intro W s;(try dsimp only at s);obtain⟨r0,r1,r2,r3,r7,rl⟩:=HS.out W s;go_simp;first|done|with_reducible rfl);try simp only[Act.put,aj,au,ak])
 refine dI rfl rfl rfl ?_;intro K hK;go_simp;refine(UG o d l F H.drew (h.lg.keep (Keep.of_below G.drew gB) (fun _ _ e=>e)) mK).mono ?_;rintro e R ⟨rfl,nS⟩;subst R;refine hK.out _ _ G.drew ?_
 repeat (refine oq ?_ rfl rfl rfl ?_ ?_;rotate_left;(focus intro W s;(try dsimp only at s);obtain⟨r0,r1,r2,r3,r7,rl⟩:=HS.out W s;go_simp;first|done|with_reducible rfl);try simp only[Act.put,aj,au,ak])
 refine dI rfl rfl rfl ?_;intro K hK;go_simp;obtain⟨z,q8⟩:=nm ((H.alloc (.cells #[.int .u64 l.frm,.int .u64 l.n,.int .u64 l.start,.int .u64 l.first,.int .u64 l.synced] 201)).drew);have S:Below H.heap.size H z:=by rw[<-q8.out];exact(aN H _).drew
 have D:=G.trans (S.mono G.size);have qo:Row z H.heap.size 201 (Cz l.fields):=by rw[<-q8.out];exact Row.new H (Cz l.fields) _
 have jl:=ah (p9.below S);rw[q8.out];refine hK.out _ _ D ?_
 repeat (refine oq ?_ rfl rfl rfl ?_ ?_;rotate_left;(focus intro W s;(try dsimp only at s);obtain⟨r0,r1,r2,r3,r7,rl⟩:=HS.out W s;go_simp;first|done|with_reducible rfl);try simp only[Act.put,aj,au,ak])
 refine bR ?_;go_wp2_with fail;go_loopw [3,34] (fun b i wr=>∃(k:Nat) (ao:Option Addr) (cc:Nat),k<=5/\i= .int .i64 k/\b= .slice ao (12+8*k) cc/\Hid ((k=0/\wr=z/\ao=some ⟨w.heap.size,0,none⟩/\cc=12)\/(0<k/\aT wr gB z.heap.size 5 1 b (12+8*k) (aI (l.rP k))))/\Below z.heap.size z wr) (fun _ i _=>5 - (intOf i).toNat)
 case atStart=>exact⟨0,_,12,by omega,rfl,rfl,ah (.inl ⟨rfl,rfl,rfl,rfl⟩),aR _ _⟩
 case round=>
  obtain⟨k,ao,cc,hk,rfl,rfl,qc,t⟩:=hrel
  by_cases qb:k<5
  ·have nJ:(k:Int)<5:=by omega
   have dZ:k<l.fields.length:=qb;obtain⟨x,HX⟩:=nm (l.fields.getD k 0);have hx:x<18446744073709551616:=(by have:=af.fields x (by rw[<-HX.out,eu,bD dZ];exact bF dZ);omega);have oo:wr.cell? ⟨H.heap.size,k,none⟩=some (.int .u64 (x:Int)):=by
    have e1:z.cell? ⟨H.heap.size,k,none⟩=some (.int .u64 (x:Int)):=by
     rw[qo.cell,<-HX.out];unfold Cz;rw[eZ,eu,bD dZ];rfl
    exact(t.cell (p:=⟨H.heap.size,k,none⟩) qo.lt).trans e1
   have HH:=ah (l.LJ k qb);have fB:=l.zX k (by omega);have l5:=l.zX (k+1) (by omega);rcases qc.out with ⟨rfl,rfl,rfl,rfl⟩|⟨oK,m⟩
   ·have HP:=ah (NK (some ⟨w.heap.size,0,none⟩) magic x 8 wr jl.out hx (by omega) (by omega) (by simp[magic]))
    go_wp2_with (go_at_call 133;go_must (refine HP.out.mono ?_;rintro e w3 ⟨v3,rfl,f,bA⟩));have a:aT w3 gB wr.heap.size 5 1 v3 (12+8*1) (aI (l.rP 1)):=by
     rw[HH.out,HX.out,l.LH];exact f
    obtain⟨q9,c3,rfl,_,_,_,_⟩:=aZ.form a.dx;have HO:=ah a;clear f a;go_roundw
    case rel=>exact⟨1,q9,c3,by omega,rfl,rfl,ah (.inr ⟨by omega,HO.out⟩),bA⟩
    case measure=>simp[intOf]
   ·have I:aT wr gB z.heap.size 5 1 (.slice ao (12+8*k) cc) (l.rP k).length (aI (l.rP k)):=by rw[fB];exact m
    have HP:=ah (NM (.slice ao (12+8*k) cc) (l.rP k) x 8 z.heap.size wr I t.size hx (by omega) (by rw[fB];omega));clear m I;go_wp2_with (go_at_call 133;go_must (refine HP.out.mono ?_;rintro e w3 ⟨v3,rfl,f,bA⟩));have a:aT w3 gB z.heap.size 5 1 v3 (12+8*(k+1)) (aI (l.rP (k+1))):=by
     rw[<-l5,HH.out,HX.out];exact f
    obtain⟨q9,c3,rfl,_,_,_,_⟩:=aZ.form a.dx;have HO:=ah a;clear f a;go_roundw
    case rel=>exact⟨k+1,q9,c3,by omega,by go_num,rfl,ah (.inr ⟨by omega,HO.out⟩),t.trans bA⟩
    case measure=>simp[intOf];omega
  ·obtain rfl:k=5:=by omega
   obtain⟨_,m⟩:=qc.out.resolve_left (by omega);rw[l.LK,show 12+8*5=52 from rfl] at m;rw[show 12+8*5=52 from rfl];have bC:Below w.heap.size w wr:=D.trans (t.mono D.size);have fo:=hL.keep (Keep.of_below bC gB) (fun _ _ e=>e);have nH:o<z.heap.size:=ax B D.size;have J:l.mK.length=52:=l.pM;have iO:=Cc (iI d l lv) [] o 9 224 dn c (.slice ao 52 cc) l.mK (fun g=>g=o) wr rfl fo.row (by rw[J];exact(m.other (S':=fun g=>g=o) (fun g v e=>by omega)).dx) rfl;have j6:=ah iO;clear iO;obtain⟨M,di⟩:=nm (yL l.mK);have pM:M<4294967296:=(by rw[<-di.out];exact zq _);have qs:=iC M (by omega);have j3:uV l.mK=(M:Int):=(by rw[uU,di.out]);rw[j3] at j6;go_wp2_with (first|(go_at_call 126;go_must (refine j6.out.mono ?_;rintro e w3 ⟨rfl,c',jO,T⟩;refine sO ?_)))
   refine sN ?_;have fJ:=fo.table jO T;have f:aT w3 gB z.heap.size 5 1 (.slice ao 52 cc) l.mK.length (aI l.mK):=by
    rw[J];exact m.keep fun g v hl _=>⟨T.block g hl (fun e=>by have:=(m.1.lt g v).1;omega),id⟩
   have HP:=ah (NM _ l.mK M 4 z.heap.size w3 f (aK t.size T.size) (by omega) (by omega) (by rw[J];omega));clear f m jO p9;go_wp2_with (first|(go_at_call 133;go_must (refine HP.out.mono ?_;rintro e R ⟨v4,rfl,A,fA⟩;refine sO ?_)))
   refine sN ?_;have mo:l.mK++leB M 4=l.fJ:=(by rw[<-di.out];rfl);rw[mo] at A;have av:∀g,(V g\/F g)->¬z.heap.size<=g:=fun g v=>by
    have h1:=D.size;rcases v with v|v
    ·have:=h.dk.sub g v;omega
    ·have:=hL.sub g v;omega
   have ql:=fJ.keep (Keep.qh fA) (fun g v=>av g (.inr v));have E:Keep (fun g=>F g\/z.heap.size<=g) w R:=((Keep.of_below bC (fun g=>F g\/z.heap.size<=g)).trans T (fun g _ e=> .inl (e▸hL.sl))).trans (Keep.qh fA) (fun _ _ e=> .inr e);have aA:qK R V d y:=h.dk.keep E (fun g v e=>e.elim (h.dis g v) (av g (.inl v)));have kg:jg R V F o d y l:=⟨aA,⟨_,_,_,ql⟩,h.dis,h.fit⟩;have kT:Two V F V F w R:=by
    refine⟨⟨E.os,E.tape,E.output,E.size,fun g v hn=>E.block g v (fun e=>e.elim (fun x=>hn (.inr x)) (fun x=> ?_))⟩,fun _ v=> .inl v⟩;have:=D.size;omega
   have jv:aZ R V 1 v4 l.fJ.length (aI l.fJ):=(A.other (S':=V) (fun g v hs=>av g (.inl hs) v)).dx;obtain⟨d0,d1,_,_,_,_,_,_,_,jb,_⟩:=ql.cells;have HW:=ah (GV d y V (l.frm:Int) v4 l.fJ R.drew (aA.below ((aR _ R).drew)) (jv.below ((aR _ R).drew)) (by omega));have lQ:=ah kg;have nk:=ah kT;obtain⟨O,q,HQ⟩:∃O q,Hid (y.write (l.frm:Int) l.fJ=(O,q)):=⟨_,_,ah rfl⟩
   have pM:O.n=y.n:=(by have:=y.qU (l.frm:Int) l.fJ;rw[HQ.out] at this;exact this);have j5:O.waits.length<=1000000:=by
    have h1:=y.dZ.2.2;have:(y.write (l.frm:Int) l.fJ).1.waits.length<=y.waits.length+1:=by
     unfold Dk.write
     split
     ·exact nY _
     ·split
      ·exact nY _
      ·split
       ·exact nY _
       ·split
        ·rw[h1];exact nY _
        ·simp[Dk.put,h1]
    rw[HQ.out] at this;show O.waits.length<=1000000;have h2:O.waits.length<=y.waits.length+1:=this;omega
   rw[HQ.out] at HW;clear fJ ql fo A E aA kg kT jv bC t T fA S G D qo HP af mr;have HN:=ah pM;clear pM;go_wp2_with fail;refine aP (fun W=>W.cell? ⟨o,0,none⟩=some (.pointer (some ⟨d,0,none⟩))/\W.cell? ⟨o,1,none⟩=some (.int .i64 l.frm)/\o<W.heap.size) (fun i=> !([9].contains i)) [0,1,2,3,4,5,6,7,8,9,10] rfl (by kernel_rfl) ⟨d0,d1,jb⟩ ?_
   repeat (refine oq ?_ rfl rfl rfl ?_ ?_;rotate_left;(focus intro W s;(try dsimp only at s);have r0:=s.1;have r1:=s.2.1;have r2:=s.2.2;go_simp;first|done|with_reducible rfl);try simp only[Act.put,aj,au,ak])
   refine dI rfl rfl rfl ?_;intro K hK;go_simp;refine HW.out.mono ?_;rintro e w5 ⟨rfl,X,lm,jF⟩;have Z:=lQ.out.disk lm ((Step.of_below ((aR _ R).drew)).trans jF) HN.out;have Y:=ah Z.1;have aB:=ah (nk.out.trans Z.2);obtain⟨o6,oH,oO,l9⟩:=Z.1.lg;obtain⟨e0,e1,_,_,_,_,_,_,_,bH,_⟩:=l9.cells;clear Z lm jF d0 d1 HW;refine hK.out _ _ ⟨e0,e1,bH⟩ ?_
   repeat (refine oq ?_ rfl rfl rfl ?_ ?_;rotate_left;(focus intro W s;(try dsimp only at s);have r0:=s.1;have r1:=s.2.1;have r2:=s.2.2;go_simp;first|done|with_reducible rfl);try simp only[Act.put,aj,au,ak])
   refine bR ?_
   by_cases hq:q=0
   ·subst hq
    have HF:=ah (GX d O X w5 Y.out.dk j5);obtain⟨ρ,r,HR⟩:∃ρ r,Hid (O.sync=(ρ,r)):=⟨_,_,ah rfl⟩
    have lJ:=ah (show ρ.n=O.n by have:=O.oH;rw[HR.out] at this;exact this);rw[HR.out] at HF;go_wp2_with (first|(go_at_call 16;go_must (refine HF.out.mono ?_;rintro e w6 ⟨rfl,j4,fK⟩;refine sO ?_)))
    refine sN ?_;have N:=Y.out.disk j4 fK lJ.out
    by_cases hr:r=0
    ·subst hr
     have HM:=ah (show l.mark y=(ρ,l,0) by unfold Lg.mark;rw[HQ.out];simp only[iX];rw[HR.out];simp);go_wp2_with (first|(go_at_call 135;go_must (refine(P5 o _).mono ?_;rintro e w7 ⟨rfl,p9⟩;subst w7)))
     go_ret;rw[HM.out];exact⟨rfl,X,F,N.1,aB.out.trans N.2⟩
    ·have HM:=ah (show l.mark y=(ρ,l.dies,10) by unfold Lg.mark;rw[HQ.out];simp only[iX];rw[HR.out];simp[hr])
     have dx:=ah (xG o d l F r w6 N.1.lg hr);have lC:=ah N;clear N j4 fK;go_wp2_with (first|(go_at_call 135;go_must (refine dx.out.mono ?_;rintro e w7 ⟨rfl,bB,dR⟩)))
     go_ret;rw[HM.out];have Q:=lC.out.1.log bB dR ⟨rfl,rfl⟩;exact⟨rfl,X,F,Q.1,(aB.out.trans lC.out.2).trans Q.2⟩
   ·have HM:=ah (show l.mark y=(O,l.dies,10) by unfold Lg.mark;rw[HQ.out];simp[hq])
    have dx:=ah (xG o d l F q w5 Y.out.lg hq);have o7:(q !=0)=true:=(by simpa using hq);go_wp2_with (first|(go_at_call 135;go_must (refine dx.out.mono ?_;rintro e w7 ⟨rfl,bB,dR⟩)))
    go_ret;rw[HM.out];have Q:=Y.out.log bB dR ⟨rfl,rfl⟩;exact⟨rfl,X,F,Q.1,aB.out.trans Q.2⟩
def Dk.CJ (a:Dk):a.sync.1.waits.length<=a.waits.length:=by
 have b:=a.dZ.2.2;unfold Dk.sync
 split
 ·exact aD _
 ·split
  ·rw[b];exact aD _
  ·exact aS _
def jg.set {a:Nat}{k:Dk}{l':Lg}(h:jg w e b a d k l)(j:Nat)(v:Value)(r:j<9)(n:l'.Ok)(o:l'.list=l.list)(g:l'.dead=false->l.dead=false)(q:l'.frm=l.frm/\l'.n=l.n)(s:∀f,(iI d l f).set j v=iI d l' f):
  jg (w.setCell ⟨a,j,none⟩ v) e b a d k l'/\Two e b e b w (w.setCell ⟨a,j,none⟩ v):=by
 obtain⟨f,t,c,i⟩:=h.lg;exact h.log ⟨_,_,_,i.set j v r n o g (s f)⟩ ⟨(Keep.refl b w).setCell (p:=⟨a,j,none⟩) (.inr i.sl) _,fun _ m=> .inl m⟩ q
def jg.cells {a:Nat}{g:Dk}(h:jg w e c a d g l):∃b,
  w.cell? ⟨a,0,none⟩=some (.pointer (some ⟨d,0,none⟩))/\w.cell? ⟨a,1,none⟩=some (.int .i64 l.frm)/\w.cell? ⟨a,2,none⟩=some (.int .i64 l.n)/\w.cell? ⟨a,3,none⟩=some (.int .i64 l.start)/\w.cell? ⟨a,4,none⟩=some (.int .i64 l.used)/\
  w.cell? ⟨a,5,none⟩=some b/\w.cell? ⟨a,6,none⟩=some (.int .i64 l.last)/\w.cell? ⟨a,7,none⟩=some (.int .i64 l.synced)/\w.cell? ⟨a,8,none⟩=some (.bool l.dead)/\a<w.heap.size/\∀j,w.frozen? ⟨a,j,none⟩=false:=by
 obtain⟨b,_,_,f⟩:=h.lg;exact⟨b,f.cells⟩
def Lg.Ok.all (h:l.Ok):l.all.Ok:=⟨h.n2,h.hi,h.st,h.us,h.la,aD _,h.ent,h.sum⟩
def Lg.Ok.dies (h:l.Ok):l.dies.Ok:=⟨h.n2,h.hi,h.st,h.us,h.la,h.sy,h.ent,h.sum⟩
def Lg.Dt (a:Dk)(l:Lg):((l.mark a).2.2=0/\(l.mark a).2.1=l)\/((l.mark a).2.2=10/\(l.mark a).2.1=l.dies):=by
 unfold Lg.mark
 split
 ·split
  ·exact .inl ⟨rfl,rfl⟩
  ·exact .inr ⟨rfl,rfl⟩
 ·exact .inr ⟨rfl,rfl⟩
theorem Ud (z d:Nat)(a:Dk)(l:Lg)(m j:Nat->Prop)(w:World)(h:jg w m j z d a l)(p:a.waits.length<=100000):
  Calls Tryz.prog 91 #[.pointer (some ⟨z,0,none⟩)] w fun e w'=>e= .returned (.int .i64 (l.sync a).2.2)/\∃N P,jg w' N P z d (l.sync a).1 (l.sync a).2.1/\Two m j N P w w':=by
 obtain⟨lv,c0,_,_,_,_,_,c6,c7,X,W,E⟩:=h.cells;have x:=h.lg.ok;cases K:l.dead with
 |true=>
  have Q:=ah (show l.sync a=(a,l,10) by unfold Lg.sync;rw[K];rfl);rw[K] at X;clear c0 c6 c7 E;go_enter Tryz.func91,Tryz.ntmps91;go_wp2_with fail;go_ret;rw[Q.out];exact⟨rfl,m,j,h,Two.refl _ _ _⟩
 |false=>
  rw[K] at X;have Y:=ah (GX d a m w h.dk (by omega));obtain⟨c,r,n⟩:∃c r,Hid (a.sync=(c,r)):=⟨_,_,ah rfl⟩
  have V:=ah (show c.n=a.n by have:=a.oH;rw[n.out] at this;exact this);have v:c.waits.length<=100000:=by have:=a.CJ;rw[n.out] at this;exact aK this p
  rw[n.out] at Y;clear c6 c7 E;have HH:=ah h;have HD:=ah K;clear h K;go_enter Tryz.func91,Tryz.ntmps91;go_wp2_with (first|(go_at_call 16;go_must (refine Y.out.mono ?_;rintro e w1 ⟨rfl,F,H⟩;refine sO ?_)))
  refine sN ?_;have b:=HH.out.disk F H V.out;have f:=ah b.1;have J:=ah b.2;obtain⟨aA,d0,_,_,_,_,_,d6,d7,d8,qo,M⟩:=b.1.cells;have af:=M 7;clear b F H Y c0 X W
  by_cases T:r=0
  ·subst T
   have hS:=f.out.set (l':=l.all) 7 (.int .i64 l.last) (by omega) x.all rfl id ⟨rfl,rfl⟩ (fun _=>rfl);have HS:=ah hS.1;have qc:=ah hS.2;clear hS;have Q:=ah (PX z d c l.all m j _ HS.out HD.out v);obtain⟨S,k,q,Z⟩:∃S k q,Hid (l.all.mark c=(S,k,q)):=⟨_,_,_,ah rfl⟩
   have i:=l.all.Dt c;rw[Z.out] at Q i;have ql:=ah i;clear i;go_wp2_with (first|(go_at_call 129;go_must (refine Q.out.mono ?_;rintro e w2 ⟨rfl,I,s,t,o⟩;refine sO ?_)))
   refine sN ?_;have g:=ah t;have y:=ah ((J.out.trans qc.out).trans o);clear t o;rcases ql.out with ⟨O,R⟩|⟨O,R⟩
   ·have hq:q=0:=O
    subst hq;have D:=ah (show l.sync a=(S,k,0) by unfold Lg.sync;rw[HD.out,n.out];simp[Z.out]);clear O R;go_wp2_with fail;go_ret;rw[D.out];exact⟨rfl,I,s,g.out,y.out⟩
   ·have hq:q=10:=O
    have hk:k=l.all.dies:=R;subst hq;subst hk;have D:=ah (show l.sync a=(S,l.dies,10) by unfold Lg.sync;rw[HD.out,n.out];simp[Z.out]);obtain⟨aB,_,_,_,_,_,_,_,e7,_,q8,B⟩:=g.out.cells;have av:=B 7;have G:=g.out.set (l':=l.dies) 7 (.int .i64 l.synced) (by omega) x.dies rfl (fun e=>by cases e) ⟨rfl,rfl⟩ (fun _=>rfl);have A:=ah G;clear G O R;go_wp2_with fail;go_ret;rw[D.out];exact⟨rfl,I,s,A.out.1,y.out.trans A.out.2⟩
  ·have q9:(r !=0)=true:=by simpa using T
   have D:=ah (show l.sync a=(c,l.dies,10) by unfold Lg.sync;rw[HD.out,n.out];simp[T]);have p9:=ah (xG z d l j r w1 f.out.lg T);go_wp2_with (first|(go_at_call 135;go_must (refine p9.out.mono ?_;rintro e w7 ⟨rfl,pM,qb⟩)))
   go_ret;rw[D.out];have C:=f.out.log pM qb ⟨rfl,rfl⟩;exact⟨rfl,m,j,C.1,J.out.trans C.2⟩
def LG:(Tryz.prog.info? 229).map (fun i=>i.size)=some 2:=by kernel_rfl
def BA:(Tryz.prog.info? 229).map (fun i=>(i.zero,i.size,i.bytes))=some (some (.agg #[.int .i64 0,.int .i64 0]),2,16):=by kernel_rfl
def Kz:((Tryz.prog.info? 229).bind (·.zero)).isSome=true:=by kernel_rfl
theorem Eg (h:l.bad (kL a)=0):l.dead=false/\0<a.length/\a.length<=1024/\(∀s∈a,s.size<=600)/\dS (kL a)<=l.room:=by
 unfold Lg.bad at h;have c:(kL a).length=a.length:=by unfold kL;exact jX _
 rw[c] at h
 split at h
 ·cases h
 ·rename_i d
  split at h
  ·cases h
  ·rename_i g
   split at h
   ·cases h
   ·rename_i e
    split at h
    ·cases h
    ·rename_i i
     refine⟨by simpa using d,by omega,by omega,fun s f=> ?_,by omega⟩;have b:(kL a).any (fun r=>decide (600<r.length))=false:=(by simpa using e);have:=List.any_eq_false.1 b s.data.toList (fw.2 ⟨s,f,rfl⟩);simp only[eB,kN] at this;exact bg.1 this
def Fu (h:∀s∈a,s.size<=600):jN a<=a.length*604:=by
 induction a with
 |nil=>simp[jN]
 |cons s a ih=>
  have d:=ih (fun x b=>h x (aX _ b));have c:=h s (bf ..);have e:jN (s::a)=4+s.size+jN a:=by simp[jN]
  rw[e,bn];omega
theorem UH (p d:Nat)(l:Lg)(S C:Nat->Prop)(v:Value)(f:List ByteArray)(w:World)(h:uq w S p d l)(j:jP w C v f)(x:l.bad (kL f)=0):
  Calls Tryz.prog 132 #[.pointer (some ⟨p,0,none⟩),v] w fun e H=>e= .returned (.int .i64 0)/\Below w.heap.size w H:=by
 obtain⟨F,B,W,r,T⟩:=Eg x;have R:=Fu r;have N:=ah (PW v f C w j (by omega));have J:=ah (PS p d l S w h);obtain⟨lv,Z,c,y⟩:=h;obtain⟨_,_,_,_,_,_,_,_,I,E,_⟩:=y.cells;rw[F] at I;obtain⟨vo,vc,rfl,Y,v2,V,v4⟩:=aZ.form j;have Q:=ah j;clear j y;have P:((f.length:Int)==0)=false:=fM.2 (by omega);have n:¬((1024:Int)<(f.length:Int)):=by omega
 have O:decide ((1024:Int)<(f.length:Int))=false:=bM n;have K:f.isEmpty=false:=by cases f with|nil=>simp at B|cons a b=>rfl
 have D:decide (1024<f.length)=false:=bM (by omega);have G:¬f=[]:=by rintro rfl;simp at B
 have t:=ah r;have q:¬((l.room:Int)<(dS (kL f):Int)):=by omega
 have z:decide ((l.room:Int)<(dS (kL f):Int))=false:=bM q;clear x r;go_enter Tryz.func132,Tryz.ntmps132;go_wp2_with fail
 go_loop [26] (fun i=>∃k:Nat,k<=f.length/\i= .int .i64 k) (fun i=>f.length - (intOf i).toNat)
 case atStart=>exact⟨0,aS _,rfl⟩
 case round=>
  obtain⟨k,X,rfl⟩:=hrel
  by_cases g:k<f.length
  ·have A:(k:Int)<(f.length:Int):=by omega
   obtain⟨b,o,rfl,hc⟩:=jP.at Q.out rfl k g;have M:¬((600:Int)<(f[k].size:Int)):=(by have:=t.out _ (bF g);omega);go_wp2_with fail
   go_round
   case rel=>exact⟨k+1,by omega,by go_num⟩
   case measure=>simp[intOf];omega
  ·obtain rfl:k=f.length:=by omega
   go_wp2_with (first|(go_at_call 85;go_must (refine N.out.mono ?_;rintro e m ⟨rfl,s⟩;subst m))|(go_at_call 86;go_must (refine J.out.mono ?_;rintro e m ⟨rfl,s⟩;subst m)))
   go_ret;exact⟨rfl,(aR _ _).drew⟩
def Me (a:List ByteArray)(k:Nat)(b:k<a.length):iU (kL (a.take (k+1)))=(iU (kL (a.take k))++leB a[k].size 4)++a[k].data.toList:=by
 unfold iU kL;rw[aL b,bT,oM,aM];simp
def FJ (a:List ByteArray):(iU (kL a)).length=jN a:=by rw[mD,xQ]
def Lg.uJ (l:Lg)(b:List UInt8)(k i:Nat)(a:Dk):l.rF b (k+1) i a=(if (a.write (l.ring (l.start+l.used+i)) ((b.drop (i*512)).take 512)).2=0 then l.rF b k (i+1) (a.write (l.ring (l.start+l.used+i)) ((b.drop (i*512)).take 512)).1 else((a.write (l.ring (l.start+l.used+i)) ((b.drop (i*512)).take 512)).1,10)):=rfl
def Dk.Bl (a:Dk)(i:Int)(x:List UInt8):(a.write i x).1.waits.length<=a.waits.length+1:=by
 have b:=a.dZ.2.2;unfold Dk.write
 split
 ·exact nY _
 ·split
  ·exact nY _
  ·split
   ·exact nY _
   ·split
    ·rw[b];exact nY _
    ·simp[Dk.put,b]
def Lg.Ok.more (h:l.Ok)(d:l.bad (kL a)=0)(g:l.last<1000000000000):(l.more (kL a)).Ok:=by
 obtain⟨f,j,m,k,c⟩:=Eg d;have i:=h.us;refine⟨h.n2,h.hi,h.st,?_,?_,lS h.sy,?_,?_⟩
 ·show l.used+dS (kL a)<=l.n - 1
  unfold Lg.room at c;omega
 ·show l.last+1<=_
  omega
 ·intro e b
  rcases bU.1 b with b|b
  ·have:=h.ent e b
   exact⟨this.1,lS this.2⟩
  ·rw[bQ.1 b]
   refine⟨?_,aD _⟩;show 1<=dS (kL a);unfold dS;omega
 ·show ((l.list++[(l.last+1,dS (kL a))]).map (fun e:Nat×Nat=>e.2)).sum=l.used+dS (kL a)
  rw[bT,kV,h.sum];simp
def aT.lower {B c e:Nat}{d:List Value}(h:aT w S c e k v n d)(j:B<=c):aT w S B e k v n d:=by
 refine⟨⟨h.1.1,?_⟩,h.2⟩;rcases h.1.2 with i|⟨g,b,a,f,m,l⟩
 ·exact .inl i
 ·exact .inr ⟨g,b,a,f,aK j m,l⟩
def aT.less {S':Nat->Prop}{B e:Nat}{a:List Value}(h:aT w S B e k v n a)(b:∀g,S' g->S g):aT w S' B e k v n a:=⟨h.1,fun g d c=>h.2 g d (b g c)⟩
def aZ.mid {g c a b:Nat}{B:List UInt8}(h:aZ w S 1 (.slice (some ⟨g,0,none⟩) n c) n (aI B))(f:a<=b)(d:b<=n)(i:¬c=a):aZ w S 1 (.slice (some ⟨g,a,none⟩) (b - a) (c - a)) (b - a) (aI ((B.take b).drop a)):=by
 have:=(h.upto b d).after a f;rw[if_neg i] at this;simp only[iJ,dU,aW,dX] at this;have e:List.drop a (List.take b (aI B))=aI ((B.take b).drop a):=by simp[aI,gI,fT]
 rwa [e] at this
def RG (B:List UInt8)(N a c b:Nat)(d:B.length=N)(g:c=a+512)(f:b=min c N)(i:a<N):(B.take b).drop a=(B.drop a).take 512/\((B.drop a).take 512).length=b - a:=by
 have e:(B.drop a).length=N - a:=by rw[aO,d]
 refine⟨?_,by rw[aH,e];omega⟩;rw[gQ,List.take_eq_take_iff,e];omega
theorem MF (f d:Nat)(σ:Dk)(l:Lg)(Sd E:Nat->Prop)(v:Value)(j:List ByteArray)(w:World)(h:jg w Sd E f d σ l)(hv:jP w (fun g=>Sd g\/E g) v j)(hb:l.bad (kL j)=0)(hcap:σ.waits.length<=90000)(hll:l.last<1000000000000):
  Calls Tryz.prog 87 #[.pointer (some ⟨f,0,none⟩),v] w fun e w'=>e= .returned (.tuple #[.int .i64 (l.append σ (kL j)).2.2.1,.int .i64 (l.append σ (kL j)).2.2.2])/\
   ∃D zf,jg w' D zf f d (l.append σ (kL j)).1 (l.append σ (kL j)).2.1/\Two Sd E D zf w w':=by
 obtain⟨b1,b2,b3,b4,b5⟩:=Eg hb;have hls:=Fu b4;have HC:=ah (UH f d l E _ v j w h.lg hv hb);have HB4:=ah b4;have q8:=ah hb;clear b4 hb;obtain⟨vo,vc,rfl,v1,v2,v3,v4⟩:=aZ.form hv;have HH:=ah h;have HV:=ah hv;clear h hv;go_enter Tryz.func87,Tryz.ntmps87;go_wp2_with (first|(go_at_call 132;go_must (refine HC.out.mono ?_;rintro e w1 ⟨rfl,mo⟩;refine sO ?_)))
 refine sN ?_;have HH1:=ah (HH.out.below mo);have HV1:=ah (HV.out.below mo);have lJ:=ah mo;clear mo;go_wp2_with fail;go_loopw [7,22] (fun b i wr=>∃(k:Nat) (ao:Option Addr) (c:Nat),k<=j.length/\i= .int .i64 k/\b= .slice ao (iU (kL (j.take k))).length c/\Hid (aT wr gB w1.heap.size 5 1 b (iU (kL (j.take k))).length (aI (iU (kL (j.take k)))))/\Hid (Below w1.heap.size w1 wr)) (fun _ i _=>j.length - (intOf i).toNat)
 case atStart=>exact⟨0,none,0,aS _,rfl,rfl,ah (aT.nil _ _ _ _ _),ah (aR _ _)⟩
 case round=>
  obtain⟨k,ao,c,hk,rfl,rfl,HO,s⟩:=hrel
  by_cases lQ:k<j.length
  ·have yx:(k:Int)<(j.length:Int):=by omega
   have hsz:=HB4.out _ (bF lQ);obtain⟨b,o,rfl,hc⟩:=jP.at (aZ.below HV1.out s.out) rfl k lQ;have hws:=iC j[k].size (by omega);have hbl:(iU (kL (j.take k))).length<=1000000:=(by rw[FJ];have:=Fs j k;omega);have HP:=ah (NM _ (iU (kL (j.take k))) j[k].size 4 w1.heap.size wr HO.out s.out.size (by omega) (by omega) (by omega));have HS:=ah (Me j k lQ);generalize iU (kL (j.take k))=X at*;have y7:(X++leB j[k].size 4).length=X.length+4:=(by rw[ay,bW]);generalize X++leB j[k].size 4=Y at*;have HY:=ah y7;have hyl:Y.length<=1000004:=(by omega);clear y7;go_wp2_with (first|(go_at_call 133;go_must (refine HP.out.mono ?_;rintro e w2 ⟨v2',rfl,ql,V⟩;obtain⟨ao2,c2,rfl,_,_,_,_⟩:=aZ.form ql.dx;have HO2:=ah ql;have j5:=ah (s.out.trans V);clear ql V;have zW:=j5.out.size))|(at_builtin;go_must ((refine cO rfl (.tmp 30) (.tmp 31) 70 9 rfl gB w1.heap.size 5 1 1 (.int .u8 0) bG kJ rfl (.slice ao2 Y.length c2) _ _ rfl HO2.out (.string j[k]) _ _ rfl (Src.ofString _ gW _) (fun _ h=>h.elim) ?_ ?_ ?_ ?_);(focus exact zW);(focus unfold maxLen;omega);(focus omega);intro ao3 c3 w3 jO hk3 fo hd3)))
   have fK:=ah jO;have HB3:=ah (j5.out.trans fo);clear jO hk3 fo hd3;have HL:=ah (show Y.length+j[k].size=(iU (kL (j.take (k+1)))).length by rw[HS.out,ay];rfl);go_roundw
   case rel=>
    refine⟨k+1,ao3,c3,by omega,by go_num,by rw[HL.out],ah ?_,HB3⟩;rw[<-HL.out,HS.out,iZ];exact fK.out
   case measure=>simp[intOf];omega
  ·obtain rfl:k=j.length:=by omega
   rw[bS] at HO ⊢;have rG:=FJ j;obtain⟨X,HX⟩:=nm (iU (kL j));rw[HX.out] at HO rG ⊢;have hXb:X.length<=1000000:=(by omega);have HXl:=ah rG;clear rG;have nS:=HH1.out.lg;have hok:=nS.ok;obtain⟨lv,dn,c0,aA⟩:=nS;obtain⟨_,_,_,_,_,_,d6,_,_,j6,_⟩:=aA.cells;have hla:=hok.la;obtain⟨F,rV⟩:∃x,Hid (16+X.length=x):=⟨_,ah rfl⟩
   obtain⟨O,q9⟩:=nm (l.last+1);obtain⟨av,rJ⟩:=nm (yL X);have sF:F<18446744073709551616:=(by rw[<-rV.out];omega);have l11:O<18446744073709551616:=(by rw[<-q9.out];omega);have l12:av<4294967296:=(by rw[<-rJ.out];exact zq _);have q10:IntKind.u64.wrap (16+(X.length:Int))=(F:Int):=by
    have:=iC F sF;rw[<-rV.out] at this ⊢;rw[<-this];congr 1
   have q11:IntKind.u64.wrap ((l.last:Int)+1)=(O:Int):=by
    have:=iC O l11;rw[<-q9.out] at this ⊢;rw[<-this];congr 1
   have q12:=iC av (by omega);have zS:wr.cell? ⟨f,6,none⟩=some (.int .i64 l.last):=(s.out.cell (p:=⟨f,6,none⟩) j6).trans d6;have q8:f<wr.heap.size:=ax j6 s.out.size;have vz:f<wr.heap.size:=q8;have rX:=ah (NM (.slice none 0 0) [] F 4 wr.heap.size wr (aT.nil _ _ _ _ _) (aD _) sF (by omega) (by simp));simp only[jI] at rX;go_wp2_with (first|(go_at_call 133;go_must (refine rX.out.mono ?_;rintro e w2 ⟨b2',rfl,ho2,V⟩;refine sO ?_)))
   refine sN ?_;have d62:w2.cell? ⟨f,6,none⟩=some (.int .i64 l.last):=(V.cell (p:=⟨f,6,none⟩) q8).trans zS;have zn:f<w2.heap.size:=ax q8 V.size;have sP:=ah (NM b2' (leB F 4) O 8 wr.heap.size w2 ho2 V.size l11 (by omega) (by rw[bW];omega));have j5:=ah V;clear ho2 V;go_wp2_with (first|(go_at_call 133;go_must (refine sP.out.mono ?_;rintro e w3 ⟨r9,rfl,ho3,fo⟩;refine sO ?_)))
   refine sN ?_;have q9:=j5.out.trans fo;have o7:=ah ((aA.keep (Keep.qh s.out) (fun g a=>gG.2 (aA.sub g a))).keep (Keep.qh q9) (fun g a=>gG.2 (ax (aA.sub g a) s.out.size)));have pM:aT w3 (fun g=>g=f) w1.heap.size 5 1 (.slice ao X.length c) X.length (aI X):=(HO.out.keep (w':=w3) (S':=gB) fun g a hl hs=>⟨q9.block g hl,hs⟩).other (fun g a e=>by omega);have oO:=Cc (iI d l lv) [] f 9 224 dn c0 (.slice ao X.length c) X (fun g=>g=f) w3 rfl o7.out.row pM.dx rfl;rw[show uV X=(av:Int) by rw[uU,rJ.out]] at oO;have HSm:=ah oO;clear oO;have xE:=ah pM;have fK:=ah ho3;have iO:=ah q9;clear pM ho3 q9 fo d6 zS d62;go_wp2_with (first|(go_at_call 126;go_must (refine HSm.out.mono ?_;rintro e w4 ⟨rfl,c',yc,bC⟩;refine sO ?_)))
   refine sN ?_;have tQ:=ah (o7.out.table yc bC);have xV:=ah (xE.out.keep (w':=w4) (S':=gB) fun g a hl hs=>⟨bC.block g hl hs,id⟩);have ho4:aT w4 gB wr.heap.size 5 1 r9 (leB F 4++leB O 8).length (aI (leB F 4++leB O 8)):=fK.out.keep fun g a hl hs=>⟨bC.block g hl (fun e=>by have:=(fK.out.1.lt g a).1;omega),hs⟩
   have dR:wr.heap.size<=w4.heap.size:=aK iO.out.size bC.size;have y5:=ah (NM r9 (leB F 4++leB O 8) av 4 wr.heap.size w4 ho4 dR (by omega) (by omega) (by simp[bW]));have yo:=ah bC;clear yc bC ho4;go_wp2_with (first|(go_at_call 133;go_must (refine y5.out.mono ?_;rintro e w5 ⟨b5',rfl,di,kT⟩;refine sO ?_)))
   refine sN ?_;obtain⟨ao5,c5,rfl,_,_,_,_⟩:=aZ.form di.dx;have y8:aT w5 gB w1.heap.size 5 1 (.slice ao X.length c) X.length (aI X):=xV.out.keep fun g a hl hs=>⟨kT.block g (by have:=(HO.out.1.lt g a).2;omega),hs⟩
   have Z:=y8.dx.src (P:=Tryz.prog) bG (iA _);have hH:(leB F 4++leB O 8++leB av 4).length=16:=(by simp[bW]);have oH:wr.heap.size<=w5.heap.size:=aK dR kT.size;have jl:=ah kT;clear kT y8;obtain⟨H,p9⟩:=nx (leB F 4++leB O 8++leB av 4);rw[<-p9] at di hH ⊢;have HHe:=ah p9;clear p9;rw[hH] at di ⊢;have HHl:=ah hH;clear hH;go_wp2_with (at_builtin;go_must ((refine cO rfl (.tmp 55) (.tmp 56) 70 70 rfl gB wr.heap.size 5 1 1 (.int .u8 0) bG kJ rfl (.slice ao5 16 c5) 16 (aI H) rfl di (.slice ao X.length c) X.length (aI X) rfl Z (fun _ h=>h.elim) ?_ ?_ ?_ ?_);(focus exact oH);(focus unfold maxLen;omega);(focus omega);intro ao6 c6 w6 qc hk6 ql hd6;refine sO ?_));refine sN ?_;rw[<-iZ] at qc;have vk:H++X=iW (l.last+1) (kL j):=by
    rw[HHe.out,<-rV.out,<-q9.out,<-rJ.out,<-HX.out];rfl
   have kr:(H++X).length=16+X.length:=(by rw[ay,HHl.out]);have S:Keep (fun g=>E g\/w1.heap.size<=g) w w6:=by
    have a1:=Keep.of_below lJ.out (fun g=>E g\/w1.heap.size<=g);have a2:=a1.trans (Keep.qh s.out) (fun _ _ e=> .inr e);have a3:=a2.trans (Keep.qh iO.out) (fun _ _ e=> .inr (aK s.out.size e));have a4:=a3.trans yo.out (fun _ _ e=> .inl (e▸aA.sl));have a5:=a4.trans (Keep.qh jl.out) (fun _ _ e=> .inr (aK s.out.size e));exact a5.trans (Keep.qh ql) (fun _ _ e=> .inr (aK s.out.size e))
   have l5:∀g,g<w.heap.size->¬w1.heap.size<=g:=fun g a=>by have:=lJ.out.size;omega
   have ko:∀g,(Sd g\/E g)->g<w.heap.size:=fun g a=>a.elim (HH.out.dk.sub g) (HH.out.lg.sub g)
   have yK:=(tQ.out.keep (Keep.qh jl.out) (fun g a=>gG.2 (by have:=ko g (.inr a);have:=lJ.out.size;have:=s.out.size;omega))).keep (Keep.qh ql) (fun g a=>gG.2 (by have:=ko g (.inr a);have:=lJ.out.size;have:=s.out.size;omega));have tY:jg w6 Sd E f d σ l:=⟨HH.out.dk.keep S (fun g a e=>e.elim (HH.out.dis g a) (l5 g (ko g (.inl a)))),⟨_,_,_,yK⟩,HH.out.dis,HH.out.fit⟩;have zX:Two Sd E Sd E w w6:=⟨⟨S.os,S.tape,S.output,S.size,fun g a hn=>S.block g a (fun e=>e.elim (fun x=>hn (.inr x)) (l5 g a))⟩,fun _ a=> .inl a⟩;have hV6:jP w6 gB (.slice vo j.length vc) j:=HV.out.keep fun g a hl hs=>⟨S.block g hl (fun e=>e.elim (fun x=>hs (.inr x)) (l5 g hl)),id⟩
   have HN:=ah (PW _ j gB w6 hV6 (by omega));obtain⟨nd,bN⟩:=nm (dS (kL j));rw[bN.out] at HN b5;have hnd:nd*512<16+X.length+512:=by
    rw[<-bN.out];unfold dS;rw[xQ,<-HXl.out];omega
   have G:=HH.out.lg.ok;have hndl:nd<=4096:=(by have:=G.hi;unfold Lg.room at b5;omega);have HA6:=ah tY;have HT6:=ah zX;have l9:=ah (qc.other (S':=fun g=>Sd g\/E g) (fun g a hs=>l5 g (ko g hs) (aK s.out.size a)));clear tY zX hV6 S yK qc hk6 ql hd6 Z di aA j6 q8 vz zn dR oH q10 q11 q12;clear xE xV fK o7 tQ rX sP y5 HSm iO jl j5 yo;have rF:=ah vk;clear vk;generalize H++X=B at rF l9 kr;go_wp2_with (first|(go_at_call 85;go_must (refine HN.out.mono ?_;rintro e w7 ⟨rfl,hw7⟩;subst w7)))
   obtain⟨N,qo⟩:∃N,Hid (16+X.length=N):=⟨_,ah rfl⟩
   rw[qo.out] at l9 kr hnd ⊢;have hNb:N<=1000016:=(by rw[<-qo.out];omega);obtain⟨g6,rfl,hc6,hm6⟩:∃g,ao6=some ⟨g,0,none⟩/\N<=c6/\c6<=9223372036854775807:=by
    obtain⟨⟨_,hr⟩,_⟩:=l9.out;rcases hr with ⟨_,h0⟩|⟨g,cap,cur,hv,_,_,h1,h2,_⟩
    ·rw[<-qo.out] at h0;omega
    ·cases hv;exact⟨g,rfl,h1,by simpa [maxLen] using h2⟩
   have HBl':=ah kr;clear kr;go_loopw [61] (fun i wr=>∃(k:Nat) (D:Nat->Prop) (τ:Dk),k<=nd/\i= .int .i64 k/\Hid (jg wr D E f d τ l)/\Hid (Two Sd E D E w wr)/\Hid (τ.waits.length<=σ.waits.length+k)/\Hid (l.rF B nd 0 σ=l.rF B (nd - k) k τ)/\
    Hid (aT wr (fun g=>D g\/E g) 0 5 1 (.slice (some ⟨g6,0,none⟩) N c6) N (aI B))) (fun i _=>nd - (intOf i).toNat)
   case atStart=>exact⟨0,Sd,σ,aS _,rfl,HA6,HT6,ah (aD _),ah rfl,ah (l9.out.lower (aS _))⟩
   case round=>
    obtain⟨k,D,τ,hk,rfl,HA,HT,HW,lm,HO⟩:=hrel;obtain⟨lv,e0,e1,e2,e3,e4,e5,e6,e7,e8,T,qb⟩:=HA.out.cells
    by_cases lQ:k<nd
    ·have yx:(k:Int)<(nd:Int):=by omega
     have hl2:=G.st;have hl3:=G.us;have hl4:=G.hi;obtain⟨y,HY⟩:=nm (l.start+l.used);obtain⟨z,HZ⟩:=nm (l.start+l.used+k);have a1:IntKind.i64.wrap ((l.start:Int)+(l.used:Int))=(y:Int):=(by rw[aG _ (by omega),<-HY.out];omega);have a2:IntKind.i64.wrap ((y:Int)+(k:Int))=(z:Int):=(by rw[<-HY.out,<-HZ.out,aG _ (by omega)];omega);obtain⟨lo,fA⟩:=nm (k*512);obtain⟨h0,rA⟩:=nm ((k+1)*512);obtain⟨hi,jb⟩:=nm (min h0 N);have b1':IntKind.i64.wrap ((k:Int)*512)=(lo:Int):=(by rw[<-fA.out,aG _ (by omega)];omega);have b2':IntKind.i64.wrap (((k:Int)+1)*512)=(h0:Int):=(by rw[<-rA.out,aG _ (by omega)];omega);have r9:IntKind.i64.wrap ((k:Int)+1)=(k:Int)+1:=aG _ (by omega);have hmn:∀w,(Builtin.min_ #[3,3] 3 #[.int .i64 (h0:Int),.int .i64 (N:Int)]).run Tryz.prog w= .ok (.int .i64 (hi:Int)) w:=fun w=>by
      rw[run_min_int2,<-jb.out];congr 2
      split<;>omega
     have f1:lo<N:=(by have:=fA.out;omega);have f2:lo<=hi:=(by have:=fA.out;have:=rA.out;have:=jb.out;omega);have f3:hi<=c6:=(by have:=jb.out;omega);have f4:¬c6=lo:=(by omega);have f5:(lo:Int)<=(hi:Int):=(by omega);have f6:(hi:Int)<=(c6:Int):=(by omega);have HRg:=ah (PU f d l E z wr.drew (HA.out.lg.keep (Keep.of_below ((aR _ wr).drew) gB) (fun _ _ e=>e)));go_wp2_with fail;refine aP (fun W=>W.cell? ⟨f,0,none⟩=some (.pointer (some ⟨d,0,none⟩))/\W.cell? ⟨f,3,none⟩=some (.int .i64 l.start)/\W.cell? ⟨f,4,none⟩=some (.int .i64 l.used)/\f<W.heap.size) (fun i=> !([16,27].contains i)) [0,1,2,3,4,5,6,7,8,9,10,11,12,13,14,15,17,18,19,20,21,22,23,24,25,26,16,27,28] rfl (by kernel_rfl) ⟨e0,e3,e4,T⟩ ?_
     repeat (refine oq ?_ rfl rfl rfl ?_ ?_;rotate_left;(focus intro W R;(try dsimp only at R);have r0:=R.1;have r1:=R.2.1;have r2:=R.2.2.1;have r3:=R.2.2.2;go_simp;first|done|with_reducible rfl);try simp only[Act.put,aj,au,ak])
     refine dI rfl rfl rfl ?_;intro K hK;go_simp;refine HRg.out.mono ?_;rintro e w8 ⟨rfl,hw8⟩;subst w8;refine hK.out _ _ ⟨e0,e3,e4,T⟩ ?_;refine dI rfl rfl rfl ?_;intro K hK;go_simp;obtain⟨q1,q2⟩:=RG B N lo h0 hi HBl'.out (by have:=fA.out;have:=rA.out;omega) jb.out.symm f1;have hsl:aZ wr.drew.drew D 1 (.slice (some ⟨g6,lo,none⟩) (hi - lo) (c6 - lo)) ((B.drop lo).take 512).length (aI ((B.drop lo).take 512)):=by
      have h0':=(HO.out.less (S':=D) (fun g hs=> .inl hs)).dx.mid f2 (by have:=jb.out;omega) f4;rw[q1] at h0';rw[q2];exact h0'.below ((aR _ _).drew.drew)
     have HWr:=ah (GV d τ D (l.ring z:Int) _ ((B.drop lo).take 512) wr.drew.drew (HA.out.dk.below ((aR _ _).drew.drew)) hsl (by have:=HW.out;omega));obtain⟨ρ,q,HQ⟩:∃ρ q,Hid (τ.write (l.ring z:Int) ((B.drop lo).take 512)=(ρ,q)):=⟨_,_,ah rfl⟩
     have HQn:=ah (show ρ.n=τ.n by have:=τ.qU (l.ring z:Int) ((B.drop lo).take 512);rw[HQ.out] at this;exact this);have HQw:=ah (show ρ.waits.length<=σ.waits.length+(k+1) by have:=τ.Bl (l.ring z:Int) ((B.drop lo).take 512);rw[HQ.out] at this;have h2:=HW.out;have:ρ.waits.length<=τ.waits.length+1:=this;omega);rw[HQ.out] at HWr;clear hsl q1 q2;refine HWr.out.mono ?_;rintro e w9 ⟨rfl,xK,vv,hs9⟩;have dZ:=HA.out.disk vv ((Step.of_below ((aR _ wr).drew.drew)).trans hs9) HQn.out;have o5:=ah dZ.1;have xP:=ah (HT.out.trans dZ.2);have HO9:=ah (HO.out.step dZ.2);obtain⟨lv9,j0,_,_,j3,j4,_,_,_,_,zP,_⟩:=dZ.1.cells;clear dZ vv hs9 e0 e1 e2 e3 e4 e5 e6 e7 e8 T;refine hK.out _ _ ⟨j0,j3,j4,zP⟩ ?_
     repeat (refine oq ?_ rfl rfl rfl ?_ ?_;rotate_left;(focus intro W R;(try dsimp only at R);have r0:=R.1;go_simp;first|done|with_reducible rfl);try simp only[Act.put,aj,au,ak])
     refine bR ?_;have bH:l.rF B (nd - k) k τ=if q=0 then l.rF B (nd - (k+1)) (k+1) ρ else(ρ,10):=by
      obtain⟨m,hm⟩:∃m,nd - k=m+1:=⟨nd - k - 1,by omega⟩
      rw[hm,l.uJ,HZ.out,fA.out,HQ.out];simp only[show nd - (k+1)=m by omega]
     by_cases hq:q=0
     ·subst hq
      rw[if_pos rfl] at bH;have HSp9:=ah (lm.out.trans bH);clear bH;go_wp2_with fail;go_roundw
      case rel=>exact⟨k+1,xK,ρ,by omega,by go_num,o5,xP,HQw,HSp9,HO9⟩
      case measure=>simp[intOf];omega
     ·rw[if_neg hq] at bH
      have hq':(q !=0)=true:=(by simpa using hq);have HM:=ah (show l.append σ (kL j)=(ρ,l.dies,0,10) by
       unfold Lg.append
       rw[q8.out,bN.out,<-rF.out,lm.out,bH]
       simp)
      have HFB:=ah (xG f d l E q w9 o5.out.lg hq);clear bH;go_wp2_with (first|(go_at_call 135;go_must (refine HFB.out.mono ?_;rintro e t ⟨rfl,hL10,hs10⟩)))
      go_ret2;rw[HM.out];have mK:=o5.out.log hL10 hs10 ⟨rfl,rfl⟩;exact⟨rfl,xK,E,mK.1,xP.out.trans mK.2⟩
    ·obtain rfl:k=nd:=by omega
     rw[ru] at lm;have HM:=ah (show l.append σ (kL j)=(τ,l.more (kL j),l.last+1,0) by
      unfold Lg.append
      rw[q8.out,bN.out,<-rF.out,lm.out]
      simp[Lg.rF])
     obtain⟨A,bB,bA,Q⟩:=HA.out.lg;have zb:=Q.row;have zA:=zb.setCell 6 (.int .i64 ((l.last+1:Nat):Int));have pM:=zA.setCell 4 (.int .i64 ((l.used+k:Nat):Int));obtain⟨l2,l6⟩:∃l2:Lg,Hid (l2={l with last:=l.last+1,used:=l.used+k}):=⟨_,ah rfl⟩
     have za:(((jc (iI d l A) bB bA []).set 6 (.int .i64 ((l.last+1:Nat):Int))).set 4 (.int .i64 ((l.used+k:Nat):Int)))=jc (iI d l2 A) bB bA []:=(by rw[l6.out];rfl);rw[za] at pM;clear za zb zA;obtain⟨e0,e1,e2,e3,e4,e5,e6,e7,e8,T,qb⟩:=Q.cells;obtain⟨x6,aB⟩:=nm (l.last+1);obtain⟨x4,oo⟩:=nm (l.used+k);rw[aB.out,oo.out] at pM;have g6':IntKind.i64.wrap ((l.last:Int)+1)=(x6:Int):=(by rw[<-aB.out,aG _ (by omega)];omega);have hl3:=G.us;have hl4:=G.hi;have g4':IntKind.i64.wrap ((l.used:Int)+(k:Int))=(x4:Int):=(by rw[<-oo.out,aG _ (by omega)];omega);have z6:=qb 6;have z4:=qb 4;go_wp2_with fail;obtain⟨t,nJ⟩:=nm (((wr.setCell ⟨f,6,none⟩ (.int .i64 x6)).setCell ⟨f,4,none⟩ (.int .i64 x4)));have dx:Keep (· =f) wr t:=by
      rw[<-nJ.out];exact((Keep.refl (· =f) wr).setCell (p:=⟨f,6,none⟩) (.inr rfl) _).setCell (p:=⟨f,4,none⟩) (.inr rfl) _
     rw[nJ.out] at pM ⊢;have m5:t.cell? ⟨f,5,none⟩=some A:=pM.cell 5;have m6:t.cell? ⟨f,6,none⟩=some (.int .i64 x6):=(pM.cell 6).trans (by rw[l6.out,<-aB.out];rfl);have r:=pM.lt;have hlv:∀g,A.ownBlock=some g->g≠f:=fun g a=>(Q.slv b1 g a).2
     have qb:=(Q.lst b1).keep (w':=t) (fun g a=>dx.block g ((Q.lst b1).lt a) (hlv g a));have HLL:=ah Q;have HR2:=ah pM;have nA:=ah dx;have hlen:l.list.length<=4096:=by
      have h1:=Q.ok.ent;have h2:=Q.ok.sum;have h3:∀(L:List (Nat×Nat)),(∀e∈L,1<=e.2/\e.1<=l.last)->L.length<=(L.map (·.2)).sum:=fun L=>by
       induction L with
       |nil=>intro _;exact aS _
       |cons e L ih=>
        intro h;have:=ih (fun x hx=>h x (aX _ hx));have:=(h e (bf ..)).1;simp only[dK,qg,bn];omega
      have:=h3 l.list h1;omega
     clear Q pM dx e0 e1 e2 e3 e4 e5 e6 e7 e8 T;refine aP (fun W=>W.cell? ⟨f,5,none⟩=some A/\W.cell? ⟨f,6,none⟩=some (.int .i64 x6)/\f<W.heap.size) (fun i=> !([11,12,15].contains i)) [0,1,2,3,4,5,6,7,8,9,10,11,12,13,14,15] rfl (by kernel_rfl) ⟨m5,m6,r⟩ ?_
     repeat (refine oq ?_ rfl rfl rfl ?_ ?_;rotate_left;(focus intro W R;(try dsimp only at R);have r0:=R.1;have r1:=R.2.1;have r2:=R.2.2;go_simp;first|done|with_reducible rfl);try simp only[Act.put,aj,au,ak])
     have I:Keep gB t (t.drew.alloc (.cells [Value.int .i64 (x6:Int),Value.int .i64 (k:Int)].toArray 229)):=((Keep.refl gB t).drew).alloc _;refine dI rfl rfl rfl ?_;intro K hK;refine sK 204 229 (.tmp 123) rfl 2 [Value.int .i64 (x6:Int),Value.int .i64 (k:Int)] rfl rfl (by omega) (by omega) yG LG Kz ?_;refine hK.out _ _ ⟨(I.cell r id).trans m5,(I.cell r id).trans m6,ax r I.size⟩ ?_;have fJ:=qb.keep (w':=(t.drew.alloc (.cells [Value.int .i64 (x6:Int),Value.int .i64 (k:Int)].toArray 229))) (fun g a=>I.block g (qb.lt a) id);have Z:Src Tryz.prog 2 204 (.slice (some ⟨t.heap.size,0,none⟩) 1 1) 1 [Value.int .i64 (x6:Int),Value.int .i64 (k:Int)] (t.drew.alloc (.cells [Value.int .i64 (x6:Int),Value.int .i64 (k:Int)].toArray 229)):=gq _ _ _ 1 1 rfl yG rfl (fun v hv=>by simp at hv;rcases hv with rfl|rfl<;>rfl);refine dI rfl rfl rfl ?_;intro K hK;refine PV (.tmp 117) (.tmp 124) 204 204 rfl 229 2 16 _ yG BA rfl A l.list.length _ rfl fJ _ 1 _ rfl Z (by simp only[maxLen];omega) (by omega) ?_;intro n C qo jF oK fB;have M:Keep (fun g=>A.ownBlock=some g) t qo:=(I.mono (fun _ _ h=>h.elim)).trans oK (fun _ _ h=>h);have qc:¬A.ownBlock=some f:=fun e=>hlv f e rfl
     refine hK.out _ _ ⟨(M.cell (p:=⟨f,5,none⟩) r qc).trans m5,(M.cell (p:=⟨f,6,none⟩) r qc).trans m6,ax r M.size⟩ ?_;have J:Row qo f 224 (jc (iI d l2 A) bB bA []):=HR2.out.keep M qc;have hf12:=J.frozen 5;have m512:qo.cell? ⟨f,5,none⟩=some A:=J.cell 5;have hlt12:=J.lt;have mr:=J.setCell 5 (.slice n (l.list.length+1) C);have af:=ah mr;have HR12:=ah J;have vO:=ah M;have p9:=ah jF;have z8:=ah (show (Value.slice n (l.list.length+1) C).ownBlock=A.ownBlock\/∃g,(Value.slice n (l.list.length+1) C).ownBlock=some g/\t.heap.size<=g from fB.imp id (fun ⟨g,h1,h2⟩=>⟨g,h1,aK (by simp) h2⟩));clear mr J qb fJ Z I jF fB oK M;simp only[Act.put,aj,au,ak]
     repeat (refine oq ?_ rfl rfl rfl ?_ ?_;rotate_left;(focus intro W R;(try dsimp only at R);have r0:=R.1;have r1:=R.2.1;have r2:=R.2.2;go_simp;first|done|with_reducible rfl);try simp only[Act.put,aj,au,ak])
     refine jC rfl rfl rfl (by kernel_rfl) ?_;intro K hK;go_simp;refine hK.out _ _ ?_;refine bR ?_;have m6':(qo.setCell ⟨f,5,none⟩ (.slice n (l.list.length+1) C)).cell? ⟨f,6,none⟩=some (.int .i64 x6):=(af.out.cell 6).trans (by rw[l6.out,<-aB.out];rfl);have rP:=af.out.lt;obtain⟨lC,nk⟩:=nm (qo.setCell ⟨f,5,none⟩ (.slice n (l.list.length+1) C));rw[nk.out] at m6' rP af ⊢;go_wp2_with fail;go_ret2;rw[HM.out];have kg:Keep (· =f) qo lC:=by rw[<-nk.out];exact(Keep.refl (· =f) qo).setCell (p:=⟨f,5,none⟩) (.inr rfl) _
     have Q:=HLL.out;have jv:Keep E wr lC:=((nA.out.mono (fun _ _ e=>e▸Q.sl)).trans vO.out (fun g _ e=>(Q.slv b1 g e).1)).trans kg (fun _ _ e=>e▸Q.sl);have zm:∀g,(Value.slice n (l.list.length+1) C).ownBlock=some g->E g\/wr.heap.size<=g:=fun g a=>by
      rcases z8.out with e|⟨g',e,hge⟩
      ·exact .inl (Q.slv b1 g (e▸a)).1
      ·rw[e] at a;cases a;exact .inr (aK nA.out.size hge)
     have hnl:∀g,(Value.slice n (l.list.length+1) C).ownBlock=some g->g≠f:=fun g a=>by
      rcases z8.out with e|⟨g',e,hge⟩
      ·exact(Q.slv b1 g (e▸a)).2
      ·rw[e] at a;cases a;omega
     have o6:Step E (fun g=>E g\/(Value.slice n (l.list.length+1) C).ownBlock=some g) wr lC:=⟨jv,fun g a=>a.elim .inl (zm g)⟩;have hL13:uq lC (fun g=>E g\/(Value.slice n (l.list.length+1) C).ownBlock=some g) f d (l.more (kL j)):=by
      refine⟨.slice n (l.list.length+1) C,bB,bA,Q.ok.more q8.out hll,fun g a=> ?_,.inl Q.sl,?_,?_,fun _ g a=>⟨.inr a,hnl g a⟩⟩
      ·rcases a with a|a
       ·exact ax (Q.sub g a) jv.size
       ·exact ax (p9.out.lt a) kg.size
      ·have e:(jc (iI d l2 A) bB bA []).set 5 (.slice n (l.list.length+1) C)=jc (iI d (l.more (kL j)) (.slice n (l.list.length+1) C)) bB bA []:=by
        unfold Lg.more;rw[l6.out,bN.out];rfl
       rw[<-e];exact af.out
      ·have e1:(l.more (kL j)).list.length=l.list.length+1:=by simp[Lg.more]
       have e2:jQ (l.more (kL j)).list=jQ l.list++[Value.int .i64 (x6:Int),Value.int .i64 (k:Int)]:=by
        unfold Lg.more;rw[vD,<-aB.out,bN.out];rfl
       rw[e1,e2];exact fun _=>p9.out.keep fun g a=>kg.block g (p9.out.lt a) (hnl g a)
     have nH:=HA.out.log hL13 o6 ⟨rfl,rfl⟩;refine⟨?_,D,_,nH.1,HT.out.trans nH.2⟩;rw[<-aB.out];rfl
