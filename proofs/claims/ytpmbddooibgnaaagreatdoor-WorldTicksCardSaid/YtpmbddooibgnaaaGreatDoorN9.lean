/- parts -/
import Derived.Test.YtpmbddooibgnaaaGreatDoorN6
import Derived.Test.YtpmbddooibgnaaaGreatDoorN7
import Derived.Test.YtpmbddooibgnaaaGreatDoorN8
import Derived.Lib.SlBytesConst
set_option maxRecDepth 100000
set_option maxHeartbeats 8000000
set_option linter.all false
namespace Go.Proofs.YtpmbddooibgnaaaGreatDoor
open Go.RowKit
def gm (d:Nat)(l:Lg)(lv:Value):List Value:=[.pointer (some ⟨d,0,none⟩),.int .i64 l.frm,.int .i64 l.n,.int .i64 l.start,.int .i64 l.used,lv,.int .i64 l.last,.int .i64 l.synced,.bool l.dead]
theorem CU (d:Nat)(l:Lg)(a:Value):(gm d l a).length=9:=rfl
def iU (es:List (Nat×Nat)):List Value:=es.flatMap fun e=>[.int .i64 (e.1:Int),.int .i64 (e.2:Int)]
structure Lg.Ok (l:Lg):Prop where
 n2:2<=l.n
 hi:l.frm+l.n<=4096
 st:l.start<l.n - 1
 us:l.used<=l.n - 1
 la:l.last<=1000000000000
 sy:l.synced<=l.last
 ent:∀e∈l.list,1<=e.2/\e.1<=l.last
 sum:(l.list.map (·.2)).sum=l.used
structure oD (w:World)(S:Nat->Prop)(lg d:Nat)(l:Lg)(lv:Value)(dn:Bool)(c:Int):Prop where
 ok:l.Ok
 sub:∀g,S g->g<w.heap.size
 sl:S lg
 row:Row w lg 288 (gH (gm d l lv) dn c [])
 lst:l.dead=false->lI w 296 2 lv l.list.length (iU l.list)
 slv:l.dead=false->∀g,lv.ownBlock=some g->S g/\g≠lg
def sP (w:World)(S:Nat->Prop)(lg d:Nat)(l:Lg):Prop:=∃lv dn c,oD w S lg d l lv dn c
theorem oD.cells {w:World}{S:Nat->Prop}{a d:Nat}{l:Lg}{b:Value}{e:Bool}{c:Int}(h:oD w S a d l b e c):
  w.cell? ⟨a,0,none⟩=some (.pointer (some ⟨d,0,none⟩))/\w.cell? ⟨a,1,none⟩=some (.int .i64 l.frm)/\w.cell? ⟨a,2,none⟩=some (.int .i64 l.n)/\w.cell? ⟨a,3,none⟩=some (.int .i64 l.start)/\w.cell? ⟨a,4,none⟩=some (.int .i64 l.used)/\
  w.cell? ⟨a,5,none⟩=some b/\w.cell? ⟨a,6,none⟩=some (.int .i64 l.last)/\w.cell? ⟨a,7,none⟩=some (.int .i64 l.synced)/\w.cell? ⟨a,8,none⟩=some (.bool l.dead)/\a<w.heap.size/\∀j,w.frozen? ⟨a,j,none⟩=false:=
 ⟨h.row.cell 0,h.row.cell 1,h.row.cell 2,h.row.cell 3,h.row.cell 4,h.row.cell 5,h.row.cell 6,h.row.cell 7,h.row.cell 8,h.row.lt,fun j=>h.row.frozen j⟩
theorem oD.keep {w w':World}{S M:Nat->Prop}{j d:Nat}{l:Lg}{k:Value}{f:Bool}{c:Int}(h:oD w S j d l k f c)(e:Keep M w w')(i:∀g,S g->¬M g):oD w' S j d l k f c:=
 ⟨h.ok,fun g a=>aA (h.sub g a) e.size,h.sl,h.row.keep e (i _ h.sl),fun b=>(h.lst b).keep fun g a=>e.block g (h.sub _ (h.slv b g a).1) (i _ (h.slv b g a).1),h.slv⟩
theorem sP.keep {w w':World}{S M:Nat->Prop}{a d:Nat}{l:Lg}(h:sP w S a d l)(f:Keep M w w')(b:∀g,S g->¬M g):sP w' S a d l:=by
 obtain⟨i,e,c,h⟩:=h
 exact⟨i,e,c,h.keep f b⟩
theorem sP.ok {w:World}{S:Nat->Prop}{a d:Nat}{l:Lg}(h:sP w S a d l):l.Ok:=by obtain⟨_,_,_,h⟩:=h;exact h.ok
theorem sP.sub {w:World}{S:Nat->Prop}{a d:Nat}{l:Lg}(h:sP w S a d l):∀g,S g->g<w.heap.size:=by obtain⟨_,_,_,h⟩:=h;exact h.sub
theorem oD.set {w:World}{S:Nat->Prop}{b d:Nat}{l l':Lg}{f:Value}{m:Bool}{c:Int}(h:oD w S b d l f m c)(j:Nat)(v:Value)(r:j<9)(q:l'.Ok)(s:l'.list=l.list)(a:l'.dead=false->l.dead=false)(o:(gm d l f).set j v=gm d l' f):oD (w.setCell ⟨b,j,none⟩ v) S b d l' f m c:=by
 have n:Keep (· =b) w (w.setCell ⟨b,j,none⟩ v):=(Keep.refl (· =b) w).setCell (p:=⟨b,j,none⟩) (.inr rfl) _
 refine⟨q,fun g k=>aA (h.sub g k) n.size,h.sl,?_,?_,fun i=>h.slv (a i)⟩
 ·have:=h.row.setCell j v
  have e:(gH (gm d l f) m c []).set j v=gH (gm d l' f) m c []:=by
   unfold gH oH
   rw[LF _ _ (by rw[CU];exact r),o]
  rwa [e] at this
 ·rw[s]
  exact fun i=>(h.lst (a i)).keep fun g k=>n.block g (h.sub _ (h.slv (a i) g k).1) (h.slv (a i) g k).2
theorem Rf (a d:Nat)(l:Lg)(S:Nat->Prop)(w:World)(h:sP w S a d l):
  Calls Tryz.prog 102 #[.pointer (some ⟨a,0,none⟩)] w fun e f=>e= .returned (.int .i64 l.synced)/\f=w:=by
 obtain⟨j,i,c,h⟩:=h
 obtain⟨_,_,_,_,_,_,_,g,_,b,_⟩:=h.cells
 go_enter Tryz.func102,Tryz.ntmps102
 go_wp2_with fail
 go_ret
 exact⟨rfl,rfl⟩
theorem Oe (a d:Nat)(l:Lg)(S:Nat->Prop)(w:World)(h:sP w S a d l):
  Calls Tryz.prog 103 #[.pointer (some ⟨a,0,none⟩)] w fun e f=>e= .returned (.int .i64 l.last)/\f=w:=by
 obtain⟨j,i,c,h⟩:=h
 obtain⟨_,_,_,_,_,_,g,_,_,b,_⟩:=h.cells
 go_enter Tryz.func103,Tryz.ntmps103
 go_wp2_with fail
 go_ret
 exact⟨rfl,rfl⟩
theorem N8 (a d:Nat)(l:Lg)(S:Nat->Prop)(w:World)(h:sP w S a d l):
  Calls Tryz.prog 98 #[.pointer (some ⟨a,0,none⟩)] w fun e j=>e= .returned (.int .i64 l.room)/\j=w.drew:=by
 obtain⟨q,s,c,h⟩:=h
 obtain⟨_,_,f,_,o,_,_,_,_,m,_⟩:=h.cells
 have r:=h.ok.n2;have p:=h.ok.hi;have x:=h.ok.us
 have t:IntKind.i64.wrap ((l.n:Int) - 1)=(l.n:Int) - 1:=aM _ (by omega)
 have k:IntKind.i64.wrap ((l.n:Int) - 1 - (l.used:Int))=(l.room:Int):=by rw[aM _ (by omega)];unfold Lg.room;omega
 have y:=ah k
 have g:w.drew.cell? ⟨a,2,none⟩=some (.int .i64 l.n):=f
 have n:w.drew.cell? ⟨a,4,none⟩=some (.int .i64 l.used):=o
 go_enter Tryz.func98,Tryz.ntmps98
 go_wp2_with fail
 refine aP (fun W=>W=w.drew) (fun i=>true) [0,1,2,3,4,5,6,7,8,9,10] rfl (by kernel_rfl) rfl ?_
 repeat ((refine bE (v:= ?_) rfl rfl (fun _ _ _ h=>h) rfl (fun W b=> ?_) ?_);rotate_left;(focus ((try dsimp only at b);subst b;(go_simp;first|done|with_reducible rfl)));(try simp only[Act.put,ak,ay,ax]))
 refine bN ?_
 go_wp2_with fail
 go_ret
 exact⟨rfl,rfl⟩
theorem N9 (a d:Nat)(l:Lg)(S:Nat->Prop)(k:Nat)(w:World)(h:sP w S a d l):
  Calls Tryz.prog 159 #[.pointer (some ⟨a,0,none⟩),.int .i64 k] w fun e x=>e= .returned (.int .i64 (l.ring k))/\x=w.drew:=by
 obtain⟨D,H,c,h⟩:=h
 obtain⟨_,o,q,_,_,_,_,_,_,y,_⟩:=h.cells
 have F:=h.ok.n2;have C:=h.ok.hi
 have A:w.drew.cell? ⟨a,1,none⟩=some (.int .i64 l.frm):=o
 have t:w.drew.cell? ⟨a,2,none⟩=some (.int .i64 l.n):=q
 obtain⟨m,b⟩:∃m,l.n=m+1:=⟨l.n - 1,by omega⟩
 have s:1<=m:=by omega
 have j:k%m<m:=mQ _ (by omega)
 have J:IntKind.i64.wrap ((l.n:Int) - 1)=(m:Int):=by rw[aM _ (by omega)];omega
 have I:IntKind.i64.wrap ((l.frm:Int)+1)=(l.frm:Int)+1:=aM _ (by omega)
 have n:(k:Int)%(m:Int)=((k%m:Nat):Int):=(Int.natCast_emod k m).symm
 have f:IntKind.i64.wrap ((l.frm:Int)+1+(k:Int)%(m:Int))=(l.ring k:Int):=by rw[n,aM _ (by omega)];unfold Lg.ring;rw[b,Ai];omega
 clear n
 have r:¬(m:Int)=0:=by omega
 have B:((m:Int)==0)=false:=fV.2 r
 have G:¬m=0:=by omega
 have E:=ah b;clear b
 have p:=ah f;clear f
 go_enter Tryz.func159,Tryz.ntmps159
 go_wp2_with fail
 refine aP (fun W=>W=w.drew) (fun i=>true) [0,1,2,3,4,5,6,7,8,9,10,11,12,13] rfl (by kernel_rfl) rfl ?_
 repeat ((refine bE (v:= ?_) rfl rfl (fun _ _ _ h=>h) rfl (fun W g=> ?_) ?_);rotate_left;(focus ((try dsimp only at g);subst g;(go_simp;first|done|with_reducible rfl)));(try simp only[Act.put,ak,ay,ax]))
 refine bN ?_
 go_wp2_with fail
 go_ret
 exact⟨congrArg (fun z=>Ending.returned (.int .i64 z)) p.out,rfl⟩
theorem Oj (a:Nat)(w:World):
  Calls Tryz.prog 160 #[.pointer (some ⟨a,0,none⟩),.int .i64 0] w fun e b=>e= .returned (.int .i64 0)/\b=w:=by
 go_enter Tryz.func160,Tryz.ntmps160
 go_wp2_with fail
 go_ret
 exact⟨rfl,rfl⟩
theorem vN (a d:Nat)(l:Lg)(S:Nat->Prop)(q:Int)(w:World)(h:sP w S a d l)(n:q≠0):
  Calls Tryz.prog 160 #[.pointer (some ⟨a,0,none⟩),.int .i64 q] w fun e g=>e= .returned (.int .i64 10)/\sP g S a d l.dies/\Step S S w g:=by
 obtain⟨o,s,c,h⟩:=h
 obtain⟨_,_,_,_,_,_,_,_,t,j,b⟩:=h.cells
 have r:=b 8
 have m:(q !=0)=true:=by simpa using n
 have k:=ah (h.set (l':=l.dies) 8 (.bool true) (by omega) ⟨h.ok.n2,h.ok.hi,h.ok.st,h.ok.us,h.ok.la,h.ok.sy,h.ok.ent,h.ok.sum⟩ rfl (fun e=>by cases e) rfl)
 have f:=ah h.sl
 go_enter Tryz.func160,Tryz.ntmps160
 go_wp2_with fail
 go_ret
 exact⟨rfl,⟨_,_,_,k.out⟩,(Keep.refl S w).setCell (p:=⟨a,8,none⟩) (.inr f.out) _,fun _ i=> .inl i⟩
theorem uf (a b:List (Nat×Nat)):iU (a++b)=iU a++iU b:=by simp[iU]
theorem bq.nth {w:World}{S:Nat->Prop}{k n c:Nat}{i:Option Addr}{a:List Value}(h:bq w S k (.slice i n c) n a)(l:0<n)(s:0<k):∃b o,i=some ⟨b,o,none⟩/\b<w.heap.size/\∀j u,a[j]? =some u->w.cell? ⟨b,o+j,none⟩=some u:=by
 obtain⟨m,A,t,y,x,v,z,r,g⟩:=h
 cases t
 have p:0<a.length:=by rw[v];exact Nat.mul_pos l s
 obtain⟨b,o,e,D⟩:=g 0 _ (bB p)
 refine⟨b,o,e,(r _ e).2.1,fun j u q=> ?_⟩
 obtain⟨B,C,f,d⟩:=g j u q
 rw[e] at f;cases f
 exact d
theorem Ur (m d:Nat)(l:Lg)(S:Nat->Prop)(w:World)(h:sP w S m d l)(i:l.dead=false):
  Calls Tryz.prog 233 #[.pointer (some ⟨m,0,none⟩)] w fun e t=>e= .returned (.int .i64 l.first)/\t=w:=by
 obtain⟨C,E,c,h⟩:=h
 obtain⟨_,_,_,_,_,s,I,_,_,x,_⟩:=h.cells
 have D:=h.ok.la
 have f:=(h.lst i).dM (S:=eG) (fun _ _ e=>e)
 obtain⟨J,K,rfl,r,H,y,G⟩:=bq.form f
 cases a:l.list with
 |nil=>
  rw[a] at r y s
  have F:IntKind.i64.wrap ((l.last:Int)+1)=(l.last:Int)+1:=aM _ (by omega)
  have j:=ah (show (l.last:Int)+1=(l.first:Int) by unfold Lg.first;rw[a];rfl)
  clear h f a i
  go_enter Tryz.func233,Tryz.ntmps233
  go_wp2_with fail
  go_ret
  rw[<-j.out]
  exact⟨rfl,rfl⟩
 |cons e A=>
  have q:0<l.list.length:=by rw[a];simp
  obtain⟨b,o,rfl,B,g⟩:=f.nth q (by omega)
  have z:w.cell? ⟨b,o,none⟩=some (.int .i64 (e.1:Int)):=by
   have:=g 0 (.int .i64 (e.1:Int)) (by rw[a];rfl)
   rwa [jD] at this
  have j:=ah (show (e.1:Int)=(l.first:Int) by unfold Lg.first;rw[a])
  have v:((l.list.length:Int)==0)=false:=fV.2 (by omega)
  have n:l.list.isEmpty=false:=by rw[a];rfl
  have k:¬l.list=[]:=by rw[a];simp
  have p:(0:Int)<(l.list.length:Int):=by omega
  clear h f a g i
  go_enter Tryz.func233,Tryz.ntmps233
  go_wp2_with fail
  go_ret
  rw[<-j.out]
  exact⟨rfl,rfl⟩
theorem Kz (d:Nat)(b:Dk)(S:Nat->Prop)(a n:Nat)(w:World)(h:qL w S d b)(s:2<=n)(r:a+n<=b.n):
  Calls Tryz.prog 150 #[.pointer (some ⟨d,0,none⟩),.int .i64 a,.int .i64 n] w fun e j=>e= .returned (.int .i64 0)/\j=w:=by
 have l:=ah (G6 d b S w h)
 have m:=h.ok.hi
 have o:¬((a:Int)<0):=by omega
 have k:¬((n:Int)<2):=by omega
 have i:¬((b.n:Int)<(n:Int)):=by omega
 have z:IntKind.i64.wrap ((b.n:Int) - (n:Int))=(b.n:Int) - (n:Int):=aM _ (by omega)
 have g:¬((b.n:Int) - (n:Int)<(a:Int)):=by omega
 have t:decide ((a:Int)<0)=false:=bU o
 have q:decide ((n:Int)<2)=false:=bU k
 have c:decide (n<2)=false:=bU (by omega)
 have x:decide ((b.n:Int)<(n:Int))=false:=bU i
 have p:decide (b.n<n)=false:=bU (by omega)
 have v:decide ((b.n:Int) - (n:Int)<(a:Int))=false:=bU g
 go_enter Tryz.func150,Tryz.ntmps150
 go_wp2_with (first
  |(go_at_call 87;go_must (refine l.out.mono ?_;rintro e f ⟨rfl,y⟩;subst f)))
 go_ret
 exact⟨rfl,rfl⟩
def jF (ss:List ByteArray):List (List UInt8):=ss.map fun s=>s.data.toList
def iR (ss:List ByteArray):Nat:=(ss.map fun s=>4+s.size).sum
theorem vU (a:List ByteArray):((jF a).map fun r=>4+r.length).sum=iR a:=by
 unfold jF iR
 rw[Ul]
 congr 1
theorem Gv (a:List ByteArray)(k:Nat)(b:k<a.length):iR (a.take (k+1))=iR (a.take k)+(4+a[k].size):=by
 unfold iR
 rw[aO b,dF,jK]
 simp
theorem Dy (a:List ByteArray)(k:Nat):iR (a.take k)<=iR a:=by
 have:iR a=iR (a.take k)+iR (a.drop k):=by unfold iR;rw[<-jK,<-dF,bM]
 omega
theorem Ob (v:Value)(c:List ByteArray)(S:Nat->Prop)(w:World)(n:qG w S v c)(t:iR c<=1000000000):
  Calls Tryz.prog 97 #[v] w fun e q=>e= .returned (.int .i64 (bZ (jF c)))/\q=w:=by
 obtain⟨C,E,rfl,y,A,B,G⟩:=bq.form n
 go_enter Tryz.func97,Tryz.ntmps97
 go_wp2_with fail
 go_loop [3,8] (fun s i=>∃k:Nat,k<=c.length/\i= .int .i64 k/\s= .int .i64 ((16+iR (c.take k):Nat):Int)) (fun _ i=>c.length - (intOf i).toNat)
 case atStart=>exact⟨0,aR _,rfl,rfl⟩
 case round=>
  obtain⟨k,D,rfl,rfl⟩:=hrel
  by_cases d:k<c.length
  ·have m:(k:Int)<(c.length:Int):=by omega
   obtain⟨b,o,rfl,F⟩:=qG.at n rfl k d
   have l:=Gv c k d
   have p:=Dy c (k+1)
   have r:IntKind.i64.wrap (4+(c[k].size:Int))=4+(c[k].size:Int):=aM _ (by omega)
   have g:IntKind.i64.wrap (((16+iR (c.take k):Nat):Int)+(4+(c[k].size:Int)))=((16+iR (c.take (k+1)):Nat):Int):=by rw[aM _ (by omega),l];omega
   obtain⟨a,f⟩:∃a:Nat,Hid (16+iR (c.take k)=a):=⟨_,ah rfl⟩
   rw[f.out] at g ⊢
   clear l
   go_wp2_with fail
   go_round
   case rel=>exact⟨k+1,by omega,by go_num,by first|rfl|rw[g]⟩
   case measure=>simp[intOf];omega
  ·obtain rfl:k=c.length:=by omega
   rw[bL]
   have j:=ah (show (((16+iR c:Nat):Int)+511)/512=(bZ (jF c):Int) by unfold bZ;rw[vU];omega)
   obtain⟨a,f⟩:∃a:Nat,Hid (16+iR c=a):=⟨_,ah rfl⟩
   have x:a<=2000000000:=by rw[<-f.out];omega
   rw[f.out] at j ⊢
   have r:IntKind.i64.wrap ((a:Int)+512)=(a:Int)+512:=aM _ (by omega)
   have g:IntKind.i64.wrap ((a:Int)+512 - 1)=(a:Int)+511:=by rw[aM _ (by omega)];omega
   go_wp2_with fail
   go_ret
   exact⟨congrArg (fun z=>Ending.returned (.int .i64 z)) j.out,rfl⟩
theorem yA:∀(x k:Nat),leB x (k+1)=leB x k++[b8 (x/256^k)]
 |x,0=>by simp[leB]
 |x,k+1=>by
  rw[leB,yA (x/256) k,leB,Wd,Fp,<-Nat.pow_succ']
theorem EZ (x:Nat):aF [b8 x]=[.int .u8 ((x:Int)%256)]:=by simp[aF,zR]
theorem LM (v:Value)(d:List UInt8)(x a B:Nat)(w:World)(F:aV w eG B 5 1 v d.length (aF d))(hB:B<=w.heap.size)(H:x<18446744073709551616)(O:a<=8)(Q:d.length<=1000000000):
  Calls Tryz.prog 157 #[v,.int .u64 x,.int .i64 a] w fun e A=>∃C,e= .returned C/\aV A eG B 5 1 C (d++leB x a).length (aF (d++leB x a))/\Below B w A:=by
 go_enter Tryz.func157,Tryz.ntmps157
 go_wp2_with fail
 go_loopw [0,1,8] (fun b n i wr=>∃(k y:Nat) (o:Option Addr) (c:Nat),k<=a/\i= .int .i64 k/\b= .slice o (d++leB x k).length c/\n= .int .u64 (y:Int)/\y<18446744073709551616/\Hid (x/256^k=y)/\aV wr eG B 5 1 b (d++leB x k).length (aF (d++leB x k))/\Below B w wr) (fun _ _ i _=>a - (intOf i).toNat)
 case atStart=>
  obtain⟨o,c,rfl,_,_,_,_⟩:=bq.form F.dM
  refine⟨0,x,o,c,aR _,rfl,?_,rfl,H,ah (by simp),?_,aJ _ _⟩
  ·simp[leB]
  ·simpa [leB] using F
 case round=>
  obtain⟨k,y,o,c,R,rfl,rfl,rfl,P,E,l,j⟩:=hrel
  by_cases I:k<a
  ·have D:(k:Int)<(a:Int):=by omega
   have m:=ah (show (d++leB x k).length=d.length+k by rw[aB,bI])
   have f:=ah (show (d++leB x (k+1)).length=(d++leB x k).length+1 by rw[aB,aB,bI,bI];rfl)
   obtain⟨n,z⟩:∃n,(d++leB x k).length=n:=⟨_,rfl⟩
   have K:=ah (show aF (d++leB x (k+1))=aF (d++leB x k)++[.int .u8 ((y:Int)%256)] by rw[yA,<-bA,fG (d++leB x k),EZ,E.out])
   rw[z] at l m f ⊢
   clear z
   have M:n<=1000000008:=by have:=m.out;omega
   have r:=j.size
   go_wp2_with (at_builtin;go_must ((refine dQ rfl (.tmp 10) (.tmp 13) 154 154 rfl eG B 5 1 1 (.int .u8 0) aU jl rfl (.slice o n c) _ _ rfl (l.below (aG _ _)) _ 1 _ rfl (iB [_] _ 1 1 1 rfl aU rfl ?_) (fun _ h=>h.elim) ?_ ?_ ?_ ?_);(focus (simp[Value.oneCell']));(focus (simp only[bD];omega));(focus (unfold maxLen;omega));(focus omega);intro t G N g s p q))
   have J:=ah g;clear g s q
   go_roundw
   case rel=>
    refine⟨k+1,y/256,t,G,by omega,by go_num,by rw[f.out],by go_num,by omega,ah (by rw[Ug,<-Fp,E.out]),?_,(j.trans (aG wr _|>.mono (aI hB r))).trans p⟩
    rw[f.out,K.out]
    simpa using J.out
   case measure=>simp[intOf];omega
  ·obtain rfl:k=a:=by omega
   go_wp2_with fail
   go_ret
   exact⟨_,rfl,l,j⟩
section
variable {P:Program}
theorem O0 (w:World)(B:Nat)(t C H e:TypeId)(i:TypeInfo)(z:Value)(k d:Nat)(K:P.underlying t=some (.slice e))(J:P.info? e=some i)(O:i.zero=some z)
  (j:i.size=k) (y:i.bytes=d) (F:z.cells.size=k) (s:Option Addr) (n:Nat) (l:List Value) (S:Nat->Prop) (I:bq w S k (.slice s n n) n l) (x:Value) (m:Nat) (a:List Value) (G:Src P k C x m a w)
  (R:0<m) (hB:B<=w.heap.size) (o:n+m<=maxLen) (f:(n+m)*d<=140737488355328):
  ∃p c E,(Builtin.append_ #[t,C] H #[.slice s n n,x]).run P w= .ok (.slice p (n+m) c) E/\aV E eG B e k (.slice p (n+m) c) (n+m) (l++a)/\Keep eG w E:=by
 subst j
 subst y
 have v:n+m<=9223372036854775807:=by simp only[maxLen] at o;omega
 have r:l.length=n*i.size:=by obtain⟨_,_,_,_,_,e,_⟩:=I;exact e
 have b:(l++a).length=(n+m)*i.size:=by rw[aB,r,G.newsLen,fB]
 have A:=QZ w (n+m) n e
 have D:grownCap w (n+m) n e<=maxLen:=tT w (n+m) n e o
 have q:(Builtin.firstCells i.size n (.slice s n n)).run P w.drew= .ok l.toArray w.drew:=by
  have:=(I.below (aJ _ _).drew).first (P:=P) n (aC _)
  rwa [aL (eO r)] at this
 have N:=rT (P:=P) w t C H e i z K J O s n n l q x m a G (by omega) (by omega) (vL (by omega) f)
 refine⟨_,_,_,N,⟨⟨b,.inr ⟨w.heap.size,_,_,rfl,hB,aH w.drew _,A,D,?_,?_⟩⟩,fun g Q M=>M.elim⟩,(Keep.refl _ w).drew.alloc _⟩
 ·simp only[Array.size_append,pz,b,QY,F,<-fB]
  congr 1
  omega
 ·simp only[NV]
  rw[<-b]
  exact jc
theorem Fy {q:Array Oper}{j:List Oper}{o:Oper}{a:Act}{w:World}{Q:Exit->Act->World->Prop}(D:o.guard=none)(s y:Operand)(t E:TypeId)(M:o.op= .call {callee:= .builtin .append,args:=#[s,y],argTypes:=#[t,E]})
  (B:Nat) (e:TypeId) (k b:Nat) (z:Value) (O:P.underlying t=some (.slice e)) (l:(P.info? e).map (fun i=>(i.zero,i.size,i.bytes))=some (some z,k,b)) (G:z.cells.size=k)
  (C:Option Addr) (n:Nat) (F:List Value) (S:Nat->Prop) (X:a.eval s= .slice C n n) (H:bq w S k (.slice C n n) n F) (x:Value) (m:Nat) (d:List Value) (I:a.eval y=x) (K:Src P k E x m d w)
  (T:0<m) (hB:B<=w.heap.size) (A:n+m<=maxLen) (g:(n+m)*b<=140737488355328)
  (h:∀f c r,aV r eG B e k (.slice f (n+m) c) (n+m) (F++d)->Keep eG w r->wpList P q Q j (a.put o.dst (.slice f (n+m) c)) r):wpList P q Q (o::j) a w:=by
 refine wpList_plain D fun _ V=> ?_
 obtain⟨i,N,W,p,v⟩:=xC l
 obtain⟨f,c,r,R,J,Y⟩:=O0 (P:=P) w B t E o.type e i z k b O N W p v G C n F S H x m d K T hB A g
 unfold Oper.wp execOp
 simp only[M,resolve,invoke,builtin,lU,Az,ja,wm,eP,oz,X,I,R]
 exact V _ _ (h f c r J Y)
end
theorem LK (p:Option Addr)(d:List UInt8)(x a:Nat)(w:World)(P:bq w eG 1 (.slice p d.length d.length) d.length (aF d))(K:x<18446744073709551616)(N:0<a)(T:a<=8)(W:d.length<=1000000000):
  Calls Tryz.prog 157 #[.slice p d.length d.length,.int .u64 x,.int .i64 a] w fun e G=>∃H,e= .returned H/\aV G eG w.heap.size 5 1 H (d++leB x a).length (aF (d++leB x a))/\Below w.heap.size w G:=by
 go_enter Tryz.func157,Tryz.ntmps157
 go_wp2_with fail
 go_loopw [0,1,8] (fun b n i wr=>∃(k y:Nat) (s:Option Addr) (c:Nat),k<=a/\i= .int .i64 k/\b= .slice s (d++leB x k).length c/\n= .int .u64 (y:Int)/\y<18446744073709551616/\Hid (x/256^k=y)/\Hid ((k=0/\wr=w/\s=p/\c=d.length)\/(0<k/\aV wr eG w.heap.size 5 1 b (d++leB x k).length (aF (d++leB x k))))/\Below w.heap.size w wr) (fun _ _ i _=>a - (intOf i).toNat)
 case atStart=>exact⟨0,x,p,d.length,aR _,rfl,by simp[leB],rfl,K,ah (by simp),ah (.inl ⟨rfl,rfl,rfl,rfl⟩),aJ _ _⟩
 case round=>
  obtain⟨k,y,s,c,X,rfl,rfl,rfl,V,C,l,m⟩:=hrel
  by_cases O:k<a
  ·have I:(k:Int)<(a:Int):=by omega
   rcases l.out with ⟨rfl,rfl,rfl,rfl⟩|⟨Q,j⟩
   ·have R:d++leB x 0=d:=by simp[leB]
    rw[R]
    have v:x=y:=by simpa using C.out
    subst v
    have D:=ah (show aF (d++leB x 1)=aF d++[.int .u8 ((x:Int)%256)] by rw[yA,<-bA,fG,EZ];simp[leB])
    have f:=ah (show (d++leB x 1).length=d.length+1 by rw[aB,bI])
    go_wp2_with (at_builtin;go_must ((refine Fy rfl (.tmp 10) (.tmp 13) 154 154 rfl wr.heap.size 5 1 1 (.int .u8 0) aU jl rfl s d.length _ eG rfl (P.below (aG _ _)) _ 1 _ rfl (iB [_] _ 1 1 1 rfl aU rfl ?_) (by omega) ?_ ?_ ?_ ?_);(focus (simp[Value.oneCell']));(focus (simp only[bD];omega));(focus (unfold maxLen;omega));(focus omega);intro r t M g o))
    have E:=ah g;have J:=ah ((aG wr _).trans (o.below.mono (by simp)));clear g o
    go_roundw
    case rel=>
     refine⟨1,x/256,r,t,by omega,by go_num,by rw[f.out],by go_num,by omega,ah (by simp),ah (.inr ⟨by omega,?_⟩),J.out⟩
     rw[f.out,D.out]
     simpa using E.out
    case measure=>simp[intOf];omega
   ·have l:=j;clear j
    have q:=ah (show (d++leB x k).length=d.length+k by rw[aB,bI])
    have f:=ah (show (d++leB x (k+1)).length=(d++leB x k).length+1 by rw[aB,aB,bI,bI];rfl)
    obtain⟨n,F⟩:∃n,(d++leB x k).length=n:=⟨_,rfl⟩
    have D:=ah (show aF (d++leB x (k+1))=aF (d++leB x k)++[.int .u8 ((y:Int)%256)] by rw[yA,<-bA,fG (d++leB x k),EZ,C.out])
    rw[F] at l q f ⊢
    clear F
    have S:n<=1000000008:=by have:=q.out;omega
    have B:=m.size
    go_wp2_with (at_builtin;go_must ((refine dQ rfl (.tmp 10) (.tmp 13) 154 154 rfl eG w.heap.size 5 1 1 (.int .u8 0) aU jl rfl (.slice s n c) _ _ rfl (l.below (aG _ _)) _ 1 _ rfl (iB [_] _ 1 1 1 rfl aU rfl ?_) (fun _ h=>h.elim) ?_ ?_ ?_ ?_);(focus (simp[Value.oneCell']));(focus (simp only[bD];omega));(focus (unfold maxLen;omega));(focus omega);intro r t M g o z A))
    have E:=ah g;clear g o A
    go_roundw
    case rel=>
     refine⟨k+1,y/256,r,t,by omega,by go_num,by rw[f.out],by go_num,by omega,ah (by rw[Ug,<-Fp,C.out]),ah (.inr ⟨by omega,?_⟩),(m.trans (aG wr _|>.mono B)).trans z⟩
     rw[f.out,D.out]
     simpa using E.out
    case measure=>simp[intOf];omega
  ·obtain rfl:k=a:=by omega
   obtain⟨_,j⟩:=l.out.resolve_left (by omega)
   go_wp2_with fail
   go_ret
   exact⟨_,rfl,j,m⟩
theorem RP (m a t:Nat)(d:a<256)(f:t=a+256*m)(e:t<18446744073709551616):bits .or .u64 (256*m:Nat) (a:Int)=(t:Int):=by
 unfold bits
 have c:(BitVec.ofInt 64 ((256*m:Nat):Int)|||BitVec.ofInt 64 (a:Int)).toNat=t:=by
  rw[kL,kL,IG,jg,jg,jY (by omega),jY (by omega)]
  have:=pu (i:=8) (b:=a) (by omega) m
  rw[show (256:Nat)=2^8 from rfl,<-this]
  omega
 show IntKind.u64.wrap (((BitVec.ofInt 64 ((256*m:Nat):Int)|||BitVec.ofInt 64 (a:Int)).toNat:Nat):Int)=t
 rw[c]
 simp[IntKind.wrap,IntKind.bits,IntKind.signed]
 omega
theorem KT:∀l:List UInt8,rO l<256^l.length
 |[]=>by simp[rO]
 |b::l=>by
  have:=KT l
  have a:=b.toNat_lt
  rw[rO,aZ,Ug]
  omega
theorem LQ (v:Value)(d:List UInt8)(c:Nat)(S:Nat->Prop)(w:World)(F:fA w S v d)(N:c<=d.length)(M:c<=8):
  Calls Tryz.prog 322 #[v,.int .i64 c] w fun e I=>e= .returned (.int .u64 (rO (d.take c)))/\I=w:=by
 obtain⟨R,X,rfl,O,P,Q,W⟩:=bq.form F
 have G:IntKind.i64.wrap ((c:Int) - 1)=(c:Int) - 1:=aM _ (by omega)
 go_enter Tryz.func322,Tryz.ntmps322
 go_wp2_with fail
 go_loop [5,6] (fun n i=>∃(k:Nat) (z:Int) (y:Nat),k<=c/\z+1=k/\i= .int .i64 z/\n= .int .u64 (y:Int)/\Hid (rO ((d.take c).drop k)=y)) (fun _ i=>(intOf i+1).toNat)
 case atStart=>exact⟨c,_,0,aC _,by omega,rfl,rfl,ah (by rw[List.drop_eq_nil_of_le (by simp;omega)];rfl)⟩
 case round=>
  obtain⟨k,z,y,T,V,rfl,rfl,D⟩:=hrel
  rcases Ra k with q|q
  ·subst q
   obtain rfl:z= -1:=by omega
   go_wp2_with fail
   go_ret
   refine⟨?_,rfl⟩
   rw[<-D.out,dY]
   rfl
  ·obtain⟨j,rfl⟩:∃j,k=j+1:=⟨k - 1,by omega⟩
   obtain rfl:z=(j:Int):=by omega
   have H:j<d.length:=by omega
   have J:(j:Int)<(d.length:Int):=by omega
   obtain⟨b,o,rfl,K⟩:=fA.at F rfl j H
   have r:j<(d.take c).length:=by rw[aQ];omega
   have C:(d.take c).drop j=d[j]::(d.take c).drop (j+1):=by
    rw[dB r,ul]
   have f:rO ((d.take c).drop j)=d[j].toNat+256*y:=by rw[C,rO,D.out]
   have l:=KT ((d.take c).drop j)
   have s:((d.take c).drop j).length<=8:=by simp;omega
   have g:rO ((d.take c).drop j)<18446744073709551616:=aA l (aI (Nat.pow_le_pow_right (by omega) s) (by omega))
   have m:=d[j].toNat_lt
   obtain⟨t,B⟩:∃t:Nat,Hid (rO ((d.take c).drop j)=t):=⟨_,ah rfl⟩
   obtain⟨a,A⟩:∃a:Nat,a=d[j].toNat:=⟨_,rfl⟩
   rw[<-A] at f m K
   rw[B.out] at f g
   have p:=RP y a t m f g
   have x:=ah p
   have E:=ah (show IntKind.u64.wrap ((y:Int)*256)=((256*y:Nat):Int) by simp[IntKind.wrap,IntKind.bits,IntKind.signed];omega)
   clear l C A p f
   go_wp2_with fail
   go_round
   case rel=>exact⟨j,(j:Int) - 1,t,by omega,by omega,by go_num,by rw[E.out,x.out],B⟩
   case measure=>simp[intOf]
theorem Keep.oO {B:Nat}{w a:World}(h:Below B w a):Keep (fun g=>B<=g) w a:=⟨h.os,h.tape,h.output,h.size,fun k _ b=>h.block k (jX.1 b)⟩
theorem Step.Xp {A a B:Nat->Prop}{w e:World}(h:Step A a w e)(d:∀g,A g->¬B g)(hB:∀g,B g->g<w.heap.size):∀g,a g->¬B g:=fun g c b=>
 (h.2 g c).elim (fun x=>d g x b) (fun x=>absurd (hB g b) (aX.2 x))
theorem Step.or {A a:Nat->Prop}{w b:World}(h:Step A a w b)(B:Nat->Prop):Step (fun g=>A g\/B g) (fun g=>a g\/B g) w b:=
 ⟨h.1.mono (fun _ _ x=> .inl x),fun g c=>c.elim (fun x=>(h.2 g x).elim (fun y=> .inl (.inl y)) .inr) (fun x=> .inl (.inr x))⟩
structure gK (w:World)(Sd Sl:Nat->Prop)(lg d:Nat)(σ:Dk)(l:Lg):Prop where
 dk:qL w Sd d σ
 lg:sP w Sl lg d l
 dis:∀g,Sd g->¬Sl g
 fit:l.frm+l.n<=σ.n
theorem gK.keep {w w':World}{a b M:Nat->Prop}{f d:Nat}{c:Dk}{l:Lg}(h:gK w a b f d c l)(e:Keep M w w')(i:∀g,a g->¬M g)(j:∀g,b g->¬M g):gK w' a b f d c l:=
 ⟨h.dk.keep e i,h.lg.keep e j,h.dis,h.fit⟩
theorem gK.below {w w':World}{b f:Nat->Prop}{c d:Nat}{a:Dk}{l:Lg}(h:gK w b f c d a l)(g:Below w.heap.size w w'):gK w' b f c d a l:=
 h.keep (Keep.of_below g eG) (fun _ _ e=>e) (fun _ _ e=>e)
def Two (Sd Sl Sd' Sl':Nat->Prop)(w w':World):Prop:=Step (fun g=>Sd g\/Sl g) (fun g=>Sd' g\/Sl' g) w w'
theorem gK.disk {w e:World}{f a c:Nat->Prop}{m d:Nat}{k b:Dk}{l:Lg}(h:gK w f c m d k l)(n:qL e a d b)(i:Step f a w e)(p:b.n=k.n):gK e a c m d b l/\Two f c a c w e:=
 ⟨⟨n,h.lg.keep i.1 (fun g o j=>h.dis g j o),i.Xp h.dis h.lg.sub,by rw[p];exact h.fit⟩,i.or c⟩
theorem gK.log {w e:World}{f i a:Nat->Prop}{k d:Nat}{o:Dk}{l b:Lg}(h:gK w f i k d o l)(q:sP e a k d b)(c:Step i a w e)(p:b.frm=l.frm/\b.n=l.n):gK e f a k d o b/\Two f i f a w e:=by
 refine⟨⟨h.dk.keep c.1 h.dis,q,fun g r j=>c.Xp (fun g m n=>h.dis g n m) h.dk.sub g j r,by rw[p.1,p.2];exact h.fit⟩,?_⟩
 exact⟨c.1.mono (fun _ _ x=> .inr x),fun g m=>m.elim (fun x=> .inl (.inl x)) (fun x=>(c.2 g x).elim (fun y=> .inl (.inr y)) .inr)⟩
theorem Two.trans {a b c:World}{A B f g d e:Nat->Prop}(h:Two A B f g a b)(k:Two f g d e b c):Two A B d e a c:=Step.trans h k
theorem Two.of_below {A B:Nat->Prop}{w a:World}(h:Below w.heap.size w a):Two A B A B w a:=Step.of_below h
theorem Two.refl (A B:Nat->Prop)(w:World):Two A B A B w w:=Step.refl _ _
theorem Dk.pV (a:Dk)(i:Int)(l:List UInt8):(a.write i l).1.n=a.n:=by
 unfold Dk.write
 have:=a.dh.1
 split
 ·rfl
 ·split
  ·rfl
  ·split
   ·rfl
   ·split<;>exact this
theorem Dk.nD (a:Dk):a.sync.1.n=a.n:=by
 unfold Dk.sync
 have:=a.dh.1
 split
 ·rfl
 ·split<;>exact this
theorem oD.table {w i:World}{S:Nat->Prop}{b d:Nat}{l:Lg}{j:Value}{n a:Bool}{c m:Int}(h:oD w S b d l j n c)(o:Row i b 288 (gH (gm d l j) a m []))(k:Keep (· =b) w i):oD i S b d l j a m:=
 ⟨h.ok,fun g e=>aA (h.sub g e) k.size,h.sl,o,fun f=>(h.lst f).keep fun g e=>k.block g (h.sub _ (h.slv f g e).1) (h.slv f g e).2,h.slv⟩
def Lg.fields (l:Lg):List Nat:=[l.frm,l.n,l.start,l.first,l.synced]
def Lg.qy (l:Lg)(k:Nat):List UInt8:=magic++(l.fields.take k).flatMap (fun x=>leB x 8)
theorem Lg.J5 (l:Lg):l.qy 0=magic:=by unfold Lg.qy;simp
theorem Lg.J7 (l:Lg):l.qy 5=l.lG:=by unfold Lg.qy Lg.lG Lg.fields;simp
theorem Lg.J6 (l:Lg)(k:Nat)(a:k<5):l.qy (k+1)=l.qy k++leB (l.fields.getD k 0) 8:=by
 unfold Lg.qy
 rw[aO (show k<l.fields.length from a),nK,bA,List.flatMap_singleton,fE,bB (show k<l.fields.length from a)]
 rfl
theorem Lg.yE (l:Lg)(k:Nat)(b:k<=5):(l.qy k).length=12+8*k:=by
 unfold Lg.qy
 have e:∀L:List Nat,(L.flatMap (fun x=>leB x 8)).length=8*L.length:=fun L=>by
  induction L with
  |nil=>rfl
  |cons a L ih=>rw[fK,aB,ih,bI,aZ];omega
 rw[aB,e,aQ]
 have:l.fields.length=5:=rfl
 rw[this,dx b]
 rfl
theorem Lg.Ok.first {l:Lg}(h:l.Ok):l.first<=l.last+1:=by
 unfold Lg.first
 have:=h.ent
 split
 ·exact aC _
 ·rename_i e r a
  have:=(h.ent e (by rw[a];exact aY ..)).2
  omega
theorem Lg.Ok.fields {l:Lg}(h:l.Ok):∀x∈l.fields,x<=2000000000000:=by
 have:=h.n2;have:=h.hi;have:=h.st;have:=h.la;have:=h.sy;have:=h.first
 intro x a
 simp only[Lg.fields,aW,bQ,fJ] at a
 omega
def Bc (L:List Nat):List Value:=L.map fun (x:Nat)=>Value.int .u64 (x:Int)
theorem aV.other {w:World}{S S':Nat->Prop}{B e k n:Nat}{v:Value}{a:List Value}(h:aV w S B e k v n a)(c:∀g,B<=g->¬S' g):aV w S' B e k v n a:=⟨h.1,fun g b=>c g (h.1.lt g b).1⟩
theorem fU (x:Nat)(h:x<18446744073709551616):IntKind.u64.wrap (x:Int)=(x:Int):=by simp[IntKind.wrap,IntKind.bits,IntKind.signed];omega
theorem Oc (o d:Nat)(A:Dk)(l:Lg)(V G:Nat->Prop)(w:World)(h:gK w V G o d A l)(nD:l.dead=false)(ol:A.waits.length<=100000):
  Calls Tryz.prog 152 #[.pointer (some ⟨o,0,none⟩)] w fun e w'=>e= .returned (.int .i64 (l.mark A).2.2)/\∃kz l7,gK w' kz l7 o d (l.mark A).1 (l.mark A).2.1/\Two V G kz l7 w w':=by
 have hL:=h.lg
 obtain⟨lv,dn,c,hL⟩:=hL
 obtain⟨c0,c1,c2,c3,c4,c5,c6,c7,c8,B,mr⟩:=hL.cells
 have qy:=hL.ok
 have hf:=qy.fields
 have q0:=fU l.frm (by have:=hf l.frm (by simp[Lg.fields]);omega)
 have q1:=fU l.n (by have:=hf l.n (by simp[Lg.fields]);omega)
 have q2:=fU l.start (by have:=hf l.start (by simp[Lg.fields]);omega)
 have q3:=fU l.first (by have:=hf l.first (by simp[Lg.fields]);omega)
 have q4:=fU l.synced (by have:=hf l.synced (by simp[Lg.fields]);omega)
 have rf:=fun (w:World) (C:Array Value) (n c:Nat)=>Lib.run_convert_bytes_const (P:=Tryz.prog) w 154 5 C n c aU dX
 clear hf c4 c5 c6 c8
 obtain⟨H,dM⟩:∃H:World,Hid (w.alloc (.cells #[.int .u8 100,.int .u8 111,.int .u8 99,.int .u8 107,.int .u8 101,.int .u8 116,.int .u8 32,.int .u8 108,.int .u8 111,.int .u8 103,.int .u8 32,.int .u8 49] 5 (12,13))=H):=⟨_,ah rfl⟩
 have I:Below w.heap.size w H:=by rw[<-dM.out];exact aG w _
 have qc:bq H eG 1 (.slice (some ⟨w.heap.size,0,none⟩) 12 12) 12 (aF magic):=by
  rw[<-dM.out]
  refine⟨_,12,rfl,aC _,by simp[maxLen],rfl,(fun e=>by cases e),fun ad nN=>by cases nN;exact⟨rfl,by simp,id⟩,fun j u hu=>⟨_,_,rfl,?_⟩⟩
  rw[fZ]
  exact(Q0 _ _ j _ _ (12,13) (aH w _)).trans ((List.getElem?_toArray ..).trans hu)
 have hS:∀W:World,Below w.heap.size w W->W.cell? ⟨o,0,none⟩=some (.pointer (some ⟨d,0,none⟩))/\W.cell? ⟨o,1,none⟩=some (.int .i64 l.frm)/\W.cell? ⟨o,2,none⟩=some (.int .i64 l.n)/\W.cell? ⟨o,3,none⟩=some (.int .i64 l.start)/\W.cell? ⟨o,7,none⟩=some (.int .i64 l.synced)/\o<W.heap.size:=fun W s=>
  ⟨(s.cell (p:=⟨o,0,none⟩) B).trans c0,(s.cell (p:=⟨o,1,none⟩) B).trans c1,(s.cell (p:=⟨o,2,none⟩) B).trans c2,(s.cell (p:=⟨o,3,none⟩) B).trans c3,(s.cell (p:=⟨o,7,none⟩) B).trans c7,aA B s.size⟩
 have HS:=ah hS;clear hS c0 c1 c2 c3 c7
 go_enter Tryz.func152,Tryz.ntmps152
 go_wp2_with fail
 rw[dM.out]
 refine aP (fun W=>Below w.heap.size w W) (fun i=> !([16,23].contains i)) [0,1,2,3,4,5,6,7,8,9,10,11,12,13,14,15,18,19,20,21,22,25,16,17,23,24] rfl (by kernel_rfl) I.drew ?_
 repeat ((refine bE (v:= ?_) rfl rfl (fun _ _ _ h=>h) rfl (fun W s=> ?_) ?_);rotate_left;(focus ((try dsimp only at s);obtain⟨r0,r1,r2,r3,r7,rl⟩:=HS.out W s;(go_simp;first|done|with_reducible rfl)));(try simp only[Act.put,ak,ay,ax]))
 refine bT rfl rfl rfl ?_;intro K hK;go_simp
 refine(Ur o d l G H.drew (h.lg.keep (Keep.of_below I.drew eG) (fun _ _ e=>e)) nD).mono ?_;rintro e M ⟨rfl,r9⟩;subst M
 refine hK.out _ _ I.drew ?_
 repeat ((refine bE (v:= ?_) rfl rfl (fun _ _ _ h=>h) rfl (fun W s=> ?_) ?_);rotate_left;(focus ((try dsimp only at s);obtain⟨r0,r1,r2,r3,r7,rl⟩:=HS.out W s;(go_simp;first|done|with_reducible rfl)));(try simp only[Act.put,ak,ay,ax]))
 refine bT rfl rfl rfl ?_;intro K hK;go_simp
 obtain⟨z,ai⟩:∃z:World,Hid ((H.alloc (.cells #[.int .u64 l.frm,.int .u64 l.n,.int .u64 l.start,.int .u64 l.first,.int .u64 l.synced] 292)).drew=z):=⟨_,ah rfl⟩
 have N:Below H.heap.size H z:=by rw[<-ai.out];exact(aG H _).drew
 have E:=I.trans (N.mono I.size)
 have ql:Row z H.heap.size 292 (Bc l.fields):=by rw[<-ai.out];exact Row.new H (Bc l.fields) _
 have l9:=ah (qc.below N)
 rw[ai.out]
 refine hK.out _ _ E ?_
 repeat ((refine bE (v:= ?_) rfl rfl (fun _ _ _ h=>h) rfl (fun W s=> ?_) ?_);rotate_left;(focus ((try dsimp only at s);obtain⟨r0,r1,r2,r3,r7,rl⟩:=HS.out W s;(go_simp;first|done|with_reducible rfl)));(try simp only[Act.put,ak,ay,ax]))
 refine bN ?_
 go_wp2_with fail
 go_loopw [3,34] (fun b i wr=>∃(k:Nat) (ao:Option Addr) (cc:Nat),k<=5/\i= .int .i64 k/\b= .slice ao (12+8*k) cc/\Hid ((k=0/\wr=z/\ao=some ⟨w.heap.size,0,none⟩/\cc=12)\/(0<k/\aV wr eG z.heap.size 5 1 b (12+8*k) (aF (l.qy k))))/\Below z.heap.size z wr) (fun _ i _=>5 - (intOf i).toNat)
 case atStart=>exact⟨0,_,12,by omega,rfl,rfl,ah (.inl ⟨rfl,rfl,rfl,rfl⟩),aJ _ _⟩
 case round=>
  obtain⟨k,ao,cc,hk,rfl,rfl,qb,t⟩:=hrel
  by_cases p9:k<5
  ·have oo:(k:Int)<5:=by omega
   have av:k<l.fields.length:=p9
   obtain⟨x,HX⟩:∃x,Hid (l.fields.getD k 0=x):=⟨_,ah rfl⟩
   have hx:x<18446744073709551616:=by have:=qy.fields x (by rw[<-HX.out,fE,bB av];exact bJ av);omega
   have vk:wr.cell? ⟨H.heap.size,k,none⟩=some (.int .u64 (x:Int)):=by
    have e1:z.cell? ⟨H.heap.size,k,none⟩=some (.int .u64 (x:Int)):=by
     rw[ql.cell,<-HX.out]
     unfold Bc
     rw[dL,fE,bB av]
     rfl
    exact(t.cell (p:=⟨H.heap.size,k,none⟩) ql.lt).trans e1
   have HH:=ah (l.J6 k p9)
   have lG:=l.yE k (by omega)
   have mD:=l.yE (k+1) (by omega)
   rcases qb.out with ⟨rfl,rfl,rfl,rfl⟩|⟨tY,f⟩
   ·have HP:=ah (LK (some ⟨w.heap.size,0,none⟩) magic x 8 wr l9.out hx (by omega) (by omega) (by simp[magic]))
    go_wp2_with (go_at_call 157;go_must (refine HP.out.mono ?_;rintro e w3 ⟨v3,rfl,m,qm⟩))
    have a:aV w3 eG wr.heap.size 5 1 v3 (12+8*1) (aF (l.qy 1)):=by
     rw[HH.out,HX.out,l.J5]
     exact m
    obtain⟨di,c3,rfl,_,_,_,_⟩:=bq.form a.dM
    have HO:=ah a;clear m a
    go_roundw
    case rel=>exact⟨1,di,c3,by omega,rfl,rfl,ah (.inr ⟨by omega,HO.out⟩),qm⟩
    case measure=>simp[intOf]
   ·have S:aV wr eG z.heap.size 5 1 (.slice ao (12+8*k) cc) (l.qy k).length (aF (l.qy k)):=by rw[lG];exact f
    have HP:=ah (LM (.slice ao (12+8*k) cc) (l.qy k) x 8 z.heap.size wr S t.size hx (by omega) (by rw[lG];omega))
    clear f S
    go_wp2_with (go_at_call 157;go_must (refine HP.out.mono ?_;rintro e w3 ⟨v3,rfl,m,qm⟩))
    have a:aV w3 eG z.heap.size 5 1 v3 (12+8*(k+1)) (aF (l.qy (k+1))):=by
     rw[<-mD,HH.out,HX.out]
     exact m
    obtain⟨di,c3,rfl,_,_,_,_⟩:=bq.form a.dM
    have HO:=ah a;clear m a
    go_roundw
    case rel=>exact⟨k+1,di,c3,by omega,by go_num,rfl,ah (.inr ⟨by omega,HO.out⟩),t.trans qm⟩
    case measure=>simp[intOf];omega
  ·obtain rfl:k=5:=by omega
   obtain⟨_,f⟩:=qb.out.resolve_left (by omega)
   rw[l.J7,show 12+8*5=52 from rfl] at f
   rw[show 12+8*5=52 from rfl]
   have af:Below w.heap.size w wr:=E.trans (t.mono E.size)
   have eH:=hL.keep (Keep.of_below af eG) (fun _ _ e=>e)
   have og:o<z.heap.size:=aA B E.size
   have R:l.lG.length=52:=l.og
   have j5:=AO (gm d l lv) [] o 9 288 dn c (.slice ao 52 cc) l.lG (fun g=>g=o) wr rfl eH.row (by rw[R];exact(f.other (S':=fun g=>g=o) (fun g y e=>by omega)).dM) rfl
   have ko:=ah j5;clear j5
   obtain⟨sN,qo⟩:∃sN,Hid (wU l.lG=sN):=⟨_,ah rfl⟩
   have rq:sN<4294967296:=by rw[<-qo.out];exact xO _
   have qs:=fU sN (by omega)
   have j3:tL l.lG=(sN:Int):=by rw[tK,qo.out]
   rw[j3] at ko
   go_wp2_with (first
    |(go_at_call 158;go_must (refine ko.out.mono ?_;rintro e w3 ⟨rfl,c',fo,T⟩;refine Stop.of ?_)))
   refine Stop.on ?_
   have lq:=eH.table fo T
   have m:aV w3 eG z.heap.size 5 1 (.slice ao 52 cc) l.lG.length (aF l.lG):=by
    rw[R]
    exact f.keep fun g y hl _=>⟨T.block g hl (fun e=>by have:=(f.1.lt g y).1;omega),id⟩
   have HP:=ah (LM _ l.lG sN 4 z.heap.size w3 m (aI t.size T.size) (by omega) (by omega) (by rw[R];omega))
   clear m f fo qc
   go_wp2_with (first
    |(go_at_call 157;go_must (refine HP.out.mono ?_;rintro e M ⟨v4,rfl,F,d9⟩;refine Stop.of ?_)))
   refine Stop.on ?_
   have nk:l.lG++leB sN 4=l.d9:=by rw[<-qo.out];rfl
   rw[nk] at F
   have q9:∀g,(V g\/G g)->¬z.heap.size<=g:=fun g y=>by
    have h1:=E.size
    rcases y with y|y
    ·have:=h.dk.sub g y;omega
    ·have:=hL.sub g y;omega
   have bg:=lq.keep (Keep.oO d9) (fun g y=>q9 g (.inr y))
   have D:Keep (fun g=>G g\/z.heap.size<=g) w M:=((Keep.of_below af (fun g=>G g\/z.heap.size<=g)).trans T (fun g _ e=> .inl (e▸hL.sl))).trans (Keep.oO d9) (fun _ _ e=> .inr e)
   have q8:qL M V d A:=h.dk.keep D (fun g y e=>e.elim (h.dis g y) (q9 g (.inl y)))
   have kC:gK M V G o d A l:=⟨q8,⟨_,_,_,bg⟩,h.dis,h.fit⟩
   have iO:Two V G V G w M:=by
    refine⟨⟨D.os,D.tape,D.output,D.size,fun g y hn=>D.block g y (fun e=>e.elim (fun x=>hn (.inr x)) (fun x=> ?_))⟩,fun _ y=> .inl y⟩
    have:=E.size;omega
   have jv:bq M V 1 v4 l.d9.length (aF l.d9):=(F.other (S':=V) (fun g y hs=>q9 g (.inl hs) y)).dM
   obtain⟨d0,d1,_,_,_,_,_,_,_,l5,_⟩:=bg.cells
   have HW:=ah (EQ d A V (l.frm:Int) v4 l.d9 M.drew (q8.below ((aJ _ M).drew)) (jv.below ((aJ _ M).drew)) (by omega))
   have ng:=ah kC;have mo:=ah iO
   obtain⟨J,q,HQ⟩:∃J q,Hid (A.write (l.frm:Int) l.d9=(J,q)):=⟨_,_,ah rfl⟩
   have pV:J.n=A.n:=by have:=A.pV (l.frm:Int) l.d9;rw[HQ.out] at this;exact this
   have j4:J.waits.length<=1000000:=by
    have h1:=A.dh.2.2
    have:(A.write (l.frm:Int) l.d9).1.waits.length<=A.waits.length+1:=by
     unfold Dk.write
     split
     ·exact pU _
     ·split
      ·exact pU _
      ·split
       ·exact pU _
       ·split
        ·rw[h1];exact pU _
        ·simp[Dk.put,h1]
    rw[HQ.out] at this
    show J.waits.length<=1000000
    have h2:J.waits.length<=A.waits.length+1:=this
    omega
   rw[HQ.out] at HW
   clear lq bg eH F D q8 kC iO jv af t T d9 N I E ql HP qy mr
   have HN:=ah pV;clear pV
   go_wp2_with fail
   refine aP (fun W=>W.cell? ⟨o,0,none⟩=some (.pointer (some ⟨d,0,none⟩))/\W.cell? ⟨o,1,none⟩=some (.int .i64 l.frm)/\o<W.heap.size) (fun i=> !([9].contains i)) [0,1,2,3,4,5,6,7,8,9,10] rfl (by kernel_rfl) ⟨d0,d1,l5⟩ ?_
   repeat ((refine bE (v:= ?_) rfl rfl (fun _ _ _ h=>h) rfl (fun W s=> ?_) ?_);rotate_left;(focus ((try dsimp only at s);have r0:=s.1;have r1:=s.2.1;have r2:=s.2.2;(go_simp;first|done|with_reducible rfl)));(try simp only[Act.put,ak,ay,ax]))
   refine bT rfl rfl rfl ?_;intro K hK;go_simp
   refine HW.out.mono ?_;rintro e w5 ⟨rfl,Y,jb,j6⟩
   have Z:=ng.out.disk jb ((Step.of_below ((aJ _ M).drew)).trans j6) HN.out
   have X:=ah Z.1;have qf:=ah (mo.out.trans Z.2)
   obtain⟨o5,oO,sW,nY⟩:=Z.1.lg
   obtain⟨e0,e1,_,_,_,_,_,_,_,qO,_⟩:=nY.cells
   clear Z jb j6 d0 d1 HW
   refine hK.out _ _ ⟨e0,e1,qO⟩ ?_
   repeat ((refine bE (v:= ?_) rfl rfl (fun _ _ _ h=>h) rfl (fun W s=> ?_) ?_);rotate_left;(focus ((try dsimp only at s);have r0:=s.1;have r1:=s.2.1;have r2:=s.2.2;(go_simp;first|done|with_reducible rfl)));(try simp only[Act.put,ak,ay,ax]))
   refine bN ?_
   by_cases hq:q=0
   ·subst hq
    have HF:=ah (ER d J Y w5 X.out.dk j4)
    obtain⟨ρ,r,HR⟩:∃ρ r,Hid (J.sync=(ρ,r)):=⟨_,_,ah rfl⟩
    have nH:=ah (show ρ.n=J.n by have:=J.nD;rw[HR.out] at this;exact this)
    rw[HR.out] at HF
    go_wp2_with (first
     |(go_at_call 151;go_must (refine HF.out.mono ?_;rintro e w6 ⟨rfl,l6,kD⟩;refine Stop.of ?_)))
    refine Stop.on ?_
    have O:=X.out.disk l6 kD nH.out
    by_cases hr:r=0
    ·subst hr
     have HM:=ah (show l.mark A=(ρ,l,0) by unfold Lg.mark;rw[HQ.out];simp only[jQ];rw[HR.out];simp)
     go_wp2_with (first
      |(go_at_call 160;go_must (refine(Oj o _).mono ?_;rintro e w7 ⟨rfl,vo⟩;subst w7)))
     go_ret
     rw[HM.out]
     exact⟨rfl,Y,G,O.1,qf.out.trans O.2⟩
    ·have HM:=ah (show l.mark A=(ρ,l.dies,10) by unfold Lg.mark;rw[HQ.out];simp only[jQ];rw[HR.out];simp[hr])
     have eZ:=ah (vN o d l G r w6 O.1.lg hr)
     have lH:=ah O;clear O l6 kD
     go_wp2_with (first
      |(go_at_call 160;go_must (refine eZ.out.mono ?_;rintro e w7 ⟨rfl,bf,qC⟩)))
     go_ret
     rw[HM.out]
     have Q:=lH.out.1.log bf qC ⟨rfl,rfl⟩
     exact⟨rfl,Y,G,Q.1,(qf.out.trans lH.out.2).trans Q.2⟩
   ·have HM:=ah (show l.mark A=(J,l.dies,10) by unfold Lg.mark;rw[HQ.out];simp[hq])
    have eZ:=ah (vN o d l G q w5 X.out.lg hq)
    have sF:(q !=0)=true:=by simpa using hq
    go_wp2_with (first
     |(go_at_call 160;go_must (refine eZ.out.mono ?_;rintro e w7 ⟨rfl,bf,qC⟩)))
    go_ret
    rw[HM.out]
    have Q:=X.out.log bf qC ⟨rfl,rfl⟩
    exact⟨rfl,Y,G,Q.1,qf.out.trans Q.2⟩
theorem Dk.Bg (a:Dk):a.sync.1.waits.length<=a.waits.length:=by
 have b:=a.dh.2.2
 unfold Dk.sync
 split
 ·exact aC _
 ·split
  ·rw[b];exact aC _
  ·exact aR _
theorem gK.set {w:World}{f a:Nat->Prop}{b d:Nat}{i:Dk}{l l':Lg}(h:gK w f a b d i l)(j:Nat)(v:Value)(q:j<9)(o:l'.Ok)(s:l'.list=l.list)(g:l'.dead=false->l.dead=false)(n:l'.frm=l.frm/\l'.n=l.n)(m:∀e,(gm d l e).set j v=gm d l' e):
  gK (w.setCell ⟨b,j,none⟩ v) f a b d i l'/\Two f a f a w (w.setCell ⟨b,j,none⟩ v):=by
 obtain⟨e,t,c,k⟩:=h.lg
 exact h.log ⟨_,_,_,k.set j v q o s g (m e)⟩ ⟨(Keep.refl a w).setCell (p:=⟨b,j,none⟩) (.inr k.sl) _,fun _ r=> .inl r⟩ n
theorem gK.cells {w:World}{e f:Nat->Prop}{a d:Nat}{c:Dk}{l:Lg}(h:gK w e f a d c l):∃b,
  w.cell? ⟨a,0,none⟩=some (.pointer (some ⟨d,0,none⟩))/\w.cell? ⟨a,1,none⟩=some (.int .i64 l.frm)/\w.cell? ⟨a,2,none⟩=some (.int .i64 l.n)/\w.cell? ⟨a,3,none⟩=some (.int .i64 l.start)/\w.cell? ⟨a,4,none⟩=some (.int .i64 l.used)/\
  w.cell? ⟨a,5,none⟩=some b/\w.cell? ⟨a,6,none⟩=some (.int .i64 l.last)/\w.cell? ⟨a,7,none⟩=some (.int .i64 l.synced)/\w.cell? ⟨a,8,none⟩=some (.bool l.dead)/\a<w.heap.size/\∀j,w.frozen? ⟨a,j,none⟩=false:=by
 obtain⟨b,_,_,g⟩:=h.lg
 exact⟨b,g.cells⟩
theorem Lg.Ok.all {l:Lg}(h:l.Ok):l.all.Ok:=⟨h.n2,h.hi,h.st,h.us,h.la,aC _,h.ent,h.sum⟩
theorem Lg.Ok.dies {l:Lg}(h:l.Ok):l.dies.Ok:=⟨h.n2,h.hi,h.st,h.us,h.la,h.sy,h.ent,h.sum⟩
theorem Lg.BJ (a:Dk)(l:Lg):((l.mark a).2.2=0/\(l.mark a).2.1=l)\/((l.mark a).2.2=10/\(l.mark a).2.1=l.dies):=by
 unfold Lg.mark
 split
 ·split
  ·exact .inl ⟨rfl,rfl⟩
  ·exact .inr ⟨rfl,rfl⟩
 ·exact .inr ⟨rfl,rfl⟩
theorem Tx (G d:Nat)(a:Dk)(l:Lg)(m j:Nat->Prop)(w:World)(h:gK w m j G d a l)(s:a.waits.length<=100000):
  Calls Tryz.prog 104 #[.pointer (some ⟨G,0,none⟩)] w fun e w'=>e= .returned (.int .i64 (l.sync a).2.2)/\∃y M,gK w' y M G d (l.sync a).1 (l.sync a).2.1/\Two m j y M w w':=by
 obtain⟨lv,c0,_,_,_,_,_,c6,c7,c8,W,o⟩:=h.cells
 have p:=h.lg.ok
 cases C:l.dead with
 |true=>
  have T:=ah (show l.sync a=(a,l,10) by unfold Lg.sync;rw[C];rfl)
  rw[C] at c8
  clear c0 c6 c7 o
  go_enter Tryz.func104,Tryz.ntmps104
  go_wp2_with fail
  go_ret
  rw[T.out]
  exact⟨rfl,m,j,h,Two.refl _ _ _⟩
 |false=>
  rw[C] at c8
  have HF:=ah (ER d a m w h.dk (by omega))
  obtain⟨c,r,n⟩:∃c r,Hid (a.sync=(c,r)):=⟨_,_,ah rfl⟩
  have pV:=ah (show c.n=a.n by have:=a.nD;rw[n.out] at this;exact this)
  have v:c.waits.length<=100000:=by have:=a.Bg;rw[n.out] at this;exact aI this s
  rw[n.out] at HF
  clear c6 c7 o
  have HH:=ah h
  have R:=ah C
  clear h C
  go_enter Tryz.func104,Tryz.ntmps104
  go_wp2_with (first
   |(go_at_call 151;go_must (refine HF.out.mono ?_;rintro e w1 ⟨rfl,O,t⟩;refine Stop.of ?_)))
  refine Stop.on ?_
  have b:=HH.out.disk O t pV.out
  have f:=ah b.1;have A:=ah b.2
  obtain⟨qC,d0,_,_,_,_,_,d6,d7,d8,ql,F⟩:=b.1.cells
  have qy:=F 7
  clear b O t HF c0 c8 W
  by_cases S:r=0
  ·subst S
   have Y:=f.out.set (l':=l.all) 7 (.int .i64 l.last) (by omega) p.all rfl id ⟨rfl,rfl⟩ (fun _=>rfl)
   have HS:=ah Y.1;have Z:=ah Y.2;clear Y
   have T:=ah (Oc G d c l.all m j _ HS.out R.out v)
   obtain⟨V,k,q,HK⟩:∃V k q,Hid (l.all.mark c=(V,k,q)):=⟨_,_,_,ah rfl⟩
   have g:=l.all.BJ c
   rw[HK.out] at T g
   have qb:=ah g;clear g
   go_wp2_with (first
    |(go_at_call 152;go_must (refine T.out.mono ?_;rintro e w2 ⟨rfl,z,N,x,K⟩;refine Stop.of ?_)))
   refine Stop.on ?_
   have i:=ah x;have H:=ah ((A.out.trans Z.out).trans K);clear x K
   rcases qb.out with ⟨J,Q⟩|⟨J,Q⟩
   ·have hq:q=0:=J
    subst hq
    have D:=ah (show l.sync a=(V,k,0) by unfold Lg.sync;rw[R.out,n.out];simp[HK.out])
    clear J Q
    go_wp2_with fail
    go_ret
    rw[D.out]
    exact⟨rfl,z,N,i.out,H.out⟩
   ·have hq:q=10:=J
    have hk:k=l.all.dies:=Q
    subst hq;subst hk
    have D:=ah (show l.sync a=(V,l.dies,10) by unfold Lg.sync;rw[R.out,n.out];simp[HK.out])
    obtain⟨qO,_,_,_,_,_,_,_,e7,_,qf,P⟩:=i.out.cells
    have qm:=P 7
    have I:=i.out.set (l':=l.dies) 7 (.int .i64 l.synced) (by omega) p.dies rfl (fun e=>by cases e) ⟨rfl,rfl⟩ (fun _=>rfl)
    have B:=ah I;clear I J Q
    go_wp2_with fail
    go_ret
    rw[D.out]
    exact⟨rfl,z,N,B.out.1,H.out.trans B.out.2⟩
  ·have qo:(r !=0)=true:=by simpa using S
   have D:=ah (show l.sync a=(c,l.dies,10) by unfold Lg.sync;rw[R.out,n.out];simp[S])
   have qc:=ah (vN G d l j r w1 f.out.lg S)
   go_wp2_with (first
    |(go_at_call 160;go_must (refine qc.out.mono ?_;rintro e w7 ⟨rfl,p9,X⟩)))
   go_ret
   rw[D.out]
   have E:=f.out.log p9 X ⟨rfl,rfl⟩
   exact⟨rfl,m,j,E.1,A.out.trans E.2⟩
theorem J3:(Tryz.prog.info? 296).map (fun i=>i.size)=some 2:=by kernel_rfl
theorem Ad:(Tryz.prog.info? 296).map (fun i=>(i.zero,i.size,i.bytes))=some (some (.agg #[.int .i64 0,.int .i64 0]),2,16):=by kernel_rfl
theorem I7:((Tryz.prog.info? 296).bind (·.zero)).isSome=true:=by kernel_rfl
theorem Cn {l:Lg}{a:List ByteArray}(h:l.bad (jF a)=0):l.dead=false/\0<a.length/\a.length<=1024/\(∀s∈a,s.size<=600)/\bZ (jF a)<=l.room:=by
 unfold Lg.bad at h
 have f:(jF a).length=a.length:=by unfold jF;exact jM _
 rw[f] at h
 split at h
 ·cases h
 ·rename_i d
  split at h
  ·cases h
  ·rename_i g
   split at h
   ·cases h
   ·rename_i c
    split at h
    ·cases h
    ·rename_i i
     refine⟨by simpa using d,by omega,by omega,fun s e=> ?_,by omega⟩
     have b:(jF a).any (fun r=>decide (600<r.length))=false:=by simpa using c
     have:=List.any_eq_false.1 b s.data.toList (iN.2 ⟨s,e,rfl⟩)
     simp only[dU,qN] at this
     exact aX.1 this
theorem Dz {a:List ByteArray}(h:∀s∈a,s.size<=600):iR a<=a.length*604:=by
 induction a with
 |nil=>simp[iR]
 |cons s a ih=>
  have c:=ih (fun x b=>h x (bn _ b))
  have d:=h s (aY ..)
  have e:iR (s::a)=4+s.size+iR a:=by simp[iR]
  rw[e,aZ]
  omega
theorem Ut (r d:Nat)(l:Lg)(S x:Nat->Prop)(v:Value)(f:List ByteArray)(w:World)(h:sP w S r d l)(j:qG w x v f)(y:l.bad (jF f)=0):
  Calls Tryz.prog 156 #[.pointer (some ⟨r,0,none⟩),v] w fun e I=>e= .returned (.int .i64 0)/\Below w.heap.size w I:=by
 obtain⟨D,z,X,t,V⟩:=Cn y
 have E:=Dz t
 have J:=ah (Ob v f x w j (by omega))
 have Q:=ah (N8 r d l S w h)
 obtain⟨T,dn,c,C⟩:=h
 obtain⟨_,_,_,_,_,_,_,_,P,K,_⟩:=C.cells
 rw[D] at P
 obtain⟨vo,vc,rfl,W,Y,Z,v4⟩:=bq.form j
 have O:=ah j;clear j C
 have F:((f.length:Int)==0)=false:=fV.2 (by omega)
 have q:¬((1024:Int)<(f.length:Int)):=by omega
 have M:decide ((1024:Int)<(f.length:Int))=false:=bU q
 have H:f.isEmpty=false:=by cases f with|nil=>simp at z|cons a b=>rfl
 have N:decide (1024<f.length)=false:=bU (by omega)
 have R:¬f=[]:=by rintro rfl;simp at z
 have p:=ah t
 have m:¬((l.room:Int)<(bZ (jF f):Int)):=by omega
 have B:decide ((l.room:Int)<(bZ (jF f):Int))=false:=bU m
 clear y t
 go_enter Tryz.func156,Tryz.ntmps156
 go_wp2_with fail
 go_loop [26] (fun i=>∃k:Nat,k<=f.length/\i= .int .i64 k) (fun i=>f.length - (intOf i).toNat)
 case atStart=>exact⟨0,aR _,rfl⟩
 case round=>
  obtain⟨k,hk,rfl⟩:=hrel
  by_cases g:k<f.length
  ·have A:(k:Int)<(f.length:Int):=by omega
   obtain⟨b,o,rfl,hc⟩:=qG.at O.out rfl k g
   have G:¬((600:Int)<(f[k].size:Int)):=by have:=p.out _ (bJ g);omega
   go_wp2_with fail
   go_round
   case rel=>exact⟨k+1,by omega,by go_num⟩
   case measure=>simp[intOf];omega
  ·obtain rfl:k=f.length:=by omega
   go_wp2_with (first
    |(go_at_call 97;go_must (refine J.out.mono ?_;rintro e n ⟨rfl,s⟩;subst n))
    |(go_at_call 98;go_must (refine Q.out.mono ?_;rintro e n ⟨rfl,s⟩;subst n)))
   go_ret
   exact⟨rfl,(aJ _ _).drew⟩
theorem Kl (a:List ByteArray)(k:Nat)(b:k<a.length):gB (jF (a.take (k+1)))=(gB (jF (a.take k))++leB a[k].size 4)++a[k].data.toList:=by
 unfold gB jF
 rw[aO b,dF,nK,bA]
 simp
theorem D5 (a:List ByteArray):(gB (jF a)).length=iR a:=by rw[lC,vU]
theorem Lg.sW (l:Lg)(b:List UInt8)(k i:Nat)(a:Dk):l.qm b (k+1) i a=(if (a.write (l.ring (l.start+l.used+i)) ((b.drop (i*512)).take 512)).2=0 then l.qm b k (i+1) (a.write (l.ring (l.start+l.used+i)) ((b.drop (i*512)).take 512)).1 else((a.write (l.ring (l.start+l.used+i)) ((b.drop (i*512)).take 512)).1,10)):=rfl
theorem Dk.zT (a:Dk)(i:Int)(x:List UInt8):(a.write i x).1.waits.length<=a.waits.length+1:=by
 have b:=a.dh.2.2
 unfold Dk.write
 split
 ·exact pU _
 ·split
  ·exact pU _
  ·split
   ·exact pU _
   ·split
    ·rw[b];exact pU _
    ·simp[Dk.put,b]
theorem Lg.Ok.more {l:Lg}(h:l.Ok){a:List ByteArray}(d:l.bad (jF a)=0)(m:l.last<1000000000000):(l.more (jF a)).Ok:=by
 obtain⟨k,g,j,i,c⟩:=Cn d
 have f:=h.us
 refine⟨h.n2,h.hi,h.st,?_,?_,Ui h.sy,?_,?_⟩
 ·show l.used+bZ (jF a)<=l.n - 1
  unfold Lg.room at c
  omega
 ·show l.last+1<=_
  omega
 ·intro e b
  rcases eB.1 b with b|b
  ·have:=h.ent e b
   exact⟨this.1,Ui this.2⟩
  ·rw[cu.1 b]
   refine⟨?_,aC _⟩
   show 1<=bZ (jF a)
   unfold bZ
   omega
 ·show ((l.list++[(l.last+1,bZ (jF a))]).map (fun e:Nat×Nat=>e.2)).sum=l.used+bZ (jF a)
  rw[dF,jK,h.sum]
  simp
theorem aV.lower {w:World}{S:Nat->Prop}{B c e k n:Nat}{v:Value}{d:List Value}(h:aV w S c e k v n d)(hB:B<=c):aV w S B e k v n d:=by
 refine⟨⟨h.1.1,?_⟩,h.2⟩
 rcases h.1.2 with f|⟨g,b,a,i,l,j⟩
 ·exact .inl f
 ·exact .inr ⟨g,b,a,i,aI hB l,j⟩
theorem aV.less {w:World}{S S':Nat->Prop}{B e k n:Nat}{v:Value}{a:List Value}(h:aV w S B e k v n a)(d:∀g,S' g->S g):aV w S' B e k v n a:=⟨h.1,fun g b c=>h.2 g b (d g c)⟩
theorem bq.mid {w:World}{S:Nat->Prop}{g n c a b:Nat}{B:List UInt8}(h:bq w S 1 (.slice (some ⟨g,0,none⟩) n c) n (aF B))(f:a<=b)(i:b<=n)(d:¬c=a):bq w S 1 (.slice (some ⟨g,a,none⟩) (b - a) (c - a)) (b - a) (aF ((B.take b).drop a)):=by
 have:=(h.upto b i).after a f
 rw[if_neg d] at this
 simp only[jJ,iA,eY,fZ] at this
 have e:List.drop a (List.take b (aF B))=aF ((B.take b).drop a):=by simp[aF,iG,jy]
 rwa [e] at this
theorem Qs (B:List UInt8)(N a c b:Nat)(d:B.length=N)(g:c=a+512)(i:b=min c N)(f:a<N):(B.take b).drop a=(B.drop a).take 512/\((B.drop a).take 512).length=b - a:=by
 have e:(B.drop a).length=N - a:=by rw[bG,d]
 refine⟨?_,by rw[aQ,e];omega⟩
 rw[nQ,List.take_eq_take_iff,e]
 omega
theorem KA (f d:Nat)(σ:Dk)(l:Lg)(Sd D:Nat->Prop)(v:Value)(j:List ByteArray)(w:World)(h:gK w Sd D f d σ l)(hv:qG w (fun g=>Sd g\/D g) v j)(hb:l.bad (jF j)=0)(hcap:σ.waits.length<=90000)(hll:l.last<1000000000000):
  Calls Tryz.prog 100 #[.pointer (some ⟨f,0,none⟩),v] w fun e w'=>e= .returned (.tuple #[.int .i64 (l.append σ (jF j)).2.2.1,.int .i64 (l.append σ (jF j)).2.2.2])/\
   ∃E Sl',gK w' E Sl' f d (l.append σ (jF j)).1 (l.append σ (jF j)).2.1/\Two Sd D E Sl' w w':=by
 obtain⟨b1,b2,b3,b4,b5⟩:=Cn hb
 have hls:=Dz b4
 have HC:=ah (Ut f d l D _ v j w h.lg hv hb)
 have HB4:=ah b4;have y8:=ah hb
 clear b4 hb
 obtain⟨vo,vc,rfl,v1,v2,v3,v4⟩:=bq.form hv
 have HH:=ah h;have HV:=ah hv
 clear h hv
 go_enter Tryz.func100,Tryz.ntmps100
 go_wp2_with (first
  |(go_at_call 156;go_must (refine HC.out.mono ?_;rintro e w1 ⟨rfl,l5⟩;refine Stop.of ?_)))
 refine Stop.on ?_
 have HH1:=ah (HH.out.below l5)
 have HV1:=ah (HV.out.below l5)
 have mr:=ah l5;clear l5
 go_wp2_with fail
 go_loopw [7,22] (fun b i wr=>∃(k:Nat) (ao:Option Addr) (c:Nat),k<=j.length/\i= .int .i64 k/\b= .slice ao (gB (jF (j.take k))).length c/\Hid (aV wr eG w1.heap.size 5 1 b (gB (jF (j.take k))).length (aF (gB (jF (j.take k)))))/\Hid (Below w1.heap.size w1 wr)) (fun _ i _=>j.length - (intOf i).toNat)
 case atStart=>exact⟨0,none,0,aR _,rfl,rfl,ah (aV.nil _ _ _ _ _),ah (aJ _ _)⟩
 case round=>
  obtain⟨k,ao,c,hk,rfl,rfl,HO,t⟩:=hrel
  by_cases l6:k<j.length
  ·have hltI:(k:Int)<(j.length:Int):=by omega
   have hsz:=HB4.out _ (bJ l6)
   obtain⟨b,o,rfl,hc⟩:=qG.at (bq.below HV1.out t.out) rfl k l6
   have hws:=fU j[k].size (by omega)
   have hbl:(gB (jF (j.take k))).length<=1000000:=by rw[D5];have:=Dy j k;omega
   have HP:=ah (LM _ (gB (jF (j.take k))) j[k].size 4 w1.heap.size wr HO.out t.out.size (by omega) (by omega) (by omega))
   have HS:=ah (Kl j k l6)
   generalize gB (jF (j.take k))=X at*
   have hX4:(X++leB j[k].size 4).length=X.length+4:=by rw[aB,bI]
   generalize X++leB j[k].size 4=Y at*
   have HY:=ah hX4
   have hyl:Y.length<=1000004:=by omega
   clear hX4
   go_wp2_with (first
    |(go_at_call 157;go_must (refine HP.out.mono ?_;rintro e w2 ⟨v2',rfl,qc,S⟩;obtain⟨ao2,c2,rfl,_,_,_,_⟩:=bq.form qc.dM;have HO2:=ah qc;have ko:=ah (t.out.trans S);clear qc S;have zH:=ko.out.size))
    |(at_builtin;go_must ((refine dQ rfl (.tmp 30) (.tmp 31) 154 9 rfl eG w1.heap.size 5 1 1 (.int .u8 0) aU jl rfl (.slice ao2 Y.length c2) _ _ rfl HO2.out (.string j[k]) _ _ rfl (Kw _ bH _) (fun _ h=>h.elim) ?_ ?_ ?_ ?_);(focus (exact zH));(focus (unfold maxLen;omega));(focus omega);intro ao3 c3 w3 lq hk3 jv hd3)))
   have lG:=ah lq;have HB3:=ah (ko.out.trans jv);clear lq hk3 jv hd3
   have HL:=ah (show Y.length+j[k].size=(gB (jF (j.take (k+1)))).length by rw[HS.out,aB];rfl)
   go_roundw
   case rel=>
    refine⟨k+1,ao3,c3,by omega,by go_num,by rw[HL.out],ah ?_,HB3⟩
    rw[<-HL.out,HS.out,fG]
    exact lG.out
   case measure=>simp[intOf];omega
  ·obtain rfl:k=j.length:=by omega
   rw[bL] at HO ⊢
   have y7:=D5 j
   obtain⟨X,HX⟩:∃X,Hid (gB (jF j)=X):=⟨_,ah rfl⟩
   rw[HX.out] at HO y7 ⊢
   have hXb:X.length<=1000000:=by omega
   have HXl:=ah y7;clear y7
   have og:=HH1.out.lg
   have hok:=og.ok
   obtain⟨lv,dn,c0,bf⟩:=og
   obtain⟨_,_,_,_,_,_,d6,_,_,jb,_⟩:=bf.cells
   have hla:=hok.la
   obtain⟨F,vY⟩:∃x,Hid (16+X.length=x):=⟨_,ah rfl⟩
   obtain⟨O,sF⟩:∃x,Hid (l.last+1=x):=⟨_,ah rfl⟩
   obtain⟨qO,vM⟩:∃x,Hid (wU X=x):=⟨_,ah rfl⟩
   have l10:F<18446744073709551616:=by rw[<-vY.out];omega
   have l11:O<18446744073709551616:=by rw[<-sF.out];omega
   have l12:qO<4294967296:=by rw[<-vM.out];exact xO _
   have q10:IntKind.u64.wrap (16+(X.length:Int))=(F:Int):=by
    have:=fU F l10
    rw[<-vY.out] at this ⊢
    rw[<-this];congr 1
   have q11:IntKind.u64.wrap ((l.last:Int)+1)=(O:Int):=by
    have:=fU O l11
    rw[<-sF.out] at this ⊢
    rw[<-this];congr 1
   have q12:=fU qO (by omega)
   have d6r:wr.cell? ⟨f,6,none⟩=some (.int .i64 l.last):=(t.out.cell (p:=⟨f,6,none⟩) jb).trans d6
   have qy:f<wr.heap.size:=aA jb t.out.size
   have hlgr:f<wr.heap.size:=qy
   have zf:=ah (LM (.slice none 0 0) [] F 4 wr.heap.size wr (aV.nil _ _ _ _ _) (aC _) l10 (by omega) (by simp))
   simp only[oG] at zf
   go_wp2_with (first
    |(go_at_call 157;go_must (refine zf.out.mono ?_;rintro e w2 ⟨b2',rfl,zT,S⟩;refine Stop.of ?_)))
   refine Stop.on ?_
   have d62:w2.cell? ⟨f,6,none⟩=some (.int .i64 l.last):=(S.cell (p:=⟨f,6,none⟩) qy).trans d6r
   have hlt2:f<w2.heap.size:=aA qy S.size
   have HP2:=ah (LM b2' (leB F 4) O 8 wr.heap.size w2 zT S.size l11 (by omega) (by rw[bI];omega))
   have ko:=ah S
   clear zT S
   go_wp2_with (first
    |(go_at_call 157;go_must (refine HP2.out.mono ?_;rintro e w3 ⟨vz,rfl,ho3,jv⟩;refine Stop.of ?_)))
   refine Stop.on ?_
   have qm:=ko.out.trans jv
   have vP:=ah ((bf.keep (Keep.oO t.out) (fun g a=>jX.2 (bf.sub g a))).keep (Keep.oO qm) (fun g a=>jX.2 (aA (bf.sub g a) t.out.size)))
   have xK:aV w3 (fun g=>g=f) w1.heap.size 5 1 (.slice ao X.length c) X.length (aF X):=(HO.out.keep (w':=w3) (S':=eG) fun g a hl hs=>⟨qm.block g hl,hs⟩).other (fun g a e=>by omega)
   have sW:=AO (gm d l lv) [] f 9 288 dn c0 (.slice ao X.length c) X (fun g=>g=f) w3 rfl vP.out.row xK.dM rfl
   rw[show tL X=(qO:Int) by rw[tK,vM.out]] at sW
   have HSm:=ah sW;clear sW
   have zG:=ah xK
   have lG:=ah ho3
   have j6:=ah qm
   clear xK ho3 qm jv d6 d6r d62
   go_wp2_with (first
    |(go_at_call 158;go_must (refine HSm.out.mono ?_;rintro e w4 ⟨rfl,c',hr4,bg⟩;refine Stop.of ?_)))
   refine Stop.on ?_
   have HL4:=ah (vP.out.table hr4 bg)
   have HX4:=ah (zG.out.keep (w':=w4) (S':=eG) fun g a hl hs=>⟨bg.block g hl hs,id⟩)
   have ho4:aV w4 eG wr.heap.size 5 1 vz (leB F 4++leB O 8).length (aF (leB F 4++leB O 8)):=lG.out.keep fun g a hl hs=>⟨bg.block g hl (fun e=>by have:=(lG.out.1.lt g a).1;omega),hs⟩
   have iO:wr.heap.size<=w4.heap.size:=aI j6.out.size bg.size
   have HP4:=ah (LM vz (leB F 4++leB O 8) qO 4 wr.heap.size w4 ho4 iO (by omega) (by omega) (by simp[bI]))
   have HK4:=ah bg
   clear hr4 bg ho4
   go_wp2_with (first
    |(go_at_call 157;go_must (refine HP4.out.mono ?_;rintro e w5 ⟨b5',rfl,fo,mD⟩;refine Stop.of ?_)))
   refine Stop.on ?_
   obtain⟨ao5,c5,rfl,_,_,_,_⟩:=bq.form fo.dM
   have hX5:aV w5 eG w1.heap.size 5 1 (.slice ao X.length c) X.length (aF X):=HX4.out.keep fun g a hl hs=>⟨mD.block g (by have:=(HO.out.1.lt g a).2;omega),hs⟩
   have pV:=hX5.dM.src (P:=Tryz.prog) aU (fO _)
   have hH:(leB F 4++leB O 8++leB qO 4).length=16:=by simp[bI]
   have nH:wr.heap.size<=w5.heap.size:=aI iO mD.size
   have dM:=ah mD
   clear mD hX5
   obtain⟨H,yE⟩:∃H,H=leB F 4++leB O 8++leB qO 4:=⟨_,rfl⟩
   rw[<-yE] at fo hH ⊢
   have HHe:=ah yE;clear yE
   rw[hH] at fo ⊢
   have HHl:=ah hH;clear hH
   go_wp2_with (at_builtin;go_must ((refine dQ rfl (.tmp 55) (.tmp 56) 154 154 rfl eG wr.heap.size 5 1 1 (.int .u8 0) aU jl rfl (.slice ao5 16 c5) 16 (aF H) rfl fo (.slice ao X.length c) X.length (aF X) rfl pV (fun _ h=>h.elim) ?_ ?_ ?_ ?_);(focus (exact nH));(focus (unfold maxLen;omega));(focus omega);intro ao6 c6 w6 ql hk6 tY hd6;refine Stop.of ?_))
   refine Stop.on ?_
   rw[<-fG] at ql
   have z8:H++X=gD (l.last+1) (jF j):=by
    rw[HHe.out,<-vY.out,<-sF.out,<-vM.out,<-HX.out]
    rfl
   have mo:(H++X).length=16+X.length:=by rw[aB,HHl.out]
   have V:Keep (fun g=>D g\/w1.heap.size<=g) w w6:=by
    have a1:=Keep.of_below mr.out (fun g=>D g\/w1.heap.size<=g)
    have a2:=a1.trans (Keep.oO t.out) (fun _ _ e=> .inr e)
    have a3:=a2.trans (Keep.oO j6.out) (fun _ _ e=> .inr (aI t.out.size e))
    have a4:=a3.trans HK4.out (fun _ _ e=> .inl (e▸bf.sl))
    have a5:=a4.trans (Keep.oO dM.out) (fun _ _ e=> .inr (aI t.out.size e))
    exact a5.trans (Keep.oO tY) (fun _ _ e=> .inr (aI t.out.size e))
   have nD:∀g,g<w.heap.size->¬w1.heap.size<=g:=fun g a=>by have:=mr.out.size;omega
   have nk:∀g,(Sd g\/D g)->g<w.heap.size:=fun g a=>a.elim (HH.out.dk.sub g) (HH.out.lg.sub g)
   have hL6:=(HL4.out.keep (Keep.oO dM.out) (fun g a=>jX.2 (by have:=nk g (.inr a);have:=mr.out.size;have:=t.out.size;omega))).keep (Keep.oO tY) (fun g a=>jX.2 (by have:=nk g (.inr a);have:=mr.out.size;have:=t.out.size;omega))
   have hA6:gK w6 Sd D f d σ l:=⟨HH.out.dk.keep V (fun g a e=>e.elim (HH.out.dis g a) (nD g (nk g (.inl a)))),⟨_,_,_,hL6⟩,HH.out.dis,HH.out.fit⟩
   have hT6:Two Sd D Sd D w w6:=⟨⟨V.os,V.tape,V.output,V.size,fun g a hn=>V.block g a (fun e=>e.elim (fun x=>hn (.inr x)) (nD g a))⟩,fun _ a=> .inl a⟩
   have hV6:qG w6 eG (.slice vo j.length vc) j:=HV.out.keep fun g a hl hs=>⟨V.block g hl (fun e=>e.elim (fun x=>hs (.inr x)) (nD g hl)),id⟩
   have HN:=ah (Ob _ j eG w6 hV6 (by omega))
   obtain⟨nd,av⟩:∃nd,Hid (bZ (jF j)=nd):=⟨_,ah rfl⟩
   rw[av.out] at HN b5
   have hnd:nd*512<16+X.length+512:=by
    rw[<-av.out];unfold bZ;rw[vU,<-HXl.out];omega
   have M:=HH.out.lg.ok
   have hndl:nd<=4096:=by have:=M.hi;unfold Lg.room at b5;omega
   have HA6:=ah hA6;have HT6:=ah hT6
   have l9:=ah (ql.other (S':=fun g=>Sd g\/D g) (fun g a hs=>nD g (nk g hs) (aI t.out.size a)))
   clear hA6 hT6 hV6 V hL6 ql hk6 tY hd6 pV fo bf jb qy hlgr hlt2 iO nH q10 q11 q12
   clear zG HX4 lG vP HL4 zf HP2 HP4 HSm j6 dM ko HK4
   have r9:=ah z8;clear z8
   generalize H++X=B at r9 l9 mo
   go_wp2_with (first
    |(go_at_call 97;go_must (refine HN.out.mono ?_;rintro e w7 ⟨rfl,hw7⟩;subst w7)))
   obtain⟨N,vk⟩:∃N,Hid (16+X.length=N):=⟨_,ah rfl⟩
   rw[vk.out] at l9 mo hnd ⊢
   have hNb:N<=1000016:=by rw[<-vk.out];omega
   obtain⟨g6,rfl,hc6,hm6⟩:∃g,ao6=some ⟨g,0,none⟩/\N<=c6/\c6<=9223372036854775807:=by
    obtain⟨⟨_,hr⟩,_⟩:=l9.out
    rcases hr with ⟨_,h0⟩|⟨g,cap,cur,hv,_,_,h1,h2,_⟩
    ·rw[<-vk.out] at h0;omega
    ·cases hv;exact⟨g,rfl,h1,by simpa [maxLen] using h2⟩
   have HBl':=ah mo;clear mo
   go_loopw [61] (fun i wr=>∃(k:Nat) (E:Nat->Prop) (τ:Dk),k<=nd/\i= .int .i64 k/\Hid (gK wr E D f d τ l)/\Hid (Two Sd D E D w wr)/\Hid (τ.waits.length<=σ.waits.length+k)/\Hid (l.qm B nd 0 σ=l.qm B (nd - k) k τ)/\
    Hid (aV wr (fun g=>E g\/D g) 0 5 1 (.slice (some ⟨g6,0,none⟩) N c6) N (aF B))) (fun i _=>nd - (intOf i).toNat)
   case atStart=>exact⟨0,Sd,σ,aR _,rfl,HA6,HT6,ah (aC _),ah rfl,ah (l9.out.lower (aR _))⟩
   case round=>
    obtain⟨k,E,τ,hk,rfl,HA,HT,HW,l7,HO⟩:=hrel
    obtain⟨lv,e0,e1,e2,e3,e4,e5,e6,e7,e8,Z,yL⟩:=HA.out.cells
    by_cases l6:k<nd
    ·have hltI:(k:Int)<(nd:Int):=by omega
     have hl2:=M.st;have hl3:=M.us;have hl4:=M.hi
     obtain⟨y,HY⟩:∃y,Hid (l.start+l.used=y):=⟨_,ah rfl⟩
     obtain⟨z,HZ⟩:∃z,Hid (l.start+l.used+k=z):=⟨_,ah rfl⟩
     have a1:IntKind.i64.wrap ((l.start:Int)+(l.used:Int))=(y:Int):=by rw[aM _ (by omega),<-HY.out];omega
     have a2:IntKind.i64.wrap ((y:Int)+(k:Int))=(z:Int):=by rw[<-HY.out,<-HZ.out,aM _ (by omega)];omega
     obtain⟨lo,lH⟩:∃lo,Hid (k*512=lo):=⟨_,ah rfl⟩
     obtain⟨h0,sN⟩:∃h0,Hid ((k+1)*512=h0):=⟨_,ah rfl⟩
     obtain⟨hi,eH⟩:∃hi,Hid (min h0 N=hi):=⟨_,ah rfl⟩
     have b1':IntKind.i64.wrap ((k:Int)*512)=(lo:Int):=by rw[<-lH.out,aM _ (by omega)];omega
     have b2':IntKind.i64.wrap (((k:Int)+1)*512)=(h0:Int):=by rw[<-sN.out,aM _ (by omega)];omega
     have vz:IntKind.i64.wrap ((k:Int)+1)=(k:Int)+1:=aM _ (by omega)
     have hmn:∀w,(Builtin.min_ #[3,3] 3 #[.int .i64 (h0:Int),.int .i64 (N:Int)]).run Tryz.prog w= .ok (.int .i64 (hi:Int)) w:=fun w=>by
      rw[run_min_int2,<-eH.out]
      congr 2
      split<;>omega
     have f1:lo<N:=by have:=lH.out;omega
     have f2:lo<=hi:=by have:=lH.out;have:=sN.out;have:=eH.out;omega
     have f3:hi<=c6:=by have:=eH.out;omega
     have f4:¬c6=lo:=by omega
     have f5:(lo:Int)<=(hi:Int):=by omega
     have f6:(hi:Int)<=(c6:Int):=by omega
     have HRg:=ah (N9 f d l D z wr.drew (HA.out.lg.keep (Keep.of_below ((aJ _ wr).drew) eG) (fun _ _ e=>e)))
     go_wp2_with fail
     refine aP (fun W=>W.cell? ⟨f,0,none⟩=some (.pointer (some ⟨d,0,none⟩))/\W.cell? ⟨f,3,none⟩=some (.int .i64 l.start)/\W.cell? ⟨f,4,none⟩=some (.int .i64 l.used)/\f<W.heap.size) (fun i=> !([16,27].contains i)) [0,1,2,3,4,5,6,7,8,9,10,11,12,13,14,15,17,18,19,20,21,22,23,24,25,26,16,27,28] rfl (by kernel_rfl) ⟨e0,e3,e4,Z⟩ ?_
     repeat ((refine bE (v:= ?_) rfl rfl (fun _ _ _ h=>h) rfl (fun W Q=> ?_) ?_);rotate_left;(focus ((try dsimp only at Q);have r0:=Q.1;have r1:=Q.2.1;have r2:=Q.2.2.1;have r3:=Q.2.2.2;(go_simp;first|done|with_reducible rfl)));(try simp only[Act.put,ak,ay,ax]))
     refine bT rfl rfl rfl ?_;intro K hK;go_simp
     refine HRg.out.mono ?_;rintro e w8 ⟨rfl,hw8⟩;subst w8
     refine hK.out _ _ ⟨e0,e3,e4,Z⟩ ?_
     refine bT rfl rfl rfl ?_;intro K hK;go_simp
     obtain⟨q1,q2⟩:=Qs B N lo h0 hi HBl'.out (by have:=lH.out;have:=sN.out;omega) eH.out.symm f1
     have hsl:bq wr.drew.drew E 1 (.slice (some ⟨g6,lo,none⟩) (hi - lo) (c6 - lo)) ((B.drop lo).take 512).length (aF ((B.drop lo).take 512)):=by
      have h0':=(HO.out.less (S':=E) (fun g hs=> .inl hs)).dM.mid f2 (by have:=eH.out;omega) f4
      rw[q1] at h0'
      rw[q2]
      exact h0'.below ((aJ _ _).drew.drew)
     have HWr:=ah (EQ d τ E (l.ring z:Int) _ ((B.drop lo).take 512) wr.drew.drew (HA.out.dk.below ((aJ _ _).drew.drew)) hsl (by have:=HW.out;omega))
     obtain⟨ρ,q,HQ⟩:∃ρ q,Hid (τ.write (l.ring z:Int) ((B.drop lo).take 512)=(ρ,q)):=⟨_,_,ah rfl⟩
     have HQn:=ah (show ρ.n=τ.n by have:=τ.pV (l.ring z:Int) ((B.drop lo).take 512);rw[HQ.out] at this;exact this)
     have HQw:=ah (show ρ.waits.length<=σ.waits.length+(k+1) by have:=τ.zT (l.ring z:Int) ((B.drop lo).take 512);rw[HQ.out] at this;have h2:=HW.out;have:ρ.waits.length<=τ.waits.length+1:=this;omega)
     rw[HQ.out] at HWr
     clear hsl q1 q2
     refine HWr.out.mono ?_;rintro e w9 ⟨rfl,Sd9,hD9,zA⟩
     have eZ:=HA.out.disk hD9 ((Step.of_below ((aJ _ wr).drew.drew)).trans zA) HQn.out
     have y5:=ah eZ.1;have HT9:=ah (HT.out.trans eZ.2)
     have HO9:=ah (HO.out.step eZ.2)
     obtain⟨lv9,j0,_,_,j3,j4,_,_,_,_,hlt9,_⟩:=eZ.1.cells
     clear eZ hD9 zA e0 e1 e2 e3 e4 e5 e6 e7 e8 Z
     refine hK.out _ _ ⟨j0,j3,j4,hlt9⟩ ?_
     repeat ((refine bE (v:= ?_) rfl rfl (fun _ _ _ h=>h) rfl (fun W Q=> ?_) ?_);rotate_left;(focus ((try dsimp only at Q);have r0:=Q.1;(go_simp;first|done|with_reducible rfl)));(try simp only[Act.put,ak,ay,ax]))
     refine bN ?_
     have af:l.qm B (nd - k) k τ=if q=0 then l.qm B (nd - (k+1)) (k+1) ρ else(ρ,10):=by
      obtain⟨m,hm⟩:∃m,nd - k=m+1:=⟨nd - k - 1,by omega⟩
      rw[hm,l.sW,HZ.out,lH.out,HQ.out]
      simp only[show nd - (k+1)=m by omega]
     by_cases hq:q=0
     ·subst hq
      rw[if_pos rfl] at af
      have HSp9:=ah (l7.out.trans af)
      clear af
      go_wp2_with fail
      go_roundw
      case rel=>exact⟨k+1,Sd9,ρ,by omega,by go_num,y5,HT9,HQw,HSp9,HO9⟩
      case measure=>simp[intOf];omega
     ·rw[if_neg hq] at af
      have hq':(q !=0)=true:=by simpa using hq
      have HM:=ah (show l.append σ (jF j)=(ρ,l.dies,0,10) by
       unfold Lg.append
       rw[y8.out,av.out,<-r9.out,l7.out,af]
       simp)
      have HFB:=ah (vN f d l D q w9 y5.out.lg hq)
      clear af
      go_wp2_with (first
       |(go_at_call 160;go_must (refine HFB.out.mono ?_;rintro e r ⟨rfl,hL10,hs10⟩)))
      go_ret2
      rw[HM.out]
      have oo:=y5.out.log hL10 hs10 ⟨rfl,rfl⟩
      exact⟨rfl,Sd9,D,oo.1,HT9.out.trans oo.2⟩
    ·obtain rfl:k=nd:=by omega
     rw[kF] at l7
     have HM:=ah (show l.append σ (jF j)=(τ,l.more (jF j),l.last+1,0) by
      unfold Lg.append
      rw[y8.out,av.out,<-r9.out,l7.out]
      simp[Lg.qm])
     obtain⟨A,ai,q8,R⟩:=HA.out.lg
     have hr0:=R.row
     have hr1:=hr0.setCell 6 (.int .i64 ((l.last+1:Nat):Int))
     have T:=hr1.setCell 4 (.int .i64 ((l.used+k:Nat):Int))
     obtain⟨l2,ng⟩:∃l2:Lg,Hid (l2={l with last:=l.last+1,used:=l.used+k}):=⟨_,ah rfl⟩
     have hrw:(((gH (gm d l A) ai q8 []).set 6 (.int .i64 ((l.last+1:Nat):Int))).set 4 (.int .i64 ((l.used+k:Nat):Int)))=gH (gm d l2 A) ai q8 []:=by rw[ng.out];rfl
     rw[hrw] at T
     clear hrw hr0 hr1
     obtain⟨e0,e1,e2,e3,e4,e5,e6,e7,e8,Z,yL⟩:=R.cells
     obtain⟨x6,q9⟩:∃x6:Nat,Hid (l.last+1=x6):=⟨_,ah rfl⟩
     obtain⟨x4,rq⟩:∃x4:Nat,Hid (l.used+k=x4):=⟨_,ah rfl⟩
     rw[q9.out,rq.out] at T
     have g6':IntKind.i64.wrap ((l.last:Int)+1)=(x6:Int):=by rw[<-q9.out,aM _ (by omega)];omega
     have hl3:=M.us;have hl4:=M.hi
     have g4':IntKind.i64.wrap ((l.used:Int)+(k:Int))=(x4:Int):=by rw[<-rq.out,aM _ (by omega)];omega
     have z6:=yL 6;have z4:=yL 4
     go_wp2_with fail
     obtain⟨r,oO⟩:∃r:World,Hid (((wr.setCell ⟨f,6,none⟩ (.int .i64 x6)).setCell ⟨f,4,none⟩ (.int .i64 x4))=r):=⟨_,ah rfl⟩
     have di:Keep (· =f) wr r:=by
      rw[<-oO.out]
      exact((Keep.refl (· =f) wr).setCell (p:=⟨f,6,none⟩) (.inr rfl) _).setCell (p:=⟨f,4,none⟩) (.inr rfl) _
     rw[oO.out] at T ⊢
     have m5:r.cell? ⟨f,5,none⟩=some A:=T.cell 5
     have m6:r.cell? ⟨f,6,none⟩=some (.int .i64 x6):=(T.cell 6).trans (by rw[ng.out,<-q9.out];rfl)
     have s:=T.lt
     have hlv:∀g,A.ownBlock=some g->g≠f:=fun g a=>(R.slv b1 g a).2
     have qb:=(R.lst b1).keep (w':=r) (fun g a=>di.block g ((R.lst b1).lt a) (hlv g a))
     have HLL:=ah R;have HR2:=ah T;have nN:=ah di
     have hlen:l.list.length<=4096:=by
      have h1:=R.ok.ent
      have h2:=R.ok.sum
      have h3:∀(L:List (Nat×Nat)),(∀e∈L,1<=e.2/\e.1<=l.last)->L.length<=(L.map (·.2)).sum:=fun L=>by
       induction L with
       |nil=>intro _;exact aR _
       |cons e L ih=>
        intro h
        have:=ih (fun x hx=>h x (bn _ hx))
        have:=(h e (aY ..)).1
        simp only[eP,kG,aZ]
        omega
      have:=h3 l.list h1
      omega
     clear R T di e0 e1 e2 e3 e4 e5 e6 e7 e8 Z
     refine aP (fun W=>W.cell? ⟨f,5,none⟩=some A/\W.cell? ⟨f,6,none⟩=some (.int .i64 x6)/\f<W.heap.size) (fun i=> !([11,12,15].contains i)) [0,1,2,3,4,5,6,7,8,9,10,11,12,13,14,15] rfl (by kernel_rfl) ⟨m5,m6,s⟩ ?_
     repeat ((refine bE (v:= ?_) rfl rfl (fun _ _ _ h=>h) rfl (fun W Q=> ?_) ?_);rotate_left;(focus ((try dsimp only at Q);have r0:=Q.1;have r1:=Q.2.1;have r2:=Q.2.2;(go_simp;first|done|with_reducible rfl)));(try simp only[Act.put,ak,ay,ax]))
     have I:Keep eG r (r.drew.alloc (.cells [Value.int .i64 (x6:Int),Value.int .i64 (k:Int)].toArray 296)):=((Keep.refl eG r).drew).alloc _
     refine bT rfl rfl rfl ?_;intro K hK
     refine qW 283 296 (.tmp 123) rfl 2 [Value.int .i64 (x6:Int),Value.int .i64 (k:Int)] rfl rfl (by omega) (by omega) wL J3 I7 ?_
     refine hK.out _ _ ⟨(I.cell s id).trans m5,(I.cell s id).trans m6,aA s I.size⟩ ?_
     have kz:=qb.keep (w':=(r.drew.alloc (.cells [Value.int .i64 (x6:Int),Value.int .i64 (k:Int)].toArray 296))) (fun g a=>I.block g (qb.lt a) id)
     have pV:Src Tryz.prog 2 283 (.slice (some ⟨r.heap.size,0,none⟩) 1 1) 1 [Value.int .i64 (x6:Int),Value.int .i64 (k:Int)] (r.drew.alloc (.cells [Value.int .i64 (x6:Int),Value.int .i64 (k:Int)].toArray 296)):=iB _ _ _ 1 1 rfl wL rfl (fun v hv=>by simp at hv;rcases hv with rfl|rfl<;>rfl)
     refine bT rfl rfl rfl ?_;intro K hK
     refine Oa (.tmp 117) (.tmp 124) 283 283 rfl 296 2 16 _ wL Ad rfl A l.list.length _ rfl kz _ 1 _ rfl pV (by simp only[maxLen];omega) (by omega) ?_
     intro n C p9 d9 nY kD
     have J:Keep (fun g=>A.ownBlock=some g) r p9:=(I.mono (fun _ _ h=>h.elim)).trans nY (fun _ _ h=>h)
     have yB:¬A.ownBlock=some f:=fun e=>hlv f e rfl
     refine hK.out _ _ ⟨(J.cell (p:=⟨f,5,none⟩) s yB).trans m5,(J.cell (p:=⟨f,6,none⟩) s yB).trans m6,aA s J.size⟩ ?_
     have G:Row p9 f 288 (gH (gm d l2 A) ai q8 []):=HR2.out.keep J yB
     have hf12:=G.frozen 5
     have m512:p9.cell? ⟨f,5,none⟩=some A:=G.cell 5
     have hlt12:=G.lt
     have ol:=G.setCell 5 (.slice n (l.list.length+1) C)
     have qo:=ah ol;have HR12:=ah G
     have zy:=ah J;have qf:=ah d9
     have HOW:=ah (show (Value.slice n (l.list.length+1) C).ownBlock=A.ownBlock\/∃g,(Value.slice n (l.list.length+1) C).ownBlock=some g/\r.heap.size<=g from kD.imp id (fun ⟨g,h1,h2⟩=>⟨g,h1,aI (by simp) h2⟩))
     clear ol G qb kz pV I d9 kD nY J
     simp only[Act.put,ak,ay,ax]
     repeat ((refine bE (v:= ?_) rfl rfl (fun _ _ _ h=>h) rfl (fun W Q=> ?_) ?_);rotate_left;(focus ((try dsimp only at Q);have r0:=Q.1;have r1:=Q.2.1;have r2:=Q.2.2;(go_simp;first|done|with_reducible rfl)));(try simp only[Act.put,ak,ay,ax]))
     refine jR rfl rfl rfl (by kernel_rfl) ?_;intro K hK;go_simp
     refine hK.out _ _ ?_
     refine bN ?_
     have m6':(p9.setCell ⟨f,5,none⟩ (.slice n (l.list.length+1) C)).cell? ⟨f,6,none⟩=some (.int .i64 x6):=(qo.out.cell 6).trans (by rw[ng.out,<-q9.out];rfl)
     have vT:=qo.out.lt
     obtain⟨qC,o5⟩:∃qC:World,Hid (p9.setCell ⟨f,5,none⟩ (.slice n (l.list.length+1) C)=qC):=⟨_,ah rfl⟩
     rw[o5.out] at m6' vT qo ⊢
     go_wp2_with fail
     go_ret2
     rw[HM.out]
     have j5:Keep (· =f) p9 qC:=by rw[<-o5.out];exact(Keep.refl (· =f) p9).setCell (p:=⟨f,5,none⟩) (.inr rfl) _
     have R:=HLL.out
     have kC:Keep D wr qC:=((nN.out.mono (fun _ _ e=>e▸R.sl)).trans zy.out (fun g _ e=>(R.slv b1 g e).1)).trans j5 (fun _ _ e=>e▸R.sl)
     have hnew:∀g,(Value.slice n (l.list.length+1) C).ownBlock=some g->D g\/wr.heap.size<=g:=fun g a=>by
      rcases HOW.out with e|⟨g',e,hge⟩
      ·exact .inl (R.slv b1 g (e▸a)).1
      ·rw[e] at a;cases a;exact .inr (aI nN.out.size hge)
     have hnl:∀g,(Value.slice n (l.list.length+1) C).ownBlock=some g->g≠f:=fun g a=>by
      rcases HOW.out with e|⟨g',e,hge⟩
      ·exact(R.slv b1 g (e▸a)).2
      ·rw[e] at a;cases a;omega
     have zk:Step D (fun g=>D g\/(Value.slice n (l.list.length+1) C).ownBlock=some g) wr qC:=⟨kC,fun g a=>a.elim .inl (hnew g)⟩
     have hL13:sP qC (fun g=>D g\/(Value.slice n (l.list.length+1) C).ownBlock=some g) f d (l.more (jF j)):=by
      refine⟨.slice n (l.list.length+1) C,ai,q8,R.ok.more y8.out hll,fun g a=> ?_,.inl R.sl,?_,?_,fun _ g a=>⟨.inr a,hnl g a⟩⟩
      ·rcases a with a|a
       ·exact aA (R.sub g a) kC.size
       ·exact aA (qf.out.lt a) j5.size
      ·have e:(gH (gm d l2 A) ai q8 []).set 5 (.slice n (l.list.length+1) C)=gH (gm d (l.more (jF j)) (.slice n (l.list.length+1) C)) ai q8 []:=by
        unfold Lg.more
        rw[ng.out,av.out]
        rfl
       rw[<-e]
       exact qo.out
      ·have e1:(l.more (jF j)).list.length=l.list.length+1:=by simp[Lg.more]
       have e2:iU (l.more (jF j)).list=iU l.list++[Value.int .i64 (x6:Int),Value.int .i64 (k:Int)]:=by
        unfold Lg.more
        rw[uf,<-q9.out,av.out]
        rfl
       rw[e1,e2]
       exact fun _=>qf.out.keep fun g a=>j5.block g (qf.out.lt a) (hnl g a)
     have rf:=HA.out.log hL13 zk ⟨rfl,rfl⟩
     refine⟨?_,E,_,rf.1,HT.out.trans rf.2⟩
     rw[<-q9.out]
     rfl
end Go.Proofs.YtpmbddooibgnaaaGreatDoor
