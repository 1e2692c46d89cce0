/- parts -/
import Derived.Test.YtpgdljlghiifjaaGreatDoorJ1
import Derived.Test.YtpgdljlghiifjaaGreatDoorRows
import Derived.Laws.CopyOwn
import Derived.Deep.RegionLaw
import Derived.Deep.RegionHeld3
import Derived.RegionTactic
import Derived.BigRegion
import Derived.Deep.QuietTactic
import Derived.BigQuiet
import Derived.StillTailTactics
import Derived.Lib.Bytealg
import GoSem.Op.String
namespace Go.Proofs.YtpgdljlghiifjaaGreatDoor
set_option maxRecDepth 100000
set_option maxHeartbeats 8000000
set_option linter.all false
abbrev Pr:=ByteArray×ByteArray
structure Nd where
 pairs:List Pr
 keys:List ByteArray
 kids:List Int
def dU (ps:List Pr):Nat:=(ps.map fun p=>2+p.1.size+p.2.size).sum
def dY (ks:List ByteArray):Nat:=(ks.map fun k=>1+k.size).sum
def Nd.size (n:Nd):Nat:=2+dU n.pairs+dY n.keys+2*n.kids.length
theorem jQ (p:Pr) (ps:List Pr):dU (p::ps)=2+p.1.size+p.2.size+dU ps:=by simp[dU]
theorem jR (k:ByteArray) (ks:List ByteArray):dY (k::ks)=1+k.size+dY ks:=by simp[dY]
theorem jV (a b:List Pr):dU (a++b)=dU a+dU b:=by simp[dU]
theorem jf (a b:List ByteArray):dY (a++b)=dY a+dY b:=by simp[dY]
theorem ou (ps:List Pr) (i:Nat) (h:i<ps.length):dU (ps.take (i+1))=dU (ps.take i)+(2+ps[i].1.size+ps[i].2.size):=by
 rw[aK h,jV];simp[dU]
theorem ru (ps:List ByteArray) (i:Nat) (h:i<ps.length):dY (ps.take (i+1))=dY (ps.take i)+(1+ps[i].size):=by
 rw[aK h,jf];simp[dY]
theorem jF (ps:List Pr) (i:Nat):dU (ps.take i)≤dU ps:=by
 have:=jV (ps.take i) (ps.drop i);rw[bI] at this;omega
theorem oK (ps:List ByteArray) (i:Nat):dY (ps.take i)≤dY ps:=by
 have:=jf (ps.take i) (ps.drop i);rw[bI] at this;omega
theorem nY (ps:List Pr):2*ps.length≤dU ps:=by
 induction ps with
 |nil=>simp[dU]
 |cons p ps ih=>rw[jQ];simp;omega
theorem nL (ps:List ByteArray):ps.length≤dY ps:=by
 induction ps with
 |nil=>simp[dY]
 |cons p ps ih=>rw[jR];simp;omega
def b8 (n:Nat):UInt8:=UInt8.ofNat n
def AX (p:Pr):List UInt8:=[b8 p.1.size,b8 p.2.size]++p.1.data.toList++p.2.data.toList
def x9 (k:Int):List UInt8:=[b8 k.toNat,b8 (k.toNat/256)]
def vI (k:ByteArray):List UInt8:=b8 k.size::k.data.toList
def nZ (ps:List Pr):List UInt8:=ps.flatMap AX
def jI (ks:List Int):List UInt8:=ks.flatMap x9
def iI (ks:List ByteArray):List UInt8:=ks.flatMap vI
def Nd.enc (n:Nd):List UInt8:=[b8 n.pairs.length,b8 n.kids.length]++nZ n.pairs++jI n.kids++iI n.keys
theorem nC {α β:Type} (f:α→List β) (l:List α) (i:Nat) (h:i<l.length):(l.take (i+1)).flatMap f=(l.take i).flatMap f++f l[i]:=by
 rw[aK h,jB,dx,uO,dG]
theorem gZ (s:ByteArray):s.data.toList.length=s.size:=by rw[jC];rfl
theorem wW (p:Pr):(AX p).length=2+p.1.size+p.2.size:=by
 simp only[AX,aC,gZ,bf,bG]
theorem uZ (ps:List Pr):(nZ ps).length=dU ps:=by
 induction ps with
 |nil=>rfl
 |cons p ps ih=>rw[jQ];simp only[nZ,dx,aC,wW] at*;omega
theorem tu (ks:List Int):(jI ks).length=2*ks.length:=by
 induction ks with
 |nil=>rfl
 |cons p ps ih=>simp only[jI,dx,aC,x9,bf,bG] at*;omega
theorem tC (ks:List ByteArray):(iI ks).length=dY ks:=by
 induction ks with
 |nil=>rfl
 |cons p ps ih=>rw[jR];simp only[iI,dx,aC,vI,bf,gZ] at*;omega
theorem Nd.AV (n:Nd):n.enc.length=n.size:=by
 simp only[Nd.enc,Nd.size,aC,uZ,tu,tC,bf,bG];omega
structure Nd.Fits (n:Nd):Prop where
 np:n.pairs.length<256
 nk:n.kids.length<256
 pr:∀p∈n.pairs,p.1.size<256∧p.2.size<256
 ky:∀k∈n.keys,k.size<256
 kd:∀k∈n.kids,0≤k∧k<65536
 kk:n.keys.length=n.kids.length - 1
 one:n.pairs=[]↔n.kids≠[]
theorem qI (n:Nat) (h:n<256):(b8 n).toNat=n:=by simp[b8];omega
theorem rD {α β:Type} (f:α→List β) (l:List α) (i:Nat) (h:i<l.length):(l.drop i).flatMap f=f l[i]++(l.drop (i+1)).flatMap f:=by
 rw[bP h,dx]
end Go.Proofs.YtpgdljlghiifjaaGreatDoor
namespace Go.Proofs.YtpgdljlghiifjaaGreatDoor
open Go.RowKit
set_option maxRecDepth 100000
set_option maxHeartbeats 8000000
set_option linter.all false
def fF (w:World) (S:Nat→Prop) (b:Nat) (nd:Nd):Prop:=
 ¬S b∧∃v0 v1 v2,w.heap[b]? =some (.cells #[v0,v1,v2] 189 (0,0))∧mJ w S v0 nd.pairs∧iM w S v1 nd.keys∧jr w S v2 nd.kids
theorem cells3 {w:World} {b t:Nat} {v0 v1 v2:Value} (h:w.heap[b]? =some (.cells #[v0,v1,v2] t (0,0))):
  w.cell? ⟨b,0,none⟩=some v0∧w.cell? ⟨b,1,none⟩=some v1∧w.cell? ⟨b,2,none⟩=some v2∧
  w.frozen? ⟨b,0,none⟩=false∧w.frozen? ⟨b,1,none⟩=false∧w.frozen? ⟨b,2,none⟩=false∧b<w.heap.size:=by
 refine⟨?_,?_,?_,?_,?_,?_,(ah.1 h).1⟩<;>simp[World.cell?,World.frozen?,h]
theorem fF.step {w w':World} {S S':Nat→Prop} {b:Nat} {nd:Nd} (h:fF w S b nd) (hs:Step S S' w w'):fF w' S' b nd:=by
 obtain⟨hS,v0,v1,v2,hb,h0,h1,h2⟩:=h
 have hl:=(ah.1 hb).1
 exact⟨fun x=>(hs.2 b x).elim hS (fun y=>absurd hl (bF.2 y)),v0,v1,v2,(hs.1.block b hl hS).trans hb,bE.step h0 hs,bE.step h1 hs,bE.step h2 hs⟩
theorem fF.below {w w':World} {S:Nat→Prop} {b:Nat} {nd:Nd} (h:fF w S b nd) (hs:Below w.heap.size w w'):fF w' S b nd:=h.step (Step.of_below hs)
def gH (w:World) (S:Nat→Prop) (B:Nat) (b:Nat) (nd:Nd):Prop:=
 ¬S b∧B≤b∧∃v0 v1 v2,w.heap[b]? =some (.cells #[v0,v1,v2] 189 (0,0))∧aS w S B 130 2 v0 nd.pairs.length (dH nd.pairs)∧aS w S B 9 1 v1 nd.keys.length (nd.keys.map .string)∧aS w S B 3 1 v2 nd.kids.length (nd.kids.map (.int .i64))
theorem gH.iU {w:World} {S:Nat→Prop} {B b:Nat} {nd:Nd} (h:gH w S B b nd):fF w S b nd:=by
 obtain⟨h1,_,v0,v1,v2,hb,h2,h3,h4⟩:=h
 exact⟨h1,v0,v1,v2,hb,h2.dD,h3.dD,h4.dD⟩
theorem gH.step {w w':World} {S S':Nat→Prop} {B b:Nat} {nd:Nd} (h:gH w S B b nd) (hs:Step S S' w w'):gH w' S' B b nd:=by
 obtain⟨hS,hB,v0,v1,v2,hb,h0,h1,h2⟩:=h
 have hl:=(ah.1 hb).1
 exact⟨fun x=>(hs.2 b x).elim hS (fun y=>absurd hl (bF.2 y)),hB,v0,v1,v2,(hs.1.block b hl hS).trans hb,h0.step hs,h1.step hs,h2.step hs⟩
theorem jd (b:Nat) (nd:Nd) (w:World) (S:Nat→Prop) (h:fF w S b nd):
  Calls Tryz.prog 144 #[.pointer (some ⟨b,0,none⟩)] w fun e w'=>e= .returned (.bool (nd.kids.isEmpty))∧w=w':=by
 obtain⟨_,v0,v1,v2,hb,h0,h1,ao,c,rfl,_,_,_,_,_,_⟩:=h
 obtain⟨c0,c1,c2,f0,f1,f2,hlt⟩:=cells3 hb
 go_enter Tryz.func144,Tryz.ntmps144
 go_wp2
 go_ret
 exact⟨by congr 2;cases nd.kids<;>simp;omega,rfl⟩
theorem nD (b:Nat) (nd:Nd) (w:World) (S:Nat→Prop) (h:fF w S b nd) (hs:nd.size≤1000000):
  Calls Tryz.prog 183 #[.pointer (some ⟨b,0,none⟩)] w fun e w'=>e= .returned (.int .i64 nd.size)∧Below w.heap.size w w':=by
 obtain⟨_,v0,v1,v2,hb,h0,h1,h2⟩:=h
 obtain⟨c0,c1,c2,_,_,_,hlt⟩:=cells3 hb
 obtain⟨ao0,cp0,rfl,n0,m0,_,_⟩:=bE.form h0
 obtain⟨ao1,cp1,rfl,n1,m1,_,_⟩:=bE.form h1
 obtain⟨ao2,cp2,rfl,n2,m2,_,_⟩:=bE.form h2
 clear h2
 unfold Nd.size at hs
 have l0:=nY nd.pairs
 have l1:=nL nd.keys
 go_enter Tryz.func183,Tryz.ntmps183
 go_wp2
 go_loopw [3,13] (fun s i wr=>∃k:Nat,k≤nd.pairs.length∧i= .int .i64 k∧s= .int .i64 (2+dU (nd.pairs.take k):Nat)∧Below w.heap.size w wr) (fun _ i _=>nd.pairs.length - (intOf i).toNat)
 case atStart=>exact⟨0,by omega,rfl,by simp[dU],aQ _ _⟩
 case round=>
  obtain⟨k,hk,rfl,rfl,hbel⟩:=hrel
  by_cases hlt2:k<nd.pairs.length
  ·obtain⟨b',o',rfl,hc1,hc2⟩:=h0.at rfl k hlt2
   have d1:=(hbel.cell (p:=⟨b',o'+k*2,none⟩) (aF w _ hc1)).trans hc1
   have d2:=(hbel.cell (p:=⟨b',o'+k*2+1,none⟩) (aF w _ hc2)).trans hc2
   have H:=af (ou nd.pairs k hlt2)
   have hle:=jF nd.pairs (k+1)
   have hb1:dU (nd.pairs.take k)+(2+nd.pairs[k].1.size+nd.pairs[k].2.size)≤1000000:=by rw[←H.out];omega
   clear hle hc1 hc2
   go_wp2
   go_roundw
   case rel=>exact⟨k+1,by omega,by go_num,by rw[H.out];go_num,hbel.alloc hbel.size _⟩
   case measure=>simp[intOf];omega
  ·obtain rfl:k=nd.pairs.length:=by omega
   rw[bU]
   clear hlt2 h0 hk
   have c1':=(hbel.cell (p:=⟨b,1,none⟩) hlt).trans c1
   have c2':=(hbel.cell (p:=⟨b,2,none⟩) hlt).trans c2
   have hlt':b<wr.heap.size:=ax hlt hbel.size
   obtain⟨wo,rfl⟩:∃wo:World,wo=wr:=⟨_,rfl⟩
   go_wp2
   go_loop [3,33] (fun s i=>∃k:Nat,k≤nd.keys.length∧i= .int .i64 k∧s= .int .i64 (2+dU nd.pairs+dY (nd.keys.take k):Nat)) (fun _ i=>nd.keys.length - (intOf i).toNat)
   case atStart=>exact⟨0,by omega,rfl,by simp[dY]⟩
   case round=>
    obtain⟨k,hk,rfl,rfl⟩:=hrel
    by_cases hlt2:k<nd.keys.length
    ·obtain⟨b',o',rfl,hc1⟩:=bE.yx h1 rfl k (.string nd.keys[k]) (by simp[hlt2])
     have d1:=(hbel.cell (p:=⟨b',o'+k,none⟩) (aF w _ hc1)).trans hc1
     have H:=af (ru nd.keys k hlt2)
     have hle:=oK nd.keys (k+1)
     have hb1:2+dU nd.pairs+dY (nd.keys.take k)+(1+nd.keys[k].size)≤1000000:=by rw[jU (2+_),←H.out];omega
     clear hle hc1
     go_wp2
     go_round
     case rel=>exact⟨k+1,by omega,by go_num,by rw[H.out];go_num⟩
     case measure=>simp[intOf];omega
    ·obtain rfl:k=nd.keys.length:=by omega
     rw[bU]
     go_wp2
     go_ret
     exact⟨by unfold Nd.size;go_num,hbel⟩
def Row (w:World) (g e:Nat) (cur:List Value):Prop:=w.heap[g]? =some (.cells cur.toArray e (0,0))
theorem Row.lt {w:World} {g e:Nat} {cur:List Value} (h:Row w g e cur):g<w.heap.size:=(ah.1 h).1
theorem Row.cell {w:World} {g e:Nat} {cur:List Value} (h:Row w g e cur) (j:Nat):w.cell? ⟨g,j,none⟩=cur[j]? :=by
 have:=CY w g j cur.toArray e (0,0) h
 simpa using this
theorem Row.frozen {w:World} {g e:Nat} {cur:List Value} (h:Row w g e cur) (j:Nat):w.frozen? ⟨g,j,none⟩=false:=by
 unfold Row at h;simp[World.frozen?,h]
theorem Row.keep {w w':World} {g e:Nat} {cur:List Value} {M:Nat→Prop} (h:Row w g e cur) (k:Keep M w w') (hM:¬M g):Row w' g e cur:=(k.block g h.lt hM).trans h
theorem aS.row {w:World} {S:Nat→Prop} {B e k n g cap:Nat} {xs:List Value} (h:aS w S B e k (.slice (some ⟨g,0,none⟩) n cap) n xs):
  ∃cur,Row w g e cur∧cur.length=cap*k∧cur.take (n*k)=xs∧B≤g∧¬S g∧n≤cap∧cap≤maxLen:=by
 obtain⟨⟨hl,hr⟩,hn⟩:=h
 rcases hr with ⟨h,_⟩|⟨g',cap',cur,hv,hB,hg,h1,h2,h3,h4⟩
 ·cases h
 ·cases hv
  exact⟨cur.toList,hg,by simpa using h3,h4,hB,hn g rfl,h1,h2⟩
theorem aS.ne {w:World} {S:Nat→Prop} {B e k n b t:Nat} {v:Value} {xs:List Value} {cs:Array Value} {fr:Nat×Nat} (h:aS w S B e k v n xs) (hb:w.heap[b]? =some (.cells cs t fr)) (ht:t≠e):v.ownBlock≠some b:=by
 intro e1
 rcases h.1.2 with ⟨rfl,_⟩|⟨g,cap,cur,rfl,_,hg,_⟩
 ·cases e1
 ·cases e1
  rw[hg] at hb;cases hb;exact ht rfl
theorem Row.own {w:World} {S:Nat→Prop} {B e k g cap:Nat} {cur:List Value} (h:Row w g e cur) (n:Nat) (hl:cur.length=cap*k) (hB:B≤g) (hS:¬S g) (hn:n≤cap) (hc:cap≤maxLen):
  aS w S B e k (.slice (some ⟨g,0,none⟩) n cap) n (cur.take (n*k)):=by
 refine⟨⟨?_,.inr ⟨g,cap,cur.toArray,rfl,hB,h,hn,hc,by simpa using hl,rfl⟩⟩,fun g' hg=>by cases hg;exact hS⟩
 rw[aD,hl];exact bM (bW _ hn)
theorem Row.dD {w:World} {S:Nat→Prop} {e k g off:Nat} {cur:List Value} (h:Row w g e cur) (n c:Nat) (hl:off+n*k≤cur.length) (hS:¬S g) (hn:n≤c) (hc:c≤maxLen):
  bE w S k (.slice (some ⟨g,off,none⟩) n c) n ((cur.drop off).take (n*k)):=by
 refine⟨_,c,rfl,hn,hc,?_,by simp,fun ad had=>by cases had;exact⟨rfl,h.lt,hS⟩,fun j u hu=>⟨g,off,rfl,?_⟩⟩
 ·rw[aD,aO];omega
 ·rw[h.cell]
  rw[iE] at hu
  split at hu
  ·simpa using hu
  ·cases hu
theorem nW {α:Type} (A Y T news:List α) (off:Nat) (hA:A.length=off) (hY:Y.length=news.length):splice (A++(Y++T)) off news=A++(news++T):=by
 subst hA
 unfold splice
 rw[lq,←hY,←aL A Y T,←aC,J2]
section
variable {P:Program}
theorem nG {w:World} {g e off:Nat} {cur:List Value} (h:Row w g e cur) (cs:List Value) (hfit:off+cs.length≤cur.length) (h1:∀v∈cs,v.oneCell'=true):
  ∃w',(storeCells ⟨g,off,none⟩ cs 0).run P w= .ok () w'∧Row w' g e (splice cur off cs)∧Keep (· =g) w w':=by
 have hst:=run_storeCells_at P g off e cs 0 cur.toArray w h (by simpa using hfit) h1
 simp only[iK] at hst
 refine⟨_,hst,?_,⟨rfl,rfl,rfl,by simp,fun k' _ hk=>setRow_other w g k' _ hk⟩⟩
 have:=setRow_heap w g cur.toArray (cur.toArray.toList.take off++cs++cur.toArray.toList.drop (off+cs.length)).toArray e (0,0) h
 unfold Row
 rw[this]
 simp[splice]
theorem Mv {w:World} (t tx ty e:TypeId) (i:TypeInfo) (k:Nat) (ht:P.underlying t=some (.slice e)) (hi:P.info? e=some i) (hk:i.size=k) {g n cap e':Nat} {cur:List Value} (h:Row w g e' cur)
  (x:Value) (m:Nat) (news:List Value) (hs:Src P k tx x m news w) (hroom:n+m≤cap) (hfit:n*k+news.length≤cur.length):
  ∃w',(Builtin.append_ #[t,tx] ty #[.slice (some ⟨g,0,none⟩) n cap,x]).run P w= .ok (.slice (some ⟨g,0,none⟩) (n+m) cap) w'∧Row w' g e' (splice cur (n*k) news)∧Keep (· =g) w w':=by
 subst hk
 obtain⟨w',hst,h2,h3⟩:=nG (P:=P) h news hfit hs.one
 refine⟨w',?_,h2,h3⟩
 rcases hs.kind with ⟨e'',hk⟩|hk<;>simp[Builtin.append_,fJ ht,fJ hk,sizeOf,typeInfo,hi,hs.len,hroom,hs.cells,fM,hst]
theorem vR {o:Oper} {a:Act} {w:World} {K:Act→World→Prop} {Q:Exit→Act→World→Prop} (s y:Operand) (t tx:TypeId) (ho:o.op= .call {callee:= .builtin .append,args:=#[s,y],argTypes:=#[t,tx]})
  (e k bytes:Nat) (z:Value) (ht:P.underlying t=some (.slice e)) (hinfo:(P.info? e).map (fun i=>(i.zero,i.size,i.bytes))=some (some z,k,bytes))
  (g n cap e':Nat) (cur:List Value) (hv:a.eval s= .slice (some ⟨g,0,none⟩) n cap) (hr:Row w g e' cur) (x:Value) (m:Nat) (news:List Value) (hx:a.eval y=x) (hs:Src P k tx x m news w)
  (hroom:n+m≤cap) (hfit:n*k+news.length≤cur.length)
  (h:∀w',Row w' g e' (splice cur (n*k) news)→Keep (· =g) w w'→K (a.put o.dst (.slice (some ⟨g,0,none⟩) (n+m) cap)) w'):o.wp P a w K Q:=by
 obtain⟨i,hi,hz,hsize,hby⟩:=vO hinfo
 obtain⟨w',hrun,h2,h3⟩:=Mv (P:=P) t tx o.type e i k ht hi hsize hr x m news hs hroom hfit
 unfold Oper.wp execOp
 simp only[ho,resolve,invoke,builtin,jH,pY,gK,mZ,cO,iw,hv,hx,hrun]
 exact h w' h2 h3
theorem EL {w:World} (t tx ty e:TypeId) (i:TypeInfo) (k:Nat) (ht:P.underlying t=some (.slice e)) (hi:P.info? e=some i) (hk:i.size=k) {g off e' n dLen dCap:Nat} {dp:Option Addr} {cur:List Value} (h:Row w g e' cur)
  (x:Value) (m:Nat) (hlen:(Builtin.lenOf x).run P w= .ok m w) (hn:n=Nat.min m dLen) (cs:List Value) (hcl:cs.length=n*k) (hcs:(Builtin.firstCells k n x).run P w= .ok cs.toArray w)
  (hd:0<cs.length→dp=some ⟨g,off,none⟩) (hfit:off+cs.length≤cur.length) (h1:∀v∈cs,v.oneCell'=true):
  ∃w',(Builtin.copy_ #[t,tx] ty #[.slice dp dLen dCap,x]).run P w= .ok (goInt n) w'∧Row w' g e' (splice cur off cs)∧Keep (· =g) w w':=by
 subst hk
 subst hn
 by_cases h0:0<cs.length
 ·obtain rfl:=hd h0
  obtain⟨w',hst,h2,h3⟩:=nG (P:=P) h cs hfit h1
  refine⟨w',?_,h2,h3⟩
  simp[Builtin.copy_,fJ ht,sizeOf,typeInfo,hi,hlen,hcs,hst]
 ·obtain rfl:cs=[]:=aU (by omega)
  refine⟨w,?_,by unfold Row at*;simpa [splice] using h,Keep.refl _ _⟩
  cases dp with
  |none=>simp[Builtin.copy_,fJ ht,sizeOf,typeInfo,hi,hlen,hcs]
  |some ad=>simp[Builtin.copy_,fJ ht,sizeOf,typeInfo,hi,hlen,hcs,storeCells]
theorem fQ {o:Oper} {a:Act} {w:World} {K:Act→World→Prop} {Q:Exit→Act→World→Prop} (s y:Operand) (t tx:TypeId) (ho:o.op= .call {callee:= .builtin .copy,args:=#[s,y],argTypes:=#[t,tx]})
  (e k bytes:Nat) (z:Value) (ht:P.underlying t=some (.slice e)) (hinfo:(P.info? e).map (fun i=>(i.zero,i.size,i.bytes))=some (some z,k,bytes))
  (g off e' n dLen dCap:Nat) (dp:Option Addr) (cur:List Value) (hv:a.eval s= .slice dp dLen dCap) (hr:Row w g e' cur) (x:Value) (hx:a.eval y=x) (m:Nat) (cs:List Value)
  (hlen:(Builtin.lenOf x).run P w= .ok m w) (hn:n=Nat.min m dLen) (hcl:cs.length=n*k) (hcs:(Builtin.firstCells k n x).run P w= .ok cs.toArray w)
  (hd:0<cs.length→dp=some ⟨g,off,none⟩) (hfit:off+cs.length≤cur.length) (h1:∀v∈cs,v.oneCell'=true)
  (h:∀w',Row w' g e' (splice cur off cs)→Keep (· =g) w w'→K (a.put o.dst (goInt n)) w'):o.wp P a w K Q:=by
 obtain⟨i,hi,hz,hsize,hby⟩:=vO hinfo
 obtain⟨w',hrun,h2,h3⟩:=EL (P:=P) t tx o.type e i k ht hi hsize hr x m hlen hn cs hcl hcs hd hfit h1 (dCap:=dCap)
 unfold Oper.wp execOp
 simp only[ho,resolve,invoke,builtin,jH,pY,gK,mZ,cO,iw,hv,hx,hrun]
 exact h w' h2 h3
theorem bE.first {w:World} {S:Nat→Prop} {k n:Nat} {v:Value} {xs:List Value} (h:bE w S k v n xs) (m:Nat) (hm:m≤n):(Builtin.firstCells k m v).run P w= .ok (xs.take (m*k)).toArray w:=by
 obtain⟨ao,c,rfl,_,_,h3,h4,h5,h6⟩:=h
 cases ao with
 |none=>
  obtain⟨rfl,rfl⟩:=h4 rfl
  have:xs=[]:=aU (by simpa using h3)
  subst this
  simp[Builtin.firstCells]
 |some ad=>
  obtain⟨b,o,sp⟩:=ad
  obtain rfl:sp=none:=(h5 _ rfl).1
  refine PL w k m ⟨b,o,none⟩ n c _ (by rw[aD,h3];exact bM (bW _ hm)) (fun j u hu=> ?_)
  rw[iE] at hu
  split at hu
  ·obtain⟨b',o',e,hc⟩:=h6 j u hu
   cases e
   rw[fM];exact hc
  ·cases hu
theorem bE.lenOf {w:World} {S:Nat→Prop} {k n:Nat} {v:Value} {xs:List Value} (h:bE w S k v n xs):(Builtin.lenOf v).run P w= .ok n w:=by
 obtain⟨ao,c,rfl,_⟩:=h;rfl
theorem jv (z:Array Value) (n:Nat) (h:∀v∈z.toList,v.oneCell'=true) (h0:0<z.size):∀v∈(Builtin.zeroCells z n).toList,v.oneCell'=true:=by
 intro v hv
 simp only[Builtin.zeroCells,Array.toList_map,dP] at hv
 obtain⟨i,_,rfl⟩:=hv
 have hlt:=qA i h0
 rw[getElem!_pos z (i%z.size) hlt]
 exact h _ (by simp)
theorem Dt {w:World} (t ty e:TypeId) (i:TypeInfo) (z:Value) (k:Nat) (ht:P.underlying t=some (.slice e)) (hi:P.info? e=some i) (hz:i.zero=some z) (hzk:z.cells.size=k) {g off e' n c:Nat} {dp:Option Addr} {cur:List Value} (h:Row w g e' cur)
  (hd:0<n→dp=some ⟨g,off,none⟩) (hfit:off+n*k≤cur.length) (h1:∀v∈(Builtin.zeroCells z.cells n).toList,v.oneCell'=true):
  ∃w' zs,(Builtin.clear_ #[t] ty #[.slice dp n c]).run P w= .ok (.tuple #[]) w'∧zs.length=n*k∧Row w' g e' (splice cur off zs)∧Keep (· =g) w w':=by
 cases n with
 |zero=>
  refine⟨w,[],?_,by simp,by unfold Row at*;simpa [splice] using h,Keep.refl _ _⟩
  cases dp<;>simp[Builtin.clear_,fJ ht]
 |succ n=>
  obtain rfl:=hd (by omega)
  have hlz:(Builtin.zeroCells z.cells (n+1)).toList.length=(n+1)*k:=by rw[jC,Bq,hzk]
  obtain⟨w',hst,h2,h3⟩:=nG (P:=P) h (Builtin.zeroCells z.cells (n+1)).toList (by rw[hlz];exact hfit) h1
  refine⟨w',_,?_,hlz,h2,h3⟩
  simp[Builtin.clear_,fJ ht,zeroValue,typeInfo,hi,hz,hst]
theorem kD {o:Oper} {a:Act} {w:World} {K:Act→World→Prop} {Q:Exit→Act→World→Prop} (s:Operand) (t:TypeId) (ho:o.op= .call {callee:= .builtin .clear,args:=#[s],argTypes:=#[t]})
  (e k bytes:Nat) (z:Value) (ht:P.underlying t=some (.slice e)) (hinfo:(P.info? e).map (fun i=>(i.zero,i.size,i.bytes))=some (some z,k,bytes)) (hzk:z.cells.size=k)
  (g off e' n c:Nat) (dp:Option Addr) (cur:List Value) (hv:a.eval s= .slice dp n c) (hr:Row w g e' cur)
  (hd:0<n→dp=some ⟨g,off,none⟩) (hfit:off+n*k≤cur.length) (h1:∀v∈(Builtin.zeroCells z.cells n).toList,v.oneCell'=true)
  (h:∀w' zs,zs.length=n*k→Row w' g e' (splice cur off zs)→Keep (· =g) w w'→K (a.put o.dst (.tuple #[])) w'):o.wp P a w K Q:=by
 obtain⟨i,hi,hz,hsize,hby⟩:=vO hinfo
 obtain⟨w',zs,hrun,hl,h2,h3⟩:=Dt (P:=P) t o.type e i z k ht hi hz hzk hr hd hfit h1 (c:=c)
 unfold Oper.wp execOp
 simp only[ho,resolve,invoke,builtin,jH,pY,gK,mZ,cO,iw,hv,hrun]
 exact h w' zs hl h2 h3
theorem BI (w:World) (t tn ty e:TypeId) (i:TypeInfo) (z:Value) (k bytes:Nat) (ht:P.underlying t=some (.slice e)) (htn:P.underlying tn=some (.int .i64)) (hi:P.info? e=some i) (hz:i.zero=some z)
  (hsize:i.size=k) (hby:i.bytes=bytes) (hzs:z.cells.size=k) (hk0:0<k) {g n cap m:Nat} {cur:List Value} (h:Row w g e cur) (hn:n*k≤cur.length) (hgrow:cap<n+m) (hm:0<m) (h63:n+m≤maxLen) (hbytes:(n+m)*bytes≤140737488355328):
  ∃c w' rest,(Builtin.append_ #[t,tn] ty #[.slice (some ⟨g,0,none⟩) n cap,.int .i64 m]).run P w= .ok (.slice (some ⟨w.heap.size,0,none⟩) (n+m) c) w'∧Row w' w.heap.size e (cur.take (n*k)++rest)∧(cur.take (n*k)++rest).length=c*k∧n+m≤c∧c≤maxLen∧
   Keep fO w w':=by
 subst hsize
 subst hby
 have hsmall:n+m≤9223372036854775807:=by simp only[maxLen] at h63;omega
 have hge:=Oo w (n+m) cap e
 have hcm:grownCap w (n+m) cap e≤maxLen:=rQ w (n+m) cap e h63
 have hfit:=uj hgrow hbytes
 have hold:=(h.dD (w:=w.drew) (S:=fO) (k:=i.size) (off:=0) n n (by omega) id (aG _) (by simp only[maxLen] at*;omega)).first (P:=P) n (aG _)
 rw[eT,dF,gN] at hold
 have hold':(loadCells ⟨g,0,none⟩ (n*i.size)).run P w.drew= .ok (cur.take (n*i.size)).toArray w.drew:=hold
 have hw:IntKind.i64.wrap (m:Int)=m:=by rw[ig];omega
 have h1:¬((m:Int)<0):=by omega
 have h2:¬(281474976710656<(m:Int)*(i.bytes:Int)):=by
  have:m*i.bytes≤(n+m)*i.bytes:=bW _ (by omega)
  rw[←Int.natCast_mul];omega
 have h3:¬(n+m≤cap):=by omega
 have h4:¬(9223372036854775807<((n:Int)+(m:Int))):=by omega
 have h5:¬(281474976710656<Builtin.nextslicecap (n+m) cap*i.bytes):=by omega
 have h6:¬(m*i.size=0):=Nat.mul_ne_zero (by omega) (by omega)
 refine⟨grownCap w (n+m) cap e,w.drew.alloc (.cells ((cur.take (n*i.size)).toArray++Builtin.zeroCells z.cells m++Builtin.zeroCells z.cells (grownCap w (n+m) cap e - (n+m))) e),
  (Builtin.zeroCells z.cells m).toList++(Builtin.zeroCells z.cells (grownCap w (n+m) cap e - (n+m))).toList,?_,?_,?_,hge,hcm,(Keep.refl fO w).drew.alloc _⟩
 ·simp[Builtin.append_,fJ ht,fJ htn,sizeOf,typeInfo,zeroValue,hi,hz,asInt,asIntOf,hw,h1,h2,h3,h4,h5,h6,Question.forced,newRow,grownCap,Builtin.firstCells,hold']
 ·unfold Row
  rw[show w.heap.size=w.drew.heap.size from rfl,aM]
  congr 2
  apply qB
  simp
 ·simp only[aC,aD,jC,Bq,hzs]
  rw[bM hn,←eF,←eF]
  congr 1;omega
theorem qU {o:Oper} {a:Act} {w:World} {K:Act→World→Prop} {Q:Exit→Act→World→Prop} (s y:Operand) (t tn:TypeId) (ho:o.op= .call {callee:= .builtin .append,args:=#[s,y],argTypes:=#[t,tn]})
  (e k bytes:Nat) (z:Value) (ht:P.underlying t=some (.slice e)) (htn:P.underlying tn=some (.int .i64)) (hinfo:(P.info? e).map (fun i=>(i.zero,i.size,i.bytes))=some (some z,k,bytes)) (hzs:z.cells.size=k) (hk0:0<k)
  (g n cap m:Nat) (cur:List Value) (hv:a.eval s= .slice (some ⟨g,0,none⟩) n cap) (hx:a.eval y= .int .i64 m) (h:Row w g e cur) (hn:n*k≤cur.length) (hgrow:cap<n+m) (hm:0<m) (h63:n+m≤maxLen) (hbytes:(n+m)*bytes≤140737488355328)
  (hK:∀c w' rest,Row w' w.heap.size e (cur.take (n*k)++rest)→(cur.take (n*k)++rest).length=c*k→n+m≤c→c≤maxLen→Keep fO w w'→K (a.put o.dst (.slice (some ⟨w.heap.size,0,none⟩) (n+m) c)) w'):o.wp P a w K Q:=by
 obtain⟨i,hi,hz,hsize,hby⟩:=vO hinfo
 obtain⟨c,w',rest,hrun,q1,q2,q3,q4,q5⟩:=BI (P:=P) w t tn o.type e i z k bytes ht htn hi hz hsize hby hzs hk0 h hn hgrow hm h63 hbytes
 unfold Oper.wp execOp
 simp only[ho,resolve,invoke,builtin,jH,pY,gK,mZ,cO,iw,hv,hx,hrun]
 exact hK c w' rest q1 q2 q3 q4 q5
theorem dM {ops:Array Oper} {rest:List Oper} {o:Oper} {a:Act} {w:World} {Q:Exit→Act→World→Prop} (hgd:o.guard=none)
  (h:∀K:Act→World→Prop,(∀a w,wpList P ops Q rest a w→K a w)→o.wp P a w K Q):wpList P ops Q (o::rest) a w:=wpList_plain hgd h
theorem wR {ops:Array Oper} {o:Oper} {a:Act} {w:World} {K:Act→World→Prop} {Q:Exit→Act→World→Prop} {E:Prop} (hgd:o.guard=none) (h:o.wp P a w K Q):
  if Region.wanted o (yielded ops a.tmps)=true then Oper.wp P o a w K Q else E:=by
 rw[if_pos (by simp[Region.wanted,hgd])];exact h
end
theorem jO:(Tryz.prog.info? 130).map (fun i=>(i.zero,i.size,i.bytes))=some (some (.agg #[.string ⟨#[]⟩,.string ⟨#[]⟩]),2,32):=by kernel_rfl
theorem gV:(Tryz.prog.info? 3).map (fun i=>(i.zero,i.size,i.bytes))=some (some (.int .i64 0),1,8):=by kernel_rfl
theorem fV:(Tryz.prog.info? 9).map (fun i=>(i.zero,i.size,i.bytes))=some (some (.string ⟨#[]⟩),1,16):=by kernel_rfl
theorem AY {α:Type} (cur xs zs:List α) (i n cap k:Nat) (hi:i<n) (hn:n≤cap) (hl:cur.length=cap*k) (hx:cur.take (n*k)=xs) (hxl:xs.length=n*k) (hz:zs.length=k):
  (splice cur (i*k) (xs.drop ((i+1)*k))).length=cap*k∧(splice (splice cur (i*k) (xs.drop ((i+1)*k))) ((n - 1)*k) zs).length=cap*k∧
  (splice (splice cur (i*k) (xs.drop ((i+1)*k))) ((n - 1)*k) zs).take ((n - 1)*k)=xs.take (i*k)++xs.drop ((i+1)*k):=by
 obtain⟨d,rfl⟩:∃d,n=i+1+d:=⟨n - (i+1),by omega⟩
 obtain⟨c,rfl⟩:∃c,cap=i+1+d+c:=⟨cap - (i+1+d),by omega⟩
 have e0:i+1+d - 1=i+d:=by omega
 rw[e0]
 simp only[eF,jY] at*
 have e1:(cur.take (i*k)).length=i*k:=by rw[aD];omega
 have e2:(xs.drop (i*k+k)).length=d*k:=by rw[aO];omega
 have hl1:(splice cur (i*k) (xs.drop (i*k+k))).length=i*k+k+d*k+c*k:=by rw[length_splice _ _ _ (by rw[e2];omega)];exact hl
 refine⟨hl1,by rw[length_splice _ _ _ (by rw[hl1];omega)];exact hl1,?_⟩
 unfold splice
 rw[bQ (by rw[aD];simp only[aC,aD,aO];omega),dF,gN,←aL,
  bQ (by rw[aC,e1,e2];omega),aN (by rw[aC,e1,e2];omega),←hx,dF,bM (by omega)]
theorem Gb (g cap n i:Nat) (xs:List Value) (w:World) (S:Nat→Prop) (B:Nat) (h:aS w S B 130 2 (.slice (some ⟨g,0,none⟩) n cap) n xs) (hone:∀u∈xs,u.oneCell'=true) (hi:i<n) (hn:n≤1000000):
  Calls Tryz.prog 121 #[.slice (some ⟨g,0,none⟩) n cap,.int .i64 i,.int .i64 ((i:Int)+1)] w fun e w'=>∃c,e= .returned (.slice (some ⟨g,0,none⟩) (n - 1) c)∧aS w' S B 130 2 (.slice (some ⟨g,0,none⟩) (n - 1) c) (n - 1) (xs.take (i*2)++xs.drop ((i+1)*2))∧Keep (· =g) w w':=by
 obtain⟨cur,hr,hl,hx,hB,hSg,hc,hc2⟩:=h.row
 have hxl:=h.1.1
 have hc3:cap≤9223372036854775807:=by simpa [maxLen] using hc2
 clear h
 have k1:(0:Int)≤(i:Int):=by omega
 have k2:(i:Int)≤(cap:Int):=by omega
 have k3:(0:Int)≤(i:Int)+1:=by omega
 have k4:(i:Int)+1≤(n:Int):=by omega
 have k5:((i:Int)+1).toNat=i+1:=by omega
 have hsrc:Src Tryz.prog 2 126 (.slice (if cap=i+1 then some ⟨g,0,none⟩ else some ⟨g,(i+1)*2,none⟩) (n - (i+1)) (cap - (i+1))) (n - (i+1)) (xs.drop ((i+1)*2)) w.drew:=by
  split
  ·obtain rfl:n=i+1:=by omega
   rw[show cap - (i+1)=0 by omega,show i+1 - (i+1)=0 by omega,dQ (by omega)]
   exact Ot _ Tryz.underlying126 _ 0 0 [] rfl (by simp) (by simp)
  ·have:=(Row.dD (w:=w.drew) (S:=fO) (k:=2) (off:=(i+1)*2) hr (n - (i+1)) (cap - (i+1)) (by omega) id (by omega) (by unfold maxLen at*;omega)).src Tryz.underlying126
   rw[show (cur.drop ((i+1)*2)).take ((n - (i+1))*2)=xs.drop ((i+1)*2) by rw[←hx,gQ,show (i+1)*2=(i+1)*2 by omega];congr 1;omega] at this
   exact this fun u hu=>hone u (bS hu)
 have hm:i+(n - (i+1))=n - 1:=by omega
 generalize hao:(if cap=i+1 then some (⟨g,0,none⟩:Addr) else some ⟨g,(i+1)*2,none⟩)=ao at hsrc
 have Hao:=af hao
 clear hao
 have k6:¬cap=n - 1:=by omega
 have k7:n - (n - 1)=1:=by omega
 have hl1:(splice cur (i*2) (xs.drop ((i+1)*2))).length=cap*2:=by rw[length_splice _ _ _ (by rw[aO];omega)];exact hl
 have Hl:=af hl;clear hl
 have Hx:=af hx;clear hx
 have Hxl:=af hxl;clear hxl
 have Hl1:=af hl1;clear hl1
 go_enter Tryz.func121,Tryz.ntmps121
 go_wp2
 go_region_held3 (fun _=>True) (trivial) (first|(rw[Hao.out];(refine wR rfl (vR (.tmp 22) (.tmp 25) 126 126 rfl 130 2 32 _ Tryz.underlying126 jO g i cap _ cur rfl hr (.slice ao (n - (i+1)) (cap - (i+1))) (n - (i+1)) _ rfl hsrc ?_ ?_ ?_));(focus omega);(focus (have:=Hxl.out;have:=Hl.out;rw[aO];omega));intro w1 hr1 hk1))
 go_wp2_with (first|(refine dM rfl ?_;intro K hK;(refine kD (.tmp 31) 126 rfl 130 2 32 _ Tryz.underlying126 jO rfl g ((n - 1)*2) 130 1 _ (some ⟨g,(n - 1)*2,none⟩) _ rfl hr1 (fun _=>rfl) ?_ ?_ ?_);(focus (rw[Hl1.out];omega));(focus (exact jv _ _ (by simp[Value.cells,Value.oneCell']) (by simp[Value.cells])));intro w2 zs hz hr2 hk2;refine hK _ _ ?_))
 go_ret
 obtain⟨_,q2,q3⟩:=AY cur xs zs i n cap 2 hi hc Hl.out Hx.out Hxl.out (by rw[hz])
 refine⟨cap,rfl,?_,((Keep.refl (· =g) w).drew.trans hk1 (fun _ _ h=>h)).trans hk2 (fun _ _ h=>h)⟩
 rw[←q3]
 exact Row.own (cur:=splice _ ((n - 1)*2) zs) (hr2) (n - 1) q2 hB hSg (by omega) hc2
theorem IV (g cap n i:Nat) (xs:List Value) (w:World) (S:Nat→Prop) (B:Nat) (h:aS w S B 3 1 (.slice (some ⟨g,0,none⟩) n cap) n xs) (hone:∀u∈xs,u.oneCell'=true) (hi:i<n) (hn:n≤1000000):
  Calls Tryz.prog 192 #[.slice (some ⟨g,0,none⟩) n cap,.int .i64 i,.int .i64 ((i:Int)+1)] w fun e w'=>∃c,e= .returned (.slice (some ⟨g,0,none⟩) (n - 1) c)∧aS w' S B 3 1 (.slice (some ⟨g,0,none⟩) (n - 1) c) (n - 1) (xs.take (i*1)++xs.drop ((i+1)*1))∧Keep (· =g) w w':=by
 obtain⟨cur,hr,hl,hx,hB,hSg,hc,hc2⟩:=h.row
 have hxl:=h.1.1
 have hc3:cap≤9223372036854775807:=by simpa [maxLen] using hc2
 clear h
 have k1:(0:Int)≤(i:Int):=by omega
 have k2:(i:Int)≤(cap:Int):=by omega
 have k3:(0:Int)≤(i:Int)+1:=by omega
 have k4:(i:Int)+1≤(n:Int):=by omega
 have k5:((i:Int)+1).toNat=i+1:=by omega
 have hsrc:Src Tryz.prog 1 151 (.slice (if cap=i+1 then some ⟨g,0,none⟩ else some ⟨g,i+1,none⟩) (n - (i+1)) (cap - (i+1))) (n - (i+1)) (xs.drop ((i+1)*1)) w.drew:=by
  split
  ·obtain rfl:n=i+1:=by omega
   rw[show cap - (i+1)=0 by omega,show i+1 - (i+1)=0 by omega,dQ (by omega)]
   exact Ot _ Tryz.underlying151 _ 0 0 [] rfl (by simp) (by simp)
  ·have:=(Row.dD (w:=w.drew) (S:=fO) (k:=1) (off:=i+1) hr (n - (i+1)) (cap - (i+1)) (by omega) id (by omega) (by unfold maxLen at*;omega)).src Tryz.underlying151
   rw[show (cur.drop (i+1)).take ((n - (i+1))*1)=xs.drop ((i+1)*1) by rw[←hx,gQ,show (i+1)*1=i+1 by omega];congr 1;omega] at this
   exact this fun u hu=>hone u (bS hu)
 have hm:i+(n - (i+1))=n - 1:=by omega
 generalize hao:(if cap=i+1 then some (⟨g,0,none⟩:Addr) else some ⟨g,i+1,none⟩)=ao at hsrc
 have Hao:=af hao
 clear hao
 have k6:¬cap=n - 1:=by omega
 have k7:n - (n - 1)=1:=by omega
 have hl1:(splice cur (i*1) (xs.drop ((i+1)*1))).length=cap*1:=by rw[length_splice _ _ _ (by rw[aO];omega)];exact hl
 have Hl:=af hl;clear hl
 have Hx:=af hx;clear hx
 have Hxl:=af hxl;clear hxl
 have Hl1:=af hl1;clear hl1
 go_enter Tryz.func192,Tryz.ntmps192
 go_wp2
 go_region_held3 (fun _=>True) (trivial) (first|(rw[Hao.out];(refine wR rfl (vR (.tmp 22) (.tmp 25) 151 151 rfl 3 1 8 _ Tryz.underlying151 gV g i cap _ cur rfl hr (.slice ao (n - (i+1)) (cap - (i+1))) (n - (i+1)) _ rfl hsrc ?_ ?_ ?_));(focus omega);(focus (have:=Hxl.out;have:=Hl.out;rw[aO];omega));intro w1 hr1 hk1))
 go_wp2_with (first|(refine dM rfl ?_;intro K hK;(refine kD (.tmp 31) 151 rfl 3 1 8 _ Tryz.underlying151 gV rfl g (n - 1) 3 1 _ (some ⟨g,n - 1,none⟩) _ rfl hr1 (fun _=>rfl) ?_ ?_ ?_);(focus (rw[Hl1.out];omega));(focus (exact jv _ _ (by simp[Value.cells,Value.oneCell']) (by simp[Value.cells])));intro w2 zs hz hr2 hk2;refine hK _ _ ?_))
 go_ret
 obtain⟨_,q2,q3⟩:=AY cur xs zs i n cap 1 hi hc Hl.out Hx.out Hxl.out (by rw[hz])
 refine⟨cap,rfl,?_,((Keep.refl (· =g) w).drew.trans hk1 (fun _ _ h=>h)).trans hk2 (fun _ _ h=>h)⟩
 rw[←q3]
 exact Row.own (cur:=splice _ ((n - 1)*1) zs) (by simpa only[aV] using hr2) (n - 1) q2 hB hSg (by omega) hc2
theorem IU (g cap n i:Nat) (xs:List Value) (w:World) (S:Nat→Prop) (B:Nat) (h:aS w S B 9 1 (.slice (some ⟨g,0,none⟩) n cap) n xs) (hone:∀u∈xs,u.oneCell'=true) (hi:i<n) (hn:n≤1000000):
  Calls Tryz.prog 193 #[.slice (some ⟨g,0,none⟩) n cap,.int .i64 i,.int .i64 ((i:Int)+1)] w fun e w'=>∃c,e= .returned (.slice (some ⟨g,0,none⟩) (n - 1) c)∧aS w' S B 9 1 (.slice (some ⟨g,0,none⟩) (n - 1) c) (n - 1) (xs.take (i*1)++xs.drop ((i+1)*1))∧Keep (· =g) w w':=by
 obtain⟨cur,hr,hl,hx,hB,hSg,hc,hc2⟩:=h.row
 have hxl:=h.1.1
 have hc3:cap≤9223372036854775807:=by simpa [maxLen] using hc2
 clear h
 have k1:(0:Int)≤(i:Int):=by omega
 have k2:(i:Int)≤(cap:Int):=by omega
 have k3:(0:Int)≤(i:Int)+1:=by omega
 have k4:(i:Int)+1≤(n:Int):=by omega
 have k5:((i:Int)+1).toNat=i+1:=by omega
 have hsrc:Src Tryz.prog 1 22 (.slice (if cap=i+1 then some ⟨g,0,none⟩ else some ⟨g,i+1,none⟩) (n - (i+1)) (cap - (i+1))) (n - (i+1)) (xs.drop ((i+1)*1)) w.drew:=by
  split
  ·obtain rfl:n=i+1:=by omega
   rw[show cap - (i+1)=0 by omega,show i+1 - (i+1)=0 by omega,dQ (by omega)]
   exact Ot _ Tryz.underlying22 _ 0 0 [] rfl (by simp) (by simp)
  ·have:=(Row.dD (w:=w.drew) (S:=fO) (k:=1) (off:=i+1) hr (n - (i+1)) (cap - (i+1)) (by omega) id (by omega) (by unfold maxLen at*;omega)).src Tryz.underlying22
   rw[show (cur.drop (i+1)).take ((n - (i+1))*1)=xs.drop ((i+1)*1) by rw[←hx,gQ,show (i+1)*1=i+1 by omega];congr 1;omega] at this
   exact this fun u hu=>hone u (bS hu)
 have hm:i+(n - (i+1))=n - 1:=by omega
 generalize hao:(if cap=i+1 then some (⟨g,0,none⟩:Addr) else some ⟨g,i+1,none⟩)=ao at hsrc
 have Hao:=af hao
 clear hao
 have k6:¬cap=n - 1:=by omega
 have k7:n - (n - 1)=1:=by omega
 have hl1:(splice cur (i*1) (xs.drop ((i+1)*1))).length=cap*1:=by rw[length_splice _ _ _ (by rw[aO];omega)];exact hl
 have Hl:=af hl;clear hl
 have Hx:=af hx;clear hx
 have Hxl:=af hxl;clear hxl
 have Hl1:=af hl1;clear hl1
 go_enter Tryz.func193,Tryz.ntmps193
 go_wp2
 go_region_held3 (fun _=>True) (trivial) (first|(rw[Hao.out];(refine wR rfl (vR (.tmp 22) (.tmp 25) 22 22 rfl 9 1 16 _ Tryz.underlying22 fV g i cap _ cur rfl hr (.slice ao (n - (i+1)) (cap - (i+1))) (n - (i+1)) _ rfl hsrc ?_ ?_ ?_));(focus omega);(focus (have:=Hxl.out;have:=Hl.out;rw[aO];omega));intro w1 hr1 hk1))
 go_wp2_with (first|(refine dM rfl ?_;intro K hK;(refine kD (.tmp 31) 22 rfl 9 1 16 _ Tryz.underlying22 fV rfl g (n - 1) 9 1 _ (some ⟨g,n - 1,none⟩) _ rfl hr1 (fun _=>rfl) ?_ ?_ ?_);(focus (rw[Hl1.out];omega));(focus (exact jv _ _ (by simp[Value.cells,Value.oneCell']) (by simp[Value.cells])));intro w2 zs hz hr2 hk2;refine hK _ _ ?_))
 go_ret
 obtain⟨_,q2,q3⟩:=AY cur xs zs i n cap 1 hi hc Hl.out Hx.out Hxl.out (by rw[hz])
 refine⟨cap,rfl,?_,((Keep.refl (· =g) w).drew.trans hk1 (fun _ _ h=>h)).trans hk2 (fun _ _ h=>h)⟩
 rw[←q3]
 exact Row.own (cur:=splice _ ((n - 1)*1) zs) (by simpa only[aV] using hr2) (n - 1) q2 hB hSg (by omega) hc2
def L (nd:Nd) (k:Nat):List UInt8:=[b8 nd.pairs.length,b8 nd.kids.length]++nZ (nd.pairs.take k)
theorem Q5 (nd:Nd) (k:Nat):(L nd k).length≤2+dU nd.pairs:=by
 have:=jF nd.pairs k
 simp only[L,aC,uZ,bf,bG];omega
theorem yw (n:Nat):((b8 n).toNat:Int)=(n:Int)%256:=by simp[b8]
theorem Q0 (nd:Nd):(L nd 0).length=2:=rfl
theorem Eg (nd:Nd):aJ (L nd 0)=[.int .u8 ((nd.pairs.length:Int)%256),.int .u8 ((nd.kids.length:Int)%256)]:=by
 simp[L,nZ,aJ,yw]
theorem Ob {nd:Nd} {k:Nat} (h:k<nd.pairs.length):L nd (k+1)=L nd k++AX nd.pairs[k]:=by
 simp only[L,nZ,nC AX nd.pairs k h,aL]
theorem P9 {nd:Nd} {k:Nat} (h:k<nd.pairs.length):(L nd (k+1)).length=(L nd k).length+2+nd.pairs[k].1.size+nd.pairs[k].2.size:=by
 rw[Ob h,aC,wW];omega
theorem PI {nd:Nd} {k:Nat} (h:k<nd.pairs.length):aJ (L nd (k+1))=aJ (L nd k)++[.int .u8 ((nd.pairs[k].1.size:Int)%256),.int .u8 ((nd.pairs[k].2.size:Int)%256)]++byteCells nd.pairs[k].1++byteCells nd.pairs[k].2:=by
 rw[Ob h,gm]
 simp only[AX,gm,wY,aL]
 simp[aJ,yw]
def L2 (nd:Nd) (k:Nat):List UInt8:=L nd nd.pairs.length++jI (nd.kids.take k)
theorem JV (nd:Nd):L2 nd 0=L nd nd.pairs.length:=by simp[L2,jI]
theorem Og (nd:Nd) (k:Nat):(L2 nd k).length≤2+dU nd.pairs+2*nd.kids.length:=by
 have:=Q5 nd nd.pairs.length
 simp only[L2,aC,tu,aD];omega
theorem JW {nd:Nd} {k:Nat} (h:k<nd.kids.length):L2 nd (k+1)=L2 nd k++x9 nd.kids[k]:=by
 simp only[L2,jI,nC x9 nd.kids k h,aL]
theorem Oe {nd:Nd} {k:Nat} (h:k<nd.kids.length):(L2 nd (k+1)).length=(L2 nd k).length+2:=by
 rw[JW h,aC];rfl
theorem Oh {nd:Nd} {k:Nat} (h:k<nd.kids.length) (h0:0≤nd.kids[k]) (h1:nd.kids[k]<65536):aJ (L2 nd (k+1))=aJ (L2 nd k)++[.int .u8 (nd.kids[k]%256),.int .u8 (nd.kids[k]/256)]:=by
 rw[JW h,gm]
 congr 1
 generalize nd.kids[k]=x at*
 obtain⟨n,rfl⟩:=Da h0
 simp only[x9,aJ,cO,iw,yw,fU]
 congr 2
 congr 1
 omega
def L3 (nd:Nd) (k:Nat):List UInt8:=L2 nd nd.kids.length++iI (nd.keys.take k)
theorem JS (nd:Nd):L3 nd 0=L2 nd nd.kids.length:=by simp[L3,iI]
theorem Q6 (nd:Nd):L3 nd nd.keys.length=nd.enc:=by simp only[L3,L2,L,bU];rfl
theorem R5 (nd:Nd) (k:Nat):(L3 nd k).length≤2+dU nd.pairs+2*nd.kids.length+dY nd.keys:=by
 have:=Og nd nd.kids.length
 have:=oK nd.keys k
 simp only[L3,aC,tC];omega
theorem JU {nd:Nd} {k:Nat} (h:k<nd.keys.length):L3 nd (k+1)=L3 nd k++vI nd.keys[k]:=by
 simp only[L3,iI,nC vI nd.keys k h,aL]
theorem Oc {nd:Nd} {k:Nat} (h:k<nd.keys.length):(L3 nd (k+1)).length=(L3 nd k).length+1+nd.keys[k].size:=by
 rw[JU h,aC,vI,bf,gZ];omega
theorem Od {nd:Nd} {k:Nat} (h:k<nd.keys.length):aJ (L3 nd (k+1))=aJ (L3 nd k)++[.int .u8 ((nd.keys[k].size:Int)%256)]++byteCells nd.keys[k]:=by
 rw[JU h,gm,wY,vI]
 simp[aJ,yw]
theorem jq:(Tryz.prog.info? 5).map (fun i=>(i.zero,i.size,i.bytes))=some (some (.int .u8 0),1,1):=by kernel_rfl
theorem IG (b:Nat) (nd:Nd) (w:World) (S:Nat→Prop) (hS:∀g,S g→g<w.heap.size) (h:fF w S b nd) (hs:nd.size≤1000000) (hkid:∀k∈nd.kids,0≤k∧k<65536):
  Calls Tryz.prog 219 #[.pointer (some ⟨b,0,none⟩)] w fun e w'=>∃v,e= .returned v∧aS w' S w.heap.size 5 1 v nd.enc.length (aJ nd.enc)∧Below w.heap.size w w':=by
 obtain⟨_,v0,v1,v2,hb,h0,h1,h2⟩:=h
 obtain⟨c0,c1,c2,_,_,_,hlt⟩:=cells3 hb
 obtain⟨ao0,cp0,rfl,n0,m0,_,_⟩:=bE.form h0
 obtain⟨ao1,cp1,rfl,n1,m1,_,_⟩:=bE.form h1
 obtain⟨ao2,cp2,rfl,n2,m2,_,_⟩:=bE.form h2
 unfold Nd.size at hs
 have l0:=nY nd.pairs
 have l1:=nL nd.keys
 go_enter Tryz.func219,Tryz.ntmps219
 go_wp2
 go_still_tail 12,(by kernel_rfl)
 change wpList _ _ _ _ _ w.drew
 go_wp2
 simp only[yC]
 go_loopw [3,28] (fun v i wr=>∃(k:Nat) (ao:Option Addr) (c:Nat),k≤nd.pairs.length∧i= .int .i64 k∧v= .slice ao (L nd k).length c∧aS wr S w.heap.size 5 1 v (L nd k).length (aJ (L nd k))∧Below w.heap.size w wr) (fun _ i _=>nd.pairs.length - (intOf i).toNat)
 case atStart=>
  have hn:=mO (w:=w) (S:=S) (B:=w.heap.size) (e:=5) (k:=1) [.int .u8 ((nd.pairs.length:Int)%256),.int .u8 ((nd.kids.length:Int)%256)] 2 2 rfl rfl (aG _) (by simp[maxLen]) (aG _) hS
  exact⟨0,_,_,aY _,rfl,rfl,by rw[Q0,Eg];exact hn.drew,((aQ _ _).alloc (aG _) _).drew⟩
 case round=>
  obtain⟨k,ao,c,hk,rfl,rfl,hown,hbel⟩:=hrel
  by_cases hlt2:k<nd.pairs.length
  ·obtain⟨b',o',rfl,hc1,hc2⟩:=h0.at rfl k hlt2
   have d1:=(hbel.cell (p:=⟨b',o'+k*2,none⟩) (aF w _ hc1)).trans hc1
   have d2:=(hbel.cell (p:=⟨b',o'+k*2+1,none⟩) (aF w _ hc2)).trans hc2
   have hSr:∀g,S g→g<wr.heap.size:=fun g hg=>ax (hS g hg) hbel.size
   have hsz:=hbel.size
   have hL:=Q5 nd k
   have hp0:=ou nd.pairs k hlt2
   have hp2:=jF nd.pairs (k+1)
   have hz:nd.pairs[k].1.size+nd.pairs[k].2.size≤dU nd.pairs:=by omega
   clear hp0 hp2
   clear hc1 hc2
   go_wp2_with (at_builtin;go_must ((refine dK rfl (.tmp 32) (.tmp 41) 101 101 rfl S w.heap.size 5 1 1 (.int .u8 0) Tryz.underlying101 jq rfl (.slice ao (L nd k).length c) _ _ rfl (hown.below (fI _ _ _)) _ 2 _ rfl (gM [_,_] _ 1 2 2 (by simp) Tryz.underlying101 rfl ?_) (fD (fD hSr _) _) ?_ ?_ ?_ ?_);(focus (simp[Value.oneCell']));(focus (simp only[aT];omega));(focus (unfold maxLen;omega));(focus omega);intro ao1 c1 w1 hown1 hk1 hb1 hd1))
   have q1:w1.cell? ⟨wr.heap.size,0,none⟩=some (.string nd.pairs[k].1):=(hk1.cell (p:=⟨wr.heap.size,0,none⟩) (by simp;omega) hown.lt).trans (by simp[ve])
   have q2:w1.cell? ⟨wr.heap.size,1,none⟩=some (.string nd.pairs[k].2):=(hk1.cell (p:=⟨wr.heap.size,1,none⟩) (by simp;omega) hown.lt).trans (by simp[ve])
   have n1:(Value.slice ao1 ((L nd k).length+2) c1).ownBlock≠some wr.heap.size:=hd1 _ (by simp;omega) hown.lt
   have hp1:wr.heap.size<w1.heap.size:=by have:=hk1.size;simp at this;omega
   have hs1:w.heap.size≤w1.heap.size:=by omega
   have hS1:=xP (fD (fD hSr _) _) hb1
   go_region_held3 (fun w'=>w'.cell? ⟨wr.heap.size,0,none⟩=some (.string nd.pairs[k].1)∧w'.cell? ⟨wr.heap.size,1,none⟩=some (.string nd.pairs[k].2))
    (first|exact⟨q1,q2⟩|exact⟨q1',q2'⟩|exact⟨q1'',q2''⟩)
    (first
     |((refine EB rfl (.tmp 43) (.tmp 45) 101 9 rfl S w.heap.size 5 1 1 (.int .u8 0) Tryz.underlying101 jq rfl (.slice ao1 ((L nd k).length+2) c1) _ _ rfl hown1.drew (.string nd.pairs[k].1) _ _ rfl (Jc _ Tryz.underlying9 _) hS1 ?_ ?_ ?_ ?_);(focus (exact hs1));(focus (unfold maxLen;omega));(focus omega);(intro ao2' c2' w2 hown2 hk2 hb2 hd2);(have q1':=(hk2.cell (p:=⟨wr.heap.size,0,none⟩) hp1 n1).trans q1);(have q2':=(hk2.cell (p:=⟨wr.heap.size,1,none⟩) hp1 n1).trans q2);(have n2':=hd2 _ hp1 n1))
     |((refine EB rfl (.tmp 46) (.tmp 48) 101 9 rfl S w.heap.size 5 1 1 (.int .u8 0) Tryz.underlying101 jq rfl (.slice ao2' ((L nd k).length+2+nd.pairs[k].1.size) c2') _ _ rfl hown2 (.string nd.pairs[k].2) _ _ rfl (Jc _ Tryz.underlying9 _) (xP (w:=w1.drew) hS1 hb2) ?_ ?_ ?_ ?_);(focus (exact aH hs1 hk2.size));(focus (unfold maxLen;omega));(focus omega);(intro ao3 c3 w3 hown3 hk3 hb3 hd3);(have q1'':=(hk3.cell (p:=⟨wr.heap.size,0,none⟩) (ax hp1 hk2.size) n2').trans q1');(have q2'':=(hk3.cell (p:=⟨wr.heap.size,1,none⟩) (ax hp1 hk2.size) n2').trans q2')))
   go_wp2
   go_roundw
   case rel=>exact⟨k+1,ao3,c3,by omega,by go_num,by rw[P9 hlt2],by rw[P9 hlt2,PI hlt2];exact hown3,((hbel.trans (fI wr _ _|>.mono hsz)).trans hb1).trans (Below.trans (b:=w1.drew) (aQ _ _).drew (hb2.trans hb3))⟩
   case measure=>simp[intOf];omega
  ·obtain rfl:k=nd.pairs.length:=by omega
   have c1':=(hbel.cell (p:=⟨b,1,none⟩) hlt).trans c1
   have c2':=(hbel.cell (p:=⟨b,2,none⟩) hlt).trans c2
   have hlt':b<wr.heap.size:=ax hlt hbel.size
   have hL:=Q5 nd nd.pairs.length
   clear hlt2 h0 hk hb c0 c2
   obtain⟨wo,rfl⟩:∃wo:World,wo=wr:=⟨_,rfl⟩
   go_wp2
   go_loopw [3,56] (fun v i wr=>∃(k:Nat) (ao:Option Addr) (c:Nat),k≤nd.kids.length∧i= .int .i64 k∧v= .slice ao (L2 nd k).length c∧aS wr S w.heap.size 5 1 v (L2 nd k).length (aJ (L2 nd k))∧Below w.heap.size w wr) (fun _ i _=>nd.kids.length - (intOf i).toNat)
   case atStart=>exact⟨0,ao,c,aY _,rfl,by rw[JV],by rw[JV];exact hown,hbel⟩
   case round=>
    obtain⟨k,ao,c,hk,rfl,rfl,hown,hbel⟩:=hrel
    by_cases hlt2:k<nd.kids.length
    ·obtain⟨b',o',rfl,hc1⟩:=h2.at rfl k hlt2
     have d1:=(hbel.cell (p:=⟨b',o'+k,none⟩) (aF w _ hc1)).trans hc1
     have hSr:∀g,S g→g<wr.heap.size:=fun g hg=>ax (hS g hg) hbel.size
     have hsz:=hbel.size
     have hL:=Og nd k
     obtain⟨hk0,hk1'⟩:=hkid nd.kids[k] (bq hlt2)
     go_wp2_with (at_builtin;go_must ((refine dK rfl (.tmp 60) (.tmp 66) 101 101 rfl S w.heap.size 5 1 1 (.int .u8 0) Tryz.underlying101 jq rfl (.slice ao (L2 nd k).length c) _ _ rfl (hown.below (aI _ _)) _ 2 _ rfl (gM [_,_] _ 1 2 2 (by simp) Tryz.underlying101 rfl ?_) (fD hSr _) ?_ ?_ ?_ ?_);(focus (simp[Value.oneCell']));(focus (simp only[aT];omega));(focus (unfold maxLen;omega));(focus omega);intro ao1 c1 w1 hown1 hk1 hb1 hd1))
     go_roundw
     case rel=>exact⟨k+1,ao1,c1,by omega,by go_num,by rw[Oe hlt2],by rw[Oe hlt2,Oh hlt2 hk0 hk1'];exact hown1,(hbel.trans (aI wr _|>.mono hsz)).trans hb1⟩
     case measure=>simp[intOf];omega
    ·obtain rfl:k=nd.kids.length:=by omega
     have c1'':=(hbel.cell (p:=⟨b,1,none⟩) hlt).trans c1
     have hL:=Og nd nd.kids.length
     clear hlt2 h2 hk c1' c2'
     obtain⟨w2o,rfl⟩:∃w2o:World,w2o=wr:=⟨_,rfl⟩
     go_wp2
     go_loopw [3,74] (fun v i wr=>∃(k:Nat) (ao:Option Addr) (c:Nat),k≤nd.keys.length∧i= .int .i64 k∧v= .slice ao (L3 nd k).length c∧aS wr S w.heap.size 5 1 v (L3 nd k).length (aJ (L3 nd k))∧Below w.heap.size w wr) (fun _ i _=>nd.keys.length - (intOf i).toNat)
     case atStart=>exact⟨0,ao,c,aY _,rfl,by rw[JS],by rw[JS];exact hown,hbel⟩
     case round=>
      obtain⟨k,ao,c,hk,rfl,rfl,hown,hbel⟩:=hrel
      by_cases hlt2:k<nd.keys.length
      ·obtain⟨b',o',rfl,hc1⟩:=h1.at rfl k hlt2
       have d1:=(hbel.cell (p:=⟨b',o'+k,none⟩) (aF w _ hc1)).trans hc1
       have hSr:∀g,S g→g<wr.heap.size:=fun g hg=>ax (hS g hg) hbel.size
       have hsz:=hbel.size
       have hL:=R5 nd k
       have hp0:=ru nd.keys k hlt2
       have hp2:=oK nd.keys (k+1)
       have hz:nd.keys[k].size≤dY nd.keys:=by omega
       clear hp0 hp2
       go_wp2_with (first
        |(at_builtin;(refine dK rfl (.tmp 78) (.tmp 82) 101 101 rfl S w.heap.size 5 1 1 (.int .u8 0) Tryz.underlying101 jq rfl (.slice ao (L3 nd k).length c) _ _ rfl (hown.below (aI _ _)) _ 1 _ rfl (gM [_] _ 1 1 1 (by simp) Tryz.underlying101 rfl ?_) (fD hSr _) ?_ ?_ ?_ ?_);(focus (simp[Value.oneCell']));(focus (simp only[aT];omega));(focus (unfold maxLen;omega));(focus omega);intro ao1 c1 w1 hown1 hk1 hb1 hd1)
        |(at_builtin;(refine dK rfl (.tmp 83) (.tmp 84) 101 9 rfl S w.heap.size 5 1 1 (.int .u8 0) Tryz.underlying101 jq rfl (.slice ao1 ((L3 nd k).length+1) c1) _ _ rfl hown1 (.string nd.keys[k]) _ _ rfl (Jc _ Tryz.underlying9 _) (xP (fD hSr _) hb1) ?_ ?_ ?_ ?_);(focus (have:=hb1.size;simp only[aT] at this;omega));(focus (unfold maxLen;omega));(focus omega);intro ao2 c2 w2 hown2 hk2 hb2 hd2))
       go_roundw
       case rel=>exact⟨k+1,ao2,c2,by omega,by go_num,by rw[Oc hlt2],by rw[Oc hlt2,Od hlt2];exact hown2,((hbel.trans (aI wr _|>.mono hsz)).trans hb1).trans hb2⟩
       case measure=>simp[intOf];omega
      ·obtain rfl:k=nd.keys.length:=by omega
       go_wp2
       go_ret
       exact⟨_,rfl,by rw[←Q6];exact hown,hbel⟩
theorem tK (v:Value) (n:Nat) (xs:List Value) (w:World) (S:Nat→Prop) (hS:∀g,S g→g<w.heap.size) (h:bE w S 1 v n xs) (h1:∀u∈xs,u.oneCell'=true) (hn:n≤1000000):
  Calls Tryz.prog 142 #[v] w fun e w'=>∃v',e= .returned v'∧aS w' S w.heap.size 5 1 v' n xs∧Below w.heap.size w w':=by
 have hsrc:=h.src (P:=Tryz.prog) Tryz.underlying101 h1
 obtain⟨ao,c,rfl,g1,g2,g3,g4⟩:=h.form
 cases ao with
 |none=>
  obtain rfl:c=0:=g4 rfl
  obtain rfl:n=0:=by omega
  have hx:xs=[]:=aU (by obtain⟨_,_,_,_,_,e,_⟩:=h;simpa using e)
  subst hx
  have hq:=fun w=>iZ (P:=Tryz.prog) w 101 5 none 0 0 0 0 Tryz.underlying101
  clear hsrc h g3 g4
  go_enter Tryz.func142,Tryz.ntmps142
  go_wp2
  go_ret
  exact⟨_,rfl,aS.nil _ _ _ _ _,aQ _ _⟩
 |some ad=>
  have hq:=fun w=>iZ (P:=Tryz.prog) w 101 5 (some ad) n c 0 0 Tryz.underlying101
  have hn0:=mO (w:=w) (S:=S) (B:=w.heap.size) (e:=5) (k:=1) [] 0 0 rfl rfl (aG _) (aY _) (aG _) hS
  have hsrc':Src Tryz.prog 1 101 (.slice (some ad) n c) n xs (w.alloc (.cells #[] 5)):=(h.below (aI w _)).src Tryz.underlying101 h1
  clear hsrc h g3 g4
  go_enter Tryz.func142,Tryz.ntmps142
  go_wp2_with (at_builtin;(refine dK rfl (.tmp 5) (.tmp 6) 101 101 rfl S w.heap.size 5 1 1 _ Tryz.underlying101 jq rfl (.slice (some ⟨w.heap.size,0,none⟩) 0 0) 0 [] rfl hn0 (.slice (some ad) n c) _ _ rfl hsrc' (fD hS _) ?_ ?_ ?_ ?_);(focus (simp only[aT];omega));(focus (unfold maxLen;omega));(focus omega);intro ao1 c1 w1 hown1 hk1 hb1 hd1;simp only[eH])
  go_ret
  simp only[eH,gB] at hown1
  exact⟨_,rfl,hown1,(aI w _).trans hb1⟩
theorem rH (v:Value) (n:Nat) (xs:List Value) (w:World) (S:Nat→Prop) (hS:∀g,S g→g<w.heap.size) (h:bE w S 1 v n xs) (h1:∀u∈xs,u.oneCell'=true) (hn:n≤1000000):
  Calls Tryz.prog 189 #[v] w fun e w'=>∃v',e= .returned v'∧aS w' S w.heap.size 3 1 v' n xs∧Below w.heap.size w w':=by
 have hsrc:=h.src (P:=Tryz.prog) Tryz.underlying151 h1
 obtain⟨ao,c,rfl,g1,g2,g3,g4⟩:=h.form
 cases ao with
 |none=>
  obtain rfl:c=0:=g4 rfl
  obtain rfl:n=0:=by omega
  have hx:xs=[]:=aU (by obtain⟨_,_,_,_,_,e,_⟩:=h;simpa using e)
  subst hx
  have hq:=fun w=>iZ (P:=Tryz.prog) w 151 3 none 0 0 0 0 Tryz.underlying151
  clear hsrc h g3 g4
  go_enter Tryz.func189,Tryz.ntmps189
  go_wp2
  go_ret
  exact⟨_,rfl,aS.nil _ _ _ _ _,aQ _ _⟩
 |some ad=>
  have hq:=fun w=>iZ (P:=Tryz.prog) w 151 3 (some ad) n c 0 0 Tryz.underlying151
  have hn0:=mO (w:=w) (S:=S) (B:=w.heap.size) (e:=3) (k:=1) [] 0 0 rfl rfl (aG _) (aY _) (aG _) hS
  have hsrc':Src Tryz.prog 1 151 (.slice (some ad) n c) n xs (w.alloc (.cells #[] 3)):=(h.below (aI w _)).src Tryz.underlying151 h1
  clear hsrc h g3 g4
  go_enter Tryz.func189,Tryz.ntmps189
  go_wp2_with (at_builtin;(refine dK rfl (.tmp 5) (.tmp 6) 151 151 rfl S w.heap.size 3 1 8 _ Tryz.underlying151 gV rfl (.slice (some ⟨w.heap.size,0,none⟩) 0 0) 0 [] rfl hn0 (.slice (some ad) n c) _ _ rfl hsrc' (fD hS _) ?_ ?_ ?_ ?_);(focus (simp only[aT];omega));(focus (unfold maxLen;omega));(focus omega);intro ao1 c1 w1 hown1 hk1 hb1 hd1;simp only[eH])
  go_ret
  simp only[eH,gB] at hown1
  exact⟨_,rfl,hown1,(aI w _).trans hb1⟩
theorem rG (v:Value) (n:Nat) (xs:List Value) (w:World) (S:Nat→Prop) (hS:∀g,S g→g<w.heap.size) (h:bE w S 1 v n xs) (h1:∀u∈xs,u.oneCell'=true) (hn:n≤1000000):
  Calls Tryz.prog 191 #[v] w fun e w'=>∃v',e= .returned v'∧aS w' S w.heap.size 9 1 v' n xs∧Below w.heap.size w w':=by
 have hsrc:=h.src (P:=Tryz.prog) Tryz.underlying22 h1
 obtain⟨ao,c,rfl,g1,g2,g3,g4⟩:=h.form
 cases ao with
 |none=>
  obtain rfl:c=0:=g4 rfl
  obtain rfl:n=0:=by omega
  have hx:xs=[]:=aU (by obtain⟨_,_,_,_,_,e,_⟩:=h;simpa using e)
  subst hx
  have hq:=fun w=>iZ (P:=Tryz.prog) w 22 9 none 0 0 0 0 Tryz.underlying22
  clear hsrc h g3 g4
  go_enter Tryz.func191,Tryz.ntmps191
  go_wp2
  go_ret
  exact⟨_,rfl,aS.nil _ _ _ _ _,aQ _ _⟩
 |some ad=>
  have hq:=fun w=>iZ (P:=Tryz.prog) w 22 9 (some ad) n c 0 0 Tryz.underlying22
  have hn0:=mO (w:=w) (S:=S) (B:=w.heap.size) (e:=9) (k:=1) [] 0 0 rfl rfl (aG _) (aY _) (aG _) hS
  have hsrc':Src Tryz.prog 1 22 (.slice (some ad) n c) n xs (w.alloc (.cells #[] 9)):=(h.below (aI w _)).src Tryz.underlying22 h1
  clear hsrc h g3 g4
  go_enter Tryz.func191,Tryz.ntmps191
  go_wp2_with (at_builtin;(refine dK rfl (.tmp 5) (.tmp 6) 22 22 rfl S w.heap.size 9 1 16 _ Tryz.underlying22 fV rfl (.slice (some ⟨w.heap.size,0,none⟩) 0 0) 0 [] rfl hn0 (.slice (some ad) n c) _ _ rfl hsrc' (fD hS _) ?_ ?_ ?_ ?_);(focus (simp only[aT];omega));(focus (unfold maxLen;omega));(focus omega);intro ao1 c1 w1 hown1 hk1 hb1 hd1;simp only[eH])
  go_ret
  simp only[eH,gB] at hown1
  exact⟨_,rfl,hown1,(aI w _).trans hb1⟩
theorem BR (v:Value) (n:Nat) (xs:List Value) (w:World) (S:Nat→Prop) (hS:∀g,S g→g<w.heap.size) (h:bE w S 2 v n xs) (h1:∀u∈xs,u.oneCell'=true) (hn:n≤1000000):
  Calls Tryz.prog 190 #[v] w fun e w'=>∃v',e= .returned v'∧aS w' S w.heap.size 130 2 v' n xs∧Below w.heap.size w w':=by
 have hsrc:=h.src (P:=Tryz.prog) Tryz.underlying126 h1
 obtain⟨ao,c,rfl,g1,g2,g3,g4⟩:=h.form
 cases ao with
 |none=>
  obtain rfl:c=0:=g4 rfl
  obtain rfl:n=0:=by omega
  have hx:xs=[]:=aU (by obtain⟨_,_,_,_,_,e,_⟩:=h;simpa using e)
  subst hx
  have hq:=fun w=>iZ (P:=Tryz.prog) w 126 130 none 0 0 0 0 Tryz.underlying126
  clear hsrc h g3 g4
  go_enter Tryz.func190,Tryz.ntmps190
  go_wp2
  go_ret
  exact⟨_,rfl,aS.nil _ _ _ _ _,aQ _ _⟩
 |some ad=>
  have hq:=fun w=>iZ (P:=Tryz.prog) w 126 130 (some ad) n c 0 0 Tryz.underlying126
  have hn0:=mO (w:=w) (S:=S) (B:=w.heap.size) (e:=130) (k:=2) [] 0 0 rfl rfl (aG _) (aY _) (aG _) hS
  have hsrc':Src Tryz.prog 2 126 (.slice (some ad) n c) n xs (w.alloc (.cells #[] 130)):=(h.below (aI w _)).src Tryz.underlying126 h1
  clear hsrc h g3 g4
  go_enter Tryz.func190,Tryz.ntmps190
  go_wp2_with (at_builtin;(refine dK rfl (.tmp 5) (.tmp 6) 126 126 rfl S w.heap.size 130 2 32 _ Tryz.underlying126 jO rfl (.slice (some ⟨w.heap.size,0,none⟩) 0 0) 0 [] rfl hn0 (.slice (some ad) n c) _ _ rfl hsrc' (fD hS _) ?_ ?_ ?_ ?_);(focus (simp only[aT];omega));(focus (unfold maxLen;omega));(focus omega);intro ao1 c1 w1 hown1 hk1 hb1 hd1;simp only[eH])
  go_ret
  simp only[eH,gB] at hown1
  exact⟨_,rfl,hown1,(aI w _).trans hb1⟩
end Go.Proofs.YtpgdljlghiifjaaGreatDoor
namespace Go.Proofs.YtpgdljlghiifjaaGreatDoor
set_option maxRecDepth 100000
set_option maxHeartbeats 8000000
set_option linter.all false
def lt (a b:ByteArray):Bool:=Op.bytesLess a.toList b.toList
theorem CW:∀l:List UInt8,Op.bytesLess l l=false
 |[]=>rfl
 |a::l=>by simp[Op.bytesLess,CW l]
theorem Gn:∀a b c:List UInt8,Op.bytesLess a b=true→Op.bytesLess b c=true→Op.bytesLess a c=true
 |_,[],_=>by simp[Op.bytesLess]
 |_,_::_,[]=>by simp[Op.bytesLess]
 |[],_::_,_::_=>by simp[Op.bytesLess]
 |x::a,y::b,z::c=>by
  have ih:=Gn a b c
  simp only[Op.bytesLess,nU,dS,bY,nP]
  rintro(h|⟨rfl,h⟩) (k|⟨rfl,k⟩)
  ·exact .inl (UInt8.lt_trans h k)
  ·exact .inl h
  ·exact .inl k
  ·exact .inr ⟨rfl,ih h k⟩
theorem Gp:∀a b:List UInt8,Op.bytesLess a b=false→Op.bytesLess b a=false→a=b
 |[],[]=>fun _ _=>rfl
 |[],_::_=>by simp[Op.bytesLess]
 |_::_,[]=>by simp[Op.bytesLess]
 |x::a,y::b=>by
  have ih:=Gp a b
  simp only[Op.bytesLess,Bool.or_eq_false_iff,GD,qM,di]
  rintro⟨h1,h2⟩ ⟨k1,k2⟩
  have e:x=y:=by
   apply Gx.1
   rw[UInt8.lt_iff_toNat_lt] at h1 k1
   omega
  subst e
  rw[ih (by simpa using h2) (by simpa using k2)]
theorem toList_eq (a:ByteArray):a.toList=a.data.toList:=ByteArray.toList_eq a
theorem toList_inj {a b:ByteArray} (h:a.toList=b.toList):a=b:=by
 rw[toList_eq,toList_eq] at h
 cases a;cases b;congr;exact qB h
theorem lt_irrefl (a:ByteArray):lt a a=false:=CW _
theorem lt_trans {a b c:ByteArray} (h:lt a b=true) (k:lt b c=true):lt a c=true:=Gn _ _ _ h k
theorem wL {a b:ByteArray} (h:lt a b=false) (k:lt b a=false):a=b:=toList_inj (Gp _ _ h k)
theorem lt_asymm {a b:ByteArray} (h:lt a b=true):lt b a=false:=by
 cases hb:lt b a with
 |false=>rfl
 |true=>have:=lt_trans h hb;rw[lt_irrefl] at this;cases this
theorem PW {a b:ByteArray} (h:lt a b=true):a≠b:=by rintro rfl;rw[lt_irrefl] at h;cases h
theorem PX {a b c:ByteArray} (h:lt b a=false) (k:lt b c=true):lt a c=true:=by
 cases hab:lt a b with
 |true=>exact lt_trans hab k
 |false=>rw[wL hab h];exact k
theorem Ak {a b c:ByteArray} (h:lt a b=true) (k:lt c b=false):lt a c=true:=by
 cases hbc:lt b c with
 |true=>exact lt_trans h hbc
 |false=>rw[←wL hbc k];exact h
theorem PY {a b c:ByteArray} (h:lt b a=false) (k:lt c b=false):lt c a=false:=by
 cases hca:lt c a with
 |false=>rfl
 |true=>have:=Ak hca h;rw[k] at this;cases this
theorem yh:∀a b:List UInt8,(Lib.compareBytes a b<0↔Op.bytesLess a b=true)∧(Lib.compareBytes a b=0↔a=b)
 |[],[]=>by simp[Lib.compareBytes,Op.bytesLess]
 |[],_::_=>by simp[Lib.compareBytes,Op.bytesLess]
 |_::_,[]=>by simp[Lib.compareBytes,Op.bytesLess]
 |x::a,y::b=>by
  have ih:=yh a b
  unfold Lib.compareBytes Op.bytesLess
  by_cases h1:x<y
  ·have hne:x≠y:=by rintro rfl;exact absurd h1 (UInt8.lt_irrefl _)
   simp[h1,hne]
  ·rw[if_neg h1]
   by_cases h2:y<x
   ·rw[if_pos h2]
    have hne:x≠y:=by rintro rfl;exact UInt8.lt_irrefl _ h2
    simp[h1,hne]
   ·rw[if_neg h2]
    have e:x=y:=by
     apply Gx.1
     rw[UInt8.lt_iff_toNat_lt] at h1 h2
     omega
    subst e
    simp[UInt8.lt_irrefl,ih]
def yj (a b:ByteArray):Int:=Lib.compareBytes a.data.toList b.data.toList
theorem Gh (a b:ByteArray):yj a b<0↔lt a b=true:=by
 unfold yj lt;rw[toList_eq,toList_eq];exact(yh _ _).1
theorem K8 (a b:ByteArray):yj a b=0↔a=b:=by
 unfold yj;rw[(yh _ _).2]
 exact⟨fun h=>toList_inj (by rw[toList_eq,toList_eq];exact h),fun h=>by rw[h]⟩
theorem QK (a b:ByteArray):(!Op.bytesLess a.toList b.toList && !(a.toList==b.toList))=lt b a:=by
 show (!lt a b && !(a.toList==b.toList))=lt b a
 cases h:lt b a with
 |true=>
  rw[lt_asymm h]
  have:(a.toList==b.toList)=false:=by rw[di];intro e;exact PW h (toList_inj e.symm)
  rw[this];rfl
 |false=>
  cases h2:lt a b with
  |true=>rfl
  |false=>rw[wL h2 h];simp
def gU (keys:List ByteArray) (key:ByteArray):Nat:=(keys.takeWhile fun k=> !lt key k).length
def tX (keys:List ByteArray):Prop:=keys.Pairwise fun a b=>lt a b=true
theorem Av (keys:List ByteArray) (key:ByteArray):gU keys key≤keys.length:=by
 unfold gU
 exact(List.takeWhile_sublist _).length_le
theorem yK (key:ByteArray):∀(keys:List ByteArray),tX keys→
  (∀i (h:i<keys.length),i<gU keys key→lt key keys[i]=false)∧(∀i (h:i<keys.length),gU keys key≤i→lt key keys[i]=true)
 |[],_=>⟨fun i h=>absurd h (by simp),fun i h=>absurd h (by simp)⟩
 |k::keys,hr=>by
  have hr':=eB.1 hr
  have ih:=yK key keys hr'.2
  cases hk:lt key k with
  |true=>
   have e:gU (k::keys) key=0:=by simp[gU,hk]
   rw[e]
   refine⟨fun i _ h=>absurd h (by omega),fun i h _=> ?_⟩
   cases i with
   |zero=>exact hk
   |succ i=>exact lt_trans hk (hr'.1 _ (bq (by simpa using h)))
  |false=>
   have e:gU (k::keys) key=gU keys key+1:=by simp[gU,hk]
   rw[e]
   refine⟨fun i h hi=> ?_,fun i h hi=> ?_⟩
   ·cases i with
    |zero=>exact hk
    |succ i=>exact ih.1 i (by simpa using h) (by omega)
   ·cases i with
    |zero=>omega
    |succ i=>exact ih.2 i (by simpa using h) (by omega)
def dB (ps:List (ByteArray×ByteArray)) (key:ByteArray):Nat:=(ps.takeWhile fun p=>lt p.1 key).length
def fT (ps:List (ByteArray×ByteArray)):Prop:=ps.Pairwise fun a b=>lt a.1 b.1=true
theorem nH (ps:List (ByteArray×ByteArray)) (key:ByteArray):dB ps key≤ps.length:=by
 unfold dB
 exact(List.takeWhile_sublist _).length_le
theorem qd (key:ByteArray):∀(ps:List (ByteArray×ByteArray)),fT ps→
  (∀i (h:i<ps.length),i<dB ps key→lt ps[i].1 key=true)∧(∀i (h:i<ps.length),dB ps key≤i→lt ps[i].1 key=false)
 |[],_=>⟨fun i h=>absurd h (by simp),fun i h=>absurd h (by simp)⟩
 |k::ps,hr=>by
  have hr':=eB.1 hr
  have ih:=qd key ps hr'.2
  cases hk:lt k.1 key with
  |false=>
   have e:dB (k::ps) key=0:=by simp[dB,hk]
   rw[e]
   refine⟨fun i _ h=>absurd h (by omega),fun i h _=> ?_⟩
   cases i with
   |zero=>exact hk
   |succ i=>
    cases h2:lt (k::ps)[i+1].1 key with
    |false=>rfl
    |true=>have:=lt_trans (hr'.1 _ (bq (by simpa using h))) h2;rw[hk] at this;cases this
  |true=>
   have e:dB (k::ps) key=dB ps key+1:=by simp[dB,hk]
   rw[e]
   refine⟨fun i h hi=> ?_,fun i h hi=> ?_⟩
   ·cases i with
    |zero=>exact hk
    |succ i=>exact ih.1 i (by simpa using h) (by omega)
   ·cases i with
    |zero=>omega
    |succ i=>exact ih.2 i (by simpa using h) (by omega)
def mE (ps:List (ByteArray×ByteArray)) (key:ByteArray):Bool:=match ps[dB ps key]? with|some p=>decide (p.1=key)|none=>false
end Go.Proofs.YtpgdljlghiifjaaGreatDoor
namespace Go.Proofs.YtpgdljlghiifjaaGreatDoor
open Go.RowKit
set_option maxRecDepth 100000
set_option maxHeartbeats 8000000
set_option linter.all false
theorem BQ (a b:ByteArray) (w:World):Calls Tryz.prog 194 #[.string a,.string b] w fun e w'=>e= .returned (.int .i64 (yj a b))∧w=w':=by
 have hc:∀w,(callFunc 228 #[.string a,.string b]).run Tryz.prog w= .ok (.value (.int .i64 (yj a b))) w:=fun w=>by
  rw[qx Tryz.func228 (by kernel_rfl) (by kernel_rfl) (by kernel_rfl) (e:=Extern.BytealgCompare.compare) (by kernel_rfl),Lib.run_compareString]
  rfl
 go_enter Tryz.func194,Tryz.ntmps194
 go_wp2
 go_ret
 exact⟨rfl,rfl⟩
theorem Gg (a b:ByteArray) (w:World):Calls Tryz.prog 156 #[.string a,.string b] w fun e w'=>e= .returned (.int .i64 (yj a b))∧w=w':=by
 go_enter Tryz.func156,Tryz.ntmps156
 go_wp2_with (go_at_call 194;refine(BQ _ _ _).mono ?_;rintro e w' ⟨rfl,rfl⟩)
 go_ret
 exact⟨rfl,rfl⟩
theorem xZ (k v key:ByteArray) (w:World):Calls Tryz.prog 155 #[.agg #[.string k,.string v],.string key] w fun e w'=>e= .returned (.int .i64 (yj k key))∧Below w.heap.size w w':=by
 go_enter Tryz.func155,Tryz.ntmps155
 go_wp2_with (go_at_call 156;refine(Gg _ _ _).mono ?_;rintro e w' ⟨rfl,rfl⟩)
 go_ret
 exact⟨rfl,aI _ _⟩
theorem Ht (n:Nat) (g:Nat) (cb:Array Value) (p:Nat→Bool) (w:World) (hn:n≤1000000) (hent:∀args w,(callFunc g args).run Tryz.prog w= .ok (.enter g args) w)
  (hf:∀W,Below w.heap.size w W→∀i,i<n→Calls Tryz.prog g (#[.int .i64 (i:Int)]++cb) W fun e w'=>e= .returned (.bool (p i))∧Below w.heap.size W w')
  (m:Nat) (hm:m≤n) (hlo:∀i,i<m→p i=false) (hhi:∀i,m≤i→i<n→p i=true):
  Calls Tryz.prog 178 #[.int .i64 n,.func (.func g) #[] cb] w fun e w'=>e= .returned (.int .i64 m)∧Below w.heap.size w w':=by
 go_enter Tryz.func178,Tryz.ntmps178
 go_wp2
 go_loopw [5,6] (fun a b wr=>∃i j:Nat,a= .int .i64 i∧b= .int .i64 j∧i≤m∧m≤j∧j≤n∧Below w.heap.size w wr) (fun a b _=>((intOf b) - (intOf a)).toNat)
 case atStart=>exact⟨0,n,rfl,rfl,aY _,hm,aG _,aQ _ _⟩
 case round=>
  obtain⟨i,j,rfl,rfl,him,hmj,hjn,hbel⟩:=hrel
  by_cases hij:i<j
  ·obtain⟨d,hd⟩:∃d,d=(i+j)/2:=⟨_,rfl⟩
   have hdc:((i:Int)+(j:Int))/2=(d:Int):=by omega
   have hd1:i≤d:=by omega
   have hd2:d<j:=by omega
   have Hf:=af (hf wr hbel d (by omega))
   have hml:m≤d∨d<m:=iJ d m|>.symm
   have Hlo:=af hlo
   have Hhi:=af hhi
   clear hf hlo hhi hd
   have Hdc:=af hdc;clear hdc
   by_cases hmd:m≤d
   ·have hp:=af (Hhi.out d hmd (by omega))
    go_wp2_with (first|(rw[Hdc.out];refine Hf.out.mono ?_;rw[hp.out];rintro e w1 ⟨rfl,hb1⟩))
    go_roundw
    case rel=>exact⟨i,d,rfl,rfl,by omega,hmd,by omega,hbel.trans hb1⟩
    case measure=>simp[intOf];omega
   ·have hp:=af (Hlo.out d (by omega))
    go_wp2_with (first|(rw[Hdc.out];refine Hf.out.mono ?_;rw[hp.out];rintro e w1 ⟨rfl,hb1⟩))
    go_roundw
    case rel=>exact⟨d+1,j,by go_num,rfl,by omega,by omega,by omega,hbel.trans hb1⟩
    case measure=>simp[intOf];omega
  ·obtain rfl:i=m:=by omega
   obtain rfl:j=i:=by omega
   clear hf hlo hhi
   go_wp2
   go_ret
   exact⟨rfl,hbel⟩
theorem M7 (pb kb b:Nat) (nd:Nd) (key:ByteArray) (w:World) (S:Nat→Prop) (h:fF w S b nd) (h1:w.cell? ⟨pb,0,none⟩=some (.pointer (some ⟨b,0,none⟩))) (h2:w.cell? ⟨kb,0,none⟩=some (.string key)) (i:Nat) (hi:i<nd.keys.length):
  Calls Tryz.prog 179 #[.int .i64 i,.pointer (some ⟨pb,0,none⟩),.pointer (some ⟨kb,0,none⟩)] w fun e w'=>e= .returned (.bool (lt key nd.keys[i]))∧Below w.heap.size w w':=by
 obtain⟨_,v0,v1,v2,hb,_,hk,_⟩:=h
 obtain⟨c0,c1,c2,_,_,_,hlt⟩:=cells3 hb
 obtain⟨ao1,cp1,rfl,n1,m1,_,_⟩:=bE.form hk
 obtain⟨b',o',rfl,d1⟩:=hk.at rfl i hi
 have k1:(0:Int)≤(i:Int):=by omega
 have k2:(i:Int)<(nd.keys.length:Int):=by omega
 go_enter Tryz.func179,Tryz.ntmps179
 go_wp2
 go_quiet (fail)
 go_wp2
 go_ret
 exact⟨congrArg (fun x=>Ending.returned (Value.bool x)) (QK _ _),Oq (aQ _ _) _⟩
theorem Fz (args:Array Value) (w:World):(callFunc 179 args).run Tryz.prog w= .ok (.enter 179 args) w:=by
 kernel_rfl
theorem DR (b:Nat) (nd:Nd) (key:ByteArray) (w:World) (S:Nat→Prop) (h:fF w S b nd) (hr:tX nd.keys) (hn:nd.keys.length≤1000000):
  Calls Tryz.prog 145 #[.pointer (some ⟨b,0,none⟩),.string key] w fun e w'=>e= .returned (.int .i64 (gU nd.keys key))∧Below w.heap.size w w':=by
 have hN:=h
 obtain⟨hSb,v0,v1,v2,hb,h0,hk,h2⟩:=h
 obtain⟨c0,c1,c2,_,_,_,hlt⟩:=cells3 hb
 obtain⟨ao1,cp1,rfl,n1,m1,_,_⟩:=bE.form hk
 have hmf:∀(fn:Fn) (first cap:Array Value) (w:World),(Instr.makeFunc fn first cap).run Tryz.prog w= .ok (.func fn first cap) w:=fun _ _ _ _=>rfl
 obtain⟨f1,f2⟩:=yK key nd.keys hr
 have hS:=Ht nd.keys.length 179 #[.pointer (some ⟨w.heap.size,0,none⟩),.pointer (some ⟨w.heap.size+1,0,none⟩)] (fun i=>if h:i<nd.keys.length then lt key nd.keys[i] else true)
  ((w.alloc (.cells #[.pointer (some ⟨b,0,none⟩)] 186)).alloc (.cells #[.string key] 9)) hn Fz
  (fun W hW i hi=>by
   have hW0:Below w.heap.size w W:=(fI w _ _).trans (hW.mono (by simp;omega))
   have hNW:fF W S b nd:=hN.below hW0
   have q1:=(hW.cell (p:=⟨w.heap.size,0,none⟩) (by simp;omega)).trans (by rw[ve _ _ _ (by simp),oM])
   have q2:=(hW.cell (p:=⟨w.heap.size+1,0,none⟩) (by simp)).trans (by rw[show w.heap.size+1=(w.alloc (.cells #[.pointer (some ⟨b,0,none⟩)] 186)).heap.size by simp,oM])
   refine(M7 w.heap.size (w.heap.size+1) b nd key W S hNW q1 q2 i hi).mono ?_
   rintro e w' ⟨rfl,hb⟩
   exact⟨by simp[hi],hb.mono hW.size⟩)
  (gU nd.keys key) (Av _ _) (fun i hi=>by have:=Av nd.keys key;simp only[dif_pos (show i<nd.keys.length by omega)];exact f1 i _ hi) (fun i hi hl=>by simp only[dif_pos hl];exact f2 i _ hi)
 have HS:=af hS
 clear hS f1 f2 hN
 go_enter Tryz.func145,Tryz.ntmps145
 go_wp2_with (go_at_call 178;refine HS.out.mono ?_;rintro e w1 ⟨rfl,hb1⟩)
 go_ret
 exact⟨rfl,(fI w _ _).trans (hb1.mono (by simp;omega))⟩
theorem Gm (v:Value) (ps:List (ByteArray×ByteArray)) (key:ByteArray) (w:World) (S:Nat→Prop) (h:mJ w S v ps) (hr:fT ps) (hn:ps.length≤1000000):
  Calls Tryz.prog 154 #[v,.string key,.func (.func 155) #[] #[]] w fun e w'=>e= .returned (.tuple #[.int .i64 (dB ps key),.bool (mE ps key)])∧Below w.heap.size w w':=by
 have hP:=h
 obtain⟨ao,c,rfl,n1,m1,_,_⟩:=bE.form h
 obtain⟨f1,f2⟩:=qd key ps hr
 have hpl:=nH ps key
 have F1:=af f1;clear f1
 have F2:=af f2;clear f2
 go_enter Tryz.func154,Tryz.ntmps154
 go_wp2
 go_loopw [9,10] (fun a b wr=>∃i j:Nat,a= .int .i64 i∧b= .int .i64 j∧i≤dB ps key∧dB ps key≤j∧j≤ps.length∧Below w.heap.size w wr) (fun a b _=>((intOf b) - (intOf a)).toNat)
 case atStart=>exact⟨0,ps.length,rfl,rfl,aY _,hpl,aG _,aQ _ _⟩
 case round=>
  obtain⟨i,j,rfl,rfl,him,hmj,hjn,hbel⟩:=hrel
  by_cases hij:i<j
  ·obtain⟨d,hd⟩:∃d,d=(i+j)/2:=⟨_,rfl⟩
   have hdc:((i:Int)+(j:Int))/2=(d:Int):=by omega
   have hd1:i≤d:=by omega
   have hd2:d<j:=by omega
   have hd3:d<ps.length:=by omega
   obtain⟨b',o',rfl,hc1,hc2⟩:=hP.at rfl d hd3
   have d1:=(hbel.cell (p:=⟨b',o'+d*2,none⟩) (aF w _ hc1)).trans hc1
   have d2:=(hbel.cell (p:=⟨b',o'+d*2+1,none⟩) (aF w _ hc2)).trans hc2
   clear hd hc1 hc2
   have Hdc:=af hdc;clear hdc
   by_cases hmd:dB ps key≤d
   ·have hp:=F2.out d hd3 hmd
    have hp':¬yj ps[d].1 key<0:=by rw[Gh,hp];simp
    have hp2:decide (yj ps[d].1 key<0)=false:=by simpa using hp'
    go_wp2_with (first|(rw[Hdc.out])|(go_at_call 155;refine(xZ _ _ _ _).mono ?_;rintro e w1 ⟨rfl,hb1⟩))
    go_roundw
    case rel=>exact⟨i,d,rfl,rfl,by omega,hmd,by omega,hbel.trans (hb1.mono hbel.size)⟩
    case measure=>simp[intOf];omega
   ·have hp:=F1.out d hd3 (by omega)
    have hp':yj ps[d].1 key<0:=by rw[Gh,hp]
    have hp2:decide (yj ps[d].1 key<0)=true:=by simpa using hp'
    go_wp2_with (first|(rw[Hdc.out])|(go_at_call 155;refine(xZ _ _ _ _).mono ?_;rintro e w1 ⟨rfl,hb1⟩))
    go_roundw
    case rel=>exact⟨d+1,j,by go_num,rfl,by omega,by omega,by omega,hbel.trans (hb1.mono hbel.size)⟩
    case measure=>simp[intOf];omega
  ·obtain rfl:i=dB ps key:=by omega
   obtain rfl:j=dB ps key:=by omega
   by_cases hin:dB ps key<ps.length
   ·obtain⟨b',o',rfl,hc1,hc2⟩:=hP.at rfl _ hin
    have d1:=(hbel.cell (p:=⟨b',o'+dB ps key*2,none⟩) (aF w _ hc1)).trans hc1
    have d2:=(hbel.cell (p:=⟨b',o'+dB ps key*2+1,none⟩) (aF w _ hc2)).trans hc2
    have hat:mE ps key=(yj ps[dB ps key].1 key==0):=by
     unfold mE
     rw[aZ hin]
     rw[Bool.eq_iff_iff];simp[K8]
    have Hat:=af hat;clear hat hc1 hc2
    go_wp2_with (first|(go_at_call 155;refine(xZ _ _ _ _).mono ?_;rintro e w1 ⟨rfl,hb1⟩))
    go_ret2
    exact⟨by rw[Hat.out];rfl,hbel.trans (hb1.mono hbel.size)⟩
   ·have hat:mE ps key=false:=by
     unfold mE
     rw[gy (by omega)]
    have Hat:=af hat;clear hat
    go_wp2
    go_ret2
    exact⟨by rw[Hat.out];rfl,hbel⟩
theorem pI (b:Nat) (nd:Nd) (key:ByteArray) (w:World) (S:Nat→Prop) (h:fF w S b nd) (hr:fT nd.pairs) (hn:nd.pairs.length≤1000000):
  Calls Tryz.prog 114 #[.pointer (some ⟨b,0,none⟩),.string key] w fun e w'=>e= .returned (.tuple #[.int .i64 (dB nd.pairs key),.bool (mE nd.pairs key)])∧Below w.heap.size w w':=by
 obtain⟨hSb,v0,v1,v2,hb,h0,hk,h2⟩:=h
 obtain⟨c0,c1,c2,_,_,_,hlt⟩:=cells3 hb
 go_enter Tryz.func114,Tryz.ntmps114
 go_wp2_with (go_at_call 154;refine(Gm _ nd.pairs _ _ S h0 hr hn).mono ?_;rintro e w1 ⟨rfl,hb1⟩)
 go_ret2
 exact⟨rfl,hb1⟩
theorem nK (w:World):Calls Tryz.prog 150 #[.int .i64 0] w fun e w'=>e= .returned (.tuple #[])∧w=w':=by
 go_enter Tryz.func150,Tryz.ntmps150
 go_wp2
 go_end0
 exact⟨rfl,rfl⟩
def brk (e:Int):List PanicEntry:=[{v:= .iface 251 (.agg #[.int .i64 e]),recovered:=false}]
theorem MQ (e:Int) (he:(e==0)=false) (w:World):Calls Tryz.prog 150 #[.int .i64 e] w fun e' w'=>e'= .panicked (brk e)∧w=w':=by
 have he2:(e !=0)=true:=by simp only[bne,he];rfl
 go_enter Tryz.func150,Tryz.ntmps150
 go_wp2
 exact⟨rfl,rfl,rfl⟩
def leastOf (nd:Nd) (told:ByteArray):ByteArray:=match nd.kids with|[]=>(nd.pairs.headD (⟨#[]⟩,⟨#[]⟩)).1|_=>told
theorem uH (b:Nat) (nd:Nd) (told:ByteArray) (w:World) (S:Nat→Prop) (h:fF w S b nd) (hne:nd.kids=[]→nd.pairs≠[]):
  Calls Tryz.prog 185 #[.pointer (some ⟨b,0,none⟩),.string told] w fun e w'=>e= .returned (.string (leastOf nd told))∧w=w':=by
 have hN:=h
 obtain⟨hSb,v0,v1,v2,hb,h0,hk,h2⟩:=h
 obtain⟨c0,c1,c2,_,_,_,hlt⟩:=cells3 hb
 cases hk:nd.kids with
 |nil=>
  have hp:=hne hk
  have hl:0<nd.pairs.length:=dm.2 hp
  obtain⟨ao0,cp0,rfl,n0,m0,_,_⟩:=bE.form h0
  obtain⟨b',o',rfl,d1,d2⟩:=h0.at rfl 0 hl
  have hle:leastOf nd told=nd.pairs[0].1:=by
   unfold leastOf;rw[hk]
   show (nd.pairs.headD _).1=_
   have:∀(l:List Pr) (h:0<l.length),l.headD (⟨#[]⟩,⟨#[]⟩)=l[0]:=fun l h=>by
    cases l with
    |nil=>simp at h
    |cons=>rfl
   rw[this]
  have hleaf:nd.kids.isEmpty=true:=by rw[hk];rfl
  have Hle:=af hle
  have Hk:=af hk
  have d1':w.cell? ⟨b',o',none⟩=some (.string nd.pairs[0].1):=by simpa using d1
  have hl':(0:Int)<(nd.pairs.length:Int):=by omega
  clear hle hk hne d1 d2
  go_enter Tryz.func185,Tryz.ntmps185
  go_wp2_with (go_at_call 144;refine(jd b nd _ S hN).mono ?_;rw[hleaf];rintro e w1 ⟨rfl,rfl⟩)
  go_ret
  exact⟨by rw[Hle.out];rfl,rfl⟩
 |cons k ks=>
  have hle:leastOf nd told=told:=by unfold leastOf;rw[hk]
  have hleaf:nd.kids.isEmpty=false:=by rw[hk];rfl
  have Hle:=af hle
  have Hk:=af hk
  clear hle hk hne
  go_enter Tryz.func185,Tryz.ntmps185
  go_wp2_with (go_at_call 144;refine(jd b nd _ S hN).mono ?_;rw[hleaf];rintro e w1 ⟨rfl,rfl⟩)
  go_ret
  exact⟨by rw[Hle.out];rfl,rfl⟩
def IsCut (w:World) (S:Nat→Prop) (B b:Nat) (l:List UInt8):Prop:=¬S b∧B≤b∧∃v,w.heap[b]? =some (.cells #[v,.bool false] 325 (0,0))∧ji w S v l∧∀g,v.ownBlock=some g→g<B
theorem IsCut.keep {w w':World} {S:Nat→Prop} {B b:Nat} {l:List UInt8} (h:IsCut w S B b l) (hb:w'.heap[b]? =w.heap[b]?) (hlo:∀g,g<B→w'.heap[g]? =w.heap[g]?):IsCut w' S B b l:=by
 obtain⟨h1,h2,v,h3,h4,h5⟩:=h
 exact⟨h1,h2,v,hb.trans h3,bE.keep h4 fun g hg _ hs=>⟨hlo g (h5 g hg),hs⟩,h5⟩
theorem NN {w:World} {b t:Nat} {v0 v1:Value} (h:w.heap[b]? =some (.cells #[v0,v1] t (0,0))):
  w.cell? ⟨b,0,none⟩=some v0∧w.cell? ⟨b,1,none⟩=some v1∧w.frozen? ⟨b,0,none⟩=false∧w.frozen? ⟨b,1,none⟩=false∧b<w.heap.size:=by
 refine⟨?_,?_,?_,?_,(ah.1 h).1⟩<;>simp[World.cell?,World.frozen?,h]
theorem ji.str {P:Program} {w:World} {S:Nat→Prop} {v:Value} (s:ByteArray) (h:ji w S v s.data.toList) (src dst e:TypeId) (hs:P.underlying src=some (.slice e)) (he:P.underlying e=some (.int .u8)) (hd:P.underlying dst=some .string):
  (convert src dst v).run P w= .ok (.string s) w:=by
 have hh:=h
 obtain⟨ao,c,rfl,_,_,h3,h4,h5,h6⟩:=h
 cases ao with
 |none=>
  have h0:=(h4 rfl).1
  rw[run_convert_bytes_nil w src e hs he _ _ dst hd]
  have:s=ByteArray.empty:=by
   cases s with
   |mk d=>
    have:d=#[]:=Array.eq_empty_of_size_eq_zero (by simpa using h0)
    rw[this];rfl
  rw[this]
 |some ad=>
  obtain⟨b,o,sp⟩:=ad
  obtain rfl:sp=none:=(h5 _ rfl).1
  have:=run_convert_bytes_back (P:=P) w src dst e ⟨b,o,none⟩ c s.data.toList hs he hd (fun j hj=>by
   obtain⟨b',o',e',hc⟩:=hh.at rfl j hj
   cases e'
   rw[fM];exact hc)
  rw[this]
theorem Pp (B b:Nat) (l:List UInt8) (n:Nat) (w:World) (S:Nat→Prop) (h:IsCut w S B b l) (hn:n≤l.length):
  Calls Tryz.prog 217 #[.pointer (some ⟨b,0,none⟩),.int .i64 n] w fun e w'=>∃v,e= .returned v∧ji w' S v (l.take n)∧IsCut w' S B b (l.drop n)∧Keep (· =b) w w'∧(∀g,v.ownBlock=some g→g<B)∧w'.heap.size=w.heap.size:=by
 obtain⟨hS,hBb,v,hb,hl0,hvb⟩:=h
 obtain⟨c0,c1,f0,f1,hlt⟩:=NN hb
 have hB:=hl0
 obtain⟨ao,c,rfl,g1,g2,g3,g4⟩:=bE.form hl0
 have k0:(0:Int)≤(n:Int):=by omega
 have k1:(n:Int)≤(c:Int):=by omega
 have k2:(n:Int)≤(l.length:Int):=by omega
 have t1:=bE.upto hB n hn
 have t2:=bE.after hB n hn
 have hk:∀v,Keep (· =b) w (w.setCell ⟨b,0,none⟩ v):=fun v=>Keep.setCell (M:=(· =b)) (p:=⟨b,0,none⟩) (Keep.refl _ w) (.inr rfl) v
 have hblk:∀v,(w.setCell ⟨b,0,none⟩ v).heap[b]? =some (.cells #[v,.bool false] 325 (0,0)):=fun v=>by
  simp[World.setCell,aW,hb]
 have kp:∀(v':Value) (v:Value) (m:Nat) (xs:List Value),bE w S 1 v m xs→v.ownBlock≠some b→bE (w.setCell ⟨b,0,none⟩ v') S 1 v m xs:=fun v' v m xs h hne=>
  h.keep fun g hg hl hs=>⟨(hk v').block g hl (fun e=>hne (by rw[hg,e])),hs⟩
 have b1:∀g,(Value.slice ao n c).ownBlock=some g→g<B:=by cases ao<;>exact hvb
 have b2:∀g,(Value.slice (if c=n then ao else ao.map fun x=>x.add (n*1)) (l.length - n) (c - n)).ownBlock=some g→g<B:=by
  cases ao with
  |none=>split<;>simp[Value.ownBlock]
  |some ad=>
   have hb1:ad.block<B:=hvb _ rfl
   split
   ·exact fun g e=>by injection e with e;omega
   ·intro g e
    simp only[Value.ownBlock,iG,Qb] at e
    unfold Addr.add at e;split at e<;>(first|omega|(simp only at e;omega))
 have e1:(aJ l).take (n*1)=aJ (l.take n):=by simp[aJ,gI]
 have e2:(aJ l).drop (n*1)=aJ (l.drop n):=by simp[aJ,fK]
 rw[e1] at t1
 rw[e2] at t2
 have u1:∀v',ji (w.setCell ⟨b,0,none⟩ v') S (.slice ao n c) (l.take n):=fun v'=>by
  unfold ji;rw[aD,bM hn];exact kp v' _ _ _ t1 (fun e=>absurd (b1 _ e) (bF.2 hBb))
 have u2:∀v',ji (w.setCell ⟨b,0,none⟩ v') S (.slice (if c=n then ao else ao.map fun x=>x.add (n*1)) (l.length - n) (c - n)) (l.drop n):=fun v'=>by
  unfold ji;rw[aO];exact kp v' _ _ _ t2 (fun e=>absurd (b2 _ e) (bF.2 hBb))
 have U1:=af u1
 have U2:=af u2
 have Hk:=af hk
 have Hb:=af hblk
 have B1:=af b1
 have B2:=af b2
 clear u1 u2 hk hblk b1 b2 kp t1 t2 e1 e2 hB hl0 hvb
 by_cases hcn:c=n
 ·subst hcn
  go_enter Tryz.func217,Tryz.ntmps217
  go_wp2
  go_ret
  have q2:=U2.out (.slice ao (l.length - c) (c - c))
  have q3:=B2.out
  simp only[iT,show l.length - c=0 by omega,xI] at q2 q3
  exact⟨_,rfl,U1.out _,⟨hS,hBb,_,Hb.out _,q2,q3⟩,Hk.out _,B1.out,by simp⟩
 ·go_enter Tryz.func217,Tryz.ntmps217
  go_wp2
  go_ret
  have q2:=U2.out (.slice (ao.map fun x=>x.add n) (l.length - n) (c - n))
  have q3:=B2.out
  rw[if_neg hcn,aV] at q2 q3
  exact⟨_,rfl,U1.out _,⟨hS,hBb,_,Hb.out _,q2,q3⟩,Hk.out _,B1.out,by simp⟩
theorem rE (B b:Nat) (l:List UInt8) (n:Nat) (m:Int) (hm:m=(n:Int)) (w:World) (S:Nat→Prop) (h:IsCut w S B b l) (hn:n≤l.length):
  Calls Tryz.prog 217 #[.pointer (some ⟨b,0,none⟩),.int .i64 m] w fun e w'=>∃v,e= .returned v∧ji w' S v (l.take n)∧IsCut w' S B b (l.drop n)∧Keep (· =b) w w'∧(∀g,v.ownBlock=some g→g<B)∧w'.heap.size=w.heap.size:=by
 subst hm;exact Pp B b l n w S h hn
theorem aS.Ej {w:World} {S:Nat→Prop} {B e k n e' k' n':Nat} {v v':Value} {xs xs':List Value} (h:aS w S B e k v n xs) (h':aS w S B e' k' v' n' xs') (hne:e≠e'):∀g,v.ownBlock=some g→v'.ownBlock≠some g:=by
 intro g hg
 rcases h.1.2 with ⟨rfl,_⟩|⟨g',cap,cur,rfl,_,hh,_⟩
 ·cases hg
 ·cases hg
  exact h'.ne hh hne
theorem aS.lo {w:World} {S:Nat→Prop} {B e k n:Nat} {v:Value} {xs:List Value} (h:aS w S B e k v n xs):∀g,v.ownBlock=some g→B≤g:=fun g hg=>(h.1.lt g hg).1
structure DD (w:World) (S:Nat→Prop) (C:List UInt8) (v0:Value) (Ps:List Pr) (v1:Value) (Ks:List ByteArray) (v2:Value) (Ns:List Int) (wr:World):Prop where
 cut:IsCut wr S w.heap.size w.heap.size C
 node:wr.heap[w.heap.size+1]? =some (.cells #[v0,v1,v2] 189 (0,0))
 o0:aS wr S w.heap.size 130 2 v0 Ps.length (dH Ps)
 o1:aS wr S w.heap.size 9 1 v1 Ks.length (Ks.map .string)
 o2:aS wr S w.heap.size 3 1 v2 Ns.length (Ns.map (.int .i64))
 pU:Below w.heap.size w wr
section
variable {w wr:World} {S:Nat→Prop} {C:List UInt8} {v0 v1 v2:Value} {Ps:List Pr} {Ks:List ByteArray} {Ns:List Int}
theorem DD.lt (h:DD w S C v0 Ps v1 Ks v2 Ns wr):w.heap.size+1<wr.heap.size:=(ah.1 h.node).1
theorem DD.took (h:DD w S C v0 Ps v1 Ks v2 Ns wr) {w2:World} {C':List UInt8} (hk:Keep (· =w.heap.size) wr w2) (hc:IsCut w2 S w.heap.size w.heap.size C'):DD w S C' v0 Ps v1 Ks v2 Ns w2:=by
 have hlt:=h.lt
 obtain⟨_,_,cv,hcb,_,_⟩:=h.cut
 exact⟨hc,(hk.block _ hlt (by omega)).trans h.node,
  h.o0.keep fun g hg hl hs=>⟨hk.block g hl (fun e=>h.o0.ne hcb (by decide) (by rw[hg,e])),hs⟩,
  h.o1.keep fun g hg hl hs=>⟨hk.block g hl (fun e=>h.o1.ne hcb (by decide) (by rw[hg,e])),hs⟩,
  h.o2.keep fun g hg hl hs=>⟨hk.block g hl (fun e=>h.o2.ne hcb (by decide) (by rw[hg,e])),hs⟩,
  h.pU.trans (hk.gG (by omega) (fun i hi=>by omega))⟩
theorem DD.alloc (h:DD w S C v0 Ps v1 Ks v2 Ns wr) (o:Obj):DD w S C v0 Ps v1 Ks v2 Ns (wr.alloc o):=by
 have hlt:=h.lt
 have hb:=aI wr o
 exact⟨h.cut.keep (hb.block _ (by omega)) fun g hg=>hb.block _ (by omega),(hb.block _ hlt).trans h.node,h.o0.below hb,h.o1.below hb,h.o2.below hb,h.pU.trans (hb.mono (by omega))⟩
theorem DD.drew (h:DD w S C v0 Ps v1 Ks v2 Ns wr):DD w S C v0 Ps v1 Ks v2 Ns wr.drew:=
 ⟨h.cut.keep rfl fun _ _=>rfl,h.node,h.o0.drew,h.o1.drew,h.o2.drew,h.pU.drew⟩
theorem DD.node2 (h:DD w S C v0 Ps v1 Ks v2 Ns wr) {w5:World} (hk:Keep (fun g=>v2.ownBlock=some g) wr w5):w5.heap[w.heap.size+1]? =some (.cells #[v0,v1,v2] 189 (0,0)):=
 (hk.block _ h.lt (h.o2.ne h.node (by decide))).trans h.node
theorem DD.node1 (h:DD w S C v0 Ps v1 Ks v2 Ns wr) {w5:World} (hk:Keep (fun g=>v1.ownBlock=some g) wr w5):w5.heap[w.heap.size+1]? =some (.cells #[v0,v1,v2] 189 (0,0)):=
 (hk.block _ h.lt (h.o1.ne h.node (by decide))).trans h.node
theorem DD.Qw (h:DD w S C v0 Ps v1 Ks v2 Ns wr) {w5:World} (hk:Keep (fun g=>v2.ownBlock=some g) wr w5) (hb:Below w.heap.size wr w5) {v':Value} {Ns':List Int}
  (hown:aS w5 S w.heap.size 3 1 v' Ns'.length (Ns'.map (.int .i64))):DD w S C v0 Ps v1 Ks v' Ns' (w5.setCell ⟨w.heap.size+1,2,none⟩ v'):=by
 have hlt:=h.lt
 have hN:=h.node2 hk
 obtain⟨_,_,cv,hcb,_,_⟩:=h.cut
 have hk5:Keep (· =w.heap.size+1) w5 (w5.setCell ⟨w.heap.size+1,2,none⟩ v'):=Keep.setCell (M:=(· =w.heap.size+1)) (p:=⟨w.heap.size+1,2,none⟩) (Keep.refl _ _) (.inr rfl) v'
 have hs5:=hk.size
 have k0:aS w5 S w.heap.size 130 2 v0 Ps.length (dH Ps):=h.o0.keep fun g hg hl hs=>⟨hk.block g hl (h.o0.Ej h.o2 (by decide) g hg),hs⟩
 have k1:aS w5 S w.heap.size 9 1 v1 Ks.length (Ks.map .string):=h.o1.keep fun g hg hl hs=>⟨hk.block g hl (h.o1.Ej h.o2 (by decide) g hg),hs⟩
 refine⟨h.cut.keep ?_ ?_,?_,k0.keep fun g hg hl hs=>⟨hk5.block g hl (fun e=>k0.ne hN (by decide) (by rw[hg,e])),hs⟩,k1.keep fun g hg hl hs=>⟨hk5.block g hl (fun e=>k1.ne hN (by decide) (by rw[hg,e])),hs⟩,
  hown.keep fun g hg hl hs=>⟨hk5.block g hl (fun e=>hown.ne hN (by decide) (by rw[hg,e])),hs⟩,(h.pU.trans hb).setCell (by simp) v'⟩
 ·exact(hk5.block _ (by omega) (by omega)).trans (hk.block _ (by omega) (h.o2.ne hcb (by decide)))
 ·exact fun g hg=>(hk5.block _ (by omega) (by omega)).trans (hb.block g hg)
 ·simp[World.setCell,aW,hN]
theorem DD.OV (h:DD w S C v0 Ps v1 Ks v2 Ns wr) {w5:World} (hk:Keep (fun g=>v1.ownBlock=some g) wr w5) (hb:Below w.heap.size wr w5) {v':Value} {Ks':List ByteArray}
  (hown:aS w5 S w.heap.size 9 1 v' Ks'.length (Ks'.map .string)):DD w S C v0 Ps v' Ks' v2 Ns (w5.setCell ⟨w.heap.size+1,1,none⟩ v'):=by
 have hlt:=h.lt
 have hN:=h.node1 hk
 obtain⟨_,_,cv,hcb,_,_⟩:=h.cut
 have hk5:Keep (· =w.heap.size+1) w5 (w5.setCell ⟨w.heap.size+1,1,none⟩ v'):=Keep.setCell (M:=(· =w.heap.size+1)) (p:=⟨w.heap.size+1,1,none⟩) (Keep.refl _ _) (.inr rfl) v'
 have hs5:=hk.size
 have k0:aS w5 S w.heap.size 130 2 v0 Ps.length (dH Ps):=h.o0.keep fun g hg hl hs=>⟨hk.block g hl (h.o0.Ej h.o1 (by decide) g hg),hs⟩
 have k2:aS w5 S w.heap.size 3 1 v2 Ns.length (Ns.map (.int .i64)):=h.o2.keep fun g hg hl hs=>⟨hk.block g hl (h.o2.Ej h.o1 (by decide) g hg),hs⟩
 refine⟨h.cut.keep ?_ ?_,?_,k0.keep fun g hg hl hs=>⟨hk5.block g hl (fun e=>k0.ne hN (by decide) (by rw[hg,e])),hs⟩,
  hown.keep fun g hg hl hs=>⟨hk5.block g hl (fun e=>hown.ne hN (by decide) (by rw[hg,e])),hs⟩,k2.keep fun g hg hl hs=>⟨hk5.block g hl (fun e=>k2.ne hN (by decide) (by rw[hg,e])),hs⟩,(h.pU.trans hb).setCell (by simp) v'⟩
 ·exact(hk5.block _ (by omega) (by omega)).trans (hk.block _ (by omega) (h.o1.ne hcb (by decide)))
 ·exact fun g hg=>(hk5.block _ (by omega) (by omega)).trans (hb.block g hg)
 ·simp[World.setCell,aW,hN]
theorem DD.OZ (h:DD w S C v0 Ps v1 Ks v2 Ns wr) (hS:¬S (w.heap.size+1)):gH wr S w.heap.size (w.heap.size+1) ⟨Ps,Ks,Ns⟩:=⟨hS,by omega,v0,v1,v2,h.node,h.o0,h.o1,h.o2⟩
end
theorem Ir (a c t:Nat) (ha:a<256) (hc:c<256) (ht:t=a+256*c):bits .or .i64 (IntKind.i64.wrap (a:Int)) (IntKind.i64.wrap (IntKind.i64.wrap (c:Int)*256))=(t:Int):=by
 have e1:IntKind.i64.wrap (a:Int)=(a:Int):=by rw[ig];omega
 have e2:IntKind.i64.wrap (c:Int)=(c:Int):=by rw[ig];omega
 have e3:IntKind.i64.wrap ((c:Int)*256)=((256*c:Nat):Int):=by rw[ig];omega
 rw[e2,e3,e1]
 unfold bits
 have e4:(BitVec.ofInt 64 (a:Int)|||BitVec.ofInt 64 ((256*c:Nat):Int)).toNat=t:=by
  rw[oQ,oQ,BitVec.toNat_or,lD,lD,mV (by omega),mV (by omega),Nat.or_comm]
  have:=xG (i:=8) (b:=a) (by omega) c
  rw[show (256:Nat)=2^8 from rfl,←this]
  omega
 show IntKind.i64.wrap (((BitVec.ofInt 64 (a:Int)|||BitVec.ofInt 64 ((256*c:Nat):Int)).toNat:Nat):Int)=t
 rw[e4,ig]
 omega
end Go.Proofs.YtpgdljlghiifjaaGreatDoor
