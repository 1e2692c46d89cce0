/- parts -/
import Derived.Test.YtogbkgmlhhahdaaGreatQ13
import Derived.Test.YtogbkgmlhhahdaaGreatQ22
import Derived.Shelf.Strings.Builder1
import Derived.Laws.IdiomStrings
set_option maxRecDepth 100000
set_option maxHeartbeats 8000000
set_option linter.all false
namespace Go.Proofs.YtogbkgmlhhahdaaGreat
open Go.RowKit
def yE (r:Nat×Nat):List Nat:=(List.range r.2).map (r.1+ ·)
def fQ (rs:List (Nat×Nat)):List Nat:=rs.flatMap yE
theorem J6 (r:Nat×Nat)(rs:List (Nat×Nat)):fQ (r::rs)=yE r++fQ rs:=rfl
theorem oG (a b:List (Nat×Nat)):fQ (a++b)=fQ a++fQ b:=by simp[fQ]
theorem uR (r:Nat×Nat):(yE r).length=r.2:=by simp[yE]
def Af (rs:List (Nat×Nat))(b:Nat):List (Nat×Nat):=
 match rs.getLast? with
 |some r=>if r.1+r.2=b/\r.2<255 then rs.dropLast++[(r.1,r.2+1)] else rs++[(b,1)]
 |none=>[(b,1)]
theorem Ed (f n:Nat):yE (f,n+1)=yE (f,n)++[f+n]:=by simp[yE,List.range_succ]
theorem J7 (rs:List (Nat×Nat))(b:Nat):fQ (Af rs b)=fQ rs++[b]:=by
 unfold Af
 split
 ·rename_i r hr
  obtain⟨l,rfl⟩:=List.getLast?_eq_some_iff.1 hr
  split
  ·rename_i h
   rw[List.dropLast_concat,oG,oG,aL]
   congr 1
   obtain⟨f,n⟩:=r
   show yE (f,n+1)++[]=(yE (f,n)++[])++[b]
   have h1:f+n=b:=h.1
   rw[Ed,h1];simp
  ·rw[oG];simp[fQ,yE]
 ·rename_i hr
  rw[List.getLast?_eq_none_iff] at hr
  subst hr
  simp[fQ,yE]
def qX (rs:List (Nat×Nat)):Prop:=∀r∈rs,1<=r.2/\r.2<=255/\r.1+r.2<=65536
theorem qX.add {rs:List (Nat×Nat)}(h:qX rs)(b:Nat)(hb:b<65536):qX (Af rs b):=by
 unfold Af
 split
 ·rename_i r hr
  obtain⟨l,rfl⟩:=List.getLast?_eq_some_iff.1 hr
  split
  ·rename_i hc
   rw[List.dropLast_concat]
   intro q hq
   rcases bX.1 hq with hq|hq
   ·exact h q (dI _ hq)
   ·have:=h r (by simp)
    rw[bO.1 hq]
    show 1<=r.2+1/\r.2+1<=255/\r.1+(r.2+1)<=65536
    omega
  ·intro q hq
   rcases bX.1 hq with hq|hq
   ·exact h q hq
   ·rw[bO.1 hq]
    show 1<=1/\1<=255/\b+1<=65536
    omega
 ·intro q hq
  rw[bO.1 hq]
  show 1<=1/\1<=255/\b+1<=65536
  omega
theorem qX.le {rs:List (Nat×Nat)}(h:qX rs):rs.length<=(fQ rs).length:=by
 induction rs with
 |nil=>exact aT _
 |cons r rs ih=>
  have h1:=h r (bg ..)
  have:=ih (fun q hq=>h q (aW _ hq))
  rw[J6,ay,uR,aZ];omega
def rW (r:Nat×Nat):List UInt8:=[UInt8.ofNat r.1,UInt8.ofNat (r.1/256),UInt8.ofNat r.2]
def encR (size:Nat)(rs:List (Nat×Nat)):List UInt8:=[177,UInt8.ofNat size,UInt8.ofNat (size/256),UInt8.ofNat rs.length]++rs.flatMap rW
theorem Az (size:Nat)(rs:List (Nat×Nat)):(encR size rs).length=4+3*rs.length:=by
 have:(rs.flatMap rW).length=3*rs.length:=by
  induction rs with
  |nil=>rfl
  |cons r rs ih=>rw[iJ,ay,ih,aZ];simp[rW];omega
 unfold encR
 rw[ay,this]
 simp only[aZ,bV]
def ji (rs:List (Nat×Nat)):List Value:=rs.flatMap fun r=>[.int .i64 r.1,.int .i64 r.2]
theorem um (a b:List (Nat×Nat)):ji (a++b)=ji a++ji b:=by simp[ji]
theorem GH (rs:List (Nat×Nat))(i:Nat)(h:i<rs.length):(ji rs)[i*2]? =some (.int .i64 rs[i].1)/\(ji rs)[i*2+1]? =some (.int .i64 rs[i].2):=by
 induction rs generalizing i with
 |nil=>simp at h
 |cons r rs ih=>
  cases i with
  |zero=>exact⟨rfl,rfl⟩
  |succ i=>
   have:=ih i (by simpa using h)
   rw[show (i+1)*2=i*2+2 by omega]
   exact this
structure mZ (w:World)(S:Nat->Prop)(B lb size:Nat)(rs:List (Nat×Nat))(v:Value):Prop where
 obj:w.heap[lb]? =some (.cells #[.int .i64 size,v] 186 (0,0))
 own:aQ w S B 236 2 v rs.length (ji rs)
 lo:B<=lb
 ns:¬S lb
theorem mZ.below {w w':World}{S:Nat->Prop}{B lb size:Nat}{rs:List (Nat×Nat)}{v:Value}(h:mZ w S B lb size rs v)(hb:Below w.heap.size w w'):mZ w' S B lb size rs v:=
 ⟨(hb.block lb (aj.1 h.obj).1).trans h.obj,h.own.below hb,h.lo,h.ns⟩
theorem mZ.step {w w':World}{S S':Nat->Prop}{B lb size:Nat}{rs:List (Nat×Nat)}{v:Value}(h:mZ w S B lb size rs v)(hs:Step S S' w w'):mZ w' S' B lb size rs v:=by
 have hl:=(aj.1 h.obj).1
 exact⟨(hs.1.block lb hl h.ns).trans h.obj,h.own.step hs,h.lo,fun x=>(hs.2 lb x).elim h.ns (fun y=>absurd hl (bq.2 y))⟩
theorem J5 (rs:List (Nat×Nat))(k:Nat)(h:k<rs.length):fQ (rs.take (k+1))=fQ (rs.take k)++yE rs[k]:=by
 rw[aM h,oG];simp[fQ]
theorem xh (rs:List (Nat×Nat))(k:Nat):(fQ (rs.take k)).length<=(fQ rs).length:=by
 have:fQ rs=fQ (rs.take k)++fQ (rs.drop k):=by rw[<-oG,bJ]
 rw[this,ay];omega
def ints (l:List Nat):List Value:=l.map fun (b:Nat)=>Value.int .i64 (b:Int)
theorem Ii (a b:List Nat):ints (a++b)=ints a++ints b:=by simp[ints]
theorem LX (l:List Nat):ints l=(l.map fun (b:Nat)=>(b:Int)).map (.int .i64):=by simp[ints]
def Dl (w:World)(S:Nat->Prop)(v:Value)(rs:List (Nat×Nat)):Prop:=aX w S 2 v rs.length (ji rs)
theorem Dl.at {w:World}{S:Nat->Prop}{v:Value}{rs:List (Nat×Nat)}{ao:Option Addr}{n c:Nat}(h:Dl w S v rs)(hv:v= .slice ao n c)(i:Nat)(hi:i<rs.length):
  ∃b o,ao=some ⟨b,o,none⟩/\w.cell? ⟨b,o+i*2,none⟩=some (.int .i64 rs[i].1)/\w.cell? ⟨b,o+i*2+1,none⟩=some (.int .i64 rs[i].2):=by
 obtain⟨h1,h2⟩:=GH rs i hi
 obtain⟨ao',c',rfl,_,_,_,_,_,h6⟩:=h
 cases hv
 obtain⟨b,o,rfl,hc⟩:=h6 (i*2) _ h1
 obtain⟨b',o',e,hc'⟩:=h6 (i*2+1) _ h2
 cases e
 exact⟨b,o,rfl,hc,by rw[lX];exact hc'⟩
theorem FX (lb size:Nat)(rs:List (Nat×Nat))(lv:Value)(B:Nat)(S:Nat->Prop)(w:World)(h:mZ w S B lb size rs lv)(hS:∀g,S g->g<w.heap.size)(ok:qX rs)(hl:(fQ rs).length<=1000):
  Calls Tryz.prog 97 #[.pointer (some ⟨lb,0,none⟩)] w fun e w'=>∃v,e= .returned v/\aQ w' S w.heap.size 3 1 v (fQ rs).length (ints (fQ rs))/\Below w.heap.size w w':=by
 obtain⟨ao,c,rfl,n0,m0,_,_⟩:=aX.form h.own.dm
 have hsl:=h.own.dm
 have c0:w.cell? ⟨lb,0,none⟩=some (.int .i64 size):=by simp[World.cell?,h.obj]
 have c1:w.cell? ⟨lb,1,none⟩=some (.slice ao rs.length c):=by simp[World.cell?,h.obj]
 have hlt:lb<w.heap.size:=(aj.1 h.obj).1
 have hrl:=ok.le
 have HOK:=ah ok
 have HSL:=ah hsl
 clear h hsl ok
 go_enter Tryz.func97,Tryz.ntmps97
 go_wp2_with fail
 go_loopw [3,5,6,12,18] (fun o _ _ i _ wr=>∃k:Nat,k<=rs.length/\i= .int .i64 k/\aQ wr S w.heap.size 3 1 o (fQ (rs.take k)).length (ints (fQ (rs.take k)))/\Below w.heap.size w wr) (fun _ _ _ i _ _=>rs.length - (intOf i).toNat)
 case atStart=>exact⟨0,by omega,rfl,by rw[iD];exact aQ.nil _ _ _ _ _,aR _ _⟩
 case round=>
  obtain⟨k,hk,rfl,ho,hb⟩:=hrel
  have htl:=xh rs k
  obtain⟨F,hF⟩:∃F,Hid (F=fQ (rs.take k)):=⟨_,ah rfl⟩
  rw[<-hF.out] at ho htl
  obtain⟨oo,oc,rfl,_,_,_,_⟩:=aX.form ho.dm
  by_cases hkl:k<rs.length
  ·have x1:(k:Int)<(rs.length:Int):=by omega
   obtain⟨pb,po,rfl,d1,d2⟩:=Dl.at HSL.out rfl k hkl
   have d1':=(hb.cell (p:=⟨pb,po+k*2,none⟩) (aD w _ d1)).trans d1
   have d2':=(hb.cell (p:=⟨pb,po+k*2+1,none⟩) (aD w _ d2)).trans d2
   have hpb:=aD wr _ d1'
   have HT:=ah (J5 rs k hkl)
   have htl2:=xh rs (k+1)
   rw[HT.out,<-hF.out,ay,uR] at htl2
   have hrk:=HOK.out rs[k] (bE hkl)
   obtain⟨f,hf⟩:∃f,f=rs[k].1:=⟨_,rfl⟩
   obtain⟨n,hn⟩:∃n,n=rs[k].2:=⟨_,rfl⟩
   have hrun:rs[k]=(f,n):=by rw[hf,hn]
   rw[<-hf,<-hn] at hrk
   rw[<-hf] at d1'
   rw[<-hn] at d2' htl2
   have HRUN:=ah hrun
   clear hf hn hrun d1 d2
   obtain⟨wo,rfl⟩:∃x:World,x=wr:=⟨_,rfl⟩
   have hbA:=aO wo (.cells #[.int .i64 f,.int .i64 n] 236)
   have hA:(wo.alloc (.cells #[.int .i64 f,.int .i64 n] 236)).heap[wo.heap.size]? =some (.cells #[.int .i64 f,.int .i64 n] 236 (0,0)):=bD wo _
   go_wp2_with fail
   generalize hwA:wo.alloc (.cells #[.int .i64 f,.int .i64 n] 236)=wA at hbA hA ⊢
   have hqn:wo.heap.size<wA.heap.size:=(aj.1 hA).1
   go_loopw [3,6,18] (fun o _ i wk=>∃j:Nat,j<=n/\i= .int .i64 j/\aQ wk S w.heap.size 3 1 o (F.length+j) (ints (F++yE (f,j)))/\Below w.heap.size w wk/\wk.heap[wo.heap.size]? =some (.cells #[.int .i64 f,.int .i64 n] 236 (0,0))) (fun _ _ i _=>n - (intOf i).toNat)
   case atStart=>exact⟨0,by omega,rfl,by simpa [yE] using ho.below hbA,hb.trans (hbA.mono hb.size),hA⟩
   case round=>
    obtain⟨j,hj,rfl,hoj,hbj,hAj⟩:=hrel
    obtain⟨qo,qc,rfl,_,_,_,_⟩:=aX.form hoj.dm
    have r0:wr.cell? ⟨wo.heap.size,0,none⟩=some (.int .i64 f):=by simp[World.cell?,hAj]
    have hAl:=(aj.1 hAj).1
    by_cases hjn:j<n
    ·have y1:(j:Int)<(n:Int):=by omega
     have HR:=ah (Ed f j)
     have hS6:∀g,S g->g<wr.heap.size:=fun g hg=>ak (hS g hg) hbj.size
     have hbg:=hbj.size
     go_wp2_with (first
      |(at_builtin;go_must ((refine cK rfl (.tmp 21) (.tmp 26) 93 93 rfl S w.heap.size 3 1 8 _ bf gX rfl (.slice qo (F.length+j) qc) _ _ rfl (hoj.below (aO _ _)) _ 1 _ rfl (gu [.int .i64 ((f:Int)+(j:Int))] _ 1 1 1 (by simp) bf rfl ?_) (eU hS6 _) ?_ ?_ ?_ ?_);(focus (simp[Value.oneCell']));(focus (simp only[aS];omega));(focus (unfold maxLen;omega));(focus omega);intro ao1 c1 w1 hown1 hk1 hb1 hd1)))
     go_roundw
     case rel=>
      have hne:(Value.slice qo (F.length+j) qc).ownBlock≠some wo.heap.size:=hoj.ne hAj (by decide)
      refine⟨j+1,by omega,by go_num,?_,(hbj.trans (aO wr _|>.mono hbj.size)).trans hb1,?_⟩
      ·rw[HR.out,<-aL,Ii]
       have e:ints [f+j]=[.int .i64 ((f:Int)+(j:Int))]:=by simp[ints]
       rw[e]
       exact hown1
      ·exact(hk1.block wo.heap.size (by simp only[aS];omega) hne).trans ((qd _ _ _ (by omega)).trans hAj)
     case measure=>simp[intOf];omega
    ·have hjn2:j=n:=by omega
     subst hjn2
     go_wp2_with fail
     go_roundw
     case rel=>exact⟨k+1,by omega,by go_num,by rw[HT.out,HRUN.out,<-hF.out,ay,uR];exact hoj,hbj⟩
     case measure=>simp[intOf];omega
  ·have:k=rs.length:=by omega
   subst this
   rw[bR] at hF
   have x1:¬(rs.length:Int)<(rs.length:Int):=by omega
   go_wp2_with fail
   go_ret
   exact⟨_,rfl,by rw[<-hF.out];exact ho,hb⟩
theorem OQ (n:Nat):((UInt8.ofNat n).toNat:Int)=IntKind.u8.wrap (n:Int):=by
 rw[fe,Ms];omega
theorem Tm (n:Nat):IntKind.u8.wrap ((n/256:Nat):Int)=IntKind.u8.wrap ((n:Int)/256):=by
 congr 1
def xA (size:Nat)(rs:List (Nat×Nat))(len:Nat):List UInt8:=[177,UInt8.ofNat size,UInt8.ofNat (size/256),UInt8.ofNat len]++rs.flatMap rW
theorem FN (size len:Nat):aI (xA size [] len)=[.int .u8 177,.int .u8 (IntKind.u8.wrap (size:Int)),.int .u8 (IntKind.u8.wrap ((size:Int)/256)),.int .u8 (IntKind.u8.wrap (len:Int))]:=by
 simp only[xA,Uu,dJ,aI,dw,iy,OQ,Tm]
 rfl
theorem KJ (size len:Nat)(rs:List (Nat×Nat))(k:Nat)(h:k<rs.length)(hf:rs[k].1<65536)(hn:rs[k].2<256):aI (xA size (rs.take (k+1)) len)=aI (xA size (rs.take k) len)++[.int .u8 ((rs[k].1:Int)%256),.int .u8 ((rs[k].1:Int)/256),.int .u8 (rs[k].2:Int)]:=by
 have e:xA size (rs.take (k+1)) len=xA size (rs.take k) len++rW rs[k]:=by
  unfold xA
  rw[aM h,nZ];simp
 rw[e,iK]
 simp only[rW,aI,dw,iy,OQ,Ms]
 have e1:((rs[k].1/256:Nat):Int)%256=(rs[k].1:Int)/256:=by omega
 have e2:(rs[k].2:Int)%256=(rs[k].2:Int):=by omega
 rw[e1,e2]
theorem Sb (lb size:Nat)(rs:List (Nat×Nat))(lv:Value)(B:Nat)(S:Nat->Prop)(w:World)(h:mZ w S B lb size rs lv)(hS:∀g,S g->g<w.heap.size)(hsz:size<=65535)(ok:qX rs)(hl:rs.length<=1000):
  Calls Tryz.prog 106 #[.pointer (some ⟨lb,0,none⟩)] w fun e w'=>∃v,e= .returned v/\aQ w' S w.heap.size 5 1 v (encR size rs).length (aI (encR size rs))/\Below w.heap.size w w':=by
 obtain⟨ao,c,rfl,n0,m0,_,_⟩:=aX.form h.own.dm
 have hsl:=h.own.dm
 have c0:w.cell? ⟨lb,0,none⟩=some (.int .i64 size):=by simp[World.cell?,h.obj]
 have c1:w.cell? ⟨lb,1,none⟩=some (.slice ao rs.length c):=by simp[World.cell?,h.obj]
 have hlt:lb<w.heap.size:=(aj.1 h.obj).1
 have HOK:=ah ok
 have HSL:=ah hsl
 have HC:=ah (show ∀W:World,Below w.heap.size w W->W.cell? ⟨lb,0,none⟩=some (.int .i64 size)/\W.cell? ⟨lb,1,none⟩=some (.slice ao rs.length c)/\lb<W.heap.size from fun W hW=>
  ⟨(hW.cell (p:=⟨lb,0,none⟩) hlt).trans c0,(hW.cell (p:=⟨lb,1,none⟩) hlt).trans c1,ak hlt hW.size⟩)
 clear h hsl ok
 have q1:IntKind.i64.wrap ((size:Int)/256)=((size/256:Nat):Int):=by rw[aG _ (by omega)];omega
 go_enter Tryz.func106,Tryz.ntmps106
 go_wp2_with fail
 refine aP (fun W=>Below w.heap.size w W) (fun i=> !([17].contains i)) [0,1,2,3,4,5,6,7,8,9,10,11,12,13,14,15,16,17,18] rfl (by kernel_rfl) ((aR _ w).drew) ?_
 repeat ((refine bP (v:= ?_) rfl rfl (fun _ _ _ h=>h) rfl (fun W hW=> ?_) ?_);rotate_left;(focus ((try dsimp only at hW);obtain⟨r0,r1,r2⟩:=HC.out W hW;(go_simp;first|done|with_reducible rfl)));(try simp only[Act.put,ai,ax,au]))
 refine dK rfl rfl rfl ?_;intro K hK;go_simp
 have hb0:Below w.heap.size w (w.alloc (.cells #[.int .u8 177,.int .u8 (IntKind.u8.wrap (size:Int)),.int .u8 (IntKind.u8.wrap ((size:Int)/256)),.int .u8 (IntKind.u8.wrap (rs.length:Int))] 5)).drew:=(aO w _).drew
 have hn0:aQ (w.alloc (.cells #[.int .u8 177,.int .u8 (IntKind.u8.wrap (size:Int)),.int .u8 (IntKind.u8.wrap ((size:Int)/256)),.int .u8 (IntKind.u8.wrap (rs.length:Int))] 5)).drew S w.heap.size 5 1 (.slice (some ⟨w.heap.size,0,none⟩) 4 4) 4 (aI (xA size (rs.take 0) rs.length)):=by
  rw[iD,FN]
  exact(mq (w:=w) (S:=S) (B:=w.heap.size) (e:=5) (k:=1) _ 4 4 rfl rfl (aC _) (by simp[maxLen]) (aC _) hS).drew
 generalize (w.alloc (.cells #[.int .u8 177,.int .u8 (IntKind.u8.wrap (size:Int)),.int .u8 (IntKind.u8.wrap ((size:Int)/256)),.int .u8 (IntKind.u8.wrap (rs.length:Int))] 5)).drew=w1 at hb0 hn0 ⊢
 refine hK.out _ _ hb0 ?_
 repeat ((refine bP (v:= ?_) rfl rfl (fun _ _ _ h=>h) rfl (fun W hW=> ?_) ?_);rotate_left;(focus ((try dsimp only at hW);obtain⟨r0,r1,r2⟩:=HC.out W hW;(go_simp;first|done|with_reducible rfl)));(try simp only[Act.put,ai,ax,au]))
 refine bS ?_
 obtain⟨s0,s1,s2⟩:=HC.out _ hb0
 clear q1
 generalize IntKind.u8.wrap (size:Int)=z1
 generalize IntKind.u8.wrap ((size:Int)/256)=z2
 generalize IntKind.u8.wrap (rs.length:Int)=z3
 generalize (size:Int)/256=z4
 go_wp2_with fail
 go_loopw [3,5,29] (fun v _ i wr=>∃k:Nat,k<=rs.length/\i= .int .i64 k/\aQ wr S w.heap.size 5 1 v (4+3*k) (aI (xA size (rs.take k) rs.length))/\Below w.heap.size w wr) (fun _ _ i _=>rs.length - (intOf i).toNat)
 case atStart=>exact⟨0,by omega,rfl,hn0,hb0⟩
 case round=>
  obtain⟨k,hk,rfl,ho,hb⟩:=hrel
  obtain⟨oo,oc,rfl,_,_,_,_⟩:=aX.form ho.dm
  by_cases hkl:k<rs.length
  ·have x1:(k:Int)<(rs.length:Int):=by omega
   obtain⟨pb,po,rfl,d1,d2⟩:=Dl.at HSL.out rfl k hkl
   have d1':=(hb.cell (p:=⟨pb,po+k*2,none⟩) (aD w _ d1)).trans d1
   have d2':=(hb.cell (p:=⟨pb,po+k*2+1,none⟩) (aD w _ d2)).trans d2
   have hpb:=aD wr _ d1'
   have hS6:∀g,S g->g<wr.heap.size:=fun g hg=>ak (hS g hg) hb.size
   have hrk:=HOK.out rs[k] (bE hkl)
   have HT:=ah (KJ size rs.length rs k hkl (by omega) (by omega))
   clear d1 d2 s0 s1
   have hbg:=hb.size
   go_wp2_with (first
    |(at_builtin;go_must ((refine cK rfl (.tmp 33) (.tmp 44) 70 70 rfl S w.heap.size 5 1 1 (.int .u8 0) bH kz rfl (.slice oo (4+3*k) oc) _ _ rfl (ho.below (ic _ _ _)) _ 3 _ rfl (gu [_,_,_] _ 1 3 3 (by simp) bH rfl ?_) (eU (eU hS6 _) _) ?_ ?_ ?_ ?_);(focus (simp[Value.oneCell']));(focus (simp only[aS];omega));(focus (unfold maxLen;omega));(focus omega);intro ao1 c1 w1 hown1 hk1 hb1 hd1)))
   go_roundw
   case rel=>exact⟨k+1,by omega,by go_num,by rw[HT.out];exact hown1,(hb.trans (ic wr _ _|>.mono hb.size)).trans hb1⟩
   case measure=>simp[intOf];omega
  ·have:k=rs.length:=by omega
   subst this
   rw[bR] at ho
   have he:xA size rs rs.length=encR size rs:=rfl
   have hle:=Az size rs
   have x1:¬(rs.length:Int)<(rs.length:Int):=by omega
   rw[he] at ho
   have HLE:=ah hle;clear hle he
   go_wp2_with fail
   go_ret
   exact⟨_,rfl,by rw[HLE.out];exact ho,hb⟩
theorem yZ:(Tryz.prog.info? 236).map (fun i=>(i.zero,i.size,i.bytes))=some (some (.agg #[.int .i64 0,.int .i64 0]),2,16):=by kernel_rfl
theorem Oc (rs:List (Nat×Nat))(m b:Nat)(hm:rs.length=m+1)(hm':m<rs.length)(h:¬(rs[m].1+rs[m].2=b/\rs[m].2<255)):Af rs b=rs++[(b,1)]:=by
 have hl:rs.getLast? =some rs[m]:=by rw[List.getLast?_eq_getElem?,show rs.length - 1=m by omega,bG (by omega)]
 unfold Af
 rw[hl]
 simp only
 rw[if_neg h]
theorem Ob (rs:List (Nat×Nat))(m b:Nat)(hm:rs.length=m+1)(hm':m<rs.length)(h:rs[m].1+rs[m].2=b/\rs[m].2<255):Af rs b=rs.set m (rs[m].1,rs[m].2+1):=by
 have hl:rs.getLast? =some rs[m]:=by rw[List.getLast?_eq_getElem?,show rs.length - 1=m by omega,bG (by omega)]
 unfold Af
 rw[hl]
 simp only
 rw[if_pos h]
 apply List.ext_getElem?
 intro i
 rw[List.getElem?_set]
 by_cases hi:m=i
 ·subst hi
  rw[if_pos rfl,if_pos (by omega),cZ (by simp;omega)]
  simp[hm]
 ·rw[if_neg hi]
  rcases jf i m with h1|h1
  ·rw[fU (by simp;omega),List.getElem?_dropLast,if_pos (by omega)]
  ·rw[mG (by simp;omega),mG (by omega)]
theorem Fh (rs:List (Nat×Nat))(m n:Nat)(hm:m<rs.length):(ji rs).set (m*2+1) (.int .i64 n)=ji (rs.set m (rs[m].1,n)):=by
 induction rs generalizing m with
 |nil=>simp at hm
 |cons r rs ih=>
  cases m with
  |zero=>rfl
  |succ m=>
   have:=ih m (by simpa using hm)
   rw[show (m+1)*2+1=(m*2+1)+2 by omega]
   show [Value.int .i64 (r.1:Int),Value.int .i64 (r.2:Int)]++(ji rs).set (m*2+1) (.int .i64 n)=_
   rw[this];rfl
theorem Be {w w':World}{S:Nat->Prop}{B lb size n:Nat}{rs':List (Nat×Nat)}{v v':Value}{xs:List Value}(hobj:w.heap[lb]? =some (.cells #[.int .i64 size,v] 186 (0,0)))(hown:aQ w S B 236 2 v n xs)(lo:B<=lb)(ns:¬S lb)(hk:Keep (fun g=>v.ownBlock=some g) w w')(hb:Below B w w')(ho:aQ w' S B 236 2 v' rs'.length (ji rs')):
  mZ (w'.setCell ⟨lb,1,none⟩ v') S B lb size rs' v'/\Below B w (w'.setCell ⟨lb,1,none⟩ v'):=by
 have hlt:=(aj.1 hobj).1
 have hn:w'.heap[lb]? =_:=(hk.block lb hlt (hown.ne hobj (by decide))).trans hobj
 have hk5:Keep (· =lb) w' (w'.setCell ⟨lb,1,none⟩ v'):=Keep.setCell (M:=(· =lb)) (p:=⟨lb,1,none⟩) (Keep.refl _ _) (.inr rfl) _
 exact⟨⟨by simp[World.setCell,bn,hn],ho.keep fun g hg hl hs=>⟨hk5.block g hl (fun e=>ho.ne hn (by decide) (by rw[hg,e])),hs⟩,lo,ns⟩,hb.setCell (by exact lo) _⟩
theorem Vn (lb size b:Nat)(rs:List (Nat×Nat))(lv:Value)(B:Nat)(S:Nat->Prop)(w:World)(h:mZ w S B lb size rs lv)(hS:∀g,S g->g<w.heap.size)(ok:qX rs)(hl:rs.length<=1000)(hb:b<=65535):
  Calls Tryz.prog 105 #[.pointer (some ⟨lb,0,none⟩),.int .i64 b] w fun e w'=>e= .returned (.tuple #[])/\(∃v,mZ w' S B lb size (Af rs b) v)/\Below B w w':=by
 obtain⟨ao,c,rfl,n0,m0,_,_⟩:=aX.form h.own.dm
 have hobj:=h.obj
 have hown:=h.own
 have hlo:=h.lo
 have hns:=h.ns
 have hlt:lb<w.heap.size:=(aj.1 h.obj).1
 have HOK:=ah ok
 have hBw:B<=w.heap.size:=aK h.lo (iQ hlt)
 have HS:=ah hS
 clear h ok hS
 obtain⟨N,hN⟩:∃N,rs.length=N:=⟨_,rfl⟩
 rw[hN] at hobj hown n0 hl
 have c1:w.cell? ⟨lb,1,none⟩=some (.slice ao N c):=by simp[World.cell?,hobj]
 have HSL:=ah hown.dm
 have HOW:=ah hown
 have HOB:=ah hobj
 have HRC:=ah (show ji (rs++[(b,1)])=ji rs++[.int .i64 b,.int .i64 1] by rw[um];rfl)
 have HLEN:=ah hN
 clear hobj hown
 cases N with
 |zero=>
  have HADD:=ah (show Af rs b=rs++[(b,1)] by rw[aV hN];rfl)
  clear hN
  go_enter Tryz.func105,Tryz.ntmps105
  go_wp2_with fail
  go_quiet (fail)
  obtain⟨w1,HW1⟩:∃w1:World,Hid (w.drewN nq=w1):=⟨_,ah rfl⟩
  have hb1:Below w.heap.size w w1:=by rw[<-HW1.out];exact QX (aR _ _) _
  rw[HW1.out]
  have HO1:=ah (HOW.out.below hb1)
  have HB1:=ah ((hb1.block lb hlt).trans HOB.out)
  have e0:w1.cell? ⟨lb,1,none⟩=some (.slice ao 0 c):=(hb1.cell (p:=⟨lb,1,none⟩) hlt).trans c1
  have ef:w1.frozen? ⟨lb,1,none⟩=false:=by have:=HB1.out;simp[World.frozen?,this]
  have el:lb<w1.heap.size:=ak hlt hb1.size
  have hS1:∀g,S g->g<w1.heap.size:=fun g hg=>ak (HS.out g hg) hb1.size
  have hBg:=aK hBw hb1.size
  clear c1
  go_wp2_with (first
   |(at_builtin;go_must ((refine cK rfl (.tmp 60) (.tmp 63) 184 184 rfl S B 236 2 16 _ lG yZ rfl (.slice ao 0 c) _ _ rfl (HO1.out.below (aO _ _)) _ 1 _ rfl (gu [.int .i64 b,.int .i64 1] _ 2 1 1 (by simp) lG rfl ?_) (eU hS1 _) ?_ ?_ ?_ ?_);(focus (simp[Value.oneCell']));(focus (simp only[aS];omega));(focus (unfold maxLen;omega));(focus omega);intro ao3 c3 w3 hown3 hk3 hb3 hd3;refine Stop.of ?_)))
  refine Stop.on ?_
  have HO2:=HO1.out.below (aO w1 (.cells #[.int .i64 b,.int .i64 1] 236))
  have HB2:=((aO w1 (.cells #[.int .i64 b,.int .i64 1] 236)).block lb el).trans HB1.out
  have hn3:w3.heap[lb]? =_:=(hk3.block lb (aj.1 HB2).1 (HO2.ne HB2 (by decide))).trans HB2
  have g0:w3.cell? ⟨lb,1,none⟩=some (.slice ao 0 c):=by have:=hn3;simp only[World.cell?,this];rfl
  have gf:w3.frozen? ⟨lb,1,none⟩=false:=by simp[World.frozen?,hn3]
  have gl:=(aj.1 hn3).1
  have HPUT:=ah (Be (rs':=rs++[(b,1)]) HB2 HO2 hlo hns hk3 hb3 (by rw[ay,HLEN.out,HRC.out];exact hown3))
  go_wp2_with fail
  go_end0
  refine⟨rfl,⟨_,by rw[HADD.out];exact HPUT.out.1⟩,?_⟩
  exact(hb1.mono hBw).trans ((aO w1 _|>.mono hBg).trans HPUT.out.2)
 |succ m=>
  have hm:m<rs.length:=by omega
  obtain⟨pb,po,rfl,d1,d2⟩:=Dl.at (rs:=rs) (w:=w) (S:=S) (by have:=HSL.out;rw[<-hN] at this;exact this) rfl m hm
  have hrk:=HOK.out rs[m] (bE hm)
  obtain⟨gg,cc,e,_,_,hBpb,_⟩:=HOW.out.Ay (by omega)
  cases e
  rw[dV] at d1 d2
  obtain⟨f,hf⟩:∃f,f=rs[m].1:=⟨_,rfl⟩
  obtain⟨n,hn⟩:∃n,n=rs[m].2:=⟨_,rfl⟩
  rw[<-hf,<-hn] at hrk
  rw[<-hf] at d1
  rw[<-hn] at d2
  have hpb:=aD w _ d1
  have hpb':pb<w.heap.size:=hpb
  by_cases hc:f+n=b/\n<255
  ·have HADD:=ah (show Af rs b=rs.set m (f,n+1) by rw[Ob rs m b hN hm (by rw[<-hf,<-hn];exact hc),<-hf,<-hn])
   have HRS:=ah (show (ji rs).set (m*2+1) (.int .i64 ((n+1:Nat):Int))=ji (rs.set m (f,n+1)) by rw[Fh rs m (n+1) hm,<-hf])
   have h1':(f:Int)+(n:Int)=(b:Int):=by omega
   have h2':(n:Int)<255:=by omega
   obtain⟨cur,hrow,hcl,hct,_,hSpb,hcc,hccm⟩:=HOW.out.row
   have HROW:=ah (aF hrow (aF hcl (aF hct (aF hSpb (aF hcc hccm)))))
   have hfz:=hrow.frozen (m*2+1)
   clear hf hn hN hc hrow hcl hct hSpb hcc hccm
   go_enter Tryz.func105,Tryz.ntmps105
   go_wp2_with fail
   go_quiet (fail)
   obtain⟨w1,HW1⟩:∃w1:World,Hid (w.drewN nq=w1):=⟨_,ah rfl⟩
   have hb1:Below w.heap.size w w1:=by rw[<-HW1.out];exact QX (aR _ _) _
   rw[HW1.out]
   have hR1:Row w1 pb 236 cur:=(hb1.block pb hpb').trans HROW.out.1
   have HO1:=ah (HOW.out.below hb1)
   have HB1:=ah ((hb1.block lb hlt).trans HOB.out)
   have e0:w1.cell? ⟨lb,1,none⟩=some (.slice (some ⟨pb,0,none⟩) (m+1) c):=(hb1.cell (p:=⟨lb,1,none⟩) hlt).trans c1
   have e1:w1.cell? ⟨pb,m*2+1,none⟩=some (.int .i64 n):=(hb1.cell (p:=⟨pb,m*2+1,none⟩) hpb').trans d2
   have ef:w1.frozen? ⟨pb,m*2+1,none⟩=false:=hR1.frozen _
   have el:lb<w1.heap.size:=ak hlt hb1.size
   have el2:pb<w1.heap.size:=ak hpb' hb1.size
   have HR1:=ah hR1
   clear c1 d1 d2 hfz hR1
   go_wp2_with fail
   refine vZ (A8 rfl _ _ _) rfl ?_
   have hk5:Keep (· =pb) w1 (w1.setCell ⟨pb,m*2+1,none⟩ (.int .i64 ((n:Int)+1))):=(Keep.refl (· =pb) _).setCell (p:=⟨pb,m*2+1,none⟩) (.inr rfl) _
   have hlp:¬lb=pb:=fun e=>by subst e;exact HO1.out.ne HB1.out (by decide) rfl
   refine⟨rfl,⟨_,by
    rw[HADD.out]
    refine⟨(hk5.block lb el hlp).trans HB1.out,?_,hlo,hns⟩
    have hr':Row (w1.setCell ⟨pb,m*2+1,none⟩ (.int .i64 ((n:Int)+1))) pb 236 (cur.set (m*2+1) (.int .i64 ((n:Int)+1))):=by
     have:=HR1.out
     unfold Row at this ⊢
     simp[World.setCell,bn,this]
    have:=hr'.own (S:=S) (B:=B) (k:=2) (cap:=c) (m+1) (by simpa using HROW.out.2.1) hBpb HROW.out.2.2.2.1 HROW.out.2.2.2.2.1 HROW.out.2.2.2.2.2
    rw[List.take_set,HROW.out.2.2.1] at this
    have e9:(ji rs).set (m*2+1) (.int .i64 ((n:Int)+1))=ji (rs.set m (f,n+1)):=HRS.out
    rw[e9] at this
    rw[List.length_set,HLEN.out]
    exact this⟩,?_⟩
   exact(hb1.mono hBw).trans (hk5.ku (aK hBw hb1.size) (fun i hi e=>absurd hBpb (by rw[<-e];exact gI.2 hi)))
  ·have HADD:=ah (show Af rs b=rs++[(b,1)] from Oc rs m b hN hm (by rw[<-hf,<-hn];exact hc))
   have hsum:((f:Int)+(n:Int)==(b:Int))=decide (f+n=b):=by
    by_cases h:f+n=b
    ·rw[dZ h];simp;omega
    ·rw[bQ h];simp;omega
   clear hf hn hN
   have e2:w.cell? ⟨pb,m*2,none⟩=some (.int .i64 f):=d1
   go_enter Tryz.func105,Tryz.ntmps105
   go_wp2_with fail
   by_cases h1:f+n=b
   ·have h2:¬n<255:=fun e=>hc ⟨h1,e⟩
    have h2':decide ((n:Int)<255)=false:=bQ (by omega)
    have h1':(f:Int)+(n:Int)=(b:Int):=by omega
    go_quiet (fail)
    obtain⟨w1,HW1⟩:∃w1:World,Hid (w.drewN nq=w1):=⟨_,ah rfl⟩
    have hb1:Below w.heap.size w w1:=by rw[<-HW1.out];exact QX (aR _ _) _
    rw[HW1.out]
    have HO1:=ah (HOW.out.below hb1)
    have HB1:=ah ((hb1.block lb hlt).trans HOB.out)
    have e0:w1.cell? ⟨lb,1,none⟩=some (.slice (some ⟨pb,0,none⟩) (m+1) c):=(hb1.cell (p:=⟨lb,1,none⟩) hlt).trans c1
    have ef:w1.frozen? ⟨lb,1,none⟩=false:=by have:=HB1.out;simp[World.frozen?,this]
    have el:lb<w1.heap.size:=ak hlt hb1.size
    have hS1:∀g,S g->g<w1.heap.size:=fun g hg=>ak (HS.out g hg) hb1.size
    have hBg:=aK hBw hb1.size
    clear c1
    go_wp2_with (first
     |(at_builtin;go_must ((refine cK rfl (.tmp 60) (.tmp 63) 184 184 rfl S B 236 2 16 _ lG yZ rfl (.slice (some ⟨pb,0,none⟩) (m+1) c) _ _ rfl (HO1.out.below (aO _ _)) _ 1 _ rfl (gu [.int .i64 b,.int .i64 1] _ 2 1 1 (by simp) lG rfl ?_) (eU hS1 _) ?_ ?_ ?_ ?_);(focus (simp[Value.oneCell']));(focus (simp only[aS];omega));(focus (unfold maxLen;omega));(focus omega);intro ao3 c3 w3 hown3 hk3 hb3 hd3;refine Stop.of ?_)))
    refine Stop.on ?_
    have HO2:=HO1.out.below (aO w1 (.cells #[.int .i64 b,.int .i64 1] 236))
    have HB2:=((aO w1 (.cells #[.int .i64 b,.int .i64 1] 236)).block lb el).trans HB1.out
    have hn3:w3.heap[lb]? =_:=(hk3.block lb (aj.1 HB2).1 (HO2.ne HB2 (by decide))).trans HB2
    have g0:w3.cell? ⟨lb,1,none⟩=some (.slice (some ⟨pb,0,none⟩) (m+1) c):=by have:=hn3;simp only[World.cell?,this];rfl
    have gf:w3.frozen? ⟨lb,1,none⟩=false:=by simp[World.frozen?,hn3]
    have gl:=(aj.1 hn3).1
    have HPUT:=ah (Be (rs':=rs++[(b,1)]) HB2 HO2 hlo hns hk3 hb3 (by rw[ay,HLEN.out,HRC.out];exact hown3))
    go_wp2_with fail
    go_end0
    refine⟨rfl,⟨_,by rw[HADD.out];exact HPUT.out.1⟩,?_⟩
    exact(hb1.mono hBw).trans ((aO w1 _|>.mono hBg).trans HPUT.out.2)
   ·have h1':¬(f:Int)+(n:Int)=(b:Int):=by omega
    go_quiet (fail)
    obtain⟨w1,HW1⟩:∃w1:World,Hid (w.drewN nq=w1):=⟨_,ah rfl⟩
    have hb1:Below w.heap.size w w1:=by rw[<-HW1.out];exact QX (aR _ _) _
    rw[HW1.out]
    have HO1:=ah (HOW.out.below hb1)
    have HB1:=ah ((hb1.block lb hlt).trans HOB.out)
    have e0:w1.cell? ⟨lb,1,none⟩=some (.slice (some ⟨pb,0,none⟩) (m+1) c):=(hb1.cell (p:=⟨lb,1,none⟩) hlt).trans c1
    have ef:w1.frozen? ⟨lb,1,none⟩=false:=by have:=HB1.out;simp[World.frozen?,this]
    have el:lb<w1.heap.size:=ak hlt hb1.size
    have hS1:∀g,S g->g<w1.heap.size:=fun g hg=>ak (HS.out g hg) hb1.size
    have hBg:=aK hBw hb1.size
    clear c1
    go_wp2_with (first
     |(at_builtin;go_must ((refine cK rfl (.tmp 60) (.tmp 63) 184 184 rfl S B 236 2 16 _ lG yZ rfl (.slice (some ⟨pb,0,none⟩) (m+1) c) _ _ rfl (HO1.out.below (aO _ _)) _ 1 _ rfl (gu [.int .i64 b,.int .i64 1] _ 2 1 1 (by simp) lG rfl ?_) (eU hS1 _) ?_ ?_ ?_ ?_);(focus (simp[Value.oneCell']));(focus (simp only[aS];omega));(focus (unfold maxLen;omega));(focus omega);intro ao3 c3 w3 hown3 hk3 hb3 hd3;refine Stop.of ?_)))
    refine Stop.on ?_
    have HO2:=HO1.out.below (aO w1 (.cells #[.int .i64 b,.int .i64 1] 236))
    have HB2:=((aO w1 (.cells #[.int .i64 b,.int .i64 1] 236)).block lb el).trans HB1.out
    have hn3:w3.heap[lb]? =_:=(hk3.block lb (aj.1 HB2).1 (HO2.ne HB2 (by decide))).trans HB2
    have g0:w3.cell? ⟨lb,1,none⟩=some (.slice (some ⟨pb,0,none⟩) (m+1) c):=by have:=hn3;simp only[World.cell?,this];rfl
    have gf:w3.frozen? ⟨lb,1,none⟩=false:=by simp[World.frozen?,hn3]
    have gl:=(aj.1 hn3).1
    have HPUT:=ah (Be (rs':=rs++[(b,1)]) HB2 HO2 hlo hns hk3 hb3 (by rw[ay,HLEN.out,HRC.out];exact hown3))
    go_wp2_with fail
    go_end0
    refine⟨rfl,⟨_,by rw[HADD.out];exact HPUT.out.1⟩,?_⟩
    exact(hb1.mono hBw).trans ((aO w1 _|>.mono hBg).trans HPUT.out.2)
theorem KH (rs:List (Nat×Nat))(k:Nat)(h:k<rs.length):(rs.flatMap rW)[3*k]? =some (UInt8.ofNat rs[k].1)/\(rs.flatMap rW)[3*k+1]? =some (UInt8.ofNat (rs[k].1/256))/\(rs.flatMap rW)[3*k+2]? =some (UInt8.ofNat rs[k].2):=by
 induction rs generalizing k with
 |nil=>simp at h
 |cons r rs ih=>
  cases k with
  |zero=>exact⟨rfl,rfl,rfl⟩
  |succ k=>
   have:=ih k (by simpa using h)
   rw[show 3*(k+1)=3*k+1+1+1 by omega,show 3*k+1+1+1+1=(3*k+1)+1+1+1 by omega,show 3*k+1+1+1+2=(3*k+2)+1+1+1 by omega]
   exact this
theorem FO (size:Nat)(rs:List (Nat×Nat))(rest:List UInt8)(k j:Nat)(u:UInt8)(hj:(rs.flatMap rW)[j]? =some u)(hk:k=4+j):(aI (encR size rs++rest))[k]? =some (.int .u8 (u.toNat:Int)):=by
 subst hk
 have hl:=(cu.1 hj).1
 unfold aI encR
 rw[eG,aL,cZ (by simp),aZ,aZ,aZ,aZ,bV,dV,dF,fU hl,hj]
 rfl
theorem EC (size:Nat)(rs:List (Nat×Nat))(rest:List UInt8):(aI (encR size rs++rest))[0]? =some (.int .u8 177)/\(aI (encR size rs++rest))[1]? =some (.int .u8 ((UInt8.ofNat size).toNat:Int))/\(aI (encR size rs++rest))[2]? =some (.int .u8 ((UInt8.ofNat (size/256)).toNat:Int))/\(aI (encR size rs++rest))[3]? =some (.int .u8 ((UInt8.ofNat rs.length).toNat:Int)):=⟨rfl,rfl,rfl,rfl⟩
def chunk (t:List UInt8)(i:Nat):List UInt8:=(t.drop (512*i)).take 512
def sJ (n:Nat):Nat:=(n+511)/512
structure vW (σ:bZ)(head:Nat)(size:Nat)(rs:List (Nat×Nat)):Prop where
 lo:2<=head
 has:σ.hasB head=true
 mem:∃rest,σ.mem head=encR size rs++rest
 ok:qX rs
 len:(fQ rs).length=sJ size
 s1:1<=size
 s2:size<=49152
theorem vW.runs {σ:bZ}{head size:Nat}{rs:List (Nat×Nat)}(h:vW σ head size rs):rs.length<=96/\(fQ rs).length<=96:=by
 have h1:=h.ok.le
 have h2:=h.len
 have h3:=h.s2
 unfold sJ at h2
 omega
theorem SL (mp:VS)(σ:bZ)(S:Nat->Prop)(w:World)(head size:Nat)(rs:List (Nat×Nat))(h:Inv σ S mp w)(hh:vW σ head size rs):
  Calls Tryz.prog 96 #[.iface 97 mp.agg,.int .i64 head] w fun e w'=>∃lb v,e= .returned (.tuple #[.pointer (some ⟨lb,0,none⟩),.int .i64 0])/\mZ w' S w.heap.size lb size rs v/\Below w.heap.size w w':=by
 have hsub:=h.sub
 have hrd:=Cf mp σ S w head h hh.has
 obtain⟨rest,hmem⟩:=hh.mem
 rw[hmem] at hrd
 have hl5:(encR size rs++rest).length=512:=by
  obtain⟨n,hn,hn2,_⟩:=bZ.kJ hh.has
  rw[<-hmem,hn]
  exact h.ok.len n hn2
 have HRd:=ah hrd;clear hrd
 have hlo:=hh.lo
 have hs1:=hh.s1
 have hs2:=hh.s2
 obtain⟨hrl,hbl⟩:=hh.runs
 have HH:=ah hh
 obtain⟨b0,b1,b2,b3⟩:=EC size rs rest
 have HB:=ah (aF b0 (aF b1 (aF b2 b3)))
 have x1:¬(head:Int)<0:=by omega
 have x2:((head:Int)==0)=false:=by simp;omega
 have x3:¬(head:Int)=0:=by omega
 clear hh hmem b0 b1 b2 b3
 have hm:∀w,(method 454 97 mp.agg "Read").run Tryz.prog w= .ok (57,.pointer (some ⟨mp.tx,0,none⟩)) w:=fun _=>by kernel_rfl
 go_enter Tryz.func96,Tryz.ntmps96
 go_wp2_with (refine HRd.out.mono ?_;rintro e w1 ⟨v,rfl,hv,hvb,hb1⟩;refine Stop.of ?_)
 refine Stop.on ?_
 have hv':=hv
 obtain⟨ao,cp,rfl,n0,m0,_,_⟩:=aX.form hv'
 obtain⟨b0,b1,b2,b3⟩:=HB.out
 obtain⟨vb,vo,rfl,d0⟩:=aX.DU hv rfl 0 _ b0
 obtain⟨_,_,e,d1⟩:=aX.DU hv rfl 1 _ b1
 cases e
 obtain⟨_,_,e,d2⟩:=aX.DU hv rfl 2 _ b2
 cases e
 obtain⟨_,_,e,d3⟩:=aX.DU hv rfl 3 _ b3
 cases e
 have u3:((UInt8.ofNat rs.length).toNat:Int)=(rs.length:Int):=by rw[fe];omega
 obtain⟨lo,hlo0⟩:∃lo:Nat,lo=size%256:=⟨_,rfl⟩
 obtain⟨hi,hhi0⟩:∃hi:Nat,hi=size/256:=⟨_,rfl⟩
 have u1:((UInt8.ofNat size).toNat:Int)=(lo:Int):=by rw[fe,hlo0]
 have u2:((UInt8.ofNat (size/256)).toNat:Int)=(hi:Int):=by rw[fe,hhi0];omega
 rw[u1] at d1;rw[u2] at d2;rw[u3] at d3
 have hvl:vb<w1.heap.size:=aD w1 _ d0
 have hvw:w.heap.size<=vb:=hvb vb rfl
 have HV:=ah hv
 have hlo1:lo<256:=by omega
 have hhi1:hi<256:=by omega
 have hsz0:size=lo+256*hi:=by omega
 rw[iw] at d0
 clear b0 b1 b2 b3 u1 u2 u3 hlo0 hhi0 hv hv' hvb hm
 have y1:(lo:Int)<256:=by omega
 have y2:(rs.length:Int)*3+4<=512:=by omega
 obtain⟨w2,HW2⟩:∃w2:World,Hid (w1.alloc (.cells #[.int .i64 0,.slice none 0 0] 186)=w2):=⟨_,ah rfl⟩
 have hb2:Below w1.heap.size w1 w2:=by rw[<-HW2.out];exact aO w1 _
 have hL2:w2.heap[w1.heap.size]? =some (.cells #[.int .i64 0,.slice none 0 0] 186 (0,0)):=by rw[<-HW2.out];exact bD w1 _
 have D0:=(hb2.cell (p:=⟨vb,vo,none⟩) hvl).trans d0
 have D1:=(hb2.cell (p:=⟨vb,vo+1,none⟩) hvl).trans d1
 have D2:=(hb2.cell (p:=⟨vb,vo+2,none⟩) hvl).trans d2
 have D3:=(hb2.cell (p:=⟨vb,vo+3,none⟩) hvl).trans d3
 have hvl2:=ak hvl hb2.size
 have HD:=ah (aF D0 (aF D1 (aF D2 (aF D3 hvl2))))
 clear d0 d1 d2 d3 D0 D1 D2 D3
 go_upto_region 11 with (fail)
 rw[HW2.out]
 obtain⟨D0,D1,D2,D3,hvl2⟩:=HD.out
 go_wp2_with fail
 obtain⟨lb,HLB⟩:∃lb,Hid (w1.heap.size=lb):=⟨_,ah rfl⟩
 have hlbw:w.heap.size<=lb:=by rw[<-HLB.out];exact hb1.size
 rw[HLB.out] at hL2 ⊢
 have hlb2:lb<w2.heap.size:=(aj.1 hL2).1
 have hlf:w2.drew.frozen? ⟨lb,0,none⟩=false:=by show w2.frozen? _=false;simp[World.frozen?,hL2]
 have hlc:w2.drew.cell? ⟨lb,0,none⟩=some (.int .i64 0):=by show w2.cell? _=_;simp[World.cell?,hL2]
 have hlbd:lb<w2.drew.heap.size:=hlb2
 have HOR:=ah (Kr lo hi size hlo1 hhi1 hsz0)
 have HSZ:=ah hsz0
 have HLN:=ah hl5
 clear hsz0 y1 hl5
 refine aP (fun W=>W=w2.drew) (fun i=> !([13].contains i)) [0,1,2,3,4,5,6,7,8,9,10,11,12,13] rfl (by kernel_rfl) rfl ?_
 repeat ((refine bP (v:= ?_) rfl rfl (fun _ _ _ h=>h) rfl (fun W hW=> ?_) ?_);rotate_left;(focus ((try dsimp only at hW);subst hW;have r1:w2.drew.cell? ⟨vb,vo+1,none⟩=some (.int .u8 lo):=D1;have r2:w2.drew.cell? ⟨vb,vo+2,none⟩=some (.int .u8 hi):=D2;have r3:vb<w2.drew.heap.size:=hvl2;(go_simp;first|done|with_reducible rfl)));(try simp only[Act.put,ai,ax,au]))
 rw[HOR.out]
 refine jO rfl rfl rfl (by kernel_rfl) ?_;intro K hK;go_simp
 refine hK.out _ _ ?_
 refine bS ?_
 have hk3:Keep (· =lb) w2 (w2.setCell ⟨lb,0,none⟩ (.int .i64 size)).drew:=((Keep.refl (· =lb) w2).setCell (p:=⟨lb,0,none⟩) (.inr rfl) _).drew
 have hL3:(w2.setCell ⟨lb,0,none⟩ (.int .i64 size)).drew.heap[lb]? =some (.cells #[.int .i64 size,.slice none 0 0] 186 (0,0)):=by
  show (w2.setCell ⟨lb,0,none⟩ (.int .i64 size)).heap[lb]? =_
  simp[World.setCell,bn,hL2]
 generalize (w2.setCell ⟨lb,0,none⟩ (.int .i64 size)).drew=w3 at hk3 hL3 ⊢
 have hsl:¬S lb:=fun x=>absurd (hsub lb x) (bq.2 hlbw)
 have hA3:mZ w3 S lb lb size (rs.take 0) (.slice none 0 0):=⟨hL3,by rw[iD];exact aQ.nil _ _ _ _ _,aC _,hsl⟩
 have hb3:Below lb w1 w3:=by
  have:=hb2
  rw[HLB.out] at this
  exact this.trans (hk3.ku (by omega) (fun i hi e=>by omega))
 have hvb1:vb<lb:=by rw[<-HLB.out];exact hvl
 have HCELL:=ah (fun (W:World) (hW:Below lb w1 W) (j:Nat) (u:Value) (hu:(aI (encR size rs++rest))[j]? =some u)=>(show W.cell? ⟨vb,vo+j,none⟩=some u from by
  obtain⟨_,_,e,dj⟩:=aX.DU HV.out rfl j _ hu
  cases e
  exact(nQ (w:=w1) (a:=⟨vb,vo+j,none⟩) (hW.block vb hvb1)).trans dj))
 have hw1l:w1.heap.size=lb:=HLB.out
 have D3':=HCELL.out w3 hb3 3 _ (EC size rs rest).2.2.2
 have hvl3:vb<w3.heap.size:=ak hvl (by rw[hw1l];exact iQ (aj.1 hL3).1)
 have u3:((UInt8.ofNat rs.length).toNat:Int)=(rs.length:Int):=by rw[fe];omega
 rw[u3] at D3'
 clear D0 D1 D2 D3 hvl2 hlf hlc hlbd hlb2 hk3 hL3 hL2 u3 y2
 go_wp2_with fail
 go_loopw [9,10,70] (fun _ _ i wr=>∃(k:Nat) (v:Value),k<=rs.length/\i= .int .i64 k/\mZ wr S lb lb size (rs.take k) v/\Below lb w1 wr) (fun _ _ i _=>rs.length - (intOf i).toNat)
 case atStart=>exact⟨0,_,by omega,rfl,hA3,hb3⟩
 case round=>
  obtain⟨k,v,hk,rfl,hA,hb⟩:=hrel
  have hkt:(rs.take k).length=k:=by rw[aH];omega
  obtain⟨hobj,hown⟩:=aF hA.obj hA.own
  rw[hkt] at hown
  obtain⟨vo2,vc2,rfl,_,_,_,_⟩:=aX.form hown.dm
  have hlbr:lb<wr.heap.size:=(aj.1 hobj).1
  have hvr:vb<wr.heap.size:=nE hvb1 hlbr
  have HA:=ah hA;clear hA hkt
  by_cases hkl:k<rs.length
  ·have x1:(k:Int)<(rs.length:Int):=by omega
   have z1:¬cp=4+3*k:=by omega
   have z2:((4:Int)+3*(k:Int))<=512:=by omega
   have z3:((4:Int)+3*(k:Int))<=(cp:Int):=by omega
   have z4:((4:Int)+3*(k:Int)).toNat=4+3*k:=by omega
   clear D3'
   go_upto_region 18 with (fail)
   obtain⟨f,hf⟩:∃f,f=rs[k].1:=⟨_,rfl⟩
   obtain⟨n,hn⟩:∃n,n=rs[k].2:=⟨_,rfl⟩
   have hrk:=HH.out.ok rs[k] (bE hkl)
   rw[<-hf,<-hn] at hrk
   obtain⟨j0,j1,j2⟩:=KH rs k hkl
   obtain⟨a1,ha1⟩:∃a:Nat,a=f%256:=⟨_,rfl⟩
   obtain⟨a2,ha2⟩:∃a:Nat,a=f/256:=⟨_,rfl⟩
   have v1:((UInt8.ofNat rs[k].1).toNat:Int)=(a1:Int):=by rw[fe,<-hf,ha1]
   have v2:((UInt8.ofNat (rs[k].1/256)).toNat:Int)=(a2:Int):=by rw[fe,<-hf,ha2];omega
   have v3:((UInt8.ofNat rs[k].2).toNat:Int)=(n:Int):=by rw[fe,<-hn];omega
   have HR:=ah (show ∀W,Below lb w1 W->W.cell? ⟨vb,vo+(4+3*k),none⟩=some (.int .u8 a1)/\W.cell? ⟨vb,vo+(4+3*k)+1,none⟩=some (.int .u8 a2)/\W.cell? ⟨vb,vo+(4+3*k)+2,none⟩=some (.int .u8 n) from fun W hW=>by
    have e0:=HCELL.out W hW (4+3*k) _ (FO size rs rest _ _ _ j0 rfl)
    have e1:=HCELL.out W hW (4+3*k+1) _ (FO size rs rest _ _ _ j1 (by omega))
    have e2:=HCELL.out W hW (4+3*k+2) _ (FO size rs rest _ _ _ j2 (by omega))
    rw[v1] at e0;rw[v2] at e1;rw[v3] at e2
    exact⟨e0,by rw[lX];exact e1,by rw[lX];exact e2⟩)
   have HF:=ah (Kr a1 a2 f (by omega) (by omega) (by omega))
   have q9:IntKind.i64.wrap (n:Int)=(n:Int):=aG _ (by omega)
   have HRUN:=ah (show ji (rs.take (k+1))=ji (rs.take k)++[.int .i64 f,.int .i64 n] by
    rw[aM hkl,um,hf,hn];rfl)
   have hcl1:wr.cell? ⟨lb,1,none⟩=some (.slice vo2 k vc2):=by simp[World.cell?,hobj]
   have hz5:0<512 - (4+3*k):=by omega
   have hz9:1<512 - (4+3*k):=by omega
   have hz10:2<512 - (4+3*k):=by omega
   have hz6:(0:Int)<((512 - (4+3*k):Nat):Int):=by omega
   have hz7:(1:Int)<((512 - (4+3*k):Nat):Int):=by omega
   have hz8:(2:Int)<((512 - (4+3*k):Nat):Int):=by omega
   clear hf hn v1 v2 v3 j0 j1 j2 ha1 ha2 z1 z2 z3 z4
   generalize 512 - (4+3*k)=M at*
   generalize cp - (4+3*k)=M2 at*
   refine aP (fun W=>Below lb w1 W/\W.cell? ⟨lb,1,none⟩=some (.slice vo2 k vc2)/\lb<W.heap.size/\vb<W.heap.size) (fun i=> !([20,21,24].contains i)) [0,1,2,3,4,5,6,7,8,9,10,11,12,13,14,15,16,17,18,19,20,21,22,23,24] rfl (by kernel_rfl) ⟨hb.drew,hcl1,hlbr,hvr⟩ ?_
   repeat ((refine bP (v:= ?_) rfl rfl (fun _ _ _ h=>h) rfl (fun W hW=> ?_) ?_);rotate_left;(focus ((try dsimp only at hW);obtain⟨r0,r1,r2,r3⟩:=hW;obtain⟨r4,r5,r6⟩:=HR.out W r0;clear r0;(go_simp;first|done|with_reducible rfl)));(try simp only[Act.put,ai,ax,au]))
   rw[HF.out]
   have hsubr:∀g,S g->g<wr.heap.size:=fun g hg=>ak (hsub g hg) (aK hlbw (iQ hlbr))
   have hbA':Below lb wr (wr.alloc (.cells #[.int .i64 f,.int .i64 n] 236)).drew:=((aO wr _).mono (iQ hlbr)).drew
   have hobA:(wr.alloc (.cells #[.int .i64 f,.int .i64 n] 236)).drew.heap[lb]? =_:=((aO wr (.cells #[.int .i64 f,.int .i64 n] 236)).block lb hlbr).trans hobj
   have hownA:=(hown.below (aO wr (.cells #[.int .i64 f,.int .i64 n] 236))).drew
   have hsrcA:=(mq (w:=wr) (S:=S) (B:=lb) (e:=236) (k:=2) [.int .i64 f,.int .i64 n] 1 1 rfl rfl (aC _) (by simp[maxLen]) (iQ hlbr) hsubr).drew.dm.src (P:=Tryz.prog) lG (by intro u hu;simp at hu;rcases hu with rfl|rfl<;>rfl)
   have hSA:∀g,S g->g<(wr.alloc (.cells #[.int .i64 f,.int .i64 n] 236)).drew.heap.size:=fun g hg=>ak (hsubr g hg) (aO wr (.cells #[.int .i64 f,.int .i64 n] 236)).size
   have hcA:(wr.alloc (.cells #[.int .i64 f,.int .i64 n] 236)).drew.cell? ⟨lb,1,none⟩=some (.slice vo2 k vc2):=by have:=hobA;simp only[World.cell?,this];rfl
   refine dK rfl rfl rfl ?_;intro K hK;go_simp
   refine hK.out _ _ ⟨hb.trans hbA',hcA,(aj.1 hobA).1,ak hvr hbA'.size⟩ ?_
   refine dK rfl rfl rfl ?_;intro K hK
   refine nK (.tmp 82) (.tmp 98) 184 184 rfl S lb 236 2 16 _ lG yZ rfl (.slice vo2 k vc2) k _ rfl hownA _ 1 _ rfl hsrcA hSA (aK (iQ hlbr) hbA'.size) (by unfold maxLen;omega) (by omega) ?_
   intro ao3 c3 w4 hown4 hk4 hb4 hd4
   have hob4:w4.heap[lb]? =_:=(hk4.block lb (aj.1 hobA).1 (hownA.ne hobA (by decide))).trans hobA
   have hPUT:=Be (rs':=rs.take (k+1)) hobA hownA (aC _) hsl hk4 hb4 (by rw[HRUN.out,aH,show min (k+1) rs.length=k+1 by omega];exact hown4)
   have HPUT:=ah hPUT;clear hPUT
   refine hK.out _ _ ⟨(hb.trans hbA').trans hb4,by simp[World.cell?,hob4],(aj.1 hob4).1,ak (ak hvr hbA'.size) hb4.size⟩ ?_
   (try simp only[Act.put,ai,ax,au])
   repeat ((refine bP (v:= ?_) rfl rfl (fun _ _ _ h=>h) rfl (fun W hW=> ?_) ?_);rotate_left;(focus ((try dsimp only at hW);obtain⟨r0,r1,r2,r3⟩:=hW;clear r0;(go_simp;first|done|with_reducible rfl)));(try simp only[Act.put,ai,ax,au]))
   have g4:w4.cell? ⟨lb,1,none⟩=some (.slice vo2 k vc2):=by simp[World.cell?,hob4]
   have gf4:w4.frozen? ⟨lb,1,none⟩=false:=by simp[World.frozen?,hob4]
   have gl4:=(aj.1 hob4).1
   refine jO rfl rfl rfl (by kernel_rfl) ?_;intro K hK;go_simp
   refine hK.out _ _ ?_
   refine bS ?_
   clear hz5 hz6 hz7 hz8 hz9 hz10 q9
   go_wp2_with fail
   go_roundw
   case rel=>exact⟨k+1,_,by omega,by go_num,HPUT.out.1,(hb.trans hbA').trans HPUT.out.2⟩
   case measure=>simp[intOf];omega
  ·obtain rfl:k=rs.length:=by omega
   have hAr:=HA.out
   rw[bR] at hAr
   have hlen:=HH.out.len
   have hsubr:∀g,S g->g<wr.heap.size:=fun g hg=>ak (hsub g hg) (aK hlbw (iQ hlbr))
   have HBK:=ah (FX lb size rs _ lb S wr.drew (show mZ wr.drew S lb lb size rs (.slice vo2 rs.length vc2) from⟨hAr.obj,hAr.own.drew,hAr.lo,hAr.ns⟩) hsubr HH.out.ok (by omega))
   obtain⟨s5,hs5⟩:∃s:Nat,s=size+512:=⟨_,rfl⟩
   obtain⟨s6,hs6⟩:∃s:Nat,s=size+511:=⟨_,rfl⟩
   obtain⟨nb,hnb⟩:∃s:Nat,s=sJ size:=⟨_,rfl⟩
   have q1:IntKind.i64.wrap ((size:Int)+512)=(s5:Int):=by rw[aG _ (by omega)];omega
   have q2:IntKind.i64.wrap ((s5:Int) - 1)=(s6:Int):=by rw[aG _ (by omega)];omega
   have q3:IntKind.i64.wrap ((s6:Int)/512)=(nb:Int):=by
    have e:(s6:Int)/512=(nb:Int):=by rw[hnb];unfold sJ;omega
    rw[e];exact aG _ (by unfold sJ at hnb;omega)
   have z0:((size:Int)==0)=false:=by simp;omega
   have z1:¬size=0:=by omega
   rw[<-hnb] at hlen
   have HLEN:=ah hlen
   have HCB:=ah (show ∀W,Below wr.heap.size wr W->W.cell? ⟨lb,0,none⟩=some (.int .i64 size)/\lb<W.heap.size from fun W hW=>by
    have:=(hW.block lb hlbr).trans hobj
    exact⟨by simp[World.cell?,this],ak hlbr hW.size⟩)
   have HAR:=ah hAr
   clear hAr D3' hs5 hs6 hnb hlen hown hkl
   go_upto_region 20 with (fail)
   refine aP (fun W=>Below wr.heap.size wr W) (fun i=> !([7].contains i)) [0,1,2,3,4,5,6,9,10,11,12,13,14,15,7,8,16,17] rfl (by kernel_rfl) ((aR _ wr).drew) ?_
   repeat ((refine bP (v:= ?_) rfl rfl (fun _ _ _ h=>h) rfl (fun W hW=> ?_) ?_);rotate_left;(focus ((try dsimp only at hW);obtain⟨r0,r1⟩:=HCB.out W hW;(go_simp;first|done|with_reducible rfl)));(try simp only[Act.put,ai,ax,au]))
   refine dK rfl rfl rfl ?_;intro K hK;go_simp
   refine HBK.out.mono ?_;rintro e w5 ⟨bv,rfl,hown5,hb5⟩
   obtain⟨xo,xc,rfl,_,_,_,_⟩:=aX.form hown5.dm
   refine hK.out _ _ ((aR _ wr).drew.trans hb5) ?_
   (try simp only[Act.put,ai,ax,au])
   have z3:=HLEN.out
   repeat ((refine bP (v:= ?_) rfl rfl (fun _ _ _ h=>h) rfl (fun W hW=> ?_) ?_);rotate_left;(focus ((try dsimp only at hW);obtain⟨r0,r1⟩:=HCB.out W hW;(try rw[z3]);(go_simp;first|done|with_reducible rfl)));(try simp only[Act.put,ai,ax,au]))
   refine bS ?_
   go_wp2_with fail
   go_ret2
   have hb05:Below wr.heap.size wr w5:=(aR _ wr).drew.trans hb5
   have hbA5:Below lb w1 w5:=hb.trans (hb05.mono (iQ hlbr))
   have hA5:=HAR.out.below hb05
   refine⟨lb,_,rfl,⟨hA5.obj,hA5.own.base hlbw,hlbw,hsl⟩,?_⟩
   exact hb1.trans (hbA5.mono hlbw)
def jZ (head:Nat)(rs:List (Nat×Nat)):List Int:=(fQ rs++[head]).map fun (b:Nat)=>(b:Int)
theorem Mc (mp:VS)(σ:bZ)(S:Nat->Prop)(w:World)(head size:Nat)(rs:List (Nat×Nat))(h:Inv σ S mp w)(hh:vW σ head size rs):
  Calls Tryz.prog 49 #[.iface 97 mp.agg,.int .i64 head] w fun e w'=>∃v,e= .returned (.tuple #[v,.int .i64 0])/\aQ w' S w.heap.size 3 1 v (qf (jZ head rs)).length ((qf (jZ head rs)).map (.int .i64))/\Below w.heap.size w w':=by
 have hsub:=h.sub
 have hlo:=hh.lo
 obtain⟨hrl,hbl⟩:=hh.runs
 have HL:=ah (SL mp σ S w head size rs h hh)
 have x2:((head:Int)==0)=false:=by simp;omega
 have x3:¬head=0:=by omega
 have HOK:=ah hh.ok
 have HE:=ah (show ints (fQ rs)++[.int .i64 (head:Int)]=(jZ head rs).map (.int .i64) by simp[ints,jZ])
 have HLN:=ah (show (jZ head rs).length=(fQ rs).length+1 by simp[jZ])
 clear h hh
 go_enter Tryz.func49,Tryz.ntmps49
 go_wp2_with (first
  |(go_at_call 96;go_must (refine HL.out.mono ?_;rintro e w1 ⟨lb,v,rfl,hA,hb1⟩;refine Stop.of ?_)))
 refine Stop.on ?_
 have hS1:∀g,S g->g<w1.heap.size:=fun g hg=>ak (hsub g hg) hb1.size
 have HBK:=ah (FX lb size rs v w.heap.size S w1 hA hS1 HOK.out (by omega))
 go_wp2_with (first
  |(go_at_call 97;go_must (refine HBK.out.mono ?_;rintro e w2 ⟨bv,rfl,hown2,hb2⟩;refine Stop.of ?_)))
 refine Stop.on ?_
 obtain⟨xo,xc,rfl,_,_,_,_⟩:=aX.form hown2.dm
 have hS2:∀g,S g->g<w2.heap.size:=fun g hg=>ak (hS1 g hg) hb2.size
 have hown2':=hown2.base (B:=w.heap.size) hb1.size
 have hbg:w.heap.size<=w2.heap.size:=aK hb1.size hb2.size
 go_wp2_with (first
  |(at_builtin;go_must ((refine cK rfl (.tmp 23) (.tmp 25) 93 93 rfl S w.heap.size 3 1 8 _ bf gX rfl (.slice xo (fQ rs).length xc) _ _ rfl (hown2'.below (aO _ _)) _ 1 _ rfl (gu [.int .i64 (head:Int)] _ 1 1 1 (by simp) bf rfl ?_) (eU hS2 _) ?_ ?_ ?_ ?_);(focus (simp[Value.oneCell']));(focus (simp only[aS];omega));(focus (unfold maxLen;omega));(focus omega);intro ao3 c3 w3 hown3 hk3 hb3 hd3;refine Stop.of ?_)))
 refine Stop.on ?_
 rw[HE.out] at hown3
 have hown3':aQ w3 S w.heap.size 3 1 (.slice ao3 ((fQ rs).length+1) c3) (jZ head rs).length ((jZ head rs).map (.int .i64)):=by rw[HLN.out];exact hown3
 have hbA:Below w.heap.size w w3:=((hb1.trans (hb2.mono hb1.size)).trans (aO w2 _|>.mono hbg)).trans hb3
 have HSO:=ah (yB (.slice ao3 ((fQ rs).length+1) c3) (jZ head rs) w3 S w.heap.size hown3' (by rw[HLN.out];omega) hbA.size)
 go_wp2_with (first
  |(go_at_call 50;go_must (refine HSO.out.mono ?_;rintro e w4 ⟨rfl,ho4,hb4⟩;refine Stop.of ?_)))
 refine Stop.on ?_
 go_wp2_with fail
 go_ret2
 exact⟨_,rfl,ho4,hbA.trans hb4⟩
def bZ.frees (σ:bZ)(l:List Int):bZ:=l.foldl bZ.gone σ
theorem CO (σ:bZ)(l:List Int)(k:Nat)(h:k<l.length):σ.frees (l.take (k+1))=(σ.frees (l.take k)).gone l[k]:=by
 rw[aM h]
 unfold bZ.frees
 rw[uH];rfl
theorem xW:∀(l:List Int) (σ:bZ) (x:Int),(∀y∈l,0<=y)->x∉l->(σ.frees l).hasB x=σ.hasB x
 |[],_,_,_,_=>rfl
 |y::l,σ,x,h,hx=>by
  have:=xW l (σ.gone y) x (fun z hz=>h z (aW _ hz)) (fun e=>hx (aW _ e))
  show ((σ.gone y).frees l).hasB x=_
  rw[this]
  exact bZ.zV (h y (bg ..)) (fun e=>hx (by rw[e];exact bg ..))
theorem Ac:∀(l:List Int) (σ:bZ),(∀x∈l,σ.hasB x=true)->l.Nodup->nu σ (σ.frees l) l []
 |[],σ,_,_=>nu.refl (by simp)
 |y::l,σ,h,hn=>by
  obtain⟨n1,n2⟩:=lu.1 hn
  have c1:=wT (h y (bg ..))
  have c1':=c1.left (rs:=l) hn (fun x hx=>h x (aW _ hx))
  have h2:∀x∈l,(σ.gone y).hasB x=true:=fun x hx=>(c1'.new x hx).1
  exact c1'.trans (Ac l (σ.gone y) h2 n2)
structure pF (σ:bZ)(head:Nat)(t:List UInt8)(rs:List (Nat×Nat)):Prop where
 hd:vW σ head t.length rs
 nd:(jZ head rs).Nodup
 blk:∀i (h:i<(fQ rs).length),σ.hasB ((fQ rs)[i]:Nat)=true/\2<=(fQ rs)[i]/\σ.mem ((fQ rs)[i]:Nat)=pad (chunk t i)
theorem pF.all {σ:bZ}{head:Nat}{t:List UInt8}{rs:List (Nat×Nat)}(h:pF σ head t rs):∀x∈jZ head rs,σ.hasB x=true/\2<=x:=by
 intro x hx
 unfold jZ at hx
 obtain⟨b,hb,rfl⟩:=eT.1 hx
 rcases bX.1 hb with hb|hb
 ·obtain⟨i,hi,e⟩:=fH hb
  have:=h.blk i hi
  rw[e] at this
  exact⟨this.1,by have:=this.2.1;omega⟩
 ·rw[bO.1 hb]
  exact⟨h.hd.has,by have:=h.hd.lo;omega⟩
theorem U8 (mp:VS)(σ:bZ)(S:Nat->Prop)(w:World)(head:Nat)(t:List UInt8)(rs:List (Nat×Nat))(h:Inv σ S mp w)(hh:pF σ head t rs):
  Calls Tryz.prog 103 #[.iface 97 mp.agg,.int .i64 head] w fun e w'=>e= .returned (.int .i64 0)/\Inv (σ.frees (qf (jZ head rs))) S mp w'/\Step S S w w':=by
 have hsub:=h.sub
 have HBK:=ah (Mc mp σ S w head t.length rs h hh.hd)
 have hall:=hh.all
 obtain⟨L,hL⟩:∃L,L=qf (jZ head rs):=⟨_,rfl⟩
 have hnd:L.Nodup:=by rw[hL];exact(rf _ _).nodup_iff.2 hh.nd
 have hall':∀x∈L,σ.hasB x=true/\2<=x:=fun x hx=>hall x ((BM x).1 (by rw[<-hL];exact hx))
 have hll:L.length<=97:=by
  rw[hL,sF]
  have:=hh.hd.runs.2
  simp[jZ];omega
 rw[<-hL] at HBK ⊢
 have HALL:=ah hall';have HND:=ah hnd
 have HI:=ah h
 have hm:∀w,(method 454 97 mp.agg "Free").run Tryz.prog w= .ok (258,.pointer (some ⟨mp.mp,0,none⟩)) w:=fun _=>by kernel_rfl
 clear h hh hall hall' hnd hL
 go_enter Tryz.func103,Tryz.ntmps103
 go_wp2_with (first
  |(go_at_call 49;go_must (refine HBK.out.mono ?_;rintro e w1 ⟨bv,rfl,hown1,hb1⟩;refine Stop.of ?_)))
 refine Stop.on ?_
 obtain⟨xo,xc,rfl,_,_,_,_⟩:=aX.form hown1.dm
 have HOW:=ah hown1
 have HB1:=ah hb1
 clear hown1 hb1
 go_wp2_with fail
 go_loopw [8,9,18] (fun _ _ i wr=>∃k:Nat,k<=L.length/\i= .int .i64 k/\Inv (σ.frees (L.take k)) S mp wr/\Step S S w1 wr) (fun _ _ i _=>L.length - (intOf i).toNat)
 case atStart=>exact⟨0,by omega,rfl,by rw[iD];exact HI.out.below HB1.out,Step.refl _ _⟩
 case round=>
  obtain⟨k,hk,rfl,hIk,hsk⟩:=hrel
  by_cases hkl:k<L.length
  ·have y1:(k:Int)<(L.length:Int):=by omega
   have HT:=ah (CO σ L k hkl)
   have hx:=HALL.out L[k] (bE hkl)
   have hxn:L[k]∉L.take k:=fun e=>by
    obtain⟨i,hi,e2⟩:=fH e
    rw[aH] at hi
    rw[lq] at e2
    have:=(Ut HND.out).1 e2
    omega
   have hhas:(σ.frees (L.take k)).hasB L[k]=true:=by
    rw[xW _ _ _ (fun y hy=>by have:=(HALL.out y (eO hy)).2;omega) hxn]
    exact hx.1
   have HFR:=ah (sK mp (σ.frees (L.take k)) S wr L[k] hIk hx.2 hhas)
   obtain⟨pb,po,rfl,d1⟩:=jJ.at (zs:=L) (HOW.out.step hsk).dm rfl k hkl
   have hpb:=aD wr _ d1
   clear hx hxn hhas
   go_wp2_with (refine HFR.out.mono ?_;rintro e w2 ⟨rfl,hI2,hs2⟩)
   go_roundw
   case rel=>exact⟨k+1,by omega,by go_num,by rw[HT.out];exact hI2,hsk.trans hs2⟩
   case measure=>simp[intOf];omega
  ·obtain rfl:k=L.length:=by omega
   rw[bR] at hIk
   have y1:¬(L.length:Int)<(L.length:Int):=by omega
   go_wp2_with fail
   go_ret
   exact⟨rfl,hIk,(Step.of_below HB1.out).trans hsk⟩
end Go.Proofs.YtogbkgmlhhahdaaGreat
namespace Go.Proofs.YtogbkgmlhhahdaaGreat
open Go.RowKit Go.Shelf
def KW:Go.Shelf.Ren:=⟨fun x=>match x with|240=>213|276=>220|169=>192|n=>n,fun x=>match x with|0=>0|3=>3|4=>4|5=>5|9=>9|20=>20|37=>70|70=>295|72=>297|127=>322|164=>328|n=>n,fun n=>n⟩
theorem EF:Lays.n240 Tryz.prog KW where
 mixed:=by kernel_rfl
 f240:=Tryz.func213.trans (congrArg some (by kernel_rfl))
 f276:=Tryz.func220.trans (congrArg some (by kernel_rfl))
 t0:=Bn
 a0:=Tryz.isAgg0
 z0:=SV
 v0:=EO
 t4:=uy
 a4:=Tryz.isAgg4
 z4:=Tryz.sizeOf4
 v4:=Tryz.zeroValue4
 t9:=gM
 a9:=Tryz.isAgg9
 z9:=Tryz.sizeOf9
 v9:=Tryz.zeroValue9
 t20:=Tryz.underlying20
 a20:=Tryz.isAgg20
 z20:=Tryz.sizeOf20
 v20:=Tryz.zeroValue20
 t70:=Tryz.underlying295
 a70:=Tryz.isAgg295
 z70:=Tryz.sizeOf295
 v70:=Tryz.zeroValue295
 t72:=Tryz.underlying297
 a72:=Tryz.isAgg297
 z72:=Tryz.sizeOf297
 v72:=Tryz.zeroValue297
 t164:=Tryz.underlying328
 a164:=Tryz.isAgg328
 z164:=Tryz.sizeOf328
 v164:=Tryz.zeroValue328
theorem JW:Lays.n169 Tryz.prog KW where
 mixed:=by kernel_rfl
 f169:=Tryz.func192.trans (congrArg some (by kernel_rfl))
 t0:=Bn
 a0:=Tryz.isAgg0
 z0:=SV
 v0:=EO
 t3:=jo
 a3:=Tryz.isAgg3
 z3:=Tryz.sizeOf3
 v3:=Ul
 t9:=gM
 a9:=Tryz.isAgg9
 z9:=Tryz.sizeOf9
 v9:=Tryz.zeroValue9
 t37:=bH
 a37:=Tryz.isAgg70
 z37:=Tryz.sizeOf70
 v37:=Tryz.zeroValue70
 t70:=Tryz.underlying295
 a70:=Tryz.isAgg295
 z70:=Tryz.sizeOf295
 v70:=Tryz.zeroValue295
 t72:=Tryz.underlying297
 a72:=Tryz.isAgg297
 z72:=Tryz.sizeOf297
 v72:=Tryz.zeroValue297
 t127:=Tryz.underlying322
 a127:=Tryz.isAgg322
 z127:=Tryz.sizeOf322
 v127:=Tryz.zeroValue322
theorem Db:Builder.Extra Tryz.prog KW where
 sizeBuilder:=by kernel_rfl
 liesBuilder:=by kernel_rfl
 t5:=lF
 a5:=Tryz.isAgg5
 z5:=Tryz.sizeOf5
 v5:=Tryz.zeroValue5
 infoByte:=by kernel_rfl
 cellsByte:=by kernel_rfl
 sizeByte:=by kernel_rfl
 neB5:=by decide
end Go.Proofs.YtogbkgmlhhahdaaGreat
namespace Go.Proofs.YtogbkgmlhhahdaaGreat
open Go.RowKit
structure vX (w:World)(S:Nat->Prop)(B b:Nat)(l:List UInt8):Prop where
 ns:¬S b
 at_:∃p v,(p= .pointer none\/p= .pointer (some ⟨b,0,none⟩))/\w.heap[b]? =some (.cells #[p,v] 297 (0,0))/\aQ w S B 5 1 v l.length (aI l)
theorem vX.below {w w':World}{S:Nat->Prop}{B b:Nat}{l:List UInt8}(h:vX w S B b l)(hb:Below w.heap.size w w'):vX w' S B b l:=by
 obtain⟨h2,p,v,h3,h4,h5⟩:=h
 exact⟨h2,p,v,h3,(hb.block b (aj.1 h4).1).trans h4,h5.below hb⟩
theorem vX.lt {w:World}{S:Nat->Prop}{B b:Nat}{l:List UInt8}(h:vX w S B b l):b<w.heap.size:=by
 obtain⟨_,p,v,_,h4,_⟩:=h
 exact(aj.1 h4).1
theorem N8 (B b:Nat)(l:List UInt8)(S:Nat->Prop)(w:World)(h:vX w S B b l):
  Calls Tryz.prog 213 #[.pointer (some ⟨b,0,none⟩)] w fun e w'=>e= .returned (.tuple #[])/\(∃v,w'.heap[b]? =some (.cells #[.pointer (some ⟨b,0,none⟩),v] 297 (0,0))/\aQ w' S B 5 1 v l.length (aI l))/\Keep (· =b) w w':=by
 obtain⟨h2,p,v,h3,h4,h5⟩:=h
 rcases h3 with rfl|rfl
 ·refine(Any.Builder_copyCheck_fresh EF Db.toX72 b w (by simp[World.cell?,h4]) (by simp[World.shape?,h4];rfl) (by simp[World.frozen?,h4])).mono ?_
  rintro e w' ⟨rfl,rfl⟩
  have hk:Keep (· =b) w (w.setCell ⟨b,0,none⟩ (.pointer (some ⟨b,0,none⟩))):=(Keep.refl (· =b) _).setCell (p:=⟨b,0,none⟩) (.inr rfl) _
  refine⟨rfl,⟨v,by simp[World.setCell,bn,h4],h5.keep fun g hg hl hs=>⟨hk.block g hl (fun e=>h5.ne h4 (by decide) (by rw[hg,e])),hs⟩⟩,hk⟩
 ·refine(Any.Builder_copyCheck_used EF Db.toX72 b w (by simp[World.cell?,h4])).mono ?_
  rintro e w' ⟨rfl,rfl⟩
  exact⟨rfl,⟨v,h4,h5⟩,Keep.refl _ _⟩
theorem N7 (B b:Nat)(l x:List UInt8)(xv:Value)(S:Nat->Prop)(w:World)(h:vX w S B b l)(hB:B<=w.heap.size)(hS:∀g,S g->g<w.heap.size)(hx:aX w fZ 1 xv x.length (aI x))(hxb:∀g,xv.ownBlock=some g->g≠b)(hl:l.length<=1000000)(hxl:x.length<=1000000):
  Calls Tryz.prog 191 #[.pointer (some ⟨b,0,none⟩),xv] w fun e w'=>e= .returned (.tuple #[.int .i64 x.length,.nilIface])/\vX w' S B b (l++x)/\Keep (fun g=>g=b\/B<=g) w w':=by
 have HC:=ah (N8 B b l S w h)
 have hns:=h.ns
 obtain⟨xo,xc,rfl,_,_,_,_⟩:=aX.form hx
 have HX:=ah hx
 have HLX:=ah (show aI l++aI x=aI (l++x) from(iK l x).symm)
 clear h hx
 go_enter Tryz.func191,Tryz.ntmps191
 go_wp2_with (first
  |(go_at_call 213;go_must (refine HC.out.mono ?_;rintro e w1 ⟨rfl,⟨v,hobj,hown⟩,hk1⟩;refine Stop.of ?_)))
 refine Stop.on ?_
 obtain⟨ao,c,rfl,_,_,_,_⟩:=aX.form hown.dm
 have hsrc:=(aX.keep (S':=fZ) HX.out (fun g hg hl _=>⟨hk1.block g hl (fun e=>hxb g hg e),id⟩)).src (P:=Tryz.prog) bH (gZ x)
 have hc1:w1.cell? ⟨b,1,none⟩=some (.slice ao l.length c):=by simp[World.cell?,hobj]
 have hlt:=(aj.1 hobj).1
 have hS1:∀g,S g->g<w1.heap.size:=fun g hg=>ak (hS g hg) hk1.size
 have hB1:=aK hB hk1.size
 go_wp2_with (first
  |(at_builtin;go_must ((refine cK rfl (.tmp 12) (.tmp 13) 70 70 rfl S B 5 1 1 (.int .u8 0) bH kz rfl (.slice ao l.length c) _ _ rfl hown (.slice xo x.length xc) _ _ rfl hsrc hS1 ?_ ?_ ?_ ?_);(focus (exact hB1));(focus (unfold maxLen;omega));(focus omega);intro ao3 c3 w3 hown3 hk3 hb3 hd3;refine Stop.of ?_)))
 refine Stop.on ?_
 have hob3:w3.heap[b]? =_:=(hk3.block b hlt (hown.ne hobj (by decide))).trans hobj
 have g1:w3.cell? ⟨b,1,none⟩=some (.slice ao l.length c):=by simp[World.cell?,hob3]
 have gf:w3.frozen? ⟨b,1,none⟩=false:=by simp[World.frozen?,hob3]
 have gl:=(aj.1 hob3).1
 have HO3:=ah hown3
 clear hown3
 go_wp2_with fail
 go_ret2
 have hk5:Keep (· =b) w3 (w3.setCell ⟨b,1,none⟩ (.slice ao3 (l.length+x.length) c3)):=(Keep.refl (· =b) _).setCell (p:=⟨b,1,none⟩) (.inr rfl) _
 have ho:=HO3.out
 rw[HLX.out] at ho
 refine⟨rfl,⟨hns,_,_,.inr rfl,by simp[World.setCell,bn,hob3];rfl,?_⟩,?_⟩
 ·rw[ay]
  exact ho.keep fun g hg hl hs=>⟨hk5.block g hl (fun e=>ho.ne hob3 (by decide) (by rw[hg,e])),hs⟩
 ·exact((hk1.mono (fun _ _ e=> .inl e)).trans (hk3.mono (fun g _ e=> .inr (hown.lo g e))) (fun _ _ e=>e)).trans (hk5.mono (fun _ _ e=> .inl e)) (fun _ _ e=>e)
theorem KV (B b:Nat)(l:List UInt8)(S:Nat->Prop)(w:World)(h:vX w S B b l):
  Calls Tryz.prog 192 #[.pointer (some ⟨b,0,none⟩)] w fun e w'=>e= .returned (.string ⟨l.toArray⟩)/\Below (min B b) w w':=by
 have hlt:=h.lt
 obtain⟨h2,p,v,h3,h4,h5⟩:=h
 have hne:=h5.ne h4 (by decide)
 have hcl:(Lib.byteCells l)=aI l:=rfl
 have h5':=h5.base (B:=min B b) (Nat.min_le_left _ _)
 have hA:Lib.BuilderAt 297 5 (min B b) b p (Lib.byteCells l) w:=⟨Nat.min_le_right _ _,v,h4,by rw[hcl,bL];exact h5'.1,hne⟩
 refine(Any.Builder_String_any JW Db (min B b) b l w ?_ (by omega))
 rcases h3 with rfl|rfl
 ·exact .inl hA
 ·exact .inr hA
theorem oQ (t:List UInt8)(k:Nat):(chunk t k).length=min 512 (t.length - 512*k):=by simp[chunk]
theorem JQ (t:List UInt8)(k:Nat):t.take (512*k)++chunk t k=t.take (512*(k+1)):=by
 unfold chunk
 rw[show 512*(k+1)=512*k+512 by omega,Q0]
theorem Sg (mp:VS)(σ:bZ)(S:Nat->Prop)(w:World)(head:Nat)(t:List UInt8)(rs:List (Nat×Nat))(h:Inv σ S mp w)(hh:pF σ head t rs):
  Calls Tryz.prog 160 #[.iface 97 mp.agg,.int .i64 head,.int .i64 0,.int .i64 49152] w fun e w'=>e= .returned (.tuple #[.string ⟨t.toArray⟩,.int .i64 0])/\Below w.heap.size w w':=by
 have hsub:=h.sub
 have HL:=ah (SL mp σ S w head t.length rs h hh.hd)
 have hlo:=hh.hd.lo
 have hs1:=hh.hd.s1
 have hs2:=hh.hd.s2
 have HLEN:=ah hh.hd.len
 have hrl:=hh.hd.runs
 obtain⟨hrl,hbl⟩:=hrl
 have HOK:=ah hh.hd.ok
 have HI:=ah h
 have HBK:=ah hh.blk
 have x1:¬(head:Int)<0:=by omega
 have x2:decide ((head:Int)<0)=false:=bQ x1
 have m1:min (0:Int) (t.length:Int)=0:=by omega
 have m2:min (49152:Int) (t.length:Int)=(t.length:Int):=by omega
 have hm:∀w,(method 454 97 mp.agg "Read").run Tryz.prog w= .ok (57,.pointer (some ⟨mp.tx,0,none⟩)) w:=fun _=>by kernel_rfl
 clear h hh
 go_enter Tryz.func160,Tryz.ntmps160
 go_wp2_with (first
  |(go_at_call 96;go_must (refine HL.out.mono ?_;rintro e w1 ⟨lb,v,rfl,hA,hb1⟩;refine Stop.of ?_)))
 refine Stop.on ?_
 have hlb:w1.cell? ⟨lb,0,none⟩=some (.int .i64 t.length):=by have:=hA.obj;simp[World.cell?,this]
 have hll:lb<w1.heap.size:=(aj.1 hA.obj).1
 have HA:=ah hA;clear hA
 go_upto_region 11 with (fail)
 obtain⟨bb,HBB⟩:∃bb,Hid (w1.heap.size=bb):=⟨_,ah rfl⟩
 obtain⟨w2,HW2⟩:∃w2:World,Hid (w1.alloc (.cells #[.pointer none,.slice none 0 0] 297)=w2):=⟨_,ah rfl⟩
 have hb2:Below w1.heap.size w1 w2:=by rw[<-HW2.out];exact aO w1 _
 have hB2:w2.heap[bb]? =some (.cells #[.pointer none,.slice none 0 0] 297 (0,0)):=by rw[<-HW2.out,<-HBB.out];exact bD w1 _
 rw[HW2.out,HBB.out]
 have hbbw:w.heap.size<=bb:=by rw[<-HBB.out];exact hb1.size
 have hbb2:bb<w2.heap.size:=(aj.1 hB2).1
 have hS2:∀g,S g->g<w2.heap.size:=fun g hg=>ak (hsub g hg) (aK hbbw (iQ hbb2))
 have HBL:=ah (FX lb t.length rs v w.heap.size S w2 (HA.out.below hb2) hS2 HOK.out (by omega))
 clear hlb hll
 go_wp2_with (first
  |(go_at_call 97;go_must (refine HBL.out.mono ?_;rintro e w3 ⟨bv,rfl,hown3,hb3⟩;refine Stop.of ?_)))
 refine Stop.on ?_
 obtain⟨xo,xc,rfl,_,_,_,_⟩:=aX.form hown3.dm
 have hB3:=(hb3.block bb hbb2).trans hB2
 have hI3:=HI.out.below (hb1.trans ((hb2.trans (hb3.mono (by rw[HBB.out];omega))).mono hb1.size))
 have hnS:¬S bb:=fun x=>absurd (hsub bb x) (bq.2 hbbw)
 have hbl0:vX w3 S w3.heap.size bb (t.take (512*0)):=⟨hnS,_,_,.inl rfl,hB3,by rw[Nat.mul_zero,iD];exact aQ.nil _ _ _ _ _⟩
 have HO:=ah hown3
 have hbw3:Below w.heap.size w w3:=(hb1.trans (hb2.mono hb1.size)).trans (hb3.mono (by omega))
 have HI3:=ah hI3
 obtain⟨C,HC⟩:∃C,Hid (w3.heap.size=C):=⟨_,ah rfl⟩
 rw[HC.out] at hbl0
 have hCb:bb<C:=by rw[<-HC.out];exact ak hbb2 hb3.size
 have hS3:∀g,S g->g<w.heap.size:=hsub
 clear hown3 hI3 hB3 hB2
 go_wp2_with fail
 go_loopw [14,15,16,17,18,19,62] (fun _ _ _ _ _ _ i wr=>∃k:Nat,k<=(fQ rs).length/\i= .int .i64 k/\vX wr S C bb (t.take (512*k))/\Keep (fun g=>g=bb\/C<=g) w3 wr) (fun _ _ _ _ _ _ i _=>(fQ rs).length - (intOf i).toNat)
 case atStart=>exact⟨0,by omega,rfl,hbl0,Keep.refl _ _⟩
 case round=>
  clear hbl0
  obtain⟨k,hk,rfl,hbl,hkk⟩:=hrel
  by_cases hkl:k<(fQ rs).length
  ·have y1:(k:Int)<((fQ rs).length:Int):=by omega
   have hor:aQ wr S w2.heap.size 3 1 (.slice xo (fQ rs).length xc) (fQ rs).length (ints (fQ rs)):=HO.out.keep fun g hg hl hs=>⟨hkk.block g hl (fun e=>by
    have:=HO.out.lo g hg
    rcases e with e|e
    ·omega
    ·rw[<-HC.out] at e;omega),hs⟩
   have hil:=hor.dm
   rw[LX] at hil
   have hil':jJ wr S (.slice xo (fQ rs).length xc) ((fQ rs).map fun (b:Nat)=>(b:Int)):=by unfold jJ;rw[jM];exact hil
   obtain⟨pb,po,rfl,d1⟩:=hil'.at rfl k (by simpa using hkl)
   rw[List.getElem_map] at d1
   have hpb:=aD wr _ d1
   obtain⟨has,hb2',hmem⟩:=HBK.out k hkl
   have hIr:Inv σ S mp wr:=HI3.out.mW hkk (fun g hg e=>by
    have:=hS3 g hg
    rcases e with e|e
    ·omega
    ·omega)
   have hrd:=Cf mp σ S wr ((fQ rs)[k]:Nat) hIr has
   rw[hmem] at hrd
   have HRD:=ah hrd
   obtain⟨bk,HBKK⟩:∃bk:Nat,Hid ((fQ rs)[k]=bk):=⟨_,ah rfl⟩
   rw[HBKK.out] at d1 HRD
   have hcl:=oQ t k
   have hk512:512*k<t.length:=by have hlen:=HLEN.out;unfold sJ at hlen;omega
   obtain⟨hi,hhi⟩:∃hi:Nat,hi=min 512 (t.length - 512*k):=⟨_,rfl⟩
   have m3:max (-((k:Int)*512)) 0=0:=by omega
   have m4:min ((t.length:Int) - (k:Int)*512) 512=(hi:Int):=by omega
   have HHI:=ah hhi
   have z1:¬(hi:Int)<=0:=by omega
   have z2:¬hi=0:=by omega
   have z3:hi<=512:=by omega
   clear hhi hrd hmem hor hil hb2' has hcl
   go_upto_region 15 with (fail)
   have z4:¬(512:Int)<(hi:Int):=by omega
   have z5:(hi:Int)<=512:=by omega
   go_wp2_with (refine HRD.out.mono ?_;rintro e w4 ⟨dv,rfl,hdv,hdb,hb4⟩;refine Stop.of ?_)
   refine Stop.on ?_
   obtain⟨vo,vc,rfl,n1,m1',_,_⟩:=aX.form hdv
   have hup':=aX.upto (aX.loose hdv) hi z3
   have hpl:(aI (pad (chunk t k))).take (hi*1)=aI (chunk t k):=by
    rw[aU]
    unfold aI pad
    rw[<-gB,bK (by rw[oQ,HHI.out];exact aC _),aJ (by rw[oQ,HHI.out];exact aC _)]
   rw[hpl] at hup'
   have hcl2:(chunk t k).length=hi:=by rw[oQ,HHI.out]
   have hbl4:=hbl.below hb4
   have hBC4:C<=w4.heap.size:=by have a:=hkk.size;have b:=hb4.size;rw[<-HC.out];omega
   have hS4:∀g,S g->g<w4.heap.size:=fun g hg=>by have:=hS3 g hg;have a:=hbbw;omega
   have hWR:=N7 C bb (t.take (512*k)) (chunk t k) (.slice vo hi vc) S w4 hbl4 hBC4 hS4 (by rw[hcl2];exact hup') (fun g hg=>by
    have h1:=hdb g (by cases vo<;>exact hg)
    have h2:=hkk.size
    rw[HC.out] at h2
    omega) (by simp;omega) (by rw[hcl2];omega)
   have HWR:=ah hWR
   have z6:(hi:Int)<=(vc:Int):=by omega
   clear hdv hup' hpl hcl2 hWR hbl4
   go_upto_region 21 with (fail)
   go_wp2_with (first
    |(go_at_call 191;go_must (refine HWR.out.mono ?_;rintro e w5 ⟨rfl,hbl5,hk5⟩)))
   go_roundw
   case rel=>exact⟨k+1,by omega,by go_num,by rw[<-JQ];exact hbl5,(hkk.trans (Keep.of_below hb4 (fun g=>g=bb\/C<=g)) (fun _ _ e=>e)).trans hk5 (fun _ _ e=>e)⟩
   case measure=>simp[intOf];omega
  ·obtain rfl:k=(fQ rs).length:=by omega
   have y1:¬((fQ rs).length:Int)<((fQ rs).length:Int):=by omega
   have htt:t.take (512*(fQ rs).length)=t:=aJ (by rw[HLEN.out];unfold sJ;omega)
   rw[htt] at hbl
   have HST:=ah (KV C bb t S wr hbl)
   have HTT:=ah htt
   clear htt
   go_wp2_with (first
    |(go_at_call 192;go_must (refine HST.out.mono ?_;rintro e w5 ⟨rfl,hb5⟩)))
   go_ret2
   refine⟨rfl,?_⟩
   have h1:Below w.heap.size w3 wr:=hkk.ku hbw3.size (fun i hi e=>by
    have:=HC.out
    have:=hbw3.size
    omega)
   exact(hbw3.trans h1).trans (hb5.mono (by
    have:=HC.out
    have:=hbw3.size
    omega))
theorem U7 (mp:VS)(σ:bZ)(S:Nat->Prop)(w:World)(head:Nat)(t:List UInt8)(rs:List (Nat×Nat))(h:Inv σ S mp w)(hh:pF σ head t rs):
  Calls Tryz.prog 115 #[.iface 97 mp.agg,.int .i64 head] w fun e w'=>e= .returned (.tuple #[.string ⟨t.toArray⟩,.int .i64 0])/\Below w.heap.size w w':=by
 have HR:=ah (Sg mp σ S w head t rs h hh)
 clear h hh
 go_enter Tryz.func115,Tryz.ntmps115
 go_wp2_with (first
  |(go_at_call 160;go_must (refine HR.out.mono ?_;rintro e w1 ⟨rfl,hb⟩)))
 go_ret2
 exact⟨rfl,hb⟩
def jw (l:List Nat):List Int:=l.map fun (b:Nat)=>(b:Int)
theorem Cx (l:List Nat):ints l=(jw l).map (.int .i64):=LX l
theorem vw {l:List Nat}(h:l.Nodup):(jw l).Nodup:=List.Pairwise.map _ (fun a b (e:a≠b)=>by show (a:Int)≠(b:Int);omega) h
structure WV (w:World)(S:Nat->Prop)(B tkb sb:Nat)(mp:VS)(bs:List Nat):Prop where
 tk:∃v,w.heap[tkb]? =some (.cells #[v] 93 (0,0))/\aQ w S B 3 1 v bs.length (ints bs)
 st:w.heap[sb]? =some (.cells #[.iface 97 mp.agg] 158 (0,0))
 n1:¬S tkb
 n2:¬S sb
theorem WV.step {w w':World}{S S':Nat->Prop}{B tkb sb:Nat}{mp:VS}{bs:List Nat}(h:WV w S B tkb sb mp bs)(hs:Step S S' w w'):WV w' S' B tkb sb mp bs:=by
 obtain⟨⟨v,h1,h2⟩,h3,h4,h5⟩:=h
 have l1:=(aj.1 h1).1
 have l2:=(aj.1 h3).1
 exact⟨⟨v,(hs.1.block _ l1 h4).trans h1,h2.step hs⟩,(hs.1.block _ l2 h5).trans h3,fun x=>(hs.2 _ x).elim h4 (fun y=>absurd l1 (bq.2 y)),fun x=>(hs.2 _ x).elim h5 (fun y=>absurd l2 (bq.2 y))⟩
theorem U6 (mp:VS)(σ:bZ)(S:Nat->Prop)(w:World)(B tkb sb:Nat)(bs:List Nat)(er:Int)(h:Inv σ S mp w)(hv:WV w S B tkb sb mp bs)(hn:bs.Nodup)(hl:bs.length<=1000)(hall:∀b∈bs,σ.hasB (b:Nat)=true/\2<=b):
  Calls Tryz.prog 104 #[.int .i64 er,.pointer (some ⟨tkb,0,none⟩),.pointer (some ⟨sb,0,none⟩)] w fun e w'=>e= .returned (.tuple #[.int .i64 0,.int .i64 er])/\Inv (σ.frees (jw bs)) S mp w'/\Step S S w w':=by
 have HV:=ah hv
 obtain⟨⟨v,h1,h2⟩,h3,h4,h5⟩:=hv
 obtain⟨xo,xc,rfl,_,_,_,_⟩:=aX.form h2.dm
 have c1:w.cell? ⟨tkb,0,none⟩=some (.slice xo bs.length xc):=by simp[World.cell?,h1]
 have l1:=(aj.1 h1).1
 have HALL:=ah hall
 have HI:=ah h
 have HND:=ah (vw hn)
 have HO:=ah h2
 have H3:=ah h3
 have HLL:=ah (show (jw bs).length=bs.length by simp[jw])
 have hm:∀w,(method 454 97 mp.agg "Free").run Tryz.prog w= .ok (258,.pointer (some ⟨mp.mp,0,none⟩)) w:=fun _=>by kernel_rfl
 clear h h2 h3 hall
 go_enter Tryz.func104,Tryz.ntmps104
 go_wp2_with fail
 go_loopw [7,10] (fun _ i wr=>∃k:Nat,k<=bs.length/\i= .int .i64 k/\Inv (σ.frees ((jw bs).take k)) S mp wr/\Step S S w wr) (fun _ i _=>bs.length - (intOf i).toNat)
 case atStart=>exact⟨0,by omega,rfl,HI.out,Step.refl _ _⟩
 case round=>
  obtain⟨k,hk,rfl,hIk,hsk⟩:=hrel
  by_cases hkl:k<bs.length
  ·have y1:(k:Int)<(bs.length:Int):=by omega
   have hki:k<(jw bs).length:=by rw[HLL.out];exact hkl
   have HT:=ah (CO σ (jw bs) k hki)
   have hval:(jw bs)[k]=((bs[k]:Nat):Int):=by simp[jw]
   have hx:=HALL.out bs[k] (bE hkl)
   have hxn:(jw bs)[k]∉(jw bs).take k:=fun e=>by
    obtain⟨i,hi,e2⟩:=fH e
    rw[aH] at hi
    rw[lq] at e2
    have:=(Ut HND.out).1 e2
    omega
   have hhas:(σ.frees ((jw bs).take k)).hasB (bs[k]:Nat)=true:=by
    rw[<-hval,xW _ _ _ (fun y hy=>by
     obtain⟨b,_,rfl⟩:=eT.1 (eO hy)
     omega) hxn,hval]
    exact hx.1
   have HFR:=ah (sK mp (σ.frees ((jw bs).take k)) S wr (bs[k]:Nat) hIk (by omega) hhas)
   have hil:=(HO.out.step hsk).dm
   rw[Cx] at hil
   have hil':jJ wr S (.slice xo bs.length xc) (jw bs):=by unfold jJ;rw[HLL.out];exact hil
   obtain⟨pb,po,rfl,d1⟩:=hil'.at rfl k hki
   rw[hval] at d1
   have hpb:=aD wr _ d1
   have hsr:=(hsk.1.block sb (aj.1 H3.out).1 h5).trans H3.out
   have s0:wr.cell? ⟨sb,0,none⟩=some (.iface 97 mp.agg):=by simp[World.cell?,hsr]
   have sl:=(aj.1 hsr).1
   rw[hval] at HT
   clear hx hxn hhas hil hil' hki hval
   go_wp2_with (refine HFR.out.mono ?_;rintro e w2 ⟨rfl,hI2,hs2⟩)
   go_roundw
   case rel=>exact⟨k+1,by omega,by go_num,by rw[HT.out];exact hI2,hsk.trans hs2⟩
   case measure=>simp[intOf];omega
  ·have hke:k=bs.length:=by omega
   subst hke
   rw[<-HLL.out,bR] at hIk
   have y1:¬(bs.length:Int)<(bs.length:Int):=by omega
   go_wp2_with fail
   go_ret2
   exact⟨rfl,hIk,hsk⟩
theorem C8 (s:ByteArray)(W:World)(hs:s.size<=1000000):∃(c:Nat) (w':World),(convert 9 70 (.string s)).run Tryz.prog W= .ok (.slice (some ⟨W.heap.size,0,none⟩) s.size c) w'/\aX w' fZ 1 (.slice (some ⟨W.heap.size,0,none⟩) s.size c) s.data.toList.length (aI s.data.toList)/\Below W.heap.size W w':=by
 refine⟨_,_,run_bytes_of_string W 9 70 5 s gM bH lF,?_,?_⟩
 ·have hsz:s.data.toList.length=s.size:=by show s.data.toList.length=s.data.size;simp
  rw[hsz]
  refine⟨_,_,rfl,zA _ _ _ _,ng _ _ _ _ (by simp only[maxLen];omega),by rw[bL,hsz,aU],(fun e=>by cases e),fun ad hh=> ?_,fun j u hu=> ?_⟩
  ·cases hh
   exact⟨rfl,by simp,id⟩
  ·have hj:j<s.data.size:=by
    have:=(cu.1 hu).1
    rw[bL] at this
    simpa using this
   refine⟨_,_,rfl,?_⟩
   have hb:=bytesRow_at s (grownCap W s.size 0 5) j hj
   have hu2:u= .int .u8 (s.data[j].toNat:Int):=by
    unfold aI at hu
    rw[eG] at hu
    simp at hu
    obtain⟨a,h1,rfl⟩:=hu
    rw[Array.getElem?_eq_getElem hj] at h1
    cases h1;rfl
   rw[hu2,<-hb,dV]
   unfold World.cell?
   have:(W.drew.alloc (.cells (bytesRow s (grownCap W s.size 0 5)) 5 ((bytesRow s (grownCap W s.size 0 5)).size,(bytesRow s (grownCap W s.size 0 5)).size+1))).heap[W.heap.size]? =some (.cells (bytesRow s (grownCap W s.size 0 5)) 5 ((bytesRow s (grownCap W s.size 0 5)).size,(bytesRow s (grownCap W s.size 0 5)).size+1)):=bD W.drew _
   simp only[this]
   rfl
 ·exact((aR _ W).drew).trans (aO W.drew _)
theorem Qs {σ:bZ}{f:Nat}(h1:σ.hasB f=false)(h2:σ.held f=false)(h3:f<σ.most):nu σ (σ.took f) [] [(f:Int)]:=by
 have hnow:σ.now f=false:=by unfold bZ.hasB at h1;simpa [h3] using h1
 have hold:σ.H.old f=false:=by unfold bZ.held at h2;simpa using h2
 have hs:∀x,(σ.took f).hasB x=(σ.hasB x||decide (x=(f:Int))):=fun x=>by
  show (decide (0<=x) && (decide (x.toNat<σ.most) && ig σ.now f true x.toNat))=_
  unfold bZ.hasB ig
  by_cases hx:x=(f:Int)
  ·subst hx;simp[h3]
  ·by_cases h0:0<=x
   ·rw[if_neg (by omega)];simp[hx]
   ·simp[h0,hx]
 refine⟨rfl,rfl,fun x hx _=>⟨by rw[hs,hx];rfl,rfl⟩,fun x hx=> ?_,fun _=>by simp,?_,fun x hx=> ?_⟩
 ·rw[bO.1 hx]
  exact⟨by rw[hs];simp,.inr h1⟩
 ·show countB (fun x=>ig σ.now f true x||σ.H.old x) σ.most+_=countB (fun x=>σ.now x||σ.H.old x) σ.most+_
  have e:=zZ (f:=fun x=>σ.now x||σ.H.old x) (b:=f) (by rw[hnow,hold];rfl) _ h3
  have e2:countB (fun x=>ig σ.now f true x||σ.H.old x) σ.most=countB (ig (fun x=>σ.now x||σ.H.old x) f true) σ.most:=jL _ (fun x _=>by unfold ig;split<;>simp)
  rw[e2,e]
  simp[nh,h2]
 ·rw[hs,sj,eZ] at hx
  rcases hx with hx|hx
  ·exact .inr ⟨hx,by simp⟩
  ·exact .inl (by rw[hx];exact bg ..)
theorem L8 {σ:bZ}{us:List Int}{b:Nat}{l:List UInt8}(h:∀x∈us,σ.hasB x=true)(hb:(b:Int)∈us)(h2:2<=b):nu σ (σ.wrote b l) us us:=by
 refine⟨rfl,rfl,fun x hx hn=>⟨hx,?_⟩,fun x hx=>⟨h x hx,.inl hx⟩,id,rfl,fun x hx=>by
  by_cases hu:x∈us
  ·exact .inl hu
  ·exact .inr ⟨hx,hu⟩⟩
 show σ.H.pg.look (σ.im.put b l) σ.H.dk x.toNat=σ.H.pg.look σ.im σ.H.dk x.toNat
 rw[pX,if_neg]
 intro e
 exact(hn.resolve_right id) (by rw[show x=(b:Int) by omega];exact hb)
structure QG (σ σk:bZ)(bs:List Nat):Prop where
 Dt:nu σ σk [] (jw bs)
 two:∀b∈bs,2<=b/\b<σ.most
 nheld:∀b∈bs,σ.held (b:Nat)=false
 tk:σk.tk<=max σ.tk σk.sz
theorem QG.nd {σ σk:bZ}{bs:List Nat}(h:QG σ σk bs):bs.Nodup:=by
 have:=h.Dt.nd qz
 unfold jw at this
 exact List.Pairwise.of_map _ (fun a b (e:(a:Int)≠b)=>fun h=>e (by rw[h])) this
theorem QG.sz {σ σk:bZ}{bs:List Nat}(h:QG σ σk bs):σk.sz=σ.sz+bs.length:=by
 have:=h.Dt.size
 have e:nh σ (jw bs)=bs.length:=by
  unfold nh jw
  rw[zF.2 (fun x hx=>by
   obtain⟨b,hb,rfl⟩:=eT.1 hx
   rw[h.nheld b hb];rfl)]
  simp
 rw[e] at this
 simpa [nh] using this
theorem QG.has {σ σk:bZ}{bs:List Nat}(h:QG σ σk bs):∀b∈bs,σk.hasB (b:Nat)=true/\2<=b:=fun b hb=>⟨(h.Dt.new _ (kD hb)).1,(h.two b hb).1⟩
theorem QG.more {σ σk:bZ}{bs:List Nat}(h:QG σ σk bs){f:Nat}(h1:σk.hasB f=false)(h2:σk.held f=false)(h3:2<=f)(h4:f<σk.most):QG σ (σk.took f) (bs++[f]):=by
 have hm:=h.Dt.most
 have c1:=Qs h1 h2 h4
 have c2:=c1.left (rs:=jw bs) (by simpa using h.Dt.nd qz) (fun x hx=>(h.Dt.new x hx).1)
 have c3:=(h.Dt.trans (by simpa using c2)).perm (jK _) (bs':=jw (bs++[f])) (by
  unfold jw
  rw[bU]
  show ([(f:Int)]++bs.map fun (b:Nat)=>(b:Int)).Perm ((bs.map fun (b:Nat)=>(b:Int))++[(f:Int)])
  exact gJ)
 refine⟨c3,fun b hb=> ?_,fun b hb=> ?_,?_⟩
 ·rcases bX.1 hb with hb|hb
  ·exact h.two b hb
  ·rw[bO.1 hb];exact⟨h3,by omega⟩
 ·rcases bX.1 hb with hb|hb
  ·exact h.nheld b hb
  ·rw[bO.1 hb,<-Bh h.Dt.H];exact h2
 ·have e1:=h.tk
  have e2:=c1.size
  simp[nh] at e2
  have e3:(σk.took f).tk=max σk.tk (σk.took f).sz:=rfl
  omega
end Go.Proofs.YtogbkgmlhhahdaaGreat
