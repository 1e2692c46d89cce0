/- parts -/
import Derived.Test.YtpmbddooibgnaaaGreatDoorS6
import Derived.Test.YtpmbddooibgnaaaGreatDoorS7
import Derived.Test.YtpmbddooibgnaaaGreatDoorS8
import Derived.Lib.SlBytesConst
set_option maxRecDepth 100000
set_option maxHeartbeats 8000000
set_option linter.all false
namespace Go.Proofs.YtpmbddooibgnaaaGreatDoor
open Go.RowKit
def iY (d:Nat)(l:Lg)(lv:Value):List Value:=[.pointer (some ⟨d,0,none⟩),.int .i64 l.frm,.int .i64 l.n,.int .i64 l.start,.int .i64 l.used,lv,.int .i64 l.last,.int .i64 l.synced,.bool l.dead]
theorem Ah (d:Nat)(l:Lg)(lv:Value):(iY d l lv).length=9:=rfl
def jG (es:List (Nat×Nat)):List Value:=es.flatMap fun e=>[.int .i64 (e.1:Int),.int .i64 (e.2:Int)]
structure Lg.Ok (l:Lg):Prop where
 n2:2<=l.n
 hi:l.frm+l.n<=4096
 st:l.start<l.n - 1
 us:l.used<=l.n - 1
 la:l.last<=1000000000000
 sy:l.synced<=l.last
 ent:∀e∈l.list,1<=e.2/\e.1<=l.last
 sum:(l.list.map (·.2)).sum=l.used
structure oL (w:World)(S:Nat->Prop)(lg d:Nat)(l:Lg)(lv:Value)(dn:Bool)(c:Int):Prop where
 ok:l.Ok
 sub:∀g,S g->g<w.heap.size
 sl:S lg
 row:Row w lg 288 (iC (iY d l lv) dn c [])
 lst:l.dead=false->kY w 296 2 lv l.list.length (jG l.list)
 slv:l.dead=false->∀g,lv.ownBlock=some g->S g/\g≠lg
def qd (w:World)(S:Nat->Prop)(lg d:Nat)(l:Lg):Prop:=∃lv dn c,oL w S lg d l lv dn c
theorem oL.cells {w:World}{S:Nat->Prop}{lg d:Nat}{l:Lg}{lv:Value}{dn:Bool}{c:Int}(h:oL w S lg d l lv dn c):
  w.cell? ⟨lg,0,none⟩=some (.pointer (some ⟨d,0,none⟩))/\w.cell? ⟨lg,1,none⟩=some (.int .i64 l.frm)/\w.cell? ⟨lg,2,none⟩=some (.int .i64 l.n)/\w.cell? ⟨lg,3,none⟩=some (.int .i64 l.start)/\w.cell? ⟨lg,4,none⟩=some (.int .i64 l.used)/\
  w.cell? ⟨lg,5,none⟩=some lv/\w.cell? ⟨lg,6,none⟩=some (.int .i64 l.last)/\w.cell? ⟨lg,7,none⟩=some (.int .i64 l.synced)/\w.cell? ⟨lg,8,none⟩=some (.bool l.dead)/\lg<w.heap.size/\∀j,w.frozen? ⟨lg,j,none⟩=false:=
 ⟨h.row.cell 0,h.row.cell 1,h.row.cell 2,h.row.cell 3,h.row.cell 4,h.row.cell 5,h.row.cell 6,h.row.cell 7,h.row.cell 8,h.row.lt,fun j=>h.row.frozen j⟩
theorem oL.keep {w w':World}{S M:Nat->Prop}{lg d:Nat}{l:Lg}{lv:Value}{dn:Bool}{c:Int}(h:oL w S lg d l lv dn c)(hk:Keep M w w')(hM:∀g,S g->¬M g):oL w' S lg d l lv dn c:=
 ⟨h.ok,fun g hg=>ax (h.sub g hg) hk.size,h.sl,h.row.keep hk (hM _ h.sl),fun hd=>(h.lst hd).keep fun g hg=>hk.block g (h.sub _ (h.slv hd g hg).1) (hM _ (h.slv hd g hg).1),h.slv⟩
theorem qd.keep {w w':World}{S M:Nat->Prop}{lg d:Nat}{l:Lg}(h:qd w S lg d l)(hk:Keep M w w')(hM:∀g,S g->¬M g):qd w' S lg d l:=by
 obtain⟨lv,dn,c,h⟩:=h
 exact⟨lv,dn,c,h.keep hk hM⟩
theorem qd.ok {w:World}{S:Nat->Prop}{lg d:Nat}{l:Lg}(h:qd w S lg d l):l.Ok:=by obtain⟨_,_,_,h⟩:=h;exact h.ok
theorem qd.sub {w:World}{S:Nat->Prop}{lg d:Nat}{l:Lg}(h:qd w S lg d l):∀g,S g->g<w.heap.size:=by obtain⟨_,_,_,h⟩:=h;exact h.sub
theorem oL.set {w:World}{S:Nat->Prop}{lg d:Nat}{l l':Lg}{lv:Value}{dn:Bool}{c:Int}(h:oL w S lg d l lv dn c)(j:Nat)(v:Value)(hj:j<9)(ho:l'.Ok)(hl:l'.list=l.list)(hdd:l'.dead=false->l.dead=false)(he:(iY d l lv).set j v=iY d l' lv):oL (w.setCell ⟨lg,j,none⟩ v) S lg d l' lv dn c:=by
 have hk:Keep (· =lg) w (w.setCell ⟨lg,j,none⟩ v):=(Keep.refl (· =lg) w).setCell (p:=⟨lg,j,none⟩) (.inr rfl) _
 refine⟨ho,fun g hg=>ax (h.sub g hg) hk.size,h.sl,?_,?_,fun hd=>h.slv (hdd hd)⟩
 ·have:=h.row.setCell j v
  have e:(iC (iY d l lv) dn c []).set j v=iC (iY d l' lv) dn c []:=by
   unfold iC mH
   rw[IZ _ _ (by rw[Ah];exact hj),he]
  rwa [e] at this
 ·rw[hl]
  exact fun hd=>(h.lst (hdd hd)).keep fun g hg=>hk.block g (h.sub _ (h.slv (hdd hd) g hg).1) (h.slv (hdd hd) g hg).2
theorem Ny (lg d:Nat)(l:Lg)(S:Nat->Prop)(w:World)(h:qd w S lg d l):
  Calls Tryz.prog 102 #[.pointer (some ⟨lg,0,none⟩)] w fun e w'=>e= .returned (.int .i64 l.synced)/\w'=w:=by
 obtain⟨lv,dn,c,h⟩:=h
 obtain⟨_,_,_,_,_,_,_,c7,_,hlt,_⟩:=h.cells
 go_enter Tryz.func102,Tryz.ntmps102
 go_wp2_with fail
 go_ret
 exact⟨rfl,rfl⟩
theorem KN (lg d:Nat)(l:Lg)(S:Nat->Prop)(w:World)(h:qd w S lg d l):
  Calls Tryz.prog 103 #[.pointer (some ⟨lg,0,none⟩)] w fun e w'=>e= .returned (.int .i64 l.last)/\w'=w:=by
 obtain⟨lv,dn,c,h⟩:=h
 obtain⟨_,_,_,_,_,_,c6,_,_,hlt,_⟩:=h.cells
 go_enter Tryz.func103,Tryz.ntmps103
 go_wp2_with fail
 go_ret
 exact⟨rfl,rfl⟩
theorem Po (lg d:Nat)(l:Lg)(S:Nat->Prop)(w:World)(h:qd w S lg d l):
  Calls Tryz.prog 98 #[.pointer (some ⟨lg,0,none⟩)] w fun e w'=>e= .returned (.int .i64 l.room)/\w'=w.drew:=by
 obtain⟨lv,dn,c,h⟩:=h
 obtain⟨_,_,c2,_,c4,_,_,_,_,hlt,_⟩:=h.cells
 have h1:=h.ok.n2;have h2:=h.ok.hi;have h3:=h.ok.us
 have e1:IntKind.i64.wrap ((l.n:Int) - 1)=(l.n:Int) - 1:=aS _ (by omega)
 have e2:IntKind.i64.wrap ((l.n:Int) - 1 - (l.used:Int))=(l.room:Int):=by rw[aS _ (by omega)];unfold Lg.room;omega
 have E2:=af e2
 have c2':w.drew.cell? ⟨lg,2,none⟩=some (.int .i64 l.n):=c2
 have c4':w.drew.cell? ⟨lg,4,none⟩=some (.int .i64 l.used):=c4
 go_enter Tryz.func98,Tryz.ntmps98
 go_wp2_with fail
 refine aK (fun W=>W=w.drew) (fun i=>true) [0,1,2,3,4,5,6,7,8,9,10] rfl (by kernel_rfl) rfl ?_
 repeat ((refine bq (v:= ?_) rfl rfl (fun _ _ _ h=>h) rfl (fun W hW=> ?_) ?_);rotate_left;(focus ((try dsimp only at hW);subst hW;(go_simp;first|done|with_reducible rfl)));(try simp only[Act.put,aj,av,au]))
 refine bF ?_
 go_wp2_with fail
 go_ret
 exact⟨rfl,rfl⟩
theorem RV (lg d:Nat)(l:Lg)(S:Nat->Prop)(k:Nat)(w:World)(h:qd w S lg d l):
  Calls Tryz.prog 159 #[.pointer (some ⟨lg,0,none⟩),.int .i64 k] w fun e w'=>e= .returned (.int .i64 (l.ring k))/\w'=w.drew:=by
 obtain⟨lv,dn,c,h⟩:=h
 obtain⟨_,c1,c2,_,_,_,_,_,_,hlt,_⟩:=h.cells
 have h1:=h.ok.n2;have h2:=h.ok.hi
 have c1':w.drew.cell? ⟨lg,1,none⟩=some (.int .i64 l.frm):=c1
 have c2':w.drew.cell? ⟨lg,2,none⟩=some (.int .i64 l.n):=c2
 obtain⟨m,hm⟩:∃m,l.n=m+1:=⟨l.n - 1,by omega⟩
 have hm0:1<=m:=by omega
 have hmod:k%m<m:=nL _ (by omega)
 have e0:IntKind.i64.wrap ((l.n:Int) - 1)=(m:Int):=by rw[aS _ (by omega)];omega
 have e1:IntKind.i64.wrap ((l.frm:Int)+1)=(l.frm:Int)+1:=aS _ (by omega)
 have e4:(k:Int)%(m:Int)=((k%m:Nat):Int):=(Int.natCast_emod k m).symm
 have e3:IntKind.i64.wrap ((l.frm:Int)+1+(k:Int)%(m:Int))=(l.ring k:Int):=by rw[e4,aS _ (by omega)];unfold Lg.ring;rw[hm,Nt];omega
 clear e4
 have e5:¬(m:Int)=0:=by omega
 have e6:((m:Int)==0)=false:=eO.2 e5
 have e7:¬m=0:=by omega
 have HM:=af hm;clear hm
 have E3:=af e3;clear e3
 go_enter Tryz.func159,Tryz.ntmps159
 go_wp2_with fail
 refine aK (fun W=>W=w.drew) (fun i=>true) [0,1,2,3,4,5,6,7,8,9,10,11,12,13] rfl (by kernel_rfl) rfl ?_
 repeat ((refine bq (v:= ?_) rfl rfl (fun _ _ _ h=>h) rfl (fun W hW=> ?_) ?_);rotate_left;(focus ((try dsimp only at hW);subst hW;(go_simp;first|done|with_reducible rfl)));(try simp only[Act.put,aj,av,au]))
 refine bF ?_
 go_wp2_with fail
 go_ret
 exact⟨congrArg (fun z=>Ending.returned (.int .i64 z)) E3.out,rfl⟩
theorem KP (lg:Nat)(w:World):
  Calls Tryz.prog 160 #[.pointer (some ⟨lg,0,none⟩),.int .i64 0] w fun e w'=>e= .returned (.int .i64 0)/\w'=w:=by
 go_enter Tryz.func160,Tryz.ntmps160
 go_wp2_with fail
 go_ret
 exact⟨rfl,rfl⟩
theorem sF (lg d:Nat)(l:Lg)(S:Nat->Prop)(q:Int)(w:World)(h:qd w S lg d l)(hq:q≠0):
  Calls Tryz.prog 160 #[.pointer (some ⟨lg,0,none⟩),.int .i64 q] w fun e w'=>e= .returned (.int .i64 10)/\qd w' S lg d l.dies/\Step S S w w':=by
 obtain⟨lv,dn,c,h⟩:=h
 obtain⟨_,_,_,_,_,_,_,_,c8,hlt,hfz⟩:=h.cells
 have hf:=hfz 8
 have hq':(q !=0)=true:=by simpa using hq
 have HS:=af (h.set (l':=l.dies) 8 (.bool true) (by omega) ⟨h.ok.n2,h.ok.hi,h.ok.st,h.ok.us,h.ok.la,h.ok.sy,h.ok.ent,h.ok.sum⟩ rfl (fun e=>by cases e) rfl)
 have HSL:=af h.sl
 go_enter Tryz.func160,Tryz.ntmps160
 go_wp2_with fail
 go_ret
 exact⟨rfl,⟨_,_,_,HS.out⟩,(Keep.refl S w).setCell (p:=⟨lg,8,none⟩) (.inr HSL.out) _,fun _ hg=> .inl hg⟩
theorem x9 (a b:List (Nat×Nat)):jG (a++b)=jG a++jG b:=by simp[jG]
theorem aW.nth {w:World}{S:Nat->Prop}{k n c:Nat}{ao:Option Addr}{xs:List Value}(h:aW w S k (.slice ao n c) n xs)(hn:0<n)(hk:0<k):∃b o,ao=some ⟨b,o,none⟩/\b<w.heap.size/\∀j u,xs[j]? =some u->w.cell? ⟨b,o+j,none⟩=some u:=by
 obtain⟨ao',c',hv,h1,h2,h3,h4,h5,h6⟩:=h
 cases hv
 have hl:0<xs.length:=by rw[h3];exact Nat.mul_pos hn hk
 obtain⟨b,o,e,hc⟩:=h6 0 _ (bD hl)
 refine⟨b,o,e,(h5 _ e).2.1,fun j u hu=> ?_⟩
 obtain⟨b',o',e',hc'⟩:=h6 j u hu
 rw[e] at e';cases e'
 exact hc'
theorem Qf (lg d:Nat)(l:Lg)(S:Nat->Prop)(w:World)(h:qd w S lg d l)(hd:l.dead=false):
  Calls Tryz.prog 233 #[.pointer (some ⟨lg,0,none⟩)] w fun e w'=>e= .returned (.int .i64 l.first)/\w'=w:=by
 obtain⟨lv,dn,c,h⟩:=h
 obtain⟨_,_,_,_,_,c5,c6,_,_,hlt,_⟩:=h.cells
 have h1:=h.ok.la
 have hsl:=(h.lst hd).dL (S:=d9) (fun _ _ e=>e)
 obtain⟨ao,cp,rfl,g1,g2,g3,g4⟩:=aW.form hsl
 cases hl:l.list with
 |nil=>
  rw[hl] at g1 g3 c5
  have e1:IntKind.i64.wrap ((l.last:Int)+1)=(l.last:Int)+1:=aS _ (by omega)
  have E2:=af (show (l.last:Int)+1=(l.first:Int) by unfold Lg.first;rw[hl];rfl)
  clear h hsl hl hd
  go_enter Tryz.func233,Tryz.ntmps233
  go_wp2_with fail
  go_ret
  rw[<-E2.out]
  exact⟨rfl,rfl⟩
 |cons e es=>
  have hn:0<l.list.length:=by rw[hl];simp
  obtain⟨b,o,rfl,hb,hcl⟩:=hsl.nth hn (by omega)
  have hc0:w.cell? ⟨b,o,none⟩=some (.int .i64 (e.1:Int)):=by
   have:=hcl 0 (.int .i64 (e.1:Int)) (by rw[hl];rfl)
   rwa [jw] at this
  have E2:=af (show (e.1:Int)=(l.first:Int) by unfold Lg.first;rw[hl])
  have hne:((l.list.length:Int)==0)=false:=eO.2 (by omega)
  have hne2:l.list.isEmpty=false:=by rw[hl];rfl
  have hne3:¬l.list=[]:=by rw[hl];simp
  have hpos:(0:Int)<(l.list.length:Int):=by omega
  clear h hsl hl hcl hd
  go_enter Tryz.func233,Tryz.ntmps233
  go_wp2_with fail
  go_ret
  rw[<-E2.out]
  exact⟨rfl,rfl⟩
theorem Nz (d:Nat)(σ:Dk)(S:Nat->Prop)(frm n:Nat)(w:World)(h:qI w S d σ)(h1:2<=n)(h2:frm+n<=σ.n):
  Calls Tryz.prog 150 #[.pointer (some ⟨d,0,none⟩),.int .i64 frm,.int .i64 n] w fun e w'=>e= .returned (.int .i64 0)/\w'=w:=by
 have HS:=af (EJ d σ S w h)
 have hhi:=h.ok.hi
 have e1:¬((frm:Int)<0):=by omega
 have e2:¬((n:Int)<2):=by omega
 have e3:¬((σ.n:Int)<(n:Int)):=by omega
 have e4:IntKind.i64.wrap ((σ.n:Int) - (n:Int))=(σ.n:Int) - (n:Int):=aS _ (by omega)
 have e5:¬((σ.n:Int) - (n:Int)<(frm:Int)):=by omega
 have d1:decide ((frm:Int)<0)=false:=bH e1
 have d2:decide ((n:Int)<2)=false:=bH e2
 have d2':decide (n<2)=false:=bH (by omega)
 have d3:decide ((σ.n:Int)<(n:Int))=false:=bH e3
 have d3':decide (σ.n<n)=false:=bH (by omega)
 have d5:decide ((σ.n:Int) - (n:Int)<(frm:Int))=false:=bH e5
 go_enter Tryz.func150,Tryz.ntmps150
 go_wp2_with (first
  |(go_at_call 87;go_must (refine HS.out.mono ?_;rintro e w1 ⟨rfl,hw⟩;subst w1)))
 go_ret
 exact⟨rfl,rfl⟩
def iT (ss:List ByteArray):List (List UInt8):=ss.map fun s=>s.data.toList
def gF (ss:List ByteArray):Nat:=(ss.map fun s=>4+s.size).sum
theorem sP (ss:List ByteArray):((iT ss).map fun r=>4+r.length).sum=gF ss:=by
 unfold iT gF
 rw[List.map_map]
 congr 1
theorem Eg (ss:List ByteArray)(k:Nat)(hk:k<ss.length):gF (ss.take (k+1))=gF (ss.take k)+(4+ss[k].size):=by
 unfold gF
 rw[aM hk,eP,pQ]
 simp
theorem A9 (ss:List ByteArray)(k:Nat):gF (ss.take k)<=gF ss:=by
 have:gF ss=gF (ss.take k)+gF (ss.drop k):=by unfold gF;rw[<-pQ,<-eP,bG]
 omega
theorem KJ (v:Value)(ss:List ByteArray)(S:Nat->Prop)(w:World)(hv:oM w S v ss)(hs:gF ss<=1000000000):
  Calls Tryz.prog 97 #[v] w fun e w'=>e= .returned (.int .i64 (bN (iT ss)))/\w'=w:=by
 obtain⟨vo,vc,rfl,v1,v2,v3,v4⟩:=aW.form hv
 go_enter Tryz.func97,Tryz.ntmps97
 go_wp2_with fail
 go_loop [3,8] (fun s i=>∃k:Nat,k<=ss.length/\i= .int .i64 k/\s= .int .i64 ((16+gF (ss.take k):Nat):Int)) (fun _ i=>ss.length - (intOf i).toNat)
 case atStart=>exact⟨0,aN _,rfl,rfl⟩
 case round=>
  obtain⟨k,hk,rfl,rfl⟩:=hrel
  by_cases hlt:k<ss.length
  ·have hltI:(k:Int)<(ss.length:Int):=by omega
   obtain⟨b,o,rfl,hc⟩:=oM.at hv rfl k hlt
   have ht:=Eg ss k hlt
   have hle:=A9 ss (k+1)
   have e1:IntKind.i64.wrap (4+(ss[k].size:Int))=4+(ss[k].size:Int):=aS _ (by omega)
   have e2:IntKind.i64.wrap (((16+gF (ss.take k):Nat):Int)+(4+(ss[k].size:Int)))=((16+gF (ss.take (k+1)):Nat):Int):=by rw[aS _ (by omega),ht];omega
   obtain⟨a,HA⟩:∃a:Nat,Hid (16+gF (ss.take k)=a):=⟨_,af rfl⟩
   rw[HA.out] at e2 ⊢
   clear ht
   go_wp2_with fail
   go_round
   case rel=>exact⟨k+1,by omega,by go_num,by first|rfl|rw[e2]⟩
   case measure=>simp[intOf];omega
  ·obtain rfl:k=ss.length:=by omega
   rw[bW]
   have HE:=af (show (((16+gF ss:Nat):Int)+511)/512=(bN (iT ss):Int) by unfold bN;rw[sP];omega)
   obtain⟨a,HA⟩:∃a:Nat,Hid (16+gF ss=a):=⟨_,af rfl⟩
   have ha:a<=2000000000:=by rw[<-HA.out];omega
   rw[HA.out] at HE ⊢
   have e1:IntKind.i64.wrap ((a:Int)+512)=(a:Int)+512:=aS _ (by omega)
   have e2:IntKind.i64.wrap ((a:Int)+512 - 1)=(a:Int)+511:=by rw[aS _ (by omega)];omega
   go_wp2_with fail
   go_ret
   exact⟨congrArg (fun z=>Ending.returned (.int .i64 z)) HE.out,rfl⟩
theorem vg:∀(x k:Nat),leB x (k+1)=leB x k++[b8 (x/256^k)]
 |x,0=>by simp[leB]
 |x,k+1=>by
  rw[leB,vg (x/256) k,leB,RP,CY,<-Nat.pow_succ']
theorem CF (x:Nat):aB [b8 x]=[.int .u8 ((x:Int)%256)]:=by simp[aB,xw]
theorem I8 (v:Value)(xs:List UInt8)(x size B:Nat)(w:World)(hv:aQ w d9 B 5 1 v xs.length (aB xs))(hB:B<=w.heap.size)(hx:x<18446744073709551616)(hs:size<=8)(hl:xs.length<=1000000000):
  Calls Tryz.prog 157 #[v,.int .u64 x,.int .i64 size] w fun e w'=>∃v',e= .returned v'/\aQ w' d9 B 5 1 v' (xs++leB x size).length (aB (xs++leB x size))/\Below B w w':=by
 go_enter Tryz.func157,Tryz.ntmps157
 go_wp2_with fail
 go_loopw [0,1,8] (fun b n i wr=>∃(k y:Nat) (ao:Option Addr) (c:Nat),k<=size/\i= .int .i64 k/\b= .slice ao (xs++leB x k).length c/\n= .int .u64 (y:Int)/\y<18446744073709551616/\Hid (x/256^k=y)/\aQ wr d9 B 5 1 b (xs++leB x k).length (aB (xs++leB x k))/\Below B w wr) (fun _ _ i _=>size - (intOf i).toNat)
 case atStart=>
  obtain⟨ao,c,rfl,_,_,_,_⟩:=aW.form hv.dL
  refine⟨0,x,ao,c,aN _,rfl,?_,rfl,hx,af (by simp),?_,aH _ _⟩
  ·simp[leB]
  ·simpa [leB] using hv
 case round=>
  obtain⟨k,y,ao,c,hk,rfl,rfl,rfl,hy,HY,hown,hbel⟩:=hrel
  by_cases hlt:k<size
  ·have hltI:(k:Int)<(size:Int):=by omega
   have hlen:=af (show (xs++leB x k).length=xs.length+k by rw[ay,dK])
   have hlen2:=af (show (xs++leB x (k+1)).length=(xs++leB x k).length+1 by rw[ay,ay,dK,dK];rfl)
   obtain⟨n,hn⟩:∃n,(xs++leB x k).length=n:=⟨_,rfl⟩
   have HC:=af (show aB (xs++leB x (k+1))=aB (xs++leB x k)++[.int .u8 ((y:Int)%256)] by rw[vg,<-bC,eB (xs++leB x k),CF,HY.out])
   rw[hn] at hown hlen hlen2 ⊢
   clear hn
   have hnb:n<=1000000008:=by have:=hlen.out;omega
   have hsz:=hbel.size
   go_wp2_with (at_builtin;go_must ((refine dS rfl (.tmp 10) (.tmp 13) 154 154 rfl d9 B 5 1 1 (.int .u8 0) aO iJ rfl (.slice ao n c) _ _ rfl (hown.below (aC _ _)) _ 1 _ rfl (iq [_] _ 1 1 1 rfl aO rfl ?_) (fun _ h=>h.elim) ?_ ?_ ?_ ?_);(focus (simp[Value.oneCell']));(focus (simp only[aZ];omega));(focus (unfold maxLen;omega));(focus omega);intro ao1 c1 w1 hown1 hk1 hb1 hd1))
   have HO:=af hown1;clear hown1 hk1 hd1
   go_roundw
   case rel=>
    refine⟨k+1,y/256,ao1,c1,by omega,by go_num,by rw[hlen2.out],by go_num,by omega,af (by rw[Nat.pow_succ,<-CY,HY.out]),?_,(hbel.trans (aC wr _|>.mono (aG hB hsz))).trans hb1⟩
    rw[hlen2.out,HC.out]
    simpa using HO.out
   case measure=>simp[intOf];omega
  ·obtain rfl:k=size:=by omega
   go_wp2_with fail
   go_ret
   exact⟨_,rfl,hown,hbel⟩
section
variable {P:Program}
theorem Lm (w:World)(B:Nat)(t tx ty e:TypeId)(i:TypeInfo)(z:Value)(k bytes:Nat)(ht:P.underlying t=some (.slice e))(hi:P.info? e=some i)(hz:i.zero=some z)
  (hsize:i.size=k) (hby:i.bytes=bytes) (hzs:z.cells.size=k) (ao:Option Addr) (n:Nat) (xs:List Value) (S:Nat->Prop) (hv:aW w S k (.slice ao n n) n xs) (x:Value) (m:Nat) (news:List Value) (hs:Src P k tx x m news w)
  (hm:0<m) (hB:B<=w.heap.size) (h63:n+m<=maxLen) (hbytes:(n+m)*bytes<=140737488355328):
  ∃ao' c w',(Builtin.append_ #[t,tx] ty #[.slice ao n n,x]).run P w= .ok (.slice ao' (n+m) c) w'/\aQ w' d9 B e k (.slice ao' (n+m) c) (n+m) (xs++news)/\Keep d9 w w':=by
 subst hsize
 subst hby
 have hsmall:n+m<=9223372036854775807:=by simp only[maxLen] at h63;omega
 have hxl:xs.length=n*i.size:=by obtain⟨_,_,_,_,_,e,_⟩:=hv;exact e
 have hlen:(xs++news).length=(n+m)*i.size:=by rw[ay,hxl,hs.newsLen,dU]
 have hge:=grownCap_ge w (n+m) n e
 have hcm:grownCap w (n+m) n e<=maxLen:=zW w (n+m) n e h63
 have hold:(Builtin.firstCells i.size n (.slice ao n n)).run P w.drew= .ok xs.toArray w.drew:=by
  have:=(hv.below (aH _ _).drew).first (P:=P) n (aA _)
  rwa [aI (fA hxl)] at this
 have hr:=pO (P:=P) w t tx ty e i z ht hi hz ao n n xs hold x m news hs (by omega) (by omega) (sj (by omega) hbytes)
 refine⟨_,_,_,hr,⟨⟨hlen,.inr ⟨w.heap.size,_,_,rfl,hB,aF w.drew _,hge,hcm,?_,?_⟩⟩,fun g hg hh=>hh.elim⟩,(Keep.refl _ w).drew.alloc _⟩
 ·simp only[Array.size_append,ny,hlen,Nl,hzs,<-dU]
  congr 1
  omega
 ·simp only[KE]
  rw[<-hlen]
  exact gP
theorem Db {ops:Array Oper}{rest:List Oper}{o:Oper}{a:Act}{w:World}{Q:Exit->Act->World->Prop}(hgd:o.guard=none)(s y:Operand)(t tx:TypeId)(ho:o.op= .call {callee:= .builtin .append,args:=#[s,y],argTypes:=#[t,tx]})
  (B:Nat) (e:TypeId) (k bytes:Nat) (z:Value) (ht:P.underlying t=some (.slice e)) (hinfo:(P.info? e).map (fun i=>(i.zero,i.size,i.bytes))=some (some z,k,bytes)) (hzs:z.cells.size=k)
  (ao:Option Addr) (n:Nat) (xs:List Value) (S:Nat->Prop) (hv:a.eval s= .slice ao n n) (hsl:aW w S k (.slice ao n n) n xs) (x:Value) (m:Nat) (news:List Value) (hx:a.eval y=x) (hs:Src P k tx x m news w)
  (hm:0<m) (hB:B<=w.heap.size) (h63:n+m<=maxLen) (hbytes:(n+m)*bytes<=140737488355328)
  (h:∀ao' c w',aQ w' d9 B e k (.slice ao' (n+m) c) (n+m) (xs++news)->Keep d9 w w'->wpList P ops Q rest (a.put o.dst (.slice ao' (n+m) c)) w'):wpList P ops Q (o::rest) a w:=by
 refine wpList_plain hgd fun _ hK=> ?_
 obtain⟨i,hi,hz,hsize,hby⟩:=zV hinfo
 obtain⟨ao',c,w',hr,h2,h3⟩:=Lm (P:=P) w B t tx o.type e i z k bytes ht hi hz hsize hby hzs ao n xs S hsl x m news hs hm hB h63 hbytes
 unfold Oper.wp execOp
 simp only[ho,resolve,invoke,builtin,kg,yo,gM,sW,dO,og,hv,hx,hr]
 exact hK _ _ (h ao' c w' h2 h3)
end
theorem I7 (ao0:Option Addr)(xs:List UInt8)(x size:Nat)(w:World)(hv:aW w d9 1 (.slice ao0 xs.length xs.length) xs.length (aB xs))(hx:x<18446744073709551616)(hs0:0<size)(hs:size<=8)(hl:xs.length<=1000000000):
  Calls Tryz.prog 157 #[.slice ao0 xs.length xs.length,.int .u64 x,.int .i64 size] w fun e w'=>∃v',e= .returned v'/\aQ w' d9 w.heap.size 5 1 v' (xs++leB x size).length (aB (xs++leB x size))/\Below w.heap.size w w':=by
 go_enter Tryz.func157,Tryz.ntmps157
 go_wp2_with fail
 go_loopw [0,1,8] (fun b n i wr=>∃(k y:Nat) (ao:Option Addr) (c:Nat),k<=size/\i= .int .i64 k/\b= .slice ao (xs++leB x k).length c/\n= .int .u64 (y:Int)/\y<18446744073709551616/\Hid (x/256^k=y)/\Hid ((k=0/\wr=w/\ao=ao0/\c=xs.length)\/(0<k/\aQ wr d9 w.heap.size 5 1 b (xs++leB x k).length (aB (xs++leB x k))))/\Below w.heap.size w wr) (fun _ _ i _=>size - (intOf i).toNat)
 case atStart=>exact⟨0,x,ao0,xs.length,aN _,rfl,by simp[leB],rfl,hx,af (by simp),af (.inl ⟨rfl,rfl,rfl,rfl⟩),aH _ _⟩
 case round=>
  obtain⟨k,y,ao,c,hk,rfl,rfl,rfl,hy,HY,hown,hbel⟩:=hrel
  by_cases hlt:k<size
  ·have hltI:(k:Int)<(size:Int):=by omega
   rcases hown.out with ⟨rfl,rfl,rfl,rfl⟩|⟨hk0,hown'⟩
   ·have e0:xs++leB x 0=xs:=by simp[leB]
    rw[e0]
    have hxy:x=y:=by simpa using HY.out
    subst hxy
    have HC:=af (show aB (xs++leB x 1)=aB xs++[.int .u8 ((x:Int)%256)] by rw[vg,<-bC,eB,CF];simp[leB])
    have hlen2:=af (show (xs++leB x 1).length=xs.length+1 by rw[ay,dK])
    go_wp2_with (at_builtin;go_must ((refine Db rfl (.tmp 10) (.tmp 13) 154 154 rfl wr.heap.size 5 1 1 (.int .u8 0) aO iJ rfl ao xs.length _ d9 rfl (hv.below (aC _ _)) _ 1 _ rfl (iq [_] _ 1 1 1 rfl aO rfl ?_) (by omega) ?_ ?_ ?_ ?_);(focus (simp[Value.oneCell']));(focus (simp only[aZ];omega));(focus (unfold maxLen;omega));(focus omega);intro ao1 c1 w1 hown1 hk1))
    have HO:=af hown1;have HK:=af ((aC wr _).trans (hk1.below.mono (by simp)));clear hown1 hk1
    go_roundw
    case rel=>
     refine⟨1,x/256,ao1,c1,by omega,by go_num,by rw[hlen2.out],by go_num,by omega,af (by simp),af (.inr ⟨by omega,?_⟩),HK.out⟩
     rw[hlen2.out,HC.out]
     simpa using HO.out
    case measure=>simp[intOf];omega
   ·have hown:=hown';clear hown'
    have hlen:=af (show (xs++leB x k).length=xs.length+k by rw[ay,dK])
    have hlen2:=af (show (xs++leB x (k+1)).length=(xs++leB x k).length+1 by rw[ay,ay,dK,dK];rfl)
    obtain⟨n,hn⟩:∃n,(xs++leB x k).length=n:=⟨_,rfl⟩
    have HC:=af (show aB (xs++leB x (k+1))=aB (xs++leB x k)++[.int .u8 ((y:Int)%256)] by rw[vg,<-bC,eB (xs++leB x k),CF,HY.out])
    rw[hn] at hown hlen hlen2 ⊢
    clear hn
    have hnb:n<=1000000008:=by have:=hlen.out;omega
    have hsz:=hbel.size
    go_wp2_with (at_builtin;go_must ((refine dS rfl (.tmp 10) (.tmp 13) 154 154 rfl d9 w.heap.size 5 1 1 (.int .u8 0) aO iJ rfl (.slice ao n c) _ _ rfl (hown.below (aC _ _)) _ 1 _ rfl (iq [_] _ 1 1 1 rfl aO rfl ?_) (fun _ h=>h.elim) ?_ ?_ ?_ ?_);(focus (simp[Value.oneCell']));(focus (simp only[aZ];omega));(focus (unfold maxLen;omega));(focus omega);intro ao1 c1 w1 hown1 hk1 hb1 hd1))
    have HO:=af hown1;clear hown1 hk1 hd1
    go_roundw
    case rel=>
     refine⟨k+1,y/256,ao1,c1,by omega,by go_num,by rw[hlen2.out],by go_num,by omega,af (by rw[Nat.pow_succ,<-CY,HY.out]),af (.inr ⟨by omega,?_⟩),(hbel.trans (aC wr _|>.mono hsz)).trans hb1⟩
     rw[hlen2.out,HC.out]
     simpa using HO.out
    case measure=>simp[intOf];omega
  ·obtain rfl:k=size:=by omega
   obtain⟨_,hown'⟩:=hown.out.resolve_left (by omega)
   go_wp2_with fail
   go_ret
   exact⟨_,rfl,hown',hbel⟩
theorem Keep.mQ {B:Nat}{w w':World}(h:Below B w w'):Keep (fun g=>B<=g) w w':=⟨h.os,h.tape,h.output,h.size,fun k _ hn=>h.block k (jk.1 hn)⟩
theorem Step.Td {A A' B:Nat->Prop}{w w':World}(h:Step A A' w w')(hd:∀g,A g->¬B g)(hB:∀g,B g->g<w.heap.size):∀g,A' g->¬B g:=fun g ha hb=>
 (h.2 g ha).elim (fun x=>hd g x hb) (fun x=>absurd (hB g hb) (aV.2 x))
theorem Step.or {A A':Nat->Prop}{w w':World}(h:Step A A' w w')(B:Nat->Prop):Step (fun g=>A g\/B g) (fun g=>A' g\/B g) w w':=
 ⟨h.1.mono (fun _ _ x=> .inl x),fun g hg=>hg.elim (fun x=>(h.2 g x).elim (fun y=> .inl (.inl y)) .inr) (fun x=> .inl (.inr x))⟩
structure iy (w:World)(Sd Sl:Nat->Prop)(lg d:Nat)(σ:Dk)(l:Lg):Prop where
 dk:qI w Sd d σ
 lg:qd w Sl lg d l
 dis:∀g,Sd g->¬Sl g
 fit:l.frm+l.n<=σ.n
theorem iy.keep {w w':World}{Sd Sl M:Nat->Prop}{lg d:Nat}{σ:Dk}{l:Lg}(h:iy w Sd Sl lg d σ l)(hk:Keep M w w')(hd:∀g,Sd g->¬M g)(hl:∀g,Sl g->¬M g):iy w' Sd Sl lg d σ l:=
 ⟨h.dk.keep hk hd,h.lg.keep hk hl,h.dis,h.fit⟩
theorem iy.below {w w':World}{Sd Sl:Nat->Prop}{lg d:Nat}{σ:Dk}{l:Lg}(h:iy w Sd Sl lg d σ l)(hb:Below w.heap.size w w'):iy w' Sd Sl lg d σ l:=
 h.keep (Keep.of_below hb d9) (fun _ _ e=>e) (fun _ _ e=>e)
def Two (Sd Sl Sd' Sl':Nat->Prop)(w w':World):Prop:=Step (fun g=>Sd g\/Sl g) (fun g=>Sd' g\/Sl' g) w w'
theorem iy.disk {w w':World}{Sd Sd' Sl:Nat->Prop}{lg d:Nat}{σ σ':Dk}{l:Lg}(h:iy w Sd Sl lg d σ l)(hd:qI w' Sd' d σ')(hs:Step Sd Sd' w w')(hn:σ'.n=σ.n):iy w' Sd' Sl lg d σ' l/\Two Sd Sl Sd' Sl w w':=
 ⟨⟨hd,h.lg.keep hs.1 (fun g hg hg'=>h.dis g hg' hg),hs.Td h.dis h.lg.sub,by rw[hn];exact h.fit⟩,hs.or Sl⟩
theorem iy.log {w w':World}{Sd Sl Sl':Nat->Prop}{lg d:Nat}{σ:Dk}{l l':Lg}(h:iy w Sd Sl lg d σ l)(hl:qd w' Sl' lg d l')(hs:Step Sl Sl' w w')(hn:l'.frm=l.frm/\l'.n=l.n):iy w' Sd Sl' lg d σ l'/\Two Sd Sl Sd Sl' w w':=by
 refine⟨⟨h.dk.keep hs.1 h.dis,hl,fun g hd hl'=>hs.Td (fun g hg hg'=>h.dis g hg' hg) h.dk.sub g hl' hd,by rw[hn.1,hn.2];exact h.fit⟩,?_⟩
 exact⟨hs.1.mono (fun _ _ x=> .inr x),fun g hg=>hg.elim (fun x=> .inl (.inl x)) (fun x=>(hs.2 g x).elim (fun y=> .inl (.inr y)) .inr)⟩
theorem Two.trans {a b c:World}{A B A' B' A'' B'':Nat->Prop}(h:Two A B A' B' a b)(k:Two A' B' A'' B'' b c):Two A B A'' B'' a c:=Step.trans h k
theorem Two.of_below {A B:Nat->Prop}{w w':World}(h:Below w.heap.size w w'):Two A B A B w w':=Step.of_below h
theorem Two.refl (A B:Nat->Prop)(w:World):Two A B A B w w:=Step.refl _ _
theorem Dk.nQ (σ:Dk)(i:Int)(l:List UInt8):(σ.write i l).1.n=σ.n:=by
 unfold Dk.write
 have:=σ.bM.1
 split
 ·rfl
 ·split
  ·rfl
  ·split
   ·rfl
   ·split<;>exact this
theorem Dk.lu (σ:Dk):σ.sync.1.n=σ.n:=by
 unfold Dk.sync
 have:=σ.bM.1
 split
 ·rfl
 ·split<;>exact this
theorem oL.table {w w':World}{S:Nat->Prop}{lg d:Nat}{l:Lg}{lv:Value}{dn dn':Bool}{c c':Int}(h:oL w S lg d l lv dn c)(hr:Row w' lg 288 (iC (iY d l lv) dn' c' []))(hk:Keep (· =lg) w w'):oL w' S lg d l lv dn' c':=
 ⟨h.ok,fun g hg=>ax (h.sub g hg) hk.size,h.sl,hr,fun hd=>(h.lst hd).keep fun g hg=>hk.block g (h.sub _ (h.slv hd g hg).1) (h.slv hd g hg).2,h.slv⟩
def Lg.fields (l:Lg):List Nat:=[l.frm,l.n,l.start,l.first,l.synced]
def Lg.oD (l:Lg)(k:Nat):List UInt8:=magic++(l.fields.take k).flatMap (fun x=>leB x 8)
theorem Lg.Gv (l:Lg):l.oD 0=magic:=by unfold Lg.oD;simp
theorem Lg.Gx (l:Lg):l.oD 5=l.oF:=by unfold Lg.oD Lg.oF Lg.fields;simp
theorem Lg.Gw (l:Lg)(k:Nat)(hk:k<5):l.oD (k+1)=l.oD k++leB (l.fields.getD k 0) 8:=by
 unfold Lg.oD
 rw[aM (show k<l.fields.length from hk),vX,bC,List.flatMap_singleton,nO,bD (show k<l.fields.length from hk)]
 rfl
theorem Lg.vE (l:Lg)(k:Nat)(hk:k<=5):(l.oD k).length=12+8*k:=by
 unfold Lg.oD
 have e:∀L:List Nat,(L.flatMap (fun x=>leB x 8)).length=8*L.length:=fun L=>by
  induction L with
  |nil=>rfl
  |cons a L ih=>rw[iR,ay,ih,dK,aU];omega
 rw[ay,e,aL]
 have:l.fields.length=5:=rfl
 rw[this,dh hk]
 rfl
theorem Lg.Ok.first {l:Lg}(h:l.Ok):l.first<=l.last+1:=by
 unfold Lg.first
 have:=h.ent
 split
 ·exact aA _
 ·rename_i e r he
  have:=(h.ent e (by rw[he];exact aP ..)).2
  omega
theorem Lg.Ok.fields {l:Lg}(h:l.Ok):∀x∈l.fields,x<=2000000000000:=by
 have:=h.n2;have:=h.hi;have:=h.st;have:=h.la;have:=h.sy;have:=h.first
 intro x hx
 simp only[Lg.fields,aX,cK,iL] at hx
 omega
def yN (L:List Nat):List Value:=L.map fun (x:Nat)=>Value.int .u64 (x:Int)
theorem aQ.other {w:World}{S S':Nat->Prop}{B e k n:Nat}{v:Value}{xs:List Value}(h:aQ w S B e k v n xs)(hS:∀g,B<=g->¬S' g):aQ w S' B e k v n xs:=⟨h.1,fun g hg=>hS g (h.1.lt g hg).1⟩
theorem gQ (x:Nat)(h:x<18446744073709551616):IntKind.u64.wrap (x:Int)=(x:Int):=by simp[IntKind.wrap,IntKind.bits,IntKind.signed];omega
theorem KL (lg d:Nat)(σ:Dk)(l:Lg)(Sd Sl:Nat->Prop)(w:World)(h:iy w Sd Sl lg d σ l)(hdd:l.dead=false)(hcap:σ.waits.length<=100000):
  Calls Tryz.prog 152 #[.pointer (some ⟨lg,0,none⟩)] w fun e w'=>e= .returned (.int .i64 (l.mark σ).2.2)/\∃Sd' Sl',iy w' Sd' Sl' lg d (l.mark σ).1 (l.mark σ).2.1/\Two Sd Sl Sd' Sl' w w':=by
 have hL:=h.lg
 obtain⟨lv,dn,c,hL⟩:=hL
 obtain⟨c0,c1,c2,c3,c4,c5,c6,c7,c8,hlt,hfz⟩:=hL.cells
 have hok:=hL.ok
 have hf:=hok.fields
 have q0:=gQ l.frm (by have:=hf l.frm (by simp[Lg.fields]);omega)
 have q1:=gQ l.n (by have:=hf l.n (by simp[Lg.fields]);omega)
 have q2:=gQ l.start (by have:=hf l.start (by simp[Lg.fields]);omega)
 have q3:=gQ l.first (by have:=hf l.first (by simp[Lg.fields]);omega)
 have q4:=gQ l.synced (by have:=hf l.synced (by simp[Lg.fields]);omega)
 have hcv:=fun (w:World) (C:Array Value) (n c:Nat)=>Lib.run_convert_bytes_const (P:=Tryz.prog) w 154 5 C n c aO dx
 clear hf c4 c5 c6 c8
 obtain⟨w1,HW1⟩:∃w1:World,Hid (w.alloc (.cells #[.int .u8 100,.int .u8 111,.int .u8 99,.int .u8 107,.int .u8 101,.int .u8 116,.int .u8 32,.int .u8 108,.int .u8 111,.int .u8 103,.int .u8 32,.int .u8 49] 5 (12,13))=w1):=⟨_,af rfl⟩
 have hb1:Below w.heap.size w w1:=by rw[<-HW1.out];exact aC w _
 have hsl1:aW w1 d9 1 (.slice (some ⟨w.heap.size,0,none⟩) 12 12) 12 (aB magic):=by
  rw[<-HW1.out]
  refine⟨_,12,rfl,aA _,by simp[maxLen],rfl,(fun e=>by cases e),fun ad had=>by cases had;exact⟨rfl,by simp,id⟩,fun j u hu=>⟨_,_,rfl,?_⟩⟩
  rw[iN]
  exact(Nn _ _ j _ _ (12,13) (aF w _)).trans ((List.getElem?_toArray ..).trans hu)
 have hS:∀W:World,Below w.heap.size w W->W.cell? ⟨lg,0,none⟩=some (.pointer (some ⟨d,0,none⟩))/\W.cell? ⟨lg,1,none⟩=some (.int .i64 l.frm)/\W.cell? ⟨lg,2,none⟩=some (.int .i64 l.n)/\W.cell? ⟨lg,3,none⟩=some (.int .i64 l.start)/\W.cell? ⟨lg,7,none⟩=some (.int .i64 l.synced)/\lg<W.heap.size:=fun W hW=>
  ⟨(hW.cell (p:=⟨lg,0,none⟩) hlt).trans c0,(hW.cell (p:=⟨lg,1,none⟩) hlt).trans c1,(hW.cell (p:=⟨lg,2,none⟩) hlt).trans c2,(hW.cell (p:=⟨lg,3,none⟩) hlt).trans c3,(hW.cell (p:=⟨lg,7,none⟩) hlt).trans c7,ax hlt hW.size⟩
 have HS:=af hS;clear hS c0 c1 c2 c3 c7
 go_enter Tryz.func152,Tryz.ntmps152
 go_wp2_with fail
 rw[HW1.out]
 refine aK (fun W=>Below w.heap.size w W) (fun i=> !([16,23].contains i)) [0,1,2,3,4,5,6,7,8,9,10,11,12,13,14,15,18,19,20,21,22,25,16,17,23,24] rfl (by kernel_rfl) hb1.drew ?_
 repeat ((refine bq (v:= ?_) rfl rfl (fun _ _ _ h=>h) rfl (fun W hW=> ?_) ?_);rotate_left;(focus ((try dsimp only at hW);obtain⟨r0,r1,r2,r3,r7,rl⟩:=HS.out W hW;(go_simp;first|done|with_reducible rfl)));(try simp only[Act.put,aj,av,au]))
 refine bP rfl rfl rfl ?_;intro K hK;go_simp
 refine(Qf lg d l Sl w1.drew (h.lg.keep (Keep.of_below hb1.drew d9) (fun _ _ e=>e)) hdd).mono ?_;rintro e w4 ⟨rfl,hw4⟩;subst w4
 refine hK.out _ _ hb1.drew ?_
 repeat ((refine bq (v:= ?_) rfl rfl (fun _ _ _ h=>h) rfl (fun W hW=> ?_) ?_);rotate_left;(focus ((try dsimp only at hW);obtain⟨r0,r1,r2,r3,r7,rl⟩:=HS.out W hW;(go_simp;first|done|with_reducible rfl)));(try simp only[Act.put,aj,av,au]))
 refine bP rfl rfl rfl ?_;intro K hK;go_simp
 obtain⟨w2,HW2⟩:∃w2:World,Hid ((w1.alloc (.cells #[.int .u64 l.frm,.int .u64 l.n,.int .u64 l.start,.int .u64 l.first,.int .u64 l.synced] 292)).drew=w2):=⟨_,af rfl⟩
 have hb12:Below w1.heap.size w1 w2:=by rw[<-HW2.out];exact(aC w1 _).drew
 have hb2:=hb1.trans (hb12.mono hb1.size)
 have hr2:Row w2 w1.heap.size 292 (yN l.fields):=by rw[<-HW2.out];exact Row.new w1 (yN l.fields) _
 have hsl2:=af (hsl1.below hb12)
 rw[HW2.out]
 refine hK.out _ _ hb2 ?_
 repeat ((refine bq (v:= ?_) rfl rfl (fun _ _ _ h=>h) rfl (fun W hW=> ?_) ?_);rotate_left;(focus ((try dsimp only at hW);obtain⟨r0,r1,r2,r3,r7,rl⟩:=HS.out W hW;(go_simp;first|done|with_reducible rfl)));(try simp only[Act.put,aj,av,au]))
 refine bF ?_
 go_wp2_with fail
 go_loopw [3,34] (fun b i wr=>∃(k:Nat) (ao:Option Addr) (cc:Nat),k<=5/\i= .int .i64 k/\b= .slice ao (12+8*k) cc/\Hid ((k=0/\wr=w2/\ao=some ⟨w.heap.size,0,none⟩/\cc=12)\/(0<k/\aQ wr d9 w2.heap.size 5 1 b (12+8*k) (aB (l.oD k))))/\Below w2.heap.size w2 wr) (fun _ i _=>5 - (intOf i).toNat)
 case atStart=>exact⟨0,_,12,by omega,rfl,rfl,af (.inl ⟨rfl,rfl,rfl,rfl⟩),aH _ _⟩
 case round=>
  obtain⟨k,ao,cc,hk,rfl,rfl,hown,hbel⟩:=hrel
  by_cases hlt5:k<5
  ·have hltI:(k:Int)<5:=by omega
   have hkf:k<l.fields.length:=hlt5
   obtain⟨x,HX⟩:∃x,Hid (l.fields.getD k 0=x):=⟨_,af rfl⟩
   have hx:x<18446744073709551616:=by have:=hok.fields x (by rw[<-HX.out,nO,bD hkf];exact bI hkf);omega
   have hcx:wr.cell? ⟨w1.heap.size,k,none⟩=some (.int .u64 (x:Int)):=by
    have e1:w2.cell? ⟨w1.heap.size,k,none⟩=some (.int .u64 (x:Int)):=by
     rw[hr2.cell,<-HX.out]
     unfold yN
     rw[dH,nO,bD hkf]
     rfl
    exact(hbel.cell (p:=⟨w1.heap.size,k,none⟩) hr2.lt).trans e1
   have HH:=af (l.Gw k hlt5)
   have hl0:=l.vE k (by omega)
   have hl1:=l.vE (k+1) (by omega)
   rcases hown.out with ⟨rfl,rfl,rfl,rfl⟩|⟨hk0,hown'⟩
   ·have HP:=af (I7 (some ⟨w.heap.size,0,none⟩) magic x 8 wr hsl2.out hx (by omega) (by omega) (by simp[magic]))
    go_wp2_with (go_at_call 157;go_must (refine HP.out.mono ?_;rintro e w3 ⟨v3,rfl,hown3,hb3⟩))
    have hown3':aQ w3 d9 wr.heap.size 5 1 v3 (12+8*1) (aB (l.oD 1)):=by
     rw[HH.out,HX.out,l.Gv]
     exact hown3
    obtain⟨ao3,c3,rfl,_,_,_,_⟩:=aW.form hown3'.dL
    have HO:=af hown3';clear hown3 hown3'
    go_roundw
    case rel=>exact⟨1,ao3,c3,by omega,rfl,rfl,af (.inr ⟨by omega,HO.out⟩),hb3⟩
    case measure=>simp[intOf]
   ·have hown2:aQ wr d9 w2.heap.size 5 1 (.slice ao (12+8*k) cc) (l.oD k).length (aB (l.oD k)):=by rw[hl0];exact hown'
    have HP:=af (I8 (.slice ao (12+8*k) cc) (l.oD k) x 8 w2.heap.size wr hown2 hbel.size hx (by omega) (by rw[hl0];omega))
    clear hown' hown2
    go_wp2_with (go_at_call 157;go_must (refine HP.out.mono ?_;rintro e w3 ⟨v3,rfl,hown3,hb3⟩))
    have hown3':aQ w3 d9 w2.heap.size 5 1 v3 (12+8*(k+1)) (aB (l.oD (k+1))):=by
     rw[<-hl1,HH.out,HX.out]
     exact hown3
    obtain⟨ao3,c3,rfl,_,_,_,_⟩:=aW.form hown3'.dL
    have HO:=af hown3';clear hown3 hown3'
    go_roundw
    case rel=>exact⟨k+1,ao3,c3,by omega,by go_num,rfl,af (.inr ⟨by omega,HO.out⟩),hbel.trans hb3⟩
    case measure=>simp[intOf];omega
  ·obtain rfl:k=5:=by omega
   obtain⟨_,hown'⟩:=hown.out.resolve_left (by omega)
   rw[l.Gx,show 12+8*5=52 from rfl] at hown'
   rw[show 12+8*5=52 from rfl]
   have hbw:Below w.heap.size w wr:=hb2.trans (hbel.mono hb2.size)
   have hLr:=hL.keep (Keep.of_below hbw d9) (fun _ _ e=>e)
   have hlg2:lg<w2.heap.size:=ax hlt hb2.size
   have hl52:l.oF.length=52:=l.vF
   have hsm:=G7 (iY d l lv) [] lg 9 288 dn c (.slice ao 52 cc) l.oF (fun g=>g=lg) wr rfl hLr.row (by rw[hl52];exact(hown'.other (S':=fun g=>g=lg) (fun g hg e=>by omega)).dL) rfl
   have HSm:=af hsm;clear hsm
   obtain⟨sN,HsN⟩:∃sN,Hid (Dl l.oF=sN):=⟨_,af rfl⟩
   have hsN:sN<4294967296:=by rw[<-HsN.out];exact G8 _
   have qs:=gQ sN (by omega)
   have hsum:tZ l.oF=(sN:Int):=by rw[zK,HsN.out]
   rw[hsum] at HSm
   go_wp2_with (first
    |(go_at_call 158;go_must (refine HSm.out.mono ?_;rintro e w3 ⟨rfl,c',hr3,hk3⟩;refine Stop.of ?_)))
   refine Stop.on ?_
   have hL3:=hLr.table hr3 hk3
   have hown3:aQ w3 d9 w2.heap.size 5 1 (.slice ao 52 cc) l.oF.length (aB l.oF):=by
    rw[hl52]
    exact hown'.keep fun g hg hl _=>⟨hk3.block g hl (fun e=>by have:=(hown'.1.lt g hg).1;omega),id⟩
   have HP:=af (I8 _ l.oF sN 4 w2.heap.size w3 hown3 (aG hbel.size hk3.size) (by omega) (by omega) (by rw[hl52];omega))
   clear hown3 hown' hr3 hsl1
   go_wp2_with (first
    |(go_at_call 157;go_must (refine HP.out.mono ?_;rintro e w4 ⟨v4,rfl,hown4,hb4⟩;refine Stop.of ?_)))
   refine Stop.on ?_
   have hmk:l.oF++leB sN 4=l.dZ:=by rw[<-HsN.out];rfl
   rw[hmk] at hown4
   have hlo:∀g,(Sd g\/Sl g)->¬w2.heap.size<=g:=fun g hg=>by
    have h1:=hb2.size
    rcases hg with hg|hg
    ·have:=h.dk.sub g hg;omega
    ·have:=hL.sub g hg;omega
   have hL4:=hL3.keep (Keep.mQ hb4) (fun g hg=>hlo g (.inr hg))
   have hkd:Keep (fun g=>Sl g\/w2.heap.size<=g) w w4:=((Keep.of_below hbw (fun g=>Sl g\/w2.heap.size<=g)).trans hk3 (fun g _ e=> .inl (e▸hL.sl))).trans (Keep.mQ hb4) (fun _ _ e=> .inr e)
   have hD4:qI w4 Sd d σ:=h.dk.keep hkd (fun g hg e=>e.elim (h.dis g hg) (hlo g (.inl hg)))
   have hA4:iy w4 Sd Sl lg d σ l:=⟨hD4,⟨_,_,_,hL4⟩,h.dis,h.fit⟩
   have hT4:Two Sd Sl Sd Sl w w4:=by
    refine⟨⟨hkd.os,hkd.tape,hkd.output,hkd.size,fun g hg hn=>hkd.block g hg (fun e=>e.elim (fun x=>hn (.inr x)) (fun x=> ?_))⟩,fun _ hg=> .inl hg⟩
    have:=hb2.size;omega
   have hv4:aW w4 Sd 1 v4 l.dZ.length (aB l.dZ):=(hown4.other (S':=Sd) (fun g hg hs=>hlo g (.inl hs) hg)).dL
   obtain⟨d0,d1,_,_,_,_,_,_,_,hlt4,_⟩:=hL4.cells
   have HW:=af (Cs d σ Sd (l.frm:Int) v4 l.dZ w4.drew (hD4.below ((aH _ w4).drew)) (hv4.below ((aH _ w4).drew)) (by omega))
   have HA4:=af hA4;have HT4:=af hT4
   obtain⟨τ,q,HQ⟩:∃τ q,Hid (σ.write (l.frm:Int) l.dZ=(τ,q)):=⟨_,_,af rfl⟩
   have hτn:τ.n=σ.n:=by have:=σ.nQ (l.frm:Int) l.dZ;rw[HQ.out] at this;exact this
   have hτw:τ.waits.length<=1000000:=by
    have h1:=σ.bM.2.2
    have:(σ.write (l.frm:Int) l.dZ).1.waits.length<=σ.waits.length+1:=by
     unfold Dk.write
     split
     ·exact nM _
     ·split
      ·exact nM _
      ·split
       ·exact nM _
       ·split
        ·rw[h1];exact nM _
        ·simp[Dk.put,h1]
    rw[HQ.out] at this
    show τ.waits.length<=1000000
    have h2:τ.waits.length<=σ.waits.length+1:=this
    omega
   rw[HQ.out] at HW
   clear hL3 hL4 hLr hown4 hkd hD4 hA4 hT4 hv4 hbw hbel hk3 hb4 hb12 hb1 hb2 hr2 HP hok hfz
   have HN:=af hτn;clear hτn
   go_wp2_with fail
   refine aK (fun W=>W.cell? ⟨lg,0,none⟩=some (.pointer (some ⟨d,0,none⟩))/\W.cell? ⟨lg,1,none⟩=some (.int .i64 l.frm)/\lg<W.heap.size) (fun i=> !([9].contains i)) [0,1,2,3,4,5,6,7,8,9,10] rfl (by kernel_rfl) ⟨d0,d1,hlt4⟩ ?_
   repeat ((refine bq (v:= ?_) rfl rfl (fun _ _ _ h=>h) rfl (fun W hW=> ?_) ?_);rotate_left;(focus ((try dsimp only at hW);have r0:=hW.1;have r1:=hW.2.1;have r2:=hW.2.2;(go_simp;first|done|with_reducible rfl)));(try simp only[Act.put,aj,av,au]))
   refine bP rfl rfl rfl ?_;intro K hK;go_simp
   refine HW.out.mono ?_;rintro e w5 ⟨rfl,Sd5,hD5,hs5⟩
   have hA5:=HA4.out.disk hD5 ((Step.of_below ((aH _ w4).drew)).trans hs5) HN.out
   have HA5:=af hA5.1;have HT5:=af (HT4.out.trans hA5.2)
   obtain⟨lv5,dn5,c5',hL5⟩:=hA5.1.lg
   obtain⟨e0,e1,_,_,_,_,_,_,_,hlt5',_⟩:=hL5.cells
   clear hA5 hD5 hs5 d0 d1 HW
   refine hK.out _ _ ⟨e0,e1,hlt5'⟩ ?_
   repeat ((refine bq (v:= ?_) rfl rfl (fun _ _ _ h=>h) rfl (fun W hW=> ?_) ?_);rotate_left;(focus ((try dsimp only at hW);have r0:=hW.1;have r1:=hW.2.1;have r2:=hW.2.2;(go_simp;first|done|with_reducible rfl)));(try simp only[Act.put,aj,av,au]))
   refine bF ?_
   by_cases hq:q=0
   ·subst hq
    have HF:=af (Ct d τ Sd5 w5 HA5.out.dk hτw)
    obtain⟨ρ,r,HR⟩:∃ρ r,Hid (τ.sync=(ρ,r)):=⟨_,_,af rfl⟩
    have HRN:=af (show ρ.n=τ.n by have:=τ.lu;rw[HR.out] at this;exact this)
    rw[HR.out] at HF
    go_wp2_with (first
     |(go_at_call 151;go_must (refine HF.out.mono ?_;rintro e w6 ⟨rfl,hD6,hs6⟩;refine Stop.of ?_)))
    refine Stop.on ?_
    have hA6:=HA5.out.disk hD6 hs6 HRN.out
    by_cases hr:r=0
    ·subst hr
     have HM:=af (show l.mark σ=(ρ,l,0) by unfold Lg.mark;rw[HQ.out];simp only[lH];rw[HR.out];simp)
     go_wp2_with (first
      |(go_at_call 160;go_must (refine(KP lg _).mono ?_;rintro e w7 ⟨rfl,hw7⟩;subst w7)))
     go_ret
     rw[HM.out]
     exact⟨rfl,Sd5,Sl,hA6.1,HT5.out.trans hA6.2⟩
    ·have HM:=af (show l.mark σ=(ρ,l.dies,10) by unfold Lg.mark;rw[HQ.out];simp only[lH];rw[HR.out];simp[hr])
     have HFB:=af (sF lg d l Sl r w6 hA6.1.lg hr)
     have HA6:=af hA6;clear hA6 hD6 hs6
     go_wp2_with (first
      |(go_at_call 160;go_must (refine HFB.out.mono ?_;rintro e w7 ⟨rfl,hL7,hs7⟩)))
     go_ret
     rw[HM.out]
     have hA7:=HA6.out.1.log hL7 hs7 ⟨rfl,rfl⟩
     exact⟨rfl,Sd5,Sl,hA7.1,(HT5.out.trans HA6.out.2).trans hA7.2⟩
   ·have HM:=af (show l.mark σ=(τ,l.dies,10) by unfold Lg.mark;rw[HQ.out];simp[hq])
    have HFB:=af (sF lg d l Sl q w5 HA5.out.lg hq)
    have hq':(q !=0)=true:=by simpa using hq
    go_wp2_with (first
     |(go_at_call 160;go_must (refine HFB.out.mono ?_;rintro e w7 ⟨rfl,hL7,hs7⟩)))
    go_ret
    rw[HM.out]
    have hA7:=HA5.out.log hL7 hs7 ⟨rfl,rfl⟩
    exact⟨rfl,Sd5,Sl,hA7.1,HT5.out.trans hA7.2⟩
theorem Dk.yQ (σ:Dk):σ.sync.1.waits.length<=σ.waits.length:=by
 have h1:=σ.bM.2.2
 unfold Dk.sync
 split
 ·exact aA _
 ·split
  ·rw[h1];exact aA _
  ·exact aN _
theorem iy.set {w:World}{Sd Sl:Nat->Prop}{lg d:Nat}{σ:Dk}{l l':Lg}(h:iy w Sd Sl lg d σ l)(j:Nat)(v:Value)(hj:j<9)(ho:l'.Ok)(hl:l'.list=l.list)(hdd:l'.dead=false->l.dead=false)(hn:l'.frm=l.frm/\l'.n=l.n)(he:∀lv,(iY d l lv).set j v=iY d l' lv):
  iy (w.setCell ⟨lg,j,none⟩ v) Sd Sl lg d σ l'/\Two Sd Sl Sd Sl w (w.setCell ⟨lg,j,none⟩ v):=by
 obtain⟨lv,dn,c,hL⟩:=h.lg
 exact h.log ⟨_,_,_,hL.set j v hj ho hl hdd (he lv)⟩ ⟨(Keep.refl Sl w).setCell (p:=⟨lg,j,none⟩) (.inr hL.sl) _,fun _ hg=> .inl hg⟩ hn
theorem iy.cells {w:World}{Sd Sl:Nat->Prop}{lg d:Nat}{σ:Dk}{l:Lg}(h:iy w Sd Sl lg d σ l):∃lv,
  w.cell? ⟨lg,0,none⟩=some (.pointer (some ⟨d,0,none⟩))/\w.cell? ⟨lg,1,none⟩=some (.int .i64 l.frm)/\w.cell? ⟨lg,2,none⟩=some (.int .i64 l.n)/\w.cell? ⟨lg,3,none⟩=some (.int .i64 l.start)/\w.cell? ⟨lg,4,none⟩=some (.int .i64 l.used)/\
  w.cell? ⟨lg,5,none⟩=some lv/\w.cell? ⟨lg,6,none⟩=some (.int .i64 l.last)/\w.cell? ⟨lg,7,none⟩=some (.int .i64 l.synced)/\w.cell? ⟨lg,8,none⟩=some (.bool l.dead)/\lg<w.heap.size/\∀j,w.frozen? ⟨lg,j,none⟩=false:=by
 obtain⟨lv,_,_,hL⟩:=h.lg
 exact⟨lv,hL.cells⟩
theorem Lg.Ok.all {l:Lg}(h:l.Ok):l.all.Ok:=⟨h.n2,h.hi,h.st,h.us,h.la,aA _,h.ent,h.sum⟩
theorem Lg.Ok.dies {l:Lg}(h:l.Ok):l.dies.Ok:=⟨h.n2,h.hi,h.st,h.us,h.la,h.sy,h.ent,h.sum⟩
theorem Lg.zm (σ:Dk)(l:Lg):((l.mark σ).2.2=0/\(l.mark σ).2.1=l)\/((l.mark σ).2.2=10/\(l.mark σ).2.1=l.dies):=by
 unfold Lg.mark
 split
 ·split
  ·exact .inl ⟨rfl,rfl⟩
  ·exact .inr ⟨rfl,rfl⟩
 ·exact .inr ⟨rfl,rfl⟩
theorem Pn (lg d:Nat)(σ:Dk)(l:Lg)(Sd Sl:Nat->Prop)(w:World)(h:iy w Sd Sl lg d σ l)(hcap:σ.waits.length<=100000):
  Calls Tryz.prog 104 #[.pointer (some ⟨lg,0,none⟩)] w fun e w'=>e= .returned (.int .i64 (l.sync σ).2.2)/\∃Sd' Sl',iy w' Sd' Sl' lg d (l.sync σ).1 (l.sync σ).2.1/\Two Sd Sl Sd' Sl' w w':=by
 obtain⟨lv,c0,_,_,_,_,_,c6,c7,c8,hlt,hfz⟩:=h.cells
 have hok:=h.lg.ok
 cases hd:l.dead with
 |true=>
  have HM:=af (show l.sync σ=(σ,l,10) by unfold Lg.sync;rw[hd];rfl)
  rw[hd] at c8
  clear c0 c6 c7 hfz
  go_enter Tryz.func104,Tryz.ntmps104
  go_wp2_with fail
  go_ret
  rw[HM.out]
  exact⟨rfl,Sd,Sl,h,Two.refl _ _ _⟩
 |false=>
  rw[hd] at c8
  have HF:=af (Ct d σ Sd w h.dk (by omega))
  obtain⟨ρ,r,HR⟩:∃ρ r,Hid (σ.sync=(ρ,r)):=⟨_,_,af rfl⟩
  have HRN:=af (show ρ.n=σ.n by have:=σ.lu;rw[HR.out] at this;exact this)
  have hρw:ρ.waits.length<=100000:=by have:=σ.yQ;rw[HR.out] at this;exact aG this hcap
  rw[HR.out] at HF
  clear c6 c7 hfz
  have HH:=af h
  have HD:=af hd
  clear h hd
  go_enter Tryz.func104,Tryz.ntmps104
  go_wp2_with (first
   |(go_at_call 151;go_must (refine HF.out.mono ?_;rintro e w1 ⟨rfl,hD1,hs1⟩;refine Stop.of ?_)))
  refine Stop.on ?_
  have hA1:=HH.out.disk hD1 hs1 HRN.out
  have HA1:=af hA1.1;have HT1:=af hA1.2
  obtain⟨lv1,d0,_,_,_,_,_,d6,d7,d8,hlt1,hfz1⟩:=hA1.1.cells
  have hf7:=hfz1 7
  clear hA1 hD1 hs1 HF c0 c8 hlt
  by_cases hr:r=0
  ·subst hr
   have hS:=HA1.out.set (l':=l.all) 7 (.int .i64 l.last) (by omega) hok.all rfl id ⟨rfl,rfl⟩ (fun _=>rfl)
   have HS:=af hS.1;have HTS:=af hS.2;clear hS
   have HM:=af (KL lg d ρ l.all Sd Sl _ HS.out HD.out hρw)
   obtain⟨κ,k,q,HK⟩:∃κ k q,Hid (l.all.mark ρ=(κ,k,q)):=⟨_,_,_,af rfl⟩
   have hmc:=l.all.zm ρ
   rw[HK.out] at HM hmc
   have HMC:=af hmc;clear hmc
   go_wp2_with (first
    |(go_at_call 152;go_must (refine HM.out.mono ?_;rintro e w2 ⟨rfl,Sd2,Sl2,hA2,hT2⟩;refine Stop.of ?_)))
   refine Stop.on ?_
   have HA2:=af hA2;have HT2:=af ((HT1.out.trans HTS.out).trans hT2);clear hA2 hT2
   rcases HMC.out with ⟨h1,h2⟩|⟨h1,h2⟩
   ·have hq:q=0:=h1
    subst hq
    have HE:=af (show l.sync σ=(κ,k,0) by unfold Lg.sync;rw[HD.out,HR.out];simp[HK.out])
    clear h1 h2
    go_wp2_with fail
    go_ret
    rw[HE.out]
    exact⟨rfl,Sd2,Sl2,HA2.out,HT2.out⟩
   ·have hq:q=10:=h1
    have hk:k=l.all.dies:=h2
    subst hq;subst hk
    have HE:=af (show l.sync σ=(κ,l.dies,10) by unfold Lg.sync;rw[HD.out,HR.out];simp[HK.out])
    obtain⟨lv2,_,_,_,_,_,_,_,e7,_,hlt2,hfz2⟩:=HA2.out.cells
    have hg7:=hfz2 7
    have hS2:=HA2.out.set (l':=l.dies) 7 (.int .i64 l.synced) (by omega) hok.dies rfl (fun e=>by cases e) ⟨rfl,rfl⟩ (fun _=>rfl)
    have HS2:=af hS2;clear hS2 h1 h2
    go_wp2_with fail
    go_ret
    rw[HE.out]
    exact⟨rfl,Sd2,Sl2,HS2.out.1,HT2.out.trans HS2.out.2⟩
  ·have hr':(r !=0)=true:=by simpa using hr
   have HE:=af (show l.sync σ=(ρ,l.dies,10) by unfold Lg.sync;rw[HD.out,HR.out];simp[hr])
   have HFB:=af (sF lg d l Sl r w1 HA1.out.lg hr)
   go_wp2_with (first
    |(go_at_call 160;go_must (refine HFB.out.mono ?_;rintro e w7 ⟨rfl,hL7,hs7⟩)))
   go_ret
   rw[HE.out]
   have hA7:=HA1.out.log hL7 hs7 ⟨rfl,rfl⟩
   exact⟨rfl,Sd,Sl,hA7.1,HT1.out.trans hA7.2⟩
theorem Gu:(Tryz.prog.info? 296).map (fun i=>i.size)=some 2:=by kernel_rfl
theorem Ew:(Tryz.prog.info? 296).map (fun i=>(i.zero,i.size,i.bytes))=some (some (.agg #[.int .i64 0,.int .i64 0]),2,16):=by kernel_rfl
theorem FD:((Tryz.prog.info? 296).bind (·.zero)).isSome=true:=by kernel_rfl
theorem zR {l:Lg}{ss:List ByteArray}(h:l.bad (iT ss)=0):l.dead=false/\0<ss.length/\ss.length<=1024/\(∀s∈ss,s.size<=600)/\bN (iT ss)<=l.room:=by
 unfold Lg.bad at h
 have hl:(iT ss).length=ss.length:=by unfold iT;exact jc _
 rw[hl] at h
 split at h
 ·cases h
 ·rename_i h1
  split at h
  ·cases h
  ·rename_i h2
   split at h
   ·cases h
   ·rename_i h3
    split at h
    ·cases h
    ·rename_i h4
     refine⟨by simpa using h1,by omega,by omega,fun s hs=> ?_,by omega⟩
     have h3':(iT ss).any (fun r=>decide (600<r.length))=false:=by simpa using h3
     have:=List.any_eq_false.1 h3' s.data.toList (gV.2 ⟨s,hs,rfl⟩)
     simp only[dB,oU] at this
     exact aV.1 this
theorem Ba {ss:List ByteArray}(h:∀s∈ss,s.size<=600):gF ss<=ss.length*604:=by
 induction ss with
 |nil=>simp[gF]
 |cons s ss ih=>
  have h1:=ih (fun x hx=>h x (aT _ hx))
  have h2:=h s (aP ..)
  have e:gF (s::ss)=4+s.size+gF ss:=by simp[gF]
  rw[e,aU]
  omega
theorem Qg (lg d:Nat)(l:Lg)(S S':Nat->Prop)(v:Value)(ss:List ByteArray)(w:World)(h:qd w S lg d l)(hv:oM w S' v ss)(hb:l.bad (iT ss)=0):
  Calls Tryz.prog 156 #[.pointer (some ⟨lg,0,none⟩),v] w fun e w'=>e= .returned (.int .i64 0)/\Below w.heap.size w w':=by
 obtain⟨b1,b2,b3,b4,b5⟩:=zR hb
 have hls:=Ba b4
 have HN:=af (KJ v ss S' w hv (by omega))
 have HR:=af (Po lg d l S w h)
 obtain⟨lv,dn,c,hL⟩:=h
 obtain⟨_,_,_,_,_,_,_,_,c8,hlt,_⟩:=hL.cells
 rw[b1] at c8
 obtain⟨vo,vc,rfl,v1,v2,v3,v4⟩:=aW.form hv
 have HV:=af hv;clear hv hL
 have hn0:((ss.length:Int)==0)=false:=eO.2 (by omega)
 have hn1:¬((1024:Int)<(ss.length:Int)):=by omega
 have hn2:decide ((1024:Int)<(ss.length:Int))=false:=bH hn1
 have hn3:ss.isEmpty=false:=by cases ss with|nil=>simp at b2|cons a b=>rfl
 have hn4:decide (1024<ss.length)=false:=bH (by omega)
 have hn5:¬ss=[]:=by rintro rfl;simp at b2
 have HB4:=af b4
 have hnr:¬((l.room:Int)<(bN (iT ss):Int)):=by omega
 have hnr2:decide ((l.room:Int)<(bN (iT ss):Int))=false:=bH hnr
 clear hb b4
 go_enter Tryz.func156,Tryz.ntmps156
 go_wp2_with fail
 go_loop [26] (fun i=>∃k:Nat,k<=ss.length/\i= .int .i64 k) (fun i=>ss.length - (intOf i).toNat)
 case atStart=>exact⟨0,aN _,rfl⟩
 case round=>
  obtain⟨k,hk,rfl⟩:=hrel
  by_cases hlt2:k<ss.length
  ·have hltI:(k:Int)<(ss.length:Int):=by omega
   obtain⟨b,o,rfl,hc⟩:=oM.at HV.out rfl k hlt2
   have hsz:¬((600:Int)<(ss[k].size:Int)):=by have:=HB4.out _ (bI hlt2);omega
   go_wp2_with fail
   go_round
   case rel=>exact⟨k+1,by omega,by go_num⟩
   case measure=>simp[intOf];omega
  ·obtain rfl:k=ss.length:=by omega
   go_wp2_with (first
    |(go_at_call 97;go_must (refine HN.out.mono ?_;rintro e w1 ⟨rfl,hw1⟩;subst w1))
    |(go_at_call 98;go_must (refine HR.out.mono ?_;rintro e w1 ⟨rfl,hw1⟩;subst w1)))
   go_ret
   exact⟨rfl,(aH _ _).drew⟩
theorem GN (ss:List ByteArray)(k:Nat)(hk:k<ss.length):ng (iT (ss.take (k+1)))=(ng (iT (ss.take k))++leB ss[k].size 4)++ss[k].data.toList:=by
 unfold ng iT
 rw[aM hk,eP,vX,bC]
 simp
theorem Br (ss:List ByteArray):(ng (iT ss)).length=gF ss:=by rw[vP,sP]
theorem Lg.qj (l:Lg)(b:List UInt8)(k i:Nat)(σ:Dk):l.oq b (k+1) i σ=(if (σ.write (l.ring (l.start+l.used+i)) ((b.drop (i*512)).take 512)).2=0 then l.oq b k (i+1) (σ.write (l.ring (l.start+l.used+i)) ((b.drop (i*512)).take 512)).1 else((σ.write (l.ring (l.start+l.used+i)) ((b.drop (i*512)).take 512)).1,10)):=rfl
theorem Dk.xB (σ:Dk)(i:Int)(x:List UInt8):(σ.write i x).1.waits.length<=σ.waits.length+1:=by
 have h1:=σ.bM.2.2
 unfold Dk.write
 split
 ·exact nM _
 ·split
  ·exact nM _
  ·split
   ·exact nM _
   ·split
    ·rw[h1];exact nM _
    ·simp[Dk.put,h1]
theorem Lg.Ok.more {l:Lg}(h:l.Ok){ss:List ByteArray}(hb:l.bad (iT ss)=0)(hl:l.last<1000000000000):(l.more (iT ss)).Ok:=by
 obtain⟨b1,b2,b3,b4,b5⟩:=zR hb
 have hu:=h.us
 refine⟨h.n2,h.hi,h.st,?_,?_,P8 h.sy,?_,?_⟩
 ·show l.used+bN (iT ss)<=l.n - 1
  unfold Lg.room at b5
  omega
 ·show l.last+1<=_
  omega
 ·intro e he
  rcases dG.1 he with he|he
  ·have:=h.ent e he
   exact⟨this.1,P8 this.2⟩
  ·rw[bO.1 he]
   refine⟨?_,aA _⟩
   show 1<=bN (iT ss)
   unfold bN
   omega
 ·show ((l.list++[(l.last+1,bN (iT ss))]).map (fun e:Nat×Nat=>e.2)).sum=l.used+bN (iT ss)
  rw[eP,pQ,h.sum]
  simp
theorem aQ.lower {w:World}{S:Nat->Prop}{B B' e k n:Nat}{v:Value}{xs:List Value}(h:aQ w S B' e k v n xs)(hB:B<=B'):aQ w S B e k v n xs:=by
 refine⟨⟨h.1.1,?_⟩,h.2⟩
 rcases h.1.2 with h0|⟨g,cap,cur,q1,q2,q3⟩
 ·exact .inl h0
 ·exact .inr ⟨g,cap,cur,q1,aG hB q2,q3⟩
theorem aQ.less {w:World}{S S':Nat->Prop}{B e k n:Nat}{v:Value}{xs:List Value}(h:aQ w S B e k v n xs)(hS:∀g,S' g->S g):aQ w S' B e k v n xs:=⟨h.1,fun g hg hs=>h.2 g hg (hS g hs)⟩
theorem aW.mid {w:World}{S:Nat->Prop}{g n c lo hi:Nat}{B:List UInt8}(h:aW w S 1 (.slice (some ⟨g,0,none⟩) n c) n (aB B))(h1:lo<=hi)(h2:hi<=n)(h3:¬c=lo):aW w S 1 (.slice (some ⟨g,lo,none⟩) (hi - lo) (c - lo)) (hi - lo) (aB ((B.take hi).drop lo)):=by
 have:=(h.upto hi h2).after lo h1
 rw[if_neg h3] at this
 simp only[kN,ig,iA,iN] at this
 have e:List.drop lo (List.take hi (aB B))=aB ((B.take hi).drop lo):=by simp[aB,jR,mP]
 rwa [e] at this
theorem MN (B:List UInt8)(N lo h0 hi:Nat)(hN:B.length=N)(h1:h0=lo+512)(h2:hi=min h0 N)(h3:lo<N):(B.take hi).drop lo=(B.drop lo).take 512/\((B.drop lo).take 512).length=hi - lo:=by
 have e:(B.drop lo).length=N - lo:=by rw[bB,hN]
 refine⟨?_,by rw[aL,e];omega⟩
 rw[xU,List.take_eq_take_iff,e]
 omega
theorem GZ (lg d:Nat)(σ:Dk)(l:Lg)(Sd Sl:Nat->Prop)(v:Value)(ss:List ByteArray)(w:World)(h:iy w Sd Sl lg d σ l)(hv:oM w (fun g=>Sd g\/Sl g) v ss)(hb:l.bad (iT ss)=0)(hcap:σ.waits.length<=90000)(hll:l.last<1000000000000):
  Calls Tryz.prog 100 #[.pointer (some ⟨lg,0,none⟩),v] w fun e w'=>e= .returned (.tuple #[.int .i64 (l.append σ (iT ss)).2.2.1,.int .i64 (l.append σ (iT ss)).2.2.2])/\
   ∃Sd' Sl',iy w' Sd' Sl' lg d (l.append σ (iT ss)).1 (l.append σ (iT ss)).2.1/\Two Sd Sl Sd' Sl' w w':=by
 obtain⟨b1,b2,b3,b4,b5⟩:=zR hb
 have hls:=Ba b4
 have HC:=af (Qg lg d l Sl _ v ss w h.lg hv hb)
 have HB4:=af b4;have HBB:=af hb
 clear b4 hb
 obtain⟨vo,vc,rfl,v1,v2,v3,v4⟩:=aW.form hv
 have HH:=af h;have HV:=af hv
 clear h hv
 go_enter Tryz.func100,Tryz.ntmps100
 go_wp2_with (first
  |(go_at_call 156;go_must (refine HC.out.mono ?_;rintro e w1 ⟨rfl,hb1⟩;refine Stop.of ?_)))
 refine Stop.on ?_
 have HH1:=af (HH.out.below hb1)
 have HV1:=af (HV.out.below hb1)
 have HB1:=af hb1;clear hb1
 go_wp2_with fail
 go_loopw [7,22] (fun b i wr=>∃(k:Nat) (ao:Option Addr) (c:Nat),k<=ss.length/\i= .int .i64 k/\b= .slice ao (ng (iT (ss.take k))).length c/\Hid (aQ wr d9 w1.heap.size 5 1 b (ng (iT (ss.take k))).length (aB (ng (iT (ss.take k)))))/\Hid (Below w1.heap.size w1 wr)) (fun _ i _=>ss.length - (intOf i).toNat)
 case atStart=>exact⟨0,none,0,aN _,rfl,rfl,af (aQ.nil _ _ _ _ _),af (aH _ _)⟩
 case round=>
  obtain⟨k,ao,c,hk,rfl,rfl,HO,HBl⟩:=hrel
  by_cases hlt:k<ss.length
  ·have hltI:(k:Int)<(ss.length:Int):=by omega
   have hsz:=HB4.out _ (bI hlt)
   obtain⟨b,o,rfl,hc⟩:=oM.at (aW.below HV1.out HBl.out) rfl k hlt
   have hws:=gQ ss[k].size (by omega)
   have hbl:(ng (iT (ss.take k))).length<=1000000:=by rw[Br];have:=A9 ss k;omega
   have HP:=af (I8 _ (ng (iT (ss.take k))) ss[k].size 4 w1.heap.size wr HO.out HBl.out.size (by omega) (by omega) (by omega))
   have HS:=af (GN ss k hlt)
   generalize ng (iT (ss.take k))=X at*
   have hX4:(X++leB ss[k].size 4).length=X.length+4:=by rw[ay,dK]
   generalize X++leB ss[k].size 4=Y at*
   have HY:=af hX4
   have hyl:Y.length<=1000004:=by omega
   clear hX4
   go_wp2_with (first
    |(go_at_call 157;go_must (refine HP.out.mono ?_;rintro e w2 ⟨v2',rfl,hown2,hb2⟩;obtain⟨ao2,c2,rfl,_,_,_,_⟩:=aW.form hown2.dL;have HO2:=af hown2;have HB2:=af (HBl.out.trans hb2);clear hown2 hb2;have hsz2:=HB2.out.size))
    |(at_builtin;go_must ((refine dS rfl (.tmp 30) (.tmp 31) 154 9 rfl d9 w1.heap.size 5 1 1 (.int .u8 0) aO iJ rfl (.slice ao2 Y.length c2) _ _ rfl HO2.out (.string ss[k]) _ _ rfl (GY _ bf _) (fun _ h=>h.elim) ?_ ?_ ?_ ?_);(focus (exact hsz2));(focus (unfold maxLen;omega));(focus omega);intro ao3 c3 w3 hown3 hk3 hb3 hd3)))
   have HO3:=af hown3;have HB3:=af (HB2.out.trans hb3);clear hown3 hk3 hb3 hd3
   have HL:=af (show Y.length+ss[k].size=(ng (iT (ss.take (k+1)))).length by rw[HS.out,ay];rfl)
   go_roundw
   case rel=>
    refine⟨k+1,ao3,c3,by omega,by go_num,by rw[HL.out],af ?_,HB3⟩
    rw[<-HL.out,HS.out,eB]
    exact HO3.out
   case measure=>simp[intOf];omega
  ·obtain rfl:k=ss.length:=by omega
   rw[bW] at HO ⊢
   have hXl:=Br ss
   obtain⟨X,HX⟩:∃X,Hid (ng (iT ss)=X):=⟨_,af rfl⟩
   rw[HX.out] at HO hXl ⊢
   have hXb:X.length<=1000000:=by omega
   have HXl:=af hXl;clear hXl
   have hlg1:=HH1.out.lg
   have hok:=hlg1.ok
   obtain⟨lv,dn,c0,hL1⟩:=hlg1
   obtain⟨_,_,_,_,_,_,d6,_,_,hlt1,_⟩:=hL1.cells
   have hla:=hok.la
   obtain⟨x10,H10⟩:∃x,Hid (16+X.length=x):=⟨_,af rfl⟩
   obtain⟨x11,H11⟩:∃x,Hid (l.last+1=x):=⟨_,af rfl⟩
   obtain⟨x12,H12⟩:∃x,Hid (Dl X=x):=⟨_,af rfl⟩
   have l10:x10<18446744073709551616:=by rw[<-H10.out];omega
   have l11:x11<18446744073709551616:=by rw[<-H11.out];omega
   have l12:x12<4294967296:=by rw[<-H12.out];exact G8 _
   have q10:IntKind.u64.wrap (16+(X.length:Int))=(x10:Int):=by
    have:=gQ x10 l10
    rw[<-H10.out] at this ⊢
    rw[<-this];congr 1
   have q11:IntKind.u64.wrap ((l.last:Int)+1)=(x11:Int):=by
    have:=gQ x11 l11
    rw[<-H11.out] at this ⊢
    rw[<-this];congr 1
   have q12:=gQ x12 (by omega)
   have d6r:wr.cell? ⟨lg,6,none⟩=some (.int .i64 l.last):=(HBl.out.cell (p:=⟨lg,6,none⟩) hlt1).trans d6
   have hltr:lg<wr.heap.size:=ax hlt1 HBl.out.size
   have hlgr:lg<wr.heap.size:=hltr
   have HP1:=af (I8 (.slice none 0 0) [] x10 4 wr.heap.size wr (aQ.nil _ _ _ _ _) (aA _) l10 (by omega) (by simp))
   simp only[mG] at HP1
   go_wp2_with (first
    |(go_at_call 157;go_must (refine HP1.out.mono ?_;rintro e w2 ⟨b2',rfl,ho2,hb2⟩;refine Stop.of ?_)))
   refine Stop.on ?_
   have d62:w2.cell? ⟨lg,6,none⟩=some (.int .i64 l.last):=(hb2.cell (p:=⟨lg,6,none⟩) hltr).trans d6r
   have hlt2:lg<w2.heap.size:=ax hltr hb2.size
   have HP2:=af (I8 b2' (leB x10 4) x11 8 wr.heap.size w2 ho2 hb2.size l11 (by omega) (by rw[dK];omega))
   have HB2:=af hb2
   clear ho2 hb2
   go_wp2_with (first
    |(go_at_call 157;go_must (refine HP2.out.mono ?_;rintro e w3 ⟨b3',rfl,ho3,hb3⟩;refine Stop.of ?_)))
   refine Stop.on ?_
   have hbr3:=HB2.out.trans hb3
   have HL3:=af ((hL1.keep (Keep.mQ HBl.out) (fun g hg=>jk.2 (hL1.sub g hg))).keep (Keep.mQ hbr3) (fun g hg=>jk.2 (ax (hL1.sub g hg) HBl.out.size)))
   have hX3:aQ w3 (fun g=>g=lg) w1.heap.size 5 1 (.slice ao X.length c) X.length (aB X):=(HO.out.keep (w':=w3) (S':=d9) fun g hg hl hs=>⟨hbr3.block g hl,hs⟩).other (fun g hg e=>by omega)
   have hsm:=G7 (iY d l lv) [] lg 9 288 dn c0 (.slice ao X.length c) X (fun g=>g=lg) w3 rfl HL3.out.row hX3.dL rfl
   rw[show tZ X=(x12:Int) by rw[zK,H12.out]] at hsm
   have HSm:=af hsm;clear hsm
   have HX3:=af hX3
   have HO3:=af ho3
   have HBR3:=af hbr3
   clear hX3 ho3 hbr3 hb3 d6 d6r d62
   go_wp2_with (first
    |(go_at_call 158;go_must (refine HSm.out.mono ?_;rintro e w4 ⟨rfl,c',hr4,hk4⟩;refine Stop.of ?_)))
   refine Stop.on ?_
   have HL4:=af (HL3.out.table hr4 hk4)
   have HX4:=af (HX3.out.keep (w':=w4) (S':=d9) fun g hg hl hs=>⟨hk4.block g hl hs,id⟩)
   have ho4:aQ w4 d9 wr.heap.size 5 1 b3' (leB x10 4++leB x11 8).length (aB (leB x10 4++leB x11 8)):=HO3.out.keep fun g hg hl hs=>⟨hk4.block g hl (fun e=>by have:=(HO3.out.1.lt g hg).1;omega),hs⟩
   have hsz4:wr.heap.size<=w4.heap.size:=aG HBR3.out.size hk4.size
   have HP4:=af (I8 b3' (leB x10 4++leB x11 8) x12 4 wr.heap.size w4 ho4 hsz4 (by omega) (by omega) (by simp[dK]))
   have HK4:=af hk4
   clear hr4 hk4 ho4
   go_wp2_with (first
    |(go_at_call 157;go_must (refine HP4.out.mono ?_;rintro e w5 ⟨b5',rfl,ho5,hb5⟩;refine Stop.of ?_)))
   refine Stop.on ?_
   obtain⟨ao5,c5,rfl,_,_,_,_⟩:=aW.form ho5.dL
   have hX5:aQ w5 d9 w1.heap.size 5 1 (.slice ao X.length c) X.length (aB X):=HX4.out.keep fun g hg hl hs=>⟨hb5.block g (by have:=(HO.out.1.lt g hg).2;omega),hs⟩
   have hsrc:=hX5.dL.src (P:=Tryz.prog) aO (fq _)
   have hH:(leB x10 4++leB x11 8++leB x12 4).length=16:=by simp[dK]
   have hsz5:wr.heap.size<=w5.heap.size:=aG hsz4 hb5.size
   have HBB5:=af hb5
   clear hb5 hX5
   obtain⟨H,hHe⟩:∃H,H=leB x10 4++leB x11 8++leB x12 4:=⟨_,rfl⟩
   rw[<-hHe] at ho5 hH ⊢
   have HHe:=af hHe;clear hHe
   rw[hH] at ho5 ⊢
   have HHl:=af hH;clear hH
   go_wp2_with (at_builtin;go_must ((refine dS rfl (.tmp 55) (.tmp 56) 154 154 rfl d9 wr.heap.size 5 1 1 (.int .u8 0) aO iJ rfl (.slice ao5 16 c5) 16 (aB H) rfl ho5 (.slice ao X.length c) X.length (aB X) rfl hsrc (fun _ h=>h.elim) ?_ ?_ ?_ ?_);(focus (exact hsz5));(focus (unfold maxLen;omega));(focus omega);intro ao6 c6 w6 hown6 hk6 hb6 hd6;refine Stop.of ?_))
   refine Stop.on ?_
   rw[<-eB] at hown6
   have hBt:H++X=nG (l.last+1) (iT ss):=by
    rw[HHe.out,<-H10.out,<-H11.out,<-H12.out,<-HX.out]
    rfl
   have hBl:(H++X).length=16+X.length:=by rw[ay,HHl.out]
   have hkk:Keep (fun g=>Sl g\/w1.heap.size<=g) w w6:=by
    have a1:=Keep.of_below HB1.out (fun g=>Sl g\/w1.heap.size<=g)
    have a2:=a1.trans (Keep.mQ HBl.out) (fun _ _ e=> .inr e)
    have a3:=a2.trans (Keep.mQ HBR3.out) (fun _ _ e=> .inr (aG HBl.out.size e))
    have a4:=a3.trans HK4.out (fun _ _ e=> .inl (e▸hL1.sl))
    have a5:=a4.trans (Keep.mQ HBB5.out) (fun _ _ e=> .inr (aG HBl.out.size e))
    exact a5.trans (Keep.mQ hb6) (fun _ _ e=> .inr (aG HBl.out.size e))
   have hhi:∀g,g<w.heap.size->¬w1.heap.size<=g:=fun g hg=>by have:=HB1.out.size;omega
   have hlo:∀g,(Sd g\/Sl g)->g<w.heap.size:=fun g hg=>hg.elim (HH.out.dk.sub g) (HH.out.lg.sub g)
   have hL6:=(HL4.out.keep (Keep.mQ HBB5.out) (fun g hg=>jk.2 (by have:=hlo g (.inr hg);have:=HB1.out.size;have:=HBl.out.size;omega))).keep (Keep.mQ hb6) (fun g hg=>jk.2 (by have:=hlo g (.inr hg);have:=HB1.out.size;have:=HBl.out.size;omega))
   have hA6:iy w6 Sd Sl lg d σ l:=⟨HH.out.dk.keep hkk (fun g hg e=>e.elim (HH.out.dis g hg) (hhi g (hlo g (.inl hg)))),⟨_,_,_,hL6⟩,HH.out.dis,HH.out.fit⟩
   have hT6:Two Sd Sl Sd Sl w w6:=⟨⟨hkk.os,hkk.tape,hkk.output,hkk.size,fun g hg hn=>hkk.block g hg (fun e=>e.elim (fun x=>hn (.inr x)) (hhi g hg))⟩,fun _ hg=> .inl hg⟩
   have hV6:oM w6 d9 (.slice vo ss.length vc) ss:=HV.out.keep fun g hg hl hs=>⟨hkk.block g hl (fun e=>e.elim (fun x=>hs (.inr x)) (hhi g hl)),id⟩
   have HN:=af (KJ _ ss d9 w6 hV6 (by omega))
   obtain⟨nd,Hnd⟩:∃nd,Hid (bN (iT ss)=nd):=⟨_,af rfl⟩
   rw[Hnd.out] at HN b5
   have hnd:nd*512<16+X.length+512:=by
    rw[<-Hnd.out];unfold bN;rw[sP,<-HXl.out];omega
   have hokr:=HH.out.lg.ok
   have hndl:nd<=4096:=by have:=hokr.hi;unfold Lg.room at b5;omega
   have HA6:=af hA6;have HT6:=af hT6
   have HO6:=af (hown6.other (S':=fun g=>Sd g\/Sl g) (fun g hg hs=>hhi g (hlo g hs) (aG HBl.out.size hg)))
   clear hA6 hT6 hV6 hkk hL6 hown6 hk6 hb6 hd6 hsrc ho5 hL1 hlt1 hltr hlgr hlt2 hsz4 hsz5 q10 q11 q12
   clear HX3 HX4 HO3 HL3 HL4 HP1 HP2 HP4 HSm HBR3 HBB5 HB2 HK4
   have HBt:=af hBt;clear hBt
   generalize H++X=B at HBt HO6 hBl
   go_wp2_with (first
    |(go_at_call 97;go_must (refine HN.out.mono ?_;rintro e w7 ⟨rfl,hw7⟩;subst w7)))
   obtain⟨N,HNe⟩:∃N,Hid (16+X.length=N):=⟨_,af rfl⟩
   rw[HNe.out] at HO6 hBl hnd ⊢
   have hNb:N<=1000016:=by rw[<-HNe.out];omega
   obtain⟨g6,rfl,hc6,hm6⟩:∃g,ao6=some ⟨g,0,none⟩/\N<=c6/\c6<=9223372036854775807:=by
    obtain⟨⟨_,hr⟩,_⟩:=HO6.out
    rcases hr with ⟨_,h0⟩|⟨g,cap,cur,hv,_,_,h1,h2,_⟩
    ·rw[<-HNe.out] at h0;omega
    ·cases hv;exact⟨g,rfl,h1,by simpa [maxLen] using h2⟩
   have HBl':=af hBl;clear hBl
   go_loopw [61] (fun i wr=>∃(k:Nat) (Sd':Nat->Prop) (τ:Dk),k<=nd/\i= .int .i64 k/\Hid (iy wr Sd' Sl lg d τ l)/\Hid (Two Sd Sl Sd' Sl w wr)/\Hid (τ.waits.length<=σ.waits.length+k)/\Hid (l.oq B nd 0 σ=l.oq B (nd - k) k τ)/\
    Hid (aQ wr (fun g=>Sd' g\/Sl g) 0 5 1 (.slice (some ⟨g6,0,none⟩) N c6) N (aB B))) (fun i _=>nd - (intOf i).toNat)
   case atStart=>exact⟨0,Sd,σ,aN _,rfl,HA6,HT6,af (aA _),af rfl,af (HO6.out.lower (aN _))⟩
   case round=>
    obtain⟨k,Sd',τ,hk,rfl,HA,HT,HW,HSp,HO⟩:=hrel
    obtain⟨lv,e0,e1,e2,e3,e4,e5,e6,e7,e8,hltw,hfz⟩:=HA.out.cells
    by_cases hlt:k<nd
    ·have hltI:(k:Int)<(nd:Int):=by omega
     have hl2:=hokr.st;have hl3:=hokr.us;have hl4:=hokr.hi
     obtain⟨y,HY⟩:∃y,Hid (l.start+l.used=y):=⟨_,af rfl⟩
     obtain⟨z,HZ⟩:∃z,Hid (l.start+l.used+k=z):=⟨_,af rfl⟩
     have a1:IntKind.i64.wrap ((l.start:Int)+(l.used:Int))=(y:Int):=by rw[aS _ (by omega),<-HY.out];omega
     have a2:IntKind.i64.wrap ((y:Int)+(k:Int))=(z:Int):=by rw[<-HY.out,<-HZ.out,aS _ (by omega)];omega
     obtain⟨lo,HLo⟩:∃lo,Hid (k*512=lo):=⟨_,af rfl⟩
     obtain⟨h0,HH0⟩:∃h0,Hid ((k+1)*512=h0):=⟨_,af rfl⟩
     obtain⟨hi,HHi⟩:∃hi,Hid (min h0 N=hi):=⟨_,af rfl⟩
     have b1':IntKind.i64.wrap ((k:Int)*512)=(lo:Int):=by rw[<-HLo.out,aS _ (by omega)];omega
     have b2':IntKind.i64.wrap (((k:Int)+1)*512)=(h0:Int):=by rw[<-HH0.out,aS _ (by omega)];omega
     have b3':IntKind.i64.wrap ((k:Int)+1)=(k:Int)+1:=aS _ (by omega)
     have hmn:∀w,(Builtin.min_ #[3,3] 3 #[.int .i64 (h0:Int),.int .i64 (N:Int)]).run Tryz.prog w= .ok (.int .i64 (hi:Int)) w:=fun w=>by
      rw[run_min_int2,<-HHi.out]
      congr 2
      split<;>omega
     have f1:lo<N:=by have:=HLo.out;omega
     have f2:lo<=hi:=by have:=HLo.out;have:=HH0.out;have:=HHi.out;omega
     have f3:hi<=c6:=by have:=HHi.out;omega
     have f4:¬c6=lo:=by omega
     have f5:(lo:Int)<=(hi:Int):=by omega
     have f6:(hi:Int)<=(c6:Int):=by omega
     have HRg:=af (RV lg d l Sl z wr.drew (HA.out.lg.keep (Keep.of_below ((aH _ wr).drew) d9) (fun _ _ e=>e)))
     go_wp2_with fail
     refine aK (fun W=>W.cell? ⟨lg,0,none⟩=some (.pointer (some ⟨d,0,none⟩))/\W.cell? ⟨lg,3,none⟩=some (.int .i64 l.start)/\W.cell? ⟨lg,4,none⟩=some (.int .i64 l.used)/\lg<W.heap.size) (fun i=> !([16,27].contains i)) [0,1,2,3,4,5,6,7,8,9,10,11,12,13,14,15,17,18,19,20,21,22,23,24,25,26,16,27,28] rfl (by kernel_rfl) ⟨e0,e3,e4,hltw⟩ ?_
     repeat ((refine bq (v:= ?_) rfl rfl (fun _ _ _ h=>h) rfl (fun W hW=> ?_) ?_);rotate_left;(focus ((try dsimp only at hW);have r0:=hW.1;have r1:=hW.2.1;have r2:=hW.2.2.1;have r3:=hW.2.2.2;(go_simp;first|done|with_reducible rfl)));(try simp only[Act.put,aj,av,au]))
     refine bP rfl rfl rfl ?_;intro K hK;go_simp
     refine HRg.out.mono ?_;rintro e w8 ⟨rfl,hw8⟩;subst w8
     refine hK.out _ _ ⟨e0,e3,e4,hltw⟩ ?_
     refine bP rfl rfl rfl ?_;intro K hK;go_simp
     obtain⟨q1,q2⟩:=MN B N lo h0 hi HBl'.out (by have:=HLo.out;have:=HH0.out;omega) HHi.out.symm f1
     have hsl:aW wr.drew.drew Sd' 1 (.slice (some ⟨g6,lo,none⟩) (hi - lo) (c6 - lo)) ((B.drop lo).take 512).length (aB ((B.drop lo).take 512)):=by
      have h0':=(HO.out.less (S':=Sd') (fun g hs=> .inl hs)).dL.mid f2 (by have:=HHi.out;omega) f4
      rw[q1] at h0'
      rw[q2]
      exact h0'.below ((aH _ _).drew.drew)
     have HWr:=af (Cs d τ Sd' (l.ring z:Int) _ ((B.drop lo).take 512) wr.drew.drew (HA.out.dk.below ((aH _ _).drew.drew)) hsl (by have:=HW.out;omega))
     obtain⟨ρ,q,HQ⟩:∃ρ q,Hid (τ.write (l.ring z:Int) ((B.drop lo).take 512)=(ρ,q)):=⟨_,_,af rfl⟩
     have HQn:=af (show ρ.n=τ.n by have:=τ.nQ (l.ring z:Int) ((B.drop lo).take 512);rw[HQ.out] at this;exact this)
     have HQw:=af (show ρ.waits.length<=σ.waits.length+(k+1) by have:=τ.xB (l.ring z:Int) ((B.drop lo).take 512);rw[HQ.out] at this;have h2:=HW.out;have:ρ.waits.length<=τ.waits.length+1:=this;omega)
     rw[HQ.out] at HWr
     clear hsl q1 q2
     refine HWr.out.mono ?_;rintro e w9 ⟨rfl,Sd9,hD9,hs9⟩
     have hA9:=HA.out.disk hD9 ((Step.of_below ((aH _ wr).drew.drew)).trans hs9) HQn.out
     have HA9:=af hA9.1;have HT9:=af (HT.out.trans hA9.2)
     have HO9:=af (HO.out.step hA9.2)
     obtain⟨lv9,j0,_,_,j3,j4,_,_,_,_,hlt9,_⟩:=hA9.1.cells
     clear hA9 hD9 hs9 e0 e1 e2 e3 e4 e5 e6 e7 e8 hltw
     refine hK.out _ _ ⟨j0,j3,j4,hlt9⟩ ?_
     repeat ((refine bq (v:= ?_) rfl rfl (fun _ _ _ h=>h) rfl (fun W hW=> ?_) ?_);rotate_left;(focus ((try dsimp only at hW);have r0:=hW.1;(go_simp;first|done|with_reducible rfl)));(try simp only[Act.put,aj,av,au]))
     refine bF ?_
     have hsp:l.oq B (nd - k) k τ=if q=0 then l.oq B (nd - (k+1)) (k+1) ρ else(ρ,10):=by
      obtain⟨m,hm⟩:∃m,nd - k=m+1:=⟨nd - k - 1,by omega⟩
      rw[hm,l.qj,HZ.out,HLo.out,HQ.out]
      simp only[show nd - (k+1)=m by omega]
     by_cases hq:q=0
     ·subst hq
      rw[if_pos rfl] at hsp
      have HSp9:=af (HSp.out.trans hsp)
      clear hsp
      go_wp2_with fail
      go_roundw
      case rel=>exact⟨k+1,Sd9,ρ,by omega,by go_num,HA9,HT9,HQw,HSp9,HO9⟩
      case measure=>simp[intOf];omega
     ·rw[if_neg hq] at hsp
      have hq':(q !=0)=true:=by simpa using hq
      have HM:=af (show l.append σ (iT ss)=(ρ,l.dies,0,10) by
       unfold Lg.append
       rw[HBB.out,Hnd.out,<-HBt.out,HSp.out,hsp]
       simp)
      have HFB:=af (sF lg d l Sl q w9 HA9.out.lg hq)
      clear hsp
      go_wp2_with (first
       |(go_at_call 160;go_must (refine HFB.out.mono ?_;rintro e w10 ⟨rfl,hL10,hs10⟩)))
      go_ret2
      rw[HM.out]
      have hA10:=HA9.out.log hL10 hs10 ⟨rfl,rfl⟩
      exact⟨rfl,Sd9,Sl,hA10.1,HT9.out.trans hA10.2⟩
    ·obtain rfl:k=nd:=by omega
     rw[jN] at HSp
     have HM:=af (show l.append σ (iT ss)=(τ,l.more (iT ss),l.last+1,0) by
      unfold Lg.append
      rw[HBB.out,Hnd.out,<-HBt.out,HSp.out]
      simp[Lg.oq])
     obtain⟨lv1,dn1,c1',hL⟩:=HA.out.lg
     have hr0:=hL.row
     have hr1:=hr0.setCell 6 (.int .i64 ((l.last+1:Nat):Int))
     have hr2:=hr1.setCell 4 (.int .i64 ((l.used+k:Nat):Int))
     obtain⟨l2,HL2⟩:∃l2:Lg,Hid (l2={l with last:=l.last+1,used:=l.used+k}):=⟨_,af rfl⟩
     have hrw:(((iC (iY d l lv1) dn1 c1' []).set 6 (.int .i64 ((l.last+1:Nat):Int))).set 4 (.int .i64 ((l.used+k:Nat):Int)))=iC (iY d l2 lv1) dn1 c1' []:=by rw[HL2.out];rfl
     rw[hrw] at hr2
     clear hrw hr0 hr1
     obtain⟨e0,e1,e2,e3,e4,e5,e6,e7,e8,hltw,hfz⟩:=hL.cells
     obtain⟨x6,HX6⟩:∃x6:Nat,Hid (l.last+1=x6):=⟨_,af rfl⟩
     obtain⟨x4,HX4'⟩:∃x4:Nat,Hid (l.used+k=x4):=⟨_,af rfl⟩
     rw[HX6.out,HX4'.out] at hr2
     have g6':IntKind.i64.wrap ((l.last:Int)+1)=(x6:Int):=by rw[<-HX6.out,aS _ (by omega)];omega
     have hl3:=hokr.us;have hl4:=hokr.hi
     have g4':IntKind.i64.wrap ((l.used:Int)+(k:Int))=(x4:Int):=by rw[<-HX4'.out,aS _ (by omega)];omega
     have z6:=hfz 6;have z4:=hfz 4
     go_wp2_with fail
     obtain⟨w10,Hw10⟩:∃w10:World,Hid (((wr.setCell ⟨lg,6,none⟩ (.int .i64 x6)).setCell ⟨lg,4,none⟩ (.int .i64 x4))=w10):=⟨_,af rfl⟩
     have hk10:Keep (· =lg) wr w10:=by
      rw[<-Hw10.out]
      exact((Keep.refl (· =lg) wr).setCell (p:=⟨lg,6,none⟩) (.inr rfl) _).setCell (p:=⟨lg,4,none⟩) (.inr rfl) _
     rw[Hw10.out] at hr2 ⊢
     have m5:w10.cell? ⟨lg,5,none⟩=some lv1:=hr2.cell 5
     have m6:w10.cell? ⟨lg,6,none⟩=some (.int .i64 x6):=(hr2.cell 6).trans (by rw[HL2.out,<-HX6.out];rfl)
     have hlt10:=hr2.lt
     have hlv:∀g,lv1.ownBlock=some g->g≠lg:=fun g hg=>(hL.slv b1 g hg).2
     have hof10:=(hL.lst b1).keep (w':=w10) (fun g hg=>hk10.block g ((hL.lst b1).lt hg) (hlv g hg))
     have HLL:=af hL;have HR2:=af hr2;have HK10:=af hk10
     have hlen:l.list.length<=4096:=by
      have h1:=hL.ok.ent
      have h2:=hL.ok.sum
      have h3:∀(L:List (Nat×Nat)),(∀e∈L,1<=e.2/\e.1<=l.last)->L.length<=(L.map (·.2)).sum:=fun L=>by
       induction L with
       |nil=>intro _;exact aN _
       |cons e L ih=>
        intro h
        have:=ih (fun x hx=>h x (aT _ hx))
        have:=(h e (aP ..)).1
        simp only[dO,jQ,aU]
        omega
      have:=h3 l.list h1
      omega
     clear hL hr2 hk10 e0 e1 e2 e3 e4 e5 e6 e7 e8 hltw
     refine aK (fun W=>W.cell? ⟨lg,5,none⟩=some lv1/\W.cell? ⟨lg,6,none⟩=some (.int .i64 x6)/\lg<W.heap.size) (fun i=> !([11,12,15].contains i)) [0,1,2,3,4,5,6,7,8,9,10,11,12,13,14,15] rfl (by kernel_rfl) ⟨m5,m6,hlt10⟩ ?_
     repeat ((refine bq (v:= ?_) rfl rfl (fun _ _ _ h=>h) rfl (fun W hW=> ?_) ?_);rotate_left;(focus ((try dsimp only at hW);have r0:=hW.1;have r1:=hW.2.1;have r2:=hW.2.2;(go_simp;first|done|with_reducible rfl)));(try simp only[Act.put,aj,av,au]))
     have hk11:Keep d9 w10 (w10.drew.alloc (.cells [Value.int .i64 (x6:Int),Value.int .i64 (k:Int)].toArray 296)):=((Keep.refl d9 w10).drew).alloc _
     refine bP rfl rfl rfl ?_;intro K hK
     refine o7 283 296 (.tmp 123) rfl 2 [Value.int .i64 (x6:Int),Value.int .i64 (k:Int)] rfl rfl (by omega) (by omega) Tryz.underlying283 Gu FD ?_
     refine hK.out _ _ ⟨(hk11.cell hlt10 id).trans m5,(hk11.cell hlt10 id).trans m6,ax hlt10 hk11.size⟩ ?_
     have hof11:=hof10.keep (w':=(w10.drew.alloc (.cells [Value.int .i64 (x6:Int),Value.int .i64 (k:Int)].toArray 296))) (fun g hg=>hk11.block g (hof10.lt hg) id)
     have hsrc:Src Tryz.prog 2 283 (.slice (some ⟨w10.heap.size,0,none⟩) 1 1) 1 [Value.int .i64 (x6:Int),Value.int .i64 (k:Int)] (w10.drew.alloc (.cells [Value.int .i64 (x6:Int),Value.int .i64 (k:Int)].toArray 296)):=iq _ _ _ 1 1 rfl Tryz.underlying283 rfl (fun v hv=>by simp at hv;rcases hv with rfl|rfl<;>rfl)
     refine bP rfl rfl rfl ?_;intro K hK
     refine Qe (.tmp 117) (.tmp 124) 283 283 rfl 296 2 16 _ Tryz.underlying283 Ew rfl lv1 l.list.length _ rfl hof11 _ 1 _ rfl hsrc (by simp only[maxLen];omega) (by omega) ?_
     intro ao12 c12 w12 hof12 hk12 how12
     have hk02:Keep (fun g=>lv1.ownBlock=some g) w10 w12:=(hk11.mono (fun _ _ h=>h.elim)).trans hk12 (fun _ _ h=>h)
     have hn5:¬lv1.ownBlock=some lg:=fun e=>hlv lg e rfl
     refine hK.out _ _ ⟨(hk02.cell (p:=⟨lg,5,none⟩) hlt10 hn5).trans m5,(hk02.cell (p:=⟨lg,6,none⟩) hlt10 hn5).trans m6,ax hlt10 hk02.size⟩ ?_
     have hr12:Row w12 lg 288 (iC (iY d l2 lv1) dn1 c1' []):=HR2.out.keep hk02 hn5
     have hf12:=hr12.frozen 5
     have m512:w12.cell? ⟨lg,5,none⟩=some lv1:=hr12.cell 5
     have hlt12:=hr12.lt
     have hr13:=hr12.setCell 5 (.slice ao12 (l.list.length+1) c12)
     have HR13:=af hr13;have HR12:=af hr12
     have HK02:=af hk02;have HOF12:=af hof12
     have HOW:=af (show (Value.slice ao12 (l.list.length+1) c12).ownBlock=lv1.ownBlock\/∃g,(Value.slice ao12 (l.list.length+1) c12).ownBlock=some g/\w10.heap.size<=g from how12.imp id (fun ⟨g,h1,h2⟩=>⟨g,h1,aG (by simp) h2⟩))
     clear hr13 hr12 hof10 hof11 hsrc hk11 hof12 how12 hk12 hk02
     simp only[Act.put,aj,av,au]
     repeat ((refine bq (v:= ?_) rfl rfl (fun _ _ _ h=>h) rfl (fun W hW=> ?_) ?_);rotate_left;(focus ((try dsimp only at hW);have r0:=hW.1;have r1:=hW.2.1;have r2:=hW.2.2;(go_simp;first|done|with_reducible rfl)));(try simp only[Act.put,aj,av,au]))
     refine jm rfl rfl rfl (by kernel_rfl) ?_;intro K hK;go_simp
     refine hK.out _ _ ?_
     refine bF ?_
     have m6':(w12.setCell ⟨lg,5,none⟩ (.slice ao12 (l.list.length+1) c12)).cell? ⟨lg,6,none⟩=some (.int .i64 x6):=(HR13.out.cell 6).trans (by rw[HL2.out,<-HX6.out];rfl)
     have hlt13:=HR13.out.lt
     obtain⟨w13,Hw13⟩:∃w13:World,Hid (w12.setCell ⟨lg,5,none⟩ (.slice ao12 (l.list.length+1) c12)=w13):=⟨_,af rfl⟩
     rw[Hw13.out] at m6' hlt13 HR13 ⊢
     go_wp2_with fail
     go_ret2
     rw[HM.out]
     have hk13:Keep (· =lg) w12 w13:=by rw[<-Hw13.out];exact(Keep.refl (· =lg) w12).setCell (p:=⟨lg,5,none⟩) (.inr rfl) _
     have hL:=HLL.out
     have hkall:Keep Sl wr w13:=((HK10.out.mono (fun _ _ e=>e▸hL.sl)).trans HK02.out (fun g _ e=>(hL.slv b1 g e).1)).trans hk13 (fun _ _ e=>e▸hL.sl)
     have hnew:∀g,(Value.slice ao12 (l.list.length+1) c12).ownBlock=some g->Sl g\/wr.heap.size<=g:=fun g hg=>by
      rcases HOW.out with e|⟨g',e,hge⟩
      ·exact .inl (hL.slv b1 g (e▸hg)).1
      ·rw[e] at hg;cases hg;exact .inr (aG HK10.out.size hge)
     have hnl:∀g,(Value.slice ao12 (l.list.length+1) c12).ownBlock=some g->g≠lg:=fun g hg=>by
      rcases HOW.out with e|⟨g',e,hge⟩
      ·exact(hL.slv b1 g (e▸hg)).2
      ·rw[e] at hg;cases hg;omega
     have hstep:Step Sl (fun g=>Sl g\/(Value.slice ao12 (l.list.length+1) c12).ownBlock=some g) wr w13:=⟨hkall,fun g hg=>hg.elim .inl (hnew g)⟩
     have hL13:qd w13 (fun g=>Sl g\/(Value.slice ao12 (l.list.length+1) c12).ownBlock=some g) lg d (l.more (iT ss)):=by
      refine⟨.slice ao12 (l.list.length+1) c12,dn1,c1',hL.ok.more HBB.out hll,fun g hg=> ?_,.inl hL.sl,?_,?_,fun _ g hg=>⟨.inr hg,hnl g hg⟩⟩
      ·rcases hg with hg|hg
       ·exact ax (hL.sub g hg) hkall.size
       ·exact ax (HOF12.out.lt hg) hk13.size
      ·have e:(iC (iY d l2 lv1) dn1 c1' []).set 5 (.slice ao12 (l.list.length+1) c12)=iC (iY d (l.more (iT ss)) (.slice ao12 (l.list.length+1) c12)) dn1 c1' []:=by
        unfold Lg.more
        rw[HL2.out,Hnd.out]
        rfl
       rw[<-e]
       exact HR13.out
      ·have e1:(l.more (iT ss)).list.length=l.list.length+1:=by simp[Lg.more]
       have e2:jG (l.more (iT ss)).list=jG l.list++[Value.int .i64 (x6:Int),Value.int .i64 (k:Int)]:=by
        unfold Lg.more
        rw[x9,<-HX6.out,Hnd.out]
        rfl
       rw[e1,e2]
       exact fun _=>HOF12.out.keep fun g hg=>hk13.block g (HOF12.out.lt hg) (hnl g hg)
     have hA13:=HA.out.log hL13 hstep ⟨rfl,rfl⟩
     refine⟨?_,Sd',_,hA13.1,HT.out.trans hA13.2⟩
     rw[<-HX6.out]
     rfl
end Go.Proofs.YtpmbddooibgnaaaGreatDoor
