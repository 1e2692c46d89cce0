/- parts -/
import Derived.Test.YtogbkgmlhhahdaaGreatQ1
import Derived.Test.YtogbkgmlhhahdaaGreatQ2
import Derived.Test.YtogbkgmlhhahdaaGreatQ3
import Derived.Test.YtogbkgmlhhahdaaGreatQ4
import Derived.Test.YtogbkgmlhhahdaaGreatQ5
import Derived.Test.YtogbkgmlhhahdaaGreatQ6
import Derived.Test.YtogbkgmlhhahdaaGreatQ7
import Derived.Test.YtogbkgmlhhahdaaGreatQ8
import Derived.Test.YtogbkgmlhhahdaaGreatQ9
import Derived.Test.YtogbkgmlhhahdaaGreatQ10
import Derived.Test.YtogbkgmlhhahdaaGreatQ11
import Derived.Test.YtogbkgmlhhahdaaGreatQ12
import Derived.Test.YtogbkgmlhhahdaaGreatQ13
import Derived.Test.YtogbkgmlhhahdaaGreatQ14
import Derived.Test.YtogbkgmlhhahdaaGreatQ15
import Derived.Test.YtogbkgmlhhahdaaGreatQ16
import Derived.Test.YtogbkgmlhhahdaaGreatQ17
import Derived.Test.YtogbkgmlhhahdaaGreatQ18
import Derived.Test.YtogbkgmlhhahdaaGreatQ19
import Derived.Test.YtogbkgmlhhahdaaGreatQ20
import Derived.Test.YtogbkgmlhhahdaaGreatQ21
import Derived.Test.YtogbkgmlhhahdaaGreatQ22
import Derived.Test.YtogbkgmlhhahdaaGreatQ23
import Derived.Test.YtogbkgmlhhahdaaGreatQ24
import Derived.Test.YtogbkgmlhhahdaaGreatQ25
import Derived.Test.YtogbkgmlhhahdaaGreatQ26
import Derived.Test.YtogbkgmlhhahdaaGreatQ27
import Derived.Test.YtogbkgmlhhahdaaGreatQ28
set_option maxRecDepth 100000
set_option maxHeartbeats 8000000
set_option linter.all false
namespace Go.Proofs.YtogbkgmlhhahdaaGreat
open Go.RowKit
def Ur:Nat->Prop:=fun _=>False
def Jr (w0:World)(d v t k:Nat)(w:World):Prop:=∃F,RB w0 F Ur w/\
 ((∃dn u kv0 kv ch P,dn<=k/\Kv kv k/\Kv kv0 k/\qF ⟨F,w,Jj d⟩ v t 1200 399 dn u kv0 kv ch P w)\/(∃dn u kv0,dn<=k/\Kv kv0 k/\Gd ⟨F,w,Jj d⟩ v t 1200 399 dn u kv0 w))
def Ui (w0:World)(d v k:Nat)(w:World):Prop:=∃F,RB w0 F Ur w/\∃dn u kv,dn<=k/\Kv kv k/\qa ⟨F,w,Jj d⟩ v 1200 399 dn u kv w
section
variable {w0 w:World} {d v t k:Nat}
theorem Jr.nD (h:Jr w0 d v t k w):Below w0.heap.size w0 w:=by obtain⟨F,h,_⟩:=h;exact h.nD
theorem Jr.more (h:Jr w0 d v t k w):Jr w0 d v t (k+1) w:=by
 obtain⟨F,h1,(⟨dn,u,kv0,kv,ch,P,a,b,c,h⟩|⟨dn,u,kv0,a,c,h⟩)⟩:=h
 ·exact⟨F,h1,.inl ⟨dn,u,kv0,kv,ch,P,by omega,b.le (by omega),c.le (by omega),h⟩⟩
 ·exact⟨F,h1,.inr ⟨dn,u,kv0,by omega,c.le (by omega),h⟩⟩
theorem Jr.below (h:Jr w0 d v t k w){w':World}(hb:Below w.heap.size w w'):Jr w0 d v t k w':=by
 obtain⟨F,h1,(⟨dn,u,kv0,kv,ch,P,a,b,c,h⟩|⟨dn,u,kv0,a,c,h⟩)⟩:=h
 ·exact⟨_,h1.below hb,.inl ⟨dn,u,kv0,kv,ch,P,a,b,c,h.next (M:=fun _=>False) (Keep.of_below hb _) (fun _ e=>e.elim)⟩⟩
 ·exact⟨_,h1.below hb,.inr ⟨dn,u,kv0,a,c,h.next (M:=fun _=>False) (Keep.of_below hb _) (fun _ e=>e.elim)⟩⟩
theorem Jr.put (h:Jr w0 d v t k w)(hk:k<=200)(key value:ByteArray):
  Calls Tryz.prog 23 #[.pointer (some ⟨t,0,none⟩),.string key,.string value] w fun e w'=>(∃c:Int,e= .returned (.int .i64 c))/\Jr w0 d v t (k+1) w':=by
 have hm:=h.more
 obtain⟨F,h1,(⟨dn,u,kv0,kv,ch,P,a,b,c,h⟩|⟨dn,u,kv0,a,c,h⟩)⟩:=h
 ·by_cases hg:qx key value
  ·have hbi:=b.ins hg.1.2 hg.2
   refine(h.Pw key value (by have:=b.len;omega) hg.1 hg.2 (by have:=hbi.len;omega)).mono ?_
   rintro e w' (⟨rfl,hT⟩|⟨rfl,_,hE⟩)
   ·exact⟨⟨0,rfl⟩,F,h1.keep hT.jV,.inl ⟨dn,u,kv0,_,_,_,by omega,hbi,c.le (by omega),hT.re⟩⟩
   ·exact⟨⟨12,rfl⟩,F,h1.keep hE.jV,.inr ⟨dn,u,kv0,by omega,c.le (by omega),hE.re⟩⟩
  ·refine(h.Rx key value hg).mono ?_
   rintro e w' ⟨rfl,rfl⟩
   exact⟨⟨1,rfl⟩,hm⟩
 ·refine(Lc _ key value 12 w (h.usable _) (by decide)).mono ?_
  rintro e w' ⟨rfl,rfl⟩
  exact⟨⟨12,rfl⟩,hm⟩
theorem Jr.commit (h:Jr w0 d v t k w)(hk:k<=200):
  Calls Tryz.prog 25 #[.pointer (some ⟨t,0,none⟩)] w fun e w'=>(∃a c:Int,e= .returned (.tuple #[.int .i64 a,.int .i64 c]))/\Ui w0 d v (k+1) w':=by
 obtain⟨F,h1,(⟨dn,u,kv0,kv,ch,P,a,b,c,h⟩|⟨dn,u,kv0,a,c,h⟩)⟩:=h
 ·refine(h.commit (by omega) (Ma rfl)).mono ?_
  rintro e w' (⟨rfl,rfl,rfl,hV⟩|⟨rfl,_,rfl,hV⟩|⟨rfl,rfl,u',hV⟩)
  ·exact⟨⟨_,_,rfl⟩,F,h1.keep hV.jV,dn,u,_,by omega,c.le (by omega),hV.re⟩
  ·exact⟨⟨_,_,rfl⟩,F,h1.keep hV.jV,dn,u,_,by omega,c.le (by omega),hV.re⟩
  ·exact⟨⟨_,_,rfl⟩,F,h1.keep hV.jV,dn+1,u',_,by omega,b.le (by omega),hV.re⟩
 ·refine h.commit.mono ?_
  rintro e w' ⟨rfl,hV⟩
  exact⟨⟨_,_,rfl⟩,F,h1.keep hV.jV,dn,u,_,by omega,c.le (by omega),hV.re⟩
theorem Jr.abort (h:Jr w0 d v t k w):
  Calls Tryz.prog 31 #[.pointer (some ⟨t,0,none⟩)] w fun e w'=>e= .returned (.tuple #[])/\Ui w0 d v k w':=by
 obtain⟨F,h1,(⟨dn,u,kv0,kv,ch,P,a,b,c,h⟩|⟨dn,u,kv0,a,c,h⟩)⟩:=h
 ·refine h.abort.mono ?_
  rintro e w' ⟨rfl,hV,_⟩
  exact⟨rfl,F,h1.keep hV.jV,dn,u,_,a,c,hV.re⟩
 ·refine h.abort.mono ?_
  rintro e w' ⟨rfl,hV⟩
  exact⟨rfl,F,h1.keep hV.jV,dn,u,_,a,c,hV.re⟩
theorem Ui.begin (h:Ui w0 d v k w):
  Calls Tryz.prog 21 #[.pointer (some ⟨v,0,none⟩)] w fun e w'=>∃t,e= .returned (.tuple #[.pointer (some ⟨t,0,none⟩),.int .i64 0])/\Jr w0 d v t k w':=by
 obtain⟨F,h1,dn,u,kv,a,b,h⟩:=h
 refine h.begin.mono ?_
 rintro e w' ⟨t,rfl,hT⟩
 exact⟨t,rfl,F,h1.keep hT.jV,.inl ⟨dn,u,kv,kv,_,_,a,b,b,hT.re⟩⟩
def Told (F:Nat->Prop)(w:World)(x:Value)(kv:List Pr):Prop:=jH w (vU F w) x kv
theorem Told.prog {F:Nat->Prop}{w w':World}{x:Value}{kv:List Pr}(h:Told F w x kv)(hk:Keep (fun g=>¬F g) w w'):Told F w' x kv:=aX.keep h fun g _ hl hn=>by
 have hf:F g:=fV fun e=>hn ⟨hl,e⟩
 exact⟨hk.block g hl (fun e=>e hf),fun e=>e.2 hf⟩
theorem Told.more {F F':Nat->Prop}{w:World}{x:Value}{kv:List Pr}(h:Told F w x kv)(hF:∀g,F g->F' g):Told F' w x kv:=h.less fun g e=>⟨e.1,fun y=>e.2 (hF g y)⟩
theorem Told.grow {F:Nat->Prop}{w w':World}{x:Value}{kv:List Pr}(h:Told F w x kv)(hb:Below w.heap.size w w'):Told (yj F w w') w' x kv:=(h.prog (Keep.of_below hb _)).more fun _ e=> .inl e
theorem Told.new {F:Nat->Prop}{w w':World}{x:Value}{kv:List Pr}(hx:aQ w' fZ w.heap.size 103 2 x kv.length (dO kv)):Told (yj F w w') w' x kv:=
 aX.keep hx.dm fun g hg hl _=>⟨rfl,fun e=>e.2 (.inr ⟨hx.lo g hg,hl⟩)⟩
theorem Ui.tell (h:Ui w0 d v k w)(hk:k<=200):
  Calls Tryz.prog 21 #[.pointer (some ⟨v,0,none⟩)] w fun e w1=>∃t,e= .returned (.tuple #[.pointer (some ⟨t,0,none⟩),.int .i64 0])/\
   Calls Tryz.prog 29 #[.pointer (some ⟨t,0,none⟩),.string ⟨#[]⟩,.int .i64 1073741824] w1 fun e w2=>∃x,e= .returned (.tuple #[x,.int .i64 0])/\
   Calls Tryz.prog 31 #[.pointer (some ⟨t,0,none⟩)] w2 fun e w3=>e= .returned (.tuple #[])/\∃F dn u kv,RB w0 F Ur w3/\dn<=k/\Kv kv k/\qa ⟨F,w3,Jj d⟩ v 1200 399 dn u kv w3/\Told F w3 x kv:=by
 obtain⟨F,h1,dn,u,kv,a,b,h⟩:=h
 have hl:=b.len
 refine h.begin.mono ?_
 rintro e w1 ⟨t,rfl,hT⟩
 refine⟨t,rfl,(hT.re.scan ⟨#[]⟩ 1073741824 (by omega)).mono ?_⟩
 rintro e w2 ⟨x,rfl,hx,hT2,hb⟩
 rw[xO kv _ (by omega)] at hx
 have hT3:=hT.re.next (M:=fun _=>False) (Keep.of_below hb _) (fun _ e=>e.elim)
 refine⟨x,rfl,hT3.abort.mono ?_⟩
 rintro e w3 ⟨rfl,hV,_⟩
 have hk:Keep (fun g=>¬yj F w1 w2 g) w2 w3:=hV.jV
 exact⟨rfl,yj F w1 w2,dn,u,kv,((h1.keep hT.jV).below hb).keep hk,a,b,hV.re,(Told.new hx).prog hk⟩
def Dh (F:Nat->Prop)(w:World)(v dn:Nat):Prop:=∃pg lg d l Sl c0 c2 c3 c4 c5 c6,F v/\w.heap[v]? =some (.cells #[.pointer (some ⟨pg,0,none⟩)] 88 (0,0))/\F pg/\w.heap[pg]? =some (.cells #[c0,.pointer (some ⟨lg,0,none⟩),c2,c3,c4,c5,c6] 141 (0,0))/\rC w Sl lg d l/\(∀g,Sl g->F g)/\l.last=dn+1
theorem Dh.prog {F:Nat->Prop}{w':World}{dn:Nat}(h:Dh F w v dn)(hk:Keep (fun g=>¬F g) w w'):Dh F w' v dn:=by
 obtain⟨pg,lg,d,l,Sl,c0,c2,c3,c4,c5,c6,h1,h2,h3,h4,h5,h6,h7⟩:=h
 exact⟨pg,lg,d,l,Sl,c0,c2,c3,c4,c5,c6,h1,(hk.block v (aj.1 h2).1 (fun e=>e h1)).trans h2,h3,(hk.block pg (aj.1 h4).1 (fun e=>e h3)).trans h4,h5.keep hk (fun g hg e=>e (h6 g hg)),h6,h7⟩
theorem Dh.more {F F':Nat->Prop}{dn:Nat}(h:Dh F w v dn)(hF:∀g,F g->F' g):Dh F' w v dn:=by
 obtain⟨pg,lg,d,l,Sl,c0,c2,c3,c4,c5,c6,h1,h2,h3,h4,h5,h6,h7⟩:=h
 exact⟨pg,lg,d,l,Sl,c0,c2,c3,c4,c5,c6,hF _ h1,h2,hF _ h3,h4,h5,fun g hg=>hF _ (h6 g hg),h7⟩
theorem M7 (pg lg d:Nat)(l:Lg)(Sl:Nat->Prop)(c0 c2 c3 c4 c5 c6:Value)(w:World)(h:w.heap[pg]? =some (.cells #[c0,.pointer (some ⟨lg,0,none⟩),c2,c3,c4,c5,c6] 141 (0,0)))(hL:rC w Sl lg d l):
  Calls Tryz.prog 45 #[.pointer (some ⟨pg,0,none⟩)] w fun e w'=>e= .returned (.int .i64 l.last)/\w'=w:=by
 have c1:w.cell? ⟨pg,1,none⟩=some (.pointer (some ⟨lg,0,none⟩)):=by simp[World.cell?,h]
 have hlt:=(aj.1 h).1
 have HW:=ah (La lg d l Sl w hL)
 clear h hL
 go_enter Tryz.func45,Tryz.ntmps45
 go_wp2_with (first
  |(go_at_call 90;go_must (refine HW.out.mono ?_;rintro e w1 ⟨rfl,hw1⟩;subst w1)))
 go_ret
 exact⟨rfl,rfl⟩
theorem Dh.done {F:Nat->Prop}{dn:Nat}(h:Dh F w v dn)(hb:dn<=100000000):
  Calls Tryz.prog 12 #[.pointer (some ⟨v,0,none⟩)] w fun e w'=>e= .returned (.int .i64 dn)/\w'=w:=by
 obtain⟨pg,lg,d,l,Sl,z0,z2,z3,z4,z5,z6,h1,h2,h3,h4,h5,h6,h7⟩:=h
 have c0:w.cell? ⟨v,0,none⟩=some (.pointer (some ⟨pg,0,none⟩)):=by simp[World.cell?,h2]
 have hlt:=(aj.1 h2).1
 have HP:=M7 pg lg d l Sl z0 z2 z3 z4 z5 z6 w h4 h5
 rw[h7] at HP
 have HP:=ah HP
 have q:IntKind.i64.wrap ((dn+1:Nat):Int)=((dn+1:Nat):Int):=aG _ (by omega)
 obtain⟨m,hm⟩:∃m:Int,Hid (((dn+1:Nat):Int)=m):=⟨_,ah rfl⟩
 rw[hm.out] at HP
 have q:IntKind.i64.wrap (m - 1)=(dn:Int):=by rw[aG _ (by have:=hm.out;omega)];have:=hm.out;omega
 clear h1 h2 h3 h4 h5 h6 h7
 go_enter Tryz.func12,Tryz.ntmps12
 go_wp2_with (first
  |(go_at_call 45;go_must (refine HP.out.mono ?_;rintro e w2 ⟨rfl,rfl⟩)))
 go_ret
 exact⟨rfl,rfl⟩
theorem qa.TR {b:iW}{N R dn u:Nat}{kv:List Pr}(h:qa b v N R dn u kv w)(hd:dn<=100000000)(hD:∀x σ l p,b.D x σ l p->JV d x σ l p):
  ∃F',(∀g,b.F g->F' g)/\DV ⟨F',w,Jj d⟩ d (R+1) N dn u kv w/\Dh F' w v dn:=by
 obtain⟨S,pg,d',σ,l,p,f,root,es,tb,hA,hB,h1,h2,h3,h4,h5,h6⟩:=h
 obtain⟨rfl,hfu,hy⟩:=hD _ _ _ _ h1.2
 obtain⟨C,hC⟩:=hA.vi.rc (by omega)
 obtain⟨Sd,Sl,Sp,lg,fb,hP,hS⟩:=hA.pgr
 have hsk:p.skip=R+1:=by have:=hP.ok.ring;have:=hP.ok.skip;omega
 obtain⟨k,k1,k2,l5,ims,r1,r2,r3,r4,r5⟩:=hC.dead _ (CS.get σ)
 have hk:k=l.last:=by omega
 rw[hk] at r3 r5
 rw[h2] at r4 r5
 rw[hsk] at r2 r5
 have hw:σ.waits=[]:=by obtain⟨_,hR,_⟩:=hC;exact hR.wt hy
 refine⟨fun g=>g<w.heap.size/\¬Sd g,fun g hg=>⟨ak (hB.fs g hg) hB.size,fun e=>hB.lo g ((hS g).2 (.inl e)) hg⟩,⟨Sd,σ,C l.last,f,root,es,tb,l5,ims,hP.log.dk,⟨rfl,rfl,rfl,aC _,fun _ _=>rfl,fun g hg=>hg.1,fun g hg e=>e.2 hg⟩,hA.vi.nd,hfu,hw,?_,r1,r2,by rw[r3,h4],r4,r5,?_,h5,h6⟩,?_⟩
 ·have:=hP.ok.fit;have:=hP.ok.skip;unfold Pg.blocks at h2;omega
 ·exact OI hA.base hA.live h2 fun b hb=>(hC.look b (by rw[h2];exact hb)).symm
 ·exact⟨pg,lg,_,l,Sl,_,_,_,_,_,_,⟨(aj.1 hA.obj).1,fun e=>hA.nv ((hS v).2 (.inl e))⟩,hA.obj,⟨(aj.1 hP.obj).1,hP.dd pg hP.BP⟩,hP.obj,hP.log.lg,fun g hg=>⟨hP.log.lg.sub g hg,fun e=>hP.log.dis g e hg⟩,h4⟩
def Uj (w0:World)(d v dn:Nat)(x:Value)(kv:List Pr)(w:World):Prop:=∃F u,RB w0 F Ur w/\DV ⟨F,w,JV d⟩ d 400 1200 dn u kv w/\Told F w x kv/\Dh F w v dn
def Jv (w0:World)(d v v2 dn:Nat)(x:Value)(kv:List Pr)(w:World):Prop:=∃F u,RB w0 F Ur w/\qa ⟨F,w,JV d⟩ v2 1200 399 dn u kv w/\Told F w x kv/\Dh F w v dn
theorem RB.more {F F' F0:Nat->Prop}(h:RB w0 F F0 w)(hF:∀g,F g->F' g):RB w0 F' F0 w:=⟨fun g e=>hF g (h.sub g e),fun g hg=>⟨hF g (h.old g hg).1,(h.old g hg).2⟩,h.nD⟩
theorem Si {F:Nat->Prop}{dn u:Nat}{kv:List Pr}{x:Value}(hB:RB w0 F Ur w)(hV:qa ⟨F,w,Jj d⟩ v 1200 399 dn u kv w)(hx:Told F w x kv)(hd:dn<=100000000):
  Calls Tryz.prog 27 #[.pointer (some ⟨v,0,none⟩)] w fun e w'=>e= .returned (.int .i64 0)/\Uj w0 d v dn x kv w':=by
 refine(hV.sync hd (JV d) (fun _ _ _ _ e=>e.2) (fun _ _ _ _ _ _ e s=>⟨e.1,s.fu e.2,s.uM.trans s.last.symm⟩)).mono ?_
 rintro e w' ⟨rfl,hV'⟩
 have hk:Keep (fun g=>¬F g) w w':=hV'.jV
 obtain⟨F',q1,q2,q3⟩:=hV'.TR hd (fun _ _ _ _ e=>e)
 exact⟨rfl,F',u,(hB.keep hk).more q1,q2.to,(hx.prog hk).more q1,q3⟩
section
variable {v2 dn:Nat} {x:Value} {kv:List Pr}
theorem Uj.nD (h:Uj w0 d v dn x kv w):Below w0.heap.size w0 w:=by obtain⟨F,u,h,_⟩:=h;exact h.nD
theorem Uj.open_ (h:Uj w0 d v dn x kv w)(hd:dn<=100000000)(hl:kv.length<=4090):
  Calls Tryz.prog 10 #[.pointer (some ⟨d,0,none⟩),.int .i64 400] w fun e w'=>∃v2,e= .returned (.tuple #[.pointer (some ⟨v2,0,none⟩),.int .i64 0])/\Jv w0 d v v2 dn x kv w':=by
 obtain⟨F,u,h1,h2,h3,h4⟩:=h
 refine(h2.open_ (by omega) (by omega) hd hl (fun _ _ _ e=>e)).mono ?_
 rintro e w' ⟨v2,rfl,hV⟩
 have hk:Keep (fun g=>¬F g) w w':=hV.jV
 exact⟨v2,rfl,F,u,h1.keep hk,hV.re,h3.prog hk,h4.prog hk⟩
theorem Jv.done (h:Jv w0 d v v2 dn x kv w)(hd:dn<=100000000):
  Calls Tryz.prog 12 #[.pointer (some ⟨v2,0,none⟩)] w fun e w'=>e= .returned (.int .i64 dn)/\w'=w:=by
 obtain⟨F,u,h1,h2,h3,h4⟩:=h
 exact h2.done hd
theorem Jv.old (h:Jv w0 d v v2 dn x kv w)(hd:dn<=100000000):
  Calls Tryz.prog 12 #[.pointer (some ⟨v,0,none⟩)] w fun e w'=>e= .returned (.int .i64 dn)/\w'=w:=by
 obtain⟨F,u,h1,h2,h3,h4⟩:=h
 exact h4.done hd
theorem Jv.check (h:Jv w0 d v v2 dn x kv w)(hl:kv.length<=4090):
  Calls Tryz.prog 13 #[.pointer (some ⟨v2,0,none⟩)] w fun e w'=>e= .returned (.int .i64 0)/\Jv w0 d v v2 dn x kv w':=by
 obtain⟨F,u,h1,h2,h3,h4⟩:=h
 refine(h2.check hl).mono ?_
 rintro e w' ⟨rfl,hV⟩
 have hk:Keep (fun g=>¬F g) w w':=hV.jV
 exact⟨rfl,F,u,h1.keep hk,hV.re,h3.prog hk,h4.prog hk⟩
theorem Jv.below (h:Jv w0 d v v2 dn x kv w){w':World}(hb:Below w.heap.size w w'):Jv w0 d v v2 dn x kv w':=by
 obtain⟨F,u,h1,h2,h3,h4⟩:=h
 exact⟨_,u,h1.below hb,h2.next (M:=fun _=>False) (Keep.of_below hb _) (fun _ e=>e.elim),h3.grow hb,(h4.prog (Keep.of_below hb _)).more fun _ e=> .inl e⟩
theorem Jv.tell (h:Jv w0 d v v2 dn x kv w)(hl:kv.length<=4090):
  Calls Tryz.prog 21 #[.pointer (some ⟨v2,0,none⟩)] w fun e w1=>∃t,e= .returned (.tuple #[.pointer (some ⟨t,0,none⟩),.int .i64 0])/\
   Calls Tryz.prog 29 #[.pointer (some ⟨t,0,none⟩),.string ⟨#[]⟩,.int .i64 1073741824] w1 fun e w2=>∃y,e= .returned (.tuple #[y,.int .i64 0])/\
   Calls Tryz.prog 31 #[.pointer (some ⟨t,0,none⟩)] w2 fun e w3=>e= .returned (.tuple #[])/\Jv w0 d v v2 dn x kv w3/\∃S1 S2,jH w3 S1 y kv/\jH w3 S2 x kv:=by
 obtain⟨F,u,h1,h2,h3,h4⟩:=h
 refine h2.begin.mono ?_
 rintro e w1 ⟨t,rfl,hT⟩
 have hk1:Keep (fun g=>¬F g) w w1:=hT.jV
 refine⟨t,rfl,(hT.re.scan ⟨#[]⟩ 1073741824 (by omega)).mono ?_⟩
 rintro e w2 ⟨y,rfl,hx,hT2,hb⟩
 rw[xO kv _ (by omega)] at hx
 have hT3:=hT.re.next (M:=fun _=>False) (Keep.of_below hb _) (fun _ e=>e.elim)
 refine⟨y,rfl,hT3.abort.mono ?_⟩
 rintro e w3 ⟨rfl,hV,_⟩
 have hk3:Keep (fun g=>¬yj F w1 w2 g) w2 w3:=hV.jV
 have hx3:=((h3.prog hk1).grow hb).prog hk3
 exact⟨rfl,⟨yj F w1 w2,u,((h1.keep hk1).below hb).keep hk3,hV.re,hx3,(((h4.prog hk1).prog (Keep.of_below hb _)).more fun _ e=> .inl e).prog hk3⟩,_,_,(Told.new hx).prog hk3,hx3⟩
theorem Jv.oP (h:Jv w0 d v v2 dn x kv w)(hd:dn<=100000000)(z:Value)(ks:List Bool)(hz:zw w0 fZ z ks):
  Calls Tryz.prog 28 #[.pointer (some ⟨d,0,none⟩),z] w fun e w'=>e= .returned (.tuple #[])/\Uj w0 d v dn x kv w':=by
 obtain⟨F,u,h1,h2,h3,h4⟩:=h
 refine((h2.dv hd (fun _ _ _ _ e=>e)).oP z ks (fun Sd hV=>hz.of h1.nD fun g hg e=>hV.lo g e (h1.old g hg).1)).mono ?_
 rintro e w' ⟨rfl,hD⟩
 have hk:Keep (fun g=>¬F g) w w':=hD.jV
 exact⟨rfl,F,u,h1.keep hk,hD.re,h3.prog hk,h4.prog hk⟩
end
end
theorem Gr (v0 z:Value)(os:List Oh)(ks:List Bool)(w:World)(hv:Jq w v0 os)(hz:zw w fZ z ks)(hw1:∀o∈os,0<=o.1/\o.1<=255)(hsz:∀o∈os,o.2.2.1.size<=maxLen):
  Calls Tryz.prog 5 #[v0,z] w fun e w'=>e= .returned (.bool true)/\Below w.heap.size w w':=by
 obtain⟨ao,c,rfl,hc1,hc2,_⟩:=id hv
 obtain⟨zo,zc,rfl,_⟩:=id hz
 have HV:=ah hv
 have HZ:=ah hz
 clear hv hz
 obtain⟨zn,hzn⟩:∃zn,Hid (ks.length=zn):=⟨_,ah rfl⟩
 have HZ2:=ah (show zw w fZ (.slice zo zn zc) ks by rw[<-hzn.out];exact HZ.out)
 clear HZ
 rw[hzn.out]
 go_enter Tryz.func5,Tryz.ntmps5
 go_wp2_with (first
  |(go_at_call 7;go_must ((refine(wS _).mono ?_);rintro e w1 ⟨rfl,hb1⟩;refine Stop.of ?_)))
 refine Stop.on ?_
 by_cases hlen:os.length<=60
 ·have x1:¬(60:Int)<(os.length:Int):=by omega
  have HN:=ah (TU 1600 w1)
  go_wp2_with (first
   |(go_at_call 8;go_must ((refine HN.out.mono ?_);rintro e w2 ⟨d,S,rfl,hD,hb2,hS⟩;refine Stop.of ?_)))
  refine Stop.on ?_
  have hb02:=hb1.trans (hb2.mono hb1.size)
  have HV3:=ah (qa.make ⟨fun g=>g<w.heap.size,w,Jj d⟩ w2 1600 400 d S ⟨hb02.os,hb02.tape,hb02.output,hb02.size,fun k hk=>hb02.block k hk,fun _ hg=>hg,fun g hg=>bq.2 (aK hb1.size (hS g hg))⟩ hD (by omega) (by omega) (fun _ _ _ h=>⟨rfl,h.vi.free.2⟩))
  clear hD hS hb2 hb1 hb02 HN
  go_wp2_with (first
   |(go_at_call 11;go_must (refine HV3.out.mono ?_;rintro e w3 ⟨v,rfl,hV3⟩;refine Stop.of ?_)))
  refine Stop.on ?_
  have hV3:qa ⟨fun g=>g<w.heap.size,w,Jj d⟩ v 1200 399 0 0 [] w3:=hV3
  have hA3:Ui w d v 0 w3:=⟨fun g=>g<w.heap.size,⟨fun _ e=>e.elim,fun g hg=>⟨hg,id⟩,by obtain⟨_,_,_,_,_,_,_,_,_,_,_,h,_⟩:=hV3;exact⟨h.os,h.tape,h.output,h.size,fun k hk=>h.block k hk⟩⟩,0,0,[],aC _,Kv.nil 0,hV3.re⟩
  have HBG:=ah hA3.begin
  clear HV3 hV3 hA3
  go_wp2_with (first
   |(go_at_call 21;go_must (refine HBG.out.mono ?_;rintro e w4 ⟨t4,rfl,hS4⟩;refine Stop.of ?_)))
  refine Stop.on ?_
  clear HBG
  go_wp2_with fail
  go_loopw [8,10] (fun tv i wr=>∃k t:Nat,k<=os.length/\i= .int .i64 k/\tv= .pointer (some ⟨t,0,none⟩)/\Jr w d v t (2*k) wr) (fun _ i _=>os.length - (intOf i).toNat)
  case atStart=>exact⟨0,t4,aT _,rfl,rfl,hS4⟩
  case round=>
   clear hS4
   obtain⟨k,t,hk,rfl,rfl,hSr⟩:=hrel
   by_cases hlt:k<os.length
   ·have y1:(k:Int)<(os.length:Int):=by omega
    have y2:IntKind.i64.wrap ((k:Int)+1)=((k+1:Nat):Int):=by rw[aG _ (by omega)];omega
    obtain⟨b,o,rfl,d0,d1,d2,d3⟩:=HV.out.at rfl k hlt
    have hbl:b<w.heap.size:=aD w _ d1
    have hs:=hsz os[k] (bE hlt)
    have hkd:=hw1 os[k] (bE hlt)
    obtain⟨op,hop⟩:∃op,Hid (os[k]=op):=⟨_,ah rfl⟩
    rw[hop.out] at d0 d1 d2 d3 hs hkd
    obtain⟨kd,key,val,n⟩:=op
    dsimp only at d0 d1 d2 d3 hs hkd
    have hcell:∀W:World,Below w.heap.size w W->W.cell? ⟨b,o+k*4,none⟩=some (.int .u8 kd)/\W.cell? ⟨b,o+k*4+1,none⟩=some (.string key)/\W.cell? ⟨b,o+k*4+2,none⟩=some (.string val)/\W.cell? ⟨b,o+k*4+3,none⟩=some (.int .i64 n)/\b<W.heap.size:=fun W hW=>
     ⟨(hW.cell (p:=⟨b,o+k*4,none⟩) hbl).trans d0,(hW.cell (p:=⟨b,o+k*4+1,none⟩) hbl).trans d1,(hW.cell (p:=⟨b,o+k*4+2,none⟩) hbl).trans d2,(hW.cell (p:=⟨b,o+k*4+3,none⟩) hbl).trans d3,ak hbl hW.size⟩
    have HCL:=ah hcell
    have HSR:=ah hSr
    clear hcell d0 d1 d2 d3 hSr hop
    obtain⟨r0,r1,r2,r3,r4⟩:=HCL.out wr HSR.out.nD
    by_cases hvz:val.size<3000
    ·have hvz':(val.size:Int)<3000:=by omega
     obtain⟨mn,hmn⟩:∃mn:Int,Hid ((if (900:Int)<n then 900 else n)=mn):=⟨_,ah rfl⟩
     have hrm:∀W:World,(Builtin.min_ #[3,3] 3 #[.int .i64 n,.int .i64 900]).run Tryz.prog W= .ok (.int .i64 mn) W:=fun W=>by rw[run_min_int2,hmn.out]
     obtain⟨vl,hvl⟩:∃vl,Hid (strOf (BB val mn)=vl):=⟨_,ah rfl⟩
     have hTX:=BA val mn
     rw[hvl.out] at hTX
     have hb:=HSR.out.nD
     go_upto_region 12 with (fail)
     clear r0 r1 r2 r3 r4
     refine aP (fun W=>Below w.heap.size w W) (fun i=> !([17,18].contains i)) [0,1,2,3,4,5,6,7,8,9,10,11,12,13,14,15,16,17,18] rfl (by kernel_rfl) hb.drew ?_
     repeat ((refine bP (v:= ?_) rfl rfl (fun _ _ _ h=>h) rfl (fun W hW=> ?_) ?_);rotate_left;(focus ((try dsimp only at hW);obtain⟨r0,r1,r2,r3,r4⟩:=HCL.out W hW;have rm:=hrm W;(go_simp;first|done|with_reducible rfl)));(try simp only[Act.put,ai,ax,au]))
     refine dK rfl rfl rfl ?_;intro K hK;go_simp
     refine(hTX _ hs).mono ?_;rintro e w7 ⟨rfl,hb7⟩
     have hbw7:=hb.drew.trans (hb7.mono hb.drew.size)
     refine hK.out _ _ hbw7 ?_
     have hS7:=(HSR.out.below ((aR _ wr).drew)).below hb7
     have HPU:=ah (hS7.put (by omega) key vl)
     (try simp only[Act.put,ai,ax,au])
     refine dK rfl rfl rfl ?_;intro K hK;go_simp
     refine HPU.out.mono ?_;rintro e w8 ⟨⟨pc,rfl⟩,hS8⟩
     refine hK.out _ _ hS8.nD ?_
     (try simp only[Act.put,ai,ax,au])
     refine bS ?_
     obtain⟨r0,r1,r2,r3,r4⟩:=HCL.out w8 hS8.nD
     have HSM:=ah hS8
     clear hS7 HPU hb hTX hrm hb7 hbw7 hS8 r1 r2 r3
     by_cases hk3:kd%3=0
     ·have z1:(kd%3==0)=true:=by simp[hk3]
      have HCO:=ah (HSM.out.commit (by omega))
      go_wp2_with (first
       |(go_at_call 25;go_must (refine HCO.out.mono ?_;rintro e w9 ⟨⟨pa,pb,rfl⟩,hV9⟩;refine Stop.of ?_)))
      refine Stop.on ?_
      have HBG:=ah hV9.begin
      clear HCO hV9 r0 r4
      go_wp2_with (first
       |(go_at_call 21;go_must (refine HBG.out.mono ?_;rintro e w10 ⟨t',rfl,hS10⟩;refine Stop.of ?_)))
      refine Stop.on ?_
      have HS10:=ah hS10
      clear HBG hS10 HSM HSR
      go_wp2_with fail
      go_roundw
      case rel=>exact⟨k+1,t',by omega,rfl,rfl,HS10.out⟩
      case measure=>simp[intOf];omega
     ·have z1:(kd%3==0)=false:=by simp[hk3]
      have HS10:=ah HSM.out.more
      clear HSM
      go_wp2_with fail
      go_roundw
      case rel=>exact⟨k+1,t,by omega,rfl,rfl,HS10.out⟩
      case measure=>simp[intOf];omega
    ·have hvz':¬(val.size:Int)<3000:=by omega
     have HSM:=ah HSR.out.more
     clear r1 r3
     by_cases hk3:kd%3=0
     ·have z1:(kd%3==0)=true:=by simp[hk3]
      have HCO:=ah (HSM.out.commit (by omega))
      go_wp2_with (first
       |(go_at_call 25;go_must (refine HCO.out.mono ?_;rintro e w9 ⟨⟨pa,pb,rfl⟩,hV9⟩;refine Stop.of ?_)))
      refine Stop.on ?_
      have HBG:=ah hV9.begin
      clear HCO hV9 r0 r4
      go_wp2_with (first
       |(go_at_call 21;go_must (refine HBG.out.mono ?_;rintro e w10 ⟨t',rfl,hS10⟩;refine Stop.of ?_)))
      refine Stop.on ?_
      have HS10:=ah hS10
      clear HBG hS10 HSM HSR
      go_wp2_with fail
      go_roundw
      case rel=>exact⟨k+1,t',by omega,rfl,rfl,HS10.out⟩
      case measure=>simp[intOf];omega
     ·have z1:(kd%3==0)=false:=by simp[hk3]
      have HS10:=ah HSM.out.more
      clear HSM
      go_wp2_with fail
      go_roundw
      case rel=>exact⟨k+1,t,by omega,rfl,rfl,HS10.out⟩
      case measure=>simp[intOf];omega
   ·obtain rfl:k=os.length:=by omega
    have y1:¬(os.length:Int)<(os.length:Int):=by omega
    have HAB:=ah hSr.abort
    clear hSr
    go_wp2_with (first
     |(go_at_call 31;go_must (refine HAB.out.mono ?_;rintro e w5 ⟨rfl,hV5⟩;refine Stop.of ?_)))
    refine Stop.on ?_
    have HTE:=ah (hV5.tell (by omega))
    clear hV5 HAB
    go_wp2_with (first
     |(go_at_call 21;go_must (refine HTE.out.mono ?_;rintro e w6 ⟨t6,rfl,hC6⟩;refine Stop.of ?_)))
    refine Stop.on ?_
    have HC6:=ah hC6
    clear hC6 HTE
    go_wp2_with (first
     |(go_at_call 29;go_must (refine HC6.out.mono ?_;rintro e w7 ⟨x,rfl,hC7⟩;refine Stop.of ?_)))
    refine Stop.on ?_
    have HC7:=ah hC7
    clear hC7 HC6
    go_wp2_with (first
     |(go_at_call 31;go_must (refine HC7.out.mono ?_;rintro e w8 ⟨rfl,F8,dn,u8,kv,hB8,hdn,hKv,hV8,hx8⟩;refine Stop.of ?_)))
    refine Stop.on ?_
    have HSY:=ah (Si hB8 hV8 hx8 (by omega))
    have HKV:=ah (aF hKv hdn)
    obtain⟨xo,xc,rfl,_⟩:=aX.form hx8
    obtain⟨xn,hxn⟩:∃xn,Hid (kv.length=xn):=⟨_,ah rfl⟩
    rw[hxn.out] at HSY ⊢
    clear HC7 hB8 hV8 hx8 hKv hdn
    go_wp2_with (first
     |(go_at_call 27;go_must (refine HSY.out.mono ?_;rintro e w9 ⟨rfl,hD9⟩;refine Stop.of ?_)))
    refine Stop.on ?_
    clear HSY
    have hkl:kv.length<=4090/\dn<=100000000:=by have h1:=HKV.out.1.len;have h2:=HKV.out.2;omega
    have HKL:=ah hkl
    clear hkl HKV hlen hk
    go_wp2_with fail
    obtain⟨wo,rfl⟩:∃x:World,x=wr:=⟨_,rfl⟩
    go_loopw [12,13,14,15,16,17,18] (fun i _ _ _ _ _ _ wr=>∃k:Nat,k<=3/\i= .int .i64 k/\Uj w d v dn (.slice xo xn xc) kv wr) (fun i _ _ _ _ _ _ _=>3 - (intOf i).toNat)
    case atStart=>exact⟨0,by omega,rfl,hD9⟩
    case round=>
     clear hD9
     obtain⟨k,hk,rfl,hDr⟩:=hrel
     by_cases hlt:k<3
     ·have y1:(k:Int)<3:=by omega
      have y2:IntKind.i64.wrap ((k:Int)+1)=((k+1:Nat):Int):=by rw[aG _ (by omega)];omega
      have HOP:=ah (hDr.open_ HKL.out.2 HKL.out.1)
      clear hDr
      go_wp2_with (first
       |(go_at_call 10;go_must (refine HOP.out.mono ?_;rintro e w10 ⟨v2,rfl,hW10⟩;refine Stop.of ?_)))
      refine Stop.on ?_
      have HD1:=ah (hW10.done HKL.out.2)
      have HD2:=ah (hW10.old HKL.out.2)
      have HCH:=ah (hW10.check HKL.out.1)
      clear HOP hW10
      go_wp2_with (first
       |(go_at_call 12;go_must (refine HD1.out.mono ?_;rintro e w11 ⟨rfl,hw⟩;subst w11;refine Stop.of ?_)))
      refine Stop.on ?_
      go_wp2_with (first
       |(go_at_call 12;go_must (refine HD2.out.mono ?_;rintro e w11 ⟨rfl,hw⟩;subst w11;refine Stop.of ?_)))
      refine Stop.on ?_
      go_wp2_with (first
       |(go_at_call 13;go_must (refine HCH.out.mono ?_;rintro e w11 ⟨rfl,hW11⟩;refine Stop.of ?_)))
      refine Stop.on ?_
      have HTE:=ah (hW11.tell HKL.out.1)
      clear HD1 HD2 HCH hW11
      go_wp2_with (first
       |(go_at_call 21;go_must (refine HTE.out.mono ?_;rintro e w12 ⟨t12,rfl,hC12⟩;refine Stop.of ?_)))
      refine Stop.on ?_
      have HC12:=ah hC12
      clear hC12 HTE
      go_wp2_with (first
       |(go_at_call 29;go_must (refine HC12.out.mono ?_;rintro e w13 ⟨y,rfl,hC13⟩;refine Stop.of ?_)))
      refine Stop.on ?_
      have HC13:=ah hC13
      clear hC13 HC12
      go_wp2_with (first
       |(go_at_call 31;go_must (refine HC13.out.mono ?_;rintro e w14 ⟨rfl,hW14,S1,S2,hy,hx⟩;refine Stop.of ?_)))
      refine Stop.on ?_
      have HSM:=ah (BQ y (.slice xo xn xc) kv w14 S1 S2 hy hx)
      have HW14:=ah hW14
      clear HC13 hW14 hy hx
      go_wp2_with (first
       |(go_at_call 30;go_must (refine HSM.out.mono ?_;rintro e w15 ⟨rfl,hb15⟩;refine Stop.of ?_)))
      refine Stop.on ?_
      have HCR:=ah ((HW14.out.below hb15).oP HKL.out.2 _ ks HZ2.out)
      clear HSM HW14 hb15
      go_wp2_with (first
       |(go_at_call 28;go_must (refine HCR.out.mono ?_;rintro e w16 ⟨rfl,hD16⟩;refine Stop.of ?_)))
      refine Stop.on ?_
      have HD16:=ah hD16
      clear HCR hD16
      go_wp2_with fail
      go_roundw
      case rel=>exact⟨k+1,by omega,rfl,HD16.out⟩
      case measure=>simp[intOf];omega
     ·obtain rfl:k=3:=by omega
      have HB:=ah hDr.nD
      clear hDr
      go_wp2_with fail
      go_ret
      exact⟨rfl,HB.out⟩
 ·have x1:(60:Int)<(os.length:Int):=by omega
  go_wp2_with (first
   |(go_at_call 7;go_must ((refine(wS _).mono ?_);rintro e w2 ⟨rfl,hb2⟩)))
  go_ret
  exact⟨rfl,hb1.trans (hb2.mono hb1.size)⟩
end Go.Proofs.YtogbkgmlhhahdaaGreat
