/- parts -/
import Derived.Test.YtpmbddooibgnaaaGreatDoorS12
set_option maxRecDepth 100000
set_option maxHeartbeats 8000000
set_option linter.all false
namespace Go.Proofs.YtpmbddooibgnaaaGreatDoor
open Go.RowKit
def Fb (w:World)(t:Nat):Prop:=∃db,w.heap[t]? =some (.cells #[.pointer none,.map (some db)] 201 (0,0))
def kE (im:Im):List ByteArray:=im.ks.map fun b=>strOf (DI b (im.img b))
theorem nW (im:Im):iT (kE im)=im.bE:=by
 unfold iT kE Im.bE
 rw[List.map_map]
 rfl
theorem pG (im:Im):(kE im).length=im.ks.length:=by simp[kE]
theorem jH.len {w:World}{b:Nat}{im:Im}(h:jH w b im)(ty:TypeId):(Builtin.len_ #[197] ty #[.map (some b)]).run Tryz.prog w= .ok (.int .i64 im.ks.length) w:=by
 obtain⟨D,hD,hs,_⟩:=h
 rw[<-hs]
 exact hD.len dX ty
theorem DF {im:Im}{n:Nat}(h:im.Ok n):∀s∈kE im,s.size=516:=by
 intro s hs
 obtain⟨b,hb,rfl⟩:=gV.1 hs
 show (DI b (im.img b)).toArray.size=516
 simp[DI,dK,h.img b hb]
theorem tF:∀(ss:List ByteArray) (k:Nat),(∀s∈ss,s.size=k)->gF ss=ss.length*(4+k)
 |[],k,_=>by simp[gF]
 |s::r,k,h=>by
  have ih:=tF r k (fun x hx=>h x (aT _ hx))
  unfold gF at ih ⊢
  rw[dO,jQ,ih,h s (aP ..),aU,dU]
  omega
theorem y8 {im:Im}{n:Nat}(h:im.Ok n)(hn:n<=4096):gF (kE im)<=1000000000:=by
 rw[tF _ 516 (DF h),pG]
 have:=uM _ _ h.rise h.hi
 omega
theorem Lg.vQ {l:Lg}{im:Im}{n:Nat}(h:im.Ok n)(hd:l.dead=false)(h0:0<im.ks.length)(h1:im.ks.length<=1024)(hr:bN im.bE<=l.room):l.bad (iT (kE im))=0:=by
 rw[nW]
 have hl:im.bE.length=im.ks.length:=by simp[Im.bE]
 unfold Lg.bad
 rw[hd,if_neg (by simp),if_neg (by rw[hl];omega),if_neg,if_neg (by omega)]
 simp only[RQ,dB]
 rintro⟨r,hr,h6⟩
 obtain⟨b,hb,rfl⟩:=gV.1 hr
 simp[DI,dK,h.img b hb] at h6
theorem Lg.Je {σ:Dk}{l:Lg}{u:Nat}(h:(l.trim σ u).2.2=0):(l.trim σ u).1.waits=[]/\(l.trim σ u).2.1=l.cut u:=by
 unfold Lg.trim at h ⊢
 split at h
 ·cases h
 ·rename_i h0
  split at h
  ·cases h
  ·rename_i h1
   split at h
   ·rename_i h2
    rw[if_neg h0,if_neg h1,if_pos h2]
    exact Lg.sO h2
   ·cases h
theorem Pg.Be {σ:Dk}{l:Lg}{p:Pg}(hl:l.Ok)(h:(p.home σ l).2.2.2=0):(p.home σ l).1.waits=[]/\(p.home σ l).2.1.dead=false/\(p.home σ l).2.1.last=l.last/\(p.home σ l).2.1.room=l.n - 1/\(p.home σ l).2.2.1={p with fresh:=Im.none}:=by
 unfold Pg.home at h ⊢
 split at h
 ·rename_i h1
  obtain⟨_,hl1,hld⟩:=Lg.sI h1
  split at h
  ·rename_i h2
   split at h
   ·rename_i h3
    split at h
    ·rename_i h4
     rw[if_pos h1,if_pos h2,if_pos h3,if_pos h4]
     obtain⟨hw,hc⟩:=Lg.Je h4
     refine⟨hw,?_,?_,?_,rfl⟩
     ·dsimp only;rw[hc,hl1];exact hld
     ·dsimp only;rw[hc,hl1];rfl
     ·dsimp only
      rw[hc,hl1]
      have hs:=uK l.last l.list (l.n - 1) l.start l.used (fun e he=>(hl.ent e he).2)
      show l.n - 1 - (Lg.oV l.last l.list (l.n - 1) l.start l.used).2.2=l.n - 1
      rw[hs.2.1,hl.sum];omega
    ·cases h
   ·cases h
  ·cases h
 ·cases h
theorem Lg.He (l:Lg)(b:List UInt8):∀(k i:Nat) (σ:Dk),(l.oq b k i σ).1.n=σ.n
 |0,_,_=>rfl
 |k+1,i,σ=>by
  rw[l.qj]
  split
  ·rw[Lg.He l b k,Dk.nQ]
  ·exact Dk.nQ _ _ _
theorem Lg.E8 (σ:Dk)(l:Lg)(b:List (List UInt8)):(l.append σ b).1.n=σ.n:=by
 unfold Lg.append
 split
 ·rfl
 ·split<;>exact Lg.He _ _ _ _ _
theorem Lg.xQ (σ:Dk)(l:Lg)(b:List (List UInt8)):(l.append σ b).2.1.frm=l.frm/\(l.append σ b).2.1.n=l.n:=by
 unfold Lg.append
 split
 ·exact⟨rfl,rfl⟩
 ·split<;>exact⟨rfl,rfl⟩
theorem Pg.Ir (p:Pg):∀(r:List Nat) (σ:Dk),(p.lay r σ).1.n=σ.n
 |[],_=>rfl
 |b::r,σ=>by
  rw[p.vv]
  split
  ·rw[Pg.Ir p r,Dk.nQ]
  ·exact Dk.nQ _ _ _
theorem Pg.Rl (σ:Dk)(l:Lg)(p:Pg):(p.home σ l).1.n=σ.n:=by
 unfold Pg.home
 split
 ·split
  ·split
   ·split<;>(dsimp only;rw[Lg.KX,Dk.lu,Pg.Ir,Lg.lu])
   ·dsimp only;rw[Dk.lu,Pg.Ir,Lg.lu]
  ·dsimp only;rw[Pg.Ir,Lg.lu]
 ·exact Lg.lu σ l
theorem Pg.JX (σ:Dk)(l:Lg)(p:Pg):(p.home σ l).2.2.1.skip=p.skip:=by
 unfold Pg.home
 split
 ·split
  ·split
   ·split<;>rfl
   ·rfl
  ·rfl
 ·rfl
theorem Pg.pY {p p5:Pg}{σ σ5 σ6:Dk}{l l5 l6:Lg}{im:Im}{nd k6:Nat}{q6:Int}(hd:p.dead=false)(he:im.ks≠[])(hn:bN im.bE=nd)(hc:¬(p.ring<nd\/1024<im.ks.length))(hr:p.ready σ l nd=(σ5,l5,p5,0))(hq:l5.append σ5 im.bE=(σ6,l6,k6,q6)):
  p.commit σ l im=if q6=0 then(σ6,l6,{p5 with fresh:=p5.fresh.over im},k6,0) else(σ6,l6,p5.dies,0,10):=by
 unfold Pg.commit
 rw[hd,if_neg (by simp),if_neg he,hn,if_neg hc,hr]
 dsimp only
 rw[hq]
 simp
theorem yj.fresh {w w':World}{Sd Sl Sp:Nat->Prop}{pg lg d fb:Nat}{σ:Dk}{l:Lg}{p:Pg}{op:Value}(h:yj w Sd Sl Sp pg lg d fb σ l p op)(hk:Keep (· =fb) w w')(F:Im)(hF:jH w' fb F)(ho:F.Ok (σ.n - p.skip)):yj w' Sd Sl Sp pg lg d fb σ l {p with fresh:=F} op:=
 ⟨h.log.keep hk (fun _ hg e=>h.dd fb h.sfb (e▸hg)) (fun _ hg e=>h.dl fb h.sfb (e▸hg)),⟨h.ok.frm,h.ok.skip,h.ok.ring,h.ok.fit,ho⟩,fun g hg=>ax (h.sub g hg) hk.size,h.dd,h.dl,h.Ac,h.sfb,
  (hk.block _ (h.sub _ h.Ac) (fun e=>h.fr.ne h.obj e)).trans h.obj,hF⟩
theorem tK.same {w w':World}{T:Nat->Prop}{t pg db n:Nat}{im:Im}(h:tK w T t pg db im n)(hk:Keep (fun g=>¬T g) w w'):tK w' T t pg db im n:=
 ⟨h.ok,fun g hg=>ax (h.sub g hg) hk.size,h.st,h.sdb,(hk.block _ (h.sub _ h.st) (fun e=>e h.st)).trans h.obj,h.img.block (hk.block _ (h.sub _ h.sdb) (fun e=>e h.sdb))⟩
def IK (w6 wr:World)(db:Nat)(D:DataW Unit)(Sd6 Sl6 Sp5:Nat->Prop)(pg lg5 d fb5:Nat)(σ6:Dk)(l6:Lg)(p5:Pg)(op:Value)(im:Im):Prop:=
 ∃(left:Lit->Bool) (cnt:Nat) (F:Im),Hid (wr.ranges Tryz.prog 3 rI db w6.heap.size 5000 D left cnt)/\Hid (yj wr Sd6 Sl6 Sp5 pg lg5 d fb5 σ6 l6 {p5 with fresh:=F} op)/\Hid (Mix p5.fresh im left F)/\Hid (∀kl,left kl=true->Maps.has D kl=true)/\Hid (Keep (fun g=>g=fb5\/w6.heap.size<=g) w6 wr)
theorem lK {P:Program}{fn:Func}{tmps tmps':Array Value}{R:Ending->World->Prop}(hr:results fn tmps=results fn tmps'):∀(ds:List Deferred) (u:FrameMode) (w:World),Leaves P fn tmps R ds u w->Leaves P fn tmps' R ds u w
 |[],.returning,w,h=>by
  obtain⟨v,h1,h2⟩:=h
  exact⟨v,hr▸h1,h2⟩
 |[],.panicking _,w,h=>h
 |[],.run,w,h=>h
 |d::ds,u,w,h=>by
  obtain⟨h1,fv,cap,f,args,h2,h3,h4⟩:=h
  refine⟨h1,fv,cap,f,args,h2,h3,h4.mono ?_⟩
  rintro e u' w' h
  cases e with
  |returned v=>exact lK hr ds _ _ h
  |panicked c=>exact lK hr ds _ _ h
  |outgrown=>exact h
theorem qz {R:Ending->World->Prop}{d:Nat}(h2:d≠2)(h3:d≠3){c:List PanicEntry}{a:Act}{v:Value}{w:World}(h:bodyPostD Tryz.prog Tryz.f53 R (.panic c) (a.put (some d) v) w):bodyPostD Tryz.prog Tryz.f53 R (.panic c) a w:=by
 refine lK ?_ _ _ _ (show Leaves Tryz.prog Tryz.f53 (a.tmps.setIfInBounds d v) R a.defers (.panicking c) w from h)
 unfold results
 rw[kZ]
 simp[nA,gW,h2,h3]
theorem uO {w w':World}{b r n:Nat}{D:DataW Unit}{left:Lit->Bool}{cnt:Nat}(h:w.ranges Tryz.prog 3 rI b r n D left cnt)(hb:w'.heap[b]? =w.heap[b]?)(hr:w'.heap[r]? =w.heap[r]?):w'.ranges Tryz.prog 3 rI b r n D left cnt:=by
 obtain⟨es,clock,since,seen,c0,h1,F,hs,hD,h2,rest⟩:=h
 exact⟨es,clock,since,seen,c0,hb.trans h1,F,hs,hD,hr.trans h2,rest⟩
theorem oh (w:World){ops:Array Oper}{rest:List Oper}{o:Oper}{a:Act}{Q:Exit->Act->World->Prop}(hg:o.guard=none)(it:Operand)(hop:o.op=Op.next it false)(b r n:Nat)(D:DataW Unit)(left:Lit->Bool)(cnt:Nat)
  (hit:a.eval it= .pointer (some ⟨r,0,none⟩)) (h:w.ranges Tryz.prog 3 rI b r n D left cnt)
  (hDone:cnt=0->(∀kl,left kl=false)->wpList Tryz.prog ops Q rest (a.put o.dst (.tuple #[.bool false])) w)
  (hMore:∀(x:Int) (c:List UInt8) (w':World) (cnt':Nat),(Lit.int .i64 x).wf=true->left (kI x)=true->c.length=512->(∀zd,D.atKey (kI x) zd= .lit (.string c))->w'.ranges Tryz.prog 3 rI b r n D (fun z=>left z && !z.sameKey (kI x)) cnt'->cnt'<cnt->
   w.grownBy w' (some r)->w'.heap.size=w.heap.size->(Instr.entry (.pointer (some ⟨r,0,none⟩))).run Tryz.prog w'= .ok (.tuple #[.int .i64 x,.agg (aB c).toArray]) w'->wpList Tryz.prog ops Q rest (a.put o.dst (.tuple #[.bool true,.int .i64 x,.agg (aB c).toArray])) w'):
  wpList Tryz.prog ops Q (o::rest) a w:=
 wpList_next_ranges w hg it hop 3 iw rI (Value.int .i64) (fun c:List UInt8=>Value.agg (aB c).toArray) (fun key kl hkey=>by obtain⟨x,rfl,_⟩:=Maps.keyOf_int_inv bS hkey;exact⟨x,rfl⟩) (fun v y hv=>by obtain⟨y1,y2⟩:=y;obtain⟨c,_,rfl,_⟩:=qW hv;exact⟨c,rfl⟩)
  b r n D left cnt hit h hDone (fun x c kl y w' cnt' hkey hlk hv hat hrg hlt hgr hsz hen=>by
   obtain⟨x',ex,rfl,hwx⟩:=Maps.keyOf_int_inv bS hkey
   cases ex
   obtain⟨y1,y2⟩:=y
   obtain⟨c',hc,ec,e1⟩:=qW hv
   have:c=c':=zS (congrArg Array.toList (Value.agg.inj ec))
   subst this
   exact hMore x c w' cnt' hwx hlk hc (fun zd=>(hat zd).trans e1) hrg hlt hgr hsz hen)
theorem aW.less {w:World}{S S':Nat->Prop}{k n:Nat}{v:Value}{xs:List Value}(h:aW w S k v n xs)(hS:∀g,S' g->S g):aW w S' k v n xs:=h.keep fun g _ _ hs=>⟨rfl,fun x=>hs (hS g x)⟩
theorem Ia (t pg d:Nat)(σ:Dk)(l:Lg)(p:Pg)(op:Value)(im:Im)(S T:Nat->Prop)(w:World)(h:iF w S pg d σ l p op)(ht:pJ w T t pg im (p.blocks σ))(hdis:∀g,S g->¬T g)(hd:p.dead=false)(hld:l.dead=false)(hcap:σ.waits.length<=90000)(hll:l.last<1000000000000):
  Calls Tryz.prog 53 #[.pointer (some ⟨t,0,none⟩)] w fun e w'=>e= .returned (.tuple #[.int .i64 (p.commit σ l im).2.2.2.1,.int .i64 (p.commit σ l im).2.2.2.2])/\
   ∃S',iF w' S' pg d (p.commit σ l im).1 (p.commit σ l im).2.1 (p.commit σ l im).2.2.1 (.pointer none)/\Fb w' t/\Step (fun g=>S g\/T g) (fun g=>S' g\/T g) w w':=by
 have hbp:0<p.blocks σ:=by have:=h.ok.1.fit;have:=h.ok.1.skip;unfold Pg.blocks;omega
 have HU:=af (BM t pg d σ l p op im S T (p.blocks σ) 0 w h ht hd hbp)
 have hbl:p.blocks σ<=4096:=by have:=h.ok.2.1.hi;unfold Pg.blocks;omega
 have hok:=ht
 obtain⟨db,hok⟩:=hok
 have HIO:=af hok.ok
 obtain⟨t0,t1,htl⟩:=hok.cells
 have HI:=af hok.img
 have HTx:=af hok
 have HLN:=af (uM _ _ hok.ok.rise hok.ok.hi)
 have hfin:∀(w1:World) (S1:Nat->Prop) (σ1:Dk) (l1:Lg) (p1:Pg) (op1:Value),iF w1 S1 pg d σ1 l1 p1 op1->Keep S w w1->Step S S1 w w1->CallsD Tryz.prog 93 #[.pointer (some ⟨t,0,none⟩)] .returning w1 fun e u' w'=>u'= .returning/\e= .returned (.tuple #[])/\iF w' S1 pg d σ1 l1 p1 (.pointer none)/\Fb w' t/\Step (fun g=>S g\/T g) (fun g=>S1 g\/T g) w w':=by
  intro w1 S1 σ1 l1 p1 op1 hP1 hk hs
  have hT1:=ht.keep hk (fun g hg e=>hdis g e hg)
  have hd1:∀g,S1 g->¬T g:=fun g hg e=>(hs.2 g hg).elim (fun x=>hdis g x e) (fun x=>absurd (ht.sub g e) (aV.2 x))
  refine(K6 t pg d σ1 l1 p1 op1 im _ S1 T .returning w1 hP1 hT1 hd1).mono ?_
  rintro e u' w' ⟨rfl,rfl,hP2,hE,hK⟩
  refine⟨rfl,rfl,hP2,hE,?_,fun g hg=> ?_⟩
  ·have hk0:Keep (fun g=>S g\/T g) w w1:=hk.mono (fun _ _ e=> .inl e)
   refine hk0.trans hK (fun g hg e=> ?_)
   rcases e with e|e
   ·exact(hs.2 g e).elim .inl (fun x=>absurd hg (aV.2 x))
   ·exact .inr e
  ·rcases hg with hg|hg
   ·exact(hs.2 g hg).elim (fun x=> .inl (.inl x)) .inr
   ·exact .inl (.inr hg)
 have HFin:=af hfin;clear hfin
 have HPk:=af h
 obtain⟨Sd,Sl,Sp,lg,fb,h,hS⟩:=h
 obtain⟨c0,c1,c2,c3,c4,_,c6,hlt,_⟩:=h.cells
 have HH:=af h
 have hlen:(Builtin.len_ #[197] 3 #[.map (some db)]).run Tryz.prog w.drew= .ok (.int .i64 im.ks.length) w.drew:=(HI.out.block (w':=w.drew) rfl).len _
 have HLa:=af (Sv pg d σ l p op S w.drew (HPk.out.below ((aH _ w).drew)))
 have HIk:=af (show ∀g,T g->g<w.heap.size from ht.sub)
 clear h ht c2 c4 c6
 by_cases he:im.ks=[]
 ·have hl0:im.ks.length=0:=by rw[he];rfl
  rw[hl0] at hlen
  have HM:=af (show p.commit σ l im=(σ,l,p,l.last,0) by unfold Pg.commit;simp[hd,he])
  have HF:=af (HFin.out w.drew S σ l p op (HPk.out.below ((aH _ w).drew)) ((Keep.refl S w).drew) (Step.of_below ((aH _ w).drew)))
  go_enter_defers Tryz.func53,Tryz.ntmps53
  go_wp2_with (first
   |(go_at_call 92;go_must (refine HU.out.mono ?_;rintro e w1 ⟨rfl,hw1⟩;subst w1))
   |(go_at_call 79;go_must (refine HLa.out.mono ?_;rintro e w1 ⟨rfl,hw1⟩;subst w1)))
  refine dQ (f:=93) (args:=#[.pointer (some ⟨t,0,none⟩)]) (by simp) (by simp[go_sem]) ?_
  refine HF.out.mono ?_
  rintro e u' w' ⟨rfl,rfl,hP2,hE,hS2⟩
  rw[HM.out]
  exact⟨_,by simp[results,kZ,go_sem],rfl,S,hP2,hE,hS2⟩
 ·have hl0:0<im.ks.length:=Nat.pos_of_ne_zero (fun e=>he (bn e))
  have hl0':¬((im.ks.length:Int)=0):=by omega
  have hl0'':((im.ks.length:Int)==0)=false:=by simpa using hl0'
  have HSo:=af (Hz db w.heap.size im _ (w.drew.alloc (.cells #[.map (some db)] 197)) ((HI.out.block (w':=w.drew) rfl).block (nD _ _ _ HI.out.lt)) HIO.out hbl ((Nn _ _ 0 _ _ (0,0) (aF w.drew _)).trans rfl) (by show w.drew.heap.size<_;simp))
  go_enter_defers Tryz.func53,Tryz.ntmps53
  go_wp2_with (first
   |(go_at_call 92;go_must (refine HU.out.mono ?_;rintro e w1 ⟨rfl,hw1⟩;subst w1))
   |(go_at_call 95;go_must (refine(PD db _).mono ?_;rintro e w2 ⟨rfl,hw2⟩;subst w2))
   |(go_at_call 94;go_must (refine HSo.out.mono ?_;rintro e w3 ⟨v,rfl,hO,hb3⟩;refine Stop.of ?_)))
  refine Stop.on ?_
  have HB3:=af (show Below w.heap.size w w3 from((aH w.heap.size w).drew).trans ((aC w.drew (.cells #[.map (some db)] 197)).trans (hb3.mono (by simp)):Below w.drew.heap.size w.drew w3))
  obtain⟨vo,vc,rfl,_,_,_,_⟩:=aW.form hO.dL
  have HO:=af hO;clear hO hb3 HSo
  go_wp2_with fail
  go_loopw [6,40] (fun b i wr=>∃(k:Nat) (ao:Option Addr) (c:Nat),k<=im.ks.length/\i= .int .i64 k/\b= .slice ao k c/\Hid (aQ wr d9 w3.heap.size 9 1 b k (((kE im).take k).map .string))/\Hid (Below w3.heap.size w3 wr)) (fun _ i _=>im.ks.length - (intOf i).toNat)
  case atStart=>exact⟨0,none,0,aN _,rfl,rfl,af (aQ.nil _ _ _ _ _),af (aH _ _)⟩
  case round=>
   obtain⟨k,ao,c,hk,rfl,rfl,HBt,HBl⟩:=hrel
   by_cases hlt2:k<im.ks.length
   ·have hltI:(k:Int)<(im.ks.length:Int):=by omega
    obtain⟨b,HB⟩:∃b,Hid (im.ks[k]=b):=⟨_,af rfl⟩
    have hbm:b∈im.ks:=by rw[<-HB.out];exact bI hlt2
    have hb1:=HIO.out.hi b hbm
    have hbw:=wH (b:Int) (by omega) (by omega)
    have HBr:=af (HB3.out.trans (HBl.out.mono HB3.out.size))
    obtain⟨kb,kq,rfl,hkc⟩:=aW.Bz ((HO.out.dL (S:=d9)).below HBl.out) rfl k (.int .i64 (b:Int)) (by simp[bD hlt2,HB.out])
    have hIr:=HI.out.block (HBr.out.block _ HI.out.lt)
    obtain⟨D,hD,hh,hat⟩:=hIr.look b
    have hz:(zeroValue 209).run Tryz.prog wr= .ok (.agg (aB zB).toArray) wr:=iW wr
    obtain⟨v1,ps1,hrun,hv1⟩:=hD.lookup iw dX hz sK (nT b hbw)
    obtain⟨x,hx,rfl,hdx⟩:=qW hv1
    have hxe:x=im.img b:=by
     have h1:=(hat hbm).symm.trans hdx
     injection h1 with h1
     injection h1 with h1
     exact h1.symm
    have HXE:=af hxe;have HX:=af hx
    clear hv1 hdx hat hh hD hxe hx hIr
    have r1:=(HBr.out.cell (p:=⟨t,1,none⟩) htl).trans t1
    have htr:=ax htl HBr.out.size
    have HR:=af (Oa b x wr (by omega) HX.out)
    have hkb:k<=4096:=by have:=HLN.out;omega
    have hszr:=HBl.out.size
    have HSn:=af (show (kE im).take (k+1)=(kE im).take k++[strOf (DI b x)] by
     rw[List.take_add_one]
     congr 1
     unfold kE
     rw[dH,bD hlt2,HB.out,HXE.out]
     rfl)
    obtain⟨sr,HSr⟩:∃sr,Hid (strOf (DI b x)=sr):=⟨_,af rfl⟩
    rw[HSr.out] at HR HSn
    go_wp2_with (first
     |(go_at_call 96;go_must (refine HR.out.mono ?_;rintro e w4 ⟨rfl,hb4⟩;have hb4s:=hb4.size))
     |(at_builtin;go_must ((refine dS rfl (.tmp 44) (.tmp 53) 146 146 rfl d9 w3.heap.size 9 1 16 _ iV vB rfl (.slice ao k c) _ _ rfl ((HBt.out.below (w':=w4) hb4).below (aC _ _)) _ 1 _ rfl (iq [_] _ 1 1 1 rfl iV rfl ?_) (fun _ h=>h.elim) ?_ ?_ ?_ ?_);(focus (simp[Value.oneCell']));(focus (simp only[aZ];omega));(focus (unfold maxLen;omega));(focus omega);intro ao1 c1 w5 hown5 hk5 hb5 hd5)))
    have HO5:=af hown5
    have HB5:=af ((HBl.out.trans (hb4.mono hszr)).trans (((aC w4 _).mono (aG hszr hb4s)).trans hb5))
    clear hown5 hk5 hb5 hd5 hb4
    go_roundw
    case rel=>
     refine⟨k+1,ao1,c1,by omega,by go_num,rfl,af ?_,HB5⟩
     rw[HSn.out,eP]
     exact HO5.out
    case measure=>simp[intOf];omega
   ·obtain rfl:k=im.ks.length:=by omega
    rw[aI (fA (pG im))] at HBt
    have HBr:=af (HB3.out.trans (HBl.out.mono HB3.out.size))
    have hlr:=pG im
    have hBt:oM wr S (.slice ao im.ks.length c) (kE im):=by
     have h0:=(HBt.out.other (S':=S) (fun g hg hs=>by have:=HPk.out.sub g hs;have:=HB3.out.size;omega)).dL
     show aW wr S 1 _ (kE im).length _
     rw[hlr];exact h0
    have HBS:=af hBt
    obtain⟨nd,Hnd⟩:∃nd,Hid (bN (iT (kE im))=nd):=⟨_,af rfl⟩
    have HN:=af (KJ _ (kE im) S wr hBt (y8 HIO.out hbl))
    rw[Hnd.out] at HN
    have Hnd':=af (show bN im.bE=nd by rw[<-Hnd.out,nW])
    have hndl:nd<=3000000:=by
     rw[<-Hnd.out];unfold bN
     rw[sP]
     have:=y8 HIO.out hbl;omega
    have d1:=(HBr.out.cell (p:=⟨pg,1,none⟩) hlt).trans c1
    have d3:=(HBr.out.cell (p:=⟨pg,3,none⟩) hlt).trans c3
    have s1:=(HBr.out.cell (p:=⟨t,1,none⟩) htl).trans t1
    have htr:=ax htl HBr.out.size
    have hpr:=ax hlt HBr.out.size
    have HPr:=af (HPk.out.below HBr.out)
    have HSr:=af (Step.of_below (S:=S) HBr.out)
    have HF0:=af (HFin.out wr S σ l p op HPr.out HSr.out.1 HSr.out)
    have hRo:=af (Po lg d l Sl wr (HH.out.log.lg.keep (Keep.of_below HBr.out d9) (fun _ _ e=>e)))
    clear hBt hlen hl0' hl0'' t1 c1 c3 t0 c0
    by_cases h1:p.ring<nd
    ·have h1I:(p.ring:Int)<(nd:Int):=by omega
     have HM:=af (show p.commit σ l im=(σ,l,p,0,13) by unfold Pg.commit;rw[Hnd'.out];simp[hd,he,h1])
     go_wp2_with (first
      |(go_at_call 97;go_must (refine HN.out.mono ?_;rintro e w7 ⟨rfl,hw7⟩;subst w7)))
     refine dQ (f:=93) (args:=#[.pointer (some ⟨t,0,none⟩)]) (by simp) (by simp[go_sem]) ?_
     refine HF0.out.mono ?_
     rintro e u' w' ⟨rfl,rfl,hP2,hE,hS2⟩
     rw[HM.out]
     exact⟨_,by simp[results,kZ,go_sem],rfl,S,hP2,hE,hS2⟩
    ·have h1I:¬((p.ring:Int)<(nd:Int)):=by omega
     by_cases h2:1024<im.ks.length
     ·have h2I:(1024:Int)<(im.ks.length:Int):=by omega
      have HM:=af (show p.commit σ l im=(σ,l,p,0,13) by unfold Pg.commit;rw[Hnd'.out];simp[hd,he,h2])
      go_wp2_with (first
       |(go_at_call 97;go_must (refine HN.out.mono ?_;rintro e w7 ⟨rfl,hw7⟩;subst w7)))
      refine dQ (f:=93) (args:=#[.pointer (some ⟨t,0,none⟩)]) (by simp) (by simp[go_sem]) ?_
      refine HF0.out.mono ?_
      rintro e u' w' ⟨rfl,rfl,hP2,hE,hS2⟩
      rw[HM.out]
      exact⟨_,by simp[results,kZ,go_sem],rfl,S,hP2,hE,hS2⟩
     ·have h2I:¬((1024:Int)<(im.ks.length:Int)):=by omega
      have HC2:=af (show ¬(p.ring<nd\/1024<im.ks.length) by omega)
      have hbd:=(aH wr.heap.size wr).drew
      by_cases h3:l.room<nd
      ·have h3I:(l.room:Int)<(nd:Int):=by omega
       have HHo:=af (Sr pg d σ l p op S wr.drew (HPr.out.below hbd) hcap)
       obtain⟨σ5,l5,p5,q5,HQ5⟩:∃σ5 l5 p5 q5,Hid (p.home σ l=(σ5,l5,p5,q5)):=⟨_,_,_,_,af rfl⟩
       have HKN:=af (show σ5.n - p5.skip=p.blocks σ by
        have e1:=Pg.Rl σ l p;have e2:=Pg.JX σ l p
        rw[HQ5.out] at e1 e2
        dsimp only at e1 e2
        rw[e1,e2];rfl)
       have HZ5:=af (show q5=0->σ5.waits=[]/\l5.dead=false/\l5.last=l.last/\l5.room=l.n - 1/\p5={p with fresh:=Im.none} from fun e=>by
        have:=Pg.Be (σ:=σ) (l:=l) (p:=p) HPk.out.ok.2.2 (by rw[HQ5.out];exact e)
        rw[HQ5.out] at this
        exact this)
       rw[HQ5.out] at HHo
       have hrg:=HPk.out.ok.1.ring
       go_wp2_with (first
        |(go_at_call 97;go_must (refine HN.out.mono ?_;rintro e w7 ⟨rfl,hw7⟩;subst w7))
        |(go_at_call 98;go_must (refine hRo.out.mono ?_;rintro e w7 ⟨rfl,hw7⟩;subst w7))
        |(go_at_call 99;go_must (refine HHo.out.mono ?_;rintro e w5 ⟨rfl,S5,hP5,hs5⟩;refine Stop.of ?_)))
       refine Stop.on ?_
       have HP5:=af hP5
       have HT5:=af ((HSr.out.trans (Step.of_below (S:=S) hbd)).trans hs5)
       have HB5:=af (aW.step (HBS.out.below hbd) hs5)
       clear hP5 hs5 hbd
       by_cases hq5:q5=0
       ·subst hq5
        obtain⟨z1,z2,z3,z4,z5⟩:=HZ5.out rfl
        have HR5:=af (show p.ready σ l nd=(σ5,l5,p5,0) by unfold Pg.ready;rw[if_pos h3,HQ5.out])
        have HBad:=af (Lg.vQ (l:=l5) HIO.out z2 hl0 (by omega) (by rw[Hnd'.out];omega))
        have HW5:=af (show σ5.waits.length<=90000 by rw[z1];exact aN _)
        have HL5:=af (show l5.last<1000000000000 by rw[z3];exact hll)
        clear z1 z2 z3 z4 z5
        obtain⟨Sd5,Sl5,Sp5,lg5,fb5,h5,hS5⟩:=HP5.out
        obtain⟨_,x1,_,_,x4,_,_,hl5,_⟩:=h5.cells
        have HH5:=af h5
        have HA5:=af (GZ lg5 d σ5 l5 Sd5 Sl5 _ (kE im) w5 h5.log (HB5.out.less (fun g hg=>(hS5 g).2 (hg.elim .inl (fun x=> .inr (.inl x))))) HBad.out HW5.out HL5.out)
        rw[nW] at HA5
        obtain⟨σ6,l6,k6,q6,HQ6⟩:∃σ6 l6 k6 q6,Hid (l5.append σ5 im.bE=(σ6,l6,k6,q6)):=⟨_,_,_,_,af rfl⟩
        rw[HQ6.out] at HA5
        have HN6:=af (show σ6.n=σ5.n by have:=Lg.E8 σ5 l5 im.bE;rw[HQ6.out] at this;exact this)
        have HS6:=af (show l6.frm=l5.frm/\l6.n=l5.n by have:=Lg.xQ σ5 l5 im.bE;rw[HQ6.out] at this;exact this)
        have HEq:=af (Pg.pY hd he Hnd'.out HC2.out HR5.out HQ6.out)
        clear h5
        go_wp2_with (first
         |(go_at_call 100;go_must (refine HA5.out.mono ?_;rintro e w6 ⟨rfl,Sd6,Sl6,hA6,hT6⟩;refine Stop.of ?_)))
        refine Stop.on ?_
        have hP6:=HH5.out.turn hA6 hT6 (HH5.out.ok.turn HN6.out HS6.out.1 HS6.out.2)
        have HP6:=af hP6.1
        have HT6:=af (HT5.out.trans (hP6.2.eqv (S':=Three Sd6 Sl6 Sp5) hS5 (fun _=>Iff.rfl)))
        clear hP6 hA6 hT6 x1 x4 hl5
        by_cases hq:q6=0
        ·subst hq
         rw[if_pos rfl] at HEq
         have hT6':=HTx.out.same ((HT6.out.1).mono (fun g _ e=>hdis g e))
         have HD6:∃D,w6.ownsMap Tryz.prog 3 rI db 5000 D/\(∀kl,Maps.has D kl=true->∃k:Nat,kl=kI k)/\(∀k:Nat,Maps.has D (kI k)=decide (k∈im.ks))/\∀k:Nat,k∈im.ks->∀z,D.atKey (kI k) z= .lit (.string (im.img k)):=by
          obtain⟨D,q1,q2,q3,q4,q5⟩:=hT6'.img
          exact⟨D,q1,q3,q4,q5⟩
         obtain⟨D,hD,hD0,hD1,hD2⟩:=HD6
         have HDs:=af (ak hD0 (ak hD1 hD2))
         obtain⟨y0,y1,ytl⟩:=hT6'.cells
         have HTx6:=af hT6'
         clear hD0 hD1 hD2 hT6'
         go_wp2_with (first
          |(at_range;go_must (refine wpList_range_own _ rfl _ 197 rfl 3 209 iw dX rI db 5000 D rfl hD ?_;intro w7 hrg7 hg7 hs7))
          |go_in)
         go_frame
         have HRG7:=af hrg7
         have hk67:Keep d9 w6 w7:=(Keep.refl d9 w6).grown hg7 (fun k e=>by cases e)
         have HK67:=af hk67
         have HP7:=af (HP6.out.keep hk67 (fun _ _ e=>e))
         clear hrg7 hg7 hk67 hD
         go_loopw [] (fun wr=>IK w6 wr db D Sd6 Sl6 Sp5 pg lg5 d fb5 σ6 l6 p5 op im) (fun wr=>wr.rangeLeft db w6.heap.size)
         case atStart=>
          exact⟨_,_,p5.fresh,HRG7,HP7,af (Mix.start HP6.out.ok.fresh.rise (fun b hb=>by rw[HDs.out.2.1];exact eT hb)),af (fun _ h=>h),af (HK67.out.mono (fun _ _ e=>e.elim))⟩
         case round=>
          obtain⟨left,cnt,F,HRG,HPF,HMx,HLf,HKr⟩:=hrel
          go_wp2_with (first
           |(at_next;go_must (refine oh _ rfl _ rfl db w6.heap.size 5000 D left cnt rfl HRG.out ?_ ?_))
           |go_in)
          ·intro _ hl0
           have hF:=HMx.out.done HP6.out.ok.fresh.rise hl0
           rw[hF] at HPF
           have hsf:=HP6.out.sfb
           have HSf:=af (show Step S (Three Sd6 Sl6 Sp5) w wr from HT6.out.trans ⟨HKr.out.mono (fun g hg e=>e.elim (fun x=>x▸.inr (.inr hsf)) (fun x=>absurd hg (aV.2 x))),fun _ hg=> .inl hg⟩)
           go_wp2_with fail
           refine dQ (f:=93) (args:=#[.pointer (some ⟨t,0,none⟩)]) (by simp) (by simp[go_sem]) ?_
           refine(HFin.out wr _ σ6 l6 _ op HPF.out.pack HSf.out.1 HSf.out).mono ?_
           rintro e u' w' ⟨rfl,rfl,hP2,hE,hS2⟩
           rw[HEq.out]
           exact⟨_,by simp[results,kZ,go_sem],rfl,_,hP2,hE,hS2⟩
          ·intro x c8 w8 cnt8 hwx hlx hc8 hat hrg8 hlt8 hg8 hs8 hen
           obtain⟨kx,hkx⟩:=HDs.out.1 _ (HLf.out _ hlx)
           have hxk:x=(kx:Int):=by injection hkx
           subst hxk
           have hmx:kx∈im.ks:=by
            have h0:=HLf.out _ hlx
            rw[HDs.out.2.1] at h0
            exact aR h0
           have hce:c8=im.img kx:=by
            have h0:=(hat (.lit (.string zB))).symm.trans (HDs.out.2.2 kx hmx _)
            injection h0 with h0
            injection h0
           have hkn:=HIO.out.hi kx hmx
           have hlo:∀g,Three Sd6 Sl6 Sp5 g->g<w6.heap.size:=HP6.out.pack.sub
           have hk8:Keep (· =w6.heap.size) wr w8:=Keep.qX hg8
           have hP8:=HPF.out.keep hk8 (fun g hg e=>bY _ (e▸hlo g hg))
           obtain⟨_,_,_,_,z4,_,_,hl8,_⟩:=hP8.cells
           have hr9:Row (w8.alloc (.cells (aB zB).toArray 209)) w8.heap.size 209 (aB zB):=Row.new w8 _ _
           have hz1:=af (show (aB zB).length=512 by rw[aY,fF])
           have hb5:=af (show (aB c8).length=512 by rw[aY,hc8])
           have hone:=fq c8
           have hval:=af (Ht c8 hc8)
           have HCE:=af hce;have HC8:=af hc8;have HKX:=af hkx
           clear hce hat hkx
           have HRG8:=af hrg8;have HK8:=af hk8;have HP8:=af hP8
           clear hrg8 hk8 hP8 hg8 hs8
           go_wp2_with (first
            |((refine bU rfl ?_);intro K hK;(refine fZ 209 rfl _ iW ?_);refine hK _ _ ?_)
            |((refine bU rfl ?_);intro K hK;(refine wp_store_row 209 _ _ rfl w8.heap.size 0 209 _ (aB c8) rfl rfl hr9 (jy.trans (congrArg some hb5.out.symm)) (by rw[hz1.out,hb5.out];omega) hone ?_);intro w9 hr10 hk9;refine hK _ _ (Stop.of ?_)))
           refine Stop.on ?_
           rw[kC _ _ (hz1.out.trans hb5.out.symm)] at hr10
           have hb9:Below w8.heap.size w8 w9:=(((Keep.refl (fun _=>False) w8).alloc _).trans (hk9.mono (M':=fun g=>g=w8.heap.size) (fun _ _ e=>e)) (fun i hi e=>by omega)).below
           have HP9:=af (HP8.out.keep (Keep.of_below hb9 d9) (fun _ _ e=>e))
           have z49:w9.drew.cell? ⟨pg,4,none⟩=some (.map (some fb5)):=(hb9.cell (p:=⟨pg,4,none⟩) hl8).trans z4
           have hl9:pg<w9.drew.heap.size:=ax hl8 hb9.size
           obtain⟨C,HC⟩:∃C,Hid (aB c8=C):=⟨_,af rfl⟩
           rw[HC.out] at hr10 hone hb5 hval
           have hw:w9.drew.rangeAt w8.heap.size 0 C:=hr10.whole
           have hfo:=HP9.out.ok.fresh
           have hn9:=HP9.out.log.dk.ok.hi
           have hfr:=HP9.out.fr
           obtain⟨E,hE,he1,he2,he3,he4⟩:=hfr
           have HE:=af hE;have HEs:=af (ak he1 (ak he2 (ak he3 he4)))
           have hknn:kx<σ6.n - p5.skip:=by
            rw[HN6.out,HKN.out];exact hkn
           have hkb:=wH (kx:Int) (by omega) (by omega)
           clear hr10 hk9 hr9 hE he1 he2 he3 he4 hen
           go_wp2_with fail
           refine aK (fun W=>W=w9.drew) (fun i=> !([6].contains i)) [0,1,2,3,4,5,6] rfl (by kernel_rfl) rfl ?_
           repeat ((refine bq (v:= ?_) rfl rfl ?_ rfl (fun W hW=> ?_) ?_);rotate_left;(focus (exact fun c a w h=>qz (by decide) (by decide) h));(focus ((try dsimp only at hW);subst hW;(go_simp;first|done|with_reducible rfl)));(try simp only[Act.put,aj,av,au]))
           refine bq (v:= .agg C.toArray) rfl rfl (fun c a w h=>qz (by decide) (by decide) h) rfl (fun W hW=> ?_) ?_
           ·subst hW
            exact jU 209 (.tmp 14) rfl w8.heap.size 0 rfl C _ hw Tryz.underlying209 rfl (jy.trans (congrArg some hb5.out.symm))
           simp only[Act.put,aj,av,au]
           refine jm rfl rfl rfl (by kernel_rfl) ?_;intro K hK
           refine qi _ _ _ 197 rfl 3 209 iw dX rI fb5 5000 E rfl (RH HE.out) (by simp[maxLen]) _ _ (kI kx) rfl rfl (nT kx hkb) (.lit (.string c8)) [] hval.out ?_
           intro w10 ho10 hg10
           refine hK.out _ _ ?_
           refine bF ?_
           have hk10:Keep (· =fb5) w9 w10:=((Keep.refl (· =fb5) w9).drew).trans (Keep.qX hg10) (fun _ _ e=>e)
           have HI10:=af (jH.put hfo (by omega) kx c8 hknn HE.out HEs.out.1 HEs.out.2.1 HEs.out.2.2.1 HEs.out.2.2.2 ho10)
           have HP10:=af (HP9.out.fresh hk10 (F.put kx c8) HI10.out (hfo.put kx c8 hknn HC8.out))
           have hnd:db≠fb5:=fun e=>by
            have h1:Three Sd6 Sl6 Sp5 db:=e▸.inr (.inr HP6.out.sfb)
            rcases HT6.out.2 db h1 with h2|h2
            ·exact hdis db h2 HTx.out.sdb
            ·exact absurd (HTx.out.sub db HTx.out.sdb) (aV.2 h2)
           have hdl:db<w8.heap.size:=HRG8.out.owns.lt
           have hrl:w6.heap.size<w8.heap.size:=HRG8.out.lt
           have hfl:=hlo _ (.inr (.inr HP6.out.sfb))
           have HRG10:=af (uO HRG8.out ((hk10.block db (ax hdl hb9.size) hnd).trans (hb9.block db hdl)) ((hk10.block _ (ax hrl hb9.size) (fun e=>by omega)).trans (hb9.block _ hrl)))
           have HMx10:=af (HMx.out.put kx hmx)
           rw[<-HCE.out] at HMx10
           have HK10:Hid (Keep (fun g=>g=fb5\/w6.heap.size<=g) w6 w10):=af (((HKr.out.trans HK8.out (fun _ _ e=> .inr (fA e.symm))).trans (Keep.of_below hb9 _) (fun _ _ e=>e)).trans hk10 (fun _ _ e=> .inl e))
           clear ho10 hg10 hk10 hb9 z4 z49 hw
           go_wp2_with fail
           go_roundw
           case rel=>exact⟨_,cnt8,_,HRG10,HP10,HMx10,af (fun kl h=>HLf.out kl (by simp only[dI] at h;exact h.1)),HK10⟩
           case measure=>rw[HRG10.out.left_eq,HRG.out.left_eq];exact hlt8
        ·rw[if_neg hq] at HEq
         have hq':(q6 !=0)=true:=by simpa using hq
         have HFB:=af (kF pg d σ6 l6 p5 op S _ q6 w w6 HP6.out.pack HT6.out hq)
         go_wp2_with (first
          |(go_at_call 101;go_must (refine HFB.out.mono ?_;rintro e w7 ⟨rfl,S7,hP7,hs7⟩)))
         refine dQ (f:=93) (args:=#[.pointer (some ⟨t,0,none⟩)]) (by simp) (by simp[go_sem]) ?_
         refine(HFin.out w7 S7 σ6 l6 p5.dies op hP7 hs7.1 hs7).mono ?_
         rintro e u' w' ⟨rfl,rfl,hP2,hE,hS2⟩
         rw[HEq.out]
         exact⟨_,by simp[results,kZ,go_sem],rfl,S7,hP2,hE,hS2⟩
       ·have hq':(q5 !=0)=true:=by simpa using hq5
        have HM:=af (show p.commit σ l im=(σ5,l5,p5,0,q5) by
         unfold Pg.commit Pg.ready
         rw[hd,if_neg (by simp),if_neg he,Hnd'.out,if_neg HC2.out,if_pos h3,HQ5.out]
         simp[hq5])
        go_wp2_with fail
        refine dQ (f:=93) (args:=#[.pointer (some ⟨t,0,none⟩)]) (by simp) (by simp[go_sem]) ?_
        refine(HFin.out w5 S5 σ5 l5 p5 op HP5.out HT5.out.1 HT5.out).mono ?_
        rintro e u' w' ⟨rfl,rfl,hP2,hE,hS2⟩
        rw[HM.out]
        exact⟨_,by simp[results,kZ,go_sem],rfl,S5,hP2,hE,hS2⟩
      ·have h3I:¬((l.room:Int)<(nd:Int)):=by omega
       have HR5:=af (show p.ready σ l nd=(σ,l,p,0) by unfold Pg.ready;rw[if_neg h3])
       have HP5:=af (HPr.out.below hbd)
       have HT5:=af (HSr.out.trans (Step.of_below (S:=S) hbd))
       have HB5:=af (HBS.out.below hbd)
       have HBad:=af (Lg.vQ (l:=l) HIO.out hld hl0 (by omega) (by rw[Hnd'.out];omega))
       have HW5:=af hcap;have HL5:=af hll
       have HKN:=af (show σ.n - p.skip=p.blocks σ from rfl)
       go_wp2_with (first
        |(go_at_call 97;go_must (refine HN.out.mono ?_;rintro e w7 ⟨rfl,hw7⟩;subst w7))
        |(go_at_call 98;go_must (refine hRo.out.mono ?_;rintro e w7 ⟨rfl,hw7⟩;subst w7;refine Stop.of ?_)))
       refine Stop.on ?_
       generalize wr.drew=w5 at*
       obtain⟨Sd5,Sl5,Sp5,lg5,fb5,h5,hS5⟩:=HP5.out
       obtain⟨_,x1,_,_,x4,_,_,hl5,_⟩:=h5.cells
       have HH5:=af h5
       have HA5:=af (GZ lg5 d σ l Sd5 Sl5 _ (kE im) w5 h5.log (HB5.out.less (fun g hg=>(hS5 g).2 (hg.elim .inl (fun x=> .inr (.inl x))))) HBad.out HW5.out HL5.out)
       rw[nW] at HA5
       obtain⟨σ6,l6,k6,q6,HQ6⟩:∃σ6 l6 k6 q6,Hid (l.append σ im.bE=(σ6,l6,k6,q6)):=⟨_,_,_,_,af rfl⟩
       rw[HQ6.out] at HA5
       have HN6:=af (show σ6.n=σ.n by have:=Lg.E8 σ l im.bE;rw[HQ6.out] at this;exact this)
       have HS6:=af (show l6.frm=l.frm/\l6.n=l.n by have:=Lg.xQ σ l im.bE;rw[HQ6.out] at this;exact this)
       have HEq:=af (Pg.pY hd he Hnd'.out HC2.out HR5.out HQ6.out)
       clear h5
       go_wp2_with (first
        |(go_at_call 100;go_must (refine HA5.out.mono ?_;rintro e w6 ⟨rfl,Sd6,Sl6,hA6,hT6⟩;refine Stop.of ?_)))
       refine Stop.on ?_
       have hP6:=HH5.out.turn hA6 hT6 (HH5.out.ok.turn HN6.out HS6.out.1 HS6.out.2)
       have HP6:=af hP6.1
       have HT6:=af (HT5.out.trans (hP6.2.eqv (S':=Three Sd6 Sl6 Sp5) hS5 (fun _=>Iff.rfl)))
       clear hP6 hA6 hT6 x1 x4 hl5
       by_cases hq:q6=0
       ·subst hq
        rw[if_pos rfl] at HEq
        have hT6':=HTx.out.same ((HT6.out.1).mono (fun g _ e=>hdis g e))
        have HD6:∃D,w6.ownsMap Tryz.prog 3 rI db 5000 D/\(∀kl,Maps.has D kl=true->∃k:Nat,kl=kI k)/\(∀k:Nat,Maps.has D (kI k)=decide (k∈im.ks))/\∀k:Nat,k∈im.ks->∀z,D.atKey (kI k) z= .lit (.string (im.img k)):=by
         obtain⟨D,q1,q2,q3,q4,q5⟩:=hT6'.img
         exact⟨D,q1,q3,q4,q5⟩
        obtain⟨D,hD,hD0,hD1,hD2⟩:=HD6
        have HDs:=af (ak hD0 (ak hD1 hD2))
        obtain⟨y0,y1,ytl⟩:=hT6'.cells
        have HTx6:=af hT6'
        clear hD0 hD1 hD2 hT6'
        go_wp2_with (first
         |(at_range;go_must (refine wpList_range_own _ rfl _ 197 rfl 3 209 iw dX rI db 5000 D rfl hD ?_;intro w7 hrg7 hg7 hs7))
         |go_in)
        go_frame
        have HRG7:=af hrg7
        have hk67:Keep d9 w6 w7:=(Keep.refl d9 w6).grown hg7 (fun k e=>by cases e)
        have HK67:=af hk67
        have HP7:=af (HP6.out.keep hk67 (fun _ _ e=>e))
        clear hrg7 hg7 hk67 hD
        go_loopw [] (fun wr=>IK w6 wr db D Sd6 Sl6 Sp5 pg lg5 d fb5 σ6 l6 p op im) (fun wr=>wr.rangeLeft db w6.heap.size)
        case atStart=>
         exact⟨_,_,p.fresh,HRG7,HP7,af (Mix.start HP6.out.ok.fresh.rise (fun b hb=>by rw[HDs.out.2.1];exact eT hb)),af (fun _ h=>h),af (HK67.out.mono (fun _ _ e=>e.elim))⟩
        case round=>
         obtain⟨left,cnt,F,HRG,HPF,HMx,HLf,HKr⟩:=hrel
         go_wp2_with (first
          |(at_next;go_must (refine oh _ rfl _ rfl db w6.heap.size 5000 D left cnt rfl HRG.out ?_ ?_))
          |go_in)
         ·intro _ hl0
          have hF:=HMx.out.done HP6.out.ok.fresh.rise hl0
          rw[hF] at HPF
          have hsf:=HP6.out.sfb
          have HSf:=af (show Step S (Three Sd6 Sl6 Sp5) w wr from HT6.out.trans ⟨HKr.out.mono (fun g hg e=>e.elim (fun x=>x▸.inr (.inr hsf)) (fun x=>absurd hg (aV.2 x))),fun _ hg=> .inl hg⟩)
          go_wp2_with fail
          refine dQ (f:=93) (args:=#[.pointer (some ⟨t,0,none⟩)]) (by simp) (by simp[go_sem]) ?_
          refine(HFin.out wr _ σ6 l6 _ op HPF.out.pack HSf.out.1 HSf.out).mono ?_
          rintro e u' w' ⟨rfl,rfl,hP2,hE,hS2⟩
          rw[HEq.out]
          exact⟨_,by simp[results,kZ,go_sem],rfl,_,hP2,hE,hS2⟩
         ·intro x c8 w8 cnt8 hwx hlx hc8 hat hrg8 hlt8 hg8 hs8 hen
          obtain⟨kx,hkx⟩:=HDs.out.1 _ (HLf.out _ hlx)
          have hxk:x=(kx:Int):=by injection hkx
          subst hxk
          have hmx:kx∈im.ks:=by
           have h0:=HLf.out _ hlx
           rw[HDs.out.2.1] at h0
           exact aR h0
          have hce:c8=im.img kx:=by
           have h0:=(hat (.lit (.string zB))).symm.trans (HDs.out.2.2 kx hmx _)
           injection h0 with h0
           injection h0
          have hkn:=HIO.out.hi kx hmx
          have hlo:∀g,Three Sd6 Sl6 Sp5 g->g<w6.heap.size:=HP6.out.pack.sub
          have hk8:Keep (· =w6.heap.size) wr w8:=Keep.qX hg8
          have hP8:=HPF.out.keep hk8 (fun g hg e=>bY _ (e▸hlo g hg))
          obtain⟨_,_,_,_,z4,_,_,hl8,_⟩:=hP8.cells
          have hr9:Row (w8.alloc (.cells (aB zB).toArray 209)) w8.heap.size 209 (aB zB):=Row.new w8 _ _
          have hz1:=af (show (aB zB).length=512 by rw[aY,fF])
          have hb5:=af (show (aB c8).length=512 by rw[aY,hc8])
          have hone:=fq c8
          have hval:=af (Ht c8 hc8)
          have HCE:=af hce;have HC8:=af hc8;have HKX:=af hkx
          clear hce hat hkx
          have HRG8:=af hrg8;have HK8:=af hk8;have HP8:=af hP8
          clear hrg8 hk8 hP8 hg8 hs8
          go_wp2_with (first
           |((refine bU rfl ?_);intro K hK;(refine fZ 209 rfl _ iW ?_);refine hK _ _ ?_)
           |((refine bU rfl ?_);intro K hK;(refine wp_store_row 209 _ _ rfl w8.heap.size 0 209 _ (aB c8) rfl rfl hr9 (jy.trans (congrArg some hb5.out.symm)) (by rw[hz1.out,hb5.out];omega) hone ?_);intro w9 hr10 hk9;refine hK _ _ (Stop.of ?_)))
          refine Stop.on ?_
          rw[kC _ _ (hz1.out.trans hb5.out.symm)] at hr10
          have hb9:Below w8.heap.size w8 w9:=(((Keep.refl (fun _=>False) w8).alloc _).trans (hk9.mono (M':=fun g=>g=w8.heap.size) (fun _ _ e=>e)) (fun i hi e=>by omega)).below
          have HP9:=af (HP8.out.keep (Keep.of_below hb9 d9) (fun _ _ e=>e))
          have z49:w9.drew.cell? ⟨pg,4,none⟩=some (.map (some fb5)):=(hb9.cell (p:=⟨pg,4,none⟩) hl8).trans z4
          have hl9:pg<w9.drew.heap.size:=ax hl8 hb9.size
          obtain⟨C,HC⟩:∃C,Hid (aB c8=C):=⟨_,af rfl⟩
          rw[HC.out] at hr10 hone hb5 hval
          have hw:w9.drew.rangeAt w8.heap.size 0 C:=hr10.whole
          have hfo:=HP9.out.ok.fresh
          have hn9:=HP9.out.log.dk.ok.hi
          have hfr:=HP9.out.fr
          obtain⟨E,hE,he1,he2,he3,he4⟩:=hfr
          have HE:=af hE;have HEs:=af (ak he1 (ak he2 (ak he3 he4)))
          have hknn:kx<σ6.n - p.skip:=by
           rw[HN6.out,HKN.out];exact hkn
          have hkb:=wH (kx:Int) (by omega) (by omega)
          clear hr10 hk9 hr9 hE he1 he2 he3 he4 hen
          go_wp2_with fail
          refine aK (fun W=>W=w9.drew) (fun i=> !([6].contains i)) [0,1,2,3,4,5,6] rfl (by kernel_rfl) rfl ?_
          repeat ((refine bq (v:= ?_) rfl rfl ?_ rfl (fun W hW=> ?_) ?_);rotate_left;(focus (exact fun c a w h=>qz (by decide) (by decide) h));(focus ((try dsimp only at hW);subst hW;(go_simp;first|done|with_reducible rfl)));(try simp only[Act.put,aj,av,au]))
          refine bq (v:= .agg C.toArray) rfl rfl (fun c a w h=>qz (by decide) (by decide) h) rfl (fun W hW=> ?_) ?_
          ·subst hW
           exact jU 209 (.tmp 14) rfl w8.heap.size 0 rfl C _ hw Tryz.underlying209 rfl (jy.trans (congrArg some hb5.out.symm))
          simp only[Act.put,aj,av,au]
          refine jm rfl rfl rfl (by kernel_rfl) ?_;intro K hK
          refine qi _ _ _ 197 rfl 3 209 iw dX rI fb5 5000 E rfl (RH HE.out) (by simp[maxLen]) _ _ (kI kx) rfl rfl (nT kx hkb) (.lit (.string c8)) [] hval.out ?_
          intro w10 ho10 hg10
          refine hK.out _ _ ?_
          refine bF ?_
          have hk10:Keep (· =fb5) w9 w10:=((Keep.refl (· =fb5) w9).drew).trans (Keep.qX hg10) (fun _ _ e=>e)
          have HI10:=af (jH.put hfo (by omega) kx c8 hknn HE.out HEs.out.1 HEs.out.2.1 HEs.out.2.2.1 HEs.out.2.2.2 ho10)
          have HP10:=af (HP9.out.fresh hk10 (F.put kx c8) HI10.out (hfo.put kx c8 hknn HC8.out))
          have hnd:db≠fb5:=fun e=>by
           have h1:Three Sd6 Sl6 Sp5 db:=e▸.inr (.inr HP6.out.sfb)
           rcases HT6.out.2 db h1 with h2|h2
           ·exact hdis db h2 HTx.out.sdb
           ·exact absurd (HTx.out.sub db HTx.out.sdb) (aV.2 h2)
          have hdl:db<w8.heap.size:=HRG8.out.owns.lt
          have hrl:w6.heap.size<w8.heap.size:=HRG8.out.lt
          have hfl:=hlo _ (.inr (.inr HP6.out.sfb))
          have HRG10:=af (uO HRG8.out ((hk10.block db (ax hdl hb9.size) hnd).trans (hb9.block db hdl)) ((hk10.block _ (ax hrl hb9.size) (fun e=>by omega)).trans (hb9.block _ hrl)))
          have HMx10:=af (HMx.out.put kx hmx)
          rw[<-HCE.out] at HMx10
          have HK10:Hid (Keep (fun g=>g=fb5\/w6.heap.size<=g) w6 w10):=af (((HKr.out.trans HK8.out (fun _ _ e=> .inr (fA e.symm))).trans (Keep.of_below hb9 _) (fun _ _ e=>e)).trans hk10 (fun _ _ e=> .inl e))
          clear ho10 hg10 hk10 hb9 z4 z49 hw
          go_wp2_with fail
          go_roundw
          case rel=>exact⟨_,cnt8,_,HRG10,HP10,HMx10,af (fun kl h=>HLf.out kl (by simp only[dI] at h;exact h.1)),HK10⟩
          case measure=>rw[HRG10.out.left_eq,HRG.out.left_eq];exact hlt8
       ·rw[if_neg hq] at HEq
        have hq':(q6 !=0)=true:=by simpa using hq
        have HFB:=af (kF pg d σ6 l6 p op S _ q6 w w6 HP6.out.pack HT6.out hq)
        go_wp2_with (first
         |(go_at_call 101;go_must (refine HFB.out.mono ?_;rintro e w7 ⟨rfl,S7,hP7,hs7⟩)))
        refine dQ (f:=93) (args:=#[.pointer (some ⟨t,0,none⟩)]) (by simp) (by simp[go_sem]) ?_
        refine(HFin.out w7 S7 σ6 l6 p.dies op hP7 hs7.1 hs7).mono ?_
        rintro e u' w' ⟨rfl,rfl,hP2,hE,hS2⟩
        rw[HEq.out]
        exact⟨_,by simp[results,kZ,go_sem],rfl,S7,hP2,hE,hS2⟩
end Go.Proofs.YtpmbddooibgnaaaGreatDoor
