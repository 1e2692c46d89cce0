/- parts -/
import Derived.Test.YtpmbddooibgnaaaGreatDoorN12
set_option maxRecDepth 100000
set_option maxHeartbeats 8000000
set_option linter.all false
namespace Go.Proofs.YtpmbddooibgnaaaGreatDoor
open Go.RowKit
def Iz (w:World)(t:Nat):Prop:=∃db,w.heap[t]? =some (.cells #[.pointer none,.map (some db)] 201 (0,0))
def l8 (im:Im):List ByteArray:=im.ks.map fun b=>strOf (uy b (im.img b))
theorem qa (a:Im):jF (l8 a)=a.bg:=by
 unfold jF l8 Im.bg
 rw[Ul]
 rfl
theorem rJ (a:Im):(l8 a).length=a.ks.length:=by simp[l8]
theorem kJ.len {w:World}{b:Nat}{c:Im}(h:kJ w b c)(a:TypeId):(Builtin.len_ #[197] a #[.map (some b)]).run Tryz.prog w= .ok (.int .i64 c.ks.length) w:=by
 obtain⟨D,d,e,_⟩:=h
 rw[<-e]
 exact d.len dW a
theorem FW {a:Im}{n:Nat}(h:a.Ok n):∀s∈l8 a,s.size=516:=by
 intro s d
 obtain⟨b,c,rfl⟩:=iN.1 d
 show (uy b (a.img b)).toArray.size=516
 simp[uy,bI,h.img b c]
theorem wD:∀(a:List ByteArray) (k:Nat),(∀s∈a,s.size=k)->iR a=a.length*(4+k)
 |[],k,_=>by simp[iR]
 |s::r,k,h=>by
  have ih:=wD r k (fun x b=>h x (bn _ b))
  unfold iR at ih ⊢
  rw[eP,kG,ih,h s (aY ..),aZ,fB]
  omega
theorem Bz {a:Im}{n:Nat}(h:a.Ok n)(b:n<=4096):iR (l8 a)<=1000000000:=by
 rw[wD _ 516 (FW h),rJ]
 have:=xU _ _ h.rise h.hi
 omega
theorem Lg.yL {l:Lg}{a:Im}{n:Nat}(h:a.Ok n)(e:l.dead=false)(i:0<a.ks.length)(j:a.ks.length<=1024)(c:bZ a.bg<=l.room):l.bad (jF (l8 a))=0:=by
 rw[qa]
 have g:a.bg.length=a.ks.length:=by simp[Im.bg]
 unfold Lg.bad
 rw[e,if_neg (by simp),if_neg (by rw[g];omega),if_neg,if_neg (by omega)]
 simp only[Wh,dU]
 rintro⟨r,c,d⟩
 obtain⟨b,f,rfl⟩:=iN.1 c
 simp[uy,bI,h.img b f] at d
theorem Lg.LY {a:Dk}{l:Lg}{u:Nat}(h:(l.trim a u).2.2=0):(l.trim a u).1.waits=[]/\(l.trim a u).2.1=l.cut u:=by
 unfold Lg.trim at h ⊢
 split at h
 ·cases h
 ·rename_i c
  split at h
  ·cases h
  ·rename_i d
   split at h
   ·rename_i b
    rw[if_neg c,if_neg d,if_pos b]
    exact Lg.vT b
   ·cases h
theorem Pg.DI {σ:Dk}{l:Lg}{p:Pg}(g:l.Ok)(h:(p.home σ l).2.2.2=0):(p.home σ l).1.waits=[]/\(p.home σ l).2.1.dead=false/\(p.home σ l).2.1.last=l.last/\(p.home σ l).2.1.room=l.n - 1/\(p.home σ l).2.2.1={p with fresh:=Im.none}:=by
 unfold Pg.home at h ⊢
 split at h
 ·rename_i d
  obtain⟨_,a,c⟩:=Lg.vP d
  split at h
  ·rename_i m
   split at h
   ·rename_i k
    split at h
    ·rename_i f
     rw[if_pos d,if_pos m,if_pos k,if_pos f]
     obtain⟨n,b⟩:=Lg.LY f
     refine⟨n,?_,?_,?_,rfl⟩
     ·dsimp only;rw[b,a];exact c
     ·dsimp only;rw[b,a];rfl
     ·dsimp only
      rw[b,a]
      have i:=xR l.last l.list (l.n - 1) l.start l.used (fun e j=>(g.ent e j).2)
      show l.n - 1 - (Lg.qO l.last l.list (l.n - 1) l.start l.used).2.2=l.n - 1
      rw[i.2.1,g.sum];omega
    ·cases h
   ·cases h
  ·cases h
 ·cases h
theorem Lg.KH (l:Lg)(b:List UInt8):∀(k i:Nat) (a:Dk),(l.qm b k i a).1.n=a.n
 |0,_,_=>rfl
 |k+1,i,a=>by
  rw[l.sW]
  split
  ·rw[Lg.KH l b k,Dk.pV]
  ·exact Dk.pV _ _ _
theorem Lg.Iu (a:Dk)(l:Lg)(b:List (List UInt8)):(l.append a b).1.n=a.n:=by
 unfold Lg.append
 split
 ·rfl
 ·split<;>exact Lg.KH _ _ _ _ _
theorem Lg.Ah (a:Dk)(l:Lg)(b:List (List UInt8)):(l.append a b).2.1.frm=l.frm/\(l.append a b).2.1.n=l.n:=by
 unfold Lg.append
 split
 ·exact⟨rfl,rfl⟩
 ·split<;>exact⟨rfl,rfl⟩
theorem Pg.K7 (p:Pg):∀(r:List Nat) (a:Dk),(p.lay r a).1.n=a.n
 |[],_=>rfl
 |b::r,a=>by
  rw[p.yB]
  split
  ·rw[Pg.K7 p r,Dk.pV]
  ·exact Dk.pV _ _ _
theorem Pg.Vx (a:Dk)(l:Lg)(p:Pg):(p.home a l).1.n=a.n:=by
 unfold Pg.home
 split
 ·split
  ·split
   ·split<;>(dsimp only;rw[Lg.Oz,Dk.nD,Pg.K7,Lg.nD])
   ·dsimp only;rw[Dk.nD,Pg.K7,Lg.nD]
  ·dsimp only;rw[Pg.K7,Lg.nD]
 ·exact Lg.nD a l
theorem Pg.M6 (a:Dk)(l:Lg)(p:Pg):(p.home a l).2.2.1.skip=p.skip:=by
 unfold Pg.home
 split
 ·split
  ·split
   ·split<;>rfl
   ·rfl
  ·rfl
 ·rfl
theorem Pg.sF {p d:Pg}{g c a:Dk}{l j e:Lg}{b:Im}{f k:Nat}{i:Int}(n:p.dead=false)(o:b.ks≠[])(s:bZ b.bg=f)(m:¬(p.ring<f\/1024<b.ks.length))(q:p.ready g l f=(c,j,d,0))(r:j.append c b.bg=(a,e,k,i)):
  p.commit g l b=if i=0 then(a,e,{d with fresh:=d.fresh.over b},k,0) else(a,e,d.dies,0,10):=by
 unfold Pg.commit
 rw[n,if_neg (by simp),if_neg o,s,if_neg m,q]
 dsimp only
 rw[r]
 simp
theorem wI.fresh {w f:World}{n j o:Nat->Prop}{q k d a:Nat}{c:Dk}{l:Lg}{p:Pg}{m:Value}(h:wI w n j o q k d a c l p m)(i:Keep (· =a) w f)(F:Im)(r:kJ f a F)(s:F.Ok (c.n - p.skip)):wI f n j o q k d a c l {p with fresh:=F} m:=
 ⟨h.log.keep i (fun _ b e=>h.dd a h.sfb (e▸b)) (fun _ b e=>h.dl a h.sfb (e▸b)),⟨h.ok.frm,h.ok.skip,h.ok.ring,h.ok.fit,s⟩,fun g b=>aA (h.sub g b) i.size,h.dd,h.dl,h.Cy,h.sfb,
  (i.block _ (h.sub _ h.Cy) (fun e=>h.fr.ne h.obj e)).trans h.obj,r⟩
theorem wH.same {w d:World}{T:Nat->Prop}{t f b n:Nat}{c:Im}(h:wH w T t f b c n)(a:Keep (fun g=>¬T g) w d):wH d T t f b c n:=
 ⟨h.ok,fun g i=>aA (h.sub g i) a.size,h.st,h.sdb,(a.block _ (h.sub _ h.st) (fun e=>e h.st)).trans h.obj,h.img.block (a.block _ (h.sub _ h.sdb) (fun e=>e h.sdb))⟩
def Lr (w6 wr:World)(db:Nat)(D:DataW Unit)(Sd6 Sl6 Sp5:Nat->Prop)(pg lg5 d fb5:Nat)(σ6:Dk)(l6:Lg)(p5:Pg)(op:Value)(im:Im):Prop:=
 ∃(left:Lit->Bool) (cnt:Nat) (F:Im),Hid (wr.ranges Tryz.prog 3 rI db w6.heap.size 5000 D left cnt)/\Hid (wI wr Sd6 Sl6 Sp5 pg lg5 d fb5 σ6 l6 {p5 with fresh:=F} op)/\Hid (Mix p5.fresh im left F)/\Hid (∀kl,left kl=true->Maps.has D kl=true)/\Hid (Keep (fun g=>g=fb5\/w6.heap.size<=g) w6 wr)
theorem o8 {P:Program}{j:Func}{b a:Array Value}{R:Ending->World->Prop}(m:results j b=results j a):∀(g:List Deferred) (u:FrameMode) (w:World),Leaves P j b R g u w->Leaves P j a R g u w
 |[],.returning,w,h=>by
  obtain⟨v,l,k⟩:=h
  exact⟨v,m▸l,k⟩
 |[],.panicking _,w,h=>h
 |[],.run,w,h=>h
 |d::g,u,w,h=>by
  obtain⟨l,q,n,f,i,k,p,o⟩:=h
  refine⟨l,q,n,f,i,k,p,o.mono ?_⟩
  rintro e r s h
  cases e with
  |returned v=>exact o8 m g _ _ h
  |panicked c=>exact o8 m g _ _ h
  |outgrown=>exact h
theorem tN {R:Ending->World->Prop}{d:Nat}(e:d≠2)(b:d≠3){c:List PanicEntry}{a:Act}{v:Value}{w:World}(h:bodyPostD Tryz.prog Tryz.f53 R (.panic c) (a.put (some d) v) w):bodyPostD Tryz.prog Tryz.f53 R (.panic c) a w:=by
 refine o8 ?_ _ _ _ (show Leaves Tryz.prog Tryz.f53 (a.tmps.setIfInBounds d v) R a.defers (.panicking c) w from h)
 unfold results
 rw[ny]
 simp[za,kT,e,b]
theorem xV {w g:World}{b r n:Nat}{D:DataW Unit}{left:Lit->Bool}{d:Nat}(h:w.ranges Tryz.prog 3 rI b r n D left d)(i:g.heap[b]? =w.heap[b]?)(q:g.heap[r]? =w.heap[r]?):g.ranges Tryz.prog 3 rI b r n D left d:=by
 obtain⟨j,a,c,e,p,m,F,l,o,k,f⟩:=h
 exact⟨j,a,c,e,p,i.trans m,F,l,o,q.trans k,f⟩
theorem qi (w:World){j:Array Oper}{f:List Oper}{o:Oper}{a:Act}{Q:Exit->Act->World->Prop}(M:o.guard=none)(q:Operand)(t:o.op=Op.next q false)(b r n:Nat)(D:DataW Unit)(left:Lit->Bool)(g:Nat)
  (J:a.eval q= .pointer (some ⟨r,0,none⟩)) (h:w.ranges Tryz.prog 3 rI b r n D left g)
  (k:g=0->(∀I,left I=false)->wpList Tryz.prog j Q f (a.put o.dst (.tuple #[.bool false])) w)
  (l:∀(x:Int) (c:List UInt8) (i:World) (d:Nat),(Lit.int .i64 x).wf=true->left (kI x)=true->c.length=512->(∀H,D.atKey (kI x) H= .lit (.string c))->i.ranges Tryz.prog 3 rI b r n D (fun z=>left z && !z.sameKey (kI x)) d->d<g->
   w.grownBy i (some r)->i.heap.size=w.heap.size->(Instr.entry (.pointer (some ⟨r,0,none⟩))).run Tryz.prog i= .ok (.tuple #[.int .i64 x,.agg (aF c).toArray]) i->wpList Tryz.prog j Q f (a.put o.dst (.tuple #[.bool true,.int .i64 x,.agg (aF c).toArray])) i):
  wpList Tryz.prog j Q (o::f) a w:=
 wpList_next_ranges w M q t 3 iy rI (Value.int .i64) (fun c:List UInt8=>Value.agg (aF c).toArray) (fun P I e=>by obtain⟨x,rfl,_⟩:=Maps.keyOf_int_inv bV e;exact⟨x,rfl⟩) (fun v y G=>by obtain⟨V,K⟩:=y;obtain⟨c,_,rfl,_⟩:=uN G;exact⟨c,rfl⟩)
  b r n D left g J h k (fun x c I y i d e p G A B C E s m=>by
   obtain⟨W,O,rfl,F⟩:=Maps.keyOf_int_inv bV e
   cases O
   obtain⟨V,K⟩:=y
   obtain⟨N,T,R,S⟩:=uN G
   have:c=N:=Co (congrArg Array.toList (Value.agg.inj R))
   subst this
   exact l x c i d F p T (fun H=>(A H).trans S) B C E s m)
theorem bq.less {w:World}{S S':Nat->Prop}{k n:Nat}{v:Value}{a:List Value}(h:bq w S k v n a)(c:∀g,S' g->S g):bq w S' k v n a:=h.keep fun g _ _ b=>⟨rfl,fun x=>b (c g x)⟩
theorem KR (t pg d:Nat)(σ:Dk)(l:Lg)(p:Pg)(op:Value)(j:Im)(S T:Nat->Prop)(w:World)(h:iF w S pg d σ l p op)(ht:qR w T t pg j (p.blocks σ))(qf:∀g,S g->¬T g)(hd:p.dead=false)(hld:l.dead=false)(hcap:σ.waits.length<=90000)(hll:l.last<1000000000000):
  Calls Tryz.prog 53 #[.pointer (some ⟨t,0,none⟩)] w fun e w'=>e= .returned (.tuple #[.int .i64 (p.commit σ l j).2.2.2.1,.int .i64 (p.commit σ l j).2.2.2.2])/\
   ∃S',iF w' S' pg d (p.commit σ l j).1 (p.commit σ l j).2.1 (p.commit σ l j).2.2.1 (.pointer none)/\Iz w' t/\Step (fun g=>S g\/T g) (fun g=>S' g\/T g) w w':=by
 have hbp:0<p.blocks σ:=by have:=h.ok.1.fit;have:=h.ok.1.skip;unfold Pg.blocks;omega
 have HU:=ah (Ej t pg d σ l p op j S T (p.blocks σ) 0 w h ht hd hbp)
 have hbl:p.blocks σ<=4096:=by have:=h.ok.2.1.hi;unfold Pg.blocks;omega
 have q9:=ht
 obtain⟨A,q9⟩:=q9
 have dM:=ah q9.ok
 obtain⟨t0,t1,htl⟩:=q9.cells
 have HI:=ah q9.img
 have di:=ah q9
 have HLN:=ah (xU _ _ q9.ok.rise q9.ok.hi)
 have hfin:∀(w1:World) (S1:Nat->Prop) (σ1:Dk) (l1:Lg) (p1:Pg) (op1:Value),iF w1 S1 pg d σ1 l1 p1 op1->Keep S w w1->Step S S1 w w1->CallsD Tryz.prog 93 #[.pointer (some ⟨t,0,none⟩)] .returning w1 fun e u' w'=>u'= .returning/\e= .returned (.tuple #[])/\iF w' S1 pg d σ1 l1 p1 (.pointer none)/\Iz w' t/\Step (fun g=>S g\/T g) (fun g=>S1 g\/T g) w w':=by
  intro w1 S1 σ1 l1 p1 op1 hP1 hk hs
  have hT1:=ht.keep hk (fun g I e=>qf g e I)
  have hd1:∀g,S1 g->¬T g:=fun g I e=>(hs.2 g I).elim (fun x=>qf g x e) (fun x=>absurd (ht.sub g e) (aX.2 x))
  refine(OG t pg d σ1 l1 p1 op1 j _ S1 T .returning w1 hP1 hT1 hd1).mono ?_
  rintro e u' w' ⟨rfl,rfl,o,X,hK⟩
  refine⟨rfl,rfl,o,X,?_,fun g I=> ?_⟩
  ·have hk0:Keep (fun g=>S g\/T g) w w1:=hk.mono (fun _ _ e=> .inl e)
   refine hk0.trans hK (fun g I e=> ?_)
   rcases e with e|e
   ·exact(hs.2 g e).elim .inl (fun x=>absurd I (aX.2 x))
   ·exact .inr e
  ·rcases I with I|I
   ·exact(hs.2 g I).elim (fun x=> .inl (.inl x)) .inr
   ·exact .inl (.inr I)
 have pV:=ah hfin;clear hfin
 have lq:=ah h
 obtain⟨Sd,Sl,Sp,lg,fb,h,hS⟩:=h
 obtain⟨c0,c1,c2,c3,c4,_,c6,hlt,_⟩:=h.cells
 have HH:=ah h
 have hlen:(Builtin.len_ #[197] 3 #[.map (some A)]).run Tryz.prog w.drew= .ok (.int .i64 j.ks.length) w.drew:=(HI.out.block (w':=w.drew) rfl).len _
 have HLa:=ah (TK pg d σ l p op S w.drew (lq.out.below ((aJ _ w).drew)))
 have HIk:=ah (show ∀g,T g->g<w.heap.size from ht.sub)
 clear h ht c2 c4 c6
 by_cases he:j.ks=[]
 ·have af:j.ks.length=0:=by rw[he];rfl
  rw[af] at hlen
  have HM:=ah (show p.commit σ l j=(σ,l,p,l.last,0) by unfold Pg.commit;simp[hd,he])
  have HF:=ah (pV.out w.drew S σ l p op (lq.out.below ((aJ _ w).drew)) ((Keep.refl S w).drew) (Step.of_below ((aJ _ w).drew)))
  go_enter_defers Tryz.func53,Tryz.ntmps53
  go_wp2_with (first
   |(go_at_call 92;go_must (refine HU.out.mono ?_;rintro e w1 ⟨rfl,hw1⟩;subst w1))
   |(go_at_call 79;go_must (refine HLa.out.mono ?_;rintro e w1 ⟨rfl,hw1⟩;subst w1)))
  refine fe (f:=93) (args:=#[.pointer (some ⟨t,0,none⟩)]) (by simp) (by simp[go_sem]) ?_
  refine HF.out.mono ?_
  rintro e u' w' ⟨rfl,rfl,o,X,y⟩
  rw[HM.out]
  exact⟨_,by simp[results,ny,go_sem],rfl,S,o,X,y⟩
 ·have af:0<j.ks.length:=Nat.pos_of_ne_zero (fun e=>he (bK e))
  have hl0':¬((j.ks.length:Int)=0):=by omega
  have hl0'':((j.ks.length:Int)==0)=false:=by simpa using hl0'
  have HSo:=ah (KQ A w.heap.size j _ (w.drew.alloc (.cells #[.map (some A)] 197)) ((HI.out.block (w':=w.drew) rfl).block (mU _ _ _ HI.out.lt)) dM.out hbl ((Q0 _ _ 0 _ _ (0,0) (aH w.drew _)).trans rfl) (by show w.drew.heap.size<_;simp))
  go_enter_defers Tryz.func53,Tryz.ntmps53
  go_wp2_with (first
   |(go_at_call 92;go_must (refine HU.out.mono ?_;rintro e w1 ⟨rfl,hw1⟩;subst w1))
   |(go_at_call 95;go_must (refine(TI A _).mono ?_;rintro e w2 ⟨rfl,hw2⟩;subst w2))
   |(go_at_call 94;go_must (refine HSo.out.mono ?_;rintro e w3 ⟨v,rfl,hO,hb3⟩;refine Stop.of ?_)))
  refine Stop.on ?_
  have vP:=ah (show Below w.heap.size w w3 from((aJ w.heap.size w).drew).trans ((aG w.drew (.cells #[.map (some A)] 197)).trans (hb3.mono (by simp)):Below w.drew.heap.size w.drew w3))
  obtain⟨vo,vc,rfl,_,_,_,_⟩:=bq.form hO.dM
  have HO:=ah hO;clear hO hb3 HSo
  go_wp2_with fail
  go_loopw [6,40] (fun b i wr=>∃(k:Nat) (ao:Option Addr) (c:Nat),k<=j.ks.length/\i= .int .i64 k/\b= .slice ao k c/\Hid (aV wr eG w3.heap.size 9 1 b k (((l8 j).take k).map .string))/\Hid (Below w3.heap.size w3 wr)) (fun _ i _=>j.ks.length - (intOf i).toNat)
  case atStart=>exact⟨0,none,0,aR _,rfl,rfl,ah (aV.nil _ _ _ _ _),ah (aJ _ _)⟩
  case round=>
   obtain⟨k,ao,c,hk,rfl,rfl,HBt,y8⟩:=hrel
   by_cases r9:k<j.ks.length
   ·have hltI:(k:Int)<(j.ks.length:Int):=by omega
    obtain⟨b,HB⟩:∃b,Hid (j.ks[k]=b):=⟨_,ah rfl⟩
    have hbm:b∈j.ks:=by rw[<-HB.out];exact bJ r9
    have hb1:=dM.out.hi b hbm
    have hbw:=sV (b:Int) (by omega) (by omega)
    have O:=ah (vP.out.trans (y8.out.mono vP.out.size))
    obtain⟨kb,kq,rfl,hkc⟩:=bq.Cq ((HO.out.dM (S:=eG)).below y8.out) rfl k (.int .i64 (b:Int)) (by simp[bB r9,HB.out])
    have hIr:=HI.out.block (O.out.block _ HI.out.lt)
    obtain⟨D,hD,hh,bg⟩:=hIr.look b
    have hz:(zeroValue 209).run Tryz.prog wr= .ok (.agg (aF zB).toArray) wr:=jG wr
    obtain⟨v1,ps1,hrun,hv1⟩:=hD.lookup iy dW hz vR (ni b hbw)
    obtain⟨x,hx,rfl,hdx⟩:=uN hv1
    have hxe:x=j.img b:=by
     have h1:=(bg hbm).symm.trans hdx
     injection h1 with h1
     injection h1 with h1
     exact h1.symm
    have HXE:=ah hxe;have HX:=ah hx
    clear hv1 hdx bg hh hD hxe hx hIr
    have r1:=(O.out.cell (p:=⟨t,1,none⟩) htl).trans t1
    have htr:=aA htl O.out.size
    have HR:=ah (RL b x wr (by omega) HX.out)
    have hkb:k<=4096:=by have:=HLN.out;omega
    have hszr:=y8.out.size
    have HSn:=ah (show (l8 j).take (k+1)=(l8 j).take k++[strOf (uy b x)] by
     rw[List.take_add_one]
     congr 1
     unfold l8
     rw[dL,bB r9,HB.out,HXE.out]
     rfl)
    obtain⟨sr,kD⟩:∃sr,Hid (strOf (uy b x)=sr):=⟨_,ah rfl⟩
    rw[kD.out] at HR HSn
    go_wp2_with (first
     |(go_at_call 96;go_must (refine HR.out.mono ?_;rintro e w4 ⟨rfl,hb4⟩;have hb4s:=hb4.size))
     |(at_builtin;go_must ((refine dQ rfl (.tmp 44) (.tmp 53) 146 146 rfl eG w3.heap.size 9 1 16 _ iq uV rfl (.slice ao k c) _ _ rfl ((HBt.out.below (w':=w4) hb4).below (aG _ _)) _ 1 _ rfl (iB [_] _ 1 1 1 rfl iq rfl ?_) (fun _ h=>h.elim) ?_ ?_ ?_ ?_);(focus (simp[Value.oneCell']));(focus (simp only[bD];omega));(focus (unfold maxLen;omega));(focus omega);intro ao1 c1 w5 nY hk5 G hd5)))
    have HO5:=ah nY
    have zA:=ah ((y8.out.trans (hb4.mono hszr)).trans (((aG w4 _).mono (aI hszr hb4s)).trans G))
    clear nY hk5 G hd5 hb4
    go_roundw
    case rel=>
     refine⟨k+1,ao1,c1,by omega,by go_num,rfl,ah ?_,zA⟩
     rw[HSn.out,dF]
     exact HO5.out
    case measure=>simp[intOf];omega
   ·obtain rfl:k=j.ks.length:=by omega
    rw[aL (eO (rJ j))] at HBt
    have O:=ah (vP.out.trans (y8.out.mono vP.out.size))
    have hlr:=rJ j
    have hBt:qG wr S (.slice ao j.ks.length c) (l8 j):=by
     have h0:=(HBt.out.other (S':=S) (fun g I hs=>by have:=lq.out.sub g hs;have:=vP.out.size;omega)).dM
     show bq wr S 1 _ (l8 j).length _
     rw[hlr];exact h0
    have HBS:=ah hBt
    obtain⟨nd,Hnd⟩:∃nd,Hid (bZ (jF (l8 j))=nd):=⟨_,ah rfl⟩
    have HN:=ah (Ob _ (l8 j) S wr hBt (Bz dM.out hbl))
    rw[Hnd.out] at HN
    have R:=ah (show bZ j.bg=nd by rw[<-Hnd.out,qa])
    have hndl:nd<=3000000:=by
     rw[<-Hnd.out];unfold bZ
     rw[vU]
     have:=Bz dM.out hbl;omega
    have d1:=(O.out.cell (p:=⟨pg,1,none⟩) hlt).trans c1
    have d3:=(O.out.cell (p:=⟨pg,3,none⟩) hlt).trans c3
    have s1:=(O.out.cell (p:=⟨t,1,none⟩) htl).trans t1
    have htr:=aA htl O.out.size
    have hpr:=aA hlt O.out.size
    have HPr:=ah (lq.out.below O.out)
    have kD:=ah (Step.of_below (S:=S) O.out)
    have HF0:=ah (pV.out wr S σ l p op HPr.out kD.out.1 kD.out)
    have hRo:=ah (N8 lg d l Sl wr (HH.out.log.lg.keep (Keep.of_below O.out eG) (fun _ _ e=>e)))
    clear hBt hlen hl0' hl0'' t1 c1 c3 t0 c0
    by_cases h1:p.ring<nd
    ·have h1I:(p.ring:Int)<(nd:Int):=by omega
     have HM:=ah (show p.commit σ l j=(σ,l,p,0,13) by unfold Pg.commit;rw[R.out];simp[hd,he,h1])
     go_wp2_with (first
      |(go_at_call 97;go_must (refine HN.out.mono ?_;rintro e w7 ⟨rfl,og⟩;subst w7)))
     refine fe (f:=93) (args:=#[.pointer (some ⟨t,0,none⟩)]) (by simp) (by simp[go_sem]) ?_
     refine HF0.out.mono ?_
     rintro e u' w' ⟨rfl,rfl,o,X,y⟩
     rw[HM.out]
     exact⟨_,by simp[results,ny,go_sem],rfl,S,o,X,y⟩
    ·have h1I:¬((p.ring:Int)<(nd:Int)):=by omega
     by_cases h2:1024<j.ks.length
     ·have h2I:(1024:Int)<(j.ks.length:Int):=by omega
      have HM:=ah (show p.commit σ l j=(σ,l,p,0,13) by unfold Pg.commit;rw[R.out];simp[hd,he,h2])
      go_wp2_with (first
       |(go_at_call 97;go_must (refine HN.out.mono ?_;rintro e w7 ⟨rfl,og⟩;subst w7)))
      refine fe (f:=93) (args:=#[.pointer (some ⟨t,0,none⟩)]) (by simp) (by simp[go_sem]) ?_
      refine HF0.out.mono ?_
      rintro e u' w' ⟨rfl,rfl,o,X,y⟩
      rw[HM.out]
      exact⟨_,by simp[results,ny,go_sem],rfl,S,o,X,y⟩
     ·have h2I:¬((1024:Int)<(j.ks.length:Int)):=by omega
      have HC2:=ah (show ¬(p.ring<nd\/1024<j.ks.length) by omega)
      have jb:=(aJ wr.heap.size wr).drew
      by_cases h3:l.room<nd
      ·have h3I:(l.room:Int)<(nd:Int):=by omega
       have HHo:=ah (TJ pg d σ l p op S wr.drew (HPr.out.below jb) hcap)
       obtain⟨N,l5,p5,q5,kC⟩:∃N l5 p5 q5,Hid (p.home σ l=(N,l5,p5,q5)):=⟨_,_,_,_,ah rfl⟩
       have HKN:=ah (show N.n - p5.skip=p.blocks σ by
        have e1:=Pg.Vx σ l p;have e2:=Pg.M6 σ l p
        rw[kC.out] at e1 e2
        dsimp only at e1 e2
        rw[e1,e2];rfl)
       have HZ5:=ah (show q5=0->N.waits=[]/\l5.dead=false/\l5.last=l.last/\l5.room=l.n - 1/\p5={p with fresh:=Im.none} from fun e=>by
        have:=Pg.DI (σ:=σ) (l:=l) (p:=p) lq.out.ok.2.2 (by rw[kC.out];exact e)
        rw[kC.out] at this
        exact this)
       rw[kC.out] at HHo
       have hrg:=lq.out.ok.1.ring
       go_wp2_with (first
        |(go_at_call 97;go_must (refine HN.out.mono ?_;rintro e w7 ⟨rfl,og⟩;subst w7))
        |(go_at_call 98;go_must (refine hRo.out.mono ?_;rintro e w7 ⟨rfl,og⟩;subst w7))
        |(go_at_call 99;go_must (refine HHo.out.mono ?_;rintro e w5 ⟨rfl,S5,hP5,hs5⟩;refine Stop.of ?_)))
       refine Stop.on ?_
       have HP5:=ah hP5
       have yE:=ah ((kD.out.trans (Step.of_below (S:=S) jb)).trans hs5)
       have zA:=ah (bq.step (HBS.out.below jb) hs5)
       clear hP5 hs5 jb
       by_cases hq5:q5=0
       ·subst hq5
        obtain⟨z1,z2,z3,z4,z5⟩:=HZ5.out rfl
        have HR5:=ah (show p.ready σ l nd=(N,l5,p5,0) by unfold Pg.ready;rw[if_pos h3,kC.out])
        have yL:=ah (Lg.yL (l:=l5) dM.out z2 af (by omega) (by rw[R.out];omega))
        have HW5:=ah (show N.waits.length<=90000 by rw[z1];exact aR _)
        have HL5:=ah (show l5.last<1000000000000 by rw[z3];exact hll)
        clear z1 z2 z3 z4 z5
        obtain⟨Sd5,Sl5,qb,o5,s,h5,l7⟩:=HP5.out
        obtain⟨_,x1,_,_,x4,_,_,hl5,_⟩:=h5.cells
        have mr:=ah h5
        have j3:=ah (KA o5 d N l5 Sd5 Sl5 _ (l8 j) w5 h5.log (zA.out.less (fun g I=>(l7 g).2 (I.elim .inl (fun x=> .inr (.inl x))))) yL.out HW5.out HL5.out)
        rw[qa] at j3
        obtain⟨r,l6,k6,q6,qo⟩:∃r l6 k6 q6,Hid (l5.append N j.bg=(r,l6,k6,q6)):=⟨_,_,_,_,ah rfl⟩
        rw[qo.out] at j3
        have zy:=ah (show r.n=N.n by have:=Lg.Iu N l5 j.bg;rw[qo.out] at this;exact this)
        have lG:=ah (show l6.frm=l5.frm/\l6.n=l5.n by have:=Lg.Ah N l5 j.bg;rw[qo.out] at this;exact this)
        have qO:=ah (Pg.sF hd he R.out HC2.out HR5.out qo.out)
        clear h5
        go_wp2_with (first
         |(go_at_call 100;go_must (refine j3.out.mono ?_;rintro e P ⟨rfl,qc,V,zk,sF⟩;refine Stop.of ?_)))
        refine Stop.on ?_
        have eZ:=mr.out.turn zk sF (mr.out.ok.turn zy.out lG.out.1 lG.out.2)
        have q:=ah eZ.1
        have qC:=ah (yE.out.trans (eZ.2.eqv (S':=Three qc V qb) l7 (fun _=>NK)))
        clear eZ zk sF x1 x4 hl5
        by_cases hq:q6=0
        ·subst hq
         rw[if_pos rfl] at qO
         have B:=di.out.same ((qC.out.1).mono (fun g _ e=>qf g e))
         have HD6:∃D,P.ownsMap Tryz.prog 3 rI A 5000 D/\(∀kl,Maps.has D kl=true->∃k:Nat,kl=kI k)/\(∀k:Nat,Maps.has D (kI k)=decide (k∈j.ks))/\∀k:Nat,k∈j.ks->∀z,D.atKey (kI k) z= .lit (.string (j.img k)):=by
          obtain⟨D,q1,q2,q3,q4,q5⟩:=B.img
          exact⟨D,q1,q3,q4,q5⟩
         obtain⟨D,hD,ng,zT,xK⟩:=HD6
         have ql:=ah (au ng (au zT xK))
         obtain⟨y0,y1,ytl⟩:=B.cells
         have HTx6:=ah B
         clear ng zT xK B
         go_wp2_with (first
          |(at_range;go_must (refine wpList_range_own _ rfl _ 197 rfl 3 209 iy dW rI A 5000 D rfl hD ?_;intro w7 bf sW j6))
          |go_in)
         go_frame
         have zG:=ah bf
         have Y:Keep eG P w7:=(Keep.refl eG P).grown sW (fun k e=>by cases e)
         have y5:=ah Y
         have HP7:=ah (q.out.keep Y (fun _ _ e=>e))
         clear bf sW Y hD
         go_loopw [] (fun wr=>Lr P wr A D qc V qb pg o5 d s r l6 p5 op j) (fun wr=>wr.rangeLeft A P.heap.size)
         case atStart=>
          exact⟨_,_,p5.fresh,zG,HP7,ah (Mix.start q.out.ok.fresh.rise (fun b hb=>by rw[ql.out.2.1];exact gq hb)),ah (fun _ h=>h),ah (y5.out.mono (fun _ _ e=>e.elim))⟩
         case round=>
          obtain⟨left,cnt,F,vk,j5,y7,kz,oO⟩:=hrel
          go_wp2_with (first
           |(at_next;go_must (refine qi _ rfl _ rfl A P.heap.size 5000 D left cnt rfl vk.out ?_ ?_))
           |go_in)
          ·intro _ af
           have hF:=y7.out.done q.out.ok.fresh.rise af
           rw[hF] at j5
           have hsf:=q.out.sfb
           have mD:=ah (show Step S (Three qc V qb) w wr from qC.out.trans ⟨oO.out.mono (fun g I e=>e.elim (fun x=>x▸.inr (.inr hsf)) (fun x=>absurd I (aX.2 x))),fun _ I=> .inl I⟩)
           go_wp2_with fail
           refine fe (f:=93) (args:=#[.pointer (some ⟨t,0,none⟩)]) (by simp) (by simp[go_sem]) ?_
           refine(pV.out wr _ r l6 _ op j5.out.pack mD.out.1 mD.out).mono ?_
           rintro e u' w' ⟨rfl,rfl,o,X,y⟩
           rw[qO.out]
           exact⟨_,by simp[results,ny,go_sem],rfl,_,o,X,y⟩
          ·intro x c8 M nN hwx rq iO bg dn nk zf hs8 hen
           obtain⟨J,j4⟩:=ql.out.1 _ (kz.out _ rq)
           have hxk:x=(J:Int):=by injection j4
           subst hxk
           have fo:J∈j.ks:=by
            have h0:=kz.out _ rq
            rw[ql.out.2.1] at h0
            exact bF h0
           have ol:c8=j.img J:=by
            have h0:=(bg (.lit (.string zB))).symm.trans (ql.out.2.2 J fo _)
            injection h0 with h0
            injection h0
           have hkn:=dM.out.hi J fo
           have vz:∀g,Three qc V qb g->g<P.heap.size:=q.out.pack.sub
           have jv:Keep (· =P.heap.size) wr M:=Keep.r9 zf
           have ko:=j5.out.keep jv (fun g I e=>cO _ (e▸vz g I))
           obtain⟨_,_,_,_,z4,_,_,nH,_⟩:=ko.cells
           have vT:Row (M.alloc (.cells (aF zB).toArray 209)) M.heap.size 209 (aF zB):=Row.new M _ _
           have nD:=ah (show (aF zB).length=512 by rw[bC,gG])
           have G:=ah (show (aF c8).length=512 by rw[bC,iO])
           have ai:=fO c8
           have q8:=ah (FY c8 iO)
           have HCE:=ah ol;have HC8:=ah iO;have HKX:=ah j4
           clear ol bg j4
           have Q:=ah dn;have HK8:=ah jv;have HP8:=ah ko
           clear dn jv ko zf hs8
           go_wp2_with (first
            |((refine bS rfl ?_);intro K hK;(refine gZ 209 rfl _ jG ?_);refine hK _ _ ?_)
            |((refine bS rfl ?_);intro K hK;(refine wp_store_row 209 _ _ rfl M.heap.size 0 209 _ (aF c8) rfl rfl vT (jH.trans (congrArg some G.out.symm)) (by rw[nD.out,G.out];omega) ai ?_);intro w9 H rf;refine hK _ _ (Stop.of ?_)))
           refine Stop.on ?_
           rw[kZ _ _ (nD.out.trans G.out.symm)] at H
           have m:Below M.heap.size M w9:=(((Keep.refl (fun _=>False) M).alloc _).trans (rf.mono (M':=fun g=>g=M.heap.size) (fun _ _ e=>e)) (fun i hi e=>by omega)).below
           have qm:=ah (HP8.out.keep (Keep.of_below m eG) (fun _ _ e=>e))
           have z49:w9.drew.cell? ⟨pg,4,none⟩=some (.map (some s)):=(m.cell (p:=⟨pg,4,none⟩) nH).trans z4
           have hl9:pg<w9.drew.heap.size:=aA nH m.size
           obtain⟨C,HC⟩:∃C,Hid (aF c8=C):=⟨_,ah rfl⟩
           rw[HC.out] at H ai G q8
           have hw:w9.drew.rangeAt M.heap.size 0 C:=H.whole
           have sN:=qm.out.ok.fresh
           have hn9:=qm.out.log.dk.ok.hi
           have hfr:=qm.out.fr
           obtain⟨E,X,z8,vY,l9,zH⟩:=hfr
           have HE:=ah X;have qy:=ah (au z8 (au vY (au l9 zH)))
           have eH:J<r.n - p5.skip:=by
            rw[zy.out,HKN.out];exact hkn
           have hkb:=sV (J:Int) (by omega) (by omega)
           clear H rf vT X z8 vY l9 zH hen
           go_wp2_with fail
           refine aP (fun W=>W=w9.drew) (fun i=> !([6].contains i)) [0,1,2,3,4,5,6] rfl (by kernel_rfl) rfl ?_
           repeat ((refine bE (v:= ?_) rfl rfl ?_ rfl (fun W hW=> ?_) ?_);rotate_left;(focus (exact fun c a w h=>tN (by decide) (by decide) h));(focus ((try dsimp only at hW);subst hW;(go_simp;first|done|with_reducible rfl)));(try simp only[Act.put,ak,ay,ax]))
           refine bE (v:= .agg C.toArray) rfl rfl (fun c a w h=>tN (by decide) (by decide) h) rfl (fun W hW=> ?_) ?_
           ·subst hW
            exact jA 209 (.tmp 14) rfl M.heap.size 0 rfl C _ hw IV rfl (jH.trans (congrArg some G.out.symm))
           simp only[Act.put,ak,ay,ax]
           refine jR rfl rfl rfl (by kernel_rfl) ?_;intro K hK
           refine mJ _ _ _ 197 rfl 3 209 iy dW rI s 5000 E rfl (VZ HE.out) (by simp[maxLen]) _ _ (kI J) rfl rfl (ni J hkb) (.lit (.string c8)) [] q8.out ?_
           intro tY av d9
           refine hK.out _ _ ?_
           refine bN ?_
           have n:Keep (· =s) w9 tY:=((Keep.refl (· =s) w9).drew).trans (Keep.r9 d9) (fun _ _ e=>e)
           have vM:=ah (kJ.put sN (by omega) J c8 eH HE.out qy.out.1 qy.out.2.1 qy.out.2.2.1 qy.out.2.2.2 av)
           have lH:=ah (qm.out.fresh n (F.put J c8) vM.out (sN.put J c8 eH HC8.out))
           have hnd:A≠s:=fun e=>by
            have h1:Three qc V qb A:=e▸.inr (.inr q.out.sfb)
            rcases qC.out.2 A h1 with h2|h2
            ·exact qf A h2 di.out.sdb
            ·exact absurd (di.out.sub A di.out.sdb) (aX.2 h2)
           have yB:A<M.heap.size:=Q.out.owns.lt
           have oo:P.heap.size<M.heap.size:=Q.out.lt
           have hfl:=vz _ (.inr (.inr q.out.sfb))
           have p9:=ah (xV Q.out ((n.block A (aA yB m.size) hnd).trans (m.block A yB)) ((n.block _ (aA oo m.size) (fun e=>by omega)).trans (m.block _ oo)))
           have Z:=ah (y7.out.put J fo)
           rw[<-HCE.out] at Z
           have mo:Hid (Keep (fun g=>g=s\/P.heap.size<=g) P tY):=ah (((oO.out.trans HK8.out (fun _ _ e=> .inr (eO e.symm))).trans (Keep.of_below m _) (fun _ _ e=>e)).trans n (fun _ _ e=> .inl e))
           clear av d9 n m z4 z49 hw
           go_wp2_with fail
           go_roundw
           case rel=>exact⟨_,nN,_,p9,lH,Z,ah (fun kl h=>kz.out kl (by simp only[dA] at h;exact h.1)),mo⟩
           case measure=>rw[p9.out.left_eq,vk.out.left_eq];exact nk
        ·rw[if_neg hq] at qO
         have hq':(q6 !=0)=true:=by simpa using hq
         have HFB:=ah (mg pg d r l6 p5 op S _ q6 w P q.out.pack qC.out hq)
         go_wp2_with (first
          |(go_at_call 101;go_must (refine HFB.out.mono ?_;rintro e w7 ⟨rfl,S7,hP7,j6⟩)))
         refine fe (f:=93) (args:=#[.pointer (some ⟨t,0,none⟩)]) (by simp) (by simp[go_sem]) ?_
         refine(pV.out w7 S7 r l6 p5.dies op hP7 j6.1 j6).mono ?_
         rintro e u' w' ⟨rfl,rfl,o,X,y⟩
         rw[qO.out]
         exact⟨_,by simp[results,ny,go_sem],rfl,S7,o,X,y⟩
       ·have hq':(q5 !=0)=true:=by simpa using hq5
        have HM:=ah (show p.commit σ l j=(N,l5,p5,0,q5) by
         unfold Pg.commit Pg.ready
         rw[hd,if_neg (by simp),if_neg he,R.out,if_neg HC2.out,if_pos h3,kC.out]
         simp[hq5])
        go_wp2_with fail
        refine fe (f:=93) (args:=#[.pointer (some ⟨t,0,none⟩)]) (by simp) (by simp[go_sem]) ?_
        refine(pV.out w5 S5 N l5 p5 op HP5.out yE.out.1 yE.out).mono ?_
        rintro e u' w' ⟨rfl,rfl,o,X,y⟩
        rw[HM.out]
        exact⟨_,by simp[results,ny,go_sem],rfl,S5,o,X,y⟩
      ·have h3I:¬((l.room:Int)<(nd:Int)):=by omega
       have HR5:=ah (show p.ready σ l nd=(σ,l,p,0) by unfold Pg.ready;rw[if_neg h3])
       have HP5:=ah (HPr.out.below jb)
       have yE:=ah (kD.out.trans (Step.of_below (S:=S) jb))
       have zA:=ah (HBS.out.below jb)
       have yL:=ah (Lg.yL (l:=l) dM.out hld af (by omega) (by rw[R.out];omega))
       have HW5:=ah hcap;have HL5:=ah hll
       have HKN:=ah (show σ.n - p.skip=p.blocks σ from rfl)
       go_wp2_with (first
        |(go_at_call 97;go_must (refine HN.out.mono ?_;rintro e w7 ⟨rfl,og⟩;subst w7))
        |(go_at_call 98;go_must (refine hRo.out.mono ?_;rintro e w7 ⟨rfl,og⟩;subst w7;refine Stop.of ?_)))
       refine Stop.on ?_
       generalize wr.drew=w5 at*
       obtain⟨Sd5,Sl5,qb,o5,s,h5,l7⟩:=HP5.out
       obtain⟨_,x1,_,_,x4,_,_,hl5,_⟩:=h5.cells
       have mr:=ah h5
       have j3:=ah (KA o5 d σ l Sd5 Sl5 _ (l8 j) w5 h5.log (zA.out.less (fun g I=>(l7 g).2 (I.elim .inl (fun x=> .inr (.inl x))))) yL.out HW5.out HL5.out)
       rw[qa] at j3
       obtain⟨r,l6,k6,q6,qo⟩:∃r l6 k6 q6,Hid (l.append σ j.bg=(r,l6,k6,q6)):=⟨_,_,_,_,ah rfl⟩
       rw[qo.out] at j3
       have zy:=ah (show r.n=σ.n by have:=Lg.Iu σ l j.bg;rw[qo.out] at this;exact this)
       have lG:=ah (show l6.frm=l.frm/\l6.n=l.n by have:=Lg.Ah σ l j.bg;rw[qo.out] at this;exact this)
       have qO:=ah (Pg.sF hd he R.out HC2.out HR5.out qo.out)
       clear h5
       go_wp2_with (first
        |(go_at_call 100;go_must (refine j3.out.mono ?_;rintro e P ⟨rfl,qc,V,zk,sF⟩;refine Stop.of ?_)))
       refine Stop.on ?_
       have eZ:=mr.out.turn zk sF (mr.out.ok.turn zy.out lG.out.1 lG.out.2)
       have q:=ah eZ.1
       have qC:=ah (yE.out.trans (eZ.2.eqv (S':=Three qc V qb) l7 (fun _=>NK)))
       clear eZ zk sF x1 x4 hl5
       by_cases hq:q6=0
       ·subst hq
        rw[if_pos rfl] at qO
        have B:=di.out.same ((qC.out.1).mono (fun g _ e=>qf g e))
        have HD6:∃D,P.ownsMap Tryz.prog 3 rI A 5000 D/\(∀kl,Maps.has D kl=true->∃k:Nat,kl=kI k)/\(∀k:Nat,Maps.has D (kI k)=decide (k∈j.ks))/\∀k:Nat,k∈j.ks->∀z,D.atKey (kI k) z= .lit (.string (j.img k)):=by
         obtain⟨D,q1,q2,q3,q4,q5⟩:=B.img
         exact⟨D,q1,q3,q4,q5⟩
        obtain⟨D,hD,ng,zT,xK⟩:=HD6
        have ql:=ah (au ng (au zT xK))
        obtain⟨y0,y1,ytl⟩:=B.cells
        have HTx6:=ah B
        clear ng zT xK B
        go_wp2_with (first
         |(at_range;go_must (refine wpList_range_own _ rfl _ 197 rfl 3 209 iy dW rI A 5000 D rfl hD ?_;intro w7 bf sW j6))
         |go_in)
        go_frame
        have zG:=ah bf
        have Y:Keep eG P w7:=(Keep.refl eG P).grown sW (fun k e=>by cases e)
        have y5:=ah Y
        have HP7:=ah (q.out.keep Y (fun _ _ e=>e))
        clear bf sW Y hD
        go_loopw [] (fun wr=>Lr P wr A D qc V qb pg o5 d s r l6 p op j) (fun wr=>wr.rangeLeft A P.heap.size)
        case atStart=>
         exact⟨_,_,p.fresh,zG,HP7,ah (Mix.start q.out.ok.fresh.rise (fun b hb=>by rw[ql.out.2.1];exact gq hb)),ah (fun _ h=>h),ah (y5.out.mono (fun _ _ e=>e.elim))⟩
        case round=>
         obtain⟨left,cnt,F,vk,j5,y7,kz,oO⟩:=hrel
         go_wp2_with (first
          |(at_next;go_must (refine qi _ rfl _ rfl A P.heap.size 5000 D left cnt rfl vk.out ?_ ?_))
          |go_in)
         ·intro _ af
          have hF:=y7.out.done q.out.ok.fresh.rise af
          rw[hF] at j5
          have hsf:=q.out.sfb
          have mD:=ah (show Step S (Three qc V qb) w wr from qC.out.trans ⟨oO.out.mono (fun g I e=>e.elim (fun x=>x▸.inr (.inr hsf)) (fun x=>absurd I (aX.2 x))),fun _ I=> .inl I⟩)
          go_wp2_with fail
          refine fe (f:=93) (args:=#[.pointer (some ⟨t,0,none⟩)]) (by simp) (by simp[go_sem]) ?_
          refine(pV.out wr _ r l6 _ op j5.out.pack mD.out.1 mD.out).mono ?_
          rintro e u' w' ⟨rfl,rfl,o,X,y⟩
          rw[qO.out]
          exact⟨_,by simp[results,ny,go_sem],rfl,_,o,X,y⟩
         ·intro x c8 M nN hwx rq iO bg dn nk zf hs8 hen
          obtain⟨J,j4⟩:=ql.out.1 _ (kz.out _ rq)
          have hxk:x=(J:Int):=by injection j4
          subst hxk
          have fo:J∈j.ks:=by
           have h0:=kz.out _ rq
           rw[ql.out.2.1] at h0
           exact bF h0
          have ol:c8=j.img J:=by
           have h0:=(bg (.lit (.string zB))).symm.trans (ql.out.2.2 J fo _)
           injection h0 with h0
           injection h0
          have hkn:=dM.out.hi J fo
          have vz:∀g,Three qc V qb g->g<P.heap.size:=q.out.pack.sub
          have jv:Keep (· =P.heap.size) wr M:=Keep.r9 zf
          have ko:=j5.out.keep jv (fun g I e=>cO _ (e▸vz g I))
          obtain⟨_,_,_,_,z4,_,_,nH,_⟩:=ko.cells
          have vT:Row (M.alloc (.cells (aF zB).toArray 209)) M.heap.size 209 (aF zB):=Row.new M _ _
          have nD:=ah (show (aF zB).length=512 by rw[bC,gG])
          have G:=ah (show (aF c8).length=512 by rw[bC,iO])
          have ai:=fO c8
          have q8:=ah (FY c8 iO)
          have HCE:=ah ol;have HC8:=ah iO;have HKX:=ah j4
          clear ol bg j4
          have Q:=ah dn;have HK8:=ah jv;have HP8:=ah ko
          clear dn jv ko zf hs8
          go_wp2_with (first
           |((refine bS rfl ?_);intro K hK;(refine gZ 209 rfl _ jG ?_);refine hK _ _ ?_)
           |((refine bS rfl ?_);intro K hK;(refine wp_store_row 209 _ _ rfl M.heap.size 0 209 _ (aF c8) rfl rfl vT (jH.trans (congrArg some G.out.symm)) (by rw[nD.out,G.out];omega) ai ?_);intro w9 H rf;refine hK _ _ (Stop.of ?_)))
          refine Stop.on ?_
          rw[kZ _ _ (nD.out.trans G.out.symm)] at H
          have m:Below M.heap.size M w9:=(((Keep.refl (fun _=>False) M).alloc _).trans (rf.mono (M':=fun g=>g=M.heap.size) (fun _ _ e=>e)) (fun i hi e=>by omega)).below
          have qm:=ah (HP8.out.keep (Keep.of_below m eG) (fun _ _ e=>e))
          have z49:w9.drew.cell? ⟨pg,4,none⟩=some (.map (some s)):=(m.cell (p:=⟨pg,4,none⟩) nH).trans z4
          have hl9:pg<w9.drew.heap.size:=aA nH m.size
          obtain⟨C,HC⟩:∃C,Hid (aF c8=C):=⟨_,ah rfl⟩
          rw[HC.out] at H ai G q8
          have hw:w9.drew.rangeAt M.heap.size 0 C:=H.whole
          have sN:=qm.out.ok.fresh
          have hn9:=qm.out.log.dk.ok.hi
          have hfr:=qm.out.fr
          obtain⟨E,X,z8,vY,l9,zH⟩:=hfr
          have HE:=ah X;have qy:=ah (au z8 (au vY (au l9 zH)))
          have eH:J<r.n - p.skip:=by
           rw[zy.out,HKN.out];exact hkn
          have hkb:=sV (J:Int) (by omega) (by omega)
          clear H rf vT X z8 vY l9 zH hen
          go_wp2_with fail
          refine aP (fun W=>W=w9.drew) (fun i=> !([6].contains i)) [0,1,2,3,4,5,6] rfl (by kernel_rfl) rfl ?_
          repeat ((refine bE (v:= ?_) rfl rfl ?_ rfl (fun W hW=> ?_) ?_);rotate_left;(focus (exact fun c a w h=>tN (by decide) (by decide) h));(focus ((try dsimp only at hW);subst hW;(go_simp;first|done|with_reducible rfl)));(try simp only[Act.put,ak,ay,ax]))
          refine bE (v:= .agg C.toArray) rfl rfl (fun c a w h=>tN (by decide) (by decide) h) rfl (fun W hW=> ?_) ?_
          ·subst hW
           exact jA 209 (.tmp 14) rfl M.heap.size 0 rfl C _ hw IV rfl (jH.trans (congrArg some G.out.symm))
          simp only[Act.put,ak,ay,ax]
          refine jR rfl rfl rfl (by kernel_rfl) ?_;intro K hK
          refine mJ _ _ _ 197 rfl 3 209 iy dW rI s 5000 E rfl (VZ HE.out) (by simp[maxLen]) _ _ (kI J) rfl rfl (ni J hkb) (.lit (.string c8)) [] q8.out ?_
          intro tY av d9
          refine hK.out _ _ ?_
          refine bN ?_
          have n:Keep (· =s) w9 tY:=((Keep.refl (· =s) w9).drew).trans (Keep.r9 d9) (fun _ _ e=>e)
          have vM:=ah (kJ.put sN (by omega) J c8 eH HE.out qy.out.1 qy.out.2.1 qy.out.2.2.1 qy.out.2.2.2 av)
          have lH:=ah (qm.out.fresh n (F.put J c8) vM.out (sN.put J c8 eH HC8.out))
          have hnd:A≠s:=fun e=>by
           have h1:Three qc V qb A:=e▸.inr (.inr q.out.sfb)
           rcases qC.out.2 A h1 with h2|h2
           ·exact qf A h2 di.out.sdb
           ·exact absurd (di.out.sub A di.out.sdb) (aX.2 h2)
          have yB:A<M.heap.size:=Q.out.owns.lt
          have oo:P.heap.size<M.heap.size:=Q.out.lt
          have hfl:=vz _ (.inr (.inr q.out.sfb))
          have p9:=ah (xV Q.out ((n.block A (aA yB m.size) hnd).trans (m.block A yB)) ((n.block _ (aA oo m.size) (fun e=>by omega)).trans (m.block _ oo)))
          have Z:=ah (y7.out.put J fo)
          rw[<-HCE.out] at Z
          have mo:Hid (Keep (fun g=>g=s\/P.heap.size<=g) P tY):=ah (((oO.out.trans HK8.out (fun _ _ e=> .inr (eO e.symm))).trans (Keep.of_below m _) (fun _ _ e=>e)).trans n (fun _ _ e=> .inl e))
          clear av d9 n m z4 z49 hw
          go_wp2_with fail
          go_roundw
          case rel=>exact⟨_,nN,_,p9,lH,Z,ah (fun kl h=>kz.out kl (by simp only[dA] at h;exact h.1)),mo⟩
          case measure=>rw[p9.out.left_eq,vk.out.left_eq];exact nk
       ·rw[if_neg hq] at qO
        have hq':(q6 !=0)=true:=by simpa using hq
        have HFB:=ah (mg pg d r l6 p op S _ q6 w P q.out.pack qC.out hq)
        go_wp2_with (first
         |(go_at_call 101;go_must (refine HFB.out.mono ?_;rintro e w7 ⟨rfl,S7,hP7,j6⟩)))
        refine fe (f:=93) (args:=#[.pointer (some ⟨t,0,none⟩)]) (by simp) (by simp[go_sem]) ?_
        refine(pV.out w7 S7 r l6 p.dies op hP7 j6.1 j6).mono ?_
        rintro e u' w' ⟨rfl,rfl,o,X,y⟩
        rw[qO.out]
        exact⟨_,by simp[results,ny,go_sem],rfl,S7,o,X,y⟩
end Go.Proofs.YtpmbddooibgnaaaGreatDoor
