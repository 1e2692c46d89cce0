--
import Derived.Test.YtogbkgmlhhahdaaGreatT11
set_option maxRecDepth 100000
set_option maxHeartbeats 0
set_option linter.all false
namespace Go.Proofs.YtogbkgmlhhahdaaGreat
open Go.RowKit
variable{a:Im}{l:Lg}{n:Nat}{w:World}
def Ki (w:World)(t:Nat):Prop:=∃db,w.heap[t]? =some (.cells #[.pointer none,.map (some db)] 147 (0,0))
def nI (im:Im):List ByteArray:=im.ks.map fun b=>strOf (vK b (im.img b))
def qZ (a:Im):kL (nI a)=a.bH:=by
 unfold kL nI Im.bH;rw[Au];rfl
def tF (a:Im):(nI a).length=a.ks.length:=by simp[nI]
def lN.len {b:Nat}(h:lN w b a)(c:TypeId):(Builtin.len_ #[139] c #[.map (some b)]).run Tryz.prog w= .ok (.int .i64 a.ks.length) w:=by
 obtain⟨D,e,d,_⟩:=h;rw[<-d];exact e.len fH c
def IK (h:a.Ok n):∀s∈nI a,s.size=516:=by
 intro s d;obtain⟨b,c,rfl⟩:=fw.1 d;show (vK b (a.img b)).toArray.size=516;simp[vK,bW,h.img b c]
def yw:∀(a:List ByteArray) (k:Nat),(∀s∈a,s.size=k)->jN a=a.length*(4+k)
 |[],k,_=>by simp[jN]
 |s::r,k,h=>by
  have ih:=yw r k (fun x b=>h x (aX _ b))
  unfold jN at ih ⊢
  rw[dK,qg,ih,h s (bf ..),bn,fq]
  omega
def Dc (h:a.Ok n)(b:n<=4096):jN (nI a)<=1000000000:=by
 rw[yw _ 516 (IK h),tF];have:=zC _ _ h.rise h.hi;omega
def Lg.Af (h:a.Ok n)(d:l.dead=false)(j:0<a.ks.length)(i:a.ks.length<=1024)(c:dS a.bH<=l.room):l.bad (kL (nI a))=0:=by
 rw[qZ];have f:a.bH.length=a.ks.length:=by simp[Im.bH]
 unfold Lg.bad;rw[d,if_neg (by simp),if_neg (by rw[f];omega),if_neg,if_neg (by omega)];simp only[VG,eB];rintro⟨r,c,e⟩;obtain⟨b,g,rfl⟩:=fw.1 c;simp[vK,bW,h.img b g] at e
def Lg.NS {a:Dk}{u:Nat}(h:(l.trim a u).2.2=0):(l.trim a u).1.waits=[]/\(l.trim a u).2.1=l.cut u:=by
 unfold Lg.trim at h ⊢
 split at h
 ·cases h
 ·rename_i d
  split at h
  ·cases h
  ·rename_i c
   split at h
   ·rename_i b
    rw[if_neg d,if_neg c,if_pos b];exact Lg.xP b
   ·cases h
def Pg.FC {σ:Dk}{p:Pg}(d:l.Ok)(h:(p.home σ l).2.2.2=0):(p.home σ l).1.waits=[]/\(p.home σ l).2.1.dead=false/\(p.home σ l).2.1.last=l.last/\(p.home σ l).2.1.room=l.n - 1/\(p.home σ l).2.2.1={p with fresh:=Im.none}:=by
 unfold Pg.home at h ⊢
 split at h
 ·rename_i g
  obtain⟨_,a,b⟩:=Lg.xK g
  split at h
  ·rename_i k
   split at h
   ·rename_i n
    split at h
    ·rename_i f
     rw[if_pos g,if_pos k,if_pos n,if_pos f];obtain⟨i,c⟩:=Lg.NS f;refine⟨i,?_,?_,?_,rfl⟩
     ·dsimp only;rw[c,a];exact b
     ·dsimp only;rw[c,a];rfl
     ·dsimp only
      rw[c,a];have m:=zx l.last l.list (l.n - 1) l.start l.used (fun e j=>(d.ent e j).2);show l.n - 1 - (Lg.sF l.last l.list (l.n - 1) l.start l.used).2.2=l.n - 1;rw[m.2.1,d.sum];omega
    ·cases h
   ·cases h
  ·cases h
 ·cases h
def Lg.MP (l:Lg)(b:List UInt8):∀(k i:Nat) (a:Dk),(l.rF b k i a).1.n=a.n
 |0,_,_=>rfl
 |k+1,i,a=>by
  rw[l.uJ]
  split
  ·rw[Lg.MP l b k,Dk.qU]
  ·exact Dk.qU _ _ _
def Lg.Kg (a:Dk)(l:Lg)(b:List (List UInt8)):(l.append a b).1.n=a.n:=by
 unfold Lg.append
 split
 ·rfl
 ·split<;>exact Lg.MP _ _ _ _ _
def Lg.BJ (a:Dk)(l:Lg)(b:List (List UInt8)):(l.append a b).2.1.frm=l.frm/\(l.append a b).2.1.n=l.n:=by
 unfold Lg.append
 split
 ·exact⟨rfl,rfl⟩
 ·split<;>exact⟨rfl,rfl⟩
def Pg.Nf (p:Pg):∀(r:List Nat) (a:Dk),(p.lay r a).1.n=a.n
 |[],_=>rfl
 |b::r,a=>by
  rw[p.zS]
  split
  ·rw[Pg.Nf p r,Dk.qU]
  ·exact Dk.qU _ _ _
def Pg.Vd (a:Dk)(l:Lg)(p:Pg):(p.home a l).1.n=a.n:=by
 unfold Pg.home
 split
 ·split
  ·split
   ·split<;>(dsimp only;rw[Lg.Qk,Dk.oH,Pg.Nf,Lg.oH])
   ·dsimp only;rw[Dk.oH,Pg.Nf,Lg.oH]
  ·dsimp only;rw[Pg.Nf,Lg.oH]
 ·exact Lg.oH a l
def Pg.OO (a:Dk)(l:Lg)(p:Pg):(p.home a l).2.2.1.skip=p.skip:=by
 unfold Pg.home
 split
 ·split
  ·split
   ·split<;>rfl
   ·rfl
  ·rfl
 ·rfl
def Pg.uf {p d:Pg}{k c a:Dk}{j f:Lg}{b:Im}{e i:Nat}{g:Int}(m:p.dead=false)(o:b.ks≠[])(r:dS b.bH=e)(s:¬(p.ring<e\/1024<b.ks.length))(q:p.ready k l e=(c,j,d,0))(n:j.append c b.bH=(a,f,i,g)):
  p.commit k l b=if g=0 then(a,f,{d with fresh:=d.fresh.over b},i,0) else(a,f,d.dies,0,10):=by
 unfold Pg.commit;rw[m,if_neg (by simp),if_neg o,r,if_neg s,q];dsimp only;rw[n];simp
def yh.fresh {c:World}{o n j:Nat->Prop}{m k d a:Nat}{i:Dk}{p:Pg}{q:Value}(h:yh w o n j m k d a i l p q)(f:Keep (· =a) w c)(F:Im)(r:lN c a F)(s:F.Ok (i.n - p.skip)):yh c o n j m k d a i l {p with fresh:=F} q:=
 ⟨h.log.keep f (fun _ b e=>h.dd a h.sfb (e▸b)) (fun _ b e=>h.dl a h.sfb (e▸b)),⟨h.ok.frm,h.ok.skip,h.ok.ring,h.ok.fit,s⟩,fun g b=>ax (h.sub g b) f.size,h.dd,h.dl,h.BS,h.sfb,(f.block _ (h.sub _ h.BS) (fun e=>h.fr.ne h.obj e)).trans h.obj,r⟩
def yD.same {d:World}{T:Nat->Prop}{t c f:Nat}{b:Im}(h:yD w T t c f b n)(a:Keep (fun g=>¬T g) w d):yD d T t c f b n:=
 ⟨h.ok,fun g i=>ax (h.sub g i) a.size,h.st,h.sdb,(a.block _ (h.sub _ h.st) (fun e=>e h.st)).trans h.obj,h.img.block (a.block _ (h.sub _ h.sdb) (fun e=>e h.sdb))⟩
def Nw (w6 wr:World)(db:Nat)(D:DataW Unit)(Sd6 Sl6 Sp5:Nat->Prop)(pg lg5 d fb5:Nat)(σ6:Dk)(l6:Lg)(p5:Pg)(op:Value)(im:Im):Prop:=
 ∃(left:Lit->Bool) (cnt:Nat) (F:Im),Hid (wr.ranges Tryz.prog 3 rI db w6.heap.size 5000 D left cnt)/\Hid (yh wr Sd6 Sl6 Sp5 pg lg5 d fb5 σ6 l6 {p5 with fresh:=F} op)/\Hid (Mix p5.fresh im left F)/\Hid (∀kl,left kl=true->Maps.has D kl=true)/\Hid (Keep (fun g=>g=fb5\/w6.heap.size<=g) w6 wr)
def sU {P:Program}{j:Func}{b a:Array Value}{R:Ending->World->Prop}(n:results j b=results j a):∀(i:List Deferred) (u:FrameMode) (w:World),Leaves P j b R i u w->Leaves P j a R i u w
 |[],.returning,w,h=>by
  obtain⟨v,l,k⟩:=h
  exact⟨v,n▸l,k⟩
 |[],.panicking _,w,h=>h
 |[],.run,w,h=>h
 |d::i,u,w,h=>by
  obtain⟨l,q,m,f,g,k,p,o⟩:=h
  refine⟨l,q,m,f,g,k,p,o.mono ?_⟩
  rintro e s r h
  cases e with
  |returned v=>exact sU n i _ _ h
  |panicked c=>exact sU n i _ _ h
  |outgrown=>exact h
def uW {R:Ending->World->Prop}{d:Nat}(b:d≠2)(e:d≠3){c:List PanicEntry}{a:Act}{v:Value}(h:bodyPostD Tryz.prog Tryz.f43 R (.panic c) (a.put (some d) v) w):bodyPostD Tryz.prog Tryz.f43 R (.panic c) a w:=by
 refine sU ?_ _ _ _ (show Leaves Tryz.prog Tryz.f43 (a.tmps.setIfInBounds d v) R a.defers (.panicking c) w from h);unfold results;rw[oF];simp[Array.getD_eq_getD_getElem?,WG,b,e]
def zD {g:World}{b r:Nat}{D:DataW Unit}{left:Lit->Bool}{e:Nat}(h:w.ranges Tryz.prog 3 rI b r n D left e)(j:g.heap[b]? =w.heap[b]?)(m:g.heap[r]? =w.heap[r]?):g.ranges Tryz.prog 3 rI b r n D left e:=by
 obtain⟨o,c,a,d,q,l,F,p,k,i,f⟩:=h;exact⟨o,c,a,d,q,j.trans l,F,p,k,m.trans i,f⟩
def rz (w:World){j:Array Oper}{f:List Oper}{o:Oper}{a:Act}{Q:Exit->Act->World->Prop}(P:o.guard=none)(H:Operand)(t:o.op=Op.next H false)(b r n:Nat)(D:DataW Unit)(left:Lit->Bool)(g:Nat)
  (A:a.eval H= .pointer (some ⟨r,0,none⟩)) (h:w.ranges Tryz.prog 3 rI b r n D left g)
  (k:g=0->(∀J,left J=false)->wpList Tryz.prog j Q f (a.put o.dst (.tuple #[.bool false])) w)
  (l:∀(x:Int) (c:List UInt8) (i:World) (d:Nat),(Lit.int .i64 x).wf=true->left (kI x)=true->c.length=512->(∀p,D.atKey (kI x) p= .lit (.string c))->i.ranges Tryz.prog 3 rI b r n D (fun z=>left z && !z.sameKey (kI x)) d->d<g->
   w.grownBy i (some r)->i.heap.size=w.heap.size->(Instr.entry (.pointer (some ⟨r,0,none⟩))).run Tryz.prog i= .ok (.tuple #[.int .i64 x,.agg (aI c).toArray]) i->wpList Tryz.prog j Q f (a.put o.dst (.tuple #[.bool true,.int .i64 x,.agg (aI c).toArray])) i):
  wpList Tryz.prog j Q (o::f) a w:=
 wpList_next_ranges w P H t 3 jD rI (Value.int .i64) (fun c:List UInt8=>Value.agg (aI c).toArray) (fun R J e=>by obtain⟨x,rfl,_⟩:=Maps.keyOf_int_inv jG e;exact⟨x,rfl⟩) (fun v y I=>by obtain⟨O,T⟩:=y;obtain⟨c,_,rfl,_⟩:=vV I;exact⟨c,rfl⟩)
  b r n D left g A h k (fun x c J y i d e G I s B m F E C=>by
   obtain⟨W,K,rfl,q⟩:=Maps.keyOf_int_inv jG e
   cases K
   obtain⟨O,T⟩:=y
   obtain⟨M,V,N,S⟩:=vV I
   have:c=M:=Eh (congrArg Array.toList (Value.agg.inj N))
   subst this
   exact l x c i d q G V (fun p=>(s p).trans S) B m F E C)
def aZ.less {S S':Nat->Prop}{k:Nat}{v:Value}{a:List Value}(h:aZ w S k v n a)(b:∀g,S' g->S g):aZ w S' k v n a:=h.keep fun g _ _ c=>⟨rfl,fun x=>c (b g x)⟩
theorem M0 (t pg d:Nat)(n:Dk)(l:Lg)(p:Pg)(op:Value)(j:Im)(S T:Nat->Prop)(w:World)(h:ji w S pg d n l p op)(ht:sG w T t pg j (p.blocks n))(qo:∀g,S g->¬T g)(hd:p.dead=false)(hld:l.dead=false)(zn:n.waits.length<=90000)(hll:l.last<1000000000000):
  Calls Tryz.prog 43 #[.pointer (some ⟨t,0,none⟩)] w fun e w'=>e= .returned (.tuple #[.int .i64 (p.commit n l j).2.2.2.1,.int .i64 (p.commit n l j).2.2.2.2])/\
   ∃S',ji w' S' pg d (p.commit n l j).1 (p.commit n l j).2.1 (p.commit n l j).2.2.1 (.pointer none)/\Ki w' t/\Step (fun g=>S g\/T g) (fun g=>S' g\/T g) w w':=by
 have hbp:0<p.blocks n:=by have:=h.ok.1.fit;have:=h.ok.1.skip;unfold Pg.blocks;omega
 have HU:=ah (F6 t pg d n l p op j S T (p.blocks n) 0 w h ht hd hbp);have zX:p.blocks n<=4096:=by have:=h.ok.2.1.hi;unfold Pg.blocks;omega
 have bA:=ht;obtain⟨A,bA⟩:=bA;have bC:=ah bA.ok;obtain⟨t0,t1,y5⟩:=bA.cells;have HI:=ah bA.img;have bH:=ah bA;have HLN:=ah (zC _ _ bA.ok.rise bA.ok.hi);have zb:∀(w1:World) (S1:Nat->Prop) (yK:Dk) (l1:Lg) (p1:Pg) (op1:Value),ji w1 S1 pg d yK l1 p1 op1->Keep S w w1->Step S S1 w w1->CallsD Tryz.prog 56 #[.pointer (some ⟨t,0,none⟩)] .returning w1 fun e u' w'=>u'= .returning/\e= .returned (.tuple #[])/\ji w' S1 pg d yK l1 p1 (.pointer none)/\Ki w' t/\Step (fun g=>S g\/T g) (fun g=>S1 g\/T g) w w':=by
  intro w1 S1 yK l1 p1 op1 hP1 hk hs;have hT1:=ht.keep hk (fun g J e=>qo g e J);have hd1:∀g,S1 g->¬T g:=fun g J e=>(hs.2 g J).elim (fun x=>qo g x e) (fun x=>absurd (ht.sub g e) (bg.2 x))
  refine(Qm t pg d yK l1 p1 op1 j _ S1 T .returning w1 hP1 hT1 hd1).mono ?_;rintro e u' w' ⟨rfl,rfl,r,X,hK⟩;refine⟨rfl,rfl,r,X,?_,fun g J=> ?_⟩
  ·have hk0:Keep (fun g=>S g\/T g) w w1:=hk.mono (fun _ _ e=> .inl e)
   refine hk0.trans hK (fun g J e=> ?_);rcases e with e|e
   ·exact(hs.2 g e).elim .inl (fun x=>absurd J (bg.2 x))
   ·exact .inr e
  ·rcases J with J|J
   ·exact(hs.2 g J).elim (fun x=> .inl (.inl x)) .inr
   ·exact .inl (.inr J)
 have Y:=ah zb;clear zb;have j5:=ah h;obtain⟨Sd,Sl,Sp,lg,fb,h,hS⟩:=h;obtain⟨c0,c1,c2,c3,c4,_,c6,hlt,_⟩:=h.cells;have HH:=ah h;have zA:(Builtin.len_ #[139] 3 #[.map (some A)]).run Tryz.prog w.drew= .ok (.int .i64 j.ks.length) w.drew:=(HI.out.block (w':=w.drew) rfl).len _;have HLa:=ah (Uk pg d n l p op S w.drew (j5.out.below ((aR _ w).drew)));have HIk:=ah (show ∀g,T g->g<w.heap.size from ht.sub);clear h ht c2 c4 c6
 by_cases he:j.ks=[]
 ·have dZ:j.ks.length=0:=by rw[he];rfl
  rw[dZ] at zA;have HM:=ah (show p.commit n l j=(n,l,p,l.last,0) by unfold Pg.commit;simp[hd,he]);have HF:=ah (Y.out w.drew S n l p op (j5.out.below ((aR _ w).drew)) ((Keep.refl S w).drew) (Step.of_below ((aR _ w).drew)))
  go_enter_defers Tryz.func43,Tryz.ntmps43
  go_wp2_with (first|(go_at_call 81;go_must (refine HU.out.mono ?_;rintro e w1 ⟨rfl,hw1⟩;subst w1))|(go_at_call 45;go_must (refine HLa.out.mono ?_;rintro e w1 ⟨rfl,hw1⟩;subst w1)))
  refine jM (f:=56) (args:=#[.pointer (some ⟨t,0,none⟩)]) (by simp) (by simp[go_sem]) ?_;refine HF.out.mono ?_;rintro e u' w' ⟨rfl,rfl,r,X,y⟩;rw[HM.out];exact⟨_,by simp[results,oF,go_sem],rfl,S,r,X,y⟩
 ·have dZ:0<j.ks.length:=Nat.pos_of_ne_zero (fun e=>he (aY e))
  have zf:¬((j.ks.length:Int)=0):=by omega
  have zW:((j.ks.length:Int)==0)=false:=by simpa using zf
  have HSo:=ah (MX A w.heap.size j _ (w.drew.alloc (.cells #[.map (some A)] 139)) ((HI.out.block (w':=w.drew) rfl).block (qF _ _ _ HI.out.lt)) bC.out zX ((Ak _ _ 0 _ _ (0,0) (aV w.drew _)).trans rfl) (by show w.drew.heap.size<_;simp))
  go_enter_defers Tryz.func43,Tryz.ntmps43
  go_wp2_with (first|(go_at_call 81;go_must (refine HU.out.mono ?_;rintro e w1 ⟨rfl,hw1⟩;subst w1))|(go_at_call 83;go_must (refine(Ui A _).mono ?_;rintro e w2 ⟨rfl,hw2⟩;subst w2))|(go_at_call 82;go_must (refine HSo.out.mono ?_;rintro e w3 ⟨v,rfl,hO,hb3⟩;refine sO ?_)))
  refine sN ?_;have xP:=ah (show Below w.heap.size w w3 from((aR w.heap.size w).drew).trans ((aN w.drew (.cells #[.map (some A)] 139)).trans (hb3.mono (by simp)):Below w.drew.heap.size w.drew w3));obtain⟨vo,vc,rfl,_,_,_,_⟩:=aZ.form hO.dx;have HO:=ah hO;clear hO hb3 HSo;go_wp2_with fail;go_loopw [6,40] (fun b i wr=>∃(k:Nat) (ao:Option Addr) (c:Nat),k<=j.ks.length/\i= .int .i64 k/\b= .slice ao k c/\Hid (aT wr gB w3.heap.size 9 1 b k (((nI j).take k).map .string))/\Hid (Below w3.heap.size w3 wr)) (fun _ i _=>j.ks.length - (intOf i).toNat)
  case atStart=>exact⟨0,none,0,aS _,rfl,rfl,ah (aT.nil _ _ _ _ _),ah (aR _ _)⟩
  case round=>
   obtain⟨k,ao,c,hk,rfl,rfl,HBt,nH⟩:=hrel
   by_cases rG:k<j.ks.length
   ·have hltI:(k:Int)<(j.ks.length:Int):=by omega
    obtain⟨b,HB⟩:=nm (j.ks[k]);have hbm:b∈j.ks:=(by rw[<-HB.out];exact bF rG);have hb1:=bC.out.hi b hbm;have hbw:=uG (b:Int) (by omega) (by omega);have P:=ah (xP.out.trans (nH.out.mono xP.out.size));obtain⟨kb,kq,rfl,hkc⟩:=aZ.EM ((HO.out.dx (S:=gB)).below nH.out) rfl k (.int .i64 (b:Int)) (by simp[bD rG,HB.out]);have hIr:=HI.out.block (P.out.block _ HI.out.lt);obtain⟨D,hD,hh,fA⟩:=hIr.look b;have hz:(zeroValue 143).run Tryz.prog wr= .ok (.agg (aI zB).toArray) wr:=kQ wr;obtain⟨v1,ps1,hrun,hv1⟩:=hD.lookup jD fH hz xN (oD b hbw);obtain⟨x,hx,rfl,hdx⟩:=vV hv1;have hxe:x=j.img b:=by
     have h1:=(fA hbm).symm.trans hdx;injection h1 with h1
     injection h1 with h1
     exact h1.symm
    have HXE:=ah hxe;have HX:=ah hx;clear hv1 hdx fA hh hD hxe hx hIr;have r1:=(P.out.cell (p:=⟨t,1,none⟩) y5).trans t1;have htr:=ax y5 P.out.size;have HR:=ah (Tw b x wr (by omega) HX.out);have y8:k<=4096:=(by have:=HLN.out;omega);have zm:=nH.out.size;have HSn:=ah (show (nI j).take (k+1)=(nI j).take k++[strOf (vK b x)] by
     rw[List.take_add_one]
     congr 1
     unfold nI
     rw[eZ,bD rG,HB.out,HXE.out]
     rfl)
    obtain⟨sr,j6⟩:=nm (strOf (vK b x));rw[j6.out] at HR HSn;go_wp2_with (first|(go_at_call 84;go_must (refine HR.out.mono ?_;rintro e w4 ⟨rfl,y7⟩;have hb4s:=y7.size))|(at_builtin;go_must ((refine cO rfl (.tmp 44) (.tmp 53) 142 142 rfl gB w3.heap.size 9 1 16 _ bq ig rfl (.slice ao k c) _ _ rfl ((HBt.out.below (w':=w4) y7).below (aN _ _)) _ 1 _ rfl (gq [_] _ 1 1 1 rfl bq rfl ?_) (fun _ h=>h.elim) ?_ ?_ ?_ ?_);(focus simp[Value.oneCell']);(focus simp only[aU];omega);(focus unfold maxLen;omega);(focus omega);intro ao1 c1 w5 mK hk5 G hd5)))
    have HO5:=ah mK;have tQ:=ah ((nH.out.trans (y7.mono zm)).trans (((aN w4 _).mono (aK zm hb4s)).trans G));clear mK hk5 G hd5 y7;go_roundw
    case rel=>
     refine⟨k+1,ao1,c1,by omega,by go_num,rfl,ah ?_,tQ⟩;rw[HSn.out,bT];exact HO5.out
    case measure=>simp[intOf];omega
   ·obtain rfl:k=j.ks.length:=by omega
    rw[aJ (lD (tF j))] at HBt;have P:=ah (xP.out.trans (nH.out.mono xP.out.size));have hlr:=tF j;have zS:jP wr S (.slice ao j.ks.length c) (nI j):=by
     have h0:=(HBt.out.other (S':=S) (fun g J hs=>by have:=j5.out.sub g hs;have:=xP.out.size;omega)).dx;show aZ wr S 1 _ (nI j).length _;rw[hlr];exact h0
    have HBS:=ah zS;obtain⟨nd,Hnd⟩:=nm (dS (kL (nI j)));have HN:=ah (PW _ (nI j) S wr zS (Dc bC.out zX));rw[Hnd.out] at HN;have R:=ah (show dS j.bH=nd by rw[<-Hnd.out,qZ]);have hndl:nd<=3000000:=by
     rw[<-Hnd.out];unfold dS;rw[xQ];have:=Dc bC.out zX;omega
    have d1:=(P.out.cell (p:=⟨pg,1,none⟩) hlt).trans c1;have d3:=(P.out.cell (p:=⟨pg,3,none⟩) hlt).trans c3;have s1:=(P.out.cell (p:=⟨t,1,none⟩) y5).trans t1;have htr:=ax y5 P.out.size;have hpr:=ax hlt P.out.size;have HPr:=ah (j5.out.below P.out);have j6:=ah (Step.of_below (S:=S) P.out);have HF0:=ah (Y.out wr S n l p op HPr.out j6.out.1 j6.out);have hRo:=ah (PS lg d l Sl wr (HH.out.log.lg.keep (Keep.of_below P.out gB) (fun _ _ e=>e)));clear zS zA zf zW t1 c1 c3 t0 c0
    by_cases h1:p.ring<nd
    ·have h1I:(p.ring:Int)<(nd:Int):=by omega
     have HM:=ah (show p.commit n l j=(n,l,p,0,13) by unfold Pg.commit;rw[R.out];simp[hd,he,h1]);go_wp2_with (first|(go_at_call 85;go_must (refine HN.out.mono ?_;rintro e w7 ⟨rfl,nJ⟩;subst w7)))
     refine jM (f:=56) (args:=#[.pointer (some ⟨t,0,none⟩)]) (by simp) (by simp[go_sem]) ?_;refine HF0.out.mono ?_;rintro e u' w' ⟨rfl,rfl,r,X,y⟩;rw[HM.out];exact⟨_,by simp[results,oF,go_sem],rfl,S,r,X,y⟩
    ·have h1I:¬((p.ring:Int)<(nd:Int)):=by omega
     by_cases h2:1024<j.ks.length
     ·have h2I:(1024:Int)<(j.ks.length:Int):=by omega
      have HM:=ah (show p.commit n l j=(n,l,p,0,13) by unfold Pg.commit;rw[R.out];simp[hd,he,h2]);go_wp2_with (first|(go_at_call 85;go_must (refine HN.out.mono ?_;rintro e w7 ⟨rfl,nJ⟩;subst w7)))
      refine jM (f:=56) (args:=#[.pointer (some ⟨t,0,none⟩)]) (by simp) (by simp[go_sem]) ?_;refine HF0.out.mono ?_;rintro e u' w' ⟨rfl,rfl,r,X,y⟩;rw[HM.out];exact⟨_,by simp[results,oF,go_sem],rfl,S,r,X,y⟩
     ·have h2I:¬((1024:Int)<(j.ks.length:Int)):=by omega
      have HC2:=ah (show ¬(p.ring<nd\/1024<j.ks.length) by omega);have fJ:=(aR wr.heap.size wr).drew
      by_cases h3:l.room<nd
      ·have h3I:(l.room:Int)<(nd:Int):=by omega
       have HHo:=ah (Uj pg d n l p op S wr.drew (HPr.out.below fJ) zn);obtain⟨M,l5,p5,q5,kg⟩:∃M l5 p5 q5,Hid (p.home n l=(M,l5,p5,q5)):=⟨_,_,_,_,ah rfl⟩
       have HKN:=ah (show M.n - p5.skip=p.blocks n by
        have e1:=Pg.Vd n l p;have e2:=Pg.OO n l p
        rw[kg.out] at e1 e2
        dsimp only at e1 e2
        rw[e1,e2];rfl)
       have HZ5:=ah (show q5=0->M.waits=[]/\l5.dead=false/\l5.last=l.last/\l5.room=l.n - 1/\p5={p with fresh:=Im.none} from fun e=>by
        have:=Pg.FC (σ:=n) (l:=l) (p:=p) j5.out.ok.2.2 (by rw[kg.out];exact e)
        rw[kg.out] at this
        exact this)
       rw[kg.out] at HHo;have hrg:=j5.out.ok.1.ring;go_wp2_with (first|(go_at_call 85;go_must (refine HN.out.mono ?_;rintro e w7 ⟨rfl,nJ⟩;subst w7))|(go_at_call 86;go_must (refine hRo.out.mono ?_;rintro e w7 ⟨rfl,nJ⟩;subst w7))|(go_at_call 77;go_must (refine HHo.out.mono ?_;rintro e w5 ⟨rfl,S5,hP5,hs5⟩;refine sO ?_)))
       refine sN ?_;have za:=ah hP5;have oH:=ah ((j6.out.trans (Step.of_below (S:=S) fJ)).trans hs5);have tQ:=ah (aZ.step (HBS.out.below fJ) hs5);clear hP5 hs5 fJ
       by_cases hq5:q5=0
       ·subst hq5
        obtain⟨z1,z2,z3,z4,z5⟩:=HZ5.out rfl;have HR5:=ah (show p.ready n l nd=(M,l5,p5,0) by unfold Pg.ready;rw[if_pos h3,kg.out]);have lJ:=ah (Lg.Af (l:=l5) bC.out z2 dZ (by omega) (by rw[R.out];omega));have HW5:=ah (show M.waits.length<=90000 by rw[z1];exact aS _);have z8:=ah (show l5.last<1000000000000 by rw[z3];exact hll);clear z1 z2 z3 z4 z5;obtain⟨zP,Sl5,p9,ko,B,h5,oo⟩:=za.out;obtain⟨_,x1,_,_,x4,_,_,hl5,_⟩:=h5.cells;have o6:=ah h5;have j3:=ah (MF ko d M l5 zP Sl5 _ (nI j) w5 h5.log (tQ.out.less (fun g J=>(oo g).2 (J.elim .inl (fun x=> .inr (.inl x))))) lJ.out HW5.out z8.out);rw[qZ] at j3;obtain⟨q,l6,k6,q6,q9⟩:∃q l6 k6 q6,Hid (l5.append M j.bH=(q,l6,k6,q6)):=⟨_,_,_,_,ah rfl⟩
        rw[q9.out] at j3;have r9:=ah (show q.n=M.n by have:=Lg.Kg M l5 j.bH;rw[q9.out] at this;exact this);have vz:=ah (show l6.frm=l5.frm/\l6.n=l5.n by have:=Lg.BJ M l5 j.bH;rw[q9.out] at this;exact this);have av:=ah (Pg.uf hd he R.out HC2.out HR5.out q9.out);clear h5;go_wp2_with (first|(go_at_call 87;go_must (refine j3.out.mono ?_;rintro e Q ⟨rfl,V,qb,lC,sP⟩;refine sO ?_)))
        refine sN ?_;have jb:=o6.out.turn lC sP (o6.out.ok.turn r9.out vz.out.1 vz.out.2);have s:=ah jb.1;have aB:=ah (oH.out.trans (jb.2.eqv (S':=Three V qb p9) oo (fun _=>H8)));clear jb lC sP x1 x4 hl5
        by_cases hq:q6=0
        ·subst hq
         rw[if_pos rfl] at av;have H:=bH.out.same ((aB.out.1).mono (fun g _ e=>qo g e));have HD6:∃D,Q.ownsMap Tryz.prog 3 rI A 5000 D/\(∀kl,Maps.has D kl=true->∃k:Nat,kl=kI k)/\(∀k:Nat,Maps.has D (kI k)=decide (k∈j.ks))/\∀k:Nat,k∈j.ks->∀z,D.atKey (kI k) z= .lit (.string (j.img k)):=by
          obtain⟨D,q1,q2,q3,q4,q5⟩:=H.img;exact⟨D,q1,q3,q4,q5⟩
         obtain⟨D,hD,mr,xV,vk⟩:=HD6;have af:=ah (aC mr (aC xV vk));obtain⟨y0,y1,ytl⟩:=H.cells;have HTx6:=ah H;clear mr xV vk H;go_wp2_with (first|(at_range;go_must (refine wpList_range_own _ rfl _ 139 rfl 3 143 jD fH rI A 5000 D rfl hD ?_;intro w7 bN xK jF))|go_in)
         go_frame
         have sF:=ah bN;have Z:Keep gB Q w7:=(Keep.refl gB Q).grown xK (fun k e=>by cases e);have l9:=ah Z;have HP7:=ah (s.out.keep Z (fun _ _ e=>e));clear bN xK Z hD;go_loopw [] (fun wr=>Nw Q wr A D V qb p9 pg ko d B q l6 p5 op j) (fun wr=>wr.rangeLeft A Q.heap.size)
         case atStart=>
          exact⟨_,_,p5.fresh,sF,HP7,ah (Mix.start s.out.ok.fresh.rise (fun b hb=>by rw[af.out.2.1];exact d9 hb)),ah (fun _ h=>h),ah (l9.out.mono (fun _ _ e=>e.elim))⟩
         case round=>
          obtain⟨left,cnt,F,yc,iO,xE,jv,yx⟩:=hrel;go_wp2_with (first|(at_next;go_must (refine rz _ rfl _ rfl A Q.heap.size 5000 D left cnt rfl yc.out ?_ ?_))|go_in)
          ·intro _ dZ
           have hF:=xE.out.done s.out.ok.fresh.rise dZ;rw[hF] at iO;have hsf:=s.out.sfb;have oO:=ah (show Step S (Three V qb p9) w wr from aB.out.trans ⟨yx.out.mono (fun g J e=>e.elim (fun x=>x▸.inr (.inr hsf)) (fun x=>absurd J (bg.2 x))),fun _ J=> .inl J⟩);go_wp2_with fail;refine jM (f:=56) (args:=#[.pointer (some ⟨t,0,none⟩)]) (by simp) (by simp[go_sem]) ?_;refine(Y.out wr _ q l6 _ op iO.out.pack oO.out.1 oO.out).mono ?_;rintro e u' w' ⟨rfl,rfl,r,X,y⟩;rw[av.out];exact⟨_,by simp[results,oF,go_sem],rfl,_,r,X,y⟩
          ·intro x c8 O kT hwx rV fK fA fo rF rJ hs8 hen
           obtain⟨N,fB⟩:=af.out.1 _ (jv.out _ rV);have hxk:x=(N:Int):=(by injection fB);subst hxk;have jl:N∈j.ks:=by
            have h0:=jv.out _ rV;rw[af.out.2.1] at h0;exact jS h0
           have yo:c8=j.img N:=by
            have h0:=(fA (.lit (.string zB))).symm.trans (af.out.2.2 N jl _);injection h0 with h0
            injection h0
           have hkn:=bC.out.hi N jl;have lm:∀g,Three V qb p9 g->g<Q.heap.size:=s.out.pack.sub
           have j4:Keep (· =Q.heap.size) wr O:=Keep.tY rJ;have jO:=iO.out.keep j4 (fun g J e=>dB _ (e▸lm g J));obtain⟨_,_,_,_,z4,_,_,kr,_⟩:=jO.cells;have nS:Row (O.alloc (.cells (aI zB).toArray 143)) O.heap.size 143 (aI zB):=Row.new O _ _;have o7:=ah (show (aI zB).length=512 by rw[bP,ja]);have G:=ah (show (aI c8).length=512 by rw[bP,fK]);have dR:=iA c8;have bB:=ah (IL c8 fK);have HCE:=ah yo;have HC8:=ah fK;have HKX:=ah fB;clear yo fA fB;have ql:=ah fo;have HK8:=ah j4;have HP8:=ah jO;clear fo j4 jO rJ hs8;go_wp2_with (first|((refine dV rfl ?_);intro K hK;(refine jw 143 rfl _ kQ ?_);refine hK _ _ ?_)|((refine dV rfl ?_);intro K hK;(refine wp_store_row 143 _ _ rfl O.heap.size 0 143 _ (aI c8) rfl rfl nS (kS.trans (congrArg some G.out.symm)) (by rw[o7.out,G.out];omega) dR ?_);intro w9 I nA;refine hK _ _ (Stop.of ?_)))
           refine sN ?_;rw[mg _ _ (o7.out.trans G.out.symm)] at I;have m:Below O.heap.size O w9:=(((Keep.refl (fun _=>False) O).alloc _).trans (nA.mono (M':=fun g=>g=O.heap.size) (fun _ _ e=>e)) (fun i hi e=>by omega)).below;have q8:=ah (HP8.out.keep (Keep.of_below m gB) (fun _ _ e=>e));have z49:w9.drew.cell? ⟨pg,4,none⟩=some (.map (some B)):=(m.cell (p:=⟨pg,4,none⟩) kr).trans z4;have hl9:pg<w9.drew.heap.size:=ax kr m.size;obtain⟨C,HC⟩:=nm (aI c8);rw[HC.out] at I dR G bB;have hw:w9.drew.rangeAt O.heap.size 0 C:=I.whole;have vv:=q8.out.ok.fresh;have hn9:=q8.out.log.dk.ok.hi;have hfr:=q8.out.fr;obtain⟨E,X,rP,rA,rX,lQ⟩:=hfr;have HE:=ah X;have aA:=ah (aC rP (aC rA (aC rX lQ)));have dn:N<q.n - p5.skip:=by
            rw[r9.out,HKN.out];exact hkn
           have y8:=uG (N:Int) (by omega) (by omega);clear I nA nS X rP rA rX lQ hen;go_wp2_with fail;refine aP (fun W=>W=w9.drew) (fun i=> !([6].contains i)) [0,1,2,3,4,5,6] rfl (by kernel_rfl) rfl ?_
           repeat ((refine wh (v:= ?_) rfl rfl ?_ rfl (fun W hW=> ?_) ?_);rotate_left;(focus exact fun c a w h=>uW (by decide) (by decide) h);(focus (try dsimp only at hW);subst hW;(go_simp;first|done|with_reducible rfl));(try simp only[Act.put,aj,au,ak]))
           refine wh (v:= .agg C.toArray) rfl rfl (fun c a w h=>uW (by decide) (by decide) h) rfl (fun W hW=> ?_) ?_
           ·subst hW
            exact lH 143 (.tmp 14) rfl O.heap.size 0 rfl C _ hw Ku rfl (kS.trans (congrArg some G.out.symm))
           simp only[Act.put,aj,au,ak];refine jC rfl rfl rfl (by kernel_rfl) ?_;intro K hK;refine nV _ _ _ 139 rfl 3 143 jD fH rI B 5000 E rfl (Vt HE.out) (by simp[maxLen]) _ _ (kI N) rfl rfl (oD N y8) (.lit (.string c8)) [] bB.out ?_;intro nk dx di;refine hK.out _ _ ?_;refine bR ?_;have o:Keep (· =B) w9 nk:=((Keep.refl (· =B) w9).drew).trans (Keep.tY di) (fun _ _ e=>e);have tY:=ah (lN.put vv (by omega) N c8 dn HE.out aA.out.1 aA.out.2.1 aA.out.2.2.1 aA.out.2.2.2 dx);have mo:=ah (q8.out.fresh o (F.put N c8) tY.out (vv.put N c8 dn HC8.out));have hnd:A≠B:=fun e=>by
            have h1:Three V qb p9 A:=e▸.inr (.inr s.out.sfb);rcases aB.out.2 A h1 with h2|h2
            ·exact qo A h2 bH.out.sdb
            ·exact absurd (bH.out.sub A bH.out.sdb) (bg.2 h2)
           have oK:A<O.heap.size:=ql.out.owns.lt;have vO:Q.heap.size<O.heap.size:=ql.out.lt;have hfl:=lm _ (.inr (.inr s.out.sfb));have pM:=ah (zD ql.out ((o.block A (ax oK m.size) hnd).trans (m.block A oK)) ((o.block _ (ax vO m.size) (fun e=>by omega)).trans (m.block _ vO)));have qc:=ah (xE.out.put N jl);rw[<-HCE.out] at qc;have o5:Hid (Keep (fun g=>g=B\/Q.heap.size<=g) Q nk):=ah (((yx.out.trans HK8.out (fun _ _ e=> .inr (lD e.symm))).trans (Keep.of_below m _) (fun _ _ e=>e)).trans o (fun _ _ e=> .inl e));clear dx di o m z4 z49 hw;go_wp2_with fail;go_roundw
           case rel=>exact⟨_,kT,_,pM,mo,qc,ah (fun kl h=>jv.out kl (by simp only[dG] at h;exact h.1)),o5⟩
           case measure=>rw[pM.out.left_eq,yc.out.left_eq];exact rF
        ·rw[if_neg hq] at av
         have hq':(q6 !=0)=true:=(by simpa using hq);have HFB:=ah (nL pg d q l6 p5 op S _ q6 w Q s.out.pack aB.out hq);go_wp2_with (first|(go_at_call 88;go_must (refine HFB.out.mono ?_;rintro e w7 ⟨rfl,S7,hP7,jF⟩)))
         refine jM (f:=56) (args:=#[.pointer (some ⟨t,0,none⟩)]) (by simp) (by simp[go_sem]) ?_;refine(Y.out w7 S7 q l6 p5.dies op hP7 jF.1 jF).mono ?_;rintro e u' w' ⟨rfl,rfl,r,X,y⟩;rw[av.out];exact⟨_,by simp[results,oF,go_sem],rfl,S7,r,X,y⟩
       ·have hq':(q5 !=0)=true:=by simpa using hq5
        have HM:=ah (show p.commit n l j=(M,l5,p5,0,q5) by
         unfold Pg.commit Pg.ready
         rw[hd,if_neg (by simp),if_neg he,R.out,if_neg HC2.out,if_pos h3,kg.out]
         simp[hq5])
        go_wp2_with fail;refine jM (f:=56) (args:=#[.pointer (some ⟨t,0,none⟩)]) (by simp) (by simp[go_sem]) ?_;refine(Y.out w5 S5 M l5 p5 op za.out oH.out.1 oH.out).mono ?_;rintro e u' w' ⟨rfl,rfl,r,X,y⟩;rw[HM.out];exact⟨_,by simp[results,oF,go_sem],rfl,S5,r,X,y⟩
      ·have h3I:¬((l.room:Int)<(nd:Int)):=by omega
       have HR5:=ah (show p.ready n l nd=(n,l,p,0) by unfold Pg.ready;rw[if_neg h3]);have za:=ah (HPr.out.below fJ);have oH:=ah (j6.out.trans (Step.of_below (S:=S) fJ));have tQ:=ah (HBS.out.below fJ);have lJ:=ah (Lg.Af (l:=l) bC.out hld dZ (by omega) (by rw[R.out];omega));have HW5:=ah zn;have z8:=ah hll;have HKN:=ah (show n.n - p.skip=p.blocks n from rfl);go_wp2_with (first|(go_at_call 85;go_must (refine HN.out.mono ?_;rintro e w7 ⟨rfl,nJ⟩;subst w7))|(go_at_call 86;go_must (refine hRo.out.mono ?_;rintro e w7 ⟨rfl,nJ⟩;subst w7;refine sO ?_)))
       refine sN ?_;generalize wr.drew=w5 at*;obtain⟨zP,Sl5,p9,ko,B,h5,oo⟩:=za.out;obtain⟨_,x1,_,_,x4,_,_,hl5,_⟩:=h5.cells;have o6:=ah h5;have j3:=ah (MF ko d n l zP Sl5 _ (nI j) w5 h5.log (tQ.out.less (fun g J=>(oo g).2 (J.elim .inl (fun x=> .inr (.inl x))))) lJ.out HW5.out z8.out);rw[qZ] at j3;obtain⟨q,l6,k6,q6,q9⟩:∃q l6 k6 q6,Hid (l.append n j.bH=(q,l6,k6,q6)):=⟨_,_,_,_,ah rfl⟩
       rw[q9.out] at j3;have r9:=ah (show q.n=n.n by have:=Lg.Kg n l j.bH;rw[q9.out] at this;exact this);have vz:=ah (show l6.frm=l.frm/\l6.n=l.n by have:=Lg.BJ n l j.bH;rw[q9.out] at this;exact this);have av:=ah (Pg.uf hd he R.out HC2.out HR5.out q9.out);clear h5;go_wp2_with (first|(go_at_call 87;go_must (refine j3.out.mono ?_;rintro e Q ⟨rfl,V,qb,lC,sP⟩;refine sO ?_)))
       refine sN ?_;have jb:=o6.out.turn lC sP (o6.out.ok.turn r9.out vz.out.1 vz.out.2);have s:=ah jb.1;have aB:=ah (oH.out.trans (jb.2.eqv (S':=Three V qb p9) oo (fun _=>H8)));clear jb lC sP x1 x4 hl5
       by_cases hq:q6=0
       ·subst hq
        rw[if_pos rfl] at av;have H:=bH.out.same ((aB.out.1).mono (fun g _ e=>qo g e));have HD6:∃D,Q.ownsMap Tryz.prog 3 rI A 5000 D/\(∀kl,Maps.has D kl=true->∃k:Nat,kl=kI k)/\(∀k:Nat,Maps.has D (kI k)=decide (k∈j.ks))/\∀k:Nat,k∈j.ks->∀z,D.atKey (kI k) z= .lit (.string (j.img k)):=by
         obtain⟨D,q1,q2,q3,q4,q5⟩:=H.img;exact⟨D,q1,q3,q4,q5⟩
        obtain⟨D,hD,mr,xV,vk⟩:=HD6;have af:=ah (aC mr (aC xV vk));obtain⟨y0,y1,ytl⟩:=H.cells;have HTx6:=ah H;clear mr xV vk H;go_wp2_with (first|(at_range;go_must (refine wpList_range_own _ rfl _ 139 rfl 3 143 jD fH rI A 5000 D rfl hD ?_;intro w7 bN xK jF))|go_in)
        go_frame
        have sF:=ah bN;have Z:Keep gB Q w7:=(Keep.refl gB Q).grown xK (fun k e=>by cases e);have l9:=ah Z;have HP7:=ah (s.out.keep Z (fun _ _ e=>e));clear bN xK Z hD;go_loopw [] (fun wr=>Nw Q wr A D V qb p9 pg ko d B q l6 p op j) (fun wr=>wr.rangeLeft A Q.heap.size)
        case atStart=>
         exact⟨_,_,p.fresh,sF,HP7,ah (Mix.start s.out.ok.fresh.rise (fun b hb=>by rw[af.out.2.1];exact d9 hb)),ah (fun _ h=>h),ah (l9.out.mono (fun _ _ e=>e.elim))⟩
        case round=>
         obtain⟨left,cnt,F,yc,iO,xE,jv,yx⟩:=hrel;go_wp2_with (first|(at_next;go_must (refine rz _ rfl _ rfl A Q.heap.size 5000 D left cnt rfl yc.out ?_ ?_))|go_in)
         ·intro _ dZ
          have hF:=xE.out.done s.out.ok.fresh.rise dZ;rw[hF] at iO;have hsf:=s.out.sfb;have oO:=ah (show Step S (Three V qb p9) w wr from aB.out.trans ⟨yx.out.mono (fun g J e=>e.elim (fun x=>x▸.inr (.inr hsf)) (fun x=>absurd J (bg.2 x))),fun _ J=> .inl J⟩);go_wp2_with fail;refine jM (f:=56) (args:=#[.pointer (some ⟨t,0,none⟩)]) (by simp) (by simp[go_sem]) ?_;refine(Y.out wr _ q l6 _ op iO.out.pack oO.out.1 oO.out).mono ?_;rintro e u' w' ⟨rfl,rfl,r,X,y⟩;rw[av.out];exact⟨_,by simp[results,oF,go_sem],rfl,_,r,X,y⟩
         ·intro x c8 O kT hwx rV fK fA fo rF rJ hs8 hen
          obtain⟨N,fB⟩:=af.out.1 _ (jv.out _ rV);have hxk:x=(N:Int):=(by injection fB);subst hxk;have jl:N∈j.ks:=by
           have h0:=jv.out _ rV;rw[af.out.2.1] at h0;exact jS h0
          have yo:c8=j.img N:=by
           have h0:=(fA (.lit (.string zB))).symm.trans (af.out.2.2 N jl _);injection h0 with h0
           injection h0
          have hkn:=bC.out.hi N jl;have lm:∀g,Three V qb p9 g->g<Q.heap.size:=s.out.pack.sub
          have j4:Keep (· =Q.heap.size) wr O:=Keep.tY rJ;have jO:=iO.out.keep j4 (fun g J e=>dB _ (e▸lm g J));obtain⟨_,_,_,_,z4,_,_,kr,_⟩:=jO.cells;have nS:Row (O.alloc (.cells (aI zB).toArray 143)) O.heap.size 143 (aI zB):=Row.new O _ _;have o7:=ah (show (aI zB).length=512 by rw[bP,ja]);have G:=ah (show (aI c8).length=512 by rw[bP,fK]);have dR:=iA c8;have bB:=ah (IL c8 fK);have HCE:=ah yo;have HC8:=ah fK;have HKX:=ah fB;clear yo fA fB;have ql:=ah fo;have HK8:=ah j4;have HP8:=ah jO;clear fo j4 jO rJ hs8;go_wp2_with (first|((refine dV rfl ?_);intro K hK;(refine jw 143 rfl _ kQ ?_);refine hK _ _ ?_)|((refine dV rfl ?_);intro K hK;(refine wp_store_row 143 _ _ rfl O.heap.size 0 143 _ (aI c8) rfl rfl nS (kS.trans (congrArg some G.out.symm)) (by rw[o7.out,G.out];omega) dR ?_);intro w9 I nA;refine hK _ _ (Stop.of ?_)))
          refine sN ?_;rw[mg _ _ (o7.out.trans G.out.symm)] at I;have m:Below O.heap.size O w9:=(((Keep.refl (fun _=>False) O).alloc _).trans (nA.mono (M':=fun g=>g=O.heap.size) (fun _ _ e=>e)) (fun i hi e=>by omega)).below;have q8:=ah (HP8.out.keep (Keep.of_below m gB) (fun _ _ e=>e));have z49:w9.drew.cell? ⟨pg,4,none⟩=some (.map (some B)):=(m.cell (p:=⟨pg,4,none⟩) kr).trans z4;have hl9:pg<w9.drew.heap.size:=ax kr m.size;obtain⟨C,HC⟩:=nm (aI c8);rw[HC.out] at I dR G bB;have hw:w9.drew.rangeAt O.heap.size 0 C:=I.whole;have vv:=q8.out.ok.fresh;have hn9:=q8.out.log.dk.ok.hi;have hfr:=q8.out.fr;obtain⟨E,X,rP,rA,rX,lQ⟩:=hfr;have HE:=ah X;have aA:=ah (aC rP (aC rA (aC rX lQ)));have dn:N<q.n - p.skip:=by
           rw[r9.out,HKN.out];exact hkn
          have y8:=uG (N:Int) (by omega) (by omega);clear I nA nS X rP rA rX lQ hen;go_wp2_with fail;refine aP (fun W=>W=w9.drew) (fun i=> !([6].contains i)) [0,1,2,3,4,5,6] rfl (by kernel_rfl) rfl ?_
          repeat ((refine wh (v:= ?_) rfl rfl ?_ rfl (fun W hW=> ?_) ?_);rotate_left;(focus exact fun c a w h=>uW (by decide) (by decide) h);(focus (try dsimp only at hW);subst hW;(go_simp;first|done|with_reducible rfl));(try simp only[Act.put,aj,au,ak]))
          refine wh (v:= .agg C.toArray) rfl rfl (fun c a w h=>uW (by decide) (by decide) h) rfl (fun W hW=> ?_) ?_
          ·subst hW
           exact lH 143 (.tmp 14) rfl O.heap.size 0 rfl C _ hw Ku rfl (kS.trans (congrArg some G.out.symm))
          simp only[Act.put,aj,au,ak];refine jC rfl rfl rfl (by kernel_rfl) ?_;intro K hK;refine nV _ _ _ 139 rfl 3 143 jD fH rI B 5000 E rfl (Vt HE.out) (by simp[maxLen]) _ _ (kI N) rfl rfl (oD N y8) (.lit (.string c8)) [] bB.out ?_;intro nk dx di;refine hK.out _ _ ?_;refine bR ?_;have o:Keep (· =B) w9 nk:=((Keep.refl (· =B) w9).drew).trans (Keep.tY di) (fun _ _ e=>e);have tY:=ah (lN.put vv (by omega) N c8 dn HE.out aA.out.1 aA.out.2.1 aA.out.2.2.1 aA.out.2.2.2 dx);have mo:=ah (q8.out.fresh o (F.put N c8) tY.out (vv.put N c8 dn HC8.out));have hnd:A≠B:=fun e=>by
           have h1:Three V qb p9 A:=e▸.inr (.inr s.out.sfb);rcases aB.out.2 A h1 with h2|h2
           ·exact qo A h2 bH.out.sdb
           ·exact absurd (bH.out.sub A bH.out.sdb) (bg.2 h2)
          have oK:A<O.heap.size:=ql.out.owns.lt;have vO:Q.heap.size<O.heap.size:=ql.out.lt;have hfl:=lm _ (.inr (.inr s.out.sfb));have pM:=ah (zD ql.out ((o.block A (ax oK m.size) hnd).trans (m.block A oK)) ((o.block _ (ax vO m.size) (fun e=>by omega)).trans (m.block _ vO)));have qc:=ah (xE.out.put N jl);rw[<-HCE.out] at qc;have o5:Hid (Keep (fun g=>g=B\/Q.heap.size<=g) Q nk):=ah (((yx.out.trans HK8.out (fun _ _ e=> .inr (lD e.symm))).trans (Keep.of_below m _) (fun _ _ e=>e)).trans o (fun _ _ e=> .inl e));clear dx di o m z4 z49 hw;go_wp2_with fail;go_roundw
          case rel=>exact⟨_,kT,_,pM,mo,qc,ah (fun kl h=>jv.out kl (by simp only[dG] at h;exact h.1)),o5⟩
          case measure=>rw[pM.out.left_eq,yc.out.left_eq];exact rF
       ·rw[if_neg hq] at av
        have hq':(q6 !=0)=true:=(by simpa using hq);have HFB:=ah (nL pg d q l6 p op S _ q6 w Q s.out.pack aB.out hq);go_wp2_with (first|(go_at_call 88;go_must (refine HFB.out.mono ?_;rintro e w7 ⟨rfl,S7,hP7,jF⟩)))
        refine jM (f:=56) (args:=#[.pointer (some ⟨t,0,none⟩)]) (by simp) (by simp[go_sem]) ?_;refine(Y.out w7 S7 q l6 p.dies op hP7 jF.1 jF).mono ?_;rintro e u' w' ⟨rfl,rfl,r,X,y⟩;rw[av.out];exact⟨_,by simp[results,oF,go_sem],rfl,S7,r,X,y⟩
