/- parts -/
import Derived.Test.YtogbkgmlhhahdaaGreatQ3
import Derived.Test.YtogbkgmlhhahdaaGreatQ6
import Derived.Test.YtogbkgmlhhahdaaGreatQ10
import Derived.Maps.OwnSet
import Derived.Shelf.Sort.Plain
import Derived.Shelf.Slices.In.SortNone
import Derived.Shelf.SlIterI.Sorted
import Derived.Shelf.SlIterI.Keys
import Derived.Maps.RangeWalk
import Derived.Defers
set_option maxRecDepth 100000
set_option maxHeartbeats 8000000
set_option linter.all false
namespace Go.Proofs.YtogbkgmlhhahdaaGreat
open Go.RowKit
structure Im where
 ks:List Nat
 img:Nat->List UInt8
def zU (b:Nat):List Nat->List Nat
 |[]=>[b]
 |k::r=>if b<k then b::k::r else if b=k then k::r else k::zU b r
theorem lT {b x:Nat}:∀{l:List Nat},x∈zU b l↔x=b\/x∈l
 |[]=>by simp[zU]
 |k::r=>by
  unfold zU
  split
  ·simp
  ·split
   ·rename_i h;subst h;simp
   ·rw[bM,lT (l:=r),bM]
    constructor
    ·rintro(h|h|h)
     ·exact .inr (.inl h)
     ·exact .inl h
     ·exact .inr (.inr h)
    ·rintro(h|h|h)
     ·exact .inr (.inl h)
     ·exact .inl h
     ·exact .inr (.inr h)
theorem wQ {b:Nat}:∀{l:List Nat},l.Pairwise (· < ·)->(zU b l).Pairwise (· < ·)
 |[],_=>by simp[zU]
 |k::r,h=>by
  obtain⟨h1,h2⟩:=fP.1 h
  unfold zU
  split
  ·rename_i hb
   refine fP.2 ⟨fun x hx=> ?_,h⟩
   rcases bM.1 hx with rfl|hx
   ·exact hb
   ·exact nE hb (h1 x hx)
  ·split
   ·exact h
   ·refine fP.2 ⟨fun x hx=> ?_,wQ h2⟩
    rcases lT.1 hx with rfl|hx
    ·omega
    ·exact h1 x hx
def Im.none:Im:=⟨[],fun _=>[]⟩
def Im.put (m:Im)(b:Nat)(x:List UInt8):Im:=⟨zU b m.ks,fun k=>if k=b then x else m.img k⟩
def Im.find (m:Im)(b:Nat):Option (List UInt8):=if b∈m.ks then some (m.img b) else Option.none
theorem Im.CQ (m:Im)(b c:Nat)(x:List UInt8):(m.put b x).find c=if c=b then some x else m.find c:=by
 unfold Im.find Im.put
 simp only[lT]
 by_cases h:c=b
 ·subst h;simp
 ·simp[h]
structure Pg where
 skip:Nat
 ring:Nat
 fresh:Im
 dead:Bool
def Pg.blocks (p:Pg)(d:Dk):Nat:=d.n - p.skip
def Pg.look (p:Pg)(dirty:Im)(d:Dk)(b:Nat):List UInt8:=(dirty.find b).getD ((p.fresh.find b).getD (d.get (p.skip+b)))
def Pg.lay (p:Pg):List Nat->Dk->Dk×Int
 |[],d=>(d,0)
 |b::r,d=>
  if (d.write ((p.skip+b:Nat):Int) (p.fresh.img b)).2=0 then p.lay r (d.write ((p.skip+b:Nat):Int) (p.fresh.img b)).1
  else((d.write ((p.skip+b:Nat):Int) (p.fresh.img b)).1,10)
def Pg.dies (p:Pg):Pg:={p with dead:=true}
def Pg.home (d:Dk)(l:Lg)(p:Pg):Dk×Lg×Pg×Int:=
 if (l.sync d).2.2=0 then
  if (p.lay p.fresh.ks (l.sync d).1).2=0 then
   if (p.lay p.fresh.ks (l.sync d).1).1.sync.2=0 then
    if ((l.sync d).2.1.trim (p.lay p.fresh.ks (l.sync d).1).1.sync.1 (l.sync d).2.1.last).2.2=0 then
     (((l.sync d).2.1.trim (p.lay p.fresh.ks (l.sync d).1).1.sync.1 (l.sync d).2.1.last).1,((l.sync d).2.1.trim (p.lay p.fresh.ks (l.sync d).1).1.sync.1 (l.sync d).2.1.last).2.1,{p with fresh:=Im.none},0)
    else(((l.sync d).2.1.trim (p.lay p.fresh.ks (l.sync d).1).1.sync.1 (l.sync d).2.1.last).1,((l.sync d).2.1.trim (p.lay p.fresh.ks (l.sync d).1).1.sync.1 (l.sync d).2.1.last).2.1,p.dies,10)
   else((p.lay p.fresh.ks (l.sync d).1).1.sync.1,(l.sync d).2.1,p.dies,10)
  else((p.lay p.fresh.ks (l.sync d).1).1,(l.sync d).2.1,p.dies,10)
 else((l.sync d).1,(l.sync d).2.1,p.dies,10)
def uK (b:Nat)(x:List UInt8):List UInt8:=leB b 4++x
def Im.bF (m:Im):List (List UInt8):=m.ks.map fun b=>uK b (m.img b)
def Im.over (m dirty:Im):Im:=dirty.ks.foldl (fun m b=>m.put b (dirty.img b)) m
def Pg.ready (d:Dk)(l:Lg)(p:Pg)(need:Nat):Dk×Lg×Pg×Int:=if l.room<need then p.home d l else(d,l,p,0)
def Pg.commit (d:Dk)(l:Lg)(p:Pg)(dirty:Im):Dk×Lg×Pg×Nat×Int:=
 if p.dead then(d,l,p,0,10) else
 if dirty.ks=[] then(d,l,p,l.last,0) else
 if p.ring<dQ dirty.bF\/1024<dirty.ks.length then(d,l,p,0,13) else
 if (p.ready d l (dQ dirty.bF)).2.2.2=0 then
  if ((p.ready d l (dQ dirty.bF)).2.1.append (p.ready d l (dQ dirty.bF)).1 dirty.bF).2.2.2=0 then
   (((p.ready d l (dQ dirty.bF)).2.1.append (p.ready d l (dQ dirty.bF)).1 dirty.bF).1,((p.ready d l (dQ dirty.bF)).2.1.append (p.ready d l (dQ dirty.bF)).1 dirty.bF).2.1,
    {(p.ready d l (dQ dirty.bF)).2.2.1 with fresh:=(p.ready d l (dQ dirty.bF)).2.2.1.fresh.over dirty},((p.ready d l (dQ dirty.bF)).2.1.append (p.ready d l (dQ dirty.bF)).1 dirty.bF).2.2.1,0)
  else(((p.ready d l (dQ dirty.bF)).2.1.append (p.ready d l (dQ dirty.bF)).1 dirty.bF).1,((p.ready d l (dQ dirty.bF)).2.1.append (p.ready d l (dQ dirty.bF)).1 dirty.bF).2.1,(p.ready d l (dQ dirty.bF)).2.2.1.dies,0,10)
 else((p.ready d l (dQ dirty.bF)).1,(p.ready d l (dQ dirty.bF)).2.1,(p.ready d l (dQ dirty.bF)).2.2.1,0,(p.ready d l (dQ dirty.bF)).2.2.2)
def Pg.sync (d:Dk)(l:Lg)(p:Pg):Dk×Lg×Pg×Int:=
 if p.dead then(d,l,p,10) else
 if l.synced=l.last/\d.dead=false then(d,l,p,0) else
 if (l.sync d).2.2=0 then((l.sync d).1,(l.sync d).2.1,p,0) else((l.sync d).1,(l.sync d).2.1,p.dies,10)
abbrev kI (b:Int):Lit:= .int .i64 b
theorem tight {k:TypeId}{R:Value->Option (DataW Unit×List MemPlace)}{w:World}{b n m:Nat}{D:DataW Unit}(h:w.ownsMap Tryz.prog k R b n D)(hm:Maps.size D<=m):w.ownsMap Tryz.prog k R b m D:=by
 obtain⟨es,clock,hb,F,hs,rfl⟩:=h
 refine⟨es,clock,hb,F,?_,rfl⟩
 rw[Maps.size_eq,length_sorted] at hm
 simpa using hm
theorem jk:Maps.Keyed Tryz.prog 3:=Maps.int_keyed jo
theorem nR (b:Int)(hb:(Lit.int .i64 b).wf=true):keyOf Tryz.prog 3 (.int .i64 b)=some (kI b):=by
 exact Maps.keyOf_int_mk jo hb
theorem zT (b:Int):WideAt.IsKeyLit (kI b):=trivial
theorem tq (b:Int)(h0: -1000000<=b)(h1:b<=1000000):(Lit.int .i64 b).wf=true:=by
 simp only[Lit.wf,dN,eZ]
 constructor
 ·exact Te (by decide) h0
 ·exact Te h1 (by decide)
theorem ni {P:Program}{w:World}{o:Oper}{a:Act}{K:Act->World->Prop}{Q:Exit->Act->World->Prop}(m x v:Operand)(t:TypeId)(hop:o.op=Op.mapUpdate t m x v)
  (k e:TypeId) (Ky:Maps.Keyed P k) (ht:P.underlying t=some (.map k e)) (R:Value->Option (DataW Unit×List MemPlace)) (b n:Nat) (D:DataW Unit)
  (hm:a.eval m= .map (some b)) (hown:w.ownsMap P k R b n D) (hn:n<maxLen) (key val:Value) (kl:Lit) (hx:a.eval x=key) (hv:a.eval v=val) (hkey:keyOf P k key=some kl)
  (d:DataW Unit) (ps:List MemPlace) (hval:R val=some (d,ps))
  (hK:∀w',w'.ownsMap P k R b (n+1) (D.put kl d)->w.grownBy w' (some b)->K (a.put o.dst undef) w'):o.wp P a w K Q:=by
 obtain⟨w',hrun,r1,r2⟩:=hown.update Ky ht hn hkey hval
 unfold Oper.wp
 simp[execOp,hop,hm,hx,hv,hrun,Result.andThen]
 exact hK _ r1 r2
theorem Df {a b:List UInt8}(h:aI a=aI b):a=b:=by
 induction a generalizing b with
 |nil=>cases b with
  |nil=>rfl
  |cons x b=>cases h
 |cons x a ih=>
  cases b with
  |nil=>cases h
  |cons y b=>
   simp only[aI,dw,nC] at h
   obtain⟨h1,h2⟩:=h
   have e:x=y:=by
    simp only[Value.int.injEq,true_and] at h1
    exact Js.1 (by omega)
   rw[e,ih h2]
open Classical in
noncomputable def rI (v:Value):Option (DataW Unit×List MemPlace):=
 if h:∃l:List UInt8,l.length=512/\v= .agg (aI l).toArray then some (.lit (.string h.choose),[]) else none
theorem GY (l:List UInt8)(hl:l.length=512):rI (.agg (aI l).toArray)=some (.lit (.string l),[]):=by
 have h:∃l':List UInt8,l'.length=512/\Value.agg (aI l).toArray= .agg (aI l').toArray:=⟨l,hl,rfl⟩
 unfold rI
 rw[dif_pos h]
 have h3:=Df (show aI l=aI h.choose from congrArg Array.toList (Value.agg.inj h.choose_spec.2))
 exact congrArg (fun l=>some (DataW.lit (Lit.string l),([]:List MemPlace))) h3.symm
theorem uU {v:Value}{d:DataW Unit}{ps:List MemPlace}(h:rI v=some (d,ps)):∃l:List UInt8,l.length=512/\v= .agg (aI l).toArray/\d= .lit (.string l):=by
 unfold rI at h
 split at h
 ·rename_i hx
  simp only[Ta,nM] at h
  exact⟨hx.choose,hx.choose_spec.1,hx.choose_spec.2,h.1.symm⟩
 ·cases h
theorem kF (w:World):(zeroValue 143).run Tryz.prog w= .ok (.agg (aI zB).toArray) w:=by kernel_rfl
theorem kH:(Tryz.prog.info? 143).map (fun i=>i.size)=some 512:=by kernel_rfl
def kX (w:World)(b:Nat)(im:Im):Prop:=
 ∃D,w.ownsMap Tryz.prog 3 rI b 5000 D/\Maps.size D=im.ks.length/\(∀kl,Maps.has D kl=true->∃k:Nat,kl=kI k)/\(∀k:Nat,Maps.has D (kI k)=decide (k∈im.ks))/\∀k:Nat,k∈im.ks->∀z,D.atKey (kI k) z= .lit (.string (im.img k))
structure Im.Ok (im:Im)(n:Nat):Prop where
 rise:im.ks.Pairwise (· < ·)
 hi:∀k∈im.ks,k<n
 img:∀k∈im.ks,(im.img k).length=512
theorem Im.Ok.none (n:Nat):Im.none.Ok n:=⟨uJ,(fun _ h=>by cases h),(fun _ h=>by cases h)⟩
theorem GL:∀(l:List Nat) (lo n:Nat),lo<=n->l.Pairwise (· < ·)->(∀k∈l,lo<=k/\k<n)->l.length<=n - lo
 |[],_,_,_,_,_=>aT _
 |k::r,lo,n,_,h,hn=>by
  obtain⟨h1,h2⟩:=fP.1 h
  have hk:=hn k (bg ..)
  have:=GL r (k+1) n hk.2 h2 (fun x hx=>⟨h1 x hx,(hn x (aW _ hx)).2⟩)
  rw[aZ]
  omega
theorem yF (l:List Nat)(n:Nat)(h:l.Pairwise (· < ·))(hn:∀k∈l,k<n):l.length<=n:=GL l 0 n (aT _) h (fun k hk=>⟨aT _,hn k hk⟩)
theorem Im.Ok.put {im:Im}{n:Nat}(h:im.Ok n)(b:Nat)(x:List UInt8)(hb:b<n)(hx:x.length=512):(im.put b x).Ok n:=by
 refine⟨wQ h.rise,fun k hk=> ?_,fun k hk=> ?_⟩
 ·rcases lT.1 hk with rfl|hk
  ·exact hb
  ·exact h.hi k hk
 ·show (if k=b then x else im.img k).length=512
  split
  ·exact hx
  ·rename_i hne
   exact h.img k ((lT.1 hk).resolve_left hne)
theorem Au {b:Nat}:∀{l:List Nat},l.Pairwise (· < ·)->(zU b l).length=if b∈l then l.length else l.length+1
 |[],_=>by simp[zU]
 |k::r,h=>by
  obtain⟨h1,h2⟩:=fP.1 h
  unfold zU
  split
  ·rename_i hb
   rw[if_neg (by
    intro hm
    rcases bM.1 hm with rfl|hm
    ·exact dB _ hb
    ·have:=h1 b hm;omega)]
   rfl
  ·split
   ·rename_i _ hb
    subst hb
    rw[if_pos (bg ..)]
   ·rename_i hn1 hn2
    rw[aZ,Au h2,aZ]
    by_cases hm:b∈r
    ·rw[if_pos hm,if_pos (aW _ hm)]
    ·rw[if_neg hm,if_neg (by
      intro h
      rcases bM.1 h with e|h
      ·exact hn2 e
      ·exact hm h)]
theorem kX.none (w:World):kX (w.alloc (.map #[] 0)) w.heap.size Im.none:=
 ⟨.map [],(World.ownsMap_made w _ _ _).mono (aT _),rfl,(fun kl h=>by simp[Maps.has_eq] at h),(fun k=>by simp[Maps.has_eq,Im.none]),(fun k h=>by cases h)⟩
theorem kX.lt {w:World}{b:Nat}{im:Im}(h:kX w b im):b<w.heap.size:=by obtain⟨D,hD,_⟩:=h;exact hD.lt
theorem kX.block {w w':World}{b:Nat}{im:Im}(h:kX w b im)(hb:w'.heap[b]? =w.heap[b]?):kX w' b im:=by
 obtain⟨D,⟨es,cl,hbm,r⟩,h2⟩:=h
 exact⟨D,⟨es,cl,hb.trans hbm,r⟩,h2⟩
theorem kX.ne {w:World}{b:Nat}{im:Im}(h:kX w b im){g:Nat}{cs:Array Value}{t:TypeId}{fr:Nat×Nat}(hc:w.heap[g]? =some (.cells cs t fr)):g≠b:=fun e=>by
 obtain⟨D,⟨es,cl,hbm,_⟩,_⟩:=h
 rw[e,hbm] at hc;cases hc
theorem P7 {a b:Nat}(h:a≠b):kI (a:Int)≠kI (b:Int):=fun e=>h (by injection e;omega)
theorem kX.put {w w':World}{b:Nat}{im:Im}{D:DataW Unit}{n:Nat}(him:im.Ok n)(hn:n<=4096)(k:Nat)(x:List UInt8)(hk:k<n)(hD:w.ownsMap Tryz.prog 3 rI b 5000 D)(hs:Maps.size D=im.ks.length)(h0:∀kl,Maps.has D kl=true->∃k:Nat,kl=kI k)
  (h1:∀k:Nat,Maps.has D (kI k)=decide (k∈im.ks)) (h2:∀k:Nat,k∈im.ks->∀z,D.atKey (kI k) z= .lit (.string (im.img k))) (ho:w'.ownsMap Tryz.prog 3 rI b 5001 (D.put (kI k) (.lit (.string x)))):kX w' b (im.put k x):=by
 have hT:=hD.tidy jk
 have hlen:=yF _ _ him.rise him.hi
 have hsz:Maps.size (D.put (kI k) (.lit (.string x)))=(im.put k x).ks.length:=by
  rw[Maps.size_put hT,h1,show (im.put k x).ks=zU k im.ks from rfl,Au him.rise,hs]
  by_cases hm:k∈im.ks<;>simp[hm]
 have hle:Maps.size (D.put (kI k) (.lit (.string x)))<=5000:=by
  rw[Maps.size_put hT,hs]
  split<;>omega
 refine⟨_,tight ho hle,hsz,fun kl hh=> ?_,fun j=> ?_,fun j hj z=> ?_⟩
 ·by_cases e:kl=kI k
  ·exact⟨k,e⟩
  ·rw[Maps.has_put_other e] at hh
   exact h0 kl hh
 ·by_cases e:j=k
  ·subst e
   rw[Maps.has_put_same hT.isMap (zT _)]
   simp[Im.put,lT]
  ·rw[Maps.has_put_other (P7 e),h1]
   simp[Im.put,lT,e]
 ·by_cases e:j=k
  ·subst e
   rw[Maps.atKey_put_same hT.isMap (zT _)]
   simp[Im.put]
  ·rw[Maps.atKey_put_other (P7 e),h2 j ((lT.1 hj).resolve_left e)]
   simp[Im.put,e]
structure Pg.Ok (p:Pg)(σ:Dk)(l:Lg):Prop where
 frm:l.frm=0
 skip:p.skip=l.n
 ring:p.ring+1=l.n
 fit:l.n<σ.n
 fresh:p.fresh.Ok (σ.n - p.skip)
structure xD (w:World)(Sd Sl Sp:Nat->Prop)(pg lg d fb:Nat)(σ:Dk)(l:Lg)(p:Pg)(op:Value):Prop where
 log:iT w Sd Sl lg d σ l
 ok:p.Ok σ l
 sub:∀g,Sp g->g<w.heap.size
 dd:∀g,Sp g->¬Sd g
 dl:∀g,Sp g->¬Sl g
 BP:Sp pg
 sfb:Sp fb
 obj:w.heap[pg]? =some (.cells #[.pointer (some ⟨d,0,none⟩),.pointer (some ⟨lg,0,none⟩),.int .i64 p.skip,.int .i64 p.ring,.map (some fb),op,.bool p.dead] 141 (0,0))
 fr:kX w fb p.fresh
def jh (w:World)(S:Nat->Prop)(pg d:Nat)(σ:Dk)(l:Lg)(p:Pg)(op:Value):Prop:=
 ∃Sd Sl Sp lg fb,xD w Sd Sl Sp pg lg d fb σ l p op/\∀g,S g↔Sd g\/Sl g\/Sp g
theorem xD.keep {w w':World}{Sd Sl Sp M:Nat->Prop}{pg lg d fb:Nat}{σ:Dk}{l:Lg}{p:Pg}{op:Value}(h:xD w Sd Sl Sp pg lg d fb σ l p op)(hk:Keep M w w')(hM:∀g,Sd g\/Sl g\/Sp g->¬M g):xD w' Sd Sl Sp pg lg d fb σ l p op:=
 ⟨h.log.keep hk (fun g hg=>hM g (.inl hg)) (fun g hg=>hM g (.inr (.inl hg))),h.ok,fun g hg=>ak (h.sub g hg) hk.size,h.dd,h.dl,h.BP,h.sfb,
  (hk.block _ (h.sub _ h.BP) (hM _ (.inr (.inr h.BP)))).trans h.obj,h.fr.block (hk.block _ (h.sub _ h.sfb) (hM _ (.inr (.inr h.sfb))))⟩
theorem jh.keep {w w':World}{S M:Nat->Prop}{pg d:Nat}{σ:Dk}{l:Lg}{p:Pg}{op:Value}(h:jh w S pg d σ l p op)(hk:Keep M w w')(hM:∀g,S g->¬M g):jh w' S pg d σ l p op:=by
 obtain⟨Sd,Sl,Sp,lg,fb,h,hS⟩:=h
 exact⟨Sd,Sl,Sp,lg,fb,h.keep hk (fun g hg=>hM g ((hS g).2 hg)),hS⟩
theorem jh.below {w w':World}{S:Nat->Prop}{pg d:Nat}{σ:Dk}{l:Lg}{p:Pg}{op:Value}(h:jh w S pg d σ l p op)(hb:Below w.heap.size w w'):jh w' S pg d σ l p op:=h.keep (Keep.of_below hb fZ) (fun _ _ e=>e)
theorem jh.sub {w:World}{S:Nat->Prop}{pg d:Nat}{σ:Dk}{l:Lg}{p:Pg}{op:Value}(h:jh w S pg d σ l p op):∀g,S g->g<w.heap.size:=by
 obtain⟨Sd,Sl,Sp,lg,fb,h,hS⟩:=h
 intro g hg
 rcases (hS g).1 hg with hg|hg|hg
 ·exact h.log.dk.sub g hg
 ·exact h.log.lg.sub g hg
 ·exact h.sub g hg
theorem jh.BP {w:World}{S:Nat->Prop}{pg d:Nat}{σ:Dk}{l:Lg}{p:Pg}{op:Value}(h:jh w S pg d σ l p op):S pg:=by
 obtain⟨Sd,Sl,Sp,lg,fb,h,hS⟩:=h
 exact(hS pg).2 (.inr (.inr h.BP))
theorem jh.ok {w:World}{S:Nat->Prop}{pg d:Nat}{σ:Dk}{l:Lg}{p:Pg}{op:Value}(h:jh w S pg d σ l p op):p.Ok σ l/\σ.Ok/\l.Ok:=by
 obtain⟨Sd,Sl,Sp,lg,fb,h,hS⟩:=h
 exact⟨h.ok,h.log.dk.ok,h.log.lg.ok⟩
theorem xD.cells {w:World}{Sd Sl Sp:Nat->Prop}{pg lg d fb:Nat}{σ:Dk}{l:Lg}{p:Pg}{op:Value}(h:xD w Sd Sl Sp pg lg d fb σ l p op):
  w.cell? ⟨pg,0,none⟩=some (.pointer (some ⟨d,0,none⟩))/\w.cell? ⟨pg,1,none⟩=some (.pointer (some ⟨lg,0,none⟩))/\w.cell? ⟨pg,2,none⟩=some (.int .i64 p.skip)/\w.cell? ⟨pg,3,none⟩=some (.int .i64 p.ring)/\w.cell? ⟨pg,4,none⟩=some (.map (some fb))/\
  w.cell? ⟨pg,5,none⟩=some op/\w.cell? ⟨pg,6,none⟩=some (.bool p.dead)/\pg<w.heap.size/\∀j,w.frozen? ⟨pg,j,none⟩=false:=by
 have hb:=h.obj
 refine⟨?_,?_,?_,?_,?_,?_,?_,(aj.1 hb).1,?_⟩
 all_goals first
  |(simp[World.cell?,hb];done)
  |(intro i;simp[World.frozen?,hb])
theorem xD.turn {w w':World}{Sd Sl Sp Sd' Sl':Nat->Prop}{pg lg d fb:Nat}{σ σ':Dk}{l l':Lg}{p:Pg}{op:Value}(h:xD w Sd Sl Sp pg lg d fb σ l p op)(hA:iT w' Sd' Sl' lg d σ' l')(hT:Two Sd Sl Sd' Sl' w w')(ho:p.Ok σ' l'):
  xD w' Sd' Sl' Sp pg lg d fb σ' l' p op/\Step (fun g=>Sd g\/Sl g\/Sp g) (fun g=>Sd' g\/Sl' g\/Sp g) w w':=by
 have hno:∀g,Sp g->¬(Sd g\/Sl g):=fun g hg e=>e.elim (h.dd g hg) (h.dl g hg)
 have hno':∀g,Sp g->¬(Sd' g\/Sl' g):=fun g hg e=>(hT.2 g e).elim (hno g hg) (fun x=>absurd (h.sub g hg) (bq.2 x))
 refine⟨⟨hA,ho,fun g hg=>ak (h.sub g hg) hT.1.size,fun g hg e=>hno' g hg (.inl e),fun g hg e=>hno' g hg (.inr e),h.BP,h.sfb,(hT.1.block _ (h.sub _ h.BP) (hno _ h.BP)).trans h.obj,h.fr.block (hT.1.block _ (h.sub _ h.sfb) (hno _ h.sfb))⟩,?_⟩
 refine⟨hT.1.mono (fun _ _ e=>e.elim .inl (fun e=> .inr (.inl e))),fun g hg=> ?_⟩
 rcases hg with hg|hg|hg
 ·exact(hT.2 g (.inl hg)).elim (fun e=> .inl (e.elim .inl (fun e=> .inr (.inl e)))) .inr
 ·exact(hT.2 g (.inr hg)).elim (fun e=> .inl (e.elim .inl (fun e=> .inr (.inl e)))) .inr
 ·exact .inl (.inr (.inr hg))
theorem xD.self {w w':World}{Sd Sl Sp:Nat->Prop}{pg lg d fb:Nat}{σ:Dk}{l:Lg}{p p':Pg}{op op':Value}(h:xD w Sd Sl Sp pg lg d fb σ l p op)(hk:Keep (· =pg) w w')(ho:p'.Ok σ l)(hf:p'.fresh=p.fresh)
  (hb:w'.heap[pg]? =some (.cells #[.pointer (some ⟨d,0,none⟩),.pointer (some ⟨lg,0,none⟩),.int .i64 p'.skip,.int .i64 p'.ring,.map (some fb),op',.bool p'.dead] 141 (0,0))):xD w' Sd Sl Sp pg lg d fb σ l p' op':=
 ⟨h.log.keep hk (fun g hg e=>h.dd pg h.BP (e▸hg)) (fun g hg e=>h.dl pg h.BP (e▸hg)),ho,fun g hg=>ak (h.sub g hg) hk.size,h.dd,h.dl,h.BP,h.sfb,hb,
  by rw[hf];exact h.fr.block (hk.block _ (h.sub _ h.sfb) (fun e=>h.fr.ne h.obj e.symm))⟩
theorem yM (pg d:Nat)(σ:Dk)(l:Lg)(p:Pg)(op:Value)(S:Nat->Prop)(w:World)(h:jh w S pg d σ l p op):
  Calls Tryz.prog 42 #[.pointer (some ⟨pg,0,none⟩)] w fun e w'=>e= .returned (.int .i64 (p.blocks σ))/\w'=w.drew:=by
 obtain⟨Sd,Sl,Sp,lg,fb,h,hS⟩:=h
 obtain⟨c0,_,c2,_,_,_,_,hlt,_⟩:=h.cells
 have HS:=ah (IE d σ Sd w.drew (h.log.dk.below ((aR _ w).drew)))
 have hn:=h.log.dk.ok.hi
 have hf:=h.ok.fit;have hk:=h.ok.skip
 have e1:IntKind.i64.wrap ((σ.n:Int) - (p.skip:Int))=(p.blocks σ:Int):=by rw[aG _ (by omega)];unfold Pg.blocks;omega
 have c0':w.drew.cell? ⟨pg,0,none⟩=some (.pointer (some ⟨d,0,none⟩)):=c0
 have c2':w.drew.cell? ⟨pg,2,none⟩=some (.int .i64 p.skip):=c2
 clear h hn hf hk c0 c2
 go_enter Tryz.func42,Tryz.ntmps42
 go_wp2_with fail
 refine aP (fun W=>W=w.drew) (fun i=> !([4].contains i)) [0,1,2,3,5,6,7,8,4,9,10] rfl (by kernel_rfl) rfl ?_
 repeat ((refine bP (v:= ?_) rfl rfl (fun _ _ _ h=>h) rfl (fun W hW=> ?_) ?_);rotate_left;(focus ((try dsimp only at hW);subst hW;(go_simp;first|done|with_reducible rfl)));(try simp only[Act.put,ai,ax,au]))
 refine dK rfl rfl rfl ?_;intro K hK;go_simp
 refine HS.out.mono ?_;rintro e w1 ⟨rfl,hw1⟩;subst w1
 refine hK.out _ _ rfl ?_
 repeat ((refine bP (v:= ?_) rfl rfl (fun _ _ _ h=>h) rfl (fun W hW=> ?_) ?_);rotate_left;(focus ((try dsimp only at hW);subst hW;(go_simp;first|done|with_reducible rfl)));(try simp only[Act.put,ai,ax,au]))
 refine bS ?_
 go_wp2_with fail
 go_ret
 exact⟨rfl,rfl⟩
theorem He (pg:Nat)(w:World):
  Calls Tryz.prog 88 #[.pointer (some ⟨pg,0,none⟩),.int .i64 0] w fun e w'=>e= .returned (.int .i64 0)/\w'=w:=by
 go_enter Tryz.func88,Tryz.ntmps88
 go_wp2_with fail
 go_ret
 exact⟨rfl,rfl⟩
theorem Pg.Ok.dies {p:Pg}{σ:Dk}{l:Lg}(h:p.Ok σ l):p.dies.Ok σ l:=⟨h.frm,h.skip,h.ring,h.fit,h.fresh⟩
theorem Step.eqv {S S' T T':Nat->Prop}{w w':World}(h:Step T T' w w')(hS:∀g,S g↔T g)(hS':∀g,S' g↔T' g):Step S S' w w':=
 ⟨h.1.mono (fun g _ x=>(hS g).2 x),fun g hg=>(h.2 g ((hS' g).1 hg)).imp (hS g).2 id⟩
theorem Step.own {S:Nat->Prop}{w w':World}{g:Nat}(h:Keep (· =g) w w')(hg:S g):Step S S w w':=⟨h.mono (fun _ _ e=>e▸hg),fun _ h=> .inl h⟩
theorem M6 (pg d:Nat)(σ:Dk)(l:Lg)(p:Pg)(op:Value)(S:Nat->Prop)(q:Int)(w:World)(h:jh w S pg d σ l p op)(hq:q≠0):
  Calls Tryz.prog 88 #[.pointer (some ⟨pg,0,none⟩),.int .i64 q] w fun e w'=>e= .returned (.int .i64 10)/\jh w' S pg d σ l p.dies op/\Step S S w w':=by
 have hspg:=h.BP
 obtain⟨Sd,Sl,Sp,lg,fb,h,hS⟩:=h
 obtain⟨_,_,_,_,_,_,c6,hlt,hfz⟩:=h.cells
 have hf:=hfz 6
 have hq':(q !=0)=true:=by simpa using hq
 have hk:Keep (· =pg) w (w.setCell ⟨pg,6,none⟩ (.bool true)):=(Keep.refl (· =pg) w).setCell (p:=⟨pg,6,none⟩) (.inr rfl) _
 have HP:=ah (show xD (w.setCell ⟨pg,6,none⟩ (.bool true)) Sd Sl Sp pg lg d fb σ l p.dies op from h.self hk h.ok.dies rfl (by rw[iL w pg 6 _ _ _ h.obj];rfl))
 have HK:=ah hk
 clear h hk
 go_enter Tryz.func88,Tryz.ntmps88
 go_wp2_with fail
 go_ret
 exact⟨rfl,⟨Sd,Sl,Sp,lg,fb,HP.out,hS⟩,Step.own HK.out hspg⟩
structure xC (w:World)(T:Nat->Prop)(t pg db:Nat)(im:Im)(n:Nat):Prop where
 ok:im.Ok n
 sub:∀g,T g->g<w.heap.size
 st:T t
 sdb:T db
 obj:w.heap[t]? =some (.cells #[.pointer (some ⟨pg,0,none⟩),.map (some db)] 147 (0,0))
 img:kX w db im
def rz (w:World)(T:Nat->Prop)(t pg:Nat)(im:Im)(n:Nat):Prop:=∃db,xC w T t pg db im n
theorem rz.keep {w w':World}{T M:Nat->Prop}{t pg n:Nat}{im:Im}(h:rz w T t pg im n)(hk:Keep M w w')(hM:∀g,T g->¬M g):rz w' T t pg im n:=by
 obtain⟨db,h⟩:=h
 exact⟨db,h.ok,fun g hg=>ak (h.sub g hg) hk.size,h.st,h.sdb,(hk.block _ (h.sub _ h.st) (hM _ h.st)).trans h.obj,h.img.block (hk.block _ (h.sub _ h.sdb) (hM _ h.sdb))⟩
theorem rz.below {w w':World}{T:Nat->Prop}{t pg n:Nat}{im:Im}(h:rz w T t pg im n)(hb:Below w.heap.size w w'):rz w' T t pg im n:=h.keep (Keep.of_below hb fZ) (fun _ _ e=>e)
theorem rz.sub {w:World}{T:Nat->Prop}{t pg n:Nat}{im:Im}(h:rz w T t pg im n):∀g,T g->g<w.heap.size:=by obtain⟨_,h⟩:=h;exact h.sub
theorem Py (pg d:Nat)(σ:Dk)(l:Lg)(p:Pg)(S:Nat->Prop)(w:World)(h:jh w S pg d σ l p (.pointer none))(hd:p.dead=false):
  Calls Tryz.prog 40 #[.pointer (some ⟨pg,0,none⟩)] w fun e w'=>∃t T,e= .returned (.tuple #[.pointer (some ⟨t,0,none⟩),.int .i64 0])/\jh w' S pg d σ l p (.pointer (some ⟨t,0,none⟩))/\rz w' T t pg Im.none (p.blocks σ)/\Step S S w w'/\(∀g,T g->w.heap.size<=g):=by
 have hspg:=h.BP
 obtain⟨Sd,Sl,Sp,lg,fb,h,hS⟩:=h
 obtain⟨_,_,_,_,_,c5,c6,hlt,hfz⟩:=h.cells
 rw[hd] at c6
 have hf:=hfz 5
 have HH:=ah h
 clear h
 have hmk:∀w:World,(Instr.makeMap 139 none).run Tryz.prog w= .ok (.map (some w.heap.size)) (w.alloc (.map #[] 0)):=fun w=>run_makeMap _ w
 go_enter Tryz.func40,Tryz.ntmps40
 go_wp2_with fail
 go_ret2
 obtain⟨w1,HW1⟩:∃w1:World,Hid (w.setCell ⟨pg,5,none⟩ (.pointer (some ⟨w.heap.size+1,0,none⟩))=w1):=⟨_,ah rfl⟩
 have hk1:Keep (· =pg) w w1:=by rw[<-HW1.out];exact(Keep.refl (· =pg) _).setCell (p:=⟨pg,5,none⟩) (.inr rfl) _
 have hP1:xD w1 Sd Sl Sp pg lg d fb σ l p (.pointer (some ⟨w.heap.size+1,0,none⟩)):=HH.out.self hk1 HH.out.ok rfl (by rw[<-HW1.out,iL _ pg 5 _ _ _ HH.out.obj];rfl)
 have hs1:w1.heap.size=w.heap.size:=by rw[<-HW1.out];simp
 rw[HW1.out,<-hs1]
 have hb2:Below w1.heap.size w1 ((w1.alloc (.map #[] 0)).alloc (.cells #[.pointer (some ⟨pg,0,none⟩),.map (some w1.heap.size)] 147)):=ic w1 _ _
 have hm2:kX ((w1.alloc (.map #[] 0)).alloc (.cells #[.pointer (some ⟨pg,0,none⟩),.map (some w1.heap.size)] 147)) w1.heap.size Im.none:=(kX.none w1).block (qd _ _ _ (by simp))
 have ho2:((w1.alloc (.map #[] 0)).alloc (.cells #[.pointer (some ⟨pg,0,none⟩),.map (some w1.heap.size)] 147)).heap[w1.heap.size+1]? =some (.cells #[.pointer (some ⟨pg,0,none⟩),.map (some w1.heap.size)] 147 (0,0)):=by
  have:=bD (w1.alloc (.map #[] 0)) (.cells #[.pointer (some ⟨pg,0,none⟩),.map (some w1.heap.size)] 147)
  rwa [aS] at this
 rw[<-hs1] at hP1
 have hP2:=hP1.keep (Keep.of_below hb2 fZ) (fun _ _ e=>e)
 refine⟨w1.heap.size+1,fun g=>g=w1.heap.size\/g=w1.heap.size+1,rfl,⟨Sd,Sl,Sp,lg,fb,hP2,hS⟩,⟨w1.heap.size,Im.Ok.none _,fun g hg=> ?_,.inr rfl,.inl rfl,ho2,hm2⟩,⟨(hk1.mono (fun _ _ e=>e▸hspg)).trans (Keep.of_below hb2 S) (fun _ _ e=>e),fun _ hg=> .inl hg⟩,fun g hg=>by omega⟩
 simp only[aS]
 omega
theorem OW (t pg d:Nat)(σ:Dk)(l:Lg)(p:Pg)(op:Value)(im:Im)(n:Nat)(S T:Nat->Prop)(w:World)(h:jh w S pg d σ l p op)(ht:rz w T t pg im n)(hdis:∀g,S g->¬T g):
  Calls Tryz.prog 56 #[.pointer (some ⟨t,0,none⟩)] w fun e w'=>e= .returned (.tuple #[])/\jh w' S pg d σ l p (.pointer none)/\(∃db,w'.heap[t]? =some (.cells #[.pointer none,.map (some db)] 147 (0,0)))/\Keep (fun g=>S g\/T g) w w':=by
 have hspg:=h.BP
 obtain⟨Sd,Sl,Sp,lg,fb,h,hS⟩:=h
 obtain⟨db,ht⟩:=ht
 obtain⟨_,_,_,_,_,c5,c6,hlt,hfz⟩:=h.cells
 have hf:=hfz 5
 have hto:=ht.obj
 have t0:w.cell? ⟨t,0,none⟩=some (.pointer (some ⟨pg,0,none⟩)):=by simp[World.cell?,hto]
 have tf0:w.frozen? ⟨t,0,none⟩=false:=by simp[World.frozen?,hto]
 have htl:=ht.sub _ ht.st
 have hpt:pg≠t:=fun e=>hdis pg hspg (e▸ht.st)
 have htp:¬t=pg:=fun e=>hpt e.symm
 have HH:=ah h;have HT:=ah ht
 clear h ht
 go_enter Tryz.func56,Tryz.ntmps56
 go_wp2_with fail
 go_end0
 obtain⟨w2,HW2⟩:∃w2:World,Hid ((w.setCell ⟨pg,5,none⟩ (.pointer none)).setCell ⟨t,0,none⟩ (.pointer none)=w2):=⟨_,ah rfl⟩
 obtain⟨w1,HW1⟩:∃w1:World,Hid (w.setCell ⟨pg,5,none⟩ (.pointer none)=w1):=⟨_,ah rfl⟩
 have hk1:Keep (· =pg) w w1:=by rw[<-HW1.out];exact(Keep.refl (· =pg) _).setCell (p:=⟨pg,5,none⟩) (.inr rfl) _
 have hP1:xD w1 Sd Sl Sp pg lg d fb σ l p (.pointer none):=HH.out.self hk1 HH.out.ok rfl (by rw[<-HW1.out,iL _ pg 5 _ _ _ HH.out.obj];rfl)
 rw[HW1.out] at HW2
 have hk2:Keep (· =t) w1 w2:=by rw[<-HW2.out];exact(Keep.refl (· =t) _).setCell (p:=⟨t,0,none⟩) (.inr rfl) _
 have hto1:=(hk1.block t htl htp).trans hto
 have hP2:=hP1.keep hk2 (fun g hg e=>hdis g ((hS g).2 hg) (e▸HT.out.st))
 rw[HW1.out,HW2.out]
 refine⟨rfl,⟨Sd,Sl,Sp,lg,fb,hP2,hS⟩,⟨db,?_⟩,(hk1.mono (fun _ _ e=> .inl (e▸hspg))).trans hk2 (fun _ _ e=> .inr (e▸HT.out.st))⟩
 rw[<-HW2.out,iL _ t 0 _ _ _ hto1]
 rfl
theorem xC.cells {w:World}{T:Nat->Prop}{t pg db n:Nat}{im:Im}(h:xC w T t pg db im n):
  w.cell? ⟨t,0,none⟩=some (.pointer (some ⟨pg,0,none⟩))/\w.cell? ⟨t,1,none⟩=some (.map (some db))/\t<w.heap.size:=by
 have hb:=h.obj
 exact⟨by simp[World.cell?,hb],by simp[World.cell?,hb],(aj.1 hb).1⟩
theorem EX (t pg d:Nat)(σ:Dk)(l:Lg)(p:Pg)(op:Value)(im:Im)(S T:Nat->Prop)(n b:Nat)(w:World)(h:jh w S pg d σ l p op)(ht:rz w T t pg im n)(hd:p.dead=false)(hb:b<p.blocks σ):
  Calls Tryz.prog 81 #[.pointer (some ⟨t,0,none⟩),.int .i64 b] w fun e w'=>e= .returned (.int .i64 0)/\w'=w.drew:=by
 have HB:=ah (yM pg d σ l p op S w h)
 have hbl:p.blocks σ<=4096:=by have:=h.ok.2.1.hi;unfold Pg.blocks;omega
 obtain⟨Sd,Sl,Sp,lg,fb,h,hS⟩:=h
 obtain⟨db,ht⟩:=ht
 obtain⟨_,_,_,_,_,_,c6,hlt,_⟩:=h.cells
 obtain⟨t0,t1,htl⟩:=ht.cells
 rw[hd] at c6
 clear h ht hd
 have e1:¬(b:Int)<0:=by omega
 have e2:decide ((b:Int)<0)=false:=bQ e1
 have e3:¬(p.blocks σ:Int)<=(b:Int):=by omega
 have e4:decide ((p.blocks σ:Int)<=(b:Int))=false:=bQ e3
 have e5:decide (p.blocks σ<=b)=false:=bQ (by omega)
 go_enter Tryz.func81,Tryz.ntmps81
 go_wp2_with (first
  |(go_at_call 42;go_must (refine HB.out.mono ?_;rintro e w1 ⟨rfl,hw1⟩;subst w1)))
 go_ret
 exact⟨rfl,rfl⟩
theorem SE (pg d:Nat)(σ:Dk)(l:Lg)(p:Pg)(op:Value)(S:Nat->Prop)(w:World)(h:jh w S pg d σ l p op):
  Calls Tryz.prog 45 #[.pointer (some ⟨pg,0,none⟩)] w fun e w'=>e= .returned (.int .i64 l.last)/\w'=w:=by
 obtain⟨Sd,Sl,Sp,lg,fb,h,hS⟩:=h
 obtain⟨_,c1,_,_,_,_,_,hlt,_⟩:=h.cells
 have HW:=ah (La lg d l Sl w h.log.lg)
 clear h
 go_enter Tryz.func45,Tryz.ntmps45
 go_wp2_with (first
  |(go_at_call 90;go_must (refine HW.out.mono ?_;rintro e w1 ⟨rfl,hw1⟩;subst w1)))
 go_ret
 exact⟨rfl,rfl⟩
theorem kX.look {w:World}{b:Nat}{im:Im}(h:kX w b im)(k:Nat):∃D,w.ownsMap Tryz.prog 3 rI b 5000 D/\Maps.has D (kI k)=decide (k∈im.ks)/\(k∈im.ks->D.atKey (kI k) (.lit (.string zB))= .lit (.string (im.img k))):=by
 obtain⟨D,h1,h2,h3,h4,h5⟩:=h
 exact⟨D,h1,h4 k,fun hk=>h5 k hk _⟩
theorem wK:rI (.agg (aI zB).toArray)=some (.lit (.string zB),[]):=GY zB iM
theorem tread (t pg d:Nat)(σ:Dk)(l:Lg)(p:Pg)(op:Value)(im:Im)(S T:Nat->Prop)(b:Nat)(w:World)(h:jh w S pg d σ l p op)(ht:rz w T t pg im (p.blocks σ))(hd:p.dead=false)(hsd:σ.dead=false)(hb:b<p.blocks σ):
  Calls Tryz.prog 57 #[.pointer (some ⟨t,0,none⟩),.int .i64 b] w fun e w'=>∃v,e= .returned (.tuple #[v,.int .i64 0])/\aX w' fZ 1 v 512 (aI (p.look im σ b))/\(∀g,v.ownBlock=some g->w.heap.size<=g)/\Below w.heap.size w w':=by
 have HU:=ah (EX t pg d σ l p op im S T (p.blocks σ) b w h ht hd hb)
 have hbl:p.blocks σ<=4096:=by have:=h.ok.2.1.hi;unfold Pg.blocks;omega
 have hbw:=tq (b:Int) (by omega) (by omega)
 obtain⟨Sd,Sl,Sp,lg,fb,h,hS⟩:=h
 obtain⟨db,ht⟩:=ht
 obtain⟨c0,_,c2,_,c4,_,c6,hlt,_⟩:=h.cells
 obtain⟨t0,t1,htl⟩:=ht.cells
 have HS:=ah (show ∀W:World,Below w.heap.size w W->W.cell? ⟨t,0,none⟩=some (.pointer (some ⟨pg,0,none⟩))/\W.cell? ⟨t,1,none⟩=some (.map (some db))/\W.cell? ⟨pg,0,none⟩=some (.pointer (some ⟨d,0,none⟩))/\W.cell? ⟨pg,2,none⟩=some (.int .i64 p.skip)/\W.cell? ⟨pg,4,none⟩=some (.map (some fb))/\t<W.heap.size/\pg<W.heap.size from fun W hW=>
  ⟨(hW.cell (p:=⟨t,0,none⟩) htl).trans t0,(hW.cell (p:=⟨t,1,none⟩) htl).trans t1,(hW.cell (p:=⟨pg,0,none⟩) hlt).trans c0,(hW.cell (p:=⟨pg,2,none⟩) hlt).trans c2,(hW.cell (p:=⟨pg,4,none⟩) hlt).trans c4,ak htl hW.size,ak hlt hW.size⟩)
 have HH:=ah h;have HT:=ah ht
 clear h ht c0 c2 c4 c6 t0 t1
 go_enter Tryz.func57,Tryz.ntmps57
 go_wp2_with (first
  |(go_at_call 81;go_must (refine HU.out.mono ?_;rintro e w1 ⟨rfl,hw1⟩;subst w1)))
 refine aP (fun W=>Below w.heap.size w W) (fun i=> !([11].contains i)) [0,1,2,3,4,5,6,7,8,9,10,13,11,12] rfl (by kernel_rfl) ((aR _ w).drew.drew) ?_
 repeat ((refine bP (v:= ?_) rfl rfl (fun _ _ _ h=>h) rfl (fun W hW=> ?_) ?_);rotate_left;(focus ((try dsimp only at hW);obtain⟨r0,r1,r2,r3,r4,r5,r6⟩:=HS.out W hW;(go_simp;first|done|with_reducible rfl)));(try simp only[Act.put,ai,ax,au]))
 refine dK rfl rfl rfl ?_;intro K hK;go_simp
 obtain⟨w2,HW2⟩:∃w2:World,Hid ((w.alloc (.cells #[.map (some db),.map (some fb)] 139)).drew.drew=w2):=⟨_,ah rfl⟩
 have hb2:Below w.heap.size w w2:=by rw[<-HW2.out];exact(aO w _).drew.drew
 have hx0:w2.cell? ⟨w.heap.size,0,none⟩=some (.map (some db)):=by rw[<-HW2.out];show (w.alloc _).cell? _=_;simp
 have hx1:w2.cell? ⟨w.heap.size,1,none⟩=some (.map (some fb)):=by rw[<-HW2.out];show (w.alloc _).cell? _=_;simp
 have hxl:w.heap.size<w2.heap.size:=by rw[<-HW2.out];simp
 rw[HW2.out]
 refine hK.out _ _ hb2 ?_
 repeat ((refine bP (v:= ?_) rfl rfl (fun _ _ _ h=>h) rfl (fun W hW=> ?_) ?_);rotate_left;(focus ((try dsimp only at hW);obtain⟨r0,r1,r2,r3,r4,r5,r6⟩:=HS.out W hW;(go_simp;first|done|with_reducible rfl)));(try simp only[Act.put,ai,ax,au]))
 refine bS ?_
 have HI0:=ah HT.out.img;have HI1:=ah HH.out.fr
 have HL0:=ah (HT.out.sub _ HT.out.sdb);have HL1':=ah (HH.out.sub _ HH.out.sfb)
 have HL1:=HL1'
 have hbw0:=hbw
 clear hbw
 go_wp2_with fail
 go_loopw [32] (fun i wr=>∃k:Nat,k<=2/\i= .int .i64 k/\Hid (Below w2.heap.size w2 wr)/\Hid (0<k->b∉im.ks)/\Hid (1<k->b∉p.fresh.ks)) (fun i _=>2 - (intOf i).toNat)
 case atStart=>exact⟨0,by omega,rfl,ah (aR _ _),ah (fun h=>absurd h (by omega)),ah (fun h=>absurd h (by omega))⟩
 case round=>
  obtain⟨k,hk,rfl,HB,HN0,HN1⟩:=hrel
  have hbw:=hb2.trans (HB.out.mono hb2.size)
  have d0:=(HB.out.cell (p:=⟨w.heap.size,0,none⟩) hxl).trans hx0
  have d1:=(HB.out.cell (p:=⟨w.heap.size,1,none⟩) hxl).trans hx1
  have hxr:=ak hxl HB.out.size
  have hz:(zeroValue 143).run Tryz.prog wr= .ok (.agg (aI zB).toArray) wr:=kF wr
  have hr1:Row (wr.alloc (.cells (aI zB).toArray 143)) wr.heap.size 143 (aI zB):=Row.new wr _ _
  have hz1:=ah (show (aI zB).length=512 by rw[bL,iM])
  obtain⟨s0,s1,s2,s3,s4,s5,s6⟩:=HS.out wr hbw
  rcases jf k 1 with h0|h0
  ·obtain rfl:k=0:=by omega
   have HLk:=ah (HI0.out.block (hbw.block _ HL0.out))
   obtain⟨D,hD,hh,hat⟩:=HLk.out.look b
   by_cases hm:b∈im.ks
   ·have hh':Maps.has D (kI b)=true:=by rw[hh];exact dZ hm
    have hat':=hat hm
    have HAT:=ah hat'
    clear hat hat' hh
    go_wp2_with (first
     |(at_lookup;go_must (refine zy _ rfl _ _ 139 rfl 3 143 jk fC rI hz (.lit (.string zB)) [] wK db 5000 D rfl hD _ _ rfl (nR b hbw0) ?_;intro v ps hv;obtain⟨l1,hl1,rfl,hl2⟩:=uU hv;have HL1:=ah hl1;have HL2:=ah hl2;have hb5:=ah (show (aI l1).length=512 by rw[bL,hl1]);have hone:=gZ l1;clear hv hl1 hl2;rw[hh']))
     |((refine dU rfl ?_);intro K hK;(refine iZ 143 rfl _ kF ?_);refine hK _ _ ?_)
     |((refine dU rfl ?_);intro K hK;(refine wp_store_row 143 _ _ rfl wr.heap.size 0 143 _ (aI l1) rfl rfl hr1 (kH.trans (congrArg some hb5.out.symm)) (by rw[hz1.out,hb5.out];omega) hone ?_);intro w3 hr3 hk3;refine hK _ _ (Stop.of ?_)))
    refine Stop.on ?_
    rw[lI _ _ (hz1.out.trans hb5.out.symm)] at hr3
    have HR3:=ah hr3;have HK3:=ah hk3;clear hr3 hk3
    go_wp2_with fail
    go_ret2
    have hlk:l1=p.look im σ b:=by
     have h1:(DataW.lit (Lit.string l1):DataW Unit)= .lit (.string (im.img b)):=HL2.out.symm.trans HAT.out
     injection h1 with h1
     injection h1 with h1
     rw[h1]
     unfold Pg.look Im.find
     rw[if_pos hm];rfl
    refine⟨_,rfl,?_,fun g hg=>by cases hg;exact aK hb2.size HB.out.size,?_⟩
    ·rw[<-hlk]
     have:=HR3.out.dm (S:=fZ) (k:=1) (off:=0) 512 512 (by rw[hb5.out];omega) id (aC _) (by simp[maxLen])
     rwa [dP,aJ (by rw[hb5.out];omega)] at this
    ·exact(hb2.trans (HB.out.mono hb2.size)).trans (((Keep.refl (fun _=>False) wr).alloc _).trans (HK3.out.mono (M':=fun g=>g=wr.heap.size) (fun _ _ e=>e)) (fun i hi e=>by omega)|>.below.mono (aK hb2.size HB.out.size))
   ·have hh':Maps.has D (kI b)=false:=by rw[hh];exact bQ hm
    clear hat hh
    go_wp2_with (first
     |(at_lookup;go_must (refine zy _ rfl _ _ 139 rfl 3 143 jk fC rI hz (.lit (.string zB)) [] wK db 5000 D rfl hD _ _ rfl (nR b hbw0) ?_;intro v ps hv;obtain⟨l1,hl1,rfl,hl2⟩:=uU hv;have HL1:=ah hl1;have HL2:=ah hl2;have hb5:=ah (show (aI l1).length=512 by rw[bL,hl1]);have hone:=gZ l1;clear hv hl1 hl2;rw[hh']))
     |((refine dU rfl ?_);intro K hK;(refine iZ 143 rfl _ kF ?_);refine hK _ _ ?_)
     |((refine dU rfl ?_);intro K hK;(refine wp_store_row 143 _ _ rfl wr.heap.size 0 143 _ (aI l1) rfl rfl hr1 (kH.trans (congrArg some hb5.out.symm)) (by rw[hz1.out,hb5.out];omega) hone ?_);intro w3 hr3 hk3;refine hK _ _ (Stop.of ?_)))
    refine Stop.on ?_
    have HB3:=ah (HB.out.trans ((((Keep.refl (fun _=>False) wr).alloc _).trans (hk3.mono (M':=fun g=>g=wr.heap.size) (fun _ _ e=>e)) (fun i hi e=>by omega)).below.mono HB.out.size))
    clear hr3 hk3
    go_wp2_with fail
    go_roundw
    case rel=>exact⟨1,by omega,by go_num,HB3,ah (fun _=>hm),ah (fun h=>absurd h (by omega))⟩
    case measure=>simp[intOf]
  ·rcases jf k 2 with h1|h1
   ·obtain rfl:k=1:=by omega
    have hn0:=HN0.out (by omega)
    have HLk:=ah (HI1.out.block (hbw.block _ HL1.out))
    obtain⟨D,hD,hh,hat⟩:=HLk.out.look b
    by_cases hm:b∈p.fresh.ks
    ·have hh':Maps.has D (kI b)=true:=by rw[hh];exact dZ hm
     have hat':=hat hm
     have HAT:=ah hat'
     clear hat hat' hh
     go_wp2_with (first
      |(at_lookup;go_must (refine zy _ rfl _ _ 139 rfl 3 143 jk fC rI hz (.lit (.string zB)) [] wK fb 5000 D rfl hD _ _ rfl (nR b hbw0) ?_;intro v ps hv;obtain⟨l1,hl1,rfl,hl2⟩:=uU hv;have HL1:=ah hl1;have HL2:=ah hl2;have hb5:=ah (show (aI l1).length=512 by rw[bL,hl1]);have hone:=gZ l1;clear hv hl1 hl2;rw[hh']))
      |((refine dU rfl ?_);intro K hK;(refine iZ 143 rfl _ kF ?_);refine hK _ _ ?_)
      |((refine dU rfl ?_);intro K hK;(refine wp_store_row 143 _ _ rfl wr.heap.size 0 143 _ (aI l1) rfl rfl hr1 (kH.trans (congrArg some hb5.out.symm)) (by rw[hz1.out,hb5.out];omega) hone ?_);intro w3 hr3 hk3;refine hK _ _ (Stop.of ?_)))
     refine Stop.on ?_
     rw[lI _ _ (hz1.out.trans hb5.out.symm)] at hr3
     have HR3:=ah hr3;have HK3:=ah hk3;clear hr3 hk3
     go_wp2_with fail
     go_ret2
     have hlk:l1=p.look im σ b:=by
      have h1:(DataW.lit (Lit.string l1):DataW Unit)= .lit (.string (p.fresh.img b)):=HL2.out.symm.trans HAT.out
      injection h1 with h1
      injection h1 with h1
      rw[h1]
      unfold Pg.look Im.find
      rw[if_neg hn0,if_pos hm];rfl
     refine⟨_,rfl,?_,fun g hg=>by cases hg;exact aK hb2.size HB.out.size,?_⟩
     ·rw[<-hlk]
      have:=HR3.out.dm (S:=fZ) (k:=1) (off:=0) 512 512 (by rw[hb5.out];omega) id (aC _) (by simp[maxLen])
      rwa [dP,aJ (by rw[hb5.out];omega)] at this
     ·exact(hb2.trans (HB.out.mono hb2.size)).trans (((Keep.refl (fun _=>False) wr).alloc _).trans (HK3.out.mono (M':=fun g=>g=wr.heap.size) (fun _ _ e=>e)) (fun i hi e=>by omega)|>.below.mono (aK hb2.size HB.out.size))
    ·have hh':Maps.has D (kI b)=false:=by rw[hh];exact bQ hm
     clear hat hh
     go_wp2_with (first
      |(at_lookup;go_must (refine zy _ rfl _ _ 139 rfl 3 143 jk fC rI hz (.lit (.string zB)) [] wK fb 5000 D rfl hD _ _ rfl (nR b hbw0) ?_;intro v ps hv;obtain⟨l1,hl1,rfl,hl2⟩:=uU hv;have HL1:=ah hl1;have HL2:=ah hl2;have hb5:=ah (show (aI l1).length=512 by rw[bL,hl1]);have hone:=gZ l1;clear hv hl1 hl2;rw[hh']))
      |((refine dU rfl ?_);intro K hK;(refine iZ 143 rfl _ kF ?_);refine hK _ _ ?_)
      |((refine dU rfl ?_);intro K hK;(refine wp_store_row 143 _ _ rfl wr.heap.size 0 143 _ (aI l1) rfl rfl hr1 (kH.trans (congrArg some hb5.out.symm)) (by rw[hz1.out,hb5.out];omega) hone ?_);intro w3 hr3 hk3;refine hK _ _ (Stop.of ?_)))
     refine Stop.on ?_
     have HB3:=ah (HB.out.trans ((((Keep.refl (fun _=>False) wr).alloc _).trans (hk3.mono (M':=fun g=>g=wr.heap.size) (fun _ _ e=>e)) (fun i hi e=>by omega)).below.mono HB.out.size))
     clear hr3 hk3
     go_wp2_with fail
     go_roundw
     case rel=>exact⟨2,by omega,by go_num,HB3,ah (fun _=>hn0),ah (fun _=>hm)⟩
     case measure=>simp[intOf]
   ·obtain rfl:k=2:=by omega
    have hn0:=HN0.out (by omega)
    have hn1:=HN1.out (by omega)
    have hbb:b<σ.n - p.skip:=hb
    have hnn:=HH.out.log.dk.ok.hi
    obtain⟨z,HZ⟩:∃z,Hid (p.skip+b=z):=⟨_,ah rfl⟩
    have hz1':IntKind.i64.wrap ((p.skip:Int)+(b:Int))=(z:Int):=by rw[aG _ (by omega),<-HZ.out];omega
    have hzn:z<σ.n:=by rw[<-HZ.out];omega
    have HDk:=ah (HH.out.log.dk.below hbw)
    have HRd:=ah (L6 d σ Sd z wr.drew (HDk.out.below ((aR _ wr).drew)) hsd hzn)
    have HLK:=ah (show σ.get z=p.look im σ b by
     unfold Pg.look Im.find
     rw[if_neg hn0,if_neg hn1,HZ.out]
     rfl)
    have HBW:=ah hbw;have HHz:=ah hzn
    clear hn0 hn1 hr1 hz d0 d1 hxr s0 s1 s2 s3 s4 s5 s6 hzn
    go_wp2_with fail
    refine aP (fun W=>Below w.heap.size w W) (fun i=> !([16].contains i)) [0,1,2,3,4,5,6,7,8,9,10,11,12,13,14,15,16,17,18,19,20,21] rfl (by kernel_rfl) hbw.drew ?_
    repeat ((refine bP (v:= ?_) rfl rfl (fun _ _ _ h=>h) rfl (fun W hW=> ?_) ?_);rotate_left;(focus ((try dsimp only at hW);obtain⟨r0,r1,r2,r3,r4,r5,r6⟩:=HS.out W hW;(go_simp;first|done|with_reducible rfl)));(try simp only[Act.put,ai,ax,au]))
    refine dK rfl rfl rfl ?_;intro K hK;go_simp
    refine HRd.out.mono ?_;rintro e w5 ⟨v,rfl,hv5,hb5⟩
    have hb5':=HBW.out.drew.trans (hb5.mono hbw.size)
    refine hK.out _ _ hb5' ?_
    have HV5:=ah hv5;have HB5:=ah hb5';clear hv5 hb5 hb5'
    repeat ((refine bP (v:= ?_) rfl rfl (fun _ _ _ h=>h) rfl (fun W hW=> ?_) ?_);rotate_left;(focus ((try dsimp only at hW);skip;(go_simp;first|done|with_reducible rfl)));(try simp only[Act.put,ai,ax,au]))
    refine bS ?_
    go_wp2_with fail
    go_ret2
    rw[<-HLK.out]
    exact⟨v,rfl,HV5.out.dm,fun g hg=>aK HBW.out.size (HV5.out.1.lt g hg).1,HB5.out⟩
theorem Dy (n:Nat)(l:List UInt8):splice (aI (List.replicate n 0)) 0 (aI l)=aI (l++List.replicate (n - l.length) 0):=by
 simp[splice,aI]
theorem Fe (l:List UInt8):splice (aI zB) 0 (aI l)=aI (pad l):=Dy 512 l
theorem xC.put {w w':World}{T:Nat->Prop}{t pg db n:Nat}{im:Im}(h:xC w T t pg db im n)(hn:n<=4096)(b:Nat)(x:List UInt8)(hb:b<n)(hx:x.length=512){D:DataW Unit}(hD:w.ownsMap Tryz.prog 3 rI db 5000 D)(hs:Maps.size D=im.ks.length)(h0:∀kl,Maps.has D kl=true->∃k:Nat,kl=kI k)
  (h1:∀k:Nat,Maps.has D (kI k)=decide (k∈im.ks)) (h2:∀k:Nat,k∈im.ks->∀z,D.atKey (kI k) z= .lit (.string (im.img k))) (ho:w'.ownsMap Tryz.prog 3 rI db 5001 (D.put (kI b) (.lit (.string x)))) (hk:Keep (· =db) w w'):xC w' T t pg db (im.put b x) n:=
 ⟨h.ok.put b x hb hx,fun g hg=>ak (h.sub g hg) hk.size,h.st,h.sdb,(hk.block _ (h.sub _ h.st) (fun e=>h.img.ne h.obj e)).trans h.obj,kX.put h.ok hn b x hb hD hs h0 h1 h2 ho⟩
theorem Keep.sH {w w':World}{b:Nat}(h:w.grownBy w' (some b)):Keep (· =b) w w':=
 (Keep.refl (· =b) w).grown h (fun k e=>by cases e;exact .inr rfl)
theorem JM (t pg d:Nat)(σ:Dk)(l:Lg)(p:Pg)(op:Value)(im:Im)(S T:Nat->Prop)(b:Nat)(v:Value)(x:List UInt8)(w:World)(h:jh w S pg d σ l p op)(ht:rz w T t pg im (p.blocks σ))(hd:p.dead=false)(hb:b<p.blocks σ)(hv:aX w fZ 1 v x.length (aI x))(hx:x.length<=512):
  Calls Tryz.prog 66 #[.pointer (some ⟨t,0,none⟩),.int .i64 b,v] w fun e w'=>e= .returned (.int .i64 0)/\rz w' T t pg (im.put b (pad x)) (p.blocks σ)/\Step T T w w':=by
 have HU:=ah (EX t pg d σ l p op im S T (p.blocks σ) b w h ht hd hb)
 have hbl:p.blocks σ<=4096:=by have:=h.ok.2.1.hi;unfold Pg.blocks;omega
 have hbw0:=tq (b:Int) (by omega) (by omega)
 obtain⟨vo,vc,rfl,v1,v2,v3,v4⟩:=aX.form hv
 obtain⟨db,ht⟩:=ht
 obtain⟨t0,t1,htl⟩:=ht.cells
 have hx':¬((512:Int)<(x.length:Int)):=by omega
 have HT:=ah ht;have HB:=ah hb;have HBL:=ah hbl
 have hr1:Row (w.drew.alloc (.cells (aI zB).toArray 143)) w.heap.size 143 (aI zB):=Row.new w.drew _ _
 have hz1:=ah (show (aI zB).length=512 by rw[bL,iM])
 have hlen:=ah (bL x)
 have hfst:=(hv.below (w':=w.drew.alloc (.cells (aI zB).toArray 143)) ((aR _ w).drew.alloc (aC _) _)).first (P:=Tryz.prog) x.length (aC _)
 rw[aU,aJ (kT hlen.out)] at hfst
 have hfst:=ah hfst
 clear h ht hd hb hbl v3 v4
 go_enter Tryz.func66,Tryz.ntmps66
 go_wp2_with (first
  |(go_at_call 81;go_must (refine HU.out.mono ?_;rintro e w1 ⟨rfl,hw1⟩;subst w1))
  |((refine dU rfl ?_);intro K hK;(refine iZ 143 rfl _ kF ?_);refine hK _ _ ?_)
  |((refine dU rfl ?_);intro K hK;(refine gU (.tmp 18) (.tmp 19) 70 70 rfl 5 1 1 (.int .u8 0) bH kz w.heap.size 0 143 x.length 512 512 (some ⟨w.heap.size,0,none⟩) _ rfl hr1 (.slice vo x.length vc) rfl x.length (aI x) rfl ?_ ?_ hfst.out (fun _=>rfl) ?_ (gZ _) ?_);go_must ((focus (exact(bI hx).symm));(focus (rw[hlen.out,aU]));(focus (rw[hlen.out,hz1.out];omega));intro w3 hr3 hk3;refine hK _ _ (Stop.of ?_))))
 refine Stop.on ?_
 rw[Fe] at hr3
 have hk13:Keep fZ w w3:=(((Keep.refl fZ w).drew).alloc _).trans hk3 (fun i hi e=>absurd hi (by rw[e];exact dB _))
 have hb3:=hk13.below
 have ht3:xC w3 T t pg db im (p.blocks σ):=by
  have hT:=HT.out
  exact⟨hT.ok,fun g hg=>ak (hT.sub g hg) hb3.size,hT.st,hT.sdb,(hb3.block _ (hT.sub _ hT.st)).trans hT.obj,hT.img.block (hb3.block _ (hT.sub _ hT.sdb))⟩
 obtain⟨D,hD,hs,h0,h1,h2⟩:=ht3.img
 obtain⟨s0,s1,stl⟩:=ht3.cells
 have hpl:(pad x).length=512:=o9 hx
 have hone:=gZ (pad x)
 have hcl:=ah (show (aI (pad x)).length=512 by rw[bL,hpl])
 have hval:=ah (GY (pad x) hpl)
 obtain⟨C,HC⟩:∃C,Hid (aI (pad x)=C):=⟨_,ah rfl⟩
 rw[HC.out] at hr3 hone hcl hval
 have hw:w3.drew.rangeAt w.heap.size 0 C:=hr3.whole
 have s1':w3.drew.cell? ⟨t,1,none⟩=some (.map (some db)):=s1
 have HT3:=ah ht3;have HB3:=ah hb3;have HH2:=ah (aF hs (aF h0 (aF h1 h2)))
 have HDD:=ah hD
 clear ht3 hb3 hs h0 h1 h2 hk13 hk3 hr3 hr1 hD
 go_wp2_with fail
 refine aP (fun W=>W=w3.drew) (fun i=> !([6].contains i)) [0,1,2,3,4,5,6] rfl (by kernel_rfl) rfl ?_
 repeat ((refine bP (v:= ?_) rfl rfl (fun _ _ _ h=>h) rfl (fun W hW=> ?_) ?_);rotate_left;(focus ((try dsimp only at hW);subst hW;(go_simp;first|done|with_reducible rfl)));(try simp only[Act.put,ai,ax,au]))
 refine bP (v:= .agg C.toArray) rfl rfl (fun _ _ _ h=>h) rfl (fun W hW=> ?_) ?_
 ·subst hW
  exact kV 143 (.tmp 8) rfl w.heap.size 0 rfl C _ hw Jz rfl (kH.trans (congrArg some hcl.out.symm))
 simp only[Act.put,ai,ax,au]
 refine jO rfl rfl rfl (by kernel_rfl) ?_;intro K hK
 refine ni _ _ _ 139 rfl 3 143 jk fC rI db 5000 D rfl (Uk HDD.out) (by simp[maxLen]) _ _ (kI b) rfl rfl (nR b hbw0) (.lit (.string (pad x))) [] hval.out ?_
 intro w4 ho4 hg4
 refine hK.out _ _ ?_
 refine bS ?_
 have hk4:Keep (· =db) w3 w4:=((Keep.refl (· =db) w3).drew).trans (Keep.sH hg4) (fun _ _ e=>e)
 have HT4:=ah (HT3.out.put HBL.out b (pad x) HB.out hpl HDD.out HH2.out.1 HH2.out.2.1 HH2.out.2.2.1 HH2.out.2.2.2 ho4 hk4)
 have HK4:=ah hk4
 clear ho4 hg4 hk4
 go_wp2_with fail
 go_ret
 exact⟨rfl,⟨db,HT4.out⟩,(Keep.of_below HB3.out T).trans (HK4.out.mono (fun _ _ e=>e▸HT3.out.sdb)) (fun _ _ e=>e),fun _ hg=> .inl hg⟩
end Go.Proofs.YtogbkgmlhhahdaaGreat
namespace Go.Proofs.YtogbkgmlhhahdaaGreat
open Go.RowKit Go.Shelf
def Rp:Go.Shelf.Ren:=⟨fun x=>match x with|189=>50|125=>99|257=>98|128=>146|129=>147|294=>137|295=>138|296=>139|297=>140|298=>141|299=>142|216=>143|300=>144|301=>145|328=>172|329=>173|330=>174|331=>175|332=>176|215=>177|343=>201|n=>n,fun x=>match x with|28=>93|3=>3|46=>119|0=>0|51=>208|53=>201|4=>4|183=>239|182=>238|131=>104|5=>5|9=>9|218=>278|222=>282|228=>310|229=>311|n=>n,fun n=>n⟩
theorem yC:Lays.n189 Tryz.prog Rp where
 mixed:=by kernel_rfl
 f125:=Tryz.func99.trans (congrArg some (by kernel_rfl))
 f128:=Tryz.func146.trans (congrArg some (by kernel_rfl))
 f129:=Tryz.func147.trans (congrArg some (by kernel_rfl))
 f189:=Tryz.func50.trans (congrArg some (by kernel_rfl))
 f215:=Tryz.func177.trans (congrArg some (by kernel_rfl))
 f216:=Tryz.func143.trans (congrArg some (by kernel_rfl))
 f257:=Tryz.func98.trans (congrArg some (by kernel_rfl))
 f294:=Tryz.func137.trans (congrArg some (by kernel_rfl))
 f295:=Tryz.func138.trans (congrArg some (by kernel_rfl))
 f296:=Tryz.func139.trans (congrArg some (by kernel_rfl))
 f297:=Tryz.func140.trans (congrArg some (by kernel_rfl))
 f298:=Tryz.func141.trans (congrArg some (by kernel_rfl))
 f299:=Tryz.func142.trans (congrArg some (by kernel_rfl))
 f300:=Tryz.func144.trans (congrArg some (by kernel_rfl))
 f301:=Tryz.func145.trans (congrArg some (by kernel_rfl))
 f328:=Tryz.func172.trans (congrArg some (by kernel_rfl))
 f329:=Tryz.func173.trans (congrArg some (by kernel_rfl))
 f330:=Tryz.func174.trans (congrArg some (by kernel_rfl))
 f331:=Tryz.func175.trans (congrArg some (by kernel_rfl))
 f332:=Tryz.func176.trans (congrArg some (by kernel_rfl))
 f343:=Tryz.func201.trans (congrArg some (by kernel_rfl))
 t0:=Bn
 a0:=Tryz.isAgg0
 z0:=SV
 v0:=EO
 t3:=jo
 a3:=Tryz.isAgg3
 z3:=Tryz.sizeOf3
 v3:=Ul
 t4:=uy
 a4:=Tryz.isAgg4
 z4:=Tryz.sizeOf4
 v4:=Tryz.zeroValue4
 t5:=lF
 a5:=Tryz.isAgg5
 z5:=Tryz.sizeOf5
 v5:=Tryz.zeroValue5
 t9:=gM
 a9:=Tryz.isAgg9
 z9:=Tryz.sizeOf9
 v9:=Tryz.zeroValue9
 t28:=bf
 a28:=Tryz.isAgg93
 z28:=Tryz.sizeOf93
 v28:=Tryz.zeroValue93
 t46:=Tryz.underlying119
 a46:=Tryz.isAgg119
 z46:=Tryz.sizeOf119
 v46:=Tryz.zeroValue119
 t51:=Tryz.underlying208
 a51:=Tryz.isAgg208
 z51:=Tryz.sizeOf208
 v51:=Tryz.zeroValue208
 t53:=Tryz.underlying201
 a53:=Tryz.isAgg201
 z53:=Tryz.sizeOf201
 v53:=Tryz.zeroValue201
 t131:=Tryz.underlying104
 a131:=Tryz.isAgg104
 z131:=Tryz.sizeOf104
 v131:=Tryz.zeroValue104
 t182:=Tryz.underlying238
 a182:=Tryz.isAgg238
 z182:=Tryz.sizeOf238
 v182:=Tryz.zeroValue238
 t183:=Tryz.underlying239
 a183:=Tryz.isAgg239
 z183:=Tryz.sizeOf239
 v183:=Tryz.zeroValue239
 t218:=Tryz.underlying278
 a218:=Tryz.isAgg278
 z218:=Tryz.sizeOf278
 v218:=Tryz.zeroValue278
 t222:=Tryz.underlying282
 a222:=Tryz.isAgg282
 z222:=Tryz.sizeOf282
 v222:=Tryz.zeroValue282
 t228:=Tryz.underlying310
 a228:=Tryz.isAgg310
 z228:=Tryz.sizeOf310
 v228:=Tryz.zeroValue310
 t229:=Tryz.underlying311
 a229:=Tryz.isAgg311
 z229:=Tryz.sizeOf311
 v229:=Tryz.zeroValue311
def Bf:Go.Shelf.Ren:=⟨fun x=>match x with|6=>82|7=>83|8=>130|9=>50|10=>131|11=>170|n=>n,fun x=>match x with|0=>0|3=>143|4=>4|23=>139|24=>93|26=>3|27=>151|28=>152|33=>108|n=>n,fun n=>n⟩
theorem Ie:SlLaysZI.n7 Tryz.prog Bf where
 mixed:=by kernel_rfl
 f7:=⟨Tryz.f83.name,(by kernel_rfl),Tryz.func83.trans (congrArg some (by kernel_rfl))⟩
 f10:=⟨Tryz.f131.name,(by kernel_rfl),Tryz.func131.trans (congrArg some (by kernel_rfl))⟩
 t0:=Bn
 a0:=Tryz.isAgg0
 z0:=SV
 v0:=EO
 t4:=uy
 a4:=Tryz.isAgg4
 z4:=Tryz.sizeOf4
 v4:=Tryz.zeroValue4
 t23:=fC
 a23:=Tryz.isAgg139
 z23:=Tryz.sizeOf139
 v23:=Tryz.zeroValue139
 t26:=jo
 a26:=Tryz.isAgg3
 z26:=Tryz.sizeOf3
 v26:=Ul
 t27:=Tryz.underlying151
 a27:=Tryz.isAgg151
 z27:=Tryz.sizeOf151
 v27:=Tryz.zeroValue151
 t28:=Tryz.underlying152
 a28:=Tryz.isAgg152
 z28:=Tryz.sizeOf152
 v28:=Tryz.zeroValue152
 t33:=Tryz.underlying108
 a33:=Tryz.isAgg108
 z33:=Tryz.sizeOf108
 v33:=Tryz.zeroValue108
theorem J2:SlLaysZI.n6 Tryz.prog Bf where
 mixed:=by kernel_rfl
 f6:=⟨Tryz.f82.name,(by kernel_rfl),Tryz.func82.trans (congrArg some (by kernel_rfl))⟩
 f8:=⟨Tryz.f130.name,(by kernel_rfl),Tryz.func130.trans (congrArg some (by kernel_rfl))⟩
 f11:=⟨Tryz.f170.name,(by kernel_rfl),Tryz.func170.trans (congrArg some (by kernel_rfl))⟩
 t0:=Bn
 a0:=Tryz.isAgg0
 z0:=SV
 v0:=EO
 t24:=bf
 a24:=Tryz.isAgg93
 z24:=Tryz.sizeOf93
 v24:=Tryz.zeroValue93
 t26:=jo
 a26:=Tryz.isAgg3
 z26:=Tryz.sizeOf3
 v26:=Ul
 t28:=Tryz.underlying152
 a28:=Tryz.isAgg152
 z28:=Tryz.sizeOf152
 v28:=Tryz.zeroValue152
 i26:=by kernel_rfl
end Go.Proofs.YtogbkgmlhhahdaaGreat
namespace Go.Proofs.YtogbkgmlhhahdaaGreat
open Go.RowKit Go.Maps Go.Sort Go.Shelf
theorem BS:∀{a b:List Int},a.Pairwise (· < ·)->b.Pairwise (· < ·)->(∀x,x∈a↔x∈b)->a=b
 |[],[],_,_,_=>rfl
 |[],y::b,_,_,h=>by have:=(h y).2 (bg ..);cases this
 |x::a,[],_,_,h=>by have:=(h x).1 (bg ..);cases this
 |x::a,y::b,ha,hb,h=>by
  obtain⟨ha1,ha2⟩:=fP.1 ha
  obtain⟨hb1,hb2⟩:=fP.1 hb
  have hxy:x=y:=by
   rcases bM.1 ((h x).1 (bg ..)) with e|e
   ·exact e
   ·rcases bM.1 ((h y).2 (bg ..)) with e'|e'
    ·exact e'.symm
    ·have:=hb1 x e;have:=ha1 y e';omega
  subst hxy
  rw[BS ha2 hb2 (fun z=> ?_)]
  constructor
  ·intro hz
   rcases bM.1 ((h z).1 (aW _ hz)) with e|e
   ·have:=ha1 z hz;omega
   ·exact e
  ·intro hz
   rcases bM.1 ((h z).2 (aW _ hz)) with e|e
   ·have:=hb1 z hz;omega
   ·exact e
theorem Ic {im:Im}{n:Nat}(ho:im.Ok n){D:DataW Unit}(hT:∃es,D= .map es/\es.Pairwise (fun p q=>p.1≠q.1)/\∀p∈es,WideAt.IsKeyLit p.1)(h0:∀kl,Maps.has D kl=true->∃k:Nat,kl=kI k)(h1:∀k:Nat,Maps.has D (kI k)=decide (k∈im.ks))(ss:List Int)(hp:ss.Perm (intKeys D)):
  ss.mergeSort (fun x y=>decide (x<=y))=im.ks.map (fun k:Nat=>(k:Int)):=by
 obtain⟨es,rfl,hpw,hkl⟩:=hT
 have hk:∀p∈es,∃k:Nat,p.1=kI k/\k∈im.ks:=fun p hp=>by
  have hh:Maps.has (.map es) p.1=true:=by
   rw[Maps.has_eq,Uv]
   exact⟨p,hp,WideAt.sameKey_self (hkl p hp)⟩
  obtain⟨k,hk⟩:=h0 _ hh
  refine⟨k,hk,?_⟩
  have:=h1 k
  rw[<-hk,hh] at this
  exact je this.symm
 have hnd:(intKeys (.map es:DataW Unit)).Nodup:=by
  show (es.map fun p=>Go.intOf p.1).Nodup
  refine uF.2 (hpw.imp_of_mem (fun {p q} hp hq hne he=>hne ?_))
  obtain⟨a,ha,_⟩:=hk p hp
  obtain⟨b,hb,_⟩:=hk q hq
  rw[ha,hb] at he ⊢
  exact congrArg kI he
 have hs1:(ss.mergeSort (fun x y=>decide (x<=y))).Pairwise fun a b=>decide (a<=b)=true:=List.pairwise_mergeSort (fun a b c h1 h2=>by simp at*;omega) (fun a b=>by simp;omega) ss
 have hp2:=(rf ss (fun x y=>decide (x<=y))).trans hp
 have hs2:(ss.mergeSort (fun x y=>decide (x<=y))).Nodup:=hp2.nodup_iff.2 hnd
 have hs3:(ss.mergeSort (fun x y=>decide (x<=y))).Pairwise (· < ·):=hs1.imp₂ (fun a b h h'=>by simp at h;omega) hs2
 refine BS hs3 (uF.2 (ho.rise.imp (fun h=>by omega))) (fun x=> ?_)
 rw[hp2.mem_iff,eT]
 constructor
 ·intro hx
  obtain⟨p,hp,rfl⟩:=eT.1 (show x∈es.map fun p=>Go.intOf p.1 from hx)
  obtain⟨k,hk,hm⟩:=hk p hp
  exact⟨k,hm,by rw[hk];rfl⟩
 ·rintro⟨k,hm,rfl⟩
  have hh:=h1 k
  rw[dZ hm,Maps.has_eq,Uv] at hh
  obtain⟨p,hp,he⟩:=hh
  have e:=WideAt.sameKey_eq he
  show (k:Int)∈es.map fun p=>Go.intOf p.1
  exact eT.2 ⟨p,hp,by rw[e];rfl⟩
theorem SA (mb:Nat)(w:World):Calls Tryz.prog 83 #[.map (some mb)] w fun e w'=>e= .returned (.func (.func 131) #[] #[.pointer (some ⟨w.heap.size,0,none⟩)])/\w'=w.alloc (.cells #[.map (some mb)] 139):=
 callsIn_wide.1 (AnyZI.keys_in Ie Fence.wide 5 trivial rfl (some mb) w)
theorem Ro (m:Nat):AnyZI.SortsIn Tryz.prog Bf Fence.wide m:=
 ⟨fun blk off cap ss W hH hblk hsz=>callsIn_wide.2 (Any.slices_Sort_int yC blk off cap ss W hH hblk hsz),
  fun p cap W=>callsIn_wide.2 (Any.slices_Sort_int_none yC p cap W)⟩
theorem LC (b Bm:Nat)(im:Im)(n:Nat)(w:World)(h:kX w b im)(ho:im.Ok n)(hn:n<=4096)(hc:w.cell? ⟨Bm,0,none⟩=some (.map (some b)))(hB:Bm<w.heap.size):
  Calls Tryz.prog 82 #[.func (.func 131) #[] #[.pointer (some ⟨Bm,0,none⟩)]] w fun e w'=>∃v,e= .returned v/\aQ w' fZ w.heap.size 3 1 v im.ks.length ((im.ks.map fun k:Nat=>(k:Int)).map (.int .i64))/\Below w.heap.size w w':=by
 obtain⟨D,hD,hs,h0,h1,h2⟩:=h
 have hlen:=yF _ _ ho.rise ho.hi
 have hseq:SeqGives Fence.wide 2 Tryz.prog 131 #[.pointer (some ⟨Bm,0,none⟩)] encZ (fun ss=>ss.Perm (intKeys D)) (Maps.size D) w:=
  AnyZI.keys_gives (ρ:=Bf) {Ie with} Fence.wide _ trivial rfl (by omega) Bm b 5000 D w hB hc hD
 have cS:=AnyZI.sorted_in J2 Fence.wide 5 trivial trivial trivial trivial rfl (by omega) (Ro _) (enters_of Tryz.func50 (by kernel_rfl) rfl) 131 #[.pointer (some ⟨Bm,0,none⟩)] trivial (enters_of Tryz.func131 (by kernel_rfl) rfl) _ (Maps.size D) (by rw[hs];simp only[maxLen];omega) (by rw[hs];omega) w hseq
 have c2:=callsIn_wide.1 cS
 refine Calls.mono (show Calls Tryz.prog 82 _ _ _ from c2) ?_
 rintro e w' ⟨v,ss,rfl,hS,hrow,hnil,hb⟩
 have hk:=Ic ho (hD.entries jk) h0 h1 ss hS
 have hl:ss.length=im.ks.length:=by
  have:=congrArg List.length hk
  rwa [List.length_mergeSort,jM] at this
 rw[hk,hl] at hrow
 exact⟨v,rfl,⟨hrow,fun g _ h=>h.elim⟩,hb⟩
end Go.Proofs.YtogbkgmlhhahdaaGreat
namespace Go.Proofs.YtogbkgmlhhahdaaGreat
open Go.RowKit
theorem Dk.wI {σ:Dk}(h:σ.sync.2=0):σ.sync.1.waits=[]:=by
 unfold Dk.sync at h ⊢
 split at h
 ·cases h
 ·split at h
  ·cases h
  ·rename_i h1 h2
   rw[if_neg h1,if_neg h2]
   rfl
theorem Lg.wM {σ:Dk}{l:Lg}(h:(l.mark σ).2.2=0):(l.mark σ).1.waits=[]/\(l.mark σ).2.1=l:=by
 unfold Lg.mark at h ⊢
 split at h
 ·rename_i h1
  split at h
  ·rename_i h2
   rw[if_pos h1,if_pos h2]
   exact⟨Dk.wI h2,rfl⟩
  ·cases h
 ·cases h
theorem Lg.wI {σ:Dk}{l:Lg}(h:(l.sync σ).2.2=0):(l.sync σ).1.waits=[]/\(l.sync σ).2.1=l.all/\l.dead=false:=by
 unfold Lg.sync at h ⊢
 split at h
 ·cases h
 ·rename_i hd
  split at h
  ·rename_i h1
   split at h
   ·rename_i h2
    rw[if_neg hd,if_pos h1,if_pos h2]
    have:=Lg.wM h2
    exact⟨this.1,this.2,by simpa using hd⟩
   ·cases h
  ·cases h
theorem Lg.PV (σ:Dk)(l:Lg):(l.mark σ).1.n=σ.n:=by
 unfold Lg.mark
 split
 ·split<;>rw[Dk.nU,Dk.qA]
 ·rw[Dk.qA]
theorem Lg.nU (σ:Dk)(l:Lg):(l.sync σ).1.n=σ.n:=by
 unfold Lg.sync
 split
 ·rfl
 ·split
  ·split<;>rw[Lg.PV,Dk.nU]
  ·exact Dk.nU σ
theorem Lg.D7 (σ:Dk)(l:Lg):(l.sync σ).2.1.frm=l.frm/\(l.sync σ).2.1.n=l.n/\(l.sync σ).2.1.last=l.last:=by
 unfold Lg.sync
 split
 ·exact⟨rfl,rfl,rfl⟩
 ·split
  ·split
   ·rename_i h
    rw[(Lg.wM h).2]
    exact⟨rfl,rfl,rfl⟩
   ·exact⟨rfl,rfl,rfl⟩
  ·exact⟨rfl,rfl,rfl⟩
theorem Lg.OT (σ:Dk)(l:Lg)(u:Nat):(l.trim σ u).1.n=σ.n:=by
 unfold Lg.trim
 split
 ·rfl
 ·split
  ·rfl
  ·split<;>exact Lg.PV _ _
theorem Lg.MH (σ:Dk)(l:Lg)(u:Nat):(l.trim σ u).2.1.frm=l.frm/\(l.trim σ u).2.1.n=l.n:=by
 unfold Lg.trim
 split
 ·exact⟨rfl,rfl⟩
 ·split
  ·exact⟨rfl,rfl⟩
  ·split
   ·rename_i h
    rw[(Lg.wM h).2]
    exact⟨rfl,rfl⟩
   ·exact⟨rfl,rfl⟩
theorem Pg.Ok.turn {p:Pg}{σ σ':Dk}{l l':Lg}(h:p.Ok σ l)(hn:σ'.n=σ.n)(hf:l'.frm=l.frm)(hl:l'.n=l.n):p.Ok σ' l':=
 ⟨hf.trans h.frm,h.skip.trans hl.symm,h.ring.trans hl.symm,by rw[hl,hn];exact h.fit,by rw[hn];exact h.fresh⟩
def Three (Sd Sl Sp:Nat->Prop):Nat->Prop:=fun g=>Sd g\/Sl g\/Sp g
theorem xD.pack {w:World}{Sd Sl Sp:Nat->Prop}{pg lg d fb:Nat}{σ:Dk}{l:Lg}{p:Pg}{op:Value}(h:xD w Sd Sl Sp pg lg d fb σ l p op):jh w (Three Sd Sl Sp) pg d σ l p op:=⟨Sd,Sl,Sp,lg,fb,h,fun _=>Og⟩
theorem mR (pg d:Nat)(σ:Dk)(l:Lg)(p:Pg)(op:Value)(S S1:Nat->Prop)(q:Int)(w0 w:World)(h:jh w S1 pg d σ l p op)(hs:Step S S1 w0 w)(hq:q≠0):
  Calls Tryz.prog 88 #[.pointer (some ⟨pg,0,none⟩),.int .i64 q] w fun e w'=>e= .returned (.int .i64 10)/\∃S',jh w' S' pg d σ l p.dies op/\Step S S' w0 w':=
 (M6 pg d σ l p op S1 q w h hq).mono fun _ _ ⟨h1,h2,h3⟩=>⟨h1,S1,h2,hs.trans h3⟩
theorem Pg.yX (p:Pg)(b:Nat)(r:List Nat)(σ:Dk):p.lay (b::r) σ=(if (σ.write ((p.skip+b:Nat):Int) (p.fresh.img b)).2=0 then p.lay r (σ.write ((p.skip+b:Nat):Int) (p.fresh.img b)).1 else((σ.write ((p.skip+b:Nat):Int) (p.fresh.img b)).1,10)):=rfl
theorem xD.anew {w:World}{Sd Sl Sp:Nat->Prop}{pg lg d fb:Nat}{σ:Dk}{l:Lg}{p:Pg}{op:Value}(h:xD w Sd Sl Sp pg lg d fb σ l p op):
  ∃Sp',xD ((w.setCell ⟨pg,4,none⟩ (.map (some w.heap.size))).alloc (.map #[] 0)) Sd Sl Sp' pg lg d w.heap.size σ l {p with fresh:=Im.none} op/\Step (Three Sd Sl Sp) (Three Sd Sl Sp') w ((w.setCell ⟨pg,4,none⟩ (.map (some w.heap.size))).alloc (.map #[] 0)):=by
 obtain⟨w1,hw1⟩:∃w1,w.setCell ⟨pg,4,none⟩ (.map (some w.heap.size))=w1:=⟨_,rfl⟩
 have hk:Keep (· =pg) w w1:=by rw[<-hw1];exact(Keep.refl (· =pg) _).setCell (p:=⟨pg,4,none⟩) (.inr rfl) _
 have hs1:w1.heap.size=w.heap.size:=by rw[<-hw1];simp
 have hka:Keep (fun _=>False) w1 (w1.alloc (.map #[] 0)):=(Keep.refl (fun _=>False) w1).alloc _
 have hl1:=h.log.keep hk (fun g hg e=>h.dd pg h.BP (e▸hg)) (fun g hg e=>h.dl pg h.BP (e▸hg))
 have hpl:=h.sub _ h.BP
 have hdl:∀g,Sd g->g<w.heap.size:=h.log.dk.sub
 have hll:∀g,Sl g->g<w.heap.size:=h.log.lg.sub
 have ho1:w1.heap[pg]? =some (.cells #[.pointer (some ⟨d,0,none⟩),.pointer (some ⟨lg,0,none⟩),.int .i64 p.skip,.int .i64 p.ring,.map (some w.heap.size),op,.bool p.dead] 141 (0,0)):=by
  rw[<-hw1,iL _ pg 4 _ _ _ h.obj];rfl
 rw[hw1]
 refine⟨fun g=>Sp g\/g=w.heap.size,⟨hl1.keep hka (fun _ _ e=>e) (fun _ _ e=>e),⟨h.ok.frm,h.ok.skip,h.ok.ring,h.ok.fit,Im.Ok.none _⟩,fun g hg=> ?_,fun g hg e=> ?_,fun g hg e=> ?_,.inl h.BP,.inr rfl,?_,?_⟩,?_⟩
 ·have hs:w.heap.size+1=(w1.alloc (.map #[] 0)).heap.size:=by rw[aS,hs1]
  rw[<-hs]
  rcases hg with hg|hg
  ·have:=h.sub g hg;omega
  ·omega
 ·rcases hg with hg|hg
  ·exact h.dd g hg e
  ·have:=hdl g e;omega
 ·rcases hg with hg|hg
  ·exact h.dl g hg e
  ·have:=hll g e;omega
 ·exact(hka.block _ (by omega) id).trans ho1
 ·rw[<-hs1];exact kX.none w1
 ·refine⟨(hk.mono (fun _ _ e=> .inr (.inr (e▸h.BP)))).trans hka (fun _ _ e=>e.elim),fun g hg=> ?_⟩
  rcases hg with hg|hg|hg|hg
  ·exact .inl (.inl hg)
  ·exact .inl (.inr (.inl hg))
  ·exact .inl (.inr (.inr hg))
  ·exact .inr (kT hg.symm)
theorem SC (pg d:Nat)(σ:Dk)(l:Lg)(p:Pg)(op:Value)(S:Nat->Prop)(w:World)(h:jh w S pg d σ l p op)(hcap:σ.waits.length<=90000):
  Calls Tryz.prog 77 #[.pointer (some ⟨pg,0,none⟩)] w fun e w'=>e= .returned (.int .i64 (p.home σ l).2.2.2)/\∃S',jh w' S' pg d (p.home σ l).1 (p.home σ l).2.1 (p.home σ l).2.2.1 op/\Step S S' w w':=by
 obtain⟨Sd,Sl,Sp,lg,fb,h,hS⟩:=h
 obtain⟨c0,c1,c2,_,c4,_,_,hlt,_⟩:=h.cells
 have HY:=ah (Sv lg d σ l Sd Sl w h.log (by omega))
 obtain⟨σ1,l1,q,HQ⟩:∃σ1 l1 q,Hid (l.sync σ=(σ1,l1,q)):=⟨_,_,_,ah rfl⟩
 rw[HQ.out] at HY
 have HN1:=ah (show σ1.n=σ.n by have:=Lg.nU σ l;rw[HQ.out] at this;exact this)
 have HS1:=ah (show l1.frm=l.frm/\l1.n=l.n/\l1.last=l.last by have:=Lg.D7 σ l;rw[HQ.out] at this;exact this)
 have HH:=ah h
 clear h c0 c2 c4
 go_enter Tryz.func77,Tryz.ntmps77
 go_wp2_with (first
  |(go_at_call 91;go_must (refine HY.out.mono ?_;rintro e w1 ⟨rfl,Sd1,Sl1,hA1,hT1⟩;refine Stop.of ?_)))
 refine Stop.on ?_
 have hP:=HH.out.turn hA1 hT1 (HH.out.ok.turn HN1.out HS1.out.1 HS1.out.2.1)
 have HP1:=ah hP.1;have HT1:=ah (hP.2.eqv hS (fun _=>Og):Step S (Three Sd1 Sl1 Sp) w w1)
 clear hP hA1 hT1
 by_cases hq:q=0
 ·subst hq
  obtain⟨hw1,hl1,hld⟩:=Lg.wI (show (l.sync σ).2.2=0 by rw[HQ.out])
  rw[HQ.out] at hw1 hl1
  have HW1:=ah hw1;have HL1:=ah hl1;have HLD:=ah hld;clear hw1 hl1 hld
  obtain⟨e0,_,_,_,e4,_,_,hlt1,_⟩:=HP1.out.cells
  have hfok:=HP1.out.ok.fresh
  have hn1:=HP1.out.log.dk.ok.hi
  have hbl:σ1.n - p.skip<=4096:=by omega
  have HLN:=ah (yF _ _ hfok.rise hfok.hi)
  have HSo:=ah (LC fb w1.heap.size p.fresh _ (w1.alloc (.cells #[.map (some fb)] 139)) (HP1.out.fr.block (qd _ _ _ HP1.out.fr.lt)) hfok hbl (by simp) (by simp))
  have HFO:=ah hfok;have HBL:=ah hbl;clear hfok hbl hn1
  go_wp2_with (first
   |(go_at_call 83;go_must (refine(SA fb _).mono ?_;rintro e w2 ⟨rfl,hw2⟩;subst w2))
   |(go_at_call 82;go_must (refine HSo.out.mono ?_;rintro e w3 ⟨v,rfl,hO,hb3⟩;refine Stop.of ?_)))
  refine Stop.on ?_
  have hb13:Below w1.heap.size w1 w3:=(aO w1 _).trans (hb3.mono (by simp))
  have HB13:=ah hb13
  obtain⟨vo,vc,rfl,_,_,_,_⟩:=aX.form hO.dm
  have hO':aQ w3 (Three Sd1 Sl1 Sp) w1.heap.size 3 1 (.slice vo p.fresh.ks.length vc) p.fresh.ks.length ((p.fresh.ks.map fun k:Nat=>(k:Int)).map (.int .i64)):=by
   refine(hO.lower (by simp:w1.heap.size<=_)).other (fun g hg hs=> ?_)
   exact absurd (HP1.out.pack.sub g hs) (by omega)
  have HO:=ah hO'.dm
  have HP3:=ah (HP1.out.keep (Keep.of_below hb13 fZ) (fun _ _ e=>e))
  have HT3:=ah (HT1.out.trans (Step.of_below hb13))
  clear hb13 hb3 hO hO' e0 e4 HSo
  go_wp2_with fail
  go_loopw [27] (fun i wr=>∃(k:Nat) (Sd2:Nat->Prop) (τ:Dk),k<=p.fresh.ks.length/\i= .int .i64 k/\Hid (xD wr Sd2 Sl1 Sp pg lg d fb τ l1 p op)/\Hid (Step S (Three Sd2 Sl1 Sp) w wr)/\Hid (τ.waits.length<=k)/\Hid (p.lay p.fresh.ks σ1=p.lay (p.fresh.ks.drop k) τ)/\
   Hid (aX wr (Three Sd2 Sl1 Sp) 1 (.slice vo p.fresh.ks.length vc) p.fresh.ks.length ((p.fresh.ks.map fun k:Nat=>(k:Int)).map (.int .i64)))) (fun i _=>p.fresh.ks.length - (intOf i).toNat)
  case atStart=>exact⟨0,Sd1,σ1,aT _,rfl,HP3,HT3,ah (by rw[HW1.out];exact aC _),ah rfl,HO⟩
  case round=>
   obtain⟨k,Sd2,τ,hk,rfl,HPr,HTr,HWt,HLy,HOr⟩:=hrel
   obtain⟨e0,e1,e2,_,e4,_,_,hltw,hfz⟩:=HPr.out.cells
   have hkn:k<=4096:=by have:=HLN.out;have:=HBL.out;omega
   by_cases hlt:k<p.fresh.ks.length
   ·have hltI:(k:Int)<(p.fresh.ks.length:Int):=by omega
    obtain⟨b,HB⟩:∃b,Hid (p.fresh.ks[k]=b):=⟨_,ah rfl⟩
    have hbm:b∈p.fresh.ks:=by rw[<-HB.out];exact bE hlt
    have hb1:=HFO.out.hi b hbm
    have hbw:=tq (b:Int) (by omega) (by have:=HBL.out;omega)
    obtain⟨kb,kq,rfl,hkc⟩:=aX.DU HOr.out rfl k (.int .i64 (b:Int)) (by simp[bG hlt,HB.out])
    obtain⟨D,hD,hh,hat⟩:=HPr.out.fr.look b
    have hz:(zeroValue 143).run Tryz.prog wr= .ok (.agg (aI zB).toArray) wr:=kF wr
    obtain⟨v1,ps1,hrun,hv1⟩:=hD.lookup jk fC hz wK (nR b hbw)
    obtain⟨x,hx,rfl,hdx⟩:=uU hv1
    have hxe:x=p.fresh.img b:=by
     have h1:=(hat hbm).symm.trans hdx
     injection h1 with h1
     injection h1 with h1
     exact h1.symm
    have HXE:=ah hxe;have HX:=ah hx
    clear hv1 hdx hat hh hD hxe hx
    have hr1:Row (wr.alloc (.cells (aI zB).toArray 143)) wr.heap.size 143 (aI zB):=Row.new wr _ _
    have hz1:=ah (show (aI zB).length=512 by rw[bL,iM])
    have hb5:=ah (show (aI x).length=512 by rw[bL,HX.out])
    have hone:=gZ x
    have hll:p.fresh.ks.length<=4096:=by have:=HLN.out;have:=HBL.out;omega
    go_wp2_with (first
     |((refine dU rfl ?_);intro K hK;(refine iZ 143 rfl _ kF ?_);refine hK _ _ ?_)
     |((refine dU rfl ?_);intro K hK;(refine wp_store_row 143 _ _ rfl wr.heap.size 0 143 _ (aI x) rfl rfl hr1 (kH.trans (congrArg some hb5.out.symm)) (by rw[hz1.out,hb5.out];omega) hone ?_);intro w4 hr4 hk4;refine hK _ _ (Stop.of ?_)))
    refine Stop.on ?_
    rw[lI _ _ (hz1.out.trans hb5.out.symm)] at hr4
    have hb4:Below wr.heap.size wr w4:=(((Keep.refl (fun _=>False) wr).alloc _).trans (hk4.mono (M':=fun g=>g=wr.heap.size) (fun _ _ e=>e)) (fun i hi e=>by omega)).below
    have hP4:=HPr.out.keep (Keep.of_below hb4 fZ) (fun _ _ e=>e)
    have hx4:aX w4 Sd2 1 (.slice (some ⟨wr.heap.size,0,none⟩) 512 512) x.length (aI x):=by
     have:=hr4.dm (S:=Sd2) (k:=1) (off:=0) 512 512 (by rw[hb5.out];omega) (fun hs=>absurd (HPr.out.log.dk.sub _ hs) (dB _)) (aC _) (by simp[maxLen])
     rw[dP,aJ (by rw[hb5.out];omega)] at this
     rw[HX.out];exact this
    have hbd:=(aR w4.heap.size w4).drew
    have hτn:=HPr.out.log.dk.ok.hi
    have HP4:=ah hP4
    have HW4:=ah (FP d τ Sd2 ((p.skip+b:Nat):Int) (.slice (some ⟨wr.heap.size,0,none⟩) 512 512) x w4.drew (hP4.log.dk.below hbd) (hx4.below hbd) (by have:=HWt.out;omega))
    have HT4:=ah (HTr.out.trans (Step.of_below hb4))
    have HO4:=ah (HOr.out.below hb4)
    have hsk:p.skip+b<=1000000:=by have:=HBL.out;have:=HPr.out.ok.fit;have:=HPr.out.ok.skip;omega
    have a1:IntKind.i64.wrap ((p.skip:Int)+(b:Int))=((p.skip+b:Nat):Int):=by rw[aG _ (by omega)];omega
    obtain⟨z,HZ⟩:∃z:Nat,Hid (p.skip+b=z):=⟨_,ah rfl⟩
    rw[HZ.out] at HW4 a1
    obtain⟨f0,_,f2,_,_,_,_,hlt4,_⟩:=hP4.cells
    clear hP4 hx4 hr4 hk4 hr1 hone hz hrun e0 e2 e4 hfz
    go_wp2_with fail
    refine aP (fun W=>W.cell? ⟨pg,0,none⟩=some (.pointer (some ⟨d,0,none⟩))/\W.cell? ⟨pg,2,none⟩=some (.int .i64 p.skip)/\pg<W.heap.size) (fun i=> !([11].contains i)) [0,1,2,3,4,5,6,7,8,9,10,11,12] rfl (by kernel_rfl) ⟨f0,f2,hlt4⟩ ?_
    repeat ((refine bP (v:= ?_) rfl rfl (fun _ _ _ h=>h) rfl (fun W hW=> ?_) ?_);rotate_left;(focus ((try dsimp only at hW);have r0:=hW.1;have r1:=hW.2.1;have r2:=hW.2.2;(go_simp;first|done|with_reducible rfl)));(try simp only[Act.put,ai,ax,au]))
    refine dK rfl rfl rfl ?_;intro K hK;go_simp
    obtain⟨τ5,q,HQ5⟩:∃τ5 q,Hid (τ.write ((z:Nat):Int) x=(τ5,q)):=⟨_,_,ah rfl⟩
    rw[HQ5.out] at HW4
    refine HW4.out.mono ?_;rintro e w5 ⟨rfl,Sd5,hD5,hs5⟩
    have HN5:=ah (show τ5.n=τ.n by have:=τ.qA ((z:Nat):Int) x;rw[HQ5.out] at this;exact this)
    have HWt5:=ah (show τ5.waits.length<=k+1 by have:=τ.Ah ((z:Nat):Int) x;rw[HQ5.out] at this;have h2:=HWt.out;have:τ5.waits.length<=τ.waits.length+1:=this;omega)
    have hA5:=HP4.out.log.disk hD5 ((Step.of_below hbd).trans hs5) HN5.out
    have hP5:=HP4.out.turn hA5.1 hA5.2 (HP4.out.ok.turn HN5.out rfl rfl)
    have HP5:=ah hP5.1;have HT5:=ah (HT4.out.trans (hP5.2:Step (Three Sd2 Sl1 Sp) (Three Sd5 Sl1 Sp) w4 w5))
    have HO5:=ah (HO4.out.step (hP5.2:Step (Three Sd2 Sl1 Sp) (Three Sd5 Sl1 Sp) w4 w5))
    obtain⟨j0,_,j2,_,_,_,_,hlt5,_⟩:=hP5.1.cells
    clear hA5 hP5 hD5 hs5 hbd f0 f2 hlt4
    refine hK.out _ _ ⟨j0,j2,hlt5⟩ ?_
    repeat ((refine bP (v:= ?_) rfl rfl (fun _ _ _ h=>h) rfl (fun W hW=> ?_) ?_);rotate_left;(focus ((try dsimp only at hW);have r0:=hW.1;have r1:=hW.2.1;have r2:=hW.2.2;(go_simp;first|done|with_reducible rfl)));(try simp only[Act.put,ai,ax,au]))
    refine bS ?_
    have hly:p.lay (p.fresh.ks.drop k) τ=if q=0 then p.lay (p.fresh.ks.drop (k+1)) τ5 else(τ5,10):=by
     rw[dA hlt,HB.out,p.yX,HZ.out,<-HXE.out,HQ5.out]
    by_cases hq:q=0
    ·subst hq
     rw[if_pos rfl] at hly
     have HLy5:=ah (HLy.out.trans hly)
     clear hly
     go_wp2_with fail
     go_roundw
     case rel=>exact⟨k+1,Sd5,τ5,by omega,by go_num,HP5,HT5,HWt5,HLy5,HO5⟩
     case measure=>simp[intOf];omega
    ·rw[if_neg hq] at hly
     have hq':(q !=0)=true:=by simpa using hq
     have HM:=ah (show p.home σ l=(τ5,l1,p.dies,10) by
      unfold Pg.home
      rw[HQ.out]
      dsimp only
      rw[HLy.out,hly]
      simp)
     have HFB:=ah (mR pg d τ5 l1 p op S _ q w w5 HP5.out.pack HT5.out hq)
     clear hly
     go_wp2_with (first
      |(go_at_call 88;go_must (refine HFB.out.mono ?_;rintro e w10 ⟨rfl,S10,hP10,hs10⟩)))
     go_ret
     rw[HM.out]
     exact⟨rfl,S10,hP10,hs10⟩
   ·obtain rfl:k=p.fresh.ks.length:=by omega
    rw[kM] at HLy
    have HLZ:=ah (show p.lay p.fresh.ks σ1=(τ,0) from HLy.out)
    have HF:=ah (FQ d τ Sd2 wr HPr.out.log.dk (by have:=HWt.out;omega))
    obtain⟨ρ,q,HR⟩:∃ρ q,Hid (τ.sync=(ρ,q)):=⟨_,_,ah rfl⟩
    rw[HR.out] at HF
    have HRN:=ah (show ρ.n=τ.n by have:=τ.nU;rw[HR.out] at this;exact this)
    have HRW:=ah (show ρ.waits.length<=τ.waits.length by have:=τ.BH;rw[HR.out] at this;exact this)
    clear HO HOr
    go_wp2_with (first
     |(go_at_call 16;go_must (refine HF.out.mono ?_;rintro e w6 ⟨rfl,hD6,hs6⟩;refine Stop.of ?_)))
    refine Stop.on ?_
    have hA6:=HPr.out.log.disk hD6 hs6 HRN.out
    have hP6:=HPr.out.turn hA6.1 hA6.2 (HPr.out.ok.turn HRN.out rfl rfl)
    have HP6:=ah hP6.1;have HT6:=ah (HTr.out.trans (hP6.2:Step (Three Sd2 Sl1 Sp) (Three Sd2 Sl1 Sp) wr w6))
    clear hA6 hP6 hD6 hs6 e0 e1 e2 e4 hfz hltw
    by_cases hq:q=0
    ·subst hq
     obtain⟨f0,f1,_,_,_,_,_,hlt6,_⟩:=HP6.out.cells
     have HLa:=ah (La lg d l1 Sl1 w6.drew (HP6.out.log.lg.keep (Keep.of_below ((aR _ w6).drew) fZ) (fun _ _ e=>e)))
     have hTm:=Uw lg d ρ l1 Sd2 Sl1 w6.drew (HP6.out.log.below ((aR _ w6).drew)) (by rw[HL1.out];exact HLD.out) (by rw[HL1.out];rfl) (by have:=HRW.out;have:=HWt.out;omega)
     obtain⟨u,HU⟩:∃u,Hid (l1.last=u):=⟨_,ah rfl⟩
     rw[HU.out] at HLa hTm
     obtain⟨φ,m,r,HX⟩:∃φ m r,Hid (l1.trim ρ u=(φ,m,r)):=⟨_,_,_,ah rfl⟩
     have HXN:=ah (show φ.n=ρ.n by have:=Lg.OT ρ l1 u;rw[HX.out] at this;exact this)
     have HXS:=ah (show m.frm=l1.frm/\m.n=l1.n by have:=Lg.MH ρ l1 u;rw[HX.out] at this;exact this)
     rw[HX.out] at hTm
     have HTm:=ah hTm;clear hTm
     go_wp2_with fail
     refine aP (fun W=>W.cell? ⟨pg,1,none⟩=some (.pointer (some ⟨lg,0,none⟩))/\pg<W.heap.size) (fun i=> !([8,9].contains i)) [0,1,2,3,4,5,6,7,8,9,10] rfl (by kernel_rfl) ⟨f1,hlt6⟩ ?_
     repeat ((refine bP (v:= ?_) rfl rfl (fun _ _ _ h=>h) rfl (fun W hW=> ?_) ?_);rotate_left;(focus ((try dsimp only at hW);have r1:=hW.1;have r2:=hW.2;(go_simp;first|done|with_reducible rfl)));(try simp only[Act.put,ai,ax,au]))
     refine dK rfl rfl rfl ?_;intro K hK;go_simp
     refine HLa.out.mono ?_;rintro e w8 ⟨rfl,hw8⟩;subst w8
     refine hK.out _ _ ⟨f1,hlt6⟩ ?_
     refine dK rfl rfl rfl ?_;intro K hK;go_simp
     refine HTm.out.mono ?_;rintro e w9 ⟨rfl,Sd9,Sl9,hA9,hT9⟩
     have hP9:=HP6.out.turn hA9 ((Two.of_below ((aR _ w6).drew)).trans hT9) (HP6.out.ok.turn HXN.out HXS.out.1 HXS.out.2)
     have HP9:=ah hP9.1;have HT9:=ah (HT6.out.trans (hP9.2:Step (Three Sd2 Sl1 Sp) (Three Sd9 Sl9 Sp) w6 w9))
     obtain⟨j0,j1,j2,j3,j4,j5,j6,hlt9,hfz9⟩:=hP9.1.cells
     have hf4:=hfz9 4
     clear hP9 hA9 hT9 f0 f1 hlt6
     refine hK.out _ _ ⟨j1,hlt9⟩ ?_
     repeat ((refine bP (v:= ?_) rfl rfl (fun _ _ _ h=>h) rfl (fun W hW=> ?_) ?_);rotate_left;(focus ((try dsimp only at hW);have r1:=hW.1;have r2:=hW.2;(go_simp;first|done|with_reducible rfl)));(try simp only[Act.put,ai,ax,au]))
     refine bS ?_
     by_cases hr:r=0
     ·subst hr
      have HM:=ah (show p.home σ l=(φ,m,{p with fresh:=Im.none},0) by
       unfold Pg.home
       rw[HQ.out]
       dsimp only
       rw[HLZ.out]
       dsimp only
       rw[HR.out]
       dsimp only
       rw[HU.out,HX.out]
       simp)
      have hmk:∀w:World,(Instr.makeMap 139 none).run Tryz.prog w= .ok (.map (some w.heap.size)) (w.alloc (.map #[] 0)):=fun w=>run_makeMap _ w
      go_wp2_with fail
      go_ret
      rw[HM.out]
      obtain⟨Sp',hPn,hTn⟩:=HP9.out.anew
      exact⟨rfl,_,hPn.pack,HT9.out.trans hTn⟩
     ·have hr':(r !=0)=true:=by simpa using hr
      have HM:=ah (show p.home σ l=(φ,m,p.dies,10) by
       unfold Pg.home
       rw[HQ.out]
       dsimp only
       rw[HLZ.out]
       dsimp only
       rw[HR.out]
       dsimp only
       rw[HU.out,HX.out]
       simp[hr])
      have HFB:=ah (mR pg d φ m p op S _ r w w9 HP9.out.pack HT9.out hr)
      go_wp2_with (first
       |(go_at_call 88;go_must (refine HFB.out.mono ?_;rintro e w10 ⟨rfl,S10,hP10,hs10⟩)))
      go_ret
      rw[HM.out]
      exact⟨rfl,S10,hP10,hs10⟩
    ·have hq':(q !=0)=true:=by simpa using hq
     have HM:=ah (show p.home σ l=(ρ,l1,p.dies,10) by
      unfold Pg.home
      rw[HQ.out]
      dsimp only
      rw[HLZ.out]
      dsimp only
      rw[HR.out]
      simp[hq])
     have HFB:=ah (mR pg d ρ l1 p op S _ q w w6 HP6.out.pack HT6.out hq)
     go_wp2_with (first
      |(go_at_call 88;go_must (refine HFB.out.mono ?_;rintro e w10 ⟨rfl,S10,hP10,hs10⟩)))
     go_ret
     rw[HM.out]
     exact⟨rfl,S10,hP10,hs10⟩
 ·have hq':(q !=0)=true:=by simpa using hq
  have HE:=ah (show p.home σ l=(σ1,l1,p.dies,10) by unfold Pg.home;rw[HQ.out];simp[hq])
  have HFB:=ah (mR pg d σ1 l1 p op S _ q w w1 HP1.out.pack HT1.out hq)
  go_wp2_with (first
   |(go_at_call 88;go_must (refine HFB.out.mono ?_;rintro e w2 ⟨rfl,S2,hP2,hs2⟩)))
  go_ret
  rw[HE.out]
  exact⟨rfl,S2,hP2,hs2⟩
theorem Sz (pg d:Nat)(σ:Dk)(l:Lg)(p:Pg)(op:Value)(S:Nat->Prop)(w:World)(h:jh w S pg d σ l p op)(hcap:σ.waits.length<=90000):
  Calls Tryz.prog 44 #[.pointer (some ⟨pg,0,none⟩)] w fun e w'=>e= .returned (.int .i64 (p.sync σ l).2.2.2)/\∃S',jh w' S' pg d (p.sync σ l).1 (p.sync σ l).2.1 (p.sync σ l).2.2.1 op/\Step S S' w w':=by
 have HPk:=ah h
 obtain⟨Sd,Sl,Sp,lg,fb,h,hS⟩:=h
 obtain⟨c0,c1,c2,_,c4,_,c6,hlt,_⟩:=h.cells
 have HH:=ah h
 clear h c2 c4
 cases hd:p.dead with
 |true=>
  rw[hd] at c6
  have HM:=ah (show p.sync σ l=(σ,l,p,10) by unfold Pg.sync;simp[hd])
  go_enter Tryz.func44,Tryz.ntmps44
  go_wp2_with fail
  go_ret
  rw[HM.out]
  exact⟨rfl,S,HPk.out,Step.refl _ _⟩
 |false=>
  rw[hd] at c6
  have hbd:=(aR w.heap.size w).drew
  have hsy:=Ra lg d l Sl w.drew (HH.out.log.lg.keep (Keep.of_below hbd fZ) (fun _ _ e=>e))
  have HL:=ah (La lg d l Sl w.drew (HH.out.log.lg.keep (Keep.of_below hbd fZ) (fun _ _ e=>e)))
  have HDd:=ah (U3 d σ Sd w.drew (HH.out.log.dk.below hbd))
  have HP0:=ah (HH.out.keep (Keep.of_below hbd fZ) (fun _ _ e=>e))
  have HT0:=ah (show Step S (Three Sd Sl Sp) w w.drew from(Step.of_below hbd).eqv (fun _=>Og) (fun g=>(hS g).symm))
  have HY:=ah (Sv lg d σ l Sd Sl w.drew (HH.out.log.below hbd) (by omega))
  obtain⟨σ1,l1,q,HQ⟩:∃σ1 l1 q,Hid (l.sync σ=(σ1,l1,q)):=⟨_,_,_,ah rfl⟩
  rw[HQ.out] at HY
  have HN1:=ah (show σ1.n=σ.n by have:=Lg.nU σ l;rw[HQ.out] at this;exact this)
  have HS1:=ah (show l1.frm=l.frm/\l1.n=l.n/\l1.last=l.last by have:=Lg.D7 σ l;rw[HQ.out] at this;exact this)
  by_cases he:l.synced=l.last
  ·rw[he] at hsy
   have HSy:=ah hsy;clear hsy
   have heq:((l.last:Int)==(l.last:Int))=true:=by simp
   go_enter Tryz.func44,Tryz.ntmps44
   go_wp2_with fail
   refine aP (fun W=>W=w.drew) (fun i=> !([4,9,16].contains i)) [0,1,2,3,5,6,7,8,4,9,10,11,12,13,14,15,16,17,18,19] rfl (by kernel_rfl) rfl ?_
   repeat ((refine bP (v:= ?_) rfl rfl (fun _ _ _ h=>h) rfl (fun W hW=> ?_) ?_);rotate_left;(focus ((try dsimp only at hW);subst hW;(go_simp;first|done|with_reducible rfl)));(try simp only[Act.put,ai,ax,au]))
   refine dK rfl rfl rfl ?_;intro K hK;go_simp
   refine HSy.out.mono ?_;rintro e w1 ⟨rfl,hw1⟩;subst w1
   refine hK.out _ _ rfl ?_
   refine dK rfl rfl rfl ?_;intro K hK;go_simp
   refine HL.out.mono ?_;rintro e w1 ⟨rfl,hw1⟩;subst w1
   refine hK.out _ _ rfl ?_
   repeat ((refine bP (v:= ?_) rfl rfl (fun _ _ _ h=>h) rfl (fun W hW=> ?_) ?_);rotate_left;(focus ((try dsimp only at hW);subst hW;(go_simp;first|done|with_reducible rfl)));(try simp only[Act.put,ai,ax,au]))
   refine dK rfl rfl rfl ?_;intro K hK;go_simp
   refine HDd.out.mono ?_;rintro e w1 ⟨rfl,hw1⟩;subst w1
   refine hK.out _ _ rfl ?_
   repeat ((refine bP (v:= ?_) rfl rfl (fun _ _ _ h=>h) rfl (fun W hW=> ?_) ?_);rotate_left;(focus ((try dsimp only at hW);subst hW;(go_simp;first|done|with_reducible rfl)));(try simp only[Act.put,ai,ax,au]))
   refine bS ?_
   cases hsd:σ.dead with
   |false=>
    have HM:=ah (show p.sync σ l=(σ,l,p,0) by unfold Pg.sync;simp[hd,he,hsd])
    go_wp2_with fail
    go_ret
    rw[HM.out]
    exact⟨rfl,_,HP0.out.pack,HT0.out⟩
   |true=>
    have HC:=ah (show ¬(l.synced=l.last/\σ.dead=false) from fun h=>by rw[hsd] at h;cases h.2)
    go_wp2_with (first
     |(go_at_call 91;go_must (refine HY.out.mono ?_;rintro e w2 ⟨rfl,Sd1,Sl1,hA1,hT1⟩;refine Stop.of ?_)))
    refine Stop.on ?_
    have hP1:=HP0.out.turn hA1 hT1 (HP0.out.ok.turn HN1.out HS1.out.1 HS1.out.2.1)
    have HP1:=ah hP1.1;have HT1:=ah (HT0.out.trans (hP1.2:Step (Three Sd Sl Sp) (Three Sd1 Sl1 Sp) w.drew w2))
    clear hP1 hA1 hT1
    by_cases hq:q=0
    ·subst hq
     have HM:=ah (show p.sync σ l=(σ1,l1,p,0) by unfold Pg.sync;rw[HQ.out];simp[hd,HC.out])
     go_wp2_with (first
      |(go_at_call 88;go_must (refine(He pg _).mono ?_;rintro e w3 ⟨rfl,hw3⟩;subst w3)))
     go_ret
     rw[HM.out]
     exact⟨rfl,_,HP1.out.pack,HT1.out⟩
    ·have HM:=ah (show p.sync σ l=(σ1,l1,p.dies,10) by unfold Pg.sync;rw[HQ.out];simp[hd,HC.out,hq])
     have HFB:=ah (mR pg d σ1 l1 p op S _ q w w2 HP1.out.pack HT1.out hq)
     go_wp2_with (first
      |(go_at_call 88;go_must (refine HFB.out.mono ?_;rintro e w3 ⟨rfl,S3,hP3,hs3⟩)))
     go_ret
     rw[HM.out]
     exact⟨rfl,S3,hP3,hs3⟩
  ·have HSy:=ah hsy;clear hsy
   have heI:¬((l.synced:Int)=(l.last:Int)):=by omega
   have heq:((l.synced:Int)==(l.last:Int))=false:=by simpa using heI
   have HC:=ah (show ¬(l.synced=l.last/\σ.dead=false) from fun h=>he h.1)
   go_enter Tryz.func44,Tryz.ntmps44
   go_wp2_with fail
   refine aP (fun W=>W=w.drew) (fun i=> !([4,9].contains i)) [0,1,2,3,5,6,7,8,4,9,10,11,12,13,14,15,16,17,18,19] rfl (by kernel_rfl) rfl ?_
   repeat ((refine bP (v:= ?_) rfl rfl (fun _ _ _ h=>h) rfl (fun W hW=> ?_) ?_);rotate_left;(focus ((try dsimp only at hW);subst hW;(go_simp;first|done|with_reducible rfl)));(try simp only[Act.put,ai,ax,au]))
   refine dK rfl rfl rfl ?_;intro K hK;go_simp
   refine HSy.out.mono ?_;rintro e w1 ⟨rfl,hw1⟩;subst w1
   refine hK.out _ _ rfl ?_
   refine dK rfl rfl rfl ?_;intro K hK;go_simp
   refine HL.out.mono ?_;rintro e w1 ⟨rfl,hw1⟩;subst w1
   refine hK.out _ _ rfl ?_
   repeat ((refine bP (v:= ?_) rfl rfl (fun _ _ _ h=>h) rfl (fun W hW=> ?_) ?_);rotate_left;(focus ((try dsimp only at hW);subst hW;(go_simp;first|done|with_reducible rfl)));(try simp only[Act.put,ai,ax,au]))
   repeat (refine PD rfl rfl (fun _ _ _ h=>h) rfl ?_)
   repeat ((refine bP (v:= ?_) rfl rfl (fun _ _ _ h=>h) rfl (fun W hW=> ?_) ?_);rotate_left;(focus ((try dsimp only at hW);subst hW;(go_simp;first|done|with_reducible rfl)));(try simp only[Act.put,ai,ax,au]))
   refine bS ?_
   go_wp2_with (first
    |(go_at_call 91;go_must (refine HY.out.mono ?_;rintro e w2 ⟨rfl,Sd1,Sl1,hA1,hT1⟩;refine Stop.of ?_)))
   refine Stop.on ?_
   have hP1:=HP0.out.turn hA1 hT1 (HP0.out.ok.turn HN1.out HS1.out.1 HS1.out.2.1)
   have HP1:=ah hP1.1;have HT1:=ah (HT0.out.trans (hP1.2:Step (Three Sd Sl Sp) (Three Sd1 Sl1 Sp) w.drew w2))
   clear hP1 hA1 hT1
   by_cases hq:q=0
   ·subst hq
    have HM:=ah (show p.sync σ l=(σ1,l1,p,0) by unfold Pg.sync;rw[HQ.out];simp[hd,HC.out])
    go_wp2_with (first
     |(go_at_call 88;go_must (refine(He pg _).mono ?_;rintro e w3 ⟨rfl,hw3⟩;subst w3)))
    go_ret
    rw[HM.out]
    exact⟨rfl,_,HP1.out.pack,HT1.out⟩
   ·have HM:=ah (show p.sync σ l=(σ1,l1,p.dies,10) by unfold Pg.sync;rw[HQ.out];simp[hd,HC.out,hq])
    have HFB:=ah (mR pg d σ1 l1 p op S _ q w w2 HP1.out.pack HT1.out hq)
    go_wp2_with (first
     |(go_at_call 88;go_must (refine HFB.out.mono ?_;rintro e w3 ⟨rfl,S3,hP3,hs3⟩)))
    go_ret
    rw[HM.out]
    exact⟨rfl,S3,hP3,hs3⟩
def strOf (l:List UInt8):ByteArray:=⟨l.toArray⟩
theorem E8 (a b:List UInt8):strOf a++strOf b=strOf (a++b):=by
 have h:(strOf a++strOf b).data=(strOf (a++b)).data:=by
  rw[ByteArray.data_append]
  simp[strOf]
 exact Q5 h
theorem aX.strOf {w:World}{S:Nat->Prop}{v:Value}{l:List UInt8}(h:aX w S 1 v l.length (aI l)):(convert 70 9 v).run Tryz.prog w= .ok (.string (strOf l)) w:=
 gy.str (S:=S) (Go.Proofs.YtogbkgmlhhahdaaGreat.strOf l) h 70 9 5 bH lF gM
theorem rE (x:Nat):IntKind.u8.wrap (x:Int)=(x:Int)%256:=by simp[IntKind.wrap,IntKind.bits,IntKind.signed]
theorem Nn (b:Nat):[Value.int .u8 (IntKind.u8.wrap (b:Int)),.int .u8 (IntKind.u8.wrap ((b:Int)/256)),.int .u8 (IntKind.u8.wrap ((b:Int)/65536)),.int .u8 (IntKind.u8.wrap ((b:Int)/16777216))]=aI (leB b 4):=by
 have e1:(b:Int)/256=((b/256:Nat):Int):=by omega
 have e2:(b:Int)/65536=((b/256/256:Nat):Int):=by omega
 have e3:(b:Int)/16777216=((b/256/256/256:Nat):Int):=by omega
 rw[e1,e2,e3,rE,rE,rE,rE]
 simp[leB,aI,Ae]
theorem RF (b:Nat)(x:List UInt8)(w:World)(_hb:b<=1000000)(hx:x.length=512):
  Calls Tryz.prog 84 #[.int .i64 b,.agg (aI x).toArray] w fun e w'=>e= .returned (.string (strOf (uK b x)))/\Below w.heap.size w w':=by
 have hb5:=ah (show (aI x).length=512 by rw[bL,hx])
 go_enter Tryz.func84,Tryz.ntmps84
 go_wp2_with (first
  |((refine dU rfl ?_);intro K hK;(refine Br 143 _ rfl (aI x) rfl ?_);refine hK _ _ (Stop.of ?_)))
 refine Stop.on ?_
 obtain⟨w2,HW2⟩:∃w2:World,Hid (w.alloc (.cells (aI x).toArray 143)=w2):=⟨_,ah rfl⟩
 have hr2:Row w2 w.heap.size 143 (aI x):=by rw[<-HW2.out];exact Row.new w _ _
 have hb2:Below w.heap.size w w2:=by rw[<-HW2.out];exact((Keep.refl (fun _=>False) w).alloc _).below
 rw[HW2.out]
 have hsl:aX w2 fZ 1 (.slice (some ⟨w.heap.size,0,none⟩) 512 512) x.length (aI x):=by
  have:=hr2.dm (S:=fZ) (k:=1) (off:=0) 512 512 (by rw[hb5.out];omega) id (aC _) (by simp[maxLen])
  rw[dP,aJ (by rw[hb5.out];omega)] at this
  rw[hx];exact this
 have HC:=ah (fun (W:World) (hW:Below w2.heap.size w2 W)=>(hsl.below hW).strOf)
 go_wp2_with fail
 refine aP (fun W=>Below w2.heap.size w2 W) (fun i=> !([11,12].contains i)) [0,1,2,3,4,5,6,7,8,9,10,13,14,11,12,15,16] rfl (by kernel_rfl) ((aR _ w2).drew) ?_
 repeat ((refine bP (v:= ?_) rfl rfl (fun _ _ _ h=>h) rfl (fun W hW=> ?_) ?_);rotate_left;(focus ((try dsimp only at hW);have cv:=HC.out W hW;(go_simp;first|done|with_reducible rfl)));(try simp only[Act.put,ai,ax,au]))
 refine dK rfl rfl rfl ?_;intro K hK;go_simp
 obtain⟨w3,HW3⟩:∃w3:World,Hid ((w2.alloc (.cells #[.int .u8 (IntKind.u8.wrap (b:Int)),.int .u8 (IntKind.u8.wrap ((b:Int)/256)),.int .u8 (IntKind.u8.wrap ((b:Int)/65536)),.int .u8 (IntKind.u8.wrap ((b:Int)/16777216))] 5)).drew=w3):=⟨_,ah rfl⟩
 have hr3:Row w3 w2.heap.size 5 (aI (leB b 4)):=by rw[<-HW3.out,<-Nn];exact Row.new w2 _ _
 have hb3:Below w2.heap.size w2 w3:=by rw[<-HW3.out];exact((Keep.refl (fun _=>False) w2).alloc _).below.drew
 rw[HW3.out]
 refine hK.out _ _ hb3 ?_
 have hl4:=bW b 4
 have hsl4:aX w3 fZ 1 (.slice (some ⟨w2.heap.size,0,none⟩) 4 4) (leB b 4).length (aI (leB b 4)):=by
  have:=hr3.dm (S:=fZ) (k:=1) (off:=0) 4 4 (by rw[bL,hl4];omega) id (aC _) (by simp[maxLen])
  rw[dP,aJ (by rw[bL,hl4];omega)] at this
  rw[hl4];exact this
 have hcv3:=hsl4.strOf
 refine dK rfl rfl rfl ?_;intro K hK;go_simp
 refine hK.out _ _ hb3 ?_
 have hadd:∀W:World,(Op.stringOp .add (strOf (leB b 4)) (strOf x)).run Tryz.prog W= .ok (.string (strOf (leB b 4)++strOf x)) W:=fun W=>run_string_add W _ _ (by show ((leB b 4).toArray.size:Int)<=_;simp[bW]) (by show (x.toArray.size:Int)<=_;simp[hx])
 repeat ((refine bP (v:= ?_) rfl rfl (fun _ _ _ h=>h) rfl (fun W hW=> ?_) ?_);rotate_left;(focus ((try dsimp only at hW);have cv:=HC.out W hW;(go_simp;first|done|with_reducible rfl)));(try simp only[Act.put,ai,ax,au]))
 refine bS ?_
 go_wp2_with fail
 go_ret
 exact⟨by rw[E8];rfl,hb2.trans (hb3.mono hb2.size)⟩
theorem Im.vD (f:Nat->List UInt8)(b:Nat):∀(ks:List Nat) (m:Im),(ks.foldl (fun m b=>m.put b (f b)) m).img b=if b∈ks then f b else m.img b
 |[],m=>by simp
 |k::r,m=>by
  rw[List.foldl_cons,Im.vD f b r]
  by_cases h:b∈r
  ·simp[h]
  ·by_cases e:b=k
   ·subst e;simp[h,Im.put]
   ·simp[h,e,Im.put]
theorem Im.wR (f:Nat->List UInt8)(b:Nat):∀(ks:List Nat) (m:Im),b∈(ks.foldl (fun m b=>m.put b (f b)) m).ks↔b∈m.ks\/b∈ks
 |[],m=>by simp
 |k::r,m=>by
  rw[List.foldl_cons,Im.wR f b r]
  simp only[Im.put,lT,bM]
  constructor
  ·rintro((h|h)|h)
   ·exact .inr (.inl h)
   ·exact .inl h
   ·exact .inr (.inr h)
  ·rintro(h|h|h)
   ·exact .inl (.inr h)
   ·exact .inl (.inl h)
   ·exact .inr h
theorem Im.zW (f:Nat->List UInt8):∀(ks:List Nat) (m:Im),m.ks.Pairwise (· < ·)->(ks.foldl (fun m b=>m.put b (f b)) m).ks.Pairwise (· < ·)
 |[],_,h=>h
 |_::r,_,h=>Im.zW f r _ (wQ h)
theorem Im.ext' {a b:Im}(h1:a.ks=b.ks)(h2:∀k,a.img k=b.img k):a=b:=by
 cases a;cases b
 simp only[Im.mk.injEq]
 exact⟨h1,funext h2⟩
theorem Fj {a b:List Nat}(ha:a.Pairwise (· < ·))(hb:b.Pairwise (· < ·))(h:∀x,x∈a↔x∈b):a=b:=by
 have:=BS (a:=a.map fun k:Nat=>(k:Int)) (b:=b.map fun k:Nat=>(k:Int)) (uF.2 (ha.imp (fun h=>by omega))) (uF.2 (hb.imp (fun h=>by omega))) (fun x=>by simp[eT,h])
 exact(List.map_inj_right (fun _ _ h=>by omega)).1 this
structure Mix (m im:Im)(left:Lit->Bool)(F:Im):Prop where
 rise:F.ks.Pairwise (· < ·)
 ks:∀b:Nat,b∈F.ks↔b∈m.ks\/(b∈im.ks/\left (kI b)=false)
 img:∀b:Nat,F.img b=if b∈im.ks/\left (kI b)=false then im.img b else m.img b
theorem LW (a b:Nat):(kI (a:Int)).sameKey (kI (b:Int))=decide (a=b):=by
 by_cases e:a=b
 ·subst e;simp[WideAt.sameKey_self (zT _)]
 ·rw[bQ e]
  cases h:(kI (a:Int)).sameKey (kI (b:Int)) with
  |false=>rfl
  |true=>exact absurd (WideAt.sameKey_eq h) (P7 e)
theorem Mix.start {m im:Im}{left:Lit->Bool}(hm:m.ks.Pairwise (· < ·))(h:∀b∈im.ks,left (kI b)=true):Mix m im left m:=by
 have hf:∀b:Nat,¬(b∈im.ks/\left (kI b)=false):=fun b hb=>by rw[h b hb.1] at hb;cases hb.2
 exact⟨hm,fun b=>⟨.inl,fun e=>e.elim id (fun e=>absurd e (hf b))⟩,fun b=>by rw[if_neg (hf b)]⟩
theorem Mix.put {m im F:Im}{left:Lit->Bool}(h:Mix m im left F)(x:Nat)(hx:x∈im.ks):Mix m im (fun z=>left z && !z.sameKey (kI x)) (F.put x (im.img x)):=by
 refine⟨wQ h.rise,fun b=> ?_,fun b=> ?_⟩
 ·simp only[Im.put,lT,h.ks,LW]
  by_cases e:b=x
  ·subst e;simp[hx]
  ·simp[e]
 ·simp only[Im.put,LW]
  by_cases e:b=x
  ·subst e;simp[hx]
  ·simp[e,h.img]
theorem Mix.done {m im F:Im}{left:Lit->Bool}(h:Mix m im left F)(hm:m.ks.Pairwise (· < ·))(hl:∀kl,left kl=false):F=m.over im:=by
 refine Im.ext' (Fj h.rise (Im.zW _ _ _ hm) fun b=> ?_) fun b=> ?_
 ·rw[h.ks]
  unfold Im.over
  rw[Im.wR]
  simp[hl]
 ·rw[h.img]
  unfold Im.over
  rw[Im.vD]
  simp[hl]
theorem OV (t pg d:Nat)(σ:Dk)(l:Lg)(p:Pg)(op:Value)(im:Im)(n:Nat)(S T:Nat->Prop)(u:FrameMode)(w:World)(h:jh w S pg d σ l p op)(ht:rz w T t pg im n)(hdis:∀g,S g->¬T g):
  CallsD Tryz.prog 56 #[.pointer (some ⟨t,0,none⟩)] u w fun e u' w'=>u'=u/\e= .returned (.tuple #[])/\jh w' S pg d σ l p (.pointer none)/\(∃db,w'.heap[t]? =some (.cells #[.pointer none,.map (some db)] 147 (0,0)))/\Keep (fun g=>S g\/T g) w w':=by
 have hspg:=h.BP
 obtain⟨Sd,Sl,Sp,lg,fb,h,hS⟩:=h
 obtain⟨db,ht⟩:=ht
 obtain⟨_,_,_,_,_,c5,c6,hlt,hfz⟩:=h.cells
 have hf:=hfz 5
 have hto:=ht.obj
 have t0:w.cell? ⟨t,0,none⟩=some (.pointer (some ⟨pg,0,none⟩)):=by simp[World.cell?,hto]
 have tf0:w.frozen? ⟨t,0,none⟩=false:=by simp[World.frozen?,hto]
 have htl:=ht.sub _ ht.st
 have hpt:pg≠t:=fun e=>hdis pg hspg (e▸ht.st)
 have htp:¬t=pg:=fun e=>hpt e.symm
 have HH:=ah h;have HT:=ah ht
 clear h ht
 go_enter_d Tryz.func56,Tryz.ntmps56
 go_wp2_with fail
 go_end0
 obtain⟨w2,HW2⟩:∃w2:World,Hid ((w.setCell ⟨pg,5,none⟩ (.pointer none)).setCell ⟨t,0,none⟩ (.pointer none)=w2):=⟨_,ah rfl⟩
 obtain⟨w1,HW1⟩:∃w1:World,Hid (w.setCell ⟨pg,5,none⟩ (.pointer none)=w1):=⟨_,ah rfl⟩
 have hk1:Keep (· =pg) w w1:=by rw[<-HW1.out];exact(Keep.refl (· =pg) _).setCell (p:=⟨pg,5,none⟩) (.inr rfl) _
 have hP1:xD w1 Sd Sl Sp pg lg d fb σ l p (.pointer none):=HH.out.self hk1 HH.out.ok rfl (by rw[<-HW1.out,iL _ pg 5 _ _ _ HH.out.obj];rfl)
 rw[HW1.out] at HW2
 have hk2:Keep (· =t) w1 w2:=by rw[<-HW2.out];exact(Keep.refl (· =t) _).setCell (p:=⟨t,0,none⟩) (.inr rfl) _
 have hto1:=(hk1.block t htl htp).trans hto
 have hP2:=hP1.keep hk2 (fun g hg e=>hdis g ((hS g).2 hg) (e▸HT.out.st))
 rw[HW1.out,HW2.out]
 refine⟨rfl,⟨Sd,Sl,Sp,lg,fb,hP2,hS⟩,⟨db,?_⟩,(hk1.mono (fun _ _ e=> .inl (e▸hspg))).trans hk2 (fun _ _ e=> .inr (e▸HT.out.st))⟩
 rw[<-HW2.out,iL _ t 0 _ _ _ hto1]
 rfl
end Go.Proofs.YtogbkgmlhhahdaaGreat
