/- parts -/
import Derived.Test.YtpgdljlghiifjaaGreatDoorM1
import Derived.Test.YtpgdljlghiifjaaGreatDoorM3
import Derived.Test.YtpgdljlghiifjaaGreatDoorM6
import Derived.Test.YtpgdljlghiifjaaGreatDoorM10
import Derived.Maps.OwnSet
import Derived.Shelf.Sort.Plain
import Derived.Shelf.Slices.In.SortNone
import Derived.Shelf.SlIterI.Sorted
import Derived.Shelf.SlIterI.Keys
import Derived.Lib.Overlaps
set_option maxRecDepth 100000
set_option maxHeartbeats 8000000
set_option linter.all false
namespace Go.Proofs.YtpgdljlghiifjaaGreatDoor
open Go.RowKit
structure Im where
 ks:List Nat
 img:Nat->List UInt8
def zh (b:Nat):List Nat->List Nat
 |[]=>[b]
 |k::r=>if b<k then b::k::r else if b=k then k::r else k::zh b r
theorem mF {b x:Nat}:∀{l:List Nat},x∈zh b l↔x=b\/x∈l
 |[]=>by simp[zh]
 |k::r=>by
  unfold zh
  split
  ·simp
  ·split
   ·rename_i h;subst h;simp
   ·rw[bX,mF (l:=r),bX]
    constructor
    ·rintro(h|h|h)
     ·exact .inr (.inl h)
     ·exact .inl h
     ·exact .inr (.inr h)
    ·rintro(h|h|h)
     ·exact .inr (.inl h)
     ·exact .inl h
     ·exact .inr (.inr h)
theorem vP {b:Nat}:∀{l:List Nat},l.Pairwise (· < ·)->(zh b l).Pairwise (· < ·)
 |[],_=>by simp[zh]
 |k::r,h=>by
  obtain⟨h1,h2⟩:=fw.1 h
  unfold zh
  split
  ·rename_i hb
   refine fw.2 ⟨fun x hx=> ?_,h⟩
   rcases bX.1 hx with rfl|hx
   ·exact hb
   ·exact mV hb (h1 x hx)
  ·split
   ·exact h
   ·refine fw.2 ⟨fun x hx=> ?_,vP h2⟩
    rcases mF.1 hx with rfl|hx
    ·omega
    ·exact h1 x hx
def Im.none:Im:=⟨[],fun _=>[]⟩
def Im.put (m:Im)(b:Nat)(x:List UInt8):Im:=⟨zh b m.ks,fun k=>if k=b then x else m.img k⟩
def Im.find (m:Im)(b:Nat):Option (List UInt8):=if b∈m.ks then some (m.img b) else Option.none
theorem Im.BJ (m:Im)(b c:Nat)(x:List UInt8):(m.put b x).find c=if c=b then some x else m.find c:=by
 unfold Im.find Im.put
 simp only[mF]
 by_cases h:c=b
 ·subst h;simp
 ·simp[h]
structure Pg where
 skip:Nat
 ring:Nat
 fresh:Im
 dead:Bool
def Pg.blocks (p:Pg)(d:Dk):Nat:=d.n - p.skip
def Pg.look (p:Pg)(dirty:Im)(d:Dk)(b:Nat):List UInt8:=(dirty.find b).getD ((p.fresh.find b).getD (d.get (p.skip+b)))
def Pg.lay (p:Pg):List Nat->Dk->Dk×Int
 |[],d=>(d,0)
 |b::r,d=>
  if (d.write ((p.skip+b:Nat):Int) (p.fresh.img b)).2=0 then p.lay r (d.write ((p.skip+b:Nat):Int) (p.fresh.img b)).1
  else((d.write ((p.skip+b:Nat):Int) (p.fresh.img b)).1,10)
def Pg.dies (p:Pg):Pg:={p with dead:=true}
def Pg.home (d:Dk)(l:Lg)(p:Pg):Dk×Lg×Pg×Int:=
 if (l.sync d).2.2=0 then
  if (p.lay p.fresh.ks (l.sync d).1).2=0 then
   if (p.lay p.fresh.ks (l.sync d).1).1.sync.2=0 then
    if ((l.sync d).2.1.trim (p.lay p.fresh.ks (l.sync d).1).1.sync.1 (l.sync d).2.1.last).2.2=0 then
     (((l.sync d).2.1.trim (p.lay p.fresh.ks (l.sync d).1).1.sync.1 (l.sync d).2.1.last).1,((l.sync d).2.1.trim (p.lay p.fresh.ks (l.sync d).1).1.sync.1 (l.sync d).2.1.last).2.1,{p with fresh:=Im.none},0)
    else(((l.sync d).2.1.trim (p.lay p.fresh.ks (l.sync d).1).1.sync.1 (l.sync d).2.1.last).1,((l.sync d).2.1.trim (p.lay p.fresh.ks (l.sync d).1).1.sync.1 (l.sync d).2.1.last).2.1,p.dies,10)
   else((p.lay p.fresh.ks (l.sync d).1).1.sync.1,(l.sync d).2.1,p.dies,10)
  else((p.lay p.fresh.ks (l.sync d).1).1,(l.sync d).2.1,p.dies,10)
 else((l.sync d).1,(l.sync d).2.1,p.dies,10)
def FZ (b:Nat)(x:List UInt8):List UInt8:=leB b 4++x
def Im.eu (m:Im):List (List UInt8):=m.ks.map fun b=>FZ b (m.img b)
def Im.over (m dirty:Im):Im:=dirty.ks.foldl (fun m b=>m.put b (dirty.img b)) m
def Pg.ready (d:Dk)(l:Lg)(p:Pg)(need:Nat):Dk×Lg×Pg×Int:=if l.room<need then p.home d l else(d,l,p,0)
def Pg.commit (d:Dk)(l:Lg)(p:Pg)(dirty:Im):Dk×Lg×Pg×Nat×Int:=
 if p.dead then(d,l,p,0,10) else
 if dirty.ks=[] then(d,l,p,l.last,0) else
 if p.ring<fq dirty.eu\/1024<dirty.ks.length then(d,l,p,0,13) else
 if (p.ready d l (fq dirty.eu)).2.2.2=0 then
  if ((p.ready d l (fq dirty.eu)).2.1.append (p.ready d l (fq dirty.eu)).1 dirty.eu).2.2.2=0 then
   (((p.ready d l (fq dirty.eu)).2.1.append (p.ready d l (fq dirty.eu)).1 dirty.eu).1,((p.ready d l (fq dirty.eu)).2.1.append (p.ready d l (fq dirty.eu)).1 dirty.eu).2.1,
    {(p.ready d l (fq dirty.eu)).2.2.1 with fresh:=(p.ready d l (fq dirty.eu)).2.2.1.fresh.over dirty},((p.ready d l (fq dirty.eu)).2.1.append (p.ready d l (fq dirty.eu)).1 dirty.eu).2.2.1,0)
  else(((p.ready d l (fq dirty.eu)).2.1.append (p.ready d l (fq dirty.eu)).1 dirty.eu).1,((p.ready d l (fq dirty.eu)).2.1.append (p.ready d l (fq dirty.eu)).1 dirty.eu).2.1,(p.ready d l (fq dirty.eu)).2.2.1.dies,0,10)
 else((p.ready d l (fq dirty.eu)).1,(p.ready d l (fq dirty.eu)).2.1,(p.ready d l (fq dirty.eu)).2.2.1,0,(p.ready d l (fq dirty.eu)).2.2.2)
def Pg.sync (d:Dk)(l:Lg)(p:Pg):Dk×Lg×Pg×Int:=
 if p.dead then(d,l,p,10) else
 if l.synced=l.last/\d.dead=false then(d,l,p,0) else
 if (l.sync d).2.2=0 then((l.sync d).1,(l.sync d).2.1,p,0) else((l.sync d).1,(l.sync d).2.1,p.dies,10)
abbrev kI (b:Int):Lit:= .int .i64 b
theorem tight {k:TypeId}{R:Value->Option (DataW Unit×List MemPlace)}{w:World}{b n m:Nat}{D:DataW Unit}(h:w.ownsMap Tryz.prog k R b n D)(hm:Maps.size D<=m):w.ownsMap Tryz.prog k R b m D:=by
 obtain⟨es,clock,hb,F,hs,rfl⟩:=h
 refine⟨es,clock,hb,F,?_,rfl⟩
 rw[Maps.size_eq,length_sorted] at hm
 simpa using hm
theorem jr:Maps.Keyed Tryz.prog 3:=Maps.int_keyed gQ
theorem pY (b:Int)(hb:(Lit.int .i64 b).wf=true):keyOf Tryz.prog 3 (.int .i64 b)=some (kI b):=by
 exact Maps.keyOf_int_mk gQ hb
theorem ze (b:Int):WideAt.IsKeyLit (kI b):=trivial
theorem yU (b:Int)(h0: -1000000<=b)(h1:b<=1000000):(Lit.int .i64 b).wf=true:=by
 simp only[Lit.wf,dx,bY]
 constructor
 ·exact Int.le_trans (by decide) h0
 ·exact Int.le_trans h1 (by decide)
theorem rW {P:Program}{w:World}{o:Oper}{a:Act}{K:Act->World->Prop}{Q:Exit->Act->World->Prop}(m x v:Operand)(t:TypeId)(hop:o.op=Op.mapUpdate t m x v)
  (k e:TypeId) (Ky:Maps.Keyed P k) (ht:P.underlying t=some (.map k e)) (R:Value->Option (DataW Unit×List MemPlace)) (b n:Nat) (D:DataW Unit)
  (hm:a.eval m= .map (some b)) (hown:w.ownsMap P k R b n D) (hn:n<maxLen) (key val:Value) (kl:Lit) (hx:a.eval x=key) (hv:a.eval v=val) (hkey:keyOf P k key=some kl)
  (d:DataW Unit) (ps:List MemPlace) (hval:R val=some (d,ps))
  (hK:∀w',w'.ownsMap P k R b (n+1) (D.put kl d)->w.grownBy w' (some b)->K (a.put o.dst undef) w'):o.wp P a w K Q:=by
 obtain⟨w',hrun,r1,r2⟩:=hown.update Ky ht hn hkey hval
 unfold Oper.wp
 simp[execOp,hop,hm,hx,hv,hrun,Result.andThen]
 exact hK _ r1 r2
theorem Ce {a b:List UInt8}(h:aL a=aL b):a=b:=by
 induction a generalizing b with
 |nil=>cases b with
  |nil=>rfl
  |cons x b=>cases h
 |cons x a ih=>
  cases b with
  |nil=>cases h
  |cons y b=>
   simp only[aL,dG,oI] at h
   obtain⟨h1,h2⟩:=h
   have e:x=y:=by
    simp only[Value.int.injEq,true_and] at h1
    exact rq.1 (by omega)
   rw[e,ih h2]
open Classical in
noncomputable def rI (v:Value):Option (DataW Unit×List MemPlace):=
 if h:∃l:List UInt8,l.length=512/\v= .agg (aL l).toArray then some (.lit (.string h.choose),[]) else none
theorem Ko (l:List UInt8)(hl:l.length=512):rI (.agg (aL l).toArray)=some (.lit (.string l),[]):=by
 have h:∃l':List UInt8,l'.length=512/\Value.agg (aL l).toArray= .agg (aL l').toArray:=⟨l,hl,rfl⟩
 unfold rI
 rw[dif_pos h]
 have h3:=Ce (show aL l=aL h.choose from congrArg Array.toList (Value.agg.inj h.choose_spec.2))
 exact congrArg (fun l=>some (DataW.lit (Lit.string l),([]:List MemPlace))) h3.symm
theorem uq {v:Value}{d:DataW Unit}{ps:List MemPlace}(h:rI v=some (d,ps)):∃l:List UInt8,l.length=512/\v= .agg (aL l).toArray/\d= .lit (.string l):=by
 unfold rI at h
 split at h
 ·rename_i hx
  simp only[Ra,Prod.mk.injEq] at h
  exact⟨hx.choose,hx.choose_spec.1,hx.choose_spec.2,h.1.symm⟩
 ·cases h
theorem jM (w:World):(zeroValue 157).run Tryz.prog w= .ok (.agg (aL zB).toArray) w:=by kernel_rfl
theorem kK:(Tryz.prog.info? 157).map (fun i=>i.size)=some 512:=by kernel_rfl
def kR (w:World)(b:Nat)(im:Im):Prop:=
 ∃D,w.ownsMap Tryz.prog 3 rI b 5000 D/\Maps.size D=im.ks.length/\(∀kl,Maps.has D kl=true->∃k:Nat,kl=kI k)/\(∀k:Nat,Maps.has D (kI k)=decide (k∈im.ks))/\∀k:Nat,k∈im.ks->∀z,D.atKey (kI k) z= .lit (.string (im.img k))
structure Im.Ok (im:Im)(n:Nat):Prop where
 rise:im.ks.Pairwise (· < ·)
 hi:∀k∈im.ks,k<n
 img:∀k∈im.ks,(im.img k).length=512
theorem Im.Ok.none (n:Nat):Im.none.Ok n:=⟨tX,(fun _ h=>by cases h),(fun _ h=>by cases h)⟩
theorem FW:∀(l:List Nat) (lo n:Nat),lo<=n->l.Pairwise (· < ·)->(∀k∈l,lo<=k/\k<n)->l.length<=n - lo
 |[],_,_,_,_,_=>aX _
 |k::r,lo,n,_,h,hn=>by
  obtain⟨h1,h2⟩:=fw.1 h
  have hk:=hn k (bF ..)
  have:=FW r (k+1) n hk.2 h2 (fun x hx=>⟨h1 x hx,(hn x (bq _ hx)).2⟩)
  rw[bE]
  omega
theorem xJ (l:List Nat)(n:Nat)(h:l.Pairwise (· < ·))(hn:∀k∈l,k<n):l.length<=n:=FW l 0 n (aX _) h (fun k hk=>⟨aX _,hn k hk⟩)
theorem Im.Ok.put {im:Im}{n:Nat}(h:im.Ok n)(b:Nat)(x:List UInt8)(hb:b<n)(hx:x.length=512):(im.put b x).Ok n:=by
 refine⟨vP h.rise,fun k hk=> ?_,fun k hk=> ?_⟩
 ·rcases mF.1 hk with rfl|hk
  ·exact hb
  ·exact h.hi k hk
 ·show (if k=b then x else im.img k).length=512
  split
  ·exact hx
  ·rename_i hne
   exact h.img k ((mF.1 hk).resolve_left hne)
theorem zN {b:Nat}:∀{l:List Nat},l.Pairwise (· < ·)->(zh b l).length=if b∈l then l.length else l.length+1
 |[],_=>by simp[zh]
 |k::r,h=>by
  obtain⟨h1,h2⟩:=fw.1 h
  unfold zh
  split
  ·rename_i hb
   rw[if_neg (by
    intro hm
    rcases bX.1 hm with rfl|hm
    ·exact dM _ hb
    ·have:=h1 b hm;omega)]
   rfl
  ·split
   ·rename_i _ hb
    subst hb
    rw[if_pos (bF ..)]
   ·rename_i hn1 hn2
    rw[bE,zN h2,bE]
    by_cases hm:b∈r
    ·rw[if_pos hm,if_pos (bq _ hm)]
    ·rw[if_neg hm,if_neg (by
      intro h
      rcases bX.1 h with e|h
      ·exact hn2 e
      ·exact hm h)]
theorem kR.none (w:World):kR (w.alloc (.map #[] 0)) w.heap.size Im.none:=
 ⟨.map [],(World.ownsMap_made w _ _ _).mono (aX _),rfl,(fun kl h=>by simp[Maps.has_eq] at h),(fun k=>by simp[Maps.has_eq,Im.none]),(fun k h=>by cases h)⟩
theorem kR.lt {w:World}{b:Nat}{im:Im}(h:kR w b im):b<w.heap.size:=by obtain⟨D,hD,_⟩:=h;exact hD.lt
theorem kR.block {w w':World}{b:Nat}{im:Im}(h:kR w b im)(hb:w'.heap[b]? =w.heap[b]?):kR w' b im:=by
 obtain⟨D,⟨es,cl,hbm,r⟩,h2⟩:=h
 exact⟨D,⟨es,cl,hb.trans hbm,r⟩,h2⟩
theorem kR.ne {w:World}{b:Nat}{im:Im}(h:kR w b im){g:Nat}{cs:Array Value}{t:TypeId}{fr:Nat×Nat}(hc:w.heap[g]? =some (.cells cs t fr)):g≠b:=fun e=>by
 obtain⟨D,⟨es,cl,hbm,_⟩,_⟩:=h
 rw[e,hbm] at hc;cases hc
theorem Oh {a b:Nat}(h:a≠b):kI (a:Int)≠kI (b:Int):=fun e=>h (by injection e;omega)
theorem kR.put {w w':World}{b:Nat}{im:Im}{D:DataW Unit}{n:Nat}(him:im.Ok n)(hn:n<=4096)(k:Nat)(x:List UInt8)(hk:k<n)(hD:w.ownsMap Tryz.prog 3 rI b 5000 D)(hs:Maps.size D=im.ks.length)(h0:∀kl,Maps.has D kl=true->∃k:Nat,kl=kI k)
  (h1:∀k:Nat,Maps.has D (kI k)=decide (k∈im.ks)) (h2:∀k:Nat,k∈im.ks->∀z,D.atKey (kI k) z= .lit (.string (im.img k))) (ho:w'.ownsMap Tryz.prog 3 rI b 5001 (D.put (kI k) (.lit (.string x)))):kR w' b (im.put k x):=by
 have hT:=hD.tidy jr
 have hlen:=xJ _ _ him.rise him.hi
 have hsz:Maps.size (D.put (kI k) (.lit (.string x)))=(im.put k x).ks.length:=by
  rw[Maps.size_put hT,h1,show (im.put k x).ks=zh k im.ks from rfl,zN him.rise,hs]
  by_cases hm:k∈im.ks<;>simp[hm]
 have hle:Maps.size (D.put (kI k) (.lit (.string x)))<=5000:=by
  rw[Maps.size_put hT,hs]
  split<;>omega
 refine⟨_,tight ho hle,hsz,fun kl hh=> ?_,fun j=> ?_,fun j hj z=> ?_⟩
 ·by_cases e:kl=kI k
  ·exact⟨k,e⟩
  ·rw[Maps.has_put_other e] at hh
   exact h0 kl hh
 ·by_cases e:j=k
  ·subst e
   rw[Maps.has_put_same hT.isMap (ze _)]
   simp[Im.put,mF]
  ·rw[Maps.has_put_other (Oh e),h1]
   simp[Im.put,mF,e]
 ·by_cases e:j=k
  ·subst e
   rw[Maps.atKey_put_same hT.isMap (ze _)]
   simp[Im.put]
  ·rw[Maps.atKey_put_other (Oh e),h2 j ((mF.1 hj).resolve_left e)]
   simp[Im.put,e]
structure Pg.Ok (p:Pg)(σ:Dk)(l:Lg):Prop where
 frm:l.frm=0
 skip:p.skip=l.n
 ring:p.ring+1=l.n
 fit:l.n<σ.n
 fresh:p.fresh.Ok (σ.n - p.skip)
structure Af (w:World)(Sd Sl Sp:Nat->Prop)(pg lg d fb:Nat)(σ:Dk)(l:Lg)(p:Pg)(op:Value):Prop where
 log:jv w Sd Sl lg d σ l
 ok:p.Ok σ l
 sub:∀g,Sp g->g<w.heap.size
 dd:∀g,Sp g->¬Sd g
 dl:∀g,Sp g->¬Sl g
 Cx:Sp pg
 sfb:Sp fb
 obj:w.heap[pg]? =some (.cells #[.pointer (some ⟨d,0,none⟩),.pointer (some ⟨lg,0,none⟩),.int .i64 p.skip,.int .i64 p.ring,.map (some fb),op,.bool p.dead] 144 (0,0))
 fr:kR w fb p.fresh
def kP (w:World)(S:Nat->Prop)(pg d:Nat)(σ:Dk)(l:Lg)(p:Pg)(op:Value):Prop:=
 ∃Sd Sl Sp lg fb,Af w Sd Sl Sp pg lg d fb σ l p op/\∀g,S g↔Sd g\/Sl g\/Sp g
theorem Af.keep {w w':World}{Sd Sl Sp M:Nat->Prop}{pg lg d fb:Nat}{σ:Dk}{l:Lg}{p:Pg}{op:Value}(h:Af w Sd Sl Sp pg lg d fb σ l p op)(hk:Keep M w w')(hM:∀g,Sd g\/Sl g\/Sp g->¬M g):Af w' Sd Sl Sp pg lg d fb σ l p op:=
 ⟨h.log.keep hk (fun g hg=>hM g (.inl hg)) (fun g hg=>hM g (.inr (.inl hg))),h.ok,fun g hg=>ax (h.sub g hg) hk.size,h.dd,h.dl,h.Cx,h.sfb,
  (hk.block _ (h.sub _ h.Cx) (hM _ (.inr (.inr h.Cx)))).trans h.obj,h.fr.block (hk.block _ (h.sub _ h.sfb) (hM _ (.inr (.inr h.sfb))))⟩
theorem kP.keep {w w':World}{S M:Nat->Prop}{pg d:Nat}{σ:Dk}{l:Lg}{p:Pg}{op:Value}(h:kP w S pg d σ l p op)(hk:Keep M w w')(hM:∀g,S g->¬M g):kP w' S pg d σ l p op:=by
 obtain⟨Sd,Sl,Sp,lg,fb,h,hS⟩:=h
 exact⟨Sd,Sl,Sp,lg,fb,h.keep hk (fun g hg=>hM g ((hS g).2 hg)),hS⟩
theorem kP.below {w w':World}{S:Nat->Prop}{pg d:Nat}{σ:Dk}{l:Lg}{p:Pg}{op:Value}(h:kP w S pg d σ l p op)(hb:Below w.heap.size w w'):kP w' S pg d σ l p op:=h.keep (Keep.of_below hb fH) (fun _ _ e=>e)
theorem kP.sub {w:World}{S:Nat->Prop}{pg d:Nat}{σ:Dk}{l:Lg}{p:Pg}{op:Value}(h:kP w S pg d σ l p op):∀g,S g->g<w.heap.size:=by
 obtain⟨Sd,Sl,Sp,lg,fb,h,hS⟩:=h
 intro g hg
 rcases (hS g).1 hg with hg|hg|hg
 ·exact h.log.dk.sub g hg
 ·exact h.log.lg.sub g hg
 ·exact h.sub g hg
theorem kP.Cx {w:World}{S:Nat->Prop}{pg d:Nat}{σ:Dk}{l:Lg}{p:Pg}{op:Value}(h:kP w S pg d σ l p op):S pg:=by
 obtain⟨Sd,Sl,Sp,lg,fb,h,hS⟩:=h
 exact(hS pg).2 (.inr (.inr h.Cx))
theorem kP.ok {w:World}{S:Nat->Prop}{pg d:Nat}{σ:Dk}{l:Lg}{p:Pg}{op:Value}(h:kP w S pg d σ l p op):p.Ok σ l/\σ.Ok/\l.Ok:=by
 obtain⟨Sd,Sl,Sp,lg,fb,h,hS⟩:=h
 exact⟨h.ok,h.log.dk.ok,h.log.lg.ok⟩
theorem Af.cells {w:World}{Sd Sl Sp:Nat->Prop}{pg lg d fb:Nat}{σ:Dk}{l:Lg}{p:Pg}{op:Value}(h:Af w Sd Sl Sp pg lg d fb σ l p op):
  w.cell? ⟨pg,0,none⟩=some (.pointer (some ⟨d,0,none⟩))/\w.cell? ⟨pg,1,none⟩=some (.pointer (some ⟨lg,0,none⟩))/\w.cell? ⟨pg,2,none⟩=some (.int .i64 p.skip)/\w.cell? ⟨pg,3,none⟩=some (.int .i64 p.ring)/\w.cell? ⟨pg,4,none⟩=some (.map (some fb))/\
  w.cell? ⟨pg,5,none⟩=some op/\w.cell? ⟨pg,6,none⟩=some (.bool p.dead)/\pg<w.heap.size/\∀j,w.frozen? ⟨pg,j,none⟩=false:=by
 have hb:=h.obj
 refine⟨?_,?_,?_,?_,?_,?_,?_,(aj.1 hb).1,?_⟩
 all_goals first
  |(simp[World.cell?,hb];done)
  |(intro i;simp[World.frozen?,hb])
theorem Af.turn {w w':World}{Sd Sl Sp Sd' Sl':Nat->Prop}{pg lg d fb:Nat}{σ σ':Dk}{l l':Lg}{p:Pg}{op:Value}(h:Af w Sd Sl Sp pg lg d fb σ l p op)(hA:jv w' Sd' Sl' lg d σ' l')(hT:Two Sd Sl Sd' Sl' w w')(ho:p.Ok σ' l'):
  Af w' Sd' Sl' Sp pg lg d fb σ' l' p op/\Step (fun g=>Sd g\/Sl g\/Sp g) (fun g=>Sd' g\/Sl' g\/Sp g) w w':=by
 have hno:∀g,Sp g->¬(Sd g\/Sl g):=fun g hg e=>e.elim (h.dd g hg) (h.dl g hg)
 have hno':∀g,Sp g->¬(Sd' g\/Sl' g):=fun g hg e=>(hT.2 g e).elim (hno g hg) (fun x=>absurd (h.sub g hg) (bM.2 x))
 refine⟨⟨hA,ho,fun g hg=>ax (h.sub g hg) hT.1.size,fun g hg e=>hno' g hg (.inl e),fun g hg e=>hno' g hg (.inr e),h.Cx,h.sfb,(hT.1.block _ (h.sub _ h.Cx) (hno _ h.Cx)).trans h.obj,h.fr.block (hT.1.block _ (h.sub _ h.sfb) (hno _ h.sfb))⟩,?_⟩
 refine⟨hT.1.mono (fun _ _ e=>e.elim .inl (fun e=> .inr (.inl e))),fun g hg=> ?_⟩
 rcases hg with hg|hg|hg
 ·exact(hT.2 g (.inl hg)).elim (fun e=> .inl (e.elim .inl (fun e=> .inr (.inl e)))) .inr
 ·exact(hT.2 g (.inr hg)).elim (fun e=> .inl (e.elim .inl (fun e=> .inr (.inl e)))) .inr
 ·exact .inl (.inr (.inr hg))
theorem Af.self {w w':World}{Sd Sl Sp:Nat->Prop}{pg lg d fb:Nat}{σ:Dk}{l:Lg}{p p':Pg}{op op':Value}(h:Af w Sd Sl Sp pg lg d fb σ l p op)(hk:Keep (· =pg) w w')(ho:p'.Ok σ l)(hf:p'.fresh=p.fresh)
  (hb:w'.heap[pg]? =some (.cells #[.pointer (some ⟨d,0,none⟩),.pointer (some ⟨lg,0,none⟩),.int .i64 p'.skip,.int .i64 p'.ring,.map (some fb),op',.bool p'.dead] 144 (0,0))):Af w' Sd Sl Sp pg lg d fb σ l p' op':=
 ⟨h.log.keep hk (fun g hg e=>h.dd pg h.Cx (e▸hg)) (fun g hg e=>h.dl pg h.Cx (e▸hg)),ho,fun g hg=>ax (h.sub g hg) hk.size,h.dd,h.dl,h.Cx,h.sfb,hb,
  by rw[hf];exact h.fr.block (hk.block _ (h.sub _ h.sfb) (fun e=>h.fr.ne h.obj e.symm))⟩
theorem Ew (pg d:Nat)(σ:Dk)(l:Lg)(p:Pg)(op:Value)(S:Nat->Prop)(w:World)(h:kP w S pg d σ l p op):
  Calls Tryz.prog 54 #[.pointer (some ⟨pg,0,none⟩)] w fun e w'=>e= .returned (.int .i64 (p.blocks σ))/\w'=w.drew:=by
 obtain⟨Sd,Sl,Sp,lg,fb,h,hS⟩:=h
 obtain⟨c0,_,c2,_,_,_,_,hlt,_⟩:=h.cells
 have HS:=af (G6 d σ Sd w.drew (h.log.dk.below ((aO _ w).drew)))
 have hn:=h.log.dk.ok.hi
 have hf:=h.ok.fit;have hk:=h.ok.skip
 have e1:IntKind.i64.wrap ((σ.n:Int) - (p.skip:Int))=(p.blocks σ:Int):=by rw[aM _ (by omega)];unfold Pg.blocks;omega
 have c0':w.drew.cell? ⟨pg,0,none⟩=some (.pointer (some ⟨d,0,none⟩)):=c0
 have c2':w.drew.cell? ⟨pg,2,none⟩=some (.int .i64 p.skip):=c2
 clear h hn hf hk c0 c2
 go_enter Tryz.func54,Tryz.ntmps54
 go_wp2_with fail
 refine aS (fun W=>W=w.drew) (fun i=> !([4].contains i)) [0,1,2,3,5,6,7,8,4,9,10] rfl (by kernel_rfl) rfl ?_
 repeat ((refine bL (v:= ?_) rfl rfl (fun _ _ _ h=>h) rfl (fun W hW=> ?_) ?_);rotate_left;(focus ((try dsimp only at hW);subst hW;(go_simp;first|done|with_reducible rfl)));(try simp only[Act.put,ah,au,ak]))
 refine dm rfl rfl rfl ?_;intro K hK;go_simp
 refine HS.out.mono ?_;rintro e w1 ⟨rfl,hw1⟩;subst w1
 refine hK.out _ _ rfl ?_
 repeat ((refine bL (v:= ?_) rfl rfl (fun _ _ _ h=>h) rfl (fun W hW=> ?_) ?_);rotate_left;(focus ((try dsimp only at hW);subst hW;(go_simp;first|done|with_reducible rfl)));(try simp only[Act.put,ah,au,ak]))
 refine bR ?_
 go_wp2_with fail
 go_ret
 exact⟨rfl,rfl⟩
theorem Ga (pg:Nat)(w:World):
  Calls Tryz.prog 93 #[.pointer (some ⟨pg,0,none⟩),.int .i64 0] w fun e w'=>e= .returned (.int .i64 0)/\w'=w:=by
 go_enter Tryz.func93,Tryz.ntmps93
 go_wp2_with fail
 go_ret
 exact⟨rfl,rfl⟩
theorem Pg.Ok.dies {p:Pg}{σ:Dk}{l:Lg}(h:p.Ok σ l):p.dies.Ok σ l:=⟨h.frm,h.skip,h.ring,h.fit,h.fresh⟩
theorem Step.eqv {S S' T T':Nat->Prop}{w w':World}(h:Step T T' w w')(hS:∀g,S g↔T g)(hS':∀g,S' g↔T' g):Step S S' w w':=
 ⟨h.1.mono (fun g _ x=>(hS g).2 x),fun g hg=>(h.2 g ((hS' g).1 hg)).imp (hS g).2 id⟩
theorem Step.own {S:Nat->Prop}{w w':World}{g:Nat}(h:Keep (· =g) w w')(hg:S g):Step S S w w':=⟨h.mono (fun _ _ e=>e▸hg),fun _ h=> .inl h⟩
theorem LJ (pg d:Nat)(σ:Dk)(l:Lg)(p:Pg)(op:Value)(S:Nat->Prop)(q:Int)(w:World)(h:kP w S pg d σ l p op)(hq:q≠0):
  Calls Tryz.prog 93 #[.pointer (some ⟨pg,0,none⟩),.int .i64 q] w fun e w'=>e= .returned (.int .i64 10)/\kP w' S pg d σ l p.dies op/\Step S S w w':=by
 have hspg:=h.Cx
 obtain⟨Sd,Sl,Sp,lg,fb,h,hS⟩:=h
 obtain⟨_,_,_,_,_,_,c6,hlt,hfz⟩:=h.cells
 have hf:=hfz 6
 have hq':(q !=0)=true:=by simpa using hq
 have hk:Keep (· =pg) w (w.setCell ⟨pg,6,none⟩ (.bool true)):=(Keep.refl (· =pg) w).setCell (p:=⟨pg,6,none⟩) (.inr rfl) _
 have HP:=af (show Af (w.setCell ⟨pg,6,none⟩ (.bool true)) Sd Sl Sp pg lg d fb σ l p.dies op from h.self hk h.ok.dies rfl (by rw[je w pg 6 _ _ _ h.obj];rfl))
 have HK:=af hk
 clear h hk
 go_enter Tryz.func93,Tryz.ntmps93
 go_wp2_with fail
 go_ret
 exact⟨rfl,⟨Sd,Sl,Sp,lg,fb,HP.out,hS⟩,Step.own HK.out hspg⟩
structure wM (w:World)(T:Nat->Prop)(t pg db:Nat)(im:Im)(n:Nat):Prop where
 ok:im.Ok n
 sub:∀g,T g->g<w.heap.size
 st:T t
 sdb:T db
 obj:w.heap[t]? =some (.cells #[.pointer (some ⟨pg,0,none⟩),.map (some db)] 146 (0,0))
 img:kR w db im
def tq (w:World)(T:Nat->Prop)(t pg:Nat)(im:Im)(n:Nat):Prop:=∃db,wM w T t pg db im n
theorem tq.keep {w w':World}{T M:Nat->Prop}{t pg n:Nat}{im:Im}(h:tq w T t pg im n)(hk:Keep M w w')(hM:∀g,T g->¬M g):tq w' T t pg im n:=by
 obtain⟨db,h⟩:=h
 exact⟨db,h.ok,fun g hg=>ax (h.sub g hg) hk.size,h.st,h.sdb,(hk.block _ (h.sub _ h.st) (hM _ h.st)).trans h.obj,h.img.block (hk.block _ (h.sub _ h.sdb) (hM _ h.sdb))⟩
theorem tq.below {w w':World}{T:Nat->Prop}{t pg n:Nat}{im:Im}(h:tq w T t pg im n)(hb:Below w.heap.size w w'):tq w' T t pg im n:=h.keep (Keep.of_below hb fH) (fun _ _ e=>e)
theorem tq.sub {w:World}{T:Nat->Prop}{t pg n:Nat}{im:Im}(h:tq w T t pg im n):∀g,T g->g<w.heap.size:=by obtain⟨_,h⟩:=h;exact h.sub
theorem NP (pg d:Nat)(σ:Dk)(l:Lg)(p:Pg)(S:Nat->Prop)(w:World)(h:kP w S pg d σ l p (.pointer none))(hd:p.dead=false):
  Calls Tryz.prog 52 #[.pointer (some ⟨pg,0,none⟩)] w fun e w'=>∃t T,e= .returned (.tuple #[.pointer (some ⟨t,0,none⟩),.int .i64 0])/\kP w' S pg d σ l p (.pointer (some ⟨t,0,none⟩))/\tq w' T t pg Im.none (p.blocks σ)/\Step S S w w'/\(∀g,T g->w.heap.size<=g):=by
 have hspg:=h.Cx
 obtain⟨Sd,Sl,Sp,lg,fb,h,hS⟩:=h
 obtain⟨_,_,_,_,_,c5,c6,hlt,hfz⟩:=h.cells
 rw[hd] at c6
 have hf:=hfz 5
 have HH:=af h
 clear h
 have hmk:∀w:World,(Instr.makeMap 142 none).run Tryz.prog w= .ok (.map (some w.heap.size)) (w.alloc (.map #[] 0)):=fun w=>run_makeMap _ w
 go_enter Tryz.func52,Tryz.ntmps52
 go_wp2_with fail
 go_ret2
 obtain⟨w1,HW1⟩:∃w1:World,Hid (w.setCell ⟨pg,5,none⟩ (.pointer (some ⟨w.heap.size+1,0,none⟩))=w1):=⟨_,af rfl⟩
 have hk1:Keep (· =pg) w w1:=by rw[<-HW1.out];exact(Keep.refl (· =pg) _).setCell (p:=⟨pg,5,none⟩) (.inr rfl) _
 have hP1:Af w1 Sd Sl Sp pg lg d fb σ l p (.pointer (some ⟨w.heap.size+1,0,none⟩)):=HH.out.self hk1 HH.out.ok rfl (by rw[<-HW1.out,je _ pg 5 _ _ _ HH.out.obj];rfl)
 have hs1:w1.heap.size=w.heap.size:=by rw[<-HW1.out];simp
 rw[HW1.out,<-hs1]
 have hb2:Below w1.heap.size w1 ((w1.alloc (.map #[] 0)).alloc (.cells #[.pointer (some ⟨pg,0,none⟩),.map (some w1.heap.size)] 146)):=gm w1 _ _
 have hm2:kR ((w1.alloc (.map #[] 0)).alloc (.cells #[.pointer (some ⟨pg,0,none⟩),.map (some w1.heap.size)] 146)) w1.heap.size Im.none:=(kR.none w1).block (pI _ _ _ (by simp))
 have ho2:((w1.alloc (.map #[] 0)).alloc (.cells #[.pointer (some ⟨pg,0,none⟩),.map (some w1.heap.size)] 146)).heap[w1.heap.size+1]? =some (.cells #[.pointer (some ⟨pg,0,none⟩),.map (some w1.heap.size)] 146 (0,0)):=by
  have:=aP (w1.alloc (.map #[] 0)) (.cells #[.pointer (some ⟨pg,0,none⟩),.map (some w1.heap.size)] 146)
  rwa [aU] at this
 rw[<-hs1] at hP1
 have hP2:=hP1.keep (Keep.of_below hb2 fH) (fun _ _ e=>e)
 refine⟨w1.heap.size+1,fun g=>g=w1.heap.size\/g=w1.heap.size+1,rfl,⟨Sd,Sl,Sp,lg,fb,hP2,hS⟩,⟨w1.heap.size,Im.Ok.none _,fun g hg=> ?_,.inr rfl,.inl rfl,ho2,hm2⟩,⟨(hk1.mono (fun _ _ e=>e▸hspg)).trans (Keep.of_below hb2 S) (fun _ _ e=>e),fun _ hg=> .inl hg⟩,fun g hg=>by omega⟩
 simp only[aU]
 omega
theorem wM.cells {w:World}{T:Nat->Prop}{t pg db n:Nat}{im:Im}(h:wM w T t pg db im n):
  w.cell? ⟨t,0,none⟩=some (.pointer (some ⟨pg,0,none⟩))/\w.cell? ⟨t,1,none⟩=some (.map (some db))/\t<w.heap.size:=by
 have hb:=h.obj
 exact⟨by simp[World.cell?,hb],by simp[World.cell?,hb],(aj.1 hb).1⟩
theorem Ee (t pg d:Nat)(σ:Dk)(l:Lg)(p:Pg)(op:Value)(im:Im)(S T:Nat->Prop)(n b:Nat)(w:World)(h:kP w S pg d σ l p op)(ht:tq w T t pg im n)(hd:p.dead=false)(hb:b<p.blocks σ):
  Calls Tryz.prog 84 #[.pointer (some ⟨t,0,none⟩),.int .i64 b] w fun e w'=>e= .returned (.int .i64 0)/\w'=w.drew:=by
 have HB:=af (Ew pg d σ l p op S w h)
 have hbl:p.blocks σ<=4096:=by have:=h.ok.2.1.hi;unfold Pg.blocks;omega
 obtain⟨Sd,Sl,Sp,lg,fb,h,hS⟩:=h
 obtain⟨db,ht⟩:=ht
 obtain⟨_,_,_,_,_,_,c6,hlt,_⟩:=h.cells
 obtain⟨t0,t1,htl⟩:=ht.cells
 rw[hd] at c6
 clear h ht hd
 have e1:¬(b:Int)<0:=by omega
 have e2:decide ((b:Int)<0)=false:=aZ e1
 have e3:¬(p.blocks σ:Int)<=(b:Int):=by omega
 have e4:decide ((p.blocks σ:Int)<=(b:Int))=false:=aZ e3
 have e5:decide (p.blocks σ<=b)=false:=aZ (by omega)
 go_enter Tryz.func84,Tryz.ntmps84
 go_wp2_with (first
  |(go_at_call 54;go_must (refine HB.out.mono ?_;rintro e w1 ⟨rfl,hw1⟩;subst w1)))
 go_ret
 exact⟨rfl,rfl⟩
theorem SY (pg d:Nat)(σ:Dk)(l:Lg)(p:Pg)(op:Value)(S:Nat->Prop)(w:World)(h:kP w S pg d σ l p op):
  Calls Tryz.prog 85 #[.pointer (some ⟨pg,0,none⟩)] w fun e w'=>e= .returned (.int .i64 l.last)/\w'=w:=by
 obtain⟨Sd,Sl,Sp,lg,fb,h,hS⟩:=h
 obtain⟨_,c1,_,_,_,_,_,hlt,_⟩:=h.cells
 have HW:=af (M6 lg d l Sl w h.log.lg)
 clear h
 go_enter Tryz.func85,Tryz.ntmps85
 go_wp2_with (first
  |(go_at_call 95;go_must (refine HW.out.mono ?_;rintro e w1 ⟨rfl,hw1⟩;subst w1)))
 go_ret
 exact⟨rfl,rfl⟩
theorem kR.look {w:World}{b:Nat}{im:Im}(h:kR w b im)(k:Nat):∃D,w.ownsMap Tryz.prog 3 rI b 5000 D/\Maps.has D (kI k)=decide (k∈im.ks)/\(k∈im.ks->D.atKey (kI k) (.lit (.string zB))= .lit (.string (im.img k))):=by
 obtain⟨D,h1,h2,h3,h4,h5⟩:=h
 exact⟨D,h1,h4 k,fun hk=>h5 k hk _⟩
theorem vH:rI (.agg (aL zB).toArray)=some (.lit (.string zB),[]):=Ko zB iM
theorem tread (t pg d:Nat)(σ:Dk)(l:Lg)(p:Pg)(op:Value)(im:Im)(S T:Nat->Prop)(b:Nat)(w:World)(h:kP w S pg d σ l p op)(ht:tq w T t pg im (p.blocks σ))(hd:p.dead=false)(hsd:σ.dead=false)(hb:b<p.blocks σ):
  Calls Tryz.prog 59 #[.pointer (some ⟨t,0,none⟩),.int .i64 b] w fun e w'=>∃v,e= .returned (.tuple #[v,.int .i64 0])/\bJ w' fH 1 v 512 (aL (p.look im σ b))/\(∀g,v.ownBlock=some g->w.heap.size<=g)/\Below w.heap.size w w':=by
 have HU:=af (Ee t pg d σ l p op im S T (p.blocks σ) b w h ht hd hb)
 have hbl:p.blocks σ<=4096:=by have:=h.ok.2.1.hi;unfold Pg.blocks;omega
 have hbw:=yU (b:Int) (by omega) (by omega)
 obtain⟨Sd,Sl,Sp,lg,fb,h,hS⟩:=h
 obtain⟨db,ht⟩:=ht
 obtain⟨c0,_,c2,_,c4,_,c6,hlt,_⟩:=h.cells
 obtain⟨t0,t1,htl⟩:=ht.cells
 have HS:=af (show ∀W:World,Below w.heap.size w W->W.cell? ⟨t,0,none⟩=some (.pointer (some ⟨pg,0,none⟩))/\W.cell? ⟨t,1,none⟩=some (.map (some db))/\W.cell? ⟨pg,0,none⟩=some (.pointer (some ⟨d,0,none⟩))/\W.cell? ⟨pg,2,none⟩=some (.int .i64 p.skip)/\W.cell? ⟨pg,4,none⟩=some (.map (some fb))/\t<W.heap.size/\pg<W.heap.size from fun W hW=>
  ⟨(hW.cell (p:=⟨t,0,none⟩) htl).trans t0,(hW.cell (p:=⟨t,1,none⟩) htl).trans t1,(hW.cell (p:=⟨pg,0,none⟩) hlt).trans c0,(hW.cell (p:=⟨pg,2,none⟩) hlt).trans c2,(hW.cell (p:=⟨pg,4,none⟩) hlt).trans c4,ax htl hW.size,ax hlt hW.size⟩)
 have HH:=af h;have HT:=af ht
 clear h ht c0 c2 c4 c6 t0 t1
 go_enter Tryz.func59,Tryz.ntmps59
 go_wp2_with (first
  |(go_at_call 84;go_must (refine HU.out.mono ?_;rintro e w1 ⟨rfl,hw1⟩;subst w1)))
 refine aS (fun W=>Below w.heap.size w W) (fun i=> !([11].contains i)) [0,1,2,3,4,5,6,7,8,9,10,13,11,12] rfl (by kernel_rfl) ((aO _ w).drew.drew) ?_
 repeat ((refine bL (v:= ?_) rfl rfl (fun _ _ _ h=>h) rfl (fun W hW=> ?_) ?_);rotate_left;(focus ((try dsimp only at hW);obtain⟨r0,r1,r2,r3,r4,r5,r6⟩:=HS.out W hW;(go_simp;first|done|with_reducible rfl)));(try simp only[Act.put,ah,au,ak]))
 refine dm rfl rfl rfl ?_;intro K hK;go_simp
 obtain⟨w2,HW2⟩:∃w2:World,Hid ((w.alloc (.cells #[.map (some db),.map (some fb)] 142)).drew.drew=w2):=⟨_,af rfl⟩
 have hb2:Below w.heap.size w w2:=by rw[<-HW2.out];exact(aK w _).drew.drew
 have hx0:w2.cell? ⟨w.heap.size,0,none⟩=some (.map (some db)):=by rw[<-HW2.out];show (w.alloc _).cell? _=_;simp
 have hx1:w2.cell? ⟨w.heap.size,1,none⟩=some (.map (some fb)):=by rw[<-HW2.out];show (w.alloc _).cell? _=_;simp
 have hxl:w.heap.size<w2.heap.size:=by rw[<-HW2.out];simp
 rw[HW2.out]
 refine hK.out _ _ hb2 ?_
 repeat ((refine bL (v:= ?_) rfl rfl (fun _ _ _ h=>h) rfl (fun W hW=> ?_) ?_);rotate_left;(focus ((try dsimp only at hW);obtain⟨r0,r1,r2,r3,r4,r5,r6⟩:=HS.out W hW;(go_simp;first|done|with_reducible rfl)));(try simp only[Act.put,ah,au,ak]))
 refine bR ?_
 have HI0:=af HT.out.img;have HI1:=af HH.out.fr
 have HL0:=af (HT.out.sub _ HT.out.sdb);have HL1':=af (HH.out.sub _ HH.out.sfb)
 have HL1:=HL1'
 have hbw0:=hbw
 clear hbw
 go_wp2_with fail
 go_loopw [32] (fun i wr=>∃k:Nat,k<=2/\i= .int .i64 k/\Hid (Below w2.heap.size w2 wr)/\Hid (0<k->b∉im.ks)/\Hid (1<k->b∉p.fresh.ks)) (fun i _=>2 - (intOf i).toNat)
 case atStart=>exact⟨0,by omega,rfl,af (aO _ _),af (fun h=>absurd h (by omega)),af (fun h=>absurd h (by omega))⟩
 case round=>
  obtain⟨k,hk,rfl,HB,HN0,HN1⟩:=hrel
  have hbw:=hb2.trans (HB.out.mono hb2.size)
  have d0:=(HB.out.cell (p:=⟨w.heap.size,0,none⟩) hxl).trans hx0
  have d1:=(HB.out.cell (p:=⟨w.heap.size,1,none⟩) hxl).trans hx1
  have hxr:=ax hxl HB.out.size
  have hz:(zeroValue 157).run Tryz.prog wr= .ok (.agg (aL zB).toArray) wr:=jM wr
  have hr1:Row (wr.alloc (.cells (aL zB).toArray 157)) wr.heap.size 157 (aL zB):=Row.new wr _ _
  have hz1:=af (show (aL zB).length=512 by rw[bS,iM])
  obtain⟨s0,s1,s2,s3,s4,s5,s6⟩:=HS.out wr hbw
  rcases iW k 1 with h0|h0
  ·obtain rfl:k=0:=by omega
   have HLk:=af (HI0.out.block (hbw.block _ HL0.out))
   obtain⟨D,hD,hh,hat⟩:=HLk.out.look b
   by_cases hm:b∈im.ks
   ·have hh':Maps.has D (kI b)=true:=by rw[hh];exact bZ hm
    have hat':=hat hm
    have HAT:=af hat'
    clear hat hat' hh
    go_wp2_with (first
     |(at_lookup;go_must (refine yF _ rfl _ _ 142 rfl 3 157 jr gF rI hz (.lit (.string zB)) [] vH db 5000 D rfl hD _ _ rfl (pY b hbw0) ?_;intro v ps hv;obtain⟨l1,hl1,rfl,hl2⟩:=uq hv;have HL1:=af hl1;have HL2:=af hl2;have hb5:=af (show (aL l1).length=512 by rw[bS,hl1]);have hone:=iD l1;clear hv hl1 hl2;rw[hh']))
     |((refine dW rfl ?_);intro K hK;(refine jg 157 rfl _ jM ?_);refine hK _ _ ?_)
     |((refine dW rfl ?_);intro K hK;(refine wp_store_row 157 _ _ rfl wr.heap.size 0 157 _ (aL l1) rfl rfl hr1 (kK.trans (congrArg some hb5.out.symm)) (by rw[hz1.out,hb5.out];omega) hone ?_);intro w3 hr3 hk3;refine hK _ _ (Stop.of ?_)))
    refine Stop.on ?_
    rw[nI _ _ (hz1.out.trans hb5.out.symm)] at hr3
    have HR3:=af hr3;have HK3:=af hk3;clear hr3 hk3
    go_wp2_with fail
    go_ret2
    have hlk:l1=p.look im σ b:=by
     have h1:(DataW.lit (Lit.string l1):DataW Unit)= .lit (.string (im.img b)):=HL2.out.symm.trans HAT.out
     injection h1 with h1
     injection h1 with h1
     rw[h1]
     unfold Pg.look Im.find
     rw[if_pos hm];rfl
    refine⟨_,rfl,?_,fun g hg=>by cases hg;exact aH hb2.size HB.out.size,?_⟩
    ·rw[<-hlk]
     have:=HR3.out.dI (S:=fH) (k:=1) (off:=0) 512 512 (by rw[hb5.out];omega) id (aG _) (by simp[maxLen])
     rwa [fo,aQ (by rw[hb5.out];omega)] at this
    ·exact(hb2.trans (HB.out.mono hb2.size)).trans (((Keep.refl (fun _=>False) wr).alloc _).trans (HK3.out.mono (M':=fun g=>g=wr.heap.size) (fun _ _ e=>e)) (fun i hi e=>by omega)|>.below.mono (aH hb2.size HB.out.size))
   ·have hh':Maps.has D (kI b)=false:=by rw[hh];exact aZ hm
    clear hat hh
    go_wp2_with (first
     |(at_lookup;go_must (refine yF _ rfl _ _ 142 rfl 3 157 jr gF rI hz (.lit (.string zB)) [] vH db 5000 D rfl hD _ _ rfl (pY b hbw0) ?_;intro v ps hv;obtain⟨l1,hl1,rfl,hl2⟩:=uq hv;have HL1:=af hl1;have HL2:=af hl2;have hb5:=af (show (aL l1).length=512 by rw[bS,hl1]);have hone:=iD l1;clear hv hl1 hl2;rw[hh']))
     |((refine dW rfl ?_);intro K hK;(refine jg 157 rfl _ jM ?_);refine hK _ _ ?_)
     |((refine dW rfl ?_);intro K hK;(refine wp_store_row 157 _ _ rfl wr.heap.size 0 157 _ (aL l1) rfl rfl hr1 (kK.trans (congrArg some hb5.out.symm)) (by rw[hz1.out,hb5.out];omega) hone ?_);intro w3 hr3 hk3;refine hK _ _ (Stop.of ?_)))
    refine Stop.on ?_
    have HB3:=af (HB.out.trans ((((Keep.refl (fun _=>False) wr).alloc _).trans (hk3.mono (M':=fun g=>g=wr.heap.size) (fun _ _ e=>e)) (fun i hi e=>by omega)).below.mono HB.out.size))
    clear hr3 hk3
    go_wp2_with fail
    go_roundw
    case rel=>exact⟨1,by omega,by go_num,HB3,af (fun _=>hm),af (fun h=>absurd h (by omega))⟩
    case measure=>simp[intOf]
  ·rcases iW k 2 with h1|h1
   ·obtain rfl:k=1:=by omega
    have hn0:=HN0.out (by omega)
    have HLk:=af (HI1.out.block (hbw.block _ HL1.out))
    obtain⟨D,hD,hh,hat⟩:=HLk.out.look b
    by_cases hm:b∈p.fresh.ks
    ·have hh':Maps.has D (kI b)=true:=by rw[hh];exact bZ hm
     have hat':=hat hm
     have HAT:=af hat'
     clear hat hat' hh
     go_wp2_with (first
      |(at_lookup;go_must (refine yF _ rfl _ _ 142 rfl 3 157 jr gF rI hz (.lit (.string zB)) [] vH fb 5000 D rfl hD _ _ rfl (pY b hbw0) ?_;intro v ps hv;obtain⟨l1,hl1,rfl,hl2⟩:=uq hv;have HL1:=af hl1;have HL2:=af hl2;have hb5:=af (show (aL l1).length=512 by rw[bS,hl1]);have hone:=iD l1;clear hv hl1 hl2;rw[hh']))
      |((refine dW rfl ?_);intro K hK;(refine jg 157 rfl _ jM ?_);refine hK _ _ ?_)
      |((refine dW rfl ?_);intro K hK;(refine wp_store_row 157 _ _ rfl wr.heap.size 0 157 _ (aL l1) rfl rfl hr1 (kK.trans (congrArg some hb5.out.symm)) (by rw[hz1.out,hb5.out];omega) hone ?_);intro w3 hr3 hk3;refine hK _ _ (Stop.of ?_)))
     refine Stop.on ?_
     rw[nI _ _ (hz1.out.trans hb5.out.symm)] at hr3
     have HR3:=af hr3;have HK3:=af hk3;clear hr3 hk3
     go_wp2_with fail
     go_ret2
     have hlk:l1=p.look im σ b:=by
      have h1:(DataW.lit (Lit.string l1):DataW Unit)= .lit (.string (p.fresh.img b)):=HL2.out.symm.trans HAT.out
      injection h1 with h1
      injection h1 with h1
      rw[h1]
      unfold Pg.look Im.find
      rw[if_neg hn0,if_pos hm];rfl
     refine⟨_,rfl,?_,fun g hg=>by cases hg;exact aH hb2.size HB.out.size,?_⟩
     ·rw[<-hlk]
      have:=HR3.out.dI (S:=fH) (k:=1) (off:=0) 512 512 (by rw[hb5.out];omega) id (aG _) (by simp[maxLen])
      rwa [fo,aQ (by rw[hb5.out];omega)] at this
     ·exact(hb2.trans (HB.out.mono hb2.size)).trans (((Keep.refl (fun _=>False) wr).alloc _).trans (HK3.out.mono (M':=fun g=>g=wr.heap.size) (fun _ _ e=>e)) (fun i hi e=>by omega)|>.below.mono (aH hb2.size HB.out.size))
    ·have hh':Maps.has D (kI b)=false:=by rw[hh];exact aZ hm
     clear hat hh
     go_wp2_with (first
      |(at_lookup;go_must (refine yF _ rfl _ _ 142 rfl 3 157 jr gF rI hz (.lit (.string zB)) [] vH fb 5000 D rfl hD _ _ rfl (pY b hbw0) ?_;intro v ps hv;obtain⟨l1,hl1,rfl,hl2⟩:=uq hv;have HL1:=af hl1;have HL2:=af hl2;have hb5:=af (show (aL l1).length=512 by rw[bS,hl1]);have hone:=iD l1;clear hv hl1 hl2;rw[hh']))
      |((refine dW rfl ?_);intro K hK;(refine jg 157 rfl _ jM ?_);refine hK _ _ ?_)
      |((refine dW rfl ?_);intro K hK;(refine wp_store_row 157 _ _ rfl wr.heap.size 0 157 _ (aL l1) rfl rfl hr1 (kK.trans (congrArg some hb5.out.symm)) (by rw[hz1.out,hb5.out];omega) hone ?_);intro w3 hr3 hk3;refine hK _ _ (Stop.of ?_)))
     refine Stop.on ?_
     have HB3:=af (HB.out.trans ((((Keep.refl (fun _=>False) wr).alloc _).trans (hk3.mono (M':=fun g=>g=wr.heap.size) (fun _ _ e=>e)) (fun i hi e=>by omega)).below.mono HB.out.size))
     clear hr3 hk3
     go_wp2_with fail
     go_roundw
     case rel=>exact⟨2,by omega,by go_num,HB3,af (fun _=>hn0),af (fun _=>hm)⟩
     case measure=>simp[intOf]
   ·obtain rfl:k=2:=by omega
    have hn0:=HN0.out (by omega)
    have hn1:=HN1.out (by omega)
    have hbb:b<σ.n - p.skip:=hb
    have hnn:=HH.out.log.dk.ok.hi
    obtain⟨z,HZ⟩:∃z,Hid (p.skip+b=z):=⟨_,af rfl⟩
    have hz1':IntKind.i64.wrap ((p.skip:Int)+(b:Int))=(z:Int):=by rw[aM _ (by omega),<-HZ.out];omega
    have hzn:z<σ.n:=by rw[<-HZ.out];omega
    have HDk:=af (HH.out.log.dk.below hbw)
    have HRd:=af (Tx d σ Sd z wr.drew (HDk.out.below ((aO _ wr).drew)) hsd hzn)
    have HLK:=af (show σ.get z=p.look im σ b by
     unfold Pg.look Im.find
     rw[if_neg hn0,if_neg hn1,HZ.out]
     rfl)
    have HBW:=af hbw;have HHz:=af hzn
    clear hn0 hn1 hr1 hz d0 d1 hxr s0 s1 s2 s3 s4 s5 s6 hzn
    go_wp2_with fail
    refine aS (fun W=>Below w.heap.size w W) (fun i=> !([16].contains i)) [0,1,2,3,4,5,6,7,8,9,10,11,12,13,14,15,16,17,18,19,20,21] rfl (by kernel_rfl) hbw.drew ?_
    repeat ((refine bL (v:= ?_) rfl rfl (fun _ _ _ h=>h) rfl (fun W hW=> ?_) ?_);rotate_left;(focus ((try dsimp only at hW);obtain⟨r0,r1,r2,r3,r4,r5,r6⟩:=HS.out W hW;(go_simp;first|done|with_reducible rfl)));(try simp only[Act.put,ah,au,ak]))
    refine dm rfl rfl rfl ?_;intro K hK;go_simp
    refine HRd.out.mono ?_;rintro e w5 ⟨v,rfl,hv5,hb5⟩
    have hb5':=HBW.out.drew.trans (hb5.mono hbw.size)
    refine hK.out _ _ hb5' ?_
    have HV5:=af hv5;have HB5:=af hb5';clear hv5 hb5 hb5'
    repeat ((refine bL (v:= ?_) rfl rfl (fun _ _ _ h=>h) rfl (fun W hW=> ?_) ?_);rotate_left;(focus ((try dsimp only at hW);skip;(go_simp;first|done|with_reducible rfl)));(try simp only[Act.put,ah,au,ak]))
    refine bR ?_
    go_wp2_with fail
    go_ret2
    rw[<-HLK.out]
    exact⟨v,rfl,HV5.out.dI,fun g hg=>aH HBW.out.size (HV5.out.1.lt g hg).1,HB5.out⟩
theorem Cw (n:Nat)(l:List UInt8):splice (aL (List.replicate n 0)) 0 (aL l)=aL (l++List.replicate (n - l.length) 0):=by
 simp[splice,aL]
theorem Ep (l:List UInt8):splice (aL zB) 0 (aL l)=aL (pad l):=Cw 512 l
theorem wM.put {w w':World}{T:Nat->Prop}{t pg db n:Nat}{im:Im}(h:wM w T t pg db im n)(hn:n<=4096)(b:Nat)(x:List UInt8)(hb:b<n)(hx:x.length=512){D:DataW Unit}(hD:w.ownsMap Tryz.prog 3 rI db 5000 D)(hs:Maps.size D=im.ks.length)(h0:∀kl,Maps.has D kl=true->∃k:Nat,kl=kI k)
  (h1:∀k:Nat,Maps.has D (kI k)=decide (k∈im.ks)) (h2:∀k:Nat,k∈im.ks->∀z,D.atKey (kI k) z= .lit (.string (im.img k))) (ho:w'.ownsMap Tryz.prog 3 rI db 5001 (D.put (kI b) (.lit (.string x)))) (hk:Keep (· =db) w w'):wM w' T t pg db (im.put b x) n:=
 ⟨h.ok.put b x hb hx,fun g hg=>ax (h.sub g hg) hk.size,h.st,h.sdb,(hk.block _ (h.sub _ h.st) (fun e=>h.img.ne h.obj e)).trans h.obj,kR.put h.ok hn b x hb hD hs h0 h1 h2 ho⟩
theorem Keep.uF {w w':World}{b:Nat}(h:w.grownBy w' (some b)):Keep (· =b) w w':=
 (Keep.refl (· =b) w).grown h (fun k e=>by cases e;exact .inr rfl)
theorem Ni (t pg d:Nat)(σ:Dk)(l:Lg)(p:Pg)(op:Value)(im:Im)(S T:Nat->Prop)(b:Nat)(v:Value)(x:List UInt8)(w:World)(h:kP w S pg d σ l p op)(ht:tq w T t pg im (p.blocks σ))(hd:p.dead=false)(hb:b<p.blocks σ)(hv:bJ w fH 1 v x.length (aL x))(hx:x.length<=512):
  Calls Tryz.prog 284 #[.pointer (some ⟨t,0,none⟩),.int .i64 b,v] w fun e w'=>e= .returned (.int .i64 0)/\tq w' T t pg (im.put b (pad x)) (p.blocks σ)/\Step T T w w':=by
 have HU:=af (Ee t pg d σ l p op im S T (p.blocks σ) b w h ht hd hb)
 have hbl:p.blocks σ<=4096:=by have:=h.ok.2.1.hi;unfold Pg.blocks;omega
 have hbw0:=yU (b:Int) (by omega) (by omega)
 obtain⟨vo,vc,rfl,v1,v2,v3,v4⟩:=bJ.form hv
 obtain⟨db,ht⟩:=ht
 obtain⟨t0,t1,htl⟩:=ht.cells
 have hx':¬((512:Int)<(x.length:Int)):=by omega
 have HT:=af ht;have HB:=af hb;have HBL:=af hbl
 have hr1:Row (w.drew.alloc (.cells (aL zB).toArray 157)) w.heap.size 157 (aL zB):=Row.new w.drew _ _
 have hz1:=af (show (aL zB).length=512 by rw[bS,iM])
 have hlen:=af (bS x)
 have hfst:=(hv.below (w':=w.drew.alloc (.cells (aL zB).toArray 157)) ((aO _ w).drew.alloc (aG _) _)).first (P:=Tryz.prog) x.length (aG _)
 rw[bg,aQ (fU hlen.out)] at hfst
 have hfst:=af hfst
 clear h ht hd hb hbl v3 v4
 go_enter Tryz.func284,Tryz.ntmps284
 go_wp2_with (first
  |(go_at_call 84;go_must (refine HU.out.mono ?_;rintro e w1 ⟨rfl,hw1⟩;subst w1))
  |((refine dW rfl ?_);intro K hK;(refine jg 157 rfl _ jM ?_);refine hK _ _ ?_)
  |((refine dW rfl ?_);intro K hK;(refine gG (.tmp 18) (.tmp 19) 101 101 rfl 5 1 1 (.int .u8 0) bH jD w.heap.size 0 157 x.length 512 512 (some ⟨w.heap.size,0,none⟩) _ rfl hr1 (.slice vo x.length vc) rfl x.length (aL x) rfl ?_ ?_ hfst.out (fun _=>rfl) ?_ (iD _) ?_);go_must ((focus (exact(bQ hx).symm));(focus (rw[hlen.out,bg]));(focus (rw[hlen.out,hz1.out];omega));intro w3 hr3 hk3;refine hK _ _ (Stop.of ?_))))
 refine Stop.on ?_
 rw[Ep] at hr3
 have hk13:Keep fH w w3:=(((Keep.refl fH w).drew).alloc _).trans hk3 (fun i hi e=>absurd hi (by rw[e];exact dM _))
 have hb3:=hk13.below
 have ht3:wM w3 T t pg db im (p.blocks σ):=by
  have hT:=HT.out
  exact⟨hT.ok,fun g hg=>ax (hT.sub g hg) hb3.size,hT.st,hT.sdb,(hb3.block _ (hT.sub _ hT.st)).trans hT.obj,hT.img.block (hb3.block _ (hT.sub _ hT.sdb))⟩
 obtain⟨D,hD,hs,h0,h1,h2⟩:=ht3.img
 obtain⟨s0,s1,stl⟩:=ht3.cells
 have hpl:(pad x).length=512:=sH hx
 have hone:=iD (pad x)
 have hcl:=af (show (aL (pad x)).length=512 by rw[bS,hpl])
 have hval:=af (Ko (pad x) hpl)
 obtain⟨C,HC⟩:∃C,Hid (aL (pad x)=C):=⟨_,af rfl⟩
 rw[HC.out] at hr3 hone hcl hval
 have hw:w3.drew.rangeAt w.heap.size 0 C:=hr3.whole
 have s1':w3.drew.cell? ⟨t,1,none⟩=some (.map (some db)):=s1
 have HT3:=af ht3;have HB3:=af hb3;have HH2:=af (aC hs (aC h0 (aC h1 h2)))
 have HDD:=af hD
 clear ht3 hb3 hs h0 h1 h2 hk13 hk3 hr3 hr1 hD
 go_wp2_with fail
 refine aS (fun W=>W=w3.drew) (fun i=> !([6].contains i)) [0,1,2,3,4,5,6] rfl (by kernel_rfl) rfl ?_
 repeat ((refine bL (v:= ?_) rfl rfl (fun _ _ _ h=>h) rfl (fun W hW=> ?_) ?_);rotate_left;(focus ((try dsimp only at hW);subst hW;(go_simp;first|done|with_reducible rfl)));(try simp only[Act.put,ah,au,ak]))
 refine bL (v:= .agg C.toArray) rfl rfl (fun _ _ _ h=>h) rfl (fun W hW=> ?_) ?_
 ·subst hW
  exact ni 157 (.tmp 8) rfl w.heap.size 0 rfl C _ hw Tryz.underlying157 rfl (kK.trans (congrArg some hcl.out.symm))
 simp only[Act.put,ah,au,ak]
 refine jk rfl rfl rfl (by kernel_rfl) ?_;intro K hK
 refine rW _ _ _ 142 rfl 3 157 jr gF rI db 5000 D rfl (Sr HDD.out) (by simp[maxLen]) _ _ (kI b) rfl rfl (pY b hbw0) (.lit (.string (pad x))) [] hval.out ?_
 intro w4 ho4 hg4
 refine hK.out _ _ ?_
 refine bR ?_
 have hk4:Keep (· =db) w3 w4:=((Keep.refl (· =db) w3).drew).trans (Keep.uF hg4) (fun _ _ e=>e)
 have HT4:=af (HT3.out.put HBL.out b (pad x) HB.out hpl HDD.out HH2.out.1 HH2.out.2.1 HH2.out.2.2.1 HH2.out.2.2.2 ho4 hk4)
 have HK4:=af hk4
 clear ho4 hg4 hk4
 go_wp2_with fail
 go_ret
 exact⟨rfl,⟨db,HT4.out⟩,(Keep.of_below HB3.out T).trans (HK4.out.mono (fun _ _ e=>e▸HT3.out.sdb)) (fun _ _ e=>e),fun _ hg=> .inl hg⟩
end Go.Proofs.YtpgdljlghiifjaaGreatDoor
namespace Go.Proofs.YtpgdljlghiifjaaGreatDoor
open Go.RowKit Go.Shelf
def PZ:Go.Shelf.Ren:=⟨fun x=>match x with|189=>134|125=>171|257=>170|128=>210|129=>211|294=>201|295=>202|296=>203|297=>204|298=>205|299=>206|216=>207|300=>208|301=>209|328=>231|329=>232|330=>233|331=>234|332=>235|215=>236|343=>244|n=>n,fun x=>match x with|28=>151|3=>3|46=>108|0=>0|51=>214|53=>235|4=>4|183=>309|182=>308|131=>136|5=>5|9=>9|218=>336|222=>340|228=>347|229=>348|n=>n,fun n=>n⟩
theorem xG:Lays.n189 Tryz.prog PZ where
 mixed:=by kernel_rfl
 f125:=Tryz.func171.trans (congrArg some (by kernel_rfl))
 f128:=Tryz.func210.trans (congrArg some (by kernel_rfl))
 f129:=Tryz.func211.trans (congrArg some (by kernel_rfl))
 f189:=Tryz.func134.trans (congrArg some (by kernel_rfl))
 f215:=Tryz.func236.trans (congrArg some (by kernel_rfl))
 f216:=Tryz.func207.trans (congrArg some (by kernel_rfl))
 f257:=Tryz.func170.trans (congrArg some (by kernel_rfl))
 f294:=Tryz.func201.trans (congrArg some (by kernel_rfl))
 f295:=Tryz.func202.trans (congrArg some (by kernel_rfl))
 f296:=Tryz.func203.trans (congrArg some (by kernel_rfl))
 f297:=Tryz.func204.trans (congrArg some (by kernel_rfl))
 f298:=Tryz.func205.trans (congrArg some (by kernel_rfl))
 f299:=Tryz.func206.trans (congrArg some (by kernel_rfl))
 f300:=Tryz.func208.trans (congrArg some (by kernel_rfl))
 f301:=Tryz.func209.trans (congrArg some (by kernel_rfl))
 f328:=Tryz.func231.trans (congrArg some (by kernel_rfl))
 f329:=Tryz.func232.trans (congrArg some (by kernel_rfl))
 f330:=Tryz.func233.trans (congrArg some (by kernel_rfl))
 f331:=Tryz.func234.trans (congrArg some (by kernel_rfl))
 f332:=Tryz.func235.trans (congrArg some (by kernel_rfl))
 f343:=Tryz.func244.trans (congrArg some (by kernel_rfl))
 t0:=pG
 a0:=Cs
 z0:=yM
 v0:=qD
 t3:=gQ
 a3:=Cr
 z3:=yL
 v3:=qC
 t4:=jV
 a4:=MR
 z4:=Fj
 v4:=wm
 t5:=kW
 a5:=Tryz.isAgg5
 z5:=Tryz.sizeOf5
 v5:=Sv
 t9:=eG
 a9:=MQ
 z9:=Fh
 v9:=wh
 t28:=bG
 a28:=Tryz.isAgg151
 z28:=Tryz.sizeOf151
 v28:=Tryz.zeroValue151
 t46:=Tryz.underlying108
 a46:=Tryz.isAgg108
 z46:=Tryz.sizeOf108
 v46:=Tryz.zeroValue108
 t51:=Tryz.underlying214
 a51:=Tryz.isAgg214
 z51:=Tryz.sizeOf214
 v51:=Tryz.zeroValue214
 t53:=Tryz.underlying235
 a53:=Tryz.isAgg235
 z53:=Tryz.sizeOf235
 v53:=Tryz.zeroValue235
 t131:=Tryz.underlying136
 a131:=Tryz.isAgg136
 z131:=Tryz.sizeOf136
 v131:=Tryz.zeroValue136
 t182:=Tryz.underlying308
 a182:=Tryz.isAgg308
 z182:=Tryz.sizeOf308
 v182:=Tryz.zeroValue308
 t183:=Tryz.underlying309
 a183:=Tryz.isAgg309
 z183:=Tryz.sizeOf309
 v183:=Tryz.zeroValue309
 t218:=Tryz.underlying336
 a218:=Tryz.isAgg336
 z218:=Tryz.sizeOf336
 v218:=Tryz.zeroValue336
 t222:=Tryz.underlying340
 a222:=Tryz.isAgg340
 z222:=Tryz.sizeOf340
 v222:=Tryz.zeroValue340
 t228:=Tryz.underlying347
 a228:=Tryz.isAgg347
 z228:=Tryz.sizeOf347
 v228:=Tryz.zeroValue347
 t229:=Tryz.underlying348
 a229:=Tryz.isAgg348
 z229:=Tryz.sizeOf348
 v229:=Tryz.zeroValue348
def Am:Go.Shelf.Ren:=⟨fun x=>match x with|6=>86|7=>87|8=>133|9=>134|10=>135|11=>169|n=>n,fun x=>match x with|0=>0|3=>157|4=>4|23=>142|24=>151|26=>3|27=>153|28=>154|33=>164|n=>n,fun n=>n⟩
theorem Gu:SlLaysZI.n7 Tryz.prog Am where
 mixed:=by kernel_rfl
 f7:=⟨Tryz.f87.name,(by kernel_rfl),Tryz.func87.trans (congrArg some (by kernel_rfl))⟩
 f10:=⟨Tryz.f135.name,(by kernel_rfl),Tryz.func135.trans (congrArg some (by kernel_rfl))⟩
 t0:=pG
 a0:=Cs
 z0:=yM
 v0:=qD
 t4:=jV
 a4:=MR
 z4:=Fj
 v4:=wm
 t23:=gF
 a23:=Tryz.isAgg142
 z23:=Tryz.sizeOf142
 v23:=Tryz.zeroValue142
 t26:=gQ
 a26:=Cr
 z26:=yL
 v26:=qC
 t27:=Tryz.underlying153
 a27:=Tryz.isAgg153
 z27:=Tryz.sizeOf153
 v27:=Tryz.zeroValue153
 t28:=Tryz.underlying154
 a28:=Tryz.isAgg154
 z28:=Tryz.sizeOf154
 v28:=Tryz.zeroValue154
 t33:=Tryz.underlying164
 a33:=Tryz.isAgg164
 z33:=Tryz.sizeOf164
 v33:=Tryz.zeroValue164
theorem I7:SlLaysZI.n6 Tryz.prog Am where
 mixed:=by kernel_rfl
 f6:=⟨Tryz.f86.name,(by kernel_rfl),Tryz.func86.trans (congrArg some (by kernel_rfl))⟩
 f8:=⟨Tryz.f133.name,(by kernel_rfl),Tryz.func133.trans (congrArg some (by kernel_rfl))⟩
 f11:=⟨Tryz.f169.name,(by kernel_rfl),Tryz.func169.trans (congrArg some (by kernel_rfl))⟩
 t0:=pG
 a0:=Cs
 z0:=yM
 v0:=qD
 t24:=bG
 a24:=Tryz.isAgg151
 z24:=Tryz.sizeOf151
 v24:=Tryz.zeroValue151
 t26:=gQ
 a26:=Cr
 z26:=yL
 v26:=qC
 t28:=Tryz.underlying154
 a28:=Tryz.isAgg154
 z28:=Tryz.sizeOf154
 v28:=Tryz.zeroValue154
 i26:=by kernel_rfl
end Go.Proofs.YtpgdljlghiifjaaGreatDoor
namespace Go.Proofs.YtpgdljlghiifjaaGreatDoor
open Go.RowKit Go.Maps Go.Sort Go.Shelf
theorem AX:∀{a b:List Int},a.Pairwise (· < ·)->b.Pairwise (· < ·)->(∀x,x∈a↔x∈b)->a=b
 |[],[],_,_,_=>rfl
 |[],y::b,_,_,h=>by have:=(h y).2 (bF ..);cases this
 |x::a,[],_,_,h=>by have:=(h x).1 (bF ..);cases this
 |x::a,y::b,ha,hb,h=>by
  obtain⟨ha1,ha2⟩:=fw.1 ha
  obtain⟨hb1,hb2⟩:=fw.1 hb
  have hxy:x=y:=by
   rcases bX.1 ((h x).1 (bF ..)) with e|e
   ·exact e
   ·rcases bX.1 ((h y).2 (bF ..)) with e'|e'
    ·exact e'.symm
    ·have:=hb1 x e;have:=ha1 y e';omega
  subst hxy
  rw[AX ha2 hb2 (fun z=> ?_)]
  constructor
  ·intro hz
   rcases bX.1 ((h z).1 (bq _ hz)) with e|e
   ·have:=ha1 z hz;omega
   ·exact e
  ·intro hz
   rcases bX.1 ((h z).2 (bq _ hz)) with e|e
   ·have:=hb1 z hz;omega
   ·exact e
theorem Gt {im:Im}{n:Nat}(ho:im.Ok n){D:DataW Unit}(hT:∃es,D= .map es/\es.Pairwise (fun p q=>p.1≠q.1)/\∀p∈es,WideAt.IsKeyLit p.1)(h0:∀kl,Maps.has D kl=true->∃k:Nat,kl=kI k)(h1:∀k:Nat,Maps.has D (kI k)=decide (k∈im.ks))(ss:List Int)(hp:ss.Perm (intKeys D)):
  ss.mergeSort (fun x y=>decide (x<=y))=im.ks.map (fun k:Nat=>(k:Int)):=by
 obtain⟨es,rfl,hpw,hkl⟩:=hT
 have hk:∀p∈es,∃k:Nat,p.1=kI k/\k∈im.ks:=fun p hp=>by
  have hh:Maps.has (.map es) p.1=true:=by
   rw[Maps.has_eq,qa]
   exact⟨p,hp,WideAt.sameKey_self (hkl p hp)⟩
  obtain⟨k,hk⟩:=h0 _ hh
  refine⟨k,hk,?_⟩
  have:=h1 k
  rw[<-hk,hh] at this
  exact fG this.symm
 have hnd:(intKeys (.map es:DataW Unit)).Nodup:=by
  show (es.map fun p=>Go.intOf p.1).Nodup
  refine tT.2 (hpw.imp_of_mem (fun {p q} hp hq hne he=>hne ?_))
  obtain⟨a,ha,_⟩:=hk p hp
  obtain⟨b,hb,_⟩:=hk q hq
  rw[ha,hb] at he ⊢
  exact congrArg kI he
 have hs1:(ss.mergeSort (fun x y=>decide (x<=y))).Pairwise fun a b=>decide (a<=b)=true:=List.pairwise_mergeSort (fun a b c h1 h2=>by simp at*;omega) (fun a b=>by simp;omega) ss
 have hp2:=(yI ss (fun x y=>decide (x<=y))).trans hp
 have hs2:(ss.mergeSort (fun x y=>decide (x<=y))).Nodup:=hp2.nodup_iff.2 hnd
 have hs3:(ss.mergeSort (fun x y=>decide (x<=y))).Pairwise (· < ·):=hs1.imp₂ (fun a b h h'=>by simp at h;omega) hs2
 refine AX hs3 (tT.2 (ho.rise.imp (fun h=>by omega))) (fun x=> ?_)
 rw[hp2.mem_iff,dL]
 constructor
 ·intro hx
  obtain⟨p,hp,rfl⟩:=dL.1 (show x∈es.map fun p=>Go.intOf p.1 from hx)
  obtain⟨k,hk,hm⟩:=hk p hp
  exact⟨k,hm,by rw[hk];rfl⟩
 ·rintro⟨k,hm,rfl⟩
  have hh:=h1 k
  rw[bZ hm,Maps.has_eq,qa] at hh
  obtain⟨p,hp,he⟩:=hh
  have e:=WideAt.sameKey_eq he
  show (k:Int)∈es.map fun p=>Go.intOf p.1
  exact dL.2 ⟨p,hp,by rw[e];rfl⟩
theorem QR (mb:Nat)(w:World):Calls Tryz.prog 87 #[.map (some mb)] w fun e w'=>e= .returned (.func (.func 135) #[] #[.pointer (some ⟨w.heap.size,0,none⟩)])/\w'=w.alloc (.cells #[.map (some mb)] 142):=
 callsIn_wide.1 (AnyZI.keys_in Gu Fence.wide 5 trivial rfl (some mb) w)
theorem PY (m:Nat):AnyZI.SortsIn Tryz.prog Am Fence.wide m:=
 ⟨fun blk off cap ss W hH hblk hsz=>callsIn_wide.2 (Any.slices_Sort_int xG blk off cap ss W hH hblk hsz),
  fun p cap W=>callsIn_wide.2 (Any.slices_Sort_int_none xG p cap W)⟩
theorem Kr (b Bm:Nat)(im:Im)(n:Nat)(w:World)(h:kR w b im)(ho:im.Ok n)(hn:n<=4096)(hc:w.cell? ⟨Bm,0,none⟩=some (.map (some b)))(hB:Bm<w.heap.size):
  Calls Tryz.prog 86 #[.func (.func 135) #[] #[.pointer (some ⟨Bm,0,none⟩)]] w fun e w'=>∃v,e= .returned v/\aT w' fH w.heap.size 3 1 v im.ks.length ((im.ks.map fun k:Nat=>(k:Int)).map (.int .i64))/\Below w.heap.size w w':=by
 obtain⟨D,hD,hs,h0,h1,h2⟩:=h
 have hlen:=xJ _ _ ho.rise ho.hi
 have hseq:SeqGives Fence.wide 2 Tryz.prog 135 #[.pointer (some ⟨Bm,0,none⟩)] encZ (fun ss=>ss.Perm (intKeys D)) (Maps.size D) w:=
  AnyZI.keys_gives (ρ:=Am) {Gu with} Fence.wide _ trivial rfl (by omega) Bm b 5000 D w hB hc hD
 have cS:=AnyZI.sorted_in I7 Fence.wide 5 trivial trivial trivial trivial rfl (by omega) (PY _) (enters_of Tryz.func134 (by kernel_rfl) rfl) 135 #[.pointer (some ⟨Bm,0,none⟩)] trivial (enters_of Tryz.func135 (by kernel_rfl) rfl) _ (Maps.size D) (by rw[hs];simp only[maxLen];omega) (by rw[hs];omega) w hseq
 have c2:=callsIn_wide.1 cS
 refine Calls.mono (show Calls Tryz.prog 86 _ _ _ from c2) ?_
 rintro e w' ⟨v,ss,rfl,hS,hrow,hnil,hb⟩
 have hk:=Gt ho (hD.entries jr) h0 h1 ss hS
 have hl:ss.length=im.ks.length:=by
  have:=congrArg List.length hk
  rwa [List.length_mergeSort,eX] at this
 rw[hk,hl] at hrow
 exact⟨v,rfl,⟨hrow,fun g _ h=>h.elim⟩,hb⟩
end Go.Proofs.YtpgdljlghiifjaaGreatDoor
namespace Go.Proofs.YtpgdljlghiifjaaGreatDoor
open Go.RowKit
theorem Dk.vG {σ:Dk}(h:σ.sync.2=0):σ.sync.1.waits=[]:=by
 unfold Dk.sync at h ⊢
 split at h
 ·cases h
 ·split at h
  ·cases h
  ·rename_i h1 h2
   rw[if_neg h1,if_neg h2]
   rfl
theorem Lg.vL {σ:Dk}{l:Lg}(h:(l.mark σ).2.2=0):(l.mark σ).1.waits=[]/\(l.mark σ).2.1=l:=by
 unfold Lg.mark at h ⊢
 split at h
 ·rename_i h1
  split at h
  ·rename_i h2
   rw[if_pos h1,if_pos h2]
   exact⟨Dk.vG h2,rfl⟩
  ·cases h
 ·cases h
theorem Lg.vG {σ:Dk}{l:Lg}(h:(l.sync σ).2.2=0):(l.sync σ).1.waits=[]/\(l.sync σ).2.1=l.all/\l.dead=false:=by
 unfold Lg.sync at h ⊢
 split at h
 ·cases h
 ·rename_i hd
  split at h
  ·rename_i h1
   split at h
   ·rename_i h2
    rw[if_neg hd,if_pos h1,if_pos h2]
    have:=Lg.vL h2
    exact⟨this.1,this.2,by simpa using hd⟩
   ·cases h
  ·cases h
theorem Lg.NY (σ:Dk)(l:Lg):(l.mark σ).1.n=σ.n:=by
 unfold Lg.mark
 split
 ·split<;>rw[Dk.nH,Dk.pW]
 ·rw[Dk.pW]
theorem Lg.nH (σ:Dk)(l:Lg):(l.sync σ).1.n=σ.n:=by
 unfold Lg.sync
 split
 ·rfl
 ·split
  ·split<;>rw[Lg.NY,Dk.nH]
  ·exact Dk.nH σ
theorem Lg.C8 (σ:Dk)(l:Lg):(l.sync σ).2.1.frm=l.frm/\(l.sync σ).2.1.n=l.n/\(l.sync σ).2.1.last=l.last:=by
 unfold Lg.sync
 split
 ·exact⟨rfl,rfl,rfl⟩
 ·split
  ·split
   ·rename_i h
    rw[(Lg.vL h).2]
    exact⟨rfl,rfl,rfl⟩
   ·exact⟨rfl,rfl,rfl⟩
  ·exact⟨rfl,rfl,rfl⟩
theorem Lg.Nj (σ:Dk)(l:Lg)(u:Nat):(l.trim σ u).1.n=σ.n:=by
 unfold Lg.trim
 split
 ·rfl
 ·split
  ·rfl
  ·split<;>exact Lg.NY _ _
theorem Lg.Le (σ:Dk)(l:Lg)(u:Nat):(l.trim σ u).2.1.frm=l.frm/\(l.trim σ u).2.1.n=l.n:=by
 unfold Lg.trim
 split
 ·exact⟨rfl,rfl⟩
 ·split
  ·exact⟨rfl,rfl⟩
  ·split
   ·rename_i h
    rw[(Lg.vL h).2]
    exact⟨rfl,rfl⟩
   ·exact⟨rfl,rfl⟩
theorem Pg.Ok.turn {p:Pg}{σ σ':Dk}{l l':Lg}(h:p.Ok σ l)(hn:σ'.n=σ.n)(hf:l'.frm=l.frm)(hl:l'.n=l.n):p.Ok σ' l':=
 ⟨hf.trans h.frm,h.skip.trans hl.symm,h.ring.trans hl.symm,by rw[hl,hn];exact h.fit,by rw[hn];exact h.fresh⟩
def Three (Sd Sl Sp:Nat->Prop):Nat->Prop:=fun g=>Sd g\/Sl g\/Sp g
theorem Af.pack {w:World}{Sd Sl Sp:Nat->Prop}{pg lg d fb:Nat}{σ:Dk}{l:Lg}{p:Pg}{op:Value}(h:Af w Sd Sl Sp pg lg d fb σ l p op):kP w (Three Sd Sl Sp) pg d σ l p op:=⟨Sd,Sl,Sp,lg,fb,h,fun _=>Iff.rfl⟩
theorem mE (pg d:Nat)(σ:Dk)(l:Lg)(p:Pg)(op:Value)(S S1:Nat->Prop)(q:Int)(w0 w:World)(h:kP w S1 pg d σ l p op)(hs:Step S S1 w0 w)(hq:q≠0):
  Calls Tryz.prog 93 #[.pointer (some ⟨pg,0,none⟩),.int .i64 q] w fun e w'=>e= .returned (.int .i64 10)/\∃S',kP w' S' pg d σ l p.dies op/\Step S S' w0 w':=
 (LJ pg d σ l p op S1 q w h hq).mono fun _ _ ⟨h1,h2,h3⟩=>⟨h1,S1,h2,hs.trans h3⟩
theorem Pg.Bt (p:Pg)(b:Nat)(r:List Nat)(σ:Dk):p.lay (b::r) σ=(if (σ.write ((p.skip+b:Nat):Int) (p.fresh.img b)).2=0 then p.lay r (σ.write ((p.skip+b:Nat):Int) (p.fresh.img b)).1 else((σ.write ((p.skip+b:Nat):Int) (p.fresh.img b)).1,10)):=rfl
theorem Af.anew {w:World}{Sd Sl Sp:Nat->Prop}{pg lg d fb:Nat}{σ:Dk}{l:Lg}{p:Pg}{op:Value}(h:Af w Sd Sl Sp pg lg d fb σ l p op):
  ∃Sp',Af ((w.setCell ⟨pg,4,none⟩ (.map (some w.heap.size))).alloc (.map #[] 0)) Sd Sl Sp' pg lg d w.heap.size σ l {p with fresh:=Im.none} op/\Step (Three Sd Sl Sp) (Three Sd Sl Sp') w ((w.setCell ⟨pg,4,none⟩ (.map (some w.heap.size))).alloc (.map #[] 0)):=by
 obtain⟨w1,hw1⟩:∃w1,w.setCell ⟨pg,4,none⟩ (.map (some w.heap.size))=w1:=⟨_,rfl⟩
 have hk:Keep (· =pg) w w1:=by rw[<-hw1];exact(Keep.refl (· =pg) _).setCell (p:=⟨pg,4,none⟩) (.inr rfl) _
 have hs1:w1.heap.size=w.heap.size:=by rw[<-hw1];simp
 have hka:Keep (fun _=>False) w1 (w1.alloc (.map #[] 0)):=(Keep.refl (fun _=>False) w1).alloc _
 have hl1:=h.log.keep hk (fun g hg e=>h.dd pg h.Cx (e▸hg)) (fun g hg e=>h.dl pg h.Cx (e▸hg))
 have hpl:=h.sub _ h.Cx
 have hdl:∀g,Sd g->g<w.heap.size:=h.log.dk.sub
 have hll:∀g,Sl g->g<w.heap.size:=h.log.lg.sub
 have ho1:w1.heap[pg]? =some (.cells #[.pointer (some ⟨d,0,none⟩),.pointer (some ⟨lg,0,none⟩),.int .i64 p.skip,.int .i64 p.ring,.map (some w.heap.size),op,.bool p.dead] 144 (0,0)):=by
  rw[<-hw1,je _ pg 4 _ _ _ h.obj];rfl
 rw[hw1]
 refine⟨fun g=>Sp g\/g=w.heap.size,⟨hl1.keep hka (fun _ _ e=>e) (fun _ _ e=>e),⟨h.ok.frm,h.ok.skip,h.ok.ring,h.ok.fit,Im.Ok.none _⟩,fun g hg=> ?_,fun g hg e=> ?_,fun g hg e=> ?_,.inl h.Cx,.inr rfl,?_,?_⟩,?_⟩
 ·have hs:w.heap.size+1=(w1.alloc (.map #[] 0)).heap.size:=by rw[aU,hs1]
  rw[<-hs]
  rcases hg with hg|hg
  ·have:=h.sub g hg;omega
  ·omega
 ·rcases hg with hg|hg
  ·exact h.dd g hg e
  ·have:=hdl g e;omega
 ·rcases hg with hg|hg
  ·exact h.dl g hg e
  ·have:=hll g e;omega
 ·exact(hka.block _ (by omega) id).trans ho1
 ·rw[<-hs1];exact kR.none w1
 ·refine⟨(hk.mono (fun _ _ e=> .inr (.inr (e▸h.Cx)))).trans hka (fun _ _ e=>e.elim),fun g hg=> ?_⟩
  rcases hg with hg|hg|hg|hg
  ·exact .inl (.inl hg)
  ·exact .inl (.inr (.inl hg))
  ·exact .inl (.inr (.inr hg))
  ·exact .inr (fU hg.symm)
theorem SX (pg d:Nat)(σ:Dk)(l:Lg)(p:Pg)(op:Value)(S:Nat->Prop)(w:World)(h:kP w S pg d σ l p op)(hcap:σ.waits.length<=90000):
  Calls Tryz.prog 91 #[.pointer (some ⟨pg,0,none⟩)] w fun e w'=>e= .returned (.int .i64 (p.home σ l).2.2.2)/\∃S',kP w' S' pg d (p.home σ l).1 (p.home σ l).2.1 (p.home σ l).2.2.1 op/\Step S S' w w':=by
 obtain⟨Sd,Sl,Sp,lg,fb,h,hS⟩:=h
 obtain⟨c0,c1,c2,_,c4,_,_,hlt,_⟩:=h.cells
 have HY:=af (QM lg d σ l Sd Sl w h.log (by omega))
 obtain⟨σ1,l1,q,HQ⟩:∃σ1 l1 q,Hid (l.sync σ=(σ1,l1,q)):=⟨_,_,_,af rfl⟩
 rw[HQ.out] at HY
 have HN1:=af (show σ1.n=σ.n by have:=Lg.nH σ l;rw[HQ.out] at this;exact this)
 have HS1:=af (show l1.frm=l.frm/\l1.n=l.n/\l1.last=l.last by have:=Lg.C8 σ l;rw[HQ.out] at this;exact this)
 have HH:=af h
 clear h c0 c2 c4
 go_enter Tryz.func91,Tryz.ntmps91
 go_wp2_with (first
  |(go_at_call 97;go_must (refine HY.out.mono ?_;rintro e w1 ⟨rfl,Sd1,Sl1,hA1,hT1⟩;refine Stop.of ?_)))
 refine Stop.on ?_
 have hP:=HH.out.turn hA1 hT1 (HH.out.ok.turn HN1.out HS1.out.1 HS1.out.2.1)
 have HP1:=af hP.1;have HT1:=af (hP.2.eqv hS (fun _=>Iff.rfl):Step S (Three Sd1 Sl1 Sp) w w1)
 clear hP hA1 hT1
 by_cases hq:q=0
 ·subst hq
  obtain⟨hw1,hl1,hld⟩:=Lg.vG (show (l.sync σ).2.2=0 by rw[HQ.out])
  rw[HQ.out] at hw1 hl1
  have HW1:=af hw1;have HL1:=af hl1;have HLD:=af hld;clear hw1 hl1 hld
  obtain⟨e0,_,_,_,e4,_,_,hlt1,_⟩:=HP1.out.cells
  have hfok:=HP1.out.ok.fresh
  have hn1:=HP1.out.log.dk.ok.hi
  have hbl:σ1.n - p.skip<=4096:=by omega
  have HLN:=af (xJ _ _ hfok.rise hfok.hi)
  have HSo:=af (Kr fb w1.heap.size p.fresh _ (w1.alloc (.cells #[.map (some fb)] 142)) (HP1.out.fr.block (pI _ _ _ HP1.out.fr.lt)) hfok hbl (by simp) (by simp))
  have HFO:=af hfok;have HBL:=af hbl;clear hfok hbl hn1
  go_wp2_with (first
   |(go_at_call 87;go_must (refine(QR fb _).mono ?_;rintro e w2 ⟨rfl,hw2⟩;subst w2))
   |(go_at_call 86;go_must (refine HSo.out.mono ?_;rintro e w3 ⟨v,rfl,hO,hb3⟩;refine Stop.of ?_)))
  refine Stop.on ?_
  have hb13:Below w1.heap.size w1 w3:=(aK w1 _).trans (hb3.mono (by simp))
  have HB13:=af hb13
  obtain⟨vo,vc,rfl,_,_,_,_⟩:=bJ.form hO.dI
  have hO':aT w3 (Three Sd1 Sl1 Sp) w1.heap.size 3 1 (.slice vo p.fresh.ks.length vc) p.fresh.ks.length ((p.fresh.ks.map fun k:Nat=>(k:Int)).map (.int .i64)):=by
   refine(hO.lower (by simp:w1.heap.size<=_)).other (fun g hg hs=> ?_)
   exact absurd (HP1.out.pack.sub g hs) (by omega)
  have HO:=af hO'.dI
  have HP3:=af (HP1.out.keep (Keep.of_below hb13 fH) (fun _ _ e=>e))
  have HT3:=af (HT1.out.trans (Step.of_below hb13))
  clear hb13 hb3 hO hO' e0 e4 HSo
  go_wp2_with fail
  go_loopw [27] (fun i wr=>∃(k:Nat) (Sd2:Nat->Prop) (τ:Dk),k<=p.fresh.ks.length/\i= .int .i64 k/\Hid (Af wr Sd2 Sl1 Sp pg lg d fb τ l1 p op)/\Hid (Step S (Three Sd2 Sl1 Sp) w wr)/\Hid (τ.waits.length<=k)/\Hid (p.lay p.fresh.ks σ1=p.lay (p.fresh.ks.drop k) τ)/\
   Hid (bJ wr (Three Sd2 Sl1 Sp) 1 (.slice vo p.fresh.ks.length vc) p.fresh.ks.length ((p.fresh.ks.map fun k:Nat=>(k:Int)).map (.int .i64)))) (fun i _=>p.fresh.ks.length - (intOf i).toNat)
  case atStart=>exact⟨0,Sd1,σ1,aX _,rfl,HP3,HT3,af (by rw[HW1.out];exact aG _),af rfl,HO⟩
  case round=>
   obtain⟨k,Sd2,τ,hk,rfl,HPr,HTr,HWt,HLy,HOr⟩:=hrel
   obtain⟨e0,e1,e2,_,e4,_,_,hltw,hfz⟩:=HPr.out.cells
   have hkn:k<=4096:=by have:=HLN.out;have:=HBL.out;omega
   by_cases hlt:k<p.fresh.ks.length
   ·have hltI:(k:Int)<(p.fresh.ks.length:Int):=by omega
    obtain⟨b,HB⟩:∃b,Hid (p.fresh.ks[k]=b):=⟨_,af rfl⟩
    have hbm:b∈p.fresh.ks:=by rw[<-HB.out];exact bD hlt
    have hb1:=HFO.out.hi b hbm
    have hbw:=yU (b:Int) (by omega) (by have:=HBL.out;omega)
    obtain⟨kb,kq,rfl,hkc⟩:=bJ.yD HOr.out rfl k (.int .i64 (b:Int)) (by simp[aW hlt,HB.out])
    obtain⟨D,hD,hh,hat⟩:=HPr.out.fr.look b
    have hz:(zeroValue 157).run Tryz.prog wr= .ok (.agg (aL zB).toArray) wr:=jM wr
    obtain⟨v1,ps1,hrun,hv1⟩:=hD.lookup jr gF hz vH (pY b hbw)
    obtain⟨x,hx,rfl,hdx⟩:=uq hv1
    have hxe:x=p.fresh.img b:=by
     have h1:=(hat hbm).symm.trans hdx
     injection h1 with h1
     injection h1 with h1
     exact h1.symm
    have HXE:=af hxe;have HX:=af hx
    clear hv1 hdx hat hh hD hxe hx
    have hr1:Row (wr.alloc (.cells (aL zB).toArray 157)) wr.heap.size 157 (aL zB):=Row.new wr _ _
    have hz1:=af (show (aL zB).length=512 by rw[bS,iM])
    have hb5:=af (show (aL x).length=512 by rw[bS,HX.out])
    have hone:=iD x
    have hll:p.fresh.ks.length<=4096:=by have:=HLN.out;have:=HBL.out;omega
    go_wp2_with (first
     |((refine dW rfl ?_);intro K hK;(refine jg 157 rfl _ jM ?_);refine hK _ _ ?_)
     |((refine dW rfl ?_);intro K hK;(refine wp_store_row 157 _ _ rfl wr.heap.size 0 157 _ (aL x) rfl rfl hr1 (kK.trans (congrArg some hb5.out.symm)) (by rw[hz1.out,hb5.out];omega) hone ?_);intro w4 hr4 hk4;refine hK _ _ (Stop.of ?_)))
    refine Stop.on ?_
    rw[nI _ _ (hz1.out.trans hb5.out.symm)] at hr4
    have hb4:Below wr.heap.size wr w4:=(((Keep.refl (fun _=>False) wr).alloc _).trans (hk4.mono (M':=fun g=>g=wr.heap.size) (fun _ _ e=>e)) (fun i hi e=>by omega)).below
    have hP4:=HPr.out.keep (Keep.of_below hb4 fH) (fun _ _ e=>e)
    have hx4:bJ w4 Sd2 1 (.slice (some ⟨wr.heap.size,0,none⟩) 512 512) x.length (aL x):=by
     have:=hr4.dI (S:=Sd2) (k:=1) (off:=0) 512 512 (by rw[hb5.out];omega) (fun hs=>absurd (HPr.out.log.dk.sub _ hs) (dM _)) (aG _) (by simp[maxLen])
     rw[fo,aQ (by rw[hb5.out];omega)] at this
     rw[HX.out];exact this
    have hbd:=(aO w4.heap.size w4).drew
    have hτn:=HPr.out.log.dk.ok.hi
    have HP4:=af hP4
    have HW4:=af (EO d τ Sd2 ((p.skip+b:Nat):Int) (.slice (some ⟨wr.heap.size,0,none⟩) 512 512) x w4.drew (hP4.log.dk.below hbd) (hx4.below hbd) (by have:=HWt.out;omega))
    have HT4:=af (HTr.out.trans (Step.of_below hb4))
    have HO4:=af (HOr.out.below hb4)
    have hsk:p.skip+b<=1000000:=by have:=HBL.out;have:=HPr.out.ok.fit;have:=HPr.out.ok.skip;omega
    have a1:IntKind.i64.wrap ((p.skip:Int)+(b:Int))=((p.skip+b:Nat):Int):=by rw[aM _ (by omega)];omega
    obtain⟨z,HZ⟩:∃z:Nat,Hid (p.skip+b=z):=⟨_,af rfl⟩
    rw[HZ.out] at HW4 a1
    obtain⟨f0,_,f2,_,_,_,_,hlt4,_⟩:=hP4.cells
    clear hP4 hx4 hr4 hk4 hr1 hone hz hrun e0 e2 e4 hfz
    go_wp2_with fail
    refine aS (fun W=>W.cell? ⟨pg,0,none⟩=some (.pointer (some ⟨d,0,none⟩))/\W.cell? ⟨pg,2,none⟩=some (.int .i64 p.skip)/\pg<W.heap.size) (fun i=> !([11].contains i)) [0,1,2,3,4,5,6,7,8,9,10,11,12] rfl (by kernel_rfl) ⟨f0,f2,hlt4⟩ ?_
    repeat ((refine bL (v:= ?_) rfl rfl (fun _ _ _ h=>h) rfl (fun W hW=> ?_) ?_);rotate_left;(focus ((try dsimp only at hW);have r0:=hW.1;have r1:=hW.2.1;have r2:=hW.2.2;(go_simp;first|done|with_reducible rfl)));(try simp only[Act.put,ah,au,ak]))
    refine dm rfl rfl rfl ?_;intro K hK;go_simp
    obtain⟨τ5,q,HQ5⟩:∃τ5 q,Hid (τ.write ((z:Nat):Int) x=(τ5,q)):=⟨_,_,af rfl⟩
    rw[HQ5.out] at HW4
    refine HW4.out.mono ?_;rintro e w5 ⟨rfl,Sd5,hD5,hs5⟩
    have HN5:=af (show τ5.n=τ.n by have:=τ.pW ((z:Nat):Int) x;rw[HQ5.out] at this;exact this)
    have HWt5:=af (show τ5.waits.length<=k+1 by have:=τ.zF ((z:Nat):Int) x;rw[HQ5.out] at this;have h2:=HWt.out;have:τ5.waits.length<=τ.waits.length+1:=this;omega)
    have hA5:=HP4.out.log.disk hD5 ((Step.of_below hbd).trans hs5) HN5.out
    have hP5:=HP4.out.turn hA5.1 hA5.2 (HP4.out.ok.turn HN5.out rfl rfl)
    have HP5:=af hP5.1;have HT5:=af (HT4.out.trans (hP5.2:Step (Three Sd2 Sl1 Sp) (Three Sd5 Sl1 Sp) w4 w5))
    have HO5:=af (HO4.out.step (hP5.2:Step (Three Sd2 Sl1 Sp) (Three Sd5 Sl1 Sp) w4 w5))
    obtain⟨j0,_,j2,_,_,_,_,hlt5,_⟩:=hP5.1.cells
    clear hA5 hP5 hD5 hs5 hbd f0 f2 hlt4
    refine hK.out _ _ ⟨j0,j2,hlt5⟩ ?_
    repeat ((refine bL (v:= ?_) rfl rfl (fun _ _ _ h=>h) rfl (fun W hW=> ?_) ?_);rotate_left;(focus ((try dsimp only at hW);have r0:=hW.1;have r1:=hW.2.1;have r2:=hW.2.2;(go_simp;first|done|with_reducible rfl)));(try simp only[Act.put,ah,au,ak]))
    refine bR ?_
    have hly:p.lay (p.fresh.ks.drop k) τ=if q=0 then p.lay (p.fresh.ks.drop (k+1)) τ5 else(τ5,10):=by
     rw[bT hlt,HB.out,p.Bt,HZ.out,<-HXE.out,HQ5.out]
    by_cases hq:q=0
    ·subst hq
     rw[if_pos rfl] at hly
     have HLy5:=af (HLy.out.trans hly)
     clear hly
     go_wp2_with fail
     go_roundw
     case rel=>exact⟨k+1,Sd5,τ5,by omega,by go_num,HP5,HT5,HWt5,HLy5,HO5⟩
     case measure=>simp[intOf];omega
    ·rw[if_neg hq] at hly
     have hq':(q !=0)=true:=by simpa using hq
     have HM:=af (show p.home σ l=(τ5,l1,p.dies,10) by
      unfold Pg.home
      rw[HQ.out]
      dsimp only
      rw[HLy.out,hly]
      simp)
     have HFB:=af (mE pg d τ5 l1 p op S _ q w w5 HP5.out.pack HT5.out hq)
     clear hly
     go_wp2_with (first
      |(go_at_call 93;go_must (refine HFB.out.mono ?_;rintro e w10 ⟨rfl,S10,hP10,hs10⟩)))
     go_ret
     rw[HM.out]
     exact⟨rfl,S10,hP10,hs10⟩
   ·obtain rfl:k=p.fresh.ks.length:=by omega
    rw[ku] at HLy
    have HLZ:=af (show p.lay p.fresh.ks σ1=(τ,0) from HLy.out)
    have HF:=af (EP d τ Sd2 wr HPr.out.log.dk (by have:=HWt.out;omega))
    obtain⟨ρ,q,HR⟩:∃ρ q,Hid (τ.sync=(ρ,q)):=⟨_,_,af rfl⟩
    rw[HR.out] at HF
    have HRN:=af (show ρ.n=τ.n by have:=τ.nH;rw[HR.out] at this;exact this)
    have HRW:=af (show ρ.waits.length<=τ.waits.length by have:=τ.AL;rw[HR.out] at this;exact this)
    clear HO HOr
    go_wp2_with (first
     |(go_at_call 131;go_must (refine HF.out.mono ?_;rintro e w6 ⟨rfl,hD6,hs6⟩;refine Stop.of ?_)))
    refine Stop.on ?_
    have hA6:=HPr.out.log.disk hD6 hs6 HRN.out
    have hP6:=HPr.out.turn hA6.1 hA6.2 (HPr.out.ok.turn HRN.out rfl rfl)
    have HP6:=af hP6.1;have HT6:=af (HTr.out.trans (hP6.2:Step (Three Sd2 Sl1 Sp) (Three Sd2 Sl1 Sp) wr w6))
    clear hA6 hP6 hD6 hs6 e0 e1 e2 e4 hfz hltw
    by_cases hq:q=0
    ·subst hq
     obtain⟨f0,f1,_,_,_,_,_,hlt6,_⟩:=HP6.out.cells
     have HLa:=af (M6 lg d l1 Sl1 w6.drew (HP6.out.log.lg.keep (Keep.of_below ((aO _ w6).drew) fH) (fun _ _ e=>e)))
     have hTm:=SE lg d ρ l1 Sd2 Sl1 w6.drew (HP6.out.log.below ((aO _ w6).drew)) (by rw[HL1.out];exact HLD.out) (by rw[HL1.out];rfl) (by have:=HRW.out;have:=HWt.out;omega)
     obtain⟨u,HU⟩:∃u,Hid (l1.last=u):=⟨_,af rfl⟩
     rw[HU.out] at HLa hTm
     obtain⟨φ,m,r,HX⟩:∃φ m r,Hid (l1.trim ρ u=(φ,m,r)):=⟨_,_,_,af rfl⟩
     have HXN:=af (show φ.n=ρ.n by have:=Lg.Nj ρ l1 u;rw[HX.out] at this;exact this)
     have HXS:=af (show m.frm=l1.frm/\m.n=l1.n by have:=Lg.Le ρ l1 u;rw[HX.out] at this;exact this)
     rw[HX.out] at hTm
     have HTm:=af hTm;clear hTm
     go_wp2_with fail
     refine aS (fun W=>W.cell? ⟨pg,1,none⟩=some (.pointer (some ⟨lg,0,none⟩))/\pg<W.heap.size) (fun i=> !([8,9].contains i)) [0,1,2,3,4,5,6,7,8,9,10] rfl (by kernel_rfl) ⟨f1,hlt6⟩ ?_
     repeat ((refine bL (v:= ?_) rfl rfl (fun _ _ _ h=>h) rfl (fun W hW=> ?_) ?_);rotate_left;(focus ((try dsimp only at hW);have r1:=hW.1;have r2:=hW.2;(go_simp;first|done|with_reducible rfl)));(try simp only[Act.put,ah,au,ak]))
     refine dm rfl rfl rfl ?_;intro K hK;go_simp
     refine HLa.out.mono ?_;rintro e w8 ⟨rfl,hw8⟩;subst w8
     refine hK.out _ _ ⟨f1,hlt6⟩ ?_
     refine dm rfl rfl rfl ?_;intro K hK;go_simp
     refine HTm.out.mono ?_;rintro e w9 ⟨rfl,Sd9,Sl9,hA9,hT9⟩
     have hP9:=HP6.out.turn hA9 ((Two.of_below ((aO _ w6).drew)).trans hT9) (HP6.out.ok.turn HXN.out HXS.out.1 HXS.out.2)
     have HP9:=af hP9.1;have HT9:=af (HT6.out.trans (hP9.2:Step (Three Sd2 Sl1 Sp) (Three Sd9 Sl9 Sp) w6 w9))
     obtain⟨j0,j1,j2,j3,j4,j5,j6,hlt9,hfz9⟩:=hP9.1.cells
     have hf4:=hfz9 4
     clear hP9 hA9 hT9 f0 f1 hlt6
     refine hK.out _ _ ⟨j1,hlt9⟩ ?_
     repeat ((refine bL (v:= ?_) rfl rfl (fun _ _ _ h=>h) rfl (fun W hW=> ?_) ?_);rotate_left;(focus ((try dsimp only at hW);have r1:=hW.1;have r2:=hW.2;(go_simp;first|done|with_reducible rfl)));(try simp only[Act.put,ah,au,ak]))
     refine bR ?_
     by_cases hr:r=0
     ·subst hr
      have HM:=af (show p.home σ l=(φ,m,{p with fresh:=Im.none},0) by
       unfold Pg.home
       rw[HQ.out]
       dsimp only
       rw[HLZ.out]
       dsimp only
       rw[HR.out]
       dsimp only
       rw[HU.out,HX.out]
       simp)
      have hmk:∀w:World,(Instr.makeMap 142 none).run Tryz.prog w= .ok (.map (some w.heap.size)) (w.alloc (.map #[] 0)):=fun w=>run_makeMap _ w
      go_wp2_with fail
      go_ret
      rw[HM.out]
      obtain⟨Sp',hPn,hTn⟩:=HP9.out.anew
      exact⟨rfl,_,hPn.pack,HT9.out.trans hTn⟩
     ·have hr':(r !=0)=true:=by simpa using hr
      have HM:=af (show p.home σ l=(φ,m,p.dies,10) by
       unfold Pg.home
       rw[HQ.out]
       dsimp only
       rw[HLZ.out]
       dsimp only
       rw[HR.out]
       dsimp only
       rw[HU.out,HX.out]
       simp[hr])
      have HFB:=af (mE pg d φ m p op S _ r w w9 HP9.out.pack HT9.out hr)
      go_wp2_with (first
       |(go_at_call 93;go_must (refine HFB.out.mono ?_;rintro e w10 ⟨rfl,S10,hP10,hs10⟩)))
      go_ret
      rw[HM.out]
      exact⟨rfl,S10,hP10,hs10⟩
    ·have hq':(q !=0)=true:=by simpa using hq
     have HM:=af (show p.home σ l=(ρ,l1,p.dies,10) by
      unfold Pg.home
      rw[HQ.out]
      dsimp only
      rw[HLZ.out]
      dsimp only
      rw[HR.out]
      simp[hq])
     have HFB:=af (mE pg d ρ l1 p op S _ q w w6 HP6.out.pack HT6.out hq)
     go_wp2_with (first
      |(go_at_call 93;go_must (refine HFB.out.mono ?_;rintro e w10 ⟨rfl,S10,hP10,hs10⟩)))
     go_ret
     rw[HM.out]
     exact⟨rfl,S10,hP10,hs10⟩
 ·have hq':(q !=0)=true:=by simpa using hq
  have HE:=af (show p.home σ l=(σ1,l1,p.dies,10) by unfold Pg.home;rw[HQ.out];simp[hq])
  have HFB:=af (mE pg d σ1 l1 p op S _ q w w1 HP1.out.pack HT1.out hq)
  go_wp2_with (first
   |(go_at_call 93;go_must (refine HFB.out.mono ?_;rintro e w2 ⟨rfl,S2,hP2,hs2⟩)))
  go_ret
  rw[HE.out]
  exact⟨rfl,S2,hP2,hs2⟩
theorem SS (pg d:Nat)(σ:Dk)(l:Lg)(p:Pg)(op:Value)(S:Nat->Prop)(w:World)(h:kP w S pg d σ l p op)(hcap:σ.waits.length<=90000):
  Calls Tryz.prog 56 #[.pointer (some ⟨pg,0,none⟩)] w fun e w'=>e= .returned (.int .i64 (p.sync σ l).2.2.2)/\∃S',kP w' S' pg d (p.sync σ l).1 (p.sync σ l).2.1 (p.sync σ l).2.2.1 op/\Step S S' w w':=by
 have HPk:=af h
 obtain⟨Sd,Sl,Sp,lg,fb,h,hS⟩:=h
 obtain⟨c0,c1,c2,_,c4,_,c6,hlt,_⟩:=h.cells
 have HH:=af h
 clear h c2 c4
 cases hd:p.dead with
 |true=>
  rw[hd] at c6
  have HM:=af (show p.sync σ l=(σ,l,p,10) by unfold Pg.sync;simp[hd])
  go_enter Tryz.func56,Tryz.ntmps56
  go_wp2_with fail
  go_ret
  rw[HM.out]
  exact⟨rfl,S,HPk.out,Step.refl _ _⟩
 |false=>
  rw[hd] at c6
  have hbd:=(aO w.heap.size w).drew
  have hsy:=PL lg d l Sl w.drew (HH.out.log.lg.keep (Keep.of_below hbd fH) (fun _ _ e=>e))
  have HL:=af (M6 lg d l Sl w.drew (HH.out.log.lg.keep (Keep.of_below hbd fH) (fun _ _ e=>e)))
  have HDd:=af (Tz d σ Sd w.drew (HH.out.log.dk.below hbd))
  have HP0:=af (HH.out.keep (Keep.of_below hbd fH) (fun _ _ e=>e))
  have HT0:=af (show Step S (Three Sd Sl Sp) w w.drew from(Step.of_below hbd).eqv (fun _=>Iff.rfl) (fun g=>(hS g).symm))
  have HY:=af (QM lg d σ l Sd Sl w.drew (HH.out.log.below hbd) (by omega))
  obtain⟨σ1,l1,q,HQ⟩:∃σ1 l1 q,Hid (l.sync σ=(σ1,l1,q)):=⟨_,_,_,af rfl⟩
  rw[HQ.out] at HY
  have HN1:=af (show σ1.n=σ.n by have:=Lg.nH σ l;rw[HQ.out] at this;exact this)
  have HS1:=af (show l1.frm=l.frm/\l1.n=l.n/\l1.last=l.last by have:=Lg.C8 σ l;rw[HQ.out] at this;exact this)
  by_cases he:l.synced=l.last
  ·rw[he] at hsy
   have HSy:=af hsy;clear hsy
   have heq:((l.last:Int)==(l.last:Int))=true:=by simp
   go_enter Tryz.func56,Tryz.ntmps56
   go_wp2_with fail
   refine aS (fun W=>W=w.drew) (fun i=> !([4,9,16].contains i)) [0,1,2,3,5,6,7,8,4,9,10,11,12,13,14,15,16,17,18,19] rfl (by kernel_rfl) rfl ?_
   repeat ((refine bL (v:= ?_) rfl rfl (fun _ _ _ h=>h) rfl (fun W hW=> ?_) ?_);rotate_left;(focus ((try dsimp only at hW);subst hW;(go_simp;first|done|with_reducible rfl)));(try simp only[Act.put,ah,au,ak]))
   refine dm rfl rfl rfl ?_;intro K hK;go_simp
   refine HSy.out.mono ?_;rintro e w1 ⟨rfl,hw1⟩;subst w1
   refine hK.out _ _ rfl ?_
   refine dm rfl rfl rfl ?_;intro K hK;go_simp
   refine HL.out.mono ?_;rintro e w1 ⟨rfl,hw1⟩;subst w1
   refine hK.out _ _ rfl ?_
   repeat ((refine bL (v:= ?_) rfl rfl (fun _ _ _ h=>h) rfl (fun W hW=> ?_) ?_);rotate_left;(focus ((try dsimp only at hW);subst hW;(go_simp;first|done|with_reducible rfl)));(try simp only[Act.put,ah,au,ak]))
   refine dm rfl rfl rfl ?_;intro K hK;go_simp
   refine HDd.out.mono ?_;rintro e w1 ⟨rfl,hw1⟩;subst w1
   refine hK.out _ _ rfl ?_
   repeat ((refine bL (v:= ?_) rfl rfl (fun _ _ _ h=>h) rfl (fun W hW=> ?_) ?_);rotate_left;(focus ((try dsimp only at hW);subst hW;(go_simp;first|done|with_reducible rfl)));(try simp only[Act.put,ah,au,ak]))
   refine bR ?_
   cases hsd:σ.dead with
   |false=>
    have HM:=af (show p.sync σ l=(σ,l,p,0) by unfold Pg.sync;simp[hd,he,hsd])
    go_wp2_with fail
    go_ret
    rw[HM.out]
    exact⟨rfl,_,HP0.out.pack,HT0.out⟩
   |true=>
    have HC:=af (show ¬(l.synced=l.last/\σ.dead=false) from fun h=>by rw[hsd] at h;cases h.2)
    go_wp2_with (first
     |(go_at_call 97;go_must (refine HY.out.mono ?_;rintro e w2 ⟨rfl,Sd1,Sl1,hA1,hT1⟩;refine Stop.of ?_)))
    refine Stop.on ?_
    have hP1:=HP0.out.turn hA1 hT1 (HP0.out.ok.turn HN1.out HS1.out.1 HS1.out.2.1)
    have HP1:=af hP1.1;have HT1:=af (HT0.out.trans (hP1.2:Step (Three Sd Sl Sp) (Three Sd1 Sl1 Sp) w.drew w2))
    clear hP1 hA1 hT1
    by_cases hq:q=0
    ·subst hq
     have HM:=af (show p.sync σ l=(σ1,l1,p,0) by unfold Pg.sync;rw[HQ.out];simp[hd,HC.out])
     go_wp2_with (first
      |(go_at_call 93;go_must (refine(Ga pg _).mono ?_;rintro e w3 ⟨rfl,hw3⟩;subst w3)))
     go_ret
     rw[HM.out]
     exact⟨rfl,_,HP1.out.pack,HT1.out⟩
    ·have HM:=af (show p.sync σ l=(σ1,l1,p.dies,10) by unfold Pg.sync;rw[HQ.out];simp[hd,HC.out,hq])
     have HFB:=af (mE pg d σ1 l1 p op S _ q w w2 HP1.out.pack HT1.out hq)
     go_wp2_with (first
      |(go_at_call 93;go_must (refine HFB.out.mono ?_;rintro e w3 ⟨rfl,S3,hP3,hs3⟩)))
     go_ret
     rw[HM.out]
     exact⟨rfl,S3,hP3,hs3⟩
  ·have HSy:=af hsy;clear hsy
   have heI:¬((l.synced:Int)=(l.last:Int)):=by omega
   have heq:((l.synced:Int)==(l.last:Int))=false:=by simpa using heI
   have HC:=af (show ¬(l.synced=l.last/\σ.dead=false) from fun h=>he h.1)
   go_enter Tryz.func56,Tryz.ntmps56
   go_wp2_with fail
   refine aS (fun W=>W=w.drew) (fun i=> !([4,9].contains i)) [0,1,2,3,5,6,7,8,4,9,10,11,12,13,14,15,16,17,18,19] rfl (by kernel_rfl) rfl ?_
   repeat ((refine bL (v:= ?_) rfl rfl (fun _ _ _ h=>h) rfl (fun W hW=> ?_) ?_);rotate_left;(focus ((try dsimp only at hW);subst hW;(go_simp;first|done|with_reducible rfl)));(try simp only[Act.put,ah,au,ak]))
   refine dm rfl rfl rfl ?_;intro K hK;go_simp
   refine HSy.out.mono ?_;rintro e w1 ⟨rfl,hw1⟩;subst w1
   refine hK.out _ _ rfl ?_
   refine dm rfl rfl rfl ?_;intro K hK;go_simp
   refine HL.out.mono ?_;rintro e w1 ⟨rfl,hw1⟩;subst w1
   refine hK.out _ _ rfl ?_
   repeat ((refine bL (v:= ?_) rfl rfl (fun _ _ _ h=>h) rfl (fun W hW=> ?_) ?_);rotate_left;(focus ((try dsimp only at hW);subst hW;(go_simp;first|done|with_reducible rfl)));(try simp only[Act.put,ah,au,ak]))
   repeat (refine uE rfl rfl (fun _ _ _ h=>h) rfl ?_)
   repeat ((refine bL (v:= ?_) rfl rfl (fun _ _ _ h=>h) rfl (fun W hW=> ?_) ?_);rotate_left;(focus ((try dsimp only at hW);subst hW;(go_simp;first|done|with_reducible rfl)));(try simp only[Act.put,ah,au,ak]))
   refine bR ?_
   go_wp2_with (first
    |(go_at_call 97;go_must (refine HY.out.mono ?_;rintro e w2 ⟨rfl,Sd1,Sl1,hA1,hT1⟩;refine Stop.of ?_)))
   refine Stop.on ?_
   have hP1:=HP0.out.turn hA1 hT1 (HP0.out.ok.turn HN1.out HS1.out.1 HS1.out.2.1)
   have HP1:=af hP1.1;have HT1:=af (HT0.out.trans (hP1.2:Step (Three Sd Sl Sp) (Three Sd1 Sl1 Sp) w.drew w2))
   clear hP1 hA1 hT1
   by_cases hq:q=0
   ·subst hq
    have HM:=af (show p.sync σ l=(σ1,l1,p,0) by unfold Pg.sync;rw[HQ.out];simp[hd,HC.out])
    go_wp2_with (first
     |(go_at_call 93;go_must (refine(Ga pg _).mono ?_;rintro e w3 ⟨rfl,hw3⟩;subst w3)))
    go_ret
    rw[HM.out]
    exact⟨rfl,_,HP1.out.pack,HT1.out⟩
   ·have HM:=af (show p.sync σ l=(σ1,l1,p.dies,10) by unfold Pg.sync;rw[HQ.out];simp[hd,HC.out,hq])
    have HFB:=af (mE pg d σ1 l1 p op S _ q w w2 HP1.out.pack HT1.out hq)
    go_wp2_with (first
     |(go_at_call 93;go_must (refine HFB.out.mono ?_;rintro e w3 ⟨rfl,S3,hP3,hs3⟩)))
    go_ret
    rw[HM.out]
    exact⟨rfl,S3,hP3,hs3⟩
def strOf (l:List UInt8):ByteArray:=⟨l.toArray⟩
theorem El (a b:List UInt8):strOf a++strOf b=strOf (a++b):=by
 have h:(strOf a++strOf b).data=(strOf (a++b)).data:=by
  rw[ByteArray.data_append]
  simp[strOf]
 exact Ct h
theorem bJ.strOf {w:World}{S:Nat->Prop}{v:Value}{l:List UInt8}(h:bJ w S 1 v l.length (aL l)):(convert 101 9 v).run Tryz.prog w= .ok (.string (strOf l)) w:=
 jw.str (S:=S) (Go.Proofs.YtpgdljlghiifjaaGreatDoor.strOf l) h 101 9 5 bH kW eG
theorem qJ (x:Nat):IntKind.u8.wrap (x:Int)=(x:Int)%256:=by simp[IntKind.wrap,IntKind.bits,IntKind.signed]
theorem L6 (b:Nat):[Value.int .u8 (IntKind.u8.wrap (b:Int)),.int .u8 (IntKind.u8.wrap ((b:Int)/256)),.int .u8 (IntKind.u8.wrap ((b:Int)/65536)),.int .u8 (IntKind.u8.wrap ((b:Int)/16777216))]=aL (leB b 4):=by
 have e1:(b:Int)/256=((b/256:Nat):Int):=by omega
 have e2:(b:Int)/65536=((b/256/256:Nat):Int):=by omega
 have e3:(b:Int)/16777216=((b/256/256/256:Nat):Int):=by omega
 rw[e1,e2,e3,qJ,qJ,qJ,qJ]
 simp[leB,aL,zy]
theorem Qd (b:Nat)(x:List UInt8)(w:World)(_hb:b<=1000000)(hx:x.length=512):
  Calls Tryz.prog 88 #[.int .i64 b,.agg (aL x).toArray] w fun e w'=>e= .returned (.string (strOf (FZ b x)))/\Below w.heap.size w w':=by
 have hb5:=af (show (aL x).length=512 by rw[bS,hx])
 go_enter Tryz.func88,Tryz.ntmps88
 go_wp2_with (first
  |((refine dW rfl ?_);intro K hK;(refine Av 157 _ rfl (aL x) rfl ?_);refine hK _ _ (Stop.of ?_)))
 refine Stop.on ?_
 obtain⟨w2,HW2⟩:∃w2:World,Hid (w.alloc (.cells (aL x).toArray 157)=w2):=⟨_,af rfl⟩
 have hr2:Row w2 w.heap.size 157 (aL x):=by rw[<-HW2.out];exact Row.new w _ _
 have hb2:Below w.heap.size w w2:=by rw[<-HW2.out];exact((Keep.refl (fun _=>False) w).alloc _).below
 rw[HW2.out]
 have hsl:bJ w2 fH 1 (.slice (some ⟨w.heap.size,0,none⟩) 512 512) x.length (aL x):=by
  have:=hr2.dI (S:=fH) (k:=1) (off:=0) 512 512 (by rw[hb5.out];omega) id (aG _) (by simp[maxLen])
  rw[fo,aQ (by rw[hb5.out];omega)] at this
  rw[hx];exact this
 have HC:=af (fun (W:World) (hW:Below w2.heap.size w2 W)=>(hsl.below hW).strOf)
 go_wp2_with fail
 refine aS (fun W=>Below w2.heap.size w2 W) (fun i=> !([11,12].contains i)) [0,1,2,3,4,5,6,7,8,9,10,13,14,11,12,15,16] rfl (by kernel_rfl) ((aO _ w2).drew) ?_
 repeat ((refine bL (v:= ?_) rfl rfl (fun _ _ _ h=>h) rfl (fun W hW=> ?_) ?_);rotate_left;(focus ((try dsimp only at hW);have cv:=HC.out W hW;(go_simp;first|done|with_reducible rfl)));(try simp only[Act.put,ah,au,ak]))
 refine dm rfl rfl rfl ?_;intro K hK;go_simp
 obtain⟨w3,HW3⟩:∃w3:World,Hid ((w2.alloc (.cells #[.int .u8 (IntKind.u8.wrap (b:Int)),.int .u8 (IntKind.u8.wrap ((b:Int)/256)),.int .u8 (IntKind.u8.wrap ((b:Int)/65536)),.int .u8 (IntKind.u8.wrap ((b:Int)/16777216))] 5)).drew=w3):=⟨_,af rfl⟩
 have hr3:Row w3 w2.heap.size 5 (aL (leB b 4)):=by rw[<-HW3.out,<-L6];exact Row.new w2 _ _
 have hb3:Below w2.heap.size w2 w3:=by rw[<-HW3.out];exact((Keep.refl (fun _=>False) w2).alloc _).below.drew
 rw[HW3.out]
 refine hK.out _ _ hb3 ?_
 have hl4:=fO b 4
 have hsl4:bJ w3 fH 1 (.slice (some ⟨w2.heap.size,0,none⟩) 4 4) (leB b 4).length (aL (leB b 4)):=by
  have:=hr3.dI (S:=fH) (k:=1) (off:=0) 4 4 (by rw[bS,hl4];omega) id (aG _) (by simp[maxLen])
  rw[fo,aQ (by rw[bS,hl4];omega)] at this
  rw[hl4];exact this
 have hcv3:=hsl4.strOf
 refine dm rfl rfl rfl ?_;intro K hK;go_simp
 refine hK.out _ _ hb3 ?_
 have hadd:∀W:World,(Op.stringOp .add (strOf (leB b 4)) (strOf x)).run Tryz.prog W= .ok (.string (strOf (leB b 4)++strOf x)) W:=fun W=>run_string_add W _ _ (by show ((leB b 4).toArray.size:Int)<=_;simp[fO]) (by show (x.toArray.size:Int)<=_;simp[hx])
 repeat ((refine bL (v:= ?_) rfl rfl (fun _ _ _ h=>h) rfl (fun W hW=> ?_) ?_);rotate_left;(focus ((try dsimp only at hW);have cv:=HC.out W hW;(go_simp;first|done|with_reducible rfl)));(try simp only[Act.put,ah,au,ak]))
 refine bR ?_
 go_wp2_with fail
 go_ret
 exact⟨by rw[El];rfl,hb2.trans (hb3.mono hb2.size)⟩
def lK (n:Int):List UInt8:=(List.range 8).map fun i=>UInt8.ofNat (n/(256^i:Nat)%256).toNat
def lN (s:ByteArray):List UInt8:=lK s.size++s.data.toList
theorem gB (n:Int):(lK n).length=8:=by simp[lK]
structure bI where
 token:ByteArray
 path:List ByteArray
 deep:Bool
 excl:Bool
 owner:ByteArray
 till:Int
def oD (b:Bool):Int:=if b then 1 else 0
def bI.enc (l:bI):List UInt8:=lK l.till++(lK (oD l.deep)++(lK (oD l.excl)++(lN l.owner++(lK l.path.length++l.path.flatMap lN))))
def xC (n:Int)(i:Nat):Int:=(n%18446744073709551616)/(256^i:Nat)
theorem Li (n:Int)(i:Nat)(hi:i<8):xC n i=xC n (i+1)*256+n/(256^i:Nat)%256:=by
 unfold xC
 have h:i=0\/i=1\/i=2\/i=3\/i=4\/i=5\/i=6\/i=7:=by omega
 rcases h with rfl|rfl|rfl|rfl|rfl|rfl|rfl|rfl<;>simp only[Nat.reducePow,Nat.reduceAdd]<;>omega
theorem Nl (n:Int):xC n 8=0:=by unfold xC;simp only[Nat.reducePow];omega
theorem PW (n:Int)(i:Nat)(h:i<=8)(h1:1<=i):0<=xC n i/\xC n i<72057594037927936:=by
 unfold xC
 have h:i=1\/i=2\/i=3\/i=4\/i=5\/i=6\/i=7\/i=8:=by omega
 rcases h with rfl|rfl|rfl|rfl|rfl|rfl|rfl|rfl<;>simp only[Nat.reducePow]<;>omega
theorem Lf (n:Int)(h: -9223372036854775808<=n/\n<9223372036854775808):IntKind.i64.wrap (xC n 0)=n:=by
 unfold xC
 rw[iJ]
 simp only[Nat.reducePow]
 omega
theorem RF (c b:Int)(hc:0<=c/\c<72057594037927936)(hb:0<=b/\b<256):bits .or .i64 (IntKind.i64.wrap (c*256)) b=IntKind.i64.wrap (c*256+b):=by
 obtain⟨c,rfl⟩:=D8 hc.1
 obtain⟨b,rfl⟩:=D8 hb.1
 have e1:BitVec.ofInt 64 (IntKind.i64.wrap (((c:Nat):Int)*256))=BitVec.ofNat 64 (c*256):=by
  apply BitVec.eq_of_toNat_eq
  rw[BitVec.toNat_ofInt,lX,iJ]
  omega
 have e4:(BitVec.ofInt 64 (IntKind.i64.wrap (((c:Nat):Int)*256))|||BitVec.ofInt 64 ((b:Nat):Int)).toNat=c*256+b:=by
  rw[e1,pR,BitVec.toNat_or,lX,lX,nN (by omega),nN (by omega)]
  have:=yN (i:=8) (b:=b) (by omega) c
  rw[show c*256=2^8*c by omega,<-this]
 unfold bits
 show IntKind.i64.wrap (((BitVec.ofInt 64 (IntKind.i64.wrap (((c:Nat):Int)*256))|||BitVec.ofInt 64 ((b:Nat):Int)).toNat:Nat):Int)=_
 rw[e4]
 rfl
def within (a b:List ByteArray):Bool:=decide (b<+:a)
def bI.covers (l:bI)(p:List ByteArray):Bool:=within p l.path && (l.deep||decide (p.length=l.path.length))
def bI.clash (a b:bI):Bool:=(a.excl||b.excl) && (a.covers b.path||b.covers a.path)
theorem Oq {α:Type}(cur xs news:List α)(i n cap k:Nat)(hi:i<n)(hc:n+1<=cap)(hl:cur.length=cap*k)(hx:cur.take (n*k)=xs)(hnl:news.length=k):
  (splice cur ((i+1)*k) (xs.drop (i*k))).length=cap*k/\(splice (splice cur ((i+1)*k) (xs.drop (i*k))) (i*k) news).length=cap*k/\
  (splice (splice cur ((i+1)*k) (xs.drop (i*k))) (i*k) news).take ((n+1)*k)=xs.take (i*k)++news++xs.drop (i*k):=by
 have hik:i*k<=n*k:=dw _ (iA hi)
 have hik1:(i+1)*k<=n*k:=dw _ hi
 have hnk1:(n+1)*k<=cap*k:=dw _ hc
 rw[eY,kM] at hik1 hnk1
 have hxl:xs.length=n*k:=by rw[<-hx,aF];omega
 have e2:(xs.drop (i*k)).length=n*k - i*k:=by rw[aR,hxl]
 have hl1:(splice cur ((i+1)*k) (xs.drop (i*k))).length=cap*k:=by rw[eD _ _ _ (by rw[e2,eY,kM];omega)];exact hl
 have hl2:(splice (splice cur ((i+1)*k) (xs.drop (i*k))) (i*k) news).length=cap*k:=by rw[eD _ _ _ (by rw[hl1];omega)];exact hl1
 refine⟨hl1,hl2,?_⟩
 have e1:(cur.take (i*k)).length=i*k:=by rw[aF];omega
 have e3:xs.take (i*k)=cur.take (i*k):=by rw[<-hx,dJ,bQ (by omega)]
 have e4:splice cur ((i+1)*k) (xs.drop (i*k))=cur.take (i*k)++((cur.drop (i*k)).take k++(xs.drop (i*k)++cur.drop ((i+1)*k+(xs.drop (i*k)).length))):=by
  unfold splice
  rw[eY,kM,List.take_add,aN]
 rw[e4,oK _ _ _ _ _ e1 (by rw[aF,aR,hnl];omega),e3,<-aN,<-aN,
  bU (by simp only[ay,e1,e2,hnl,eY,kM];omega),aQ (by simp only[ay,e1,e2,hnl,eY,kM];omega)]
theorem Ma {α:Type}(cur rest xs news:List α)(i n c k:Nat)(hi:i<n)(hc:n+1<=c)(hx:cur.take (n*k)=xs)(hcl:n*k<=cur.length)(hl:(cur.take (i*k)++rest).length=c*k)(hnl:news.length=k):
  (splice (cur.take (i*k)++rest) (i*k) news).length=c*k/\(splice (splice (cur.take (i*k)++rest) (i*k) news) ((i+1)*k) (xs.drop (i*k))).length=c*k/\
  (splice (splice (cur.take (i*k)++rest) (i*k) news) ((i+1)*k) (xs.drop (i*k))).take ((n+1)*k)=xs.take (i*k)++news++xs.drop (i*k):=by
 have hik:i*k<=n*k:=dw _ (iA hi)
 have hik1:(i+1)*k<=n*k:=dw _ hi
 have hnk1:(n+1)*k<=c*k:=dw _ hc
 rw[eY,kM] at hik1 hnk1
 have hxl:xs.length=n*k:=by rw[<-hx,aF];omega
 have e2:(xs.drop (i*k)).length=n*k - i*k:=by rw[aR,hxl]
 have e1:(cur.take (i*k)).length=i*k:=by rw[aF];omega
 have e3:xs.take (i*k)=cur.take (i*k):=by rw[<-hx,dJ,bQ (by omega)]
 have hrl:rest.length=c*k - i*k:=by rw[ay,e1] at hl;omega
 have hl1:(splice (cur.take (i*k)++rest) (i*k) news).length=c*k:=by rw[eD _ _ _ (by rw[hl];omega)];exact hl
 have hl2:(splice (splice (cur.take (i*k)++rest) (i*k) news) ((i+1)*k) (xs.drop (i*k))).length=c*k:=by rw[eD _ _ _ (by rw[hl1,e2,eY,kM];omega)];exact hl1
 refine⟨hl1,hl2,?_⟩
 have e4:splice (cur.take (i*k)++rest) (i*k) news=(cur.take (i*k)++news)++((rest.drop k).take (n*k - i*k)++(rest.drop k).drop (n*k - i*k)):=by
  rw[bV]
  have:=oK (cur.take (i*k)) (rest.take k) (rest.drop k) news (i*k) e1 (by rw[aF,hnl];omega)
  rw[bV] at this
  rw[this,aN]
 rw[e4,oK _ _ _ _ _ (by simp only[ay,e1,hnl,eY,kM]) (by rw[e2,aF,aR];omega),e3,<-aN,
  bU (by simp only[ay,e1,e2,hnl,eY,kM];omega),aQ (by simp only[ay,e1,e2,hnl,eY,kM];omega)]
theorem JC (v:Value)(n:Nat)(xs:List Value)(vb:Nat)(news:List Value)(w:World)(S:Nat->Prop)(B:Nat)(hS:∀g,S g->g<w.heap.size)(hB:B<=w.heap.size)(h:aT w S B 130 2 v n xs)(hv:Row w vb 130 news)(hnl:news.length=2)(hone:∀u∈news,u.oneCell'=true)(hn:n<=1000000):
  Calls Tryz.prog 115 #[v,.int .i64 n,.slice (some ⟨vb,0,none⟩) 1 1] w fun e w'=>∃v',e= .returned v'/\aT w' S B 130 2 v' (n+1) (xs++news)/\Keep (fun g=>v.ownBlock=some g) w w'/\Below B w w':=by
 have hsrc:Src Tryz.prog 2 126 (.slice (some ⟨vb,0,none⟩) 1 1) 1 news w:=by
  have:=(hv.dI (S:=fH) (k:=2) (off:=0) 1 1 (by omega) id (aG _) (by simp[maxLen])).src dH
  rw[fo,aQ (by omega)] at this
  exact this hone
 have hh:=h
 obtain⟨ao,c,rfl,h1,h2,h3,h4⟩:=h.dI.form
 have k1:n - n=0:=by omega
 have Hone:=af hone;clear hone
 have Hnl:=af hnl;clear hnl
 go_enter Tryz.func115,Tryz.ntmps115
 go_wp2_with (at_builtin;(refine dQ rfl (.tmp 23) (.tmp 24) 126 126 rfl S B 130 2 32 _ dH jZ rfl (.slice ao n c) _ _ rfl hh (.slice (some ⟨vb,0,none⟩) 1 1) _ _ rfl hsrc hS hB ?_ ?_ ?_);(focus (unfold maxLen;omega));(focus omega);intro ao1 c1 w1 hown1 hk1 hb1 hd1)
 all_goals
  go_ret
  exact⟨_,rfl,hown1,hk1.mono (fun _ _ h=>by cases ao<;>exact h),hb1⟩
theorem Jz (g cap n i:Nat)(xs:List Value)(vb:Nat)(news:List Value)(w:World)(S:Nat->Prop)(B:Nat)(h:aT w S B 130 2 (.slice (some ⟨g,0,none⟩) n cap) n xs)(hx1:∀u∈xs,u.oneCell'=true)(hv:Row w vb 130 news)(hvg:vb≠g)(hnl:news.length=2)(hone:∀u∈news,u.oneCell'=true)(hn:n<=1000000)(hi:i<n)(hroom:n+1<=cap):
  Calls Tryz.prog 115 #[.slice (some ⟨g,0,none⟩) n cap,.int .i64 i,.slice (some ⟨vb,0,none⟩) 1 1] w fun e w'=>∃v',e= .returned v'/\aT w' S B 130 2 v' (n+1) (xs.take (i*2)++news++xs.drop (i*2))/\Keep (fun k=>k=g) w w':=by
 obtain⟨cur,hr,hl,hx,hBg,hSg,hc,hc2⟩:=h.row
 have hc3:cap<=9223372036854775807:=by simpa [maxLen] using hc2
 have hxl:=h.1.1
 clear h
 have hov:(callFunc 157 #[.slice (some ⟨vb,0,none⟩) 1 1,.slice (some ⟨g,(i+1)*2,none⟩) (n - i) (cap - (i+1))]).run Tryz.prog w= .ok (.value (.bool false)) w:=by
  rw[qZ Tryz.func157 (by kernel_rfl) (by kernel_rfl) (by kernel_rfl) (e:=Extern.SlicesOverlaps.overlaps #[126,126] #[4]) (by kernel_rfl)]
  rw[Lib.run_overlaps_apart w 126 4 130 dH 2 (fun w=>by kernel_rfl) ⟨vb,0,none⟩ ⟨g,(i+1)*2,none⟩ 1 1 (n - i) (cap - (i+1)) hvg 130 130 2 (cap*2)
   (by unfold Row at hv;simp[World.shape?,hv,hnl]) (by unfold Row at hr;simp[World.shape?,hr,hl]) (by omega) (hv.frozen 0) (hv.frozen 2)]
  rfl
 have k1:(0:Int)<=(i:Int):=by omega
 have k2:(i:Int)<=(cap:Int):=by omega
 have k3:(0:Int)<=(i:Int)+1:=by omega
 have k4:(i:Int)+1<=(n:Int)+1:=by omega
 have k5:((i:Int)+1).toNat=i+1:=by omega
 have k6:((n:Int)+1).toNat=n+1:=by omega
 have k7:(n:Int)+1<=(cap:Int):=by omega
 have k8:((i:Int)==(n:Int))=false:=by rw[cu];omega
 have k9:IntKind.i64.wrap ((i:Int)+1)=(i:Int)+1:=aM _ (by omega)
 have k10:¬cap=i:=by omega
 have k11:(i:Int)<=(n:Int)+1:=by omega
 have k12:¬cap=i+1:=by omega
 have hsrc1:bJ w.drew fH 2 (.slice (some ⟨g,i*2,none⟩) (n+1 - i) (cap - i)) (n+1 - i) ((cur.drop (i*2)).take ((n+1 - i)*2)):=Row.dI (w:=w.drew) hr _ _ (by omega) id (by omega) (by unfold maxLen;omega)
 have hcs1:((cur.drop (i*2)).take ((n+1 - i)*2)).take ((n - i)*2)=xs.drop (i*2):=by
  rw[dJ,bQ (by omega),<-hx,iC];congr 1;omega
 have hsrc2:bJ w fH 2 (.slice (some ⟨vb,0,none⟩) 1 1) 1 news:=by
  have:=hv.dI (S:=fH) (k:=2) (off:=0) 1 1 (by omega) id (aG _) (by simp[maxLen])
  rwa [fo,aQ (by omega)] at this
 have Hl:=af hl;clear hl
 have Hx:=af hx;clear hx
 have Hxl:=af hxl;clear hxl
 have Hnl:=af hnl;clear hnl
 have Hcs1:=af hcs1;clear hcs1
 go_enter Tryz.func115,Tryz.ntmps115
 go_wp2
 go_region_held3 (fun _=>True) (trivial) (first|((refine xZ rfl (gG (.tmp 73) (.tmp 76) 126 126 rfl 130 2 32 _ dH jZ g ((i+1)*2) 130 (n - i) (n - i) (cap - (i+1)) (some ⟨g,(i+1)*2,none⟩) cur ?_ hr (.slice (some ⟨g,i*2,none⟩) (n+1 - i) (cap - i)) ?_ (n+1 - i) (xs.drop (i*2)) rfl ?_ ?_ ?_ (fun _=>rfl) ?_ ?_ ?_));(focus (first|rfl|(show Value.slice _ _ _=_;congr 1;omega)));(focus (first|rfl|(show Value.slice _ _ _=_;congr 1<;>omega)));(focus (exact(Nat.min_eq_right (by omega)).symm));(focus (rw[aR,Hxl.out];omega));(focus (rw[<-Hcs1.out];exact hsrc1.first (n - i) (by omega)));(focus (rw[aR,Hxl.out,Hl.out];omega));(focus (exact fun u hu=>hx1 u (cO hu)));intro w1 hr1 hk1))
 have hnews:(Builtin.firstCells 2 1 (.slice (some ⟨vb,0,none⟩) 1 1)).run Tryz.prog w1= .ok news.toArray w1:=by
  have h1:bJ w1 fH 2 (.slice (some ⟨vb,0,none⟩) 1 1) 1 news:=hsrc2.keep fun g' hg' hl _=>by cases hg';exact⟨hk1.block vb hl hvg,id⟩
  have:=h1.first (P:=Tryz.prog) 1 (aG _)
  rwa [aQ (by have:=Hnl.out;omega)] at this
 obtain⟨m1,m2,m3⟩:=Oq cur xs news i n cap 2 hi hroom Hl.out Hx.out Hnl.out
 have M1:=af m1;clear m1
 have M2:=af m2;clear m2
 have M3:=af m3;clear m3
 go_wp2_with (first|((refine dW rfl ?_);intro K hK;(refine gG (.tmp 80) (.tmp 81) 126 126 rfl 130 2 32 _ dH jZ g (i*2) 130 1 (n+1 - i) (cap - i) (some ⟨g,i*2,none⟩) _ rfl hr1 (.slice (some ⟨vb,0,none⟩) 1 1) rfl 1 news rfl ?_ ?_ hnews (fun _=>rfl) ?_ hone ?_);(focus (exact(bQ (by omega)).symm));(focus (rw[Hnl.out]));(focus (rw[M1.out,Hnl.out];omega));intro w2 hr2 hk2;refine hK _ _ ?_))
 go_ret
 refine⟨_,rfl,?_,((Keep.refl (· =g) w).drew.trans hk1 (fun _ _ h=>h)).trans hk2 (fun _ _ h=>h)⟩
 rw[<-M3.out]
 exact Row.own hr2 (n+1) M2.out hBg hSg hroom hc2
end Go.Proofs.YtpgdljlghiifjaaGreatDoor
