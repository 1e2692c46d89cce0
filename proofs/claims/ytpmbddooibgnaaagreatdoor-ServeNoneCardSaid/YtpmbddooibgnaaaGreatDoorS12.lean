/- parts -/
import Derived.Test.YtpmbddooibgnaaaGreatDoorS3
import Derived.Test.YtpmbddooibgnaaaGreatDoorS4
import Derived.Test.YtpmbddooibgnaaaGreatDoorS8
import Derived.Test.YtpmbddooibgnaaaGreatDoorS11
import Derived.Maps.OwnSet
import Derived.Shelf.Sort.Plain
import Derived.Shelf.Slices.In.SortNone
import Derived.Shelf.SlIterI.Sorted
import Derived.Shelf.SlIterI.Keys
import Derived.Maps.RangeWalk
import Derived.Defers
set_option maxRecDepth 100000
set_option maxHeartbeats 8000000
set_option linter.all false
namespace Go.Proofs.YtpmbddooibgnaaaGreatDoor
open Go.RowKit
structure Im where
 ks:List Nat
 img:Nat->List UInt8
def wU (b:Nat):List Nat->List Nat
 |[]=>[b]
 |k::r=>if b<k then b::k::r else if b=k then k::r else k::wU b r
theorem jO {b x:Nat}:∀{l:List Nat},x∈wU b l↔x=b\/x∈l
 |[]=>by simp[wU]
 |k::r=>by
  unfold wU
  split
  ·simp
  ·split
   ·rename_i h;subst h;simp
   ·rw[aX,jO (l:=r),aX]
    constructor
    ·rintro(h|h|h)
     ·exact .inr (.inl h)
     ·exact .inl h
     ·exact .inr (.inr h)
    ·rintro(h|h|h)
     ·exact .inr (.inl h)
     ·exact .inl h
     ·exact .inr (.inr h)
theorem sS {b:Nat}:∀{l:List Nat},l.Pairwise (· < ·)->(wU b l).Pairwise (· < ·)
 |[],_=>by simp[wU]
 |k::r,h=>by
  obtain⟨h1,h2⟩:=dR.1 h
  unfold wU
  split
  ·rename_i hb
   refine dR.2 ⟨fun x hx=> ?_,h⟩
   rcases aX.1 hx with rfl|hx
   ·exact hb
   ·exact Nat.lt_trans hb (h1 x hx)
  ·split
   ·exact h
   ·refine dR.2 ⟨fun x hx=> ?_,sS h2⟩
    rcases jO.1 hx with rfl|hx
    ·omega
    ·exact h1 x hx
def Im.none:Im:=⟨[],fun _=>[]⟩
def Im.put (m:Im)(b:Nat)(x:List UInt8):Im:=⟨wU b m.ks,fun k=>if k=b then x else m.img k⟩
def Im.find (m:Im)(b:Nat):Option (List UInt8):=if b∈m.ks then some (m.img b) else Option.none
theorem Im.zF (m:Im)(b c:Nat)(x:List UInt8):(m.put b x).find c=if c=b then some x else m.find c:=by
 unfold Im.find Im.put
 simp only[jO]
 by_cases h:c=b
 ·subst h;simp
 ·simp[h]
structure Pg where
 skip:Nat
 ring:Nat
 fresh:Im
 dead:Bool
def Pg.blocks (p:Pg)(d:Dk):Nat:=d.n - p.skip
def Pg.look (p:Pg)(dirty:Im)(d:Dk)(b:Nat):List UInt8:=(dirty.find b).getD ((p.fresh.find b).getD (d.get (p.skip+b)))
def Pg.lay (p:Pg):List Nat->Dk->Dk×Int
 |[],d=>(d,0)
 |b::r,d=>
  if (d.write ((p.skip+b:Nat):Int) (p.fresh.img b)).2=0 then p.lay r (d.write ((p.skip+b:Nat):Int) (p.fresh.img b)).1
  else((d.write ((p.skip+b:Nat):Int) (p.fresh.img b)).1,10)
def Pg.dies (p:Pg):Pg:={p with dead:=true}
def Pg.home (d:Dk)(l:Lg)(p:Pg):Dk×Lg×Pg×Int:=
 if (l.sync d).2.2=0 then
  if (p.lay p.fresh.ks (l.sync d).1).2=0 then
   if (p.lay p.fresh.ks (l.sync d).1).1.sync.2=0 then
    if ((l.sync d).2.1.trim (p.lay p.fresh.ks (l.sync d).1).1.sync.1 (l.sync d).2.1.last).2.2=0 then
     (((l.sync d).2.1.trim (p.lay p.fresh.ks (l.sync d).1).1.sync.1 (l.sync d).2.1.last).1,((l.sync d).2.1.trim (p.lay p.fresh.ks (l.sync d).1).1.sync.1 (l.sync d).2.1.last).2.1,{p with fresh:=Im.none},0)
    else(((l.sync d).2.1.trim (p.lay p.fresh.ks (l.sync d).1).1.sync.1 (l.sync d).2.1.last).1,((l.sync d).2.1.trim (p.lay p.fresh.ks (l.sync d).1).1.sync.1 (l.sync d).2.1.last).2.1,p.dies,10)
   else((p.lay p.fresh.ks (l.sync d).1).1.sync.1,(l.sync d).2.1,p.dies,10)
  else((p.lay p.fresh.ks (l.sync d).1).1,(l.sync d).2.1,p.dies,10)
 else((l.sync d).1,(l.sync d).2.1,p.dies,10)
def DI (b:Nat)(x:List UInt8):List UInt8:=leB b 4++x
def Im.bE (m:Im):List (List UInt8):=m.ks.map fun b=>DI b (m.img b)
def Im.over (m dirty:Im):Im:=dirty.ks.foldl (fun m b=>m.put b (dirty.img b)) m
def Pg.ready (d:Dk)(l:Lg)(p:Pg)(need:Nat):Dk×Lg×Pg×Int:=if l.room<need then p.home d l else(d,l,p,0)
def Pg.commit (d:Dk)(l:Lg)(p:Pg)(dirty:Im):Dk×Lg×Pg×Nat×Int:=
 if p.dead then(d,l,p,0,10) else
 if dirty.ks=[] then(d,l,p,l.last,0) else
 if p.ring<bN dirty.bE\/1024<dirty.ks.length then(d,l,p,0,13) else
 if (p.ready d l (bN dirty.bE)).2.2.2=0 then
  if ((p.ready d l (bN dirty.bE)).2.1.append (p.ready d l (bN dirty.bE)).1 dirty.bE).2.2.2=0 then
   (((p.ready d l (bN dirty.bE)).2.1.append (p.ready d l (bN dirty.bE)).1 dirty.bE).1,((p.ready d l (bN dirty.bE)).2.1.append (p.ready d l (bN dirty.bE)).1 dirty.bE).2.1,
    {(p.ready d l (bN dirty.bE)).2.2.1 with fresh:=(p.ready d l (bN dirty.bE)).2.2.1.fresh.over dirty},((p.ready d l (bN dirty.bE)).2.1.append (p.ready d l (bN dirty.bE)).1 dirty.bE).2.2.1,0)
  else(((p.ready d l (bN dirty.bE)).2.1.append (p.ready d l (bN dirty.bE)).1 dirty.bE).1,((p.ready d l (bN dirty.bE)).2.1.append (p.ready d l (bN dirty.bE)).1 dirty.bE).2.1,(p.ready d l (bN dirty.bE)).2.2.1.dies,0,10)
 else((p.ready d l (bN dirty.bE)).1,(p.ready d l (bN dirty.bE)).2.1,(p.ready d l (bN dirty.bE)).2.2.1,0,(p.ready d l (bN dirty.bE)).2.2.2)
def Pg.sync (d:Dk)(l:Lg)(p:Pg):Dk×Lg×Pg×Int:=
 if p.dead then(d,l,p,10) else
 if l.synced=l.last/\d.dead=false then(d,l,p,0) else
 if (l.sync d).2.2=0 then((l.sync d).1,(l.sync d).2.1,p,0) else((l.sync d).1,(l.sync d).2.1,p.dies,10)
abbrev kI (b:Int):Lit:= .int .i64 b
theorem tight {k:TypeId}{R:Value->Option (DataW Unit×List MemPlace)}{w:World}{b n m:Nat}{D:DataW Unit}(h:w.ownsMap Tryz.prog k R b n D)(hm:Maps.size D<=m):w.ownsMap Tryz.prog k R b m D:=by
 obtain⟨es,clock,hb,F,hs,rfl⟩:=h
 refine⟨es,clock,hb,F,?_,rfl⟩
 rw[Maps.size_eq,length_sorted] at hm
 simpa using hm
theorem iw:Maps.Keyed Tryz.prog 3:=Maps.int_keyed bS
theorem nT (b:Int)(hb:(Lit.int .i64 b).wf=true):keyOf Tryz.prog 3 (.int .i64 b)=some (kI b):=by
 exact Maps.keyOf_int_mk bS hb
theorem wT (b:Int):WideAt.IsKeyLit (kI b):=trivial
theorem wH (b:Int)(h0: -1000000<=b)(h1:b<=1000000):(Lit.int .i64 b).wf=true:=by
 simp only[Lit.wf,dI,dB]
 constructor
 ·exact Int.le_trans (by decide) h0
 ·exact Int.le_trans h1 (by decide)
theorem qi {P:Program}{w:World}{o:Oper}{a:Act}{K:Act->World->Prop}{Q:Exit->Act->World->Prop}(m x v:Operand)(t:TypeId)(hop:o.op=Op.mapUpdate t m x v)
  (k e:TypeId) (Ky:Maps.Keyed P k) (ht:P.underlying t=some (.map k e)) (R:Value->Option (DataW Unit×List MemPlace)) (b n:Nat) (D:DataW Unit)
  (hm:a.eval m= .map (some b)) (hown:w.ownsMap P k R b n D) (hn:n<maxLen) (key val:Value) (kl:Lit) (hx:a.eval x=key) (hv:a.eval v=val) (hkey:keyOf P k key=some kl)
  (d:DataW Unit) (ps:List MemPlace) (hval:R val=some (d,ps))
  (hK:∀w',w'.ownsMap P k R b (n+1) (D.put kl d)->w.grownBy w' (some b)->K (a.put o.dst undef) w'):o.wp P a w K Q:=by
 obtain⟨w',hrun,r1,r2⟩:=hown.update Ky ht hn hkey hval
 unfold Oper.wp
 simp[execOp,hop,hm,hx,hv,hrun,Result.andThen]
 exact hK _ r1 r2
theorem zS {a b:List UInt8}(h:aB a=aB b):a=b:=by
 induction a generalizing b with
 |nil=>cases b with
  |nil=>rfl
  |cons x b=>cases h
 |cons x a ih=>
  cases b with
  |nil=>cases h
  |cons y b=>
   simp only[aB,dO,List.cons.injEq] at h
   obtain⟨h1,h2⟩:=h
   have e:x=y:=by
    simp only[Value.int.injEq,true_and] at h1
    exact uw.1 (by omega)
   rw[e,ih h2]
open Classical in
noncomputable def rI (v:Value):Option (DataW Unit×List MemPlace):=
 if h:∃l:List UInt8,l.length=512/\v= .agg (aB l).toArray then some (.lit (.string h.choose),[]) else none
theorem Ht (l:List UInt8)(hl:l.length=512):rI (.agg (aB l).toArray)=some (.lit (.string l),[]):=by
 have h:∃l':List UInt8,l'.length=512/\Value.agg (aB l).toArray= .agg (aB l').toArray:=⟨l,hl,rfl⟩
 unfold rI
 rw[dif_pos h]
 have h3:=zS (show aB l=aB h.choose from congrArg Array.toList (Value.agg.inj h.choose_spec.2))
 exact congrArg (fun l=>some (DataW.lit (Lit.string l),([]:List MemPlace))) h3.symm
theorem qW {v:Value}{d:DataW Unit}{ps:List MemPlace}(h:rI v=some (d,ps)):∃l:List UInt8,l.length=512/\v= .agg (aB l).toArray/\d= .lit (.string l):=by
 unfold rI at h
 split at h
 ·rename_i hx
  simp only[P5,kU] at h
  exact⟨hx.choose,hx.choose_spec.1,hx.choose_spec.2,h.1.symm⟩
 ·cases h
theorem iW (w:World):(zeroValue 209).run Tryz.prog w= .ok (.agg (aB zB).toArray) w:=by kernel_rfl
theorem jy:(Tryz.prog.info? 209).map (fun i=>i.size)=some 512:=by kernel_rfl
def jH (w:World)(b:Nat)(im:Im):Prop:=
 ∃D,w.ownsMap Tryz.prog 3 rI b 5000 D/\Maps.size D=im.ks.length/\(∀kl,Maps.has D kl=true->∃k:Nat,kl=kI k)/\(∀k:Nat,Maps.has D (kI k)=decide (k∈im.ks))/\∀k:Nat,k∈im.ks->∀z,D.atKey (kI k) z= .lit (.string (im.img k))
structure Im.Ok (im:Im)(n:Nat):Prop where
 rise:im.ks.Pairwise (· < ·)
 hi:∀k∈im.ks,k<n
 img:∀k∈im.ks,(im.img k).length=512
theorem Im.Ok.none (n:Nat):Im.none.Ok n:=⟨zZ,(fun _ h=>by cases h),(fun _ h=>by cases h)⟩
theorem Dy:∀(l:List Nat) (lo n:Nat),lo<=n->l.Pairwise (· < ·)->(∀k∈l,lo<=k/\k<n)->l.length<=n - lo
 |[],_,_,_,_,_=>aN _
 |k::r,lo,n,_,h,hn=>by
  obtain⟨h1,h2⟩:=dR.1 h
  have hk:=hn k (aP ..)
  have:=Dy r (k+1) n hk.2 h2 (fun x hx=>⟨h1 x hx,(hn x (aT _ hx)).2⟩)
  rw[aU]
  omega
theorem uM (l:List Nat)(n:Nat)(h:l.Pairwise (· < ·))(hn:∀k∈l,k<n):l.length<=n:=Dy l 0 n (aN _) h (fun k hk=>⟨aN _,hn k hk⟩)
theorem Im.Ok.put {im:Im}{n:Nat}(h:im.Ok n)(b:Nat)(x:List UInt8)(hb:b<n)(hx:x.length=512):(im.put b x).Ok n:=by
 refine⟨sS h.rise,fun k hk=> ?_,fun k hk=> ?_⟩
 ·rcases jO.1 hk with rfl|hk
  ·exact hb
  ·exact h.hi k hk
 ·show (if k=b then x else im.img k).length=512
  split
  ·exact hx
  ·rename_i hne
   exact h.img k ((jO.1 hk).resolve_left hne)
theorem xL {b:Nat}:∀{l:List Nat},l.Pairwise (· < ·)->(wU b l).length=if b∈l then l.length else l.length+1
 |[],_=>by simp[wU]
 |k::r,h=>by
  obtain⟨h1,h2⟩:=dR.1 h
  unfold wU
  split
  ·rename_i hb
   rw[if_neg (by
    intro hm
    rcases aX.1 hm with rfl|hm
    ·exact bY _ hb
    ·have:=h1 b hm;omega)]
   rfl
  ·split
   ·rename_i _ hb
    subst hb
    rw[if_pos (aP ..)]
   ·rename_i hn1 hn2
    rw[aU,xL h2,aU]
    by_cases hm:b∈r
    ·rw[if_pos hm,if_pos (aT _ hm)]
    ·rw[if_neg hm,if_neg (by
      intro h
      rcases aX.1 h with e|h
      ·exact hn2 e
      ·exact hm h)]
theorem jH.none (w:World):jH (w.alloc (.map #[] 0)) w.heap.size Im.none:=
 ⟨.map [],(World.ownsMap_made w _ _ _).mono (aN _),rfl,(fun kl h=>by simp[Maps.has_eq] at h),(fun k=>by simp[Maps.has_eq,Im.none]),(fun k h=>by cases h)⟩
theorem jH.lt {w:World}{b:Nat}{im:Im}(h:jH w b im):b<w.heap.size:=by obtain⟨D,hD,_⟩:=h;exact hD.lt
theorem jH.block {w w':World}{b:Nat}{im:Im}(h:jH w b im)(hb:w'.heap[b]? =w.heap[b]?):jH w' b im:=by
 obtain⟨D,⟨es,cl,hbm,r⟩,h2⟩:=h
 exact⟨D,⟨es,cl,hb.trans hbm,r⟩,h2⟩
theorem jH.ne {w:World}{b:Nat}{im:Im}(h:jH w b im){g:Nat}{cs:Array Value}{t:TypeId}{fr:Nat×Nat}(hc:w.heap[g]? =some (.cells cs t fr)):g≠b:=fun e=>by
 obtain⟨D,⟨es,cl,hbm,_⟩,_⟩:=h
 rw[e,hbm] at hc;cases hc
theorem Mg {a b:Nat}(h:a≠b):kI (a:Int)≠kI (b:Int):=fun e=>h (by injection e;omega)
theorem jH.put {w w':World}{b:Nat}{im:Im}{D:DataW Unit}{n:Nat}(him:im.Ok n)(hn:n<=4096)(k:Nat)(x:List UInt8)(hk:k<n)(hD:w.ownsMap Tryz.prog 3 rI b 5000 D)(hs:Maps.size D=im.ks.length)(h0:∀kl,Maps.has D kl=true->∃k:Nat,kl=kI k)
  (h1:∀k:Nat,Maps.has D (kI k)=decide (k∈im.ks)) (h2:∀k:Nat,k∈im.ks->∀z,D.atKey (kI k) z= .lit (.string (im.img k))) (ho:w'.ownsMap Tryz.prog 3 rI b 5001 (D.put (kI k) (.lit (.string x)))):jH w' b (im.put k x):=by
 have hT:=hD.tidy iw
 have hlen:=uM _ _ him.rise him.hi
 have hsz:Maps.size (D.put (kI k) (.lit (.string x)))=(im.put k x).ks.length:=by
  rw[Maps.size_put hT,h1,show (im.put k x).ks=wU k im.ks from rfl,xL him.rise,hs]
  by_cases hm:k∈im.ks<;>simp[hm]
 have hle:Maps.size (D.put (kI k) (.lit (.string x)))<=5000:=by
  rw[Maps.size_put hT,hs]
  split<;>omega
 refine⟨_,tight ho hle,hsz,fun kl hh=> ?_,fun j=> ?_,fun j hj z=> ?_⟩
 ·by_cases e:kl=kI k
  ·exact⟨k,e⟩
  ·rw[Maps.has_put_other e] at hh
   exact h0 kl hh
 ·by_cases e:j=k
  ·subst e
   rw[Maps.has_put_same hT.isMap (wT _)]
   simp[Im.put,jO]
  ·rw[Maps.has_put_other (Mg e),h1]
   simp[Im.put,jO,e]
 ·by_cases e:j=k
  ·subst e
   rw[Maps.atKey_put_same hT.isMap (wT _)]
   simp[Im.put]
  ·rw[Maps.atKey_put_other (Mg e),h2 j ((jO.1 hj).resolve_left e)]
   simp[Im.put,e]
structure Pg.Ok (p:Pg)(σ:Dk)(l:Lg):Prop where
 frm:l.frm=0
 skip:p.skip=l.n
 ring:p.ring+1=l.n
 fit:l.n<σ.n
 fresh:p.fresh.Ok (σ.n - p.skip)
structure yj (w:World)(Sd Sl Sp:Nat->Prop)(pg lg d fb:Nat)(σ:Dk)(l:Lg)(p:Pg)(op:Value):Prop where
 log:iy w Sd Sl lg d σ l
 ok:p.Ok σ l
 sub:∀g,Sp g->g<w.heap.size
 dd:∀g,Sp g->¬Sd g
 dl:∀g,Sp g->¬Sl g
 Ac:Sp pg
 sfb:Sp fb
 obj:w.heap[pg]? =some (.cells #[.pointer (some ⟨d,0,none⟩),.pointer (some ⟨lg,0,none⟩),.int .i64 p.skip,.int .i64 p.ring,.map (some fb),op,.bool p.dead] 199 (0,0))
 fr:jH w fb p.fresh
def iF (w:World)(S:Nat->Prop)(pg d:Nat)(σ:Dk)(l:Lg)(p:Pg)(op:Value):Prop:=
 ∃Sd Sl Sp lg fb,yj w Sd Sl Sp pg lg d fb σ l p op/\∀g,S g↔Sd g\/Sl g\/Sp g
theorem yj.keep {w w':World}{Sd Sl Sp M:Nat->Prop}{pg lg d fb:Nat}{σ:Dk}{l:Lg}{p:Pg}{op:Value}(h:yj w Sd Sl Sp pg lg d fb σ l p op)(hk:Keep M w w')(hM:∀g,Sd g\/Sl g\/Sp g->¬M g):yj w' Sd Sl Sp pg lg d fb σ l p op:=
 ⟨h.log.keep hk (fun g hg=>hM g (.inl hg)) (fun g hg=>hM g (.inr (.inl hg))),h.ok,fun g hg=>ax (h.sub g hg) hk.size,h.dd,h.dl,h.Ac,h.sfb,
  (hk.block _ (h.sub _ h.Ac) (hM _ (.inr (.inr h.Ac)))).trans h.obj,h.fr.block (hk.block _ (h.sub _ h.sfb) (hM _ (.inr (.inr h.sfb))))⟩
theorem iF.keep {w w':World}{S M:Nat->Prop}{pg d:Nat}{σ:Dk}{l:Lg}{p:Pg}{op:Value}(h:iF w S pg d σ l p op)(hk:Keep M w w')(hM:∀g,S g->¬M g):iF w' S pg d σ l p op:=by
 obtain⟨Sd,Sl,Sp,lg,fb,h,hS⟩:=h
 exact⟨Sd,Sl,Sp,lg,fb,h.keep hk (fun g hg=>hM g ((hS g).2 hg)),hS⟩
theorem iF.below {w w':World}{S:Nat->Prop}{pg d:Nat}{σ:Dk}{l:Lg}{p:Pg}{op:Value}(h:iF w S pg d σ l p op)(hb:Below w.heap.size w w'):iF w' S pg d σ l p op:=h.keep (Keep.of_below hb d9) (fun _ _ e=>e)
theorem iF.sub {w:World}{S:Nat->Prop}{pg d:Nat}{σ:Dk}{l:Lg}{p:Pg}{op:Value}(h:iF w S pg d σ l p op):∀g,S g->g<w.heap.size:=by
 obtain⟨Sd,Sl,Sp,lg,fb,h,hS⟩:=h
 intro g hg
 rcases (hS g).1 hg with hg|hg|hg
 ·exact h.log.dk.sub g hg
 ·exact h.log.lg.sub g hg
 ·exact h.sub g hg
theorem iF.Ac {w:World}{S:Nat->Prop}{pg d:Nat}{σ:Dk}{l:Lg}{p:Pg}{op:Value}(h:iF w S pg d σ l p op):S pg:=by
 obtain⟨Sd,Sl,Sp,lg,fb,h,hS⟩:=h
 exact(hS pg).2 (.inr (.inr h.Ac))
theorem iF.ok {w:World}{S:Nat->Prop}{pg d:Nat}{σ:Dk}{l:Lg}{p:Pg}{op:Value}(h:iF w S pg d σ l p op):p.Ok σ l/\σ.Ok/\l.Ok:=by
 obtain⟨Sd,Sl,Sp,lg,fb,h,hS⟩:=h
 exact⟨h.ok,h.log.dk.ok,h.log.lg.ok⟩
theorem yj.cells {w:World}{Sd Sl Sp:Nat->Prop}{pg lg d fb:Nat}{σ:Dk}{l:Lg}{p:Pg}{op:Value}(h:yj w Sd Sl Sp pg lg d fb σ l p op):
  w.cell? ⟨pg,0,none⟩=some (.pointer (some ⟨d,0,none⟩))/\w.cell? ⟨pg,1,none⟩=some (.pointer (some ⟨lg,0,none⟩))/\w.cell? ⟨pg,2,none⟩=some (.int .i64 p.skip)/\w.cell? ⟨pg,3,none⟩=some (.int .i64 p.ring)/\w.cell? ⟨pg,4,none⟩=some (.map (some fb))/\
  w.cell? ⟨pg,5,none⟩=some op/\w.cell? ⟨pg,6,none⟩=some (.bool p.dead)/\pg<w.heap.size/\∀j,w.frozen? ⟨pg,j,none⟩=false:=by
 have hb:=h.obj
 refine⟨?_,?_,?_,?_,?_,?_,?_,(ah.1 hb).1,?_⟩
 all_goals first
  |(simp[World.cell?,hb];done)
  |(intro i;simp[World.frozen?,hb])
theorem yj.turn {w w':World}{Sd Sl Sp Sd' Sl':Nat->Prop}{pg lg d fb:Nat}{σ σ':Dk}{l l':Lg}{p:Pg}{op:Value}(h:yj w Sd Sl Sp pg lg d fb σ l p op)(hA:iy w' Sd' Sl' lg d σ' l')(hT:Two Sd Sl Sd' Sl' w w')(ho:p.Ok σ' l'):
  yj w' Sd' Sl' Sp pg lg d fb σ' l' p op/\Step (fun g=>Sd g\/Sl g\/Sp g) (fun g=>Sd' g\/Sl' g\/Sp g) w w':=by
 have hno:∀g,Sp g->¬(Sd g\/Sl g):=fun g hg e=>e.elim (h.dd g hg) (h.dl g hg)
 have hno':∀g,Sp g->¬(Sd' g\/Sl' g):=fun g hg e=>(hT.2 g e).elim (hno g hg) (fun x=>absurd (h.sub g hg) (aV.2 x))
 refine⟨⟨hA,ho,fun g hg=>ax (h.sub g hg) hT.1.size,fun g hg e=>hno' g hg (.inl e),fun g hg e=>hno' g hg (.inr e),h.Ac,h.sfb,(hT.1.block _ (h.sub _ h.Ac) (hno _ h.Ac)).trans h.obj,h.fr.block (hT.1.block _ (h.sub _ h.sfb) (hno _ h.sfb))⟩,?_⟩
 refine⟨hT.1.mono (fun _ _ e=>e.elim .inl (fun e=> .inr (.inl e))),fun g hg=> ?_⟩
 rcases hg with hg|hg|hg
 ·exact(hT.2 g (.inl hg)).elim (fun e=> .inl (e.elim .inl (fun e=> .inr (.inl e)))) .inr
 ·exact(hT.2 g (.inr hg)).elim (fun e=> .inl (e.elim .inl (fun e=> .inr (.inl e)))) .inr
 ·exact .inl (.inr (.inr hg))
theorem yj.self {w w':World}{Sd Sl Sp:Nat->Prop}{pg lg d fb:Nat}{σ:Dk}{l:Lg}{p p':Pg}{op op':Value}(h:yj w Sd Sl Sp pg lg d fb σ l p op)(hk:Keep (· =pg) w w')(ho:p'.Ok σ l)(hf:p'.fresh=p.fresh)
  (hb:w'.heap[pg]? =some (.cells #[.pointer (some ⟨d,0,none⟩),.pointer (some ⟨lg,0,none⟩),.int .i64 p'.skip,.int .i64 p'.ring,.map (some fb),op',.bool p'.dead] 199 (0,0))):yj w' Sd Sl Sp pg lg d fb σ l p' op':=
 ⟨h.log.keep hk (fun g hg e=>h.dd pg h.Ac (e▸hg)) (fun g hg e=>h.dl pg h.Ac (e▸hg)),ho,fun g hg=>ax (h.sub g hg) hk.size,h.dd,h.dl,h.Ac,h.sfb,hb,
  by rw[hf];exact h.fr.block (hk.block _ (h.sub _ h.sfb) (fun e=>h.fr.ne h.obj e.symm))⟩
theorem Cg (pg d:Nat)(σ:Dk)(l:Lg)(p:Pg)(op:Value)(S:Nat->Prop)(w:World)(h:iF w S pg d σ l p op):
  Calls Tryz.prog 52 #[.pointer (some ⟨pg,0,none⟩)] w fun e w'=>e= .returned (.int .i64 (p.blocks σ))/\w'=w.drew:=by
 obtain⟨Sd,Sl,Sp,lg,fb,h,hS⟩:=h
 obtain⟨c0,_,c2,_,_,_,_,hlt,_⟩:=h.cells
 have HS:=af (EJ d σ Sd w.drew (h.log.dk.below ((aH _ w).drew)))
 have hn:=h.log.dk.ok.hi
 have hf:=h.ok.fit;have hk:=h.ok.skip
 have e1:IntKind.i64.wrap ((σ.n:Int) - (p.skip:Int))=(p.blocks σ:Int):=by rw[aS _ (by omega)];unfold Pg.blocks;omega
 have c0':w.drew.cell? ⟨pg,0,none⟩=some (.pointer (some ⟨d,0,none⟩)):=c0
 have c2':w.drew.cell? ⟨pg,2,none⟩=some (.int .i64 p.skip):=c2
 clear h hn hf hk c0 c2
 go_enter Tryz.func52,Tryz.ntmps52
 go_wp2_with fail
 refine aK (fun W=>W=w.drew) (fun i=> !([4].contains i)) [0,1,2,3,5,6,7,8,4,9,10] rfl (by kernel_rfl) rfl ?_
 repeat ((refine bq (v:= ?_) rfl rfl (fun _ _ _ h=>h) rfl (fun W hW=> ?_) ?_);rotate_left;(focus ((try dsimp only at hW);subst hW;(go_simp;first|done|with_reducible rfl)));(try simp only[Act.put,aj,av,au]))
 refine bP rfl rfl rfl ?_;intro K hK;go_simp
 refine HS.out.mono ?_;rintro e w1 ⟨rfl,hw1⟩;subst w1
 refine hK.out _ _ rfl ?_
 repeat ((refine bq (v:= ?_) rfl rfl (fun _ _ _ h=>h) rfl (fun W hW=> ?_) ?_);rotate_left;(focus ((try dsimp only at hW);subst hW;(go_simp;first|done|with_reducible rfl)));(try simp only[Act.put,aj,av,au]))
 refine bF ?_
 go_wp2_with fail
 go_ret
 exact⟨rfl,rfl⟩
theorem DR (pg:Nat)(w:World):
  Calls Tryz.prog 101 #[.pointer (some ⟨pg,0,none⟩),.int .i64 0] w fun e w'=>e= .returned (.int .i64 0)/\w'=w:=by
 go_enter Tryz.func101,Tryz.ntmps101
 go_wp2_with fail
 go_ret
 exact⟨rfl,rfl⟩
theorem Pg.Ok.dies {p:Pg}{σ:Dk}{l:Lg}(h:p.Ok σ l):p.dies.Ok σ l:=⟨h.frm,h.skip,h.ring,h.fit,h.fresh⟩
theorem Step.eqv {S S' T T':Nat->Prop}{w w':World}(h:Step T T' w w')(hS:∀g,S g↔T g)(hS':∀g,S' g↔T' g):Step S S' w w':=
 ⟨h.1.mono (fun g _ x=>(hS g).2 x),fun g hg=>(h.2 g ((hS' g).1 hg)).imp (hS g).2 id⟩
theorem Step.own {S:Nat->Prop}{w w':World}{g:Nat}(h:Keep (· =g) w w')(hg:S g):Step S S w w':=⟨h.mono (fun _ _ e=>e▸hg),fun _ h=> .inl h⟩
theorem JK (pg d:Nat)(σ:Dk)(l:Lg)(p:Pg)(op:Value)(S:Nat->Prop)(q:Int)(w:World)(h:iF w S pg d σ l p op)(hq:q≠0):
  Calls Tryz.prog 101 #[.pointer (some ⟨pg,0,none⟩),.int .i64 q] w fun e w'=>e= .returned (.int .i64 10)/\iF w' S pg d σ l p.dies op/\Step S S w w':=by
 have hspg:=h.Ac
 obtain⟨Sd,Sl,Sp,lg,fb,h,hS⟩:=h
 obtain⟨_,_,_,_,_,_,c6,hlt,hfz⟩:=h.cells
 have hf:=hfz 6
 have hq':(q !=0)=true:=by simpa using hq
 have hk:Keep (· =pg) w (w.setCell ⟨pg,6,none⟩ (.bool true)):=(Keep.refl (· =pg) w).setCell (p:=⟨pg,6,none⟩) (.inr rfl) _
 have HP:=af (show yj (w.setCell ⟨pg,6,none⟩ (.bool true)) Sd Sl Sp pg lg d fb σ l p.dies op from h.self hk h.ok.dies rfl (by rw[gL w pg 6 _ _ _ h.obj];rfl))
 have HK:=af hk
 clear h hk
 go_enter Tryz.func101,Tryz.ntmps101
 go_wp2_with fail
 go_ret
 exact⟨rfl,⟨Sd,Sl,Sp,lg,fb,HP.out,hS⟩,Step.own HK.out hspg⟩
structure tK (w:World)(T:Nat->Prop)(t pg db:Nat)(im:Im)(n:Nat):Prop where
 ok:im.Ok n
 sub:∀g,T g->g<w.heap.size
 st:T t
 sdb:T db
 obj:w.heap[t]? =some (.cells #[.pointer (some ⟨pg,0,none⟩),.map (some db)] 201 (0,0))
 img:jH w db im
def pJ (w:World)(T:Nat->Prop)(t pg:Nat)(im:Im)(n:Nat):Prop:=∃db,tK w T t pg db im n
theorem pJ.keep {w w':World}{T M:Nat->Prop}{t pg n:Nat}{im:Im}(h:pJ w T t pg im n)(hk:Keep M w w')(hM:∀g,T g->¬M g):pJ w' T t pg im n:=by
 obtain⟨db,h⟩:=h
 exact⟨db,h.ok,fun g hg=>ax (h.sub g hg) hk.size,h.st,h.sdb,(hk.block _ (h.sub _ h.st) (hM _ h.st)).trans h.obj,h.img.block (hk.block _ (h.sub _ h.sdb) (hM _ h.sdb))⟩
theorem pJ.below {w w':World}{T:Nat->Prop}{t pg n:Nat}{im:Im}(h:pJ w T t pg im n)(hb:Below w.heap.size w w'):pJ w' T t pg im n:=h.keep (Keep.of_below hb d9) (fun _ _ e=>e)
theorem pJ.sub {w:World}{T:Nat->Prop}{t pg n:Nat}{im:Im}(h:pJ w T t pg im n):∀g,T g->g<w.heap.size:=by obtain⟨_,h⟩:=h;exact h.sub
theorem LA (pg d:Nat)(σ:Dk)(l:Lg)(p:Pg)(S:Nat->Prop)(w:World)(h:iF w S pg d σ l p (.pointer none))(hd:p.dead=false):
  Calls Tryz.prog 50 #[.pointer (some ⟨pg,0,none⟩)] w fun e w'=>∃t T,e= .returned (.tuple #[.pointer (some ⟨t,0,none⟩),.int .i64 0])/\iF w' S pg d σ l p (.pointer (some ⟨t,0,none⟩))/\pJ w' T t pg Im.none (p.blocks σ)/\Step S S w w'/\(∀g,T g->w.heap.size<=g):=by
 have hspg:=h.Ac
 obtain⟨Sd,Sl,Sp,lg,fb,h,hS⟩:=h
 obtain⟨_,_,_,_,_,c5,c6,hlt,hfz⟩:=h.cells
 rw[hd] at c6
 have hf:=hfz 5
 have HH:=af h
 clear h
 have hmk:∀w:World,(Instr.makeMap 197 none).run Tryz.prog w= .ok (.map (some w.heap.size)) (w.alloc (.map #[] 0)):=fun w=>run_makeMap _ w
 go_enter Tryz.func50,Tryz.ntmps50
 go_wp2_with fail
 go_ret2
 obtain⟨w1,HW1⟩:∃w1:World,Hid (w.setCell ⟨pg,5,none⟩ (.pointer (some ⟨w.heap.size+1,0,none⟩))=w1):=⟨_,af rfl⟩
 have hk1:Keep (· =pg) w w1:=by rw[<-HW1.out];exact(Keep.refl (· =pg) _).setCell (p:=⟨pg,5,none⟩) (.inr rfl) _
 have hP1:yj w1 Sd Sl Sp pg lg d fb σ l p (.pointer (some ⟨w.heap.size+1,0,none⟩)):=HH.out.self hk1 HH.out.ok rfl (by rw[<-HW1.out,gL _ pg 5 _ _ _ HH.out.obj];rfl)
 have hs1:w1.heap.size=w.heap.size:=by rw[<-HW1.out];simp
 rw[HW1.out,<-hs1]
 have hb2:Below w1.heap.size w1 ((w1.alloc (.map #[] 0)).alloc (.cells #[.pointer (some ⟨pg,0,none⟩),.map (some w1.heap.size)] 201)):=iU w1 _ _
 have hm2:jH ((w1.alloc (.map #[] 0)).alloc (.cells #[.pointer (some ⟨pg,0,none⟩),.map (some w1.heap.size)] 201)) w1.heap.size Im.none:=(jH.none w1).block (nD _ _ _ (by simp))
 have ho2:((w1.alloc (.map #[] 0)).alloc (.cells #[.pointer (some ⟨pg,0,none⟩),.map (some w1.heap.size)] 201)).heap[w1.heap.size+1]? =some (.cells #[.pointer (some ⟨pg,0,none⟩),.map (some w1.heap.size)] 201 (0,0)):=by
  have:=aF (w1.alloc (.map #[] 0)) (.cells #[.pointer (some ⟨pg,0,none⟩),.map (some w1.heap.size)] 201)
  rwa [aZ] at this
 rw[<-hs1] at hP1
 have hP2:=hP1.keep (Keep.of_below hb2 d9) (fun _ _ e=>e)
 refine⟨w1.heap.size+1,fun g=>g=w1.heap.size\/g=w1.heap.size+1,rfl,⟨Sd,Sl,Sp,lg,fb,hP2,hS⟩,⟨w1.heap.size,Im.Ok.none _,fun g hg=> ?_,.inr rfl,.inl rfl,ho2,hm2⟩,⟨(hk1.mono (fun _ _ e=>e▸hspg)).trans (Keep.of_below hb2 S) (fun _ _ e=>e),fun _ hg=> .inl hg⟩,fun g hg=>by omega⟩
 simp only[aZ]
 omega
theorem tK.cells {w:World}{T:Nat->Prop}{t pg db n:Nat}{im:Im}(h:tK w T t pg db im n):
  w.cell? ⟨t,0,none⟩=some (.pointer (some ⟨pg,0,none⟩))/\w.cell? ⟨t,1,none⟩=some (.map (some db))/\t<w.heap.size:=by
 have hb:=h.obj
 exact⟨by simp[World.cell?,hb],by simp[World.cell?,hb],(ah.1 hb).1⟩
theorem BM (t pg d:Nat)(σ:Dk)(l:Lg)(p:Pg)(op:Value)(im:Im)(S T:Nat->Prop)(n b:Nat)(w:World)(h:iF w S pg d σ l p op)(ht:pJ w T t pg im n)(hd:p.dead=false)(hb:b<p.blocks σ):
  Calls Tryz.prog 92 #[.pointer (some ⟨t,0,none⟩),.int .i64 b] w fun e w'=>e= .returned (.int .i64 0)/\w'=w.drew:=by
 have HB:=af (Cg pg d σ l p op S w h)
 have hbl:p.blocks σ<=4096:=by have:=h.ok.2.1.hi;unfold Pg.blocks;omega
 obtain⟨Sd,Sl,Sp,lg,fb,h,hS⟩:=h
 obtain⟨db,ht⟩:=ht
 obtain⟨_,_,_,_,_,_,c6,hlt,_⟩:=h.cells
 obtain⟨t0,t1,htl⟩:=ht.cells
 rw[hd] at c6
 clear h ht hd
 have e1:¬(b:Int)<0:=by omega
 have e2:decide ((b:Int)<0)=false:=bH e1
 have e3:¬(p.blocks σ:Int)<=(b:Int):=by omega
 have e4:decide ((p.blocks σ:Int)<=(b:Int))=false:=bH e3
 have e5:decide (p.blocks σ<=b)=false:=bH (by omega)
 go_enter Tryz.func92,Tryz.ntmps92
 go_wp2_with (first
  |(go_at_call 52;go_must (refine HB.out.mono ?_;rintro e w1 ⟨rfl,hw1⟩;subst w1)))
 go_ret
 exact⟨rfl,rfl⟩
theorem Sv (pg d:Nat)(σ:Dk)(l:Lg)(p:Pg)(op:Value)(S:Nat->Prop)(w:World)(h:iF w S pg d σ l p op):
  Calls Tryz.prog 79 #[.pointer (some ⟨pg,0,none⟩)] w fun e w'=>e= .returned (.int .i64 l.last)/\w'=w:=by
 obtain⟨Sd,Sl,Sp,lg,fb,h,hS⟩:=h
 obtain⟨_,c1,_,_,_,_,_,hlt,_⟩:=h.cells
 have HW:=af (KN lg d l Sl w h.log.lg)
 clear h
 go_enter Tryz.func79,Tryz.ntmps79
 go_wp2_with (first
  |(go_at_call 103;go_must (refine HW.out.mono ?_;rintro e w1 ⟨rfl,hw1⟩;subst w1)))
 go_ret
 exact⟨rfl,rfl⟩
theorem jH.look {w:World}{b:Nat}{im:Im}(h:jH w b im)(k:Nat):∃D,w.ownsMap Tryz.prog 3 rI b 5000 D/\Maps.has D (kI k)=decide (k∈im.ks)/\(k∈im.ks->D.atKey (kI k) (.lit (.string zB))= .lit (.string (im.img k))):=by
 obtain⟨D,h1,h2,h3,h4,h5⟩:=h
 exact⟨D,h1,h4 k,fun hk=>h5 k hk _⟩
theorem sK:rI (.agg (aB zB).toArray)=some (.lit (.string zB),[]):=Ht zB fF
theorem tread (t pg d:Nat)(σ:Dk)(l:Lg)(p:Pg)(op:Value)(im:Im)(S T:Nat->Prop)(b:Nat)(w:World)(h:iF w S pg d σ l p op)(ht:pJ w T t pg im (p.blocks σ))(hd:p.dead=false)(hsd:σ.dead=false)(hb:b<p.blocks σ):
  Calls Tryz.prog 136 #[.pointer (some ⟨t,0,none⟩),.int .i64 b] w fun e w'=>∃v,e= .returned (.tuple #[v,.int .i64 0])/\aW w' d9 1 v 512 (aB (p.look im σ b))/\(∀g,v.ownBlock=some g->w.heap.size<=g)/\Below w.heap.size w w':=by
 have HU:=af (BM t pg d σ l p op im S T (p.blocks σ) b w h ht hd hb)
 have hbl:p.blocks σ<=4096:=by have:=h.ok.2.1.hi;unfold Pg.blocks;omega
 have hbw:=wH (b:Int) (by omega) (by omega)
 obtain⟨Sd,Sl,Sp,lg,fb,h,hS⟩:=h
 obtain⟨db,ht⟩:=ht
 obtain⟨c0,_,c2,_,c4,_,c6,hlt,_⟩:=h.cells
 obtain⟨t0,t1,htl⟩:=ht.cells
 have HS:=af (show ∀W:World,Below w.heap.size w W->W.cell? ⟨t,0,none⟩=some (.pointer (some ⟨pg,0,none⟩))/\W.cell? ⟨t,1,none⟩=some (.map (some db))/\W.cell? ⟨pg,0,none⟩=some (.pointer (some ⟨d,0,none⟩))/\W.cell? ⟨pg,2,none⟩=some (.int .i64 p.skip)/\W.cell? ⟨pg,4,none⟩=some (.map (some fb))/\t<W.heap.size/\pg<W.heap.size from fun W hW=>
  ⟨(hW.cell (p:=⟨t,0,none⟩) htl).trans t0,(hW.cell (p:=⟨t,1,none⟩) htl).trans t1,(hW.cell (p:=⟨pg,0,none⟩) hlt).trans c0,(hW.cell (p:=⟨pg,2,none⟩) hlt).trans c2,(hW.cell (p:=⟨pg,4,none⟩) hlt).trans c4,ax htl hW.size,ax hlt hW.size⟩)
 have HH:=af h;have HT:=af ht
 clear h ht c0 c2 c4 c6 t0 t1
 go_enter Tryz.func136,Tryz.ntmps136
 go_wp2_with (first
  |(go_at_call 92;go_must (refine HU.out.mono ?_;rintro e w1 ⟨rfl,hw1⟩;subst w1)))
 refine aK (fun W=>Below w.heap.size w W) (fun i=> !([11].contains i)) [0,1,2,3,4,5,6,7,8,9,10,13,11,12] rfl (by kernel_rfl) ((aH _ w).drew.drew) ?_
 repeat ((refine bq (v:= ?_) rfl rfl (fun _ _ _ h=>h) rfl (fun W hW=> ?_) ?_);rotate_left;(focus ((try dsimp only at hW);obtain⟨r0,r1,r2,r3,r4,r5,r6⟩:=HS.out W hW;(go_simp;first|done|with_reducible rfl)));(try simp only[Act.put,aj,av,au]))
 refine bP rfl rfl rfl ?_;intro K hK;go_simp
 obtain⟨w2,HW2⟩:∃w2:World,Hid ((w.alloc (.cells #[.map (some db),.map (some fb)] 197)).drew.drew=w2):=⟨_,af rfl⟩
 have hb2:Below w.heap.size w w2:=by rw[<-HW2.out];exact(aC w _).drew.drew
 have hx0:w2.cell? ⟨w.heap.size,0,none⟩=some (.map (some db)):=by rw[<-HW2.out];show (w.alloc _).cell? _=_;simp
 have hx1:w2.cell? ⟨w.heap.size,1,none⟩=some (.map (some fb)):=by rw[<-HW2.out];show (w.alloc _).cell? _=_;simp
 have hxl:w.heap.size<w2.heap.size:=by rw[<-HW2.out];simp
 rw[HW2.out]
 refine hK.out _ _ hb2 ?_
 repeat ((refine bq (v:= ?_) rfl rfl (fun _ _ _ h=>h) rfl (fun W hW=> ?_) ?_);rotate_left;(focus ((try dsimp only at hW);obtain⟨r0,r1,r2,r3,r4,r5,r6⟩:=HS.out W hW;(go_simp;first|done|with_reducible rfl)));(try simp only[Act.put,aj,av,au]))
 refine bF ?_
 have HI0:=af HT.out.img;have HI1:=af HH.out.fr
 have HL0:=af (HT.out.sub _ HT.out.sdb);have HL1':=af (HH.out.sub _ HH.out.sfb)
 have HL1:=HL1'
 have hbw0:=hbw
 clear hbw
 go_wp2_with fail
 go_loopw [32] (fun i wr=>∃k:Nat,k<=2/\i= .int .i64 k/\Hid (Below w2.heap.size w2 wr)/\Hid (0<k->b∉im.ks)/\Hid (1<k->b∉p.fresh.ks)) (fun i _=>2 - (intOf i).toNat)
 case atStart=>exact⟨0,by omega,rfl,af (aH _ _),af (fun h=>absurd h (by omega)),af (fun h=>absurd h (by omega))⟩
 case round=>
  obtain⟨k,hk,rfl,HB,HN0,HN1⟩:=hrel
  have hbw:=hb2.trans (HB.out.mono hb2.size)
  have d0:=(HB.out.cell (p:=⟨w.heap.size,0,none⟩) hxl).trans hx0
  have d1:=(HB.out.cell (p:=⟨w.heap.size,1,none⟩) hxl).trans hx1
  have hxr:=ax hxl HB.out.size
  have hz:(zeroValue 209).run Tryz.prog wr= .ok (.agg (aB zB).toArray) wr:=iW wr
  have hr1:Row (wr.alloc (.cells (aB zB).toArray 209)) wr.heap.size 209 (aB zB):=Row.new wr _ _
  have hz1:=af (show (aB zB).length=512 by rw[aY,fF])
  obtain⟨s0,s1,s2,s3,s4,s5,s6⟩:=HS.out wr hbw
  rcases jv k 1 with h0|h0
  ·obtain rfl:k=0:=by omega
   have HLk:=af (HI0.out.block (hbw.block _ HL0.out))
   obtain⟨D,hD,hh,hat⟩:=HLk.out.look b
   by_cases hm:b∈im.ks
   ·have hh':Maps.has D (kI b)=true:=by rw[hh];exact eT hm
    have hat':=hat hm
    have HAT:=af hat'
    clear hat hat' hh
    go_wp2_with (first
     |(at_lookup;go_must (refine vV _ rfl _ _ 197 rfl 3 209 iw dX rI hz (.lit (.string zB)) [] sK db 5000 D rfl hD _ _ rfl (nT b hbw0) ?_;intro v ps hv;obtain⟨l1,hl1,rfl,hl2⟩:=qW hv;have HL1:=af hl1;have HL2:=af hl2;have hb5:=af (show (aB l1).length=512 by rw[aY,hl1]);have hone:=fq l1;clear hv hl1 hl2;rw[hh']))
     |((refine bU rfl ?_);intro K hK;(refine fZ 209 rfl _ iW ?_);refine hK _ _ ?_)
     |((refine bU rfl ?_);intro K hK;(refine wp_store_row 209 _ _ rfl wr.heap.size 0 209 _ (aB l1) rfl rfl hr1 (jy.trans (congrArg some hb5.out.symm)) (by rw[hz1.out,hb5.out];omega) hone ?_);intro w3 hr3 hk3;refine hK _ _ (Stop.of ?_)))
    refine Stop.on ?_
    rw[kC _ _ (hz1.out.trans hb5.out.symm)] at hr3
    have HR3:=af hr3;have HK3:=af hk3;clear hr3 hk3
    go_wp2_with fail
    go_ret2
    have hlk:l1=p.look im σ b:=by
     have h1:(DataW.lit (Lit.string l1):DataW Unit)= .lit (.string (im.img b)):=HL2.out.symm.trans HAT.out
     injection h1 with h1
     injection h1 with h1
     rw[h1]
     unfold Pg.look Im.find
     rw[if_pos hm];rfl
    refine⟨_,rfl,?_,fun g hg=>by cases hg;exact aG hb2.size HB.out.size,?_⟩
    ·rw[<-hlk]
     have:=HR3.out.dL (S:=d9) (k:=1) (off:=0) 512 512 (by rw[hb5.out];omega) id (aA _) (by simp[maxLen])
     rwa [fE,aI (by rw[hb5.out];omega)] at this
    ·exact(hb2.trans (HB.out.mono hb2.size)).trans (((Keep.refl (fun _=>False) wr).alloc _).trans (HK3.out.mono (M':=fun g=>g=wr.heap.size) (fun _ _ e=>e)) (fun i hi e=>by omega)|>.below.mono (aG hb2.size HB.out.size))
   ·have hh':Maps.has D (kI b)=false:=by rw[hh];exact bH hm
    clear hat hh
    go_wp2_with (first
     |(at_lookup;go_must (refine vV _ rfl _ _ 197 rfl 3 209 iw dX rI hz (.lit (.string zB)) [] sK db 5000 D rfl hD _ _ rfl (nT b hbw0) ?_;intro v ps hv;obtain⟨l1,hl1,rfl,hl2⟩:=qW hv;have HL1:=af hl1;have HL2:=af hl2;have hb5:=af (show (aB l1).length=512 by rw[aY,hl1]);have hone:=fq l1;clear hv hl1 hl2;rw[hh']))
     |((refine bU rfl ?_);intro K hK;(refine fZ 209 rfl _ iW ?_);refine hK _ _ ?_)
     |((refine bU rfl ?_);intro K hK;(refine wp_store_row 209 _ _ rfl wr.heap.size 0 209 _ (aB l1) rfl rfl hr1 (jy.trans (congrArg some hb5.out.symm)) (by rw[hz1.out,hb5.out];omega) hone ?_);intro w3 hr3 hk3;refine hK _ _ (Stop.of ?_)))
    refine Stop.on ?_
    have HB3:=af (HB.out.trans ((((Keep.refl (fun _=>False) wr).alloc _).trans (hk3.mono (M':=fun g=>g=wr.heap.size) (fun _ _ e=>e)) (fun i hi e=>by omega)).below.mono HB.out.size))
    clear hr3 hk3
    go_wp2_with fail
    go_roundw
    case rel=>exact⟨1,by omega,by go_num,HB3,af (fun _=>hm),af (fun h=>absurd h (by omega))⟩
    case measure=>simp[intOf]
  ·rcases jv k 2 with h1|h1
   ·obtain rfl:k=1:=by omega
    have hn0:=HN0.out (by omega)
    have HLk:=af (HI1.out.block (hbw.block _ HL1.out))
    obtain⟨D,hD,hh,hat⟩:=HLk.out.look b
    by_cases hm:b∈p.fresh.ks
    ·have hh':Maps.has D (kI b)=true:=by rw[hh];exact eT hm
     have hat':=hat hm
     have HAT:=af hat'
     clear hat hat' hh
     go_wp2_with (first
      |(at_lookup;go_must (refine vV _ rfl _ _ 197 rfl 3 209 iw dX rI hz (.lit (.string zB)) [] sK fb 5000 D rfl hD _ _ rfl (nT b hbw0) ?_;intro v ps hv;obtain⟨l1,hl1,rfl,hl2⟩:=qW hv;have HL1:=af hl1;have HL2:=af hl2;have hb5:=af (show (aB l1).length=512 by rw[aY,hl1]);have hone:=fq l1;clear hv hl1 hl2;rw[hh']))
      |((refine bU rfl ?_);intro K hK;(refine fZ 209 rfl _ iW ?_);refine hK _ _ ?_)
      |((refine bU rfl ?_);intro K hK;(refine wp_store_row 209 _ _ rfl wr.heap.size 0 209 _ (aB l1) rfl rfl hr1 (jy.trans (congrArg some hb5.out.symm)) (by rw[hz1.out,hb5.out];omega) hone ?_);intro w3 hr3 hk3;refine hK _ _ (Stop.of ?_)))
     refine Stop.on ?_
     rw[kC _ _ (hz1.out.trans hb5.out.symm)] at hr3
     have HR3:=af hr3;have HK3:=af hk3;clear hr3 hk3
     go_wp2_with fail
     go_ret2
     have hlk:l1=p.look im σ b:=by
      have h1:(DataW.lit (Lit.string l1):DataW Unit)= .lit (.string (p.fresh.img b)):=HL2.out.symm.trans HAT.out
      injection h1 with h1
      injection h1 with h1
      rw[h1]
      unfold Pg.look Im.find
      rw[if_neg hn0,if_pos hm];rfl
     refine⟨_,rfl,?_,fun g hg=>by cases hg;exact aG hb2.size HB.out.size,?_⟩
     ·rw[<-hlk]
      have:=HR3.out.dL (S:=d9) (k:=1) (off:=0) 512 512 (by rw[hb5.out];omega) id (aA _) (by simp[maxLen])
      rwa [fE,aI (by rw[hb5.out];omega)] at this
     ·exact(hb2.trans (HB.out.mono hb2.size)).trans (((Keep.refl (fun _=>False) wr).alloc _).trans (HK3.out.mono (M':=fun g=>g=wr.heap.size) (fun _ _ e=>e)) (fun i hi e=>by omega)|>.below.mono (aG hb2.size HB.out.size))
    ·have hh':Maps.has D (kI b)=false:=by rw[hh];exact bH hm
     clear hat hh
     go_wp2_with (first
      |(at_lookup;go_must (refine vV _ rfl _ _ 197 rfl 3 209 iw dX rI hz (.lit (.string zB)) [] sK fb 5000 D rfl hD _ _ rfl (nT b hbw0) ?_;intro v ps hv;obtain⟨l1,hl1,rfl,hl2⟩:=qW hv;have HL1:=af hl1;have HL2:=af hl2;have hb5:=af (show (aB l1).length=512 by rw[aY,hl1]);have hone:=fq l1;clear hv hl1 hl2;rw[hh']))
      |((refine bU rfl ?_);intro K hK;(refine fZ 209 rfl _ iW ?_);refine hK _ _ ?_)
      |((refine bU rfl ?_);intro K hK;(refine wp_store_row 209 _ _ rfl wr.heap.size 0 209 _ (aB l1) rfl rfl hr1 (jy.trans (congrArg some hb5.out.symm)) (by rw[hz1.out,hb5.out];omega) hone ?_);intro w3 hr3 hk3;refine hK _ _ (Stop.of ?_)))
     refine Stop.on ?_
     have HB3:=af (HB.out.trans ((((Keep.refl (fun _=>False) wr).alloc _).trans (hk3.mono (M':=fun g=>g=wr.heap.size) (fun _ _ e=>e)) (fun i hi e=>by omega)).below.mono HB.out.size))
     clear hr3 hk3
     go_wp2_with fail
     go_roundw
     case rel=>exact⟨2,by omega,by go_num,HB3,af (fun _=>hn0),af (fun _=>hm)⟩
     case measure=>simp[intOf]
   ·obtain rfl:k=2:=by omega
    have hn0:=HN0.out (by omega)
    have hn1:=HN1.out (by omega)
    have hbb:b<σ.n - p.skip:=hb
    have hnn:=HH.out.log.dk.ok.hi
    obtain⟨z,HZ⟩:∃z,Hid (p.skip+b=z):=⟨_,af rfl⟩
    have hz1':IntKind.i64.wrap ((p.skip:Int)+(b:Int))=(z:Int):=by rw[aS _ (by omega),<-HZ.out];omega
    have hzn:z<σ.n:=by rw[<-HZ.out];omega
    have HDk:=af (HH.out.log.dk.below hbw)
    have HRd:=af (Tc d σ Sd z wr.drew (HDk.out.below ((aH _ wr).drew)) hsd hzn)
    have HLK:=af (show σ.get z=p.look im σ b by
     unfold Pg.look Im.find
     rw[if_neg hn0,if_neg hn1,HZ.out]
     rfl)
    have HBW:=af hbw;have HHz:=af hzn
    clear hn0 hn1 hr1 hz d0 d1 hxr s0 s1 s2 s3 s4 s5 s6 hzn
    go_wp2_with fail
    refine aK (fun W=>Below w.heap.size w W) (fun i=> !([16].contains i)) [0,1,2,3,4,5,6,7,8,9,10,11,12,13,14,15,16,17,18,19,20,21] rfl (by kernel_rfl) hbw.drew ?_
    repeat ((refine bq (v:= ?_) rfl rfl (fun _ _ _ h=>h) rfl (fun W hW=> ?_) ?_);rotate_left;(focus ((try dsimp only at hW);obtain⟨r0,r1,r2,r3,r4,r5,r6⟩:=HS.out W hW;(go_simp;first|done|with_reducible rfl)));(try simp only[Act.put,aj,av,au]))
    refine bP rfl rfl rfl ?_;intro K hK;go_simp
    refine HRd.out.mono ?_;rintro e w5 ⟨v,rfl,hv5,hb5⟩
    have hb5':=HBW.out.drew.trans (hb5.mono hbw.size)
    refine hK.out _ _ hb5' ?_
    have HV5:=af hv5;have HB5:=af hb5';clear hv5 hb5 hb5'
    repeat ((refine bq (v:= ?_) rfl rfl (fun _ _ _ h=>h) rfl (fun W hW=> ?_) ?_);rotate_left;(focus ((try dsimp only at hW);skip;(go_simp;first|done|with_reducible rfl)));(try simp only[Act.put,aj,av,au]))
    refine bF ?_
    go_wp2_with fail
    go_ret2
    rw[<-HLK.out]
    exact⟨v,rfl,HV5.out.dL,fun g hg=>aG HBW.out.size (HV5.out.1.lt g hg).1,HB5.out⟩
theorem Ab (n:Nat)(l:List UInt8):splice (aB (List.replicate n 0)) 0 (aB l)=aB (l++List.replicate (n - l.length) 0):=by
 simp[splice,aB]
theorem BU (l:List UInt8):splice (aB zB) 0 (aB l)=aB (pad l):=Ab 512 l
theorem tK.put {w w':World}{T:Nat->Prop}{t pg db n:Nat}{im:Im}(h:tK w T t pg db im n)(hn:n<=4096)(b:Nat)(x:List UInt8)(hb:b<n)(hx:x.length=512){D:DataW Unit}(hD:w.ownsMap Tryz.prog 3 rI db 5000 D)(hs:Maps.size D=im.ks.length)(h0:∀kl,Maps.has D kl=true->∃k:Nat,kl=kI k)
  (h1:∀k:Nat,Maps.has D (kI k)=decide (k∈im.ks)) (h2:∀k:Nat,k∈im.ks->∀z,D.atKey (kI k) z= .lit (.string (im.img k))) (ho:w'.ownsMap Tryz.prog 3 rI db 5001 (D.put (kI b) (.lit (.string x)))) (hk:Keep (· =db) w w'):tK w' T t pg db (im.put b x) n:=
 ⟨h.ok.put b x hb hx,fun g hg=>ax (h.sub g hg) hk.size,h.st,h.sdb,(hk.block _ (h.sub _ h.st) (fun e=>h.img.ne h.obj e)).trans h.obj,jH.put h.ok hn b x hb hD hs h0 h1 h2 ho⟩
theorem Keep.qX {w w':World}{b:Nat}(h:w.grownBy w' (some b)):Keep (· =b) w w':=
 (Keep.refl (· =b) w).grown h (fun k e=>by cases e;exact .inr rfl)
theorem FN (t pg d:Nat)(σ:Dk)(l:Lg)(p:Pg)(op:Value)(im:Im)(S T:Nat->Prop)(b:Nat)(v:Value)(x:List UInt8)(w:World)(h:iF w S pg d σ l p op)(ht:pJ w T t pg im (p.blocks σ))(hd:p.dead=false)(hb:b<p.blocks σ)(hv:aW w d9 1 v x.length (aB x))(hx:x.length<=512):
  Calls Tryz.prog 118 #[.pointer (some ⟨t,0,none⟩),.int .i64 b,v] w fun e w'=>e= .returned (.int .i64 0)/\pJ w' T t pg (im.put b (pad x)) (p.blocks σ)/\Step T T w w':=by
 have HU:=af (BM t pg d σ l p op im S T (p.blocks σ) b w h ht hd hb)
 have hbl:p.blocks σ<=4096:=by have:=h.ok.2.1.hi;unfold Pg.blocks;omega
 have hbw0:=wH (b:Int) (by omega) (by omega)
 obtain⟨vo,vc,rfl,v1,v2,v3,v4⟩:=aW.form hv
 obtain⟨db,ht⟩:=ht
 obtain⟨t0,t1,htl⟩:=ht.cells
 have hx':¬((512:Int)<(x.length:Int)):=by omega
 have HT:=af ht;have HB:=af hb;have HBL:=af hbl
 have hr1:Row (w.drew.alloc (.cells (aB zB).toArray 209)) w.heap.size 209 (aB zB):=Row.new w.drew _ _
 have hz1:=af (show (aB zB).length=512 by rw[aY,fF])
 have hlen:=af (aY x)
 have hfst:=(hv.below (w':=w.drew.alloc (.cells (aB zB).toArray 209)) ((aH _ w).drew.alloc (aA _) _)).first (P:=Tryz.prog) x.length (aA _)
 rw[iA,aI (fA hlen.out)] at hfst
 have hfst:=af hfst
 clear h ht hd hb hbl v3 v4
 go_enter Tryz.func118,Tryz.ntmps118
 go_wp2_with (first
  |(go_at_call 92;go_must (refine HU.out.mono ?_;rintro e w1 ⟨rfl,hw1⟩;subst w1))
  |((refine bU rfl ?_);intro K hK;(refine fZ 209 rfl _ iW ?_);refine hK _ _ ?_)
  |((refine bU rfl ?_);intro K hK;(refine lm (.tmp 18) (.tmp 19) 154 154 rfl 5 1 1 (.int .u8 0) aO iJ w.heap.size 0 209 x.length 512 512 (some ⟨w.heap.size,0,none⟩) _ rfl hr1 (.slice vo x.length vc) rfl x.length (aB x) rfl ?_ ?_ hfst.out (fun _=>rfl) ?_ (fq _) ?_);go_must ((focus (exact(dh hx).symm));(focus (rw[hlen.out,iA]));(focus (rw[hlen.out,hz1.out];omega));intro w3 hr3 hk3;refine hK _ _ (Stop.of ?_))))
 refine Stop.on ?_
 rw[BU] at hr3
 have hk13:Keep d9 w w3:=(((Keep.refl d9 w).drew).alloc _).trans hk3 (fun i hi e=>absurd hi (by rw[e];exact bY _))
 have hb3:=hk13.below
 have ht3:tK w3 T t pg db im (p.blocks σ):=by
  have hT:=HT.out
  exact⟨hT.ok,fun g hg=>ax (hT.sub g hg) hb3.size,hT.st,hT.sdb,(hb3.block _ (hT.sub _ hT.st)).trans hT.obj,hT.img.block (hb3.block _ (hT.sub _ hT.sdb))⟩
 obtain⟨D,hD,hs,h0,h1,h2⟩:=ht3.img
 obtain⟨s0,s1,stl⟩:=ht3.cells
 have hpl:(pad x).length=512:=mJ hx
 have hone:=fq (pad x)
 have hcl:=af (show (aB (pad x)).length=512 by rw[aY,hpl])
 have hval:=af (Ht (pad x) hpl)
 obtain⟨C,HC⟩:∃C,Hid (aB (pad x)=C):=⟨_,af rfl⟩
 rw[HC.out] at hr3 hone hcl hval
 have hw:w3.drew.rangeAt w.heap.size 0 C:=hr3.whole
 have s1':w3.drew.cell? ⟨t,1,none⟩=some (.map (some db)):=s1
 have HT3:=af ht3;have HB3:=af hb3;have HH2:=af (ak hs (ak h0 (ak h1 h2)))
 have HDD:=af hD
 clear ht3 hb3 hs h0 h1 h2 hk13 hk3 hr3 hr1 hD
 go_wp2_with fail
 refine aK (fun W=>W=w3.drew) (fun i=> !([6].contains i)) [0,1,2,3,4,5,6] rfl (by kernel_rfl) rfl ?_
 repeat ((refine bq (v:= ?_) rfl rfl (fun _ _ _ h=>h) rfl (fun W hW=> ?_) ?_);rotate_left;(focus ((try dsimp only at hW);subst hW;(go_simp;first|done|with_reducible rfl)));(try simp only[Act.put,aj,av,au]))
 refine bq (v:= .agg C.toArray) rfl rfl (fun _ _ _ h=>h) rfl (fun W hW=> ?_) ?_
 ·subst hW
  exact jU 209 (.tmp 8) rfl w.heap.size 0 rfl C _ hw Tryz.underlying209 rfl (jy.trans (congrArg some hcl.out.symm))
 simp only[Act.put,aj,av,au]
 refine jm rfl rfl rfl (by kernel_rfl) ?_;intro K hK
 refine qi _ _ _ 197 rfl 3 209 iw dX rI db 5000 D rfl (RH HDD.out) (by simp[maxLen]) _ _ (kI b) rfl rfl (nT b hbw0) (.lit (.string (pad x))) [] hval.out ?_
 intro w4 ho4 hg4
 refine hK.out _ _ ?_
 refine bF ?_
 have hk4:Keep (· =db) w3 w4:=((Keep.refl (· =db) w3).drew).trans (Keep.qX hg4) (fun _ _ e=>e)
 have HT4:=af (HT3.out.put HBL.out b (pad x) HB.out hpl HDD.out HH2.out.1 HH2.out.2.1 HH2.out.2.2.1 HH2.out.2.2.2 ho4 hk4)
 have HK4:=af hk4
 clear ho4 hg4 hk4
 go_wp2_with fail
 go_ret
 exact⟨rfl,⟨db,HT4.out⟩,(Keep.of_below HB3.out T).trans (HK4.out.mono (fun _ _ e=>e▸HT3.out.sdb)) (fun _ _ e=>e),fun _ hg=> .inl hg⟩
end Go.Proofs.YtpmbddooibgnaaaGreatDoor
namespace Go.Proofs.YtpmbddooibgnaaaGreatDoor
open Go.RowKit Go.Shelf
def NQ:Go.Shelf.Ren:=⟨fun x=>match x with|189=>85|125=>146|257=>145|128=>231|129=>232|294=>222|295=>223|296=>224|297=>225|298=>226|299=>227|216=>228|300=>229|301=>230|328=>342|329=>343|330=>344|331=>345|332=>346|215=>347|343=>452|n=>n,fun x=>match x with|28=>39|3=>3|46=>232|0=>0|51=>88|53=>292|4=>4|183=>377|182=>376|131=>189|5=>5|9=>9|218=>490|222=>494|228=>575|229=>58|n=>n,fun n=>n⟩
theorem uJ:Lays.n189 Tryz.prog NQ where
 mixed:=by kernel_rfl
 f125:=Tryz.func146.trans (congrArg some (by kernel_rfl))
 f128:=Tryz.func231.trans (congrArg some (by kernel_rfl))
 f129:=Tryz.func232.trans (congrArg some (by kernel_rfl))
 f189:=Tryz.func85.trans (congrArg some (by kernel_rfl))
 f215:=Tryz.func347.trans (congrArg some (by kernel_rfl))
 f216:=Tryz.func228.trans (congrArg some (by kernel_rfl))
 f257:=Tryz.func145.trans (congrArg some (by kernel_rfl))
 f294:=Tryz.func222.trans (congrArg some (by kernel_rfl))
 f295:=Tryz.func223.trans (congrArg some (by kernel_rfl))
 f296:=Tryz.func224.trans (congrArg some (by kernel_rfl))
 f297:=Tryz.func225.trans (congrArg some (by kernel_rfl))
 f298:=Tryz.func226.trans (congrArg some (by kernel_rfl))
 f299:=Tryz.func227.trans (congrArg some (by kernel_rfl))
 f300:=Tryz.func229.trans (congrArg some (by kernel_rfl))
 f301:=Tryz.func230.trans (congrArg some (by kernel_rfl))
 f328:=Tryz.func342.trans (congrArg some (by kernel_rfl))
 f329:=Tryz.func343.trans (congrArg some (by kernel_rfl))
 f330:=Tryz.func344.trans (congrArg some (by kernel_rfl))
 f331:=Tryz.func345.trans (congrArg some (by kernel_rfl))
 f332:=Tryz.func346.trans (congrArg some (by kernel_rfl))
 f343:=Tryz.func452.trans (congrArg some (by kernel_rfl))
 t0:=fC
 a0:=jX
 z0:=jr
 v0:=fP
 t3:=bS
 a3:=iH
 z3:=gD
 v3:=dW
 t4:=dV
 a4:=jB
 z4:=iM
 v4:=fB
 t5:=dx
 a5:=jW
 z5:=jq
 v5:=fO
 t9:=bf
 a9:=je
 z9:=gU
 v9:=eG
 t28:=kr
 a28:=Tryz.isAgg39
 z28:=Tryz.sizeOf39
 v28:=Tryz.zeroValue39
 t46:=gK
 a46:=kT
 z46:=jV
 v46:=iG
 t51:=mD
 a51:=wB
 z51:=sV
 v51:=nC
 t53:=nY
 a53:=Kz
 z53:=Fx
 v53:=vZ
 t131:=Tryz.underlying189
 a131:=Tryz.isAgg189
 z131:=Tryz.sizeOf189
 v131:=Tryz.zeroValue189
 t182:=Tryz.underlying376
 a182:=Tryz.isAgg376
 z182:=Tryz.sizeOf376
 v182:=Tryz.zeroValue376
 t183:=Tryz.underlying377
 a183:=Tryz.isAgg377
 z183:=Tryz.sizeOf377
 v183:=Tryz.zeroValue377
 t218:=Tryz.underlying490
 a218:=Tryz.isAgg490
 z218:=Tryz.sizeOf490
 v218:=Tryz.zeroValue490
 t222:=Tryz.underlying494
 a222:=Tryz.isAgg494
 z222:=Tryz.sizeOf494
 v222:=Tryz.zeroValue494
 t228:=Tryz.underlying575
 a228:=Tryz.isAgg575
 z228:=Tryz.sizeOf575
 v228:=Tryz.zeroValue575
 t229:=Tryz.underlying58
 a229:=Tryz.isAgg58
 z229:=Tryz.sizeOf58
 v229:=Tryz.zeroValue58
def yC:Go.Shelf.Ren:=⟨fun x=>match x with|6=>94|7=>95|8=>153|9=>85|10=>154|11=>234|n=>n,fun x=>match x with|0=>0|3=>209|4=>4|23=>197|24=>39|26=>3|27=>205|28=>206|33=>34|n=>n,fun n=>n⟩
theorem En:SlLaysZI.n7 Tryz.prog yC where
 mixed:=by kernel_rfl
 f7:=⟨Tryz.f95.name,(by kernel_rfl),Tryz.func95.trans (congrArg some (by kernel_rfl))⟩
 f10:=⟨Tryz.f154.name,(by kernel_rfl),Tryz.func154.trans (congrArg some (by kernel_rfl))⟩
 t0:=fC
 a0:=jX
 z0:=jr
 v0:=fP
 t4:=dV
 a4:=jB
 z4:=iM
 v4:=fB
 t23:=dX
 a23:=Tryz.isAgg197
 z23:=Tryz.sizeOf197
 v23:=Tryz.zeroValue197
 t26:=bS
 a26:=iH
 z26:=gD
 v26:=dW
 t27:=Tryz.underlying205
 a27:=Tryz.isAgg205
 z27:=Tryz.sizeOf205
 v27:=Tryz.zeroValue205
 t28:=Tryz.underlying206
 a28:=Tryz.isAgg206
 z28:=Tryz.sizeOf206
 v28:=Tryz.zeroValue206
 t33:=Tryz.underlying34
 a33:=Tryz.isAgg34
 z33:=Tryz.sizeOf34
 v33:=Tryz.zeroValue34
theorem F3:SlLaysZI.n6 Tryz.prog yC where
 mixed:=by kernel_rfl
 f6:=⟨Tryz.f94.name,(by kernel_rfl),Tryz.func94.trans (congrArg some (by kernel_rfl))⟩
 f8:=⟨Tryz.f153.name,(by kernel_rfl),Tryz.func153.trans (congrArg some (by kernel_rfl))⟩
 f11:=⟨Tryz.f234.name,(by kernel_rfl),Tryz.func234.trans (congrArg some (by kernel_rfl))⟩
 t0:=fC
 a0:=jX
 z0:=jr
 v0:=fP
 t24:=kr
 a24:=Tryz.isAgg39
 z24:=Tryz.sizeOf39
 v24:=Tryz.zeroValue39
 t26:=bS
 a26:=iH
 z26:=gD
 v26:=dW
 t28:=Tryz.underlying206
 a28:=Tryz.isAgg206
 z28:=Tryz.sizeOf206
 v28:=Tryz.zeroValue206
 i26:=by kernel_rfl
end Go.Proofs.YtpmbddooibgnaaaGreatDoor
namespace Go.Proofs.YtpmbddooibgnaaaGreatDoor
open Go.RowKit Go.Maps Go.Sort Go.Shelf
theorem y5:∀{a b:List Int},a.Pairwise (· < ·)->b.Pairwise (· < ·)->(∀x,x∈a↔x∈b)->a=b
 |[],[],_,_,_=>rfl
 |[],y::b,_,_,h=>by have:=(h y).2 (aP ..);cases this
 |x::a,[],_,_,h=>by have:=(h x).1 (aP ..);cases this
 |x::a,y::b,ha,hb,h=>by
  obtain⟨ha1,ha2⟩:=dR.1 ha
  obtain⟨hb1,hb2⟩:=dR.1 hb
  have hxy:x=y:=by
   rcases aX.1 ((h x).1 (aP ..)) with e|e
   ·exact e
   ·rcases aX.1 ((h y).2 (aP ..)) with e'|e'
    ·exact e'.symm
    ·have:=hb1 x e;have:=ha1 y e';omega
  subst hxy
  rw[y5 ha2 hb2 (fun z=> ?_)]
  constructor
  ·intro hz
   rcases aX.1 ((h z).1 (aT _ hz)) with e|e
   ·have:=ha1 z hz;omega
   ·exact e
  ·intro hz
   rcases aX.1 ((h z).2 (aT _ hz)) with e|e
   ·have:=hb1 z hz;omega
   ·exact e
theorem Em {im:Im}{n:Nat}(ho:im.Ok n){D:DataW Unit}(hT:∃es,D= .map es/\es.Pairwise (fun p q=>p.1≠q.1)/\∀p∈es,WideAt.IsKeyLit p.1)(h0:∀kl,Maps.has D kl=true->∃k:Nat,kl=kI k)(h1:∀k:Nat,Maps.has D (kI k)=decide (k∈im.ks))(ss:List Int)(hp:ss.Perm (intKeys D)):
  ss.mergeSort (fun x y=>decide (x<=y))=im.ks.map (fun k:Nat=>(k:Int)):=by
 obtain⟨es,rfl,hpw,hkl⟩:=hT
 have hk:∀p∈es,∃k:Nat,p.1=kI k/\k∈im.ks:=fun p hp=>by
  have hh:Maps.has (.map es) p.1=true:=by
   rw[Maps.has_eq,RQ]
   exact⟨p,hp,WideAt.sameKey_self (hkl p hp)⟩
  obtain⟨k,hk⟩:=h0 _ hh
  refine⟨k,hk,?_⟩
  have:=h1 k
  rw[<-hk,hh] at this
  exact aR this.symm
 have hnd:(intKeys (.map es:DataW Unit)).Nodup:=by
  show (es.map fun p=>Go.intOf p.1).Nodup
  refine zY.2 (hpw.imp_of_mem (fun {p q} hp hq hne he=>hne ?_))
  obtain⟨a,ha,_⟩:=hk p hp
  obtain⟨b,hb,_⟩:=hk q hq
  rw[ha,hb] at he ⊢
  exact congrArg kI he
 have hs1:(ss.mergeSort (fun x y=>decide (x<=y))).Pairwise fun a b=>decide (a<=b)=true:=List.pairwise_mergeSort (fun a b c h1 h2=>by simp at*;omega) (fun a b=>by simp;omega) ss
 have hp2:=(vW ss (fun x y=>decide (x<=y))).trans hp
 have hs2:(ss.mergeSort (fun x y=>decide (x<=y))).Nodup:=hp2.nodup_iff.2 hnd
 have hs3:(ss.mergeSort (fun x y=>decide (x<=y))).Pairwise (· < ·):=hs1.imp₂ (fun a b h h'=>by simp at h;omega) hs2
 refine y5 hs3 (zY.2 (ho.rise.imp (fun h=>by omega))) (fun x=> ?_)
 rw[hp2.mem_iff,gV]
 constructor
 ·intro hx
  obtain⟨p,hp,rfl⟩:=gV.1 (show x∈es.map fun p=>Go.intOf p.1 from hx)
  obtain⟨k,hk,hm⟩:=hk p hp
  exact⟨k,hm,by rw[hk];rfl⟩
 ·rintro⟨k,hm,rfl⟩
  have hh:=h1 k
  rw[eT hm,Maps.has_eq,RQ] at hh
  obtain⟨p,hp,he⟩:=hh
  have e:=WideAt.sameKey_eq he
  show (k:Int)∈es.map fun p=>Go.intOf p.1
  exact gV.2 ⟨p,hp,by rw[e];rfl⟩
theorem PD (mb:Nat)(w:World):Calls Tryz.prog 95 #[.map (some mb)] w fun e w'=>e= .returned (.func (.func 154) #[] #[.pointer (some ⟨w.heap.size,0,none⟩)])/\w'=w.alloc (.cells #[.map (some mb)] 197):=
 callsIn_wide.1 (AnyZI.keys_in En Fence.wide 5 trivial rfl (some mb) w)
theorem NP (m:Nat):AnyZI.SortsIn Tryz.prog yC Fence.wide m:=
 ⟨fun blk off cap ss W hH hblk hsz=>callsIn_wide.2 (Any.slices_Sort_int uJ blk off cap ss W hH hblk hsz),
  fun p cap W=>callsIn_wide.2 (Any.slices_Sort_int_none uJ p cap W)⟩
theorem Hz (b Bm:Nat)(im:Im)(n:Nat)(w:World)(h:jH w b im)(ho:im.Ok n)(hn:n<=4096)(hc:w.cell? ⟨Bm,0,none⟩=some (.map (some b)))(hB:Bm<w.heap.size):
  Calls Tryz.prog 94 #[.func (.func 154) #[] #[.pointer (some ⟨Bm,0,none⟩)]] w fun e w'=>∃v,e= .returned v/\aQ w' d9 w.heap.size 3 1 v im.ks.length ((im.ks.map fun k:Nat=>(k:Int)).map (.int .i64))/\Below w.heap.size w w':=by
 obtain⟨D,hD,hs,h0,h1,h2⟩:=h
 have hlen:=uM _ _ ho.rise ho.hi
 have hseq:SeqGives Fence.wide 2 Tryz.prog 154 #[.pointer (some ⟨Bm,0,none⟩)] encZ (fun ss=>ss.Perm (intKeys D)) (Maps.size D) w:=
  AnyZI.keys_gives (ρ:=yC) {En with} Fence.wide _ trivial rfl (by omega) Bm b 5000 D w hB hc hD
 have cS:=AnyZI.sorted_in F3 Fence.wide 5 trivial trivial trivial trivial rfl (by omega) (NP _) (enters_of Tryz.func85 (by kernel_rfl) rfl) 154 #[.pointer (some ⟨Bm,0,none⟩)] trivial (enters_of Tryz.func154 (by kernel_rfl) rfl) _ (Maps.size D) (by rw[hs];simp only[maxLen];omega) (by rw[hs];omega) w hseq
 have c2:=callsIn_wide.1 cS
 refine Calls.mono (show Calls Tryz.prog 94 _ _ _ from c2) ?_
 rintro e w' ⟨v,ss,rfl,hS,hrow,hnil,hb⟩
 have hk:=Em ho (hD.entries iw) h0 h1 ss hS
 have hl:ss.length=im.ks.length:=by
  have:=congrArg List.length hk
  rwa [List.length_mergeSort,jc] at this
 rw[hk,hl] at hrow
 exact⟨v,rfl,⟨hrow,fun g _ h=>h.elim⟩,hb⟩
end Go.Proofs.YtpmbddooibgnaaaGreatDoor
namespace Go.Proofs.YtpmbddooibgnaaaGreatDoor
open Go.RowKit
theorem Dk.sI {σ:Dk}(h:σ.sync.2=0):σ.sync.1.waits=[]:=by
 unfold Dk.sync at h ⊢
 split at h
 ·cases h
 ·split at h
  ·cases h
  ·rename_i h1 h2
   rw[if_neg h1,if_neg h2]
   rfl
theorem Lg.sO {σ:Dk}{l:Lg}(h:(l.mark σ).2.2=0):(l.mark σ).1.waits=[]/\(l.mark σ).2.1=l:=by
 unfold Lg.mark at h ⊢
 split at h
 ·rename_i h1
  split at h
  ·rename_i h2
   rw[if_pos h1,if_pos h2]
   exact⟨Dk.sI h2,rfl⟩
  ·cases h
 ·cases h
theorem Lg.sI {σ:Dk}{l:Lg}(h:(l.sync σ).2.2=0):(l.sync σ).1.waits=[]/\(l.sync σ).2.1=l.all/\l.dead=false:=by
 unfold Lg.sync at h ⊢
 split at h
 ·cases h
 ·rename_i hd
  split at h
  ·rename_i h1
   split at h
   ·rename_i h2
    rw[if_neg hd,if_pos h1,if_pos h2]
    have:=Lg.sO h2
    exact⟨this.1,this.2,by simpa using hd⟩
   ·cases h
  ·cases h
theorem Lg.LU (σ:Dk)(l:Lg):(l.mark σ).1.n=σ.n:=by
 unfold Lg.mark
 split
 ·split<;>rw[Dk.lu,Dk.nQ]
 ·rw[Dk.nQ]
theorem Lg.lu (σ:Dk)(l:Lg):(l.sync σ).1.n=σ.n:=by
 unfold Lg.sync
 split
 ·rfl
 ·split
  ·split<;>rw[Lg.LU,Dk.lu]
  ·exact Dk.lu σ
theorem Lg.Ay (σ:Dk)(l:Lg):(l.sync σ).2.1.frm=l.frm/\(l.sync σ).2.1.n=l.n/\(l.sync σ).2.1.last=l.last:=by
 unfold Lg.sync
 split
 ·exact⟨rfl,rfl,rfl⟩
 ·split
  ·split
   ·rename_i h
    rw[(Lg.sO h).2]
    exact⟨rfl,rfl,rfl⟩
   ·exact⟨rfl,rfl,rfl⟩
  ·exact⟨rfl,rfl,rfl⟩
theorem Lg.KX (σ:Dk)(l:Lg)(u:Nat):(l.trim σ u).1.n=σ.n:=by
 unfold Lg.trim
 split
 ·rfl
 ·split
  ·rfl
  ·split<;>exact Lg.LU _ _
theorem Lg.Jf (σ:Dk)(l:Lg)(u:Nat):(l.trim σ u).2.1.frm=l.frm/\(l.trim σ u).2.1.n=l.n:=by
 unfold Lg.trim
 split
 ·exact⟨rfl,rfl⟩
 ·split
  ·exact⟨rfl,rfl⟩
  ·split
   ·rename_i h
    rw[(Lg.sO h).2]
    exact⟨rfl,rfl⟩
   ·exact⟨rfl,rfl⟩
theorem Pg.Ok.turn {p:Pg}{σ σ':Dk}{l l':Lg}(h:p.Ok σ l)(hn:σ'.n=σ.n)(hf:l'.frm=l.frm)(hl:l'.n=l.n):p.Ok σ' l':=
 ⟨hf.trans h.frm,h.skip.trans hl.symm,h.ring.trans hl.symm,by rw[hl,hn];exact h.fit,by rw[hn];exact h.fresh⟩
def Three (Sd Sl Sp:Nat->Prop):Nat->Prop:=fun g=>Sd g\/Sl g\/Sp g
theorem yj.pack {w:World}{Sd Sl Sp:Nat->Prop}{pg lg d fb:Nat}{σ:Dk}{l:Lg}{p:Pg}{op:Value}(h:yj w Sd Sl Sp pg lg d fb σ l p op):iF w (Three Sd Sl Sp) pg d σ l p op:=⟨Sd,Sl,Sp,lg,fb,h,fun _=>Iff.rfl⟩
theorem kF (pg d:Nat)(σ:Dk)(l:Lg)(p:Pg)(op:Value)(S S1:Nat->Prop)(q:Int)(w0 w:World)(h:iF w S1 pg d σ l p op)(hs:Step S S1 w0 w)(hq:q≠0):
  Calls Tryz.prog 101 #[.pointer (some ⟨pg,0,none⟩),.int .i64 q] w fun e w'=>e= .returned (.int .i64 10)/\∃S',iF w' S' pg d σ l p.dies op/\Step S S' w0 w':=
 (JK pg d σ l p op S1 q w h hq).mono fun _ _ ⟨h1,h2,h3⟩=>⟨h1,S1,h2,hs.trans h3⟩
theorem Pg.vv (p:Pg)(b:Nat)(r:List Nat)(σ:Dk):p.lay (b::r) σ=(if (σ.write ((p.skip+b:Nat):Int) (p.fresh.img b)).2=0 then p.lay r (σ.write ((p.skip+b:Nat):Int) (p.fresh.img b)).1 else((σ.write ((p.skip+b:Nat):Int) (p.fresh.img b)).1,10)):=rfl
theorem yj.anew {w:World}{Sd Sl Sp:Nat->Prop}{pg lg d fb:Nat}{σ:Dk}{l:Lg}{p:Pg}{op:Value}(h:yj w Sd Sl Sp pg lg d fb σ l p op):
  ∃Sp',yj ((w.setCell ⟨pg,4,none⟩ (.map (some w.heap.size))).alloc (.map #[] 0)) Sd Sl Sp' pg lg d w.heap.size σ l {p with fresh:=Im.none} op/\Step (Three Sd Sl Sp) (Three Sd Sl Sp') w ((w.setCell ⟨pg,4,none⟩ (.map (some w.heap.size))).alloc (.map #[] 0)):=by
 obtain⟨w1,hw1⟩:∃w1,w.setCell ⟨pg,4,none⟩ (.map (some w.heap.size))=w1:=⟨_,rfl⟩
 have hk:Keep (· =pg) w w1:=by rw[<-hw1];exact(Keep.refl (· =pg) _).setCell (p:=⟨pg,4,none⟩) (.inr rfl) _
 have hs1:w1.heap.size=w.heap.size:=by rw[<-hw1];simp
 have hka:Keep (fun _=>False) w1 (w1.alloc (.map #[] 0)):=(Keep.refl (fun _=>False) w1).alloc _
 have hl1:=h.log.keep hk (fun g hg e=>h.dd pg h.Ac (e▸hg)) (fun g hg e=>h.dl pg h.Ac (e▸hg))
 have hpl:=h.sub _ h.Ac
 have hdl:∀g,Sd g->g<w.heap.size:=h.log.dk.sub
 have hll:∀g,Sl g->g<w.heap.size:=h.log.lg.sub
 have ho1:w1.heap[pg]? =some (.cells #[.pointer (some ⟨d,0,none⟩),.pointer (some ⟨lg,0,none⟩),.int .i64 p.skip,.int .i64 p.ring,.map (some w.heap.size),op,.bool p.dead] 199 (0,0)):=by
  rw[<-hw1,gL _ pg 4 _ _ _ h.obj];rfl
 rw[hw1]
 refine⟨fun g=>Sp g\/g=w.heap.size,⟨hl1.keep hka (fun _ _ e=>e) (fun _ _ e=>e),⟨h.ok.frm,h.ok.skip,h.ok.ring,h.ok.fit,Im.Ok.none _⟩,fun g hg=> ?_,fun g hg e=> ?_,fun g hg e=> ?_,.inl h.Ac,.inr rfl,?_,?_⟩,?_⟩
 ·have hs:w.heap.size+1=(w1.alloc (.map #[] 0)).heap.size:=by rw[aZ,hs1]
  rw[<-hs]
  rcases hg with hg|hg
  ·have:=h.sub g hg;omega
  ·omega
 ·rcases hg with hg|hg
  ·exact h.dd g hg e
  ·have:=hdl g e;omega
 ·rcases hg with hg|hg
  ·exact h.dl g hg e
  ·have:=hll g e;omega
 ·exact(hka.block _ (by omega) id).trans ho1
 ·rw[<-hs1];exact jH.none w1
 ·refine⟨(hk.mono (fun _ _ e=> .inr (.inr (e▸h.Ac)))).trans hka (fun _ _ e=>e.elim),fun g hg=> ?_⟩
  rcases hg with hg|hg|hg|hg
  ·exact .inl (.inl hg)
  ·exact .inl (.inr (.inl hg))
  ·exact .inl (.inr (.inr hg))
  ·exact .inr (fA hg.symm)
theorem Sr (pg d:Nat)(σ:Dk)(l:Lg)(p:Pg)(op:Value)(S:Nat->Prop)(w:World)(h:iF w S pg d σ l p op)(hcap:σ.waits.length<=90000):
  Calls Tryz.prog 99 #[.pointer (some ⟨pg,0,none⟩)] w fun e w'=>e= .returned (.int .i64 (p.home σ l).2.2.2)/\∃S',iF w' S' pg d (p.home σ l).1 (p.home σ l).2.1 (p.home σ l).2.2.1 op/\Step S S' w w':=by
 obtain⟨Sd,Sl,Sp,lg,fb,h,hS⟩:=h
 obtain⟨c0,c1,c2,_,c4,_,_,hlt,_⟩:=h.cells
 have HY:=af (Pn lg d σ l Sd Sl w h.log (by omega))
 obtain⟨σ1,l1,q,HQ⟩:∃σ1 l1 q,Hid (l.sync σ=(σ1,l1,q)):=⟨_,_,_,af rfl⟩
 rw[HQ.out] at HY
 have HN1:=af (show σ1.n=σ.n by have:=Lg.lu σ l;rw[HQ.out] at this;exact this)
 have HS1:=af (show l1.frm=l.frm/\l1.n=l.n/\l1.last=l.last by have:=Lg.Ay σ l;rw[HQ.out] at this;exact this)
 have HH:=af h
 clear h c0 c2 c4
 go_enter Tryz.func99,Tryz.ntmps99
 go_wp2_with (first
  |(go_at_call 104;go_must (refine HY.out.mono ?_;rintro e w1 ⟨rfl,Sd1,Sl1,hA1,hT1⟩;refine Stop.of ?_)))
 refine Stop.on ?_
 have hP:=HH.out.turn hA1 hT1 (HH.out.ok.turn HN1.out HS1.out.1 HS1.out.2.1)
 have HP1:=af hP.1;have HT1:=af (hP.2.eqv hS (fun _=>Iff.rfl):Step S (Three Sd1 Sl1 Sp) w w1)
 clear hP hA1 hT1
 by_cases hq:q=0
 ·subst hq
  obtain⟨hw1,hl1,hld⟩:=Lg.sI (show (l.sync σ).2.2=0 by rw[HQ.out])
  rw[HQ.out] at hw1 hl1
  have HW1:=af hw1;have HL1:=af hl1;have HLD:=af hld;clear hw1 hl1 hld
  obtain⟨e0,_,_,_,e4,_,_,hlt1,_⟩:=HP1.out.cells
  have hfok:=HP1.out.ok.fresh
  have hn1:=HP1.out.log.dk.ok.hi
  have hbl:σ1.n - p.skip<=4096:=by omega
  have HLN:=af (uM _ _ hfok.rise hfok.hi)
  have HSo:=af (Hz fb w1.heap.size p.fresh _ (w1.alloc (.cells #[.map (some fb)] 197)) (HP1.out.fr.block (nD _ _ _ HP1.out.fr.lt)) hfok hbl (by simp) (by simp))
  have HFO:=af hfok;have HBL:=af hbl;clear hfok hbl hn1
  go_wp2_with (first
   |(go_at_call 95;go_must (refine(PD fb _).mono ?_;rintro e w2 ⟨rfl,hw2⟩;subst w2))
   |(go_at_call 94;go_must (refine HSo.out.mono ?_;rintro e w3 ⟨v,rfl,hO,hb3⟩;refine Stop.of ?_)))
  refine Stop.on ?_
  have hb13:Below w1.heap.size w1 w3:=(aC w1 _).trans (hb3.mono (by simp))
  have HB13:=af hb13
  obtain⟨vo,vc,rfl,_,_,_,_⟩:=aW.form hO.dL
  have hO':aQ w3 (Three Sd1 Sl1 Sp) w1.heap.size 3 1 (.slice vo p.fresh.ks.length vc) p.fresh.ks.length ((p.fresh.ks.map fun k:Nat=>(k:Int)).map (.int .i64)):=by
   refine(hO.lower (by simp:w1.heap.size<=_)).other (fun g hg hs=> ?_)
   exact absurd (HP1.out.pack.sub g hs) (by omega)
  have HO:=af hO'.dL
  have HP3:=af (HP1.out.keep (Keep.of_below hb13 d9) (fun _ _ e=>e))
  have HT3:=af (HT1.out.trans (Step.of_below hb13))
  clear hb13 hb3 hO hO' e0 e4 HSo
  go_wp2_with fail
  go_loopw [27] (fun i wr=>∃(k:Nat) (Sd2:Nat->Prop) (τ:Dk),k<=p.fresh.ks.length/\i= .int .i64 k/\Hid (yj wr Sd2 Sl1 Sp pg lg d fb τ l1 p op)/\Hid (Step S (Three Sd2 Sl1 Sp) w wr)/\Hid (τ.waits.length<=k)/\Hid (p.lay p.fresh.ks σ1=p.lay (p.fresh.ks.drop k) τ)/\
   Hid (aW wr (Three Sd2 Sl1 Sp) 1 (.slice vo p.fresh.ks.length vc) p.fresh.ks.length ((p.fresh.ks.map fun k:Nat=>(k:Int)).map (.int .i64)))) (fun i _=>p.fresh.ks.length - (intOf i).toNat)
  case atStart=>exact⟨0,Sd1,σ1,aN _,rfl,HP3,HT3,af (by rw[HW1.out];exact aA _),af rfl,HO⟩
  case round=>
   obtain⟨k,Sd2,τ,hk,rfl,HPr,HTr,HWt,HLy,HOr⟩:=hrel
   obtain⟨e0,e1,e2,_,e4,_,_,hltw,hfz⟩:=HPr.out.cells
   have hkn:k<=4096:=by have:=HLN.out;have:=HBL.out;omega
   by_cases hlt:k<p.fresh.ks.length
   ·have hltI:(k:Int)<(p.fresh.ks.length:Int):=by omega
    obtain⟨b,HB⟩:∃b,Hid (p.fresh.ks[k]=b):=⟨_,af rfl⟩
    have hbm:b∈p.fresh.ks:=by rw[<-HB.out];exact bI hlt
    have hb1:=HFO.out.hi b hbm
    have hbw:=wH (b:Int) (by omega) (by have:=HBL.out;omega)
    obtain⟨kb,kq,rfl,hkc⟩:=aW.Bz HOr.out rfl k (.int .i64 (b:Int)) (by simp[bD hlt,HB.out])
    obtain⟨D,hD,hh,hat⟩:=HPr.out.fr.look b
    have hz:(zeroValue 209).run Tryz.prog wr= .ok (.agg (aB zB).toArray) wr:=iW wr
    obtain⟨v1,ps1,hrun,hv1⟩:=hD.lookup iw dX hz sK (nT b hbw)
    obtain⟨x,hx,rfl,hdx⟩:=qW hv1
    have hxe:x=p.fresh.img b:=by
     have h1:=(hat hbm).symm.trans hdx
     injection h1 with h1
     injection h1 with h1
     exact h1.symm
    have HXE:=af hxe;have HX:=af hx
    clear hv1 hdx hat hh hD hxe hx
    have hr1:Row (wr.alloc (.cells (aB zB).toArray 209)) wr.heap.size 209 (aB zB):=Row.new wr _ _
    have hz1:=af (show (aB zB).length=512 by rw[aY,fF])
    have hb5:=af (show (aB x).length=512 by rw[aY,HX.out])
    have hone:=fq x
    have hll:p.fresh.ks.length<=4096:=by have:=HLN.out;have:=HBL.out;omega
    go_wp2_with (first
     |((refine bU rfl ?_);intro K hK;(refine fZ 209 rfl _ iW ?_);refine hK _ _ ?_)
     |((refine bU rfl ?_);intro K hK;(refine wp_store_row 209 _ _ rfl wr.heap.size 0 209 _ (aB x) rfl rfl hr1 (jy.trans (congrArg some hb5.out.symm)) (by rw[hz1.out,hb5.out];omega) hone ?_);intro w4 hr4 hk4;refine hK _ _ (Stop.of ?_)))
    refine Stop.on ?_
    rw[kC _ _ (hz1.out.trans hb5.out.symm)] at hr4
    have hb4:Below wr.heap.size wr w4:=(((Keep.refl (fun _=>False) wr).alloc _).trans (hk4.mono (M':=fun g=>g=wr.heap.size) (fun _ _ e=>e)) (fun i hi e=>by omega)).below
    have hP4:=HPr.out.keep (Keep.of_below hb4 d9) (fun _ _ e=>e)
    have hx4:aW w4 Sd2 1 (.slice (some ⟨wr.heap.size,0,none⟩) 512 512) x.length (aB x):=by
     have:=hr4.dL (S:=Sd2) (k:=1) (off:=0) 512 512 (by rw[hb5.out];omega) (fun hs=>absurd (HPr.out.log.dk.sub _ hs) (bY _)) (aA _) (by simp[maxLen])
     rw[fE,aI (by rw[hb5.out];omega)] at this
     rw[HX.out];exact this
    have hbd:=(aH w4.heap.size w4).drew
    have hτn:=HPr.out.log.dk.ok.hi
    have HP4:=af hP4
    have HW4:=af (Cs d τ Sd2 ((p.skip+b:Nat):Int) (.slice (some ⟨wr.heap.size,0,none⟩) 512 512) x w4.drew (hP4.log.dk.below hbd) (hx4.below hbd) (by have:=HWt.out;omega))
    have HT4:=af (HTr.out.trans (Step.of_below hb4))
    have HO4:=af (HOr.out.below hb4)
    have hsk:p.skip+b<=1000000:=by have:=HBL.out;have:=HPr.out.ok.fit;have:=HPr.out.ok.skip;omega
    have a1:IntKind.i64.wrap ((p.skip:Int)+(b:Int))=((p.skip+b:Nat):Int):=by rw[aS _ (by omega)];omega
    obtain⟨z,HZ⟩:∃z:Nat,Hid (p.skip+b=z):=⟨_,af rfl⟩
    rw[HZ.out] at HW4 a1
    obtain⟨f0,_,f2,_,_,_,_,hlt4,_⟩:=hP4.cells
    clear hP4 hx4 hr4 hk4 hr1 hone hz hrun e0 e2 e4 hfz
    go_wp2_with fail
    refine aK (fun W=>W.cell? ⟨pg,0,none⟩=some (.pointer (some ⟨d,0,none⟩))/\W.cell? ⟨pg,2,none⟩=some (.int .i64 p.skip)/\pg<W.heap.size) (fun i=> !([11].contains i)) [0,1,2,3,4,5,6,7,8,9,10,11,12] rfl (by kernel_rfl) ⟨f0,f2,hlt4⟩ ?_
    repeat ((refine bq (v:= ?_) rfl rfl (fun _ _ _ h=>h) rfl (fun W hW=> ?_) ?_);rotate_left;(focus ((try dsimp only at hW);have r0:=hW.1;have r1:=hW.2.1;have r2:=hW.2.2;(go_simp;first|done|with_reducible rfl)));(try simp only[Act.put,aj,av,au]))
    refine bP rfl rfl rfl ?_;intro K hK;go_simp
    obtain⟨τ5,q,HQ5⟩:∃τ5 q,Hid (τ.write ((z:Nat):Int) x=(τ5,q)):=⟨_,_,af rfl⟩
    rw[HQ5.out] at HW4
    refine HW4.out.mono ?_;rintro e w5 ⟨rfl,Sd5,hD5,hs5⟩
    have HN5:=af (show τ5.n=τ.n by have:=τ.nQ ((z:Nat):Int) x;rw[HQ5.out] at this;exact this)
    have HWt5:=af (show τ5.waits.length<=k+1 by have:=τ.xB ((z:Nat):Int) x;rw[HQ5.out] at this;have h2:=HWt.out;have:τ5.waits.length<=τ.waits.length+1:=this;omega)
    have hA5:=HP4.out.log.disk hD5 ((Step.of_below hbd).trans hs5) HN5.out
    have hP5:=HP4.out.turn hA5.1 hA5.2 (HP4.out.ok.turn HN5.out rfl rfl)
    have HP5:=af hP5.1;have HT5:=af (HT4.out.trans (hP5.2:Step (Three Sd2 Sl1 Sp) (Three Sd5 Sl1 Sp) w4 w5))
    have HO5:=af (HO4.out.step (hP5.2:Step (Three Sd2 Sl1 Sp) (Three Sd5 Sl1 Sp) w4 w5))
    obtain⟨j0,_,j2,_,_,_,_,hlt5,_⟩:=hP5.1.cells
    clear hA5 hP5 hD5 hs5 hbd f0 f2 hlt4
    refine hK.out _ _ ⟨j0,j2,hlt5⟩ ?_
    repeat ((refine bq (v:= ?_) rfl rfl (fun _ _ _ h=>h) rfl (fun W hW=> ?_) ?_);rotate_left;(focus ((try dsimp only at hW);have r0:=hW.1;have r1:=hW.2.1;have r2:=hW.2.2;(go_simp;first|done|with_reducible rfl)));(try simp only[Act.put,aj,av,au]))
    refine bF ?_
    have hly:p.lay (p.fresh.ks.drop k) τ=if q=0 then p.lay (p.fresh.ks.drop (k+1)) τ5 else(τ5,10):=by
     rw[dA hlt,HB.out,p.vv,HZ.out,<-HXE.out,HQ5.out]
    by_cases hq:q=0
    ·subst hq
     rw[if_pos rfl] at hly
     have HLy5:=af (HLy.out.trans hly)
     clear hly
     go_wp2_with fail
     go_roundw
     case rel=>exact⟨k+1,Sd5,τ5,by omega,by go_num,HP5,HT5,HWt5,HLy5,HO5⟩
     case measure=>simp[intOf];omega
    ·rw[if_neg hq] at hly
     have hq':(q !=0)=true:=by simpa using hq
     have HM:=af (show p.home σ l=(τ5,l1,p.dies,10) by
      unfold Pg.home
      rw[HQ.out]
      dsimp only
      rw[HLy.out,hly]
      simp)
     have HFB:=af (kF pg d τ5 l1 p op S _ q w w5 HP5.out.pack HT5.out hq)
     clear hly
     go_wp2_with (first
      |(go_at_call 101;go_must (refine HFB.out.mono ?_;rintro e w10 ⟨rfl,S10,hP10,hs10⟩)))
     go_ret
     rw[HM.out]
     exact⟨rfl,S10,hP10,hs10⟩
   ·obtain rfl:k=p.fresh.ks.length:=by omega
    rw[iB] at HLy
    have HLZ:=af (show p.lay p.fresh.ks σ1=(τ,0) from HLy.out)
    have HF:=af (Ct d τ Sd2 wr HPr.out.log.dk (by have:=HWt.out;omega))
    obtain⟨ρ,q,HR⟩:∃ρ q,Hid (τ.sync=(ρ,q)):=⟨_,_,af rfl⟩
    rw[HR.out] at HF
    have HRN:=af (show ρ.n=τ.n by have:=τ.lu;rw[HR.out] at this;exact this)
    have HRW:=af (show ρ.waits.length<=τ.waits.length by have:=τ.yQ;rw[HR.out] at this;exact this)
    clear HO HOr
    go_wp2_with (first
     |(go_at_call 151;go_must (refine HF.out.mono ?_;rintro e w6 ⟨rfl,hD6,hs6⟩;refine Stop.of ?_)))
    refine Stop.on ?_
    have hA6:=HPr.out.log.disk hD6 hs6 HRN.out
    have hP6:=HPr.out.turn hA6.1 hA6.2 (HPr.out.ok.turn HRN.out rfl rfl)
    have HP6:=af hP6.1;have HT6:=af (HTr.out.trans (hP6.2:Step (Three Sd2 Sl1 Sp) (Three Sd2 Sl1 Sp) wr w6))
    clear hA6 hP6 hD6 hs6 e0 e1 e2 e4 hfz hltw
    by_cases hq:q=0
    ·subst hq
     obtain⟨f0,f1,_,_,_,_,_,hlt6,_⟩:=HP6.out.cells
     have HLa:=af (KN lg d l1 Sl1 w6.drew (HP6.out.log.lg.keep (Keep.of_below ((aH _ w6).drew) d9) (fun _ _ e=>e)))
     have hTm:=RS lg d ρ l1 Sd2 Sl1 w6.drew (HP6.out.log.below ((aH _ w6).drew)) (by rw[HL1.out];exact HLD.out) (by rw[HL1.out];rfl) (by have:=HRW.out;have:=HWt.out;omega)
     obtain⟨u,HU⟩:∃u,Hid (l1.last=u):=⟨_,af rfl⟩
     rw[HU.out] at HLa hTm
     obtain⟨φ,m,r,HX⟩:∃φ m r,Hid (l1.trim ρ u=(φ,m,r)):=⟨_,_,_,af rfl⟩
     have HXN:=af (show φ.n=ρ.n by have:=Lg.KX ρ l1 u;rw[HX.out] at this;exact this)
     have HXS:=af (show m.frm=l1.frm/\m.n=l1.n by have:=Lg.Jf ρ l1 u;rw[HX.out] at this;exact this)
     rw[HX.out] at hTm
     have HTm:=af hTm;clear hTm
     go_wp2_with fail
     refine aK (fun W=>W.cell? ⟨pg,1,none⟩=some (.pointer (some ⟨lg,0,none⟩))/\pg<W.heap.size) (fun i=> !([8,9].contains i)) [0,1,2,3,4,5,6,7,8,9,10] rfl (by kernel_rfl) ⟨f1,hlt6⟩ ?_
     repeat ((refine bq (v:= ?_) rfl rfl (fun _ _ _ h=>h) rfl (fun W hW=> ?_) ?_);rotate_left;(focus ((try dsimp only at hW);have r1:=hW.1;have r2:=hW.2;(go_simp;first|done|with_reducible rfl)));(try simp only[Act.put,aj,av,au]))
     refine bP rfl rfl rfl ?_;intro K hK;go_simp
     refine HLa.out.mono ?_;rintro e w8 ⟨rfl,hw8⟩;subst w8
     refine hK.out _ _ ⟨f1,hlt6⟩ ?_
     refine bP rfl rfl rfl ?_;intro K hK;go_simp
     refine HTm.out.mono ?_;rintro e w9 ⟨rfl,Sd9,Sl9,hA9,hT9⟩
     have hP9:=HP6.out.turn hA9 ((Two.of_below ((aH _ w6).drew)).trans hT9) (HP6.out.ok.turn HXN.out HXS.out.1 HXS.out.2)
     have HP9:=af hP9.1;have HT9:=af (HT6.out.trans (hP9.2:Step (Three Sd2 Sl1 Sp) (Three Sd9 Sl9 Sp) w6 w9))
     obtain⟨j0,j1,j2,j3,j4,j5,j6,hlt9,hfz9⟩:=hP9.1.cells
     have hf4:=hfz9 4
     clear hP9 hA9 hT9 f0 f1 hlt6
     refine hK.out _ _ ⟨j1,hlt9⟩ ?_
     repeat ((refine bq (v:= ?_) rfl rfl (fun _ _ _ h=>h) rfl (fun W hW=> ?_) ?_);rotate_left;(focus ((try dsimp only at hW);have r1:=hW.1;have r2:=hW.2;(go_simp;first|done|with_reducible rfl)));(try simp only[Act.put,aj,av,au]))
     refine bF ?_
     by_cases hr:r=0
     ·subst hr
      have HM:=af (show p.home σ l=(φ,m,{p with fresh:=Im.none},0) by
       unfold Pg.home
       rw[HQ.out]
       dsimp only
       rw[HLZ.out]
       dsimp only
       rw[HR.out]
       dsimp only
       rw[HU.out,HX.out]
       simp)
      have hmk:∀w:World,(Instr.makeMap 197 none).run Tryz.prog w= .ok (.map (some w.heap.size)) (w.alloc (.map #[] 0)):=fun w=>run_makeMap _ w
      go_wp2_with fail
      go_ret
      rw[HM.out]
      obtain⟨Sp',hPn,hTn⟩:=HP9.out.anew
      exact⟨rfl,_,hPn.pack,HT9.out.trans hTn⟩
     ·have hr':(r !=0)=true:=by simpa using hr
      have HM:=af (show p.home σ l=(φ,m,p.dies,10) by
       unfold Pg.home
       rw[HQ.out]
       dsimp only
       rw[HLZ.out]
       dsimp only
       rw[HR.out]
       dsimp only
       rw[HU.out,HX.out]
       simp[hr])
      have HFB:=af (kF pg d φ m p op S _ r w w9 HP9.out.pack HT9.out hr)
      go_wp2_with (first
       |(go_at_call 101;go_must (refine HFB.out.mono ?_;rintro e w10 ⟨rfl,S10,hP10,hs10⟩)))
      go_ret
      rw[HM.out]
      exact⟨rfl,S10,hP10,hs10⟩
    ·have hq':(q !=0)=true:=by simpa using hq
     have HM:=af (show p.home σ l=(ρ,l1,p.dies,10) by
      unfold Pg.home
      rw[HQ.out]
      dsimp only
      rw[HLZ.out]
      dsimp only
      rw[HR.out]
      simp[hq])
     have HFB:=af (kF pg d ρ l1 p op S _ q w w6 HP6.out.pack HT6.out hq)
     go_wp2_with (first
      |(go_at_call 101;go_must (refine HFB.out.mono ?_;rintro e w10 ⟨rfl,S10,hP10,hs10⟩)))
     go_ret
     rw[HM.out]
     exact⟨rfl,S10,hP10,hs10⟩
 ·have hq':(q !=0)=true:=by simpa using hq
  have HE:=af (show p.home σ l=(σ1,l1,p.dies,10) by unfold Pg.home;rw[HQ.out];simp[hq])
  have HFB:=af (kF pg d σ1 l1 p op S _ q w w1 HP1.out.pack HT1.out hq)
  go_wp2_with (first
   |(go_at_call 101;go_must (refine HFB.out.mono ?_;rintro e w2 ⟨rfl,S2,hP2,hs2⟩)))
  go_ret
  rw[HE.out]
  exact⟨rfl,S2,hP2,hs2⟩
theorem Pz (pg d:Nat)(σ:Dk)(l:Lg)(p:Pg)(op:Value)(S:Nat->Prop)(w:World)(h:iF w S pg d σ l p op)(hcap:σ.waits.length<=90000):
  Calls Tryz.prog 54 #[.pointer (some ⟨pg,0,none⟩)] w fun e w'=>e= .returned (.int .i64 (p.sync σ l).2.2.2)/\∃S',iF w' S' pg d (p.sync σ l).1 (p.sync σ l).2.1 (p.sync σ l).2.2.1 op/\Step S S' w w':=by
 have HPk:=af h
 obtain⟨Sd,Sl,Sp,lg,fb,h,hS⟩:=h
 obtain⟨c0,c1,c2,_,c4,_,c6,hlt,_⟩:=h.cells
 have HH:=af h
 clear h c2 c4
 cases hd:p.dead with
 |true=>
  rw[hd] at c6
  have HM:=af (show p.sync σ l=(σ,l,p,10) by unfold Pg.sync;simp[hd])
  go_enter Tryz.func54,Tryz.ntmps54
  go_wp2_with fail
  go_ret
  rw[HM.out]
  exact⟨rfl,S,HPk.out,Step.refl _ _⟩
 |false=>
  rw[hd] at c6
  have hbd:=(aH w.heap.size w).drew
  have hsy:=Ny lg d l Sl w.drew (HH.out.log.lg.keep (Keep.of_below hbd d9) (fun _ _ e=>e))
  have HL:=af (KN lg d l Sl w.drew (HH.out.log.lg.keep (Keep.of_below hbd d9) (fun _ _ e=>e)))
  have HDd:=af (Te d σ Sd w.drew (HH.out.log.dk.below hbd))
  have HP0:=af (HH.out.keep (Keep.of_below hbd d9) (fun _ _ e=>e))
  have HT0:=af (show Step S (Three Sd Sl Sp) w w.drew from(Step.of_below hbd).eqv (fun _=>Iff.rfl) (fun g=>(hS g).symm))
  have HY:=af (Pn lg d σ l Sd Sl w.drew (HH.out.log.below hbd) (by omega))
  obtain⟨σ1,l1,q,HQ⟩:∃σ1 l1 q,Hid (l.sync σ=(σ1,l1,q)):=⟨_,_,_,af rfl⟩
  rw[HQ.out] at HY
  have HN1:=af (show σ1.n=σ.n by have:=Lg.lu σ l;rw[HQ.out] at this;exact this)
  have HS1:=af (show l1.frm=l.frm/\l1.n=l.n/\l1.last=l.last by have:=Lg.Ay σ l;rw[HQ.out] at this;exact this)
  by_cases he:l.synced=l.last
  ·rw[he] at hsy
   have HSy:=af hsy;clear hsy
   have heq:((l.last:Int)==(l.last:Int))=true:=by simp
   go_enter Tryz.func54,Tryz.ntmps54
   go_wp2_with fail
   refine aK (fun W=>W=w.drew) (fun i=> !([4,9,16].contains i)) [0,1,2,3,5,6,7,8,4,9,10,11,12,13,14,15,16,17,18,19] rfl (by kernel_rfl) rfl ?_
   repeat ((refine bq (v:= ?_) rfl rfl (fun _ _ _ h=>h) rfl (fun W hW=> ?_) ?_);rotate_left;(focus ((try dsimp only at hW);subst hW;(go_simp;first|done|with_reducible rfl)));(try simp only[Act.put,aj,av,au]))
   refine bP rfl rfl rfl ?_;intro K hK;go_simp
   refine HSy.out.mono ?_;rintro e w1 ⟨rfl,hw1⟩;subst w1
   refine hK.out _ _ rfl ?_
   refine bP rfl rfl rfl ?_;intro K hK;go_simp
   refine HL.out.mono ?_;rintro e w1 ⟨rfl,hw1⟩;subst w1
   refine hK.out _ _ rfl ?_
   repeat ((refine bq (v:= ?_) rfl rfl (fun _ _ _ h=>h) rfl (fun W hW=> ?_) ?_);rotate_left;(focus ((try dsimp only at hW);subst hW;(go_simp;first|done|with_reducible rfl)));(try simp only[Act.put,aj,av,au]))
   refine bP rfl rfl rfl ?_;intro K hK;go_simp
   refine HDd.out.mono ?_;rintro e w1 ⟨rfl,hw1⟩;subst w1
   refine hK.out _ _ rfl ?_
   repeat ((refine bq (v:= ?_) rfl rfl (fun _ _ _ h=>h) rfl (fun W hW=> ?_) ?_);rotate_left;(focus ((try dsimp only at hW);subst hW;(go_simp;first|done|with_reducible rfl)));(try simp only[Act.put,aj,av,au]))
   refine bF ?_
   cases hsd:σ.dead with
   |false=>
    have HM:=af (show p.sync σ l=(σ,l,p,0) by unfold Pg.sync;simp[hd,he,hsd])
    go_wp2_with fail
    go_ret
    rw[HM.out]
    exact⟨rfl,_,HP0.out.pack,HT0.out⟩
   |true=>
    have HC:=af (show ¬(l.synced=l.last/\σ.dead=false) from fun h=>by rw[hsd] at h;cases h.2)
    go_wp2_with (first
     |(go_at_call 104;go_must (refine HY.out.mono ?_;rintro e w2 ⟨rfl,Sd1,Sl1,hA1,hT1⟩;refine Stop.of ?_)))
    refine Stop.on ?_
    have hP1:=HP0.out.turn hA1 hT1 (HP0.out.ok.turn HN1.out HS1.out.1 HS1.out.2.1)
    have HP1:=af hP1.1;have HT1:=af (HT0.out.trans (hP1.2:Step (Three Sd Sl Sp) (Three Sd1 Sl1 Sp) w.drew w2))
    clear hP1 hA1 hT1
    by_cases hq:q=0
    ·subst hq
     have HM:=af (show p.sync σ l=(σ1,l1,p,0) by unfold Pg.sync;rw[HQ.out];simp[hd,HC.out])
     go_wp2_with (first
      |(go_at_call 101;go_must (refine(DR pg _).mono ?_;rintro e w3 ⟨rfl,hw3⟩;subst w3)))
     go_ret
     rw[HM.out]
     exact⟨rfl,_,HP1.out.pack,HT1.out⟩
    ·have HM:=af (show p.sync σ l=(σ1,l1,p.dies,10) by unfold Pg.sync;rw[HQ.out];simp[hd,HC.out,hq])
     have HFB:=af (kF pg d σ1 l1 p op S _ q w w2 HP1.out.pack HT1.out hq)
     go_wp2_with (first
      |(go_at_call 101;go_must (refine HFB.out.mono ?_;rintro e w3 ⟨rfl,S3,hP3,hs3⟩)))
     go_ret
     rw[HM.out]
     exact⟨rfl,S3,hP3,hs3⟩
  ·have HSy:=af hsy;clear hsy
   have heI:¬((l.synced:Int)=(l.last:Int)):=by omega
   have heq:((l.synced:Int)==(l.last:Int))=false:=by simpa using heI
   have HC:=af (show ¬(l.synced=l.last/\σ.dead=false) from fun h=>he h.1)
   go_enter Tryz.func54,Tryz.ntmps54
   go_wp2_with fail
   refine aK (fun W=>W=w.drew) (fun i=> !([4,9].contains i)) [0,1,2,3,5,6,7,8,4,9,10,11,12,13,14,15,16,17,18,19] rfl (by kernel_rfl) rfl ?_
   repeat ((refine bq (v:= ?_) rfl rfl (fun _ _ _ h=>h) rfl (fun W hW=> ?_) ?_);rotate_left;(focus ((try dsimp only at hW);subst hW;(go_simp;first|done|with_reducible rfl)));(try simp only[Act.put,aj,av,au]))
   refine bP rfl rfl rfl ?_;intro K hK;go_simp
   refine HSy.out.mono ?_;rintro e w1 ⟨rfl,hw1⟩;subst w1
   refine hK.out _ _ rfl ?_
   refine bP rfl rfl rfl ?_;intro K hK;go_simp
   refine HL.out.mono ?_;rintro e w1 ⟨rfl,hw1⟩;subst w1
   refine hK.out _ _ rfl ?_
   repeat ((refine bq (v:= ?_) rfl rfl (fun _ _ _ h=>h) rfl (fun W hW=> ?_) ?_);rotate_left;(focus ((try dsimp only at hW);subst hW;(go_simp;first|done|with_reducible rfl)));(try simp only[Act.put,aj,av,au]))
   repeat (refine LB rfl rfl (fun _ _ _ h=>h) rfl ?_)
   repeat ((refine bq (v:= ?_) rfl rfl (fun _ _ _ h=>h) rfl (fun W hW=> ?_) ?_);rotate_left;(focus ((try dsimp only at hW);subst hW;(go_simp;first|done|with_reducible rfl)));(try simp only[Act.put,aj,av,au]))
   refine bF ?_
   go_wp2_with (first
    |(go_at_call 104;go_must (refine HY.out.mono ?_;rintro e w2 ⟨rfl,Sd1,Sl1,hA1,hT1⟩;refine Stop.of ?_)))
   refine Stop.on ?_
   have hP1:=HP0.out.turn hA1 hT1 (HP0.out.ok.turn HN1.out HS1.out.1 HS1.out.2.1)
   have HP1:=af hP1.1;have HT1:=af (HT0.out.trans (hP1.2:Step (Three Sd Sl Sp) (Three Sd1 Sl1 Sp) w.drew w2))
   clear hP1 hA1 hT1
   by_cases hq:q=0
   ·subst hq
    have HM:=af (show p.sync σ l=(σ1,l1,p,0) by unfold Pg.sync;rw[HQ.out];simp[hd,HC.out])
    go_wp2_with (first
     |(go_at_call 101;go_must (refine(DR pg _).mono ?_;rintro e w3 ⟨rfl,hw3⟩;subst w3)))
    go_ret
    rw[HM.out]
    exact⟨rfl,_,HP1.out.pack,HT1.out⟩
   ·have HM:=af (show p.sync σ l=(σ1,l1,p.dies,10) by unfold Pg.sync;rw[HQ.out];simp[hd,HC.out,hq])
    have HFB:=af (kF pg d σ1 l1 p op S _ q w w2 HP1.out.pack HT1.out hq)
    go_wp2_with (first
     |(go_at_call 101;go_must (refine HFB.out.mono ?_;rintro e w3 ⟨rfl,S3,hP3,hs3⟩)))
    go_ret
    rw[HM.out]
    exact⟨rfl,S3,hP3,hs3⟩
def strOf (l:List UInt8):ByteArray:=⟨l.toArray⟩
theorem BQ (a b:List UInt8):strOf a++strOf b=strOf (a++b):=by
 have h:(strOf a++strOf b).data=(strOf (a++b)).data:=by
  rw[ByteArray.data_append]
  simp[strOf]
 exact Nq h
theorem aW.strOf {w:World}{S:Nat->Prop}{v:Value}{l:List UInt8}(h:aW w S 1 v l.length (aB l)):(convert 154 9 v).run Tryz.prog w= .ok (.string (strOf l)) w:=
 gT.str (S:=S) (Go.Proofs.YtpmbddooibgnaaaGreatDoor.strOf l) h 154 9 5 aO dx bf
theorem o6 (x:Nat):IntKind.u8.wrap (x:Int)=(x:Int)%256:=by simp[IntKind.wrap,IntKind.bits,IntKind.signed]
theorem JR (b:Nat):[Value.int .u8 (IntKind.u8.wrap (b:Int)),.int .u8 (IntKind.u8.wrap ((b:Int)/256)),.int .u8 (IntKind.u8.wrap ((b:Int)/65536)),.int .u8 (IntKind.u8.wrap ((b:Int)/16777216))]=aB (leB b 4):=by
 have e1:(b:Int)/256=((b/256:Nat):Int):=by omega
 have e2:(b:Int)/65536=((b/256/256:Nat):Int):=by omega
 have e3:(b:Int)/16777216=((b/256/256/256:Nat):Int):=by omega
 rw[e1,e2,e3,o6,o6,o6,o6]
 simp[leB,aB,xw]
theorem Oa (b:Nat)(x:List UInt8)(w:World)(_hb:b<=1000000)(hx:x.length=512):
  Calls Tryz.prog 96 #[.int .i64 b,.agg (aB x).toArray] w fun e w'=>e= .returned (.string (strOf (DI b x)))/\Below w.heap.size w w':=by
 have hb5:=af (show (aB x).length=512 by rw[aY,hx])
 go_enter Tryz.func96,Tryz.ntmps96
 go_wp2_with (first
  |((refine bU rfl ?_);intro K hK;(refine yK 209 _ rfl (aB x) rfl ?_);refine hK _ _ (Stop.of ?_)))
 refine Stop.on ?_
 obtain⟨w2,HW2⟩:∃w2:World,Hid (w.alloc (.cells (aB x).toArray 209)=w2):=⟨_,af rfl⟩
 have hr2:Row w2 w.heap.size 209 (aB x):=by rw[<-HW2.out];exact Row.new w _ _
 have hb2:Below w.heap.size w w2:=by rw[<-HW2.out];exact((Keep.refl (fun _=>False) w).alloc _).below
 rw[HW2.out]
 have hsl:aW w2 d9 1 (.slice (some ⟨w.heap.size,0,none⟩) 512 512) x.length (aB x):=by
  have:=hr2.dL (S:=d9) (k:=1) (off:=0) 512 512 (by rw[hb5.out];omega) id (aA _) (by simp[maxLen])
  rw[fE,aI (by rw[hb5.out];omega)] at this
  rw[hx];exact this
 have HC:=af (fun (W:World) (hW:Below w2.heap.size w2 W)=>(hsl.below hW).strOf)
 go_wp2_with fail
 refine aK (fun W=>Below w2.heap.size w2 W) (fun i=> !([11,12].contains i)) [0,1,2,3,4,5,6,7,8,9,10,13,14,11,12,15,16] rfl (by kernel_rfl) ((aH _ w2).drew) ?_
 repeat ((refine bq (v:= ?_) rfl rfl (fun _ _ _ h=>h) rfl (fun W hW=> ?_) ?_);rotate_left;(focus ((try dsimp only at hW);have cv:=HC.out W hW;(go_simp;first|done|with_reducible rfl)));(try simp only[Act.put,aj,av,au]))
 refine bP rfl rfl rfl ?_;intro K hK;go_simp
 obtain⟨w3,HW3⟩:∃w3:World,Hid ((w2.alloc (.cells #[.int .u8 (IntKind.u8.wrap (b:Int)),.int .u8 (IntKind.u8.wrap ((b:Int)/256)),.int .u8 (IntKind.u8.wrap ((b:Int)/65536)),.int .u8 (IntKind.u8.wrap ((b:Int)/16777216))] 5)).drew=w3):=⟨_,af rfl⟩
 have hr3:Row w3 w2.heap.size 5 (aB (leB b 4)):=by rw[<-HW3.out,<-JR];exact Row.new w2 _ _
 have hb3:Below w2.heap.size w2 w3:=by rw[<-HW3.out];exact((Keep.refl (fun _=>False) w2).alloc _).below.drew
 rw[HW3.out]
 refine hK.out _ _ hb3 ?_
 have hl4:=dK b 4
 have hsl4:aW w3 d9 1 (.slice (some ⟨w2.heap.size,0,none⟩) 4 4) (leB b 4).length (aB (leB b 4)):=by
  have:=hr3.dL (S:=d9) (k:=1) (off:=0) 4 4 (by rw[aY,hl4];omega) id (aA _) (by simp[maxLen])
  rw[fE,aI (by rw[aY,hl4];omega)] at this
  rw[hl4];exact this
 have hcv3:=hsl4.strOf
 refine bP rfl rfl rfl ?_;intro K hK;go_simp
 refine hK.out _ _ hb3 ?_
 have hadd:∀W:World,(Op.stringOp .add (strOf (leB b 4)) (strOf x)).run Tryz.prog W= .ok (.string (strOf (leB b 4)++strOf x)) W:=fun W=>gB W _ _ (by show ((leB b 4).toArray.size:Int)<=_;simp[dK]) (by show (x.toArray.size:Int)<=_;simp[hx])
 repeat ((refine bq (v:= ?_) rfl rfl (fun _ _ _ h=>h) rfl (fun W hW=> ?_) ?_);rotate_left;(focus ((try dsimp only at hW);have cv:=HC.out W hW;(go_simp;first|done|with_reducible rfl)));(try simp only[Act.put,aj,av,au]))
 refine bF ?_
 go_wp2_with fail
 go_ret
 exact⟨by rw[BQ];rfl,hb2.trans (hb3.mono hb2.size)⟩
theorem Im.vI (f:Nat->List UInt8)(b:Nat):∀(ks:List Nat) (m:Im),(ks.foldl (fun m b=>m.put b (f b)) m).img b=if b∈ks then f b else m.img b
 |[],m=>by simp
 |k::r,m=>by
  rw[List.foldl_cons,Im.vI f b r]
  by_cases h:b∈r
  ·simp[h]
  ·by_cases e:b=k
   ·subst e;simp[h,Im.put]
   ·simp[h,e,Im.put]
theorem Im.vH (f:Nat->List UInt8)(b:Nat):∀(ks:List Nat) (m:Im),b∈(ks.foldl (fun m b=>m.put b (f b)) m).ks↔b∈m.ks\/b∈ks
 |[],m=>by simp
 |k::r,m=>by
  rw[List.foldl_cons,Im.vH f b r]
  simp only[Im.put,jO,aX]
  constructor
  ·rintro((h|h)|h)
   ·exact .inr (.inl h)
   ·exact .inl h
   ·exact .inr (.inr h)
  ·rintro(h|h|h)
   ·exact .inl (.inr h)
   ·exact .inl (.inl h)
   ·exact .inr h
theorem Im.wX (f:Nat->List UInt8):∀(ks:List Nat) (m:Im),m.ks.Pairwise (· < ·)->(ks.foldl (fun m b=>m.put b (f b)) m).ks.Pairwise (· < ·)
 |[],_,h=>h
 |_::r,_,h=>Im.wX f r _ (sS h)
theorem Im.ext' {a b:Im}(h1:a.ks=b.ks)(h2:∀k,a.img k=b.img k):a=b:=by
 cases a;cases b
 simp only[Im.mk.injEq]
 exact⟨h1,funext h2⟩
theorem Ca {a b:List Nat}(ha:a.Pairwise (· < ·))(hb:b.Pairwise (· < ·))(h:∀x,x∈a↔x∈b):a=b:=by
 have:=y5 (a:=a.map fun k:Nat=>(k:Int)) (b:=b.map fun k:Nat=>(k:Int)) (zY.2 (ha.imp (fun h=>by omega))) (zY.2 (hb.imp (fun h=>by omega))) (fun x=>by simp[gV,h])
 exact(List.map_inj_right (fun _ _ h=>by omega)).1 this
structure Mix (m im:Im)(left:Lit->Bool)(F:Im):Prop where
 rise:F.ks.Pairwise (· < ·)
 ks:∀b:Nat,b∈F.ks↔b∈m.ks\/(b∈im.ks/\left (kI b)=false)
 img:∀b:Nat,F.img b=if b∈im.ks/\left (kI b)=false then im.img b else m.img b
theorem Iy (a b:Nat):(kI (a:Int)).sameKey (kI (b:Int))=decide (a=b):=by
 by_cases e:a=b
 ·subst e;simp[WideAt.sameKey_self (wT _)]
 ·rw[bH e]
  cases h:(kI (a:Int)).sameKey (kI (b:Int)) with
  |false=>rfl
  |true=>exact absurd (WideAt.sameKey_eq h) (Mg e)
theorem Mix.start {m im:Im}{left:Lit->Bool}(hm:m.ks.Pairwise (· < ·))(h:∀b∈im.ks,left (kI b)=true):Mix m im left m:=by
 have hf:∀b:Nat,¬(b∈im.ks/\left (kI b)=false):=fun b hb=>by rw[h b hb.1] at hb;cases hb.2
 exact⟨hm,fun b=>⟨.inl,fun e=>e.elim id (fun e=>absurd e (hf b))⟩,fun b=>by rw[if_neg (hf b)]⟩
theorem Mix.put {m im F:Im}{left:Lit->Bool}(h:Mix m im left F)(x:Nat)(hx:x∈im.ks):Mix m im (fun z=>left z && !z.sameKey (kI x)) (F.put x (im.img x)):=by
 refine⟨sS h.rise,fun b=> ?_,fun b=> ?_⟩
 ·simp only[Im.put,jO,h.ks,Iy]
  by_cases e:b=x
  ·subst e;simp[hx]
  ·simp[e]
 ·simp only[Im.put,Iy]
  by_cases e:b=x
  ·subst e;simp[hx]
  ·simp[e,h.img]
theorem Mix.done {m im F:Im}{left:Lit->Bool}(h:Mix m im left F)(hm:m.ks.Pairwise (· < ·))(hl:∀kl,left kl=false):F=m.over im:=by
 refine Im.ext' (Ca h.rise (Im.wX _ _ _ hm) fun b=> ?_) fun b=> ?_
 ·rw[h.ks]
  unfold Im.over
  rw[Im.vH]
  simp[hl]
 ·rw[h.img]
  unfold Im.over
  rw[Im.vI]
  simp[hl]
theorem K6 (t pg d:Nat)(σ:Dk)(l:Lg)(p:Pg)(op:Value)(im:Im)(n:Nat)(S T:Nat->Prop)(u:FrameMode)(w:World)(h:iF w S pg d σ l p op)(ht:pJ w T t pg im n)(hdis:∀g,S g->¬T g):
  CallsD Tryz.prog 93 #[.pointer (some ⟨t,0,none⟩)] u w fun e u' w'=>u'=u/\e= .returned (.tuple #[])/\iF w' S pg d σ l p (.pointer none)/\(∃db,w'.heap[t]? =some (.cells #[.pointer none,.map (some db)] 201 (0,0)))/\Keep (fun g=>S g\/T g) w w':=by
 have hspg:=h.Ac
 obtain⟨Sd,Sl,Sp,lg,fb,h,hS⟩:=h
 obtain⟨db,ht⟩:=ht
 obtain⟨_,_,_,_,_,c5,c6,hlt,hfz⟩:=h.cells
 have hf:=hfz 5
 have hto:=ht.obj
 have t0:w.cell? ⟨t,0,none⟩=some (.pointer (some ⟨pg,0,none⟩)):=by simp[World.cell?,hto]
 have tf0:w.frozen? ⟨t,0,none⟩=false:=by simp[World.frozen?,hto]
 have htl:=ht.sub _ ht.st
 have hpt:pg≠t:=fun e=>hdis pg hspg (e▸ht.st)
 have htp:¬t=pg:=fun e=>hpt e.symm
 have HH:=af h;have HT:=af ht
 clear h ht
 go_enter_d Tryz.func93,Tryz.ntmps93
 go_wp2_with fail
 go_end0
 obtain⟨w2,HW2⟩:∃w2:World,Hid ((w.setCell ⟨pg,5,none⟩ (.pointer none)).setCell ⟨t,0,none⟩ (.pointer none)=w2):=⟨_,af rfl⟩
 obtain⟨w1,HW1⟩:∃w1:World,Hid (w.setCell ⟨pg,5,none⟩ (.pointer none)=w1):=⟨_,af rfl⟩
 have hk1:Keep (· =pg) w w1:=by rw[<-HW1.out];exact(Keep.refl (· =pg) _).setCell (p:=⟨pg,5,none⟩) (.inr rfl) _
 have hP1:yj w1 Sd Sl Sp pg lg d fb σ l p (.pointer none):=HH.out.self hk1 HH.out.ok rfl (by rw[<-HW1.out,gL _ pg 5 _ _ _ HH.out.obj];rfl)
 rw[HW1.out] at HW2
 have hk2:Keep (· =t) w1 w2:=by rw[<-HW2.out];exact(Keep.refl (· =t) _).setCell (p:=⟨t,0,none⟩) (.inr rfl) _
 have hto1:=(hk1.block t htl htp).trans hto
 have hP2:=hP1.keep hk2 (fun g hg e=>hdis g ((hS g).2 hg) (e▸HT.out.st))
 rw[HW1.out,HW2.out]
 refine⟨rfl,⟨Sd,Sl,Sp,lg,fb,hP2,hS⟩,⟨db,?_⟩,(hk1.mono (fun _ _ e=> .inl (e▸hspg))).trans hk2 (fun _ _ e=> .inr (e▸HT.out.st))⟩
 rw[<-HW2.out,gL _ t 0 _ _ _ hto1]
 rfl
end Go.Proofs.YtpmbddooibgnaaaGreatDoor
