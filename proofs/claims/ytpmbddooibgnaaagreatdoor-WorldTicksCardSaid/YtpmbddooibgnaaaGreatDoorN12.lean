/- parts -/
import Derived.Test.YtpmbddooibgnaaaGreatDoorN3
import Derived.Test.YtpmbddooibgnaaaGreatDoorN4
import Derived.Test.YtpmbddooibgnaaaGreatDoorN8
import Derived.Test.YtpmbddooibgnaaaGreatDoorN11
import Derived.Maps.OwnSet
import Derived.Shelf.Sort.Plain
import Derived.Shelf.Slices.In.SortNone
import Derived.Shelf.SlIterI.Sorted
import Derived.Shelf.SlIterI.Keys
import Derived.Maps.RangeWalk
import Derived.Defers
set_option maxRecDepth 100000
set_option maxHeartbeats 8000000
set_option linter.all false
namespace Go.Proofs.YtpmbddooibgnaaaGreatDoor
open Go.RowKit
structure Im where
 ks:List Nat
 img:Nat->List UInt8
def zF (b:Nat):List Nat->List Nat
 |[]=>[b]
 |k::r=>if b<k then b::k::r else if b=k then k::r else k::zF b r
theorem lF {b x:Nat}:∀{l:List Nat},x∈zF b l↔x=b\/x∈l
 |[]=>by simp[zF]
 |k::r=>by
  unfold zF
  split
  ·simp
  ·split
   ·rename_i h;subst h;simp
   ·rw[aW,lF (l:=r),aW]
    constructor
    ·rintro(h|h|h)
     ·exact .inr (.inl h)
     ·exact .inl h
     ·exact .inr (.inr h)
    ·rintro(h|h|h)
     ·exact .inr (.inl h)
     ·exact .inl h
     ·exact .inr (.inr h)
theorem vX {b:Nat}:∀{l:List Nat},l.Pairwise (· < ·)->(zF b l).Pairwise (· < ·)
 |[],_=>by simp[zF]
 |k::r,h=>by
  obtain⟨d,e⟩:=fD.1 h
  unfold zF
  split
  ·rename_i c
   refine fD.2 ⟨fun x a=> ?_,h⟩
   rcases aW.1 a with rfl|a
   ·exact c
   ·exact Nat.lt_trans c (d x a)
  ·split
   ·exact h
   ·refine fD.2 ⟨fun x a=> ?_,vX e⟩
    rcases lF.1 a with rfl|a
    ·omega
    ·exact d x a
def Im.none:Im:=⟨[],fun _=>[]⟩
def Im.put (m:Im)(b:Nat)(x:List UInt8):Im:=⟨zF b m.ks,fun k=>if k=b then x else m.img k⟩
def Im.find (m:Im)(b:Nat):Option (List UInt8):=if b∈m.ks then some (m.img b) else Option.none
theorem Im.Cb (m:Im)(b c:Nat)(x:List UInt8):(m.put b x).find c=if c=b then some x else m.find c:=by
 unfold Im.find Im.put
 simp only[lF]
 by_cases h:c=b
 ·subst h;simp
 ·simp[h]
structure Pg where
 skip:Nat
 ring:Nat
 fresh:Im
 dead:Bool
def Pg.blocks (p:Pg)(d:Dk):Nat:=d.n - p.skip
def Pg.look (p:Pg)(dirty:Im)(d:Dk)(b:Nat):List UInt8:=(dirty.find b).getD ((p.fresh.find b).getD (d.get (p.skip+b)))
def Pg.lay (p:Pg):List Nat->Dk->Dk×Int
 |[],d=>(d,0)
 |b::r,d=>
  if (d.write ((p.skip+b:Nat):Int) (p.fresh.img b)).2=0 then p.lay r (d.write ((p.skip+b:Nat):Int) (p.fresh.img b)).1
  else((d.write ((p.skip+b:Nat):Int) (p.fresh.img b)).1,10)
def Pg.dies (p:Pg):Pg:={p with dead:=true}
def Pg.home (d:Dk)(l:Lg)(p:Pg):Dk×Lg×Pg×Int:=
 if (l.sync d).2.2=0 then
  if (p.lay p.fresh.ks (l.sync d).1).2=0 then
   if (p.lay p.fresh.ks (l.sync d).1).1.sync.2=0 then
    if ((l.sync d).2.1.trim (p.lay p.fresh.ks (l.sync d).1).1.sync.1 (l.sync d).2.1.last).2.2=0 then
     (((l.sync d).2.1.trim (p.lay p.fresh.ks (l.sync d).1).1.sync.1 (l.sync d).2.1.last).1,((l.sync d).2.1.trim (p.lay p.fresh.ks (l.sync d).1).1.sync.1 (l.sync d).2.1.last).2.1,{p with fresh:=Im.none},0)
    else(((l.sync d).2.1.trim (p.lay p.fresh.ks (l.sync d).1).1.sync.1 (l.sync d).2.1.last).1,((l.sync d).2.1.trim (p.lay p.fresh.ks (l.sync d).1).1.sync.1 (l.sync d).2.1.last).2.1,p.dies,10)
   else((p.lay p.fresh.ks (l.sync d).1).1.sync.1,(l.sync d).2.1,p.dies,10)
  else((p.lay p.fresh.ks (l.sync d).1).1,(l.sync d).2.1,p.dies,10)
 else((l.sync d).1,(l.sync d).2.1,p.dies,10)
def uy (b:Nat)(x:List UInt8):List UInt8:=leB b 4++x
def Im.bg (m:Im):List (List UInt8):=m.ks.map fun b=>uy b (m.img b)
def Im.over (m dirty:Im):Im:=dirty.ks.foldl (fun m b=>m.put b (dirty.img b)) m
def Pg.ready (d:Dk)(l:Lg)(p:Pg)(need:Nat):Dk×Lg×Pg×Int:=if l.room<need then p.home d l else(d,l,p,0)
def Pg.commit (d:Dk)(l:Lg)(p:Pg)(dirty:Im):Dk×Lg×Pg×Nat×Int:=
 if p.dead then(d,l,p,0,10) else
 if dirty.ks=[] then(d,l,p,l.last,0) else
 if p.ring<bZ dirty.bg\/1024<dirty.ks.length then(d,l,p,0,13) else
 if (p.ready d l (bZ dirty.bg)).2.2.2=0 then
  if ((p.ready d l (bZ dirty.bg)).2.1.append (p.ready d l (bZ dirty.bg)).1 dirty.bg).2.2.2=0 then
   (((p.ready d l (bZ dirty.bg)).2.1.append (p.ready d l (bZ dirty.bg)).1 dirty.bg).1,((p.ready d l (bZ dirty.bg)).2.1.append (p.ready d l (bZ dirty.bg)).1 dirty.bg).2.1,
    {(p.ready d l (bZ dirty.bg)).2.2.1 with fresh:=(p.ready d l (bZ dirty.bg)).2.2.1.fresh.over dirty},((p.ready d l (bZ dirty.bg)).2.1.append (p.ready d l (bZ dirty.bg)).1 dirty.bg).2.2.1,0)
  else(((p.ready d l (bZ dirty.bg)).2.1.append (p.ready d l (bZ dirty.bg)).1 dirty.bg).1,((p.ready d l (bZ dirty.bg)).2.1.append (p.ready d l (bZ dirty.bg)).1 dirty.bg).2.1,(p.ready d l (bZ dirty.bg)).2.2.1.dies,0,10)
 else((p.ready d l (bZ dirty.bg)).1,(p.ready d l (bZ dirty.bg)).2.1,(p.ready d l (bZ dirty.bg)).2.2.1,0,(p.ready d l (bZ dirty.bg)).2.2.2)
def Pg.sync (d:Dk)(l:Lg)(p:Pg):Dk×Lg×Pg×Int:=
 if p.dead then(d,l,p,10) else
 if l.synced=l.last/\d.dead=false then(d,l,p,0) else
 if (l.sync d).2.2=0 then((l.sync d).1,(l.sync d).2.1,p,0) else((l.sync d).1,(l.sync d).2.1,p.dies,10)
abbrev kI (b:Int):Lit:= .int .i64 b
theorem tight {k:TypeId}{R:Value->Option (DataW Unit×List MemPlace)}{w:World}{b n m:Nat}{D:DataW Unit}(h:w.ownsMap Tryz.prog k R b n D)(c:Maps.size D<=m):w.ownsMap Tryz.prog k R b m D:=by
 obtain⟨e,a,d,F,f,rfl⟩:=h
 refine⟨e,a,d,F,?_,rfl⟩
 rw[Maps.size_eq,length_sorted] at c
 simpa using c
theorem iy:Maps.Keyed Tryz.prog 3:=Maps.int_keyed bV
theorem ni (b:Int)(a:(Lit.int .i64 b).wf=true):keyOf Tryz.prog 3 (.int .i64 b)=some (kI b):=by
 exact Maps.keyOf_int_mk bV a
theorem zD (b:Int):WideAt.IsKeyLit (kI b):=trivial
theorem sV (b:Int)(a: -1000000<=b)(c:b<=1000000):(Lit.int .i64 b).wf=true:=by
 simp only[Lit.wf,dA,dU]
 constructor
 ·exact Int.le_trans (by decide) a
 ·exact Int.le_trans c (by decide)
theorem mJ {P:Program}{w:World}{o:Oper}{a:Act}{K:Act->World->Prop}{Q:Exit->Act->World->Prop}(m x v:Operand)(t:TypeId)(q:o.op=Op.mapUpdate t m x v)
  (k e:TypeId) (A:Maps.Keyed P k) (B:P.underlying t=some (.map k e)) (R:Value->Option (DataW Unit×List MemPlace)) (b n:Nat) (D:DataW Unit)
  (C:a.eval m= .map (some b)) (j:w.ownsMap P k R b n D) (z:n<maxLen) (i f:Value) (r:Lit) (y:a.eval x=i) (F:a.eval v=f) (c:keyOf P k i=some r)
  (d:DataW Unit) (s:List MemPlace) (g:R f=some (d,s))
  (E:∀p,p.ownsMap P k R b (n+1) (D.put r d)->w.grownBy p (some b)->K (a.put o.dst undef) p):o.wp P a w K Q:=by
 obtain⟨p,l,G,H⟩:=j.update A B z c g
 unfold Oper.wp
 simp[execOp,q,C,y,F,l,Result.andThen]
 exact E _ G H
theorem Co {a b:List UInt8}(h:aF a=aF b):a=b:=by
 induction a generalizing b with
 |nil=>cases b with
  |nil=>rfl
  |cons x b=>cases h
 |cons x a ih=>
  cases b with
  |nil=>cases h
  |cons y b=>
   simp only[aF,eP,List.cons.injEq] at h
   obtain⟨c,d⟩:=h
   have e:x=y:=by
    simp only[Value.int.injEq,true_and] at c
    exact xE.1 (by omega)
   rw[e,ih d]
open Classical in
noncomputable def rI (v:Value):Option (DataW Unit×List MemPlace):=
 if h:∃l:List UInt8,l.length=512/\v= .agg (aF l).toArray then some (.lit (.string h.choose),[]) else none
theorem FY (l:List UInt8)(c:l.length=512):rI (.agg (aF l).toArray)=some (.lit (.string l),[]):=by
 have h:∃a:List UInt8,a.length=512/\Value.agg (aF l).toArray= .agg (aF a).toArray:=⟨l,c,rfl⟩
 unfold rI
 rw[dif_pos h]
 have b:=Co (show aF l=aF h.choose from congrArg Array.toList (Value.agg.inj h.choose_spec.2))
 exact congrArg (fun l=>some (DataW.lit (Lit.string l),([]:List MemPlace))) b.symm
theorem uN {v:Value}{d:DataW Unit}{b:List MemPlace}(h:rI v=some (d,b)):∃l:List UInt8,l.length=512/\v= .agg (aF l).toArray/\d= .lit (.string l):=by
 unfold rI at h
 split at h
 ·rename_i a
  simp only[Ue,mP] at h
  exact⟨a.choose,a.choose_spec.1,a.choose_spec.2,h.1.symm⟩
 ·cases h
theorem jG (w:World):(zeroValue 209).run Tryz.prog w= .ok (.agg (aF zB).toArray) w:=by kernel_rfl
theorem jH:(Tryz.prog.info? 209).map (fun i=>i.size)=some 512:=by kernel_rfl
def kJ (w:World)(b:Nat)(im:Im):Prop:=
 ∃D,w.ownsMap Tryz.prog 3 rI b 5000 D/\Maps.size D=im.ks.length/\(∀kl,Maps.has D kl=true->∃k:Nat,kl=kI k)/\(∀k:Nat,Maps.has D (kI k)=decide (k∈im.ks))/\∀k:Nat,k∈im.ks->∀z,D.atKey (kI k) z= .lit (.string (im.img k))
structure Im.Ok (im:Im)(n:Nat):Prop where
 rise:im.ks.Pairwise (· < ·)
 hi:∀k∈im.ks,k<n
 img:∀k∈im.ks,(im.img k).length=512
theorem Im.Ok.none (n:Nat):Im.none.Ok n:=⟨Cx,(fun _ h=>by cases h),(fun _ h=>by cases h)⟩
theorem FU:∀(l:List Nat) (a n:Nat),a<=n->l.Pairwise (· < ·)->(∀k∈l,a<=k/\k<n)->l.length<=n - a
 |[],_,_,_,_,_=>aR _
 |k::r,a,n,_,h,c=>by
  obtain⟨d,e⟩:=fD.1 h
  have f:=c k (aY ..)
  have:=FU r (k+1) n f.2 e (fun x b=>⟨d x b,(c x (bn _ b)).2⟩)
  rw[aZ]
  omega
theorem xU (l:List Nat)(n:Nat)(h:l.Pairwise (· < ·))(b:∀k∈l,k<n):l.length<=n:=FU l 0 n (aR _) h (fun k a=>⟨aR _,b k a⟩)
theorem Im.Ok.put {d:Im}{n:Nat}(h:d.Ok n)(b:Nat)(x:List UInt8)(e:b<n)(f:x.length=512):(d.put b x).Ok n:=by
 refine⟨vX h.rise,fun k a=> ?_,fun k a=> ?_⟩
 ·rcases lF.1 a with rfl|a
  ·exact e
  ·exact h.hi k a
 ·show (if k=b then x else d.img k).length=512
  split
  ·exact f
  ·rename_i c
   exact h.img k ((lF.1 a).resolve_left c)
theorem Ac {b:Nat}:∀{l:List Nat},l.Pairwise (· < ·)->(zF b l).length=if b∈l then l.length else l.length+1
 |[],_=>by simp[zF]
 |k::r,h=>by
  obtain⟨g,i⟩:=fD.1 h
  unfold zF
  split
  ·rename_i c
   rw[if_neg (by
    intro a
    rcases aW.1 a with rfl|a
    ·exact cO _ c
    ·have:=g b a;omega)]
   rfl
  ·split
   ·rename_i _ c
    subst c
    rw[if_pos (aY ..)]
   ·rename_i f d
    rw[aZ,Ac i,aZ]
    by_cases a:b∈r
    ·rw[if_pos a,if_pos (bn _ a)]
    ·rw[if_neg a,if_neg (by
      intro h
      rcases aW.1 h with e|h
      ·exact d e
      ·exact a h)]
theorem kJ.none (w:World):kJ (w.alloc (.map #[] 0)) w.heap.size Im.none:=
 ⟨.map [],(World.ownsMap_made w _ _ _).mono (aR _),rfl,(fun a h=>by simp[Maps.has_eq] at h),(fun k=>by simp[Maps.has_eq,Im.none]),(fun k h=>by cases h)⟩
theorem kJ.lt {w:World}{b:Nat}{a:Im}(h:kJ w b a):b<w.heap.size:=by obtain⟨D,c,_⟩:=h;exact c.lt
theorem kJ.block {w w':World}{b:Nat}{c:Im}(h:kJ w b c)(d:w'.heap[b]? =w.heap[b]?):kJ w' b c:=by
 obtain⟨D,⟨e,g,a,r⟩,f⟩:=h
 exact⟨D,⟨e,g,d.trans a,r⟩,f⟩
theorem kJ.ne {w:World}{b:Nat}{f:Im}(h:kJ w b f){g:Nat}{i:Array Value}{t:TypeId}{d:Nat×Nat}(c:w.heap[g]? =some (.cells i t d)):g≠b:=fun e=>by
 obtain⟨D,⟨j,k,a,_⟩,_⟩:=h
 rw[e,a] at c;cases c
theorem PY {a b:Nat}(h:a≠b):kI (a:Int)≠kI (b:Int):=fun e=>h (by injection e;omega)
theorem kJ.put {w p:World}{b:Nat}{a:Im}{D:DataW Unit}{n:Nat}(c:a.Ok n)(B:n<=4096)(k:Nat)(x:List UInt8)(C:k<n)(y:w.ownsMap Tryz.prog 3 rI b 5000 D)(l:Maps.size D=a.ks.length)(r:∀d,Maps.has D d=true->∃k:Nat,d=kI k)
  (o:∀k:Nat,Maps.has D (kI k)=decide (k∈a.ks)) (s:∀k:Nat,k∈a.ks->∀z,D.atKey (kI k) z= .lit (.string (a.img k))) (t:p.ownsMap Tryz.prog 3 rI b 5001 (D.put (kI k) (.lit (.string x)))):kJ p b (a.put k x):=by
 have f:=y.tidy iy
 have m:=xU _ _ c.rise c.hi
 have g:Maps.size (D.put (kI k) (.lit (.string x)))=(a.put k x).ks.length:=by
  rw[Maps.size_put f,o,show (a.put k x).ks=zF k a.ks from rfl,Ac c.rise,l]
  by_cases A:k∈a.ks<;>simp[A]
 have i:Maps.size (D.put (kI k) (.lit (.string x)))<=5000:=by
  rw[Maps.size_put f,l]
  split<;>omega
 refine⟨_,tight t i,g,fun d q=> ?_,fun j=> ?_,fun j v z=> ?_⟩
 ·by_cases e:d=kI k
  ·exact⟨k,e⟩
  ·rw[Maps.has_put_other e] at q
   exact r d q
 ·by_cases e:j=k
  ·subst e
   rw[Maps.has_put_same f.isMap (zD _)]
   simp[Im.put,lF]
  ·rw[Maps.has_put_other (PY e),o]
   simp[Im.put,lF,e]
 ·by_cases e:j=k
  ·subst e
   rw[Maps.atKey_put_same f.isMap (zD _)]
   simp[Im.put]
  ·rw[Maps.atKey_put_other (PY e),s j ((lF.1 v).resolve_left e)]
   simp[Im.put,e]
structure Pg.Ok (p:Pg)(σ:Dk)(l:Lg):Prop where
 frm:l.frm=0
 skip:p.skip=l.n
 ring:p.ring+1=l.n
 fit:l.n<σ.n
 fresh:p.fresh.Ok (σ.n - p.skip)
structure wI (w:World)(Sd Sl Sp:Nat->Prop)(pg lg d fb:Nat)(σ:Dk)(l:Lg)(p:Pg)(op:Value):Prop where
 log:gK w Sd Sl lg d σ l
 ok:p.Ok σ l
 sub:∀g,Sp g->g<w.heap.size
 dd:∀g,Sp g->¬Sd g
 dl:∀g,Sp g->¬Sl g
 Cy:Sp pg
 sfb:Sp fb
 obj:w.heap[pg]? =some (.cells #[.pointer (some ⟨d,0,none⟩),.pointer (some ⟨lg,0,none⟩),.int .i64 p.skip,.int .i64 p.ring,.map (some fb),op,.bool p.dead] 199 (0,0))
 fr:kJ w fb p.fresh
def iF (w:World)(S:Nat->Prop)(pg d:Nat)(σ:Dk)(l:Lg)(p:Pg)(op:Value):Prop:=
 ∃Sd Sl Sp lg fb,wI w Sd Sl Sp pg lg d fb σ l p op/\∀g,S g↔Sd g\/Sl g\/Sp g
theorem wI.keep {w w':World}{f e i M:Nat->Prop}{n k d o:Nat}{j:Dk}{l:Lg}{p:Pg}{m:Value}(h:wI w f e i n k d o j l p m)(c:Keep M w w')(b:∀g,f g\/e g\/i g->¬M g):wI w' f e i n k d o j l p m:=
 ⟨h.log.keep c (fun g a=>b g (.inl a)) (fun g a=>b g (.inr (.inl a))),h.ok,fun g a=>aA (h.sub g a) c.size,h.dd,h.dl,h.Cy,h.sfb,
  (c.block _ (h.sub _ h.Cy) (b _ (.inr (.inr h.Cy)))).trans h.obj,h.fr.block (c.block _ (h.sub _ h.sfb) (b _ (.inr (.inr h.sfb))))⟩
theorem iF.keep {w w':World}{S M:Nat->Prop}{e d:Nat}{a:Dk}{l:Lg}{p:Pg}{c:Value}(h:iF w S e d a l p c)(o:Keep M w w')(k:∀g,S g->¬M g):iF w' S e d a l p c:=by
 obtain⟨m,f,n,i,q,h,b⟩:=h
 exact⟨m,f,n,i,q,h.keep o (fun g j=>k g ((b g).2 j)),b⟩
theorem iF.below {w w':World}{S:Nat->Prop}{c d:Nat}{a:Dk}{l:Lg}{p:Pg}{b:Value}(h:iF w S c d a l p b)(f:Below w.heap.size w w'):iF w' S c d a l p b:=h.keep (Keep.of_below f eG) (fun _ _ e=>e)
theorem iF.sub {w:World}{S:Nat->Prop}{b d:Nat}{c:Dk}{l:Lg}{p:Pg}{e:Value}(h:iF w S b d c l p e):∀g,S g->g<w.heap.size:=by
 obtain⟨j,n,i,m,k,h,f⟩:=h
 intro g a
 rcases (f g).1 a with a|a|a
 ·exact h.log.dk.sub g a
 ·exact h.log.lg.sub g a
 ·exact h.sub g a
theorem iF.Cy {w:World}{S:Nat->Prop}{a d:Nat}{b:Dk}{l:Lg}{p:Pg}{c:Value}(h:iF w S a d b l p c):S a:=by
 obtain⟨g,k,f,j,i,h,e⟩:=h
 exact(e a).2 (.inr (.inr h.Cy))
theorem iF.ok {w:World}{S:Nat->Prop}{c d:Nat}{a:Dk}{l:Lg}{p:Pg}{b:Value}(h:iF w S c d a l p b):p.Ok a l/\a.Ok/\l.Ok:=by
 obtain⟨f,j,e,i,g,h,k⟩:=h
 exact⟨h.ok,h.log.dk.ok,h.log.lg.ok⟩
theorem wI.cells {w:World}{m n g:Nat->Prop}{a c d f:Nat}{k:Dk}{l:Lg}{p:Pg}{e:Value}(h:wI w m n g a c d f k l p e):
  w.cell? ⟨a,0,none⟩=some (.pointer (some ⟨d,0,none⟩))/\w.cell? ⟨a,1,none⟩=some (.pointer (some ⟨c,0,none⟩))/\w.cell? ⟨a,2,none⟩=some (.int .i64 p.skip)/\w.cell? ⟨a,3,none⟩=some (.int .i64 p.ring)/\w.cell? ⟨a,4,none⟩=some (.map (some f))/\
  w.cell? ⟨a,5,none⟩=some e/\w.cell? ⟨a,6,none⟩=some (.bool p.dead)/\a<w.heap.size/\∀j,w.frozen? ⟨a,j,none⟩=false:=by
 have b:=h.obj
 refine⟨?_,?_,?_,?_,?_,?_,?_,(aj.1 b).1,?_⟩
 all_goals first
  |(simp[World.cell?,b];done)
  |(intro i;simp[World.frozen?,b])
theorem wI.turn {w o:World}{q n m b c:Nat->Prop}{v s d y:Nat}{z i:Dk}{l r:Lg}{p:Pg}{t:Value}(h:wI w q n m v s d y z l p t)(hA:gK o b c s d i r)(j:Two q n b c w o)(A:p.Ok i r):
  wI o b c m v s d y i r p t/\Step (fun g=>q g\/n g\/m g) (fun g=>b g\/c g\/m g) w o:=by
 have k:∀g,m g->¬(q g\/n g):=fun g a e=>e.elim (h.dd g a) (h.dl g a)
 have f:∀g,m g->¬(b g\/c g):=fun g a e=>(j.2 g e).elim (k g a) (fun x=>absurd (h.sub g a) (aX.2 x))
 refine⟨⟨hA,A,fun g a=>aA (h.sub g a) j.1.size,fun g a e=>f g a (.inl e),fun g a e=>f g a (.inr e),h.Cy,h.sfb,(j.1.block _ (h.sub _ h.Cy) (k _ h.Cy)).trans h.obj,h.fr.block (j.1.block _ (h.sub _ h.sfb) (k _ h.sfb))⟩,?_⟩
 refine⟨j.1.mono (fun _ _ e=>e.elim .inl (fun e=> .inr (.inl e))),fun g a=> ?_⟩
 rcases a with a|a|a
 ·exact(j.2 g (.inl a)).elim (fun e=> .inl (e.elim .inl (fun e=> .inr (.inl e)))) .inr
 ·exact(j.2 g (.inr a)).elim (fun e=> .inl (e.elim .inl (fun e=> .inr (.inl e)))) .inr
 ·exact .inl (.inr (.inr a))
theorem wI.self {w k:World}{q o r:Nat->Prop}{b j d n:Nat}{i:Dk}{l:Lg}{p a:Pg}{x f:Value}(h:wI w q o r b j d n i l p x)(m:Keep (· =b) w k)(v:a.Ok i l)(t:a.fresh=p.fresh)
  (s:k.heap[b]? =some (.cells #[.pointer (some ⟨d,0,none⟩),.pointer (some ⟨j,0,none⟩),.int .i64 a.skip,.int .i64 a.ring,.map (some n),f,.bool a.dead] 199 (0,0))):wI k q o r b j d n i l a f:=
 ⟨h.log.keep m (fun g c e=>h.dd b h.Cy (e▸c)) (fun g c e=>h.dl b h.Cy (e▸c)),v,fun g c=>aA (h.sub g c) m.size,h.dd,h.dl,h.Cy,h.sfb,s,
  by rw[t];exact h.fr.block (m.block _ (h.sub _ h.sfb) (fun e=>h.fr.ne h.obj e.symm))⟩
theorem AP (c d:Nat)(a:Dk)(l:Lg)(p:Pg)(q:Value)(S:Nat->Prop)(w:World)(h:iF w S c d a l p q):
  Calls Tryz.prog 52 #[.pointer (some ⟨c,0,none⟩)] w fun e r=>e= .returned (.int .i64 (p.blocks a))/\r=w.drew:=by
 obtain⟨x,B,E,D,G,h,C⟩:=h
 obtain⟨g,_,f,_,_,_,_,s,_⟩:=h.cells
 have t:=ah (G6 d a x w.drew (h.log.dk.below ((aJ _ w).drew)))
 have m:=h.log.dk.ok.hi
 have n:=h.ok.fit;have z:=h.ok.skip
 have F:IntKind.i64.wrap ((a.n:Int) - (p.skip:Int))=(p.blocks a:Int):=by rw[aM _ (by omega)];unfold Pg.blocks;omega
 have k:w.drew.cell? ⟨c,0,none⟩=some (.pointer (some ⟨d,0,none⟩)):=g
 have o:w.drew.cell? ⟨c,2,none⟩=some (.int .i64 p.skip):=f
 clear h m n z g f
 go_enter Tryz.func52,Tryz.ntmps52
 go_wp2_with fail
 refine aP (fun W=>W=w.drew) (fun i=> !([4].contains i)) [0,1,2,3,5,6,7,8,4,9,10] rfl (by kernel_rfl) rfl ?_
 repeat ((refine bE (v:= ?_) rfl rfl (fun _ _ _ h=>h) rfl (fun W b=> ?_) ?_);rotate_left;(focus ((try dsimp only at b);subst b;(go_simp;first|done|with_reducible rfl)));(try simp only[Act.put,ak,ay,ax]))
 refine bT rfl rfl rfl ?_;intro K A;go_simp
 refine t.out.mono ?_;rintro e j ⟨rfl,y⟩;subst j
 refine A.out _ _ rfl ?_
 repeat ((refine bE (v:= ?_) rfl rfl (fun _ _ _ h=>h) rfl (fun W b=> ?_) ?_);rotate_left;(focus ((try dsimp only at b);subst b;(go_simp;first|done|with_reducible rfl)));(try simp only[Act.put,ak,ay,ax]))
 refine bN ?_
 go_wp2_with fail
 go_ret
 exact⟨rfl,rfl⟩
theorem Gc (a:Nat)(w:World):
  Calls Tryz.prog 101 #[.pointer (some ⟨a,0,none⟩),.int .i64 0] w fun e b=>e= .returned (.int .i64 0)/\b=w:=by
 go_enter Tryz.func101,Tryz.ntmps101
 go_wp2_with fail
 go_ret
 exact⟨rfl,rfl⟩
theorem Pg.Ok.dies {p:Pg}{a:Dk}{l:Lg}(h:p.Ok a l):p.dies.Ok a l:=⟨h.frm,h.skip,h.ring,h.fit,h.fresh⟩
theorem Step.eqv {S S' T d:Nat->Prop}{w b:World}(h:Step T d w b)(c:∀g,S g↔T g)(a:∀g,S' g↔d g):Step S S' w b:=
 ⟨h.1.mono (fun g _ x=>(c g).2 x),fun g e=>(h.2 g ((a g).1 e)).imp (c g).2 id⟩
theorem Step.own {S:Nat->Prop}{w a:World}{g:Nat}(h:Keep (· =g) w a)(b:S g):Step S S w a:=⟨h.mono (fun _ _ e=>e▸b),fun _ h=> .inl h⟩
theorem MJ (a d:Nat)(c:Dk)(l:Lg)(p:Pg)(g:Value)(S:Nat->Prop)(q:Int)(w:World)(h:iF w S a d c l p g)(z:q≠0):
  Calls Tryz.prog 101 #[.pointer (some ⟨a,0,none⟩),.int .i64 q] w fun e m=>e= .returned (.int .i64 10)/\iF m S a d c l p.dies g/\Step S S w m:=by
 have b:=h.Cy
 obtain⟨n,j,o,k,r,h,t⟩:=h
 obtain⟨_,_,_,_,_,_,B,v,f⟩:=h.cells
 have A:=f 6
 have x:(q !=0)=true:=by simpa using z
 have i:Keep (· =a) w (w.setCell ⟨a,6,none⟩ (.bool true)):=(Keep.refl (· =a) w).setCell (p:=⟨a,6,none⟩) (.inr rfl) _
 have y:=ah (show wI (w.setCell ⟨a,6,none⟩ (.bool true)) n j o a k d r c l p.dies g from h.self i h.ok.dies rfl (by rw[gF w a 6 _ _ _ h.obj];rfl))
 have s:=ah i
 clear h i
 go_enter Tryz.func101,Tryz.ntmps101
 go_wp2_with fail
 go_ret
 exact⟨rfl,⟨n,j,o,k,r,y.out,t⟩,Step.own s.out b⟩
structure wH (w:World)(T:Nat->Prop)(t pg db:Nat)(im:Im)(n:Nat):Prop where
 ok:im.Ok n
 sub:∀g,T g->g<w.heap.size
 st:T t
 sdb:T db
 obj:w.heap[t]? =some (.cells #[.pointer (some ⟨pg,0,none⟩),.map (some db)] 201 (0,0))
 img:kJ w db im
def qR (w:World)(T:Nat->Prop)(t pg:Nat)(im:Im)(n:Nat):Prop:=∃db,wH w T t pg db im n
theorem qR.keep {w w':World}{T M:Nat->Prop}{t b n:Nat}{d:Im}(h:qR w T t b d n)(a:Keep M w w')(c:∀g,T g->¬M g):qR w' T t b d n:=by
 obtain⟨e,h⟩:=h
 exact⟨e,h.ok,fun g f=>aA (h.sub g f) a.size,h.st,h.sdb,(a.block _ (h.sub _ h.st) (c _ h.st)).trans h.obj,h.img.block (a.block _ (h.sub _ h.sdb) (c _ h.sdb))⟩
theorem qR.below {w w':World}{T:Nat->Prop}{t b n:Nat}{a:Im}(h:qR w T t b a n)(c:Below w.heap.size w w'):qR w' T t b a n:=h.keep (Keep.of_below c eG) (fun _ _ e=>e)
theorem qR.sub {w:World}{T:Nat->Prop}{t b n:Nat}{a:Im}(h:qR w T t b a n):∀g,T g->g<w.heap.size:=by obtain⟨_,h⟩:=h;exact h.sub
theorem Pb (b d:Nat)(n:Dk)(l:Lg)(p:Pg)(S:Nat->Prop)(w:World)(h:iF w S b d n l p (.pointer none))(G:p.dead=false):
  Calls Tryz.prog 50 #[.pointer (some ⟨b,0,none⟩)] w fun e s=>∃t T,e= .returned (.tuple #[.pointer (some ⟨t,0,none⟩),.int .i64 0])/\iF s S b d n l p (.pointer (some ⟨t,0,none⟩))/\qR s T t b Im.none (p.blocks n)/\Step S S w s/\(∀g,T g->w.heap.size<=g):=by
 have f:=h.Cy
 obtain⟨B,z,C,A,D,h,E⟩:=h
 obtain⟨_,_,_,_,_,K,I,F,o⟩:=h.cells
 rw[G] at I
 have J:=o 5
 have r:=ah h
 clear h
 have H:∀w:World,(Instr.makeMap 197 none).run Tryz.prog w= .ok (.map (some w.heap.size)) (w.alloc (.map #[] 0)):=fun w=>run_makeMap _ w
 go_enter Tryz.func50,Tryz.ntmps50
 go_wp2_with fail
 go_ret2
 obtain⟨a,c⟩:∃a:World,Hid (w.setCell ⟨b,5,none⟩ (.pointer (some ⟨w.heap.size+1,0,none⟩))=a):=⟨_,ah rfl⟩
 have m:Keep (· =b) w a:=by rw[<-c.out];exact(Keep.refl (· =b) _).setCell (p:=⟨b,5,none⟩) (.inr rfl) _
 have i:wI a B z C b A d D n l p (.pointer (some ⟨w.heap.size+1,0,none⟩)):=r.out.self m r.out.ok rfl (by rw[<-c.out,gF _ b 5 _ _ _ r.out.obj];rfl)
 have j:a.heap.size=w.heap.size:=by rw[<-c.out];simp
 rw[c.out,<-j]
 have k:Below a.heap.size a ((a.alloc (.map #[] 0)).alloc (.cells #[.pointer (some ⟨b,0,none⟩),.map (some a.heap.size)] 201)):=iY a _ _
 have x:kJ ((a.alloc (.map #[] 0)).alloc (.cells #[.pointer (some ⟨b,0,none⟩),.map (some a.heap.size)] 201)) a.heap.size Im.none:=(kJ.none a).block (mU _ _ _ (by simp))
 have y:((a.alloc (.map #[] 0)).alloc (.cells #[.pointer (some ⟨b,0,none⟩),.map (some a.heap.size)] 201)).heap[a.heap.size+1]? =some (.cells #[.pointer (some ⟨b,0,none⟩),.map (some a.heap.size)] 201 (0,0)):=by
  have:=aH (a.alloc (.map #[] 0)) (.cells #[.pointer (some ⟨b,0,none⟩),.map (some a.heap.size)] 201)
  rwa [bD] at this
 rw[<-j] at i
 have q:=i.keep (Keep.of_below k eG) (fun _ _ e=>e)
 refine⟨a.heap.size+1,fun g=>g=a.heap.size\/g=a.heap.size+1,rfl,⟨B,z,C,A,D,q,E⟩,⟨a.heap.size,Im.Ok.none _,fun g v=> ?_,.inr rfl,.inl rfl,y,x⟩,⟨(m.mono (fun _ _ e=>e▸f)).trans (Keep.of_below k S) (fun _ _ e=>e),fun _ v=> .inl v⟩,fun g v=>by omega⟩
 simp only[bD]
 omega
theorem UH (t a d:Nat)(v:Dk)(l:Lg)(p:Pg)(P:Value)(O:Im)(n:Nat)(S T:Nat->Prop)(w:World)(h:iF w S a d v l p P)(i:qR w T t a O n)(j:∀g,S g->¬T g):
  Calls Tryz.prog 93 #[.pointer (some ⟨t,0,none⟩)] w fun e C=>e= .returned (.tuple #[])/\iF C S a d v l p (.pointer none)/\(∃y,C.heap[t]? =some (.cells #[.pointer none,.map (some y)] 201 (0,0)))/\Keep (fun g=>S g\/T g) w C:=by
 have f:=h.Cy
 obtain⟨K,G,M,I,N,h,H⟩:=h
 obtain⟨y,i⟩:=i
 obtain⟨_,_,_,_,_,X,Z,V,x⟩:=h.cells
 have W:=x 5
 have k:=i.obj
 have Y:w.cell? ⟨t,0,none⟩=some (.pointer (some ⟨a,0,none⟩)):=by simp[World.cell?,k]
 have R:w.frozen? ⟨t,0,none⟩=false:=by simp[World.frozen?,k]
 have A:=i.sub _ i.st
 have F:a≠t:=fun e=>j a f (e▸i.st)
 have E:¬t=a:=fun e=>F e.symm
 have B:=ah h;have J:=ah i
 clear h i
 go_enter Tryz.func93,Tryz.ntmps93
 go_wp2_with fail
 go_end0
 obtain⟨s,c⟩:∃s:World,Hid ((w.setCell ⟨a,5,none⟩ (.pointer none)).setCell ⟨t,0,none⟩ (.pointer none)=s):=⟨_,ah rfl⟩
 obtain⟨o,b⟩:∃o:World,Hid (w.setCell ⟨a,5,none⟩ (.pointer none)=o):=⟨_,ah rfl⟩
 have m:Keep (· =a) w o:=by rw[<-b.out];exact(Keep.refl (· =a) _).setCell (p:=⟨a,5,none⟩) (.inr rfl) _
 have D:wI o K G M a I d N v l p (.pointer none):=B.out.self m B.out.ok rfl (by rw[<-b.out,gF _ a 5 _ _ _ B.out.obj];rfl)
 rw[b.out] at c
 have r:Keep (· =t) o s:=by rw[<-c.out];exact(Keep.refl (· =t) _).setCell (p:=⟨t,0,none⟩) (.inr rfl) _
 have q:=(m.block t A E).trans k
 have z:=D.keep r (fun g Q e=>j g ((H g).2 Q) (e▸J.out.st))
 rw[b.out,c.out]
 refine⟨rfl,⟨K,G,M,I,N,z,H⟩,⟨y,?_⟩,(m.mono (fun _ _ e=> .inl (e▸f))).trans r (fun _ _ e=> .inr (e▸J.out.st))⟩
 rw[<-c.out,gF _ t 0 _ _ _ q]
 rfl
theorem wH.cells {w:World}{T:Nat->Prop}{t c b n:Nat}{d:Im}(h:wH w T t c b d n):
  w.cell? ⟨t,0,none⟩=some (.pointer (some ⟨c,0,none⟩))/\w.cell? ⟨t,1,none⟩=some (.map (some b))/\t<w.heap.size:=by
 have a:=h.obj
 exact⟨by simp[World.cell?,a],by simp[World.cell?,a],(aj.1 a).1⟩
theorem Ej (t f d:Nat)(a:Dk)(l:Lg)(p:Pg)(g:Value)(m:Im)(S T:Nat->Prop)(n b:Nat)(w:World)(h:iF w S f d a l p g)(c:qR w T t f m n)(i:p.dead=false)(A:b<p.blocks a):
  Calls Tryz.prog 92 #[.pointer (some ⟨t,0,none⟩),.int .i64 b] w fun e r=>e= .returned (.int .i64 0)/\r=w.drew:=by
 have s:=ah (AP f d a l p g S w h)
 have j:p.blocks a<=4096:=by have:=h.ok.2.1.hi;unfold Pg.blocks;omega
 obtain⟨I,B,J,F,M,h,D⟩:=h
 obtain⟨E,c⟩:=c
 obtain⟨_,_,_,_,_,_,z,v,_⟩:=h.cells
 obtain⟨H,N,o⟩:=c.cells
 rw[i] at z
 clear h c i
 have y:¬(b:Int)<0:=by omega
 have G:decide ((b:Int)<0)=false:=bU y
 have q:¬(p.blocks a:Int)<=(b:Int):=by omega
 have K:decide ((p.blocks a:Int)<=(b:Int))=false:=bU q
 have C:decide (p.blocks a<=b)=false:=bU (by omega)
 go_enter Tryz.func92,Tryz.ntmps92
 go_wp2_with (first
  |(go_at_call 52;go_must (refine s.out.mono ?_;rintro e k ⟨rfl,x⟩;subst k)))
 go_ret
 exact⟨rfl,rfl⟩
theorem TK (a d:Nat)(b:Dk)(l:Lg)(p:Pg)(i:Value)(S:Nat->Prop)(w:World)(h:iF w S a d b l p i):
  Calls Tryz.prog 79 #[.pointer (some ⟨a,0,none⟩)] w fun e j=>e= .returned (.int .i64 l.last)/\j=w:=by
 obtain⟨r,f,s,g,t,h,q⟩:=h
 obtain⟨_,o,_,_,_,_,_,k,_⟩:=h.cells
 have n:=ah (Oe g d l f w h.log.lg)
 clear h
 go_enter Tryz.func79,Tryz.ntmps79
 go_wp2_with (first
  |(go_at_call 103;go_must (refine n.out.mono ?_;rintro e c ⟨rfl,m⟩;subst c)))
 go_ret
 exact⟨rfl,rfl⟩
theorem kJ.look {w:World}{b:Nat}{a:Im}(h:kJ w b a)(k:Nat):∃D,w.ownsMap Tryz.prog 3 rI b 5000 D/\Maps.has D (kI k)=decide (k∈a.ks)/\(k∈a.ks->D.atKey (kI k) (.lit (.string zB))= .lit (.string (a.img k))):=by
 obtain⟨D,c,i,g,d,e⟩:=h
 exact⟨D,c,d k,fun f=>e k f _⟩
theorem vR:rI (.agg (aF zB).toArray)=some (.lit (.string zB),[]):=FY zB gG
theorem tread (t I d:Nat)(A:Dk)(l:Lg)(p:Pg)(op:Value)(Y:Im)(S T:Nat->Prop)(b:Nat)(w:World)(h:iF w S I d A l p op)(ht:qR w T t I Y (p.blocks A))(hd:p.dead=false)(iO:A.dead=false)(hb:b<p.blocks A):
  Calls Tryz.prog 136 #[.pointer (some ⟨t,0,none⟩),.int .i64 b] w fun e w'=>∃v,e= .returned (.tuple #[v,.int .i64 0])/\bq w' eG 1 v 512 (aF (p.look Y A b))/\(∀g,v.ownBlock=some g->w.heap.size<=g)/\Below w.heap.size w w':=by
 have HU:=ah (Ej t I d A l p op Y S T (p.blocks A) b w h ht hd hb)
 have j4:p.blocks A<=4096:=by have:=h.ok.2.1.hi;unfold Pg.blocks;omega
 have q:=sV (b:Int) (by omega) (by omega)
 obtain⟨Sd,Sl,Sp,lg,fb,h,hS⟩:=h
 obtain⟨db,ht⟩:=ht
 obtain⟨c0,_,c2,_,c4,_,c6,X,_⟩:=h.cells
 obtain⟨t0,t1,pV⟩:=ht.cells
 have HS:=ah (show ∀W:World,Below w.heap.size w W->W.cell? ⟨t,0,none⟩=some (.pointer (some ⟨I,0,none⟩))/\W.cell? ⟨t,1,none⟩=some (.map (some db))/\W.cell? ⟨I,0,none⟩=some (.pointer (some ⟨d,0,none⟩))/\W.cell? ⟨I,2,none⟩=some (.int .i64 p.skip)/\W.cell? ⟨I,4,none⟩=some (.map (some fb))/\t<W.heap.size/\I<W.heap.size from fun W x=>
  ⟨(x.cell (p:=⟨t,0,none⟩) pV).trans t0,(x.cell (p:=⟨t,1,none⟩) pV).trans t1,(x.cell (p:=⟨I,0,none⟩) X).trans c0,(x.cell (p:=⟨I,2,none⟩) X).trans c2,(x.cell (p:=⟨I,4,none⟩) X).trans c4,aA pV x.size,aA X x.size⟩)
 have HH:=ah h;have HT:=ah ht
 clear h ht c0 c2 c4 c6 t0 t1
 go_enter Tryz.func136,Tryz.ntmps136
 go_wp2_with (first
  |(go_at_call 92;go_must (refine HU.out.mono ?_;rintro e w1 ⟨rfl,ko⟩;subst w1)))
 refine aP (fun W=>Below w.heap.size w W) (fun i=> !([11].contains i)) [0,1,2,3,4,5,6,7,8,9,10,13,11,12] rfl (by kernel_rfl) ((aJ _ w).drew.drew) ?_
 repeat ((refine bE (v:= ?_) rfl rfl (fun _ _ _ h=>h) rfl (fun W x=> ?_) ?_);rotate_left;(focus ((try dsimp only at x);obtain⟨r0,r1,r2,r3,r4,r5,r6⟩:=HS.out W x;(go_simp;first|done|with_reducible rfl)));(try simp only[Act.put,ak,ay,ax]))
 refine bT rfl rfl rfl ?_;intro K s;go_simp
 obtain⟨w2,N⟩:∃w2:World,Hid ((w.alloc (.cells #[.map (some db),.map (some fb)] 197)).drew.drew=w2):=⟨_,ah rfl⟩
 have m:Below w.heap.size w w2:=by rw[<-N.out];exact(aG w _).drew.drew
 have jb:w2.cell? ⟨w.heap.size,0,none⟩=some (.map (some db)):=by rw[<-N.out];show (w.alloc _).cell? _=_;simp
 have fo:w2.cell? ⟨w.heap.size,1,none⟩=some (.map (some fb)):=by rw[<-N.out];show (w.alloc _).cell? _=_;simp
 have qm:w.heap.size<w2.heap.size:=by rw[<-N.out];simp
 rw[N.out]
 refine s.out _ _ m ?_
 repeat ((refine bE (v:= ?_) rfl rfl (fun _ _ _ h=>h) rfl (fun W x=> ?_) ?_);rotate_left;(focus ((try dsimp only at x);obtain⟨r0,r1,r2,r3,r4,r5,r6⟩:=HS.out W x;(go_simp;first|done|with_reducible rfl)));(try simp only[Act.put,ak,ay,ax]))
 refine bN ?_
 have dM:=ah HT.out.img;have eH:=ah HH.out.fr
 have bg:=ah (HT.out.sub _ HT.out.sdb);have qC:=ah (HH.out.sub _ HH.out.sfb)
 have R:=qC
 have F:=q
 clear q
 go_wp2_with fail
 go_loopw [32] (fun i wr=>∃k:Nat,k<=2/\i= .int .i64 k/\Hid (Below w2.heap.size w2 wr)/\Hid (0<k->b∉Y.ks)/\Hid (1<k->b∉p.fresh.ks)) (fun i _=>2 - (intOf i).toNat)
 case atStart=>exact⟨0,by omega,rfl,ah (aJ _ _),ah (fun h=>absurd h (by omega)),ah (fun h=>absurd h (by omega))⟩
 case round=>
  obtain⟨k,hk,rfl,E,qO,bf⟩:=hrel
  have q:=m.trans (E.out.mono m.size)
  have d0:=(E.out.cell (p:=⟨w.heap.size,0,none⟩) qm).trans jb
  have d1:=(E.out.cell (p:=⟨w.heap.size,1,none⟩) qm).trans fo
  have av:=aA qm E.out.size
  have hz:(zeroValue 209).run Tryz.prog wr= .ok (.agg (aF zB).toArray) wr:=jG wr
  have O:Row (wr.alloc (.cells (aF zB).toArray 209)) wr.heap.size 209 (aF zB):=Row.new wr _ _
  have G:=ah (show (aF zB).length=512 by rw[bC,gG])
  obtain⟨s0,s1,s2,s3,s4,s5,s6⟩:=HS.out wr q
  rcases jC k 1 with h0|h0
  ·obtain rfl:k=0:=by omega
   have qb:=ah (dM.out.block (q.block _ bg.out))
   obtain⟨D,hD,Z,C⟩:=qb.out.look b
   by_cases P:b∈Y.ks
   ·have B:Maps.has D (kI b)=true:=by rw[Z];exact gq P
    have y:=C P
    have p9:=ah y
    clear C y Z
    go_wp2_with (first
     |(at_lookup;go_must (refine yR _ rfl _ _ 197 rfl 3 209 iy dW rI hz (.lit (.string zB)) [] vR db 5000 D rfl hD _ _ rfl (ni b F) ?_;intro v ps V;obtain⟨r,c,rfl,n⟩:=uN V;have R:=ah c;have J:=ah n;have a:=ah (show (aF r).length=512 by rw[bC,c]);have j:=fO r;clear V c n;rw[B]))
     |((refine bS rfl ?_);intro K s;(refine gZ 209 rfl _ jG ?_);refine s _ _ ?_)
     |((refine bS rfl ?_);intro K s;(refine wp_store_row 209 _ _ rfl wr.heap.size 0 209 _ (aF r) rfl rfl O (jH.trans (congrArg some a.out.symm)) (by rw[G.out,a.out];omega) j ?_);intro w3 f o;refine s _ _ (Stop.of ?_)))
    refine Stop.on ?_
    rw[kZ _ _ (G.out.trans a.out.symm)] at f
    have qy:=ah f;have qf:=ah o;clear f o
    go_wp2_with fail
    go_ret2
    have qc:r=p.look Y A b:=by
     have H:(DataW.lit (Lit.string r):DataW Unit)= .lit (.string (Y.img b)):=J.out.symm.trans p9.out
     injection H with H
     injection H with H
     rw[H]
     unfold Pg.look Im.find
     rw[if_pos P];rfl
    refine⟨_,rfl,?_,fun g hg=>by cases hg;exact aI m.size E.out.size,?_⟩
    ·rw[<-qc]
     have:=qy.out.dM (S:=eG) (k:=1) (off:=0) 512 512 (by rw[a.out];omega) id (aC _) (by simp[maxLen])
     rwa [dY,aL (by rw[a.out];omega)] at this
    ·exact(m.trans (E.out.mono m.size)).trans (((Keep.refl (fun _=>False) wr).alloc _).trans (qf.out.mono (M':=fun g=>g=wr.heap.size) (fun _ _ e=>e)) (fun i hi e=>by omega)|>.below.mono (aI m.size E.out.size))
   ·have B:Maps.has D (kI b)=false:=by rw[Z];exact bU P
    clear C Z
    go_wp2_with (first
     |(at_lookup;go_must (refine yR _ rfl _ _ 197 rfl 3 209 iy dW rI hz (.lit (.string zB)) [] vR db 5000 D rfl hD _ _ rfl (ni b F) ?_;intro v ps V;obtain⟨r,c,rfl,n⟩:=uN V;have R:=ah c;have J:=ah n;have a:=ah (show (aF r).length=512 by rw[bC,c]);have j:=fO r;clear V c n;rw[B]))
     |((refine bS rfl ?_);intro K s;(refine gZ 209 rfl _ jG ?_);refine s _ _ ?_)
     |((refine bS rfl ?_);intro K s;(refine wp_store_row 209 _ _ rfl wr.heap.size 0 209 _ (aF r) rfl rfl O (jH.trans (congrArg some a.out.symm)) (by rw[G.out,a.out];omega) j ?_);intro w3 f o;refine s _ _ (Stop.of ?_)))
    refine Stop.on ?_
    have ql:=ah (E.out.trans ((((Keep.refl (fun _=>False) wr).alloc _).trans (o.mono (M':=fun g=>g=wr.heap.size) (fun _ _ e=>e)) (fun i hi e=>by omega)).below.mono E.out.size))
    clear f o
    go_wp2_with fail
    go_roundw
    case rel=>exact⟨1,by omega,by go_num,ql,ah (fun _=>P),ah (fun h=>absurd h (by omega))⟩
    case measure=>simp[intOf]
  ·rcases jC k 2 with H|H
   ·obtain rfl:k=1:=by omega
    have Q:=qO.out (by omega)
    have qb:=ah (eH.out.block (q.block _ R.out))
    obtain⟨D,hD,Z,C⟩:=qb.out.look b
    by_cases P:b∈p.fresh.ks
    ·have B:Maps.has D (kI b)=true:=by rw[Z];exact gq P
     have y:=C P
     have p9:=ah y
     clear C y Z
     go_wp2_with (first
      |(at_lookup;go_must (refine yR _ rfl _ _ 197 rfl 3 209 iy dW rI hz (.lit (.string zB)) [] vR fb 5000 D rfl hD _ _ rfl (ni b F) ?_;intro v ps V;obtain⟨r,c,rfl,n⟩:=uN V;have R:=ah c;have J:=ah n;have a:=ah (show (aF r).length=512 by rw[bC,c]);have j:=fO r;clear V c n;rw[B]))
      |((refine bS rfl ?_);intro K s;(refine gZ 209 rfl _ jG ?_);refine s _ _ ?_)
      |((refine bS rfl ?_);intro K s;(refine wp_store_row 209 _ _ rfl wr.heap.size 0 209 _ (aF r) rfl rfl O (jH.trans (congrArg some a.out.symm)) (by rw[G.out,a.out];omega) j ?_);intro w3 f o;refine s _ _ (Stop.of ?_)))
     refine Stop.on ?_
     rw[kZ _ _ (G.out.trans a.out.symm)] at f
     have qy:=ah f;have qf:=ah o;clear f o
     go_wp2_with fail
     go_ret2
     have qc:r=p.look Y A b:=by
      have H:(DataW.lit (Lit.string r):DataW Unit)= .lit (.string (p.fresh.img b)):=J.out.symm.trans p9.out
      injection H with H
      injection H with H
      rw[H]
      unfold Pg.look Im.find
      rw[if_neg Q,if_pos P];rfl
     refine⟨_,rfl,?_,fun g hg=>by cases hg;exact aI m.size E.out.size,?_⟩
     ·rw[<-qc]
      have:=qy.out.dM (S:=eG) (k:=1) (off:=0) 512 512 (by rw[a.out];omega) id (aC _) (by simp[maxLen])
      rwa [dY,aL (by rw[a.out];omega)] at this
     ·exact(m.trans (E.out.mono m.size)).trans (((Keep.refl (fun _=>False) wr).alloc _).trans (qf.out.mono (M':=fun g=>g=wr.heap.size) (fun _ _ e=>e)) (fun i hi e=>by omega)|>.below.mono (aI m.size E.out.size))
    ·have B:Maps.has D (kI b)=false:=by rw[Z];exact bU P
     clear C Z
     go_wp2_with (first
      |(at_lookup;go_must (refine yR _ rfl _ _ 197 rfl 3 209 iy dW rI hz (.lit (.string zB)) [] vR fb 5000 D rfl hD _ _ rfl (ni b F) ?_;intro v ps V;obtain⟨r,c,rfl,n⟩:=uN V;have R:=ah c;have J:=ah n;have a:=ah (show (aF r).length=512 by rw[bC,c]);have j:=fO r;clear V c n;rw[B]))
      |((refine bS rfl ?_);intro K s;(refine gZ 209 rfl _ jG ?_);refine s _ _ ?_)
      |((refine bS rfl ?_);intro K s;(refine wp_store_row 209 _ _ rfl wr.heap.size 0 209 _ (aF r) rfl rfl O (jH.trans (congrArg some a.out.symm)) (by rw[G.out,a.out];omega) j ?_);intro w3 f o;refine s _ _ (Stop.of ?_)))
     refine Stop.on ?_
     have ql:=ah (E.out.trans ((((Keep.refl (fun _=>False) wr).alloc _).trans (o.mono (M':=fun g=>g=wr.heap.size) (fun _ _ e=>e)) (fun i hi e=>by omega)).below.mono E.out.size))
     clear f o
     go_wp2_with fail
     go_roundw
     case rel=>exact⟨2,by omega,by go_num,ql,ah (fun _=>Q),ah (fun _=>P)⟩
     case measure=>simp[intOf]
   ·obtain rfl:k=2:=by omega
    have Q:=qO.out (by omega)
    have ai:=bf.out (by omega)
    have j5:b<A.n - p.skip:=hb
    have j6:=HH.out.log.dk.ok.hi
    obtain⟨z,HZ⟩:∃z,Hid (p.skip+b=z):=⟨_,ah rfl⟩
    have jv:IntKind.i64.wrap ((p.skip:Int)+(b:Int))=(z:Int):=by rw[aM _ (by omega),<-HZ.out];omega
    have qo:z<A.n:=by rw[<-HZ.out];omega
    have di:=ah (HH.out.log.dk.below q)
    have d9:=ah (Lf d A Sd z wr.drew (di.out.below ((aJ _ wr).drew)) iO qo)
    have dn:=ah (show A.get z=p.look Y A b by
     unfold Pg.look Im.find
     rw[if_neg Q,if_neg ai,HZ.out]
     rfl)
    have q9:=ah q;have j3:=ah qo
    clear Q ai O hz d0 d1 av s0 s1 s2 s3 s4 s5 s6 qo
    go_wp2_with fail
    refine aP (fun W=>Below w.heap.size w W) (fun i=> !([16].contains i)) [0,1,2,3,4,5,6,7,8,9,10,11,12,13,14,15,16,17,18,19,20,21] rfl (by kernel_rfl) q.drew ?_
    repeat ((refine bE (v:= ?_) rfl rfl (fun _ _ _ h=>h) rfl (fun W x=> ?_) ?_);rotate_left;(focus ((try dsimp only at x);obtain⟨r0,r1,r2,r3,r4,r5,r6⟩:=HS.out W x;(go_simp;first|done|with_reducible rfl)));(try simp only[Act.put,ak,ay,ax]))
    refine bT rfl rfl rfl ?_;intro K s;go_simp
    refine d9.out.mono ?_;rintro e w5 ⟨v,rfl,af,a⟩
    have M:=q9.out.drew.trans (a.mono q.size)
    refine s.out _ _ M ?_
    have q8:=ah af;have eZ:=ah M;clear af a M
    repeat ((refine bE (v:= ?_) rfl rfl (fun _ _ _ h=>h) rfl (fun W x=> ?_) ?_);rotate_left;(focus ((try dsimp only at x);skip;(go_simp;first|done|with_reducible rfl)));(try simp only[Act.put,ak,ay,ax]))
    refine bN ?_
    go_wp2_with fail
    go_ret2
    rw[<-dn.out]
    exact⟨v,rfl,q8.out.dM,fun g hg=>aI q9.out.size (q8.out.1.lt g hg).1,eZ.out⟩
theorem CK (n:Nat)(l:List UInt8):splice (aF (List.replicate n 0)) 0 (aF l)=aF (l++List.replicate (n - l.length) 0):=by
 simp[splice,aF]
theorem Er (l:List UInt8):splice (aF zB) 0 (aF l)=aF (pad l):=CK 512 l
theorem wH.put {w d:World}{T:Nat->Prop}{t i c n:Nat}{a:Im}(h:wH w T t i c a n)(q:n<=4096)(b:Nat)(x:List UInt8)(f:b<n)(m:x.length=512){D:DataW Unit}(A:w.ownsMap Tryz.prog 3 rI c 5000 D)(r:Maps.size D=a.ks.length)(o:∀l,Maps.has D l=true->∃k:Nat,l=kI k)
  (v:∀k:Nat,Maps.has D (kI k)=decide (k∈a.ks)) (p:∀k:Nat,k∈a.ks->∀z,D.atKey (kI k) z= .lit (.string (a.img k))) (s:d.ownsMap Tryz.prog 3 rI c 5001 (D.put (kI b) (.lit (.string x)))) (j:Keep (· =c) w d):wH d T t i c (a.put b x) n:=
 ⟨h.ok.put b x f m,fun g y=>aA (h.sub g y) j.size,h.st,h.sdb,(j.block _ (h.sub _ h.st) (fun e=>h.img.ne h.obj e)).trans h.obj,kJ.put h.ok q b x f A r o v p s⟩
theorem Keep.r9 {w a:World}{b:Nat}(h:w.grownBy a (some b)):Keep (· =b) w a:=
 (Keep.refl (· =b) w).grown h (fun k e=>by cases e;exact .inr rfl)
theorem Je (t G d:Nat)(q:Dk)(l:Lg)(p:Pg)(op:Value)(Y:Im)(S T:Nat->Prop)(b:Nat)(v:Value)(x:List UInt8)(w:World)(h:iF w S G d q l p op)(B:qR w T t G Y (p.blocks q))(hd:p.dead=false)(hb:b<p.blocks q)(hv:bq w eG 1 v x.length (aF x))(hx:x.length<=512):
  Calls Tryz.prog 118 #[.pointer (some ⟨t,0,none⟩),.int .i64 b,v] w fun e w'=>e= .returned (.int .i64 0)/\qR w' T t G (Y.put b (pad x)) (p.blocks q)/\Step T T w w':=by
 have HU:=ah (Ej t G d q l p op Y S T (p.blocks q) b w h B hd hb)
 have N:p.blocks q<=4096:=by have:=h.ok.2.1.hi;unfold Pg.blocks;omega
 have M:=sV (b:Int) (by omega) (by omega)
 obtain⟨vo,vc,rfl,v1,v2,v3,v4⟩:=bq.form hv
 obtain⟨A,B⟩:=B
 obtain⟨t0,t1,ql⟩:=B.cells
 have qm:¬((512:Int)<(x.length:Int)):=by omega
 have HT:=ah B;have HB:=ah hb;have qc:=ah N
 have Q:Row (w.drew.alloc (.cells (aF zB).toArray 209)) w.heap.size 209 (aF zB):=Row.new w.drew _ _
 have qb:=ah (show (aF zB).length=512 by rw[bC,gG])
 have f:=ah (bC x)
 have a:=(hv.below (w':=w.drew.alloc (.cells (aF zB).toArray 209)) ((aJ _ w).drew.alloc (aC _) _)).first (P:=Tryz.prog) x.length (aC _)
 rw[eY,aL (eO f.out)] at a
 have a:=ah a
 clear h B hd hb N v3 v4
 go_enter Tryz.func118,Tryz.ntmps118
 go_wp2_with (first
  |(go_at_call 92;go_must (refine HU.out.mono ?_;rintro e w1 ⟨rfl,qy⟩;subst w1))
  |((refine bS rfl ?_);intro K V;(refine gZ 209 rfl _ jG ?_);refine V _ _ ?_)
  |((refine bS rfl ?_);intro K V;(refine nA (.tmp 18) (.tmp 19) 154 154 rfl 5 1 1 (.int .u8 0) aU jl w.heap.size 0 209 x.length 512 512 (some ⟨w.heap.size,0,none⟩) _ rfl Q (.slice vo x.length vc) rfl x.length (aF x) rfl ?_ ?_ a.out (fun _=>rfl) ?_ (fO _) ?_);go_must ((focus (exact(dx hx).symm));(focus (rw[f.out,eY]));(focus (rw[f.out,qb.out];omega));intro s k R;refine V _ _ (Stop.of ?_))))
 refine Stop.on ?_
 rw[Er] at k
 have r:Keep eG w s:=(((Keep.refl eG w).drew).alloc _).trans R (fun i hi e=>absurd hi (by rw[e];exact cO _))
 have c:=r.below
 have m:wH s T t G A Y (p.blocks q):=by
  have j:=HT.out
  exact⟨j.ok,fun g hg=>aA (j.sub g hg) c.size,j.st,j.sdb,(c.block _ (j.sub _ j.st)).trans j.obj,j.img.block (c.block _ (j.sub _ j.sdb))⟩
 obtain⟨D,hD,hs,h0,h1,h2⟩:=m.img
 obtain⟨s0,s1,qf⟩:=m.cells
 have z:(pad x).length=512:=oI hx
 have E:=fO (pad x)
 have O:=ah (show (aF (pad x)).length=512 by rw[bC,z])
 have o:=ah (FY (pad x) z)
 obtain⟨C,HC⟩:∃C,Hid (aF (pad x)=C):=⟨_,ah rfl⟩
 rw[HC.out] at k E O o
 have hw:s.drew.rangeAt w.heap.size 0 C:=k.whole
 have qo:s.drew.cell? ⟨t,1,none⟩=some (.map (some A)):=s1
 have H:=ah m;have p9:=ah c;have n:=ah (au hs (au h0 (au h1 h2)))
 have I:=ah hD
 clear m c hs h0 h1 h2 r R k Q hD
 go_wp2_with fail
 refine aP (fun W=>W=s.drew) (fun i=> !([6].contains i)) [0,1,2,3,4,5,6] rfl (by kernel_rfl) rfl ?_
 repeat ((refine bE (v:= ?_) rfl rfl (fun _ _ _ h=>h) rfl (fun W X=> ?_) ?_);rotate_left;(focus ((try dsimp only at X);subst X;(go_simp;first|done|with_reducible rfl)));(try simp only[Act.put,ak,ay,ax]))
 refine bE (v:= .agg C.toArray) rfl rfl (fun _ _ _ h=>h) rfl (fun W X=> ?_) ?_
 ·subst X
  exact jA 209 (.tmp 8) rfl w.heap.size 0 rfl C _ hw IV rfl (jH.trans (congrArg some O.out.symm))
 simp only[Act.put,ak,ay,ax]
 refine jR rfl rfl rfl (by kernel_rfl) ?_;intro K V
 refine mJ _ _ _ 197 rfl 3 209 iy dW rI A 5000 D rfl (VZ I.out) (by simp[maxLen]) _ _ (kI b) rfl rfl (ni b M) (.lit (.string (pad x))) [] o.out ?_
 intro w4 J F
 refine V.out _ _ ?_
 refine bN ?_
 have y:Keep (· =A) s w4:=((Keep.refl (· =A) s).drew).trans (Keep.r9 F) (fun _ _ e=>e)
 have Z:=ah (H.out.put qc.out b (pad x) HB.out z I.out n.out.1 n.out.2.1 n.out.2.2.1 n.out.2.2.2 J y)
 have pV:=ah y
 clear J F y
 go_wp2_with fail
 go_ret
 exact⟨rfl,⟨A,Z.out⟩,(Keep.of_below p9.out T).trans (pV.out.mono (fun _ _ e=>e▸H.out.sdb)) (fun _ _ e=>e),fun _ hg=> .inl hg⟩
end Go.Proofs.YtpmbddooibgnaaaGreatDoor
namespace Go.Proofs.YtpmbddooibgnaaaGreatDoor
open Go.RowKit Go.Shelf
def Rv:Go.Shelf.Ren:=⟨fun x=>match x with|189=>85|125=>146|257=>145|128=>231|129=>232|294=>222|295=>223|296=>224|297=>225|298=>226|299=>227|216=>228|300=>229|301=>230|328=>342|329=>343|330=>344|331=>345|332=>346|215=>347|343=>452|n=>n,fun x=>match x with|28=>39|3=>3|46=>232|0=>0|51=>88|53=>292|4=>4|183=>377|182=>376|131=>189|5=>5|9=>9|218=>490|222=>494|228=>575|229=>58|n=>n,fun n=>n⟩
theorem xQ:Lays.n189 Tryz.prog Rv where
 mixed:=by kernel_rfl
 f125:=Tryz.func146.trans (congrArg some (by kernel_rfl))
 f128:=Tryz.func231.trans (congrArg some (by kernel_rfl))
 f129:=Tryz.func232.trans (congrArg some (by kernel_rfl))
 f189:=Tryz.func85.trans (congrArg some (by kernel_rfl))
 f215:=Tryz.func347.trans (congrArg some (by kernel_rfl))
 f216:=Tryz.func228.trans (congrArg some (by kernel_rfl))
 f257:=Tryz.func145.trans (congrArg some (by kernel_rfl))
 f294:=Tryz.func222.trans (congrArg some (by kernel_rfl))
 f295:=Tryz.func223.trans (congrArg some (by kernel_rfl))
 f296:=Tryz.func224.trans (congrArg some (by kernel_rfl))
 f297:=Tryz.func225.trans (congrArg some (by kernel_rfl))
 f298:=Tryz.func226.trans (congrArg some (by kernel_rfl))
 f299:=Tryz.func227.trans (congrArg some (by kernel_rfl))
 f300:=Tryz.func229.trans (congrArg some (by kernel_rfl))
 f301:=Tryz.func230.trans (congrArg some (by kernel_rfl))
 f328:=Tryz.func342.trans (congrArg some (by kernel_rfl))
 f329:=Tryz.func343.trans (congrArg some (by kernel_rfl))
 f330:=Tryz.func344.trans (congrArg some (by kernel_rfl))
 f331:=Tryz.func345.trans (congrArg some (by kernel_rfl))
 f332:=Tryz.func346.trans (congrArg some (by kernel_rfl))
 f343:=Tryz.func452.trans (congrArg some (by kernel_rfl))
 t0:=gM
 a0:=lS
 z0:=kE
 v0:=iD
 t3:=bV
 a3:=jo
 z3:=iM
 v3:=fH
 t4:=eF
 a4:=kM
 z4:=jB
 v4:=gL
 t5:=dX
 a5:=lQ
 z5:=ku
 v5:=iC
 t9:=bH
 a9:=jO
 z9:=jd
 v9:=fT
 t28:=dR
 a28:=Tryz.isAgg39
 z28:=Tryz.sizeOf39
 v28:=Tryz.zeroValue39
 t46:=iW
 a46:=mO
 z46:=lN
 v46:=jm
 t51:=ow
 a51:=y9
 z51:=wh
 v51:=pF
 t53:=nu
 a53:=NR
 z53:=IW
 v53:=yU
 t131:=Tryz.underlying189
 a131:=Tryz.isAgg189
 z131:=Tryz.sizeOf189
 v131:=Tryz.zeroValue189
 t182:=Tryz.underlying376
 a182:=Tryz.isAgg376
 z182:=Tryz.sizeOf376
 v182:=Tryz.zeroValue376
 t183:=Tryz.underlying377
 a183:=Tryz.isAgg377
 z183:=Tryz.sizeOf377
 v183:=Tryz.zeroValue377
 t218:=Tryz.underlying490
 a218:=Tryz.isAgg490
 z218:=Tryz.sizeOf490
 v218:=Tryz.zeroValue490
 t222:=Tryz.underlying494
 a222:=Tryz.isAgg494
 z222:=Tryz.sizeOf494
 v222:=Tryz.zeroValue494
 t228:=Tryz.underlying575
 a228:=Tryz.isAgg575
 z228:=Tryz.sizeOf575
 v228:=Tryz.zeroValue575
 t229:=Tryz.underlying58
 a229:=Tryz.isAgg58
 z229:=Tryz.sizeOf58
 v229:=Tryz.zeroValue58
def AR:Go.Shelf.Ren:=⟨fun x=>match x with|6=>94|7=>95|8=>153|9=>85|10=>154|11=>234|n=>n,fun x=>match x with|0=>0|3=>209|4=>4|23=>197|24=>39|26=>3|27=>205|28=>206|33=>34|n=>n,fun n=>n⟩
theorem GD:SlLaysZI.n7 Tryz.prog AR where
 mixed:=by kernel_rfl
 f7:=⟨Tryz.f95.name,(by kernel_rfl),Tryz.func95.trans (congrArg some (by kernel_rfl))⟩
 f10:=⟨Tryz.f154.name,(by kernel_rfl),Tryz.func154.trans (congrArg some (by kernel_rfl))⟩
 t0:=gM
 a0:=lS
 z0:=kE
 v0:=iD
 t4:=eF
 a4:=kM
 z4:=jB
 v4:=gL
 t23:=dW
 a23:=Tryz.isAgg197
 z23:=Tryz.sizeOf197
 v23:=Tryz.zeroValue197
 t26:=bV
 a26:=jo
 z26:=iM
 v26:=fH
 t27:=Tryz.underlying205
 a27:=Tryz.isAgg205
 z27:=Tryz.sizeOf205
 v27:=Tryz.zeroValue205
 t28:=Tryz.underlying206
 a28:=Tryz.isAgg206
 z28:=Tryz.sizeOf206
 v28:=Tryz.zeroValue206
 t33:=Tryz.underlying34
 a33:=Tryz.isAgg34
 z33:=Tryz.sizeOf34
 v33:=Tryz.zeroValue34
theorem Jv:SlLaysZI.n6 Tryz.prog AR where
 mixed:=by kernel_rfl
 f6:=⟨Tryz.f94.name,(by kernel_rfl),Tryz.func94.trans (congrArg some (by kernel_rfl))⟩
 f8:=⟨Tryz.f153.name,(by kernel_rfl),Tryz.func153.trans (congrArg some (by kernel_rfl))⟩
 f11:=⟨Tryz.f234.name,(by kernel_rfl),Tryz.func234.trans (congrArg some (by kernel_rfl))⟩
 t0:=gM
 a0:=lS
 z0:=kE
 v0:=iD
 t24:=dR
 a24:=Tryz.isAgg39
 z24:=Tryz.sizeOf39
 v24:=Tryz.zeroValue39
 t26:=bV
 a26:=jo
 z26:=iM
 v26:=fH
 t28:=Tryz.underlying206
 a28:=Tryz.isAgg206
 z28:=Tryz.sizeOf206
 v28:=Tryz.zeroValue206
 i26:=by kernel_rfl
end Go.Proofs.YtpmbddooibgnaaaGreatDoor
namespace Go.Proofs.YtpmbddooibgnaaaGreatDoor
open Go.RowKit Go.Maps Go.Sort Go.Shelf
theorem Bv:∀{a b:List Int},a.Pairwise (· < ·)->b.Pairwise (· < ·)->(∀x,x∈a↔x∈b)->a=b
 |[],[],_,_,_=>rfl
 |[],y::b,_,_,h=>by have:=(h y).2 (aY ..);cases this
 |x::a,[],_,_,h=>by have:=(h x).1 (aY ..);cases this
 |x::a,y::b,l,m,h=>by
  obtain⟨d,g⟩:=fD.1 l
  obtain⟨f,i⟩:=fD.1 m
  have j:x=y:=by
   rcases aW.1 ((h x).1 (aY ..)) with e|e
   ·exact e
   ·rcases aW.1 ((h y).2 (aY ..)) with k|k
    ·exact k.symm
    ·have:=f x e;have:=d y k;omega
  subst j
  rw[Bv g i (fun z=> ?_)]
  constructor
  ·intro c
   rcases aW.1 ((h z).1 (bn _ c)) with e|e
   ·have:=d z c;omega
   ·exact e
  ·intro c
   rcases aW.1 ((h z).2 (bn _ c)) with e|e
   ·have:=f z c;omega
   ·exact e
theorem GA {o:Im}{n:Nat}(M:o.Ok n){D:DataW Unit}(N:∃d,D= .map d/\d.Pairwise (fun p q=>p.1≠q.1)/\∀p∈d,WideAt.IsKeyLit p.1)(I:∀F,Maps.has D F=true->∃k:Nat,F=kI k)(t:∀k:Nat,Maps.has D (kI k)=decide (k∈o.ks))(i:List Int)(f:i.Perm (intKeys D)):
  i.mergeSort (fun x y=>decide (x<=y))=o.ks.map (fun k:Nat=>(k:Int)):=by
 obtain⟨d,rfl,E,A⟩:=N
 have g:∀p∈d,∃k:Nat,p.1=kI k/\k∈o.ks:=fun p f=>by
  have l:Maps.has (.map d) p.1=true:=by
   rw[Maps.has_eq,Wh]
   exact⟨p,f,WideAt.sameKey_self (A p f)⟩
  obtain⟨k,g⟩:=I _ l
  refine⟨k,g,?_⟩
  have:=t k
  rw[<-g,l] at this
  exact bF this.symm
 have r:(intKeys (.map d:DataW Unit)).Nodup:=by
  show (d.map fun p=>Go.intOf p.1).Nodup
  refine Cv.2 (E.imp_of_mem (fun {p q} f G z m=>z ?_))
  obtain⟨a,K,_⟩:=g p f
  obtain⟨b,J,_⟩:=g q G
  rw[K,J] at m ⊢
  exact congrArg kI m
 have C:(i.mergeSort (fun x y=>decide (x<=y))).Pairwise fun a b=>decide (a<=b)=true:=List.pairwise_mergeSort (fun a b c t P=>by simp at*;omega) (fun a b=>by simp;omega) i
 have j:=(qM i (fun x y=>decide (x<=y))).trans f
 have v:(i.mergeSort (fun x y=>decide (x<=y))).Nodup:=j.nodup_iff.2 r
 have s:(i.mergeSort (fun x y=>decide (x<=y))).Pairwise (· < ·):=C.imp₂ (fun a b h O=>by simp at h;omega) v
 refine Bv s (Cv.2 (M.rise.imp (fun h=>by omega))) (fun x=> ?_)
 rw[j.mem_iff,iN]
 constructor
 ·intro H
  obtain⟨p,f,rfl⟩:=iN.1 (show x∈d.map fun p=>Go.intOf p.1 from H)
  obtain⟨k,g,B⟩:=g p f
  exact⟨k,B,by rw[g];rfl⟩
 ·rintro⟨k,B,rfl⟩
  have l:=t k
  rw[gq B,Maps.has_eq,Wh] at l
  obtain⟨p,f,m⟩:=l
  have e:=WideAt.sameKey_eq m
  show (k:Int)∈d.map fun p=>Go.intOf p.1
  exact iN.2 ⟨p,f,by rw[e];rfl⟩
theorem TI (a:Nat)(w:World):Calls Tryz.prog 95 #[.map (some a)] w fun e b=>e= .returned (.func (.func 154) #[] #[.pointer (some ⟨w.heap.size,0,none⟩)])/\b=w.alloc (.cells #[.map (some a)] 197):=
 callsIn_wide.1 (AnyZI.keys_in GD Fence.wide 5 trivial rfl (some a) w)
theorem Ru (m:Nat):AnyZI.SortsIn Tryz.prog AR Fence.wide m:=
 ⟨fun d e a g W f b c=>callsIn_wide.2 (Any.slices_Sort_int xQ d e a g W f b c),
  fun p a W=>callsIn_wide.2 (Any.slices_Sort_int_none xQ p a W)⟩
theorem KQ (b c:Nat)(d:Im)(n:Nat)(w:World)(h:kJ w b d)(j:d.Ok n)(F:n<=4096)(C:w.cell? ⟨c,0,none⟩=some (.map (some b)))(hB:c<w.heap.size):
  Calls Tryz.prog 94 #[.func (.func 154) #[] #[.pointer (some ⟨c,0,none⟩)]] w fun e l=>∃v,e= .returned v/\aV l eG w.heap.size 3 1 v d.ks.length ((d.ks.map fun k:Nat=>(k:Int)).map (.int .i64))/\Below w.heap.size w l:=by
 obtain⟨D,p,m,x,z,E⟩:=h
 have o:=xU _ _ j.rise j.hi
 have f:SeqGives Fence.wide 2 Tryz.prog 154 #[.pointer (some ⟨c,0,none⟩)] encZ (fun i=>i.Perm (intKeys D)) (Maps.size D) w:=
  AnyZI.keys_gives (ρ:=AR) {GD with} Fence.wide _ trivial rfl (by omega) c b 5000 D w hB C p
 have B:=AnyZI.sorted_in Jv Fence.wide 5 trivial trivial trivial trivial rfl (by omega) (Ru _) (enters_of Tryz.func85 (by kernel_rfl) rfl) 154 #[.pointer (some ⟨c,0,none⟩)] trivial (enters_of Tryz.func154 (by kernel_rfl) rfl) _ (Maps.size D) (by rw[m];simp only[maxLen];omega) (by rw[m];omega) w f
 have s:=callsIn_wide.1 B
 refine Calls.mono (show Calls Tryz.prog 94 _ _ _ from s) ?_
 rintro e l ⟨v,i,rfl,y,a,q,t⟩
 have r:=GA j (p.entries iy) x z i y
 have A:i.length=d.ks.length:=by
  have:=congrArg List.length r
  rwa [List.length_mergeSort,jM] at this
 rw[r,A] at a
 exact⟨v,rfl,⟨a,fun g _ h=>h.elim⟩,t⟩
end Go.Proofs.YtpmbddooibgnaaaGreatDoor
namespace Go.Proofs.YtpmbddooibgnaaaGreatDoor
open Go.RowKit
theorem Dk.vP {a:Dk}(h:a.sync.2=0):a.sync.1.waits=[]:=by
 unfold Dk.sync at h ⊢
 split at h
 ·cases h
 ·split at h
  ·cases h
  ·rename_i b c
   rw[if_neg b,if_neg c]
   rfl
theorem Lg.vT {a:Dk}{l:Lg}(h:(l.mark a).2.2=0):(l.mark a).1.waits=[]/\(l.mark a).2.1=l:=by
 unfold Lg.mark at h ⊢
 split at h
 ·rename_i c
  split at h
  ·rename_i b
   rw[if_pos c,if_pos b]
   exact⟨Dk.vP b,rfl⟩
  ·cases h
 ·cases h
theorem Lg.vP {a:Dk}{l:Lg}(h:(l.sync a).2.2=0):(l.sync a).1.waits=[]/\(l.sync a).2.1=l.all/\l.dead=false:=by
 unfold Lg.sync at h ⊢
 split at h
 ·cases h
 ·rename_i b
  split at h
  ·rename_i d
   split at h
   ·rename_i c
    rw[if_neg b,if_pos d,if_pos c]
    have:=Lg.vT c
    exact⟨this.1,this.2,by simpa using b⟩
   ·cases h
  ·cases h
theorem Lg.PE (a:Dk)(l:Lg):(l.mark a).1.n=a.n:=by
 unfold Lg.mark
 split
 ·split<;>rw[Dk.nD,Dk.pV]
 ·rw[Dk.pV]
theorem Lg.nD (a:Dk)(l:Lg):(l.sync a).1.n=a.n:=by
 unfold Lg.sync
 split
 ·rfl
 ·split
  ·split<;>rw[Lg.PE,Dk.nD]
  ·exact Dk.nD a
theorem Lg.Df (a:Dk)(l:Lg):(l.sync a).2.1.frm=l.frm/\(l.sync a).2.1.n=l.n/\(l.sync a).2.1.last=l.last:=by
 unfold Lg.sync
 split
 ·exact⟨rfl,rfl,rfl⟩
 ·split
  ·split
   ·rename_i h
    rw[(Lg.vT h).2]
    exact⟨rfl,rfl,rfl⟩
   ·exact⟨rfl,rfl,rfl⟩
  ·exact⟨rfl,rfl,rfl⟩
theorem Lg.Oz (a:Dk)(l:Lg)(u:Nat):(l.trim a u).1.n=a.n:=by
 unfold Lg.trim
 split
 ·rfl
 ·split
  ·rfl
  ·split<;>exact Lg.PE _ _
theorem Lg.LZ (a:Dk)(l:Lg)(u:Nat):(l.trim a u).2.1.frm=l.frm/\(l.trim a u).2.1.n=l.n:=by
 unfold Lg.trim
 split
 ·exact⟨rfl,rfl⟩
 ·split
  ·exact⟨rfl,rfl⟩
  ·split
   ·rename_i h
    rw[(Lg.vT h).2]
    exact⟨rfl,rfl⟩
   ·exact⟨rfl,rfl⟩
theorem Pg.Ok.turn {p:Pg}{d a:Dk}{l b:Lg}(h:p.Ok d l)(e:a.n=d.n)(f:b.frm=l.frm)(c:b.n=l.n):p.Ok a b:=
 ⟨f.trans h.frm,h.skip.trans c.symm,h.ring.trans c.symm,by rw[c,e];exact h.fit,by rw[e];exact h.fresh⟩
def Three (Sd Sl Sp:Nat->Prop):Nat->Prop:=fun g=>Sd g\/Sl g\/Sp g
theorem wI.pack {w:World}{b c a:Nat->Prop}{j g d f:Nat}{e:Dk}{l:Lg}{p:Pg}{i:Value}(h:wI w b c a j g d f e l p i):iF w (Three b c a) j d e l p i:=⟨b,c,a,g,f,h,fun _=>NK⟩
theorem mg (b d:Nat)(c:Dk)(l:Lg)(p:Pg)(f:Value)(S a:Nat->Prop)(q:Int)(j w:World)(h:iF w a b d c l p f)(m:Step S a j w)(r:q≠0):
  Calls Tryz.prog 101 #[.pointer (some ⟨b,0,none⟩),.int .i64 q] w fun e i=>e= .returned (.int .i64 10)/\∃g,iF i g b d c l p.dies f/\Step S g j i:=
 (MJ b d c l p f a q w h r).mono fun _ _ ⟨n,k,o⟩=>⟨n,a,k,m.trans o⟩
theorem Pg.yB (p:Pg)(b:Nat)(r:List Nat)(a:Dk):p.lay (b::r) a=(if (a.write ((p.skip+b:Nat):Int) (p.fresh.img b)).2=0 then p.lay r (a.write ((p.skip+b:Nat):Int) (p.fresh.img b)).1 else((a.write ((p.skip+b:Nat):Int) (p.fresh.img b)).1,10)):=rfl
theorem wI.anew {w:World}{m j t:Nat->Prop}{b q d C:Nat}{y:Dk}{l:Lg}{p:Pg}{r:Value}(h:wI w m j t b q d C y l p r):
  ∃k,wI ((w.setCell ⟨b,4,none⟩ (.map (some w.heap.size))).alloc (.map #[] 0)) m j k b q d w.heap.size y l {p with fresh:=Im.none} r/\Step (Three m j t) (Three m j k) w ((w.setCell ⟨b,4,none⟩ (.map (some w.heap.size))).alloc (.map #[] 0)):=by
 obtain⟨c,f⟩:∃c,w.setCell ⟨b,4,none⟩ (.map (some w.heap.size))=c:=⟨_,rfl⟩
 have z:Keep (· =b) w c:=by rw[<-f];exact(Keep.refl (· =b) _).setCell (p:=⟨b,4,none⟩) (.inr rfl) _
 have n:c.heap.size=w.heap.size:=by rw[<-f];simp
 have i:Keep (fun _=>False) c (c.alloc (.map #[] 0)):=(Keep.refl (fun _=>False) c).alloc _
 have x:=h.log.keep z (fun g a e=>h.dd b h.Cy (e▸a)) (fun g a e=>h.dl b h.Cy (e▸a))
 have B:=h.sub _ h.Cy
 have v:∀g,m g->g<w.heap.size:=h.log.dk.sub
 have s:∀g,j g->g<w.heap.size:=h.log.lg.sub
 have o:c.heap[b]? =some (.cells #[.pointer (some ⟨d,0,none⟩),.pointer (some ⟨q,0,none⟩),.int .i64 p.skip,.int .i64 p.ring,.map (some w.heap.size),r,.bool p.dead] 199 (0,0)):=by
  rw[<-f,gF _ b 4 _ _ _ h.obj];rfl
 rw[f]
 refine⟨fun g=>t g\/g=w.heap.size,⟨x.keep i (fun _ _ e=>e) (fun _ _ e=>e),⟨h.ok.frm,h.ok.skip,h.ok.ring,h.ok.fit,Im.Ok.none _⟩,fun g a=> ?_,fun g a e=> ?_,fun g a e=> ?_,.inl h.Cy,.inr rfl,?_,?_⟩,?_⟩
 ·have A:w.heap.size+1=(c.alloc (.map #[] 0)).heap.size:=by rw[bD,n]
  rw[<-A]
  rcases a with a|a
  ·have:=h.sub g a;omega
  ·omega
 ·rcases a with a|a
  ·exact h.dd g a e
  ·have:=v g e;omega
 ·rcases a with a|a
  ·exact h.dl g a e
  ·have:=s g e;omega
 ·exact(i.block _ (by omega) id).trans o
 ·rw[<-n];exact kJ.none c
 ·refine⟨(z.mono (fun _ _ e=> .inr (.inr (e▸h.Cy)))).trans i (fun _ _ e=>e.elim),fun g a=> ?_⟩
  rcases a with a|a|a|a
  ·exact .inl (.inl a)
  ·exact .inl (.inr (.inl a))
  ·exact .inl (.inr (.inr a))
  ·exact .inr (eO a.symm)
theorem TJ (J d:Nat)(y:Dk)(l:Lg)(p:Pg)(op:Value)(S:Nat->Prop)(w:World)(h:iF w S J d y l p op)(hcap:y.waits.length<=90000):
  Calls Tryz.prog 99 #[.pointer (some ⟨J,0,none⟩)] w fun e w'=>e= .returned (.int .i64 (p.home y l).2.2.2)/\∃S',iF w' S' J d (p.home y l).1 (p.home y l).2.1 (p.home y l).2.2.1 op/\Step S S' w w':=by
 obtain⟨Sd,Sl,N,lg,fb,h,hS⟩:=h
 obtain⟨c0,c1,c2,_,c4,_,_,Z,_⟩:=h.cells
 have HY:=ah (Tx lg d y l Sd Sl w h.log (by omega))
 obtain⟨o,n,q,V⟩:∃o n q,Hid (l.sync y=(o,n,q)):=⟨_,_,_,ah rfl⟩
 rw[V.out] at HY
 have yE:=ah (show o.n=y.n by have:=Lg.nD y l;rw[V.out] at this;exact this)
 have jv:=ah (show n.frm=l.frm/\n.n=l.n/\n.last=l.last by have:=Lg.Df y l;rw[V.out] at this;exact this)
 have HH:=ah h
 clear h c0 c2 c4
 go_enter Tryz.func99,Tryz.ntmps99
 go_wp2_with (first
  |(go_at_call 104;go_must (refine HY.out.mono ?_;rintro e w1 ⟨rfl,bg,a,vP,mo⟩;refine Stop.of ?_)))
 refine Stop.on ?_
 have hP:=HH.out.turn vP mo (HH.out.ok.turn yE.out jv.out.1 jv.out.2.1)
 have B:=ah hP.1;have kC:=ah (hP.2.eqv hS (fun _=>NK):Step S (Three bg a N) w w1)
 clear hP vP mo
 by_cases G:q=0
 ·subst G
  obtain⟨dM,qO,og⟩:=Lg.vP (show (l.sync y).2.2=0 by rw[V.out])
  rw[V.out] at dM qO
  have HW1:=ah dM;have vk:=ah qO;have zy:=ah og;clear dM qO og
  obtain⟨e0,_,_,_,e4,_,_,hlt1,_⟩:=B.out.cells
  have t:=B.out.ok.fresh
  have hn1:=B.out.log.dk.ok.hi
  have bf:o.n - p.skip<=4096:=by omega
  have o5:=ah (xU _ _ t.rise t.hi)
  have xK:=ah (KQ fb w1.heap.size p.fresh _ (w1.alloc (.cells #[.map (some fb)] 197)) (B.out.fr.block (mU _ _ _ B.out.fr.lt)) t bf (by simp) (by simp))
  have zf:=ah t;have ql:=ah bf;clear t bf hn1
  go_wp2_with (first
   |(go_at_call 95;go_must (refine(TI fb _).mono ?_;rintro e w2 ⟨rfl,hw2⟩;subst w2))
   |(go_at_call 94;go_must (refine xK.out.mono ?_;rintro e w3 ⟨v,rfl,hO,fo⟩;refine Stop.of ?_)))
  refine Stop.on ?_
  have H:Below w1.heap.size w1 w3:=(aG w1 _).trans (fo.mono (by simp))
  have HB13:=ah H
  obtain⟨vo,vc,rfl,_,_,_,_⟩:=bq.form hO.dM
  have ko:aV w3 (Three bg a N) w1.heap.size 3 1 (.slice vo p.fresh.ks.length vc) p.fresh.ks.length ((p.fresh.ks.map fun k:Nat=>(k:Int)).map (.int .i64)):=by
   refine(hO.lower (by simp:w1.heap.size<=_)).other (fun g hg hs=> ?_)
   exact absurd (B.out.pack.sub g hs) (by omega)
  have HO:=ah ko.dM
  have HP3:=ah (B.out.keep (Keep.of_below H eG) (fun _ _ e=>e))
  have y7:=ah (kC.out.trans (Step.of_below H))
  clear H fo hO ko e0 e4 xK
  go_wp2_with fail
  go_loopw [27] (fun i wr=>∃(k:Nat) (c:Nat->Prop) (s:Dk),k<=p.fresh.ks.length/\i= .int .i64 k/\Hid (wI wr c a N J lg d fb s n p op)/\Hid (Step S (Three c a N) w wr)/\Hid (s.waits.length<=k)/\Hid (p.lay p.fresh.ks o=p.lay (p.fresh.ks.drop k) s)/\
   Hid (bq wr (Three c a N) 1 (.slice vo p.fresh.ks.length vc) p.fresh.ks.length ((p.fresh.ks.map fun k:Nat=>(k:Int)).map (.int .i64)))) (fun i _=>p.fresh.ks.length - (intOf i).toNat)
  case atStart=>exact⟨0,bg,o,aR _,rfl,HP3,y7,ah (by rw[HW1.out];exact aC _),ah rfl,HO⟩
  case round=>
   obtain⟨k,c,s,hk,rfl,f,oo,Y,X,dn⟩:=hrel
   obtain⟨e0,e1,e2,_,e4,_,_,sN,eZ⟩:=f.out.cells
   have hkn:k<=4096:=by have:=o5.out;have:=ql.out;omega
   by_cases Z:k<p.fresh.ks.length
   ·have hltI:(k:Int)<(p.fresh.ks.length:Int):=by omega
    obtain⟨b,HB⟩:∃b,Hid (p.fresh.ks[k]=b):=⟨_,ah rfl⟩
    have kD:b∈p.fresh.ks:=by rw[<-HB.out];exact bJ Z
    have hb1:=zf.out.hi b kD
    have zk:=sV (b:Int) (by omega) (by have:=ql.out;omega)
    obtain⟨kb,kq,rfl,hkc⟩:=bq.Cq dn.out rfl k (.int .i64 (b:Int)) (by simp[bB Z,HB.out])
    obtain⟨D,hD,hh,nH⟩:=f.out.fr.look b
    have hz:(zeroValue 209).run Tryz.prog wr= .ok (.agg (aF zB).toArray) wr:=jG wr
    obtain⟨v1,ps1,oO,rf⟩:=hD.lookup iy dW hz vR (ni b zk)
    obtain⟨x,hx,rfl,vM⟩:=uN rf
    have ng:x=p.fresh.img b:=by
     have h1:=(nH kD).symm.trans vM
     injection h1 with h1
     injection h1 with h1
     exact h1.symm
    have zA:=ah ng;have HX:=ah hx
    clear rf vM nH hh hD ng hx
    have nY:Row (wr.alloc (.cells (aF zB).toArray 209)) wr.heap.size 209 (aF zB):=Row.new wr _ _
    have sW:=ah (show (aF zB).length=512 by rw[bC,gG])
    have O:=ah (show (aF x).length=512 by rw[bC,HX.out])
    have qm:=fO x
    have hll:p.fresh.ks.length<=4096:=by have:=o5.out;have:=ql.out;omega
    go_wp2_with (first
     |((refine bS rfl ?_);intro K hK;(refine gZ 209 rfl _ jG ?_);refine hK _ _ ?_)
     |((refine bS rfl ?_);intro K hK;(refine wp_store_row 209 _ _ rfl wr.heap.size 0 209 _ (aF x) rfl rfl nY (jH.trans (congrArg some O.out.symm)) (by rw[sW.out,O.out];omega) qm ?_);intro w4 qy l7;refine hK _ _ (Stop.of ?_)))
    refine Stop.on ?_
    rw[kZ _ _ (sW.out.trans O.out.symm)] at qy
    have d9:Below wr.heap.size wr w4:=(((Keep.refl (fun _=>False) wr).alloc _).trans (l7.mono (M':=fun g=>g=wr.heap.size) (fun _ _ e=>e)) (fun i hi e=>by omega)).below
    have qf:=f.out.keep (Keep.of_below d9 eG) (fun _ _ e=>e)
    have lH:bq w4 c 1 (.slice (some ⟨wr.heap.size,0,none⟩) 512 512) x.length (aF x):=by
     have:=qy.dM (S:=c) (k:=1) (off:=0) 512 512 (by rw[O.out];omega) (fun hs=>absurd (f.out.log.dk.sub _ hs) (cO _)) (aC _) (by simp[maxLen])
     rw[dY,aL (by rw[O.out];omega)] at this
     rw[HX.out];exact this
    have qb:=(aJ w4.heap.size w4).drew
    have hτn:=f.out.log.dk.ok.hi
    have di:=ah qf
    have av:=ah (EQ d s c ((p.skip+b:Nat):Int) (.slice (some ⟨wr.heap.size,0,none⟩) 512 512) x w4.drew (qf.log.dk.below qb) (lH.below qb) (by have:=Y.out;omega))
    have yB:=ah (oo.out.trans (Step.of_below d9))
    have z8:=ah (dn.out.below d9)
    have hsk:p.skip+b<=1000000:=by have:=ql.out;have:=f.out.ok.fit;have:=f.out.ok.skip;omega
    have a1:IntKind.i64.wrap ((p.skip:Int)+(b:Int))=((p.skip+b:Nat):Int):=by rw[aM _ (by omega)];omega
    obtain⟨z,HZ⟩:∃z:Nat,Hid (p.skip+b=z):=⟨_,ah rfl⟩
    rw[HZ.out] at av a1
    obtain⟨f0,_,f2,_,_,_,_,qo,_⟩:=qf.cells
    clear qf lH qy l7 nY qm hz oO e0 e2 e4 eZ
    go_wp2_with fail
    refine aP (fun W=>W.cell? ⟨J,0,none⟩=some (.pointer (some ⟨d,0,none⟩))/\W.cell? ⟨J,2,none⟩=some (.int .i64 p.skip)/\J<W.heap.size) (fun i=> !([11].contains i)) [0,1,2,3,4,5,6,7,8,9,10,11,12] rfl (by kernel_rfl) ⟨f0,f2,qo⟩ ?_
    repeat ((refine bE (v:= ?_) rfl rfl (fun _ _ _ h=>h) rfl (fun W A=> ?_) ?_);rotate_left;(focus ((try dsimp only at A);have r0:=A.1;have r1:=A.2.1;have r2:=A.2.2;(go_simp;first|done|with_reducible rfl)));(try simp only[Act.put,ak,ay,ax]))
    refine bT rfl rfl rfl ?_;intro K hK;go_simp
    obtain⟨j,q,p9⟩:∃j q,Hid (s.write ((z:Nat):Int) x=(j,q)):=⟨_,_,ah rfl⟩
    rw[p9.out] at av
    refine av.out.mono ?_;rintro e w5 ⟨rfl,qC,iO,kz⟩
    have lG:=ah (show j.n=s.n by have:=s.pV ((z:Nat):Int) x;rw[p9.out] at this;exact this)
    have nk:=ah (show j.waits.length<=k+1 by have:=s.zT ((z:Nat):Int) x;rw[p9.out] at this;have h2:=Y.out;have:j.waits.length<=s.waits.length+1:=this;omega)
    have af:=di.out.log.disk iO ((Step.of_below qb).trans kz) lG.out
    have P:=di.out.turn af.1 af.2 (di.out.ok.turn lG.out rfl rfl)
    have nN:=ah P.1;have eH:=ah (yB.out.trans (P.2:Step (Three c a N) (Three qC a N) w4 w5))
    have HO5:=ah (z8.out.step (P.2:Step (Three c a N) (Three qC a N) w4 w5))
    obtain⟨j0,_,j2,_,_,_,_,mD,_⟩:=P.1.cells
    clear af P iO kz qb f0 f2 qo
    refine hK.out _ _ ⟨j0,j2,mD⟩ ?_
    repeat ((refine bE (v:= ?_) rfl rfl (fun _ _ _ h=>h) rfl (fun W A=> ?_) ?_);rotate_left;(focus ((try dsimp only at A);have r0:=A.1;have r1:=A.2.1;have r2:=A.2.2;(go_simp;first|done|with_reducible rfl)));(try simp only[Act.put,ak,ay,ax]))
    refine bN ?_
    have I:p.lay (p.fresh.ks.drop k) s=if q=0 then p.lay (p.fresh.ks.drop (k+1)) j else(j,10):=by
     rw[dB Z,HB.out,p.yB,HZ.out,<-zA.out,p9.out]
    by_cases G:q=0
    ·subst G
     rw[if_pos rfl] at I
     have vY:=ah (X.out.trans I)
     clear I
     go_wp2_with fail
     go_roundw
     case rel=>exact⟨k+1,qC,j,by omega,by go_num,nN,eH,nk,vY,HO5⟩
     case measure=>simp[intOf];omega
    ·rw[if_neg G] at I
     have vT:(q !=0)=true:=by simpa using G
     have HM:=ah (show p.home y l=(j,n,p.dies,10) by
      unfold Pg.home
      rw[V.out]
      dsimp only
      rw[X.out,I]
      simp)
     have F:=ah (mg J d j n p op S _ q w w5 nN.out.pack eH.out G)
     clear I
     go_wp2_with (first
      |(go_at_call 101;go_must (refine F.out.mono ?_;rintro e jb ⟨rfl,R,C,E⟩)))
     go_ret
     rw[HM.out]
     exact⟨rfl,R,C,E⟩
   ·obtain rfl:k=p.fresh.ks.length:=by omega
    rw[iP] at X
    have q9:=ah (show p.lay p.fresh.ks o=(s,0) from X.out)
    have HF:=ah (ER d s c wr f.out.log.dk (by have:=Y.out;omega))
    obtain⟨T,q,HR⟩:∃T q,Hid (s.sync=(T,q)):=⟨_,_,ah rfl⟩
    rw[HR.out] at HF
    have ol:=ah (show T.n=s.n by have:=s.nD;rw[HR.out] at this;exact this)
    have HRW:=ah (show T.waits.length<=s.waits.length by have:=s.Bg;rw[HR.out] at this;exact this)
    clear HO dn
    go_wp2_with (first
     |(go_at_call 151;go_must (refine HF.out.mono ?_;rintro e w6 ⟨rfl,r9,l9⟩;refine Stop.of ?_)))
    refine Stop.on ?_
    have ai:=f.out.log.disk r9 l9 ol.out
    have q8:=f.out.turn ai.1 ai.2 (f.out.ok.turn ol.out rfl rfl)
    have M:=ah q8.1;have mr:=ah (oo.out.trans (q8.2:Step (Three c a N) (Three c a N) wr w6))
    clear ai q8 r9 l9 e0 e1 e2 e4 eZ sN
    by_cases G:q=0
    ·subst G
     obtain⟨f0,f1,_,_,_,_,_,Q,_⟩:=M.out.cells
     have rq:=ah (Oe lg d n a w6.drew (M.out.log.lg.keep (Keep.of_below ((aJ _ w6).drew) eG) (fun _ _ e=>e)))
     have pV:=Wi lg d T n c a w6.drew (M.out.log.below ((aJ _ w6).drew)) (by rw[vk.out];exact zy.out) (by rw[vk.out];rfl) (by have:=HRW.out;have:=Y.out;omega)
     obtain⟨u,HU⟩:∃u,Hid (n.last=u):=⟨_,ah rfl⟩
     rw[HU.out] at rq pV
     obtain⟨φ,m,r,HX⟩:∃φ m r,Hid (n.trim T u=(φ,m,r)):=⟨_,_,_,ah rfl⟩
     have zT:=ah (show φ.n=T.n by have:=Lg.Oz T n u;rw[HX.out] at this;exact this)
     have l5:=ah (show m.frm=n.frm/\m.n=n.n by have:=Lg.LZ T n u;rw[HX.out] at this;exact this)
     rw[HX.out] at pV
     have yL:=ah pV;clear pV
     go_wp2_with fail
     refine aP (fun W=>W.cell? ⟨J,1,none⟩=some (.pointer (some ⟨lg,0,none⟩))/\J<W.heap.size) (fun i=> !([8,9].contains i)) [0,1,2,3,4,5,6,7,8,9,10] rfl (by kernel_rfl) ⟨f1,Q⟩ ?_
     repeat ((refine bE (v:= ?_) rfl rfl (fun _ _ _ h=>h) rfl (fun W A=> ?_) ?_);rotate_left;(focus ((try dsimp only at A);have r1:=A.1;have r2:=A.2;(go_simp;first|done|with_reducible rfl)));(try simp only[Act.put,ak,ay,ax]))
     refine bT rfl rfl rfl ?_;intro K hK;go_simp
     refine rq.out.mono ?_;rintro e w8 ⟨rfl,hw8⟩;subst w8
     refine hK.out _ _ ⟨f1,Q⟩ ?_
     refine bT rfl rfl rfl ?_;intro K hK;go_simp
     refine yL.out.mono ?_;rintro e w9 ⟨rfl,zG,y8,vz,nD⟩
     have qc:=M.out.turn vz ((Two.of_below ((aJ _ w6).drew)).trans nD) (M.out.ok.turn zT.out l5.out.1 l5.out.2)
     have sF:=ah qc.1;have lq:=ah (mr.out.trans (qc.2:Step (Three c a N) (Three zG y8 N) w6 w9))
     obtain⟨j0,j1,j2,j3,j4,j5,j6,l6,tY⟩:=qc.1.cells
     have hf4:=tY 4
     clear qc vz nD f0 f1 Q
     refine hK.out _ _ ⟨j1,l6⟩ ?_
     repeat ((refine bE (v:= ?_) rfl rfl (fun _ _ _ h=>h) rfl (fun W A=> ?_) ?_);rotate_left;(focus ((try dsimp only at A);have r1:=A.1;have r2:=A.2;(go_simp;first|done|with_reducible rfl)));(try simp only[Act.put,ak,ay,ax]))
     refine bN ?_
     by_cases hr:r=0
     ·subst hr
      have HM:=ah (show p.home y l=(φ,m,{p with fresh:=Im.none},0) by
       unfold Pg.home
       rw[V.out]
       dsimp only
       rw[q9.out]
       dsimp only
       rw[HR.out]
       dsimp only
       rw[HU.out,HX.out]
       simp)
      have hmk:∀w:World,(Instr.makeMap 197 none).run Tryz.prog w= .ok (.map (some w.heap.size)) (w.alloc (.map #[] 0)):=fun w=>run_makeMap _ w
      go_wp2_with fail
      go_ret
      rw[HM.out]
      obtain⟨Sp',y5,hTn⟩:=sF.out.anew
      exact⟨rfl,_,y5.pack,lq.out.trans hTn⟩
     ·have hr':(r !=0)=true:=by simpa using hr
      have HM:=ah (show p.home y l=(φ,m,p.dies,10) by
       unfold Pg.home
       rw[V.out]
       dsimp only
       rw[q9.out]
       dsimp only
       rw[HR.out]
       dsimp only
       rw[HU.out,HX.out]
       simp[hr])
      have F:=ah (mg J d φ m p op S _ r w w9 sF.out.pack lq.out hr)
      go_wp2_with (first
       |(go_at_call 101;go_must (refine F.out.mono ?_;rintro e jb ⟨rfl,R,C,E⟩)))
      go_ret
      rw[HM.out]
      exact⟨rfl,R,C,E⟩
    ·have vT:(q !=0)=true:=by simpa using G
     have HM:=ah (show p.home y l=(T,n,p.dies,10) by
      unfold Pg.home
      rw[V.out]
      dsimp only
      rw[q9.out]
      dsimp only
      rw[HR.out]
      simp[G])
     have F:=ah (mg J d T n p op S _ q w w6 M.out.pack mr.out G)
     go_wp2_with (first
      |(go_at_call 101;go_must (refine F.out.mono ?_;rintro e jb ⟨rfl,R,C,E⟩)))
     go_ret
     rw[HM.out]
     exact⟨rfl,R,C,E⟩
 ·have vT:(q !=0)=true:=by simpa using G
  have HE:=ah (show p.home y l=(o,n,p.dies,10) by unfold Pg.home;rw[V.out];simp[G])
  have F:=ah (mg J d o n p op S _ q w w1 B.out.pack kC.out G)
  go_wp2_with (first
   |(go_at_call 101;go_must (refine F.out.mono ?_;rintro e w2 ⟨rfl,S2,hP2,zH⟩)))
  go_ret
  rw[HE.out]
  exact⟨rfl,S2,hP2,zH⟩
theorem TH (I d:Nat)(a:Dk)(l:Lg)(p:Pg)(op:Value)(S:Nat->Prop)(w:World)(h:iF w S I d a l p op)(ql:a.waits.length<=90000):
  Calls Tryz.prog 54 #[.pointer (some ⟨I,0,none⟩)] w fun e w'=>e= .returned (.int .i64 (p.sync a l).2.2.2)/\∃S',iF w' S' I d (p.sync a l).1 (p.sync a l).2.1 (p.sync a l).2.2.1 op/\Step S S' w w':=by
 have qb:=ah h
 obtain⟨V,P,Y,lg,fb,h,hS⟩:=h
 obtain⟨c0,c1,c2,_,c4,_,c6,qm,_⟩:=h.cells
 have T:=ah h
 clear h c2 c4
 cases C:p.dead with
 |true=>
  rw[C] at c6
  have m:=ah (show p.sync a l=(a,l,p,10) by unfold Pg.sync;simp[C])
  go_enter Tryz.func54,Tryz.ntmps54
  go_wp2_with fail
  go_ret
  rw[m.out]
  exact⟨rfl,S,qb.out,Step.refl _ _⟩
 |false=>
  rw[C] at c6
  have j:=(aJ w.heap.size w).drew
  have x:=Rf lg d l P w.drew (T.out.log.lg.keep (Keep.of_below j eG) (fun _ _ e=>e))
  have HL:=ah (Oe lg d l P w.drew (T.out.log.lg.keep (Keep.of_below j eG) (fun _ _ e=>e)))
  have qc:=ah (TU d a V w.drew (T.out.log.dk.below j))
  have k:=ah (T.out.keep (Keep.of_below j eG) (fun _ _ e=>e))
  have H:=ah (show Step S (Three V P Y) w w.drew from(Step.of_below j).eqv (fun _=>NK) (fun g=>(hS g).symm))
  have HY:=ah (Tx lg d a l V P w.drew (T.out.log.below j) (by omega))
  obtain⟨b,t,q,N⟩:∃b t q,Hid (l.sync a=(b,t,q)):=⟨_,_,_,ah rfl⟩
  rw[N.out] at HY
  have R:=ah (show b.n=a.n by have:=Lg.nD a l;rw[N.out] at this;exact this)
  have B:=ah (show t.frm=l.frm/\t.n=l.n/\t.last=l.last by have:=Lg.Df a l;rw[N.out] at this;exact this)
  by_cases he:l.synced=l.last
  ·rw[he] at x
   have E:=ah x;clear x
   have qf:((l.last:Int)==(l.last:Int))=true:=by simp
   go_enter Tryz.func54,Tryz.ntmps54
   go_wp2_with fail
   refine aP (fun W=>W=w.drew) (fun i=> !([4,9,16].contains i)) [0,1,2,3,5,6,7,8,4,9,10,11,12,13,14,15,16,17,18,19] rfl (by kernel_rfl) rfl ?_
   repeat ((refine bE (v:= ?_) rfl rfl (fun _ _ _ h=>h) rfl (fun W c=> ?_) ?_);rotate_left;(focus ((try dsimp only at c);subst c;(go_simp;first|done|with_reducible rfl)));(try simp only[Act.put,ak,ay,ax]))
   refine bT rfl rfl rfl ?_;intro K A;go_simp
   refine E.out.mono ?_;rintro e y ⟨rfl,z⟩;subst y
   refine A.out _ _ rfl ?_
   refine bT rfl rfl rfl ?_;intro K A;go_simp
   refine HL.out.mono ?_;rintro e y ⟨rfl,z⟩;subst y
   refine A.out _ _ rfl ?_
   repeat ((refine bE (v:= ?_) rfl rfl (fun _ _ _ h=>h) rfl (fun W c=> ?_) ?_);rotate_left;(focus ((try dsimp only at c);subst c;(go_simp;first|done|with_reducible rfl)));(try simp only[Act.put,ak,ay,ax]))
   refine bT rfl rfl rfl ?_;intro K A;go_simp
   refine qc.out.mono ?_;rintro e y ⟨rfl,z⟩;subst y
   refine A.out _ _ rfl ?_
   repeat ((refine bE (v:= ?_) rfl rfl (fun _ _ _ h=>h) rfl (fun W c=> ?_) ?_);rotate_left;(focus ((try dsimp only at c);subst c;(go_simp;first|done|with_reducible rfl)));(try simp only[Act.put,ak,ay,ax]))
   refine bN ?_
   cases X:a.dead with
   |false=>
    have m:=ah (show p.sync a l=(a,l,p,0) by unfold Pg.sync;simp[C,he,X])
    go_wp2_with fail
    go_ret
    rw[m.out]
    exact⟨rfl,_,k.out.pack,H.out⟩
   |true=>
    have HC:=ah (show ¬(l.synced=l.last/\a.dead=false) from fun h=>by rw[X] at h;cases h.2)
    go_wp2_with (first
     |(go_at_call 104;go_must (refine HY.out.mono ?_;rintro e Q ⟨rfl,D,M,o,s⟩;refine Stop.of ?_)))
    refine Stop.on ?_
    have f:=k.out.turn o s (k.out.ok.turn R.out B.out.1 B.out.2.1)
    have r:=ah f.1;have n:=ah (H.out.trans (f.2:Step (Three V P Y) (Three D M Y) w.drew Q))
    clear f o s
    by_cases O:q=0
    ·subst O
     have m:=ah (show p.sync a l=(b,t,p,0) by unfold Pg.sync;rw[N.out];simp[C,HC.out])
     go_wp2_with (first
      |(go_at_call 101;go_must (refine(Gc I _).mono ?_;rintro e Z ⟨rfl,p9⟩;subst Z)))
     go_ret
     rw[m.out]
     exact⟨rfl,_,r.out.pack,n.out⟩
    ·have m:=ah (show p.sync a l=(b,t,p.dies,10) by unfold Pg.sync;rw[N.out];simp[C,HC.out,O])
     have J:=ah (mg I d b t p op S _ q w Q r.out.pack n.out O)
     go_wp2_with (first
      |(go_at_call 101;go_must (refine J.out.mono ?_;rintro e Z ⟨rfl,S3,G,F⟩)))
     go_ret
     rw[m.out]
     exact⟨rfl,S3,G,F⟩
  ·have E:=ah x;clear x
   have pV:¬((l.synced:Int)=(l.last:Int)):=by omega
   have qf:((l.synced:Int)==(l.last:Int))=false:=by simpa using pV
   have HC:=ah (show ¬(l.synced=l.last/\a.dead=false) from fun h=>he h.1)
   go_enter Tryz.func54,Tryz.ntmps54
   go_wp2_with fail
   refine aP (fun W=>W=w.drew) (fun i=> !([4,9].contains i)) [0,1,2,3,5,6,7,8,4,9,10,11,12,13,14,15,16,17,18,19] rfl (by kernel_rfl) rfl ?_
   repeat ((refine bE (v:= ?_) rfl rfl (fun _ _ _ h=>h) rfl (fun W c=> ?_) ?_);rotate_left;(focus ((try dsimp only at c);subst c;(go_simp;first|done|with_reducible rfl)));(try simp only[Act.put,ak,ay,ax]))
   refine bT rfl rfl rfl ?_;intro K A;go_simp
   refine E.out.mono ?_;rintro e y ⟨rfl,z⟩;subst y
   refine A.out _ _ rfl ?_
   refine bT rfl rfl rfl ?_;intro K A;go_simp
   refine HL.out.mono ?_;rintro e y ⟨rfl,z⟩;subst y
   refine A.out _ _ rfl ?_
   repeat ((refine bE (v:= ?_) rfl rfl (fun _ _ _ h=>h) rfl (fun W c=> ?_) ?_);rotate_left;(focus ((try dsimp only at c);subst c;(go_simp;first|done|with_reducible rfl)));(try simp only[Act.put,ak,ay,ax]))
   repeat (refine Pd rfl rfl (fun _ _ _ h=>h) rfl ?_)
   repeat ((refine bE (v:= ?_) rfl rfl (fun _ _ _ h=>h) rfl (fun W c=> ?_) ?_);rotate_left;(focus ((try dsimp only at c);subst c;(go_simp;first|done|with_reducible rfl)));(try simp only[Act.put,ak,ay,ax]))
   refine bN ?_
   go_wp2_with (first
    |(go_at_call 104;go_must (refine HY.out.mono ?_;rintro e Q ⟨rfl,D,M,o,s⟩;refine Stop.of ?_)))
   refine Stop.on ?_
   have f:=k.out.turn o s (k.out.ok.turn R.out B.out.1 B.out.2.1)
   have r:=ah f.1;have n:=ah (H.out.trans (f.2:Step (Three V P Y) (Three D M Y) w.drew Q))
   clear f o s
   by_cases O:q=0
   ·subst O
    have m:=ah (show p.sync a l=(b,t,p,0) by unfold Pg.sync;rw[N.out];simp[C,HC.out])
    go_wp2_with (first
     |(go_at_call 101;go_must (refine(Gc I _).mono ?_;rintro e Z ⟨rfl,p9⟩;subst Z)))
    go_ret
    rw[m.out]
    exact⟨rfl,_,r.out.pack,n.out⟩
   ·have m:=ah (show p.sync a l=(b,t,p.dies,10) by unfold Pg.sync;rw[N.out];simp[C,HC.out,O])
    have J:=ah (mg I d b t p op S _ q w Q r.out.pack n.out O)
    go_wp2_with (first
     |(go_at_call 101;go_must (refine J.out.mono ?_;rintro e Z ⟨rfl,S3,G,F⟩)))
    go_ret
    rw[m.out]
    exact⟨rfl,S3,G,F⟩
def strOf (l:List UInt8):ByteArray:=⟨l.toArray⟩
theorem En (a b:List UInt8):strOf a++strOf b=strOf (a++b):=by
 have h:(strOf a++strOf b).data=(strOf (a++b)).data:=by
  rw[ByteArray.data_append]
  simp[strOf]
 exact Q7 h
theorem bq.strOf {w:World}{S:Nat->Prop}{v:Value}{l:List UInt8}(h:bq w S 1 v l.length (aF l)):(convert 154 9 v).run Tryz.prog w= .ok (.string (strOf l)) w:=
 fA.str (S:=S) (Go.Proofs.YtpmbddooibgnaaaGreatDoor.strOf l) h 154 9 5 aU dX bH
theorem qV (x:Nat):IntKind.u8.wrap (x:Int)=(x:Int)%256:=by simp[IntKind.wrap,IntKind.bits,IntKind.signed]
theorem MV (b:Nat):[Value.int .u8 (IntKind.u8.wrap (b:Int)),.int .u8 (IntKind.u8.wrap ((b:Int)/256)),.int .u8 (IntKind.u8.wrap ((b:Int)/65536)),.int .u8 (IntKind.u8.wrap ((b:Int)/16777216))]=aF (leB b 4):=by
 have c:(b:Int)/256=((b/256:Nat):Int):=by omega
 have d:(b:Int)/65536=((b/256/256:Nat):Int):=by omega
 have a:(b:Int)/16777216=((b/256/256/256:Nat):Int):=by omega
 rw[c,d,a,qV,qV,qV,qV]
 simp[leB,aF,zR]
theorem RL (b:Nat)(x:List UInt8)(w:World)(C:b<=1000000)(q:x.length=512):
  Calls Tryz.prog 96 #[.int .i64 b,.agg (aF x).toArray] w fun e D=>e= .returned (.string (strOf (uy b x)))/\Below w.heap.size w D:=by
 have m:=ah (show (aF x).length=512 by rw[bC,q])
 go_enter Tryz.func96,Tryz.ntmps96
 go_wp2_with (first
  |((refine bS rfl ?_);intro K o;(refine A9 209 _ rfl (aF x) rfl ?_);refine o _ _ (Stop.of ?_)))
 refine Stop.on ?_
 obtain⟨a,j⟩:∃a:World,Hid (w.alloc (.cells (aF x).toArray 209)=a):=⟨_,ah rfl⟩
 have r:Row a w.heap.size 209 (aF x):=by rw[<-j.out];exact Row.new w _ _
 have p:Below w.heap.size w a:=by rw[<-j.out];exact((Keep.refl (fun _=>False) w).alloc _).below
 rw[j.out]
 have t:bq a eG 1 (.slice (some ⟨w.heap.size,0,none⟩) 512 512) x.length (aF x):=by
  have:=r.dM (S:=eG) (k:=1) (off:=0) 512 512 (by rw[m.out];omega) id (aC _) (by simp[maxLen])
  rw[dY,aL (by rw[m.out];omega)] at this
  rw[q];exact this
 have A:=ah (fun (W:World) (g:Below a.heap.size a W)=>(t.below g).strOf)
 go_wp2_with fail
 refine aP (fun W=>Below a.heap.size a W) (fun i=> !([11,12].contains i)) [0,1,2,3,4,5,6,7,8,9,10,13,14,11,12,15,16] rfl (by kernel_rfl) ((aJ _ a).drew) ?_
 repeat ((refine bE (v:= ?_) rfl rfl (fun _ _ _ h=>h) rfl (fun W g=> ?_) ?_);rotate_left;(focus ((try dsimp only at g);have B:=A.out W g;(go_simp;first|done|with_reducible rfl)));(try simp only[Act.put,ak,ay,ax]))
 refine bT rfl rfl rfl ?_;intro K o;go_simp
 obtain⟨n,c⟩:∃n:World,Hid ((a.alloc (.cells #[.int .u8 (IntKind.u8.wrap (b:Int)),.int .u8 (IntKind.u8.wrap ((b:Int)/256)),.int .u8 (IntKind.u8.wrap ((b:Int)/65536)),.int .u8 (IntKind.u8.wrap ((b:Int)/16777216))] 5)).drew=n):=⟨_,ah rfl⟩
 have s:Row n a.heap.size 5 (aF (leB b 4)):=by rw[<-c.out,<-MV];exact Row.new a _ _
 have d:Below a.heap.size a n:=by rw[<-c.out];exact((Keep.refl (fun _=>False) a).alloc _).below.drew
 rw[c.out]
 refine o.out _ _ d ?_
 have f:=bI b 4
 have l:bq n eG 1 (.slice (some ⟨a.heap.size,0,none⟩) 4 4) (leB b 4).length (aF (leB b 4)):=by
  have:=s.dM (S:=eG) (k:=1) (off:=0) 4 4 (by rw[bC,f];omega) id (aC _) (by simp[maxLen])
  rw[dY,aL (by rw[bC,f];omega)] at this
  rw[f];exact this
 have z:=l.strOf
 refine bT rfl rfl rfl ?_;intro K o;go_simp
 refine o.out _ _ d ?_
 have y:∀W:World,(Op.stringOp .add (strOf (leB b 4)) (strOf x)).run Tryz.prog W= .ok (.string (strOf (leB b 4)++strOf x)) W:=fun W=>iL W _ _ (by show ((leB b 4).toArray.size:Int)<=_;simp[bI]) (by show (x.toArray.size:Int)<=_;simp[q])
 repeat ((refine bE (v:= ?_) rfl rfl (fun _ _ _ h=>h) rfl (fun W g=> ?_) ?_);rotate_left;(focus ((try dsimp only at g);have B:=A.out W g;(go_simp;first|done|with_reducible rfl)));(try simp only[Act.put,ak,ay,ax]))
 refine bN ?_
 go_wp2_with fail
 go_ret
 exact⟨by rw[En];rfl,p.trans (d.mono p.size)⟩
theorem Im.uX (f:Nat->List UInt8)(b:Nat):∀(a:List Nat) (m:Im),(a.foldl (fun m b=>m.put b (f b)) m).img b=if b∈a then f b else m.img b
 |[],m=>by simp
 |k::r,m=>by
  rw[List.foldl_cons,Im.uX f b r]
  by_cases h:b∈r
  ·simp[h]
  ·by_cases e:b=k
   ·subst e;simp[h,Im.put]
   ·simp[h,e,Im.put]
theorem Im.vY (f:Nat->List UInt8)(b:Nat):∀(a:List Nat) (m:Im),b∈(a.foldl (fun m b=>m.put b (f b)) m).ks↔b∈m.ks\/b∈a
 |[],m=>by simp
 |k::r,m=>by
  rw[List.foldl_cons,Im.vY f b r]
  simp only[Im.put,lF,aW]
  constructor
  ·rintro((h|h)|h)
   ·exact .inr (.inl h)
   ·exact .inl h
   ·exact .inr (.inr h)
  ·rintro(h|h|h)
   ·exact .inl (.inr h)
   ·exact .inl (.inl h)
   ·exact .inr h
theorem Im.zH (f:Nat->List UInt8):∀(a:List Nat) (m:Im),m.ks.Pairwise (· < ·)->(a.foldl (fun m b=>m.put b (f b)) m).ks.Pairwise (· < ·)
 |[],_,h=>h
 |_::r,_,h=>Im.zH f r _ (vX h)
theorem Im.ext' {a b:Im}(c:a.ks=b.ks)(d:∀k,a.img k=b.img k):a=b:=by
 cases a;cases b
 simp only[Im.mk.injEq]
 exact⟨c,funext d⟩
theorem Et {a b:List Nat}(c:a.Pairwise (· < ·))(d:b.Pairwise (· < ·))(h:∀x,x∈a↔x∈b):a=b:=by
 have:=Bv (a:=a.map fun k:Nat=>(k:Int)) (b:=b.map fun k:Nat=>(k:Int)) (Cv.2 (c.imp (fun h=>by omega))) (Cv.2 (d.imp (fun h=>by omega))) (fun x=>by simp[iN,h])
 exact(List.map_inj_right (fun _ _ h=>by omega)).1 this
structure Mix (m im:Im)(left:Lit->Bool)(F:Im):Prop where
 rise:F.ks.Pairwise (· < ·)
 ks:∀b:Nat,b∈F.ks↔b∈m.ks\/(b∈im.ks/\left (kI b)=false)
 img:∀b:Nat,F.img b=if b∈im.ks/\left (kI b)=false then im.img b else m.img b
theorem La (a b:Nat):(kI (a:Int)).sameKey (kI (b:Int))=decide (a=b):=by
 by_cases e:a=b
 ·subst e;simp[WideAt.sameKey_self (zD _)]
 ·rw[bU e]
  cases h:(kI (a:Int)).sameKey (kI (b:Int)) with
  |false=>rfl
  |true=>exact absurd (WideAt.sameKey_eq h) (PY e)
theorem Mix.start {m c:Im}{left:Lit->Bool}(f:m.ks.Pairwise (· < ·))(h:∀b∈c.ks,left (kI b)=true):Mix m c left m:=by
 have d:∀b:Nat,¬(b∈c.ks/\left (kI b)=false):=fun b a=>by rw[h b a.1] at a;cases a.2
 exact⟨f,fun b=>⟨.inl,fun e=>e.elim id (fun e=>absurd e (d b))⟩,fun b=>by rw[if_neg (d b)]⟩
theorem Mix.put {m a F:Im}{left:Lit->Bool}(h:Mix m a left F)(x:Nat)(c:x∈a.ks):Mix m a (fun z=>left z && !z.sameKey (kI x)) (F.put x (a.img x)):=by
 refine⟨vX h.rise,fun b=> ?_,fun b=> ?_⟩
 ·simp only[Im.put,lF,h.ks,La]
  by_cases e:b=x
  ·subst e;simp[c]
  ·simp[e]
 ·simp only[Im.put,La]
  by_cases e:b=x
  ·subst e;simp[c]
  ·simp[e,h.img]
theorem Mix.done {m a F:Im}{left:Lit->Bool}(h:Mix m a left F)(e:m.ks.Pairwise (· < ·))(c:∀d,left d=false):F=m.over a:=by
 refine Im.ext' (Et h.rise (Im.zH _ _ _ e) fun b=> ?_) fun b=> ?_
 ·rw[h.ks]
  unfold Im.over
  rw[Im.vY]
  simp[c]
 ·rw[h.img]
  unfold Im.over
  rw[Im.uX]
  simp[c]
theorem OG (t a d:Nat)(v:Dk)(l:Lg)(p:Pg)(Q:Value)(O:Im)(n:Nat)(S T:Nat->Prop)(u:FrameMode)(w:World)(h:iF w S a d v l p Q)(i:qR w T t a O n)(j:∀g,S g->¬T g):
  CallsD Tryz.prog 93 #[.pointer (some ⟨t,0,none⟩)] u w fun e P C=>P=u/\e= .returned (.tuple #[])/\iF C S a d v l p (.pointer none)/\(∃y,C.heap[t]? =some (.cells #[.pointer none,.map (some y)] 201 (0,0)))/\Keep (fun g=>S g\/T g) w C:=by
 have f:=h.Cy
 obtain⟨K,G,M,I,N,h,H⟩:=h
 obtain⟨y,i⟩:=i
 obtain⟨_,_,_,_,_,Y,c6,W,x⟩:=h.cells
 have X:=x 5
 have k:=i.obj
 have Z:w.cell? ⟨t,0,none⟩=some (.pointer (some ⟨a,0,none⟩)):=by simp[World.cell?,k]
 have V:w.frozen? ⟨t,0,none⟩=false:=by simp[World.frozen?,k]
 have A:=i.sub _ i.st
 have F:a≠t:=fun e=>j a f (e▸i.st)
 have E:¬t=a:=fun e=>F e.symm
 have B:=ah h;have J:=ah i
 clear h i
 go_enter_d Tryz.func93,Tryz.ntmps93
 go_wp2_with fail
 go_end0
 obtain⟨s,c⟩:∃s:World,Hid ((w.setCell ⟨a,5,none⟩ (.pointer none)).setCell ⟨t,0,none⟩ (.pointer none)=s):=⟨_,ah rfl⟩
 obtain⟨o,b⟩:∃o:World,Hid (w.setCell ⟨a,5,none⟩ (.pointer none)=o):=⟨_,ah rfl⟩
 have m:Keep (· =a) w o:=by rw[<-b.out];exact(Keep.refl (· =a) _).setCell (p:=⟨a,5,none⟩) (.inr rfl) _
 have D:wI o K G M a I d N v l p (.pointer none):=B.out.self m B.out.ok rfl (by rw[<-b.out,gF _ a 5 _ _ _ B.out.obj];rfl)
 rw[b.out] at c
 have r:Keep (· =t) o s:=by rw[<-c.out];exact(Keep.refl (· =t) _).setCell (p:=⟨t,0,none⟩) (.inr rfl) _
 have q:=(m.block t A E).trans k
 have z:=D.keep r (fun g R e=>j g ((H g).2 R) (e▸J.out.st))
 rw[b.out,c.out]
 refine⟨rfl,⟨K,G,M,I,N,z,H⟩,⟨y,?_⟩,(m.mono (fun _ _ e=> .inl (e▸f))).trans r (fun _ _ e=> .inr (e▸J.out.st))⟩
 rw[<-c.out,gF _ t 0 _ _ _ q]
 rfl
end Go.Proofs.YtpmbddooibgnaaaGreatDoor
