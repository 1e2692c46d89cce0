--
import Derived.Test.YtogbkgmlhhahdaaGreatT10
import Derived.Maps.OwnSet
import Derived.Shelf.Sort.Plain
import Derived.Shelf.Slices.In.SortNone
import Derived.Shelf.SlIterI.Sorted
import Derived.Shelf.SlIterI.Keys
import Derived.Maps.RangeWalk
import Derived.Defers
set_option maxRecDepth 100000
set_option maxHeartbeats 0
set_option linter.all false
namespace Go.Proofs.YtogbkgmlhhahdaaGreat
open Go.RowKit
variable{D:DataW Unit}{l:Lg}{a b d j n t:Nat}{M S T c m o:Nat->Prop}{v:Value}{w w':World}
structure Im where
 ks:List Nat
 img:Nat->List UInt8
def AR (b:Nat):List Nat->List Nat
 |[]=>[b]
 |k::r=>if b<k then b::k::r else if b=k then k::r else k::AR b r
def mJ {b x:Nat}:∀{l:List Nat},x∈AR b l↔x=b\/x∈l
 |[]=>by simp[AR]
 |k::r=>by
  unfold AR
  split
  ·simp
  ·split
   ·rename_i h;subst h;simp
   ·rw[bO,mJ (l:=r),bO]
    constructor
    ·rintro(h|h|h)
     ·exact .inr (.inl h)
     ·exact .inl h
     ·exact .inr (.inr h)
    ·rintro(h|h|h)
     ·exact .inr (.inl h)
     ·exact .inl h
     ·exact .inr (.inr h)
def xU {b:Nat}:∀{l:List Nat},l.Pairwise (· < ·)->(AR b l).Pairwise (· < ·)
 |[],_=>by simp[AR]
 |k::r,h=>by
  obtain⟨c,e⟩:=fU.1 h
  unfold AR
  split
  ·rename_i d
   refine fU.2 ⟨fun x a=> ?_,h⟩
   rcases bO.1 a with rfl|a
   ·exact d
   ·exact nX d (c x a)
  ·split
   ·exact h
   ·refine fU.2 ⟨fun x a=> ?_,xU e⟩
    rcases mJ.1 a with rfl|a
    ·omega
    ·exact c x a
def Im.none:Im:=⟨[],fun _=>[]⟩
def Im.put (m:Im)(b:Nat)(x:List UInt8):Im:=⟨AR b m.ks,fun k=>if k=b then x else m.img k⟩
def Im.find (m:Im)(b:Nat):Option (List UInt8):=if b∈m.ks then some (m.img b) else Option.none
def Im.DT (m:Im)(b c:Nat)(x:List UInt8):(m.put b x).find c=if c=b then some x else m.find c:=by
 unfold Im.find Im.put;simp only[mJ]
 by_cases h:c=b
 ·subst h;simp
 ·simp[h]
structure Pg where
 skip:Nat
 ring:Nat
 fresh:Im
 dead:Bool
def Pg.blocks (p:Pg)(d:Dk):Nat:=d.n - p.skip
def Pg.look (p:Pg)(dirty:Im)(d:Dk)(b:Nat):List UInt8:=(dirty.find b).getD ((p.fresh.find b).getD (d.get (p.skip+b)))
def Pg.lay (p:Pg):List Nat->Dk->Dk×Int
 |[],d=>(d,0)
 |b::r,d=>
  if (d.write ((p.skip+b:Nat):Int) (p.fresh.img b)).2=0 then p.lay r (d.write ((p.skip+b:Nat):Int) (p.fresh.img b)).1
  else((d.write ((p.skip+b:Nat):Int) (p.fresh.img b)).1,10)
def Pg.dies (p:Pg):Pg:={p with dead:=true}
def Pg.home (d:Dk)(l:Lg)(p:Pg):Dk×Lg×Pg×Int:=
 if (l.sync d).2.2=0 then
  if (p.lay p.fresh.ks (l.sync d).1).2=0 then
   if (p.lay p.fresh.ks (l.sync d).1).1.sync.2=0 then
    if ((l.sync d).2.1.trim (p.lay p.fresh.ks (l.sync d).1).1.sync.1 (l.sync d).2.1.last).2.2=0 then
     (((l.sync d).2.1.trim (p.lay p.fresh.ks (l.sync d).1).1.sync.1 (l.sync d).2.1.last).1,((l.sync d).2.1.trim (p.lay p.fresh.ks (l.sync d).1).1.sync.1 (l.sync d).2.1.last).2.1,{p with fresh:=Im.none},0)
    else(((l.sync d).2.1.trim (p.lay p.fresh.ks (l.sync d).1).1.sync.1 (l.sync d).2.1.last).1,((l.sync d).2.1.trim (p.lay p.fresh.ks (l.sync d).1).1.sync.1 (l.sync d).2.1.last).2.1,p.dies,10)
   else((p.lay p.fresh.ks (l.sync d).1).1.sync.1,(l.sync d).2.1,p.dies,10)
  else((p.lay p.fresh.ks (l.sync d).1).1,(l.sync d).2.1,p.dies,10)
 else((l.sync d).1,(l.sync d).2.1,p.dies,10)
def vK (b:Nat)(x:List UInt8):List UInt8:=leB b 4++x
def Im.bH (m:Im):List (List UInt8):=m.ks.map fun b=>vK b (m.img b)
def Im.over (m dirty:Im):Im:=dirty.ks.foldl (fun m b=>m.put b (dirty.img b)) m
def Pg.ready (d:Dk)(l:Lg)(p:Pg)(need:Nat):Dk×Lg×Pg×Int:=if l.room<need then p.home d l else(d,l,p,0)
def Pg.commit (d:Dk)(l:Lg)(p:Pg)(dirty:Im):Dk×Lg×Pg×Nat×Int:=
 if p.dead then(d,l,p,0,10) else
 if dirty.ks=[] then(d,l,p,l.last,0) else
 if p.ring<dS dirty.bH\/1024<dirty.ks.length then(d,l,p,0,13) else
 if (p.ready d l (dS dirty.bH)).2.2.2=0 then
  if ((p.ready d l (dS dirty.bH)).2.1.append (p.ready d l (dS dirty.bH)).1 dirty.bH).2.2.2=0 then
   (((p.ready d l (dS dirty.bH)).2.1.append (p.ready d l (dS dirty.bH)).1 dirty.bH).1,((p.ready d l (dS dirty.bH)).2.1.append (p.ready d l (dS dirty.bH)).1 dirty.bH).2.1,{(p.ready d l (dS dirty.bH)).2.2.1 with fresh:=(p.ready d l (dS dirty.bH)).2.2.1.fresh.over dirty},((p.ready d l (dS dirty.bH)).2.1.append (p.ready d l (dS dirty.bH)).1 dirty.bH).2.2.1,0)
  else(((p.ready d l (dS dirty.bH)).2.1.append (p.ready d l (dS dirty.bH)).1 dirty.bH).1,((p.ready d l (dS dirty.bH)).2.1.append (p.ready d l (dS dirty.bH)).1 dirty.bH).2.1,(p.ready d l (dS dirty.bH)).2.2.1.dies,0,10)
 else((p.ready d l (dS dirty.bH)).1,(p.ready d l (dS dirty.bH)).2.1,(p.ready d l (dS dirty.bH)).2.2.1,0,(p.ready d l (dS dirty.bH)).2.2.2)
def Pg.sync (d:Dk)(l:Lg)(p:Pg):Dk×Lg×Pg×Int:=
 if p.dead then(d,l,p,10) else
 if l.synced=l.last/\d.dead=false then(d,l,p,0) else
 if (l.sync d).2.2=0 then((l.sync d).1,(l.sync d).2.1,p,0) else((l.sync d).1,(l.sync d).2.1,p.dies,10)
abbrev kI (b:Int):Lit:= .int .i64 b
def tight {k:TypeId}{R:Value->Option (DataW Unit×List MemPlace)}{m:Nat}(h:w.ownsMap Tryz.prog k R b n D)(c:Maps.size D<=m):w.ownsMap Tryz.prog k R b m D:=by
 obtain⟨d,a,e,F,f,rfl⟩:=h;refine⟨d,a,e,F,?_,rfl⟩;rw[Maps.size_eq,length_sorted] at c;simpa using c
def jD:Maps.Keyed Tryz.prog 3:=Maps.int_keyed jG
def oD (b:Int)(a:(Lit.int .i64 b).wf=true):keyOf Tryz.prog 3 (.int .i64 b)=some (kI b):=by
 exact Maps.keyOf_int_mk jG a
def AQ (b:Int):WideAt.IsKeyLit (kI b):=trivial
def uG (b:Int)(c: -1000000<=b)(a:b<=1000000):(Lit.int .i64 b).wf=true:=by
 simp only[Lit.wf,dG,eB];constructor
 ·exact og (by decide) c
 ·exact og a (by decide)
def nV {P:Program}{o:Oper}{a:Act}{K:Act->World->Prop}{Q:Exit->Act->World->Prop}(m x v:Operand)(t:TypeId)(q:o.op=Op.mapUpdate t m x v)
  (k e:TypeId) (H:Maps.Keyed P k) (y:P.underlying t=some (.map k e)) (R:Value->Option (DataW Unit×List MemPlace)) (b n:Nat) (D:DataW Unit)
  (F:a.eval m= .map (some b)) (c:w.ownsMap P k R b n D) (C:n<maxLen) (j g:Value) (r:Lit) (B:a.eval x=j) (G:a.eval v=g) (f:keyOf P k j=some r)
  (d:DataW Unit) (z:List MemPlace) (i:R g=some (d,z))
  (A:∀p,p.ownsMap P k R b (n+1) (D.put r d)->w.grownBy p (some b)->K (a.put o.dst undef) p):o.wp P a w K Q:=by
 obtain⟨p,l,s,E⟩:=c.update H y C f i;unfold Oper.wp;simp[execOp,q,F,B,G,l,Result.andThen];exact A _ s E
def Eh {a b:List UInt8}(h:aI a=aI b):a=b:=by
 induction a generalizing b with
 |nil=>cases b with
  |nil=>rfl
  |cons x b=>cases h
 |cons x a ih=>
  cases b with
  |nil=>cases h
  |cons y b=>
   simp only[aI,dK,nW] at h;obtain⟨d,c⟩:=h;have e:x=y:=by
    simp only[Value.int.injEq,true_and] at d;exact Ko.1 (by omega)
   rw[e,ih c]
open Classical in
noncomputable def rI (v:Value):Option (DataW Unit×List MemPlace):=
 if h:∃l:List UInt8,l.length=512/\v= .agg (aI l).toArray then some (.lit (.string h.choose),[]) else none
def IL (l:List UInt8)(b:l.length=512):rI (.agg (aI l).toArray)=some (.lit (.string l),[]):=by
 have h:∃a:List UInt8,a.length=512/\Value.agg (aI l).toArray= .agg (aI a).toArray:=⟨l,b,rfl⟩
 unfold rI;rw[dif_pos h];have c:=Eh (show aI l=aI h.choose from congrArg Array.toList (Value.agg.inj h.choose_spec.2));exact congrArg (fun l=>some (DataW.lit (Lit.string l),([]:List MemPlace))) c.symm
def vV {d:DataW Unit}{b:List MemPlace}(h:rI v=some (d,b)):∃l:List UInt8,l.length=512/\v= .agg (aI l).toArray/\d= .lit (.string l):=by
 unfold rI at h
 split at h
 ·rename_i a
  simp only[UA,om] at h;exact⟨a.choose,a.choose_spec.1,a.choose_spec.2,h.1.symm⟩
 ·cases h
def kQ (w:World):(zeroValue 143).run Tryz.prog w= .ok (.agg (aI zB).toArray) w:=by kernel_rfl
def kS:(Tryz.prog.info? 143).map (fun i=>i.size)=some 512:=by kernel_rfl
def lN (w:World)(b:Nat)(im:Im):Prop:=
 ∃D,w.ownsMap Tryz.prog 3 rI b 5000 D/\Maps.size D=im.ks.length/\(∀kl,Maps.has D kl=true->∃k:Nat,kl=kI k)/\(∀k:Nat,Maps.has D (kI k)=decide (k∈im.ks))/\∀k:Nat,k∈im.ks->∀z,D.atKey (kI k) z= .lit (.string (im.img k))
structure Im.Ok (im:Im)(n:Nat):Prop where
 rise:im.ks.Pairwise (· < ·)
 hi:∀k∈im.ks,k<n
 img:∀k∈im.ks,(im.img k).length=512
def Im.Ok.none (n:Nat):Im.none.Ok n:=⟨vI,(fun _ h=>by cases h),(fun _ h=>by cases h)⟩
def IG:∀(l:List Nat) (a n:Nat),a<=n->l.Pairwise (· < ·)->(∀k∈l,a<=k/\k<n)->l.length<=n - a
 |[],_,_,_,_,_=>aS _
 |k::r,a,n,_,h,b=>by
  obtain⟨f,e⟩:=fU.1 h
  have d:=b k (bf ..)
  have:=IG r (k+1) n d.2 e (fun x c=>⟨f x c,(b x (aX _ c)).2⟩)
  rw[bn]
  omega
def zC (l:List Nat)(n:Nat)(h:l.Pairwise (· < ·))(b:∀k∈l,k<n):l.length<=n:=IG l 0 n (aS _) h (fun k a=>⟨aS _,b k a⟩)
def Im.Ok.put {c:Im}(h:c.Ok n)(b:Nat)(x:List UInt8)(e:b<n)(f:x.length=512):(c.put b x).Ok n:=by
 refine⟨xU h.rise,fun k a=> ?_,fun k a=> ?_⟩
 ·rcases mJ.1 a with rfl|a
  ·exact e
  ·exact h.hi k a
 ·show (if k=b then x else c.img k).length=512
  split
  ·exact f
  ·rename_i d
   exact h.img k ((mJ.1 a).resolve_left d)
def Bz {b:Nat}:∀{l:List Nat},l.Pairwise (· < ·)->(AR b l).length=if b∈l then l.length else l.length+1
 |[],_=>by simp[AR]
 |k::r,h=>by
  obtain⟨g,f⟩:=fU.1 h
  unfold AR
  split
  ·rename_i c
   rw[if_neg (by
    intro a
    rcases bO.1 a with rfl|a
    ·exact dB _ c
    ·have:=g b a;omega)]
   rfl
  ·split
   ·rename_i _ c
    subst c
    rw[if_pos (bf ..)]
   ·rename_i i d
    rw[bn,Bz f,bn]
    by_cases a:b∈r
    ·rw[if_pos a,if_pos (aX _ a)]
    ·rw[if_neg a,if_neg (by
      intro h
      rcases bO.1 h with e|h
      ·exact d e
      ·exact a h)]
def lN.none (w:World):lN (w.alloc (.map #[] 0)) w.heap.size Im.none:=
 ⟨.map [],(World.ownsMap_made w _ _ _).mono (aS _),rfl,(fun a h=>by simp[Maps.has_eq] at h),(fun k=>by simp[Maps.has_eq,Im.none]),(fun k h=>by cases h)⟩
def lN.lt {a:Im}(h:lN w b a):b<w.heap.size:=by obtain⟨D,c,_⟩:=h;exact c.lt
def lN.block {c:Im}(h:lN w b c)(g:w'.heap[b]? =w.heap[b]?):lN w' b c:=by
 obtain⟨D,⟨f,d,a,r⟩,e⟩:=h;exact⟨D,⟨f,d,g.trans a,r⟩,e⟩
def lN.ne {d:Im}(h:lN w b d){g:Nat}{f:Array Value}{t:TypeId}{i:Nat×Nat}(c:w.heap[g]? =some (.cells f t i)):g≠b:=fun e=>by
 obtain⟨D,⟨k,j,a,_⟩,_⟩:=h
 rw[e,a] at c;cases c
def Rc (h:a≠b):kI (a:Int)≠kI (b:Int):=fun e=>h (by injection e;omega)
def lN.put {l:World}{a:Im}(c:a.Ok n)(C:n<=4096)(k:Nat)(x:List UInt8)(B:k<n)(t:w.ownsMap Tryz.prog 3 rI b 5000 D)(q:Maps.size D=a.ks.length)(s:∀d,Maps.has D d=true->∃k:Nat,d=kI k)
  (m:∀k:Nat,Maps.has D (kI k)=decide (k∈a.ks)) (r:∀k:Nat,k∈a.ks->∀z,D.atKey (kI k) z= .lit (.string (a.img k))) (v:l.ownsMap Tryz.prog 3 rI b 5001 (D.put (kI k) (.lit (.string x)))):lN l b (a.put k x):=by
 have f:=t.tidy jD;have o:=zC _ _ c.rise c.hi;have g:Maps.size (D.put (kI k) (.lit (.string x)))=(a.put k x).ks.length:=by
  rw[Maps.size_put f,m,show (a.put k x).ks=AR k a.ks from rfl,Bz c.rise,q]
  by_cases y:k∈a.ks<;>simp[y]
 have i:Maps.size (D.put (kI k) (.lit (.string x)))<=5000:=by
  rw[Maps.size_put f,q]
  split<;>omega
 refine⟨_,tight v i,g,fun d p=> ?_,fun j=> ?_,fun j A z=> ?_⟩
 ·by_cases e:d=kI k
  ·exact⟨k,e⟩
  ·rw[Maps.has_put_other e] at p
   exact s d p
 ·by_cases e:j=k
  ·subst e
   rw[Maps.has_put_same f.isMap (AQ _)];simp[Im.put,mJ]
  ·rw[Maps.has_put_other (Rc e),m]
   simp[Im.put,mJ,e]
 ·by_cases e:j=k
  ·subst e
   rw[Maps.atKey_put_same f.isMap (AQ _)];simp[Im.put]
  ·rw[Maps.atKey_put_other (Rc e),r j ((mJ.1 A).resolve_left e)]
   simp[Im.put,e]
structure Pg.Ok (p:Pg)(σ:Dk)(l:Lg):Prop where
 frm:l.frm=0
 skip:p.skip=l.n
 ring:p.ring+1=l.n
 fit:l.n<σ.n
 fresh:p.fresh.Ok (σ.n - p.skip)
structure yh (w:World)(Sd Sl Sp:Nat->Prop)(pg lg d fb:Nat)(σ:Dk)(l:Lg)(p:Pg)(op:Value):Prop where
 log:jg w Sd Sl lg d σ l
 ok:p.Ok σ l
 sub:∀g,Sp g->g<w.heap.size
 dd:∀g,Sp g->¬Sd g
 dl:∀g,Sp g->¬Sl g
 BS:Sp pg
 sfb:Sp fb
 obj:w.heap[pg]? =some (.cells #[.pointer (some ⟨d,0,none⟩),.pointer (some ⟨lg,0,none⟩),.int .i64 p.skip,.int .i64 p.ring,.map (some fb),op,.bool p.dead] 141 (0,0))
 fr:lN w fb p.fresh
def ji (w:World)(S:Nat->Prop)(pg d:Nat)(σ:Dk)(l:Lg)(p:Pg)(op:Value):Prop:=
 ∃Sd Sl Sp lg fb,yh w Sd Sl Sp pg lg d fb σ l p op/\∀g,S g↔Sd g\/Sl g\/Sp g
def yh.keep {i f e:Nat->Prop}{k m:Nat}{n:Dk}{p:Pg}{o:Value}(h:yh w i f e k j d m n l p o)(c:Keep M w w')(b:∀g,i g\/f g\/e g->¬M g):yh w' i f e k j d m n l p o:=
 ⟨h.log.keep c (fun g a=>b g (.inl a)) (fun g a=>b g (.inr (.inl a))),h.ok,fun g a=>ax (h.sub g a) c.size,h.dd,h.dl,h.BS,h.sfb,(c.block _ (h.sub _ h.BS) (b _ (.inr (.inr h.BS)))).trans h.obj,h.fr.block (c.block _ (h.sub _ h.sfb) (b _ (.inr (.inr h.sfb))))⟩
def ji.keep {b:Dk}{p:Pg}{c:Value}(h:ji w S a d b l p c)(m:Keep M w w')(i:∀g,S g->¬M g):ji w' S a d b l p c:=by
 obtain⟨o,n,f,k,q,h,e⟩:=h;exact⟨o,n,f,k,q,h.keep m (fun g j=>i g ((e g).2 j)),e⟩
def ji.below {c:Dk}{p:Pg}{a:Value}(h:ji w S b d c l p a)(f:Below w.heap.size w w'):ji w' S b d c l p a:=h.keep (Keep.of_below f gB) (fun _ _ e=>e)
def ji.sub {c:Nat}{f:Dk}{p:Pg}{b:Value}(h:ji w S c d f l p b):∀g,S g->g<w.heap.size:=by
 obtain⟨k,j,i,n,m,h,e⟩:=h;intro g a;rcases (e g).1 a with a|a|a
 ·exact h.log.dk.sub g a
 ·exact h.log.lg.sub g a
 ·exact h.sub g a
def ji.BS {e:Dk}{p:Pg}{b:Value}(h:ji w S a d e l p b):S a:=by
 obtain⟨i,g,f,k,j,h,c⟩:=h;exact(c a).2 (.inr (.inr h.BS))
def ji.ok {c:Nat}{a:Dk}{p:Pg}{b:Value}(h:ji w S c d a l p b):p.Ok a l/\a.Ok/\l.Ok:=by
 obtain⟨i,f,e,k,j,h,g⟩:=h;exact⟨h.ok,h.log.dk.ok,h.log.lg.ok⟩
def yh.cells {k g:Nat->Prop}{f e:Nat}{n:Dk}{p:Pg}{c:Value}(h:yh w m k g a f d e n l p c):
  w.cell? ⟨a,0,none⟩=some (.pointer (some ⟨d,0,none⟩))/\w.cell? ⟨a,1,none⟩=some (.pointer (some ⟨f,0,none⟩))/\w.cell? ⟨a,2,none⟩=some (.int .i64 p.skip)/\w.cell? ⟨a,3,none⟩=some (.int .i64 p.ring)/\w.cell? ⟨a,4,none⟩=some (.map (some e))/\
  w.cell? ⟨a,5,none⟩=some c/\w.cell? ⟨a,6,none⟩=some (.bool p.dead)/\a<w.heap.size/\∀j,w.frozen? ⟨a,j,none⟩=false:=by
 have b:=h.obj;refine⟨?_,?_,?_,?_,?_,?_,?_,(ai.1 b).1,?_⟩
 all_goals first
  |(simp[World.cell?,b];done)
  |(intro i;simp[World.frozen?,b])
def yh.turn {n:World}{q b:Nat->Prop}{r v:Nat}{B k:Dk}{s:Lg}{p:Pg}{y:Value}(h:yh w q o m t r d v B l p y)(z:jg n b c r d k s)(j:Two q o b c w n)(A:p.Ok k s):
  yh n b c m t r d v k s p y/\Step (fun g=>q g\/o g\/m g) (fun g=>b g\/c g\/m g) w n:=by
 have i:∀g,m g->¬(q g\/o g):=fun g a e=>e.elim (h.dd g a) (h.dl g a)
 have f:∀g,m g->¬(b g\/c g):=fun g a e=>(j.2 g e).elim (i g a) (fun x=>absurd (h.sub g a) (bg.2 x))
 refine⟨⟨z,A,fun g a=>ax (h.sub g a) j.1.size,fun g a e=>f g a (.inl e),fun g a e=>f g a (.inr e),h.BS,h.sfb,(j.1.block _ (h.sub _ h.BS) (i _ h.BS)).trans h.obj,h.fr.block (j.1.block _ (h.sub _ h.sfb) (i _ h.sfb))⟩,?_⟩;refine⟨j.1.mono (fun _ _ e=>e.elim .inl (fun e=> .inr (.inl e))),fun g a=> ?_⟩;rcases a with a|a|a
 ·exact(j.2 g (.inl a)).elim (fun e=> .inl (e.elim .inl (fun e=> .inr (.inl e)))) .inr
 ·exact(j.2 g (.inr a)).elim (fun e=> .inl (e.elim .inl (fun e=> .inr (.inl e)))) .inr
 ·exact .inl (.inr (.inr a))
def yh.self {i:World}{r q:Nat->Prop}{m:Nat}{n:Dk}{p b:Pg}{x f:Value}(h:yh w r q o a j d m n l p x)(k:Keep (· =a) w i)(v:b.Ok n l)(t:b.fresh=p.fresh)
  (s:i.heap[a]? =some (.cells #[.pointer (some ⟨d,0,none⟩),.pointer (some ⟨j,0,none⟩),.int .i64 b.skip,.int .i64 b.ring,.map (some m),f,.bool b.dead] 141 (0,0))):yh i r q o a j d m n l b f:=
 ⟨h.log.keep k (fun g c e=>h.dd a h.BS (e▸c)) (fun g c e=>h.dl a h.BS (e▸c)),v,fun g c=>ax (h.sub g c) k.size,h.dd,h.dl,h.BS,h.sfb,s,by rw[t];exact h.fr.block (k.block _ (h.sub _ h.sfb) (fun e=>h.fr.ne h.obj e.symm))⟩
theorem zJ (c d:Nat)(b:Dk)(l:Lg)(p:Pg)(z:Value)(S:Nat->Prop)(w:World)(h:ji w S c d b l p z):
  Calls Tryz.prog 42 #[.pointer (some ⟨c,0,none⟩)] w fun e m=>e= .returned (.int .i64 (p.blocks b))/\m=w.drew:=by
 obtain⟨v,C,A,B,D,h,F⟩:=h;obtain⟨f,_,g,_,_,_,_,k,_⟩:=h.cells;have x:=ah (JH d b v w.drew (h.log.dk.below ((aR _ w).drew)));have y:=h.log.dk.ok.hi;have s:=h.ok.fit;have o:=h.ok.skip;have E:IntKind.i64.wrap ((b.n:Int) - (p.skip:Int))=(p.blocks b:Int):=by rw[aG _ (by omega)];unfold Pg.blocks;omega
 have n:w.drew.cell? ⟨c,0,none⟩=some (.pointer (some ⟨d,0,none⟩)):=f;have r:w.drew.cell? ⟨c,2,none⟩=some (.int .i64 p.skip):=g;clear h y s o f g;go_enter Tryz.func42,Tryz.ntmps42;go_wp2_with fail;refine aP (fun W=>W=w.drew) (fun i=> !([4].contains i)) [0,1,2,3,5,6,7,8,4,9,10] rfl (by kernel_rfl) rfl ?_
 repeat (refine oq ?_ rfl rfl rfl ?_ ?_;rotate_left;(focus intro W a;(try dsimp only at a);subst a;go_simp;first|done|with_reducible rfl);try simp only[Act.put,aj,au,ak])
 refine dI rfl rfl rfl ?_;intro K q;go_simp;refine x.out.mono ?_;rintro e j ⟨rfl,t⟩;subst j;refine q.out _ _ rfl ?_
 repeat (refine oq ?_ rfl rfl rfl ?_ ?_;rotate_left;(focus intro W a;(try dsimp only at a);subst a;go_simp;first|done|with_reducible rfl);try simp only[Act.put,aj,au,ak])
 refine bR ?_;go_wp2_with fail;go_ret;exact⟨rfl,rfl⟩
theorem IZ (b:Nat)(w:World):
  Calls Tryz.prog 88 #[.pointer (some ⟨b,0,none⟩),.int .i64 0] w fun e a=>e= .returned (.int .i64 0)/\a=w:=by
 go_enter Tryz.func88,Tryz.ntmps88;go_wp2_with fail;go_ret;exact⟨rfl,rfl⟩
def Pg.Ok.dies {p:Pg}{a:Dk}(h:p.Ok a l):p.dies.Ok a l:=⟨h.frm,h.skip,h.ring,h.fit,h.fresh⟩
def Step.eqv {S':Nat->Prop}{b:World}(h:Step T c w b)(d:∀g,S g↔T g)(a:∀g,S' g↔c g):Step S S' w b:=
 ⟨h.1.mono (fun g _ x=>(d g).2 x),fun g e=>(h.2 g ((a g).1 e)).imp (d g).2 id⟩
def Step.own {a:World}{g:Nat}(h:Keep (· =g) w a)(b:S g):Step S S w a:=⟨h.mono (fun _ _ e=>e▸b),fun _ h=> .inl h⟩
theorem Oo (a d:Nat)(f:Dk)(l:Lg)(p:Pg)(g:Value)(S:Nat->Prop)(q:Int)(w:World)(h:ji w S a d f l p g)(t:q≠0):
  Calls Tryz.prog 88 #[.pointer (some ⟨a,0,none⟩),.int .i64 q] w fun e k=>e= .returned (.int .i64 10)/\ji k S a d f l p.dies g/\Step S S w k:=by
 have b:=h.BS;obtain⟨o,n,j,m,r,h,y⟩:=h;obtain⟨_,_,_,_,_,_,B,s,i⟩:=h.cells;have A:=i 6;have x:(q !=0)=true:=by simpa using t
 have c:Keep (· =a) w (w.setCell ⟨a,6,none⟩ (.bool true)):=(Keep.refl (· =a) w).setCell (p:=⟨a,6,none⟩) (.inr rfl) _;have z:=ah (show yh (w.setCell ⟨a,6,none⟩ (.bool true)) o n j a m d r f l p.dies g from h.self c h.ok.dies rfl (by rw[iy w a 6 _ _ _ h.obj];rfl));have v:=ah c;clear h c;go_enter Tryz.func88,Tryz.ntmps88;go_wp2_with fail;go_ret;exact⟨rfl,⟨o,n,j,m,r,z.out,y⟩,Step.own v.out b⟩
structure yD (w:World)(T:Nat->Prop)(t pg db:Nat)(im:Im)(n:Nat):Prop where
 ok:im.Ok n
 sub:∀g,T g->g<w.heap.size
 st:T t
 sdb:T db
 obj:w.heap[t]? =some (.cells #[.pointer (some ⟨pg,0,none⟩),.map (some db)] 147 (0,0))
 img:lN w db im
def sG (w:World)(T:Nat->Prop)(t pg:Nat)(im:Im)(n:Nat):Prop:=∃db,yD w T t pg db im n
def sG.keep {c:Nat}{b:Im}(h:sG w T t c b n)(a:Keep M w w')(d:∀g,T g->¬M g):sG w' T t c b n:=by
 obtain⟨e,h⟩:=h;exact⟨e,h.ok,fun g f=>ax (h.sub g f) a.size,h.st,h.sdb,(a.block _ (h.sub _ h.st) (d _ h.st)).trans h.obj,h.img.block (a.block _ (h.sub _ h.sdb) (d _ h.sdb))⟩
def sG.below {a:Im}(h:sG w T t b a n)(c:Below w.heap.size w w'):sG w' T t b a n:=h.keep (Keep.of_below c gB) (fun _ _ e=>e)
def sG.sub {a:Im}(h:sG w T t b a n):∀g,T g->g<w.heap.size:=by obtain⟨_,h⟩:=h;exact h.sub
theorem QL (b d:Nat)(n:Dk)(l:Lg)(p:Pg)(S:Nat->Prop)(w:World)(h:ji w S b d n l p (.pointer none))(E:p.dead=false):
  Calls Tryz.prog 40 #[.pointer (some ⟨b,0,none⟩)] w fun e o=>∃t T,e= .returned (.tuple #[.pointer (some ⟨t,0,none⟩),.int .i64 0])/\ji o S b d n l p (.pointer (some ⟨t,0,none⟩))/\sG o T t b Im.none (p.blocks n)/\Step S S w o/\(∀g,T g->w.heap.size<=g):=by
 have m:=h.BS;obtain⟨C,B,z,A,D,h,H⟩:=h;obtain⟨_,_,_,_,_,K,I,F,y⟩:=h.cells;rw[E] at I;have J:=y 5;have v:=ah h;clear h;have G:∀w:World,(Instr.makeMap 139 none).run Tryz.prog w= .ok (.map (some w.heap.size)) (w.alloc (.map #[] 0)):=fun w=>run_makeMap _ w
 go_enter Tryz.func40,Tryz.ntmps40;go_wp2_with fail;go_ret2;obtain⟨a,c⟩:=nm (w.setCell ⟨b,5,none⟩ (.pointer (some ⟨w.heap.size+1,0,none⟩)));have f:Keep (· =b) w a:=by rw[<-c.out];exact(Keep.refl (· =b) _).setCell (p:=⟨b,5,none⟩) (.inr rfl) _
 have i:yh a C B z b A d D n l p (.pointer (some ⟨w.heap.size+1,0,none⟩)):=v.out.self f v.out.ok rfl (by rw[<-c.out,iy _ b 5 _ _ _ v.out.obj];rfl);have j:a.heap.size=w.heap.size:=by rw[<-c.out];simp
 rw[c.out,<-j];have k:Below a.heap.size a ((a.alloc (.map #[] 0)).alloc (.cells #[.pointer (some ⟨b,0,none⟩),.map (some a.heap.size)] 147)):=gK a _ _;have r:lN ((a.alloc (.map #[] 0)).alloc (.cells #[.pointer (some ⟨b,0,none⟩),.map (some a.heap.size)] 147)) a.heap.size Im.none:=(lN.none a).block (qF _ _ _ (by simp));have x:((a.alloc (.map #[] 0)).alloc (.cells #[.pointer (some ⟨b,0,none⟩),.map (some a.heap.size)] 147)).heap[a.heap.size+1]? =some (.cells #[.pointer (some ⟨b,0,none⟩),.map (some a.heap.size)] 147 (0,0)):=by
  have:=aV (a.alloc (.map #[] 0)) (.cells #[.pointer (some ⟨b,0,none⟩),.map (some a.heap.size)] 147);rwa [aU] at this
 rw[<-j] at i;have s:=i.keep (Keep.of_below k gB) (fun _ _ e=>e);refine⟨a.heap.size+1,fun g=>g=a.heap.size\/g=a.heap.size+1,rfl,⟨C,B,z,A,D,s,H⟩,⟨a.heap.size,Im.Ok.none _,fun g q=> ?_,.inr rfl,.inl rfl,x,r⟩,⟨(f.mono (fun _ _ e=>e▸m)).trans (Keep.of_below k S) (fun _ _ e=>e),fun _ q=> .inl q⟩,fun g q=>by omega⟩;simp only[aU];omega
theorem Qn (t a d:Nat)(A:Dk)(l:Lg)(p:Pg)(R:Value)(Q:Im)(n:Nat)(S T:Nat->Prop)(w:World)(h:ji w S a d A l p R)(f:sG w T t a Q n)(i:∀g,S g->¬T g):
  Calls Tryz.prog 56 #[.pointer (some ⟨t,0,none⟩)] w fun e s=>e= .returned (.tuple #[])/\ji s S a d A l p (.pointer none)/\(∃D,s.heap[t]? =some (.cells #[.pointer none,.map (some D)] 147 (0,0)))/\Keep (fun g=>S g\/T g) w s:=by
 have j:=h.BS;obtain⟨I,H,F,G,J,h,K⟩:=h;obtain⟨D,f⟩:=f;obtain⟨_,_,_,_,_,Y,Z,N,E⟩:=h.cells;have X:=E 5;have m:=f.obj;have W:w.cell? ⟨t,0,none⟩=some (.pointer (some ⟨a,0,none⟩)):=by simp[World.cell?,m]
 have P:w.frozen? ⟨t,0,none⟩=false:=by simp[World.frozen?,m]
 have v:=f.sub _ f.st;have B:a≠t:=fun e=>i a j (e▸f.st)
 have z:¬t=a:=fun e=>B e.symm
 have C:=ah h;have M:=ah f;clear h f;go_enter Tryz.func56,Tryz.ntmps56;go_wp2_with fail;go_end0;obtain⟨V,b⟩:=nm ((w.setCell ⟨a,5,none⟩ (.pointer none)).setCell ⟨t,0,none⟩ (.pointer none));obtain⟨r,c⟩:=nm (w.setCell ⟨a,5,none⟩ (.pointer none));have k:Keep (· =a) w r:=by rw[<-c.out];exact(Keep.refl (· =a) _).setCell (p:=⟨a,5,none⟩) (.inr rfl) _
 have x:yh r I H F a G d J A l p (.pointer none):=C.out.self k C.out.ok rfl (by rw[<-c.out,iy _ a 5 _ _ _ C.out.obj];rfl);rw[c.out] at b;have o:Keep (· =t) r V:=by rw[<-b.out];exact(Keep.refl (· =t) _).setCell (p:=⟨t,0,none⟩) (.inr rfl) _
 have q:=(k.block t v z).trans m;have y:=x.keep o (fun g O e=>i g ((K g).2 O) (e▸M.out.st));rw[c.out,b.out];refine⟨rfl,⟨I,H,F,G,J,y,K⟩,⟨D,?_⟩,(k.mono (fun _ _ e=> .inl (e▸j))).trans o (fun _ _ e=> .inr (e▸M.out.st))⟩;rw[<-b.out,iy _ t 0 _ _ _ q];rfl
def yD.cells {c:Nat}{d:Im}(h:yD w T t b c d n):
  w.cell? ⟨t,0,none⟩=some (.pointer (some ⟨b,0,none⟩))/\w.cell? ⟨t,1,none⟩=some (.map (some c))/\t<w.heap.size:=by
 have a:=h.obj;exact⟨by simp[World.cell?,a],by simp[World.cell?,a],(ai.1 a).1⟩
theorem F6 (t f d:Nat)(a:Dk)(l:Lg)(p:Pg)(i:Value)(v:Im)(S T:Nat->Prop)(n b:Nat)(w:World)(h:ji w S f d a l p i)(c:sG w T t f v n)(g:p.dead=false)(C:b<p.blocks a):
  Calls Tryz.prog 81 #[.pointer (some ⟨t,0,none⟩),.int .i64 b] w fun e o=>e= .returned (.int .i64 0)/\o=w.drew:=by
 have r:=ah (zJ f d a l p i S w h);have m:p.blocks a<=4096:=by have:=h.ok.2.1.hi;unfold Pg.blocks;omega
 obtain⟨I,H,B,D,J,h,M⟩:=h;obtain⟨K,c⟩:=c;obtain⟨_,_,_,_,_,_,z,k,_⟩:=h.cells;obtain⟨F,G,q⟩:=c.cells;rw[g] at z;clear h c g;have x:¬(b:Int)<0:=by omega
 have E:decide ((b:Int)<0)=false:=bM x;have y:¬(p.blocks a:Int)<=(b:Int):=by omega
 have N:decide ((p.blocks a:Int)<=(b:Int))=false:=bM y;have A:decide (p.blocks a<=b)=false:=bM (by omega);go_enter Tryz.func81,Tryz.ntmps81;go_wp2_with (first|(go_at_call 42;go_must (refine r.out.mono ?_;rintro e j ⟨rfl,s⟩;subst j)))
 go_ret;exact⟨rfl,rfl⟩
theorem Uk (a d:Nat)(k:Dk)(l:Lg)(p:Pg)(n:Value)(S:Nat->Prop)(w:World)(h:ji w S a d k l p n):
  Calls Tryz.prog 45 #[.pointer (some ⟨a,0,none⟩)] w fun e f=>e= .returned (.int .i64 l.last)/\f=w:=by
 obtain⟨r,i,o,g,s,h,t⟩:=h;obtain⟨_,q,_,_,_,_,_,c,_⟩:=h.cells;have m:=ah (PY g d l i w h.log.lg);clear h;go_enter Tryz.func45,Tryz.ntmps45;go_wp2_with (first|(go_at_call 90;go_must (refine m.out.mono ?_;rintro e b ⟨rfl,j⟩;subst b)))
 go_ret;exact⟨rfl,rfl⟩
theorem Tv (a d:Nat)(k:Dk)(l:Lg)(p:Pg)(n:Value)(S:Nat->Prop)(w:World)(h:ji w S a d k l p n):
  Calls Tryz.prog 120 #[.pointer (some ⟨a,0,none⟩)] w fun e f=>e= .returned (.int .i64 l.synced)/\f=w:=by
 obtain⟨r,i,o,g,s,h,t⟩:=h;obtain⟨_,q,_,_,_,_,_,c,_⟩:=h.cells;have m:=ah (MC g d l i w h.log.lg);clear h;go_enter Tryz.func120,Tryz.ntmps120;go_wp2_with (first|(go_at_call 89;go_must (refine m.out.mono ?_;rintro e b ⟨rfl,j⟩;subst b)))
 go_ret;exact⟨rfl,rfl⟩
def lN.look {a:Im}(h:lN w b a)(k:Nat):∃D,w.ownsMap Tryz.prog 3 rI b 5000 D/\Maps.has D (kI k)=decide (k∈a.ks)/\(k∈a.ks->D.atKey (kI k) (.lit (.string zB))= .lit (.string (a.img k))):=by
 obtain⟨D,e,g,i,d,f⟩:=h;exact⟨D,e,d k,fun c=>f k c _⟩
def xN:rI (.agg (aI zB).toArray)=some (.lit (.string zB),[]):=IL zB ja
theorem tread (t M d:Nat)(B:Dk)(l:Lg)(p:Pg)(op:Value)(X:Im)(S T:Nat->Prop)(b:Nat)(w:World)(h:ji w S M d B l p op)(ht:sG w T t M X (p.blocks B))(hd:p.dead=false)(dx:B.dead=false)(hb:b<p.blocks B):
  Calls Tryz.prog 57 #[.pointer (some ⟨t,0,none⟩),.int .i64 b] w fun e w'=>∃v,e= .returned (.tuple #[v,.int .i64 0])/\aZ w' gB 1 v 512 (aI (p.look X B b))/\(∀g,v.ownBlock=some g->w.heap.size<=g)/\Below w.heap.size w w':=by
 have HU:=ah (F6 t M d B l p op X S T (p.blocks B) b w h ht hd hb);have jF:p.blocks B<=4096:=by have:=h.ok.2.1.hi;unfold Pg.blocks;omega
 have q:=uG (b:Int) (by omega) (by omega);obtain⟨Sd,Sl,Sp,lg,fb,h,hS⟩:=h;obtain⟨db,ht⟩:=ht;obtain⟨c0,_,c2,_,c4,_,c6,Y,_⟩:=h.cells;obtain⟨t0,t1,q9⟩:=ht.cells;have HS:=ah (show ∀W:World,Below w.heap.size w W->W.cell? ⟨t,0,none⟩=some (.pointer (some ⟨M,0,none⟩))/\W.cell? ⟨t,1,none⟩=some (.map (some db))/\W.cell? ⟨M,0,none⟩=some (.pointer (some ⟨d,0,none⟩))/\W.cell? ⟨M,2,none⟩=some (.int .i64 p.skip)/\W.cell? ⟨M,4,none⟩=some (.map (some fb))/\t<W.heap.size/\M<W.heap.size from fun W x=>
  ⟨(x.cell (p:=⟨t,0,none⟩) q9).trans t0,(x.cell (p:=⟨t,1,none⟩) q9).trans t1,(x.cell (p:=⟨M,0,none⟩) Y).trans c0,(x.cell (p:=⟨M,2,none⟩) Y).trans c2,(x.cell (p:=⟨M,4,none⟩) Y).trans c4,ax q9 x.size,ax Y x.size⟩)
 have HH:=ah h;have HT:=ah ht;clear h ht c0 c2 c4 c6 t0 t1;go_enter Tryz.func57,Tryz.ntmps57;go_wp2_with (first|(go_at_call 81;go_must (refine HU.out.mono ?_;rintro e w1 ⟨rfl,jv⟩;subst w1)))
 refine aP (fun W=>Below w.heap.size w W) (fun i=> !([11].contains i)) [0,1,2,3,4,5,6,7,8,9,10,13,11,12] rfl (by kernel_rfl) ((aR _ w).drew.drew) ?_
 repeat (refine oq ?_ rfl rfl rfl ?_ ?_;rotate_left;(focus intro W x;(try dsimp only at x);obtain⟨r0,r1,r2,r3,r4,r5,r6⟩:=HS.out W x;go_simp;first|done|with_reducible rfl);try simp only[Act.put,aj,au,ak])
 refine dI rfl rfl rfl ?_;intro K r;go_simp;obtain⟨w2,I⟩:=nm ((w.alloc (.cells #[.map (some db),.map (some fb)] 139)).drew.drew);have j:Below w.heap.size w w2:=by rw[<-I.out];exact(aN w _).drew.drew
 have di:w2.cell? ⟨w.heap.size,0,none⟩=some (.map (some db)):=by rw[<-I.out];show (w.alloc _).cell? _=_;simp
 have fB:w2.cell? ⟨w.heap.size,1,none⟩=some (.map (some fb)):=by rw[<-I.out];show (w.alloc _).cell? _=_;simp
 have p9:w.heap.size<w2.heap.size:=by rw[<-I.out];simp
 rw[I.out];refine r.out _ _ j ?_
 repeat (refine oq ?_ rfl rfl rfl ?_ ?_;rotate_left;(focus intro W x;(try dsimp only at x);obtain⟨r0,r1,r2,r3,r4,r5,r6⟩:=HS.out W x;go_simp;first|done|with_reducible rfl);try simp only[Act.put,aj,au,ak])
 refine bR ?_;have fJ:=ah HT.out.img;have bN:=ah HH.out.fr;have bH:=ah (HT.out.sub _ HT.out.sdb);have bB:=ah (HH.out.sub _ HH.out.sfb);have N:=bB;have E:=q;clear q;go_wp2_with fail;go_loopw [32] (fun i wr=>∃k:Nat,k<=2/\i= .int .i64 k/\Hid (Below w2.heap.size w2 wr)/\Hid (0<k->b∉X.ks)/\Hid (1<k->b∉p.fresh.ks)) (fun i _=>2 - (intOf i).toNat)
 case atStart=>exact⟨0,by omega,rfl,ah (aR _ _),ah (fun h=>absurd h (by omega)),ah (fun h=>absurd h (by omega))⟩
 case round=>
  obtain⟨k,hk,rfl,F,aA,dn⟩:=hrel;have q:=j.trans (F.out.mono j.size);have d0:=(F.out.cell (p:=⟨w.heap.size,0,none⟩) p9).trans di;have d1:=(F.out.cell (p:=⟨w.heap.size,1,none⟩) p9).trans fB;have fo:=ax p9 F.out.size;have hz:(zeroValue 143).run Tryz.prog wr= .ok (.agg (aI zB).toArray) wr:=kQ wr;have J:Row (wr.alloc (.cells (aI zB).toArray 143)) wr.heap.size 143 (aI zB):=Row.new wr _ _;have H:=ah (show (aI zB).length=512 by rw[bP,ja]);obtain⟨s0,s1,s2,s3,s4,s5,s6⟩:=HS.out wr q;rcases gH k 1 with h0|h0
  ·obtain rfl:k=0:=by omega
   have af:=ah (fJ.out.block (q.block _ bH.out));obtain⟨D,hD,Z,C⟩:=af.out.look b
   by_cases O:b∈X.ks
   ·have A:Maps.has D (kI b)=true:=by rw[Z];exact d9 O
    have y:=C O;have qb:=ah y;clear C y Z;go_wp2_with (first|(at_lookup;go_must (refine Ai _ rfl _ _ 139 rfl 3 143 jD fH rI hz (.lit (.string zB)) [] xN db 5000 D rfl hD _ _ rfl (oD b E) ?_;intro v ps V;obtain⟨s,c,rfl,n⟩:=vV V;have N:=ah c;have Q:=ah n;have a:=ah (show (aI s).length=512 by rw[bP,c]);have f:=iA s;clear V c n;rw[A]))|((refine dV rfl ?_);intro K r;(refine jw 143 rfl _ kQ ?_);refine r _ _ ?_)|((refine dV rfl ?_);intro K r;(refine wp_store_row 143 _ _ rfl wr.heap.size 0 143 _ (aI s) rfl rfl J (kS.trans (congrArg some a.out.symm)) (by rw[H.out,a.out];omega) f ?_);intro w3 m o;refine r _ _ (Stop.of ?_)))
    refine sN ?_;rw[mg _ _ (H.out.trans a.out.symm)] at m;have qo:=ah m;have q8:=ah o;clear m o;go_wp2_with fail;go_ret2;have pM:s=p.look X B b:=by
     have G:(DataW.lit (Lit.string s):DataW Unit)= .lit (.string (X.img b)):=Q.out.symm.trans qb.out;injection G with G
     injection G with G
     rw[G];unfold Pg.look Im.find;rw[if_pos O];rfl
    refine⟨_,rfl,?_,fun g hg=>by cases hg;exact aK j.size F.out.size,?_⟩
    ·rw[<-pM]
     have:=qo.out.dx (S:=gB) (k:=1) (off:=0) 512 512 (by rw[a.out];omega) id (aD _) (by simp[maxLen]);rwa [dQ,aJ (by rw[a.out];omega)] at this
    ·exact(j.trans (F.out.mono j.size)).trans (((Keep.refl (fun _=>False) wr).alloc _).trans (q8.out.mono (M':=fun g=>g=wr.heap.size) (fun _ _ e=>e)) (fun i hi e=>by omega)|>.below.mono (aK j.size F.out.size))
   ·have A:Maps.has D (kI b)=false:=by rw[Z];exact bM O
    clear C Z;go_wp2_with (first|(at_lookup;go_must (refine Ai _ rfl _ _ 139 rfl 3 143 jD fH rI hz (.lit (.string zB)) [] xN db 5000 D rfl hD _ _ rfl (oD b E) ?_;intro v ps V;obtain⟨s,c,rfl,n⟩:=vV V;have N:=ah c;have Q:=ah n;have a:=ah (show (aI s).length=512 by rw[bP,c]);have f:=iA s;clear V c n;rw[A]))|((refine dV rfl ?_);intro K r;(refine jw 143 rfl _ kQ ?_);refine r _ _ ?_)|((refine dV rfl ?_);intro K r;(refine wp_store_row 143 _ _ rfl wr.heap.size 0 143 _ (aI s) rfl rfl J (kS.trans (congrArg some a.out.symm)) (by rw[H.out,a.out];omega) f ?_);intro w3 m o;refine r _ _ (Stop.of ?_)))
    refine sN ?_;have ql:=ah (F.out.trans ((((Keep.refl (fun _=>False) wr).alloc _).trans (o.mono (M':=fun g=>g=wr.heap.size) (fun _ _ e=>e)) (fun i hi e=>by omega)).below.mono F.out.size));clear m o;go_wp2_with fail;go_roundw
    case rel=>exact⟨1,by omega,by go_num,ql,ah (fun _=>O),ah (fun h=>absurd h (by omega))⟩
    case measure=>simp[intOf]
  ·rcases gH k 2 with G|G
   ·obtain rfl:k=1:=by omega
    have P:=aA.out (by omega);have af:=ah (bN.out.block (q.block _ N.out));obtain⟨D,hD,Z,C⟩:=af.out.look b
    by_cases O:b∈p.fresh.ks
    ·have A:Maps.has D (kI b)=true:=by rw[Z];exact d9 O
     have y:=C O;have qb:=ah y;clear C y Z;go_wp2_with (first|(at_lookup;go_must (refine Ai _ rfl _ _ 139 rfl 3 143 jD fH rI hz (.lit (.string zB)) [] xN fb 5000 D rfl hD _ _ rfl (oD b E) ?_;intro v ps V;obtain⟨s,c,rfl,n⟩:=vV V;have N:=ah c;have Q:=ah n;have a:=ah (show (aI s).length=512 by rw[bP,c]);have f:=iA s;clear V c n;rw[A]))|((refine dV rfl ?_);intro K r;(refine jw 143 rfl _ kQ ?_);refine r _ _ ?_)|((refine dV rfl ?_);intro K r;(refine wp_store_row 143 _ _ rfl wr.heap.size 0 143 _ (aI s) rfl rfl J (kS.trans (congrArg some a.out.symm)) (by rw[H.out,a.out];omega) f ?_);intro w3 m o;refine r _ _ (Stop.of ?_)))
     refine sN ?_;rw[mg _ _ (H.out.trans a.out.symm)] at m;have qo:=ah m;have q8:=ah o;clear m o;go_wp2_with fail;go_ret2;have pM:s=p.look X B b:=by
      have G:(DataW.lit (Lit.string s):DataW Unit)= .lit (.string (p.fresh.img b)):=Q.out.symm.trans qb.out;injection G with G
      injection G with G
      rw[G];unfold Pg.look Im.find;rw[if_neg P,if_pos O];rfl
     refine⟨_,rfl,?_,fun g hg=>by cases hg;exact aK j.size F.out.size,?_⟩
     ·rw[<-pM]
      have:=qo.out.dx (S:=gB) (k:=1) (off:=0) 512 512 (by rw[a.out];omega) id (aD _) (by simp[maxLen]);rwa [dQ,aJ (by rw[a.out];omega)] at this
     ·exact(j.trans (F.out.mono j.size)).trans (((Keep.refl (fun _=>False) wr).alloc _).trans (q8.out.mono (M':=fun g=>g=wr.heap.size) (fun _ _ e=>e)) (fun i hi e=>by omega)|>.below.mono (aK j.size F.out.size))
    ·have A:Maps.has D (kI b)=false:=by rw[Z];exact bM O
     clear C Z;go_wp2_with (first|(at_lookup;go_must (refine Ai _ rfl _ _ 139 rfl 3 143 jD fH rI hz (.lit (.string zB)) [] xN fb 5000 D rfl hD _ _ rfl (oD b E) ?_;intro v ps V;obtain⟨s,c,rfl,n⟩:=vV V;have N:=ah c;have Q:=ah n;have a:=ah (show (aI s).length=512 by rw[bP,c]);have f:=iA s;clear V c n;rw[A]))|((refine dV rfl ?_);intro K r;(refine jw 143 rfl _ kQ ?_);refine r _ _ ?_)|((refine dV rfl ?_);intro K r;(refine wp_store_row 143 _ _ rfl wr.heap.size 0 143 _ (aI s) rfl rfl J (kS.trans (congrArg some a.out.symm)) (by rw[H.out,a.out];omega) f ?_);intro w3 m o;refine r _ _ (Stop.of ?_)))
     refine sN ?_;have ql:=ah (F.out.trans ((((Keep.refl (fun _=>False) wr).alloc _).trans (o.mono (M':=fun g=>g=wr.heap.size) (fun _ _ e=>e)) (fun i hi e=>by omega)).below.mono F.out.size));clear m o;go_wp2_with fail;go_roundw
     case rel=>exact⟨2,by omega,by go_num,ql,ah (fun _=>P),ah (fun _=>O)⟩
     case measure=>simp[intOf]
   ·obtain rfl:k=2:=by omega
    have P:=aA.out (by omega);have av:=dn.out (by omega);have jl:b<B.n - p.skip:=hb;have jO:=HH.out.log.dk.ok.hi;obtain⟨z,HZ⟩:=nm (p.skip+b);have iO:IntKind.i64.wrap ((p.skip:Int)+(b:Int))=(z:Int):=(by rw[aG _ (by omega),<-HZ.out];omega);have qc:z<B.n:=(by rw[<-HZ.out];omega);have dR:=ah (HH.out.log.dk.below q);have fK:=ah (Nk d B Sd z wr.drew (dR.out.below ((aR _ wr).drew)) dx qc);have dZ:=ah (show B.get z=p.look X B b by
     unfold Pg.look Im.find
     rw[if_neg P,if_neg av,HZ.out]
     rfl)
    have bC:=ah q;have jb:=ah qc;clear P av J hz d0 d1 fo s0 s1 s2 s3 s4 s5 s6 qc;go_wp2_with fail;refine aP (fun W=>Below w.heap.size w W) (fun i=> !([16].contains i)) [0,1,2,3,4,5,6,7,8,9,10,11,12,13,14,15,16,17,18,19,20,21] rfl (by kernel_rfl) q.drew ?_
    repeat (refine oq ?_ rfl rfl rfl ?_ ?_;rotate_left;(focus intro W x;(try dsimp only at x);obtain⟨r0,r1,r2,r3,r4,r5,r6⟩:=HS.out W x;go_simp;first|done|with_reducible rfl);try simp only[Act.put,aj,au,ak])
    refine dI rfl rfl rfl ?_;intro K r;go_simp;refine fK.out.mono ?_;rintro e w5 ⟨v,rfl,aB,a⟩;have R:=bC.out.drew.trans (a.mono q.size);refine r.out _ _ R ?_;have bA:=ah aB;have fA:=ah R;clear aB a R
    repeat (refine oq ?_ rfl rfl rfl ?_ ?_;rotate_left;(focus intro W x;(try dsimp only at x);skip;go_simp;first|done|with_reducible rfl);try simp only[Act.put,aj,au,ak])
    refine bR ?_;go_wp2_with fail;go_ret2;rw[<-dZ.out];exact⟨v,rfl,bA.out.dx,fun g hg=>aK bC.out.size (bA.out.1.lt g hg).1,fA.out⟩
def Ey (n:Nat)(l:List UInt8):splice (aI (List.replicate n 0)) 0 (aI l)=aI (l++List.replicate (n - l.length) 0):=by
 simp[splice,aI]
def Gg (l:List UInt8):splice (aI zB) 0 (aI l)=aI (pad l):=Ey 512 l
def yD.put {d:World}{c:Nat}{a:Im}(h:yD w T t j c a n)(A:n<=4096)(b:Nat)(x:List UInt8)(f:b<n)(y:x.length=512)(q:w.ownsMap Tryz.prog 3 rI c 5000 D)(v:Maps.size D=a.ks.length)(o:∀l,Maps.has D l=true->∃k:Nat,l=kI k)
  (r:∀k:Nat,Maps.has D (kI k)=decide (k∈a.ks)) (m:∀k:Nat,k∈a.ks->∀z,D.atKey (kI k) z= .lit (.string (a.img k))) (s:d.ownsMap Tryz.prog 3 rI c 5001 (D.put (kI b) (.lit (.string x)))) (i:Keep (· =c) w d):yD d T t j c (a.put b x) n:=
 ⟨h.ok.put b x f y,fun g p=>ax (h.sub g p) i.size,h.st,h.sdb,(i.block _ (h.sub _ h.st) (fun e=>h.img.ne h.obj e)).trans h.obj,lN.put h.ok A b x f q v o r m s⟩
def Keep.tY {a:World}(h:w.grownBy a (some b)):Keep (· =b) w a:=
 (Keep.refl (· =b) w).grown h (fun k e=>by cases e;exact .inr rfl)
theorem KH (t G d:Nat)(o:Dk)(l:Lg)(p:Pg)(op:Value)(X:Im)(S T:Nat->Prop)(b:Nat)(v:Value)(x:List UInt8)(w:World)(h:ji w S G d o l p op)(A:sG w T t G X (p.blocks o))(hd:p.dead=false)(Z:b<p.blocks o)(hv:aZ w gB 1 v x.length (aI x))(hx:x.length<=512):
  Calls Tryz.prog 66 #[.pointer (some ⟨t,0,none⟩),.int .i64 b,v] w fun e w'=>e= .returned (.int .i64 0)/\sG w' T t G (X.put b (pad x)) (p.blocks o)/\Step T T w w':=by
 have HU:=ah (F6 t G d o l p op X S T (p.blocks o) b w h A hd Z);have H:p.blocks o<=4096:=by have:=h.ok.2.1.hi;unfold Pg.blocks;omega
 have I:=uG (b:Int) (by omega) (by omega);obtain⟨vo,vc,rfl,v1,v2,v3,v4⟩:=aZ.form hv;obtain⟨B,A⟩:=A;obtain⟨t0,t1,av⟩:=A.cells;have q8:¬((512:Int)<(x.length:Int)):=by omega
 have HT:=ah A;have HB:=ah Z;have pM:=ah H;have F:Row (w.drew.alloc (.cells (aI zB).toArray 143)) w.heap.size 143 (aI zB):=Row.new w.drew _ _;have qc:=ah (show (aI zB).length=512 by rw[bP,ja]);have c:=ah (bP x);have a:=(hv.below (w':=w.drew.alloc (.cells (aI zB).toArray 143)) ((aR _ w).drew.alloc (aD _) _)).first (P:=Tryz.prog) x.length (aD _);rw[aW,aJ (lD c.out)] at a;have a:=ah a;clear h A hd Z H v3 v4;go_enter Tryz.func66,Tryz.ntmps66;go_wp2_with (first|(go_at_call 81;go_must (refine HU.out.mono ?_;rintro e w1 ⟨rfl,qo⟩;subst w1))|((refine dV rfl ?_);intro K O;(refine jw 143 rfl _ kQ ?_);refine O _ _ ?_)|((refine dV rfl ?_);intro K O;(refine gZ (.tmp 18) (.tmp 19) 70 70 rfl 5 1 1 (.int .u8 0) bG kJ w.heap.size 0 143 x.length 512 512 (some ⟨w.heap.size,0,none⟩) _ rfl F (.slice vo x.length vc) rfl x.length (aI x) rfl ?_ ?_ a.out (fun _=>rfl) ?_ (iA _) ?_);go_must ((focus exact(bK hx).symm);(focus rw[c.out,aW]);(focus rw[c.out,qc.out];omega);intro s k J;refine O _ _ (Stop.of ?_))))
 refine sN ?_;rw[Gg] at k;have r:Keep gB w s:=(((Keep.refl gB w).drew).alloc _).trans J (fun i hi e=>absurd hi (by rw[e];exact dB _));have f:=r.below;have m:yD s T t G B X (p.blocks o):=by
  have j:=HT.out;exact⟨j.ok,fun g hg=>ax (j.sub g hg) f.size,j.st,j.sdb,(f.block _ (j.sub _ j.st)).trans j.obj,j.img.block (f.block _ (j.sub _ j.sdb))⟩
 obtain⟨D,hD,hs,h0,h1,h2⟩:=m.img;obtain⟨s0,s1,af⟩:=m.cells;have y:(pad x).length=512:=pX hx;have E:=iA (pad x);have R:=ah (show (aI (pad x)).length=512 by rw[bP,y]);have q:=ah (IL (pad x) y);obtain⟨C,HC⟩:=nm (aI (pad x));rw[HC.out] at k E R q;have hw:s.drew.rangeAt w.heap.size 0 C:=k.whole;have q9:s.drew.cell? ⟨t,1,none⟩=some (.map (some B)):=s1;have V:=ah m;have p9:=ah f;have n:=ah (aC hs (aC h0 (aC h1 h2)));have N:=ah hD;clear m f hs h0 h1 h2 r J k F hD;go_wp2_with fail;refine aP (fun W=>W=s.drew) (fun i=> !([6].contains i)) [0,1,2,3,4,5,6] rfl (by kernel_rfl) rfl ?_
 repeat (refine oq ?_ rfl rfl rfl ?_ ?_;rotate_left;(focus intro W Y;(try dsimp only at Y);subst Y;go_simp;first|done|with_reducible rfl);try simp only[Act.put,aj,au,ak])
 refine wh (v:= .agg C.toArray) rfl rfl (fun _ _ _ h=>h) rfl (fun W Y=> ?_) ?_
 ·subst Y
  exact lH 143 (.tmp 8) rfl w.heap.size 0 rfl C _ hw Ku rfl (kS.trans (congrArg some R.out.symm))
 simp only[Act.put,aj,au,ak];refine jC rfl rfl rfl (by kernel_rfl) ?_;intro K O;refine nV _ _ _ 139 rfl 3 143 jD fH rI B 5000 D rfl (Vt N.out) (by simp[maxLen]) _ _ (kI b) rfl rfl (oD b I) (.lit (.string (pad x))) [] q.out ?_;intro w4 Q M;refine O.out _ _ ?_;refine bR ?_;have z:Keep (· =B) s w4:=((Keep.refl (· =B) s).drew).trans (Keep.tY M) (fun _ _ e=>e);have ql:=ah (V.out.put pM.out b (pad x) HB.out y N.out n.out.1 n.out.2.1 n.out.2.2.1 n.out.2.2.2 Q z);have qb:=ah z;clear Q M z;go_wp2_with fail;go_ret;exact⟨rfl,⟨B,ql.out⟩,(Keep.of_below p9.out T).trans (qb.out.mono (fun _ _ e=>e▸V.out.sdb)) (fun _ _ e=>e),fun _ hg=> .inl hg⟩
end Go.Proofs.YtogbkgmlhhahdaaGreat
namespace Go.Proofs.YtogbkgmlhhahdaaGreat
open Go.RowKit Go.Shelf
variable{D:DataW Unit}{l:Lg}{a b d j n t:Nat}{M S T c m o:Nat->Prop}{v:Value}{w w':World}
def S9:Go.Shelf.Ren:=⟨fun x=>match x with|189=>50|125=>99|257=>98|128=>146|129=>147|294=>137|295=>138|296=>139|297=>140|298=>141|299=>142|216=>143|300=>144|301=>145|328=>172|329=>173|330=>174|331=>175|332=>176|215=>177|343=>201|n=>n,fun x=>match x with|28=>93|3=>3|46=>119|0=>0|51=>208|53=>201|4=>4|183=>239|182=>238|131=>104|5=>5|9=>9|218=>278|222=>282|228=>310|229=>311|n=>n,fun n=>n⟩
theorem zw:Lays.n189 Tryz.prog S9 where
 mixed:=by kernel_rfl
 f125:=Tryz.func99.trans (congrArg some (by kernel_rfl))
 f128:=Tryz.func146.trans (congrArg some (by kernel_rfl))
 f129:=Tryz.func147.trans (congrArg some (by kernel_rfl))
 f189:=Tryz.func50.trans (congrArg some (by kernel_rfl))
 f215:=Tryz.func177.trans (congrArg some (by kernel_rfl))
 f216:=Tryz.func143.trans (congrArg some (by kernel_rfl))
 f257:=Tryz.func98.trans (congrArg some (by kernel_rfl))
 f294:=Tryz.func137.trans (congrArg some (by kernel_rfl))
 f295:=Tryz.func138.trans (congrArg some (by kernel_rfl))
 f296:=Tryz.func139.trans (congrArg some (by kernel_rfl))
 f297:=Tryz.func140.trans (congrArg some (by kernel_rfl))
 f298:=Tryz.func141.trans (congrArg some (by kernel_rfl))
 f299:=Tryz.func142.trans (congrArg some (by kernel_rfl))
 f300:=Tryz.func144.trans (congrArg some (by kernel_rfl))
 f301:=Tryz.func145.trans (congrArg some (by kernel_rfl))
 f328:=Tryz.func172.trans (congrArg some (by kernel_rfl))
 f329:=Tryz.func173.trans (congrArg some (by kernel_rfl))
 f330:=Tryz.func174.trans (congrArg some (by kernel_rfl))
 f331:=Tryz.func175.trans (congrArg some (by kernel_rfl))
 f332:=Tryz.func176.trans (congrArg some (by kernel_rfl))
 f343:=Tryz.func201.trans (congrArg some (by kernel_rfl))
 t0:=Co
 a0:=Tryz.isAgg0
 z0:=Uw
 v0:=FP
 t3:=jG
 a3:=Tryz.isAgg3
 z3:=Tryz.sizeOf3
 v3:=Vu
 t4:=Cn
 a4:=Tryz.isAgg4
 z4:=Tryz.sizeOf4
 v4:=Tryz.zeroValue4
 t5:=kX
 a5:=Tryz.isAgg5
 z5:=Tryz.sizeOf5
 v5:=Tryz.zeroValue5
 t9:=gW
 a9:=Tryz.isAgg9
 z9:=Tryz.sizeOf9
 v9:=Tryz.zeroValue9
 t28:=bE
 a28:=Tryz.isAgg93
 z28:=Tryz.sizeOf93
 v28:=Tryz.zeroValue93
 t46:=Tryz.underlying119
 a46:=Tryz.isAgg119
 z46:=Tryz.sizeOf119
 v46:=Tryz.zeroValue119
 t51:=Tryz.underlying208
 a51:=Tryz.isAgg208
 z51:=Tryz.sizeOf208
 v51:=Tryz.zeroValue208
 t53:=Tryz.underlying201
 a53:=Tryz.isAgg201
 z53:=Tryz.sizeOf201
 v53:=Tryz.zeroValue201
 t131:=Tryz.underlying104
 a131:=Tryz.isAgg104
 z131:=Tryz.sizeOf104
 v131:=Tryz.zeroValue104
 t182:=Tryz.underlying238
 a182:=Tryz.isAgg238
 z182:=Tryz.sizeOf238
 v182:=Tryz.zeroValue238
 t183:=Tryz.underlying239
 a183:=Tryz.isAgg239
 z183:=Tryz.sizeOf239
 v183:=Tryz.zeroValue239
 t218:=Tryz.underlying278
 a218:=Tryz.isAgg278
 z218:=Tryz.sizeOf278
 v218:=Tryz.zeroValue278
 t222:=Tryz.underlying282
 a222:=Tryz.isAgg282
 z222:=Tryz.sizeOf282
 v222:=Tryz.zeroValue282
 t228:=Tryz.underlying310
 a228:=Tryz.isAgg310
 z228:=Tryz.sizeOf310
 v228:=Tryz.zeroValue310
 t229:=Tryz.underlying311
 a229:=Tryz.isAgg311
 z229:=Tryz.sizeOf311
 v229:=Tryz.zeroValue311
def Ci:Go.Shelf.Ren:=⟨fun x=>match x with|6=>82|7=>83|8=>130|9=>50|10=>131|11=>170|n=>n,fun x=>match x with|0=>0|3=>143|4=>4|23=>139|24=>93|26=>3|27=>151|28=>152|33=>108|n=>n,fun n=>n⟩
theorem Jo:SlLaysZI.n7 Tryz.prog Ci where
 mixed:=by kernel_rfl
 f7:=⟨Tryz.f83.name,(by kernel_rfl),Tryz.func83.trans (congrArg some (by kernel_rfl))⟩
 f10:=⟨Tryz.f131.name,(by kernel_rfl),Tryz.func131.trans (congrArg some (by kernel_rfl))⟩
 t0:=Co
 a0:=Tryz.isAgg0
 z0:=Uw
 v0:=FP
 t4:=Cn
 a4:=Tryz.isAgg4
 z4:=Tryz.sizeOf4
 v4:=Tryz.zeroValue4
 t23:=fH
 a23:=Tryz.isAgg139
 z23:=Tryz.sizeOf139
 v23:=Tryz.zeroValue139
 t26:=jG
 a26:=Tryz.isAgg3
 z26:=Tryz.sizeOf3
 v26:=Vu
 t27:=Tryz.underlying151
 a27:=Tryz.isAgg151
 z27:=Tryz.sizeOf151
 v27:=Tryz.zeroValue151
 t28:=Tryz.underlying152
 a28:=Tryz.isAgg152
 z28:=Tryz.sizeOf152
 v28:=Tryz.zeroValue152
 t33:=Tryz.underlying108
 a33:=Tryz.isAgg108
 z33:=Tryz.sizeOf108
 v33:=Tryz.zeroValue108
def KU:SlLaysZI.n6 Tryz.prog Ci where
 mixed:=by kernel_rfl
 f6:=⟨Tryz.f82.name,(by kernel_rfl),Tryz.func82.trans (congrArg some (by kernel_rfl))⟩
 f8:=⟨Tryz.f130.name,(by kernel_rfl),Tryz.func130.trans (congrArg some (by kernel_rfl))⟩
 f11:=⟨Tryz.f170.name,(by kernel_rfl),Tryz.func170.trans (congrArg some (by kernel_rfl))⟩
 t0:=Co
 a0:=Tryz.isAgg0
 z0:=Uw
 v0:=FP
 t24:=bE
 a24:=Tryz.isAgg93
 z24:=Tryz.sizeOf93
 v24:=Tryz.zeroValue93
 t26:=jG
 a26:=Tryz.isAgg3
 z26:=Tryz.sizeOf3
 v26:=Vu
 t28:=Tryz.underlying152
 a28:=Tryz.isAgg152
 z28:=Tryz.sizeOf152
 v28:=Tryz.zeroValue152
 i26:=by kernel_rfl
end Go.Proofs.YtogbkgmlhhahdaaGreat
namespace Go.Proofs.YtogbkgmlhhahdaaGreat
open Go.RowKit Go.Maps Go.Sort Go.Shelf
variable{D:DataW Unit}{l:Lg}{a b d j n t:Nat}{M S T c m o:Nat->Prop}{v:Value}{w w':World}
def CW:∀{a b:List Int},a.Pairwise (· < ·)->b.Pairwise (· < ·)->(∀x,x∈a↔x∈b)->a=b
 |[],[],_,_,_=>rfl
 |[],y::b,_,_,h=>by have:=(h y).2 (bf ..);cases this
 |x::a,[],_,_,h=>by have:=(h x).1 (bf ..);cases this
 |x::a,y::b,l,m,h=>by
  obtain⟨c,j⟩:=fU.1 l
  obtain⟨d,k⟩:=fU.1 m
  have g:x=y:=by
   rcases bO.1 ((h x).1 (bf ..)) with e|e
   ·exact e
   ·rcases bO.1 ((h y).2 (bf ..)) with i|i
    ·exact i.symm
    ·have:=d x e;have:=c y i;omega
  subst g;rw[CW j k (fun z=> ?_)];constructor
  ·intro f
   rcases bO.1 ((h z).1 (aX _ f)) with e|e
   ·have:=c z f;omega
   ·exact e
  ·intro f
   rcases bO.1 ((h z).2 (aX _ f)) with e|e
   ·have:=d z f;omega
   ·exact e
def Jm {m:Im}(K:m.Ok n)(J:∃f,D= .map f/\f.Pairwise (fun p q=>p.1≠q.1)/\∀p∈f,WideAt.IsKeyLit p.1)(G:∀F,Maps.has D F=true->∃k:Nat,F=kI k)(z:∀k:Nat,Maps.has D (kI k)=decide (k∈m.ks))(i:List Int)(d:i.Perm (intKeys D)):
  i.mergeSort (fun x y=>decide (x<=y))=m.ks.map (fun k:Nat=>(k:Int)):=by
 obtain⟨f,rfl,v,t⟩:=J;have g:∀p∈f,∃k:Nat,p.1=kI k/\k∈m.ks:=fun p d=>by
  have l:Maps.has (.map f) p.1=true:=by
   rw[Maps.has_eq,VG];exact⟨p,d,WideAt.sameKey_self (t p d)⟩
  obtain⟨k,g⟩:=G _ l;refine⟨k,g,?_⟩;have:=z k;rw[<-g,l] at this;exact jS this.symm
 have C:(intKeys (.map f:DataW Unit)).Nodup:=by
  show (f.map fun p=>Go.intOf p.1).Nodup;refine vF.2 (v.imp_of_mem (fun {p q} d I r o=>r ?_));obtain⟨a,N,_⟩:=g p d;obtain⟨b,H,_⟩:=g q I;rw[N,H] at o ⊢;exact congrArg kI o
 have A:(i.mergeSort (fun x y=>decide (x<=y))).Pairwise fun a b=>decide (a<=b)=true:=List.pairwise_mergeSort (fun a b c z O=>by simp at*;omega) (fun a b=>by simp;omega) i
 have j:=(su i (fun x y=>decide (x<=y))).trans d;have B:(i.mergeSort (fun x y=>decide (x<=y))).Nodup:=j.nodup_iff.2 C;have s:(i.mergeSort (fun x y=>decide (x<=y))).Pairwise (· < ·):=A.imp₂ (fun a b h P=>by simp at h;omega) B;refine CW s (vF.2 (K.rise.imp (fun h=>by omega))) (fun x=> ?_);rw[j.mem_iff,fw];constructor
 ·intro M
  obtain⟨p,d,rfl⟩:=fw.1 (show x∈f.map fun p=>Go.intOf p.1 from M);obtain⟨k,g,E⟩:=g p d;exact⟨k,E,by rw[g];rfl⟩
 ·rintro⟨k,E,rfl⟩
  have l:=z k;rw[d9 E,Maps.has_eq,VG] at l;obtain⟨p,d,o⟩:=l;have e:=WideAt.sameKey_eq o;show (k:Int)∈f.map fun p=>Go.intOf p.1
  exact fw.2 ⟨p,d,by rw[e];rfl⟩
def Ui (a:Nat)(w:World):Calls Tryz.prog 83 #[.map (some a)] w fun e b=>e= .returned (.func (.func 131) #[] #[.pointer (some ⟨w.heap.size,0,none⟩)])/\b=w.alloc (.cells #[.map (some a)] 139):=
 callsIn_wide.1 (AnyZI.keys_in Jo Fence.wide 5 trivial rfl (some a) w)
def SY (m:Nat):AnyZI.SortsIn Tryz.prog Ci Fence.wide m:=
 ⟨fun d c a f W g b e=>callsIn_wide.2 (Any.slices_Sort_int zw d c a f W g b e),fun p a W=>callsIn_wide.2 (Any.slices_Sort_int_none zw p a W)⟩
def MX (b c:Nat)(f:Im)(n:Nat)(w:World)(h:lN w b f)(l:f.Ok n)(G:n<=4096)(E:w.cell? ⟨c,0,none⟩=some (.map (some b)))(C:c<w.heap.size):
  Calls Tryz.prog 82 #[.func (.func 131) #[] #[.pointer (some ⟨c,0,none⟩)]] w fun e j=>∃v,e= .returned v/\aT j gB w.heap.size 3 1 v f.ks.length ((f.ks.map fun k:Nat=>(k:Int)).map (.int .i64))/\Below w.heap.size w j:=by
 obtain⟨D,m,r,s,y,F⟩:=h;have p:=zC _ _ l.rise l.hi;have d:SeqGives Fence.wide 2 Tryz.prog 131 #[.pointer (some ⟨c,0,none⟩)] encZ (fun i=>i.Perm (intKeys D)) (Maps.size D) w:=
  AnyZI.keys_gives (ρ:=Ci) {Jo with} Fence.wide _ trivial rfl (by omega) c b 5000 D w C E m
 have t:=AnyZI.sorted_in KU Fence.wide 5 trivial trivial trivial trivial rfl (by omega) (SY _) (enters_of Tryz.func50 (by kernel_rfl) rfl) 131 #[.pointer (some ⟨c,0,none⟩)] trivial (enters_of Tryz.func131 (by kernel_rfl) rfl) _ (Maps.size D) (by rw[r];simp only[maxLen];omega) (by rw[r];omega) w d;have z:=callsIn_wide.1 t;refine Calls.mono (show Calls Tryz.prog 82 _ _ _ from z) ?_;rintro e j ⟨v,i,rfl,B,a,q,x⟩;have o:=Jm l (m.entries jD) s y i B;have A:i.length=f.ks.length:=by
  have:=congrArg List.length o;rwa [List.length_mergeSort,jX] at this
 rw[o,A] at a;exact⟨v,rfl,⟨a,fun g _ h=>h.elim⟩,x⟩
end Go.Proofs.YtogbkgmlhhahdaaGreat
namespace Go.Proofs.YtogbkgmlhhahdaaGreat
open Go.RowKit
variable{D:DataW Unit}{l:Lg}{a b d j n t:Nat}{M S T c m o:Nat->Prop}{v:Value}{w w':World}
def Dk.xK {a:Dk}(h:a.sync.2=0):a.sync.1.waits=[]:=by
 unfold Dk.sync at h ⊢
 split at h
 ·cases h
 ·split at h
  ·cases h
  ·rename_i b c
   rw[if_neg b,if_neg c];rfl
def Lg.xP {a:Dk}(h:(l.mark a).2.2=0):(l.mark a).1.waits=[]/\(l.mark a).2.1=l:=by
 unfold Lg.mark at h ⊢
 split at h
 ·rename_i c
  split at h
  ·rename_i b
   rw[if_pos c,if_pos b];exact⟨Dk.xK b,rfl⟩
  ·cases h
 ·cases h
def Lg.xK {a:Dk}(h:(l.sync a).2.2=0):(l.sync a).1.waits=[]/\(l.sync a).2.1=l.all/\l.dead=false:=by
 unfold Lg.sync at h ⊢
 split at h
 ·cases h
 ·rename_i b
  split at h
  ·rename_i d
   split at h
   ·rename_i c
    rw[if_neg b,if_pos d,if_pos c];have:=Lg.xP c;exact⟨this.1,this.2,by simpa using b⟩
   ·cases h
  ·cases h
def Lg.Q5 (a:Dk)(l:Lg):(l.mark a).1.n=a.n:=by
 unfold Lg.mark
 split
 ·split<;>rw[Dk.oH,Dk.qU]
 ·rw[Dk.qU]
def Lg.oH (a:Dk)(l:Lg):(l.sync a).1.n=a.n:=by
 unfold Lg.sync
 split
 ·rfl
 ·split
  ·split<;>rw[Lg.Q5,Dk.oH]
  ·exact Dk.oH a
def Lg.ES (a:Dk)(l:Lg):(l.sync a).2.1.frm=l.frm/\(l.sync a).2.1.n=l.n/\(l.sync a).2.1.last=l.last:=by
 unfold Lg.sync
 split
 ·exact⟨rfl,rfl,rfl⟩
 ·split
  ·split
   ·rename_i h
    rw[(Lg.xP h).2];exact⟨rfl,rfl,rfl⟩
   ·exact⟨rfl,rfl,rfl⟩
  ·exact⟨rfl,rfl,rfl⟩
def Lg.Qk (a:Dk)(l:Lg)(u:Nat):(l.trim a u).1.n=a.n:=by
 unfold Lg.trim
 split
 ·rfl
 ·split
  ·rfl
  ·split<;>exact Lg.Q5 _ _
def Lg.NT (a:Dk)(l:Lg)(u:Nat):(l.trim a u).2.1.frm=l.frm/\(l.trim a u).2.1.n=l.n:=by
 unfold Lg.trim
 split
 ·exact⟨rfl,rfl⟩
 ·split
  ·exact⟨rfl,rfl⟩
  ·split
   ·rename_i h
    rw[(Lg.xP h).2];exact⟨rfl,rfl⟩
   ·exact⟨rfl,rfl⟩
def Pg.Ok.turn {p:Pg}{d a:Dk}{c:Lg}(h:p.Ok d l)(e:a.n=d.n)(f:c.frm=l.frm)(b:c.n=l.n):p.Ok a c:=
 ⟨f.trans h.frm,h.skip.trans b.symm,h.ring.trans b.symm,by rw[b,e];exact h.fit,by rw[e];exact h.fresh⟩
def Three (Sd Sl Sp:Nat->Prop):Nat->Prop:=fun g=>Sd g\/Sl g\/Sp g
def yh.pack {b a:Nat->Prop}{f i:Nat}{g:Dk}{p:Pg}{e:Value}(h:yh w c b a f j d i g l p e):ji w (Three c b a) f d g l p e:=⟨c,b,a,j,i,h,fun _=>H8⟩
def nL (a d:Nat)(c:Dk)(l:Lg)(p:Pg)(f:Value)(S b:Nat->Prop)(q:Int)(i w:World)(h:ji w b a d c l p f)(r:Step S b i w)(m:q≠0):
  Calls Tryz.prog 88 #[.pointer (some ⟨a,0,none⟩),.int .i64 q] w fun e g=>e= .returned (.int .i64 10)/\∃j,ji g j a d c l p.dies f/\Step S j i g:=
 (Oo a d c l p f b q w h m).mono fun _ _ ⟨n,k,o⟩=>⟨n,b,k,r.trans o⟩
def Pg.zS (p:Pg)(b:Nat)(r:List Nat)(a:Dk):p.lay (b::r) a=(if (a.write ((p.skip+b:Nat):Int) (p.fresh.img b)).2=0 then p.lay r (a.write ((p.skip+b:Nat):Int) (p.fresh.img b)).1 else((a.write ((p.skip+b:Nat):Int) (p.fresh.img b)).1,10)):=rfl
def yh.anew {n:Nat->Prop}{r C:Nat}{z:Dk}{p:Pg}(h:yh w n m o b r d C z l p v):
  ∃j,yh ((w.setCell ⟨b,4,none⟩ (.map (some w.heap.size))).alloc (.map #[] 0)) n m j b r d w.heap.size z l {p with fresh:=Im.none} v/\Step (Three n m o) (Three n m j) w ((w.setCell ⟨b,4,none⟩ (.map (some w.heap.size))).alloc (.map #[] 0)):=by
 obtain⟨c,f⟩:∃c,w.setCell ⟨b,4,none⟩ (.map (some w.heap.size))=c:=⟨_,rfl⟩
 have y:Keep (· =b) w c:=by rw[<-f];exact(Keep.refl (· =b) _).setCell (p:=⟨b,4,none⟩) (.inr rfl) _
 have k:c.heap.size=w.heap.size:=by rw[<-f];simp
 have i:Keep (fun _=>False) c (c.alloc (.map #[] 0)):=(Keep.refl (fun _=>False) c).alloc _;have x:=h.log.keep y (fun g a e=>h.dd b h.BS (e▸a)) (fun g a e=>h.dl b h.BS (e▸a));have A:=h.sub _ h.BS;have t:∀g,n g->g<w.heap.size:=h.log.dk.sub
 have q:∀g,m g->g<w.heap.size:=h.log.lg.sub
 have s:c.heap[b]? =some (.cells #[.pointer (some ⟨d,0,none⟩),.pointer (some ⟨r,0,none⟩),.int .i64 p.skip,.int .i64 p.ring,.map (some w.heap.size),v,.bool p.dead] 141 (0,0)):=by
  rw[<-f,iy _ b 4 _ _ _ h.obj];rfl
 rw[f];refine⟨fun g=>o g\/g=w.heap.size,⟨x.keep i (fun _ _ e=>e) (fun _ _ e=>e),⟨h.ok.frm,h.ok.skip,h.ok.ring,h.ok.fit,Im.Ok.none _⟩,fun g a=> ?_,fun g a e=> ?_,fun g a e=> ?_,.inl h.BS,.inr rfl,?_,?_⟩,?_⟩
 ·have B:w.heap.size+1=(c.alloc (.map #[] 0)).heap.size:=by rw[aU,k]
  rw[<-B];rcases a with a|a
  ·have:=h.sub g a;omega
  ·omega
 ·rcases a with a|a
  ·exact h.dd g a e
  ·have:=t g e;omega
 ·rcases a with a|a
  ·exact h.dl g a e
  ·have:=q g e;omega
 ·exact(i.block _ (by omega) id).trans s
 ·rw[<-k];exact lN.none c
 ·refine⟨(y.mono (fun _ _ e=> .inr (.inr (e▸h.BS)))).trans i (fun _ _ e=>e.elim),fun g a=> ?_⟩
  rcases a with a|a|a|a
  ·exact .inl (.inl a)
  ·exact .inl (.inr (.inl a))
  ·exact .inl (.inr (.inr a))
  ·exact .inr (lD a.symm)
theorem Uj (J d:Nat)(A:Dk)(l:Lg)(p:Pg)(op:Value)(S:Nat->Prop)(w:World)(h:ji w S J d A l p op)(zm:A.waits.length<=90000):
  Calls Tryz.prog 77 #[.pointer (some ⟨J,0,none⟩)] w fun e w'=>e= .returned (.int .i64 (p.home A l).2.2.2)/\∃S',ji w' S' J d (p.home A l).1 (p.home A l).2.1 (p.home A l).2.2.1 op/\Step S S' w w':=by
 obtain⟨Sd,Sl,M,lg,fb,h,hS⟩:=h;obtain⟨c0,c1,c2,_,c4,_,_,Y,_⟩:=h.cells;have HY:=ah (Ud lg d A l Sd Sl w h.log (by omega));obtain⟨o,n,q,V⟩:∃o n q,Hid (l.sync A=(o,n,q)):=⟨_,_,_,ah rfl⟩
 rw[V.out] at HY;have vO:=ah (show o.n=A.n by have:=Lg.oH A l;rw[V.out] at this;exact this);have fB:=ah (show n.frm=l.frm/\n.n=l.n/\n.last=l.last by have:=Lg.ES A l;rw[V.out] at this;exact this);have HH:=ah h;clear h c0 c2 c4;go_enter Tryz.func77,Tryz.ntmps77;go_wp2_with (first|(go_at_call 91;go_must (refine HY.out.mono ?_;rintro e w1 ⟨rfl,dR,a,mK,rJ⟩;refine sO ?_)))
 refine sN ?_;have hP:=HH.out.turn mK rJ (HH.out.ok.turn vO.out fB.out.1 fB.out.2.1);have C:=ah hP.1;have oo:=ah (hP.2.eqv hS (fun _=>H8):Step S (Three dR a M) w w1);clear hP mK rJ
 by_cases G:q=0
 ·subst G
  obtain⟨aA,bA,jl⟩:=Lg.xK (show (l.sync A).2.2=0 by rw[V.out]);rw[V.out] at aA bA;have yK:=ah aA;have lQ:=ah bA;have xV:=ah jl;clear aA bA jl;obtain⟨e0,_,_,_,e4,_,_,zn,_⟩:=C.out.cells;have E:=C.out.ok.fresh;have sP:=C.out.log.dk.ok.hi;have bN:o.n - p.skip<=4096:=by omega
  have mr:=ah (zC _ _ E.rise E.hi);have oO:=ah (MX fb w1.heap.size p.fresh _ (w1.alloc (.cells #[.map (some fb)] 139)) (C.out.fr.block (qF _ _ _ C.out.fr.lt)) E bN (by simp) (by simp));have tY:=ah E;have qb:=ah bN;clear E bN sP;go_wp2_with (first|(go_at_call 83;go_must (refine(Ui fb _).mono ?_;rintro e w2 ⟨rfl,z8⟩;subst w2))|(go_at_call 82;go_must (refine oO.out.mono ?_;rintro e w3 ⟨v,rfl,hO,l9⟩;refine sO ?_)))
  refine sN ?_;have H:Below w1.heap.size w1 w3:=(aN w1 _).trans (l9.mono (by simp));have zf:=ah H;obtain⟨vo,vc,rfl,_,_,_,_⟩:=aZ.form hO.dx;have rV:aT w3 (Three dR a M) w1.heap.size 3 1 (.slice vo p.fresh.ks.length vc) p.fresh.ks.length ((p.fresh.ks.map fun k:Nat=>(k:Int)).map (.int .i64)):=by
   refine(hO.lower (by simp:w1.heap.size<=_)).other (fun g hg hs=> ?_);exact absurd (C.out.pack.sub g hs) (by omega)
  have HO:=ah rV.dx;have vz:=ah (C.out.keep (Keep.of_below H gB) (fun _ _ e=>e));have zb:=ah (oo.out.trans (Step.of_below H));clear H l9 hO rV e0 e4 oO;go_wp2_with fail;go_loopw [27] (fun i wr=>∃(k:Nat) (c:Nat->Prop) (s:Dk),k<=p.fresh.ks.length/\i= .int .i64 k/\Hid (yh wr c a M J lg d fb s n p op)/\Hid (Step S (Three c a M) w wr)/\Hid (s.waits.length<=k)/\Hid (p.lay p.fresh.ks o=p.lay (p.fresh.ks.drop k) s)/\
   Hid (aZ wr (Three c a M) 1 (.slice vo p.fresh.ks.length vc) p.fresh.ks.length ((p.fresh.ks.map fun k:Nat=>(k:Int)).map (.int .i64)))) (fun i _=>p.fresh.ks.length - (intOf i).toNat)
  case atStart=>exact⟨0,dR,o,aS _,rfl,vz,zb,ah (by rw[yK.out];exact aD _),ah rfl,HO⟩
  case round=>
   obtain⟨k,c,s,hk,rfl,f,o5,p9,pM,af⟩:=hrel;obtain⟨e0,e1,e2,_,e4,_,_,fJ,mo⟩:=f.out.cells;have zS:k<=4096:=by have:=mr.out;have:=qb.out;omega
   by_cases Y:k<p.fresh.ks.length
   ·have zP:(k:Int)<(p.fresh.ks.length:Int):=by omega
    obtain⟨b,HB⟩:=nm (p.fresh.ks[k]);have rA:b∈p.fresh.ks:=(by rw[<-HB.out];exact bF Y);have hb1:=tY.out.hi b rA;have yc:=uG (b:Int) (by omega) (by have:=qb.out;omega);obtain⟨kb,kq,rfl,hkc⟩:=aZ.EM af.out rfl k (.int .i64 (b:Int)) (by simp[bD Y,HB.out]);obtain⟨D,hD,hh,rF⟩:=f.out.fr.look b;have hz:(zeroValue 143).run Tryz.prog wr= .ok (.agg (aI zB).toArray) wr:=kQ wr;obtain⟨v1,ps1,nS,kr⟩:=hD.lookup jD fH hz xN (oD b yc);obtain⟨x,hx,rfl,nk⟩:=vV kr;have kg:x=p.fresh.img b:=by
     have h1:=(rF rA).symm.trans nk;injection h1 with h1
     injection h1 with h1
     exact h1.symm
    have y5:=ah kg;have HX:=ah hx;clear kr nk rF hh hD kg hx;have jb:Row (wr.alloc (.cells (aI zB).toArray 143)) wr.heap.size 143 (aI zB):=Row.new wr _ _;have rG:=ah (show (aI zB).length=512 by rw[bP,ja]);have R:=ah (show (aI x).length=512 by rw[bP,HX.out]);have q8:=iA x;have hll:p.fresh.ks.length<=4096:=(by have:=mr.out;have:=qb.out;omega);go_wp2_with (first|((refine dV rfl ?_);intro K hK;(refine jw 143 rfl _ kQ ?_);refine hK _ _ ?_)|((refine dV rfl ?_);intro K hK;(refine wp_store_row 143 _ _ rfl wr.heap.size 0 143 _ (aI x) rfl rfl jb (kS.trans (congrArg some R.out.symm)) (by rw[rG.out,R.out];omega) q8 ?_);intro w4 dn rP;refine hK _ _ (Stop.of ?_)))
    refine sN ?_;rw[mg _ _ (rG.out.trans R.out.symm)] at dn;have dZ:Below wr.heap.size wr w4:=(((Keep.refl (fun _=>False) wr).alloc _).trans (rP.mono (M':=fun g=>g=wr.heap.size) (fun _ _ e=>e)) (fun i hi e=>by omega)).below;have ql:=f.out.keep (Keep.of_below dZ gB) (fun _ _ e=>e);have fK:aZ w4 c 1 (.slice (some ⟨wr.heap.size,0,none⟩) 512 512) x.length (aI x):=by
     have:=dn.dx (S:=c) (k:=1) (off:=0) 512 512 (by rw[R.out];omega) (fun hs=>absurd (f.out.log.dk.sub _ hs) (dB _)) (aD _) (by simp[maxLen]);rw[dQ,aJ (by rw[R.out];omega)] at this;rw[HX.out];exact this
    have X:=(aR w4.heap.size w4).drew;have zA:=f.out.log.dk.ok.hi;have bH:=ah ql;have aB:=ah (GV d s c ((p.skip+b:Nat):Int) (.slice (some ⟨wr.heap.size,0,none⟩) 512 512) x w4.drew (ql.log.dk.below X) (fK.below X) (by have:=p9.out;omega));have za:=ah (o5.out.trans (Step.of_below dZ));have xE:=ah (af.out.below dZ);have zW:p.skip+b<=1000000:=(by have:=qb.out;have:=f.out.ok.fit;have:=f.out.ok.skip;omega);have a1:IntKind.i64.wrap ((p.skip:Int)+(b:Int))=((p.skip+b:Nat):Int):=(by rw[aG _ (by omega)];omega);obtain⟨z,HZ⟩:=nm (p.skip+b);rw[HZ.out] at aB a1;obtain⟨f0,_,f2,_,_,_,_,q9,_⟩:=ql.cells;clear ql fK dn rP jb q8 hz nS e0 e2 e4 mo;go_wp2_with fail;refine aP (fun W=>W.cell? ⟨J,0,none⟩=some (.pointer (some ⟨d,0,none⟩))/\W.cell? ⟨J,2,none⟩=some (.int .i64 p.skip)/\J<W.heap.size) (fun i=> !([11].contains i)) [0,1,2,3,4,5,6,7,8,9,10,11,12] rfl (by kernel_rfl) ⟨f0,f2,q9⟩ ?_
    repeat (refine oq ?_ rfl rfl rfl ?_ ?_;rotate_left;(focus intro W B;(try dsimp only at B);have r0:=B.1;have r1:=B.2.1;have r2:=B.2.2;go_simp;first|done|with_reducible rfl);try simp only[Act.put,aj,au,ak])
    refine dI rfl rfl rfl ?_;intro K hK;go_simp;obtain⟨j,q,qc⟩:∃j q,Hid (s.write ((z:Nat):Int) x=(j,q)):=⟨_,_,ah rfl⟩
    rw[qc.out] at aB;refine aB.out.mono ?_;rintro e w5 ⟨rfl,av,rX,kT⟩;have jv:=ah (show j.n=s.n by have:=s.qU ((z:Nat):Int) x;rw[qc.out] at this;exact this);have jO:=ah (show j.waits.length<=k+1 by have:=s.Bl ((z:Nat):Int) x;rw[qc.out] at this;have h2:=p9.out;have:j.waits.length<=s.waits.length+1:=this;omega);have dx:=bH.out.log.disk rX ((Step.of_below X).trans kT) jv.out;have O:=bH.out.turn dx.1 dx.2 (bH.out.ok.turn jv.out rfl rfl);have o6:=ah O.1;have l5:=ah (za.out.trans (O.2:Step (Three c a M) (Three av a M) w4 w5));have vv:=ah (xE.out.step (O.2:Step (Three c a M) (Three av a M) w4 w5));obtain⟨j0,_,j2,_,_,_,_,oH,_⟩:=O.1.cells;clear dx O rX kT X f0 f2 q9;refine hK.out _ _ ⟨j0,j2,oH⟩ ?_
    repeat (refine oq ?_ rfl rfl rfl ?_ ?_;rotate_left;(focus intro W B;(try dsimp only at B);have r0:=B.1;have r1:=B.2.1;have r2:=B.2.2;go_simp;first|done|with_reducible rfl);try simp only[Act.put,aj,au,ak])
    refine bR ?_;have N:p.lay (p.fresh.ks.drop k) s=if q=0 then p.lay (p.fresh.ks.drop (k+1)) j else(j,10):=by
     rw[cu Y,HB.out,p.zS,HZ.out,<-y5.out,qc.out]
    by_cases G:q=0
    ·subst G
     rw[if_pos rfl] at N;have lm:=ah (pM.out.trans N);clear N;go_wp2_with fail;go_roundw
     case rel=>exact⟨k+1,av,j,by omega,by go_num,o6,l5,jO,lm,vv⟩
     case measure=>simp[intOf];omega
    ·rw[if_neg G] at N
     have oK:(q !=0)=true:=(by simpa using G);have HM:=ah (show p.home A l=(j,n,p.dies,10) by
      unfold Pg.home
      rw[V.out]
      dsimp only
      rw[pM.out,N]
      simp)
     have F:=ah (nL J d j n p op S _ q w w5 o6.out.pack l5.out G);clear N;go_wp2_with (first|(go_at_call 88;go_must (refine F.out.mono ?_;rintro e o7 ⟨rfl,P,y,t⟩)))
     go_ret;rw[HM.out];exact⟨rfl,P,y,t⟩
   ·obtain rfl:k=p.fresh.ks.length:=by omega
    rw[kY] at pM;have bC:=ah (show p.lay p.fresh.ks o=(s,0) from pM.out);have HF:=ah (GX d s c wr f.out.log.dk (by have:=p9.out;omega));obtain⟨T,q,HR⟩:∃T q,Hid (s.sync=(T,q)):=⟨_,_,ah rfl⟩
    rw[HR.out] at HF;have fA:=ah (show T.n=s.n by have:=s.oH;rw[HR.out] at this;exact this);have sF:=ah (show T.waits.length<=s.waits.length by have:=s.CJ;rw[HR.out] at this;exact this);clear HO af;go_wp2_with (first|(go_at_call 16;go_must (refine HF.out.mono ?_;rintro e w6 ⟨rfl,nA,iO⟩;refine sO ?_)))
    refine sN ?_;have bB:=f.out.log.disk nA iO fA.out;have di:=f.out.turn bB.1 bB.2 (f.out.ok.turn fA.out rfl rfl);have I:=ah di.1;have r9:=ah (o5.out.trans (di.2:Step (Three c a M) (Three c a M) wr w6));clear bB di nA iO e0 e1 e2 e4 mo fJ
    by_cases G:q=0
    ·subst G
     obtain⟨f0,f1,_,_,_,_,_,Q,_⟩:=I.out.cells;have l6:=ah (PY lg d n a w6.drew (I.out.log.lg.keep (Keep.of_below ((aR _ w6).drew) gB) (fun _ _ e=>e)));have qo:=VH lg d T n c a w6.drew (I.out.log.below ((aR _ w6).drew)) (by rw[lQ.out];exact xV.out) (by rw[lQ.out];rfl) (by have:=sF.out;have:=p9.out;omega);obtain⟨u,HU⟩:=nm n.last;rw[HU.out] at l6 qo;obtain⟨φ,m,r,HX⟩:∃φ m r,Hid (n.trim T u=(φ,m,r)):=⟨_,_,_,ah rfl⟩
     have yx:=ah (show φ.n=T.n by have:=Lg.Qk T n u;rw[HX.out] at this;exact this);have ko:=ah (show m.frm=n.frm/\m.n=n.n by have:=Lg.NT T n u;rw[HX.out] at this;exact this);rw[HX.out] at qo;have vk:=ah qo;clear qo;go_wp2_with fail;refine aP (fun W=>W.cell? ⟨J,1,none⟩=some (.pointer (some ⟨lg,0,none⟩))/\J<W.heap.size) (fun i=> !([8,9].contains i)) [0,1,2,3,4,5,6,7,8,9,10] rfl (by kernel_rfl) ⟨f1,Q⟩ ?_
     repeat (refine oq ?_ rfl rfl rfl ?_ ?_;rotate_left;(focus intro W B;(try dsimp only at B);have r1:=B.1;have r2:=B.2;go_simp;first|done|with_reducible rfl);try simp only[Act.put,aj,au,ak])
     refine dI rfl rfl rfl ?_;intro K hK;go_simp;refine l6.out.mono ?_;rintro e w8 ⟨rfl,hw8⟩;subst w8;refine hK.out _ _ ⟨f1,Q⟩ ?_;refine dI rfl rfl rfl ?_;intro K hK;go_simp;refine vk.out.mono ?_;rintro e w9 ⟨rfl,yo,xP,lC,nH⟩;have Z:=I.out.turn lC ((Two.of_below ((aR _ w6).drew)).trans nH) (I.out.ok.turn yx.out ko.out.1 ko.out.2);have fo:=ah Z.1;have nJ:=ah (r9.out.trans (Z.2:Step (Three c a M) (Three yo xP M) w6 w9));obtain⟨j0,j1,j2,j3,j4,j5,j6,lJ,jF⟩:=Z.1.cells;have hf4:=jF 4;clear Z lC nH f0 f1 Q;refine hK.out _ _ ⟨j1,lJ⟩ ?_
     repeat (refine oq ?_ rfl rfl rfl ?_ ?_;rotate_left;(focus intro W B;(try dsimp only at B);have r1:=B.1;have r2:=B.2;go_simp;first|done|with_reducible rfl);try simp only[Act.put,aj,au,ak])
     refine bR ?_
     by_cases hr:r=0
     ·subst hr
      have HM:=ah (show p.home A l=(φ,m,{p with fresh:=Im.none},0) by
       unfold Pg.home
       rw[V.out]
       dsimp only
       rw[bC.out]
       dsimp only
       rw[HR.out]
       dsimp only
       rw[HU.out,HX.out]
       simp)
      have hmk:∀w:World,(Instr.makeMap 139 none).run Tryz.prog w= .ok (.map (some w.heap.size)) (w.alloc (.map #[] 0)):=fun w=>run_makeMap _ w
      go_wp2_with fail;go_ret;rw[HM.out];obtain⟨Sp',xK,y7⟩:=fo.out.anew;exact⟨rfl,_,xK.pack,nJ.out.trans y7⟩
     ·have zX:(r !=0)=true:=by simpa using hr
      have HM:=ah (show p.home A l=(φ,m,p.dies,10) by
       unfold Pg.home
       rw[V.out]
       dsimp only
       rw[bC.out]
       dsimp only
       rw[HR.out]
       dsimp only
       rw[HU.out,HX.out]
       simp[hr])
      have F:=ah (nL J d φ m p op S _ r w w9 fo.out.pack nJ.out hr);go_wp2_with (first|(go_at_call 88;go_must (refine F.out.mono ?_;rintro e o7 ⟨rfl,P,y,t⟩)))
      go_ret;rw[HM.out];exact⟨rfl,P,y,t⟩
    ·have oK:(q !=0)=true:=by simpa using G
     have HM:=ah (show p.home A l=(T,n,p.dies,10) by
      unfold Pg.home
      rw[V.out]
      dsimp only
      rw[bC.out]
      dsimp only
      rw[HR.out]
      simp[G])
     have F:=ah (nL J d T n p op S _ q w w6 I.out.pack r9.out G);go_wp2_with (first|(go_at_call 88;go_must (refine F.out.mono ?_;rintro e o7 ⟨rfl,P,y,t⟩)))
     go_ret;rw[HM.out];exact⟨rfl,P,y,t⟩
 ·have oK:(q !=0)=true:=by simpa using G
  have HE:=ah (show p.home A l=(o,n,p.dies,10) by unfold Pg.home;rw[V.out];simp[G]);have F:=ah (nL J d o n p op S _ q w w1 C.out.pack oo.out G);go_wp2_with (first|(go_at_call 88;go_must (refine F.out.mono ?_;rintro e w2 ⟨rfl,S2,y8,tQ⟩)))
  go_ret;rw[HE.out];exact⟨rfl,S2,y8,tQ⟩
theorem Uh (H d:Nat)(a:Dk)(l:Lg)(p:Pg)(op:Value)(S:Nat->Prop)(w:World)(h:ji w S H d a l p op)(qo:a.waits.length<=90000):
  Calls Tryz.prog 44 #[.pointer (some ⟨H,0,none⟩)] w fun e w'=>e= .returned (.int .i64 (p.sync a l).2.2.2)/\∃S',ji w' S' H d (p.sync a l).1 (p.sync a l).2.1 (p.sync a l).2.2.1 op/\Step S S' w w':=by
 have qc:=ah h;obtain⟨X,O,P,lg,fb,h,hS⟩:=h;obtain⟨c0,c1,c2,_,c4,_,c6,q8,_⟩:=h.cells;have Y:=ah h;clear h c2 c4;cases B:p.dead with
 |true=>
  rw[B] at c6;have m:=ah (show p.sync a l=(a,l,p,10) by unfold Pg.sync;simp[B]);go_enter Tryz.func44,Tryz.ntmps44;go_wp2_with fail;go_ret;rw[m.out];exact⟨rfl,S,qc.out,Step.refl _ _⟩
 |false=>
  rw[B] at c6;have j:=(aR w.heap.size w).drew;have n:=MC lg d l O w.drew (Y.out.log.lg.keep (Keep.of_below j gB) (fun _ _ e=>e));have HL:=ah (PY lg d l O w.drew (Y.out.log.lg.keep (Keep.of_below j gB) (fun _ _ e=>e)));have ql:=ah (RA d a X w.drew (Y.out.log.dk.below j));have t:=ah (Y.out.keep (Keep.of_below j gB) (fun _ _ e=>e));have G:=ah (show Step S (Three X O P) w w.drew from(Step.of_below j).eqv (fun _=>H8) (fun g=>(hS g).symm));have HY:=ah (Ud lg d a l X O w.drew (Y.out.log.below j) (by omega));obtain⟨b,v,q,D⟩:∃b v q,Hid (l.sync a=(b,v,q)):=⟨_,_,_,ah rfl⟩
  rw[D.out] at HY;have T:=ah (show b.n=a.n by have:=Lg.oH a l;rw[D.out] at this;exact this);have y:=ah (show v.frm=l.frm/\v.n=l.n/\v.last=l.last by have:=Lg.ES a l;rw[D.out] at this;exact this)
  by_cases he:l.synced=l.last
  ·rw[he] at n
   have N:=ah n;clear n;have p9:((l.last:Int)==(l.last:Int))=true:=(by simp);go_enter Tryz.func44,Tryz.ntmps44;go_wp2_with fail;refine aP (fun W=>W=w.drew) (fun i=> !([4,9,16].contains i)) [0,1,2,3,5,6,7,8,4,9,10,11,12,13,14,15,16,17,18,19] rfl (by kernel_rfl) rfl ?_
   repeat (refine oq ?_ rfl rfl rfl ?_ ?_;rotate_left;(focus intro W c;(try dsimp only at c);subst c;go_simp;first|done|with_reducible rfl);try simp only[Act.put,aj,au,ak])
   refine dI rfl rfl rfl ?_;intro K z;go_simp;refine N.out.mono ?_;rintro e x ⟨rfl,A⟩;subst x;refine z.out _ _ rfl ?_;refine dI rfl rfl rfl ?_;intro K z;go_simp;refine HL.out.mono ?_;rintro e x ⟨rfl,A⟩;subst x;refine z.out _ _ rfl ?_
   repeat (refine oq ?_ rfl rfl rfl ?_ ?_;rotate_left;(focus intro W c;(try dsimp only at c);subst c;go_simp;first|done|with_reducible rfl);try simp only[Act.put,aj,au,ak])
   refine dI rfl rfl rfl ?_;intro K z;go_simp;refine ql.out.mono ?_;rintro e x ⟨rfl,A⟩;subst x;refine z.out _ _ rfl ?_
   repeat (refine oq ?_ rfl rfl rfl ?_ ?_;rotate_left;(focus intro W c;(try dsimp only at c);subst c;go_simp;first|done|with_reducible rfl);try simp only[Act.put,aj,au,ak])
   refine bR ?_;cases V:a.dead with
   |false=>
    have m:=ah (show p.sync a l=(a,l,p,0) by unfold Pg.sync;simp[B,he,V]);go_wp2_with fail;go_ret;rw[m.out];exact⟨rfl,_,t.out.pack,G.out⟩
   |true=>
    have R:=ah (show ¬(l.synced=l.last/\a.dead=false) from fun h=>by rw[V] at h;cases h.2);go_wp2_with (first|(go_at_call 91;go_must (refine HY.out.mono ?_;rintro e Z ⟨rfl,J,I,k,o⟩;refine sO ?_)))
    refine sN ?_;have f:=t.out.turn k o (t.out.ok.turn T.out y.out.1 y.out.2.1);have r:=ah f.1;have s:=ah (G.out.trans (f.2:Step (Three X O P) (Three J I P) w.drew Z));clear f k o
    by_cases F:q=0
    ·subst F
     have m:=ah (show p.sync a l=(b,v,p,0) by unfold Pg.sync;rw[D.out];simp[B,R.out]);go_wp2_with (first|(go_at_call 88;go_must (refine(IZ H _).mono ?_;rintro e Q ⟨rfl,pM⟩;subst Q)))
     go_ret;rw[m.out];exact⟨rfl,_,r.out.pack,s.out⟩
    ·have m:=ah (show p.sync a l=(b,v,p.dies,10) by unfold Pg.sync;rw[D.out];simp[B,R.out,F])
     have M:=ah (nL H d b v p op S _ q w Z r.out.pack s.out F);go_wp2_with (first|(go_at_call 88;go_must (refine M.out.mono ?_;rintro e Q ⟨rfl,S3,E,C⟩)))
     go_ret;rw[m.out];exact⟨rfl,S3,E,C⟩
  ·have N:=ah n;clear n
   have qb:¬((l.synced:Int)=(l.last:Int)):=(by omega);have p9:((l.synced:Int)==(l.last:Int))=false:=(by simpa using qb);have R:=ah (show ¬(l.synced=l.last/\a.dead=false) from fun h=>he h.1);go_enter Tryz.func44,Tryz.ntmps44;go_wp2_with fail;refine aP (fun W=>W=w.drew) (fun i=> !([4,9].contains i)) [0,1,2,3,5,6,7,8,4,9,10,11,12,13,14,15,16,17,18,19] rfl (by kernel_rfl) rfl ?_
   repeat (refine oq ?_ rfl rfl rfl ?_ ?_;rotate_left;(focus intro W c;(try dsimp only at c);subst c;go_simp;first|done|with_reducible rfl);try simp only[Act.put,aj,au,ak])
   refine dI rfl rfl rfl ?_;intro K z;go_simp;refine N.out.mono ?_;rintro e x ⟨rfl,A⟩;subst x;refine z.out _ _ rfl ?_;refine dI rfl rfl rfl ?_;intro K z;go_simp;refine HL.out.mono ?_;rintro e x ⟨rfl,A⟩;subst x;refine z.out _ _ rfl ?_
   repeat (refine oq ?_ rfl rfl rfl ?_ ?_;rotate_left;(focus intro W c;(try dsimp only at c);subst c;go_simp;first|done|with_reducible rfl);try simp only[Act.put,aj,au,ak])
   repeat (refine QN rfl rfl (fun _ _ _ h=>h) rfl ?_)
   repeat (refine oq ?_ rfl rfl rfl ?_ ?_;rotate_left;(focus intro W c;(try dsimp only at c);subst c;go_simp;first|done|with_reducible rfl);try simp only[Act.put,aj,au,ak])
   refine bR ?_;go_wp2_with (first|(go_at_call 91;go_must (refine HY.out.mono ?_;rintro e Z ⟨rfl,J,I,k,o⟩;refine sO ?_)))
   refine sN ?_;have f:=t.out.turn k o (t.out.ok.turn T.out y.out.1 y.out.2.1);have r:=ah f.1;have s:=ah (G.out.trans (f.2:Step (Three X O P) (Three J I P) w.drew Z));clear f k o
   by_cases F:q=0
   ·subst F
    have m:=ah (show p.sync a l=(b,v,p,0) by unfold Pg.sync;rw[D.out];simp[B,R.out]);go_wp2_with (first|(go_at_call 88;go_must (refine(IZ H _).mono ?_;rintro e Q ⟨rfl,pM⟩;subst Q)))
    go_ret;rw[m.out];exact⟨rfl,_,r.out.pack,s.out⟩
   ·have m:=ah (show p.sync a l=(b,v,p.dies,10) by unfold Pg.sync;rw[D.out];simp[B,R.out,F])
    have M:=ah (nL H d b v p op S _ q w Z r.out.pack s.out F);go_wp2_with (first|(go_at_call 88;go_must (refine M.out.mono ?_;rintro e Q ⟨rfl,S3,E,C⟩)))
    go_ret;rw[m.out];exact⟨rfl,S3,E,C⟩
def strOf (l:List UInt8):ByteArray:=⟨l.toArray⟩
def Gb (a b:List UInt8):strOf a++strOf b=strOf (a++b):=by
 have h:(strOf a++strOf b).data=(strOf (a++b)).data:=by
  rw[ByteArray.data_append];simp[strOf]
 exact SC h
def aZ.strOf {l:List UInt8}(h:aZ w S 1 v l.length (aI l)):(convert 70 9 v).run Tryz.prog w= .ok (.string (strOf l)) w:=
 gF.str (S:=S) (Go.Proofs.YtogbkgmlhhahdaaGreat.strOf l) h 70 9 5 bG kX gW
def sJ (x:Nat):IntKind.u8.wrap (x:Int)=(x:Int)%256:=by simp[IntKind.wrap,IntKind.bits,IntKind.signed]
def OE (b:Nat):[Value.int .u8 (IntKind.u8.wrap (b:Int)),.int .u8 (IntKind.u8.wrap ((b:Int)/256)),.int .u8 (IntKind.u8.wrap ((b:Int)/65536)),.int .u8 (IntKind.u8.wrap ((b:Int)/16777216))]=aI (leB b 4):=by
 have d:(b:Int)/256=((b/256:Nat):Int):=by omega
 have c:(b:Int)/65536=((b/256/256:Nat):Int):=by omega
 have a:(b:Int)/16777216=((b/256/256/256:Nat):Int):=by omega
 rw[d,c,a,sJ,sJ,sJ,sJ];simp[leB,aI,Bd]
theorem Tw (b:Nat)(x:List UInt8)(w:World)(C:b<=1000000)(s:x.length=512):
  Calls Tryz.prog 84 #[.int .i64 b,.agg (aI x).toArray] w fun e A=>e= .returned (.string (strOf (vK b x)))/\Below w.heap.size w A:=by
 have m:=ah (show (aI x).length=512 by rw[bP,s]);go_enter Tryz.func84,Tryz.ntmps84;go_wp2_with (first|((refine dV rfl ?_);intro K l;(refine Cs 143 _ rfl (aI x) rfl ?_);refine l _ _ (Stop.of ?_)))
 refine sN ?_;obtain⟨a,f⟩:=nm (w.alloc (.cells (aI x).toArray 143));have q:Row a w.heap.size 143 (aI x):=by rw[<-f.out];exact Row.new w _ _
 have n:Below w.heap.size w a:=by rw[<-f.out];exact((Keep.refl (fun _=>False) w).alloc _).below
 rw[f.out];have r:aZ a gB 1 (.slice (some ⟨w.heap.size,0,none⟩) 512 512) x.length (aI x):=by
  have:=q.dx (S:=gB) (k:=1) (off:=0) 512 512 (by rw[m.out];omega) id (aD _) (by simp[maxLen]);rw[dQ,aJ (by rw[m.out];omega)] at this;rw[s];exact this
 have y:=ah (fun (W:World) (c:Below a.heap.size a W)=>(r.below c).strOf);go_wp2_with fail;refine aP (fun W=>Below a.heap.size a W) (fun i=> !([11,12].contains i)) [0,1,2,3,4,5,6,7,8,9,10,13,14,11,12,15,16] rfl (by kernel_rfl) ((aR _ a).drew) ?_
 repeat (refine oq ?_ rfl rfl rfl ?_ ?_;rotate_left;(focus intro W c;(try dsimp only at c);have B:=y.out W c;go_simp;first|done|with_reducible rfl);try simp only[Act.put,aj,au,ak])
 refine dI rfl rfl rfl ?_;intro K l;go_simp;obtain⟨p,d⟩:=nm ((a.alloc (.cells #[.int .u8 (IntKind.u8.wrap (b:Int)),.int .u8 (IntKind.u8.wrap ((b:Int)/256)),.int .u8 (IntKind.u8.wrap ((b:Int)/65536)),.int .u8 (IntKind.u8.wrap ((b:Int)/16777216))] 5)).drew);have t:Row p a.heap.size 5 (aI (leB b 4)):=by rw[<-d.out,<-OE];exact Row.new a _ _
 have j:Below a.heap.size a p:=by rw[<-d.out];exact((Keep.refl (fun _=>False) a).alloc _).below.drew
 rw[d.out];refine l.out _ _ j ?_;have g:=bW b 4;have o:aZ p gB 1 (.slice (some ⟨a.heap.size,0,none⟩) 4 4) (leB b 4).length (aI (leB b 4)):=by
  have:=t.dx (S:=gB) (k:=1) (off:=0) 4 4 (by rw[bP,g];omega) id (aD _) (by simp[maxLen]);rw[dQ,aJ (by rw[bP,g];omega)] at this;rw[g];exact this
 have v:=o.strOf;refine dI rfl rfl rfl ?_;intro K l;go_simp;refine l.out _ _ j ?_;have z:∀W:World,(Op.stringOp .add (strOf (leB b 4)) (strOf x)).run Tryz.prog W= .ok (.string (strOf (leB b 4)++strOf x)) W:=fun W=>run_string_add W _ _ (by show ((leB b 4).toArray.size:Int)<=_;simp[bW]) (by show (x.toArray.size:Int)<=_;simp[s])
 repeat (refine oq ?_ rfl rfl rfl ?_ ?_;rotate_left;(focus intro W c;(try dsimp only at c);have B:=y.out W c;go_simp;first|done|with_reducible rfl);try simp only[Act.put,aj,au,ak])
 refine bR ?_;go_wp2_with fail;go_ret;exact⟨by rw[Gb];rfl,n.trans (j.mono n.size)⟩
def Im.wG (f:Nat->List UInt8)(b:Nat):∀(a:List Nat) (m:Im),(a.foldl (fun m b=>m.put b (f b)) m).img b=if b∈a then f b else m.img b
 |[],m=>by simp
 |k::r,m=>by
  rw[List.foldl_cons,Im.wG f b r]
  by_cases h:b∈r
  ·simp[h]
  ·by_cases e:b=k
   ·subst e;simp[h,Im.put]
   ·simp[h,e,Im.put]
def Im.xV (f:Nat->List UInt8)(b:Nat):∀(a:List Nat) (m:Im),b∈(a.foldl (fun m b=>m.put b (f b)) m).ks↔b∈m.ks\/b∈a
 |[],m=>by simp
 |k::r,m=>by
  rw[List.foldl_cons,Im.xV f b r]
  simp only[Im.put,mJ,bO]
  constructor
  ·rintro((h|h)|h)
   ·exact .inr (.inl h)
   ·exact .inl h
   ·exact .inr (.inr h)
  ·rintro(h|h|h)
   ·exact .inl (.inr h)
   ·exact .inl (.inl h)
   ·exact .inr h
def Im.AV (f:Nat->List UInt8):∀(a:List Nat) (m:Im),m.ks.Pairwise (· < ·)->(a.foldl (fun m b=>m.put b (f b)) m).ks.Pairwise (· < ·)
 |[],_,h=>h
 |_::r,_,h=>Im.AV f r _ (xU h)
def Im.ext' {a b:Im}(d:a.ks=b.ks)(c:∀k,a.img k=b.img k):a=b:=by
 cases a;cases b
 simp only[Im.mk.injEq];exact⟨d,funext c⟩
def Gj {a b:List Nat}(c:a.Pairwise (· < ·))(d:b.Pairwise (· < ·))(h:∀x,x∈a↔x∈b):a=b:=by
 have:=CW (a:=a.map fun k:Nat=>(k:Int)) (b:=b.map fun k:Nat=>(k:Int)) (vF.2 (c.imp (fun h=>by omega))) (vF.2 (d.imp (fun h=>by omega))) (fun x=>by simp[fw,h]);exact(List.map_inj_right (fun _ _ h=>by omega)).1 this
structure Mix (m im:Im)(left:Lit->Bool)(F:Im):Prop where
 rise:F.ks.Pairwise (· < ·)
 ks:∀b:Nat,b∈F.ks↔b∈m.ks\/(b∈im.ks/\left (kI b)=false)
 img:∀b:Nat,F.img b=if b∈im.ks/\left (kI b)=false then im.img b else m.img b
def Ng (a b:Nat):(kI (a:Int)).sameKey (kI (b:Int))=decide (a=b):=by
 by_cases e:a=b
 ·subst e;simp[WideAt.sameKey_self (AQ _)]
 ·rw[bM e]
  cases h:(kI (a:Int)).sameKey (kI (b:Int)) with
  |false=>rfl
  |true=>exact absurd (WideAt.sameKey_eq h) (Rc e)
def Mix.start {m a:Im}{left:Lit->Bool}(f:m.ks.Pairwise (· < ·))(h:∀b∈a.ks,left (kI b)=true):Mix m a left m:=by
 have d:∀b:Nat,¬(b∈a.ks/\left (kI b)=false):=fun b c=>by rw[h b c.1] at c;cases c.2
 exact⟨f,fun b=>⟨.inl,fun e=>e.elim id (fun e=>absurd e (d b))⟩,fun b=>by rw[if_neg (d b)]⟩
def Mix.put {m a F:Im}{left:Lit->Bool}(h:Mix m a left F)(x:Nat)(c:x∈a.ks):Mix m a (fun z=>left z && !z.sameKey (kI x)) (F.put x (a.img x)):=by
 refine⟨xU h.rise,fun b=> ?_,fun b=> ?_⟩
 ·simp only[Im.put,mJ,h.ks,Ng]
  by_cases e:b=x
  ·subst e;simp[c]
  ·simp[e]
 ·simp only[Im.put,Ng]
  by_cases e:b=x
  ·subst e;simp[c]
  ·simp[e,h.img]
def Mix.done {m a F:Im}{left:Lit->Bool}(h:Mix m a left F)(d:m.ks.Pairwise (· < ·))(c:∀e,left e=false):F=m.over a:=by
 refine Im.ext' (Gj h.rise (Im.AV _ _ _ d) fun b=> ?_) fun b=> ?_
 ·rw[h.ks]
  unfold Im.over;rw[Im.xV];simp[c]
 ·rw[h.img]
  unfold Im.over;rw[Im.wG];simp[c]
theorem Qm (t a d:Nat)(A:Dk)(l:Lg)(p:Pg)(V:Value)(R:Im)(n:Nat)(S T:Nat->Prop)(u:FrameMode)(w:World)(h:ji w S a d A l p V)(f:sG w T t a R n)(i:∀g,S g->¬T g):
  CallsD Tryz.prog 56 #[.pointer (some ⟨t,0,none⟩)] u w fun e P s=>P=u/\e= .returned (.tuple #[])/\ji s S a d A l p (.pointer none)/\(∃D,s.heap[t]? =some (.cells #[.pointer none,.map (some D)] 147 (0,0)))/\Keep (fun g=>S g\/T g) w s:=by
 have j:=h.BS;obtain⟨I,H,F,G,J,h,K⟩:=h;obtain⟨D,f⟩:=f;obtain⟨_,_,_,_,_,Z,c6,N,E⟩:=h.cells;have Y:=E 5;have m:=f.obj;have X:w.cell? ⟨t,0,none⟩=some (.pointer (some ⟨a,0,none⟩)):=by simp[World.cell?,m]
 have Q:w.frozen? ⟨t,0,none⟩=false:=by simp[World.frozen?,m]
 have v:=f.sub _ f.st;have B:a≠t:=fun e=>i a j (e▸f.st)
 have z:¬t=a:=fun e=>B e.symm
 have C:=ah h;have M:=ah f;clear h f
 go_enter_d Tryz.func56,Tryz.ntmps56
 go_wp2_with fail;go_end0;obtain⟨W,b⟩:=nm ((w.setCell ⟨a,5,none⟩ (.pointer none)).setCell ⟨t,0,none⟩ (.pointer none));obtain⟨r,c⟩:=nm (w.setCell ⟨a,5,none⟩ (.pointer none));have k:Keep (· =a) w r:=by rw[<-c.out];exact(Keep.refl (· =a) _).setCell (p:=⟨a,5,none⟩) (.inr rfl) _
 have x:yh r I H F a G d J A l p (.pointer none):=C.out.self k C.out.ok rfl (by rw[<-c.out,iy _ a 5 _ _ _ C.out.obj];rfl);rw[c.out] at b;have o:Keep (· =t) r W:=by rw[<-b.out];exact(Keep.refl (· =t) _).setCell (p:=⟨t,0,none⟩) (.inr rfl) _
 have q:=(k.block t v z).trans m;have y:=x.keep o (fun g O e=>i g ((K g).2 O) (e▸M.out.st));rw[c.out,b.out];refine⟨rfl,⟨I,H,F,G,J,y,K⟩,⟨D,?_⟩,(k.mono (fun _ _ e=> .inl (e▸j))).trans o (fun _ _ e=> .inr (e▸M.out.st))⟩;rw[<-b.out,iy _ t 0 _ _ _ q];rfl
