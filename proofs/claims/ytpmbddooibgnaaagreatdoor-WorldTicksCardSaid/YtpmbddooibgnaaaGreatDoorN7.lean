/- parts -/
import Derived.Test.YtpmbddooibgnaaaGreatDoorN2
import Derived.Test.YtpmbddooibgnaaaGreatDoorN5
import Derived.Deep.MidRow
set_option maxRecDepth 100000
set_option maxHeartbeats 8000000
set_option linter.all false
namespace Go.Proofs.YtpmbddooibgnaaaGreatDoor
open Go.RowKit
structure Dk where
 n:Nat
 sec:Nat->List UInt8
 waits:List (Nat×List UInt8)
 fuel:Int
 dead:Bool
def behind (ws:List (Nat×List UInt8))(i:Nat)(x:List UInt8):List UInt8:=ws.foldl (fun x p=>if p.1=i then p.2 else x) x
def Dk.get (σ:Dk)(i:Nat):List UInt8:=behind σ.waits i (σ.sec i)
def pad (l:List UInt8):List UInt8:=l++List.replicate (512 - l.length) 0
theorem oI {l:List UInt8}(h:l.length<=512):(pad l).length=512:=by simp[pad];omega
theorem mY (a b:List (Nat×List UInt8))(i:Nat)(x:List UInt8):behind (a++b) i x=behind b i (behind a i x):=by simp[behind]
theorem vG:∀(a:List (Nat×List UInt8)) (i:Nat) (x:List UInt8),(∀p∈a,p.1≠i)->behind a i x=x
 |[],_,_,_=>rfl
 |p::a,i,x,h=>by
  have b:behind (p::a) i x=behind a i (if p.1=i then p.2 else x):=rfl
  rw[b,if_neg (h p (aY ..))]
  exact vG a i x fun q c=>h q (bn _ c)
theorem NC (a:List (Nat×List UInt8))(i k:Nat)(x:List UInt8)(l:k<a.length)(c:a[k].1=i)(d:∀j (g:j<a.length),k<j->a[j].1≠i):behind a i x=a[k].2:=by
 have e:a.take k++a[k]::a.drop (k+1)=a:=by rw[List.getElem_cons_drop,bM]
 have b:behind (a.take k++a[k]::a.drop (k+1)) i x=a[k].2:=by
  rw[mY]
  show behind (a.drop (k+1)) i (if a[k].1=i then a[k].2 else behind (a.take k) i x)=_
  rw[if_pos c]
  exact vG (a.drop (k+1)) i a[k].2 (fun p f=>by
   obtain⟨j,g,rfl⟩:=List.mem_iff_getElem.1 f
   rw[Um]
   exact d _ _ (by omega))
 rwa [e] at b
theorem CY (a:List (Nat×List UInt8))(i:Nat)(x:List UInt8)(b:x.length=512)(h:∀p∈a,p.2.length=512):(behind a i x).length=512:=by
 induction a generalizing x with
 |nil=>exact b
 |cons p a ih=>
  show (behind a i (if p.1=i then p.2 else x)).length=512
  refine ih _ ?_ fun q c=>h q (bn _ c)
  split
  ·exact h p (aY ..)
  ·exact b
def fq (p:Nat×List UInt8):List Value:= .int .i64 (p.1:Int)::aF p.2
def jq (ws:List (Nat×List UInt8)):List Value:=ws.flatMap fq
theorem Ap (a b:List (Nat×List UInt8)):jq (a++b)=jq a++jq b:=by simp[jq]
theorem iH {p:Nat×List UInt8}(h:p.2.length=512):(fq p).length=513:=by simp[fq,bC,h]
theorem tV {a:List (Nat×List UInt8)}(h:∀p∈a,p.2.length=512):(jq a).length=a.length*513:=by
 induction a with
 |nil=>rfl
 |cons p a ih=>
  have:=ih fun q b=>h q (bn _ b)
  simp only[jq,fK,aB,aZ] at*
  rw[iH (h p (aY ..)),this];omega
structure Dk.Ok (σ:Dk):Prop where
 lo:1<=σ.n
 hi:σ.n<=4096
 sec:∀i,(σ.sec i).length=512
 wt:∀p∈σ.waits,p.1<σ.n/\p.2.length=512
 fl: -1<=σ.fuel/\σ.fuel<=9223372036854775807
theorem Dk.Ok.get {a:Dk}(h:a.Ok)(i:Nat):(a.get i).length=512:=CY _ _ _ (h.sec i) fun p b=>(h.wt p b).2
def Dk.eu (σ:Dk):Dk:=if σ.fuel=0 then{σ with dead:=true} else if 0<σ.fuel then{σ with fuel:=σ.fuel - 1} else σ
def Dk.put (σ:Dk)(i:Nat)(l:List UInt8):Dk:={σ with waits:=σ.waits++[(i,pad l)]}
def Dk.flush (σ:Dk):Dk:={σ with sec:=σ.get,waits:=[]}
theorem Dk.get_put (a:Dk)(i j:Nat)(l:List UInt8):(a.put i l).get j=if i=j then pad l else a.get j:=by
 unfold Dk.get Dk.put
 rw[mY]
 rfl
theorem Dk.nN (a:Dk)(j:Nat):a.flush.get j=a.get j:=rfl
theorem Dk.Ok.put {b:Dk}(h:b.Ok)(i:Nat)(l:List UInt8)(c:i<b.n)(d:l.length<=512):(b.put i l).Ok:=
 ⟨h.lo,h.hi,h.sec,fun p a=>by
  rcases eB.1 a with a|a
  ·exact h.wt p a
  ·rw[cu.1 a];exact⟨c,oI d⟩,h.fl⟩
theorem Dk.Ok.eu {a:Dk}(h:a.Ok):a.eu.Ok:=by
 have b:=h.fl
 unfold Dk.eu
 split
 ·exact⟨h.lo,h.hi,h.sec,h.wt,h.fl⟩
 ·split
  ·refine⟨h.lo,h.hi,h.sec,h.wt,?_⟩
   show -1<=a.fuel - 1/\a.fuel - 1<=9223372036854775807
   omega
  ·exact h
def Dk.write (σ:Dk)(i:Int)(l:List UInt8):Dk×Int:=
 if σ.dead then(σ,10) else if i<0\/(σ.n:Int)<=i then(σ,1) else if 512<l.length then(σ,1) else
 if σ.eu.dead then(σ.eu,10) else(σ.eu.put i.toNat l,0)
def Dk.sync (σ:Dk):Dk×Int:=if σ.dead then(σ,10) else if σ.eu.dead then(σ.eu,10) else(σ.eu.flush,0)
def Dk.bad (σ:Dk)(i:Int):Int:=if σ.dead then 10 else if i<0\/(σ.n:Int)<=i then 1 else 0
structure nS (w:World)(S:Nat->Prop)(d:Nat)(σ:Dk)(gs:Nat)(wv:Value):Prop where
 ok:σ.Ok
 sub:∀g,S g->g<w.heap.size
 sd:S d
 sg:S gs
 ne:gs≠d
 obj:w.heap[d]? =some (.cells #[.slice (some ⟨gs,0,none⟩) σ.n σ.n,wv,.int .i64 σ.fuel,.bool σ.dead] 134 (0,0))
 blk:∃C,w.heap[gs]? =some (.cells C 239 (0,0))/\C.size=σ.n*512
 sec:∀i,i<σ.n->w.rangeAt gs (i*512) (aF (σ.sec i))
 own:aV w eG 0 241 513 wv σ.waits.length (jq σ.waits)
 sw:∀g,wv.ownBlock=some g->S g/\g≠d/\g≠gs
theorem nS.cells {w:World}{S:Nat->Prop}{d:Nat}{a:Dk}{c:Nat}{e:Value}(h:nS w S d a c e):
  w.cell? ⟨d,0,none⟩=some (.slice (some ⟨c,0,none⟩) a.n a.n)/\w.cell? ⟨d,1,none⟩=some e/\w.cell? ⟨d,2,none⟩=some (.int .i64 a.fuel)/\w.cell? ⟨d,3,none⟩=some (.bool a.dead)/\d<w.heap.size/\(∀i,i<4->w.frozen? ⟨d,i,none⟩=false):=by
 have b:=h.obj
 refine⟨?_,?_,?_,?_,(aj.1 b).1,?_⟩
 all_goals first
  |(simp[World.cell?,b];done)
  |(intro i _;simp[World.frozen?,b])
theorem mq (d:Nat)(c:Dk)(S:Nat->Prop)(j:Nat)(l:Value)(i:Int)(w:World)(h:nS w S d c j l):
  Calls Tryz.prog 148 #[.pointer (some ⟨d,0,none⟩),.int .i64 i] w fun e k=>e= .returned (.int .i64 (c.bad i))/\k=w:=by
 obtain⟨p,_,_,f,o,_⟩:=h.cells
 go_enter Tryz.func148,Tryz.ntmps148
 cases b:c.dead with
 |true=>
  rw[b] at f
  go_wp2_with fail
  go_ret
  exact⟨by simp[Dk.bad,b],rfl⟩
 |false=>
  rw[b] at f
  by_cases a:i<0\/(c.n:Int)<=i
  ·rcases a with a|a
   ·go_wp2_with fail
    go_ret
    exact⟨by simp[Dk.bad,b,a],rfl⟩
   ·have n:¬i<0:=by omega
    go_wp2_with fail
    go_ret
    exact⟨by simp[Dk.bad,b,a],rfl⟩
  ·have g:¬i<0:=fun x=>a (.inl x)
   have m:¬(c.n:Int)<=i:=fun x=>a (.inr x)
   go_wp2_with fail
   go_ret
   exact⟨by simp[Dk.bad,b,g,m],rfl⟩
theorem nS.WS {w l:World}{S:Nat->Prop}{d:Nat}{b a:Dk}{c:Nat}{n:Value}(h:nS w S d b c n)(e:Keep (· =d) w l)(f:a.n=b.n)(k:a.sec=b.sec)(y:a.waits=b.waits)(r:a.Ok)
  (o:l.heap[d]? =some (.cells #[.slice (some ⟨c,0,none⟩) b.n b.n,n,.int .i64 a.fuel,.bool a.dead] 134 (0,0))):nS l S d a c n:=by
 refine⟨r,fun g m=>aA (h.sub g m) e.size,h.sd,h.sg,h.ne,by rw[f];exact o,?_,fun i t=> ?_,?_,h.sw⟩
 ·obtain⟨C,s,q⟩:=h.blk
  exact⟨C,(e.block c (h.sub _ h.sg) h.ne).trans s,by rw[f];exact q⟩
 ·rw[k]
  intro j v z
  exact(e.cell (p:=⟨c,i*512+j,none⟩) (h.sub _ h.sg) h.ne).trans (h.sec i (by rw[<-f];exact t) j v z)
 ·rw[y]
  exact h.own.keep fun g m x k=>⟨e.block g x (h.sw g m).2.1,k⟩
theorem yK (d:Nat)(a:Dk)(S:Nat->Prop)(l:Nat)(n:Value)(w:World)(h:nS w S d a l n)(j:a.dead=false):
  Calls Tryz.prog 149 #[.pointer (some ⟨d,0,none⟩)] w fun e m=>e= .returned (.bool (!a.eu.dead))/\nS m S d a.eu l n/\Keep (· =d) w m:=by
 obtain⟨_,_,o,q,y,k⟩:=h.cells
 have x:=k 2 (by omega)
 have t:=k 3 (by omega)
 have c:=h.obj
 have r:=h.ok.fl.2
 have b:=h.ok.eu
 rw[j] at q
 go_enter Tryz.func149,Tryz.ntmps149
 by_cases i:a.fuel=0
 ·rw[i] at o
  go_wp2_with fail
  go_ret
  have f:a.eu={a with dead:=true}:=by unfold Dk.eu;rw[if_pos i]
  rw[f] at b ⊢
  have g:Keep (· =d) w (w.setCell ⟨d,3,none⟩ (.bool true)):=(Keep.refl (· =d) w).setCell (p:=⟨d,3,none⟩) (.inr rfl) _
  refine⟨rfl,h.WS g rfl rfl rfl b ?_,g⟩
  rw[gF w d 3 _ _ _ c]
  rfl
 ·by_cases s:0<a.fuel
  ·have v:IntKind.i64.wrap (a.fuel - 1)=a.fuel - 1:=aM _ (by omega)
   go_wp2_with fail
   go_ret
   have f:a.eu={a with fuel:=a.fuel - 1}:=by unfold Dk.eu;rw[if_neg i,if_pos s]
   rw[f] at b ⊢
   have g:Keep (· =d) w (w.setCell ⟨d,2,none⟩ (.int .i64 (a.fuel - 1))):=(Keep.refl (· =d) w).setCell (p:=⟨d,2,none⟩) (.inr rfl) _
   refine⟨by simp[j],h.WS g rfl rfl rfl b ?_,g⟩
   rw[gF w d 2 _ _ _ c]
   rfl
  ·go_wp2_with fail
   go_ret
   have f:a.eu=a:=by unfold Dk.eu;rw[if_neg i,if_neg (by omega)]
   rw[f,j]
   exact⟨rfl,h,Keep.refl _ w⟩
theorem Mr (d:Nat)(a:Dk)(S:Nat->Prop)(b:Nat)(f:Value)(w:World)(h:nS w S d a b f):
  Calls Tryz.prog 87 #[.pointer (some ⟨d,0,none⟩)] w fun e c=>e= .returned (.int .i64 a.n)/\c=w:=by
 obtain⟨g,_,_,i,j,k⟩:=h.cells
 go_enter Tryz.func87,Tryz.ntmps87
 go_wp2_with fail
 go_ret
 exact⟨rfl,rfl⟩
theorem Qp (d:Nat)(a:Dk)(S:Nat->Prop)(b:Nat)(f:Value)(w:World)(h:nS w S d a b f):
  Calls Tryz.prog 73 #[.pointer (some ⟨d,0,none⟩)] w fun e c=>e= .returned (.bool a.dead)/\c=w:=by
 obtain⟨g,_,_,i,j,k⟩:=h.cells
 go_enter Tryz.func73,Tryz.ntmps73
 go_wp2_with fail
 go_ret
 exact⟨rfl,rfl⟩
theorem BU {w:World}{b o n:Nat}{c:List Value}(h:w.rangeAt b o c)(f:b<w.heap.size)(i:c.length=n)(g:n<=maxLen):bq w eG 1 (.slice (some ⟨b,o,none⟩) n n) n c:=
 ⟨some ⟨b,o,none⟩,n,rfl,aC _,g,by rw[i,eY],fun e=>(by cases e),fun k a=>(by cases a;exact⟨rfl,f,id⟩),fun j u d=>⟨b,o,rfl,h j u d⟩⟩
theorem sU:∀{a:List (Nat×List UInt8)} (_:∀p∈a,p.2.length=512) (k:Nat) (c:k<a.length) (j:Nat) (v:Value),(fq a[k])[j]? =some v->(jq a)[k*513+j]? =some v
 |[],_,k,c,_,_,_=>absurd c (by simp)
 |p::a,h,0,_,j,v,d=>by
  have e:(jq (p::a))=fq p++jq a:=rfl
  have b:(fq p)[j]? =some v:=d
  rw[e,Fj,fZ,fI (bO.1 b).1]
  exact b
 |p::a,h,k+1,c,j,v,d=>by
  have e:(jq (p::a))=fq p++jq a:=rfl
  have b:=iH (h p (aY ..))
  have f:=sU (fun q g=>h q (bn _ g)) k (by simpa using c) j v d
  rw[e,bP (by rw[b];omega),b,show (k+1)*513+j - 513=k*513+j from by omega]
  exact f
theorem Nc (d:Nat)(a:Dk)(S:Nat->Prop)(O:Nat)(X:Value)(i:Nat)(w:World)(h:nS w S d a O X)(hd:a.dead=false)(hi:i<a.n):
  Calls Tryz.prog 217 #[.pointer (some ⟨d,0,none⟩),.int .i64 i] w fun e W=>∃v,e= .returned (.tuple #[v,.int .i64 0])/\aV W eG w.heap.size 5 1 v 512 (aF (a.get i))/\Below w.heap.size w W:=by
 obtain⟨c0,c1,_,_,hl,_⟩:=h.cells
 have H:a.bad i=0:=by unfold Dk.bad;rw[hd];simp;omega
 have o:=mq d a S O X i w h
 rw[H] at o
 have T:=ah o;clear o
 obtain⟨wo,wc,rfl,qc,qm,_,_⟩:=bq.form h.own.dM
 have r:=ah h.ok.wt
 have pV:(i:Int)<(a.n:Int):=by omega
 have qf:IntKind.i64.wrap ((a.waits.length:Int) - 1)=(a.waits.length:Int) - 1:=aM _ (by omega)
 go_enter Tryz.func217,Tryz.ntmps217
 go_wp2_with (first
  |(go_at_call 148;go_must (refine T.out.mono ?_;rintro e Z ⟨rfl,hw⟩;subst Z)))
 go_loopw [7] (fun x wr=>∃(k:Nat) (z:Int),k<=a.waits.length/\z+1=k/\x= .int .i64 z/\wr=w/\∀j (l:j<a.waits.length),k<=j->a.waits[j].1≠i) (fun x _=>(intOf x+1).toNat)
 case atStart=>exact⟨a.waits.length,_,aC _,by omega,rfl,rfl,fun j l hk=>absurd l (by omega)⟩
 case round=>
  obtain⟨k,z,hk,hz,rfl,rfl,s⟩:=hrel
  rcases Ra k with F|F
  ·subst F
   obtain rfl:z= -1:=by omega
   have m:a.get i=a.sec i:=vG _ _ _ fun p B=>by
    obtain⟨j,l,rfl⟩:=List.mem_iff_getElem.1 B
    exact s j l (aR _)
   have f:=BU (h.sec i hi) (h.sub _ h.sg) (n:=512) (by rw[bC,h.ok.sec]) (by simp[maxLen])
   have b:=vD (.slice (some ⟨O,i*512,none⟩) 512 512) 512 _ wr eG (fun g m=>m.elim) f (fO _) (by omega)
   have q:=ah b;clear b
   go_wp2_with (first
    |(go_at_call 335;go_must (refine q.out.mono ?_;rintro e Y ⟨v,rfl,G,K⟩)))
   go_ret2
   rw[m]
   exact⟨v,rfl,G,K⟩
  ·obtain⟨j,rfl⟩:∃j,k=j+1:=⟨k - 1,by omega⟩
   obtain rfl:z=(j:Int):=by omega
   clear hz
   have l:j<a.waits.length:=by omega
   have A:=(r.out _ (bJ l)).2
   obtain⟨g,rfl,c⟩:∃g,wo=some ⟨g,0,none⟩/\∀y u,(fq a.waits[j])[y]? =some u->wr.cell? ⟨g,j*513+y,none⟩=some u:=by
    obtain⟨⟨qo,M⟩,_⟩:=h.own
    rcases M with ⟨_,h0⟩|⟨g,ql,J,G,_⟩
    ·omega
    ·cases G
     refine⟨g,rfl,fun y u P=> ?_⟩
     have E:=sU (fun p B=>(r.out p B).2) j l y u P
     obtain⟨J,C,_,Q,_⟩:=aV.row h.own
     rw[C.cell,<-E,<-Q,jf]
     split
     ·rfl
     ·exfalso
      have h2:=(bO.1 E).1
      rw[tV (fun p B=>(r.out p B).2)] at h2
      omega
   have p9:(j:Int)<(a.waits.length:Int):=by omega
   have V:wr.cell? ⟨g,j*513,none⟩=some (.int .i64 (a.waits[j].1:Int)):=c 0 _ rfl
   have R:wr.rangeAt g (j*513+1) (aF a.waits[j].2):=fun y u P=>by
    rw[mR,uj 1]
    exact c (y+1) u P
   by_cases t:a.waits[j].1=i
   ·have m:a.get i=a.waits[j].2:=NC _ _ _ _ l t fun y N D=>s y N (by omega)
    rw[t] at V
    have I:g<wr.heap.size:=(h.own.1.lt _ rfl).2
    have f:=BU R I (n:=512) (by rw[bC,A]) (by simp[maxLen])
    have b:=vD (.slice (some ⟨g,j*513+1,none⟩) 512 512) 512 _ wr eG (fun g m=>m.elim) f (fO _) (by omega)
    have q:=ah b;clear b
    have HG:=ah m;clear f m
    have HE:=ah t;clear t
    go_wp2_with (first
     |(go_at_call 335;go_must (refine q.out.mono ?_;rintro e Y ⟨v,rfl,G,K⟩)))
    go_ret2
    rw[HG.out]
    exact⟨v,rfl,G,K⟩
   ·have qb:(((a.waits[j].1:Nat):Int)==(i:Int))=false:=fV.2 (by omega)
    go_wp2_with fail
    go_roundw
    case rel=>exact⟨j,(j:Int) - 1,by omega,by omega,by go_num,trivial,fun y N D=>by
     rcases Nat.eq_or_lt_of_le D with e|e
     ·subst e;exact t
     ·exact s y N (by omega)⟩
    case measure=>simp[intOf]
def zB:List UInt8:=List.replicate 512 0
theorem gG:zB.length=512:=by unfold zB;exact List.length_replicate
theorem wR (w:World):(zeroValue 241).run Tryz.prog w= .ok (.agg (fq (0,zB)).toArray) w:=by kernel_rfl
theorem Ic (i:Int):Tryz.prog.built 241 [(0,.int .i64 i)]=some (Value.int .i64 i::aF zB).toArray:=by kernel_rfl
theorem nE:(Tryz.prog.info? 241).map (fun i=>i.size)=some 513:=by kernel_rfl
theorem GL:(Tryz.prog.info? 241).map (fun i=>(i.zero,i.size,i.bytes))=some (some (.agg (fq (0,zB)).toArray),513,520):=by kernel_rfl
theorem Ao:((Tryz.prog.info? 241).bind (·.zero)).isSome=true:=by kernel_rfl
theorem Eo (v:Value)(n:Nat)(l:List UInt8):splice (v::aF (List.replicate n 0)) 1 (aF l)=v::aF (l++List.replicate (n - l.length) 0):=by
 unfold splice
 rw[iT,gT,bC,uj 1,kX]
 simp[aF]
theorem kZ (a b:List Value)(h:a.length=b.length):splice a 0 b=b:=by
 unfold splice
 rw[gT,fZ,<-h,iP];simp
theorem Ep (i:Int)(l:List UInt8):splice (Value.int .i64 i::aF zB) 1 (aF l)=Value.int .i64 i::aF (pad l):=Eo _ 512 l
theorem Dk.dh (a:Dk):a.eu.n=a.n/\a.eu.sec=a.sec/\a.eu.waits=a.waits:=by unfold Dk.eu;split<;>(try split)<;>exact⟨rfl,rfl,rfl⟩
theorem Nb (d:Nat)(b:Dk)(S:Nat->Prop)(M:Nat)(t:Value)(i:Nat)(v:Value)(l:List UInt8)(w:World)(h:nS w S d b M t)(hd:b.dead=false)(hi:i<b.n)(hl:l.length<=512)(eH:b.eu.dead=false)
  (hv:bq w S 1 v l.length (aF l)) (j3:b.waits.length<=1000000):
  Calls Tryz.prog 89 #[.pointer (some ⟨d,0,none⟩),.int .i64 i,v] w fun e w'=>e= .returned (.int .i64 0)/\∃S' dM,nS w' S' d (b.eu.put i l) M dM/\Step S S' w w':=by
 have di:b.bad i=0:=by unfold Dk.bad;rw[hd];simp;omega
 have qb:=mq d b S M t i w h
 rw[di] at qb
 have fo:=ah qb;clear qb
 obtain⟨vo,vc,rfl,kz,qf,kC,j6⟩:=bq.form hv
 have kD:¬((512:Int)<(l.length:Int)):=by omega
 have A:=yK d b S M t w h hd
 rw[eH] at A
 have HB:=ah A;clear A
 have j4:∀(x:Bool) (w:World),(Op.unary .not (.bool x)).run Tryz.prog w= .ok (.bool (!x)) w:=fun _ _=>rfl
 go_enter Tryz.func89,Tryz.ntmps89
 go_wp2_with (first
  |(go_at_call 148;go_must (refine fo.out.mono ?_;rintro e E ⟨rfl,hw⟩;subst E))
  |(go_at_call 149;go_must (refine HB.out.mono ?_;rintro e E ⟨rfl,a,Y⟩;refine Stop.of ?_)))
 refine Stop.on ?_
 obtain⟨c0,c1,c2,c3,X,dn⟩:=a.cells
 have jb:=dn 1 (by omega)
 obtain⟨x,HX⟩:∃x,Hid (E.heap.size=x):=⟨_,ah rfl⟩
 have ai:Row (E.alloc (.cells (fq (0,zB)).toArray 241)) E.heap.size 241 (fq (0,zB)):=Row.new E _ _
 have bf:=ah (show (fq (0,zB)).length=513 from iH gG)
 have V:=ah (show (Value.int .i64 (i:Int)::aF zB).length=513 by rw[aZ,bC,gG])
 go_wp2_with (first
  |((refine bS rfl ?_);intro K H;(refine xI 241 _ rfl (Value.int .i64 i::aF zB) (Ic i) ?_);refine H _ _ ?_)
  |((refine bS rfl ?_);intro K H;(refine gZ 241 rfl _ wR ?_);refine H _ _ ?_)
  |((refine bS rfl ?_);intro K H;(refine wp_store_row 241 _ _ rfl E.heap.size 0 241 _ (Value.int .i64 i::aF zB) rfl rfl ai (nE.trans (congrArg some V.out.symm)) (by rw[bf.out,V.out];omega) (EA (i,zB)) ?_);intro w2 T af;refine H _ _ (Stop.of ?_)))
 refine Stop.on ?_
 rw[show splice (fq (0,zB)) 0 (Value.int .i64 (i:Int)::aF zB)=Value.int .i64 (i:Int)::aF zB from kZ _ _ (bf.out.trans V.out.symm)] at T
 rw[HX.out] at T af
 clear ai
 have av:Keep (· =x) E w2:=((Keep.refl (· =x) E).alloc (.cells (fq (0,zB)).toArray 241)).trans af (fun _ _ e=>e)
 have qy:¬S x:=fun e=>absurd (a.sub x e) (by rw[HX.out];exact cO _)
 have qf:bq w2 eG 1 (.slice vo l.length vc) l.length (aF l):=by
  have e1:=(hv.step (S':=S) ⟨Y.mono (fun _ _ e=>e▸h.sd),fun g m=> .inl m⟩)
  exact e1.keep fun g _ m hs=>⟨av.block g m (fun e=>by rw[e,HX.out] at m;exact cO _ m),id⟩
 have f:=ah (bC l)
 have q:=qf.first (P:=Tryz.prog) l.length (aC _)
 rw[eY,aL (eO f.out)] at q
 have q:=ah q
 rw[HX.out]
 go_wp2_with (first
  |((refine bS rfl ?_);intro K H;(refine nA (.tmp 24) (.tmp 25) 154 154 rfl 5 1 1 (.int .u8 0) aU jl x 1 241 l.length 512 512 (some ⟨x,1,none⟩) _ rfl T (.slice vo l.length vc) rfl l.length (aF l) rfl ?_ ?_ q.out (fun _=>rfl) ?_ (fO _) ?_);go_must ((focus (exact(dx hl).symm));(focus (rw[f.out,eY]));(focus (rw[f.out,V.out];omega));intro s p9 iO;refine H _ _ (Stop.of ?_))))
 refine Stop.on ?_
 rw[Ep] at p9
 have o:Row s x 241 (fq (i,pad l)):=p9
 clear p9 q f qf T
 have k:Keep (· =x) E s:=av.trans iO (fun _ _ e=>e)
 have qO:¬d=x:=fun e=>qy (e▸a.sd)
 have f:=iH (p:=(i,pad l)) (oI hl)
 have pV:∀v∈fq (i,pad l),v.oneCell'=true:=EA (i,pad l)
 generalize hC:fq (i,pad l)=C at o f pV
 have HC:=ah hC;clear hC
 have HL:=ah f;clear f
 have O:x<s.heap.size:=o.lt
 have r:d<s.heap.size:=aA X k.size
 have qc:s.cell? ⟨d,1,none⟩=some t:=(k.cell X qO).trans c1
 go_wp2_with fail
 refine aP (fun W=>W.cell? ⟨d,1,none⟩=some t/\d<W.heap.size/\W.rangeAt x 0 C/\x<W.heap.size) (fun i=> !([6,7,10].contains i)) [0,1,2,3,4,5,6,7,8,9,10] rfl (by kernel_rfl) ⟨qc,r,o.whole,O⟩ ?_
 repeat ((refine bE (v:= ?_) rfl rfl (fun _ _ _ h=>h) rfl (fun W N=> ?_) ?_);rotate_left;(focus ((try dsimp only at N);have q0:=N.1;have q1:=N.2.1;have q2:=N.2.2.1;have q3:=N.2.2.2;first|(clear q2;go_simp;first|done|with_reducible rfl)));(try simp only[Act.put,ak,ay,ax]))
 refine bE (v:= .agg C.toArray) rfl rfl (fun _ _ _ h=>h) rfl (fun W N=> ?_) ?_
 ·refine jA 241 (.tmp 8) rfl x 0 rfl C _ N.2.2.1 Tryz.underlying241 rfl (nE.trans (congrArg some HL.out.symm))
 simp only[Act.put,ak,ay,ax]
 have j5:Row (s.drew.alloc (.cells C.toArray 241)) s.heap.size 241 C:=Row.new s.drew C _
 have z:Keep eG s (s.drew.alloc (.cells C.toArray 241)):=((Keep.refl eG s).drew).alloc _
 refine bT rfl rfl rfl ?_;intro K H
 refine qW 132 241 (.tmp 32) rfl 513 C rfl HL.out (by omega) (by omega) Tryz.underlying132 nE Ao ?_
 refine H.out _ _ ⟨(z.cell r id).trans qc,aA r z.size,fun j v hv=>(z.cell (p:=⟨x,0+j,none⟩) O id).trans (o.whole j v hv),aA O z.size⟩ ?_
 have B:∀y,t.ownBlock=some y->y<E.heap.size/\y≠x/\y≠d:=fun y I=>⟨(a.own.1.lt _ I).2,fun e=>qy (e▸(a.sw y I).1),(a.sw y I).2.1⟩
 have qo:aV (s.drew.alloc (.cells C.toArray 241)) eG 0 241 513 t b.waits.length (jq b.waits):=by
  have:=a.own
  rw[b.dh.2.2] at this
  exact this.keep fun y I hl _=>⟨(z.block y (aA hl k.size) id).trans (k.block y hl (B y I).2.1),id⟩
 have ql:Src Tryz.prog 513 132 (.slice (some ⟨s.heap.size,0,none⟩) 1 1) 1 C (s.drew.alloc (.cells C.toArray 241)):=iB C _ _ 1 1 rfl Tryz.underlying132 (by rw[HL.out]) pV
 refine bT rfl rfl rfl ?_;intro K H
 refine uI (.tmp 31) (.tmp 33) 132 132 rfl eG 0 241 513 520 _ Tryz.underlying132 GL (by simp only[Value.cells,pz];exact iH (p:=(0,zB)) gG) t b.waits.length _ rfl qo _ 1 C rfl ql (fun _ h=>h.elim) (aR _) (by simp only[maxLen];omega) (by omega) ?_
 intro ao c J Q eZ _ q8
 have n:Keep (fun g=>t.ownBlock=some g) s J:=(z.mono (fun _ _ h=>h.elim)).trans eZ (fun _ _ h=>h)
 have d9:J.cell? ⟨d,1,none⟩=some t:=(n.cell r (fun e=>(B _ e).2.2 rfl)).trans qc
 have jv:d<J.heap.size:=aA r n.size
 refine H.out _ _ ⟨d9,jv,fun j v hv=>(n.cell (p:=⟨x,0+j,none⟩) O (fun e=>(B _ e).2.1 rfl)).trans (o.whole j v hv),aA O n.size⟩ ?_
 have ko:J.frozen? ⟨d,1,none⟩=false:=(n.frozen (p:=⟨d,1,none⟩) r (fun e=>(B _ e).2.2 rfl)).trans ((k.frozen (p:=⟨d,1,none⟩) X qO).trans jb)
 simp only[Act.put,ak,ay,ax]
 repeat ((refine bE (v:= ?_) rfl rfl (fun _ _ _ h=>h) rfl (fun W N=> ?_) ?_);rotate_left;(focus ((try dsimp only at N);have q0:=N.1;have q1:=N.2.1;(go_simp;first|done|with_reducible rfl)));(try simp only[Act.put,ak,ay,ax]))
 refine jR rfl rfl rfl (by kernel_rfl) ?_;intro K H;go_simp
 refine H.out _ _ ?_
 refine bN ?_
 go_wp2_with fail
 go_ret
 have R:Keep (· =d) J (J.setCell ⟨d,1,none⟩ (.slice ao (b.waits.length+1) c)):=(Keep.refl (· =d) J).setCell (p:=⟨d,1,none⟩) (.inr rfl) _
 have Z:Keep (fun g=>g=x\/t.ownBlock=some g) E J:=(k.mono (fun _ _ h=> .inl h)).trans n (fun _ _ h=> .inr h)
 have G:Keep (fun g=>g=x\/t.ownBlock=some g\/g=d) E (J.setCell ⟨d,1,none⟩ (.slice ao (b.waits.length+1) c)):=(Z.mono (fun _ _ h=>h.elim .inl (fun h=> .inr (.inl h)))).trans R (fun _ _ h=> .inr (.inr h))
 have qm:M<E.heap.size:=a.sub _ a.sg
 have q9:¬(M=x\/t.ownBlock=some M\/M=d):=fun e=>by
  rcases e with e|e|e
  ·exact qy (e▸a.sg)
  ·exact(a.sw _ e).2.2 rfl
  ·exact a.ne e
 have bg:J.heap[d]? =some (.cells #[.slice (some ⟨M,0,none⟩) b.eu.n b.eu.n,t,.int .i64 b.eu.fuel,.bool b.eu.dead] 134 (0,0)):=(Z.block d X (fun e=>e.elim qO (fun e=>(B _ e).2.2 rfl))).trans a.obj
 have F:∀y,y<s.heap.size->t.ownBlock≠some y->(Value.slice ao (b.waits.length+1) c).ownBlock≠some y:=fun y I=>q8 y (aA I z.size)
 have qC:Step S (fun g=>S g\/(Value.slice ao (b.waits.length+1) c).ownBlock=some g) w (J.setCell ⟨d,1,none⟩ (.slice ao (b.waits.length+1) c)):=by
  refine⟨(Y.mono (fun _ _ e=>e▸h.sd)).trans G (fun g m e=> ?_),fun g m=> ?_⟩
  ·rcases e with e|e|e
   ·rw[e,<-HX.out] at m;exact absurd Y.size (jX.2 m)
   ·exact(h.sw g e).1
   ·exact e▸h.sd
  ·rcases m with m|m
   ·exact .inl m
   ·by_cases I:g<w.heap.size
    ·by_cases hw:t.ownBlock=some g
     ·exact .inl (h.sw g hw).1
     ·exact absurd m (F g (aA I (aI Y.size k.size)) hw)
    ·exact .inr (aX.1 I)
 refine⟨rfl,_,_,⟨a.ok.put i l (by rw[b.dh.1];exact hi) hl,fun g m=> ?_,.inl a.sd,.inl a.sg,a.ne,?_,?_,fun j hj=> ?_,?_,fun g m=>⟨.inr m,?_,?_⟩⟩,qC⟩
 ·rcases m with m|m
  ·exact aA (a.sub g m) G.size
  ·exact aA (Q.1.lt _ m).2 R.size
 ·rw[gF J d 1 _ _ _ bg]
  rfl
 ·obtain⟨D,h1,h2⟩:=a.blk
  exact⟨D,(G.block M qm q9).trans h1,h2⟩
 ·intro y u hu
  exact(G.cell (p:=⟨M,j*512+y,none⟩) qm q9).trans (a.sec j hj y u hu)
 ·have e1:(b.eu.put i l).waits.length=b.waits.length+1:=by simp[Dk.put,b.dh.2.2]
  have e2:jq (b.eu.put i l).waits=jq b.waits++C:=by
   rw[show (b.eu.put i l).waits=b.waits++[(i,pad l)] by simp[Dk.put,b.dh.2.2],Ap,<-HC.out]
   simp[jq]
  rw[e1,e2]
  exact Q.keep fun y I hl _=>⟨R.block y hl (fun e=>F d r (fun e'=>(B _ e').2.2 rfl) (e▸I)),id⟩
 ·exact fun e=>F d r (fun e'=>(B _ e').2.2 rfl) (e▸m)
 ·exact fun e=>F M (aA qm k.size) (fun e'=>(a.sw _ e').2.2 rfl) (e▸m)
theorem nS.wait {w:World}{S:Nat->Prop}{d:Nat}{c:Dk}{r:Nat}{n:Value}(h:nS w S d c r n)(k:Nat)(t:k<c.waits.length):
  ∃g a,n= .slice (some ⟨g,0,none⟩) c.waits.length a/\w.rangeAt g (k*513) (fq c.waits[k])/\g<w.heap.size/\c.waits.length<=a/\a<=9223372036854775807:=by
 obtain⟨B,wc,rfl,q,i,A,z⟩:=bq.form h.own.dM
 obtain⟨⟨v,j⟩,_⟩:=h.own
 rcases j with ⟨o,x⟩|⟨g,a,f,o,_⟩
 ·omega
 ·cases o
  obtain⟨f,b,_,m,_⟩:=aV.row h.own
  refine⟨g,wc,rfl,fun y u s=> ?_,b.lt,q,i⟩
  have e:=sU (fun p l=>(h.ok.wt p l).2) k t y u s
  rw[b.cell,<-e,<-m,jf]
  split
  ·rfl
  ·exfalso
   have i:=(bO.1 e).1
   rw[tV (fun p l=>(h.ok.wt p l).2)] at i
   omega
theorem Mi (b c:List Value)(a y:Nat)(d:y<c.length)(f:a+c.length<=b.length):(splice b a c)[a+y]? =c[y]? :=by
 unfold splice
 have e:(b.take a).length=a:=by rw[aQ];omega
 rw[bP (by omega),e,dD,fI d]
theorem Js (b d:List Value)(a y:Nat)(c:y<a\/a+d.length<=y)(f:a+d.length<=b.length):(splice b a d)[y]? =b[y]? :=by
 unfold splice
 have e:(b.take a).length=a:=by rw[aQ];omega
 rcases c with c|c
 ·rw[fI (by omega),jf,if_pos c]
 ·rw[bP (by omega),e,bP (by omega),List.getElem?_drop]
  congr 1
  omega
def Dk.lay (σ:Dk)(i:Nat)(l:List UInt8):Dk:={σ with sec:=fun j=>if i=j then l else σ.sec j}
theorem Dk.Ok.lay {a:Dk}(h:a.Ok)(i:Nat)(l:List UInt8)(b:l.length=512):(a.lay i l).Ok:=
 ⟨h.lo,h.hi,fun j=>by show (if i=j then l else a.sec j).length=512;split;exact b;exact h.sec j,h.wt,h.fl⟩
def Dk.upto (σ:Dk)(k:Nat):Dk:={σ with sec:=fun i=>behind (σ.waits.take k) i (σ.sec i)}
theorem Dk.LX (a:Dk)(k:Nat)(b:k<a.waits.length):a.upto (k+1)=(a.upto k).lay a.waits[k].1 a.waits[k].2:=by
 unfold Dk.upto Dk.lay
 congr 1
 funext i
 rw[aO b,mY]
 rfl
theorem Dk.Ow (a:Dk):({a.upto a.waits.length with waits:=[]}:Dk)=a.flush:=by
 unfold Dk.upto Dk.flush Dk.get
 rw[bL]
theorem nS.lay {w r:World}{S:Nat->Prop}{d:Nat}{c:Dk}{m:Nat}{z:Value}(h:nS w S d c m z)(i:Nat)(l:List UInt8)(G:i<c.n)(t:l.length=512)(a:List Value)
  (p:Row w m 239 a) (x:Row r m 239 (splice a (i*512) (aF l))) (s:Keep (· =m) w r):nS r S d (c.lay i l) m z:=by
 have k:(aF l).length=512:=by rw[bC,t]
 have q:a.length=c.n*512:=by
  obtain⟨C,D,A⟩:=h.blk
  unfold Row at p
  rw[D] at p
  cases p
  simpa using A
 have f:i*512+(aF l).length<=a.length:=by rw[k,q];omega
 refine⟨h.ok.lay i l t,fun g o=>aA (h.sub g o) s.size,h.sd,h.sg,h.ne,(s.block d (h.sub _ h.sd) (fun e=>h.ne e.symm)).trans h.obj,⟨_,x,?_⟩,fun j E y u v=> ?_,?_,h.sw⟩
 ·rw[pz]
  show (splice a (i*512) (aF l)).length=c.n*512
  unfold splice
  simp only[aB,aQ,bG]
  omega
 ·rw[x.cell]
  by_cases n:i=j
  ·subst n
   have b:(aF l)[y]? =some u:=by
    have:(c.lay i l).sec i=l:=if_pos rfl
    rwa [this] at v
   rw[Mi _ _ _ _ ((bO.1 b).1) f]
   exact b
  ·have b:(aF (c.sec j))[y]? =some u:=by
    have:(c.lay i l).sec j=c.sec j:=if_neg n
    rwa [this] at v
   have F:y<512:=by have:=(bO.1 b).1;rwa [bC,h.ok.sec] at this
   rw[Js _ _ _ _ (by rw[k];omega) f,<-p.cell]
   exact h.sec j E y u b
 ·exact h.own.keep fun g o _ B=>⟨s.block g (h.own.1.lt _ o).2 (h.sw g o).2.2,B⟩
theorem nS.below {w w':World}{S:Nat->Prop}{d:Nat}{f:Dk}{b:Nat}{j:Value}(h:nS w S d f b j){M:Nat->Prop}(a:Keep M w w')(c:∀g,S g->¬M g):nS w' S d f b j:=by
 refine⟨h.ok,fun g e=>aA (h.sub g e) a.size,h.sd,h.sg,h.ne,(a.block d (h.sub _ h.sd) (c _ h.sd)).trans h.obj,?_,fun i n y u q=> ?_,?_,h.sw⟩
 ·obtain⟨C,m,k⟩:=h.blk
  exact⟨C,(a.block b (h.sub _ h.sg) (c _ h.sg)).trans m,k⟩
 ·exact(a.cell (p:=⟨b,i*512+y,none⟩) (h.sub _ h.sg) (c _ h.sg)).trans (h.sec i n y u q)
 ·exact h.own.keep fun g e o l=>⟨a.block g o (c _ (h.sw g e).1),l⟩
theorem nS.row {w:World}{S:Nat->Prop}{d:Nat}{b:Dk}{c:Nat}{g:Value}(h:nS w S d b c g):∃a,Row w c 239 a/\a.length=b.n*512:=by
 obtain⟨C,e,f⟩:=h.blk
 exact⟨C.toList,e,by simpa using f⟩
theorem tF:(Tryz.prog.info? 239).map (fun i=>i.size)=some 512:=by kernel_rfl
theorem Nf (d:Nat)(q:Dk)(S:Nat->Prop)(l:Nat)(wv:Value)(w:World)(h:nS w S d q l wv)(hd:q.dead=false)(qm:q.eu.dead=false)(E:q.waits.length<=1000000):
  Calls Tryz.prog 151 #[.pointer (some ⟨d,0,none⟩)] w fun e w'=>e= .returned (.int .i64 0)/\nS w' S d q.eu.flush l (.slice none 0 0)/\Step S S w w':=by
 have H:q.bad 0=0:=by have:=h.ok.lo;unfold Dk.bad;rw[hd];simp;omega
 have P:=mq d q S l wv 0 w h
 rw[H] at P
 have qC:=ah P;clear P
 have c:=yK d q S l wv w h hd
 rw[qm] at c
 have HB:=ah c;clear c
 have ai:q.eu.waits.length<=1000000:=by rw[q.dh.2.2];exact E
 have eZ:∀(x:Bool) (w:World),(Op.unary .not (.bool x)).run Tryz.prog w= .ok (.bool (!x)) w:=fun _ _=>rfl
 go_enter Tryz.func151,Tryz.ntmps151
 go_wp2_with (first
  |(go_at_call 148;go_must (refine qC.out.mono ?_;rintro e w1 ⟨rfl,hw⟩;subst w1))
  |(go_at_call 149;go_must (refine HB.out.mono ?_;rintro e w1 ⟨rfl,B,bf⟩;refine Stop.of ?_)))
 refine Stop.on ?_
 have HS:=ah h.sd
 clear h qC HB H qm hd E
 generalize qb:q.eu=f at B ai
 have HT:=ah qb;clear qb
 obtain⟨wo,wc,rfl,g1,g2,g3,g4⟩:=bq.form B.own.dM
 obtain⟨c0,c1,_,_,s,iO⟩:=B.cells
 go_wp2_with fail
 go_loopw [19] (fun i wr=>∃k:Nat,k<=f.waits.length/\i= .int .i64 k/\nS wr S d (f.upto k) l (.slice wo f.waits.length wc)/\Keep (· =l) w1 wr) (fun i _=>f.waits.length - (intOf i).toNat)
 case atStart=>exact⟨0,aR _,rfl,B,Keep.refl _ _⟩
 case round=>
  obtain⟨k,hk,rfl,a,o⟩:=hrel
  by_cases s:k<f.waits.length
  ·obtain⟨g,j4,d9,z,j6,kz,j5⟩:=a.wait k s
   cases d9
   obtain⟨x,Z⟩:∃x,Hid (wr.heap.size=x):=⟨_,ah rfl⟩
   have p9:=a.ok.wt _ (bJ s)
   obtain⟨p,HP⟩:∃p,Hid (f.waits[k]=p):=⟨_,ah rfl⟩
   have z:wr.rangeAt g (k*513) (fq p):=by rw[<-HP.out];exact z
   have af:p.1<f.n:=by rw[<-HP.out];exact p9.1
   have J:=ah (show p.2.length=512 by rw[<-HP.out];exact p9.2)
   have j:=ah (iH J.out)
   have D:∀v∈fq p,v.oneCell'=true:=EA p
   have qo:Row (wr.alloc (.cells (fq (0,zB)).toArray 241)) wr.heap.size 241 (fq (0,zB)):=Row.new wr _ _
   have qO:=ah (show (fq (0,zB)).length=513 from iH gG)
   have jv:(k:Int)<(f.waits.length:Int):=by omega
   go_wp2_with (first
    |((refine bS rfl ?_);intro K Y;(refine QX 241 _ rfl g (k*513) rfl (fq p) _ z Tryz.underlying241 rfl (nE.trans (congrArg some j.out.symm)) ?_);refine Y _ _ ?_)
    |((refine bS rfl ?_);intro K Y;(refine gZ 241 rfl _ wR ?_);refine Y _ _ ?_)
    |((refine bS rfl ?_);intro K Y;(refine wp_store_row 241 _ _ rfl wr.heap.size 0 241 _ (fq p) rfl rfl qo (nE.trans (congrArg some j.out.symm)) (by rw[qO.out,j.out];omega) D ?_);intro O m M;refine Y _ _ (Stop.of ?_)))
   refine Stop.on ?_
   rw[kZ _ _ (qO.out.trans j.out.symm),Z.out] at m
   rw[Z.out] at M
   have V:Keep (· =x) wr O:=((Keep.refl (· =x) wr).alloc (.cells (fq (0,zB)).toArray 241)).trans M (fun _ _ e=>e)
   have dn:¬S x:=fun e=>absurd (a.sub x e) (by rw[Z.out];exact cO _)
   have A:=a.below V (fun y I e=>dn (e▸I))
   obtain⟨jb,_,_,_,qc,_⟩:=A.cells
   have kC:O.cell? ⟨x,0,none⟩=some (.int .i64 (p.1:Int)):=m.whole 0 _ rfl
   have qy:O.rangeAt x 1 (aF p.2):=fun y u hu=>by
    rw[uj 1]
    have:=m.whole (y+1) u hu
    rwa [fZ] at this
   have j3:=m.lt
   have t:=ah (show (aF p.2).length=512 by rw[bC,J.out])
   have r:=fO p.2
   generalize hC:aF p.2=C at qy t r
   have HC:=ah hC;clear hC
   rw[Z.out]
   clear qo m M D z
   obtain⟨X,G,ql⟩:=A.row
   have R:Row O.drew l 239 X:=G
   have av:=ah ql;clear ql
   have fo:(p.1:Int)<((f.upto k).n:Int):=by show (p.1:Int)<(f.n:Int);omega
   have ko:∀(n:Int),0<=n\/n<0:=fun n=>by omega
   go_wp2_with fail
   refine aP (fun W=>W=O.drew) (fun i=> !([9].contains i)) [0,1,2,3,4,5,6,7,8,9] rfl (by kernel_rfl) rfl ?_
   repeat ((refine bE (v:= ?_) rfl rfl (fun _ _ _ h=>h) rfl (fun W Q=> ?_) ?_);rotate_left;(focus ((try dsimp only at Q);subst Q;(go_simp;first|done|with_reducible rfl)));(try simp only[Act.put,ak,ay,ax]))
   refine bE (v:= .agg C.toArray) rfl rfl (fun _ _ _ h=>h) rfl (fun W Q=> ?_) ?_
   ·subst Q
    exact jA 239 (.tmp 29) rfl x 1 rfl C _ qy Tryz.underlying239 rfl (tF.trans (congrArg some t.out.symm))
   simp only[Act.put,ak,ay,ax]
   repeat ((refine bE (v:= ?_) rfl rfl (fun _ _ _ h=>h) rfl (fun W Q=> ?_) ?_);rotate_left;(focus ((try dsimp only at Q);subst Q;(go_simp;first|done|with_reducible rfl)));(try simp only[Act.put,ak,ay,ax]))
   refine jR rfl rfl rfl (by kernel_rfl) ?_;intro K Y
   refine wp_store_row 239 (.tmp 31) (.tmp 30) rfl l (p.1*512) 239 X C rfl rfl R (tF.trans (congrArg some t.out.symm)) (by rw[t.out,av.out];show _<=f.n*512;omega) r ?_
   intro w3 pV b
   refine Y.out _ _ ?_
   refine bN ?_
   go_wp2_with fail
   rw[<-HC.out] at pV
   have N:=A.lay p.1 p.2 af J.out X G pV (((Keep.refl (· =l) O).drew).trans b (fun _ _ e=>e))
   have F:Keep (· =l) w1 w3:=(o.trans V (fun y I e=>absurd (aA I o.size) (by rw[e,Z.out];exact cO _))).trans (((Keep.refl (· =l) O).drew).trans b (fun _ _ e=>e)) (fun _ _ e=>e)
   have T:=f.LX k s
   rw[HP.out] at T
   rw[<-T] at N
   have bg:=ah N;have q9:=ah F
   clear N A a o V b F T
   go_roundw
   case rel=>exact⟨k+1,by omega,by go_num,bg.out,q9.out⟩
   case measure=>simp[intOf];omega
  ·obtain rfl:k=f.waits.length:=by omega
   obtain⟨_,_,_,_,qc,qf⟩:=a.cells
   have eH:=qf 1 (by omega)
   have di:=a.obj
   have q8:=ah a;have dM:=ah o
   clear a o
   go_wp2_with fail
   go_ret
   have b:Keep (· =d) wr (wr.setCell ⟨d,1,none⟩ (.slice none 0 0)):=(Keep.refl (· =d) wr).setCell (p:=⟨d,1,none⟩) (.inr rfl) _
   have a:=q8.out
   refine⟨rfl,?_,((bf.mono (fun _ _ e=>e▸HS.out)).trans dM.out (fun _ _ e=>e▸a.sg)).trans b (fun _ _ e=>e▸HS.out),fun _ hg=> .inl hg⟩
   rw[HT.out,<-f.Ow]
   refine⟨⟨a.ok.lo,a.ok.hi,a.ok.sec,(fun p hp=>by cases hp),a.ok.fl⟩,fun y I=>aA (a.sub y I) b.size,a.sd,a.sg,a.ne,?_,?_,fun i hi y u hu=> ?_,aV.nil _ _ _ _ _,(fun y I=>by cases I)⟩
   ·rw[gF wr d 1 _ _ _ di]
    rfl
   ·obtain⟨C,h1,h2⟩:=a.blk
    exact⟨C,(b.block l (a.sub _ a.sg) a.ne).trans h1,h2⟩
   ·exact(b.cell (p:=⟨l,i*512+y,none⟩) (a.sub _ a.sg) a.ne).trans (a.sec i hi y u hu)
def kept:List Bool->List (Nat×List UInt8)->List (Nat×List UInt8)
 |b::ks,p::ws=>if b then p::kept ks ws else kept ks ws
 |_,_=>[]
theorem BR (a:List Bool):kept a []=[]:=by cases a<;>rfl
theorem vV:∀(c:List Bool) (a:List (Nat×List UInt8)) (k:Nat) (d:k<a.length),kept c (a.take (k+1))=kept c (a.take k)++if c.getD k false=true then[a[k]] else[]
 |[],a,k,d=>by simp[kept]
 |b::c,p::a,0,d=>by simp[kept,BR]
 |b::c,p::a,k+1,d=>by
  have ih:=vV c a k (by simpa using d)
  simp only[iT,kept,Fq,List.getD_cons_succ]
  rw[ih]
  split<;>simp
def Dk.mD (σ:Dk)(ks:List Bool):Dk:={σ with sec:=fun i=>behind (kept ks σ.waits) i (σ.sec i),waits:=[],fuel:= -1,dead:=false}
def Dk.tY (σ:Dk)(ks:List Bool)(k:Nat):Dk:={σ with sec:=fun i=>behind (kept ks (σ.waits.take k)) i (σ.sec i)}
theorem Dk.Mk (a:Dk)(b:List Bool):a.tY b 0=a:=by
 unfold Dk.tY
 rw[gT,BR]
 rfl
theorem Dk.OO (a:Dk)(b:List Bool)(k:Nat)(c:k<a.waits.length)(h:b.getD k false=true):a.tY b (k+1)=(a.tY b k).lay a.waits[k].1 a.waits[k].2:=by
 unfold Dk.tY Dk.lay
 congr 1
 funext i
 rw[vV _ _ _ c,if_pos h,mY]
 rfl
theorem Dk.KJ (b:Dk)(a:List Bool)(k:Nat)(c:k<b.waits.length)(h:a.getD k false=false):b.tY a (k+1)=b.tY a k:=by
 unfold Dk.tY
 congr 1
 funext i
 rw[vV _ _ _ c,h,if_neg (by simp),dV]
theorem Dk.OP (a:Dk)(b:List Bool):({a.tY b a.waits.length with waits:=[],fuel:= -1,dead:=false}:Dk)=a.mD b:=by
 unfold Dk.tY Dk.mD
 rw[bL]
def qL (w:World)(S:Nat->Prop)(d:Nat)(σ:Dk):Prop:=∃gs wv,nS w S d σ gs wv
theorem qL.ok {w:World}{S:Nat->Prop}{d:Nat}{a:Dk}(h:qL w S d a):a.Ok:=by obtain⟨_,_,h⟩:=h;exact h.ok
theorem qL.sub {w:World}{S:Nat->Prop}{d:Nat}{a:Dk}(h:qL w S d a):∀g,S g->g<w.heap.size:=by obtain⟨_,_,h⟩:=h;exact h.sub
theorem qL.keep {w w':World}{S M:Nat->Prop}{d:Nat}{a:Dk}(h:qL w S d a)(e:Keep M w w')(b:∀g,S g->¬M g):qL w' S d a:=by obtain⟨c,f,h⟩:=h;exact⟨c,f,h.below e b⟩
theorem qL.below {w w':World}{S:Nat->Prop}{d:Nat}{a:Dk}(h:qL w S d a)(b:Below w.heap.size w w'):qL w' S d a:=h.keep (Keep.of_below b eG) (fun _ _ e=>e)
theorem G6 (d:Nat)(a:Dk)(S:Nat->Prop)(w:World)(h:qL w S d a):
  Calls Tryz.prog 87 #[.pointer (some ⟨d,0,none⟩)] w fun e c=>e= .returned (.int .i64 a.n)/\c=w:=by
 obtain⟨b,f,h⟩:=h
 exact Mr d a S b f w h
theorem TU (d:Nat)(a:Dk)(S:Nat->Prop)(w:World)(h:qL w S d a):
  Calls Tryz.prog 73 #[.pointer (some ⟨d,0,none⟩)] w fun e c=>e= .returned (.bool a.dead)/\c=w:=by
 obtain⟨b,f,h⟩:=h
 exact Qp d a S b f w h
theorem Lf (d:Nat)(a:Dk)(S:Nat->Prop)(i:Nat)(w:World)(h:qL w S d a)(c:a.dead=false)(g:i<a.n):
  Calls Tryz.prog 217 #[.pointer (some ⟨d,0,none⟩),.int .i64 i] w fun e b=>∃v,e= .returned (.tuple #[v,.int .i64 0])/\aV b eG w.heap.size 5 1 v 512 (aF (a.get i))/\Below w.heap.size w b:=by
 obtain⟨f,j,h⟩:=h
 exact Nc d a S f j i w h c g
theorem Kc (d:Nat)(a:Dk)(S:Nat->Prop)(i:Int)(v:Value)(w:World)(h:qL w S d a)(c:a.bad i≠0):
  Calls Tryz.prog 89 #[.pointer (some ⟨d,0,none⟩),.int .i64 i,v] w fun e j=>e= .returned (.int .i64 (a.bad i))/\j=w:=by
 obtain⟨g,k,h⟩:=h
 have b:=ah (mq d a S g k i w h)
 generalize a.bad i=q at c b
 have m:(q !=0)=true:=by simpa using c
 go_enter Tryz.func89,Tryz.ntmps89
 go_wp2_with (first
  |(go_at_call 148;go_must (refine b.out.mono ?_;rintro e f ⟨rfl,l⟩;subst f)))
 go_ret
 exact⟨rfl,rfl⟩
theorem GZ (d:Nat)(b:Dk)(S:Nat->Prop)(i:Int)(v:Value)(l:List UInt8)(w:World)(h:qL w S d b)(f:b.bad i=0)(n:bq w S 1 v l.length (aF l))(p:512<l.length):
  Calls Tryz.prog 89 #[.pointer (some ⟨d,0,none⟩),.int .i64 i,v] w fun e k=>e= .returned (.int .i64 1)/\k=w:=by
 obtain⟨j,m,h⟩:=h
 have a:=mq d b S j m i w h
 rw[f] at a
 have c:=ah a;clear a f
 obtain⟨q,s,rfl,_,_,_,_⟩:=bq.form n
 have o:(512:Int)<(l.length:Int):=by omega
 go_enter Tryz.func89,Tryz.ntmps89
 go_wp2_with (first
  |(go_at_call 148;go_must (refine c.out.mono ?_;rintro e g ⟨rfl,r⟩;subst g)))
 go_ret
 exact⟨rfl,rfl⟩
theorem G5 (d:Nat)(b:Dk)(S:Nat->Prop)(i:Int)(v:Value)(l:List UInt8)(w:World)(h:qL w S d b)(o:b.bad i=0)(z:b.dead=false)(A:bq w S 1 v l.length (aF l))(C:l.length<=512)(f:b.eu.dead=true):
  Calls Tryz.prog 89 #[.pointer (some ⟨d,0,none⟩),.int .i64 i,v] w fun e q=>e= .returned (.int .i64 10)/\qL q S d b.eu/\Step S S w q:=by
 obtain⟨g,j,h⟩:=h
 have c:=mq d b S g j i w h
 rw[o] at c
 have k:=ah c;clear c o
 obtain⟨D,F,rfl,_,_,_,_⟩:=bq.form A
 have B:¬((512:Int)<(l.length:Int)):=by omega
 have a:=yK d b S g j w h z
 rw[f] at a
 have t:=ah a;clear a
 have y:=ah h.sd
 have r:∀(x:Bool) (w:World),(Op.unary .not (.bool x)).run Tryz.prog w= .ok (.bool (!x)) w:=fun _ _=>rfl
 go_enter Tryz.func89,Tryz.ntmps89
 go_wp2_with (first
  |(go_at_call 148;go_must (refine k.out.mono ?_;rintro e p ⟨rfl,E⟩;subst p))
  |(go_at_call 149;go_must (refine t.out.mono ?_;rintro e p ⟨rfl,n,m⟩)))
 go_ret
 exact⟨rfl,⟨g,j,n⟩,m.mono (fun _ _ e=>e▸y.out),fun _ s=> .inl s⟩
theorem EQ (d:Nat)(a:Dk)(S:Nat->Prop)(i:Int)(v:Value)(l:List UInt8)(w:World)(h:qL w S d a)(r:bq w S 1 v l.length (aF l))(m:a.waits.length<=1000000):
  Calls Tryz.prog 89 #[.pointer (some ⟨d,0,none⟩),.int .i64 i,v] w fun e j=>e= .returned (.int .i64 (a.write i l).2)/\∃n,qL j n d (a.write i l).1/\Step S n w j:=by
 by_cases f:a.bad i=0
 ·have b:a.dead=false:=by
   cases b:a.dead with
   |false=>rfl
   |true=>simp[Dk.bad,b] at f
  have g:¬(i<0\/(a.n:Int)<=i):=fun g=>by simp[Dk.bad,b,g] at f
  by_cases o:512<l.length
  ·have e:a.write i l=(a,1):=by simp[Dk.write,b,g,o]
   try rw[e]
   refine(GZ d a S i v l w h f r o).mono ?_
   rintro e j ⟨rfl,rfl⟩
   exact⟨rfl,S,h,Step.refl _ _⟩
  ·cases c:a.eu.dead with
   |true=>
    have e:a.write i l=(a.eu,10):=by simp[Dk.write,b,g,o,c]
    try rw[e]
    refine(G5 d a S i v l w h f b r (by omega) c).mono ?_
    rintro e j ⟨rfl,q,p⟩
    exact⟨rfl,S,q,p⟩
   |false=>
    have e:a.write i l=(a.eu.put i.toNat l,0):=by simp[Dk.write,b,g,o,c]
    try rw[e]
    obtain⟨k,rfl⟩:∃k:Nat,i=k:=⟨i.toNat,by omega⟩
    obtain⟨t,x,h⟩:=h
    refine(Nb d a S t x k v l w h b (by omega) (by omega) c r m).mono ?_
    rintro e j ⟨rfl,n,s,q,p⟩
    exact⟨rfl,n,⟨t,s,q⟩,p⟩
 ·have e:a.write i l=(a,a.bad i):=by
   unfold Dk.bad at f ⊢
   unfold Dk.write
   split
   ·rfl
   ·rename_i b
    simp only[b] at f
    split
    ·rfl
    ·rename_i g
     simp[g] at f
  try rw[e]
  refine(Kc d a S i v w h f).mono ?_
  rintro e j ⟨rfl,rfl⟩
  exact⟨rfl,S,h,Step.refl _ _⟩
theorem G8 (d:Nat)(b:Dk)(S:Nat->Prop)(w:World)(h:qL w S d b)(f:b.dead=true):
  Calls Tryz.prog 151 #[.pointer (some ⟨d,0,none⟩)] w fun e j=>e= .returned (.int .i64 10)/\j=w:=by
 obtain⟨i,k,h⟩:=h
 have a:=mq d b S i k 0 w h
 rw[show b.bad 0=10 by simp[Dk.bad,f]] at a
 have c:=ah a;clear a
 go_enter Tryz.func151,Tryz.ntmps151
 go_wp2_with (first
  |(go_at_call 148;go_must (refine c.out.mono ?_;rintro e g ⟨rfl,l⟩;subst g)))
 go_ret
 exact⟨rfl,rfl⟩
theorem G7 (d:Nat)(b:Dk)(S:Nat->Prop)(w:World)(h:qL w S d b)(o:b.dead=false)(f:b.eu.dead=true):
  Calls Tryz.prog 151 #[.pointer (some ⟨d,0,none⟩)] w fun e n=>e= .returned (.int .i64 10)/\qL n S d b.eu/\Step S S w n:=by
 obtain⟨g,j,h⟩:=h
 have c:=mq d b S g j 0 w h
 rw[show b.bad 0=0 by have:=h.ok.lo;unfold Dk.bad;rw[o];simp;omega] at c
 have i:=ah c;clear c
 have a:=yK d b S g j w h o
 rw[f] at a
 have r:=ah a;clear a
 have s:=ah h.sd
 have p:∀(x:Bool) (w:World),(Op.unary .not (.bool x)).run Tryz.prog w= .ok (.bool (!x)) w:=fun _ _=>rfl
 go_enter Tryz.func151,Tryz.ntmps151
 go_wp2_with (first
  |(go_at_call 148;go_must (refine i.out.mono ?_;rintro e m ⟨rfl,t⟩;subst m))
  |(go_at_call 149;go_must (refine r.out.mono ?_;rintro e m ⟨rfl,k,l⟩)))
 go_ret
 exact⟨rfl,⟨g,j,k⟩,l.mono (fun _ _ e=>e▸s.out),fun _ q=> .inl q⟩
theorem ER (d:Nat)(a:Dk)(S:Nat->Prop)(w:World)(h:qL w S d a)(f:a.waits.length<=1000000):
  Calls Tryz.prog 151 #[.pointer (some ⟨d,0,none⟩)] w fun e g=>e= .returned (.int .i64 a.sync.2)/\qL g S d a.sync.1/\Step S S w g:=by
 cases c:a.dead with
 |true=>
  have e:a.sync=(a,10):=by simp[Dk.sync,c]
  try rw[e]
  refine(G8 d a S w h c).mono ?_
  rintro e g ⟨rfl,rfl⟩
  exact⟨rfl,h,Step.refl _ _⟩
 |false=>
  cases b:a.eu.dead with
  |true=>
   have e:a.sync=(a.eu,10):=by simp[Dk.sync,c,b]
   try rw[e]
   exact G7 d a S w h c b
  |false=>
   have e:a.sync=(a.eu.flush,0):=by simp[Dk.sync,c,b]
   try rw[e]
   obtain⟨i,l,h⟩:=h
   refine(Nf d a S i l w h c b f).mono ?_
   rintro e g ⟨rfl,j,k⟩
   exact⟨rfl,⟨i,_,j⟩,k⟩
def Dk.new (n:Nat):Dk:=⟨n,fun _=>zB,[],-1,false⟩
def iX (n:Int):Nat:=if n<1 then 1 else if 4096<n then 4096 else n.toNat
theorem DU (n:Int):1<=iX n/\iX n<=4096:=by unfold iX;split;omega;split<;>omega
theorem GN:(Tryz.prog.info? 239).map (fun i=>(i.zero,i.size,i.bytes))=some (some (.agg (aF zB).toArray),512,512):=by kernel_rfl
theorem EC (w:World)(n:Nat)(e:n<=4096):(Instr.makeSlice 131 (.int .i64 n) (.int .i64 n)).run Tryz.prog w= .ok (.slice (some ⟨w.heap.size,0,none⟩) n n) (w.alloc (.cells (madeCells (aF zB).toArray (n*512)) 239)):=by
 obtain⟨i,d,c,a,b⟩:=xC GN
 have:=run_make (P:=Tryz.prog) (w:=w) 131 239 i _ Tryz.underlying131 d c .i64 .i64 n n (by omega) (by omega) (by rw[b];omega) (by omega)
 rw[this,a]
 simp only[dz]
 rfl
theorem JR (w:World)(g n i:Nat)(k:i<n)(h:w.heap[g]? =some (.cells (madeCells (aF zB).toArray (n*512)) 239 (0,0))):w.rangeAt g (i*512) (aF zB):=fun j v b=>by
 have e:=(bO.1 b).1
 rw[bC,gG] at e
 have d:(aF zB).toArray.size=512:=by rw[pz,bC,gG]
 have a:i*512+j<n*512:=by omega
 have c:(i*512+j)%512=j:=by omega
 have f:(madeCells (aF zB).toArray (n*512))[i*512+j]? =some v:=by
  unfold madeCells
  rw[d]
  simp only[Array.getElem?_map,Array.getElem?_range,a,jQ,jJ,c]
  rw[<-b]
  simp only[List.getElem!_toArray,List.getElem!_eq_getElem?_getD,b,V8]
 rw[Q0 w g (i*512+j) _ 239 (0,0) h]
 exact f
theorem Yc (n:Int)(w:World):
  Calls Tryz.prog 26 #[.int .i64 n] w fun e v=>∃d S,e= .returned (.pointer (some ⟨d,0,none⟩))/\qL v S d (Dk.new (iX n))/\Below w.heap.size w v/\∀g,S g->w.heap.size<=g:=by
 have a:=EC w (iX n) (DU n).2
 have b:=DU n
 have q:∀l:World,l.heap[w.heap.size]? =some (.cells (madeCells (aF zB).toArray (iX n*512)) 239 (0,0))->l.heap[w.heap.size+1]? =some (.cells #[.slice (some ⟨w.heap.size,0,none⟩) (iX n) (iX n),.slice none 0 0,.int .i64 (-1),.bool false] 134 (0,0))->
   qL l (fun g=>g=w.heap.size\/g=w.heap.size+1) (w.heap.size+1) (Dk.new (iX n)):=fun l j k=>by
  refine⟨w.heap.size,.slice none 0 0,⟨b.1,b.2,fun _=>gG,(fun p B=>by cases B),(by decide:(-1:Int)<=-1/\(-1:Int)<=9223372036854775807)⟩,?_,.inr rfl,.inl rfl,by omega,k,⟨_,j,?_⟩,fun i D=>JR l _ _ i D j,aV.nil _ _ _ _ _,(fun y A=>by cases A)⟩
  ·rintro g (rfl|rfl)
   ·exact(aj.1 j).1
   ·exact(aj.1 k).1
  ·simp[madeCells,Dk.new]
 have r:=ah q;clear q
 generalize madeCells (aF zB).toArray (iX n*512)=C at a r
 have c:Below w.heap.size w ((w.alloc (.cells C 239)).alloc (.cells #[.slice (some ⟨w.heap.size,0,none⟩) (iX n) (iX n),.slice none 0 0,.int .i64 (-1),.bool false] 134))/\
   qL ((w.alloc (.cells C 239)).alloc (.cells #[.slice (some ⟨w.heap.size,0,none⟩) (iX n) (iX n),.slice none 0 0,.int .i64 (-1),.bool false] 134)) (fun g=>g=w.heap.size\/g=w.heap.size+1) (w.heap.size+1) (Dk.new (iX n)):=by
  have z:=iY w (.cells C 239) (.cells #[.slice (some ⟨w.heap.size,0,none⟩) (iX n) (iX n),.slice none 0 0,.int .i64 (-1),.bool false] 134)
  refine⟨z,r.out _ ?_ ?_⟩
  ·exact(mU _ _ _ (by simp)).trans (aH w _)
  ·have:=aH (w.alloc (.cells C 239)) (.cells #[.slice (some ⟨w.heap.size,0,none⟩) (iX n) (iX n),.slice none 0 0,.int .i64 (-1),.bool false] 134)
   rwa [bD] at this
 have f:=ah c;clear c r
 by_cases j:n<1
 ·have e:iX n=1:=by simp[iX,j]
  rw[e] at a f
  simp only[Int.natCast_one] at a
  have k:n<=1:=by omega
  have s:max n 1=1:=by omega
  have x:min (1:Int) 4096=1:=by omega
  clear b
  go_enter Tryz.func26,Tryz.ntmps26
  go_wp2_with fail
  go_ret
  try rw[e]
  exact⟨_,_,rfl,f.out.2,f.out.1,fun g o=>by rcases o with rfl|rfl<;>omega⟩
 ·by_cases k:4096<n
  ·have e:iX n=4096:=by simp[iX,j,k]
   rw[e] at a f
   have t:(Instr.makeSlice 131 (.int .i64 4096) (.int .i64 4096)).run Tryz.prog w= .ok (.slice (some ⟨w.heap.size,0,none⟩) 4096 4096) (w.alloc (.cells C 239)):=a
   have F:1<=n:=by omega
   have H:¬n<=1:=by omega
   have E:4096<=n:=by omega
   have s:max n 1=n:=by omega
   have x:min n 4096=4096:=by omega
   clear b a
   go_enter Tryz.func26,Tryz.ntmps26
   go_wp2_with fail
   go_ret
   try rw[e]
   exact⟨_,rfl,_,f.out.2,f.out.1,fun g o=>by rcases o with rfl|rfl<;>omega⟩
  ·obtain⟨m,rfl⟩:∃m:Nat,n=m:=⟨n.toNat,by omega⟩
   have e:iX (m:Int)=m:=by unfold iX;rw[if_neg j,if_neg k,dz]
   rw[e] at a f
   have F:(1:Int)<=(m:Int):=by omega
   have E:(m:Int)<=4096:=by omega
   have I:1<=m:=by omega
   have G:m<=4096:=by omega
   have s:max (m:Int) 1=m:=by omega
   have x:min (m:Int) 4096=m:=by omega
   clear b
   go_enter Tryz.func26,Tryz.ntmps26
   go_wp2_with fail
   go_ret
   try rw[e]
   exact⟨_,rfl,_,f.out.2,f.out.1,fun g o=>by rcases o with rfl|rfl<;>omega⟩
end Go.Proofs.YtpmbddooibgnaaaGreatDoor
