/- parts -/
import Derived.Test.YtpmbddooibgnaaaGreatDoorS1
import Derived.Test.YtpmbddooibgnaaaGreatDoorS2
import Derived.Test.YtpmbddooibgnaaaGreatDoorS3
import Derived.Test.YtpmbddooibgnaaaGreatDoorS4
import Derived.Test.YtpmbddooibgnaaaGreatDoorS5
import Derived.Deep.MidRow
set_option maxRecDepth 100000
set_option maxHeartbeats 8000000
set_option linter.all false
namespace Go.Proofs.YtpmbddooibgnaaaGreatDoor
open Go.RowKit
structure Dk where
 n:Nat
 sec:Nat->List UInt8
 waits:List (Nat×List UInt8)
 fuel:Int
 dead:Bool
def behind (ws:List (Nat×List UInt8))(i:Nat)(x:List UInt8):List UInt8:=ws.foldl (fun x p=>if p.1=i then p.2 else x) x
def Dk.get (σ:Dk)(i:Nat):List UInt8:=behind σ.waits i (σ.sec i)
def pad (l:List UInt8):List UInt8:=l++List.replicate (512 - l.length) 0
theorem mJ {l:List UInt8}(h:l.length<=512):(pad l).length=512:=by simp[pad];omega
theorem mR (a b:List (Nat×List UInt8))(i:Nat)(x:List UInt8):behind (a++b) i x=behind b i (behind a i x):=by simp[behind]
theorem rT:∀(ws:List (Nat×List UInt8)) (i:Nat) (x:List UInt8),(∀p∈ws,p.1≠i)->behind ws i x=x
 |[],_,_,_=>rfl
 |p::ws,i,x,h=>by
  have h1:behind (p::ws) i x=behind ws i (if p.1=i then p.2 else x):=rfl
  rw[h1,if_neg (h p (aP ..))]
  exact rT ws i x fun q hq=>h q (aT _ hq)
theorem Kl (ws:List (Nat×List UInt8))(i k:Nat)(x:List UInt8)(hk:k<ws.length)(h1:ws[k].1=i)(h2:∀j (hj:j<ws.length),k<j->ws[j].1≠i):behind ws i x=ws[k].2:=by
 have e:ws.take k++ws[k]::ws.drop (k+1)=ws:=by rw[List.getElem_cons_drop,bG]
 have h0:behind (ws.take k++ws[k]::ws.drop (k+1)) i x=ws[k].2:=by
  rw[mR]
  show behind (ws.drop (k+1)) i (if ws[k].1=i then ws[k].2 else behind (ws.take k) i x)=_
  rw[if_pos h1]
  exact rT (ws.drop (k+1)) i ws[k].2 (fun p hp=>by
   obtain⟨j,hj,rfl⟩:=List.mem_iff_getElem.1 hp
   rw[Qb]
   exact h2 _ _ (by omega))
 rwa [e] at h0
theorem Ao (ws:List (Nat×List UInt8))(i:Nat)(x:List UInt8)(hx:x.length=512)(h:∀p∈ws,p.2.length=512):(behind ws i x).length=512:=by
 induction ws generalizing x with
 |nil=>exact hx
 |cons p ws ih=>
  show (behind ws i (if p.1=i then p.2 else x)).length=512
  refine ih _ ?_ fun q hq=>h q (aT _ hq)
  split
  ·exact h p (aP ..)
  ·exact hx
def fo (p:Nat×List UInt8):List Value:= .int .i64 (p.1:Int)::aB p.2
def iI (ws:List (Nat×List UInt8)):List Value:=ws.flatMap fo
theorem xX (a b:List (Nat×List UInt8)):iI (a++b)=iI a++iI b:=by simp[iI]
theorem iX {p:Nat×List UInt8}(h:p.2.length=512):(fo p).length=513:=by simp[fo,aY,h]
theorem qE {ws:List (Nat×List UInt8)}(h:∀p∈ws,p.2.length=512):(iI ws).length=ws.length*513:=by
 induction ws with
 |nil=>rfl
 |cons p ws ih=>
  have:=ih fun q hq=>h q (aT _ hq)
  simp only[iI,iR,ay,aU] at*
  rw[iX (h p (aP ..)),this];omega
structure Dk.Ok (σ:Dk):Prop where
 lo:1<=σ.n
 hi:σ.n<=4096
 sec:∀i,(σ.sec i).length=512
 wt:∀p∈σ.waits,p.1<σ.n/\p.2.length=512
 fl: -1<=σ.fuel/\σ.fuel<=9223372036854775807
theorem Dk.Ok.get {σ:Dk}(h:σ.Ok)(i:Nat):(σ.get i).length=512:=Ao _ _ _ (h.sec i) fun p hp=>(h.wt p hp).2
def Dk.dF (σ:Dk):Dk:=if σ.fuel=0 then{σ with dead:=true} else if 0<σ.fuel then{σ with fuel:=σ.fuel - 1} else σ
def Dk.put (σ:Dk)(i:Nat)(l:List UInt8):Dk:={σ with waits:=σ.waits++[(i,pad l)]}
def Dk.flush (σ:Dk):Dk:={σ with sec:=σ.get,waits:=[]}
theorem Dk.get_put (σ:Dk)(i j:Nat)(l:List UInt8):(σ.put i l).get j=if i=j then pad l else σ.get j:=by
 unfold Dk.get Dk.put
 rw[mR]
 rfl
theorem Dk.lN (σ:Dk)(j:Nat):σ.flush.get j=σ.get j:=rfl
theorem Dk.Ok.put {σ:Dk}(h:σ.Ok)(i:Nat)(l:List UInt8)(hi:i<σ.n)(hl:l.length<=512):(σ.put i l).Ok:=
 ⟨h.lo,h.hi,h.sec,fun p hp=>by
  rcases dG.1 hp with hp|hp
  ·exact h.wt p hp
  ·rw[bO.1 hp];exact⟨hi,mJ hl⟩,h.fl⟩
theorem Dk.Ok.dF {σ:Dk}(h:σ.Ok):σ.dF.Ok:=by
 have hf:=h.fl
 unfold Dk.dF
 split
 ·exact⟨h.lo,h.hi,h.sec,h.wt,h.fl⟩
 ·split
  ·refine⟨h.lo,h.hi,h.sec,h.wt,?_⟩
   show -1<=σ.fuel - 1/\σ.fuel - 1<=9223372036854775807
   omega
  ·exact h
def Dk.write (σ:Dk)(i:Int)(l:List UInt8):Dk×Int:=
 if σ.dead then(σ,10) else if i<0\/(σ.n:Int)<=i then(σ,1) else if 512<l.length then(σ,1) else
 if σ.dF.dead then(σ.dF,10) else(σ.dF.put i.toNat l,0)
def Dk.sync (σ:Dk):Dk×Int:=if σ.dead then(σ,10) else if σ.dF.dead then(σ.dF,10) else(σ.dF.flush,0)
def Dk.bad (σ:Dk)(i:Int):Int:=if σ.dead then 10 else if i<0\/(σ.n:Int)<=i then 1 else 0
structure mO (w:World)(S:Nat->Prop)(d:Nat)(σ:Dk)(gs:Nat)(wv:Value):Prop where
 ok:σ.Ok
 sub:∀g,S g->g<w.heap.size
 sd:S d
 sg:S gs
 ne:gs≠d
 obj:w.heap[d]? =some (.cells #[.slice (some ⟨gs,0,none⟩) σ.n σ.n,wv,.int .i64 σ.fuel,.bool σ.dead] 134 (0,0))
 blk:∃C,w.heap[gs]? =some (.cells C 239 (0,0))/\C.size=σ.n*512
 sec:∀i,i<σ.n->w.rangeAt gs (i*512) (aB (σ.sec i))
 own:aQ w d9 0 241 513 wv σ.waits.length (iI σ.waits)
 sw:∀g,wv.ownBlock=some g->S g/\g≠d/\g≠gs
theorem mO.cells {w:World}{S:Nat->Prop}{d:Nat}{σ:Dk}{gs:Nat}{wv:Value}(h:mO w S d σ gs wv):
  w.cell? ⟨d,0,none⟩=some (.slice (some ⟨gs,0,none⟩) σ.n σ.n)/\w.cell? ⟨d,1,none⟩=some wv/\w.cell? ⟨d,2,none⟩=some (.int .i64 σ.fuel)/\w.cell? ⟨d,3,none⟩=some (.bool σ.dead)/\d<w.heap.size/\(∀i,i<4->w.frozen? ⟨d,i,none⟩=false):=by
 have hb:=h.obj
 refine⟨?_,?_,?_,?_,(ah.1 hb).1,?_⟩
 all_goals first
  |(simp[World.cell?,hb];done)
  |(intro i _;simp[World.frozen?,hb])
theorem kK (d:Nat)(σ:Dk)(S:Nat->Prop)(gs:Nat)(wv:Value)(i:Int)(w:World)(h:mO w S d σ gs wv):
  Calls Tryz.prog 148 #[.pointer (some ⟨d,0,none⟩),.int .i64 i] w fun e w'=>e= .returned (.int .i64 (σ.bad i))/\w'=w:=by
 obtain⟨c0,_,_,c3,hl,_⟩:=h.cells
 go_enter Tryz.func148,Tryz.ntmps148
 cases hd:σ.dead with
 |true=>
  rw[hd] at c3
  go_wp2_with fail
  go_ret
  exact⟨by simp[Dk.bad,hd],rfl⟩
 |false=>
  rw[hd] at c3
  by_cases h1:i<0\/(σ.n:Int)<=i
  ·rcases h1 with h1|h1
   ·go_wp2_with fail
    go_ret
    exact⟨by simp[Dk.bad,hd,h1],rfl⟩
   ·have h0:¬i<0:=by omega
    go_wp2_with fail
    go_ret
    exact⟨by simp[Dk.bad,hd,h1],rfl⟩
  ·have h2:¬i<0:=fun x=>h1 (.inl x)
   have h3:¬(σ.n:Int)<=i:=fun x=>h1 (.inr x)
   go_wp2_with fail
   go_ret
   exact⟨by simp[Dk.bad,hd,h2,h3],rfl⟩
theorem mO.Sw {w w':World}{S:Nat->Prop}{d:Nat}{σ σ':Dk}{gs:Nat}{wv:Value}(h:mO w S d σ gs wv)(hk:Keep (· =d) w w')(hn:σ'.n=σ.n)(hs:σ'.sec=σ.sec)(hw:σ'.waits=σ.waits)(ho:σ'.Ok)
  (hb:w'.heap[d]? =some (.cells #[.slice (some ⟨gs,0,none⟩) σ.n σ.n,wv,.int .i64 σ'.fuel,.bool σ'.dead] 134 (0,0))):mO w' S d σ' gs wv:=by
 refine⟨ho,fun g hg=>ax (h.sub g hg) hk.size,h.sd,h.sg,h.ne,by rw[hn];exact hb,?_,fun i hi=> ?_,?_,h.sw⟩
 ·obtain⟨C,h1,h2⟩:=h.blk
  exact⟨C,(hk.block gs (h.sub _ h.sg) h.ne).trans h1,by rw[hn];exact h2⟩
 ·rw[hs]
  intro j v hv
  exact(hk.cell (p:=⟨gs,i*512+j,none⟩) (h.sub _ h.sg) h.ne).trans (h.sec i (by rw[<-hn];exact hi) j v hv)
 ·rw[hw]
  exact h.own.keep fun g hg hl hs=>⟨hk.block g hl (h.sw g hg).2.1,hs⟩
theorem vO (d:Nat)(σ:Dk)(S:Nat->Prop)(gs:Nat)(wv:Value)(w:World)(h:mO w S d σ gs wv)(hd:σ.dead=false):
  Calls Tryz.prog 149 #[.pointer (some ⟨d,0,none⟩)] w fun e w'=>e= .returned (.bool (!σ.dF.dead))/\mO w' S d σ.dF gs wv/\Keep (· =d) w w':=by
 obtain⟨_,_,c2,c3,hl,hf⟩:=h.cells
 have hf2:=hf 2 (by omega)
 have hf3:=hf 3 (by omega)
 have hob:=h.obj
 have hfl:=h.ok.fl.2
 have hok:=h.ok.dF
 rw[hd] at c3
 go_enter Tryz.func149,Tryz.ntmps149
 by_cases h0:σ.fuel=0
 ·rw[h0] at c2
  go_wp2_with fail
  go_ret
  have hb:σ.dF={σ with dead:=true}:=by unfold Dk.dF;rw[if_pos h0]
  rw[hb] at hok ⊢
  have hk:Keep (· =d) w (w.setCell ⟨d,3,none⟩ (.bool true)):=(Keep.refl (· =d) w).setCell (p:=⟨d,3,none⟩) (.inr rfl) _
  refine⟨rfl,h.Sw hk rfl rfl rfl hok ?_,hk⟩
  rw[gL w d 3 _ _ _ hob]
  rfl
 ·by_cases h1:0<σ.fuel
  ·have hwr:IntKind.i64.wrap (σ.fuel - 1)=σ.fuel - 1:=aS _ (by omega)
   go_wp2_with fail
   go_ret
   have hb:σ.dF={σ with fuel:=σ.fuel - 1}:=by unfold Dk.dF;rw[if_neg h0,if_pos h1]
   rw[hb] at hok ⊢
   have hk:Keep (· =d) w (w.setCell ⟨d,2,none⟩ (.int .i64 (σ.fuel - 1))):=(Keep.refl (· =d) w).setCell (p:=⟨d,2,none⟩) (.inr rfl) _
   refine⟨by simp[hd],h.Sw hk rfl rfl rfl hok ?_,hk⟩
   rw[gL w d 2 _ _ _ hob]
   rfl
  ·go_wp2_with fail
   go_ret
   have hb:σ.dF=σ:=by unfold Dk.dF;rw[if_neg h0,if_neg (by omega)]
   rw[hb,hd]
   exact⟨rfl,h,Keep.refl _ w⟩
theorem Ju (d:Nat)(σ:Dk)(S:Nat->Prop)(gs:Nat)(wv:Value)(w:World)(h:mO w S d σ gs wv):
  Calls Tryz.prog 87 #[.pointer (some ⟨d,0,none⟩)] w fun e w'=>e= .returned (.int .i64 σ.n)/\w'=w:=by
 obtain⟨c0,_,_,c3,hl,hf⟩:=h.cells
 go_enter Tryz.func87,Tryz.ntmps87
 go_wp2_with fail
 go_ret
 exact⟨rfl,rfl⟩
theorem MJ (d:Nat)(σ:Dk)(S:Nat->Prop)(gs:Nat)(wv:Value)(w:World)(h:mO w S d σ gs wv):
  Calls Tryz.prog 73 #[.pointer (some ⟨d,0,none⟩)] w fun e w'=>e= .returned (.bool σ.dead)/\w'=w:=by
 obtain⟨c0,_,_,c3,hl,hf⟩:=h.cells
 go_enter Tryz.func73,Tryz.ntmps73
 go_wp2_with fail
 go_ret
 exact⟨rfl,rfl⟩
theorem zx {w:World}{b o n:Nat}{cs:List Value}(h:w.rangeAt b o cs)(hb:b<w.heap.size)(hn:cs.length=n)(hm:n<=maxLen):aW w d9 1 (.slice (some ⟨b,o,none⟩) n n) n cs:=
 ⟨some ⟨b,o,none⟩,n,rfl,aA _,hm,by rw[hn,iA],fun e=>(by cases e),fun ad had=>(by cases had;exact⟨rfl,hb,id⟩),fun j u hu=>⟨b,o,rfl,h j u hu⟩⟩
theorem qh:∀{ws:List (Nat×List UInt8)} (_:∀p∈ws,p.2.length=512) (k:Nat) (hk:k<ws.length) (j:Nat) (v:Value),(fo ws[k])[j]? =some v->(iI ws)[k*513+j]? =some v
 |[],_,k,hk,_,_,_=>absurd hk (by simp)
 |p::ws,h,0,_,j,v,hv=>by
  have h1:(iI (p::ws))=fo p++iI ws:=rfl
  have h2:(fo p)[j]? =some v:=hv
  rw[h1,CX,iN,fw (bg.1 h2).1]
  exact h2
 |p::ws,h,k+1,hk,j,v,hv=>by
  have h1:(iI (p::ws))=fo p++iI ws:=rfl
  have h2:=iX (h p (aP ..))
  have h3:=qh (fun q hq=>h q (aT _ hq)) k (by simpa using hk) j v hv
  rw[h1,bA (by rw[h2];omega),h2,show (k+1)*513+j - 513=k*513+j from by omega]
  exact h3
theorem J5 (d:Nat)(σ:Dk)(S:Nat->Prop)(gs:Nat)(wv:Value)(i:Nat)(w:World)(h:mO w S d σ gs wv)(hd:σ.dead=false)(hi:i<σ.n):
  Calls Tryz.prog 217 #[.pointer (some ⟨d,0,none⟩),.int .i64 i] w fun e w'=>∃v,e= .returned (.tuple #[v,.int .i64 0])/\aQ w' d9 w.heap.size 5 1 v 512 (aB (σ.get i))/\Below w.heap.size w w':=by
 obtain⟨c0,c1,_,_,hl,_⟩:=h.cells
 have hbad:σ.bad i=0:=by unfold Dk.bad;rw[hd];simp;omega
 have hck:=kK d σ S gs wv i w h
 rw[hbad] at hck
 have HCK:=af hck;clear hck
 obtain⟨wo,wc,rfl,hw1,hw2,_,_⟩:=aW.form h.own.dL
 have HOK:=af h.ok.wt
 have hii:(i:Int)<(σ.n:Int):=by omega
 have hwl:IntKind.i64.wrap ((σ.waits.length:Int) - 1)=(σ.waits.length:Int) - 1:=aS _ (by omega)
 go_enter Tryz.func217,Tryz.ntmps217
 go_wp2_with (first
  |(go_at_call 148;go_must (refine HCK.out.mono ?_;rintro e w1 ⟨rfl,hw⟩;subst w1)))
 go_loopw [7] (fun x wr=>∃(k:Nat) (z:Int),k<=σ.waits.length/\z+1=k/\x= .int .i64 z/\wr=w/\∀j (hj:j<σ.waits.length),k<=j->σ.waits[j].1≠i) (fun x _=>(intOf x+1).toNat)
 case atStart=>exact⟨σ.waits.length,_,aA _,by omega,rfl,rfl,fun j hj hk=>absurd hj (by omega)⟩
 case round=>
  obtain⟨k,z,hk,hz,rfl,rfl,hno⟩:=hrel
  rcases Nat.eq_zero_or_pos k with hk0|hk0
  ·subst hk0
   obtain rfl:z= -1:=by omega
   have hg:σ.get i=σ.sec i:=rT _ _ _ fun p hp=>by
    obtain⟨j,hj,rfl⟩:=List.mem_iff_getElem.1 hp
    exact hno j hj (aN _)
   have hsl:=zx (h.sec i hi) (h.sub _ h.sg) (n:=512) (by rw[aY,h.ok.sec]) (by simp[maxLen])
   have hcl:=rO (.slice (some ⟨gs,i*512,none⟩) 512 512) 512 _ wr d9 (fun g hg=>hg.elim) hsl (fq _) (by omega)
   have HCL:=af hcl;clear hcl
   go_wp2_with (first
    |(go_at_call 335;go_must (refine HCL.out.mono ?_;rintro e w2 ⟨v,rfl,hv,hb⟩)))
   go_ret2
   rw[hg]
   exact⟨v,rfl,hv,hb⟩
  ·obtain⟨j,rfl⟩:∃j,k=j+1:=⟨k - 1,by omega⟩
   obtain rfl:z=(j:Int):=by omega
   clear hz
   have hj:j<σ.waits.length:=by omega
   have hlen:=(HOK.out _ (bI hj)).2
   obtain⟨g,rfl,hcell⟩:∃g,wo=some ⟨g,0,none⟩/\∀y u,(fo σ.waits[j])[y]? =some u->wr.cell? ⟨g,j*513+y,none⟩=some u:=by
    obtain⟨⟨hl',hr'⟩,_⟩:=h.own
    rcases hr' with ⟨_,h0⟩|⟨g,cap,cur,hv,_⟩
    ·omega
    ·cases hv
     refine⟨g,rfl,fun y u hu=> ?_⟩
     have hu':=qh (fun p hp=>(HOK.out p hp).2) j hj y u hu
     obtain⟨cur,hrow,_,htk,_⟩:=aQ.row h.own
     rw[hrow.cell,<-hu',<-htk,gY]
     split
     ·rfl
     ·exfalso
      have h2:=(bg.1 hu').1
      rw[qE (fun p hp=>(HOK.out p hp).2)] at h2
      omega
   have hjc:(j:Int)<(σ.waits.length:Int):=by omega
   have hc0:wr.cell? ⟨g,j*513,none⟩=some (.int .i64 (σ.waits[j].1:Int)):=hcell 0 _ rfl
   have hrg:wr.rangeAt g (j*513+1) (aB σ.waits[j].2):=fun y u hu=>by
    rw[kV,wD 1]
    exact hcell (y+1) u hu
   by_cases he:σ.waits[j].1=i
   ·have hg:σ.get i=σ.waits[j].2:=Kl _ _ _ _ hj he fun y hy hjy=>hno y hy (by omega)
    rw[he] at hc0
    have hgl:g<wr.heap.size:=(h.own.1.lt _ rfl).2
    have hsl:=zx hrg hgl (n:=512) (by rw[aY,hlen]) (by simp[maxLen])
    have hcl:=rO (.slice (some ⟨g,j*513+1,none⟩) 512 512) 512 _ wr d9 (fun g hg=>hg.elim) hsl (fq _) (by omega)
    have HCL:=af hcl;clear hcl
    have HG:=af hg;clear hsl hg
    have HE:=af he;clear he
    go_wp2_with (first
     |(go_at_call 335;go_must (refine HCL.out.mono ?_;rintro e w2 ⟨v,rfl,hv,hb⟩)))
    go_ret2
    rw[HG.out]
    exact⟨v,rfl,hv,hb⟩
   ·have he2:(((σ.waits[j].1:Nat):Int)==(i:Int))=false:=eO.2 (by omega)
    go_wp2_with fail
    go_roundw
    case rel=>exact⟨j,(j:Int) - 1,by omega,by omega,by go_num,trivial,fun y hy hjy=>by
     rcases Nat.eq_or_lt_of_le hjy with e|e
     ·subst e;exact he
     ·exact hno y hy (by omega)⟩
    case measure=>simp[intOf]
def zB:List UInt8:=List.replicate 512 0
theorem fF:zB.length=512:=by unfold zB;exact List.length_replicate
theorem yI (w:World):(zeroValue 241).run Tryz.prog w= .ok (.agg (fo (0,zB)).toArray) w:=by kernel_rfl
theorem EU (i:Int):Tryz.prog.built 241 [(0,.int .i64 i)]=some (Value.int .i64 i::aB zB).toArray:=by kernel_rfl
theorem oC:(Tryz.prog.info? 241).map (fun i=>i.size)=some 513:=by kernel_rfl
theorem Ev:(Tryz.prog.info? 241).map (fun i=>(i.zero,i.size,i.bytes))=some (some (.agg (fo (0,zB)).toArray),513,520):=by kernel_rfl
theorem xW:((Tryz.prog.info? 241).bind (·.zero)).isSome=true:=by kernel_rfl
theorem BR (v:Value)(n:Nat)(l:List UInt8):splice (v::aB (List.replicate n 0)) 1 (aB l)=v::aB (l++List.replicate (n - l.length) 0):=by
 unfold splice
 rw[gG,gN,aY,wD 1,jJ]
 simp[aB]
theorem kC (cur cs:List Value)(h:cur.length=cs.length):splice cur 0 cs=cs:=by
 unfold splice
 rw[gN,iN,<-h,iB];simp
theorem BS (i:Int)(l:List UInt8):splice (Value.int .i64 i::aB zB) 1 (aB l)=Value.int .i64 i::aB (pad l):=BR _ 512 l
theorem Dk.bM (σ:Dk):σ.dF.n=σ.n/\σ.dF.sec=σ.sec/\σ.dF.waits=σ.waits:=by unfold Dk.dF;split<;>(try split)<;>exact⟨rfl,rfl,rfl⟩
theorem J4 (d:Nat)(σ:Dk)(S:Nat->Prop)(gs:Nat)(wv:Value)(i:Nat)(v:Value)(l:List UInt8)(w:World)(h:mO w S d σ gs wv)(hd:σ.dead=false)(hi:i<σ.n)(hl:l.length<=512)(hbd:σ.dF.dead=false)
  (hv:aW w S 1 v l.length (aB l)) (hcap:σ.waits.length<=1000000):
  Calls Tryz.prog 89 #[.pointer (some ⟨d,0,none⟩),.int .i64 i,v] w fun e w'=>e= .returned (.int .i64 0)/\∃S' wv',mO w' S' d (σ.dF.put i l) gs wv'/\Step S S' w w':=by
 have hbad:σ.bad i=0:=by unfold Dk.bad;rw[hd];simp;omega
 have hck:=kK d σ S gs wv i w h
 rw[hbad] at hck
 have HCK:=af hck;clear hck
 obtain⟨vo,vc,rfl,hv1,hv2,hv3,hv4⟩:=aW.form hv
 have hl':¬((512:Int)<(l.length:Int)):=by omega
 have hburn:=vO d σ S gs wv w h hd
 rw[hbd] at hburn
 have HB:=af hburn;clear hburn
 have hnot:∀(x:Bool) (w:World),(Op.unary .not (.bool x)).run Tryz.prog w= .ok (.bool (!x)) w:=fun _ _=>rfl
 go_enter Tryz.func89,Tryz.ntmps89
 go_wp2_with (first
  |(go_at_call 148;go_must (refine HCK.out.mono ?_;rintro e w1 ⟨rfl,hw⟩;subst w1))
  |(go_at_call 149;go_must (refine HB.out.mono ?_;rintro e w1 ⟨rfl,hD1,hk1⟩;refine Stop.of ?_)))
 refine Stop.on ?_
 obtain⟨c0,c1,c2,c3,hlt,hfz⟩:=hD1.cells
 have hf1:=hfz 1 (by omega)
 obtain⟨x,HX⟩:∃x,Hid (w1.heap.size=x):=⟨_,af rfl⟩
 have hr1:Row (w1.alloc (.cells (fo (0,zB)).toArray 241)) w1.heap.size 241 (fo (0,zB)):=Row.new w1 _ _
 have hz1:=af (show (fo (0,zB)).length=513 from iX fF)
 have hz2:=af (show (Value.int .i64 (i:Int)::aB zB).length=513 by rw[aU,aY,fF])
 go_wp2_with (first
  |((refine bU rfl ?_);intro K hK;(refine uz 241 _ rfl (Value.int .i64 i::aB zB) (EU i) ?_);refine hK _ _ ?_)
  |((refine bU rfl ?_);intro K hK;(refine fZ 241 rfl _ yI ?_);refine hK _ _ ?_)
  |((refine bU rfl ?_);intro K hK;(refine wp_store_row 241 _ _ rfl w1.heap.size 0 241 _ (Value.int .i64 i::aB zB) rfl rfl hr1 (oC.trans (congrArg some hz2.out.symm)) (by rw[hz1.out,hz2.out];omega) (Gm (i,zB)) ?_);intro w2 hr2 hk2;refine hK _ _ (Stop.of ?_)))
 refine Stop.on ?_
 rw[show splice (fo (0,zB)) 0 (Value.int .i64 (i:Int)::aB zB)=Value.int .i64 (i:Int)::aB zB from kC _ _ (hz1.out.trans hz2.out.symm)] at hr2
 rw[HX.out] at hr2 hk2
 clear hr1
 have hkx:Keep (· =x) w1 w2:=((Keep.refl (· =x) w1).alloc (.cells (fo (0,zB)).toArray 241)).trans hk2 (fun _ _ e=>e)
 have hxS:¬S x:=fun e=>absurd (hD1.sub x e) (by rw[HX.out];exact bY _)
 have hv2:aW w2 d9 1 (.slice vo l.length vc) l.length (aB l):=by
  have e1:=(hv.step (S':=S) ⟨hk1.mono (fun _ _ e=>e▸h.sd),fun g hg=> .inl hg⟩)
  exact e1.keep fun g _ hg hs=>⟨hkx.block g hg (fun e=>by rw[e,HX.out] at hg;exact bY _ hg),id⟩
 have hlen:=af (aY l)
 have hfst:=hv2.first (P:=Tryz.prog) l.length (aA _)
 rw[iA,aI (fA hlen.out)] at hfst
 have hfst:=af hfst
 rw[HX.out]
 go_wp2_with (first
  |((refine bU rfl ?_);intro K hK;(refine lm (.tmp 24) (.tmp 25) 154 154 rfl 5 1 1 (.int .u8 0) aO iJ x 1 241 l.length 512 512 (some ⟨x,1,none⟩) _ rfl hr2 (.slice vo l.length vc) rfl l.length (aB l) rfl ?_ ?_ hfst.out (fun _=>rfl) ?_ (fq _) ?_);go_must ((focus (exact(dh hl).symm));(focus (rw[hlen.out,iA]));(focus (rw[hlen.out,hz2.out];omega));intro w3 hr3 hk3;refine hK _ _ (Stop.of ?_))))
 refine Stop.on ?_
 rw[BS] at hr3
 have hr3':Row w3 x 241 (fo (i,pad l)):=hr3
 clear hr3 hfst hlen hv2 hr2
 have hk13:Keep (· =x) w1 w3:=hkx.trans hk3 (fun _ _ e=>e)
 have hdx:¬d=x:=fun e=>hxS (e▸hD1.sd)
 have hlen:=iX (p:=(i,pad l)) (mJ hl)
 have hone:∀v∈fo (i,pad l),v.oneCell'=true:=Gm (i,pad l)
 generalize hC:fo (i,pad l)=C at hr3' hlen hone
 have HC:=af hC;clear hC
 have HL:=af hlen;clear hlen
 have hx3:x<w3.heap.size:=hr3'.lt
 have hd3:d<w3.heap.size:=ax hlt hk13.size
 have hc3:w3.cell? ⟨d,1,none⟩=some wv:=(hk13.cell hlt hdx).trans c1
 go_wp2_with fail
 refine aK (fun W=>W.cell? ⟨d,1,none⟩=some wv/\d<W.heap.size/\W.rangeAt x 0 C/\x<W.heap.size) (fun i=> !([6,7,10].contains i)) [0,1,2,3,4,5,6,7,8,9,10] rfl (by kernel_rfl) ⟨hc3,hd3,hr3'.whole,hx3⟩ ?_
 repeat ((refine bq (v:= ?_) rfl rfl (fun _ _ _ h=>h) rfl (fun W hW=> ?_) ?_);rotate_left;(focus ((try dsimp only at hW);have q0:=hW.1;have q1:=hW.2.1;have q2:=hW.2.2.1;have q3:=hW.2.2.2;first|(clear q2;go_simp;first|done|with_reducible rfl)));(try simp only[Act.put,aj,av,au]))
 refine bq (v:= .agg C.toArray) rfl rfl (fun _ _ _ h=>h) rfl (fun W hW=> ?_) ?_
 ·refine jU 241 (.tmp 8) rfl x 0 rfl C _ hW.2.2.1 Tryz.underlying241 rfl (oC.trans (congrArg some HL.out.symm))
 simp only[Act.put,aj,av,au]
 have hr4:Row (w3.drew.alloc (.cells C.toArray 241)) w3.heap.size 241 C:=Row.new w3.drew C _
 have hk4:Keep d9 w3 (w3.drew.alloc (.cells C.toArray 241)):=((Keep.refl d9 w3).drew).alloc _
 refine bP rfl rfl rfl ?_;intro K hK
 refine o7 132 241 (.tmp 32) rfl 513 C rfl HL.out (by omega) (by omega) Tryz.underlying132 oC xW ?_
 refine hK.out _ _ ⟨(hk4.cell hd3 id).trans hc3,ax hd3 hk4.size,fun j v hv=>(hk4.cell (p:=⟨x,0+j,none⟩) hx3 id).trans (hr3'.whole j v hv),ax hx3 hk4.size⟩ ?_
 have hox:∀y,wv.ownBlock=some y->y<w1.heap.size/\y≠x/\y≠d:=fun y hy=>⟨(hD1.own.1.lt _ hy).2,fun e=>hxS (e▸(hD1.sw y hy).1),(hD1.sw y hy).2.1⟩
 have hown4:aQ (w3.drew.alloc (.cells C.toArray 241)) d9 0 241 513 wv σ.waits.length (iI σ.waits):=by
  have:=hD1.own
  rw[σ.bM.2.2] at this
  exact this.keep fun y hy hl _=>⟨(hk4.block y (ax hl hk13.size) id).trans (hk13.block y hl (hox y hy).2.1),id⟩
 have hsrc4:Src Tryz.prog 513 132 (.slice (some ⟨w3.heap.size,0,none⟩) 1 1) 1 C (w3.drew.alloc (.cells C.toArray 241)):=iq C _ _ 1 1 rfl Tryz.underlying132 (by rw[HL.out]) hone
 refine bP rfl rfl rfl ?_;intro K hK
 refine qP (.tmp 31) (.tmp 33) 132 132 rfl d9 0 241 513 520 _ Tryz.underlying132 Ev (by simp only[Value.cells,ny];exact iX (p:=(0,zB)) fF) wv σ.waits.length _ rfl hown4 _ 1 C rfl hsrc4 (fun _ h=>h.elim) (aN _) (by simp only[maxLen];omega) (by omega) ?_
 intro ao c w5 hown5 hk5 _ hne5
 have hk35:Keep (fun g=>wv.ownBlock=some g) w3 w5:=(hk4.mono (fun _ _ h=>h.elim)).trans hk5 (fun _ _ h=>h)
 have hc5:w5.cell? ⟨d,1,none⟩=some wv:=(hk35.cell hd3 (fun e=>(hox _ e).2.2 rfl)).trans hc3
 have hd5:d<w5.heap.size:=ax hd3 hk35.size
 refine hK.out _ _ ⟨hc5,hd5,fun j v hv=>(hk35.cell (p:=⟨x,0+j,none⟩) hx3 (fun e=>(hox _ e).2.1 rfl)).trans (hr3'.whole j v hv),ax hx3 hk35.size⟩ ?_
 have hf5:w5.frozen? ⟨d,1,none⟩=false:=(hk35.frozen (p:=⟨d,1,none⟩) hd3 (fun e=>(hox _ e).2.2 rfl)).trans ((hk13.frozen (p:=⟨d,1,none⟩) hlt hdx).trans hf1)
 simp only[Act.put,aj,av,au]
 repeat ((refine bq (v:= ?_) rfl rfl (fun _ _ _ h=>h) rfl (fun W hW=> ?_) ?_);rotate_left;(focus ((try dsimp only at hW);have q0:=hW.1;have q1:=hW.2.1;(go_simp;first|done|with_reducible rfl)));(try simp only[Act.put,aj,av,au]))
 refine jm rfl rfl rfl (by kernel_rfl) ?_;intro K hK;go_simp
 refine hK.out _ _ ?_
 refine bF ?_
 go_wp2_with fail
 go_ret
 have hk56:Keep (· =d) w5 (w5.setCell ⟨d,1,none⟩ (.slice ao (σ.waits.length+1) c)):=(Keep.refl (· =d) w5).setCell (p:=⟨d,1,none⟩) (.inr rfl) _
 have hk15:Keep (fun g=>g=x\/wv.ownBlock=some g) w1 w5:=(hk13.mono (fun _ _ h=> .inl h)).trans hk35 (fun _ _ h=> .inr h)
 have hk16:Keep (fun g=>g=x\/wv.ownBlock=some g\/g=d) w1 (w5.setCell ⟨d,1,none⟩ (.slice ao (σ.waits.length+1) c)):=(hk15.mono (fun _ _ h=>h.elim .inl (fun h=> .inr (.inl h)))).trans hk56 (fun _ _ h=> .inr (.inr h))
 have hgs:gs<w1.heap.size:=hD1.sub _ hD1.sg
 have hgn:¬(gs=x\/wv.ownBlock=some gs\/gs=d):=fun e=>by
  rcases e with e|e|e
  ·exact hxS (e▸hD1.sg)
  ·exact(hD1.sw _ e).2.2 rfl
  ·exact hD1.ne e
 have hob5:w5.heap[d]? =some (.cells #[.slice (some ⟨gs,0,none⟩) σ.dF.n σ.dF.n,wv,.int .i64 σ.dF.fuel,.bool σ.dF.dead] 134 (0,0)):=(hk15.block d hlt (fun e=>e.elim hdx (fun e=>(hox _ e).2.2 rfl))).trans hD1.obj
 have hlt4:∀y,y<w3.heap.size->wv.ownBlock≠some y->(Value.slice ao (σ.waits.length+1) c).ownBlock≠some y:=fun y hy=>hne5 y (ax hy hk4.size)
 have hstep:Step S (fun g=>S g\/(Value.slice ao (σ.waits.length+1) c).ownBlock=some g) w (w5.setCell ⟨d,1,none⟩ (.slice ao (σ.waits.length+1) c)):=by
  refine⟨(hk1.mono (fun _ _ e=>e▸h.sd)).trans hk16 (fun g hg e=> ?_),fun g hg=> ?_⟩
  ·rcases e with e|e|e
   ·rw[e,<-HX.out] at hg;exact absurd hk1.size (jk.2 hg)
   ·exact(h.sw g e).1
   ·exact e▸h.sd
  ·rcases hg with hg|hg
   ·exact .inl hg
   ·by_cases hy:g<w.heap.size
    ·by_cases hw:wv.ownBlock=some g
     ·exact .inl (h.sw g hw).1
     ·exact absurd hg (hlt4 g (ax hy (aG hk1.size hk13.size)) hw)
    ·exact .inr (aV.1 hy)
 refine⟨rfl,_,_,⟨hD1.ok.put i l (by rw[σ.bM.1];exact hi) hl,fun g hg=> ?_,.inl hD1.sd,.inl hD1.sg,hD1.ne,?_,?_,fun j hj=> ?_,?_,fun g hg=>⟨.inr hg,?_,?_⟩⟩,hstep⟩
 ·rcases hg with hg|hg
  ·exact ax (hD1.sub g hg) hk16.size
  ·exact ax (hown5.1.lt _ hg).2 hk56.size
 ·rw[gL w5 d 1 _ _ _ hob5]
  rfl
 ·obtain⟨D,h1,h2⟩:=hD1.blk
  exact⟨D,(hk16.block gs hgs hgn).trans h1,h2⟩
 ·intro y u hu
  exact(hk16.cell (p:=⟨gs,j*512+y,none⟩) hgs hgn).trans (hD1.sec j hj y u hu)
 ·have e1:(σ.dF.put i l).waits.length=σ.waits.length+1:=by simp[Dk.put,σ.bM.2.2]
  have e2:iI (σ.dF.put i l).waits=iI σ.waits++C:=by
   rw[show (σ.dF.put i l).waits=σ.waits++[(i,pad l)] by simp[Dk.put,σ.bM.2.2],xX,<-HC.out]
   simp[iI]
  rw[e1,e2]
  exact hown5.keep fun y hy hl _=>⟨hk56.block y hl (fun e=>hlt4 d hd3 (fun e'=>(hox _ e').2.2 rfl) (e▸hy)),id⟩
 ·exact fun e=>hlt4 d hd3 (fun e'=>(hox _ e').2.2 rfl) (e▸hg)
 ·exact fun e=>hlt4 gs (ax hgs hk13.size) (fun e'=>(hD1.sw _ e').2.2 rfl) (e▸hg)
theorem mO.wait {w:World}{S:Nat->Prop}{d:Nat}{σ:Dk}{gs:Nat}{wv:Value}(h:mO w S d σ gs wv)(k:Nat)(hk:k<σ.waits.length):
  ∃g cap,wv= .slice (some ⟨g,0,none⟩) σ.waits.length cap/\w.rangeAt g (k*513) (fo σ.waits[k])/\g<w.heap.size/\σ.waits.length<=cap/\cap<=9223372036854775807:=by
 obtain⟨wo,wc,rfl,h1,h2,h3,h4⟩:=aW.form h.own.dL
 obtain⟨⟨hl',hr'⟩,_⟩:=h.own
 rcases hr' with ⟨hv,h0⟩|⟨g,cap,cur,hv,_⟩
 ·omega
 ·cases hv
  obtain⟨cur,hrow,_,htk,_⟩:=aQ.row h.own
  refine⟨g,wc,rfl,fun y u hu=> ?_,hrow.lt,h1,h2⟩
  have hu':=qh (fun p hp=>(h.ok.wt p hp).2) k hk y u hu
  rw[hrow.cell,<-hu',<-htk,gY]
  split
  ·rfl
  ·exfalso
   have h2:=(bg.1 hu').1
   rw[qE (fun p hp=>(h.ok.wt p hp).2)] at h2
   omega
theorem Jp (cur cs:List Value)(off y:Nat)(hy:y<cs.length)(hf:off+cs.length<=cur.length):(splice cur off cs)[off+y]? =cs[y]? :=by
 unfold splice
 have hl:(cur.take off).length=off:=by rw[aL];omega
 rw[bA (by omega),hl,dz,fw hy]
theorem FX (cur cs:List Value)(off y:Nat)(hy:y<off\/off+cs.length<=y)(hf:off+cs.length<=cur.length):(splice cur off cs)[y]? =cur[y]? :=by
 unfold splice
 have hl:(cur.take off).length=off:=by rw[aL];omega
 rcases hy with hy|hy
 ·rw[fw (by omega),gY,if_pos hy]
 ·rw[bA (by omega),hl,bA (by omega),List.getElem?_drop]
  congr 1
  omega
def Dk.lay (σ:Dk)(i:Nat)(l:List UInt8):Dk:={σ with sec:=fun j=>if i=j then l else σ.sec j}
theorem Dk.Ok.lay {σ:Dk}(h:σ.Ok)(i:Nat)(l:List UInt8)(hl:l.length=512):(σ.lay i l).Ok:=
 ⟨h.lo,h.hi,fun j=>by show (if i=j then l else σ.sec j).length=512;split;exact hl;exact h.sec j,h.wt,h.fl⟩
def Dk.upto (σ:Dk)(k:Nat):Dk:={σ with sec:=fun i=>behind (σ.waits.take k) i (σ.sec i)}
theorem Dk.Jd (σ:Dk)(k:Nat)(hk:k<σ.waits.length):σ.upto (k+1)=(σ.upto k).lay σ.waits[k].1 σ.waits[k].2:=by
 unfold Dk.upto Dk.lay
 congr 1
 funext i
 rw[aM hk,mR]
 rfl
theorem Dk.KU (σ:Dk):({σ.upto σ.waits.length with waits:=[]}:Dk)=σ.flush:=by
 unfold Dk.upto Dk.flush Dk.get
 rw[bW]
theorem mO.lay {w w':World}{S:Nat->Prop}{d:Nat}{σ:Dk}{gs:Nat}{wv:Value}(h:mO w S d σ gs wv)(i:Nat)(l:List UInt8)(hi:i<σ.n)(hl:l.length=512)(cur:List Value)
  (hc:Row w gs 239 cur) (hr:Row w' gs 239 (splice cur (i*512) (aB l))) (hk:Keep (· =gs) w w'):mO w' S d (σ.lay i l) gs wv:=by
 have hbl:(aB l).length=512:=by rw[aY,hl]
 have hcl:cur.length=σ.n*512:=by
  obtain⟨C,h1,h2⟩:=h.blk
  unfold Row at hc
  rw[h1] at hc
  cases hc
  simpa using h2
 have hfit:i*512+(aB l).length<=cur.length:=by rw[hbl,hcl];omega
 refine⟨h.ok.lay i l hl,fun g hg=>ax (h.sub g hg) hk.size,h.sd,h.sg,h.ne,(hk.block d (h.sub _ h.sd) (fun e=>h.ne e.symm)).trans h.obj,⟨_,hr,?_⟩,fun j hj y u hu=> ?_,?_,h.sw⟩
 ·rw[ny]
  show (splice cur (i*512) (aB l)).length=σ.n*512
  unfold splice
  simp only[ay,aL,bB]
  omega
 ·rw[hr.cell]
  by_cases hij:i=j
  ·subst hij
   have hu':(aB l)[y]? =some u:=by
    have:(σ.lay i l).sec i=l:=if_pos rfl
    rwa [this] at hu
   rw[Jp _ _ _ _ ((bg.1 hu').1) hfit]
   exact hu'
  ·have hu':(aB (σ.sec j))[y]? =some u:=by
    have:(σ.lay i l).sec j=σ.sec j:=if_neg hij
    rwa [this] at hu
   have hy:y<512:=by have:=(bg.1 hu').1;rwa [aY,h.ok.sec] at this
   rw[FX _ _ _ _ (by rw[hbl];omega) hfit,<-hc.cell]
   exact h.sec j hj y u hu'
 ·exact h.own.keep fun g hg _ hs=>⟨hk.block g (h.own.1.lt _ hg).2 (h.sw g hg).2.2,hs⟩
theorem mO.below {w w':World}{S:Nat->Prop}{d:Nat}{σ:Dk}{gs:Nat}{wv:Value}(h:mO w S d σ gs wv){M:Nat->Prop}(hk:Keep M w w')(hM:∀g,S g->¬M g):mO w' S d σ gs wv:=by
 refine⟨h.ok,fun g hg=>ax (h.sub g hg) hk.size,h.sd,h.sg,h.ne,(hk.block d (h.sub _ h.sd) (hM _ h.sd)).trans h.obj,?_,fun i hi y u hu=> ?_,?_,h.sw⟩
 ·obtain⟨C,h1,h2⟩:=h.blk
  exact⟨C,(hk.block gs (h.sub _ h.sg) (hM _ h.sg)).trans h1,h2⟩
 ·exact(hk.cell (p:=⟨gs,i*512+y,none⟩) (h.sub _ h.sg) (hM _ h.sg)).trans (h.sec i hi y u hu)
 ·exact h.own.keep fun g hg hl hs=>⟨hk.block g hl (hM _ (h.sw g hg).1),hs⟩
theorem mO.row {w:World}{S:Nat->Prop}{d:Nat}{σ:Dk}{gs:Nat}{wv:Value}(h:mO w S d σ gs wv):∃cur,Row w gs 239 cur/\cur.length=σ.n*512:=by
 obtain⟨C,h1,h2⟩:=h.blk
 exact⟨C.toList,h1,by simpa using h2⟩
theorem zA:(Tryz.prog.info? 239).map (fun i=>i.size)=some 512:=by kernel_rfl
theorem J6 (d:Nat)(σ:Dk)(S:Nat->Prop)(gs:Nat)(wv:Value)(w:World)(h:mO w S d σ gs wv)(hd:σ.dead=false)(hbd:σ.dF.dead=false)(hcap:σ.waits.length<=1000000):
  Calls Tryz.prog 151 #[.pointer (some ⟨d,0,none⟩)] w fun e w'=>e= .returned (.int .i64 0)/\mO w' S d σ.dF.flush gs (.slice none 0 0)/\Step S S w w':=by
 have hbad:σ.bad 0=0:=by have:=h.ok.lo;unfold Dk.bad;rw[hd];simp;omega
 have hck:=kK d σ S gs wv 0 w h
 rw[hbad] at hck
 have HCK:=af hck;clear hck
 have hburn:=vO d σ S gs wv w h hd
 rw[hbd] at hburn
 have HB:=af hburn;clear hburn
 have hbw:σ.dF.waits.length<=1000000:=by rw[σ.bM.2.2];exact hcap
 have hnot:∀(x:Bool) (w:World),(Op.unary .not (.bool x)).run Tryz.prog w= .ok (.bool (!x)) w:=fun _ _=>rfl
 go_enter Tryz.func151,Tryz.ntmps151
 go_wp2_with (first
  |(go_at_call 148;go_must (refine HCK.out.mono ?_;rintro e w1 ⟨rfl,hw⟩;subst w1))
  |(go_at_call 149;go_must (refine HB.out.mono ?_;rintro e w1 ⟨rfl,hD1,hk1⟩;refine Stop.of ?_)))
 refine Stop.on ?_
 have HS:=af h.sd
 clear h HCK HB hbad hbd hd hcap
 generalize hτ:σ.dF=τ at hD1 hbw
 have HT:=af hτ;clear hτ
 obtain⟨wo,wc,rfl,g1,g2,g3,g4⟩:=aW.form hD1.own.dL
 obtain⟨c0,c1,_,_,hlt,hfz⟩:=hD1.cells
 go_wp2_with fail
 go_loopw [19] (fun i wr=>∃k:Nat,k<=τ.waits.length/\i= .int .i64 k/\mO wr S d (τ.upto k) gs (.slice wo τ.waits.length wc)/\Keep (· =gs) w1 wr) (fun i _=>τ.waits.length - (intOf i).toNat)
 case atStart=>exact⟨0,aN _,rfl,hD1,Keep.refl _ _⟩
 case round=>
  obtain⟨k,hk,rfl,hDk,hkk⟩:=hrel
  by_cases hlt:k<τ.waits.length
  ·obtain⟨g,cap,hgv,hrg,hgl,hgc,hgm⟩:=hDk.wait k hlt
   cases hgv
   obtain⟨x,HX⟩:∃x,Hid (wr.heap.size=x):=⟨_,af rfl⟩
   have hwt:=hDk.ok.wt _ (bI hlt)
   obtain⟨p,HP⟩:∃p,Hid (τ.waits[k]=p):=⟨_,af rfl⟩
   have hrg:wr.rangeAt g (k*513) (fo p):=by rw[<-HP.out];exact hrg
   have hp1:p.1<τ.n:=by rw[<-HP.out];exact hwt.1
   have hp2:=af (show p.2.length=512 by rw[<-HP.out];exact hwt.2)
   have hlen:=af (iX hp2.out)
   have hone:∀v∈fo p,v.oneCell'=true:=Gm p
   have hr1:Row (wr.alloc (.cells (fo (0,zB)).toArray 241)) wr.heap.size 241 (fo (0,zB)):=Row.new wr _ _
   have hz1:=af (show (fo (0,zB)).length=513 from iX fF)
   have hki:(k:Int)<(τ.waits.length:Int):=by omega
   go_wp2_with (first
    |((refine bU rfl ?_);intro K hK;(refine wp_load_mid 241 _ rfl g (k*513) rfl (fo p) _ hrg Tryz.underlying241 rfl (oC.trans (congrArg some hlen.out.symm)) ?_);refine hK _ _ ?_)
    |((refine bU rfl ?_);intro K hK;(refine fZ 241 rfl _ yI ?_);refine hK _ _ ?_)
    |((refine bU rfl ?_);intro K hK;(refine wp_store_row 241 _ _ rfl wr.heap.size 0 241 _ (fo p) rfl rfl hr1 (oC.trans (congrArg some hlen.out.symm)) (by rw[hz1.out,hlen.out];omega) hone ?_);intro w2 hr2 hk2;refine hK _ _ (Stop.of ?_)))
   refine Stop.on ?_
   rw[kC _ _ (hz1.out.trans hlen.out.symm),HX.out] at hr2
   rw[HX.out] at hk2
   have hkx:Keep (· =x) wr w2:=((Keep.refl (· =x) wr).alloc (.cells (fo (0,zB)).toArray 241)).trans hk2 (fun _ _ e=>e)
   have hxS:¬S x:=fun e=>absurd (hDk.sub x e) (by rw[HX.out];exact bY _)
   have hD2:=hDk.below hkx (fun y hy e=>hxS (e▸hy))
   obtain⟨c0',_,_,_,hlt',_⟩:=hD2.cells
   have hx0:w2.cell? ⟨x,0,none⟩=some (.int .i64 (p.1:Int)):=hr2.whole 0 _ rfl
   have hx1:w2.rangeAt x 1 (aB p.2):=fun y u hu=>by
    rw[wD 1]
    have:=hr2.whole (y+1) u hu
    rwa [iN] at this
   have hxl:=hr2.lt
   have hb2:=af (show (aB p.2).length=512 by rw[aY,hp2.out])
   have hone2:=fq p.2
   generalize hC:aB p.2=C at hx1 hb2 hone2
   have HC:=af hC;clear hC
   rw[HX.out]
   clear hr1 hr2 hk2 hone hrg
   obtain⟨cur,hrow,hcl⟩:=hD2.row
   have hrow':Row w2.drew gs 239 cur:=hrow
   have HCL:=af hcl;clear hcl
   have hp1':(p.1:Int)<((τ.upto k).n:Int):=by show (p.1:Int)<(τ.n:Int);omega
   have hn0:∀(n:Int),0<=n\/n<0:=fun n=>by omega
   go_wp2_with fail
   refine aK (fun W=>W=w2.drew) (fun i=> !([9].contains i)) [0,1,2,3,4,5,6,7,8,9] rfl (by kernel_rfl) rfl ?_
   repeat ((refine bq (v:= ?_) rfl rfl (fun _ _ _ h=>h) rfl (fun W hW=> ?_) ?_);rotate_left;(focus ((try dsimp only at hW);subst hW;(go_simp;first|done|with_reducible rfl)));(try simp only[Act.put,aj,av,au]))
   refine bq (v:= .agg C.toArray) rfl rfl (fun _ _ _ h=>h) rfl (fun W hW=> ?_) ?_
   ·subst hW
    exact jU 239 (.tmp 29) rfl x 1 rfl C _ hx1 Tryz.underlying239 rfl (zA.trans (congrArg some hb2.out.symm))
   simp only[Act.put,aj,av,au]
   repeat ((refine bq (v:= ?_) rfl rfl (fun _ _ _ h=>h) rfl (fun W hW=> ?_) ?_);rotate_left;(focus ((try dsimp only at hW);subst hW;(go_simp;first|done|with_reducible rfl)));(try simp only[Act.put,aj,av,au]))
   refine jm rfl rfl rfl (by kernel_rfl) ?_;intro K hK
   refine wp_store_row 239 (.tmp 31) (.tmp 30) rfl gs (p.1*512) 239 cur C rfl rfl hrow' (zA.trans (congrArg some hb2.out.symm)) (by rw[hb2.out,HCL.out];show _<=τ.n*512;omega) hone2 ?_
   intro w3 hr3 hk3
   refine hK.out _ _ ?_
   refine bF ?_
   go_wp2_with fail
   rw[<-HC.out] at hr3
   have hD3:=hD2.lay p.1 p.2 hp1 hp2.out cur hrow hr3 (((Keep.refl (· =gs) w2).drew).trans hk3 (fun _ _ e=>e))
   have hk13:Keep (· =gs) w1 w3:=(hkk.trans hkx (fun y hy e=>absurd (ax hy hkk.size) (by rw[e,HX.out];exact bY _))).trans (((Keep.refl (· =gs) w2).drew).trans hk3 (fun _ _ e=>e)) (fun _ _ e=>e)
   have hup:=τ.Jd k hlt
   rw[HP.out] at hup
   rw[<-hup] at hD3
   have HD3:=af hD3;have HK3:=af hk13
   clear hD3 hD2 hDk hkk hkx hk3 hk13 hup
   go_roundw
   case rel=>exact⟨k+1,by omega,by go_num,HD3.out,HK3.out⟩
   case measure=>simp[intOf];omega
  ·obtain rfl:k=τ.waits.length:=by omega
   obtain⟨_,_,_,_,hlt',hfz'⟩:=hDk.cells
   have hf1':=hfz' 1 (by omega)
   have hob:=hDk.obj
   have HDk:=af hDk;have HKK:=af hkk
   clear hDk hkk
   go_wp2_with fail
   go_ret
   have hk3:Keep (· =d) wr (wr.setCell ⟨d,1,none⟩ (.slice none 0 0)):=(Keep.refl (· =d) wr).setCell (p:=⟨d,1,none⟩) (.inr rfl) _
   have hDk:=HDk.out
   refine⟨rfl,?_,((hk1.mono (fun _ _ e=>e▸HS.out)).trans HKK.out (fun _ _ e=>e▸hDk.sg)).trans hk3 (fun _ _ e=>e▸HS.out),fun _ hg=> .inl hg⟩
   rw[HT.out,<-τ.KU]
   refine⟨⟨hDk.ok.lo,hDk.ok.hi,hDk.ok.sec,(fun p hp=>by cases hp),hDk.ok.fl⟩,fun y hy=>ax (hDk.sub y hy) hk3.size,hDk.sd,hDk.sg,hDk.ne,?_,?_,fun i hi y u hu=> ?_,aQ.nil _ _ _ _ _,(fun y hy=>by cases hy)⟩
   ·rw[gL wr d 1 _ _ _ hob]
    rfl
   ·obtain⟨C,h1,h2⟩:=hDk.blk
    exact⟨C,(hk3.block gs (hDk.sub _ hDk.sg) hDk.ne).trans h1,h2⟩
   ·exact(hk3.cell (p:=⟨gs,i*512+y,none⟩) (hDk.sub _ hDk.sg) hDk.ne).trans (hDk.sec i hi y u hu)
def kept:List Bool->List (Nat×List UInt8)->List (Nat×List UInt8)
 |b::ks,p::ws=>if b then p::kept ks ws else kept ks ws
 |_,_=>[]
theorem Eo (ks:List Bool):kept ks []=[]:=by cases ks<;>rfl
theorem Bd:∀(ks:List Bool) (ws:List (Nat×List UInt8)) (k:Nat) (hk:k<ws.length),kept ks (ws.take (k+1))=kept ks (ws.take k)++if ks.getD k false=true then[ws[k]] else[]
 |[],ws,k,hk=>by simp[kept]
 |b::ks,p::ws,0,hk=>by simp[kept,Eo]
 |b::ks,p::ws,k+1,hk=>by
  have ih:=Bd ks ws k (by simpa using hk)
  simp only[gG,kept,List.getElem_cons_succ,List.getD_cons_succ]
  rw[ih]
  split<;>simp
def Dk.PS (σ:Dk)(ks:List Bool):Dk:={σ with sec:=fun i=>behind (kept ks σ.waits) i (σ.sec i),waits:=[],fuel:= -1,dead:=false}
def qI (w:World)(S:Nat->Prop)(d:Nat)(σ:Dk):Prop:=∃gs wv,mO w S d σ gs wv
theorem qI.ok {w:World}{S:Nat->Prop}{d:Nat}{σ:Dk}(h:qI w S d σ):σ.Ok:=by obtain⟨_,_,h⟩:=h;exact h.ok
theorem qI.sub {w:World}{S:Nat->Prop}{d:Nat}{σ:Dk}(h:qI w S d σ):∀g,S g->g<w.heap.size:=by obtain⟨_,_,h⟩:=h;exact h.sub
theorem qI.keep {w w':World}{S M:Nat->Prop}{d:Nat}{σ:Dk}(h:qI w S d σ)(hk:Keep M w w')(hM:∀g,S g->¬M g):qI w' S d σ:=by obtain⟨gs,wv,h⟩:=h;exact⟨gs,wv,h.below hk hM⟩
theorem qI.below {w w':World}{S:Nat->Prop}{d:Nat}{σ:Dk}(h:qI w S d σ)(hb:Below w.heap.size w w'):qI w' S d σ:=h.keep (Keep.of_below hb d9) (fun _ _ e=>e)
theorem EJ (d:Nat)(σ:Dk)(S:Nat->Prop)(w:World)(h:qI w S d σ):
  Calls Tryz.prog 87 #[.pointer (some ⟨d,0,none⟩)] w fun e w'=>e= .returned (.int .i64 σ.n)/\w'=w:=by
 obtain⟨gs,wv,h⟩:=h
 exact Ju d σ S gs wv w h
theorem Te (d:Nat)(σ:Dk)(S:Nat->Prop)(w:World)(h:qI w S d σ):
  Calls Tryz.prog 73 #[.pointer (some ⟨d,0,none⟩)] w fun e w'=>e= .returned (.bool σ.dead)/\w'=w:=by
 obtain⟨gs,wv,h⟩:=h
 exact MJ d σ S gs wv w h
theorem Tc (d:Nat)(σ:Dk)(S:Nat->Prop)(i:Nat)(w:World)(h:qI w S d σ)(hd:σ.dead=false)(hi:i<σ.n):
  Calls Tryz.prog 217 #[.pointer (some ⟨d,0,none⟩),.int .i64 i] w fun e w'=>∃v,e= .returned (.tuple #[v,.int .i64 0])/\aQ w' d9 w.heap.size 5 1 v 512 (aB (σ.get i))/\Below w.heap.size w w':=by
 obtain⟨gs,wv,h⟩:=h
 exact J5 d σ S gs wv i w h hd hi
theorem GH (d:Nat)(σ:Dk)(S:Nat->Prop)(i:Int)(v:Value)(w:World)(h:qI w S d σ)(hb:σ.bad i≠0):
  Calls Tryz.prog 89 #[.pointer (some ⟨d,0,none⟩),.int .i64 i,v] w fun e w'=>e= .returned (.int .i64 (σ.bad i))/\w'=w:=by
 obtain⟨gs,wv,h⟩:=h
 have HCK:=af (kK d σ S gs wv i w h)
 generalize σ.bad i=q at hb HCK
 have hq:(q !=0)=true:=by simpa using hb
 go_enter Tryz.func89,Tryz.ntmps89
 go_wp2_with (first
  |(go_at_call 148;go_must (refine HCK.out.mono ?_;rintro e w1 ⟨rfl,hw⟩;subst w1)))
 go_ret
 exact⟨rfl,rfl⟩
theorem EH (d:Nat)(σ:Dk)(S:Nat->Prop)(i:Int)(v:Value)(l:List UInt8)(w:World)(h:qI w S d σ)(hb:σ.bad i=0)(hv:aW w S 1 v l.length (aB l))(hl:512<l.length):
  Calls Tryz.prog 89 #[.pointer (some ⟨d,0,none⟩),.int .i64 i,v] w fun e w'=>e= .returned (.int .i64 1)/\w'=w:=by
 obtain⟨gs,wv,h⟩:=h
 have hck:=kK d σ S gs wv i w h
 rw[hb] at hck
 have HCK:=af hck;clear hck hb
 obtain⟨vo,vc,rfl,_,_,_,_⟩:=aW.form hv
 have hl':(512:Int)<(l.length:Int):=by omega
 go_enter Tryz.func89,Tryz.ntmps89
 go_wp2_with (first
  |(go_at_call 148;go_must (refine HCK.out.mono ?_;rintro e w1 ⟨rfl,hw⟩;subst w1)))
 go_ret
 exact⟨rfl,rfl⟩
theorem EI (d:Nat)(σ:Dk)(S:Nat->Prop)(i:Int)(v:Value)(l:List UInt8)(w:World)(h:qI w S d σ)(hb:σ.bad i=0)(hd:σ.dead=false)(hv:aW w S 1 v l.length (aB l))(hl:l.length<=512)(hbd:σ.dF.dead=true):
  Calls Tryz.prog 89 #[.pointer (some ⟨d,0,none⟩),.int .i64 i,v] w fun e w'=>e= .returned (.int .i64 10)/\qI w' S d σ.dF/\Step S S w w':=by
 obtain⟨gs,wv,h⟩:=h
 have hck:=kK d σ S gs wv i w h
 rw[hb] at hck
 have HCK:=af hck;clear hck hb
 obtain⟨vo,vc,rfl,_,_,_,_⟩:=aW.form hv
 have hl':¬((512:Int)<(l.length:Int)):=by omega
 have hburn:=vO d σ S gs wv w h hd
 rw[hbd] at hburn
 have HB:=af hburn;clear hburn
 have HS:=af h.sd
 have hnot:∀(x:Bool) (w:World),(Op.unary .not (.bool x)).run Tryz.prog w= .ok (.bool (!x)) w:=fun _ _=>rfl
 go_enter Tryz.func89,Tryz.ntmps89
 go_wp2_with (first
  |(go_at_call 148;go_must (refine HCK.out.mono ?_;rintro e w1 ⟨rfl,hw⟩;subst w1))
  |(go_at_call 149;go_must (refine HB.out.mono ?_;rintro e w1 ⟨rfl,hD1,hk1⟩)))
 go_ret
 exact⟨rfl,⟨gs,wv,hD1⟩,hk1.mono (fun _ _ e=>e▸HS.out),fun _ hg=> .inl hg⟩
theorem Cs (d:Nat)(σ:Dk)(S:Nat->Prop)(i:Int)(v:Value)(l:List UInt8)(w:World)(h:qI w S d σ)(hv:aW w S 1 v l.length (aB l))(hcap:σ.waits.length<=1000000):
  Calls Tryz.prog 89 #[.pointer (some ⟨d,0,none⟩),.int .i64 i,v] w fun e w'=>e= .returned (.int .i64 (σ.write i l).2)/\∃S',qI w' S' d (σ.write i l).1/\Step S S' w w':=by
 by_cases hb:σ.bad i=0
 ·have hd:σ.dead=false:=by
   cases hd:σ.dead with
   |false=>rfl
   |true=>simp[Dk.bad,hd] at hb
  have hi:¬(i<0\/(σ.n:Int)<=i):=fun hi=>by simp[Dk.bad,hd,hi] at hb
  by_cases hl:512<l.length
  ·have e:σ.write i l=(σ,1):=by simp[Dk.write,hd,hi,hl]
   try rw[e]
   refine(EH d σ S i v l w h hb hv hl).mono ?_
   rintro e w' ⟨rfl,rfl⟩
   exact⟨rfl,S,h,Step.refl _ _⟩
  ·cases hbd:σ.dF.dead with
   |true=>
    have e:σ.write i l=(σ.dF,10):=by simp[Dk.write,hd,hi,hl,hbd]
    try rw[e]
    refine(EI d σ S i v l w h hb hd hv (by omega) hbd).mono ?_
    rintro e w' ⟨rfl,h1,h2⟩
    exact⟨rfl,S,h1,h2⟩
   |false=>
    have e:σ.write i l=(σ.dF.put i.toNat l,0):=by simp[Dk.write,hd,hi,hl,hbd]
    try rw[e]
    obtain⟨k,rfl⟩:∃k:Nat,i=k:=⟨i.toNat,by omega⟩
    obtain⟨gs,wv,h⟩:=h
    refine(J4 d σ S gs wv k v l w h hd (by omega) (by omega) hbd hv hcap).mono ?_
    rintro e w' ⟨rfl,S',wv',h1,h2⟩
    exact⟨rfl,S',⟨gs,wv',h1⟩,h2⟩
 ·have e:σ.write i l=(σ,σ.bad i):=by
   unfold Dk.bad at hb ⊢
   unfold Dk.write
   split
   ·rfl
   ·rename_i hd
    simp only[hd] at hb
    split
    ·rfl
    ·rename_i hi
     simp[hi] at hb
  try rw[e]
  refine(GH d σ S i v w h hb).mono ?_
  rintro e w' ⟨rfl,rfl⟩
  exact⟨rfl,S,h,Step.refl _ _⟩
theorem EL (d:Nat)(σ:Dk)(S:Nat->Prop)(w:World)(h:qI w S d σ)(hd:σ.dead=true):
  Calls Tryz.prog 151 #[.pointer (some ⟨d,0,none⟩)] w fun e w'=>e= .returned (.int .i64 10)/\w'=w:=by
 obtain⟨gs,wv,h⟩:=h
 have hck:=kK d σ S gs wv 0 w h
 rw[show σ.bad 0=10 by simp[Dk.bad,hd]] at hck
 have HCK:=af hck;clear hck
 go_enter Tryz.func151,Tryz.ntmps151
 go_wp2_with (first
  |(go_at_call 148;go_must (refine HCK.out.mono ?_;rintro e w1 ⟨rfl,hw⟩;subst w1)))
 go_ret
 exact⟨rfl,rfl⟩
theorem EK (d:Nat)(σ:Dk)(S:Nat->Prop)(w:World)(h:qI w S d σ)(hd:σ.dead=false)(hbd:σ.dF.dead=true):
  Calls Tryz.prog 151 #[.pointer (some ⟨d,0,none⟩)] w fun e w'=>e= .returned (.int .i64 10)/\qI w' S d σ.dF/\Step S S w w':=by
 obtain⟨gs,wv,h⟩:=h
 have hck:=kK d σ S gs wv 0 w h
 rw[show σ.bad 0=0 by have:=h.ok.lo;unfold Dk.bad;rw[hd];simp;omega] at hck
 have HCK:=af hck;clear hck
 have hburn:=vO d σ S gs wv w h hd
 rw[hbd] at hburn
 have HB:=af hburn;clear hburn
 have HS:=af h.sd
 have hnot:∀(x:Bool) (w:World),(Op.unary .not (.bool x)).run Tryz.prog w= .ok (.bool (!x)) w:=fun _ _=>rfl
 go_enter Tryz.func151,Tryz.ntmps151
 go_wp2_with (first
  |(go_at_call 148;go_must (refine HCK.out.mono ?_;rintro e w1 ⟨rfl,hw⟩;subst w1))
  |(go_at_call 149;go_must (refine HB.out.mono ?_;rintro e w1 ⟨rfl,hD1,hk1⟩)))
 go_ret
 exact⟨rfl,⟨gs,wv,hD1⟩,hk1.mono (fun _ _ e=>e▸HS.out),fun _ hg=> .inl hg⟩
theorem Ct (d:Nat)(σ:Dk)(S:Nat->Prop)(w:World)(h:qI w S d σ)(hcap:σ.waits.length<=1000000):
  Calls Tryz.prog 151 #[.pointer (some ⟨d,0,none⟩)] w fun e w'=>e= .returned (.int .i64 σ.sync.2)/\qI w' S d σ.sync.1/\Step S S w w':=by
 cases hd:σ.dead with
 |true=>
  have e:σ.sync=(σ,10):=by simp[Dk.sync,hd]
  try rw[e]
  refine(EL d σ S w h hd).mono ?_
  rintro e w' ⟨rfl,rfl⟩
  exact⟨rfl,h,Step.refl _ _⟩
 |false=>
  cases hbd:σ.dF.dead with
  |true=>
   have e:σ.sync=(σ.dF,10):=by simp[Dk.sync,hd,hbd]
   try rw[e]
   exact EK d σ S w h hd hbd
  |false=>
   have e:σ.sync=(σ.dF.flush,0):=by simp[Dk.sync,hd,hbd]
   try rw[e]
   obtain⟨gs,wv,h⟩:=h
   refine(J6 d σ S gs wv w h hd hbd hcap).mono ?_
   rintro e w' ⟨rfl,h1,h2⟩
   exact⟨rfl,⟨gs,_,h1⟩,h2⟩
def Dk.new (n:Nat):Dk:=⟨n,fun _=>zB,[],-1,false⟩
def iD (n:Int):Nat:=if n<1 then 1 else if 4096<n then 4096 else n.toNat
theorem Bl (n:Int):1<=iD n/\iD n<=4096:=by unfold iD;split;omega;split<;>omega
theorem Ey:(Tryz.prog.info? 239).map (fun i=>(i.zero,i.size,i.bytes))=some (some (.agg (aB zB).toArray),512,512):=by kernel_rfl
theorem Cj (w:World)(n:Nat)(hn:n<=4096):(Instr.makeSlice 131 (.int .i64 n) (.int .i64 n)).run Tryz.prog w= .ok (.slice (some ⟨w.heap.size,0,none⟩) n n) (w.alloc (.cells (madeCells (aB zB).toArray (n*512)) 239)):=by
 obtain⟨i,hi,hz,hsize,hby⟩:=zV Ey
 have:=run_make (P:=Tryz.prog) (w:=w) 131 239 i _ Tryz.underlying131 hi hz .i64 .i64 n n (by omega) (by omega) (by rw[hby];omega) (by omega)
 rw[this,hsize]
 simp only[cB]
 rfl
theorem Gq (w:World)(g n i:Nat)(hi:i<n)(h:w.heap[g]? =some (.cells (madeCells (aB zB).toArray (n*512)) 239 (0,0))):w.rangeAt g (i*512) (aB zB):=fun j v hv=>by
 have hj:=(bg.1 hv).1
 rw[aY,fF] at hj
 have hz:(aB zB).toArray.size=512:=by rw[ny,aY,fF]
 have hlt:i*512+j<n*512:=by omega
 have e1:(i*512+j)%512=j:=by omega
 have e2:(madeCells (aB zB).toArray (n*512))[i*512+j]? =some v:=by
  unfold madeCells
  rw[hz]
  simp only[Array.getElem?_map,Array.getElem?_range,hlt,lH,kN,e1]
  rw[<-hv]
  simp only[List.getElem!_toArray,List.getElem!_eq_getElem?_getD,hv,RN]
 rw[Nn w g (i*512+j) _ 239 (0,0) h]
 exact e2
theorem Ue (n:Int)(w:World):
  Calls Tryz.prog 26 #[.int .i64 n] w fun e w'=>∃d S,e= .returned (.pointer (some ⟨d,0,none⟩))/\qI w' S d (Dk.new (iD n))/\Below w.heap.size w w'/\∀g,S g->w.heap.size<=g:=by
 have hmk:=Cj w (iD n) (Bl n).2
 have hbd:=Bl n
 have fin:∀w2:World,w2.heap[w.heap.size]? =some (.cells (madeCells (aB zB).toArray (iD n*512)) 239 (0,0))->w2.heap[w.heap.size+1]? =some (.cells #[.slice (some ⟨w.heap.size,0,none⟩) (iD n) (iD n),.slice none 0 0,.int .i64 (-1),.bool false] 134 (0,0))->
   qI w2 (fun g=>g=w.heap.size\/g=w.heap.size+1) (w.heap.size+1) (Dk.new (iD n)):=fun w2 h1 h2=>by
  refine⟨w.heap.size,.slice none 0 0,⟨hbd.1,hbd.2,fun _=>fF,(fun p hp=>by cases hp),(by decide:(-1:Int)<=-1/\(-1:Int)<=9223372036854775807)⟩,?_,.inr rfl,.inl rfl,by omega,h2,⟨_,h1,?_⟩,fun i hi=>Gq w2 _ _ i hi h1,aQ.nil _ _ _ _ _,(fun y hy=>by cases hy)⟩
  ·rintro g (rfl|rfl)
   ·exact(ah.1 h1).1
   ·exact(ah.1 h2).1
  ·simp[madeCells,Dk.new]
 have HF:=af fin;clear fin
 generalize madeCells (aB zB).toArray (iD n*512)=C at hmk HF
 have close:Below w.heap.size w ((w.alloc (.cells C 239)).alloc (.cells #[.slice (some ⟨w.heap.size,0,none⟩) (iD n) (iD n),.slice none 0 0,.int .i64 (-1),.bool false] 134))/\
   qI ((w.alloc (.cells C 239)).alloc (.cells #[.slice (some ⟨w.heap.size,0,none⟩) (iD n) (iD n),.slice none 0 0,.int .i64 (-1),.bool false] 134)) (fun g=>g=w.heap.size\/g=w.heap.size+1) (w.heap.size+1) (Dk.new (iD n)):=by
  have hb:=iU w (.cells C 239) (.cells #[.slice (some ⟨w.heap.size,0,none⟩) (iD n) (iD n),.slice none 0 0,.int .i64 (-1),.bool false] 134)
  refine⟨hb,HF.out _ ?_ ?_⟩
  ·exact(nD _ _ _ (by simp)).trans (aF w _)
  ·have:=aF (w.alloc (.cells C 239)) (.cells #[.slice (some ⟨w.heap.size,0,none⟩) (iD n) (iD n),.slice none 0 0,.int .i64 (-1),.bool false] 134)
   rwa [aZ] at this
 have HC:=af close;clear close HF
 by_cases h1:n<1
 ·have e:iD n=1:=by simp[iD,h1]
  rw[e] at hmk HC
  simp only[Int.natCast_one] at hmk
  have h2:n<=1:=by omega
  have h8:max n 1=1:=by omega
  have h9:min (1:Int) 4096=1:=by omega
  clear hbd
  go_enter Tryz.func26,Tryz.ntmps26
  go_wp2_with fail
  go_ret
  try rw[e]
  exact⟨_,_,rfl,HC.out.2,HC.out.1,fun g hg=>by rcases hg with rfl|rfl<;>omega⟩
 ·by_cases h2:4096<n
  ·have e:iD n=4096:=by simp[iD,h1,h2]
   rw[e] at hmk HC
   have hmk2:(Instr.makeSlice 131 (.int .i64 4096) (.int .i64 4096)).run Tryz.prog w= .ok (.slice (some ⟨w.heap.size,0,none⟩) 4096 4096) (w.alloc (.cells C 239)):=hmk
   have h3:1<=n:=by omega
   have h4:¬n<=1:=by omega
   have h5:4096<=n:=by omega
   have h8:max n 1=n:=by omega
   have h9:min n 4096=4096:=by omega
   clear hbd hmk
   go_enter Tryz.func26,Tryz.ntmps26
   go_wp2_with fail
   go_ret
   try rw[e]
   exact⟨_,rfl,_,HC.out.2,HC.out.1,fun g hg=>by rcases hg with rfl|rfl<;>omega⟩
  ·obtain⟨m,rfl⟩:∃m:Nat,n=m:=⟨n.toNat,by omega⟩
   have e:iD (m:Int)=m:=by unfold iD;rw[if_neg h1,if_neg h2,cB]
   rw[e] at hmk HC
   have h3:(1:Int)<=(m:Int):=by omega
   have h5:(m:Int)<=4096:=by omega
   have h6:1<=m:=by omega
   have h7:m<=4096:=by omega
   have h8:max (m:Int) 1=m:=by omega
   have h9:min (m:Int) 4096=m:=by omega
   clear hbd
   go_enter Tryz.func26,Tryz.ntmps26
   go_wp2_with fail
   go_ret
   try rw[e]
   exact⟨_,rfl,_,HC.out.2,HC.out.1,fun g hg=>by rcases hg with rfl|rfl<;>omega⟩
end Go.Proofs.YtpmbddooibgnaaaGreatDoor
