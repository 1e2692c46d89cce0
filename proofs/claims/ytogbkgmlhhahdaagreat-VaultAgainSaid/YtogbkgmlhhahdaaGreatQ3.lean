/- parts -/
import Derived.Test.YtogbkgmlhhahdaaGreatQ1
import Derived.Test.YtogbkgmlhhahdaaGreatQ2
import Derived.Deep.MidRow
import Derived.OrdersHeld
import Derived.Deep.RegionHeld
set_option maxRecDepth 100000
set_option maxHeartbeats 8000000
set_option linter.all false
namespace Go.Proofs.YtogbkgmlhhahdaaGreat
open Go.RowKit
structure Dk where
 n:Nat
 sec:Nat->List UInt8
 waits:List (Nat×List UInt8)
 fuel:Int
 dead:Bool
def behind (ws:List (Nat×List UInt8))(i:Nat)(x:List UInt8):List UInt8:=ws.foldl (fun x p=>if p.1=i then p.2 else x) x
def Dk.get (σ:Dk)(i:Nat):List UInt8:=behind σ.waits i (σ.sec i)
def pad (l:List UInt8):List UInt8:=l++List.replicate (512 - l.length) 0
theorem o9 {l:List UInt8}(h:l.length<=512):(pad l).length=512:=by simp[pad];omega
theorem nP (a b:List (Nat×List UInt8))(i:Nat)(x:List UInt8):behind (a++b) i x=behind b i (behind a i x):=by simp[behind]
theorem vQ:∀(ws:List (Nat×List UInt8)) (i:Nat) (x:List UInt8),(∀p∈ws,p.1≠i)->behind ws i x=x
 |[],_,_,_=>rfl
 |p::ws,i,x,h=>by
  have h1:behind (p::ws) i x=behind ws i (if p.1=i then p.2 else x):=rfl
  rw[h1,if_neg (h p (bg ..))]
  exact vQ ws i x fun q hq=>h q (aW _ hq)
theorem Oa (ws:List (Nat×List UInt8))(i k:Nat)(x:List UInt8)(hk:k<ws.length)(h1:ws[k].1=i)(h2:∀j (hj:j<ws.length),k<j->ws[j].1≠i):behind ws i x=ws[k].2:=by
 have e:ws.take k++ws[k]::ws.drop (k+1)=ws:=by rw[List.getElem_cons_drop,bJ]
 have h0:behind (ws.take k++ws[k]::ws.drop (k+1)) i x=ws[k].2:=by
  rw[nP]
  show behind (ws.drop (k+1)) i (if ws[k].1=i then ws[k].2 else behind (ws.take k) i x)=_
  rw[if_pos h1]
  exact vQ (ws.drop (k+1)) i ws[k].2 (fun p hp=>by
   obtain⟨j,hj,rfl⟩:=List.mem_iff_getElem.1 hp
   rw[p8]
   exact h2 _ _ (by omega))
 rwa [e] at h0
theorem DT (ws:List (Nat×List UInt8))(i:Nat)(x:List UInt8)(hx:x.length=512)(h:∀p∈ws,p.2.length=512):(behind ws i x).length=512:=by
 induction ws generalizing x with
 |nil=>exact hx
 |cons p ws ih=>
  show (behind ws i (if p.1=i then p.2 else x)).length=512
  refine ih _ ?_ fun q hq=>h q (aW _ hq)
  split
  ·exact h p (bg ..)
  ·exact hx
def gq (p:Nat×List UInt8):List Value:= .int .i64 (p.1:Int)::aI p.2
def jY (ws:List (Nat×List UInt8)):List Value:=ws.flatMap gq
theorem AU (a b:List (Nat×List UInt8)):jY (a++b)=jY a++jY b:=by simp[jY]
theorem jr {p:Nat×List UInt8}(h:p.2.length=512):(gq p).length=513:=by simp[gq,bL,h]
theorem uj {ws:List (Nat×List UInt8)}(h:∀p∈ws,p.2.length=512):(jY ws).length=ws.length*513:=by
 induction ws with
 |nil=>rfl
 |cons p ws ih=>
  have:=ih fun q hq=>h q (aW _ hq)
  simp only[jY,iJ,ay,aZ] at*
  rw[jr (h p (bg ..)),this];omega
structure Dk.Ok (σ:Dk):Prop where
 lo:1<=σ.n
 hi:σ.n<=4096
 sec:∀i,(σ.sec i).length=512
 wt:∀p∈σ.waits,p.1<σ.n/\p.2.length=512
 fl: -1<=σ.fuel/\σ.fuel<=9223372036854775807
theorem Dk.Ok.get {σ:Dk}(h:σ.Ok)(i:Nat):(σ.get i).length=512:=DT _ _ _ (h.sec i) fun p hp=>(h.wt p hp).2
def Dk.fF (σ:Dk):Dk:=if σ.fuel=0 then{σ with dead:=true} else if 0<σ.fuel then{σ with fuel:=σ.fuel - 1} else σ
def Dk.put (σ:Dk)(i:Nat)(l:List UInt8):Dk:={σ with waits:=σ.waits++[(i,pad l)]}
def Dk.flush (σ:Dk):Dk:={σ with sec:=σ.get,waits:=[]}
theorem Dk.get_put (σ:Dk)(i j:Nat)(l:List UInt8):(σ.put i l).get j=if i=j then pad l else σ.get j:=by
 unfold Dk.get Dk.put
 rw[nP]
 rfl
theorem Dk.oh (σ:Dk)(j:Nat):σ.flush.get j=σ.get j:=rfl
theorem Dk.Ok.put {σ:Dk}(h:σ.Ok)(i:Nat)(l:List UInt8)(hi:i<σ.n)(hl:l.length<=512):(σ.put i l).Ok:=
 ⟨h.lo,h.hi,h.sec,fun p hp=>by
  rcases bX.1 hp with hp|hp
  ·exact h.wt p hp
  ·rw[bO.1 hp];exact⟨hi,o9 hl⟩,h.fl⟩
theorem Dk.Ok.fF {σ:Dk}(h:σ.Ok):σ.fF.Ok:=by
 have hf:=h.fl
 unfold Dk.fF
 split
 ·exact⟨h.lo,h.hi,h.sec,h.wt,h.fl⟩
 ·split
  ·refine⟨h.lo,h.hi,h.sec,h.wt,?_⟩
   show -1<=σ.fuel - 1/\σ.fuel - 1<=9223372036854775807
   omega
  ·exact h
def Dk.write (σ:Dk)(i:Int)(l:List UInt8):Dk×Int:=
 if σ.dead then(σ,10) else if i<0\/(σ.n:Int)<=i then(σ,1) else if 512<l.length then(σ,1) else
 if σ.fF.dead then(σ.fF,10) else(σ.fF.put i.toNat l,0)
def Dk.sync (σ:Dk):Dk×Int:=if σ.dead then(σ,10) else if σ.fF.dead then(σ.fF,10) else(σ.fF.flush,0)
def Dk.bad (σ:Dk)(i:Int):Int:=if σ.dead then 10 else if i<0\/(σ.n:Int)<=i then 1 else 0
structure oz (w:World)(S:Nat->Prop)(d:Nat)(σ:Dk)(gs:Nat)(wv:Value):Prop where
 ok:σ.Ok
 sub:∀g,S g->g<w.heap.size
 sd:S d
 sg:S gs
 ne:gs≠d
 obj:w.heap[d]? =some (.cells #[.slice (some ⟨gs,0,none⟩) σ.n σ.n,wv,.int .i64 σ.fuel,.bool σ.dead] 82 (0,0))
 blk:∃C,w.heap[gs]? =some (.cells C 111 (0,0))/\C.size=σ.n*512
 sec:∀i,i<σ.n->w.rangeAt gs (i*512) (aI (σ.sec i))
 own:aQ w fZ 0 113 513 wv σ.waits.length (jY σ.waits)
 sw:∀g,wv.ownBlock=some g->S g/\g≠d/\g≠gs
theorem oz.cells {w:World}{S:Nat->Prop}{d:Nat}{σ:Dk}{gs:Nat}{wv:Value}(h:oz w S d σ gs wv):
  w.cell? ⟨d,0,none⟩=some (.slice (some ⟨gs,0,none⟩) σ.n σ.n)/\w.cell? ⟨d,1,none⟩=some wv/\w.cell? ⟨d,2,none⟩=some (.int .i64 σ.fuel)/\w.cell? ⟨d,3,none⟩=some (.bool σ.dead)/\d<w.heap.size/\(∀i,i<4->w.frozen? ⟨d,i,none⟩=false):=by
 have hb:=h.obj
 refine⟨?_,?_,?_,?_,(aj.1 hb).1,?_⟩
 all_goals first
  |(simp[World.cell?,hb];done)
  |(intro i _;simp[World.frozen?,hb])
theorem mX (d:Nat)(σ:Dk)(S:Nat->Prop)(gs:Nat)(wv:Value)(i:Int)(w:World)(h:oz w S d σ gs wv):
  Calls Tryz.prog 53 #[.pointer (some ⟨d,0,none⟩),.int .i64 i] w fun e w'=>e= .returned (.int .i64 (σ.bad i))/\w'=w:=by
 obtain⟨c0,_,_,c3,hl,_⟩:=h.cells
 go_enter Tryz.func53,Tryz.ntmps53
 cases hd:σ.dead with
 |true=>
  rw[hd] at c3
  go_wp2_with fail
  go_ret
  exact⟨by simp[Dk.bad,hd],rfl⟩
 |false=>
  rw[hd] at c3
  by_cases h1:i<0\/(σ.n:Int)<=i
  ·rcases h1 with h1|h1
   ·go_wp2_with fail
    go_ret
    exact⟨by simp[Dk.bad,hd,h1],rfl⟩
   ·have h0:¬i<0:=by omega
    go_wp2_with fail
    go_ret
    exact⟨by simp[Dk.bad,hd,h1],rfl⟩
  ·have h2:¬i<0:=fun x=>h1 (.inl x)
   have h3:¬(σ.n:Int)<=i:=fun x=>h1 (.inr x)
   go_wp2_with fail
   go_ret
   exact⟨by simp[Dk.bad,hd,h2,h3],rfl⟩
theorem oz.UO {w w':World}{S:Nat->Prop}{d:Nat}{σ σ':Dk}{gs:Nat}{wv:Value}(h:oz w S d σ gs wv)(hk:Keep (· =d) w w')(hn:σ'.n=σ.n)(hs:σ'.sec=σ.sec)(hw:σ'.waits=σ.waits)(ho:σ'.Ok)
  (hb:w'.heap[d]? =some (.cells #[.slice (some ⟨gs,0,none⟩) σ.n σ.n,wv,.int .i64 σ'.fuel,.bool σ'.dead] 82 (0,0))):oz w' S d σ' gs wv:=by
 refine⟨ho,fun g hg=>ak (h.sub g hg) hk.size,h.sd,h.sg,h.ne,by rw[hn];exact hb,?_,fun i hi=> ?_,?_,h.sw⟩
 ·obtain⟨C,h1,h2⟩:=h.blk
  exact⟨C,(hk.block gs (h.sub _ h.sg) h.ne).trans h1,by rw[hn];exact h2⟩
 ·rw[hs]
  intro j v hv
  exact(hk.cell (p:=⟨gs,i*512+j,none⟩) (h.sub _ h.sg) h.ne).trans (h.sec i (by rw[<-hn];exact hi) j v hv)
 ·rw[hw]
  exact h.own.keep fun g hg hl hs=>⟨hk.block g hl (h.sw g hg).2.1,hs⟩
theorem zq (d:Nat)(σ:Dk)(S:Nat->Prop)(gs:Nat)(wv:Value)(w:World)(h:oz w S d σ gs wv)(hd:σ.dead=false):
  Calls Tryz.prog 54 #[.pointer (some ⟨d,0,none⟩)] w fun e w'=>e= .returned (.bool (!σ.fF.dead))/\oz w' S d σ.fF gs wv/\Keep (· =d) w w':=by
 obtain⟨_,_,c2,c3,hl,hf⟩:=h.cells
 have hf2:=hf 2 (by omega)
 have hf3:=hf 3 (by omega)
 have hob:=h.obj
 have hfl:=h.ok.fl.2
 have hok:=h.ok.fF
 rw[hd] at c3
 go_enter Tryz.func54,Tryz.ntmps54
 by_cases h0:σ.fuel=0
 ·rw[h0] at c2
  go_wp2_with fail
  go_ret
  have hb:σ.fF={σ with dead:=true}:=by unfold Dk.fF;rw[if_pos h0]
  rw[hb] at hok ⊢
  have hk:Keep (· =d) w (w.setCell ⟨d,3,none⟩ (.bool true)):=(Keep.refl (· =d) w).setCell (p:=⟨d,3,none⟩) (.inr rfl) _
  refine⟨rfl,h.UO hk rfl rfl rfl hok ?_,hk⟩
  rw[iL w d 3 _ _ _ hob]
  rfl
 ·by_cases h1:0<σ.fuel
  ·have hwr:IntKind.i64.wrap (σ.fuel - 1)=σ.fuel - 1:=aG _ (by omega)
   go_wp2_with fail
   go_ret
   have hb:σ.fF={σ with fuel:=σ.fuel - 1}:=by unfold Dk.fF;rw[if_neg h0,if_pos h1]
   rw[hb] at hok ⊢
   have hk:Keep (· =d) w (w.setCell ⟨d,2,none⟩ (.int .i64 (σ.fuel - 1))):=(Keep.refl (· =d) w).setCell (p:=⟨d,2,none⟩) (.inr rfl) _
   refine⟨by simp[hd],h.UO hk rfl rfl rfl hok ?_,hk⟩
   rw[iL w d 2 _ _ _ hob]
   rfl
  ·go_wp2_with fail
   go_ret
   have hb:σ.fF=σ:=by unfold Dk.fF;rw[if_neg h0,if_neg (by omega)]
   rw[hb,hd]
   exact⟨rfl,h,Keep.refl _ w⟩
theorem MQ (d:Nat)(σ:Dk)(S:Nat->Prop)(gs:Nat)(wv:Value)(w:World)(h:oz w S d σ gs wv):
  Calls Tryz.prog 9 #[.pointer (some ⟨d,0,none⟩)] w fun e w'=>e= .returned (.int .i64 σ.n)/\w'=w:=by
 obtain⟨c0,_,_,c3,hl,hf⟩:=h.cells
 go_enter Tryz.func9,Tryz.ntmps9
 go_wp2_with fail
 go_ret
 exact⟨rfl,rfl⟩
theorem Qp (d:Nat)(σ:Dk)(S:Nat->Prop)(gs:Nat)(wv:Value)(w:World)(h:oz w S d σ gs wv):
  Calls Tryz.prog 34 #[.pointer (some ⟨d,0,none⟩)] w fun e w'=>e= .returned (.bool σ.dead)/\w'=w:=by
 obtain⟨c0,_,_,c3,hl,hf⟩:=h.cells
 go_enter Tryz.func34,Tryz.ntmps34
 go_wp2_with fail
 go_ret
 exact⟨rfl,rfl⟩
theorem Cw {w:World}{b o n:Nat}{cs:List Value}(h:w.rangeAt b o cs)(hb:b<w.heap.size)(hn:cs.length=n)(hm:n<=maxLen):aX w fZ 1 (.slice (some ⟨b,o,none⟩) n n) n cs:=
 ⟨some ⟨b,o,none⟩,n,rfl,aC _,hm,by rw[hn,aU],fun e=>(by cases e),fun ad had=>(by cases had;exact⟨rfl,hb,id⟩),fun j u hu=>⟨b,o,rfl,h j u hu⟩⟩
theorem sS:∀{ws:List (Nat×List UInt8)} (_:∀p∈ws,p.2.length=512) (k:Nat) (hk:k<ws.length) (j:Nat) (v:Value),(gq ws[k])[j]? =some v->(jY ws)[k*513+j]? =some v
 |[],_,k,hk,_,_,_=>absurd hk (by simp)
 |p::ws,h,0,_,j,v,hv=>by
  have h1:(jY (p::ws))=gq p++jY ws:=rfl
  have h2:(gq p)[j]? =some v:=hv
  rw[h1,uz,dV,fU (cu.1 h2).1]
  exact h2
 |p::ws,h,k+1,hk,j,v,hv=>by
  have h1:(jY (p::ws))=gq p++jY ws:=rfl
  have h2:=jr (h p (bg ..))
  have h3:=sS (fun q hq=>h q (aW _ hq)) k (by simpa using hk) j v hv
  rw[h1,cZ (by rw[h2];omega),h2,show (k+1)*513+j - 513=k*513+j from by omega]
  exact h3
theorem NG (d:Nat)(σ:Dk)(S:Nat->Prop)(gs:Nat)(wv:Value)(i:Nat)(w:World)(h:oz w S d σ gs wv)(hd:σ.dead=false)(hi:i<σ.n):
  Calls Tryz.prog 102 #[.pointer (some ⟨d,0,none⟩),.int .i64 i] w fun e w'=>∃v,e= .returned (.tuple #[v,.int .i64 0])/\aQ w' fZ w.heap.size 5 1 v 512 (aI (σ.get i))/\Below w.heap.size w w':=by
 obtain⟨c0,c1,_,_,hl,_⟩:=h.cells
 have hbad:σ.bad i=0:=by unfold Dk.bad;rw[hd];simp;omega
 have hck:=mX d σ S gs wv i w h
 rw[hbad] at hck
 have HCK:=ah hck;clear hck
 obtain⟨wo,wc,rfl,hw1,hw2,_,_⟩:=aX.form h.own.dm
 have HOK:=ah h.ok.wt
 have hii:(i:Int)<(σ.n:Int):=by omega
 have hwl:IntKind.i64.wrap ((σ.waits.length:Int) - 1)=(σ.waits.length:Int) - 1:=aG _ (by omega)
 go_enter Tryz.func102,Tryz.ntmps102
 go_wp2_with (first
  |(go_at_call 53;go_must (refine HCK.out.mono ?_;rintro e w1 ⟨rfl,hw⟩;subst w1)))
 go_loopw [7] (fun x wr=>∃(k:Nat) (z:Int),k<=σ.waits.length/\z+1=k/\x= .int .i64 z/\wr=w/\∀j (hj:j<σ.waits.length),k<=j->σ.waits[j].1≠i) (fun x _=>(intOf x+1).toNat)
 case atStart=>exact⟨σ.waits.length,_,aC _,by omega,rfl,rfl,fun j hj hk=>absurd hj (by omega)⟩
 case round=>
  obtain⟨k,z,hk,hz,rfl,rfl,hno⟩:=hrel
  rcases Q8 k with hk0|hk0
  ·subst hk0
   obtain rfl:z= -1:=by omega
   have hg:σ.get i=σ.sec i:=vQ _ _ _ fun p hp=>by
    obtain⟨j,hj,rfl⟩:=List.mem_iff_getElem.1 hp
    exact hno j hj (aT _)
   have hsl:=Cw (h.sec i hi) (h.sub _ h.sg) (n:=512) (by rw[bL,h.ok.sec]) (by simp[maxLen])
   have hcl:=vN (.slice (some ⟨gs,i*512,none⟩) 512 512) 512 _ wr fZ (fun g hg=>hg.elim) hsl (gZ _) (by omega)
   have HCL:=ah hcl;clear hcl
   go_wp2_with (first
    |(go_at_call 148;go_must (refine HCL.out.mono ?_;rintro e w2 ⟨v,rfl,hv,hb⟩)))
   go_ret2
   rw[hg]
   exact⟨v,rfl,hv,hb⟩
  ·obtain⟨j,rfl⟩:∃j,k=j+1:=⟨k - 1,by omega⟩
   obtain rfl:z=(j:Int):=by omega
   clear hz
   have hj:j<σ.waits.length:=by omega
   have hlen:=(HOK.out _ (bE hj)).2
   obtain⟨g,rfl,hcell⟩:∃g,wo=some ⟨g,0,none⟩/\∀y u,(gq σ.waits[j])[y]? =some u->wr.cell? ⟨g,j*513+y,none⟩=some u:=by
    obtain⟨⟨hl',hr'⟩,_⟩:=h.own
    rcases hr' with ⟨_,h0⟩|⟨g,cap,cur,hv,_⟩
    ·omega
    ·cases hv
     refine⟨g,rfl,fun y u hu=> ?_⟩
     have hu':=sS (fun p hp=>(HOK.out p hp).2) j hj y u hu
     obtain⟨cur,hrow,_,htk,_⟩:=aQ.row h.own
     rw[hrow.cell,<-hu',<-htk,iR]
     split
     ·rfl
     ·exfalso
      have h2:=(cu.1 hu').1
      rw[uj (fun p hp=>(HOK.out p hp).2)] at h2
      omega
   have hjc:(j:Int)<(σ.waits.length:Int):=by omega
   have hc0:wr.cell? ⟨g,j*513,none⟩=some (.int .i64 (σ.waits[j].1:Int)):=hcell 0 _ rfl
   have hrg:wr.rangeAt g (j*513+1) (aI σ.waits[j].2):=fun y u hu=>by
    rw[lX,uE 1]
    exact hcell (y+1) u hu
   by_cases he:σ.waits[j].1=i
   ·have hg:σ.get i=σ.waits[j].2:=Oa _ _ _ _ hj he fun y hy hjy=>hno y hy (by omega)
    rw[he] at hc0
    have hgl:g<wr.heap.size:=(h.own.1.lt _ rfl).2
    have hsl:=Cw hrg hgl (n:=512) (by rw[bL,hlen]) (by simp[maxLen])
    have hcl:=vN (.slice (some ⟨g,j*513+1,none⟩) 512 512) 512 _ wr fZ (fun g hg=>hg.elim) hsl (gZ _) (by omega)
    have HCL:=ah hcl;clear hcl
    have HG:=ah hg;clear hsl hg
    have HE:=ah he;clear he
    go_wp2_with (first
     |(go_at_call 148;go_must (refine HCL.out.mono ?_;rintro e w2 ⟨v,rfl,hv,hb⟩)))
    go_ret2
    rw[HG.out]
    exact⟨v,rfl,hv,hb⟩
   ·have he2:(((σ.waits[j].1:Nat):Int)==(i:Int))=false:=fG.2 (by omega)
    go_wp2_with fail
    go_roundw
    case rel=>exact⟨j,(j:Int) - 1,by omega,by omega,by go_num,trivial,fun y hy hjy=>by
     rcases Nat.eq_or_lt_of_le hjy with e|e
     ·subst e;exact he
     ·exact hno y hy (by omega)⟩
    case measure=>simp[intOf]
section
variable {P:Program} {ops:Array Oper} {Q:Exit->Act->World->Prop} {md:Region.Mode} {S:World->Prop}
def IA (md:Region.Mode)(ops:Array Oper)(j:Nat):List Nat:=
 match ops[j]? with
 |none=>[]
 |some o=>(o.after.toList.filter (Region.binds md)).map (·.on)
def marks (md:Region.Mode)(ops:Array Oper):List Nat->List Nat->List Nat
 |[],l=>l
 |i::r,l=>marks md ops r (if l.contains i then(IA md ops i).foldl (fun acc k=>if acc.contains k then acc else k::acc) l else l)
def mJ (md:Region.Mode)(ops:Array Oper)(j:Nat):Bool:=
 let l:=marks md ops (List.range ops.size).reverse (IA md ops j)
 (List.range ops.size).all fun i=>i==j||l.contains i
def pY (md:Region.Mode)(ops:Array Oper)(listed:Array Bool):Prop:=∀i k,i<ops.size->k∈IA md ops i->listed.getD i true=true->listed.getD k false=true
theorem vJ {j k:Nat}{listed:Array Bool}(hj:j∈Region.ready md ops listed)(hk:k∈IA md ops j):listed.getD k false=true:=by
 obtain⟨_,o,ho,hall⟩:=mem_ready.1 hj
 unfold IA at hk
 rw[ho] at hk
 simp only[eT,List.mem_filter,Array.mem_toList_iff] at hk
 obtain⟨e,⟨he,hb⟩,rfl⟩:=hk
 exact hall e he hb
theorem pY.set {j:Nat}{listed:Array Bool}(h:pY md ops listed)(hj:j∈Region.ready md ops listed):pY md ops (listed.setIfInBounds j true):=by
 intro i k hi hk hl
 by_cases hij:j=i
 ·subst hij;exact getD_set_true (vJ hj hk)
 ·rw[getD_set_ne true hij] at hl;exact getD_set_true (h i k hi hk hl)
theorem pY.replicate:pY md ops (Array.replicate ops.size false):=by
 intro i k hi hk hl
 simp[hi] at hl
theorem xq {x:Nat}:∀(es:List Nat) (l:List Nat),x∈es.foldl (fun acc k=>if acc.contains k then acc else k::acc) l->x∈es\/x∈l
 |[],l,h=> .inr h
 |e::r,l,h=>by
  rcases xq r _ h with h|h
  ·exact .inl (aW _ h)
  ·dsimp only at h
   split at h
   ·exact .inr h
   ·rcases bM.1 h with rfl|h
    ·exact .inl (bg ..)
    ·exact .inr h
theorem qQ {listed:Array Bool}{i:Nat}(h:listed.getD i false=true):listed.getD i true=true:=by
 rcases jf i listed.size with h'|h'
 ·simpa [h'] using h
 ·simp[Array.getElem?_eq_none h'] at h
theorem yS {listed:Array Bool}(h:pY md ops listed):∀(r l:List Nat),(∀i∈r,i<ops.size)->(∀x∈l,listed.getD x false=true)->∀x∈marks md ops r l,listed.getD x false=true
 |[],_,_,hl=>hl
 |i::r,l,hr,hl=>by
  refine yS h r _ (fun k hk=>hr k (aW _ hk)) ?_
  intro x hx
  split at hx
  ·rename_i hc
   rcases xq _ _ hx with hx|hx
   ·exact h i x (hr i (bg ..)) hx (qQ (hl i (by simpa using hc)))
   ·exact hl x hx
  ·exact hl x hx
theorem Dw {i j:Nat}{listed:Array Bool}(h:mJ md ops j=true)(hs:pY md ops listed)(hj:j∈Region.ready md ops listed)(hi:i<ops.size)(hne:i≠j):listed.getD i false=true:=by
 unfold mJ at h
 have:=ow.1 h i (mE.2 hi)
 simp only[sj,qy,hne,false_or] at this
 refine yS hs (List.range ops.size).reverse _ (fun k hk=>by simpa using hk) (fun x hx=>vJ hj hx) i (by simpa using this)
def sZ (P:Program)(md:Region.Mode)(ops:Array Oper)(Q:Exit->Act->World->Prop)(S:World->Prop):Nat->Array Bool->Act->World->Prop
 |0,listed,a,w=>Region.ready md ops listed=[]/\Q .normal a w
 |fuel+1,listed,a,w=>
  (Region.ready md ops listed=[]->Q .normal a w)/\
  ∀i∈Region.ready md ops listed,wpOp P ops Q i (fun a' w'=>(mJ md ops i=true\/S w')/\sZ P md ops Q S fuel (listed.setIfInBounds i true) a' w') a w
theorem sV:∀(fuel:Nat) (listed:Array Bool) (a:Act) (w:World),sZ P md ops Q S fuel listed a w->wpAny P md ops Q fuel listed a w
 |0,_,_,_,h=>h
 |fuel+1,_,_,_,h=>⟨h.1,fun i hi=>yt (fun a' w' h'=>sV fuel _ a' w' h'.2) (h.2 i hi)⟩
theorem H6 {i:Nat}{listed:Array Bool}(h:i∈Region.ready md ops listed):i<ops.size:=by
 obtain⟨_,o,ho,_⟩:=mem_ready.1 h
 exact(aj.1 ho).1
theorem Ng {i j:Nat}{listed:Array Bool}(hs:pY md ops listed)(hi:i∈Region.ready md ops listed)(hj:j∈Region.ready md ops listed)(hne:i≠j):mJ md ops j=false:=by
 cases hw:mJ md ops j with
 |false=>rfl
 |true=>
  have h1:=qQ (Dw hw hs hj (H6 hi) hne)
  rw[(mem_ready.1 hi).1] at h1
  cases h1
theorem sW {i:Nat}{oi:Oper}{v:Value}(hi:ops[i]? =some oi)(hsel:∀(j:Nat) (o:Oper) cs b,ops[j]? =some o->o.op≠.select cs b)
  (hQ:∀c a w,Q (.panic c) (a.put oi.dst v) w->Q (.panic c) a w):
  ∀(fuel:Nat) (listed:Array Bool) (a:Act) (w:World),pY md ops listed->
   (∀j oj,ops[j]? =some oj->j≠i->listed.getD j true=false->(∀e∈oj.after,Region.binds md e=true->e.on≠i)->oi.apart ops oj=true)->
   i∈Region.ready md ops listed->YieldsIf P ops S oi v a->S w->
   sZ P md ops Q S fuel (listed.setIfInBounds i true) (a.put oi.dst v) w->sZ P md ops Q S (fuel+1) listed a w:=by
 intro fuel
 induction fuel with
 |zero=>
  intro listed a w hsh _ hr hy hS H
  refine⟨fun h=>(by rw[h] at hr;cases hr),fun j hj=> ?_⟩
  by_cases hji:j=i
  ·subst hji;exact hy.wpOp hi hS ⟨.inr hS,H⟩
  ·have:=ready_mono hj hji
   rw[H.1] at this
   cases this
 |succ fuel ih=>
  intro listed a w hsh hfree hr hy hS H
  refine⟨fun h=>(by rw[h] at hr;cases hr),fun j hj=> ?_⟩
  by_cases hji:j=i
  ·subst hji;exact hy.wpOp hi hS ⟨.inr hS,H⟩
  ·have h1:=H.2 j (ready_mono hj hji)
   have hnw:=Ng hsh hr hj (Ne.symm hji)
   obtain⟨hjun,oj,hoj,hall⟩:=mem_ready.1 hj
   have hnot:∀e∈oj.after,Region.binds md e=true->e.on≠i:=fun e he hb heq=>by
    have q1:=hall e he hb
    have q0:=(mem_ready.1 hr).1
    rw[heq] at q1
    rcases jf i listed.size with h'|h'
    ·simp[h'] at q0 q1;rw[q0] at q1;cases q1
    ·simp[Array.getElem?_eq_none h'] at q1
   have h2:=wpOp_putIf hoj (hfree j oj hoj hji hjun hnot) (fun cs b=>hsel i oi cs b hi) (fun cs b=>hsel j oj cs b hoj) hQ hy h1
   have hfree':∀k ok,ops[k]? =some ok->k≠i->(listed.setIfInBounds j true).getD k true=false->
     (∀e∈ok.after,Region.binds md e=true->e.on≠i)->oi.apart ops ok=true:=fun k ok hk hki hun hno=>by
    refine hfree k ok hk hki ?_ hno
    by_cases hjk:j=k
    ·subst hjk;exact hjun
    ·rw[getD_set_ne true hjk] at hun;exact hun
   refine yt (fun a' w' h3=> ?_) h2
   have hS':S w':=h3.2.1.resolve_left (by rw[hnw];simp)
   refine⟨.inr hS',ih (listed.setIfInBounds j true) a' w' (hsh.set hj) hfree' (ready_mono hr (Ne.symm hji)) h3.1 hS' ?_⟩
   rw[Array.setIfInBounds_comm _ _ hji]
   exact h3.2.2
def Ck (md:Region.Mode)(ops:Array Oper)(q:Nat->Bool):List Nat->Array Bool->Bool
 |[],listed=>(Region.ready md ops listed).isEmpty
 |i::rest,listed=>
  (if q i then(Region.ready md ops listed).contains i && Region.free md ops listed i
   else(Region.ready md ops listed==[i]) && (!mJ md ops i||rest.isEmpty)) && Ck md ops q rest (listed.setIfInBounds i true)
def mI (P:Program)(md:Region.Mode)(ops:Array Oper)(Q:Exit->Act->World->Prop)(S:World->Prop)(q:Nat->Bool):List Nat->Act->World->Prop
 |[],a,w=>Q .normal a w
 |i::rest,a,w=>
  if q i then ∃o v,ops[i]? =some o/\(∀c a w,Q (.panic c) (a.put o.dst v) w->Q (.panic c) a w)/\YieldsIf P ops S o v a/\mI P md ops Q S q rest (a.put o.dst v) w
  else wpOp P ops Q i (fun a' w'=>(mJ md ops i=true\/S w')/\mI P md ops Q S q rest a' w') a w
theorem nN (hs:Region.noSelect ops=true){q:Nat->Bool}:∀(order:List Nat) (fuel:Nat) (listed:Array Bool) (a:Act) (w:World),pY md ops listed->
  Ck md ops q order listed=true->order.length<=fuel->(order=[]\/S w)->mI P md ops Q S q order a w->sZ P md ops Q S fuel listed a w
 |[],fuel,listed,a,w,_,hok,_,_,h=>by
  have h0:Region.ready md ops listed=[]:=by simpa [Ck] using hok
  cases fuel with
  |zero=>exact⟨h0,h⟩
  |succ fuel=>exact⟨fun _=>h,fun i hi=>by rw[h0] at hi;cases hi⟩
 |i::rest,0,_,_,_,_,_,hf,_,_=>absurd hf (by simp)
 |i::rest,fuel+1,listed,a,w,hsh,hok,hf,hSw,h=>by
  have hS:S w:=hSw.resolve_left (by simp)
  simp only[Ck,dN] at hok
  obtain⟨hi,hrest⟩:=hok
  by_cases hq:q i=true
  ·simp only[hq,iI,dN] at hi
   simp only[mI,hq,iI] at h
   obtain⟨o,v,ho,hQ,hy,h⟩:=h
   exact sW ho (QY hs) hQ fuel listed a w hsh (Region.free_spec ho hi.2) (by simpa using hi.1) hy hS
    (nN hs rest fuel _ _ _ (hsh.set (by simpa using hi.1)) hrest (by simpa using hf) (.inr hS) h)
  ·rw[if_neg hq,dN,qy] at hi
   simp only[mI] at h
   rw[if_neg hq] at h
   have hr:Region.ready md ops listed=[i]:=by simpa using hi.1
   refine⟨fun h0=>(by rw[hr] at h0;cases h0),fun j hj=> ?_⟩
   rw[hr] at hj
   obtain rfl:j=i:=by simpa using hj
   refine yt (fun a' w' h3=>⟨h3.1,nN hs rest fuel _ _ _ (hsh.set (by rw[hr];exact bO.2 rfl)) hrest (by simpa using hf) ?_ h3.2⟩) h
   rcases h3.1 with hw|hS'
   ·have:=hi.2
    simp only[hw] at this
    exact .inl (by simpa using this)
   ·exact .inr hS'
theorem aP {id:Nat}{a:Act}{w:World}(S:World->Prop)(q:Nat->Bool)(order:List Nat)(hm:P.follows .mixedOrders=true)(hok:(Region.noSelect ops && decide (order.length<=ops.size) && Ck .any ops q order (Array.replicate ops.size false))=true)
  (hS:S w.drew) (h:mI P .any ops Q S q order a w.drew):(Code.region id ops true).wp P Q a w:=by
 simp only[dN,eZ] at hok
 exact wp_region_any hm (sV _ _ _ _ (nN hok.1.1 order _ _ _ _ pY.replicate hok.2 hok.1.2 (.inr hS) h))
theorem bS {q:Nat->Bool}{a:Act}{w:World}(h:Q .normal a w):mI P md ops Q S q [] a w:=h
theorem bP {q:Nat->Bool}{i:Nat}{rest:List Nat}{a:Act}{w:World}{o:Oper}{v:Value}(hq:q i=true)(hi':ops.toList[i]? =some o)(hQ:∀c a w,Q (.panic c) (a.put o.dst v) w->Q (.panic c) a w)
  (hw:Region.wanted o (yielded ops a.tmps)=true) (hy:∀W,S W->(execOp a.eval o).run P W= .ok (.value v) W) (h:mI P md ops Q S q rest (a.put o.dst v) w):mI P md ops Q S q (i::rest) a w:=by
 have hi:ops[i]? =some o:=by rw[<-gK];exact hi'
 simp only[mI,hq,iI];exact⟨o,v,hi,hQ,.inl ⟨hw,hy⟩,h⟩
theorem PD {q:Nat->Bool}{i:Nat}{rest:List Nat}{a:Act}{w:World}{o:Oper}(hq:q i=true)(hi':ops.toList[i]? =some o)(hQ:∀c a w,Q (.panic c) (a.put o.dst undef) w->Q (.panic c) a w)
  (hw:Region.wanted o (yielded ops a.tmps)=false) (h:mI P md ops Q S q rest (a.put o.dst undef) w):mI P md ops Q S q (i::rest) a w:=by
 have hi:ops[i]? =some o:=by rw[<-gK];exact hi'
 simp only[mI,hq,iI];exact⟨o,undef,hi,hQ,.inr ⟨hw,rfl⟩,h⟩
theorem dK {q:Nat->Bool}{i:Nat}{rest:List Nat}{a:Act}{w:World}{o:Oper}(hq:q i=false)(hi':ops.toList[i]? =some o)(hw:Region.wanted o (yielded ops a.tmps)=true)
  (h:∀K:Act->World->Prop,Shut (∀a w,S w->mI P md ops Q S q rest a w->K a w)->o.wp P a w K Q):mI P md ops Q S q (i::rest) a w:=by
 have hi:ops[i]? =some o:=by rw[<-gK];exact hi'
 simp only[mI,hq,wpOp,hi,hw,iI]
 exact .inl (h _ (fun a w hS hW=>⟨.inr hS,hW⟩))
theorem jO {q:Nat->Bool}{i:Nat}{rest:List Nat}{a:Act}{w:World}{o:Oper}(hq:q i=false)(hi':ops.toList[i]? =some o)(hw:Region.wanted o (yielded ops a.tmps)=true)(hl:mJ md ops i=true)
  (h:∀K:Act->World->Prop,Shut (∀a w,mI P md ops Q S q rest a w->K a w)->o.wp P a w K Q):mI P md ops Q S q (i::rest) a w:=by
 have hi:ops[i]? =some o:=by rw[<-gK];exact hi'
 simp only[mI,hq,wpOp,hi,hw,iI]
 exact .inl (h _ (fun a w hW=>⟨.inl hl,hW⟩))
end
end Go.Proofs.YtogbkgmlhhahdaaGreat
