/- parts -/
import Derived.Test.YtbfjgkafmlbpcaaGreatDoorT1
import Derived.Test.YtbfjgkafmlbpcaaGreatDoorT2
import Derived.Test.YtbfjgkafmlbpcaaGreatDoorT4
import Derived.Deep.MidRow
set_option maxRecDepth 100000
set_option maxHeartbeats 8000000
set_option linter.all false
namespace Go.Proofs.YtbfjgkafmlbpcaaGreatDoor
open Go.RowKit
structure Dk where
 n:Nat
 sec:Nat->List UInt8
 waits:List (Nat×List UInt8)
 fuel:Int
 dead:Bool
def behind (ws:List (Nat×List UInt8))(i:Nat)(x:List UInt8):List UInt8:=ws.foldl (fun x p=>if p.1=i then p.2 else x) x
def Dk.get (σ:Dk)(i:Nat):List UInt8:=behind σ.waits i (σ.sec i)
def pad (l:List UInt8):List UInt8:=l++List.replicate (512 - l.length) 0
theorem rf {l:List UInt8}(h:l.length<=512):(pad l).length=512:=by simp[pad];omega
theorem nX (a b:List (Nat×List UInt8))(i:Nat)(x:List UInt8):behind (a++b) i x=behind b i (behind a i x):=by simp[behind]
theorem tY:∀(ws:List (Nat×List UInt8)) (i:Nat) (x:List UInt8),(∀p∈ws,p.1≠i)->behind ws i x=x
 |[],_,_,_=>rfl
 |p::ws,i,x,h=>by
  have h1:behind (p::ws) i x=behind ws i (if p.1=i then p.2 else x):=rfl
  rw[h1,if_neg (h p (aX ..))]
  exact tY ws i x fun q hq=>h q (aU _ hq)
theorem Lf (ws:List (Nat×List UInt8))(i k:Nat)(x:List UInt8)(hk:k<ws.length)(h1:ws[k].1=i)(h2:∀j (hj:j<ws.length),k<j->ws[j].1≠i):behind ws i x=ws[k].2:=by
 have e:ws.take k++ws[k]::ws.drop (k+1)=ws:=by rw[List.getElem_cons_drop,bJ]
 have h0:behind (ws.take k++ws[k]::ws.drop (k+1)) i x=ws[k].2:=by
  rw[nX]
  show behind (ws.drop (k+1)) i (if ws[k].1=i then ws[k].2 else behind (ws.take k) i x)=_
  rw[if_pos h1]
  exact tY (ws.drop (k+1)) i ws[k].2 (fun p hp=>by
   obtain⟨j,hj,rfl⟩:=List.mem_iff_getElem.1 hp
   rw[BH]
   exact h2 _ _ (by omega))
 rwa [e] at h0
theorem Ch (ws:List (Nat×List UInt8))(i:Nat)(x:List UInt8)(hx:x.length=512)(h:∀p∈ws,p.2.length=512):(behind ws i x).length=512:=by
 induction ws generalizing x with
 |nil=>exact hx
 |cons p ws ih=>
  show (behind ws i (if p.1=i then p.2 else x)).length=512
  refine ih _ ?_ fun q hq=>h q (aU _ hq)
  split
  ·exact h p (aX ..)
  ·exact hx
def gM (p:Nat×List UInt8):List Value:= .int .i64 (p.1:Int)::aD p.2
def jo (ws:List (Nat×List UInt8)):List Value:=ws.flatMap gM
theorem zx (a b:List (Nat×List UInt8)):jo (a++b)=jo a++jo b:=by simp[jo]
theorem jC {p:Nat×List UInt8}(h:p.2.length=512):(gM p).length=513:=by simp[gM,bH,h]
theorem rV {ws:List (Nat×List UInt8)}(h:∀p∈ws,p.2.length=512):(jo ws).length=ws.length*513:=by
 induction ws with
 |nil=>rfl
 |cons p ws ih=>
  have:=ih fun q hq=>h q (aU _ hq)
  simp only[jo,kH,av,aY] at*
  rw[jC (h p (aX ..)),this];omega
structure Dk.Ok (σ:Dk):Prop where
 lo:1<=σ.n
 hi:σ.n<=4096
 sec:∀i,(σ.sec i).length=512
 wt:∀p∈σ.waits,p.1<σ.n/\p.2.length=512
 fl: -1<=σ.fuel/\σ.fuel<=9223372036854775807
theorem Dk.Ok.get {σ:Dk}(h:σ.Ok)(i:Nat):(σ.get i).length=512:=Ch _ _ _ (h.sec i) fun p hp=>(h.wt p hp).2
def Dk.eF (σ:Dk):Dk:=if σ.fuel=0 then{σ with dead:=true} else if 0<σ.fuel then{σ with fuel:=σ.fuel - 1} else σ
def Dk.put (σ:Dk)(i:Nat)(l:List UInt8):Dk:={σ with waits:=σ.waits++[(i,pad l)]}
def Dk.flush (σ:Dk):Dk:={σ with sec:=σ.get,waits:=[]}
theorem Dk.get_put (σ:Dk)(i j:Nat)(l:List UInt8):(σ.put i l).get j=if i=j then pad l else σ.get j:=by
 unfold Dk.get Dk.put
 rw[nX]
 rfl
theorem Dk.mM (σ:Dk)(j:Nat):σ.flush.get j=σ.get j:=rfl
theorem Dk.Ok.put {σ:Dk}(h:σ.Ok)(i:Nat)(l:List UInt8)(hi:i<σ.n)(hl:l.length<=512):(σ.put i l).Ok:=
 ⟨h.lo,h.hi,h.sec,fun p hp=>by
  rcases bR.1 hp with hp|hp
  ·exact h.wt p hp
  ·rw[bK.1 hp];exact⟨hi,rf hl⟩,h.fl⟩
theorem Dk.Ok.eF {σ:Dk}(h:σ.Ok):σ.eF.Ok:=by
 have hf:=h.fl
 unfold Dk.eF
 split
 ·exact⟨h.lo,h.hi,h.sec,h.wt,h.fl⟩
 ·split
  ·refine⟨h.lo,h.hi,h.sec,h.wt,?_⟩
   show -1<=σ.fuel - 1/\σ.fuel - 1<=9223372036854775807
   omega
  ·exact h
def Dk.write (σ:Dk)(i:Int)(l:List UInt8):Dk×Int:=
 if σ.dead then(σ,10) else if i<0\/(σ.n:Int)<=i then(σ,1) else if 512<l.length then(σ,1) else
 if σ.eF.dead then(σ.eF,10) else(σ.eF.put i.toNat l,0)
def Dk.sync (σ:Dk):Dk×Int:=if σ.dead then(σ,10) else if σ.eF.dead then(σ.eF,10) else(σ.eF.flush,0)
def Dk.bad (σ:Dk)(i:Int):Int:=if σ.dead then 10 else if i<0\/(σ.n:Int)<=i then 1 else 0
structure nU (w:World)(S:Nat->Prop)(d:Nat)(σ:Dk)(gs:Nat)(wv:Value):Prop where
 ok:σ.Ok
 sub:∀g,S g->g<w.heap.size
 sd:S d
 sg:S gs
 ne:gs≠d
 obj:w.heap[d]? =some (.cells #[.slice (some ⟨gs,0,none⟩) σ.n σ.n,wv,.int .i64 σ.fuel,.bool σ.dead] 115 (0,0))
 blk:∃C,w.heap[gs]? =some (.cells C 231 (0,0))/\C.size=σ.n*512
 sec:∀i,i<σ.n->w.rangeAt gs (i*512) (aD (σ.sec i))
 own:aP w gJ 0 233 513 wv σ.waits.length (jo σ.waits)
 sw:∀g,wv.ownBlock=some g->S g/\g≠d/\g≠gs
theorem nU.cells {w:World}{S:Nat->Prop}{d:Nat}{σ:Dk}{gs:Nat}{wv:Value}(h:nU w S d σ gs wv):
  w.cell? ⟨d,0,none⟩=some (.slice (some ⟨gs,0,none⟩) σ.n σ.n)/\w.cell? ⟨d,1,none⟩=some wv/\w.cell? ⟨d,2,none⟩=some (.int .i64 σ.fuel)/\w.cell? ⟨d,3,none⟩=some (.bool σ.dead)/\d<w.heap.size/\(∀i,i<4->w.frozen? ⟨d,i,none⟩=false):=by
 have hb:=h.obj
 refine⟨?_,?_,?_,?_,(ah.1 hb).1,?_⟩
 all_goals first
  |(simp[World.cell?,hb];done)
  |(intro i _;simp[World.frozen?,hb])
theorem lM (d:Nat)(σ:Dk)(S:Nat->Prop)(gs:Nat)(wv:Value)(i:Int)(w:World)(h:nU w S d σ gs wv):
  Calls Tryz.prog 130 #[.pointer (some ⟨d,0,none⟩),.int .i64 i] w fun e w'=>e= .returned (.int .i64 (σ.bad i))/\w'=w:=by
 obtain⟨c0,_,_,c3,hl,_⟩:=h.cells
 go_enter Tryz.func130,Tryz.ntmps130
 cases hd:σ.dead with
 |true=>
  rw[hd] at c3
  go_wp2_with fail
  go_ret
  exact⟨by simp[Dk.bad,hd],rfl⟩
 |false=>
  rw[hd] at c3
  by_cases h1:i<0\/(σ.n:Int)<=i
  ·rcases h1 with h1|h1
   ·go_wp2_with fail
    go_ret
    exact⟨by simp[Dk.bad,hd,h1],rfl⟩
   ·have h0:¬i<0:=by omega
    go_wp2_with fail
    go_ret
    exact⟨by simp[Dk.bad,hd,h1],rfl⟩
  ·have h2:¬i<0:=fun x=>h1 (.inl x)
   have h3:¬(σ.n:Int)<=i:=fun x=>h1 (.inr x)
   go_wp2_with fail
   go_ret
   exact⟨by simp[Dk.bad,hd,h2,h3],rfl⟩
theorem nU.Si {w w':World}{S:Nat->Prop}{d:Nat}{σ σ':Dk}{gs:Nat}{wv:Value}(h:nU w S d σ gs wv)(hk:Keep (· =d) w w')(hn:σ'.n=σ.n)(hs:σ'.sec=σ.sec)(hw:σ'.waits=σ.waits)(ho:σ'.Ok)
  (hb:w'.heap[d]? =some (.cells #[.slice (some ⟨gs,0,none⟩) σ.n σ.n,wv,.int .i64 σ'.fuel,.bool σ'.dead] 115 (0,0))):nU w' S d σ' gs wv:=by
 refine⟨ho,fun g hg=>ak (h.sub g hg) hk.size,h.sd,h.sg,h.ne,by rw[hn];exact hb,?_,fun i hi=> ?_,?_,h.sw⟩
 ·obtain⟨C,h1,h2⟩:=h.blk
  exact⟨C,(hk.block gs (h.sub _ h.sg) h.ne).trans h1,by rw[hn];exact h2⟩
 ·rw[hs]
  intro j v hv
  exact(hk.cell (p:=⟨gs,i*512+j,none⟩) (h.sub _ h.sg) h.ne).trans (h.sec i (by rw[<-hn];exact hi) j v hv)
 ·rw[hw]
  exact h.own.keep fun g hg hl hs=>⟨hk.block g hl (h.sw g hg).2.1,hs⟩
theorem xL (d:Nat)(σ:Dk)(S:Nat->Prop)(gs:Nat)(wv:Value)(w:World)(h:nU w S d σ gs wv)(hd:σ.dead=false):
  Calls Tryz.prog 131 #[.pointer (some ⟨d,0,none⟩)] w fun e w'=>e= .returned (.bool (!σ.eF.dead))/\nU w' S d σ.eF gs wv/\Keep (· =d) w w':=by
 obtain⟨_,_,c2,c3,hl,hf⟩:=h.cells
 have hf2:=hf 2 (by omega)
 have hf3:=hf 3 (by omega)
 have hob:=h.obj
 have hfl:=h.ok.fl.2
 have hok:=h.ok.eF
 rw[hd] at c3
 go_enter Tryz.func131,Tryz.ntmps131
 by_cases h0:σ.fuel=0
 ·rw[h0] at c2
  go_wp2_with fail
  go_ret
  have hb:σ.eF={σ with dead:=true}:=by unfold Dk.eF;rw[if_pos h0]
  rw[hb] at hok ⊢
  have hk:Keep (· =d) w (w.setCell ⟨d,3,none⟩ (.bool true)):=(Keep.refl (· =d) w).setCell (p:=⟨d,3,none⟩) (.inr rfl) _
  refine⟨rfl,h.Si hk rfl rfl rfl hok ?_,hk⟩
  rw[iP w d 3 _ _ _ hob]
  rfl
 ·by_cases h1:0<σ.fuel
  ·have hwr:IntKind.i64.wrap (σ.fuel - 1)=σ.fuel - 1:=aM _ (by omega)
   go_wp2_with fail
   go_ret
   have hb:σ.eF={σ with fuel:=σ.fuel - 1}:=by unfold Dk.eF;rw[if_neg h0,if_pos h1]
   rw[hb] at hok ⊢
   have hk:Keep (· =d) w (w.setCell ⟨d,2,none⟩ (.int .i64 (σ.fuel - 1))):=(Keep.refl (· =d) w).setCell (p:=⟨d,2,none⟩) (.inr rfl) _
   refine⟨by simp[hd],h.Si hk rfl rfl rfl hok ?_,hk⟩
   rw[iP w d 2 _ _ _ hob]
   rfl
  ·go_wp2_with fail
   go_ret
   have hb:σ.eF=σ:=by unfold Dk.eF;rw[if_neg h0,if_neg (by omega)]
   rw[hb,hd]
   exact⟨rfl,h,Keep.refl _ w⟩
theorem Ki (d:Nat)(σ:Dk)(S:Nat->Prop)(gs:Nat)(wv:Value)(w:World)(h:nU w S d σ gs wv):
  Calls Tryz.prog 86 #[.pointer (some ⟨d,0,none⟩)] w fun e w'=>e= .returned (.int .i64 σ.n)/\w'=w:=by
 obtain⟨c0,_,_,c3,hl,hf⟩:=h.cells
 go_enter Tryz.func86,Tryz.ntmps86
 go_wp2_with fail
 go_ret
 exact⟨rfl,rfl⟩
theorem NC (d:Nat)(σ:Dk)(S:Nat->Prop)(gs:Nat)(wv:Value)(w:World)(h:nU w S d σ gs wv):
  Calls Tryz.prog 103 #[.pointer (some ⟨d,0,none⟩)] w fun e w'=>e= .returned (.bool σ.dead)/\w'=w:=by
 obtain⟨c0,_,_,c3,hl,hf⟩:=h.cells
 go_enter Tryz.func103,Tryz.ntmps103
 go_wp2_with fail
 go_ret
 exact⟨rfl,rfl⟩
theorem AZ {w:World}{b o n:Nat}{cs:List Value}(h:w.rangeAt b o cs)(hb:b<w.heap.size)(hn:cs.length=n)(hm:n<=maxLen):bn w gJ 1 (.slice (some ⟨b,o,none⟩) n n) n cs:=
 ⟨some ⟨b,o,none⟩,n,rfl,ax _,hm,by rw[hn,aT],fun e=>(by cases e),fun ad had=>(by cases had;exact⟨rfl,hb,id⟩),fun j u hu=>⟨b,o,rfl,h j u hu⟩⟩
theorem qU:∀{ws:List (Nat×List UInt8)} (_:∀p∈ws,p.2.length=512) (k:Nat) (hk:k<ws.length) (j:Nat) (v:Value),(gM ws[k])[j]? =some v->(jo ws)[k*513+j]? =some v
 |[],_,k,hk,_,_,_=>absurd hk (by simp)
 |p::ws,h,0,_,j,v,hv=>by
  have h1:(jo (p::ws))=gM p++jo ws:=rfl
  have h2:(gM p)[j]? =some v:=hv
  rw[h1,xX,eG,fJ (bT.1 h2).1]
  exact h2
 |p::ws,h,k+1,hk,j,v,hv=>by
  have h1:(jo (p::ws))=gM p++jo ws:=rfl
  have h2:=jC (h p (aX ..))
  have h3:=qU (fun q hq=>h q (aU _ hq)) k (by simpa using hk) j v hv
  rw[h1,bV (by rw[h2];omega),h2,show (k+1)*513+j - 513=k*513+j from by omega]
  exact h3
theorem KT (d:Nat)(σ:Dk)(S:Nat->Prop)(gs:Nat)(wv:Value)(i:Nat)(w:World)(h:nU w S d σ gs wv)(hd:σ.dead=false)(hi:i<σ.n):
  Calls Tryz.prog 106 #[.pointer (some ⟨d,0,none⟩),.int .i64 i] w fun e w'=>∃v,e= .returned (.tuple #[v,.int .i64 0])/\aP w' gJ w.heap.size 5 1 v 512 (aD (σ.get i))/\Below w.heap.size w w':=by
 obtain⟨c0,c1,_,_,hl,_⟩:=h.cells
 have hbad:σ.bad i=0:=by unfold Dk.bad;rw[hd];simp;omega
 have hck:=lM d σ S gs wv i w h
 rw[hbad] at hck
 have HCK:=af hck;clear hck
 obtain⟨wo,wc,rfl,hw1,hw2,_,_⟩:=bn.form h.own.cZ
 have HOK:=af h.ok.wt
 have hii:(i:Int)<(σ.n:Int):=by omega
 have hwl:IntKind.i64.wrap ((σ.waits.length:Int) - 1)=(σ.waits.length:Int) - 1:=aM _ (by omega)
 go_enter Tryz.func106,Tryz.ntmps106
 go_wp2_with (first
  |(go_at_call 130;go_must (refine HCK.out.mono ?_;rintro e w1 ⟨rfl,hw⟩;subst w1)))
 go_loopw [7] (fun x wr=>∃(k:Nat) (z:Int),k<=σ.waits.length/\z+1=k/\x= .int .i64 z/\wr=w/\∀j (hj:j<σ.waits.length),k<=j->σ.waits[j].1≠i) (fun x _=>(intOf x+1).toNat)
 case atStart=>exact⟨σ.waits.length,_,ax _,by omega,rfl,rfl,fun j hj hk=>absurd hj (by omega)⟩
 case round=>
  obtain⟨k,z,hk,hz,rfl,rfl,hno⟩:=hrel
  rcases Nat.eq_zero_or_pos k with hk0|hk0
  ·subst hk0
   obtain rfl:z= -1:=by omega
   have hg:σ.get i=σ.sec i:=tY _ _ _ fun p hp=>by
    obtain⟨j,hj,rfl⟩:=List.mem_iff_getElem.1 hp
    exact hno j hj (bf _)
   have hsl:=AZ (h.sec i hi) (h.sub _ h.sg) (n:=512) (by rw[bH,h.ok.sec]) (by simp[maxLen])
   have hcl:=tQ (.slice (some ⟨gs,i*512,none⟩) 512 512) 512 _ wr gJ (fun g hg=>hg.elim) hsl (gQ _) (by omega)
   have HCL:=af hcl;clear hcl
   go_wp2_with (first
    |(go_at_call 144;go_must (refine HCL.out.mono ?_;rintro e w2 ⟨v,rfl,hv,hb⟩)))
   go_ret2
   rw[hg]
   exact⟨v,rfl,hv,hb⟩
  ·obtain⟨j,rfl⟩:∃j,k=j+1:=⟨k - 1,by omega⟩
   obtain rfl:z=(j:Int):=by omega
   clear hz
   have hj:j<σ.waits.length:=by omega
   have hlen:=(HOK.out _ (bG hj)).2
   obtain⟨g,rfl,hcell⟩:∃g,wo=some ⟨g,0,none⟩/\∀y u,(gM σ.waits[j])[y]? =some u->wr.cell? ⟨g,j*513+y,none⟩=some u:=by
    obtain⟨⟨hl',hr'⟩,_⟩:=h.own
    rcases hr' with ⟨_,h0⟩|⟨g,cap,cur,hv,_⟩
    ·omega
    ·cases hv
     refine⟨g,rfl,fun y u hu=> ?_⟩
     have hu':=qU (fun p hp=>(HOK.out p hp).2) j hj y u hu
     obtain⟨cur,hrow,_,htk,_⟩:=aP.row h.own
     rw[hrow.cell,<-hu',<-htk,jd]
     split
     ·rfl
     ·exfalso
      have h2:=(bT.1 hu').1
      rw[rV (fun p hp=>(HOK.out p hp).2)] at h2
      omega
   have hjc:(j:Int)<(σ.waits.length:Int):=by omega
   have hc0:wr.cell? ⟨g,j*513,none⟩=some (.int .i64 (σ.waits[j].1:Int)):=hcell 0 _ rfl
   have hrg:wr.rangeAt g (j*513+1) (aD σ.waits[j].2):=fun y u hu=>by
    rw[lY,x9 1]
    exact hcell (y+1) u hu
   by_cases he:σ.waits[j].1=i
   ·have hg:σ.get i=σ.waits[j].2:=Lf _ _ _ _ hj he fun y hy hjy=>hno y hy (by omega)
    rw[he] at hc0
    have hgl:g<wr.heap.size:=(h.own.1.lt _ rfl).2
    have hsl:=AZ hrg hgl (n:=512) (by rw[bH,hlen]) (by simp[maxLen])
    have hcl:=tQ (.slice (some ⟨g,j*513+1,none⟩) 512 512) 512 _ wr gJ (fun g hg=>hg.elim) hsl (gQ _) (by omega)
    have HCL:=af hcl;clear hcl
    have HG:=af hg;clear hsl hg
    have HE:=af he;clear he
    go_wp2_with (first
     |(go_at_call 144;go_must (refine HCL.out.mono ?_;rintro e w2 ⟨v,rfl,hv,hb⟩)))
    go_ret2
    rw[HG.out]
    exact⟨v,rfl,hv,hb⟩
   ·have he2:(((σ.waits[j].1:Nat):Int)==(i:Int))=false:=dZ.2 (by omega)
    go_wp2_with fail
    go_roundw
    case rel=>exact⟨j,(j:Int) - 1,by omega,by omega,by go_num,trivial,fun y hy hjy=>by
     rcases Nat.eq_or_lt_of_le hjy with e|e
     ·subst e;exact he
     ·exact hno y hy (by omega)⟩
    case measure=>simp[intOf]
def zB:List UInt8:=List.replicate 512 0
theorem iy:zB.length=512:=by unfold zB;exact List.length_replicate
theorem zV (w:World):(zeroValue 233).run Tryz.prog w= .ok (.agg (gM (0,zB)).toArray) w:=by kernel_rfl
theorem Gj (i:Int):Tryz.prog.built 233 [(0,.int .i64 i)]=some (Value.int .i64 i::aD zB).toArray:=by kernel_rfl
theorem pI:(Tryz.prog.info? 233).map (fun i=>i.size)=some 513:=by kernel_rfl
theorem FP:(Tryz.prog.info? 233).map (fun i=>(i.zero,i.size,i.bytes))=some (some (.agg (gM (0,zB)).toArray),513,520):=by kernel_rfl
theorem zw:((Tryz.prog.info? 233).bind (·.zero)).isSome=true:=by kernel_rfl
theorem DF (v:Value)(n:Nat)(l:List UInt8):splice (v::aD (List.replicate n 0)) 1 (aD l)=v::aD (l++List.replicate (n - l.length) 0):=by
 unfold splice
 rw[gV,gP,bH,x9 1,eZ]
 simp[aD]
theorem mG (cur cs:List Value)(h:cur.length=cs.length):splice cur 0 cs=cs:=by
 unfold splice
 rw[gP,eG,<-h,jP];simp
theorem DI (i:Int)(l:List UInt8):splice (Value.int .i64 i::aD zB) 1 (aD l)=Value.int .i64 i::aD (pad l):=DF _ 512 l
theorem Dk.dx (σ:Dk):σ.eF.n=σ.n/\σ.eF.sec=σ.sec/\σ.eF.waits=σ.waits:=by unfold Dk.eF;split<;>(try split)<;>exact⟨rfl,rfl,rfl⟩
theorem KS (d:Nat)(σ:Dk)(S:Nat->Prop)(gs:Nat)(wv:Value)(i:Nat)(v:Value)(l:List UInt8)(w:World)(h:nU w S d σ gs wv)(hd:σ.dead=false)(hi:i<σ.n)(hl:l.length<=512)(hbd:σ.eF.dead=false)
  (hv:bn w S 1 v l.length (aD l)) (hcap:σ.waits.length<=1000000):
  Calls Tryz.prog 88 #[.pointer (some ⟨d,0,none⟩),.int .i64 i,v] w fun e w'=>e= .returned (.int .i64 0)/\∃S' wv',nU w' S' d (σ.eF.put i l) gs wv'/\Step S S' w w':=by
 have hbad:σ.bad i=0:=by unfold Dk.bad;rw[hd];simp;omega
 have hck:=lM d σ S gs wv i w h
 rw[hbad] at hck
 have HCK:=af hck;clear hck
 obtain⟨vo,vc,rfl,hv1,hv2,hv3,hv4⟩:=bn.form hv
 have hl':¬((512:Int)<(l.length:Int)):=by omega
 have hburn:=xL d σ S gs wv w h hd
 rw[hbd] at hburn
 have HB:=af hburn;clear hburn
 have hnot:∀(x:Bool) (w:World),(Op.unary .not (.bool x)).run Tryz.prog w= .ok (.bool (!x)) w:=fun _ _=>rfl
 go_enter Tryz.func88,Tryz.ntmps88
 go_wp2_with (first
  |(go_at_call 130;go_must (refine HCK.out.mono ?_;rintro e w1 ⟨rfl,hw⟩;subst w1))
  |(go_at_call 131;go_must (refine HB.out.mono ?_;rintro e w1 ⟨rfl,hD1,hk1⟩;refine Stop.of ?_)))
 refine Stop.on ?_
 obtain⟨c0,c1,c2,c3,hlt,hfz⟩:=hD1.cells
 have hf1:=hfz 1 (by omega)
 obtain⟨x,HX⟩:∃x,Hid (w1.heap.size=x):=⟨_,af rfl⟩
 have hr1:Row (w1.alloc (.cells (gM (0,zB)).toArray 233)) w1.heap.size 233 (gM (0,zB)):=Row.new w1 _ _
 have hz1:=af (show (gM (0,zB)).length=513 from jC iy)
 have hz2:=af (show (Value.int .i64 (i:Int)::aD zB).length=513 by rw[aY,bH,iy])
 go_wp2_with (first
  |((refine dh rfl ?_);intro K hK;(refine wC 233 _ rfl (Value.int .i64 i::aD zB) (Gj i) ?_);refine hK _ _ ?_)
  |((refine dh rfl ?_);intro K hK;(refine iT 233 rfl _ zV ?_);refine hK _ _ ?_)
  |((refine dh rfl ?_);intro K hK;(refine wp_store_row 233 _ _ rfl w1.heap.size 0 233 _ (Value.int .i64 i::aD zB) rfl rfl hr1 (pI.trans (congrArg some hz2.out.symm)) (by rw[hz1.out,hz2.out];omega) (Ih (i,zB)) ?_);intro w2 hr2 hk2;refine hK _ _ (Stop.of ?_)))
 refine Stop.on ?_
 rw[show splice (gM (0,zB)) 0 (Value.int .i64 (i:Int)::aD zB)=Value.int .i64 (i:Int)::aD zB from mG _ _ (hz1.out.trans hz2.out.symm)] at hr2
 rw[HX.out] at hr2 hk2
 clear hr1
 have hkx:Keep (· =x) w1 w2:=((Keep.refl (· =x) w1).alloc (.cells (gM (0,zB)).toArray 233)).trans hk2 (fun _ _ e=>e)
 have hxS:¬S x:=fun e=>absurd (hD1.sub x e) (by rw[HX.out];exact di _)
 have hv2:bn w2 gJ 1 (.slice vo l.length vc) l.length (aD l):=by
  have e1:=(hv.step (S':=S) ⟨hk1.mono (fun _ _ e=>e▸h.sd),fun g hg=> .inl hg⟩)
  exact e1.keep fun g _ hg hs=>⟨hkx.block g hg (fun e=>by rw[e,HX.out] at hg;exact di _ hg),id⟩
 have hlen:=af (bH l)
 have hfst:=hv2.first (P:=Tryz.prog) l.length (ax _)
 rw[aT,aG (iV hlen.out)] at hfst
 have hfst:=af hfst
 rw[HX.out]
 go_wp2_with (first
  |((refine dh rfl ?_);intro K hK;(refine fO (.tmp 24) (.tmp 25) 119 119 rfl 5 1 1 (.int .u8 0) bg jH x 1 233 l.length 512 512 (some ⟨x,1,none⟩) _ rfl hr2 (.slice vo l.length vc) rfl l.length (aD l) rfl ?_ ?_ hfst.out (fun _=>rfl) ?_ (gQ _) ?_);go_must ((focus (exact(bq hl).symm));(focus (rw[hlen.out,aT]));(focus (rw[hlen.out,hz2.out];omega));intro w3 hr3 hk3;refine hK _ _ (Stop.of ?_))))
 refine Stop.on ?_
 rw[DI] at hr3
 have hr3':Row w3 x 233 (gM (i,pad l)):=hr3
 clear hr3 hfst hlen hv2 hr2
 have hk13:Keep (· =x) w1 w3:=hkx.trans hk3 (fun _ _ e=>e)
 have hdx:¬d=x:=fun e=>hxS (e▸hD1.sd)
 have hlen:=jC (p:=(i,pad l)) (rf hl)
 have hone:∀v∈gM (i,pad l),v.oneCell'=true:=Ih (i,pad l)
 generalize hC:gM (i,pad l)=C at hr3' hlen hone
 have HC:=af hC;clear hC
 have HL:=af hlen;clear hlen
 have hx3:x<w3.heap.size:=hr3'.lt
 have hd3:d<w3.heap.size:=ak hlt hk13.size
 have hc3:w3.cell? ⟨d,1,none⟩=some wv:=(hk13.cell hlt hdx).trans c1
 go_wp2_with fail
 refine aN (fun W=>W.cell? ⟨d,1,none⟩=some wv/\d<W.heap.size/\W.rangeAt x 0 C/\x<W.heap.size) (fun i=> !([6,7,10].contains i)) [0,1,2,3,4,5,6,7,8,9,10] rfl (by kernel_rfl) ⟨hc3,hd3,hr3'.whole,hx3⟩ ?_
 repeat ((refine bL (v:= ?_) rfl rfl (fun _ _ _ h=>h) rfl (fun W hW=> ?_) ?_);rotate_left;(focus ((try dsimp only at hW);have q0:=hW.1;have q1:=hW.2.1;have q2:=hW.2.2.1;have q3:=hW.2.2.2;first|(clear q2;go_simp;first|done|with_reducible rfl)));(try simp only[Act.put,ai,au,aj]))
 refine bL (v:= .agg C.toArray) rfl rfl (fun _ _ _ h=>h) rfl (fun W hW=> ?_) ?_
 ·refine l9 233 (.tmp 8) rfl x 0 rfl C _ hW.2.2.1 Tryz.underlying233 rfl (pI.trans (congrArg some HL.out.symm))
 simp only[Act.put,ai,au,aj]
 have hr4:Row (w3.drew.alloc (.cells C.toArray 233)) w3.heap.size 233 C:=Row.new w3.drew C _
 have hk4:Keep gJ w3 (w3.drew.alloc (.cells C.toArray 233)):=((Keep.refl gJ w3).drew).alloc _
 refine dA rfl rfl rfl ?_;intro K hK
 refine qi 113 233 (.tmp 32) rfl 513 C rfl HL.out (by omega) (by omega) Tryz.underlying113 pI zw ?_
 refine hK.out _ _ ⟨(hk4.cell hd3 id).trans hc3,ak hd3 hk4.size,fun j v hv=>(hk4.cell (p:=⟨x,0+j,none⟩) hx3 id).trans (hr3'.whole j v hv),ak hx3 hk4.size⟩ ?_
 have hox:∀y,wv.ownBlock=some y->y<w1.heap.size/\y≠x/\y≠d:=fun y hy=>⟨(hD1.own.1.lt _ hy).2,fun e=>hxS (e▸(hD1.sw y hy).1),(hD1.sw y hy).2.1⟩
 have hown4:aP (w3.drew.alloc (.cells C.toArray 233)) gJ 0 233 513 wv σ.waits.length (jo σ.waits):=by
  have:=hD1.own
  rw[σ.dx.2.2] at this
  exact this.keep fun y hy hl _=>⟨(hk4.block y (ak hl hk13.size) id).trans (hk13.block y hl (hox y hy).2.1),id⟩
 have hsrc4:Src Tryz.prog 513 113 (.slice (some ⟨w3.heap.size,0,none⟩) 1 1) 1 C (w3.drew.alloc (.cells C.toArray 233)):=gY C _ _ 1 1 rfl Tryz.underlying113 (by rw[HL.out]) hone
 refine dA rfl rfl rfl ?_;intro K hK
 refine mE (.tmp 31) (.tmp 33) 113 113 rfl gJ 0 233 513 520 _ Tryz.underlying113 FP (by simp only[Value.cells,oC];exact jC (p:=(0,zB)) iy) wv σ.waits.length _ rfl hown4 _ 1 C rfl hsrc4 (fun _ h=>h.elim) (bf _) (by simp only[maxLen];omega) (by omega) ?_
 intro ao c w5 hown5 hk5 _ hne5
 have hk35:Keep (fun g=>wv.ownBlock=some g) w3 w5:=(hk4.mono (fun _ _ h=>h.elim)).trans hk5 (fun _ _ h=>h)
 have hc5:w5.cell? ⟨d,1,none⟩=some wv:=(hk35.cell hd3 (fun e=>(hox _ e).2.2 rfl)).trans hc3
 have hd5:d<w5.heap.size:=ak hd3 hk35.size
 refine hK.out _ _ ⟨hc5,hd5,fun j v hv=>(hk35.cell (p:=⟨x,0+j,none⟩) hx3 (fun e=>(hox _ e).2.1 rfl)).trans (hr3'.whole j v hv),ak hx3 hk35.size⟩ ?_
 have hf5:w5.frozen? ⟨d,1,none⟩=false:=(hk35.frozen (p:=⟨d,1,none⟩) hd3 (fun e=>(hox _ e).2.2 rfl)).trans ((hk13.frozen (p:=⟨d,1,none⟩) hlt hdx).trans hf1)
 simp only[Act.put,ai,au,aj]
 repeat ((refine bL (v:= ?_) rfl rfl (fun _ _ _ h=>h) rfl (fun W hW=> ?_) ?_);rotate_left;(focus ((try dsimp only at hW);have q0:=hW.1;have q1:=hW.2.1;(go_simp;first|done|with_reducible rfl)));(try simp only[Act.put,ai,au,aj]))
 refine jf rfl rfl rfl (by kernel_rfl) ?_;intro K hK;go_simp
 refine hK.out _ _ ?_
 refine bO ?_
 go_wp2_with fail
 go_ret
 have hk56:Keep (· =d) w5 (w5.setCell ⟨d,1,none⟩ (.slice ao (σ.waits.length+1) c)):=(Keep.refl (· =d) w5).setCell (p:=⟨d,1,none⟩) (.inr rfl) _
 have hk15:Keep (fun g=>g=x\/wv.ownBlock=some g) w1 w5:=(hk13.mono (fun _ _ h=> .inl h)).trans hk35 (fun _ _ h=> .inr h)
 have hk16:Keep (fun g=>g=x\/wv.ownBlock=some g\/g=d) w1 (w5.setCell ⟨d,1,none⟩ (.slice ao (σ.waits.length+1) c)):=(hk15.mono (fun _ _ h=>h.elim .inl (fun h=> .inr (.inl h)))).trans hk56 (fun _ _ h=> .inr (.inr h))
 have hgs:gs<w1.heap.size:=hD1.sub _ hD1.sg
 have hgn:¬(gs=x\/wv.ownBlock=some gs\/gs=d):=fun e=>by
  rcases e with e|e|e
  ·exact hxS (e▸hD1.sg)
  ·exact(hD1.sw _ e).2.2 rfl
  ·exact hD1.ne e
 have hob5:w5.heap[d]? =some (.cells #[.slice (some ⟨gs,0,none⟩) σ.eF.n σ.eF.n,wv,.int .i64 σ.eF.fuel,.bool σ.eF.dead] 115 (0,0)):=(hk15.block d hlt (fun e=>e.elim hdx (fun e=>(hox _ e).2.2 rfl))).trans hD1.obj
 have hlt4:∀y,y<w3.heap.size->wv.ownBlock≠some y->(Value.slice ao (σ.waits.length+1) c).ownBlock≠some y:=fun y hy=>hne5 y (ak hy hk4.size)
 have hstep:Step S (fun g=>S g\/(Value.slice ao (σ.waits.length+1) c).ownBlock=some g) w (w5.setCell ⟨d,1,none⟩ (.slice ao (σ.waits.length+1) c)):=by
  refine⟨(hk1.mono (fun _ _ e=>e▸h.sd)).trans hk16 (fun g hg e=> ?_),fun g hg=> ?_⟩
  ·rcases e with e|e|e
   ·rw[e,<-HX.out] at hg;exact absurd hk1.size (fE.2 hg)
   ·exact(h.sw g e).1
   ·exact e▸h.sd
  ·rcases hg with hg|hg
   ·exact .inl hg
   ·by_cases hy:g<w.heap.size
    ·by_cases hw:wv.ownBlock=some g
     ·exact .inl (h.sw g hw).1
     ·exact absurd hg (hlt4 g (ak hy (aI hk1.size hk13.size)) hw)
    ·exact .inr (bE.1 hy)
 refine⟨rfl,_,_,⟨hD1.ok.put i l (by rw[σ.dx.1];exact hi) hl,fun g hg=> ?_,.inl hD1.sd,.inl hD1.sg,hD1.ne,?_,?_,fun j hj=> ?_,?_,fun g hg=>⟨.inr hg,?_,?_⟩⟩,hstep⟩
 ·rcases hg with hg|hg
  ·exact ak (hD1.sub g hg) hk16.size
  ·exact ak (hown5.1.lt _ hg).2 hk56.size
 ·rw[iP w5 d 1 _ _ _ hob5]
  rfl
 ·obtain⟨D,h1,h2⟩:=hD1.blk
  exact⟨D,(hk16.block gs hgs hgn).trans h1,h2⟩
 ·intro y u hu
  exact(hk16.cell (p:=⟨gs,j*512+y,none⟩) hgs hgn).trans (hD1.sec j hj y u hu)
 ·have e1:(σ.eF.put i l).waits.length=σ.waits.length+1:=by simp[Dk.put,σ.dx.2.2]
  have e2:jo (σ.eF.put i l).waits=jo σ.waits++C:=by
   rw[show (σ.eF.put i l).waits=σ.waits++[(i,pad l)] by simp[Dk.put,σ.dx.2.2],zx,<-HC.out]
   simp[jo]
  rw[e1,e2]
  exact hown5.keep fun y hy hl _=>⟨hk56.block y hl (fun e=>hlt4 d hd3 (fun e'=>(hox _ e').2.2 rfl) (e▸hy)),id⟩
 ·exact fun e=>hlt4 d hd3 (fun e'=>(hox _ e').2.2 rfl) (e▸hg)
 ·exact fun e=>hlt4 gs (ak hgs hk13.size) (fun e'=>(hD1.sw _ e').2.2 rfl) (e▸hg)
theorem nU.wait {w:World}{S:Nat->Prop}{d:Nat}{σ:Dk}{gs:Nat}{wv:Value}(h:nU w S d σ gs wv)(k:Nat)(hk:k<σ.waits.length):
  ∃g cap,wv= .slice (some ⟨g,0,none⟩) σ.waits.length cap/\w.rangeAt g (k*513) (gM σ.waits[k])/\g<w.heap.size/\σ.waits.length<=cap/\cap<=9223372036854775807:=by
 obtain⟨wo,wc,rfl,h1,h2,h3,h4⟩:=bn.form h.own.cZ
 obtain⟨⟨hl',hr'⟩,_⟩:=h.own
 rcases hr' with ⟨hv,h0⟩|⟨g,cap,cur,hv,_⟩
 ·omega
 ·cases hv
  obtain⟨cur,hrow,_,htk,_⟩:=aP.row h.own
  refine⟨g,wc,rfl,fun y u hu=> ?_,hrow.lt,h1,h2⟩
  have hu':=qU (fun p hp=>(h.ok.wt p hp).2) k hk y u hu
  rw[hrow.cell,<-hu',<-htk,jd]
  split
  ·rfl
  ·exfalso
   have h2:=(bT.1 hu').1
   rw[rV (fun p hp=>(h.ok.wt p hp).2)] at h2
   omega
theorem Kg (cur cs:List Value)(off y:Nat)(hy:y<cs.length)(hf:off+cs.length<=cur.length):(splice cur off cs)[off+y]? =cs[y]? :=by
 unfold splice
 have hl:(cur.take off).length=off:=by rw[aC];omega
 rw[bV (by omega),hl,dH,fJ hy]
theorem G8 (cur cs:List Value)(off y:Nat)(hy:y<off\/off+cs.length<=y)(hf:off+cs.length<=cur.length):(splice cur off cs)[y]? =cur[y]? :=by
 unfold splice
 have hl:(cur.take off).length=off:=by rw[aC];omega
 rcases hy with hy|hy
 ·rw[fJ (by omega),jd,if_pos hy]
 ·rw[bV (by omega),hl,bV (by omega),List.getElem?_drop]
  congr 1
  omega
def Dk.lay (σ:Dk)(i:Nat)(l:List UInt8):Dk:={σ with sec:=fun j=>if i=j then l else σ.sec j}
theorem Dk.Ok.lay {σ:Dk}(h:σ.Ok)(i:Nat)(l:List UInt8)(hl:l.length=512):(σ.lay i l).Ok:=
 ⟨h.lo,h.hi,fun j=>by show (if i=j then l else σ.sec j).length=512;split;exact hl;exact h.sec j,h.wt,h.fl⟩
def Dk.upto (σ:Dk)(k:Nat):Dk:={σ with sec:=fun i=>behind (σ.waits.take k) i (σ.sec i)}
theorem Dk.J4 (σ:Dk)(k:Nat)(hk:k<σ.waits.length):σ.upto (k+1)=(σ.upto k).lay σ.waits[k].1 σ.waits[k].2:=by
 unfold Dk.upto Dk.lay
 congr 1
 funext i
 rw[aQ hk,nX]
 rfl
theorem Dk.LZ (σ:Dk):({σ.upto σ.waits.length with waits:=[]}:Dk)=σ.flush:=by
 unfold Dk.upto Dk.flush Dk.get
 rw[dF]
theorem nU.lay {w w':World}{S:Nat->Prop}{d:Nat}{σ:Dk}{gs:Nat}{wv:Value}(h:nU w S d σ gs wv)(i:Nat)(l:List UInt8)(hi:i<σ.n)(hl:l.length=512)(cur:List Value)
  (hc:Row w gs 231 cur) (hr:Row w' gs 231 (splice cur (i*512) (aD l))) (hk:Keep (· =gs) w w'):nU w' S d (σ.lay i l) gs wv:=by
 have hbl:(aD l).length=512:=by rw[bH,hl]
 have hcl:cur.length=σ.n*512:=by
  obtain⟨C,h1,h2⟩:=h.blk
  unfold Row at hc
  rw[h1] at hc
  cases hc
  simpa using h2
 have hfit:i*512+(aD l).length<=cur.length:=by rw[hbl,hcl];omega
 refine⟨h.ok.lay i l hl,fun g hg=>ak (h.sub g hg) hk.size,h.sd,h.sg,h.ne,(hk.block d (h.sub _ h.sd) (fun e=>h.ne e.symm)).trans h.obj,⟨_,hr,?_⟩,fun j hj y u hu=> ?_,?_,h.sw⟩
 ·rw[oC]
  show (splice cur (i*512) (aD l)).length=σ.n*512
  unfold splice
  simp only[av,aC,aJ]
  omega
 ·rw[hr.cell]
  by_cases hij:i=j
  ·subst hij
   have hu':(aD l)[y]? =some u:=by
    have:(σ.lay i l).sec i=l:=if_pos rfl
    rwa [this] at hu
   rw[Kg _ _ _ _ ((bT.1 hu').1) hfit]
   exact hu'
  ·have hu':(aD (σ.sec j))[y]? =some u:=by
    have:(σ.lay i l).sec j=σ.sec j:=if_neg hij
    rwa [this] at hu
   have hy:y<512:=by have:=(bT.1 hu').1;rwa [bH,h.ok.sec] at this
   rw[G8 _ _ _ _ (by rw[hbl];omega) hfit,<-hc.cell]
   exact h.sec j hj y u hu'
 ·exact h.own.keep fun g hg _ hs=>⟨hk.block g (h.own.1.lt _ hg).2 (h.sw g hg).2.2,hs⟩
theorem nU.below {w w':World}{S:Nat->Prop}{d:Nat}{σ:Dk}{gs:Nat}{wv:Value}(h:nU w S d σ gs wv){M:Nat->Prop}(hk:Keep M w w')(hM:∀g,S g->¬M g):nU w' S d σ gs wv:=by
 refine⟨h.ok,fun g hg=>ak (h.sub g hg) hk.size,h.sd,h.sg,h.ne,(hk.block d (h.sub _ h.sd) (hM _ h.sd)).trans h.obj,?_,fun i hi y u hu=> ?_,?_,h.sw⟩
 ·obtain⟨C,h1,h2⟩:=h.blk
  exact⟨C,(hk.block gs (h.sub _ h.sg) (hM _ h.sg)).trans h1,h2⟩
 ·exact(hk.cell (p:=⟨gs,i*512+y,none⟩) (h.sub _ h.sg) (hM _ h.sg)).trans (h.sec i hi y u hu)
 ·exact h.own.keep fun g hg hl hs=>⟨hk.block g hl (hM _ (h.sw g hg).1),hs⟩
theorem nU.row {w:World}{S:Nat->Prop}{d:Nat}{σ:Dk}{gs:Nat}{wv:Value}(h:nU w S d σ gs wv):∃cur,Row w gs 231 cur/\cur.length=σ.n*512:=by
 obtain⟨C,h1,h2⟩:=h.blk
 exact⟨C.toList,h1,by simpa using h2⟩
theorem A9:(Tryz.prog.info? 231).map (fun i=>i.size)=some 512:=by kernel_rfl
theorem KV (d:Nat)(σ:Dk)(S:Nat->Prop)(gs:Nat)(wv:Value)(w:World)(h:nU w S d σ gs wv)(hd:σ.dead=false)(hbd:σ.eF.dead=false)(hcap:σ.waits.length<=1000000):
  Calls Tryz.prog 133 #[.pointer (some ⟨d,0,none⟩)] w fun e w'=>e= .returned (.int .i64 0)/\nU w' S d σ.eF.flush gs (.slice none 0 0)/\Step S S w w':=by
 have hbad:σ.bad 0=0:=by have:=h.ok.lo;unfold Dk.bad;rw[hd];simp;omega
 have hck:=lM d σ S gs wv 0 w h
 rw[hbad] at hck
 have HCK:=af hck;clear hck
 have hburn:=xL d σ S gs wv w h hd
 rw[hbd] at hburn
 have HB:=af hburn;clear hburn
 have hbw:σ.eF.waits.length<=1000000:=by rw[σ.dx.2.2];exact hcap
 have hnot:∀(x:Bool) (w:World),(Op.unary .not (.bool x)).run Tryz.prog w= .ok (.bool (!x)) w:=fun _ _=>rfl
 go_enter Tryz.func133,Tryz.ntmps133
 go_wp2_with (first
  |(go_at_call 130;go_must (refine HCK.out.mono ?_;rintro e w1 ⟨rfl,hw⟩;subst w1))
  |(go_at_call 131;go_must (refine HB.out.mono ?_;rintro e w1 ⟨rfl,hD1,hk1⟩;refine Stop.of ?_)))
 refine Stop.on ?_
 have HS:=af h.sd
 clear h HCK HB hbad hbd hd hcap
 generalize hτ:σ.eF=τ at hD1 hbw
 have HT:=af hτ;clear hτ
 obtain⟨wo,wc,rfl,g1,g2,g3,g4⟩:=bn.form hD1.own.cZ
 obtain⟨c0,c1,_,_,hlt,hfz⟩:=hD1.cells
 go_wp2_with fail
 go_loopw [19] (fun i wr=>∃k:Nat,k<=τ.waits.length/\i= .int .i64 k/\nU wr S d (τ.upto k) gs (.slice wo τ.waits.length wc)/\Keep (· =gs) w1 wr) (fun i _=>τ.waits.length - (intOf i).toNat)
 case atStart=>exact⟨0,bf _,rfl,hD1,Keep.refl _ _⟩
 case round=>
  obtain⟨k,hk,rfl,hDk,hkk⟩:=hrel
  by_cases hlt:k<τ.waits.length
  ·obtain⟨g,cap,hgv,hrg,hgl,hgc,hgm⟩:=hDk.wait k hlt
   cases hgv
   obtain⟨x,HX⟩:∃x,Hid (wr.heap.size=x):=⟨_,af rfl⟩
   have hwt:=hDk.ok.wt _ (bG hlt)
   obtain⟨p,HP⟩:∃p,Hid (τ.waits[k]=p):=⟨_,af rfl⟩
   have hrg:wr.rangeAt g (k*513) (gM p):=by rw[<-HP.out];exact hrg
   have hp1:p.1<τ.n:=by rw[<-HP.out];exact hwt.1
   have hp2:=af (show p.2.length=512 by rw[<-HP.out];exact hwt.2)
   have hlen:=af (jC hp2.out)
   have hone:∀v∈gM p,v.oneCell'=true:=Ih p
   have hr1:Row (wr.alloc (.cells (gM (0,zB)).toArray 233)) wr.heap.size 233 (gM (0,zB)):=Row.new wr _ _
   have hz1:=af (show (gM (0,zB)).length=513 from jC iy)
   have hki:(k:Int)<(τ.waits.length:Int):=by omega
   go_wp2_with (first
    |((refine dh rfl ?_);intro K hK;(refine wp_load_mid 233 _ rfl g (k*513) rfl (gM p) _ hrg Tryz.underlying233 rfl (pI.trans (congrArg some hlen.out.symm)) ?_);refine hK _ _ ?_)
    |((refine dh rfl ?_);intro K hK;(refine iT 233 rfl _ zV ?_);refine hK _ _ ?_)
    |((refine dh rfl ?_);intro K hK;(refine wp_store_row 233 _ _ rfl wr.heap.size 0 233 _ (gM p) rfl rfl hr1 (pI.trans (congrArg some hlen.out.symm)) (by rw[hz1.out,hlen.out];omega) hone ?_);intro w2 hr2 hk2;refine hK _ _ (Stop.of ?_)))
   refine Stop.on ?_
   rw[mG _ _ (hz1.out.trans hlen.out.symm),HX.out] at hr2
   rw[HX.out] at hk2
   have hkx:Keep (· =x) wr w2:=((Keep.refl (· =x) wr).alloc (.cells (gM (0,zB)).toArray 233)).trans hk2 (fun _ _ e=>e)
   have hxS:¬S x:=fun e=>absurd (hDk.sub x e) (by rw[HX.out];exact di _)
   have hD2:=hDk.below hkx (fun y hy e=>hxS (e▸hy))
   obtain⟨c0',_,_,_,hlt',_⟩:=hD2.cells
   have hx0:w2.cell? ⟨x,0,none⟩=some (.int .i64 (p.1:Int)):=hr2.whole 0 _ rfl
   have hx1:w2.rangeAt x 1 (aD p.2):=fun y u hu=>by
    rw[x9 1]
    have:=hr2.whole (y+1) u hu
    rwa [eG] at this
   have hxl:=hr2.lt
   have hb2:=af (show (aD p.2).length=512 by rw[bH,hp2.out])
   have hone2:=gQ p.2
   generalize hC:aD p.2=C at hx1 hb2 hone2
   have HC:=af hC;clear hC
   rw[HX.out]
   clear hr1 hr2 hk2 hone hrg
   obtain⟨cur,hrow,hcl⟩:=hD2.row
   have hrow':Row w2.drew gs 231 cur:=hrow
   have HCL:=af hcl;clear hcl
   have hp1':(p.1:Int)<((τ.upto k).n:Int):=by show (p.1:Int)<(τ.n:Int);omega
   have hn0:∀(n:Int),0<=n\/n<0:=fun n=>by omega
   go_wp2_with fail
   refine aN (fun W=>W=w2.drew) (fun i=> !([9].contains i)) [0,1,2,3,4,5,6,7,8,9] rfl (by kernel_rfl) rfl ?_
   repeat ((refine bL (v:= ?_) rfl rfl (fun _ _ _ h=>h) rfl (fun W hW=> ?_) ?_);rotate_left;(focus ((try dsimp only at hW);subst hW;(go_simp;first|done|with_reducible rfl)));(try simp only[Act.put,ai,au,aj]))
   refine bL (v:= .agg C.toArray) rfl rfl (fun _ _ _ h=>h) rfl (fun W hW=> ?_) ?_
   ·subst hW
    exact l9 231 (.tmp 29) rfl x 1 rfl C _ hx1 Tryz.underlying231 rfl (A9.trans (congrArg some hb2.out.symm))
   simp only[Act.put,ai,au,aj]
   repeat ((refine bL (v:= ?_) rfl rfl (fun _ _ _ h=>h) rfl (fun W hW=> ?_) ?_);rotate_left;(focus ((try dsimp only at hW);subst hW;(go_simp;first|done|with_reducible rfl)));(try simp only[Act.put,ai,au,aj]))
   refine jf rfl rfl rfl (by kernel_rfl) ?_;intro K hK
   refine wp_store_row 231 (.tmp 31) (.tmp 30) rfl gs (p.1*512) 231 cur C rfl rfl hrow' (A9.trans (congrArg some hb2.out.symm)) (by rw[hb2.out,HCL.out];show _<=τ.n*512;omega) hone2 ?_
   intro w3 hr3 hk3
   refine hK.out _ _ ?_
   refine bO ?_
   go_wp2_with fail
   rw[<-HC.out] at hr3
   have hD3:=hD2.lay p.1 p.2 hp1 hp2.out cur hrow hr3 (((Keep.refl (· =gs) w2).drew).trans hk3 (fun _ _ e=>e))
   have hk13:Keep (· =gs) w1 w3:=(hkk.trans hkx (fun y hy e=>absurd (ak hy hkk.size) (by rw[e,HX.out];exact di _))).trans (((Keep.refl (· =gs) w2).drew).trans hk3 (fun _ _ e=>e)) (fun _ _ e=>e)
   have hup:=τ.J4 k hlt
   rw[HP.out] at hup
   rw[<-hup] at hD3
   have HD3:=af hD3;have HK3:=af hk13
   clear hD3 hD2 hDk hkk hkx hk3 hk13 hup
   go_roundw
   case rel=>exact⟨k+1,by omega,by go_num,HD3.out,HK3.out⟩
   case measure=>simp[intOf];omega
  ·obtain rfl:k=τ.waits.length:=by omega
   obtain⟨_,_,_,_,hlt',hfz'⟩:=hDk.cells
   have hf1':=hfz' 1 (by omega)
   have hob:=hDk.obj
   have HDk:=af hDk;have HKK:=af hkk
   clear hDk hkk
   go_wp2_with fail
   go_ret
   have hk3:Keep (· =d) wr (wr.setCell ⟨d,1,none⟩ (.slice none 0 0)):=(Keep.refl (· =d) wr).setCell (p:=⟨d,1,none⟩) (.inr rfl) _
   have hDk:=HDk.out
   refine⟨rfl,?_,((hk1.mono (fun _ _ e=>e▸HS.out)).trans HKK.out (fun _ _ e=>e▸hDk.sg)).trans hk3 (fun _ _ e=>e▸HS.out),fun _ hg=> .inl hg⟩
   rw[HT.out,<-τ.LZ]
   refine⟨⟨hDk.ok.lo,hDk.ok.hi,hDk.ok.sec,(fun p hp=>by cases hp),hDk.ok.fl⟩,fun y hy=>ak (hDk.sub y hy) hk3.size,hDk.sd,hDk.sg,hDk.ne,?_,?_,fun i hi y u hu=> ?_,aP.nil _ _ _ _ _,(fun y hy=>by cases hy)⟩
   ·rw[iP wr d 1 _ _ _ hob]
    rfl
   ·obtain⟨C,h1,h2⟩:=hDk.blk
    exact⟨C,(hk3.block gs (hDk.sub _ hDk.sg) hDk.ne).trans h1,h2⟩
   ·exact(hk3.cell (p:=⟨gs,i*512+y,none⟩) (hDk.sub _ hDk.sg) hDk.ne).trans (hDk.sec i hi y u hu)
def kept:List Bool->List (Nat×List UInt8)->List (Nat×List UInt8)
 |b::ks,p::ws=>if b then p::kept ks ws else kept ks ws
 |_,_=>[]
theorem FK (ks:List Bool):kept ks []=[]:=by cases ks<;>rfl
theorem CY:∀(ks:List Bool) (ws:List (Nat×List UInt8)) (k:Nat) (hk:k<ws.length),kept ks (ws.take (k+1))=kept ks (ws.take k)++if ks.getD k false=true then[ws[k]] else[]
 |[],ws,k,hk=>by simp[kept]
 |b::ks,p::ws,0,hk=>by simp[kept,FK]
 |b::ks,p::ws,k+1,hk=>by
  have ih:=CY ks ws k (by simpa using hk)
  simp only[gV,kept,Ew,List.getD_cons_succ]
  rw[ih]
  split<;>simp
def Dk.Qa (σ:Dk)(ks:List Bool):Dk:={σ with sec:=fun i=>behind (kept ks σ.waits) i (σ.sec i),waits:=[],fuel:= -1,dead:=false}
def rY (w:World)(S:Nat->Prop)(d:Nat)(σ:Dk):Prop:=∃gs wv,nU w S d σ gs wv
theorem rY.ok {w:World}{S:Nat->Prop}{d:Nat}{σ:Dk}(h:rY w S d σ):σ.Ok:=by obtain⟨_,_,h⟩:=h;exact h.ok
theorem rY.sub {w:World}{S:Nat->Prop}{d:Nat}{σ:Dk}(h:rY w S d σ):∀g,S g->g<w.heap.size:=by obtain⟨_,_,h⟩:=h;exact h.sub
theorem rY.keep {w w':World}{S M:Nat->Prop}{d:Nat}{σ:Dk}(h:rY w S d σ)(hk:Keep M w w')(hM:∀g,S g->¬M g):rY w' S d σ:=by obtain⟨gs,wv,h⟩:=h;exact⟨gs,wv,h.below hk hM⟩
theorem rY.below {w w':World}{S:Nat->Prop}{d:Nat}{σ:Dk}(h:rY w S d σ)(hb:Below w.heap.size w w'):rY w' S d σ:=h.keep (Keep.of_below hb gJ) (fun _ _ e=>e)
theorem F3 (d:Nat)(σ:Dk)(S:Nat->Prop)(w:World)(h:rY w S d σ):
  Calls Tryz.prog 86 #[.pointer (some ⟨d,0,none⟩)] w fun e w'=>e= .returned (.int .i64 σ.n)/\w'=w:=by
 obtain⟨gs,wv,h⟩:=h
 exact Ki d σ S gs wv w h
theorem SI (d:Nat)(σ:Dk)(S:Nat->Prop)(w:World)(h:rY w S d σ):
  Calls Tryz.prog 103 #[.pointer (some ⟨d,0,none⟩)] w fun e w'=>e= .returned (.bool σ.dead)/\w'=w:=by
 obtain⟨gs,wv,h⟩:=h
 exact NC d σ S gs wv w h
theorem SG (d:Nat)(σ:Dk)(S:Nat->Prop)(i:Nat)(w:World)(h:rY w S d σ)(hd:σ.dead=false)(hi:i<σ.n):
  Calls Tryz.prog 106 #[.pointer (some ⟨d,0,none⟩),.int .i64 i] w fun e w'=>∃v,e= .returned (.tuple #[v,.int .i64 0])/\aP w' gJ w.heap.size 5 1 v 512 (aD (σ.get i))/\Below w.heap.size w w':=by
 obtain⟨gs,wv,h⟩:=h
 exact KT d σ S gs wv i w h hd hi
theorem IK (d:Nat)(σ:Dk)(S:Nat->Prop)(i:Int)(v:Value)(w:World)(h:rY w S d σ)(hb:σ.bad i≠0):
  Calls Tryz.prog 88 #[.pointer (some ⟨d,0,none⟩),.int .i64 i,v] w fun e w'=>e= .returned (.int .i64 (σ.bad i))/\w'=w:=by
 obtain⟨gs,wv,h⟩:=h
 have HCK:=af (lM d σ S gs wv i w h)
 generalize σ.bad i=q at hb HCK
 have hq:(q !=0)=true:=by simpa using hb
 go_enter Tryz.func88,Tryz.ntmps88
 go_wp2_with (first
  |(go_at_call 130;go_must (refine HCK.out.mono ?_;rintro e w1 ⟨rfl,hw⟩;subst w1)))
 go_ret
 exact⟨rfl,rfl⟩
theorem FY (d:Nat)(σ:Dk)(S:Nat->Prop)(i:Int)(v:Value)(l:List UInt8)(w:World)(h:rY w S d σ)(hb:σ.bad i=0)(hv:bn w S 1 v l.length (aD l))(hl:512<l.length):
  Calls Tryz.prog 88 #[.pointer (some ⟨d,0,none⟩),.int .i64 i,v] w fun e w'=>e= .returned (.int .i64 1)/\w'=w:=by
 obtain⟨gs,wv,h⟩:=h
 have hck:=lM d σ S gs wv i w h
 rw[hb] at hck
 have HCK:=af hck;clear hck hb
 obtain⟨vo,vc,rfl,_,_,_,_⟩:=bn.form hv
 have hl':(512:Int)<(l.length:Int):=by omega
 go_enter Tryz.func88,Tryz.ntmps88
 go_wp2_with (first
  |(go_at_call 130;go_must (refine HCK.out.mono ?_;rintro e w1 ⟨rfl,hw⟩;subst w1)))
 go_ret
 exact⟨rfl,rfl⟩
theorem FZ (d:Nat)(σ:Dk)(S:Nat->Prop)(i:Int)(v:Value)(l:List UInt8)(w:World)(h:rY w S d σ)(hb:σ.bad i=0)(hd:σ.dead=false)(hv:bn w S 1 v l.length (aD l))(hl:l.length<=512)(hbd:σ.eF.dead=true):
  Calls Tryz.prog 88 #[.pointer (some ⟨d,0,none⟩),.int .i64 i,v] w fun e w'=>e= .returned (.int .i64 10)/\rY w' S d σ.eF/\Step S S w w':=by
 obtain⟨gs,wv,h⟩:=h
 have hck:=lM d σ S gs wv i w h
 rw[hb] at hck
 have HCK:=af hck;clear hck hb
 obtain⟨vo,vc,rfl,_,_,_,_⟩:=bn.form hv
 have hl':¬((512:Int)<(l.length:Int)):=by omega
 have hburn:=xL d σ S gs wv w h hd
 rw[hbd] at hburn
 have HB:=af hburn;clear hburn
 have HS:=af h.sd
 have hnot:∀(x:Bool) (w:World),(Op.unary .not (.bool x)).run Tryz.prog w= .ok (.bool (!x)) w:=fun _ _=>rfl
 go_enter Tryz.func88,Tryz.ntmps88
 go_wp2_with (first
  |(go_at_call 130;go_must (refine HCK.out.mono ?_;rintro e w1 ⟨rfl,hw⟩;subst w1))
  |(go_at_call 131;go_must (refine HB.out.mono ?_;rintro e w1 ⟨rfl,hD1,hk1⟩)))
 go_ret
 exact⟨rfl,⟨gs,wv,hD1⟩,hk1.mono (fun _ _ e=>e▸HS.out),fun _ hg=> .inl hg⟩
theorem Ec (d:Nat)(σ:Dk)(S:Nat->Prop)(i:Int)(v:Value)(l:List UInt8)(w:World)(h:rY w S d σ)(hv:bn w S 1 v l.length (aD l))(hcap:σ.waits.length<=1000000):
  Calls Tryz.prog 88 #[.pointer (some ⟨d,0,none⟩),.int .i64 i,v] w fun e w'=>e= .returned (.int .i64 (σ.write i l).2)/\∃S',rY w' S' d (σ.write i l).1/\Step S S' w w':=by
 by_cases hb:σ.bad i=0
 ·have hd:σ.dead=false:=by
   cases hd:σ.dead with
   |false=>rfl
   |true=>simp[Dk.bad,hd] at hb
  have hi:¬(i<0\/(σ.n:Int)<=i):=fun hi=>by simp[Dk.bad,hd,hi] at hb
  by_cases hl:512<l.length
  ·have e:σ.write i l=(σ,1):=by simp[Dk.write,hd,hi,hl]
   try rw[e]
   refine(FY d σ S i v l w h hb hv hl).mono ?_
   rintro e w' ⟨rfl,rfl⟩
   exact⟨rfl,S,h,Step.refl _ _⟩
  ·cases hbd:σ.eF.dead with
   |true=>
    have e:σ.write i l=(σ.eF,10):=by simp[Dk.write,hd,hi,hl,hbd]
    try rw[e]
    refine(FZ d σ S i v l w h hb hd hv (by omega) hbd).mono ?_
    rintro e w' ⟨rfl,h1,h2⟩
    exact⟨rfl,S,h1,h2⟩
   |false=>
    have e:σ.write i l=(σ.eF.put i.toNat l,0):=by simp[Dk.write,hd,hi,hl,hbd]
    try rw[e]
    obtain⟨k,rfl⟩:∃k:Nat,i=k:=⟨i.toNat,by omega⟩
    obtain⟨gs,wv,h⟩:=h
    refine(KS d σ S gs wv k v l w h hd (by omega) (by omega) hbd hv hcap).mono ?_
    rintro e w' ⟨rfl,S',wv',h1,h2⟩
    exact⟨rfl,S',⟨gs,wv',h1⟩,h2⟩
 ·have e:σ.write i l=(σ,σ.bad i):=by
   unfold Dk.bad at hb ⊢
   unfold Dk.write
   split
   ·rfl
   ·rename_i hd
    simp only[hd] at hb
    split
    ·rfl
    ·rename_i hi
     simp[hi] at hb
  try rw[e]
  refine(IK d σ S i v w h hb).mono ?_
  rintro e w' ⟨rfl,rfl⟩
  exact⟨rfl,S,h,Step.refl _ _⟩
theorem F7 (d:Nat)(σ:Dk)(S:Nat->Prop)(w:World)(h:rY w S d σ)(hd:σ.dead=true):
  Calls Tryz.prog 133 #[.pointer (some ⟨d,0,none⟩)] w fun e w'=>e= .returned (.int .i64 10)/\w'=w:=by
 obtain⟨gs,wv,h⟩:=h
 have hck:=lM d σ S gs wv 0 w h
 rw[show σ.bad 0=10 by simp[Dk.bad,hd]] at hck
 have HCK:=af hck;clear hck
 go_enter Tryz.func133,Tryz.ntmps133
 go_wp2_with (first
  |(go_at_call 130;go_must (refine HCK.out.mono ?_;rintro e w1 ⟨rfl,hw⟩;subst w1)))
 go_ret
 exact⟨rfl,rfl⟩
theorem F6 (d:Nat)(σ:Dk)(S:Nat->Prop)(w:World)(h:rY w S d σ)(hd:σ.dead=false)(hbd:σ.eF.dead=true):
  Calls Tryz.prog 133 #[.pointer (some ⟨d,0,none⟩)] w fun e w'=>e= .returned (.int .i64 10)/\rY w' S d σ.eF/\Step S S w w':=by
 obtain⟨gs,wv,h⟩:=h
 have hck:=lM d σ S gs wv 0 w h
 rw[show σ.bad 0=0 by have:=h.ok.lo;unfold Dk.bad;rw[hd];simp;omega] at hck
 have HCK:=af hck;clear hck
 have hburn:=xL d σ S gs wv w h hd
 rw[hbd] at hburn
 have HB:=af hburn;clear hburn
 have HS:=af h.sd
 have hnot:∀(x:Bool) (w:World),(Op.unary .not (.bool x)).run Tryz.prog w= .ok (.bool (!x)) w:=fun _ _=>rfl
 go_enter Tryz.func133,Tryz.ntmps133
 go_wp2_with (first
  |(go_at_call 130;go_must (refine HCK.out.mono ?_;rintro e w1 ⟨rfl,hw⟩;subst w1))
  |(go_at_call 131;go_must (refine HB.out.mono ?_;rintro e w1 ⟨rfl,hD1,hk1⟩)))
 go_ret
 exact⟨rfl,⟨gs,wv,hD1⟩,hk1.mono (fun _ _ e=>e▸HS.out),fun _ hg=> .inl hg⟩
theorem Ed (d:Nat)(σ:Dk)(S:Nat->Prop)(w:World)(h:rY w S d σ)(hcap:σ.waits.length<=1000000):
  Calls Tryz.prog 133 #[.pointer (some ⟨d,0,none⟩)] w fun e w'=>e= .returned (.int .i64 σ.sync.2)/\rY w' S d σ.sync.1/\Step S S w w':=by
 cases hd:σ.dead with
 |true=>
  have e:σ.sync=(σ,10):=by simp[Dk.sync,hd]
  try rw[e]
  refine(F7 d σ S w h hd).mono ?_
  rintro e w' ⟨rfl,rfl⟩
  exact⟨rfl,h,Step.refl _ _⟩
 |false=>
  cases hbd:σ.eF.dead with
  |true=>
   have e:σ.sync=(σ.eF,10):=by simp[Dk.sync,hd,hbd]
   try rw[e]
   exact F6 d σ S w h hd hbd
  |false=>
   have e:σ.sync=(σ.eF.flush,0):=by simp[Dk.sync,hd,hbd]
   try rw[e]
   obtain⟨gs,wv,h⟩:=h
   refine(KV d σ S gs wv w h hd hbd hcap).mono ?_
   rintro e w' ⟨rfl,h1,h2⟩
   exact⟨rfl,⟨gs,_,h1⟩,h2⟩
def Dk.new (n:Nat):Dk:=⟨n,fun _=>zB,[],-1,false⟩
def jm (n:Int):Nat:=if n<1 then 1 else if 4096<n then 4096 else n.toNat
theorem Dc (n:Int):1<=jm n/\jm n<=4096:=by unfold jm;split;omega;split<;>omega
theorem FR:(Tryz.prog.info? 231).map (fun i=>(i.zero,i.size,i.bytes))=some (some (.agg (aD zB).toArray),512,512):=by kernel_rfl
theorem D6 (w:World)(n:Nat)(hn:n<=4096):(Instr.makeSlice 112 (.int .i64 n) (.int .i64 n)).run Tryz.prog w= .ok (.slice (some ⟨w.heap.size,0,none⟩) n n) (w.alloc (.cells (madeCells (aD zB).toArray (n*512)) 231)):=by
 obtain⟨i,hi,hz,hsize,hby⟩:=vZ FR
 have:=run_make (P:=Tryz.prog) (w:=w) 112 231 i _ Tryz.underlying112 hi hz .i64 .i64 n n (by omega) (by omega) (by rw[hby];omega) (by omega)
 rw[this,hsize]
 simp only[fT]
 rfl
theorem Ip (w:World)(g n i:Nat)(hi:i<n)(h:w.heap[g]? =some (.cells (madeCells (aD zB).toArray (n*512)) 231 (0,0))):w.rangeAt g (i*512) (aD zB):=fun j v hv=>by
 have hj:=(bT.1 hv).1
 rw[bH,iy] at hj
 have hz:(aD zB).toArray.size=512:=by rw[oC,bH,iy]
 have hlt:i*512+j<n*512:=by omega
 have e1:(i*512+j)%512=j:=by omega
 have e2:(madeCells (aD zB).toArray (n*512))[i*512+j]? =some v:=by
  unfold madeCells
  rw[hz]
  simp only[Array.getElem?_map,Array.getElem?_range,hlt,iI,fC,e1]
  rw[<-hv]
  simp only[List.getElem!_toArray,List.getElem!_eq_getElem?_getD,hv,RF]
 rw[Ol w g (i*512+j) _ 231 (0,0) h]
 exact e2
theorem TQ (n:Int)(w:World):
  Calls Tryz.prog 20 #[.int .i64 n] w fun e w'=>∃d S,e= .returned (.pointer (some ⟨d,0,none⟩))/\rY w' S d (Dk.new (jm n))/\Below w.heap.size w w'/\∀g,S g->w.heap.size<=g:=by
 have hmk:=D6 w (jm n) (Dc n).2
 have hbd:=Dc n
 have fin:∀w2:World,w2.heap[w.heap.size]? =some (.cells (madeCells (aD zB).toArray (jm n*512)) 231 (0,0))->w2.heap[w.heap.size+1]? =some (.cells #[.slice (some ⟨w.heap.size,0,none⟩) (jm n) (jm n),.slice none 0 0,.int .i64 (-1),.bool false] 115 (0,0))->
   rY w2 (fun g=>g=w.heap.size\/g=w.heap.size+1) (w.heap.size+1) (Dk.new (jm n)):=fun w2 h1 h2=>by
  refine⟨w.heap.size,.slice none 0 0,⟨hbd.1,hbd.2,fun _=>iy,(fun p hp=>by cases hp),(by decide:(-1:Int)<=-1/\(-1:Int)<=9223372036854775807)⟩,?_,.inr rfl,.inl rfl,by omega,h2,⟨_,h1,?_⟩,fun i hi=>Ip w2 _ _ i hi h1,aP.nil _ _ _ _ _,(fun y hy=>by cases hy)⟩
  ·rintro g (rfl|rfl)
   ·exact(ah.1 h1).1
   ·exact(ah.1 h2).1
  ·simp[madeCells,Dk.new]
 have HF:=af fin;clear fin
 generalize madeCells (aD zB).toArray (jm n*512)=C at hmk HF
 have close:Below w.heap.size w ((w.alloc (.cells C 231)).alloc (.cells #[.slice (some ⟨w.heap.size,0,none⟩) (jm n) (jm n),.slice none 0 0,.int .i64 (-1),.bool false] 115))/\
   rY ((w.alloc (.cells C 231)).alloc (.cells #[.slice (some ⟨w.heap.size,0,none⟩) (jm n) (jm n),.slice none 0 0,.int .i64 (-1),.bool false] 115)) (fun g=>g=w.heap.size\/g=w.heap.size+1) (w.heap.size+1) (Dk.new (jm n)):=by
  have hb:=gy w (.cells C 231) (.cells #[.slice (some ⟨w.heap.size,0,none⟩) (jm n) (jm n),.slice none 0 0,.int .i64 (-1),.bool false] 115)
  refine⟨hb,HF.out _ ?_ ?_⟩
  ·exact(oG _ _ _ (by simp)).trans (aK w _)
  ·have:=aK (w.alloc (.cells C 231)) (.cells #[.slice (some ⟨w.heap.size,0,none⟩) (jm n) (jm n),.slice none 0 0,.int .i64 (-1),.bool false] 115)
   rwa [aV] at this
 have HC:=af close;clear close HF
 by_cases h1:n<1
 ·have e:jm n=1:=by simp[jm,h1]
  rw[e] at hmk HC
  simp only[Int.natCast_one] at hmk
  have h2:n<=1:=by omega
  clear hbd
  go_enter Tryz.func20,Tryz.ntmps20
  go_wp2_with fail
  go_ret
  try rw[e]
  exact⟨_,_,rfl,HC.out.2,HC.out.1,fun g hg=>by rcases hg with rfl|rfl<;>omega⟩
 ·by_cases h2:4096<n
  ·have e:jm n=4096:=by simp[jm,h1,h2]
   rw[e] at hmk HC
   have hmk2:(Instr.makeSlice 112 (.int .i64 4096) (.int .i64 4096)).run Tryz.prog w= .ok (.slice (some ⟨w.heap.size,0,none⟩) 4096 4096) (w.alloc (.cells C 231)):=hmk
   have h3:1<=n:=by omega
   have h4:¬n<=1:=by omega
   have h5:4096<=n:=by omega
   clear hbd hmk
   go_enter Tryz.func20,Tryz.ntmps20
   go_wp2_with fail
   go_ret
   try rw[e]
   exact⟨_,rfl,_,HC.out.2,HC.out.1,fun g hg=>by rcases hg with rfl|rfl<;>omega⟩
  ·obtain⟨m,rfl⟩:∃m:Nat,n=m:=⟨n.toNat,by omega⟩
   have e:jm (m:Int)=m:=by unfold jm;rw[if_neg h1,if_neg h2,fT]
   rw[e] at hmk HC
   have h3:(1:Int)<=(m:Int):=by omega
   have h5:(m:Int)<=4096:=by omega
   have h6:1<=m:=by omega
   have h7:m<=4096:=by omega
   clear hbd
   go_enter Tryz.func20,Tryz.ntmps20
   go_wp2_with fail
   go_ret
   try rw[e]
   exact⟨_,rfl,_,HC.out.2,HC.out.1,fun g hg=>by rcases hg with rfl|rfl<;>omega⟩
end Go.Proofs.YtbfjgkafmlbpcaaGreatDoor
