/- parts -/
import Derived.Test.YtogbkgmlhhahdaaGreatQ1
import Derived.Test.YtogbkgmlhhahdaaGreatQ3
import Derived.Deep.MidRow
import Derived.Great.BuildSlice
set_option maxRecDepth 100000
set_option maxHeartbeats 8000000
set_option linter.all false
namespace Go.Proofs.YtogbkgmlhhahdaaGreat
open Go.RowKit
theorem Row.range {w:World}{g e off n:Nat}{cur cs:List Value}(h:Row w g e cur)(hc:(cur.drop off).take n=cs):w.rangeAt g off cs:=fun j v hv=>by
 rw[h.cell]
 rw[<-hc,iR] at hv
 split at hv
 ·simpa using hv
 ·cases hv
theorem Row.whole {w:World}{g e:Nat}{cs:List Value}(h:Row w g e cs):w.rangeAt g 0 cs:=fun j v hv=>by
 rw[h.cell,dV];exact hv
theorem Row.new (w:World)(cs:List Value)(e:Nat):Row (w.alloc (.cells cs.toArray e)) w.heap.size e cs:=bD w _
section
variable {P:Program} {a:Act} {w:World} {K:Act->World->Prop} {Q:Exit->Act->World->Prop} {o:Oper}
theorem iZ (t:TypeId)(ho:o.op= .alloc t)(cs:List Value)(hz:∀w,(zeroValue t).run P w= .ok (.agg cs.toArray) w)
  (h:K (a.put o.dst (.pointer (some ⟨w.heap.size,0,none⟩))) (w.alloc (.cells cs.toArray t))):o.wp P a w K Q:=by
 unfold Oper.wp execOp
 have hr:(Instr.alloc t true (.tuple #[])).run P w= .ok (.pointer (some ⟨w.heap.size,0,none⟩)) (w.alloc (.cells cs.toArray t)):=by
  simp[Instr.alloc,hz,newVar,newRow,Value.cells]
 simp only[ho,jU,hr,gH]
 exact h
theorem Br (t:TypeId)(x:Operand)(ho:o.op= .box t x)(cs:List Value)(hx:a.eval x= .agg cs.toArray)
  (h:K (a.put o.dst (.pointer (some ⟨w.heap.size,0,none⟩))) (w.alloc (.cells cs.toArray t))):o.wp P a w K Q:=by
 unfold Oper.wp execOp
 have hr:(Instr.box t (.agg cs.toArray)).run P w= .ok (.pointer (some ⟨w.heap.size,0,none⟩)) (w.alloc (.cells cs.toArray t)):=by
  simp[Instr.box,newVar,newRow,Value.cells]
 simp only[ho,hx,jU,hr,gH]
 exact h
theorem yw (t:TypeId)(parts:Array (Nat×Operand))(ho:o.op= .build t parts)(cs:List Value)(hf:P.built t (parts.map fun (i,x)=>(i,a.eval x)).toList=some cs.toArray)
  (h:K (a.put o.dst (.agg cs.toArray)) w):o.wp P a w K Q:=by
 unfold Oper.wp execOp
 simp only[ho,jU,run_build w t _ cs.toArray hf,gH]
 exact h
theorem AV {g off e:Nat}{cur:List Value}(hr:Row w g e cur)(ty:TypeId)(cs:List Value)(hi:(P.info? ty).map (·.size)=some cs.length)(hfit:off+cs.length<=cur.length)(h1:∀v∈cs,v.oneCell'=true):
  ∃w',(Instr.storeAt ty (.pointer (some ⟨g,off,none⟩)) (.agg cs.toArray)).run P w= .ok () w'/\Row w' g e (splice cur off cs)/\Keep (· =g) w w':=by
 obtain⟨w',hst,h2,h3⟩:=oH (P:=P) hr cs hfit h1
 refine⟨w',?_,h2,h3⟩
 cases hq:P.info? ty with
 |none=>simp[hq] at hi
 |some i=>
  have hs:i.size=cs.length:=by simpa [hq] using hi
  simp[Instr.storeAt,Instr.sureAddr,storeVar,sizeOf,typeInfo,hq,Value.cells,hs,hst]
theorem wp_store_row (ty:TypeId)(x y:Operand)(ho:o.op= .store ty x y)(g off e:Nat)(cur cs:List Value)(hx:a.eval x= .pointer (some ⟨g,off,none⟩))(hy:a.eval y= .agg cs.toArray)
  (hr:Row w g e cur) (hi:(P.info? ty).map (·.size)=some cs.length) (hfit:off+cs.length<=cur.length) (h1:∀v∈cs,v.oneCell'=true)
  (h:∀w',Row w' g e (splice cur off cs)->Keep (· =g) w w'->K (a.put o.dst undef) w'):o.wp P a w K Q:=by
 obtain⟨w',hst,h2,h3⟩:=AV (P:=P) hr ty cs hi hfit h1
 unfold Oper.wp execOp
 simp only[ho,hx,hy,jU,hst,gH]
 exact h w' h2 h3
theorem rF (t e:TypeId)(y:Operand)(ho:o.op= .buildSlice t 1 #[(0,y)])(k:Nat)(cs:List Value)(hy:a.eval y= .agg cs.toArray)(hl:cs.length=k)(hk:0<k)(hk2:k<=16777216)
  (hu:P.underlying t=some (.slice e)) (hi:(P.info? e).map (·.size)=some k) (hz:((P.info? e).bind (·.zero)).isSome=true)
  (h:K (a.put o.dst (.slice (some ⟨w.heap.size,0,none⟩) 1 1)) (w.alloc (.cells cs.toArray e))):o.wp P a w K Q:=by
 cases hie:P.info? e with
 |none=>simp[hie] at hi
 |some ie=>
  simp only[hie,iB,Ta,Option.bind_some] at hi hz
  obtain⟨z,hzz⟩:=Option.isSome_iff_exists.1 hz
  refine wp_buildSlice t e 1 _ ho cs.toArray ie z hu hie hzz (by rw[hi];omega) (by rw[hi];omega) ?_ h
  have:=Great.fill_whole (s:=k) hk [Value.agg cs.toArray] ((Array.range (1*ie.size)).map (z.cells[· %z.cells.size]!)) (by intro v hv;rw[bO.1 hv];simp[Value.cells,hl]) (by simp[hi])
  rw[hi]
  rw[hi] at this
  simpa [hy,Value.cells] using this
theorem kV {W:World}(ty:TypeId)(x:Operand)(ho:o.op= .load ty x)(g off:Nat)(hx:a.eval x= .pointer (some ⟨g,off,none⟩))(cs:List Value)(d:TypeDesc)(hc:W.rangeAt g off cs)
  (hu:P.underlying ty=some d) (hd:d.isRow=true) (hi:(P.info? ty).map (·.size)=some cs.length):(execOp a.eval o).run P W= .ok (.value (.agg cs.toArray)) W:=by
 unfold execOp
 simp only[ho,hx,Instr.loadAt,Instr.sureAddr,jU,pG,gH,run_loadVar_mid W g off ty cs d hc hu hd hi]
end
theorem Fz (p:Nat×List UInt8):∀v∈(Value.int .i64 (p.1:Int)::aI p.2),v.oneCell'=true:=by
 intro v hv
 rcases bM.1 hv with rfl|hv
 ·rfl
 ·exact gZ _ v hv
def lW (w:World)(e k:Nat)(v:Value)(n:Nat)(xs:List Value):Prop:=
 xs.length=n*k/\((v= .slice none 0 0/\n=0)\/∃g off cap cur,v= .slice (some ⟨g,off,none⟩) n cap/\Row w g e cur/\n<=cap/\cap<=maxLen/\off+cap*k<=cur.length/\(cur.drop off).take (n*k)=xs)
theorem lW.nil (w:World)(e k:Nat):lW w e k (.slice none 0 0) 0 []:=⟨by simp,.inl ⟨rfl,rfl⟩⟩
theorem lW.lt {w:World}{e k n:Nat}{v:Value}{xs:List Value}(h:lW w e k v n xs){g:Nat}(hg:v.ownBlock=some g):g<w.heap.size:=by
 rcases h.2 with ⟨rfl,_⟩|⟨g',off,cap,cur,rfl,hr,_⟩
 ·cases hg
 ·cases hg;exact hr.lt
theorem lW.dm {w:World}{S:Nat->Prop}{e k n:Nat}{v:Value}{xs:List Value}(h:lW w e k v n xs)(hS:∀g,v.ownBlock=some g->¬S g):aX w S k v n xs:=by
 obtain⟨hl,hr⟩:=h
 rcases hr with ⟨rfl,rfl⟩|⟨g,off,cap,cur,rfl,hr,h1,h2,h3,h4⟩
 ·have:xs=[]:=aV (by simpa using hl)
  subst this;exact aX.nil _ _ _
 ·have hle:n*k<=cap*k:=bY _ h1
  have:=hr.dm (S:=S) (k:=k) (off:=off) n cap (by omega) (hS g rfl) h1 h2
  rwa [h4] at this
theorem lW.keep {w w':World}{e k n:Nat}{v:Value}{xs:List Value}(h:lW w e k v n xs)(hb:∀g,v.ownBlock=some g->w'.heap[g]? =w.heap[g]?):lW w' e k v n xs:=by
 obtain⟨hl,hr⟩:=h
 rcases hr with ⟨rfl,rfl⟩|⟨g,off,cap,cur,rfl,hr,h1⟩
 ·exact⟨hl,.inl ⟨rfl,rfl⟩⟩
 ·exact⟨hl,.inr ⟨g,off,cap,cur,rfl,(hb g rfl).trans hr,h1⟩⟩
theorem lW.after {w:World}{e k n c:Nat}{ao:Option Addr}{xs:List Value}(h:lW w e k (.slice ao n c) n xs)(i:Nat)(hi:i<=n):
  lW w e k (.slice (if c=i then ao else ao.map fun x=>x.add (i*k)) (n - i) (c - i)) (n - i) (xs.drop (i*k)):=by
 obtain⟨hl,hr⟩:=h
 have hlen:(xs.drop (i*k)).length=(n - i)*k:=by rw[aN,hl,Nat.sub_mul]
 refine⟨hlen,?_⟩
 rcases hr with ⟨hv,rfl⟩|⟨g,off,cap,cur,hv,hr,h1,h2,h3,h4⟩
 ·cases hv
  obtain rfl:i=0:=by omega
  exact .inl ⟨by simp,by omega⟩
 ·cases hv
  have hmul:(n - i)*k<=(c - i)*k:=bY _ (by omega)
  have hmc:(c - i)*k+i*k=c*k:=by rw[<-eH];congr 1;omega
  by_cases hc:c=i
  ·refine .inr ⟨g,off,c - i,cur,by rw[if_pos hc],hr,by omega,by omega,by omega,?_⟩
   have e0:n - i=0:=by omega
   rw[e0,uz,iD]
   exact(aV (by rw[hlen,e0,uz])).symm
  ·refine .inr ⟨g,off+i*k,c - i,cur,by rw[if_neg hc];simp[dY],hr,by omega,by omega,by omega,?_⟩
   rw[<-h4,gV,kY,<-Nat.sub_mul]
section
variable {P:Program}
theorem Rs (w:World)(t tx ty e:TypeId)(i:TypeInfo)(z:Value)(k bytes:Nat)(ht:P.underlying t=some (.slice e))(hi:P.info? e=some i)(hz:i.zero=some z)
  (hsize:i.size=k) (hby:i.bytes=bytes) (hzs:z.cells.size=k)
  (v:Value) (n:Nat) (xs:List Value) (hown:lW w e k v n xs) (x:Value) (m:Nat) (news:List Value) (hs:Src P k tx x m news w)
  (h63:n+m<=maxLen) (hbytes:(n+m)*bytes<=140737488355328):
  ∃ao c w',(Builtin.append_ #[t,tx] ty #[v,x]).run P w= .ok (.slice ao (n+m) c) w'/\lW w' e k (.slice ao (n+m) c) (n+m) (xs++news)/\Keep (fun g=>v.ownBlock=some g) w w'/\
   ((Value.slice ao (n+m) c).ownBlock=v.ownBlock\/∃g,(Value.slice ao (n+m) c).ownBlock=some g/\w.heap.size<=g):=by
 subst hsize
 subst hby
 have hsmall:n+m<=9223372036854775807:=by simp only[maxLen] at h63;omega
 have hlen:(xs++news).length=(n+m)*i.size:=by rw[ay,hown.1,hs.newsLen,eH]
 have grown:∀(old:Nat),old<n+m->
   lW (w.drew.alloc (.cells ((xs++news).toArray++Builtin.zeroCells z.cells (grownCap w (n+m) old e - (n+m))) e)) e i.size
    (.slice (some ⟨w.heap.size,0,none⟩) (n+m) (grownCap w (n+m) old e)) (n+m) (xs++news)/\
   Keep (fun g=>v.ownBlock=some g) w (w.drew.alloc (.cells ((xs++news).toArray++Builtin.zeroCells z.cells (grownCap w (n+m) old e - (n+m))) e)):=by
  intro old ho
  have hge:=zA w (n+m) old e
  have hcm:grownCap w (n+m) old e<=maxLen:=ng w (n+m) old e h63
  have hrow:Row (w.drew.alloc (.cells ((xs++news).toArray++Builtin.zeroCells z.cells (grownCap w (n+m) old e - (n+m))) e)) w.heap.size e ((xs++news)++(Builtin.zeroCells z.cells (grownCap w (n+m) old e - (n+m))).toList):=by
   have:=bD w.drew (.cells ((xs++news).toArray++Builtin.zeroCells z.cells (grownCap w (n+m) old e - (n+m))) e)
   unfold Row
   rw[show (w.heap.size)=w.drew.heap.size from rfl,this]
   congr 2
   apply EQ.1
   simp
  refine⟨⟨hlen,.inr ⟨w.heap.size,0,_,_,rfl,hrow,hge,hcm,?_,?_⟩⟩,(Keep.refl _ w).drew.alloc _⟩
  ·rw[ay,hlen,kE,vY,hzs,dV,<-eH]
   exact kT (congrArg (· *i.size) (by omega))
  ·rw[dP,<-hlen]
   exact iE
 rcases hown.2 with ⟨rfl,rfl⟩|⟨g,off,cap,cur,rfl,hg,hnc,hcm,hcs,htake⟩
 ·have hx:xs=[]:=aV (by simpa using hown.1)
  subst hx
  by_cases hm:m=0
  ·subst hm
   have hn:news=[]:=aV (by simpa using hs.newsLen)
   subst hn
   refine⟨none,0,w,?_,lW.nil w e i.size,Keep.refl _ _,.inl rfl⟩
   rcases hs.kind with ⟨e',hk⟩|hk<;>simp[Builtin.append_,fK ht,fK hk,sizeOf,typeInfo,hi,hs.len,hs.cells]
  ·have hr:=rZ (P:=P) w t tx ty e i z ht hi hz none 0 0 [] (run_firstCells_none w.drew i.size 0 0 0) x m news hs (by omega) (by omega) (qZ (by omega) hbytes)
   have hgr:=grown 0 (by omega)
   exact⟨_,_,_,hr,hgr.1,hgr.2,.inr ⟨_,rfl,aC _⟩⟩
 ·by_cases hroom:n+m<=cap
  ·have hmul:(n+m)*i.size<=cap*i.size:=bY _ hroom
   have hnm:n*i.size+news.length=(n+m)*i.size:=by rw[hs.newsLen,eH]
   have hfit:(off+n*i.size)+news.length<=cur.length:=by omega
   obtain⟨w',hst,h2,h3⟩:=oH (P:=P) (off:=off+n*i.size) hg news hfit hs.one
   refine⟨some ⟨g,off,none⟩,cap,w',?_,⟨hlen,.inr ⟨g,off,cap,_,rfl,h2,hroom,hcm,?_,?_⟩⟩,h3.mono (fun k' _ hk=>by rw[hk];rfl),.inl rfl⟩
   ·rcases hs.kind with ⟨e',hk⟩|hk<;>simp[Builtin.append_,fK ht,fK hk,sizeOf,typeInfo,hi,hs.len,hroom,hs.cells,dY,hst]
   ·unfold splice
    simp only[ay,aH,aN]
    omega
   ·unfold splice
    rw[eY (by rw[aH];omega),gV,show off+n*i.size - off=n*i.size from by omega,htake,<-hlen,<-aL]
    exact iE
  ·have hold:(Builtin.firstCells i.size n (.slice (some ⟨g,off,none⟩) n cap)).run P w.drew= .ok xs.toArray w.drew:=
    AO w.drew i.size n ⟨g,off,none⟩ n cap xs hown.1 (fun j u hu=>by
     rw[dY]
     show w.cell? ⟨g,off+j,none⟩=some u
     rw[hg.cell]
     rw[<-htake,iR] at hu
     split at hu
     ·simpa using hu
     ·cases hu)
   have hr:=rZ (P:=P) w t tx ty e i z ht hi hz (some ⟨g,off,none⟩) n cap xs hold x m news hs (by omega) (by omega) (qZ (by omega) hbytes)
   have hgr:=grown cap (by omega)
   exact⟨_,_,_,hr,hgr.1,hgr.2,.inr ⟨_,rfl,aC _⟩⟩
theorem Ox {o:Oper}{a:Act}{w:World}{K:Act->World->Prop}{Q:Exit->Act->World->Prop}(s y:Operand)(t tx:TypeId)(ho:o.op= .call {callee:= .builtin .append,args:=#[s,y],argTypes:=#[t,tx]})
  (e:TypeId) (k bytes:Nat) (z:Value) (ht:P.underlying t=some (.slice e)) (hinfo:(P.info? e).map (fun i=>(i.zero,i.size,i.bytes))=some (some z,k,bytes)) (hzs:z.cells.size=k)
  (v:Value) (n:Nat) (xs:List Value) (hv:a.eval s=v) (hown:lW w e k v n xs) (x:Value) (m:Nat) (news:List Value) (hx:a.eval y=x) (hs:Src P k tx x m news w)
  (h63:n+m<=maxLen) (hbytes:(n+m)*bytes<=140737488355328)
  (h:∀ao c w',lW w' e k (.slice ao (n+m) c) (n+m) (xs++news)->Keep (fun g=>v.ownBlock=some g) w w'->
   ((Value.slice ao (n+m) c).ownBlock=v.ownBlock\/∃g,(Value.slice ao (n+m) c).ownBlock=some g/\w.heap.size<=g)->K (a.put o.dst (.slice ao (n+m) c)) w'):o.wp P a w K Q:=by
 obtain⟨i,hi,hz,hsize,hby⟩:=uh hinfo
 obtain⟨ao,c,w',hr,h2,h3,h4⟩:=Rs (P:=P) w t tx o.type e i z k bytes ht hi hz hsize hby hzs v n xs hown x m news hs h63 hbytes
 unfold Oper.wp execOp
 simp only[ho,resolve,invoke,builtin,jU,pG,gH,mg,dw,iy,hv,hx,hr]
 exact h ao c w' h2 h3 h4
theorem JC {ops:Array Oper}{rest:List Oper}{o:Oper}{a:Act}{w:World}{Q:Exit->Act->World->Prop}(hgd:o.guard=none)(s y:Operand)(t tx:TypeId)(ho:o.op= .call {callee:= .builtin .append,args:=#[s,y],argTypes:=#[t,tx]})
  (e:TypeId) (k bytes:Nat) (z:Value) (ht:P.underlying t=some (.slice e)) (hinfo:(P.info? e).map (fun i=>(i.zero,i.size,i.bytes))=some (some z,k,bytes)) (hzs:z.cells.size=k)
  (v:Value) (n:Nat) (xs:List Value) (hv:a.eval s=v) (hown:lW w e k v n xs) (x:Value) (m:Nat) (news:List Value) (hx:a.eval y=x) (hs:Src P k tx x m news w)
  (h63:n+m<=maxLen) (hbytes:(n+m)*bytes<=140737488355328)
  (h:∀ao c w',lW w' e k (.slice ao (n+m) c) (n+m) (xs++news)->Keep (fun g=>v.ownBlock=some g) w w'->
   ((Value.slice ao (n+m) c).ownBlock=v.ownBlock\/∃g,(Value.slice ao (n+m) c).ownBlock=some g/\w.heap.size<=g)->wpList P ops Q rest (a.put o.dst (.slice ao (n+m) c)) w'):wpList P ops Q (o::rest) a w:=
 K8 hgd fun _ hK=>Ox s y t tx ho e k bytes z ht hinfo hzs v n xs hv hown x m news hx hs h63 hbytes fun ao c w' h2 h3 h4=>hK _ _ (h ao c w' h2 h3 h4)
end
def zB:List UInt8:=List.replicate 512 0
theorem iM:zB.length=512:=by unfold zB;exact List.length_replicate
theorem xK (w:World):(zeroValue 113).run Tryz.prog w= .ok (.agg (gq (0,zB)).toArray) w:=by kernel_rfl
theorem I7 (i:Int):Tryz.prog.built 113 [(0,.int .i64 i)]=some (Value.int .i64 i::aI zB).toArray:=by kernel_rfl
theorem nV:(Tryz.prog.info? 113).map (fun i=>i.size)=some 513:=by kernel_rfl
theorem Ip:(Tryz.prog.info? 113).map (fun i=>(i.zero,i.size,i.bytes))=some (some (.agg (gq (0,zB)).toArray),513,520):=by kernel_rfl
theorem AR:((Tryz.prog.info? 113).bind (·.zero)).isSome=true:=by kernel_rfl
theorem Fa (v:Value)(n:Nat)(l:List UInt8):splice (v::aI (List.replicate n 0)) 1 (aI l)=v::aI (l++List.replicate (n - l.length) 0):=by
 unfold splice
 rw[iX,iD,bL,uE 1,gm]
 simp[aI]
theorem lI (cur cs:List Value)(h:cur.length=cs.length):splice cur 0 cs=cs:=by
 unfold splice
 rw[iD,dV,<-h,kM];simp
theorem Fb (i:Int)(l:List UInt8):splice (Value.int .i64 i::aI zB) 1 (aI l)=Value.int .i64 i::aI (pad l):=Fa _ 512 l
theorem Dk.dW (σ:Dk):σ.fF.n=σ.n/\σ.fF.sec=σ.sec/\σ.fF.waits=σ.waits:=by unfold Dk.fF;split<;>(try split)<;>exact⟨rfl,rfl,rfl⟩
theorem NF (d:Nat)(σ:Dk)(S:Nat->Prop)(gs:Nat)(wv:Value)(i:Nat)(v:Value)(l:List UInt8)(w:World)(h:oz w S d σ gs wv)(hd:σ.dead=false)(hi:i<σ.n)(hl:l.length<=512)(hbd:σ.fF.dead=false)
  (hv:aX w S 1 v l.length (aI l)) (hcap:σ.waits.length<=1000000):
  Calls Tryz.prog 78 #[.pointer (some ⟨d,0,none⟩),.int .i64 i,v] w fun e w'=>e= .returned (.int .i64 0)/\∃S' wv',oz w' S' d (σ.fF.put i l) gs wv'/\Step S S' w w':=by
 have hbad:σ.bad i=0:=by unfold Dk.bad;rw[hd];simp;omega
 have hck:=mX d σ S gs wv i w h
 rw[hbad] at hck
 have HCK:=ah hck;clear hck
 obtain⟨vo,vc,rfl,hv1,hv2,hv3,hv4⟩:=aX.form hv
 have hl':¬((512:Int)<(l.length:Int)):=by omega
 have hburn:=zq d σ S gs wv w h hd
 rw[hbd] at hburn
 have HB:=ah hburn;clear hburn
 have hnot:∀(x:Bool) (w:World),(Op.unary .not (.bool x)).run Tryz.prog w= .ok (.bool (!x)) w:=fun _ _=>rfl
 go_enter Tryz.func78,Tryz.ntmps78
 go_wp2_with (first
  |(go_at_call 53;go_must (refine HCK.out.mono ?_;rintro e w1 ⟨rfl,hw⟩;subst w1))
  |(go_at_call 54;go_must (refine HB.out.mono ?_;rintro e w1 ⟨rfl,hD1,hk1⟩;refine Stop.of ?_)))
 refine Stop.on ?_
 obtain⟨c0,c1,c2,c3,hlt,hfz⟩:=hD1.cells
 have hf1:=hfz 1 (by omega)
 obtain⟨x,HX⟩:∃x,Hid (w1.heap.size=x):=⟨_,ah rfl⟩
 have hr1:Row (w1.alloc (.cells (gq (0,zB)).toArray 113)) w1.heap.size 113 (gq (0,zB)):=Row.new w1 _ _
 have hz1:=ah (show (gq (0,zB)).length=513 from jr iM)
 have hz2:=ah (show (Value.int .i64 (i:Int)::aI zB).length=513 by rw[aZ,bL,iM])
 go_wp2_with (first
  |((refine dU rfl ?_);intro K hK;(refine yw 113 _ rfl (Value.int .i64 i::aI zB) (I7 i) ?_);refine hK _ _ ?_)
  |((refine dU rfl ?_);intro K hK;(refine iZ 113 rfl _ xK ?_);refine hK _ _ ?_)
  |((refine dU rfl ?_);intro K hK;(refine wp_store_row 113 _ _ rfl w1.heap.size 0 113 _ (Value.int .i64 i::aI zB) rfl rfl hr1 (nV.trans (congrArg some hz2.out.symm)) (by rw[hz1.out,hz2.out];omega) (Fz (i,zB)) ?_);intro w2 hr2 hk2;refine hK _ _ (Stop.of ?_)))
 refine Stop.on ?_
 rw[show splice (gq (0,zB)) 0 (Value.int .i64 (i:Int)::aI zB)=Value.int .i64 (i:Int)::aI zB from lI _ _ (hz1.out.trans hz2.out.symm)] at hr2
 rw[HX.out] at hr2 hk2
 clear hr1
 have hkx:Keep (· =x) w1 w2:=((Keep.refl (· =x) w1).alloc (.cells (gq (0,zB)).toArray 113)).trans hk2 (fun _ _ e=>e)
 have hxS:¬S x:=fun e=>absurd (hD1.sub x e) (by rw[HX.out];exact dB _)
 have hv2:aX w2 fZ 1 (.slice vo l.length vc) l.length (aI l):=by
  have e1:=(hv.step (S':=S) ⟨hk1.mono (fun _ _ e=>e▸h.sd),fun g hg=> .inl hg⟩)
  exact e1.keep fun g _ hg hs=>⟨hkx.block g hg (fun e=>by rw[e,HX.out] at hg;exact dB _ hg),id⟩
 have hlen:=ah (bL l)
 have hfst:=hv2.first (P:=Tryz.prog) l.length (aC _)
 rw[aU,aJ (kT hlen.out)] at hfst
 have hfst:=ah hfst
 rw[HX.out]
 go_wp2_with (first
  |((refine dU rfl ?_);intro K hK;(refine gU (.tmp 24) (.tmp 25) 70 70 rfl 5 1 1 (.int .u8 0) bH kz x 1 113 l.length 512 512 (some ⟨x,1,none⟩) _ rfl hr2 (.slice vo l.length vc) rfl l.length (aI l) rfl ?_ ?_ hfst.out (fun _=>rfl) ?_ (gZ _) ?_);go_must ((focus (exact(bI hl).symm));(focus (rw[hlen.out,aU]));(focus (rw[hlen.out,hz2.out];omega));intro w3 hr3 hk3;refine hK _ _ (Stop.of ?_))))
 refine Stop.on ?_
 rw[Fb] at hr3
 have hr3':Row w3 x 113 (gq (i,pad l)):=hr3
 clear hr3 hfst hlen hv2 hr2
 have hk13:Keep (· =x) w1 w3:=hkx.trans hk3 (fun _ _ e=>e)
 have hdx:¬d=x:=fun e=>hxS (e▸hD1.sd)
 have hlen:=jr (p:=(i,pad l)) (o9 hl)
 have hone:∀v∈gq (i,pad l),v.oneCell'=true:=Fz (i,pad l)
 generalize hC:gq (i,pad l)=C at hr3' hlen hone
 have HC:=ah hC;clear hC
 have HL:=ah hlen;clear hlen
 have hx3:x<w3.heap.size:=hr3'.lt
 have hd3:d<w3.heap.size:=ak hlt hk13.size
 have hc3:w3.cell? ⟨d,1,none⟩=some wv:=(hk13.cell hlt hdx).trans c1
 go_wp2_with fail
 refine aP (fun W=>W.cell? ⟨d,1,none⟩=some wv/\d<W.heap.size/\W.rangeAt x 0 C/\x<W.heap.size) (fun i=> !([6,7,10].contains i)) [0,1,2,3,4,5,6,7,8,9,10] rfl (by kernel_rfl) ⟨hc3,hd3,hr3'.whole,hx3⟩ ?_
 repeat ((refine bP (v:= ?_) rfl rfl (fun _ _ _ h=>h) rfl (fun W hW=> ?_) ?_);rotate_left;(focus ((try dsimp only at hW);have q0:=hW.1;have q1:=hW.2.1;have q2:=hW.2.2.1;have q3:=hW.2.2.2;first|(clear q2;go_simp;first|done|with_reducible rfl)));(try simp only[Act.put,ai,ax,au]))
 refine bP (v:= .agg C.toArray) rfl rfl (fun _ _ _ h=>h) rfl (fun W hW=> ?_) ?_
 ·refine kV 113 (.tmp 8) rfl x 0 rfl C _ hW.2.2.1 Tryz.underlying113 rfl (nV.trans (congrArg some HL.out.symm))
 simp only[Act.put,ai,ax,au]
 have hr4:Row (w3.drew.alloc (.cells C.toArray 113)) w3.heap.size 113 C:=Row.new w3.drew C _
 have hk4:Keep fZ w3 (w3.drew.alloc (.cells C.toArray 113)):=((Keep.refl fZ w3).drew).alloc _
 refine dK rfl rfl rfl ?_;intro K hK
 refine rF 80 113 (.tmp 32) rfl 513 C rfl HL.out (by omega) (by omega) Tryz.underlying80 nV AR ?_
 refine hK.out _ _ ⟨(hk4.cell hd3 id).trans hc3,ak hd3 hk4.size,fun j v hv=>(hk4.cell (p:=⟨x,0+j,none⟩) hx3 id).trans (hr3'.whole j v hv),ak hx3 hk4.size⟩ ?_
 have hox:∀y,wv.ownBlock=some y->y<w1.heap.size/\y≠x/\y≠d:=fun y hy=>⟨(hD1.own.1.lt _ hy).2,fun e=>hxS (e▸(hD1.sw y hy).1),(hD1.sw y hy).2.1⟩
 have hown4:aQ (w3.drew.alloc (.cells C.toArray 113)) fZ 0 113 513 wv σ.waits.length (jY σ.waits):=by
  have:=hD1.own
  rw[σ.dW.2.2] at this
  exact this.keep fun y hy hl _=>⟨(hk4.block y (ak hl hk13.size) id).trans (hk13.block y hl (hox y hy).2.1),id⟩
 have hsrc4:Src Tryz.prog 513 80 (.slice (some ⟨w3.heap.size,0,none⟩) 1 1) 1 C (w3.drew.alloc (.cells C.toArray 113)):=gu C _ _ 1 1 rfl Tryz.underlying80 (by rw[HL.out]) hone
 refine dK rfl rfl rfl ?_;intro K hK
 refine nK (.tmp 31) (.tmp 33) 80 80 rfl fZ 0 113 513 520 _ Tryz.underlying80 Ip (by simp only[Value.cells,nH];exact jr (p:=(0,zB)) iM) wv σ.waits.length _ rfl hown4 _ 1 C rfl hsrc4 (fun _ h=>h.elim) (aT _) (by simp only[maxLen];omega) (by omega) ?_
 intro ao c w5 hown5 hk5 _ hne5
 have hk35:Keep (fun g=>wv.ownBlock=some g) w3 w5:=(hk4.mono (fun _ _ h=>h.elim)).trans hk5 (fun _ _ h=>h)
 have hc5:w5.cell? ⟨d,1,none⟩=some wv:=(hk35.cell hd3 (fun e=>(hox _ e).2.2 rfl)).trans hc3
 have hd5:d<w5.heap.size:=ak hd3 hk35.size
 refine hK.out _ _ ⟨hc5,hd5,fun j v hv=>(hk35.cell (p:=⟨x,0+j,none⟩) hx3 (fun e=>(hox _ e).2.1 rfl)).trans (hr3'.whole j v hv),ak hx3 hk35.size⟩ ?_
 have hf5:w5.frozen? ⟨d,1,none⟩=false:=(hk35.frozen (p:=⟨d,1,none⟩) hd3 (fun e=>(hox _ e).2.2 rfl)).trans ((hk13.frozen (p:=⟨d,1,none⟩) hlt hdx).trans hf1)
 simp only[Act.put,ai,ax,au]
 repeat ((refine bP (v:= ?_) rfl rfl (fun _ _ _ h=>h) rfl (fun W hW=> ?_) ?_);rotate_left;(focus ((try dsimp only at hW);have q0:=hW.1;have q1:=hW.2.1;(go_simp;first|done|with_reducible rfl)));(try simp only[Act.put,ai,ax,au]))
 refine jO rfl rfl rfl (by kernel_rfl) ?_;intro K hK;go_simp
 refine hK.out _ _ ?_
 refine bS ?_
 go_wp2_with fail
 go_ret
 have hk56:Keep (· =d) w5 (w5.setCell ⟨d,1,none⟩ (.slice ao (σ.waits.length+1) c)):=(Keep.refl (· =d) w5).setCell (p:=⟨d,1,none⟩) (.inr rfl) _
 have hk15:Keep (fun g=>g=x\/wv.ownBlock=some g) w1 w5:=(hk13.mono (fun _ _ h=> .inl h)).trans hk35 (fun _ _ h=> .inr h)
 have hk16:Keep (fun g=>g=x\/wv.ownBlock=some g\/g=d) w1 (w5.setCell ⟨d,1,none⟩ (.slice ao (σ.waits.length+1) c)):=(hk15.mono (fun _ _ h=>h.elim .inl (fun h=> .inr (.inl h)))).trans hk56 (fun _ _ h=> .inr (.inr h))
 have hgs:gs<w1.heap.size:=hD1.sub _ hD1.sg
 have hgn:¬(gs=x\/wv.ownBlock=some gs\/gs=d):=fun e=>by
  rcases e with e|e|e
  ·exact hxS (e▸hD1.sg)
  ·exact(hD1.sw _ e).2.2 rfl
  ·exact hD1.ne e
 have hob5:w5.heap[d]? =some (.cells #[.slice (some ⟨gs,0,none⟩) σ.fF.n σ.fF.n,wv,.int .i64 σ.fF.fuel,.bool σ.fF.dead] 82 (0,0)):=(hk15.block d hlt (fun e=>e.elim hdx (fun e=>(hox _ e).2.2 rfl))).trans hD1.obj
 have hlt4:∀y,y<w3.heap.size->wv.ownBlock≠some y->(Value.slice ao (σ.waits.length+1) c).ownBlock≠some y:=fun y hy=>hne5 y (ak hy hk4.size)
 have hstep:Step S (fun g=>S g\/(Value.slice ao (σ.waits.length+1) c).ownBlock=some g) w (w5.setCell ⟨d,1,none⟩ (.slice ao (σ.waits.length+1) c)):=by
  refine⟨(hk1.mono (fun _ _ e=>e▸h.sd)).trans hk16 (fun g hg e=> ?_),fun g hg=> ?_⟩
  ·rcases e with e|e|e
   ·rw[e,<-HX.out] at hg;exact absurd hk1.size (gI.2 hg)
   ·exact(h.sw g e).1
   ·exact e▸h.sd
  ·rcases hg with hg|hg
   ·exact .inl hg
   ·by_cases hy:g<w.heap.size
    ·by_cases hw:wv.ownBlock=some g
     ·exact .inl (h.sw g hw).1
     ·exact absurd hg (hlt4 g (ak hy (aK hk1.size hk13.size)) hw)
    ·exact .inr (bq.1 hy)
 refine⟨rfl,_,_,⟨hD1.ok.put i l (by rw[σ.dW.1];exact hi) hl,fun g hg=> ?_,.inl hD1.sd,.inl hD1.sg,hD1.ne,?_,?_,fun j hj=> ?_,?_,fun g hg=>⟨.inr hg,?_,?_⟩⟩,hstep⟩
 ·rcases hg with hg|hg
  ·exact ak (hD1.sub g hg) hk16.size
  ·exact ak (hown5.1.lt _ hg).2 hk56.size
 ·rw[iL w5 d 1 _ _ _ hob5]
  rfl
 ·obtain⟨D,h1,h2⟩:=hD1.blk
  exact⟨D,(hk16.block gs hgs hgn).trans h1,h2⟩
 ·intro y u hu
  exact(hk16.cell (p:=⟨gs,j*512+y,none⟩) hgs hgn).trans (hD1.sec j hj y u hu)
 ·have e1:(σ.fF.put i l).waits.length=σ.waits.length+1:=by simp[Dk.put,σ.dW.2.2]
  have e2:jY (σ.fF.put i l).waits=jY σ.waits++C:=by
   rw[show (σ.fF.put i l).waits=σ.waits++[(i,pad l)] by simp[Dk.put,σ.dW.2.2],AU,<-HC.out]
   simp[jY]
  rw[e1,e2]
  exact hown5.keep fun y hy hl _=>⟨hk56.block y hl (fun e=>hlt4 d hd3 (fun e'=>(hox _ e').2.2 rfl) (e▸hy)),id⟩
 ·exact fun e=>hlt4 d hd3 (fun e'=>(hox _ e').2.2 rfl) (e▸hg)
 ·exact fun e=>hlt4 gs (ak hgs hk13.size) (fun e'=>(hD1.sw _ e').2.2 rfl) (e▸hg)
theorem oz.wait {w:World}{S:Nat->Prop}{d:Nat}{σ:Dk}{gs:Nat}{wv:Value}(h:oz w S d σ gs wv)(k:Nat)(hk:k<σ.waits.length):
  ∃g cap,wv= .slice (some ⟨g,0,none⟩) σ.waits.length cap/\w.rangeAt g (k*513) (gq σ.waits[k])/\g<w.heap.size/\σ.waits.length<=cap/\cap<=9223372036854775807:=by
 obtain⟨wo,wc,rfl,h1,h2,h3,h4⟩:=aX.form h.own.dm
 obtain⟨⟨hl',hr'⟩,_⟩:=h.own
 rcases hr' with ⟨hv,h0⟩|⟨g,cap,cur,hv,_⟩
 ·omega
 ·cases hv
  obtain⟨cur,hrow,_,htk,_⟩:=aQ.row h.own
  refine⟨g,wc,rfl,fun y u hu=> ?_,hrow.lt,h1,h2⟩
  have hu':=sS (fun p hp=>(h.ok.wt p hp).2) k hk y u hu
  rw[hrow.cell,<-hu',<-htk,iR]
  split
  ·rfl
  ·exfalso
   have h2:=(cu.1 hu').1
   rw[uj (fun p hp=>(h.ok.wt p hp).2)] at h2
   omega
theorem MO (cur cs:List Value)(off y:Nat)(hy:y<cs.length)(hf:off+cs.length<=cur.length):(splice cur off cs)[off+y]? =cs[y]? :=by
 unfold splice
 have hl:(cur.take off).length=off:=by rw[aH];omega
 rw[cZ (by omega),hl,dF,fU hy]
theorem JX (cur cs:List Value)(off y:Nat)(hy:y<off\/off+cs.length<=y)(hf:off+cs.length<=cur.length):(splice cur off cs)[y]? =cur[y]? :=by
 unfold splice
 have hl:(cur.take off).length=off:=by rw[aH];omega
 rcases hy with hy|hy
 ·rw[fU (by omega),iR,if_pos hy]
 ·rw[cZ (by omega),hl,cZ (by omega),List.getElem?_drop]
  congr 1
  omega
def Dk.lay (σ:Dk)(i:Nat)(l:List UInt8):Dk:={σ with sec:=fun j=>if i=j then l else σ.sec j}
theorem Dk.Ok.lay {σ:Dk}(h:σ.Ok)(i:Nat)(l:List UInt8)(hl:l.length=512):(σ.lay i l).Ok:=
 ⟨h.lo,h.hi,fun j=>by show (if i=j then l else σ.sec j).length=512;split;exact hl;exact h.sec j,h.wt,h.fl⟩
def Dk.upto (σ:Dk)(k:Nat):Dk:={σ with sec:=fun i=>behind (σ.waits.take k) i (σ.sec i)}
theorem Dk.MF (σ:Dk)(k:Nat)(hk:k<σ.waits.length):σ.upto (k+1)=(σ.upto k).lay σ.waits[k].1 σ.waits[k].2:=by
 unfold Dk.upto Dk.lay
 congr 1
 funext i
 rw[aM hk,nP]
 rfl
theorem Dk.OP (σ:Dk):({σ.upto σ.waits.length with waits:=[]}:Dk)=σ.flush:=by
 unfold Dk.upto Dk.flush Dk.get
 rw[bR]
theorem oz.lay {w w':World}{S:Nat->Prop}{d:Nat}{σ:Dk}{gs:Nat}{wv:Value}(h:oz w S d σ gs wv)(i:Nat)(l:List UInt8)(hi:i<σ.n)(hl:l.length=512)(cur:List Value)
  (hc:Row w gs 111 cur) (hr:Row w' gs 111 (splice cur (i*512) (aI l))) (hk:Keep (· =gs) w w'):oz w' S d (σ.lay i l) gs wv:=by
 have hbl:(aI l).length=512:=by rw[bL,hl]
 have hcl:cur.length=σ.n*512:=by
  obtain⟨C,h1,h2⟩:=h.blk
  unfold Row at hc
  rw[h1] at hc
  cases hc
  simpa using h2
 have hfit:i*512+(aI l).length<=cur.length:=by rw[hbl,hcl];omega
 refine⟨h.ok.lay i l hl,fun g hg=>ak (h.sub g hg) hk.size,h.sd,h.sg,h.ne,(hk.block d (h.sub _ h.sd) (fun e=>h.ne e.symm)).trans h.obj,⟨_,hr,?_⟩,fun j hj y u hu=> ?_,?_,h.sw⟩
 ·rw[nH]
  show (splice cur (i*512) (aI l)).length=σ.n*512
  unfold splice
  simp only[ay,aH,aN]
  omega
 ·rw[hr.cell]
  by_cases hij:i=j
  ·subst hij
   have hu':(aI l)[y]? =some u:=by
    have:(σ.lay i l).sec i=l:=if_pos rfl
    rwa [this] at hu
   rw[MO _ _ _ _ ((cu.1 hu').1) hfit]
   exact hu'
  ·have hu':(aI (σ.sec j))[y]? =some u:=by
    have:(σ.lay i l).sec j=σ.sec j:=if_neg hij
    rwa [this] at hu
   have hy:y<512:=by have:=(cu.1 hu').1;rwa [bL,h.ok.sec] at this
   rw[JX _ _ _ _ (by rw[hbl];omega) hfit,<-hc.cell]
   exact h.sec j hj y u hu'
 ·exact h.own.keep fun g hg _ hs=>⟨hk.block g (h.own.1.lt _ hg).2 (h.sw g hg).2.2,hs⟩
theorem oz.below {w w':World}{S:Nat->Prop}{d:Nat}{σ:Dk}{gs:Nat}{wv:Value}(h:oz w S d σ gs wv){M:Nat->Prop}(hk:Keep M w w')(hM:∀g,S g->¬M g):oz w' S d σ gs wv:=by
 refine⟨h.ok,fun g hg=>ak (h.sub g hg) hk.size,h.sd,h.sg,h.ne,(hk.block d (h.sub _ h.sd) (hM _ h.sd)).trans h.obj,?_,fun i hi y u hu=> ?_,?_,h.sw⟩
 ·obtain⟨C,h1,h2⟩:=h.blk
  exact⟨C,(hk.block gs (h.sub _ h.sg) (hM _ h.sg)).trans h1,h2⟩
 ·exact(hk.cell (p:=⟨gs,i*512+y,none⟩) (h.sub _ h.sg) (hM _ h.sg)).trans (h.sec i hi y u hu)
 ·exact h.own.keep fun g hg hl hs=>⟨hk.block g hl (hM _ (h.sw g hg).1),hs⟩
theorem oz.row {w:World}{S:Nat->Prop}{d:Nat}{σ:Dk}{gs:Nat}{wv:Value}(h:oz w S d σ gs wv):∃cur,Row w gs 111 cur/\cur.length=σ.n*512:=by
 obtain⟨C,h1,h2⟩:=h.blk
 exact⟨C.toList,h1,by simpa using h2⟩
theorem tO:(Tryz.prog.info? 111).map (fun i=>i.size)=some 512:=by kernel_rfl
theorem NH (d:Nat)(σ:Dk)(S:Nat->Prop)(gs:Nat)(wv:Value)(w:World)(h:oz w S d σ gs wv)(hd:σ.dead=false)(hbd:σ.fF.dead=false)(hcap:σ.waits.length<=1000000):
  Calls Tryz.prog 16 #[.pointer (some ⟨d,0,none⟩)] w fun e w'=>e= .returned (.int .i64 0)/\oz w' S d σ.fF.flush gs (.slice none 0 0)/\Step S S w w':=by
 have hbad:σ.bad 0=0:=by have:=h.ok.lo;unfold Dk.bad;rw[hd];simp;omega
 have hck:=mX d σ S gs wv 0 w h
 rw[hbad] at hck
 have HCK:=ah hck;clear hck
 have hburn:=zq d σ S gs wv w h hd
 rw[hbd] at hburn
 have HB:=ah hburn;clear hburn
 have hbw:σ.fF.waits.length<=1000000:=by rw[σ.dW.2.2];exact hcap
 have hnot:∀(x:Bool) (w:World),(Op.unary .not (.bool x)).run Tryz.prog w= .ok (.bool (!x)) w:=fun _ _=>rfl
 go_enter Tryz.func16,Tryz.ntmps16
 go_wp2_with (first
  |(go_at_call 53;go_must (refine HCK.out.mono ?_;rintro e w1 ⟨rfl,hw⟩;subst w1))
  |(go_at_call 54;go_must (refine HB.out.mono ?_;rintro e w1 ⟨rfl,hD1,hk1⟩;refine Stop.of ?_)))
 refine Stop.on ?_
 have HS:=ah h.sd
 clear h HCK HB hbad hbd hd hcap
 generalize hτ:σ.fF=τ at hD1 hbw
 have HT:=ah hτ;clear hτ
 obtain⟨wo,wc,rfl,g1,g2,g3,g4⟩:=aX.form hD1.own.dm
 obtain⟨c0,c1,_,_,hlt,hfz⟩:=hD1.cells
 go_wp2_with fail
 go_loopw [19] (fun i wr=>∃k:Nat,k<=τ.waits.length/\i= .int .i64 k/\oz wr S d (τ.upto k) gs (.slice wo τ.waits.length wc)/\Keep (· =gs) w1 wr) (fun i _=>τ.waits.length - (intOf i).toNat)
 case atStart=>exact⟨0,aT _,rfl,hD1,Keep.refl _ _⟩
 case round=>
  obtain⟨k,hk,rfl,hDk,hkk⟩:=hrel
  by_cases hlt:k<τ.waits.length
  ·obtain⟨g,cap,hgv,hrg,hgl,hgc,hgm⟩:=hDk.wait k hlt
   cases hgv
   obtain⟨x,HX⟩:∃x,Hid (wr.heap.size=x):=⟨_,ah rfl⟩
   have hwt:=hDk.ok.wt _ (bE hlt)
   obtain⟨p,HP⟩:∃p,Hid (τ.waits[k]=p):=⟨_,ah rfl⟩
   have hrg:wr.rangeAt g (k*513) (gq p):=by rw[<-HP.out];exact hrg
   have hp1:p.1<τ.n:=by rw[<-HP.out];exact hwt.1
   have hp2:=ah (show p.2.length=512 by rw[<-HP.out];exact hwt.2)
   have hlen:=ah (jr hp2.out)
   have hone:∀v∈gq p,v.oneCell'=true:=Fz p
   have hr1:Row (wr.alloc (.cells (gq (0,zB)).toArray 113)) wr.heap.size 113 (gq (0,zB)):=Row.new wr _ _
   have hz1:=ah (show (gq (0,zB)).length=513 from jr iM)
   have hki:(k:Int)<(τ.waits.length:Int):=by omega
   go_wp2_with (first
    |((refine dU rfl ?_);intro K hK;(refine QW 113 _ rfl g (k*513) rfl (gq p) _ hrg Tryz.underlying113 rfl (nV.trans (congrArg some hlen.out.symm)) ?_);refine hK _ _ ?_)
    |((refine dU rfl ?_);intro K hK;(refine iZ 113 rfl _ xK ?_);refine hK _ _ ?_)
    |((refine dU rfl ?_);intro K hK;(refine wp_store_row 113 _ _ rfl wr.heap.size 0 113 _ (gq p) rfl rfl hr1 (nV.trans (congrArg some hlen.out.symm)) (by rw[hz1.out,hlen.out];omega) hone ?_);intro w2 hr2 hk2;refine hK _ _ (Stop.of ?_)))
   refine Stop.on ?_
   rw[lI _ _ (hz1.out.trans hlen.out.symm),HX.out] at hr2
   rw[HX.out] at hk2
   have hkx:Keep (· =x) wr w2:=((Keep.refl (· =x) wr).alloc (.cells (gq (0,zB)).toArray 113)).trans hk2 (fun _ _ e=>e)
   have hxS:¬S x:=fun e=>absurd (hDk.sub x e) (by rw[HX.out];exact dB _)
   have hD2:=hDk.below hkx (fun y hy e=>hxS (e▸hy))
   obtain⟨c0',_,_,_,hlt',_⟩:=hD2.cells
   have hx0:w2.cell? ⟨x,0,none⟩=some (.int .i64 (p.1:Int)):=hr2.whole 0 _ rfl
   have hx1:w2.rangeAt x 1 (aI p.2):=fun y u hu=>by
    rw[uE 1]
    have:=hr2.whole (y+1) u hu
    rwa [dV] at this
   have hxl:=hr2.lt
   have hb2:=ah (show (aI p.2).length=512 by rw[bL,hp2.out])
   have hone2:=gZ p.2
   generalize hC:aI p.2=C at hx1 hb2 hone2
   have HC:=ah hC;clear hC
   rw[HX.out]
   clear hr1 hr2 hk2 hone hrg
   obtain⟨cur,hrow,hcl⟩:=hD2.row
   have hrow':Row w2.drew gs 111 cur:=hrow
   have HCL:=ah hcl;clear hcl
   have hp1':(p.1:Int)<((τ.upto k).n:Int):=by show (p.1:Int)<(τ.n:Int);omega
   have hn0:∀(n:Int),0<=n\/n<0:=fun n=>by omega
   go_wp2_with fail
   refine aP (fun W=>W=w2.drew) (fun i=> !([9].contains i)) [0,1,2,3,4,5,6,7,8,9] rfl (by kernel_rfl) rfl ?_
   repeat ((refine bP (v:= ?_) rfl rfl (fun _ _ _ h=>h) rfl (fun W hW=> ?_) ?_);rotate_left;(focus ((try dsimp only at hW);subst hW;(go_simp;first|done|with_reducible rfl)));(try simp only[Act.put,ai,ax,au]))
   refine bP (v:= .agg C.toArray) rfl rfl (fun _ _ _ h=>h) rfl (fun W hW=> ?_) ?_
   ·subst hW
    exact kV 111 (.tmp 29) rfl x 1 rfl C _ hx1 Tryz.underlying111 rfl (tO.trans (congrArg some hb2.out.symm))
   simp only[Act.put,ai,ax,au]
   repeat ((refine bP (v:= ?_) rfl rfl (fun _ _ _ h=>h) rfl (fun W hW=> ?_) ?_);rotate_left;(focus ((try dsimp only at hW);subst hW;(go_simp;first|done|with_reducible rfl)));(try simp only[Act.put,ai,ax,au]))
   refine jO rfl rfl rfl (by kernel_rfl) ?_;intro K hK
   refine wp_store_row 111 (.tmp 31) (.tmp 30) rfl gs (p.1*512) 111 cur C rfl rfl hrow' (tO.trans (congrArg some hb2.out.symm)) (by rw[hb2.out,HCL.out];show _<=τ.n*512;omega) hone2 ?_
   intro w3 hr3 hk3
   refine hK.out _ _ ?_
   refine bS ?_
   go_wp2_with fail
   rw[<-HC.out] at hr3
   have hD3:=hD2.lay p.1 p.2 hp1 hp2.out cur hrow hr3 (((Keep.refl (· =gs) w2).drew).trans hk3 (fun _ _ e=>e))
   have hk13:Keep (· =gs) w1 w3:=(hkk.trans hkx (fun y hy e=>absurd (ak hy hkk.size) (by rw[e,HX.out];exact dB _))).trans (((Keep.refl (· =gs) w2).drew).trans hk3 (fun _ _ e=>e)) (fun _ _ e=>e)
   have hup:=τ.MF k hlt
   rw[HP.out] at hup
   rw[<-hup] at hD3
   have HD3:=ah hD3;have HK3:=ah hk13
   clear hD3 hD2 hDk hkk hkx hk3 hk13 hup
   go_roundw
   case rel=>exact⟨k+1,by omega,by go_num,HD3.out,HK3.out⟩
   case measure=>simp[intOf];omega
  ·obtain rfl:k=τ.waits.length:=by omega
   obtain⟨_,_,_,_,hlt',hfz'⟩:=hDk.cells
   have hf1':=hfz' 1 (by omega)
   have hob:=hDk.obj
   have HDk:=ah hDk;have HKK:=ah hkk
   clear hDk hkk
   go_wp2_with fail
   go_ret
   have hk3:Keep (· =d) wr (wr.setCell ⟨d,1,none⟩ (.slice none 0 0)):=(Keep.refl (· =d) wr).setCell (p:=⟨d,1,none⟩) (.inr rfl) _
   have hDk:=HDk.out
   refine⟨rfl,?_,((hk1.mono (fun _ _ e=>e▸HS.out)).trans HKK.out (fun _ _ e=>e▸hDk.sg)).trans hk3 (fun _ _ e=>e▸HS.out),fun _ hg=> .inl hg⟩
   rw[HT.out,<-τ.OP]
   refine⟨⟨hDk.ok.lo,hDk.ok.hi,hDk.ok.sec,(fun p hp=>by cases hp),hDk.ok.fl⟩,fun y hy=>ak (hDk.sub y hy) hk3.size,hDk.sd,hDk.sg,hDk.ne,?_,?_,fun i hi y u hu=> ?_,aQ.nil _ _ _ _ _,(fun y hy=>by cases hy)⟩
   ·rw[iL wr d 1 _ _ _ hob]
    rfl
   ·obtain⟨C,h1,h2⟩:=hDk.blk
    exact⟨C,(hk3.block gs (hDk.sub _ hDk.sg) hDk.ne).trans h1,h2⟩
   ·exact(hk3.cell (p:=⟨gs,i*512+y,none⟩) (hDk.sub _ hDk.sg) hDk.ne).trans (hDk.sec i hi y u hu)
def kept:List Bool->List (Nat×List UInt8)->List (Nat×List UInt8)
 |b::ks,p::ws=>if b then p::kept ks ws else kept ks ws
 |_,_=>[]
theorem Cv (ks:List Bool):kept ks []=[]:=by cases ks<;>rfl
theorem wP:∀(ks:List Bool) (ws:List (Nat×List UInt8)) (k:Nat) (hk:k<ws.length),kept ks (ws.take (k+1))=kept ks (ws.take k)++if ks.getD k false=true then[ws[k]] else[]
 |[],ws,k,hk=>by simp[kept]
 |b::ks,p::ws,0,hk=>by simp[kept,Cv]
 |b::ks,p::ws,k+1,hk=>by
  have ih:=wP ks ws k (by simpa using hk)
  simp only[iX,kept,uG,List.getD_cons_succ]
  rw[ih]
  split<;>simp
def Dk.oP (σ:Dk)(ks:List Bool):Dk:={σ with sec:=fun i=>behind (kept ks σ.waits) i (σ.sec i),waits:=[],fuel:= -1,dead:=false}
def Dk.ul (σ:Dk)(ks:List Bool)(k:Nat):Dk:={σ with sec:=fun i=>behind (kept ks (σ.waits.take k)) i (σ.sec i)}
theorem Dk.MP (σ:Dk)(ks:List Bool):σ.ul ks 0=σ:=by
 unfold Dk.ul
 rw[iD,Cv]
 rfl
theorem Dk.OZ (σ:Dk)(ks:List Bool)(k:Nat)(hk:k<σ.waits.length)(h:ks.getD k false=true):σ.ul ks (k+1)=(σ.ul ks k).lay σ.waits[k].1 σ.waits[k].2:=by
 unfold Dk.ul Dk.lay
 congr 1
 funext i
 rw[wP _ _ _ hk,if_pos h,nP]
 rfl
theorem Dk.Lm (σ:Dk)(ks:List Bool)(k:Nat)(hk:k<σ.waits.length)(h:ks.getD k false=false):σ.ul ks (k+1)=σ.ul ks k:=by
 unfold Dk.ul
 congr 1
 funext i
 rw[wP _ _ _ hk,h,if_neg (by simp),dJ]
theorem Dk.O0 (σ:Dk)(ks:List Bool):({σ.ul ks σ.waits.length with waits:=[],fuel:= -1,dead:=false}:Dk)=σ.oP ks:=by
 unfold Dk.ul Dk.oP
 rw[bR]
def rD (w:World)(S:Nat->Prop)(d:Nat)(σ:Dk):Prop:=∃gs wv,oz w S d σ gs wv
theorem rD.ok {w:World}{S:Nat->Prop}{d:Nat}{σ:Dk}(h:rD w S d σ):σ.Ok:=by obtain⟨_,_,h⟩:=h;exact h.ok
theorem rD.sub {w:World}{S:Nat->Prop}{d:Nat}{σ:Dk}(h:rD w S d σ):∀g,S g->g<w.heap.size:=by obtain⟨_,_,h⟩:=h;exact h.sub
theorem rD.keep {w w':World}{S M:Nat->Prop}{d:Nat}{σ:Dk}(h:rD w S d σ)(hk:Keep M w w')(hM:∀g,S g->¬M g):rD w' S d σ:=by obtain⟨gs,wv,h⟩:=h;exact⟨gs,wv,h.below hk hM⟩
theorem rD.below {w w':World}{S:Nat->Prop}{d:Nat}{σ:Dk}(h:rD w S d σ)(hb:Below w.heap.size w w'):rD w' S d σ:=h.keep (Keep.of_below hb fZ) (fun _ _ e=>e)
theorem IE (d:Nat)(σ:Dk)(S:Nat->Prop)(w:World)(h:rD w S d σ):
  Calls Tryz.prog 9 #[.pointer (some ⟨d,0,none⟩)] w fun e w'=>e= .returned (.int .i64 σ.n)/\w'=w:=by
 obtain⟨gs,wv,h⟩:=h
 exact MQ d σ S gs wv w h
theorem U3 (d:Nat)(σ:Dk)(S:Nat->Prop)(w:World)(h:rD w S d σ):
  Calls Tryz.prog 34 #[.pointer (some ⟨d,0,none⟩)] w fun e w'=>e= .returned (.bool σ.dead)/\w'=w:=by
 obtain⟨gs,wv,h⟩:=h
 exact Qp d σ S gs wv w h
theorem L6 (d:Nat)(σ:Dk)(S:Nat->Prop)(i:Nat)(w:World)(h:rD w S d σ)(hd:σ.dead=false)(hi:i<σ.n):
  Calls Tryz.prog 102 #[.pointer (some ⟨d,0,none⟩),.int .i64 i] w fun e w'=>∃v,e= .returned (.tuple #[v,.int .i64 0])/\aQ w' fZ w.heap.size 5 1 v 512 (aI (σ.get i))/\Below w.heap.size w w':=by
 obtain⟨gs,wv,h⟩:=h
 exact NG d σ S gs wv i w h hd hi
theorem KM (d:Nat)(σ:Dk)(S:Nat->Prop)(i:Int)(v:Value)(w:World)(h:rD w S d σ)(hb:σ.bad i≠0):
  Calls Tryz.prog 78 #[.pointer (some ⟨d,0,none⟩),.int .i64 i,v] w fun e w'=>e= .returned (.int .i64 (σ.bad i))/\w'=w:=by
 obtain⟨gs,wv,h⟩:=h
 have HCK:=ah (mX d σ S gs wv i w h)
 generalize σ.bad i=q at hb HCK
 have hq:(q !=0)=true:=by simpa using hb
 go_enter Tryz.func78,Tryz.ntmps78
 go_wp2_with (first
  |(go_at_call 53;go_must (refine HCK.out.mono ?_;rintro e w1 ⟨rfl,hw⟩;subst w1)))
 go_ret
 exact⟨rfl,rfl⟩
theorem IB (d:Nat)(σ:Dk)(S:Nat->Prop)(i:Int)(v:Value)(l:List UInt8)(w:World)(h:rD w S d σ)(hb:σ.bad i=0)(hv:aX w S 1 v l.length (aI l))(hl:512<l.length):
  Calls Tryz.prog 78 #[.pointer (some ⟨d,0,none⟩),.int .i64 i,v] w fun e w'=>e= .returned (.int .i64 1)/\w'=w:=by
 obtain⟨gs,wv,h⟩:=h
 have hck:=mX d σ S gs wv i w h
 rw[hb] at hck
 have HCK:=ah hck;clear hck hb
 obtain⟨vo,vc,rfl,_,_,_,_⟩:=aX.form hv
 have hl':(512:Int)<(l.length:Int):=by omega
 go_enter Tryz.func78,Tryz.ntmps78
 go_wp2_with (first
  |(go_at_call 53;go_must (refine HCK.out.mono ?_;rintro e w1 ⟨rfl,hw⟩;subst w1)))
 go_ret
 exact⟨rfl,rfl⟩
theorem IC (d:Nat)(σ:Dk)(S:Nat->Prop)(i:Int)(v:Value)(l:List UInt8)(w:World)(h:rD w S d σ)(hb:σ.bad i=0)(hd:σ.dead=false)(hv:aX w S 1 v l.length (aI l))(hl:l.length<=512)(hbd:σ.fF.dead=true):
  Calls Tryz.prog 78 #[.pointer (some ⟨d,0,none⟩),.int .i64 i,v] w fun e w'=>e= .returned (.int .i64 10)/\rD w' S d σ.fF/\Step S S w w':=by
 obtain⟨gs,wv,h⟩:=h
 have hck:=mX d σ S gs wv i w h
 rw[hb] at hck
 have HCK:=ah hck;clear hck hb
 obtain⟨vo,vc,rfl,_,_,_,_⟩:=aX.form hv
 have hl':¬((512:Int)<(l.length:Int)):=by omega
 have hburn:=zq d σ S gs wv w h hd
 rw[hbd] at hburn
 have HB:=ah hburn;clear hburn
 have HS:=ah h.sd
 have hnot:∀(x:Bool) (w:World),(Op.unary .not (.bool x)).run Tryz.prog w= .ok (.bool (!x)) w:=fun _ _=>rfl
 go_enter Tryz.func78,Tryz.ntmps78
 go_wp2_with (first
  |(go_at_call 53;go_must (refine HCK.out.mono ?_;rintro e w1 ⟨rfl,hw⟩;subst w1))
  |(go_at_call 54;go_must (refine HB.out.mono ?_;rintro e w1 ⟨rfl,hD1,hk1⟩)))
 go_ret
 exact⟨rfl,⟨gs,wv,hD1⟩,hk1.mono (fun _ _ e=>e▸HS.out),fun _ hg=> .inl hg⟩
theorem FP (d:Nat)(σ:Dk)(S:Nat->Prop)(i:Int)(v:Value)(l:List UInt8)(w:World)(h:rD w S d σ)(hv:aX w S 1 v l.length (aI l))(hcap:σ.waits.length<=1000000):
  Calls Tryz.prog 78 #[.pointer (some ⟨d,0,none⟩),.int .i64 i,v] w fun e w'=>e= .returned (.int .i64 (σ.write i l).2)/\∃S',rD w' S' d (σ.write i l).1/\Step S S' w w':=by
 by_cases hb:σ.bad i=0
 ·have hd:σ.dead=false:=by
   cases hd:σ.dead with
   |false=>rfl
   |true=>simp[Dk.bad,hd] at hb
  have hi:¬(i<0\/(σ.n:Int)<=i):=fun hi=>by simp[Dk.bad,hd,hi] at hb
  by_cases hl:512<l.length
  ·have e:σ.write i l=(σ,1):=by simp[Dk.write,hd,hi,hl]
   try rw[e]
   refine(IB d σ S i v l w h hb hv hl).mono ?_
   rintro e w' ⟨rfl,rfl⟩
   exact⟨rfl,S,h,Step.refl _ _⟩
  ·cases hbd:σ.fF.dead with
   |true=>
    have e:σ.write i l=(σ.fF,10):=by simp[Dk.write,hd,hi,hl,hbd]
    try rw[e]
    refine(IC d σ S i v l w h hb hd hv (by omega) hbd).mono ?_
    rintro e w' ⟨rfl,h1,h2⟩
    exact⟨rfl,S,h1,h2⟩
   |false=>
    have e:σ.write i l=(σ.fF.put i.toNat l,0):=by simp[Dk.write,hd,hi,hl,hbd]
    try rw[e]
    obtain⟨k,rfl⟩:∃k:Nat,i=k:=⟨i.toNat,by omega⟩
    obtain⟨gs,wv,h⟩:=h
    refine(NF d σ S gs wv k v l w h hd (by omega) (by omega) hbd hv hcap).mono ?_
    rintro e w' ⟨rfl,S',wv',h1,h2⟩
    exact⟨rfl,S',⟨gs,wv',h1⟩,h2⟩
 ·have e:σ.write i l=(σ,σ.bad i):=by
   unfold Dk.bad at hb ⊢
   unfold Dk.write
   split
   ·rfl
   ·rename_i hd
    simp only[hd] at hb
    split
    ·rfl
    ·rename_i hi
     simp[hi] at hb
  try rw[e]
  refine(KM d σ S i v w h hb).mono ?_
  rintro e w' ⟨rfl,rfl⟩
  exact⟨rfl,S,h,Step.refl _ _⟩
theorem IJ (d:Nat)(σ:Dk)(S:Nat->Prop)(w:World)(h:rD w S d σ)(hd:σ.dead=true):
  Calls Tryz.prog 16 #[.pointer (some ⟨d,0,none⟩)] w fun e w'=>e= .returned (.int .i64 10)/\w'=w:=by
 obtain⟨gs,wv,h⟩:=h
 have hck:=mX d σ S gs wv 0 w h
 rw[show σ.bad 0=10 by simp[Dk.bad,hd]] at hck
 have HCK:=ah hck;clear hck
 go_enter Tryz.func16,Tryz.ntmps16
 go_wp2_with (first
  |(go_at_call 53;go_must (refine HCK.out.mono ?_;rintro e w1 ⟨rfl,hw⟩;subst w1)))
 go_ret
 exact⟨rfl,rfl⟩
theorem II (d:Nat)(σ:Dk)(S:Nat->Prop)(w:World)(h:rD w S d σ)(hd:σ.dead=false)(hbd:σ.fF.dead=true):
  Calls Tryz.prog 16 #[.pointer (some ⟨d,0,none⟩)] w fun e w'=>e= .returned (.int .i64 10)/\rD w' S d σ.fF/\Step S S w w':=by
 obtain⟨gs,wv,h⟩:=h
 have hck:=mX d σ S gs wv 0 w h
 rw[show σ.bad 0=0 by have:=h.ok.lo;unfold Dk.bad;rw[hd];simp;omega] at hck
 have HCK:=ah hck;clear hck
 have hburn:=zq d σ S gs wv w h hd
 rw[hbd] at hburn
 have HB:=ah hburn;clear hburn
 have HS:=ah h.sd
 have hnot:∀(x:Bool) (w:World),(Op.unary .not (.bool x)).run Tryz.prog w= .ok (.bool (!x)) w:=fun _ _=>rfl
 go_enter Tryz.func16,Tryz.ntmps16
 go_wp2_with (first
  |(go_at_call 53;go_must (refine HCK.out.mono ?_;rintro e w1 ⟨rfl,hw⟩;subst w1))
  |(go_at_call 54;go_must (refine HB.out.mono ?_;rintro e w1 ⟨rfl,hD1,hk1⟩)))
 go_ret
 exact⟨rfl,⟨gs,wv,hD1⟩,hk1.mono (fun _ _ e=>e▸HS.out),fun _ hg=> .inl hg⟩
theorem FQ (d:Nat)(σ:Dk)(S:Nat->Prop)(w:World)(h:rD w S d σ)(hcap:σ.waits.length<=1000000):
  Calls Tryz.prog 16 #[.pointer (some ⟨d,0,none⟩)] w fun e w'=>e= .returned (.int .i64 σ.sync.2)/\rD w' S d σ.sync.1/\Step S S w w':=by
 cases hd:σ.dead with
 |true=>
  have e:σ.sync=(σ,10):=by simp[Dk.sync,hd]
  try rw[e]
  refine(IJ d σ S w h hd).mono ?_
  rintro e w' ⟨rfl,rfl⟩
  exact⟨rfl,h,Step.refl _ _⟩
 |false=>
  cases hbd:σ.fF.dead with
  |true=>
   have e:σ.sync=(σ.fF,10):=by simp[Dk.sync,hd,hbd]
   try rw[e]
   exact II d σ S w h hd hbd
  |false=>
   have e:σ.sync=(σ.fF.flush,0):=by simp[Dk.sync,hd,hbd]
   try rw[e]
   obtain⟨gs,wv,h⟩:=h
   refine(NH d σ S gs wv w h hd hbd hcap).mono ?_
   rintro e w' ⟨rfl,h1,h2⟩
   exact⟨rfl,⟨gs,_,h1⟩,h2⟩
def Dk.new (n:Nat):Dk:=⟨n,fun _=>zB,[],-1,false⟩
def jI (n:Int):Nat:=if n<1 then 1 else if 4096<n then 4096 else n.toNat
theorem ED (n:Int):1<=jI n/\jI n<=4096:=by unfold jI;split;omega;split<;>omega
theorem Iq:(Tryz.prog.info? 111).map (fun i=>(i.zero,i.size,i.bytes))=some (some (.agg (aI zB).toArray),512,512):=by kernel_rfl
theorem FE (w:World)(n:Nat)(hn:n<=4096):(Instr.makeSlice 79 (.int .i64 n) (.int .i64 n)).run Tryz.prog w= .ok (.slice (some ⟨w.heap.size,0,none⟩) n n) (w.alloc (.cells (madeCells (aI zB).toArray (n*512)) 111)):=by
 obtain⟨i,hi,hz,hsize,hby⟩:=uh Iq
 have:=run_make (P:=Tryz.prog) (w:=w) 79 111 i _ Tryz.underlying79 hi hz .i64 .i64 n n (by omega) (by omega) (by rw[hby];omega) (by omega)
 rw[this,hsize]
 simp only[fw]
 rfl
theorem Kq (w:World)(g n i:Nat)(hi:i<n)(h:w.heap[g]? =some (.cells (madeCells (aI zB).toArray (n*512)) 111 (0,0))):w.rangeAt g (i*512) (aI zB):=fun j v hv=>by
 have hj:=(cu.1 hv).1
 rw[bL,iM] at hj
 have hz:(aI zB).toArray.size=512:=by rw[nH,bL,iM]
 have hlt:i*512+j<n*512:=by omega
 have e1:(i*512+j)%512=j:=by omega
 have e2:(madeCells (aI zB).toArray (n*512))[i*512+j]? =some v:=by
  unfold madeCells
  rw[hz]
  simp only[Array.getElem?_map,Array.getElem?_range,hlt,iI,iB,e1]
  rw[<-hv]
  simp only[List.getElem!_toArray,List.getElem!_eq_getElem?_getD,hv,Us]
 rw[zC w g (i*512+j) _ 111 (0,0) h]
 exact e2
theorem TU (n:Int)(w:World):
  Calls Tryz.prog 8 #[.int .i64 n] w fun e w'=>∃d S,e= .returned (.pointer (some ⟨d,0,none⟩))/\rD w' S d (Dk.new (jI n))/\Below w.heap.size w w'/\∀g,S g->w.heap.size<=g:=by
 have hmk:=FE w (jI n) (ED n).2
 have hbd:=ED n
 have fin:∀w2:World,w2.heap[w.heap.size]? =some (.cells (madeCells (aI zB).toArray (jI n*512)) 111 (0,0))->w2.heap[w.heap.size+1]? =some (.cells #[.slice (some ⟨w.heap.size,0,none⟩) (jI n) (jI n),.slice none 0 0,.int .i64 (-1),.bool false] 82 (0,0))->
   rD w2 (fun g=>g=w.heap.size\/g=w.heap.size+1) (w.heap.size+1) (Dk.new (jI n)):=fun w2 h1 h2=>by
  refine⟨w.heap.size,.slice none 0 0,⟨hbd.1,hbd.2,fun _=>iM,(fun p hp=>by cases hp),(by decide:(-1:Int)<=-1/\(-1:Int)<=9223372036854775807)⟩,?_,.inr rfl,.inl rfl,by omega,h2,⟨_,h1,?_⟩,fun i hi=>Kq w2 _ _ i hi h1,aQ.nil _ _ _ _ _,(fun y hy=>by cases hy)⟩
  ·rintro g (rfl|rfl)
   ·exact(aj.1 h1).1
   ·exact(aj.1 h2).1
  ·simp[madeCells,Dk.new]
 have HF:=ah fin;clear fin
 generalize madeCells (aI zB).toArray (jI n*512)=C at hmk HF
 have close:Below w.heap.size w ((w.alloc (.cells C 111)).alloc (.cells #[.slice (some ⟨w.heap.size,0,none⟩) (jI n) (jI n),.slice none 0 0,.int .i64 (-1),.bool false] 82))/\
   rD ((w.alloc (.cells C 111)).alloc (.cells #[.slice (some ⟨w.heap.size,0,none⟩) (jI n) (jI n),.slice none 0 0,.int .i64 (-1),.bool false] 82)) (fun g=>g=w.heap.size\/g=w.heap.size+1) (w.heap.size+1) (Dk.new (jI n)):=by
  have hb:=ic w (.cells C 111) (.cells #[.slice (some ⟨w.heap.size,0,none⟩) (jI n) (jI n),.slice none 0 0,.int .i64 (-1),.bool false] 82)
  refine⟨hb,HF.out _ ?_ ?_⟩
  ·exact(qd _ _ _ (by simp)).trans (bD w _)
  ·have:=bD (w.alloc (.cells C 111)) (.cells #[.slice (some ⟨w.heap.size,0,none⟩) (jI n) (jI n),.slice none 0 0,.int .i64 (-1),.bool false] 82)
   rwa [aS] at this
 have HC:=ah close;clear close HF
 by_cases h1:n<1
 ·have e:jI n=1:=by simp[jI,h1]
  rw[e] at hmk HC
  simp only[Int.natCast_one] at hmk
  have h2:n<=1:=by omega
  clear hbd
  go_enter Tryz.func8,Tryz.ntmps8
  go_wp2_with fail
  go_ret
  try rw[e]
  exact⟨_,_,rfl,HC.out.2,HC.out.1,fun g hg=>by rcases hg with rfl|rfl<;>omega⟩
 ·by_cases h2:4096<n
  ·have e:jI n=4096:=by simp[jI,h1,h2]
   rw[e] at hmk HC
   have hmk2:(Instr.makeSlice 79 (.int .i64 4096) (.int .i64 4096)).run Tryz.prog w= .ok (.slice (some ⟨w.heap.size,0,none⟩) 4096 4096) (w.alloc (.cells C 111)):=hmk
   have h3:1<=n:=by omega
   have h4:¬n<=1:=by omega
   have h5:4096<=n:=by omega
   clear hbd hmk
   go_enter Tryz.func8,Tryz.ntmps8
   go_wp2_with fail
   go_ret
   try rw[e]
   exact⟨_,rfl,_,HC.out.2,HC.out.1,fun g hg=>by rcases hg with rfl|rfl<;>omega⟩
  ·obtain⟨m,rfl⟩:∃m:Nat,n=m:=⟨n.toNat,by omega⟩
   have e:jI (m:Int)=m:=by unfold jI;rw[if_neg h1,if_neg h2,fw]
   rw[e] at hmk HC
   have h3:(1:Int)<=(m:Int):=by omega
   have h5:(m:Int)<=4096:=by omega
   have h6:1<=m:=by omega
   have h7:m<=4096:=by omega
   clear hbd
   go_enter Tryz.func8,Tryz.ntmps8
   go_wp2_with fail
   go_ret
   try rw[e]
   exact⟨_,rfl,_,HC.out.2,HC.out.1,fun g hg=>by rcases hg with rfl|rfl<;>omega⟩
end Go.Proofs.YtogbkgmlhhahdaaGreat
