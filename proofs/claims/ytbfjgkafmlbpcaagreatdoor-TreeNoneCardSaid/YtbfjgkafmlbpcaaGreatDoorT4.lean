/- parts -/
import Derived.Test.YtbfjgkafmlbpcaaGreatDoorT1
import Derived.Test.YtbfjgkafmlbpcaaGreatDoorT2
import Derived.Test.YtbfjgkafmlbpcaaGreatDoorT3
import Derived.Deep.MidRow
import Derived.Great.BuildSlice
import Derived.Defers
import Derived.Laws.LoneSync
import Derived.RegionCalls
set_option maxRecDepth 100000
set_option maxHeartbeats 8000000
set_option linter.all false
namespace Go.Proofs.YtbfjgkafmlbpcaaGreatDoor
open Go.RowKit
theorem Row.range {w:World}{g e off n:Nat}{cur cs:List Value}(h:Row w g e cur)(hc:(cur.drop off).take n=cs):w.rangeAt g off cs:=fun j v hv=>by
 rw[h.cell]
 rw[<-hc,jd] at hv
 split at hv
 ·simpa using hv
 ·cases hv
theorem Row.whole {w:World}{g e:Nat}{cs:List Value}(h:Row w g e cs):w.rangeAt g 0 cs:=fun j v hv=>by
 rw[h.cell,eG];exact hv
theorem Row.new (w:World)(cs:List Value)(e:Nat):Row (w.alloc (.cells cs.toArray e)) w.heap.size e cs:=aK w _
section
variable {P:Program} {a:Act} {w:World} {K:Act->World->Prop} {Q:Exit->Act->World->Prop} {o:Oper}
theorem iT (t:TypeId)(ho:o.op= .alloc t)(cs:List Value)(hz:∀w,(zeroValue t).run P w= .ok (.agg cs.toArray) w)
  (h:K (a.put o.dst (.pointer (some ⟨w.heap.size,0,none⟩))) (w.alloc (.cells cs.toArray t))):o.wp P a w K Q:=by
 unfold Oper.wp execOp
 have hr:(Instr.alloc t true (.tuple #[])).run P w= .ok (.pointer (some ⟨w.heap.size,0,none⟩)) (w.alloc (.cells cs.toArray t)):=by
  simp[Instr.alloc,hz,newVar,newRow,Value.cells]
 simp only[ho,jG,hr,gL]
 exact h
theorem zX (t:TypeId)(x:Operand)(ho:o.op= .box t x)(cs:List Value)(hx:a.eval x= .agg cs.toArray)
  (h:K (a.put o.dst (.pointer (some ⟨w.heap.size,0,none⟩))) (w.alloc (.cells cs.toArray t))):o.wp P a w K Q:=by
 unfold Oper.wp execOp
 have hr:(Instr.box t (.agg cs.toArray)).run P w= .ok (.pointer (some ⟨w.heap.size,0,none⟩)) (w.alloc (.cells cs.toArray t)):=by
  simp[Instr.box,newVar,newRow,Value.cells]
 simp only[ho,hx,jG,hr,gL]
 exact h
theorem wC (t:TypeId)(parts:Array (Nat×Operand))(ho:o.op= .build t parts)(cs:List Value)(hf:P.built t (parts.map fun (i,x)=>(i,a.eval x)).toList=some cs.toArray)
  (h:K (a.put o.dst (.agg cs.toArray)) w):o.wp P a w K Q:=by
 unfold Oper.wp execOp
 simp only[ho,jG,run_build w t _ cs.toArray hf,gL]
 exact h
theorem zy {g off e:Nat}{cur:List Value}(hr:Row w g e cur)(ty:TypeId)(cs:List Value)(hi:(P.info? ty).map (·.size)=some cs.length)(hfit:off+cs.length<=cur.length)(h1:∀v∈cs,v.oneCell'=true):
  ∃w',(Instr.storeAt ty (.pointer (some ⟨g,off,none⟩)) (.agg cs.toArray)).run P w= .ok () w'/\Row w' g e (splice cur off cs)/\Keep (· =g) w w':=by
 obtain⟨w',hst,h2,h3⟩:=ng (P:=P) hr cs hfit h1
 refine⟨w',?_,h2,h3⟩
 cases hq:P.info? ty with
 |none=>simp[hq] at hi
 |some i=>
  have hs:i.size=cs.length:=by simpa [hq] using hi
  simp[Instr.storeAt,Instr.sureAddr,storeVar,sizeOf,typeInfo,hq,Value.cells,hs,hst]
theorem wp_store_row (ty:TypeId)(x y:Operand)(ho:o.op= .store ty x y)(g off e:Nat)(cur cs:List Value)(hx:a.eval x= .pointer (some ⟨g,off,none⟩))(hy:a.eval y= .agg cs.toArray)
  (hr:Row w g e cur) (hi:(P.info? ty).map (·.size)=some cs.length) (hfit:off+cs.length<=cur.length) (h1:∀v∈cs,v.oneCell'=true)
  (h:∀w',Row w' g e (splice cur off cs)->Keep (· =g) w w'->K (a.put o.dst undef) w'):o.wp P a w K Q:=by
 obtain⟨w',hst,h2,h3⟩:=zy (P:=P) hr ty cs hi hfit h1
 unfold Oper.wp execOp
 simp only[ho,hx,hy,jG,hst,gL]
 exact h w' h2 h3
theorem qi (t e:TypeId)(y:Operand)(ho:o.op= .buildSlice t 1 #[(0,y)])(k:Nat)(cs:List Value)(hy:a.eval y= .agg cs.toArray)(hl:cs.length=k)(hk:0<k)(hk2:k<=16777216)
  (hu:P.underlying t=some (.slice e)) (hi:(P.info? e).map (·.size)=some k) (hz:((P.info? e).bind (·.zero)).isSome=true)
  (h:K (a.put o.dst (.slice (some ⟨w.heap.size,0,none⟩) 1 1)) (w.alloc (.cells cs.toArray e))):o.wp P a w K Q:=by
 cases hie:P.info? e with
 |none=>simp[hie] at hi
 |some ie=>
  simp only[hie,fC,BD,Option.bind_some] at hi hz
  obtain⟨z,hzz⟩:=Option.isSome_iff_exists.1 hz
  refine wp_buildSlice t e 1 _ ho cs.toArray ie z hu hie hzz (by rw[hi];omega) (by rw[hi];omega) ?_ h
  have:=Great.fill_whole (s:=k) hk [Value.agg cs.toArray] ((Array.range (1*ie.size)).map (z.cells[· %z.cells.size]!)) (by intro v hv;rw[bK.1 hv];simp[Value.cells,hl]) (by simp[hi])
  rw[hi]
  rw[hi] at this
  simpa [hy,Value.cells] using this
theorem l9 {W:World}(ty:TypeId)(x:Operand)(ho:o.op= .load ty x)(g off:Nat)(hx:a.eval x= .pointer (some ⟨g,off,none⟩))(cs:List Value)(d:TypeDesc)(hc:W.rangeAt g off cs)
  (hu:P.underlying ty=some d) (hd:d.isRow=true) (hi:(P.info? ty).map (·.size)=some cs.length):(execOp a.eval o).run P W= .ok (.value (.agg cs.toArray)) W:=by
 unfold execOp
 simp only[ho,hx,Instr.loadAt,Instr.sureAddr,jG,qg,gL,run_loadVar_mid W g off ty cs d hc hu hd hi]
end
theorem Ih (p:Nat×List UInt8):∀v∈(Value.int .i64 (p.1:Int)::aD p.2),v.oneCell'=true:=by
 intro v hv
 rcases bM.1 hv with rfl|hv
 ·rfl
 ·exact gQ _ v hv
def Rn (x:Int):Int:=if (bits .and .u32 x 1==1)=true then bits .xor .u32 (x/2) 2197175160 else x/2
def NE:Nat->Int->Int
 |0,x=>x
 |k+1,x=>Rn (NE k x)
def zT (x:Int):Int:=NE 8 x
theorem Ga (x:Int)(w:World):
  Calls Tryz.prog 241 #[.int .u32 x] w fun e w'=>e= .returned (.int .u32 (zT x))/\w'=w:=by
 go_enter Tryz.func241,Tryz.ntmps241
 go_wp2_with fail
 go_loop [0,4] (fun r i=>∃k:Nat,k<=8/\i= .int .i64 k/\r= .int .u32 (NE k x)) (fun _ i=>8 - (intOf i).toNat)
 case atStart=>exact⟨0,by omega,rfl,rfl⟩
 case round=>
  obtain⟨k,hk,rfl,rfl⟩:=hrel
  by_cases h8:k<8
  ·have h8':(k:Int)<8:=by omega
   obtain⟨y,hy⟩:∃y,y=NE k x:=⟨_,rfl⟩
   have HY:=af hy
   rw[<-hy]
   clear hy
   go_wp2_with fail
   all_goals
    rename_i hb
    have HB:=af hb;clear hb
    go_round
    case rel=>exact⟨k+1,by omega,by go_num,by rw[show NE (k+1) x=Rn y by rw[HY.out];rfl];unfold Rn;rw[HB.out];rfl⟩
    case measure=>simp[intOf];omega
  ·obtain rfl:k=8:=by omega
   go_wp2_with fail
   go_ret
   exact⟨rfl,rfl⟩
theorem zW (n:Int):0<=IntKind.u32.wrap n/\IntKind.u32.wrap n<4294967296:=by rw[IntKind.wrap_u32];omega
theorem tX (op:BinOp)(x y:Int):0<=bits op .u32 x y/\bits op .u32 x y<4294967296:=by
 unfold bits
 split<;>exact zW _
theorem Row.setCell {w:World}{g e:Nat}{cur:List Value}(h:Row w g e cur)(j:Nat)(v:Value):Row (w.setCell ⟨g,j,none⟩ v) g e (cur.set j v):=by
 unfold Row at*
 rw[iP w g j _ _ _ h]
 simp
theorem ET (cur cs:List Value)(off:Nat)(v:Value)(h:off+cs.length<cur.length):(splice cur off cs).set (off+cs.length) v=splice cur off (cs++[v]):=by
 unfold splice
 have hl:(cur.take off).length=off:=by rw[aC];omega
 rw[gW _ _ (by omega),hl,dH,gW _ _ (ax _),xZ,av,eB,aL]
 congr 2
 rw[cO h,au,<-lY]
 rfl
def Ac (i:Nat):Value:= .int .u32 (zT (i:Int))
def kN:List Value:=(List.range 256).map Ac
theorem lC:kN.length=256:=by unfold kN;rw[kJ,List.length_range]
theorem yT (k:Nat)(hk:k<256):kN[k]? =some (Ac k):=by unfold kN;rw[dM,LB hk];rfl
theorem Dx (k:Nat)(hk:k<256):kN.take (k+1)=kN.take k++[Ac k]:=by
 have h:=yT k hk
 rw[List.take_add_one,h];rfl
theorem Nv (b o T:Nat)(cur:List Value)(w:World)(hr:Row w b T cur)(hl:o+260<=cur.length):
  Calls Tryz.prog 193 #[.pointer (some ⟨b,o,none⟩)] w fun e w'=>e= .returned (.tuple #[])/\Row w' b T (splice cur (o+3) kN)/\Keep (· =b) w w':=by
 have HR:=af hr;clear hr
 go_enter Tryz.func193,Tryz.ntmps193
 go_wp2_with fail
 go_loopw [3] (fun i wr=>∃k:Nat,k<=256/\i= .int .i64 k/\Row wr b T (splice cur (o+3) (kN.take k))/\Keep (· =b) w wr) (fun i _=>256 - (intOf i).toNat)
 case atStart=>exact⟨0,by omega,rfl,by rw[gP];unfold splice;simpa using HR.out,Keep.refl _ _⟩
 case round=>
  obtain⟨k,hk,rfl,hrow,hkeep⟩:=hrel
  by_cases h8:k<256
  ·have h8':(k:Int)<256:=by omega
   have hwr:IntKind.u32.wrap (k:Int)=(k:Int):=by rw[IntKind.wrap_u32];omega
   have htl:(kN.take k).length=k:=by rw[aC,lC];omega
   have hfit:o+3+k<(splice cur (o+3) (kN.take k)).length:=by
    unfold splice
    simp only[av,aC,aJ,lC]
    omega
   have hfr:∀j,wr.drew.frozen? ⟨b,j,none⟩=false:=fun j=>hrow.frozen j
   obtain⟨xv,hxv⟩:∃xv,wr.drew.cell? ⟨b,o+3+k,none⟩=some xv:=⟨_,(hrow.cell _).trans (bF hfit)⟩
   have hset:=hrow.setCell (o+3+k) (Ac k)
   have hsn:=ET cur (kN.take k) (o+3) (Ac k) (by rw[htl];omega)
   rw[htl,<-Dx k h8] at hsn
   rw[hsn] at hset
   have HS:=af hset;have HK:=af hkeep
   clear hset hsn hkeep hrow htl hfit HR
   go_wp2_with fail
   refine aN (fun W=>W=wr.drew) (fun i=> !([4,8].contains i)) [0,1,2,3,5,6,4,7,8] rfl (by kernel_rfl) rfl ?_
   repeat ((refine bL (v:= ?_) rfl rfl (fun _ _ _ h=>h) rfl (fun W hW=> ?_) ?_);rotate_left;(focus ((try dsimp only at hW);subst hW;(go_simp;first|done|with_reducible rfl)));(try simp only[Act.put,ai,au,aj]))
   refine dA rfl rfl rfl ?_;intro K hK;go_simp
   refine(Ga _ _).mono ?_;rintro e w4 ⟨rfl,hw4⟩;subst w4
   refine hK.out _ _ rfl ?_
   repeat ((refine bL (v:= ?_) rfl rfl (fun _ _ _ h=>h) rfl (fun W hW=> ?_) ?_);rotate_left;(focus ((try dsimp only at hW);subst hW;(go_simp;first|done|with_reducible rfl)));(try simp only[Act.put,ai,au,aj]))
   refine jf rfl rfl rfl (by kernel_rfl) ?_;intro K hK;go_simp
   refine hK.out _ _ ?_
   refine bO ?_
   go_wp2_with fail
   go_roundw
   case rel=>exact⟨k+1,by omega,by go_num,HS.out,(HK.out.drew).setCell (.inr rfl) _⟩
   case measure=>simp[intOf];omega
  ·obtain rfl:k=256:=by omega
   have hall:kN.take 256=kN:=aG (iV lC)
   rw[hall] at hrow
   have HRW:=af hrow;have HK:=af hkeep
   clear hrow hkeep hall
   go_wp2_with fail
   go_end0
   exact⟨rfl,HRW.out,HK.out⟩
theorem wP (w:World):(callFunc 326 #[]).run Tryz.prog w= .ok (.value (.tuple #[])) w:=run_call_mark0 Tryz.func326 (by kernel_rfl) (by kernel_rfl) (by kernel_rfl) .disable (by kernel_rfl) w
theorem yV (w:World):(callFunc 328 #[]).run Tryz.prog w= .ok (.value (.tuple #[])) w:=run_call_mark0 Tryz.func328 (by kernel_rfl) (by kernel_rfl) (by kernel_rfl) .enable (by kernel_rfl) w
theorem DT (a:Addr)(w:World):(callFunc 329 #[.pointer (some a)]).run Tryz.prog w= .ok (.value (.tuple #[])) w:=run_call_marked Tryz.func329 (by kernel_rfl) (by kernel_rfl) (by kernel_rfl) .acquire (by kernel_rfl) a w
theorem H9 (a:Addr)(w:World):(callFunc 331 #[.pointer (some a)]).run Tryz.prog w= .ok (.value (.tuple #[])) w:=run_call_marked Tryz.func331 (by kernel_rfl) (by kernel_rfl) (by kernel_rfl) .releaseMerge (by kernel_rfl) a w
theorem zF (a:Addr)(x:Value)(u:FrameMode)(w:World)(hc:w.cell? a=some x)(hz:w.frozen? a=false):
  CallsD Tryz.prog 277 #[.pointer (some a),.bool true] u w fun e u' w'=>u'=u/\(e= .returned (.tuple #[])/\w'=w.drew.setCell a (.int .u32 1)):=by
 have hc':w.drew.cell? a=some x:=by go_simp
 have hz':w.drew.frozen? a=false:=by go_simp
 have hst:=run_call_store (P:=Tryz.prog) Tryz.func310 (by kernel_rfl) (by kernel_rfl) (by kernel_rfl) (by kernel_rfl) (k:= .u32) (y:=1) hc' hz'
 go_enter_d Tryz.func277,Tryz.ntmps277
 go_wp2
 go_region_calls
 all_goals (go_end0;exact⟨rfl,rfl⟩)
theorem unlock_deferred (a:Addr)(u:FrameMode)(w:World)(hc:w.cell? a=some (.int .i32 1))(hz:w.frozen? a=false):
  CallsD Tryz.prog 276 #[.pointer (some a)] u w fun e u' w'=>u'=u/\(e= .returned (.tuple #[])/\w'=w.setCell a (.int .i32 0)):=by
 have hd:=wP
 have he:=yV
 have hr:=H9
 have hadd:=run_call_add (P:=Tryz.prog) Tryz.func332 (by kernel_rfl) (by kernel_rfl) (by kernel_rfl) .i32 (by kernel_rfl) (y:= -1) (s:=0) hc hz (by simp[go_sem];rfl)
 have hcv:=run_convert_to_unsafe (P:=Tryz.prog) (src:=456) (dst:=331) Tryz.underlying456 vI (by kernel_rfl) hc
 go_enter_d Tryz.func276,Tryz.ntmps276
 go_wp2
 go_end0
 go_wp2
 go_end0
 exact⟨rfl,rfl⟩
theorem lock_free (a:Addr)(w:World)(hc:w.cell? a=some (.int .i32 0))(hz:w.frozen? a=false):
  Calls Tryz.prog 275 #[.pointer (some a)] w fun e w'=>e= .returned (.tuple #[])/\w'=w.setCell a (.int .i32 1):=by
 have hd:=wP
 have he:=yV
 have ha:=DT
 have hcas:=run_call_cas_hit (P:=Tryz.prog) Tryz.func327 (by kernel_rfl) (by kernel_rfl) (by kernel_rfl) .i32 (by kernel_rfl) (y:=1) hc hz
 have hc':(w.setCell a (.int .i32 1)).cell? a=some (.int .i32 1):=World.cell?_setCell_same w a _ hc
 have hcv:=run_convert_to_unsafe (P:=Tryz.prog) (src:=456) (dst:=331) Tryz.underlying456 vI (by kernel_rfl) hc'
 go_enter Tryz.func275,Tryz.ntmps275
 go_wp2
 first|go_end0|(simp only[Exit.inBlock,Exit.then];refine eO (zK rfl _ _ _) rfl ?_)|refine eO (zK rfl _ _ _) rfl ?_
 go_wp2
 go_end0
 exact⟨rfl,rfl⟩
def zM:List Value:=List.replicate 256 (.int .u32 0)
theorem pz:zM.length=256:=by unfold zM;exact List.length_replicate
def R6 (dn:Bool):List Value:=if dn then kN else zM
theorem sI (dn:Bool):(R6 dn).length=256:=by cases dn;exact pz;exact lC
def nP (A:List Value)(d s:Value)(R:List Value)(c:Value)(B:List Value):List Value:=A++(d::s:: .int .u32 0::(R++(c::B)))
def jk (A:List Value)(dn:Bool)(c:Int)(B:List Value):List Value:=nP A (.int .u32 (if dn then 1 else 0)) (.int .i32 0) (R6 dn) (.int .i64 c) B
theorem Dy (A:List Value)(d s:Value)(R:List Value)(c:Value)(B:List Value):(nP A d s R c B)[A.length]? =some d:=by
 unfold nP;rw[bV (ax _),xZ];rfl
theorem Mk (A:List Value)(d s:Value)(R:List Value)(c:Value)(B:List Value):(nP A d s R c B)[A.length+1]? =some s:=by
 unfold nP;rw[bV (by omega),dH];rfl
theorem QF (A:List Value)(d s:Value)(R:List Value)(c:Value)(B:List Value)(k:Nat)(hk:k<R.length):(nP A d s R c B)[A.length+3+k]? =R[k]? :=by
 unfold nP
 rw[bV (by omega),show A.length+3+k - A.length=k+1+1+1 by omega,dS,dS,dS,fJ hk]
theorem QE (A:List Value)(d s:Value)(R:List Value)(c:Value)(B:List Value)(hR:R.length=256):(nP A d s R c B)[A.length+259]? =some c:=by
 unfold nP
 rw[bV (by omega),show A.length+259 - A.length=256+1+1+1 by omega,dS,dS,dS,bV (by omega),hR]
 rfl
theorem G6 (A:List Value)(d s:Value)(R:List Value)(c:Value)(B:List Value)(v:Value):(nP A d s R c B).set A.length v=nP A v s R c B:=by
 unfold nP;rw[gW _ _ (ax _),xZ];rfl
theorem Ad (A:List Value)(d s:Value)(R:List Value)(c:Value)(B:List Value)(v:Value):(nP A d s R c B).set (A.length+1) v=nP A d v R c B:=by
 unfold nP;rw[gW _ _ (by omega),dH];rfl
theorem G7 (A:List Value)(d s:Value)(R:List Value)(c:Value)(B:List Value)(v:Value)(hR:R.length=256):(nP A d s R c B).set (A.length+259) v=nP A d s R v B:=by
 unfold nP
 rw[gW _ _ (by omega),show A.length+259 - A.length=256+1+1+1 by omega,aj,aj,aj,gW _ _ (by omega),hR]
 rfl
theorem Ka (A:List Value)(d s:Value)(R R':List Value)(c:Value)(B:List Value)(h:R.length=R'.length):splice (nP A d s R c B) (A.length+3) R'=nP A d s R' c B:=by
 have e:∀R,nP A d s R c B=(A++[d,s,.int .u32 0])++(R++(c::B)):=fun R=>by unfold nP;simp
 rw[e,e]
 exact uE _ _ _ _ _ (by simp) h
theorem EM (A:List Value)(d s:Value)(R:List Value)(c:Value)(B:List Value):(nP A d s R c B).length=A.length+4+R.length+B.length:=by
 unfold nP;simp;omega
theorem Mt (A B:List Value)(b o T:Nat)(c:Int)(w:World)(ho:A.length=o)(hr:Row w b T (jk A false c B)):
  Calls Tryz.prog 227 #[.pointer (some ⟨b,o,none⟩),.func (.func 193) #[.pointer (some ⟨b,o,none⟩)] #[]] w fun e w'=>e= .returned (.tuple #[])/\Row w' b T (jk A true c B)/\Keep (· =b) w w':=by
 subst ho
 have hr':Row w b T (nP A (.int .u32 0) (.int .i32 0) zM (.int .i64 c) B):=hr
 have hr1:=hr'.setCell (A.length+1) (.int .i32 1)
 rw[Ad] at hr1
 have h0:w.cell? ⟨b,A.length,none⟩=some (.int .u32 0):=(hr'.cell _).trans (Dy ..)
 have h1:w.cell? ⟨b,A.length+1,none⟩=some (.int .i32 0):=(hr'.cell _).trans (Mk ..)
 have f0:w.frozen? ⟨b,A.length,none⟩=false:=hr'.frozen _
 have f1:w.frozen? ⟨b,A.length+1,none⟩=false:=hr'.frozen _
 have hl:=run_call_load (P:=Tryz.prog) Tryz.func274 (by kernel_rfl) (by kernel_rfl) (by kernel_rfl) .u32 (by kernel_rfl) (w:=w.setCell ⟨b,A.length+1,none⟩ (.int .i32 1)) (a:=⟨b,A.length,none⟩) (x:=0) ((World.cell?_setCell_other _ ⟨b,A.length+1,none⟩ ⟨b,A.length,none⟩ _ (by simp)).trans h0)
 have hfl:=Nv b A.length T _ _ hr1 (by rw[EM,pz];omega)
 rw[Ka _ _ _ _ _ _ _ (by rw[pz,lC])] at hfl
 have HFL:=af hfl;clear hfl
 have HK:=af ((Keep.refl (· =b) w).setCell (p:=⟨b,A.length+1,none⟩) (.inr rfl) (.int .i32 1))
 have hnot:∀(x:Bool) (w:World),(Op.unary .not (.bool x)).run Tryz.prog w= .ok (.bool (!x)) w:=fun _ _=>rfl
 clear hr hr' hr1
 go_enter_defers Tryz.func227,Tryz.ntmps227
 go_wp2_with (go_at_call 275;refine(lock_free ⟨b,A.length+1,none⟩ _ (by go_simp) (by go_simp)).mono ?_;rintro e w' ⟨rfl,rfl⟩)
 go_wp2_with (go_at_call 226;go_in)
 refine HFL.out.mono ?_
 rintro e w2 ⟨rfl,hr2,hk2⟩
 have h20:w2.cell? ⟨b,A.length,none⟩=some (.int .u32 0):=(hr2.cell _).trans (Dy ..)
 have f20:w2.frozen? ⟨b,A.length,none⟩=false:=hr2.frozen _
 have hr3:Row (w2.drew.setCell ⟨b,A.length,none⟩ (.int .u32 1)) b T (nP A (.int .u32 1) (.int .i32 1) kN (.int .i64 c) B):=by
  have:=Row.setCell (w:=w2.drew) hr2 A.length (.int .u32 1)
  rwa [G6] at this
 have h31:(w2.drew.setCell ⟨b,A.length,none⟩ (.int .u32 1)).cell? ⟨b,A.length+1,none⟩=some (.int .i32 1):=(hr3.cell _).trans (Mk ..)
 have f31:(w2.drew.setCell ⟨b,A.length,none⟩ (.int .u32 1)).frozen? ⟨b,A.length+1,none⟩=false:=hr3.frozen _
 have hr4:=hr3.setCell (A.length+1) (.int .i32 0)
 rw[Ad] at hr4
 have HR4:=af hr4
 have HK4:=af ((((Keep.refl (· =b) w2).drew).setCell (p:=⟨b,A.length,none⟩) (.inr rfl) (.int .u32 1)).setCell (p:=⟨b,A.length+1,none⟩) (.inr rfl) (.int .i32 0))
 have HK2:=af hk2
 clear hr2 hr3 hr4 hk2
 go_wp2_with fail
 refine jN (f:=277) (args:=#[.pointer (some ⟨b,A.length,none⟩),.bool true]) (by simp) (by simp[go_sem]) ?_
 refine(zF ⟨b,A.length,none⟩ (.int .u32 0) .returning _ h20 f20).mono ?_
 rintro e u' w'' ⟨rfl,rfl,rfl⟩
 refine jN (f:=276) (args:=#[.pointer (some ⟨b,A.length+1,none⟩)]) (by simp[settle]) (by simp[go_sem]) ?_
 refine(unlock_deferred ⟨b,A.length+1,none⟩ _ _ h31 f31).mono ?_
 rintro e u' w'' ⟨rfl,rfl,rfl⟩
 simp[Leaves,settle,results,Tryz.results227]
 exact⟨HR4.out,(HK.out.trans HK2.out (fun _ _ e=>e)).trans HK4.out (fun _ _ e=>e)⟩
theorem Rm (A B:List Value)(b o T:Nat)(dn:Bool)(c:Int)(w:World)(ho:A.length=o)(hr:Row w b T (jk A dn c B)):
  Calls Tryz.prog 185 #[.pointer (some ⟨b,o,none⟩),.func (.func 193) #[.pointer (some ⟨b,o,none⟩)] #[]] w fun e w'=>e= .returned (.tuple #[])/\Row w' b T (jk A true c B)/\Keep (· =b) w w':=by
 subst ho
 have hnot:∀(x:Bool) (w:World),(Op.unary .not (.bool x)).run Tryz.prog w= .ok (.bool (!x)) w:=fun _ _=>rfl
 cases dn with
 |false=>
  have h0:w.cell? ⟨b,A.length,none⟩=some (.int .u32 0):=(hr.cell _).trans (Dy ..)
  have hl:=run_call_load (P:=Tryz.prog) Tryz.func274 (by kernel_rfl) (by kernel_rfl) (by kernel_rfl) .u32 (by kernel_rfl) h0
  have HS:=af (Mt A B b A.length T c w rfl hr)
  clear hr
  go_enter Tryz.func185,Tryz.ntmps185
  go_wp2_with (first|(go_at_call 227;refine HS.out.mono ?_;rintro e w' ⟨rfl,hr',hk'⟩)|(go_at_call 226;go_in))
  go_end0
  exact⟨rfl,hr',hk'⟩
 |true=>
  have h0:w.cell? ⟨b,A.length,none⟩=some (.int .u32 1):=(hr.cell _).trans (Dy ..)
  have hl:=run_call_load (P:=Tryz.prog) Tryz.func274 (by kernel_rfl) (by kernel_rfl) (by kernel_rfl) .u32 (by kernel_rfl) h0
  go_enter Tryz.func185,Tryz.ntmps185
  go_wp2_with (go_at_call 226;go_in)
  go_end0
  exact⟨rfl,hr,Keep.refl _ _⟩
def Ef (r:Int)(b:UInt8):Int:=bits .xor .u32 (zT (bits .xor .u8 (r%256) (b.toNat:Int))) (r/256)
def tO (l:List UInt8):Int:=l.foldl Ef 4294967295
def vS (l:List UInt8):Int:=bits .xor .u32 4294967295 (tO l)
theorem zi (l:List UInt8)(b:UInt8):tO (l++[b])=Ef (tO l) b:=by simp[tO]
theorem xJ (l:List UInt8):0<=vS l/\vS l<4294967296:=tX _ _ _
theorem BN (n:Int):0<=IntKind.u8.wrap n/\IntKind.u8.wrap n<256:=by rw[yQ];omega
theorem Cg (op:BinOp)(x y:Int):0<=bits op .u8 x y/\bits op .u8 x y<256:=by
 unfold bits
 split<;>exact BN _
theorem Ee (l:List UInt8):0<=tO l/\tO l<4294967296:=by
 rcases List.eq_nil_or_concat l with rfl|⟨l',b,rfl⟩
 ·decide
 ·rw[List.concat_eq_append,zi];exact tX _ _ _
theorem add_one (b o:Nat)(c c':Int)(w:World)(hc:w.cell? ⟨b,o,none⟩=some (.int .i64 c))(hz:w.frozen? ⟨b,o,none⟩=false)(h:Hid (IntKind.i64.wrap (c+1)=c')):
  Calls Tryz.prog 194 #[.pointer (some ⟨b,o,none⟩),.int .i64 1] w fun e w'=>e= .returned (.int .i64 c')/\w'=w.setCell ⟨b,o,none⟩ (.int .i64 c'):=by
 have hadd:=run_call_add (P:=Tryz.prog) Tryz.func242 (by kernel_rfl) (by kernel_rfl) (by kernel_rfl) .i64 (by kernel_rfl) (y:=1) (s:=c') hc hz (by simp[go_sem];exact h.out)
 go_enter Tryz.func194,Tryz.ntmps194
 go_wp2
 go_ret
 exact⟨rfl,rfl⟩
theorem Jd (A B:List Value)(b o T:Nat)(dn:Bool)(c:Int)(v:Value)(l:List UInt8)(S:Nat->Prop)(w:World)(ho:A.length=o)(hr:Row w b T (jk A dn c B))(hv:bn w S 1 v l.length (aD l))(hS:S b):
  Calls Tryz.prog 141 #[.pointer (some ⟨b,o,none⟩),v] w fun e w'=>e= .returned (.int .u32 (vS l))/\∃c',Row w' b T (jk A true c' B)/\Keep (· =b) w w':=by
 subst ho
 have HDo:=af (Rm A B b A.length T dn c w rfl hr)
 obtain⟨vo,vc,rfl,v1,v2,v3,v4⟩:=bn.form hv
 clear hr
 have HV:=af hv;clear hv v3 v4
 have hmf:∀(fn:Fn) (first cap:Array Value) (w:World),(Instr.makeFunc fn first cap).run Tryz.prog w= .ok (.func fn first cap) w:=fun _ _ _ _=>rfl
 go_enter Tryz.func141,Tryz.ntmps141
 go_wp2_with (first
  |(go_at_call 185;go_must (refine HDo.out.mono ?_;rintro e w1 ⟨rfl,hr1,hk1⟩;refine Stop.of ?_)))
 refine Stop.on ?_
 have hc1:w1.cell? ⟨b,A.length+259,none⟩=some (.int .i64 c):=(hr1.cell _).trans (QE _ _ _ _ _ _ (sI _))
 have hz1:w1.frozen? ⟨b,A.length+259,none⟩=false:=hr1.frozen _
 obtain⟨c',HC⟩:∃c',Hid (IntKind.i64.wrap (c+1)=c'):=⟨_,af rfl⟩
 have HA:=af (add_one b (A.length+259) c c' w1 hc1 hz1 HC)
 have hr2:=hr1.setCell (A.length+259) (.int .i64 c')
 rw[show (jk A true c B).set (A.length+259) (.int .i64 c')=jk A true c' B from G7 _ _ _ _ _ _ _ (sI _)] at hr2
 have hk2:Keep (· =b) w (w1.setCell ⟨b,A.length+259,none⟩ (.int .i64 c')):=hk1.setCell (.inr rfl) _
 clear hr1 hk1 hc1 hz1
 go_wp2_with (first
  |(go_at_call 194;go_must (refine HA.out.mono ?_;rintro e w2 ⟨rfl,hw2⟩;rw[<-hw2] at hr2 hk2;clear hw2;refine Stop.of ?_)))
 refine Stop.on ?_
 have hvs:bn w2 gJ 1 (.slice vo l.length vc) l.length (aD l):=HV.out.keep fun g hg hl hs=>⟨hk2.block g hl (fun e=>hs (e▸hS)),id⟩
 have HVS:=af hvs;have HR2:=af hr2;have HK2:=af hk2
 clear hvs hk2 HA HC HDo HV
 go_wp2_with fail
 go_loop [5,24] (fun r i=>∃k:Nat,k<=l.length/\i= .int .i64 k/\r= .int .u32 (tO (l.take k))) (fun _ i=>l.length - (intOf i).toNat)
 case atStart=>exact⟨0,bf _,rfl,rfl⟩
 case round=>
  obtain⟨k,hk,rfl,rfl⟩:=hrel
  by_cases hlt:k<l.length
  ·have hltI:(k:Int)<(l.length:Int):=by omega
   obtain⟨vb,vq,rfl,hcv⟩:=bn.Bt HVS.out rfl k (.int .u8 (l[k].toNat:Int)) (by simp[aD,hlt])
   obtain⟨r,HRr⟩:∃r,Hid (tO (l.take k)=r):=⟨_,af rfl⟩
   have hrr:0<=r/\r<4294967296:=by rw[<-HRr.out];exact Ee _
   rw[HRr.out]
   have hix:=Cg .xor (r%256) (l[k].toNat:Int)
   obtain⟨q,HQ⟩:∃q:Nat,Hid (bits .xor .u8 (r%256) (l[k].toNat:Int)=(q:Int)):=⟨(bits .xor .u8 (r%256) (l[k].toNat:Int)).toNat,af (by omega)⟩
   have hq:q<256:=by have:=HQ.out;omega
   have hrw:w2.cell? ⟨b,A.length+3+q,none⟩=some (.int .u32 (zT (q:Int))):=by
    rw[HR2.out.cell]
    exact(QF _ _ _ _ _ _ q (by rw[sI];exact hq)).trans (yT q hq)
   have hQ:=HQ.out
   clear hr2 hix
   go_wp2_with fail
   clear hQ
   go_round
   case rel=>exact⟨k+1,by omega,by go_num,by rw[aQ hlt,zi,HRr.out];unfold Ef;rw[HQ.out]⟩
   case measure=>simp[intOf];omega
  ·obtain rfl:k=l.length:=by omega
   rw[dF]
   go_wp2_with fail
   go_ret
   exact⟨rfl,⟨c',HR2.out⟩,HK2.out⟩
end Go.Proofs.YtbfjgkafmlbpcaaGreatDoor
