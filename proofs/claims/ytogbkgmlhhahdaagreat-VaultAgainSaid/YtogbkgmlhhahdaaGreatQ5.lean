/- parts -/
import Derived.Test.YtogbkgmlhhahdaaGreatQ2
import Derived.Test.YtogbkgmlhhahdaaGreatQ4
import Derived.Defers
import Derived.Laws.LoneSync
import Derived.RegionCalls
set_option maxRecDepth 100000
set_option maxHeartbeats 8000000
set_option linter.all false
namespace Go.Proofs.YtogbkgmlhhahdaaGreat
open Go.RowKit
def TW (x:Int):Int:=if (bits .and .u32 x 1==1)=true then bits .xor .u32 (x/2) 2197175160 else x/2
def Qq:Nat->Int->Int
 |0,x=>x
 |k+1,x=>TW (Qq k x)
def Bj (x:Int):Int:=Qq 8 x
theorem IQ (x:Int)(w:World):
  Calls Tryz.prog 199 #[.int .u32 x] w fun e w'=>e= .returned (.int .u32 (Bj x))/\w'=w:=by
 go_enter Tryz.func199,Tryz.ntmps199
 go_wp2_with fail
 go_loop [0,4] (fun r i=>∃k:Nat,k<=8/\i= .int .i64 k/\r= .int .u32 (Qq k x)) (fun _ i=>8 - (intOf i).toNat)
 case atStart=>exact⟨0,by omega,rfl,rfl⟩
 case round=>
  obtain⟨k,hk,rfl,rfl⟩:=hrel
  by_cases h8:k<8
  ·have h8':(k:Int)<8:=by omega
   obtain⟨y,hy⟩:∃y,y=Qq k x:=⟨_,rfl⟩
   have HY:=ah hy
   rw[<-hy]
   clear hy
   go_wp2_with fail
   all_goals
    rename_i hb
    have HB:=ah hb;clear hb
    go_round
    case rel=>exact⟨k+1,by omega,by go_num,by rw[show Qq (k+1) x=TW y by rw[HY.out];rfl];unfold TW;rw[HB.out];rfl⟩
    case measure=>simp[intOf];omega
  ·obtain rfl:k=8:=by omega
   go_wp2_with fail
   go_ret
   exact⟨rfl,rfl⟩
theorem Bp (n:Int):0<=IntKind.u32.wrap n/\IntKind.u32.wrap n<4294967296:=by rw[IntKind.wrap_u32];omega
theorem vP (op:BinOp)(x y:Int):0<=bits op .u32 x y/\bits op .u32 x y<4294967296:=by
 unfold bits
 split<;>exact Bp _
theorem Row.setCell {w:World}{g e:Nat}{cur:List Value}(h:Row w g e cur)(j:Nat)(v:Value):Row (w.setCell ⟨g,j,none⟩ v) g e (cur.set j v):=by
 unfold Row at*
 rw[iL w g j _ _ _ h]
 simp
theorem Gz (cur cs:List Value)(off:Nat)(v:Value)(h:off+cs.length<cur.length):(splice cur off cs).set (off+cs.length) v=splice cur off (cs++[v]):=by
 unfold splice
 have hl:(cur.take off).length=off:=by rw[aH];omega
 rw[iY _ _ (by omega),hl,dF,iY _ _ (aC _),uD,ay,dM,aL]
 congr 2
 rw[dA h,ax,<-lX]
 rfl
def BF (i:Nat):Value:= .int .u32 (Bj (i:Int))
def lH:List Value:=(List.range 256).map BF
theorem mM:lH.length=256:=by unfold lH;rw[jM,List.length_range]
theorem Am (k:Nat)(hk:k<256):lH[k]? =some (BF k):=by unfold lH;rw[eG,List.getElem?_range hk];rfl
theorem EZ (k:Nat)(hk:k<256):lH.take (k+1)=lH.take k++[BF k]:=by
 have h:=Am k hk
 rw[List.take_add_one,h];rfl
theorem Ql (b o T:Nat)(cur:List Value)(w:World)(hr:Row w b T cur)(hl:o+260<=cur.length):
  Calls Tryz.prog 166 #[.pointer (some ⟨b,o,none⟩)] w fun e w'=>e= .returned (.tuple #[])/\Row w' b T (splice cur (o+3) lH)/\Keep (· =b) w w':=by
 have HR:=ah hr;clear hr
 go_enter Tryz.func166,Tryz.ntmps166
 go_wp2_with fail
 go_loopw [3] (fun i wr=>∃k:Nat,k<=256/\i= .int .i64 k/\Row wr b T (splice cur (o+3) (lH.take k))/\Keep (· =b) w wr) (fun i _=>256 - (intOf i).toNat)
 case atStart=>exact⟨0,by omega,rfl,by rw[iD];unfold splice;simpa using HR.out,Keep.refl _ _⟩
 case round=>
  obtain⟨k,hk,rfl,hrow,hkeep⟩:=hrel
  by_cases h8:k<256
  ·have h8':(k:Int)<256:=by omega
   have hwr:IntKind.u32.wrap (k:Int)=(k:Int):=by rw[IntKind.wrap_u32];omega
   have htl:(lH.take k).length=k:=by rw[aH,mM];omega
   have hfit:o+3+k<(splice cur (o+3) (lH.take k)).length:=by
    unfold splice
    simp only[ay,aH,aN,mM]
    omega
   have hfr:∀j,wr.drew.frozen? ⟨b,j,none⟩=false:=fun j=>hrow.frozen j
   obtain⟨xv,hxv⟩:∃xv,wr.drew.cell? ⟨b,o+3+k,none⟩=some xv:=⟨_,(hrow.cell _).trans (bG hfit)⟩
   have hset:=hrow.setCell (o+3+k) (BF k)
   have hsn:=Gz cur (lH.take k) (o+3) (BF k) (by rw[htl];omega)
   rw[htl,<-EZ k h8] at hsn
   rw[hsn] at hset
   have HS:=ah hset;have HK:=ah hkeep
   clear hset hsn hkeep hrow htl hfit HR
   go_wp2_with fail
   refine aP (fun W=>W=wr.drew) (fun i=> !([4,8].contains i)) [0,1,2,3,5,6,4,7,8] rfl (by kernel_rfl) rfl ?_
   repeat ((refine bP (v:= ?_) rfl rfl (fun _ _ _ h=>h) rfl (fun W hW=> ?_) ?_);rotate_left;(focus ((try dsimp only at hW);subst hW;(go_simp;first|done|with_reducible rfl)));(try simp only[Act.put,ai,ax,au]))
   refine dK rfl rfl rfl ?_;intro K hK;go_simp
   refine(IQ _ _).mono ?_;rintro e w4 ⟨rfl,hw4⟩;subst w4
   refine hK.out _ _ rfl ?_
   repeat ((refine bP (v:= ?_) rfl rfl (fun _ _ _ h=>h) rfl (fun W hW=> ?_) ?_);rotate_left;(focus ((try dsimp only at hW);subst hW;(go_simp;first|done|with_reducible rfl)));(try simp only[Act.put,ai,ax,au]))
   refine jO rfl rfl rfl (by kernel_rfl) ?_;intro K hK;go_simp
   refine hK.out _ _ ?_
   refine bS ?_
   go_wp2_with fail
   go_roundw
   case rel=>exact⟨k+1,by omega,by go_num,HS.out,(HK.out.drew).setCell (.inr rfl) _⟩
   case measure=>simp[intOf];omega
  ·obtain rfl:k=256:=by omega
   have hall:lH.take 256=lH:=aJ (kT mM)
   rw[hall] at hrow
   have HRW:=ah hrow;have HK:=ah hkeep
   clear hrow hkeep hall
   go_wp2_with fail
   go_end0
   exact⟨rfl,HRW.out,HK.out⟩
theorem yH (w:World):(callFunc 227 #[]).run Tryz.prog w= .ok (.value (.tuple #[])) w:=run_call_mark0 Tryz.func227 (by kernel_rfl) (by kernel_rfl) (by kernel_rfl) .disable (by kernel_rfl) w
theorem Ap (w:World):(callFunc 229 #[]).run Tryz.prog w= .ok (.value (.tuple #[])) w:=run_call_mark0 Tryz.func229 (by kernel_rfl) (by kernel_rfl) (by kernel_rfl) .enable (by kernel_rfl) w
theorem Fq (a:Addr)(w:World):(callFunc 230 #[.pointer (some a)]).run Tryz.prog w= .ok (.value (.tuple #[])) w:=run_call_marked Tryz.func230 (by kernel_rfl) (by kernel_rfl) (by kernel_rfl) .acquire (by kernel_rfl) a w
theorem Ke (a:Addr)(w:World):(callFunc 232 #[.pointer (some a)]).run Tryz.prog w= .ok (.value (.tuple #[])) w:=run_call_marked Tryz.func232 (by kernel_rfl) (by kernel_rfl) (by kernel_rfl) .releaseMerge (by kernel_rfl) a w
theorem AZ (a:Addr)(x:Value)(u:FrameMode)(w:World)(hc:w.cell? a=some x)(hz:w.frozen? a=false):
  CallsD Tryz.prog 217 #[.pointer (some a),.bool true] u w fun e u' w'=>u'=u/\(e= .returned (.tuple #[])/\w'=w.drew.setCell a (.int .u32 1)):=by
 have hc':w.drew.cell? a=some x:=by go_simp
 have hz':w.drew.frozen? a=false:=by go_simp
 have hst:=run_call_store (P:=Tryz.prog) Tryz.func223 (by kernel_rfl) (by kernel_rfl) (by kernel_rfl) (by kernel_rfl) (k:= .u32) (y:=1) hc' hz'
 go_enter_d Tryz.func217,Tryz.ntmps217
 go_wp2
 go_region_calls
 all_goals (go_end0;exact⟨rfl,rfl⟩)
theorem unlock_deferred (a:Addr)(u:FrameMode)(w:World)(hc:w.cell? a=some (.int .i32 1))(hz:w.frozen? a=false):
  CallsD Tryz.prog 216 #[.pointer (some a)] u w fun e u' w'=>u'=u/\(e= .returned (.tuple #[])/\w'=w.setCell a (.int .i32 0)):=by
 have hd:=yH
 have he:=Ap
 have hr:=Ke
 have hadd:=run_call_add (P:=Tryz.prog) Tryz.func233 (by kernel_rfl) (by kernel_rfl) (by kernel_rfl) .i32 (by kernel_rfl) (y:= -1) (s:=0) hc hz (by simp[go_sem];rfl)
 have hcv:=run_convert_to_unsafe (P:=Tryz.prog) (src:=334) (dst:=328) Tryz.underlying334 Tryz.underlying328 (by kernel_rfl) hc
 go_enter_d Tryz.func216,Tryz.ntmps216
 go_wp2
 go_end0
 go_wp2
 go_end0
 exact⟨rfl,rfl⟩
theorem lock_free (a:Addr)(w:World)(hc:w.cell? a=some (.int .i32 0))(hz:w.frozen? a=false):
  Calls Tryz.prog 215 #[.pointer (some a)] w fun e w'=>e= .returned (.tuple #[])/\w'=w.setCell a (.int .i32 1):=by
 have hd:=yH
 have he:=Ap
 have ha:=Fq
 have hcas:=run_call_cas_hit (P:=Tryz.prog) Tryz.func228 (by kernel_rfl) (by kernel_rfl) (by kernel_rfl) .i32 (by kernel_rfl) (y:=1) hc hz
 have hc':(w.setCell a (.int .i32 1)).cell? a=some (.int .i32 1):=World.cell?_setCell_same w a _ hc
 have hcv:=run_convert_to_unsafe (P:=Tryz.prog) (src:=334) (dst:=328) Tryz.underlying334 Tryz.underlying328 (by kernel_rfl) hc'
 go_enter Tryz.func215,Tryz.ntmps215
 go_wp2
 first|go_end0|(simp only[Exit.inBlock,Exit.then];refine vZ (A8 rfl _ _ _) rfl ?_)|refine vZ (A8 rfl _ _ _) rfl ?_
 go_wp2
 go_end0
 exact⟨rfl,rfl⟩
def Ba:List Value:=List.replicate 256 (.int .u32 0)
theorem qI:Ba.length=256:=by unfold Ba;exact List.length_replicate
def UJ (dn:Bool):List Value:=if dn then lH else Ba
theorem uQ (dn:Bool):(UJ dn).length=256:=by cases dn;exact qI;exact mM
def o8 (A:List Value)(d s:Value)(R:List Value)(c:Value)(B:List Value):List Value:=A++(d::s:: .int .u32 0::(R++(c::B)))
def iN (A:List Value)(dn:Bool)(c:Int)(B:List Value):List Value:=o8 A (.int .u32 (if dn then 1 else 0)) (.int .i32 0) (UJ dn) (.int .i64 c) B
theorem E5 (A:List Value)(d s:Value)(R:List Value)(c:Value)(B:List Value):(o8 A d s R c B)[A.length]? =some d:=by
 unfold o8;rw[cZ (aC _),uD];rfl
theorem OX (A:List Value)(d s:Value)(R:List Value)(c:Value)(B:List Value):(o8 A d s R c B)[A.length+1]? =some s:=by
 unfold o8;rw[cZ (by omega),dF];rfl
theorem Tq (A:List Value)(d s:Value)(R:List Value)(c:Value)(B:List Value)(k:Nat)(hk:k<R.length):(o8 A d s R c B)[A.length+3+k]? =R[k]? :=by
 unfold o8
 rw[cZ (by omega),show A.length+3+k - A.length=k+1+1+1 by omega,eu,eu,eu,fU hk]
theorem Tp (A:List Value)(d s:Value)(R:List Value)(c:Value)(B:List Value)(hR:R.length=256):(o8 A d s R c B)[A.length+259]? =some c:=by
 unfold o8
 rw[cZ (by omega),show A.length+259 - A.length=256+1+1+1 by omega,eu,eu,eu,cZ (by omega),hR]
 rfl
theorem JS (A:List Value)(d s:Value)(R:List Value)(c:Value)(B:List Value)(v:Value):(o8 A d s R c B).set A.length v=o8 A v s R c B:=by
 unfold o8;rw[iY _ _ (aC _),uD];rfl
theorem BG (A:List Value)(d s:Value)(R:List Value)(c:Value)(B:List Value)(v:Value):(o8 A d s R c B).set (A.length+1) v=o8 A d v R c B:=by
 unfold o8;rw[iY _ _ (by omega),dF];rfl
theorem JU (A:List Value)(d s:Value)(R:List Value)(c:Value)(B:List Value)(v:Value)(hR:R.length=256):(o8 A d s R c B).set (A.length+259) v=o8 A d s R v B:=by
 unfold o8
 rw[iY _ _ (by omega),show A.length+259 - A.length=256+1+1+1 by omega,au,au,au,iY _ _ (by omega),hR]
 rfl
theorem MJ (A:List Value)(d s:Value)(R R':List Value)(c:Value)(B:List Value)(h:R.length=R'.length):splice (o8 A d s R c B) (A.length+3) R'=o8 A d s R' c B:=by
 have e:∀R,o8 A d s R c B=(A++[d,s,.int .u32 0])++(R++(c::B)):=fun R=>by unfold o8;simp
 rw[e,e]
 exact wJ _ _ _ _ _ (by simp) h
theorem Gv (A:List Value)(d s:Value)(R:List Value)(c:Value)(B:List Value):(o8 A d s R c B).length=A.length+4+R.length+B.length:=by
 unfold o8;simp;omega
theorem O1 (A B:List Value)(b o T:Nat)(c:Int)(w:World)(ho:A.length=o)(hr:Row w b T (iN A false c B)):
  Calls Tryz.prog 198 #[.pointer (some ⟨b,o,none⟩),.func (.func 166) #[.pointer (some ⟨b,o,none⟩)] #[]] w fun e w'=>e= .returned (.tuple #[])/\Row w' b T (iN A true c B)/\Keep (· =b) w w':=by
 subst ho
 have hr':Row w b T (o8 A (.int .u32 0) (.int .i32 0) Ba (.int .i64 c) B):=hr
 have hr1:=hr'.setCell (A.length+1) (.int .i32 1)
 rw[BG] at hr1
 have h0:w.cell? ⟨b,A.length,none⟩=some (.int .u32 0):=(hr'.cell _).trans (E5 ..)
 have h1:w.cell? ⟨b,A.length+1,none⟩=some (.int .i32 0):=(hr'.cell _).trans (OX ..)
 have f0:w.frozen? ⟨b,A.length,none⟩=false:=hr'.frozen _
 have f1:w.frozen? ⟨b,A.length+1,none⟩=false:=hr'.frozen _
 have hl:=run_call_load (P:=Tryz.prog) Tryz.func214 (by kernel_rfl) (by kernel_rfl) (by kernel_rfl) .u32 (by kernel_rfl) (w:=w.setCell ⟨b,A.length+1,none⟩ (.int .i32 1)) (a:=⟨b,A.length,none⟩) (x:=0) ((World.cell?_setCell_other _ ⟨b,A.length+1,none⟩ ⟨b,A.length,none⟩ _ (by simp)).trans h0)
 have hfl:=Ql b A.length T _ _ hr1 (by rw[Gv,qI];omega)
 rw[MJ _ _ _ _ _ _ _ (by rw[qI,mM])] at hfl
 have HFL:=ah hfl;clear hfl
 have HK:=ah ((Keep.refl (· =b) w).setCell (p:=⟨b,A.length+1,none⟩) (.inr rfl) (.int .i32 1))
 have hnot:∀(x:Bool) (w:World),(Op.unary .not (.bool x)).run Tryz.prog w= .ok (.bool (!x)) w:=fun _ _=>rfl
 clear hr hr' hr1
 go_enter_defers Tryz.func198,Tryz.ntmps198
 go_wp2_with (go_at_call 215;refine(lock_free ⟨b,A.length+1,none⟩ _ (by go_simp) (by go_simp)).mono ?_;rintro e w' ⟨rfl,rfl⟩)
 go_wp2_with (go_at_call 197;go_in)
 refine HFL.out.mono ?_
 rintro e w2 ⟨rfl,hr2,hk2⟩
 have h20:w2.cell? ⟨b,A.length,none⟩=some (.int .u32 0):=(hr2.cell _).trans (E5 ..)
 have f20:w2.frozen? ⟨b,A.length,none⟩=false:=hr2.frozen _
 have hr3:Row (w2.drew.setCell ⟨b,A.length,none⟩ (.int .u32 1)) b T (o8 A (.int .u32 1) (.int .i32 1) lH (.int .i64 c) B):=by
  have:=Row.setCell (w:=w2.drew) hr2 A.length (.int .u32 1)
  rwa [JS] at this
 have h31:(w2.drew.setCell ⟨b,A.length,none⟩ (.int .u32 1)).cell? ⟨b,A.length+1,none⟩=some (.int .i32 1):=(hr3.cell _).trans (OX ..)
 have f31:(w2.drew.setCell ⟨b,A.length,none⟩ (.int .u32 1)).frozen? ⟨b,A.length+1,none⟩=false:=hr3.frozen _
 have hr4:=hr3.setCell (A.length+1) (.int .i32 0)
 rw[BG] at hr4
 have HR4:=ah hr4
 have HK4:=ah ((((Keep.refl (· =b) w2).drew).setCell (p:=⟨b,A.length,none⟩) (.inr rfl) (.int .u32 1)).setCell (p:=⟨b,A.length+1,none⟩) (.inr rfl) (.int .i32 0))
 have HK2:=ah hk2
 clear hr2 hr3 hr4 hk2
 go_wp2_with fail
 refine jA (f:=217) (args:=#[.pointer (some ⟨b,A.length,none⟩),.bool true]) (by simp) (by simp[go_sem]) ?_
 refine(AZ ⟨b,A.length,none⟩ (.int .u32 0) .returning _ h20 f20).mono ?_
 rintro e u' w'' ⟨rfl,rfl,rfl⟩
 refine jA (f:=216) (args:=#[.pointer (some ⟨b,A.length+1,none⟩)]) (by simp[settle]) (by simp[go_sem]) ?_
 refine(unlock_deferred ⟨b,A.length+1,none⟩ _ _ h31 f31).mono ?_
 rintro e u' w'' ⟨rfl,rfl,rfl⟩
 simp[Leaves,settle,results,Tryz.results198]
 exact⟨HR4.out,(HK.out.trans HK2.out (fun _ _ e=>e)).trans HK4.out (fun _ _ e=>e)⟩
theorem TS (A B:List Value)(b o T:Nat)(dn:Bool)(c:Int)(w:World)(ho:A.length=o)(hr:Row w b T (iN A dn c B)):
  Calls Tryz.prog 165 #[.pointer (some ⟨b,o,none⟩),.func (.func 166) #[.pointer (some ⟨b,o,none⟩)] #[]] w fun e w'=>e= .returned (.tuple #[])/\Row w' b T (iN A true c B)/\Keep (· =b) w w':=by
 subst ho
 have hnot:∀(x:Bool) (w:World),(Op.unary .not (.bool x)).run Tryz.prog w= .ok (.bool (!x)) w:=fun _ _=>rfl
 cases dn with
 |false=>
  have h0:w.cell? ⟨b,A.length,none⟩=some (.int .u32 0):=(hr.cell _).trans (E5 ..)
  have hl:=run_call_load (P:=Tryz.prog) Tryz.func214 (by kernel_rfl) (by kernel_rfl) (by kernel_rfl) .u32 (by kernel_rfl) h0
  have HS:=ah (O1 A B b A.length T c w rfl hr)
  clear hr
  go_enter Tryz.func165,Tryz.ntmps165
  go_wp2_with (first|(go_at_call 198;refine HS.out.mono ?_;rintro e w' ⟨rfl,hr',hk'⟩)|(go_at_call 197;go_in))
  go_end0
  exact⟨rfl,hr',hk'⟩
 |true=>
  have h0:w.cell? ⟨b,A.length,none⟩=some (.int .u32 1):=(hr.cell _).trans (E5 ..)
  have hl:=run_call_load (P:=Tryz.prog) Tryz.func214 (by kernel_rfl) (by kernel_rfl) (by kernel_rfl) .u32 (by kernel_rfl) h0
  go_enter Tryz.func165,Tryz.ntmps165
  go_wp2_with (go_at_call 197;go_in)
  go_end0
  exact⟨rfl,hr,Keep.refl _ _⟩
def FU (r:Int)(b:UInt8):Int:=bits .xor .u32 (Bj (bits .xor .u8 (r%256) (b.toNat:Int))) (r/256)
def vL (l:List UInt8):Int:=l.foldl FU 4294967295
def tX (l:List UInt8):Int:=bits .xor .u32 4294967295 (vL l)
theorem AA (l:List UInt8)(b:UInt8):vL (l++[b])=FU (vL l) b:=by simp[vL]
theorem zk (l:List UInt8):0<=tX l/\tX l<4294967296:=vP _ _ _
theorem Dv (n:Int):0<=IntKind.u8.wrap n/\IntKind.u8.wrap n<256:=by rw[Ms];omega
theorem DR (op:BinOp)(x y:Int):0<=bits op .u8 x y/\bits op .u8 x y<256:=by
 unfold bits
 split<;>exact Dv _
theorem FT (l:List UInt8):0<=vL l/\vL l<4294967296:=by
 rcases wm l with rfl|⟨l',b,rfl⟩
 ·decide
 ·rw[wu,AA];exact vP _ _ _
theorem add_one (b o:Nat)(c c':Int)(w:World)(hc:w.cell? ⟨b,o,none⟩=some (.int .i64 c))(hz:w.frozen? ⟨b,o,none⟩=false)(h:Hid (IntKind.i64.wrap (c+1)=c')):
  Calls Tryz.prog 167 #[.pointer (some ⟨b,o,none⟩),.int .i64 1] w fun e w'=>e= .returned (.int .i64 c')/\w'=w.setCell ⟨b,o,none⟩ (.int .i64 c'):=by
 have hadd:=run_call_add (P:=Tryz.prog) Tryz.func200 (by kernel_rfl) (by kernel_rfl) (by kernel_rfl) .i64 (by kernel_rfl) (y:=1) (s:=c') hc hz (by simp[go_sem];exact h.out)
 go_enter Tryz.func167,Tryz.ntmps167
 go_wp2
 go_ret
 exact⟨rfl,rfl⟩
theorem Bb (A B:List Value)(b o T:Nat)(dn:Bool)(c:Int)(v:Value)(l:List UInt8)(S:Nat->Prop)(w:World)(ho:A.length=o)(hr:Row w b T (iN A dn c B))(hv:aX w S 1 v l.length (aI l))(hS:S b):
  Calls Tryz.prog 126 #[.pointer (some ⟨b,o,none⟩),v] w fun e w'=>e= .returned (.int .u32 (tX l))/\∃c',Row w' b T (iN A true c' B)/\Keep (· =b) w w':=by
 subst ho
 have HDo:=ah (TS A B b A.length T dn c w rfl hr)
 obtain⟨vo,vc,rfl,v1,v2,v3,v4⟩:=aX.form hv
 clear hr
 have HV:=ah hv;clear hv v3 v4
 have hmf:∀(fn:Fn) (first cap:Array Value) (w:World),(Instr.makeFunc fn first cap).run Tryz.prog w= .ok (.func fn first cap) w:=fun _ _ _ _=>rfl
 go_enter Tryz.func126,Tryz.ntmps126
 go_wp2_with (first
  |(go_at_call 165;go_must (refine HDo.out.mono ?_;rintro e w1 ⟨rfl,hr1,hk1⟩;refine Stop.of ?_)))
 refine Stop.on ?_
 have hc1:w1.cell? ⟨b,A.length+259,none⟩=some (.int .i64 c):=(hr1.cell _).trans (Tp _ _ _ _ _ _ (uQ _))
 have hz1:w1.frozen? ⟨b,A.length+259,none⟩=false:=hr1.frozen _
 obtain⟨c',HC⟩:∃c',Hid (IntKind.i64.wrap (c+1)=c'):=⟨_,ah rfl⟩
 have HA:=ah (add_one b (A.length+259) c c' w1 hc1 hz1 HC)
 have hr2:=hr1.setCell (A.length+259) (.int .i64 c')
 rw[show (iN A true c B).set (A.length+259) (.int .i64 c')=iN A true c' B from JU _ _ _ _ _ _ _ (uQ _)] at hr2
 have hk2:Keep (· =b) w (w1.setCell ⟨b,A.length+259,none⟩ (.int .i64 c')):=hk1.setCell (.inr rfl) _
 clear hr1 hk1 hc1 hz1
 go_wp2_with (first
  |(go_at_call 167;go_must (refine HA.out.mono ?_;rintro e w2 ⟨rfl,hw2⟩;rw[<-hw2] at hr2 hk2;clear hw2;refine Stop.of ?_)))
 refine Stop.on ?_
 have hvs:aX w2 fZ 1 (.slice vo l.length vc) l.length (aI l):=HV.out.keep fun g hg hl hs=>⟨hk2.block g hl (fun e=>hs (e▸hS)),id⟩
 have HVS:=ah hvs;have HR2:=ah hr2;have HK2:=ah hk2
 clear hvs hk2 HA HC HDo HV
 go_wp2_with fail
 go_loop [5,24] (fun r i=>∃k:Nat,k<=l.length/\i= .int .i64 k/\r= .int .u32 (vL (l.take k))) (fun _ i=>l.length - (intOf i).toNat)
 case atStart=>exact⟨0,aT _,rfl,rfl⟩
 case round=>
  obtain⟨k,hk,rfl,rfl⟩:=hrel
  by_cases hlt:k<l.length
  ·have hltI:(k:Int)<(l.length:Int):=by omega
   obtain⟨vb,vq,rfl,hcv⟩:=aX.DU HVS.out rfl k (.int .u8 (l[k].toNat:Int)) (by simp[aI,hlt])
   obtain⟨r,HRr⟩:∃r,Hid (vL (l.take k)=r):=⟨_,ah rfl⟩
   have hrr:0<=r/\r<4294967296:=by rw[<-HRr.out];exact FT _
   rw[HRr.out]
   have hix:=DR .xor (r%256) (l[k].toNat:Int)
   obtain⟨q,HQ⟩:∃q:Nat,Hid (bits .xor .u8 (r%256) (l[k].toNat:Int)=(q:Int)):=⟨(bits .xor .u8 (r%256) (l[k].toNat:Int)).toNat,ah (by omega)⟩
   have hq:q<256:=by have:=HQ.out;omega
   have hrw:w2.cell? ⟨b,A.length+3+q,none⟩=some (.int .u32 (Bj (q:Int))):=by
    rw[HR2.out.cell]
    exact(Tq _ _ _ _ _ _ q (by rw[uQ];exact hq)).trans (Am q hq)
   have hQ:=HQ.out
   clear hr2 hix
   go_wp2_with fail
   clear hQ
   go_round
   case rel=>exact⟨k+1,by omega,by go_num,by rw[aM hlt,AA,HRr.out];unfold FU;rw[HQ.out]⟩
   case measure=>simp[intOf];omega
  ·obtain rfl:k=l.length:=by omega
   rw[bR]
   go_wp2_with fail
   go_ret
   exact⟨rfl,⟨c',HR2.out⟩,HK2.out⟩
end Go.Proofs.YtogbkgmlhhahdaaGreat
