--
import Derived.Test.YtogbkgmlhhahdaaGreatT4
import Derived.Defers
import Derived.Laws.LoneSync
import Derived.RegionCalls
set_option maxRecDepth 100000
set_option maxHeartbeats 0
set_option linter.all false
namespace Go.Proofs.YtogbkgmlhhahdaaGreat
open Go.RowKit
def Vi (x:Int):Int:=if (bits .and .u32 x 1==1)=true then bits .xor .u32 (x/2) 2197175160 else x/2
def RD:Nat->Int->Int
 |0,x=>x
 |k+1,x=>Vi (RD k x)
def Ck (x:Int):Int:=RD 8 x
theorem JP (x:Int)(w:World):
  Calls Tryz.prog 199 #[.int .u32 x] w fun e c=>e= .returned (.int .u32 (Ck x))/\c=w:=by
 go_enter Tryz.func199,Tryz.ntmps199;go_wp2_with fail
 go_loop [0,4] (fun r i=>∃k:Nat,k<=8/\i= .int .i64 k/\r= .int .u32 (RD k x)) (fun _ i=>8 - (intOf i).toNat)
 case atStart=>exact⟨0,by omega,rfl,rfl⟩
 case round=>
  obtain⟨k,j,rfl,rfl⟩:=hrel
  by_cases l:k<8
  ·have f:(k:Int)<8:=by omega
   obtain⟨y,a⟩:=nx (RD k x);have g:=ah a;rw[<-a];clear a;go_wp2_with fail
   all_goals
    rename_i b;have d:=ah b;clear b
    go_round
    case rel=>exact⟨k+1,by omega,by go_num,by rw[show RD (k+1) x=Vi y by rw[g.out];rfl];unfold Vi;rw[d.out];rfl⟩
    case measure=>simp[intOf];omega
  ·obtain rfl:k=8:=by omega
   go_wp2_with fail;go_ret;exact⟨rfl,rfl⟩
def Cq (n:Int):0<=IntKind.u32.wrap n/\IntKind.u32.wrap n<4294967296:=by rw[IntKind.wrap_u32];omega
def wR (a:BinOp)(x y:Int):0<=bits a .u32 x y/\bits a .u32 x y<4294967296:=by
 unfold bits
 split<;>exact Cq _
def Row.setCell {w:World}{g e:Nat}{a:List Value}(h:Row w g e a)(j:Nat)(v:Value):Row (w.setCell ⟨g,j,none⟩ v) g e (a.set j v):=by
 unfold Row at*;rw[iy w g j _ _ _ h];simp
def Iw (b c:List Value)(a:Nat)(v:Value)(h:a+c.length<b.length):(splice b a c).set (a+c.length) v=splice b a (c++[v]):=by
 unfold splice;have d:(b.take a).length=a:=by rw[aH];omega
 rw[jr _ _ (by omega),d,dJ,jr _ _ (aD _),ru,ay,dN,aM];congr 2;rw[cu h,au,<-mP];rfl
def CF (i:Nat):Value:= .int .u32 (Ck (i:Int))
def l8:List Value:=(List.range 256).map CF
def nE:l8.length=256:=by unfold l8;rw[jX,List.length_range]
def Bp (k:Nat)(a:k<256):l8[k]? =some (CF k):=by unfold l8;rw[eZ,List.getElem?_range a];rfl
def F8 (k:Nat)(a:k<256):l8.take (k+1)=l8.take k++[CF k]:=by
 have h:=Bp k a;rw[List.take_add_one,h];rfl
theorem Ru (b o T:Nat)(d:List Value)(w:World)(y:Row w b T d)(I:o+260<=d.length):
  Calls Tryz.prog 166 #[.pointer (some ⟨b,o,none⟩)] w fun e t=>e= .returned (.tuple #[])/\Row t b T (splice d (o+3) l8)/\Keep (· =b) w t:=by
 have x:=ah y;clear y;go_enter Tryz.func166,Tryz.ntmps166;go_wp2_with fail;go_loopw [3] (fun i wr=>∃k:Nat,k<=256/\i= .int .i64 k/\Row wr b T (splice d (o+3) (l8.take k))/\Keep (· =b) w wr) (fun i _=>256 - (intOf i).toNat)
 case atStart=>exact⟨0,by omega,rfl,by rw[iM];unfold splice;simpa using x.out,Keep.refl _ _⟩
 case round=>
  obtain⟨k,H,rfl,a,c⟩:=hrel
  by_cases D:k<256
  ·have F:(k:Int)<256:=by omega
   have G:IntKind.u32.wrap (k:Int)=(k:Int):=(by rw[IntKind.wrap_u32];omega);have n:(l8.take k).length=k:=(by rw[aH,nE];omega);have g:o+3+k<(splice d (o+3) (l8.take k)).length:=by
    unfold splice;simp only[ay,aH,aO,nE];omega
   have A:∀j,wr.drew.frozen? ⟨b,j,none⟩=false:=fun j=>a.frozen j
   obtain⟨v,C⟩:∃v,wr.drew.cell? ⟨b,o+3+k,none⟩=some v:=⟨_,(a.cell _).trans (bD g)⟩
   have f:=a.setCell (o+3+k) (CF k);have m:=Iw d (l8.take k) (o+3) (CF k) (by rw[n];omega);rw[n,<-F8 k D] at m;rw[m] at f;have E:=ah f;have s:=ah c;clear f m c a n g x;go_wp2_with fail;refine aP (fun W=>W=wr.drew) (fun i=> !([4,8].contains i)) [0,1,2,3,5,6,4,7,8] rfl (by kernel_rfl) rfl ?_
   repeat (refine oq ?_ rfl rfl rfl ?_ ?_;rotate_left;focus (intro W p;(try dsimp only at p);subst p;go_simp;first|done|with_reducible rfl);try simp only[Act.put,aj,au,ak])
   refine dI rfl rfl rfl ?_;intro K r;go_simp;refine(JP _ _).mono ?_;rintro e z ⟨rfl,B⟩;subst z;refine r.out _ _ rfl ?_
   repeat (refine oq ?_ rfl rfl rfl ?_ ?_;rotate_left;focus (intro W p;(try dsimp only at p);subst p;go_simp;first|done|with_reducible rfl);try simp only[Act.put,aj,au,ak])
   refine jC rfl rfl rfl (by kernel_rfl) ?_;intro K r;go_simp;refine r.out _ _ ?_;refine bR ?_;go_wp2_with fail;go_roundw
   case rel=>exact⟨k+1,by omega,by go_num,E.out,(s.out.drew).setCell (.inr rfl) _⟩
   case measure=>simp[intOf];omega
  ·obtain rfl:k=256:=by omega
   have l:l8.take 256=l8:=aJ (lD nE);rw[l] at a;have q:=ah a;have s:=ah c;clear a c l;go_wp2_with fail;go_end0;exact⟨rfl,q.out,s.out⟩
def zF (w:World):(callFunc 227 #[]).run Tryz.prog w= .ok (.value (.tuple #[])) w:=run_call_mark0 Tryz.func227 (by kernel_rfl) (by kernel_rfl) (by kernel_rfl) .disable (by kernel_rfl) w
def Bu (w:World):(callFunc 229 #[]).run Tryz.prog w= .ok (.value (.tuple #[])) w:=run_call_mark0 Tryz.func229 (by kernel_rfl) (by kernel_rfl) (by kernel_rfl) .enable (by kernel_rfl) w
def Gn (a:Addr)(w:World):(callFunc 230 #[.pointer (some a)]).run Tryz.prog w= .ok (.value (.tuple #[])) w:=run_call_marked Tryz.func230 (by kernel_rfl) (by kernel_rfl) (by kernel_rfl) .acquire (by kernel_rfl) a w
def La (a:Addr)(w:World):(callFunc 232 #[.pointer (some a)]).run Tryz.prog w= .ok (.value (.tuple #[])) w:=run_call_marked Tryz.func232 (by kernel_rfl) (by kernel_rfl) (by kernel_rfl) .releaseMerge (by kernel_rfl) a w
theorem BZ (a:Addr)(x:Value)(u:FrameMode)(w:World)(i:w.cell? a=some x)(j:w.frozen? a=false):
  CallsD Tryz.prog 217 #[.pointer (some a),.bool true] u w fun e g f=>g=u/\(e= .returned (.tuple #[])/\f=w.drew.setCell a (.int .u32 1)):=by
 have b:w.drew.cell? a=some x:=by go_simp
 have c:w.drew.frozen? a=false:=by go_simp
 have d:=run_call_store (P:=Tryz.prog) Tryz.func223 (by kernel_rfl) (by kernel_rfl) (by kernel_rfl) (by kernel_rfl) (k:= .u32) (y:=1) b c
 go_enter_d Tryz.func217,Tryz.ntmps217
 go_wp2
 go_region_calls
 all_goals (go_end0;exact⟨rfl,rfl⟩)
theorem unlock_deferred (a:Addr)(u:FrameMode)(w:World)(c:w.cell? a=some (.int .i32 1))(i:w.frozen? a=false):
  CallsD Tryz.prog 216 #[.pointer (some a)] u w fun e g d=>g=u/\(e= .returned (.tuple #[])/\d=w.setCell a (.int .i32 0)):=by
 have j:=zF;have k:=Bu;have l:=La;have b:=run_call_add (P:=Tryz.prog) Tryz.func233 (by kernel_rfl) (by kernel_rfl) (by kernel_rfl) .i32 (by kernel_rfl) (y:= -1) (s:=0) c i (by simp[go_sem];rfl);have f:=run_convert_to_unsafe (P:=Tryz.prog) (src:=334) (dst:=328) Tryz.underlying334 Tryz.underlying328 (by kernel_rfl) c
 go_enter_d Tryz.func216,Tryz.ntmps216
 go_wp2
 go_end0
 go_wp2
 go_end0;exact⟨rfl,rfl⟩
theorem lock_free (a:Addr)(w:World)(d:w.cell? a=some (.int .i32 0))(i:w.frozen? a=false):
  Calls Tryz.prog 215 #[.pointer (some a)] w fun e f=>e= .returned (.tuple #[])/\f=w.setCell a (.int .i32 1):=by
 have j:=zF;have k:=Bu;have l:=Gn;have c:=run_call_cas_hit (P:=Tryz.prog) Tryz.func228 (by kernel_rfl) (by kernel_rfl) (by kernel_rfl) .i32 (by kernel_rfl) (y:=1) d i;have b:(w.setCell a (.int .i32 1)).cell? a=some (.int .i32 1):=World.cell?_setCell_same w a _ d;have g:=run_convert_to_unsafe (P:=Tryz.prog) (src:=334) (dst:=328) Tryz.underlying334 Tryz.underlying328 (by kernel_rfl) b;go_enter Tryz.func215,Tryz.ntmps215
 go_wp2
 first|go_end0|(simp only[Exit.inBlock,Exit.then];refine jE (Ca rfl _ _ _) rfl ?_)|refine jE (Ca rfl _ _ _) rfl ?_
 go_wp2
 go_end0;exact⟨rfl,rfl⟩
def Cb:List Value:=List.replicate 256 (.int .u32 0)
def rD:Cb.length=256:=by unfold Cb;exact List.length_replicate
def VX (dn:Bool):List Value:=if dn then l8 else Cb
def vQ (a:Bool):(VX a).length=256:=by cases a;exact rD;exact nE
def pW (A:List Value)(d s:Value)(R:List Value)(c:Value)(B:List Value):List Value:=A++(d::s:: .int .u32 0::(R++(c::B)))
def jc (A:List Value)(dn:Bool)(c:Int)(B:List Value):List Value:=pW A (.int .u32 (if dn then 1 else 0)) (.int .i32 0) (VX dn) (.int .i64 c) B
def Ga (A:List Value)(d s:Value)(R:List Value)(c:Value)(B:List Value):(pW A d s R c B)[A.length]? =some d:=by
 unfold pW;rw[dA (aD _),ru];rfl
def Qo (A:List Value)(d s:Value)(R:List Value)(c:Value)(B:List Value):(pW A d s R c B)[A.length+1]? =some s:=by
 unfold pW;rw[dA (by omega),dJ];rfl
def UM (A:List Value)(d s:Value)(R:List Value)(c:Value)(B:List Value)(k:Nat)(a:k<R.length):(pW A d s R c B)[A.length+3+k]? =R[k]? :=by
 unfold pW;rw[dA (by omega),show A.length+3+k - A.length=k+1+1+1 by omega,eO,eO,eO,eF a]
def UL (A:List Value)(d s:Value)(R:List Value)(c:Value)(B:List Value)(a:R.length=256):(pW A d s R c B)[A.length+259]? =some c:=by
 unfold pW;rw[dA (by omega),show A.length+259 - A.length=256+1+1+1 by omega,eO,eO,eO,dA (by omega),a];rfl
def KO (A:List Value)(d s:Value)(R:List Value)(c:Value)(B:List Value)(v:Value):(pW A d s R c B).set A.length v=pW A v s R c B:=by
 unfold pW;rw[jr _ _ (aD _),ru];rfl
def CG (A:List Value)(d s:Value)(R:List Value)(c:Value)(B:List Value)(v:Value):(pW A d s R c B).set (A.length+1) v=pW A d v R c B:=by
 unfold pW;rw[jr _ _ (by omega),dJ];rfl
def KP (A:List Value)(d s:Value)(R:List Value)(c:Value)(B:List Value)(v:Value)(a:R.length=256):(pW A d s R c B).set (A.length+259) v=pW A d s R v B:=by
 unfold pW;rw[jr _ _ (by omega),show A.length+259 - A.length=256+1+1+1 by omega,ak,ak,ak,jr _ _ (by omega),a];rfl
def NW (A:List Value)(d s:Value)(R a:List Value)(c:Value)(B:List Value)(h:R.length=a.length):splice (pW A d s R c B) (A.length+3) a=pW A d s a c B:=by
 have e:∀R,pW A d s R c B=(A++[d,s,.int .u32 0])++(R++(c::B)):=fun R=>by unfold pW;simp
 rw[e,e];exact xL _ _ _ _ _ (by simp) h
def Ip (A:List Value)(d s:Value)(R:List Value)(c:Value)(B:List Value):(pW A d s R c B).length=A.length+4+R.length+B.length:=by
 unfold pW;simp;omega
theorem Qt (A B:List Value)(b o T:Nat)(c:Int)(w:World)(J:A.length=o)(G:Row w b T (jc A false c B)):
  Calls Tryz.prog 198 #[.pointer (some ⟨b,o,none⟩),.func (.func 166) #[.pointer (some ⟨b,o,none⟩)] #[]] w fun e q=>e= .returned (.tuple #[])/\Row q b T (jc A true c B)/\Keep (· =b) w q:=by
 subst J;have d:Row w b T (pW A (.int .u32 0) (.int .i32 0) Cb (.int .i64 c) B):=G;have l:=d.setCell (A.length+1) (.int .i32 1);rw[CG] at l;have H:w.cell? ⟨b,A.length,none⟩=some (.int .u32 0):=(d.cell _).trans (Ga ..);have O:w.cell? ⟨b,A.length+1,none⟩=some (.int .i32 0):=(d.cell _).trans (Qo ..);have M:w.frozen? ⟨b,A.length,none⟩=false:=d.frozen _;have N:w.frozen? ⟨b,A.length+1,none⟩=false:=d.frozen _;have Q:=run_call_load (P:=Tryz.prog) Tryz.func214 (by kernel_rfl) (by kernel_rfl) (by kernel_rfl) .u32 (by kernel_rfl) (w:=w.setCell ⟨b,A.length+1,none⟩ (.int .i32 1)) (a:=⟨b,A.length,none⟩) (x:=0) ((World.cell?_setCell_other _ ⟨b,A.length+1,none⟩ ⟨b,A.length,none⟩ _ (by simp)).trans H);have k:=Ru b A.length T _ _ l (by rw[Ip,rD];omega);rw[NW _ _ _ _ _ _ _ (by rw[rD,nE])] at k;have v:=ah k;clear k;have K:=ah ((Keep.refl (· =b) w).setCell (p:=⟨b,A.length+1,none⟩) (.inr rfl) (.int .i32 1));have F:∀(x:Bool) (w:World),(Op.unary .not (.bool x)).run Tryz.prog w= .ok (.bool (!x)) w:=fun _ _=>rfl
 clear G d l
 go_enter_defers Tryz.func198,Tryz.ntmps198
 go_wp2_with (go_at_call 215;refine(lock_free ⟨b,A.length+1,none⟩ _ (by go_simp) (by go_simp)).mono ?_;rintro e q ⟨rfl,rfl⟩);go_wp2_with (go_at_call 197;go_in);refine v.out.mono ?_;rintro e m ⟨rfl,g,n⟩;have y:m.cell? ⟨b,A.length,none⟩=some (.int .u32 0):=(g.cell _).trans (Ga ..);have z:m.frozen? ⟨b,A.length,none⟩=false:=g.frozen _;have i:Row (m.drew.setCell ⟨b,A.length,none⟩ (.int .u32 1)) b T (pW A (.int .u32 1) (.int .i32 1) l8 (.int .i64 c) B):=by
  have:=Row.setCell (w:=m.drew) g A.length (.int .u32 1);rwa [KO] at this
 have E:(m.drew.setCell ⟨b,A.length,none⟩ (.int .u32 1)).cell? ⟨b,A.length+1,none⟩=some (.int .i32 1):=(i.cell _).trans (Qo ..);have r:(m.drew.setCell ⟨b,A.length,none⟩ (.int .u32 1)).frozen? ⟨b,A.length+1,none⟩=false:=i.frozen _;have j:=i.setCell (A.length+1) (.int .i32 0);rw[CG] at j;have D:=ah j;have s:=ah ((((Keep.refl (· =b) m).drew).setCell (p:=⟨b,A.length,none⟩) (.inr rfl) (.int .u32 1)).setCell (p:=⟨b,A.length+1,none⟩) (.inr rfl) (.int .i32 0));have t:=ah n;clear g i j n;go_wp2_with fail;refine jM (f:=217) (args:=#[.pointer (some ⟨b,A.length,none⟩),.bool true]) (by simp) (by simp[go_sem]) ?_;refine(BZ ⟨b,A.length,none⟩ (.int .u32 0) .returning _ y z).mono ?_;rintro e I C ⟨rfl,rfl,rfl⟩;refine jM (f:=216) (args:=#[.pointer (some ⟨b,A.length+1,none⟩)]) (by simp[settle]) (by simp[go_sem]) ?_;refine(unlock_deferred ⟨b,A.length+1,none⟩ _ _ E r).mono ?_;rintro e I C ⟨rfl,rfl,rfl⟩;simp[Leaves,settle,results,Tryz.results198];exact⟨D.out,(K.out.trans t.out (fun _ _ e=>e)).trans s.out (fun _ _ e=>e)⟩
theorem Vg (A B:List Value)(b o T:Nat)(k:Bool)(c:Int)(w:World)(l:A.length=o)(a:Row w b T (jc A k c B)):
  Calls Tryz.prog 165 #[.pointer (some ⟨b,o,none⟩),.func (.func 166) #[.pointer (some ⟨b,o,none⟩)] #[]] w fun e d=>e= .returned (.tuple #[])/\Row d b T (jc A true c B)/\Keep (· =b) w d:=by
 subst l;have j:∀(x:Bool) (w:World),(Op.unary .not (.bool x)).run Tryz.prog w= .ok (.bool (!x)) w:=fun _ _=>rfl
 cases k with
 |false=>
  have g:w.cell? ⟨b,A.length,none⟩=some (.int .u32 0):=(a.cell _).trans (Ga ..);have m:=run_call_load (P:=Tryz.prog) Tryz.func214 (by kernel_rfl) (by kernel_rfl) (by kernel_rfl) .u32 (by kernel_rfl) g;have n:=ah (Qt A B b A.length T c w rfl a);clear a;go_enter Tryz.func165,Tryz.ntmps165;go_wp2_with (first|(go_at_call 198;refine n.out.mono ?_;rintro e d ⟨rfl,f,i⟩)|(go_at_call 197;go_in));go_end0;exact⟨rfl,f,i⟩
 |true=>
  have g:w.cell? ⟨b,A.length,none⟩=some (.int .u32 1):=(a.cell _).trans (Ga ..);have m:=run_call_load (P:=Tryz.prog) Tryz.func214 (by kernel_rfl) (by kernel_rfl) (by kernel_rfl) .u32 (by kernel_rfl) g;go_enter Tryz.func165,Tryz.ntmps165;go_wp2_with (go_at_call 197;go_in);go_end0;exact⟨rfl,a,Keep.refl _ _⟩
def G7 (r:Int)(b:UInt8):Int:=bits .xor .u32 (Ck (bits .xor .u8 (r%256) (b.toNat:Int))) (r/256)
def wN (l:List UInt8):Int:=l.foldl G7 4294967295
def uV (l:List UInt8):Int:=bits .xor .u32 4294967295 (wN l)
def BG (l:List UInt8)(b:UInt8):wN (l++[b])=G7 (wN l) b:=by simp[wN]
def Ab (l:List UInt8):0<=uV l/\uV l<4294967296:=wR _ _ _
def Eu (n:Int):0<=IntKind.u8.wrap n/\IntKind.u8.wrap n<256:=by rw[NH];omega
def EK (a:BinOp)(x y:Int):0<=bits a .u8 x y/\bits a .u8 x y<256:=by
 unfold bits
 split<;>exact Eu _
def G6 (l:List UInt8):0<=wN l/\wN l<4294967296:=by
 rcases xA l with rfl|⟨a,b,rfl⟩
 ·decide
 ·rw[xB,BG];exact wR _ _ _
theorem add_one (b o:Nat)(c a:Int)(w:World)(g:w.cell? ⟨b,o,none⟩=some (.int .i64 c))(i:w.frozen? ⟨b,o,none⟩=false)(h:Hid (IntKind.i64.wrap (c+1)=a)):
  Calls Tryz.prog 167 #[.pointer (some ⟨b,o,none⟩),.int .i64 1] w fun e f=>e= .returned (.int .i64 a)/\f=w.setCell ⟨b,o,none⟩ (.int .i64 a):=by
 have d:=run_call_add (P:=Tryz.prog) Tryz.func200 (by kernel_rfl) (by kernel_rfl) (by kernel_rfl) .i64 (by kernel_rfl) (y:=1) (s:=a) g i (by simp[go_sem];exact h.out);go_enter Tryz.func167,Tryz.ntmps167
 go_wp2
 go_ret;exact⟨rfl,rfl⟩
theorem Cc (A B:List Value)(b o T:Nat)(O:Bool)(c:Int)(v:Value)(l:List UInt8)(S:Nat->Prop)(w:World)(ho:A.length=o)(Q:Row w b T (jc A O c B))(I:aZ w S 1 v l.length (aI l))(hS:S b):
  Calls Tryz.prog 126 #[.pointer (some ⟨b,o,none⟩),v] w fun e J=>e= .returned (.int .u32 (uV l))/\∃j,Row J b T (jc A true j B)/\Keep (· =b) w J:=by
 subst ho;have y:=ah (Vg A B b A.length T O c w rfl Q);obtain⟨vo,vc,rfl,v1,v2,Y,v4⟩:=aZ.form I;clear Q;have V:=ah I;clear I Y v4;have pM:∀(P:Fn) (first cap:Array Value) (w:World),(Instr.makeFunc P first cap).run Tryz.prog w= .ok (.func P first cap) w:=fun _ _ _ _=>rfl
 go_enter Tryz.func126,Tryz.ntmps126;go_wp2_with (first|(go_at_call 165;go_must (refine y.out.mono ?_;rintro e D ⟨rfl,f,p⟩;refine sO ?_)))
 refine sN ?_;have C:D.cell? ⟨b,A.length+259,none⟩=some (.int .i64 c):=(f.cell _).trans (UL _ _ _ _ _ _ (vQ _));have t:D.frozen? ⟨b,A.length+259,none⟩=false:=f.frozen _;obtain⟨j,N⟩:=nm (IntKind.i64.wrap (c+1));have M:=ah (add_one b (A.length+259) c j D C t N);have d:=f.setCell (A.length+259) (.int .i64 j);rw[show (jc A true c B).set (A.length+259) (.int .i64 j)=jc A true j B from KP _ _ _ _ _ _ _ (vQ _)] at d;have a:Keep (· =b) w (D.setCell ⟨b,A.length+259,none⟩ (.int .i64 j)):=p.setCell (.inr rfl) _;clear f p C t;go_wp2_with (first|(go_at_call 167;go_must (refine M.out.mono ?_;rintro e W ⟨rfl,s⟩;rw[<-s] at d a;clear s;refine sO ?_)))
 refine sN ?_;have z:aZ W gB 1 (.slice vo l.length vc) l.length (aI l):=V.out.keep fun g hg hl hs=>⟨a.block g hl (fun e=>hs (e▸hS)),id⟩
 have F:=ah z;have x:=ah d;have H:=ah a;clear z a M N y V;go_wp2_with fail
 go_loop [5,24] (fun r i=>∃k:Nat,k<=l.length/\i= .int .i64 k/\r= .int .u32 (wN (l.take k))) (fun _ i=>l.length - (intOf i).toNat)
 case atStart=>exact⟨0,aS _,rfl,rfl⟩
 case round=>
  obtain⟨k,hk,rfl,rfl⟩:=hrel
  by_cases n:k<l.length
  ·have R:(k:Int)<(l.length:Int):=by omega
   obtain⟨vb,vq,rfl,qb⟩:=aZ.EM F.out rfl k (.int .u8 (l[k].toNat:Int)) (by simp[aI,n]);obtain⟨r,m⟩:=nm (wN (l.take k));have p9:0<=r/\r<4294967296:=(by rw[<-m.out];exact G6 _);rw[m.out];have E:=EK .xor (r%256) (l[k].toNat:Int);obtain⟨q,G⟩:∃q:Nat,Hid (bits .xor .u8 (r%256) (l[k].toNat:Int)=(q:Int)):=⟨(bits .xor .u8 (r%256) (l[k].toNat:Int)).toNat,ah (by omega)⟩
   have K:q<256:=(by have:=G.out;omega);have X:W.cell? ⟨b,A.length+3+q,none⟩=some (.int .u32 (Ck (q:Int))):=by
    rw[x.out.cell];exact(UM _ _ _ _ _ _ q (by rw[vQ];exact K)).trans (Bp q K)
   have Z:=G.out;clear d E;go_wp2_with fail;clear Z
   go_round
   case rel=>exact⟨k+1,by omega,by go_num,by rw[aL n,BG,m.out];unfold G7;rw[G.out]⟩
   case measure=>simp[intOf];omega
  ·obtain rfl:k=l.length:=by omega
   rw[bS];go_wp2_with fail;go_ret;exact⟨rfl,⟨j,x.out⟩,H.out⟩
