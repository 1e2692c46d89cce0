--
import Derived.Test.YtogbkgmlhhahdaaGreatT9
set_option maxRecDepth 100000
set_option maxHeartbeats 0
set_option linter.all false
namespace Go.Proofs.YtogbkgmlhhahdaaGreat
open Go.RowKit
variable{a:Dk}
def Dk.oK (σ:Dk):Prop:=σ.dead=false/\σ.fuel= -1
def Dk.oK.fK {a:Dk}(h:a.oK):a.fK=a:=by
 unfold Dk.fK;rw[if_neg (by rw[h.2];omega),if_neg (by rw[h.2];omega)]
def Dk.oK.write (h:a.oK)(i:Nat)(l:List UInt8)(c:i<a.n)(b:l.length<=512):a.write i l=(a.put i l,0):=by
 unfold Dk.write;rw[h.fK,h.1];rw[if_neg (by simp),if_neg (by omega),if_neg (by omega),if_neg (by simp)];simp
def Dk.oK.sync (h:a.oK):a.sync=(a.flush,0):=by
 unfold Dk.sync;rw[h.fK,h.1];simp
def Dk.oK.put (h:a.oK)(i:Nat)(l:List UInt8):(a.put i l).oK:=h
def Dk.oK.flush (h:a.oK):a.flush.oK:=h
def Lg.AO (h:a.oK)(l:Lg)(b:l.frm<a.n):l.mark a=((a.put l.frm l.fJ).flush,l,0):=by
 unfold Lg.mark;rw[h.write _ _ b (by rw[l.zP];omega)];simp only[iX,(h.put _ _).sync]
def Lg.new (frm n:Nat):Lg:=⟨frm,n,0,0,[],0,0,false⟩
def Lg.Ok.new {a n:Nat}(d:2<=n)(c:a+n<=4096):(Lg.new a n).Ok:=
 ⟨d,c,by show 0<n - 1;omega,aS _,by show 0<=_;omega,aD _,(fun e b=>by cases b),rfl⟩
def Fq (d a n:Nat):(Tryz.zeroCells224.setIfInBounds 0 (.pointer (some ⟨d,0,none⟩))|>.setIfInBounds 1 (.int .i64 (a:Int))|>.setIfInBounds 2 (.int .i64 (n:Int)))=(jc (iI d (Lg.new a n) (.slice none 0 0)) false 0 []).toArray:=by kernel_rfl
theorem VL (d:Nat)(i:Dk)(r:Nat->Prop)(a n:Nat)(w:World)(h:qK w r d i)(F:i.oK)(Q:2<=n)(A:a+n<=i.n)(R:i.waits.length<=100000):
  Calls Tryz.prog 79 #[.pointer (some ⟨d,0,none⟩),.int .i64 a,.int .i64 n] w fun e N=>∃P s v,e= .returned (.tuple #[.pointer (some ⟨P,0,none⟩),.int .i64 0])/\
   jg N s v P d ((i.flush.put a (Lg.new a n).fJ).flush) (Lg.new a n)/\Step r (fun g=>s g\/v g) w N:=by
 have V:=ah (ME d i r a n w h Q A);have I:=Lg.Ok.new Q (aK A h.ok.hi);have S:=ah h;have C:=ah F;have f:=F.sync;have M:=ah f;clear h F f;go_enter Tryz.func79,Tryz.ntmps79;go_wp2_with (first|(go_at_call 123;go_must (refine V.out.mono ?_;rintro e j ⟨rfl,W⟩;subst j)))
 rw[Fq d a n];obtain⟨j,m⟩:=nm (w.alloc (.cells (jc (iI d (Lg.new a n) (.slice none 0 0)) false 0 []).toArray 224));have p:Below w.heap.size w j:=by rw[<-m.out];exact aN w _
 have o:Row j w.heap.size 224 (jc (iI d (Lg.new a n) (.slice none 0 0)) false 0 []):=by rw[<-m.out];exact Row.new w _ _
 have z:w.heap.size<j.heap.size:=o.lt;have t:uq j (fun g=>g=w.heap.size) w.heap.size d (Lg.new a n):=
  ⟨_,_,_,I,(fun g b=>b▸z),rfl,o,fun _=>mO.nil _ _ _,fun _ g b=>by cases b⟩
 have k:jg j r (fun g=>g=w.heap.size) w.heap.size d i (Lg.new a n):=⟨S.out.below p,t,fun g b e=>absurd (S.out.sub g b) (by rw[e];exact dB _),A⟩;have O:=ah (GX d i r j k.dk (by omega));rw[M.out] at O;have D:=ah k;have c:=ah p;clear o z t k p;rw[m.out];refine O.out.mono ?_;rintro e Y ⟨rfl,x,y⟩;have l:=D.out.disk x y rfl;have B:=PX w.heap.size d i.flush (Lg.new a n) r (fun g=>g=w.heap.size) Y l.1 rfl (by simp[Dk.flush]);rw[Lg.AO C.out.flush (Lg.new a n) (by show a<i.n;omega)] at B;have T:=ah B;have K:=ah l.2;clear B l x y;go_wp2_with (first|(go_at_call 129;go_must (refine T.out.mono ?_;rintro e Z ⟨rfl,J,G,E,H⟩)))
 go_ret2;refine⟨_,J,G,rfl,E,?_⟩;have q:=K.out.trans H;refine⟨⟨q.1.os.trans c.out.os,q.1.tape.trans c.out.tape,q.1.output.trans c.out.output,aK c.out.size q.1.size,fun g b X=> ?_⟩,fun g b=> ?_⟩
 ·rw[q.1.block g (ax b c.out.size) (fun e=>e.elim X (fun e=>absurd b (by rw[e];exact dB _)))]
  exact c.out.block g b
 ·rcases q.2 g b with (b|b)|b
  ·exact .inl b
  ·exact .inr (by rw[b];exact aD _)
  ·exact .inr (aK c.out.size b)
