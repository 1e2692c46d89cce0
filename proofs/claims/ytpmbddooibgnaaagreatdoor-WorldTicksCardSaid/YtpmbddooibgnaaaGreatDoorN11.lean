/- parts -/
import Derived.Test.YtpmbddooibgnaaaGreatDoorN10
set_option maxRecDepth 100000
set_option maxHeartbeats 8000000
set_option linter.all false
namespace Go.Proofs.YtpmbddooibgnaaaGreatDoor
open Go.RowKit
def Dk.nH (σ:Dk):Prop:=σ.dead=false/\σ.fuel= -1
theorem Dk.nH.eu {a:Dk}(h:a.nH):a.eu=a:=by
 unfold Dk.eu
 rw[if_neg (by rw[h.2];omega),if_neg (by rw[h.2];omega)]
theorem Dk.nH.write {a:Dk}(h:a.nH)(i:Nat)(l:List UInt8)(b:i<a.n)(c:l.length<=512):a.write i l=(a.put i l,0):=by
 unfold Dk.write
 rw[h.eu,h.1]
 rw[if_neg (by simp),if_neg (by omega),if_neg (by omega),if_neg (by simp)]
 simp
theorem Dk.nH.sync {a:Dk}(h:a.nH):a.sync=(a.flush,0):=by
 unfold Dk.sync
 rw[h.eu,h.1]
 simp
theorem Dk.nH.put {a:Dk}(h:a.nH)(i:Nat)(l:List UInt8):(a.put i l).nH:=h
theorem Dk.nH.flush {a:Dk}(h:a.nH):a.flush.nH:=h
theorem Lg.zy {a:Dk}(h:a.nH)(l:Lg)(b:l.frm<a.n):l.mark a=((a.put l.frm l.d9).flush,l,0):=by
 unfold Lg.mark
 rw[h.write _ _ b (by rw[l.yw];omega)]
 simp only[jQ,(h.put _ _).sync]
def Lg.new (frm n:Nat):Lg:=⟨frm,n,0,0,[],0,0,false⟩
theorem Lg.Ok.new {a n:Nat}(c:2<=n)(d:a+n<=4096):(Lg.new a n).Ok:=
 ⟨c,d,by show 0<n - 1;omega,aR _,by show 0<=_;omega,aC _,(fun e b=>by cases b),rfl⟩
theorem Dw (d a n:Nat):(Tryz.zeroCells288.setIfInBounds 0 (.pointer (some ⟨d,0,none⟩))|>.setIfInBounds 1 (.int .i64 (a:Int))|>.setIfInBounds 2 (.int .i64 (n:Int)))=(gH (gm d (Lg.new a n) (.slice none 0 0)) false 0 []).toArray:=by kernel_rfl
theorem Wo (d:Nat)(i:Dk)(r:Nat->Prop)(a n:Nat)(w:World)(h:qL w r d i)(E:i.nH)(O:2<=n)(B:a+n<=i.n)(S:i.waits.length<=100000):
  Calls Tryz.prog 90 #[.pointer (some ⟨d,0,none⟩),.int .i64 a,.int .i64 n] w fun e Q=>∃P s y,e= .returned (.tuple #[.pointer (some ⟨P,0,none⟩),.int .i64 0])/\
   gK Q s y P d ((i.flush.put a (Lg.new a n).d9).flush) (Lg.new a n)/\Step r (fun g=>s g\/y g) w Q:=by
 have Y:=ah (Kz d i r a n w h O B)
 have J:=Lg.Ok.new O (aI B h.ok.hi)
 have N:=ah h;have M:=ah E
 have f:=E.sync
 have D:=ah f
 clear h E f
 go_enter Tryz.func90,Tryz.ntmps90
 go_wp2_with (first
  |(go_at_call 150;go_must (refine Y.out.mono ?_;rintro e j ⟨rfl,X⟩;subst j)))
 rw[Dw d a n]
 obtain⟨j,o⟩:∃j:World,Hid (w.alloc (.cells (gH (gm d (Lg.new a n) (.slice none 0 0)) false 0 []).toArray 288)=j):=⟨_,ah rfl⟩
 have l:Below w.heap.size w j:=by rw[<-o.out];exact aG w _
 have m:Row j w.heap.size 288 (gH (gm d (Lg.new a n) (.slice none 0 0)) false 0 []):=by rw[<-o.out];exact Row.new w _ _
 have z:w.heap.size<j.heap.size:=m.lt
 have v:sP j (fun g=>g=w.heap.size) w.heap.size d (Lg.new a n):=
  ⟨_,_,_,J,(fun g b=>b▸z),rfl,m,fun _=>lI.nil _ _ _,fun _ g b=>by cases b⟩
 have p:gK j r (fun g=>g=w.heap.size) w.heap.size d i (Lg.new a n):=⟨N.out.below l,v,fun g b e=>absurd (N.out.sub g b) (by rw[e];exact cO _),B⟩
 have R:=ah (ER d i r j p.dk (by omega))
 rw[D.out] at R
 have C:=ah p;have c:=ah l
 clear m z v p l
 rw[o.out]
 refine R.out.mono ?_;rintro e T ⟨rfl,x,t⟩
 have k:=C.out.disk x t rfl
 have F:=Oc w.heap.size d i.flush (Lg.new a n) r (fun g=>g=w.heap.size) T k.1 rfl (by simp[Dk.flush])
 rw[Lg.zy M.out.flush (Lg.new a n) (by show a<i.n;omega)] at F
 have W:=ah F;have I:=ah k.2
 clear F k x t
 go_wp2_with (first
  |(go_at_call 152;go_must (refine W.out.mono ?_;rintro e Z ⟨rfl,H,K,G,A⟩)))
 go_ret2
 refine⟨_,H,K,rfl,G,?_⟩
 have q:=I.out.trans A
 refine⟨⟨q.1.os.trans c.out.os,q.1.tape.trans c.out.tape,q.1.output.trans c.out.output,aI c.out.size q.1.size,fun g b V=> ?_⟩,fun g b=> ?_⟩
 ·rw[q.1.block g (aA b c.out.size) (fun e=>e.elim V (fun e=>absurd b (by rw[e];exact cO _)))]
  exact c.out.block g b
 ·rcases q.2 g b with (b|b)|b
  ·exact .inl b
  ·exact .inr (by rw[b];exact aC _)
  ·exact .inr (aI c.out.size b)
end Go.Proofs.YtpmbddooibgnaaaGreatDoor
