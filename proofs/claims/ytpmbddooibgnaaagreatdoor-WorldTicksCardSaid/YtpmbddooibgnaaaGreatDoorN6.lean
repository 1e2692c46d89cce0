/- parts -/
import Derived.Test.YtpmbddooibgnaaaGreatDoorN5
set_option maxRecDepth 100000
set_option maxHeartbeats 8000000
set_option linter.all false
namespace Go.Proofs.YtpmbddooibgnaaaGreatDoor
open Go.RowKit
def EU (r:Int)(b:UInt8):Int:=bits .xor .u32 (AU (bits .xor .u8 (r%256) (b.toNat:Int))) (r/256)
def vB (l:List UInt8):Int:=l.foldl EU 4294967295
def tL (l:List UInt8):Int:=bits .xor .u32 4294967295 (vB l)
theorem Af (l:List UInt8)(b:UInt8):vB (l++[b])=EU (vB l) b:=by simp[vB]
theorem yH (l:List UInt8):0<=tL l/\tL l<4294967296:=vF _ _ _
theorem CG (n:Int):0<=IntKind.u8.wrap n/\IntKind.u8.wrap n<256:=by rw[IntKind.wrap_u8];omega
theorem CX (a:BinOp)(x y:Int):0<=bits a .u8 x y/\bits a .u8 x y<256:=by
 unfold bits
 split<;>exact CG _
theorem ET (l:List UInt8):0<=vB l/\vB l<4294967296:=by
 rcases I4 l with rfl|⟨a,b,rfl⟩
 ·decide
 ·rw[I5,Af];exact vF _ _ _
theorem add_one (b o:Nat)(c a:Int)(w:World)(g:w.cell? ⟨b,o,none⟩=some (.int .i64 c))(f:w.frozen? ⟨b,o,none⟩=false)(h:Hid (IntKind.i64.wrap (c+1)=a)):
  Calls Tryz.prog 31 #[.pointer (some ⟨b,o,none⟩),.int .i64 1] w fun e i=>e= .returned (.int .i64 a)/\i=w.setCell ⟨b,o,none⟩ (.int .i64 a):=by
 have d:=run_call_add (P:=Tryz.prog) Tryz.func70 (by kernel_rfl) (by kernel_rfl) (by kernel_rfl) .i64 (by kernel_rfl) (y:=1) (s:=a) g f (by simp[go_sem];exact h.out)
 go_enter Tryz.func31,Tryz.ntmps31
 go_wp2
 go_ret
 exact⟨rfl,rfl⟩
theorem AO (A B:List Value)(b o T:Nat)(Q:Bool)(c:Int)(v:Value)(l:List UInt8)(S:Nat->Prop)(w:World)(ho:A.length=o)(O:Row w b T (gH A Q c B))(H:bq w S 1 v l.length (aF l))(Z:S b):
  Calls Tryz.prog 158 #[.pointer (some ⟨b,o,none⟩),v] w fun e M=>e= .returned (.int .u32 (tL l))/\∃a,Row M b T (gH A true a B)/\Keep (· =b) w M:=by
 subst ho
 have x:=ah (VH A B b A.length T Q c w rfl O)
 obtain⟨vo,vc,rfl,v1,v2,v3,v4⟩:=bq.form H
 clear O
 have R:=ah H;clear H v3 v4
 have pV:∀(P:Fn) (first cap:Array Value) (w:World),(Instr.makeFunc P first cap).run Tryz.prog w= .ok (.func P first cap) w:=fun _ _ _ _=>rfl
 go_enter Tryz.func158,Tryz.ntmps158
 go_wp2_with (first
  |(go_at_call 68;go_must (refine x.out.mono ?_;rintro e D ⟨rfl,f,y⟩;refine Stop.of ?_)))
 refine Stop.on ?_
 have t:D.cell? ⟨b,A.length+259,none⟩=some (.int .i64 c):=(f.cell _).trans (UI _ _ _ _ _ _ (uK _))
 have n:D.frozen? ⟨b,A.length+259,none⟩=false:=f.frozen _
 obtain⟨a,V⟩:∃a,Hid (IntKind.i64.wrap (c+1)=a):=⟨_,ah rfl⟩
 have K:=ah (add_one b (A.length+259) c a D t n V)
 have d:=f.setCell (A.length+259) (.int .i64 a)
 rw[show (gH A true c B).set (A.length+259) (.int .i64 a)=gH A true a B from Jq _ _ _ _ _ _ _ (uK _)] at d
 have j:Keep (· =b) w (D.setCell ⟨b,A.length+259,none⟩ (.int .i64 a)):=y.setCell (.inr rfl) _
 clear f y t n
 go_wp2_with (first
  |(go_at_call 31;go_must (refine K.out.mono ?_;rintro e J ⟨rfl,z⟩;rw[<-z] at d j;clear z;refine Stop.of ?_)))
 refine Stop.on ?_
 have C:bq J eG 1 (.slice vo l.length vc) l.length (aF l):=R.out.keep fun g hg hl Y=>⟨j.block g hl (fun e=>Y (e▸Z)),id⟩
 have G:=ah C;have p:=ah d;have E:=ah j
 clear C j K V x R
 go_wp2_with fail
 go_loop [5,24] (fun r i=>∃k:Nat,k<=l.length/\i= .int .i64 k/\r= .int .u32 (vB (l.take k))) (fun _ i=>l.length - (intOf i).toNat)
 case atStart=>exact⟨0,aR _,rfl,rfl⟩
 case round=>
  obtain⟨k,hk,rfl,rfl⟩:=hrel
  by_cases s:k<l.length
  ·have N:(k:Int)<(l.length:Int):=by omega
   obtain⟨vb,vq,rfl,qc⟩:=bq.Cq G.out rfl k (.int .u8 (l[k].toNat:Int)) (by simp[aF,s])
   obtain⟨r,m⟩:∃r,Hid (vB (l.take k)=r):=⟨_,ah rfl⟩
   have p9:0<=r/\r<4294967296:=by rw[<-m.out];exact ET _
   rw[m.out]
   have F:=CX .xor (r%256) (l[k].toNat:Int)
   obtain⟨q,I⟩:∃q:Nat,Hid (bits .xor .u8 (r%256) (l[k].toNat:Int)=(q:Int)):=⟨(bits .xor .u8 (r%256) (l[k].toNat:Int)).toNat,ah (by omega)⟩
   have W:q<256:=by have:=I.out;omega
   have qb:J.cell? ⟨b,A.length+3+q,none⟩=some (.int .u32 (AU (q:Int))):=by
    rw[p.out.cell]
    exact(UJ _ _ _ _ _ _ q (by rw[uK];exact W)).trans (zW q W)
   have X:=I.out
   clear d F
   go_wp2_with fail
   clear X
   go_round
   case rel=>exact⟨k+1,by omega,by go_num,by rw[aO s,Af,m.out];unfold EU;rw[I.out]⟩
   case measure=>simp[intOf];omega
  ·obtain rfl:k=l.length:=by omega
   rw[bL]
   go_wp2_with fail
   go_ret
   exact⟨rfl,⟨a,p.out⟩,E.out⟩
end Go.Proofs.YtpmbddooibgnaaaGreatDoor
