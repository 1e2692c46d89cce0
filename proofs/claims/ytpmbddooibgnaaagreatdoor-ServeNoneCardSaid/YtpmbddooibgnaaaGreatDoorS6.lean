/- parts -/
import Derived.Test.YtpmbddooibgnaaaGreatDoorS5
set_option maxRecDepth 100000
set_option maxHeartbeats 8000000
set_option linter.all false
namespace Go.Proofs.YtpmbddooibgnaaaGreatDoor
open Go.RowKit
def Cv (r:Int)(b:UInt8):Int:=bits .xor .u32 (yD (bits .xor .u8 (r%256) (b.toNat:Int))) (r/256)
def rJ (l:List UInt8):Int:=l.foldl Cv 4294967295
def tZ (l:List UInt8):Int:=bits .xor .u32 4294967295 (rJ l)
theorem xO (l:List UInt8)(b:UInt8):rJ (l++[b])=Cv (rJ l) b:=by simp[rJ]
theorem vL (l:List UInt8):0<=tZ l/\tZ l<4294967296:=rR _ _ _
theorem z8 (n:Int):0<=IntKind.u8.wrap n/\IntKind.u8.wrap n<256:=by rw[IntKind.wrap_u8];omega
theorem Am (op:BinOp)(x y:Int):0<=bits op .u8 x y/\bits op .u8 x y<256:=by
 unfold bits
 split<;>exact z8 _
theorem Cu (l:List UInt8):0<=rJ l/\rJ l<4294967296:=by
 rcases FB l with rfl|⟨l',b,rfl⟩
 ·decide
 ·rw[FC,xO];exact rR _ _ _
theorem add_one (b o:Nat)(c c':Int)(w:World)(hc:w.cell? ⟨b,o,none⟩=some (.int .i64 c))(hz:w.frozen? ⟨b,o,none⟩=false)(h:Hid (IntKind.i64.wrap (c+1)=c')):
  Calls Tryz.prog 31 #[.pointer (some ⟨b,o,none⟩),.int .i64 1] w fun e w'=>e= .returned (.int .i64 c')/\w'=w.setCell ⟨b,o,none⟩ (.int .i64 c'):=by
 have hadd:=run_call_add (P:=Tryz.prog) Tryz.func70 (by kernel_rfl) (by kernel_rfl) (by kernel_rfl) .i64 (by kernel_rfl) (y:=1) (s:=c') hc hz (by simp[go_sem];exact h.out)
 go_enter Tryz.func31,Tryz.ntmps31
 go_wp2
 go_ret
 exact⟨rfl,rfl⟩
theorem G7 (A B:List Value)(b o T:Nat)(dn:Bool)(c:Int)(v:Value)(l:List UInt8)(S:Nat->Prop)(w:World)(ho:A.length=o)(hr:Row w b T (iC A dn c B))(hv:aW w S 1 v l.length (aB l))(hS:S b):
  Calls Tryz.prog 158 #[.pointer (some ⟨b,o,none⟩),v] w fun e w'=>e= .returned (.int .u32 (tZ l))/\∃c',Row w' b T (iC A true c' B)/\Keep (· =b) w w':=by
 subst ho
 have HDo:=af (Rs A B b A.length T dn c w rfl hr)
 obtain⟨vo,vc,rfl,v1,v2,v3,v4⟩:=aW.form hv
 clear hr
 have HV:=af hv;clear hv v3 v4
 have hmf:∀(fn:Fn) (first cap:Array Value) (w:World),(Instr.makeFunc fn first cap).run Tryz.prog w= .ok (.func fn first cap) w:=fun _ _ _ _=>rfl
 go_enter Tryz.func158,Tryz.ntmps158
 go_wp2_with (first
  |(go_at_call 68;go_must (refine HDo.out.mono ?_;rintro e w1 ⟨rfl,hr1,hk1⟩;refine Stop.of ?_)))
 refine Stop.on ?_
 have hc1:w1.cell? ⟨b,A.length+259,none⟩=some (.int .i64 c):=(hr1.cell _).trans (Qv _ _ _ _ _ _ (qR _))
 have hz1:w1.frozen? ⟨b,A.length+259,none⟩=false:=hr1.frozen _
 obtain⟨c',HC⟩:∃c',Hid (IntKind.i64.wrap (c+1)=c'):=⟨_,af rfl⟩
 have HA:=af (add_one b (A.length+259) c c' w1 hc1 hz1 HC)
 have hr2:=hr1.setCell (A.length+259) (.int .i64 c')
 rw[show (iC A true c B).set (A.length+259) (.int .i64 c')=iC A true c' B from FW _ _ _ _ _ _ _ (qR _)] at hr2
 have hk2:Keep (· =b) w (w1.setCell ⟨b,A.length+259,none⟩ (.int .i64 c')):=hk1.setCell (.inr rfl) _
 clear hr1 hk1 hc1 hz1
 go_wp2_with (first
  |(go_at_call 31;go_must (refine HA.out.mono ?_;rintro e w2 ⟨rfl,hw2⟩;rw[<-hw2] at hr2 hk2;clear hw2;refine Stop.of ?_)))
 refine Stop.on ?_
 have hvs:aW w2 d9 1 (.slice vo l.length vc) l.length (aB l):=HV.out.keep fun g hg hl hs=>⟨hk2.block g hl (fun e=>hs (e▸hS)),id⟩
 have HVS:=af hvs;have HR2:=af hr2;have HK2:=af hk2
 clear hvs hk2 HA HC HDo HV
 go_wp2_with fail
 go_loop [5,24] (fun r i=>∃k:Nat,k<=l.length/\i= .int .i64 k/\r= .int .u32 (rJ (l.take k))) (fun _ i=>l.length - (intOf i).toNat)
 case atStart=>exact⟨0,aN _,rfl,rfl⟩
 case round=>
  obtain⟨k,hk,rfl,rfl⟩:=hrel
  by_cases hlt:k<l.length
  ·have hltI:(k:Int)<(l.length:Int):=by omega
   obtain⟨vb,vq,rfl,hcv⟩:=aW.Bz HVS.out rfl k (.int .u8 (l[k].toNat:Int)) (by simp[aB,hlt])
   obtain⟨r,HRr⟩:∃r,Hid (rJ (l.take k)=r):=⟨_,af rfl⟩
   have hrr:0<=r/\r<4294967296:=by rw[<-HRr.out];exact Cu _
   rw[HRr.out]
   have hix:=Am .xor (r%256) (l[k].toNat:Int)
   obtain⟨q,HQ⟩:∃q:Nat,Hid (bits .xor .u8 (r%256) (l[k].toNat:Int)=(q:Int)):=⟨(bits .xor .u8 (r%256) (l[k].toNat:Int)).toNat,af (by omega)⟩
   have hq:q<256:=by have:=HQ.out;omega
   have hrw:w2.cell? ⟨b,A.length+3+q,none⟩=some (.int .u32 (yD (q:Int))):=by
    rw[HR2.out.cell]
    exact(Qw _ _ _ _ _ _ q (by rw[qR];exact hq)).trans (xE q hq)
   have hQ:=HQ.out
   clear hr2 hix
   go_wp2_with fail
   clear hQ
   go_round
   case rel=>exact⟨k+1,by omega,by go_num,by rw[aM hlt,xO,HRr.out];unfold Cv;rw[HQ.out]⟩
   case measure=>simp[intOf];omega
  ·obtain rfl:k=l.length:=by omega
   rw[bW]
   go_wp2_with fail
   go_ret
   exact⟨rfl,⟨c',HR2.out⟩,HK2.out⟩
end Go.Proofs.YtpmbddooibgnaaaGreatDoor
