/- parts -/
import Derived.Test.YtpgdljlghiifjaaGreatDoorJ6
namespace Go.Proofs.YtpgdljlghiifjaaGreatDoor
open Go.RowKit
set_option maxRecDepth 100000
set_option maxHeartbeats 8000000
set_option linter.all false
def Dk.nQ (σ:Dk):Prop:=σ.dead=false∧σ.fuel= -1
theorem Dk.nQ.iQ {σ:Dk} (h:σ.nQ):σ.iQ=σ:=by
 unfold Dk.iQ
 rw[if_neg (by rw[h.2];omega),if_neg (by rw[h.2];omega)]
theorem Dk.nQ.write {σ:Dk} (h:σ.nQ) (i:Nat) (l:List UInt8) (hi:i<σ.n) (hl:l.length≤512):σ.write i l=(σ.put i l,0):=by
 unfold Dk.write
 rw[h.iQ,h.1]
 rw[if_neg (by simp),if_neg (by omega),if_neg (by omega),if_neg (by simp)]
 simp
theorem Dk.nQ.sync {σ:Dk} (h:σ.nQ):σ.sync=(σ.flush,0):=by
 unfold Dk.sync
 rw[h.iQ,h.1]
 simp
theorem Dk.nQ.put {σ:Dk} (h:σ.nQ) (i:Nat) (l:List UInt8):(σ.put i l).nQ:=h
theorem Dk.nQ.flush {σ:Dk} (h:σ.nQ):σ.flush.nQ:=h
theorem Lg.xS {σ:Dk} (h:σ.nQ) (l:Lg) (hl:l.frm<σ.n):l.mark σ=((σ.put l.frm l.kY).flush,l,0):=by
 unfold Lg.mark
 rw[h.write _ _ hl (by rw[l.DJ];omega)]
 simp only[iT,(h.put _ _).sync]
def Lg.new (frm n:Nat):Lg:=⟨frm,n,0,0,[],0,0,false⟩
theorem Lg.Ok.new {frm n:Nat} (h1:2≤n) (h2:frm+n≤4096):(Lg.new frm n).Ok:=
 ⟨h1,h2,by show 0<n - 1;omega,aY _,by show 0≤_;omega,aG _,(fun e he=>by cases he),rfl⟩
theorem KI (d frm n:Nat):(Tryz.zeroCells230.setIfInBounds 0 (.pointer (some ⟨d,0,none⟩))|>.setIfInBounds 1 (.int .i64 (frm:Int))|>.setIfInBounds 2 (.int .i64 (n:Int)))=(jk (jG d (Lg.new frm n) (.slice none 0 0)) false 0 []).toArray:=by kernel_rfl
theorem Rf (d:Nat) (σ:Dk) (Sd:Nat→Prop) (frm n:Nat) (w:World) (h:qO w Sd d σ) (hf:σ.nQ) (h1:2≤n) (h2:frm+n≤σ.n) (hcap:σ.waits.length≤100000):
  Calls Tryz.prog 82 #[.pointer (some ⟨d,0,none⟩),.int .i64 frm,.int .i64 n] w fun e w'=>∃lg Sd' Sl',e= .returned (.tuple #[.pointer (some ⟨lg,0,none⟩),.int .i64 0])∧
   jh w' Sd' Sl' lg d ((σ.flush.put frm (Lg.new frm n).kY).flush) (Lg.new frm n)∧Step Sd (fun g=>Sd' g∨Sl' g) w w':=by
 have HR:=af (Oz d σ Sd frm n w h h1 h2)
 have hok:=Lg.Ok.new h1 (aH h2 h.ok.hi)
 have HH:=af h;have HFR:=af hf
 have hsync:=hf.sync
 have HSy:=af hsync
 clear h hf hsync
 go_enter Tryz.func82,Tryz.ntmps82
 go_wp2_with (first
  |(go_at_call 130;go_must (refine HR.out.mono ?_;rintro e w1 ⟨rfl,hw1⟩;subst w1)))
 rw[KI d frm n]
 obtain⟨w1,HW1⟩:∃w1:World,Hid (w.alloc (.cells (jk (jG d (Lg.new frm n) (.slice none 0 0)) false 0 []).toArray 230)=w1):=⟨_,af rfl⟩
 have hb1:Below w.heap.size w w1:=by rw[←HW1.out];exact aI w _
 have hr1:Row w1 w.heap.size 230 (jk (jG d (Lg.new frm n) (.slice none 0 0)) false 0 []):=by rw[←HW1.out];exact Row.new w _ _
 have hl1:w.heap.size<w1.heap.size:=hr1.lt
 have hL1:pW w1 (fun g=>g=w.heap.size) w.heap.size d (Lg.new frm n):=
  ⟨_,_,_,hok,(fun g hg=>hg▸hl1),rfl,hr1,fun _=>lY.nil _ _ _,fun _ g hg=>by cases hg⟩
 have hA1:jh w1 Sd (fun g=>g=w.heap.size) w.heap.size d σ (Lg.new frm n):=⟨HH.out.below hb1,hL1,fun g hg e=>absurd (HH.out.sub g hg) (by rw[e];exact dI _),h2⟩
 have HF:=af (DZ d σ Sd w1 hA1.dk (by omega))
 rw[HSy.out] at HF
 have HA1:=af hA1;have HB1:=af hb1
 clear hr1 hl1 hL1 hA1 hb1
 rw[HW1.out]
 refine HF.out.mono ?_;rintro e w2 ⟨rfl,hD2,hs2⟩
 have hA2:=HA1.out.disk hD2 hs2 rfl
 have hM:=LM w.heap.size d σ.flush (Lg.new frm n) Sd (fun g=>g=w.heap.size) w2 hA2.1 rfl (by simp[Dk.flush])
 rw[Lg.xS HFR.out.flush (Lg.new frm n) (by show frm<σ.n;omega)] at hM
 have HM:=af hM;have HT2:=af hA2.2
 clear hM hA2 hD2 hs2
 go_wp2_with (first
  |(go_at_call 132;go_must (refine HM.out.mono ?_;rintro e w3 ⟨rfl,Sd3,Sl3,hA3,hT3⟩)))
 go_ret2
 refine⟨_,Sd3,Sl3,rfl,hA3,?_⟩
 have hT:=HT2.out.trans hT3
 refine⟨⟨hT.1.os.trans HB1.out.os,hT.1.tape.trans HB1.out.tape,hT.1.output.trans HB1.out.output,aH HB1.out.size hT.1.size,fun g hg hn=> ?_⟩,fun g hg=> ?_⟩
 ·rw[hT.1.block g (ax hg HB1.out.size) (fun e=>e.elim hn (fun e=>absurd hg (by rw[e];exact dI _)))]
  exact HB1.out.block g hg
 ·rcases hT.2 g hg with (hg|hg)|hg
  ·exact .inl hg
  ·exact .inr (by rw[hg];exact aG _)
  ·exact .inr (aH HB1.out.size hg)
end Go.Proofs.YtpgdljlghiifjaaGreatDoor
