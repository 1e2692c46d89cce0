/- parts -/
import Derived.Test.YtpmbddooibgnaaaGreatDoorS10
set_option maxRecDepth 100000
set_option maxHeartbeats 8000000
set_option linter.all false
namespace Go.Proofs.YtpmbddooibgnaaaGreatDoor
open Go.RowKit
def Dk.lF (σ:Dk):Prop:=σ.dead=false/\σ.fuel= -1
theorem Dk.lF.dF {σ:Dk}(h:σ.lF):σ.dF=σ:=by
 unfold Dk.dF
 rw[if_neg (by rw[h.2];omega),if_neg (by rw[h.2];omega)]
theorem Dk.lF.write {σ:Dk}(h:σ.lF)(i:Nat)(l:List UInt8)(hi:i<σ.n)(hl:l.length<=512):σ.write i l=(σ.put i l,0):=by
 unfold Dk.write
 rw[h.dF,h.1]
 rw[if_neg (by simp),if_neg (by omega),if_neg (by omega),if_neg (by simp)]
 simp
theorem Dk.lF.sync {σ:Dk}(h:σ.lF):σ.sync=(σ.flush,0):=by
 unfold Dk.sync
 rw[h.dF,h.1]
 simp
theorem Dk.lF.put {σ:Dk}(h:σ.lF)(i:Nat)(l:List UInt8):(σ.put i l).lF:=h
theorem Dk.lF.flush {σ:Dk}(h:σ.lF):σ.flush.lF:=h
theorem Lg.wR {σ:Dk}(h:σ.lF)(l:Lg)(hl:l.frm<σ.n):l.mark σ=((σ.put l.frm l.dZ).flush,l,0):=by
 unfold Lg.mark
 rw[h.write _ _ hl (by rw[l.uZ];omega)]
 simp only[lH,(h.put _ _).sync]
def Lg.new (frm n:Nat):Lg:=⟨frm,n,0,0,[],0,0,false⟩
theorem Lg.Ok.new {frm n:Nat}(h1:2<=n)(h2:frm+n<=4096):(Lg.new frm n).Ok:=
 ⟨h1,h2,by show 0<n - 1;omega,aN _,by show 0<=_;omega,aA _,(fun e he=>by cases he),rfl⟩
theorem JQ (d frm n:Nat):(Tryz.zeroCells288.setIfInBounds 0 (.pointer (some ⟨d,0,none⟩))|>.setIfInBounds 1 (.int .i64 (frm:Int))|>.setIfInBounds 2 (.int .i64 (n:Int)))=(iC (iY d (Lg.new frm n) (.slice none 0 0)) false 0 []).toArray:=by kernel_rfl
theorem RY (d:Nat)(σ:Dk)(Sd:Nat->Prop)(frm n:Nat)(w:World)(h:qI w Sd d σ)(hf:σ.lF)(h1:2<=n)(h2:frm+n<=σ.n)(hcap:σ.waits.length<=100000):
  Calls Tryz.prog 90 #[.pointer (some ⟨d,0,none⟩),.int .i64 frm,.int .i64 n] w fun e w'=>∃lg Sd' Sl',e= .returned (.tuple #[.pointer (some ⟨lg,0,none⟩),.int .i64 0])/\
   iy w' Sd' Sl' lg d ((σ.flush.put frm (Lg.new frm n).dZ).flush) (Lg.new frm n)/\Step Sd (fun g=>Sd' g\/Sl' g) w w':=by
 have HR:=af (Nz d σ Sd frm n w h h1 h2)
 have hok:=Lg.Ok.new h1 (aG h2 h.ok.hi)
 have HH:=af h;have HFR:=af hf
 have hsync:=hf.sync
 have HSy:=af hsync
 clear h hf hsync
 go_enter Tryz.func90,Tryz.ntmps90
 go_wp2_with (first
  |(go_at_call 150;go_must (refine HR.out.mono ?_;rintro e w1 ⟨rfl,hw1⟩;subst w1)))
 rw[JQ d frm n]
 obtain⟨w1,HW1⟩:∃w1:World,Hid (w.alloc (.cells (iC (iY d (Lg.new frm n) (.slice none 0 0)) false 0 []).toArray 288)=w1):=⟨_,af rfl⟩
 have hb1:Below w.heap.size w w1:=by rw[<-HW1.out];exact aC w _
 have hr1:Row w1 w.heap.size 288 (iC (iY d (Lg.new frm n) (.slice none 0 0)) false 0 []):=by rw[<-HW1.out];exact Row.new w _ _
 have hl1:w.heap.size<w1.heap.size:=hr1.lt
 have hL1:qd w1 (fun g=>g=w.heap.size) w.heap.size d (Lg.new frm n):=
  ⟨_,_,_,hok,(fun g hg=>hg▸hl1),rfl,hr1,fun _=>kY.nil _ _ _,fun _ g hg=>by cases hg⟩
 have hA1:iy w1 Sd (fun g=>g=w.heap.size) w.heap.size d σ (Lg.new frm n):=⟨HH.out.below hb1,hL1,fun g hg e=>absurd (HH.out.sub g hg) (by rw[e];exact bY _),h2⟩
 have HF:=af (Ct d σ Sd w1 hA1.dk (by omega))
 rw[HSy.out] at HF
 have HA1:=af hA1;have HB1:=af hb1
 clear hr1 hl1 hL1 hA1 hb1
 rw[HW1.out]
 refine HF.out.mono ?_;rintro e w2 ⟨rfl,hD2,hs2⟩
 have hA2:=HA1.out.disk hD2 hs2 rfl
 have hM:=KL w.heap.size d σ.flush (Lg.new frm n) Sd (fun g=>g=w.heap.size) w2 hA2.1 rfl (by simp[Dk.flush])
 rw[Lg.wR HFR.out.flush (Lg.new frm n) (by show frm<σ.n;omega)] at hM
 have HM:=af hM;have HT2:=af hA2.2
 clear hM hA2 hD2 hs2
 go_wp2_with (first
  |(go_at_call 152;go_must (refine HM.out.mono ?_;rintro e w3 ⟨rfl,Sd3,Sl3,hA3,hT3⟩)))
 go_ret2
 refine⟨_,Sd3,Sl3,rfl,hA3,?_⟩
 have hT:=HT2.out.trans hT3
 refine⟨⟨hT.1.os.trans HB1.out.os,hT.1.tape.trans HB1.out.tape,hT.1.output.trans HB1.out.output,aG HB1.out.size hT.1.size,fun g hg hn=> ?_⟩,fun g hg=> ?_⟩
 ·rw[hT.1.block g (ax hg HB1.out.size) (fun e=>e.elim hn (fun e=>absurd hg (by rw[e];exact bY _)))]
  exact HB1.out.block g hg
 ·rcases hT.2 g hg with (hg|hg)|hg
  ·exact .inl hg
  ·exact .inr (by rw[hg];exact aA _)
  ·exact .inr (aG HB1.out.size hg)
end Go.Proofs.YtpmbddooibgnaaaGreatDoor
