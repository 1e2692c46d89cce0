/- parts -/
import Derived.Test.YtpmbddooibgnaaaGreatDoorN1
set_option maxRecDepth 100000
set_option maxHeartbeats 8000000
set_option linter.all false
namespace Go.Proofs.YtpmbddooibgnaaaGreatDoor
open Go.RowKit
theorem vD (v:Value)(n:Nat)(f:List Value)(w:World)(S:Nat->Prop)(o:∀g,S g->g<w.heap.size)(h:bq w S 1 v n f)(p:∀u∈f,u.oneCell'=true)(F:n<=1000000):
  Calls Tryz.prog 335 #[v] w fun e q=>∃r,e= .returned r/\aV q S w.heap.size 5 1 r n f/\Below w.heap.size w q:=by
 have b:=h.src (P:=Tryz.prog) aU p
 obtain⟨z,c,rfl,G,H,s,m⟩:=h.form
 cases z with
 |none=>
  obtain rfl:c=0:=m rfl
  obtain rfl:n=0:=by omega
  have t:f=[]:=bK (by obtain⟨_,_,_,_,_,e,_⟩:=h;simpa using e)
  subst t
  have C:=fun w=>Lib.run_eql_slice_nil (P:=Tryz.prog) w 154 5 none 0 0 0 0 aU
  clear b h s m
  go_enter Tryz.func335,Tryz.ntmps335
  go_wp2
  go_ret
  exact⟨_,rfl,aV.nil _ _ _ _ _,aJ _ _⟩
 |some l=>
  have C:=fun w=>Lib.run_eql_slice_nil (P:=Tryz.prog) w 154 5 (some l) n c 0 0 aU
  have j:=yc (w:=w) (S:=S) (B:=w.heap.size) (e:=5) (k:=1) [] 0 0 rfl rfl (aC _) (aR _) (aC _) o
  have d:Src Tryz.prog 1 154 (.slice (some l) n c) n f (w.alloc (.cells #[] 5)):=(h.below (aG w _)).src aU p
  clear b h s m
  go_enter Tryz.func335,Tryz.ntmps335
  go_wp2_with (at_builtin;(refine dQ rfl (.tmp 5) (.tmp 6) 154 154 rfl S w.heap.size 5 1 1 _ aU jl rfl (.slice (some ⟨w.heap.size,0,none⟩) 0 0) 0 [] rfl j (.slice (some l) n c) _ _ rfl d (kP o _) ?_ ?_ ?_ ?_);(focus (simp only[bD];omega));(focus (unfold maxLen;omega));(focus omega);intro A D E a y i x;simp only[fZ])
  go_ret
  simp only[fZ,oG] at a
  exact⟨_,rfl,a,(aG w _).trans i⟩
end Go.Proofs.YtpmbddooibgnaaaGreatDoor
