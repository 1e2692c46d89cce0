/- parts -/
import Derived.Test.YtpmbddooibgnaaaGreatDoorS1
set_option maxRecDepth 100000
set_option maxHeartbeats 8000000
set_option linter.all false
namespace Go.Proofs.YtpmbddooibgnaaaGreatDoor
open Go.RowKit
theorem rO (v:Value)(n:Nat)(xs:List Value)(w:World)(S:Nat->Prop)(hS:∀g,S g->g<w.heap.size)(h:aW w S 1 v n xs)(h1:∀u∈xs,u.oneCell'=true)(hn:n<=1000000):
  Calls Tryz.prog 335 #[v] w fun e w'=>∃v',e= .returned v'/\aQ w' S w.heap.size 5 1 v' n xs/\Below w.heap.size w w':=by
 have hsrc:=h.src (P:=Tryz.prog) aO h1
 obtain⟨ao,c,rfl,g1,g2,g3,g4⟩:=h.form
 cases ao with
 |none=>
  obtain rfl:c=0:=g4 rfl
  obtain rfl:n=0:=by omega
  have hx:xs=[]:=bn (by obtain⟨_,_,_,_,_,e,_⟩:=h;simpa using e)
  subst hx
  have hq:=fun w=>Lib.run_eql_slice_nil (P:=Tryz.prog) w 154 5 none 0 0 0 0 aO
  clear hsrc h g3 g4
  go_enter Tryz.func335,Tryz.ntmps335
  go_wp2
  go_ret
  exact⟨_,rfl,aQ.nil _ _ _ _ _,aH _ _⟩
 |some ad=>
  have hq:=fun w=>Lib.run_eql_slice_nil (P:=Tryz.prog) w 154 5 (some ad) n c 0 0 aO
  have hn0:=yx (w:=w) (S:=S) (B:=w.heap.size) (e:=5) (k:=1) [] 0 0 rfl rfl (aA _) (aN _) (aA _) hS
  have hsrc':Src Tryz.prog 1 154 (.slice (some ad) n c) n xs (w.alloc (.cells #[] 5)):=(h.below (aC w _)).src aO h1
  clear hsrc h g3 g4
  go_enter Tryz.func335,Tryz.ntmps335
  go_wp2_with (at_builtin;(refine dS rfl (.tmp 5) (.tmp 6) 154 154 rfl S w.heap.size 5 1 1 _ aO iJ rfl (.slice (some ⟨w.heap.size,0,none⟩) 0 0) 0 [] rfl hn0 (.slice (some ad) n c) _ _ rfl hsrc' (jS hS _) ?_ ?_ ?_ ?_);(focus (simp only[aZ];omega));(focus (unfold maxLen;omega));(focus omega);intro ao1 c1 w1 hown1 hk1 hb1 hd1;simp only[iN])
  go_ret
  simp only[iN,mG] at hown1
  exact⟨_,rfl,hown1,(aC w _).trans hb1⟩
end Go.Proofs.YtpmbddooibgnaaaGreatDoor
