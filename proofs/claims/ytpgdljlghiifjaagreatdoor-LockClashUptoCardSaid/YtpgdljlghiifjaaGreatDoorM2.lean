/- parts -/
import Derived.Test.YtpgdljlghiifjaaGreatDoorM1
set_option maxRecDepth 100000
set_option maxHeartbeats 8000000
set_option linter.all false
namespace Go.Proofs.YtpgdljlghiifjaaGreatDoor
open Go.RowKit
theorem uR (v:Value)(n:Nat)(xs:List Value)(w:World)(S:Nat->Prop)(hS:∀g,S g->g<w.heap.size)(h:bJ w S 1 v n xs)(h1:∀u∈xs,u.oneCell'=true)(hn:n<=1000000):
  Calls Tryz.prog 142 #[v] w fun e w'=>∃v',e= .returned v'/\aT w' S w.heap.size 5 1 v' n xs/\Below w.heap.size w w':=by
 have hsrc:=h.src (P:=Tryz.prog) bH h1
 obtain⟨ao,c,rfl,g1,g2,g3,g4⟩:=h.form
 cases ao with
 |none=>
  obtain rfl:c=0:=g4 rfl
  obtain rfl:n=0:=by omega
  have hx:xs=[]:=bf (by obtain⟨_,_,_,_,_,e,_⟩:=h;simpa using e)
  subst hx
  have hq:=fun w=>ji (P:=Tryz.prog) w 101 5 none 0 0 0 0 bH
  clear hsrc h g3 g4
  go_enter Tryz.func142,Tryz.ntmps142
  go_wp2
  go_ret
  exact⟨_,rfl,aT.nil _ _ _ _ _,aO _ _⟩
 |some ad=>
  have hq:=fun w=>ji (P:=Tryz.prog) w 101 5 (some ad) n c 0 0 bH
  have hn0:=mO (w:=w) (S:=S) (B:=w.heap.size) (e:=5) (k:=1) [] 0 0 rfl rfl (aG _) (aX _) (aG _) hS
  have hsrc':Src Tryz.prog 1 101 (.slice (some ad) n c) n xs (w.alloc (.cells #[] 5)):=(h.below (aK w _)).src bH h1
  clear hsrc h g3 g4
  go_enter Tryz.func142,Tryz.ntmps142
  go_wp2_with (at_builtin;(refine dQ rfl (.tmp 5) (.tmp 6) 101 101 rfl S w.heap.size 5 1 1 _ bH jD rfl (.slice (some ⟨w.heap.size,0,none⟩) 0 0) 0 [] rfl hn0 (.slice (some ad) n c) _ _ rfl hsrc' (fP hS _) ?_ ?_ ?_ ?_);(focus (simp only[aU];omega));(focus (unfold maxLen;omega));(focus omega);intro ao1 c1 w1 hown1 hk1 hb1 hd1;simp only[aV])
  go_ret
  simp only[aV,dB] at hown1
  exact⟨_,rfl,hown1,(aK w _).trans hb1⟩
theorem sW (v:Value)(n:Nat)(xs:List Value)(w:World)(S:Nat->Prop)(hS:∀g,S g->g<w.heap.size)(h:bJ w S 1 v n xs)(h1:∀u∈xs,u.oneCell'=true)(hn:n<=1000000):
  Calls Tryz.prog 189 #[v] w fun e w'=>∃v',e= .returned v'/\aT w' S w.heap.size 3 1 v' n xs/\Below w.heap.size w w':=by
 have hsrc:=h.src (P:=Tryz.prog) bG h1
 obtain⟨ao,c,rfl,g1,g2,g3,g4⟩:=h.form
 cases ao with
 |none=>
  obtain rfl:c=0:=g4 rfl
  obtain rfl:n=0:=by omega
  have hx:xs=[]:=bf (by obtain⟨_,_,_,_,_,e,_⟩:=h;simpa using e)
  subst hx
  have hq:=fun w=>ji (P:=Tryz.prog) w 151 3 none 0 0 0 0 bG
  clear hsrc h g3 g4
  go_enter Tryz.func189,Tryz.ntmps189
  go_wp2
  go_ret
  exact⟨_,rfl,aT.nil _ _ _ _ _,aO _ _⟩
 |some ad=>
  have hq:=fun w=>ji (P:=Tryz.prog) w 151 3 (some ad) n c 0 0 bG
  have hn0:=mO (w:=w) (S:=S) (B:=w.heap.size) (e:=3) (k:=1) [] 0 0 rfl rfl (aG _) (aX _) (aG _) hS
  have hsrc':Src Tryz.prog 1 151 (.slice (some ad) n c) n xs (w.alloc (.cells #[] 3)):=(h.below (aK w _)).src bG h1
  clear hsrc h g3 g4
  go_enter Tryz.func189,Tryz.ntmps189
  go_wp2_with (at_builtin;(refine dQ rfl (.tmp 5) (.tmp 6) 151 151 rfl S w.heap.size 3 1 8 _ bG iF rfl (.slice (some ⟨w.heap.size,0,none⟩) 0 0) 0 [] rfl hn0 (.slice (some ad) n c) _ _ rfl hsrc' (fP hS _) ?_ ?_ ?_ ?_);(focus (simp only[aU];omega));(focus (unfold maxLen;omega));(focus omega);intro ao1 c1 w1 hown1 hk1 hb1 hd1;simp only[aV])
  go_ret
  simp only[aV,dB] at hown1
  exact⟨_,rfl,hown1,(aK w _).trans hb1⟩
theorem sV (v:Value)(n:Nat)(xs:List Value)(w:World)(S:Nat->Prop)(hS:∀g,S g->g<w.heap.size)(h:bJ w S 1 v n xs)(h1:∀u∈xs,u.oneCell'=true)(hn:n<=1000000):
  Calls Tryz.prog 191 #[v] w fun e w'=>∃v',e= .returned v'/\aT w' S w.heap.size 9 1 v' n xs/\Below w.heap.size w w':=by
 have hsrc:=h.src (P:=Tryz.prog) aY h1
 obtain⟨ao,c,rfl,g1,g2,g3,g4⟩:=h.form
 cases ao with
 |none=>
  obtain rfl:c=0:=g4 rfl
  obtain rfl:n=0:=by omega
  have hx:xs=[]:=bf (by obtain⟨_,_,_,_,_,e,_⟩:=h;simpa using e)
  subst hx
  have hq:=fun w=>ji (P:=Tryz.prog) w 22 9 none 0 0 0 0 aY
  clear hsrc h g3 g4
  go_enter Tryz.func191,Tryz.ntmps191
  go_wp2
  go_ret
  exact⟨_,rfl,aT.nil _ _ _ _ _,aO _ _⟩
 |some ad=>
  have hq:=fun w=>ji (P:=Tryz.prog) w 22 9 (some ad) n c 0 0 aY
  have hn0:=mO (w:=w) (S:=S) (B:=w.heap.size) (e:=9) (k:=1) [] 0 0 rfl rfl (aG _) (aX _) (aG _) hS
  have hsrc':Src Tryz.prog 1 22 (.slice (some ad) n c) n xs (w.alloc (.cells #[] 9)):=(h.below (aK w _)).src aY h1
  clear hsrc h g3 g4
  go_enter Tryz.func191,Tryz.ntmps191
  go_wp2_with (at_builtin;(refine dQ rfl (.tmp 5) (.tmp 6) 22 22 rfl S w.heap.size 9 1 16 _ aY gD rfl (.slice (some ⟨w.heap.size,0,none⟩) 0 0) 0 [] rfl hn0 (.slice (some ad) n c) _ _ rfl hsrc' (fP hS _) ?_ ?_ ?_ ?_);(focus (simp only[aU];omega));(focus (unfold maxLen;omega));(focus omega);intro ao1 c1 w1 hown1 hk1 hb1 hd1;simp only[aV])
  go_ret
  simp only[aV,dB] at hown1
  exact⟨_,rfl,hown1,(aK w _).trans hb1⟩
theorem CR (v:Value)(n:Nat)(xs:List Value)(w:World)(S:Nat->Prop)(hS:∀g,S g->g<w.heap.size)(h:bJ w S 2 v n xs)(h1:∀u∈xs,u.oneCell'=true)(hn:n<=1000000):
  Calls Tryz.prog 190 #[v] w fun e w'=>∃v',e= .returned v'/\aT w' S w.heap.size 130 2 v' n xs/\Below w.heap.size w w':=by
 have hsrc:=h.src (P:=Tryz.prog) dH h1
 obtain⟨ao,c,rfl,g1,g2,g3,g4⟩:=h.form
 cases ao with
 |none=>
  obtain rfl:c=0:=g4 rfl
  obtain rfl:n=0:=by omega
  have hx:xs=[]:=bf (by obtain⟨_,_,_,_,_,e,_⟩:=h;simpa using e)
  subst hx
  have hq:=fun w=>ji (P:=Tryz.prog) w 126 130 none 0 0 0 0 dH
  clear hsrc h g3 g4
  go_enter Tryz.func190,Tryz.ntmps190
  go_wp2
  go_ret
  exact⟨_,rfl,aT.nil _ _ _ _ _,aO _ _⟩
 |some ad=>
  have hq:=fun w=>ji (P:=Tryz.prog) w 126 130 (some ad) n c 0 0 dH
  have hn0:=mO (w:=w) (S:=S) (B:=w.heap.size) (e:=130) (k:=2) [] 0 0 rfl rfl (aG _) (aX _) (aG _) hS
  have hsrc':Src Tryz.prog 2 126 (.slice (some ad) n c) n xs (w.alloc (.cells #[] 130)):=(h.below (aK w _)).src dH h1
  clear hsrc h g3 g4
  go_enter Tryz.func190,Tryz.ntmps190
  go_wp2_with (at_builtin;(refine dQ rfl (.tmp 5) (.tmp 6) 126 126 rfl S w.heap.size 130 2 32 _ dH jZ rfl (.slice (some ⟨w.heap.size,0,none⟩) 0 0) 0 [] rfl hn0 (.slice (some ad) n c) _ _ rfl hsrc' (fP hS _) ?_ ?_ ?_ ?_);(focus (simp only[aU];omega));(focus (unfold maxLen;omega));(focus omega);intro ao1 c1 w1 hown1 hk1 hb1 hd1;simp only[aV])
  go_ret
  simp only[aV,dB] at hown1
  exact⟨_,rfl,hown1,(aK w _).trans hb1⟩
end Go.Proofs.YtpgdljlghiifjaaGreatDoor
