/- parts -/
import Derived.Test.YtogbkgmlhhahdaaGreatP1
set_option maxRecDepth 100000
set_option maxHeartbeats 8000000
set_option linter.all false
namespace Go.Proofs.YtogbkgmlhhahdaaGreat
open Go.RowKit
theorem uz (v:Value)(n:Nat)(xs:List Value)(w:World)(S:Nat->Prop)(hS:∀g,S g->g<w.heap.size)(h:aY w S 1 v n xs)(h1:∀u∈xs,u.oneCell'=true)(hn:n<=1000000):
  Calls Tryz.prog 148 #[v] w fun e w'=>∃v',e= .returned v'/\aR w' S w.heap.size 5 1 v' n xs/\Below w.heap.size w w':=by
 have hsrc:=h.src (P:=Tryz.prog) bH h1
 obtain⟨ao,c,rfl,g1,g2,g3,g4⟩:=h.form
 cases ao with
 |none=>
  obtain rfl:c=0:=g4 rfl
  obtain rfl:n=0:=by omega
  have hx:xs=[]:=aV (by obtain⟨_,_,_,_,_,e,_⟩:=h;simpa using e)
  subst hx
  have hq:=fun w=>jq (P:=Tryz.prog) w 70 5 none 0 0 0 0 bH
  clear hsrc h g3 g4
  go_enter Tryz.func148,Tryz.ntmps148
  go_wp2
  go_ret
  exact⟨_,rfl,aR.nil _ _ _ _ _,aQ _ _⟩
 |some ad=>
  have hq:=fun w=>jq (P:=Tryz.prog) w 70 5 (some ad) n c 0 0 bH
  have hn0:=lW (w:=w) (S:=S) (B:=w.heap.size) (e:=5) (k:=1) [] 0 0 rfl rfl (aC _) (bg _) (aC _) hS
  have hsrc':Src Tryz.prog 1 70 (.slice (some ad) n c) n xs (w.alloc (.cells #[] 5)):=(h.below (aN w _)).src bH h1
  clear hsrc h g3 g4
  go_enter Tryz.func148,Tryz.ntmps148
  go_wp2_with (at_builtin;(refine dx rfl (.tmp 5) (.tmp 6) 70 70 rfl S w.heap.size 5 1 1 _ bH jR rfl (.slice (some ⟨w.heap.size,0,none⟩) 0 0) 0 [] rfl hn0 (.slice (some ad) n c) _ _ rfl hsrc' (fI hS _) ?_ ?_ ?_ ?_);(focus (simp only[aT];omega));(focus (unfold maxLen;omega));(focus omega);intro ao1 c1 w1 hown1 hk1 hb1 hd1;simp only[eG])
  go_ret
  simp only[eG,jo] at hown1
  exact⟨_,rfl,hown1,(aN w _).trans hb1⟩
theorem sG (v:Value)(n:Nat)(xs:List Value)(w:World)(S:Nat->Prop)(hS:∀g,S g->g<w.heap.size)(h:aY w S 1 v n xs)(h1:∀u∈xs,u.oneCell'=true)(hn:n<=1000000):
  Calls Tryz.prog 184 #[v] w fun e w'=>∃v',e= .returned v'/\aR w' S w.heap.size 3 1 v' n xs/\Below w.heap.size w w':=by
 have hsrc:=h.src (P:=Tryz.prog) aX h1
 obtain⟨ao,c,rfl,g1,g2,g3,g4⟩:=h.form
 cases ao with
 |none=>
  obtain rfl:c=0:=g4 rfl
  obtain rfl:n=0:=by omega
  have hx:xs=[]:=aV (by obtain⟨_,_,_,_,_,e,_⟩:=h;simpa using e)
  subst hx
  have hq:=fun w=>jq (P:=Tryz.prog) w 93 3 none 0 0 0 0 aX
  clear hsrc h g3 g4
  go_enter Tryz.func184,Tryz.ntmps184
  go_wp2
  go_ret
  exact⟨_,rfl,aR.nil _ _ _ _ _,aQ _ _⟩
 |some ad=>
  have hq:=fun w=>jq (P:=Tryz.prog) w 93 3 (some ad) n c 0 0 aX
  have hn0:=lW (w:=w) (S:=S) (B:=w.heap.size) (e:=3) (k:=1) [] 0 0 rfl rfl (aC _) (bg _) (aC _) hS
  have hsrc':Src Tryz.prog 1 93 (.slice (some ad) n c) n xs (w.alloc (.cells #[] 3)):=(h.below (aN w _)).src aX h1
  clear hsrc h g3 g4
  go_enter Tryz.func184,Tryz.ntmps184
  go_wp2_with (at_builtin;(refine dx rfl (.tmp 5) (.tmp 6) 93 93 rfl S w.heap.size 3 1 8 _ aX gJ rfl (.slice (some ⟨w.heap.size,0,none⟩) 0 0) 0 [] rfl hn0 (.slice (some ad) n c) _ _ rfl hsrc' (fI hS _) ?_ ?_ ?_ ?_);(focus (simp only[aT];omega));(focus (unfold maxLen;omega));(focus omega);intro ao1 c1 w1 hown1 hk1 hb1 hd1;simp only[eG])
  go_ret
  simp only[eG,jo] at hown1
  exact⟨_,rfl,hown1,(aN w _).trans hb1⟩
theorem sF (v:Value)(n:Nat)(xs:List Value)(w:World)(S:Nat->Prop)(hS:∀g,S g->g<w.heap.size)(h:aY w S 1 v n xs)(h1:∀u∈xs,u.oneCell'=true)(hn:n<=1000000):
  Calls Tryz.prog 186 #[v] w fun e w'=>∃v',e= .returned v'/\aR w' S w.heap.size 9 1 v' n xs/\Below w.heap.size w w':=by
 have hsrc:=h.src (P:=Tryz.prog) aW h1
 obtain⟨ao,c,rfl,g1,g2,g3,g4⟩:=h.form
 cases ao with
 |none=>
  obtain rfl:c=0:=g4 rfl
  obtain rfl:n=0:=by omega
  have hx:xs=[]:=aV (by obtain⟨_,_,_,_,_,e,_⟩:=h;simpa using e)
  subst hx
  have hq:=fun w=>jq (P:=Tryz.prog) w 142 9 none 0 0 0 0 aW
  clear hsrc h g3 g4
  go_enter Tryz.func186,Tryz.ntmps186
  go_wp2
  go_ret
  exact⟨_,rfl,aR.nil _ _ _ _ _,aQ _ _⟩
 |some ad=>
  have hq:=fun w=>jq (P:=Tryz.prog) w 142 9 (some ad) n c 0 0 aW
  have hn0:=lW (w:=w) (S:=S) (B:=w.heap.size) (e:=9) (k:=1) [] 0 0 rfl rfl (aC _) (bg _) (aC _) hS
  have hsrc':Src Tryz.prog 1 142 (.slice (some ad) n c) n xs (w.alloc (.cells #[] 9)):=(h.below (aN w _)).src aW h1
  clear hsrc h g3 g4
  go_enter Tryz.func186,Tryz.ntmps186
  go_wp2_with (at_builtin;(refine dx rfl (.tmp 5) (.tmp 6) 142 142 rfl S w.heap.size 9 1 16 _ aW gI rfl (.slice (some ⟨w.heap.size,0,none⟩) 0 0) 0 [] rfl hn0 (.slice (some ad) n c) _ _ rfl hsrc' (fI hS _) ?_ ?_ ?_ ?_);(focus (simp only[aT];omega));(focus (unfold maxLen;omega));(focus omega);intro ao1 c1 w1 hown1 hk1 hb1 hd1;simp only[eG])
  go_ret
  simp only[eG,jo] at hown1
  exact⟨_,rfl,hown1,(aN w _).trans hb1⟩
theorem Ck (v:Value)(n:Nat)(xs:List Value)(w:World)(S:Nat->Prop)(hS:∀g,S g->g<w.heap.size)(h:aY w S 2 v n xs)(h1:∀u∈xs,u.oneCell'=true)(hn:n<=1000000):
  Calls Tryz.prog 185 #[v] w fun e w'=>∃v',e= .returned v'/\aR w' S w.heap.size 103 2 v' n xs/\Below w.heap.size w w':=by
 have hsrc:=h.src (P:=Tryz.prog) dY h1
 obtain⟨ao,c,rfl,g1,g2,g3,g4⟩:=h.form
 cases ao with
 |none=>
  obtain rfl:c=0:=g4 rfl
  obtain rfl:n=0:=by omega
  have hx:xs=[]:=aV (by obtain⟨_,_,_,_,_,e,_⟩:=h;simpa using e)
  subst hx
  have hq:=fun w=>jq (P:=Tryz.prog) w 52 103 none 0 0 0 0 dY
  clear hsrc h g3 g4
  go_enter Tryz.func185,Tryz.ntmps185
  go_wp2
  go_ret
  exact⟨_,rfl,aR.nil _ _ _ _ _,aQ _ _⟩
 |some ad=>
  have hq:=fun w=>jq (P:=Tryz.prog) w 52 103 (some ad) n c 0 0 dY
  have hn0:=lW (w:=w) (S:=S) (B:=w.heap.size) (e:=103) (k:=2) [] 0 0 rfl rfl (aC _) (bg _) (aC _) hS
  have hsrc':Src Tryz.prog 2 52 (.slice (some ad) n c) n xs (w.alloc (.cells #[] 103)):=(h.below (aN w _)).src dY h1
  clear hsrc h g3 g4
  go_enter Tryz.func185,Tryz.ntmps185
  go_wp2_with (at_builtin;(refine dx rfl (.tmp 5) (.tmp 6) 52 52 rfl S w.heap.size 103 2 32 _ dY kZ rfl (.slice (some ⟨w.heap.size,0,none⟩) 0 0) 0 [] rfl hn0 (.slice (some ad) n c) _ _ rfl hsrc' (fI hS _) ?_ ?_ ?_ ?_);(focus (simp only[aT];omega));(focus (unfold maxLen;omega));(focus omega);intro ao1 c1 w1 hown1 hk1 hb1 hd1;simp only[eG])
  go_ret
  simp only[eG,jo] at hown1
  exact⟨_,rfl,hown1,(aN w _).trans hb1⟩
end Go.Proofs.YtogbkgmlhhahdaaGreat
