/- parts -/
import Derived.Test.YtogbkgmlhhahdaaGreatQ1
set_option maxRecDepth 100000
set_option maxHeartbeats 8000000
set_option linter.all false
namespace Go.Proofs.YtogbkgmlhhahdaaGreat
open Go.RowKit
theorem vN (v:Value)(n:Nat)(xs:List Value)(w:World)(S:Nat->Prop)(hS:∀g,S g->g<w.heap.size)(h:aX w S 1 v n xs)(h1:∀u∈xs,u.oneCell'=true)(hn:n<=1000000):
  Calls Tryz.prog 148 #[v] w fun e w'=>∃v',e= .returned v'/\aQ w' S w.heap.size 5 1 v' n xs/\Below w.heap.size w w':=by
 have hsrc:=h.src (P:=Tryz.prog) bH h1
 obtain⟨ao,c,rfl,g1,g2,g3,g4⟩:=h.form
 cases ao with
 |none=>
  obtain rfl:c=0:=g4 rfl
  obtain rfl:n=0:=by omega
  have hx:xs=[]:=aV (by obtain⟨_,_,_,_,_,e,_⟩:=h;simpa using e)
  subst hx
  have hq:=fun w=>jN (P:=Tryz.prog) w 70 5 none 0 0 0 0 bH
  clear hsrc h g3 g4
  go_enter Tryz.func148,Tryz.ntmps148
  go_wp2
  go_ret
  exact⟨_,rfl,aQ.nil _ _ _ _ _,aR _ _⟩
 |some ad=>
  have hq:=fun w=>jN (P:=Tryz.prog) w 70 5 (some ad) n c 0 0 bH
  have hn0:=mq (w:=w) (S:=S) (B:=w.heap.size) (e:=5) (k:=1) [] 0 0 rfl rfl (aC _) (aT _) (aC _) hS
  have hsrc':Src Tryz.prog 1 70 (.slice (some ad) n c) n xs (w.alloc (.cells #[] 5)):=(h.below (aO w _)).src bH h1
  clear hsrc h g3 g4
  go_enter Tryz.func148,Tryz.ntmps148
  go_wp2_with (at_builtin;(refine cK rfl (.tmp 5) (.tmp 6) 70 70 rfl S w.heap.size 5 1 1 _ bH kz rfl (.slice (some ⟨w.heap.size,0,none⟩) 0 0) 0 [] rfl hn0 (.slice (some ad) n c) _ _ rfl hsrc' (eU hS _) ?_ ?_ ?_ ?_);(focus (simp only[aS];omega));(focus (unfold maxLen;omega));(focus omega);intro ao1 c1 w1 hown1 hk1 hb1 hd1;simp only[dV])
  go_ret
  simp only[dV,jq] at hown1
  exact⟨_,rfl,hown1,(aO w _).trans hb1⟩
theorem uf (v:Value)(n:Nat)(xs:List Value)(w:World)(S:Nat->Prop)(hS:∀g,S g->g<w.heap.size)(h:aX w S 1 v n xs)(h1:∀u∈xs,u.oneCell'=true)(hn:n<=1000000):
  Calls Tryz.prog 184 #[v] w fun e w'=>∃v',e= .returned v'/\aQ w' S w.heap.size 3 1 v' n xs/\Below w.heap.size w w':=by
 have hsrc:=h.src (P:=Tryz.prog) bf h1
 obtain⟨ao,c,rfl,g1,g2,g3,g4⟩:=h.form
 cases ao with
 |none=>
  obtain rfl:c=0:=g4 rfl
  obtain rfl:n=0:=by omega
  have hx:xs=[]:=aV (by obtain⟨_,_,_,_,_,e,_⟩:=h;simpa using e)
  subst hx
  have hq:=fun w=>jN (P:=Tryz.prog) w 93 3 none 0 0 0 0 bf
  clear hsrc h g3 g4
  go_enter Tryz.func184,Tryz.ntmps184
  go_wp2
  go_ret
  exact⟨_,rfl,aQ.nil _ _ _ _ _,aR _ _⟩
 |some ad=>
  have hq:=fun w=>jN (P:=Tryz.prog) w 93 3 (some ad) n c 0 0 bf
  have hn0:=mq (w:=w) (S:=S) (B:=w.heap.size) (e:=3) (k:=1) [] 0 0 rfl rfl (aC _) (aT _) (aC _) hS
  have hsrc':Src Tryz.prog 1 93 (.slice (some ad) n c) n xs (w.alloc (.cells #[] 3)):=(h.below (aO w _)).src bf h1
  clear hsrc h g3 g4
  go_enter Tryz.func184,Tryz.ntmps184
  go_wp2_with (at_builtin;(refine cK rfl (.tmp 5) (.tmp 6) 93 93 rfl S w.heap.size 3 1 8 _ bf gX rfl (.slice (some ⟨w.heap.size,0,none⟩) 0 0) 0 [] rfl hn0 (.slice (some ad) n c) _ _ rfl hsrc' (eU hS _) ?_ ?_ ?_ ?_);(focus (simp only[aS];omega));(focus (unfold maxLen;omega));(focus omega);intro ao1 c1 w1 hown1 hk1 hb1 hd1;simp only[dV])
  go_ret
  simp only[dV,jq] at hown1
  exact⟨_,rfl,hown1,(aO w _).trans hb1⟩
theorem tZ (v:Value)(n:Nat)(xs:List Value)(w:World)(S:Nat->Prop)(hS:∀g,S g->g<w.heap.size)(h:aX w S 1 v n xs)(h1:∀u∈xs,u.oneCell'=true)(hn:n<=1000000):
  Calls Tryz.prog 186 #[v] w fun e w'=>∃v',e= .returned v'/\aQ w' S w.heap.size 9 1 v' n xs/\Below w.heap.size w w':=by
 have hsrc:=h.src (P:=Tryz.prog) aY h1
 obtain⟨ao,c,rfl,g1,g2,g3,g4⟩:=h.form
 cases ao with
 |none=>
  obtain rfl:c=0:=g4 rfl
  obtain rfl:n=0:=by omega
  have hx:xs=[]:=aV (by obtain⟨_,_,_,_,_,e,_⟩:=h;simpa using e)
  subst hx
  have hq:=fun w=>jN (P:=Tryz.prog) w 142 9 none 0 0 0 0 aY
  clear hsrc h g3 g4
  go_enter Tryz.func186,Tryz.ntmps186
  go_wp2
  go_ret
  exact⟨_,rfl,aQ.nil _ _ _ _ _,aR _ _⟩
 |some ad=>
  have hq:=fun w=>jN (P:=Tryz.prog) w 142 9 (some ad) n c 0 0 aY
  have hn0:=mq (w:=w) (S:=S) (B:=w.heap.size) (e:=9) (k:=1) [] 0 0 rfl rfl (aC _) (aT _) (aC _) hS
  have hsrc':Src Tryz.prog 1 142 (.slice (some ad) n c) n xs (w.alloc (.cells #[] 9)):=(h.below (aO w _)).src aY h1
  clear hsrc h g3 g4
  go_enter Tryz.func186,Tryz.ntmps186
  go_wp2_with (at_builtin;(refine cK rfl (.tmp 5) (.tmp 6) 142 142 rfl S w.heap.size 9 1 16 _ aY gW rfl (.slice (some ⟨w.heap.size,0,none⟩) 0 0) 0 [] rfl hn0 (.slice (some ad) n c) _ _ rfl hsrc' (eU hS _) ?_ ?_ ?_ ?_);(focus (simp only[aS];omega));(focus (unfold maxLen;omega));(focus omega);intro ao1 c1 w1 hown1 hk1 hb1 hd1;simp only[dV])
  go_ret
  simp only[dV,jq] at hown1
  exact⟨_,rfl,hown1,(aO w _).trans hb1⟩
theorem DN (v:Value)(n:Nat)(xs:List Value)(w:World)(S:Nat->Prop)(hS:∀g,S g->g<w.heap.size)(h:aX w S 2 v n xs)(h1:∀u∈xs,u.oneCell'=true)(hn:n<=1000000):
  Calls Tryz.prog 185 #[v] w fun e w'=>∃v',e= .returned v'/\aQ w' S w.heap.size 103 2 v' n xs/\Below w.heap.size w w':=by
 have hsrc:=h.src (P:=Tryz.prog) bT h1
 obtain⟨ao,c,rfl,g1,g2,g3,g4⟩:=h.form
 cases ao with
 |none=>
  obtain rfl:c=0:=g4 rfl
  obtain rfl:n=0:=by omega
  have hx:xs=[]:=aV (by obtain⟨_,_,_,_,_,e,_⟩:=h;simpa using e)
  subst hx
  have hq:=fun w=>jN (P:=Tryz.prog) w 52 103 none 0 0 0 0 bT
  clear hsrc h g3 g4
  go_enter Tryz.func185,Tryz.ntmps185
  go_wp2
  go_ret
  exact⟨_,rfl,aQ.nil _ _ _ _ _,aR _ _⟩
 |some ad=>
  have hq:=fun w=>jN (P:=Tryz.prog) w 52 103 (some ad) n c 0 0 bT
  have hn0:=mq (w:=w) (S:=S) (B:=w.heap.size) (e:=103) (k:=2) [] 0 0 rfl rfl (aC _) (aT _) (aC _) hS
  have hsrc':Src Tryz.prog 2 52 (.slice (some ad) n c) n xs (w.alloc (.cells #[] 103)):=(h.below (aO w _)).src bT h1
  clear hsrc h g3 g4
  go_enter Tryz.func185,Tryz.ntmps185
  go_wp2_with (at_builtin;(refine cK rfl (.tmp 5) (.tmp 6) 52 52 rfl S w.heap.size 103 2 32 _ bT jl rfl (.slice (some ⟨w.heap.size,0,none⟩) 0 0) 0 [] rfl hn0 (.slice (some ad) n c) _ _ rfl hsrc' (eU hS _) ?_ ?_ ?_ ?_);(focus (simp only[aS];omega));(focus (unfold maxLen;omega));(focus omega);intro ao1 c1 w1 hown1 hk1 hb1 hd1;simp only[dV])
  go_ret
  simp only[dV,jq] at hown1
  exact⟨_,rfl,hown1,(aO w _).trans hb1⟩
end Go.Proofs.YtogbkgmlhhahdaaGreat
