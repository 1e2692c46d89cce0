--
import Derived.Test.YtogbkgmlhhahdaaGreatT1
set_option maxRecDepth 100000
set_option maxHeartbeats 0
set_option linter.all false
namespace Go.Proofs.YtogbkgmlhhahdaaGreat
open Go.RowKit
theorem wP (v:Value)(n:Nat)(f:List Value)(w:World)(S:Nat->Prop)(r:∀g,S g->g<w.heap.size)(h:aZ w S 1 v n f)(q:∀u∈f,u.oneCell'=true)(H:n<=1000000):
  Calls Tryz.prog 148 #[v] w fun e o=>∃p,e= .returned p/\aT o S w.heap.size 5 1 p n f/\Below w.heap.size w o:=by
 have b:=h.src (P:=Tryz.prog) bG q;obtain⟨z,c,rfl,G,E,s,j⟩:=h.form;cases z with
 |none=>
  obtain rfl:c=0:=j rfl;obtain rfl:n=0:=by omega
  have C:f=[]:=aY (by obtain⟨_,_,_,_,_,e,_⟩:=h;simpa using e);subst C;have y:=fun w=>jY (P:=Tryz.prog) w 70 5 none 0 0 0 0 bG
  clear b h s j;go_enter Tryz.func148,Tryz.ntmps148
  go_wp2
  go_ret;exact⟨_,rfl,aT.nil _ _ _ _ _,aR _ _⟩
 |some i=>
  have y:=fun w=>jY (P:=Tryz.prog) w 70 5 (some i) n c 0 0 bG
  have m:=mX (w:=w) (S:=S) (B:=w.heap.size) (e:=5) (k:=1) [] 0 0 rfl rfl (aD _) (aS _) (aD _) r;have d:Src Tryz.prog 1 70 (.slice (some i) n c) n f (w.alloc (.cells #[] 5)):=(h.below (aN w _)).src bG q;clear b h s j;go_enter Tryz.func148,Tryz.ntmps148;go_wp2_with (at_builtin;(refine cO rfl (.tmp 5) (.tmp 6) 70 70 rfl S w.heap.size 5 1 1 _ bG kJ rfl (.slice (some ⟨w.heap.size,0,none⟩) 0 0) 0 [] rfl m (.slice (some i) n c) _ _ rfl d (fe r _) ?_ ?_ ?_ ?_);(focus simp only[aU];omega);(focus unfold maxLen;omega);(focus omega);intro x F D a t l A;simp only[dX]);go_ret;simp only[dX,jI] at a;exact⟨_,rfl,a,(aN w _).trans l⟩
theorem uY (v:Value)(n:Nat)(f:List Value)(w:World)(S:Nat->Prop)(r:∀g,S g->g<w.heap.size)(h:aZ w S 1 v n f)(q:∀u∈f,u.oneCell'=true)(H:n<=1000000):
  Calls Tryz.prog 184 #[v] w fun e o=>∃p,e= .returned p/\aT o S w.heap.size 3 1 p n f/\Below w.heap.size w o:=by
 have b:=h.src (P:=Tryz.prog) bE q;obtain⟨z,c,rfl,G,E,s,j⟩:=h.form;cases z with
 |none=>
  obtain rfl:c=0:=j rfl;obtain rfl:n=0:=by omega
  have C:f=[]:=aY (by obtain⟨_,_,_,_,_,e,_⟩:=h;simpa using e);subst C;have y:=fun w=>jY (P:=Tryz.prog) w 93 3 none 0 0 0 0 bE
  clear b h s j;go_enter Tryz.func184,Tryz.ntmps184
  go_wp2
  go_ret;exact⟨_,rfl,aT.nil _ _ _ _ _,aR _ _⟩
 |some i=>
  have y:=fun w=>jY (P:=Tryz.prog) w 93 3 (some i) n c 0 0 bE
  have m:=mX (w:=w) (S:=S) (B:=w.heap.size) (e:=3) (k:=1) [] 0 0 rfl rfl (aD _) (aS _) (aD _) r;have d:Src Tryz.prog 1 93 (.slice (some i) n c) n f (w.alloc (.cells #[] 3)):=(h.below (aN w _)).src bE q;clear b h s j;go_enter Tryz.func184,Tryz.ntmps184;go_wp2_with (at_builtin;(refine cO rfl (.tmp 5) (.tmp 6) 93 93 rfl S w.heap.size 3 1 8 _ bE iq rfl (.slice (some ⟨w.heap.size,0,none⟩) 0 0) 0 [] rfl m (.slice (some i) n c) _ _ rfl d (fe r _) ?_ ?_ ?_ ?_);(focus simp only[aU];omega);(focus unfold maxLen;omega);(focus omega);intro x F D a t l A;simp only[dX]);go_ret;simp only[dX,jI] at a;exact⟨_,rfl,a,(aN w _).trans l⟩
theorem uX (v:Value)(n:Nat)(f:List Value)(w:World)(S:Nat->Prop)(r:∀g,S g->g<w.heap.size)(h:aZ w S 1 v n f)(q:∀u∈f,u.oneCell'=true)(H:n<=1000000):
  Calls Tryz.prog 186 #[v] w fun e o=>∃p,e= .returned p/\aT o S w.heap.size 9 1 p n f/\Below w.heap.size w o:=by
 have b:=h.src (P:=Tryz.prog) bq q;obtain⟨z,c,rfl,G,E,s,j⟩:=h.form;cases z with
 |none=>
  obtain rfl:c=0:=j rfl;obtain rfl:n=0:=by omega
  have C:f=[]:=aY (by obtain⟨_,_,_,_,_,e,_⟩:=h;simpa using e);subst C;have y:=fun w=>jY (P:=Tryz.prog) w 142 9 none 0 0 0 0 bq
  clear b h s j;go_enter Tryz.func186,Tryz.ntmps186
  go_wp2
  go_ret;exact⟨_,rfl,aT.nil _ _ _ _ _,aR _ _⟩
 |some i=>
  have y:=fun w=>jY (P:=Tryz.prog) w 142 9 (some i) n c 0 0 bq
  have m:=mX (w:=w) (S:=S) (B:=w.heap.size) (e:=9) (k:=1) [] 0 0 rfl rfl (aD _) (aS _) (aD _) r;have d:Src Tryz.prog 1 142 (.slice (some i) n c) n f (w.alloc (.cells #[] 9)):=(h.below (aN w _)).src bq q;clear b h s j;go_enter Tryz.func186,Tryz.ntmps186;go_wp2_with (at_builtin;(refine cO rfl (.tmp 5) (.tmp 6) 142 142 rfl S w.heap.size 9 1 16 _ bq ig rfl (.slice (some ⟨w.heap.size,0,none⟩) 0 0) 0 [] rfl m (.slice (some i) n c) _ _ rfl d (fe r _) ?_ ?_ ?_ ?_);(focus simp only[aU];omega);(focus unfold maxLen;omega);(focus omega);intro x F D a t l A;simp only[dX]);go_ret;simp only[dX,jI] at a;exact⟨_,rfl,a,(aN w _).trans l⟩
theorem EJ (v:Value)(n:Nat)(f:List Value)(w:World)(S:Nat->Prop)(r:∀g,S g->g<w.heap.size)(h:aZ w S 2 v n f)(q:∀u∈f,u.oneCell'=true)(H:n<=1000000):
  Calls Tryz.prog 185 #[v] w fun e o=>∃p,e= .returned p/\aT o S w.heap.size 103 2 p n f/\Below w.heap.size w o:=by
 have b:=h.src (P:=Tryz.prog) bL q;obtain⟨z,c,rfl,G,E,s,j⟩:=h.form;cases z with
 |none=>
  obtain rfl:c=0:=j rfl;obtain rfl:n=0:=by omega
  have C:f=[]:=aY (by obtain⟨_,_,_,_,_,e,_⟩:=h;simpa using e);subst C;have y:=fun w=>jY (P:=Tryz.prog) w 52 103 none 0 0 0 0 bL
  clear b h s j;go_enter Tryz.func185,Tryz.ntmps185
  go_wp2
  go_ret;exact⟨_,rfl,aT.nil _ _ _ _ _,aR _ _⟩
 |some i=>
  have y:=fun w=>jY (P:=Tryz.prog) w 52 103 (some i) n c 0 0 bL
  have m:=mX (w:=w) (S:=S) (B:=w.heap.size) (e:=103) (k:=2) [] 0 0 rfl rfl (aD _) (aS _) (aD _) r;have d:Src Tryz.prog 2 52 (.slice (some i) n c) n f (w.alloc (.cells #[] 103)):=(h.below (aN w _)).src bL q;clear b h s j;go_enter Tryz.func185,Tryz.ntmps185;go_wp2_with (at_builtin;(refine cO rfl (.tmp 5) (.tmp 6) 52 52 rfl S w.heap.size 103 2 32 _ bL iK rfl (.slice (some ⟨w.heap.size,0,none⟩) 0 0) 0 [] rfl m (.slice (some i) n c) _ _ rfl d (fe r _) ?_ ?_ ?_ ?_);(focus simp only[aU];omega);(focus unfold maxLen;omega);(focus omega);intro x F D a t l A;simp only[dX]);go_ret;simp only[dX,jI] at a;exact⟨_,rfl,a,(aN w _).trans l⟩
