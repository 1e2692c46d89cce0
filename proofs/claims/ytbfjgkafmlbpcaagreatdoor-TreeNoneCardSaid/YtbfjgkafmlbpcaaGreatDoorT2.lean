/- parts -/
import Derived.Test.YtbfjgkafmlbpcaaGreatDoorT1
set_option maxRecDepth 100000
set_option maxHeartbeats 8000000
set_option linter.all false
namespace Go.Proofs.YtbfjgkafmlbpcaaGreatDoor
open Go.RowKit
theorem tQ (v:Value)(n:Nat)(xs:List Value)(w:World)(S:Nat->Prop)(hS:∀g,S g->g<w.heap.size)(h:bn w S 1 v n xs)(h1:∀u∈xs,u.oneCell'=true)(hn:n<=1000000):
  Calls Tryz.prog 144 #[v] w fun e w'=>∃v',e= .returned v'/\aP w' S w.heap.size 5 1 v' n xs/\Below w.heap.size w w':=by
 have hsrc:=h.src (P:=Tryz.prog) bg h1
 obtain⟨ao,c,rfl,g1,g2,g3,g4⟩:=h.form
 cases ao with
 |none=>
  obtain rfl:c=0:=g4 rfl
  obtain rfl:n=0:=by omega
  have hx:xs=[]:=aR (by obtain⟨_,_,_,_,_,e,_⟩:=h;simpa using e)
  subst hx
  have hq:=fun w=>iX (P:=Tryz.prog) w 119 5 none 0 0 0 0 bg
  clear hsrc h g3 g4
  go_enter Tryz.func144,Tryz.ntmps144
  go_wp2
  go_ret
  exact⟨_,rfl,aP.nil _ _ _ _ _,aO _ _⟩
 |some ad=>
  have hq:=fun w=>iX (P:=Tryz.prog) w 119 5 (some ad) n c 0 0 bg
  have hn0:=mq (w:=w) (S:=S) (B:=w.heap.size) (e:=5) (k:=1) [] 0 0 rfl rfl (ax _) (bf _) (ax _) hS
  have hsrc':Src Tryz.prog 1 119 (.slice (some ad) n c) n xs (w.alloc (.cells #[] 5)):=(h.below (aF w _)).src bg h1
  clear hsrc h g3 g4
  go_enter Tryz.func144,Tryz.ntmps144
  go_wp2_with (at_builtin;(refine dB rfl (.tmp 5) (.tmp 6) 119 119 rfl S w.heap.size 5 1 1 _ bg jH rfl (.slice (some ⟨w.heap.size,0,none⟩) 0 0) 0 [] rfl hn0 (.slice (some ad) n c) _ _ rfl hsrc' (fq hS _) ?_ ?_ ?_ ?_);(focus (simp only[aV];omega));(focus (unfold maxLen;omega));(focus omega);intro ao1 c1 w1 hown1 hk1 hb1 hd1;simp only[eG])
  go_ret
  simp only[eG,fM] at hown1
  exact⟨_,rfl,hown1,(aF w _).trans hb1⟩
theorem rO (v:Value)(n:Nat)(xs:List Value)(w:World)(S:Nat->Prop)(hS:∀g,S g->g<w.heap.size)(h:bn w S 1 v n xs)(h1:∀u∈xs,u.oneCell'=true)(hn:n<=1000000):
  Calls Tryz.prog 258 #[v] w fun e w'=>∃v',e= .returned v'/\aP w' S w.heap.size 3 1 v' n xs/\Below w.heap.size w w':=by
 have hsrc:=h.src (P:=Tryz.prog) aZ h1
 obtain⟨ao,c,rfl,g1,g2,g3,g4⟩:=h.form
 cases ao with
 |none=>
  obtain rfl:c=0:=g4 rfl
  obtain rfl:n=0:=by omega
  have hx:xs=[]:=aR (by obtain⟨_,_,_,_,_,e,_⟩:=h;simpa using e)
  subst hx
  have hq:=fun w=>iX (P:=Tryz.prog) w 171 3 none 0 0 0 0 aZ
  clear hsrc h g3 g4
  go_enter Tryz.func258,Tryz.ntmps258
  go_wp2
  go_ret
  exact⟨_,rfl,aP.nil _ _ _ _ _,aO _ _⟩
 |some ad=>
  have hq:=fun w=>iX (P:=Tryz.prog) w 171 3 (some ad) n c 0 0 aZ
  have hn0:=mq (w:=w) (S:=S) (B:=w.heap.size) (e:=3) (k:=1) [] 0 0 rfl rfl (ax _) (bf _) (ax _) hS
  have hsrc':Src Tryz.prog 1 171 (.slice (some ad) n c) n xs (w.alloc (.cells #[] 3)):=(h.below (aF w _)).src aZ h1
  clear hsrc h g3 g4
  go_enter Tryz.func258,Tryz.ntmps258
  go_wp2_with (at_builtin;(refine dB rfl (.tmp 5) (.tmp 6) 171 171 rfl S w.heap.size 3 1 8 _ aZ gU rfl (.slice (some ⟨w.heap.size,0,none⟩) 0 0) 0 [] rfl hn0 (.slice (some ad) n c) _ _ rfl hsrc' (fq hS _) ?_ ?_ ?_ ?_);(focus (simp only[aV];omega));(focus (unfold maxLen;omega));(focus omega);intro ao1 c1 w1 hown1 hk1 hb1 hd1;simp only[eG])
  go_ret
  simp only[eG,fM] at hown1
  exact⟨_,rfl,hown1,(aF w _).trans hb1⟩
theorem rM (v:Value)(n:Nat)(xs:List Value)(w:World)(S:Nat->Prop)(hS:∀g,S g->g<w.heap.size)(h:bn w S 1 v n xs)(h1:∀u∈xs,u.oneCell'=true)(hn:n<=1000000):
  Calls Tryz.prog 77 #[v] w fun e w'=>∃v',e= .returned v'/\aP w' S w.heap.size 9 1 v' n xs/\Below w.heap.size w w':=by
 have hsrc:=h.src (P:=Tryz.prog) aW h1
 obtain⟨ao,c,rfl,g1,g2,g3,g4⟩:=h.form
 cases ao with
 |none=>
  obtain rfl:c=0:=g4 rfl
  obtain rfl:n=0:=by omega
  have hx:xs=[]:=aR (by obtain⟨_,_,_,_,_,e,_⟩:=h;simpa using e)
  subst hx
  have hq:=fun w=>iX (P:=Tryz.prog) w 22 9 none 0 0 0 0 aW
  clear hsrc h g3 g4
  go_enter Tryz.func77,Tryz.ntmps77
  go_wp2
  go_ret
  exact⟨_,rfl,aP.nil _ _ _ _ _,aO _ _⟩
 |some ad=>
  have hq:=fun w=>iX (P:=Tryz.prog) w 22 9 (some ad) n c 0 0 aW
  have hn0:=mq (w:=w) (S:=S) (B:=w.heap.size) (e:=9) (k:=1) [] 0 0 rfl rfl (ax _) (bf _) (ax _) hS
  have hsrc':Src Tryz.prog 1 22 (.slice (some ad) n c) n xs (w.alloc (.cells #[] 9)):=(h.below (aF w _)).src aW h1
  clear hsrc h g3 g4
  go_enter Tryz.func77,Tryz.ntmps77
  go_wp2_with (at_builtin;(refine dB rfl (.tmp 5) (.tmp 6) 22 22 rfl S w.heap.size 9 1 16 _ aW gu rfl (.slice (some ⟨w.heap.size,0,none⟩) 0 0) 0 [] rfl hn0 (.slice (some ad) n c) _ _ rfl hsrc' (fq hS _) ?_ ?_ ?_ ?_);(focus (simp only[aV];omega));(focus (unfold maxLen;omega));(focus omega);intro ao1 c1 w1 hown1 hk1 hb1 hd1;simp only[eG])
  go_ret
  simp only[eG,fM] at hown1
  exact⟨_,rfl,hown1,(aF w _).trans hb1⟩
theorem Cf (v:Value)(n:Nat)(xs:List Value)(w:World)(S:Nat->Prop)(hS:∀g,S g->g<w.heap.size)(h:bn w S 2 v n xs)(h1:∀u∈xs,u.oneCell'=true)(hn:n<=1000000):
  Calls Tryz.prog 259 #[v] w fun e w'=>∃v',e= .returned v'/\aP w' S w.heap.size 79 2 v' n xs/\Below w.heap.size w w':=by
 have hsrc:=h.src (P:=Tryz.prog) dQ h1
 obtain⟨ao,c,rfl,g1,g2,g3,g4⟩:=h.form
 cases ao with
 |none=>
  obtain rfl:c=0:=g4 rfl
  obtain rfl:n=0:=by omega
  have hx:xs=[]:=aR (by obtain⟨_,_,_,_,_,e,_⟩:=h;simpa using e)
  subst hx
  have hq:=fun w=>iX (P:=Tryz.prog) w 76 79 none 0 0 0 0 dQ
  clear hsrc h g3 g4
  go_enter Tryz.func259,Tryz.ntmps259
  go_wp2
  go_ret
  exact⟨_,rfl,aP.nil _ _ _ _ _,aO _ _⟩
 |some ad=>
  have hq:=fun w=>iX (P:=Tryz.prog) w 76 79 (some ad) n c 0 0 dQ
  have hn0:=mq (w:=w) (S:=S) (B:=w.heap.size) (e:=79) (k:=2) [] 0 0 rfl rfl (ax _) (bf _) (ax _) hS
  have hsrc':Src Tryz.prog 2 76 (.slice (some ad) n c) n xs (w.alloc (.cells #[] 79)):=(h.below (aF w _)).src dQ h1
  clear hsrc h g3 g4
  go_enter Tryz.func259,Tryz.ntmps259
  go_wp2_with (at_builtin;(refine dB rfl (.tmp 5) (.tmp 6) 76 76 rfl S w.heap.size 79 2 32 _ dQ kV rfl (.slice (some ⟨w.heap.size,0,none⟩) 0 0) 0 [] rfl hn0 (.slice (some ad) n c) _ _ rfl hsrc' (fq hS _) ?_ ?_ ?_ ?_);(focus (simp only[aV];omega));(focus (unfold maxLen;omega));(focus omega);intro ao1 c1 w1 hown1 hk1 hb1 hd1;simp only[eG])
  go_ret
  simp only[eG,fM] at hown1
  exact⟨_,rfl,hown1,(aF w _).trans hb1⟩
end Go.Proofs.YtbfjgkafmlbpcaaGreatDoor
