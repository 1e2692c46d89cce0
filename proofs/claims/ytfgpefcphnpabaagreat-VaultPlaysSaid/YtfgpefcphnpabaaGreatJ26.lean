/- parts -/
import Derived.Test.YtfgpefcphnpabaaGreatJ23
import Derived.Test.YtfgpefcphnpabaaGreatJ25
import Derived.Deep.SlicePairs
import Derived.Lib.SmallJoins
namespace Go.Proofs.YtfgpefcphnpabaaGreat
open Go.RowKit
set_option maxRecDepth 100000
set_option maxHeartbeats 8000000
set_option linter.all false
def Core (v r N lg i:Nat) (F F0:Nat→Prop) (t rt:Nat) (room log err:Int) (ch:Bool) (w:World):Prop:=
 ∃(u:Nat) (cms:List (List Pr)) (kv0 kv:List Pr),Kv kv i∧Kv kv0 i∧cms.length≤i∧
  ((err=0∧∃P C c:Nat,JT F F0 v r t rt N (lg - 1) u P cms kv0 kv ch w∧room=48+4*((costs kv0+C:Nat):Int)∧costs kv≤costs kv0+C∧C≤99*i∧log=32+64*(c:Int)+4*(C:Int)∧c≤i∧(kv.length≤299→P≤2+u+65*c+C))∨
   (err=12∧JE F F0 v r t rt N (lg - 1) u cms kv0 kv w))
theorem Fr.below {F F0:Nat→Prop} {w w':World} (hF:∀g,F0 g→F g) (hb:Below w.heap.size w w'):Fr F F0 w (iG F w w') F0 w':=⟨fun g e=> .inl (hF g e),fun _ e=> .inl e,fun _ e=> .inl e,Keep.of_below hb _⟩
section
variable {v r N lg i:Nat} {F F0:Nat→Prop} {t rt:Nat} {room log err:Int} {ch:Bool} {w:World}
theorem Core.below (h:Core v r N lg i F F0 t rt room log err ch w) (hF:∀g,F0 g→F g) {w':World} (hb:Below w.heap.size w w'):Core v r N lg i (iG F w w') F0 t rt room log err ch w':=by
 obtain⟨u,cms,kv0,kv,h1,h2,h3,(⟨h4,P,C,c,h5,h6⟩|⟨h4,h5⟩)⟩:=h
 ·exact⟨u,cms,kv0,kv,h1,h2,h3,.inl ⟨h4,P,C,c,(h5.below hF hb).1,h6⟩⟩
 ·exact⟨u,cms,kv0,kv,h1,h2,h3,.inr ⟨h4,(h5.below hF hb).1⟩⟩
theorem Core.own (h:Core v r N lg i F F0 t rt room log err ch w) {M:Nat→Prop} {w':World} (hk:Keep M w w') (hM:∀g,M g→F g∧¬F0 g):Core v r N lg i (iG F w w') F0 t rt room log err ch w':=by
 obtain⟨u,cms,kv0,kv,h1,h2,h3,(⟨h4,P,C,c,h5,h6⟩|⟨h4,h5⟩)⟩:=h
 ·exact⟨u,cms,kv0,kv,h1,h2,h3,.inl ⟨h4,P,C,c,⟨h5.1.next hk (fun g e=>(hM g e).1),h5.2.prog (hk.mono (fun g _ e hf=>(hM g e).2 hf))⟩,h6⟩⟩
 ·exact⟨u,cms,kv0,kv,h1,h2,h3,.inr ⟨h4,h5.1.next hk (fun g e=>(hM g e).1),h5.2.prog (hk.mono (fun g _ e hf=>(hM g e).2 hf))⟩⟩
theorem Core.more (h:Core v r N lg i F F0 t rt room log err ch w):Core v r N lg (i+1) F F0 t rt room log err ch w:=by
 obtain⟨u,cms,kv0,kv,h1,h2,h3,(⟨h4,P,C,c,h5,h6,h7,h8,h9,h10,h11⟩|⟨h4,h5⟩)⟩:=h
 ·exact⟨u,cms,kv0,kv,h1.le (by omega),h2.le (by omega),by omega,.inl ⟨h4,P,C,c,h5,h6,h7,by omega,h9,by omega,h11⟩⟩
 ·exact⟨u,cms,kv0,kv,h1.le (by omega),h2.le (by omega),by omega,.inr ⟨h4,h5⟩⟩
theorem Core.fs (h:Core v r N lg i F F0 t rt room log err ch w):∀g,F g→g<w.heap.size:=by
 obtain⟨u,cms,kv0,kv,h1,h2,h3,(⟨h4,P,C,c,h5,h6⟩|⟨h4,h5⟩)⟩:=h
 ·exact h5.1.fs
 ·exact h5.1.fs
theorem Core.change (h:Core v r N lg i F F0 t rt room log err ch w) (hF:∀g,F0 g→F g) (hi:i≤299) (k n:Int) (key value:ByteArray) (hk:0≤k∧k≤255) (hv:value.size≤maxLen):
  Calls Tryz.prog 27 #[.pointer (some ⟨v,0,none⟩),mR t rt room log err ch,.agg #[.int .u8 k,.string key,.string value,.int .i64 n]] w fun e w'=>
   ∃room' log' err' ch' F' F0',e= .returned (.tuple #[mR t rt room' log' err' ch',.bool true])∧Fr F F0 w F' F0' w'∧Core v r N lg (i+1) F' F0' t rt room' log' err' ch' w':=by
 have hm:=h.more
 obtain⟨u,cms,kv0,kv,h1,h2,h3,(⟨rfl,P,C,c,h5,h6,h7,h8,h9,h10,h11⟩|⟨rfl,h5⟩)⟩:=h
 ·have hc0:=Nf h2
  have hul:u≤costs kv0:=by have:=h5.1.Rj;unfold costs;omega
  by_cases hbad:qw key (if k%8=0 then strOf (lK value n) else⟨#[]⟩)
  ·by_cases hkk:k%8=0
   ·rw[if_pos hkk] at hbad
    have hbc:=Gh hbad.2
    have hkv':=h1.ins hbad.1.2 hbad.2
    have hci:=KN kv key (strOf (lK value n))
    have hkl:=h1.len
    refine(Ff F F0 hF v r t rt N (lg - 1) u P kv0 kv cms ch room log k n key value w h5 hk hv hbad hkk h1.rise (by omega) (by omega) (by omega) (by unfold costs at*;omega)).mono ?_
    generalize strOf (lK value n)=val at hbad hbc hkv' hci ⊢
    rintro e w' ⟨F',F0',hFr,(⟨Q,rfl,hJ,hQ⟩|⟨rfl,hJ⟩)⟩
    ·refine⟨_,_,_,_,F',F0',rfl,hFr,u,cms,kv0,_,hkv',h2.le (by omega),by omega,.inl ⟨rfl,Q,C+(2+eU val),c+1,hJ,by omega,by omega,by omega,by omega,by omega,fun hl=> ?_⟩⟩
     have hold:kv.length≤(jv kv key val).length:=by unfold jv;split<;>simp;have:=lU kv key;omega
     have:=h11 (by omega)
     have:=hQ hl
     omega
    ·refine⟨_,_,12,ch,F',F0',rfl,hFr,u,cms,kv0,kv,h1.le (by omega),h2.le (by omega),by omega,.inr ⟨rfl,hJ⟩⟩
   ·rw[if_neg hkk] at hbad
    have hkl:=h1.len
    have hcd:=KO kv key
    refine(Fg F F0 hF v r t rt N (lg - 1) u P kv0 kv cms ch room log k n key value w h5 hk hv hbad.1 hkk h1.rise (by omega) (by omega) (by unfold costs at*;omega)).mono ?_
    rintro e w' ⟨F',F0',hFr,(⟨rfl,hJ⟩|⟨rfl,hJ⟩)⟩
    ·refine⟨_,_,_,_,F',F0',rfl,hFr,u,cms,kv0,_,(h1.del key).le (by omega),h2.le (by omega),by omega,.inl ⟨rfl,P+65,C,c+1,hJ,h6,by omega,by omega,by omega,by omega,fun _=> ?_⟩⟩
     have:=h11 (by omega)
     omega
    ·refine⟨_,_,12,ch,F',F0',rfl,hFr,u,cms,kv0,kv,h1.le (by omega),h2.le (by omega),by omega,.inr ⟨rfl,hJ⟩⟩
  ·refine(Fh F F0 v r t rt N (lg - 1) u P kv0 kv cms ch room log k n key value w h5 hk hv hbad).mono ?_
   rintro e w' ⟨rfl,hb⟩
   exact⟨_,_,_,_,_,_,rfl,Fr.below hF hb,hm.below hF hb⟩
 ·refine(Dx F F0 v r t rt N (lg - 1) u kv0 kv cms ch room log k n key value w h5 hk hv).mono ?_
  rintro e w' ⟨rfl,hb⟩
  exact⟨_,_,_,_,_,_,rfl,Fr.below hF hb,hm.below hF hb⟩
theorem Core.asked (h:Core v r N lg i F F0 t rt room log err ch w) (hi:i≤299) (k n:Int) (key value:ByteArray) (hk:0≤k∧k≤255):
  Calls Tryz.prog 28 #[mR t rt room log err ch,.agg #[.int .u8 k,.string key,.string value,.int .i64 n]] w fun e w'=>e= .returned (.bool true)∧Below w.heap.size w w':=by
 obtain⟨u,cms,kv0,kv,h1,h2,h3,(⟨rfl,P,C,c,h5,h6⟩|⟨rfl,h5⟩)⟩:=h
 ·have:=h1.len
  exact Fq F F0 v r t rt N (lg - 1) u P kv0 kv cms ch room log k n key value w h5 h1.rise (by omega) hk
 ·exact Fp F F0 v r t rt N (lg - 1) u kv0 kv cms ch room log k n key value w h5 hk
def pU (v r N lg i:Nat) (F F0:Nat→Prop) (w:World):Prop:=∃cms kv,Kv kv i∧cms.length≤i∧JV F F0 v r N (lg - 1) cms kv w
theorem Core.commit (h:Core v r N lg i F F0 t rt room log err ch w) (hF:∀g,F0 g→F g) (hi:i≤299) (hlg:lg≤605):
  Calls Tryz.prog 29 #[.pointer (some ⟨r,0,none⟩),mR t rt room log err ch,.int .i64 lg] w fun e w'=>e= .returned (.bool true)∧∃F' F0',Fr F F0 w F' F0' w'∧pU v r N lg (i+1) F' F0' w':=by
 obtain⟨u,cms,kv0,kv,h1,h2,h3,h⟩:=h
 have fin:∀w',zi F F0 v r N (lg - 1) cms kv0 kv w w'→∃F' F0',Fr F F0 w F' F0' w'∧pU v r N lg (i+1) F' F0' w':=by
  rintro w' ⟨F',F0',cms',kv',hFr,hJ,(⟨rfl,rfl⟩|⟨rfl,rfl⟩)⟩
  ·exact⟨F',F0',hFr,_,_,h2.le (by omega),by omega,hJ⟩
  ·exact⟨F',F0',hFr,_,_,h1.le (by omega),by simp;omega,hJ⟩
 rcases h with ⟨rfl,P,C,c,h5,h6,h7,h8,h9,h10,h11⟩|⟨rfl,h5⟩
 ·have:=h1.len
  refine(Dw F F0 hF v r t rt N (lg - 1) u P kv0 kv cms ch room log lg w h5.1 h5.2 (by omega) (fun hl=> ?_)).mono (fun e w' q=>⟨q.1,fin w' q.2⟩)
  exact MJ (c:=c) (b:=C) hlg (h11 (by omega)) (by omega)
 ·exact(Dv F F0 hF v r t rt N (lg - 1) u kv0 kv cms ch room log lg w h5.1 h5.2).mono (fun e w' q=>⟨q.1,fin w' q.2⟩)
theorem Core.abort (h:Core v r N lg i F F0 t rt room log err ch w) (hF:∀g,F0 g→F g):
  Calls Tryz.prog 32 #[.pointer (some ⟨t,0,none⟩)] w fun e w'=>e= .returned (.tuple #[])∧Fr F F0 w F F0 w'∧pU v r N lg (i+1) F F0 w':=by
 obtain⟨u,cms,kv0,kv,h1,h2,h3,h⟩:=h
 have fin:∀w',oI ⟨F,w⟩ v N (lg - 1) cms.length u kv0 w'→uM F0 w r rt (cms++[kv0]) kv→Fr F F0 w F F0 w'∧pU v r N lg (i+1) F F0 w':=fun w' hV hR=>
  ⟨⟨hF,fun _ e=>e,fun _ e=> .inl e,hV.lC.mono (fun g _ e hf=>absurd hf e)⟩,cms,kv0,h2.le (by omega),by omega,⟨u,hV.re⟩,hR.forget.prog (hV.lC.out hF)⟩
 rcases h with ⟨rfl,P,C,c,h5,_⟩|⟨rfl,h5⟩
 ·refine h5.1.abort.mono ?_
  rintro e w' ⟨rfl,hV,_⟩
  exact⟨rfl,fin w' hV h5.2⟩
 ·refine h5.1.abort.mono ?_
  rintro e w' ⟨rfl,hV⟩
  exact⟨rfl,fin w' hV h5.2⟩
theorem Core.sync (h:Core v r N lg i F F0 t rt room log err ch w) (hF:∀g,F0 g→F g) (hi:i≤299):
  Calls Tryz.prog 30 #[.pointer (some ⟨v,0,none⟩)] w fun e w'=>e= .returned (.int .i64 0)∧Fr F F0 w F F0 w'∧Core v r N lg (i+1) F F0 t rt room log err ch w'∧∃dn:Nat,Calls Tryz.prog 31 #[.pointer (some ⟨v,0,none⟩)] w' (fun e w''=>w''=w'∧e= .returned (.int .i64 dn))∧Calls Tryz.prog 21 #[.pointer (some ⟨v,0,none⟩)] w' (fun e w''=>w''=w'∧e= .returned (.int .i64 dn)):=by
 obtain⟨u,cms,kv0,kv,h1,h2,h3,(⟨rfl,P,C,c,h5,h6,h7,h8,h9,h10,h11⟩|⟨rfl,h5⟩)⟩:=h
 ·refine(h5.1.sync (by omega)).mono ?_
  rintro e w' ⟨rfl,hT,hS⟩
  refine⟨rfl,⟨hF,fun _ e=>e,fun _ e=> .inl e,hT.lC.mono (fun g _ e hf=>absurd hf e)⟩,⟨u,cms,kv0,kv,h1.le (by omega),h2.le (by omega),by omega,.inl ⟨rfl,P,C,c,⟨hT.re,h5.2.prog (hT.lC.out hF)⟩,h6,h7,by omega,h9,by omega,h11⟩⟩,cms.length,hS,?_⟩
  exact(hT.done (by omega)).mono (fun e w'' q=>⟨q.2,q.1⟩)
 ·refine(h5.1.sync (by omega)).mono ?_
  rintro e w' ⟨rfl,hT,hS⟩
  refine⟨rfl,⟨hF,fun _ e=>e,fun _ e=> .inl e,hT.lC.mono (fun g _ e hf=>absurd hf e)⟩,⟨u,cms,kv0,kv,h1.le (by omega),h2.le (by omega),by omega,.inr ⟨rfl,hT.re,h5.2.prog (hT.lC.out hF)⟩⟩,cms.length,hS,?_⟩
  exact(hT.done (by omega)).mono (fun e w'' q=>⟨q.2,q.1⟩)
theorem Core.check (h:Core v r N lg i F F0 t rt room log err ch w):
  Calls Tryz.prog 34 #[.pointer (some ⟨v,0,none⟩)] w fun e w'=>w'=w∧e= .returned (.int .i64 6):=by
 obtain⟨u,cms,kv0,kv,h1,h2,h3,(⟨rfl,P,C,c,h5,_⟩|⟨rfl,h5⟩)⟩:=h
 ·exact BK _ 6 w h5.1.busy (by decide)
 ·exact BK _ 6 w h5.1.busy (by decide)
theorem pU.used (h:pU v r N lg i F F0 w) (hF:∀g,F0 g→F g):
  Calls Tryz.prog 16 #[.pointer (some ⟨v,0,none⟩)] w fun e w'=>∃n:Nat,e= .returned (.tuple #[.int .i64 n,.int .i64 0])∧2≤(n:Int)∧Fr F F0 w F F0 w'∧pU v r N lg i F F0 w':=by
 obtain⟨cms,kv,h1,h2,⟨u,hV⟩,hR⟩:=h
 refine hV.used.mono ?_
 rintro e w' ⟨rfl,hV'⟩
 exact⟨_,rfl,by omega,⟨hF,fun _ e=>e,fun _ e=> .inl e,hV'.lC.mono (fun g _ e hf=>absurd hf e)⟩,cms,kv,h1,h2,⟨u,hV'.re⟩,hR.prog (hV'.lC.out hF)⟩
theorem pU.check (h:pU v r N lg i F F0 w) (hF:∀g,F0 g→F g) (hi:i≤300):
  Calls Tryz.prog 34 #[.pointer (some ⟨v,0,none⟩)] w fun e w'=>e= .returned (.int .i64 0)∧Fr F F0 w F F0 w'∧pU v r N lg i F F0 w':=by
 obtain⟨cms,kv,h1,h2,⟨u,hV⟩,hR⟩:=h
 have:=h1.len
 refine(hV.check (by omega)).mono ?_
 rintro e w' ⟨rfl,hV'⟩
 exact⟨rfl,⟨hF,fun _ e=>e,fun _ e=> .inl e,hV'.lC.mono (fun g _ e hf=>absurd hf e)⟩,cms,kv,h1,h2,⟨u,hV'.re⟩,hR.prog (hV'.lC.out hF)⟩
theorem pU.Pb (h:pU v r N lg i F F0 w) (hi:i≤300):∃dn:Nat,Calls Tryz.prog 21 #[.pointer (some ⟨v,0,none⟩)] w (fun e w'=>w'=w∧e= .returned (.int .i64 dn))∧Calls Tryz.prog 33 #[.pointer (some ⟨r,0,none⟩)] w (fun e w'=>w'=w∧e= .returned (.int .i64 dn)):=by
 obtain⟨cms,kv,h1,h2,⟨u,hV⟩,hR⟩:=h
 refine⟨cms.length,(hV.done (by omega)).mono (fun e w'' q=>⟨q.2,q.1⟩),(hR.done (by simp;omega)).mono ?_⟩
 rintro e w' ⟨rfl,rfl⟩
 exact⟨rfl,by simp⟩
theorem pU.begin (h:pU v r N lg i F F0 w) (hF:∀g,F0 g→F g) (hi:i≤300):
  Calls Tryz.prog 26 #[.pointer (some ⟨v,0,none⟩),.pointer (some ⟨r,0,none⟩)] w fun e w'=>∃t rt room log err ch F' F0',e= .returned (.tuple #[mR t rt room log err ch,.bool true])∧Fr F F0 w F' F0' w'∧Core v r N lg i F' F0' t rt room log err ch w':=by
 obtain⟨cms,kv,h1,h2,⟨u,hV⟩,hR⟩:=h
 have:=h1.len
 refine(P5 F F0 hF v r N (lg - 1) cms.length u kv cms w hV hR (by omega) (by omega) h1.val).mono ?_
 rintro e w' ⟨t,rt,F',F0',rfl,q1,q2,q3,hT,hR',hk⟩
 refine⟨t,rt,_,_,_,_,F',F0',rfl,⟨q1,q2,q3,hk⟩,u,cms,kv,kv,h1,h1,h2,.inl ⟨rfl,2+u,0,0,⟨hT,hR'⟩,?_,by omega,by omega,by omega,by omega,fun _=>by omega⟩⟩
 simp
end
theorem IU.new (w:World):
  Calls Tryz.prog 23 #[] w fun e w'=>∃r,e= .returned (.pointer (some ⟨r,0,none⟩))∧Below w.heap.size w w'∧IU (fun g=>w.heap.size≤g∧g<w'.heap.size) w' r [[]]:=by
 refine(QJ w).mono ?_
 rintro e w' ⟨rfl,h1,h2,h3,hb⟩
 refine⟨_,rfl,hb,_,[.slice none 0 0],h2,⟨?_,fun g hg e=> ?_⟩,?_,fun i hi=> ?_,⟨by omega,by omega⟩⟩
 ·refine⟨rfl,.inr ⟨w.heap.size,1,#[.slice none 0 0],rfl,aU _,h1,by simp,by decide,rfl,rfl⟩⟩
 ·injection hg with hg
  subst hg
  exact e.2 ⟨aC _,by show w.heap.size<w'.heap.size;omega⟩
 ·intro e
  injection e with e
  have e:w.heap.size=w.heap.size+1:=e
  omega
 ·have:i=0:=by simpa using hi
  subst this
  exact⟨_,rfl,aX.nil _ _ _⟩
theorem J3 (z0 z1:Int) (h0:0≤z0∧z0≤65535) (h1:0≤z1∧z1≤65535) (w:World):
  Calls Tryz.prog 22 #[.agg #[.int .u16 z0,.int .u16 z1]] w fun e w'=>∃d S,∃n lg:Nat,e= .returned (.tuple #[.pointer (some ⟨d,0,none⟩),.int .i64 lg])∧qF w' S d (Dk.new n)∧Below w.heap.size w w'∧(∀g,S g→w.heap.size≤g)∧6≤lg∧lg≤605∧lg+8≤n∧n≤2112:=by
 have hb1:=aI w (.cells #[.int .u16 z0,.int .u16 z1] 51)
 have q1:IntKind.i64.wrap z1=z1:=aF _ (by omega)
 have q0:IntKind.i64.wrap z0=z0:=aF _ (by omega)
 have e1:IntKind.i64.wrap (6+z1%600)=6+z1%600:=aF _ (by omega)
 have e2:IntKind.i64.wrap (6+z1%600+8)=6+z1%600+8:=aF _ (by omega)
 have e3:IntKind.i64.wrap (6+z1%600+8+z0%1500)=6+z1%600+8+z0%1500:=aF _ (by omega)
 go_enter Tryz.func22,Tryz.ntmps22
 go_wp2_with (first
  |(go_at_call 12;go_must ((refine(QX _ _).mono ?_);rintro e w1 ⟨d,S,rfl,hD,hb2,hS⟩)))
 go_ret2
 obtain⟨lg,hlg⟩:∃lg:Nat,(lg:Int)=6+z1%600:=⟨(6+z1%600).toNat,by omega⟩
 have hcl:jc (6+z1%600+8+z0%1500)=(6+z1%600+8+z0%1500).toNat:=by unfold jc;rw[if_neg (by omega),if_neg (by omega)]
 rw[hcl] at hD
 exact⟨d,S,_,lg,by rw[hlg];rfl,hD,hb1.trans (hb2.mono hb1.size),fun g hg=>aH hb1.size (hS g hg),by omega,by omega,by omega,by omega⟩
structure LB (w0:World) (sx:Nat) (F F0:Nat→Prop) (w:World):Prop where
 sub:∀g,F0 g→F g
 old:∀g,g<w0.heap.size→F g∧¬F0 g
 mK:Below w0.heap.size w0 w
 fs:F sx
 ns:¬F0 sx
 lo:w0.heap.size≤sx
 lt:sx<w.heap.size
theorem LB.fr {w0 w w':World} {sx:Nat} {F F0 F' F0':Nat→Prop} (h:LB w0 sx F F0 w) (hf:Fr F F0 w F' F0' w'):LB w0 sx F' F0' w':=
 ⟨hf.sub,fun g hg=>⟨hf.grow g (h.old g hg).1,fun e=>(hf.lo g e).elim (h.old g hg).2 (fun e=>by have:=h.mK.size;omega)⟩,h.mK.trans (hf.keep.jg h.mK.size (fun g hg e=>(h.old g hg).2 (e (h.old g hg).1))),hf.grow _ h.fs,fun e=>(hf.lo _ e).elim h.ns (fun e=>by have:=h.lt;omega),h.lo,ak h.lt hf.keep.size⟩
theorem LB.side {w0 w w':World} {sx:Nat} {F F0 F' F0':Nat→Prop} {o:Obj} (h:LB w0 sx F F0 w) (hf:Fr F F0 w F' F0' w') (hs:w.heap[sx]? =some o):w'.heap[sx]? =some o:=(hf.keep.block sx h.lt (fun e=>h.ns (e h.fs))).trans hs
theorem LB.own {w0 w w':World} {sx:Nat} {F F0:Nat→Prop} (h:LB w0 sx F F0 w) {M:Nat→Prop} (hk:Keep M w w') (hM:∀g,M g→w0.heap.size≤g):LB w0 sx (iG F w w') F0 w':=
 ⟨fun g e=> .inl (h.sub g e),fun g hg=>⟨.inl (h.old g hg).1,(h.old g hg).2⟩,h.mK.trans (hk.jg h.mK.size (fun g hg e=>by have:=hM g e;omega)),.inl h.fs,h.ns,h.lo,ak h.lt hk.size⟩
def BP (t rt:Nat) (room log err:Int) (ch:Bool):Obj:= .cells #[.pointer (some ⟨t,0,none⟩),.pointer (some ⟨rt,0,none⟩),.int .i64 room,.int .i64 log,.int .i64 err,.bool ch] 60 (0,0)
def Loop (w0:World) (v r N lg sx k:Nat) (w:World):Prop:=∃F F0 t rt room log err ch,LB w0 sx F F0 w∧Core v r N lg k F F0 t rt room log err ch w∧w.heap[sx]? =some (BP t rt room log err ch)
theorem Kk {W:World} {ob:Nat} {a b c d:Value} (h:W.heap[ob]? =some (.cells #[a,b,c,d] 24 (0,0))):
  W.cell? ⟨ob,0,none⟩=some a∧W.cell? ⟨ob,1,none⟩=some b∧W.cell? ⟨ob,2,none⟩=some c∧W.cell? ⟨ob,3,none⟩=some d∧ob<W.heap.size:=by
 refine⟨?_,?_,?_,?_,(ah.1 h).1⟩<;>simp[World.cell?,h]
theorem iV {W:World} {sb:Nat} {cs:Array Value} (h:W.heap[sb]? =some (.cells cs 60 (0,0))) (i:Nat):W.frozen? ⟨sb,i,none⟩=false:=by simp[World.frozen?,h]
theorem zL {w0 w:World} {v r N lg sx k t rt:Nat} {F F0:Nat→Prop} {room log err:Int} {ch:Bool} {c0 c1 c2 c3 c4 c5:Value} (h:LB w0 sx F F0 w) (hC:Core v r N lg k F F0 t rt room log err ch w) (hs:w.heap[sx]? =some (.cells #[c0,c1,c2,c3,c4,c5] 60 (0,0))):
  Loop w0 v r N lg sx k ((((((w.setCell ⟨sx,0,none⟩ (.pointer (some ⟨t,0,none⟩))).setCell ⟨sx,1,none⟩ (.pointer (some ⟨rt,0,none⟩))).setCell ⟨sx,2,none⟩ (.int .i64 room)).setCell ⟨sx,3,none⟩ (.int .i64 log)).setCell ⟨sx,4,none⟩ (.int .i64 err)).setCell ⟨sx,5,none⟩ (.bool ch)):=by
 have hk:Keep (· =sx) w ((((((w.setCell ⟨sx,0,none⟩ (.pointer (some ⟨t,0,none⟩))).setCell ⟨sx,1,none⟩ (.pointer (some ⟨rt,0,none⟩))).setCell ⟨sx,2,none⟩ (.int .i64 room)).setCell ⟨sx,3,none⟩ (.int .i64 log)).setCell ⟨sx,4,none⟩ (.int .i64 err)).setCell ⟨sx,5,none⟩ (.bool ch)):=
  ((((((Keep.refl (· =sx) w).setCell (p:=⟨sx,0,none⟩) (.inr rfl) _).setCell (p:=⟨sx,1,none⟩) (.inr rfl) _).setCell (p:=⟨sx,2,none⟩) (.inr rfl) _).setCell (p:=⟨sx,3,none⟩) (.inr rfl) _).setCell (p:=⟨sx,4,none⟩) (.inr rfl) _).setCell (p:=⟨sx,5,none⟩) (.inr rfl) _
 refine⟨_,F0,t,rt,room,log,err,ch,h.own hk (fun g e=>by have e:g=sx:=e;rw[e];exact h.lo),hC.own hk (fun g e=>by have e:g=sx:=e;rw[e];exact⟨h.fs,h.ns⟩),?_⟩
 unfold BP
 simp[World.setCell,aL,hs]
theorem LB.new {w0 w w':World} {F F0:Nat→Prop} (sub:∀g,F0 g→F g) (old:∀g,g<w0.heap.size→F g∧¬F0 g) (mK:Below w0.heap.size w0 w) (hF:∀g,F g→g<w.heap.size) (hb:Below w.heap.size w w') (hz:w.heap.size<w'.heap.size):LB w0 w.heap.size (iG F w w') F0 w':=
 ⟨fun g e=> .inl (sub g e),fun g hg=>⟨.inl (old g hg).1,(old g hg).2⟩,mK.trans (hb.mono mK.size),.inr ⟨aC _,hz⟩,fun e=>absurd (hF _ (sub _ e)) (di _),mK.size,hz⟩
theorem oI.OM {w0:iZ} {w:World} {v N R dn u:Nat} {kv:List Pr} (h:oI w0 v N R dn u kv w):
  Calls Tryz.prog 24 #[.pointer (some ⟨v,0,none⟩)] w fun e w'=>e= .returned (.int .i64 N)∧oI w0 v N R dn u kv w'∧Below w.heap.size w w':=by
 obtain⟨S,pg,d,σ,l,p,f,root,es,tb,hA,hB,h1,h2,h3,h4,h5,h6⟩:=h
 refine hA.blocks.mono ?_
 rintro e w' ⟨rfl,hV,hb⟩
 exact⟨by rw[h2],⟨S,pg,d,σ,l,p,f,root,es,tb,hV,hB.below hb,h1,h2,h3,h4,h5,h6⟩,hb⟩
theorem MB {w0 w:World} {v r N lg k t rt:Nat} {F F0:Nat→Prop} {room log err:Int} {ch:Bool} (sub:∀g,F0 g→F g) (old:∀g,g<w0.heap.size→F g∧¬F0 g) (mK:Below w0.heap.size w0 w) (hC:Core v r N lg k F F0 t rt room log err ch w):
  Loop w0 v r N lg w.heap.size k (w.alloc (.cells #[.pointer (some ⟨t,0,none⟩),.pointer (some ⟨rt,0,none⟩),.int .i64 room,.int .i64 log,.int .i64 err,.bool ch] 60)):=
 ⟨_,F0,t,rt,room,log,err,ch,LB.new sub old mK hC.fs (aI w _) (by simp),hC.below sub (aI w _),aS w _⟩
theorem oI.QS (w0:iZ) (w:World) (n:Nat) (log:Nat) (d:Nat) (S:Nat→Prop) (hb:VB w0 w S) (h:qF w S d (Dk.new n)) (h1:6≤log) (h2:log+8≤n):
  Calls Tryz.prog 11 #[.pointer (some ⟨d,0,none⟩),.int .i64 log] w fun e w'=>∃v,e= .returned (.tuple #[.pointer (some ⟨v,0,none⟩),.int .i64 0])∧oI w0 v (n - log) (log - 1) 0 0 [] w'∧∀W,Below w'.heap.size w' W→Calls Tryz.prog 25 #[.pointer (some ⟨d,0,none⟩)] W fun e W'=>W'=W∧e= .returned (.int .i64 n):=by
 refine(O1 d (Dk.new n) S log w h ⟨rfl,rfl⟩ h1 h2 (aU _)).mono ?_
 rintro e w' ⟨v,pg,σ',l',p',S',rfl,hobj,hn,hlo,hp,hN,hs⟩
 refine⟨v,rfl,⟨S',pg,d,σ',l',p',two,0,[],[],⟨hobj,hn,hp,hN.vi,hN.base,OV.live⟩,hb.step hs,hb.new hlo,?_,hN.ring,hN.last,rfl,rfl⟩,fun W hW=> ?_⟩
 ·unfold Pg.blocks
  rw[hN.n,hN.skip];rfl
 ·obtain⟨Sd,Sl,Sp,lg,fb,hp,_⟩:=hp.below hW
  refine(Ct d σ' Sd W hp.log.dk).mono ?_
  rintro e W' ⟨rfl,rfl⟩
  exact⟨rfl,by rw[hN.n];rfl⟩
abbrev Ra:=Int×ByteArray×ByteArray×Int
def JJ (w:World) (v:Value) (os:List Ra):Prop:=∃ao c,v= .slice ao os.length c∧os.length≤c∧c≤maxLen∧
 ∀i (_:i<os.length),∃b o,ao=some ⟨b,o,none⟩∧w.cell? ⟨b,o+i*4,none⟩=some (.int .u8 os[i].1)∧w.cell? ⟨b,o+i*4+1,none⟩=some (.string os[i].2.1)∧w.cell? ⟨b,o+i*4+2,none⟩=some (.string os[i].2.2.1)∧w.cell? ⟨b,o+i*4+3,none⟩=some (.int .i64 os[i].2.2.2)
theorem JJ.at {w:World} {v:Value} {os:List Ra} {ao:Option Addr} {n c:Nat} (h:JJ w v os) (hv:v= .slice ao n c) (i:Nat) (hi:i<os.length):
  ∃b o,ao=some ⟨b,o,none⟩∧w.cell? ⟨b,o+i*4,none⟩=some (.int .u8 os[i].1)∧w.cell? ⟨b,o+i*4+1,none⟩=some (.string os[i].2.1)∧w.cell? ⟨b,o+i*4+2,none⟩=some (.string os[i].2.2.1)∧w.cell? ⟨b,o+i*4+3,none⟩=some (.int .i64 os[i].2.2.2):=by
 obtain⟨ao',c',rfl,_,_,h6⟩:=h
 cases hv
 exact h6 i hi
theorem Em (z0 z1:Int) (v0:Value) (os1:List Ra) (w:World) (h0:0≤z0∧z0≤65535) (hz1:0≤z1∧z1≤65535) (h1:JJ w v0 os1) (hw1:∀o∈os1,0≤o.1∧o.1≤255) (hw2:∀o∈os1,o.2.2.1.size≤maxLen):
  Calls Tryz.prog 4 #[.agg #[.int .u16 z0,.int .u16 z1],v0] w fun e w'=>e= .returned (.bool true)∧Below w.heap.size w w':=by
 obtain⟨ao,ac,rfl,_,hac,_⟩:=id h1
 have hac':ac≤9223372036854775807:=by simpa [maxLen] using hac
 have hb0:=aI w (.cells #[.int .u16 z0,.int .u16 z1] 51)
 have hn0:=aS w (.cells #[.int .u16 z0,.int .u16 z1] 51)
 obtain⟨wa,hwa⟩:∃wa:World,Hid (w.alloc (.cells #[.int .u16 z0,.int .u16 z1] 51)=wa):=⟨_,af rfl⟩
 rw[hwa.out] at hb0 hn0
 obtain⟨zb,hzb⟩:∃zb:Nat,Hid (w.heap.size=zb):=⟨_,af rfl⟩
 rw[hzb.out] at hn0
 have hzl:=(ah.1 hn0).1
 have HB0:=af hb0
 clear hb0
 go_enter Tryz.func4,Tryz.ntmps4
 go_upto_region 1 with (fail)
 rw[hwa.out,hzb.out]
 by_cases hlen:300<os1.length
 ·have x1:(300:Int)<(os1.length:Int):=by omega
  go_wp2_with (first
   |(go_at_call 10;(refine(xJ wa).mono ?_);rintro e w1 ⟨rfl,hb1⟩)
   |(go_at_call 10;(refine(xJ _).mono ?_);rintro e w2 ⟨rfl,hb2⟩))
  go_ret
  have q1:=HB0.out.trans (hb1.mono HB0.out.size)
  exact⟨rfl,q1.trans (hb2.mono q1.size)⟩
 ·have x1:decide ((300:Int)<(os1.length:Int))=false:=bn (by omega)
  go_upto_region 3 with (first
   |(go_at_call 10;(refine(xJ wa).mono ?_);rintro e w1 ⟨rfl,hb1⟩;refine Stop.of ?_))
  refine Stop.on ?_
  have hn1:=(hb1.block zb hzl).trans hn0
  have hzl1:=(ah.1 hn1).1
  have c0:w1.cell? ⟨zb,0,none⟩=some (.int .u16 z0):=by simp[World.cell?,hn1]
  have c1:w1.cell? ⟨zb,1,none⟩=some (.int .u16 z1):=by simp[World.cell?,hn1]
  have HB1:=af (HB0.out.trans (hb1.mono HB0.out.size))
  have HD:=af (J3 z0 z1 h0 hz1 w1)
  clear hb1 hn0 hzl
  go_wp2_with (first
   |(go_at_call 22;go_must ((refine HD.out.mono ?_);rintro e w2 ⟨d,S,n,lg,rfl,hD,hb2,hS,l1,l2,l3,l4⟩;refine Stop.of ?_)))
  refine Stop.on ?_
  have HB2:=af (HB1.out.trans (hb2.mono HB1.out.size))
  obtain⟨N,hN⟩:∃N:Nat,N=n - lg:=⟨_,rfl⟩
  have hMK:=oI.QS w w2 n lg d S (VB.of HB2.out (fun g hg=>aH HB1.out.size (hS g hg))) hD l1 l3
  rw[←hN] at hMK
  have HMK:=af hMK
  have hNi:(n:Int) - (lg:Int)=(N:Int):=by omega
  have q1:IntKind.i64.wrap ((n:Int) - (lg:Int))=(N:Int):=by rw[hNi];exact aF _ (by omega)
  have HLG:=af (ax l1 (ax l2 (ax l3 l4)))
  clear hMK hD hS hb2 l1 l3 l4 hn1 hzl1 c0 c1 hNi hN
  go_wp2_with (first
   |(go_at_call 11;go_must ((refine HMK.out.mono ?_);rintro e w3 ⟨v,rfl,hV3,hSz⟩;refine Stop.of ?_)))
  refine Stop.on ?_
  have HV3:=af (ax hV3 hSz)
  clear hV3 hSz
  go_wp2_with (first
   |(go_at_call 23;go_must ((refine(IU.new w3).mono ?_);rintro e w4 ⟨r,rfl,hb4,hR4⟩;refine Stop.of ?_)))
  refine Stop.on ?_
  have hV4:=HV3.out.1.next (M:=fun _=>False) (Keep.of_below hb4 _) (fun _ e=>e.elim)
  have HBK:=af hV4.OM
  have HR4:=af (ax hb4 hR4)
  clear hV4 hb4 hR4
  go_upto_region 8 with (first
   |(go_at_call 24;go_must ((refine HBK.out.mono ?_);rintro e w5 ⟨rfl,hV5,hb5⟩;refine Stop.of ?_)))
  refine Stop.on ?_
  have hbel5:=HR4.out.1.trans (hb5.mono HR4.out.1.size)
  have HSZ:=af (HV3.out.2 w5 hbel5)
  have hb3:=HV3.out.1.mK
  have HB5:=af (ax (hb3.trans (hbel5.mono hb3.size)) hb3.size)
  have hR5:=HR4.out.2.prog (Keep.of_below hb5 _)
  have hC5:pU v r N lg 0 _ (fun g=>w3.heap.size≤g∧g<w4.heap.size) w5:=⟨[],[],Kv.nil 0,aU _,⟨0,hV5.re⟩,hR5⟩
  have hbg:=hC5.begin (fun g e=> .inr e) (by omega)
  unfold mR at hbg
  have HBG:=af hbg
  clear hV5 hb5 hbel5 hb3 hR5 hC5 hbg
  go_wp2_with (first
   |(go_at_call 25;go_must ((refine HSZ.out.mono ?_);rintro e w6 ⟨hw,rfl⟩;subst w6))
   |(go_at_call 26;go_must ((refine HBG.out.mono ?_);rintro e w6 ⟨t,rt,room,log,err,ch,F6,F60,rfl,hFr6,hC6⟩;refine Stop.of ?_)))
  refine Stop.on ?_
  have hold:∀g,g<w.heap.size→F6 g∧¬F60 g:=fun g hg=>⟨hFr6.grow g (.inl hg),fun e=>by
   have h1:=HB5.out.1.size
   have h2:=HB5.out.2
   rcases hFr6.lo g e with e|e<;>omega⟩
  have hbel6:Below w.heap.size w w6:=HB5.out.1.trans (hFr6.keep.jg HB5.out.1.size (fun g hg e=>by
   have h2:=HB5.out.2
   have:=(e (.inl hg)).1
   omega))
  have hL7:=MB hFr6.sub hold hbel6 hC6
  have HL7:=af hL7
  clear hold hbel6 hL7 hFr6 hC6
  go_upto_region 9 with (fail)
  obtain⟨sx,hsx⟩:∃sx:Nat,Hid (w6.heap.size=sx):=⟨_,af rfl⟩
  have hL7:=HL7.out
  rw[hsx.out] at hL7 ⊢
  generalize w6.alloc (.cells #[.pointer (some ⟨t,0,none⟩),.pointer (some ⟨rt,0,none⟩),.int .i64 room,.int .i64 log,.int .i64 err,.bool ch] 60)=w7 at hL7 ⊢
  clear HL7 HBG HSZ HBK HV3 HR4 HMK HD
  go_wp2_with fail
  go_loopw [11,12,13,14,15] (fun b i _ _ _ wr=>∃k:Nat,k≤os1.length∧b= .bool true∧i= .int .i64 k∧Loop w v r N lg sx k wr) (fun _ i _ _ _ _=>os1.length - (intOf i).toNat)
  case atStart=>exact⟨0,aU _,rfl,rfl,hL7⟩
  case round=>
   clear hL7
   obtain⟨k,hk,rfl,rfl,F,F0,t,rt,room,log,err,ch,hB,hC,hs⟩:=hrel
   by_cases hlt:k<os1.length
   ·obtain⟨b,o,rfl,d0,d1,d2,d3⟩:=h1.at rfl k hlt
    have hlt':(k:Int)<(os1.length:Int):=by omega
    have hbl:b<w.heap.size:=ay w _ d0
    have d0:=(hB.mK.cell (p:=⟨b,o+k*4,none⟩) hbl).trans d0
    have d1:=(hB.mK.cell (p:=⟨b,o+k*4+1,none⟩) hbl).trans d1
    have d2:=(hB.mK.cell (p:=⟨b,o+k*4+2,none⟩) hbl).trans d2
    have d3:=(hB.mK.cell (p:=⟨b,o+k*4+3,none⟩) hbl).trans d3
    have hbl:=ak hbl hB.mK.size
    have hkd:=hw1 _ (bg hlt)
    have hvd:=hw2 _ (bg hlt)
    generalize os1[k].1=kd at d0 hkd
    generalize os1[k].2.1=key at d1
    generalize os1[k].2.2.1=val at d2 hvd
    generalize os1[k].2.2.2=n at d3
    have hb8:=aI wr (.cells #[.int .u8 kd,.string key,.string val,.int .i64 n] 24)
    have ho8:=aS wr (.cells #[.int .u8 kd,.string key,.string val,.int .i64 n] 24)
    have HB:=af (ax hB (ax hC (ax hs (ax hb8 ho8))))
    clear hB hC hs hb8 ho8
    go_upto_region 13 with (fail)
    obtain⟨ob,hob⟩:∃ob:Nat,Hid (wr.heap.size=ob):=⟨_,af rfl⟩
    obtain⟨hB,hC,hs,hb8,ho8⟩:=HB.out
    clear HB d0 d1 d2 d3 hbl
    rw[hob.out] at ho8
    obtain⟨w8,hw8⟩:∃w8:World,Hid (wr.alloc (.cells #[.int .u8 kd,.string key,.string val,.int .i64 n] 24)=w8):=⟨_,af rfl⟩
    rw[hw8.out] at ho8 hb8 ⊢
    rw[hob.out]
    have hB8:=hB.own (Keep.of_below hb8 (fun _=>False)) (fun g e=>e.elim)
    have hC8:=hC.below hB.sub hb8
    have hs8:=(hb8.block sx hB.lt).trans hs
    have hs8':=hs8
    unfold BP at hs8'
    obtain⟨s0,s1,s2,s3,s4,s5,sl⟩:=ja hs8'
    obtain⟨c0,c1,c2,c3,cl⟩:=Kk ho8
    have HB8:=af (ax hB8 (ax hC8 hs8))
    clear hB hC hs hb8 ho8 hB8 hC8 hs8 hs8'
    have hch:=HB8.out.2.1.change HB8.out.1.sub (by omega) kd n key val hkd hvd
    have has:=HB8.out.2.1.asked (by omega) kd n key val hkd
    have hcm:=HB8.out.2.1.commit HB8.out.1.sub (by omega) HLG.out.2.1
    unfold mR at hch has hcm
    have HCH:=af hch;have HAS:=af has;have HCM:=af hcm
    have HAB:=af (HB8.out.2.1.abort HB8.out.1.sub)
    have HSY:=af (HB8.out.2.1.sync HB8.out.1.sub (by omega))
    clear hch has hcm hvd
    by_cases g01:kd%8=0∨kd%8=1
    ·rcases g01 with hm|hm
     all_goals
       go_wp2_with (first
        |(go_at_call 27;go_must ((refine HCH.out.mono ?_);rintro e w9 ⟨room',log',err',ch',F',F0',rfl,hFr,hC'⟩;refine Stop.of ?_)))
       refine Stop.on ?_
       have hBd:=HB8.out.1.fr hFr
       have hsd:=HB8.out.1.side hFr HB8.out.2.2
       unfold BP at hsd
       clear s0 s1 s2 s3 s4 s5 sl c0 c1 c2 c3 cl
       obtain⟨s0,s1,s2,s3,s4,s5,sl⟩:=ja hsd
       have f0:=iV hsd 0;have f1:=iV hsd 1;have f2:=iV hsd 2;have f3:=iV hsd 3;have f4:=iV hsd 4;have f5:=iV hsd 5
       have HSD:=af (zL hBd hC' hsd)
       clear hFr hC' hBd hsd
       go_wp2_with fail
       go_roundw
       case rel=>exact⟨k+1,by omega,rfl,by go_num,HSD.out⟩
       case measure=>simp[intOf];omega
    by_cases g23:kd%8=2∨kd%8=3
    ·rcases g23 with hm|hm
     all_goals
       go_wp2_with (first
        |(go_at_call 28;go_must ((refine HAS.out.mono ?_);rintro e w9 ⟨rfl,hb9⟩;refine Stop.of ?_)))
       refine Stop.on ?_
       have HSD:Hid (Loop w v r N lg sx (k+1) w9):=af ⟨_,F0,t,rt,room,log,err,ch,HB8.out.1.own (Keep.of_below hb9 (fun _=>False)) (fun g e=>e.elim),HB8.out.2.1.more.below HB8.out.1.sub hb9,(hb9.block sx HB8.out.1.lt).trans HB8.out.2.2⟩
       clear hb9
       go_wp2_with fail
       go_roundw
       case rel=>exact⟨k+1,by omega,rfl,by go_num,HSD.out⟩
       case measure=>simp[intOf];omega
    by_cases g6:kd%8=6
    ·go_wp2_with (first
      |(go_at_call 30;go_must ((refine HSY.out.mono ?_);rintro e w9 ⟨rfl,hFr,hC',dn,hd1,hd2⟩;refine Stop.of ?_)))
     refine Stop.on ?_
     have HSD:Hid (Loop w v r N lg sx (k+1) w9):=af ⟨_,_,t,rt,room,log,err,ch,HB8.out.1.fr hFr,hC',HB8.out.1.side hFr HB8.out.2.2⟩
     have HD1:=af hd1;have HD2:=af hd2
     clear hFr hC' hd1 hd2
     go_wp2_with (first
      |(go_at_call 31;go_must ((refine HD1.out.mono ?_);rintro e w10 ⟨hw,rfl⟩;subst w10))
      |(go_at_call 21;go_must ((refine HD2.out.mono ?_);rintro e w10 ⟨hw,rfl⟩;subst w10)))
     go_roundw
     case rel=>exact⟨k+1,by omega,rfl,by go_num,HSD.out⟩
     case measure=>simp[intOf];omega
    by_cases g4:kd%8=4
    ·go_wp2_with (first
      |(go_at_call 29;go_must ((refine HCM.out.mono ?_);rintro e w9 ⟨rfl,F9,F90,hFr,hV9⟩;refine Stop.of ?_)))
     refine Stop.on ?_
     have hB9:=HB8.out.1.fr hFr
     have hs9:=HB8.out.1.side hFr HB8.out.2.2
     have HB9:=af (ax hB9 hs9)
     have HU:=af (hV9.used hB9.sub)
     clear hFr hV9 hB9 hs9 s0 s1 s2 s3 s4 s5 sl c0 c1 c2 c3 cl
     go_wp2_with (first
      |(go_at_call 16;go_must ((refine HU.out.mono ?_);rintro e wu ⟨un,rfl,hun,hFr,hVu⟩;refine Stop.of ?_)))
     refine Stop.on ?_
     have hun2:¬(un:Int)<2:=by omega
     have hBu:=HB9.out.1.fr hFr
     have hsu:=HB9.out.1.side hFr HB9.out.2
     obtain⟨dn,hd1,hd2⟩:=hVu.Pb (by omega)
     have HD1:=af hd1;have HD2:=af hd2
     have HBu:=af (ax hBu hsu)
     have HCK:=af (hVu.check hBu.sub (by omega))
     clear hd1 hd2 hFr hVu hBu hsu
     go_wp2_with (first
      |(go_at_call 21;go_must ((refine HD1.out.mono ?_);rintro e w10 ⟨hw,rfl⟩;subst w10))
      |(go_at_call 33;go_must ((refine HD2.out.mono ?_);rintro e w10 ⟨hw,rfl⟩;subst w10))
      |(go_at_call 34;go_must ((refine HCK.out.mono ?_);rintro e wc ⟨rfl,hFr,hVc⟩;refine Stop.of ?_)))
     refine Stop.on ?_
     have hBc:=HBu.out.1.fr hFr
     have hsc:=HBu.out.1.side hFr HBu.out.2
     have hbg:=hVc.begin hBc.sub (by omega)
     unfold mR at hbg
     have HBG:=af hbg
     have HBc:=af (ax hBc hsc)
     clear hFr hVc hBc hsc hbg
     go_wp2_with (first
      |(go_at_call 26;go_must ((refine HBG.out.mono ?_);rintro e wd ⟨t',rt',room',log',err',ch',F',F0',rfl,hFr,hC'⟩;refine Stop.of ?_)))
     refine Stop.on ?_
     have hBd:=HBc.out.1.fr hFr
     have hsd:=HBc.out.1.side hFr HBc.out.2
     unfold BP at hsd
     obtain⟨s0,s1,s2,s3,s4,s5,sl⟩:=ja hsd
     have f0:=iV hsd 0;have f1:=iV hsd 1;have f2:=iV hsd 2;have f3:=iV hsd 3;have f4:=iV hsd 4;have f5:=iV hsd 5
     have HSD:=af (zL hBd hC' hsd)
     clear hFr hC' hBd hsd
     go_wp2_with fail
     go_roundw
     case rel=>exact⟨k+1,by omega,rfl,by go_num,HSD.out⟩
     case measure=>simp[intOf];omega
    ·have g0:¬kd%8=0:=fun e=>g01 (.inl e)
     have g1:¬kd%8=1:=fun e=>g01 (.inr e)
     have g2:¬kd%8=2:=fun e=>g23 (.inl e)
     have g3:¬kd%8=3:=fun e=>g23 (.inr e)
     clear g01 g23
     go_wp2_with (first
      |(go_at_call 32;go_must ((refine HAB.out.mono ?_);rintro e w9 ⟨rfl,hFr,hV9⟩;refine Stop.of ?_)))
     refine Stop.on ?_
     have hB9:=HB8.out.1.fr hFr
     have hs9:=HB8.out.1.side hFr HB8.out.2.2
     have HB9:=af (ax hB9 hs9)
     have HU:=af (hV9.used hB9.sub)
     clear hFr hV9 hB9 hs9 s0 s1 s2 s3 s4 s5 sl c0 c1 c2 c3 cl
     go_wp2_with (first
      |(go_at_call 16;go_must ((refine HU.out.mono ?_);rintro e wu ⟨un,rfl,hun,hFr,hVu⟩;refine Stop.of ?_)))
     refine Stop.on ?_
     have hun2:¬(un:Int)<2:=by omega
     have hBu:=HB9.out.1.fr hFr
     have hsu:=HB9.out.1.side hFr HB9.out.2
     obtain⟨dn,hd1,hd2⟩:=hVu.Pb (by omega)
     have HD1:=af hd1;have HD2:=af hd2
     have HBu:=af (ax hBu hsu)
     have HCK:=af (hVu.check hBu.sub (by omega))
     clear hd1 hd2 hFr hVu hBu hsu
     go_wp2_with (first
      |(go_at_call 21;go_must ((refine HD1.out.mono ?_);rintro e w10 ⟨hw,rfl⟩;subst w10))
      |(go_at_call 33;go_must ((refine HD2.out.mono ?_);rintro e w10 ⟨hw,rfl⟩;subst w10))
      |(go_at_call 34;go_must ((refine HCK.out.mono ?_);rintro e wc ⟨rfl,hFr,hVc⟩;refine Stop.of ?_)))
     refine Stop.on ?_
     have hBc:=HBu.out.1.fr hFr
     have hsc:=HBu.out.1.side hFr HBu.out.2
     have hbg:=hVc.begin hBc.sub (by omega)
     unfold mR at hbg
     have HBG:=af hbg
     have HBc:=af (ax hBc hsc)
     clear hFr hVc hBc hsc hbg
     go_wp2_with (first
      |(go_at_call 26;go_must ((refine HBG.out.mono ?_);rintro e wd ⟨t',rt',room',log',err',ch',F',F0',rfl,hFr,hC'⟩;refine Stop.of ?_)))
     refine Stop.on ?_
     have hBd:=HBc.out.1.fr hFr
     have hsd:=HBc.out.1.side hFr HBc.out.2
     unfold BP at hsd
     obtain⟨s0,s1,s2,s3,s4,s5,sl⟩:=ja hsd
     have f0:=iV hsd 0;have f1:=iV hsd 1;have f2:=iV hsd 2;have f3:=iV hsd 3;have f4:=iV hsd 4;have f5:=iV hsd 5
     have HSD:=af (zL hBd hC' hsd)
     clear hFr hC' hBd hsd
     go_wp2_with fail
     go_roundw
     case rel=>exact⟨k+1,by omega,rfl,by go_num,HSD.out⟩
     case measure=>simp[intOf];omega
   ·obtain rfl:k=os1.length:=by omega
    have HCK:=af hC.check
    have HBE:=af hB.mK
    clear hB hC hs
    go_wp2_with (first
     |(go_at_call 34;go_must ((refine HCK.out.mono ?_);rintro e w10 ⟨hw,rfl⟩;subst w10)))
    go_ret
    exact⟨rfl,HBE.out⟩
end Go.Proofs.YtfgpefcphnpabaaGreat
namespace Go.Proofs.YtfgpefcphnpabaaGreat
open Go.RowKit Go.ChangeShapes Go.WideShapes Go.ChangeAt Go.Deep
set_option maxRecDepth 100000
set_option maxHeartbeats 8000000
set_option linter.all false
theorem Bb (a:Addr):a.add 0=a:=by unfold Addr.add;simp
theorem Oy {H:Type} {enc:TypeId×Value→H} {w:World} {base:Nat} {spare:Nat→Bool} {held:Bool} {n:Nat} {cs:List Value} {a:Addr} {D:DataW H} {pl:List MemPlace} (h1:w.cells? base a 4=some cs) (h2:DataW.trod enc Tryz.prog w base spare held n 24 cs=some (D,pl)):
  ∃o:Ra,a.spot=none∧(0≤o.1∧o.1≤255∧(Lit.int .i64 o.2.2.2).wf=true)∧o.2.2.1.size≤maxLen∧w.cell? a=some (.int .u8 o.1)∧w.cell? (a.add 1)=some (.string o.2.1)∧w.cell? (a.add 2)=some (.string o.2.2.1)∧w.cell? (a.add 3)=some (.int .i64 o.2.2.2):=by
 obtain⟨_,hlen,hcell⟩:=World.cells?_some h1
 match cs,hlen with
 |[v0,v1,v2,v3],_=>
  obtain⟨y0,y1,y2,y3,m,hx,_,g0,g1,g2,g3⟩:=Go.Joins.trod_struct4 Tryz.underlying24 h2
  have c8:Tryz.prog.cellsOf 5=1:=by kernel_rfl
  have c9:Tryz.prog.cellsOf 9=1:=by kernel_rfl
  have c3:Tryz.prog.cellsOf 3=1:=by kernel_rfl
  simp[c8,c9,c3] at g0 g1 g2 g3
  obtain⟨k,e0,_,wk⟩:=NP Tryz.underlying5 g0
  obtain⟨s1,e1,_⟩:=DataW.trod_string Tryz.underlying9 g1
  obtain⟨s2,e2,_,ws⟩:=DataW.trod_string Tryz.underlying9 g2
  obtain⟨z,e3,_,wz⟩:=NP Tryz.underlying3 g3
  simp at e0 e1 e2 e3
  subst e0 e1 e2 e3
  have d0:=hcell 0 (by omega)
  have d1:=hcell 1 (by omega)
  have d2:=hcell 2 (by omega)
  have d3:=hcell 3 (by omega)
  refine⟨(k,s1,s2,z),?_,⟨?_,?_,wz⟩,ws,by rw[Bb] at d0;simpa using d0,by simpa using d1,by simpa using d2,by simpa using d3⟩
  ·have:=World.cell?_spot (show w.cell? (a.add 0)=some _ from d0)
   rwa [Bb] at this
  ·simp only[Lit.wf,dO,dZ] at wk
   exact xk (by decide) wk.1
  ·simp only[Lit.wf,dO,dZ] at wk
   exact xk wk.2 (by decide)
theorem Mv {H:Type} {enc:TypeId×Value→H} {W:World} {fuel:Nat} {cs:List Value} {x:DataW H×List MemPlace} (h:DataW.trod enc Tryz.prog W 0 (fun _=>true) true fuel 52 cs=some x):
  ∃v os,cs=[v]∧JJ W v os∧(∀o∈os,0≤o.1∧o.1≤255∧(Lit.int .i64 o.2.2.2).wf=true)∧∀o∈os,o.2.2.1.size≤maxLen:=by
 rcases open_slice Tryz.underlying52 h with ⟨rfl,_⟩|⟨a,len,cap,m,n,D,Pl,rfl,hb,hl,hm,hmm,rfl,hx⟩
 ·exact⟨_,[],rfl,⟨none,0,rfl,aC _,aU _,fun i hi=>by simp at hi⟩,by simp,by simp⟩
 ·have hc4:Tryz.prog.cellsOf 24=4:=by kernel_rfl
  have hlm:len≤m:=by rw[hmm];simp;exact hl
  have each:∀i,i<len→∃o:Ra,(a.add (i*4)).spot=none∧(0≤o.1∧o.1≤255∧(Lit.int .i64 o.2.2.2).wf=true)∧o.2.2.1.size≤maxLen∧W.cell? (a.add (i*4))=some (.int .u8 o.1)∧W.cell? ((a.add (i*4)).add 1)=some (.string o.2.1)∧W.cell? ((a.add (i*4)).add 2)=some (.string o.2.2.1)∧W.cell? ((a.add (i*4)).add 3)=some (.int .i64 o.2.2.2):=by
   intro i hi
   obtain⟨cs',h1,h2⟩:=hx i (by omega)
   rw[hc4] at h1
   exact Oy h1 h2
  obtain⟨f,hf⟩:=choose_lt each
  refine⟨_,(List.range len).map f,rfl,⟨some a,cap,by simp,by simpa using hl,hm,fun i hi=> ?_⟩,?_,?_⟩
  ·simp at hi
   obtain⟨g0,_,_,g1,g2,g3,g4⟩:=hf i hi
   obtain⟨b,o,sp⟩:=a
   have hs:sp=none:=by
    have:=(hf 0 (by omega)).1
    rw[rP,Bb] at this
    exact this
   subst hs
   rw[dV] at g1 g2 g3 g4
   rw[dV] at g2 g3 g4
   refine⟨b,o,rfl,?_,?_,?_,?_⟩<;>simpa using by assumption
  ·intro o ho
   obtain⟨i,hi,rfl⟩:=dU.1 ho
   exact(hf i (lF.1 hi)).2.1
  ·intro o ho
   obtain⟨i,hi,rfl⟩:=dU.1 ho
   exact(hf i (lF.1 hi)).2.2.1
end Go.Proofs.YtfgpefcphnpabaaGreat
