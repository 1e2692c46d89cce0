/- parts -/
import Derived.Test.YtpgdljlghiifjaaGreatDoorJ17
namespace Go.Proofs.YtpgdljlghiifjaaGreatDoor
open Go.RowKit
set_option maxRecDepth 100000
set_option maxHeartbeats 8000000
set_option linter.all false
theorem Ci (t:Nat) (mp:VS) (root:Int) (key:ByteArray) (most:Int) (w:World) (ht:cu w t mp root 0) (h0:root=0∨most≤0):
  Calls Tryz.prog 122 #[.pointer (some ⟨t,0,none⟩),.string key,.int .i64 most] w fun e w'=>e= .returned (.tuple #[.slice none 0 0,.int .i64 0])∧Below w.heap.size w w':=by
 have hbm:=aI w (.cells #[.int .i64 most] 3)
 have htl:t<w.heap.size:=(ah.1 ht).1
 have ht1:=(hbm.block t htl).trans ht
 have hb2:=fI w (.cells #[.int .i64 most] 3) (.cells #[.slice none 0 0] 126)
 obtain⟨_,c1,_,_,_,_,hl2⟩:=cells3 ((hb2.block t htl).trans ht)
 have d1:=(aI (w.alloc (.cells #[.int .i64 most] 3)) (.cells #[.slice none 0 0] 126)).cell (p:=⟨w.heap.size,0,none⟩) (by simp)
 rw[show (w.alloc (.cells #[.int .i64 most] 3)).cell? ⟨w.heap.size,0,none⟩=some (.int .i64 most) from by rw[oM];rfl] at d1
 go_enter Tryz.func122,Tryz.ntmps122
 by_cases hr:root=0
 ·subst hr
  go_wp2_with (first
   |(go_at_call 107;go_must ((refine(o9 t mp 0 0 _ ht1).mono ?_);rintro e w1 ⟨rfl,hw⟩;subst w1)))
  go_ret2
  exact⟨rfl,hb2⟩
 ·have hm:most≤0:=h0.resolve_left hr
  have hr2:(root==0)=false:=by simpa using hr
  go_wp2_with (first
   |(go_at_call 107;go_must ((refine(o9 t mp root 0 _ ht1).mono ?_);rintro e w1 ⟨rfl,hw⟩;subst w1)))
  go_ret2
  exact⟨rfl,hb2⟩
theorem Mt (t:Nat) (mp:VS) (root:Int) (σ:cK) (S:Nat→Prop) (key:ByteArray) (most:Int) (L:List Pr) (n:Nat) (w:World) (h:Inv σ S mp w) (ht:cu w t mp root 0) (hr:root≠0) (hm:0<most) (hn:n≤40) (hL:tT σ key n root L) (hl:L.length≤999999):
  Calls Tryz.prog 122 #[.pointer (some ⟨t,0,none⟩),.string key,.int .i64 most] w fun e w'=>∃v,e= .returned (.tuple #[v,.int .i64 0])∧aS w' S w.heap.size 130 2 v (L.take most.toNat).length (dH (L.take most.toNat))∧Below w.heap.size w w':=by
 have hbm:=aI w (.cells #[.int .i64 most] 3)
 have htl:t<w.heap.size:=(ah.1 ht).1
 have hsub:=h.sub
 have ht1:=(hbm.block t htl).trans ht
 have hb2:=fI w (.cells #[.int .i64 most] 3) (.cells #[.slice none 0 0] 126)
 obtain⟨_,c1,_,_,_,_,hl2⟩:=cells3 ((hb2.block t htl).trans ht)
 have d1:=(aI (w.alloc (.cells #[.int .i64 most] 3)) (.cells #[.slice none 0 0] 126)).cell (p:=⟨w.heap.size,0,none⟩) (by simp)
 rw[show (w.alloc (.cells #[.int .i64 most] 3)).cell? ⟨w.heap.size,0,none⟩=some (.int .i64 most) from by rw[oM];rfl] at d1
 have hr2:(root==0)=false:=by simpa using hr
 have hm2:¬most≤0:=by omega
 have hmf:∀(fn:Fn) (first cap:Array Value) (w:World),(Instr.makeFunc fn first cap).run Tryz.prog w= .ok (.func fn first cap) w:=fun _ _ _ _=>rfl
 have hA:Acc ((w.alloc (.cells #[.int .i64 most] 3)).alloc (.cells #[.slice none 0 0] 126)) S w.heap.size (w.heap.size+1) w.heap.size (.slice none 0 0) [] most:=by
  refine⟨?_,aS.nil _ _ _ _ _,?_,fun x=>absurd (hsub _ x) (by omega),fun x=>absurd (hsub _ x) (dI _)⟩
  ·have:=aM (w.alloc (.cells #[.int .i64 most] 3)) (.cells #[.slice none 0 0] 126);rwa [aT] at this
  ·exact((aI (w.alloc (.cells #[.int .i64 most] 3)) (.cells #[.slice none 0 0] 126)).block _ (by simp)).trans (aM _ _)
 have hw:=LW t mp w.heap.size (w.heap.size+1) w.heap.size root 0 σ S key most n root L hL 0 (.slice none 0 0) [] _ (h.below hb2) ((hb2.block t htl).trans ht) (by omega) (by omega) hA hb2.size (by simpa using hm) (by simpa using hl)
 have HW:=af hw;clear hw hA
 go_enter Tryz.func122,Tryz.ntmps122
 go_wp2_with (first
  |(go_at_call 107;go_must ((refine(o9 t mp root 0 _ ht1).mono ?_);rintro e w1 ⟨rfl,hw⟩;subst w1))
  |(go_at_call 160;go_must (refine HW.out.mono ?_;rintro e w5 ⟨rfl,v,hA5,hY5⟩;have c5:w5.cell? ⟨w.heap.size+1,0,none⟩=some v:=(by simp[World.cell?,hA5.out]);have c6:=(ah.1 hA5.out).1)))
 go_ret2
 refine⟨v,rfl,?_,?_⟩
 ·have:=hA5.own
  rw[gB,show (most - (([]:List Pr).length:Int)).toNat=most.toNat from by simp] at this
  exact this
 ·exact hb2.trans (hY5.1.gG hb2.size (fun i hi x=>x.elim (fun e=>by omega) (fun e=>by simp[Value.ownBlock] at e)))
theorem yP (t:Nat) (mp:VS) (root:Int) (σ:cK) (S:Nat→Prop) (key:ByteArray) (w:World) (h:Inv σ S mp w) (ht:cu w t mp root 0) (hk1:1≤key.size) (hk2:key.size≤128) (n:Nat) (hn:n≤40) (hl:Look σ key n root none):
  Calls Tryz.prog 71 #[.pointer (some ⟨t,0,none⟩),.string key] w fun e w'=>e= .returned (.tuple #[.bool false,.int .i64 0])∧Below w.heap.size w w':=by
 have hb2:=fI w (.cells #[.pointer (some ⟨t,0,none⟩)] 106) (.cells #[.string key] 9)
 have htl:t<w.heap.size:=(ah.1 ht).1
 have hg:=DU t mp root σ S key none _ (h.below hb2) ((hb2.block t htl).trans ht) hk1 hk2 n hn hl
 have HG:=af hg;clear hg
 go_enter Tryz.func71,Tryz.ntmps71
 go_wp2_with (first
  |(go_at_call 100;go_must ((refine HG.out.mono ?_);rintro e w1 ⟨rfl,hb1⟩)))
 go_ret2
 exact⟨rfl,hb2.trans (hb1.mono hb2.size)⟩
theorem K6 (t:Nat) (mp:VS) (root:Int) (σ:cK) (S:Nat→Prop) (key x:ByteArray) (w:World) (R:World→Int→World→Prop) (R2:World→World→Prop) (h:Inv σ S mp w) (ht:cu w t mp root 0) (hk1:1≤key.size) (hk2:key.size≤128) (n:Nat) (hn:n≤40) (hl:Look σ key n root (some x))
  (hE:∀(W:World) (tb kb:Nat),Below w.heap.size w W→w.heap.size≤tb→w.heap.size≤kb→SB t mp root 0 tb kb key W→
   Calls Tryz.prog 112 #[.pointer (some ⟨t,0,none⟩),.int .i64 root,.int .i64 0,.string key,.string ⟨#[]⟩,.func (.func 120) #[] #[.pointer (some ⟨kb,0,none⟩)]] W fun e w1=>(∃v,e= .returned v∧SB t mp root 0 tb kb key w1∧
    Calls Tryz.prog 111 #[.pointer (some ⟨t,0,none⟩),v] w1 fun e2 w2=>(∃b,e2= .returned (.int .i64 b)∧SB t mp root 0 tb kb key w2∧(∀g,w.heap.size≤g→g<W.heap.size→w2.heap[g]? =W.heap[g]?)∧W.heap.size≤w2.heap.size∧R W b w2)∨(e2= .panicked (brk 12)∧SB t mp root 0 tb kb key w2∧(∀g,w.heap.size≤g→g<W.heap.size→w2.heap[g]? =W.heap[g]?)∧W.heap.size≤w2.heap.size∧R2 W w2))∨(e= .panicked (brk 12)∧SB t mp root 0 tb kb key w1∧(∀g,w.heap.size≤g→g<W.heap.size→w1.heap[g]? =W.heap[g]?)∧W.heap.size≤w1.heap.size∧R2 W w1)):
  Calls Tryz.prog 71 #[.pointer (some ⟨t,0,none⟩),.string key] w fun e w'=>(e= .returned (.tuple #[.bool true,.int .i64 0])∧∃W b w2 rb,Below w.heap.size w W∧R W b w2∧w.heap.size≤rb∧rb<W.heap.size∧W.heap.size≤w2.heap.size∧Keep (fun g=>g=rb∨g=t) w2 w'∧cu w' t mp b 0)∨(e= .returned (.tuple #[.bool false,.int .i64 12])∧∃W w2 rb,Below w.heap.size w W∧R2 W w2∧w.heap.size≤rb∧rb<W.heap.size∧W.heap.size≤w2.heap.size∧Keep (fun g=>g=rb∨g=t) w2 w'∧cu w' t mp root 12):=by
 have HE:=af hE;clear hE
 have hmf:∀(fn:Fn) (first cap:Array Value) (w:World),(Instr.makeFunc fn first cap).run Tryz.prog w= .ok (.func fn first cap) w:=fun _ _ _ _=>rfl
 have hb2:=fI w (.cells #[.pointer (some ⟨t,0,none⟩)] 106) (.cells #[.string key] 9)
 have htl:t<w.heap.size:=(ah.1 ht).1
 have hg:=DU t mp root σ S key (some x) _ (h.below hb2) ((hb2.block t htl).trans ht) hk1 hk2 n hn hl
 have HG:=af hg;clear hg
 have hb20:((w.alloc (.cells #[.pointer (some ⟨t,0,none⟩)] 106)).alloc (.cells #[.string key] 9)).heap[w.heap.size]? =some (.cells #[.pointer (some ⟨t,0,none⟩)] 106 (0,0)):=((aI (w.alloc _) _).block _ (by simp)).trans (aM w _)
 have hb21:((w.alloc (.cells #[.pointer (some ⟨t,0,none⟩)] 106)).alloc (.cells #[.string key] 9)).heap[w.heap.size+1]? =some (.cells #[.string key] 9 (0,0)):=by
  have:=aM (w.alloc (.cells #[.pointer (some ⟨t,0,none⟩)] 106)) (.cells #[.string key] 9);rwa [aT] at this
 have hs2:((w.alloc (.cells #[.pointer (some ⟨t,0,none⟩)] 106)).alloc (.cells #[.string key] 9)).heap.size=w.heap.size+2:=by simp
 have HB20:=af hb20
 have HB21:=af hb21
 have HS2:=af hs2
 clear hb20 hb21 hs2
 go_enter Tryz.func71,Tryz.ntmps71
 go_wp2_with (first
  |(go_at_call 100;go_must ((refine HG.out.mono ?_);rintro e W3 ⟨rfl,hb1⟩;have f0:W3.cell? ⟨w.heap.size,0,none⟩=some (.pointer (some ⟨t,0,none⟩)):=(by have h5:=(hb1.block w.heap.size (by rw[HS2.out];omega)).trans HB20.out;simp[World.cell?,h5]);have fl:w.heap.size<W3.heap.size:=ax (by rw[HS2.out];omega) hb1.size))
  |(go_at_call 109;refine Stop.of ?_))
 have hcb:Calls Tryz.prog 109 #[.pointer (some ⟨t,0,none⟩),.func (.func 119) #[] #[.pointer (some ⟨w.heap.size,0,none⟩),.pointer (some ⟨w.heap.size+1,0,none⟩)]] W3 fun e w'=>(e= .returned (.int .i64 0)∧∃W b w2 rb,Below w.heap.size w W∧R W b w2∧w.heap.size≤rb∧rb<W.heap.size∧W.heap.size≤w2.heap.size∧Keep (fun g=>g=rb∨g=t) w2 w'∧cu w' t mp b 0)∨(e= .returned (.int .i64 12)∧∃W w2 rb,Below w.heap.size w W∧R2 W w2∧w.heap.size≤rb∧rb<W.heap.size∧W.heap.size≤w2.heap.size∧Keep (fun g=>g=rb∨g=t) w2 w'∧cu w' t mp root 12):=by
  have hbW3:Below w.heap.size w W3:=hb2.trans (hb1.mono hb2.size)
  have hs3:w.heap.size+2≤W3.heap.size:=by rw[←HS2.out];exact hb1.size
  have b0:W3.heap[w.heap.size]? =some (.cells #[.pointer (some ⟨t,0,none⟩)] 106 (0,0)):=(hb1.block _ (by rw[HS2.out];omega)).trans HB20.out
  have b1:W3.heap[w.heap.size+1]? =some (.cells #[.string key] 9 (0,0)):=(hb1.block _ (by rw[HS2.out];omega)).trans HB21.out
  have hbV:=fI W3 (.cells #[.pointer (some ⟨t,0,none⟩)] 106) (.cells #[.int .i64 0] 38)
  have hsV:((W3.alloc (.cells #[.pointer (some ⟨t,0,none⟩)] 106)).alloc (.cells #[.int .i64 0] 38)).heap.size=W3.heap.size+2:=by simp
  have hbwV:=hbW3.trans (hbV.mono (by omega))
  have c0:=(hbV.block _ (by omega)).trans b0
  have c1:=(hbV.block _ (by omega)).trans b1
  have ctr:cu ((W3.alloc (.cells #[.pointer (some ⟨t,0,none⟩)] 106)).alloc (.cells #[.int .i64 0] 38)) t mp root 0:=(hbwV.block t htl).trans ht
  have crb:((W3.alloc (.cells #[.pointer (some ⟨t,0,none⟩)] 106)).alloc (.cells #[.int .i64 0] 38)).heap[W3.heap.size+1]? =some (.cells #[.int .i64 0] 38 (0,0)):=by
   have:=aM (W3.alloc (.cells #[.pointer (some ⟨t,0,none⟩)] 106)) (.cells #[.int .i64 0] 38);rwa [aT] at this
  have hch:=Bb t mp root 0 119 #[.pointer (some ⟨w.heap.size,0,none⟩),.pointer (some ⟨w.heap.size+1,0,none⟩)] W3
   (fun w'=>∃W b w2,Below w.heap.size w W∧R W b w2∧W3.heap.size+1<W.heap.size∧W.heap.size≤w2.heap.size∧SB t mp root 0 w.heap.size (w.heap.size+1) key w2∧w'=w2.setCell ⟨t,1,none⟩ (.int .i64 b))
   (fun w'=>∃W,Below w.heap.size w W∧R2 W w'∧W3.heap.size+1<W.heap.size∧W.heap.size≤w'.heap.size) (by omega) (fun _ _=>by kernel_rfl)
  have ctp:((W3.alloc (.cells #[.pointer (some ⟨t,0,none⟩)] 106)).alloc (.cells #[.int .i64 0] 38)).heap[W3.heap.size]? =some (.cells #[.pointer (some ⟨t,0,none⟩)] 106 (0,0)):=
   ((aI (W3.alloc _) _).block _ (by simp)).trans (aM W3 _)
  generalize (W3.alloc (.cells #[.pointer (some ⟨t,0,none⟩)] 106)).alloc (.cells #[.int .i64 0] 38)=V at*
  have hp1:=IQ t mp w.heap.size (w.heap.size+1) root 0 key V (fun b w2=>(∀g,w.heap.size≤g→g<V.drew.heap.size→w2.heap[g]? =V.drew.heap[g]?)∧V.drew.heap.size≤w2.heap.size∧R V.drew b w2) (fun w2=>(∀g,w.heap.size≤g→g<V.drew.heap.size→w2.heap[g]? =V.drew.heap[g]?)∧V.drew.heap.size≤w2.heap.size∧R2 V.drew w2) ⟨ctr,c0,c1⟩ ((HE.out V.drew w.heap.size (w.heap.size+1) hbwV.drew (aG _) (by omega) ⟨ctr,c0,c1⟩).mono fun e w1 hh=>hh.imp (fun ⟨v,h1,h2,h3⟩=>⟨v,h1,h2,h3.mono fun e2 w2 kk=>kk.imp (fun ⟨b,k1,k2,k3,k4,k5⟩=>⟨b,k1,k2,k3,k4,k5⟩) (fun ⟨k1,k2,k3,k4,k5⟩=>⟨k1,k2,k3,k4,k5⟩)⟩) (fun ⟨k1,k2,k3,k4,k5⟩=>⟨k1,k2,k3,k4,k5⟩))
  refine(hch (hp1.mono ?_)).mono ?_
  ·rintro e w' (⟨rfl,b,w2,⟨k3,k4,k5⟩,hS2,rfl⟩|⟨rfl,hS2,k3,k4,k5⟩)
   ·refine .inl ⟨rfl,⟨V.drew,b,w2,hbwV.drew,k5,(by show _<V.heap.size;omega),k4,hS2,rfl⟩,?_⟩
    rw[GH _ _ _ _ (by simp;omega)]
    exact(k3 _ (by omega) (by show _<V.heap.size;omega)).trans crb
   ·refine .inr ⟨rfl,⟨V.drew,hbwV.drew,k5,(by show _<V.heap.size;omega),k4⟩,(k3 _ (by omega) (by show _<V.heap.size;omega)).trans crb,(k3 _ (by omega) (by show _<V.heap.size;omega)).trans ctp,hS2.tr⟩
  ·rintro e w' (⟨rfl,w1,⟨W,b,w2,q1,q2,q3,q4,q5,rfl⟩,hk⟩|⟨rfl,w1,⟨W,q1,q2,q3,q4⟩,hk,hT⟩)
   ·have hk5:Keep (· =t) w2 (w2.setCell ⟨t,1,none⟩ (.int .i64 b)):=Keep.setCell (M:=(· =t)) (p:=⟨t,1,none⟩) (Keep.refl _ _) (.inr rfl) _
    refine .inl ⟨rfl,W,b,w2,W3.heap.size+1,q1,q2,by omega,q3,q4,(hk5.mono (fun _ _ h=> .inr h)).trans hk (fun _ _ h=> .inl h),?_⟩
    have h5:(w2.setCell ⟨t,1,none⟩ (.int .i64 b)).heap[t]? =some (.cells #[.iface 105 mp.agg,.int .i64 b,.int .i64 0] 170 (0,0)):=by
     have:=q5.tr;unfold cu at this
     simp[World.setCell,aW,this]
    exact(hk.block t (ah.1 h5).1 (by omega)).trans h5
   ·exact .inr ⟨rfl,W,w1,W3.heap.size+1,q1,q2,by omega,q3,q4,hk.mono (fun _ _ h=>h.symm),hT⟩
 have hC:=af hcb;clear hcb
 refine Stop.on ?_
 refine hC.out.mono ?_
 rintro e w9 (⟨rfl,hres⟩|⟨rfl,hres⟩)
 ·go_wp2_with fail
  go_ret2
  exact .inl ⟨rfl,hres⟩
 ·go_wp2_with fail
  go_ret2
  exact .inr ⟨rfl,hres⟩
def EG (t:Nat) (mp:VS) (root:Int) (key:ByteArray) (g:Nat) (cb:Array Value) (σ:cK) (S:Nat→Prop) (N:Prop) (P:cK→Int→Prop) (W:World):Prop:=
 Calls Tryz.prog 112 #[.pointer (some ⟨t,0,none⟩),.int .i64 root,.int .i64 0,.string key,.string ⟨#[]⟩,.func (.func g) #[] cb] W fun e w1=>(∃v S1,e= .returned v∧Step S S1 W w1∧
  Calls Tryz.prog 111 #[.pointer (some ⟨t,0,none⟩),v] w1 fun e2 w2=>(∃b σ' S',e2= .returned (.int .i64 b)∧Inv σ' S' mp w2∧Step S1 S' w1 w2∧P σ' b)∨(N∧Bo mp σ S1 w1 e2 w2))∨(N∧Bo mp σ S W e w1)
def xh (t:Nat) (mp:VS) (S:Nat→Prop) (P:cK→Int→Prop) (w w':World):Prop:=
 ∃σ' S' b,Inv σ' S' mp w'∧cu w' t mp b 0∧¬S' t∧P σ' b∧Keep (fun g=>S g∨g=t) w w'∧∀g,S' g→S g∨w.heap.size≤g
def tY (t:Nat) (mp:VS) (root:Int) (σ:cK) (S:Nat→Prop) (N:Prop) (w w':World):Prop:=
 N∧∃σ' S',Inv σ' S' mp w'∧cu w' t mp root 12∧¬S' t∧σ'.H=σ.H∧σ'.most=σ.most∧Keep (fun g=>S g∨g=t) w w'∧∀g,S' g→S g∨w.heap.size≤g
def Oa (mp:VS) (σ:cK) (S:Nat→Prop) (N:Prop) (W w2:World):Prop:=N∧∃σ' S',Inv σ' S' mp w2∧Step S S' W w2∧σ'.H=σ.H∧σ'.most=σ.most
theorem SB.step {t:Nat} {mp:VS} {tb kb:Nat} {root err:Int} {key:ByteArray} {S S':Nat→Prop} {W W':World} (h:SB t mp root err tb kb key W) (hs:Step S S' W W') (h1:¬S t) (h2:¬S tb) (h3:¬S kb):SB t mp root err tb kb key W':=
 ⟨(hs.1.block _ (ah.1 h.tr).1 h1).trans h.tr,(hs.1.block _ (ah.1 h.bx).1 h2).trans h.bx,(hs.1.block _ (ah.1 h.ky).1 h3).trans h.ky⟩
theorem Nz {t:Nat} {mp:VS} {tb kb g:Nat} {root:Int} {key:ByteArray} {cb:Array Value} {σ:cK} {S:Nat→Prop} {N:Prop} {P:cK→Int→Prop} {w W:World} (hEG:EG t mp root key g cb σ S N P W) (hsub:∀g,S g→g<w.heap.size) (hst:¬S t) (_hbW:Below w.heap.size w W) (htb:w.heap.size≤tb) (hkb:w.heap.size≤kb) (hSB:SB t mp root 0 tb kb key W):
  Calls Tryz.prog 112 #[.pointer (some ⟨t,0,none⟩),.int .i64 root,.int .i64 0,.string key,.string ⟨#[]⟩,.func (.func g) #[] cb] W fun e w1=>(∃v,e= .returned v∧SB t mp root 0 tb kb key w1∧
   Calls Tryz.prog 111 #[.pointer (some ⟨t,0,none⟩),v] w1 fun e2 w2=>(∃b,e2= .returned (.int .i64 b)∧SB t mp root 0 tb kb key w2∧(∀g,w.heap.size≤g→g<W.heap.size→w2.heap[g]? =W.heap[g]?)∧W.heap.size≤w2.heap.size∧(∃σ' S',Inv σ' S' mp w2∧Step S S' W w2∧P σ' b))∨
    (e2= .panicked (brk 12)∧SB t mp root 0 tb kb key w2∧(∀g,w.heap.size≤g→g<W.heap.size→w2.heap[g]? =W.heap[g]?)∧W.heap.size≤w2.heap.size∧Oa mp σ S N W w2))∨
   (e= .panicked (brk 12)∧SB t mp root 0 tb kb key w1∧(∀g,w.heap.size≤g→g<W.heap.size→w1.heap[g]? =W.heap[g]?)∧W.heap.size≤w1.heap.size∧Oa mp σ S N W w1):=by
 have hn:∀x,w.heap.size≤x→¬S x:=fun x hx hs=>absurd (hsub x hs) (bF.2 hx)
 refine hEG.mono ?_
 rintro e w1 (⟨v,S1,rfl,hs1,hG⟩|⟨hN,rfl,τ,Sτ,g1,g2,g3,g4⟩)
 ·have hS1:∀x,x<W.heap.size→¬S x→¬S1 x:=fun x hx hs h1=>(hs1.2 x h1).elim hs (fun y=>absurd hx (bF.2 y))
  have hl1:=(ah.1 hSB.tr).1
  have hl2:=(ah.1 hSB.bx).1
  have hl3:=(ah.1 hSB.ky).1
  have hfr:∀{S2:Nat→Prop} {w2:World},Step S1 S2 w1 w2→∀g,w.heap.size≤g→g<W.heap.size→w2.heap[g]? =W.heap[g]? :=fun hs2 g hg hl=>
   (hs2.1.block g (ax hl hs1.1.size) (hS1 g hl (hn g hg))).trans (hs1.1.block g hl (hn g hg))
  refine .inl ⟨v,rfl,hSB.step hs1 hst (hn _ htb) (hn _ hkb),hG.mono ?_⟩
  rintro e2 w2 (⟨b,σ',S',rfl,hI,hs2,hP⟩|⟨hN,rfl,τ,Sτ,g1,g2,g3,g4⟩)
  ·exact .inl ⟨b,rfl,(hSB.step hs1 hst (hn _ htb) (hn _ hkb)).step hs2 (hS1 _ hl1 hst) (hS1 _ hl2 (hn _ htb)) (hS1 _ hl3 (hn _ hkb)),hfr hs2,aH hs1.1.size hs2.1.size,σ',S',hI,hs1.trans hs2,hP⟩
  ·exact .inr ⟨rfl,(hSB.step hs1 hst (hn _ htb) (hn _ hkb)).step g2 (hS1 _ hl1 hst) (hS1 _ hl2 (hn _ htb)) (hS1 _ hl3 (hn _ hkb)),hfr g2,aH hs1.1.size g2.1.size,hN,τ,Sτ,g1,hs1.trans g2,g3,g4⟩
 ·exact .inr ⟨rfl,hSB.step g2 hst (hn _ htb) (hn _ hkb),fun g hg hl=>g2.1.block g hl (hn g hg),g2.1.size,hN,τ,Sτ,g1,g2,g3,g4⟩
theorem FE {t rb:Nat} {mp:VS} {σ':cK} {S S':Nat→Prop} {w W w2 w':World} (hsub:∀g,S g→g<w.heap.size) (hst:¬S t) (htl:t<w.heap.size) (hbW:Below w.heap.size w W) (hI:Inv σ' S' mp w2) (hs:Step S S' W w2) (h1:w.heap.size≤rb) (h2:rb<W.heap.size) (hk:Keep (fun g=>g=rb∨g=t) w2 w'):
  Inv σ' S' mp w'∧¬S' t∧Keep (fun g=>S g∨g=t) w w'∧∀g,S' g→S g∨w.heap.size≤g:=by
 have hn:∀x,w.heap.size≤x→¬S x:=fun x hx hs=>absurd (hsub x hs) (bF.2 hx)
 have hS':∀x,x<W.heap.size→¬S x→¬S' x:=fun x hx hs1 h1=>(hs.2 x h1).elim hs1 (fun y=>absurd hx (bF.2 y))
 have htW:t<W.heap.size:=ax htl hbW.size
 refine⟨hI.jZ hk (fun g hg x=>x.elim (fun e=>hS' rb h2 (hn rb h1) (by rw[←e];exact hg)) (fun e=>hS' t htW hst (by rw[←e];exact hg))),hS' t htW hst,?_,fun g hg=>(hs.2 g hg).imp id (fun y=>aH hbW.size y)⟩
 exact(((Step.of_below (S:=S) hbW).trans hs).1.mono (fun _ _ h=> .inl h)).trans hk (fun i hi x=>x.elim (fun e=>absurd hi (by rw[e];exact bF.2 h1)) .inr)
theorem JO {t:Nat} {mp:VS} {S:Nat→Prop} {P:cK→Int→Prop} {w w':World} (hsub:∀g,S g→g<w.heap.size) (hst:¬S t) (htl:t<w.heap.size)
  (h:∃W b w2 rb,Below w.heap.size w W∧(∃σ' S',Inv σ' S' mp w2∧Step S S' W w2∧P σ' b)∧w.heap.size≤rb∧rb<W.heap.size∧W.heap.size≤w2.heap.size∧Keep (fun g=>g=rb∨g=t) w2 w'∧cu w' t mp b 0):xh t mp S P w w':=by
 obtain⟨W,b,w2,rb,hbW,⟨σ',S',hI,hs,hP⟩,h1,h2,h3,hk,ht⟩:=h
 obtain⟨a,b',c,d⟩:=FE hsub hst htl hbW hI hs h1 h2 hk
 exact⟨σ',S',b,a,ht,b',hP,c,d⟩
theorem Fj {t:Nat} {mp:VS} {root:Int} {σ:cK} {S:Nat→Prop} {N:Prop} {w w':World} (hsub:∀g,S g→g<w.heap.size) (hst:¬S t) (htl:t<w.heap.size)
  (h:∃W w2 rb,Below w.heap.size w W∧Oa mp σ S N W w2∧w.heap.size≤rb∧rb<W.heap.size∧W.heap.size≤w2.heap.size∧Keep (fun g=>g=rb∨g=t) w2 w'∧cu w' t mp root 12):tY t mp root σ S N w w':=by
 obtain⟨W,w2,rb,hbW,⟨hN,σ',S',hI,hs,g3,g4⟩,h1,h2,h3,hk,ht⟩:=h
 obtain⟨a,b',c,d⟩:=FE hsub hst htl hbW hI hs h1 h2 hk
 exact⟨hN,σ',S',a,ht,b',g3,g4,c,d⟩
theorem OT (t:Nat) (mp:VS) (root:Int) (σ:cK) (S:Nat→Prop) (N:Prop) (P:cK→Int→Prop) (key value:ByteArray) (w:World) (hsub:∀g,S g→g<w.heap.size) (ht:cu w t mp root 0) (hst:¬S t) (hk1:1≤key.size) (hk2:key.size≤128) (hv:value.size≤64)
  (hE:∀(W:World) (kb vb:Nat),Below w.heap.size w W→ug W S [(kb,key),(vb,value)]→EG t mp root key 113 #[.pointer (some ⟨kb,0,none⟩),.pointer (some ⟨vb,0,none⟩)] σ S N P W):
  Calls Tryz.prog 66 #[.pointer (some ⟨t,0,none⟩),.string key,.string value] w fun e w'=>(e= .returned (.int .i64 0)∧xh t mp S P w w')∨(e= .returned (.int .i64 12)∧tY t mp root σ S N w w'):=by
 have hn:∀x,w.heap.size≤x→¬S x:=fun x hx hs=>absurd (hsub x hs) (bF.2 hx)
 refine(Qv t mp root key value w (fun W b w2=>∃σ' S',Inv σ' S' mp w2∧Step S S' W w2∧P σ' b) (Oa mp σ S N) ht hk1 hk2 hv ?_).mono ?_
 ·intro W tb kb vb hbW htb hkb hvb hSB hvB
  refine Nz (hE W kb vb hbW ?_) hsub hst hbW htb hkb hSB
  intro p hp
  simp at hp
  rcases hp with rfl|rfl
  ·exact⟨hSB.ky,hn _ hkb⟩
  ·exact⟨hvB,hn _ hvb⟩
 ·rintro e w' (⟨rfl,h⟩|⟨rfl,h⟩)
  ·exact .inl ⟨rfl,JO hsub hst (ah.1 ht).1 h⟩
  ·exact .inr ⟨rfl,Fj hsub hst (ah.1 ht).1 h⟩
theorem IL (t:Nat) (mp:VS) (root:Int) (σ:cK) (S:Nat→Prop) (N:Prop) (P:cK→Int→Prop) (key x:ByteArray) (w:World) (h:Inv σ S mp w) (ht:cu w t mp root 0) (hst:¬S t) (hk1:1≤key.size) (hk2:key.size≤128) (n:Nat) (hn:n≤40) (hl:Look σ key n root (some x))
  (hE:∀(W:World) (kb:Nat),Below w.heap.size w W→ug W S [(kb,key)]→EG t mp root key 120 #[.pointer (some ⟨kb,0,none⟩)] σ S N P W):
  Calls Tryz.prog 71 #[.pointer (some ⟨t,0,none⟩),.string key] w fun e w'=>(e= .returned (.tuple #[.bool true,.int .i64 0])∧xh t mp S P w w')∨(e= .returned (.tuple #[.bool false,.int .i64 12])∧tY t mp root σ S N w w'):=by
 have hsub:=h.sub
 have hn':∀x,w.heap.size≤x→¬S x:=fun x hx hs=>absurd (hsub x hs) (bF.2 hx)
 refine(K6 t mp root σ S key x w (fun W b w2=>∃σ' S',Inv σ' S' mp w2∧Step S S' W w2∧P σ' b) (Oa mp σ S N) h ht hk1 hk2 n hn hl ?_).mono ?_
 ·intro W tb kb hbW htb hkb hSB
  refine Nz (hE W kb hbW ?_) hsub hst hbW htb hkb hSB
  intro p hp
  simp at hp
  subst hp
  exact⟨hSB.ky,hn' _ hkb⟩
 ·rintro e w' (⟨rfl,h⟩|⟨rfl,h⟩)
  ·exact .inl ⟨rfl,JO hsub hst (ah.1 ht).1 h⟩
  ·exact .inr ⟨rfl,Fj hsub hst (ah.1 ht).1 h⟩
def jc (l:List (ByteArray×Int)) (hi:Option ByteArray):Option ByteArray:=match l with|[]=>hi|(k,_)::_=>some k
theorem uU (l m:List (ByteArray×Int)) (hi:Option ByteArray):jc (l++m) hi=jc l (jc m hi):=by
 cases l with
 |nil=>rfl
 |cons p l=>rfl
def dJ (T:ByteArray→Option ByteArray→Int→List Pr→List Int→Prop) (hi:Option ByteArray):List (ByteArray×Int)→List Pr→List Int→Prop
 |[],cs,bs=>cs=[]∧bs=[]
 |(k,b)::l,cs,bs=>∃c cs' x bs',T k (jc l hi) b c x∧dJ T hi l cs' bs'∧cs=c++cs'∧bs=x++bs'
theorem dJ.append {T:ByteArray→Option ByteArray→Int→List Pr→List Int→Prop} {hi:Option ByteArray} {m:List (ByteArray×Int)} {cm:List Pr} {bm:List Int} (hm:dJ T hi m cm bm):∀{l:List (ByteArray×Int)} {cl:List Pr} {bl:List Int},dJ T (jc m hi) l cl bl→dJ T hi (l++m) (cl++cm) (bl++bm)
 |[],_,_,h=>by obtain⟨rfl,rfl⟩:=h;exact hm
 |(k,b)::l,_,_,h=>by
  obtain⟨c,cs',x,bs',h1,h2,rfl,rfl⟩:=h
  exact⟨c,cs'++cm,x,bs'++bm,by show T k (jc (l++m) hi) b c x;rw[uU];exact h1,dJ.append hm h2,aL _ _ _,aL _ _ _⟩
theorem dJ.split {T:ByteArray→Option ByteArray→Int→List Pr→List Int→Prop} {hi:Option ByteArray} {m:List (ByteArray×Int)}:∀{l:List (ByteArray×Int)} {cs:List Pr} {bs:List Int},dJ T hi (l++m) cs bs→∃cl cm bl bm,dJ T (jc m hi) l cl bl∧dJ T hi m cm bm∧cs=cl++cm∧bs=bl++bm
 |[],cs,bs,h=>⟨[],cs,[],bs,⟨rfl,rfl⟩,h,rfl,rfl⟩
 |(k,b)::l,_,_,h=>by
  obtain⟨c,cs',x,bs',h1,h2,rfl,rfl⟩:=h
  obtain⟨cl,cm,bl,bm,g1,g2,rfl,rfl⟩:=dJ.split h2
  exact⟨c++cl,cm,x++bl,bm,⟨c,cl,x,bl,by have h3:T k (jc (l++m) hi) b c x:=h1;rwa [uU] at h3,g1,rfl,rfl⟩,g2,(aL _ _ _).symm,(aL _ _ _).symm⟩
def Within (lo:ByteArray) (hi:Option ByteArray) (k:ByteArray):Prop:=lt k lo=false∧∀h,hi=some h→lt k h=true
def Nd.row (nd:Nd) (lo:ByteArray):List (ByteArray×Int):=(lo::nd.keys).zip nd.kids
def iy (σ:cK):Nat→Nat→ByteArray→Option ByteArray→Int→List Pr→List Int→Prop
 |0,_,lo,hi,b,cs,bs=>∃nd,zy σ b nd∧nd.Ok∧nd.kids=[]∧cs=nd.pairs∧cs≠[]∧fT cs∧(∀p∈cs,Within lo hi p.1)∧bs=[b]
 |h+1,m,lo,hi,b,cs,bs=>∃nd bs',zy σ b nd∧nd.Ok∧nd.kids≠[]∧m≤nd.kids.length∧bs=b::bs'∧dJ (iy σ h 2) hi (nd.row lo) cs bs'
theorem Within.weaken {lo lo':ByteArray} {hi hi':Option ByteArray} {k:ByteArray} (h:Within lo hi k) (hlo:lt lo lo'=false) (hhi:∀y,hi'=some y→∃x,hi=some x∧lt y x=false):Within lo' hi' k:=by
 refine⟨PY hlo h.1,fun y hy=> ?_⟩
 obtain⟨x,hx,hxy⟩:=hhi y hy
 exact Ak (h.2 x hx) hxy
theorem dJ.zG {T:ByteArray→Option ByteArray→Int→List Pr→List Int→Prop} {hi hi':Option ByteArray} (hT:∀k b c x,T k hi b c x→T k hi' b c x):∀{l:List (ByteArray×Int)} {cs:List Pr} {bs:List Int},dJ T hi l cs bs→dJ T hi' l cs bs
 |[],_,_,h=>h
 |[(k,b)],_,_,h=>by
  obtain⟨c,cs',x,bs',h1,h2,h3,h4⟩:=h
  exact⟨c,cs',x,bs',hT _ _ _ _ h1,h2,h3,h4⟩
 |(k,b)::(k',b')::l,_,_,h=>by
  obtain⟨c,cs',x,bs',h1,h2,h3,h4⟩:=h
  exact⟨c,cs',x,bs',h1,dJ.zG hT h2,h3,h4⟩
theorem dJ.Er {T:ByteArray→Option ByteArray→Int→List Pr→List Int→Prop} {hi:Option ByteArray} {k k':ByteArray} {b:Int} {l:List (ByteArray×Int)} {cs:List Pr} {bs:List Int} (hT:∀z b c x,T k z b c x→T k' z b c x) (h:dJ T hi ((k,b)::l) cs bs):dJ T hi ((k',b)::l) cs bs:=by
 obtain⟨c,cs',x,bs',h1,h2,h3,h4⟩:=h
 exact⟨c,cs',x,bs',hT _ _ _ _ h1,h2,h3,h4⟩
theorem iy.weaken {σ:cK}:∀{h m:Nat} {lo lo':ByteArray} {hi hi':Option ByteArray} {b:Int} {cs:List Pr} {bs:List Int},iy σ h m lo hi b cs bs→lt lo lo'=false→(∀y,hi'=some y→∃x,hi=some x∧lt y x=false)→iy σ h m lo' hi' b cs bs
 |0,_,_,_,_,_,_,_,_,⟨nd,h1,h2,h3,h4,h5,h6,h7,h8⟩,hlo,hhi=>⟨nd,h1,h2,h3,h4,h5,h6,fun p hp=>(h7 p hp).weaken hlo hhi,h8⟩
 |h+1,_,lo,lo',hi,hi',b,cs,bs,⟨nd,bs',h1,h2,h3,h4,h5,h6⟩,hlo,hhi=>by
  refine⟨nd,bs',h1,h2,h3,h4,h5,?_⟩
  have h7:dJ (iy σ h 2) hi' (nd.row lo) cs bs':=dJ.zG (fun k b c x ht=>iy.weaken ht (lt_irrefl k) hhi) h6
  unfold Nd.row at h7 ⊢
  cases hk:nd.kids with
  |nil=>exact absurd hk h3
  |cons a r=>
   rw[hk] at h7
   exact dJ.Er (fun z b c x ht=>iy.weaken ht hlo (fun y hy=>⟨y,hy,lt_irrefl y⟩)) h7
theorem iy.less {σ:cK}:∀{h m m':Nat} {lo:ByteArray} {hi:Option ByteArray} {b:Int} {cs:List Pr} {bs:List Int},iy σ h m lo hi b cs bs→m'≤m→iy σ h m' lo hi b cs bs
 |0,_,_,_,_,_,_,_,ht,_=>ht
 |_+1,_,_,_,_,_,_,_,⟨nd,bs',h1,h2,h3,h4,h5,h6⟩,hm=>⟨nd,bs',h1,h2,h3,aH hm h4,h5,h6⟩
theorem Within.MX {lo k:ByteArray} {hi:ByteArray} (h:Within lo (some hi) k):lt lo hi=true:=PX h.1 (h.2 hi rfl)
structure Content (lo:ByteArray) (hi:Option ByteArray) (cs:List Pr):Prop where
 ne:cs≠[]
 rise:fT cs
 within:∀p∈cs,Within lo hi p.1
theorem Content.append {lo k:ByteArray} {hi:Option ByteArray} {a b:List Pr} (ha:Content lo (some k) a) (hb:Content k hi b):Content lo hi (a++b):=by
 have hlk:lt lo k=true:=by
  obtain⟨p,r,rfl⟩:=lC ha.ne
  exact(ha.within p (by simp)).MX
 refine⟨by simp[ha.ne],?_,fun p hp=> ?_⟩
 ·refine mg.2 ⟨ha.rise,hb.rise,fun p hp q hq=> ?_⟩
  exact Ak ((ha.within p hp).2 k rfl) (hb.within q hq).1
 ·rcases bJ.1 hp with h|h
  ·refine⟨(ha.within p h).1,fun y hy=> ?_⟩
   obtain⟨q,r,rfl⟩:=lC hb.ne
   have hq:=hb.within q (by simp)
   exact lt_trans ((ha.within p h).2 k rfl) (PX hq.1 (hq.2 y hy))
  ·exact⟨PY (lt_asymm hlk) (hb.within p h).1,(hb.within p h).2⟩
theorem dJ.content {T:ByteArray→Option ByteArray→Int→List Pr→List Int→Prop} (hT:∀k z b c x,T k z b c x→Content k z c) {hi:Option ByteArray}:∀{k:ByteArray} {b:Int} {l:List (ByteArray×Int)} {cs:List Pr} {bs:List Int},dJ T hi ((k,b)::l) cs bs→Content k hi cs
 |k,b,[],_,_,h=>by
  obtain⟨c,cs',x,bs',h1,⟨rfl,rfl⟩,rfl,rfl⟩:=h
  rw[dG]
  exact hT _ _ _ _ _ h1
 |k,b,(k',b')::l,_,_,h=>by
  obtain⟨c,cs',x,bs',h1,h2,rfl,rfl⟩:=h
  exact(hT _ _ _ _ _ h1).append (dJ.content hT h2)
theorem iy.content {σ:cK}:∀{h m:Nat} {lo:ByteArray} {hi:Option ByteArray} {b:Int} {cs:List Pr} {bs:List Int},iy σ h m lo hi b cs bs→Content lo hi cs
 |0,_,_,_,_,_,_,⟨_,_,_,_,_,h5,h6,h7,_⟩=>⟨h5,h6,h7⟩
 |h+1,_,lo,hi,b,cs,bs,⟨nd,bs',_,_,h3,_,_,h6⟩=>by
  unfold Nd.row at h6
  cases hk:nd.kids with
  |nil=>exact absurd hk h3
  |cons a r=>
   rw[hk] at h6
   exact dJ.content (fun k z b c x ht=>iy.content ht) h6
theorem rq {ps:List Pr} (hr:fT ps) {key v:ByteArray}:d9 ps key=some v↔(key,v)∈ps:=by
 obtain⟨f1,f2⟩:=qd key ps hr
 constructor
 ·intro h
  unfold d9 at h
  split at h
  ·rename_i hat
   obtain⟨hp,hk⟩:=nM hat
   rw[aZ hp] at h
   simp at h
   have:=bq hp
   rw[show ps[dB ps key]=(key,v) from Prod.ext hk h] at this
   exact this
  ·cases h
 ·intro h
  obtain⟨i,hi,e⟩:=gX h
  have hle:¬i<dB ps key:=fun hh=>by
   have:=f1 i hi hh
   rw[e] at this
   rw[lt_irrefl] at this;cases this
  have hge:¬dB ps key<i:=fun hh=>by
   have h1:=f2 (dB ps key) (by omega) (aG _)
   have h2:=jJ.1 hr (dB ps key) i (by omega) hi hh
   rw[e] at h2
   rw[h1] at h2;cases h2
  have hpi:dB ps key=i:=by omega
  unfold d9 mE
  rw[hpi,aZ hi,e]
  simp
theorem dJ.QD {T:ByteArray→Option ByteArray→Int→List Pr→List Int→Prop} (hT:∀k z b c x,T k z b c x→Content k z c) {hi:Option ByteArray}:∀{k:ByteArray} {b:Int} {l:List (ByteArray×Int)} {cs:List Pr} {bs:List Int},dJ T hi ((k,b)::l) cs bs→tX (k::l.map (·.1))
 |k,b,[],_,_,_=>List.pairwise_singleton _ _
 |k,b,(k',b')::l,_,_,h=>by
  obtain⟨c,cs',x,bs',h1,h2,rfl,rfl⟩:=h
  have ih:=dJ.QD hT h2
  have hc:=hT _ _ _ _ _ h1
  obtain⟨p,r,rfl⟩:=lC hc.ne
  have hlt:lt k k'=true:=(hc.within p (by simp)).MX
  refine eB.2 ⟨fun y hy=> ?_,ih⟩
  rcases bK.1 hy with rfl|hy
  ·exact hlt
  ·exact lt_trans hlt ((eB.1 ih).1 y hy)
theorem oq {keys:List ByteArray} {kids:List Int} (h:keys.length=kids.length - 1) (hk:kids≠[]) (lo:ByteArray):∃b l,(lo::keys).zip kids=(lo,b)::l∧l.map (·.1)=keys∧kids=b::l.map (·.2):=by
 cases kids with
 |nil=>exact absurd rfl hk
 |cons b r=>
  refine⟨b,keys.zip r,rfl,?_,?_⟩
  ·rw[List.map_fst_zip];simp at h;omega
  ·rw[List.map_snd_zip];simp at h;omega
theorem iy.rising {σ:cK} {h m:Nat} {lo:ByteArray} {hi:Option ByteArray} {nd:Nd} {cs:List Pr} {bs:List Int} (ok:nd.Ok) (hk:nd.kids≠[]) (hr:dJ (iy σ h m) hi (nd.row lo) cs bs):tX nd.keys:=by
 obtain⟨b,l,e,e2,_⟩:=oq ok.kk hk lo
 unfold Nd.row at hr
 rw[e] at hr
 have:=dJ.QD (fun k z b c x ht=>iy.content ht) hr
 rw[e2] at this
 exact(eB.1 this).2
theorem dJ.find {T:ByteArray→Option ByteArray→Int→List Pr→List Int→Prop} (hT:∀k z b c x,T k z b c x→Content k z c) {hi:Option ByteArray} {key:ByteArray} (hhi:∀y,hi=some y→lt key y=true):∀{k:ByteArray} {b:Int} {l:List (ByteArray×Int)} {cs:List Pr} {bs:List Int},dJ T hi ((k,b)::l) cs bs→lt key k=false→
  ∃(hP:gU (l.map (·.1)) key<(b::l.map (·.2)).length) (k':ByteArray) (z:Option ByteArray) (c:List Pr) (x:List Int),T k' z (b::l.map (·.2))[gU (l.map (·.1)) key] c x∧Within k' z key∧∀v,(key,v)∈cs↔(key,v)∈c
 |k,b,[],_,_,h,hk=>by
  obtain⟨c,cs',x,bs',h1,⟨rfl,rfl⟩,rfl,rfl⟩:=h
  exact⟨by simp[gU],k,hi,c,x,h1,⟨hk,hhi⟩,fun v=>by simp⟩
 |k,b,(k',b')::l,_,_,h,hk=>by
  obtain⟨c,cs',x,bs',h1,h2,rfl,rfl⟩:=h
  cases hlt:lt key k' with
  |true=>
   have e:gU (((k',b')::l).map (·.1)) key=0:=by simp[gU,hlt]
   have hc:=dJ.content hT h2
   refine⟨by rw[e];simp,k,some k',c,x,?_,⟨hk,fun y hy=>by cases hy;exact hlt⟩,fun v=> ?_⟩
   ·simp only[e];exact h1
   ·rw[bJ]
    constructor
    ·rintro(h|h)
     ·exact h
     ·have:=(hc.within _ h).1
      rw[hlt] at this;cases this
    ·exact .inl
  |false=>
   have e:gU (((k',b')::l).map (·.1)) key=gU (l.map (·.1)) key+1:=by simp[gU,hlt]
   obtain⟨hP,k2,z,c2,x2,g1,g2,g3⟩:=dJ.find hT hhi h2 hlt
   refine⟨by rw[e];simpa using hP,k2,z,c2,x2,?_,g2,fun v=> ?_⟩
   ·simp only[e];exact g1
   ·rw[bJ,←g3]
    constructor
    ·rintro(h|h)
     ·have:=((hT _ _ _ _ _ h1).within _ h).2 k' rfl
      have h3:lt key k'=true:=this
      rw[hlt] at h3;cases h3
     ·exact h
    ·exact .inr
theorem MW {a b:List Pr} (ha:fT a) (hb:fT b) {key:ByteArray} (h:∀v,(key,v)∈a↔(key,v)∈b):d9 a key=d9 b key:=by
 cases h1:d9 a key with
 |some v=>exact((rq hb).2 ((h v).1 ((rq ha).1 h1))).symm
 |none=>
  cases h2:d9 b key with
  |none=>rfl
  |some v=>
   have:=(rq ha).2 ((h v).2 ((rq hb).1 h2))
   rw[h1] at this;cases this
theorem iy.look {σ:cK} {key:ByteArray}:∀{h m:Nat} {lo:ByteArray} {hi:Option ByteArray} {b:Int} {cs:List Pr} {bs:List Int},iy σ h m lo hi b cs bs→Within lo hi key→Look σ key h b (d9 cs key)
 |0,_,_,_,_,_,_,⟨nd,h1,_,h3,h4,_,h6,_,_⟩,_=>by
  subst h4
  exact .leaf h1 h3 h6
 |h+1,m,lo,hi,b,cs,bs,ht@⟨nd,bs',h1,h2,h3,_,_,h6⟩,hw=>by
  have hkeys:=iy.rising h2 h3 h6
  have hcs:=ht.content
  obtain⟨b0,l,e,e2,e3⟩:=oq h2.kk h3 lo
  unfold Nd.row at h6
  rw[e] at h6
  obtain⟨hP,k',z,c,x,g1,g2,g3⟩:=dJ.find (fun k z b c x ht=>iy.content ht) (fun y hy=>hw.2 y hy) h6 hw.1
  have hl:=iy.look g1 g2
  rw[←MW hcs.rise g1.content.rise g3] at hl
  have e4:(l.map (·.1))=nd.keys:=e2
  simp only[e4] at hP hl
  have e5:b0::l.map (·.2)=nd.kids:=e3.symm
  simp only[e5] at hP hl
  exact .inner hP h1 hkeys hl
def nh (σ:cK) (bs:List Int):Nat:=(bs.filter fun b=> !σ.held b).length
theorem nX (σ:cK) (a b:List Int):nh σ (a++b)=nh σ a+nh σ b:=by simp[nh]
theorem qf (σ:cK) (a:List Int):nh σ a≤a.length:=GA _ _
theorem DF {σ:cK} {a b:List Int} (h:a.Perm b):nh σ a=nh σ b:=(h.filter _).length_eq
theorem zw {σ σ':cK} (h:σ'.H=σ.H) (x:Int):σ'.held x=σ.held x:=by unfold cK.held;rw[h]
theorem rV {σ σ':cK} (h:σ'.H=σ.H) (a:List Int):nh σ' a=nh σ a:=by
 unfold nh;congr 2;funext x;rw[zw h]
def Ou (_:cK):Prop:=True
structure kW (σ σ':cK) (us bs:List Int):Prop where
 H:σ'.H=σ.H
 most:σ'.most=σ.most
 frame:∀x,σ.hasB x=true→(x∉us∨False)→σ'.hasB x=true∧σ'.mem x=σ.mem x
 new:∀x∈bs,σ'.hasB x=true∧(x∈us∨σ.hasB x=false)
 nd:us.Nodup→bs.Nodup
 size:σ'.sz+nh σ us=σ.sz+nh σ bs
 ex:∀x,σ'.hasB x=true→x∈bs∨(σ.hasB x=true∧x∉us)
theorem kW.refl {σ:cK} {us:List Int} (h:∀x∈us,σ.hasB x=true):kW σ σ us us:=
 ⟨rfl,rfl,fun _ h _=>⟨h,rfl⟩,fun x hx=>⟨h x hx,.inl hx⟩,id,rfl,fun x hx=>by
  by_cases hu:x∈us
  ·exact .inl hu
  ·exact .inr ⟨hx,hu⟩⟩
theorem kW.trans {σ σ1 σ2:cK} {us bs cs:List Int} (h:kW σ σ1 us bs) (k:kW σ1 σ2 bs cs):kW σ σ2 us cs:=by
 refine⟨k.H.trans h.H,k.most.trans h.most,fun x hx hn=> ?_,fun x hx=> ?_,fun hn=>k.nd (h.nd hn),?_,fun x hx=> ?_⟩
 ·obtain⟨a,b⟩:=h.frame x hx hn
  have hb:x∉bs∨False:=by
   rcases hn with hn|hn
   ·refine .inl fun hb=> ?_
    rcases (h.new x hb).2 with y|y
    ·exact hn y
    ·rw[hx] at y;cases y
   ·exact hn.elim
  obtain⟨c,d⟩:=k.frame x a hb
  exact⟨c,d.trans b⟩
 ·obtain⟨a,b⟩:=k.new x hx
  refine⟨a,?_⟩
  rcases b with b|b
  ·exact(h.new x b).2
  ·cases hh:σ.hasB x with
   |false=>exact .inr rfl
   |true=>
    refine .inl (jK fun hn=> ?_)
    have:=(h.frame x hh (.inl hn)).1
    rw[b] at this;cases this
 ·have a:=h.size
  have b:=k.size
  rw[rV h.H,rV h.H] at b
  omega
 ·rcases k.ex x hx with y|⟨y,z⟩
  ·exact .inl y
  ·exact .inr ((h.ex x y).resolve_left z)
theorem kW.perm {σ σ':cK} {us bs us' bs':List Int} (h:kW σ σ' us bs) (ha:us.Perm us') (hb:bs.Perm bs'):kW σ σ' us' bs':=
 ⟨h.H,h.most,fun x hx hn=>h.frame x hx (hn.imp (fun y z=>y (ha.mem_iff.1 z)) id),fun x hx=>(h.new x (hb.mem_iff.2 hx)).imp id (fun y=>y.imp ha.mem_iff.1 id),fun hn=>(hb.nodup_iff).1 (h.nd (ha.nodup_iff.2 hn)),by rw[←DF ha,←DF hb];exact h.size,fun x hx=>(h.ex x hx).imp hb.mem_iff.1 (fun y=>⟨y.1,fun z=>y.2 (ha.mem_iff.2 z)⟩)⟩
theorem kW.left {σ σ':cK} {us bs rs:List Int} (h:kW σ σ' us bs) (hn:(us++rs).Nodup) (hr:∀x∈rs,σ.hasB x=true):kW σ σ' (us++rs) (bs++rs):=by
 obtain⟨n1,n2,n3⟩:=dN.1 hn
 have hfr:∀x∈rs,x∉us:=fun x hx ha=>n3 x ha x hx rfl
 refine⟨h.H,h.most,fun x hx hm=>h.frame x hx (hm.imp (fun y z=>y (dz _ z)) id),fun x hx=> ?_,fun _=> ?_,?_,fun x hx=> ?_⟩
 ·rcases bJ.1 hx with hx|hx
  ·exact(h.new x hx).imp id (fun y=>y.imp (dz _) id)
  ·exact⟨(h.frame x (hr x hx) (.inl (hfr x hx))).1,.inl (dA _ hx)⟩
 ·refine dN.2 ⟨h.nd n1,n2,fun x hx y hy e=> ?_⟩
  subst e
  rcases (h.new x hx).2 with z|z
  ·exact hfr x hy z
  ·rw[hr x hy] at z;cases z
 ·have:=h.size
  rw[nX,nX];omega
 ·rcases h.ex x hx with y|⟨y,z⟩
  ·exact .inl (dz _ y)
  ·by_cases hr:x∈rs
   ·exact .inl (dA _ hr)
   ·exact .inr ⟨y,fun e=>(bJ.1 e).elim z hr⟩
theorem kW.mid {σ σ':cK} {us bs ls rs:List Int} (h:kW σ σ' us bs) (hn:(ls++us++rs).Nodup) (hl:∀x∈ls,σ.hasB x=true) (hr:∀x∈rs,σ.hasB x=true):kW σ σ' (ls++us++rs) (ls++bs++rs):=by
 have p:∀l:List Int,(l++(ls++rs)).Perm (ls++l++rs):=fun l=>by
  rw[←aL];exact En _ eZ
 refine(h.left (rs:=ls++rs) ((p us).nodup_iff.2 hn) fun x hx=> ?_).perm (p us) (p bs)
 rcases bJ.1 hx with hx|hx
 ·exact hl x hx
 ·exact hr x hx
theorem kW.K9 {σ σ':cK} {us bs:List Int} (_:kW σ σ' us bs) (_:Ou σ):Ou σ':=trivial
theorem La {σ σ':cK} {b:Int} {nd:Nd} (h:Wrote σ b nd σ') (_:Ou σ):kW σ σ' [] [b]:=by
 have hne:∀x,σ.hasB x=true→x≠b:=fun x hx e=>by subst e;have:=h.new;rw[hx] at this;cases this
 refine⟨h.held,h.most,fun x hx _=>⟨(h.other x (hne x hx)).1.trans hx,(h.other x (hne x hx)).2⟩,fun x hx=> ?_,fun _=>by simp,?_,fun x hx=> ?_⟩
 ·obtain rfl:x=b:=by simpa using hx
  exact⟨h.blk.has,.inr h.new⟩
 ·rw[h.size]
  have:σ.held b=false:=h.nheld
  simp[nh,this]
 ·by_cases e:x=b
  ·exact .inl (by rw[e];exact bg ..)
  ·exact .inr ⟨by rw[←(h.other x e).1];exact hx,by simp⟩
theorem Inv.K9 {σ:cK} {S:Nat→Prop} {mp:VS} {w:World} (_:Inv σ S mp w):Ou σ:=trivial
theorem cK.xY {σ:cK} {b x:Int} (h0:0≤b) (hne:x≠b):(σ.gone b).hasB x=σ.hasB x:=by
 show (decide (0≤x) && (decide (x.toNat<σ.most) && gu σ.now b.toNat false x.toNat))=_
 unfold cK.hasB
 by_cases hx:0≤x
 ·unfold gu;rw[if_neg (by omega)]
 ·simp[hx]
theorem uK {σ:cK} {b:Int} (hb:σ.hasB b=true):kW σ (σ.gone b) [b] []:=by
 obtain⟨n,rfl,hn,hnow⟩:=cK.mF hb
 refine⟨rfl,rfl,fun x hx hm=>⟨?_,rfl⟩,(fun x hx=>by cases hx),(fun _=>oO),?_,fun x hx=> .inr ?_⟩
 ·rw[cK.xY (by omega) (fun e=>(hm.resolve_right id) (by simpa using e))]
  exact hx
 ·show countB (fun x=>gu σ.now (n:Int).toNat false x||σ.H.old x) σ.most+_=countB (fun x=>σ.now x||σ.H.old x) σ.most+_
  rw[fU]
  have hh:σ.held (n:Int)=σ.H.old n:=by unfold cK.held;rw[fU];simp
  simp only[nh,List.filter_cons,hh,List.filter_nil,bG,iK]
  cases ho:σ.H.old n with
  |true=>
   simp only[Bool.not_true,Ox,if_false,bG,iK]
   refine jT _ (fun x _=> ?_)
   unfold gu
   split
   ·rename_i e;subst e;rw[ho,hnow];rfl
   ·rfl
  |false=>
   simp only[Bool.not_false,iT,lF]
   rw[←A7 (f:=fun x=>σ.now x||σ.H.old x) (b:=n) (by rw[hnow];rfl) _ hn]
   congr 1
   refine jT _ (fun x _=> ?_)
   unfold gu
   split
   ·rename_i e;subst e;rw[ho];rfl
   ·rfl
 ·have hne:x≠(n:Int):=fun e=>by
   rw[e] at hx
   have:(decide ((0:Int)≤(n:Int)) && (decide ((n:Int).toNat<σ.most) && gu σ.now (n:Int).toNat false (n:Int).toNat))=true:=hx
   simp[gu] at this
  rw[cK.xY (by omega) hne] at hx
  exact⟨hx,by simpa using hne⟩
theorem A9 {σ:cK} {S:Nat→Prop} {mp:VS} {w:World} (_:Inv σ S mp w) {b:Int} (hb:σ.hasB b=true):kW σ (σ.gone b) [b] []:=uK hb
theorem Lb {σ:cK} {S:Nat→Prop} {mp:VS} {w:World} (_:Inv σ S mp w) {b1 b2:Int} (h1:σ.hasB b1=true) (h2:σ.hasB b2=true) (hne:b1≠b2):kW σ ((σ.gone b1).gone b2) [b1,b2] []∧(σ.gone b1).hasB b2=true:=by
 have c1:=uK h1
 have hb:=(c1.frame b2 h2 (.inl (by simpa using fun e=>hne e.symm))).1
 have c2:=uK hb
 have c1':=c1.left (rs:=[b2]) (by simpa using hne) (fun x hx=>by rw[bH.1 hx];exact h2)
 exact⟨c1'.trans c2,hb⟩
theorem zy.move {σ σ':cK} {b:Int} {nd:Nd} (h:zy σ b nd) (h1:σ'.hasB b=true) (h2:σ'.mem b=σ.mem b):zy σ' b nd:=
 ⟨h1,h.lo,h.hi,by rw[h2];exact h.mem,h.fits⟩
theorem dJ.change {T T':ByteArray→Option ByteArray→Int→List Pr→List Int→Prop} {hi:Option ByteArray}:∀{l:List (ByteArray×Int)} {cs:List Pr} {bs:List Int},dJ T hi l cs bs→(∀k z b c x,(∀y∈x,y∈bs)→T k z b c x→T' k z b c x)→dJ T' hi l cs bs
 |[],_,_,h,_=>h
 |(k,b)::l,_,_,h,hT=>by
  obtain⟨c,cs',x,bs',h1,h2,rfl,rfl⟩:=h
  exact⟨c,cs',x,bs',hT _ _ _ _ _ (fun y hy=>dz _ hy) h1,dJ.change h2 (fun k z b c x hx=>hT k z b c x (fun y hy=>dA _ (hx y hy))),rfl,rfl⟩
theorem iy.move {σ σ':cK}:∀{h m:Nat} {lo:ByteArray} {hi:Option ByteArray} {b:Int} {cs:List Pr} {bs:List Int},iy σ h m lo hi b cs bs→(∀x∈bs,σ'.hasB x=true∧σ'.mem x=σ.mem x)→iy σ' h m lo hi b cs bs
 |0,_,_,_,_,_,_,⟨nd,h1,h2,h3,h4,h5,h6,h7,h8⟩,hx=>by
  have:=hx _ (by rw[h8];exact bH.2 rfl)
  exact⟨nd,h1.move this.1 this.2,h2,h3,h4,h5,h6,h7,h8⟩
 |h+1,_,_,_,_,_,_,⟨nd,bs',h1,h2,h3,h4,h5,h6⟩,hx=>by
  subst h5
  have:=hx _ (bg ..)
  exact⟨nd,bs',h1.move this.1 this.2,h2,h3,h4,rfl,h6.change fun k z b c x hb ht=>iy.move ht fun y hy=>hx y (aX _ (hb y hy))⟩
theorem dJ.has {T:ByteArray→Option ByteArray→Int→List Pr→List Int→Prop} {p:Int→Prop} (hT:∀k z b c x,T k z b c x→∀y∈x,p y) {hi:Option ByteArray}:∀{l:List (ByteArray×Int)} {cs:List Pr} {bs:List Int},dJ T hi l cs bs→∀y∈bs,p y
 |[],_,_,⟨_,e⟩=>by subst e;simp
 |(k,b)::l,_,_,h=>by
  obtain⟨c,cs',x,bs',h1,h2,rfl,rfl⟩:=h
  intro y hy
  rcases bJ.1 hy with hy|hy
  ·exact hT _ _ _ _ _ h1 y hy
  ·exact dJ.has hT h2 y hy
theorem iy.has {σ:cK}:∀{h m:Nat} {lo:ByteArray} {hi:Option ByteArray} {b:Int} {cs:List Pr} {bs:List Int},iy σ h m lo hi b cs bs→∀x∈bs,σ.hasB x=true
 |0,_,_,_,_,_,_,⟨nd,h1,_,_,_,_,_,_,h8⟩=>by
  intro x hx
  rw[h8] at hx
  rw[bH.1 hx]
  exact h1.has
 |h+1,_,_,_,_,_,_,⟨nd,bs',h1,_,_,_,h5,h6⟩=>by
  subst h5
  intro x hx
  rcases bK.1 hx with rfl|hx
  ·exact h1.has
  ·exact dJ.has (fun _ _ _ _ _ ht=>iy.has ht) h6 x hx
theorem dJ.count {T:ByteArray→Option ByteArray→Int→List Pr→List Int→Prop} (hT:∀k z b c x,T k z b c x→x.length+1≤2*c.length) {hi:Option ByteArray}:∀{l:List (ByteArray×Int)} {cs:List Pr} {bs:List Int},dJ T hi l cs bs→bs.length+l.length≤2*cs.length
 |[],_,_,⟨e,e2⟩=>by subst e e2;simp
 |(k,b)::l,_,_,h=>by
  obtain⟨c,cs',x,bs',h1,h2,rfl,rfl⟩:=h
  have a:=hT _ _ _ _ _ h1
  have b:=dJ.count hT h2
  simp only[aC,bf];omega
theorem Nd.lM (nd:Nd) (ok:nd.Ok) (hk:nd.kids≠[]) (lo:ByteArray):(nd.row lo).length=nd.kids.length:=by
 have:=ok.kk
 have:=dm.2 hk
 unfold Nd.row;simp;omega
theorem iy.count {σ:cK}:∀{h m:Nat} {lo:ByteArray} {hi:Option ByteArray} {b:Int} {cs:List Pr} {bs:List Int},iy σ h m lo hi b cs bs→2≤m→bs.length+1≤2*cs.length
 |0,_,_,_,_,_,_,⟨_,_,_,_,_,h5,_,_,h8⟩,_=>by
  subst h8
  have:=dm.2 h5
  simp;omega
 |h+1,_,_,_,_,_,_,⟨nd,bs',_,h2,h3,h4,h5,h6⟩,hm=>by
  subst h5
  have:=dJ.count (fun _ _ _ _ _ ht=>iy.count ht (aG 2)) h6
  rw[nd.lM h2 h3] at this
  simp;omega
theorem iy.QS {σ:cK}:∀{h m:Nat} {lo:ByteArray} {hi:Option ByteArray} {b:Int} {cs:List Pr} {bs:List Int},iy σ h m lo hi b cs bs→bs.length≤2*cs.length
 |0,_,_,_,_,_,_,⟨_,_,_,_,_,h5,_,_,h8⟩=>by
  subst h8
  have:=dm.2 h5
  simp;omega
 |h+1,_,_,_,_,_,_,⟨nd,bs',_,h2,h3,h4,h5,h6⟩=>by
  subst h5
  have:=dJ.count (fun _ _ _ _ _ ht=>iy.count ht (aG 2)) h6
  rw[nd.lM h2 h3] at this
  have:=dm.2 h3
  simp;omega
def kE (lo:ByteArray):List Pc→List (ByteArray×Int)
 |[]=>[]
 |p::r=>(lo,p.1)::r.map fun q=>(q.2,q.1)
theorem wz (lo:ByteArray) (ps:List Pc):(kE lo ps).length=ps.length:=by cases ps<;>simp[kE]
theorem wG (lo:ByteArray) (ps:List Pc) (q:Pc) (qs:List Pc) (hp:ps≠[]):kE lo (ps++q::qs)=kE lo ps++kE q.2 (q::qs):=by
 cases ps with
 |nil=>exact absurd rfl hp
 |cons p r=>simp[kE]
theorem uM.head {nd:Nd} {l:ByteArray} {zs:List (ByteArray×Nd)} (h:uM nd l zs) (ok:nd.Ok) (hne:nd.kids≠[]∨nd.pairs≠[]):∃z r,zs=z::r∧z.1=leastOf nd l:=by
 induction h with
 |none h1 h2=>rcases hne with h|h;exact absurd h1 h;exact absurd h2 h
 |@one nd l h1 h2=>exact⟨_,_,rfl,rfl⟩
 |@leaf nd l i hi A B hk hs hi1 _ _ _ iha ihb=>
  have hp:nd.pairs.take i≠[]:=fun e=>by have:=congrArg List.length e;simp only[aD,bG] at this;omega
  obtain⟨z,r,rfl,hz⟩:=iha (ok.left i hk) (.inr hp)
  refine⟨z,r++B,rfl,hz.trans ?_⟩
  unfold leastOf
  rw[hk]
  cases hq:nd.pairs with
  |nil=>rw[hq] at hi;simp at hi
  |cons p ps=>
   obtain⟨i,rfl⟩:∃d,i=d+1:=⟨i - 1,by omega⟩
   rfl
 |@inner nd l i hi A B hk hs hi1 _ _ iha ihb=>
  have h5:=(ok.big hs).2 hk
  have hp:nd.kids.take i≠[]:=fun e=>by have:=congrArg List.length e;simp only[aD,bG] at this;omega
  obtain⟨z,r,rfl,hz⟩:=iha (ok.Cy i (by omega)) (.inl hp)
  refine⟨z,r++B,rfl,hz.trans ?_⟩
  unfold leastOf
  cases hq:nd.kids with
  |nil=>exact absurd hq hk
  |cons k ks=>
   obtain⟨i,rfl⟩:∃d,i=d+1:=⟨i - 1,by omega⟩
   rfl
theorem Puts.split:∀{A:List (ByteArray×Nd)} {σ σ':cK} {ps:List Pc} {B:List (ByteArray×Nd)},Puts σ ps (A++B) σ'→∃ps1 ps2 σ1,ps=ps1++ps2∧Puts σ ps1 A σ1∧Puts σ1 ps2 B σ'
 |[],σ,σ',ps,B,h=>⟨[],ps,σ,rfl,rfl,h⟩
 |z::A,σ,σ',ps,B,h=>by
  cases ps with
  |nil=>exact absurd h id
  |cons p ps=>
   obtain⟨τ,h1,h2,h3⟩:=h
   obtain⟨ps1,ps2,σ1,rfl,g1,g2⟩:=Puts.split h3
   exact⟨p::ps1,ps2,σ1,rfl,⟨τ,h1,h2,g1⟩,g2⟩
theorem Puts.Ba:∀{zs:List (ByteArray×Nd)} {σ σ':cK} {ps:List Pc},Puts σ ps zs σ'→Ou σ→kW σ σ' [] (ps.map (·.1))
 |[],σ,σ',ps,h,_=>by
  cases ps with
  |nil=>cases h;exact kW.refl (by simp)
  |cons p ps=>exact absurd h id
 |z::zs,σ,σ',ps,h,hc=>by
  cases ps with
  |nil=>exact absurd h id
  |cons p ps=>
   obtain⟨τ,h1,h2,h3⟩:=h
   have c1:=La h2 hc
   have c2:=(Puts.Ba h3 (c1.K9 hc)).left (rs:=[p.1]) (by simp) (fun x hx=>by rw[bH.1 hx];exact h2.blk.has)
   exact c1.trans (c2.perm (iF _) (eZ (l₁:=ps.map (·.1)) (l₂:=[p.1])))
theorem iy.keep {σ σ':cK} {us bs':List Int} (hc:kW σ σ' us bs') {h m:Nat} {lo:ByteArray} {hi:Option ByteArray} {b:Int} {cs:List Pr} {bs:List Int} (ht:iy σ h m lo hi b cs bs) (hd:∀x∈bs,x∉us):iy σ' h m lo hi b cs bs:=
 ht.move fun x hx=>hc.frame x (ht.has x hx) (.inl (hd x hx))
theorem dJ.keep {σ σ':cK} {us bs':List Int} (hc:kW σ σ' us bs') {h m:Nat} {hi:Option ByteArray} {l:List (ByteArray×Int)} {cs:List Pr} {bs:List Int} (ht:dJ (iy σ h m) hi l cs bs) (hd:∀x∈bs,x∉us):dJ (iy σ' h m) hi l cs bs:=
 ht.change fun _ _ _ _ _ hx ht=>ht.keep hc fun y hy=>hd y (hx y hy)
theorem uE {σ σ':cK} {ps:List Pc} {z:ByteArray×Nd} {r:List (ByteArray×Nd)} (h:Puts σ ps (z::r) σ'):∃q qs,ps=q::qs∧q.2=z.1:=by
 cases ps with
 |nil=>exact absurd h id
 |cons q qs=>obtain⟨_,h1,_⟩:=h;exact⟨q,qs,rfl,h1⟩
theorem uM.O5 {nd:Nd} {l:ByteArray} {zs:List (ByteArray×Nd)} (h:uM nd l zs):∀{σ σ':cK} {ps:List Pc} {lo:ByteArray} {hi:Option ByteArray},nd.Ok→nd.kids=[]→fT nd.pairs→(∀p∈nd.pairs,Within lo hi p.1)→Puts σ ps zs σ'→Ou σ→∀m,dJ (iy σ' 0 m) hi (kE lo ps) nd.pairs (ps.map (·.1)):=by
 induction h with
 |@none nd l h1 h2=>
  intro σ σ' ps lo hi ok hk hr hw hp hc m
  cases ps with
  |nil=>rw[h2];exact⟨rfl,rfl⟩
  |cons p ps=>exact absurd hp id
 |@one nd l h1 h2=>
  intro σ σ' ps lo hi ok hk hr hw hp hc m
  cases ps with
  |nil=>exact absurd hp id
  |cons p ps=>
   cases ps with
   |cons _ _=>obtain⟨_,_,_,x⟩:=hp;exact absurd x id
   |nil=>
    obtain⟨τ,h3,h4,rfl⟩:=hp
    exact⟨nd.pairs,[],[p.1],[],⟨nd,h4.blk,ok,hk,rfl,h1.resolve_left (fun x=>x hk),hr,hw,rfl⟩,⟨rfl,rfl⟩,by simp,rfl⟩
 |@leaf nd l i hi A B hk hs hi1 _ sa sb iha ihb=>
  intro σ σ' ps lo hib ok _ hr hw hp hc m
  obtain⟨ps1,ps2,σ1,rfl,g1,g2⟩:=hp.split
  have okA:=ok.left i hk
  have okB:=ok.right i hk
  have neA:nd.pairs.take i≠[]:=fun e=>by have:=congrArg List.length e;simp only[aD,bG] at this;omega
  have neB:nd.pairs.drop i≠[]:=fun e=>by have:=congrArg List.length e;simp only[aO,bG] at this;omega
  obtain⟨za,ra,rfl,_⟩:=sa.head okA (.inr neA)
  obtain⟨zb,rb,rfl,hzb⟩:=sb.head okB (.inr neB)
  obtain⟨q1,qs1,rfl,_⟩:=uE g1
  obtain⟨q,qs,rfl,hq⟩:=uE g2
  have hk2:q.2=nd.pairs[i].1:=by
   rw[hq,hzb]
   show leastOf _ _=_
   unfold leastOf
   rw[bP hi]
   rfl
  have hri:∀j (hj:j<nd.pairs.length),j<i→lt nd.pairs[j].1 nd.pairs[i].1=true:=fun j hj hji=>jJ.1 hr j i hj hi hji
  have c2:=g2.Ba ((g1.Ba hc).K9 hc)
  have ra':=iha (lo:=lo) (hi:=some nd.pairs[i].1) okA rfl (hr.sublist (List.take_sublist _ _)) (fun p hp=>by
   obtain⟨j,hj,rfl⟩:=gX hp
   simp only[aD] at hj
   refine⟨?_,fun y hy=> ?_⟩
   ·have:=(hw _ (dZ hp)).1
    exact this
   ·cases hy
    rw[Bt]
    exact hri j (by omega) (by omega)) g1 hc m
  have rb':=ihb (lo:=nd.pairs[i].1) (hi:=hib) okB rfl (hr.sublist (Qe _ _)) (fun p hp=>by
   obtain⟨j,hj,e⟩:=gX hp
   refine⟨?_,(hw p (bS hp)).2⟩
   rw[Bu] at e
   rw[←e]
   cases j with
   |zero=>exact lt_irrefl _
   |succ j=>
    exact lt_asymm (jJ.1 hr i (i+(j+1)) hi (by simp only[aO] at hj;omega) (by omega))) g2 ((g1.Ba hc).K9 hc) m
  rw[wG _ _ _ _ (by simp),hk2,bX]
  have ra2:dJ (iy σ' 0 m) (jc (kE nd.pairs[i].1 (q::qs)) hib) (kE lo (q1::qs1)) (nd.pairs.take i) ((q1::qs1).map (·.1)):=ra'.keep c2 (by simp)
  have:=dJ.append rb' ra2
  rw[show Nd.pairs ⟨nd.pairs.drop i,[],[]⟩=nd.pairs.drop i from rfl,bI] at this
  exact this
 |@inner nd l i hi A B hk hs hi1 sa sb iha ihb=>
  intro σ σ' ps lo hi ok hk2
  exact absurd hk2 hk
theorem Mx (nd:Nd) (lo:ByteArray) (i:Nat) (hi:1≤i):Nd.row ⟨[],nd.keys.take (i - 1),nd.kids.take i⟩ lo=(nd.row lo).take i:=by
 obtain⟨i,rfl⟩:∃d,i=d+1:=⟨i - 1,by omega⟩
 unfold Nd.row
 rw[xq,xq,List.take_zipWith]
 rfl
theorem MB (nd:Nd) (lo:ByteArray) (i:Nat) (hi:i - 1<nd.keys.length) (h1:1≤i):Nd.row ⟨[],nd.keys.drop i,nd.kids.drop i⟩ nd.keys[i - 1]=(nd.row lo).drop i:=by
 obtain⟨i,rfl⟩:∃d,i=d+1:=⟨i - 1,by omega⟩
 unfold Nd.row
 rw[xq,xq,List.drop_zipWith,fw]
 simp only[yT] at hi ⊢
 rw[bP hi]
theorem uM.Nk {nd:Nd} {l:ByteArray} {zs:List (ByteArray×Nd)} (h:uM nd l zs):∀{σ σ':cK} {ps:List Pc} {lo:ByteArray} {hi:Option ByteArray} {h m:Nat} {cs:List Pr} {bs:List Int},nd.Ok→nd.kids≠[]→dJ (iy σ h 2) hi (nd.row lo) cs bs→Puts σ ps zs σ'→Ou σ→m≤2→m≤nd.kids.length→
  ∃bs',dJ (iy σ' (h+1) m) hi (kE lo ps) cs bs'∧bs'.Perm (ps.map (·.1)++bs):=by
 induction h with
 |@none nd l h1 h2=>intro σ σ' ps lo hi h m cs bs ok hk;exact absurd h1 hk
 |@one nd l h1 h2=>
  intro σ σ' ps lo hi h m cs bs ok hk hr hp hc hm hm2
  have hc2:=hp.Ba hc
  cases ps with
  |nil=>exact absurd hp id
  |cons p ps=>
   cases ps with
   |cons _ _=>obtain⟨_,_,_,x⟩:=hp;exact absurd x id
   |nil=>
    obtain⟨τ,h3,h4,rfl⟩:=hp
    exact⟨p.1::bs,⟨cs,[],p.1::bs,[],⟨nd,bs,h4.blk,ok,hk,hm2,rfl,hr.keep hc2 (by simp)⟩,⟨rfl,rfl⟩,by simp,by simp⟩,iF _⟩
 |@leaf nd l i hi A B hk hs hi1 _ sa sb iha ihb=>intro σ σ' ps lo hi h m cs bs ok hk2;exact absurd hk hk2
 |@inner nd l i hi A B hk hs hi1 sa sb iha ihb=>
  intro σ σ' ps lo hib h m cs bs ok _ hr hp hc hm hm2
  have h5:=(ok.big hs).2 hk
  obtain⟨ps1,ps2,σ1,rfl,g1,g2⟩:=hp.split
  have okA:=ok.Cy i (by omega)
  have okB:=ok.xQ i
  have neA:nd.kids.take i≠[]:=fun e=>by have:=congrArg List.length e;simp only[aD,bG] at this;omega
  have neB:nd.kids.drop i≠[]:=fun e=>by have:=congrArg List.length e;simp only[aO,bG] at this;omega
  obtain⟨za,ra,rfl,_⟩:=sa.head okA (.inl neA)
  obtain⟨zb,rb,rfl,hzb⟩:=sb.head okB (.inl neB)
  obtain⟨q1,qs1,rfl,_⟩:=uE g1
  obtain⟨q,qs,rfl,hq⟩:=uE g2
  have hk2:q.2=nd.keys[i - 1]:=by
   rw[hq,hzb]
   show leastOf _ _=_
   have:leastOf ⟨[],nd.keys.drop i,nd.kids.drop i⟩ nd.keys[i - 1]=nd.keys[i - 1]:=by
    unfold leastOf
    cases hq:nd.kids.drop i with
    |nil=>exact absurd hq neB
    |cons a r=>rfl
   rw[this,this]
  have c1:=g1.Ba hc
  have c2:=g2.Ba (c1.K9 hc)
  have er:nd.row lo=(nd.row lo).take i++(nd.row lo).drop i:=(bI _ _).symm
  rw[er] at hr
  obtain⟨cl,cm,bl,bm,r1,r2,rfl,rfl⟩:=hr.split
  rw[←MB nd lo i hi (by omega)] at r1 r2
  rw[←Mx nd lo i (by omega)] at r1
  have hnl:∀z,jc (Nd.row ⟨[],nd.keys.drop i,nd.kids.drop i⟩ nd.keys[i - 1]) z=some nd.keys[i - 1]:=by
   intro z
   unfold Nd.row
   cases hq:nd.kids.drop i with
   |nil=>exact absurd hq neB
   |cons a r=>rfl
  rw[hnl] at r1
  obtain⟨bs1,x1,y1⟩:=iha (m:=m) okA neA r1 g1 hc hm (by simp only[aD];omega)
  obtain⟨bs2,x2,y2⟩:=ihb (m:=m) okB neB (r2.keep c1 (by simp)) g2 (c1.K9 hc) hm (by simp only[aO];omega)
  rw[wG _ _ _ _ (by simp),hk2,bX]
  refine⟨bs1++bs2,dJ.append x2 (l:=kE lo (q1::qs1)) (x1.keep c2 (by simp)),?_⟩
  refine(y1.append y2).trans ?_
  generalize (q1::qs1).map (·.1)=A at*
  generalize (q::qs).map (·.1)=B at*
  have:(A++bl++(B++bm)).Perm (A++B++(bl++bm)):=by
   rw[aL,aL]
   refine om A ?_
   rw[←aL,←aL]
   exact En bm eZ
  exact this
def oN (σ:cK) (h:Nat) (lo:ByteArray) (hi:Option ByteArray) (nd:Nd) (cs:List Pr) (bs:List Int):Prop:=
 match h with
 |0=>nd.kids=[]∧nd.pairs=cs∧fT cs∧(∀p∈cs,Within lo hi p.1)∧bs=[]
 |h+1=>nd.kids≠[]∧dJ (iy σ h 2) hi (nd.row lo) cs bs
def Kids (h m:Nat) (nd:Nd):Prop:=h=0∨m≤nd.kids.length
theorem qW {σ:cK} {h m:Nat} {lo:ByteArray} {hi:Option ByteArray} {b:Int} {cs:List Pr} {bs:List Int}:iy σ h m lo hi b cs bs↔∃nd bs',zy σ b nd∧nd.Ok∧oN σ h lo hi nd cs bs'∧Kids h m nd∧cs≠[]∧bs=b::bs':=by
 cases h with
 |zero=>
  constructor
  ·rintro⟨nd,h1,h2,h3,h4,h5,h6,h7,h8⟩
   exact⟨nd,[],h1,h2,⟨h3,h4.symm,h6,h7,rfl⟩,.inl rfl,h5,h8⟩
  ·rintro⟨nd,bs',h1,h2,⟨h3,h4,h5,h6,rfl⟩,_,h7,h8⟩
   exact⟨nd,h1,h2,h3,h4.symm,h7,h5,h6,h8⟩
 |succ h=>
  constructor
  ·intro ht
   have hc:=ht.content.ne
   obtain⟨nd,bs',h1,h2,h3,h4,h5,h6⟩:=ht
   exact⟨nd,bs',h1,h2,⟨h3,h6⟩,.inr h4,hc,h5⟩
  ·rintro⟨nd,bs',h1,h2,⟨h3,h6⟩,h4,_,h5⟩
   exact⟨nd,bs',h1,h2,h3,h4.resolve_left (by omega),h5,h6⟩
theorem vC {nd:Nd} {l:ByteArray} {zs:List (ByteArray×Nd)} (hs:uM nd l zs) {σ σ':cK} {ps:List Pc} {lo:ByteArray} {hi:Option ByteArray} {h m:Nat} {cs:List Pr} {bs:List Int} (ok:nd.Ok) (hr:oN σ h lo hi nd cs bs) (hp:Puts σ ps zs σ') (hc:Ou σ) (hm:m≤2) (hk:Kids h m nd) (hn:bs.Nodup) (hb:∀x∈bs,σ.hasB x=true):
  ∃bs',dJ (iy σ' h m) hi (kE lo ps) cs bs'∧kW σ σ' bs bs':=by
 have c:=hp.Ba hc
 cases h with
 |zero=>
  obtain⟨h1,rfl,h3,h4,rfl⟩:=hr
  exact⟨_,hs.O5 ok h1 h3 h4 hp hc m,c⟩
 |succ h=>
  obtain⟨h1,h2⟩:=hr
  obtain⟨bs',x,y⟩:=hs.Nk ok h1 h2 hp hc hm (hk.resolve_left (by omega))
  exact⟨bs',x,(c.left (rs:=bs) (by simpa using hn) hb).perm (by simp) y.symm⟩
def kR (nd:Nd) (lo:ByteArray) (R:List (ByteArray×Int)):Prop:=lo::nd.keys=R.map (·.1)∧nd.kids=R.map (·.2)
theorem kR.row {nd:Nd} {lo:ByteArray} {R:List (ByteArray×Int)} (h:kR nd lo R):nd.row lo=R:=by
 unfold Nd.row
 rw[h.1,h.2,List.zip_map']
 simp
theorem rowOf {nd:Nd} (ok:nd.Ok) (hk:nd.kids≠[]) (lo:ByteArray):kR nd lo (nd.row lo):=by
 obtain⟨b,l,e,e2,e3⟩:=oq ok.kk hk lo
 unfold Nd.row
 rw[e]
 exact⟨by simp[e2],by simp[e3]⟩
theorem kR.len {nd:Nd} {lo:ByteArray} {R:List (ByteArray×Int)} (h:kR nd lo R):nd.kids.length=R.length∧nd.keys.length+1=R.length:=by
 have h1:=congrArg List.length h.1
 have h2:=congrArg List.length h.2
 simp at h1 h2
 omega
theorem kR.ne {nd:Nd} {lo:ByteArray} {R:List (ByteArray×Int)} (h:kR nd lo R):R≠[]:=fun e=>by
 have:=h.len;subst e;simp at this
def Jp (lo:ByteArray):List (ByteArray×Int)→List (ByteArray×Int)
 |[]=>[]
 |(_,b)::r=>(lo,b)::r
theorem Cq (k:ByteArray) (ps:List Pc):(kE k ps).map (·.1)=kQ k ps:=by cases ps<;>simp[kE,kQ]
theorem Co (k:ByteArray) (ps:List Pc):(kE k ps).map (·.2)=ps.map (·.1):=by cases ps<;>simp[kE]
theorem vE {nd:Nd} {lo k:ByteArray} {b:Int} {L M:List (ByteArray×Int)} {ps:List Pc} (h:kR nd lo (L++(k,b)::M)) (hne:L≠[]∨ps≠[]):kR (nd.pz L.length ps) lo (L++kE k ps++M):=by
 obtain⟨h1,h2⟩:=h
 constructor
 ·cases L with
  |nil=>
   simp only[gB,cO,nT] at h1
   obtain⟨rfl,h1⟩:=h1
   cases ps with
   |nil=>simp at hne
   |cons p r=>
    simp only[Nd.pz,fZ,h1,bG,gF,gB,kQ,ni,fw,eT,kE,cO,bX,Em,nT,true_and]
    rfl
  |cons l L=>
   simp only[ni,cO,nT,bX] at h1
   obtain⟨rfl,h1⟩:=h1
   have hg:(fZ nd).getD (L.length+1) ⟨#[]⟩=k:=by
    simp[fZ,h1,fG]
   simp only[Nd.pz,bf,hg]
   simp only[fZ,h1,kJ,ni,fw,eT,cO,bX,Cq]
   congr 1
   rw[bQ (by simp),aN (by simp),ng]
   simp
 ·simp only[Nd.pz,h2,bX,cO,Co]
  rw[bQ (by simp),aN (by simp)]
  congr 1
  rw[ng]
  simp
theorem EP {nd:Nd} {lo k:ByteArray} {b:Int} {M:List (ByteArray×Int)} (h:kR nd lo ((k,b)::M)) (hM:M≠[]):kR (nd.pz 0 []) lo (Jp lo M):=by
 obtain⟨h1,h2⟩:=h
 simp only[cO,nT] at h1
 obtain⟨rfl,h1⟩:=h1
 cases M with
 |nil=>exact absurd rfl hM
 |cons m M=>
  constructor
  ·simp[Nd.pz,fZ,h1,kQ,Jp]
  ·simp[Nd.pz,h2,Jp]
theorem Ck {key:ByteArray}:∀{k:ByteArray} {b:Int} {r:List (ByteArray×Int)},lt key k=false→∃L k' b' M,(k,b)::r=L++(k',b')::M∧L.length=gU (r.map (·.1)) key∧lt key k'=false∧∀k2 b2 M2,M=(k2,b2)::M2→lt key k2=true
 |k,b,[],hk=>⟨[],k,b,[],rfl,rfl,hk,fun _ _ _ h=>by cases h⟩
 |k,b,(k1,b1)::r,hk=>by
  cases h1:lt key k1 with
  |true=>exact⟨[],k,b,(k1,b1)::r,rfl,by simp[gU,h1],hk,fun _ _ _ h=>by cases h;exact h1⟩
  |false=>
   obtain⟨L,k',b',M,e,e2,e3,e4⟩:=Ck (b:=b1) (r:=r) h1
   exact⟨(k,b)::L,k',b',M,by rw[e];rfl,by simp[gU,h1,e2],e3,e4⟩
structure Ja (F:List Pr→List Pr) (key:ByteArray):Prop where
 loc:∀cl c cr,(∀p∈cl,lt p.1 key=true)→(∀p∈cr,lt key p.1=true)→F (cl++c++cr)=cl++F c++cr
 rise:∀c,fT c→fT (F c)
 mem:∀c,fT c→∀p∈F c,p∈c∨(p.1=key∧p.1.size≤128∧p.2.size≤64)
 len:∀c,(F c).length≤c.length+1
 size:∀c,dU (F c)≤dU c+194
theorem Ae (cl r:List Pr) (key:ByteArray) (h:∀p∈cl,lt p.1 key=true):dB (cl++r) key=cl.length+dB r key:=by
 unfold dB
 rw[List.takeWhile_append_of_pos h,aC]
theorem sP (c cr:List Pr) (key:ByteArray) (h:∀p∈cr,lt key p.1=true):dB (c++cr) key=dB c key:=by
 induction c with
 |nil=>
  cases cr with
  |nil=>rfl
  |cons p r=>simp[dB,lt_asymm (h p (by simp))]
 |cons p c ih=>
  unfold dB at*
  rw[ni,xu,xu]
  split
  ·simp[ih]
  ·rfl
theorem vF (cl c cr:List Pr) (key:ByteArray) (h1:∀p∈cl,lt p.1 key=true) (h2:∀p∈cr,lt key p.1=true):dB (cl++c++cr) key=cl.length+dB c key:=by
 rw[aL,Ae _ _ _ h1,sP _ _ _ h2]
theorem CF (cl c cr:List Pr) (key:ByteArray) (h1:∀p∈cl,lt p.1 key=true) (h2:∀p∈cr,lt key p.1=true):mE (cl++c++cr) key=mE c key:=by
 unfold mE
 rw[vF cl c cr key h1 h2,aL,bV (by omega),eD]
 by_cases hc:dB c key<c.length
 ·rw[eP hc]
 ·rw[bV (by omega),gy (l:=c) (by omega)]
  have hp:=nH c key
  cases cr with
  |nil=>rfl
  |cons p r=>
   rw[show dB c key - c.length=0 by omega]
   have:=PW (h2 p (by simp))
   simp only[List.getElem?_cons_zero,qM]
   exact fun e=>this e.symm
theorem O9 (key value:ByteArray):∀cl c cr,(∀p∈cl,lt p.1 key=true)→(∀p∈cr,lt key p.1=true)→kN (cl++c++cr) key value=cl++kN c key value++cr:=by
 intro cl c cr h1 h2
 have hp:=nH c key
 unfold kN
 rw[CF cl c cr key h1 h2,vF cl c cr key h1 h2]
 cases hat:mE c key with
 |true=>
  obtain⟨hlt,_⟩:=nM hat
  simp only[iT]
  rw[aL,gY _ _ (by omega),eD,JZ _ _ hlt,aL]
 |false=>
  simp only[Ox,if_false]
  rw[aL,CZ,ng,aN (by omega),dQ (by omega),eD,bQ hp,eY hp]
  simp
theorem JM (key:ByteArray):∀cl c cr,(∀p∈cl,lt p.1 key=true)→(∀p∈cr,lt key p.1=true)→lV (cl++c++cr) key=cl++lV c key++cr:=by
 intro cl c cr h1 h2
 have hp:=nH c key
 unfold lV
 rw[CF cl c cr key h1 h2,vF cl c cr key h1 h2]
 cases hat:mE c key with
 |true=>
  obtain⟨hlt,_⟩:=nM hat
  simp only[iT]
  rw[aL,CZ,ng,aN (by omega),dQ (by omega),jU,eD,eD,bQ hp,eY (by omega)]
  simp
 |false=>simp
theorem Az (key value:ByteArray) (hk:key.size≤128) (hv:value.size≤64):Ja (fun ps=>kN ps key value) key:=by
 refine⟨O9 key value,fun c hr=> ?_,fun c hr p hp=> ?_,fun c=> ?_,fun c=> ?_⟩
 ·obtain⟨f1,f2⟩:=qd key c hr
  unfold kN
  split
  ·rename_i hat
   obtain⟨hlt,hkey⟩:=nM hat
   refine jJ.2 fun i j hi hj hij=> ?_
   have:=jJ.1 hr i j (by simpa using hi) (by simpa using hj) hij
   rw[List.getElem_set,List.getElem_set]
   split
   ·rename_i e;subst e
    rw[if_neg (by omega)]
    rw[hkey] at this;exact this
   ·split
    ·rename_i e;subst e
     rw[hkey] at this;exact this
    ·exact this
  ·rename_i hat
   have hne:∀i (h:i<c.length),dB c key≤i→lt key c[i].1=true:=by
    intro i hi hle
    have h1:=f2 i hi hle
    cases h2:lt key c[i].1 with
    |true=>rfl
    |false=>
     have e:=wL h1 h2
     have hi2:i=dB c key:=by
      rcases iJ (dB c key) i with h3|h3
      ·have h4:=jJ.1 hr (dB c key) i (by omega) hi h3
       have h5:=f2 (dB c key) (by omega) (aG _)
       rw[e] at h4;rw[h4] at h5;cases h5
      ·omega
     subst hi2
     exfalso
     apply hat
     unfold mE
     rw[aZ hi]
     simp[e]
   refine mg.2 ⟨hr.sublist (List.take_sublist _ _),eB.2 ⟨fun q hq=> ?_,hr.sublist (Qe _ _)⟩,fun q hq z hz=> ?_⟩
   ·obtain⟨i,hi,rfl⟩:=gX hq
    rw[Bu]
    exact hne _ _ (by omega)
   ·obtain⟨i,hi,rfl⟩:=gX hq
    rw[aD] at hi
    rw[Bt]
    have h1:=f1 i (by omega) (by omega)
    rcases bK.1 hz with rfl|hz
    ·exact h1
    ·obtain⟨j,hj,rfl⟩:=gX hz
     rw[Bu]
     exact lt_trans h1 (hne _ _ (by omega))
 ·unfold kN at hp
  split at hp
  ·rcases List.mem_or_eq_of_mem_set hp with h|rfl
   ·exact .inl h
   ·exact .inr ⟨rfl,hk,hv⟩
  ·rcases bJ.1 hp with h|h
   ·exact .inl (dZ h)
   ·rcases bK.1 h with rfl|h
    ·exact .inr ⟨rfl,hk,hv⟩
    ·exact .inl (bS h)
 ·simp only[kN]
  split<;>simp<;>omega
 ·have e0:2+(key,value).1.size+(key,value).2.size≤194:=by show 2+key.size+value.size≤194;omega
  simp only[kN]
  split
  ·rename_i hat
   obtain⟨hlt,_⟩:=nM hat
   have e1:dU (c.take (dB c key))+dU (c.drop (dB c key))=dU c:=by rw[←jV,bI]
   rw[qP,if_pos hlt,jV,jQ]
   rw[bP hlt,jQ] at e1
   omega
  ·have e1:dU (c.take (dB c key))+dU (c.drop (dB c key))=dU c:=by rw[←jV,bI]
   rw[jV,jQ]
   omega
theorem ND (key:ByteArray):Ja (fun ps=>lV ps key) key:=by
 have hsub:∀c,(lV c key).Sublist c:=fun c=>by
  unfold lV
  split
  ·have h1:(c.take (dB c key)++c.drop (dB c key+1)).Sublist (c.take (dB c key)++c.drop (dB c key)):=
    LG (oH _) (List.drop_sublist_drop_left _ (by omega))
   rwa [bI] at h1
  ·exact oH _
 refine⟨JM key,fun c hr=>hr.sublist (hsub c),fun c _ p hp=> .inl ((hsub c).mem hp),fun c=>l9 (hsub c).length_le,fun c=> ?_⟩
 have:∀a b:List Pr,a.Sublist b→dU a≤dU b:=by
  intro a b h
  induction h with
  |slnil=>exact aG _
  |cons x _ ih=>rw[jQ];omega
  |cons_cons x _ ih=>rw[jQ,jQ];omega
 exact aH (this _ _ (hsub c)) (Nat.le_add_right _ _)
def Room (σ:cK) (bs:List Int) (n:Nat):Prop:=σ.sz+2*n≤σ.most+nh σ bs
theorem kW.room {σ σ':cK} {us bs:List Int} {n:Nat} (h:kW σ σ' us bs) (r:Room σ us n):Room σ' bs n:=by
 have:=h.size
 unfold Room at*
 rw[h.most,rV h.H];omega
theorem iy.top {σ:cK} {h m:Nat} {lo:ByteArray} {hi:Option ByteArray} {b:Int} {cs:List Pr} {bs:List Int} (ht:iy σ h m lo hi b cs bs):1≤b∧b≤4096:=by
 obtain⟨nd,_,h1,_⟩:=qW.1 ht
 exact⟨by have:=h1.lo;omega,h1.hi⟩
theorem dJ.Ev {T:ByteArray→Option ByteArray→Int→List Pr→List Int→Prop} {q:Int→Prop} (hT:∀k z b c x,T k z b c x→q b) {hi:Option ByteArray}:∀{l:List (ByteArray×Int)} {cs:List Pr} {bs:List Int},dJ T hi l cs bs→∀p∈l,q p.2
 |[],_,_,_=>by simp
 |(k,b)::l,_,_,h=>by
  obtain⟨c,cs',x,bs',h1,h2,rfl,rfl⟩:=h
  intro p hp
  rcases bK.1 hp with rfl|hp
  ·exact hT _ _ _ _ _ h1
  ·exact dJ.Ev hT h2 p hp
theorem kR.ok {nd:Nd} {lo:ByteArray} {R:List (ByteArray×Int)} (h:kR nd lo R) (hp:nd.pairs=[]) (hky:∀k∈nd.keys,k.size≤128) (hkd:∀p∈R,1≤p.2∧p.2≤4096) (hl:R.length≤2000):nd.Ok:=by
 have hlen:=h.len
 refine⟨by simp[hp],hky,fun k hk=> ?_,by omega,fun _=>hp,by simp[hp],by omega⟩
 rw[h.2] at hk
 obtain⟨p,hp,rfl⟩:=dP.1 hk
 exact hkd p hp
theorem Cn {nd:Nd} {i:Nat} {ps:List Pc} (h:∀k∈nd.keys,k.size≤128) (hp:∀p∈ps,p.2.size≤128):∀k∈(nd.pz i ps).keys,k.size≤128:=by
 have he:∀k∈fZ nd,k.size≤128:=fun k hk=>by
  rcases bK.1 hk with rfl|hk
  ·exact aY _
  ·exact h k hk
 have hg:((fZ nd).getD i ⟨#[]⟩).size≤128:=by
  rw[fG]
  cases hq:(fZ nd)[i]? with
  |none=>exact aY _
  |some x=>exact he x (oP hq)
 intro k hk
 have hk:=bS hk
 rcases bJ.1 hk with hk|hk
 ·rcases bJ.1 hk with hk|hk
  ·exact he k (dZ hk)
  ·cases ps with
   |nil=>cases hk
   |cons p r=>
    rcases bK.1 hk with rfl|hk
    ·exact hg
    ·obtain⟨q,hq,rfl⟩:=dP.1 hk
     exact hp q (aX _ hq)
 ·exact he k (bS hk)
theorem uM.keys {nd:Nd} {l:ByteArray} {zs:List (ByteArray×Nd)} (h:uM nd l zs) (ok:nd.Ok) (hl:l.size≤128):∀z∈zs,z.1.size≤128:=by
 have hle:∀(nd:Nd) (l:ByteArray),nd.Ok→l.size≤128→(leastOf nd l).size≤128:=fun nd l ok hl=>by
  unfold leastOf
  split
  ·cases hq:nd.pairs with
   |nil=>exact aY _
   |cons p r=>exact(ok.pr p (by rw[hq];simp)).1
  ·exact hl
 induction h with
 |none _ _=>simp
 |one _ _=>intro z hz;rw[bH.1 hz];exact hle _ _ ok hl
 |@leaf nd l i hi A B hk hs hi1 _ _ _ iha ihb=>
  intro z hz
  rcases bJ.1 hz with hz|hz
  ·exact iha (ok.left i hk) hl z hz
  ·exact ihb (ok.right i hk) (hle _ _ (ok.right i hk) (ok.pr _ (bq hi)).1) z hz
 |@inner nd l i hi A B hk hs hi1 _ _ iha ihb=>
  intro z hz
  rcases bJ.1 hz with hz|hz
  ·exact iha (ok.Cy i (by omega)) hl z hz
  ·exact ihb (ok.xQ i) (hle _ _ (ok.xQ i) (ok.ky _ (bq hi))) z hz
theorem Puts.keys:∀{zs:List (ByteArray×Nd)} {σ σ':cK} {ps:List Pc},Puts σ ps zs σ'→(∀z∈zs,z.1.size≤128)→∀p∈ps,p.2.size≤128
 |[],_,_,[],_,_=>by simp
 |[],_,_,_::_,h,_=>absurd h id
 |_::_,_,_,[],h,_=>absurd h id
 |z::zs,_,_,p::ps,h,hz=>by
  obtain⟨τ,h1,h2,h3⟩:=h
  intro q hq
  rcases bK.1 hq with rfl|hq
  ·rw[h1];exact hz z (by simp)
  ·exact Puts.keys h3 (fun y hy=>hz y (aX _ hy)) q hq
structure R3 (σ:cK) (h m:Nat) (lo:ByteArray) (hi:Option ByteArray) (ps:List Pc) (cs:List Pr) (bs:List Int):Prop where
 row:dJ (iy σ h m) hi (kE lo ps) cs bs
 key:∀p∈ps,p.2.size≤128
 len:ps.length≤900
 m1:1≤m
 m2:m≤2
 single:m=2∨ps.length=1
inductive Mid (σ:cK) (h:Nat) (hi:Option ByteArray) (z:Nat):List (ByteArray×Int)→Nat→List Pr→List Int→Prop
 |two {R i cs bs}:dJ (iy σ h 2) hi R cs bs→Mid σ h hi z R i cs bs
 |one {L k b M cl bl c x cm bm}:dJ (iy σ h 2) (some k) L cl bl→iy σ h 1 k (jc M hi) b c x→dJ (iy σ h 2) hi M cm bm→2≤(L++(k,b)::M).length→c.length=z→Mid σ h hi z (L++(k,b)::M) L.length (cl++(c++cm)) (bl++(x++bm))
theorem I7 {σ:cK} {h m:Nat} {lo k:ByteArray} {b:Int} {hi:Option ByteArray} {nd:Nd} {L M:List (ByteArray×Int)} {cl cm c:List Pr} {bl bm x:List Int} {ps:List Pc} (hR:kR nd lo (L++(k,b)::M)) (hL:dJ (iy σ h 2) (some k) L cl bl) (hM:dJ (iy σ h 2) hi M cm bm) (hP:R3 σ h m k (jc M hi) ps c x) (h2:2≤(L++(k,b)::M).length)
  (hlo:∀k1 b1 M',M=(k1,b1)::M'→lt k1 lo=false) (hkz:∀y,jc M hi=some y→lt y k=false):
  ∃R,kR (nd.pz L.length ps) lo R∧(∀z,(ps.length=1→z=c.length)→Mid σ h hi z R L.length (cl++(c++cm)) (bl++(x++bm)))∧R.length≤L.length+ps.length+M.length:=by
 cases ps with
 |nil=>
  obtain⟨rfl,rfl⟩:=hP.row
  cases L with
  |nil=>
   obtain⟨rfl,rfl⟩:=hL
   cases M with
   |nil=>simp at h2
   |cons q M=>
    obtain⟨k1,b1⟩:=q
    refine⟨_,EP hR (by simp),fun z _=> .two (dJ.Er (fun z b c x ht=>iy.weaken ht (hlo k1 b1 M rfl) (fun y hy=>⟨y,hy,lt_irrefl y⟩)) hM),by simp[Jp]⟩
  |cons l L=>
   refine⟨_,vE hR (.inl (by simp)),fun z _=> .two ?_,by simp[kE];omega⟩
   have hL':dJ (iy σ h 2) (jc M hi) (l::L) cl bl:=dJ.zG (fun k' b' c' x' ht=>iy.weaken ht (lt_irrefl _) (fun y hy=>⟨k,rfl,hkz y hy⟩)) hL
   have:=hM.append hL'
   simpa [kE] using this
 |cons p r=>
  refine⟨_,vE hR (.inr (by simp)),fun z hz=> ?_,by simp[kE];omega⟩
  by_cases hr:r=[]
  ·subst hr
   obtain⟨c1,c2,x1,x2,ht,⟨rfl,rfl⟩,rfl,rfl⟩:=hP.row
   rw[dG] at hz
   rw[dG,dG]
   have ht':iy σ h 1 k (jc M hi) p.1 c1 x1:=ht.less hP.m1
   have:=Mid.one (b:=p.1) hL ht' hM (by simpa using h2) (hz rfl).symm
   simpa [kE] using this
  ·have hm:m=2:=hP.single.resolve_right (by cases r with|nil=>exact absurd rfl hr|cons _ _=>simp)
   subst hm
   have h1:=dJ.append hM hP.row
   rw[aL]
   exact .two (dJ.append h1 hL)
structure I9 (σ:cK) (h:Nat) (hi:Option ByteArray) (R:List (ByteArray×Int)) (j:Nat) (cs:List Pr) (bs:List Int) (L:List (ByteArray×Int)) (k1:ByteArray) (b1:Int) (k2:ByteArray) (b2:Int) (M:List (ByteArray×Int)) (cl ca cb cm:List Pr) (bl xa xb bm:List Int) (m1 m2 z:Nat):Prop where
 row:R=L++(k1,b1)::(k2,b2)::M
 len:L.length=j
 l:dJ (iy σ h 2) (some k1) L cl bl
 a:iy σ h m1 k1 (some k2) b1 ca xa
 b:iy σ h m2 k2 (jc M hi) b2 cb xb
 m:dJ (iy σ h 2) hi M cm bm
 cs:cs=cl++(ca++(cb++cm))
 bs:bs=bl++(xa++(xb++bm))
 m12:(m1=2∧m2=2)∨(m1=1∧m2=2∧ca.length=z)∨(m1=2∧m2=1∧cb.length=z)
theorem Mid.skip {σ:cK} {h z:Nat} {hi:Option ByteArray} {R:List (ByteArray×Int)} {i:Nat} {cs:List Pr} {bs:List Int} (hm:Mid σ h hi z R i cs bs) (hs:R.length<2∨R.length≤i):dJ (iy σ h 2) hi R cs bs:=by
 cases hm with
 |two h=>exact h
 |one h1 h2 h3 h4 _=>simp at hs h4;omega
theorem Mid.pair {σ:cK} {h z:Nat} {hi:Option ByteArray} {R:List (ByteArray×Int)} {i:Nat} {cs:List Pr} {bs:List Int} (hm:Mid σ h hi z R i cs bs) (h2:2≤R.length):
  ∃L k1 b1 k2 b2 M cl ca cb cm bl xa xb bm m1 m2,I9 σ h hi R (min i (R.length - 2)) cs bs L k1 b1 k2 b2 M cl ca cb cm bl xa xb bm m1 m2 z:=by
 cases hm with
 |two hr=>
  obtain⟨j,hj⟩:∃j,j=min i (R.length - 2):=⟨_,rfl⟩
  rw[←hj]
  have e1:=bI j R
  have e2:R.drop j=R[j]'(by omega)::R[j+1]'(by omega)::R.drop (j+2):=by
   rw[bP (by omega),bP (i:=j+1) (by omega)]
  generalize R[j]'(by omega)=p1 at e2
  generalize R[j+1]'(by omega)=p2 at e2
  obtain⟨k1,b1⟩:=p1
  obtain⟨k2,b2⟩:=p2
  have hl:(R.take j).length=j:=by rw[aD];omega
  rw[e2] at e1
  generalize R.take j=L at e1 hl
  generalize R.drop (j+2)=M at e1
  rw[←e1] at hr
  obtain⟨cl,cr,bl,br,r1,r2,rfl,rfl⟩:=hr.split
  obtain⟨ca,cr,xa,br,ta,⟨cb,cm,xb,bm,tb,rm,rfl,rfl⟩,rfl,rfl⟩:=r2
  exact⟨L,k1,b1,k2,b2,M,cl,ca,cb,cm,bl,xa,xb,bm,2,2,e1.symm,hl,r1,ta,tb,rm,rfl,rfl,.inl ⟨rfl,rfl⟩⟩
 |@one L k b M cl bl c x cm bm h1 h3 h4 h5 h6=>
  cases M with
  |cons q M=>
   obtain⟨k2,b2⟩:=q
   obtain⟨cb,cm,xb,bm,tb,rm,rfl,rfl⟩:=h4
   exact⟨L,k,b,k2,b2,M,cl,c,cb,cm,bl,x,xb,bm,1,2,rfl,by simp;omega,h1,h3,tb,rm,rfl,rfl,.inr (.inl ⟨rfl,rfl,h6⟩)⟩
  |nil=>
   obtain⟨rfl,rfl⟩:=h4
   rcases List.eq_nil_or_concat L with rfl|⟨L,q,rfl⟩
   ·simp at h5
   ·obtain⟨k1,b1⟩:=q
    rw[List.concat_eq_append] at h1
    obtain⟨cl',cr,bl',br,r1,r2,rfl,rfl⟩:=h1.split
    obtain⟨ca,c0,xa,x0,ta,⟨rfl,rfl⟩,rfl,rfl⟩:=r2
    exact⟨L,k1,b1,k,b,[],cl',ca,c,[],bl',xa,x,[],2,1,by simp,by simp,r1,ta,h3,⟨rfl,rfl⟩,by simp,by simp,.inr (.inr ⟨rfl,rfl,h6⟩)⟩
def eu (A B:Nd) (k:ByteArray):Nd:=⟨A.pairs++B.pairs,if A.kids=[] then[] else A.keys++[k]++B.keys,A.kids++B.kids⟩
theorem oN.rows {σ:cK} {h:Nat} {lo:ByteArray} {hi:Option ByteArray} {nd:Nd} {cs:List Pr} {bs:List Int} (hn:oN σ (h+1) lo hi nd cs bs) (ok:nd.Ok):kR nd lo (nd.row lo):=rowOf ok hn.1 lo
theorem CB {σ:cK} {h:Nat} {k1 k2:ByteArray} {hi:Option ByteArray} {A B:Nd} {ca cb:List Pr} {xa xb:List Int} (okA:A.Ok) (okB:B.Ok) (hA:oN σ h k1 (some k2) A ca xa) (hB:oN σ h k2 hi B cb xb) (na:ca≠[]) (nb:cb≠[]) (hk2:k2.size≤128) (fA:A.Fits) (fB:B.Fits):
  oN σ h k1 hi (eu A B k2) (ca++cb) (xa++xb)∧(eu A B k2).Ok∧(eu A B k2).kids.length=A.kids.length+B.kids.length∧(eu A B k2).pairs.length=A.pairs.length+B.pairs.length:=by
 have hokk:(eu A B k2).Ok↔(eu A B k2).keys.length=(eu A B k2).kids.length - 1∧((eu A B k2).kids≠[]→(eu A B k2).pairs=[]):=by
  constructor
  ·exact fun h=>⟨h.kk,h.one⟩
  ·rintro⟨h1,h2⟩
   have a1:=fA.np;have a2:=fB.np;have a3:=fA.nk;have a4:=fB.nk
   refine⟨fun p hp=> ?_,fun k hk=> ?_,fun k hk=> ?_,h1,h2,by simp[eu];omega,by simp[eu];omega⟩
   ·rcases bJ.1 hp with hp|hp
    ·exact okA.pr p hp
    ·exact okB.pr p hp
   ·unfold eu at hk
    dsimp only at hk
    split at hk
    ·cases hk
    ·simp only[aL,bJ,bH] at hk
     rcases hk with hk|rfl|hk
     ·exact okA.ky k hk
     ·exact hk2
     ·exact okB.ky k hk
   ·rcases bJ.1 hk with hk|hk
    ·exact okA.kd k hk
    ·exact okB.kd k hk
 refine⟨?_,hokk.2 ?_,by simp[eu],by simp[eu]⟩
 ·cases h with
  |zero=>
   obtain⟨a1,a2,a3,a4,a5⟩:=hA
   obtain⟨b1,b2,b3,b4,b5⟩:=hB
   have:=Content.append ⟨na,a3,a4⟩ ⟨nb,b3,b4⟩
   exact⟨by simp[eu,a1,b1],by simp[eu,a2,b2],this.rise,this.within,by simp[a5,b5]⟩
  |succ h=>
   have rA:=hA.rows okA
   have rB:=hB.rows okB
   have rJ:kR (eu A B k2) k1 (A.row k1++B.row k2):=by
    constructor
    ·simp only[eu,if_neg hA.1,bX,←rA.1,←rB.1]
     simp
    ·simp only[eu,bX,←rA.2,←rB.2]
   refine⟨by simp[eu,hA.1],?_⟩
   rw[rJ.row]
   have hnl:jc (B.row k2) hi=some k2:=by
    obtain⟨b,l,e,_⟩:=oq okB.kk hB.1 k2
    unfold Nd.row
    rw[e];rfl
   have h1:=hA.2
   rw[←hnl] at h1
   exact dJ.append hB.2 h1
 ·cases h with
  |zero=>simp[eu,hA.1,hB.1]
  |succ h=>
   have a1:=okA.kk;have a2:=okB.kk
   have a3:=dm.2 hA.1;have a4:=dm.2 hB.1
   refine⟨by simp[eu,hA.1];omega,fun _=>by simp[eu,okA.one hA.1,okB.one hB.1]⟩
def Nd.jS (nd:Nd) (j:Nat):Nd:=⟨nd.pairs,nd.keys.take j++nd.keys.drop (j+1),nd.kids.take (j+1)++nd.kids.drop (j+2)⟩
theorem Gc {nd:Nd} {lo k1 k2:ByteArray} {b1 b2:Int} {L M:List (ByteArray×Int)} (h:kR nd lo (L++(k1,b1)::(k2,b2)::M)):kR (nd.jS L.length) lo (L++(k1,b1)::M)∧nd.keys[L.length]? =some k2∧nd.kids[L.length]? =some b1∧nd.kids[L.length+1]? =some b2:=by
 obtain⟨h1,h2⟩:=h
 have hk:nd.keys=(L.map (·.1)++[k1]).drop 1++k2::M.map (·.1):=by
  have:=congrArg (List.drop 1) h1
  simp only[fw,eT] at this
  rw[this]
  cases L<;>simp
 have hlen:((L.map (·.1)++[k1]).drop 1).length=L.length:=by simp
 have hD:lo::(L.map (·.1)++[k1]).drop 1=L.map (·.1)++[k1]:=by
  cases L with
  |nil=>simp only[gB,cO,nT] at h1;simp[h1.1]
  |cons l L=>simp only[ni,cO,nT] at h1;simp[h1.1]
 generalize (L.map (·.1)++[k1]).drop 1=D at hk hlen hD
 refine⟨⟨?_,?_⟩,?_,?_,?_⟩
 ·have h3:(nd.jS L.length).keys=D++M.map (·.1):=by
   simp only[Nd.jS,hk]
   rw[bQ (by omega),aN (by omega),ng,dQ (by omega),hlen]
   simp
  rw[h3,←ni,hD]
  simp
 ·simp only[Nd.jS,h2,bX,cO]
  rw[CZ,ng]
  simp
  rw[aN (by simp),dQ (by simp)]
  simp
 ·rw[hk,bV (by omega),hlen];simp
 ·rw[h2];simp
 ·rw[h2];simp
theorem Nb {σ σ2 σ3:cK} {h:Nat} {hi:Option ByteArray} {R:List (ByteArray×Int)} {j:Nat} {cs:List Pr} {bs:List Int} {L:List (ByteArray×Int)} {k1:ByteArray} {b1:Int} {k2:ByteArray} {b2:Int} {M:List (ByteArray×Int)} {cl ca cb cm:List Pr} {bl xa xb bm:List Int} {m1 m2 z:Nat} {A B:Nd} {ps:List Pc} {zs:List (ByteArray×Nd)}
  (hP:I9 σ h hi R j cs bs L k1 b1 k2 b2 M cl ca cb cm bl (b1::xa) (b2::xb) bm m1 m2 z) (okA:A.Ok) (okB:B.Ok) (fA:A.Fits) (fB:B.Fits) (nA:oN σ h k1 (some k2) A ca xa) (nB:oN σ h k2 (jc M hi) B cb xb) (kA:Kids h m1 A) (kB:Kids h m2 B) (na:ca≠[]) (nb:cb≠[]) (hk2:k2.size≤128)
  (hc:kW σ σ2 [b1,b2] []) (hcl:Ou σ2) (hs:uM (eu A B k2) ⟨#[]⟩ zs) (hp:Puts σ2 ps zs σ3) (hn:bs.Nodup):
  ∃xs,dJ (iy σ3 h 2) hi (L++kE k1 ps++M) cs (bl++(xs++bm))∧kW σ σ3 bs (bl++(xs++bm))∧ps≠[]∧(∀p∈ps,p.2.size≤128)∧ps.length≤510:=by
 obtain⟨hrow,hlen,hl,ha,hb,hm,rfl,rfl,h12⟩:=hP
 have hall:∀x∈bl++(b1::xa++(b2::xb++bm)),σ.hasB x=true:=by
  intro x hx
  simp only[bJ] at hx
  rcases hx with hx|hx|hx|hx
  ·exact dJ.has (fun _ _ _ _ _ ht=>iy.has ht) hl x hx
  ·exact ha.has x hx
  ·exact hb.has x hx
  ·exact dJ.has (fun _ _ _ _ _ ht=>iy.has ht) hm x hx
 have hperm:(bl++(b1::xa++(b2::xb++bm))).Perm ([b1,b2]++(bl++((xa++xb)++bm))):=by
  have e1:(b1::xa++(b2::xb++bm)).Perm ([b1,b2]++((xa++xb)++bm)):=by
   show (b1::(xa++b2::(xb++bm))).Perm (b1::b2::((xa++xb)++bm))
   refine List.Perm.cons _ ?_
   rw[aL]
   exact List.perm_middle
  exact(om bl e1).trans (List.perm_append_comm_assoc _ _ _)
 have hn2:=hperm.nodup_iff.1 hn
 have hrest:∀x∈bl++((xa++xb)++bm),σ.hasB x=true:=fun x hx=>hall x (hperm.mem_iff.2 (dA _ hx))
 have c1:=hc.left hn2 hrest
 have hdis:∀x∈bl++((xa++xb)++bm),x∉[b1,b2]:=fun x hx hy=>(dN.1 hn2).2.2 x hy x hx rfl
 have mA:oN σ2 h k1 (some k2) A ca xa:=by
  cases h with
  |zero=>exact nA
  |succ h=>exact⟨nA.1,nA.2.keep hc fun x hx=>hdis x (by simp[hx])⟩
 have mB:oN σ2 h k2 (jc M hi) B cb xb:=by
  cases h with
  |zero=>exact nB
  |succ h=>exact⟨nB.1,nB.2.keep hc fun x hx=>hdis x (by simp[hx])⟩
 obtain⟨nJ,okJ,lJ,lJ2⟩:=CB okA okB mA mB na nb hk2 fA fB
 have hn3:(bl++((xa++xb)++bm)).Nodup:=(dN.1 hn2).2.1
 have hn4:=hn3
 rw[←aL] at hn4
 have hxx:(xa++xb).Nodup:=(dN.1 (dN.1 hn3).2.1).1
 have has2:∀x∈bl++((xa++xb)++bm),σ2.hasB x=true:=fun x hx=>(hc.frame x (hrest x hx) (.inl (hdis x hx))).1
 obtain⟨xs,q1,q2⟩:=vC hs (m:=2) okJ nJ hp hcl (aG 2) (by
  rcases kA with rfl|kA
  ·exact .inl rfl
  ·rcases kB with rfl|kB
   ·exact .inl rfl
   ·exact .inr (by rw[lJ];omega)) hxx (fun x hx=>has2 x (by simp only[bJ] at hx ⊢;exact .inr (.inl hx)))
 have c2:=q2.mid (ls:=bl) (rs:=bm) hn4 (fun x hx=>has2 x (by simp[hx])) (fun x hx=>has2 x (by simp[hx]))
 have c12:=c1.trans (c2.perm (by rw[aL];exact iF _) (iF _))
 have hne:ps≠[]:=fun e=>by
  subst e
  have:=q1.1
  simp at this
  exact na this.1
 obtain⟨p,r,rfl⟩:=lC hne
 have hdl:∀x∈bl,x∉xa++xb:=fun x hx hy=>(dN.1 hn3).2.2 x hx x (dz _ hy) rfl
 have hdm:∀x∈bm,x∉xa++xb:=fun x hx hy=>(dN.1 (dN.1 hn3).2.1).2.2 x hy x hx rfl
 have hm3:dJ (iy σ3 h 2) hi M cm bm:=(hm.keep hc fun x hx=>hdis x (by simp[hx])).keep q2 hdm
 have hl3:dJ (iy σ3 h 2) (some k1) L cl bl:=(hl.keep hc fun x hx=>hdis x (by simp[hx])).keep q2 hdl
 refine⟨xs,?_,(c12.perm hperm.symm (by rw[aL])),by simp,?_,?_⟩
 ·have e1:=dJ.append hm3 q1
  have e2:=dJ.append e1 (l:=L) hl3
  rw[aL L,←aL ca cb cm]
  exact e2
 ·exact hp.keys (hs.keys okJ (aY _))
 ·have e1:=hs.room okJ
  have e2:=hp.length.1
  have a1:=fA.np;have a2:=fB.np;have a3:=fA.nk;have a4:=fB.nk
  unfold Nd.room at e1
  rw[lJ2,lJ] at e1
  rw[e2]
  by_cases hk:(eu A B k2).kids=[]
  ·rw[if_pos hk] at e1;omega
  ·have h0:=okJ.one hk
   have h1:=congrArg List.length h0
   rw[lJ2] at h1
   simp only[bG] at h1
   rw[if_neg hk] at e1;omega
end Go.Proofs.YtpgdljlghiifjaaGreatDoor
