/- parts -/
import Derived.Test.YtogbkgmlhhahdaaGreatQ19
import Derived.Defers
import Derived.Recover
set_option maxRecDepth 100000
set_option maxHeartbeats 8000000
set_option linter.all false
namespace Go.Proofs.YtogbkgmlhhahdaaGreat
open Go.RowKit
def EL (g:Nat)(cb:Array Value)(F:List Pr->List Pr)(bs:List (Nat×ByteArray)):Prop:=
 ∀(nb B:Nat) (nd:Nd) (S:Nat->Prop) (w:World),(∀g,S g->g<w.heap.size)->(∀p∈bs,rY w p.1 p.2/\p.1<B)->jc w S B nb nd->gD nd.pairs->nd.pairs.length<=999999->
  Calls Tryz.prog g (#[.pointer (some ⟨nb,0,none⟩)]++cb) w fun e w'=>e= .returned (.tuple #[])/\jc w' S B nb ⟨F nd.pairs,nd.keys,nd.kids⟩/\Below B w w'
def xE (w:World)(S:Nat->Prop)(bs:List (Nat×ByteArray)):Prop:=∀p∈bs,rY w p.1 p.2/\¬S p.1
theorem xE.step {w w':World}{S S':Nat->Prop}{bs:List (Nat×ByteArray)}(h:xE w S bs)(hs:Step S S' w w'):xE w' S' bs:=fun p hp=>by
 obtain⟨h1,h2⟩:=h p hp
 have hl:=(nL h1).2
 exact⟨(hs.1.block _ hl h2).trans h1,fun x=>(hs.2 _ x).elim h2 (fun y=>absurd hl (bq.2 y))⟩
theorem xE.to {w w':World}{S:Nat->Prop}{bs:List (Nat×ByteArray)}(h:xE w S bs){S':Nat->Prop}(hs:Step S S' w w'):∀p∈bs,rY w' p.1 p.2/\p.1<w.heap.size:=fun p hp=>⟨((h.step hs) p hp).1,(nL (h p hp).1).2⟩
theorem Inv.P6 {σ:bZ}{S:Nat->Prop}{mp:VS}{B:Nat}{w w':World}(h:Inv σ S mp w)(hb:Below B w w')(hS:∀g,S g->g<B):Inv σ S mp w':=
 h.mW (M:=fun g=>B<=g) ⟨hb.os,hb.tape,hb.output,hb.size,fun k _ hn=>hb.block k (gI.1 hn)⟩ (fun g hg=>gI.2 (hS g hg))
theorem dG.UK {w0 w w':World}{t:Nat}{mp:VS}{root err root' err':Int}(h:dG w t mp root err)(hb:Below w0.heap.size w w')(h0:dG w0 t mp root' err'):dG w' t mp root err:=
 (hb.block t (aj.1 h0).1).trans h
theorem Step.OU {S S':Nat->Prop}{w w1 w2:World}(h:Step S S' w w1)(hb:Below w.heap.size w1 w2):Step S S' w w2:=
 ⟨⟨hb.os.trans h.1.os,hb.tape.trans h.1.tape,hb.output.trans h.1.output,aK h.1.size hb.size,fun k hk hn=>(hb.block k hk).trans (h.1.block k hk hn)⟩,h.2⟩
theorem lQ.mono {mp:VS}{σ:bZ}{S0 S:Nat->Prop}{nd:Nd}{least:ByteArray}{w0 w:World}{e:Ending}{w':World}(h:lQ mp σ S nd least w e w')(hs:Step S0 S w0 w):lQ mp σ S0 nd least w0 e w':=by
 rcases h with ⟨v,ps,zs,σ',S',h1,h2,h3,h4,h5,h6⟩|⟨hno,hg⟩
 ·exact .inl ⟨v,ps,zs,σ',S',h1,h2.base hs.1.size,h3,h4,h5,hs.trans h6⟩
 ·exact .inr ⟨hno,hg.after hs rfl rfl⟩
theorem ND (t:Nat)(mp:VS)(root err deep:Int)(σ:bZ)(S:Nat->Prop)(key least:ByteArray)(g:Nat)(cb:Array Value)(F:List Pr->List Pr)(bs:List (Nat×ByteArray))(hent:∀args w,(callFunc g args).run Tryz.prog w= .ok (.enter g args) w)(hf:EL g cb F bs)
  (w:World) (h:Inv σ S mp w) (ht:dG w t mp root err) (hst:¬S t) (hbx:xE w S bs) (ok:Nd.Ok ⟨F [],[],[]⟩):
  Calls Tryz.prog 111 #[.pointer (some ⟨t,0,none⟩),.int .i64 0,.int .i64 deep,.string key,.string least,.func (.func g) #[] cb] w (lQ mp σ S ⟨F [],[],[]⟩ key w):=by
 have Hf:=ah hf;clear hf
 have hsub:=h.sub
 go_enter Tryz.func111,Tryz.ntmps111
 have hb0:=aO w (.cells #[.slice none 0 0,.slice none 0 0,.slice none 0 0] 165)
 have hs0:Step S S w (w.alloc (.cells #[.slice none 0 0,.slice none 0 0,.slice none 0 0] 165)):=Step.of_below hb0
 have hn0:jc (w.alloc (.cells #[.slice none 0 0,.slice none 0 0,.slice none 0 0] 165)) S w.heap.size w.heap.size ⟨[],[],[]⟩:=
  ⟨fun x=>absurd (hsub _ x) (dB _),aC _,_,_,_,bD w _,aQ.nil _ _ _ _ _,aQ.nil _ _ _ _ _,aQ.nil _ _ _ _ _⟩
 go_wp2_with (first
  |((refine(Hf.out w.heap.size w.heap.size ⟨[],[],[]⟩ S _ (fun g hg=>ak (hsub g hg) hb0.size) (hbx.to hs0) hn0 uJ (aT _)).mono ?_);rintro e w1 ⟨rfl,hn1,hb1⟩)
  |(go_at_call 150;go_must ((refine(qJ t mp root err _ σ S w.heap.size ⟨F [],[],[]⟩ key w1 (h.below (hb0.trans hb1)) (ht.step hst (Step.of_below (hb0.trans hb1))).1 hst hn1.jT ok (iC _)).mono ?_);rintro e w2 (⟨v,ps,zs,σ',S',rfl,p2,p3,p4,p5,p6⟩|⟨hno,rfl,τ,Sτ,g1,g2,g3,g4⟩)<;>refine Stop.of ?_)))
 rotate_left
 ·refine Stop.on ?_
  exact⟨rfl,lQ.mono (.inr ⟨hno,rfl,τ,Sτ,g1,g2,g3,g4⟩) (Step.of_below (hb0.trans hb1))⟩
 refine Stop.on ?_
 go_wp2_with fail
 go_ret
 exact lQ.mono (.inl ⟨v,ps,zs,σ',S',rfl,p2,p3,p4,p5,p6⟩) (Step.of_below (hb0.trans hb1))
theorem NE (t:Nat)(mp:VS)(root err b deep:Int)(σ:bZ)(S:Nat->Prop)(key least:ByteArray)(nd:Nd)(g:Nat)(cb:Array Value)(F:List Pr->List Pr)(bs:List (Nat×ByteArray))(hent:∀args w,(callFunc g args).run Tryz.prog w= .ok (.enter g args) w)(hf:EL g cb F bs)
  (w:World) (h:Inv σ S mp w) (ht:dG w t mp root err) (hst:¬S t) (hbx:xE w S bs) (hb:Bl σ b nd) (hk:nd.kids=[]) (hd:deep<=40) (hr:gD nd.pairs) (ok:Nd.Ok ⟨F nd.pairs,[],[]⟩):
  Calls Tryz.prog 111 #[.pointer (some ⟨t,0,none⟩),.int .i64 b,.int .i64 deep,.string key,.string least,.func (.func g) #[] cb] w (lQ mp (σ.gone b) S ⟨F nd.pairs,[],[]⟩ least w):=by
 have Hf:=ah hf;clear hf
 have hsub:=h.sub
 have hb0:(b==0)=false:=by have:=hb.lo;simp;omega
 have hke:nd.kids.isEmpty=true:=by rw[hk];rfl
 have hnp:=hb.fits.np
 have hkk:=hb.fits.kk
 rw[hk] at hkk
 have hkey:nd.keys=[]:=aV (by simpa using hkk)
 have Hkey:=ah hkey;clear hkey hkk
 go_enter Tryz.func111,Tryz.ntmps111
 go_wp2_with (first
  |(go_at_call 152;go_must ((refine(Gu t mp root err b deep σ S nd w h ht hst hb hd).mono ?_);rintro e w1 ⟨nb,rfl,hn1,hI1,hs1⟩))
  |(go_at_call 121;go_must ((refine(jQ nb nd _ S hn1.jT).mono ?_);rintro e w2 ⟨rfl,hw⟩;subst w2;rw[hke]))
  |((refine(Hf.out nb w.heap.size nd S _ hI1.sub (hbx.to hs1) hn1 hr (by omega)).mono ?_);rw[Hkey.out,hk];rintro e w2 ⟨rfl,hn2,hb2⟩)
  |(go_at_call 150;go_must ((refine(qJ t mp root err _ (σ.gone b) S nb ⟨F nd.pairs,[],[]⟩ least w2 (hI1.P6 hb2 hsub) ((ht.step hst hs1).1.UK hb2 ht) hst hn2.jT ok (iC _)).mono ?_);rintro e w3 (⟨v,ps,zs,σ',S',rfl,p2,p3,p4,p5,p6⟩|⟨hno,rfl,τ,Sτ,g1,g2,g3,g4⟩)<;>refine Stop.of ?_)))
 rotate_left
 ·refine Stop.on ?_
  exact⟨rfl,lQ.mono (.inr ⟨hno,rfl,τ,Sτ,g1,g2,g3,g4⟩) (hs1.OU hb2)⟩
 refine Stop.on ?_
 go_wp2_with fail
 go_ret
 exact lQ.mono (.inl ⟨v,ps,zs,σ',S',rfl,p2,p3,p4,p5,p6⟩) (hs1.OU hb2)
theorem FV (tb rb:Nat)(w:World):
  CallsD Tryz.prog 149 #[.pointer (some ⟨tb,0,none⟩),.pointer (some ⟨rb,0,none⟩)] .returning w fun e u' w'=>e= .returned (.tuple #[])/\u'= .returning/\Below w.heap.size w w':=by
 refine callsD_of_wpS Tryz.func149 rfl fun c₀ cs hu=> ?_
 apply wpS_seq
 apply wpS_region
 have hta:∀w:World,(Instr.typeAssert Value.nilIface 20 250 true).run Tryz.prog w= .ok (.tuple #[.agg #[.int .i64 0],.bool false]) w:=fun _=>by kernel_rfl
 simp[wpOpsS,go_sem,recoverD,hu,Tryz.ntmps149,Exit.thenS,hta,Array.replicate,List.replicate]
 apply wpS_seq
 apply wpS_region
 simp[wpOpsS,go_sem,Exit.thenS]
 refine wpS_cond (t:=false) (by simp[Act.eval]) ?_
 simp only[Q9,if_false]
 refine wpS_of_wp (wp_skip ?_)
 cases c₀
 simp_all [bodyPostS,results,Tryz.results149]
 exact aO _ _
theorem dG.Ty {w:World}{t:Nat}{mp:VS}{root err e:Int}(h:dG w t mp root err):dG (w.setCell ⟨t,2,none⟩ (.int .i64 e)) t mp root e:=by
 unfold dG at*
 simp[World.setCell,bn,h]
theorem FW (t:Nat)(mp:VS)(root err:Int)(tb rb:Nat)(er e0:Int)(w:World)(ht:dG w t mp root err)(htb:w.heap[tb]? =some (.cells #[.pointer (some ⟨t,0,none⟩)] 98 (0,0)))(hrb:w.heap[rb]? =some (.cells #[.int .i64 e0] 27 (0,0)))(hne:t≠rb):
  CallsD Tryz.prog 149 #[.pointer (some ⟨tb,0,none⟩),.pointer (some ⟨rb,0,none⟩)] (.panicking (brk er)) w fun e u' w'=>e= .returned (.tuple #[])/\settle u'= .returning/\dG w' t mp root er/\w'.cell? ⟨rb,0,none⟩=some (.int .i64 er)/\Keep (fun g=>g=t\/g=rb) w w':=by
 refine callsD_of_wpS Tryz.func149 rfl fun c₀ cs hu=> ?_
 apply wpS_seq
 apply wpS_region
 have hta:∀w:World,(Instr.typeAssert (.iface 250 (.agg #[.int .i64 er])) 20 250 true).run Tryz.prog w= .ok (.tuple #[.agg #[.int .i64 er],.bool true]) w:=fun _=>by kernel_rfl
 simp[wpOpsS,go_sem,recoverD,hu,brk,Tryz.ntmps149,Exit.thenS,hta,Array.replicate,List.replicate]
 obtain⟨w1,HW1⟩:∃w1:World,Hid (w.alloc (.cells #[.int .i64 er] 250)=w1):=⟨_,ah rfl⟩
 have hb1:Below w.heap.size w w1:=by rw[<-HW1.out];exact aO w _
 have hx:w1.cell? ⟨w.heap.size,0,none⟩=some (.int .i64 er):=by rw[<-HW1.out];simp
 have hxl:w.heap.size<w1.heap.size:=by rw[<-HW1.out];simp
 rw[HW1.out]
 have hlt:=(aj.1 ht).1
 have hltb:=(aj.1 htb).1
 have hlrb:=(aj.1 hrb).1
 have ht1:dG w1 t mp root err:=(hb1.block t hlt).trans ht
 have c0:w1.cell? ⟨tb,0,none⟩=some (.pointer (some ⟨t,0,none⟩)):=by
  have:=(hb1.block tb hltb).trans htb
  simp[World.cell?,this]
 have hrb1:=(hb1.block rb hlrb).trans hrb
 have hf1:∀j,w1.frozen? ⟨t,j,none⟩=false:=fun j=>by unfold dG at ht1;simp[World.frozen?,ht1]
 have hlt1:=ak hlt hb1.size
 have hltb1:=ak hltb hb1.size
 have hlrb1:=ak hlrb hb1.size
 apply wpS_seq
 apply wpS_region
 simp[wpOpsS,go_sem,Exit.thenS]
 refine wpS_cond (t:=true) (by simp[Act.eval]) ?_
 simp only[iI]
 refine wpS_of_wp ?_
 have htt:t≠tb:=fun e=>by subst e;unfold dG at ht;rw[htb] at ht;cases ht
 have hS1:w1.drew.cell? ⟨tb,0,none⟩=some (.pointer (some ⟨t,0,none⟩))/\w1.drew.cell? ⟨w.heap.size,0,none⟩=some (.int .i64 er)/\tb<w1.drew.heap.size/\w.heap.size<w1.drew.heap.size:=⟨c0,hx,hltb1,hxl⟩
 have hk1:Keep (· =t) w1.drew (w1.drew.setCell ⟨t,2,none⟩ (.int .i64 er)):=(Keep.refl (· =t) _).setCell (p:=⟨t,2,none⟩) (.inr rfl) _
 have hS2:(w1.drew.setCell ⟨t,2,none⟩ (.int .i64 er)).cell? ⟨tb,0,none⟩=some (.pointer (some ⟨t,0,none⟩))/\(w1.drew.setCell ⟨t,2,none⟩ (.int .i64 er)).cell? ⟨w.heap.size,0,none⟩=some (.int .i64 er)/\tb<(w1.drew.setCell ⟨t,2,none⟩ (.int .i64 er)).heap.size/\w.heap.size<(w1.drew.setCell ⟨t,2,none⟩ (.int .i64 er)).heap.size:=
  ⟨(hk1.cell hltb1 (fun e=>htt e.symm)).trans c0,(hk1.cell (p:=⟨w.heap.size,0,none⟩) hxl (by show ¬w.heap.size=t;omega)).trans hx,ak hltb1 hk1.size,ak hxl hk1.size⟩
 have hT2:dG (w1.drew.setCell ⟨t,2,none⟩ (.int .i64 er)) t mp root er:=dG.Ty (w:=w1.drew) ht1
 have hr2:(w1.drew.setCell ⟨t,2,none⟩ (.int .i64 er)).heap[rb]? =some (.cells #[.int .i64 e0] 27 (0,0)):=(hk1.block rb hlrb1 (fun e=>hne e.symm)).trans hrb1
 have hfz:w1.drew.frozen? ⟨t,2,none⟩=false:=hf1 2
 have hcz:∃v,w1.drew.cell? ⟨t,2,none⟩=some v:=⟨_,by unfold dG at ht1;show w1.cell? _=_;simp[World.cell?,ht1];rfl⟩
 obtain⟨vz,hcz⟩:=hcz
 obtain⟨w2,HW2⟩:∃w2:World,Hid (w1.drew.setCell ⟨t,2,none⟩ (.int .i64 er)=w2):=⟨_,ah rfl⟩
 rw[HW2.out] at hk1 hS2 hT2 hr2
 have hr2c:w2.cell? ⟨rb,0,none⟩=some (.int .i64 e0):=by simp[World.cell?,hr2]
 have hr2f:w2.frozen? ⟨rb,0,none⟩=false:=by simp[World.frozen?,hr2]
 have hr2l:=(aj.1 hr2).1
 have hltd:t<w1.drew.heap.size:=hlt1
 refine aP (fun W=>W.cell? ⟨tb,0,none⟩=some (.pointer (some ⟨t,0,none⟩))/\W.cell? ⟨w.heap.size,0,none⟩=some (.int .i64 er)/\tb<W.heap.size/\w.heap.size<W.heap.size) (fun i=> !([7,8].contains i)) [0,1,2,3,4,5,6,7,8] rfl (by kernel_rfl) hS1 ?_
 repeat ((refine bP (v:= ?_) rfl rfl (fun _ _ _ h=>h) rfl (fun W hW=> ?_) ?_);rotate_left;(focus ((try dsimp only at hW);obtain⟨q0,q1,q2,q3⟩:=hW;(go_simp;first|done|with_reducible rfl)));(try simp only[Act.put,ai,ax,au]))
 refine dK rfl rfl rfl ?_;intro K hK;go_simp
 rw[show (w1.setCell ⟨t,2,none⟩ (.int .i64 er)).drew=w1.drew.setCell ⟨t,2,none⟩ (.int .i64 er) from rfl,HW2.out]
 refine hK.out _ _ hS2 ?_
 refine jO rfl rfl rfl (by kernel_rfl) ?_;intro K hK;go_simp
 refine hK.out _ _ ?_
 refine bS ?_
 have hk3:Keep (· =rb) w2 (w2.setCell ⟨rb,0,none⟩ (.int .i64 er)):=(Keep.refl (· =rb) _).setCell (p:=⟨rb,0,none⟩) (.inr rfl) _
 refine⟨rfl,_,rfl,_,?_,rfl,rfl,(hk3.block t (aj.1 hT2).1 hne).trans hT2,?_,?_⟩
 ·simp[results,Tryz.results149,go_sem]
 ·simp[World.setCell,World.cell?,bn,hr2]
 ·exact(((Keep.of_below hb1 (fun g=>g=t\/g=rb)).drew).trans (hk1.mono (fun _ _ e=> .inl e)) (fun _ _ e=>e)).trans (hk3.mono (fun _ _ e=> .inr e)) (fun _ _ e=>e)
theorem KS (t:Nat)(mp:VS)(root err:Int)(g:Nat)(cb:Array Value)(w:World)(R R2:World->Prop)(htl:t<w.heap.size)(hent:∀args w,(callFunc g args).run Tryz.prog w= .ok (.enter g args) w)
  (hf:Calls Tryz.prog g cb ((w.alloc (.cells #[.pointer (some ⟨t,0,none⟩)] 98)).alloc (.cells #[.int .i64 0] 27)) fun e w'=>
   (e= .returned (.tuple #[])/\R w'/\w'.heap[w.heap.size+1]? =some (.cells #[.int .i64 0] 27 (0,0)))\/
   (e= .panicked (brk 12)/\R2 w'/\w'.heap[w.heap.size+1]? =some (.cells #[.int .i64 0] 27 (0,0))/\w'.heap[w.heap.size]? =some (.cells #[.pointer (some ⟨t,0,none⟩)] 98 (0,0))/\dG w' t mp root err)):
  Calls Tryz.prog 108 #[.pointer (some ⟨t,0,none⟩),.func (.func g) #[] cb] w fun e w'=>
   (e= .returned (.int .i64 0)/\∃w1,R w1/\Keep (· =w.heap.size+1) w1 w')\/
   (e= .returned (.int .i64 12)/\∃w1,R2 w1/\Keep (fun g=>g=t\/g=w.heap.size+1) w1 w'/\dG w' t mp root 12):=by
 have hmf:∀(fn:Fn) (first cap:Array Value) (w:World),(Instr.makeFunc fn first cap).run Tryz.prog w= .ok (.func fn first cap) w:=fun _ _ _ _=>rfl
 have Hf:=ah hf;clear hf
 go_enter_defers Tryz.func108,Tryz.ntmps108
 go_wp2_with (refine Hf.out.mono ?_;rintro e w1 (⟨rfl,hR,hr⟩|⟨rfl,hR2,hr,hrt,hT⟩)<;>refine Stop.of ?_)
 ·have r0:w1.cell? ⟨w.heap.size+1,0,none⟩=some (.int .i64 0):=by simp[World.cell?,hr]
  have r1:w1.frozen? ⟨w.heap.size+1,0,none⟩=false:=by simp[World.frozen?,hr]
  have r2:=(aj.1 hr).1
  refine Stop.on ?_
  go_wp2_with fail
  have hk:Keep (· =w.heap.size+1) w1 (w1.setCell ⟨w.heap.size+1,0,none⟩ (.int .i64 0)):=Keep.setCell (M:=(· =w.heap.size+1)) (p:=⟨w.heap.size+1,0,none⟩) (Keep.refl _ _) (.inr rfl) _
  have hr':(w1.setCell ⟨w.heap.size+1,0,none⟩ (.int .i64 0)).cell? ⟨w.heap.size+1,0,none⟩=some (.int .i64 0):=by simp[World.setCell,World.cell?,bn,hr]
  have hlt':w.heap.size+1<(w1.setCell ⟨w.heap.size+1,0,none⟩ (.int .i64 0)).heap.size:=ak r2 hk.size
  generalize w1.setCell ⟨w.heap.size+1,0,none⟩ (.int .i64 0)=w2 at*
  refine jA (f:=149) (args:=#[.pointer (some ⟨w.heap.size,0,none⟩),.pointer (some ⟨w.heap.size+1,0,none⟩)]) (by simp) (by simp[go_sem]) ?_
  refine(FV w.heap.size (w.heap.size+1) w2).mono ?_
  rintro e u' w'' ⟨rfl,rfl,hb⟩
  have hc:w''.cell? ⟨w.heap.size+1,0,none⟩=some (.int .i64 0):=(hb.cell (p:=⟨w.heap.size+1,0,none⟩) hlt').trans hr'
  have hfin:Keep (· =w.heap.size+1) w1 w'':=hk.trans (Keep.of_below hb (fun _=>False)) (fun _ _ h=>h.elim)
  refine⟨_,?_,.inl ⟨rfl,w1,hR,hfin⟩⟩
  simp[results,Tryz.results108,go_sem,hc]
 ·refine Stop.on ?_
  refine jA (f:=149) (args:=#[.pointer (some ⟨w.heap.size,0,none⟩),.pointer (some ⟨w.heap.size+1,0,none⟩)]) (by simp) (by simp[go_sem]) ?_
  refine(FW t mp root err w.heap.size (w.heap.size+1) 12 0 w1 hT hrt hr (by omega)).mono ?_
  rintro e u' w'' ⟨rfl,hu,hT2,hc,hk⟩
  show Leaves _ _ _ _ [] (settle u') w''
  rw[hu]
  refine⟨_,?_,.inr ⟨rfl,w1,hR2,hk,hT2⟩⟩
  simp[results,Tryz.results108,go_sem,hc]
structure SB (t:Nat)(mp:VS)(root err:Int)(tb kb:Nat)(key:ByteArray)(W:World):Prop where
 tr:dG W t mp root err
 bx:W.heap[tb]? =some (.cells #[.pointer (some ⟨t,0,none⟩)] 98 (0,0))
 ky:rY W kb key
theorem SB.cells {t:Nat}{mp:VS}{root err:Int}{tb kb:Nat}{key:ByteArray}{W:World}(h:SB t mp root err tb kb key W):
  W.cell? ⟨tb,0,none⟩=some (.pointer (some ⟨t,0,none⟩))/\tb<W.heap.size/\W.cell? ⟨t,1,none⟩=some (.int .i64 root)/\t<W.heap.size/\W.cell? ⟨kb,0,none⟩=some (.string key)/\kb<W.heap.size/\W.frozen? ⟨t,1,none⟩=false:=by
 obtain⟨_,c1,_,_,f1,_,hlt⟩:=cells3 h.tr
 exact⟨by simp[World.cell?,h.bx],(aj.1 h.bx).1,c1,hlt,(nL h.ky).1,(nL h.ky).2,f1⟩
theorem RD (t:Nat)(mp:VS)(tb kb vb:Nat)(root err:Int)(key:ByteArray)(w:World)(R:Int->World->Prop)(R2:World->Prop)(hS:SB t mp root err tb kb key w)
  (hE:Calls Tryz.prog 111 #[.pointer (some ⟨t,0,none⟩),.int .i64 root,.int .i64 0,.string key,.string ⟨#[]⟩,.func (.func 112) #[] #[.pointer (some ⟨kb,0,none⟩),.pointer (some ⟨vb,0,none⟩)]] w.drew fun e w1=>(∃v,e= .returned v/\SB t mp root err tb kb key w1/\
   Calls Tryz.prog 110 #[.pointer (some ⟨t,0,none⟩),v] w1 fun e2 w2=>(∃b,e2= .returned (.int .i64 b)/\SB t mp root err tb kb key w2/\R b w2)\/(e2= .panicked (brk 12)/\SB t mp root err tb kb key w2/\R2 w2))\/(e= .panicked (brk 12)/\SB t mp root err tb kb key w1/\R2 w1)):
  Calls Tryz.prog 109 #[.pointer (some ⟨tb,0,none⟩),.pointer (some ⟨kb,0,none⟩),.pointer (some ⟨vb,0,none⟩)] w fun e w'=>(e= .returned (.tuple #[])/\∃b w2,R b w2/\SB t mp root err tb kb key w2/\w'=w2.setCell ⟨t,1,none⟩ (.int .i64 b))\/(e= .panicked (brk 12)/\SB t mp root err tb kb key w'/\R2 w'):=by
 have HE:=ah hE;clear hE
 go_enter Tryz.func109,Tryz.ntmps109
 go_wp2_with fail
 have hmf:∀(fn:Fn) (first cap:Array Value) (w:World),(Instr.makeFunc fn first cap).run Tryz.prog w= .ok (.func fn first cap) w:=fun _ _ _ _=>rfl
 refine aP (fun W=>SB t mp root err tb kb key W) (fun i=> !([9,10,13].contains i)) [0,1,2,3,4,5,6,7,8,9,10,11,12,13] rfl (by kernel_rfl) ⟨hS.tr,hS.bx,hS.ky⟩ ?_
 repeat ((refine bP (v:= ?_) rfl rfl (fun _ _ _ h=>h) rfl (fun W hW=> ?_) ?_);rotate_left;(focus ((try dsimp only at hW);obtain⟨q0,q1,q2,q3,q4,q5,q6⟩:=hW.cells;first|(go_simp;first|done|with_reducible rfl)));(try simp only[Act.put,ai,ax,au]))
 refine dK rfl rfl rfl ?_;intro K hK;go_simp
 refine HE.out.mono ?_;rintro e w1 (⟨v,rfl,hS1,hG⟩|⟨rfl,hS1,hR2⟩)
 rotate_left
 ·exact⟨rfl,.inr ⟨rfl,hS1,hR2⟩⟩
 refine hK.out _ _ hS1 ?_
 refine dK rfl rfl rfl ?_;intro K hK;go_simp
 refine hG.mono ?_;rintro e w2 (⟨b,rfl,hS2,hR⟩|⟨rfl,hS1,hR2⟩)
 rotate_left
 ·exact⟨rfl,.inr ⟨rfl,hS1,hR2⟩⟩
 refine hK.out _ _ hS2 ?_
 repeat ((refine bP (v:= ?_) rfl rfl (fun _ _ _ h=>h) rfl (fun W hW=> ?_) ?_);rotate_left;(focus ((try dsimp only at hW);obtain⟨q0,q1,q2,q3,q4,q5,q6⟩:=hW.cells;first|(go_simp;first|done|with_reducible rfl)));(try simp only[Act.put,ai,ax,au]))
 obtain⟨_,_,x2,x3,_,_,x6⟩:=hS2.cells
 refine jO rfl rfl rfl (by kernel_rfl) ?_;intro K hK;go_simp
 refine hK.out _ _ ?_
 refine bS ?_
 go_wp2_with fail
 go_end0
 exact .inl ⟨rfl,b,w2,hR,hS2,rfl⟩
theorem nT (t:Nat)(mp:VS)(root err:Int)(w:World)(h:dG w t mp root err):
  Calls Tryz.prog 92 #[.pointer (some ⟨t,0,none⟩)] w fun e w'=>e= .returned (.int .i64 err)/\w'=w:=by
 obtain⟨_,_,c2,_,_,_,hlt⟩:=cells3 h
 go_enter Tryz.func92,Tryz.ntmps92
 go_wp2
 go_ret
 exact⟨rfl,rfl⟩
theorem Aw (k:ByteArray)(w:World)(h1:1<=k.size)(h2:k.size<=128):
  Calls Tryz.prog 107 #[.string k] w fun e w'=>e= .returned (.bool true)/\w'=w:=by
 have x1:(1:Int)<=(k.size:Int):=by omega
 have x2:(k.size:Int)<=128:=by omega
 go_enter Tryz.func107,Tryz.ntmps107
 go_wp2
 go_ret
 exact⟨by simp[*],rfl⟩
theorem TB (t:Nat)(mp:VS)(root:Int)(key value:ByteArray)(w:World)(R:World->Int->World->Prop)(R2:World->World->Prop)(ht:dG w t mp root 0)(hk1:1<=key.size)(hk2:key.size<=128)(hv:value.size<=64)
  (hE:∀(W:World) (tb kb vb:Nat),Below w.heap.size w W->w.heap.size<=tb->w.heap.size<=kb->w.heap.size<=vb->SB t mp root 0 tb kb key W->rY W vb value->
   Calls Tryz.prog 111 #[.pointer (some ⟨t,0,none⟩),.int .i64 root,.int .i64 0,.string key,.string ⟨#[]⟩,.func (.func 112) #[] #[.pointer (some ⟨kb,0,none⟩),.pointer (some ⟨vb,0,none⟩)]] W fun e w1=>(∃v,e= .returned v/\SB t mp root 0 tb kb key w1/\
    Calls Tryz.prog 110 #[.pointer (some ⟨t,0,none⟩),v] w1 fun e2 w2=>(∃b,e2= .returned (.int .i64 b)/\SB t mp root 0 tb kb key w2/\(∀g,w.heap.size<=g->g<W.heap.size->w2.heap[g]? =W.heap[g]?)/\W.heap.size<=w2.heap.size/\R W b w2)\/(e2= .panicked (brk 12)/\SB t mp root 0 tb kb key w2/\(∀g,w.heap.size<=g->g<W.heap.size->w2.heap[g]? =W.heap[g]?)/\W.heap.size<=w2.heap.size/\R2 W w2))\/(e= .panicked (brk 12)/\SB t mp root 0 tb kb key w1/\(∀g,w.heap.size<=g->g<W.heap.size->w1.heap[g]? =W.heap[g]?)/\W.heap.size<=w1.heap.size/\R2 W w1)):
  Calls Tryz.prog 63 #[.pointer (some ⟨t,0,none⟩),.string key,.string value] w fun e w'=>(e= .returned (.int .i64 0)/\
   ∃W b w2 rb,Below w.heap.size w W/\R W b w2/\w.heap.size<=rb/\rb<W.heap.size/\W.heap.size<=w2.heap.size/\Keep (fun g=>g=rb\/g=t) w2 w'/\dG w' t mp b 0)\/(e= .returned (.int .i64 12)/\
   ∃W w2 rb,Below w.heap.size w W/\R2 W w2/\w.heap.size<=rb/\rb<W.heap.size/\W.heap.size<=w2.heap.size/\Keep (fun g=>g=rb\/g=t) w2 w'/\dG w' t mp root 12):=by
 have HE:=ah hE;clear hE
 have x2:¬((64:Int)<(value.size:Int)):=by omega
 have hmf:∀(fn:Fn) (first cap:Array Value) (w:World),(Instr.makeFunc fn first cap).run Tryz.prog w= .ok (.func fn first cap) w:=fun _ _ _ _=>rfl
 have hb3:=Jf w (.cells #[.pointer (some ⟨t,0,none⟩)] 98) (.cells #[.string key] 9) (.cells #[.string value] 9)
 have htl:t<w.heap.size:=(aj.1 ht).1
 have ht3:=(hb3.block t htl).trans ht
 have hcb:∀W3,W3=(((w.alloc (.cells #[.pointer (some ⟨t,0,none⟩)] 98)).alloc (.cells #[.string key] 9)).alloc (.cells #[.string value] 9))->
   Calls Tryz.prog 108 #[.pointer (some ⟨t,0,none⟩),.func (.func 109) #[] #[.pointer (some ⟨w.heap.size,0,none⟩),.pointer (some ⟨w.heap.size+1,0,none⟩),.pointer (some ⟨w.heap.size+1+1,0,none⟩)]] W3 fun e w'=>(e= .returned (.int .i64 0)/\
   ∃W b w2 rb,Below w.heap.size w W/\R W b w2/\w.heap.size<=rb/\rb<W.heap.size/\W.heap.size<=w2.heap.size/\Keep (fun g=>g=rb\/g=t) w2 w'/\dG w' t mp b 0)\/(e= .returned (.int .i64 12)/\
   ∃W w2 rb,Below w.heap.size w W/\R2 W w2/\w.heap.size<=rb/\rb<W.heap.size/\W.heap.size<=w2.heap.size/\Keep (fun g=>g=rb\/g=t) w2 w'/\dG w' t mp root 12):=by
  intro W3 hW3
  have hbW3:Below w.heap.size w W3:=by rw[hW3];exact hb3
  have hs3:W3.heap.size=w.heap.size+3:=by rw[hW3];simp
  have b0:W3.heap[w.heap.size]? =some (.cells #[.pointer (some ⟨t,0,none⟩)] 98 (0,0)):=by
   rw[hW3];exact((ic (w.alloc _) _ _).block _ (by simp)).trans (bD w _)
  have b1:W3.heap[w.heap.size+1]? =some (.cells #[.string key] 9 (0,0)):=by
   rw[hW3];exact((aO ((w.alloc _).alloc _) _).block _ (by simp)).trans (by have:=bD (w.alloc (.cells #[.pointer (some ⟨t,0,none⟩)] 98)) (.cells #[.string key] 9);rwa [aS] at this)
  have b2:W3.heap[w.heap.size+1+1]? =some (.cells #[.string value] 9 (0,0)):=by
   rw[hW3];have:=bD ((w.alloc (.cells #[.pointer (some ⟨t,0,none⟩)] 98)).alloc (.cells #[.string key] 9)) (.cells #[.string value] 9);rwa [aS,aS] at this
  clear hW3
  have hbV:=ic W3 (.cells #[.pointer (some ⟨t,0,none⟩)] 98) (.cells #[.int .i64 0] 27)
  have hsV:((W3.alloc (.cells #[.pointer (some ⟨t,0,none⟩)] 98)).alloc (.cells #[.int .i64 0] 27)).heap.size=w.heap.size+5:=by simp[hs3]
  have hbwV:=hbW3.trans (hbV.mono (by omega))
  have c0:=(hbV.block _ (by omega)).trans b0
  have c1:=(hbV.block _ (by omega)).trans b1
  have c2:=(hbV.block _ (by omega)).trans b2
  have ctr:dG ((W3.alloc (.cells #[.pointer (some ⟨t,0,none⟩)] 98)).alloc (.cells #[.int .i64 0] 27)) t mp root 0:=(hbwV.block t htl).trans ht
  have crb:((W3.alloc (.cells #[.pointer (some ⟨t,0,none⟩)] 98)).alloc (.cells #[.int .i64 0] 27)).heap[W3.heap.size+1]? =some (.cells #[.int .i64 0] 27 (0,0)):=by
   have:=bD (W3.alloc (.cells #[.pointer (some ⟨t,0,none⟩)] 98)) (.cells #[.int .i64 0] 27);rwa [aS] at this
  have hch:=KS t mp root 0 109 #[.pointer (some ⟨w.heap.size,0,none⟩),.pointer (some ⟨w.heap.size+1,0,none⟩),.pointer (some ⟨w.heap.size+1+1,0,none⟩)] W3
   (fun w'=>∃W b w2,Below w.heap.size w W/\R W b w2/\W3.heap.size+1<W.heap.size/\W.heap.size<=w2.heap.size/\SB t mp root 0 w.heap.size (w.heap.size+1) key w2/\w'=w2.setCell ⟨t,1,none⟩ (.int .i64 b))
   (fun w'=>∃W,Below w.heap.size w W/\R2 W w'/\W3.heap.size+1<W.heap.size/\W.heap.size<=w'.heap.size) (by omega) (fun _ _=>by kernel_rfl)
  have ctp:((W3.alloc (.cells #[.pointer (some ⟨t,0,none⟩)] 98)).alloc (.cells #[.int .i64 0] 27)).heap[W3.heap.size]? =some (.cells #[.pointer (some ⟨t,0,none⟩)] 98 (0,0)):=
   ((aO (W3.alloc _) _).block _ (by simp)).trans (bD W3 _)
  generalize (W3.alloc (.cells #[.pointer (some ⟨t,0,none⟩)] 98)).alloc (.cells #[.int .i64 0] 27)=V at*
  have hp1:=RD t mp w.heap.size (w.heap.size+1) (w.heap.size+1+1) root 0 key V (fun b w2=>(∀g,w.heap.size<=g->g<V.drew.heap.size->w2.heap[g]? =V.drew.heap[g]?)/\V.drew.heap.size<=w2.heap.size/\R V.drew b w2) (fun w2=>(∀g,w.heap.size<=g->g<V.drew.heap.size->w2.heap[g]? =V.drew.heap[g]?)/\V.drew.heap.size<=w2.heap.size/\R2 V.drew w2) ⟨ctr,c0,c1⟩ ((HE.out V.drew w.heap.size (w.heap.size+1) (w.heap.size+1+1) hbwV.drew (aC _) (by omega) (by omega) ⟨ctr,c0,c1⟩ c2).mono fun e w1 hh=>hh.imp (fun ⟨v,h1,h2,h3⟩=>⟨v,h1,h2,h3.mono fun e2 w2 kk=>kk.imp (fun ⟨b,k1,k2,k3,k4,k5⟩=>⟨b,k1,k2,k3,k4,k5⟩) (fun ⟨k1,k2,k3,k4,k5⟩=>⟨k1,k2,k3,k4,k5⟩)⟩) (fun ⟨k1,k2,k3,k4,k5⟩=>⟨k1,k2,k3,k4,k5⟩))
  refine(hch (hp1.mono ?_)).mono ?_
  ·rintro e w' (⟨rfl,b,w2,⟨k3,k4,k5⟩,hS2,rfl⟩|⟨rfl,hS2,k3,k4,k5⟩)
   ·refine .inl ⟨rfl,⟨V.drew,b,w2,hbwV.drew,k5,(by show _<V.heap.size;omega),k4,hS2,rfl⟩,?_⟩
    rw[Below.heap_setCell _ _ _ _ (by simp;omega)]
    exact(k3 _ (by omega) (by show _<V.heap.size;omega)).trans crb
   ·refine .inr ⟨rfl,⟨V.drew,hbwV.drew,k5,(by show _<V.heap.size;omega),k4⟩,(k3 _ (by omega) (by show _<V.heap.size;omega)).trans crb,(k3 _ (by omega) (by show _<V.heap.size;omega)).trans ctp,hS2.tr⟩
  ·rintro e w' (⟨rfl,w1,⟨W,b,w2,q1,q2,q3,q4,q5,rfl⟩,hk⟩|⟨rfl,w1,⟨W,q1,q2,q3,q4⟩,hk,hT⟩)
   ·have hk5:Keep (· =t) w2 (w2.setCell ⟨t,1,none⟩ (.int .i64 b)):=Keep.setCell (M:=(· =t)) (p:=⟨t,1,none⟩) (Keep.refl _ _) (.inr rfl) _
    refine .inl ⟨rfl,W,b,w2,W3.heap.size+1,q1,q2,by omega,q3,q4,(hk5.mono (fun _ _ h=> .inr h)).trans hk (fun _ _ h=> .inl h),?_⟩
    have h5:(w2.setCell ⟨t,1,none⟩ (.int .i64 b)).heap[t]? =some (.cells #[.iface 97 mp.agg,.int .i64 b,.int .i64 0] 160 (0,0)):=by
     have:=q5.tr;unfold dG at this
     simp[World.setCell,bn,this]
    exact(hk.block t (aj.1 h5).1 (by omega)).trans h5
   ·exact .inr ⟨rfl,W,w1,W3.heap.size+1,q1,q2,by omega,q3,q4,hk.mono (fun _ _ h=>h.symm),hT⟩
 have hC:=ah (hcb _ rfl);clear hcb
 go_enter Tryz.func63,Tryz.ntmps63
 go_wp2_with (first
  |(go_at_call 92;go_must ((refine(nT t mp root 0 _ ht3).mono ?_);rintro e w1 ⟨rfl,hw⟩;subst w1))
  |(go_at_call 107;go_must ((refine(Aw key _ hk1 hk2).mono ?_);rintro e w1 ⟨rfl,hw⟩;subst w1))
  |(go_at_call 108;go_must (refine hC.out.mono ?_;rintro e w1 (⟨rfl,hres⟩|⟨rfl,hres⟩)<;>refine Stop.of ?_)))
 ·refine Stop.on ?_
  go_wp2_with fail
  go_ret
  exact .inl ⟨rfl,hres⟩
 ·refine Stop.on ?_
  go_wp2_with fail
  go_ret
  exact .inr ⟨rfl,hres⟩
def fD (ps:List Pr)(key:ByteArray):Option ByteArray:=if pz ps key then(ps[cO ps key]?).map (·.2) else none
inductive Look (σ:bZ)(key:ByteArray):Nat->Int->Option ByteArray->Prop
 |nil {n}:Look σ key n 0 none
 |leaf {n b nd}:Bl σ b nd->nd.kids=[]->gD nd.pairs->Look σ key n b (fD nd.pairs key)
 |inner {n b nd r} (h:iV nd.keys key<nd.kids.length):Bl σ b nd->vT nd.keys->Look σ key n nd.kids[iV nd.keys key] r->Look σ key (n+1) b r
theorem RU (t:Nat)(mp:VS)(root:Int)(σ:bZ)(S:Nat->Prop)(key:ByteArray)(r:Option ByteArray)(w:World)(h:Inv σ S mp w)(ht:dG w t mp root 0)(hk1:1<=key.size)(hk2:key.size<=128)(n:Nat)(hn:n<=40)(hl:Look σ key n root r):
  Calls Tryz.prog 73 #[.pointer (some ⟨t,0,none⟩),.string key] w fun e w'=>e= .returned (.tuple #[.string (r.getD ⟨#[]⟩),.bool r.isSome,.int .i64 0])/\Below w.heap.size w w':=by
 obtain⟨_,c1,_,_,_,_,hlt⟩:=cells3 ht
 have HL:=ah hl;clear hl
 go_enter Tryz.func73,Tryz.ntmps73
 go_wp2_with (first
  |(go_at_call 92;go_must ((refine(nT t mp root 0 _ ht).mono ?_);rintro e w1 ⟨rfl,hw⟩;subst w1))
  |(go_at_call 107;go_must ((refine(Aw key _ hk1 hk2).mono ?_);rintro e w1 ⟨rfl,hw⟩;subst w1)))
 go_loopw [8,9,10,11,12,13] (fun x y _ _ _ _ wr=>∃(b:Int) (d m:Nat),x= .int .i64 b/\y= .int .i64 d/\Look σ key m b r/\d+m<=40/\Below w.heap.size w wr) (fun _ y _ _ _ _ _=>41 - (intOf y).toNat)
 case atStart=>exact⟨root,0,n,rfl,rfl,HL.out,by omega,aR _ _⟩
 case round=>
  obtain⟨b,d,m,rfl,rfl,hl,hdm,hbel⟩:=hrel
  have hIr:=h.below hbel
  have htr:dG wr t mp root 0:=(hbel.block t hlt).trans ht
  cases hl with
  |nil=>
   go_wp2_with fail
   go_ret3
   exact⟨rfl,hbel⟩
  |@leaf _ _ nd hb hk hr=>
   have hb0:(b==0)=false:=by have:=hb.lo;simp;omega
   have hb00:¬b=0:=by have:=hb.lo;omega
   have hke:nd.kids.isEmpty=true:=by rw[hk];rfl
   have hnp:=hb.fits.np
   have hd40:(d:Int)<=40:=by omega
   cases hat:pz nd.pairs key with
   |false=>
    have hlk:fD nd.pairs key=none:=by unfold fD;rw[hat];rfl
    have HLK:=ah hlk;clear hlk
    go_wp2_with (first
     |(go_at_call 93;go_must ((refine(mU t mp root 0 b d σ S nd _ hIr htr hb hd40).mono ?_);rintro e w1 ⟨nb,rfl,hn1,hb1⟩))
     |(go_at_call 121;go_must ((refine(jQ nb nd _ S hn1.jT).mono ?_);rintro e w2 ⟨rfl,hw⟩;subst w2;rw[hke]))
     |(go_at_call 113;go_must ((refine(vE nb nd key _ S hn1.jT hr (by omega)).mono ?_);rw[hat];rintro e w3 ⟨rfl,hb3⟩)))
    go_ret3
    rw[HLK.out]
    exact⟨rfl,hbel.trans ((hb1.mono hbel.size).trans (hb3.mono (aK hbel.size hb1.size)))⟩
   |true=>
    obtain⟨hp,hkey⟩:=oN hat
    have hlk:fD nd.pairs key=some nd.pairs[cO nd.pairs key].2:=by unfold fD;rw[hat,if_pos rfl,bG hp];rfl
    have HLK:=ah hlk;clear hlk
    generalize hP:cO nd.pairs key=P at hp hkey HLK
    have HP:=ah hP;clear hP
    go_wp2_with (first
     |(go_at_call 93;go_must ((refine(mU t mp root 0 b d σ S nd _ hIr htr hb hd40).mono ?_);rintro e w1 ⟨nb,rfl,hn1,hb1⟩))
     |(go_at_call 121;go_must ((refine(jQ nb nd _ S hn1.jT).mono ?_);rintro e w2 ⟨rfl,hw⟩;subst w2;rw[hke]))
     |(go_at_call 113;go_must ((refine(vE nb nd key _ S hn1.jT hr (by omega)).mono ?_);rw[hat,HP.out];rintro e w3 ⟨rfl,hb3⟩;refine Stop.of ?_)))
    refine Stop.on ?_
    obtain⟨_,x0,x1,x2,hbn,hx0,_,_⟩:=hn1.jT.below hb3
    obtain⟨e0,_,_,_,_,_,hlt3⟩:=cells3 hbn
    obtain⟨ao0,cp0,rfl,m0,m1,_,_⟩:=aX.form hx0
    obtain⟨pb,po,rfl,d1,d2⟩:=hx0.at rfl P hp
    have hpb:=aD w3 _ d2
    go_wp2_with fail
    go_ret3
    rw[HLK.out]
    exact⟨rfl,hbel.trans ((hb1.mono hbel.size).trans (hb3.mono (aK hbel.size hb1.size)))⟩
  |@inner m _ nd _ hki hb hrs hl2=>
   have hb0:(b==0)=false:=by have:=hb.lo;simp;omega
   have hb00:¬b=0:=by have:=hb.lo;omega
   have hke:nd.kids.isEmpty=false:=by cases hq:nd.kids with|nil=>rw[hq] at hki;simp at hki|cons a b=>rfl
   have hnk:=hb.fits.nk
   have hkk:=hb.fits.kk
   have hd40:(d:Int)<=40:=by omega
   have HL2:=ah hl2;clear hl2
   generalize hP:iV nd.keys key=P at hki HL2
   have HP:=ah hP;clear hP
   have hpw:IntKind.i64.wrap ((d:Int)+1)=(d:Int)+1:=aG _ (by omega)
   have HKK:=ah hkk;clear hkk
   go_wp2_with (first
    |(go_at_call 93;go_must ((refine(mU t mp root 0 b d σ S nd _ hIr htr hb hd40).mono ?_);rintro e w1 ⟨nb,rfl,hn1,hb1⟩))
    |(go_at_call 121;go_must ((refine(jQ nb nd _ S hn1.jT).mono ?_);rintro e w2 ⟨rfl,hw⟩;subst w2;rw[hke])))
   have hN1:=hn1.jT
   obtain⟨_,x0,x1,x2,hbn,_,_,hx2⟩:=hN1
   obtain⟨_,_,e2,_,_,_,hlt3⟩:=cells3 hbn
   obtain⟨ao2,cp2,rfl,m0,m1,_,_⟩:=aX.form hx2
   obtain⟨pb,po,rfl,d2⟩:=hx2.at rfl P hki
   have hpb:=aD w1 _ d2
   have hPi:(P:Int)<(nd.kids.length:Int):=by omega
   have hKid:=(FI nb nd key w1.drew S (hn1.jT.below ((aR _ w1).drew)) hrs (by rw[HKK.out];omega))
   rw[HP.out] at hKid
   have HKid:=ah hKid;clear hKid
   refine aP (fun W=>Below w1.heap.size w1 W) (fun i=> !([6].contains i)) [0,1,2,3,4,5,6,7,8,9] rfl (by kernel_rfl) ((aR _ w1).drew) ?_
   repeat ((refine bP (v:= ?_) rfl rfl (fun _ _ _ h=>h) rfl (fun W hW=> ?_) ?_);rotate_left;(focus ((try dsimp only at hW);have q0:=(hW.cell (p:=⟨nb,2,none⟩) hlt3).trans e2;have q1:=ak hlt3 hW.size;have q2:=(hW.cell (p:=⟨pb,po+P,none⟩) hpb).trans d2;have q3:=ak hpb hW.size;first|(go_simp;first|done|with_reducible rfl)));(try simp only[Act.put,ai,ax,au]))
   refine dK rfl rfl rfl ?_;intro K hK;go_simp
   refine HKid.out.mono ?_;rintro e w4 ⟨rfl,hb4⟩
   have hb4':Below w1.heap.size w1 w4:=((aR _ w1).drew).trans hb4
   refine hK.out _ _ hb4' ?_
   repeat ((refine bP (v:= ?_) rfl rfl (fun _ _ _ h=>h) rfl (fun W hW=> ?_) ?_);rotate_left;(focus ((try dsimp only at hW);have q0:=(hW.cell (p:=⟨nb,2,none⟩) hlt3).trans e2;have q1:=ak hlt3 hW.size;have q2:=(hW.cell (p:=⟨pb,po+P,none⟩) hpb).trans d2;have q3:=ak hpb hW.size;first|(go_simp;first|done|with_reducible rfl)));(try simp only[Act.put,ai,ax,au]))
   refine bS ?_
   go_wp2_with fail
   go_roundw
   case rel=>exact⟨nd.kids[P],d+1,m,rfl,by go_num,HL2.out,by omega,hbel.trans ((hb1.mono hbel.size).trans (hb4'.mono (aK hbel.size hb1.size)))⟩
   case measure=>simp[intOf];omega
structure Acc (w:World)(S:Nat->Prop)(B ob mb:Nat)(v:Value)(O:List Pr)(most:Int):Prop where
 out:w.heap[ob]? =some (.cells #[v] 52 (0,0))
 own:aQ w S B 103 2 v O.length (dO O)
 mst:w.heap[mb]? =some (.cells #[.int .i64 most] 3 (0,0))
 nob:¬S ob
 nmb:¬S mb
def om (ob:Nat)(v v':Value)(w w':World):Prop:=Keep (fun g=>g=ob\/v.ownBlock=some g) w w'/\∀g,v'.ownBlock=some g->v.ownBlock=some g\/w.heap.size<=g
theorem om.refl (ob:Nat)(v:Value)(w:World):om ob v v w w:=⟨Keep.refl _ _,fun _ h=> .inl h⟩
theorem om.trans {ob:Nat}{v v' v'':Value}{a b c:World}(h:om ob v v' a b)(k:om ob v' v'' b c):om ob v v'' a c:=
 ⟨h.1.trans k.1 (fun i hi x=>x.elim .inl (fun y=>(h.2 i y).elim .inr (fun z=>absurd hi (bq.2 z)))),
  fun g hg=>(k.2 g hg).elim (fun x=>h.2 g x) (fun x=> .inr (aK h.1.size x))⟩
theorem om.below {ob:Nat}{v:Value}{w w':World}(h:Below w.heap.size w w'):om ob v v w w':=⟨Keep.of_below h _,fun _ h=> .inl h⟩
theorem Acc.below {w w':World}{S:Nat->Prop}{B ob mb:Nat}{v:Value}{O:List Pr}{most:Int}(h:Acc w S B ob mb v O most)(hb:Below w.heap.size w w'):Acc w' S B ob mb v O most:=
 ⟨(hb.block _ (aj.1 h.out).1).trans h.out,h.own.below hb,(hb.block _ (aj.1 h.mst).1).trans h.mst,h.nob,h.nmb⟩
theorem Mv (B ob mb:Nat)(v:Value)(O:List Pr)(most:Int)(p:Pr)(S:Nat->Prop)(w:World)(hsub:∀g,S g->g<w.heap.size)(h:Acc w S B ob mb v O most)(hB:B<=w.heap.size)(hl:O.length<=999999):
  Calls Tryz.prog 95 #[.agg #[.string p.1,.string p.2],.pointer (some ⟨ob,0,none⟩),.pointer (some ⟨mb,0,none⟩)] w fun e w'=>e= .returned (.bool (decide (((O.length+1:Nat):Int)<most)))/\∃v',Acc w' S B ob mb v' (O++[p]) most/\om ob v v' w w':=by
 have hbw:=ic w (.cells #[.string p.1,.string p.2] 103) (.cells #[.string p.1,.string p.2] 103)
 obtain⟨o1,o2,o3,o4,o5⟩:=h
 have hol:=(aj.1 o1).1
 have hml:=(aj.1 o3).1
 have c0:w.cell? ⟨ob,0,none⟩=some v:=by simp[World.cell?,o1]
 have c1:w.cell? ⟨mb,0,none⟩=some (.int .i64 most):=by simp[World.cell?,o3]
 have f0:w.frozen? ⟨ob,0,none⟩=false:=by simp[World.frozen?,o1]
 obtain⟨ao0,cp0,rfl,n0,m0,_,_⟩:=o2.dm.form
 go_enter Tryz.func95,Tryz.ntmps95
 have hsrc:=gu (P:=Tryz.prog) (w:=w.alloc (.cells #[.string p.1,.string p.2] 103)) [.string p.1,.string p.2] 103 2 1 1 (tx:=52) (aS _ _) bT rfl (by intro u hu;simp at hu;rcases hu with rfl|rfl<;>rfl)
 have hsub2:∀g,S g->g<((w.alloc (.cells #[.string p.1,.string p.2] 103)).alloc (.cells #[.string p.1,.string p.2] 103)).heap.size:=fun g hg=>ak (hsub g hg) hbw.size
 have hOl:O.length<=999999:=hl
 go_wp2_with (first
  |(at_builtin;go_must ((refine cK rfl (.tmp 5) (.tmp 7) 52 52 rfl S B 103 2 32 _ bT jl rfl (.slice ao0 O.length cp0) O.length (dO O) rfl (o2.below hbw) (.slice (some ⟨w.heap.size+1,0,none⟩) 1 1) 1 [.string p.1,.string p.2] rfl hsrc hsub2 (aK hB hbw.size) ?_ ?_ ?_);(focus (simp only[maxLen];omega));(focus omega);intro ao1 cp1 w3 hown3 hk3 hb3 hd3;refine Stop.of ?_)))
 have hno:(Value.slice ao0 O.length cp0).ownBlock≠some ob:=o2.ne o1 (by decide)
 have hnm:(Value.slice ao0 O.length cp0).ownBlock≠some mb:=o2.ne o3 (by decide)
 have o1':=(hk3.block ob (ak hol hbw.size) hno).trans ((hbw.block ob hol).trans o1)
 have o3':=(hk3.block mb (ak hml hbw.size) hnm).trans ((hbw.block mb hml).trans o3)
 have hobm:ob≠mb:=fun e=>by rw[e] at o1;rw[o1] at o3;cases o3
 have d0:w3.cell? ⟨ob,0,none⟩=some (.slice ao0 O.length cp0):=by simp[World.cell?,o1']
 have d1:w3.cell? ⟨mb,0,none⟩=some (.int .i64 most):=by simp[World.cell?,o3']
 have d2:w3.frozen? ⟨ob,0,none⟩=false:=by simp[World.frozen?,o1']
 have hol3:=(aj.1 o1').1
 have hml3:=(aj.1 o3').1
 have hk4:Keep (· =ob) w3 (w3.setCell ⟨ob,0,none⟩ (.slice ao1 (O.length+1) cp1)):=Keep.setCell (M:=(· =ob)) (p:=⟨ob,0,none⟩) (Keep.refl _ _) (.inr rfl) _
 have o14:(w3.setCell ⟨ob,0,none⟩ (.slice ao1 (O.length+1) cp1)).heap[ob]? =some (.cells #[.slice ao1 (O.length+1) cp1] 52 (0,0)):=by simp[World.setCell,bn,o1']
 have o34:=(hk4.block mb hml3 (fun e=>hobm e.symm)).trans o3'
 have e0:(w3.setCell ⟨ob,0,none⟩ (.slice ao1 (O.length+1) cp1)).cell? ⟨ob,0,none⟩=some (.slice ao1 (O.length+1) cp1):=by simp[World.cell?,o14]
 have e1:(w3.setCell ⟨ob,0,none⟩ (.slice ao1 (O.length+1) cp1)).cell? ⟨mb,0,none⟩=some (.int .i64 most):=by simp[World.cell?,o34]
 have hown4:=hown3.keep (w':=w3.setCell ⟨ob,0,none⟩ (.slice ao1 (O.length+1) cp1)) (S':=S) (fun g hg hl hs=>⟨hk4.block g hl (fun e=>hown3.ne o1' (by decide) (by rw[hg,e])),hs⟩)
 refine Stop.on ?_
 go_wp2_with fail
 go_ret
 refine⟨by simp,.slice ao1 (O.length+1) cp1,⟨o14,?_,o34,o4,o5⟩,⟨?_,fun g hg=> ?_⟩⟩
 ·rw[ay,iU];exact hown4
 ·exact((Keep.of_below hbw _).trans (hk3.mono (fun _ _ h=> .inr h)) (fun _ _ h=>h)).trans hk4 (fun _ _ h=> .inl h)
 ·by_cases hgl:g<w.heap.size
  ·by_cases hv:(Value.slice ao0 O.length cp0).ownBlock=some g
   ·exact .inl hv
   ·exact absurd hg (hd3 g (ak hgl hbw.size) hv)
  ·exact .inr (bq.1 hgl)
inductive vS (σ:bZ)(key:ByteArray):Nat->Int->List Pr->Prop
 |leaf {n b nd}:Bl σ b nd->nd.kids=[]->gD nd.pairs->vS σ key n b (nd.pairs.drop (cO nd.pairs key))
 |inner {n b nd} (Ls:List (List Pr)):Bl σ b nd->nd.kids≠[]->vT nd.keys->Ls.length=(nd.kids.drop (iV nd.keys key)).length->(∀i (h:i<(nd.kids.drop (iV nd.keys key)).length) (h':i<Ls.length),vS σ key n (nd.kids.drop (iV nd.keys key))[i] Ls[i])->vS σ key (n+1) b Ls.flatten
def vR (S:Nat->Prop)(B ob mb:Nat)(v:Value)(O L:List Pr)(most:Int)(w:World)(e:Ending)(w':World):Prop:=
 e= .returned (.tuple #[.bool (decide (((O.length+L.length:Nat):Int)<most)),.int .i64 0])/\∃v',Acc w' S B ob mb v' (O++L.take (most - O.length).toNat) most/\om ob v v' w w'
theorem Jl {w:World}{S:Nat->Prop}{k n c:Nat}{ao:Option Addr}{xs:List Value}(h:aX w S k (.slice ao n c) n xs)(i:Nat)(hi:i<=n):∃ao',(if c=i then ao else ao.map fun x=>x.add (i*k))=ao'/\aX w S k (.slice ao' (n - i) (c - i)) (n - i) (xs.drop (i*k)):=⟨_,rfl,aX.after h i hi⟩
theorem D5 (t:Nat)(mp:VS)(B ob mb:Nat)(root err b deep:Int)(σ:bZ)(S:Nat->Prop)(key:ByteArray)(v:Value)(O:List Pr)(most:Int)(nd:Nd)(w:World)(h:Inv σ S mp w)(ht:dG w t mp root err)(hb:Bl σ b nd)(hk:nd.kids=[])(hr:gD nd.pairs)(hd:deep<=40)
  (hA:Acc w S B ob mb v O most) (hB:B<=w.heap.size) (hO:(O.length:Int)<most) (hl:O.length+(nd.pairs.drop (cO nd.pairs key)).length<=999999):
  Calls Tryz.prog 94 #[.pointer (some ⟨t,0,none⟩),.int .i64 b,.int .i64 deep,.string key,.func (.func 95) #[] #[.pointer (some ⟨ob,0,none⟩),.pointer (some ⟨mb,0,none⟩)]] w (vR S B ob mb v O (nd.pairs.drop (cO nd.pairs key)) most w):=by
 have hke:nd.kids.isEmpty=true:=by rw[hk];rfl
 have hnp:=hb.fits.np
 have hp:=pU nd.pairs key
 generalize hP:cO nd.pairs key=P at hp hl
 have HP:=ah hP;clear hP
 have hsub:=h.sub
 go_enter Tryz.func94,Tryz.ntmps94
 go_wp2_with (first
  |(go_at_call 93;go_must ((refine(mU t mp root err b deep σ S nd _ h ht hb hd).mono ?_);rintro e w1 ⟨nb,rfl,hn1,hb1⟩))
  |(go_at_call 121;go_must ((refine(jQ nb nd _ S hn1.jT).mono ?_);rintro e w2 ⟨rfl,hw⟩;subst w2;rw[hke]))
  |(go_at_call 113;go_must ((refine(vE nb nd key _ S hn1.jT hr (by omega)).mono ?_);rw[HP.out];rintro e w3 ⟨rfl,hb3⟩;refine Stop.of ?_)))
 obtain⟨_,hnB,x0,x1,x2,hbn,hx0,_,_⟩:=hn1.step (Step.of_below hb3)
 obtain⟨e0,_,_,_,_,_,hlt3⟩:=cells3 hbn
 obtain⟨ao0,cp0,rfl,m0,m1,_,_⟩:=aX.form hx0.dm
 obtain⟨ao',ha1,ha2⟩:=Jl hx0.dm P hp
 generalize hD:nd.pairs.drop P=D at hl
 have hDl:D.length=nd.pairs.length - P:=by rw[<-hD,aN]
 have hDs:jH w3 S (.slice ao' (nd.pairs.length - P) (cp0 - P)) D:=by
  unfold jH;rw[hDl,<-hD,tF];exact ha2
 have hblk:∀g o,ao'=some ⟨g,o,none⟩->w.heap.size<=g:=by
  intro g o e
  have:∃o',ao0=some ⟨g,o',none⟩:=by
   rw[e] at ha1
   split at ha1
   ·exact⟨o,ha1⟩
   ·rcases hx0.1.2 with ⟨e1,_⟩|⟨g',cap,cur,e1,_⟩
    ·have e2:ao0=none:=by injection e1
     rw[e2] at ha1;cases ha1
    ·have e2:ao0=some ⟨g',0,none⟩:=by injection e1
     rw[e2,iB,dY] at ha1;cases ha1;exact⟨_,e2⟩
  obtain⟨o',rfl⟩:=this
  exact hx0.lo g rfl
 have hvl:∀g,v.ownBlock=some g->g<w.heap.size:=fun g hg=>gI.1 (fun hh=>hA.own.lt' hh hg)
 have hobl:ob<w.heap.size:=(aj.1 hA.out).1
 have hb3w:Below w.heap.size w w3:=hb1.trans (hb3.mono hb1.size)
 have HDs:=ah hDs;clear hDs ha2
 have HDl:=ah hDl
 have HD:=ah hD;clear hD
 have HA3:=ah (hA.below hb3w)
 have HY0:om ob v v w w3:=om.below hb3w
 have hsub3:∀g,S g->g<w3.heap.size:=fun g hg=>ak (hsub g hg) hb3w.size
 have hB3:B<=w3.heap.size:=aK hB hb3w.size
 have hBl:∀g,v.ownBlock=some g->B<=g:=hA.own.lo
 have hO2:=ah hO;clear hO
 clear hDl
 refine Stop.on ?_
 go_wp2_with fail
 go_loopw [17,47] (fun _ i wr=>∃(k:Nat) (vk:Value),k<=nd.pairs.length - P/\i= .int .i64 k/\Acc wr S B ob mb vk (O++D.take k) most/\((O.length+k:Nat):Int)<most/\om ob v vk w3 wr) (fun _ i _=>(nd.pairs.length - P) - (intOf i).toNat)
 case atStart=>exact⟨0,v,aT _,rfl,by rw[iD,dJ];exact HA3.out,by rw[iw];exact hO2.out,om.refl _ _ _⟩
 case round=>
  obtain⟨k,vk,hkn,rfl,hAk,hOk,hY⟩:=hrel
  by_cases hlt:k<nd.pairs.length - P
  ·have hkD:k<D.length:=by rw[HDl.out];exact hlt
   obtain⟨pb,po,rfl,d1,d2⟩:=HDs.out.at rfl k hkD
   have hpw:w.heap.size<=pb:=hblk pb po rfl
   have hpb3:=aD w3 _ d1
   have hnM:¬(pb=ob\/v.ownBlock=some pb):=fun x=>x.elim (fun e=>by omega) (fun e=>by have:=hvl _ e;omega)
   have g1:=(hY.1.cell (p:=⟨pb,po+k*2,none⟩) hpb3 hnM).trans d1
   have g2:=(hY.1.cell (p:=⟨pb,po+k*2+1,none⟩) hpb3 hnM).trans d2
   have hpbr:=ak hpb3 hY.1.size
   have hbn':=aO wr (.cells #[.string D[k].1,.string D[k].2] 103)
   have hy:=Mv B ob mb vk (O++D.take k) most D[k] S (wr.alloc (.cells #[.string D[k].1,.string D[k].2] 103)) (fun g hg=>ak (hsub3 g hg) (aK hY.1.size hbn'.size)) (hAk.below hbn') (aK hB3 (aK hY.1.size hbn'.size)) (by rw[ay,aH];omega)
   rw[show (O++D.take k).length+1=O.length+(k+1) from by rw[ay,aH];omega,show O++D.take k++[D[k]]=O++D.take (k+1) from by rw[aM hkD,aL]] at hy
   have hY1:om ob vk vk wr (wr.alloc (.cells #[.string D[k].1,.string D[k].2] 103)):=om.below hbn'
   have Hy:=ah hy;clear hy
   clear d1 d2
   by_cases hmo:((O.length+(k+1):Nat):Int)<most
   ·have hmo':=dZ hmo
    have Hmo:=ah hmo';clear hmo'
    go_wp2_with ((refine Hy.out.mono ?_);rw[Hmo.out];rintro e w4 ⟨rfl,v4,hA4,hY4⟩)
    go_roundw
    case rel=>exact⟨k+1,v4,hlt,by go_num,hA4,hmo,(hY.trans hY1).trans hY4⟩
    case measure=>simp[intOf];omega
   ·have hmo':=bQ hmo
    have Hmo:=ah hmo';clear hmo'
    go_wp2_with ((refine Hy.out.mono ?_);rw[Hmo.out];rintro e w4 ⟨rfl,v4,hA4,hY4⟩)
    go_ret2
    have hDlen:=HDl.out
    rw[HD.out]
    refine⟨by rw[bQ (by omega)];rfl,v4,?_,HY0.trans ((hY.trans hY1).trans hY4)⟩
    rw[show (most - (O.length:Int)).toNat=k+1 from by omega]
    exact hA4
  ·obtain rfl:k=nd.pairs.length - P:=by omega
   go_wp2_with fail
   go_ret2
   have hDlen:=HDl.out
   rw[HD.out]
   refine⟨by rw[dZ (by omega)];rfl,vk,?_,HY0.trans hY⟩
   rw[aJ (by omega)]
   rw[aJ (by omega)] at hAk
   exact hAk
def QF (t:Nat)(mp:VS)(B ob mb:Nat)(root err:Int)(σ:bZ)(S:Nat->Prop)(key:ByteArray)(most:Int)(m:Nat):Prop:=
 ∀(b:Int) (L:List Pr),vS σ key m b L->∀(deep:Int) (v:Value) (O:List Pr) (w:World),Inv σ S mp w->dG w t mp root err->deep+m<=40->0<=deep->Acc w S B ob mb v O most->B<=w.heap.size->(O.length:Int)<most->O.length+L.length<=999999->
  Calls Tryz.prog 94 #[.pointer (some ⟨t,0,none⟩),.int .i64 b,.int .i64 deep,.string key,.func (.func 95) #[] #[.pointer (some ⟨ob,0,none⟩),.pointer (some ⟨mb,0,none⟩)]] w (vR S B ob mb v O L most w)
theorem EB (Ls:List (List Pr))(j:Nat)(h:j<Ls.length):(Ls.take (j+1)).flatten=(Ls.take j).flatten++Ls[j]:=by
 rw[aM h,Oq,Td,List.flatten_nil,dJ]
theorem Qi (Ls:List (List Pr))(j:Nat):(Ls.take j).flatten.length<=Ls.flatten.length:=by
 have:=congrArg (fun l=>(List.flatten l).length) (bJ j Ls)
 simp only[Oq,ay] at this
 omega
theorem Qj (Ls:List (List Pr))(j m:Nat)(h:j<Ls.length)(h1:(Ls.take j).flatten.length<=m)(h2:m<=(Ls.take (j+1)).flatten.length):Ls.flatten.take m=(Ls.take j).flatten++Ls[j].take (m - (Ls.take j).flatten.length):=by
 have e:Ls.flatten=(Ls.take (j+1)).flatten++(Ls.drop (j+1)).flatten:=by rw[<-Oq,bJ]
 rw[e,bK h2,EB _ _ h,wY,aJ h1]
theorem JF (t:Nat)(mp:VS)(B ob mb:Nat)(root err b deep:Int)(σ:bZ)(S:Nat->Prop)(key:ByteArray)(v:Value)(O:List Pr)(most:Int)(m:Nat)(IH:QF t mp B ob mb root err σ S key most m)(nd:Nd)(Ls:List (List Pr))(w:World)(h:Inv σ S mp w)(ht:dG w t mp root err)(hb:Bl σ b nd)(hk:nd.kids≠[])(hr:vT nd.keys)
  (hLs:Ls.length=(nd.kids.drop (iV nd.keys key)).length) (hW:∀i (h:i<(nd.kids.drop (iV nd.keys key)).length) (h':i<Ls.length),vS σ key m (nd.kids.drop (iV nd.keys key))[i] Ls[i]) (hd:deep+(m+1:Nat)<=40) (hd0:0<=deep)
  (hA:Acc w S B ob mb v O most) (hB:B<=w.heap.size) (hO:(O.length:Int)<most) (hl:O.length+Ls.flatten.length<=999999):
  Calls Tryz.prog 94 #[.pointer (some ⟨t,0,none⟩),.int .i64 b,.int .i64 deep,.string key,.func (.func 95) #[] #[.pointer (some ⟨ob,0,none⟩),.pointer (some ⟨mb,0,none⟩)]] w (vR S B ob mb v O Ls.flatten most w):=by
 have hke:nd.kids.isEmpty=false:=by cases hq:nd.kids with|nil=>exact absurd hq hk|cons a b=>rfl
 have hnk:=hb.fits.nk
 have hkk:=hb.fits.kk
 have hp:iV nd.keys key<=nd.kids.length:=by have:=Cu nd.keys key;omega
 generalize hP:iV nd.keys key=P at hp hW hLs
 have HP:=ah hP;clear hP
 have HKK:=ah hkk;clear hkk
 have hsub:=h.sub
 have hd40:deep<=40:=by omega
 have HIH:=ah IH;clear IH
 have HW:=ah hW;clear hW
 have HO:=ah hO;clear hO
 go_enter Tryz.func94,Tryz.ntmps94
 go_wp2_with (first
  |(go_at_call 93;go_must ((refine(mU t mp root err b deep σ S nd _ h ht hb hd40).mono ?_);rintro e w1 ⟨nb,rfl,hn1,hb1⟩))
  |(go_at_call 121;go_must ((refine(jQ nb nd _ S hn1.jT).mono ?_);rintro e w2 ⟨rfl,hw⟩;subst w2;rw[hke])))
 have hn1':=hn1
 obtain⟨_,hnB,x0,x1,x2,hbn,_,_,hx2⟩:=hn1'
 obtain⟨_,_,e2,_,_,_,hlt1⟩:=cells3 hbn
 obtain⟨ao0,cp0,rfl,m0,m1,_,_⟩:=aX.form hx2.dm
 obtain⟨ao',ha1,ha2⟩:=Jl hx2.dm P hp
 simp only[aU] at ha1
 have hblk:∀g o,ao'=some ⟨g,o,none⟩->w.heap.size<=g:=by
  intro g o e
  have:∃o',ao0=some ⟨g,o',none⟩:=by
   rw[e] at ha1
   split at ha1
   ·exact⟨o,ha1⟩
   ·rcases hx2.1.2 with ⟨e1,_⟩|⟨g',cap,cur,e1,_⟩
    ·have e2:ao0=none:=by injection e1
     rw[e2] at ha1;cases ha1
    ·have e2:ao0=some ⟨g',0,none⟩:=by injection e1
     rw[e2,iB,dY] at ha1;cases ha1;exact⟨_,e2⟩
  obtain⟨o',rfl⟩:=this
  exact hx2.lo g rfl
 have hD0:(nd.kids.drop P).length=nd.kids.length - P:=aN
 have hDs1:jJ w1 S (.slice ao' (nd.kids.length - P) (cp0 - P)) (nd.kids.drop P):=by
  unfold jJ;rw[hD0,fO];rw[aU] at ha2;exact ha2
 have HDl:=ah hD0;clear hD0 ha2
 have HLs:=ah hLs;clear hLs
 have HDs1:=ah hDs1;clear hDs1
 have hKid:=(FI nb nd key w1.drew S (hn1.jT.below ((aR _ w1).drew)) hr (by rw[HKK.out];omega))
 rw[HP.out] at hKid
 have HKid:=ah hKid;clear hKid
 have hPi:(P:Int)<=(nd.kids.length:Int):=by omega
 refine aP (fun W=>Below w1.heap.size w1 W) (fun i=> !([6].contains i)) [0,1,2,3,4,5,9,6,7,8] rfl (by kernel_rfl) ((aR _ w1).drew) ?_
 repeat ((refine bP (v:= ?_) rfl rfl (fun _ _ _ h=>h) rfl (fun W hW=> ?_) ?_);rotate_left;(focus ((try dsimp only at hW);have q0:=(hW.cell (p:=⟨nb,2,none⟩) hlt1).trans e2;have q1:=ak hlt1 hW.size;first|(go_simp;first|done|with_reducible rfl)));(try simp only[Act.put,ai,ax,au]))
 refine dK rfl rfl rfl ?_;intro K hK;go_simp
 refine HKid.out.mono ?_;rintro e w4 ⟨rfl,hb4⟩
 have hb4':Below w1.heap.size w1 w4:=((aR _ w1).drew).trans hb4
 refine hK.out _ _ hb4' ?_
 repeat ((refine bP (v:= ?_) rfl rfl (fun _ _ _ h=>h) rfl (fun W hW=> ?_) ?_);rotate_left;(focus ((try dsimp only at hW);have q0:=(hW.cell (p:=⟨nb,2,none⟩) hlt1).trans e2;have q1:=ak hlt1 hW.size;first|(go_simp;first|done|with_reducible rfl)));(try simp only[Act.put,ai,ax,au]))
 refine bS ?_
 have hb4w:Below w.heap.size w w4:=hb1.trans (hb4'.mono hb1.size)
 have hDs:jJ w4 S (.slice ao' (nd.kids.length - P) (cp0 - P)) (nd.kids.drop P):=aX.below HDs1.out hb4'
 have HDs:=ah hDs;clear hDs
 have hvl:∀g,v.ownBlock=some g->g<w.heap.size:=fun g hg=>gI.1 (fun hh=>hA.own.lt' hh hg)
 have hvS:∀g,v.ownBlock=some g->¬S g:=hA.own.2
 have hobS:=hA.nob
 have hobl:ob<w.heap.size:=(aj.1 hA.out).1
 have hI4:=h.below hb4w
 have htl:t<w.heap.size:=(aj.1 ht).1
 have ht4:dG w4 t mp root err:=(hb4w.block t htl).trans ht
 have hto:t≠ob:=fun e=>by have h1:=hA.out;rw[<-e,ht] at h1;cases h1
 have htv:v.ownBlock≠some t:=hA.own.ne ht (by decide)
 have HA4:=ah (hA.below hb4w)
 have HY0:om ob v v w w4:=om.below hb4w
 have hB4:B<=w4.heap.size:=aK hB hb4w.size
 have hfl:=Qi Ls
 have Hfl:=ah hfl;clear hfl
 have hdw:IntKind.i64.wrap (deep+1)=deep+1:=aG _ (by omega)
 clear hb4 hA hPi
 go_wp2_with fail
 go_loopw [19,20,21,65] (fun _ _ _ i wr=>∃(k:Nat) (vk:Value),k<=nd.kids.length - P/\i= .int .i64 k/\Acc wr S B ob mb vk (O++(Ls.take k).flatten) most/\((O.length+(Ls.take k).flatten.length:Nat):Int)<most/\om ob v vk w4 wr) (fun _ _ _ i _=>(nd.kids.length - P) - (intOf i).toNat)
 case atStart=>exact⟨0,v,aT _,rfl,by simpa using HA4.out,by simpa using HO.out,om.refl _ _ _⟩
 case round=>
  obtain⟨k,vk,hkn,rfl,hAk,hOk,hY⟩:=hrel
  have hIr:Inv σ S mp wr:=hI4.mW hY.1 (fun g hg x=>x.elim (fun e=>hobS (by rw[<-e];exact hg)) (fun e=>hvS g e hg))
  have htr:dG wr t mp root err:=(hY.1.block t (ak htl hb4w.size) (fun x=>x.elim hto htv)).trans ht4
  have hBr:B<=wr.heap.size:=aK hB4 hY.1.size
  by_cases hlt:k<nd.kids.length - P
  ·have hkD:k<(nd.kids.drop P).length:=by rw[HDl.out];exact hlt
   have hkL:k<Ls.length:=by rw[HLs.out];exact hkD
   obtain⟨pb,po,rfl,d1⟩:=HDs.out.at rfl k hkD
   have hpw:w.heap.size<=pb:=hblk pb po rfl
   have hpb4:=aD w4 _ d1
   have hnM:¬(pb=ob\/v.ownBlock=some pb):=fun x=>x.elim (fun e=>by omega) (fun e=>by have:=hvl _ e;omega)
   have g1:=(hY.1.cell (p:=⟨pb,po+k,none⟩) hpb4 hnM).trans d1
   have hpbr:=ak hpb4 hY.1.size
   have hft:=EB Ls k hkL
   have hlen:(Ls.take (k+1)).flatten.length=(Ls.take k).flatten.length+Ls[k].length:=by rw[hft,ay]
   have hmax:=Hfl.out (k+1)
   have hy:=HIH.out _ _ (HW.out k hkD hkL) (deep+1) vk (O++(Ls.take k).flatten) wr hIr htr (by omega) (by omega) hAk hBr (by rw[ay];exact hOk) (by rw[ay];omega)
   have Hft:=ah hft;clear hft
   have Hlen:=ah hlen;clear hlen
   have Hmax:=ah hmax;clear hmax
   have Hy:=ah hy;clear hy
   generalize hkid:(nd.kids.drop P)[k]=kd at*
   have Hkid:=ah hkid;clear hkid d1
   by_cases hmo:(((O++(Ls.take k).flatten).length+Ls[k].length:Nat):Int)<most
   ·have Hmo:=ah (dZ hmo)
    have Hmo2:=ah hmo;clear hmo
    go_wp2_with ((refine Hy.out.mono ?_);unfold vR;rw[Hmo.out];rintro e w5 ⟨rfl,v5,hA5,hY5⟩)
    go_roundw
    case rel=>
     have hmo:=Hmo2.out
     have hlen:=Hlen.out
     rw[ay] at hmo
     refine⟨k+1,v5,hlt,by go_num,?_,by omega,hY.trans hY5⟩
     rw[ay,aJ (l:=Ls[k]) (by omega),aL,<-Hft.out] at hA5
     exact hA5
    case measure=>simp[intOf];omega
   ·have Hmo:=ah (bQ hmo)
    have Hmo2:=ah hmo;clear hmo
    go_wp2_with ((refine Hy.out.mono ?_);unfold vR;rw[Hmo.out];rintro e w5 ⟨rfl,v5,hA5,hY5⟩)
    go_ret2
    have hmo:=Hmo2.out
    have hlen:=Hlen.out
    have hmax:=Hmax.out
    rw[ay] at hmo
    refine⟨by rw[bQ (by omega)];rfl,v5,?_,HY0.trans (hY.trans hY5)⟩
    rw[Qj Ls k _ hkL (by omega) (by omega),<-aL]
    rw[show (most - (O.length:Int)).toNat - (Ls.take k).flatten.length=(most - ((O++(Ls.take k).flatten).length:Nat)).toNat from by rw[ay];omega]
    exact hA5
  ·obtain rfl:k=nd.kids.length - P:=by omega
   go_wp2_with fail
   go_ret2
   have hall:Ls.take (nd.kids.length - P)=Ls:=aJ (by rw[HLs.out,HDl.out];exact aC _)
   rw[hall] at hAk hOk
   refine⟨by rw[dZ hOk];rfl,vk,?_,HY0.trans hY⟩
   rw[aJ (l:=Ls.flatten) (by omega)]
   exact hAk
theorem OD (t:Nat)(mp:VS)(B ob mb:Nat)(root err:Int)(σ:bZ)(S:Nat->Prop)(key:ByteArray)(most:Int):∀m,QF t mp B ob mb root err σ S key most m:=by
 intro m
 induction m with
 |zero=>
  intro b L hL deep v O w h ht hd hd0 hA hB hO hl
  cases hL with
  |leaf hb hk hr=>exact D5 t mp B ob mb root err b deep σ S key v O most _ w h ht hb hk hr (by omega) hA hB hO hl
 |succ m ih=>
  intro b L hL deep v O w h ht hd hd0 hA hB hO hl
  cases hL with
  |leaf hb hk hr=>exact D5 t mp B ob mb root err b deep σ S key v O most _ w h ht hb hk hr (by omega) hA hB hO hl
  |inner Ls hb hk hr hLs hW=>exact JF t mp B ob mb root err b deep σ S key v O most m ih _ Ls w h ht hb hk hr hLs hW hd hd0 hA hB hO hl
theorem Ec (t:Nat)(mp:VS)(root:Int)(key:ByteArray)(most:Int)(w:World)(ht:dG w t mp root 0)(h0:root=0\/most<=0):
  Calls Tryz.prog 47 #[.pointer (some ⟨t,0,none⟩),.string key,.int .i64 most] w fun e w'=>e= .returned (.tuple #[.slice none 0 0,.int .i64 0])/\Below w.heap.size w w':=by
 have hbm:=aO w (.cells #[.int .i64 most] 3)
 have htl:t<w.heap.size:=(aj.1 ht).1
 have ht1:=(hbm.block t htl).trans ht
 have hb2:=ic w (.cells #[.int .i64 most] 3) (.cells #[.slice none 0 0] 52)
 obtain⟨_,c1,_,_,_,_,hl2⟩:=cells3 ((hb2.block t htl).trans ht)
 have d1:=(aO (w.alloc (.cells #[.int .i64 most] 3)) (.cells #[.slice none 0 0] 52)).cell (p:=⟨w.heap.size,0,none⟩) (by simp)
 rw[show (w.alloc (.cells #[.int .i64 most] 3)).cell? ⟨w.heap.size,0,none⟩=some (.int .i64 most) from by rw[qj];rfl] at d1
 go_enter Tryz.func47,Tryz.ntmps47
 by_cases hr:root=0
 ·subst hr
  go_wp2_with (first
   |(go_at_call 92;go_must ((refine(nT t mp 0 0 _ ht1).mono ?_);rintro e w1 ⟨rfl,hw⟩;subst w1)))
  go_ret2
  exact⟨rfl,hb2⟩
 ·have hm:most<=0:=h0.resolve_left hr
  have hr2:(root==0)=false:=by simpa using hr
  go_wp2_with (first
   |(go_at_call 92;go_must ((refine(nT t mp root 0 _ ht1).mono ?_);rintro e w1 ⟨rfl,hw⟩;subst w1)))
  go_ret2
  exact⟨rfl,hb2⟩
theorem O4 (t:Nat)(mp:VS)(root:Int)(σ:bZ)(S:Nat->Prop)(key:ByteArray)(most:Int)(L:List Pr)(n:Nat)(w:World)(h:Inv σ S mp w)(ht:dG w t mp root 0)(hr:root≠0)(hm:0<most)(hn:n<=40)(hL:vS σ key n root L)(hl:L.length<=999999):
  Calls Tryz.prog 47 #[.pointer (some ⟨t,0,none⟩),.string key,.int .i64 most] w fun e w'=>∃v,e= .returned (.tuple #[v,.int .i64 0])/\aQ w' S w.heap.size 103 2 v (L.take most.toNat).length (dO (L.take most.toNat))/\Below w.heap.size w w':=by
 have hbm:=aO w (.cells #[.int .i64 most] 3)
 have htl:t<w.heap.size:=(aj.1 ht).1
 have hsub:=h.sub
 have ht1:=(hbm.block t htl).trans ht
 have hb2:=ic w (.cells #[.int .i64 most] 3) (.cells #[.slice none 0 0] 52)
 obtain⟨_,c1,_,_,_,_,hl2⟩:=cells3 ((hb2.block t htl).trans ht)
 have d1:=(aO (w.alloc (.cells #[.int .i64 most] 3)) (.cells #[.slice none 0 0] 52)).cell (p:=⟨w.heap.size,0,none⟩) (by simp)
 rw[show (w.alloc (.cells #[.int .i64 most] 3)).cell? ⟨w.heap.size,0,none⟩=some (.int .i64 most) from by rw[qj];rfl] at d1
 have hr2:(root==0)=false:=by simpa using hr
 have hm2:¬most<=0:=by omega
 have hmf:∀(fn:Fn) (first cap:Array Value) (w:World),(Instr.makeFunc fn first cap).run Tryz.prog w= .ok (.func fn first cap) w:=fun _ _ _ _=>rfl
 have hA:Acc ((w.alloc (.cells #[.int .i64 most] 3)).alloc (.cells #[.slice none 0 0] 52)) S w.heap.size (w.heap.size+1) w.heap.size (.slice none 0 0) [] most:=by
  refine⟨?_,aQ.nil _ _ _ _ _,?_,fun x=>absurd (hsub _ x) (by omega),fun x=>absurd (hsub _ x) (dB _)⟩
  ·have:=bD (w.alloc (.cells #[.int .i64 most] 3)) (.cells #[.slice none 0 0] 52);rwa [aS] at this
  ·exact((aO (w.alloc (.cells #[.int .i64 most] 3)) (.cells #[.slice none 0 0] 52)).block _ (by simp)).trans (bD _ _)
 have hw:=OD t mp w.heap.size (w.heap.size+1) w.heap.size root 0 σ S key most n root L hL 0 (.slice none 0 0) [] _ (h.below hb2) ((hb2.block t htl).trans ht) (by omega) (by omega) hA hb2.size (by simpa using hm) (by simpa using hl)
 have HW:=ah hw;clear hw hA
 go_enter Tryz.func47,Tryz.ntmps47
 go_wp2_with (first
  |(go_at_call 92;go_must ((refine(nT t mp root 0 _ ht1).mono ?_);rintro e w1 ⟨rfl,hw⟩;subst w1))
  |(go_at_call 94;go_must (refine HW.out.mono ?_;rintro e w5 ⟨rfl,v,hA5,hY5⟩;have c5:w5.cell? ⟨w.heap.size+1,0,none⟩=some v:=(by simp[World.cell?,hA5.out]);have c6:=(aj.1 hA5.out).1)))
 go_ret2
 refine⟨v,rfl,?_,?_⟩
 ·have:=hA5.own
  rw[jq,show (most - (([]:List Pr).length:Int)).toNat=most.toNat from by simp] at this
  exact this
 ·exact hb2.trans (hY5.1.ku hb2.size (fun i hi x=>x.elim (fun e=>by omega) (fun e=>by simp[Value.ownBlock] at e)))
def EG (t:Nat)(mp:VS)(root:Int)(key:ByteArray)(g:Nat)(cb:Array Value)(σ:bZ)(S:Nat->Prop)(N:Prop)(P:bZ->Int->Prop)(W:World):Prop:=
 Calls Tryz.prog 111 #[.pointer (some ⟨t,0,none⟩),.int .i64 root,.int .i64 0,.string key,.string ⟨#[]⟩,.func (.func g) #[] cb] W fun e w1=>(∃v S1,e= .returned v/\Step S S1 W w1/\
  Calls Tryz.prog 110 #[.pointer (some ⟨t,0,none⟩),v] w1 fun e2 w2=>(∃b σ' S',e2= .returned (.int .i64 b)/\Inv σ' S' mp w2/\Step S1 S' w1 w2/\P σ' b)\/(N/\Dn mp σ S1 w1 e2 w2))\/(N/\Dn mp σ S W e w1)
def Gc (t:Nat)(mp:VS)(S:Nat->Prop)(P:bZ->Int->Prop)(w w':World):Prop:=
 ∃σ' S' b,Inv σ' S' mp w'/\dG w' t mp b 0/\¬S' t/\P σ' b/\Keep (fun g=>S g\/g=t) w w'/\∀g,S' g->S g\/w.heap.size<=g
def Di (t:Nat)(mp:VS)(root:Int)(σ:bZ)(S:Nat->Prop)(N:Prop)(w w':World):Prop:=
 N/\∃σ' S',Inv σ' S' mp w'/\dG w' t mp root 12/\¬S' t/\σ'.H=σ.H/\σ'.most=σ.most/\Keep (fun g=>S g\/g=t) w w'/\∀g,S' g->S g\/w.heap.size<=g
def Sk (mp:VS)(σ:bZ)(S:Nat->Prop)(N:Prop)(W w2:World):Prop:=N/\∃σ' S',Inv σ' S' mp w2/\Step S S' W w2/\σ'.H=σ.H/\σ'.most=σ.most
theorem SB.step {t:Nat}{mp:VS}{tb kb:Nat}{root err:Int}{key:ByteArray}{S S':Nat->Prop}{W W':World}(h:SB t mp root err tb kb key W)(hs:Step S S' W W')(h1:¬S t)(h2:¬S tb)(h3:¬S kb):SB t mp root err tb kb key W':=
 ⟨(hs.1.block _ (aj.1 h.tr).1 h1).trans h.tr,(hs.1.block _ (aj.1 h.bx).1 h2).trans h.bx,(hs.1.block _ (aj.1 h.ky).1 h3).trans h.ky⟩
theorem TP {t:Nat}{mp:VS}{tb kb g:Nat}{root:Int}{key:ByteArray}{cb:Array Value}{σ:bZ}{S:Nat->Prop}{N:Prop}{P:bZ->Int->Prop}{w W:World}(hEG:EG t mp root key g cb σ S N P W)(hsub:∀g,S g->g<w.heap.size)(hst:¬S t)(_hbW:Below w.heap.size w W)(htb:w.heap.size<=tb)(hkb:w.heap.size<=kb)(hSB:SB t mp root 0 tb kb key W):
  Calls Tryz.prog 111 #[.pointer (some ⟨t,0,none⟩),.int .i64 root,.int .i64 0,.string key,.string ⟨#[]⟩,.func (.func g) #[] cb] W fun e w1=>(∃v,e= .returned v/\SB t mp root 0 tb kb key w1/\
   Calls Tryz.prog 110 #[.pointer (some ⟨t,0,none⟩),v] w1 fun e2 w2=>(∃b,e2= .returned (.int .i64 b)/\SB t mp root 0 tb kb key w2/\(∀g,w.heap.size<=g->g<W.heap.size->w2.heap[g]? =W.heap[g]?)/\W.heap.size<=w2.heap.size/\(∃σ' S',Inv σ' S' mp w2/\Step S S' W w2/\P σ' b))\/
    (e2= .panicked (brk 12)/\SB t mp root 0 tb kb key w2/\(∀g,w.heap.size<=g->g<W.heap.size->w2.heap[g]? =W.heap[g]?)/\W.heap.size<=w2.heap.size/\Sk mp σ S N W w2))\/
   (e= .panicked (brk 12)/\SB t mp root 0 tb kb key w1/\(∀g,w.heap.size<=g->g<W.heap.size->w1.heap[g]? =W.heap[g]?)/\W.heap.size<=w1.heap.size/\Sk mp σ S N W w1):=by
 have hn:∀x,w.heap.size<=x->¬S x:=fun x hx hs=>absurd (hsub x hs) (bq.2 hx)
 refine hEG.mono ?_
 rintro e w1 (⟨v,S1,rfl,hs1,hG⟩|⟨hN,rfl,τ,Sτ,g1,g2,g3,g4⟩)
 ·have hS1:∀x,x<W.heap.size->¬S x->¬S1 x:=fun x hx hs h1=>(hs1.2 x h1).elim hs (fun y=>absurd hx (bq.2 y))
  have hl1:=(aj.1 hSB.tr).1
  have hl2:=(aj.1 hSB.bx).1
  have hl3:=(aj.1 hSB.ky).1
  have hfr:∀{S2:Nat->Prop} {w2:World},Step S1 S2 w1 w2->∀g,w.heap.size<=g->g<W.heap.size->w2.heap[g]? =W.heap[g]? :=fun hs2 g hg hl=>
   (hs2.1.block g (ak hl hs1.1.size) (hS1 g hl (hn g hg))).trans (hs1.1.block g hl (hn g hg))
  refine .inl ⟨v,rfl,hSB.step hs1 hst (hn _ htb) (hn _ hkb),hG.mono ?_⟩
  rintro e2 w2 (⟨b,σ',S',rfl,hI,hs2,hP⟩|⟨hN,rfl,τ,Sτ,g1,g2,g3,g4⟩)
  ·exact .inl ⟨b,rfl,(hSB.step hs1 hst (hn _ htb) (hn _ hkb)).step hs2 (hS1 _ hl1 hst) (hS1 _ hl2 (hn _ htb)) (hS1 _ hl3 (hn _ hkb)),hfr hs2,aK hs1.1.size hs2.1.size,σ',S',hI,hs1.trans hs2,hP⟩
  ·exact .inr ⟨rfl,(hSB.step hs1 hst (hn _ htb) (hn _ hkb)).step g2 (hS1 _ hl1 hst) (hS1 _ hl2 (hn _ htb)) (hS1 _ hl3 (hn _ hkb)),hfr g2,aK hs1.1.size g2.1.size,hN,τ,Sτ,g1,hs1.trans g2,g3,g4⟩
 ·exact .inr ⟨rfl,hSB.step g2 hst (hn _ htb) (hn _ hkb),fun g hg hl=>g2.1.block g hl (hn g hg),g2.1.size,hN,τ,Sτ,g1,g2,g3,g4⟩
theorem Ih {t rb:Nat}{mp:VS}{σ':bZ}{S S':Nat->Prop}{w W w2 w':World}(hsub:∀g,S g->g<w.heap.size)(hst:¬S t)(htl:t<w.heap.size)(hbW:Below w.heap.size w W)(hI:Inv σ' S' mp w2)(hs:Step S S' W w2)(h1:w.heap.size<=rb)(h2:rb<W.heap.size)(hk:Keep (fun g=>g=rb\/g=t) w2 w'):
  Inv σ' S' mp w'/\¬S' t/\Keep (fun g=>S g\/g=t) w w'/\∀g,S' g->S g\/w.heap.size<=g:=by
 have hn:∀x,w.heap.size<=x->¬S x:=fun x hx hs=>absurd (hsub x hs) (bq.2 hx)
 have hS':∀x,x<W.heap.size->¬S x->¬S' x:=fun x hx hs1 h1=>(hs.2 x h1).elim hs1 (fun y=>absurd hx (bq.2 y))
 have htW:t<W.heap.size:=ak htl hbW.size
 refine⟨hI.mW hk (fun g hg x=>x.elim (fun e=>hS' rb h2 (hn rb h1) (by rw[<-e];exact hg)) (fun e=>hS' t htW hst (by rw[<-e];exact hg))),hS' t htW hst,?_,fun g hg=>(hs.2 g hg).imp id (fun y=>aK hbW.size y)⟩
 exact(((Step.of_below (S:=S) hbW).trans hs).1.mono (fun _ _ h=> .inl h)).trans hk (fun i hi x=>x.elim (fun e=>absurd hi (by rw[e];exact bq.2 h1)) .inr)
theorem R4 {t:Nat}{mp:VS}{S:Nat->Prop}{P:bZ->Int->Prop}{w w':World}(hsub:∀g,S g->g<w.heap.size)(hst:¬S t)(htl:t<w.heap.size)
  (h:∃W b w2 rb,Below w.heap.size w W/\(∃σ' S',Inv σ' S' mp w2/\Step S S' W w2/\P σ' b)/\w.heap.size<=rb/\rb<W.heap.size/\W.heap.size<=w2.heap.size/\Keep (fun g=>g=rb\/g=t) w2 w'/\dG w' t mp b 0):Gc t mp S P w w':=by
 obtain⟨W,b,w2,rb,hbW,⟨σ',S',hI,hs,hP⟩,h1,h2,h3,hk,ht⟩:=h
 obtain⟨a,b',c,d⟩:=Ih hsub hst htl hbW hI hs h1 h2 hk
 exact⟨σ',S',b,a,ht,b',hP,c,d⟩
theorem PW {t:Nat}{mp:VS}{root:Int}{σ:bZ}{S:Nat->Prop}{N:Prop}{w w':World}(hsub:∀g,S g->g<w.heap.size)(hst:¬S t)(htl:t<w.heap.size)
  (h:∃W w2 rb,Below w.heap.size w W/\Sk mp σ S N W w2/\w.heap.size<=rb/\rb<W.heap.size/\W.heap.size<=w2.heap.size/\Keep (fun g=>g=rb\/g=t) w2 w'/\dG w' t mp root 12):Di t mp root σ S N w w':=by
 obtain⟨W,w2,rb,hbW,⟨hN,σ',S',hI,hs,g3,g4⟩,h1,h2,h3,hk,ht⟩:=h
 obtain⟨a,b',c,d⟩:=Ih hsub hst htl hbW hI hs h1 h2 hk
 exact⟨hN,σ',S',a,ht,b',g3,g4,c,d⟩
theorem Rw (t:Nat)(mp:VS)(root:Int)(σ:bZ)(S:Nat->Prop)(N:Prop)(P:bZ->Int->Prop)(key value:ByteArray)(w:World)(hsub:∀g,S g->g<w.heap.size)(ht:dG w t mp root 0)(hst:¬S t)(hk1:1<=key.size)(hk2:key.size<=128)(hv:value.size<=64)
  (hE:∀(W:World) (kb vb:Nat),Below w.heap.size w W->xE W S [(kb,key),(vb,value)]->EG t mp root key 112 #[.pointer (some ⟨kb,0,none⟩),.pointer (some ⟨vb,0,none⟩)] σ S N P W):
  Calls Tryz.prog 63 #[.pointer (some ⟨t,0,none⟩),.string key,.string value] w fun e w'=>(e= .returned (.int .i64 0)/\Gc t mp S P w w')\/(e= .returned (.int .i64 12)/\Di t mp root σ S N w w'):=by
 have hn:∀x,w.heap.size<=x->¬S x:=fun x hx hs=>absurd (hsub x hs) (bq.2 hx)
 refine(TB t mp root key value w (fun W b w2=>∃σ' S',Inv σ' S' mp w2/\Step S S' W w2/\P σ' b) (Sk mp σ S N) ht hk1 hk2 hv ?_).mono ?_
 ·intro W tb kb vb hbW htb hkb hvb hSB hvB
  refine TP (hE W kb vb hbW ?_) hsub hst hbW htb hkb hSB
  intro p hp
  simp at hp
  rcases hp with rfl|rfl
  ·exact⟨hSB.ky,hn _ hkb⟩
  ·exact⟨hvB,hn _ hvb⟩
 ·rintro e w' (⟨rfl,h⟩|⟨rfl,h⟩)
  ·exact .inl ⟨rfl,R4 hsub hst (aj.1 ht).1 h⟩
  ·exact .inr ⟨rfl,PW hsub hst (aj.1 ht).1 h⟩
def jP (l:List (ByteArray×Int))(hi:Option ByteArray):Option ByteArray:=match l with|[]=>hi|(k,_)::_=>some k
theorem xk (l m:List (ByteArray×Int))(hi:Option ByteArray):jP (l++m) hi=jP l (jP m hi):=by
 cases l with
 |nil=>rfl
 |cons p l=>rfl
def dS (T:ByteArray->Option ByteArray->Int->List Pr->List Int->Prop)(hi:Option ByteArray):List (ByteArray×Int)->List Pr->List Int->Prop
 |[],cs,bs=>cs=[]/\bs=[]
 |(k,b)::l,cs,bs=>∃c cs' x bs',T k (jP l hi) b c x/\dS T hi l cs' bs'/\cs=c++cs'/\bs=x++bs'
theorem dS.append {T:ByteArray->Option ByteArray->Int->List Pr->List Int->Prop}{hi:Option ByteArray}{m:List (ByteArray×Int)}{cm:List Pr}{bm:List Int}(hm:dS T hi m cm bm):∀{l:List (ByteArray×Int)} {cl:List Pr} {bl:List Int},dS T (jP m hi) l cl bl->dS T hi (l++m) (cl++cm) (bl++bm)
 |[],_,_,h=>by obtain⟨rfl,rfl⟩:=h;exact hm
 |(k,b)::l,_,_,h=>by
  obtain⟨c,cs',x,bs',h1,h2,rfl,rfl⟩:=h
  exact⟨c,cs'++cm,x,bs'++bm,by show T k (jP (l++m) hi) b c x;rw[xk];exact h1,dS.append hm h2,aL _ _ _,aL _ _ _⟩
theorem dS.split {T:ByteArray->Option ByteArray->Int->List Pr->List Int->Prop}{hi:Option ByteArray}{m:List (ByteArray×Int)}:∀{l:List (ByteArray×Int)} {cs:List Pr} {bs:List Int},dS T hi (l++m) cs bs->∃cl cm bl bm,dS T (jP m hi) l cl bl/\dS T hi m cm bm/\cs=cl++cm/\bs=bl++bm
 |[],cs,bs,h=>⟨[],cs,[],bs,⟨rfl,rfl⟩,h,rfl,rfl⟩
 |(k,b)::l,_,_,h=>by
  obtain⟨c,cs',x,bs',h1,h2,rfl,rfl⟩:=h
  obtain⟨cl,cm,bl,bm,g1,g2,rfl,rfl⟩:=dS.split h2
  exact⟨c++cl,cm,x++bl,bm,⟨c,cl,x,bl,by have h3:T k (jP (l++m) hi) b c x:=h1;rwa [xk] at h3,g1,rfl,rfl⟩,g2,(aL _ _ _).symm,(aL _ _ _).symm⟩
def Within (lo:ByteArray)(hi:Option ByteArray)(k:ByteArray):Prop:=lt k lo=false/\∀h,hi=some h->lt k h=true
def Nd.row (nd:Nd)(lo:ByteArray):List (ByteArray×Int):=(lo::nd.keys).zip nd.kids
def jg (σ:bZ):Nat->Nat->ByteArray->Option ByteArray->Int->List Pr->List Int->Prop
 |0,_,lo,hi,b,cs,bs=>∃nd,Bl σ b nd/\nd.Ok/\nd.kids=[]/\cs=nd.pairs/\cs≠[]/\gD cs/\(∀p∈cs,Within lo hi p.1)/\bs=[b]
 |h+1,m,lo,hi,b,cs,bs=>∃nd bs',Bl σ b nd/\nd.Ok/\nd.kids≠[]/\m<=nd.kids.length/\bs=b::bs'/\dS (jg σ h 2) hi (nd.row lo) cs bs'
theorem Within.weaken {lo lo':ByteArray}{hi hi':Option ByteArray}{k:ByteArray}(h:Within lo hi k)(hlo:lt lo lo'=false)(hhi:∀y,hi'=some y->∃x,hi=some x/\lt y x=false):Within lo' hi' k:=by
 refine⟨SG hlo h.1,fun y hy=> ?_⟩
 obtain⟨x,hx,hxy⟩:=hhi y hy
 exact Cs (h.2 x hx) hxy
theorem dS.Bv {T:ByteArray->Option ByteArray->Int->List Pr->List Int->Prop}{hi hi':Option ByteArray}(hT:∀k b c x,T k hi b c x->T k hi' b c x):∀{l:List (ByteArray×Int)} {cs:List Pr} {bs:List Int},dS T hi l cs bs->dS T hi' l cs bs
 |[],_,_,h=>h
 |[(k,b)],_,_,h=>by
  obtain⟨c,cs',x,bs',h1,h2,h3,h4⟩:=h
  exact⟨c,cs',x,bs',hT _ _ _ _ h1,h2,h3,h4⟩
 |(k,b)::(k',b')::l,_,_,h=>by
  obtain⟨c,cs',x,bs',h1,h2,h3,h4⟩:=h
  exact⟨c,cs',x,bs',h1,dS.Bv hT h2,h3,h4⟩
theorem dS.Gn {T:ByteArray->Option ByteArray->Int->List Pr->List Int->Prop}{hi:Option ByteArray}{k k':ByteArray}{b:Int}{l:List (ByteArray×Int)}{cs:List Pr}{bs:List Int}(hT:∀z b c x,T k z b c x->T k' z b c x)(h:dS T hi ((k,b)::l) cs bs):dS T hi ((k',b)::l) cs bs:=by
 obtain⟨c,cs',x,bs',h1,h2,h3,h4⟩:=h
 exact⟨c,cs',x,bs',hT _ _ _ _ h1,h2,h3,h4⟩
theorem jg.weaken {σ:bZ}:∀{h m:Nat} {lo lo':ByteArray} {hi hi':Option ByteArray} {b:Int} {cs:List Pr} {bs:List Int},jg σ h m lo hi b cs bs->lt lo lo'=false->(∀y,hi'=some y->∃x,hi=some x/\lt y x=false)->jg σ h m lo' hi' b cs bs
 |0,_,_,_,_,_,_,_,_,⟨nd,h1,h2,h3,h4,h5,h6,h7,h8⟩,hlo,hhi=>⟨nd,h1,h2,h3,h4,h5,h6,fun p hp=>(h7 p hp).weaken hlo hhi,h8⟩
 |h+1,_,lo,lo',hi,hi',b,cs,bs,⟨nd,bs',h1,h2,h3,h4,h5,h6⟩,hlo,hhi=>by
  refine⟨nd,bs',h1,h2,h3,h4,h5,?_⟩
  have h7:dS (jg σ h 2) hi' (nd.row lo) cs bs':=dS.Bv (fun k b c x ht=>jg.weaken ht (lt_irrefl k) hhi) h6
  unfold Nd.row at h7 ⊢
  cases hk:nd.kids with
  |nil=>exact absurd hk h3
  |cons a r=>
   rw[hk] at h7
   exact dS.Gn (fun z b c x ht=>jg.weaken ht hlo (fun y hy=>⟨y,hy,lt_irrefl y⟩)) h7
theorem jg.less {σ:bZ}:∀{h m m':Nat} {lo:ByteArray} {hi:Option ByteArray} {b:Int} {cs:List Pr} {bs:List Int},jg σ h m lo hi b cs bs->m'<=m->jg σ h m' lo hi b cs bs
 |0,_,_,_,_,_,_,_,ht,_=>ht
 |_+1,_,_,_,_,_,_,_,⟨nd,bs',h1,h2,h3,h4,h5,h6⟩,hm=>⟨nd,bs',h1,h2,h3,aK hm h4,h5,h6⟩
theorem Within.PY {lo k:ByteArray}{hi:ByteArray}(h:Within lo (some hi) k):lt lo hi=true:=SF h.1 (h.2 hi rfl)
structure Content (lo:ByteArray)(hi:Option ByteArray)(cs:List Pr):Prop where
 ne:cs≠[]
 rise:gD cs
 within:∀p∈cs,Within lo hi p.1
theorem Content.append {lo k:ByteArray}{hi:Option ByteArray}{a b:List Pr}(ha:Content lo (some k) a)(hb:Content k hi b):Content lo hi (a++b):=by
 have hlk:lt lo k=true:=by
  obtain⟨p,r,rfl⟩:=mF ha.ne
  exact(ha.within p (by simp)).PY
 refine⟨by simp[ha.ne],?_,fun p hp=> ?_⟩
 ·refine xJ.2 ⟨ha.rise,hb.rise,fun p hp q hq=> ?_⟩
  exact Cs ((ha.within p hp).2 k rfl) (hb.within q hq).1
 ·rcases bX.1 hp with h|h
  ·refine⟨(ha.within p h).1,fun y hy=> ?_⟩
   obtain⟨q,r,rfl⟩:=mF hb.ne
   have hq:=hb.within q (by simp)
   exact lt_trans ((ha.within p h).2 k rfl) (SF hq.1 (hq.2 y hy))
  ·exact⟨SG (lt_asymm hlk) (hb.within p h).1,(hb.within p h).2⟩
theorem dS.content {T:ByteArray->Option ByteArray->Int->List Pr->List Int->Prop}(hT:∀k z b c x,T k z b c x->Content k z c){hi:Option ByteArray}:∀{k:ByteArray} {b:Int} {l:List (ByteArray×Int)} {cs:List Pr} {bs:List Int},dS T hi ((k,b)::l) cs bs->Content k hi cs
 |k,b,[],_,_,h=>by
  obtain⟨c,cs',x,bs',h1,⟨rfl,rfl⟩,rfl,rfl⟩:=h
  rw[dJ]
  exact hT _ _ _ _ _ h1
 |k,b,(k',b')::l,_,_,h=>by
  obtain⟨c,cs',x,bs',h1,h2,rfl,rfl⟩:=h
  exact(hT _ _ _ _ _ h1).append (dS.content hT h2)
theorem jg.content {σ:bZ}:∀{h m:Nat} {lo:ByteArray} {hi:Option ByteArray} {b:Int} {cs:List Pr} {bs:List Int},jg σ h m lo hi b cs bs->Content lo hi cs
 |0,_,_,_,_,_,_,⟨_,_,_,_,_,h5,h6,h7,_⟩=>⟨h5,h6,h7⟩
 |h+1,_,lo,hi,b,cs,bs,⟨nd,bs',_,_,h3,_,_,h6⟩=>by
  unfold Nd.row at h6
  cases hk:nd.kids with
  |nil=>exact absurd hk h3
  |cons a r=>
   rw[hk] at h6
   exact dS.content (fun k z b c x ht=>jg.content ht) h6
theorem qN {ps:List Pr}(hr:gD ps){key v:ByteArray}:fD ps key=some v↔(key,v)∈ps:=by
 obtain⟨f1,f2⟩:=mQ key ps hr
 constructor
 ·intro h
  unfold fD at h
  split at h
  ·rename_i hat
   obtain⟨hp,hk⟩:=oN hat
   rw[bG hp] at h
   simp at h
   have:=bE hp
   rw[show ps[cO ps key]=(key,v) from Prod.ext hk h] at this
   exact this
  ·cases h
 ·intro h
  obtain⟨i,hi,e⟩:=fH h
  have hle:¬i<cO ps key:=fun hh=>by
   have:=f1 i hi hh
   rw[e] at this
   rw[lt_irrefl] at this;cases this
  have hge:¬cO ps key<i:=fun hh=>by
   have h1:=f2 (cO ps key) (by omega) (aC _)
   have h2:=gN.1 hr (cO ps key) i (by omega) hi hh
   rw[e] at h2
   rw[h1] at h2;cases h2
  have hpi:cO ps key=i:=by omega
  unfold fD pz
  rw[hpi,bG hi,e]
  simp
theorem dS.TI {T:ByteArray->Option ByteArray->Int->List Pr->List Int->Prop}(hT:∀k z b c x,T k z b c x->Content k z c){hi:Option ByteArray}:∀{k:ByteArray} {b:Int} {l:List (ByteArray×Int)} {cs:List Pr} {bs:List Int},dS T hi ((k,b)::l) cs bs->vT (k::l.map (·.1))
 |k,b,[],_,_,_=>List.pairwise_singleton _ _
 |k,b,(k',b')::l,_,_,h=>by
  obtain⟨c,cs',x,bs',h1,h2,rfl,rfl⟩:=h
  have ih:=dS.TI hT h2
  have hc:=hT _ _ _ _ _ h1
  obtain⟨p,r,rfl⟩:=mF hc.ne
  have hlt:lt k k'=true:=(hc.within p (by simp)).PY
  refine fP.2 ⟨fun y hy=> ?_,ih⟩
  rcases bM.1 hy with rfl|hy
  ·exact hlt
  ·exact lt_trans hlt ((fP.1 ih).1 y hy)
theorem pO {keys:List ByteArray}{kids:List Int}(h:keys.length=kids.length - 1)(hk:kids≠[])(lo:ByteArray):∃b l,(lo::keys).zip kids=(lo,b)::l/\l.map (·.1)=keys/\kids=b::l.map (·.2):=by
 cases kids with
 |nil=>exact absurd rfl hk
 |cons b r=>
  refine⟨b,keys.zip r,rfl,?_,?_⟩
  ·rw[List.map_fst_zip];simp at h;omega
  ·rw[List.map_snd_zip];simp at h;omega
theorem jg.rising {σ:bZ}{h m:Nat}{lo:ByteArray}{hi:Option ByteArray}{nd:Nd}{cs:List Pr}{bs:List Int}(ok:nd.Ok)(hk:nd.kids≠[])(hr:dS (jg σ h m) hi (nd.row lo) cs bs):vT nd.keys:=by
 obtain⟨b,l,e,e2,_⟩:=pO ok.kk hk lo
 unfold Nd.row at hr
 rw[e] at hr
 have:=dS.TI (fun k z b c x ht=>jg.content ht) hr
 rw[e2] at this
 exact(fP.1 this).2
theorem dS.find {T:ByteArray->Option ByteArray->Int->List Pr->List Int->Prop}(hT:∀k z b c x,T k z b c x->Content k z c){hi:Option ByteArray}{key:ByteArray}(hhi:∀y,hi=some y->lt key y=true):∀{k:ByteArray} {b:Int} {l:List (ByteArray×Int)} {cs:List Pr} {bs:List Int},dS T hi ((k,b)::l) cs bs->lt key k=false->
  ∃(hP:iV (l.map (·.1)) key<(b::l.map (·.2)).length) (k':ByteArray) (z:Option ByteArray) (c:List Pr) (x:List Int),T k' z (b::l.map (·.2))[iV (l.map (·.1)) key] c x/\Within k' z key/\∀v,(key,v)∈cs↔(key,v)∈c
 |k,b,[],_,_,h,hk=>by
  obtain⟨c,cs',x,bs',h1,⟨rfl,rfl⟩,rfl,rfl⟩:=h
  exact⟨by simp[iV],k,hi,c,x,h1,⟨hk,hhi⟩,fun v=>by simp⟩
 |k,b,(k',b')::l,_,_,h,hk=>by
  obtain⟨c,cs',x,bs',h1,h2,rfl,rfl⟩:=h
  cases hlt:lt key k' with
  |true=>
   have e:iV (((k',b')::l).map (·.1)) key=0:=by simp[iV,hlt]
   have hc:=dS.content hT h2
   refine⟨by rw[e];simp,k,some k',c,x,?_,⟨hk,fun y hy=>by cases hy;exact hlt⟩,fun v=> ?_⟩
   ·simp only[e];exact h1
   ·rw[bX]
    constructor
    ·rintro(h|h)
     ·exact h
     ·have:=(hc.within _ h).1
      rw[hlt] at this;cases this
    ·exact .inl
  |false=>
   have e:iV (((k',b')::l).map (·.1)) key=iV (l.map (·.1)) key+1:=by simp[iV,hlt]
   obtain⟨hP,k2,z,c2,x2,g1,g2,g3⟩:=dS.find hT hhi h2 hlt
   refine⟨by rw[e];simpa using hP,k2,z,c2,x2,?_,g2,fun v=> ?_⟩
   ·simp only[e];exact g1
   ·rw[bX,<-g3]
    constructor
    ·rintro(h|h)
     ·have:=((hT _ _ _ _ _ h1).within _ h).2 k' rfl
      have h3:lt key k'=true:=this
      rw[hlt] at h3;cases h3
     ·exact h
    ·exact .inr
theorem PX {a b:List Pr}(ha:gD a)(hb:gD b){key:ByteArray}(h:∀v,(key,v)∈a↔(key,v)∈b):fD a key=fD b key:=by
 cases h1:fD a key with
 |some v=>exact((qN hb).2 ((h v).1 ((qN ha).1 h1))).symm
 |none=>
  cases h2:fD b key with
  |none=>rfl
  |some v=>
   have:=(qN ha).2 ((h v).2 ((qN hb).1 h2))
   rw[h1] at this;cases this
theorem jg.look {σ:bZ}{key:ByteArray}:∀{h m:Nat} {lo:ByteArray} {hi:Option ByteArray} {b:Int} {cs:List Pr} {bs:List Int},jg σ h m lo hi b cs bs->Within lo hi key->Look σ key h b (fD cs key)
 |0,_,_,_,_,_,_,⟨nd,h1,_,h3,h4,_,h6,_,_⟩,_=>by
  subst h4
  exact .leaf h1 h3 h6
 |h+1,m,lo,hi,b,cs,bs,ht@⟨nd,bs',h1,h2,h3,_,_,h6⟩,hw=>by
  have hkeys:=jg.rising h2 h3 h6
  have hcs:=ht.content
  obtain⟨b0,l,e,e2,e3⟩:=pO h2.kk h3 lo
  unfold Nd.row at h6
  rw[e] at h6
  obtain⟨hP,k',z,c,x,g1,g2,g3⟩:=dS.find (fun k z b c x ht=>jg.content ht) (fun y hy=>hw.2 y hy) h6 hw.1
  have hl:=jg.look g1 g2
  rw[<-PX hcs.rise g1.content.rise g3] at hl
  have e4:(l.map (·.1))=nd.keys:=e2
  simp only[e4] at hP hl
  have e5:b0::l.map (·.2)=nd.kids:=e3.symm
  simp only[e5] at hP hl
  exact .inner hP h1 hkeys hl
def nh (σ:bZ)(bs:List Int):Nat:=(bs.filter fun b=> !σ.held b).length
theorem pq (σ:bZ)(a b:List Int):nh σ (a++b)=nh σ a+nh σ b:=by simp[nh]
theorem rM (σ:bZ)(a:List Int):nh σ a<=a.length:=wh _ _
theorem LJ {σ:bZ}{a b:List Int}(h:a.Perm b):nh σ a=nh σ b:=(h.filter _).length_eq
theorem Bh {σ σ':bZ}(h:σ'.H=σ.H)(x:Int):σ'.held x=σ.held x:=by unfold bZ.held;rw[h]
theorem yQ {σ σ':bZ}(h:σ'.H=σ.H)(a:List Int):nh σ' a=nh σ a:=by
 unfold nh;congr 2;funext x;rw[Bh h]
def Q7 (_:bZ):Prop:=True
structure nu (σ σ':bZ)(us bs:List Int):Prop where
 H:σ'.H=σ.H
 most:σ'.most=σ.most
 frame:∀x,σ.hasB x=true->(x∉us\/False)->σ'.hasB x=true/\σ'.mem x=σ.mem x
 new:∀x∈bs,σ'.hasB x=true/\(x∈us\/σ.hasB x=false)
 nd:us.Nodup->bs.Nodup
 size:σ'.sz+nh σ us=σ.sz+nh σ bs
 ex:∀x,σ'.hasB x=true->x∈bs\/(σ.hasB x=true/\x∉us)
theorem nu.refl {σ:bZ}{us:List Int}(h:∀x∈us,σ.hasB x=true):nu σ σ us us:=
 ⟨rfl,rfl,fun _ h _=>⟨h,rfl⟩,fun x hx=>⟨h x hx,.inl hx⟩,id,rfl,fun x hx=>by
  by_cases hu:x∈us
  ·exact .inl hu
  ·exact .inr ⟨hx,hu⟩⟩
theorem nu.trans {σ σ1 σ2:bZ}{us bs cs:List Int}(h:nu σ σ1 us bs)(k:nu σ1 σ2 bs cs):nu σ σ2 us cs:=by
 refine⟨k.H.trans h.H,k.most.trans h.most,fun x hx hn=> ?_,fun x hx=> ?_,fun hn=>k.nd (h.nd hn),?_,fun x hx=> ?_⟩
 ·obtain⟨a,b⟩:=h.frame x hx hn
  have hb:x∉bs\/False:=by
   rcases hn with hn|hn
   ·refine .inl fun hb=> ?_
    rcases (h.new x hb).2 with y|y
    ·exact hn y
    ·rw[hx] at y;cases y
   ·exact hn.elim
  obtain⟨c,d⟩:=k.frame x a hb
  exact⟨c,d.trans b⟩
 ·obtain⟨a,b⟩:=k.new x hx
  refine⟨a,?_⟩
  rcases b with b|b
  ·exact(h.new x b).2
  ·cases hh:σ.hasB x with
   |false=>exact .inr rfl
   |true=>
    refine .inl (fV fun hn=> ?_)
    have:=(h.frame x hh (.inl hn)).1
    rw[b] at this;cases this
 ·have a:=h.size
  have b:=k.size
  rw[yQ h.H,yQ h.H] at b
  omega
 ·rcases k.ex x hx with y|⟨y,z⟩
  ·exact .inl y
  ·exact .inr ((h.ex x y).resolve_left z)
theorem nu.perm {σ σ':bZ}{us bs us' bs':List Int}(h:nu σ σ' us bs)(ha:us.Perm us')(hb:bs.Perm bs'):nu σ σ' us' bs':=
 ⟨h.H,h.most,fun x hx hn=>h.frame x hx (hn.imp (fun y z=>y (ha.mem_iff.1 z)) id),fun x hx=>(h.new x (hb.mem_iff.2 hx)).imp id (fun y=>y.imp ha.mem_iff.1 id),fun hn=>(hb.nodup_iff).1 (h.nd (ha.nodup_iff.2 hn)),by rw[<-LJ ha,<-LJ hb];exact h.size,fun x hx=>(h.ex x hx).imp hb.mem_iff.1 (fun y=>⟨y.1,fun z=>y.2 (ha.mem_iff.2 z)⟩)⟩
theorem nu.left {σ σ':bZ}{us bs rs:List Int}(h:nu σ σ' us bs)(hn:(us++rs).Nodup)(hr:∀x∈rs,σ.hasB x=true):nu σ σ' (us++rs) (bs++rs):=by
 obtain⟨n1,n2,n3⟩:=eD.1 hn
 have hfr:∀x∈rs,x∉us:=fun x hx ha=>n3 x ha x hx rfl
 refine⟨h.H,h.most,fun x hx hm=>h.frame x hx (hm.imp (fun y z=>y (dI _ z)) id),fun x hx=> ?_,fun _=> ?_,?_,fun x hx=> ?_⟩
 ·rcases bX.1 hx with hx|hx
  ·exact(h.new x hx).imp id (fun y=>y.imp (dI _) id)
  ·exact⟨(h.frame x (hr x hx) (.inl (hfr x hx))).1,.inl (dL _ hx)⟩
 ·refine eD.2 ⟨h.nd n1,n2,fun x hx y hy e=> ?_⟩
  subst e
  rcases (h.new x hx).2 with z|z
  ·exact hfr x hy z
  ·rw[hr x hy] at z;cases z
 ·have:=h.size
  rw[pq,pq];omega
 ·rcases h.ex x hx with y|⟨y,z⟩
  ·exact .inl (dI _ y)
  ·by_cases hr:x∈rs
   ·exact .inl (dL _ hr)
   ·exact .inr ⟨y,fun e=>(bX.1 e).elim z hr⟩
theorem nu.mid {σ σ':bZ}{us bs ls rs:List Int}(h:nu σ σ' us bs)(hn:(ls++us++rs).Nodup)(hl:∀x∈ls,σ.hasB x=true)(hr:∀x∈rs,σ.hasB x=true):nu σ σ' (ls++us++rs) (ls++bs++rs):=by
 have p:∀l:List Int,(l++(ls++rs)).Perm (ls++l++rs):=fun l=>by
  rw[<-aL];exact Gg _ gJ
 refine(h.left (rs:=ls++rs) ((p us).nodup_iff.2 hn) fun x hx=> ?_).perm (p us) (p bs)
 rcases bX.1 hx with hx|hx
 ·exact hl x hx
 ·exact hr x hx
theorem nu.NN {σ σ':bZ}{us bs:List Int}(_:nu σ σ' us bs)(_:Q7 σ):Q7 σ':=trivial
theorem NP {σ σ':bZ}{b:Int}{nd:Nd}(h:Wrote σ b nd σ')(_:Q7 σ):nu σ σ' [] [b]:=by
 have hne:∀x,σ.hasB x=true->x≠b:=fun x hx e=>by subst e;have:=h.new;rw[hx] at this;cases this
 refine⟨h.held,h.most,fun x hx _=>⟨(h.other x (hne x hx)).1.trans hx,(h.other x (hne x hx)).2⟩,fun x hx=> ?_,fun _=>by simp,?_,fun x hx=> ?_⟩
 ·obtain rfl:x=b:=by simpa using hx
  exact⟨h.blk.has,.inr h.new⟩
 ·rw[h.size]
  have:σ.held b=false:=h.nheld
  simp[nh,this]
 ·by_cases e:x=b
  ·exact .inl (by rw[e];exact bg ..)
  ·exact .inr ⟨by rw[<-(h.other x e).1];exact hx,by simp⟩
theorem Inv.NN {σ:bZ}{S:Nat->Prop}{mp:VS}{w:World}(_:Inv σ S mp w):Q7 σ:=trivial
theorem bZ.zV {σ:bZ}{b x:Int}(h0:0<=b)(hne:x≠b):(σ.gone b).hasB x=σ.hasB x:=by
 show (decide (0<=x) && (decide (x.toNat<σ.most) && ig σ.now b.toNat false x.toNat))=_
 unfold bZ.hasB
 by_cases hx:0<=x
 ·unfold ig;rw[if_neg (by omega)]
 ·simp[hx]
theorem wT {σ:bZ}{b:Int}(hb:σ.hasB b=true):nu σ (σ.gone b) [b] []:=by
 obtain⟨n,rfl,hn,hnow⟩:=bZ.kJ hb
 refine⟨rfl,rfl,fun x hx hm=>⟨?_,rfl⟩,(fun x hx=>by cases hx),(fun _=>qz),?_,fun x hx=> .inr ?_⟩
 ·rw[bZ.zV (by omega) (fun e=>(hm.resolve_right id) (by simpa using e))]
  exact hx
 ·show countB (fun x=>ig σ.now (n:Int).toNat false x||σ.H.old x) σ.most+_=countB (fun x=>σ.now x||σ.H.old x) σ.most+_
  rw[fw]
  have hh:σ.held (n:Int)=σ.H.old n:=by unfold bZ.held;rw[fw];simp
  simp only[nh,EP,hh,List.filter_nil,bV,iw]
  cases ho:σ.H.old n with
  |true=>
   simp only[Bool.not_true,Q9,if_false,bV,iw]
   refine jL _ (fun x _=> ?_)
   unfold ig
   split
   ·rename_i e;subst e;rw[ho,hnow];rfl
   ·rfl
  |false=>
   simp only[Bool.not_false,iI,dM]
   rw[<-CW (f:=fun x=>σ.now x||σ.H.old x) (b:=n) (by rw[hnow];rfl) _ hn]
   congr 1
   refine jL _ (fun x _=> ?_)
   unfold ig
   split
   ·rename_i e;subst e;rw[ho];rfl
   ·rfl
 ·have hne:x≠(n:Int):=fun e=>by
   rw[e] at hx
   have:(decide ((0:Int)<=(n:Int)) && (decide ((n:Int).toNat<σ.most) && ig σ.now (n:Int).toNat false (n:Int).toNat))=true:=hx
   simp[ig] at this
  rw[bZ.zV (by omega) hne] at hx
  exact⟨hx,by simpa using hne⟩
theorem CZ {σ:bZ}{S:Nat->Prop}{mp:VS}{w:World}(_:Inv σ S mp w){b:Int}(hb:σ.hasB b=true):nu σ (σ.gone b) [b] []:=wT hb
theorem NQ {σ:bZ}{S:Nat->Prop}{mp:VS}{w:World}(_:Inv σ S mp w){b1 b2:Int}(h1:σ.hasB b1=true)(h2:σ.hasB b2=true)(hne:b1≠b2):nu σ ((σ.gone b1).gone b2) [b1,b2] []/\(σ.gone b1).hasB b2=true:=by
 have c1:=wT h1
 have hb:=(c1.frame b2 h2 (.inl (by simpa using fun e=>hne e.symm))).1
 have c2:=wT hb
 have c1':=c1.left (rs:=[b2]) (by simpa using hne) (fun x hx=>by rw[bO.1 hx];exact h2)
 exact⟨c1'.trans c2,hb⟩
theorem Bl.move {σ σ':bZ}{b:Int}{nd:Nd}(h:Bl σ b nd)(h1:σ'.hasB b=true)(h2:σ'.mem b=σ.mem b):Bl σ' b nd:=
 ⟨h1,h.lo,h.hi,by rw[h2];exact h.mem,h.fits⟩
theorem dS.change {T T':ByteArray->Option ByteArray->Int->List Pr->List Int->Prop}{hi:Option ByteArray}:∀{l:List (ByteArray×Int)} {cs:List Pr} {bs:List Int},dS T hi l cs bs->(∀k z b c x,(∀y∈x,y∈bs)->T k z b c x->T' k z b c x)->dS T' hi l cs bs
 |[],_,_,h,_=>h
 |(k,b)::l,_,_,h,hT=>by
  obtain⟨c,cs',x,bs',h1,h2,rfl,rfl⟩:=h
  exact⟨c,cs',x,bs',hT _ _ _ _ _ (fun y hy=>dI _ hy) h1,dS.change h2 (fun k z b c x hx=>hT k z b c x (fun y hy=>dL _ (hx y hy))),rfl,rfl⟩
theorem jg.move {σ σ':bZ}:∀{h m:Nat} {lo:ByteArray} {hi:Option ByteArray} {b:Int} {cs:List Pr} {bs:List Int},jg σ h m lo hi b cs bs->(∀x∈bs,σ'.hasB x=true/\σ'.mem x=σ.mem x)->jg σ' h m lo hi b cs bs
 |0,_,_,_,_,_,_,⟨nd,h1,h2,h3,h4,h5,h6,h7,h8⟩,hx=>by
  have:=hx _ (by rw[h8];exact bO.2 rfl)
  exact⟨nd,h1.move this.1 this.2,h2,h3,h4,h5,h6,h7,h8⟩
 |h+1,_,_,_,_,_,_,⟨nd,bs',h1,h2,h3,h4,h5,h6⟩,hx=>by
  subst h5
  have:=hx _ (bg ..)
  exact⟨nd,bs',h1.move this.1 this.2,h2,h3,h4,rfl,h6.change fun k z b c x hb ht=>jg.move ht fun y hy=>hx y (aW _ (hb y hy))⟩
theorem dS.has {T:ByteArray->Option ByteArray->Int->List Pr->List Int->Prop}{p:Int->Prop}(hT:∀k z b c x,T k z b c x->∀y∈x,p y){hi:Option ByteArray}:∀{l:List (ByteArray×Int)} {cs:List Pr} {bs:List Int},dS T hi l cs bs->∀y∈bs,p y
 |[],_,_,⟨_,e⟩=>by subst e;simp
 |(k,b)::l,_,_,h=>by
  obtain⟨c,cs',x,bs',h1,h2,rfl,rfl⟩:=h
  intro y hy
  rcases bX.1 hy with hy|hy
  ·exact hT _ _ _ _ _ h1 y hy
  ·exact dS.has hT h2 y hy
theorem jg.has {σ:bZ}:∀{h m:Nat} {lo:ByteArray} {hi:Option ByteArray} {b:Int} {cs:List Pr} {bs:List Int},jg σ h m lo hi b cs bs->∀x∈bs,σ.hasB x=true
 |0,_,_,_,_,_,_,⟨nd,h1,_,_,_,_,_,_,h8⟩=>by
  intro x hx
  rw[h8] at hx
  rw[bO.1 hx]
  exact h1.has
 |h+1,_,_,_,_,_,_,⟨nd,bs',h1,_,_,_,h5,h6⟩=>by
  subst h5
  intro x hx
  rcases bM.1 hx with rfl|hx
  ·exact h1.has
  ·exact dS.has (fun _ _ _ _ _ ht=>jg.has ht) h6 x hx
theorem dS.count {T:ByteArray->Option ByteArray->Int->List Pr->List Int->Prop}(hT:∀k z b c x,T k z b c x->x.length+1<=2*c.length){hi:Option ByteArray}:∀{l:List (ByteArray×Int)} {cs:List Pr} {bs:List Int},dS T hi l cs bs->bs.length+l.length<=2*cs.length
 |[],_,_,⟨e,e2⟩=>by subst e e2;simp
 |(k,b)::l,_,_,h=>by
  obtain⟨c,cs',x,bs',h1,h2,rfl,rfl⟩:=h
  have a:=hT _ _ _ _ _ h1
  have b:=dS.count hT h2
  simp only[ay,aZ];omega
theorem Nd.mO (nd:Nd)(ok:nd.Ok)(hk:nd.kids≠[])(lo:ByteArray):(nd.row lo).length=nd.kids.length:=by
 have:=ok.kk
 have:=dx.2 hk
 unfold Nd.row;simp;omega
theorem jg.count {σ:bZ}:∀{h m:Nat} {lo:ByteArray} {hi:Option ByteArray} {b:Int} {cs:List Pr} {bs:List Int},jg σ h m lo hi b cs bs->2<=m->bs.length+1<=2*cs.length
 |0,_,_,_,_,_,_,⟨_,_,_,_,_,h5,_,_,h8⟩,_=>by
  subst h8
  have:=dx.2 h5
  simp;omega
 |h+1,_,_,_,_,_,_,⟨nd,bs',_,h2,h3,h4,h5,h6⟩,hm=>by
  subst h5
  have:=dS.count (fun _ _ _ _ _ ht=>jg.count ht (aC 2)) h6
  rw[nd.mO h2 h3] at this
  simp;omega
theorem jg.TY {σ:bZ}:∀{h m:Nat} {lo:ByteArray} {hi:Option ByteArray} {b:Int} {cs:List Pr} {bs:List Int},jg σ h m lo hi b cs bs->bs.length<=2*cs.length
 |0,_,_,_,_,_,_,⟨_,_,_,_,_,h5,_,_,h8⟩=>by
  subst h8
  have:=dx.2 h5
  simp;omega
 |h+1,_,_,_,_,_,_,⟨nd,bs',_,h2,h3,h4,h5,h6⟩=>by
  subst h5
  have:=dS.count (fun _ _ _ _ _ ht=>jg.count ht (aC 2)) h6
  rw[nd.mO h2 h3] at this
  have:=dx.2 h3
  simp;omega
end Go.Proofs.YtogbkgmlhhahdaaGreat
