/- parts -/
import Derived.Test.YtpmbddooibgnaaaGreatDoorS19
import Derived.Defers
import Derived.Recover
set_option maxRecDepth 100000
set_option maxHeartbeats 8000000
set_option linter.all false
namespace Go.Proofs.YtpmbddooibgnaaaGreatDoor
open Go.RowKit
def IW (g:Nat)(cb:Array Value)(F:List Pr->List Pr)(bs:List (Nat×ByteArray)):Prop:=
 ∀(nb B:Nat) (nd:Nd) (S:Nat->Prop) (w:World),(∀g,S g->g<w.heap.size)->(∀p∈bs,pM w p.1 p.2/\p.1<B)->fJ w S B nb nd->gu nd.pairs->nd.pairs.length<=999999->
  Calls Tryz.prog g (#[.pointer (some ⟨nb,0,none⟩)]++cb) w fun e w'=>e= .returned (.tuple #[])/\fJ w' S B nb ⟨F nd.pairs,nd.keys,nd.kids⟩/\Below B w w'
def vT (w:World)(S:Nat->Prop)(bs:List (Nat×ByteArray)):Prop:=∀p∈bs,pM w p.1 p.2/\¬S p.1
theorem vT.step {w w':World}{S S':Nat->Prop}{bs:List (Nat×ByteArray)}(h:vT w S bs)(hs:Step S S' w w'):vT w' S' bs:=fun p hp=>by
 obtain⟨h1,h2⟩:=h p hp
 have hl:=(kP h1).2
 exact⟨(hs.1.block _ hl h2).trans h1,fun x=>(hs.2 _ x).elim h2 (fun y=>absurd hl (aV.2 y))⟩
theorem vT.to {w w':World}{S:Nat->Prop}{bs:List (Nat×ByteArray)}(h:vT w S bs){S':Nat->Prop}(hs:Step S S' w w'):∀p∈bs,pM w' p.1 p.2/\p.1<w.heap.size:=fun p hp=>⟨((h.step hs) p hp).1,(kP (h p hp).1).2⟩
theorem Inv.SL {σ:bR}{S:Nat->Prop}{mp:VS}{B:Nat}{w w':World}(h:Inv σ S mp w)(hb:Below B w w')(hS:∀g,S g->g<B):Inv σ S mp w':=
 h.mF (M:=fun g=>B<=g) ⟨hb.os,hb.tape,hb.output,hb.size,fun k _ hn=>hb.block k (jk.1 hn)⟩ (fun g hg=>jk.2 (hS g hg))
theorem bK.Si {w0 w w':World}{t:Nat}{mp:VS}{root err root' err':Int}(h:bK w t mp root err)(hb:Below w0.heap.size w w')(h0:bK w0 t mp root' err'):bK w' t mp root err:=
 (hb.block t (ah.1 h0).1).trans h
theorem Step.Pp {S S':Nat->Prop}{w w1 w2:World}(h:Step S S' w w1)(hb:Below w.heap.size w1 w2):Step S S' w w2:=
 ⟨⟨hb.os.trans h.1.os,hb.tape.trans h.1.tape,hb.output.trans h.1.output,aG h.1.size hb.size,fun k hk hn=>(hb.block k hk).trans (h.1.block k hk hn)⟩,h.2⟩
theorem l9.mono {mp:VS}{σ:bR}{S0 S:Nat->Prop}{nd:Nd}{least:ByteArray}{w0 w:World}{e:Ending}{w':World}(h:l9 mp σ S nd least w e w')(hs:Step S0 S w0 w):l9 mp σ S0 nd least w0 e w':=by
 rcases h with ⟨v,ps,zs,σ',S',h1,h2,h3,h4,h5,h6⟩|⟨hno,hg⟩
 ·exact .inl ⟨v,ps,zs,σ',S',h1,h2.base hs.1.size,h3,h4,h5,hs.trans h6⟩
 ·exact .inr ⟨hno,hg.after hs rfl rfl⟩
theorem J2 (t:Nat)(mp:VS)(root err deep:Int)(σ:bR)(S:Nat->Prop)(key least:ByteArray)(g:Nat)(cb:Array Value)(F:List Pr->List Pr)(bs:List (Nat×ByteArray))(hent:∀args w,(callFunc g args).run Tryz.prog w= .ok (.enter g args) w)(hf:IW g cb F bs)
  (w:World) (h:Inv σ S mp w) (ht:bK w t mp root err) (hst:¬S t) (hbx:vT w S bs) (ok:Nd.Ok ⟨F [],[],[]⟩) (hz:F []≠[]/\Nd.size ⟨F [],[],[]⟩<=512):
  Calls Tryz.prog 544 #[.pointer (some ⟨t,0,none⟩),.int .i64 0,.int .i64 deep,.string key,.string least,.func (.func g) #[] cb] w (l9 mp σ S ⟨F [],[],[]⟩ key w):=by
 have Hf:=af hf;clear hf
 have HZ:=af hz;clear hz
 have hsub:=h.sub
 go_enter Tryz.func544,Tryz.ntmps544
 have hb0:=aC w (.cells #[.slice none 0 0,.slice none 0 0,.slice none 0 0] 272)
 have hs0:Step S S w (w.alloc (.cells #[.slice none 0 0,.slice none 0 0,.slice none 0 0] 272)):=Step.of_below hb0
 have hn0:fJ (w.alloc (.cells #[.slice none 0 0,.slice none 0 0,.slice none 0 0] 272)) S w.heap.size w.heap.size ⟨[],[],[]⟩:=
  ⟨fun x=>absurd (hsub _ x) (bY _),aA _,_,_,_,aF w _,aQ.nil _ _ _ _ _,aQ.nil _ _ _ _ _,aQ.nil _ _ _ _ _⟩
 go_wp2_with (first
  |((refine(Hf.out w.heap.size w.heap.size ⟨[],[],[]⟩ S _ (fun g hg=>ax (hsub g hg) hb0.size) (hbx.to hs0) hn0 zZ (aN _)).mono ?_);rintro e w1 ⟨rfl,hn1,hb1⟩)
  |(go_at_call 561;go_must ((refine(yU t mp root err σ S w.heap.size ⟨F [],[],[]⟩ key w1 (h.below (hb0.trans hb1)) (ht.step hst (Step.of_below (hb0.trans hb1))).1 hst hn1.jY ok (.inr HZ.out.1) HZ.out.2).mono ?_);rintro e w2 (⟨v,ps,zs,σ',S',rfl,p2,p3,p4,p5,p6⟩|⟨hno,rfl,τ,Sτ,g1,g2,g3,g4⟩)<;>refine Stop.of ?_)))
 rotate_left
 ·refine Stop.on ?_
  exact⟨rfl,l9.mono (.inr ⟨hno,rfl,τ,Sτ,g1,g2,g3,g4⟩) (Step.of_below (hb0.trans hb1))⟩
 refine Stop.on ?_
 go_wp2_with fail
 go_ret
 exact l9.mono (.inl ⟨v,ps,zs,σ',S',rfl,p2,p3,p4,p5,p6⟩) (Step.of_below (hb0.trans hb1))
theorem J3 (t:Nat)(mp:VS)(root err b deep:Int)(σ:bR)(S:Nat->Prop)(key least:ByteArray)(nd:Nd)(g:Nat)(cb:Array Value)(F:List Pr->List Pr)(bs:List (Nat×ByteArray))(hent:∀args w,(callFunc g args).run Tryz.prog w= .ok (.enter g args) w)(hf:IW g cb F bs)
  (w:World) (h:Inv σ S mp w) (ht:bK w t mp root err) (hst:¬S t) (hbx:vT w S bs) (hb:Fg σ b nd) (hk:nd.kids=[]) (hd:deep<=40) (hr:gu nd.pairs) (ok:Nd.Ok ⟨F nd.pairs,[],[]⟩) (hz:F nd.pairs≠[]/\Nd.size ⟨F nd.pairs,[],[]⟩<=512):
  Calls Tryz.prog 544 #[.pointer (some ⟨t,0,none⟩),.int .i64 b,.int .i64 deep,.string key,.string least,.func (.func g) #[] cb] w (l9 mp (σ.gone b) S ⟨F nd.pairs,[],[]⟩ least w):=by
 have Hf:=af hf;clear hf
 have HZ:=af hz;clear hz
 have hsub:=h.sub
 have hb0:(b==0)=false:=by have:=hb.lo;simp;omega
 have hke:nd.kids.isEmpty=true:=by rw[hk];rfl
 have hnp:=hb.fits.np
 have hkk:=hb.fits.kk
 rw[hk] at hkk
 have hkey:nd.keys=[]:=bn (by simpa using hkk)
 have Hkey:=af hkey;clear hkey hkk
 go_enter Tryz.func544,Tryz.ntmps544
 go_wp2_with (first
  |(go_at_call 563;go_must ((refine(K5 t mp root err b deep σ S nd w h ht hst hb hd).mono ?_);rintro e w1 ⟨nb,rfl,hn1,hI1,hs1⟩))
  |(go_at_call 219;go_must ((refine(kW nb nd _ S hn1.jY).mono ?_);rintro e w2 ⟨rfl,hw⟩;subst w2;rw[hke]))
  |((refine(Hf.out nb w.heap.size nd S _ hI1.sub (hbx.to hs1) hn1 hr (by omega)).mono ?_);rw[Hkey.out,hk];rintro e w2 ⟨rfl,hn2,hb2⟩)
  |(go_at_call 561;go_must ((refine(yU t mp root err (σ.gone b) S nb ⟨F nd.pairs,[],[]⟩ least w2 (hI1.SL hb2 hsub) ((ht.step hst hs1).1.Si hb2 ht) hst hn2.jY ok (.inr HZ.out.1) HZ.out.2).mono ?_);rintro e w3 (⟨v,ps,zs,σ',S',rfl,p2,p3,p4,p5,p6⟩|⟨hno,rfl,τ,Sτ,g1,g2,g3,g4⟩)<;>refine Stop.of ?_)))
 rotate_left
 ·refine Stop.on ?_
  exact⟨rfl,l9.mono (.inr ⟨hno,rfl,τ,Sτ,g1,g2,g3,g4⟩) (hs1.Pp hb2)⟩
 refine Stop.on ?_
 go_wp2_with fail
 go_ret
 exact l9.mono (.inl ⟨v,ps,zs,σ',S',rfl,p2,p3,p4,p5,p6⟩) (hs1.Pp hb2)
theorem Bf (t:Nat)(mp:VS)(root err:Int)(σ:bR)(v:Value)(b:Int)(key:ByteArray)(nd:Nd)(S:Nat->Prop)(w:World)(h:Inv σ S mp w)(ht:bK w t mp root err)(_hst:¬S t)(hv:Ng w S v [(b,key)])(hb:Fg σ b nd)(hk:nd.kids=[]):
  Calls Tryz.prog 543 #[.pointer (some ⟨t,0,none⟩),v] w fun e w'=>e= .returned (.int .i64 b)/\Below w.heap.size w w':=by
 have hvv:=hv
 obtain⟨ao,c,rfl,n0,m0,_,_⟩:=aW.form hv
 obtain⟨pb,po,rfl,d0,d1⟩:=hvv.at rfl 0 (lT 0)
 have hpl:=aD w _ d0
 go_enter Tryz.func543,Tryz.ntmps543
 have d0':w.cell? ⟨pb,po,none⟩=some (.int .i64 b):=d0
 have d1':w.cell? ⟨pb,po+1,none⟩=some (.string key):=d1
 have hpl':pb<w.heap.size:=hpl
 clear d0 d1 hpl
 go_wp2
 go_loopw [1,5,6,7] (fun l _ _ _ wr=>l= .slice (some ⟨pb,po,none⟩) 1 c/\wr=w) (fun _ _ _ _ _=>0)
 case atStart=>exact⟨rfl,rfl⟩
 case round=>
  obtain⟨rfl,rfl⟩:=hrel
  go_wp2_with fail
  go_loopw [8,9,10,11] (fun x y _ _ wr'=>x= .int .i64 b/\y= .int .i64 0/\wr'=wr) (fun _ _ _ _ _=>0)
  case atStart=>exact⟨rfl,rfl,rfl⟩
  case round=>
   obtain⟨rfl,rfl,rfl⟩:=hrel
   go_wp2_with (first
    |(go_at_call 140;go_must ((refine(oz t mp root err b 0 σ S nd _ h ht hb (by omega)).mono ?_);rintro e w1 ⟨nb,rfl,hn1,hb1⟩))
    |(go_at_call 562;go_must ((refine(uX _).mono ?_);rintro e w2 ⟨rfl,hw⟩;subst w2;refine Stop.of ?_)))
   refine Stop.on ?_
   obtain⟨_,x0,x1,x2,hbn,_,_,hx2⟩:=hn1.jY
   obtain⟨_,_,e2,_,_,_,hlt⟩:=cells3 hbn
   rw[hk] at hx2
   obtain⟨ao2,c2,rfl,_⟩:=aW.form hx2
   go_wp2_with fail
   go_ret
   exact⟨rfl,hb1⟩
theorem Cy (tb rb:Nat)(w:World):
  CallsD Tryz.prog 560 #[.pointer (some ⟨tb,0,none⟩),.pointer (some ⟨rb,0,none⟩)] .returning w fun e u' w'=>e= .returned (.tuple #[])/\u'= .returning/\Below w.heap.size w w':=by
 refine uq Tryz.func560 rfl fun c₀ cs hu=> ?_
 apply si
 apply lG
 have hta:∀w:World,(Instr.typeAssert Value.nilIface 20 656 true).run Tryz.prog w= .ok (.tuple #[.agg #[.int .i64 0],.bool false]) w:=fun _=>by kernel_rfl
 simp[wpOpsS,go_sem,recoverD,hu,Tryz.ntmps560,Exit.thenS,hta,Array.replicate,List.replicate]
 apply si
 apply lG
 simp[wpOpsS,go_sem,Exit.thenS]
 refine wpS_cond (t:=false) (by simp[Act.eval]) ?_
 simp only[pR,if_false]
 refine Fh (wp_skip ?_)
 cases c₀
 simp_all [bodyPostS,results,Tryz.results560]
 exact aC _ _
theorem bK.QD {w:World}{t:Nat}{mp:VS}{root err e:Int}(h:bK w t mp root err):bK (w.setCell ⟨t,2,none⟩ (.int .i64 e)) t mp root e:=by
 unfold bK at*
 simp[World.setCell,aJ,h]
theorem Cz (t:Nat)(mp:VS)(root err:Int)(tb rb:Nat)(er e0:Int)(w:World)(ht:bK w t mp root err)(htb:w.heap[tb]? =some (.cells #[.pointer (some ⟨t,0,none⟩)] 179 (0,0)))(hrb:w.heap[rb]? =some (.cells #[.int .i64 e0] 26 (0,0)))(hne:t≠rb):
  CallsD Tryz.prog 560 #[.pointer (some ⟨tb,0,none⟩),.pointer (some ⟨rb,0,none⟩)] (.panicking (brk er)) w fun e u' w'=>e= .returned (.tuple #[])/\settle u'= .returning/\bK w' t mp root er/\w'.cell? ⟨rb,0,none⟩=some (.int .i64 er)/\Keep (fun g=>g=t\/g=rb) w w':=by
 refine uq Tryz.func560 rfl fun c₀ cs hu=> ?_
 apply si
 apply lG
 have hta:∀w:World,(Instr.typeAssert (.iface 656 (.agg #[.int .i64 er])) 20 656 true).run Tryz.prog w= .ok (.tuple #[.agg #[.int .i64 er],.bool true]) w:=fun _=>by kernel_rfl
 simp[wpOpsS,go_sem,recoverD,hu,brk,Tryz.ntmps560,Exit.thenS,hta,Array.replicate,List.replicate]
 obtain⟨w1,HW1⟩:∃w1:World,Hid (w.alloc (.cells #[.int .i64 er] 656)=w1):=⟨_,af rfl⟩
 have hb1:Below w.heap.size w w1:=by rw[<-HW1.out];exact aC w _
 have hx:w1.cell? ⟨w.heap.size,0,none⟩=some (.int .i64 er):=by rw[<-HW1.out];simp
 have hxl:w.heap.size<w1.heap.size:=by rw[<-HW1.out];simp
 rw[HW1.out]
 have hlt:=(ah.1 ht).1
 have hltb:=(ah.1 htb).1
 have hlrb:=(ah.1 hrb).1
 have ht1:bK w1 t mp root err:=(hb1.block t hlt).trans ht
 have c0:w1.cell? ⟨tb,0,none⟩=some (.pointer (some ⟨t,0,none⟩)):=by
  have:=(hb1.block tb hltb).trans htb
  simp[World.cell?,this]
 have hrb1:=(hb1.block rb hlrb).trans hrb
 have hf1:∀j,w1.frozen? ⟨t,j,none⟩=false:=fun j=>by unfold bK at ht1;simp[World.frozen?,ht1]
 have hlt1:=ax hlt hb1.size
 have hltb1:=ax hltb hb1.size
 have hlrb1:=ax hlrb hb1.size
 apply si
 apply lG
 simp[wpOpsS,go_sem,Exit.thenS]
 refine wpS_cond (t:=true) (by simp[Act.eval]) ?_
 simp only[lH]
 refine Fh ?_
 have htt:t≠tb:=fun e=>by subst e;unfold bK at ht;rw[htb] at ht;cases ht
 have hS1:w1.drew.cell? ⟨tb,0,none⟩=some (.pointer (some ⟨t,0,none⟩))/\w1.drew.cell? ⟨w.heap.size,0,none⟩=some (.int .i64 er)/\tb<w1.drew.heap.size/\w.heap.size<w1.drew.heap.size:=⟨c0,hx,hltb1,hxl⟩
 have hk1:Keep (· =t) w1.drew (w1.drew.setCell ⟨t,2,none⟩ (.int .i64 er)):=(Keep.refl (· =t) _).setCell (p:=⟨t,2,none⟩) (.inr rfl) _
 have hS2:(w1.drew.setCell ⟨t,2,none⟩ (.int .i64 er)).cell? ⟨tb,0,none⟩=some (.pointer (some ⟨t,0,none⟩))/\(w1.drew.setCell ⟨t,2,none⟩ (.int .i64 er)).cell? ⟨w.heap.size,0,none⟩=some (.int .i64 er)/\tb<(w1.drew.setCell ⟨t,2,none⟩ (.int .i64 er)).heap.size/\w.heap.size<(w1.drew.setCell ⟨t,2,none⟩ (.int .i64 er)).heap.size:=
  ⟨(hk1.cell hltb1 (fun e=>htt e.symm)).trans c0,(hk1.cell (p:=⟨w.heap.size,0,none⟩) hxl (by show ¬w.heap.size=t;omega)).trans hx,ax hltb1 hk1.size,ax hxl hk1.size⟩
 have hT2:bK (w1.drew.setCell ⟨t,2,none⟩ (.int .i64 er)) t mp root er:=bK.QD (w:=w1.drew) ht1
 have hr2:(w1.drew.setCell ⟨t,2,none⟩ (.int .i64 er)).heap[rb]? =some (.cells #[.int .i64 e0] 26 (0,0)):=(hk1.block rb hlrb1 (fun e=>hne e.symm)).trans hrb1
 have hfz:w1.drew.frozen? ⟨t,2,none⟩=false:=hf1 2
 have hcz:∃v,w1.drew.cell? ⟨t,2,none⟩=some v:=⟨_,by unfold bK at ht1;show w1.cell? _=_;simp[World.cell?,ht1];rfl⟩
 obtain⟨vz,hcz⟩:=hcz
 obtain⟨w2,HW2⟩:∃w2:World,Hid (w1.drew.setCell ⟨t,2,none⟩ (.int .i64 er)=w2):=⟨_,af rfl⟩
 rw[HW2.out] at hk1 hS2 hT2 hr2
 have hr2c:w2.cell? ⟨rb,0,none⟩=some (.int .i64 e0):=by simp[World.cell?,hr2]
 have hr2f:w2.frozen? ⟨rb,0,none⟩=false:=by simp[World.frozen?,hr2]
 have hr2l:=(ah.1 hr2).1
 have hltd:t<w1.drew.heap.size:=hlt1
 refine aK (fun W=>W.cell? ⟨tb,0,none⟩=some (.pointer (some ⟨t,0,none⟩))/\W.cell? ⟨w.heap.size,0,none⟩=some (.int .i64 er)/\tb<W.heap.size/\w.heap.size<W.heap.size) (fun i=> !([7,8].contains i)) [0,1,2,3,4,5,6,7,8] rfl (by kernel_rfl) hS1 ?_
 repeat ((refine bq (v:= ?_) rfl rfl (fun _ _ _ h=>h) rfl (fun W hW=> ?_) ?_);rotate_left;(focus ((try dsimp only at hW);obtain⟨q0,q1,q2,q3⟩:=hW;(go_simp;first|done|with_reducible rfl)));(try simp only[Act.put,aj,av,au]))
 refine bP rfl rfl rfl ?_;intro K hK;go_simp
 rw[show (w1.setCell ⟨t,2,none⟩ (.int .i64 er)).drew=w1.drew.setCell ⟨t,2,none⟩ (.int .i64 er) from rfl,HW2.out]
 refine hK.out _ _ hS2 ?_
 refine jm rfl rfl rfl (by kernel_rfl) ?_;intro K hK;go_simp
 refine hK.out _ _ ?_
 refine bF ?_
 have hk3:Keep (· =rb) w2 (w2.setCell ⟨rb,0,none⟩ (.int .i64 er)):=(Keep.refl (· =rb) _).setCell (p:=⟨rb,0,none⟩) (.inr rfl) _
 refine⟨rfl,_,rfl,_,?_,rfl,rfl,(hk3.block t (ah.1 hT2).1 hne).trans hT2,?_,?_⟩
 ·simp[results,Tryz.results560,go_sem]
 ·simp[World.setCell,World.cell?,aJ,hr2]
 ·exact(((Keep.of_below hb1 (fun g=>g=t\/g=rb)).drew).trans (hk1.mono (fun _ _ e=> .inl e)) (fun _ _ e=>e)).trans (hk3.mono (fun _ _ e=> .inr e)) (fun _ _ e=>e)
theorem GK (t:Nat)(mp:VS)(root err:Int)(g:Nat)(cb:Array Value)(w:World)(R R2:World->Prop)(htl:t<w.heap.size)(hent:∀args w,(callFunc g args).run Tryz.prog w= .ok (.enter g args) w)
  (hf:Calls Tryz.prog g cb ((w.alloc (.cells #[.pointer (some ⟨t,0,none⟩)] 179)).alloc (.cells #[.int .i64 0] 26)) fun e w'=>
   (e= .returned (.tuple #[])/\R w'/\w'.heap[w.heap.size+1]? =some (.cells #[.int .i64 0] 26 (0,0)))\/
   (e= .panicked (brk 12)/\R2 w'/\w'.heap[w.heap.size+1]? =some (.cells #[.int .i64 0] 26 (0,0))/\w'.heap[w.heap.size]? =some (.cells #[.pointer (some ⟨t,0,none⟩)] 179 (0,0))/\bK w' t mp root err)):
  Calls Tryz.prog 541 #[.pointer (some ⟨t,0,none⟩),.func (.func g) #[] cb] w fun e w'=>
   (e= .returned (.int .i64 0)/\∃w1,R w1/\Keep (· =w.heap.size+1) w1 w')\/
   (e= .returned (.int .i64 12)/\∃w1,R2 w1/\Keep (fun g=>g=t\/g=w.heap.size+1) w1 w'/\bK w' t mp root 12):=by
 have hmf:∀(fn:Fn) (first cap:Array Value) (w:World),(Instr.makeFunc fn first cap).run Tryz.prog w= .ok (.func fn first cap) w:=fun _ _ _ _=>rfl
 have Hf:=af hf;clear hf
 go_enter_defers Tryz.func541,Tryz.ntmps541
 go_wp2_with (refine Hf.out.mono ?_;rintro e w1 (⟨rfl,hR,hr⟩|⟨rfl,hR2,hr,hrt,hT⟩)<;>refine Stop.of ?_)
 ·have r0:w1.cell? ⟨w.heap.size+1,0,none⟩=some (.int .i64 0):=by simp[World.cell?,hr]
  have r1:w1.frozen? ⟨w.heap.size+1,0,none⟩=false:=by simp[World.frozen?,hr]
  have r2:=(ah.1 hr).1
  refine Stop.on ?_
  go_wp2_with fail
  have hk:Keep (· =w.heap.size+1) w1 (w1.setCell ⟨w.heap.size+1,0,none⟩ (.int .i64 0)):=Keep.setCell (M:=(· =w.heap.size+1)) (p:=⟨w.heap.size+1,0,none⟩) (Keep.refl _ _) (.inr rfl) _
  have hr':(w1.setCell ⟨w.heap.size+1,0,none⟩ (.int .i64 0)).cell? ⟨w.heap.size+1,0,none⟩=some (.int .i64 0):=by simp[World.setCell,World.cell?,aJ,hr]
  have hlt':w.heap.size+1<(w1.setCell ⟨w.heap.size+1,0,none⟩ (.int .i64 0)).heap.size:=ax r2 hk.size
  generalize w1.setCell ⟨w.heap.size+1,0,none⟩ (.int .i64 0)=w2 at*
  refine dQ (f:=560) (args:=#[.pointer (some ⟨w.heap.size,0,none⟩),.pointer (some ⟨w.heap.size+1,0,none⟩)]) (by simp) (by simp[go_sem]) ?_
  refine(Cy w.heap.size (w.heap.size+1) w2).mono ?_
  rintro e u' w'' ⟨rfl,rfl,hb⟩
  have hc:w''.cell? ⟨w.heap.size+1,0,none⟩=some (.int .i64 0):=(hb.cell (p:=⟨w.heap.size+1,0,none⟩) hlt').trans hr'
  have hfin:Keep (· =w.heap.size+1) w1 w'':=hk.trans (Keep.of_below hb (fun _=>False)) (fun _ _ h=>h.elim)
  refine⟨_,?_,.inl ⟨rfl,w1,hR,hfin⟩⟩
  simp[results,Tryz.results541,go_sem,hc]
 ·refine Stop.on ?_
  refine dQ (f:=560) (args:=#[.pointer (some ⟨w.heap.size,0,none⟩),.pointer (some ⟨w.heap.size+1,0,none⟩)]) (by simp) (by simp[go_sem]) ?_
  refine(Cz t mp root err w.heap.size (w.heap.size+1) 12 0 w1 hT hrt hr (by omega)).mono ?_
  rintro e u' w'' ⟨rfl,hu,hT2,hc,hk⟩
  show Leaves _ _ _ _ [] (settle u') w''
  rw[hu]
  refine⟨_,?_,.inr ⟨rfl,w1,hR2,hk,hT2⟩⟩
  simp[results,Tryz.results541,go_sem,hc]
structure SB (t:Nat)(mp:VS)(root err:Int)(tb kb:Nat)(key:ByteArray)(W:World):Prop where
 tr:bK W t mp root err
 bx:W.heap[tb]? =some (.cells #[.pointer (some ⟨t,0,none⟩)] 179 (0,0))
 ky:pM W kb key
theorem SB.cells {t:Nat}{mp:VS}{root err:Int}{tb kb:Nat}{key:ByteArray}{W:World}(h:SB t mp root err tb kb key W):
  W.cell? ⟨tb,0,none⟩=some (.pointer (some ⟨t,0,none⟩))/\tb<W.heap.size/\W.cell? ⟨t,1,none⟩=some (.int .i64 root)/\t<W.heap.size/\W.cell? ⟨kb,0,none⟩=some (.string key)/\kb<W.heap.size/\W.frozen? ⟨t,1,none⟩=false:=by
 obtain⟨_,c1,_,_,f1,_,hlt⟩:=cells3 h.tr
 exact⟨by simp[World.cell?,h.bx],(ah.1 h.bx).1,c1,hlt,(kP h.ky).1,(kP h.ky).2,f1⟩
theorem N9 (t:Nat)(mp:VS)(tb kb vb:Nat)(root err:Int)(key:ByteArray)(w:World)(R:Int->World->Prop)(R2:World->Prop)(hS:SB t mp root err tb kb key w)
  (hE:Calls Tryz.prog 544 #[.pointer (some ⟨t,0,none⟩),.int .i64 root,.int .i64 0,.string key,.string ⟨#[]⟩,.func (.func 545) #[] #[.pointer (some ⟨kb,0,none⟩),.pointer (some ⟨vb,0,none⟩)]] w.drew fun e w1=>(∃v,e= .returned v/\SB t mp root err tb kb key w1/\
   Calls Tryz.prog 543 #[.pointer (some ⟨t,0,none⟩),v] w1 fun e2 w2=>(∃b,e2= .returned (.int .i64 b)/\SB t mp root err tb kb key w2/\R b w2)\/(e2= .panicked (brk 12)/\SB t mp root err tb kb key w2/\R2 w2))\/(e= .panicked (brk 12)/\SB t mp root err tb kb key w1/\R2 w1)):
  Calls Tryz.prog 542 #[.pointer (some ⟨tb,0,none⟩),.pointer (some ⟨kb,0,none⟩),.pointer (some ⟨vb,0,none⟩)] w fun e w'=>(e= .returned (.tuple #[])/\∃b w2,R b w2/\SB t mp root err tb kb key w2/\w'=w2.setCell ⟨t,1,none⟩ (.int .i64 b))\/(e= .panicked (brk 12)/\SB t mp root err tb kb key w'/\R2 w'):=by
 have HE:=af hE;clear hE
 go_enter Tryz.func542,Tryz.ntmps542
 go_wp2_with fail
 have hmf:∀(fn:Fn) (first cap:Array Value) (w:World),(Instr.makeFunc fn first cap).run Tryz.prog w= .ok (.func fn first cap) w:=fun _ _ _ _=>rfl
 refine aK (fun W=>SB t mp root err tb kb key W) (fun i=> !([9,10,13].contains i)) [0,1,2,3,4,5,6,7,8,9,10,11,12,13] rfl (by kernel_rfl) ⟨hS.tr,hS.bx,hS.ky⟩ ?_
 repeat ((refine bq (v:= ?_) rfl rfl (fun _ _ _ h=>h) rfl (fun W hW=> ?_) ?_);rotate_left;(focus ((try dsimp only at hW);obtain⟨q0,q1,q2,q3,q4,q5,q6⟩:=hW.cells;first|(go_simp;first|done|with_reducible rfl)));(try simp only[Act.put,aj,av,au]))
 refine bP rfl rfl rfl ?_;intro K hK;go_simp
 refine HE.out.mono ?_;rintro e w1 (⟨v,rfl,hS1,hG⟩|⟨rfl,hS1,hR2⟩)
 rotate_left
 ·exact⟨rfl,.inr ⟨rfl,hS1,hR2⟩⟩
 refine hK.out _ _ hS1 ?_
 refine bP rfl rfl rfl ?_;intro K hK;go_simp
 refine hG.mono ?_;rintro e w2 (⟨b,rfl,hS2,hR⟩|⟨rfl,hS1,hR2⟩)
 rotate_left
 ·exact⟨rfl,.inr ⟨rfl,hS1,hR2⟩⟩
 refine hK.out _ _ hS2 ?_
 repeat ((refine bq (v:= ?_) rfl rfl (fun _ _ _ h=>h) rfl (fun W hW=> ?_) ?_);rotate_left;(focus ((try dsimp only at hW);obtain⟨q0,q1,q2,q3,q4,q5,q6⟩:=hW.cells;first|(go_simp;first|done|with_reducible rfl)));(try simp only[Act.put,aj,av,au]))
 obtain⟨_,_,x2,x3,_,_,x6⟩:=hS2.cells
 refine jm rfl rfl rfl (by kernel_rfl) ?_;intro K hK;go_simp
 refine hK.out _ _ ?_
 refine bF ?_
 go_wp2_with fail
 go_end0
 exact .inl ⟨rfl,b,w2,hR,hS2,rfl⟩
theorem ol (t:Nat)(mp:VS)(root err:Int)(w:World)(h:bK w t mp root err):
  Calls Tryz.prog 139 #[.pointer (some ⟨t,0,none⟩)] w fun e w'=>e= .returned (.int .i64 err)/\w'=w:=by
 obtain⟨_,_,c2,_,_,_,hlt⟩:=cells3 h
 go_enter Tryz.func139,Tryz.ntmps139
 go_wp2
 go_ret
 exact⟨rfl,rfl⟩
theorem xM (k:ByteArray)(w:World)(h1:1<=k.size)(h2:k.size<=128):
  Calls Tryz.prog 449 #[.string k] w fun e w'=>e= .returned (.bool true)/\w'=w:=by
 have x1:(1:Int)<=(k.size:Int):=by omega
 have x2:(k.size:Int)<=128:=by omega
 go_enter Tryz.func449,Tryz.ntmps449
 go_wp2
 go_ret
 exact⟨by simp[*],rfl⟩
theorem QM (t:Nat)(mp:VS)(root:Int)(key value:ByteArray)(w:World)(R:World->Int->World->Prop)(R2:World->World->Prop)(ht:bK w t mp root 0)(hk1:1<=key.size)(hk2:key.size<=128)(hv:value.size<=64)
  (hE:∀(W:World) (tb kb vb:Nat),Below w.heap.size w W->w.heap.size<=tb->w.heap.size<=kb->w.heap.size<=vb->SB t mp root 0 tb kb key W->pM W vb value->
   Calls Tryz.prog 544 #[.pointer (some ⟨t,0,none⟩),.int .i64 root,.int .i64 0,.string key,.string ⟨#[]⟩,.func (.func 545) #[] #[.pointer (some ⟨kb,0,none⟩),.pointer (some ⟨vb,0,none⟩)]] W fun e w1=>(∃v,e= .returned v/\SB t mp root 0 tb kb key w1/\
    Calls Tryz.prog 543 #[.pointer (some ⟨t,0,none⟩),v] w1 fun e2 w2=>(∃b,e2= .returned (.int .i64 b)/\SB t mp root 0 tb kb key w2/\(∀g,w.heap.size<=g->g<W.heap.size->w2.heap[g]? =W.heap[g]?)/\W.heap.size<=w2.heap.size/\R W b w2)\/(e2= .panicked (brk 12)/\SB t mp root 0 tb kb key w2/\(∀g,w.heap.size<=g->g<W.heap.size->w2.heap[g]? =W.heap[g]?)/\W.heap.size<=w2.heap.size/\R2 W w2))\/(e= .panicked (brk 12)/\SB t mp root 0 tb kb key w1/\(∀g,w.heap.size<=g->g<W.heap.size->w1.heap[g]? =W.heap[g]?)/\W.heap.size<=w1.heap.size/\R2 W w1)):
  Calls Tryz.prog 494 #[.pointer (some ⟨t,0,none⟩),.string key,.string value] w fun e w'=>(e= .returned (.int .i64 0)/\
   ∃W b w2 rb,Below w.heap.size w W/\R W b w2/\w.heap.size<=rb/\rb<W.heap.size/\W.heap.size<=w2.heap.size/\Keep (fun g=>g=rb\/g=t) w2 w'/\bK w' t mp b 0)\/(e= .returned (.int .i64 12)/\
   ∃W w2 rb,Below w.heap.size w W/\R2 W w2/\w.heap.size<=rb/\rb<W.heap.size/\W.heap.size<=w2.heap.size/\Keep (fun g=>g=rb\/g=t) w2 w'/\bK w' t mp root 12):=by
 have HE:=af hE;clear hE
 have x2:¬((64:Int)<(value.size:Int)):=by omega
 have hmf:∀(fn:Fn) (first cap:Array Value) (w:World),(Instr.makeFunc fn first cap).run Tryz.prog w= .ok (.func fn first cap) w:=fun _ _ _ _=>rfl
 have hb3:=E5 w (.cells #[.pointer (some ⟨t,0,none⟩)] 179) (.cells #[.string key] 9) (.cells #[.string value] 9)
 have htl:t<w.heap.size:=(ah.1 ht).1
 have ht3:=(hb3.block t htl).trans ht
 have hcb:∀W3,W3=(((w.alloc (.cells #[.pointer (some ⟨t,0,none⟩)] 179)).alloc (.cells #[.string key] 9)).alloc (.cells #[.string value] 9))->
   Calls Tryz.prog 541 #[.pointer (some ⟨t,0,none⟩),.func (.func 542) #[] #[.pointer (some ⟨w.heap.size,0,none⟩),.pointer (some ⟨w.heap.size+1,0,none⟩),.pointer (some ⟨w.heap.size+1+1,0,none⟩)]] W3 fun e w'=>(e= .returned (.int .i64 0)/\
   ∃W b w2 rb,Below w.heap.size w W/\R W b w2/\w.heap.size<=rb/\rb<W.heap.size/\W.heap.size<=w2.heap.size/\Keep (fun g=>g=rb\/g=t) w2 w'/\bK w' t mp b 0)\/(e= .returned (.int .i64 12)/\
   ∃W w2 rb,Below w.heap.size w W/\R2 W w2/\w.heap.size<=rb/\rb<W.heap.size/\W.heap.size<=w2.heap.size/\Keep (fun g=>g=rb\/g=t) w2 w'/\bK w' t mp root 12):=by
  intro W3 hW3
  have hbW3:Below w.heap.size w W3:=by rw[hW3];exact hb3
  have hs3:W3.heap.size=w.heap.size+3:=by rw[hW3];simp
  have b0:W3.heap[w.heap.size]? =some (.cells #[.pointer (some ⟨t,0,none⟩)] 179 (0,0)):=by
   rw[hW3];exact((iU (w.alloc _) _ _).block _ (by simp)).trans (aF w _)
  have b1:W3.heap[w.heap.size+1]? =some (.cells #[.string key] 9 (0,0)):=by
   rw[hW3];exact((aC ((w.alloc _).alloc _) _).block _ (by simp)).trans (by have:=aF (w.alloc (.cells #[.pointer (some ⟨t,0,none⟩)] 179)) (.cells #[.string key] 9);rwa [aZ] at this)
  have b2:W3.heap[w.heap.size+1+1]? =some (.cells #[.string value] 9 (0,0)):=by
   rw[hW3];have:=aF ((w.alloc (.cells #[.pointer (some ⟨t,0,none⟩)] 179)).alloc (.cells #[.string key] 9)) (.cells #[.string value] 9);rwa [aZ,aZ] at this
  clear hW3
  have hbV:=iU W3 (.cells #[.pointer (some ⟨t,0,none⟩)] 179) (.cells #[.int .i64 0] 26)
  have hsV:((W3.alloc (.cells #[.pointer (some ⟨t,0,none⟩)] 179)).alloc (.cells #[.int .i64 0] 26)).heap.size=w.heap.size+5:=by simp[hs3]
  have hbwV:=hbW3.trans (hbV.mono (by omega))
  have c0:=(hbV.block _ (by omega)).trans b0
  have c1:=(hbV.block _ (by omega)).trans b1
  have c2:=(hbV.block _ (by omega)).trans b2
  have ctr:bK ((W3.alloc (.cells #[.pointer (some ⟨t,0,none⟩)] 179)).alloc (.cells #[.int .i64 0] 26)) t mp root 0:=(hbwV.block t htl).trans ht
  have crb:((W3.alloc (.cells #[.pointer (some ⟨t,0,none⟩)] 179)).alloc (.cells #[.int .i64 0] 26)).heap[W3.heap.size+1]? =some (.cells #[.int .i64 0] 26 (0,0)):=by
   have:=aF (W3.alloc (.cells #[.pointer (some ⟨t,0,none⟩)] 179)) (.cells #[.int .i64 0] 26);rwa [aZ] at this
  have hch:=GK t mp root 0 542 #[.pointer (some ⟨w.heap.size,0,none⟩),.pointer (some ⟨w.heap.size+1,0,none⟩),.pointer (some ⟨w.heap.size+1+1,0,none⟩)] W3
   (fun w'=>∃W b w2,Below w.heap.size w W/\R W b w2/\W3.heap.size+1<W.heap.size/\W.heap.size<=w2.heap.size/\SB t mp root 0 w.heap.size (w.heap.size+1) key w2/\w'=w2.setCell ⟨t,1,none⟩ (.int .i64 b))
   (fun w'=>∃W,Below w.heap.size w W/\R2 W w'/\W3.heap.size+1<W.heap.size/\W.heap.size<=w'.heap.size) (by omega) (fun _ _=>by kernel_rfl)
  have ctp:((W3.alloc (.cells #[.pointer (some ⟨t,0,none⟩)] 179)).alloc (.cells #[.int .i64 0] 26)).heap[W3.heap.size]? =some (.cells #[.pointer (some ⟨t,0,none⟩)] 179 (0,0)):=
   ((aC (W3.alloc _) _).block _ (by simp)).trans (aF W3 _)
  generalize (W3.alloc (.cells #[.pointer (some ⟨t,0,none⟩)] 179)).alloc (.cells #[.int .i64 0] 26)=V at*
  have hp1:=N9 t mp w.heap.size (w.heap.size+1) (w.heap.size+1+1) root 0 key V (fun b w2=>(∀g,w.heap.size<=g->g<V.drew.heap.size->w2.heap[g]? =V.drew.heap[g]?)/\V.drew.heap.size<=w2.heap.size/\R V.drew b w2) (fun w2=>(∀g,w.heap.size<=g->g<V.drew.heap.size->w2.heap[g]? =V.drew.heap[g]?)/\V.drew.heap.size<=w2.heap.size/\R2 V.drew w2) ⟨ctr,c0,c1⟩ ((HE.out V.drew w.heap.size (w.heap.size+1) (w.heap.size+1+1) hbwV.drew (aA _) (by omega) (by omega) ⟨ctr,c0,c1⟩ c2).mono fun e w1 hh=>hh.imp (fun ⟨v,h1,h2,h3⟩=>⟨v,h1,h2,h3.mono fun e2 w2 kk=>kk.imp (fun ⟨b,k1,k2,k3,k4,k5⟩=>⟨b,k1,k2,k3,k4,k5⟩) (fun ⟨k1,k2,k3,k4,k5⟩=>⟨k1,k2,k3,k4,k5⟩)⟩) (fun ⟨k1,k2,k3,k4,k5⟩=>⟨k1,k2,k3,k4,k5⟩))
  refine(hch (hp1.mono ?_)).mono ?_
  ·rintro e w' (⟨rfl,b,w2,⟨k3,k4,k5⟩,hS2,rfl⟩|⟨rfl,hS2,k3,k4,k5⟩)
   ·refine .inl ⟨rfl,⟨V.drew,b,w2,hbwV.drew,k5,(by show _<V.heap.size;omega),k4,hS2,rfl⟩,?_⟩
    rw[Below.heap_setCell _ _ _ _ (by simp;omega)]
    exact(k3 _ (by omega) (by show _<V.heap.size;omega)).trans crb
   ·refine .inr ⟨rfl,⟨V.drew,hbwV.drew,k5,(by show _<V.heap.size;omega),k4⟩,(k3 _ (by omega) (by show _<V.heap.size;omega)).trans crb,(k3 _ (by omega) (by show _<V.heap.size;omega)).trans ctp,hS2.tr⟩
  ·rintro e w' (⟨rfl,w1,⟨W,b,w2,q1,q2,q3,q4,q5,rfl⟩,hk⟩|⟨rfl,w1,⟨W,q1,q2,q3,q4⟩,hk,hT⟩)
   ·have hk5:Keep (· =t) w2 (w2.setCell ⟨t,1,none⟩ (.int .i64 b)):=Keep.setCell (M:=(· =t)) (p:=⟨t,1,none⟩) (Keep.refl _ _) (.inr rfl) _
    refine .inl ⟨rfl,W,b,w2,W3.heap.size+1,q1,q2,by omega,q3,q4,(hk5.mono (fun _ _ h=> .inr h)).trans hk (fun _ _ h=> .inl h),?_⟩
    have h5:(w2.setCell ⟨t,1,none⟩ (.int .i64 b)).heap[t]? =some (.cells #[.iface 178 mp.agg,.int .i64 b,.int .i64 0] 267 (0,0)):=by
     have:=q5.tr;unfold bK at this
     simp[World.setCell,aJ,this]
    exact(hk.block t (ah.1 h5).1 (by omega)).trans h5
   ·exact .inr ⟨rfl,W,w1,W3.heap.size+1,q1,q2,by omega,q3,q4,hk.mono (fun _ _ h=>h.symm),hT⟩
 have hC:=af (hcb _ rfl);clear hcb
 go_enter Tryz.func494,Tryz.ntmps494
 go_wp2_with (first
  |(go_at_call 139;go_must ((refine(ol t mp root 0 _ ht3).mono ?_);rintro e w1 ⟨rfl,hw⟩;subst w1))
  |(go_at_call 449;go_must ((refine(xM key _ hk1 hk2).mono ?_);rintro e w1 ⟨rfl,hw⟩;subst w1))
  |(go_at_call 541;go_must (refine hC.out.mono ?_;rintro e w1 (⟨rfl,hres⟩|⟨rfl,hres⟩)<;>refine Stop.of ?_)))
 ·refine Stop.on ?_
  go_wp2_with fail
  go_ret
  exact .inl ⟨rfl,hres⟩
 ·refine Stop.on ?_
  go_wp2_with fail
  go_ret
  exact .inr ⟨rfl,hres⟩
def cu (ps:List Pr)(key:ByteArray):Option ByteArray:=if oW ps key then(ps[cZ ps key]?).map (·.2) else none
inductive Look (σ:bR)(key:ByteArray):Nat->Int->Option ByteArray->Prop
 |nil {n}:Look σ key n 0 none
 |leaf {n b nd}:Fg σ b nd->nd.kids=[]->gu nd.pairs->Look σ key n b (cu nd.pairs key)
 |inner {n b nd r} (h:jg nd.keys key<nd.kids.length):Fg σ b nd->um nd.keys->Look σ key n nd.kids[jg nd.keys key] r->Look σ key (n+1) b r
theorem OJ (t:Nat)(mp:VS)(root:Int)(σ:bR)(S:Nat->Prop)(key:ByteArray)(r:Option ByteArray)(w:World)(h:Inv σ S mp w)(ht:bK w t mp root 0)(hk1:1<=key.size)(hk2:key.size<=128)(n:Nat)(hn:n<=40)(hl:Look σ key n root r):
  Calls Tryz.prog 332 #[.pointer (some ⟨t,0,none⟩),.string key] w fun e w'=>e= .returned (.tuple #[.string (r.getD ⟨#[]⟩),.bool r.isSome,.int .i64 0])/\Below w.heap.size w w':=by
 obtain⟨_,c1,_,_,_,_,hlt⟩:=cells3 ht
 have HL:=af hl;clear hl
 go_enter Tryz.func332,Tryz.ntmps332
 go_wp2_with (first
  |(go_at_call 139;go_must ((refine(ol t mp root 0 _ ht).mono ?_);rintro e w1 ⟨rfl,hw⟩;subst w1))
  |(go_at_call 449;go_must ((refine(xM key _ hk1 hk2).mono ?_);rintro e w1 ⟨rfl,hw⟩;subst w1)))
 go_loopw [8,9,10,11,12,13] (fun x y _ _ _ _ wr=>∃(b:Int) (d m:Nat),x= .int .i64 b/\y= .int .i64 d/\Look σ key m b r/\d+m<=40/\Below w.heap.size w wr) (fun _ y _ _ _ _ _=>41 - (intOf y).toNat)
 case atStart=>exact⟨root,0,n,rfl,rfl,HL.out,by omega,aH _ _⟩
 case round=>
  obtain⟨b,d,m,rfl,rfl,hl,hdm,hbel⟩:=hrel
  have hIr:=h.below hbel
  have htr:bK wr t mp root 0:=(hbel.block t hlt).trans ht
  cases hl with
  |nil=>
   go_wp2_with fail
   go_ret3
   exact⟨rfl,hbel⟩
  |@leaf _ _ nd hb hk hr=>
   have hb0:(b==0)=false:=by have:=hb.lo;simp;omega
   have hb00:¬b=0:=by have:=hb.lo;omega
   have hke:nd.kids.isEmpty=true:=by rw[hk];rfl
   have hnp:=hb.fits.np
   have hd40:(d:Int)<=40:=by omega
   cases hat:oW nd.pairs key with
   |false=>
    have hlk:cu nd.pairs key=none:=by unfold cu;rw[hat];rfl
    have HLK:=af hlk;clear hlk
    go_wp2_with (first
     |(go_at_call 140;go_must ((refine(oz t mp root 0 b d σ S nd _ hIr htr hb hd40).mono ?_);rintro e w1 ⟨nb,rfl,hn1,hb1⟩))
     |(go_at_call 219;go_must ((refine(kW nb nd _ S hn1.jY).mono ?_);rintro e w2 ⟨rfl,hw⟩;subst w2;rw[hke]))
     |(go_at_call 220;go_must ((refine(rz nb nd key _ S hn1.jY hr (by omega)).mono ?_);rw[hat];rintro e w3 ⟨rfl,hb3⟩)))
    go_ret3
    rw[HLK.out]
    exact⟨rfl,hbel.trans ((hb1.mono hbel.size).trans (hb3.mono (aG hbel.size hb1.size)))⟩
   |true=>
    obtain⟨hp,hkey⟩:=sQ hat
    have hlk:cu nd.pairs key=some nd.pairs[cZ nd.pairs key].2:=by unfold cu;rw[hat,if_pos rfl,bD hp];rfl
    have HLK:=af hlk;clear hlk
    generalize hP:cZ nd.pairs key=P at hp hkey HLK
    have HP:=af hP;clear hP
    go_wp2_with (first
     |(go_at_call 140;go_must ((refine(oz t mp root 0 b d σ S nd _ hIr htr hb hd40).mono ?_);rintro e w1 ⟨nb,rfl,hn1,hb1⟩))
     |(go_at_call 219;go_must ((refine(kW nb nd _ S hn1.jY).mono ?_);rintro e w2 ⟨rfl,hw⟩;subst w2;rw[hke]))
     |(go_at_call 220;go_must ((refine(rz nb nd key _ S hn1.jY hr (by omega)).mono ?_);rw[hat,HP.out];rintro e w3 ⟨rfl,hb3⟩;refine Stop.of ?_)))
    refine Stop.on ?_
    obtain⟨_,x0,x1,x2,hbn,hx0,_,_⟩:=hn1.jY.below hb3
    obtain⟨e0,_,_,_,_,_,hlt3⟩:=cells3 hbn
    obtain⟨ao0,cp0,rfl,m0,m1,_,_⟩:=aW.form hx0
    obtain⟨pb,po,rfl,d1,d2⟩:=hx0.at rfl P hp
    have hpb:=aD w3 _ d2
    go_wp2_with fail
    go_ret3
    rw[HLK.out]
    exact⟨rfl,hbel.trans ((hb1.mono hbel.size).trans (hb3.mono (aG hbel.size hb1.size)))⟩
  |@inner m _ nd _ hki hb hrs hl2=>
   have hb0:(b==0)=false:=by have:=hb.lo;simp;omega
   have hb00:¬b=0:=by have:=hb.lo;omega
   have hke:nd.kids.isEmpty=false:=by cases hq:nd.kids with|nil=>rw[hq] at hki;simp at hki|cons a b=>rfl
   have hnk:=hb.fits.nk
   have hkk:=hb.fits.kk
   have hd40:(d:Int)<=40:=by omega
   have HL2:=af hl2;clear hl2
   generalize hP:jg nd.keys key=P at hki HL2
   have HP:=af hP;clear hP
   have hpw:IntKind.i64.wrap ((d:Int)+1)=(d:Int)+1:=aS _ (by omega)
   have HKK:=af hkk;clear hkk
   go_wp2_with (first
    |(go_at_call 140;go_must ((refine(oz t mp root 0 b d σ S nd _ hIr htr hb hd40).mono ?_);rintro e w1 ⟨nb,rfl,hn1,hb1⟩))
    |(go_at_call 219;go_must ((refine(kW nb nd _ S hn1.jY).mono ?_);rintro e w2 ⟨rfl,hw⟩;subst w2;rw[hke])))
   have hN1:=hn1.jY
   obtain⟨_,x0,x1,x2,hbn,_,_,hx2⟩:=hN1
   obtain⟨_,_,e2,_,_,_,hlt3⟩:=cells3 hbn
   obtain⟨ao2,cp2,rfl,m0,m1,_,_⟩:=aW.form hx2
   obtain⟨pb,po,rfl,d2⟩:=hx2.at rfl P hki
   have hpb:=aD w1 _ d2
   have hPi:(P:Int)<(nd.kids.length:Int):=by omega
   have hKid:=(Iw nb nd key w1.drew S (hn1.jY.below ((aH _ w1).drew)) hrs (by rw[HKK.out];omega))
   rw[HP.out] at hKid
   have HKid:=af hKid;clear hKid
   refine aK (fun W=>Below w1.heap.size w1 W) (fun i=> !([6].contains i)) [0,1,2,3,4,5,6,7,8,9] rfl (by kernel_rfl) ((aH _ w1).drew) ?_
   repeat ((refine bq (v:= ?_) rfl rfl (fun _ _ _ h=>h) rfl (fun W hW=> ?_) ?_);rotate_left;(focus ((try dsimp only at hW);have q0:=(hW.cell (p:=⟨nb,2,none⟩) hlt3).trans e2;have q1:=ax hlt3 hW.size;have q2:=(hW.cell (p:=⟨pb,po+P,none⟩) hpb).trans d2;have q3:=ax hpb hW.size;first|(go_simp;first|done|with_reducible rfl)));(try simp only[Act.put,aj,av,au]))
   refine bP rfl rfl rfl ?_;intro K hK;go_simp
   refine HKid.out.mono ?_;rintro e w4 ⟨rfl,hb4⟩
   have hb4':Below w1.heap.size w1 w4:=((aH _ w1).drew).trans hb4
   refine hK.out _ _ hb4' ?_
   repeat ((refine bq (v:= ?_) rfl rfl (fun _ _ _ h=>h) rfl (fun W hW=> ?_) ?_);rotate_left;(focus ((try dsimp only at hW);have q0:=(hW.cell (p:=⟨nb,2,none⟩) hlt3).trans e2;have q1:=ax hlt3 hW.size;have q2:=(hW.cell (p:=⟨pb,po+P,none⟩) hpb).trans d2;have q3:=ax hpb hW.size;first|(go_simp;first|done|with_reducible rfl)));(try simp only[Act.put,aj,av,au]))
   refine bF ?_
   go_wp2_with fail
   go_roundw
   case rel=>exact⟨nd.kids[P],d+1,m,rfl,by go_num,HL2.out,by omega,hbel.trans ((hb1.mono hbel.size).trans (hb4'.mono (aG hbel.size hb1.size)))⟩
   case measure=>simp[intOf];omega
structure Acc (w:World)(S:Nat->Prop)(B ob mb:Nat)(v:Value)(O:List Pr)(most:Int):Prop where
 out:w.heap[ob]? =some (.cells #[v] 184 (0,0))
 own:aQ w S B 188 2 v O.length (bZ O)
 mst:w.heap[mb]? =some (.cells #[.int .i64 most] 3 (0,0))
 nob:¬S ob
 nmb:¬S mb
def lQ (ob:Nat)(v v':Value)(w w':World):Prop:=Keep (fun g=>g=ob\/v.ownBlock=some g) w w'/\∀g,v'.ownBlock=some g->v.ownBlock=some g\/w.heap.size<=g
theorem lQ.refl (ob:Nat)(v:Value)(w:World):lQ ob v v w w:=⟨Keep.refl _ _,fun _ h=> .inl h⟩
theorem lQ.trans {ob:Nat}{v v' v'':Value}{a b c:World}(h:lQ ob v v' a b)(k:lQ ob v' v'' b c):lQ ob v v'' a c:=
 ⟨h.1.trans k.1 (fun i hi x=>x.elim .inl (fun y=>(h.2 i y).elim .inr (fun z=>absurd hi (aV.2 z)))),
  fun g hg=>(k.2 g hg).elim (fun x=>h.2 g x) (fun x=> .inr (aG h.1.size x))⟩
theorem lQ.below {ob:Nat}{v:Value}{w w':World}(h:Below w.heap.size w w'):lQ ob v v w w':=⟨Keep.of_below h _,fun _ h=> .inl h⟩
theorem Acc.below {w w':World}{S:Nat->Prop}{B ob mb:Nat}{v:Value}{O:List Pr}{most:Int}(h:Acc w S B ob mb v O most)(hb:Below w.heap.size w w'):Acc w' S B ob mb v O most:=
 ⟨(hb.block _ (ah.1 h.out).1).trans h.out,h.own.below hb,(hb.block _ (ah.1 h.mst).1).trans h.mst,h.nob,h.nmb⟩
theorem I6 (B ob mb:Nat)(v:Value)(O:List Pr)(most:Int)(p:Pr)(S:Nat->Prop)(w:World)(hsub:∀g,S g->g<w.heap.size)(h:Acc w S B ob mb v O most)(hB:B<=w.heap.size)(hl:O.length<=999999):
  Calls Tryz.prog 142 #[.agg #[.string p.1,.string p.2],.pointer (some ⟨ob,0,none⟩),.pointer (some ⟨mb,0,none⟩)] w fun e w'=>e= .returned (.bool (decide (((O.length+1:Nat):Int)<most)))/\∃v',Acc w' S B ob mb v' (O++[p]) most/\lQ ob v v' w w':=by
 have hbw:=iU w (.cells #[.string p.1,.string p.2] 188) (.cells #[.string p.1,.string p.2] 188)
 obtain⟨o1,o2,o3,o4,o5⟩:=h
 have hol:=(ah.1 o1).1
 have hml:=(ah.1 o3).1
 have c0:w.cell? ⟨ob,0,none⟩=some v:=by simp[World.cell?,o1]
 have c1:w.cell? ⟨mb,0,none⟩=some (.int .i64 most):=by simp[World.cell?,o3]
 have f0:w.frozen? ⟨ob,0,none⟩=false:=by simp[World.frozen?,o1]
 obtain⟨ao0,cp0,rfl,n0,m0,_,_⟩:=o2.dL.form
 go_enter Tryz.func142,Tryz.ntmps142
 have hsrc:=iq (P:=Tryz.prog) (w:=w.alloc (.cells #[.string p.1,.string p.2] 188)) [.string p.1,.string p.2] 188 2 1 1 (tx:=184) (aZ _ _) eY rfl (by intro u hu;simp at hu;rcases hu with rfl|rfl<;>rfl)
 have hsub2:∀g,S g->g<((w.alloc (.cells #[.string p.1,.string p.2] 188)).alloc (.cells #[.string p.1,.string p.2] 188)).heap.size:=fun g hg=>ax (hsub g hg) hbw.size
 have hOl:O.length<=999999:=hl
 go_wp2_with (first
  |(at_builtin;go_must ((refine dS rfl (.tmp 5) (.tmp 7) 184 184 rfl S B 188 2 32 _ eY lM rfl (.slice ao0 O.length cp0) O.length (bZ O) rfl (o2.below hbw) (.slice (some ⟨w.heap.size+1,0,none⟩) 1 1) 1 [.string p.1,.string p.2] rfl hsrc hsub2 (aG hB hbw.size) ?_ ?_ ?_);(focus (simp only[maxLen];omega));(focus omega);intro ao1 cp1 w3 hown3 hk3 hb3 hd3;refine Stop.of ?_)))
 have hno:(Value.slice ao0 O.length cp0).ownBlock≠some ob:=o2.ne o1 (by decide)
 have hnm:(Value.slice ao0 O.length cp0).ownBlock≠some mb:=o2.ne o3 (by decide)
 have o1':=(hk3.block ob (ax hol hbw.size) hno).trans ((hbw.block ob hol).trans o1)
 have o3':=(hk3.block mb (ax hml hbw.size) hnm).trans ((hbw.block mb hml).trans o3)
 have hobm:ob≠mb:=fun e=>by rw[e] at o1;rw[o1] at o3;cases o3
 have d0:w3.cell? ⟨ob,0,none⟩=some (.slice ao0 O.length cp0):=by simp[World.cell?,o1']
 have d1:w3.cell? ⟨mb,0,none⟩=some (.int .i64 most):=by simp[World.cell?,o3']
 have d2:w3.frozen? ⟨ob,0,none⟩=false:=by simp[World.frozen?,o1']
 have hol3:=(ah.1 o1').1
 have hml3:=(ah.1 o3').1
 have hk4:Keep (· =ob) w3 (w3.setCell ⟨ob,0,none⟩ (.slice ao1 (O.length+1) cp1)):=Keep.setCell (M:=(· =ob)) (p:=⟨ob,0,none⟩) (Keep.refl _ _) (.inr rfl) _
 have o14:(w3.setCell ⟨ob,0,none⟩ (.slice ao1 (O.length+1) cp1)).heap[ob]? =some (.cells #[.slice ao1 (O.length+1) cp1] 184 (0,0)):=by simp[World.setCell,aJ,o1']
 have o34:=(hk4.block mb hml3 (fun e=>hobm e.symm)).trans o3'
 have e0:(w3.setCell ⟨ob,0,none⟩ (.slice ao1 (O.length+1) cp1)).cell? ⟨ob,0,none⟩=some (.slice ao1 (O.length+1) cp1):=by simp[World.cell?,o14]
 have e1:(w3.setCell ⟨ob,0,none⟩ (.slice ao1 (O.length+1) cp1)).cell? ⟨mb,0,none⟩=some (.int .i64 most):=by simp[World.cell?,o34]
 have hown4:=hown3.keep (w':=w3.setCell ⟨ob,0,none⟩ (.slice ao1 (O.length+1) cp1)) (S':=S) (fun g hg hl hs=>⟨hk4.block g hl (fun e=>hown3.ne o1' (by decide) (by rw[hg,e])),hs⟩)
 refine Stop.on ?_
 go_wp2_with fail
 go_ret
 refine⟨by simp,.slice ao1 (O.length+1) cp1,⟨o14,?_,o34,o4,o5⟩,⟨?_,fun g hg=> ?_⟩⟩
 ·rw[ay,lZ];exact hown4
 ·exact((Keep.of_below hbw _).trans (hk3.mono (fun _ _ h=> .inr h)) (fun _ _ h=>h)).trans hk4 (fun _ _ h=> .inl h)
 ·by_cases hgl:g<w.heap.size
  ·by_cases hv:(Value.slice ao0 O.length cp0).ownBlock=some g
   ·exact .inl hv
   ·exact absurd hg (hd3 g (ax hgl hbw.size) hv)
  ·exact .inr (aV.1 hgl)
inductive BA (σ:bR)(key:ByteArray):Nat->Int->List Pr->Prop
 |leaf {n b nd}:Fg σ b nd->nd.kids=[]->gu nd.pairs->BA σ key n b (nd.pairs.drop (cZ nd.pairs key))
 |inner {n b nd} (Ls:List (List Pr)):Fg σ b nd->nd.kids≠[]->um nd.keys->Ls.length=(nd.kids.drop (jg nd.keys key)).length->(∀i (h:i<(nd.kids.drop (jg nd.keys key)).length) (h':i<Ls.length),BA σ key n (nd.kids.drop (jg nd.keys key))[i] Ls[i])->BA σ key (n+1) b Ls.flatten
def rU (S:Nat->Prop)(B ob mb:Nat)(v:Value)(O L:List Pr)(most:Int)(w:World)(e:Ending)(w':World):Prop:=
 e= .returned (.tuple #[.bool (decide (((O.length+L.length:Nat):Int)<most)),.int .i64 0])/\∃v',Acc w' S B ob mb v' (O++L.take (most - O.length).toNat) most/\lQ ob v v' w w'
theorem E9 {w:World}{S:Nat->Prop}{k n c:Nat}{ao:Option Addr}{xs:List Value}(h:aW w S k (.slice ao n c) n xs)(i:Nat)(hi:i<=n):∃ao',(if c=i then ao else ao.map fun x=>x.add (i*k))=ao'/\aW w S k (.slice ao' (n - i) (c - i)) (n - i) (xs.drop (i*k)):=⟨_,rfl,aW.after h i hi⟩
theorem Av (t:Nat)(mp:VS)(B ob mb:Nat)(root err b deep:Int)(σ:bR)(S:Nat->Prop)(key:ByteArray)(v:Value)(O:List Pr)(most:Int)(nd:Nd)(w:World)(h:Inv σ S mp w)(ht:bK w t mp root err)(hb:Fg σ b nd)(hk:nd.kids=[])(hr:gu nd.pairs)(hd:deep<=40)
  (hA:Acc w S B ob mb v O most) (hB:B<=w.heap.size) (hO:(O.length:Int)<most) (hl:O.length+(nd.pairs.drop (cZ nd.pairs key)).length<=999999):
  Calls Tryz.prog 141 #[.pointer (some ⟨t,0,none⟩),.int .i64 b,.int .i64 deep,.string key,.func (.func 142) #[] #[.pointer (some ⟨ob,0,none⟩),.pointer (some ⟨mb,0,none⟩)]] w (rU S B ob mb v O (nd.pairs.drop (cZ nd.pairs key)) most w):=by
 have hke:nd.kids.isEmpty=true:=by rw[hk];rfl
 have hnp:=hb.fits.np
 have hp:=zb nd.pairs key
 generalize hP:cZ nd.pairs key=P at hp hl
 have HP:=af hP;clear hP
 have hsub:=h.sub
 go_enter Tryz.func141,Tryz.ntmps141
 go_wp2_with (first
  |(go_at_call 140;go_must ((refine(oz t mp root err b deep σ S nd _ h ht hb hd).mono ?_);rintro e w1 ⟨nb,rfl,hn1,hb1⟩))
  |(go_at_call 219;go_must ((refine(kW nb nd _ S hn1.jY).mono ?_);rintro e w2 ⟨rfl,hw⟩;subst w2;rw[hke]))
  |(go_at_call 220;go_must ((refine(rz nb nd key _ S hn1.jY hr (by omega)).mono ?_);rw[HP.out];rintro e w3 ⟨rfl,hb3⟩;refine Stop.of ?_)))
 obtain⟨_,hnB,x0,x1,x2,hbn,hx0,_,_⟩:=hn1.step (Step.of_below hb3)
 obtain⟨e0,_,_,_,_,_,hlt3⟩:=cells3 hbn
 obtain⟨ao0,cp0,rfl,m0,m1,_,_⟩:=aW.form hx0.dL
 obtain⟨ao',ha1,ha2⟩:=E9 hx0.dL P hp
 generalize hD:nd.pairs.drop P=D at hl
 have hDl:D.length=nd.pairs.length - P:=by rw[<-hD,bB]
 have hDs:rZ w3 S (.slice ao' (nd.pairs.length - P) (cp0 - P)) D:=by
  unfold rZ;rw[hDl,<-hD,uR];exact ha2
 have hblk:∀g o,ao'=some ⟨g,o,none⟩->w.heap.size<=g:=by
  intro g o e
  have:∃o',ao0=some ⟨g,o',none⟩:=by
   rw[e] at ha1
   split at ha1
   ·exact⟨o,ha1⟩
   ·rcases hx0.1.2 with ⟨e1,_⟩|⟨g',cap,cur,e1,_⟩
    ·have e2:ao0=none:=by injection e1
     rw[e2] at ha1;cases ha1
    ·have e2:ao0=some ⟨g',0,none⟩:=by injection e1
     rw[e2,kN,ig] at ha1;cases ha1;exact⟨_,e2⟩
  obtain⟨o',rfl⟩:=this
  exact hx0.lo g rfl
 have hvl:∀g,v.ownBlock=some g->g<w.heap.size:=fun g hg=>jk.1 (fun hh=>hA.own.lt' hh hg)
 have hobl:ob<w.heap.size:=(ah.1 hA.out).1
 have hb3w:Below w.heap.size w w3:=hb1.trans (hb3.mono hb1.size)
 have HDs:=af hDs;clear hDs ha2
 have HDl:=af hDl
 have HD:=af hD;clear hD
 have HA3:=af (hA.below hb3w)
 have HY0:lQ ob v v w w3:=lQ.below hb3w
 have hsub3:∀g,S g->g<w3.heap.size:=fun g hg=>ax (hsub g hg) hb3w.size
 have hB3:B<=w3.heap.size:=aG hB hb3w.size
 have hBl:∀g,v.ownBlock=some g->B<=g:=hA.own.lo
 have hO2:=af hO;clear hO
 clear hDl
 refine Stop.on ?_
 go_wp2_with fail
 go_loopw [17,47] (fun _ i wr=>∃(k:Nat) (vk:Value),k<=nd.pairs.length - P/\i= .int .i64 k/\Acc wr S B ob mb vk (O++D.take k) most/\((O.length+k:Nat):Int)<most/\lQ ob v vk w3 wr) (fun _ i _=>(nd.pairs.length - P) - (intOf i).toNat)
 case atStart=>exact⟨0,v,aN _,rfl,by rw[gN,fV];exact HA3.out,by rw[jw];exact hO2.out,lQ.refl _ _ _⟩
 case round=>
  obtain⟨k,vk,hkn,rfl,hAk,hOk,hY⟩:=hrel
  by_cases hlt:k<nd.pairs.length - P
  ·have hkD:k<D.length:=by rw[HDl.out];exact hlt
   obtain⟨pb,po,rfl,d1,d2⟩:=HDs.out.at rfl k hkD
   have hpw:w.heap.size<=pb:=hblk pb po rfl
   have hpb3:=aD w3 _ d1
   have hnM:¬(pb=ob\/v.ownBlock=some pb):=fun x=>x.elim (fun e=>by omega) (fun e=>by have:=hvl _ e;omega)
   have g1:=(hY.1.cell (p:=⟨pb,po+k*2,none⟩) hpb3 hnM).trans d1
   have g2:=(hY.1.cell (p:=⟨pb,po+k*2+1,none⟩) hpb3 hnM).trans d2
   have hpbr:=ax hpb3 hY.1.size
   have hbn':=aC wr (.cells #[.string D[k].1,.string D[k].2] 188)
   have hy:=I6 B ob mb vk (O++D.take k) most D[k] S (wr.alloc (.cells #[.string D[k].1,.string D[k].2] 188)) (fun g hg=>ax (hsub3 g hg) (aG hY.1.size hbn'.size)) (hAk.below hbn') (aG hB3 (aG hY.1.size hbn'.size)) (by rw[ay,aL];omega)
   rw[show (O++D.take k).length+1=O.length+(k+1) from by rw[ay,aL];omega,show O++D.take k++[D[k]]=O++D.take (k+1) from by rw[aM hkD,bC]] at hy
   have hY1:lQ ob vk vk wr (wr.alloc (.cells #[.string D[k].1,.string D[k].2] 188)):=lQ.below hbn'
   have Hy:=af hy;clear hy
   clear d1 d2
   by_cases hmo:((O.length+(k+1):Nat):Int)<most
   ·have hmo':=eT hmo
    have Hmo:=af hmo';clear hmo'
    go_wp2_with ((refine Hy.out.mono ?_);rw[Hmo.out];rintro e w4 ⟨rfl,v4,hA4,hY4⟩)
    go_roundw
    case rel=>exact⟨k+1,v4,hlt,by go_num,hA4,hmo,(hY.trans hY1).trans hY4⟩
    case measure=>simp[intOf];omega
   ·have hmo':=bH hmo
    have Hmo:=af hmo';clear hmo'
    go_wp2_with ((refine Hy.out.mono ?_);rw[Hmo.out];rintro e w4 ⟨rfl,v4,hA4,hY4⟩)
    go_ret2
    have hDlen:=HDl.out
    rw[HD.out]
    refine⟨by rw[bH (by omega)];rfl,v4,?_,HY0.trans ((hY.trans hY1).trans hY4)⟩
    rw[show (most - (O.length:Int)).toNat=k+1 from by omega]
    exact hA4
  ·obtain rfl:k=nd.pairs.length - P:=by omega
   go_wp2_with fail
   go_ret2
   have hDlen:=HDl.out
   rw[HD.out]
   refine⟨by rw[eT (by omega)];rfl,vk,?_,HY0.trans hY⟩
   rw[aI (by omega)]
   rw[aI (by omega)] at hAk
   exact hAk
def M4 (t:Nat)(mp:VS)(B ob mb:Nat)(root err:Int)(σ:bR)(S:Nat->Prop)(key:ByteArray)(most:Int)(m:Nat):Prop:=
 ∀(b:Int) (L:List Pr),BA σ key m b L->∀(deep:Int) (v:Value) (O:List Pr) (w:World),Inv σ S mp w->bK w t mp root err->deep+m<=40->0<=deep->Acc w S B ob mb v O most->B<=w.heap.size->(O.length:Int)<most->O.length+L.length<=999999->
  Calls Tryz.prog 141 #[.pointer (some ⟨t,0,none⟩),.int .i64 b,.int .i64 deep,.string key,.func (.func 142) #[] #[.pointer (some ⟨ob,0,none⟩),.pointer (some ⟨mb,0,none⟩)]] w (rU S B ob mb v O L most w)
theorem Bg (Ls:List (List Pr))(j:Nat)(h:j<Ls.length):(Ls.take (j+1)).flatten=(Ls.take j).flatten++Ls[j]:=by
 rw[aM h,KD,List.flatten_cons,List.flatten_nil,fV]
theorem MB (Ls:List (List Pr))(j:Nat):(Ls.take j).flatten.length<=Ls.flatten.length:=by
 have:=congrArg (fun l=>(List.flatten l).length) (bG j Ls)
 simp only[KD,ay] at this
 omega
theorem MC (Ls:List (List Pr))(j m:Nat)(h:j<Ls.length)(h1:(Ls.take j).flatten.length<=m)(h2:m<=(Ls.take (j+1)).flatten.length):Ls.flatten.take m=(Ls.take j).flatten++Ls[j].take (m - (Ls.take j).flatten.length):=by
 have e:Ls.flatten=(Ls.take (j+1)).flatten++(Ls.drop (j+1)).flatten:=by rw[<-KD,bG]
 rw[e,bL h2,Bg _ _ h,List.take_append,aI h1]
theorem FE (t:Nat)(mp:VS)(B ob mb:Nat)(root err b deep:Int)(σ:bR)(S:Nat->Prop)(key:ByteArray)(v:Value)(O:List Pr)(most:Int)(m:Nat)(IH:M4 t mp B ob mb root err σ S key most m)(nd:Nd)(Ls:List (List Pr))(w:World)(h:Inv σ S mp w)(ht:bK w t mp root err)(hb:Fg σ b nd)(hk:nd.kids≠[])(hr:um nd.keys)
  (hLs:Ls.length=(nd.kids.drop (jg nd.keys key)).length) (hW:∀i (h:i<(nd.kids.drop (jg nd.keys key)).length) (h':i<Ls.length),BA σ key m (nd.kids.drop (jg nd.keys key))[i] Ls[i]) (hd:deep+(m+1:Nat)<=40) (hd0:0<=deep)
  (hA:Acc w S B ob mb v O most) (hB:B<=w.heap.size) (hO:(O.length:Int)<most) (hl:O.length+Ls.flatten.length<=999999):
  Calls Tryz.prog 141 #[.pointer (some ⟨t,0,none⟩),.int .i64 b,.int .i64 deep,.string key,.func (.func 142) #[] #[.pointer (some ⟨ob,0,none⟩),.pointer (some ⟨mb,0,none⟩)]] w (rU S B ob mb v O Ls.flatten most w):=by
 have hke:nd.kids.isEmpty=false:=by cases hq:nd.kids with|nil=>exact absurd hq hk|cons a b=>rfl
 have hnk:=hb.fits.nk
 have hkk:=hb.fits.kk
 have hp:jg nd.keys key<=nd.kids.length:=by have:=zw nd.keys key;omega
 generalize hP:jg nd.keys key=P at hp hW hLs
 have HP:=af hP;clear hP
 have HKK:=af hkk;clear hkk
 have hsub:=h.sub
 have hd40:deep<=40:=by omega
 have HIH:=af IH;clear IH
 have HW:=af hW;clear hW
 have HO:=af hO;clear hO
 go_enter Tryz.func141,Tryz.ntmps141
 go_wp2_with (first
  |(go_at_call 140;go_must ((refine(oz t mp root err b deep σ S nd _ h ht hb hd40).mono ?_);rintro e w1 ⟨nb,rfl,hn1,hb1⟩))
  |(go_at_call 219;go_must ((refine(kW nb nd _ S hn1.jY).mono ?_);rintro e w2 ⟨rfl,hw⟩;subst w2;rw[hke])))
 have hn1':=hn1
 obtain⟨_,hnB,x0,x1,x2,hbn,_,_,hx2⟩:=hn1'
 obtain⟨_,_,e2,_,_,_,hlt1⟩:=cells3 hbn
 obtain⟨ao0,cp0,rfl,m0,m1,_,_⟩:=aW.form hx2.dL
 obtain⟨ao',ha1,ha2⟩:=E9 hx2.dL P hp
 simp only[iA] at ha1
 have hblk:∀g o,ao'=some ⟨g,o,none⟩->w.heap.size<=g:=by
  intro g o e
  have:∃o',ao0=some ⟨g,o',none⟩:=by
   rw[e] at ha1
   split at ha1
   ·exact⟨o,ha1⟩
   ·rcases hx2.1.2 with ⟨e1,_⟩|⟨g',cap,cur,e1,_⟩
    ·have e2:ao0=none:=by injection e1
     rw[e2] at ha1;cases ha1
    ·have e2:ao0=some ⟨g',0,none⟩:=by injection e1
     rw[e2,kN,ig] at ha1;cases ha1;exact⟨_,e2⟩
  obtain⟨o',rfl⟩:=this
  exact hx2.lo g rfl
 have hD0:(nd.kids.drop P).length=nd.kids.length - P:=bB
 have hDs1:qD w1 S (.slice ao' (nd.kids.length - P) (cp0 - P)) (nd.kids.drop P):=by
  unfold qD;rw[hD0,mP];rw[iA] at ha2;exact ha2
 have HDl:=af hD0;clear hD0 ha2
 have HLs:=af hLs;clear hLs
 have HDs1:=af hDs1;clear hDs1
 have hKid:=(Iw nb nd key w1.drew S (hn1.jY.below ((aH _ w1).drew)) hr (by rw[HKK.out];omega))
 rw[HP.out] at hKid
 have HKid:=af hKid;clear hKid
 have hPi:(P:Int)<=(nd.kids.length:Int):=by omega
 refine aK (fun W=>Below w1.heap.size w1 W) (fun i=> !([6].contains i)) [0,1,2,3,4,5,9,6,7,8] rfl (by kernel_rfl) ((aH _ w1).drew) ?_
 repeat ((refine bq (v:= ?_) rfl rfl (fun _ _ _ h=>h) rfl (fun W hW=> ?_) ?_);rotate_left;(focus ((try dsimp only at hW);have q0:=(hW.cell (p:=⟨nb,2,none⟩) hlt1).trans e2;have q1:=ax hlt1 hW.size;first|(go_simp;first|done|with_reducible rfl)));(try simp only[Act.put,aj,av,au]))
 refine bP rfl rfl rfl ?_;intro K hK;go_simp
 refine HKid.out.mono ?_;rintro e w4 ⟨rfl,hb4⟩
 have hb4':Below w1.heap.size w1 w4:=((aH _ w1).drew).trans hb4
 refine hK.out _ _ hb4' ?_
 repeat ((refine bq (v:= ?_) rfl rfl (fun _ _ _ h=>h) rfl (fun W hW=> ?_) ?_);rotate_left;(focus ((try dsimp only at hW);have q0:=(hW.cell (p:=⟨nb,2,none⟩) hlt1).trans e2;have q1:=ax hlt1 hW.size;first|(go_simp;first|done|with_reducible rfl)));(try simp only[Act.put,aj,av,au]))
 refine bF ?_
 have hb4w:Below w.heap.size w w4:=hb1.trans (hb4'.mono hb1.size)
 have hDs:qD w4 S (.slice ao' (nd.kids.length - P) (cp0 - P)) (nd.kids.drop P):=aW.below HDs1.out hb4'
 have HDs:=af hDs;clear hDs
 have hvl:∀g,v.ownBlock=some g->g<w.heap.size:=fun g hg=>jk.1 (fun hh=>hA.own.lt' hh hg)
 have hvS:∀g,v.ownBlock=some g->¬S g:=hA.own.2
 have hobS:=hA.nob
 have hobl:ob<w.heap.size:=(ah.1 hA.out).1
 have hI4:=h.below hb4w
 have htl:t<w.heap.size:=(ah.1 ht).1
 have ht4:bK w4 t mp root err:=(hb4w.block t htl).trans ht
 have hto:t≠ob:=fun e=>by have h1:=hA.out;rw[<-e,ht] at h1;cases h1
 have htv:v.ownBlock≠some t:=hA.own.ne ht (by decide)
 have HA4:=af (hA.below hb4w)
 have HY0:lQ ob v v w w4:=lQ.below hb4w
 have hB4:B<=w4.heap.size:=aG hB hb4w.size
 have hfl:=MB Ls
 have Hfl:=af hfl;clear hfl
 have hdw:IntKind.i64.wrap (deep+1)=deep+1:=aS _ (by omega)
 clear hb4 hA hPi
 go_wp2_with fail
 go_loopw [19,20,21,65] (fun _ _ _ i wr=>∃(k:Nat) (vk:Value),k<=nd.kids.length - P/\i= .int .i64 k/\Acc wr S B ob mb vk (O++(Ls.take k).flatten) most/\((O.length+(Ls.take k).flatten.length:Nat):Int)<most/\lQ ob v vk w4 wr) (fun _ _ _ i _=>(nd.kids.length - P) - (intOf i).toNat)
 case atStart=>exact⟨0,v,aN _,rfl,by simpa using HA4.out,by simpa using HO.out,lQ.refl _ _ _⟩
 case round=>
  obtain⟨k,vk,hkn,rfl,hAk,hOk,hY⟩:=hrel
  have hIr:Inv σ S mp wr:=hI4.mF hY.1 (fun g hg x=>x.elim (fun e=>hobS (by rw[<-e];exact hg)) (fun e=>hvS g e hg))
  have htr:bK wr t mp root err:=(hY.1.block t (ax htl hb4w.size) (fun x=>x.elim hto htv)).trans ht4
  have hBr:B<=wr.heap.size:=aG hB4 hY.1.size
  by_cases hlt:k<nd.kids.length - P
  ·have hkD:k<(nd.kids.drop P).length:=by rw[HDl.out];exact hlt
   have hkL:k<Ls.length:=by rw[HLs.out];exact hkD
   obtain⟨pb,po,rfl,d1⟩:=HDs.out.at rfl k hkD
   have hpw:w.heap.size<=pb:=hblk pb po rfl
   have hpb4:=aD w4 _ d1
   have hnM:¬(pb=ob\/v.ownBlock=some pb):=fun x=>x.elim (fun e=>by omega) (fun e=>by have:=hvl _ e;omega)
   have g1:=(hY.1.cell (p:=⟨pb,po+k,none⟩) hpb4 hnM).trans d1
   have hpbr:=ax hpb4 hY.1.size
   have hft:=Bg Ls k hkL
   have hlen:(Ls.take (k+1)).flatten.length=(Ls.take k).flatten.length+Ls[k].length:=by rw[hft,ay]
   have hmax:=Hfl.out (k+1)
   have hy:=HIH.out _ _ (HW.out k hkD hkL) (deep+1) vk (O++(Ls.take k).flatten) wr hIr htr (by omega) (by omega) hAk hBr (by rw[ay];exact hOk) (by rw[ay];omega)
   have Hft:=af hft;clear hft
   have Hlen:=af hlen;clear hlen
   have Hmax:=af hmax;clear hmax
   have Hy:=af hy;clear hy
   generalize hkid:(nd.kids.drop P)[k]=kd at*
   have Hkid:=af hkid;clear hkid d1
   by_cases hmo:(((O++(Ls.take k).flatten).length+Ls[k].length:Nat):Int)<most
   ·have Hmo:=af (eT hmo)
    have Hmo2:=af hmo;clear hmo
    go_wp2_with ((refine Hy.out.mono ?_);unfold rU;rw[Hmo.out];rintro e w5 ⟨rfl,v5,hA5,hY5⟩)
    go_roundw
    case rel=>
     have hmo:=Hmo2.out
     have hlen:=Hlen.out
     rw[ay] at hmo
     refine⟨k+1,v5,hlt,by go_num,?_,by omega,hY.trans hY5⟩
     rw[ay,aI (l:=Ls[k]) (by omega),bC,<-Hft.out] at hA5
     exact hA5
    case measure=>simp[intOf];omega
   ·have Hmo:=af (bH hmo)
    have Hmo2:=af hmo;clear hmo
    go_wp2_with ((refine Hy.out.mono ?_);unfold rU;rw[Hmo.out];rintro e w5 ⟨rfl,v5,hA5,hY5⟩)
    go_ret2
    have hmo:=Hmo2.out
    have hlen:=Hlen.out
    have hmax:=Hmax.out
    rw[ay] at hmo
    refine⟨by rw[bH (by omega)];rfl,v5,?_,HY0.trans (hY.trans hY5)⟩
    rw[MC Ls k _ hkL (by omega) (by omega),<-bC]
    rw[show (most - (O.length:Int)).toNat - (Ls.take k).flatten.length=(most - ((O++(Ls.take k).flatten).length:Nat)).toNat from by rw[ay];omega]
    exact hA5
  ·obtain rfl:k=nd.kids.length - P:=by omega
   go_wp2_with fail
   go_ret2
   have hall:Ls.take (nd.kids.length - P)=Ls:=aI (by rw[HLs.out,HDl.out];exact aA _)
   rw[hall] at hAk hOk
   refine⟨by rw[eT hOk];rfl,vk,?_,HY0.trans hY⟩
   rw[aI (l:=Ls.flatten) (by omega)]
   exact hAk
theorem KR (t:Nat)(mp:VS)(B ob mb:Nat)(root err:Int)(σ:bR)(S:Nat->Prop)(key:ByteArray)(most:Int):∀m,M4 t mp B ob mb root err σ S key most m:=by
 intro m
 induction m with
 |zero=>
  intro b L hL deep v O w h ht hd hd0 hA hB hO hl
  cases hL with
  |leaf hb hk hr=>exact Av t mp B ob mb root err b deep σ S key v O most _ w h ht hb hk hr (by omega) hA hB hO hl
 |succ m ih=>
  intro b L hL deep v O w h ht hd hd0 hA hB hO hl
  cases hL with
  |leaf hb hk hr=>exact Av t mp B ob mb root err b deep σ S key v O most _ w h ht hb hk hr (by omega) hA hB hO hl
  |inner Ls hb hk hr hLs hW=>exact FE t mp B ob mb root err b deep σ S key v O most m ih _ Ls w h ht hb hk hr hLs hW hd hd0 hA hB hO hl
theorem AO (t:Nat)(mp:VS)(root:Int)(key:ByteArray)(most:Int)(w:World)(ht:bK w t mp root 0)(h0:root=0\/most<=0):
  Calls Tryz.prog 82 #[.pointer (some ⟨t,0,none⟩),.string key,.int .i64 most] w fun e w'=>e= .returned (.tuple #[.slice none 0 0,.int .i64 0])/\Below w.heap.size w w':=by
 have hbm:=aC w (.cells #[.int .i64 most] 3)
 have htl:t<w.heap.size:=(ah.1 ht).1
 have ht1:=(hbm.block t htl).trans ht
 have hb2:=iU w (.cells #[.int .i64 most] 3) (.cells #[.slice none 0 0] 184)
 obtain⟨_,c1,_,_,_,_,hl2⟩:=cells3 ((hb2.block t htl).trans ht)
 have d1:=(aC (w.alloc (.cells #[.int .i64 most] 3)) (.cells #[.slice none 0 0] 184)).cell (p:=⟨w.heap.size,0,none⟩) (by simp)
 rw[show (w.alloc (.cells #[.int .i64 most] 3)).cell? ⟨w.heap.size,0,none⟩=some (.int .i64 most) from by rw[nI];rfl] at d1
 go_enter Tryz.func82,Tryz.ntmps82
 by_cases hr:root=0
 ·subst hr
  go_wp2_with (first
   |(go_at_call 139;go_must ((refine(ol t mp 0 0 _ ht1).mono ?_);rintro e w1 ⟨rfl,hw⟩;subst w1)))
  go_ret2
  exact⟨rfl,hb2⟩
 ·have hm:most<=0:=h0.resolve_left hr
  have hr2:(root==0)=false:=by simpa using hr
  go_wp2_with (first
   |(go_at_call 139;go_must ((refine(ol t mp root 0 _ ht1).mono ?_);rintro e w1 ⟨rfl,hw⟩;subst w1)))
  go_ret2
  exact⟨rfl,hb2⟩
theorem Li (t:Nat)(mp:VS)(root:Int)(σ:bR)(S:Nat->Prop)(key:ByteArray)(most:Int)(L:List Pr)(n:Nat)(w:World)(h:Inv σ S mp w)(ht:bK w t mp root 0)(hr:root≠0)(hm:0<most)(hn:n<=40)(hL:BA σ key n root L)(hl:L.length<=999999):
  Calls Tryz.prog 82 #[.pointer (some ⟨t,0,none⟩),.string key,.int .i64 most] w fun e w'=>∃v,e= .returned (.tuple #[v,.int .i64 0])/\aQ w' S w.heap.size 188 2 v (L.take most.toNat).length (bZ (L.take most.toNat))/\Below w.heap.size w w':=by
 have hbm:=aC w (.cells #[.int .i64 most] 3)
 have htl:t<w.heap.size:=(ah.1 ht).1
 have hsub:=h.sub
 have ht1:=(hbm.block t htl).trans ht
 have hb2:=iU w (.cells #[.int .i64 most] 3) (.cells #[.slice none 0 0] 184)
 obtain⟨_,c1,_,_,_,_,hl2⟩:=cells3 ((hb2.block t htl).trans ht)
 have d1:=(aC (w.alloc (.cells #[.int .i64 most] 3)) (.cells #[.slice none 0 0] 184)).cell (p:=⟨w.heap.size,0,none⟩) (by simp)
 rw[show (w.alloc (.cells #[.int .i64 most] 3)).cell? ⟨w.heap.size,0,none⟩=some (.int .i64 most) from by rw[nI];rfl] at d1
 have hr2:(root==0)=false:=by simpa using hr
 have hm2:¬most<=0:=by omega
 have hmf:∀(fn:Fn) (first cap:Array Value) (w:World),(Instr.makeFunc fn first cap).run Tryz.prog w= .ok (.func fn first cap) w:=fun _ _ _ _=>rfl
 have hA:Acc ((w.alloc (.cells #[.int .i64 most] 3)).alloc (.cells #[.slice none 0 0] 184)) S w.heap.size (w.heap.size+1) w.heap.size (.slice none 0 0) [] most:=by
  refine⟨?_,aQ.nil _ _ _ _ _,?_,fun x=>absurd (hsub _ x) (by omega),fun x=>absurd (hsub _ x) (bY _)⟩
  ·have:=aF (w.alloc (.cells #[.int .i64 most] 3)) (.cells #[.slice none 0 0] 184);rwa [aZ] at this
  ·exact((aC (w.alloc (.cells #[.int .i64 most] 3)) (.cells #[.slice none 0 0] 184)).block _ (by simp)).trans (aF _ _)
 have hw:=KR t mp w.heap.size (w.heap.size+1) w.heap.size root 0 σ S key most n root L hL 0 (.slice none 0 0) [] _ (h.below hb2) ((hb2.block t htl).trans ht) (by omega) (by omega) hA hb2.size (by simpa using hm) (by simpa using hl)
 have HW:=af hw;clear hw hA
 go_enter Tryz.func82,Tryz.ntmps82
 go_wp2_with (first
  |(go_at_call 139;go_must ((refine(ol t mp root 0 _ ht1).mono ?_);rintro e w1 ⟨rfl,hw⟩;subst w1))
  |(go_at_call 141;go_must (refine HW.out.mono ?_;rintro e w5 ⟨rfl,v,hA5,hY5⟩;have c5:w5.cell? ⟨w.heap.size+1,0,none⟩=some v:=(by simp[World.cell?,hA5.out]);have c6:=(ah.1 hA5.out).1)))
 go_ret2
 refine⟨v,rfl,?_,?_⟩
 ·have:=hA5.own
  rw[mG,show (most - (([]:List Pr).length:Int)).toNat=most.toNat from by simp] at this
  exact this
 ·exact hb2.trans (hY5.1.dY hb2.size (fun i hi x=>x.elim (fun e=>by omega) (fun e=>by simp[Value.ownBlock] at e)))
def EG (t:Nat)(mp:VS)(root:Int)(key:ByteArray)(g:Nat)(cb:Array Value)(σ:bR)(S:Nat->Prop)(N:Prop)(P:bR->Int->Prop)(W:World):Prop:=
 Calls Tryz.prog 544 #[.pointer (some ⟨t,0,none⟩),.int .i64 root,.int .i64 0,.string key,.string ⟨#[]⟩,.func (.func g) #[] cb] W fun e w1=>(∃v S1,e= .returned v/\Step S S1 W w1/\
  Calls Tryz.prog 543 #[.pointer (some ⟨t,0,none⟩),v] w1 fun e2 w2=>(∃b σ' S',e2= .returned (.int .i64 b)/\Inv σ' S' mp w2/\Step S1 S' w1 w2/\P σ' b)\/(N/\GX mp σ S1 w1 e2 w2))\/(N/\GX mp σ S W e w1)
def CQ (t:Nat)(mp:VS)(S:Nat->Prop)(P:bR->Int->Prop)(w w':World):Prop:=
 ∃σ' S' b,Inv σ' S' mp w'/\bK w' t mp b 0/\¬S' t/\P σ' b/\Keep (fun g=>S g\/g=t) w w'/\∀g,S' g->S g\/w.heap.size<=g
def zT (t:Nat)(mp:VS)(root:Int)(σ:bR)(S:Nat->Prop)(N:Prop)(w w':World):Prop:=
 N/\∃σ' S',Inv σ' S' mp w'/\bK w' t mp root 12/\¬S' t/\σ'.H=σ.H/\σ'.most=σ.most/\Keep (fun g=>S g\/g=t) w w'/\∀g,S' g->S g\/w.heap.size<=g
def O9 (mp:VS)(σ:bR)(S:Nat->Prop)(N:Prop)(W w2:World):Prop:=N/\∃σ' S',Inv σ' S' mp w2/\Step S S' W w2/\σ'.H=σ.H/\σ'.most=σ.most
theorem SB.step {t:Nat}{mp:VS}{tb kb:Nat}{root err:Int}{key:ByteArray}{S S':Nat->Prop}{W W':World}(h:SB t mp root err tb kb key W)(hs:Step S S' W W')(h1:¬S t)(h2:¬S tb)(h3:¬S kb):SB t mp root err tb kb key W':=
 ⟨(hs.1.block _ (ah.1 h.tr).1 h1).trans h.tr,(hs.1.block _ (ah.1 h.bx).1 h2).trans h.bx,(hs.1.block _ (ah.1 h.ky).1 h3).trans h.ky⟩
theorem Rp {t:Nat}{mp:VS}{tb kb g:Nat}{root:Int}{key:ByteArray}{cb:Array Value}{σ:bR}{S:Nat->Prop}{N:Prop}{P:bR->Int->Prop}{w W:World}(hEG:EG t mp root key g cb σ S N P W)(hsub:∀g,S g->g<w.heap.size)(hst:¬S t)(_hbW:Below w.heap.size w W)(htb:w.heap.size<=tb)(hkb:w.heap.size<=kb)(hSB:SB t mp root 0 tb kb key W):
  Calls Tryz.prog 544 #[.pointer (some ⟨t,0,none⟩),.int .i64 root,.int .i64 0,.string key,.string ⟨#[]⟩,.func (.func g) #[] cb] W fun e w1=>(∃v,e= .returned v/\SB t mp root 0 tb kb key w1/\
   Calls Tryz.prog 543 #[.pointer (some ⟨t,0,none⟩),v] w1 fun e2 w2=>(∃b,e2= .returned (.int .i64 b)/\SB t mp root 0 tb kb key w2/\(∀g,w.heap.size<=g->g<W.heap.size->w2.heap[g]? =W.heap[g]?)/\W.heap.size<=w2.heap.size/\(∃σ' S',Inv σ' S' mp w2/\Step S S' W w2/\P σ' b))\/
    (e2= .panicked (brk 12)/\SB t mp root 0 tb kb key w2/\(∀g,w.heap.size<=g->g<W.heap.size->w2.heap[g]? =W.heap[g]?)/\W.heap.size<=w2.heap.size/\O9 mp σ S N W w2))\/
   (e= .panicked (brk 12)/\SB t mp root 0 tb kb key w1/\(∀g,w.heap.size<=g->g<W.heap.size->w1.heap[g]? =W.heap[g]?)/\W.heap.size<=w1.heap.size/\O9 mp σ S N W w1):=by
 have hn:∀x,w.heap.size<=x->¬S x:=fun x hx hs=>absurd (hsub x hs) (aV.2 hx)
 refine hEG.mono ?_
 rintro e w1 (⟨v,S1,rfl,hs1,hG⟩|⟨hN,rfl,τ,Sτ,g1,g2,g3,g4⟩)
 ·have hS1:∀x,x<W.heap.size->¬S x->¬S1 x:=fun x hx hs h1=>(hs1.2 x h1).elim hs (fun y=>absurd hx (aV.2 y))
  have hl1:=(ah.1 hSB.tr).1
  have hl2:=(ah.1 hSB.bx).1
  have hl3:=(ah.1 hSB.ky).1
  have hfr:∀{S2:Nat->Prop} {w2:World},Step S1 S2 w1 w2->∀g,w.heap.size<=g->g<W.heap.size->w2.heap[g]? =W.heap[g]? :=fun hs2 g hg hl=>
   (hs2.1.block g (ax hl hs1.1.size) (hS1 g hl (hn g hg))).trans (hs1.1.block g hl (hn g hg))
  refine .inl ⟨v,rfl,hSB.step hs1 hst (hn _ htb) (hn _ hkb),hG.mono ?_⟩
  rintro e2 w2 (⟨b,σ',S',rfl,hI,hs2,hP⟩|⟨hN,rfl,τ,Sτ,g1,g2,g3,g4⟩)
  ·exact .inl ⟨b,rfl,(hSB.step hs1 hst (hn _ htb) (hn _ hkb)).step hs2 (hS1 _ hl1 hst) (hS1 _ hl2 (hn _ htb)) (hS1 _ hl3 (hn _ hkb)),hfr hs2,aG hs1.1.size hs2.1.size,σ',S',hI,hs1.trans hs2,hP⟩
  ·exact .inr ⟨rfl,(hSB.step hs1 hst (hn _ htb) (hn _ hkb)).step g2 (hS1 _ hl1 hst) (hS1 _ hl2 (hn _ htb)) (hS1 _ hl3 (hn _ hkb)),hfr g2,aG hs1.1.size g2.1.size,hN,τ,Sτ,g1,hs1.trans g2,g3,g4⟩
 ·exact .inr ⟨rfl,hSB.step g2 hst (hn _ htb) (hn _ hkb),fun g hg hl=>g2.1.block g hl (hn g hg),g2.1.size,hN,τ,Sτ,g1,g2,g3,g4⟩
theorem Ep {t rb:Nat}{mp:VS}{σ':bR}{S S':Nat->Prop}{w W w2 w':World}(hsub:∀g,S g->g<w.heap.size)(hst:¬S t)(htl:t<w.heap.size)(hbW:Below w.heap.size w W)(hI:Inv σ' S' mp w2)(hs:Step S S' W w2)(h1:w.heap.size<=rb)(h2:rb<W.heap.size)(hk:Keep (fun g=>g=rb\/g=t) w2 w'):
  Inv σ' S' mp w'/\¬S' t/\Keep (fun g=>S g\/g=t) w w'/\∀g,S' g->S g\/w.heap.size<=g:=by
 have hn:∀x,w.heap.size<=x->¬S x:=fun x hx hs=>absurd (hsub x hs) (aV.2 hx)
 have hS':∀x,x<W.heap.size->¬S x->¬S' x:=fun x hx hs1 h1=>(hs.2 x h1).elim hs1 (fun y=>absurd hx (aV.2 y))
 have htW:t<W.heap.size:=ax htl hbW.size
 refine⟨hI.mF hk (fun g hg x=>x.elim (fun e=>hS' rb h2 (hn rb h1) (by rw[<-e];exact hg)) (fun e=>hS' t htW hst (by rw[<-e];exact hg))),hS' t htW hst,?_,fun g hg=>(hs.2 g hg).imp id (fun y=>aG hbW.size y)⟩
 exact(((Step.of_below (S:=S) hbW).trans hs).1.mono (fun _ _ h=> .inl h)).trans hk (fun i hi x=>x.elim (fun e=>absurd hi (by rw[e];exact aV.2 h1)) .inr)
theorem OU {t:Nat}{mp:VS}{S:Nat->Prop}{P:bR->Int->Prop}{w w':World}(hsub:∀g,S g->g<w.heap.size)(hst:¬S t)(htl:t<w.heap.size)
  (h:∃W b w2 rb,Below w.heap.size w W/\(∃σ' S',Inv σ' S' mp w2/\Step S S' W w2/\P σ' b)/\w.heap.size<=rb/\rb<W.heap.size/\W.heap.size<=w2.heap.size/\Keep (fun g=>g=rb\/g=t) w2 w'/\bK w' t mp b 0):CQ t mp S P w w':=by
 obtain⟨W,b,w2,rb,hbW,⟨σ',S',hI,hs,hP⟩,h1,h2,h3,hk,ht⟩:=h
 obtain⟨a,b',c,d⟩:=Ep hsub hst htl hbW hI hs h1 h2 hk
 exact⟨σ',S',b,a,ht,b',hP,c,d⟩
theorem LV {t:Nat}{mp:VS}{root:Int}{σ:bR}{S:Nat->Prop}{N:Prop}{w w':World}(hsub:∀g,S g->g<w.heap.size)(hst:¬S t)(htl:t<w.heap.size)
  (h:∃W w2 rb,Below w.heap.size w W/\O9 mp σ S N W w2/\w.heap.size<=rb/\rb<W.heap.size/\W.heap.size<=w2.heap.size/\Keep (fun g=>g=rb\/g=t) w2 w'/\bK w' t mp root 12):zT t mp root σ S N w w':=by
 obtain⟨W,w2,rb,hbW,⟨hN,σ',S',hI,hs,g3,g4⟩,h1,h2,h3,hk,ht⟩:=h
 obtain⟨a,b',c,d⟩:=Ep hsub hst htl hbW hI hs h1 h2 hk
 exact⟨hN,σ',S',a,ht,b',g3,g4,c,d⟩
theorem N8 (t:Nat)(mp:VS)(root:Int)(σ:bR)(S:Nat->Prop)(N:Prop)(P:bR->Int->Prop)(key value:ByteArray)(w:World)(hsub:∀g,S g->g<w.heap.size)(ht:bK w t mp root 0)(hst:¬S t)(hk1:1<=key.size)(hk2:key.size<=128)(hv:value.size<=64)
  (hE:∀(W:World) (kb vb:Nat),Below w.heap.size w W->vT W S [(kb,key),(vb,value)]->EG t mp root key 545 #[.pointer (some ⟨kb,0,none⟩),.pointer (some ⟨vb,0,none⟩)] σ S N P W):
  Calls Tryz.prog 494 #[.pointer (some ⟨t,0,none⟩),.string key,.string value] w fun e w'=>(e= .returned (.int .i64 0)/\CQ t mp S P w w')\/(e= .returned (.int .i64 12)/\zT t mp root σ S N w w'):=by
 have hn:∀x,w.heap.size<=x->¬S x:=fun x hx hs=>absurd (hsub x hs) (aV.2 hx)
 refine(QM t mp root key value w (fun W b w2=>∃σ' S',Inv σ' S' mp w2/\Step S S' W w2/\P σ' b) (O9 mp σ S N) ht hk1 hk2 hv ?_).mono ?_
 ·intro W tb kb vb hbW htb hkb hvb hSB hvB
  refine Rp (hE W kb vb hbW ?_) hsub hst hbW htb hkb hSB
  intro p hp
  simp at hp
  rcases hp with rfl|rfl
  ·exact⟨hSB.ky,hn _ hkb⟩
  ·exact⟨hvB,hn _ hvb⟩
 ·rintro e w' (⟨rfl,h⟩|⟨rfl,h⟩)
  ·exact .inl ⟨rfl,OU hsub hst (ah.1 ht).1 h⟩
  ·exact .inr ⟨rfl,LV hsub hst (ah.1 ht).1 h⟩
def QX (l:List (ByteArray×Int))(hi:Option ByteArray):Option ByteArray:=match l with|[]=>hi|(k,_)::_=>some k
def kR (T:ByteArray->Option ByteArray->Int->List Pr->List Int->Prop)(hi:Option ByteArray):List (ByteArray×Int)->List Pr->List Int->Prop
 |[],cs,bs=>cs=[]/\bs=[]
 |(k,b)::l,cs,bs=>∃c cs' x bs',T k (QX l hi) b c x/\kR T hi l cs' bs'/\cs=c++cs'/\bs=x++bs'
def Within (lo:ByteArray)(hi:Option ByteArray)(k:ByteArray):Prop:=lt k lo=false/\∀h,hi=some h->lt k h=true
def Nd.row (nd:Nd)(lo:ByteArray):List (ByteArray×Int):=(lo::nd.keys).zip nd.kids
def uo (σ:bR):Nat->Nat->ByteArray->Option ByteArray->Int->List Pr->List Int->Prop
 |0,_,lo,hi,b,cs,bs=>∃nd,Fg σ b nd/\nd.Ok/\nd.kids=[]/\cs=nd.pairs/\cs≠[]/\gu cs/\(∀p∈cs,Within lo hi p.1)/\bs=[b]
 |h+1,m,lo,hi,b,cs,bs=>∃nd bs',Fg σ b nd/\nd.Ok/\nd.kids≠[]/\m<=nd.kids.length/\bs=b::bs'/\kR (uo σ h 2) hi (nd.row lo) cs bs'
theorem Within.PK {lo k:ByteArray}{hi:ByteArray}(h:Within lo (some hi) k):lt lo hi=true:=PL h.1 (h.2 hi rfl)
structure Content (lo:ByteArray)(hi:Option ByteArray)(cs:List Pr):Prop where
 ne:cs≠[]
 rise:gu cs
 within:∀p∈cs,Within lo hi p.1
theorem Content.append {lo k:ByteArray}{hi:Option ByteArray}{a b:List Pr}(ha:Content lo (some k) a)(hb:Content k hi b):Content lo hi (a++b):=by
 have hlk:lt lo k=true:=by
  obtain⟨p,r,rfl⟩:=xS ha.ne
  exact(ha.within p (by simp)).PK
 refine⟨by simp[ha.ne],?_,fun p hp=> ?_⟩
 ·refine tO.2 ⟨ha.rise,hb.rise,fun p hp q hq=> ?_⟩
  exact PI ((ha.within p hp).2 k rfl) (hb.within q hq).1
 ·rcases dG.1 hp with h|h
  ·refine⟨(ha.within p h).1,fun y hy=> ?_⟩
   obtain⟨q,r,rfl⟩:=xS hb.ne
   have hq:=hb.within q (by simp)
   exact lt_trans ((ha.within p h).2 k rfl) (PL hq.1 (hq.2 y hy))
  ·exact⟨SK (lt_asymm hlk) (hb.within p h).1,(hb.within p h).2⟩
theorem kR.content {T:ByteArray->Option ByteArray->Int->List Pr->List Int->Prop}(hT:∀k z b c x,T k z b c x->Content k z c){hi:Option ByteArray}:∀{k:ByteArray} {b:Int} {l:List (ByteArray×Int)} {cs:List Pr} {bs:List Int},kR T hi ((k,b)::l) cs bs->Content k hi cs
 |k,b,[],_,_,h=>by
  obtain⟨c,cs',x,bs',h1,⟨rfl,rfl⟩,rfl,rfl⟩:=h
  rw[fV]
  exact hT _ _ _ _ _ h1
 |k,b,(k',b')::l,_,_,h=>by
  obtain⟨c,cs',x,bs',h1,h2,rfl,rfl⟩:=h
  exact(hT _ _ _ _ _ h1).append (kR.content hT h2)
theorem uo.content {σ:bR}:∀{h m:Nat} {lo:ByteArray} {hi:Option ByteArray} {b:Int} {cs:List Pr} {bs:List Int},uo σ h m lo hi b cs bs->Content lo hi cs
 |0,_,_,_,_,_,_,⟨_,_,_,_,_,h5,h6,h7,_⟩=>⟨h5,h6,h7⟩
 |h+1,_,lo,hi,b,cs,bs,⟨nd,bs',_,_,h3,_,_,h6⟩=>by
  unfold Nd.row at h6
  cases hk:nd.kids with
  |nil=>exact absurd hk h3
  |cons a r=>
   rw[hk] at h6
   exact kR.content (fun k z b c x ht=>uo.content ht) h6
theorem qm {ps:List Pr}(hr:gu ps){key v:ByteArray}:cu ps key=some v↔(key,v)∈ps:=by
 obtain⟨f1,f2⟩:=o9 key ps hr
 constructor
 ·intro h
  unfold cu at h
  split at h
  ·rename_i hat
   obtain⟨hp,hk⟩:=sQ hat
   rw[bD hp] at h
   simp at h
   have:=bI hp
   rw[show ps[cZ ps key]=(key,v) from Prod.ext hk h] at this
   exact this
  ·cases h
 ·intro h
  obtain⟨i,hi,e⟩:=lI h
  have hle:¬i<cZ ps key:=fun hh=>by
   have:=f1 i hi hh
   rw[e] at this
   rw[lt_irrefl] at this;cases this
  have hge:¬cZ ps key<i:=fun hh=>by
   have h1:=f2 (cZ ps key) (by omega) (aA _)
   have h2:=oP.1 hr (cZ ps key) i (by omega) hi hh
   rw[e] at h2
   rw[h1] at h2;cases h2
  have hpi:cZ ps key=i:=by omega
  unfold cu oW
  rw[hpi,bD hi,e]
  simp
theorem kR.SF {T:ByteArray->Option ByteArray->Int->List Pr->List Int->Prop}(hT:∀k z b c x,T k z b c x->Content k z c){hi:Option ByteArray}:∀{k:ByteArray} {b:Int} {l:List (ByteArray×Int)} {cs:List Pr} {bs:List Int},kR T hi ((k,b)::l) cs bs->um (k::l.map (·.1))
 |k,b,[],_,_,_=>List.pairwise_singleton _ _
 |k,b,(k',b')::l,_,_,h=>by
  obtain⟨c,cs',x,bs',h1,h2,rfl,rfl⟩:=h
  have ih:=kR.SF hT h2
  have hc:=hT _ _ _ _ _ h1
  obtain⟨p,r,rfl⟩:=xS hc.ne
  have hlt:lt k k'=true:=(hc.within p (by simp)).PK
  refine dR.2 ⟨fun y hy=> ?_,ih⟩
  rcases aX.1 hy with rfl|hy
  ·exact hlt
  ·exact lt_trans hlt ((dR.1 ih).1 y hy)
theorem Da {keys:List ByteArray}{kids:List Int}(h:keys.length=kids.length - 1)(hk:kids≠[])(lo:ByteArray):∃b l,(lo::keys).zip kids=(lo,b)::l/\l.map (·.1)=keys/\kids=b::l.map (·.2):=by
 cases kids with
 |nil=>exact absurd rfl hk
 |cons b r=>
  refine⟨b,keys.zip r,rfl,?_,?_⟩
  ·rw[List.map_fst_zip];simp at h;omega
  ·rw[List.map_snd_zip];simp at h;omega
theorem uo.rising {σ:bR}{h m:Nat}{lo:ByteArray}{hi:Option ByteArray}{nd:Nd}{cs:List Pr}{bs:List Int}(ok:nd.Ok)(hk:nd.kids≠[])(hr:kR (uo σ h m) hi (nd.row lo) cs bs):um nd.keys:=by
 obtain⟨b,l,e,e2,_⟩:=Da ok.kk hk lo
 unfold Nd.row at hr
 rw[e] at hr
 have:=kR.SF (fun k z b c x ht=>uo.content ht) hr
 rw[e2] at this
 exact(dR.1 this).2
theorem kR.find {T:ByteArray->Option ByteArray->Int->List Pr->List Int->Prop}(hT:∀k z b c x,T k z b c x->Content k z c){hi:Option ByteArray}{key:ByteArray}(hhi:∀y,hi=some y->lt key y=true):∀{k:ByteArray} {b:Int} {l:List (ByteArray×Int)} {cs:List Pr} {bs:List Int},kR T hi ((k,b)::l) cs bs->lt key k=false->
  ∃(hP:jg (l.map (·.1)) key<(b::l.map (·.2)).length) (k':ByteArray) (z:Option ByteArray) (c:List Pr) (x:List Int),T k' z (b::l.map (·.2))[jg (l.map (·.1)) key] c x/\Within k' z key/\∀v,(key,v)∈cs↔(key,v)∈c
 |k,b,[],_,_,h,hk=>by
  obtain⟨c,cs',x,bs',h1,⟨rfl,rfl⟩,rfl,rfl⟩:=h
  exact⟨by simp[jg],k,hi,c,x,h1,⟨hk,hhi⟩,fun v=>by simp⟩
 |k,b,(k',b')::l,_,_,h,hk=>by
  obtain⟨c,cs',x,bs',h1,h2,rfl,rfl⟩:=h
  cases hlt:lt key k' with
  |true=>
   have e:jg (((k',b')::l).map (·.1)) key=0:=by simp[jg,hlt]
   have hc:=kR.content hT h2
   refine⟨by rw[e];simp,k,some k',c,x,?_,⟨hk,fun y hy=>by cases hy;exact hlt⟩,fun v=> ?_⟩
   ·simp only[e];exact h1
   ·rw[dG]
    constructor
    ·rintro(h|h)
     ·exact h
     ·have:=(hc.within _ h).1
      rw[hlt] at this;cases this
    ·exact .inl
  |false=>
   have e:jg (((k',b')::l).map (·.1)) key=jg (l.map (·.1)) key+1:=by simp[jg,hlt]
   obtain⟨hP,k2,z,c2,x2,g1,g2,g3⟩:=kR.find hT hhi h2 hlt
   refine⟨by rw[e];simpa using hP,k2,z,c2,x2,?_,g2,fun v=> ?_⟩
   ·simp only[e];exact g1
   ·rw[dG,<-g3]
    constructor
    ·rintro(h|h)
     ·have:=((hT _ _ _ _ _ h1).within _ h).2 k' rfl
      have h3:lt key k'=true:=this
      rw[hlt] at h3;cases h3
     ·exact h
    ·exact .inr
theorem LY {a b:List Pr}(ha:gu a)(hb:gu b){key:ByteArray}(h:∀v,(key,v)∈a↔(key,v)∈b):cu a key=cu b key:=by
 cases h1:cu a key with
 |some v=>exact((qm hb).2 ((h v).1 ((qm ha).1 h1))).symm
 |none=>
  cases h2:cu b key with
  |none=>rfl
  |some v=>
   have:=(qm ha).2 ((h v).2 ((qm hb).1 h2))
   rw[h1] at this;cases this
theorem uo.look {σ:bR}{key:ByteArray}:∀{h m:Nat} {lo:ByteArray} {hi:Option ByteArray} {b:Int} {cs:List Pr} {bs:List Int},uo σ h m lo hi b cs bs->Within lo hi key->Look σ key h b (cu cs key)
 |0,_,_,_,_,_,_,⟨nd,h1,_,h3,h4,_,h6,_,_⟩,_=>by
  subst h4
  exact .leaf h1 h3 h6
 |h+1,m,lo,hi,b,cs,bs,ht@⟨nd,bs',h1,h2,h3,_,_,h6⟩,hw=>by
  have hkeys:=uo.rising h2 h3 h6
  have hcs:=ht.content
  obtain⟨b0,l,e,e2,e3⟩:=Da h2.kk h3 lo
  unfold Nd.row at h6
  rw[e] at h6
  obtain⟨hP,k',z,c,x,g1,g2,g3⟩:=kR.find (fun k z b c x ht=>uo.content ht) (fun y hy=>hw.2 y hy) h6 hw.1
  have hl:=uo.look g1 g2
  rw[<-LY hcs.rise g1.content.rise g3] at hl
  have e4:(l.map (·.1))=nd.keys:=e2
  simp only[e4] at hP hl
  have e5:b0::l.map (·.2)=nd.kids:=e3.symm
  simp only[e5] at hP hl
  exact .inner hP h1 hkeys hl
def nh (σ:bR)(bs:List Int):Nat:=(bs.filter fun b=> !σ.held b).length
theorem wP (σ:bR)(a b:List Int):nh σ (a++b)=nh σ a+nh σ b:=by simp[nh]
theorem DW (σ:bR)(a:List Int):nh σ a<=a.length:=List.length_filter_le _ _
theorem Ie {σ:bR}{a b:List Int}(h:a.Perm b):nh σ a=nh σ b:=(h.filter _).length_eq
theorem OH {σ σ':bR}(h:σ'.H=σ.H)(x:Int):σ'.held x=σ.held x:=by unfold bR.held;rw[h]
theorem DX {σ σ':bR}(h:σ'.H=σ.H)(a:List Int):nh σ' a=nh σ a:=by
 unfold nh;congr 2;funext x;rw[OH h]
def UD (_:bR):Prop:=True
structure qO (σ σ':bR)(us bs:List Int):Prop where
 H:σ'.H=σ.H
 most:σ'.most=σ.most
 frame:∀x,σ.hasB x=true->(x∉us\/False)->σ'.hasB x=true/\σ'.mem x=σ.mem x
 new:∀x∈bs,σ'.hasB x=true/\(x∈us\/σ.hasB x=false)
 nd:us.Nodup->bs.Nodup
 size:σ'.sz+nh σ us=σ.sz+nh σ bs
 ex:∀x,σ'.hasB x=true->x∈bs\/(σ.hasB x=true/\x∉us)
theorem qO.refl {σ:bR}{us:List Int}(h:∀x∈us,σ.hasB x=true):qO σ σ us us:=
 ⟨rfl,rfl,fun _ h _=>⟨h,rfl⟩,fun x hx=>⟨h x hx,.inl hx⟩,id,rfl,fun x hx=>by
  by_cases hu:x∈us
  ·exact .inl hu
  ·exact .inr ⟨hx,hu⟩⟩
theorem qO.trans {σ σ1 σ2:bR}{us bs cs:List Int}(h:qO σ σ1 us bs)(k:qO σ1 σ2 bs cs):qO σ σ2 us cs:=by
 refine⟨k.H.trans h.H,k.most.trans h.most,fun x hx hn=> ?_,fun x hx=> ?_,fun hn=>k.nd (h.nd hn),?_,fun x hx=> ?_⟩
 ·obtain⟨a,b⟩:=h.frame x hx hn
  have hb:x∉bs\/False:=by
   rcases hn with hn|hn
   ·refine .inl fun hb=> ?_
    rcases (h.new x hb).2 with y|y
    ·exact hn y
    ·rw[hx] at y;cases y
   ·exact hn.elim
  obtain⟨c,d⟩:=k.frame x a hb
  exact⟨c,d.trans b⟩
 ·obtain⟨a,b⟩:=k.new x hx
  refine⟨a,?_⟩
  rcases b with b|b
  ·exact(h.new x b).2
  ·cases hh:σ.hasB x with
   |false=>exact .inr rfl
   |true=>
    refine .inl (yH fun hn=> ?_)
    have:=(h.frame x hh (.inl hn)).1
    rw[b] at this;cases this
 ·have a:=h.size
  have b:=k.size
  rw[DX h.H,DX h.H] at b
  omega
 ·rcases k.ex x hx with y|⟨y,z⟩
  ·exact .inl y
  ·exact .inr ((h.ex x y).resolve_left z)
theorem qO.perm {σ σ':bR}{us bs us' bs':List Int}(h:qO σ σ' us bs)(ha:us.Perm us')(hb:bs.Perm bs'):qO σ σ' us' bs':=
 ⟨h.H,h.most,fun x hx hn=>h.frame x hx (hn.imp (fun y z=>y (ha.mem_iff.1 z)) id),fun x hx=>(h.new x (hb.mem_iff.2 hx)).imp id (fun y=>y.imp ha.mem_iff.1 id),fun hn=>(hb.nodup_iff).1 (h.nd (ha.nodup_iff.2 hn)),by rw[<-Ie ha,<-Ie hb];exact h.size,fun x hx=>(h.ex x hx).imp hb.mem_iff.1 (fun y=>⟨y.1,fun z=>y.2 (ha.mem_iff.2 z)⟩)⟩
theorem qO.left {σ σ':bR}{us bs rs:List Int}(h:qO σ σ' us bs)(hn:(us++rs).Nodup)(hr:∀x∈rs,σ.hasB x=true):qO σ σ' (us++rs) (bs++rs):=by
 obtain⟨n1,n2,n3⟩:=P9.1 hn
 have hfr:∀x∈rs,x∉us:=fun x hx ha=>n3 x ha x hx rfl
 refine⟨h.H,h.most,fun x hx hm=>h.frame x hx (hm.imp (fun y z=>y (cO _ z)) id),fun x hx=> ?_,fun _=> ?_,?_,fun x hx=> ?_⟩
 ·rcases dG.1 hx with hx|hx
  ·exact(h.new x hx).imp id (fun y=>y.imp (cO _) id)
  ·exact⟨(h.frame x (hr x hx) (.inl (hfr x hx))).1,.inl (bX _ hx)⟩
 ·refine P9.2 ⟨h.nd n1,n2,fun x hx y hy e=> ?_⟩
  subst e
  rcases (h.new x hx).2 with z|z
  ·exact hfr x hy z
  ·rw[hr x hy] at z;cases z
 ·have:=h.size
  rw[wP,wP];omega
 ·rcases h.ex x hx with y|⟨y,z⟩
  ·exact .inl (cO _ y)
  ·by_cases hr:x∈rs
   ·exact .inl (bX _ hr)
   ·exact .inr ⟨y,fun e=>(dG.1 e).elim z hr⟩
theorem Ka {σ σ':bR}{b:Int}{nd:Nd}(h:Wrote σ b nd σ')(_:UD σ):qO σ σ' [] [b]:=by
 have hne:∀x,σ.hasB x=true->x≠b:=fun x hx e=>by subst e;have:=h.new;rw[hx] at this;cases this
 refine⟨h.held,h.most,fun x hx _=>⟨(h.other x (hne x hx)).1.trans hx,(h.other x (hne x hx)).2⟩,fun x hx=> ?_,fun _=>by simp,?_,fun x hx=> ?_⟩
 ·obtain rfl:x=b:=by simpa using hx
  exact⟨h.blk.has,.inr h.new⟩
 ·rw[h.size]
  have:σ.held b=false:=h.nheld
  simp[nh,this]
 ·by_cases e:x=b
  ·exact .inl (by rw[e];exact aP ..)
  ·exact .inr ⟨by rw[<-(h.other x e).1];exact hx,by simp⟩
theorem bR.wW {σ:bR}{b x:Int}(h0:0<=b)(hne:x≠b):(σ.gone b).hasB x=σ.hasB x:=by
 show (decide (0<=x) && (decide (x.toNat<σ.most) && fD σ.now b.toNat false x.toNat))=_
 unfold bR.hasB
 by_cases hx:0<=x
 ·unfold fD;rw[if_neg (by omega)]
 ·simp[hx]
theorem Bn {σ:bR}{b:Int}(hb:σ.hasB b=true):qO σ (σ.gone b) [b] []:=by
 obtain⟨n,rfl,hn,hnow⟩:=bR.kJ hb
 refine⟨rfl,rfl,fun x hx hm=>⟨?_,rfl⟩,(fun x hx=>by cases hx),(fun _=>List.nodup_nil),?_,fun x hx=> .inr ?_⟩
 ·rw[bR.wW (by omega) (fun e=>(hm.resolve_right id) (by simpa using e))]
  exact hx
 ·show countB (fun x=>fD σ.now (n:Int).toNat false x||σ.H.old x) σ.most+_=countB (fun x=>σ.now x||σ.H.old x) σ.most+_
  rw[cB]
  have hh:σ.held (n:Int)=σ.H.old n:=by unfold bR.held;rw[cB];simp
  simp only[nh,List.filter_cons,hh,List.filter_nil,ja,jw]
  cases ho:σ.H.old n with
  |true=>
   simp only[Bool.not_true,pR,if_false,ja,jw]
   refine iK _ (fun x _=> ?_)
   unfold fD
   split
   ·rename_i e;subst e;rw[ho,hnow];rfl
   ·rfl
  |false=>
   simp only[Bool.not_false,lH,dJ]
   rw[<-zL (f:=fun x=>σ.now x||σ.H.old x) (b:=n) (by rw[hnow];rfl) _ hn]
   congr 1
   refine iK _ (fun x _=> ?_)
   unfold fD
   split
   ·rename_i e;subst e;rw[ho];rfl
   ·rfl
 ·have hne:x≠(n:Int):=fun e=>by
   rw[e] at hx
   have:(decide ((0:Int)<=(n:Int)) && (decide ((n:Int).toNat<σ.most) && fD σ.now (n:Int).toNat false (n:Int).toNat))=true:=hx
   simp[fD] at this
  rw[bR.wW (by omega) hne] at hx
  exact⟨hx,by simpa using hne⟩
theorem MO {σ:bR}{S:Nat->Prop}{mp:VS}{w:World}(_:Inv σ S mp w){b:Int}(hb:σ.hasB b=true):qO σ (σ.gone b) [b] []:=Bn hb
theorem Fg.move {σ σ':bR}{b:Int}{nd:Nd}(h:Fg σ b nd)(h1:σ'.hasB b=true)(h2:σ'.mem b=σ.mem b):Fg σ' b nd:=
 ⟨h1,h.lo,h.hi,by rw[h2];exact h.mem,h.fits⟩
theorem kR.change {T T':ByteArray->Option ByteArray->Int->List Pr->List Int->Prop}{hi:Option ByteArray}:∀{l:List (ByteArray×Int)} {cs:List Pr} {bs:List Int},kR T hi l cs bs->(∀k z b c x,(∀y∈x,y∈bs)->T k z b c x->T' k z b c x)->kR T' hi l cs bs
 |[],_,_,h,_=>h
 |(k,b)::l,_,_,h,hT=>by
  obtain⟨c,cs',x,bs',h1,h2,rfl,rfl⟩:=h
  exact⟨c,cs',x,bs',hT _ _ _ _ _ (fun y hy=>cO _ hy) h1,kR.change h2 (fun k z b c x hx=>hT k z b c x (fun y hy=>bX _ (hx y hy))),rfl,rfl⟩
theorem uo.move {σ σ':bR}:∀{h m:Nat} {lo:ByteArray} {hi:Option ByteArray} {b:Int} {cs:List Pr} {bs:List Int},uo σ h m lo hi b cs bs->(∀x∈bs,σ'.hasB x=true/\σ'.mem x=σ.mem x)->uo σ' h m lo hi b cs bs
 |0,_,_,_,_,_,_,⟨nd,h1,h2,h3,h4,h5,h6,h7,h8⟩,hx=>by
  have:=hx _ (by rw[h8];exact bO.2 rfl)
  exact⟨nd,h1.move this.1 this.2,h2,h3,h4,h5,h6,h7,h8⟩
 |h+1,_,_,_,_,_,_,⟨nd,bs',h1,h2,h3,h4,h5,h6⟩,hx=>by
  subst h5
  have:=hx _ (aP ..)
  exact⟨nd,bs',h1.move this.1 this.2,h2,h3,h4,rfl,h6.change fun k z b c x hb ht=>uo.move ht fun y hy=>hx y (aT _ (hb y hy))⟩
theorem kR.has {T:ByteArray->Option ByteArray->Int->List Pr->List Int->Prop}{p:Int->Prop}(hT:∀k z b c x,T k z b c x->∀y∈x,p y){hi:Option ByteArray}:∀{l:List (ByteArray×Int)} {cs:List Pr} {bs:List Int},kR T hi l cs bs->∀y∈bs,p y
 |[],_,_,⟨_,e⟩=>by subst e;simp
 |(k,b)::l,_,_,h=>by
  obtain⟨c,cs',x,bs',h1,h2,rfl,rfl⟩:=h
  intro y hy
  rcases dG.1 hy with hy|hy
  ·exact hT _ _ _ _ _ h1 y hy
  ·exact kR.has hT h2 y hy
theorem uo.has {σ:bR}:∀{h m:Nat} {lo:ByteArray} {hi:Option ByteArray} {b:Int} {cs:List Pr} {bs:List Int},uo σ h m lo hi b cs bs->∀x∈bs,σ.hasB x=true
 |0,_,_,_,_,_,_,⟨nd,h1,_,_,_,_,_,_,h8⟩=>by
  intro x hx
  rw[h8] at hx
  rw[bO.1 hx]
  exact h1.has
 |h+1,_,_,_,_,_,_,⟨nd,bs',h1,_,_,_,h5,h6⟩=>by
  subst h5
  intro x hx
  rcases aX.1 hx with rfl|hx
  ·exact h1.has
  ·exact kR.has (fun _ _ _ _ _ ht=>uo.has ht) h6 x hx
theorem kR.count {T:ByteArray->Option ByteArray->Int->List Pr->List Int->Prop}(hT:∀k z b c x,T k z b c x->x.length+1<=2*c.length){hi:Option ByteArray}:∀{l:List (ByteArray×Int)} {cs:List Pr} {bs:List Int},kR T hi l cs bs->bs.length+l.length<=2*cs.length
 |[],_,_,⟨e,e2⟩=>by subst e e2;simp
 |(k,b)::l,_,_,h=>by
  obtain⟨c,cs',x,bs',h1,h2,rfl,rfl⟩:=h
  have a:=hT _ _ _ _ _ h1
  have b:=kR.count hT h2
  simp only[ay,aU];omega
theorem Nd.yZ (nd:Nd)(ok:nd.Ok)(hk:nd.kids≠[])(lo:ByteArray):(nd.row lo).length=nd.kids.length:=by
 have:=ok.kk
 have:=gH.2 hk
 unfold Nd.row;simp;omega
theorem uo.count {σ:bR}:∀{h m:Nat} {lo:ByteArray} {hi:Option ByteArray} {b:Int} {cs:List Pr} {bs:List Int},uo σ h m lo hi b cs bs->2<=m->bs.length+1<=2*cs.length
 |0,_,_,_,_,_,_,⟨_,_,_,_,_,h5,_,_,h8⟩,_=>by
  subst h8
  have:=gH.2 h5
  simp;omega
 |h+1,_,_,_,_,_,_,⟨nd,bs',_,h2,h3,h4,h5,h6⟩,hm=>by
  subst h5
  have:=kR.count (fun _ _ _ _ _ ht=>uo.count ht (aA 2)) h6
  rw[nd.yZ h2 h3] at this
  simp;omega
theorem uo.Rv {σ:bR}:∀{h m:Nat} {lo:ByteArray} {hi:Option ByteArray} {b:Int} {cs:List Pr} {bs:List Int},uo σ h m lo hi b cs bs->bs.length<=2*cs.length
 |0,_,_,_,_,_,_,⟨_,_,_,_,_,h5,_,_,h8⟩=>by
  subst h8
  have:=gH.2 h5
  simp;omega
 |h+1,_,_,_,_,_,_,⟨nd,bs',_,h2,h3,h4,h5,h6⟩=>by
  subst h5
  have:=kR.count (fun _ _ _ _ _ ht=>uo.count ht (aA 2)) h6
  rw[nd.yZ h2 h3] at this
  have:=gH.2 h3
  simp;omega
def UE (σ σ':bR)(W:Nat):Prop:=σ'.sz<=σ.sz+W/\∀L,σ.sz+W<=L->σ.tk<=L->σ'.tk<=L
end Go.Proofs.YtpmbddooibgnaaaGreatDoor
