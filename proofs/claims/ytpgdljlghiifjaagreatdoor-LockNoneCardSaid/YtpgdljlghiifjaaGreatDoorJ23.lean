/- parts -/
import Derived.Test.YtpgdljlghiifjaaGreatDoorJ1
import Derived.Test.YtpgdljlghiifjaaGreatDoorJ2
import Derived.Test.YtpgdljlghiifjaaGreatDoorJ3
import Derived.Test.YtpgdljlghiifjaaGreatDoorJ17
import Derived.Test.YtpgdljlghiifjaaGreatDoorJ20
import Derived.Test.YtpgdljlghiifjaaGreatDoorJ22
import Derived.Lib.ValidU
import Derived.Lib.IndexAny
import Derived.Laws.Rows
import Derived.Shelf.Strings.IndexAnyAll
import Derived.Shelf.Unicode.ValidAny
import Derived.Shelf.Small.Wraps
import Derived.Shelf.Small.Utf8
import Derived.Laws.RangeAny
namespace Go.Proofs.YtpgdljlghiifjaaGreatDoor
open Go.RowKit
set_option maxRecDepth 100000
set_option maxHeartbeats 8000000
set_option linter.all false
theorem Ng {es l o r:List lG} {key v:ByteArray} (hA:qL es key l o r) (h:d9 (ic es) key=some v):kN (ic es) key v=ic es:=by
 rw[hA.lv] at h
 rcases hA.one with rfl|⟨e,rfl,hk⟩
 ·cases h
 ·have hv:e.v=v:=by simpa using h
  rw[hA.iv e.s v e.b,hA.eq,lU,lU,lU,aL]
  congr 1
  simp[ic,hk,hv]
theorem ByteArray.bne {a b:ByteArray} (h:a≠b):(a.toList==b.toList)=false:=by
 rw[di]
 intro e
 exact h (BA (Db.1 (by rw[toList_eq,toList_eq] at e;exact e)))
section
variable {w:World} {S:Nat→Prop} {v t tr:Nat} {mp:VS} {σ:cK} {root:Int} {es:List lG} {tb:List Int} {ch:Bool} {root0:Nat} {es0:List lG} {tb0:List Int}
def Ei (w:World) (S:Nat→Prop) (v t tr:Nat) (mp:VS) (σ:cK) (es:List lG) (tb:List Int) (ch':Bool) (root0:Nat) (es0:List lG) (tb0:List Int) (c W:Nat) (qs:List Pr) (w':World):Prop:=
 ∃σ' S' root' es' tb',vN w' S' v t tr mp σ' root' es' tb' ch' root0 es0 tb0∧ic es'=qs∧σ'.H=σ.H∧σ'.most=σ.most∧gq S S' t tr w w'∧Sy σ σ' tb c∧kW σ σ' (tb++dL es) (tb'++dL es')∧(es'.length≤299→vP σ σ' W)
def N9 (w:World) (S:Nat→Prop) (v t tr:Nat) (mp:VS) (σ:cK) (ch:Bool) (root0:Nat) (es0:List lG) (tb0:List Int) (w':World):Prop:=
 ∃σ' S',Om w' S' v t tr mp σ' ch root0 es0 tb0∧σ'.H=σ.H∧gq S S' t tr w w'
theorem vN.put (h:vN w S v t tr mp σ root es tb ch root0 es0 tb0) (key value:ByteArray) (hl:es.length≤4090) (hg:1≤key.size∧key.size≤128) (hv:value.size≤49152):
  Calls Tryz.prog 38 #[.pointer (some ⟨t,0,none⟩),.string key,.string value] w fun e w'=>
   (e= .returned (.int .i64 0)∧Ei w S v t tr mp σ es tb (ch|| !decide (d9 (ic es) key=some value)) root0 es0 tb0 (2*(es.length+1)+kG value) (65+kG value) (kN (ic es) key value) w')∨
   (e= .returned (.int .i64 12)∧σ.most+nh σ tb<σ.sz+2*(es.length+1)+kG value∧N9 w S v t tr mp σ ch root0 es0 tb0 w'):=by
 obtain⟨a,o,r,hA⟩:=I6 es key
 by_cases hs:d9 (ic es) key=some value
 ·refine(J7 t tr mp root ch σ S w es a o r tb key value h.tx h.live hA hl hg hv hs).mono ?_
  rintro e w' ⟨rfl,hb⟩
  refine .inl ⟨rfl,σ,S,root,es,tb,?_,(Ng hA hs).symm,rfl,rfl,gq.of (Step.of_below hb),fun _ _ t=>t,kW.refl (fun x hx=>(h.live.all x hx).1),fun _=>(vP.refl _).more (aY _)⟩
  have:(ch|| !decide (d9 (ic es) key=some value))=ch:=by simp[hs]
  rw[this]
  exact h.below hb
 ·have hc:(ch|| !decide (d9 (ic es) key=some value))=true:=by simp[hs]
  rw[hc]
  have hno:∀(there:Bool) (was:ByteArray),(d9 (ic es) key).isSome=there∧(d9 (ic es) key).getD ByteArray.empty=was→there=true→(was.toList==value.toList)=false:=by
   rintro there was ⟨h1,h2⟩ ht
   refine ByteArray.bne fun e=>hs ?_
   subst ht
   obtain⟨x,hx⟩:=Option.isSome_iff_exists.1 h1
   rw[hx] at h2 ⊢
   rw[←e,←h2];rfl
  have hput:∀(e:Ending) (w':World),((e= .returned (.int .i64 0)∧Ef t tr mp S σ es a r tb key value w w')∨(e= .returned (.int .i64 12)∧σ.most+nh σ tb<σ.sz+2*(es.length+1)+kG value∧qK t tr mp S σ ch w w'))→
    ((e= .returned (.int .i64 0)∧Ei w S v t tr mp σ es tb true root0 es0 tb0 (2*(es.length+1)+kG value) (65+kG value) (kN (ic es) key value) w')∨(e= .returned (.int .i64 12)∧σ.most+nh σ tb<σ.sz+2*(es.length+1)+kG value∧N9 w S v t tr mp σ ch root0 es0 tb0 w')):=by
   rintro e w' (⟨rfl,σ',S',root',tb',s,nb,q1,q2,q3,q4,q5,q6⟩|⟨rfl,hr,hp⟩)
   ·exact .inl ⟨rfl,σ',S',root',_,tb',h.moved q1 q2 q3.H q4 (fun e=>by cases e),(hA.iv s value nb).symm,q3.H,q3.most,q4,q5,q3,q6⟩
   ·exact .inr ⟨rfl,hr,h.spoilt hp⟩
  by_cases hz:value.size≤63
  ·exact(GL t tr mp root ch σ S w es a o r tb key value h.tx h.live hA hl hg hz _ _ ⟨rfl,rfl⟩ (hno _ _ ⟨rfl,rfl⟩)).mono hput
  ·exact(J8 t tr mp root ch σ S w es a o r tb key value h.tx h.live hA hl hg ⟨by omega,hv⟩ _ _ ⟨rfl,rfl⟩ (hno _ _ ⟨rfl,rfl⟩)).mono hput
theorem NC {es l o r:List lG} {key:ByteArray} (hA:qL es key l o r) (h:d9 (ic es) key=none):l++r=es:=by
 rw[hA.lv] at h
 rcases hA.one with rfl|⟨e,rfl,hk⟩
 ·rw[hA.eq,dG]
 ·cases h
theorem Dg (t tr:Nat) (mp:VS) (root:Int) (ch:Bool) (σ:cK) (S:Nat→Prop) (w:World) (es l o r:List lG) (tb:List Int) (key:ByteArray) (hT:zh w S t tr mp σ root 0 ch 0) (hL:Live σ root es tb) (hA:qL es key l o r) (hl:es.length≤4090) (hg:1≤key.size∧key.size≤128) (hno:d9 (ic es) key=none):
  Calls Tryz.prog 41 #[.pointer (some ⟨t,0,none⟩),.string key] w fun e w'=>e= .returned (.tuple #[.bool false,.int .i64 0])∧zh w' S t tr mp σ root 0 ch 0∧gq S S t tr w w':=by
 have hne:=qV hT.tx hT.tree
 have HU:=af (oV t mp tr ch 0 key w hT.tx)
 have hu:iD 0 key=0:=by unfold iD;rw[if_neg (by simp),if_neg (by omega)]
 rw[hu] at HU
 have hl':(iP es).length≤4090:=by rw[eU];exact hl
 have hsm:d9 (iP es) key=none:=by
  rw[hA.lv] at hno
  rw[hA.ls]
  cases hq:o.head? with
  |none=>rfl
  |some e=>rw[hq] at hno;cases hno
 have HD:=af (zH t tr mp root ch 0 σ S w (iP es) tb key hT.tx hT.inv hT.tree hL.tree hl' hg (by rw[hsm];rfl) (by rw[hsm];exact aY _))
 obtain⟨n,hn40,hlk⟩:=hL.tree.look (by omega) key
 rw[hsm] at hlk
 have HT:=af hT
 have hlt:=(ah.1 hT.tx).1
 have HLK:=af hlk
 clear hT hu hno hsm hlk
 go_enter Tryz.func41,Tryz.ntmps41
 go_wp2_with (first
  |(go_at_call 61;go_must (refine HU.out.mono ?_;rintro e w1 ⟨hw1,rfl⟩;subst w1))
  |(go_at_call 63;go_must (refine HD.out.mono ?_;rintro e w1 ⟨rfl,hb1⟩;refine Stop.of ?_)))
 refine Stop.on ?_
 have hT1:=HT.out.below hb1
 have HDT:=af (yP tr mp root σ S key w1 hT1.inv hT1.tree hg.1 hg.2 n hn40 HLK.out)
 have c2:w1.cell? ⟨t,2,none⟩=some (.pointer (some ⟨tr,0,none⟩)):=by simp[World.cell?,hT1.tx,eX]
 have hlt1:=(ah.1 hT1.tx).1
 have HT1:=af hT1
 clear hT1
 go_wp2_with (first
  |(go_at_call 71;go_must (refine HDT.out.mono ?_;rintro e w2 ⟨rfl,hb2⟩;refine Stop.of ?_)))
 refine Stop.on ?_
 have hT2:=HT1.out.below hb2
 have hlt2:=(ah.1 hT2.tx).1
 have d3:w2.cell? ⟨t,3,none⟩=some (.bool ch):=by simp[World.cell?,hT2.tx,eX]
 have f3:w2.frozen? ⟨t,3,none⟩=false:=by simp[World.frozen?,hT2.tx]
 have HT2:=af hT2
 have hs2:gq S S t tr w w2:=gq.of (Step.of_below (hb1.trans (hb2.mono hb1.size)))
 have HS2:=af hs2
 clear hT2 hb1 hb2 hs2
 have fin:∀b:Bool,b=ch→zh (w2.setCell ⟨t,3,none⟩ (.bool b)) S t tr mp σ root 0 ch 0∧gq S S t tr w (w2.setCell ⟨t,3,none⟩ (.bool b)):=by
  rintro b rfl
  have hk3:Keep (· =t) w2 (w2.setCell ⟨t,3,none⟩ (.bool b)):=(Keep.refl (· =t) _).setCell (p:=⟨t,3,none⟩) (.inr rfl) _
  refine⟨⟨?_,(hk3.block tr (ah.1 HT2.out.tree).1 (fun e=>hne e.symm)).trans HT2.out.tree,HT2.out.inv.jZ hk3 (fun g hg e=>HT.out.nt (e▸hg)),HT.out.nt,HT.out.ntr⟩,HS2.out.trans (gq.one hk3)⟩
  simp[World.setCell,aW,HT2.out.tx]
  rfl
 have FIN:=af fin
 clear fin
 cases ch
 all_goals
  go_wp2_with fail
  go_ret2
  exact⟨rfl,FIN.out _ rfl⟩
theorem vN.delete (h:vN w S v t tr mp σ root es tb ch root0 es0 tb0) (key:ByteArray) (hl:es.length≤4090) (hg:1≤key.size∧key.size≤128):
  Calls Tryz.prog 41 #[.pointer (some ⟨t,0,none⟩),.string key] w fun e w'=>
   (e= .returned (.tuple #[.bool (d9 (ic es) key).isSome,.int .i64 0])∧Ei w S v t tr mp σ es tb (ch||(d9 (ic es) key).isSome) root0 es0 tb0 (2*(es.length+1)) 65 (lV (ic es) key) w')∨
   (e= .returned (.tuple #[.bool false,.int .i64 12])∧σ.most+nh σ tb<σ.sz+2*(es.length+1)∧N9 w S v t tr mp σ ch root0 es0 tb0 w'):=by
 obtain⟨a,o,r,hA⟩:=I6 es key
 cases hx:d9 (ic es) key with
 |none=>
  refine(Dg t tr mp root ch σ S w es a o r tb key h.tx h.live hA hl hg hx).mono ?_
  rintro e w' ⟨rfl,hT,hs⟩
  refine .inl ⟨rfl,σ,S,root,es,tb,?_,by rw[hA.dv,NC hA hx],rfl,rfl,hs,fun _ _ t=>t,kW.refl (fun x hx=>(h.live.all x hx).1),fun _=>(vP.refl _).more (aY _)⟩
  have:(ch||Option.isSome (none:Option ByteArray))=ch:=by simp
  rw[this]
  exact h.moved hT h.live rfl hs h.ch
 |some x=>
  refine(OC t tr mp root ch σ S w es a o r tb key h.tx h.live hA hl hg).mono ?_
  rw[hx]
  rintro e w' (⟨rfl,σ',S',root',tb',q1,q2,q3,q4,q5,q6⟩|⟨rfl,hr,hp⟩)
  ·have hc:(ch||Option.isSome (some x))=true:=by simp
   rw[hx,hc] at q1
   rw[hc]
   exact .inl ⟨rfl,σ',S',root',_,tb',h.moved q1 q2 q3.H q4 (fun e=>by cases e),hA.dv.symm,q3.H,q3.most,q4,q5,q3,q6⟩
  ·exact .inr ⟨rfl,hr,h.spoilt hp⟩
theorem vN.scan (h:vN w S v t tr mp σ root es tb ch root0 es0 tb0) (key:ByteArray) (most:Int) (hl:es.length≤4090):
  Calls Tryz.prog 72 #[.pointer (some ⟨t,0,none⟩),.string key,.int .i64 most] w fun e w'=>∃v,e= .returned (.tuple #[v,.int .i64 0])∧aS w' S w.heap.size 130 2 v (uS (ic es) key most).length (dH (uS (ic es) key most))∧Below w.heap.size w w':=
 Rh t tr mp root ch σ S w es tb key most h.tx h.live hl
theorem vN.no {key:ByteArray} (h:vN w S v t tr mp σ root es tb ch root0 es0 tb0) (hb:¬(1≤key.size∧key.size≤128)):
  Calls Tryz.prog 61 #[.pointer (some ⟨t,0,none⟩),.string key] w fun e w'=>w'=w∧e= .returned (.int .i64 1):=by
 have:=h.usable key
 unfold iD at this
 rwa [if_neg (by simp),if_pos (by omega)] at this
end
def y9 (kv:List Pr):Nat:=(kv.map fun p=>kG p.2).sum
theorem ValAt.cost {σ:cK} {s v:ByteArray} {b:List Int} (h:ValAt σ s v b):b.length=kG v:=by
 rcases h with ⟨_,h2,rfl⟩|⟨hd,rs,_,⟨_,h2⟩,h3,rfl⟩
 ·unfold kG;rw[if_pos h2];rfl
 ·unfold kG
  rw[if_neg (by omega)]
  have e1:=h3.hd.len
  have e2:v.data.toList.length=v.size:=by show v.data.toList.length=v.data.size;simp
  rw[e2] at e1
  simp[jL,e1];omega
theorem CU {σ:cK}:∀{es:List lG},(∀e∈es,ValAt σ e.s e.v e.b)→(dL es).length=y9 (ic es)
 |[],_=>rfl
 |e::es,h=>by
  have h1:=(h e (bg ..)).cost
  have h2:=CU (es:=es) fun x hx=>h x (aX _ hx)
  rw[CX,aC,h1,h2];rfl
def Gu (w0:kH) (v N R dn u:Nat) (kv:List Pr) (w:World):Prop:=
 ∃S pg d σ l p f root es tb,LD w S v pg d σ l p f root es tb∧VB w0 w S∧¬w0.F v∧p.blocks σ=N∧p.ring=R∧l.last=dn+1∧ic es=kv∧(tb++dL es).length=u
def o6 (w0:kH) (v t N R dn u:Nat) (kv0 kv:List Pr) (ch:Bool) (P:Nat) (w:World):Prop:=
 ∃S tr mp σ root es tb root0 es0 tb0,vN w S v t tr mp σ root es tb ch root0 es0 tb0∧VB w0 w S∧¬w0.F v∧¬w0.F t∧¬w0.F tr∧σ.most=N∧σ.H.pg.ring=R∧σ.H.lg.last=dn+1∧ic es=kv∧ic es0=kv0∧(tb0++dL es0).length=u∧σ.tk≤P
def Gw (w0:kH) (v t N R dn u:Nat) (kv0:List Pr) (w:World):Prop:=
 ∃S tr mp σ ch root0 es0 tb0,Om w S v t tr mp σ ch root0 es0 tb0∧VB w0 w S∧¬w0.F v∧¬w0.F t∧¬w0.F tr∧σ.H.pg.blocks σ.H.dk=N∧σ.H.pg.ring=R∧σ.H.lg.last=dn+1∧ic es0=kv0∧(tb0++dL es0).length=u
def SG (t:Nat) (w:World):Prop:=∃mp ch er,w.heap[t]? =some (.cells (eX mp none ch er) 110 (0,0))
section
variable {w0:kH} {w:World} {v t N R dn u P:Nat} {kv kv0:List Pr} {ch:Bool}
theorem Gu.pU {w0:World} (h:Gu w0 v N R dn u kv w):Below w0.heap.size w0 w:=by obtain⟨_,_,_,_,_,_,_,_,_,_,_,h,_⟩:=h;exact h.pU
theorem o6.pU {w0:World} (h:o6 w0 v t N R dn u kv0 kv ch P w):Below w0.heap.size w0 w:=by obtain⟨_,_,_,_,_,_,_,_,_,_,_,h,_⟩:=h;exact h.pU
theorem Gw.pU {w0:World} (h:Gw w0 v t N R dn u kv0 w):Below w0.heap.size w0 w:=by obtain⟨_,_,_,_,_,_,_,_,_,h,_⟩:=h;exact h.pU
theorem Gu.below {w':World} (h:Gu w0 v N R dn u kv w) (hb:Below w.heap.size w w'):Gu w0 v N R dn u kv w':=by
 obtain⟨S,pg,d,σ,l,p,f,root,es,tb,hA,hB,h1⟩:=h
 exact⟨S,pg,d,σ,l,p,f,root,es,tb,hA.below hb,hB.below hb,h1⟩
theorem o6.below {w':World} (h:o6 w0 v t N R dn u kv0 kv ch P w) (hb:Below w.heap.size w w'):o6 w0 v t N R dn u kv0 kv ch P w':=by
 obtain⟨S,tr,mp,σ,root,es,tb,root0,es0,tb0,hA,hB,h1⟩:=h
 exact⟨S,tr,mp,σ,root,es,tb,root0,es0,tb0,hA.below hb,hB.below hb,h1⟩
theorem Om.below {S:Nat→Prop} {tr:Nat} {mp:VS} {σ:cK} {root0:Nat} {es0:List lG} {tb0:List Int} {w':World} (h:Om w S v t tr mp σ ch root0 es0 tb0) (hb:Below w.heap.size w w'):Om w' S v t tr mp σ ch root0 es0 tb0:=by
 obtain⟨a,b,⟨r,e,c⟩,d⟩:=h
 exact⟨(hb.block v (ah.1 a).1).trans a,b,⟨r,e,c.below hb⟩,d⟩
theorem Gw.below {w':World} (h:Gw w0 v t N R dn u kv0 w) (hb:Below w.heap.size w w'):Gw w0 v t N R dn u kv0 w':=by
 obtain⟨S,tr,mp,σ,ch,root0,es0,tb0,hA,hB,h1⟩:=h
 exact⟨S,tr,mp,σ,ch,root0,es0,tb0,hA.below hb,hB.below hb,h1⟩
theorem Gu.make (w0:kH) (w:World) (n:Nat) (log:Nat) (d:Nat) (S:Nat→Prop) (hb:VB w0 w S) (h:qO w S d (Dk.new n)) (h1:6≤log) (h2:log+8≤n):
  Calls Tryz.prog 33 #[.pointer (some ⟨d,0,none⟩),.int .i64 log] w fun e w'=>∃v,e= .returned (.tuple #[.pointer (some ⟨v,0,none⟩),.int .i64 0])∧Gu w0 v (n - log) (log - 1) 0 0 [] w':=by
 refine(Ri d (Dk.new n) S log w h ⟨rfl,rfl⟩ h1 h2 (aY _)).mono ?_
 rintro e w' ⟨v,pg,σ',l',p',S',rfl,hobj,hn,hlo,hp,hN,hs⟩
 refine⟨v,rfl,S',pg,d,σ',l',p',two,0,[],[],⟨hobj,hn,hp,hN.vi,hN.base,QZ.live⟩,hb.step hs,hb.new hlo,?_,hN.ring,hN.last,rfl,rfl⟩
 unfold Pg.blocks
 rw[hN.n,hN.skip];rfl
theorem Gu.begin (h:Gu w0 v N R dn u kv w):
  Calls Tryz.prog 35 #[.pointer (some ⟨v,0,none⟩)] w fun e w'=>∃t,e= .returned (.tuple #[.pointer (some ⟨t,0,none⟩),.int .i64 0])∧o6 w0 v t N R dn u kv kv false (2+u) w':=by
 obtain⟨S,pg,d,σ,l,p,f,root,es,tb,hA,hB,h1,h2,h3,h4,h5,h6⟩:=h
 refine hA.begin.mono ?_
 rintro e w' ⟨t,tr,mp,S',rfl,_,_,hT,hs,hl1,hl2⟩
 have hok:=cK.Ok.start hA.pgr.ok.1 hA.pgr.ok.2.1 hA.base.pd hA.base.sd hA.base.two hA.base.hi hA.base.f0 hA.base.f1
 have hc:countB f (p.blocks σ)=2+(tb++dL es).length:=hA.live.own.count hok hA.live.all
 exact⟨t,rfl,S',tr,mp,_,root,es,tb,root,es,tb,hT,hB.step hs,h1,hB.new hl1,hB.new hl2,h2,h3,h4,h5,h5,h6,by rw[←h6,←hc];exact aG _⟩
theorem LD.jZ {M S:Nat→Prop} {w':World} {pg d:Nat} {σ:Dk} {l:Lg} {p:Pg} {f:Nat→Bool} {root:Nat} {es:List lG} {tb:List Int} (h:LD w S v pg d σ l p f root es tb) (hk:Keep M w w') (hM:∀g,S g∨g=v→¬M g):LD w' S v pg d σ l p f root es tb:=
 ⟨(hk.block v (ah.1 h.obj).1 (hM v (.inr rfl))).trans h.obj,h.nv,h.pgr.keep hk (fun g hg=>hM g (.inl hg)),h.vi,h.base,h.live⟩
theorem vN.jZ {M S:Nat→Prop} {w':World} {tr:Nat} {mp:VS} {σ:cK} {root:Int} {es:List lG} {tb:List Int} {root0:Nat} {es0:List lG} {tb0:List Int} (h:vN w S v t tr mp σ root es tb ch root0 es0 tb0) (hk:Keep M w w') (hM:∀g,S g∨g=v∨g=t∨g=tr→¬M g):vN w' S v t tr mp σ root es tb ch root0 es0 tb0:=
 ⟨(hk.block v (ah.1 h.obj).1 (hM v (.inr (.inl rfl)))).trans h.obj,h.nv,h.tx.keep hk (fun g hg=>hM g (hg.imp id .inr)),h.live,h.bas,h.ch⟩
theorem Om.jZ {M S:Nat→Prop} {w':World} {tr:Nat} {mp:VS} {σ:cK} {root0:Nat} {es0:List lG} {tb0:List Int} (h:Om w S v t tr mp σ ch root0 es0 tb0) (hk:Keep M w w') (hM:∀g,S g∨g=v∨g=t∨g=tr→¬M g):Om w' S v t tr mp σ ch root0 es0 tb0:=by
 obtain⟨a,b,⟨r,e,c⟩,d⟩:=h
 exact⟨(hk.block v (ah.1 a).1 (hM v (.inr (.inl rfl)))).trans a,b,⟨r,e,c.keep hk (fun g hg=>hM g (hg.imp id .inr))⟩,d⟩
def kH.next (b:kH) (w w':World):kH:=⟨fun g=>b.F g∨(w.heap.size≤g∧g<w'.heap.size),w'⟩
theorem VB.next {S M:Nat→Prop} {w':World} (h:VB w0 w S) (hk:Keep M w w') (hs:∀g,S g→g<w.heap.size):VB (w0.next w w') w' S:=
 ⟨rfl,rfl,rfl,aG _,fun _ _=>rfl,fun g hg=>hg.elim (fun e=>ax (h.fs g e) (aH h.size hk.size)) (fun e=>e.2),fun g hg e=>e.elim (h.lo g hg) (fun e=>absurd (hs g hg) (bF.2 e.1))⟩
theorem kH.no {w':World} {g:Nat} (h:¬w0.F g) (hg:g<w.heap.size):¬(w0.next w w').F g:=fun e=>e.elim h (fun e=>absurd hg (bF.2 e.1))
theorem Gu.next {M:Nat→Prop} {w':World} (h:Gu w0 v N R dn u kv w) (hk:Keep M w w') (hM:∀g,M g→w0.F g):Gu (w0.next w w') v N R dn u kv w':=by
 obtain⟨S,pg,d,σ,l,p,f,root,es,tb,hA,hB,h1,h2⟩:=h
 have hl:=(ah.1 hA.obj).1
 exact⟨S,pg,d,σ,l,p,f,root,es,tb,hA.jZ hk (fun g hg e=>hg.elim (fun x=>hB.lo g x (hM g e)) (fun x=>h1 (x▸hM g e))),hB.next hk hA.pgr.sub,kH.no h1 hl,h2⟩
theorem o6.next {M:Nat→Prop} {w':World} (h:o6 w0 v t N R dn u kv0 kv ch P w) (hk:Keep M w w') (hM:∀g,M g→w0.F g):o6 (w0.next w w') v t N R dn u kv0 kv ch P w':=by
 obtain⟨S,tr,mp,σ,root,es,tb,root0,es0,tb0,hA,hB,h1,h2,h3,h4⟩:=h
 have hl:=(ah.1 hA.obj).1
 have hl2:=(ah.1 hA.tx.tx).1
 have hl3:=(ah.1 hA.tx.tree).1
 refine⟨S,tr,mp,σ,root,es,tb,root0,es0,tb0,hA.jZ hk (fun g hg e=> ?_),hB.next hk hA.tx.inv.sub,kH.no h1 hl,kH.no h2 hl2,kH.no h3 hl3,h4⟩
 rcases hg with x|x|x|x
 ·exact hB.lo g x (hM g e)
 ·exact h1 (x▸hM g e)
 ·exact h2 (x▸hM g e)
 ·exact h3 (x▸hM g e)
theorem Gw.next {M:Nat→Prop} {w':World} (h:Gw w0 v t N R dn u kv0 w) (hk:Keep M w w') (hM:∀g,M g→w0.F g):Gw (w0.next w w') v t N R dn u kv0 w':=by
 obtain⟨S,tr,mp,σ,ch,root0,es0,tb0,hA,hB,h1,h2,h3,h4⟩:=h
 have hl:=(ah.1 hA.obj).1
 obtain⟨_,_,hx⟩:=hA.tx
 have hl2:=(ah.1 hx.tx).1
 have hl3:=(ah.1 hx.tree).1
 refine⟨S,tr,mp,σ,ch,root0,es0,tb0,hA.jZ hk (fun g hg e=> ?_),hB.next hk hx.inv.sub,kH.no h1 hl,kH.no h2 hl2,kH.no h3 hl3,h4⟩
 rcases hg with x|x|x|x
 ·exact hB.lo g x (hM g e)
 ·exact h1 (x▸hM g e)
 ·exact h2 (x▸hM g e)
 ·exact h3 (x▸hM g e)
theorem Gu.block (h:Gu w0 v N R dn u kv w) {g:Nat} (hg:w0.F g):w.heap[g]? =w0.w.heap[g]? :=by obtain⟨_,_,_,_,_,_,_,_,_,_,_,h,_⟩:=h;exact h.block g hg
theorem o6.block (h:o6 w0 v t N R dn u kv0 kv ch P w) {g:Nat} (hg:w0.F g):w.heap[g]? =w0.w.heap[g]? :=by obtain⟨_,_,_,_,_,_,_,_,_,_,_,h,_⟩:=h;exact h.block g hg
theorem Gw.block (h:Gw w0 v t N R dn u kv0 w) {g:Nat} (hg:w0.F g):w.heap[g]? =w0.w.heap[g]? :=by obtain⟨_,_,_,_,_,_,_,_,_,h,_⟩:=h;exact h.block g hg
theorem o6.sizes {S:Nat→Prop} {tr:Nat} {mp:VS} {σ:cK} {root:Int} {es:List lG} {tb:List Int} {root0:Nat} {es0:List lG} {tb0:List Int} (h:vN w S v t tr mp σ root es tb ch root0 es0 tb0):
  σ.sz≤2+(tb0++dL es0).length+nh σ tb+y9 (ic es)∧countB σ.H.old σ.most=2+(tb0++dL es0).length:=by
 have hI:=h.tx.inv
 have e1:=h.live.own.size
 have hm:=hI.ok.most
 obtain⟨hpo,hdo,hlo⟩:σ.H.pg.Ok σ.H.dk σ.H.lg∧σ.H.dk.Ok∧σ.H.lg.Ok:=by obtain⟨Sp,T,q,_⟩:=hI;exact q.pg.ok
 have hB:=h.bas.base
 have hok:=cK.Ok.start hpo hdo hB.pd hB.sd hB.two hB.hi hB.f0 hB.f1
 have hc:countB σ.H.old (σ.H.pg.blocks σ.H.dk)=2+(tb0++dL es0).length:=h.bas.live.own.count hok h.bas.live.all
 rw[←hm] at hc
 rw[nX,hc] at e1
 have e2:=qf σ (dL es)
 rw[CU h.live.val] at e2
 exact⟨by omega,hc⟩
theorem o6.get (h:o6 w0 v t N R dn u kv0 kv ch P w) (key:ByteArray) (hl:kv.length≤4090) (hg:1≤key.size∧key.size≤128):
  Calls Tryz.prog 62 #[.pointer (some ⟨t,0,none⟩),.string key] w fun e w'=>e= .returned (.tuple #[.string ((d9 kv key).getD ByteArray.empty),.bool (d9 kv key).isSome,.int .i64 0])∧o6 w0 v t N R dn u kv0 kv ch P w':=by
 obtain⟨S,tr,mp,σ,root,es,tb,root0,es0,tb0,hA,hB,h1,h2,h3,h4,h5,h6,h7,h8⟩:=h
 refine(hA.get key (by rw[←je,h7];exact hl) hg).mono ?_
 rintro e w' ⟨rfl,hT,hb⟩
 exact⟨by rw[h7],S,tr,mp,σ,root,es,tb,root0,es0,tb0,hT,hB.below hb,h1,h2,h3,h4,h5,h6,h7,h8⟩
theorem o6.put (h:o6 w0 v t N R dn u kv0 kv ch P w) (key value:ByteArray) (hl:kv.length≤4090) (hg:1≤key.size∧key.size≤128) (hv:value.size≤49152) (hP:2+u+y9 kv+2*(kv.length+1)+kG value≤P):
  Calls Tryz.prog 38 #[.pointer (some ⟨t,0,none⟩),.string key,.string value] w fun e w'=>
   (e= .returned (.int .i64 0)∧o6 w0 v t N R dn u kv0 (kN kv key value) (ch|| !decide (d9 kv key=some value)) P w')∨
   (e= .returned (.int .i64 12)∧N<2+u+y9 kv+2*(kv.length+1)+kG value∧Gw w0 v t N R dn u kv0 w'):=by
 obtain⟨S,tr,mp,σ,root,es,tb,root0,es0,tb0,hA,hB,h1,h2,h3,h4,h5,h6,h7,h8,h9,h10⟩:=h
 obtain⟨e1,e2⟩:=o6.sizes hA
 have hel:es.length=kv.length:=by rw[←h7,je]
 rw[h9,h7] at e1
 have hm:=hA.tx.inv.ok.most
 refine(hA.put key value (by omega) hg hv).mono ?_
 rintro e w' (⟨rfl,σ',S',root',es',tb',q1,q2,q3,q4,q5,q6,q7,_⟩|⟨rfl,q0,σ',S',q1,q2,q3⟩)
 ·refine .inl ⟨rfl,S',tr,mp,σ',root',es',tb',root0,es0,tb0,?_,hB.Ca h2 h3 q5,h1,h2,h3,by rw[q4,h4],by rw[q3,h5],by rw[q3,h6],by rw[q2,h7],h8,h9,q6 P (by omega) h10⟩
  rw[h7] at q1;exact q1
 ·exact .inr ⟨rfl,by omega,S',tr,mp,σ',ch,root0,es0,tb0,q1,hB.Ca h2 h3 q3,h1,h2,h3,by rw[q2,←hm,h4],by rw[q2,h5],by rw[q2,h6],h8,h9⟩
theorem o6.OV (h:o6 w0 v t N R dn u kv0 kv ch P w) (key value:ByteArray) (hl:kv.length≤4090) (hg:1≤key.size∧key.size≤128) (hv:value.size≤49152) (hi:(kN kv key value).length≤299):
  Calls Tryz.prog 38 #[.pointer (some ⟨t,0,none⟩),.string key,.string value] w fun e w'=>
   (e= .returned (.int .i64 0)∧o6 w0 v t N R dn u kv0 (kN kv key value) (ch|| !decide (d9 kv key=some value)) (P+(65+kG value)) w')∨
   (e= .returned (.int .i64 12)∧N<2+u+y9 kv+2*(kv.length+1)+kG value∧Gw w0 v t N R dn u kv0 w'):=by
 obtain⟨S,tr,mp,σ,root,es,tb,root0,es0,tb0,hA,hB,h1,h2,h3,h4,h5,h6,h7,h8,h9,h10⟩:=h
 obtain⟨e1,e2⟩:=o6.sizes hA
 have hel:es.length=kv.length:=by rw[←h7,je]
 rw[h9,h7] at e1
 have hm:=hA.tx.inv.ok.most
 have hsz:=hA.tx.inv.ok.szk
 refine(hA.put key value (by omega) hg hv).mono ?_
 rintro e w' (⟨rfl,σ',S',root',es',tb',q1,q2,q3,q4,q5,q6,q7,q8⟩|⟨rfl,q0,σ',S',q1,q2,q3⟩)
 ·refine .inl ⟨rfl,S',tr,mp,σ',root',es',tb',root0,es0,tb0,?_,hB.Ca h2 h3 q5,h1,h2,h3,by rw[q4,h4],by rw[q3,h5],by rw[q3,h6],by rw[q2,h7],h8,h9,(q8 (by rw[←je,q2,h7];exact hi)).2 _ (by omega) (by omega)⟩
  rw[h7] at q1;exact q1
 ·exact .inr ⟨rfl,by omega,S',tr,mp,σ',ch,root0,es0,tb0,q1,hB.Ca h2 h3 q3,h1,h2,h3,by rw[q2,←hm,h4],by rw[q2,h5],by rw[q2,h6],h8,h9⟩
theorem o6.delete (h:o6 w0 v t N R dn u kv0 kv ch P w) (key:ByteArray) (hl:kv.length≤4090) (hg:1≤key.size∧key.size≤128) (hi:(lV kv key).length≤299):
  Calls Tryz.prog 41 #[.pointer (some ⟨t,0,none⟩),.string key] w fun e w'=>
   (e= .returned (.tuple #[.bool (d9 kv key).isSome,.int .i64 0])∧o6 w0 v t N R dn u kv0 (lV kv key) (ch||(d9 kv key).isSome) (P+65) w')∨
   (e= .returned (.tuple #[.bool false,.int .i64 12])∧N<2+u+y9 kv+2*(kv.length+1)∧Gw w0 v t N R dn u kv0 w'):=by
 obtain⟨S,tr,mp,σ,root,es,tb,root0,es0,tb0,hA,hB,h1,h2,h3,h4,h5,h6,h7,h8,h9,h10⟩:=h
 obtain⟨e1,e2⟩:=o6.sizes hA
 have hel:es.length=kv.length:=by rw[←h7,je]
 rw[h9,h7] at e1
 have hm:=hA.tx.inv.ok.most
 have hsz:=hA.tx.inv.ok.szk
 have:=hA.delete key (by omega) hg
 rw[h7] at this
 refine this.mono ?_
 rintro e w' (⟨rfl,σ',S',root',es',tb',q1,q2,q3,q4,q5,q6,q7,q8⟩|⟨rfl,q0,σ',S',q1,q2,q3⟩)
 ·exact .inl ⟨rfl,S',tr,mp,σ',root',es',tb',root0,es0,tb0,q1,hB.Ca h2 h3 q5,h1,h2,h3,by rw[q4,h4],by rw[q3,h5],by rw[q3,h6],q2,h8,h9,(q8 (by rw[←je,q2];exact hi)).2 _ (by omega) (by omega)⟩
 ·exact .inr ⟨rfl,by omega,S',tr,mp,σ',ch,root0,es0,tb0,q1,hB.Ca h2 h3 q3,h1,h2,h3,by rw[q2,←hm,h4],by rw[q2,h5],by rw[q2,h6],h8,h9⟩
theorem Gw.usable (h:Gw w0 v t N R dn u kv0 w) (key:ByteArray):
  Calls Tryz.prog 61 #[.pointer (some ⟨t,0,none⟩),.string key] w fun e w'=>w'=w∧e= .returned (.int .i64 12):=by
 obtain⟨S,tr,mp,σ,ch,root0,es0,tb0,hA,_⟩:=h
 exact hA.usable key
theorem o6.no {key:ByteArray} (h:o6 w0 v t N R dn u kv0 kv ch P w) (hb:¬(1≤key.size∧key.size≤128)):
  Calls Tryz.prog 61 #[.pointer (some ⟨t,0,none⟩),.string key] w fun e w'=>w'=w∧e= .returned (.int .i64 1):=by
 obtain⟨S,tr,mp,σ,root,es,tb,root0,es0,tb0,hA,_⟩:=h
 exact hA.no hb
theorem o6.scan (h:o6 w0 v t N R dn u kv0 kv ch P w) (key:ByteArray) (most:Int) (hl:kv.length≤4090):
  Calls Tryz.prog 72 #[.pointer (some ⟨t,0,none⟩),.string key,.int .i64 most] w fun e w'=>∃x,e= .returned (.tuple #[x,.int .i64 0])∧aS w' fO w.heap.size 130 2 x (uS kv key most).length (dH (uS kv key most))∧o6 w0 v t N R dn u kv0 kv ch P w'∧Below w.heap.size w w':=by
 obtain⟨S,tr,mp,σ,root,es,tb,root0,es0,tb0,hA,hB,h1,h2,h3,h4,h5,h6,h7,h8⟩:=h
 refine(hA.scan key most (by rw[←je,h7];exact hl)).mono ?_
 rintro e w' ⟨x,rfl,hx,hb⟩
 rw[h7] at hx
 exact⟨x,rfl,hx.other (fun g _ e=>e.elim),⟨S,tr,mp,σ,root,es,tb,root0,es0,tb0,hA.below hb,hB.below hb,h1,h2,h3,h4,h5,h6,h7,h8⟩,hb⟩
theorem SG.usable (h:SG t w) (key:ByteArray):
  Calls Tryz.prog 61 #[.pointer (some ⟨t,0,none⟩),.string key] w fun e w'=>w'=w∧e= .returned (.int .i64 2):=by
 obtain⟨mp,ch,er,hc⟩:=h
 exact Et t mp ch er key w hc
end
theorem o6.more {w0:kH} {w:World} {v t N R dn u P P':Nat} {kv kv0:List Pr} {ch:Bool} (h:o6 w0 v t N R dn u kv0 kv ch P w) (hp:P≤P'):o6 w0 v t N R dn u kv0 kv ch P' w:=by
 obtain⟨S,tr,mp,σ,root,es,tb,root0,es0,tb0,hA,hB,h1,h2,h3,h4,h5,h6,h7,h8,h9,h10⟩:=h
 exact⟨S,tr,mp,σ,root,es,tb,root0,es0,tb0,hA,hB,h1,h2,h3,h4,h5,h6,h7,h8,h9,aH h10 hp⟩
def Bj (w:World) (B:Nat) (v:Value) (l:List UInt8):Prop:=
 ∃(g cap:Nat) (cur:Array Value) (fz:Nat×Nat),v= .slice (some ⟨g,0,none⟩) l.length cap∧B≤g∧w.heap[g]? =some (.cells cur 5 fz)∧(fz.2≤fz.1∨cur.size≤fz.1)∧l.length≤cap∧cap≤maxLen∧cur.size=cap∧cur.toList.take l.length=aJ l
theorem Bj.below {w w':World} {B:Nat} {v:Value} {l:List UInt8} (h:Bj w B v l) (hb:Below w.heap.size w w'):Bj w' B v l:=by
 obtain⟨g,cap,cur,fz,e,h1,h2,h3⟩:=h
 exact⟨g,cap,cur,fz,e,h1,(hb.block g (ah.1 h2).1).trans h2,h3⟩
theorem Bj.dD {w:World} {B:Nat} {v:Value} {l:List UInt8} (h:Bj w B v l):bE w fO 1 v l.length (aJ l):=by
 obtain⟨g,cap,cur,fz,rfl,h1,h2,h3,h4,h5,h6,h7⟩:=h
 refine⟨_,_,rfl,h4,h5,by rw[bL,aV],(fun e=>by cases e),fun ad hh=> ?_,fun j u hu=> ?_⟩
 ·cases hh
  exact⟨rfl,(ah.1 h2).1,id⟩
 ·refine⟨_,_,rfl,?_⟩
  rw[eH,CY w g j cur _ fz h2]
  rw[←h7,iE] at hu
  split at hu
  ·simpa using hu
  ·cases hu
def Qa (key value:ByteArray):Prop:=(1≤key.size∧key.size≤128)∧value.size≤49152
instance (key value:ByteArray):Decidable (Qa key value):=by unfold Qa;exact inferInstance
section
variable {F:Nat→Prop} {w w':World} {r rt:Nat} {cms:List (List Pr)} {kv:List Pr}
theorem mJ.less {S S':Nat→Prop} {v:Value} {ps:List Pr} (h:mJ w S v ps) (hS:∀g,S' g→S g):mJ w S' v ps:=bE.keep h fun g _ _ hn=>⟨rfl,fun e=>hn (hS g e)⟩
end
section
variable {b:kH} {w w':World} {v t N R dn u P:Nat} {kv kv0:List Pr} {ch:Bool}
end
theorem Keep.out {F F0:Nat→Prop} {w w':World} (h:Keep (fun g=>¬F g) w w') (hF:∀g,F0 g→F g):Keep (fun g=>¬F0 g) w w':=h.mono fun g _ e hf=>e (hF g hf)
structure Fr (F F0:Nat→Prop) (w:World) (F' F0':Nat→Prop) (w':World):Prop where
 sub:∀g,F0' g→F' g
 grow:∀g,F g→F' g
 lo:∀g,F0' g→F0 g∨w.heap.size≤g
 keep:Keep (fun g=>F g→F0 g) w w'
theorem Gu.fs {F:Nat→Prop} {w w':World} {v N R dn u:Nat} {kv:List Pr} (h:Gu ⟨F,w'⟩ v N R dn u kv w):∀g,F g→g<w'.heap.size:=by obtain⟨_,_,_,_,_,_,_,_,_,_,_,h,_⟩:=h;exact h.fs
theorem o6.fs {F:Nat→Prop} {w w':World} {v t N R dn u P:Nat} {kv kv0:List Pr} {ch:Bool} (h:o6 ⟨F,w'⟩ v t N R dn u kv0 kv ch P w):∀g,F g→g<w'.heap.size:=by obtain⟨_,_,_,_,_,_,_,_,_,_,_,h,_⟩:=h;exact h.fs
theorem Gw.fs {F:Nat→Prop} {w w':World} {v t N R dn u:Nat} {kv0:List Pr} (h:Gw ⟨F,w'⟩ v t N R dn u kv0 w):∀g,F g→g<w'.heap.size:=by obtain⟨_,_,_,_,_,_,_,_,_,h,_⟩:=h;exact h.fs
def cK.flushed (σ:cK) (d:Dk) (l:Lg):cK:={σ with H:={σ.H with dk:=d,lg:=l}}
theorem Live.turn {σ σ':cK} {root:Int} {es:List lG} {tb:List Int} (h:Live σ root es tb) (hh:∀x,σ'.hasB x=σ.hasB x) (hm:∀x,σ'.mem x=σ.mem x) (hn:∀x,σ'.held x=σ.held x) (hz:σ'.sz=σ.sz) (hc:countB σ'.H.old σ'.most=countB σ.H.old σ.most):Live σ' root es tb:=by
 have hmv:∀x∈tb++dL es,σ'.hasB x=true∧σ'.mem x=σ.mem x:=fun x hx=>⟨(hh x).trans (h.all x hx).1,hm x⟩
 refine⟨?_,fun e he=>(h.val e he).keep fun x hx=>hmv x (dA _ (mY.2 ⟨e,he,hx⟩)),⟨h.own.nd,fun x hx=>h.own.ex x ((hh x).symm.trans hx),?_⟩⟩
 ·rcases h.tree with h|⟨h,ht⟩
  ·exact .inl h
  ·exact .inr ⟨h,ht.move fun x hx=>hmv x (dz _ hx)⟩
 ·rw[hz,hc,h.own.size]
  unfold nh
  congr 3
  funext x
  rw[hn]
section
variable {w:World} {v:Nat} {S:Nat→Prop} {mp:VS} {σ:cK}
structure SA (σ:cK) (d:Dk) (l:Lg):Prop where
 vi:VI d l σ.H.pg
 last:l.last=σ.H.lg.last
 syn:l.synced=σ.H.lg.last
 n:d.n=σ.H.dk.n
 look:∀im b,σ.H.pg.look im d b=σ.H.pg.look im σ.H.dk b
theorem SA.blocks {d:Dk} {l:Lg} (h:SA σ d l):σ.H.pg.blocks d=σ.H.pg.blocks σ.H.dk:=by unfold Pg.blocks;rw[h.n]
theorem R6.sync {root:Nat} {es:List lG} {tb:List Int} (h:R6 σ root es tb) {d':Dk} {l':Lg} (hF:SA σ d' l'):R6 (σ.flushed d' l') root es tb:=by
 obtain⟨h1,h2,h3⟩:=h
 have hb:=hF.blocks
 have hl:∀b,σ.H.pg.look Im.none d' b=σ.H.pg.look Im.none σ.H.dk b:=hF.look Im.none
 refine⟨hF.vi,⟨h2.pd,hF.vi.free.1,by show 2≤σ.H.pg.blocks d';rw[hb];exact h2.two,(hl 0).trans h2.map,fun b hb'=>h2.hi b (by rw[←hb];exact hb'),h2.f0,h2.f1,?_⟩,?_⟩
 ·show I8 (σ.H.pg.look Im.none d' 1) root
  rw[hl 1];exact h2.root
 ·refine h3.turn (fun x=> ?_) (fun x=>hl _) (fun x=>rfl) ?_ ?_
  ·show (decide (0≤x) && (decide (x.toNat<σ.H.pg.blocks d') && _))=_
   rw[hb];rfl
  ·show countB _ (σ.H.pg.blocks d')=_
   rw[hb];rfl
  ·show countB _ (σ.H.pg.blocks d')=_
   rw[hb];rfl
end
theorem EN {ps:List Pr}:fT ps↔(ps.map (·.1)).Pairwise (fun a b=>lt a b=true):=by unfold fT;rw[rZ]
theorem FJ (ps:List Pr) (key v v':ByteArray):(kN ps key v).map (·.1)=(kN ps key v').map (·.1):=by unfold kN;split<;>simp[List.map_set]
theorem FI {ps:List Pr} {key v:ByteArray} (hk:key.size≤128) (hr:fT ps):fT (kN ps key v):=by
 rw[EN,FJ ps key v ⟨#[]⟩,←EN]
 exact(Az key ⟨#[]⟩ hk (by decide)).rise ps hr
structure Kv (kv:List Pr) (n:Nat):Prop where
 rise:fT kv
 len:kv.length≤n
 val:∀p∈kv,p.2.size≤49152
theorem Kv.le {kv:List Pr} {n m:Nat} (h:Kv kv n) (hm:n≤m):Kv kv m:=⟨h.rise,aH h.len hm,h.val⟩
theorem Kv.nil (n:Nat):Kv [] n:=⟨kC,aY _,by simp⟩
theorem Kv.ins {kv:List Pr} {n:Nat} (h:Kv kv n) {key value:ByteArray} (hk:key.size≤128) (hv:value.size≤49152):Kv (kN kv key value) (n+1):=by
 refine⟨FI hk h.rise,?_,fun p hp=> ?_⟩
 ·have:=h.len
  have:=(Az key ⟨#[]⟩ hk (by decide)).len kv
  have e:=congrArg List.length (FJ kv key value ⟨#[]⟩)
  simp only[dW] at e
  omega
 ·unfold kN at hp
  split at hp
  ·rcases List.mem_or_eq_of_mem_set hp with q|rfl
   ·exact h.val p q
   ·exact hv
  ·rcases bJ.1 hp with q|q
   ·exact h.val p (dZ q)
   ·rcases bK.1 q with rfl|q
    ·exact hv
    ·exact h.val p (bS q)
theorem Kv.del {kv:List Pr} {n:Nat} (h:Kv kv n) (key:ByteArray):Kv (lV kv key) n:=by
 have hs:(lV kv key).Sublist kv:=by
  unfold lV
  split
  ·have:=(oH (kv.take (dB kv key))).append (Qe 1 (kv.drop (dB kv key)))
   rw[J3,bI] at this
   exact this
  ·exact oH _
 exact⟨h.rise.sublist hs,aH hs.length_le h.len,fun p hp=>h.val p (hs.subset hp)⟩
theorem Li (p:Pr) (b:List Pr):y9 (p::b)=kG p.2+y9 b:=rfl
def jl (t:ByteArray):ByteArray:=⟨#[108]++t.data⟩
def bn.key (l:bn):ByteArray:=jl l.token
def bn.pair (l:bn):Pr:=(l.key,strOf l.enc)
theorem Iq {a b:ByteArray} (h:jl a=jl b):a=b:=by
 have e1:(#[108]++a.data).toList=(#[108]++b.data).toList:=congrArg (fun x=>x.data.toList) h
 simp only[xD,List.append_cancel_left_eq] at e1
 cases a;cases b
 exact congrArg ByteArray.mk (qB e1)
theorem sU (t:ByteArray):(jl t).size=t.size+1:=by show (#[108]++t.data).size=t.data.size+1;simp;omega
structure bn.Fit (l:bn):Prop where
 tok:l.token.size≤60
 segs:l.path.length≤12
 seg:∀s∈l.path,s.size≤64
 own:l.owner.size≤512
 till: -9223372036854775808≤l.till∧l.till<9223372036854775808
theorem uL (s:ByteArray):s.data.toList.length=s.size:=by show s.data.toList.length=s.data.size;simp
theorem jP (s:ByteArray):(kX s).length=8+s.size:=by unfold kX;rw[aC,fP,uL]
theorem Cb (l:List ByteArray) (h:∀s∈l,s.size≤64):(l.flatMap kX).length≤72*l.length:=by
 induction l with
 |nil=>exact aY _
 |cons a l ih=>
  have h1:=h a (bg ..)
  have h2:=ih fun s hs=>h s (aX _ hs)
  rw[dx,aC,jP,bf];omega
theorem bn.Fit.enc {l:bn} (h:l.Fit):l.enc.length≤1416∧8≤l.enc.length:=by
 have h1:=Cb l.path h.seg
 have h2:=h.segs
 have h3:=h.own
 unfold bn.enc
 simp only[aC,fP,jP]
 omega
theorem zO (l:List UInt8):(strOf l).size=l.length:=by show l.toArray.size=_;simp
theorem bn.Fit.cost {l:bn} (h:l.Fit):kG (strOf l.enc)≤4:=by
 have:=h.enc
 unfold kG rf
 rw[zO]
 split<;>omega
structure yS (ls:List bn):Prop where
 rise:fT (ls.map bn.pair)
 fit:∀l∈ls,l.Fit
 len:ls.length≤33
theorem yS.filter {ls:List bn} (h:yS ls) (p:bn→Bool):yS (ls.filter p):=
 ⟨h.rise.sublist ((xB).map _),fun l hl=>h.fit l (Gz.1 hl).1,aH (GA _ _) h.len⟩
theorem yS.y9 {ls:List bn} (h:∀l∈ls,l.Fit):y9 (ls.map bn.pair)≤4*ls.length:=by
 induction ls with
 |nil=>exact aY _
 |cons a l ih=>
  have h1:=(h a (bg ..)).cost
  have h2:=ih fun s hs=>h s (aX _ hs)
  rw[cO,Li,bf]
  show kG (strOf a.enc)+_≤_
  omega
theorem Pn (l:bn):lV [l.pair] l.key=[]:=by
 have h1:dB [l.pair] l.key=0:=by
  unfold dB bn.pair
  rw[xu,if_neg (by rw[lt_irrefl];simp)]
  rfl
 unfold lV mE
 rw[h1]
 show (if decide (l.key=l.key)=true then _ else _)=_
 rw[if_pos (by simp)]
 rfl
theorem JL {a b:List bn} {l:bn} (h:fT ((a++l::b).map bn.pair)):lV ((a++l::b).map bn.pair) l.key=(a++b).map bn.pair:=by
 rw[bX,cO] at h ⊢
 have h1:=mg.1 h
 have h2:=eB.1 h1.2.1
 have:=JM l.key (a.map bn.pair) [l.pair] (b.map bn.pair) (fun p hp=>h1.2.2 p hp l.pair (bg ..)) (fun p hp=>h2.1 p hp)
 rw[Pn] at this
 simpa using this
theorem MV {a b:List bn} {l:bn} (h:fT ((a++l::b).map bn.pair)):(d9 ((a++l::b).map bn.pair) l.key).isSome=true:=by
 have e:=JL h
 apply jK
 intro hn
 have:d9 ((a++l::b).map bn.pair) l.key=none:=by
  cases hq:d9 ((a++l::b).map bn.pair) l.key with
  |none=>rfl
  |some x=>rw[hq] at hn;simp at hn
 rw[CR this] at e
 have:=congrArg List.length e
 simp at this
def wN (ls:List bn) (l:bn):List bn:=ls.take (dB (ls.map bn.pair) l.key)++l::ls.drop (dB (ls.map bn.pair) l.key+(if mE (ls.map bn.pair) l.key then 1 else 0))
theorem CG (ls:List bn) (l:bn):(wN ls l).map bn.pair=kN (ls.map bn.pair) l.key (strOf l.enc):=by
 unfold wN kN
 cases hat:mE (ls.map bn.pair) l.key with
 |true=>
  obtain⟨hlt,_⟩:=nM hat
  rw[if_pos rfl,if_pos rfl,qP,if_pos hlt]
  simp[gI,fK,bn.pair]
 |false=>
  rw[if_neg (by simp),if_neg (by simp)]
  simp[gI,fK,bn.pair]
theorem yS.ins {ls:List bn} {l:bn} (h:yS ls) (hl:l.Fit) (hn:ls.length≤32):yS (wN ls l):=by
 refine⟨?_,fun x hx=> ?_,?_⟩
 ·rw[CG]
  exact FI (by have:=hl.tok;show (jl l.token).size≤128;rw[sU];omega) h.rise
 ·rcases bJ.1 hx with hx|hx
  ·exact h.fit x (dZ hx)
  ·rcases bK.1 hx with rfl|hx
   ·exact hl
   ·exact h.fit x (bS hx)
 ·unfold wN
  have:=nH (ls.map bn.pair) l.key
  simp only[aC,aD,bf,aO,dW] at this ⊢
  omega
def Hr (s:ByteArray):Bool:=decide (0<s.size) && (!decide (s=⟨#[46]⟩) && (!decide (s=⟨#[46,46]⟩) && (decide (s.size≤64) && (Lib.validD s.data.toList && !Lib.containsAny s.data.toList [47,0]))))
def wU (p:List ByteArray):Bool:=p.all Hr && decide (p.length≤12)
def zJ (c:UInt8):Bool:=decide (33≤c.toNat∧c.toNat≤126∧c.toNat≠60∧c.toNat≠62)
def bn.good (l:bn):Bool:=l.token.data.toList.all zJ && (decide (0<l.token.size) && (decide (l.token.size≤60) && (wU l.path && decide (l.owner.size≤512))))
theorem OJ {s:ByteArray} (h:Hr s=true):s.size≤64:=by
 unfold Hr at h
 simp only[dS,bY] at h
 exact h.2.2.2.1
theorem bn.good.fit {l:bn} (h:l.good=true) (ht: -9223372036854775808≤l.till∧l.till<9223372036854775808):l.Fit:=by
 unfold bn.good wU at h
 simp only[dS,bY,kU] at h
 obtain⟨_,_,h3,⟨h4,h5⟩,h6⟩:=h
 exact⟨h3,h5,fun s hs=>OJ (h4 s hs),h6,ht⟩
def live (now:Int) (ls:List bn):List bn:=ls.filter fun l=>decide (now<l.till)
def iR (ls:List bn) (l:bn) (now:Int):Int:=
 if l.good=false∨l.till≤now then 1
 else if (live now ls).any (fun x=>decide (x.token=l.token)) then 3
 else if (live now ls).any (fun x=>x.clash l) then 63
 else if 32≤(live now ls).length then 4
 else 0
def mI (ls:List bn) (l:bn) (now:Int):List bn:=if iR ls l now=0 then wN (live now ls) l else ls
theorem yS.live {ls:List bn} (h:yS ls) (now:Int):yS (live now ls):=h.filter _
theorem qJ {ls:List bn} {l:bn} {now:Int} (h:iR ls l now=0):l.good=true∧now<l.till∧(live now ls).any (fun x=>decide (x.token=l.token))=false∧(live now ls).any (fun x=>x.clash l)=false∧(live now ls).length<32:=by
 unfold iR at h
 split at h
 ·omega
 rename_i h1
 split at h
 ·omega
 rename_i h2
 split at h
 ·omega
 rename_i h3
 split at h
 ·omega
 rename_i h4
 refine⟨?_,?_,by simpa using h2,by simpa using h3,by omega⟩
 ·cases hg:l.good with
  |true=>rfl
  |false=>exact absurd (.inl hg) h1
 ·have:¬l.till≤now:=fun e=>h1 (.inr e)
  omega
theorem FL {ls:List bn} {l:bn}:(wN ls l).length≤ls.length+1:=by
 unfold wN
 have:=nH (ls.map bn.pair) l.key
 simp only[aC,aD,bf,aO,dW] at this ⊢
 omega
theorem yS.add {ls:List bn} {l:bn} {now:Int} (h:yS ls) (ht: -9223372036854775808≤l.till∧l.till<9223372036854775808):yS (mI ls l now):=by
 unfold mI
 split
 ·rename_i h0
  obtain⟨h1,_,_,_,h5⟩:=qJ h0
  exact(h.live now).ins (bn.good.fit h1 ht) (by omega)
 ·exact h
def l7 (so:bn→Bool) (ls:List bn) (k:Nat):List bn:=(ls.take k).filter (fun l=> !so l)++ls.drop k
theorem GZ (so:bn→Bool) (ls:List bn):l7 so ls 0=ls:=by simp[l7]
theorem Kh (so:bn→Bool) (ls:List bn):l7 so ls ls.length=ls.filter (fun l=> !so l):=by simp[l7]
theorem G6 {so:bn→Bool} {ls:List bn} {k:Nat} (hk:k<ls.length) (h:so ls[k]=false):l7 so ls (k+1)=l7 so ls k:=by
 unfold l7
 rw[aK hk,lu,bP hk]
 simp[h]
theorem xO (so:bn→Bool) (ls:List bn) (k:Nat):(l7 so ls k).Sublist ls:=by
 have h:ls=ls.take k++ls.drop k:=(bI k ls).symm
 conv=>rhs;rw[h]
 exact LG xB (oH _)
theorem yS.l7 {ls:List bn} (h:yS ls) (so:bn→Bool) (k:Nat):yS (l7 so ls k):=
 ⟨h.rise.sublist ((xO so ls k).map _),fun l hl=>h.fit l ((xO so ls k).subset hl),aH (xO so ls k).length_le h.len⟩
theorem Mj {so:bn→Bool} {ls:List bn} {k:Nat} (hk:k<ls.length):l7 so ls k=(ls.take k).filter (fun l=> !so l)++ls[k]::ls.drop (k+1):=by
 unfold l7
 rw[bP hk]
theorem Ki {so:bn→Bool} {ls:List bn} {k:Nat} (h:yS ls) (hk:k<ls.length) (hs:so ls[k]=true):lV ((l7 so ls k).map bn.pair) ls[k].key=(l7 so ls (k+1)).map bn.pair∧(d9 ((l7 so ls k).map bn.pair) ls[k].key).isSome=true:=by
 have hr:=(h.l7 so k).rise
 rw[Mj hk] at hr ⊢
 refine⟨?_,MV hr⟩
 rw[JL hr]
 congr 1
 unfold l7
 rw[aK hk,lu]
 simp[hs]
def oJ (so:bn→Bool) (now:Int) (ls:List bn) (k:Nat):Nat:=((ls.take k).filter fun l=>so l && decide (now<l.till)).length
theorem Ez {so:bn→Bool} {now:Int} {ls:List bn} {k:Nat} (hk:k<ls.length):oJ so now ls (k+1)=oJ so now ls k+(if so ls[k] && decide (now<ls[k].till) then 1 else 0):=by
 unfold oJ
 rw[aK hk,lu,aC]
 congr 1
 cases h:so ls[k] && decide (now<ls[k].till)<;>simp[h]
theorem Kj (so:bn→Bool) (now:Int) (ls:List bn) (k:Nat):oJ so now ls k≤ls.length:=by
 unfold oJ
 exact aH (GA _ _) (by rw[aD];omega)
section
variable {b:kH} {w w':World} {v t N R dn u P:Nat} {kv kv0:List Pr} {ch:Bool}
theorem o6.Rz (h:o6 b v t N R dn u kv0 kv ch P w):Keep (fun g=>¬b.F g) b.w w:=by
 obtain⟨_,_,_,_,_,_,_,_,_,_,_,h,_⟩:=h
 exact⟨h.os,h.tape,h.output,h.size,fun k _ hn=>h.block k (Classical.not_not.1 hn)⟩
theorem o6.SI (h:o6 b v t N R dn u kv0 kv ch P w):o6 ⟨b.F,w⟩ v t N R dn u kv0 kv ch P w:=by
 obtain⟨S,tr,mp,σ,root,es,tb,root0,es0,tb0,hA,h,h1⟩:=h
 exact⟨S,tr,mp,σ,root,es,tb,root0,es0,tb0,hA,⟨rfl,rfl,rfl,aG _,fun _ _=>rfl,fun g hg=>ax (h.fs g hg) h.size,h.lo⟩,h1⟩
theorem o6.Sg {F F':Nat→Prop} (h:o6 ⟨F',w⟩ v t N R dn u kv0 kv ch P w) (hF:∀g,F g→F' g):o6 ⟨F,w⟩ v t N R dn u kv0 kv ch P w:=by
 obtain⟨S,tr,mp,σ,root,es,tb,root0,es0,tb0,hA,h,h1,h2,h3,h4⟩:=h
 exact⟨S,tr,mp,σ,root,es,tb,root0,es0,tb0,hA,⟨rfl,rfl,rfl,aG _,fun _ _=>rfl,fun g hg=>h.fs g (hF g hg),fun g hg e=>h.lo g hg (hF g e)⟩,fun e=>h1 (hF _ e),fun e=>h2 (hF _ e),fun e=>h3 (hF _ e),h4⟩
theorem o6.SK {F:Nat→Prop} {w':World} (h:o6 ⟨F,w'⟩ v t N R dn u kv0 kv ch P w):∀g,F g→g<w'.heap.size:=by obtain⟨_,_,_,_,_,_,_,_,_,_,_,h,_⟩:=h;exact h.fs
end
def oL (F:Nat→Prop) (w w':World):Nat→Prop:=fun g=>F g∨(w.heap.size≤g∧g<w'.heap.size)
structure LT (F:Nat→Prop) (v t b:Nat) (ls:List bn) (w:World):Prop where
 ts:∃ch P,o6 ⟨F,w⟩ v t 3396 699 0 0 [] (ls.map bn.pair) ch P w
 obj:w.heap[b]? =some (.cells #[.pointer (some ⟨t,0,none⟩)] 69 (0,0))
 fb:F b
 ok:yS ls
section
variable {F F' M:Nat→Prop} {v t b:Nat} {ls:List bn} {w w':World}
theorem LT.lt (h:LT F v t b ls w):b<w.heap.size:=(ah.1 h.obj).1
theorem LT.fs (h:LT F v t b ls w):∀g,F g→g<w.heap.size:=by obtain⟨⟨_,_,h⟩,_⟩:=h;exact h.SK
theorem LT.sub (h:LT F' v t b ls w) (hF:∀g,F g→F' g) (hb:F b):LT F v t b ls w:=⟨h.ts.imp fun _ q=>q.imp fun _ q=>q.Sg hF,h.obj,hb,h.ok⟩
theorem LT.PV (h:LT F v t b ls w) (hk:Keep M w w') (hM:∀g,M g→F g) (hb:¬M b):LT (oL F w w') v t b ls w':=
 ⟨h.ts.imp fun _ q=>q.imp fun _ q=>q.next hk hM,(hk.block b h.lt hb).trans h.obj,.inl h.fb,h.ok⟩
theorem LT.next (h:LT F v t b ls w) (hb:Below w.heap.size w w'):LT (oL F w w') v t b ls w':=h.PV (Keep.of_below hb (fun _=>False)) (fun _ e=>e.elim) id
theorem LT.below (h:LT F v t b ls w) (hb:Below w.heap.size w w'):LT F v t b ls w':=(h.next hb).sub (fun _ e=> .inl e) h.fb
theorem LT.of {ls':List bn} {ch:Bool} {P:Nat} (h:LT F v t b ls w) (ht:o6 ⟨F,w⟩ v t 3396 699 0 0 [] (ls'.map bn.pair) ch P w') (hl:yS ls'):LT F v t b ls' w'∧Keep (fun g=>¬F g) w w':=
 ⟨⟨⟨_,_,ht.SI⟩,(ht.block h.fb).trans h.obj,h.fb,hl⟩,ht.Rz⟩
theorem yS.pairs (h:yS ls):(ls.map bn.pair).length≤33∧Go.Proofs.YtpgdljlghiifjaaGreatDoor.y9 (ls.map bn.pair)≤132:=by
 have h1:=yS.y9 h.fit
 have h2:=h.len
 exact⟨by rw[dW];exact h2,by omega⟩
theorem Aq {tk:ByteArray} (h:tk.size≤60):1≤(jl tk).size∧(jl tk).size≤128:=by rw[sU];omega
theorem LT.put (h:LT F v t b ls w) (l:bn) (hl:l.Fit) (hn:ls.length≤32):
  Calls Tryz.prog 38 #[.pointer (some ⟨t,0,none⟩),.string l.key,.string (strOf l.enc)] w fun e w'=>e= .returned (.int .i64 0)∧LT F v t b (wN ls l) w'∧Keep (fun g=>¬F g) w w':=by
 obtain⟨ch,P,ht⟩:=h.ts
 obtain⟨h1,h2⟩:=h.ok.pairs
 have h3:=hl.cost
 have hsz:(strOf l.enc).size≤49152:=by rw[zO];have:=hl.enc;omega
 refine((ht.more (P':=max P 1000) (by omega)).put l.key (strOf l.enc) (by omega) (Aq hl.tok) hsz (by omega)).mono ?_
 rintro e w' (⟨rfl,q⟩|⟨_,q,_⟩)
 ·rw[←CG] at q
  exact⟨rfl,h.of q (h.ok.ins hl hn)⟩
 ·omega
theorem LT.del (h:LT F v t b ls w) (tk:ByteArray) (htk:tk.size≤60) (ls':List bn) (hd:lV (ls.map bn.pair) (jl tk)=ls'.map bn.pair) (hs:(d9 (ls.map bn.pair) (jl tk)).isSome=true) (hl:yS ls'):
  Calls Tryz.prog 41 #[.pointer (some ⟨t,0,none⟩),.string (jl tk)] w fun e w'=>e= .returned (.tuple #[.bool true,.int .i64 0])∧LT F v t b ls' w'∧Keep (fun g=>¬F g) w w':=by
 obtain⟨ch,P,ht⟩:=h.ts
 obtain⟨h1,h2⟩:=h.ok.pairs
 refine(ht.delete (jl tk) (by omega) (Aq htk) (by rw[hd,dW];have:=hl.len;omega)).mono ?_
 rintro e w' (⟨rfl,q⟩|⟨_,q,_⟩)
 ·rw[hs]
  rw[hd] at q
  exact⟨rfl,h.of q hl⟩
 ·omega
theorem OX (ls:List bn):dB (ls.map bn.pair) ⟨#[108]⟩=0:=by
 unfold dB
 cases ls with
 |nil=>rfl
 |cons a l=>
  have h:lt a.key ⟨#[108]⟩=false:=by
   unfold lt bn.key jl
   rw[Lib.toList_data,Lib.toList_data]
   simp[Op.bytesLess]
  rw[cO,xu,if_neg (by show ¬lt a.key _=true;rw[h];simp)]
  rfl
theorem Qt (h:yS ls):uS (ls.map bn.pair) ⟨#[108]⟩ 64=ls.map bn.pair:=by
 unfold uS
 rw[OX,eT]
 exact aN (by have:=h.pairs.1;simp at this ⊢;omega)
theorem LT.scan (h:LT F v t b ls w):
  Calls Tryz.prog 72 #[.pointer (some ⟨t,0,none⟩),.string ⟨#[108]⟩,.int .i64 64] w fun e w'=>∃x,e= .returned (.tuple #[x,.int .i64 0])∧aS w' fO w.heap.size 130 2 x ls.length (dH (ls.map bn.pair))∧Below w.heap.size w w':=by
 obtain⟨ch,P,ht⟩:=h.ts
 refine(ht.scan ⟨#[108]⟩ 64 (by have:=h.ok.pairs.1;omega)).mono ?_
 rintro e w' ⟨x,rfl,hx,_,hb⟩
 rw[Qt h.ok,dW] at hx
 exact⟨x,rfl,hx,hb⟩
end
theorem zP {a:ByteArray} {l:List UInt8} (h:a.data.toList=l):a=strOf l:=by
 cases a
 exact congrArg ByteArray.mk (qB (by rw[h]))
theorem yF (l:List UInt8):(strOf l).size=l.length:=by show l.toArray.size=_;simp
theorem Nv (t:List UInt8) (n:Nat):(strOf t).extract 0 n=strOf (t.take n):=zP (by rw[si,vg];simp[strOf])
theorem Nw (t:List UInt8) (n:Nat):(strOf t).extract n t.length=strOf (t.drop n):=zP (by
 rw[si,vg]
 simp only[strOf,List.toList_toArray]
 exact aN (by simp))
def rP (w:World) (rb:Nat) (t:List UInt8):Prop:=w.heap[rb]? =some (.cells #[.string (strOf t),.bool false] 199 (0,0))
theorem rP.cells {w:World} {rb:Nat} {t:List UInt8} (h:rP w rb t):w.cell? ⟨rb,0,none⟩=some (.string (strOf t))∧w.cell? ⟨rb,1,none⟩=some (.bool false)∧w.frozen? ⟨rb,0,none⟩=false∧rb<w.heap.size:=by
 unfold rP at h
 exact⟨by simp[World.cell?,h],by simp[World.cell?,h],by simp[World.frozen?,h],(ah.1 h).1⟩
theorem rP.set {w:World} {rb:Nat} {t:List UInt8} (h:rP w rb t) (n:Nat):rP (w.setCell ⟨rb,0,none⟩ (.string (strOf (t.drop n)))) rb (t.drop n)∧Keep (· =rb) w (w.setCell ⟨rb,0,none⟩ (.string (strOf (t.drop n)))):=by
 refine⟨?_,(Keep.refl (· =rb) w).setCell (p:=⟨rb,0,none⟩) (.inr rfl) _⟩
 unfold rP at h ⊢
 simp[World.setCell,aW,h]
theorem MF (rb:Nat) (t:List UInt8) (n:Nat) (w:World) (h:rP w rb t) (hn:n≤t.length):
  Calls Tryz.prog 163 #[.pointer (some ⟨rb,0,none⟩),.int .i64 n] w fun e w'=>e= .returned (.string (strOf (t.take n)))∧rP w' rb (t.drop n)∧Keep (· =rb) w w':=by
 obtain⟨c0,c1,f0,lr⟩:=h.cells
 have hsz:=yF t
 have x1:¬(t.length:Int)<(n:Int):=by omega
 have x2:(n:Int)≤(t.length:Int):=by omega
 have e1:=Nv t n
 have e2:=Nw t n
 have HP:=af (h.set n)
 obtain⟨p,hp⟩:∃p,strOf (t.take n)=p:=⟨_,rfl⟩
 obtain⟨q,hq⟩:∃q,strOf (t.drop n)=q:=⟨_,rfl⟩
 rw[hp] at e1 ⊢;rw[hq] at e2 HP
 clear hp hq h
 go_enter Tryz.func163,Tryz.ntmps163
 go_wp2
 go_ret
 exact⟨rfl,HP.out.1,HP.out.2⟩
theorem Ac (rb:Nat) (v:Int) (t:List UInt8) (w:World) (h:rP w rb (kV v++t)) (hv: -9223372036854775808≤v∧v<9223372036854775808):
  Calls Tryz.prog 124 #[.pointer (some ⟨rb,0,none⟩)] w fun e w'=>e= .returned (.int .i64 v)∧rP w' rb t∧Keep (· =rb) w w':=by
 have hc:=MF rb (kV v++t) 8 w h (by rw[aC,fP];omega)
 rw[bQ (by rw[fP];omega),aN (by rw[fP];omega),eY (by rw[fP];omega),dQ (by rw[fP];omega),gB] at hc
 have HC:=af hc
 have hix:∀(i:Nat),i<8→∀W:World,(Instr.index 9 (.string (strOf (kV v))) (.int .i64 (i:Int))).run Tryz.prog W= .ok (.int .u8 (v/(256^i:Nat)%256)) W:=by
  intro i hi W
  have hb:(kV v)[i]? =some (UInt8.ofNat (v/(256^i:Nat)%256).toNat):=by
   unfold kV
   rw[cZ,xA hi];rfl
  have:=wQ (kV v) i _ hb W
  rw[this]
  have hb2:0≤v/(256^i:Nat)%256∧v/(256^i:Nat)%256<256:=⟨Int.emod_nonneg _ (by decide),Ow _ (by decide)⟩
  congr 2
  rw[eG]
  omega
 have HIX:=af hix
 have hsz:(strOf (kV v)).size=8:=by rw[yF,fP]
 obtain⟨s,hs⟩:∃s,Hid (strOf (kV v)=s):=⟨_,af rfl⟩
 rw[hs.out] at HC HIX hsz
 have hwr:=Kc v hv
 clear hix hc h
 go_enter Tryz.func124,Tryz.ntmps124
 go_wp2_with (first
  |(go_at_call 163;go_must (refine HC.out.mono ?_;rintro e w1 ⟨rfl,hR1,hk1⟩)))
 have HR:=af (ay hR1 hk1)
 clear hR1 hk1
 go_loopw [4,5] (fun n i wr=>∃k:Nat,k≤8∧n= .int .i64 (IntKind.i64.wrap (vU v k))∧i= .int .i64 ((k:Int) - 1)∧wr=w1) (fun _ i _=>(intOf i+1).toNat)
 case atStart=>exact⟨8,aG _,by rw[Me];rfl,rfl,rfl⟩
 case round=>
  obtain⟨k,hk,rfl,rfl,rfl⟩:=hrel
  by_cases hk0:k=0
  ·subst hk0
   rw[hwr]
   go_wp2_with fail
   go_ret
   exact⟨rfl,HR.out.1,HR.out.2⟩
  ·obtain⟨j,rfl⟩:∃j,k=j+1:=⟨k - 1,by omega⟩
   have hix:=HIX.out j (by omega)
   have hb:=OE v (j+1) (by omega) (by omega)
   have hb2:0≤v/(256^j:Nat)%256∧v/(256^j:Nat)%256<256:=⟨Int.emod_nonneg _ (by decide),Ow _ (by decide)⟩
   have ho:=Qz (vU v (j+1)) (v/(256^j:Nat)%256) hb hb2
   rw[←Ke v j (by omega)] at ho
   have HO:=af ho
   have HW:=af (aR (vU v (j+1)) (by omega))
   clear ho hb hb2
   go_wp2_with fail
   go_roundw
   case rel=>
    refine⟨j,by omega,?_,rfl,trivial⟩
    have e1:=HO.out
    have e2:=HW.out
    rw[IntWalk.i64_left] at e2
    rw[IntWalk.i64_left (vU v (j+1)*256)] at e1
    rw[←e1,e2]
    simp
   case measure=>simp[intOf]
theorem Jq (rb:Nat) (s:ByteArray) (t:List UInt8) (w:World) (h:rP w rb (kX s++t)) (hs:s.size≤1000000):
  Calls Tryz.prog 125 #[.pointer (some ⟨rb,0,none⟩)] w fun e w'=>e= .returned (.string s)∧rP w' rb t∧Keep (· =rb) w w':=by
 unfold kX at h
 rw[aL] at h
 have HN:=af (Ac rb s.size _ w h (by omega))
 have hbl:s.data.toList.length=s.size:=by show s.data.toList.length=s.data.size;simp
 have hss:strOf s.data.toList=s:=(zP rfl).symm
 clear h
 go_enter Tryz.func125,Tryz.ntmps125
 go_wp2_with (first
  |(go_at_call 124;go_must (refine HN.out.mono ?_;rintro e w1 ⟨rfl,hR1,hk1⟩;refine Stop.of ?_)))
 refine Stop.on ?_
 have hc:=MF rb (s.data.toList++t) s.size w1 hR1 (by rw[aC,hbl];omega)
 rw[bQ (by omega),aN (by omega),eY (by omega),dQ (by omega),gB,hss] at hc
 have HC:=af hc
 have HK:=af hk1
 clear hc hR1 hk1 hss hbl
 go_wp2_with (first
  |(go_at_call 163;go_must (refine HC.out.mono ?_;rintro e w2 ⟨rfl,hR2,hk2⟩)))
 go_ret
 exact⟨rfl,hR2,HK.out.trans hk2 (fun _ _ e=>e)⟩
def dO (w:World) (S:Nat→Prop) (k:Nat) (v:Value) (n:Nat) (xs:List Value):Prop:=bE w S k v n xs∨(n=0∧xs=[]∧∃ao,v= .slice (some ao) 0 0)
def jA (w:World) (S:Nat→Prop) (v:Value) (ss:List ByteArray):Prop:=dO w S 1 v ss.length (ss.map .string)
section
variable {w w':World} {S S':Nat→Prop} {k n:Nat} {v:Value} {xs:List Value}
theorem aS.sW {B e:Nat} (h:aS w S B e k v n xs):dO w S k v n xs:= .inl h.dD
theorem Row.sW {e g off:Nat} {cur:List Value} (h:Row w g e cur) (n c:Nat) (hl:off+n*k≤cur.length) (hS:¬S g) (hn:n≤c) (hc:c≤maxLen):dO w S k (.slice (some ⟨g,off,none⟩) n c) n ((cur.drop off).take (n*k)):= .inl (h.dD n c hl hS hn hc)
theorem dO.nil (w:World) (S:Nat→Prop) (k:Nat):dO w S k (.slice none 0 0) 0 []:= .inl (bE.nil w S k)
theorem dO.keep (h:dO w S k v n xs) (hb:∀g,v.ownBlock=some g→g<w.heap.size→¬S g→w'.heap[g]? =w.heap[g]?∧¬S' g):dO w' S' k v n xs:=h.imp (fun h=>h.keep hb) id
theorem dO.below (h:dO w S k v n xs) (hs:Below w.heap.size w w'):dO w' S k v n xs:=h.imp (fun h=>h.below hs) id
theorem dO.form (h:dO w S k v n xs):∃ao c,v= .slice ao n c∧n≤c∧c≤9223372036854775807∧(n=0∨∃b o,ao=some ⟨b,o,none⟩)∧(ao=none→c=0):=by
 rcases h with h|⟨rfl,rfl,ao,rfl⟩
 ·exact h.form
 ·exact⟨some ao,0,rfl,aG _,by omega,.inl rfl,fun h=>by cases h⟩
theorem dO.yx (h:dO w S 1 v n xs) {ao:Option Addr} {n' c:Nat} (hv:v= .slice ao n' c) (i:Nat) (u:Value) (hu:xs[i]? =some u):∃b o,ao=some ⟨b,o,none⟩∧w.cell? ⟨b,o+i,none⟩=some u:=by
 rcases h with h|⟨rfl,rfl,ao,rfl⟩
 ·exact h.yx hv i u hu
 ·simp at hu
theorem dO.real (h:dO w S k v n xs) (hn:0<n):bE w S k v n xs:=by
 rcases h with h|⟨rfl,_⟩
 ·exact h
 ·omega
theorem dO.upto {c:Nat} {ao:Option Addr} (h:dO w S k (.slice ao n c) n xs) (j:Nat) (hj:j≤n):dO w S k (.slice ao j c) j (xs.take (j*k)):=by
 rcases h with h|⟨rfl,rfl,a,e⟩
 ·exact .inl (h.upto j hj)
 ·cases e
  obtain rfl:j=0:=by omega
  exact .inr ⟨rfl,by simp,a,rfl⟩
end
theorem within_iff (a b:List ByteArray):within a b=true↔b.length≤a.length∧∀j,j<b.length→a[j]? =b[j]? :=by
 unfold within
 rw[bY,List.prefix_iff_eq_take]
 constructor
 ·intro h
  have hl:=congrArg List.length h
  rw[aD] at hl
  refine⟨by omega,fun j hj=> ?_⟩
  have this:b[j]? =(a.take b.length)[j]? :=congrArg (fun l=>l[j]?) h
  rw[this,List.getElem?_take_of_lt hj]
 ·rintro⟨h1,h2⟩
  apply Bv
  intro j
  by_cases hj:j<b.length
  ·rw[List.getElem?_take_of_lt hj,h2 j hj]
  ·rw[gy (by omega),gy (by rw[aD];omega)]
theorem NU (a b:ByteArray):(a.toList==b.toList)=decide (a=b):=by
 by_cases h:a=b
 ·subst h;simp
 ·rw[bD h]
  apply Bw.2
  intro e
  have e:=eq_of_beq e
  apply h
  cases a;cases b
  rw[Lib.toList_data,Lib.toList_data] at e
  exact congrArg ByteArray.mk (qB e)
theorem GU (av bv:Value) (a b:List ByteArray) (Sa Sb:Nat→Prop) (w:World) (ha:jA w Sa av a) (hb:jA w Sb bv b):
  Calls Tryz.prog 29 #[av,bv] w fun e w'=>e= .returned (.bool (within a b))∧w'=w:=by
 obtain⟨ao,ac,rfl,ha1,ha2,_,_⟩:=dO.form ha
 obtain⟨bo,bc,rfl,hb1,hb2,_,_⟩:=dO.form hb
 have HA:=af ha
 have HB:=af hb
 obtain⟨R,hR⟩:∃R,Hid (within a b=R):=⟨_,af rfl⟩
 rw[hR.out]
 clear ha hb
 go_enter Tryz.func29,Tryz.ntmps29
 by_cases hlt:a.length<b.length
 ·have x1:(a.length:Int)<(b.length:Int):=by omega
  have hr:R=false:=by
   rw[←hR.out,←Bool.not_eq_true,within_iff]
   omega
  rw[hr]
  go_wp2
  go_ret
  exact⟨rfl,rfl⟩
 ·have x1:¬(a.length:Int)<(b.length:Int):=by omega
  go_upto_region 4 with fail
  go_loopw [5,6,14] (fun _ _ i wr=>∃k:Nat,k≤b.length∧i= .int .i64 k∧(∀j,j<k→a[j]? =b[j]?)∧wr=w) (fun _ _ i _=>b.length - (intOf i).toNat)
  case atStart=>exact⟨0,aY _,rfl,fun j hj=>absurd hj (qz _),rfl⟩
  case round=>
   obtain⟨k,hk,rfl,heq,rfl⟩:=hrel
   have HEQ:=af heq;clear heq
   by_cases hkl:k<b.length
   ·have hkl':(k:Int)<(b.length:Int):=by omega
    have hka:(k:Int)<(a.length:Int):=by omega
    obtain⟨x,hx⟩:∃x,a[k]? =some x:=⟨_,aZ (by omega)⟩
    obtain⟨y,hy⟩:∃y,b[k]? =some y:=⟨_,aZ hkl⟩
    obtain⟨gb,ob,rfl,db⟩:=dO.yx HB.out rfl k (.string y) (by rw[cZ,hy];rfl)
    obtain⟨ga,oa,rfl,da⟩:=dO.yx HA.out rfl k (.string x) (by rw[cZ,hx];rfl)
    have la:=aF wr _ da
    have lb:=aF wr _ db
    have hq:=NU x y
    have HXY:=af (ay hx hy)
    clear hx hy
    by_cases he:x=y
    ·rw[bT he] at hq
     have HE:=af he;clear he
     go_wp2_with fail
     go_roundw
     case rel=>
      refine⟨k+1,by omega,by go_num,fun j hj=> ?_,by trivial⟩
      rcases Bz.1 hj with hj|rfl
      ·exact HEQ.out j hj
      ·rw[HXY.out.1,HXY.out.2,HE.out]
     case measure=>simp[intOf];omega
    ·rw[bD he] at hq
     have hr:R=false:=by
      rw[←hR.out,←Bool.not_eq_true,within_iff]
      rintro⟨_,h⟩
      have:=h k hkl
      rw[HXY.out.1,HXY.out.2] at this
      exact he (iY this)
     have HE:=af he;clear he
     go_wp2_with fail
     go_ret
     exact⟨rfl,rfl⟩
   ·obtain rfl:k=b.length:=by omega
    have x2:¬(b.length:Int)<(b.length:Int):=by omega
    have hr:R=true:=by
     rw[←hR.out,within_iff]
     exact⟨by omega,HEQ.out⟩
    go_wp2_with fail
    go_ret
    exact⟨rfl,rfl⟩
def qN (l:bn) (pv:Value):Value:= .agg #[.string l.token,pv,.bool l.deep,.bool l.excl,.string l.owner,.int .i64 l.till]
theorem dh {W:World} {g:Nat} {a b c d e f:Value} (h:W.heap[g]? =some (.cells #[a,b,c,d,e,f] 24 (0,0))):
  W.cell? ⟨g,0,none⟩=some a∧W.cell? ⟨g,1,none⟩=some b∧W.cell? ⟨g,2,none⟩=some c∧W.cell? ⟨g,3,none⟩=some d∧W.cell? ⟨g,4,none⟩=some e∧W.cell? ⟨g,5,none⟩=some f∧g<W.heap.size:=by
 refine⟨?_,?_,?_,?_,?_,?_,(ah.1 h).1⟩<;>simp[World.cell?,h]
theorem Sr (a b:Nat):((a:Int)==(b:Int))=decide (a=b):=by
 rw[Bool.eq_iff_iff,nP,bY]
 constructor<;>intro h<;>omega
theorem qF (l:bn) (pv qv:Value) (q:List ByteArray) (S T:Nat→Prop) (w:World) (hp:jA w S pv l.path) (hq:jA w T qv q):
  Calls Tryz.prog 12 #[qN l pv,qv] w fun e w'=>e= .returned (.bool (l.covers q))∧Below w.heap.size w w':=by
 have hb:=aI w (.cells #[.string l.token,pv,.bool l.deep,.bool l.excl,.string l.owner,.int .i64 l.till] 24)
 have hn:=aM w (.cells #[.string l.token,pv,.bool l.deep,.bool l.excl,.string l.owner,.int .i64 l.till] 24)
 obtain⟨w1,hw1⟩:∃w1:World,Hid (w.alloc (.cells #[.string l.token,pv,.bool l.deep,.bool l.excl,.string l.owner,.int .i64 l.till] 24)=w1):=⟨_,af rfl⟩
 rw[hw1.out] at hb hn
 have HW:=af (GU qv pv q l.path T S w1 (dO.below hq hb) (dO.below hp hb))
 have HB:=af hb
 obtain⟨po,pc,rfl,hp1,hp2,_,_⟩:=dO.form hp
 obtain⟨qo,qc,rfl,hq1,hq2,_,_⟩:=dO.form hq
 obtain⟨sb,hsb⟩:∃sb:Nat,Hid (w.heap.size=sb):=⟨_,af rfl⟩
 rw[hsb.out] at hn
 obtain⟨c0,c1,c2,c3,c4,c5,lt⟩:=dh hn
 obtain⟨R,hR⟩:∃R,Hid (within q l.path=R):=⟨_,af rfl⟩
 have HV:=af (show l.covers q=(R && (l.deep||decide (q.length=l.path.length))) by unfold bn.covers;rw[hR.out])
 have hqn:=Sr q.length l.path.length
 rw[hR.out] at HW
 unfold qN
 clear hp hq hb hn
 go_enter Tryz.func12,Tryz.ntmps12
 go_upto_region 1 with fail
 rw[hw1.out,hsb.out]
 cases R with
 |false=>
  go_wp2_with (first
   |(go_at_call 29;go_must (refine HW.out.mono ?_;rintro e w2 ⟨rfl,hw⟩;subst w2)))
  go_ret
  exact⟨by rw[HV.out];rfl,HB.out⟩
 |true=>
  cases hd:l.deep with
  |true=>
   rw[hd] at c2
   go_wp2_with (first
    |(go_at_call 29;go_must (refine HW.out.mono ?_;rintro e w2 ⟨rfl,hw⟩;subst w2)))
   go_ret
   exact⟨by rw[HV.out,hd];rfl,HB.out⟩
  |false=>
   rw[hd] at c2
   go_wp2_with (first
    |(go_at_call 29;go_must (refine HW.out.mono ?_;rintro e w2 ⟨rfl,hw⟩;subst w2)))
   go_ret
   exact⟨by rw[HV.out,hd,←hqn];rfl,HB.out⟩
theorem Ap (a b:bn) (av bv:Value) (S T:Nat→Prop) (w:World) (ha:jA w S av a.path) (hb:jA w T bv b.path):
  Calls Tryz.prog 14 #[qN a av,qN b bv] w fun e w'=>e= .returned (.bool (a.clash b))∧Below w.heap.size w w':=by
 have h1:=aI w (.cells #[.string a.token,av,.bool a.deep,.bool a.excl,.string a.owner,.int .i64 a.till] 24)
 have n1:=aM w (.cells #[.string a.token,av,.bool a.deep,.bool a.excl,.string a.owner,.int .i64 a.till] 24)
 have z1:(w.alloc (.cells #[.string a.token,av,.bool a.deep,.bool a.excl,.string a.owner,.int .i64 a.till] 24)).heap.size=w.heap.size+1:=by simp
 have h2:=aI (w.alloc (.cells #[.string a.token,av,.bool a.deep,.bool a.excl,.string a.owner,.int .i64 a.till] 24)) (.cells #[.string b.token,bv,.bool b.deep,.bool b.excl,.string b.owner,.int .i64 b.till] 24)
 have n2:=aM (w.alloc (.cells #[.string a.token,av,.bool a.deep,.bool a.excl,.string a.owner,.int .i64 a.till] 24)) (.cells #[.string b.token,bv,.bool b.deep,.bool b.excl,.string b.owner,.int .i64 b.till] 24)
 have hbb:=h1.trans (h2.mono h1.size)
 have n1:=(h2.block _ (by rw[z1];omega)).trans n1
 rw[z1] at n2
 obtain⟨w2,hw2⟩:∃w2:World,Hid (((w.alloc (.cells #[.string a.token,av,.bool a.deep,.bool a.excl,.string a.owner,.int .i64 a.till] 24)).alloc (.cells #[.string b.token,bv,.bool b.deep,.bool b.excl,.string b.owner,.int .i64 b.till] 24))=w2):=⟨_,af rfl⟩
 rw[hw2.out] at hbb n1 n2
 have HB:=af hbb
 obtain⟨sb,hsb⟩:∃sb:Nat,Hid (w.heap.size=sb):=⟨_,af rfl⟩
 rw[hsb.out] at n1 n2
 have hc1:=qF a av bv b.path S T w2 (dO.below ha hbb) (dO.below hb hbb)
 have hc2:=fun W (hW:Below w2.heap.size w2 W)=>qF b bv av a.path T S W (dO.below (dO.below hb hbb) hW) (dO.below (dO.below ha hbb) hW)
 obtain⟨P,hP⟩:∃P,Hid (a.covers b.path=P):=⟨_,af rfl⟩
 obtain⟨Q,hQ⟩:∃Q,Hid (b.covers a.path=Q):=⟨_,af rfl⟩
 rw[hP.out] at hc1;simp only[hQ.out] at hc2
 have HV:=af (show a.clash b=((a.excl||b.excl) && (P||Q)) by unfold bn.clash;rw[hP.out,hQ.out])
 obtain⟨at_,ap,ad,ae,ao,ai⟩:=a
 obtain⟨bt,bp,bd,be,bo,bi⟩:=b
 dsimp only at HV hc1 hc2 n1 n2 hw2
 unfold qN at hc1 hc2 ⊢
 have HC1:=af hc1;have HC2:=af hc2
 obtain⟨a0,a1,a2,a3,a4,a5,la⟩:=dh n1
 obtain⟨b0,b1,b2,b3,b4,b5,lb⟩:=dh n2
 have HN1:=af n1;have HN2:=af n2
 clear ha hb h1 h2 hc1 hc2 hbb n1 n2 z1
 go_enter Tryz.func14,Tryz.ntmps14
 go_upto_region 1 with fail
 rw[hw2.out,hsb.out]
 cases ae with
 |true=>
  cases P with
  |true=>
   go_wp2_with (first
    |(go_at_call 12;go_must (refine HC1.out.mono ?_;rintro e w3 ⟨rfl,hb3⟩)))
   go_ret
   exact⟨by rw[HV.out];rfl,HB.out.trans (hb3.mono HB.out.size)⟩
  |false=>
   go_wp2_with (first
    |(go_at_call 12;go_must (refine HC1.out.mono ?_;rintro e w3 ⟨rfl,hb3⟩;refine Stop.of ?_)))
   refine Stop.on ?_
   clear a0 a1 a2 a3 a4 a5 la b0 b1 b2 b3 b4 b5 lb
   obtain⟨a0,a1,a2,a3,a4,a5,la⟩:=dh ((hb3.block _ (ah.1 HN1.out).1).trans HN1.out)
   obtain⟨b0,b1,b2,b3,b4,b5,lb⟩:=dh ((hb3.block _ (ah.1 HN2.out).1).trans HN2.out)
   have HC3:=af (HC2.out w3 hb3)
   have HB3:=af (HB.out.trans (hb3.mono HB.out.size))
   clear hb3
   go_wp2_with (first
    |(go_at_call 12;go_must (refine HC3.out.mono ?_;rintro e w4 ⟨rfl,hb4⟩)))
   go_ret
   exact⟨by rw[HV.out];cases Q<;>rfl,HB3.out.trans (hb4.mono HB3.out.size)⟩
 |false=>
  cases be with
  |true=>
   cases P with
   |true=>
    go_wp2_with (first
     |(go_at_call 12;go_must (refine HC1.out.mono ?_;rintro e w3 ⟨rfl,hb3⟩)))
    go_ret
    exact⟨by rw[HV.out];rfl,HB.out.trans (hb3.mono HB.out.size)⟩
   |false=>
    go_wp2_with (first
     |(go_at_call 12;go_must (refine HC1.out.mono ?_;rintro e w3 ⟨rfl,hb3⟩;refine Stop.of ?_)))
    refine Stop.on ?_
    clear a0 a1 a2 a3 a4 a5 la b0 b1 b2 b3 b4 b5 lb
    obtain⟨a0,a1,a2,a3,a4,a5,la⟩:=dh ((hb3.block _ (ah.1 HN1.out).1).trans HN1.out)
    obtain⟨b0,b1,b2,b3,b4,b5,lb⟩:=dh ((hb3.block _ (ah.1 HN2.out).1).trans HN2.out)
    have HC3:=af (HC2.out w3 hb3)
    have HB3:=af (HB.out.trans (hb3.mono HB.out.size))
    clear hb3
    go_wp2_with (first
     |(go_at_call 12;go_must (refine HC3.out.mono ?_;rintro e w4 ⟨rfl,hb4⟩)))
    go_ret
    exact⟨by rw[HV.out];cases Q<;>rfl,HB3.out.trans (hb4.mono HB3.out.size)⟩
  |false=>
   go_wp2_with fail
   go_ret
   exact⟨by rw[HV.out];rfl,HB.out⟩
theorem same_iff (a b:List ByteArray):a=b↔a.length=b.length∧∀j,j<a.length→a[j]? =b[j]? :=by
 constructor
 ·rintro rfl
  exact⟨rfl,fun _ _=>rfl⟩
 ·rintro⟨h1,h2⟩
  apply Bv
  intro j
  by_cases hj:j<a.length
  ·exact h2 j hj
  ·rw[gy (by omega),gy (by omega)]
theorem QN (av bv:Value) (a b:List ByteArray) (Sa Sb:Nat→Prop) (w:World) (ha:jA w Sa av a) (hb:jA w Sb bv b):
  Calls Tryz.prog 30 #[av,bv] w fun e w'=>e= .returned (.bool (decide (a=b)))∧Below w.heap.size w w':=by
 obtain⟨ao,ac,rfl,ha1,ha2,_,_⟩:=dO.form ha
 obtain⟨bo,bc,rfl,hb1,hb2,_,_⟩:=dO.form hb
 have HA:=af ha
 have HB:=af hb
 obtain⟨R,hR⟩:∃R,Hid (decide (a=b)=R):=⟨_,af rfl⟩
 rw[hR.out]
 clear ha hb
 go_enter Tryz.func30,Tryz.ntmps30
 by_cases hlt:a.length=b.length
 ·have x1:((a.length:Int) !=(b.length:Int))=false:=by rw[hlt];simp
  have HLT:=af hlt;clear hlt
  go_upto_region 4 with fail
  go_loopw [5] (fun i wr=>∃k:Nat,k≤a.length∧i= .int .i64 k∧(∀j,j<k→a[j]? =b[j]?)∧Below w.heap.size w wr) (fun i _=>a.length - (intOf i).toNat)
  case atStart=>exact⟨0,aY _,rfl,fun j hj=>absurd hj (qz _),aQ _ _⟩
  case round=>
   obtain⟨k,hk,rfl,heq,hbw⟩:=hrel
   have HEQ:=af heq;clear heq
   have HBW:=af hbw
   by_cases hkl:k<a.length
   ·have hkl':(k:Int)<(a.length:Int):=by omega
    have hkb:(k:Int)<(b.length:Int):=by have:=HLT.out;omega
    obtain⟨x,hx⟩:∃x,a[k]? =some x:=⟨_,aZ hkl⟩
    obtain⟨y,hy⟩:∃y,b[k]? =some y:=⟨_,aZ (by have:=HLT.out;omega)⟩
    obtain⟨gb,ob,rfl,db⟩:=dO.yx (dO.below HB.out hbw) rfl k (.string y) (by rw[cZ,hy];rfl)
    obtain⟨ga,oa,rfl,da⟩:=dO.yx (dO.below HA.out hbw) rfl k (.string x) (by rw[cZ,hx];rfl)
    have la:=aF wr _ da
    have lb:=aF wr _ db
    have hq:=NU x y
    have HXY:=af (ay hx hy)
    clear hx hy hbw
    go_wp2_with fail
    refine aP (fun W=>W=wr.drew) (fun i=>true) [0,1,2,3,4,5,6,7,8] rfl (by kernel_rfl) rfl ?_
    repeat ((refine bO (v:= ?_) rfl rfl (fun _ _ _ h=>h) rfl (fun W hW=> ?_) ?_);rotate_left;(focus ((try dsimp only at hW);subst hW;(go_simp;first|done|with_reducible rfl)));(try simp only[Act.put,aj,au,ak]))
    refine bR ?_
    by_cases he:x=y
    ·have hd:decide (x=y)=true:=bT he
     rw[hd]
     have HE:=af he;clear he hd hq
     go_wp2_with fail
     go_roundw
     case rel=>
      refine⟨k+1,by omega,by go_num,fun j hj=> ?_,HBW.out.drew⟩
      rcases Bz.1 hj with hj|rfl
      ·exact HEQ.out j hj
      ·rw[HXY.out.1,HXY.out.2,HE.out]
     case measure=>simp[intOf];omega
    ·have hd:decide (x=y)=false:=bD he
     rw[hd]
     have hr:R=false:=by
      rw[←hR.out,qM,same_iff]
      rintro⟨_,h⟩
      have:=h k hkl
      rw[HXY.out.1,HXY.out.2] at this
      exact he (iY this)
     clear he hd hq
     go_wp2_with fail
     go_ret
     exact⟨by simp[hr],HBW.out.drew⟩
   ·obtain rfl:k=a.length:=by omega
    have x2:¬(a.length:Int)<(a.length:Int):=by omega
    have hr:R=true:=by
     rw[←hR.out,bY,same_iff]
     exact⟨HLT.out,HEQ.out⟩
    clear hbw
    go_wp2_with fail
    go_ret
    exact⟨by simp,HBW.out⟩
 ·have x1:((a.length:Int) !=(b.length:Int))=true:=by
   rw[bne_iff_ne];omega
  have hr:R=false:=by
   rw[←hR.out,qM,same_iff]
   exact fun h=>hlt h.1
  go_wp2
  go_ret
  exact⟨by simp[hr],aQ _ _⟩
theorem Mr (sv:Value) (l:List ByteArray) (x:ByteArray) (S:Nat→Prop) (w:World) (hl:jA w S sv l):
  Calls Tryz.prog 49 #[sv,.string x] w fun e w'=>(∃z:Int,e= .returned (.int .i64 z)∧(0≤z↔x∈l))∧w'=w:=by
 obtain⟨ao,ac,rfl,ha1,ha2,_,_⟩:=dO.form hl
 have HL:=af hl
 clear hl
 go_enter Tryz.func49,Tryz.ntmps49
 go_upto_region 2 with fail
 go_loopw [5,8] (fun _ i wr=>∃k:Nat,k≤l.length∧i= .int .i64 k∧(∀j,j<k→l[j]?≠some x)∧wr=w) (fun _ i _=>l.length - (intOf i).toNat)
 case atStart=>exact⟨0,aY _,rfl,fun j hj=>absurd hj (qz _),rfl⟩
 case round=>
  obtain⟨k,hk,rfl,hne,rfl⟩:=hrel
  have HNE:=af hne;clear hne
  by_cases hkl:k<l.length
  ·have hkl':(k:Int)<(l.length:Int):=by omega
   obtain⟨y,hy⟩:∃y,l[k]? =some y:=⟨_,aZ hkl⟩
   obtain⟨ga,oa,rfl,da⟩:=dO.yx HL.out rfl k (.string y) (by rw[cZ,hy];rfl)
   have la:=aF wr _ da
   have hq:=NU x y
   have HY:=af hy;clear hy
   by_cases he:x=y
   ·rw[bT he] at hq
    have HE:=af he;clear he
    go_wp2_with fail
    go_ret
    refine⟨⟨_,rfl,⟨fun _=> ?_,fun _=>by omega⟩⟩,rfl⟩
    rw[HE.out]
    exact oP HY.out
   ·rw[bD he] at hq
    have HE:=af he;clear he
    go_wp2_with fail
    go_roundw
    case rel=>
     refine⟨k+1,by omega,by go_num,fun j hj=> ?_,by trivial⟩
     rcases Bz.1 hj with hj|rfl
     ·exact HNE.out j hj
     ·rw[HY.out]
      intro e
      exact HE.out (iY e).symm
    case measure=>simp[intOf];omega
  ·obtain rfl:k=l.length:=by omega
   have x2:¬(l.length:Int)<(l.length:Int):=by omega
   go_wp2_with fail
   go_ret
   refine⟨⟨_,rfl,⟨fun h=>by omega,fun h=> ?_⟩⟩,rfl⟩
   obtain⟨j,hj,e⟩:=gX h
   exact absurd (by rw[aZ hj,e]) (HNE.out j hj)
def FT (l:List ByteArray) (x:ByteArray):Bool:=l.any fun y=>decide (x=y)
theorem FR (l:List ByteArray) (x:ByteArray):FT l x=true↔x∈l:=by simp[FT]
theorem EI (sv:Value) (l:List ByteArray) (x:ByteArray) (S:Nat→Prop) (w:World) (hl:jA w S sv l):
  Calls Tryz.prog 32 #[sv,.string x] w fun e w'=>e= .returned (.bool (FT l x))∧w'=w:=by
 have HI:=af (Mr sv l x S w hl)
 obtain⟨ao,ac,rfl,ha1,ha2,_,_⟩:=dO.form hl
 clear hl
 go_enter Tryz.func32,Tryz.ntmps32
 go_wp2_with (first
  |(go_at_call 49;go_must (refine HI.out.mono ?_;rintro e w1 ⟨⟨z,rfl,hz⟩,rfl⟩;refine Stop.of ?_)))
 refine Stop.on ?_
 by_cases hx:x∈l
 ·have h0:(0:Int)≤z:=hz.2 hx
  have HX:=af hx
  clear hz hx
  go_wp2_with fail
  go_ret
  exact⟨by rw[(FR l x).2 HX.out];rfl,rfl⟩
 ·have h0:¬(0:Int)≤z:=fun h=>hx (hz.1 h)
  have HX:=af hx
  clear hz hx
  go_wp2_with fail
  go_ret
  exact⟨by rw[Bw.2 (fun e=>HX.out ((FR l x).1 e))];rfl,rfl⟩
theorem AR {α:Type} (f:α→List Value) (k:Nat) (hf:∀a,(f a).length=k):∀(l:List α) (i j:Nat) (hi:i<l.length),j<k→(l.flatMap f)[i*k+j]? =(f l[i])[j]?
 |a::l,0,j,_,hj=>by
  rw[dx,rY,eH,eP (by rw[hf];exact hj)];rfl
 |a::l,i+1,j,hi,hj=>by
  rw[dx,bV (by rw[hf,xH];omega),hf,show (i+1)*k+j - k=i*k+j by rw[xH];omega]
  exact AR f k hf l i j (by simpa using hi) hj
abbrev LP:=bn×Value
def kF (p:LP):List Value:=[.string p.1.token,p.2,.bool p.1.deep,.bool p.1.excl,.string p.1.owner,.int .i64 p.1.till]
def u7 (w:World) (S:Nat→Prop) (v:Value) (ps:List LP):Prop:=dO w S 6 v ps.length (ps.flatMap kF)∧∀p∈ps,∃T,jA w T p.2 p.1.path
theorem u7.below {w w':World} {S:Nat→Prop} {v:Value} {ps:List LP} (h:u7 w S v ps) (hb:Below w.heap.size w w'):u7 w' S v ps:=⟨dO.below h.1 hb,fun p hp=>(h.2 p hp).imp fun _ q=>dO.below q hb⟩
theorem u7.at {w:World} {S:Nat→Prop} {v:Value} {ps:List LP} (h:u7 w S v ps) {ao:Option Addr} {n c:Nat} (hv:v= .slice ao n c) (i:Nat) (hi:i<ps.length):
  ∃b o,ao=some ⟨b,o,none⟩∧w.cell? ⟨b,o+i*6,none⟩=some (.string ps[i].1.token)∧w.cell? ⟨b,o+i*6+1,none⟩=some ps[i].2∧w.cell? ⟨b,o+i*6+2,none⟩=some (.bool ps[i].1.deep)∧w.cell? ⟨b,o+i*6+3,none⟩=some (.bool ps[i].1.excl)∧w.cell? ⟨b,o+i*6+4,none⟩=some (.string ps[i].1.owner)∧w.cell? ⟨b,o+i*6+5,none⟩=some (.int .i64 ps[i].1.till):=by
 obtain⟨h,_⟩:=h
 obtain⟨ao',c',e,_,_,_,_,_,h6⟩:=dO.real h (Nat.lt_of_le_of_lt (aY _) hi)
 rw[hv] at e
 cases e
 have key:∀j u,j<6→(kF ps[i])[j]? =some u→∃b o,ao=some ⟨b,o,none⟩∧w.cell? ⟨b,o+i*6+j,none⟩=some u:=fun j u hj hu=>by
  obtain⟨b,o,e1,e2⟩:=h6 (i*6+j) u (by rw[AR kF 6 (fun _=>rfl) ps i j hi hj];exact hu)
  exact⟨b,o,e1,by rw[jU];exact e2⟩
 obtain⟨b,o,rfl,g0⟩:=key 0 _ (by omega) rfl
 obtain⟨_,_,e1,g1⟩:=key 1 _ (by omega) rfl;cases e1
 obtain⟨_,_,e1,g2⟩:=key 2 _ (by omega) rfl;cases e1
 obtain⟨_,_,e1,g3⟩:=key 3 _ (by omega) rfl;cases e1
 obtain⟨_,_,e1,g4⟩:=key 4 _ (by omega) rfl;cases e1
 obtain⟨_,_,e1,g5⟩:=key 5 _ (by omega) rfl;cases e1
 exact⟨b,o,rfl,g0,g1,g2,g3,g4,g5⟩
def yN (ls:List bn) (path tokens:List ByteArray):Bool:=ls.any (fun l=>l.covers path && FT tokens l.token)|| !ls.any (fun l=>l.covers path)
theorem Hq:(Tryz.prog.info? 24).map (·.size)=some 6:=by kernel_rfl
theorem JI (b:Bool):(nR b==(1:Int))=b:=by cases b<;>rfl
def SC (w:World) (ab rb lb:Nat) (tk ow:ByteArray) (dp ex:Bool) (ti:Int) (pt:List ByteArray) (n:Value) (wr:World):Prop:=
 ∃(k:Nat) (pv:Value),k≤pt.length∧n= .int .i64 ((pt.length - k:Nat):Int)∧rP wr rb ((pt.drop k).flatMap kX)∧wr.heap[lb]? =some (.cells #[.string tk,pv,.bool dp,.bool ex,.string ow,.int .i64 ti] 24 (0,0))∧aS wr fO w.heap.size 9 1 pv k ((pt.take k).map .string)∧Below w.heap.size w wr∧
  wr.heap[ab]? =some (.cells #[.string ⟨#[]⟩,.slice none 0 0,.bool false,.bool false,.string ⟨#[]⟩,.int .i64 0] 24 (0,0))
theorem KN (l:bn) (w:World) (hf:l.Fit):
  Calls Tryz.prog 74 #[.string l.token,.string (strOf l.enc)] w fun e w'=>∃pv,e= .returned (qN l pv)∧jA w' (fun g=>g<w.heap.size) pv l.path∧Below w.heap.size w w':=by
 obtain⟨tk,pt,dp,ex,ow,ti⟩:=l
 obtain⟨h1,h2,h3,h4,h5⟩:=hf
 dsimp only at h1 h2 h3 h4 h5
 obtain⟨s,hs⟩:∃s,Hid (strOf (bn.enc ⟨tk,pt,dp,ex,ow,ti⟩)=s):=⟨_,af rfl⟩
 rw[hs.out]
 have hb0:=aI w (.cells #[.string ⟨#[]⟩,.slice none 0 0,.bool false,.bool false,.string ⟨#[]⟩,.int .i64 0] 24)
 have hn0:=aM w (.cells #[.string ⟨#[]⟩,.slice none 0 0,.bool false,.bool false,.string ⟨#[]⟩,.int .i64 0] 24)
 obtain⟨w0,hw0⟩:∃w0:World,Hid (w.alloc (.cells #[.string ⟨#[]⟩,.slice none 0 0,.bool false,.bool false,.string ⟨#[]⟩,.int .i64 0] 24)=w0):=⟨_,af rfl⟩
 rw[hw0.out] at hb0 hn0
 have hb1:=aI w0 (.cells #[.string s,.bool false] 199)
 have hn1:=aM w0 (.cells #[.string s,.bool false] 199)
 obtain⟨w1,hw1⟩:∃w1:World,Hid (w0.alloc (.cells #[.string s,.bool false] 199)=w1):=⟨_,af rfl⟩
 rw[hw1.out] at hb1 hn1
 obtain⟨ab,hab⟩:∃ab:Nat,Hid (w.heap.size=ab):=⟨_,af rfl⟩
 have hw0s:w0.heap.size=w.heap.size+1:=by rw[←hw0.out];simp
 obtain⟨rb,hrb⟩:∃rb:Nat,Hid (w.heap.size+1=rb):=⟨_,af rfl⟩
 rw[hw0s,hrb.out] at hn1
 clear hw0s
 rw[hab.out] at hn0
 have hrd:rP w1 rb (kV ti++(kV (nR dp)++(kV (nR ex)++(kX ow++(kV pt.length++pt.flatMap kX))))):=by
  unfold rP
  rw[hn1,←hs.out]
  rfl
 have hfl:∀b:Bool,-9223372036854775808≤nR b∧nR b<9223372036854775808:=fun b=>by cases b<;>decide
 have HN1:=af (Ac rb ti _ w1 hrd h5)
 have HF:=af (ay hfl (ay h2 (ay h3 h4)))
 have HB:=af (ay (hb0.trans (hb1.mono hb0.size)) ((hb1.block ab (ah.1 hn0).1).trans hn0))
 clear hb0 hb1 hn0 hn1 hrd hfl h1 h2 h3 h4 h5
 go_enter Tryz.func74,Tryz.ntmps74
 go_upto_region 2 with (fail)
 rw[hw0.out,hrb.out,hw1.out,hab.out]
 go_wp2_with (first
  |(go_at_call 124;go_must (refine HN1.out.mono ?_;rintro e w2 ⟨rfl,hR2,hk2⟩;refine Stop.of ?_)))
 refine Stop.on ?_
 have HN2:=af (Ac rb (nR dp) _ w2 hR2 (HF.out.1 dp))
 have e2:=JI dp
 obtain⟨fd,hfd⟩:∃fd,Hid (nR dp=fd):=⟨_,af rfl⟩
 rw[hfd.out] at HN2 e2
 have HK2:=af hk2
 clear hR2 hk2
 go_wp2_with (first
  |(go_at_call 124;go_must (refine HN2.out.mono ?_;rintro e w3 ⟨rfl,hR3,hk3⟩;refine Stop.of ?_)))
 refine Stop.on ?_
 have HN3:=af (Ac rb (nR ex) _ w3 hR3 (HF.out.1 ex))
 have e3:=JI ex
 obtain⟨fe,hfe⟩:∃fe,Hid (nR ex=fe):=⟨_,af rfl⟩
 rw[hfe.out] at HN3 e3
 have HK3:=af (HK2.out.trans hk3 (fun _ _ e=>e))
 clear hR3 hk3
 go_wp2_with (first
  |(go_at_call 124;go_must (refine HN3.out.mono ?_;rintro e w4 ⟨rfl,hR4,hk4⟩;refine Stop.of ?_)))
 refine Stop.on ?_
 have HN4:=af (Jq rb ow _ w4 hR4 (by have:=HF.out.2.2.2;omega))
 have HK4:=af (HK3.out.trans hk4 (fun _ _ e=>e))
 clear hR4 hk4
 go_wp2_with (first
  |(go_at_call 125;go_must (refine HN4.out.mono ?_;rintro e w5 ⟨rfl,hR5,hk5⟩;refine Stop.of ?_)))
 refine Stop.on ?_
 have hK5:=HK4.out.trans hk5 (fun _ _ e=>e)
 have hbL:=aI w5 (.cells #[.string tk,.slice none 0 0,.bool dp,.bool ex,.string ow,.int .i64 ti] 24)
 have hnL:=aM w5 (.cells #[.string tk,.slice none 0 0,.bool dp,.bool ex,.string ow,.int .i64 ti] 24)
 obtain⟨w6,hw6⟩:∃w6:World,Hid (w5.alloc (.cells #[.string tk,.slice none 0 0,.bool dp,.bool ex,.string ow,.int .i64 ti] 24)=w6):=⟨_,af rfl⟩
 rw[hw6.out] at hbL hnL
 obtain⟨lb,hlb⟩:∃lb:Nat,Hid (w5.heap.size=lb):=⟨_,af rfl⟩
 rw[hlb.out] at hnL
 have hrl:rb<w5.heap.size:=(ah.1 hR5).1
 have hR6:rP w6 rb _:=(hbL.block rb hrl).trans hR5
 have HN5:=af (Ac rb pt.length _ w6 hR6 (by have:=HF.out.2.1;omega))
 have HL:=af (ay hK5 (ay hbL (ay hnL hrl)))
 clear hR5 hk5 hK5 hbL hnL hrl hR6
 go_upto_region 3 with (fail)
 rw[hlb.out,hw6.out]
 go_upto_region 4 with (first
  |(go_at_call 124;go_must (refine HN5.out.mono ?_;rintro e w7 ⟨rfl,hR7,hk7⟩)))
 have hrl7:rb<w7.heap.size:=(ah.1 hR7).1
 have hne:lb≠rb:=by have:=HL.out.2.2.2;have:=hlb.out;omega
 have hL7:w7.heap[lb]? =some (.cells #[.string tk,.slice none 0 0,.bool dp,.bool ex,.string ow,.int .i64 ti] 24 (0,0)):=(hk7.block lb (ah.1 HL.out.2.2.1).1 hne).trans HL.out.2.2.1
 have hz0:w.heap.size+1≤w1.heap.size:=by rw[←hw1.out];have:w.heap.size+1=w0.heap.size:=(by rw[←hw0.out];simp);simp;omega
 have hab7:w7.heap[ab]? =_:=(hk7.block ab (ax (ah.1 HB.out.2).1 (aH HL.out.1.size HL.out.2.1.size)) (by have:=hab.out;have:=hrb.out;omega)).trans ((HL.out.2.1.block ab (ax (ah.1 HB.out.2).1 HL.out.1.size)).trans ((HL.out.1.block ab (ah.1 HB.out.2).1 (by have:=hab.out;have:=hrb.out;omega)).trans HB.out.2))
 have hb7:Below w.heap.size w w7:=by
  have h1:=HB.out.1
  have h2:Below w.heap.size w w5:=h1.trans (HL.out.1.gG h1.size fun g hg e=>by have:=hrb.out;omega)
  have h3:=h2.trans (HL.out.2.1.mono h2.size)
  exact h3.trans (hk7.gG h3.size fun g hg e=>by have:=hrb.out;omega)
 have hst:SC w ab rb lb tk ow dp ex ti pt (.int .i64 (pt.length:Int)) w7:=⟨0,.slice none 0 0,aY _,by rw[Nat.sub_zero],by rw[eT];exact hR7,hL7,aS.nil _ _ _ _ _,hb7,hab7⟩
 have hlab:ab<lb:=by
  have h1:=HL.out.2.2.2
  have h2:=hlb.out;have h3:=hab.out;have h4:=hrb.out
  omega
 clear hR7 hk7 hL7 hab7 hb7 hrl7 hz0
 go_loopw [7] (fun n wr=>SC w ab rb lb tk ow dp ex ti pt n wr) (fun n _=>(intOf n).toNat)
 case atStart=>exact hst
 case round=>
  obtain⟨k,pv,hk,rfl,hR,hLb,hO,hbw,hA⟩:=hrel
  obtain⟨po,pc,rfl,_,_,_,_⟩:=dO.form hO.sW
  obtain⟨c0,c1,f0,lr⟩:=hR.cells
  clear hst
  by_cases hkl:k<pt.length
  ·have hx1:(0:Int)<((pt.length - k:Nat):Int):=by omega
   have hdr:(pt.drop k).flatMap kX=kX pt[k]++(pt.drop (k+1)).flatMap kX:=by rw[bP hkl,dx]
   have htk:(pt.take (k+1)).map Value.string=(pt.take k).map Value.string++[.string pt[k]]:=by rw[aK hkl,bX];rfl
   have hsz:=HF.out.2.2.1 pt[k] (bq hkl)
   rw[hdr] at hR
   obtain⟨sg,hsg⟩:∃sg,Hid (pt[k]=sg):=⟨_,af rfl⟩
   rw[hsg.out] at hR htk hsz
   have hRd:rP wr.drew rb (kX sg++(pt.drop (k+1)).flatMap kX):=hR
   have HT:=af (Jq rb sg _ wr.drew hRd (by omega))
   obtain⟨_,e1,_,_,_,_,le⟩:=dh hLb
   have HS:=af (ay hR (ay hLb (ay hO (ay hbw (ay hA (ay htk hdr))))))
   have hkk:(pt.length - k:Nat)=(pt.length - (k+1):Nat)+1:=by omega
   have HKK:=af hkk
   have HRL:=af lr
   clear hR hLb hO hbw hA htk hdr hRd hsz hkk
   go_wp2_with fail
   refine aP (fun W=>W.cell? ⟨lb,1,none⟩=some (.slice po k pc)∧lb<W.heap.size) (fun i=> !([3,4,5,7].contains i)) [0,1,2,3,4,5,6,7] rfl (by kernel_rfl) ⟨e1,le⟩ ?_
   repeat ((refine bO (v:= ?_) rfl rfl (fun _ _ _ h=>h) rfl (fun W hW=> ?_) ?_);rotate_left;(focus ((try dsimp only at hW);obtain⟨q0,q1⟩:=hW;(go_simp;first|done|with_reducible rfl)));(try simp only[Act.put,aj,au,ak]))
   refine dw rfl rfl rfl ?_;intro K hK;go_simp
   refine HT.out.mono ?_;rintro e w2 ⟨rfl,hR2,hk2⟩
   have hLb2:=(hk2.block lb (show lb<wr.drew.heap.size from le) hne).trans HS.out.2.1
   have hO2:=HS.out.2.2.1.keep (w':=w2) (S':=fO) fun g hg hl hs=>⟨hk2.block g hl (fun e=>by
    have h1:(rP wr rb _):=HS.out.1
    exact HS.out.2.2.1.ne h1 (by decide) (by rw[hg,e])),hs⟩
   obtain⟨_,e1,_,_,_,_,le2⟩:=dh hLb2
   refine hK.out _ _ ⟨e1,le2⟩ ?_
   (try simp only[Act.put,aj,au,ak])
   have hb3:=(aI w2 (.cells #[.string sg] 9))
   have hk2b:Keep (· =rb) wr w2:=(Keep.refl _ wr).drew.trans hk2 (fun _ _ e=>e)
   have hsrc:Src Tryz.prog 1 22 (.slice (some ⟨w2.heap.size,0,none⟩) 1 1) 1 [.string sg] (w2.alloc (.cells #[.string sg] 9)):=gM [Value.string sg] 9 1 1 1 rfl Tryz.underlying22 rfl (by simp[Value.oneCell'])
   have hO3:=hO2.below hb3
   have hLb3:=(hb3.block lb le2).trans hLb2
   obtain⟨_,e1,_,_,_,_,le3⟩:=dh hLb3
   have HW2:=af (ay hk2b (ay hR2 (ay hb3 (ay hO3 hLb3))))
   refine dw rfl rfl rfl ?_;intro K hK;go_simp
   refine hK.out _ _ ⟨e1,le3⟩ ?_
   (try simp only[Act.put,aj,au,ak])
   have hbase:w.heap.size≤(w2.alloc (.cells #[.string sg] 9)).heap.size:=aH HS.out.2.2.2.1.size (aH hk2b.size hb3.size)
   clear hk2b hb3 hLb3 e1 hO2 hLb2
   obtain⟨w3,hw3⟩:∃w3,Hid (w2.alloc (.cells #[.string sg] 9)=w3):=⟨_,af rfl⟩
   rw[hw3.out] at hsrc hO3 HW2 hbase le3 ⊢
   refine dw rfl rfl rfl ?_;intro K hK
   refine mh (.tmp 37) (.tmp 40) 22 22 rfl fO w.heap.size 9 1 16 _ Tryz.underlying22 fV rfl (.slice po k pc) k _ rfl hO3 (.slice (some ⟨w2.heap.size,0,none⟩) 1 1) 1 [.string sg] rfl hsrc (fun _ h=>h.elim) hbase (by unfold maxLen;have:=HF.out.2.1;omega) (by have:=HF.out.2.1;omega) ?_
   intro ao4 c4 w4 hown4 hk4 hb4 hd4
   have hLb4:=(hk4.block lb le3 (hO3.ne HW2.out.2.2.2.2 (by decide))).trans HW2.out.2.2.2.2
   obtain⟨_,e1,_,_,_,_,le4⟩:=dh hLb4
   have f4:w4.frozen? ⟨lb,1,none⟩=false:=by simp[World.frozen?,hLb4]
   refine hK.out _ _ ⟨e1,le4⟩ ?_
   (try simp only[Act.put,aj,au,ak])
   repeat ((refine bO (v:= ?_) rfl rfl (fun _ _ _ h=>h) rfl (fun W hW=> ?_) ?_);rotate_left;(focus ((try dsimp only at hW);obtain⟨q0,q1⟩:=hW;(go_simp;first|done|with_reducible rfl)));(try simp only[Act.put,aj,au,ak]))
   refine ja rfl rfl rfl (by kernel_rfl) ?_;intro K hK;go_simp
   refine hK.out _ _ ?_
   refine bR ?_
   have hk5:Keep (· =lb) w4 (w4.setCell ⟨lb,1,none⟩ (.slice ao4 (k+1) c4)):=(Keep.refl (· =lb) _).setCell (p:=⟨lb,1,none⟩) (.inr rfl) _
   have hnew:SC w ab rb lb tk ow dp ex ti pt (.int .i64 ((pt.length - (k+1):Nat):Int)) (w4.setCell ⟨lb,1,none⟩ (.slice ao4 (k+1) c4)):=by
    have hRt:wr.heap[rb]? =some (.cells _ 199 (0,0)):=HS.out.1
    have hRr:w2.heap[rb]? =some (.cells _ 199 (0,0)):=HW2.out.2.1
    have hR3:w3.heap[rb]? =some (.cells _ 199 (0,0)):=(HW2.out.2.2.1.block rb (ah.1 hRr).1).trans hRr
    have hR4:=(hk4.block rb (ah.1 hR3).1 (hO3.ne hR3 (by decide))).trans hR3
    have hR5:=(hk5.block rb (ah.1 hR4).1 (Ne.symm hne)).trans hR4
    have hA0:=HS.out.2.2.2.2.1
    have hA2:=(HW2.out.1.block ab (ah.1 hA0).1 (by have:=hrb.out;have:=hab.out;omega)).trans hA0
    have hA3:=(HW2.out.2.2.1.block ab (ah.1 hA2).1).trans hA2
    have hA4:=(hk4.block ab (ah.1 hA3).1 (hO3.ne hA3 (by decide))).trans hA3
    have hA5:=(hk5.block ab (ah.1 hA4).1 (by omega)).trans hA4
    have hbw:=HS.out.2.2.2.1
    have hbw2:=hbw.trans (HW2.out.1.gG hbw.size fun g hg e=>by have:=hrb.out;omega)
    have hbw3:=hbw2.trans (HW2.out.2.2.1.mono hbw2.size)
    have hbw4:=hbw3.trans hb4
    have hbw5:=hbw4.trans (hk5.gG hbw4.size fun g hg e=>by have:=hab.out;omega)
    refine⟨k+1,.slice ao4 (k+1) c4,hkl,rfl,hR5,?_,?_,hbw5,hA5⟩
    ·simp[World.setCell,aW,hLb4]
    ·rw[HS.out.2.2.2.2.2.1]
     exact hown4.keep fun g hg hl hs=>⟨hk5.block g hl (fun e=>hown4.ne hLb4 (by decide) (by rw[hg,e])),hs⟩
   have HNEW:=af hnew
   generalize w4.setCell ⟨lb,1,none⟩ (.slice ao4 (k+1) c4)=w5' at HNEW ⊢
   clear hnew hk5 hown4 hk4 hb4 hd4 hLb4 e1 le4 f4 hO3 hsrc hbase c0 c1 f0 lr
   have hsub:(((pt.length - k:Nat):Int)) - 1=((pt.length - (k+1):Nat):Int):=by omega
   go_wp2_with fail
   go_roundw
   case rel=>
    have e:wrap64 ((pt.length - (k+1):Nat):Int)=((pt.length - (k+1):Nat):Int):=by have:=HF.out.2.1;unfold wrap64;omega
    rw[e]
    exact HNEW.out
   case measure=>
    have e:wrap64 ((pt.length - (k+1):Nat):Int)=((pt.length - (k+1):Nat):Int):=by have:=HF.out.2.1;unfold wrap64;omega
    rw[e]
    simp[intOf];omega
  ·obtain rfl:k=pt.length:=by omega
   have x2:¬(0:Int)<((pt.length - pt.length:Nat):Int):=by omega
   obtain⟨e0,e1,e2,e3,e4,e5,le⟩:=dh hLb
   have hrow:Row wr ab 24 [.string ⟨#[]⟩,.slice none 0 0,.bool false,.bool false,.string ⟨#[]⟩,.int .i64 0]:=hA
   have hone:∀u∈[Value.string tk,.slice po pt.length pc,.bool dp,.bool ex,.string ow,.int .i64 ti],u.oneCell'=true:=by
    intro u hu
    simp only[bK,C8,rX] at hu
    rcases hu with rfl|rfl|rfl|rfl|rfl|rfl<;>rfl
   have HE:=af (ay hO (ay hbw (ay hone hLb)))
   clear hO hbw hA hLb hR hone
   go_wp2_with (first
    |((refine dM rfl ?_);intro K hK;(refine wp_store_row 24 (.tmp 4) (.tmp 43) rfl ab 0 24 _ [Value.string tk,.slice po pt.length pc,.bool dp,.bool ex,.string ow,.int .i64 ti] rfl rfl hrow Hq (aG 6) HE.out.2.2.1 ?_);intro w4 hr4 hk4;refine hK _ _ ?_))
   refine mK (results_cell_row rfl _ w4 ab 24 _ (0,0) _ rfl hr4 Tryz.underlying24 rfl (by kernel_rfl)) rfl ?_
   refine⟨.slice po pt.length pc,rfl,?_,?_⟩
   ·have h1:=HE.out.1
    rw[bU] at h1
    have h2:jA wr fO (.slice po pt.length pc) pt:=h1.sW
    refine dO.keep h2 fun g hg hl hs=>⟨hk4.block g hl fun e=> ?_,fun hlt=> ?_⟩
    ·exact h1.ne (show wr.heap[ab]? =some (.cells _ 24 (0,0)) from hrow) (by decide) (by rw[hg,e])
    ·exact absurd (h1.1.lt g hg).1 (fq.2 hlt)
   ·exact HE.out.2.1.trans (hk4.gG HE.out.2.1.size fun g hg e=>by have:=hab.out;omega)
theorem CJ:(Tryz.prog.info? 24).map (fun i=>(i.zero,i.size,i.bytes))=some (some (.agg #[.string ⟨#[]⟩,.slice none 0 0,.bool false,.bool false,.string ⟨#[]⟩,.int .i64 0]),6,72):=by kernel_rfl
theorem uz:(Tryz.prog.info? 24).map (·.size)=some 6:=by kernel_rfl
def RZ (g:Nat) (cb:Array Value) (so:bn→Bool) (Q:World→Prop):Prop:=∀(l:bn) (pv:Value) (T:Nat→Prop) (w:World),Q w→jA w T pv l.path→Calls Tryz.prog g (#[qN l pv]++cb) w fun e w'=>e= .returned (.bool (so l))∧Below w.heap.size w w'
theorem O7 (g:Nat) (cb:Array Value) (so:bn→Bool) (Q:World→Prop) (hent:∀args w,(callFunc g args).run Tryz.prog w= .ok (.enter g args) w) (hso:RZ g cb so Q) (lv:Value) (ps:List LP) (S:Nat→Prop) (w:World) (hl:u7 w S lv ps) (hq:∀w2,Below w.heap.size w w2→Q w2):
  Calls Tryz.prog 75 #[lv,.func (.func g) #[] cb] w fun e w'=>(∃z:Int,e= .returned (.int .i64 z)∧((z= -1∧∀p∈ps,so p.1=false)∨∃k:Nat,z=k∧∃hk:k<ps.length,so ps[k].1=true∧∀p∈ps.take k,so p.1=false))∧Below w.heap.size w w':=by
 obtain⟨lo,lc,rfl,hl1,hl2,_,_⟩:=dO.form hl.1
 have HL:=af hl;have HS:=af hso;have HQ:=af hq
 clear hl hso hq
 go_enter Tryz.func75,Tryz.ntmps75
 go_upto_region 2 with (fail)
 go_loopw [5,8] (fun _ i wr=>∃k:Nat,k≤ps.length∧i= .int .i64 k∧(∀p∈ps.take k,so p.1=false)∧Below w.heap.size w wr) (fun _ i _=>ps.length - (intOf i).toNat)
 case atStart=>exact⟨0,aY _,rfl,by simp,aQ _ _⟩
 case round=>
  obtain⟨k,hk,rfl,hno,hbw⟩:=hrel
  have HNO:=af hno;clear hno
  by_cases hkl:k<ps.length
  ·have hkl':(k:Int)<(ps.length:Int):=by omega
   obtain⟨b,o,rfl,d0,d1,d2,d3,d4,d5⟩:=(HL.out.below hbw).at rfl k hkl
   obtain⟨T,hT⟩:=(HL.out.below hbw).2 _ (bq hkl)
   have htk:ps.take (k+1)=ps.take k++[ps[k]]:=aK hkl
   obtain⟨p,hp⟩:∃p,ps[k]=p:=⟨_,rfl⟩
   rw[hp] at d0 d1 d2 d3 d4 d5 hT htk
   have hbl:=aF wr _ d0
   have hcc:=HS.out p.1 p.2 T wr (HQ.out wr hbw) hT
   obtain⟨C,hC⟩:∃C,Hid (so p.1=C):=⟨_,af rfl⟩
   rw[hC.out] at hcc
   unfold qN at hcc
   have HCC:=af hcc
   have HM:=af (ay htk (ay hp hbw))
   have hform:=dO.form hT
   clear hcc htk hp hT hbw
   obtain⟨⟨tk,pt,dp,ex,ow,ti⟩,qv⟩:=p
   dsimp only at d0 d1 d2 d3 d4 d5 HCC hC HM hform
   obtain⟨qo,qc,rfl,_,_,_,_⟩:=hform
   cases C with
   |false=>
    go_wp2_with (first
     |((refine HCC.out.mono ?_);rintro e w3 ⟨rfl,hb3⟩;refine Stop.of ?_))
    refine Stop.on ?_
    have HB3:=af (HM.out.2.2.trans (hb3.mono HM.out.2.2.size))
    clear hb3
    go_wp2_with fail
    go_roundw
    case rel=>
     refine⟨k+1,by omega,by go_num,fun q hq=> ?_,HB3.out⟩
     rw[HM.out.1] at hq
     rcases bJ.1 hq with hq|hq
     ·exact HNO.out q hq
     ·rw[bH.1 hq];exact hC.out
    case measure=>simp[intOf];omega
   |true=>
    go_wp2_with (first
     |((refine HCC.out.mono ?_);rintro e w3 ⟨rfl,hb3⟩;refine Stop.of ?_))
    refine Stop.on ?_
    have HB3:=af (HM.out.2.2.trans (hb3.mono HM.out.2.2.size))
    clear hb3
    go_wp2_with fail
    go_ret
    exact⟨⟨_,rfl,.inr ⟨k,rfl,hkl,by rw[HM.out.2.1];exact hC.out,HNO.out⟩⟩,HB3.out⟩
  ·obtain rfl:k=ps.length:=by omega
   have x2:¬(ps.length:Int)<(ps.length:Int):=by omega
   have HB:=af hbw
   clear hbw
   go_wp2_with fail
   go_ret
   exact⟨⟨_,rfl,.inl ⟨rfl,fun l qv hp=>HNO.out (l,qv) (by rw[bU];exact hp)⟩⟩,HB.out⟩
end Go.Proofs.YtpgdljlghiifjaaGreatDoor
namespace Go.Proofs.YtpgdljlghiifjaaGreatDoor
open Go.RowKit Go.Shelf
set_option maxRecDepth 100000
set_option maxHeartbeats 8000000
set_option linter.all false
noncomputable def mq:Go.Shelf.Ren:=⟨fun x=>match x with|119=>198|137=>197|152=>164|153=>127|217=>230|224=>199|225=>200|226=>165|227=>166|228=>167|266=>243|150=>77|196=>76|259=>126|103=>73|206=>162|210=>123|n=>n,fun x=>match x with|0=>0|3=>3|4=>4|5=>5|9=>9|12=>12|21=>21|24=>131|46=>108|53=>235|116=>270|117=>271|124=>306|119=>201|138=>203|139=>204|n=>n,fun x=>match x with|3=>0|4=>1|n=>n⟩
theorem vL:Lays.n150 Tryz.prog mq where
 mixed:=by kernel_rfl
 f119:=Tryz.func198.trans (congrArg some (by kernel_rfl))
 f137:=Tryz.func197.trans (congrArg some (by kernel_rfl))
 f150:=Tryz.func77.trans (congrArg some (by kernel_rfl))
 f152:=Tryz.func164.trans (congrArg some (by kernel_rfl))
 f153:=Tryz.func127.trans (congrArg some (by kernel_rfl))
 f217:=Tryz.func230.trans (congrArg some (by kernel_rfl))
 f224:=Tryz.func199.trans (congrArg some (by kernel_rfl))
 f225:=Tryz.func200.trans (congrArg some (by kernel_rfl))
 f226:=Tryz.func165.trans (congrArg some (by kernel_rfl))
 f227:=Tryz.func166.trans (congrArg some (by kernel_rfl))
 f228:=Tryz.func167.trans (congrArg some (by kernel_rfl))
 f266:=Tryz.func243.trans (congrArg some (by kernel_rfl))
 t0:=Tryz.underlying0
 a0:=Tryz.isAgg0
 z0:=Tryz.sizeOf0
 v0:=Tryz.zeroValue0
 t3:=Tryz.underlying3
 a3:=Tryz.isAgg3
 z3:=Tryz.sizeOf3
 v3:=Tryz.zeroValue3
 t4:=Tryz.underlying4
 a4:=Tryz.isAgg4
 z4:=Tryz.sizeOf4
 v4:=Tryz.zeroValue4
 t5:=Tryz.underlying5
 a5:=Tryz.isAgg5
 z5:=Tryz.sizeOf5
 v5:=Tryz.zeroValue5
 t9:=Tryz.underlying9
 a9:=Tryz.isAgg9
 z9:=Tryz.sizeOf9
 v9:=Tryz.zeroValue9
 t21:=Tryz.underlying21
 a21:=Tryz.isAgg21
 z21:=Tryz.sizeOf21
 v21:=Tryz.zeroValue21
 t46:=Tryz.underlying108
 a46:=Tryz.isAgg108
 z46:=Tryz.sizeOf108
 v46:=Tryz.zeroValue108
 t116:=Tryz.underlying270
 a116:=Tryz.isAgg270
 z116:=Tryz.sizeOf270
 t117:=Tryz.underlying271
 a117:=Tryz.isAgg271
 z117:=Tryz.sizeOf271
 v117:=Tryz.zeroValue271
 t124:=Tryz.underlying306
 a124:=Tryz.isAgg306
 z124:=Tryz.sizeOf306
 v124:=Tryz.zeroValue306
theorem LY:Lays.n196 Tryz.prog mq where
 mixed:=by kernel_rfl
 f196:=Tryz.func76.trans (congrArg some (by kernel_rfl))
 f259:=Tryz.func126.trans (congrArg some (by kernel_rfl))
 t0:=Tryz.underlying0
 a0:=Tryz.isAgg0
 z0:=Tryz.sizeOf0
 v0:=Tryz.zeroValue0
 t3:=Tryz.underlying3
 a3:=Tryz.isAgg3
 z3:=Tryz.sizeOf3
 v3:=Tryz.zeroValue3
 t4:=Tryz.underlying4
 a4:=Tryz.isAgg4
 z4:=Tryz.sizeOf4
 v4:=Tryz.zeroValue4
 t5:=Tryz.underlying5
 a5:=Tryz.isAgg5
 z5:=Tryz.sizeOf5
 v5:=Tryz.zeroValue5
 t9:=Tryz.underlying9
 a9:=Tryz.isAgg9
 z9:=Tryz.sizeOf9
 v9:=Tryz.zeroValue9
 t12:=Tryz.underlying12
 a12:=Tryz.isAgg12
 z12:=Tryz.sizeOf12
 v12:=Tryz.zeroValue12
 t46:=Tryz.underlying108
 a46:=Tryz.isAgg108
 z46:=Tryz.sizeOf108
 v46:=Tryz.zeroValue108
 t53:=Tryz.underlying235
 a53:=Tryz.isAgg235
 z53:=Tryz.sizeOf235
 v53:=Tryz.zeroValue235
 t119:=Tryz.underlying201
 a119:=Tryz.isAgg201
 z119:=Tryz.sizeOf201
 t138:=Tryz.underlying203
 a138:=Tryz.isAgg203
 z138:=Tryz.sizeOf203
 v138:=Tryz.zeroValue203
 t139:=Tryz.underlying204
 a139:=Tryz.isAgg204
 z139:=Tryz.sizeOf204
 v139:=Tryz.zeroValue204
 g3:=by kernel_rfl
 g4:=by kernel_rfl
theorem QR:Lays.n103 Tryz.prog mq where
 mixed:=by kernel_rfl
 f103:=Tryz.func73.trans (congrArg some (by kernel_rfl))
 f206:=Tryz.func162.trans (congrArg some (by kernel_rfl))
 f210:=Tryz.func123.trans (congrArg some (by kernel_rfl))
 t3:=Tryz.underlying3
 a3:=Tryz.isAgg3
 z3:=Tryz.sizeOf3
 v3:=Tryz.zeroValue3
 t4:=Tryz.underlying4
 a4:=Tryz.isAgg4
 z4:=Tryz.sizeOf4
 v4:=Tryz.zeroValue4
 t9:=Tryz.underlying9
 a9:=Tryz.isAgg9
 z9:=Tryz.sizeOf9
 v9:=Tryz.zeroValue9
 t24:=Tryz.underlying131
 a24:=Tryz.isAgg131
 z24:=Tryz.sizeOf131
 v24:=Tryz.zeroValue131
theorem Ms:(Tryz.prog.info? 270).map (fun i=>(i.zero,i.size))=some (some (.agg (Array.replicate 256 (.bool false))),256):=by kernel_rfl
end Go.Proofs.YtpgdljlghiifjaaGreatDoor
