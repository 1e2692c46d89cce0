/- parts -/
import Derived.Test.YtpgdljlghiifjaaGreatDoorJ1
import Derived.Test.YtpgdljlghiifjaaGreatDoorJ2
import Derived.Test.YtpgdljlghiifjaaGreatDoorJ9
import Derived.Test.YtpgdljlghiifjaaGreatDoorJ10
import Derived.Test.YtpgdljlghiifjaaGreatDoorJ11
namespace Go.Proofs.YtpgdljlghiifjaaGreatDoor
open Go.RowKit
set_option maxRecDepth 100000
set_option maxHeartbeats 8000000
set_option linter.all false
def pX (w:World) (b:Nat) (s:ByteArray):Prop:=w.heap[b]? =some (.cells #[.string s] 9 (0,0))
def lV (ps:List Pr) (key:ByteArray):List Pr:=if mE ps key then ps.take (dB ps key)++ps.drop (dB ps key+1) else ps
def kN (ps:List Pr) (key value:ByteArray):List Pr:=if mE ps key then ps.set (dB ps key) (key,value) else ps.take (dB ps key)++(key,value)::ps.drop (dB ps key)
theorem nM {ps:List Pr} {key:ByteArray} (h:mE ps key=true):∃h:dB ps key<ps.length,ps[dB ps key].1=key:=by
 unfold mE at h
 split at h
 ·rename_i p hp
  obtain⟨h1,h2⟩:=bZ.1 hp
  exact⟨h1,by rw[h2];exact iq h⟩
 ·cases h
theorem lX {w:World} {b:Nat} {s:ByteArray} (h:pX w b s):w.cell? ⟨b,0,none⟩=some (.string s)∧b<w.heap.size:=by
 unfold pX at h
 exact⟨by simp[World.cell?,h],(ah.1 h).1⟩
theorem aS.AP {w:World} {S:Nat→Prop} {B e k n:Nat} {v:Value} {xs:List Value} (h:aS w S B e k v n xs) (hn:0<n):∃g c,v= .slice (some ⟨g,0,none⟩) n c∧n≤c∧c≤9223372036854775807∧B≤g∧g<w.heap.size:=by
 obtain⟨ao,c,rfl,h1,h2,_⟩:=h.dD.form
 rcases h.1.2 with ⟨e,h0⟩|⟨g,cap,cur,e,hB,hg,_⟩
 ·exact absurd h0 (by omega)
 ·cases e;exact⟨g,c,rfl,h1,h2,hB,(ah.1 hg).1⟩
theorem gH.EK {w W:World} {S:Nat→Prop} {B b:Nat} {nd:Nd} {v0 v1 v2 v':Value} {ps:List Pr} (hb:W.heap[b]? =some (.cells #[v0,v1,v2] 189 (0,0))) (hS:¬S b) (hB:B≤b) (h1:aS W S B 9 1 v1 nd.keys.length (nd.keys.map .string)) (h2:aS W S B 3 1 v2 nd.kids.length (nd.kids.map (.int .i64)))
  (h0:aS W S B 130 2 v' ps.length (dH ps)) (hk:Below B w W):gH (W.setCell ⟨b,0,none⟩ v') S B b ⟨ps,nd.keys,nd.kids⟩∧Below B w (W.setCell ⟨b,0,none⟩ v'):=by
 have hk5:Keep (· =b) W (W.setCell ⟨b,0,none⟩ v'):=Keep.setCell (M:=(· =b)) (p:=⟨b,0,none⟩) (Keep.refl _ _) (.inr rfl) v'
 refine⟨⟨hS,hB,v',v1,v2,?_,h0.keep fun g hg hl hs=>⟨hk5.block g hl (fun e=>h0.ne hb (by decide) (by rw[hg,e])),hs⟩,h1.keep fun g hg hl hs=>⟨hk5.block g hl (fun e=>h1.ne hb (by decide) (by rw[hg,e])),hs⟩,h2.keep fun g hg hl hs=>⟨hk5.block g hl (fun e=>h2.ne hb (by decide) (by rw[hg,e])),hs⟩⟩,hk.setCell (by simpa using hB) v'⟩
 simp[World.setCell,aW,hb]
theorem yI (ps:List Pr) (v:ByteArray):∀(i:Nat) (h:i<ps.length),(dH ps).set (i*2+1) (.string v)=dH (ps.set i (ps[i].1,v)):=by
 induction ps with
 |nil=>intro i h;simp at h
 |cons p ps ih=>
  intro i h
  cases i with
  |zero=>rfl
  |succ i=>
   have:=ih i (by simpa using h)
   simp only[kL,ak,List.getElem_cons_succ,xH]
   rw[this]
theorem gH.EJ {w W:World} {S:Nat→Prop} {B b g c:Nat} {nd:Nd} {v1 v2:Value} {value:ByteArray} (i:Nat) (hi:i<nd.pairs.length) (hb:W.heap[b]? =some (.cells #[.slice (some ⟨g,0,none⟩) nd.pairs.length c,v1,v2] 189 (0,0))) (hS:¬S b) (hB:B≤b) (h1:aS W S B 9 1 v1 nd.keys.length (nd.keys.map .string)) (h2:aS W S B 3 1 v2 nd.kids.length (nd.kids.map (.int .i64)))
  (h0:aS W S B 130 2 (.slice (some ⟨g,0,none⟩) nd.pairs.length c) nd.pairs.length (dH nd.pairs)) (hk:Below B w W):gH (W.setCell ⟨g,i*2+1,none⟩ (.string value)) S B b ⟨nd.pairs.set i (nd.pairs[i].1,value),nd.keys,nd.kids⟩∧Below B w (W.setCell ⟨g,i*2+1,none⟩ (.string value)):=by
 obtain⟨cur,hr,hl,hx,hBg,hSg,hc,hc2⟩:=h0.row
 have hk5:Keep (· =g) W (W.setCell ⟨g,i*2+1,none⟩ (.string value)):=Keep.setCell (M:=(· =g)) (p:=⟨g,i*2+1,none⟩) (Keep.refl _ _) (.inr rfl) _
 have hr':Row (W.setCell ⟨g,i*2+1,none⟩ (.string value)) g 130 (cur.set (i*2+1) (.string value)):=by
  unfold Row at hr ⊢
  simp[World.setCell,aW,hr]
 have hgb:b≠g:=fun e=>by subst e;exact h0.ne hb (by decide) rfl
 refine⟨⟨hS,hB,_,v1,v2,(hk5.block b (ah.1 hb).1 hgb).trans hb,?_,h1.keep fun g' hg hl hs=>⟨hk5.block g' hl (fun e=>aS.Ej h1 h0 (by decide) _ hg (by rw[e];rfl)),hs⟩,h2.keep fun g' hg hl hs=>⟨hk5.block g' hl (fun e=>aS.Ej h2 h0 (by decide) _ hg (by rw[e];rfl)),hs⟩⟩,hk.setCell (by simpa using hBg) _⟩
 have:=hr'.own (S:=S) (B:=B) (k:=2) (cap:=c) nd.pairs.length (by simpa using hl) hBg hSg hc hc2
 rw[show (cur.set (i*2+1) (.string value)).take (nd.pairs.length*2)=dH (nd.pairs.set i (nd.pairs[i].1,value)) from by rw[←yI _ _ i hi,←hx,←List.take_set]] at this
 simpa using this
theorem D6 (kb nb B:Nat) (key:ByteArray) (nd:Nd) (S:Nat→Prop) (w:World) (hk:pX w kb key) (hn:gH w S B nb nd) (hr:fT nd.pairs) (hl:nd.pairs.length≤1000000):
  Calls Tryz.prog 120 #[.pointer (some ⟨nb,0,none⟩),.pointer (some ⟨kb,0,none⟩)] w fun e w'=>e= .returned (.tuple #[])∧gH w' S B nb ⟨lV nd.pairs key,nd.keys,nd.kids⟩∧Below B w w':=by
 have hN:=hn
 obtain⟨hS,hB,v0,v1,v2,hb,h0,h1,h2⟩:=hn
 obtain⟨c0,c1,c2,_,_,_,hlt⟩:=cells3 hb
 obtain⟨k0,kl⟩:=lX hk
 have hnB:B≤w.heap.size:=aH hB (gP hlt)
 cases hat:mE nd.pairs key with
 |false=>
  have hd:lV nd.pairs key=nd.pairs:=by unfold lV;rw[hat];rfl
  rw[hd]
  go_enter Tryz.func120,Tryz.ntmps120
  go_wp2_with (first
   |(go_at_call 114;go_must ((refine(pI nb nd key _ S hN.iU hr hl).mono ?_);rw[hat];rintro e w1 ⟨rfl,hb1⟩)))
  go_end0
  exact⟨rfl,hN.step (Step.of_below hb1),hb1.mono hnB⟩
 |true=>
  obtain⟨hp,hkey⟩:=nM hat
  have hd:lV nd.pairs key=nd.pairs.take (dB nd.pairs key)++nd.pairs.drop (dB nd.pairs key+1):=by unfold lV;rw[hat];rfl
  generalize hP:dB nd.pairs key=P at hp hkey hd
  obtain⟨g,c,rfl,hc1,hc2,hBg,hgl⟩:=h0.AP (by omega)
  have hpw:IntKind.i64.wrap ((P:Int)+1)=(P:Int)+1:=aR _ (by omega)
  go_enter Tryz.func120,Tryz.ntmps120
  have HP:=af hP;clear hP
  go_wp2_with (first
   |(go_at_call 114;go_must ((refine(pI nb nd key _ S hN.iU hr hl).mono ?_);rw[hat,HP.out];rintro e w1 ⟨rfl,hb1⟩;have c0':=(hb1.cell (p:=⟨nb,0,none⟩) hlt).trans c0;have hlt':=ax hlt hb1.size;clear c0 c1 c2))
   |(go_at_call 121;go_must ((refine(Gb g c nd.pairs.length P (dH nd.pairs) _ S B (h0.step (Step.of_below hb1)) (zo _) hp hl).mono ?_);rintro e w2 ⟨c',rfl,hown,hk2⟩;refine Stop.of ?_)))
  have hgb:nb≠g:=fun e=>by subst e;exact h0.ne hb (by decide) rfl
  have hbel2:Below B w w2:=(hb1.mono hnB).trans (hk2.gG (aH hnB hb1.size) (fun i hi e=>absurd hBg (by rw[←e];exact fq.2 hi)))
  have hb2:w2.heap[nb]? =some (.cells #[.slice (some ⟨g,0,none⟩) nd.pairs.length c,v1,v2] 189 (0,0)):=(hk2.block nb hlt' hgb).trans ((hb1.block nb hlt).trans hb)
  have h12:=(h1.step (Step.of_below hb1)).keep (w':=w2) (S':=S) (fun g' hg hl hs=>⟨hk2.block g' hl (fun e=>aS.Ej h1 h0 (by decide) _ hg (by rw[e];rfl)),hs⟩)
  have h22:=(h2.step (Step.of_below hb1)).keep (w':=w2) (S':=S) (fun g' hg hl hs=>⟨hk2.block g' hl (fun e=>aS.Ej h2 h0 (by decide) _ hg (by rw[e];rfl)),hs⟩)
  obtain⟨e0,e1,e2,_,_,_,hlt2⟩:=cells3 hb2
  have hlen:(nd.pairs.take P++nd.pairs.drop (P+1)).length=nd.pairs.length - 1:=by rw[aC,aD,aO];omega
  have hown':aS w2 S B 130 2 (.slice (some ⟨g,0,none⟩) (nd.pairs.length - 1) c') (nd.pairs.take P++nd.pairs.drop (P+1)).length (dH (nd.pairs.take P++nd.pairs.drop (P+1))):=by
   rw[hlen,lQ,qX,oW];exact hown
  have HH:=af hlen;clear hlen
  have hH1:=af hown';clear hown' hown
  have HD:=af hd;clear hd
  refine Stop.on ?_
  go_wp2_with fail
  go_end0
  rw[HD.out]
  have q:=gH.EK hb2 hS hB h12 h22 hH1.out hbel2
  exact⟨rfl,q.1,q.2⟩
theorem Ku (kb vb nb B:Nat) (key value:ByteArray) (nd:Nd) (S:Nat→Prop) (w:World) (hk:pX w kb key) (hv:pX w vb value) (hn:gH w S B nb nd) (hr:fT nd.pairs) (hl:nd.pairs.length≤1000000) (hat:mE nd.pairs key=true):
  Calls Tryz.prog 113 #[.pointer (some ⟨nb,0,none⟩),.pointer (some ⟨kb,0,none⟩),.pointer (some ⟨vb,0,none⟩)] w fun e w'=>e= .returned (.tuple #[])∧gH w' S B nb ⟨kN nd.pairs key value,nd.keys,nd.kids⟩∧Below B w w':=by
 have hN:=hn
 obtain⟨hS,hB,v0,v1,v2,hb,h0,h1,h2⟩:=hn
 obtain⟨c0,c1,c2,_,_,_,hlt⟩:=cells3 hb
 obtain⟨k0,kl⟩:=lX hk
 have hnB:B≤w.heap.size:=aH hB (gP hlt)
 obtain⟨hp,hkey⟩:=nM hat
 have hd:kN nd.pairs key value=nd.pairs.set (dB nd.pairs key) (key,value):=by unfold kN;rw[hat];rfl
 generalize hP:dB nd.pairs key=P at hp hkey hd
 obtain⟨g,c,rfl,hc1,hc2,hBg,hgl⟩:=h0.AP (by omega)
 go_enter Tryz.func113,Tryz.ntmps113
 have HP:=af hP;clear hP
 go_wp2_with (first
  |(go_at_call 114;go_must ((refine(pI nb nd key _ S hN.iU hr hl).mono ?_);rw[hat,HP.out];rintro e w1 ⟨rfl,hb1⟩)))
 have hb1':=hb1
 obtain⟨e0,_,_,_,_,_,hlt1⟩:=cells3 ((hb1.block nb hlt).trans hb)
 obtain⟨f0,fl⟩:=lX (show pX w1 vb value from(hb1.block vb (lX hv).2).trans hv)
 have hgl1:g<w1.heap.size:=ax hgl hb1.size
 have hcur:=(h0.step (Step.of_below hb1)).row
 obtain⟨cur,hrow,hcl,_⟩:=hcur
 have hfr:=hrow.frozen (P*2+1)
 have hcc:=hrow.cell (P*2+1)
 clear c0 c1 c2
 refine aP (fun W=>W=w1.drew) (fun i=> !([8].contains i)) [0,1,2,3,4,5,6,7,8] rfl (by kernel_rfl) rfl ?_
 have d0:w1.drew.cell? ⟨nb,0,none⟩=some (.slice (some ⟨g,0,none⟩) nd.pairs.length c):=e0
 have d1:w1.drew.cell? ⟨vb,0,none⟩=some (.string value):=f0
 have hPi:(P:Int)<(nd.pairs.length:Int):=by omega
 repeat ((refine bO (v:= ?_) rfl rfl (fun _ _ _ h=>h) rfl (fun W hW=> ?_) ?_);rotate_left;(focus ((try dsimp only at hW);subst hW;first|(go_simp;first|done|with_reducible rfl)));(try simp only[Act.put,aj,au,ak]))
 have x0:w1.drew.frozen? ⟨g,P*2+1,none⟩=false:=hfr
 have x1:w1.drew.cell? ⟨g,P*2+1,none⟩=some cur[P*2+1]:=hcc.trans (aZ (by omega))
 refine ja rfl rfl rfl (by kernel_rfl) ?_;intro K hK;go_simp
 refine hK.out _ _ ?_
 refine bR ?_
 have HD:=af hd;clear hd
 go_wp2_with fail
 go_end0
 rw[HD.out,←hkey]
 have q:=gH.EJ (W:=w1.drew) (w:=w) (value:=value) P hp ((hb1'.block nb hlt).trans hb) hS hB (h1.step (Step.of_below hb1'.drew)) (h2.step (Step.of_below hb1'.drew)) (h0.step (Step.of_below hb1'.drew)) (hb1'.drew.mono hnB)
 exact⟨rfl,q.1,q.2⟩
theorem Kt (kb vb nb B:Nat) (key value:ByteArray) (nd:Nd) (S:Nat→Prop) (w:World) (hsub:∀g,S g→g<w.heap.size) (hk:pX w kb key) (hv:pX w vb value) (hkB:kb<B) (hvB:vb<B) (hn:gH w S B nb nd) (hr:fT nd.pairs) (hl:nd.pairs.length≤999999) (hat:mE nd.pairs key=false):
  Calls Tryz.prog 113 #[.pointer (some ⟨nb,0,none⟩),.pointer (some ⟨kb,0,none⟩),.pointer (some ⟨vb,0,none⟩)] w fun e w'=>e= .returned (.tuple #[])∧gH w' S B nb ⟨kN nd.pairs key value,nd.keys,nd.kids⟩∧Below B w w':=by
 have hN:=hn
 obtain⟨hS,hB,v0,v1,v2,hb,h0,h1,h2⟩:=hn
 obtain⟨c0,c1,c2,_,_,_,hlt⟩:=cells3 hb
 obtain⟨k0,kl⟩:=lX hk
 have hnB:B≤w.heap.size:=aH hB (gP hlt)
 have hp:=nH nd.pairs key
 have hd:kN nd.pairs key value=nd.pairs.take (dB nd.pairs key)++(key,value)::nd.pairs.drop (dB nd.pairs key):=by unfold kN;rw[hat];rfl
 generalize hP:dB nd.pairs key=P at hp hd
 obtain⟨ao0,cp0,rfl,n0,m0,_,_⟩:=h0.dD.form
 go_enter Tryz.func113,Tryz.ntmps113
 have HP:=af hP;clear hP
 have HD:=af hd;clear hd
 go_wp2_with (first
  |(go_at_call 114;go_must ((refine(pI nb nd key _ S hN.iU hr (by omega)).mono ?_);rw[hat,HP.out];rintro e w1 ⟨rfl,hb1⟩)))
 have hbn1:=(hb1.block nb hlt).trans hb
 obtain⟨e0,_,_,_,_,_,hlt1⟩:=cells3 hbn1
 obtain⟨f0,fl⟩:=lX (show pX w1 kb key from(hb1.block kb kl).trans hk)
 have hv1:pX w1 vb value:=(hb1.block vb (lX hv).2).trans hv
 have hsz1:=hb1.size
 have hB1:Below B w w1.drew:=(hb1.mono hnB).drew
 have h01:=h0.step (Step.of_below hb1)
 have h11:=h1.step (Step.of_below hb1)
 have h21:=h2.step (Step.of_below hb1)
 clear c0 c1 c2
 refine aP (fun W=>W.cell? ⟨nb,0,none⟩=some (.slice ao0 nd.pairs.length cp0)∧nb<W.heap.size∧W.cell? ⟨kb,0,none⟩=some (.string key)∧kb<W.heap.size) (fun i=> !([8,9,12].contains i)) [0,1,2,3,4,5,6,7,8,9,10,11,12] rfl (by kernel_rfl) ⟨e0,hlt1,f0,fl⟩ ?_
 repeat ((refine bO (v:= ?_) rfl rfl (fun _ _ _ h=>h) rfl (fun W hW=> ?_) ?_);rotate_left;(focus ((try dsimp only at hW);have q0:=hW.1;have q1:=hW.2.1;have q2:=hW.2.2.1;have q3:=hW.2.2.2;first|(go_simp;first|done|with_reducible rfl)));(try simp only[Act.put,aj,au,ak]))
 refine dw rfl rfl rfl ?_;intro K hK;go_simp
 have hbn:Below w1.drew.heap.size w1.drew (w1.alloc (.cells #[.string key,.string ⟨#[]⟩] 130)).drew:=aI w1.drew (.cells #[.string key,.string ⟨#[]⟩] 130)
 have hB2:Below B w (w1.alloc (.cells #[.string key,.string ⟨#[]⟩] 130)).drew:=hB1.trans (hbn.mono (aH hnB hsz1))
 have hbn2:=(hbn.block nb hlt1).trans hbn1
 have hk2:pX (w1.alloc (.cells #[.string key,.string ⟨#[]⟩] 130)).drew kb key:=(hB2.block kb hkB).trans hk
 have hv2:pX (w1.alloc (.cells #[.string key,.string ⟨#[]⟩] 130)).drew vb value:=(hB2.block vb hvB).trans hv
 have hins:=FK (.slice ao0 nd.pairs.length cp0) nd.pairs.length P (dH nd.pairs) w1.heap.size [.string key,.string ⟨#[]⟩] (w1.alloc (.cells #[.string key,.string ⟨#[]⟩] 130)).drew S B (fun g hg=>ax (hsub g hg) (aH hsz1 hbn.size)) (aH hnB (aH hsz1 hbn.size)) ((h01.drew).step (Step.of_below hbn)) (zo _) (aM w1.drew _) h01.lt rfl (by intro u hu;simp at hu;rcases hu with rfl|rfl<;>rfl) (by omega) hp
 have h12:=(h11.drew).step (Step.of_below hbn)
 have h22:=(h21.drew).step (Step.of_below hbn)
 have h02:=(h01.drew).step (Step.of_below hbn)
 generalize (w1.alloc (.cells #[.string key,.string ⟨#[]⟩] 130)).drew=w2 at*
 refine hK.out _ _ ⟨(cells3 hbn2).1,(cells3 hbn2).2.2.2.2.2.2,(lX hk2).1,(lX hk2).2⟩ ?_
 refine dw rfl rfl rfl ?_;intro K hK;go_simp
 refine hins.mono ?_;rintro e w3 ⟨v3,rfl,hown3,hk3⟩
 have hnbv:(Value.slice ao0 nd.pairs.length cp0).ownBlock≠some nb:=h02.ne hbn2 (by decide)
 have hbn3:=(hk3.block nb (cells3 hbn2).2.2.2.2.2.2 hnbv).trans hbn2
 have hB3:Below B w w3:=hB2.trans (hk3.gG (aH hnB hB2.size) (fun i hi e=>absurd (h02.lo i e) (fq.2 hi)))
 have hk3':pX w3 kb key:=(hB3.block kb hkB).trans hk
 have hv3':pX w3 vb value:=(hB3.block vb hvB).trans hv
 have h13:=h12.keep (w':=w3) (S':=S) (fun g hg hl hs=>⟨hk3.block g hl (fun e=>aS.Ej h12 h02 (by decide) _ hg e),hs⟩)
 have h23:=h22.keep (w':=w3) (S':=S) (fun g hg hl hs=>⟨hk3.block g hl (fun e=>aS.Ej h22 h02 (by decide) _ hg e),hs⟩)
 refine hK.out _ _ ⟨(cells3 hbn3).1,(cells3 hbn3).2.2.2.2.2.2,(lX hk3').1,(lX hk3').2⟩ ?_
 repeat ((refine bO (v:= ?_) rfl rfl (fun _ _ _ h=>h) rfl (fun W hW=> ?_) ?_);rotate_left;(focus ((try dsimp only at hW);have q0:=hW.1;have q1:=hW.2.1;have q2:=hW.2.2.1;have q3:=hW.2.2.2;first|(go_simp;first|done|with_reducible rfl)));(try simp only[Act.put,aj,au,ak]))
 have hpl:(nd.pairs.take P++(key,(⟨#[]⟩:ByteArray))::nd.pairs.drop P).length=nd.pairs.length+1:=by simp only[aC,aD,bf,aO];omega
 have hown3':aS w3 S B 130 2 v3 (nd.pairs.take P++(key,(⟨#[]⟩:ByteArray))::nd.pairs.drop P).length (dH (nd.pairs.take P++(key,(⟨#[]⟩:ByteArray))::nd.pairs.drop P)):=by
  rw[hpl,lQ,kL,qX,oW];simpa using hown3
 have hpp:P<(nd.pairs.take P++(key,(⟨#[]⟩:ByteArray))::nd.pairs.drop P).length:=by rw[hpl];omega
 have hset:(nd.pairs.take P++(key,(⟨#[]⟩:ByteArray))::nd.pairs.drop P).set P (key,value)=nd.pairs.take P++(key,value)::nd.pairs.drop P:=by
  rw[gY _ _ (by rw[aD];omega)]
  rw[show P - (nd.pairs.take P).length=0 from by rw[aD];omega]
  rfl
 have hget:(nd.pairs.take P++(key,(⟨#[]⟩:ByteArray))::nd.pairs.drop P)[P].1=key:=by
  have h1:(nd.pairs.take P++(key,(⟨#[]⟩:ByteArray))::nd.pairs.drop P)[P]? =some (key,(⟨#[]⟩:ByteArray)):=by
   rw[bV (by rw[aD];omega),show P - (nd.pairs.take P).length=0 from by rw[aD];omega]
   rfl
  rw[(bZ.1 h1).2]
 generalize hX:nd.pairs.take P++(key,(⟨#[]⟩:ByteArray))::nd.pairs.drop P=X at hown3' hpp hset hget hpl
 have HSet:=af hset;clear hset
 have HX:=af hX;clear hX
 have q:=gH.EK (nd:=nd) hbn3 hS hB h13 h23 hown3' hB3
 obtain⟨g,c,rfl,hc1,hc2,hBg,hgl⟩:=hown3'.AP (by omega)
 have HPL:=af hpl;clear hpl
 have x0:w3.frozen? ⟨nb,0,none⟩=false:=(cells3 hbn3).2.2.2.1
 have x1:=(cells3 hbn3).1
 have x2:=(cells3 hbn3).2.2.2.2.2.2
 refine ja rfl rfl rfl (by kernel_rfl) ?_;intro K hK;go_simp
 refine hK.out _ _ ?_
 refine bR ?_
 have hv4:pX (w3.setCell ⟨nb,0,none⟩ (.slice (some ⟨g,0,none⟩) X.length c)) vb value:=(q.2.block vb hvB).trans hv
 have hcell4:(w3.setCell ⟨nb,0,none⟩ (.slice (some ⟨g,0,none⟩) X.length c)).cell? ⟨nb,0,none⟩=some (.slice (some ⟨g,0,none⟩) X.length c):=by simp[World.setCell,World.cell?,aW,hbn3]
 generalize w3.setCell ⟨nb,0,none⟩ (.slice (some ⟨g,0,none⟩) X.length c)=w4 at*
 clear x0 x1 x2
 go_wp2_with fail
 obtain⟨⟨_,_,u0,u1,u2,hb4,q0,q1,q2⟩,hB4⟩:=q
 have hu0:u0= .slice (some ⟨g,0,none⟩) X.length c:=by have e:=hcell4.symm.trans (cells3 hb4).1;cases e;rfl
 subst hu0
 obtain⟨cur,hrow,hcl,_⟩:=q0.row
 have hgl4:=hrow.lt
 have hlt4:=(cells3 hb4).2.2.2.2.2.2
 have hfr:=hrow.frozen (P*2+1)
 have hcc:=hrow.cell (P*2+1)
 have d0:w4.drew.cell? ⟨nb,0,none⟩=some (.slice (some ⟨g,0,none⟩) X.length c):=hcell4
 have d1:w4.drew.cell? ⟨vb,0,none⟩=some (.string value):=(lX hv4).1
 have hvl4:=(lX hv4).2
 have hPi:(P:Int)<(X.length:Int):=by omega
 refine aP (fun W=>W=w4.drew) (fun i=> !([8].contains i)) [0,1,2,3,4,5,6,7,8] rfl (by kernel_rfl) rfl ?_
 repeat ((refine bO (v:= ?_) rfl rfl (fun _ _ _ h=>h) rfl (fun W hW=> ?_) ?_);rotate_left;(focus ((try dsimp only at hW);subst hW;first|(go_simp;first|done|with_reducible rfl)));(try simp only[Act.put,aj,au,ak]))
 have x0:w4.drew.frozen? ⟨g,P*2+1,none⟩=false:=hfr
 have x1:w4.drew.cell? ⟨g,P*2+1,none⟩=some (cur.getD (P*2+1) undef):=hcc.trans (by rw[fG,aZ (by have:nd.pairs.length≤999999:=hl;omega)];rfl)
 refine ja rfl rfl rfl (by kernel_rfl) ?_;intro K hK;go_simp
 refine hK.out _ _ ?_
 refine bR ?_
 go_wp2_with fail
 go_end0
 have qq:=gH.EJ (nd:=⟨X,nd.keys,nd.kids⟩) (W:=w4.drew) (w:=w) (value:=value) P hpp hb4 hS hB q1 q2 q0 hB4.drew
 rw[HD.out,←HSet.out]
 have e2:X[P]=(key,X[P].2):=by rw[←hget]
 have e3:X.set P (X[P].1,value)=X.set P (key,value):=by rw[hget]
 rw[←e3]
 exact⟨rfl,qq.1,qq.2⟩
theorem Kw (kb vb nb B:Nat) (key value:ByteArray) (nd:Nd) (S:Nat→Prop) (w:World) (hsub:∀g,S g→g<w.heap.size) (hk:pX w kb key) (hv:pX w vb value) (hkB:kb<B) (hvB:vb<B) (hn:gH w S B nb nd) (hr:fT nd.pairs) (hl:nd.pairs.length≤999999):
  Calls Tryz.prog 113 #[.pointer (some ⟨nb,0,none⟩),.pointer (some ⟨kb,0,none⟩),.pointer (some ⟨vb,0,none⟩)] w fun e w'=>e= .returned (.tuple #[])∧gH w' S B nb ⟨kN nd.pairs key value,nd.keys,nd.kids⟩∧Below B w w':=by
 cases hat:mE nd.pairs key with
 |true=>exact Ku kb vb nb B key value nd S w hk hv hn hr (by omega) hat
 |false=>exact Kt kb vb nb B key value nd S w hsub hk hv hkB hvB hn hr hl hat
end Go.Proofs.YtpgdljlghiifjaaGreatDoor
