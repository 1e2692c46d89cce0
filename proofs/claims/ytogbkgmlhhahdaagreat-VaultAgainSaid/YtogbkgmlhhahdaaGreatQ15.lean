/- parts -/
import Derived.Test.YtogbkgmlhhahdaaGreatQ2
import Derived.Test.YtogbkgmlhhahdaaGreatQ7
import Derived.Test.YtogbkgmlhhahdaaGreatQ14
set_option maxRecDepth 100000
set_option maxHeartbeats 8000000
set_option linter.all false
namespace Go.Proofs.YtogbkgmlhhahdaaGreat
open Go.RowKit
abbrev Pc:=Int×ByteArray
def lM (ps:List Pc):List Value:=ps.flatMap fun p=>[.int .i64 p.1,.string p.2]
def Jp (w:World)(S:Nat->Prop)(v:Value)(ps:List Pc):Prop:=aX w S 2 v ps.length (lM ps)
theorem Hg (ps:List Pc):∀i (h:i<ps.length),(lM ps)[i*2]? =some (.int .i64 ps[i].1)/\(lM ps)[i*2+1]? =some (.string ps[i].2):=by
 induction ps with
 |nil=>intro i h;simp at h
 |cons p ps ih=>
  intro i h
  cases i with
  |zero=>exact⟨rfl,rfl⟩
  |succ i=>
   have:=ih i (by simpa using h)
   rw[Tc]
   exact this
theorem Jp.at {w:World}{S:Nat->Prop}{v:Value}{ps:List Pc}{ao:Option Addr}{n c:Nat}(h:Jp w S v ps)(hv:v= .slice ao n c)(i:Nat)(hi:i<ps.length):
  ∃b o,ao=some ⟨b,o,none⟩/\w.cell? ⟨b,o+i*2,none⟩=some (.int .i64 ps[i].1)/\w.cell? ⟨b,o+i*2+1,none⟩=some (.string ps[i].2):=by
 obtain⟨ao',c',rfl,_,_,_,_,_,h6⟩:=h
 cases hv
 have hg:=Hg ps i hi
 obtain⟨b,o,e,h1⟩:=h6 _ _ hg.1
 obtain⟨b',o',e',h2⟩:=h6 _ _ hg.2
 rw[e] at e'
 cases e'
 exact⟨b,o,e,h1,by rw[lX];exact h2⟩
def lS (x:ByteArray):List Pc->List ByteArray
 |[]=>[]
 |_::r=>x::r.map (·.2)
theorem FD (x:ByteArray)(ps:List Pc):(lS x ps).length=ps.length:=by cases ps<;>simp[lS]
theorem Kk (x:ByteArray)(ps:List Pc)(h:0<(lS x ps).length):(lS x ps)[0]=x:=by cases ps with|nil=>simp[lS] at h|cons=>rfl
theorem Kl (x:ByteArray)(ps:List Pc)(k:Nat)(hk:0<k)(h:k<(lS x ps).length)(h':k<ps.length):(lS x ps)[k]=ps[k].2:=by
 cases ps with
 |nil=>simp at h'
 |cons p r=>
  obtain⟨k,rfl⟩:∃d,k=d+1:=⟨k - 1,by omega⟩
  simp[lS]
def gY (nd:Nd):List ByteArray:=⟨#[]⟩::nd.keys
def Nd.qL (nd:Nd)(i:Nat)(ps:List Pc):Nd:=
 ⟨nd.pairs,((gY nd).take i++lS ((gY nd).getD i ⟨#[]⟩) ps++(gY nd).drop (i+1)).drop 1,nd.kids.take i++ps.map (·.1)++nd.kids.drop (i+1)⟩
theorem aX.empty {w w':World}{S:Nat->Prop}{k:Nat}{v:Value}(h:aX w S k v 0 [])(hs:w.heap.size<=w'.heap.size):aX w' S k v 0 []:=by
 obtain⟨ao,c,rfl,h1,h2,h3,h4,h5,h6⟩:=h
 exact⟨ao,c,rfl,h1,h2,h3,h4,fun ad had=>⟨(h5 ad had).1,ak (h5 ad had).2.1 hs,(h5 ad had).2.2⟩,fun i u hu=>by simp at hu⟩
theorem aQ.base {w:World}{S:Nat->Prop}{B B' e k n:Nat}{v:Value}{xs:List Value}(h:aQ w S B' e k v n xs)(hB:B<=B'):aQ w S B e k v n xs:=by
 refine⟨⟨h.1.1,?_⟩,h.2⟩
 rcases h.1.2 with h0|⟨g,cap,cur,q1,q2,q3⟩
 ·exact .inl h0
 ·exact .inr ⟨g,cap,cur,q1,aK hB q2,q3⟩
theorem uT {w w4:World}{S:Nat->Prop}{b:Nat}{v0 x1 x2 kv v4:Value}{ks:List ByteArray}{ns:List Int}(hb4:w4.heap[b]? =some (.cells #[v0,x1,x2] 165 (0,0)))(h0:jH w4 S v0 [])(h1:jE w4 S kv ks)(h1b:kv.ownBlock≠some b)(h2:jJ w4 S v4 ns)(h2b:v4.ownBlock≠some b)(hS:¬S b)(hk:Keep (· =b) w w4):
  gG ((w4.setCell ⟨b,2,none⟩ v4).setCell ⟨b,1,none⟩ kv) S b ⟨[],ks,ns⟩/\Keep (· =b) w ((w4.setCell ⟨b,2,none⟩ v4).setCell ⟨b,1,none⟩ kv):=by
 have hk4:Keep (· =b) w4 ((w4.setCell ⟨b,2,none⟩ v4).setCell ⟨b,1,none⟩ kv):=((Keep.refl (· =b) w4).setCell (p:=⟨b,2,none⟩) (.inr rfl) v4).setCell (p:=⟨b,1,none⟩) (.inr rfl) kv
 refine⟨⟨hS,v0,kv,v4,?_,aX.empty h0 hk4.size,aX.keep h1 fun g hg hl hs=>⟨hk4.block g hl (fun e=>h1b (by rw[hg,e])),hs⟩,aX.keep h2 fun g hg hl hs=>⟨hk4.block g hl (fun e=>h2b (by rw[hg,e])),hs⟩⟩,hk.trans hk4 (fun _ _ h=>h)⟩
 simp[World.setCell,bn,hb4]
theorem Ao (b:Nat)(nd:Nd)(lv:Value)(ps:List Pc)(i:Nat)(w:World)(S:Nat->Prop)(hS:∀g,S g->g<w.heap.size)(h:gG w S b nd)(hp:nd.pairs=[])(hl:Jp w S lv ps)(hi:i<nd.kids.length)(hkk:nd.keys.length=nd.kids.length - 1)(hb1:nd.kids.length<=100000)(hb2:ps.length<=100000):
  Calls Tryz.prog 153 #[.pointer (some ⟨b,0,none⟩),.int .i64 i,lv] w fun e w'=>e= .returned (.tuple #[])/\gG w' S b (nd.qL i ps)/\Keep (· =b) w w':=by
 have hN:=h
 obtain⟨hSb,v0,v1,v2,hb,h0,h1,h22⟩:=h
 obtain⟨c0,c1,c2,_,_,_,hlt⟩:=cells3 hb
 obtain⟨lao,lc,rfl,l1,l2,l3,l4⟩:=aX.form hl
 obtain⟨kao,kc,rfl,n1,m1,q1,_⟩:=aX.form h1
 have hown0:=mq (w:=w) (S:=S) (B:=w.heap.size) (e:=9) (k:=1) [.string ⟨#[]⟩] 1 1 rfl rfl (aC _) (by simp[maxLen]) (aC _) hS
 have hsrc0:Src Tryz.prog 1 142 (.slice kao nd.keys.length kc) nd.keys.length (nd.keys.map .string) (w.alloc (.cells #[.string ⟨#[]⟩] 9)):=(aX.below h1 (aO w _)).src aY (oK _)
 have hkb:nd.keys.length<=100000:=by omega
 have HKK:=ah hkk;clear hkk
 go_enter Tryz.func153,Tryz.ntmps153
 go_wp2_with (at_builtin;go_must ((refine cK rfl (.tmp 12) (.tmp 16) 142 142 rfl S w.heap.size 9 1 16 _ aY gW rfl (.slice (some ⟨w.heap.size,0,none⟩) 1 1) 1 [.string ⟨#[]⟩] rfl hown0 (.slice kao nd.keys.length kc) _ _ rfl hsrc0 (eU hS _) ?_ ?_ ?_ ?_);(focus (simp only[aS];omega));(focus (unfold maxLen;omega));(focus omega);intro ao1 c1' w1 hown1 hk1 hbe1 hd1;refine Stop.of ?_))
 have hex:[Value.string ⟨#[]⟩]++nd.keys.map .string=(gY nd).map .string:=rfl
 rw[hex] at hown1
 have hel:(gY nd).length=nd.keys.length+1:=rfl
 have hsz1:=hk1.size
 rw[aS] at hsz1
 have HB1:Below w.heap.size w w1:=(aO w _).trans hbe1
 refine Stop.on ?_
 go_wp2_with fail
 obtain⟨x,hx⟩:∃x,x=(gY nd).getD i ⟨#[]⟩:=⟨_,rfl⟩
 have hx':(gY nd)[i]? =some x:=by rw[hx,dX,bG (by rw[hel,HKK.out];omega)];rfl
 have hxc:=aX.DU hown1.dm rfl i (.string x) (by rw[eG,hx'];rfl)
 obtain⟨eb,eo,rfl,hxc⟩:=hxc
 have hml:=FD x ps
 have HX:=ah hx;clear hx
 have HX':=ah hx';clear hx'
 have HM:=ah hml;clear hml
 have HE:=ah hel;clear hel
 go_loopw [7,8,20] (fun mv kv i wr=>∃(k:Nat) (ao co:Option Addr) (cm ck:Nat),k<=ps.length/\i= .int .i64 k/\mv= .slice ao k cm/\kv= .slice co k ck/\aQ wr S w.heap.size 9 1 mv k (((lS x ps).take k).map .string)/\aQ wr S w.heap.size 3 1 kv k ((ps.take k).map fun p=> .int .i64 p.1)/\
   aQ wr S w.heap.size 9 1 (.slice (some ⟨eb,eo,none⟩) (1+nd.keys.length) c1') (1+nd.keys.length) ((gY nd).map .string)/\(∀g,mv.ownBlock=some g->(Value.slice (some ⟨eb,eo,none⟩) (1+nd.keys.length) c1').ownBlock≠some g)/\Below w.heap.size w wr) (fun _ _ i _=>ps.length - (intOf i).toNat)
 case atStart=>exact⟨0,none,none,0,0,aT _,rfl,rfl,rfl,aQ.nil _ _ _ _ _,aQ.nil _ _ _ _ _,hown1,(fun g hg=>by cases hg),HB1⟩
 case round=>
  obtain⟨k,ao,co,cm,ck,hk,rfl,rfl,rfl,hm,hkd,hke,hne,hbel⟩:=hrel
  by_cases hlt2:k<ps.length
  ·obtain⟨lb,lo,rfl,d1,d2⟩:=hl.at rfl k hlt2
   have e1:=(hbel.cell (p:=⟨lb,lo+k*2,none⟩) (aD w _ d1)).trans d1
   have e2:=(hbel.cell (p:=⟨lb,lo+k*2+1,none⟩) (aD w _ d2)).trans d2
   have hSr:∀g,S g->g<wr.heap.size:=fun g hg=>ak (hS g hg) hbel.size
   have hsz:=hbel.size
   have hxr:wr.cell? ⟨eb,eo+i,none⟩=some (.string x):=by
    obtain⟨_,_,e,hc⟩:=aX.DU hke.dm rfl i (.string x) (by rw[eG,HX'.out];rfl)
    cases e;exact hc
   have hkl:=hke.1.lt eb rfl
   have hi2:i<1+nd.keys.length:=by rw[HKK.out];omega
   have hi3:(i:Int)<1+(nd.keys.length:Int):=by omega
   go_wp2_with (first
    |(at_builtin;(refine cK rfl (.tmp 25) (.tmp 28) 93 93 rfl S w.heap.size 3 1 8 _ bf gX rfl (.slice co k ck) k _ rfl (hkd.below (ic wr (.cells #[.int .i64 ps[k].1,.string ps[k].2] 253) (.cells #[.int .i64 ps[k].1] 3))) _ 1 [.int .i64 ps[k].1] rfl (gu (w:=wr.alloc (.cells #[.int .i64 ps[k].1,.string ps[k].2] 253)) [.int .i64 ps[k].1] 3 1 1 1 (g:=wr.heap.size+1) (aS _ _) bf rfl (by intro u hu;simp only[bM,gT,o7] at hu;rcases hu with rfl;rfl)) (eU (eU hSr _) _) ?_ ?_ ?_ ?_);go_must ((focus (simp only[aS];omega));(focus (unfold maxLen;omega));(focus omega);intro ao2 c2' w2 hown2 hk2 hb2 hd2;refine Stop.of ?_)))
   have hs2:=hk2.size
   rw[aS,aS] at hs2
   have hm2:=(hm.below (ic wr (.cells #[.int .i64 ps[k].1,.string ps[k].2] 253) (.cells #[.int .i64 ps[k].1] 3))).keep (w':=w2) fun g hg hl hs=>⟨hk2.block g hl (hm.Ju hkd (by decide) g hg),hs⟩
   have hke2:=(hke.below (ic wr (.cells #[.int .i64 ps[k].1,.string ps[k].2] 253) (.cells #[.int .i64 ps[k].1] 3))).keep (w':=w2) fun g hg hl hs=>⟨hk2.block g hl (hke.Ju hkd (by decide) g hg),hs⟩
   have HB2:Below w.heap.size w w2:=(hbel.trans ((ic wr _ _).mono hsz)).trans hb2
   have hx2:w2.cell? ⟨eb,eo+i,none⟩=some (.string x):=by
    obtain⟨_,_,e,hc⟩:=aX.DU hke2.dm rfl i (.string x) (by rw[eG,HX'.out];rfl)
    cases e;exact hc
   have hp2:w2.cell? ⟨wr.heap.size,1,none⟩=some (.string ps[k].2):=(hk2.cell (p:=⟨wr.heap.size,1,none⟩) (by simp only[aS];omega) hkd.lt).trans (by simp[xG])
   have hS2:∀g,S g->g<w2.heap.size:=fun g hg=>by have:=hSr g hg;omega
   have step:∀(y:ByteArray),(lS x ps)[k]? =some y->∀(ao3:Option Addr) (c3:Nat) (w3:World),aQ w3 S w.heap.size 9 1 (.slice ao3 (k+1) c3) (k+1) (((lS x ps).take k).map .string++[.string y])->Keep (fun g=>(Value.slice ao k cm).ownBlock=some g) (w2.alloc (.cells #[.string y] 9)) w3->Below w.heap.size (w2.alloc (.cells #[.string y] 9)) w3->
     (∀g,g<(w2.alloc (.cells #[.string y] 9)).heap.size->(Value.slice ao k cm).ownBlock≠some g->(Value.slice ao3 (k+1) c3).ownBlock≠some g)->
     aQ w3 S w.heap.size 9 1 (.slice ao3 (k+1) c3) (k+1) (((lS x ps).take (k+1)).map .string)/\aQ w3 S w.heap.size 3 1 (.slice ao2 (k+1) c2') (k+1) ((ps.take (k+1)).map fun p=> .int .i64 p.1)/\
     aQ w3 S w.heap.size 9 1 (.slice (some ⟨eb,eo,none⟩) (1+nd.keys.length) c1') (1+nd.keys.length) ((gY nd).map .string)/\(∀g,(Value.slice ao3 (k+1) c3).ownBlock=some g->(Value.slice (some ⟨eb,eo,none⟩) (1+nd.keys.length) c1').ownBlock≠some g)/\Below w.heap.size w w3:=by
    intro y hy ao3 c3 w3 g1 g2 g3 g4
    have hk3:k<(lS x ps).length:=by rw[HM.out];exact hlt2
    rw[bG hk3] at hy
    refine⟨by rw[aM hk3,bU,dw,iy,yu hy];exact g1,
     by rw[aM hlt2,bU,dw,iy];exact(hown2.below (aO w2 _)).keep fun g hg hl hs=>⟨g2.block g hl (hown2.Ju hm2 (by decide) g hg),hs⟩,
     (hke2.below (aO w2 _)).keep fun g hg hl hs=>⟨g2.block g hl (fun e=>hne g e hg),hs⟩,
     fun g hg hg2=>g4 g (by have:=(hke2.1.lt g hg2).2;rw[aS];omega) (fun e=>hne g e hg2) hg,(HB2.trans ((aO w2 _).mono (by omega))).trans g3⟩
   have Hst:=ah step;clear step
   refine Stop.on ?_
   have hy1:0<k->(lS x ps)[k]? =some ps[k].2:=fun h0=>by rw[bG (by rw[HM.out];exact hlt2),Kl x ps k h0 (by rw[HM.out];exact hlt2) hlt2]
   have hy0:k=0->(lS x ps)[k]? =some x:=fun h0=>by subst h0;rw[bG (by rw[HM.out];exact hlt2),Kk]
   have Hy1:=ah hy1;clear hy1
   have Hy0:=ah hy0;clear hy0
   by_cases hk0:k=0
   ·have hkb0:((k:Int)==0)=true:=by rw[qy];omega
    have HK0:=ah hk0;clear hk0
    go_wp2_with (first
     |(at_builtin;(refine cK rfl (.tmp 32) (.tmp 37) 142 142 rfl S w.heap.size 9 1 16 _ aY gW rfl (.slice ao k cm) k _ rfl (hm2.below (aO w2 (.cells #[.string x] 9))) _ 1 [.string x] rfl (gu (w:=w2) [.string x] 9 1 1 1 rfl aY rfl (by intro u hu;simp only[bM,gT,o7] at hu;rcases hu with rfl;rfl)) (eU hS2 _) ?_ ?_ ?_ ?_);go_must ((focus (simp only[aS];omega));(focus (unfold maxLen;omega));(focus omega);intro ao3 c3 w3 hown3 hk3 hb3 hd3;refine Stop.of ?_)))
    obtain⟨r1,r2,r3,r4,r5⟩:=Hst.out x (Hy0.out HK0.out) ao3 c3 w3 hown3 hk3 hb3 hd3
    refine Stop.on ?_
    go_wp2
    go_roundw
    case rel=>exact⟨k+1,ao3,ao2,c3,c2',hlt2,by go_num,rfl,rfl,r1,r2,r3,r4,r5⟩
    case measure=>simp[intOf];omega
   ·have hkb0:((k:Int)==0)=false:=by rw[fG];omega
    have hk1':0<k:=by omega
    go_wp2_with (first
     |(at_builtin;(refine cK rfl (.tmp 39) (.tmp 42) 142 142 rfl S w.heap.size 9 1 16 _ aY gW rfl (.slice ao k cm) k _ rfl (hm2.below (aO w2 (.cells #[.string ps[k].2] 9))) _ 1 [.string ps[k].2] rfl (gu (w:=w2) [.string ps[k].2] 9 1 1 1 rfl aY rfl (by intro u hu;simp only[bM,gT,o7] at hu;rcases hu with rfl;rfl)) (eU hS2 _) ?_ ?_ ?_ ?_);go_must ((focus (simp only[aS];omega));(focus (unfold maxLen;omega));(focus omega);intro ao3 c3 w3 hown3 hk3 hb3 hd3;refine Stop.of ?_)))
    obtain⟨r1,r2,r3,r4,r5⟩:=Hst.out ps[k].2 (Hy1.out hk1') ao3 c3 w3 hown3 hk3 hb3 hd3
    refine Stop.on ?_
    go_wp2
    go_roundw
    case rel=>exact⟨k+1,ao3,ao2,c3,c2',hlt2,by go_num,rfl,rfl,r1,r2,r3,r4,r5⟩
    case measure=>simp[intOf];omega
  ·obtain rfl:k=ps.length:=by omega
   rw[aJ (by rw[HM.out];exact aC _)] at hm
   rw[bR] at hkd
   have hSr:∀g,S g->g<wr.heap.size:=fun g hg=>ak (hS g hg) hbel.size
   have hsz:=hbel.size
   have hi2:i<1+nd.keys.length:=by rw[HKK.out];omega
   have k1:IntKind.i64.wrap ((i:Int)+1)=(i:Int)+1:=aG _ (by omega)
   go_wp2_with (first
    |(go_at_call 182;go_must (refine(Kb (.slice (some ⟨eb,eo,none⟩) (1+nd.keys.length) c1') (1+nd.keys.length) i _ (.slice ao ps.length cm) ps.length _ _ S w.heap.size hSr hsz hke (oK _) hm (fun g hg hg2=>hne g hg2 hg) (oK _) (by omega) (by omega) hi2).mono ?_;rintro e w2 ⟨v',rfl,hown2,hk2⟩;refine Stop.of ?_)))
   have HB2:Below w.heap.size w w2:=hbel.trans (hk2.ku hsz (fun g hg e=>absurd (hke.1.lt g e).1 (gI.2 hg)))
   have hs2:=hk2.size
   have hS2:∀g,S g->g<w2.heap.size:=fun g hg=>by have:=hSr g hg;omega
   obtain⟨N,hNN⟩:∃N,N=1+nd.keys.length - 1+ps.length:=⟨_,rfl⟩
   rw[<-hNN] at hown2
   obtain⟨ko,kcap,rfl,z1,z2,z3,z4⟩:=hown2.dm.form
   have hkd2:=hkd.keep (w':=w2) fun g hg hl hs=>⟨hk2.block g hl (hkd.Ju hke (by decide) g hg),hs⟩
   have c22:w2.cell? ⟨b,2,none⟩=some v2:=(HB2.cell (p:=⟨b,2,none⟩) hlt).trans c2
   have hNb:N<=200000:=by omega
   have HNN:=ah hNN;clear hNN
   have hone1:∀u∈nd.kids.map (Value.int .i64),u.oneCell'=true:=by intro u hu;obtain⟨_,_,rfl⟩:=eT.1 hu;rfl
   have hone2:∀u∈ps.map (fun p=>Value.int .i64 p.1),u.oneCell'=true:=by intro u hu;obtain⟨_,_,rfl⟩:=eT.1 hu;rfl
   refine Stop.on ?_
   go_wp2_with (first
    |(go_at_call 184;go_must (refine(uf v2 nd.kids.length _ w2 S hS2 (aX.below h22 HB2) hone1 (by omega)).mono ?_;rintro e w3 ⟨v3,rfl,hown3,hb3⟩;refine Stop.of ?_)))
   have hs3:=hb3.size
   have hS3:∀g,S g->g<w3.heap.size:=fun g hg=>by have:=hS2 g hg;omega
   have hown3b:=hown3.base (B:=w.heap.size) (by omega)
   have hkd3:=hkd2.below hb3
   have hnev:∀g,v3.ownBlock=some g->(Value.slice co ps.length ck).ownBlock≠some g:=fun g hg hg2=>by
    have:=(hown3.1.lt g hg).1
    have:=(hkd2.1.lt g hg2).2
    omega
   refine Stop.on ?_
   go_wp2_with (first
    |(go_at_call 183;go_must (refine(Kc v3 nd.kids.length i _ (.slice co ps.length ck) ps.length _ _ S w.heap.size hS3 (by omega) hown3b hone1 hkd3 hnev hone2 (by omega) (by omega) hi).mono ?_;rintro e w4 ⟨v4,rfl,hown4,hk4⟩;refine Stop.of ?_)))
   have HB4:Below w.heap.size w w4:=(HB2.trans (hb3.mono (by omega))).trans (hk4.ku (by omega) (fun g hg e=>absurd (hown3b.1.lt g e).1 (gI.2 hg)))
   have hb4:=(HB4.block b hlt).trans hb
   obtain⟨_,_,_,f0,f1,f2,_⟩:=cells3 hb4
   obtain⟨M,hM⟩:∃M,M=nd.kids.length - 1+ps.length:=⟨_,rfl⟩
   rw[<-hM] at hown4
   have HM4:=ah hM;clear hM
   obtain⟨ao4,c4,rfl,_,_,_,_⟩:=hown4.dm.form
   have hke4:aX w4 S 1 (.slice ko N kcap) N _:=(hown2.below hb3).dm.keep fun g hg hl hs=>⟨hk4.block g hl (fun e=>by have:=(hown3.1.lt g e).1;have:=(hown2.1.lt g hg).2;omega),hs⟩
   have hkb:(Value.slice ko N kcap).ownBlock≠some b:=fun e=>absurd (hown2.1.lt b e).1 (gI.2 hlt)
   have h4b:(Value.slice ao4 M c4).ownBlock≠some b:=fun e=>absurd (hown4.1.lt b e).1 (gI.2 hlt)
   have h04:jH w4 S v0 []:=by rw[hp] at h0;exact aX.empty h0 HB4.size
   have hkw:Keep (· =b) w w4:=⟨HB4.os,HB4.tape,HB4.output,HB4.size,fun g hg _=>HB4.block g hg⟩
   have h24:jJ w4 S (.slice ao4 M c4) (nd.kids.take i++ps.map (·.1)++nd.kids.drop (i+1)):=by
    have:=hown4.dm
    unfold jJ
    rw[show (nd.kids.take i++ps.map (·.1)++nd.kids.drop (i+1)).length=M by rw[HM4.out];simp only[ay,aH,aN,jM];omega]
    simp only[bU,gB,fO,zK]
    exact this
   obtain⟨E,hE⟩:∃E,E=(gY nd).take i++lS ((gY nd).getD i ⟨#[]⟩) ps++(gY nd).drop (i+1):=⟨_,rfl⟩
   have hEl:E.length=N:=by rw[hE,HNN.out,<-HX.out];simp only[ay,aH,aN,HM.out,HE.out];omega
   have hkeE:jE w4 S (.slice ko N kcap) E:=by
    unfold jE
    rw[hEl,hE,<-HX.out]
    simpa only[bU,gB,fO] using hke4
   have hrep:nd.qL i ps=⟨[],E.drop 1,nd.kids.take i++ps.map (·.1)++nd.kids.drop (i+1)⟩:=by unfold Nd.qL;rw[hp,hE]
   have HR:=ah hrep;clear hrep
   have HEE:=ah hE;clear hE
   have HEl:=ah hEl;clear hEl
   refine Stop.on ?_
   by_cases hN0:N=0
   ·subst hN0
    have hm0:min (1:Int) 0=0:=by decide
    go_wp2_with fail
    go_end0
    rw[HR.out]
    obtain rfl:E=[]:=aV HEl.out
    exact⟨rfl,uT hb4 h04 hkeE hkb h24 h4b hSb hkw⟩
   ·have hmin:min (1:Int) (N:Int)=1:=by omega
    have hN1:(1:Int)<=(N:Int):=by omega
    have hN2:1<=N:=by omega
    have hk11:(1:Int)<=(kcap:Int):=by omega
    obtain⟨kg,rfl⟩:∃kg,ko=some ⟨kg,0,none⟩:=by
     rcases hown2.1.2 with ⟨e,h0⟩|⟨g,cap,cur,e,_⟩
     ·exact absurd h0 (by omega)
     ·cases e;exact⟨g,rfl⟩
    have hk9:aX w4 S 1 (.slice (some ⟨kg,0,none⟩) N kcap) N (E.map .string):=by have:=hkeE;unfold jE at this;rwa [HEl.out] at this
    have ha:=aX.after hk9 1 hN2
    have hdl:(E.drop 1).length=N - 1:=by rw[aN,HEl.out]
    rw[aU] at ha
    by_cases hkc:kcap=1
    ·rw[if_pos hkc,show kcap - 1=0 by omega] at ha
     go_wp2_with fail
     go_end0
     rw[HR.out]
     exact⟨rfl,uT hb4 h04 (by unfold jE;rw[hdl,fO];exact ha) hkb h24 h4b hSb hkw⟩
    ·rw[if_neg hkc,iB,dY] at ha
     go_wp2_with fail
     go_end0
     rw[HR.out]
     exact⟨rfl,uT hb4 h04 (by unfold jE;rw[hdl,fO];exact ha) hkb h24 h4b hSb hkw⟩
end Go.Proofs.YtogbkgmlhhahdaaGreat
