/- parts -/
import Derived.Test.YtbfjgkafmlbpcaaGreatDoorT2
import Derived.Test.YtbfjgkafmlbpcaaGreatDoorT7
import Derived.Test.YtbfjgkafmlbpcaaGreatDoorT13
set_option maxRecDepth 100000
set_option maxHeartbeats 8000000
set_option linter.all false
namespace Go.Proofs.YtbfjgkafmlbpcaaGreatDoor
open Go.RowKit
abbrev Pc:=Int×ByteArray
def kQ (ps:List Pc):List Value:=ps.flatMap fun p=>[.int .i64 p.1,.string p.2]
def Gu (w:World)(S:Nat->Prop)(v:Value)(ps:List Pc):Prop:=bn w S 2 v ps.length (kQ ps)
theorem Fj (ps:List Pc):∀i (h:i<ps.length),(kQ ps)[i*2]? =some (.int .i64 ps[i].1)/\(kQ ps)[i*2+1]? =some (.string ps[i].2):=by
 induction ps with
 |nil=>intro i h;simp at h
 |cons p ps ih=>
  intro i h
  cases i with
  |zero=>exact⟨rfl,rfl⟩
  |succ i=>
   have:=ih i (by simpa using h)
   rw[Qo]
   exact this
theorem Gu.at {w:World}{S:Nat->Prop}{v:Value}{ps:List Pc}{ao:Option Addr}{n c:Nat}(h:Gu w S v ps)(hv:v= .slice ao n c)(i:Nat)(hi:i<ps.length):
  ∃b o,ao=some ⟨b,o,none⟩/\w.cell? ⟨b,o+i*2,none⟩=some (.int .i64 ps[i].1)/\w.cell? ⟨b,o+i*2+1,none⟩=some (.string ps[i].2):=by
 obtain⟨ao',c',rfl,_,_,_,_,_,h6⟩:=h
 cases hv
 have hg:=Fj ps i hi
 obtain⟨b,o,e,h1⟩:=h6 _ _ hg.1
 obtain⟨b',o',e',h2⟩:=h6 _ _ hg.2
 rw[e] at e'
 cases e'
 exact⟨b,o,e,h1,by rw[lY];exact h2⟩
def kS (x:ByteArray):List Pc->List ByteArray
 |[]=>[]
 |_::r=>x::r.map (·.2)
theorem D5 (x:ByteArray)(ps:List Pc):(kS x ps).length=ps.length:=by cases ps<;>simp[kS]
theorem Ik (x:ByteArray)(ps:List Pc)(h:0<(kS x ps).length):(kS x ps)[0]=x:=by cases ps with|nil=>simp[kS] at h|cons=>rfl
theorem Il (x:ByteArray)(ps:List Pc)(k:Nat)(hk:0<k)(h:k<(kS x ps).length)(h':k<ps.length):(kS x ps)[k]=ps[k].2:=by
 cases ps with
 |nil=>simp at h'
 |cons p r=>
  obtain⟨k,rfl⟩:∃d,k=d+1:=⟨k - 1,by omega⟩
  simp[kS]
def fV (nd:Nd):List ByteArray:=⟨#[]⟩::nd.keys
def Nd.pG (nd:Nd)(i:Nat)(ps:List Pc):Nd:=
 ⟨nd.pairs,((fV nd).take i++kS ((fV nd).getD i ⟨#[]⟩) ps++(fV nd).drop (i+1)).drop 1,nd.kids.take i++ps.map (·.1)++nd.kids.drop (i+1)⟩
theorem bn.empty {w w':World}{S:Nat->Prop}{k:Nat}{v:Value}(h:bn w S k v 0 [])(hs:w.heap.size<=w'.heap.size):bn w' S k v 0 []:=by
 obtain⟨ao,c,rfl,h1,h2,h3,h4,h5,h6⟩:=h
 exact⟨ao,c,rfl,h1,h2,h3,h4,fun ad had=>⟨(h5 ad had).1,ak (h5 ad had).2.1 hs,(h5 ad had).2.2⟩,fun i u hu=>by simp at hu⟩
theorem aP.base {w:World}{S:Nat->Prop}{B B' e k n:Nat}{v:Value}{xs:List Value}(h:aP w S B' e k v n xs)(hB:B<=B'):aP w S B e k v n xs:=by
 refine⟨⟨h.1.1,?_⟩,h.2⟩
 rcases h.1.2 with h0|⟨g,cap,cur,q1,q2,q3⟩
 ·exact .inl h0
 ·exact .inr ⟨g,cap,cur,q1,aI hB q2,q3⟩
theorem sM {w w4:World}{S:Nat->Prop}{b:Nat}{v0 x1 x2 kv v4:Value}{ks:List ByteArray}{ns:List Int}(hb4:w4.heap[b]? =some (.cells #[v0,x1,x2] 260 (0,0)))(h0:nN w4 S v0 [])(h1:iL w4 S kv ks)(h1b:kv.ownBlock≠some b)(h2:jq w4 S v4 ns)(h2b:v4.ownBlock≠some b)(hS:¬S b)(hk:Keep (· =b) w w4):
  fD ((w4.setCell ⟨b,2,none⟩ v4).setCell ⟨b,1,none⟩ kv) S b ⟨[],ks,ns⟩/\Keep (· =b) w ((w4.setCell ⟨b,2,none⟩ v4).setCell ⟨b,1,none⟩ kv):=by
 have hk4:Keep (· =b) w4 ((w4.setCell ⟨b,2,none⟩ v4).setCell ⟨b,1,none⟩ kv):=((Keep.refl (· =b) w4).setCell (p:=⟨b,2,none⟩) (.inr rfl) v4).setCell (p:=⟨b,1,none⟩) (.inr rfl) kv
 refine⟨⟨hS,v0,kv,v4,?_,bn.empty h0 hk4.size,bn.keep h1 fun g hg hl hs=>⟨hk4.block g hl (fun e=>h1b (by rw[hg,e])),hs⟩,bn.keep h2 fun g hg hl hs=>⟨hk4.block g hl (fun e=>h2b (by rw[hg,e])),hs⟩⟩,hk.trans hk4 (fun _ _ h=>h)⟩
 simp[World.setCell,aS,hb4]
theorem yU (b:Nat)(nd:Nd)(lv:Value)(ps:List Pc)(i:Nat)(w:World)(S:Nat->Prop)(hS:∀g,S g->g<w.heap.size)(h:fD w S b nd)(hp:nd.pairs=[])(hl:Gu w S lv ps)(hi:i<nd.kids.length)(hkk:nd.keys.length=nd.kids.length - 1)(hb1:nd.kids.length<=100000)(hb2:ps.length<=100000):
  Calls Tryz.prog 209 #[.pointer (some ⟨b,0,none⟩),.int .i64 i,lv] w fun e w'=>e= .returned (.tuple #[])/\fD w' S b (nd.pG i ps)/\Keep (· =b) w w':=by
 have hN:=h
 obtain⟨hSb,v0,v1,v2,hb,h0,h1,h22⟩:=h
 obtain⟨c0,c1,c2,_,_,_,hlt⟩:=cells3 hb
 obtain⟨lao,lc,rfl,l1,l2,l3,l4⟩:=bn.form hl
 obtain⟨kao,kc,rfl,n1,m1,q1,_⟩:=bn.form h1
 have hown0:=mq (w:=w) (S:=S) (B:=w.heap.size) (e:=9) (k:=1) [.string ⟨#[]⟩] 1 1 rfl rfl (ax _) (by simp[maxLen]) (ax _) hS
 have hsrc0:Src Tryz.prog 1 22 (.slice kao nd.keys.length kc) nd.keys.length (nd.keys.map .string) (w.alloc (.cells #[.string ⟨#[]⟩] 9)):=(bn.below h1 (aF w _)).src aW (nu _)
 have hkb:nd.keys.length<=100000:=by omega
 have HKK:=af hkk;clear hkk
 go_enter Tryz.func209,Tryz.ntmps209
 go_wp2_with (at_builtin;go_must ((refine dB rfl (.tmp 12) (.tmp 16) 22 22 rfl S w.heap.size 9 1 16 _ aW gu rfl (.slice (some ⟨w.heap.size,0,none⟩) 1 1) 1 [.string ⟨#[]⟩] rfl hown0 (.slice kao nd.keys.length kc) _ _ rfl hsrc0 (fq hS _) ?_ ?_ ?_ ?_);(focus (simp only[aV];omega));(focus (unfold maxLen;omega));(focus omega);intro ao1 c1' w1 hown1 hk1 hbe1 hd1;refine Stop.of ?_))
 have hex:[Value.string ⟨#[]⟩]++nd.keys.map .string=(fV nd).map .string:=rfl
 rw[hex] at hown1
 have hel:(fV nd).length=nd.keys.length+1:=rfl
 have hsz1:=hk1.size
 rw[aV] at hsz1
 have HB1:Below w.heap.size w w1:=(aF w _).trans hbe1
 refine Stop.on ?_
 go_wp2_with fail
 obtain⟨x,hx⟩:∃x,x=(fV nd).getD i ⟨#[]⟩:=⟨_,rfl⟩
 have hx':(fV nd)[i]? =some x:=by rw[hx,fF,bF (by rw[hel,HKK.out];omega)];rfl
 have hxc:=bn.Bt hown1.cZ rfl i (.string x) (by rw[dM,hx'];rfl)
 obtain⟨eb,eo,rfl,hxc⟩:=hxc
 have hml:=D5 x ps
 have HX:=af hx;clear hx
 have HX':=af hx';clear hx'
 have HM:=af hml;clear hml
 have HE:=af hel;clear hel
 go_loopw [7,8,20] (fun mv kv i wr=>∃(k:Nat) (ao co:Option Addr) (cm ck:Nat),k<=ps.length/\i= .int .i64 k/\mv= .slice ao k cm/\kv= .slice co k ck/\aP wr S w.heap.size 9 1 mv k (((kS x ps).take k).map .string)/\aP wr S w.heap.size 3 1 kv k ((ps.take k).map fun p=> .int .i64 p.1)/\
   aP wr S w.heap.size 9 1 (.slice (some ⟨eb,eo,none⟩) (1+nd.keys.length) c1') (1+nd.keys.length) ((fV nd).map .string)/\(∀g,mv.ownBlock=some g->(Value.slice (some ⟨eb,eo,none⟩) (1+nd.keys.length) c1').ownBlock≠some g)/\Below w.heap.size w wr) (fun _ _ i _=>ps.length - (intOf i).toNat)
 case atStart=>exact⟨0,none,none,0,0,bf _,rfl,rfl,rfl,aP.nil _ _ _ _ _,aP.nil _ _ _ _ _,hown1,(fun g hg=>by cases hg),HB1⟩
 case round=>
  obtain⟨k,ao,co,cm,ck,hk,rfl,rfl,rfl,hm,hkd,hke,hne,hbel⟩:=hrel
  by_cases hlt2:k<ps.length
  ·obtain⟨lb,lo,rfl,d1,d2⟩:=hl.at rfl k hlt2
   have e1:=(hbel.cell (p:=⟨lb,lo+k*2,none⟩) (aH w _ d1)).trans d1
   have e2:=(hbel.cell (p:=⟨lb,lo+k*2+1,none⟩) (aH w _ d2)).trans d2
   have hSr:∀g,S g->g<wr.heap.size:=fun g hg=>ak (hS g hg) hbel.size
   have hsz:=hbel.size
   have hxr:wr.cell? ⟨eb,eo+i,none⟩=some (.string x):=by
    obtain⟨_,_,e,hc⟩:=bn.Bt hke.cZ rfl i (.string x) (by rw[dM,HX'.out];rfl)
    cases e;exact hc
   have hkl:=hke.1.lt eb rfl
   have hi2:i<1+nd.keys.length:=by rw[HKK.out];omega
   have hi3:(i:Int)<1+(nd.keys.length:Int):=by omega
   go_wp2_with (first
    |(at_builtin;(refine dB rfl (.tmp 25) (.tmp 28) 171 171 rfl S w.heap.size 3 1 8 _ aZ gU rfl (.slice co k ck) k _ rfl (hkd.below (gy wr (.cells #[.int .i64 ps[k].1,.string ps[k].2] 324) (.cells #[.int .i64 ps[k].1] 3))) _ 1 [.int .i64 ps[k].1] rfl (gY (w:=wr.alloc (.cells #[.int .i64 ps[k].1,.string ps[k].2] 324)) [.int .i64 ps[k].1] 3 1 1 1 (g:=wr.heap.size+1) (aV _ _) aZ rfl (by intro u hu;simp only[bM,mQ,zn] at hu;rcases hu with rfl;rfl)) (fq (fq hSr _) _) ?_ ?_ ?_ ?_);go_must ((focus (simp only[aV];omega));(focus (unfold maxLen;omega));(focus omega);intro ao2 c2' w2 hown2 hk2 hb2 hd2;refine Stop.of ?_)))
   have hs2:=hk2.size
   rw[aV,aV] at hs2
   have hm2:=(hm.below (gy wr (.cells #[.int .i64 ps[k].1,.string ps[k].2] 324) (.cells #[.int .i64 ps[k].1] 3))).keep (w':=w2) fun g hg hl hs=>⟨hk2.block g hl (hm.Ij hkd (by decide) g hg),hs⟩
   have hke2:=(hke.below (gy wr (.cells #[.int .i64 ps[k].1,.string ps[k].2] 324) (.cells #[.int .i64 ps[k].1] 3))).keep (w':=w2) fun g hg hl hs=>⟨hk2.block g hl (hke.Ij hkd (by decide) g hg),hs⟩
   have HB2:Below w.heap.size w w2:=(hbel.trans ((gy wr _ _).mono hsz)).trans hb2
   have hx2:w2.cell? ⟨eb,eo+i,none⟩=some (.string x):=by
    obtain⟨_,_,e,hc⟩:=bn.Bt hke2.cZ rfl i (.string x) (by rw[dM,HX'.out];rfl)
    cases e;exact hc
   have hp2:w2.cell? ⟨wr.heap.size,1,none⟩=some (.string ps[k].2):=(hk2.cell (p:=⟨wr.heap.size,1,none⟩) (by simp only[aV];omega) hkd.lt).trans (by simp[vH])
   have hS2:∀g,S g->g<w2.heap.size:=fun g hg=>by have:=hSr g hg;omega
   have step:∀(y:ByteArray),(kS x ps)[k]? =some y->∀(ao3:Option Addr) (c3:Nat) (w3:World),aP w3 S w.heap.size 9 1 (.slice ao3 (k+1) c3) (k+1) (((kS x ps).take k).map .string++[.string y])->Keep (fun g=>(Value.slice ao k cm).ownBlock=some g) (w2.alloc (.cells #[.string y] 9)) w3->Below w.heap.size (w2.alloc (.cells #[.string y] 9)) w3->
     (∀g,g<(w2.alloc (.cells #[.string y] 9)).heap.size->(Value.slice ao k cm).ownBlock≠some g->(Value.slice ao3 (k+1) c3).ownBlock≠some g)->
     aP w3 S w.heap.size 9 1 (.slice ao3 (k+1) c3) (k+1) (((kS x ps).take (k+1)).map .string)/\aP w3 S w.heap.size 3 1 (.slice ao2 (k+1) c2') (k+1) ((ps.take (k+1)).map fun p=> .int .i64 p.1)/\
     aP w3 S w.heap.size 9 1 (.slice (some ⟨eb,eo,none⟩) (1+nd.keys.length) c1') (1+nd.keys.length) ((fV nd).map .string)/\(∀g,(Value.slice ao3 (k+1) c3).ownBlock=some g->(Value.slice (some ⟨eb,eo,none⟩) (1+nd.keys.length) c1').ownBlock≠some g)/\Below w.heap.size w w3:=by
    intro y hy ao3 c3 w3 g1 g2 g3 g4
    have hk3:k<(kS x ps).length:=by rw[HM.out];exact hlt2
    rw[bF hk3] at hy
    refine⟨by rw[aQ hk3,bX,cu,iq,wh hy];exact g1,
     by rw[aQ hlt2,bX,cu,iq];exact(hown2.below (aF w2 _)).keep fun g hg hl hs=>⟨g2.block g hl (hown2.Ij hm2 (by decide) g hg),hs⟩,
     (hke2.below (aF w2 _)).keep fun g hg hl hs=>⟨g2.block g hl (fun e=>hne g e hg),hs⟩,
     fun g hg hg2=>g4 g (by have:=(hke2.1.lt g hg2).2;rw[aV];omega) (fun e=>hne g e hg2) hg,(HB2.trans ((aF w2 _).mono (by omega))).trans g3⟩
   have Hst:=af step;clear step
   refine Stop.on ?_
   have hy1:0<k->(kS x ps)[k]? =some ps[k].2:=fun h0=>by rw[bF (by rw[HM.out];exact hlt2),Il x ps k h0 (by rw[HM.out];exact hlt2) hlt2]
   have hy0:k=0->(kS x ps)[k]? =some x:=fun h0=>by subst h0;rw[bF (by rw[HM.out];exact hlt2),Ik]
   have Hy1:=af hy1;clear hy1
   have Hy0:=af hy0;clear hy0
   by_cases hk0:k=0
   ·have hkb0:((k:Int)==0)=true:=by rw[uR];omega
    have HK0:=af hk0;clear hk0
    go_wp2_with (first
     |(at_builtin;(refine dB rfl (.tmp 32) (.tmp 37) 22 22 rfl S w.heap.size 9 1 16 _ aW gu rfl (.slice ao k cm) k _ rfl (hm2.below (aF w2 (.cells #[.string x] 9))) _ 1 [.string x] rfl (gY (w:=w2) [.string x] 9 1 1 1 rfl aW rfl (by intro u hu;simp only[bM,mQ,zn] at hu;rcases hu with rfl;rfl)) (fq hS2 _) ?_ ?_ ?_ ?_);go_must ((focus (simp only[aV];omega));(focus (unfold maxLen;omega));(focus omega);intro ao3 c3 w3 hown3 hk3 hb3 hd3;refine Stop.of ?_)))
    obtain⟨r1,r2,r3,r4,r5⟩:=Hst.out x (Hy0.out HK0.out) ao3 c3 w3 hown3 hk3 hb3 hd3
    refine Stop.on ?_
    go_wp2
    go_roundw
    case rel=>exact⟨k+1,ao3,ao2,c3,c2',hlt2,by go_num,rfl,rfl,r1,r2,r3,r4,r5⟩
    case measure=>simp[intOf];omega
   ·have hkb0:((k:Int)==0)=false:=by rw[dZ];omega
    have hk1':0<k:=by omega
    go_wp2_with (first
     |(at_builtin;(refine dB rfl (.tmp 39) (.tmp 42) 22 22 rfl S w.heap.size 9 1 16 _ aW gu rfl (.slice ao k cm) k _ rfl (hm2.below (aF w2 (.cells #[.string ps[k].2] 9))) _ 1 [.string ps[k].2] rfl (gY (w:=w2) [.string ps[k].2] 9 1 1 1 rfl aW rfl (by intro u hu;simp only[bM,mQ,zn] at hu;rcases hu with rfl;rfl)) (fq hS2 _) ?_ ?_ ?_ ?_);go_must ((focus (simp only[aV];omega));(focus (unfold maxLen;omega));(focus omega);intro ao3 c3 w3 hown3 hk3 hb3 hd3;refine Stop.of ?_)))
    obtain⟨r1,r2,r3,r4,r5⟩:=Hst.out ps[k].2 (Hy1.out hk1') ao3 c3 w3 hown3 hk3 hb3 hd3
    refine Stop.on ?_
    go_wp2
    go_roundw
    case rel=>exact⟨k+1,ao3,ao2,c3,c2',hlt2,by go_num,rfl,rfl,r1,r2,r3,r4,r5⟩
    case measure=>simp[intOf];omega
  ·obtain rfl:k=ps.length:=by omega
   rw[aG (by rw[HM.out];exact ax _)] at hm
   rw[dF] at hkd
   have hSr:∀g,S g->g<wr.heap.size:=fun g hg=>ak (hS g hg) hbel.size
   have hsz:=hbel.size
   have hi2:i<1+nd.keys.length:=by rw[HKK.out];omega
   have k1:IntKind.i64.wrap ((i:Int)+1)=(i:Int)+1:=aM _ (by omega)
   go_wp2_with (first
    |(go_at_call 256;go_must (refine(H6 (.slice (some ⟨eb,eo,none⟩) (1+nd.keys.length) c1') (1+nd.keys.length) i _ (.slice ao ps.length cm) ps.length _ _ S w.heap.size hSr hsz hke (nu _) hm (fun g hg hg2=>hne g hg2 hg) (nu _) (by omega) (by omega) hi2).mono ?_;rintro e w2 ⟨v',rfl,hown2,hk2⟩;refine Stop.of ?_)))
   have HB2:Below w.heap.size w w2:=hbel.trans (hk2.fP hsz (fun g hg e=>absurd (hke.1.lt g e).1 (fE.2 hg)))
   have hs2:=hk2.size
   have hS2:∀g,S g->g<w2.heap.size:=fun g hg=>by have:=hSr g hg;omega
   obtain⟨N,hNN⟩:∃N,N=1+nd.keys.length - 1+ps.length:=⟨_,rfl⟩
   rw[<-hNN] at hown2
   obtain⟨ko,kcap,rfl,z1,z2,z3,z4⟩:=hown2.cZ.form
   have hkd2:=hkd.keep (w':=w2) fun g hg hl hs=>⟨hk2.block g hl (hkd.Ij hke (by decide) g hg),hs⟩
   have c22:w2.cell? ⟨b,2,none⟩=some v2:=(HB2.cell (p:=⟨b,2,none⟩) hlt).trans c2
   have hNb:N<=200000:=by omega
   have HNN:=af hNN;clear hNN
   have hone1:∀u∈nd.kids.map (Value.int .i64),u.oneCell'=true:=by intro u hu;obtain⟨_,_,rfl⟩:=d9.1 hu;rfl
   have hone2:∀u∈ps.map (fun p=>Value.int .i64 p.1),u.oneCell'=true:=by intro u hu;obtain⟨_,_,rfl⟩:=d9.1 hu;rfl
   refine Stop.on ?_
   go_wp2_with (first
    |(go_at_call 258;go_must (refine(rO v2 nd.kids.length _ w2 S hS2 (bn.below h22 HB2) hone1 (by omega)).mono ?_;rintro e w3 ⟨v3,rfl,hown3,hb3⟩;refine Stop.of ?_)))
   have hs3:=hb3.size
   have hS3:∀g,S g->g<w3.heap.size:=fun g hg=>by have:=hS2 g hg;omega
   have hown3b:=hown3.base (B:=w.heap.size) (by omega)
   have hkd3:=hkd2.below hb3
   have hnev:∀g,v3.ownBlock=some g->(Value.slice co ps.length ck).ownBlock≠some g:=fun g hg hg2=>by
    have:=(hown3.1.lt g hg).1
    have:=(hkd2.1.lt g hg2).2
    omega
   refine Stop.on ?_
   go_wp2_with (first
    |(go_at_call 257;go_must (refine(H7 v3 nd.kids.length i _ (.slice co ps.length ck) ps.length _ _ S w.heap.size hS3 (by omega) hown3b hone1 hkd3 hnev hone2 (by omega) (by omega) hi).mono ?_;rintro e w4 ⟨v4,rfl,hown4,hk4⟩;refine Stop.of ?_)))
   have HB4:Below w.heap.size w w4:=(HB2.trans (hb3.mono (by omega))).trans (hk4.fP (by omega) (fun g hg e=>absurd (hown3b.1.lt g e).1 (fE.2 hg)))
   have hb4:=(HB4.block b hlt).trans hb
   obtain⟨_,_,_,f0,f1,f2,_⟩:=cells3 hb4
   obtain⟨M,hM⟩:∃M,M=nd.kids.length - 1+ps.length:=⟨_,rfl⟩
   rw[<-hM] at hown4
   have HM4:=af hM;clear hM
   obtain⟨ao4,c4,rfl,_,_,_,_⟩:=hown4.cZ.form
   have hke4:bn w4 S 1 (.slice ko N kcap) N _:=(hown2.below hb3).cZ.keep fun g hg hl hs=>⟨hk4.block g hl (fun e=>by have:=(hown3.1.lt g e).1;have:=(hown2.1.lt g hg).2;omega),hs⟩
   have hkb:(Value.slice ko N kcap).ownBlock≠some b:=fun e=>absurd (hown2.1.lt b e).1 (fE.2 hlt)
   have h4b:(Value.slice ao4 M c4).ownBlock≠some b:=fun e=>absurd (hown4.1.lt b e).1 (fE.2 hlt)
   have h04:nN w4 S v0 []:=by rw[hp] at h0;exact bn.empty h0 HB4.size
   have hkw:Keep (· =b) w w4:=⟨HB4.os,HB4.tape,HB4.output,HB4.size,fun g hg _=>HB4.block g hg⟩
   have h24:jq w4 S (.slice ao4 M c4) (nd.kids.take i++ps.map (·.1)++nd.kids.drop (i+1)):=by
    have:=hown4.cZ
    unfold jq
    rw[show (nd.kids.take i++ps.map (·.1)++nd.kids.drop (i+1)).length=M by rw[HM4.out];simp only[av,aC,aJ,kJ];omega]
    simp only[bX,gG,gH,Ev]
    exact this
   obtain⟨E,hE⟩:∃E,E=(fV nd).take i++kS ((fV nd).getD i ⟨#[]⟩) ps++(fV nd).drop (i+1):=⟨_,rfl⟩
   have hEl:E.length=N:=by rw[hE,HNN.out,<-HX.out];simp only[av,aC,aJ,HM.out,HE.out];omega
   have hkeE:iL w4 S (.slice ko N kcap) E:=by
    unfold iL
    rw[hEl,hE,<-HX.out]
    simpa only[bX,gG,gH] using hke4
   have hrep:nd.pG i ps=⟨[],E.drop 1,nd.kids.take i++ps.map (·.1)++nd.kids.drop (i+1)⟩:=by unfold Nd.pG;rw[hp,hE]
   have HR:=af hrep;clear hrep
   have HEE:=af hE;clear hE
   have HEl:=af hEl;clear hEl
   refine Stop.on ?_
   by_cases hN0:N=0
   ·subst hN0
    have hm0:min (1:Int) 0=0:=by decide
    go_wp2_with fail
    go_end0
    rw[HR.out]
    obtain rfl:E=[]:=aR HEl.out
    exact⟨rfl,sM hb4 h04 hkeE hkb h24 h4b hSb hkw⟩
   ·have hmin:min (1:Int) (N:Int)=1:=by omega
    have hN1:(1:Int)<=(N:Int):=by omega
    have hN2:1<=N:=by omega
    have hk11:(1:Int)<=(kcap:Int):=by omega
    obtain⟨kg,rfl⟩:∃kg,ko=some ⟨kg,0,none⟩:=by
     rcases hown2.1.2 with ⟨e,h0⟩|⟨g,cap,cur,e,_⟩
     ·exact absurd h0 (by omega)
     ·cases e;exact⟨g,rfl⟩
    have hk9:bn w4 S 1 (.slice (some ⟨kg,0,none⟩) N kcap) N (E.map .string):=by have:=hkeE;unfold iL at this;rwa [HEl.out] at this
    have ha:=bn.after hk9 1 hN2
    have hdl:(E.drop 1).length=N - 1:=by rw[aJ,HEl.out]
    rw[aT] at ha
    by_cases hkc:kcap=1
    ·rw[if_pos hkc,show kcap - 1=0 by omega] at ha
     go_wp2_with fail
     go_end0
     rw[HR.out]
     exact⟨rfl,sM hb4 h04 (by unfold iL;rw[hdl,gH];exact ha) hkb h24 h4b hSb hkw⟩
    ·rw[if_neg hkc,fC,fZ] at ha
     go_wp2_with fail
     go_end0
     rw[HR.out]
     exact⟨rfl,sM hb4 h04 (by unfold iL;rw[hdl,gH];exact ha) hkb h24 h4b hSb hkw⟩
end Go.Proofs.YtbfjgkafmlbpcaaGreatDoor
