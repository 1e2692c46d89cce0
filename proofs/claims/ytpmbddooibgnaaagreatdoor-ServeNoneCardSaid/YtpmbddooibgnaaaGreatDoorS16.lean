/- parts -/
import Derived.Test.YtpmbddooibgnaaaGreatDoorS3
import Derived.Test.YtpmbddooibgnaaaGreatDoorS4
import Derived.Test.YtpmbddooibgnaaaGreatDoorS8
import Derived.Test.YtpmbddooibgnaaaGreatDoorS14
set_option maxRecDepth 100000
set_option maxHeartbeats 8000000
set_option linter.all false
namespace Go.Proofs.YtpmbddooibgnaaaGreatDoor
open Go.RowKit
section
variable {P:Program} {ops:Array Oper} {Q:Exit->Act->World->Prop} {md:Region.Mode} {S:World->Prop}
end
theorem Ce (ps:List (ByteArray×ByteArray)):∀k,bZ (ps.take k)=(bZ ps).take (k*2):=by
 induction ps with
 |nil=>intro k;simp[bZ]
 |cons p ps ih=>
  intro k
  cases k with
  |zero=>simp[bZ]
  |succ k=>rw[gG,jL,jL,ih,P6,gG,gG]
theorem uR (ps:List (ByteArray×ByteArray)):∀k,bZ (ps.drop k)=(bZ ps).drop (k*2):=by
 induction ps with
 |nil=>intro k;simp[bZ]
 |cons p ps ih=>
  intro k
  cases k with
  |zero=>simp
  |succ k=>rw[jJ,jL,ih,P6,jJ,jJ]
def Pb (nd:Nd)(i:Nat):Prop:=(1<i->2*eu (nd.pairs.take (i - 1))<nd.size)/\(i+1=nd.pairs.length\/nd.size<=2*eu (nd.pairs.take i))
theorem Eu (g cap n i:Nat)(xs:List Value)(vb:Nat)(news:List Value)(w:World)(S:Nat->Prop)(B:Nat)(hS:∀g,S g->g<w.heap.size)(hB:B<=w.heap.size)(h:aQ w S B 188 2 (.slice (some ⟨g,0,none⟩) n cap) n xs)(hx1:∀u∈xs,u.oneCell'=true)(hv:Row w vb 188 news)(hnl:news.length=2)(hone:∀u∈news,u.oneCell'=true)(hn:n<=1000000)(hi:i<n)(hroom:cap<n+1):
  Calls Tryz.prog 546 #[.slice (some ⟨g,0,none⟩) n cap,.int .i64 i,.slice (some ⟨vb,0,none⟩) 1 1] w fun e w'=>∃v',e= .returned v'/\aQ w' S B 188 2 v' (n+1) (xs.take (i*2)++news++xs.drop (i*2))/\Keep d9 w w':=by
 obtain⟨cur,hr,hl,hx,hBg,hSg,hc,hc2⟩:=h.row
 obtain rfl:n=cap:=by omega
 have hc3:n<=9223372036854775807:=by omega
 have hxl:=h.1.1
 clear h hroom
 have k1:(0:Int)<=(i:Int):=by omega
 have k2:(i:Int)<=(n:Int):=by omega
 have k3:(0:Int)<=(i:Int)+1:=by omega
 have k4:(i:Int)+1<=(n:Int)+1:=by omega
 have k5:((i:Int)+1).toNat=i+1:=by omega
 have k8:((i:Int)==(n:Int))=false:=by rw[eO];omega
 have k9:IntKind.i64.wrap ((i:Int)+1)=(i:Int)+1:=aS _ (by omega)
 have k10:¬n=i:=by omega
 have k11:(n:Int)+1 - (i:Int)=((n+1 - i:Nat):Int):=by omega
 have k13:i+(n+1 - i)=n+1:=by omega
 have hvl:vb<w.heap.size:=hv.lt
 have hgl:g<w.heap.size:=hr.lt
 have Hl:=af hl;clear hl
 have Hx:=af hx;clear hx
 have Hxl:=af hxl;clear hxl
 have Hnl:=af hnl;clear hnl
 go_enter Tryz.func546,Tryz.ntmps546
 go_wp2_with (first|(at_builtin;(refine bU rfl ?_);intro K hK;go_must ((refine BG (.tmp 34) (.tmp 39) 184 3 rfl 188 2 32 _ eY bS lM rfl (by omega) g i n (n+1 - i) cur rfl ?_ hr ?_ ?_ ?_ ?_ ?_ ?_);(focus (first|rfl|(show Value.int _ _=_;congr 1)));(focus (rw[Hl.out];omega));(focus omega);(focus omega);(focus (unfold maxLen;omega));(focus omega);intro c1 w1 rest hr1 hl1 hc1 hc1' hk1;refine hK _ _ (Stop.of ?_))))
 have hc2':n+1<=c1:=by omega
 have k12:¬c1=i:=by omega
 have k14:¬c1=i+1:=by omega
 have k15:(i:Int)<=(c1:Int):=by omega
 have hc1'':c1<=9223372036854775807:=by simpa [maxLen] using hc1'
 have hne:vb≠w.heap.size:=by omega
 have hv1:Row w1 vb 188 news:=hv.keep hk1 id
 have hg1:Row w1 g 188 cur:=hr.keep hk1 id
 obtain⟨m1,m2,m3⟩:=JV cur rest xs news i n c1 2 hi hc2' Hx.out (by rw[Hl.out];omega) hl1 Hnl.out
 have Hl1:=af hl1;clear hl1
 have M1:=af m1;clear m1
 have M2:=af m2;clear m2
 have M3:=af m3;clear m3
 have hnews:(Builtin.firstCells 2 1 (.slice (some ⟨vb,0,none⟩) 1 1)).run Tryz.prog w1= .ok news.toArray w1:=by
  have h1:=(hv1.dL (S:=d9) (k:=2) (off:=0) 1 1 (by have:=Hnl.out;omega) id (aA _) (by simp[maxLen])).first (P:=Tryz.prog) 1 (aA _)
  rwa [fE,lU,P7,aI (by have:=Hnl.out;omega)] at h1
 have Hw:=af hnews;clear hnews
 refine Stop.on ?_
 go_wp2_with (first|((refine bU rfl ?_);intro K hK;(refine lm (.tmp 43) (.tmp 44) 184 184 rfl 188 2 32 _ eY lM w.heap.size (i*2) 188 1 (n+1 - i) (c1 - i) (some ⟨w.heap.size,i*2,none⟩) _ ?_ hr1 (.slice (some ⟨vb,0,none⟩) 1 1) rfl 1 news rfl ?_ ?_ Hw.out (fun _=>rfl) ?_ hone ?_);go_must ((focus (first|rfl|(show Value.slice _ _ _=_;congr 1;omega)));(focus (exact(dh (by omega)).symm));(focus (rw[Hnl.out]));(focus (rw[Hl1.out,Hnl.out];omega));intro w2 hr2 hk2;refine hK _ _ (Stop.of ?_))))
 have hg2:Row w2 g 188 cur:=hg1.keep hk2 (by omega)
 have hcs:(Builtin.firstCells 2 (n - i) (.slice (some ⟨g,i*2,none⟩) (n - i) (n - i))).run Tryz.prog w2.drew= .ok (xs.drop (i*2)).toArray w2.drew:=by
  have h1:=(Row.dL (w:=w2.drew) (S:=d9) (k:=2) (off:=i*2) hg2 (n - i) (n - i) (by rw[Hl.out];omega) id (aA _) (by unfold maxLen;omega)).first (P:=Tryz.prog) (n - i) (aA _)
  rw[lU,P7] at h1
  rw[<-Hx.out,xU,show n*2 - i*2=(n - i)*2 by omega];exact h1
 have Hcs:=af hcs;clear hcs
 refine Stop.on ?_
 go_wp2
 go_region_held3 (fun _=>True) (trivial) (first|((refine Iz rfl (lm (.tmp 50) (.tmp 53) 184 184 rfl 188 2 32 _ eY lM w.heap.size ((i+1)*2) 188 (n - i) (n - i) (c1 - (i+1)) (some ⟨w.heap.size,(i+1)*2,none⟩) _ ?_ hr2 (.slice (some ⟨g,i*2,none⟩) (n - i) (n - i)) ?_ (n - i) (xs.drop (i*2)) rfl ?_ ?_ Hcs.out (fun _=>rfl) ?_ ?_ ?_));(focus (first|rfl|(show Value.slice _ _ _=_;congr 1;omega)));(focus (first|rfl|(show Value.slice _ _ _=_;congr 1<;>omega)));(focus (exact(P7 _).symm));(focus (rw[bB,Hxl.out];omega));(focus (rw[bB,Hxl.out,M1.out];omega));(focus (exact fun u hu=>hx1 u (tQ hu)));intro w3 hr3 hk3))
 go_wp2
 go_ret
 have hk13:Keep d9 w w3:=((hk1.trans hk2 (fun _ hl e=>absurd hl (by omega))).drew).trans hk3 (fun _ hl e=>absurd hl (by omega))
 refine⟨_,rfl,?_,hk13⟩
 rw[<-M3.out]
 exact Row.own hr3 (n+1) M2.out hB (fun hs=>absurd (hS _ hs) (bY _)) hc2' hc1'
theorem Et (v:Value)(n i:Nat)(xs:List Value)(vb:Nat)(news:List Value)(w:World)(S:Nat->Prop)(B:Nat)(hS:∀g,S g->g<w.heap.size)(hB:B<=w.heap.size)(h:aQ w S B 188 2 v n xs)(hx1:∀u∈xs,u.oneCell'=true)(hv:Row w vb 188 news)(hvg:v.ownBlock≠some vb)(hnl:news.length=2)(hone:∀u∈news,u.oneCell'=true)(hn:n<=1000000)(hi:i<=n):
  Calls Tryz.prog 546 #[v,.int .i64 i,.slice (some ⟨vb,0,none⟩) 1 1] w fun e w'=>∃v',e= .returned v'/\aQ w' S B 188 2 v' (n+1) (xs.take (i*2)++news++xs.drop (i*2))/\Keep (fun g=>v.ownBlock=some g) w w':=by
 have hxl:=h.1.1
 by_cases hin:i=n
 ·subst hin
  refine(Gt v i xs vb news w S B hS hB h hv hnl hone hn).mono ?_
  rintro e w' ⟨v',rfl,h1,h2,_⟩
  refine⟨v',rfl,?_,h2⟩
  rw[aI (by omega),CZ (by omega),fV]
  exact h1
 ·rcases h.1.2 with ⟨rfl,h0⟩|⟨g,cap,cur,rfl,_⟩
  ·omega
  ·by_cases hroom:n+1<=cap
   ·refine(Gs g cap n i xs vb news w S B h hx1 hv (fun e=>hvg (by rw[e];rfl)) hnl hone hn (by omega) hroom).mono ?_
    rintro e w' ⟨v',rfl,h1,h2⟩
    exact⟨v',rfl,h1,h2.mono (fun k _ hk=>by rw[hk];rfl)⟩
   ·refine(Eu g cap n i xs vb news w S B hS hB h hx1 hv hnl hone hn (by omega) (by omega)).mono ?_
    rintro e w' ⟨v',rfl,h1,h2⟩
    exact⟨v',rfl,h1,h2.mono (fun _ _ hk=>hk.elim)⟩
structure D1 (nd:Nd)(rest:List UInt8)(w:World)(S:Nat->Prop)(k:Nat)(hv:Value)(wr:World):Prop where
 cut:IsCut wr S w.heap.size w.heap.size (mM (nd.pairs.drop k)++(jd nd.kids++(gq nd.keys++rest)))
 node:∃v0,wr.heap[w.heap.size+1]? =some (.cells #[v0,.slice none 0 0,.slice none 0 0] 272 (0,0))/\aQ wr S w.heap.size 188 2 v0 k (bZ (nd.pairs.take k))
 head:gT wr S hv [b8 nd.pairs.length,b8 nd.kids.length]/\∀g,hv.ownBlock=some g->g<w.heap.size
 Bu:Below w.heap.size w wr
theorem D1.next {nd:Nd}{rest:List UInt8}{w:World}{S:Nat->Prop}{k:Nat}{hv:Value}{wr w3 w4:World}(hD:D1 nd rest w S k hv wr)(hlt:k<nd.pairs.length)(hb3:Below w.heap.size w w3)(hb4:Below w.heap.size w w4)
  (hc3:IsCut w3 S w.heap.size w.heap.size (mM (nd.pairs.drop (k+1))++(jd nd.kids++(gq nd.keys++rest)))) (hcb:w4.heap[w.heap.size]? =w3.heap[w.heap.size]?)
  {v0 v':Value} (hN:w4.heap[w.heap.size+1]? =some (.cells #[v0,.slice none 0 0,.slice none 0 0] 272 (0,0))) (hown:aQ w4 S w.heap.size 188 2 v' (k+1) (bZ (nd.pairs.take k)++[.string nd.pairs[k].1,.string nd.pairs[k].2])):
  D1 nd rest w S (k+1) hv (w4.setCell ⟨w.heap.size+1,0,none⟩ v'):=by
 have hne:=hown.ne hN (by decide)
 have hk5:Keep (· =w.heap.size+1) w4 (w4.setCell ⟨w.heap.size+1,0,none⟩ v'):=Keep.setCell (M:=(· =w.heap.size+1)) (p:=⟨w.heap.size+1,0,none⟩) (Keep.refl _ _) (.inr rfl) v'
 have hb5:Below w.heap.size w (w4.setCell ⟨w.heap.size+1,0,none⟩ v'):=hb4.setCell (by simp) v'
 have hlo:∀g,g<w.heap.size->(w4.setCell ⟨w.heap.size+1,0,none⟩ v').heap[g]? =w3.heap[g]? :=fun g hg=>(hb5.block g hg).trans (hb3.block g hg).symm
 obtain⟨hcut,_,hhead,hbel⟩:=hD
 refine⟨hc3.keep ?_ hlo,⟨v',?_,?_⟩,⟨aW.keep hhead.1 fun g hg _ hs=>⟨(hb5.block g (hhead.2 g hg)).trans (hbel.block g (hhead.2 g hg)).symm,hs⟩,hhead.2⟩,hb5⟩
 ·rw[Below.heap_setCell _ _ _ _ (by simp)];exact hcb
 ·simp[World.setCell,aJ,hN]
 ·rw[aM hlt,lZ]
  refine aQ.keep (w:=w4) hown fun g hg hl hs=>⟨hk5.block g hl (fun e=>hne (by rw[hg,e])),hs⟩
theorem GI (v:Value)(nd:Nd)(rest:List UInt8)(w:World)(S:Nat->Prop)(hS:∀g,S g->g<w.heap.size)(h:gT w S v (nd.enc++rest))(hf:nd.Fits)(_hl:(nd.enc++rest).length<=1000000):
  Calls Tryz.prog 218 #[v] w fun e w'=>∃b,e= .returned (.tuple #[.pointer (some ⟨b,0,none⟩),.int .i64 0])/\fJ w' S w.heap.size b nd/\Below w.heap.size w w':=by
 generalize hL:nd.enc++rest=l at h
 have HL:=af hL;clear hL
 have hS0:¬S w.heap.size:=fun x=>absurd (hS _ x) (bY _)
 have hS1:¬S (w.heap.size+1):=fun x=>absurd (hS _ x) (by omega)
 obtain⟨ao,c,rfl,n1,m1,_,_⟩:=aW.form h
 have hvb:∀g,(Value.slice ao l.length c).ownBlock=some g->g<w.heap.size:=by
  intro g hg
  obtain⟨ao,c,hv,_,_,_,_,h5,_⟩:=h
  cases hv
  cases ao with
  |none=>cases hg
  |some ad=>cases hg;exact(h5 _ rfl).2.1
 have hcut0:IsCut (w.alloc (.cells #[.slice ao l.length c,.bool false] 485)) S w.heap.size w.heap.size l:=
  ⟨hS0,aA _,_,aF _ _,aW.below h (aC _ _),hvb⟩
 have hl2:2<=l.length:=by rw[<-HL.out];simp[Nd.enc]
 go_enter Tryz.func218,Tryz.ntmps218
 go_wp2_with (first|(go_at_call 336;go_must (refine(qy w.heap.size w.heap.size l 2 2 rfl _ S hcut0 hl2).mono ?_;rintro e w1 ⟨hv,rfl,hh,hc,hk1,hne,hsz1⟩;refine Stop.of ?_)))
 have e1:l.take 2=[b8 nd.pairs.length,b8 nd.kids.length]:=by rw[<-HL.out];rfl
 have e2:l.drop 2=mM nd.pairs++(jd nd.kids++(gq nd.keys++rest)):=by rw[<-HL.out];simp[Nd.enc]
 rw[e1] at hh
 rw[e2] at hc
 clear e1 e2 hcut0 h
 have hbel1:Below w.heap.size w w1:=(aC w _).trans (hk1.dY (by simp) (fun i hi=>by omega))
 rw[aZ] at hsz1
 obtain⟨hao,hcap,rfl,q1,q2,q3,q4⟩:∃ao c,hv= .slice ao 2 c/\2<=c/\c<=9223372036854775807/\(2=0\/∃b o,ao=some ⟨b,o,none⟩)/\(ao=none->c=0):=aW.form hh
 obtain⟨hb0,ho0,rfl,d0⟩:=hh.at rfl 0 (by simp)
 obtain⟨_,_,e,d1⟩:=hh.at rfl 1 (by simp)
 cases e
 have d0':w1.cell? ⟨hb0,ho0,none⟩=some (.int .u8 ((b8 nd.pairs.length).toNat:Int)):=d0
 rw[p9 _ hf.np] at d0'
 have d1':w1.cell? ⟨hb0,ho0+1,none⟩=some (.int .u8 ((b8 nd.kids.length).toNat:Int)):=d1
 rw[p9 _ hf.nk] at d1'
 have hb0lt:hb0<w.heap.size+1:=by rw[<-hsz1];exact aD w1 _ d0
 clear d0 d1 q3 q4
 have np:=hf.np
 have nk:=hf.nk
 refine Stop.on ?_
 go_wp2_with fail
 have hb0B:hb0<w.heap.size:=hne _ rfl
 go_loopw [21] (fun i wr=>∃k:Nat,k<=nd.pairs.length/\i= .int .i64 k/\D1 nd rest w S k (.slice (some ⟨hb0,ho0,none⟩) 2 hcap) wr) (fun i _=>nd.pairs.length - (intOf i).toNat)
 case atStart=>
  have hbn:=aC w1 (.cells #[.slice none 0 0,.slice none 0 0,.slice none 0 0] 272)
  obtain⟨hc1,hc2,cv,hc3,hc4,hc5⟩:=hc
  exact⟨0,aN _,rfl,⟨hc1,hc2,cv,(hbn.block _ (by omega)).trans hc3,aW.below hc4 hbn,hc5⟩,⟨_,by rw[<-hsz1];exact aF _ _,aQ.nil _ _ _ _ _⟩,⟨aW.below hh hbn,hne⟩,hbel1.trans (hbn.mono (by omega))⟩
 case round=>
  obtain⟨k,hk,rfl,hD⟩:=hrel
  by_cases hlt2:k<nd.pairs.length
  ·have hD0:=hD
   obtain⟨hcutr,⟨v0,hN,hown⟩,_,hbel⟩:=hD
   have hpf:=hf.pr nd.pairs[k] (bI hlt2)
   have eL:mM (nd.pairs.drop k)++(jd nd.kids++(gq nd.keys++rest))=b8 nd.pairs[k].1.size::b8 nd.pairs[k].2.size::(nd.pairs[k].1.data.toList++(nd.pairs[k].2.data.toList++(mM (nd.pairs.drop (k+1))++(jd nd.kids++(gq nd.keys++rest))))):=by
    unfold mM;rw[qx _ _ _ hlt2];simp[zJ]
   rw[eL] at hcutr
   clear eL
   generalize hR:mM (nd.pairs.drop (k+1))++(jd nd.kids++(gq nd.keys++rest))=R at hcutr
   have HR:=af hR;clear hR
   have hz1:nd.pairs[k].1.size<=255:=by omega
   have hz2:nd.pairs[k].2.size<=255:=by omega
   have hkb:=hk
   generalize hp1:nd.pairs[k].1=s1 at hcutr hz1
   generalize hp2:nd.pairs[k].2=s2 at hcutr hz2
   have HP1:=af hp1;clear hp1
   have HP2:=af hp2;clear hp2
   obtain⟨ao0,c0,rfl,g1,g2,_,_⟩:=hown.dL.form
   have hnbr:w.heap.size+1<wr.heap.size:=(ah.1 hN).1
   have hcne:(Value.slice ao0 k c0).ownBlock≠some w.heap.size:=by
    obtain⟨_,_,cv,hcb0,_,_⟩:=hcutr
    exact hown.ne hcb0 (by decide)
   go_wp2_with (first|(go_at_call 336;go_must (refine(qy w.heap.size w.heap.size _ 2 2 rfl _ S hcutr (by simp)).mono ?_;rintro e w1 ⟨lv,rfl,hlb,hcut1,hkc1,hlne,hszc1⟩;refine Stop.of ?_)))
   have B1:Below w.heap.size w w1:=hbel.trans (hkc1.dY (by omega) (fun i hi=>by omega))
   have hN1:=(hkc1.block _ hnbr (by omega)).trans hN
   have hown1:aQ w1 S w.heap.size 188 2 (.slice ao0 k c0) k (bZ (nd.pairs.take k)):=hown.keep fun g hg hl hs=>⟨hkc1.block g hl (fun e=>hcne (by rw[hg,e])),hs⟩
   obtain⟨lao,lc,rfl,r1,r2,r3,r4⟩:∃ao c,lv= .slice ao 2 c/\2<=c/\c<=9223372036854775807/\(2=0\/∃b o,ao=some ⟨b,o,none⟩)/\(ao=none->c=0):=aW.form hlb
   obtain⟨lb,lo,rfl,y0⟩:=hlb.at rfl 0 (by simp)
   obtain⟨_,_,e,y1⟩:=hlb.at rfl 1 (by simp)
   cases e
   have hlbB:lb<w.heap.size:=hlne _ rfl
   have l0:∀W,Below w.heap.size w W->W.cell? ⟨lb,lo,none⟩=some (.int .u8 (s1.size:Int)):=fun W hW=>by
    have q:w1.cell? ⟨lb,lo,none⟩=some (.int .u8 ((b8 s1.size).toNat:Int)):=y0
    rw[p9 _ (by omega)] at q
    exact((hW.cell (p:=⟨lb,lo,none⟩) hlbB).trans (B1.cell (p:=⟨lb,lo,none⟩) hlbB).symm).trans q
   have l1:∀W,Below w.heap.size w W->W.cell? ⟨lb,lo+1,none⟩=some (.int .u8 (s2.size:Int)):=fun W hW=>by
    have q:w1.cell? ⟨lb,lo+1,none⟩=some (.int .u8 ((b8 s2.size).toNat:Int)):=y1
    rw[p9 _ (by omega)] at q
    exact((hW.cell (p:=⟨lb,lo+1,none⟩) hlbB).trans (B1.cell (p:=⟨lb,lo+1,none⟩) hlbB).symm).trans q
   have cvt:∀(w':World) (v:Value) (s:ByteArray),Below w.heap.size w w'->gT w' S v s.data.toList->(∀g,v.ownBlock=some g->g<w.heap.size)->∀W,Below w.heap.size w W->(convert 154 9 v).run Tryz.prog W= .ok (.string s) W:=fun w' v s hw' hv hg W hW=>
    (show gT W S v s.data.toList from aW.keep hv fun g hgg _ hs=>⟨(hW.block g (hg g hgg)).trans (hw'.block g (hg g hgg)).symm,hs⟩).str s _ _ _ aO dx bf
   have Cvt:=af cvt;clear cvt
   have hc1b:=hcut1
   rw[show ∀(x y:UInt8) (l:List UInt8),(x::y::l).drop 2=l from fun _ _ _=>rfl] at hc1b
   have n1c:=(cells3 hN1).1
   have hnb1:w.heap.size+1<w1.heap.size:=by omega
   clear y0 y1 r3 r4 hcut1 hcutr hown hN hlb hkc1
   have tokA:True:=trivial
   refine Stop.on ?_
   go_wp2
   have hC1:w1.drew.cell? ⟨w.heap.size+1,0,none⟩=some (.slice ao0 k c0):=n1c
   refine aK (fun W=>Below w.heap.size w W/\W.cell? ⟨w.heap.size+1,0,none⟩=some (.slice ao0 k c0)) (fun i=> !([10,17,20,21,24].contains i)) [0,1,2,3,4,5,6,7,8,9,12,13,14,15,16,10,11,17,18,19,20,21,22,23,24] rfl (by kernel_rfl) ⟨B1.drew,hC1⟩ ?_
   repeat ((refine bq (v:= ?_) rfl rfl (fun _ _ _ h=>h) rfl (fun W hW=> ?_) ?_);rotate_left;(focus ((try dsimp only at hW);have q0:=l0 W hW.1;have q1:=l1 W hW.1;have q2:=hW.2;first|(go_simp;first|done|with_reducible rfl)));(try simp only[Act.put,aj,av,au]))
   refine bP rfl rfl rfl ?_
   intro K hK
   go_simp
   refine(qy w.heap.size w.heap.size _ s1.size _ (by rw[bJ];omega) w1.drew S (hc1b.keep rfl fun _ _=>rfl) (by rw[ay,fI];omega)).mono ?_
   rintro e w2 ⟨v1,rfl,hv1,hcut2,hkc2,hv1B,hszc2⟩
   have B2:Below w.heap.size w w2:=B1.drew.trans (hkc2.dY (by simp;omega) (fun i hi=>by omega))
   have hN2:=(hkc2.block _ hnb1 (by omega)).trans hN1
   have n2c:=(cells3 hN2).1
   have hnb2:w.heap.size+1<w2.heap.size:=by rw[hszc2];exact hnb1
   have hown2:aQ w2 S w.heap.size 188 2 (.slice ao0 k c0) k (bZ (nd.pairs.take k)):=hown1.keep fun g hg hl hs=>⟨hkc2.block g hl (fun e=>hcne (by rw[hg,e])),hs⟩
   rw[<-fI s1,gP] at hv1
   rw[<-fI s1,I4] at hcut2
   have cv1:=Cvt.out w2 v1 s1 B2 hv1 hv1B
   refine hK.out _ _ ⟨B2,n2c⟩ ?_
   (try simp only[Act.put,aj,av,au])
   repeat ((refine bq (v:= ?_) rfl rfl (fun _ _ _ h=>h) rfl (fun W hW=> ?_) ?_);rotate_left;(focus ((try dsimp only at hW);have q0:=l0 W hW.1;have q1:=l1 W hW.1;have q2:=hW.2;first|exact cv1 W hW.1|(go_simp;first|done|with_reducible rfl)));(try simp only[Act.put,aj,av,au]))
   refine bP rfl rfl rfl ?_
   intro K hK
   go_simp
   refine(qy w.heap.size w.heap.size _ s2.size _ (by rw[bJ];omega) w2 S hcut2 (by rw[ay,fI];omega)).mono ?_
   rintro e w3 ⟨v2,rfl,hv2,hcut3,hkc3,hv2B,hszc3⟩
   have B3:Below w.heap.size w w3:=B2.trans (hkc3.dY (by omega) (fun i hi=>by omega))
   have hN3:=(hkc3.block _ hnb2 (by omega)).trans hN2
   have n3c:=(cells3 hN3).1
   have hnb3:w.heap.size+1<w3.heap.size:=by rw[hszc3];exact hnb2
   have hown3:aQ w3 S w.heap.size 188 2 (.slice ao0 k c0) k (bZ (nd.pairs.take k)):=hown2.keep fun g hg hl hs=>⟨hkc3.block g hl (fun e=>hcne (by rw[hg,e])),hs⟩
   rw[<-fI s2,gP] at hv2
   rw[<-fI s2,I4] at hcut3
   have cv2:=Cvt.out w3 v2 s2 B3 hv2 hv2B
   refine hK.out _ _ ⟨B3,n3c⟩ ?_
   (try simp only[Act.put,aj,av,au])
   repeat ((refine bq (v:= ?_) rfl rfl (fun _ _ _ h=>h) rfl (fun W hW=> ?_) ?_);rotate_left;(focus ((try dsimp only at hW);have q0:=l0 W hW.1;have q1:=l1 W hW.1;have q2:=hW.2;first|exact cv1 W hW.1|exact cv2 W hW.1|(go_simp;first|done|with_reducible rfl)));(try simp only[Act.put,aj,av,au]))
   refine bP rfl rfl rfl ?_
   intro K hK
   go_simp
   have B4:=fun T=>aC w3 (.cells #[.string s1,.string s2] T)
   refine hK.out _ _ ⟨B3.trans ((B4 _).mono (by omega)),?_⟩ ?_
   ·exact((B4 _).cell (p:=⟨w.heap.size+1,0,none⟩) hnb3).trans n3c
   (try simp only[Act.put,aj,av,au])
   refine bP rfl rfl rfl ?_
   intro K hK
   refine qP (.tmp 29) (.tmp 45) 184 184 rfl S w.heap.size 188 2 32 _ eY lM rfl (.slice ao0 k c0) k (bZ (nd.pairs.take k)) rfl (hown3.below (B4 _)) _ 1 [.string s1,.string s2] rfl (iq [_,_] _ 2 1 1 (hszc3.trans (hszc2.trans hszc1)) eY rfl ?_) (fun g hg=>by have:=hS g hg;rw[aZ];omega) (by rw[aZ];omega) (by simp only[maxLen];omega) (by omega) ?_
   ·intro u hu;simp only[aX,cK,iL] at hu;rcases hu with rfl|rfl<;>rfl
   intro ao5 c5 w5 hown5 hkp5 hb5 hne5
   have b4c:(w3.alloc (.cells #[.string s1,.string s2] 188)).heap[w.heap.size]? =w3.heap[w.heap.size]? :=(B4 _).block _ (by omega)
   have hN5:=(hkp5.block (w.heap.size+1) (by rw[aZ];omega) (hown3.ne hN3 (by decide))).trans (((B4 _).block _ hnb3).trans hN3)
   have n5c:=(cells3 hN5).1
   have n5f:=(cells3 hN5).2.2.2.1
   have B5:Below w.heap.size w w5:=(B3.trans ((B4 _).mono (by omega))).trans hb5
   refine hK.out _ _ ⟨B5,n5c⟩ ?_
   (try simp only[Act.put,aj,av,au])
   repeat ((refine bq (v:= ?_) rfl rfl (fun _ _ _ h=>h) rfl (fun W hW=> ?_) ?_);rotate_left;(focus ((try dsimp only at hW);have q0:=l0 W hW.1;have q1:=l1 W hW.1;have q2:=hW.2;first|exact cv1 W hW.1|exact cv2 W hW.1|(go_simp;first|done|with_reducible rfl)));(try simp only[Act.put,aj,av,au]))
   refine jm rfl rfl rfl (by kernel_rfl) ?_
   intro K hK
   go_simp
   refine hK.out _ _ (bF ?_)
   have hD2:=hD0.next (w3:=w3) (w4:=w5) hlt2 B3 B5 (by rw[HR.out];exact hcut3) ((hkp5.block w.heap.size (by rw[aZ];omega) hcne).trans b4c) hN5 (v':= .slice ao5 (k+1) c5) (by rw[HP1.out,HP2.out];exact hown5)
   go_wp2
   go_roundw
   case rel=>exact⟨k+1,hlt2,by go_num,hD2⟩
   case measure=>simp[intOf];omega
  ·obtain rfl:k=nd.pairs.length:=by omega
   have hDD:∃v0,DD w S (jd nd.kids++(gq nd.keys++rest)) v0 nd.pairs (.slice none 0 0) [] (.slice none 0 0) [] wr:=by
    obtain⟨hcutr,⟨v0,hN,hown⟩,_,hbel⟩:=hD
    rw[iB] at hcutr
    rw[bW] at hown
    exact⟨v0,hcutr,hN,hown,aQ.nil _ _ _ _ _,aQ.nil _ _ _ _ _,hbel⟩
   have l1:∀W,Below w.heap.size w W->W.cell? ⟨hb0,ho0+1,none⟩=some (.int .u8 (nd.kids.length:Int)):=fun W hW=>
    ((hW.cell (p:=⟨hb0,ho0+1,none⟩) hb0B).trans (hbel1.cell (p:=⟨hb0,ho0+1,none⟩) hb0B).symm).trans d1'
   clear hD hh hc hk1 d0' d1' hbel1 hlt2 hk
   obtain⟨v0,hDD⟩:=hDD
   have hlr:=l1 wr hDD.Bu
   obtain⟨wo,rfl⟩:∃wo:World,wo=wr:=⟨_,rfl⟩
   go_wp2_with fail
   go_loopw [54] (fun i wr=>∃(k:Nat) (v2:Value),k<=nd.kids.length/\i= .int .i64 k/\DD w S (jd (nd.kids.drop k)++(gq nd.keys++rest)) v0 nd.pairs (.slice none 0 0) [] v2 (nd.kids.take k) wr) (fun i _=>nd.kids.length - (intOf i).toNat)
   case atStart=>exact⟨0,.slice none 0 0,aN _,rfl,hDD⟩
   case round=>
    obtain⟨k,v2,hk,rfl,hD⟩:=hrel
    by_cases hlt2:k<nd.kids.length
    ·obtain⟨hkd0,hkd1⟩:=hf.kd nd.kids[k] (bI hlt2)
     obtain⟨t,ht⟩:∃t:Nat,nd.kids[k]=t:=⟨nd.kids[k].toNat,by omega⟩
     have ht':nd.kids[k].toNat=t:=by rw[ht];rfl
     obtain⟨ta,hta⟩:∃a,a=t%256:=⟨_,rfl⟩
     obtain⟨tc,htc⟩:∃a,a=t/256:=⟨_,rfl⟩
     have HT:=af (Gr ta tc t (by omega) (by omega) (by omega))
     have hta2:ta<256:=by omega
     have htc2:tc<256:=by omega
     have HTA:=af hta;clear hta
     have HTC:=af htc;clear htc
     have eL:jd (nd.kids.drop k)++(gq nd.keys++rest)=b8 nd.kids[k].toNat::b8 (nd.kids[k].toNat/256)::(jd (nd.kids.drop (k+1))++(gq nd.keys++rest)):=by
      unfold jd;rw[qx _ _ _ hlt2];simp[wZ]
     have hcutr:=hD.cut
     rw[eL] at hcutr
     clear eL
     have hlen:(nd.kids.take k).length=k:=by rw[aL];omega
     have hlen1:(nd.kids.take (k+1)).length=k+1:=by rw[aL];omega
     have hltw:=hD.lt
     obtain⟨ao2,c2,rfl,g1,g2,_,_⟩:∃ao c,v2= .slice ao k c/\k<=c/\c<=9223372036854775807/\(k=0\/∃b o,ao=some ⟨b,o,none⟩)/\(ao=none->c=0):=by have:=hD.o2.dL.form;rwa [hlen] at this
     go_wp2_with (first|(go_at_call 336;go_must (refine(qy w.heap.size w.heap.size _ 2 2 rfl _ S hcutr (by simp)).mono ?_;rintro e w1 ⟨lv,rfl,hlb,hcut1,hkc1,hlne,hszc1⟩;refine Stop.of ?_)))
     have hD1:=hD.took hkc1 hcut1
     rw[show ∀(x y:UInt8) (l:List UInt8),(x::y::l).drop 2=l from fun _ _ _=>rfl] at hD1
     obtain⟨lao,lc,rfl,r1,r2,r3,r4⟩:∃ao c,lv= .slice ao 2 c/\2<=c/\c<=9223372036854775807/\(2=0\/∃b o,ao=some ⟨b,o,none⟩)/\(ao=none->c=0):=aW.form hlb
     obtain⟨lb,lo,rfl,y0⟩:=hlb.at rfl 0 (by simp)
     obtain⟨_,_,e,y1⟩:=hlb.at rfl 1 (by simp)
     cases e
     have hlbB:lb<w.heap.size:=hlne _ rfl
     have B1:=hD1.Bu
     have m0:∀W,Below w.heap.size w W->W.cell? ⟨lb,lo,none⟩=some (.int .u8 (ta:Int)):=fun W hW=>by
      have q:w1.cell? ⟨lb,lo,none⟩=some (.int .u8 ((b8 nd.kids[k].toNat).toNat:Int)):=y0
      rw[ht',show (b8 t).toNat=ta by rw[HTA.out];simp[b8]] at q
      exact((hW.cell (p:=⟨lb,lo,none⟩) hlbB).trans (B1.cell (p:=⟨lb,lo,none⟩) hlbB).symm).trans q
     have m1:∀W,Below w.heap.size w W->W.cell? ⟨lb,lo+1,none⟩=some (.int .u8 (tc:Int)):=fun W hW=>by
      have q:w1.cell? ⟨lb,lo+1,none⟩=some (.int .u8 ((b8 (nd.kids[k].toNat/256)).toNat:Int)):=y1
      rw[ht',<-HTC.out,p9 _ htc2] at q
      exact((hW.cell (p:=⟨lb,lo+1,none⟩) hlbB).trans (B1.cell (p:=⟨lb,lo+1,none⟩) hlbB).symm).trans q
     clear y0 y1 r3 r4 hcut1 hcutr hlb hkc1 hlr
     have n1c:=(cells3 hD1.node).2.2.1
     refine Stop.on ?_
     go_wp2_with fail
     refine aK (fun W=>Below w.heap.size w W/\W.cell? ⟨w.heap.size+1,2,none⟩=some (.slice ao2 k c2)) (fun i=> !([15,16,19].contains i)) [0,1,2,3,4,5,6,7,8,9,10,11,12,13,14,15,16,17,18,19] rfl (by kernel_rfl) ⟨B1.drew,n1c⟩ ?_
     repeat ((refine bq (v:= ?_) rfl rfl (fun _ _ _ h=>h) rfl (fun W hW=> ?_) ?_);rotate_left;(focus ((try dsimp only at hW);have q0:=m0 W hW.1;have q1:=m1 W hW.1;have q2:=hW.2;first|(go_simp;first|done|with_reducible rfl)));(try simp only[Act.put,aj,av,au]))
     refine bP rfl rfl rfl ?_
     intro K hK
     go_simp
     simp only[HT.out]
     have hDa:=(hD1.alloc (.cells #[.int .i64 (t:Int)] 3)).drew
     have ho2:=hDa.o2
     rw[hlen] at ho2
     refine hK.out _ _ ⟨hDa.Bu,(cells3 hDa.node).2.2.1⟩ ?_
     (try simp only[Act.put,aj,av,au])
     refine bP rfl rfl rfl ?_
     intro K hK
     refine qP (.tmp 62) (.tmp 73) 39 39 rfl S w.heap.size 3 1 8 _ kr zy rfl (.slice ao2 k c2) k ((nd.kids.take k).map (.int .i64)) rfl ho2 _ 1 [.int .i64 (t:Int)] rfl (iq (w:=w1.drew) [.int .i64 (t:Int)] 3 1 1 1 (g:=wr.heap.size) hszc1 kr rfl ?_) (fun g hg=>by have:=hS g hg;have:=hDa.lt;omega) (by have:=hDa.lt;omega) (by simp only[maxLen];omega) (by omega) ?_
     ·intro u hu;simp only[aX,cK,iL] at hu;rcases hu with rfl;rfl
     intro ao5 c5 w5 hown5 hkp5 hb5 hne5
     have hN5:=hDa.node2 hkp5
     have n5c:=(cells3 hN5).2.2.1
     have n5f:=(cells3 hN5).2.2.2.2.2.1
     have hD5:=hDa.TN hkp5 hb5 (v':= .slice ao5 (k+1) c5) (Ns':=nd.kids.take (k+1)) (by rw[hlen1,aM hlt2,eP,dO,og,ht];exact hown5)
     refine hK.out _ _ ⟨hDa.Bu.trans hb5,n5c⟩ ?_
     (try simp only[Act.put,aj,av,au])
     repeat ((refine bq (v:= ?_) rfl rfl (fun _ _ _ h=>h) rfl (fun W hW=> ?_) ?_);rotate_left;(focus ((try dsimp only at hW);have q0:=m0 W hW.1;have q1:=m1 W hW.1;have q2:=hW.2;first|(go_simp;first|done|with_reducible rfl)));(try simp only[Act.put,aj,av,au]))
     refine jm rfl rfl rfl (by kernel_rfl) ?_
     intro K hK
     go_simp
     refine hK.out _ _ (bF ?_)
     go_wp2
     go_roundw
     case rel=>exact⟨k+1,_,hlt2,by go_num,hD5⟩
     case measure=>simp[intOf];omega
    ·obtain rfl:k=nd.kids.length:=by omega
     rw[iB,bW,show jd []++(gq nd.keys++rest)=gq nd.keys++rest from rfl] at hD
     clear hlt2 hk hDD hlr
     obtain⟨wo2,rfl⟩:∃wo:World,wo=wr:=⟨_,rfl⟩
     obtain⟨ao2,c2,rfl,g1,g2,_,_⟩:=hD.o2.dL.form
     go_wp2
     have hkk:=hf.kk
     go_loopw [9] (fun i wr=>∃(k:Nat) (v1:Value),k<=nd.keys.length/\i= .int .i64 (k+1)/\DD w S (gq (nd.keys.drop k)++rest) v0 nd.pairs v1 (nd.keys.take k) (.slice ao2 nd.kids.length c2) nd.kids wr) (fun i _=>nd.keys.length+1 - (intOf i).toNat)
     case atStart=>exact⟨0,.slice none 0 0,aN _,rfl,hD⟩
     case round=>
      obtain⟨k,v1,hk,rfl,hD⟩:=hrel
      have hcK:=(cells3 hD.node).2.2.1
      by_cases hlt2:k<nd.keys.length
      ·have hz:=hf.ky nd.keys[k] (bI hlt2)
       have eL:gq (nd.keys.drop k)++rest=b8 nd.keys[k].size::(nd.keys[k].data.toList++(gq (nd.keys.drop (k+1))++rest)):=by
        unfold gq;rw[qx _ _ _ hlt2];simp[tY]
       have hcutr:=hD.cut
       rw[eL] at hcutr
       clear eL
       have hlen:(nd.keys.take k).length=k:=by rw[aL];omega
       have hlen1:(nd.keys.take (k+1)).length=k+1:=by rw[aL];omega
       have hltw:=hD.lt
       generalize hp1:nd.keys[k]=s1 at hcutr hz
       have HP1:=af hp1;clear hp1
       generalize hR:gq (nd.keys.drop (k+1))++rest=R at hcutr
       have HR:=af hR;clear hR
       obtain⟨ao1,c1,rfl,g3,g4,_,_⟩:∃ao c,v1= .slice ao k c/\k<=c/\c<=9223372036854775807/\(k=0\/∃b o,ao=some ⟨b,o,none⟩)/\(ao=none->c=0):=by have:=hD.o1.dL.form;rwa [hlen] at this
       have hlt3:k+1<nd.kids.length:=by omega
       have hlt4:(k:Int)+1<nd.kids.length:=by omega
       go_wp2_with fail
       have n1c:=(cells3 hD.node).2.1
       refine aK (fun W=>Below w.heap.size w W/\W.cell? ⟨w.heap.size+1,1,none⟩=some (.slice ao1 k c1)) (fun i=> !([7,11,13,14,17].contains i)) [0,1,2,3,4,5,6,7,8,9,10,11,12,13,14,15,16,17] rfl (by kernel_rfl) ⟨hD.Bu.drew,n1c⟩ ?_
       repeat ((refine bq (v:= ?_) rfl rfl (fun _ _ _ h=>h) rfl (fun W hW=> ?_) ?_);rotate_left;(focus ((try dsimp only at hW);have q2:=hW.2;first|(go_simp;first|done|with_reducible rfl)));(try simp only[Act.put,aj,av,au]))
       refine bP rfl rfl rfl ?_
       intro K hK
       go_simp
       refine(qy w.heap.size w.heap.size _ 1 1 rfl wr.drew S (hcutr.keep rfl fun _ _=>rfl) (by simp)).mono ?_
       rintro e w1 ⟨lv,rfl,hlb,hcut1,hkc1,hlne,hszc1⟩
       have hD1:=hD.drew.took hkc1 hcut1
       rw[show ∀(x:UInt8) (l:List UInt8),(x::l).drop 1=l from fun _ _=>rfl] at hD1
       obtain⟨lao,lc,rfl,r1,r2,r3,r4⟩:∃ao c,lv= .slice ao 1 c/\1<=c/\c<=9223372036854775807/\(1=0\/∃b o,ao=some ⟨b,o,none⟩)/\(ao=none->c=0):=aW.form hlb
       obtain⟨lb,lo,rfl,y0⟩:=hlb.at rfl 0 (by simp)
       have hlbB:lb<w.heap.size:=hlne _ rfl
       have B1:=hD1.Bu
       have m0:∀W,Below w.heap.size w W->W.cell? ⟨lb,lo,none⟩=some (.int .u8 (s1.size:Int)):=fun W hW=>by
        have q:w1.cell? ⟨lb,lo,none⟩=some (.int .u8 ((b8 s1.size).toNat:Int)):=y0
        rw[p9 _ hz] at q
        exact((hW.cell (p:=⟨lb,lo,none⟩) hlbB).trans (B1.cell (p:=⟨lb,lo,none⟩) hlbB).symm).trans q
       clear y0 r3 r4 hcut1 hcutr hlb hkc1
       refine hK.out _ _ ⟨B1,(cells3 hD1.node).2.1⟩ ?_
       (try simp only[Act.put,aj,av,au])
       repeat ((refine bq (v:= ?_) rfl rfl (fun _ _ _ h=>h) rfl (fun W hW=> ?_) ?_);rotate_left;(focus ((try dsimp only at hW);have q0:=m0 W hW.1;have q2:=hW.2;first|(go_simp;first|done|with_reducible rfl)));(try simp only[Act.put,aj,av,au]))
       refine bP rfl rfl rfl ?_
       intro K hK
       go_simp
       refine(qy w.heap.size w.heap.size _ s1.size _ (by rw[bJ];omega) w1 S hD1.cut (by rw[ay,fI];omega)).mono ?_
       rintro e w2 ⟨v,rfl,hv1,hcut2,hkc2,hv1B,hszc2⟩
       have hD2:=hD1.took hkc2 hcut2
       rw[<-fI s1,gP] at hv1
       rw[<-fI s1,I4] at hD2
       have B2:=hD2.Bu
       have cv1:∀W,Below w.heap.size w W->(convert 154 9 v).run Tryz.prog W= .ok (.string s1) W:=fun W hW=>
        (show gT W S v s1.data.toList from aW.keep hv1 fun g hgg _ hs=>⟨(hW.block g (hv1B g hgg)).trans (B2.block g (hv1B g hgg)).symm,hs⟩).str s1 _ _ _ aO dx bf
       refine hK.out _ _ ⟨B2,(cells3 hD2.node).2.1⟩ ?_
       (try simp only[Act.put,aj,av,au])
       repeat ((refine bq (v:= ?_) rfl rfl (fun _ _ _ h=>h) rfl (fun W hW=> ?_) ?_);rotate_left;(focus ((try dsimp only at hW);have q0:=m0 W hW.1;have q2:=hW.2;first|exact cv1 W hW.1|(go_simp;first|done|with_reducible rfl)));(try simp only[Act.put,aj,av,au]))
       refine bP rfl rfl rfl ?_
       intro K hK
       go_simp
       have hDa:=hD2.alloc (.cells #[.string s1] 9)
       have ho1:=hDa.o1
       rw[hlen] at ho1
       refine hK.out _ _ ⟨hDa.Bu,(cells3 hDa.node).2.1⟩ ?_
       (try simp only[Act.put,aj,av,au])
       refine bP rfl rfl rfl ?_
       intro K hK
       refine qP (.tmp 91) (.tmp 100) 146 146 rfl S w.heap.size 9 1 16 _ iV vB rfl (.slice ao1 k c1) k ((nd.keys.take k).map .string) rfl ho1 _ 1 [.string s1] rfl (iq (w:=w2) [.string s1] 9 1 1 1 (hszc2.trans hszc1) iV rfl ?_) (fun g hg=>by have:=hS g hg;have:=hDa.lt;omega) (by have:=hDa.lt;omega) (by simp only[maxLen];omega) (by omega) ?_
       ·intro u hu;simp only[aX,cK,iL] at hu;rcases hu with rfl;rfl
       intro ao5 c5 w5 hown5 hkp5 hb5 hne5
       have hN5:=hDa.node1 hkp5
       have n5c:=(cells3 hN5).2.1
       have n5f:=(cells3 hN5).2.2.2.2.1
       have hD5:=hDa.QN hkp5 hb5 (v':= .slice ao5 (k+1) c5) (Ks':=nd.keys.take (k+1)) (by rw[hlen1,aM hlt2,eP,dO,og,HP1.out];exact hown5)
       refine hK.out _ _ ⟨hDa.Bu.trans hb5,n5c⟩ ?_
       (try simp only[Act.put,aj,av,au])
       repeat ((refine bq (v:= ?_) rfl rfl (fun _ _ _ h=>h) rfl (fun W hW=> ?_) ?_);rotate_left;(focus ((try dsimp only at hW);have q0:=m0 W hW.1;have q2:=hW.2;first|(go_simp;first|done|with_reducible rfl)));(try simp only[Act.put,aj,av,au]))
       refine jm rfl rfl rfl (by kernel_rfl) ?_
       intro K hK
       go_simp
       refine hK.out _ _ (bF ?_)
       go_wp2
       go_roundw
       case rel=>exact⟨k+1,_,hlt2,by go_num,by rw[HR.out];exact hD5⟩
       case measure=>simp[intOf];omega
      ·obtain rfl:k=nd.keys.length:=by omega
       rw[iB,bW] at hD
       have hge:¬((nd.keys.length:Int)+1<nd.kids.length):=by omega
       obtain⟨cvv,hcvb,_⟩:=hD.cut.2.2
       have hcb:=(MP hcvb).2.1
       have hc0:=(cells3 hD.node).1
       obtain⟨ao0,c0,rfl,_,_,_,_⟩:=hD.o0.dL.form
       have hon:¬(((nd.pairs.length:Int)=0)↔((nd.kids.length:Int)=0)):=by
        have:=hf.one
        simp only[<-List.length_eq_zero_iff,ne_eq] at this
        omega
       have hob:(((nd.pairs.length:Int)==0)==((nd.kids.length:Int)==0))=false:=by
        rw[Bool.eq_false_iff];intro h;rw[CU,Bool.eq_iff_iff,CU,CU] at h;exact hon h
       clear hon
       go_wp2_with fail
       refine aK (fun W=>W.cell? ⟨w.heap.size,1,none⟩=some (.bool false)/\W.cell? ⟨w.heap.size+1,0,none⟩=some (.slice ao0 nd.pairs.length c0)/\W.cell? ⟨w.heap.size+1,2,none⟩=some (.slice ao2 nd.kids.length c2)) (fun _=>true) [0,1,2,3,4,5,6,7,8,9,10,11,12,13,14,15,16,17,18] rfl (by kernel_rfl) ⟨hcb,hc0,hcK⟩ ?_
       repeat ((refine bq (v:= ?_) rfl rfl (fun _ _ _ h=>h) rfl (fun W hW=> ?_) ?_);rotate_left;(focus ((try dsimp only at hW);have q0:=hW.1;have q1:=hW.2.1;have q2:=hW.2.2;first|(go_simp;first|done|with_reducible rfl)));(try simp only[Act.put,aj,av,au]))
       refine bF ?_
       go_wp2
       go_ret2
       exact⟨_,rfl,hD.drew.Ob hS1,hD.drew.Bu⟩
end Go.Proofs.YtpmbddooibgnaaaGreatDoor
