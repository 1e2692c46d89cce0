/- parts -/
import Derived.Test.YtpgdljlghiifjaaGreatDoorJ13
import Derived.Test.YtpgdljlghiifjaaGreatDoorJ14
import Derived.Test.YtpgdljlghiifjaaGreatDoorJ19
import Derived.Sort.OwnSortedInts
namespace Go.Proofs.YtpgdljlghiifjaaGreatDoor
open Go.RowKit
set_option maxRecDepth 100000
set_option maxHeartbeats 8000000
set_option linter.all false
structure GN (w0:World) (S:Nat→Prop) (nb:Nat) (ks:List ByteArray) (ns:List Int) (v1 v2:Value) (wr:World):Prop where
 pU:Below w0.heap.size w0 wr
 lo:w0.heap.size≤nb
 node:wr.heap[nb]? =some (.cells #[.slice none 0 0,v1,v2] 189 (0,0))
 o1:aS wr S w0.heap.size 9 1 v1 ks.length (ks.map .string)
 o2:aS wr S w0.heap.size 3 1 v2 ns.length (ns.map (.int .i64))
theorem GN.lt {w0:World} {S:Nat→Prop} {nb:Nat} {ks:List ByteArray} {ns:List Int} {v1 v2:Value} {wr:World} (h:GN w0 S nb ks ns v1 v2 wr):nb<wr.heap.size:=(ah.1 h.node).1
theorem GN.below {w0:World} {S:Nat→Prop} {nb:Nat} {ks:List ByteArray} {ns:List Int} {v1 v2:Value} {wr wr':World} (h:GN w0 S nb ks ns v1 v2 wr) (hb:Below wr.heap.size wr wr'):GN w0 S nb ks ns v1 v2 wr':=
 ⟨h.pU.trans (hb.mono h.pU.size),h.lo,(hb.block nb h.lt).trans h.node,h.o1.below hb,h.o2.below hb⟩
theorem GN.Qw {w0:World} {S:Nat→Prop} {nb:Nat} {ks:List ByteArray} {ns ns':List Int} {v1 v2 v2':Value} {wr w':World} (h:GN w0 S nb ks ns v1 v2 wr) (hk:Keep (fun g=>v2.ownBlock=some g) wr w') (hb:Below w0.heap.size wr w') (ho:aS w' S w0.heap.size 3 1 v2' ns'.length (ns'.map (.int .i64))):GN w0 S nb ks ns' v1 v2' (w'.setCell ⟨nb,2,none⟩ v2'):=by
 have hn:w'.heap[nb]? =_:=(hk.block nb h.lt (h.o2.ne h.node (by decide))).trans h.node
 have hk5:Keep (· =nb) w' (w'.setCell ⟨nb,2,none⟩ v2'):=Keep.setCell (M:=(· =nb)) (p:=⟨nb,2,none⟩) (Keep.refl _ _) (.inr rfl) _
 have h1:aS w' S w0.heap.size 9 1 v1 ks.length (ks.map .string):=h.o1.keep fun g hg hl hs=>⟨hk.block g hl (fun e=>aS.Ej h.o1 h.o2 (by decide) g hg e),hs⟩
 refine⟨(h.pU.trans hb).setCell (by exact h.lo) _,h.lo,by simp[World.setCell,aW,hn],h1.keep fun g hg hl hs=>⟨hk5.block g hl (fun e=>h1.ne hn (by decide) (by rw[hg,e])),hs⟩,ho.keep fun g hg hl hs=>⟨hk5.block g hl (fun e=>ho.ne hn (by decide) (by rw[hg,e])),hs⟩⟩
theorem GN.OV {w0:World} {S:Nat→Prop} {nb:Nat} {ks ks':List ByteArray} {ns:List Int} {v1 v2 v1':Value} {wr w':World} (h:GN w0 S nb ks ns v1 v2 wr) (hk:Keep (fun g=>v1.ownBlock=some g) wr w') (hb:Below w0.heap.size wr w') (ho:aS w' S w0.heap.size 9 1 v1' ks'.length (ks'.map .string)):GN w0 S nb ks' ns v1' v2 (w'.setCell ⟨nb,1,none⟩ v1'):=by
 have hn:w'.heap[nb]? =_:=(hk.block nb h.lt (h.o1.ne h.node (by decide))).trans h.node
 have hk5:Keep (· =nb) w' (w'.setCell ⟨nb,1,none⟩ v1'):=Keep.setCell (M:=(· =nb)) (p:=⟨nb,1,none⟩) (Keep.refl _ _) (.inr rfl) _
 have h2:aS w' S w0.heap.size 3 1 v2 ns.length (ns.map (.int .i64)):=h.o2.keep fun g hg hl hs=>⟨hk.block g hl (fun e=>aS.Ej h.o2 h.o1 (by decide) g hg e),hs⟩
 refine⟨(h.pU.trans hb).setCell (by exact h.lo) _,h.lo,by simp[World.setCell,aW,hn],ho.keep fun g hg hl hs=>⟨hk5.block g hl (fun e=>ho.ne hn (by decide) (by rw[hg,e])),hs⟩,h2.keep fun g hg hl hs=>⟨hk5.block g hl (fun e=>h2.ne hn (by decide) (by rw[hg,e])),hs⟩⟩
def xg (σ:cK) (root:Int) (cs:List Pr) (bs:List Int):Prop:=(root=0∧cs=[]∧bs=[])∨∃h,iy σ h 2 ⟨#[]⟩ none root cs bs
def Oj (mp:VS) (σ:cK) (S:Nat→Prop) (cs:List Pr) (bs:List Int) (n q:Nat) (w:World) (e:Ending) (w':World):Prop:=
 (∃b σ' S' bs',e= .returned (.int .i64 b)∧xg σ' b cs bs'∧kW σ σ' bs bs'∧(Pk σ σ' bs n∧vP σ σ' q)∧Inv σ' S' mp w'∧Step S S' w w')∨(¬Room σ bs n∧Bo mp σ S w e w')
def Sj:Value→Nat| .slice _ n _=>n|_=>0
def GR (mp:VS) (σ0:cK) (S0:Nat→Prop) (cs:List Pr) (bs0:List Int) (n q:Nat) (w:World) (v:Value) (wr:World):Prop:=
 ∃ps h m σ S bs,Gv wr S v ps∧R3 σ h m ⟨#[]⟩ none ps cs bs∧kW σ0 σ bs0 bs∧(Pk σ0 σ bs0 n∧∃W,vP σ0 σ W∧W+(ps.length - 1)≤q)∧Inv σ S mp wr∧Step S0 S w wr
theorem FU (t:Nat) (mp:VS) (root err:Int) (σ:cK) (v:Value) (ps:List Pc) (h m:Nat) (cs:List Pr) (bs:List Int) (n:Nat) (S:Nat→Prop) (w:World) (hI:Inv σ S mp w) (ht:cu w t mp root err) (hst:¬S t) (hv:Gv w S v ps) (hP:R3 σ h m ⟨#[]⟩ none ps cs bs) (hn:bs.Nodup) (hcs:cs.length≤n) (q:Nat) (hq:ps.length - 1≤q):
  Calls Tryz.prog 111 #[.pointer (some ⟨t,0,none⟩),v] w (Oj mp σ S cs bs n q w):=by
 have hb0:∀x∈bs,σ.hasB x=true:=dJ.has (fun _ _ _ _ _ ht=>ht.has) hP.row
 have htl:t<w.heap.size:=(ah.1 ht).1
 go_enter Tryz.func111,Tryz.ntmps111
 go_wp2
 go_loopw [1,5,6,7] (fun l _ _ _ wr=>GR mp σ S cs bs n q w l wr) (fun l _ _ _ _=>Sj l)
 case atStart=>exact⟨ps,h,m,σ,S,bs,hv,hP,kW.refl hb0,⟨Pk.refl _ _ _,0,vP.refl _,by omega⟩,hI,Step.refl S w⟩
 case round=>
  obtain⟨wo,rfl⟩:∃x:World,x=wr:=⟨_,rfl⟩
  obtain⟨ps,h,m,σ1,S1,bs1,hv1,hP1,hC1,hK1,hI1,hs1⟩:=hrel
  have HPK:=af hK1;clear hK1
  have HP1:=af hP1
  have HC1:=af hC1
  have hlen:=hP1.len
  clear hP1 hC1 hb0 hP hv hI
  have ht1:=ht.step hst hs1
  obtain⟨pao,pc,rfl,_,_,_,_⟩:=bE.form hv1
  by_cases h1:1<ps.length
  ·have x1:(1:Int)<(ps.length:Int):=by omega
   have hb0:=aI wo (.cells #[.slice none 0 0,.slice none 0 0,.slice none 0 0] 189)
   have hG0:GN wo S1 wo.heap.size [] [] (.slice none 0 0) (.slice none 0 0) (wo.alloc (.cells #[.slice none 0 0,.slice none 0 0,.slice none 0 0] 189)):=
    ⟨hb0,aG _,aM wo _,aS.nil _ _ _ _ _,aS.nil _ _ _ _ _⟩
   obtain⟨pb,po,rfl⟩:∃pb po,pao=some ⟨pb,po,none⟩:=by
    obtain⟨b,o,e,_⟩:=hv1.at rfl 0 (by omega)
    exact⟨b,o,e⟩
   go_wp2_with fail
   go_loopw [6,7,19] (fun _ _ i wk=>∃(k:Nat) (v1 v2:Value),k≤ps.length∧i= .int .i64 k∧GN wo S1 wo.heap.size (((ps.take k).drop 1).map (·.2)) ((ps.take k).map (·.1)) v1 v2 wk) (fun _ _ i _=>ps.length - (intOf i).toNat)
   case atStart=>exact⟨0,_,_,aY _,rfl,by simpa using hG0⟩
   case round=>
    obtain⟨k,v1,v2,hk,rfl,hG⟩:=hrel
    by_cases hlt:k<ps.length
    ·obtain⟨ns,hns⟩:∃ns,ns=(ps.take k).map (·.1):=⟨_,rfl⟩
     obtain⟨ks,hks⟩:∃ks,ks=((ps.take k).drop 1).map (·.2):=⟨_,rfl⟩
     have hnl:ns.length=k:=by rw[hns];simp;omega
     have hkl:ks.length=k - 1:=by rw[hks];simp;omega
     rw[←hns,←hks] at hG
     have hns2:(ps.take (k+1)).map (·.1)=ns++[ps[k].1]:=by rw[hns,aK hlt,bX];rfl
     have HNS:=af hns2;clear hns hns2
     have hks2:((ps.take (k+1)).drop 1).map (·.2)=if k=0 then ks else ks++[ps[k].2]:=by
      rw[hks,aK hlt]
      split
      ·rename_i e;subst e;simp
      ·rw[eY (by simp;omega),bX];rfl
     have HKS:=af hks2;clear hks hks2
     obtain⟨_,_,e,d1,d2⟩:=hv1.at rfl k hlt
     cases e
     have d1':=(hG.pU.cell (p:=⟨pb,po+k*2,none⟩) (aF wo _ d1)).trans d1
     have d2':=(hG.pU.cell (p:=⟨pb,po+k*2+1,none⟩) (aF wo _ d2)).trans d2
     have hpb:=aF wr _ d1'
     have hlti:(k:Int)<(ps.length:Int):=by omega
     have hGA:=(hG.below (aI wr (.cells #[.int .i64 ps[k].1,.string ps[k].2] 254)))
     have hPA:(wr.alloc (.cells #[.int .i64 ps[k].1,.string ps[k].2] 254)).heap[wr.heap.size]? =some (.cells #[.int .i64 ps[k].1,.string ps[k].2] 254 (0,0)):=aM wr _
     clear d1 d2
     go_wp2_with fail
     generalize wr.alloc (.cells #[.int .i64 ps[k].1,.string ps[k].2] 254)=wA at hGA hPA ⊢
     have hqb:wo.heap.size≤wr.heap.size:=hG.pU.size
     have hqn:wo.heap.size<wr.heap.size:=hG.lt
     clear d1' d2' hpb hG
     generalize wr.heap.size=qb at hPA hqb hqn ⊢
     have hsub:=hI1.sub
     have o2:=hGA.o2
     rw[hnl] at o2
     obtain⟨ao2,c2,rfl,_,_,_,_⟩:=bE.form o2.dD
     obtain⟨_,_,y2,_,_,_,ly⟩:=cells3 hGA.node
     obtain⟨z0,z1,lz⟩:wA.cell? ⟨qb,0,none⟩=some (.int .i64 ps[k].1)∧wA.cell? ⟨qb,1,none⟩=some (.string ps[k].2)∧qb<wA.heap.size:=⟨by simp[World.cell?,hPA],by simp[World.cell?,hPA],(ah.1 hPA).1⟩
     refine aP (fun W=>W.cell? ⟨wo.heap.size,2,none⟩=some (.slice ao2 k c2)∧wo.heap.size<W.heap.size∧W.cell? ⟨qb,0,none⟩=some (.int .i64 ps[k].1)∧qb<W.heap.size) (fun i=> !([7,8,11].contains i)) [0,1,2,3,4,5,6,7,8,9,10,11] rfl (by kernel_rfl) ⟨y2,ly,z0,lz⟩ ?_
     repeat ((refine bO (v:= ?_) rfl rfl (fun _ _ _ h=>h) rfl (fun W hW=> ?_) ?_);rotate_left;(focus ((try dsimp only at hW);obtain⟨q0,q1,q2,q3⟩:=hW;first|(go_simp;first|done|with_reducible rfl)));(try simp only[Act.put,aj,au,ak]))
     refine dw rfl rfl rfl ?_;intro K hK;go_simp
     have hbB:=(aI wA (.cells #[.int .i64 ps[k].1] 3)).drew
     have hGB:=hGA.below hbB
     have oB:=o2.below hbB
     obtain⟨_,_,y2,_,_,_,ly⟩:=cells3 hGB.node
     have z0B:=(hbB.cell (p:=⟨qb,0,none⟩) lz).trans z0
     have lzB:=ax lz hbB.size
     refine hK.out _ _ ⟨y2,ly,z0B,lzB⟩ ?_
     (try simp only[Act.put,aj,au,ak])
     have hPB:=(hbB.block qb lz).trans hPA
     have hsrc:Src Tryz.prog 1 151 (.slice (some ⟨wA.heap.size,0,none⟩) 1 1) 1 [.int .i64 ps[k].1] (wA.alloc (.cells #[.int .i64 ps[k].1] 3)).drew:=(mO (w:=wA) (S:=S1) (B:=wo.heap.size) (e:=3) (k:=1) [.int .i64 ps[k].1] 1 1 rfl rfl (aG _) (by simp[maxLen]) hGA.pU.size (fun g hg=>ax (hsub g hg) hGA.pU.size)).drew.dD.src Tryz.underlying151 (by intro u hu;rw[bH.1 hu];rfl)
     have hsubB:∀g,S1 g→g<(wA.alloc (.cells #[.int .i64 ps[k].1] 3)).drew.heap.size:=fun g hg=>ax (ax (hsub g hg) hGA.pU.size) hbB.size
     have hszB:=hGB.pU.size
     generalize (wA.alloc (.cells #[.int .i64 ps[k].1] 3)).drew=wB at hGB oB hPB hsrc hsubB hszB ⊢
     refine dw rfl rfl rfl ?_;intro K hK
     refine mh (.tmp 28) (.tmp 31) 151 151 rfl S1 wo.heap.size 3 1 8 _ Tryz.underlying151 gV rfl (.slice ao2 k c2) k (ns.map (.int .i64)) rfl oB (.slice (some ⟨wA.heap.size,0,none⟩) 1 1) 1 [.int .i64 ps[k].1] rfl hsrc hsubB hszB (by unfold maxLen;omega) (by omega) ?_
     intro ao3 c3 w3 hown3 hk3 hb3 hd3
     have hG3:=hGB.Qw hk3 hb3 (ns':=ns++[ps[k].1]) (v2':= .slice ao3 (k+1) c3) (by rw[aC,lF,hnl,bX];exact hown3)
     have hN3:w3.heap[wo.heap.size]? =_:=(hk3.block _ hGB.lt (hGB.o2.ne hGB.node (by decide))).trans hGB.node
     have hP3:w3.heap[qb]? =_:=(hk3.block qb (ah.1 hPB).1 (oB.ne hPB (by decide))).trans hPB
     obtain⟨_,_,y2,_,_,yf,ly⟩:=cells3 hN3
     have z3:w3.cell? ⟨qb,0,none⟩=some (.int .i64 ps[k].1):=by simp[World.cell?,hP3]
     have l3:=(ah.1 hP3).1
     refine hK.out _ _ ⟨y2,ly,z3,l3⟩ ?_
     (try simp only[Act.put,aj,au,ak])
     repeat ((refine bO (v:= ?_) rfl rfl (fun _ _ _ h=>h) rfl (fun W hW=> ?_) ?_);rotate_left;(focus ((try dsimp only at hW);obtain⟨q0,q1,q2,q3⟩:=hW;first|(go_simp;first|done|with_reducible rfl)));(try simp only[Act.put,aj,au,ak]))
     refine ja rfl rfl rfl (by kernel_rfl) ?_;intro K hK;go_simp
     refine hK.out _ _ ?_
     refine bR ?_
     have hk4:Keep (· =wo.heap.size) w3 (w3.setCell ⟨wo.heap.size,2,none⟩ (.slice ao3 (k+1) c3)):=Keep.setCell (M:=(· =wo.heap.size)) (p:=⟨wo.heap.size,2,none⟩) (Keep.refl _ _) (.inr rfl) _
     have hP4:=(hk4.block qb l3 (by omega)).trans hP3
     generalize w3.setCell ⟨wo.heap.size,2,none⟩ (.slice ao3 (k+1) c3)=w4 at hG3 hP4 ⊢
     clear hk4 hN3 hP3 hGB oB hPB hsrc hsubB hGA hPA o2 hown3 hk3 hb3 hd3 y2 yf ly z3 l3 z0 z1 lz z0B lzB hbB hszB
     by_cases hk0:k=0
     ·have x2:¬(0:Int)<(k:Int):=by omega
      have HK0:=af hk0;clear hk0
      go_wp2_with fail
      go_roundw
      case rel=>exact⟨k+1,_,_,by omega,by go_num,by rw[HNS.out,HKS.out,if_pos HK0.out];exact hG3⟩
      case measure=>simp[intOf];omega
     ·have x2:(0:Int)<(k:Int):=by omega
      have hkn:k - 1+1=k:=by omega
      have HK0:=af hk0;clear hk0
      have o1:=hG3.o1
      rw[hkl] at o1
      have v14:bE w4 S1 1 v1 (k - 1) (ks.map .string):=o1.dD
      obtain⟨ao5,c5,rfl,_,_,_,_⟩:=bE.form v14
      clear v14
      obtain⟨_,y1,_,_,_,_,ly⟩:=cells3 hG3.node
      obtain⟨z1,lz⟩:w4.cell? ⟨qb,1,none⟩=some (.string ps[k].2)∧qb<w4.heap.size:=⟨by simp[World.cell?,hP4],(ah.1 hP4).1⟩
      go_wp2_with fail
      refine aP (fun W=>W.cell? ⟨wo.heap.size,1,none⟩=some (.slice ao5 (k - 1) c5)∧wo.heap.size<W.heap.size∧W.cell? ⟨qb,1,none⟩=some (.string ps[k].2)∧qb<W.heap.size) (fun i=> !([7,8,11].contains i)) [0,1,2,3,4,5,6,7,8,9,10,11] rfl (by kernel_rfl) ⟨y1,ly,z1,lz⟩ ?_
      repeat ((refine bO (v:= ?_) rfl rfl (fun _ _ _ h=>h) rfl (fun W hW=> ?_) ?_);rotate_left;(focus ((try dsimp only at hW);obtain⟨q0,q1,q2,q3⟩:=hW;first|(go_simp;first|done|with_reducible rfl)));(try simp only[Act.put,aj,au,ak]))
      refine dw rfl rfl rfl ?_;intro K hK;go_simp
      have hbB:=(aI w4 (.cells #[.string ps[k].2] 9)).drew
      have hGB:=hG3.below hbB
      have oB:=o1.below hbB
      obtain⟨_,y1,_,_,_,_,ly⟩:=cells3 hGB.node
      have z1B:=(hbB.cell (p:=⟨qb,1,none⟩) lz).trans z1
      have lzB:=ax lz hbB.size
      refine hK.out _ _ ⟨y1,ly,z1B,lzB⟩ ?_
      (try simp only[Act.put,aj,au,ak])
      have hPB:=(hbB.block qb lz).trans hP4
      have hsrc:Src Tryz.prog 1 22 (.slice (some ⟨w4.heap.size,0,none⟩) 1 1) 1 [.string ps[k].2] (w4.alloc (.cells #[.string ps[k].2] 9)).drew:=(mO (w:=w4) (S:=S1) (B:=wo.heap.size) (e:=9) (k:=1) [.string ps[k].2] 1 1 rfl rfl (aG _) (by simp[maxLen]) hG3.pU.size (fun g hg=>ax (hsub g hg) hG3.pU.size)).drew.dD.src Tryz.underlying22 (by intro u hu;rw[bH.1 hu];rfl)
      have hsubB:∀g,S1 g→g<(w4.alloc (.cells #[.string ps[k].2] 9)).drew.heap.size:=fun g hg=>ax (ax (hsub g hg) hG3.pU.size) hbB.size
      have hszB:=hGB.pU.size
      generalize (w4.alloc (.cells #[.string ps[k].2] 9)).drew=wB at hGB oB hPB hsrc hsubB hszB ⊢
      refine dw rfl rfl rfl ?_;intro K hK
      refine mh (.tmp 41) (.tmp 44) 22 22 rfl S1 wo.heap.size 9 1 16 _ Tryz.underlying22 fV rfl (.slice ao5 (k - 1) c5) (k - 1) (ks.map .string) rfl oB (.slice (some ⟨w4.heap.size,0,none⟩) 1 1) 1 [.string ps[k].2] rfl hsrc hsubB hszB (by unfold maxLen;omega) (by omega) ?_
      intro ao6 c6 w6 hown6 hk6 hb6 hd6
      have hG6:=hGB.OV hk6 hb6 (ks':=ks++[ps[k].2]) (v1':= .slice ao6 (k - 1+1) c6) (by rw[aC,lF,hkl,bX];exact hown6)
      have hN6:w6.heap[wo.heap.size]? =_:=(hk6.block _ hGB.lt (hGB.o1.ne hGB.node (by decide))).trans hGB.node
      have hP6:w6.heap[qb]? =_:=(hk6.block qb (ah.1 hPB).1 (oB.ne hPB (by decide))).trans hPB
      obtain⟨_,y1,_,_,yf,_,ly⟩:=cells3 hN6
      have z6:w6.cell? ⟨qb,1,none⟩=some (.string ps[k].2):=by simp[World.cell?,hP6]
      have l6:=(ah.1 hP6).1
      refine hK.out _ _ ⟨y1,ly,z6,l6⟩ ?_
      (try simp only[Act.put,aj,au,ak])
      repeat ((refine bO (v:= ?_) rfl rfl (fun _ _ _ h=>h) rfl (fun W hW=> ?_) ?_);rotate_left;(focus ((try dsimp only at hW);obtain⟨q0,q1,q2,q3⟩:=hW;first|(go_simp;first|done|with_reducible rfl)));(try simp only[Act.put,aj,au,ak]))
      refine ja rfl rfl rfl (by kernel_rfl) ?_;intro K hK;go_simp
      refine hK.out _ _ ?_
      refine bR ?_
      rw[hkn] at hG6
      clear y1 yf ly z6 l6 hN6 hP6 hGB oB hPB hsrc hsubB hown6 hk6 hb6 hd6 hszB
      go_wp2_with fail
      go_roundw
      case rel=>exact⟨k+1,_,_,by omega,by go_num,by rw[HNS.out,HKS.out,if_neg HK0.out];exact hG6⟩
      case measure=>simp[intOf];omega
    ·obtain rfl:k=ps.length:=by omega
     rw[bU] at hG
     have x2:¬(ps.length:Int)<(ps.length:Int):=by omega
     have hRo:kR ⟨[],(ps.drop 1).map (·.2),ps.map (·.1)⟩ ⟨#[]⟩ (kE ⟨#[]⟩ ps):=by
      constructor
      ·rw[Cq]
       cases ps with
       |nil=>simp at h1
       |cons p r=>simp[kQ]
      ·rw[Co]
     have hm2:m=2:=HP1.out.single.resolve_right (by omega)
     subst hm2
     have ok:Nd.Ok ⟨[],(ps.drop 1).map (·.2),ps.map (·.1)⟩:=hRo.ok rfl (fun k hk=>by
      obtain⟨p,hp,rfl⟩:=dP.1 hk
      exact HP1.out.key p (bS hp)) (dJ.Ev (fun _ _ _ _ _ ht=>ht.top) HP1.out.row) (by rw[wz];omega)
     have hkne:(ps.map (·.1))≠[]:=fun e=>by rw[List.map_eq_nil_iff.1 e] at h1;simp at h1
     have rm2:=Ai ok hRo
     have rm1:=fun hR=>qZ (Lr:=σ1.most) ok hRo HP1.out.row (HC1.out.room hR) hcs
     have HRML:=af (show ∀Lr,jX Lr σ bs n→σ1.sz+Nd.room ⟨[],(ps.drop 1).map (·.2),ps.map (·.1)⟩≤Lr from fun Lr hR=>qZ ok hRo HP1.out.row (HC1.out.zT hR) hcs)
     have hnode:fF wr S1 wo.heap.size ⟨[],(ps.drop 1).map (·.2),ps.map (·.1)⟩:=⟨fun hs=>absurd (hI1.sub _ hs) (dI _),_,_,_,hG.node,bE.nil _ _ _,hG.o1.dD,hG.o2.dD⟩
     have hIr:=hI1.below hG.pU
     have htr:=ht1.1.step ht1.2 (Step.of_below (S:=S1) hG.pU)
     obtain⟨_,_,e,d1,d2⟩:=hv1.at rfl 0 (by omega)
     cases e
     rw[rY,iK] at d2
     have d2':=(hG.pU.cell (p:=⟨pb,po+1,none⟩) (aF wo _ d2)).trans d2
     have hpb:=aF wr _ d2'
     have hlp:(0:Int)<(ps.length:Int):=by omega
     have hlp2:0<ps.length:=by omega
     have hRM:=af rm1
     have HRO:=af hRo
     have hroom2:=af rm2
     clear rm1 rm2 hRo d1 d2
     go_wp2_with (first
      |(go_at_call 149;go_must ((refine(pu t mp root err _ σ1 S1 wo.heap.size ⟨[],(ps.drop 1).map (·.2),ps.map (·.1)⟩ _ wr hIr htr.1 htr.2 hnode ok (gD _)).mono ?_);rintro e w6 (⟨v6,ps6,zs,σ3,S3,rfl,p2,p3,p4,p5,p6⟩|⟨hno,rfl,τ,Sτ,g1,g2,g3,g4⟩)<;>refine Stop.of ?_)))
     rotate_left
     ·refine Stop.on ?_
      exact⟨rfl,.inr ⟨fun hR=>absurd (hRM.out hR) (fq.2 hno),rfl,τ,Sτ,g1,(hs1.trans (Step.of_below hG.pU)).trans g2,g3.trans HC1.out.H,g4.trans HC1.out.most⟩⟩
     refine Stop.on ?_
     go_wp2_with fail
     obtain⟨m3,bs3,q1,q2⟩:=zm p3 (lo:=⟨#[]⟩) (hi:=none) (h:=h+1) (cs:=cs) (bs:=bs1) ok ⟨hkne,by rw[HRO.out.row];exact HP1.out.row⟩ p4 hI1.K9 (HC1.out.nd hn) (dJ.has (fun _ _ _ _ _ ht=>ht.has) HP1.out.row) (HP1.out.key _ (bq hlp2)) (by have:=hroom2.out;simp at this ⊢;omega)
     have hl6:ps6.length<ps.length:=by
      have e1:=p3.room ok
      have e2:=p4.length.1
      simp[Nd.room] at e1
      have:¬ps=[]:=fun e=>by rw[e] at h1;simp at h1
      rw[if_neg this] at e1
      omega
     have hl7:ps6.length≤1∨2*ps6.length≤ps.length:=by
      have e1:=p3.room ok
      have e2:=p4.length.1
      simp[Nd.room] at e1
      have:¬ps=[]:=fun e=>by rw[e] at h1;simp at h1
      rw[if_neg this] at e1
      omega
     go_roundw
     case rel=>exact⟨ps6,h+1,m3,σ3,S3,bs3,p2.dD,q1,HC1.out.trans q2,⟨fun Lr hR t=>wu p3 ok p4 (HRML.out Lr hR) (HPK.out.1 Lr hR t),by obtain⟨W,w1,w2⟩:=HPK.out.2;exact⟨W+ps6.length,w1.trans p4.Rl,by omega⟩⟩,p5,(hs1.trans (Step.of_below hG.pU)).trans p6⟩
     case measure=>
      obtain⟨ao6,c6,rfl,_⟩:=bE.form p2.dD
      exact hl6
  ·have x1:¬(1:Int)<(ps.length:Int):=by omega
   by_cases h0:ps.length=0
   ·have x0:(ps.length:Int)=0:=by omega
    have hp0:ps=[]:=aU h0
    subst hp0
    obtain⟨hc0,hb0⟩:=HP1.out.row
    have HC0:=af hc0
    have HB0:=af hb0
    clear hc0 hb0 h0 x0
    go_wp2_with fail
    go_ret
    exact .inl ⟨0,σ1,S1,bs1,rfl,.inl ⟨rfl,HC0.out,HB0.out⟩,HC1.out,⟨HPK.out.1,by obtain⟨W,w1,w2⟩:=HPK.out.2;exact w1.more (by omega)⟩,hI1,hs1⟩
   ·have h11:ps.length=1:=by omega
    obtain⟨p,hp⟩:∃p,ps=[p]:=List.length_eq_one_iff.1 h11
    subst hp
    obtain⟨c1,c2,y1,y2,hT,⟨hc2,hy2⟩,hc,hy⟩:=HP1.out.row
    subst hc2 hy2
    rw[dG] at hc hy
    subst hc hy
    have HT:=af hT;clear hT
    obtain⟨pb,po,e,d1,d2⟩:=hv1.at rfl 0 (gD 0)
    subst e
    have d1':wo.cell? ⟨pb,po,none⟩=some (.int .i64 p.1):=d1
    have hpl:pb<wo.heap.size:=aF wo _ d1
    clear d1 d2 h0 h11 h1
    go_wp2_with fail
    go_loopw [8,9,10,11] (fun x y _ _ wx=>∃(b:Int) (d h m:Nat) (σ2:cK) (S2:Nat→Prop) (bs2:List Int),x= .int .i64 b∧y= .int .i64 d∧iy σ2 h m ⟨#[]⟩ none b cs bs2∧(m=2∨d=0)∧d≤1∧kW σ σ2 bs bs2∧(Pk σ σ2 bs n∧vP σ σ2 q)∧Inv σ2 S2 mp wx∧Step S S2 w wx) (fun _ y _ _ _=>2 - (intOf y).toNat)
    case atStart=>exact⟨p.1,0,h,m,σ1,S1,_,rfl,rfl,HT.out,.inr rfl,by omega,HC1.out,⟨HPK.out.1,by obtain⟨W,w1,w2⟩:=HPK.out.2;exact w1.more (by omega)⟩,hI1,hs1⟩
    case round=>
     obtain⟨wo2,rfl⟩:∃x:World,x=wr:=⟨_,rfl⟩
     obtain⟨b,d,h2,m2,σ2,S2,bs2,rfl,rfl,hT2,hmd,hd1,hC2,hK2,hI2,hs2⟩:=hrel
     have HPK2:=af hK2;clear hK2
     obtain⟨nd,bs3,hB,ok,hNr,hKd,hne,rfl⟩:=qW.1 hT2
     have HT2:=af hT2;clear hT2
     have HC2:=af hC2;clear hC2
     have ht2:=ht.step hst hs2
     have hd40:(d:Int)≤40:=by omega
     have hnk:=hB.fits.nk
     by_cases hk1:nd.kids.length=1
     ·obtain⟨h3,rfl⟩:∃h3,h2=h3+1:=by
       cases h2 with
       |zero=>have:=hNr.1;rw[this] at hk1;simp at hk1
       |succ h3=>exact⟨h3,rfl⟩
      have hd0:d=0:=hmd.resolve_left (fun e=>by
       have:=hKd.resolve_left (by omega)
       omega)
      have x1:(nd.kids.length:Int)=1:=by omega
      have HK1:=af hk1
      have HD0:=af hd0
      have hrow:=rowOf ok hNr.1 ⟨#[]⟩
      obtain⟨b0,l,e,e2,e3⟩:=oq ok.kk hNr.1 ⟨#[]⟩
      have hl0:l=[]:=by
       have:=congrArg List.length e3
       simp at this
       exact aU (by omega)
      subst hl0
      have hr2:=hNr.2
      unfold Nd.row at hr2
      rw[e] at hr2
      obtain⟨c1,c2,y1,y2,hT3,⟨hc2,hy2⟩,hc,hy⟩:=hr2
      subst hc2 hy2
      rw[dG] at hc hy
      subst hc hy
      have E3:=af e3
      clear e e2 e3 hk1 hd0 hrow
      have cg:=A9 hI2 hB.has
      have hnd3:=HC2.out.nd hn
      have cl:=cg.left (us:=[b]) (bs:=[]) (rs:=bs3) hnd3 (fun x hx=>HT2.out.has x (aX _ hx))
      have hT4:=hT3.keep cg (fun y hy e=>(nS.1 hnd3).1 (by rw[←bH.1 e];exact hy))
      have hm:∀w,(method 475 105 mp.agg "Free").run Tryz.prog w= .ok (285,.pointer (some ⟨mp.mp,0,none⟩)) w:=fun _=>by kernel_rfl
      go_wp2_with (first
       |(go_at_call 143;go_must ((refine(mD t mp root err b d σ2 S2 nd _ hI2 ht2.1 hB hd40).mono ?_);rintro e w1 ⟨nb,rfl,hn1,hb1⟩))
       |(go_at_call 150;go_must ((refine(nK _).mono ?_);rintro e w2 ⟨rfl,hw⟩;subst w2;refine Stop.of ?_)))
      refine Stop.on ?_
      obtain⟨_,v0,v1,v2,bN,_,_,N2⟩:=hn1.iU
      obtain⟨ao2,cp2,rfl,_,_,_,_⟩:=bE.form N2
      obtain⟨_,_,y2,_,_,_,ly⟩:=cells3 bN
      obtain⟨tc0,_,_,_,_,_,tl0⟩:=cells3 ((hb1.block t (ah.1 ht2.1).1).trans ht2.1)
      go_wp2_with (first
       |(go_at_call 285;go_must ((refine(qG mp σ2 S2 w1 b (hI2.below hb1) hB.lo hB.has).mono ?_);rintro e w3 ⟨rfl,hI3,hs3⟩;refine Stop.of ?_)))
      refine Stop.on ?_
      obtain⟨_,v0',v1',v2',bN3,_,_,N23⟩:=hn1.iU.step hs3
      obtain⟨ao3,cp3,rfl,_,_,_,_⟩:=bE.form N23
      obtain⟨pb2,po2,rfl,d2⟩:=N23.at rfl 0 (by rw[HK1.out];exact gD 0)
      have hk0:nd.kids[0]'(by rw[HK1.out];exact gD 0)=b0:=by
       have:=E3.out
       simp at this
       simp[this]
      rw[hk0,iK] at d2
      obtain⟨_,_,y2,_,_,_,ly⟩:=cells3 bN3
      have hp2:=aF w3 _ d2
      go_wp2_with (first
       |(go_at_call 150;go_must ((refine(nK _).mono ?_);rintro e w2 ⟨rfl,hw⟩;subst w2)))
      go_roundw
      case rel=>exact⟨b0,d+1,h3,2,σ2.gone b,S2,bs3,rfl,by go_num,hT4,.inl rfl,by have:=HD0.out;omega,HC2.out.trans cl,⟨HPK2.out.1,by have:=HPK2.out.2.trans (tq σ2 b);rwa [iK] at this⟩,hI3,(hs2.trans (Step.of_below hb1)).trans hs3⟩
      case measure=>simp[intOf];omega
     ·have x1:¬(nd.kids.length:Int)=1:=by omega
      have x1':((nd.kids.length:Int)==1)=false:=by rw[di];omega
      have HK1:=af hk1;clear hk1
      go_wp2_with (first
       |(go_at_call 143;go_must ((refine(mD t mp root err b d σ2 S2 nd _ hI2 ht2.1 hB hd40).mono ?_);rintro e w1 ⟨nb,rfl,hn1,hb1⟩))
       |(go_at_call 150;go_must ((refine(nK _).mono ?_);rintro e w2 ⟨rfl,hw⟩;subst w2;refine Stop.of ?_)))
      refine Stop.on ?_
      obtain⟨_,v0,v1,v2,bN,_,_,N2⟩:=hn1.iU
      obtain⟨ao2,cp2,rfl,_,_,_,_⟩:=bE.form N2
      obtain⟨_,_,y2,_,_,_,ly⟩:=cells3 bN
      go_wp2_with fail
      go_ret
      refine .inl ⟨b,σ2,S2,_,rfl,.inr ⟨h2,qW.2 ⟨nd,bs3,hB,ok,hNr,?_,hne,rfl⟩⟩,HC2.out,HPK2.out,hI2.below hb1,hs2.trans (Step.of_below hb1)⟩
      cases h2 with
      |zero=>exact .inl rfl
      |succ h2=>exact .inr (by have:=dm.2 hNr.1;have:=HK1.out;omega)
theorem Ic (c:List Pr) (key:ByteArray) (h:∀p∈c,lt key p.1=true):dB c key=0:=sP [] c key h
theorem MC {σ:cK} {key:ByteArray} {h:Nat} {hi:Option ByteArray} (hW:∀k z b c x,iy σ h 2 k z b c x→tT σ key h b (c.drop (dB c key))):∀{l:List (ByteArray×Int)} {cs:List Pr} {bs:List Int},dJ (iy σ h 2) hi l cs bs→(∀p∈cs,lt key p.1=true)→
  ∃Ls:List (List Pr),Ls.length=(l.map (·.2)).length∧(∀i (h1:i<(l.map (·.2)).length) (h2:i<Ls.length),tT σ key h (l.map (·.2))[i] Ls[i])∧Ls.flatten=cs
 |[],_,_,⟨e,_⟩,_=>⟨[],rfl,fun i h1=>absurd h1 (by simp),e.symm⟩
 |(k,b)::l,_,_,hr,hp=>by
  obtain⟨c,cs',x,bs',h1,h2,rfl,rfl⟩:=hr
  obtain⟨Ls,q1,q2,q3⟩:=MC hW h2 (fun p hp'=>hp p (dA _ hp'))
  have hw:=hW _ _ _ _ _ h1
  rw[Ic c key (fun p hp'=>hp p (dz _ hp')),eT] at hw
  refine⟨c::Ls,by simp at q1 ⊢;exact q1,fun i i1 i2=> ?_,by rw[Qd,q3]⟩
  cases i with
  |zero=>exact hw
  |succ i=>exact q2 i (by simpa using i1) (by simpa using i2)
theorem Jm {σ:cK} {key:ByteArray} {h:Nat} {hi:Option ByteArray} (hW:∀k z b c x,iy σ h 2 k z b c x→tT σ key h b (c.drop (dB c key))):∀{r:List (ByteArray×Int)} {k:ByteArray} {b:Int} {cs:List Pr} {bs:List Int},dJ (iy σ h 2) hi ((k,b)::r) cs bs→
  ∃Ls:List (List Pr),Ls.length=((b::r.map (·.2)).drop (gU (r.map (·.1)) key)).length∧(∀i (h1:i<((b::r.map (·.2)).drop (gU (r.map (·.1)) key)).length) (h2:i<Ls.length),tT σ key h ((b::r.map (·.2)).drop (gU (r.map (·.1)) key))[i] Ls[i])∧Ls.flatten=cs.drop (dB cs key)
 |[],k,b,_,_,hr=>by
  obtain⟨c,cs',x,bs',h1,⟨rfl,rfl⟩,rfl,rfl⟩:=hr
  refine⟨[c.drop (dB c key)],by simp[gU],fun i i1 i2=> ?_,by simp⟩
  have:i=0:=by simp at i2;exact i2
  subst this
  exact hW _ _ _ _ _ h1
 |(k1,b1)::r,k,b,_,_,hr=>by
  obtain⟨c,cs',x,bs',h1,h2,rfl,rfl⟩:=hr
  have hT:∀k z b c x,iy σ h 2 k z b c x→Content k z c:=fun _ _ _ _ _ ht=>ht.content
  cases hlt:lt key k1 with
  |true=>
   have hc:=dJ.content hT h2
   have hall:∀p∈cs',lt key p.1=true:=fun p hp=>Ak hlt (hc.within p hp).1
   obtain⟨Ls,q1,q2,q3⟩:=MC hW h2 hall
   have e:gU (((k1,b1)::r).map (·.1)) key=0:=by simp[gU,hlt]
   simp only[e,eT]
   refine⟨c.drop (dB c key)::Ls,by simp at q1 ⊢;exact q1,fun i i1 i2=> ?_,?_⟩
   ·cases i with
    |zero=>exact hW _ _ _ _ _ h1
    |succ i=>exact q2 i (by simpa using i1) (by simpa using i2)
   ·rw[Qd,q3,sP c cs' key hall,eY (nH _ _)]
  |false=>
   obtain⟨Ls,q1,q2,q3⟩:=Jm hW h2
   have e:gU (((k1,b1)::r).map (·.1)) key=gU (r.map (·.1)) key+1:=by simp[gU,hlt]
   have hall:∀p∈c,lt p.1 key=true:=fun p hp=>Ak ((hT _ _ _ _ _ h1).within p hp|>.2 k1 rfl) hlt
   simp only[e,fw]
   refine⟨Ls,by simpa using q1,fun i i1 i2=>q2 i (by simpa using i1) i2,?_⟩
   rw[q3,Ae c cs' key hall,ng,dQ (l:=c) (by omega),eD,gB]
theorem iy.walk {σ:cK} {key:ByteArray}:∀{h m:Nat} {lo:ByteArray} {hi:Option ByteArray} {b:Int} {cs:List Pr} {bs:List Int},iy σ h m lo hi b cs bs→tT σ key h b (cs.drop (dB cs key))
 |0,_,_,_,_,_,_,⟨nd,h1,_,h3,h4,_,h6,_,_⟩=>by
  subst h4
  exact .leaf h1 h3 h6
 |h+1,m,lo,hi,b,cs,bs,⟨nd,bs',h1,h2,h3,_,_,h6⟩=>by
  have hkeys:=iy.rising h2 h3 h6
  obtain⟨b0,l,e,e2,e3⟩:=oq h2.kk h3 lo
  unfold Nd.row at h6
  rw[e] at h6
  obtain⟨Ls,q1,q2,q3⟩:=Jm (key:=key) (fun _ _ _ _ _ ht=>iy.walk ht) h6
  have e4:(l.map (·.1))=nd.keys:=e2
  have e5:b0::l.map (·.2)=nd.kids:=e3.symm
  simp only[e4,e5] at q1 q2
  rw[←q3]
  exact .inner Ls h1 h3 hkeys q1 q2
theorem dJ.pow {T:ByteArray→Option ByteArray→Int→List Pr→List Int→Prop} {p:Nat} (hT:∀k z b c x,T k z b c x→p≤c.length) {hi:Option ByteArray}:∀{l:List (ByteArray×Int)} {cs:List Pr} {bs:List Int},dJ T hi l cs bs→l.length*p≤cs.length
 |[],_,_,_=>by simp
 |(k,b)::l,_,_,h=>by
  obtain⟨c,cs',x,bs',h1,h2,rfl,rfl⟩:=h
  have a:=hT _ _ _ _ _ h1
  have b:=dJ.pow hT h2
  simp only[aC,bf,eF,jY];omega
theorem iy.pow {σ:cK}:∀{h:Nat} {lo:ByteArray} {hi:Option ByteArray} {b:Int} {cs:List Pr} {bs:List Int},iy σ h 2 lo hi b cs bs→2^h≤cs.length
 |0,_,_,_,_,_,⟨_,_,_,_,_,h5,_,_,_⟩=>by
  rw[Nat.pow_zero]
  exact dm.2 h5
 |h+1,_,_,_,_,_,⟨nd,bs',_,h2,h3,h4,h5,h6⟩=>by
  have:=dJ.pow (fun _ _ _ _ _ ht=>iy.pow ht) h6
  rw[nd.lM h2 h3] at this
  have:2*2^h≤nd.kids.length*2^h:=bW _ h4
  rw[Qc];omega
theorem iy.low {σ:cK} {h:Nat} {lo:ByteArray} {hi:Option ByteArray} {b:Int} {cs:List Pr} {bs:List Int} (ht:iy σ h 2 lo hi b cs bs) (hl:cs.length≤4095):h≤11:=by
 have h1:=ht.pow
 rcases iJ 11 h with h2|h2
 ·have:2^12≤2^h:=JY (by omega) h2
  omega
 ·exact h2
theorem xg.rise {σ:cK} {root:Int} {cs:List Pr} {bs:List Int} (h:xg σ root cs bs):fT cs:=by
 rcases h with ⟨_,rfl,_⟩|⟨h,ht⟩
 ·exact kC
 ·exact ht.content.rise
theorem xg.has {σ:cK} {root:Int} {cs:List Pr} {bs:List Int} (h:xg σ root cs bs):∀x∈bs,σ.hasB x=true:=by
 rcases h with ⟨_,_,rfl⟩|⟨h,ht⟩
 ·simp
 ·exact ht.has
theorem xg.count {σ:cK} {root:Int} {cs:List Pr} {bs:List Int} (h:xg σ root cs bs):bs.length≤2*cs.length:=by
 rcases h with ⟨_,_,rfl⟩|⟨h,ht⟩
 ·simp
 ·exact ht.QS
theorem xg.keep {σ σ':cK} {us bs':List Int} (hc:kW σ σ' us bs') {root:Int} {cs:List Pr} {bs:List Int} (h:xg σ root cs bs) (hd:∀x∈bs,x∉us∨False):xg σ' root cs bs:=by
 rcases h with h|⟨h,ht⟩
 ·exact .inl h
 ·exact .inr ⟨h,ht.move fun x hx=>hc.frame x (ht.has x hx) (hd x hx)⟩
theorem xg.look {σ:cK} {root:Int} {cs:List Pr} {bs:List Int} (h:xg σ root cs bs) (hl:cs.length≤4095) (key:ByteArray):∃n,n≤40∧Look σ key n root (d9 cs key):=by
 rcases h with ⟨rfl,rfl,_⟩|⟨h,ht⟩
 ·exact⟨0,by omega,.nil⟩
 ·exact⟨h,by have:=ht.low hl;omega,ht.look ⟨by cases hq:lt key ⟨#[]⟩ with|false=>rfl|true=>(simp[lt,toList_eq] at hq;cases hb:key.data.toList<;>simp[hb,Op.bytesLess] at hq),fun y hy=>by cases hy⟩⟩
theorem Fh (k:ByteArray):lt k ⟨#[]⟩=false:=by
 cases hq:lt k ⟨#[]⟩ with
 |false=>rfl
 |true=>(simp[lt,toList_eq] at hq;cases hb:k.data.toList<;>simp[hb,Op.bytesLess] at hq)
def yB (σ:cK) (bs:List Int) (cs:List Pr) (n:Nat) (σ':cK) (b:Int):Prop:=∃bs',xg σ' b cs bs'∧kW σ σ' bs bs'∧Pk σ σ' bs n∧(cs.length≤299→vP σ σ' 65)
theorem Jf {σ:cK} {root:Int} {cs:List Pr} {bs:List Int} (hT:xg σ root cs bs) (hn:bs.Nodup) (hl:cs.length≤4090) (t:Nat) (mp:VS) (S:Nat→Prop) (key:ByteArray) (hks:key.size≤128) (g:Nat) (cb:Array Value) (F:List Pr→List Pr) (vs:List (Nat×ByteArray)) (hent:∀args w,(callFunc g args).run Tryz.prog w= .ok (.enter g args) w) (hf:Bp g cb F vs) (hF:Ja F key)
  (W:World) (h:Inv σ S mp W) (ht:cu W t mp root 0) (hst:¬S t) (hbx:ug W S vs):EG t mp root key g cb σ S (¬Room σ bs (cs.length+1)) (yB σ bs (F cs) (cs.length+1)) W:=by
 have hFl:=hF.len cs
 rcases hT with ⟨rfl,rfl,rfl⟩|⟨h',hT⟩
 ·have ok:Nd.Ok ⟨F [],[],[]⟩:=⟨fun p hp=>by
   rcases hF.mem _ kC p hp with h|h
   ·cases h
   ·exact h.2,by simp,by simp,rfl,by simp,by simp at hFl;show (F []).length≤2000;omega,by simp⟩
  simp only[bG] at hFl
  refine(KY t mp 0 0 0 σ S key ⟨#[]⟩ g cb F vs hent hf W h ht hst hbx ok).mono ?_
  rintro e w1 (⟨v,ps,zs,σ',S',rfl,p2,p3,p4,p5,p6⟩|⟨hno,hg⟩)
  rotate_left
  ·refine .inr ⟨fun hR=> ?_,hg⟩
   unfold Room at hR;simp[nh] at hR;unfold Nd.room at hno;simp only[iT] at hno;omega
  obtain⟨m,bs',q1,q2⟩:=zm p3 (lo:=⟨#[]⟩) (hi:=none) (h:=0) (cs:=F []) (bs:=[]) ok ⟨rfl,rfl,hF.rise _ kC,fun p hp=>⟨Fh _,fun y hy=>by cases hy⟩,rfl⟩ p4 h.K9 oO (by simp) hks (by unfold Nd.room;simp only[iT];omega)
  refine .inl ⟨v,S',rfl,p6,?_⟩
  have ht1:=ht.step hst p6
  refine(FU t mp 0 0 σ' v ps 0 m (F []) bs' _ S' w1 p5 ht1.1 ht1.2 p2.dD q1 (q2.nd oO) (by simpa using hFl) (ps.length - 1) (aG _)).mono ?_
  rintro e2 w2 (⟨b,σ2,S2,bs2,rfl,r1,r2,⟨rk,rt⟩,r3,r4⟩|⟨hno,hg⟩)
  rotate_left
  ·exact .inr ⟨fun hR=>hno (q2.room hR),hg.after (Step.refl _ _) q2.H q2.most⟩
  exact .inl ⟨b,σ2,S2,rfl,r3,r4,bs2,r1,q2.trans r2,Pk.trans (fun L r t=>wu p3 ok p4 (by unfold jX at r;simp[nh] at r;unfold Nd.room;simp only[iT];omega) t) q2 rk,fun _=>(p4.Rl.trans rt).more (by
   have e1:=p4.length.1
   have e2:=p3.small (by
    have f1:=hF.size []
    have f2:dU []=0:=rfl
    have f3:Nd.size ⟨F [],[],[]⟩=2+dU (F []):=by simp[Nd.size,dY]
    omega)
   omega)⟩
 ·have hh:=hT.low (by omega)
  refine(FY t mp root 0 key g cb F vs hent hf hF hks h' σ S root 0 ⟨#[]⟩ ⟨#[]⟩ none cs bs W h ht hst hbx hT hn ⟨Fh _,fun y hy=>by cases hy⟩ (by omega) (by omega) (aY _)).mono ?_
  rintro e w1 (⟨v,ps,σ',S',bs',m,rfl,p2,q1,q2,⟨qk,Wn,qt,qb⟩,p5,p6⟩|hg)
  rotate_left
  ·exact .inr hg
  refine .inl ⟨v,S',rfl,p6,?_⟩
  have ht1:=ht.step hst p6
  refine(FU t mp root 0 σ' v ps h' m (F cs) bs' _ S' w1 p5 ht1.1 ht1.2 p2.dD q1 (q2.nd hn) hFl (ps.length - 1) (aG _)).mono ?_
  rintro e2 w2 (⟨b,σ2,S2,bs2,rfl,r1,r2,⟨rk,rt⟩,r3,r4⟩|⟨hno,hg⟩)
  rotate_left
  ·exact .inr ⟨fun hR=>hno (q2.room hR),hg.after (Step.refl _ _) q2.H q2.most⟩
  exact .inl ⟨b,σ2,S2,rfl,r3,r4,bs2,r1,q2.trans r2,qk.trans q2 rk,fun hc=>(qt.trans rt).more (Qk qb hc)⟩
def Q7 (key value:ByteArray):Prop:=(1≤key.size∧key.size≤128)∧value.size≤64
theorem Kr (kb vb:Nat) (key value:ByteArray):Bp 113 #[.pointer (some ⟨kb,0,none⟩),.pointer (some ⟨vb,0,none⟩)] (fun ps=>kN ps key value) [(kb,key),(vb,value)]:=by
 intro nb B nd S w hsub hbx hn hr hl
 exact Kw kb vb nb B key value nd S w hsub (hbx (kb,key) (by simp)).1 (hbx (vb,value) (by simp)).1 (hbx (kb,key) (by simp)).2 (hbx (vb,value) (by simp)).2 hn hr hl
theorem D5 (kb:Nat) (key:ByteArray):Bp 120 #[.pointer (some ⟨kb,0,none⟩)] (fun ps=>lV ps key) [(kb,key)]:=by
 intro nb B nd S w hsub hbx hn hr hl
 exact D6 kb nb B key nd S w (hbx (kb,key) (by simp)).1 hn hr (by omega)
theorem EU (t:Nat) (mp:VS) (root:Int) (σ:cK) (S:Nat→Prop) (cs:List Pr) (bs:List Int) (key value:ByteArray) (w:World) (h:Inv σ S mp w) (ht:cu w t mp root 0) (hst:¬S t) (hT:xg σ root cs bs) (hn:bs.Nodup) (hl:cs.length≤4090) (hg:Q7 key value):
  Calls Tryz.prog 66 #[.pointer (some ⟨t,0,none⟩),.string key,.string value] w fun e w'=>(e= .returned (.int .i64 0)∧xh t mp S (yB σ bs (kN cs key value) (cs.length+1)) w w')∨(e= .returned (.int .i64 12)∧tY t mp root σ S (¬Room σ bs (cs.length+1)) w w'):=by
 refine OT t mp root σ S _ _ key value w h.sub ht hst hg.1.1 hg.1.2 hg.2 fun W kb vb hbW hbx=> ?_
 exact Jf hT hn hl t mp S key hg.1.2 _ _ (fun ps=>kN ps key value) [(kb,key),(vb,value)] (fun _ _=>by kernel_rfl) (Kr kb vb key value) (Az key value hg.1.2 hg.2) W (h.below hbW) ((hbW.block t (ah.1 ht).1).trans ht) hst hbx
theorem CR {cs:List Pr} {key:ByteArray} (h:d9 cs key=none):lV cs key=cs:=by
 unfold lV
 split
 ·rename_i hat
  obtain⟨hp,_⟩:=nM hat
  unfold d9 at h
  rw[if_pos hat,aZ hp] at h
  cases h
 ·rfl
theorem Ga (t:Nat) (mp:VS) (root:Int) (σ:cK) (S:Nat→Prop) (cs:List Pr) (bs:List Int) (key:ByteArray) (w:World) (h:Inv σ S mp w) (ht:cu w t mp root 0) (hst:¬S t) (hT:xg σ root cs bs) (hn:bs.Nodup) (hl:cs.length≤4090) (hg:1≤key.size∧key.size≤128):
  Calls Tryz.prog 71 #[.pointer (some ⟨t,0,none⟩),.string key] w fun e w'=>(e= .returned (.tuple #[.bool (d9 cs key).isSome,.int .i64 0])∧xh t mp S (yB σ bs (lV cs key) (cs.length+1)) w w')∨(e= .returned (.tuple #[.bool false,.int .i64 12])∧tY t mp root σ S (¬Room σ bs (cs.length+1)) w w'):=by
 obtain⟨n,hn40,hlk⟩:=hT.look (by omega) key
 cases hx:d9 cs key with
 |none=>
  rw[hx] at hlk
  refine(yP t mp root σ S key w h ht hg.1 hg.2 n hn40 hlk).mono ?_
  rintro e w' ⟨rfl,hb⟩
  rw[CR hx]
  exact .inl ⟨rfl,σ,S,root,h.below hb,(hb.block t (ah.1 ht).1).trans ht,hst,⟨bs,hT,kW.refl hT.has,Pk.refl _ _ _,fun _=>(vP.refl _).more (aY _)⟩,Keep.of_below hb _,fun g hg=> .inl hg⟩
 |some x=>
  rw[hx] at hlk
  refine IL t mp root σ S _ _ key x w h ht hst hg.1 hg.2 n hn40 hlk fun W kb hbW hbx=> ?_
  exact Jf hT hn hl t mp S key hg.2 _ _ (fun ps=>lV ps key) [(kb,key)] (fun _ _=>by kernel_rfl) (D5 kb key) (ND key) W (h.below hbW) ((hbW.block t (ah.1 ht).1).trans ht) hst hbx
theorem AL (t:Nat) (mp:VS) (root:Int) (σ:cK) (S:Nat→Prop) (cs:List Pr) (bs:List Int) (key:ByteArray) (w:World) (h:Inv σ S mp w) (ht:cu w t mp root 0) (hT:xg σ root cs bs) (hl:cs.length≤4090) (hg:1≤key.size∧key.size≤128):
  Calls Tryz.prog 100 #[.pointer (some ⟨t,0,none⟩),.string key] w fun e w'=>e= .returned (.tuple #[.string ((d9 cs key).getD ⟨#[]⟩),.bool (d9 cs key).isSome,.int .i64 0])∧Below w.heap.size w w':=by
 obtain⟨n,hn40,hlk⟩:=hT.look (by omega) key
 exact DU t mp root σ S key _ w h ht hg.1 hg.2 n hn40 hlk
theorem Kn (t:Nat) (mp:VS) (root:Int) (σ:cK) (S:Nat→Prop) (cs:List Pr) (bs:List Int) (key:ByteArray) (most:Int) (w:World) (h:Inv σ S mp w) (ht:cu w t mp root 0) (hT:xg σ root cs bs) (hl:cs.length≤4090):
  Calls Tryz.prog 122 #[.pointer (some ⟨t,0,none⟩),.string key,.int .i64 most] w fun e w'=>∃v,e= .returned (.tuple #[v,.int .i64 0])∧aS w' S w.heap.size 130 2 v ((cs.drop (dB cs key)).take most.toNat).length (dH ((cs.drop (dB cs key)).take most.toNat))∧Below w.heap.size w w':=by
 by_cases hm:most≤0
 ·refine(Ci t mp root key most w ht (.inr hm)).mono ?_
  rintro e w' ⟨rfl,hb⟩
  refine⟨_,rfl,?_,hb⟩
  rw[show most.toNat=0 from by omega,gF]
  exact aS.nil _ _ _ _ _
 ·rcases hT with ⟨rfl,rfl,_⟩|⟨h',hT⟩
  ·refine(Ci t mp 0 key most w ht (.inl rfl)).mono ?_
   rintro e w' ⟨rfl,hb⟩
   refine⟨_,rfl,?_,hb⟩
   rw[List.drop_nil,List.take_nil]
   exact aS.nil _ _ _ _ _
  ·exact Mt t mp root σ S key most _ h' w h ht (by have:=hT.top;omega) (by omega) (by have:=hT.low (by omega);omega) hT.walk (by simp only[aO];omega)
def Fo (σ:cK) (h:Nat):List Int→List Int→Prop
 |[],bs=>bs=[]
 |b::L,bs=>∃lo hi c x bs',iy σ h 2 lo hi b c x∧Fo σ h L bs'∧bs=x++bs'
theorem Fo.append {σ:cK} {h:Nat}:∀{L M:List Int} {x y:List Int},Fo σ h L x→Fo σ h M y→Fo σ h (L++M) (x++y)
 |[],_,_,_,h1,h2=>by obtain rfl:=h1;exact h2
 |b::L,_,_,_,⟨lo,hi,c,x,bs',h1,h2,rfl⟩,hM=>⟨lo,hi,c,x,_,h1,Fo.append h2 hM,aL _ _ _⟩
theorem dJ.fo {σ:cK} {h:Nat} {hi:Option ByteArray}:∀{l:List (ByteArray×Int)} {cs:List Pr} {bs:List Int},dJ (iy σ h 2) hi l cs bs→Fo σ h (l.map (·.2)) bs
 |[],_,_,⟨_,e⟩=>e
 |(k,_)::_,_,_,⟨c,_,x,bs',h1,h2,_,e⟩=>⟨k,_,c,x,bs',h1,dJ.fo h2,e⟩
inductive BL (σ:cK):Nat→List Int→List Int→Prop
 |done:BL σ 0 [] []
 |step {n:Nat} {L:List Int} {nds:List Nd} {T:List Int}:L≠[]→nds.length=L.length→(∀i (h1:i<L.length) (h2:i<nds.length),zy σ L[i] nds[i])→BL σ n (nds.flatMap (·.kids)) T→BL σ (n+1) L (L++T)
theorem BL.le {σ:cK} {n:Nat} {L T:List Int} (h:BL σ n L T):L.length≤T.length:=by
 cases h with
 |done=>simp
 |step _ _ _ _=>simp
theorem Fo.zero {σ:cK}:∀{L bs:List Int},Fo σ 0 L bs→∃nds:List Nd,nds.length=L.length∧(∀i (h1:i<L.length) (h2:i<nds.length),zy σ L[i] nds[i])∧nds.flatMap (·.kids)=[]∧bs=L
 |[],_,h=>⟨[],rfl,fun i h1=>absurd h1 (by simp),rfl,h⟩
 |b::L,_,⟨lo,hi,c,x,bs',⟨nd,h1,_,h3,_,_,_,_,h8⟩,h2,e⟩=>by
  obtain⟨nds,q1,q2,q3,rfl⟩:=Fo.zero h2
  subst e h8
  refine⟨nd::nds,by simp[q1],fun i i1 i2=> ?_,by rw[dx,h3,q3];rfl,rfl⟩
  cases i with
  |zero=>exact h1
  |succ i=>exact q2 i (by simpa using i1) (by simpa using i2)
theorem Fo.succ {σ:cK} {h:Nat}:∀{L bs:List Int},Fo σ (h+1) L bs→∃(nds:List Nd) (bs':List Int),nds.length=L.length∧(∀i (h1:i<L.length) (h2:i<nds.length),zy σ L[i] nds[i])∧Fo σ h (nds.flatMap (·.kids)) bs'∧(L++bs').Perm bs∧(L≠[]→nds.flatMap (·.kids)≠[])
 |[],_,h=>⟨[],[],rfl,fun i h1=>absurd h1 (by simp),rfl,by obtain rfl:=h;exact iF _,fun h=>absurd rfl h⟩
 |b::L,_,⟨lo,hi,c,x,bs',⟨nd,x',h1,ho,hk,_,e1,h6⟩,h2,e⟩=>by
  obtain⟨nds,y,q1,q2,q3,q4,_⟩:=Fo.succ h2
  subst e e1
  obtain⟨b0,l,e0,_,e3⟩:=oq ho.kk hk lo
  have hf:Fo σ h nd.kids x':=by
   have:=h6.fo
   unfold Nd.row at this
   rw[e0] at this
   rw[e3]
   exact this
  refine⟨nd::nds,x'++y,by simp[q1],fun i i1 i2=> ?_,by rw[dx];exact hf.append q3,?_,fun _=>by rw[dx];intro h0;exact hk (List.append_eq_nil_iff.1 h0).1⟩
  ·cases i with
   |zero=>exact h1
   |succ i=>exact q2 i (by simpa using i1) (by simpa using i2)
  ·have p1:(L++(x'++y)).Perm (x'++(L++y)):=by
    rw[←aL,←aL]
    exact En _ eZ
   exact(p1.trans (om _ q4)).cons b
theorem Fo.bl {σ:cK}:∀{h:Nat} {L bs:List Int},L≠[]→Fo σ h L bs→∃T,BL σ (h+1) L T∧T.Perm bs
 |0,L,bs,hL,hf=>by
  obtain⟨nds,q1,q2,q3,rfl⟩:=hf.zero
  refine⟨bs++[],.step hL q1 q2 (by rw[q3];exact .done),by rw[dG]⟩
 |h+1,L,bs,hL,hf=>by
  obtain⟨nds,bs',q1,q2,q3,q4,q5⟩:=hf.succ
  obtain⟨T,r1,r2⟩:=Fo.bl (q5 hL) q3
  exact⟨L++T,.step hL q1 q2 r1,(om _ r2).trans q4⟩
theorem xg.bl {σ:cK} {root:Int} {cs:List Pr} {bs:List Int} (h:xg σ root cs bs) (hl:cs.length≤4095):∃n T,n≤12∧BL σ n (if root=0 then[] else[root]) T∧T.Perm bs:=by
 rcases h with ⟨rfl,_,rfl⟩|⟨h,ht⟩
 ·exact⟨0,[],by omega,.done,iF _⟩
 ·have hr:=ht.top
  have hlow:=ht.low hl
  obtain⟨T,h1,h2⟩:=Fo.bl (L:=[root]) (by simp) (show Fo σ h [root] (bs++[]) from⟨_,_,_,_,_,ht,rfl,rfl⟩)
  rw[dG] at h2
  exact⟨h+1,T,by omega,by rw[if_neg (by omega)];exact h1,h2⟩
def vW (T:List Int):List Int:=T.mergeSort fun x y=>decide (x≤y)
theorem vV (T:List Int):(vW T).length=T.length:=List.length_mergeSort _
theorem EC {T:List Int} (x:Int):x∈vW T↔x∈T:=(xw T _).mem_iff
theorem Ml (v:Value) (T:List Int) (w:World) (S:Nat→Prop) (B:Nat) (h:aS w S B 3 1 v T.length (T.map (.int .i64))) (hl:T.length≤100000) (hB:B≤w.heap.size):
  Calls Tryz.prog 134 #[v] w fun e w'=>e= .returned (.tuple #[])∧aS w' S B 3 1 v (vW T).length ((vW T).map (.int .i64))∧Below B w w':=by
 obtain⟨⟨hxl,hr⟩,hn⟩:=h
 rcases hr with ⟨rfl,h0⟩|⟨g,cap,cur,rfl,hb,hg,h1,h2,h3,h4⟩
 ·refine(Any.slices_Sort_int_none vX none 0 w).mono ?_
  rintro e w' ⟨rfl,rfl⟩
  have hT:T=[]:=aU h0
  subst hT
  refine⟨rfl,?_,aQ _ _⟩
  have:vW []=[]:=aU (vV [])
  rw[this]
  exact aS.nil _ _ _ _ _
 ·have hH:Go.Sort.Holds (Value.int .i64) w g 0 T.toArray:=holds_of_blockI hg (by rw[←h4,aV])
  refine(Any.slices_Sort_int vX g 0 cap T w hH (ah.1 hg).1 (by omega)).mono ?_
  rintro e w' ⟨rfl,n,os,rfl⟩
  have hgb:=grownBy_sortedI (w:=w) (g:=g) (n:=n) (os:=os) (vW T).toArray
  refine⟨rfl,⟨?_,hn⟩,⟨hgb.os,hgb.tape,hgb.output,hgb.size,fun k hk=>hgb.block k (ax hk hB) (fun e=>by have:=iY e;omega)⟩⟩
  have:=ownsRow_sortedI (w:=w) (base:=B) (n:=n) (os:=os) (ts:=vW T) (vV T) hb hg h1 h2 h3
  rw[vV]
  exact this
def vY (r:Nat×Nat):List Nat:=(List.range r.2).map (r.1+ ·)
def fu (rs:List (Nat×Nat)):List Nat:=rs.flatMap vY
theorem Hz (r:Nat×Nat) (rs:List (Nat×Nat)):fu (r::rs)=vY r++fu rs:=rfl
theorem nE (a b:List (Nat×Nat)):fu (a++b)=fu a++fu b:=by simp[fu]
theorem sI (r:Nat×Nat):(vY r).length=r.2:=by simp[vY]
def yA (rs:List (Nat×Nat)) (b:Nat):List (Nat×Nat):=
 match rs.getLast? with
 |some r=>if r.1+r.2=b∧r.2<255 then rs.dropLast++[(r.1,r.2+1)] else rs++[(b,1)]
 |none=>[(b,1)]
theorem Cj (f n:Nat):vY (f,n+1)=vY (f,n)++[f+n]:=by simp[vY,List.range_succ]
theorem H6 (rs:List (Nat×Nat)) (b:Nat):fu (yA rs b)=fu rs++[b]:=by
 unfold yA
 split
 ·rename_i r hr
  obtain⟨l,rfl⟩:=List.getLast?_eq_some_iff.1 hr
  split
  ·rename_i h
   rw[List.dropLast_concat,nE,nE,aL]
   congr 1
   obtain⟨f,n⟩:=r
   show vY (f,n+1)++[]=(vY (f,n)++[])++[b]
   have h1:f+n=b:=h.1
   rw[Cj,h1];simp
  ·rw[nE];simp[fu,vY]
 ·rename_i hr
  rw[List.getLast?_eq_none_iff] at hr
  subst hr
  simp[fu,vY]
def pM (rs:List (Nat×Nat)):Prop:=∀r∈rs,1≤r.2∧r.2≤255∧r.1+r.2≤65536
theorem pM.add {rs:List (Nat×Nat)} (h:pM rs) (b:Nat) (hb:b<65536):pM (yA rs b):=by
 unfold yA
 split
 ·rename_i r hr
  obtain⟨l,rfl⟩:=List.getLast?_eq_some_iff.1 hr
  split
  ·rename_i hc
   rw[List.dropLast_concat]
   intro q hq
   rcases bJ.1 hq with hq|hq
   ·exact h q (dz _ hq)
   ·have:=h r (by simp)
    rw[bH.1 hq]
    show 1≤r.2+1∧r.2+1≤255∧r.1+(r.2+1)≤65536
    omega
  ·intro q hq
   rcases bJ.1 hq with hq|hq
   ·exact h q hq
   ·rw[bH.1 hq]
    show 1≤1∧1≤255∧b+1≤65536
    omega
 ·intro q hq
  rw[bH.1 hq]
  show 1≤1∧1≤255∧b+1≤65536
  omega
theorem pM.le {rs:List (Nat×Nat)} (h:pM rs):rs.length≤(fu rs).length:=by
 induction rs with
 |nil=>exact aY _
 |cons r rs ih=>
  have h1:=h r (bg ..)
  have:=ih (fun q hq=>h q (aX _ hq))
  rw[Hz,aC,sI,bf];omega
def qp (r:Nat×Nat):List UInt8:=[UInt8.ofNat r.1,UInt8.ofNat (r.1/256),UInt8.ofNat r.2]
def encR (size:Nat) (rs:List (Nat×Nat)):List UInt8:=[177,UInt8.ofNat size,UInt8.ofNat (size/256),UInt8.ofNat rs.length]++rs.flatMap qp
theorem yO (size:Nat) (rs:List (Nat×Nat)):(encR size rs).length=4+3*rs.length:=by
 have:(rs.flatMap qp).length=3*rs.length:=by
  induction rs with
  |nil=>rfl
  |cons r rs ih=>rw[dx,aC,ih,bf];simp[qp];omega
 unfold encR
 rw[aC,this]
 simp only[bf,bG]
def iB (rs:List (Nat×Nat)):List Value:=rs.flatMap fun r=>[.int .i64 r.1,.int .i64 r.2]
theorem rU (a b:List (Nat×Nat)):iB (a++b)=iB a++iB b:=by simp[iB]
theorem EM (rs:List (Nat×Nat)) (i:Nat) (h:i<rs.length):(iB rs)[i*2]? =some (.int .i64 rs[i].1)∧(iB rs)[i*2+1]? =some (.int .i64 rs[i].2):=by
 induction rs generalizing i with
 |nil=>simp at h
 |cons r rs ih=>
  cases i with
  |zero=>exact⟨rfl,rfl⟩
  |succ i=>
   have:=ih i (by simpa using h)
   rw[show (i+1)*2=i*2+2 by omega]
   exact this
structure ku (w:World) (S:Nat→Prop) (B lb size:Nat) (rs:List (Nat×Nat)) (v:Value):Prop where
 obj:w.heap[lb]? =some (.cells #[.int .i64 size,v] 179 (0,0))
 own:aS w S B 249 2 v rs.length (iB rs)
 lo:B≤lb
 ns:¬S lb
theorem ku.below {w w':World} {S:Nat→Prop} {B lb size:Nat} {rs:List (Nat×Nat)} {v:Value} (h:ku w S B lb size rs v) (hb:Below w.heap.size w w'):ku w' S B lb size rs v:=
 ⟨(hb.block lb (ah.1 h.obj).1).trans h.obj,h.own.below hb,h.lo,h.ns⟩
theorem ku.step {w w':World} {S S':Nat→Prop} {B lb size:Nat} {rs:List (Nat×Nat)} {v:Value} (h:ku w S B lb size rs v) (hs:Step S S' w w'):ku w' S' B lb size rs v:=by
 have hl:=(ah.1 h.obj).1
 exact⟨(hs.1.block lb hl h.ns).trans h.obj,h.own.step hs,h.lo,fun x=>(hs.2 lb x).elim h.ns (fun y=>absurd hl (bF.2 y))⟩
theorem Hu (rs:List (Nat×Nat)) (k:Nat) (h:k<rs.length):fu (rs.take (k+1))=fu (rs.take k)++vY rs[k]:=by
 rw[aK h,nE];simp[fu]
theorem uT (rs:List (Nat×Nat)) (k:Nat):(fu (rs.take k)).length≤(fu rs).length:=by
 have:fu rs=fu (rs.take k)++fu (rs.drop k):=by rw[←nE,bI]
 rw[this,aC];omega
def ints (l:List Nat):List Value:=l.map fun (b:Nat)=>Value.int .i64 (b:Int)
theorem FH (a b:List Nat):ints (a++b)=ints a++ints b:=by simp[ints]
theorem JF (l:List Nat):ints l=(l.map fun (b:Nat)=>(b:Int)).map (.int .i64):=by simp[ints]
def Bn (w:World) (S:Nat→Prop) (v:Value) (rs:List (Nat×Nat)):Prop:=bE w S 2 v rs.length (iB rs)
theorem Bn.at {w:World} {S:Nat→Prop} {v:Value} {rs:List (Nat×Nat)} {ao:Option Addr} {n c:Nat} (h:Bn w S v rs) (hv:v= .slice ao n c) (i:Nat) (hi:i<rs.length):
  ∃b o,ao=some ⟨b,o,none⟩∧w.cell? ⟨b,o+i*2,none⟩=some (.int .i64 rs[i].1)∧w.cell? ⟨b,o+i*2+1,none⟩=some (.int .i64 rs[i].2):=by
 obtain⟨h1,h2⟩:=EM rs i hi
 obtain⟨ao',c',rfl,_,_,_,_,_,h6⟩:=h
 cases hv
 obtain⟨b,o,rfl,hc⟩:=h6 (i*2) _ h1
 obtain⟨b',o',e,hc'⟩:=h6 (i*2+1) _ h2
 cases e
 exact⟨b,o,rfl,hc,by rw[jU];exact hc'⟩
theorem Ed (lb size:Nat) (rs:List (Nat×Nat)) (lv:Value) (B:Nat) (S:Nat→Prop) (w:World) (h:ku w S B lb size rs lv) (hS:∀g,S g→g<w.heap.size) (ok:pM rs) (hl:(fu rs).length≤1000):
  Calls Tryz.prog 182 #[.pointer (some ⟨lb,0,none⟩)] w fun e w'=>∃v,e= .returned v∧aS w' S w.heap.size 3 1 v (fu rs).length (ints (fu rs))∧Below w.heap.size w w':=by
 obtain⟨ao,c,rfl,n0,m0,_,_⟩:=bE.form h.own.dD
 have hsl:=h.own.dD
 have c0:w.cell? ⟨lb,0,none⟩=some (.int .i64 size):=by simp[World.cell?,h.obj]
 have c1:w.cell? ⟨lb,1,none⟩=some (.slice ao rs.length c):=by simp[World.cell?,h.obj]
 have hlt:lb<w.heap.size:=(ah.1 h.obj).1
 have hrl:=ok.le
 have HOK:=af ok
 have HSL:=af hsl
 clear h hsl ok
 go_enter Tryz.func182,Tryz.ntmps182
 go_wp2_with fail
 go_loopw [3,5,6,12,18] (fun o _ _ i _ wr=>∃k:Nat,k≤rs.length∧i= .int .i64 k∧aS wr S w.heap.size 3 1 o (fu (rs.take k)).length (ints (fu (rs.take k)))∧Below w.heap.size w wr) (fun _ _ _ i _ _=>rs.length - (intOf i).toNat)
 case atStart=>exact⟨0,by omega,rfl,by rw[gF];exact aS.nil _ _ _ _ _,aQ _ _⟩
 case round=>
  obtain⟨k,hk,rfl,ho,hb⟩:=hrel
  have htl:=uT rs k
  obtain⟨F,hF⟩:∃F,Hid (F=fu (rs.take k)):=⟨_,af rfl⟩
  rw[←hF.out] at ho htl
  obtain⟨oo,oc,rfl,_,_,_,_⟩:=bE.form ho.dD
  by_cases hkl:k<rs.length
  ·have x1:(k:Int)<(rs.length:Int):=by omega
   obtain⟨pb,po,rfl,d1,d2⟩:=Bn.at HSL.out rfl k hkl
   have d1':=(hb.cell (p:=⟨pb,po+k*2,none⟩) (aF w _ d1)).trans d1
   have d2':=(hb.cell (p:=⟨pb,po+k*2+1,none⟩) (aF w _ d2)).trans d2
   have hpb:=aF wr _ d1'
   have HT:=af (Hu rs k hkl)
   have htl2:=uT rs (k+1)
   rw[HT.out,←hF.out,aC,sI] at htl2
   have hrk:=HOK.out rs[k] (bq hkl)
   obtain⟨f,hf⟩:∃f,f=rs[k].1:=⟨_,rfl⟩
   obtain⟨n,hn⟩:∃n,n=rs[k].2:=⟨_,rfl⟩
   have hrun:rs[k]=(f,n):=by rw[hf,hn]
   rw[←hf,←hn] at hrk
   rw[←hf] at d1'
   rw[←hn] at d2' htl2
   have HRUN:=af hrun
   clear hf hn hrun d1 d2
   obtain⟨wo,rfl⟩:∃x:World,x=wr:=⟨_,rfl⟩
   have hbA:=aI wo (.cells #[.int .i64 f,.int .i64 n] 249)
   have hA:(wo.alloc (.cells #[.int .i64 f,.int .i64 n] 249)).heap[wo.heap.size]? =some (.cells #[.int .i64 f,.int .i64 n] 249 (0,0)):=aM wo _
   go_wp2_with fail
   generalize hwA:wo.alloc (.cells #[.int .i64 f,.int .i64 n] 249)=wA at hbA hA ⊢
   have hqn:wo.heap.size<wA.heap.size:=(ah.1 hA).1
   go_loopw [3,6,18] (fun o _ i wk=>∃j:Nat,j≤n∧i= .int .i64 j∧aS wk S w.heap.size 3 1 o (F.length+j) (ints (F++vY (f,j)))∧Below w.heap.size w wk∧wk.heap[wo.heap.size]? =some (.cells #[.int .i64 f,.int .i64 n] 249 (0,0))) (fun _ _ i _=>n - (intOf i).toNat)
   case atStart=>exact⟨0,by omega,rfl,by simpa [vY] using ho.below hbA,hb.trans (hbA.mono hb.size),hA⟩
   case round=>
    obtain⟨j,hj,rfl,hoj,hbj,hAj⟩:=hrel
    obtain⟨qo,qc,rfl,_,_,_,_⟩:=bE.form hoj.dD
    have r0:wr.cell? ⟨wo.heap.size,0,none⟩=some (.int .i64 f):=by simp[World.cell?,hAj]
    have hAl:=(ah.1 hAj).1
    by_cases hjn:j<n
    ·have y1:(j:Int)<(n:Int):=by omega
     have HR:=af (Cj f j)
     have hS6:∀g,S g→g<wr.heap.size:=fun g hg=>ax (hS g hg) hbj.size
     have hbg:=hbj.size
     go_wp2_with (first
      |(at_builtin;go_must ((refine dK rfl (.tmp 21) (.tmp 26) 151 151 rfl S w.heap.size 3 1 8 _ Tryz.underlying151 gV rfl (.slice qo (F.length+j) qc) _ _ rfl (hoj.below (aI _ _)) _ 1 _ rfl (gM [.int .i64 ((f:Int)+(j:Int))] _ 1 1 1 (by simp) Tryz.underlying151 rfl ?_) (fD hS6 _) ?_ ?_ ?_ ?_);(focus (simp[Value.oneCell']));(focus (simp only[aT];omega));(focus (unfold maxLen;omega));(focus omega);intro ao1 c1 w1 hown1 hk1 hb1 hd1)))
     go_roundw
     case rel=>
      have hne:(Value.slice qo (F.length+j) qc).ownBlock≠some wo.heap.size:=hoj.ne hAj (by decide)
      refine⟨j+1,by omega,by go_num,?_,(hbj.trans (aI wr _|>.mono hbj.size)).trans hb1,?_⟩
      ·rw[HR.out,←aL,FH]
       have e:ints [f+j]=[.int .i64 ((f:Int)+(j:Int))]:=by simp[ints]
       rw[e]
       exact hown1
      ·exact(hk1.block wo.heap.size (by simp only[aT];omega) hne).trans ((oI _ _ _ (by omega)).trans hAj)
     case measure=>simp[intOf];omega
    ·have hjn2:j=n:=by omega
     subst hjn2
     go_wp2_with fail
     go_roundw
     case rel=>exact⟨k+1,by omega,by go_num,by rw[HT.out,HRUN.out,←hF.out,aC,sI];exact hoj,hbj⟩
     case measure=>simp[intOf];omega
  ·have:k=rs.length:=by omega
   subst this
   rw[bU] at hF
   have x1:¬(rs.length:Int)<(rs.length:Int):=by omega
   go_wp2_with fail
   go_ret
   exact⟨_,rfl,by rw[←hF.out];exact ho,hb⟩
theorem L9 (n:Nat):((UInt8.ofNat n).toNat:Int)=IntKind.u8.wrap (n:Int):=by
 rw[eG,yC];omega
theorem Qn (n:Nat):IntKind.u8.wrap ((n/256:Nat):Int)=IntKind.u8.wrap ((n:Int)/256):=by
 congr 1
def uY (size:Nat) (rs:List (Nat×Nat)) (len:Nat):List UInt8:=[177,UInt8.ofNat size,UInt8.ofNat (size/256),UInt8.ofNat len]++rs.flatMap qp
theorem DW (size len:Nat):aJ (uY size [] len)=[.int .u8 177,.int .u8 (IntKind.u8.wrap (size:Int)),.int .u8 (IntKind.u8.wrap ((size:Int)/256)),.int .u8 (IntKind.u8.wrap (len:Int))]:=by
 simp only[uY,uO,dG,aJ,cO,iw,L9,Qn]
 rfl
theorem II (size len:Nat) (rs:List (Nat×Nat)) (k:Nat) (h:k<rs.length) (hf:rs[k].1<65536) (hn:rs[k].2<256):aJ (uY size (rs.take (k+1)) len)=aJ (uY size (rs.take k) len)++[.int .u8 ((rs[k].1:Int)%256),.int .u8 ((rs[k].1:Int)/256),.int .u8 (rs[k].2:Int)]:=by
 have e:uY size (rs.take (k+1)) len=uY size (rs.take k) len++qp rs[k]:=by
  unfold uY
  rw[aK h,jB];simp
 rw[e,gm]
 simp only[qp,aJ,cO,iw,L9,yC]
 have e1:((rs[k].1/256:Nat):Int)%256=(rs[k].1:Int)/256:=by omega
 have e2:(rs[k].2:Int)%256=(rs[k].2:Int):=by omega
 rw[e1,e2]
theorem Px (lb size:Nat) (rs:List (Nat×Nat)) (lv:Value) (B:Nat) (S:Nat→Prop) (w:World) (h:ku w S B lb size rs lv) (hS:∀g,S g→g<w.heap.size) (hsz:size≤65535) (ok:pM rs) (hl:rs.length≤1000):
  Calls Tryz.prog 106 #[.pointer (some ⟨lb,0,none⟩)] w fun e w'=>∃v,e= .returned v∧aS w' S w.heap.size 5 1 v (encR size rs).length (aJ (encR size rs))∧Below w.heap.size w w':=by
 obtain⟨ao,c,rfl,n0,m0,_,_⟩:=bE.form h.own.dD
 have hsl:=h.own.dD
 have c0:w.cell? ⟨lb,0,none⟩=some (.int .i64 size):=by simp[World.cell?,h.obj]
 have c1:w.cell? ⟨lb,1,none⟩=some (.slice ao rs.length c):=by simp[World.cell?,h.obj]
 have hlt:lb<w.heap.size:=(ah.1 h.obj).1
 have HOK:=af ok
 have HSL:=af hsl
 have HC:=af (show ∀W:World,Below w.heap.size w W→W.cell? ⟨lb,0,none⟩=some (.int .i64 size)∧W.cell? ⟨lb,1,none⟩=some (.slice ao rs.length c)∧lb<W.heap.size from fun W hW=>
  ⟨(hW.cell (p:=⟨lb,0,none⟩) hlt).trans c0,(hW.cell (p:=⟨lb,1,none⟩) hlt).trans c1,ax hlt hW.size⟩)
 clear h hsl ok
 have q1:IntKind.i64.wrap ((size:Int)/256)=((size/256:Nat):Int):=by rw[aR _ (by omega)];omega
 go_enter Tryz.func106,Tryz.ntmps106
 go_wp2_with fail
 refine aP (fun W=>Below w.heap.size w W) (fun i=> !([17].contains i)) [0,1,2,3,4,5,6,7,8,9,10,11,12,13,14,15,16,17,18] rfl (by kernel_rfl) ((aQ _ w).drew) ?_
 repeat ((refine bO (v:= ?_) rfl rfl (fun _ _ _ h=>h) rfl (fun W hW=> ?_) ?_);rotate_left;(focus ((try dsimp only at hW);obtain⟨r0,r1,r2⟩:=HC.out W hW;(go_simp;first|done|with_reducible rfl)));(try simp only[Act.put,aj,au,ak]))
 refine dw rfl rfl rfl ?_;intro K hK;go_simp
 have hb0:Below w.heap.size w (w.alloc (.cells #[.int .u8 177,.int .u8 (IntKind.u8.wrap (size:Int)),.int .u8 (IntKind.u8.wrap ((size:Int)/256)),.int .u8 (IntKind.u8.wrap (rs.length:Int))] 5)).drew:=(aI w _).drew
 have hn0:aS (w.alloc (.cells #[.int .u8 177,.int .u8 (IntKind.u8.wrap (size:Int)),.int .u8 (IntKind.u8.wrap ((size:Int)/256)),.int .u8 (IntKind.u8.wrap (rs.length:Int))] 5)).drew S w.heap.size 5 1 (.slice (some ⟨w.heap.size,0,none⟩) 4 4) 4 (aJ (uY size (rs.take 0) rs.length)):=by
  rw[gF,DW]
  exact(mO (w:=w) (S:=S) (B:=w.heap.size) (e:=5) (k:=1) _ 4 4 rfl rfl (aG _) (by simp[maxLen]) (aG _) hS).drew
 generalize (w.alloc (.cells #[.int .u8 177,.int .u8 (IntKind.u8.wrap (size:Int)),.int .u8 (IntKind.u8.wrap ((size:Int)/256)),.int .u8 (IntKind.u8.wrap (rs.length:Int))] 5)).drew=w1 at hb0 hn0 ⊢
 refine hK.out _ _ hb0 ?_
 repeat ((refine bO (v:= ?_) rfl rfl (fun _ _ _ h=>h) rfl (fun W hW=> ?_) ?_);rotate_left;(focus ((try dsimp only at hW);obtain⟨r0,r1,r2⟩:=HC.out W hW;(go_simp;first|done|with_reducible rfl)));(try simp only[Act.put,aj,au,ak]))
 refine bR ?_
 obtain⟨s0,s1,s2⟩:=HC.out _ hb0
 clear q1
 generalize IntKind.u8.wrap (size:Int)=z1
 generalize IntKind.u8.wrap ((size:Int)/256)=z2
 generalize IntKind.u8.wrap (rs.length:Int)=z3
 generalize (size:Int)/256=z4
 go_wp2_with fail
 go_loopw [3,5,29] (fun v _ i wr=>∃k:Nat,k≤rs.length∧i= .int .i64 k∧aS wr S w.heap.size 5 1 v (4+3*k) (aJ (uY size (rs.take k) rs.length))∧Below w.heap.size w wr) (fun _ _ i _=>rs.length - (intOf i).toNat)
 case atStart=>exact⟨0,by omega,rfl,hn0,hb0⟩
 case round=>
  obtain⟨k,hk,rfl,ho,hb⟩:=hrel
  obtain⟨oo,oc,rfl,_,_,_,_⟩:=bE.form ho.dD
  by_cases hkl:k<rs.length
  ·have x1:(k:Int)<(rs.length:Int):=by omega
   obtain⟨pb,po,rfl,d1,d2⟩:=Bn.at HSL.out rfl k hkl
   have d1':=(hb.cell (p:=⟨pb,po+k*2,none⟩) (aF w _ d1)).trans d1
   have d2':=(hb.cell (p:=⟨pb,po+k*2+1,none⟩) (aF w _ d2)).trans d2
   have hpb:=aF wr _ d1'
   have hS6:∀g,S g→g<wr.heap.size:=fun g hg=>ax (hS g hg) hb.size
   have hrk:=HOK.out rs[k] (bq hkl)
   have HT:=af (II size rs.length rs k hkl (by omega) (by omega))
   clear d1 d2 s0 s1
   have hbg:=hb.size
   go_wp2_with (first
    |(at_builtin;go_must ((refine dK rfl (.tmp 33) (.tmp 44) 101 101 rfl S w.heap.size 5 1 1 (.int .u8 0) Tryz.underlying101 jq rfl (.slice oo (4+3*k) oc) _ _ rfl (ho.below (fI _ _ _)) _ 3 _ rfl (gM [_,_,_] _ 1 3 3 (by simp) Tryz.underlying101 rfl ?_) (fD (fD hS6 _) _) ?_ ?_ ?_ ?_);(focus (simp[Value.oneCell']));(focus (simp only[aT];omega));(focus (unfold maxLen;omega));(focus omega);intro ao1 c1 w1 hown1 hk1 hb1 hd1)))
   go_roundw
   case rel=>exact⟨k+1,by omega,by go_num,by rw[HT.out];exact hown1,(hb.trans (fI wr _ _|>.mono hb.size)).trans hb1⟩
   case measure=>simp[intOf];omega
  ·have:k=rs.length:=by omega
   subst this
   rw[bU] at ho
   have he:uY size rs rs.length=encR size rs:=rfl
   have hle:=yO size rs
   have x1:¬(rs.length:Int)<(rs.length:Int):=by omega
   rw[he] at ho
   have HLE:=af hle;clear hle he
   go_wp2_with fail
   go_ret
   exact⟨_,rfl,by rw[HLE.out];exact ho,hb⟩
theorem wP:(Tryz.prog.info? 249).map (fun i=>(i.zero,i.size,i.bytes))=some (some (.agg #[.int .i64 0,.int .i64 0]),2,16):=by kernel_rfl
theorem LA (rs:List (Nat×Nat)) (m b:Nat) (hm:rs.length=m+1) (hm':m<rs.length) (h:¬(rs[m].1+rs[m].2=b∧rs[m].2<255)):yA rs b=rs++[(b,1)]:=by
 have hl:rs.getLast? =some rs[m]:=by rw[List.getLast?_eq_getElem?,show rs.length - 1=m by omega,aZ (by omega)]
 unfold yA
 rw[hl]
 simp only
 rw[if_neg h]
theorem Lx (rs:List (Nat×Nat)) (m b:Nat) (hm:rs.length=m+1) (hm':m<rs.length) (h:rs[m].1+rs[m].2=b∧rs[m].2<255):yA rs b=rs.set m (rs[m].1,rs[m].2+1):=by
 have hl:rs.getLast? =some rs[m]:=by rw[List.getLast?_eq_getElem?,show rs.length - 1=m by omega,aZ (by omega)]
 unfold yA
 rw[hl]
 simp only
 rw[if_pos h]
 apply Bv
 intro i
 rw[List.getElem?_set]
 by_cases hi:m=i
 ·subst hi
  rw[if_pos rfl,if_pos (by omega),bV (by simp;omega)]
  simp[hm]
 ·rw[if_neg hi]
  rcases iJ i m with h1|h1
  ·rw[eP (by simp;omega),List.getElem?_dropLast,if_pos (by omega)]
  ·rw[gy (by simp;omega),gy (by omega)]
theorem Du (rs:List (Nat×Nat)) (m n:Nat) (hm:m<rs.length):(iB rs).set (m*2+1) (.int .i64 n)=iB (rs.set m (rs[m].1,n)):=by
 induction rs generalizing m with
 |nil=>simp at hm
 |cons r rs ih=>
  cases m with
  |zero=>rfl
  |succ m=>
   have:=ih m (by simpa using hm)
   rw[show (m+1)*2+1=(m*2+1)+2 by omega]
   show [Value.int .i64 (r.1:Int),Value.int .i64 (r.2:Int)]++(iB rs).set (m*2+1) (.int .i64 n)=_
   rw[this];rfl
theorem ku.keep {w w':World} {S:Nat→Prop} {B lb size:Nat} {rs:List (Nat×Nat)} {v:Value} (h:ku w S B lb size rs v) (hb:∀g,g=lb∨v.ownBlock=some g→w'.heap[g]? =w.heap[g]?):ku w' S B lb size rs v:=
 ⟨(hb lb (.inl rfl)).trans h.obj,h.own.keep fun g hg _ hs=>⟨hb g (.inr hg),hs⟩,h.lo,h.ns⟩
theorem zq {w w':World} {S:Nat→Prop} {B lb size n:Nat} {rs':List (Nat×Nat)} {v v':Value} {xs:List Value} (hobj:w.heap[lb]? =some (.cells #[.int .i64 size,v] 179 (0,0))) (hown:aS w S B 249 2 v n xs) (lo:B≤lb) (ns:¬S lb) (hk:Keep (fun g=>v.ownBlock=some g) w w') (hb:Below B w w') (ho:aS w' S B 249 2 v' rs'.length (iB rs')):
  ku (w'.setCell ⟨lb,1,none⟩ v') S B lb size rs' v'∧Below B w (w'.setCell ⟨lb,1,none⟩ v'):=by
 have hlt:=(ah.1 hobj).1
 have hn:w'.heap[lb]? =_:=(hk.block lb hlt (hown.ne hobj (by decide))).trans hobj
 have hk5:Keep (· =lb) w' (w'.setCell ⟨lb,1,none⟩ v'):=Keep.setCell (M:=(· =lb)) (p:=⟨lb,1,none⟩) (Keep.refl _ _) (.inr rfl) _
 exact⟨⟨by simp[World.setCell,aW,hn],ho.keep fun g hg hl hs=>⟨hk5.block g hl (fun e=>ho.ne hn (by decide) (by rw[hg,e])),hs⟩,lo,ns⟩,hb.setCell (by exact lo) _⟩
theorem Sw (lb size b:Nat) (rs:List (Nat×Nat)) (lv:Value) (B:Nat) (S:Nat→Prop) (w:World) (h:ku w S B lb size rs lv) (hS:∀g,S g→g<w.heap.size) (ok:pM rs) (hl:rs.length≤1000) (hb:b≤65535):
  Calls Tryz.prog 105 #[.pointer (some ⟨lb,0,none⟩),.int .i64 b] w fun e w'=>e= .returned (.tuple #[])∧(∃v,ku w' S B lb size (yA rs b) v)∧Below B w w':=by
 obtain⟨ao,c,rfl,n0,m0,_,_⟩:=bE.form h.own.dD
 have hobj:=h.obj
 have hown:=h.own
 have hlo:=h.lo
 have hns:=h.ns
 have hlt:lb<w.heap.size:=(ah.1 h.obj).1
 have HOK:=af ok
 have hBw:B≤w.heap.size:=aH h.lo (gP hlt)
 have HS:=af hS
 clear h ok hS
 obtain⟨N,hN⟩:∃N,rs.length=N:=⟨_,rfl⟩
 rw[hN] at hobj hown n0 hl
 have c1:w.cell? ⟨lb,1,none⟩=some (.slice ao N c):=by simp[World.cell?,hobj]
 have HSL:=af hown.dD
 have HOW:=af hown
 have HOB:=af hobj
 have HRC:=af (show iB (rs++[(b,1)])=iB rs++[.int .i64 b,.int .i64 1] by rw[rU];rfl)
 have HLEN:=af hN
 clear hobj hown
 cases N with
 |zero=>
  have HADD:=af (show yA rs b=rs++[(b,1)] by rw[aU hN];rfl)
  clear hN
  go_enter Tryz.func105,Tryz.ntmps105
  go_wp2_with fail
  go_quiet (fail)
  obtain⟨w1,HW1⟩:∃w1:World,Hid (w.drewN nq=w1):=⟨_,af rfl⟩
  have hb1:Below w.heap.size w w1:=by rw[←HW1.out];exact Oq (aQ _ _) _
  rw[HW1.out]
  have HO1:=af (HOW.out.below hb1)
  have HB1:=af ((hb1.block lb hlt).trans HOB.out)
  have e0:w1.cell? ⟨lb,1,none⟩=some (.slice ao 0 c):=(hb1.cell (p:=⟨lb,1,none⟩) hlt).trans c1
  have ef:w1.frozen? ⟨lb,1,none⟩=false:=by have:=HB1.out;simp[World.frozen?,this]
  have el:lb<w1.heap.size:=ax hlt hb1.size
  have hS1:∀g,S g→g<w1.heap.size:=fun g hg=>ax (HS.out g hg) hb1.size
  have hBg:=aH hBw hb1.size
  clear c1
  go_wp2_with (first
   |(at_builtin;go_must ((refine dK rfl (.tmp 60) (.tmp 63) 177 177 rfl S B 249 2 16 _ Tryz.underlying177 wP rfl (.slice ao 0 c) _ _ rfl (HO1.out.below (aI _ _)) _ 1 _ rfl (gM [.int .i64 b,.int .i64 1] _ 2 1 1 (by simp) Tryz.underlying177 rfl ?_) (fD hS1 _) ?_ ?_ ?_ ?_);(focus (simp[Value.oneCell']));(focus (simp only[aT];omega));(focus (unfold maxLen;omega));(focus omega);intro ao3 c3 w3 hown3 hk3 hb3 hd3;refine Stop.of ?_)))
  refine Stop.on ?_
  have HO2:=HO1.out.below (aI w1 (.cells #[.int .i64 b,.int .i64 1] 249))
  have HB2:=((aI w1 (.cells #[.int .i64 b,.int .i64 1] 249)).block lb el).trans HB1.out
  have hn3:w3.heap[lb]? =_:=(hk3.block lb (ah.1 HB2).1 (HO2.ne HB2 (by decide))).trans HB2
  have g0:w3.cell? ⟨lb,1,none⟩=some (.slice ao 0 c):=by have:=hn3;simp only[World.cell?,this];rfl
  have gf:w3.frozen? ⟨lb,1,none⟩=false:=by simp[World.frozen?,hn3]
  have gl:=(ah.1 hn3).1
  have HPUT:=af (zq (rs':=rs++[(b,1)]) HB2 HO2 hlo hns hk3 hb3 (by rw[aC,HLEN.out,HRC.out];exact hown3))
  go_wp2_with fail
  go_end0
  refine⟨rfl,⟨_,by rw[HADD.out];exact HPUT.out.1⟩,?_⟩
  exact(hb1.mono hBw).trans ((aI w1 _|>.mono hBg).trans HPUT.out.2)
 |succ m=>
  have hm:m<rs.length:=by omega
  obtain⟨pb,po,rfl,d1,d2⟩:=Bn.at (rs:=rs) (w:=w) (S:=S) (by have:=HSL.out;rw[←hN] at this;exact this) rfl m hm
  have hrk:=HOK.out rs[m] (bq hm)
  obtain⟨gg,cc,e,_,_,hBpb,_⟩:=HOW.out.AP (by omega)
  cases e
  rw[eH] at d1 d2
  obtain⟨f,hf⟩:∃f,f=rs[m].1:=⟨_,rfl⟩
  obtain⟨n,hn⟩:∃n,n=rs[m].2:=⟨_,rfl⟩
  rw[←hf,←hn] at hrk
  rw[←hf] at d1
  rw[←hn] at d2
  have hpb:=aF w _ d1
  have hpb':pb<w.heap.size:=hpb
  by_cases hc:f+n=b∧n<255
  ·have HADD:=af (show yA rs b=rs.set m (f,n+1) by rw[Lx rs m b hN hm (by rw[←hf,←hn];exact hc),←hf,←hn])
   have HRS:=af (show (iB rs).set (m*2+1) (.int .i64 ((n+1:Nat):Int))=iB (rs.set m (f,n+1)) by rw[Du rs m (n+1) hm,←hf])
   have h1':(f:Int)+(n:Int)=(b:Int):=by omega
   have h2':(n:Int)<255:=by omega
   obtain⟨cur,hrow,hcl,hct,_,hSpb,hcc,hccm⟩:=HOW.out.row
   have HROW:=af (ay hrow (ay hcl (ay hct (ay hSpb (ay hcc hccm)))))
   have hfz:=hrow.frozen (m*2+1)
   clear hf hn hN hc hrow hcl hct hSpb hcc hccm
   go_enter Tryz.func105,Tryz.ntmps105
   go_wp2_with fail
   go_quiet (fail)
   obtain⟨w1,HW1⟩:∃w1:World,Hid (w.drewN nq=w1):=⟨_,af rfl⟩
   have hb1:Below w.heap.size w w1:=by rw[←HW1.out];exact Oq (aQ _ _) _
   rw[HW1.out]
   have hR1:Row w1 pb 249 cur:=(hb1.block pb hpb').trans HROW.out.1
   have HO1:=af (HOW.out.below hb1)
   have HB1:=af ((hb1.block lb hlt).trans HOB.out)
   have e0:w1.cell? ⟨lb,1,none⟩=some (.slice (some ⟨pb,0,none⟩) (m+1) c):=(hb1.cell (p:=⟨lb,1,none⟩) hlt).trans c1
   have e1:w1.cell? ⟨pb,m*2+1,none⟩=some (.int .i64 n):=(hb1.cell (p:=⟨pb,m*2+1,none⟩) hpb').trans d2
   have ef:w1.frozen? ⟨pb,m*2+1,none⟩=false:=hR1.frozen _
   have el:lb<w1.heap.size:=ax hlt hb1.size
   have el2:pb<w1.heap.size:=ax hpb' hb1.size
   have HR1:=af hR1
   clear c1 d1 d2 hfz hR1
   go_wp2_with fail
   refine mK (zk rfl _ _ _) rfl ?_
   have hk5:Keep (· =pb) w1 (w1.setCell ⟨pb,m*2+1,none⟩ (.int .i64 ((n:Int)+1))):=(Keep.refl (· =pb) _).setCell (p:=⟨pb,m*2+1,none⟩) (.inr rfl) _
   have hlp:¬lb=pb:=fun e=>by subst e;exact HO1.out.ne HB1.out (by decide) rfl
   refine⟨rfl,⟨_,by
    rw[HADD.out]
    refine⟨(hk5.block lb el hlp).trans HB1.out,?_,hlo,hns⟩
    have hr':Row (w1.setCell ⟨pb,m*2+1,none⟩ (.int .i64 ((n:Int)+1))) pb 249 (cur.set (m*2+1) (.int .i64 ((n:Int)+1))):=by
     have:=HR1.out
     unfold Row at this ⊢
     simp[World.setCell,aW,this]
    have:=hr'.own (S:=S) (B:=B) (k:=2) (cap:=c) (m+1) (by simpa using HROW.out.2.1) hBpb HROW.out.2.2.2.1 HROW.out.2.2.2.2.1 HROW.out.2.2.2.2.2
    rw[List.take_set,HROW.out.2.2.1] at this
    have e9:(iB rs).set (m*2+1) (.int .i64 ((n:Int)+1))=iB (rs.set m (f,n+1)):=HRS.out
    rw[e9] at this
    rw[List.length_set,HLEN.out]
    exact this⟩,?_⟩
   exact(hb1.mono hBw).trans (hk5.gG (aH hBw hb1.size) (fun i hi e=>absurd hBpb (by rw[←e];exact fq.2 hi)))
  ·have HADD:=af (show yA rs b=rs++[(b,1)] from LA rs m b hN hm (by rw[←hf,←hn];exact hc))
   have hsum:((f:Int)+(n:Int)==(b:Int))=decide (f+n=b):=by
    by_cases h:f+n=b
    ·rw[bT h];simp;omega
    ·rw[bD h];simp;omega
   clear hf hn hN
   have e2:w.cell? ⟨pb,m*2,none⟩=some (.int .i64 f):=d1
   go_enter Tryz.func105,Tryz.ntmps105
   go_wp2_with fail
   by_cases h1:f+n=b
   ·have h2:¬n<255:=fun e=>hc ⟨h1,e⟩
    have h2':decide ((n:Int)<255)=false:=bD (by omega)
    have h1':(f:Int)+(n:Int)=(b:Int):=by omega
    go_quiet (fail)
    obtain⟨w1,HW1⟩:∃w1:World,Hid (w.drewN nq=w1):=⟨_,af rfl⟩
    have hb1:Below w.heap.size w w1:=by rw[←HW1.out];exact Oq (aQ _ _) _
    rw[HW1.out]
    have HO1:=af (HOW.out.below hb1)
    have HB1:=af ((hb1.block lb hlt).trans HOB.out)
    have e0:w1.cell? ⟨lb,1,none⟩=some (.slice (some ⟨pb,0,none⟩) (m+1) c):=(hb1.cell (p:=⟨lb,1,none⟩) hlt).trans c1
    have ef:w1.frozen? ⟨lb,1,none⟩=false:=by have:=HB1.out;simp[World.frozen?,this]
    have el:lb<w1.heap.size:=ax hlt hb1.size
    have hS1:∀g,S g→g<w1.heap.size:=fun g hg=>ax (HS.out g hg) hb1.size
    have hBg:=aH hBw hb1.size
    clear c1
    go_wp2_with (first
     |(at_builtin;go_must ((refine dK rfl (.tmp 60) (.tmp 63) 177 177 rfl S B 249 2 16 _ Tryz.underlying177 wP rfl (.slice (some ⟨pb,0,none⟩) (m+1) c) _ _ rfl (HO1.out.below (aI _ _)) _ 1 _ rfl (gM [.int .i64 b,.int .i64 1] _ 2 1 1 (by simp) Tryz.underlying177 rfl ?_) (fD hS1 _) ?_ ?_ ?_ ?_);(focus (simp[Value.oneCell']));(focus (simp only[aT];omega));(focus (unfold maxLen;omega));(focus omega);intro ao3 c3 w3 hown3 hk3 hb3 hd3;refine Stop.of ?_)))
    refine Stop.on ?_
    have HO2:=HO1.out.below (aI w1 (.cells #[.int .i64 b,.int .i64 1] 249))
    have HB2:=((aI w1 (.cells #[.int .i64 b,.int .i64 1] 249)).block lb el).trans HB1.out
    have hn3:w3.heap[lb]? =_:=(hk3.block lb (ah.1 HB2).1 (HO2.ne HB2 (by decide))).trans HB2
    have g0:w3.cell? ⟨lb,1,none⟩=some (.slice (some ⟨pb,0,none⟩) (m+1) c):=by have:=hn3;simp only[World.cell?,this];rfl
    have gf:w3.frozen? ⟨lb,1,none⟩=false:=by simp[World.frozen?,hn3]
    have gl:=(ah.1 hn3).1
    have HPUT:=af (zq (rs':=rs++[(b,1)]) HB2 HO2 hlo hns hk3 hb3 (by rw[aC,HLEN.out,HRC.out];exact hown3))
    go_wp2_with fail
    go_end0
    refine⟨rfl,⟨_,by rw[HADD.out];exact HPUT.out.1⟩,?_⟩
    exact(hb1.mono hBw).trans ((aI w1 _|>.mono hBg).trans HPUT.out.2)
   ·have h1':¬(f:Int)+(n:Int)=(b:Int):=by omega
    go_quiet (fail)
    obtain⟨w1,HW1⟩:∃w1:World,Hid (w.drewN nq=w1):=⟨_,af rfl⟩
    have hb1:Below w.heap.size w w1:=by rw[←HW1.out];exact Oq (aQ _ _) _
    rw[HW1.out]
    have HO1:=af (HOW.out.below hb1)
    have HB1:=af ((hb1.block lb hlt).trans HOB.out)
    have e0:w1.cell? ⟨lb,1,none⟩=some (.slice (some ⟨pb,0,none⟩) (m+1) c):=(hb1.cell (p:=⟨lb,1,none⟩) hlt).trans c1
    have ef:w1.frozen? ⟨lb,1,none⟩=false:=by have:=HB1.out;simp[World.frozen?,this]
    have el:lb<w1.heap.size:=ax hlt hb1.size
    have hS1:∀g,S g→g<w1.heap.size:=fun g hg=>ax (HS.out g hg) hb1.size
    have hBg:=aH hBw hb1.size
    clear c1
    go_wp2_with (first
     |(at_builtin;go_must ((refine dK rfl (.tmp 60) (.tmp 63) 177 177 rfl S B 249 2 16 _ Tryz.underlying177 wP rfl (.slice (some ⟨pb,0,none⟩) (m+1) c) _ _ rfl (HO1.out.below (aI _ _)) _ 1 _ rfl (gM [.int .i64 b,.int .i64 1] _ 2 1 1 (by simp) Tryz.underlying177 rfl ?_) (fD hS1 _) ?_ ?_ ?_ ?_);(focus (simp[Value.oneCell']));(focus (simp only[aT];omega));(focus (unfold maxLen;omega));(focus omega);intro ao3 c3 w3 hown3 hk3 hb3 hd3;refine Stop.of ?_)))
    refine Stop.on ?_
    have HO2:=HO1.out.below (aI w1 (.cells #[.int .i64 b,.int .i64 1] 249))
    have HB2:=((aI w1 (.cells #[.int .i64 b,.int .i64 1] 249)).block lb el).trans HB1.out
    have hn3:w3.heap[lb]? =_:=(hk3.block lb (ah.1 HB2).1 (HO2.ne HB2 (by decide))).trans HB2
    have g0:w3.cell? ⟨lb,1,none⟩=some (.slice (some ⟨pb,0,none⟩) (m+1) c):=by have:=hn3;simp only[World.cell?,this];rfl
    have gf:w3.frozen? ⟨lb,1,none⟩=false:=by simp[World.frozen?,hn3]
    have gl:=(ah.1 hn3).1
    have HPUT:=af (zq (rs':=rs++[(b,1)]) HB2 HO2 hlo hns hk3 hb3 (by rw[aC,HLEN.out,HRC.out];exact hown3))
    go_wp2_with fail
    go_end0
    refine⟨rfl,⟨_,by rw[HADD.out];exact HPUT.out.1⟩,?_⟩
    exact(hb1.mono hBw).trans ((aI w1 _|>.mono hBg).trans HPUT.out.2)
theorem Qy (d:Nat) (σ:Dk) (Sd:Nat→Prop) (n:Int) (w:World) (h:qO w Sd d σ):
  Calls Tryz.prog 80 #[.pointer (some ⟨d,0,none⟩),.int .i64 n] w fun e w'=>e= .returned (.int .i64 (if n<2∨(σ.n:Int)≤n then 1 else 0))∧w'=w:=by
 have HS:=af (F6 d σ Sd w h)
 clear h
 by_cases h1:n<2
 ·rw[if_pos (.inl h1)]
  go_enter Tryz.func80,Tryz.ntmps80
  go_wp2_with fail
  go_ret
  exact⟨rfl,rfl⟩
 ·by_cases h2:(σ.n:Int)≤n
  ·rw[if_pos (.inr h2)]
   go_enter Tryz.func80,Tryz.ntmps80
   go_wp2_with (first
    |(go_at_call 79;go_must (refine HS.out.mono ?_;rintro e w1 ⟨rfl,hw1⟩;subst w1)))
   go_ret
   exact⟨rfl,rfl⟩
  ·rw[if_neg (by omega)]
   go_enter Tryz.func80,Tryz.ntmps80
   go_wp2_with (first
    |(go_at_call 79;go_must (refine HS.out.mono ?_;rintro e w1 ⟨rfl,hw1⟩;subst w1)))
   go_ret
   exact⟨rfl,rfl⟩
def Dk.sF:Nat→Nat→Dk→Dk
 |0,_,σ=>σ
 |k+1,i,σ=>Dk.sF k (i+1) (σ.put i [])
theorem Dk.xL:∀(k i:Nat) (σ:Dk),Dk.sF (k+1) i σ=(Dk.sF k i σ).put (i+k) []
 |0,i,σ=>rfl
 |k+1,i,σ=>by
  show Dk.sF (k+1) (i+1) (σ.put i [])=_
  rw[Dk.xL k (i+1)]
  show (Dk.sF k (i+1) (σ.put i [])).put (i+1+k) []=(Dk.sF k (i+1) (σ.put i [])).put (i+(k+1)) []
  rw[show i+1+k=i+(k+1) by omega]
theorem Dk.xM:∀(k i:Nat) (σ:Dk),(Dk.sF k i σ).n=σ.n
 |0,_,_=>rfl
 |k+1,i,σ=>(Dk.xM k (i+1) (σ.put i [])).trans rfl
theorem Dk.ul:∀(k i:Nat) (σ:Dk),σ.nQ→(Dk.sF k i σ).nQ
 |0,_,_,h=>h
 |k+1,i,σ,h=>Dk.ul k (i+1) (σ.put i []) (h.put i [])
theorem Dk.vB:∀(k i:Nat) (σ:Dk),(Dk.sF k i σ).waits.length=σ.waits.length+k
 |0,_,_=>rfl
 |k+1,i,σ=>by
  show (Dk.sF k (i+1) (σ.put i [])).waits.length=_
  rw[Dk.vB k (i+1)]
  simp[Dk.put]
  omega
def Pg.new (n:Nat):Pg:=⟨n,n - 1,Im.none,false⟩
theorem Ie {w:World} {Sd Sl:Nat→Prop} {lg d:Nat} {σ:Dk} {l:Lg} (n:Nat) (h:jh w Sd Sl lg d σ l) (hf:l.frm=0) (hn:l.n=n) (hfit:n<σ.n) (h2:2≤n):
  jN ((w.alloc (.map #[] 0)).alloc (.cells #[.pointer (some ⟨d,0,none⟩),.pointer (some ⟨lg,0,none⟩),.int .i64 n,.int .i64 ((n - 1:Nat):Int),.map (some w.heap.size),.pointer none,.bool false] 144)) (Three Sd Sl (fun g=>g=w.heap.size∨g=w.heap.size+1)) (w.heap.size+1) d σ l (Pg.new n) (.pointer none)∧
  Step (fun g=>Sd g∨Sl g) (Three Sd Sl (fun g=>g=w.heap.size∨g=w.heap.size+1)) w ((w.alloc (.map #[] 0)).alloc (.cells #[.pointer (some ⟨d,0,none⟩),.pointer (some ⟨lg,0,none⟩),.int .i64 n,.int .i64 ((n - 1:Nat):Int),.map (some w.heap.size),.pointer none,.bool false] 144)):=by
 obtain⟨cs,hcs⟩:∃cs:Array Value,cs=#[.pointer (some ⟨d,0,none⟩),.pointer (some ⟨lg,0,none⟩),.int .i64 n,.int .i64 ((n - 1:Nat):Int),.map (some w.heap.size),.pointer none,.bool false]:=⟨_,rfl⟩
 rw[←hcs]
 have hb:Below w.heap.size w ((w.alloc (.map #[] 0)).alloc (.cells cs 144)):=fI w _ _
 have hm:kz ((w.alloc (.map #[] 0)).alloc (.cells cs 144)) w.heap.size Im.none:=(kz.none w).block (oI _ _ _ (by simp))
 have ho:((w.alloc (.map #[] 0)).alloc (.cells cs 144)).heap[w.heap.size+1]? =some (.cells cs 144 (0,0)):=by
  have:=aM (w.alloc (.map #[] 0)) (.cells cs 144)
  rwa [aT] at this
 have hs:((w.alloc (.map #[] 0)).alloc (.cells cs 144)).heap.size=w.heap.size+2:=by simp
 have hdl:∀g,Sd g→g<w.heap.size:=h.dk.sub
 have hll:∀g,Sl g→g<w.heap.size:=h.lg.sub
 refine⟨⟨Sd,Sl,_,lg,w.heap.size,⟨h.below hb,⟨hf,hn.symm,?_,by rw[hn];exact hfit,Im.Ok.none _⟩,fun g hg=> ?_,fun g hg e=> ?_,fun g hg e=> ?_,.inr rfl,.inl rfl,?_,hm⟩,fun _=>Iff.rfl⟩,(Keep.of_below hb _),fun g hg=> ?_⟩
 ·show n - 1+1=l.n;omega
 ·omega
 ·have:=hdl g e;omega
 ·have:=hll g e;omega
 ·rw[ho,hcs];rfl
 ·rcases hg with hg|hg|hg
  ·exact .inl (.inl hg)
  ·exact .inl (.inr hg)
  ·right;omega
theorem Rp (d:Nat) (σ:Dk) (Sd:Nat→Prop) (n:Nat) (w:World) (h:qO w Sd d σ) (hf:σ.nQ) (h1:2≤n) (h2:n<σ.n) (hcap:σ.waits.length≤50000):
  Calls Tryz.prog 51 #[.pointer (some ⟨d,0,none⟩),.int .i64 n] w fun e w'=>∃pg S',e= .returned (.tuple #[.pointer (some ⟨pg,0,none⟩),.int .i64 0])∧
   jN w' S' pg d (((Dk.sF (σ.n - n) n σ).flush.put 0 (Lg.new 0 n).kY).flush) (Lg.new 0 n) (Pg.new n) (.pointer none)∧Step Sd S' w w':=by
 have hck:=Qy d σ Sd n w h
 rw[if_neg (by omega)] at hck
 have HC:=af hck;clear hck
 have hi:=h.ok.hi
 have HH:=af h;have HF:=af hf
 clear h hf
 go_enter Tryz.func51,Tryz.ntmps51
 go_wp2_with (first
  |(go_at_call 80;go_must (refine HC.out.mono ?_;rintro e w1 ⟨rfl,hw1⟩;subst w1)))
 go_loopw [7] (fun i wr=>∃(k:Nat) (S1:Nat→Prop),n+k≤σ.n∧i= .int .i64 ((n+k:Nat):Int)∧Hid (qO wr S1 d (Dk.sF k n σ))∧Hid (Step Sd S1 w wr)) (fun i _=>σ.n - (intOf i).toNat)
 case atStart=>exact⟨0,Sd,by omega,rfl,HH,af (Step.refl _ _)⟩
 case round=>
  obtain⟨k,S1,hk,rfl,HD,HS⟩:=hrel
  have HSz:=af (F6 d _ S1 wr HD.out)
  rw[Dk.xM] at HSz
  obtain⟨j,HJ⟩:∃j,Hid (n+k=j):=⟨_,af rfl⟩
  rw[HJ.out] at hk ⊢
  by_cases hlt:j<σ.n
  ·have hltI:(j:Int)<(σ.n:Int):=by omega
   have hwr:=DY d _ S1 (j:Int) (.slice none 0 0) [] wr HD.out (bE.nil _ _ _) (by rw[Dk.vB];have:=HJ.out;omega)
   rw[(Dk.ul k n σ HF.out).write j [] (by rw[Dk.xM];exact hlt) (by simp)] at hwr
   have HWr:=af hwr;clear hwr
   go_wp2_with (first
    |(go_at_call 79;go_must (refine HSz.out.mono ?_;rintro e w1 ⟨rfl,hw1⟩;subst w1))
    |(go_at_call 81;go_must (refine HWr.out.mono ?_;rintro e w2 ⟨rfl,S2,hD2,hs2⟩)))
   have HD2:=af hD2;have HS2:=af (HS.out.trans hs2);clear hD2 hs2
   go_roundw
   case rel=>
    refine⟨k+1,S2,by have:=HJ.out;omega,by have:=HJ.out;go_num,af ?_,HS2⟩
    rw[Dk.xL,HJ.out]
    exact HD2.out
   case measure=>simp[intOf];omega
  ·obtain rfl:j=σ.n:=by omega
   have hkk:k=σ.n - n:=by have:=HJ.out;omega
   rw[hkk] at HD
   have HM:=af (Rf d _ S1 0 n wr HD.out (Dk.ul _ n σ HF.out) h1 (by rw[Dk.xM];omega) (by rw[Dk.vB];omega))
   have hmk:∀w:World,(Instr.makeMap 142 none).run Tryz.prog w= .ok (.map (some w.heap.size)) (w.alloc (.map #[] 0)):=fun w=>run_makeMap _ w
   have e1:IntKind.i64.wrap ((n:Int) - 1)=((n - 1:Nat):Int):=by rw[aR _ (by omega)];omega
   go_wp2_with (first
    |(go_at_call 79;go_must (refine HSz.out.mono ?_;rintro e w1 ⟨rfl,hw1⟩;subst w1))
    |(go_at_call 82;go_must (refine HM.out.mono ?_;rintro e w2 ⟨lg,Sd2,Sl2,rfl,hA2,hs2⟩;refine Stop.of ?_)))
   refine Stop.on ?_
   have HA2:=af hA2;have HS2:=af (HS.out.trans hs2);clear hA2 hs2
   go_wp2_with fail
   go_ret2
   have hb:=Ie n HA2.out rfl rfl (by show n<(((Dk.sF (σ.n - n) n σ).flush.put 0 (Lg.new 0 n).kY).flush).n;have:(((Dk.sF (σ.n - n) n σ).flush.put 0 (Lg.new 0 n).kY).flush).n=(Dk.sF (σ.n - n) n σ).n:=rfl;rw[this,Dk.xM];exact h2) h1
   exact⟨_,_,rfl,hb.1,HS2.out.trans hb.2⟩
theorem Fa (a c m t:Nat) (k:Nat) (hm:m=2^k) (ha:a<m) (ht:t=a+m*c) (hlt:t<9223372036854775808):bits .or .i64 (a:Int) ((m*c:Nat):Int)=(t:Int):=by
 unfold bits
 have hb:m*c<18446744073709551616:=by omega
 have e4:(BitVec.ofInt 64 (a:Int)|||BitVec.ofInt 64 ((m*c:Nat):Int)).toNat=t:=by
  rw[oQ,oQ,BitVec.toNat_or,lD,lD,mV (by omega),mV (by omega),Nat.or_comm]
  have:=xG (i:=k) (b:=a) (by omega) c
  rw[hm,←this,ht,hm]
  omega
 show IntKind.i64.wrap (((BitVec.ofInt 64 (a:Int)|||BitVec.ofInt 64 ((m*c:Nat):Int)).toNat:Nat):Int)=t
 rw[e4,ig]
 omega
theorem wQ (l:List UInt8) (i:Nat) (b:UInt8) (h:l[i]? =some b) (W:World):(Instr.index 9 (.string (strOf l)) (.int .i64 (i:Int))).run Tryz.prog W= .ok (.int .u8 (b.toNat:Int)) W:=by
 obtain⟨hi,hb⟩:=bZ.1 h
 have hs:(strOf l).size=l.length:=by show l.toArray.size=_;simp
 rw[run_index_string W 9 (strOf l) .i64 (i:Int) Tryz.underlying9,dif_pos ⟨by omega,by rw[hs];omega⟩]
 have:(strOf l)[(i:Int).toNat]'(by rw[hs];omega)=b:=by
  show l.toArray[(i:Int).toNat]'(by simpa using hi)=b
  simp[hb]
 rw[this]
end Go.Proofs.YtpgdljlghiifjaaGreatDoor
