/- parts -/
import Derived.Test.YtfgpefcphnpabaaGreatJ23
namespace Go.Proofs.YtfgpefcphnpabaaGreat
open Go.RowKit
set_option maxRecDepth 100000
set_option maxHeartbeats 8000000
set_option linter.all false
def pR (w:World) (S:Nat→Prop) (r:Nat) (rs:List Pr):Prop:=¬S r∧∃v,w.heap[r]? =some (.cells #[v] 77 (0,0))∧iY w S v rs
theorem pR.step {w w':World} {S S':Nat→Prop} {r:Nat} {rs:List Pr} (h:pR w S r rs) (hs:Step S S' w w'):pR w' S' r rs:=by
 obtain⟨hS,v,hb,hv⟩:=h
 have hl:=(ah.1 hb).1
 exact⟨fun x=>(hs.2 r x).elim hS (fun y=>absurd hl (aY.2 y)),v,(hs.1.block r hl hS).trans hb,aX.step hv hs⟩
theorem pR.below {w w':World} {S:Nat→Prop} {r:Nat} {rs:List Pr} (h:pR w S r rs) (hb:Below w.heap.size w w'):pR w' S r rs:=h.step (Step.of_below hb)
theorem oM {w:World} {r t:Nat} {v:Value} (h:w.heap[r]? =some (.cells #[v] t (0,0))):w.cell? ⟨r,0,none⟩=some v∧w.frozen? ⟨r,0,none⟩=false∧r<w.heap.size:=
 ⟨by simp[World.cell?,h],by simp[World.frozen?,h],(ah.1 h).1⟩
theorem Qo {a b:ByteArray} (h:a=b):(a.toList==b.toList)=true:=by rw[h];simp
theorem PX {a b:ByteArray} (h:a≠b):(a.toList==b.toList)=false:=by
 rw[eO];exact fun e=>h (toList_inj e)
theorem Mi (r:Nat) (rs:List Pr) (key:ByteArray) (w:World) (S:Nat→Prop) (h:pR w S r rs) (hr:dY rs) (hl:rs.length≤100000):
  Calls Tryz.prog 73 #[.pointer (some ⟨r,0,none⟩),.string key] w fun e w'=>e= .returned (.tuple #[.string ((cu rs key).getD ⟨#[]⟩),.bool (cu rs key).isSome])∧w'=w:=by
 obtain⟨_,v,hb,hv⟩:=h
 obtain⟨c0,_,lr⟩:=oM hb
 obtain⟨ao,cp,rfl,_,_,_,_⟩:=aX.form hv
 go_enter Tryz.func73,Tryz.ntmps73
 go_wp2
 go_loop [6] (fun i=>∃k:Nat,k≤rs.length∧i= .int .i64 k∧∀j (h:j<rs.length),j<k→rs[j].1≠key) (fun i=>rs.length - (intOf i).toNat)
 case atStart=>exact⟨0,aU _,rfl,fun j _ h=>absurd h (by omega)⟩
 case round=>
  obtain⟨k,hk,rfl,hall⟩:=hrel
  have HA:=af hall;clear hall
  by_cases hlt:k<rs.length
  ·obtain⟨b,o,rfl,d1,d2⟩:=hv.at rfl k hlt
   have hbl:=ay w _ d1
   have hlt':(k:Int)<(rs.length:Int):=by omega
   by_cases he:rs[k].1=key
   ·have hq:=Qo he
    have hlk:cu rs key=some rs[k].2:=(mP hr).2 (by have:=bg hlt;rw[←he];exact this)
    have HLK:=af hlk
    clear he hlk
    go_wp2
    go_ret2
    rw[HLK.out]
    exact⟨rfl,rfl⟩
   ·have hq:=PX he
    have HE:=af he;clear he
    go_wp2
    go_round
    case rel=>exact⟨k+1,by omega,by go_num,fun j hj hjk=>by
     rcases gV j k with h|h
     ·exact HA.out j hj h
     ·obtain rfl:j=k:=by omega
      exact HE.out⟩
    case measure=>simp[intOf];omega
  ·obtain rfl:k=rs.length:=by omega
   have hlk:cu rs key=none:=by
    cases hq:cu rs key with
    |none=>rfl
    |some x=>
     obtain⟨j,hj,e⟩:=eB ((mP hr).1 hq)
     exact absurd (by rw[e]) (HA.out j hj hj)
   have HLK:=af hlk
   clear hlk
   have x1:¬(rs.length:Int)<(rs.length:Int):=by omega
   go_wp2
   go_ret2
   rw[HLK.out]
   exact⟨rfl,rfl⟩
theorem vG {rs:List Pr} (hr:dY rs) (key:ByteArray):rs.filter (fun p=> !(p.1.toList==key.toList))=iW rs key:=by
 obtain⟨f1,f2⟩:=kJ key rs hr
 have h1:∀p∈rs.take (bO rs key),(!(p.1.toList==key.toList))=true:=fun p hp=>by
  obtain⟨i,hi,rfl⟩:=eB hp
  rw[aD] at hi
  rw[oz,PX (Jq (f1 i (by omega) (by omega)))];rfl
 unfold iW
 split
 ·rename_i hat
  obtain⟨hlt,hk⟩:=lD hat
  have e:rs=rs.take (bO rs key)++rs[bO rs key]::rs.drop (bO rs key+1):=by
   rw[←bZ hlt,bE]
  have h2:∀p∈rs.drop (bO rs key+1),(!(p.1.toList==key.toList))=true:=fun p hp=>by
   obtain⟨i,hi,rfl⟩:=eB hp
   rw[aN] at hi
   have:=fQ.1 hr (bO rs key) (bO rs key+1+i) hlt (by omega) (by omega)
   rw[hk] at this
   rw[oC,PX (fun e=>Jq this e.symm)];rfl
  conv=>lhs;rw[e]
  rw[yH,CF,if_neg (by rw[Qo hk];simp),xg.2 h1,xg.2 h2]
 ·rename_i hat
  refine xg.2 fun p hp=> ?_
  obtain⟨i,hi,rfl⟩:=eB hp
  rw[PX];rfl
  intro e
  apply hat
  have:(key,rs[i].2)∈rs:=by have:=bg hi;rw[←e];exact this
  have:=(mP hr).2 this
  unfold cu at this
  split at this
  ·assumption
  ·cases this
theorem Na {rs:List Pr} (key:ByteArray):decide ((iW rs key).length<rs.length)=(cu rs key).isSome:=by
 unfold iW cu
 split
 ·rename_i hat
  obtain⟨hlt,_⟩:=lD hat
  rw[bF hlt]
  simp;omega
 ·simp
theorem Df {w wr:World} {S:Nat→Prop} {r:Nat} {v0 v:Value} {rs:List Pr} (hb:wr.heap[r]? =some (.cells #[v0] 77 (0,0))) (hS:¬S r) (ho:aP wr S w.heap.size 127 2 v rs.length (dw rs)) (hbel:Below w.heap.size w wr):pR (wr.setCell ⟨r,0,none⟩ v) S r rs∧Keep (· =r) w (wr.setCell ⟨r,0,none⟩ v):=by
 have hk:Keep (· =r) wr (wr.setCell ⟨r,0,none⟩ v):=Keep.setCell (M:=(· =r)) (p:=⟨r,0,none⟩) (Keep.refl _ _) (.inr rfl) _
 refine⟨⟨hS,v,by simp[World.setCell,aL,hb],?_⟩,(Keep.of_below hbel _).trans hk (fun _ _ h=>h)⟩
 exact(ho.keep fun g hg hl hs=>⟨hk.block g hl (fun e=>ho.ne hb (by decide) (by rw[hg,e])),hs⟩).cK
theorem yg (r:Nat) (rs:List Pr) (key:ByteArray) (w:World) (S:Nat→Prop) (hsub:∀g,S g→g<w.heap.size) (h:pR w S r rs) (hr:dY rs) (hl:rs.length≤100000):
  Calls Tryz.prog 74 #[.pointer (some ⟨r,0,none⟩),.string key] w fun e w'=>e= .returned (.bool (cu rs key).isSome)∧pR w' S r (iW rs key)∧Keep (· =r) w w':=by
 obtain⟨hSr,v,hb,hv⟩:=h
 obtain⟨c0,cf,lr⟩:=oM hb
 obtain⟨ao,cp,rfl,_,_,_,_⟩:=aX.form hv
 have HF:=af (vG hr key)
 have HL:=af (Na (rs:=rs) key)
 obtain⟨fl,hfl⟩:∃fl:Pr→Bool,fl=fun p=> !(p.1.toList==key.toList):=⟨_,rfl⟩
 have HFL:=af hfl
 rw[←hfl] at HF
 clear hfl
 go_enter Tryz.func74,Tryz.ntmps74
 go_wp2
 go_loopw [5,6] (fun l i wr=>∃(k:Nat),k≤rs.length∧i= .int .i64 k∧aP wr S w.heap.size 127 2 l ((rs.take k).filter fl).length (dw ((rs.take k).filter fl))∧Below w.heap.size w wr) (fun _ i _=>rs.length - (intOf i).toNat)
 case atStart=>exact⟨0,aU _,rfl,aP.nil _ _ _ _ _,aR _ _⟩
 case round=>
  obtain⟨k,hk,rfl,hown,hbel⟩:=hrel
  have hbr:=(hbel.block r lr).trans hb
  obtain⟨c0',cf',lr'⟩:=oM hbr
  have hlenf:((rs.take k).filter fl).length≤100000:=aH (tV _ _) (by rw[aD];omega)
  generalize hn:((rs.take k).filter fl).length=n at hown hlenf
  have HN:=af hn;clear hn
  obtain⟨lo,lc,rfl,_,_,_,_⟩:=aX.form hown.cK
  by_cases hlt:k<rs.length
  ·obtain⟨b,o,rfl,d1,d2⟩:=hv.at rfl k hlt
   have d1':=(hbel.cell (p:=⟨b,o+k*2,none⟩) (ay w _ d1)).trans d1
   have d2':=(hbel.cell (p:=⟨b,o+k*2+1,none⟩) (ay w _ d2)).trans d2
   have hbl:=ay wr _ d1'
   have hlt':(k:Int)<(rs.length:Int):=by omega
   clear d1 d2
   by_cases he:rs[k].1=key
   ·have hq:=Qo he
    have HE:=af he;clear he
    go_wp2_with fail
    go_roundw
    case rel=>
     refine⟨k+1,by omega,by go_num,?_,hbel⟩
     rw[aK hlt,yH,CF,if_neg (by rw[HFL.out];simp[Qo HE.out]),List.filter_nil,dF,HN.out]
     exact hown
    case measure=>simp[intOf];omega
   ·have hq:=PX he
    have HE:=af he;clear he
    have hba:=aI wr (.cells #[.string rs[k].1,.string rs[k].2] 127)
    go_wp2_with (at_builtin;go_must ((refine bY rfl (.tmp 27) (.tmp 35) 45 45 rfl S w.heap.size 127 2 32 _ Tryz.underlying45 gD rfl (.slice lo n lc) n _ rfl (hown.below hba) (.slice (some ⟨wr.heap.size,0,none⟩) 1 1) 1 [.string rs[k].1,.string rs[k].2] rfl (fK (w:=wr) [.string rs[k].1,.string rs[k].2] 127 2 1 1 rfl Tryz.underlying45 rfl (by intro u hu;simp only[bD,fF,mY] at hu;rcases hu with rfl|rfl<;>rfl)) (dQ (fun g hg=>ak (hsub g hg) hbel.size) _) ?_ ?_ ?_ ?_);(focus (have:=hbel.size;simp only[aQ];omega));(focus (unfold maxLen;omega));(focus omega);intro ao3 c3 w3 hown3 hk3 hb3 hd3))
    go_roundw
    case rel=>
     refine⟨k+1,by omega,by go_num,?_,(hbel.trans (hba.mono hbel.size)).trans hb3⟩
     rw[aK hlt,yH,CF,if_pos (by rw[HFL.out];simp[PX HE.out]),List.filter_nil,av,HN.out,fU]
     exact hown3
    case measure=>simp[intOf];omega
  ·obtain rfl:k=rs.length:=by omega
   rw[dh,HF.out] at hown
   have hn:=HN.out
   rw[dh,HF.out] at hn
   subst hn
   have x1:¬(rs.length:Int)<(rs.length:Int):=by omega
   go_wp2_with fail
   go_ret
   have:=Df hbr hSr hown hbel
   refine⟨?_,this.1,this.2⟩
   rw[←HL.out]
   congr 2
theorem H9 {rs:List Pr} (hr:dY rs) (key value:ByteArray):jv rs key value=(iW rs key).take (bO (iW rs key) key)++(key,value)::(iW rs key).drop (bO (iW rs key) key):=by
 obtain⟨f1,f2⟩:=kJ key rs hr
 unfold jv iW
 split
 ·rename_i hat
  obtain⟨hlt,hk⟩:=lD hat
  have h1:∀p∈rs.take (bO rs key),lt p.1 key=true:=fun p hp=>by
   obtain⟨i,hi,rfl⟩:=eB hp
   rw[aD] at hi
   rw[oz];exact f1 i (by omega) (by omega)
  have h2:∀p∈rs.drop (bO rs key+1),lt key p.1=true:=fun p hp=>by
   obtain⟨i,hi,rfl⟩:=eB hp
   rw[aN] at hi
   have:=fQ.1 hr (bO rs key) (bO rs key+1+i) hlt (by omega) (by omega)
   rw[hk] at this
   rw[oC];exact this
  have hp:bO (rs.take (bO rs key)++rs.drop (bO rs key+1)) key=(rs.take (bO rs key)).length:=by
   rw[vB _ _ _ h1,zX _ _ h2,gB]
  rw[hp,je,yI,l9,if_pos hlt]
 ·rfl
theorem Qc {rs:List Pr} (hr:dY rs) (key:ByteArray) (k:Nat) (hk:k<(iW rs key).length):lt key (iW rs key)[k].1=decide (bO (iW rs key) key≤k):=by
 have hr2:dY (iW rs key):=(FT key).rise rs hr
 obtain⟨f1,f2⟩:=kJ key _ hr2
 by_cases h:bO (iW rs key) key≤k
 ·rw[dI h]
  have h1:=f2 k hk h
  cases h2:lt key (iW rs key)[k].1 with
  |true=>rfl
  |false=>
   have e:=sI h1 h2
   have hm:(iW rs key)[k]∈rs.filter (fun p=> !(p.1.toList==key.toList)):=by rw[vG hr];exact bg hk
   have:=(List.mem_filter.1 hm).2
   rw[Qo e] at this;cases this
 ·rw[bn h]
  exact lt_asymm (f1 k hk (by omega))
def oU (ds:List Pr) (P k:Nat) (p:Pr):List Pr:=if k≤P then ds.take k else ds.take P++p::(ds.take k).drop P
theorem Mk (ds:List Pr) (P k:Nat) (p:Pr) (hk:k≤ds.length) (hP:P≤ds.length):(oU ds P k p).length=if k≤P then k else k+1:=by
 unfold oU
 split
 ·simp;omega
 ·simp;omega
theorem Oo (ds:List Pr) (P k:Nat) (p:Pr) (hk:k<ds.length) (h:k<P):oU ds P (k+1) p=oU ds P k p++[ds[k]]:=by
 unfold oU
 rw[if_pos (by omega),if_pos (by omega),aK hk]
theorem Ot (ds:List Pr) (P:Nat) (p:Pr) (hP:P<ds.length):oU ds P (P+1) p=oU ds P P p++[p]++[ds[P]]:=by
 unfold oU
 rw[if_neg (by omega),if_pos (by omega),aK hP,dX (by simp;omega),dD (by simp;omega)]
 simp
theorem Oq (ds:List Pr) (P k:Nat) (p:Pr) (hk:k<ds.length) (h:P<k):oU ds P (k+1) p=oU ds P k p++[ds[k]]:=by
 unfold oU
 rw[if_neg (by omega),if_neg (by omega),aK hk,dX (by simp;omega)]
 simp
theorem Ml (ds:List Pr) (P:Nat) (p:Pr) (hP:P≤ds.length):(if P<ds.length then oU ds P ds.length p else oU ds P ds.length p++[p])=ds.take P++p::ds.drop P:=by
 unfold oU
 by_cases h:P<ds.length
 ·rw[if_pos h,if_neg (by omega),dh]
 ·obtain rfl:P=ds.length:=by omega
  rw[if_neg h,if_pos (aC _)];simp
theorem Mc (r:Nat) (rs:List Pr) (key value:ByteArray) (w:World) (S:Nat→Prop) (hsub:∀g,S g→g<w.heap.size) (h:pR w S r rs) (hr:dY rs) (hl:rs.length≤90000):
  Calls Tryz.prog 41 #[.pointer (some ⟨r,0,none⟩),.string key,.string value] w fun e w'=>e= .returned (.tuple #[])∧pR w' S r (jv rs key value)∧Keep (· =r) w w':=by
 have hD:=yg r rs key w S hsub h hr (by omega)
 have HD:=af hD;clear hD
 have hlr:r<w.heap.size:=by obtain⟨_,_,hb,_⟩:=h;exact(ah.1 hb).1
 have hins:=H9 hr key value
 have hgt:=Qc hr key
 have hdl:(iW rs key).length≤rs.length:=by
  have:=vG hr key
  rw[←this];exact tV _ _
 have hPl:=lU (iW rs key) key
 generalize iW rs key=ds at*
 generalize bO ds key=P at*
 have HI:=af hins;clear hins
 have HG:=af hgt;clear hgt
 have hbp:∀w,Below w.heap.size w (w.alloc (.cells #[.string key,.string value] 127)):=fun w=>aI w _
 go_enter Tryz.func41,Tryz.ntmps41
 go_wp2_with (go_at_call 74;go_must (refine HD.out.mono ?_;rintro e wa ⟨rfl,hR,hka⟩))
 obtain⟨hSr,v,hb,hv⟩:=hR
 obtain⟨c0,cf,lr⟩:=oM hb
 obtain⟨ao,cp,rfl,_,_,_,_⟩:=aX.form hv
 have hsubA:∀g,S g→g<wa.heap.size:=fun g hg=>ak (hsub g hg) hka.size
 go_loopw [6,7,8] (fun l d i wr=>∃(k:Nat),k≤ds.length∧i= .int .i64 k∧d= .bool (decide (P<k))∧aP wr S wa.heap.size 127 2 l (oU ds P k (key,value)).length (dw (oU ds P k (key,value)))∧Below wa.heap.size wa wr) (fun _ _ i _=>ds.length - (intOf i).toNat)
 case atStart=>exact⟨0,aU _,rfl,rfl,by have:oU ds P 0 (key,value)=[]:=(by simp[oU]);rw[this];exact aP.nil _ _ _ _ _,aR _ _⟩
 case round=>
  obtain⟨k,hk,rfl,rfl,hown,hbel⟩:=hrel
  have hbr:=(hbel.block r lr).trans hb
  obtain⟨c0',cf',lr'⟩:=oM hbr
  have hpl:=Mk ds P k (key,value) hk hPl
  have hn1:(oU ds P k (key,value)).length≤90001:=by rw[hpl];split<;>omega
  clear hpl
  have hsubR:∀g,S g→g<wr.heap.size:=fun g hg=>ak (hsubA g hg) hbel.size
  generalize hn:(oU ds P k (key,value)).length=n at hown hn1
  have HN:=af hn;clear hn
  obtain⟨lo,lc,rfl,_,_,_,_⟩:=aX.form hown.cK
  by_cases hlt:k<ds.length
  ·obtain⟨b,o,rfl,d1,d2⟩:=hv.at rfl k hlt
   have d1':=(hbel.cell (p:=⟨b,o+k*2,none⟩) (ay wa _ d1)).trans d1
   have d2':=(hbel.cell (p:=⟨b,o+k*2+1,none⟩) (ay wa _ d2)).trans d2
   have hbl:=ay wr _ d1'
   have hlt':(k:Int)<(ds.length:Int):=by omega
   have hg:=HG.out k hlt
   rw[←MZ] at hg
   have hba:=aI wr (.cells #[.string ds[k].1,.string ds[k].2] 127)
   rcases Nat.lt_trichotomy k P with he|he|he
   ·have hd:decide (P<k)=false:=bn (by omega)
    rw[bn (by omega)] at hg
    rw[hd]
    have HD2:=af hd;clear hd
    clear d1 d2
    go_wp2_with (at_builtin;(refine bY rfl (.tmp 41) (.tmp 49) 45 45 rfl S wa.heap.size 127 2 32 _ Tryz.underlying45 gD rfl _ _ _ rfl (hown.below hba) (.slice (some ⟨wr.heap.size,0,none⟩) 1 1) 1 [.string ds[k].1,.string ds[k].2] rfl (fK (w:=wr) [.string ds[k].1,.string ds[k].2] 127 2 1 1 rfl Tryz.underlying45 rfl (by intro u hu;simp only[bD,fF,mY] at hu;rcases hu with rfl|rfl<;>rfl)) (dQ (fun g hg=>ak (hsubA g hg) (hbel).size) _) ?_ ?_ ?_ ?_);go_must ((focus (have:=(hbel).size;simp only[aQ];omega));(focus (unfold maxLen;omega));(focus omega);intro ao3 c3 w3 hown3 hk3 hb3 hd3))
    go_roundw
    case rel=>
     refine⟨k+1,by omega,by go_num,by rw[bn (by omega)],?_,(hbel.trans (hba.mono hbel.size)).trans hb3⟩
     rw[Oo ds P k _ hlt he,av,HN.out,fU]
     exact hown3
    case measure=>simp[intOf];omega
   ·subst he
    have hd:decide (k<k)=false:=bn (di _)
    rw[dI (aC k)] at hg
    rw[hd]
    have HD2:=af hd;clear hd
    go_wp2_with (first
     |(at_builtin;(refine bY rfl (.tmp 35) (.tmp 39) 45 45 rfl S wa.heap.size 127 2 32 _ Tryz.underlying45 gD rfl _ _ _ rfl (hown.below (hbp wr)) (.slice (some ⟨wr.heap.size,0,none⟩) 1 1) 1 [.string key,.string value] rfl (fK (w:=wr) [.string key,.string value] 127 2 1 1 rfl Tryz.underlying45 rfl (by intro u hu;simp only[bD,fF,mY] at hu;rcases hu with rfl|rfl<;>rfl)) (dQ (fun g hg=>ak (hsubA g hg) (hbel).size) _) ?_ ?_ ?_ ?_);go_must ((focus (have:=(hbel).size;simp only[aQ];omega));(focus (unfold maxLen;omega));(focus omega);intro ao3 c3 w3 hown3 hk3 hb3 hd3;have hbel3:Below wa.heap.size wa w3:=(hbel.trans ((hbp wr).mono hbel.size)).trans hb3;have hbr3:=(hbel3.block r lr).trans hb;obtain⟨c03,cf3,lr3⟩:=oM hbr3;have e1:=(hbel3.cell (p:=⟨b,o+k*2,none⟩) (ay wa _ d1)).trans d1;have e2:=(hbel3.cell (p:=⟨b,o+k*2+1,none⟩) (ay wa _ d2)).trans d2;have ebl:=ay w3 _ e1;clear c0' d1' d2' hbl cf' lr'))
     |(at_builtin;(refine bY rfl (.tmp 41) (.tmp 49) 45 45 rfl S wa.heap.size 127 2 32 _ Tryz.underlying45 gD rfl _ _ _ rfl (hown3.below (aI w3 (.cells #[.string ds[k].1,.string ds[k].2] 127))) (.slice (some ⟨w3.heap.size,0,none⟩) 1 1) 1 [.string ds[k].1,.string ds[k].2] rfl (fK (w:=w3) [.string ds[k].1,.string ds[k].2] 127 2 1 1 rfl Tryz.underlying45 rfl (by intro u hu;simp only[bD,fF,mY] at hu;rcases hu with rfl|rfl<;>rfl)) (dQ (fun g hg=>ak (hsubA g hg) (hbel3).size) _) ?_ ?_ ?_ ?_);go_must ((focus (have:=(hbel3).size;simp only[aQ];omega));(focus (unfold maxLen;omega));(focus omega);intro ao4 c4 w4 hown4 hk4 hb4 hd4)))
    go_roundw
    case rel=>
     refine⟨k+1,by omega,by go_num,by rw[dI (by omega)],?_,(hbel3.trans ((aI w3 _).mono hbel3.size)).trans hb4⟩
     rw[Ot ds k _ hlt,av,av,HN.out,fU,fU]
     exact hown4
    case measure=>simp[intOf];omega
   ·have hd:decide (P<k)=true:=dI he
    rw[hd]
    have HD2:=af hd;clear hd hg
    clear d1 d2
    go_wp2_with (at_builtin;(refine bY rfl (.tmp 41) (.tmp 49) 45 45 rfl S wa.heap.size 127 2 32 _ Tryz.underlying45 gD rfl _ _ _ rfl (hown.below hba) (.slice (some ⟨wr.heap.size,0,none⟩) 1 1) 1 [.string ds[k].1,.string ds[k].2] rfl (fK (w:=wr) [.string ds[k].1,.string ds[k].2] 127 2 1 1 rfl Tryz.underlying45 rfl (by intro u hu;simp only[bD,fF,mY] at hu;rcases hu with rfl|rfl<;>rfl)) (dQ (fun g hg=>ak (hsubA g hg) (hbel).size) _) ?_ ?_ ?_ ?_);go_must ((focus (have:=(hbel).size;simp only[aQ];omega));(focus (unfold maxLen;omega));(focus omega);intro ao3 c3 w3 hown3 hk3 hb3 hd3))
    go_roundw
    case rel=>
     refine⟨k+1,by omega,by go_num,by rw[dI (by omega)],?_,(hbel.trans (hba.mono hbel.size)).trans hb3⟩
     rw[Oq ds P k _ hlt he,av,HN.out,fU]
     exact hown3
    case measure=>simp[intOf];omega
  ·obtain rfl:k=ds.length:=by omega
   have hend:=Ml ds P (key,value) hPl
   have HE:=af hend;clear hend
   have x1:¬(ds.length:Int)<(ds.length:Int):=by omega
   by_cases hP:P<ds.length
   ·rw[dI hP]
    have HPl:=af hP;clear hP
    go_wp2_with fail
    go_end0
    have hown':aP wr S wa.heap.size 127 2 (.slice lo n lc) (oU ds P ds.length (key,value)).length (dw (oU ds P ds.length (key,value))):=by rw[HN.out];exact hown
    have:=Df hbr hSr hown' hbel
    have he:=HE.out
    rw[if_pos HPl.out] at he
    rw[HI.out,←he]
    exact⟨rfl,this.1,hka.trans this.2 (fun _ _ h=>h)⟩
   ·rw[bn hP]
    have HPl:=af hP;clear hP
    go_wp2_with (at_builtin;(refine bY rfl (.tmp 53) (.tmp 57) 45 45 rfl S wa.heap.size 127 2 32 _ Tryz.underlying45 gD rfl _ _ _ rfl (hown.below (hbp wr)) (.slice (some ⟨wr.heap.size,0,none⟩) 1 1) 1 [.string key,.string value] rfl (fK (w:=wr) [.string key,.string value] 127 2 1 1 rfl Tryz.underlying45 rfl (by intro u hu;simp only[bD,fF,mY] at hu;rcases hu with rfl|rfl<;>rfl)) (dQ (fun g hg=>ak (hsubA g hg) (hbel).size) _) ?_ ?_ ?_ ?_);go_must ((focus (have:=(hbel).size;simp only[aQ];omega));(focus (unfold maxLen;omega));(focus omega);intro ao3 c3 w3 hown3 hk3 hb3 hd3;have hbel3:Below wa.heap.size wa w3:=(hbel.trans ((hbp wr).mono hbel.size)).trans hb3;have hbr3:=(hbel3.block r lr).trans hb;obtain⟨c03,cf3,lr3⟩:=oM hbr3))
    go_end0
    have hown':aP w3 S wa.heap.size 127 2 (.slice ao3 (n+1) c3) (oU ds P ds.length (key,value)++[(key,value)]).length (dw (oU ds P ds.length (key,value)++[(key,value)])):=by
     rw[av,HN.out,fU];exact hown3
    have:=Df hbr3 hSr hown' hbel3
    have he:=HE.out
    rw[if_neg HPl.out] at he
    rw[HI.out,←he]
    exact⟨rfl,this.1,hka.trans this.2 (fun _ _ h=>h)⟩
def G5 (rs:List Pr) (P M k:Nat):List Pr:=((rs.take k).drop P).take M
theorem Oe (rs:List Pr) (P M k:Nat) (hk:k≤rs.length):(G5 rs P M k).length=min (k - P) M:=by
 unfold G5;simp;omega
theorem LZ (rs:List Pr) (P M k:Nat) (hk:k<rs.length) (h:k<P∨M≤k - P):G5 rs P M (k+1)=G5 rs P M k:=by
 unfold G5
 rw[aK hk]
 rcases h with h|h
 ·rw[dD (by simp;omega),dD (by simp;omega)]
 ·rw[kY,bH (by simp;omega)]
theorem Od (rs:List Pr) (P M k:Nat) (hk:k<rs.length) (h:P≤k) (h2:k - P<M):G5 rs P M (k+1)=G5 rs P M k++[rs[k]]:=by
 unfold G5
 rw[aK hk,dX (by simp;omega)]
 have hx:((rs.take k).drop P).length=k - P:=by simp;omega
 generalize (rs.take k).drop P=X at hx
 rw[aJ (l:=X) (by omega),aJ (by rw[av,gu];omega)]
theorem J9 (r:Nat) (rs:List Pr) (key:ByteArray) (most:Int) (w:World) (S:Nat→Prop) (hsub:∀g,S g→g<w.heap.size) (h:pR w S r rs) (hr:dY rs) (hl:rs.length≤90000):
  Calls Tryz.prog 75 #[.pointer (some ⟨r,0,none⟩),.string key,.int .i64 most] w fun e w'=>∃v,e= .returned v∧iY w' S v ((rs.drop (bO rs key)).take most.toNat)∧Below w.heap.size w w':=by
 obtain⟨hSr,v,hb,hv⟩:=h
 obtain⟨c0,cf,lr⟩:=oM hb
 obtain⟨ao,cp,rfl,_,_,_,_⟩:=aX.form hv
 obtain⟨f1,f2⟩:=kJ key rs hr
 have hPl:=lU rs key
 generalize bO rs key=P at*
 have HF1:=af f1;clear f1
 have HF2:=af f2;clear f2
 obtain⟨M,hM⟩:∃M,M=most.toNat:=⟨_,rfl⟩
 rw[←hM]
 have HM:=af hM;clear hM
 go_enter Tryz.func75,Tryz.ntmps75
 go_wp2
 go_loopw [7,8] (fun l i wr=>∃(k:Nat),k≤rs.length∧i= .int .i64 k∧aP wr S w.heap.size 127 2 l (G5 rs P M k).length (dw (G5 rs P M k))∧Below w.heap.size w wr) (fun _ i _=>rs.length - (intOf i).toNat)
 case atStart=>exact⟨0,aU _,rfl,by have:G5 rs P M 0=[]:=(by simp[G5]);rw[this];exact aP.nil _ _ _ _ _,aR _ _⟩
 case round=>
  obtain⟨k,hk,rfl,hown,hbel⟩:=hrel
  have hbr:=(hbel.block r lr).trans hb
  obtain⟨c0',cf',lr'⟩:=oM hbr
  have hpl:=Oe rs P M k hk
  have hsubR:∀g,S g→g<wr.heap.size:=fun g hg=>ak (hsub g hg) hbel.size
  generalize hn:(G5 rs P M k).length=n at hown hpl
  have HN:=af hn;clear hn
  have hn1:n≤90000:=by omega
  obtain⟨lo,lc,rfl,_,_,_,_⟩:=aX.form hown.cK
  by_cases hlt:k<rs.length
  ·obtain⟨b,o,rfl,d1,d2⟩:=hv.at rfl k hlt
   have d1':=(hbel.cell (p:=⟨b,o+k*2,none⟩) (ay w _ d1)).trans d1
   have d2':=(hbel.cell (p:=⟨b,o+k*2+1,none⟩) (ay w _ d2)).trans d2
   have hbl:=ay wr _ d1'
   have hlt':(k:Int)<(rs.length:Int):=by omega
   clear d1 d2
   by_cases hP:P≤k
   ·have hg:Op.bytesLess rs[k].1.toList key.toList=false:=HF2.out k hlt hP
    by_cases hM:k - P<M
    ·have hm:(n:Int)<most:=by have:=HM.out;omega
     have hba:=aI wr (.cells #[.string rs[k].1,.string rs[k].2] 127)
     have HPL:=af hpl;clear hpl
     go_wp2_with (at_builtin;(refine bY rfl (.tmp 34) (.tmp 42) 45 45 rfl S w.heap.size 127 2 32 _ Tryz.underlying45 gD rfl (.slice lo n lc) n _ rfl (hown.below hba) (.slice (some ⟨wr.heap.size,0,none⟩) 1 1) 1 [.string rs[k].1,.string rs[k].2] rfl (fK (w:=wr) [.string rs[k].1,.string rs[k].2] 127 2 1 1 rfl Tryz.underlying45 rfl (by intro u hu;simp only[bD,fF,mY] at hu;rcases hu with rfl|rfl<;>rfl)) (dQ hsubR _) ?_ ?_ ?_ ?_);go_must ((focus (have:=hbel.size;simp only[aQ];omega));(focus (unfold maxLen;omega));(focus omega);intro ao3 c3 w3 hown3 hk3 hb3 hd3))
     go_roundw
     case rel=>
      refine⟨k+1,by omega,by go_num,?_,(hbel.trans (hba.mono hbel.size)).trans hb3⟩
      rw[Od rs P M k hlt hP hM,av,HN.out,fU]
      exact hown3
     case measure=>simp[intOf];omega
    ·have hm:¬(n:Int)<most:=by have:=HM.out;omega
     have HPL:=af hpl;clear hpl
     go_wp2_with fail
     go_roundw
     case rel=>
      refine⟨k+1,by omega,by go_num,?_,hbel⟩
      rw[LZ rs P M k hlt (.inr (by omega)),HN.out]
      exact hown
     case measure=>simp[intOf];omega
   ·have hg:Op.bytesLess rs[k].1.toList key.toList=true:=HF1.out k hlt (by omega)
    have HPL:=af hpl;clear hpl
    go_wp2_with fail
    go_roundw
    case rel=>
     refine⟨k+1,by omega,by go_num,?_,hbel⟩
     rw[LZ rs P M k hlt (.inl (by omega)),HN.out]
     exact hown
    case measure=>simp[intOf];omega
  ·obtain rfl:k=rs.length:=by omega
   have x1:¬(rs.length:Int)<(rs.length:Int):=by omega
   have HPL:=af hpl;clear hpl
   go_wp2_with fail
   go_ret
   refine⟨_,rfl,?_,hbel⟩
   have e:G5 rs P M rs.length=(rs.drop P).take M:=by unfold G5;rw[dh]
   rw[←e]
   unfold iY
   rw[HN.out]
   exact hown.cK
theorem L6 (a b:Value) (ps:List Pr) (w:World) (S1 S2:Nat→Prop) (ha:iY w S1 a ps) (hb:iY w S2 b ps):
  Calls Tryz.prog 44 #[a,b] w fun e w'=>e= .returned (.bool true)∧Below w.heap.size w w':=by
 obtain⟨ao,ac,rfl,_,_,_,_⟩:=aX.form ha
 obtain⟨bo,bc,rfl,_,_,_,_⟩:=aX.form hb
 go_enter Tryz.func44,Tryz.ntmps44
 go_wp2
 go_loopw [5] (fun i wr=>∃k:Nat,k≤ps.length∧i= .int .i64 k∧Below w.heap.size w wr) (fun i _=>ps.length - (intOf i).toNat)
 case atStart=>exact⟨0,aU _,rfl,aR _ _⟩
 case round=>
  obtain⟨k,hk,rfl,hbel⟩:=hrel
  by_cases hlt:k<ps.length
  ·obtain⟨b1,o1,rfl,d1,d2⟩:=ha.at rfl k hlt
   obtain⟨b2,o2,rfl,d3,d4⟩:=hb.at rfl k hlt
   have hlt':(k:Int)<(ps.length:Int):=by omega
   have l1:=ay w _ d1
   have l2:=ay w _ d3
   go_wp2_with fail
   refine aO (fun W=>Below w.heap.size w W) (fun _=>true) [0,1,2,3,4,5,6,7,8] rfl (by kernel_rfl) hbel.drew ?_
   repeat ((refine bG (v:= ?_) rfl rfl (fun _ _ _ h=>h) rfl (fun W hW=> ?_) ?_);rotate_left;(focus ((try dsimp only at hW);have q0:=(hW.cell (p:=⟨b1,o1+k*2,none⟩) l1).trans d1;have q1:=(hW.cell (p:=⟨b1,o1+k*2+1,none⟩) l1).trans d2;have q2:=(hW.cell (p:=⟨b2,o2+k*2,none⟩) l2).trans d3;have q3:=(hW.cell (p:=⟨b2,o2+k*2+1,none⟩) l2).trans d4;have q4:=ak l1 hW.size;have q5:=ak l2 hW.size;first|(go_simp;first|done|with_reducible rfl)));(try simp only[Act.put,ai,au,aj]))
   refine bK ?_
   go_wp2_with fail
   go_roundw
   case rel=>exact⟨k+1,by omega,by go_num,hbel.drew⟩
   case measure=>simp[intOf];omega
  ·obtain rfl:k=ps.length:=by omega
   have x1:¬(ps.length:Int)<(ps.length:Int):=by omega
   go_wp2_with fail
   go_ret
   exact⟨rfl,hbel⟩
def oJ (w:World) (B:Nat) (v:Value) (l:List UInt8):Prop:=
 ∃(g cap:Nat) (cur:Array Value) (fz:Nat×Nat),v= .slice (some ⟨g,0,none⟩) l.length cap∧B≤g∧w.heap[g]? =some (.cells cur 5 fz)∧(fz.2≤fz.1∨cur.size≤fz.1)∧l.length≤cap∧cap≤maxLen∧cur.size=cap∧cur.toList.take l.length=aG l
theorem oJ.below {w w':World} {B:Nat} {v:Value} {l:List UInt8} (h:oJ w B v l) (hb:Below w.heap.size w w'):oJ w' B v l:=by
 obtain⟨g,cap,cur,fz,e,h1,h2,h3⟩:=h
 exact⟨g,cap,cur,fz,e,h1,(hb.block g (ah.1 h2).1).trans h2,h3⟩
theorem oJ.cK {w:World} {B:Nat} {v:Value} {l:List UInt8} (h:oJ w B v l):aX w gL 1 v l.length (aG l):=by
 obtain⟨g,cap,cur,fz,rfl,h1,h2,h3,h4,h5,h6,h7⟩:=h
 refine⟨_,_,rfl,h4,h5,by rw[bq,aV],(fun e=>by cases e),fun ad hh=> ?_,fun j u hu=> ?_⟩
 ·cases hh
  exact⟨rfl,(ah.1 h2).1,id⟩
 ·refine⟨_,_,rfl,?_⟩
  rw[dN,wY w g j cur _ fz h2]
  rw[←h7,gX] at hu
  split at hu
  ·simpa using hu
  ·cases hu
theorem Ma (w:World) (B:Nat) (ty:TypeId) (v:Value) (l:List UInt8) (x:UInt8) (h:oJ w B v l) (a:Addr) (hx:w.cell? (a.add 0)=some (.int .u8 x.toNat)) (hB:B≤w.heap.size) (hl:l.length≤1000000):
  ∃v' w',(Builtin.append_ #[86,86] ty #[v,.slice (some a) 1 1]).run Tryz.prog w= .ok v' w'∧oJ w' B v' (l++[x])∧Below B w w':=by
 obtain⟨g,cap,cur,fz,rfl,h1,h2,h3,h4,h5,h6,h7⟩:=h
 obtain⟨i,hi,hz,hsize,hby⟩:∃i,Tryz.prog.info? 5=some i∧i.zero=some (.int .u8 0)∧i.size=1∧i.bytes=1:=by
  have:=jN
  cases hq:Tryz.prog.info? 5 with
  |none=>rw[hq] at this;cases this
  |some i=>rw[hq] at this;simp at this;exact⟨i,rfl,this.1,this.2.1,this.2.2⟩
 have hnews:∀j u,[Value.int .u8 x.toNat][j]? =some u→w.cell? (a.add j)=some u:=fun j u hu=>by
  cases j with
  |zero=>cases hu;exact hx
  |succ j=>simp at hu
 have hlen:(l++[x]).length=l.length+1:=by simp
 have hbc:aG (l++[x])=aG l++[.int .u8 x.toNat]:=by simp[aG]
 by_cases hroom:l.length+1≤cap
 ·have hf:=yE (P:=Tryz.prog) w i.size 1 a 1 1 [Value.int .u8 x.toNat] (by rw[hsize];rfl) hnews
  have hin:l.length<cur.size:=by omega
  have hcell:w.cell? ⟨g,l.length,none⟩=some cur[l.length]:=by simp[World.cell?,h2,hin]
  have hfro:w.frozen? ⟨g,l.length,none⟩=false:=by
   obtain⟨lo,hi'⟩:=fz
   simp only[World.frozen?,h2,Bool.and_eq_false_iff,Cz]
   simp only at h3
   omega
  have hst:(storeCells ⟨g,l.length,none⟩ [Value.int .u8 x.toNat] 0).run Tryz.prog w= .ok () (w.setRow g (cur.setIfInBounds l.length (.int .u8 x.toNat))):=by
   have hs1:(store ((⟨g,l.length,none⟩:Addr).add 0) (.int .u8 x.toNat)).run Tryz.prog w= .ok () (w.setRow g (cur.setIfInBounds l.length (.int .u8 x.toNat))):=by
    rw[dV,gB,run_store Tryz.prog w _ _ _ rfl,hcell]
    simp[hfro,setCell_eq_setRow w g l.length cur _ fz _ h2]
   simp only[storeCells,jy,hs1,fI]
   rfl
  refine⟨.slice (some ⟨g,0,none⟩) (l.length+1) cap,w.setRow g (cur.setIfInBounds l.length (.int .u8 x.toNat)),?_,⟨g,cap,_,fz,by rw[hlen],h1,setRow_heap w g cur _ _ _ h2,by simpa using h3,by rw[hlen];exact hroom,h5,by simpa using h6,?_⟩,⟨rfl,rfl,rfl,by simp,fun k hk=>setRow_other w g k _ (by omega)⟩⟩
  ·simp[Builtin.append_,eT Tryz.underlying86,sizeOf,typeInfo,hi,hsize,Builtin.lenOf,hroom] at hf ⊢
   simp[hf,dV,hst]
  ·have hin':l.length<(cur.toList.set l.length (Value.int .u8 x.toNat)).length:=by simpa using hin
   have e1:(cur.toList.set l.length (Value.int .u8 x.toNat)).take l.length=cur.toList.take l.length:=List.take_set_of_le (aC _)
   have e2:(cur.toList.set l.length (Value.int .u8 x.toNat)).take (l.length+1)=aG l++[.int .u8 x.toNat]:=by
    rw[aK hin',e1,h7,List.getElem_set_self]
   rw[hlen,hbc,Array.toList_setIfInBounds]
   exact e2
 ·have holds:∀j u,(aG l)[j]? =some u→w.cell? ((⟨g,0,none⟩:Addr).add j)=some u:=fun j u hu=>by
   rw[dV,dN,wY w g j cur _ fz h2]
   rw[←h7,gX] at hu
   split at hu
   ·simpa using hu
   ·cases hu
  have hr:=run_append_grow (P:=Tryz.prog) w 86 ty 5 i (.int .u8 0) Tryz.underlying86 hi hz ⟨g,0,none⟩ l.length cap (aG l) (by rw[hsize,bq,aV]) holds a 1 1 [Value.int .u8 x.toNat] (by rw[hsize];rfl) hnews (by omega) (by omega) (pW (by omega) (by rw[hby];omega))
  have hge:=wX w (l.length+1) cap 5
  have hcm:=l8 w (l.length+1) cap 5 (by simp only[maxLen];omega)
  refine⟨_,_,hr,⟨w.heap.size,_,_,(0,0),by rw[hlen],hB,aS w.drew _,.inl (aC _),by rw[hlen];exact hge,hcm,?_,?_⟩,((aR _ w).drew).alloc (by simpa using hB) _⟩
  ·have hz1:(Value.int IntKind.u8 0).cells.size=1:=rfl
   simp only[Bj,mD,tT,hz1,bq,gu]
   omega
  ·simp only[p8,aM]
   rw[hlen,hbc,←aM,show l.length+1=(aG l++[Value.int .u8 x.toNat]).length by simp[bq]]
   exact je
theorem Eg {ops:Array Oper} {rest:List Oper} {o:Oper} {a:Act} {w:World} {Q:Exit→Act→World→Prop} (hgd:o.guard=none) (s y:Operand) (ho:o.op= .call {callee:= .builtin .append,args:=#[s,y],argTypes:=#[86,86]})
  (B:Nat) (v:Value) (l:List UInt8) (x:UInt8) (hv:a.eval s=v) (h:oJ w B v l) (ad:Addr) (hy:a.eval y= .slice (some ad) 1 1) (hx:w.cell? (ad.add 0)=some (.int .u8 x.toNat)) (hB:B≤w.heap.size) (hl:l.length≤1000000)
  (hK:∀v' w',oJ w' B v' (l++[x])→Below B w w'→wpList Tryz.prog ops Q rest (a.put o.dst v') w'):wpList Tryz.prog ops Q (o::rest) a w:=
 wpList_plain hgd fun _ hK'=>by
  obtain⟨v',w',hr,h2,h3⟩:=Ma w B o.type v l x h ad hx hB hl
  unfold Oper.wp execOp
  simp only[ho,resolve,invoke,builtin,jy,nX,fI,kW,dx,gW,hv,hy,hr]
  exact hK' _ _ (hK v' w' h2 h3)
theorem N8 (s:ByteArray) (W:World) (hs:s.size≤maxLen):∃(v:Value) (w':World),(convert 9 86 (.string s)).run Tryz.prog W= .ok v w'∧oJ w' W.heap.size v s.data.toList∧Below W.heap.size W w':=by
 have hsz:s.data.toList.length=s.size:=by show s.data.toList.length=s.data.size;simp
 have hge:=wX W s.size 0 5
 refine⟨_,_,run_bytes_of_string W 9 86 5 s Tryz.underlying9 Tryz.underlying86 Tryz.underlying5,⟨W.heap.size,_,_,_,by rw[hsz],aC _,aS W.drew _,.inr (aC _),by rw[hsz];exact hge,l8 _ _ _ _ hs,?_,?_⟩,((aR _ W).drew).alloc (aC _) _⟩
 ·have h1:s.data.size=s.size:=rfl
  simp only[bytesRow,Bj,Array.size_map,Array.size_replicate,h1]
  omega
 ·rw[hsz]
  simp only[bytesRow,p8,Array.toList_map]
  have:(s.data.toList.map fun b=>Value.int .u8 b.toNat).length=s.size:=by rw[jl,hsz]
  rw[←this,je]
  rfl
def zC (data:ByteArray) (n:Int):Nat:=min n.toNat (60000 - data.size)
def qh (k:Nat):List UInt8:=(List.range k).map fun i=>UInt8.ofNat (i%251)
theorem GD (k:Nat):qh (k+1)=qh k++[UInt8.ofNat (k%251)]:=by simp[qh,List.range_succ]
theorem CU (k:Nat):(qh k).length=k:=by simp[qh]
def lK (data:ByteArray) (n:Int):List UInt8:=data.data.toList++qh (zC data n)
theorem vU (data:ByteArray) (n:Int) (w:World) (hd:data.size≤maxLen):
  Calls Tryz.prog 17 #[.string data,.int .i64 n] w fun e w'=>e= .returned (.string (strOf (lK data n)))∧Below w.heap.size w w':=by
 obtain⟨v0,w0,hcv,ht0,hb0⟩:=N8 data w hd
 have hsz:data.data.toList.length=data.size:=by show data.data.toList.length=data.data.size;simp
 obtain⟨K,hK⟩:∃K,K=zC data n:=⟨_,rfl⟩
 have HK:=af hK
 have HL:=af (show lK data n=data.data.toList++qh K by rw[hK];rfl)
 have HT0:=af (ax ht0 hb0)
 obtain⟨g0,c0,cur0,fz0,rfl,-⟩:=id ht0
 clear ht0 hb0 hK
 go_enter Tryz.func17,Tryz.ntmps17
 go_wp2_with fail
 go_loopw [5,6] (fun v i wr=>∃k:Nat,k≤K∧i= .int .i64 k∧oJ wr w.heap.size v (data.data.toList++qh k)∧Below w.heap.size w wr) (fun _ i _=>K - (intOf i).toNat)
 case atStart=>exact⟨0,aU _,rfl,by simpa [qh] using HT0.out.1,HT0.out.2⟩
 case round=>
  obtain⟨k,hk,rfl,ht,hb⟩:=hrel
  have hk0:k≤60000:=by have:=HK.out;unfold zC at this;omega
  obtain⟨g,c,cur,fz,rfl,-⟩:=id ht
  obtain⟨m,hm⟩:∃m:Nat,m=data.size+k:=⟨_,rfl⟩
  have hlen:(data.data.toList++qh k).length=m:=by rw[av,hsz,CU,hm]
  have HM:=af hm
  clear hm
  rw[hlen]
  by_cases hlt:k<K
  ·have y1:(k:Int)<n:=by have:=HK.out;unfold zC at this;omega
   have y2:(k:Int)<60000:=by have:=HK.out;unfold zC at this;omega
   have y3:(m:Int)<60000:=by have:=HK.out;have:=HM.out;unfold zC at*;omega
   obtain⟨xb,hxb⟩:∃xb,xb=UInt8.ofNat (k%251):=⟨_,rfl⟩
   obtain⟨z,hz⟩:∃z:Int,z=(xb.toNat:Int):=⟨_,rfl⟩
   have q2:(k:Int)%251=z:=by rw[hz,hxb,d9];omega
   have hnew:=aS wr (.cells #[.int .u8 z] 5)
   have hbn:=aI wr (.cells #[.int .u8 z] 5)
   have HA:=af (show ∀(w1:World),w1=wr.alloc (.cells #[.int .u8 z] 5)→oJ w1 w.heap.size (.slice (some ⟨g,0,none⟩) m c) (data.data.toList++qh k)∧w1.cell? ((⟨wr.heap.size,0,none⟩:Addr).add 0)=some (.int .u8 (xb.toNat:Int))∧w.heap.size≤w1.heap.size from fun w1 e=>by
    subst e
    refine⟨by rw[←hlen];exact ht.below hbn,?_,aH hb.size hbn.size⟩
    rw[dV,←hz]
    unfold World.cell?
    simp only[hnew]
    rfl)
   have hl1:(data.data.toList++qh k).length≤1000000:=by omega
   have HL1:=af (ax hl1 hbn)
   have HX:=af hxb
   clear ht hnew hbn hl1 hxb hz hlen hk0
   go_wp2_with (first
    |(at_builtin;refine Eg rfl (.tmp 23) (.tmp 27) rfl w.heap.size (.slice (some ⟨g,0,none⟩) m c) (data.data.toList++qh k) xb rfl (HA.out _ rfl).1 ⟨wr.heap.size,0,none⟩ rfl (HA.out _ rfl).2.1 (HA.out _ rfl).2.2 HL1.out.1 ?_;go_must (intro v' w2 ht2 hb2;refine Stop.of ?_)))
   refine Stop.on ?_
   obtain⟨g2,c2,cur2,fz2,rfl,-⟩:=id ht2
   have HT2:=af ht2
   clear ht2
   obtain⟨m2,hm2⟩:∃m2:Nat,Hid ((data.data.toList++qh k++[xb]).length=m2):=⟨_,af rfl⟩
   rw[hm2.out] at HT2 ⊢
   go_wp2_with fail
   go_roundw
   case rel=>exact⟨k+1,by omega,by go_num,by rw[GD,←aM,←HX.out];exact HT2.out,hb.trans ((HL1.out.2.mono hb.size).trans hb2)⟩
   case measure=>simp[intOf];omega
  ·obtain rfl:k=K:=by omega
   have hst:=ht.cK.strOf
   rw[hlen,←HL.out] at hst
   have HB:=af hb
   obtain⟨str,hstr⟩:∃s,Hid (strOf (lK data n)=s):=⟨_,af rfl⟩
   rw[hstr.out] at hst
   clear ht hb hlen hk0 hlt
   by_cases y1:(k:Int)<n
   ·have y2:(k:Int)<60000∨¬(k:Int)<60000:=by omega
    have y3:¬(m:Int)<60000:=by have:=HK.out;have:=HM.out;unfold zC at*;omega
    rcases y2 with y2|y2
    all_goals
     go_wp2_with fail
     go_ret
     exact⟨by rw[hstr.out];rfl,HB.out⟩
   ·go_wp2_with fail
    go_ret
    exact⟨by rw[hstr.out];rfl,HB.out⟩
theorem xB (key:ByteArray):(key.size=0→key.toList.isEmpty=true∧key.toList=[])∧(key.size≠0→key.toList.isEmpty=false∧¬key.toList=[]):=by
 have hl:key.toList.length=key.size:=by rw[toList_eq];show key.data.toList.length=key.data.size;simp
 constructor
 ·intro h
  have:key.toList=[]:=aT (by omega)
  exact⟨by rw[this];rfl,this⟩
 ·intro h
  cases hq:key.toList with
  |nil=>rw[hq] at hl;simp at hl;omega
  |cons a b=>exact⟨rfl,by simp⟩
def qw (key value:ByteArray):Prop:=(1≤key.size∧key.size≤128)∧value.size≤49152
instance (key value:ByteArray):Decidable (qw key value):=by unfold qw;exact inferInstance
theorem xD (key value:ByteArray) (w:World):
  Calls Tryz.prog 38 #[.string key,.string value] w fun e w'=>w'=w∧e= .returned (.bool (decide (qw key value))):=by
 obtain⟨e1,e2⟩:=xB key
 by_cases h0:key.size=0
 ·obtain⟨z1,z2⟩:=e1 h0
  have hd:decide (qw key value)=false:=bn (fun h=>by have:=h.1.1;omega)
  rw[hd]
  clear e1 e2 hd h0
  go_enter Tryz.func38,Tryz.ntmps38
  go_wp2
  go_ret
  exact⟨rfl,by simp[*]⟩
 ·obtain⟨z1,z2⟩:=e2 h0
  by_cases h1:key.size≤128
  ·have x1:(key.size:Int)≤128:=by omega
   by_cases h2:value.size≤49152
   ·have x2:(value.size:Int)≤49152:=by omega
    have hd:decide (qw key value)=true:=dI ⟨⟨by omega,h1⟩,h2⟩
    rw[hd]
    clear e1 e2 hd h0
    go_enter Tryz.func38,Tryz.ntmps38
    go_wp2
    go_ret
    exact⟨rfl,by simp[*]⟩
   ·have x2:¬(value.size:Int)≤49152:=by omega
    have hd:decide (qw key value)=false:=bn (fun h=>h2 h.2)
    rw[hd]
    clear e1 e2 hd h0
    go_enter Tryz.func38,Tryz.ntmps38
    go_wp2
    go_ret
    exact⟨rfl,by simp[*]⟩
  ·have x1:¬(key.size:Int)≤128:=by omega
   have hd:decide (qw key value)=false:=bn (fun h=>h1 h.1.2)
   rw[hd]
   clear e1 e2 hd h0
   go_enter Tryz.func38,Tryz.ntmps38
   go_wp2
   go_ret
   exact⟨rfl,by simp[*]⟩
theorem Mj (value:ByteArray) (w:World) (hv:value.size≤1000000000):
  Calls Tryz.prog 39 #[.string value] w fun e w'=>w'=w∧e= .returned (.int .i64 ((2+eU value:Nat):Int)):=by
 by_cases h:value.size≤63
 ·have x1:(value.size:Int)≤63:=by omega
  have hb:eU value=0:=if_pos h
  rw[hb]
  clear hb h
  go_enter Tryz.func39,Tryz.ntmps39
  go_wp2_with fail
  go_ret
  exact⟨rfl,rfl⟩
 ·have x1:¬(value.size:Int)≤63:=by omega
  have hb:((2+eU value:Nat):Int)=3+((value.size:Int)+511)/512:=by unfold eU pz;rw[if_neg h];omega
  rw[hb]
  clear hb h
  have q1:IntKind.i64.wrap ((value.size:Int)+511)=(value.size:Int)+511:=aF _ (by omega)
  have q2:IntKind.i64.wrap (3+((value.size:Int)+511)/512)=3+((value.size:Int)+511)/512:=aF _ (by omega)
  go_enter Tryz.func39,Tryz.ntmps39
  go_wp2_with fail
  go_ret
  exact⟨rfl,rfl⟩
def costs (kv:List Pr):Nat:=2*kv.length+kG kv
theorem IA (kv:List Pr) (k:Nat) (h:k<kv.length):costs (kv.take (k+1))=costs (kv.take k)+(2+eU kv[k].2):=by
 unfold costs kG
 rw[aK h,bX,vQ,av]
 simp
 omega
theorem BA (kv:List Pr) (k:Nat):costs (kv.take k)≤costs kv:=by
 have e:kv=kv.take k++kv.drop k:=(bE k kv).symm
 have:costs kv=costs (kv.take k)+costs (kv.drop k):=by
  conv=>lhs;rw[e]
  unfold costs kG
  rw[bX,vQ,av]
  omega
 omega
theorem Oi (v:Value) (kv:List Pr) (S:Nat→Prop) (w:World) (h:iY w S v kv) (hl:kv.length≤100000) (hv:∀p∈kv,p.2.size≤1000000):
  Calls Tryz.prog 72 #[v] w fun e w'=>w'=w∧e= .returned (.int .i64 (costs kv)):=by
 obtain⟨ao,c,rfl,_,hc,_⟩:=id h
 have hb:costs kv≤100000*10000:=by
  have:∀l:List Pr,(∀p∈l,p.2.size≤1000000)→kG l≤9000*l.length:=by
   intro l hl
   induction l with
   |nil=>exact aU _
   |cons p l ih=>
    have h1:=hl p (aZ ..)
    have h2:=ih (fun q hq=>hl q (aW _ hq))
    have h3:kG (p::l)=eU p.2+kG l:=rfl
    have h4:eU p.2≤9000:=by unfold eU pz;split<;>omega
    rw[h3,bf];omega
  have:=this kv hv
  unfold costs;omega
 have HV:=af hv;have HB:=af hb
 clear hv hb
 have hc':c≤9223372036854775807:=by simpa [maxLen] using hc
 go_enter Tryz.func72,Tryz.ntmps72
 go_wp2_with fail
 go_loopw [3,4] (fun n i wr=>∃k:Nat,wr=w∧k≤kv.length∧i= .int .i64 k∧n= .int .i64 (costs (kv.take k))) (fun _ i _=>kv.length - (intOf i).toNat)
 case atStart=>exact⟨0,rfl,aU _,rfl,by simp[costs,kG]⟩
 case round=>
  obtain⟨k,hwr,hk,rfl,rfl⟩:=hrel
  subst hwr
  by_cases hlt:k<kv.length
  ·have x1:(k:Int)<(kv.length:Int):=by omega
   obtain⟨pb,po,e,d1,d2⟩:=h.at rfl k hlt
   cases e
   have hpb:=ay _ _ d2
   have HC:=af (Mj kv[k].2 wr (by have:=HV.out _ (bg hlt);omega))
   have HT:=af (IA kv k hlt)
   have hle:=BA kv (k+1)
   have q1:IntKind.i64.wrap ((costs (kv.take k):Int)+((2+eU kv[k].2:Nat):Int))=(costs (kv.take (k+1)):Int):=by
    rw[HT.out,aF _ (by have:=HB.out;have:=HT.out;omega)];omega
   obtain⟨a1,ha1⟩:∃a:Int,a=(costs (kv.take k):Int):=⟨_,rfl⟩
   obtain⟨a2,ha2⟩:∃a:Int,a=((2+eU kv[k].2:Nat):Int):=⟨_,rfl⟩
   rw[←ha1,←ha2] at q1
   rw[←ha2] at HC
   rw[←ha1]
   have HA:=af (ax ha1 ha2)
   clear ha1 ha2 hle d1
   go_wp2_with (first
    |(go_at_call 39;go_must ((refine HC.out.mono ?_);rintro e w1 ⟨hw,rfl⟩;subst w1)))
   go_roundw
   case rel=>exact⟨k+1,by trivial,by omega,by go_num,rfl⟩
   case measure=>simp[intOf];omega
  ·obtain rfl:k=kv.length:=by omega
   have x1:¬(kv.length:Int)<(kv.length:Int):=by omega
   go_wp2_with fail
   go_ret
   exact⟨rfl,by simp⟩
theorem Dh (r:Nat) (v:Value) (n:Nat) (w:World) (h:w.heap[r]? =some (.cells #[v] 91 (0,0))) (hv:∃ao c,v= .slice ao n c) (hn:n≤1000000):
  Calls Tryz.prog 33 #[.pointer (some ⟨r,0,none⟩)] w fun e w'=>w'=w∧e= .returned (.int .i64 ((n:Int) - 1)):=by
 obtain⟨ao,c,rfl⟩:=hv
 obtain⟨c0,_,lr⟩:=oM h
 have q1:IntKind.i64.wrap ((n:Int) - 1)=(n:Int) - 1:=aF _ (by omega)
 clear h
 go_enter Tryz.func33,Tryz.ntmps33
 go_wp2_with fail
 go_ret
 exact⟨rfl,rfl⟩
theorem Ao:(Tryz.prog.info? 77).map (fun i=>(i.zero,i.size,i.bytes))=some (some (.agg #[.slice none 0 0]),1,24):=by kernel_rfl
theorem H6 (w:World):(Instr.makeSlice 89 (.int .i64 1) (.int .i64 1)).run Tryz.prog w= .ok (.slice (some ⟨w.heap.size,0,none⟩) 1 1) (w.alloc (.cells #[.slice none 0 0] 77)):=by
 obtain⟨i,hi,hz,hsize,hby⟩:=rG Ao
 have:=run_make (P:=Tryz.prog) (w:=w) 89 77 i _ Tryz.underlying89 hi hz .i64 .i64 1 1 (by omega) (by omega) (by rw[hby];omega) (by omega)
 rw[this,hsize]
 have hm:madeCells (Value.agg #[Value.slice none 0 0]).cells (Int.toNat 1*1)=#[.slice none 0 0]:=by kernel_rfl
 rw[hm]
 rfl
theorem Dj (kv:List Pr):∀u∈dw kv,u.oneCell'=true:=by
 intro u hu
 unfold dw at hu
 obtain⟨p,_,hu⟩:=jQ.1 hu
 simp only[bD,fF,mY] at hu
 rcases hu with rfl|rfl<;>rfl
theorem QJ (w:World):
  Calls Tryz.prog 23 #[] w fun e w'=>e= .returned (.pointer (some ⟨w.heap.size+1,0,none⟩))∧w'.heap[w.heap.size]? =some (.cells #[.slice none 0 0] 77 (0,0))∧w'.heap[w.heap.size+1]? =some (.cells #[.slice (some ⟨w.heap.size,0,none⟩) 1 1] 91 (0,0))∧w'.heap.size=w.heap.size+2∧Below w.heap.size w w':=by
 have hmk:=H6 w
 go_enter Tryz.func23,Tryz.ntmps23
 go_wp2_with fail
 go_ret
 have h1:=aI w (.cells #[.slice none 0 0] 77)
 have h2:=aI (w.alloc (.cells #[.slice none 0 0] 77)) (.cells #[.slice (some ⟨w.heap.size,0,none⟩) 1 1] 91)
 refine⟨by simp,?_,?_,by simp,h1.trans (h2.mono h1.size)⟩
 ·exact(h2.block _ (by simp)).trans (aS w _)
 ·have:=aS (w.alloc (.cells #[.slice none 0 0] 77)) (.cells #[.slice (some ⟨w.heap.size,0,none⟩) 1 1] 91)
  simpa using this
theorem Oj (r g m c:Nat) (Lv:Value) (kv:List Pr) (S:Nat→Prop) (w:World) (h:w.heap[r]? =some (.cells #[.slice (some ⟨g,0,none⟩) (m+1) c] 91 (0,0))) (hc:w.cell? ⟨g,m,none⟩=some Lv) (hL:iY w S Lv kv) (hm:m≤1000000) (hcc:m+1≤c∧c≤maxLen) (hl:kv.length≤100000):
  Calls Tryz.prog 40 #[.pointer (some ⟨r,0,none⟩)] w fun e w'=>∃rt v,e= .returned (.pointer (some ⟨rt,0,none⟩))∧w'.heap[rt]? =some (.cells #[v] 77 (0,0))∧aP w' gL w.heap.size 127 2 v kv.length (dw kv)∧Below w.heap.size w w'∧w.heap.size≤rt∧v.ownBlock≠some rt:=by
 obtain⟨ao,lc,rfl,_,hlc,_⟩:=id hL
 obtain⟨c0,_,lr⟩:=oM h
 have hgl:=ay w _ hc
 have hcc2:c≤9223372036854775807:=by have:=hcc.2;simpa [maxLen] using this
 have q1:IntKind.i64.wrap (m:Int)=(m:Int):=aF _ (by omega)
 have q2:(m:Int)<(m:Int)+1:=by omega
 have q3:(0:Int)≤(m:Int):=by omega
 have HL:=af hL
 have HB:=af (show ∀W:World,Below w.heap.size w W→W.cell? ⟨r,0,none⟩=some (.slice (some ⟨g,0,none⟩) (m+1) c)∧W.cell? ⟨g,m,none⟩=some (.slice ao kv.length lc)∧r<W.heap.size∧g<W.heap.size from fun W hW=>
  ⟨(hW.cell (p:=⟨r,0,none⟩) lr).trans c0,(hW.cell (p:=⟨g,m,none⟩) hgl).trans hc,ak lr hW.size,ak hgl hW.size⟩)
 clear h hL
 go_enter Tryz.func40,Tryz.ntmps40
 go_wp2_with fail
 refine aO (fun W=>Below w.heap.size w W) (fun i=> !([12,13].contains i)) [0,1,2,3,4,5,6,7,8,9,10,11,12,13] rfl (by kernel_rfl) ((aR _ w).drew) ?_
 repeat ((refine bG (v:= ?_) rfl rfl (fun _ _ _ h=>h) rfl (fun W hW=> ?_) ?_);rotate_left;(focus ((try dsimp only at hW);obtain⟨r0,r1,r2,r3⟩:=HB.out W hW;(go_simp;first|done|with_reducible rfl)));(try simp only[Act.put,ai,au,aj]))
 refine dz rfl rfl rfl ?_;intro K hK;go_simp
 have hbn:=aI w.drew (.cells #[.slice none 0 0] 77)
 have hb1:Below w.heap.size w (w.drew.alloc (.cells #[.slice none 0 0] 77)):=((aR _ w).drew).trans hbn
 have hn1:=aS w.drew (.cells #[.slice none 0 0] 77)
 refine hK.out _ _ hb1 ?_
 (try simp only[Act.put,ai,au,aj])
 repeat ((refine bG (v:= ?_) rfl rfl (fun _ _ _ h=>h) rfl (fun W hW=> ?_) ?_);rotate_left;(focus ((try dsimp only at hW);obtain⟨r0,r1,r2,r3⟩:=HB.out W hW;(go_simp;first|done|with_reducible rfl)));(try simp only[Act.put,ai,au,aj]))
 refine iN rfl rfl rfl (by kernel_rfl) ?_;intro K hK;go_simp
 refine hK.out _ _ ?_
 refine bK ?_
 obtain⟨b1,hb1e⟩:∃b1:Nat,Hid (w.heap.size=b1):=⟨_,af rfl⟩
 obtain⟨w2,hw2⟩:∃w2:World,Hid ((w.alloc (.cells #[.slice ao kv.length lc] 77)).drew=w2):=⟨_,af rfl⟩
 have hb2:Below w.heap.size w w2:=by rw[←hw2.out];exact(aI w _).drew
 have h2:w2.heap[w.heap.size]? =some (.cells #[.slice ao kv.length lc] 77 (0,0)):=by
  rw[←hw2.out]
  exact aS w _
 rw[hw2.out]
 obtain⟨d0,_,l2⟩:=oM h2
 rw[hb1e.out] at d0 l2 ⊢
 have HB2:=af (ax hb2 h2)
 clear hb1 hbn hn1 hb2 h2 q1 q2 q3
 have hL2:iY w2 S (.slice ao kv.length lc) kv:=aX.below HL.out HB2.out.1
 have hbE:=aI w2 (.cells #[] 127)
 have hn0:aP (w2.alloc (.cells #[] 127)) gL w.heap.size 127 2 (.slice (some ⟨w2.heap.size,0,none⟩) 0 0) 0 []:=lq (w:=w2) (S:=gL) (B:=w.heap.size) (e:=127) (k:=2) [] 0 0 rfl rfl (aC _) (by simp[maxLen]) HB2.out.1.size (fun _ e=>e.elim)
 have HSRC:=af ((aX.below hL2 hbE).src (P:=Tryz.prog) Tryz.underlying45 (Dj kv))
 have HN0:=af hn0
 clear hL2 hn0
 go_wp2_with (first
  |(at_builtin;go_must ((refine bY rfl (.tmp 16) (.tmp 18) 45 45 rfl gL w.heap.size 127 2 32 _ Tryz.underlying45 gD rfl (.slice (some ⟨w2.heap.size,0,none⟩) 0 0) 0 [] rfl HN0.out (.slice ao kv.length lc) kv.length _ rfl HSRC.out (fun _ e=>e.elim) ?_ ?_ ?_ ?_);(focus (have:=HB2.out.1.size;simp only[aQ];omega));(focus (unfold maxLen;omega));(focus omega);intro ao3 c3 w3 hown3 hk3 hb3 hd3;refine Stop.of ?_)))
 refine Stop.on ?_
 rw[dN,iK] at hown3
 have HO3:=af (ax hown3 hb3)
 clear hown3 hb3 hk3 hd3 d0 l2
 go_wp2_with fail
 go_ret
 have hb4:=aI w3 (.cells #[.slice ao3 kv.length c3] 77)
 have hb24:Below w.heap.size w2 w3:=(hbE.mono HB2.out.1.size).trans HO3.out.2
 have hb13:=HB2.out.1.trans hb24
 refine⟨w3.heap.size,_,rfl,aS w3 _,HO3.out.1.below hb4,hb13.trans (hb4.mono hb13.size),hb13.size,fun e=> ?_⟩
 exact absurd (HO3.out.1.1.lt _ e).2 (di _)
theorem EM (r tp:Value) (rb:Nat) (v:Value) (n:Nat) (w:World) (hr:r= .pointer (some ⟨rb,0,none⟩)) (h:w.heap[rb]? =some (.cells #[v] 91 (0,0))) (hv:∃ao c,v= .slice ao n c) (hn:n≤1000000):
  Calls Tryz.prog 42 #[r,tp,.bool false] w fun e w'=>w'=w∧e= .returned (.int .i64 ((n:Int) - 1)):=by
 subst hr
 have HD:=af (Dh rb v n w h hv hn)
 go_enter Tryz.func42,Tryz.ntmps42
 go_wp2_with (first
  |(go_at_call 33;go_must ((refine HD.out.mono ?_);rintro e w1 ⟨hw,rfl⟩;subst w1)))
 go_ret
 exact⟨rfl,rfl⟩
theorem Di (r rt n:Nat) (cv:Value) (ao:Option Addr) (ln lc:Nat) (Ls:List Value) (S:Nat→Prop) (B:Nat) (w:World) (h:w.heap[r]? =some (.cells #[cv] 91 (0,0))) (hO:aP w S B 77 1 cv n Ls) (ht:w.heap[rt]? =some (.cells #[.slice ao ln lc] 77 (0,0))) (hS:∀g,S g→g<w.heap.size) (hB:B≤w.heap.size) (hn:n≤100000) (hcr:cv.ownBlock≠some r) (hct:cv.ownBlock≠some rt):
  Calls Tryz.prog 42 #[.pointer (some ⟨r,0,none⟩),.pointer (some ⟨rt,0,none⟩),.bool true] w fun e w'=>e= .returned (.int .i64 n)∧∃cv',w'.heap[r]? =some (.cells #[cv'] 91 (0,0))∧aP w' S B 77 1 cv' (n+1) (Ls++[.slice ao ln lc])∧cv'.ownBlock≠some r∧Keep (fun g=>g=r∨cv.ownBlock=some g) w w'∧∀g,g<w.heap.size→cv.ownBlock≠some g→cv'.ownBlock≠some g:=by
 obtain⟨co,cc,rfl,_,hcc,_,_⟩:=aX.form hO.cK
 obtain⟨c0,f0,lr⟩:=oM h
 obtain⟨t0,_,lt⟩:=oM ht
 have hrt:rt≠r:=by
  rintro rfl
  rw[h] at ht
  injection ht with ht
  injection ht with _ h2
  exact absurd h2 (by decide)
 have HO:=af hO;have HH:=af h;have HNE:=af hrt;have HCR:=af hcr;have HCT:=af hct
 clear hO h ht hrt hcr hct
 go_enter Tryz.func42,Tryz.ntmps42
 go_wp2_with fail
 refine aO (fun W=>W.cell? ⟨r,0,none⟩=some (.slice co n cc)∧W.cell? ⟨rt,0,none⟩=some (.slice ao ln lc)∧r<W.heap.size∧rt<W.heap.size∧W.frozen? ⟨r,0,none⟩=false) (fun i=> !([8,9,12].contains i)) [0,1,2,3,4,5,6,7,8,9,10,11,12] rfl (by kernel_rfl) ⟨c0,t0,lr,lt,f0⟩ ?_
 repeat ((refine bG (v:= ?_) rfl rfl (fun _ _ _ h=>h) rfl (fun W hW=> ?_) ?_);rotate_left;(focus ((try dsimp only at hW);obtain⟨r0,r1,r2,r3,r4⟩:=hW;(go_simp;first|done|with_reducible rfl)));(try simp only[Act.put,ai,au,aj]))
 refine dz rfl rfl rfl ?_;intro K hK;go_simp
 obtain⟨w1,hw1⟩:∃w1:World,Hid ((w.alloc (.cells #[.slice ao ln lc] 77)).drew=w1):=⟨_,af rfl⟩
 have hb1:Below w.heap.size w w1:=by rw[←hw1.out];exact(aI w _).drew
 have hsrc:Src Tryz.prog 1 89 (.slice (some ⟨w.heap.size,0,none⟩) 1 1) 1 [.slice ao ln lc] w1:=by
  rw[←hw1.out]
  have:=fK (P:=Tryz.prog) (w:=w.drew) [.slice ao ln lc] 77 1 1 1 (tx:=89) (e':=77) rfl Tryz.underlying89 rfl (by simp[Value.oneCell'])
  exact this
 rw[hw1.out]
 have HS1:=af (ax hb1 hsrc)
 have hO1:=af (HO.out.below hb1)
 refine hK.out _ _ ⟨(hb1.cell (p:=⟨r,0,none⟩) lr).trans c0,(hb1.cell (p:=⟨rt,0,none⟩) lt).trans t0,ak lr hb1.size,ak lt hb1.size,(World.frozen?_of_block (a:=⟨r,0,none⟩) (hb1.block r lr)).trans f0⟩ ?_
 (try simp only[Act.put,ai,au,aj])
 clear hb1 hsrc
 repeat ((refine bG (v:= ?_) rfl rfl (fun _ _ _ h=>h) rfl (fun W hW=> ?_) ?_);rotate_left;(focus ((try dsimp only at hW);obtain⟨r0,r1,r2,r3,r4⟩:=hW;(go_simp;first|done|with_reducible rfl)));(try simp only[Act.put,ai,au,aj]))
 refine dz rfl rfl rfl ?_;intro K hK
 refine mE (.tmp 12) (.tmp 16) 89 89 rfl S B 77 1 24 _ Tryz.underlying89 Ao rfl (.slice co n cc) n Ls rfl hO1.out (.slice (some ⟨w.heap.size,0,none⟩) 1 1) 1 [.slice ao ln lc] rfl HS1.out.2 (fun g hg=>ak (hS g hg) HS1.out.1.size) (aH hB HS1.out.1.size) (by unfold maxLen;omega) (by omega) ?_
 intro ao2 c2 w2 hown2 hk2 hb2 hd2
 have hr1:=(HS1.out.1.block r lr).trans HH.out
 have hl1:=(ah.1 hr1).1
 have hr2:=(hk2.block r hl1 HCR.out).trans hr1
 obtain⟨e0,ef,e1⟩:=oM hr2
 have HX2:=af (ax hown2 (ax hk2 (ax hr2 (ax (hd2 r hl1 HCR.out) (show ∀g,g<w.heap.size→(Value.slice co n cc).ownBlock≠some g→(Value.slice ao2 (n+1) c2).ownBlock≠some g from fun g hg hn=>hd2 g (ak hg HS1.out.1.size) hn)))))
 have HL1:=af hl1
 have ht1:=(HS1.out.1.cell (p:=⟨rt,0,none⟩) lt).trans t0
 have lt1:=ak lt HS1.out.1.size
 have ht2:=(hk2.cell (p:=⟨rt,0,none⟩) lt1 HCT.out).trans ht1
 have lt2:=ak lt1 hk2.size
 refine hK.out _ _ ⟨e0,ht2,e1,lt2,ef⟩ ?_
 (try simp only[Act.put,ai,au,aj])
 clear hown2 hk2 hb2 hd2
 repeat ((refine bG (v:= ?_) rfl rfl (fun _ _ _ h=>h) rfl (fun W hW=> ?_) ?_);rotate_left;(focus ((try dsimp only at hW);obtain⟨r0,r1,r2,r3,r4⟩:=hW;(go_simp;first|done|with_reducible rfl)));(try simp only[Act.put,ai,au,aj]))
 refine iN rfl rfl rfl (by kernel_rfl) ?_;intro K hK;go_simp
 refine hK.out _ _ ?_
 refine bK ?_
 have hk3:Keep (· =r) w2 (w2.setCell ⟨r,0,none⟩ (.slice ao2 (n+1) c2)):=(Keep.refl (· =r) _).setCell (p:=⟨r,0,none⟩) (.inr rfl) _
 have hr3:(w2.setCell ⟨r,0,none⟩ (.slice ao2 (n+1) c2)).heap[r]? =some (.cells #[.slice ao2 (n+1) c2] 91 (0,0)):=by
  simp[World.setCell,aL,HX2.out.2.2.1]
 have HD:=af (Dh r _ (n+1) _ hr3 ⟨ao2,c2,rfl⟩ (by omega))
 have HF:=af (ax hk3 hr3)
 clear hk3 hr3
 go_wp2_with (first
  |(go_at_call 33;go_must ((refine HD.out.mono ?_);rintro e w4 ⟨hw,rfl⟩;subst w4)))
 go_ret
 refine⟨by simp,_,HF.out.2,HX2.out.1.keep (fun g hg hl _=>⟨HF.out.1.block g hl (fun e=>HX2.out.2.2.2.1 (e▸hg)),?_⟩),HX2.out.2.2.2.1,?_,HX2.out.2.2.2.2⟩
 ·rename_i hns
  exact hns
 ·exact(((Keep.of_below HS1.out.1 (fun g=>g=r∨(Value.slice co n cc).ownBlock=some g)).trans (HX2.out.2.1.mono (fun g _ e=> .inr e)) (fun _ _ e=>e)).trans (HF.out.1.mono (fun g _ e=> .inl e)) (fun _ _ e=>e))
def tJ (F:Nat→Prop) (w:World):Nat→Prop:=fun g=>g<w.heap.size∧¬F g
def iG (F:Nat→Prop) (w w':World):Nat→Prop:=fun g=>F g∨(w.heap.size≤g∧g<w'.heap.size)
theorem z8 {F:Nat→Prop} {w w':World} (h:w.heap.size≤w'.heap.size) (g:Nat):tJ (iG F w w') w' g↔tJ F w g:=by
 constructor
 ·rintro⟨h1,h2⟩
  have h3:¬F g:=fun e=>h2 (.inl e)
  refine⟨?_,h3⟩
  apply fu
  intro hn
  exact h2 (.inr ⟨by omega,h1⟩)
 ·rintro⟨h1,h2⟩
  exact⟨by omega,fun e=>e.elim h2 (fun e=>by omega)⟩
def Qp (F:Nat→Prop) (w:World) (r rt:Nat) (cms:List (List Pr)) (kv:List Pr) (cv:Value) (Ls:List Value):Prop:=
 w.heap[r]? =some (.cells #[cv] 91 (0,0))∧aP w (tJ F w) 0 77 1 cv cms.length Ls∧cv.ownBlock≠some r∧cv.ownBlock≠some rt∧
 (∀i (hi:i<cms.length),∃Lv,Ls[i]? =some Lv∧iY w (fun g=>tJ F w g∨g=r∨cv.ownBlock=some g∨g=rt) Lv cms[i])∧pR w (fun g=>tJ F w g∨g=r∨cv.ownBlock=some g) rt kv∧F r∧F rt∧r≠rt
def uM (F:Nat→Prop) (w:World) (r rt:Nat) (cms:List (List Pr)) (kv:List Pr):Prop:=∃cv Ls,Qp F w r rt cms kv cv Ls
section
variable {F:Nat→Prop} {w w':World} {r rt:Nat} {cms:List (List Pr)} {kv:List Pr}
theorem Qp.sub {cv:Value} {Ls:List Value} (h:Qp F w r rt cms kv cv Ls):∀g,(tJ F w g∨g=r∨cv.ownBlock=some g)→g<w.heap.size:=by
 obtain⟨h1,h2,_⟩:=h
 rintro g (hg|rfl|hg)
 ·exact hg.1
 ·exact(ah.1 h1).1
 ·exact(h2.1.lt g hg).2
theorem uM.prog (h:uM F w r rt cms kv) (hk:Keep (fun g=>¬F g) w w'):uM F w' r rt cms kv:=by
 obtain⟨cv,Ls,h1,h2,h3,h4,h5,⟨h6,v,h7,h8⟩,h9,h10,h11⟩:=h
 have hF:∀g,g<w.heap.size→¬tJ F w g→F g:=fun g hg hn=>fu fun e=>hn ⟨hg,e⟩
 have hO:∀g,F g→¬tJ F w' g:=fun g hg e=>e.2 hg
 have hb:∀g,g<w.heap.size→F g→w'.heap[g]? =w.heap[g]? :=fun g hg hf=>hk.block g hg (fun e=>e hf)
 refine⟨cv,Ls,(hb r (ah.1 h1).1 h9).trans h1,h2.keep (fun g _ hl hn=>⟨hb g hl (hF g hl hn),hO g (hF g hl hn)⟩),h3,h4,fun i hi=> ?_,⟨fun e=> ?_,v,(hb rt (ah.1 h7).1 h10).trans h7,aX.keep h8 fun g _ hl hn=> ?_⟩,h9,h10,h11⟩
 ·obtain⟨Lv,q1,q2⟩:=h5 i hi
  refine⟨Lv,q1,aX.keep q2 fun g _ hl hn=> ?_⟩
  have hf:=hF g hl (fun e=>hn (.inl e))
  exact⟨hb g hl hf,fun e=>e.elim (hO g hf) (fun e=>hn (.inr e))⟩
 ·exact e.elim (hO rt h10) (fun e=>h6 (.inr e))
 ·have hf:=hF g hl (fun e=>hn (.inl e))
  exact⟨hb g hl hf,fun e=>e.elim (hO g hf) (fun e=>hn (.inr e))⟩
theorem Qp.tree {cv:Value} {Ls:List Value} {kv':List Pr} (h:Qp F w r rt cms kv cv Ls) (hk:Keep (· =rt) w w') (hR:pR w' (fun g=>tJ F w g∨g=r∨cv.ownBlock=some g) rt kv'):Qp (iG F w w') w' r rt cms kv' cv Ls:=by
 have hs:=h.sub
 obtain⟨h1,h2,h3,h4,h5,h6,h9,h10,h11⟩:=h
 have hO:=fun g=>z8 (F:=F) hk.size g
 have e:(fun g=>tJ (iG F w w') w' g∨g=r∨cv.ownBlock=some g)=fun g=>tJ F w g∨g=r∨cv.ownBlock=some g:=by
  funext g;rw[hO g]
 refine⟨(hk.block r (ah.1 h1).1 h11).trans h1,h2.keep (fun g hg hl hn=>⟨hk.block g hl (fun e=>h4 (e▸hg)),fun e=>hn ((hO g).1 e)⟩),h3,h4,fun i hi=> ?_,by rw[e];exact hR,.inl h9,.inl h10,h11⟩
 obtain⟨Lv,q1,q2⟩:=h5 i hi
 refine⟨Lv,q1,aX.keep q2 fun g _ hl hn=>⟨hk.block g hl (fun e=>hn (.inr (.inr (.inr e)))),fun e=>hn (e.imp (hO g).1 id)⟩⟩
theorem uM.put (h:uM F w r rt cms kv) (key value:ByteArray) (hr:dY kv) (hl:kv.length≤90000):
  Calls Tryz.prog 41 #[.pointer (some ⟨rt,0,none⟩),.string key,.string value] w fun e w'=>e= .returned (.tuple #[])∧uM (iG F w w') w' r rt cms (jv kv key value)∧Keep (· =rt) w w':=by
 obtain⟨cv,Ls,h⟩:=h
 refine(Mc rt kv key value w _ h.sub h.2.2.2.2.2.1 hr hl).mono ?_
 rintro e w' ⟨rfl,hR,hk⟩
 exact⟨rfl,⟨cv,Ls,h.tree hk hR⟩,hk⟩
theorem uM.delete (h:uM F w r rt cms kv) (key:ByteArray) (hr:dY kv) (hl:kv.length≤90000):
  Calls Tryz.prog 74 #[.pointer (some ⟨rt,0,none⟩),.string key] w fun e w'=>e= .returned (.bool (cu kv key).isSome)∧uM (iG F w w') w' r rt cms (iW kv key)∧Keep (· =rt) w w':=by
 obtain⟨cv,Ls,h⟩:=h
 refine(yg rt kv key w _ h.sub h.2.2.2.2.2.1 hr (by omega)).mono ?_
 rintro e w' ⟨rfl,hR,hk⟩
 exact⟨rfl,⟨cv,Ls,h.tree hk hR⟩,hk⟩
theorem uM.get (h:uM F w r rt cms kv) (key:ByteArray) (hr:dY kv) (hl:kv.length≤90000):
  Calls Tryz.prog 73 #[.pointer (some ⟨rt,0,none⟩),.string key] w fun e w'=>e= .returned (.tuple #[.string ((cu kv key).getD ⟨#[]⟩),.bool (cu kv key).isSome])∧w'=w:=by
 obtain⟨cv,Ls,h⟩:=h
 exact Mi rt kv key w _ h.2.2.2.2.2.1 hr (by omega)
theorem uM.done (h:uM F w r rt cms kv) (hl:cms.length≤100000):
  Calls Tryz.prog 33 #[.pointer (some ⟨r,0,none⟩)] w fun e w'=>w'=w∧e= .returned (.int .i64 ((cms.length:Int) - 1)):=by
 obtain⟨cv,Ls,h1,h2,_⟩:=h
 obtain⟨ao,c,rfl,_⟩:=aX.form h2.cK
 exact Dh r _ cms.length w h1 ⟨ao,c,rfl⟩ (by omega)
def IU (F:Nat→Prop) (w:World) (r:Nat) (cms:List (List Pr)):Prop:=∃cv Ls,
 w.heap[r]? =some (.cells #[cv] 91 (0,0))∧aP w (tJ F w) 0 77 1 cv cms.length Ls∧cv.ownBlock≠some r∧
 (∀i (hi:i<cms.length),∃Lv,Ls[i]? =some Lv∧iY w (fun g=>tJ F w g∨g=r∨cv.ownBlock=some g) Lv cms[i])∧F r
theorem iY.less {S S':Nat→Prop} {v:Value} {ps:List Pr} (h:iY w S v ps) (hS:∀g,S' g→S g):iY w S' v ps:=aX.keep h fun g _ _ hn=>⟨rfl,fun e=>hn (hS g e)⟩
theorem uM.forget (h:uM F w r rt cms kv):IU F w r cms:=by
 obtain⟨cv,Ls,h1,h2,h3,h4,h5,h6,h9,h10,h11⟩:=h
 refine⟨cv,Ls,h1,h2,h3,fun i hi=> ?_,h9⟩
 obtain⟨Lv,q1,q2⟩:=h5 i hi
 exact⟨Lv,q1,q2.less (fun g e=>e.imp id (fun e=>e.imp id .inl))⟩
theorem IU.prog (h:IU F w r cms) (hk:Keep (fun g=>¬F g) w w'):IU F w' r cms:=by
 obtain⟨cv,Ls,h1,h2,h3,h5,h9⟩:=h
 have hF:∀g,g<w.heap.size→¬tJ F w g→F g:=fun g hg hn=>fu fun e=>hn ⟨hg,e⟩
 have hO:∀g,F g→¬tJ F w' g:=fun g hg e=>e.2 hg
 have hb:∀g,g<w.heap.size→F g→w'.heap[g]? =w.heap[g]? :=fun g hg hf=>hk.block g hg (fun e=>e hf)
 refine⟨cv,Ls,(hb r (ah.1 h1).1 h9).trans h1,h2.keep (fun g _ hl hn=>⟨hb g hl (hF g hl hn),hO g (hF g hl hn)⟩),h3,fun i hi=> ?_,h9⟩
 obtain⟨Lv,q1,q2⟩:=h5 i hi
 refine⟨Lv,q1,aX.keep q2 fun g _ hl hn=> ?_⟩
 have hf:=hF g hl (fun e=>hn (.inl e))
 exact⟨hb g hl hf,fun e=>e.elim (hO g hf) (fun e=>hn (.inr e))⟩
theorem IU.done (h:IU F w r cms) (hl:cms.length≤100000):
  Calls Tryz.prog 33 #[.pointer (some ⟨r,0,none⟩)] w fun e w'=>w'=w∧e= .returned (.int .i64 ((cms.length:Int) - 1)):=by
 obtain⟨cv,Ls,h1,h2,_⟩:=h
 obtain⟨ao,c,rfl,_⟩:=aX.form h2.cK
 exact Dh r _ cms.length w h1 ⟨ao,c,rfl⟩ (by omega)
theorem uM.KQ (h:uM F w r rt cms kv) (hl:cms.length≤100000):
  Calls Tryz.prog 42 #[.pointer (some ⟨r,0,none⟩),.pointer (some ⟨rt,0,none⟩),.bool false] w fun e w'=>w'=w∧e= .returned (.int .i64 ((cms.length:Int) - 1)):=by
 obtain⟨cv,Ls,h1,h2,_⟩:=h
 obtain⟨ao,c,rfl,_⟩:=aX.form h2.cK
 exact EM _ _ r _ cms.length w rfl h1 ⟨ao,c,rfl⟩ (by omega)
theorem uM.IB (h:uM F w r rt cms kv) (hl:cms.length≤100000):
  Calls Tryz.prog 42 #[.pointer (some ⟨r,0,none⟩),.pointer (some ⟨rt,0,none⟩),.bool true] w fun e w'=>e= .returned (.int .i64 cms.length)∧IU (iG F w w') w' r (cms++[kv])∧∃M:Nat→Prop,Keep M w w'∧∀g,M g→F g:=by
 obtain⟨cv,Ls,hX⟩:=h
 have hs:=hX.sub
 obtain⟨h1,h2,h3,h4,h5,⟨h6,v,h7,h8⟩,h9,h10,h11⟩:=hX
 obtain⟨vo,vc,rfl,_⟩:=aX.form h8
 refine(Di r rt cms.length cv vo kv.length vc Ls _ 0 w h1 h2 h7 (fun g hg=>hg.1) (aU _) hl h3 h4).mono ?_
 rintro e w' ⟨rfl,cv',b1,b2,b3,b4,b5⟩
 have hO:=fun g=>z8 (F:=F) b4.size g
 have hrowF:∀g,cv.ownBlock=some g→F g:=fun g hg=>fu fun e=>h2.2 g hg ⟨(h2.1.lt g hg).2,e⟩
 have hnew:∀g,cv'.ownBlock=some g→cv.ownBlock=some g∨w.heap.size≤g:=fun g hg=>by
  apply fu
  intro hn
  exact b5 g (Qt fun e=>hn (.inr e)) (fun e=>hn (.inl e)) hg
 have hlen:(cms++[kv]).length=cms.length+1:=by simp
 refine⟨rfl,⟨cv',Ls++[.slice vo kv.length vc],b1,?_,b3,fun i hi=> ?_,.inl h9⟩,fun g=>g=r∨cv.ownBlock=some g,b4,fun g e=>e.elim (fun e=>e▸h9) (hrowF g)⟩
 ·rw[hlen]
  exact b2.keep (fun g _ hl hn=>⟨rfl,fun e=>hn ((hO g).1 e)⟩)
 ·have key:∀Lv ps,iY w (fun g=>tJ F w g∨g=r∨cv.ownBlock=some g) Lv ps→iY w' (fun g=>tJ (iG F w w') w' g∨g=r∨cv'.ownBlock=some g) Lv ps:=fun Lv ps hp=>
   aX.keep hp fun g _ hl hn=>⟨b4.block g hl (fun e=>hn (.inr e)),fun e=>by
    rcases e with e|e|e
    ·exact hn (.inl ((hO g).1 e))
    ·exact hn (.inr (.inl e))
    ·rcases hnew g e with e|e
     ·exact hn (.inr (.inr e))
     ·omega⟩
  have hLs:Ls.length=cms.length:=by have:=h2.1.1;omega
  by_cases hi2:i<cms.length
  ·obtain⟨Lv,q1,q2⟩:=h5 i hi2
   refine⟨Lv,by rw[fq (by omega)];exact q1,?_⟩
   rw[List.getElem_append_left hi2]
   exact key _ _ (q2.less (fun g e=>e.imp id (fun e=>e.imp id .inl)))
  ·have e:i=cms.length:=by omega
   subst e
   refine⟨.slice vo kv.length vc,by rw[←hLs];simp,?_⟩
   rw[List.getElem_append_right (by omega)]
   simp only[rQ,List.getElem_cons_zero]
   exact key _ _ h8
theorem IU.begin {last:List Pr} (h:IU F w r (cms++[last])) (hl:cms.length≤100000) (hll:last.length≤100000):
  Calls Tryz.prog 40 #[.pointer (some ⟨r,0,none⟩)] w fun e w'=>∃rt',e= .returned (.pointer (some ⟨rt',0,none⟩))∧uM (iG F w w') w' r rt' (cms++[last]) last∧Below w.heap.size w w':=by
 obtain⟨cv,Ls,h1,h2,h3,h5,h9⟩:=h
 have hlen:(cms++[last]).length=cms.length+1:=by simp
 rw[hlen] at h2
 obtain⟨g,c,rfl,hc1,hc2,hg1,hg2⟩:=h2.wO (by omega)
 obtain⟨Lv,q1,q2⟩:=h5 cms.length (by rw[hlen];omega)
 have e1:(cms++[last])[cms.length]'(by rw[hlen];omega)=last:=by simp
 rw[e1] at q2
 have hcell:w.cell? ⟨g,cms.length,none⟩=some Lv:=by
  have:=h2.1.cells (g:=g) rfl cms.length Lv q1
  rwa [dV,dN] at this
 refine(Oj r g cms.length c Lv last _ w h1 hcell q2 (by omega) ⟨hc1,hc2⟩ hll).mono ?_
 rintro e w' ⟨rt',v',rfl,b1,b2,b3,b4,b5⟩
 have hO:=fun g=>z8 (F:=F) b3.size g
 have hlt:=(ah.1 h1).1
 have hgl:g<w.heap.size:=hg2
 have hltr:=(ah.1 b1).1
 refine⟨rt',rfl,⟨_,Ls,(b3.block r hlt).trans h1,?_,h3,?_,fun i hi=> ?_,⟨?_,v',b1,?_⟩,.inl h9,.inr ⟨b4,hltr⟩,by omega⟩,b3⟩
 ·rw[hlen]
  exact h2.keep (fun g hg hl hn=>⟨b3.block g hl,fun e=>hn ((hO g).1 e)⟩)
 ·intro e
  injection e with e
  have e:g=rt':=e
  omega
 ·obtain⟨Lv,q1,q2⟩:=h5 i hi
  refine⟨Lv,q1,aX.keep q2 fun g' _ hl hn=>⟨b3.block g' hl,fun e=> ?_⟩⟩
  rcases e with e|e|e|e
  ·exact hn (.inl ((hO g').1 e))
  ·exact hn (.inr (.inl e))
  ·exact hn (.inr (.inr e))
  ·omega
 ·rintro(e|e|e)
  ·have:=((hO rt').1 e).1;omega
  ·omega
  ·injection e with e
   have e:g=rt':=e
   omega
 ·have hown:=b2.lo
  refine aX.keep b2.cK fun g' hg' hl _=>⟨rfl,fun e=> ?_⟩
  have hb:=hown g' hg'
  rcases e with e|e|e
  ·have:=((hO g').1 e).1;omega
  ·omega
  ·injection e with e
   have e:g=g':=e
   omega
end
section
variable {b:iZ} {w w':World} {v t N R dn u P:Nat} {kv kv0:List Pr} {ch:Bool}
theorem VB.lC {S:Nat→Prop} (h:VB b w S):Keep (fun g=>¬b.F g) b.w w:=⟨h.os,h.tape,h.output,h.size,fun k _ hn=>h.block k (Classical.not_not.1 hn)⟩
theorem VB.re {S:Nat→Prop} (h:VB b w S):VB ⟨b.F,w⟩ w S:=⟨rfl,rfl,rfl,aC _,fun _ _=>rfl,fun g hg=>ak (h.fs g hg) h.size,h.lo⟩
theorem oI.lC (h:oI b v N R dn u kv w):Keep (fun g=>¬b.F g) b.w w:=by obtain⟨_,_,_,_,_,_,_,_,_,_,_,h,_⟩:=h;exact h.lC
theorem kH.lC (h:kH b v t N R dn u kv0 kv ch P w):Keep (fun g=>¬b.F g) b.w w:=by obtain⟨_,_,_,_,_,_,_,_,_,_,_,h,_⟩:=h;exact h.lC
theorem qE.lC (h:qE b v t N R dn u kv0 w):Keep (fun g=>¬b.F g) b.w w:=by obtain⟨_,_,_,_,_,_,_,_,_,h,_⟩:=h;exact h.lC
theorem oI.re (h:oI b v N R dn u kv w):oI ⟨b.F,w⟩ v N R dn u kv w:=by
 obtain⟨S,pg,d,σ,l,p,f,root,es,tb,hA,hB,h1⟩:=h
 exact⟨S,pg,d,σ,l,p,f,root,es,tb,hA,hB.re,h1⟩
theorem kH.re (h:kH b v t N R dn u kv0 kv ch P w):kH ⟨b.F,w⟩ v t N R dn u kv0 kv ch P w:=by
 obtain⟨S,tr,mp,σ,root,es,tb,root0,es0,tb0,hA,hB,h1⟩:=h
 exact⟨S,tr,mp,σ,root,es,tb,root0,es0,tb0,hA,hB.re,h1⟩
theorem qE.re (h:qE b v t N R dn u kv0 w):qE ⟨b.F,w⟩ v t N R dn u kv0 w:=by
 obtain⟨S,tr,mp,σ,ch,root0,es0,tb0,hA,hB,h1⟩:=h
 exact⟨S,tr,mp,σ,ch,root0,es0,tb0,hA,hB.re,h1⟩
theorem qE.blocks (h:qE b v t N R dn u kv0 w):
  Calls Tryz.prog 24 #[.pointer (some ⟨v,0,none⟩)] w fun e w'=>e= .returned (.int .i64 N)∧w'=w.drew:=by
 obtain⟨S,tr,mp,σ,ch,root0,es0,tb0,hA,hB,h1,h2,h3,h4,_⟩:=h
 obtain⟨_,_,hx⟩:=hA.tx
 obtain⟨Sp,T,hI,_⟩:=hx.inv
 refine(I6 v mp.pg mp.d _ _ _ _ Sp w hA.obj hI.pg).mono ?_
 rintro e w' ⟨rfl,rfl⟩
 exact⟨by rw[h4],rfl⟩
end
theorem Keep.out {F F0:Nat→Prop} {w w':World} (h:Keep (fun g=>¬F g) w w') (hF:∀g,F0 g→F g):Keep (fun g=>¬F0 g) w w':=h.mono fun g _ e hf=>e (hF g hf)
def mR (t rt:Nat) (room log err:Int) (ch:Bool):Value:= .agg #[.pointer (some ⟨t,0,none⟩),.pointer (some ⟨rt,0,none⟩),.int .i64 room,.int .i64 log,.int .i64 err,.bool ch]
theorem uM.Ru {F:Nat→Prop} {w:World} {r rt:Nat} {cms:List (List Pr)} {kv:List Pr} (h:uM F w r rt cms kv):∃vv S,w.heap[rt]? =some (.cells #[vv] 77 (0,0))∧iY w S vv kv:=by
 obtain⟨cv,Ls,_,_,_,_,_,⟨_,vv,h1,h2⟩,_⟩:=h
 exact⟨vv,_,h1,h2⟩
theorem fM {fn:Func} {p q:Tmp} {ty:TypeId} (h:fn.results=#[.cell p ty,.tmp q]) (tmps:Array Value) (w:World) (g:Nat) (y x:Value)
  (hp:tmps.getD p undef= .pointer (some ⟨g,0,none⟩)) (hl:(loadVar ty ⟨g,0,none⟩).run Tryz.prog w= .ok y w) (hq:tmps.getD q undef=x):
  (results fn tmps).run Tryz.prog w= .ok (.tuple #[y,x]) w:=by
 have hp':tmps[p]?.getD undef= .pointer (some ⟨g,0,none⟩):=by simpa using hp
 have hq':tmps[q]?.getD undef=x:=by simpa using hq
 simp[results,h,hp',hq',asAddr,hl]
theorem P5 (F F0:Nat→Prop) (hF:∀g,F0 g→F g) (v r N R dn u:Nat) (kv:List Pr) (cms:List (List Pr)) (w:World) (hV:oI ⟨F,w⟩ v N R dn u kv w) (hR:IU F0 w r (cms++[kv])) (hl:cms.length≤1000) (hkl:kv.length≤1000) (hkv:∀p∈kv,p.2.size≤49152):
  Calls Tryz.prog 26 #[.pointer (some ⟨v,0,none⟩),.pointer (some ⟨r,0,none⟩)] w fun e w'=>∃t rt F' F0',e= .returned (.tuple #[mR t rt ((48+4*costs kv:Nat):Int) 32 0 false,.bool true])∧(∀g,F0' g→F' g)∧(∀g,F g→F' g)∧(∀g,F0' g→F0 g∨w.heap.size≤g)∧kH ⟨F',w'⟩ v t N R dn u kv kv false (2+u) w'∧uM F0' w' r rt (cms++[kv]) kv∧Keep (fun g=>F g→F0 g) w w':=by
 have hb1:=aI w (.cells #[.pointer none,.pointer none,.int .i64 0,.int .i64 0,.int .i64 0,.bool false] 60)
 have hn1:=aS w (.cells #[.pointer none,.pointer none,.int .i64 0,.int .i64 0,.int .i64 0,.bool false] 60)
 obtain⟨w1,hw1⟩:∃w1:World,Hid (w.alloc (.cells #[.pointer none,.pointer none,.int .i64 0,.int .i64 0,.int .i64 0,.bool false] 60)=w1):=⟨_,af rfl⟩
 rw[hw1.out] at hb1 hn1
 obtain⟨sb,hsb⟩:∃sb:Nat,Hid (w.heap.size=sb):=⟨_,af rfl⟩
 have hV1:oI ⟨iG F w w1,w1⟩ v N R dn u kv w1:=hV.next (M:=fun _=>False) (Keep.of_below hb1 _) (fun _ e=>e.elim)
 have HB:=af hV1.begin
 have HX:=af (ax hV (ax hR (ax hb1 hn1)))
 clear hV hR hV1 hb1 hn1
 go_enter Tryz.func26,Tryz.ntmps26
 go_upto_region 1 with (fail)
 rw[hw1.out,hsb.out]
 go_wp2_with (first
  |(go_at_call 13;go_must ((refine HB.out.mono ?_);rintro e w2 ⟨t,rfl,hT2⟩;refine Stop.of ?_)))
 refine Stop.on ?_
 have hk2:=hT2.lC
 have hF1:∀g,F0 g→iG F w w1 g:=fun g e=> .inl (hF g e)
 have hsbF:iG F w w1 sb:= .inr ⟨by rw[hsb.out];exact aC _,(ah.1 (by rw[←hsb.out];exact HX.out.2.2.2)).1⟩
 have hs1:w1.heap[sb]? =some (.cells #[.pointer none,.pointer none,.int .i64 0,.int .i64 0,.int .i64 0,.bool false] 60 (0,0)):=by rw[←hsb.out];exact HX.out.2.2.2
 have hsl1:=(ah.1 hs1).1
 have hs2:=(hk2.block sb hsl1 (fun e=>e hsbF)).trans hs1
 have hR1:=HX.out.2.1.prog (Keep.of_below HX.out.2.2.1 _)
 have hR2:=hR1.prog (hk2.out hF1)
 have HBG:=af (hR2.begin (by omega) (by omega))
 have HX2:=af (ax hT2 (ax hk2 hs2))
 clear hT2 hk2 hs2 hR1 hR2 hs1
 go_wp2_with (first
  |(go_at_call 40;go_must ((refine HBG.out.mono ?_);rintro e w3 ⟨rt,rfl,hR3,hb3⟩;refine Stop.of ?_)))
 refine Stop.on ?_
 have hT3:kH ⟨iG (iG F w w1) w2 w3,w3⟩ v t N R dn u kv kv false (2+u) w3:=HX2.out.1.re.next (M:=fun _=>False) (Keep.of_below hb3 _) (fun _ e=>e.elim)
 obtain⟨vv,SP,hrt,hprs⟩:=hR3.Ru
 obtain⟨po,pc,rfl,_⟩:=aX.form hprs
 obtain⟨d0,_,dl⟩:=oM hrt
 have hsl2:=(ah.1 HX2.out.2.2).1
 have hs3:=(hb3.block sb hsl2).trans HX2.out.2.2
 have hsl3:=(ah.1 hs3).1
 have HC:=af (Oi _ kv SP w3 hprs (by omega) (fun p hp=>by have:=hkv p hp;omega))
 have hcb:costs kv≤1000000:=by
  have:∀l:List Pr,(∀p∈l,p.2.size≤49152)→kG l≤97*l.length:=by
   intro l hl
   induction l with
   |nil=>exact aU _
   |cons p l ih=>
    have h1:=hl p (aZ ..)
    have h2:=ih (fun q hq=>hl q (aW _ hq))
    have h3:kG (p::l)=eU p.2+kG l:=rfl
    have h4:eU p.2≤97:=by unfold eU pz;split<;>omega
    rw[h3,bf];omega
  have:=this kv hkv
  unfold costs;omega
 obtain⟨cz,hcz⟩:∃cz,Hid (costs kv=cz):=⟨_,af rfl⟩
 rw[hcz.out] at HC hcb
 have q1:IntKind.i64.wrap (4*(cz:Int))=4*(cz:Int):=aF _ (by omega)
 have q2:IntKind.i64.wrap (48+4*(cz:Int))=48+4*(cz:Int):=aF _ (by omega)
 have HX3:=af (ax hT3 (ax hR3 (ax hb3 hs3)))
 have f3:w3.frozen? ⟨sb,0,none⟩=false∧w3.frozen? ⟨sb,1,none⟩=false∧w3.frozen? ⟨sb,2,none⟩=false∧w3.frozen? ⟨sb,3,none⟩=false∧w3.frozen? ⟨sb,4,none⟩=false∧w3.frozen? ⟨sb,5,none⟩=false:=by simp[World.frozen?,hs3]
 obtain⟨f0,f1,f2,f3,f4,f5⟩:=f3
 have g3:w3.cell? ⟨sb,0,none⟩=some (.pointer none)∧w3.cell? ⟨sb,1,none⟩=some (.pointer none)∧w3.cell? ⟨sb,2,none⟩=some (.int .i64 0)∧w3.cell? ⟨sb,3,none⟩=some (.int .i64 0)∧w3.cell? ⟨sb,4,none⟩=some (.int .i64 0)∧w3.cell? ⟨sb,5,none⟩=some (.bool false):=by simp[World.cell?,hs3]
 obtain⟨g0,g1,g2,g3,g4,g5⟩:=g3
 clear hT3 hR3 hb3 hprs hrt
 go_wp2_with (first
  |(go_at_call 72;go_must ((refine HC.out.mono ?_);rintro e w4 ⟨hw,rfl⟩;subst w4)))
 obtain⟨w4,hw4⟩:∃w4:World,w4=(((((w3.setCell ⟨sb,0,none⟩ (.pointer (some ⟨t,0,none⟩))).setCell ⟨sb,1,none⟩ (.pointer (some ⟨rt,0,none⟩))).setCell ⟨sb,2,none⟩ (.int .i64 (48+4*(cz:Int)))).setCell ⟨sb,3,none⟩ (.int .i64 32)).setCell ⟨sb,4,none⟩ (.int .i64 0)).setCell ⟨sb,5,none⟩ (.bool false):=⟨_,rfl⟩
 have hk4:Keep (· =sb) w3 w4:=by
  rw[hw4]
  exact((((((Keep.refl (· =sb) w3).setCell (p:=⟨sb,0,none⟩) (.inr rfl) _).setCell (p:=⟨sb,1,none⟩) (.inr rfl) _).setCell (p:=⟨sb,2,none⟩) (.inr rfl) _).setCell (p:=⟨sb,3,none⟩) (.inr rfl) _).setCell (p:=⟨sb,4,none⟩) (.inr rfl) _).setCell (p:=⟨sb,5,none⟩) (.inr rfl) _
 have hs4:w4.heap[sb]? =some (.cells #[.pointer (some ⟨t,0,none⟩),.pointer (some ⟨rt,0,none⟩),.int .i64 (48+4*(cz:Int)),.int .i64 32,.int .i64 0,.bool false] 60 (0,0)):=by
  rw[hw4]
  simp[World.setCell,aL,HX3.out.2.2.2]
 rw[←hw4]
 refine gG (fM rfl _ w4 sb _ (.bool true) rfl (jw w4 sb 60 60 _ (0,0) _ hs4 Tryz.underlying60 rfl (by kernel_rfl)) rfl) rfl ?_
 have hfs:∀g,F g→g<w.heap.size:=fun g hg=>by obtain⟨_,_,_,_,_,_,_,_,_,_,_,h,_⟩:=HX.out.1;exact h.fs g hg
 have hsbn:¬F0 sb:=fun e=>by have:=hfs sb (hF sb e);have:=hsb.out;omega
 have hz1:=HX.out.2.2.1.size
 have hz2:=HX2.out.2.1.size
 have hz2:w1.heap.size≤w2.heap.size:=hz2
 have hz3:=HX3.out.2.2.1.size
 have hz4:=hk4.size
 have hs0:=hsb.out
 have hk14:Keep (fun g=>F g→F0 g) w w4:=by
  have k1:Keep (fun g=>F g→F0 g) w w1:=Keep.of_below HX.out.2.2.1 _
  have k2:Keep (fun g=>F g→F0 g) w w2:=k1.trans HX2.out.2.1 (fun i hi e hf=>absurd (Or.inl hf) e)
  have k3:Keep (fun g=>F g→F0 g) w w3:=k2.trans (Keep.of_below HX3.out.2.2.1 (fun _=>False)) (fun i _ e=>e.elim)
  exact k3.trans hk4 (fun i hi e=>by omega)
 have hk4':Keep (fun g=>¬iG F0 w2 w3 g) w3 w4:=hk4.mono fun g hg e hf=>by
  have e:g=sb:=e
  subst e
  rcases hf with hf|hf
  ·exact hsbn hf
  ·have:=(ah.1 HX2.out.2.2).1;omega
 refine⟨t,rt,iG (iG (iG F w w1) w2 w3) w3 w4,iG F0 w2 w3,by rw[hcz.out];rfl,fun g hg=> ?_,fun g hg=> .inl (.inl (.inl hg)),fun g hg=>hg.imp id (fun e=>by omega),HX3.out.1.next hk4 (fun g e=> .inl (e▸hsbF)),HX3.out.2.1.prog hk4',hk14⟩
 rcases hg with hg|hg
 ·exact .inl (.inl (.inl (hF g hg)))
 ·exact .inl (.inr hg)
structure Fr (F F0:Nat→Prop) (w:World) (F' F0':Nat→Prop) (w':World):Prop where
 sub:∀g,F0' g→F' g
 grow:∀g,F g→F' g
 lo:∀g,F0' g→F0 g∨w.heap.size≤g
 keep:Keep (fun g=>F g→F0 g) w w'
def JV (F F0:Nat→Prop) (v r N R:Nat) (cms:List (List Pr)) (kv:List Pr) (w:World):Prop:=(∃u,oI ⟨F,w⟩ v N R cms.length u kv w)∧IU F0 w r (cms++[kv])
theorem oI.fs {F:Nat→Prop} {w w':World} {v N R dn u:Nat} {kv:List Pr} (h:oI ⟨F,w'⟩ v N R dn u kv w):∀g,F g→g<w'.heap.size:=by obtain⟨_,_,_,_,_,_,_,_,_,_,_,h,_⟩:=h;exact h.fs
theorem kH.fs {F:Nat→Prop} {w w':World} {v t N R dn u P:Nat} {kv kv0:List Pr} {ch:Bool} (h:kH ⟨F,w'⟩ v t N R dn u kv0 kv ch P w):∀g,F g→g<w'.heap.size:=by obtain⟨_,_,_,_,_,_,_,_,_,_,_,h,_⟩:=h;exact h.fs
theorem qE.fs {F:Nat→Prop} {w w':World} {v t N R dn u:Nat} {kv0:List Pr} (h:qE ⟨F,w'⟩ v t N R dn u kv0 w):∀g,F g→g<w'.heap.size:=by obtain⟨_,_,_,_,_,_,_,_,_,h,_⟩:=h;exact h.fs
def BQ (t rt:Nat) (room log err:Int) (ch:Bool):Array Value:=#[.pointer (some ⟨t,0,none⟩),.pointer (some ⟨rt,0,none⟩),.int .i64 room,.int .i64 log,.int .i64 err,.bool ch]
def zi (F F0:Nat→Prop) (v r N R:Nat) (cms:List (List Pr)) (kv0 kv:List Pr) (w w':World):Prop:=∃F' F0' cms' kv',Fr F F0 w F' F0' w'∧JV F' F0' v r N R cms' kv' w'∧((cms'=cms∧kv'=kv0)∨(cms'=cms++[kv0]∧kv'=kv))
theorem Dw (F F0:Nat→Prop) (hF:∀g,F0 g→F g) (v r t rt N R u P:Nat) (kv0 kv:List Pr) (cms:List (List Pr)) (ch:Bool) (room log lg:Int) (w:World) (hT:kH ⟨F,w⟩ v t N R cms.length u kv0 kv ch P w) (hR:uM F0 w r rt (cms++[kv0]) kv) (hl:cms.length≤1000) (hlog:log≤lg→Cc (P - u)≤R∧P - u≤1024):
  Calls Tryz.prog 29 #[.pointer (some ⟨r,0,none⟩),mR t rt room log 0 ch,.int .i64 lg] w fun e w'=>e= .returned (.bool true)∧zi F F0 v r N R cms kv0 kv w w':=by
 have hb1:=aI w (.cells (BQ t rt room log 0 ch) 60)
 have hn1:=aS w (.cells (BQ t rt room log 0 ch) 60)
 obtain⟨w1,hw1⟩:∃w1:World,Hid (w.alloc (.cells #[.pointer (some ⟨t,0,none⟩),.pointer (some ⟨rt,0,none⟩),.int .i64 room,.int .i64 log,.int .i64 0,.bool ch] 60)=w1):=⟨_,af rfl⟩
 unfold BQ at hb1 hn1
 rw[hw1.out] at hb1 hn1
 obtain⟨sb,hsb⟩:∃sb:Nat,Hid (w.heap.size=sb):=⟨_,af rfl⟩
 have hfs:=hT.fs
 have hT1:kH ⟨iG F w w1,w1⟩ v t N R cms.length u kv0 kv ch P w1:=hT.next (M:=fun _=>False) (Keep.of_below hb1 _) (fun _ e=>e.elim)
 have hR1:=hR.prog (Keep.of_below hb1 (fun g=>¬F0 g))
 have HC:=af (hT1.commit (by omega))
 have HX:=af (ax hfs (ax hR1 (ax hb1 hn1)))
 have HLOG:=af hlog
 have hF1:∀g,F0 g→iG F w w1 g:=fun g e=> .inl (hF g e)
 clear hT hR hT1 hR1 hb1 hn1 hfs hlog
 have hs1:w1.heap[sb]? =some (.cells #[.pointer (some ⟨t,0,none⟩),.pointer (some ⟨rt,0,none⟩),.int .i64 room,.int .i64 log,.int .i64 0,.bool ch] 60 (0,0)):=by rw[←hsb.out];exact HX.out.2.2.2
 have hsl1:=(ah.1 hs1).1
 have hsbF:iG F w w1 sb:= .inr ⟨by rw[hsb.out];exact aC _,hsl1⟩
 have c0:w1.cell? ⟨sb,0,none⟩=some (.pointer (some ⟨t,0,none⟩)):=by simp[World.cell?,hs1]
 unfold mR
 go_enter Tryz.func29,Tryz.ntmps29
 go_upto_region 1 with (fail)
 rw[hw1.out,hsb.out]
 have fin:∀(w2:World) (cms':List (List Pr)) (kv':List Pr) (u':Nat),oI ⟨iG F w w1,w1⟩ v N R cms'.length u' kv' w2→IU F0 w2 r (cms'++[kv'])→((cms'=cms∧kv'=kv0)∨(cms'=cms++[kv0]∧kv'=kv))→zi F F0 v r N R cms kv0 kv w w2:=by
  intro w2 cms' kv' u' hV hR hc
  refine⟨iG F w w1,F0,cms',kv',⟨hF1,fun g e=> .inl e,fun g e=> .inl e,?_⟩,⟨⟨u',hV.re⟩,hR⟩,hc⟩
  exact(Keep.of_below HX.out.2.2.1 (fun g=>F g→F0 g)).trans hV.lC (fun i hi e hf=>absurd (Or.inl hf) e)
 have FIN:=af fin
 clear fin
 go_wp2_with (first
  |(go_at_call 15;go_must ((refine HC.out.mono ?_);rintro e w2 (⟨h1,h2,rfl,hV2⟩|⟨h1,h2,rfl,hV2⟩|⟨h1,rfl,u',hV2⟩)<;>refine Stop.of ?_)))
 all_goals
  refine Stop.on ?_
  have hk2:=hV2.lC
  have hs2:=(hk2.block sb hsl1 (fun e=>e hsbF)).trans hs1
  have hR2:=HX.out.2.1.prog (hk2.out hF1)
  have hsl2:=(ah.1 hs2).1
  have g1:w2.cell? ⟨sb,1,none⟩=some (.pointer (some ⟨rt,0,none⟩)):=by simp[World.cell?,hs2]
  have g3:w2.cell? ⟨sb,3,none⟩=some (.int .i64 log):=by simp[World.cell?,hs2]
  have g4:w2.cell? ⟨sb,4,none⟩=some (.int .i64 0):=by simp[World.cell?,hs2]
  have g5:w2.cell? ⟨sb,5,none⟩=some (.bool ch):=by simp[World.cell?,hs2]
  have HV2:=af hV2;have HR2:=af hR2;have HK2:=af hk2
  clear hV2 hR2 hk2 hs1 hs2 c0
 ·subst h1
  have HCM:=af (HR2.out.KQ (by simp;omega))
  clear h2
  go_wp2_with (first
   |(go_at_call 42;go_must ((refine HCM.out.mono ?_);rintro e w3 ⟨hw,rfl⟩;subst w3)))
  go_ret
  exact⟨by simp,FIN.out _ cms kv0 u HV2.out HR2.out.forget (.inl ⟨rfl,rfl⟩)⟩
 ·have hlt:lg<log:=by
   apply fu
   intro hn
   have:=HLOG.out (by omega)
   omega
  have HLT:=af (ax h1 h2)
  clear h1 h2
  go_wp2_with fail
  go_ret
  exact⟨by simp,FIN.out _ cms kv0 u HV2.out HR2.out.forget (.inl ⟨rfl,rfl⟩)⟩
 ·subst h1
  have HCM:=af (HR2.out.IB (by simp;omega))
  go_wp2_with (first
   |(go_at_call 42;go_must ((refine HCM.out.mono ?_);rintro e w3 ⟨rfl,hR3,M,hk3,hM⟩;refine Stop.of ?_)))
  refine Stop.on ?_
  go_wp2_with fail
  go_ret
  refine⟨by simp,iG (iG F w w1) w2 w3,iG F0 w2 w3,cms++[kv0],kv,⟨fun g e=>e.elim (fun e=> .inl (hF1 g e)) .inr,fun g e=> .inl (.inl e),fun g e=>e.imp id (fun e=> ?_),?_⟩,⟨⟨u',?_⟩,hR3⟩,.inr ⟨rfl,rfl⟩⟩
  ·have a:=HX.out.2.2.1.size
   have b:=HK2.out.size
   have b:w1.heap.size≤w2.heap.size:=b
   omega
  ·have k1:Keep (fun g=>F g→F0 g) w w2:=(Keep.of_below HX.out.2.2.1 (fun g=>F g→F0 g)).trans HK2.out (fun i hi e hf=>absurd (Or.inl hf) e)
   exact k1.trans hk3 (fun i hi e _=>hM i e)
  ·have hlen:(cms++[kv0]).length=cms.length+1:=by simp
   rw[hlen]
   exact HV2.out.re.next hk3 (fun g e=>hF1 g (hM g e))
theorem Dv (F F0:Nat→Prop) (hF:∀g,F0 g→F g) (v r t rt N R u:Nat) (kv0 kv:List Pr) (cms:List (List Pr)) (ch:Bool) (room log lg:Int) (w:World) (hT:qE ⟨F,w⟩ v t N R cms.length u kv0 w) (hR:uM F0 w r rt (cms++[kv0]) kv):
  Calls Tryz.prog 29 #[.pointer (some ⟨r,0,none⟩),mR t rt room log 12 ch,.int .i64 lg] w fun e w'=>e= .returned (.bool true)∧zi F F0 v r N R cms kv0 kv w w':=by
 have hb1:=aI w (.cells (BQ t rt room log 12 ch) 60)
 have hn1:=aS w (.cells (BQ t rt room log 12 ch) 60)
 obtain⟨w1,hw1⟩:∃w1:World,Hid (w.alloc (.cells #[.pointer (some ⟨t,0,none⟩),.pointer (some ⟨rt,0,none⟩),.int .i64 room,.int .i64 log,.int .i64 12,.bool ch] 60)=w1):=⟨_,af rfl⟩
 unfold BQ at hb1 hn1
 rw[hw1.out] at hb1 hn1
 obtain⟨sb,hsb⟩:∃sb:Nat,Hid (w.heap.size=sb):=⟨_,af rfl⟩
 have hT1:qE ⟨iG F w w1,w1⟩ v t N R cms.length u kv0 w1:=hT.next (M:=fun _=>False) (Keep.of_below hb1 _) (fun _ e=>e.elim)
 have hR1:=hR.prog (Keep.of_below hb1 (fun g=>¬F0 g))
 have HC:=af hT1.commit
 have HX:=af (ax hR1 (ax hb1 hn1))
 have hF1:∀g,F0 g→iG F w w1 g:=fun g e=> .inl (hF g e)
 clear hT hR hT1 hR1 hb1 hn1
 have hs1:w1.heap[sb]? =some (.cells #[.pointer (some ⟨t,0,none⟩),.pointer (some ⟨rt,0,none⟩),.int .i64 room,.int .i64 log,.int .i64 12,.bool ch] 60 (0,0)):=by rw[←hsb.out];exact HX.out.2.2
 have hsl1:=(ah.1 hs1).1
 have hsbF:iG F w w1 sb:= .inr ⟨by rw[hsb.out];exact aC _,hsl1⟩
 have c0:w1.cell? ⟨sb,0,none⟩=some (.pointer (some ⟨t,0,none⟩)):=by simp[World.cell?,hs1]
 unfold mR
 go_enter Tryz.func29,Tryz.ntmps29
 go_upto_region 1 with (fail)
 rw[hw1.out,hsb.out]
 go_wp2_with (first
  |(go_at_call 15;go_must ((refine HC.out.mono ?_);rintro e w2 ⟨rfl,hV2⟩;refine Stop.of ?_)))
 refine Stop.on ?_
 have hk2:=hV2.lC
 have hs2:=(hk2.block sb hsl1 (fun e=>e hsbF)).trans hs1
 have hR2:=HX.out.1.prog (hk2.out hF1)
 have hsl2:=(ah.1 hs2).1
 have g4:w2.cell? ⟨sb,4,none⟩=some (.int .i64 12):=by simp[World.cell?,hs2]
 have HV2:=af hV2;have HR2:=af hR2;have HK2:=af hk2
 clear hV2 hR2 hk2 hs1 hs2 c0
 go_wp2_with fail
 go_ret
 refine⟨by simp,iG F w w1,F0,cms,kv0,⟨hF1,fun g e=> .inl e,fun g e=> .inl e,?_⟩,⟨⟨u,HV2.out.re⟩,HR2.out.forget⟩,.inl ⟨rfl,rfl⟩⟩
 exact(Keep.of_below HX.out.2.1 (fun g=>F g→F0 g)).trans HK2.out (fun i hi e hf=>absurd (Or.inl hf) e)
def JT (F F0:Nat→Prop) (v r t rt N R u P:Nat) (cms:List (List Pr)) (kv0 kv:List Pr) (ch:Bool) (w:World):Prop:=kH ⟨F,w⟩ v t N R cms.length u kv0 kv ch P w∧uM F0 w r rt (cms++[kv0]) kv
def JE (F F0:Nat→Prop) (v r t rt N R u:Nat) (cms:List (List Pr)) (kv0 kv:List Pr) (w:World):Prop:=qE ⟨F,w⟩ v t N R cms.length u kv0 w∧uM F0 w r rt (cms++[kv0]) kv
theorem JT.below {F F0:Nat→Prop} {v r t rt N R u P:Nat} {cms:List (List Pr)} {kv0 kv:List Pr} {ch:Bool} {w w':World} (h:JT F F0 v r t rt N R u P cms kv0 kv ch w) (hF:∀g,F0 g→F g) (hb:Below w.heap.size w w'):JT (iG F w w') F0 v r t rt N R u P cms kv0 kv ch w'∧Fr F F0 w (iG F w w') F0 w':=
 ⟨⟨h.1.next (M:=fun _=>False) (Keep.of_below hb _) (fun _ e=>e.elim),h.2.prog (Keep.of_below hb _)⟩,fun g e=> .inl (hF g e),fun _ e=> .inl e,fun _ e=> .inl e,Keep.of_below hb _⟩
theorem JE.below {F F0:Nat→Prop} {v r t rt N R u:Nat} {cms:List (List Pr)} {kv0 kv:List Pr} {w w':World} (h:JE F F0 v r t rt N R u cms kv0 kv w) (hF:∀g,F0 g→F g) (hb:Below w.heap.size w w'):JE (iG F w w') F0 v r t rt N R u cms kv0 kv w'∧Fr F F0 w (iG F w w') F0 w':=
 ⟨⟨h.1.next (M:=fun _=>False) (Keep.of_below hb _) (fun _ e=>e.elim),h.2.prog (Keep.of_below hb _)⟩,fun g e=> .inl (hF g e),fun _ e=> .inl e,fun _ e=> .inl e,Keep.of_below hb _⟩
theorem kH.QV {w0:iZ} {w:World} {v t N R dn u P:Nat} {kv kv0:List Pr} {ch:Bool} (h:kH w0 v t N R dn u kv0 kv ch P w) (key:ByteArray) (hl:kv.length≤4090) (hg:1≤key.size∧key.size≤128):
  Calls Tryz.prog 18 #[.pointer (some ⟨t,0,none⟩),.string key] w fun e w'=>e= .returned (.tuple #[.string ((cu kv key).getD ByteArray.empty),.bool (cu kv key).isSome,.int .i64 0])∧Below w.heap.size w w':=by
 obtain⟨S,tr,mp,σ,root,es,tb,root0,es0,tb0,hA,hB,h1,h2,h3,h4,h5,h6,h7,h8⟩:=h
 refine(hA.get key (by rw[←gZ,h7];exact hl) hg).mono ?_
 rintro e w' ⟨rfl,hT,hb⟩
 exact⟨by rw[h7],hb⟩
theorem uM.scan {F:Nat→Prop} {w:World} {r rt:Nat} {cms:List (List Pr)} {kv:List Pr} (h:uM F w r rt cms kv) (key:ByteArray) (most:Int) (hr:dY kv) (hl:kv.length≤90000):
  Calls Tryz.prog 75 #[.pointer (some ⟨rt,0,none⟩),.string key,.int .i64 most] w fun e w'=>∃x S,e= .returned x∧iY w' S x (vX kv key most)∧Below w.heap.size w w':=by
 obtain⟨cv,Ls,h⟩:=h
 refine(J9 rt kv key most w _ h.sub h.2.2.2.2.2.1 hr hl).mono ?_
 rintro e w' ⟨x,rfl,hx,hb⟩
 exact⟨x,_,rfl,hx,hb⟩
theorem Fq (F F0:Nat→Prop) (v r t rt N R u P:Nat) (kv0 kv:List Pr) (cms:List (List Pr)) (ch:Bool) (room log k n:Int) (key value:ByteArray) (w:World) (hJ:JT F F0 v r t rt N R u P cms kv0 kv ch w) (hr:dY kv) (hl:kv.length≤4000) (hk:0≤k∧k≤255):
  Calls Tryz.prog 28 #[.agg #[.pointer (some ⟨t,0,none⟩),.pointer (some ⟨rt,0,none⟩),.int .i64 room,.int .i64 log,.int .i64 0,.bool ch],.agg #[.int .u8 k,.string key,.string value,.int .i64 n]] w fun e w'=>e= .returned (.bool true)∧Below w.heap.size w w':=by
 have hb1:=aI w (.cells #[.pointer (some ⟨t,0,none⟩),.pointer (some ⟨rt,0,none⟩),.int .i64 room,.int .i64 log,.int .i64 0,.bool ch] 60)
 have hn1:=aS w (.cells #[.pointer (some ⟨t,0,none⟩),.pointer (some ⟨rt,0,none⟩),.int .i64 room,.int .i64 log,.int .i64 0,.bool ch] 60)
 have hz1:(w.alloc (.cells #[.pointer (some ⟨t,0,none⟩),.pointer (some ⟨rt,0,none⟩),.int .i64 room,.int .i64 log,.int .i64 0,.bool ch] 60)).heap.size=w.heap.size+1:=by simp
 have hb2:=aI (w.alloc (.cells #[.pointer (some ⟨t,0,none⟩),.pointer (some ⟨rt,0,none⟩),.int .i64 room,.int .i64 log,.int .i64 0,.bool ch] 60)) (.cells #[.int .u8 k,.string key,.string value,.int .i64 n] 24)
 have hn2:=aS (w.alloc (.cells #[.pointer (some ⟨t,0,none⟩),.pointer (some ⟨rt,0,none⟩),.int .i64 room,.int .i64 log,.int .i64 0,.bool ch] 60)) (.cells #[.int .u8 k,.string key,.string value,.int .i64 n] 24)
 have hs1:=(hb2.block _ (by rw[hz1];omega)).trans hn1
 rw[hz1] at hn2
 have hb12:=hb1.trans (hb2.mono hb1.size)
 obtain⟨w2,hw2⟩:∃w2:World,Hid (((w.alloc (.cells #[.pointer (some ⟨t,0,none⟩),.pointer (some ⟨rt,0,none⟩),.int .i64 room,.int .i64 log,.int .i64 0,.bool ch] 60)).alloc (.cells #[.int .u8 k,.string key,.string value,.int .i64 n] 24))=w2):=⟨_,af rfl⟩
 rw[hw2.out] at hn2 hs1 hb12
 obtain⟨sb,hsb⟩:∃sb:Nat,Hid (w.heap.size=sb):=⟨_,af rfl⟩
 rw[hsb.out] at hn2 hs1
 have hT2:kH ⟨iG F w w2,w2⟩ v t N R cms.length u kv0 kv ch P w2:=hJ.1.next (M:=fun _=>False) (Keep.of_below hb12 _) (fun _ e=>e.elim)
 have hR2:=hJ.2.prog (Keep.of_below hb12 (fun g=>¬F0 g))
 have HB:=af hb12
 have HCL:=af (show ∀W:World,Below w2.heap.size w2 W→W.cell? ⟨sb,0,none⟩=some (.pointer (some ⟨t,0,none⟩))∧W.cell? ⟨sb,1,none⟩=some (.pointer (some ⟨rt,0,none⟩))∧W.cell? ⟨sb,4,none⟩=some (.int .i64 0)∧W.cell? ⟨sb+1,0,none⟩=some (.int .u8 k)∧W.cell? ⟨sb+1,1,none⟩=some (.string key)∧W.cell? ⟨sb+1,3,none⟩=some (.int .i64 n)∧sb<W.heap.size∧sb+1<W.heap.size from fun W hW=>by
  have l1:=(ah.1 hs1).1
  have l2:=(ah.1 hn2).1
  have e1:=(hW.block sb l1).trans hs1
  have e2:=(hW.block (sb+1) l2).trans hn2
  exact⟨by simp[World.cell?,e1],by simp[World.cell?,e1],by simp[World.cell?,e1],by simp[World.cell?,e2],by simp[World.cell?,e2],by simp[World.cell?,e2],ak l1 hW.size,ak l2 hW.size⟩)
 have HJ:=af (ax hT2 hR2)
 clear hb1 hn1 hz1 hb2 hn2 hs1 hb12 hT2 hR2 hJ
 obtain⟨a0,a1,a4,o0,o1,o3,l1,l2⟩:=HCL.out w2 (aR _ _)
 go_enter Tryz.func28,Tryz.ntmps28
 go_upto_region 1 with (fail)
 rw[hw2.out,hsb.out]
 by_cases hkk:k%8=2
 ·by_cases hg:1≤key.size∧key.size≤128
  ·have HG:=af (HJ.out.1.QV key (by omega) hg)
   go_wp2_with (first
    |(go_at_call 18;go_must ((refine HG.out.mono ?_);rintro e w3 ⟨rfl,hb3⟩;refine Stop.of ?_)))
   refine Stop.on ?_
   have HGD:=af (xD key ⟨#[]⟩ w3)
   have hgd:decide (qw key ⟨#[]⟩)=true:=dI ⟨hg,by decide⟩
   rw[hgd] at HGD
   have hR3:=HJ.out.2.prog (Keep.of_below hb3 (fun g=>¬F0 g))
   have HRG:=af (hR3.get key hr (by omega))
   have HB3:=af hb3
   obtain⟨a0,a1,a4,o0,o1,o3,l1,l2⟩:=HCL.out w3 hb3
   clear hb3 hR3 hgd
   obtain⟨lv,hlv⟩:∃lv,lv=(cu kv key).getD ByteArray.empty:=⟨_,rfl⟩
   obtain⟨lb,hlb⟩:∃lb,lb=(cu kv key).isSome:=⟨_,rfl⟩
   have hlv2:(cu kv key).getD ⟨#[]⟩=lv:=hlv.symm
   rw[hlv2,←hlb] at HRG
   rw[←hlv,←hlb]
   clear hlv hlb hlv2 hg
   go_wp2_with (first
    |(go_at_call 38;go_must ((refine HGD.out.mono ?_);rintro e w4 ⟨hw,rfl⟩;subst w4))
    |(go_at_call 73;go_must ((refine HRG.out.mono ?_);rintro e w4 ⟨rfl,hw⟩;subst w4)))
   go_ret
   exact⟨by simp,HB.out.trans (HB3.out.mono HB.out.size)⟩
  ·have hG:=I5 (some ⟨t,0,none⟩) key 1 w2 (HJ.out.1.no hg) (by decide)
   obtain⟨es,hes⟩:∃es,es=ByteArray.empty:=⟨_,rfl⟩
   rw[←hes] at hG
   have hes0:es.size=0:=by rw[hes];rfl
   obtain⟨z1,z2⟩:=(xB es).1 hes0
   have hmx:max (0:Int) 1=1:=by omega
   have hrm:∀W:World,(Builtin.max_ #[3,3] 3 #[.int .i64 0,.int .i64 1]).run Tryz.prog W= .ok (.int .i64 1) W:=fun W=>by rw[run_max_int2];rfl
   clear hes0
   have HG:=af hG
   clear hG hes
   have HGD:=af (xD key ⟨#[]⟩ w2)
   have hgd:decide (qw key ⟨#[]⟩)=false:=bn (fun h=>hg h.1)
   rw[hgd] at HGD
   clear hgd hg
   go_wp2_with (first
    |(go_at_call 18;go_must ((refine HG.out.mono ?_);rintro e w3 ⟨hw,rfl⟩;subst w3))
    |(go_at_call 38;go_must ((refine HGD.out.mono ?_);rintro e w4 ⟨hw,rfl⟩;subst w4)))
   go_ret
   exact⟨by simp,HB.out⟩
 ·have HS:=af (HJ.out.1.scan key n (by omega))
  go_wp2_with (first
   |(go_at_call 20;go_must ((refine HS.out.mono ?_);rintro e w3 ⟨x,rfl,hx,-,hb3⟩;refine Stop.of ?_)))
  refine Stop.on ?_
  have hR3:=HJ.out.2.prog (Keep.of_below hb3 (fun g=>¬F0 g))
  have HRS:=af (hR3.scan key n hr (by omega))
  have HX:=af hx
  have HB3:=af hb3
  obtain⟨a0,a1,a4,o0,o1,o3,l1,l2⟩:=HCL.out w3 hb3
  clear hx hb3 hR3
  go_wp2_with (first
   |(go_at_call 75;go_must ((refine HRS.out.mono ?_);rintro e w4 ⟨y,S2,rfl,hy,hb4⟩;refine Stop.of ?_)))
  refine Stop.on ?_
  have hx4:=(HX.out.below hb4).cK
  have HSM:=af (L6 x y _ w4 gL S2 hx4 hy)
  have HB4:=af hb4
  clear hb4 hy hx4
  go_wp2_with (first
   |(go_at_call 44;go_must ((refine HSM.out.mono ?_);rintro e w5 ⟨rfl,hb5⟩;refine Stop.of ?_)))
  refine Stop.on ?_
  go_wp2_with fail
  go_ret
  have h1:=HB.out.trans (HB3.out.mono HB.out.size)
  have h2:=h1.trans (HB4.out.mono h1.size)
  exact⟨by simp,h2.trans (hb5.mono h2.size)⟩
end Go.Proofs.YtfgpefcphnpabaaGreat
