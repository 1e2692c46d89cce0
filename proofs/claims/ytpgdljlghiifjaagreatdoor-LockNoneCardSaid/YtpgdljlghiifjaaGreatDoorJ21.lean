/- parts -/
import Derived.Test.YtpgdljlghiifjaaGreatDoorJ20
import Derived.Shelf.Strings.Builder1
import Derived.Laws.IdiomStrings
namespace Go.Proofs.YtpgdljlghiifjaaGreatDoor
open Go.RowKit
set_option maxRecDepth 100000
set_option maxHeartbeats 8000000
set_option linter.all false
theorem IE (rs:List (Nat×Nat)) (k:Nat) (h:k<rs.length):(rs.flatMap qp)[3*k]? =some (UInt8.ofNat rs[k].1)∧(rs.flatMap qp)[3*k+1]? =some (UInt8.ofNat (rs[k].1/256))∧(rs.flatMap qp)[3*k+2]? =some (UInt8.ofNat rs[k].2):=by
 induction rs generalizing k with
 |nil=>simp at h
 |cons r rs ih=>
  cases k with
  |zero=>exact⟨rfl,rfl,rfl⟩
  |succ k=>
   have:=ih k (by simpa using h)
   rw[show 3*(k+1)=3*k+1+1+1 by omega,show 3*k+1+1+1+1=(3*k+1)+1+1+1 by omega,show 3*k+1+1+1+2=(3*k+2)+1+1+1 by omega]
   exact this
theorem DX (size:Nat) (rs:List (Nat×Nat)) (rest:List UInt8) (k j:Nat) (u:UInt8) (hj:(rs.flatMap qp)[j]? =some u) (hk:k=4+j):(aJ (encR size rs++rest))[k]? =some (.int .u8 (u.toNat:Int)):=by
 subst hk
 have hl:=(bZ.1 hj).1
 unfold aJ encR
 rw[cZ,aL,bV (by simp),bf,bf,bf,bf,bG,eH,eD,eP hl,hj]
 rfl
theorem CQ (size:Nat) (rs:List (Nat×Nat)) (rest:List UInt8):(aJ (encR size rs++rest))[0]? =some (.int .u8 177)∧(aJ (encR size rs++rest))[1]? =some (.int .u8 ((UInt8.ofNat size).toNat:Int))∧(aJ (encR size rs++rest))[2]? =some (.int .u8 ((UInt8.ofNat (size/256)).toNat:Int))∧(aJ (encR size rs++rest))[3]? =some (.int .u8 ((UInt8.ofNat rs.length).toNat:Int)):=⟨rfl,rfl,rfl,rfl⟩
def chunk (t:List UInt8) (i:Nat):List UInt8:=(t.drop (512*i)).take 512
def rf (n:Nat):Nat:=(n+511)/512
structure uf (σ:cK) (head:Nat) (size:Nat) (rs:List (Nat×Nat)):Prop where
 lo:2≤head
 has:σ.hasB head=true
 mem:∃rest,σ.mem head=encR size rs++rest
 ok:pM rs
 len:(fu rs).length=rf size
 s1:1≤size
 s2:size≤49152
theorem uf.runs {σ:cK} {head size:Nat} {rs:List (Nat×Nat)} (h:uf σ head size rs):rs.length≤96∧(fu rs).length≤96:=by
 have h1:=h.ok.le
 have h2:=h.len
 have h3:=h.s2
 unfold rf at h2
 omega
theorem P7 (mp:VS) (σ:cK) (S:Nat→Prop) (w:World) (head size:Nat) (rs:List (Nat×Nat)) (h:Inv σ S mp w) (hh:uf σ head size rs):
  Calls Tryz.prog 181 #[.iface 105 mp.agg,.int .i64 head] w fun e w'=>∃lb v,e= .returned (.tuple #[.pointer (some ⟨lb,0,none⟩),.int .i64 0])∧ku w' S w.heap.size lb size rs v∧Below w.heap.size w w':=by
 have hsub:=h.sub
 have hrd:=Ab mp σ S w head h hh.has
 obtain⟨rest,hmem⟩:=hh.mem
 rw[hmem] at hrd
 have hl5:(encR size rs++rest).length=512:=by
  obtain⟨n,hn,hn2,_⟩:=cK.mF hh.has
  rw[←hmem,hn]
  exact h.ok.len n hn2
 have HRd:=af hrd;clear hrd
 have hlo:=hh.lo
 have hs1:=hh.s1
 have hs2:=hh.s2
 obtain⟨hrl,hbl⟩:=hh.runs
 have HH:=af hh
 obtain⟨b0,b1,b2,b3⟩:=CQ size rs rest
 have HB:=af (ay b0 (ay b1 (ay b2 b3)))
 have x1:¬(head:Int)<0:=by omega
 have x2:((head:Int)==0)=false:=by simp;omega
 have x3:¬(head:Int)=0:=by omega
 clear hh hmem b0 b1 b2 b3
 have hm:∀w,(method 475 105 mp.agg "Read").run Tryz.prog w= .ok (59,.pointer (some ⟨mp.tx,0,none⟩)) w:=fun _=>by kernel_rfl
 go_enter Tryz.func181,Tryz.ntmps181
 go_wp2_with (refine HRd.out.mono ?_;rintro e w1 ⟨v,rfl,hv,hvb,hb1⟩;refine Stop.of ?_)
 refine Stop.on ?_
 have hv':=hv
 obtain⟨ao,cp,rfl,n0,m0,_,_⟩:=bE.form hv'
 obtain⟨b0,b1,b2,b3⟩:=HB.out
 obtain⟨vb,vo,rfl,d0⟩:=bE.yx hv rfl 0 _ b0
 obtain⟨_,_,e,d1⟩:=bE.yx hv rfl 1 _ b1
 cases e
 obtain⟨_,_,e,d2⟩:=bE.yx hv rfl 2 _ b2
 cases e
 obtain⟨_,_,e,d3⟩:=bE.yx hv rfl 3 _ b3
 cases e
 have u3:((UInt8.ofNat rs.length).toNat:Int)=(rs.length:Int):=by rw[eG];omega
 obtain⟨lo,hlo0⟩:∃lo:Nat,lo=size%256:=⟨_,rfl⟩
 obtain⟨hi,hhi0⟩:∃hi:Nat,hi=size/256:=⟨_,rfl⟩
 have u1:((UInt8.ofNat size).toNat:Int)=(lo:Int):=by rw[eG,hlo0]
 have u2:((UInt8.ofNat (size/256)).toNat:Int)=(hi:Int):=by rw[eG,hhi0];omega
 rw[u1] at d1;rw[u2] at d2;rw[u3] at d3
 have hvl:vb<w1.heap.size:=aF w1 _ d0
 have hvw:w.heap.size≤vb:=hvb vb rfl
 have HV:=af hv
 have hlo1:lo<256:=by omega
 have hhi1:hi<256:=by omega
 have hsz0:size=lo+256*hi:=by omega
 rw[iK] at d0
 clear b0 b1 b2 b3 u1 u2 u3 hlo0 hhi0 hv hv' hvb hm
 have y1:(lo:Int)<256:=by omega
 have y2:(rs.length:Int)*3+4≤512:=by omega
 obtain⟨w2,HW2⟩:∃w2:World,Hid (w1.alloc (.cells #[.int .i64 0,.slice none 0 0] 179)=w2):=⟨_,af rfl⟩
 have hb2:Below w1.heap.size w1 w2:=by rw[←HW2.out];exact aI w1 _
 have hL2:w2.heap[w1.heap.size]? =some (.cells #[.int .i64 0,.slice none 0 0] 179 (0,0)):=by rw[←HW2.out];exact aM w1 _
 have D0:=(hb2.cell (p:=⟨vb,vo,none⟩) hvl).trans d0
 have D1:=(hb2.cell (p:=⟨vb,vo+1,none⟩) hvl).trans d1
 have D2:=(hb2.cell (p:=⟨vb,vo+2,none⟩) hvl).trans d2
 have D3:=(hb2.cell (p:=⟨vb,vo+3,none⟩) hvl).trans d3
 have hvl2:=ax hvl hb2.size
 have HD:=af (ay D0 (ay D1 (ay D2 (ay D3 hvl2))))
 clear d0 d1 d2 d3 D0 D1 D2 D3
 go_upto_region 11 with (fail)
 rw[HW2.out]
 obtain⟨D0,D1,D2,D3,hvl2⟩:=HD.out
 go_wp2_with fail
 obtain⟨lb,HLB⟩:∃lb,Hid (w1.heap.size=lb):=⟨_,af rfl⟩
 have hlbw:w.heap.size≤lb:=by rw[←HLB.out];exact hb1.size
 rw[HLB.out] at hL2 ⊢
 have hlb2:lb<w2.heap.size:=(ah.1 hL2).1
 have hlf:w2.drew.frozen? ⟨lb,0,none⟩=false:=by show w2.frozen? _=false;simp[World.frozen?,hL2]
 have hlc:w2.drew.cell? ⟨lb,0,none⟩=some (.int .i64 0):=by show w2.cell? _=_;simp[World.cell?,hL2]
 have hlbd:lb<w2.drew.heap.size:=hlb2
 have HOR:=af (Ir lo hi size hlo1 hhi1 hsz0)
 have HSZ:=af hsz0
 have HLN:=af hl5
 clear hsz0 y1 hl5
 refine aP (fun W=>W=w2.drew) (fun i=> !([13].contains i)) [0,1,2,3,4,5,6,7,8,9,10,11,12,13] rfl (by kernel_rfl) rfl ?_
 repeat ((refine bO (v:= ?_) rfl rfl (fun _ _ _ h=>h) rfl (fun W hW=> ?_) ?_);rotate_left;(focus ((try dsimp only at hW);subst hW;have r1:w2.drew.cell? ⟨vb,vo+1,none⟩=some (.int .u8 lo):=D1;have r2:w2.drew.cell? ⟨vb,vo+2,none⟩=some (.int .u8 hi):=D2;have r3:vb<w2.drew.heap.size:=hvl2;(go_simp;first|done|with_reducible rfl)));(try simp only[Act.put,aj,au,ak]))
 rw[HOR.out]
 refine ja rfl rfl rfl (by kernel_rfl) ?_;intro K hK;go_simp
 refine hK.out _ _ ?_
 refine bR ?_
 have hk3:Keep (· =lb) w2 (w2.setCell ⟨lb,0,none⟩ (.int .i64 size)).drew:=((Keep.refl (· =lb) w2).setCell (p:=⟨lb,0,none⟩) (.inr rfl) _).drew
 have hL3:(w2.setCell ⟨lb,0,none⟩ (.int .i64 size)).drew.heap[lb]? =some (.cells #[.int .i64 size,.slice none 0 0] 179 (0,0)):=by
  show (w2.setCell ⟨lb,0,none⟩ (.int .i64 size)).heap[lb]? =_
  simp[World.setCell,aW,hL2]
 generalize (w2.setCell ⟨lb,0,none⟩ (.int .i64 size)).drew=w3 at hk3 hL3 ⊢
 have hsl:¬S lb:=fun x=>absurd (hsub lb x) (bF.2 hlbw)
 have hA3:ku w3 S lb lb size (rs.take 0) (.slice none 0 0):=⟨hL3,by rw[gF];exact aS.nil _ _ _ _ _,aG _,hsl⟩
 have hb3:Below lb w1 w3:=by
  have:=hb2
  rw[HLB.out] at this
  exact this.trans (hk3.gG (by omega) (fun i hi e=>by omega))
 have hvb1:vb<lb:=by rw[←HLB.out];exact hvl
 have HCELL:=af (fun (W:World) (hW:Below lb w1 W) (j:Nat) (u:Value) (hu:(aJ (encR size rs++rest))[j]? =some u)=>(show W.cell? ⟨vb,vo+j,none⟩=some u from by
  obtain⟨_,_,e,dj⟩:=bE.yx HV.out rfl j _ hu
  cases e
  exact(mM (w:=w1) (a:=⟨vb,vo+j,none⟩) (hW.block vb hvb1)).trans dj))
 have hw1l:w1.heap.size=lb:=HLB.out
 have D3':=HCELL.out w3 hb3 3 _ (CQ size rs rest).2.2.2
 have hvl3:vb<w3.heap.size:=ax hvl (by rw[hw1l];exact gP (ah.1 hL3).1)
 have u3:((UInt8.ofNat rs.length).toNat:Int)=(rs.length:Int):=by rw[eG];omega
 rw[u3] at D3'
 clear D0 D1 D2 D3 hvl2 hlf hlc hlbd hlb2 hk3 hL3 hL2 u3 y2
 go_wp2_with fail
 go_loopw [9,10,70] (fun _ _ i wr=>∃(k:Nat) (v:Value),k≤rs.length∧i= .int .i64 k∧ku wr S lb lb size (rs.take k) v∧Below lb w1 wr) (fun _ _ i _=>rs.length - (intOf i).toNat)
 case atStart=>exact⟨0,_,by omega,rfl,hA3,hb3⟩
 case round=>
  obtain⟨k,v,hk,rfl,hA,hb⟩:=hrel
  have hkt:(rs.take k).length=k:=by rw[aD];omega
  obtain⟨hobj,hown⟩:=ay hA.obj hA.own
  rw[hkt] at hown
  obtain⟨vo2,vc2,rfl,_,_,_,_⟩:=bE.form hown.dD
  have hlbr:lb<wr.heap.size:=(ah.1 hobj).1
  have hvr:vb<wr.heap.size:=l8 hvb1 hlbr
  have HA:=af hA;clear hA hkt
  by_cases hkl:k<rs.length
  ·have x1:(k:Int)<(rs.length:Int):=by omega
   have z1:¬cp=4+3*k:=by omega
   have z2:((4:Int)+3*(k:Int))≤512:=by omega
   have z3:((4:Int)+3*(k:Int))≤(cp:Int):=by omega
   have z4:((4:Int)+3*(k:Int)).toNat=4+3*k:=by omega
   clear D3'
   go_upto_region 18 with (fail)
   obtain⟨f,hf⟩:∃f,f=rs[k].1:=⟨_,rfl⟩
   obtain⟨n,hn⟩:∃n,n=rs[k].2:=⟨_,rfl⟩
   have hrk:=HH.out.ok rs[k] (bq hkl)
   rw[←hf,←hn] at hrk
   obtain⟨j0,j1,j2⟩:=IE rs k hkl
   obtain⟨a1,ha1⟩:∃a:Nat,a=f%256:=⟨_,rfl⟩
   obtain⟨a2,ha2⟩:∃a:Nat,a=f/256:=⟨_,rfl⟩
   have v1:((UInt8.ofNat rs[k].1).toNat:Int)=(a1:Int):=by rw[eG,←hf,ha1]
   have v2:((UInt8.ofNat (rs[k].1/256)).toNat:Int)=(a2:Int):=by rw[eG,←hf,ha2];omega
   have v3:((UInt8.ofNat rs[k].2).toNat:Int)=(n:Int):=by rw[eG,←hn];omega
   have HR:=af (show ∀W,Below lb w1 W→W.cell? ⟨vb,vo+(4+3*k),none⟩=some (.int .u8 a1)∧W.cell? ⟨vb,vo+(4+3*k)+1,none⟩=some (.int .u8 a2)∧W.cell? ⟨vb,vo+(4+3*k)+2,none⟩=some (.int .u8 n) from fun W hW=>by
    have e0:=HCELL.out W hW (4+3*k) _ (DX size rs rest _ _ _ j0 rfl)
    have e1:=HCELL.out W hW (4+3*k+1) _ (DX size rs rest _ _ _ j1 (by omega))
    have e2:=HCELL.out W hW (4+3*k+2) _ (DX size rs rest _ _ _ j2 (by omega))
    rw[v1] at e0;rw[v2] at e1;rw[v3] at e2
    exact⟨e0,by rw[jU];exact e1,by rw[jU];exact e2⟩)
   have HF:=af (Ir a1 a2 f (by omega) (by omega) (by omega))
   have q9:IntKind.i64.wrap (n:Int)=(n:Int):=aR _ (by omega)
   have HRUN:=af (show iB (rs.take (k+1))=iB (rs.take k)++[.int .i64 f,.int .i64 n] by
    rw[aK hkl,rU,hf,hn];rfl)
   have hcl1:wr.cell? ⟨lb,1,none⟩=some (.slice vo2 k vc2):=by simp[World.cell?,hobj]
   have hz5:0<512 - (4+3*k):=by omega
   have hz9:1<512 - (4+3*k):=by omega
   have hz10:2<512 - (4+3*k):=by omega
   have hz6:(0:Int)<((512 - (4+3*k):Nat):Int):=by omega
   have hz7:(1:Int)<((512 - (4+3*k):Nat):Int):=by omega
   have hz8:(2:Int)<((512 - (4+3*k):Nat):Int):=by omega
   clear hf hn v1 v2 v3 j0 j1 j2 ha1 ha2 z1 z2 z3 z4
   generalize 512 - (4+3*k)=M at*
   generalize cp - (4+3*k)=M2 at*
   refine aP (fun W=>Below lb w1 W∧W.cell? ⟨lb,1,none⟩=some (.slice vo2 k vc2)∧lb<W.heap.size∧vb<W.heap.size) (fun i=> !([20,21,24].contains i)) [0,1,2,3,4,5,6,7,8,9,10,11,12,13,14,15,16,17,18,19,20,21,22,23,24] rfl (by kernel_rfl) ⟨hb.drew,hcl1,hlbr,hvr⟩ ?_
   repeat ((refine bO (v:= ?_) rfl rfl (fun _ _ _ h=>h) rfl (fun W hW=> ?_) ?_);rotate_left;(focus ((try dsimp only at hW);obtain⟨r0,r1,r2,r3⟩:=hW;obtain⟨r4,r5,r6⟩:=HR.out W r0;clear r0;(go_simp;first|done|with_reducible rfl)));(try simp only[Act.put,aj,au,ak]))
   rw[HF.out]
   have hsubr:∀g,S g→g<wr.heap.size:=fun g hg=>ax (hsub g hg) (aH hlbw (gP hlbr))
   have hbA':Below lb wr (wr.alloc (.cells #[.int .i64 f,.int .i64 n] 249)).drew:=((aI wr _).mono (gP hlbr)).drew
   have hobA:(wr.alloc (.cells #[.int .i64 f,.int .i64 n] 249)).drew.heap[lb]? =_:=((aI wr (.cells #[.int .i64 f,.int .i64 n] 249)).block lb hlbr).trans hobj
   have hownA:=(hown.below (aI wr (.cells #[.int .i64 f,.int .i64 n] 249))).drew
   have hsrcA:=(mO (w:=wr) (S:=S) (B:=lb) (e:=249) (k:=2) [.int .i64 f,.int .i64 n] 1 1 rfl rfl (aG _) (by simp[maxLen]) (gP hlbr) hsubr).drew.dD.src (P:=Tryz.prog) Tryz.underlying177 (by intro u hu;simp at hu;rcases hu with rfl|rfl<;>rfl)
   have hSA:∀g,S g→g<(wr.alloc (.cells #[.int .i64 f,.int .i64 n] 249)).drew.heap.size:=fun g hg=>ax (hsubr g hg) (aI wr (.cells #[.int .i64 f,.int .i64 n] 249)).size
   have hcA:(wr.alloc (.cells #[.int .i64 f,.int .i64 n] 249)).drew.cell? ⟨lb,1,none⟩=some (.slice vo2 k vc2):=by have:=hobA;simp only[World.cell?,this];rfl
   refine dw rfl rfl rfl ?_;intro K hK;go_simp
   refine hK.out _ _ ⟨hb.trans hbA',hcA,(ah.1 hobA).1,ax hvr hbA'.size⟩ ?_
   refine dw rfl rfl rfl ?_;intro K hK
   refine mh (.tmp 82) (.tmp 98) 177 177 rfl S lb 249 2 16 _ Tryz.underlying177 wP rfl (.slice vo2 k vc2) k _ rfl hownA _ 1 _ rfl hsrcA hSA (aH (gP hlbr) hbA'.size) (by unfold maxLen;omega) (by omega) ?_
   intro ao3 c3 w4 hown4 hk4 hb4 hd4
   have hob4:w4.heap[lb]? =_:=(hk4.block lb (ah.1 hobA).1 (hownA.ne hobA (by decide))).trans hobA
   have hPUT:=zq (rs':=rs.take (k+1)) hobA hownA (aG _) hsl hk4 hb4 (by rw[HRUN.out,aD,show min (k+1) rs.length=k+1 by omega];exact hown4)
   have HPUT:=af hPUT;clear hPUT
   refine hK.out _ _ ⟨(hb.trans hbA').trans hb4,by simp[World.cell?,hob4],(ah.1 hob4).1,ax (ax hvr hbA'.size) hb4.size⟩ ?_
   (try simp only[Act.put,aj,au,ak])
   repeat ((refine bO (v:= ?_) rfl rfl (fun _ _ _ h=>h) rfl (fun W hW=> ?_) ?_);rotate_left;(focus ((try dsimp only at hW);obtain⟨r0,r1,r2,r3⟩:=hW;clear r0;(go_simp;first|done|with_reducible rfl)));(try simp only[Act.put,aj,au,ak]))
   have g4:w4.cell? ⟨lb,1,none⟩=some (.slice vo2 k vc2):=by simp[World.cell?,hob4]
   have gf4:w4.frozen? ⟨lb,1,none⟩=false:=by simp[World.frozen?,hob4]
   have gl4:=(ah.1 hob4).1
   refine ja rfl rfl rfl (by kernel_rfl) ?_;intro K hK;go_simp
   refine hK.out _ _ ?_
   refine bR ?_
   clear hz5 hz6 hz7 hz8 hz9 hz10 q9
   go_wp2_with fail
   go_roundw
   case rel=>exact⟨k+1,_,by omega,by go_num,HPUT.out.1,(hb.trans hbA').trans HPUT.out.2⟩
   case measure=>simp[intOf];omega
  ·obtain rfl:k=rs.length:=by omega
   have hAr:=HA.out
   rw[bU] at hAr
   have hlen:=HH.out.len
   have hsubr:∀g,S g→g<wr.heap.size:=fun g hg=>ax (hsub g hg) (aH hlbw (gP hlbr))
   have HBK:=af (Ed lb size rs _ lb S wr.drew (show ku wr.drew S lb lb size rs (.slice vo2 rs.length vc2) from⟨hAr.obj,hAr.own.drew,hAr.lo,hAr.ns⟩) hsubr HH.out.ok (by omega))
   obtain⟨s5,hs5⟩:∃s:Nat,s=size+512:=⟨_,rfl⟩
   obtain⟨s6,hs6⟩:∃s:Nat,s=size+511:=⟨_,rfl⟩
   obtain⟨nb,hnb⟩:∃s:Nat,s=rf size:=⟨_,rfl⟩
   have q1:IntKind.i64.wrap ((size:Int)+512)=(s5:Int):=by rw[aR _ (by omega)];omega
   have q2:IntKind.i64.wrap ((s5:Int) - 1)=(s6:Int):=by rw[aR _ (by omega)];omega
   have q3:IntKind.i64.wrap ((s6:Int)/512)=(nb:Int):=by
    have e:(s6:Int)/512=(nb:Int):=by rw[hnb];unfold rf;omega
    rw[e];exact aR _ (by unfold rf at hnb;omega)
   have z0:((size:Int)==0)=false:=by simp;omega
   have z1:¬size=0:=by omega
   rw[←hnb] at hlen
   have HLEN:=af hlen
   have HCB:=af (show ∀W,Below wr.heap.size wr W→W.cell? ⟨lb,0,none⟩=some (.int .i64 size)∧lb<W.heap.size from fun W hW=>by
    have:=(hW.block lb hlbr).trans hobj
    exact⟨by simp[World.cell?,this],ax hlbr hW.size⟩)
   have HAR:=af hAr
   clear hAr D3' hs5 hs6 hnb hlen hown hkl
   go_upto_region 20 with (fail)
   refine aP (fun W=>Below wr.heap.size wr W) (fun i=> !([7].contains i)) [0,1,2,3,4,5,6,9,10,11,12,13,14,15,7,8,16,17] rfl (by kernel_rfl) ((aQ _ wr).drew) ?_
   repeat ((refine bO (v:= ?_) rfl rfl (fun _ _ _ h=>h) rfl (fun W hW=> ?_) ?_);rotate_left;(focus ((try dsimp only at hW);obtain⟨r0,r1⟩:=HCB.out W hW;(go_simp;first|done|with_reducible rfl)));(try simp only[Act.put,aj,au,ak]))
   refine dw rfl rfl rfl ?_;intro K hK;go_simp
   refine HBK.out.mono ?_;rintro e w5 ⟨bv,rfl,hown5,hb5⟩
   obtain⟨xo,xc,rfl,_,_,_,_⟩:=bE.form hown5.dD
   refine hK.out _ _ ((aQ _ wr).drew.trans hb5) ?_
   (try simp only[Act.put,aj,au,ak])
   have z3:=HLEN.out
   repeat ((refine bO (v:= ?_) rfl rfl (fun _ _ _ h=>h) rfl (fun W hW=> ?_) ?_);rotate_left;(focus ((try dsimp only at hW);obtain⟨r0,r1⟩:=HCB.out W hW;(try rw[z3]);(go_simp;first|done|with_reducible rfl)));(try simp only[Act.put,aj,au,ak]))
   refine bR ?_
   go_wp2_with fail
   go_ret2
   have hb05:Below wr.heap.size wr w5:=(aQ _ wr).drew.trans hb5
   have hbA5:Below lb w1 w5:=hb.trans (hb05.mono (gP hlbr))
   have hA5:=HAR.out.below hb05
   refine⟨lb,_,rfl,⟨hA5.obj,hA5.own.base hlbw,hlbw,hsl⟩,?_⟩
   exact hb1.trans (hbA5.mono hlbw)
def jL (head:Nat) (rs:List (Nat×Nat)):List Int:=(fu rs++[head]).map fun (b:Nat)=>(b:Int)
theorem Pz (mp:VS) (σ:cK) (S:Nat→Prop) (w:World) (head size:Nat) (rs:List (Nat×Nat)) (h:Inv σ S mp w) (hh:uf σ head size rs):
  Calls Tryz.prog 147 #[.iface 105 mp.agg,.int .i64 head] w fun e w'=>∃v,e= .returned (.tuple #[v,.int .i64 0])∧aS w' S w.heap.size 3 1 v (vW (jL head rs)).length ((vW (jL head rs)).map (.int .i64))∧Below w.heap.size w w':=by
 have hsub:=h.sub
 have hlo:=hh.lo
 obtain⟨hrl,hbl⟩:=hh.runs
 have HL:=af (P7 mp σ S w head size rs h hh)
 have x2:((head:Int)==0)=false:=by simp;omega
 have x3:¬head=0:=by omega
 have HOK:=af hh.ok
 have HE:=af (show ints (fu rs)++[.int .i64 (head:Int)]=(jL head rs).map (.int .i64) by simp[ints,jL])
 have HLN:=af (show (jL head rs).length=(fu rs).length+1 by simp[jL])
 clear h hh
 go_enter Tryz.func147,Tryz.ntmps147
 go_wp2_with (first
  |(go_at_call 181;go_must (refine HL.out.mono ?_;rintro e w1 ⟨lb,v,rfl,hA,hb1⟩;refine Stop.of ?_)))
 refine Stop.on ?_
 have hS1:∀g,S g→g<w1.heap.size:=fun g hg=>ax (hsub g hg) hb1.size
 have HBK:=af (Ed lb size rs v w.heap.size S w1 hA hS1 HOK.out (by omega))
 go_wp2_with (first
  |(go_at_call 182;go_must (refine HBK.out.mono ?_;rintro e w2 ⟨bv,rfl,hown2,hb2⟩;refine Stop.of ?_)))
 refine Stop.on ?_
 obtain⟨xo,xc,rfl,_,_,_,_⟩:=bE.form hown2.dD
 have hS2:∀g,S g→g<w2.heap.size:=fun g hg=>ax (hS1 g hg) hb2.size
 have hown2':=hown2.base (B:=w.heap.size) hb1.size
 have hbg:w.heap.size≤w2.heap.size:=aH hb1.size hb2.size
 go_wp2_with (first
  |(at_builtin;go_must ((refine dK rfl (.tmp 23) (.tmp 25) 151 151 rfl S w.heap.size 3 1 8 _ Tryz.underlying151 gV rfl (.slice xo (fu rs).length xc) _ _ rfl (hown2'.below (aI _ _)) _ 1 _ rfl (gM [.int .i64 (head:Int)] _ 1 1 1 (by simp) Tryz.underlying151 rfl ?_) (fD hS2 _) ?_ ?_ ?_ ?_);(focus (simp[Value.oneCell']));(focus (simp only[aT];omega));(focus (unfold maxLen;omega));(focus omega);intro ao3 c3 w3 hown3 hk3 hb3 hd3;refine Stop.of ?_)))
 refine Stop.on ?_
 rw[HE.out] at hown3
 have hown3':aS w3 S w.heap.size 3 1 (.slice ao3 ((fu rs).length+1) c3) (jL head rs).length ((jL head rs).map (.int .i64)):=by rw[HLN.out];exact hown3
 have hbA:Below w.heap.size w w3:=((hb1.trans (hb2.mono hb1.size)).trans (aI w2 _|>.mono hbg)).trans hb3
 have HSO:=af (Ml (.slice ao3 ((fu rs).length+1) c3) (jL head rs) w3 S w.heap.size hown3' (by rw[HLN.out];omega) hbA.size)
 go_wp2_with (first
  |(go_at_call 134;go_must (refine HSO.out.mono ?_;rintro e w4 ⟨rfl,ho4,hb4⟩;refine Stop.of ?_)))
 refine Stop.on ?_
 go_wp2_with fail
 go_ret2
 exact⟨_,rfl,ho4,hbA.trans hb4⟩
def cK.frees (σ:cK) (l:List Int):cK:=l.foldl cK.gone σ
theorem AO (σ:cK) (l:List Int) (k:Nat) (h:k<l.length):σ.frees (l.take (k+1))=(σ.frees (l.take k)).gone l[k]:=by
 rw[aK h]
 unfold cK.frees
 rw[List.foldl_append];rfl
theorem vH:∀(l:List Int) (σ:cK) (x:Int),(∀y∈l,0≤y)→x∉l→(σ.frees l).hasB x=σ.hasB x
 |[],_,_,_,_=>rfl
 |y::l,σ,x,h,hx=>by
  have:=vH l (σ.gone y) x (fun z hz=>h z (aX _ hz)) (fun e=>hx (aX _ e))
  show ((σ.gone y).frees l).hasB x=_
  rw[this]
  exact cK.xY (h y (bg ..)) (fun e=>hx (by rw[e];exact bg ..))
theorem yo:∀(l:List Int) (σ:cK),(∀x∈l,σ.hasB x=true)→l.Nodup→kW σ (σ.frees l) l []
 |[],σ,_,_=>kW.refl (by simp)
 |y::l,σ,h,hn=>by
  obtain⟨n1,n2⟩:=nS.1 hn
  have c1:=uK (h y (bg ..))
  have c1':=c1.left (rs:=l) hn (fun x hx=>h x (aX _ hx))
  have h2:∀x∈l,(σ.gone y).hasB x=true:=fun x hx=>(c1'.new x hx).1
  exact c1'.trans (yo l (σ.gone y) h2 n2)
structure oh (σ:cK) (head:Nat) (t:List UInt8) (rs:List (Nat×Nat)):Prop where
 hd:uf σ head t.length rs
 nd:(jL head rs).Nodup
 blk:∀i (h:i<(fu rs).length),σ.hasB ((fu rs)[i]:Nat)=true∧2≤(fu rs)[i]∧σ.mem ((fu rs)[i]:Nat)=pad (chunk t i)
theorem oh.all {σ:cK} {head:Nat} {t:List UInt8} {rs:List (Nat×Nat)} (h:oh σ head t rs):∀x∈jL head rs,σ.hasB x=true∧2≤x:=by
 intro x hx
 unfold jL at hx
 obtain⟨b,hb,rfl⟩:=dP.1 hx
 rcases bJ.1 hb with hb|hb
 ·obtain⟨i,hi,e⟩:=gX hb
  have:=h.blk i hi
  rw[e] at this
  exact⟨this.1,by have:=this.2.1;omega⟩
 ·rw[bH.1 hb]
  exact⟨h.hd.has,by have:=h.hd.lo;omega⟩
theorem RY (mp:VS) (σ:cK) (S:Nat→Prop) (w:World) (head:Nat) (t:List UInt8) (rs:List (Nat×Nat)) (h:Inv σ S mp w) (hh:oh σ head t rs):
  Calls Tryz.prog 103 #[.iface 105 mp.agg,.int .i64 head] w fun e w'=>e= .returned (.int .i64 0)∧Inv (σ.frees (vW (jL head rs))) S mp w'∧Step S S w w':=by
 have hsub:=h.sub
 have HBK:=af (Pz mp σ S w head t.length rs h hh.hd)
 have hall:=hh.all
 obtain⟨L,hL⟩:∃L,L=vW (jL head rs):=⟨_,rfl⟩
 have hnd:L.Nodup:=by rw[hL];exact(xw _ _).nodup_iff.2 hh.nd
 have hall':∀x∈L,σ.hasB x=true∧2≤x:=fun x hx=>hall x ((EC x).1 (by rw[←hL];exact hx))
 have hll:L.length≤97:=by
  rw[hL,vV]
  have:=hh.hd.runs.2
  simp[jL];omega
 rw[←hL] at HBK ⊢
 have HALL:=af hall';have HND:=af hnd
 have HI:=af h
 have hm:∀w,(method 475 105 mp.agg "Free").run Tryz.prog w= .ok (285,.pointer (some ⟨mp.mp,0,none⟩)) w:=fun _=>by kernel_rfl
 clear h hh hall hall' hnd hL
 go_enter Tryz.func103,Tryz.ntmps103
 go_wp2_with (first
  |(go_at_call 147;go_must (refine HBK.out.mono ?_;rintro e w1 ⟨bv,rfl,hown1,hb1⟩;refine Stop.of ?_)))
 refine Stop.on ?_
 obtain⟨xo,xc,rfl,_,_,_,_⟩:=bE.form hown1.dD
 have HOW:=af hown1
 have HB1:=af hb1
 clear hown1 hb1
 go_wp2_with fail
 go_loopw [8,9,18] (fun _ _ i wr=>∃k:Nat,k≤L.length∧i= .int .i64 k∧Inv (σ.frees (L.take k)) S mp wr∧Step S S w1 wr) (fun _ _ i _=>L.length - (intOf i).toNat)
 case atStart=>exact⟨0,by omega,rfl,by rw[gF];exact HI.out.below HB1.out,Step.refl _ _⟩
 case round=>
  obtain⟨k,hk,rfl,hIk,hsk⟩:=hrel
  by_cases hkl:k<L.length
  ·have y1:(k:Int)<(L.length:Int):=by omega
   have HT:=af (AO σ L k hkl)
   have hx:=HALL.out L[k] (bq hkl)
   have hxn:L[k]∉L.take k:=fun e=>by
    obtain⟨i,hi,e2⟩:=gX e
    rw[aD] at hi
    rw[Bt] at e2
    have:=(Ra HND.out).1 e2
    omega
   have hhas:(σ.frees (L.take k)).hasB L[k]=true:=by
    rw[vH _ _ _ (fun y hy=>by have:=(HALL.out y (dZ hy)).2;omega) hxn]
    exact hx.1
   have HFR:=af (qG mp (σ.frees (L.take k)) S wr L[k] hIk hx.2 hhas)
   obtain⟨pb,po,rfl,d1⟩:=jr.at (zs:=L) (HOW.out.step hsk).dD rfl k hkl
   have hpb:=aF wr _ d1
   clear hx hxn hhas
   go_wp2_with (refine HFR.out.mono ?_;rintro e w2 ⟨rfl,hI2,hs2⟩)
   go_roundw
   case rel=>exact⟨k+1,by omega,by go_num,by rw[HT.out];exact hI2,hsk.trans hs2⟩
   case measure=>simp[intOf];omega
  ·obtain rfl:k=L.length:=by omega
   rw[bU] at hIk
   have y1:¬(L.length:Int)<(L.length:Int):=by omega
   go_wp2_with fail
   go_ret
   exact⟨rfl,hIk,(Step.of_below HB1.out).trans hsk⟩
end Go.Proofs.YtpgdljlghiifjaaGreatDoor
namespace Go.Proofs.YtpgdljlghiifjaaGreatDoor
open Go.RowKit Go.Shelf
set_option maxRecDepth 100000
set_option maxHeartbeats 8000000
set_option linter.all false
def yu:Go.Shelf.Ren:=⟨fun x=>match x with|240=>159|276=>196|169=>118|n=>n,fun x=>match x with|0=>0|3=>3|4=>4|5=>5|9=>9|20=>20|37=>101|70=>117|72=>119|127=>264|164=>302|n=>n,fun n=>n⟩
theorem yt:Lays.n240 Tryz.prog yu where
 mixed:=by kernel_rfl
 f240:=Tryz.func159.trans (congrArg some (by kernel_rfl))
 f276:=Tryz.func196.trans (congrArg some (by kernel_rfl))
 t0:=Tryz.underlying0
 a0:=Tryz.isAgg0
 z0:=Tryz.sizeOf0
 v0:=Tryz.zeroValue0
 t4:=Tryz.underlying4
 a4:=Tryz.isAgg4
 z4:=Tryz.sizeOf4
 v4:=Tryz.zeroValue4
 t9:=Tryz.underlying9
 a9:=Tryz.isAgg9
 z9:=Tryz.sizeOf9
 v9:=Tryz.zeroValue9
 t20:=Tryz.underlying20
 a20:=Tryz.isAgg20
 z20:=Tryz.sizeOf20
 v20:=Tryz.zeroValue20
 t70:=Tryz.underlying117
 a70:=Tryz.isAgg117
 z70:=Tryz.sizeOf117
 v70:=Tryz.zeroValue117
 t72:=Tryz.underlying119
 a72:=Tryz.isAgg119
 z72:=Tryz.sizeOf119
 v72:=Tryz.zeroValue119
 t164:=Tryz.underlying302
 a164:=Tryz.isAgg302
 z164:=Tryz.sizeOf302
 v164:=Tryz.zeroValue302
theorem zN:Lays.n169 Tryz.prog yu where
 mixed:=by kernel_rfl
 f169:=Tryz.func118.trans (congrArg some (by kernel_rfl))
 t0:=Tryz.underlying0
 a0:=Tryz.isAgg0
 z0:=Tryz.sizeOf0
 v0:=Tryz.zeroValue0
 t3:=Tryz.underlying3
 a3:=Tryz.isAgg3
 z3:=Tryz.sizeOf3
 v3:=Tryz.zeroValue3
 t9:=Tryz.underlying9
 a9:=Tryz.isAgg9
 z9:=Tryz.sizeOf9
 v9:=Tryz.zeroValue9
 t37:=Tryz.underlying101
 a37:=Tryz.isAgg101
 z37:=Tryz.sizeOf101
 v37:=Tryz.zeroValue101
 t70:=Tryz.underlying117
 a70:=Tryz.isAgg117
 z70:=Tryz.sizeOf117
 v70:=Tryz.zeroValue117
 t72:=Tryz.underlying119
 a72:=Tryz.isAgg119
 z72:=Tryz.sizeOf119
 v72:=Tryz.zeroValue119
 t127:=Tryz.underlying264
 a127:=Tryz.isAgg264
 z127:=Tryz.sizeOf264
 v127:=Tryz.zeroValue264
theorem qH:Builder.Extra Tryz.prog yu where
 sizeBuilder:=by kernel_rfl
 liesBuilder:=by kernel_rfl
 t5:=Tryz.underlying5
 a5:=Tryz.isAgg5
 z5:=Tryz.sizeOf5
 v5:=Tryz.zeroValue5
 infoByte:=by kernel_rfl
 cellsByte:=by kernel_rfl
 sizeByte:=by kernel_rfl
 neB5:=by decide
end Go.Proofs.YtpgdljlghiifjaaGreatDoor
namespace Go.Proofs.YtpgdljlghiifjaaGreatDoor
open Go.RowKit
set_option maxRecDepth 100000
set_option maxHeartbeats 8000000
set_option linter.all false
structure uh (w:World) (S:Nat→Prop) (B b:Nat) (l:List UInt8):Prop where
 ns:¬S b
 at_:∃p v,(p= .pointer none∨p= .pointer (some ⟨b,0,none⟩))∧w.heap[b]? =some (.cells #[p,v] 119 (0,0))∧aS w S B 5 1 v l.length (aJ l)
theorem uh.below {w w':World} {S:Nat→Prop} {B b:Nat} {l:List UInt8} (h:uh w S B b l) (hb:Below w.heap.size w w'):uh w' S B b l:=by
 obtain⟨h2,p,v,h3,h4,h5⟩:=h
 exact⟨h2,p,v,h3,(hb.block b (ah.1 h4).1).trans h4,h5.below hb⟩
theorem uh.lt {w:World} {S:Nat→Prop} {B b:Nat} {l:List UInt8} (h:uh w S B b l):b<w.heap.size:=by
 obtain⟨_,p,v,_,h4,_⟩:=h
 exact(ah.1 h4).1
theorem Lm (B b:Nat) (l:List UInt8) (S:Nat→Prop) (w:World) (h:uh w S B b l):
  Calls Tryz.prog 159 #[.pointer (some ⟨b,0,none⟩)] w fun e w'=>e= .returned (.tuple #[])∧(∃v,w'.heap[b]? =some (.cells #[.pointer (some ⟨b,0,none⟩),v] 119 (0,0))∧aS w' S B 5 1 v l.length (aJ l))∧Keep (· =b) w w':=by
 obtain⟨h2,p,v,h3,h4,h5⟩:=h
 rcases h3 with rfl|rfl
 ·refine(Any.Builder_copyCheck_fresh yt qH.toX72 b w (by simp[World.cell?,h4]) (by simp[World.shape?,h4];rfl) (by simp[World.frozen?,h4])).mono ?_
  rintro e w' ⟨rfl,rfl⟩
  have hk:Keep (· =b) w (w.setCell ⟨b,0,none⟩ (.pointer (some ⟨b,0,none⟩))):=(Keep.refl (· =b) _).setCell (p:=⟨b,0,none⟩) (.inr rfl) _
  refine⟨rfl,⟨v,by simp[World.setCell,aW,h4],h5.keep fun g hg hl hs=>⟨hk.block g hl (fun e=>h5.ne h4 (by decide) (by rw[hg,e])),hs⟩⟩,hk⟩
 ·refine(Any.Builder_copyCheck_used yt qH.toX72 b w (by simp[World.cell?,h4])).mono ?_
  rintro e w' ⟨rfl,rfl⟩
  exact⟨rfl,⟨v,h4,h5⟩,Keep.refl _ _⟩
theorem Ll (B b:Nat) (l x:List UInt8) (xv:Value) (S:Nat→Prop) (w:World) (h:uh w S B b l) (hB:B≤w.heap.size) (hS:∀g,S g→g<w.heap.size) (hx:bE w fO 1 xv x.length (aJ x)) (hxb:∀g,xv.ownBlock=some g→g≠b) (hl:l.length≤1000000) (hxl:x.length≤1000000):
  Calls Tryz.prog 218 #[.pointer (some ⟨b,0,none⟩),xv] w fun e w'=>e= .returned (.tuple #[.int .i64 x.length,.nilIface])∧uh w' S B b (l++x)∧Keep (fun g=>g=b∨B≤g) w w':=by
 have HC:=af (Lm B b l S w h)
 have hns:=h.ns
 obtain⟨xo,xc,rfl,_,_,_,_⟩:=bE.form hx
 have HX:=af hx
 have HLX:=af (show aJ l++aJ x=aJ (l++x) from(gm l x).symm)
 clear h hx
 go_enter Tryz.func218,Tryz.ntmps218
 go_wp2_with (first
  |(go_at_call 159;go_must (refine HC.out.mono ?_;rintro e w1 ⟨rfl,⟨v,hobj,hown⟩,hk1⟩;refine Stop.of ?_)))
 refine Stop.on ?_
 obtain⟨ao,c,rfl,_,_,_,_⟩:=bE.form hown.dD
 have hsrc:=(bE.keep (S':=fO) HX.out (fun g hg hl _=>⟨hk1.block g hl (fun e=>hxb g hg e),id⟩)).src (P:=Tryz.prog) Tryz.underlying101 (gT x)
 have hc1:w1.cell? ⟨b,1,none⟩=some (.slice ao l.length c):=by simp[World.cell?,hobj]
 have hlt:=(ah.1 hobj).1
 have hS1:∀g,S g→g<w1.heap.size:=fun g hg=>ax (hS g hg) hk1.size
 have hB1:=aH hB hk1.size
 go_wp2_with (first
  |(at_builtin;go_must ((refine dK rfl (.tmp 12) (.tmp 13) 101 101 rfl S B 5 1 1 (.int .u8 0) Tryz.underlying101 jq rfl (.slice ao l.length c) _ _ rfl hown (.slice xo x.length xc) _ _ rfl hsrc hS1 ?_ ?_ ?_ ?_);(focus (exact hB1));(focus (unfold maxLen;omega));(focus omega);intro ao3 c3 w3 hown3 hk3 hb3 hd3;refine Stop.of ?_)))
 refine Stop.on ?_
 have hob3:w3.heap[b]? =_:=(hk3.block b hlt (hown.ne hobj (by decide))).trans hobj
 have g1:w3.cell? ⟨b,1,none⟩=some (.slice ao l.length c):=by simp[World.cell?,hob3]
 have gf:w3.frozen? ⟨b,1,none⟩=false:=by simp[World.frozen?,hob3]
 have gl:=(ah.1 hob3).1
 have HO3:=af hown3
 clear hown3
 go_wp2_with fail
 go_ret2
 have hk5:Keep (· =b) w3 (w3.setCell ⟨b,1,none⟩ (.slice ao3 (l.length+x.length) c3)):=(Keep.refl (· =b) _).setCell (p:=⟨b,1,none⟩) (.inr rfl) _
 have ho:=HO3.out
 rw[HLX.out] at ho
 refine⟨rfl,⟨hns,_,_,.inr rfl,by simp[World.setCell,aW,hob3];rfl,?_⟩,?_⟩
 ·rw[aC]
  exact ho.keep fun g hg hl hs=>⟨hk5.block g hl (fun e=>ho.ne hob3 (by decide) (by rw[hg,e])),hs⟩
 ·exact((hk1.mono (fun _ _ e=> .inl e)).trans (hk3.mono (fun g _ e=> .inr (hown.lo g e))) (fun _ _ e=>e)).trans (hk5.mono (fun _ _ e=> .inl e)) (fun _ _ e=>e)
theorem I4 (B b:Nat) (l:List UInt8) (S:Nat→Prop) (w:World) (h:uh w S B b l):
  Calls Tryz.prog 118 #[.pointer (some ⟨b,0,none⟩)] w fun e w'=>e= .returned (.string ⟨l.toArray⟩)∧Below (min B b) w w':=by
 have hlt:=h.lt
 obtain⟨h2,p,v,h3,h4,h5⟩:=h
 have hne:=h5.ne h4 (by decide)
 have hcl:(Lib.byteCells l)=aJ l:=rfl
 have h5':=h5.base (B:=min B b) (Nat.min_le_left _ _)
 have hA:Lib.BuilderAt 119 5 (min B b) b p (Lib.byteCells l) w:=⟨Nat.min_le_right _ _,v,h4,by rw[hcl,bL];exact h5'.1,hne⟩
 refine(Any.Builder_String_any zN qH (min B b) b l w ?_ (by omega))
 rcases h3 with rfl|rfl
 ·exact .inl hA
 ·exact .inr hA
theorem nN (t:List UInt8) (k:Nat):(chunk t k).length=min 512 (t.length - 512*k):=by simp[chunk]
theorem GV (t:List UInt8) (k:Nat):t.take (512*k)++chunk t k=t.take (512*(k+1)):=by
 unfold chunk
 rw[show 512*(k+1)=512*k+512 by omega,List.take_add]
theorem Py (mp:VS) (σ:cK) (S:Nat→Prop) (w:World) (head:Nat) (t:List UInt8) (rs:List (Nat×Nat)) (h:Inv σ S mp w) (hh:oh σ head t rs):
  Calls Tryz.prog 180 #[.iface 105 mp.agg,.int .i64 head,.int .i64 0,.int .i64 49152] w fun e w'=>e= .returned (.tuple #[.string ⟨t.toArray⟩,.int .i64 0])∧Below w.heap.size w w':=by
 have hsub:=h.sub
 have HL:=af (P7 mp σ S w head t.length rs h hh.hd)
 have hlo:=hh.hd.lo
 have hs1:=hh.hd.s1
 have hs2:=hh.hd.s2
 have HLEN:=af hh.hd.len
 have hrl:=hh.hd.runs
 obtain⟨hrl,hbl⟩:=hrl
 have HOK:=af hh.hd.ok
 have HI:=af h
 have HBK:=af hh.blk
 have x1:¬(head:Int)<0:=by omega
 have x2:decide ((head:Int)<0)=false:=bD x1
 have m1:min (0:Int) (t.length:Int)=0:=by omega
 have m2:min (49152:Int) (t.length:Int)=(t.length:Int):=by omega
 have hm:∀w,(method 475 105 mp.agg "Read").run Tryz.prog w= .ok (59,.pointer (some ⟨mp.tx,0,none⟩)) w:=fun _=>by kernel_rfl
 clear h hh
 go_enter Tryz.func180,Tryz.ntmps180
 go_wp2_with (first
  |(go_at_call 181;go_must (refine HL.out.mono ?_;rintro e w1 ⟨lb,v,rfl,hA,hb1⟩;refine Stop.of ?_)))
 refine Stop.on ?_
 have hlb:w1.cell? ⟨lb,0,none⟩=some (.int .i64 t.length):=by have:=hA.obj;simp[World.cell?,this]
 have hll:lb<w1.heap.size:=(ah.1 hA.obj).1
 have HA:=af hA;clear hA
 go_upto_region 11 with (fail)
 obtain⟨bb,HBB⟩:∃bb,Hid (w1.heap.size=bb):=⟨_,af rfl⟩
 obtain⟨w2,HW2⟩:∃w2:World,Hid (w1.alloc (.cells #[.pointer none,.slice none 0 0] 119)=w2):=⟨_,af rfl⟩
 have hb2:Below w1.heap.size w1 w2:=by rw[←HW2.out];exact aI w1 _
 have hB2:w2.heap[bb]? =some (.cells #[.pointer none,.slice none 0 0] 119 (0,0)):=by rw[←HW2.out,←HBB.out];exact aM w1 _
 rw[HW2.out,HBB.out]
 have hbbw:w.heap.size≤bb:=by rw[←HBB.out];exact hb1.size
 have hbb2:bb<w2.heap.size:=(ah.1 hB2).1
 have hS2:∀g,S g→g<w2.heap.size:=fun g hg=>ax (hsub g hg) (aH hbbw (gP hbb2))
 have HBL:=af (Ed lb t.length rs v w.heap.size S w2 (HA.out.below hb2) hS2 HOK.out (by omega))
 clear hlb hll
 go_wp2_with (first
  |(go_at_call 182;go_must (refine HBL.out.mono ?_;rintro e w3 ⟨bv,rfl,hown3,hb3⟩;refine Stop.of ?_)))
 refine Stop.on ?_
 obtain⟨xo,xc,rfl,_,_,_,_⟩:=bE.form hown3.dD
 have hB3:=(hb3.block bb hbb2).trans hB2
 have hI3:=HI.out.below (hb1.trans ((hb2.trans (hb3.mono (by rw[HBB.out];omega))).mono hb1.size))
 have hnS:¬S bb:=fun x=>absurd (hsub bb x) (bF.2 hbbw)
 have hbl0:uh w3 S w3.heap.size bb (t.take (512*0)):=⟨hnS,_,_,.inl rfl,hB3,by rw[Nat.mul_zero,gF];exact aS.nil _ _ _ _ _⟩
 have HO:=af hown3
 have hbw3:Below w.heap.size w w3:=(hb1.trans (hb2.mono hb1.size)).trans (hb3.mono (by omega))
 have HI3:=af hI3
 obtain⟨C,HC⟩:∃C,Hid (w3.heap.size=C):=⟨_,af rfl⟩
 rw[HC.out] at hbl0
 have hCb:bb<C:=by rw[←HC.out];exact ax hbb2 hb3.size
 have hS3:∀g,S g→g<w.heap.size:=hsub
 clear hown3 hI3 hB3 hB2
 go_wp2_with fail
 go_loopw [14,15,16,17,18,19,62] (fun _ _ _ _ _ _ i wr=>∃k:Nat,k≤(fu rs).length∧i= .int .i64 k∧uh wr S C bb (t.take (512*k))∧Keep (fun g=>g=bb∨C≤g) w3 wr) (fun _ _ _ _ _ _ i _=>(fu rs).length - (intOf i).toNat)
 case atStart=>exact⟨0,by omega,rfl,hbl0,Keep.refl _ _⟩
 case round=>
  clear hbl0
  obtain⟨k,hk,rfl,hbl,hkk⟩:=hrel
  by_cases hkl:k<(fu rs).length
  ·have y1:(k:Int)<((fu rs).length:Int):=by omega
   have hor:aS wr S w2.heap.size 3 1 (.slice xo (fu rs).length xc) (fu rs).length (ints (fu rs)):=HO.out.keep fun g hg hl hs=>⟨hkk.block g hl (fun e=>by
    have:=HO.out.lo g hg
    rcases e with e|e
    ·omega
    ·rw[←HC.out] at e;omega),hs⟩
   have hil:=hor.dD
   rw[JF] at hil
   have hil':jr wr S (.slice xo (fu rs).length xc) ((fu rs).map fun (b:Nat)=>(b:Int)):=by unfold jr;rw[dW];exact hil
   obtain⟨pb,po,rfl,d1⟩:=hil'.at rfl k (by simpa using hkl)
   rw[C9] at d1
   have hpb:=aF wr _ d1
   obtain⟨has,hb2',hmem⟩:=HBK.out k hkl
   have hIr:Inv σ S mp wr:=HI3.out.jZ hkk (fun g hg e=>by
    have:=hS3 g hg
    rcases e with e|e
    ·omega
    ·omega)
   have hrd:=Ab mp σ S wr ((fu rs)[k]:Nat) hIr has
   rw[hmem] at hrd
   have HRD:=af hrd
   obtain⟨bk,HBKK⟩:∃bk:Nat,Hid ((fu rs)[k]=bk):=⟨_,af rfl⟩
   rw[HBKK.out] at d1 HRD
   have hcl:=nN t k
   have hk512:512*k<t.length:=by have hlen:=HLEN.out;unfold rf at hlen;omega
   obtain⟨hi,hhi⟩:∃hi:Nat,hi=min 512 (t.length - 512*k):=⟨_,rfl⟩
   have m3:max (-((k:Int)*512)) 0=0:=by omega
   have m4:min ((t.length:Int) - (k:Int)*512) 512=(hi:Int):=by omega
   have HHI:=af hhi
   have z1:¬(hi:Int)≤0:=by omega
   have z2:¬hi=0:=by omega
   have z3:hi≤512:=by omega
   clear hhi hrd hmem hor hil hb2' has hcl
   go_upto_region 15 with (fail)
   have z4:¬(512:Int)<(hi:Int):=by omega
   have z5:(hi:Int)≤512:=by omega
   go_wp2_with (refine HRD.out.mono ?_;rintro e w4 ⟨dv,rfl,hdv,hdb,hb4⟩;refine Stop.of ?_)
   refine Stop.on ?_
   obtain⟨vo,vc,rfl,n1,m1',_,_⟩:=bE.form hdv
   have hup':=bE.upto (bE.loose hdv) hi z3
   have hpl:(aJ (pad (chunk t k))).take (hi*1)=aJ (chunk t k):=by
    rw[aV]
    unfold aJ pad
    rw[←gI,bQ (by rw[nN,HHI.out];exact aG _),aN (by rw[nN,HHI.out];exact aG _)]
   rw[hpl] at hup'
   have hcl2:(chunk t k).length=hi:=by rw[nN,HHI.out]
   have hbl4:=hbl.below hb4
   have hBC4:C≤w4.heap.size:=by have a:=hkk.size;have b:=hb4.size;rw[←HC.out];omega
   have hS4:∀g,S g→g<w4.heap.size:=fun g hg=>by have:=hS3 g hg;have a:=hbbw;omega
   have hWR:=Ll C bb (t.take (512*k)) (chunk t k) (.slice vo hi vc) S w4 hbl4 hBC4 hS4 (by rw[hcl2];exact hup') (fun g hg=>by
    have h1:=hdb g (by cases vo<;>exact hg)
    have h2:=hkk.size
    rw[HC.out] at h2
    omega) (by simp;omega) (by rw[hcl2];omega)
   have HWR:=af hWR
   have z6:(hi:Int)≤(vc:Int):=by omega
   clear hdv hup' hpl hcl2 hWR hbl4
   go_upto_region 21 with (fail)
   go_wp2_with (first
    |(go_at_call 218;go_must (refine HWR.out.mono ?_;rintro e w5 ⟨rfl,hbl5,hk5⟩)))
   go_roundw
   case rel=>exact⟨k+1,by omega,by go_num,by rw[←GV];exact hbl5,(hkk.trans (Keep.of_below hb4 (fun g=>g=bb∨C≤g)) (fun _ _ e=>e)).trans hk5 (fun _ _ e=>e)⟩
   case measure=>simp[intOf];omega
  ·obtain rfl:k=(fu rs).length:=by omega
   have y1:¬((fu rs).length:Int)<((fu rs).length:Int):=by omega
   have htt:t.take (512*(fu rs).length)=t:=aN (by rw[HLEN.out];unfold rf;omega)
   rw[htt] at hbl
   have HST:=af (I4 C bb t S wr hbl)
   have HTT:=af htt
   clear htt
   go_wp2_with (first
    |(go_at_call 118;go_must (refine HST.out.mono ?_;rintro e w5 ⟨rfl,hb5⟩)))
   go_ret2
   refine⟨rfl,?_⟩
   have h1:Below w.heap.size w3 wr:=hkk.gG hbw3.size (fun i hi e=>by
    have:=HC.out
    have:=hbw3.size
    omega)
   exact(hbw3.trans h1).trans (hb5.mono (by
    have:=HC.out
    have:=hbw3.size
    omega))
theorem RX (mp:VS) (σ:cK) (S:Nat→Prop) (w:World) (head:Nat) (t:List UInt8) (rs:List (Nat×Nat)) (h:Inv σ S mp w) (hh:oh σ head t rs):
  Calls Tryz.prog 146 #[.iface 105 mp.agg,.int .i64 head] w fun e w'=>e= .returned (.tuple #[.string ⟨t.toArray⟩,.int .i64 0])∧Below w.heap.size w w':=by
 have HR:=af (Py mp σ S w head t rs h hh)
 clear h hh
 go_enter Tryz.func146,Tryz.ntmps146
 go_wp2_with (first
  |(go_at_call 180;go_must (refine HR.out.mono ?_;rintro e w1 ⟨rfl,hb⟩)))
 go_ret2
 exact⟨rfl,hb⟩
def iH (l:List Nat):List Int:=l.map fun (b:Nat)=>(b:Int)
theorem Ay (l:List Nat):ints l=(iH l).map (.int .i64):=JF l
theorem sZ {l:List Nat} (h:l.Nodup):(iH l).Nodup:=List.Pairwise.map _ (fun a b (e:a≠b)=>by show (a:Int)≠(b:Int);omega) h
structure WV (w:World) (S:Nat→Prop) (B tkb sb:Nat) (mp:VS) (bs:List Nat):Prop where
 tk:∃v,w.heap[tkb]? =some (.cells #[v] 151 (0,0))∧aS w S B 3 1 v bs.length (ints bs)
 st:w.heap[sb]? =some (.cells #[.iface 105 mp.agg] 168 (0,0))
 n1:¬S tkb
 n2:¬S sb
theorem WV.step {w w':World} {S S':Nat→Prop} {B tkb sb:Nat} {mp:VS} {bs:List Nat} (h:WV w S B tkb sb mp bs) (hs:Step S S' w w'):WV w' S' B tkb sb mp bs:=by
 obtain⟨⟨v,h1,h2⟩,h3,h4,h5⟩:=h
 have l1:=(ah.1 h1).1
 have l2:=(ah.1 h3).1
 exact⟨⟨v,(hs.1.block _ l1 h4).trans h1,h2.step hs⟩,(hs.1.block _ l2 h5).trans h3,fun x=>(hs.2 _ x).elim h4 (fun y=>absurd l1 (bF.2 y)),fun x=>(hs.2 _ x).elim h5 (fun y=>absurd l2 (bF.2 y))⟩
theorem RV (mp:VS) (σ:cK) (S:Nat→Prop) (w:World) (B tkb sb:Nat) (bs:List Nat) (er:Int) (h:Inv σ S mp w) (hv:WV w S B tkb sb mp bs) (hn:bs.Nodup) (hl:bs.length≤1000) (hall:∀b∈bs,σ.hasB (b:Nat)=true∧2≤b):
  Calls Tryz.prog 104 #[.int .i64 er,.pointer (some ⟨tkb,0,none⟩),.pointer (some ⟨sb,0,none⟩)] w fun e w'=>e= .returned (.tuple #[.int .i64 0,.int .i64 er])∧Inv (σ.frees (iH bs)) S mp w'∧Step S S w w':=by
 have HV:=af hv
 obtain⟨⟨v,h1,h2⟩,h3,h4,h5⟩:=hv
 obtain⟨xo,xc,rfl,_,_,_,_⟩:=bE.form h2.dD
 have c1:w.cell? ⟨tkb,0,none⟩=some (.slice xo bs.length xc):=by simp[World.cell?,h1]
 have l1:=(ah.1 h1).1
 have HALL:=af hall
 have HI:=af h
 have HND:=af (sZ hn)
 have HO:=af h2
 have H3:=af h3
 have HLL:=af (show (iH bs).length=bs.length by simp[iH])
 have hm:∀w,(method 475 105 mp.agg "Free").run Tryz.prog w= .ok (285,.pointer (some ⟨mp.mp,0,none⟩)) w:=fun _=>by kernel_rfl
 clear h h2 h3 hall
 go_enter Tryz.func104,Tryz.ntmps104
 go_wp2_with fail
 go_loopw [7,10] (fun _ i wr=>∃k:Nat,k≤bs.length∧i= .int .i64 k∧Inv (σ.frees ((iH bs).take k)) S mp wr∧Step S S w wr) (fun _ i _=>bs.length - (intOf i).toNat)
 case atStart=>exact⟨0,by omega,rfl,HI.out,Step.refl _ _⟩
 case round=>
  obtain⟨k,hk,rfl,hIk,hsk⟩:=hrel
  by_cases hkl:k<bs.length
  ·have y1:(k:Int)<(bs.length:Int):=by omega
   have hki:k<(iH bs).length:=by rw[HLL.out];exact hkl
   have HT:=af (AO σ (iH bs) k hki)
   have hval:(iH bs)[k]=((bs[k]:Nat):Int):=by simp[iH]
   have hx:=HALL.out bs[k] (bq hkl)
   have hxn:(iH bs)[k]∉(iH bs).take k:=fun e=>by
    obtain⟨i,hi,e2⟩:=gX e
    rw[aD] at hi
    rw[Bt] at e2
    have:=(Ra HND.out).1 e2
    omega
   have hhas:(σ.frees ((iH bs).take k)).hasB (bs[k]:Nat)=true:=by
    rw[←hval,vH _ _ _ (fun y hy=>by
     obtain⟨b,_,rfl⟩:=dP.1 (dZ hy)
     omega) hxn,hval]
    exact hx.1
   have HFR:=af (qG mp (σ.frees ((iH bs).take k)) S wr (bs[k]:Nat) hIk (by omega) hhas)
   have hil:=(HO.out.step hsk).dD
   rw[Ay] at hil
   have hil':jr wr S (.slice xo bs.length xc) (iH bs):=by unfold jr;rw[HLL.out];exact hil
   obtain⟨pb,po,rfl,d1⟩:=hil'.at rfl k hki
   rw[hval] at d1
   have hpb:=aF wr _ d1
   have hsr:=(hsk.1.block sb (ah.1 H3.out).1 h5).trans H3.out
   have s0:wr.cell? ⟨sb,0,none⟩=some (.iface 105 mp.agg):=by simp[World.cell?,hsr]
   have sl:=(ah.1 hsr).1
   rw[hval] at HT
   clear hx hxn hhas hil hil' hki hval
   go_wp2_with (refine HFR.out.mono ?_;rintro e w2 ⟨rfl,hI2,hs2⟩)
   go_roundw
   case rel=>exact⟨k+1,by omega,by go_num,by rw[HT.out];exact hI2,hsk.trans hs2⟩
   case measure=>simp[intOf];omega
  ·have hke:k=bs.length:=by omega
   subst hke
   rw[←HLL.out,bU] at hIk
   have y1:¬(bs.length:Int)<(bs.length:Int):=by omega
   go_wp2_with fail
   go_ret2
   exact⟨rfl,hIk,hsk⟩
theorem NP (s:ByteArray) (W:World) (hs:s.size≤1000000):∃(c:Nat) (w':World),(convert 9 101 (.string s)).run Tryz.prog W= .ok (.slice (some ⟨W.heap.size,0,none⟩) s.size c) w'∧bE w' fO 1 (.slice (some ⟨W.heap.size,0,none⟩) s.size c) s.data.toList.length (aJ s.data.toList)∧Below W.heap.size W w':=by
 refine⟨_,_,run_bytes_of_string W 9 101 5 s Tryz.underlying9 Tryz.underlying101 Tryz.underlying5,?_,?_⟩
 ·have hsz:s.data.toList.length=s.size:=by show s.data.toList.length=s.data.size;simp
  rw[hsz]
  refine⟨_,_,rfl,Oo _ _ _ _,rQ _ _ _ _ (by simp only[maxLen];omega),by rw[bL,hsz,aV],(fun e=>by cases e),fun ad hh=> ?_,fun j u hu=> ?_⟩
  ·cases hh
   exact⟨rfl,by simp,id⟩
  ·have hj:j<s.data.size:=by
    have:=(bZ.1 hu).1
    rw[bL] at this
    simpa using this
   refine⟨_,_,rfl,?_⟩
   have hb:=bytesRow_at s (grownCap W s.size 0 5) j hj
   have hu2:u= .int .u8 (s.data[j].toNat:Int):=by
    unfold aJ at hu
    rw[cZ] at hu
    simp at hu
    obtain⟨a,h1,rfl⟩:=hu
    rw[Array.getElem?_eq_getElem hj] at h1
    cases h1;rfl
   rw[hu2,←hb,eH]
   unfold World.cell?
   have:(W.drew.alloc (.cells (bytesRow s (grownCap W s.size 0 5)) 5 ((bytesRow s (grownCap W s.size 0 5)).size,(bytesRow s (grownCap W s.size 0 5)).size+1))).heap[W.heap.size]? =some (.cells (bytesRow s (grownCap W s.size 0 5)) 5 ((bytesRow s (grownCap W s.size 0 5)).size,(bytesRow s (grownCap W s.size 0 5)).size+1)):=aM W.drew _
   simp only[this]
   rfl
 ·exact((aQ _ W).drew).trans (aI W.drew _)
theorem NH {σ:cK} {f:Nat} (h1:σ.hasB f=false) (h2:σ.held f=false) (h3:f<σ.most):kW σ (σ.took f) [] [(f:Int)]:=by
 have hnow:σ.now f=false:=by unfold cK.hasB at h1;simpa [h3] using h1
 have hold:σ.H.old f=false:=by unfold cK.held at h2;simpa using h2
 have hs:∀x,(σ.took f).hasB x=(σ.hasB x||decide (x=(f:Int))):=fun x=>by
  show (decide (0≤x) && (decide (x.toNat<σ.most) && gu σ.now f true x.toNat))=_
  unfold cK.hasB gu
  by_cases hx:x=(f:Int)
  ·subst hx;simp[h3]
  ·by_cases h0:0≤x
   ·rw[if_neg (by omega)];simp[hx]
   ·simp[h0,hx]
 refine⟨rfl,rfl,fun x hx _=>⟨by rw[hs,hx];rfl,rfl⟩,fun x hx=> ?_,fun _=>by simp,?_,fun x hx=> ?_⟩
 ·rw[bH.1 hx]
  exact⟨by rw[hs];simp,.inr h1⟩
 ·show countB (fun x=>gu σ.now f true x||σ.H.old x) σ.most+_=countB (fun x=>σ.now x||σ.H.old x) σ.most+_
  have e:=yc (f:=fun x=>σ.now x||σ.H.old x) (b:=f) (by rw[hnow,hold];rfl) _ h3
  have e2:countB (fun x=>gu σ.now f true x||σ.H.old x) σ.most=countB (gu (fun x=>σ.now x||σ.H.old x) f true) σ.most:=jT _ (fun x _=>by unfold gu;split<;>simp)
  rw[e2,e]
  simp[nh,h2]
 ·rw[hs,nU,bY] at hx
  rcases hx with hx|hx
  ·exact .inr ⟨hx,by simp⟩
  ·exact .inl (by rw[hx];exact bg ..)
theorem JN {σ:cK} {us:List Int} {b:Nat} {l:List UInt8} (h:∀x∈us,σ.hasB x=true) (hb:(b:Int)∈us) (h2:2≤b):kW σ (σ.wrote b l) us us:=by
 refine⟨rfl,rfl,fun x hx hn=>⟨hx,?_⟩,fun x hx=>⟨h x hx,.inl hx⟩,id,rfl,fun x hx=>by
  by_cases hu:x∈us
  ·exact .inl hu
  ·exact .inr ⟨hx,hu⟩⟩
 show σ.H.pg.look (σ.im.put b l) σ.H.dk x.toNat=σ.H.pg.look σ.im σ.H.dk x.toNat
 rw[qE,if_neg]
 intro e
 exact(hn.resolve_right id) (by rw[show x=(b:Int) by omega];exact hb)
theorem WV.keep {w w':World} {S:Nat→Prop} {B tkb sb:Nat} {mp:VS} {bs:List Nat} (h:WV w S B tkb sb mp bs) (hk:Keep (fun g=>S g∨w.heap.size≤g) w w'):WV w' S B tkb sb mp bs:=by
 obtain⟨⟨v,h1,h2⟩,h3,h4,h5⟩:=h
 have l1:=(ah.1 h1).1
 have l2:=(ah.1 h3).1
 exact⟨⟨v,(hk.block _ l1 (fun e=>e.elim h4 (fun e=>absurd l1 (bF.2 e)))).trans h1,h2.keep fun g hg hl hs=>⟨hk.block g hl (fun e=>e.elim hs (fun e=>absurd hl (bF.2 e))),hs⟩⟩,(hk.block _ l2 (fun e=>e.elim h5 (fun e=>absurd l2 (bF.2 e)))).trans h3,h4,h5⟩
structure N7 (σ σk:cK) (bs:List Nat):Prop where
 Ba:kW σ σk [] (iH bs)
 two:∀b∈bs,2≤b∧b<σ.most
 nheld:∀b∈bs,σ.held (b:Nat)=false
 tk:σk.tk≤max σ.tk σk.sz
theorem N7.nd {σ σk:cK} {bs:List Nat} (h:N7 σ σk bs):bs.Nodup:=by
 have:=h.Ba.nd oO
 unfold iH at this
 exact List.Pairwise.of_map _ (fun a b (e:(a:Int)≠b)=>fun h=>e (by rw[h])) this
theorem N7.sz {σ σk:cK} {bs:List Nat} (h:N7 σ σk bs):σk.sz=σ.sz+bs.length:=by
 have:=h.Ba.size
 have e:nh σ (iH bs)=bs.length:=by
  unfold nh iH
  rw[xC.2 (fun x hx=>by
   obtain⟨b,hb,rfl⟩:=dP.1 hx
   rw[h.nheld b hb];rfl)]
  simp
 rw[e] at this
 simpa [nh] using this
theorem N7.has {σ σk:cK} {bs:List Nat} (h:N7 σ σk bs):∀b∈bs,σk.hasB (b:Nat)=true∧2≤b:=fun b hb=>⟨(h.Ba.new _ (gW hb)).1,(h.two b hb).1⟩
theorem N7.more {σ σk:cK} {bs:List Nat} (h:N7 σ σk bs) {f:Nat} (h1:σk.hasB f=false) (h2:σk.held f=false) (h3:2≤f) (h4:f<σk.most):N7 σ (σk.took f) (bs++[f]):=by
 have hm:=h.Ba.most
 have c1:=NH h1 h2 h4
 have c2:=c1.left (rs:=iH bs) (by simpa using h.Ba.nd oO) (fun x hx=>(h.Ba.new x hx).1)
 have c3:=(h.Ba.trans (by simpa using c2)).perm (iF _) (bs':=iH (bs++[f])) (by
  unfold iH
  rw[bX]
  show ([(f:Int)]++bs.map fun (b:Nat)=>(b:Int)).Perm ((bs.map fun (b:Nat)=>(b:Int))++[(f:Int)])
  exact eZ)
 refine⟨c3,fun b hb=> ?_,fun b hb=> ?_,?_⟩
 ·rcases bJ.1 hb with hb|hb
  ·exact h.two b hb
  ·rw[bH.1 hb];exact⟨h3,by omega⟩
 ·rcases bJ.1 hb with hb|hb
  ·exact h.nheld b hb
  ·rw[bH.1 hb,←zw h.Ba.H];exact h2
 ·have e1:=h.tk
  have e2:=c1.size
  simp[nh] at e2
  have e3:(σk.took f).tk=max σk.tk (σk.took f).sz:=rfl
  omega
def QY (mp:VS) (σ:cK) (S:Nat→Prop) (t:List UInt8) (w:World) (e:Ending) (w':World):Prop:=
 (∃(head:Nat) (rs:List (Nat×Nat)) (σ':cK),e= .returned (.tuple #[.int .i64 head,.int .i64 0])∧oh σ' head t rs∧kW σ σ' [] (jL head rs)∧σ'.tk≤max σ.tk (σ.sz+(1+rf t.length))∧Inv σ' S mp w'∧Step S S w w')∨
 (e= .returned (.tuple #[.int .i64 0,.int .i64 12])∧σ.most<σ.sz+(1+rf t.length)∧∃σ',Inv σ' S mp w'∧Step S S w w'∧σ'.H=σ.H∧σ'.most=σ.most)
theorem LJ {P:Program} {o:Oper} {a:Act} {w w':World} {K:Act→World→Prop} {Q:Exit→Act→World→Prop} (src dst:TypeId) (x:Operand) (hop:o.op= .convert src dst x) (s:ByteArray) (hx:a.eval x= .string s) (v:Value) (hr:(convert src dst (.string s)).run P w= .ok v w') (hK:K (a.put o.dst v) w'):o.wp P a w K Q:=by
 unfold Oper.wp
 simp[execOp,hop,hx,hr,Result.andThen]
 exact hK
theorem Ct (σ:cK) (b x:Nat) (l:List UInt8):(σ.wrote b l).mem (x:Nat)=if x=b then l else σ.mem (x:Nat):=by
 show σ.H.pg.look (σ.im.put b l) σ.H.dk ((x:Nat):Int).toNat=_
 rw[qE,fU]
 rfl
theorem Bd (hd:Nat) (rs:List (Nat×Nat)):(iH (hd::fu rs)).Perm (jL hd rs):=by
 show (iH ([hd]++fu rs)).Perm (iH (fu rs++[hd]))
 exact eZ.map _
theorem Lj {σ2:cK} {hd:Nat} {tl:List Nat} {rs:List (Nat×Nat)} {t:List UInt8} (hrt:fu rs=tl) (ok:pM rs) (hl:tl.length=rf t.length) (h1:1≤t.length) (h2:t.length≤49152) (hnd:(hd::tl).Nodup) (htwo:∀b∈hd::tl,2≤b) (hhas:∀b∈hd::tl,σ2.hasB (b:Nat)=true) (hmem:∀j (hj:j<tl.length),σ2.mem (tl[j]:Nat)=pad (chunk t j)):
  oh (σ2.wrote hd (pad (encR t.length rs))) hd t rs:=by
 subst hrt
 refine⟨⟨htwo hd (bg ..),hhas hd (bg ..),⟨List.replicate (512 - (encR t.length rs).length) 0,?_⟩,ok,hl,h1,h2⟩,?_,fun i hi=>⟨hhas _ (aX _ (bq hi)),htwo _ (aX _ (bq hi)),?_⟩⟩
 ·rw[Ct,if_pos rfl];rfl
 ·exact(Bd hd rs).nodup_iff.1 (sZ hnd)
 ·rw[Ct,if_neg]
  ·exact hmem i hi
  ·intro e
   exact(nS.1 hnd).1 (e▸bq hi)
theorem QW (mp:VS) (σ:cK) (S:Nat→Prop) (w:World) (data:ByteArray) (h:Inv σ S mp w) (h1:1≤data.size) (h2:data.size≤49152):
  Calls Tryz.prog 65 #[.iface 105 mp.agg,.string data] w (QY mp σ S data.data.toList w):=by
 have hsub:=h.sub
 have HI:=af h
 have x1:¬(49152:Int)<(data.size:Int):=by omega
 have x2:data.toList.isEmpty=false:=by
  rw[toList_eq]
  cases hq:data.data.toList with
  |nil=>
   have:data.size=0:=by(show data.data.size=0);rw[←jC,hq];rfl
   omega
  |cons a b=>rfl
 obtain⟨nb,hnb⟩:∃nb,nb=rf data.size:=⟨_,rfl⟩
 have hnb1:1≤nb∧nb≤96:=by rw[hnb];unfold rf;omega
 have q1:(1:Int)+((data.size:Int)+512 - 1)/512=((nb+1:Nat):Int):=by rw[hnb];unfold rf;omega
 have HNB:=af hnb
 have hmT:∀w,(method 475 105 mp.agg "Take").run Tryz.prog w= .ok (286,.pointer (some ⟨mp.mp,0,none⟩)) w:=fun _=>by kernel_rfl
 have hmf:∀(fn:Fn) (first cap:Array Value) (w:World),(Instr.makeFunc fn first cap).run Tryz.prog w= .ok (.func fn first cap) w:=fun _ _ _ _=>rfl
 clear h hnb
 go_enter Tryz.func65,Tryz.ntmps65
 go_upto_region 9 with (fail)
 obtain⟨sb,HSB⟩:∃sb,Hid (w.heap.size=sb):=⟨_,af rfl⟩
 have hb0:=fI w (.cells #[.iface 105 mp.agg] 168) (.cells #[.slice none 0 0] 151)
 have hst0:((w.alloc (.cells #[.iface 105 mp.agg] 168)).alloc (.cells #[.slice none 0 0] 151)).heap[sb]? =some (.cells #[.iface 105 mp.agg] 168 (0,0)):=by
  rw[←HSB.out];exact((aI (w.alloc _) _).block _ (by simp)).trans (aM w _)
 have htk0:((w.alloc (.cells #[.iface 105 mp.agg] 168)).alloc (.cells #[.slice none 0 0] 151)).heap[sb+1]? =some (.cells #[.slice none 0 0] 151 (0,0)):=by
  rw[←HSB.out];have:=aM (w.alloc (.cells #[.iface 105 mp.agg] 168)) (.cells #[.slice none 0 0] 151);rwa [aT] at this
 rw[HSB.out]
 generalize (w.alloc (.cells #[.iface 105 mp.agg] 168)).alloc (.cells #[.slice none 0 0] 151)=w0 at hb0 hst0 htk0 ⊢
 have hns0:¬S sb:=fun x=>absurd (hsub sb x) (by rw[HSB.out];exact dI _)
 have hns1:¬S (sb+1):=fun x=>absurd (hsub (sb+1) x) (by rw[HSB.out];omega)
 have hwv0:WV w0 S sb (sb+1) sb mp []:=⟨⟨_,htk0,aS.nil _ _ _ _ _⟩,hst0,hns1,hns0⟩
 have hI0:=HI.out.below hb0
 have hT0:N7 σ σ []:=⟨kW.refl (by simp),by simp,by simp,Gy _ _⟩
 have hs0:Step S S w w0:=Step.of_below hb0
 clear hst0 htk0 hb0
 go_wp2_with fail
 go_loopw [4,5,8,9,32] (fun _ _ _ _ i wr=>∃(bs:List Nat) (σk:cK),bs.length≤nb+1∧i= .int .i64 bs.length∧Inv σk S mp wr∧WV wr S sb (sb+1) sb mp bs∧N7 σ σk bs∧Step S S w wr) (fun _ _ _ _ i _=>nb+1 - (intOf i).toNat)
 case atStart=>exact⟨[],σ,by simp,rfl,hI0,hwv0,hT0,hs0⟩
 case round=>
  clear hI0 hwv0 hT0 hs0
  obtain⟨bs,σk,hk,rfl,hIk,hwv,hTk,hsk⟩:=hrel
  have HTK:=af hTk;have HWV:=af hwv
  obtain⟨⟨tv,t1,t2⟩,t3,t4,t5⟩:=hwv
  obtain⟨xo,xc,rfl,_,_,_,_⟩:=bE.form t2.dD
  have s0:wr.cell? ⟨sb,0,none⟩=some (.iface 105 mp.agg):=by simp[World.cell?,t3]
  have sl:=(ah.1 t3).1
  have tkl:=(ah.1 t1).1
  have HT1:=af t1;have HT2:=af t2;have HT3:=af t3
  clear t1 t2 t3 hTk
  by_cases hkl:bs.length<nb+1
  ·have y1:(bs.length:Int)<((nb+1:Nat):Int):=by omega
   go_wp2_with (refine(Jg mp σk S wr hIk).mono ?_;rintro e w1 (⟨f,rfl,f1,f2,f3,f4,f6,hI1,hs1⟩|⟨rfl,hfull,hI1,hs1⟩)<;>refine Stop.of ?_)
   ·refine Stop.on ?_
    have hob1:=(hs1.1.block (sb+1) tkl t4).trans HT1.out
    have hst1:=(hs1.1.block sb sl t5).trans HT3.out
    have hown1:=HT2.out.step hs1
    have e1:w1.cell? ⟨sb+1,0,none⟩=some (.slice xo bs.length xc):=by simp[World.cell?,hob1]
    have el1:=(ah.1 hob1).1
    have hS1:∀g,S g→g<w1.heap.size:=hI1.sub
    have hsb1:sb≤w1.heap.size:=by omega
    have hTn:=HTK.out.more f3 f4 f1 f2
    have HTN:=af hTn
    have HIN:=af (show ints bs++[.int .i64 (f:Int)]=ints (bs++[f]) by simp[ints])
    clear hTn s0
    go_wp2_with (first
     |(at_builtin;go_must ((refine dK rfl (.tmp 46) (.tmp 48) 151 151 rfl S sb 3 1 8 _ Tryz.underlying151 gV rfl (.slice xo bs.length xc) _ _ rfl (hown1.below (aI _ _)) _ 1 _ rfl (gM [.int .i64 (f:Int)] _ 1 1 1 (by simp) Tryz.underlying151 rfl ?_) (fD hS1 _) ?_ ?_ ?_ ?_);(focus (simp[Value.oneCell']));(focus (simp only[aT];omega));(focus (unfold maxLen;omega));(focus omega);intro ao3 c3 w3 hown3 hk3 hb3 hd3;refine Stop.of ?_)))
    refine Stop.on ?_
    have hownA:=hown1.below (w':=w1.alloc (.cells #[.int .i64 (f:Int)] 3)) (aI _ _)
    have hobA:=((aI w1 (.cells #[.int .i64 (f:Int)] 3)).block (sb+1) el1).trans hob1
    have hstA:=((aI w1 (.cells #[.int .i64 (f:Int)] 3)).block sb (ah.1 hst1).1).trans hst1
    have hob3:w3.heap[sb+1]? =_:=(hk3.block _ (ah.1 hobA).1 (hownA.ne hobA (by decide))).trans hobA
    have hst3:w3.heap[sb]? =_:=(hk3.block _ (ah.1 hstA).1 (hownA.ne hstA (by decide))).trans hstA
    have g1:w3.cell? ⟨sb+1,0,none⟩=some (.slice xo bs.length xc):=by simp[World.cell?,hob3]
    have gf:w3.frozen? ⟨sb+1,0,none⟩=false:=by simp[World.frozen?,hob3]
    have gl:=(ah.1 hob3).1
    rw[HIN.out] at hown3
    have HO3:=af hown3
    clear hown3
    go_wp2_with fail
    have hk5:Keep (· =sb+1) w3 (w3.setCell ⟨sb+1,0,none⟩ (.slice ao3 (bs.length+1) c3)):=(Keep.refl (· =sb+1) _).setCell (p:=⟨sb+1,0,none⟩) (.inr rfl) _
    have hb13:Below sb w1 (w3.setCell ⟨sb+1,0,none⟩ (.slice ao3 (bs.length+1) c3)):=((aI w1 (.cells #[.int .i64 (f:Int)] 3)|>.mono hsb1).trans hb3).setCell (by show sb≤sb+1;omega) _
    have hne:=HO3.out.ne hob3 (by decide)
    have hlen2:(bs++[f]).length=bs.length+1:=by simp
    go_roundw
    case rel=>
     refine⟨bs++[f],σk.took f,by rw[hlen2];omega,by rw[hlen2];go_num,hI1.M9 hb13 (fun g hg=>by rw[←HSB.out];exact hsub g hg),⟨⟨_,by simp[World.setCell,aW,hob3];rfl,?_⟩,(hk5.block sb (ah.1 hst3).1 (by omega)).trans hst3,t4,t5⟩,HTN.out,?_⟩
     ·rw[hlen2]
      exact HO3.out.keep fun g hg hl hs=>⟨hk5.block g hl (fun e=>hne (by rw[hg,e])),hs⟩
     ·exact(hsk.trans hs1).Mf (by rw[HSB.out];exact hb13)
    case measure=>simp[intOf];omega
   ·refine Stop.on ?_
    have hwv1:=HWV.out.step hs1
    have HBK:=af (RV mp σk S w1 sb (sb+1) sb bs 12 hI1 hwv1 HTK.out.nd (by omega) HTK.out.has)
    have hent:∀args w,(callFunc 104 args).run Tryz.prog w= .ok (.enter 104 args) w:=fun _ _=>by kernel_rfl
    go_wp2_with (first
     |(go_at_call 104;go_must (refine HBK.out.mono ?_;rintro e w2 ⟨rfl,hI2,hs2⟩)))
    go_ret2
    have htl:data.data.toList.length=data.size:=by show data.data.toList.length=data.data.size;simp
    have hz:=HTK.out.sz
    have hm:=HTK.out.Ba.most
    have hall:=HTK.out.has
    have cf:=yo (iH bs) σk (fun x hx=>by obtain⟨b,hb,rfl⟩:=dP.1 hx;exact(hall b hb).1) (sZ HTK.out.nd)
    refine .inr ⟨rfl,?_,_,hI2,(hsk.trans hs1).trans hs2,cf.H.trans HTK.out.Ba.H,cf.most.trans hm⟩
    rw[htl,←HNB.out]
    omega
  ·have hke:bs.length=nb+1:=by omega
   clear hkl
   obtain⟨hd,tl,rfl⟩:∃hd tl,bs=hd::tl:=by
    cases bs with
    |nil=>simp at hke
    |cons a b=>exact⟨a,b,rfl⟩
   have htl:tl.length=nb:=by simpa using hke
   obtain⟨wo,rfl⟩:∃x:World,x=wr:=⟨_,rfl⟩
   have hn1:(hd::tl).length=nb+1:=hke
   rw[hn1] at HT1 HT2 ⊢
   have y0:¬(((nb+1:Nat):Int))<((nb+1:Nat):Int):=by omega
   obtain⟨lb,HLB⟩:∃lb,Hid (wo.heap.size=lb):=⟨_,af rfl⟩
   have hb2:=aI wo (.cells #[.int .i64 data.size,.slice none 0 0] 179)
   have hL2:(wo.alloc (.cells #[.int .i64 data.size,.slice none 0 0] 179)).heap[lb]? =some (.cells #[.int .i64 data.size,.slice none 0 0] 179 (0,0)):=by rw[←HLB.out];exact aM wo _
   have hsl:¬S lb:=fun x=>absurd (hIk.sub lb x) (by rw[HLB.out];exact dI _)
   have hA2:ku (wo.alloc (.cells #[.int .i64 data.size,.slice none 0 0] 179)) S lb lb data.size [] (.slice none 0 0):=⟨hL2,aS.nil _ _ _ _ _,aG _,hsl⟩
   have hI2:=hIk.below hb2
   have hW2:=HWV.out.step (Step.of_below (S:=S) hb2)
   have hs2:Step S S w (wo.alloc (.cells #[.int .i64 data.size,.slice none 0 0] 179)):=hsk.trans (Step.of_below hb2)
   obtain⟨pb,po,hxo,d0⟩:∃pb po,xo=some ⟨pb,po,none⟩∧∀i (hi:i<(hd::tl).length),wo.cell? ⟨pb,po+i,none⟩=some (.int .i64 ((hd::tl)[i]:Nat)):=by
    have hil:jr wo S (.slice xo (nb+1) xc) (iH (hd::tl)):=by
     have:=HT2.out.dD
     rw[Ay] at this
     unfold jr
     rw[show (iH (hd::tl)).length=nb+1 by simp[iH];exact htl]
     exact this
    obtain⟨pb,po,e,_⟩:=hil.at rfl 0 (by simp[iH])
    refine⟨pb,po,e,fun i hi=> ?_⟩
    obtain⟨pb',po',e',d⟩:=hil.at rfl i (by simpa [iH] using hi)
    rw[e] at e'
    cases e'
    have hv:(iH (hd::tl))[i]'(by simpa [iH] using hi)=(((hd::tl)[i]:Nat):Int):=by unfold iH;rw[C9]
    rw[hv] at d
    exact d
   subst hxo
   have HD0:=af d0
   have hpb:pb<wo.heap.size:=aF wo _ (d0 0 (by simp))
   have hpS:¬S pb:=(HT2.out.2 pb rfl)
   have hpsb:sb≤pb:=HT2.out.lo pb rfl
   have hobr:=HT1.out
   have e1:wo.cell? ⟨sb+1,0,none⟩=some (.slice (some ⟨pb,po,none⟩) (nb+1) xc):=by simp[World.cell?,hobr]
   have E1:=(hb2.cell (p:=⟨sb+1,0,none⟩) tkl).trans e1
   have tkl2:=ax tkl hb2.size
   have hxc1:¬xc=1:=by omega
   have hxc2:(1:Int)≤(xc:Int):=by omega
   generalize hw2:wo.alloc (.cells #[.int .i64 data.size,.slice none 0 0] 179)=w2 at hb2 hL2 hA2 hI2 hW2 hs2 E1 tkl2
   have HWW2:=af hw2
   have HWV2:=af hW2
   have HSB2:=af ((hb2.block sb sl).trans HT3.out)
   have HTB2:=af ((hb2.block (sb+1) tkl).trans HT1.out)
   have HPB2:=af (fun i (hi:i<(hd::tl).length)=>(hb2.cell (p:=⟨pb,po+i,none⟩) hpb).trans (d0 i hi))
   clear d0 hL2 e1 s0 hobr hW2
   have HHB:=af hb2
   clear hb2
   go_upto_region 17 with (fail)
   rw[HLB.out]
   have hlb2:lb<w2.heap.size:=by rw[←hw2,←HLB.out];simp
   have hlbs:sb+1<lb:=by rw[←HLB.out];exact tkl
   have hpbl:pb<lb:=by rw[←HLB.out];exact hpb
   clear hw2
   obtain⟨t,ht⟩:∃t,t=data.data.toList:=⟨_,rfl⟩
   have htL:t.length=data.size:=by rw[ht];show data.data.toList.length=data.data.size;simp
   rw[←ht]
   have HTL:=af htL;have HTT:=af ht
   have HSO:=af (show ∀g,S g→g<lb from fun g hg=>by have:=hIk.sub g hg;rwa [HLB.out] at this)
   have HNDD:=af HTK.out.nd
   have HTW:=af HTK.out.two
   have hmW:∀w,(method 475 105 mp.agg "Write").run Tryz.prog w= .ok (284,.pointer (some ⟨mp.tx,0,none⟩)) w:=fun _=>by kernel_rfl
   have hna:∀w,(nilAhead 475 105 mp.agg "Write").run Tryz.prog w= .ok (some false) w:=fun _=>by kernel_rfl
   have hC0:kW σ σk [] (iH (hd::tl)):=HTK.out.Ba
   have hend:(nb:Int)+1 - 1=(nb:Int):=by omega
   go_wp2_with fail
   go_loopw [11,12,13,58] (fun _ _ _ i wk=>∃(k:Nat) (rs:List (Nat×Nat)) (v:Value) (σ2:cK),k≤nb∧i= .int .i64 k∧ku wk S lb lb data.size rs v∧fu rs=tl.take k∧pM rs∧Inv σ2 S mp wk∧kW σ σ2 [] (iH (hd::tl))∧σ2.tk=σk.tk∧(∀j (hj:j<tl.length),j<k→σ2.mem (tl[j]:Nat)=pad (chunk t j))∧Keep (fun g=>S g∨lb≤g) w2 wk) (fun _ _ _ i _=>nb - (intOf i).toNat)
   case atStart=>exact⟨0,[],_,σk,by omega,rfl,hA2,by simp[fu],(fun r hr=>by cases hr),hI2,hC0,rfl,fun j hj h0=>by omega,Keep.refl _ _⟩
   case round=>
    clear hA2 hI2 hC0
    obtain⟨k,rs,v,σ2,hk2,rfl,hA,hrs,hok,hIw,hCw,htkw,hmemw,hkw⟩:=hrel
    have hlw:lb<wr.heap.size:=(ah.1 hA.obj).1
    by_cases hkl:k<nb
    ·have y1:(k:Int)<(nb:Int):=by omega
     have hkt:k<tl.length:=by omega
     obtain⟨b,hbq⟩:∃b,b=tl[k]:=⟨_,rfl⟩
     have hbm:b∈hd::tl:=by rw[hbq];exact aX _ (bq hkt)
     obtain⟨hb2',hbM⟩:=HTW.out b hbm
     have dk:wr.cell? ⟨pb,po+1+k,none⟩=some (.int .i64 (b:Int)):=by
      have:=HPB2.out (k+1) (by simp;omega)
      rw[List.getElem_cons_succ,←hbq,show po+(k+1)=po+1+k by omega] at this
      exact(hkw.cell (p:=⟨pb,po+1+k,none⟩) (l8 hpbl hlb2) (fun e=>e.elim hpS (fun e=>absurd hpbl (bF.2 e)))).trans this
     have hpk:pb<wr.heap.size:=l8 hpbl hlw
     have HSBk:=(hkw.block sb (by omega) (fun e=>e.elim t5 (fun e=>by omega))).trans HSB2.out
     have s0k:wr.cell? ⟨sb,0,none⟩=some (.iface 105 mp.agg):=by simp[World.cell?,HSBk]
     have slk:=(ah.1 HSBk).1
     obtain⟨lo,hlo⟩:∃lo:Nat,lo=k*512:=⟨_,rfl⟩
     obtain⟨k1,hk1⟩:∃k1:Nat,k1=k+1:=⟨_,rfl⟩
     obtain⟨up,hup⟩:∃up:Nat,up=k1*512:=⟨_,rfl⟩
     obtain⟨hi,hhi⟩:∃hi:Nat,hi=min up data.size:=⟨_,rfl⟩
     have hnbk:k*512<data.size:=by have:=HNB.out;unfold rf at this;omega
     have r1:IntKind.i64.wrap ((k:Int)*512)=(lo:Int):=by rw[aR _ (by omega)];omega
     have r2:IntKind.i64.wrap ((k:Int)+1)=(k1:Int):=by rw[aR _ (by omega)];omega
     have r3:IntKind.i64.wrap ((k1:Int)*512)=(up:Int):=by rw[aR _ (by omega)];omega
     have r4:min (up:Int) (data.size:Int)=(hi:Int):=by omega
     have r5:(0:Int)≤(lo:Int):=by omega
     have r6:(lo:Int)≤(hi:Int):=by omega
     have r7:(hi:Int)≤(data.size:Int):=by omega
     have r8:lo≤hi:=by omega
     have r9:hi≤data.size:=by omega
     have hch:(data.extract lo hi).data.toList=chunk t k:=by
      rw[HTT.out]
      unfold chunk
      rw[si,vg,hhi,hup,hk1,hlo]
      show ((data.data.toList.drop (k*512)).take (min ((k+1)*512) data.size - k*512))=_
      rw[Nat.mul_comm k 512,List.take_eq_take_iff,aO,jC]
      show min (min ((k+1)*512) data.size - 512*k) (data.size - 512*k)=min 512 (data.size - 512*k)
      omega
     obtain⟨piece,hpc⟩:∃p,p=data.extract lo hi:=⟨_,rfl⟩
     have HCH:=af hch
     have HPC:=af hpc
     clear hlo hk1 hup hhi hch hpc
     have HHA:=af hA
     have HHI:=af hIw
     have HREL:=af (ay hrs (ay hok (ay hmemw (ay htkw hCw))))
     clear hA hIw hrs hok hmemw htkw hCw
     go_upto_region 20 with (fail)
     refine aP (fun W=>W.cell? ⟨sb,0,none⟩=some (.iface 105 mp.agg)∧sb<W.heap.size) (fun i=> !([12,16].contains i)) [0,1,2,3,4,5,6,7,8,9,10,11,13,14,15,12,16,17] rfl (by kernel_rfl) ⟨s0k,slk⟩ ?_
     repeat ((refine bO (v:= ?_) rfl rfl (fun _ _ _ h=>h) rfl (fun W hW=> ?_) ?_);rotate_left;(focus ((try dsimp only at hW);obtain⟨z0,z1⟩:=hW;have:=hna;(go_simp;first|done|with_reducible rfl)));(try simp only[Act.put,aj,au,ak]))
     have hpsz:piece.size≤1000000:=by rw[HPC.out,ByteArray.size_extract];omega
     obtain⟨pc,w4,hcv,hpv,hb4⟩:=NP piece wr.drew hpsz
     have hpl:piece.data.toList=chunk t k:=by rw[HPC.out];exact HCH.out
     have hps:piece.size=(chunk t k).length:=by rw[←hpl];show piece.data.size=_;simp
     rw[hpl] at hpv
     rw[hps] at hcv hpv
     rw[←HPC.out]
     have hb4':Below wr.heap.size wr w4:=((aQ _ wr).drew).trans hb4
     have HCV:=af hcv;have HPV:=af hpv;have HB4:=af hb4'
     clear hcv hpv hb4 hb4'
     refine dw rfl rfl rfl ?_;intro K hK
     refine LJ 9 101 (.tmp 74) rfl piece rfl _ HCV.out ?_
     clear hps hpl
     have s04:=(HB4.out.cell (p:=⟨sb,0,none⟩) slk).trans s0k
     have sl4:=ax slk HB4.out.size
     refine hK.out _ _ ⟨s04,sl4⟩ ?_
     (try simp only[Act.put,aj,au,ak])
     have hI4:=HHI.out.below HB4.out
     have hcl:(chunk t k).length≤512:=by rw[nN];omega
     have hmost2:tl[k]<σ2.most:=by
      rw[HREL.out.2.2.2.2.most,←hbq];exact hbM
     have HWR:=af (xK mp σ2 S w4 tl[k] _ (chunk t k) hI4 hmost2 HPV.out hcl (cK.MK (HREL.out.2.2.2.2.new _ (gW (aX _ (bq hkt)))).1 ((zw HREL.out.2.2.2.2.H _).trans (HTK.out.nheld _ (aX _ (bq hkt))))))
     obtain⟨cl,hcln⟩:∃n,Hid ((chunk t k).length=n):=⟨_,af rfl⟩
     obtain⟨vb4,hvb4⟩:∃g,Hid (wr.drew.heap.size=g):=⟨_,af rfl⟩
     rw[hcln.out,hvb4.out] at HWR ⊢
     obtain⟨bk,hbk⟩:∃g:Nat,Hid (tl[k]=g):=⟨_,af rfl⟩
     rw[hbk.out] at HWR ⊢
     refine dw rfl rfl rfl ?_;intro K hK;go_simp
     refine HWR.out.mono ?_;rintro e w5 ⟨rfl,hI5,hs5⟩
     have s05:w5.cell? ⟨sb,0,none⟩=some (.iface 105 mp.agg):=by
      have:=(hs5.1.block sb sl4 t5).trans ((HB4.out.block sb slk).trans HSBk)
      simp[World.cell?,this]
     refine hK.out _ _ ⟨s05,ax sl4 hs5.1.size⟩ ?_
     (try simp only[Act.put,aj,au,ak])
     repeat ((refine bO (v:= ?_) rfl rfl (fun _ _ _ h=>h) rfl (fun W hW=> ?_) ?_);rotate_left;(focus ((try dsimp only at hW);obtain⟨z0,z1⟩:=hW;(go_simp;first|done|with_reducible rfl)));(try simp only[Act.put,aj,au,ak]))
     refine bR ?_
     have hA5:=(HHA.out.below HB4.out).step hs5
     have hrl:rs.length≤1000:=by
      have a:=HREL.out.2.1.le
      rw[HREL.out.1,aD] at a
      omega
     have hS5:∀g,S g→g<w5.heap.size:=hI5.sub
     have hbk5:bk≤65535:=by have:=hbk.out;have:=HHI.out.cap;omega
     have HBA:=af (Sw lb data.size bk rs v lb S w5 hA5 hS5 HREL.out.2.1 hrl hbk5)
     clear hrl r1 r2 r3 r4 r5 r6 r7 r8 r9 hcl
     go_wp2_with (first
      |(go_at_call 105;go_must (refine HBA.out.mono ?_;rintro e w6 ⟨rfl,⟨v6,hA6⟩,hb6⟩)))
     have hbkm:(bk:Int)∈iH (hd::tl):=by
      rw[←hbk.out]
      exact gW (aX _ (bq hkt))
     have hbk2:2≤bk:=by rw[←hbk.out,←hbq];exact hb2'
     have hcw:=JN (σ:=σ2) (us:=iH (hd::tl)) (b:=bk) (l:=pad (chunk t k)) (fun x hx=>(HREL.out.2.2.2.2.new x hx).1) hbkm hbk2
     go_roundw
     case rel=>
      refine⟨k+1,yA rs bk,v6,σ2.wrote bk (pad (chunk t k)),by omega,by go_num,hA6,?_,HREL.out.2.1.add bk (by omega),hI5.M9 hb6 HSO.out,HREL.out.2.2.2.2.trans hcw,?_,?_,?_⟩
      ·rw[H6,HREL.out.1,aK hkt,hbk.out]
      ·exact HREL.out.2.2.2.1
      ·intro j hj hjk
       show σ2.H.pg.look (σ2.im.put bk (pad (chunk t k))) σ2.H.dk ((tl[j]:Nat):Int).toNat=_
       rw[qE,fU]
       by_cases hje:j=k
       ·subst hje
        rw[if_pos hbk.out]
       ·rw[if_neg (fun e=>by
         have hnd:=(nS.1 HNDD.out).2
         rw[←hbk.out] at e
         exact hje ((Ra hnd).1 e))]
        exact HREL.out.2.2.1 j hj (by omega)
      ·refine((hkw.trans (Keep.of_below HB4.out (fun g=>S g∨lb≤g)) (fun _ _ e=>e)).trans (hs5.1.mono (fun _ _ e=> .inl e)) (fun _ _ e=>e)).trans ?_ (fun _ _ e=>e)
       exact⟨hb6.os,hb6.tape,hb6.output,hb6.size,fun g _ hn=>hb6.block g (Nat.lt_of_not_le (fun e=>hn (.inr e)))⟩
     case measure=>simp[intOf];omega
    ·obtain rfl:k=nb:=by omega
     have hrt:fu rs=tl:=by rw[hrs];exact aN (by omega)
     have hrl96:rs.length≤96:=by have:=hok.le;rw[hrt] at this;omega
     have HSBk:=(hkw.block sb (by omega) (fun e=>e.elim t5 (fun e=>by omega))).trans HSB2.out
     have HTBk:=(hkw.block (sb+1) (by omega) (fun e=>e.elim t4 (fun e=>by omega))).trans HTB2.out
     have d0:wr.cell? ⟨pb,po,none⟩=some (.int .i64 (hd:Int)):=by
      have:=HPB2.out 0 (by simp)
      exact(hkw.cell (p:=⟨pb,po,none⟩) (l8 hpbl hlb2) (fun e=>e.elim hpS (fun e=>absurd hpbl (bF.2 e)))).trans this
     have hpk:pb<wr.heap.size:=l8 hpbl hlw
     have slk:=(ah.1 HSBk).1
     have tlk:=(ah.1 HTBk).1
     have HP:=af (show ∀(W:World),(∀g,g<lb→¬S g→W.heap[g]? =wr.heap[g]?)→wr.heap.size≤W.heap.size→(W.cell? ⟨sb,0,none⟩=some (.iface 105 mp.agg)∧W.cell? ⟨sb+1,0,none⟩=some (.slice (some ⟨pb,po,none⟩) (k+1) xc)∧W.cell? ⟨pb,po,none⟩=some (.int .i64 (hd:Int))∧sb<W.heap.size∧sb+1<W.heap.size∧pb<W.heap.size) from fun W hW hz=>by
      have a:=(hW sb (by omega) t5).trans HSBk
      have b:=(hW (sb+1) (by omega) t4).trans HTBk
      exact⟨by simp[World.cell?,a],by simp[World.cell?,b],(mM (w:=wr) (a:=⟨pb,po,none⟩) (hW pb hpbl hpS)).trans d0,by omega,by omega,by omega⟩)
     have HEN:=af (Px lb data.size rs v lb S wr.drew ⟨hA.obj,hA.own.drew,hA.lo,hA.ns⟩ hIw.sub (by omega) hok (by omega))
     have HIW:=af hIw;have HCW:=af hCw
     have HREL:=af (ay hok (ay hmemw htkw))
     have HRT:=af hrt
     have hel:=yO data.size rs
     have helle:(encR data.size rs).length≤512:=by omega
     have z0:(0:Int)<((k+1:Nat):Int):=by omega
     have z1:(0:Int)<(k:Int)+1:=by omega
     have HHA:=af hA
     clear hA hIw hCw hok hmemw htkw hrs hrt hel hkl HSBk HTBk d0
     go_upto_region 25 with (fail)
     refine aP (fun W=>W.cell? ⟨sb,0,none⟩=some (.iface 105 mp.agg)∧W.cell? ⟨sb+1,0,none⟩=some (.slice (some ⟨pb,po,none⟩) (k+1) xc)∧W.cell? ⟨pb,po,none⟩=some (.int .i64 (hd:Int))∧sb<W.heap.size∧sb+1<W.heap.size∧pb<W.heap.size) (fun i=> !([5,9].contains i)) [0,1,2,3,4,6,7,8,5,9,10] rfl (by kernel_rfl) (HP.out wr.drew (fun g _ _=>rfl) (aG _)) ?_
     repeat ((refine bO (v:= ?_) rfl rfl (fun _ _ _ h=>h) rfl (fun W hW=> ?_) ?_);rotate_left;(focus ((try dsimp only at hW);obtain⟨a0,a1,a2,a3,a4,a5⟩:=hW;have:=hna;(go_simp;first|done|with_reducible rfl)));(try simp only[Act.put,aj,au,ak]))
     refine dw rfl rfl rfl ?_;intro K hK;go_simp
     refine HEN.out.mono ?_;rintro e w5 ⟨ev,rfl,hown5,hb5⟩
     obtain⟨eo,ec,rfl,_,_,_,_⟩:=bE.form hown5.dD
     have hb5':Below wr.heap.size wr w5:=((aQ _ wr).drew).trans hb5
     refine hK.out _ _ (HP.out w5 (fun g hg _=>hb5'.block g (l8 hg hlw)) hb5'.size) ?_
     (try simp only[Act.put,aj,au,ak])
     have hI5:=HIW.out.below hb5'
     have hhd:=HTW.out hd (bg ..)
     have hmost2:hd<σ2.most:=by rw[HCW.out.most];exact hhd.2
     have HWR:=af (xK mp σ2 S w5 hd _ (encR data.size rs) hI5 hmost2 (bE.loose hown5.dD) helle (cK.MK (HCW.out.new _ (gW (bg ..))).1 ((zw HCW.out.H _).trans (HTK.out.nheld _ (bg ..)))))
     refine dw rfl rfl rfl ?_;intro K hK;go_simp
     refine HWR.out.mono ?_;rintro e w6 ⟨rfl,hI6,hs6⟩
     have hP6:=HP.out w6 (fun g hg hn=>(hs6.1.block g (ax (l8 hg hlw) hb5'.size) hn).trans (hb5'.block g (l8 hg hlw))) (aH hb5'.size hs6.1.size)
     refine hK.out _ _ hP6 ?_
     (try simp only[Act.put,aj,au,ak])
     repeat ((refine bO (v:= ?_) rfl rfl (fun _ _ _ h=>h) rfl (fun W hW=> ?_) ?_);rotate_left;(focus ((try dsimp only at hW);obtain⟨a0,a1,a2,a3,a4,a5⟩:=hW;(go_simp;first|done|with_reducible rfl)));(try simp only[Act.put,aj,au,ak]))
     refine bR ?_
     obtain⟨a0,a1,a2,a3,a4,a5⟩:=hP6
     go_wp2_with fail
     go_ret2
     have hcw:=JN (σ:=σ2) (us:=iH (hd::tl)) (b:=hd) (l:=pad (encR data.size rs)) (fun x hx=>(HCW.out.new x hx).1) (gW (bg ..)) hhd.1
     have hln:tl.length=rf data.size:=by rw[htl,HNB.out]
     have hbl:=Lj (σ2:=σ2) (t:=t) HRT.out HREL.out.1 (by rw[HTL.out];exact hln) (by rw[HTL.out];exact h1) (by rw[HTL.out];exact h2) HNDD.out (fun b hb=>(HTW.out b hb).1) (fun b hb=>(HCW.out.new _ (gW hb)).1) (fun j hj=>HREL.out.2.1 j hj (by omega))
     rw[HTL.out] at hbl
     refine .inl ⟨hd,rs,σ2.wrote hd (pad (encR data.size rs)),rfl,?_,?_,?_,hI6,?_⟩
     ·rw[←HTT.out];exact hbl
     ·exact(HCW.out.trans hcw).perm (iF _) (by have:=Bd hd rs;rwa [HRT.out] at this)
     ·rw[←HTT.out,HTL.out,←hln,htl]
      show σ2.tk≤_
      rw[HREL.out.2.2]
      have a:=HTK.out.tk
      have b:=HTK.out.sz
      rw[bf,htl] at b
      omega
     ·have hsz:w.heap.size≤lb:=by have:=HSB.out;omega
      refine⟨((hs2.1.trans hkw (fun i hi e=>e.elim id (fun y=>absurd hi (bF.2 (aH hsz y))))).trans (Keep.of_below hb5' S) (fun _ _ e=>e)).trans hs6.1 (fun _ _ e=>e),fun g hg=> .inl hg⟩
def rW:List UInt8→Option Nat
 |[a,b,c]=>if a=1 then some (b.toNat+256*c.toNat) else none
 |_=>none
theorem Je (s:ByteArray) (w:World) (hs:s.size≤1000000):
  Calls Tryz.prog 102 #[.string s] w fun e w'=>Below w.heap.size w w'∧e= .returned (.tuple #[.int .i64 ((rW s.data.toList).getD 0:Nat),.bool (rW s.data.toList).isSome]):=by
 have hsz:s.data.toList.length=s.size:=by show s.data.toList.length=s.data.size;simp
 by_cases h3:s.size=3
 ·have y1:(s.size:Int)=3:=by omega
  obtain⟨a,b,c,hl⟩:∃a b c,s.data.toList=[a,b,c]:=by
   have:=hsz.trans h3
   revert this
   generalize s.data.toList=l
   intro h
   match l,h with
   |[a,b,c],_=>exact⟨a,b,c,rfl⟩
  have hss:s=strOf [a,b,c]:=by
   unfold strOf
   rw[←hl]
  rw[hl]
  clear hsz hl h3
  subst hss
  have i0:∀W:World,(Instr.index 9 (.string (strOf [a,b,c])) (.int .i64 0)).run Tryz.prog W= .ok (.int .u8 (a.toNat:Int)) W:=fun W=>wQ _ 0 a rfl W
  have i1:∀W:World,(Instr.index 9 (.string (strOf [a,b,c])) (.int .i64 1)).run Tryz.prog W= .ok (.int .u8 (b.toNat:Int)) W:=fun W=>wQ _ 1 b rfl W
  have i2:∀W:World,(Instr.index 9 (.string (strOf [a,b,c])) (.int .i64 2)).run Tryz.prog W= .ok (.int .u8 (c.toNat:Int)) W:=fun W=>wQ _ 2 c rfl W
  have hb:=b.toNat_lt;have hc:=c.toNat_lt
  obtain⟨t,ht⟩:∃t,Hid (strOf [a,b,c]=t):=⟨_,af rfl⟩
  rw[ht.out] at i0 i1 i2 hs y1 ⊢
  by_cases ha:a=1
  ·subst ha
   have hl:rW [1,b,c]=some (b.toNat+256*c.toNat):=rfl
   rw[hl]
   have j0:∀W:World,(Instr.index 9 (.string t) (.int .i64 0)).run Tryz.prog W= .ok (.int .u8 1) W:=i0
   clear i0 hl
   have q1:IntKind.i64.wrap (b.toNat:Int)=(b.toNat:Int):=aR _ (by omega)
   have q2:IntKind.i64.wrap (c.toNat:Int)=(c.toNat:Int):=aR _ (by omega)
   obtain⟨n1,hn1⟩:∃n,n=b.toNat+256*c.toNat:=⟨_,rfl⟩
   have p1:IntKind.i64.wrap ((c.toNat:Int)*256)=((256*c.toNat:Nat):Int):=by rw[aR _ (by omega)];omega
   have o1:=Fa b.toNat c.toNat 256 n1 8 rfl hb hn1 (by omega)
   have HN:=af hn1
   obtain⟨m1,hm1⟩:∃m:Nat,Hid (256*c.toNat=m):=⟨_,af rfl⟩
   rw[hm1.out] at p1 o1
   clear hn1 hb hc
   go_enter Tryz.func102,Tryz.ntmps102
   go_wp2_with fail
   refine aP (fun W=>W=w.drew) (fun i=>true) [0,1,2,3,4,5,6,7,8,9] rfl (by kernel_rfl) rfl ?_
   repeat ((refine bO (v:= ?_) rfl rfl (fun _ _ _ h=>h) rfl (fun W hW=> ?_) ?_);rotate_left;(focus ((try dsimp only at hW);subst hW;(go_simp;first|done|with_reducible rfl)));(try simp only[Act.put,aj,au,ak]))
   refine bR ?_
   go_wp2_with fail
   go_ret2
   refine⟨(aQ _ w).drew,?_⟩
   rw[←HN.out]
   rfl
  ·have hl:rW [a,b,c]=none:=if_neg ha
   rw[hl]
   have hne:¬(a.toNat:Int)=1:=fun e=>ha (Gx.1 (by show a.toNat=1;omega))
   clear hb hc hl
   go_enter Tryz.func102,Tryz.ntmps102
   go_wp2_with fail
   go_ret2
   exact⟨aQ _ w,rfl⟩
 ·have y1:¬(s.size:Int)=3:=by omega
  have hn:rW s.data.toList=none:=by
   generalize s.data.toList=l at hsz
   match l,hsz with
   |[a,b,c],h=>exact absurd h (by simp;omega)
   |[],_=>rfl
   |[_],_=>rfl
   |[_,_],_=>rfl
   |_::_::_::_::_,_=>rfl
  rw[hn]
  go_enter Tryz.func102,Tryz.ntmps102
  go_wp2_with fail
  go_ret2
  exact⟨aQ _ w,rfl⟩
def iD (er:Int) (key:ByteArray):Int:=if er≠0 then er else if key.size=0∨128<key.size then 1 else 0
def eX (mp:VS) (tr:Option Nat) (ch:Bool) (er:Int):Array Value:=#[.pointer (some ⟨mp.tx,0,none⟩),.pointer (some ⟨mp.mp,0,none⟩),.pointer (tr.map fun b=>⟨b,0,none⟩),.bool ch,.int .i64 er]
theorem oV (t:Nat) (mp:VS) (tr:Nat) (ch:Bool) (er:Int) (key:ByteArray) (w:World) (h:w.heap[t]? =some (.cells (eX mp (some tr) ch er) 110 (0,0))):
  Calls Tryz.prog 61 #[.pointer (some ⟨t,0,none⟩),.string key] w fun e w'=>w'=w∧e= .returned (.int .i64 (iD er key)):=by
 have c2:w.cell? ⟨t,2,none⟩=some (.pointer (some ⟨tr,0,none⟩)):=by simp[World.cell?,h,eX]
 have c4:w.cell? ⟨t,4,none⟩=some (.int .i64 er):=by simp[World.cell?,h,eX]
 have hl:=(ah.1 h).1
 have hk:key.toList.isEmpty=decide (key.size=0):=by
  rw[toList_eq]
  have:key.data.toList.length=key.size:=by show key.data.toList.length=key.data.size;simp
  rw[←this]
  cases key.data.toList<;>simp
 clear h
 by_cases he:er=0
 ·subst he
  by_cases h0:key.size=0
  ·have hu:iD 0 key=1:=by unfold iD;rw[if_neg (by simp),if_pos (.inl h0)]
   rw[hu]
   have hk':key.toList.isEmpty=true:=by rw[hk];simp[h0]
   clear hk hu
   go_enter Tryz.func61,Tryz.ntmps61
   go_wp2_with fail
   go_ret
   exact⟨rfl,rfl⟩
  ·have hk':key.toList.isEmpty=false:=by rw[hk];simp[h0]
   clear hk
   by_cases h1:128<key.size
   ·have hu:iD 0 key=1:=by unfold iD;rw[if_neg (by simp),if_pos (.inr h1)]
    rw[hu]
    have y1:(128:Int)<(key.size:Int):=by omega
    clear hu
    go_enter Tryz.func61,Tryz.ntmps61
    go_wp2_with fail
    go_ret
    exact⟨rfl,rfl⟩
   ·have hu:iD 0 key=0:=by unfold iD;rw[if_neg (by simp),if_neg (by omega)]
    rw[hu]
    have y1:¬(128:Int)<(key.size:Int):=by omega
    clear hu
    go_enter Tryz.func61,Tryz.ntmps61
    go_wp2_with fail
    go_ret
    exact⟨rfl,rfl⟩
 ·have hu:iD er key=er:=if_pos he
  rw[hu]
  have hne:(er !=0)=true:=by simp[he]
  clear hk hu
  go_enter Tryz.func61,Tryz.ntmps61
  go_wp2_with fail
  go_ret
  exact⟨rfl,rfl⟩
theorem Et (t:Nat) (mp:VS) (ch:Bool) (er:Int) (key:ByteArray) (w:World) (h:w.heap[t]? =some (.cells (eX mp none ch er) 110 (0,0))):
  Calls Tryz.prog 61 #[.pointer (some ⟨t,0,none⟩),.string key] w fun e w'=>w'=w∧e= .returned (.int .i64 2):=by
 have c2:w.cell? ⟨t,2,none⟩=some (.pointer none):=by simp[World.cell?,h,eX]
 have hl:=(ah.1 h).1
 clear h
 go_enter Tryz.func61,Tryz.ntmps61
 go_wp2_with fail
 go_ret
 exact⟨rfl,rfl⟩
theorem Df (t:Nat) (mp:VS) (tr:Option Nat) (ch:Bool) (er e:Int) (w:World) (h:w.heap[t]? =some (.cells (eX mp tr ch er) 110 (0,0))):
  Calls Tryz.prog 64 #[.pointer (some ⟨t,0,none⟩),.int .i64 e] w fun r w'=>r= .returned (.int .i64 e)∧w'.heap[t]? =some (.cells (eX mp tr ch e) 110 (0,0))∧Keep (· =t) w w':=by
 have c4:w.cell? ⟨t,4,none⟩=some (.int .i64 er):=by simp[World.cell?,h,eX]
 have f4:w.frozen? ⟨t,4,none⟩=false:=by simp[World.frozen?,h]
 have hl:=(ah.1 h).1
 have HH:=af h
 clear h
 go_enter Tryz.func64,Tryz.ntmps64
 go_wp2_with fail
 go_ret
 refine⟨rfl,?_,(Keep.refl (· =t) _).setCell (p:=⟨t,4,none⟩) (.inr rfl) _⟩
 simp[World.setCell,aW,HH.out]
 rfl
theorem Dc (tp:Option Addr) (s:ByteArray) (w:World) (hs:s.size≤1000000) (h1:1≤s.size) (hl:rW s.data.toList=none):
  Calls Tryz.prog 101 #[.pointer tp,.string s] w fun e w'=>Below w.heap.size w w'∧e= .returned (.tuple #[.string (s.extract 1 s.size),.int .i64 0]):=by
 have HL:=af (Je s w hs)
 rw[hl] at HL
 have r1:min (1:Int) (s.size:Int)=1:=by omega
 have r2:(1:Int)≤(s.size:Int):=by omega
 clear hl
 go_enter Tryz.func101,Tryz.ntmps101
 go_wp2_with (first
  |(go_at_call 102;go_must (refine HL.out.mono ?_;rintro e w1 ⟨hb1,rfl⟩)))
 go_ret2
 exact⟨hb1,rfl⟩
theorem Es (t:Nat) (mp:VS) (tr:Option Nat) (ch:Bool) (er:Int) (σ:cK) (S:Nat→Prop) (w:World) (s:ByteArray) (hd:Nat) (l:List UInt8) (rs:List (Nat×Nat)) (h:w.heap[t]? =some (.cells (eX mp tr ch er) 110 (0,0))) (hI:Inv σ S mp w) (hB:oh σ hd l rs) (hs:s.size≤1000000) (hl:rW s.data.toList=some hd):
  Calls Tryz.prog 101 #[.pointer (some ⟨t,0,none⟩),.string s] w fun e w'=>Below w.heap.size w w'∧e= .returned (.tuple #[.string ⟨l.toArray⟩,.int .i64 0]):=by
 have HL:=af (Je s w hs)
 rw[hl] at HL
 have HH:=af h;have HI:=af hI
 have hlt:=(ah.1 h).1
 clear hl h hI
 go_enter Tryz.func101,Tryz.ntmps101
 go_wp2_with (first
  |(go_at_call 102;go_must (refine HL.out.mono ?_;rintro e w1 ⟨hb1,rfl⟩;refine Stop.of ?_)))
 refine Stop.on ?_
 have h1:=(hb1.block t hlt).trans HH.out
 have hlt1:=ax hlt hb1.size
 have c0:w1.cell? ⟨t,0,none⟩=some (.pointer (some ⟨mp.tx,0,none⟩)):=by simp[World.cell?,h1,eX]
 have c1:w1.cell? ⟨t,1,none⟩=some (.pointer (some ⟨mp.mp,0,none⟩)):=by simp[World.cell?,h1,eX]
 have HR:=af (RX mp σ S w1 hd l rs (HI.out.below hb1) hB)
 clear h1
 go_wp2_with (first
  |(go_at_call 146;go_must (refine HR.out.mono ?_;rintro e w2 ⟨rfl,hb2⟩)))
 go_ret2
 exact⟨hb1.trans (hb2.mono hb1.size),rfl⟩
def ValAt (σ:cK) (small v:ByteArray) (vb:List Int):Prop:=
 (small=strOf (0::v.data.toList)∧v.size≤63∧vb=[])∨
 ∃hd rs,small=strOf [1,UInt8.ofNat hd,UInt8.ofNat (hd/256)]∧(hd<65536∧63<v.size)∧oh σ hd v.data.toList rs∧vb=jL hd rs
theorem yJ (l:List UInt8):rW (0::l)=none:=by
 match l with
 |[]=>rfl
 |[_]=>rfl
 |[_,_]=>rfl
 |_::_::_::_=>rfl
theorem Al (hd:Nat) (h:hd<65536):rW [1,UInt8.ofNat hd,UInt8.ofNat (hd/256)]=some hd:=by
 show some ((UInt8.ofNat hd).toNat+256*(UInt8.ofNat (hd/256)).toNat)=some hd
 rw[eG,eG]
 congr 1
 omega
theorem Ho (v:ByteArray):(strOf (0::v.data.toList)).extract 1 (strOf (0::v.data.toList)).size=v:=by
 have hs:(strOf (0::v.data.toList)).size=v.data.toList.length+1:=by show (0::v.data.toList).toArray.size=_;simp
 apply BA
 rw[si]
 apply Db.1
 rw[vg,hs]
 show ((0::v.data.toList).drop 1).take (v.data.toList.length+1 - 1)=v.data.toList
 rw[yT,fw,eT]
 exact bU
theorem LX (t:Nat) (mp:VS) (tr:Option Nat) (ch:Bool) (er:Int) (σ:cK) (S:Nat→Prop) (w:World) (small v:ByteArray) (vb:List Int) (h:w.heap[t]? =some (.cells (eX mp tr ch er) 110 (0,0))) (hI:Inv σ S mp w) (hv:ValAt σ small v vb):
  Calls Tryz.prog 101 #[.pointer (some ⟨t,0,none⟩),.string small] w fun e w'=>Below w.heap.size w w'∧e= .returned (.tuple #[.string v,.int .i64 0]):=by
 rcases hv with ⟨rfl,h1,_⟩|⟨hd,rs,rfl,h1,h2,_⟩
 ·have hs:(strOf (0::v.data.toList)).size=v.size+1:=by show (0::v.data.toList).toArray.size=v.data.size+1;simp
  have:=Dc (some ⟨t,0,none⟩) (strOf (0::v.data.toList)) w (by omega) (by omega) (yJ _)
  rwa [Ho] at this
 ·exact Es t mp tr ch er σ S w _ hd v.data.toList rs h hI h2 (by show [1,UInt8.ofNat hd,UInt8.ofNat (hd/256)].toArray.size≤_;simp) (Al hd h1.1)
theorem Rj (t tr:Nat) (mp:VS) (root:Int) (ch:Bool) (σ:cK) (S:Nat→Prop) (w:World) (cs:List Pr) (bs:List Int) (key v:ByteArray) (vb:List Int) (h:w.heap[t]? =some (.cells (eX mp (some tr) ch 0) 110 (0,0))) (hI:Inv σ S mp w) (ht:cu w tr mp root 0) (hT:xg σ root cs bs) (hl:cs.length≤4090) (hg:1≤key.size∧key.size≤128) (hv:∀small,d9 cs key=some small→ValAt σ small v vb):
  Calls Tryz.prog 62 #[.pointer (some ⟨t,0,none⟩),.string key] w fun e w'=>e= .returned (.tuple #[.string (if (d9 cs key).isSome then v else ByteArray.empty),.bool (d9 cs key).isSome,.int .i64 0])∧Below w.heap.size w w':=by
 have HU:=af (oV t mp tr ch 0 key w h)
 have hu:iD 0 key=0:=by unfold iD;rw[if_neg (by simp),if_neg (by omega)]
 rw[hu] at HU
 have HG:=af (AL tr mp root σ S cs bs key w hI ht hT hl hg)
 have c2:w.cell? ⟨t,2,none⟩=some (.pointer (some ⟨tr,0,none⟩)):=by simp[World.cell?,h,eX]
 have hlt:=(ah.1 h).1
 have HH:=af h;have HI:=af hI
 clear h hI hu ht
 cases hx:d9 cs key with
 |none=>
  rw[hx] at HG
  clear hv
  go_enter Tryz.func62,Tryz.ntmps62
  go_wp2_with (first
   |(go_at_call 61;go_must (refine HU.out.mono ?_;rintro e w1 ⟨rfl,rfl⟩))
   |(go_at_call 100;go_must (refine HG.out.mono ?_;rintro e w2 ⟨rfl,hb2⟩)))
  go_ret3
  exact⟨rfl,hb2⟩
 |some small=>
  rw[hx] at HG
  have HV:=af (hv small hx)
  clear hv
  go_enter Tryz.func62,Tryz.ntmps62
  go_wp2_with (first
   |(go_at_call 61;go_must (refine HU.out.mono ?_;rintro e w1 ⟨rfl,rfl⟩))
   |(go_at_call 100;go_must (refine HG.out.mono ?_;rintro e w2 ⟨rfl,hb2⟩))
   |(go_at_call 101;go_must (refine(LX t mp (some tr) ch 0 σ S _ small v vb ((hb2.block t hlt).trans HH.out) (HI.out.below hb2) HV.out).mono ?_;rintro e w3 ⟨hb3,rfl⟩)))
  go_ret3
  exact⟨rfl,hb2.trans (hb3.mono hb2.size)⟩
theorem zH (t tr:Nat) (mp:VS) (root:Int) (ch:Bool) (er:Int) (σ:cK) (S:Nat→Prop) (w:World) (cs:List Pr) (bs:List Int) (key:ByteArray) (h:w.heap[t]? =some (.cells (eX mp (some tr) ch er) 110 (0,0))) (hI:Inv σ S mp w) (ht:cu w tr mp root 0) (hT:xg σ root cs bs) (hl:cs.length≤4090) (hg:1≤key.size∧key.size≤128) (hv:rW ((d9 cs key).getD ⟨#[]⟩).data.toList=none) (hs:((d9 cs key).getD ⟨#[]⟩).size≤1000000):
  Calls Tryz.prog 63 #[.pointer (some ⟨t,0,none⟩),.string key] w fun e w'=>e= .returned (.int .i64 0)∧Below w.heap.size w w':=by
 have HG:=af (AL tr mp root σ S cs bs key w hI ht hT hl hg)
 have c2:w.cell? ⟨t,2,none⟩=some (.pointer (some ⟨tr,0,none⟩)):=by simp[World.cell?,h,eX]
 have hlt:=(ah.1 h).1
 obtain⟨small,hsm⟩:∃s,s=(d9 cs key).getD ⟨#[]⟩:=⟨_,rfl⟩
 rw[←hsm] at HG hv hs
 have HS:=af hs
 have HL:=af hv
 clear h hI ht hv hs hsm
 go_enter Tryz.func63,Tryz.ntmps63
 go_wp2_with (first
  |(go_at_call 100;go_must (refine HG.out.mono ?_;rintro e w2 ⟨rfl,hb2⟩))
  |(go_at_call 102;go_must (refine(Je small _ HS.out).mono ?_;rw[HL.out];rintro e w3 ⟨hb3,rfl⟩)))
 go_ret
 exact⟨rfl,hb2.trans (hb3.mono hb2.size)⟩
theorem GQ (t tr:Nat) (mp:VS) (root:Int) (ch:Bool) (er:Int) (σ:cK) (S:Nat→Prop) (w:World) (cs:List Pr) (bs:List Int) (key small:ByteArray) (hd:Nat) (l:List UInt8) (rs:List (Nat×Nat)) (h:w.heap[t]? =some (.cells (eX mp (some tr) ch er) 110 (0,0))) (hI:Inv σ S mp w) (ht:cu w tr mp root 0) (hT:xg σ root cs bs) (hl:cs.length≤4090) (hg:1≤key.size∧key.size≤128) (hx:d9 cs key=some small) (hv:rW small.data.toList=some hd) (hs:small.size≤1000000) (hB:oh σ hd l rs):
  Calls Tryz.prog 63 #[.pointer (some ⟨t,0,none⟩),.string key] w fun e w'=>e= .returned (.int .i64 0)∧Inv (σ.frees (vW (jL hd rs))) S mp w'∧Step S S w w':=by
 have HG:=af (AL tr mp root σ S cs bs key w hI ht hT hl hg)
 have c2:w.cell? ⟨t,2,none⟩=some (.pointer (some ⟨tr,0,none⟩)):=by simp[World.cell?,h,eX]
 have hlt:=(ah.1 h).1
 have HH:=af h;have HI:=af hI
 rw[hx] at HG
 have HS:=af hs
 have HL:=af hv
 clear h hI ht hv hs hx
 go_enter Tryz.func63,Tryz.ntmps63
 go_wp2_with (first
  |(go_at_call 100;go_must (refine HG.out.mono ?_;rintro e w2 ⟨rfl,hb2⟩))
  |(go_at_call 102;go_must (refine(Je small _ HS.out).mono ?_;rw[HL.out];rintro e w3 ⟨hb3,rfl⟩;refine Stop.of ?_)))
 refine Stop.on ?_
 have hb23:=hb2.trans (hb3.mono hb2.size)
 have h1:=(hb23.block t hlt).trans HH.out
 have hlt1:=ax hlt hb23.size
 have c0:w3.cell? ⟨t,0,none⟩=some (.pointer (some ⟨mp.tx,0,none⟩)):=by simp[World.cell?,h1,eX]
 have c1:w3.cell? ⟨t,1,none⟩=some (.pointer (some ⟨mp.mp,0,none⟩)):=by simp[World.cell?,h1,eX]
 have HF:=af (RY mp σ S w3 hd l rs (HI.out.below hb23) hB)
 clear h1
 go_wp2_with (first
  |(go_at_call 103;go_must (refine HF.out.mono ?_;rintro e w4 ⟨rfl,hI4,hs4⟩)))
 go_ret
 exact⟨rfl,hI4,(Step.of_below hb23).trans hs4⟩
end Go.Proofs.YtpgdljlghiifjaaGreatDoor
