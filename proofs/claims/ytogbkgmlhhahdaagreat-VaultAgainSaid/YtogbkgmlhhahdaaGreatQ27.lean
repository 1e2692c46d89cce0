/- parts -/
import Derived.Test.YtogbkgmlhhahdaaGreatQ3
import Derived.Test.YtogbkgmlhhahdaaGreatQ10
import Derived.Test.YtogbkgmlhhahdaaGreatQ13
import Derived.Test.YtogbkgmlhhahdaaGreatQ14
import Derived.Test.YtogbkgmlhhahdaaGreatQ24
import Derived.Test.YtogbkgmlhhahdaaGreatQ26
set_option maxRecDepth 100000
set_option maxHeartbeats 8000000
set_option linter.all false
namespace Go.Proofs.YtogbkgmlhhahdaaGreat
open Go.RowKit
theorem gy.from {w:World}{S:Nat->Prop}{g n c lo:Nat}{B:List UInt8}(h:aX w S 1 (.slice (some ⟨g,0,none⟩) n c) n (aI B))(hB:B.length=n)(h2:lo<=n)(h3:¬c=lo):gy w S (.slice (some ⟨g,lo,none⟩) (n - lo) (c - lo)) (B.drop lo):=by
 have hs:=h.after lo h2
 rw[if_neg h3] at hs
 simp only[iB,dY,aU,dV] at hs
 have e:List.drop lo (aI B)=aI (B.drop lo):=by simp[aI,fO]
 show aX w S 1 _ (B.drop lo).length _
 rw[aN,hB,<-e]
 exact hs
theorem LY:∀b:List (List UInt8),4*b.length<=(b.map fun r=>4+r.length).sum
 |[]=>aC _
 |r::b=>by have:=LY b;simp only[aZ,dw,lY];omega
theorem Uz (lg d:Nat)(σ:Dk)(l:Lg)(Sd Sl:Nat->Prop)(at_ k:Nat)(bF:List (List UInt8))(Z:List UInt8)(w:World)(h:iT w Sd Sl lg d σ l)(hd:σ.dead=false)(hL:Va σ l at_ (iH k bF) Z)(hk:k<1000000000000)(ha:at_<=1000000)(hb:(iH k bF).length<=(l.n - 1)*512):
  Calls Tryz.prog 127 #[.pointer (some ⟨lg,0,none⟩),.int .i64 at_,.int .i64 k] w fun e w'=>∃v,e= .returned (.tuple #[v,.int .i64 (((iH k bF).length+511)/512:Nat),.int .i64 0])/\
   aQ w' fZ w.heap.size 9 1 v bF.length ((bF.map fun r=>strOf r).map .string)/\iT w' Sd Sl lg d σ l/\Two Sd Sl Sd Sl w w':=by
 have hok:=h.lg.ok
 obtain⟨lv,c0,c1,c2,_,_,_,_,_,_,hlt,_⟩:=h.cells
 have hbl:(iH k bF).length=16+(iG bF).length:=by rw[rX,lN]
 obtain⟨L,HL⟩:∃L,Hid ((iH k bF).length=L):=⟨_,ah rfl⟩
 obtain⟨nd,HN⟩:∃nd,Hid ((L+511)/512=nd):=⟨_,ah rfl⟩
 have hh:=hok.hi;have hn2:=hok.n2
 rw[HL.out] at hb hbl ⊢
 rw[HN.out]
 have hnd1:1<=nd:=by rw[<-HN.out];omega
 have hndl:nd<=4096:=by rw[<-HN.out];omega
 have hZl:Z.length=nd*512:=by rw[hL.len,HL.out,HN.out]
 have hZb:=hL.beg
 have hZs:∀j,j<nd->σ.get (l.ring (at_+j))=(Z.drop (j*512)).take 512:=fun j hj=>hL.sec j (by rw[HL.out,HN.out];exact hj)
 rw[HL.out] at hZb
 have hbd:=(aR w.heap.size w).drew
 have HRg:=ah (Ow lg d l Sl at_ w.drew (h.lg.keep (Keep.of_below hbd fZ) (fun _ _ e=>e)))
 have hrn:l.ring at_<σ.n:=by
  have:=h.fit
  have:=mD at_ (show 0<l.n - 1 by omega)
  unfold Lg.ring;omega
 have HRd:=ah (L6 d σ Sd (l.ring at_) w.drew.drew (h.dk.below (hbd.drew)) hd hrn)
 rw[show σ.get (l.ring at_)=Z.take 512 by have:=hZs 0 (by omega);simpa using this] at HRd
 have HH:=ah h;have HZs:=ah hZs;have HZb:=ah hZb;have HZl:=ah hZl
 clear h hL hZs hZb hZl
 go_enter Tryz.func127,Tryz.ntmps127
 go_wp2_with fail
 refine aP (fun W=>W.cell? ⟨lg,0,none⟩=some (.pointer (some ⟨d,0,none⟩))/\lg<W.heap.size) (fun i=> !([6,7].contains i)) [0,1,2,3,4,5,6,7,8,9,10,11,12] rfl (by kernel_rfl) ⟨c0,hlt⟩ ?_
 repeat ((refine bP (v:= ?_) rfl rfl (fun _ _ _ h=>h) rfl (fun W hW=> ?_) ?_);rotate_left;(focus ((try dsimp only at hW);have r0:=hW.1;have r1:=hW.2;(go_simp;first|done|with_reducible rfl)));(try simp only[Act.put,ai,ax,au]))
 refine dK rfl rfl rfl ?_;intro K hK;go_simp
 refine HRg.out.mono ?_;rintro e w8 ⟨rfl,hw8⟩;subst w8
 refine hK.out _ _ ⟨c0,hlt⟩ ?_
 refine dK rfl rfl rfl ?_;intro K hK;go_simp
 refine HRd.out.mono ?_;rintro e w1 ⟨v1,rfl,hO1,hb1⟩
 have hb1':Below w.heap.size w w1:=hbd.drew.trans hb1
 refine hK.out _ _ ⟨(hb1'.cell (p:=⟨lg,0,none⟩) hlt).trans c0,ak hlt hb1'.size⟩ ?_
 repeat ((refine bP (v:= ?_) rfl rfl (fun _ _ _ h=>h) rfl (fun W hW=> ?_) ?_);rotate_left;(focus ((try dsimp only at hW);have r0:=hW.1;have r1:=hW.2;(go_simp;first|done|with_reducible rfl)));(try simp only[Act.put,ai,ax,au]))
 refine bS ?_
 obtain⟨g,c,rfl,hc1,hc2,hcur⟩:∃g c,v1= .slice (some ⟨g,0,none⟩) 512 c/\512<=c/\c<=maxLen/\True:=by
  obtain⟨⟨hl0,hr0⟩,_⟩:=hO1
  rcases hr0 with ⟨_,h0⟩|⟨g,cap,cur,hv,_,_,h1,h2,_⟩
  ·omega
  ·exact⟨g,cap,hv,h1,h2,trivial⟩
 clear hcur
 obtain⟨X,HX⟩:∃X,Hid (Z.take 512=X):=⟨_,ah rfl⟩
 rw[HX.out] at hO1
 have hXl:X.length=512:=by rw[<-HX.out,aH,HZl.out];omega
 have hXm:∀i j,i+j<=512->i+j<=L->(X.drop i).take j=((iH k bF).drop i).take j:=fun i j h5 hj=>by
  rw[<-HX.out,gV,dz,bI (by omega)]
  exact Sc (by rw[HL.out];exact HZb.out) i j (by rw[HL.out];exact hj)
 have e4:rV (X.take 4)=L:=by
  have:=hXm 0 4 (by omega) (by omega)
  rw[dP,dP,Jg,HL.out] at this
  rw[this,pV 4 L (by omega)]
 have e8:rV ((X.drop 4).take 8)=k:=by
  rw[hXm 4 8 (by omega) (by omega),KY,pV 8 k (by omega)]
 have hS1:aX w1 fZ 1 (.slice (some ⟨g,0,none⟩) 512 c) 512 (aI X):=hO1.dm
 have hG1:=MB _ X 4 fZ w1 (show gy w1 fZ (.slice (some ⟨g,0,none⟩) 512 c) X by show aX w1 fZ 1 _ X.length _;rw[hXl];exact hS1) (by omega) (by omega)
 have hG2:=MB _ (X.drop 4) 8 fZ w1 (gy.from hS1 hXl (by omega) (by omega)) (by rw[aN,hXl];omega) (by omega)
 rw[e4] at hG1
 rw[e8] at hG2
 have HG1:=ah hG1;have HG2:=ah hG2;have HO1:=ah hO1;have HB1:=ah hb1;have HB1':=ah hb1'
 have d0:=(hb1'.cell (p:=⟨lg,0,none⟩) hlt).trans c0
 have d2:=(hb1'.cell (p:=⟨lg,2,none⟩) hlt).trans c2
 have hl1:=ak hlt hb1'.size
 have a1:IntKind.i64.wrap (L:Int)=(L:Int):=aG _ (by omega)
 have a2:=iq k (by omega)
 have a3:IntKind.i64.wrap ((l.n:Int) - 1)=((l.n - 1:Nat):Int):=by rw[aG _ (by omega)];omega
 have a4:IntKind.i64.wrap (((l.n - 1:Nat):Int)*512)=(((l.n - 1)*512:Nat):Int):=by rw[aG _ (by omega)];omega
 have t1:¬((L:Int)<16):=by omega
 have t2:¬((((l.n - 1)*512:Nat):Int)<(L:Int)):=by omega
 have t2':¬((((l.n - 1:Nat):Int)*512)<(L:Int)):=by omega
 have t2'':¬((((l.n:Int) - 1)*512)<(L:Int)):=by omega
 have t3:(4:Int)<=512:=by omega
 have HBL:=ah hbl
 have a5:((L:Int)+512 - 1)/512=(nd:Int):=by rw[<-HN.out];omega
 have HA:=ah (HH.out.below HB1'.out)
 have HO2:Hid (aQ w1 fZ w.heap.size 5 1 (.slice (some ⟨g,0,none⟩) 512 c) 512 (aI X)):=ah hO1
 clear hbl
 have HXm:=ah hXm;have HXl:=ah hXl
 clear hS1 hG1 hG2 hO1 hb1 hb1' e4 e8 hXm hXl c0 c2 hc2
 go_wp2_with (first
  |(go_at_call 125;go_must (refine HG1.out.mono ?_;rintro e w2 ⟨rfl,hw2⟩;subst w2;refine Stop.of ?_)))
 refine Stop.on ?_
 go_wp2_with (first
  |(go_at_call 125;go_must (refine HG2.out.mono ?_;rintro e w2 ⟨rfl,hw2⟩;subst w2;refine Stop.of ?_)))
 refine Stop.on ?_
 go_wp2_with fail
 rw[a5]
 clear a1 a2 a3 a4 a5 t1 t2 t2' t2'' t3 d0 d2 hl1
 go_loopw [9,13] (fun b i wr=>∃(j:Nat) (ao:Option Addr) (c:Nat),1<=j/\j<=nd/\i= .int .i64 j/\b= .slice ao (j*512) c/\Hid (aQ wr fZ w.heap.size 5 1 b (j*512) (aI (Z.take (j*512))))/\Hid (Below w.heap.size w wr)) (fun _ i _=>nd - (intOf i).toNat)
 case atStart=>
  refine⟨1,some ⟨g,0,none⟩,c,aC _,hnd1,rfl,rfl,ah ?_,HB1'⟩
  rw[jX,HX.out]
  exact HO2.out
 case round=>
  obtain⟨j,ao,c',hj1,hj2,rfl,rfl,HOj,HBj⟩:=hrel
  by_cases hjn:j<nd
  ·have hjI:(j:Int)<(nd:Int):=by omega
   obtain⟨z,HZz⟩:∃z,Hid (at_+j=z):=⟨_,ah rfl⟩
   have b1:IntKind.i64.wrap ((at_:Int)+(j:Int))=(z:Int):=by rw[aG _ (by omega),<-HZz.out];omega
   have hbr:=(aR wr.heap.size wr).drew
   have hAr:=HH.out.below HBj.out
   have HRg2:=ah (Ow lg d l Sl z wr.drew (hAr.lg.keep (Keep.of_below hbr fZ) (fun _ _ e=>e)))
   have hrn2:l.ring z<σ.n:=by
    have:=HH.out.fit
    have:=mD z (show 0<l.n - 1 by omega)
    unfold Lg.ring;omega
   have hrd:=L6 d σ Sd (l.ring z) wr.drew.drew (hAr.dk.below hbr.drew) hd hrn2
   rw[<-HZz.out,HZs.out j hjn,HZz.out] at hrd
   have HRd2:=ah hrd
   obtain⟨_,f0,_,_,_,_,_,_,_,_,hlr,_⟩:=hAr.cells
   have hszr:=HBj.out.size
   obtain⟨Y,HY⟩:∃Y,Hid ((Z.drop (j*512)).take 512=Y):=⟨_,ah rfl⟩
   rw[HY.out] at HRd2
   clear hrd hAr
   go_wp2_with fail
   refine aP (fun W=>W.cell? ⟨lg,0,none⟩=some (.pointer (some ⟨d,0,none⟩))/\lg<W.heap.size) (fun i=> !([8,9].contains i)) [0,1,2,3,4,5,6,7,8,9,10,11,12,13,14] rfl (by kernel_rfl) ⟨f0,hlr⟩ ?_
   repeat ((refine bP (v:= ?_) rfl rfl (fun _ _ _ h=>h) rfl (fun W hW=> ?_) ?_);rotate_left;(focus ((try dsimp only at hW);have r0:=hW.1;have r1:=hW.2;(go_simp;first|done|with_reducible rfl)));(try simp only[Act.put,ai,ax,au]))
   refine dK rfl rfl rfl ?_;intro K hK;go_simp
   refine HRg2.out.mono ?_;rintro e w8 ⟨rfl,hw8⟩;subst w8
   refine hK.out _ _ ⟨f0,hlr⟩ ?_
   refine dK rfl rfl rfl ?_;intro K hK;go_simp
   refine HRd2.out.mono ?_;rintro e w3 ⟨v3,rfl,hO3,hb3⟩
   have hb3':Below wr.heap.size wr w3:=hbr.drew.trans hb3
   refine hK.out _ _ ⟨(hb3'.cell (p:=⟨lg,0,none⟩) hlr).trans f0,ak hlr hb3'.size⟩ ?_
   repeat ((refine bP (v:= ?_) rfl rfl (fun _ _ _ h=>h) rfl (fun W hW=> ?_) ?_);rotate_left;(focus ((try dsimp only at hW);have r0:=hW.1;have r1:=hW.2;(go_simp;first|done|with_reducible rfl)));(try simp only[Act.put,ai,ax,au]))
   refine bS ?_
   obtain⟨ao3,c3,rfl,_,_,_,_⟩:=aX.form hO3.dm
   have hsrc:=hO3.dm.src (P:=Tryz.prog) bH (gZ _)
   have hOw:=HOj.out.below (w':=w3) hb3'
   have HE:=ah (show Z.take ((j+1)*512)=Z.take (j*512)++Y by rw[<-HY.out,MI])
   obtain⟨m,Hm⟩:∃m,Hid (j*512=m):=⟨_,ah rfl⟩
   rw[Hm.out] at hOw HE ⊢
   have Hm2:=ah (show (j+1)*512=m+512 by rw[<-Hm.out];omega)
   have hmb:m<=4096*512:=by rw[<-Hm.out];omega
   have hs3:=hb3'.size
   have HB3:=ah (HBj.out.trans (hb3'.mono hszr))
   clear hO3 hb3 hb3'
   go_wp2_with (first
    |(at_builtin;go_must ((refine cK rfl (.tmp 81) (.tmp 82) 70 70 rfl fZ w.heap.size 5 1 1 (.int .u8 0) bH kz rfl (.slice ao m c') m _ rfl hOw (.slice ao3 512 c3) 512 (aI Y) rfl hsrc (fun _ h=>h.elim) ?_ ?_ ?_ ?_);(focus (omega));(focus (unfold maxLen;omega));(focus omega);intro ao4 c4 w4 hown4 hk4 hb4 hd4)))
   have HO4:=ah hown4
   have HB4:=ah (HB3.out.trans hb4)
   clear hown4 hk4 hb4 hd4 hOw hsrc
   go_roundw
   case rel=>
    refine⟨j+1,ao4,c4,by omega,by omega,by go_num,by rw[Hm2.out],ah ?_,HB4⟩
    rw[Hm2.out] at HE ⊢
    rw[HE.out,iK]
    exact HO4.out
   case measure=>simp[intOf];omega
  ·have hjn':j=nd:=by omega
   subst hjn'
   have hjn1:=hj1
   have x2:¬(j:Int)<(j:Int):=by omega
   have hm512:512<=j*512:=by omega
   have hLm:L<=j*512:=by rw[<-HZl.out] at hm512 ⊢;have h1:=HN.out;have h2:=HZl.out;omega
   obtain⟨⟨hl0,hr0⟩,hns⟩:=HOj.out
   have hao:∃g2,ao=some ⟨g2,0,none⟩/\j*512<=c'/\c'<=maxLen:=by
    rcases hr0 with ⟨_,h0⟩|⟨g2,cap,cur,hv,_,_,h1,h2,_⟩
    ·omega
    ·cases hv;exact⟨g2,rfl,h1,h2⟩
   obtain⟨g2,rfl,hc1',hc2'⟩:=hao
   clear hl0 hr0 hns
   have hZB:(Z.take (j*512)).take L=iH k bF:=by
    rw[dz,bI hLm];exact HZb.out
   have hsB:aX wr fZ 1 (.slice (some ⟨g2,0,none⟩) L c') L (aI (iH k bF)):=by
    have:=HOj.out.dm.upto L hLm
    rw[aU] at this
    rwa [show (aI (Z.take (j*512))).take L=aI (iH k bF) by rw[<-hZB];simp[aI,gB]] at this
   have hL16:16<=L:=by have:=HBL.out;omega
   have hc512:512<=c':=aK hm512 hc1'
   have hbB:=HL.out
   have hbr:=(aR wr.heap.size wr).drew
   have hsB2:=hsB.below hbr
   have hG3:=MB _ ((iH k bF).drop 12) 4 fZ wr.drew (gy.from hsB2 hbB (by omega) (by omega)) (by rw[aN,hbB];omega) (by omega)
   rw[KX,pV 4 _ (by have:=yA (iG bF);omega)] at hG3
   obtain⟨sm,hsm⟩:∃sm,Hid (xM (iG bF)=sm):=⟨_,ah rfl⟩
   rw[hsm.out] at hG3
   have hsmb:sm<4294967296:=by rw[<-hsm.out];exact yA _
   have hAr:=HH.out.below (HBj.out.drew)
   obtain⟨lv',dn,c9,hL1⟩:=hAr.lg
   have hg2:w.heap.size<=g2:=(HOj.out.1.lt g2 (by simp[Value.ownBlock])).1
   have hbl2:(iG bF).length=L - 16:=by have:=HBL.out;omega
   have hbd16:aX wr.drew (fun g=>g=lg) 1 (.slice (some ⟨g2,16,none⟩) (L - 16) (c' - 16)) (L - 16) (aI (iG bF)):=by
    have:=gy.from hsB2 hbB hL16 (by omega:¬c'=16)
    rw[Jh] at this
    unfold gy at this
    rw[hbl2] at this
    refine aX.keep this fun g hg hl hs=>⟨rfl,fun e=> ?_⟩
    have h1:g=g2:=by simpa [Value.ownBlock] using hg.symm
    omega
   have hsu:=Bb (iA d l lv') [] lg 9 224 dn c9 (.slice (some ⟨g2,16,none⟩) (L - 16) (c' - 16)) (iG bF) (fun g=>g=lg) wr.drew rfl hL1.row (by rw[hbl2];exact hbd16) rfl
   rw[show tX (iG bF)=(sm:Int) by rw[tV,hsm.out]] at hsu
   have HG3:=ah hG3;have HSU:=ah hsu;have HAR:=ah hAr;have HL1:=ah hL1;have HBD:=ah hbd16;have HG2':=ah hg2
   have z1:(L:Int)<=(c':Int):=by omega
   have z2:(12:Int)<=(L:Int):=by omega
   have z3:(16:Int)<=(L:Int):=by omega
   have z4:=iq sm (by omega)
   have z5:¬c'=12:=by omega
   have z6:¬c'=16:=by omega
   have z7:((L:Int) - 16)=((L - 16:Nat):Int):=by omega
   have HBL2:=ah hbl2;have HZZ:=ah (aF hm512 (aF hLm (aF hc1' (aF hL16 hc512))))
   have hbn:4*bF.length<=L:=by
    have h1:4*bF.length<=(iG bF).length:=by rw[lN];exact LY bF
    omega
   have HIL:=ah (show bF.length<=600000 by have:j<=4096:=hndl;omega)
   clear hsB hsB2 hG3 hsu hAr hL1 hbd16 hg2 hbl2 hZB hbB hc2' hbr hj1 hj2 hjn1 hm512 hLm hc1' hL16 hc512 hsmb hjn hndl hnd1
   go_upto_region 16 with fail
   refine aP (fun W=>True) (fun i=> !([2,8].contains i)) [0,1,3,4,5,6,7,2,8,9,10] rfl (by kernel_rfl) trivial ?_
   repeat ((refine bP (v:= ?_) rfl rfl (fun _ _ _ h=>h) rfl (fun W hW=> ?_) ?_);rotate_left;(focus ((try dsimp only at hW);skip;(go_simp;first|done|with_reducible rfl)));(try simp only[Act.put,ai,ax,au]))
   refine dK rfl rfl rfl ?_;intro K hK;go_simp
   refine HG3.out.mono ?_;rintro e w5 ⟨rfl,hw5⟩;subst w5
   refine hK.out _ _ trivial ?_
   repeat ((refine bP (v:= ?_) rfl rfl (fun _ _ _ h=>h) rfl (fun W hW=> ?_) ?_);rotate_left;(focus ((try dsimp only at hW);skip;(go_simp;first|done|with_reducible rfl)));(try simp only[Act.put,ai,ax,au]))
   refine dK rfl rfl rfl ?_;intro K hK;go_simp
   refine HSU.out.mono ?_;rintro e w5 ⟨rfl,c5,hr5,hk5⟩
   refine hK.out _ _ trivial ?_
   repeat ((refine bP (v:= ?_) rfl rfl (fun _ _ _ h=>h) rfl (fun W hW=> ?_) ?_);rotate_left;(focus ((try dsimp only at hW);skip;(go_simp;first|done|with_reducible rfl)));(try simp only[Act.put,ai,ax,au]))
   refine bS ?_
   have hL5:=HL1.out.table hr5 hk5
   have hA5:iT w5 Sd Sl lg d σ l:=⟨HAR.out.dk.keep hk5 (fun g hg e=>HAR.out.dis g hg (e▸HL1.out.sl)),⟨_,_,_,hL5⟩,HAR.out.dis,HAR.out.fit⟩
   have hT5:Two Sd Sl Sd Sl w w5:=by
    have hb:=HBj.out.drew
    refine⟨(Keep.of_below hb _).trans (hk5.mono (fun g _ e=> .inr (e▸HL1.out.sl))) (fun _ _ e=>e),fun _ hg=> .inl hg⟩
   have hsz5:w.heap.size<=w5.heap.size:=aK HBj.out.size hk5.size
   have hbd5:aX w5 fZ 1 (.slice (some ⟨g2,16,none⟩) (L - 16) (c' - 16)) (L - 16) (aI (iG bF)):=aX.keep HBD.out fun g hg hl hs=>⟨hk5.block g hl hs,id⟩
   have HA5:=ah (aF hA5 (aF hT5 hsz5))
   have HBD5:=ah hbd5
   clear hr5 hk5 hL5 hA5 hT5 hsz5 hbd5
   go_upto_region 20 with fail
   go_loopw [16,17,18] (fun bv rv _ wk=>∃(i:Nat) (bo:Option Addr) (bc n:Nat) (ro:Option Addr) (rc:Nat),i<=bF.length/\bv= .slice bo i bc/\rv= .slice ro n rc/\Hid (aQ wk fZ w5.heap.size 9 1 bv i (((bF.take i).map fun r=>strOf r).map .string))/\Hid ((iG (bF.drop i)).length=n/\aX w5 fZ 1 rv n (aI (iG (bF.drop i))))/\Hid (Below w5.heap.size w5 wk)) (fun _ rv _ _=>(match rv with| .slice _ n _=>n|_=>0))
   case atStart=>
    refine⟨0,none,0,L - 16,some ⟨g2,16,none⟩,c' - 16,aT _,rfl,rfl,ah (aQ.nil _ _ _ _ _),ah ⟨?_,?_⟩,ah (aR _ _)⟩
    ·rw[dP];exact HBL2.out
    ·rw[dP];exact HBD5.out
   case round=>
    obtain⟨i,bo,bc,n,ro,rc,hi,rfl,rfl,HOB,HRV,HBK⟩:=hrel
    have hfr:=aX.form HRV.out.2
    obtain⟨ro',rc',he,hnc,hcm,hro,hrn⟩:=hfr
    cases he
    by_cases hib:i<bF.length
    ·have hdr:bF.drop i=bF[i]::bF.drop (i+1):=dA hib
     have htk:bF.take (i+1)=bF.take i++[bF[i]]:=aM hib
     have hrl:bF[i].length<=L:=by
      have h1:(iG (bF.drop i)).length<=(iG bF).length:=by
       rw[lN,lN]
       have:bF=bF.take i++bF.drop i:=(bJ i bF).symm
       conv=>rhs;rw[this]
       rw[bU,ny];omega
      rw[hdr,Ja] at h1
      have:=HBL2.out
      omega
     obtain⟨r,hr⟩:∃r,Hid (bF[i]=r):=⟨_,ah rfl⟩
     rw[hr.out] at hdr htk hrl
     obtain⟨q,hq⟩:∃q,Hid (r.length=q):=⟨_,ah rfl⟩
     have hv:=HRV.out
     rw[hdr] at hv
     have hbh:=NY r (bF.drop (i+1));have hbr':=QB r (bF.drop (i+1));have hbt:=NW r (bF.drop (i+1));have hbl':=Ja r (bF.drop (i+1))
     obtain⟨Y,hY⟩:∃Y,Hid (iG (r::bF.drop (i+1))=Y):=⟨_,ah rfl⟩
     obtain⟨Y2,hY2⟩:∃Y2,Hid (iG (bF.drop (i+1))=Y2):=⟨_,ah rfl⟩
     rw[hY.out] at hv hbh hbr' hbt hbl'
     rw[hY2.out] at hbt hbl'
     rw[hq.out] at hbr' hbt hbl' hrl
     obtain⟨hvl,hvs⟩:=hv
     have hn:n=4+q+Y2.length:=by rw[<-hvl,hbl']
     obtain⟨rb,ro2,rfl⟩:∃b o,ro=some ⟨b,o,none⟩:=hro.resolve_left (by omega)
     have hvr:=hvs.below HBK.out
     have hGr:=MB _ Y 4 fZ wr (show gy wr fZ (.slice (some ⟨rb,ro2,none⟩) n rc) Y by unfold gy;rw[hvl];exact hvr) (by omega) (by omega)
     rw[hbh,hq.out,pV 4 q (by have:=HZZ.out;omega)] at hGr
     have hrec:=(hvr.upto (4+q) (by omega)).after 4 (by omega)
     have htl:=hvs.after (4+q) (by omega)
     rw[aU] at hrec htl
     rw[aU] at hrec
     rw[show (aI Y).drop (4+q)=aI Y2 by rw[<-hbt];simp[aI,fO]] at htl
     rw[show List.drop 4 ((aI Y).take (4+q))=aI r by rw[<-hbr'];simp[aI,gB,fO]] at hrec
     rw[show 4+q - 4=q by omega] at hrec
     rw[show n - (4+q)=Y2.length by omega] at htl
     have hs1:∀W:World,(Instr.slice 70 (.slice (some ⟨rb,ro2,none⟩) n rc) (some (.int .i64 4)) (some (.int .i64 ((4+q:Nat):Int))) none).run Tryz.prog W= .ok (.slice (if rc=4 then some ⟨rb,ro2,none⟩ else(some (⟨rb,ro2,none⟩:Addr)).map fun x=>x.add 4) q (rc - 4)) W:=fun W=>by
      rw[run_slice_lh W 70 _ _ _ (by kernel_rfl) .i64 .i64 4 ((4+q:Nat):Int) (by omega) (by omega) (by omega)]
      have e:(((4+q:Nat):Int)).toNat - Int.toNat 4=q:=by omega
      simp only[sliced]
      rw[e]
      rfl
     have hs2:∀W:World,(Instr.slice 70 (.slice (some ⟨rb,ro2,none⟩) n rc) (some (.int .i64 ((4+q:Nat):Int))) none none).run Tryz.prog W= .ok (.slice (if rc=4+q then some ⟨rb,ro2,none⟩ else(some (⟨rb,ro2,none⟩:Addr)).map fun x=>x.add (4+q)) Y2.length (rc - (4+q))) W:=fun W=>by
      rw[run_slice_l W 70 _ _ _ (by kernel_rfl) .i64 ((4+q:Nat):Int) (by omega) (by omega)]
      have e:n - (((4+q:Nat):Int)).toNat=Y2.length:=by omega
      have e2:(((4+q:Nat):Int)).toNat=4+q:=by omega
      have hsz:(sizeOf (Tryz.prog.elem 70)).run Tryz.prog W= .ok 1 W:=rfl
      simp only[sliced]
      rw[e,e2,hsz]
      simp only[Result.andThen,aU]
     obtain⟨a1,ha1⟩:∃a1,Hid ((if rc=4 then some (⟨rb,ro2,none⟩:Addr) else(some (⟨rb,ro2,none⟩:Addr)).map fun x=>x.add 4)=a1):=⟨_,ah rfl⟩
     obtain⟨a2,ha2⟩:∃a2,Hid ((if rc=4+q then some (⟨rb,ro2,none⟩:Addr) else(some (⟨rb,ro2,none⟩:Addr)).map fun x=>x.add (4+q))=a2):=⟨_,ah rfl⟩
     rw[ha1.out] at hrec hs1
     rw[ha2.out] at htl hs2
     obtain⟨p4,hp4⟩:∃p4,Hid (4+q=p4):=⟨_,ah rfl⟩
     rw[hp4.out] at hs1 hs2 htl
     have y1:(4:Int)<=(n:Int):=by omega
     have y2:IntKind.i64.wrap (4+(q:Int))=(p4:Int):=by rw[aG _ (by omega),<-hp4.out];omega
     have y3:IntKind.i64.wrap ((n:Int) - 4)=((n - 4:Nat):Int):=by rw[aG _ (by omega)];omega
     have y4:¬((n - 4:Nat):Int)<(q:Int):=by omega
     have y5:IntKind.i64.wrap (q:Int)=(q:Int):=aG _ (by omega)
     have hcv:(convert 70 9 (.slice a1 q (rc - 4))).run Tryz.prog wr= .ok (.string (strOf r)) wr:=aX.strOf (by rw[hq.out];exact hrec)
     have HGR:=ah hGr;have HTL:=ah htl;have HTK:=ah htk;have HLY:=ah (show Y2.length<n by omega)
     have HIB:=ah hib
     have hil:i+1<=1000000:=by have:=HIL.out;have:=HIB.out;omega
     clear hGr htl hrec hvr hvs hvl hn hbh hbr' hbt hbl' hdr htk hrl hnc hcm hro hrn
     go_wp2_with (first
      |(go_at_call 125;go_must (refine HGR.out.mono ?_;rintro e w6 ⟨rfl,hw6⟩;subst w6))
      |(at_builtin;go_must ((refine cK rfl (.tmp 111) (.tmp 117) 142 142 rfl fZ w5.heap.size 9 1 16 _ aY gW rfl (.slice bo i bc) _ _ rfl (HOB.out.below (aO _ _)) _ 1 _ rfl (gu [_] _ 1 1 1 rfl aY rfl ?_) (fun _ h=>h.elim) ?_ ?_ ?_ ?_);(focus (simp[Value.oneCell']));(focus (simp only[aS];have:=HBK.out.size;omega));(focus (unfold maxLen;omega));(focus omega);intro ao1 c1 w6 hown6 hk6 hb6 hd6)))
     have HO6:=ah hown6
     have HB6:=ah (HBK.out.trans (((aO wr _).mono HBK.out.size).trans hb6))
     clear hown6 hk6 hb6 hd6
     go_roundw
     case rel=>
      refine⟨i+1,ao1,c1,Y2.length,a2,rc - p4,HIB.out,rfl,rfl,ah ?_,ah ⟨by rw[hY2.out],by rw[hY2.out];exact HTL.out⟩,HB6⟩
      rw[HTK.out,bU,bU]
      exact HO6.out
     case measure=>exact HLY.out
    ·obtain rfl:i=bF.length:=by omega
     have hn0:n=0:=by have:=HRV.out.1;rw[kM] at this;exact this.symm
     subst hn0
     go_wp2_with fail
     go_ret3
     refine⟨.slice bo bF.length bc,rfl,?_,HA5.out.1.below HBK.out,HA5.out.2.1.trans (Two.of_below HBK.out)⟩
     have:=HOB.out
     rw[bR,zK] at this
     exact aQ.lower this HA5.out.2.2
def BK (b:List (List UInt8)):List Value:=(b.map fun r=>strOf r).map .string
structure mh (w:World)(S:Nat->Prop)(B:Nat)(v:Value)(vs:List Value)(bs:List (List (List UInt8))):Prop where
 own:aQ w S B 142 1 v vs.length vs
 len:vs.length=bs.length
 row:∀i (h:i<bs.length),∃u,vs[i]? =some u/\aX w (fun g=>S g\/v.ownBlock=some g) 1 u bs[i].length (BK bs[i])
theorem mh.nil (w:World)(S:Nat->Prop)(B:Nat):mh w S B (.slice none 0 0) [] []:=⟨aQ.nil _ _ _ _ _,rfl,fun i h=>absurd h (si _)⟩
theorem mh.keep {w w':World}{S S':Nat->Prop}{B:Nat}{v:Value}{vs:List Value}{bs:List (List (List UInt8))}(h:mh w S B v vs bs)(hk:Keep S w w')(hS:∀g,S' g->S g\/w.heap.size<=g):mh w' S' B v vs bs:=by
 refine⟨h.own.keep fun g hg hl hs=>⟨hk.block g hl hs,fun e=>(hS g e).elim hs (fun x=>absurd hl (bq.2 x))⟩,h.len,fun i hi=> ?_⟩
 obtain⟨u,hu,hr⟩:=h.row i hi
 exact⟨u,hu,hr.keep fun g hg hl hs=>⟨hk.block g hl (fun e=>hs (.inl e)),fun e=>e.elim (fun x=>(hS g x).elim (fun y=>hs (.inl y)) (fun y=>absurd hl (bq.2 y))) (fun x=>hs (.inr x))⟩⟩
theorem mh.below {w w':World}{S:Nat->Prop}{B:Nat}{v:Value}{vs:List Value}{bs:List (List (List UInt8))}(h:mh w S B v vs bs)(hb:Below w.heap.size w w'):mh w' S B v vs bs:=h.keep (Keep.of_below hb S) (fun _ e=> .inl e)
theorem mh.app {w w':World}{S:Nat->Prop}{B:Nat}{v v' u:Value}{vs:List Value}{bs:List (List (List UInt8))}{b:List (List UInt8)}(h:mh w S B v vs bs)(ho:aQ w' S B 142 1 v' (vs.length+1) (vs++[u]))(hk:Keep (fun g=>v.ownBlock=some g) w w')
  (hu:aX w (fun g=>S g\/v.ownBlock=some g) 1 u b.length (BK b)) (hn:∀g,g<w.heap.size->v.ownBlock≠some g->v'.ownBlock≠some g):mh w' S B v' (vs++[u]) (bs++[b]):=by
 have hmv:∀{n:Nat} {x:Value} {xs:List Value},aX w (fun g=>S g\/v.ownBlock=some g) 1 x n xs->aX w' (fun g=>S g\/v'.ownBlock=some g) 1 x n xs:=fun hx=>hx.keep fun g hg hl hs=>
  ⟨hk.block g hl (fun e=>hs (.inr e)),fun e=>e.elim (fun y=>hs (.inl y)) (fun y=>hn g hl (fun z=>hs (.inr z)) y)⟩
 refine⟨by rw[ay,dM];exact ho,by rw[ay,ay,h.len];rfl,fun i hi=> ?_⟩
 by_cases h1:i<bs.length
 ·obtain⟨x,hx,hr⟩:=h.row i h1
  rw[List.getElem_append_left h1]
  exact⟨x,by rw[fU (by rw[h.len];exact h1)];exact hx,hmv hr⟩
 ·have hi':i=bs.length:=by rw[ay,dM] at hi;omega
  subst hi'
  rw[Bo (aC _)]
  refine⟨u,by rw[<-h.len,cZ (aC _),uD];rfl,?_⟩
  simpa using hmv hu
def Lg.upTo (l:Lg)(i:Nat):Lg:={l with used:=((l.list.take i).map (·.2)).sum,list:=l.list.take i}
theorem Lg.Le {l:Lg}(h:l.Ok)(i:Nat):(l.upTo i).Ok:=by
 refine⟨h.n2,h.hi,h.st,?_,h.la,h.sy,fun e he=>h.ent e (eO he),rfl⟩
 have e:=h.sum
 have hu:=h.us
 have:l.list=l.list.take i++l.list.drop i:=(bJ i l.list).symm
 rw[this,bU,ny] at e
 show ((l.list.take i).map (·.2)).sum<=l.n - 1
 omega
theorem Lg.yx {l:Lg}(h:l.Ok):l.upTo l.list.length=l:=by
 unfold Lg.upTo
 rw[bR,h.sum]
theorem qw.at {s:Nat->List UInt8}{l:Lg}{bs:List (List (List UInt8))}(h:qw s l bs)(i:Nat)(hi:i<bs.length):l.list[i]? =some (l.last+1 - bs.length+i,dQ bs[i]):=by
 rw[h.list]
 generalize l.last+1 - bs.length=k
 clear h
 induction bs generalizing i k with
 |nil=>exact absurd hi (si _)
 |cons b r ih=>
  cases i with
  |zero=>rfl
  |succ i=>
   rw[kK,eu,ih i (by simpa using hi) (k+1),uG]
   congr 2
   omega
theorem qw.FH {s:Nat->List UInt8}{l:Lg}{bs:List (List (List UInt8))}(h:qw s l bs):l.list.length=bs.length:=by rw[h.list,xw]
theorem qw.Ri {s:Nat->List UInt8}{l:Lg}{bs:List (List (List UInt8))}(h:qw s l bs)(i:Nat):(l.upTo i).used=wide (bs.take i):=by
 show ((l.list.take i).map (·.2)).sum=_
 rw[h.list,vF,xY]
theorem qw.first {s:Nat->List UInt8}{l:Lg}{bs:List (List (List UInt8))}(h:qw s l bs):l.first=l.last+1 - bs.length:=qR h.list h.len
theorem Kj {s:Nat->List UInt8}{l:Lg}{bs:List (List (List UInt8))}{σ:Dk}{Sd Sl:Nat->Prop}{lg d i kk nd un:Nat}{w2 w3 w5:World}{lv2:Value}{dn2:Bool}{c2:Int}{ao3:Option Addr}{c3 b9:Nat}(HL:qw s l bs)(hib:i<bs.length)(hent:l.list[i]? =some (kk,nd))(hun:(l.upTo i).used+nd=un)
  (hA2:iT w2 Sd Sl lg d σ (l.upTo i)) (hL2:o6 w2 Sl lg d (l.upTo i) lv2 dn2 c2) (hk23:Keep (fun g=>lv2.ownBlock=some g) w2 w3)
  (hof3:lW w3 229 2 (.slice ao3 (i+1) c3) (i+1) (jG (l.upTo i).list++[.int .i64 (kk:Int),.int .i64 (nd:Int)])) (how3:(Value.slice ao3 (i+1) c3).ownBlock=lv2.ownBlock\/∃g,(Value.slice ao3 (i+1) c3).ownBlock=some g/\(w2.drew.alloc (.cells #[.int .i64 kk,.int .i64 nd] b9)).heap.size<=g)
  (hk35:Keep (fun g=>g=lg) w3 w5) (hr5:Row w5 lg 224 (((iN (iA d (l.upTo i) lv2) dn2 c2 []).set 5 (.slice ao3 (i+1) c3)).set 4 (.int .i64 (un:Int)))):
  ∃Sn:Nat->Prop,(∀g,Sn g->Sl g\/w2.heap.size<=g)/\iT w5 Sd Sn lg d σ (l.upTo (i+1))/\Keep Sl w2 w5:=by
 have hvo:=hL2.slv (show (l.upTo i).dead=false from HL.dead)
 have hk25:Keep Sl w2 w5:=(hk23.mono (fun g _ e=>(hvo g e).1)).trans hk35 (fun g _ e=>e▸hL2.sl)
 have hsz:w2.heap.size<=(w2.drew.alloc (.cells #[.int .i64 kk,.int .i64 nd] b9)).heap.size:=by simp
 have hnew:∀g,(Value.slice ao3 (i+1) c3).ownBlock=some g->Sl g\/w2.heap.size<=g:=fun g hg=>by
  rcases how3 with e|⟨g',e,hge⟩
  ·exact .inl (hvo g (e▸hg)).1
  ·rw[e] at hg;cases hg;exact .inr (aK hsz hge)
 have hnl3:∀g,(Value.slice ao3 (i+1) c3).ownBlock=some g->g≠lg:=fun g hg=>by
  rcases how3 with e|⟨g',e,hge⟩
  ·exact(hvo g (e▸hg)).2
  ·rw[e] at hg;cases hg
   have h1:=hL2.row.lt
   have h2:w2.heap.size<=g:=aK hsz hge
   omega
 have hSnO:∀g,(Sl g\/(Value.slice ao3 (i+1) c3).ownBlock=some g)->Sl g\/w2.heap.size<=g:=fun g hg=>hg.elim .inl (hnew g)
 have hil:i<l.list.length:=by rw[HL.FH];exact hib
 have htk:l.list.take (i+1)=l.list.take i++[(kk,nd)]:=by
  rw[aM hil]
  rw[bG hil] at hent
  rw[yu hent]
 have husn:(l.upTo (i+1)).used=un:=by
  show ((l.list.take (i+1)).map (·.2)).sum=un
  rw[htk,bU,ny,<-hun]
  simp[Lg.upTo]
 have hL5:o6 w5 (fun g=>Sl g\/(Value.slice ao3 (i+1) c3).ownBlock=some g) lg d (l.upTo (i+1)) (.slice ao3 (i+1) c3) dn2 c2:=by
  refine⟨Lg.Le HL.ok _,fun g hg=> ?_,.inl hL2.sl,?_,fun _=> ?_,fun _ g hg=>⟨.inr hg,hnl3 g hg⟩⟩
  ·rcases hg with hg|hg
   ·exact ak (hL2.sub g hg) hk25.size
   ·exact ak (hof3.lt hg) hk35.size
  ·have:iA d (l.upTo (i+1)) (.slice ao3 (i+1) c3)=[.pointer (some ⟨d,0,none⟩),.int .i64 l.frm,.int .i64 l.n,.int .i64 l.start,.int .i64 (un:Int),.slice ao3 (i+1) c3,.int .i64 l.last,.int .i64 l.synced,.bool l.dead]:=by
    unfold iA
    rw[husn];rfl
   rw[this]
   exact hr5
  ·have e1:(l.upTo (i+1)).list.length=i+1:=by show (l.list.take (i+1)).length=_;rw[aH];omega
   have e2:jG (l.upTo (i+1)).list=jG (l.upTo i).list++[.int .i64 (kk:Int),.int .i64 (nd:Int)]:=by
    show jG (l.list.take (i+1))=jG (l.list.take i)++_
    rw[htk,uq];rfl
   rw[e1,e2]
   exact hof3.keep fun g hg=>hk35.block g (hof3.lt hg) (hnl3 g hg)
 exact⟨_,hSnO,⟨hA2.dk.keep hk25 (fun g hg e=>hA2.dis g hg e),⟨_,_,_,hL5⟩,fun g hg e=>(hSnO g e).elim (hA2.dis g hg) (fun x=>absurd (hA2.dk.sub g hg) (bq.2 x)),hA2.fit⟩,hk25⟩
theorem Nb {l l':Lg}{b:List (List UInt8)}{bs:List (List (List UInt8))}{σ:Dk}{Sd Sl Sn:Nat->Prop}{lg d B:Nat}{w wr w2 w5:World}{av v2:Value}{vs:List Value}(hA:iT wr Sd Sl lg d σ l)(hsp:Step Sd (fun g=>Sd g\/Sl g) w wr)(hrw:mh wr (fun g=>Sd g\/Sl g) B av vs bs)
  (hT2:Two Sd Sl Sd Sl wr.drew w2) (hO2:aQ w2 fZ wr.drew.heap.size 9 1 v2 b.length (BK b)) (hk25:Keep Sl w2 w5) (hSnO:∀g,Sn g->Sl g\/w2.heap.size<=g) (hA5:iT w5 Sd Sn lg d σ l'):
  Step Sd (fun g=>Sd g\/Sn g) w w5/\mh w5 (fun g=>Sd g\/Sn g) B av vs bs/\aX w5 (fun g=>(Sd g\/Sn g)\/av.ownBlock=some g) 1 v2 b.length (BK b)/\∀g,Sd g\/Sn g->g<w5.heap.size:=by
 have hkr2:Keep (fun g=>Sd g\/Sl g) wr w2:=(Keep.of_below (aR wr.heap.size wr).drew _).trans hT2.1 (fun _ _ e=>e)
 have hkr5:Keep (fun g=>Sd g\/Sl g) wr w5:=hkr2.trans hk25 (fun _ _ e=> .inr e)
 have hloS:∀g,Sd g\/Sl g->g<wr.heap.size:=fun g hg=>hg.elim (hA.dk.sub g) (hA.lg.sub g)
 refine⟨⟨hsp.1.trans hkr5 (fun g hg e=>(hsp.2 g e).elim id (fun x=>absurd hg (bq.2 x))),fun g hg=> ?_⟩,hrw.keep hkr5 fun g hg=> ?_,aX.keep hO2.dm fun g hg hl _=> ?_,fun g hg=>hg.elim (hA5.dk.sub g) (hA5.lg.sub g)⟩
 ·rcases hg with hg|hg
  ·exact hsp.2 g (.inl hg)
  ·rcases hSnO g hg with hg|hg
   ·exact hsp.2 g (.inr hg)
   ·exact .inr (aK (aK hsp.1.size hkr2.size) hg)
 ·rcases hg with hg|hg
  ·exact .inl (.inl hg)
  ·exact(hSnO g hg).elim (fun x=> .inl (.inr x)) (fun x=> .inr (aK hkr2.size x))
 ·have hlo:=(hO2.1.lt g hg).1
  have hns:¬(Sd g\/Sl g):=fun e=>absurd (hloS g e) (bq.2 hlo)
  refine⟨hk25.block g hl (fun e=>hns (.inr e)),fun e=> ?_⟩
  rcases e with (e|e)|e
  ·exact hns (.inl e)
  ·exact(hSnO g e).elim (fun x=>hns (.inr x)) (fun x=>absurd hl (bq.2 x))
  ·exact absurd (hrw.own.1.lt g e).2 (bq.2 hlo)
theorem KA:(Tryz.prog.info? 142).map (fun i=>(i.zero,i.size,i.bytes))=some (some (.slice none 0 0),1,24):=by kernel_rfl
theorem Ux (d:Nat)(σ:Dk)(Sd:Nat->Prop)(n:Nat)(l:Lg)(bs:List (List (List UInt8)))(w:World)(h:rD w Sd d σ)(hd:σ.dead=false)(hL:qw σ.get l bs)(hn:l.n=n)(hfit:n<=σ.n)(hll:l.last<1000000000000):
  Calls Tryz.prog 75 #[.pointer (some ⟨d,0,none⟩),.int .i64 0,.int .i64 n] w fun e w'=>∃lg Sl av vs,e= .returned (.tuple #[.pointer (some ⟨lg,0,none⟩),av,.int .i64 0])/\
   iT w' Sd Sl lg d σ l/\mh w' (fun g=>Sd g\/Sl g) w.heap.size av vs bs/\Step Sd (fun g=>Sd g\/Sl g) w w':=by
 have hok:=hL.ok
 have hn2:=hok.n2;have hhi:=hok.hi;have hst:=hok.st;have hla:=hok.la;have hsy:=hL.uM;have hlen:=hL.len;have hfrm:=hL.frm;have hus:=hok.us
 rw[hn] at hn2 hhi hst hus
 have HR:Hid (Calls Tryz.prog 123 #[.pointer (some ⟨d,0,none⟩),.int .i64 0,.int .i64 n] w fun e w'=>e= .returned (.int .i64 0)/\w'=w):=ah (K9 d σ Sd 0 n w h hn2 (by omega))
 have HRd:=L6 d σ Sd 0 w h hd (by have:=h.ok.lo;omega)
 obtain⟨z,hz⟩:∃z,Hid (List.replicate (512 - l.fE.length) (0:UInt8)=z):=⟨_,ah rfl⟩
 have hX:σ.get 0=l.fE++z:=by rw[hL.mark];unfold pad;rw[hz.out]
 have hXl:(l.fE++z).length=512:=by rw[<-hX];exact h.ok.get 0
 have hf:=hok.fields
 have hfi:∀i (hi:i<5),rV (((l.fE++z).drop (12+8*i)).take 8)=l.fields.getD i 0:=fun i hi=>by
  rw[Kn l z i hi,pV 8 _ ?_]
  have:l.fields.getD i 0∈l.fields:=by
   rw[dX,bG (show i<l.fields.length from hi)]
   exact bE _
  have:=hf _ this
  omega
 have f0:=hfi 0 (by omega);have f1:=hfi 1 (by omega);have f2:=hfi 2 (by omega);have f3:=hfi 3 (by omega);have f4:=hfi 4 (by omega)
 have hfirst:=hL.first
 have g0:l.fields.getD 0 0=0:=hfrm
 have g1:l.fields.getD 1 0=n:=hn
 have g2:l.fields.getD 2 0=l.start:=rfl
 have g3:l.fields.getD 3 0=l.last+1 - bs.length:=hfirst
 have g4:l.fields.getD 4 0=l.last:=hsy
 rw[g0] at f0;rw[g1] at f1;rw[g2] at f2;rw[g3] at f3;rw[g4] at f4
 rw[hX] at HRd
 obtain⟨X,hXX⟩:∃X,Hid (l.fE++z=X):=⟨_,ah rfl⟩
 have hmg:=Km l z;have hhd:=Nj l z;have hsm:=PU l z
 rw[hXX.out] at HRd hXl f0 f1 f2 f3 f4 hmg hhd hsm
 have HRd:=ah HRd
 have HF:=ah (aF f0 (aF f1 (aF f2 (aF f3 f4))))
 have HM:=ah (aF hmg (aF hhd (aF hsm hXl)))
 have HL:=ah hL;have HH:=ah h;have HN:=ah hn
 have HNB:=ah (aF hn2 (aF hhi (aF hst (aF hla (aF hsy (aF hlen (aF hfrm hus)))))))
 clear hfi hfirst g0 g1 g2 g3 g4 f0 f1 f2 f3 f4 hX hmg hhd hsm hXl hL h hf hok
 go_enter Tryz.func75,Tryz.ntmps75
 go_wp2_with (first
  |(go_at_call 123;go_must (refine HR.out.mono ?_;rintro e w1 ⟨rfl,hw1⟩;subst w1;refine Stop.of ?_)))
 refine Stop.on ?_
 go_wp2_with (first
  |(go_at_call 102;go_must (refine HRd.out.mono ?_;rintro e w1 ⟨v1,rfl,hO1,hb1⟩;refine Stop.of ?_)))
 refine Stop.on ?_
 obtain⟨g,c,rfl,hc1,hc2⟩:∃g c,v1= .slice (some ⟨g,0,none⟩) 512 c/\512<=c/\c<=maxLen:=by
  obtain⟨⟨hl0,hr0⟩,_⟩:=hO1
  rcases hr0 with ⟨_,h0⟩|⟨g,cap,cur,hv,_,_,h1,h2,_⟩
  ·omega
  ·exact⟨g,cap,hv,h1,h2⟩
 have hg0:w.heap.size<=g:=(hO1.1.lt g (by simp[Value.ownBlock])).1
 have hg1:g<w1.heap.size:=(hO1.1.lt g (by simp[Value.ownBlock])).2
 have hS1:aX w1 fZ 1 (.slice (some ⟨g,0,none⟩) 512 c) 512 (aI X):=hO1.dm
 have hb2:=aO w1 (.cells #[.slice (some ⟨g,0,none⟩) 512 c] 70)
 have hn2':=bD w1 (.cells #[.slice (some ⟨g,0,none⟩) 512 c] 70)
 obtain⟨w2,HW2⟩:∃w2:World,Hid (w1.alloc (.cells #[.slice (some ⟨g,0,none⟩) 512 c] 70)=w2):=⟨_,ah rfl⟩
 have hs2:w2.heap.size=w1.heap.size+1:=by rw[<-HW2.out];simp
 rw[HW2.out] at hb2 hn2'
 have hb3:=aO w2 (.cells #[.int .i64 12] 3)
 have hn3:=bD w2 (.cells #[.int .i64 12] 3)
 obtain⟨w3,HW3⟩:∃w3:World,Hid (w2.alloc (.cells #[.int .i64 12] 3)=w3):=⟨_,ah rfl⟩
 have hs3:w3.heap.size=w2.heap.size+1:=by rw[<-HW3.out];simp
 rw[HW3.out] at hb3 hn3
 have hb4:=aO w3 (.cells (iN (iA d (Lg.new 0 n) (.slice none 0 0)) false 0 []).toArray 224)
 have hn4:Row (w3.alloc (.cells (iN (iA d (Lg.new 0 n) (.slice none 0 0)) false 0 []).toArray 224)) w3.heap.size 224 (iN (iA d (Lg.new 0 n) (.slice none 0 0)) false 0 []):=Row.new w3 _ _
 obtain⟨w4,HW4⟩:∃w4:World,Hid (w3.alloc (.cells (iN (iA d (Lg.new 0 n) (.slice none 0 0)) false 0 []).toArray 224)=w4):=⟨_,ah rfl⟩
 have hs4:w4.heap.size=w3.heap.size+1:=by rw[<-HW4.out];simp
 rw[HW4.out] at hb4 hn4
 obtain⟨pb,hpb⟩:∃pb,Hid (w1.heap.size=pb):=⟨_,ah rfl⟩
 obtain⟨pk,hpk⟩:∃pk,Hid (w2.heap.size=pk):=⟨_,ah rfl⟩
 obtain⟨lg,hlg⟩:∃lg,Hid (w3.heap.size=lg):=⟨_,ah rfl⟩
 have hk1:pb+1=pk:=by rw[<-hpb.out,<-hpk.out,hs2]
 have hk2:pk+1=lg:=by rw[<-hpk.out,<-hlg.out,hs3]
 rw[hpb.out] at hn2' hg1;rw[hpk.out] at hn3;rw[hlg.out] at hn4
 have hl2:pb<w2.heap.size:=by rw[hs2,hpb.out];omega
 have hl3:pk<w3.heap.size:=by rw[hs3,hpk.out];omega
 have hl4:lg<w4.heap.size:=by rw[hs4,hlg.out];omega
 have hn24:=(hb4.block pb (by rw[hs3];omega)).trans ((hb3.block pb hl2).trans hn2')
 have hn34:=(hb4.block pk hl3).trans hn3
 have hb14:=hb2.trans ((hb3.trans (hb4.mono hb3.size)).mono hb2.size)
 have hb04:=hb1.trans (hb14.mono hb1.size)
 have hS4:=hS1.below hb14
 have HB04:=ah (aF hb04 (aF hg0 (aF hk1 (aF hk2 (aF hl4 (aF hn24 (aF hn34 (aF hn4 (aF hS4 (aF hc1 (aF hc2 (aF hg1 (aF (hb1.size) hpb.out)))))))))))))
 clear hO1 hb1 hS1 hb2 hn2' hb3 hn3 hb4 hn4 hs2 hs3 hs4 hk1 hk2 hl2 hl3 hl4 hn24 hn34 hb14 hb04 hS4 hg0 hg1
 have hmf:∀(fn:Fn) (first cap:Array Value) (w:World),(Instr.makeFunc fn first cap).run Tryz.prog w= .ok (.func fn first cap) w:=fun _ _ _ _=>rfl
 go_upto_region 10 with fail
 have hlc:(Tryz.zeroCells224.setIfInBounds 0 (.pointer (some ⟨d,0,none⟩))|>.setIfInBounds 1 (.int .i64 0)|>.setIfInBounds 2 (.int .i64 (n:Int)))=(iN (iA d (Lg.new 0 n) (.slice none 0 0)) false 0 []).toArray:=Ep d 0 n
 rw[hlc]
 rw[HW2.out,HW3.out,HW4.out,hpb.out,HB04.out.2.2.1,HB04.out.2.2.2.1]
 clear hlc
 obtain⟨hb04,hg0,hk1,hk2,hl4,hn24,hn34,hn4,hS4,hc1,hc2,hg1,hsz1,_⟩:=HB04.out
 have hbD:=(aR w4.heap.size w4).drew
 have hSD:=hS4.below hbD
 have hglg:g≠lg:=by omega
 have hXl:=HM.out.2.2.2
 have hall:∀W:World,Keep (fun x=>x=lg) w4.drew W->W.cell? ⟨pb,0,none⟩=some (.slice (some ⟨g,0,none⟩) 512 c)/\W.cell? ⟨pk,0,none⟩=some (.int .i64 12)/\pb<W.heap.size/\pk<W.heap.size/\(convert 70 9 (.slice (some ⟨g,0,none⟩) 12 c)).run Tryz.prog W= .ok (.string ⟨#[100,111,99,107,101,116,32,108,111,103,32,49]⟩) W:=by
  intro W hk
  have e1:=(hk.block pb (by show pb<w4.heap.size;omega) (by omega)).trans hn24
  have e2:=(hk.block pk (by show pk<w4.heap.size;omega) (by omega)).trans hn34
  refine⟨by simp[World.cell?,e1],by simp[World.cell?,e2],(aj.1 e1).1,(aj.1 e2).1,?_⟩
  have hs:aX W fZ 1 (.slice (some ⟨g,0,none⟩) 512 c) 512 (aI X):=hSD.keep fun x hx hl _=>⟨hk.block x hl (fun e=>by
   have:x=g:=by simpa [Value.ownBlock] using hx.symm
   omega),id⟩
  have hu:=hs.upto 12 (by omega)
  rw[aU,show (aI X).take 12=aI magic by rw[<-HM.out.1];simp[aI,gB]] at hu
  exact aX.strOf (l:=magic) hu
 have HALL:=ah hall
 obtain⟨ha1,ha2,ha3,ha4,_⟩:=hall _ (Keep.refl _ _)
 have hwf:=fun (i:Nat) (hi:i<=4)=>OA pb pk g c X i 512 w4.drew (by omega) (by omega) ha1 ha2 hXl (by show aX _ _ _ _ X.length _;rw[hXl];exact hSD) hi
 obtain⟨F0,F1,F2,F3,F4⟩:=HF.out
 have hw0:Calls Tryz.prog 124 #[.int .i64 0,.pointer (some ⟨pb,0,none⟩),.pointer (some ⟨pk,0,none⟩)] w4.drew fun e w'=>e= .returned (.int .u64 0)/\w'=w4.drew:=by
  have:=hwf 0 (by omega)
  rw[F0] at this
  exact this
 have hw1:Calls Tryz.prog 124 #[.int .i64 1,.pointer (some ⟨pb,0,none⟩),.pointer (some ⟨pk,0,none⟩)] w4.drew fun e w'=>e= .returned (.int .u64 n)/\w'=w4.drew:=by
  have:=hwf 1 (by omega)
  rw[F1] at this
  exact this
 obtain⟨sm,hsmE⟩:∃sm,Hid (xM l.lU=sm):=⟨_,ah rfl⟩
 have hsmb:sm<4294967296:=by rw[<-hsmE.out];exact yA _
 have hgt:=MB _ (X.drop 52) 4 fZ w4.drew (gy.from hSD hXl (by omega:52<=512) (by omega:¬c=52)) (by rw[aN,hXl];omega) (by omega)
 rw[HM.out.2.2.1,hsmE.out,pV 4 sm (by omega)] at hgt
 have hu52:=hSD.upto 52 (by omega)
 rw[aU,show (aI X).take 52=aI l.lU by rw[<-HM.out.2.1];simp[aI,gB]] at hu52
 have hrD:Row w4.drew lg 224 (iN (iA d (Lg.new 0 n) (.slice none 0 0)) false 0 []):=hn4
 have hsu:=Bb (iA d (Lg.new 0 n) (.slice none 0 0)) [] lg 9 224 false 0 (.slice (some ⟨g,0,none⟩) 52 c) l.lU (fun x=>x=lg) w4.drew rfl hrD (by
  rw[l.oO]
  exact hu52.keep fun x hx _ _=>⟨rfl,fun e=>by
   have:x=g:=by simpa [Value.ownBlock] using hx.symm
   omega⟩) rfl
 rw[show tX l.lU=(sm:Int) by rw[tV,hsmE.out]] at hsu
 have HW0:=ah hw0;have HW1:=ah hw1;have HGT:=ah hgt;have HSU:=ah hsu;have HWF:=ah hwf
 have q1:=iq n (by have:=HNB.out;omega)
 have q2:=iq sm (by omega)
 have q3:¬c=52:=by omega
 have q4:(52:Int)<=(c:Int):=by omega
 have q5:(12:Int)<=(c:Int):=by omega
 have q6:IntKind.i64.wrap (52:Int)=52:=aG _ (by omega)
 clear hall hwf hw0 hw1 hgt hsu hu52 hrD hSD hS4 hn4 hn24 hn34 hb04 hbD hXl F0 F1 F2 F3 F4 ha1 ha2 ha3 ha4 hsmb hg0 hk1 hk2 hc1 hc2 hg1 hsz1 hglg
 refine aP (fun W=>Keep (fun x=>x=lg) w4.drew W) (fun i=> !([7,14,24,32].contains i)) [0,1,2,3,4,5,6,8,9,7,10,11,12,13,15,16,14,17,18,19,20,21,22,23,25,26,27,28,29,30,31,24,32,33,34,35] rfl (by kernel_rfl) (Keep.refl _ _) ?_
 repeat ((refine bP (v:= ?_) rfl rfl (fun _ _ _ h=>h) rfl (fun W hW=> ?_) ?_);rotate_left;(focus ((try dsimp only at hW);obtain⟨r0,r1,r2,r3,r4⟩:=HALL.out W hW;(go_simp;first|done|with_reducible rfl)));(try simp only[Act.put,ai,ax,au]))
 refine dK rfl rfl rfl ?_;intro K hK;go_simp
 refine HW0.out.mono ?_;rintro e w5 ⟨rfl,hw5⟩;subst w5
 refine hK.out _ _ (Keep.refl _ _) ?_
 repeat ((refine bP (v:= ?_) rfl rfl (fun _ _ _ h=>h) rfl (fun W hW=> ?_) ?_);rotate_left;(focus ((try dsimp only at hW);obtain⟨r0,r1,r2,r3,r4⟩:=HALL.out W hW;(go_simp;first|done|with_reducible rfl)));(try simp only[Act.put,ai,ax,au]))
 refine dK rfl rfl rfl ?_;intro K hK;go_simp
 refine HW1.out.mono ?_;rintro e w5 ⟨rfl,hw5⟩;subst w5
 refine hK.out _ _ (Keep.refl _ _) ?_
 repeat ((refine bP (v:= ?_) rfl rfl (fun _ _ _ h=>h) rfl (fun W hW=> ?_) ?_);rotate_left;(focus ((try dsimp only at hW);obtain⟨r0,r1,r2,r3,r4⟩:=HALL.out W hW;(go_simp;first|done|with_reducible rfl)));(try simp only[Act.put,ai,ax,au]))
 refine dK rfl rfl rfl ?_;intro K hK;go_simp
 refine HGT.out.mono ?_;rintro e w5 ⟨rfl,hw5⟩;subst w5
 refine hK.out _ _ (Keep.refl _ _) ?_
 repeat ((refine bP (v:= ?_) rfl rfl (fun _ _ _ h=>h) rfl (fun W hW=> ?_) ?_);rotate_left;(focus ((try dsimp only at hW);obtain⟨r0,r1,r2,r3,r4⟩:=HALL.out W hW;(go_simp;first|done|with_reducible rfl)));(try simp only[Act.put,ai,ax,au]))
 refine dK rfl rfl rfl ?_;intro K hK;go_simp
 refine HSU.out.mono ?_;rintro e w5 ⟨rfl,c5,hr5,hk5⟩
 refine hK.out _ _ hk5 ?_
 repeat ((refine bP (v:= ?_) rfl rfl (fun _ _ _ h=>h) rfl (fun W hW=> ?_) ?_);rotate_left;(focus ((try dsimp only at hW);obtain⟨r0,r1,r2,r3,r4⟩:=HALL.out W hW;(go_simp;first|done|with_reducible rfl)));(try simp only[Act.put,ai,ax,au]))
 refine bS ?_
 obtain⟨hb04,hg0,hk1,hk2,hl4,hn24,hn34,hn4,hS4,hc1,hc2,hg1,hsz1,hpb1⟩:=HB04.out
 obtain⟨F0,F1,F2,F3,F4⟩:=HF.out
 have hwf:∀W:World,Keep (fun x=>x=lg) w4.drew W->∀i:Nat,i<=4->Calls Tryz.prog 124 #[.int .i64 i,.pointer (some ⟨pb,0,none⟩),.pointer (some ⟨pk,0,none⟩)] W fun e w'=>e= .returned (.int .u64 (rV ((X.drop (12+8*i)).take 8)))/\w'=W:=fun W hk i hi=>by
  obtain⟨r0,r1,r2,r3,_⟩:=HALL.out W hk
  refine OA pb pk g c X i 512 W (by omega) (by omega) r0 r1 HM.out.2.2.2 ?_ hi
  show aX _ _ _ _ X.length _
  rw[HM.out.2.2.2]
  exact(hS4.below (aR w4.heap.size w4).drew).keep fun x hx hl _=>⟨hk.block x hl (fun e=>by
   have:x=g:=by simpa [Value.ownBlock] using hx.symm
   omega),id⟩
 have hv2:=hwf w5 hk5 2 (by omega);have hv4:=hwf w5 hk5 4 (by omega)
 rw[F2] at hv2
 rw[F4] at hv4
 have hr6:=(hr5.setCell 3 (.int .i64 l.start)).setCell 7 (.int .i64 l.last)
 have hr5a:=hr5.setCell 3 (.int .i64 l.start)
 have hr7:=hr6.setCell 6 (.int .i64 l.last)
 have hk6:Keep (fun x=>x=lg) w4.drew ((w5.setCell ⟨lg,3,none⟩ (.int .i64 l.start)).setCell ⟨lg,7,none⟩ (.int .i64 l.last)):=(hk5.setCell (p:=⟨lg,3,none⟩) (.inr rfl) _).setCell (p:=⟨lg,7,none⟩) (.inr rfl) _
 have hk7:=hk6.setCell (p:=⟨lg,6,none⟩) (.inr rfl) (.int .i64 l.last)
 have hv3:=hwf _ hk7 3 (by omega)
 rw[F3] at hv3
 have e7:((w5.setCell ⟨lg,3,none⟩ (.int .i64 l.start)).setCell ⟨lg,7,none⟩ (.int .i64 l.last)).cell? ⟨lg,7,none⟩=some (.int .i64 l.last):=(hr6.cell 7).trans rfl
 have hlt5:=hr5.lt
 have b3:w5.cell? ⟨lg,3,none⟩=some (.int .i64 0):=(hr5.cell 3).trans rfl
 have b6:w5.cell? ⟨lg,6,none⟩=some (.int .i64 0):=(hr5.cell 6).trans rfl
 have b7:w5.cell? ⟨lg,7,none⟩=some (.int .i64 0):=(hr5.cell 7).trans rfl
 have fw3:=hr5.frozen 3
 have fw6:=hr5.frozen 6
 have fw7:=hr5.frozen 7
 have fz3:=hr5.frozen 3
 have fz7:=hr5a.frozen 7
 have fz6:=hr6.frozen 6
 have hl0:l.upTo 0=⟨0,n,l.start,0,[],l.last,l.last,false⟩:=by
  have h1:=HL.out.frm;have h2:=HN.out;have h3:=HL.out.uM;have h4:=HL.out.dead
  unfold Lg.upTo
  cases l
  simp only[iD,iy,List.sum_nil,Lg.mk.injEq] at h1 h2 h3 h4 ⊢
  exact⟨h1,h2,trivial,trivial,trivial,trivial,h3,h4⟩
 have hr7':Row (((w5.setCell ⟨lg,3,none⟩ (.int .i64 l.start)).setCell ⟨lg,7,none⟩ (.int .i64 l.last)).setCell ⟨lg,6,none⟩ (.int .i64 l.last)) lg 224 (iN (iA d (l.upTo 0) (.slice none 0 0)) true c5 []):=by
  rw[hl0];exact hr7
 have HV2:=ah hv2;have HV3:=ah hv3;have HV4:=ah hv4
 have HR7:=ah (aF hr7' hk7)
 have z1:IntKind.i64.wrap (l.start:Int)=(l.start:Int):=aG _ (by omega)
 have z2:IntKind.i64.wrap (l.last:Int)=(l.last:Int):=aG _ (by omega)
 obtain⟨F,hF⟩:∃F,Hid (l.last+1 - bs.length=F):=⟨_,ah rfl⟩
 rw[hF.out] at HV3
 have hFb:1<=F/\F<=l.last+1/\F+bs.length=l.last+1:=by rw[<-hF.out];omega
 obtain⟨hF1,hF2,hF3⟩:=hFb
 have hbn:bs.length<n:=by
  have h1:=Bu bs
  have h2:=HL.out.Ri l.list.length
  rw[HL.out.FH,bR,<-HL.out.FH,Lg.yx HL.out.ok] at h2
  omega
 have z3:IntKind.i64.wrap (F:Int)=(F:Int):=aG _ (by omega)
 have z4:¬(l.start:Int)<0:=by omega
 have z5:IntKind.i64.wrap ((n:Int) - 1)=((n - 1:Nat):Int):=by rw[aG _ (by omega)];omega
 have z6:¬((n - 1:Nat):Int)<=(l.start:Int):=by omega
 have z6b:¬n<=l.start+1:=by omega
 have z7:¬(F:Int)<1:=by omega
 have z8:IntKind.i64.wrap ((l.last:Int)+1)=((l.last+1:Nat):Int):=by rw[aG _ (by omega)];omega
 have z9:¬((l.last+1:Nat):Int)<(F:Int):=by omega
 have z10:IntKind.i64.wrap ((l.last:Int) - (F:Int))=(l.last:Int) - (F:Int):=aG _ (by omega)
 have z11:¬(n:Int)<=(l.last:Int) - (F:Int):=by omega
 have HFF:=ah (aF hF1 (aF hF2 (aF hF3 hbn)))
 have e3:(((w5.setCell ⟨lg,3,none⟩ (.int .i64 l.start)).setCell ⟨lg,7,none⟩ (.int .i64 l.last)).setCell ⟨lg,6,none⟩ (.int .i64 l.last)).cell? ⟨lg,3,none⟩=some (.int .i64 l.start):=(hr7.cell 3).trans rfl
 have e7':(((w5.setCell ⟨lg,3,none⟩ (.int .i64 l.start)).setCell ⟨lg,7,none⟩ (.int .i64 l.last)).setCell ⟨lg,6,none⟩ (.int .i64 l.last)).cell? ⟨lg,7,none⟩=some (.int .i64 l.last):=(hr7.cell 7).trans rfl
 have hl7:=hr7.lt
 clear hwf hv2 hv3 hv4 hr6 hr5a hr7 hk6 hk7 hl0 hr7' F0 F1 F2 F3 F4 hF1 hF2 hF3 hbn hb04 hg0 hk1 hk2 hl4 hn24 hn34 hn4 hS4 hc1 hc2 hg1 hsz1 hpb1 q1 q2 q3 q4 q5 q6 hr5 hk5
 go_wp2_with (first
  |(go_at_call 124;go_must (refine HV2.out.mono ?_;rintro e w6 ⟨rfl,hw6⟩;subst w6;refine Stop.of ?_)))
 refine Stop.on ?_
 go_wp2_with (first
  |(go_at_call 124;go_must (refine HV4.out.mono ?_;rintro e w6 ⟨rfl,hw6⟩;subst w6;refine Stop.of ?_)))
 refine Stop.on ?_
 go_wp2_with (first
  |(go_at_call 124;go_must (refine HV3.out.mono ?_;rintro e w6 ⟨rfl,hw6⟩;subst w6;refine Stop.of ?_)))
 refine Stop.on ?_
 go_upto_region 19 with fail
 obtain⟨w7,HW7⟩:∃w7:World,Hid ((((w5.setCell ⟨lg,3,none⟩ (.int .i64 l.start)).setCell ⟨lg,7,none⟩ (.int .i64 l.last)).setCell ⟨lg,6,none⟩ (.int .i64 l.last))=w7):=⟨_,ah rfl⟩
 obtain⟨hr7,hk7⟩:=HR7.out
 rw[HW7.out] at hr7 hk7 ⊢
 obtain⟨hb04,hg0,hk1,hk2,hl4,hn24,hn34,hn4,hS4,hc1,hc2,hg1,hsz1,hpb1⟩:=HB04.out
 have hb07:Below w.heap.size w w7:=hb04.drew.trans (hk7.ku (aK hb04.drew.size (aC _)) (fun g hg e=>by omega))
 have hlgw:w.heap.size<=lg:=by omega
 have hLg0:o6 w7 (fun x=>x=lg) lg d (l.upTo 0) (.slice none 0 0) true c5:=
  ⟨Lg.Le HL.out.ok 0,fun x hx=>hx▸hr7.lt,rfl,hr7,fun _=>lW.nil _ _ _,fun _ g hg=>by cases hg⟩
 have hA0:iT w7 Sd (fun x=>x=lg) lg d σ (l.upTo 0):=⟨HH.out.below hb07,⟨_,_,_,hLg0⟩,fun x hx e=>by
  have:=HH.out.sub x hx
  omega,by show l.frm+l.n<=σ.n;rw[HNB.out.2.2.2.2.2.2.1,HN.out];omega⟩
 have hst0:Step Sd (fun x=>Sd x\/x=lg) w w7:=⟨Keep.of_below hb07 _,fun x hx=>hx.imp id (fun e=>by rw[e];exact hlgw)⟩
 have HST:=ah (aF hA0 hst0)
 clear hr7 hk7 hb04 hg0 hk1 hk2 hl4 hn24 hn34 hn4 hS4 hc1 hc2 hg1 hsz1 hpb1 hb07 hlgw hLg0 hA0 hst0 b3 b6 b7 fw3 fw6 fw7 fz3 fz7 fz6 e7 e3 e7' hlt5 hl7 z3 z4 z5 z6 z7 z8 z9 z10 z11 z1 z2
 clear HR hz hXX HM HF HB04 HALL HW0 HW1 HGT HSU hsmE HV2 HV3 HV4 HR7 HRd hpb hpk hlg HW2 HW3 HW4 HW7 hmf HWF
 go_loopw [16,17,18,19,20] (fun av iv _ _ _ wr=>∃(i:Nat) (Sl:Nat->Prop) (vs:List Value),i<=bs.length/\iv= .int .i64 ((F+i:Nat):Int)/\Hid (iT wr Sd Sl lg d σ (l.upTo i))/\Hid (mh wr (fun g=>Sd g\/Sl g) w.heap.size av vs (bs.take i))/\Hid (Step Sd (fun g=>Sd g\/Sl g) w wr)) (fun _ iv _ _ _ _=>F+bs.length - (intOf iv).toNat)
 case atStart=>exact⟨0,fun x=>x=lg,[],aT _,rfl,ah HST.out.1,ah (mh.nil _ _ _),ah HST.out.2⟩
 case round=>
  obtain⟨i,Sl,vs,hi,rfl,HA,HRW,HSP⟩:=hrel
  obtain⟨lv,dn,c6,hLr⟩:=HA.out.lg
  obtain⟨d0,d1,d2,d3,d4,d5,d6,d7,d8,hltr,_⟩:=hLr.cells
  have e7:wr.cell? ⟨lg,7,none⟩=some (.int .i64 l.last):=by rw[d7];show some (Value.int .i64 (l.synced:Int))=_;rw[HL.out.uM]
  have e3:wr.cell? ⟨lg,3,none⟩=some (.int .i64 l.start):=d3
  obtain⟨us,hus⟩:∃us,Hid ((l.upTo i).used=us):=⟨_,ah rfl⟩
  have e4:wr.cell? ⟨lg,4,none⟩=some (.int .i64 us):=by rw[d4,hus.out]
  clear d0 d1 d2 d3 d4 d5 d6 d7 d8
  by_cases hib:i<bs.length
  ·obtain⟨hF1,hF2,hF3,hbn⟩:=HFF.out
   have y1:((F+i:Nat):Int)<=(l.last:Int):=by omega
   have hlie:=HL.out.on i hib
   rw[hF.out] at hlie
   obtain⟨Z,p1,p2,p3⟩:=hlie
   have hws:=HL.out.Ri i
   rw[hus.out] at hws
   have hwn:us+dQ bs[i]<=n - 1:=by
    have h1:=DZ bs i hib
    have h2:=zO bs (i+1)
    have h3:=HL.out.Ri l.list.length
    rw[HL.out.FH,bR,<-HL.out.FH,Lg.yx HL.out.ok] at h3
    have:=HNB.out.2.2.2.2.2.2.2
    omega
   obtain⟨at0,hat⟩:∃at0,Hid (l.start+us=at0):=⟨_,ah rfl⟩
   rw[<-hws,hat.out] at p3
   have hst:=HNB.out.2.2.1
   have hhi:=HNB.out.2.1
   obtain⟨nd,hnd⟩:∃nd,Hid (dQ bs[i]=nd):=⟨_,ah rfl⟩
   rw[hnd.out] at hwn
   have hlies:Va σ (l.upTo i) at0 (iH (F+i) bs[i]) Z:=⟨p1,p2,fun j hj=>p3 j hj⟩
   have hbl:(iH (F+i) bs[i]).length<=((l.upTo i).n - 1)*512:=by
    have h1:=tJ (F+i) bs[i]
    rw[hnd.out] at h1
    show _<=(l.n - 1)*512
    rw[HN.out]
    have:nd*512<=(n - 1)*512:=bY _ (by omega)
    omega
   have hwl:=Uz lg d σ (l.upTo i) Sd Sl at0 (F+i) bs[i] Z wr.drew (HA.out.below (aR _ wr).drew) hd hlies (by omega) (by rw[<-hat.out];omega) hbl
   rw[tJ,hnd.out] at hwl
   obtain⟨b,hb⟩:∃b,Hid (bs[i]=b):=⟨_,ah rfl⟩
   rw[hb.out] at hwl
   obtain⟨kk,hkk⟩:∃kk,Hid (F+i=kk):=⟨_,ah rfl⟩
   rw[hkk.out] at hwl y1 ⊢
   have HWL:=ah hwl
   have y2:IntKind.i64.wrap ((l.start:Int)+(us:Int))=(at0:Int):=by rw[aG _ (by omega),<-hat.out];omega
   have hrm:(l.upTo i).room=n - 1 - us:=by
    show l.n - 1 - (l.upTo i).used=_
    rw[hus.out,HN.out]
   have y3:¬((n - 1 - us:Nat):Int)<(nd:Int):=by omega
   obtain⟨un,hun⟩:∃un,Hid (us+nd=un):=⟨_,ah rfl⟩
   have y4:IntKind.i64.wrap ((us:Int)+(nd:Int))=(un:Int):=by rw[aG _ (by omega),<-hun.out];omega
   have y5:IntKind.i64.wrap ((kk:Int)+1)=((kk+1:Nat):Int):=by have:=hkk.out;rw[aG _ (by omega)];omega
   have HI:=ah (aF hib (aF hws (aF hwn (aF hst (aF hhi (aF hF1 (aF hF2 (aF hF3 hbn))))))))
   have HRM:=ah hrm
   obtain⟨ao0,ac0,rfl,_,_,_,_⟩:=aX.form HRW.out.own.dm
   clear p1 p2 p3 hlies hbl hwl hws hwn hst hhi hF1 hF2 hF3 hbn hrm hi hLr
   go_wp2_with fail
   refine aP (fun W=>W.cell? ⟨lg,3,none⟩=some (.int .i64 l.start)/\W.cell? ⟨lg,4,none⟩=some (.int .i64 us)/\lg<W.heap.size) (fun i=> !([11].contains i)) [0,1,2,3,4,5,6,7,8,9,10,11,12,13,14,15,16,17,18] rfl (by kernel_rfl) ⟨e3,e4,hltr⟩ ?_
   repeat ((refine bP (v:= ?_) rfl rfl (fun _ _ _ h=>h) rfl (fun W hW=> ?_) ?_);rotate_left;(focus ((try dsimp only at hW);have r0:=hW.1;have r1:=hW.2.1;have r2:=hW.2.2;(go_simp;first|done|with_reducible rfl)));(try simp only[Act.put,ai,ax,au]))
   refine dK rfl rfl rfl ?_;intro K hK;go_simp
   refine HWL.out.mono ?_;rintro e w2 ⟨v2,rfl,hO2,hA2,hT2⟩
   obtain⟨lv2,dn2,c2',hL2⟩:=hA2.lg
   obtain⟨_,_,_,m3,m4,m5,_,_,_,hlt2,_⟩:=hL2.cells
   have m3':w2.cell? ⟨lg,3,none⟩=some (.int .i64 l.start):=m3
   have m4':w2.cell? ⟨lg,4,none⟩=some (.int .i64 us):=by rw[m4,hus.out]
   refine hK.out _ _ ⟨m3',m4',hlt2⟩ ?_
   repeat ((refine bP (v:= ?_) rfl rfl (fun _ _ _ h=>h) rfl (fun W hW=> ?_) ?_);rotate_left;(focus ((try dsimp only at hW);have r0:=hW.1;have r1:=hW.2.1;have r2:=hW.2.2;(go_simp;first|done|with_reducible rfl)));(try simp only[Act.put,ai,ax,au]))
   refine bS ?_
   have HRO:=ah (Ov lg d (l.upTo i) Sl w2 ⟨_,_,_,hL2⟩)
   rw[HRM.out] at HRO
   have H2:=ah (aF hO2 (aF hA2 (aF hT2 hL2)))
   clear m3 m4 hO2 hA2 hT2 hL2 e3 e4 e7 hltr
   go_wp2_with (first
    |(go_at_call 86;go_must (refine HRO.out.mono ?_;rintro e w3 ⟨rfl,hw3⟩;subst w3;refine Stop.of ?_)))
   refine Stop.on ?_
   obtain⟨hO2,hA2,hT2,hL2⟩:=H2.out
   obtain⟨hib,hws,hwn,hst,hhi,hF1,hF2,hF3,hbn⟩:=HI.out
   have hlist:(l.upTo i).list.length=i:=by show (l.list.take i).length=i;rw[aH,HL.out.FH];omega
   have hof2:=hL2.lst (show (l.upTo i).dead=false from HL.out.dead)
   rw[hlist] at hof2
   have hkE:Keep fZ w2 (w2.drew.alloc (.cells #[.int .i64 kk,.int .i64 nd] 229)):=((Keep.refl fZ w2).drew).alloc _
   have hofE:=hof2.keep (w':=w2.drew.alloc (.cells #[.int .i64 kk,.int .i64 nd] 229)) (fun g hg=>hkE.block g (hof2.lt hg) id)
   have hsrc:Src Tryz.prog 2 204 (.slice (some ⟨w2.heap.size,0,none⟩) 1 1) 1 [.int .i64 kk,.int .i64 nd] (w2.drew.alloc (.cells #[.int .i64 kk,.int .i64 nd] 229)):=gu [.int .i64 kk,.int .i64 nd] _ 2 1 1 rfl xH rfl (fun v hv=>by simp at hv;rcases hv with rfl|rfl<;>rfl)
   have hvo:=hL2.slv (show (l.upTo i).dead=false from HL.out.dead)
   have q5:w2.cell? ⟨lg,5,none⟩=some lv2:=hL2.cells.2.2.2.2.2.1
   have ql:lg<w2.heap.size:=hL2.row.lt
   have HOFE:=ah hofE;have HSRC:=ah hsrc
   have hi9:i<=4096:=by omega
   clear hofE hsrc hof2 hO2 hA2 hT2 m3' m4' hib hws hwn hst hhi hF1 hF2 hF3 hbn
   go_wp2_with (first
    |(at_builtin;go_must (refine JC rfl (.tmp 174) (.tmp 178) 204 204 rfl 229 2 16 _ xH Av rfl lv2 i _ rfl HOFE.out _ 1 _ rfl HSRC.out (by simp only[maxLen];omega) (by omega) ?_;intro ao3 c3 w3 hof3 hk3 how3;refine Stop.of ?_)))
   refine Stop.on ?_
   have hk23:Keep (fun g=>lv2.ownBlock=some g) w2 w3:=(hkE.mono (fun _ _ h=>h.elim)).trans hk3 (fun _ _ h=>h)
   have hnl:¬lv2.ownBlock=some lg:=fun e=>(hvo lg e).2 rfl
   have hr3:Row w3 lg 224 (iN (iA d (l.upTo i) lv2) dn2 c2' []):=hL2.row.keep hk23 hnl
   have hr4:=hr3.setCell 5 (.slice ao3 (i+1) c3)
   have hr5:=hr4.setCell 4 (.int .i64 (un:Int))
   have x4:w3.cell? ⟨lg,4,none⟩=some (.int .i64 us):=(hr3.cell 4).trans (by show some (Value.int .i64 ((l.upTo i).used:Int))=_;rw[hus.out])
   have x5:w3.cell? ⟨lg,5,none⟩=some lv2:=(hr3.cell 5).trans rfl
   have z4:=hr3.frozen 4;have z5:=hr3.frozen 5;have xl:=hr3.lt
   have hk35:Keep (fun g=>g=lg) w3 ((w3.setCell ⟨lg,5,none⟩ (.slice ao3 (i+1) c3)).setCell ⟨lg,4,none⟩ (.int .i64 (un:Int))):=((Keep.refl (fun g=>g=lg) w3).setCell (p:=⟨lg,5,none⟩) (.inr rfl) _).setCell (p:=⟨lg,4,none⟩) (.inr rfl) _
   obtain⟨w5',HW5'⟩:∃w5':World,Hid ((w3.setCell ⟨lg,5,none⟩ (.slice ao3 (i+1) c3)).setCell ⟨lg,4,none⟩ (.int .i64 (un:Int))=w5'):=⟨_,ah rfl⟩
   rw[HW5'.out] at hk35 hr5
   have HR5:=ah (aF hr5 (aF hk35 (aF hk23 (aF hof3 how3))))
   clear hr3 hr4 hr5 hk35 hk23 hof3 how3 hk3 hkE q5 ql hL2
   go_upto_region 28 with fail
   rw[HW5'.out]
   obtain⟨hr5,hk35,hk23,hof3,how3⟩:=HR5.out
   obtain⟨hO2,hA2,hT2,hL2⟩:=H2.out
   obtain⟨hib,hws,hwn,hst,hhi,hF1,hF2,hF3,hbn⟩:=HI.out
   have hent:l.list[i]? =some (kk,nd):=by rw[HL.out.at i hib,hF.out,hkk.out,hnd.out]
   obtain⟨Sn,hSnO,hA5,hk25⟩:=Kj HL.out hib hent (show (l.upTo i).used+nd=un by rw[hus.out];exact hun.out) hA2 hL2 hk23 hof3 how3 hk35 hr5
   obtain⟨hsp5,hrw5,hv5,hS5⟩:=Nb HA.out HSP.out HRW.out hT2 hO2 hk25 hSnO hA5
   have hvs:vs.length<=4096:=by have:=HRW.out.len;rw[aH] at this;omega
   have hwsz:w.heap.size<=w5'.heap.size:=hsp5.1.size
   have hbw:=aO w5' (.cells #[v2] 142)
   have HV5:=ah (aF hA5 (aF hsp5 (aF hrw5 (aF hv5 (aF hS5 hbw)))))
   have HOW:=ah ((hrw5.below hbw).own)
   have HS5:=ah (show ∀g,(Sd g\/Sn g)->g<(w5'.alloc (.cells #[v2] 142)).heap.size from fun g hg=>ak (hS5 g hg) hbw.size)
   have HWS:=ah (aK hwsz hbw.size)
   obtain⟨vo2,vc2,rfl,_,_,_,_⟩:=aX.form hO2.dm
   have HBK:=ah hib
   clear hr5 hk35 hk23 hof3 how3 hO2 hA2 hT2 hL2 hib hws hwn hst hhi hF1 hF2 hF3 hbn hk25 hSnO hent hA5 hsp5 hrw5 hv5 hwsz hS5 hbw hvo hnl x4 x5 z4 z5 xl
   go_wp2_with (first
    |(at_builtin;go_must ((refine cK rfl (.tmp 190) (.tmp 192) 136 136 rfl (fun g=>Sd g\/Sn g) w.heap.size 142 1 24 _ Tryz.underlying136 KA rfl (.slice ao0 vs.length ac0) vs.length vs rfl HOW.out _ 1 _ rfl (gu [_] _ 1 1 1 rfl Tryz.underlying136 rfl ?_) HS5.out HWS.out ?_ ?_ ?_);(focus (simp[Value.oneCell']));(focus (unfold maxLen;omega));(focus omega);intro ao6 c6 w6 hown6 hk6 hb6 hd6)))
   obtain⟨hA5,hsp5,hrw5,hv5,hS5,hbw⟩:=HV5.out
   have hk56:Keep (fun g=>(Value.slice ao0 vs.length ac0).ownBlock=some g) w5' w6:=(Keep.of_below hbw _).trans hk6 (fun _ _ e=>e)
   have hall:∀g,(Value.slice ao0 vs.length ac0).ownBlock=some g->¬(Sd g\/Sn g):=fun g hg=>hrw5.own.2 g hg
   have hA6:iT w6 Sd Sn lg d σ (l.upTo (i+1)):=hA5.keep hk56 (fun g hg e=>hall g e (.inl hg)) (fun g hg e=>hall g e (.inr hg))
   have hR6:mh w6 (fun g=>Sd g\/Sn g) w.heap.size (.slice ao6 (vs.length+1) c6) (vs++[.slice vo2 b.length vc2]) (bs.take i++[b]):=(hrw5.below hbw).app hown6 hk6 (hv5.keep fun g _ hl hs=>⟨hbw.block g hl,hs⟩) hd6
   have hsp6:Step Sd (fun g=>Sd g\/Sn g) w w6:=by
    refine⟨hsp5.1.trans hk56 (fun g hg e=> ?_),hsp5.2⟩
    have:=(hrw5.own.1.lt g e).1
    omega
   have HE:=ah (aF hA6 (aF hR6 hsp6))
   clear hA5 hsp5 hrw5 hv5 hS5 hbw hk56 hall hA6 hR6 hsp6 hown6 hk6 hb6 hd6
   go_roundw
   case rel=>
    refine⟨i+1,Sn,vs++[.slice vo2 b.length vc2],HBK.out,?_,ah HE.out.1,ah ?_,ah HE.out.2.2⟩
    ·rw[<-hkk.out];congr 1
    ·rw[aM HBK.out,hb.out]
     exact HE.out.2.1
   case measure=>
    have h1:=hkk.out;have h2:=HBK.out
    simp[intOf];omega
  ·obtain rfl:i=bs.length:=by omega
   obtain⟨hF1,hF2,hF3,hbn⟩:=HFF.out
   have y1:¬((F+bs.length:Nat):Int)<=(l.last:Int):=by omega
   clear hF1 hF2 hF3 hbn
   go_wp2_with fail
   go_ret3
   have hA:=HA.out
   rw[<-HL.out.FH,Lg.yx HL.out.ok] at hA
   have hR:=HRW.out
   rw[bR] at hR
   exact⟨lg,Sl,_,rfl,hA,⟨vs,hR⟩,HSP.out⟩
inductive RT where
 |done:RT
 |op:Nat->RT->RT
 |fork:Nat->Nat->RT->RT->RT
def RT.Kt:RT->Bool
 | .done=>true
 |_=>false
def RT.depth:RT->Nat
 | .done=>0
 | .op _ t=>t.depth+1
 | .fork _ _ t u=>max t.depth u.depth+1
section
variable {P:Program} {ops:Array Oper} {Q:Exit->Act->World->Prop} {md:Region.Mode} {S:World->Prop}
def RT.ok (md:Region.Mode)(ops:Array Oper)(q:Nat->Bool):RT->Array Bool->Bool
 | .done,listed=>(Region.ready md ops listed).isEmpty
 | .op i t,listed=>
  (if q i then(Region.ready md ops listed).contains i && Region.free md ops listed i
   else(Region.ready md ops listed==[i]) && (!mJ md ops i||t.Kt)) && t.ok md ops q (listed.setIfInBounds i true)
 | .fork i j t u,listed=>(Region.ready md ops listed==[i,j]) && (t.ok md ops q (listed.setIfInBounds i true) && u.ok md ops q (listed.setIfInBounds j true))
def DY (P:Program)(md:Region.Mode)(ops:Array Oper)(Q:Exit->Act->World->Prop)(S:World->Prop)(q:Nat->Bool):RT->Act->World->Prop
 | .done,a,w=>Q .normal a w
 | .op i t,a,w=>
  if q i then ∃o v,ops[i]? =some o/\(∀c a w,Q (.panic c) (a.put o.dst v) w->Q (.panic c) a w)/\YieldsIf P ops S o v a/\DY P md ops Q S q t (a.put o.dst v) w
  else wpOp P ops Q i (fun a' w'=>(mJ md ops i=true\/S w')/\DY P md ops Q S q t a' w') a w
 | .fork i j t u,a,w=>wpOp P ops Q i (fun a' w'=>S w'/\DY P md ops Q S q t a' w') a w/\wpOp P ops Q j (fun a' w'=>S w'/\DY P md ops Q S q u a' w') a w
theorem pQ (hs:Region.noSelect ops=true){q:Nat->Bool}:∀(t:RT) (fuel:Nat) (listed:Array Bool) (a:Act) (w:World),pY md ops listed->
  t.ok md ops q listed=true->t.depth<=fuel->(t= .done\/S w)->DY P md ops Q S q t a w->sZ P md ops Q S fuel listed a w
 | .done,fuel,listed,a,w,_,hok,_,_,h=>by
  have h0:Region.ready md ops listed=[]:=by simpa [RT.ok] using hok
  cases fuel with
  |zero=>exact⟨h0,h⟩
  |succ fuel=>exact⟨fun _=>h,fun i hi=>by rw[h0] at hi;cases hi⟩
 | .op i t,0,_,_,_,_,_,hf,_,_=>absurd hf (by simp[RT.depth])
 | .fork i j t u,0,_,_,_,_,_,hf,_,_=>absurd hf (by simp[RT.depth])
 | .op i t,fuel+1,listed,a,w,hsh,hok,hf,hSw,h=>by
  have hS:S w:=hSw.resolve_left (by simp)
  have hf':t.depth<=fuel:=by simp only[RT.depth] at hf;omega
  simp only[RT.ok,dN] at hok
  obtain⟨hi,hrest⟩:=hok
  by_cases hq:q i=true
  ·simp only[hq,iI,dN] at hi
   simp only[DY,hq,iI] at h
   obtain⟨o,v,ho,hQ,hy,h⟩:=h
   exact sW ho (QY hs) hQ fuel listed a w hsh (Region.free_spec ho hi.2) (by simpa using hi.1) hy hS
    (pQ hs t fuel _ _ _ (hsh.set (by simpa using hi.1)) hrest hf' (.inr hS) h)
  ·rw[if_neg hq,dN,qy] at hi
   simp only[DY] at h
   rw[if_neg hq] at h
   have hr:Region.ready md ops listed=[i]:=by simpa using hi.1
   refine⟨fun h0=>(by rw[hr] at h0;cases h0),fun j hj=> ?_⟩
   rw[hr] at hj
   obtain rfl:j=i:=by simpa using hj
   refine yt (fun a' w' h3=>⟨h3.1,pQ hs t fuel _ _ _ (hsh.set (by rw[hr];exact bO.2 rfl)) hrest hf' ?_ h3.2⟩) h
   rcases h3.1 with hw|hS'
   ·have:=hi.2
    simp only[hw] at this
    refine .inl ?_
    cases t with
    |done=>rfl
    |op i t=>simp[RT.Kt] at this
    |fork i j t u=>simp[RT.Kt] at this
   ·exact .inr hS'
 | .fork i j t u,fuel+1,listed,a,w,hsh,hok,hf,_,h=>by
  have hf':t.depth<=fuel/\u.depth<=fuel:=by simp only[RT.depth] at hf;omega
  simp only[RT.ok,dN,qy] at hok
  obtain⟨hr,hi,hj⟩:=hok
  simp only[DY] at h
  refine⟨fun h0=>(by rw[hr] at h0;cases h0),fun k hk=> ?_⟩
  have hk':=hk
  rw[hr] at hk'
  rcases bM.1 hk' with rfl|hk'
  ·exact yt (fun a' w' h3=>⟨.inr h3.1,pQ hs t fuel _ _ _ (hsh.set hk) hi hf'.1 (.inr h3.1) h3.2⟩) h.1
  ·obtain rfl:k=j:=by simpa using hk'
   exact yt (fun a' w' h3=>⟨.inr h3.1,pQ hs u fuel _ _ _ (hsh.set hk) hj hf'.2 (.inr h3.1) h3.2⟩) h.2
theorem Gi {id:Nat}{a:Act}{w:World}(S:World->Prop)(q:Nat->Bool)(t:RT)(hm:P.follows .mixedOrders=true)(hok:(Region.noSelect ops && decide (t.depth<=ops.size) && t.ok .any ops q (Array.replicate ops.size false))=true)
  (hS:S w.drew) (h:DY P .any ops Q S q t a w.drew):(Code.region id ops true).wp P Q a w:=by
 simp only[dN,eZ] at hok
 exact wp_region_any hm (sV _ _ _ _ (pQ hok.1.1 t _ _ _ _ pY.replicate hok.2 hok.1.2 (.inr hS) h))
theorem JN {q:Nat->Bool}{a:Act}{w:World}(h:Q .normal a w):DY P md ops Q S q .done a w:=h
theorem Tn {q:Nat->Bool}{i:Nat}{t:RT}{a:Act}{w:World}{o:Oper}{v:Value}(hq:q i=true)(hi':ops.toList[i]? =some o)(hQ:∀c a w,Q (.panic c) (a.put o.dst v) w->Q (.panic c) a w)
  (hw:Region.wanted o (yielded ops a.tmps)=true) (hy:∀W,S W->(execOp a.eval o).run P W= .ok (.value v) W) (h:DY P md ops Q S q t (a.put o.dst v) w):DY P md ops Q S q (.op i t) a w:=by
 have hi:ops[i]? =some o:=by rw[<-gK];exact hi'
 simp only[DY,hq,iI];exact⟨o,v,hi,hQ,.inl ⟨hw,hy⟩,h⟩
theorem JO {q:Nat->Bool}{i:Nat}{t:RT}{a:Act}{w:World}{o:Oper}(hq:q i=false)(hi':ops.toList[i]? =some o)(hw:Region.wanted o (yielded ops a.tmps)=true)
  (h:∀K:Act->World->Prop,Shut (∀a w,S w->DY P md ops Q S q t a w->K a w)->o.wp P a w K Q):DY P md ops Q S q (.op i t) a w:=by
 have hi:ops[i]? =some o:=by rw[<-gK];exact hi'
 simp only[DY,hq,wpOp,hi,hw,iI]
 exact .inl (h _ (fun a w hS hW=>⟨.inr hS,hW⟩))
theorem Lf {q:Nat->Bool}{i j:Nat}{t u:RT}{a:Act}{w:World}{o p:Oper}(hi':ops.toList[i]? =some o)(hw:Region.wanted o (yielded ops a.tmps)=true)(hj':ops.toList[j]? =some p)(hw2:Region.wanted p (yielded ops a.tmps)=true)
  (h:∀K:Act->World->Prop,Shut (∀a w,S w->DY P md ops Q S q t a w->K a w)->o.wp P a w K Q)
  (h2:∀K:Act->World->Prop,Shut (∀a w,S w->DY P md ops Q S q u a w->K a w)->p.wp P a w K Q):DY P md ops Q S q (.fork i j t u) a w:=by
 have hi:ops[i]? =some o:=by rw[<-gK];exact hi'
 have hj:ops[j]? =some p:=by rw[<-gK];exact hj'
 simp only[DY,wpOp,hi,hw,hj,hw2,iI]
 exact⟨.inl (h _ (fun a w hS hW=>⟨hS,hW⟩)),.inl (h2 _ (fun a w hS hW=>⟨hS,hW⟩))⟩
end
def rR (ims:List Im):Im:=ims.foldl Im.over Im.none
theorem FL (ims:List Im)(im:Im):rR (ims++[im])=(rR ims).over im:=by unfold rR;rw[uH];rfl
def partOf (m im:Im)(j:Nat):Im:=(im.ks.take j).foldl (fun m b=>m.put b (im.img b)) m
theorem uY (m im:Im)(j:Nat)(hj:j<im.ks.length):partOf m im (j+1)=(partOf m im j).put im.ks[j] (im.img im.ks[j]):=by
 unfold partOf
 rw[aM hj,uH];rfl
theorem Kh (m im:Im):partOf m im im.ks.length=m.over im:=by unfold partOf;rw[bR];rfl
theorem CK {ims:List Im}{n:Nat}(h:∀im∈ims,im.Oj n):(rR ims).Ok n:=by
 suffices ∀(ims:List Im) (m:Im),m.Ok n->(∀im∈ims,im.Oj n)->(ims.foldl Im.over m).Ok n from this ims _ (Im.Ok.none n) h
 intro ims
 induction ims with
 |nil=>intro m hm _;exact hm
 |cons im r ih=>intro m hm hb;exact ih _ (hm.over (hb im (bg ..)).ok) fun x hx=>hb x (aW _ hx)
theorem Ki (m im:Im)(b:Nat):(m.over im).find b=(im.find b).or (m.find b):=by
 have e:(m.over im).find b=if b∈im.ks then some (im.img b) else m.find b:=by
  unfold Im.find Im.over
  rw[Im.vD]
  simp only[Im.wR]
  by_cases h:b∈im.ks
  ·simp[h]
  ·simp[h]
 rw[e]
 by_cases h:b∈im.ks
 ·have:im.find b=some (im.img b):=if_pos h
  rw[if_pos h,this];rfl
 ·have:im.find b=none:=if_neg h
  rw[if_neg h,this];rfl
theorem FM (ims:List Im)(b:Nat):(rR ims).find b=findAll ims b:=by
 suffices ∀(ims:List Im) (m:Im) (o:Option (List UInt8)),m.find b=o->(ims.foldl Im.over m).find b=ims.foldl (fun o im=>(im.find b).or o) o from this ims _ _ rfl
 intro ims
 induction ims with
 |nil=>intro m o h;exact h
 |cons im r ih=>intro m o h;exact ih _ _ (by rw[Ki,h])
def Pg.laid (n:Nat)(ims:List Im):Pg:={Pg.new n with fresh:=rR ims}
theorem Ru {b:Nat}{x:List UInt8}(h:x.length=512):(uK b x).length=516:=by unfold uK;rw[ay,bW,h]
theorem Tv {a:ByteArray}{l:List UInt8}(h:a.data.toList=l):a=strOf l:=by
 cases a
 exact congrArg ByteArray.mk (Array.ext' (by rw[h]))
theorem uN {o:Oper}{a:Act}{W:World}{K:Act->World->Prop}{Q:Exit->Act->World->Prop}(x:Operand)(ho:o.op= .load 143 x)(g off:Nat)(hx:a.eval x= .pointer (some ⟨g,off,none⟩))(l:List UInt8)(hl:l.length=512)(hc:W.rangeAt g off (aI l))(hK:K (a.put o.dst (.agg (aI l).toArray)) W):o.wp Tryz.prog a W K Q:=by
 unfold Oper.wp
 rw[kV 143 x ho g off hx (aI l) _ hc Jz rfl (kH.trans (congrArg some (by rw[bL,hl])))]
 exact hK
theorem Cm {w W:World}{Sd Sl Sp:Nat->Prop}{pg lg d fb:Nat}{σ:Dk}{l:Lg}{p:Pg}{op:Value}(hP:xD w Sd Sl Sp pg lg d fb σ l p op)(hb:Below w.heap.size w W):
  ∃D,W.ownsMap Tryz.prog 3 rI fb 5000 D/\∀(k:Nat) (x:List UInt8) (w':World),k<σ.n - p.skip->x.length=512->w'.ownsMap Tryz.prog 3 rI fb 5001 (D.put (kI k) (.lit (.string x)))->W.grownBy w' (some fb)->xD w' Sd Sl Sp pg lg d fb σ l {p with fresh:=p.fresh.put k x} op/\Keep (fun g=>g=fb) w w':=by
 have hPW:=hP.keep (Keep.of_below hb fZ) (fun _ _ e=>e)
 have hi:=hP.log.dk.ok.hi
 obtain⟨D,hD,hs,h0,h1,h2⟩:=hPW.fr
 refine⟨D,hD,fun k x w' hk hx ho hg=> ?_⟩
 have hkp:=Keep.sH hg
 refine⟨hPW.fresh hkp _ (kX.put hP.ok.fresh (by omega) k x hk hD hs h0 h1 h2 ho) (hP.ok.fresh.put k x hk hx),(Keep.of_below hb _).trans hkp (fun _ _ e=>e)⟩
theorem Cg {W:World}{S:Nat->Prop}{g n c:Nat}{cs:List Value}(h:aX W S 1 (.slice (some ⟨g,0,none⟩) n c) n cs):W.rangeAt g 0 cs:=fun j v hv=>by
 obtain⟨b,o,e,hc⟩:=h.DU rfl j v hv
 cases e
 exact hc
theorem UM (d:Nat)(σ:Dk)(Sd:Nat->Prop)(n:Nat)(l:Lg)(ims:List Im)(w:World)(h:rD w Sd d σ)(hd:σ.dead=false)(hL:qw σ.get l (gF ims))(hn:l.n=n)(h2:2<=n)(hfit:n<σ.n)(hbat:∀im∈ims,im.Oj (σ.n - n))(hcap:σ.waits.length<=90000)(hll:l.last<1000000000000):
  Calls Tryz.prog 38 #[.pointer (some ⟨d,0,none⟩),.int .i64 n] w fun e w'=>∃pg S',e=(if ((Pg.laid n ims).home σ l).2.2.2=0 then .returned (.tuple #[.pointer (some ⟨pg,0,none⟩),.int .i64 0]) else .returned (.tuple #[.pointer none,.int .i64 ((Pg.laid n ims).home σ l).2.2.2]))/\
   jh w' S' pg d ((Pg.laid n ims).home σ l).1 ((Pg.laid n ims).home σ l).2.1 ((Pg.laid n ims).home σ l).2.2.1 (.pointer none)/\Step Sd S' w w':=by
 have hck:=Px d σ Sd n w h
 rw[if_neg (by omega)] at hck
 have HC:=ah hck;clear hck
 have hi:=h.ok.hi
 have HO:=ah (Ux d σ Sd n l (gF ims) w h hd hL hn (by omega) hll)
 have hfrm:=hL.frm
 have HLN:=ah (show ims.length<=4096 by
  have h1:=Bu (gF ims)
  have h2:=hL.Ri l.list.length
  rw[hL.FH,bR,<-hL.FH,Lg.yx hL.ok] at h2
  have h3:=hL.ok.us
  rw[dD] at h1
  omega)
 have HBT:=ah hbat;have HL:=ah (aF hfrm hn)
 clear h hL hfrm hbat
 obtain⟨σ9,l9,p9,q,HQ⟩:∃σ9 l9 p9 q,Hid ((Pg.laid n ims).home σ l=(σ9,l9,p9,q)):=⟨_,_,_,_,ah rfl⟩
 rw[HQ.out]
 dsimp only
 go_enter Tryz.func38,Tryz.ntmps38
 go_wp2_with (first
  |(go_at_call 74;go_must (refine HC.out.mono ?_;rintro e w1 ⟨rfl,hw1⟩;subst w1)))
 go_wp2_with (first
  |(go_at_call 75;go_must (refine HO.out.mono ?_;rintro e w2 ⟨lg,Sl,av,vs,rfl,hA2,hR2,hS2⟩;refine Stop.of ?_)))
 refine Stop.on ?_
 obtain⟨ao,ac,rfl,_,_,_,_⟩:=aX.form hR2.own.dm
 have hb:=Cj n hA2 HL.out.1 HL.out.2 hfit h2
 have hmk:∀w:World,(Instr.makeMap 139 none).run Tryz.prog w= .ok (.map (some w.heap.size)) (w.alloc (.map #[] 0)):=fun w=>run_makeMap _ w
 have e1:IntKind.i64.wrap ((n:Int) - 1)=((n - 1:Nat):Int):=by rw[aG _ (by omega)];omega
 obtain⟨w3,HW3⟩:∃w3:World,Hid ((w2.alloc (.map #[] 0)).alloc (.cells #[.pointer (some ⟨d,0,none⟩),.pointer (some ⟨lg,0,none⟩),.int .i64 n,.int .i64 ((n - 1:Nat):Int),.map (some w2.heap.size),.pointer none,.bool false] 141)=w3):=⟨_,ah rfl⟩
 rw[HW3.out] at hb
 obtain⟨pg,hpg⟩:∃pg,Hid (w2.heap.size+1=pg):=⟨_,ah rfl⟩
 rw[hpg.out] at hb
 obtain⟨⟨Sd3,Sl3,Sp3,lg3,fb,hP3,hS3⟩,hst3⟩:=hb
 have hb23:Below w2.heap.size w2 w3:=by rw[<-HW3.out];exact ic w2 _ _
 obtain⟨N,hN⟩:∃N,Hid (σ.n - n=N):=⟨_,ah rfl⟩
 have hrw3:mh w3 (fun g=>(Sd g\/Sl g)\/w2.heap.size<=g) w.heap.size (.slice ao vs.length ac) vs (gF ims):=hR2.keep (Keep.of_below hb23 _) fun g hg=>hg
 have hfb3:w2.heap.size<=fb/\fb≠pg:=by
  have ho:w3.heap[pg]? =some (.cells #[.pointer (some ⟨d,0,none⟩),.pointer (some ⟨lg,0,none⟩),.int .i64 n,.int .i64 ((n - 1:Nat):Int),.map (some w2.heap.size),.pointer none,.bool false] 141 (0,0)):=by
   rw[<-HW3.out,<-hpg.out]
   have:=bD (w2.alloc (.map #[] 0)) (.cells #[.pointer (some ⟨d,0,none⟩),.pointer (some ⟨lg,0,none⟩),.int .i64 n,.int .i64 ((n - 1:Nat):Int),.map (some w2.heap.size),.pointer none,.bool false] 141)
   rwa [aS] at this
  have he:=yu (hP3.obj.symm.trans ho)
  have hfe:fb=w2.heap.size:=by
   injection he with he _ _
   have:=congrArg (fun a:Array Value=>a[4]?) he
   simpa using this
  have:=hpg.out
  omega
 have HR3:=ah (aF hrw3 (aF hP3 (aF hS3 (aF hst3 (aF hfb3 (aF hS2 hb23))))))
 have hvl:=hR2.len
 rw[dD] at hvl
 have HVL:=ah hvl
 have hlen9:=HLN.out
 clear hA2 hR2 hS2 hP3 hS3 hst3 hb23 hrw3 hfb3 hvl
 go_upto_region 9 with fail
 rw[HW3.out,hpg.out]
 go_loopw [42] (fun iv wr=>∃i:Nat,i<=ims.length/\iv= .int .i64 i/\Hid (xD wr Sd3 Sl3 Sp3 pg lg3 d fb σ l {Pg.new n with fresh:=rR (ims.take i)} (.pointer none))/\Hid (Keep (fun g=>g=fb) w3 wr)) (fun iv _=>ims.length - (intOf iv).toNat)
 case atStart=>exact⟨0,aT _,rfl,ah HR3.out.2.1,ah (Keep.refl _ _)⟩
 case round=>
  obtain⟨i,hi0,rfl,HP,HK⟩:=hrel
  by_cases hib:i<ims.length
  ·have y1:(i:Int)<(vs.length:Int):=by have:=HVL.out;omega
   have hrw:=HR3.out.1.keep (HK.out.mono (fun g _ e=> .inr (by rw[e];exact HR3.out.2.2.2.2.1.1))) (fun g hg=> .inl hg)
   obtain⟨u,hu,hur⟩:=hrw.row i (by rw[dD];exact hib)
   obtain⟨ab,af,rfl,hcu⟩:=hrw.own.dm.DU rfl i u hu
   have hla:=aD wr _ hcu
   obtain⟨im,him⟩:∃im,Hid (ims[i]=im):=⟨_,ah rfl⟩
   have hbi:(gF ims)[i]'(by rw[dD];exact hib)=im.bF:=by rw[<-him.out];simp[gF]
   rw[hbi] at hur
   have hbl:im.bF.length=im.ks.length:=by simp[Im.bF]
   rw[hbl] at hur
   obtain⟨uo,uc,rfl,_,_,_,_⟩:=aX.form hur
   have hbat:=HBT.out im (by rw[<-him.out];exact bE hib)
   rw[hN.out] at hbat
   have hk9:=hbat.hi
   obtain⟨m0,hm0⟩:∃m0,Hid (rR (ims.take i)=m0):=⟨_,ah rfl⟩
   have hm0ok:m0.Ok N:=by
    rw[<-hm0.out,<-hN.out]
    exact CK fun x hx=>HBT.out x (eO hx)
   have HU:=ah (aF hur (aF hbat (aF hm0ok (aF hib hu))))
   have HP0:=HP
   rw[hm0.out] at HP0
   clear hrw hu hur hbi hbl hbat hm0ok
   obtain⟨wi,HWI⟩:∃x:World,Hid (wr=x):=⟨_,ah rfl⟩
   go_upto_region 12 with fail
   go_loopw [48] (fun jv wk=>∃j:Nat,j<=im.ks.length/\jv= .int .i64 j/\Hid (xD wk Sd3 Sl3 Sp3 pg lg3 d fb σ l {Pg.new n with fresh:=partOf m0 im j} (.pointer none))/\Hid (Keep (fun g=>g=fb) w3 wk)) (fun jv _=>im.ks.length - (intOf jv).toNat)
   case atStart=>exact⟨0,aT _,rfl,HP0,HK⟩
   case round=>
    obtain⟨j,hj0,rfl,HPj,HKj⟩:=hrel
    by_cases hjb:j<im.ks.length
    ·have y2:(j:Int)<(im.ks.length:Int):=by omega
     obtain⟨hur,hbat,hm0ok,hib',hu9⟩:=HU.out
     have hkb:Keep (fun g=>(Sd g\/Sl g)\/w2.heap.size<=g) w3 wr:=HKj.out.mono (fun g _ e=> .inr (by rw[e];exact HR3.out.2.2.2.2.1.1))
     have hrw:=HR3.out.1.keep hkb (fun g hg=> .inl hg)
     have hur2:aX wr fZ 1 (.slice uo im.ks.length uc) im.ks.length (BK im.bF):=by
      obtain⟨u,hu,hr⟩:=hrw.row i (by rw[dD];exact hib)
      rw[hu9] at hu
      obtain rfl:=yu hu
      have hbi:(gF ims)[i]'(by rw[dD];exact hib)=im.bF:=by rw[<-him.out];simp[gF]
      have hbl:im.bF.length=im.ks.length:=by simp[Im.bF]
      rw[hbi,hbl] at hr
      exact hr.keep fun g _ _ _=>⟨rfl,id⟩
     obtain⟨kb,hkb'⟩:∃kb,Hid (im.ks[j]=kb):=⟨_,ah rfl⟩
     have hmem:kb∈im.ks:=by rw[<-hkb'.out];exact bE hjb
     have hkN:=hbat.ok.hi kb hmem
     have hxl:=hbat.ok.img kb hmem
     obtain⟨x,hx⟩:∃x,Hid (im.img kb=x):=⟨_,ah rfl⟩
     rw[hx.out] at hxl
     have hcs:(BK im.bF)[j]? =some (.string (strOf (uK kb x))):=by
      unfold BK Im.bF
      rw[eG,eG,eG,bG hjb,hkb'.out]
      rw[<-hx.out];rfl
     obtain⟨rb,ro,rfl,hcr⟩:=hur2.DU rfl j _ hcs
     have hlr:=aD wr _ hcr
     have hsz:(strOf (uK kb x)).size=516:=by show (uK kb x).toArray.size=516;simp[Ru hxl]
     have hex:(strOf (uK kb x)).extract 4 516=strOf x:=by
      refine Tv ?_
      rw[Gh,Mt]
      show ((uK kb x).drop 4).take (516 - 4)=x
      unfold uK
      rw[fI (bW _ 4),aJ (by omega)]
     have hnum:=fun W=>RG (b8 kb) (b8 (kb/256)) (b8 (kb/256/256)) (b8 (kb/256/256/256)) x W
     have hle:rV [b8 kb,b8 (kb/256),b8 (kb/256/256),b8 (kb/256/256/256)]=kb:=pV 4 kb (by have:=hN.out;omega)
     rw[hle] at hnum
     have hnum2:∀W,Calls Tryz.prog 76 #[.string (strOf (uK kb x))] W fun e w'=>e= .returned (.int .i64 kb)/\w'=W.drew:=hnum
     have hysz:(strOf x).size=512:=by show x.toArray.size=512;simp[hxl]
     have hyd:(strOf x).data.toList=x:=rfl
     obtain⟨s,hs⟩:∃s,Hid (strOf (uK kb x)=s):=⟨_,ah rfl⟩
     obtain⟨y,hy⟩:∃y,Hid (strOf x=y):=⟨_,ah rfl⟩
     rw[hs.out] at hcr hsz hex hnum2
     rw[hy.out] at hex hysz hyd
     have HNUM:=ah hnum2
     have hPB:=fun W (hb:Below wr.heap.size wr W)=>yM pg d σ l _ _ _ W ((xD.pack HPj.out).below hb)
     have hNb:({Pg.new n with fresh:=partOf m0 im j}:Pg).blocks σ=N:=hN.out
     rw[hNb] at hPB
     have HPB:=ah (hPB wr.drew (aR wr.heap.size wr).drew)
     have y3:¬(N:Int)<=(kb:Int):=by omega
     obtain⟨c0,c1,c2,c3,c4,c5,c6,hlp,hfp⟩:=HPj.out.cells
     have HX:=ah (aF hmem (aF hxl (aF hyd (aF hysz (aF hkN hle)))))
     clear hur hbat hm0ok hib' hu9 hkb hrw hur2 hmem hkN hcs hnum hnum2 hPB hNb hle hxl hyd c0 c1 c2 c3 c5 c6
     go_wp2_with (first
      |(go_at_call 76;go_must (refine(HNUM.out _).mono ?_;rintro e w6 ⟨rfl,hw6⟩;subst w6))
      |(go_at_call 42;go_must (refine HPB.out.mono ?_;rintro e w6 ⟨rfl,hw6⟩;subst w6;refine Stop.of ?_)))
     refine Stop.on ?_
     have hval:=GY x HX.out.2.1
     have harr:∀(g c:Nat) (W:World),(Instr.arrayAt 143 (.slice (some ⟨g,0,none⟩) 512 c)).run Tryz.prog W= .ok (.pointer (some ⟨g,0,none⟩)) W:=fun g c W=>by kernel_rfl
     have HY3:=ah hjb
     have hkN:=HX.out.2.2.2.2.1
     have hb3:Below wr.heap.size wr wr.drew.drew.drew:=(((aR wr.heap.size wr).drew).drew).drew
     go_wp2_with fail
     refine Gi (fun W=>W.cell? ⟨pg,4,none⟩=some (.map (some fb))/\pg<W.heap.size) (fun i=> !([5,8,10,11].contains i)) (.op 0 (.op 1 (.op 2 (.op 3 (.op 4 (.op 6 (.op 7 (.fork 5 8 (.op 8 (.op 9 (.op 10 (.op 11 .done)))) (.op 9 (.fork 5 10 (.op 10 (.op 11 .done)) (.op 5 (.op 11 .done)))))))))))) rfl (by kernel_rfl) ⟨c4,hlp⟩ ?_
     repeat ((refine Tn (v:= ?_) rfl rfl (fun _ _ _ h=>h) rfl (fun W hW=> ?_) ?_);rotate_left;(focus ((try dsimp only at hW);have r0:=hW.1;have r1:=hW.2;(go_simp;first|done|with_reducible rfl)));(try simp only[Act.put,ai,ax,au]))
     refine Lf rfl rfl rfl rfl ?_ ?_
     ·intro K hK;go_simp
      refine(HNUM.out _).mono ?_;rintro e w6 ⟨rfl,hw6⟩;subst w6
      refine hK.out _ _ ⟨c4,hlp⟩ ?_
      refine JO rfl rfl rfl ?_;intro K hK
      obtain⟨c8,w8,hcv,hpv,hb8⟩:=C8 y wr.drew.drew.drew.drew (by omega)
      rw[hysz] at hcv hpv
      rw[HX.out.2.2.1] at hpv
      have hb48:Below wr.heap.size wr w8:=hb3.drew.trans (hb8.mono hb3.drew.size)
      refine Bq 9 70 (.tmp 69) rfl y rfl _ hcv ?_
      refine hK.out _ _ ⟨(hb48.cell (p:=⟨pg,4,none⟩) hlp).trans c4,ak hlp hb48.size⟩ ?_
      repeat ((refine Tn (v:= ?_) rfl rfl (fun _ _ _ h=>h) rfl (fun W hW=> ?_) ?_);rotate_left;(focus ((try dsimp only at hW);have r0:=hW.1;have r1:=hW.2;(go_simp;first|done|with_reducible rfl)));(try simp only[Act.put,ai,ax,au]))
      refine JO rfl rfl rfl ?_;intro K hK
      refine uN (.tmp 71) rfl _ 0 rfl x HX.out.2.1 (Cg (by rw[HX.out.2.1] at hpv;exact hpv)) ?_
      refine hK.out _ _ ⟨(hb48.cell (p:=⟨pg,4,none⟩) hlp).trans c4,ak hlp hb48.size⟩ ?_
      refine JO rfl rfl rfl ?_;intro K hK
      obtain⟨D,hD,hput⟩:=Cm HPj.out hb48
      refine ni _ _ _ 139 rfl 3 143 jk fC rI fb 5000 D rfl hD (by simp[maxLen]) _ _ (kI kb) rfl rfl (nR kb (tq (kb:Int) (by omega) (by have:=hN.out;omega))) (.lit (.string x)) [] hval ?_
      intro w9 ho9 hg9
      obtain⟨hP9,hk9⟩:=hput kb x w9 (by have:=hN.out;show kb<σ.n - n;omega) HX.out.2.1 ho9 hg9
      have HE9:=ah (aF hP9 (HKj.out.trans hk9 (fun _ _ e=>e)))
      refine hK.out _ _ ⟨hP9.cells.2.2.2.2.1,hP9.cells.2.2.2.2.2.2.2.1⟩ ?_
      refine JN ?_
      clear hP9 hk9 ho9 hg9 hput hD
      go_wp2_with fail
      go_roundw
      case rel=>exact⟨j+1,HY3.out,by go_num,by rw[uY m0 im j HY3.out,hkb'.out,hx.out];exact ah HE9.out.1,ah HE9.out.2⟩
      case measure=>have:=HY3.out;simp[intOf];omega
     ·intro K hK
      obtain⟨c8,w8,hcv,hpv,hb8⟩:=C8 y wr.drew.drew.drew (by omega)
      rw[hysz] at hcv hpv
      rw[HX.out.2.2.1] at hpv
      have hb48:Below wr.heap.size wr w8:=hb3.trans (hb8.mono hb3.size)
      refine Bq 9 70 (.tmp 69) rfl y rfl _ hcv ?_
      refine hK.out _ _ ⟨(hb48.cell (p:=⟨pg,4,none⟩) hlp).trans c4,ak hlp hb48.size⟩ ?_
      repeat ((refine Tn (v:= ?_) rfl rfl (fun _ _ _ h=>h) rfl (fun W hW=> ?_) ?_);rotate_left;(focus ((try dsimp only at hW);have r0:=hW.1;have r1:=hW.2;(go_simp;first|done|with_reducible rfl)));(try simp only[Act.put,ai,ax,au]))
      refine Lf rfl rfl rfl rfl ?_ ?_
      ·intro K hK;go_simp
       refine(HNUM.out _).mono ?_;rintro e w6 ⟨rfl,hw6⟩;subst w6
       refine hK.out _ _ ⟨(hb48.cell (p:=⟨pg,4,none⟩) hlp).trans c4,ak hlp hb48.size⟩ ?_
       refine JO rfl rfl rfl ?_;intro K hK
       refine uN (.tmp 71) rfl _ 0 rfl x HX.out.2.1 (Cg (W:=w8.drew) (by rw[HX.out.2.1] at hpv;exact hpv)) ?_
       refine hK.out _ _ ⟨(hb48.cell (p:=⟨pg,4,none⟩) hlp).trans c4,ak hlp hb48.size⟩ ?_
       refine JO rfl rfl rfl ?_;intro K hK
       obtain⟨D,hD,hput⟩:=Cm HPj.out hb48.drew
       refine ni _ _ _ 139 rfl 3 143 jk fC rI fb 5000 D rfl hD (by simp[maxLen]) _ _ (kI kb) rfl rfl (nR kb (tq (kb:Int) (by omega) (by have:=hN.out;omega))) (.lit (.string x)) [] hval ?_
       intro w9 ho9 hg9
       obtain⟨hP9,hk9⟩:=hput kb x w9 (by have:=hN.out;show kb<σ.n - n;omega) HX.out.2.1 ho9 hg9
       have HE9:=ah (aF hP9 (HKj.out.trans hk9 (fun _ _ e=>e)))
       refine hK.out _ _ ⟨hP9.cells.2.2.2.2.1,hP9.cells.2.2.2.2.2.2.2.1⟩ ?_
       refine JN ?_
       clear hP9 hk9 ho9 hg9 hput hD
       go_wp2_with fail
       go_roundw
       case rel=>exact⟨j+1,HY3.out,by go_num,by rw[uY m0 im j HY3.out,hkb'.out,hx.out];exact ah HE9.out.1,ah HE9.out.2⟩
       case measure=>have:=HY3.out;simp[intOf];omega
      ·intro K hK
       refine uN (.tmp 71) rfl _ 0 rfl x HX.out.2.1 (Cg (by rw[HX.out.2.1] at hpv;exact hpv)) ?_
       refine hK.out _ _ ⟨(hb48.cell (p:=⟨pg,4,none⟩) hlp).trans c4,ak hlp hb48.size⟩ ?_
       refine JO rfl rfl rfl ?_;intro K hK;go_simp
       refine(HNUM.out _).mono ?_;rintro e w6 ⟨rfl,hw6⟩;subst w6
       refine hK.out _ _ ⟨(hb48.cell (p:=⟨pg,4,none⟩) hlp).trans c4,ak hlp hb48.size⟩ ?_
       refine JO rfl rfl rfl ?_;intro K hK
       obtain⟨D,hD,hput⟩:=Cm HPj.out hb48.drew
       refine ni _ _ _ 139 rfl 3 143 jk fC rI fb 5000 D rfl hD (by simp[maxLen]) _ _ (kI kb) rfl rfl (nR kb (tq (kb:Int) (by omega) (by have:=hN.out;omega))) (.lit (.string x)) [] hval ?_
       intro w9 ho9 hg9
       obtain⟨hP9,hk9⟩:=hput kb x w9 (by have:=hN.out;show kb<σ.n - n;omega) HX.out.2.1 ho9 hg9
       have HE9:=ah (aF hP9 (HKj.out.trans hk9 (fun _ _ e=>e)))
       refine hK.out _ _ ⟨hP9.cells.2.2.2.2.1,hP9.cells.2.2.2.2.2.2.2.1⟩ ?_
       refine JN ?_
       clear hP9 hk9 ho9 hg9 hput hD
       go_wp2_with fail
       go_roundw
       case rel=>exact⟨j+1,HY3.out,by go_num,by rw[uY m0 im j HY3.out,hkb'.out,hx.out];exact ah HE9.out.1,ah HE9.out.2⟩
       case measure=>have:=HY3.out;simp[intOf];omega
    ·obtain rfl:j=im.ks.length:=by omega
     have y2:¬(im.ks.length:Int)<(im.ks.length:Int):=by omega
     go_wp2_with fail
     go_roundw
     case rel=>
      refine⟨i+1,HU.out.2.2.2.1,by go_num,?_,HKj⟩
      rw[aM HU.out.2.2.2.1,him.out,FL,hm0.out,<-Kh]
      exact HPj
     case measure=>have:=HU.out.2.2.2.1;simp[intOf];omega
  ·obtain rfl:i=ims.length:=by omega
   have y1:¬((ims.length:Nat):Int)<(vs.length:Int):=by have:=HVL.out;omega
   have hP:=HP.out
   rw[bR] at hP
   have hPA:jh wr (Three Sd3 Sl3 Sp3) pg d σ l (Pg.laid n ims) (.pointer none):=xD.pack hP
   have hph:=SC pg d σ l (Pg.laid n ims) (.pointer none) _ wr hPA hcap
   rw[HQ.out] at hph
   dsimp only at hph
   have HH:=ah hph
   clear hph
   have hst:Step Sd (Three Sd3 Sl3 Sp3) w wr:=by
    have h1:=(HR3.out.2.2.2.2.2.1.trans HR3.out.2.2.2.1).eqv (S:=Sd) (S':=Three Sd3 Sl3 Sp3) (fun _=>Og) (fun g=>(HR3.out.2.2.1 g).symm)
    exact h1.trans (Step.own HK.out (.inr (.inr HR3.out.2.1.sfb)))
   have HST:=ah hst
   clear hP hPA hst
   by_cases hq0:q=0
   ·subst hq0
    go_wp2_with (first
     |(go_at_call 77;go_must (refine HH.out.mono ?_;rintro e w5 ⟨rfl,S5,hP5,hs5⟩)))
    go_ret2
    exact⟨pg,rfl,S5,hP5,HST.out.trans hs5⟩
   ·have y3:(q !=0)=true:=by simpa using hq0
    go_wp2_with (first
     |(go_at_call 77;go_must (refine HH.out.mono ?_;rintro e w5 ⟨rfl,S5,hP5,hs5⟩)))
    go_ret2
    exact⟨rfl,pg,S5,hP5,HST.out.trans hs5⟩
theorem Np {σ:Dk}{l:Lg}{ims:List Im}{n:Nat}(hok:σ.Ok)(hL:qw σ.get l (gF ims))(hn:l.n=n)(h2:2<=n)(hfit:n<σ.n)(hbat:∀im∈ims,im.Oj (σ.n - n))(hw:σ.waits=[]):Rest σ l (Pg.laid n ims) ims:=by
 have hlen:=hL.len
 have hlist:=hL.list
 have hon:=hL.on
 rw[dD] at hlen hlist hon
 refine⟨hL.ok,⟨hL.frm,hn.symm,?_,by rw[hn];exact hfit,?_⟩,hlist,hlen,by rw[hL.uM];omega,hbat,hon,?_,FM ims,by rw[hw];exact aT _,fun _=>hw⟩
 ·show n - 1+1=l.n;omega
 ·exact CK hbat
 ·refine Al.none ⟨hL.mark,?_,fun b _=>rfl⟩ hw
  exact hon.take _
theorem PE {σ:Dk}{l:Lg}{ims:List Im}{n:Nat}{C:Nat->List UInt8}(hok:σ.Ok)(hL:qw σ.get l (gF ims))(hn:l.n=n)(h2:2<=n)(hfit:n<σ.n)(hbat:∀im∈ims,im.Oj (σ.n - n))(hw:σ.waits=[])(hd:σ.dead=false)(hC:∀b,b<σ.n - n->C b=oZ ims (fun b=>σ.get (n+b)) b):
  (∃σ' l' p',(Pg.laid n ims).home σ l=(σ',l',p',0)/\σ'.dead=false/\l'.dead=false/\p'.dead=false/\(σ.fuel= -1->σ'.fuel= -1)/\σ'.n=σ.n/\σ'.waits=[]/\l'.last=l.last/\l'.synced=l.last/\p'.skip=n/\p'.ring=n - 1/\mY σ' l' p' (fun _=>C))\/
  (∃σ' l',(Pg.laid n ims).home σ l=(σ',l',(Pg.laid n ims).dies,10)/\σ'.dead=true/\σ.fuel≠-1/\σ'.n=σ.n/\Al σ' fun s=>sP s n (σ.n - n) l.last C):=by
 have hR:=Np hok hL hn h2 hfit hbat hw
 have hall:∀{s:Nat->List UInt8},qm s l ims n (σ.n - n) (fun b=>σ.get (n+b)) l.last->sP s n (σ.n - n) l.last C:=fun h=>by
  unfold qm at h
  rw[dF,aJ (aC _)] at h
  exact sP.congr h hC
 rcases Ir hR hd hL.dead rfl with ⟨σ',e,a1,a2,a3,a4,a5,a6⟩|⟨σ',l',e,a1,a2,a3,a4⟩
 ·left
  have hc:=FR (l:=l.all) ⟨hL.ok.n2,hL.ok.hi,hL.ok.st,hL.ok.us,hL.ok.la,aC _,hL.ok.ent,hL.ok.sum⟩
  obtain⟨k1,k2,k3,k4,k5,k6,k7⟩:=hc
  have k5:(l.all.cut l.last).last=l.last:=k5
  have k6:(l.all.cut l.last).synced=l.last:=k6
  have k7:(l.all.cut l.last).dead=l.dead:=k7
  refine⟨σ',_,_,e,a1,k7.trans hL.dead,rfl,a2,a3,a4,k5,k6,rfl,rfl,[],a5,fun k q1 q2 b hb=> ?_⟩
  have hb':b<σ.n - n:=by
   have:({Pg.laid n ims with fresh:=Im.none}:Pg).blocks σ'=σ.n - n:=by show σ'.n - n=_;rw[a3]
   rwa [this] at hb
  show C b=oZ (List.take _ []) _ b
  rw[QZ,hC b hb']
  exact(a6 b hb').symm
 ·right
  refine⟨σ',l',e,a1,a2,a3,fun s hs=> ?_⟩
  obtain⟨_,⟨_,h⟩|⟨_,h⟩⟩:=a4
  ·rcases h s hs with h|h
   ·rw[hL.uM] at h;exact hall h
   ·exact hall h
  ·exact hall (h s hs)
def VC (N:Nat)(C:Nat->List UInt8)(f:Nat->Bool)(root:Nat)(es:List mH)(tb:List Int):Prop:=
 ∀(σ:Dk) (l:Lg) (p:Pg),p.blocks σ=N->σ.dead=false->p.dead=false->(∀b,b<N->p.look Im.none σ b=C b)->zx σ l p f root/\Live (bZ.start σ l p f) root es tb
theorem UC (d:Nat)(σ:Dk)(Sd:Nat->Prop)(log:Nat)(l:Lg)(ims:List Im)(C:Nat->List UInt8)(f:Nat->Bool)(root:Nat)(es:List mH)(tb:List Int)(w:World)(h:rD w Sd d σ)(hd:σ.dead=false)(hw:σ.waits=[])(h1:6<=log)(h2:log+8<=σ.n)
  (hL:qw σ.get l (gF ims)) (hn:l.n=log) (hbat:∀im∈ims,im.Oj (σ.n - log)) (hC:∀b,b<σ.n - log->C b=oZ ims (fun b=>σ.get (log+b)) b) (hV:VC (σ.n - log) C f root es tb) (hll:l.last<1000000000000) (hes:es.length<=4090):
  Calls Tryz.prog 10 #[.pointer (some ⟨d,0,none⟩),.int .i64 log] w fun e w'=>
   (∃v pg σ' l' p' S',e= .returned (.tuple #[.pointer (some ⟨v,0,none⟩),.int .i64 0])/\w'.heap[v]? =some (.cells #[.pointer (some ⟨pg,0,none⟩)] 88 (0,0))/\¬S' v/\w.heap.size<=v/\jh w' S' pg d σ' l' p' (.pointer none)/\Step Sd S' w w'/\
    σ'.dead=false/\l'.dead=false/\p'.dead=false/\(σ.fuel= -1->σ'.fuel= -1)/\σ'.n=σ.n/\σ'.waits=[]/\l'.last=l.last/\l'.synced=l.last/\p'.skip=log/\p'.ring=log - 1/\mY σ' l' p' (fun _=>C))\/
   (∃σ' Sd',e= .returned (.tuple #[.pointer none,.int .i64 10])/\rD w' Sd' d σ'/\Step Sd Sd' w w'/\σ'.dead=true/\σ.fuel≠-1/\σ'.n=σ.n/\Al σ' fun s=>sP s log (σ.n - log) l.last C):=by
 have hck:=UG d σ Sd log w h
 have hc0:Ad σ.n log=0:=by unfold Ad;rw[if_neg (by omega)]
 rw[hc0] at hck
 have HCK:=ah hck
 have hpo:=UM d σ Sd log l ims w h hd hL hn (by omega) (by omega) hbat (by rw[hw];simp) hll
 have hout:=PE (C:=C) h.ok hL hn (by omega) (by omega) hbat hw hd hC
 rcases hout with ⟨σ',l',p',e,b1,b2,b3,b4,b5,b6,b7,b8,b9,b10,b11⟩|⟨σ',l',e,b1,b2,b3,b4⟩
 ·rw[e] at hpo
  dsimp only at hpo
  simp only[iI] at hpo
  have hNb:p'.blocks σ'=σ.n - log:=by unfold Pg.blocks;rw[b5,b9]
  have hv:=hV σ' l' p' hNb b1 b3 fun b hb=>b11.look b (by rw[hNb];exact hb)
  have HPO:=ah hpo;have HV:=ah hv;have HB:=ah (aF b1 (aF b2 (aF b3 (aF b4 (aF b5 (aF b6 (aF b7 (aF b8 (aF b9 (aF b10 b11))))))))))
  clear hck hc0 hpo e b1 b2 b3 b4 b5 b6 b7 b8 b9 b10 b11 hNb hv h hL hbat hC hV
  go_enter Tryz.func10,Tryz.ntmps10
  go_wp2_with (first
   |(go_at_call 37;go_must (refine HCK.out.mono ?_;rintro e w1 ⟨rfl,hw1⟩;subst w1)))
  go_wp2_with (first
   |(go_at_call 38;go_must (refine HPO.out.mono ?_;rintro e w2 ⟨pg,S2,rfl,hP2,hs2⟩;refine Stop.of ?_)))
  refine Stop.on ?_
  have hb3:=aO w2 (.cells #[.pointer (some ⟨pg,0,none⟩)] 88)
  have hn3:=bD w2 (.cells #[.pointer (some ⟨pg,0,none⟩)] 88)
  obtain⟨w3,HW3⟩:∃w3:World,Hid (w2.alloc (.cells #[.pointer (some ⟨pg,0,none⟩)] 88)=w3):=⟨_,ah rfl⟩
  rw[HW3.out] at hb3 hn3
  have hlt3:=(aj.1 hn3).1
  have hP3:=hP2.below hb3
  have hns:¬S2 w2.heap.size:=fun e=>absurd (hP2.sub _ e) (dB _)
  have hck:=OH w2.heap.size pg d σ' l' p' f root S2 w3 es tb hn3 hns hP3 HV.out.1 HV.out.2 hes
  obtain⟨v,hv⟩:∃v,Hid (w2.heap.size=v):=⟨_,ah rfl⟩
  rw[hv.out] at hck hn3 hns
  have HCK2:=ah hck
  have H3:=ah (aF hn3 (aF hns (aF hs2 (aF hb3 (by rw[<-hv.out];exact hs2.1.size:w.heap.size<=v)))))
  have hnv:w3.cell? ⟨v,0,none⟩=some (.pointer (some ⟨pg,0,none⟩)):=by simp[World.cell?,hn3]
  clear hck hn3 hns hs2 hb3 hP2 hP3
  go_upto_region 8 with fail
  rw[HW3.out,hv.out]
  go_wp2_with (first
   |(go_at_call 13;go_must (refine HCK2.out.mono ?_;rintro e w4 ⟨rfl,S4,hP4,hs4⟩)))
  go_ret2
  obtain⟨b1,b2,b3,b4,b5,b6,b7,b8,b9,b10,b11⟩:=HB.out
  obtain⟨hn3,hns,hs2,hb3,hwv⟩:=H3.out
  have hlv:v<w3.heap.size:=(aj.1 hn3).1
  refine .inl ⟨v,pg,σ',l',p',S4,rfl,(hs4.1.block v hlv hns).trans hn3,fun e=>(hs4.2 v e).elim hns (fun x=>absurd hlv (bq.2 x)),hwv,hP4,(hs2.trans (Step.of_below hb3)).trans hs4,b1,b2,b3,b4,b5,b6,b7,b8,b9,b10,b11⟩
 ·rw[e] at hpo
  dsimp only at hpo
  simp only[show ¬((10:Int)=0) by omega,if_false] at hpo
  have HPO:=ah hpo;have HB:=ah (aF b1 (aF b2 (aF b3 b4)))
  clear hck hc0 hpo e b1 b2 b3 b4 h hL hbat hC hV
  go_enter Tryz.func10,Tryz.ntmps10
  go_wp2_with (first
   |(go_at_call 37;go_must (refine HCK.out.mono ?_;rintro e w1 ⟨rfl,hw1⟩;subst w1)))
  go_wp2_with (first
   |(go_at_call 38;go_must (refine HPO.out.mono ?_;rintro e w2 ⟨pg,S2,rfl,hP2,hs2⟩)))
  go_ret2
  obtain⟨b1,b2,b3,b4⟩:=HB.out
  obtain⟨Sd5,Sl5,Sp5,lg5,fb5,hP5,hS5⟩:=hP2
  refine .inr ⟨σ',Sd5,rfl,hP5.log.dk,⟨hs2.1,fun g hg=>hs2.2 g ((hS5 g).2 (.inl hg))⟩,b1,b2,b3,b4⟩
end Go.Proofs.YtogbkgmlhhahdaaGreat
