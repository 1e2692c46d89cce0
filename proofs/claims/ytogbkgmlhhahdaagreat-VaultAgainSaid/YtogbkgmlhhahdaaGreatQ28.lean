/- parts -/
import Derived.Test.YtogbkgmlhhahdaaGreatQ4
import Derived.Test.YtogbkgmlhhahdaaGreatQ26
import Derived.Test.YtogbkgmlhhahdaaGreatQ27
import Derived.Deep.SlicePairs
import Derived.Lib.SmallJoins
set_option maxRecDepth 100000
set_option maxHeartbeats 8000000
set_option linter.all false
namespace Go.Proofs.YtogbkgmlhhahdaaGreat
open Go.RowKit
def zw (w:World)(S:Nat->Prop)(v:Value)(ks:List Bool):Prop:=∃ao c,v= .slice ao ks.length c/\ks.length<=c/\c<=maxLen/\∀j (h:j<ks.length),∃b o,ao=some ⟨b,o,none⟩/\w.cell? ⟨b,o+j,none⟩=some (.bool ks[j])/\¬S b
theorem zw.nil (w:World)(S:Nat->Prop):zw w S (.slice none 0 0) []:=⟨none,0,rfl,aC _,aT _,fun j h=>by simp at h⟩
theorem zw.of {w w':World}{S:Nat->Prop}{v:Value}{ks:List Bool}(h:zw w fZ v ks)(hb:Below w.heap.size w w')(hS:∀g,g<w.heap.size->¬S g):zw w' S v ks:=by
 obtain⟨ao,c,rfl,h1,h2,h3⟩:=h
 refine⟨ao,c,rfl,h1,h2,fun j hj=> ?_⟩
 obtain⟨b,o,e,hc,_⟩:=h3 j hj
 have hl:=aD w _ hc
 exact⟨b,o,e,(hb.cell (p:=⟨b,o+j,none⟩) hl).trans hc,hS b hl⟩
theorem KQ (d:Nat)(τ:Dk)(S:Nat->Prop)(gs:Nat)(wv:Value)(v:Value)(ks:List Bool)(w1:World)(hD1:oz w1 S d τ gs wv)(hv:zw w1 S v ks):
  Calls Tryz.prog 28 #[.pointer (some ⟨d,0,none⟩),v] w1 fun e w'=>e= .returned (.tuple #[])/\oz w' S d (τ.oP ks) gs (.slice none 0 0)/\Step S S w1 w':=by
 obtain⟨wo,wc,rfl,g1,g2,g3,g4⟩:=aX.form hD1.own.dm
 obtain⟨vo,vc,rfl,v1,v2,v3⟩:=id hv
 obtain⟨c0,c1,_,_,hlt,hfz⟩:=hD1.cells
 have HV:=ah v3;clear hv v3
 have hlt1:=ah (show ∀g (i:Nat) (u:Value),w1.cell? ⟨g,i,none⟩=some u->g<w1.heap.size from fun g i u h=>aD w1 _ h)
 go_enter Tryz.func28,Tryz.ntmps28
 go_wp2_with fail
 go_loopw [13] (fun i wr=>∃k:Nat,k<=τ.waits.length/\i= .int .i64 k/\oz wr S d (τ.ul ks k) gs (.slice wo τ.waits.length wc)/\Keep (· =gs) w1 wr) (fun i _=>τ.waits.length - (intOf i).toNat)
 case atStart=>exact⟨0,aT _,rfl,by rw[τ.MP];exact hD1,Keep.refl _ _⟩
 case round=>
  obtain⟨k,hk,rfl,hDk,hkk⟩:=hrel
  by_cases hlt:k<τ.waits.length
  ·obtain⟨g,cap,hgv,hrg,hgl,hgc,hgm⟩:=hDk.wait k hlt
   cases hgv
   obtain⟨x,HX⟩:∃x,Hid (wr.heap.size=x):=⟨_,ah rfl⟩
   have hwt:=hDk.ok.wt _ (bE hlt)
   obtain⟨p,HP⟩:∃p,Hid (τ.waits[k]=p):=⟨_,ah rfl⟩
   have hrg:wr.rangeAt g (k*513) (gq p):=by rw[<-HP.out];exact hrg
   have hp1:p.1<τ.n:=by rw[<-HP.out];exact hwt.1
   have hp2:=ah (show p.2.length=512 by rw[<-HP.out];exact hwt.2)
   have hlen:=ah (jr hp2.out)
   have hone:∀v∈gq p,v.oneCell'=true:=Fz p
   have hr1:Row (wr.alloc (.cells (gq (0,zB)).toArray 113)) wr.heap.size 113 (gq (0,zB)):=Row.new wr _ _
   have hz1:=ah (show (gq (0,zB)).length=513 from jr iM)
   have hki:(k:Int)<(τ.waits.length:Int):=by omega
   go_wp2_with (first
    |((refine dU rfl ?_);intro K hK;(refine QW 113 _ rfl g (k*513) rfl (gq p) _ hrg Tryz.underlying113 rfl (nV.trans (congrArg some hlen.out.symm)) ?_);refine hK _ _ ?_)
    |((refine dU rfl ?_);intro K hK;(refine iZ 113 rfl _ xK ?_);refine hK _ _ ?_)
    |((refine dU rfl ?_);intro K hK;(refine wp_store_row 113 _ _ rfl wr.heap.size 0 113 _ (gq p) rfl rfl hr1 (nV.trans (congrArg some hlen.out.symm)) (by rw[hz1.out,hlen.out];omega) hone ?_);intro w2 hr2 hk2;refine hK _ _ (Stop.of ?_)))
   refine Stop.on ?_
   rw[lI _ _ (hz1.out.trans hlen.out.symm),HX.out] at hr2
   rw[HX.out] at hk2
   have hkx:Keep (· =x) wr w2:=((Keep.refl (· =x) wr).alloc (.cells (gq (0,zB)).toArray 113)).trans hk2 (fun _ _ e=>e)
   have hxS:¬S x:=fun e=>absurd (hDk.sub x e) (by rw[HX.out];exact dB _)
   have hD2:=hDk.below hkx (fun y hy e=>hxS (e▸hy))
   obtain⟨c0',_,_,_,hlt',_⟩:=hD2.cells
   have hx0:w2.cell? ⟨x,0,none⟩=some (.int .i64 (p.1:Int)):=hr2.whole 0 _ rfl
   have hx1:w2.rangeAt x 1 (aI p.2):=fun y u hu=>by
    rw[uE 1]
    have:=hr2.whole (y+1) u hu
    rwa [dV] at this
   have hxl:=hr2.lt
   have hb2:=ah (show (aI p.2).length=512 by rw[bL,hp2.out])
   have hone2:=gZ p.2
   generalize hC:aI p.2=C at hx1 hb2 hone2
   have HC:=ah hC;clear hC
   rw[HX.out]
   clear hr1 hr2 hk2 hone hrg
   obtain⟨cur,hrow,hcl⟩:=hD2.row
   have hrow':Row w2.drew gs 111 cur:=hrow
   have HCL:=ah hcl;clear hcl
   have hp1':(p.1:Int)<((τ.ul ks k).n:Int):=by show (p.1:Int)<(τ.n:Int);omega
   have hk12:Keep (· =gs) w1 w2:=hkk.trans hkx (fun y hy e=>absurd (ak hy hkk.size) (by rw[e,HX.out];exact dB _))
   have HK12:=ah hk12;have HKX:=ah hkx;have HD2:=ah hD2;have HKK:=ah hkk
   clear hk12 hkx hD2 hkk
   by_cases hkl:k<ks.length
   ·have hklI:(k:Int)<(ks.length:Int):=by omega
    obtain⟨vb,vq,rfl,hcv0,hns⟩:=HV.out k hkl
    have hcv:w2.cell? ⟨vb,vq+k,none⟩=some (.bool ks[k]):=(HK12.out.cell (p:=⟨vb,vq+k,none⟩) (hlt1.out _ _ _ hcv0) (fun e=>hns (by have e:vb=gs:=e;rw[e];exact hD1.sg))).trans hcv0
    clear hcv0 hns
    have hvl:vb<w2.heap.size:=aD w2 _ hcv
    cases hb:ks[k] with
    |false=>
     rw[hb] at hcv
     have hno:ks.getD k false=false:=by rw[dX,bG hkl,hb];rfl
     have HNO:=ah hno;clear hno
     have HB:=ah hb;clear hb
     go_wp2_with fail
     go_roundw
     case rel=>
      have hup:=τ.Lm ks k hlt HNO.out
      exact⟨k+1,by omega,by go_num,by rw[hup];exact HD2.out,HK12.out⟩
     case measure=>simp[intOf];omega
    |true=>
     rw[hb] at hcv
     have hyes:ks.getD k false=true:=by rw[dX,bG hkl,hb];rfl
     have HYES:=ah hyes;clear hyes
     have HB:=ah hb;clear hb
     go_wp2_with fail
     refine aP (fun W=>W=w2.drew) (fun i=> !([9].contains i)) [0,1,2,3,4,5,6,7,8,9] rfl (by kernel_rfl) rfl ?_
     repeat ((refine bP (v:= ?_) rfl rfl (fun _ _ _ h=>h) rfl (fun W hW=> ?_) ?_);rotate_left;(focus ((try dsimp only at hW);subst hW;(go_simp;first|done|with_reducible rfl)));(try simp only[Act.put,ai,ax,au]))
     refine bP (v:= .agg C.toArray) rfl rfl (fun _ _ _ h=>h) rfl (fun W hW=> ?_) ?_
     ·subst hW
      exact kV 111 (.tmp 34) rfl x 1 rfl C _ hx1 Tryz.underlying111 rfl (tO.trans (congrArg some hb2.out.symm))
     simp only[Act.put,ai,ax,au]
     repeat ((refine bP (v:= ?_) rfl rfl (fun _ _ _ h=>h) rfl (fun W hW=> ?_) ?_);rotate_left;(focus ((try dsimp only at hW);subst hW;(go_simp;first|done|with_reducible rfl)));(try simp only[Act.put,ai,ax,au]))
     refine jO rfl rfl rfl (by kernel_rfl) ?_;intro K hK
     refine wp_store_row 111 (.tmp 36) (.tmp 35) rfl gs (p.1*512) 111 cur C rfl rfl hrow' (tO.trans (congrArg some hb2.out.symm)) (by rw[hb2.out,HCL.out];show _<=τ.n*512;omega) hone2 ?_
     intro w3 hr3 hk3
     refine hK.out _ _ ?_
     refine bS ?_
     go_wp2_with fail
     rw[<-HC.out] at hr3
     have hD3:=HD2.out.lay p.1 p.2 hp1 hp2.out cur hrow hr3 (((Keep.refl (· =gs) w2).drew).trans hk3 (fun _ _ e=>e))
     have hk13:Keep (· =gs) w1 w3:=HK12.out.trans (((Keep.refl (· =gs) w2).drew).trans hk3 (fun _ _ e=>e)) (fun _ _ e=>e)
     have hup:=τ.OZ ks k hlt HYES.out
     rw[HP.out] at hup
     rw[<-hup] at hD3
     have HD3:=ah hD3;have HK3:=ah hk13
     clear hD3 hk3 hk13 hup
     go_roundw
     case rel=>exact⟨k+1,by omega,by go_num,HD3.out,HK3.out⟩
     case measure=>simp[intOf];omega
   ·have hklI:¬((k:Int)<(ks.length:Int)):=by omega
    have hklN:decide (k<ks.length)=false:=by simpa using hkl
    have hno:ks.getD k false=false:=by rw[dX,mG (by omega)];rfl
    have HNO:=ah hno;clear hno
    go_wp2_with fail
    go_roundw
    case rel=>
     have hup:=τ.Lm ks k hlt HNO.out
     exact⟨k+1,by omega,by go_num,by rw[hup];exact HD2.out,HK12.out⟩
    case measure=>simp[intOf];omega
  ·obtain rfl:k=τ.waits.length:=by omega
   obtain⟨_,_,_,_,hlt',hfz'⟩:=hDk.cells
   have hf1':=hfz' 1 (by omega)
   have hf2':=hfz' 2 (by omega)
   have hf3':=hfz' 3 (by omega)
   have hob:=hDk.obj
   have HDk:=ah hDk;have HKK:=ah hkk
   clear hDk hkk
   obtain⟨_,_,c2',c3',_,_⟩:=HDk.out.cells
   go_wp2_with fail
   go_end0
   have hDk:=HDk.out
   obtain⟨w9,hw9⟩:∃x:World,x=(((wr.setCell ⟨d,1,none⟩ (.slice none 0 0)).setCell ⟨d,2,none⟩ (.int .i64 (-1))).setCell ⟨d,3,none⟩ (.bool false)):=⟨_,rfl⟩
   have hk3:Keep (· =d) wr w9:=by
    rw[hw9]
    exact(((Keep.refl (· =d) wr).setCell (p:=⟨d,1,none⟩) (.inr rfl) _).setCell (p:=⟨d,2,none⟩) (.inr rfl) _).setCell (p:=⟨d,3,none⟩) (.inr rfl) _
   have hob9:w9.heap[d]? =some (.cells #[.slice (some ⟨gs,0,none⟩) τ.n τ.n,.slice none 0 0,.int .i64 (-1),.bool false] 82 (0,0)):=by
    rw[hw9]
    simp[World.setCell,bn,hob]
    rfl
   rw[<-hw9]
   clear hw9
   refine⟨rfl,?_,(HKK.out.mono (fun _ _ e=>e▸hDk.sg)).trans hk3 (fun _ _ e=>e▸hDk.sd),fun _ hg=> .inl hg⟩
   rw[<-τ.O0]
   refine⟨⟨hDk.ok.lo,hDk.ok.hi,hDk.ok.sec,(fun p hp=>by cases hp),?_⟩,fun y hy=>ak (hDk.sub y hy) hk3.size,hDk.sd,hDk.sg,hDk.ne,hob9,?_,fun i hi y u hu=> ?_,aQ.nil _ _ _ _ _,(fun y hy=>by cases hy)⟩
   ·show (-1:Int)<=-1/\(-1:Int)<=9223372036854775807
    omega
   ·obtain⟨C,h1,h2⟩:=hDk.blk
    exact⟨C,(hk3.block gs (hDk.sub _ hDk.sg) hDk.ne).trans h1,h2⟩
   ·exact(hk3.cell (p:=⟨gs,i*512+y,none⟩) (hDk.sub _ hDk.sg) hDk.ne).trans (hDk.sec i hi y u hu)
theorem NI (d:Nat)(σ:Dk)(S:Nat->Prop)(v:Value)(ks:List Bool)(w:World)(h:rD w S d σ)(hv:zw w S v ks):
  Calls Tryz.prog 28 #[.pointer (some ⟨d,0,none⟩),v] w fun e w'=>e= .returned (.tuple #[])/\rD w' S d (σ.oP ks)/\Step S S w w':=by
 obtain⟨gs,wv,h⟩:=h
 refine(KQ d σ S gs wv v ks w h hv).mono ?_
 rintro e w' ⟨rfl,h1,h2⟩
 exact⟨rfl,⟨gs,_,h1⟩,h2⟩
theorem Live.UH {σ σ':bZ}{root:Int}{es:List mH}{tb:List Int}(h:Live σ root es tb)(hh:∀x,σ'.hasB x=σ.hasB x)(hm:∀x,σ.hasB x=true->σ'.mem x=σ.mem x)(hn:∀x,σ'.held x=σ.held x)(hz:σ'.sz=σ.sz)(hc:countB σ'.H.old σ'.most=countB σ.H.old σ.most):Live σ' root es tb:=by
 have hmv:∀x∈tb++eX es,σ'.hasB x=true/\σ'.mem x=σ.mem x:=fun x hx=>⟨(hh x).trans (h.all x hx).1,hm x (h.all x hx).1⟩
 refine⟨?_,fun e he=>(h.val e he).keep fun x hx=>hmv x (dL _ (l8.2 ⟨e,he,hx⟩)),⟨h.own.nd,fun x hx=>h.own.ex x ((hh x).symm.trans hx),?_⟩⟩
 ·rcases h.tree with h|⟨h,ht⟩
  ·exact .inl h
  ·exact .inr ⟨h,ht.move fun x hx=>hmv x (dI _ hx)⟩
 ·rw[hz,hc,h.own.size]
  unfold nh
  congr 3
  funext x
  rw[hn]
theorem OI {σ:Dk}{l:Lg}{p:Pg}{f:Nat->Bool}{root:Nat}{es:List mH}{tb:List Int}{N:Nat}{C:Nat->List UInt8}(hB:zx σ l p f root)(hL:Live (bZ.start σ l p f) root es tb)(hN:p.blocks σ=N)(hC:∀b,b<N->C b=p.look Im.none σ b):VC N C f root es tb:=fun σ2 l2 p2 hb hd hpd hlk=>by
 have hl:∀b,b<N->p2.look Im.none σ2 b=p.look Im.none σ b:=fun b h=>(hlk b h).trans (hC b h)
 have h2:=hB.two
 rw[hN] at h2
 have hh:∀x,(bZ.start σ2 l2 p2 f).hasB x=(bZ.start σ l p f).hasB x:=fun x=>by
  show (decide (0<=x) && (decide (x.toNat<p2.blocks σ2) && f x.toNat))=(decide (0<=x) && (decide (x.toNat<p.blocks σ) && f x.toNat))
  rw[hb,hN]
 refine⟨⟨hpd,hd,by rw[hb];exact h2,(hl 0 (by omega)).trans hB.map,fun b h=>hB.hi b (by rw[hN,<-hb];exact h),hB.f0,hB.f1,by rw[hl 1 (by omega)];exact hB.root⟩,hL.UH hh (fun x hx=> ?_) (fun _=>rfl) ?_ ?_⟩
 ·obtain⟨n,rfl,hn,_⟩:=bZ.kJ hx
  have hn:n<p.blocks σ:=hn
  exact hl _ (by rw[fw,<-hN];exact hn)
 ·show (bZ.start σ2 l2 p2 f).sz=(bZ.start σ l p f).sz
  unfold bZ.start
  rw[hb,hN]
  rfl
 ·show countB f (p2.blocks σ2)=countB f (p.blocks σ)
  rw[hb,hN]
def DV (w0:iW)(d log N dn u:Nat)(kv:List Pr)(w:World):Prop:=
 ∃Sd σ C f root es tb l ims,rD w Sd d σ/\VB w0 w Sd/\σ.dead=false/\σ.fuel= -1/\σ.waits=[]/\σ.n=N+log/\qw σ.get l (gF ims)/\l.n=log/\l.last=dn+1/\(∀im∈ims,im.Oj N)/\(∀b,b<N->C b=oZ ims (fun b=>σ.get (log+b)) b)/\VC N C f root es tb/\jF es=kv/\(tb++eX es).length=u
section
variable {w0:iW} {w:World} {v d log N R dn u:Nat} {kv:List Pr}
def JV (d:Nat):Nat->Dk->Lg->Pg->Prop:=fun x σ l _=>x=d/\σ.fuel= -1/\l.synced=l.last
def Jj (d:Nat):Nat->Dk->Lg->Pg->Prop:=fun x σ _ _=>x=d/\σ.fuel= -1
theorem Ma {b:iW}(h:b.D=Jj d):b.Calm:=⟨fun e=>by rw[h] at e;exact e.2,fun e0 e=>by rw[h] at e0 ⊢;exact⟨e0.1,e⟩⟩
theorem DV.to (h:DV w0 d log N dn u kv w){D:Nat->Dk->Lg->Pg->Prop}:DV (w0.to D) d log N dn u kv w:=by
 obtain⟨Sd,σ,C,f,root,es,tb,l,ims,h1,h2,h3⟩:=h
 exact⟨Sd,σ,C,f,root,es,tb,l,ims,h1,h2.to,h3⟩
theorem qa.sync (h:qa w0 v N R dn u kv w)(hd:dn<=100000000)(D':Nat->Dk->Lg->Pg->Prop)(hf:∀d σ l p,w0.D d σ l p->σ.fuel= -1)(hD:∀d σ l p σ' l',w0.D d σ l p->QH σ l p σ' l'->D' d σ' l' p):
  Calls Tryz.prog 27 #[.pointer (some ⟨v,0,none⟩)] w fun e w'=>e= .returned (.int .i64 0)/\qa (w0.to D') v N R dn u kv w':=by
 obtain⟨S,pg,d',σ,l,p,f,root,es,tb,hA,hB,h1,h2,h3,h4,h5,h6⟩:=h
 obtain⟨hpo,hdo,hlo⟩:=hA.pgr.ok
 rcases Tt hA.vi (by omega) with ⟨σ',l',hsy,hV⟩|⟨_,_,_,hV⟩
 ·refine(UA v pg d' σ l p _ S w hA.obj hA.pgr ?_).mono ?_
  ·have h1:=hA.vi.wt;have h2:=hlo.us;have h3:=hlo.hi;omega
  rw[hsy]
  rintro e w' ⟨rfl,S',hp',hs⟩
  have hp':jh w' S' pg d' σ' l' p (.pointer none):=hp'
  have hvc0:=OI (C:=fun b=>p.look Im.none σ b) hA.base hA.live h2 (fun _ _=>rfl)
  have hN':p.blocks σ'=N:=by rw[<-h2];unfold Pg.blocks;rw[hV.n]
  have hb':=hvc0 σ' l' p hN' hV.vj.nd hV.vj.pd fun b _=>hV.look Im.none b
  exact⟨rfl,S',pg,d',σ',l',p,f,root,es,tb,hA.step hp' hs hV.vj hb'.1 hb'.2,(hB.step hs).to,⟨h1.1,hD _ _ _ _ _ _ h1.2 hV⟩,hN',h3,hV.last.trans h4,h5,h6⟩
 ·exact absurd (hf _ _ _ _ h1.2) hV.fu
theorem qa.dv (h:qa w0 v N R dn u kv w)(hd:dn<=100000000)(hD:∀x σ l p,w0.D x σ l p->JV d x σ l p):DV w0 d (R+1) N dn u kv w:=by
 obtain⟨S,pg,d',σ,l,p,f,root,es,tb,hA,hB,h1,h2,h3,h4,h5,h6⟩:=h
 obtain⟨rfl,hfu,hy⟩:=hD _ _ _ _ h1.2
 obtain⟨C,hC⟩:=hA.vi.rc (by omega)
 obtain⟨Sd,Sl,Sp,lg,fb,hP,hS⟩:=hA.pgr
 have hsk:p.skip=R+1:=by have:=hP.ok.ring;have:=hP.ok.skip;omega
 obtain⟨k,k1,k2,l5,ims,r1,r2,r3,r4,r5⟩:=hC.dead _ (CS.get σ)
 have hk:k=l.last:=by omega
 rw[hk] at r3 r5
 rw[h2] at r4 r5
 rw[hsk] at r2 r5
 have hw:σ.waits=[]:=by obtain⟨_,hR,_⟩:=hC;exact hR.wt hy
 refine⟨Sd,σ,C l.last,f,root,es,tb,l5,ims,hP.log.dk,hB.keep (Keep.refl (fun _=>False) _) (fun _ _ e=>e) (fun g hg=> .inl ((hS g).2 (.inl hg))),hA.vi.nd,hfu,hw,?_,r1,r2,by rw[r3,h4],r4,r5,?_,h5,h6⟩
 ·have:=hP.ok.fit;have:=hP.ok.skip;unfold Pg.blocks at h2;omega
 ·exact OI hA.base hA.live h2 fun b hb=>(hC.look b (by rw[h2];exact hb)).symm
theorem DV.oP (h:DV w0 d log N dn u kv w)(x:Value)(ks:List Bool)(hx:∀Sd:Nat->Prop,VB w0 w Sd->zw w Sd x ks):
  Calls Tryz.prog 28 #[.pointer (some ⟨d,0,none⟩),x] w fun e w'=>e= .returned (.tuple #[])/\DV w0 d log N dn u kv w':=by
 obtain⟨Sd,σ,C,f,root,es,tb,l,ims,hD,hB,h1,h2,h3,h4,h5,h6⟩:=h
 refine(NI d σ Sd x ks w hD (hx Sd hB)).mono ?_
 rintro e w' ⟨rfl,hD',hs⟩
 have hg:∀i,(σ.oP ks).get i=σ.get i:=fun i=>congrFun (show (σ.oP ks).get=σ.get by
  have h:=CS.none (σ:=σ) (s:=(σ.oP ks).sec) ⟨ks,rfl⟩ h3
  rw[<-h];rfl) i
 have hg':(σ.oP ks).get=σ.get:=funext hg
 exact⟨rfl,Sd,σ.oP ks,C,f,root,es,tb,l,ims,hD',hB.step hs,rfl,rfl,rfl,h4,by rw[hg'];exact h5,h6.1,h6.2.1,h6.2.2.1,by rw[hg'];exact h6.2.2.2.1,h6.2.2.2.2⟩
theorem DV.open_ (h:DV w0 d log N dn u kv w)(h1:6<=log)(h2:8<=N)(hd:dn<=100000000)(hl:kv.length<=4090)(hD:∀σ l p,JV d d σ l p->w0.D d σ l p):
  Calls Tryz.prog 10 #[.pointer (some ⟨d,0,none⟩),.int .i64 log] w fun e w'=>∃v,e= .returned (.tuple #[.pointer (some ⟨v,0,none⟩),.int .i64 0])/\qa w0 v N (log - 1) dn u kv w':=by
 obtain⟨Sd,σ,C,f,root,es,tb,l,ims,hK,hB,g1,g2,g3,g4,g5,g6,g7,g8,g9,g10,g11,g12⟩:=h
 have hn:σ.n - log=N:=by omega
 refine(UC d σ Sd log l ims C f root es tb w hK g1 g3 h1 (by omega) g5 g6 (by rw[hn];exact g8) (by rw[hn];exact g9) (by rw[hn];exact g10) (by omega) (by rw[<-jR,g11];exact hl)).mono ?_
 rintro e w' (⟨v,pg,σ',l',p',S',rfl,hv,hvS,hlo,hp,hs,b1,b2,b3,b4,b5,b6,b7,b8,b9,b10,b11⟩|⟨_,_,_,_,_,_,hf,_⟩)
 ·have hN':p'.blocks σ'=N:=by unfold Pg.blocks;rw[b5,b9,hn]
  have hb':=g10 σ' l' p' hN' b1 b3 fun b hb=>b11.look b (by rw[hN'];exact hb)
  exact⟨v,rfl,S',pg,d,σ',l',p',f,root,es,tb,⟨hv,hvS,hp,⟨b1,b2,b3,by rw[b6];exact aT _,fun _=>⟨_,b11⟩⟩,hb'.1,hb'.2⟩,hB.step hs,⟨hB.new hlo,hD _ _ _ ⟨rfl,b4 g2,b8.trans b7.symm⟩⟩,hN',b10,by rw[b7,g7],g11,g12⟩
 ·exact absurd g2 hf
end
def Dm (w:World)(S:Nat->Prop)(r:Nat)(rs:List Pr):Prop:=¬S r/\∃v,w.heap[r]? =some (.cells #[v] 54 (0,0))/\jH w S v rs
theorem uw {w:World}{r t:Nat}{v:Value}(h:w.heap[r]? =some (.cells #[v] t (0,0))):w.cell? ⟨r,0,none⟩=some v/\w.frozen? ⟨r,0,none⟩=false/\r<w.heap.size:=
 ⟨by simp[World.cell?,h],by simp[World.frozen?,h],(aj.1 h).1⟩
theorem Vf {a b:ByteArray}(h:a=b):(a.toList==b.toList)=true:=by rw[h];simp
theorem UQ {a b:ByteArray}(h:a≠b):(a.toList==b.toList)=false:=by
 rw[fG];exact fun e=>h (toList_inj e)
theorem xX {rs:List Pr}(hr:gD rs)(key:ByteArray):rs.filter (fun p=> !(p.1.toList==key.toList))=nO rs key:=by
 obtain⟨f1,f2⟩:=mQ key rs hr
 have h1:∀p∈rs.take (cO rs key),(!(p.1.toList==key.toList))=true:=fun p hp=>by
  obtain⟨i,hi,rfl⟩:=fH hp
  rw[aH] at hi
  rw[lq,UQ (LQ (f1 i (by omega) (by omega)))];rfl
 unfold nO
 split
 ·rename_i hat
  obtain⟨hlt,hk⟩:=oN hat
  have e:rs=rs.take (cO rs key)++rs[cO rs key]::rs.drop (cO rs key+1):=by
   rw[<-dA hlt,bJ]
  have h2:∀p∈rs.drop (cO rs key+1),(!(p.1.toList==key.toList))=true:=fun p hp=>by
   obtain⟨i,hi,rfl⟩:=fH hp
   rw[aN] at hi
   have:=gN.1 hr (cO rs key) (cO rs key+1+i) hlt (by omega) (by omega)
   rw[hk] at this
   rw[p8,UQ (fun e=>LQ this e.symm)];rfl
  conv=>lhs;rw[e]
  rw[oV,EP,if_neg (by rw[Vf hk];simp),zF.2 h1,zF.2 h2]
 ·rename_i hat
  refine zF.2 fun p hp=> ?_
  obtain⟨i,hi,rfl⟩:=fH hp
  rw[UQ];rfl
  intro e
  apply hat
  have:(key,rs[i].2)∈rs:=by have:=bE hi;rw[<-e];exact this
  have:=(qN hr).2 this
  unfold fD at this
  split at this
  ·assumption
  ·cases this
theorem Qo {rs:List Pr}(key:ByteArray):decide ((nO rs key).length<rs.length)=(fD rs key).isSome:=by
 unfold nO fD
 split
 ·rename_i hat
  obtain⟨hlt,_⟩:=oN hat
  rw[bG hlt]
  simp;omega
 ·simp
theorem Fp {w wr:World}{S:Nat->Prop}{r:Nat}{v0 v:Value}{rs:List Pr}(hb:wr.heap[r]? =some (.cells #[v0] 54 (0,0)))(hS:¬S r)(ho:aQ wr S w.heap.size 103 2 v rs.length (dO rs))(hbel:Below w.heap.size w wr):Dm (wr.setCell ⟨r,0,none⟩ v) S r rs/\Keep (· =r) w (wr.setCell ⟨r,0,none⟩ v):=by
 have hk:Keep (· =r) wr (wr.setCell ⟨r,0,none⟩ v):=Keep.setCell (M:=(· =r)) (p:=⟨r,0,none⟩) (Keep.refl _ _) (.inr rfl) _
 refine⟨⟨hS,v,by simp[World.setCell,bn,hb],?_⟩,(Keep.of_below hbel _).trans hk (fun _ _ h=>h)⟩
 exact(ho.keep fun g hg hl hs=>⟨hk.block g hl (fun e=>ho.ne hb (by decide) (by rw[hg,e])),hs⟩).dm
theorem GX (r:Nat)(rs:List Pr)(key:ByteArray)(w:World)(S:Nat->Prop)(hsub:∀g,S g->g<w.heap.size)(h:Dm w S r rs)(hr:gD rs)(hl:rs.length<=100000):
  Calls Tryz.prog 64 #[.pointer (some ⟨r,0,none⟩),.string key] w fun e w'=>e= .returned (.bool (fD rs key).isSome)/\Dm w' S r (nO rs key)/\Keep (· =r) w w':=by
 obtain⟨hSr,v,hb,hv⟩:=h
 obtain⟨c0,cf,lr⟩:=uw hb
 obtain⟨ao,cp,rfl,_,_,_,_⟩:=aX.form hv
 have HF:=ah (xX hr key)
 have HL:=ah (Qo (rs:=rs) key)
 obtain⟨fl,hfl⟩:∃fl:Pr->Bool,fl=fun p=> !(p.1.toList==key.toList):=⟨_,rfl⟩
 have HFL:=ah hfl
 rw[<-hfl] at HF
 clear hfl
 go_enter Tryz.func64,Tryz.ntmps64
 go_wp2
 go_loopw [5,6] (fun l i wr=>∃(k:Nat),k<=rs.length/\i= .int .i64 k/\aQ wr S w.heap.size 103 2 l ((rs.take k).filter fl).length (dO ((rs.take k).filter fl))/\Below w.heap.size w wr) (fun _ i _=>rs.length - (intOf i).toNat)
 case atStart=>exact⟨0,aT _,rfl,aQ.nil _ _ _ _ _,aR _ _⟩
 case round=>
  obtain⟨k,hk,rfl,hown,hbel⟩:=hrel
  have hbr:=(hbel.block r lr).trans hb
  obtain⟨c0',cf',lr'⟩:=uw hbr
  have hlenf:((rs.take k).filter fl).length<=100000:=aK (wh _ _) (by rw[aH];omega)
  generalize hn:((rs.take k).filter fl).length=n at hown hlenf
  have HN:=ah hn;clear hn
  obtain⟨lo,lc,rfl,_,_,_,_⟩:=aX.form hown.dm
  by_cases hlt:k<rs.length
  ·obtain⟨b,o,rfl,d1,d2⟩:=hv.at rfl k hlt
   have d1':=(hbel.cell (p:=⟨b,o+k*2,none⟩) (aD w _ d1)).trans d1
   have d2':=(hbel.cell (p:=⟨b,o+k*2+1,none⟩) (aD w _ d2)).trans d2
   have hbl:=aD wr _ d1'
   have hlt':(k:Int)<(rs.length:Int):=by omega
   clear d1 d2
   by_cases he:rs[k].1=key
   ·have hq:=Vf he
    have HE:=ah he;clear he
    go_wp2_with fail
    go_roundw
    case rel=>
     refine⟨k+1,by omega,by go_num,?_,hbel⟩
     rw[aM hlt,oV,EP,if_neg (by rw[HFL.out];simp[Vf HE.out]),List.filter_nil,dJ,HN.out]
     exact hown
    case measure=>simp[intOf];omega
   ·have hq:=UQ he
    have HE:=ah he;clear he
    have hba:=aO wr (.cells #[.string rs[k].1,.string rs[k].2] 103)
    go_wp2_with (at_builtin;go_must ((refine cK rfl (.tmp 27) (.tmp 35) 52 52 rfl S w.heap.size 103 2 32 _ bT jl rfl (.slice lo n lc) n _ rfl (hown.below hba) (.slice (some ⟨wr.heap.size,0,none⟩) 1 1) 1 [.string rs[k].1,.string rs[k].2] rfl (gu (w:=wr) [.string rs[k].1,.string rs[k].2] 103 2 1 1 rfl bT rfl (by intro u hu;simp only[bM,gT,o7] at hu;rcases hu with rfl|rfl<;>rfl)) (eU (fun g hg=>ak (hsub g hg) hbel.size) _) ?_ ?_ ?_ ?_);(focus (have:=hbel.size;simp only[aS];omega));(focus (unfold maxLen;omega));(focus omega);intro ao3 c3 w3 hown3 hk3 hb3 hd3))
    go_roundw
    case rel=>
     refine⟨k+1,by omega,by go_num,?_,(hbel.trans (hba.mono hbel.size)).trans hb3⟩
     rw[aM hlt,oV,EP,if_pos (by rw[HFL.out];simp[UQ HE.out]),List.filter_nil,ay,HN.out,iU]
     exact hown3
    case measure=>simp[intOf];omega
  ·obtain rfl:k=rs.length:=by omega
   rw[bR,HF.out] at hown
   have hn:=HN.out
   rw[bR,HF.out] at hn
   subst hn
   have x1:¬(rs.length:Int)<(rs.length:Int):=by omega
   go_wp2_with fail
   go_ret
   have:=Fp hbr hSr hown hbel
   refine⟨?_,this.1,this.2⟩
   rw[<-HL.out]
   congr 2
theorem Ku {rs:List Pr}(hr:gD rs)(key value:ByteArray):jB rs key value=(nO rs key).take (cO (nO rs key) key)++(key,value)::(nO rs key).drop (cO (nO rs key) key):=by
 obtain⟨f1,f2⟩:=mQ key rs hr
 unfold jB nO
 split
 ·rename_i hat
  obtain⟨hlt,hk⟩:=oN hat
  have h1:∀p∈rs.take (cO rs key),lt p.1 key=true:=fun p hp=>by
   obtain⟨i,hi,rfl⟩:=fH hp
   rw[aH] at hi
   rw[lq];exact f1 i (by omega) (by omega)
  have h2:∀p∈rs.drop (cO rs key+1),lt key p.1=true:=fun p hp=>by
   obtain⟨i,hi,rfl⟩:=fH hp
   rw[aN] at hi
   have:=gN.1 hr (cO rs key) (cO rs key+1+i) hlt (by omega) (by omega)
   rw[hk] at this
   rw[p8];exact this
  have hp:cO (rs.take (cO rs key)++rs.drop (cO rs key+1)) key=(rs.take (cO rs key)).length:=by
   rw[xQ _ _ _ h1,Ch _ _ h2,iw]
  rw[hp,iE,uI,sQ,if_pos hlt]
 ·rfl
theorem TV {rs:List Pr}(hr:gD rs)(key:ByteArray)(k:Nat)(hk:k<(nO rs key).length):lt key (nO rs key)[k].1=decide (cO (nO rs key) key<=k):=by
 have hr2:gD (nO rs key):=(Qn key).rise rs hr
 obtain⟨f1,f2⟩:=mQ key _ hr2
 by_cases h:cO (nO rs key) key<=k
 ·rw[dZ h]
  have h1:=f2 k hk h
  cases h2:lt key (nO rs key)[k].1 with
  |true=>rfl
  |false=>
   have e:=ve h1 h2
   have hm:(nO rs key)[k]∈rs.filter (fun p=> !(p.1.toList==key.toList)):=by rw[xX hr];exact bE hk
   have:=(List.mem_filter.1 hm).2
   rw[Vf e] at this;cases this
 ·rw[bQ h]
  exact lt_asymm (f1 k hk (by omega))
def qC (ds:List Pr)(P k:Nat)(p:Pr):List Pr:=if k<=P then ds.take k else ds.take P++p::(ds.take k).drop P
theorem Pt (ds:List Pr)(P k:Nat)(p:Pr)(hk:k<=ds.length)(hP:P<=ds.length):(qC ds P k p).length=if k<=P then k else k+1:=by
 unfold qC
 split
 ·simp;omega
 ·simp;omega
theorem Ry (ds:List Pr)(P k:Nat)(p:Pr)(hk:k<ds.length)(h:k<P):qC ds P (k+1) p=qC ds P k p++[ds[k]]:=by
 unfold qC
 rw[if_pos (by omega),if_pos (by omega),aM hk]
theorem RA (ds:List Pr)(P:Nat)(p:Pr)(hP:P<ds.length):qC ds P (P+1) p=qC ds P P p++[p]++[ds[P]]:=by
 unfold qC
 rw[if_neg (by omega),if_pos (by omega),aM hP,eY (by simp;omega),fq (by simp;omega)]
 simp
theorem Rz (ds:List Pr)(P k:Nat)(p:Pr)(hk:k<ds.length)(h:P<k):qC ds P (k+1) p=qC ds P k p++[ds[k]]:=by
 unfold qC
 rw[if_neg (by omega),if_neg (by omega),aM hk,eY (by simp;omega)]
 simp
theorem Pv (ds:List Pr)(P:Nat)(p:Pr)(hP:P<=ds.length):(if P<ds.length then qC ds P ds.length p else qC ds P ds.length p++[p])=ds.take P++p::ds.drop P:=by
 unfold qC
 by_cases h:P<ds.length
 ·rw[if_pos h,if_neg (by omega),bR]
 ·obtain rfl:P=ds.length:=by omega
  rw[if_neg h,if_pos (aC _)];simp
theorem O8 (r:Nat)(rs:List Pr)(key value:ByteArray)(w:World)(S:Nat->Prop)(hsub:∀g,S g->g<w.heap.size)(h:Dm w S r rs)(hr:gD rs)(hl:rs.length<=90000):
  Calls Tryz.prog 24 #[.pointer (some ⟨r,0,none⟩),.string key,.string value] w fun e w'=>e= .returned (.tuple #[])/\Dm w' S r (jB rs key value)/\Keep (· =r) w w':=by
 have hD:=GX r rs key w S hsub h hr (by omega)
 have HD:=ah hD;clear hD
 have hlr:r<w.heap.size:=by obtain⟨_,_,hb,_⟩:=h;exact(aj.1 hb).1
 have hins:=Ku hr key value
 have hgt:=TV hr key
 have hdl:(nO rs key).length<=rs.length:=by
  have:=xX hr key
  rw[<-this];exact wh _ _
 have hPl:=pU (nO rs key) key
 generalize nO rs key=ds at*
 generalize cO ds key=P at*
 have HI:=ah hins;clear hins
 have HG:=ah hgt;clear hgt
 have hbp:∀w,Below w.heap.size w (w.alloc (.cells #[.string key,.string value] 103)):=fun w=>aO w _
 go_enter Tryz.func24,Tryz.ntmps24
 go_wp2_with (go_at_call 64;go_must (refine HD.out.mono ?_;rintro e wa ⟨rfl,hR,hka⟩))
 obtain⟨hSr,v,hb,hv⟩:=hR
 obtain⟨c0,cf,lr⟩:=uw hb
 obtain⟨ao,cp,rfl,_,_,_,_⟩:=aX.form hv
 have hsubA:∀g,S g->g<wa.heap.size:=fun g hg=>ak (hsub g hg) hka.size
 go_loopw [6,7,8] (fun l d i wr=>∃(k:Nat),k<=ds.length/\i= .int .i64 k/\d= .bool (decide (P<k))/\aQ wr S wa.heap.size 103 2 l (qC ds P k (key,value)).length (dO (qC ds P k (key,value)))/\Below wa.heap.size wa wr) (fun _ _ i _=>ds.length - (intOf i).toNat)
 case atStart=>exact⟨0,aT _,rfl,rfl,by have:qC ds P 0 (key,value)=[]:=(by simp[qC]);rw[this];exact aQ.nil _ _ _ _ _,aR _ _⟩
 case round=>
  obtain⟨k,hk,rfl,rfl,hown,hbel⟩:=hrel
  have hbr:=(hbel.block r lr).trans hb
  obtain⟨c0',cf',lr'⟩:=uw hbr
  have hpl:=Pt ds P k (key,value) hk hPl
  have hn1:(qC ds P k (key,value)).length<=90001:=by rw[hpl];split<;>omega
  clear hpl
  have hsubR:∀g,S g->g<wr.heap.size:=fun g hg=>ak (hsubA g hg) hbel.size
  generalize hn:(qC ds P k (key,value)).length=n at hown hn1
  have HN:=ah hn;clear hn
  obtain⟨lo,lc,rfl,_,_,_,_⟩:=aX.form hown.dm
  by_cases hlt:k<ds.length
  ·obtain⟨b,o,rfl,d1,d2⟩:=hv.at rfl k hlt
   have d1':=(hbel.cell (p:=⟨b,o+k*2,none⟩) (aD wa _ d1)).trans d1
   have d2':=(hbel.cell (p:=⟨b,o+k*2+1,none⟩) (aD wa _ d2)).trans d2
   have hbl:=aD wr _ d1'
   have hlt':(k:Int)<(ds.length:Int):=by omega
   have hg:=HG.out k hlt
   rw[<-Qg] at hg
   have hba:=aO wr (.cells #[.string ds[k].1,.string ds[k].2] 103)
   rcases Nat.lt_trichotomy k P with he|he|he
   ·have hd:decide (P<k)=false:=bQ (by omega)
    rw[bQ (by omega)] at hg
    rw[hd]
    have HD2:=ah hd;clear hd
    clear d1 d2
    go_wp2_with (at_builtin;(refine cK rfl (.tmp 41) (.tmp 49) 52 52 rfl S wa.heap.size 103 2 32 _ bT jl rfl _ _ _ rfl (hown.below hba) (.slice (some ⟨wr.heap.size,0,none⟩) 1 1) 1 [.string ds[k].1,.string ds[k].2] rfl (gu (w:=wr) [.string ds[k].1,.string ds[k].2] 103 2 1 1 rfl bT rfl (by intro u hu;simp only[bM,gT,o7] at hu;rcases hu with rfl|rfl<;>rfl)) (eU (fun g hg=>ak (hsubA g hg) (hbel).size) _) ?_ ?_ ?_ ?_);go_must ((focus (have:=(hbel).size;simp only[aS];omega));(focus (unfold maxLen;omega));(focus omega);intro ao3 c3 w3 hown3 hk3 hb3 hd3))
    go_roundw
    case rel=>
     refine⟨k+1,by omega,by go_num,by rw[bQ (by omega)],?_,(hbel.trans (hba.mono hbel.size)).trans hb3⟩
     rw[Ry ds P k _ hlt he,ay,HN.out,iU]
     exact hown3
    case measure=>simp[intOf];omega
   ·subst he
    have hd:decide (k<k)=false:=bQ (dB _)
    rw[dZ (aC k)] at hg
    rw[hd]
    have HD2:=ah hd;clear hd
    go_wp2_with (first
     |(at_builtin;(refine cK rfl (.tmp 35) (.tmp 39) 52 52 rfl S wa.heap.size 103 2 32 _ bT jl rfl _ _ _ rfl (hown.below (hbp wr)) (.slice (some ⟨wr.heap.size,0,none⟩) 1 1) 1 [.string key,.string value] rfl (gu (w:=wr) [.string key,.string value] 103 2 1 1 rfl bT rfl (by intro u hu;simp only[bM,gT,o7] at hu;rcases hu with rfl|rfl<;>rfl)) (eU (fun g hg=>ak (hsubA g hg) (hbel).size) _) ?_ ?_ ?_ ?_);go_must ((focus (have:=(hbel).size;simp only[aS];omega));(focus (unfold maxLen;omega));(focus omega);intro ao3 c3 w3 hown3 hk3 hb3 hd3;have hbel3:Below wa.heap.size wa w3:=(hbel.trans ((hbp wr).mono hbel.size)).trans hb3;have hbr3:=(hbel3.block r lr).trans hb;obtain⟨c03,cf3,lr3⟩:=uw hbr3;have e1:=(hbel3.cell (p:=⟨b,o+k*2,none⟩) (aD wa _ d1)).trans d1;have e2:=(hbel3.cell (p:=⟨b,o+k*2+1,none⟩) (aD wa _ d2)).trans d2;have ebl:=aD w3 _ e1;clear c0' d1' d2' hbl cf' lr'))
     |(at_builtin;(refine cK rfl (.tmp 41) (.tmp 49) 52 52 rfl S wa.heap.size 103 2 32 _ bT jl rfl _ _ _ rfl (hown3.below (aO w3 (.cells #[.string ds[k].1,.string ds[k].2] 103))) (.slice (some ⟨w3.heap.size,0,none⟩) 1 1) 1 [.string ds[k].1,.string ds[k].2] rfl (gu (w:=w3) [.string ds[k].1,.string ds[k].2] 103 2 1 1 rfl bT rfl (by intro u hu;simp only[bM,gT,o7] at hu;rcases hu with rfl|rfl<;>rfl)) (eU (fun g hg=>ak (hsubA g hg) (hbel3).size) _) ?_ ?_ ?_ ?_);go_must ((focus (have:=(hbel3).size;simp only[aS];omega));(focus (unfold maxLen;omega));(focus omega);intro ao4 c4 w4 hown4 hk4 hb4 hd4)))
    go_roundw
    case rel=>
     refine⟨k+1,by omega,by go_num,by rw[dZ (by omega)],?_,(hbel3.trans ((aO w3 _).mono hbel3.size)).trans hb4⟩
     rw[RA ds k _ hlt,ay,ay,HN.out,iU,iU]
     exact hown4
    case measure=>simp[intOf];omega
   ·have hd:decide (P<k)=true:=dZ he
    rw[hd]
    have HD2:=ah hd;clear hd hg
    clear d1 d2
    go_wp2_with (at_builtin;(refine cK rfl (.tmp 41) (.tmp 49) 52 52 rfl S wa.heap.size 103 2 32 _ bT jl rfl _ _ _ rfl (hown.below hba) (.slice (some ⟨wr.heap.size,0,none⟩) 1 1) 1 [.string ds[k].1,.string ds[k].2] rfl (gu (w:=wr) [.string ds[k].1,.string ds[k].2] 103 2 1 1 rfl bT rfl (by intro u hu;simp only[bM,gT,o7] at hu;rcases hu with rfl|rfl<;>rfl)) (eU (fun g hg=>ak (hsubA g hg) (hbel).size) _) ?_ ?_ ?_ ?_);go_must ((focus (have:=(hbel).size;simp only[aS];omega));(focus (unfold maxLen;omega));(focus omega);intro ao3 c3 w3 hown3 hk3 hb3 hd3))
    go_roundw
    case rel=>
     refine⟨k+1,by omega,by go_num,by rw[dZ (by omega)],?_,(hbel.trans (hba.mono hbel.size)).trans hb3⟩
     rw[Rz ds P k _ hlt he,ay,HN.out,iU]
     exact hown3
    case measure=>simp[intOf];omega
  ·obtain rfl:k=ds.length:=by omega
   have hend:=Pv ds P (key,value) hPl
   have HE:=ah hend;clear hend
   have x1:¬(ds.length:Int)<(ds.length:Int):=by omega
   by_cases hP:P<ds.length
   ·rw[dZ hP]
    have HPl:=ah hP;clear hP
    go_wp2_with fail
    go_end0
    have hown':aQ wr S wa.heap.size 103 2 (.slice lo n lc) (qC ds P ds.length (key,value)).length (dO (qC ds P ds.length (key,value))):=by rw[HN.out];exact hown
    have:=Fp hbr hSr hown' hbel
    have he:=HE.out
    rw[if_pos HPl.out] at he
    rw[HI.out,<-he]
    exact⟨rfl,this.1,hka.trans this.2 (fun _ _ h=>h)⟩
   ·rw[bQ hP]
    have HPl:=ah hP;clear hP
    go_wp2_with (at_builtin;(refine cK rfl (.tmp 53) (.tmp 57) 52 52 rfl S wa.heap.size 103 2 32 _ bT jl rfl _ _ _ rfl (hown.below (hbp wr)) (.slice (some ⟨wr.heap.size,0,none⟩) 1 1) 1 [.string key,.string value] rfl (gu (w:=wr) [.string key,.string value] 103 2 1 1 rfl bT rfl (by intro u hu;simp only[bM,gT,o7] at hu;rcases hu with rfl|rfl<;>rfl)) (eU (fun g hg=>ak (hsubA g hg) (hbel).size) _) ?_ ?_ ?_ ?_);go_must ((focus (have:=(hbel).size;simp only[aS];omega));(focus (unfold maxLen;omega));(focus omega);intro ao3 c3 w3 hown3 hk3 hb3 hd3;have hbel3:Below wa.heap.size wa w3:=(hbel.trans ((hbp wr).mono hbel.size)).trans hb3;have hbr3:=(hbel3.block r lr).trans hb;obtain⟨c03,cf3,lr3⟩:=uw hbr3))
    go_end0
    have hown':aQ w3 S wa.heap.size 103 2 (.slice ao3 (n+1) c3) (qC ds P ds.length (key,value)++[(key,value)]).length (dO (qC ds P ds.length (key,value)++[(key,value)])):=by
     rw[ay,HN.out,iU];exact hown3
    have:=Fp hbr3 hSr hown' hbel3
    have he:=HE.out
    rw[if_neg HPl.out] at he
    rw[HI.out,<-he]
    exact⟨rfl,this.1,hka.trans this.2 (fun _ _ h=>h)⟩
def Vw (rs:List Pr)(P M k:Nat):List Pr:=((rs.take k).drop P).take M
theorem BQ (a b:Value)(ps:List Pr)(w:World)(S1 S2:Nat->Prop)(ha:jH w S1 a ps)(hb:jH w S2 b ps):
  Calls Tryz.prog 30 #[a,b] w fun e w'=>e= .returned (.bool true)/\Below w.heap.size w w':=by
 obtain⟨ao,ac,rfl,_,_,_,_⟩:=aX.form ha
 obtain⟨bo,bc,rfl,_,_,_,_⟩:=aX.form hb
 go_enter Tryz.func30,Tryz.ntmps30
 go_wp2
 go_loopw [5] (fun i wr=>∃k:Nat,k<=ps.length/\i= .int .i64 k/\Below w.heap.size w wr) (fun i _=>ps.length - (intOf i).toNat)
 case atStart=>exact⟨0,aT _,rfl,aR _ _⟩
 case round=>
  obtain⟨k,hk,rfl,hbel⟩:=hrel
  by_cases hlt:k<ps.length
  ·obtain⟨b1,o1,rfl,d1,d2⟩:=ha.at rfl k hlt
   obtain⟨b2,o2,rfl,d3,d4⟩:=hb.at rfl k hlt
   have hlt':(k:Int)<(ps.length:Int):=by omega
   have l1:=aD w _ d1
   have l2:=aD w _ d3
   go_wp2_with fail
   refine aP (fun W=>Below w.heap.size w W) (fun _=>true) [0,1,2,3,4,5,6,7,8] rfl (by kernel_rfl) hbel.drew ?_
   repeat ((refine bP (v:= ?_) rfl rfl (fun _ _ _ h=>h) rfl (fun W hW=> ?_) ?_);rotate_left;(focus ((try dsimp only at hW);have q0:=(hW.cell (p:=⟨b1,o1+k*2,none⟩) l1).trans d1;have q1:=(hW.cell (p:=⟨b1,o1+k*2+1,none⟩) l1).trans d2;have q2:=(hW.cell (p:=⟨b2,o2+k*2,none⟩) l2).trans d3;have q3:=(hW.cell (p:=⟨b2,o2+k*2+1,none⟩) l2).trans d4;have q4:=ak l1 hW.size;have q5:=ak l2 hW.size;first|(go_simp;first|done|with_reducible rfl)));(try simp only[Act.put,ai,ax,au]))
   refine bS ?_
   go_wp2_with fail
   go_roundw
   case rel=>exact⟨k+1,by omega,by go_num,hbel.drew⟩
   case measure=>simp[intOf];omega
  ·obtain rfl:k=ps.length:=by omega
   have x1:¬(ps.length:Int)<(ps.length:Int):=by omega
   go_wp2_with fail
   go_ret
   exact⟨rfl,hbel⟩
def qh (w:World)(B:Nat)(v:Value)(l:List UInt8):Prop:=
 ∃(g cap:Nat) (cur:Array Value) (fz:Nat×Nat),v= .slice (some ⟨g,0,none⟩) l.length cap/\B<=g/\w.heap[g]? =some (.cells cur 5 fz)/\(fz.2<=fz.1\/cur.size<=fz.1)/\l.length<=cap/\cap<=maxLen/\cur.size=cap/\cur.toList.take l.length=aI l
theorem qh.below {w w':World}{B:Nat}{v:Value}{l:List UInt8}(h:qh w B v l)(hb:Below w.heap.size w w'):qh w' B v l:=by
 obtain⟨g,cap,cur,fz,e,h1,h2,h3⟩:=h
 exact⟨g,cap,cur,fz,e,h1,(hb.block g (aj.1 h2).1).trans h2,h3⟩
theorem qh.dm {w:World}{B:Nat}{v:Value}{l:List UInt8}(h:qh w B v l):aX w fZ 1 v l.length (aI l):=by
 obtain⟨g,cap,cur,fz,rfl,h1,h2,h3,h4,h5,h6,h7⟩:=h
 refine⟨_,_,rfl,h4,h5,by rw[bL,aU],(fun e=>by cases e),fun ad hh=> ?_,fun j u hu=> ?_⟩
 ·cases hh
  exact⟨rfl,(aj.1 h2).1,id⟩
 ·refine⟨_,_,rfl,?_⟩
  rw[dV,zC w g j cur _ fz h2]
  rw[<-h7,iR] at hu
  split at hu
  ·simpa using hu
  ·cases hu
theorem O7 (w:World)(B:Nat)(ty:TypeId)(v:Value)(l:List UInt8)(x:UInt8)(h:qh w B v l)(a:Addr)(hx:w.cell? (a.add 0)=some (.int .u8 x.toNat))(hB:B<=w.heap.size)(hl:l.length<=1000000):
  ∃v' w',(Builtin.append_ #[70,70] ty #[v,.slice (some a) 1 1]).run Tryz.prog w= .ok v' w'/\qh w' B v' (l++[x])/\Below B w w':=by
 obtain⟨g,cap,cur,fz,rfl,h1,h2,h3,h4,h5,h6,h7⟩:=h
 obtain⟨i,hi,hz,hsize,hby⟩:∃i,Tryz.prog.info? 5=some i/\i.zero=some (.int .u8 0)/\i.size=1/\i.bytes=1:=by
  have:=kz
  cases hq:Tryz.prog.info? 5 with
  |none=>rw[hq] at this;cases this
  |some i=>rw[hq] at this;simp at this;exact⟨i,rfl,this.1,this.2.1,this.2.2⟩
 have hnews:∀j u,[Value.int .u8 x.toNat][j]? =some u->w.cell? (a.add j)=some u:=fun j u hu=>by
  cases j with
  |zero=>cases hu;exact hx
  |succ j=>simp at hu
 have hlen:(l++[x]).length=l.length+1:=by simp
 have hbc:aI (l++[x])=aI l++[.int .u8 x.toNat]:=by simp[aI]
 by_cases hroom:l.length+1<=cap
 ·have hf:=AO (P:=Tryz.prog) w i.size 1 a 1 1 [Value.int .u8 x.toNat] (by rw[hsize];rfl) hnews
  have hin:l.length<cur.size:=by omega
  have hcell:w.cell? ⟨g,l.length,none⟩=some cur[l.length]:=by simp[World.cell?,h2,hin]
  have hfro:w.frozen? ⟨g,l.length,none⟩=false:=by
   obtain⟨lo,hi'⟩:=fz
   simp only[World.frozen?,h2,Bool.and_eq_false_iff,EN]
   simp only at h3
   omega
  have hst:(storeCells ⟨g,l.length,none⟩ [Value.int .u8 x.toNat] 0).run Tryz.prog w= .ok () (w.setRow g (cur.setIfInBounds l.length (.int .u8 x.toNat))):=by
   have hs1:(store ((⟨g,l.length,none⟩:Addr).add 0) (.int .u8 x.toNat)).run Tryz.prog w= .ok () (w.setRow g (cur.setIfInBounds l.length (.int .u8 x.toNat))):=by
    rw[dY,iw,run_store Tryz.prog w _ _ _ rfl,hcell]
    simp[hfro,setCell_eq_setRow w g l.length cur _ fz _ h2]
   simp only[storeCells,jU,hs1,gH]
   rfl
  refine⟨.slice (some ⟨g,0,none⟩) (l.length+1) cap,w.setRow g (cur.setIfInBounds l.length (.int .u8 x.toNat)),?_,⟨g,cap,_,fz,by rw[hlen],h1,setRow_heap w g cur _ _ _ h2,by simpa using h3,by rw[hlen];exact hroom,h5,by simpa using h6,?_⟩,⟨rfl,rfl,rfl,by simp,fun k hk=>setRow_other w g k _ (by omega)⟩⟩
  ·simp[Builtin.append_,fK bH,sizeOf,typeInfo,hi,hsize,Builtin.lenOf,hroom] at hf ⊢
   simp[hf,dY,hst]
  ·have hin':l.length<(cur.toList.set l.length (Value.int .u8 x.toNat)).length:=by simpa using hin
   have e1:(cur.toList.set l.length (Value.int .u8 x.toNat)).take l.length=cur.toList.take l.length:=List.take_set_of_le (aC _)
   have e2:(cur.toList.set l.length (Value.int .u8 x.toNat)).take (l.length+1)=aI l++[.int .u8 x.toNat]:=by
    rw[aM hin',e1,h7,List.getElem_set_self]
   rw[hlen,hbc,Array.toList_setIfInBounds]
   exact e2
 ·have holds:∀j u,(aI l)[j]? =some u->w.cell? ((⟨g,0,none⟩:Addr).add j)=some u:=fun j u hu=>by
   rw[dY,dV,zC w g j cur _ fz h2]
   rw[<-h7,iR] at hu
   split at hu
   ·simpa using hu
   ·cases hu
  have hr:=run_append_grow (P:=Tryz.prog) w 70 ty 5 i (.int .u8 0) bH hi hz ⟨g,0,none⟩ l.length cap (aI l) (by rw[hsize,bL,aU]) holds a 1 1 [Value.int .u8 x.toNat] (by rw[hsize];rfl) hnews (by omega) (by omega) (qZ (by omega) (by rw[hby];omega))
  have hge:=zA w (l.length+1) cap 5
  have hcm:=ng w (l.length+1) cap 5 (by simp only[maxLen];omega)
  refine⟨_,_,hr,⟨w.heap.size,_,_,(0,0),by rw[hlen],hB,bD w.drew _,.inl (aC _),by rw[hlen];exact hge,hcm,?_,?_⟩,((aR _ w).drew).alloc (by simpa using hB) _⟩
  ·have hz1:(Value.int IntKind.u8 0).cells.size=1:=rfl
   simp only[Dq,nH,vY,hz1,bL,dM]
   omega
  ·simp only[rq,aL]
   rw[hlen,hbc,<-aL,show l.length+1=(aI l++[Value.int .u8 x.toNat]).length by simp[bL]]
   exact iE
theorem Gl {ops:Array Oper}{rest:List Oper}{o:Oper}{a:Act}{w:World}{Q:Exit->Act->World->Prop}(hgd:o.guard=none)(s y:Operand)(ho:o.op= .call {callee:= .builtin .append,args:=#[s,y],argTypes:=#[70,70]})
  (B:Nat) (v:Value) (l:List UInt8) (x:UInt8) (hv:a.eval s=v) (h:qh w B v l) (ad:Addr) (hy:a.eval y= .slice (some ad) 1 1) (hx:w.cell? (ad.add 0)=some (.int .u8 x.toNat)) (hB:B<=w.heap.size) (hl:l.length<=1000000)
  (hK:∀v' w',qh w' B v' (l++[x])->Below B w w'->wpList Tryz.prog ops Q rest (a.put o.dst v') w'):wpList Tryz.prog ops Q (o::rest) a w:=
 K8 hgd fun _ hK'=>by
  obtain⟨v',w',hr,h2,h3⟩:=O7 w B o.type v l x h ad hx hB hl
  unfold Oper.wp execOp
  simp only[ho,resolve,invoke,builtin,jU,pG,gH,mg,dw,iy,hv,hy,hr]
  exact hK' _ _ (hK v' w' h2 h3)
theorem Rl (s:ByteArray)(W:World)(hs:s.size<=maxLen):∃(v:Value) (w':World),(convert 9 70 (.string s)).run Tryz.prog W= .ok v w'/\qh w' W.heap.size v s.data.toList/\Below W.heap.size W w':=by
 have hsz:s.data.toList.length=s.size:=by show s.data.toList.length=s.data.size;simp
 have hge:=zA W s.size 0 5
 refine⟨_,_,run_bytes_of_string W 9 70 5 s gM bH lF,⟨W.heap.size,_,_,_,by rw[hsz],aC _,bD W.drew _,.inr (aC _),by rw[hsz];exact hge,ng _ _ _ _ hs,?_,?_⟩,((aR _ W).drew).alloc (aC _) _⟩
 ·have h1:s.data.size=s.size:=rfl
  simp only[bytesRow,Dq,Array.size_map,Array.size_replicate,h1]
  omega
 ·rw[hsz]
  simp only[bytesRow,rq,Array.toList_map]
  have:(s.data.toList.map fun b=>Value.int .u8 b.toNat).length=s.size:=by rw[jM,hsz]
  rw[<-this,iE]
  rfl
def BD (data:ByteArray)(n:Int):Nat:=min n.toNat (60000 - data.size)
def rG (k:Nat):List UInt8:=(List.range k).map fun i=>UInt8.ofNat (i%251)
theorem JP (k:Nat):rG (k+1)=rG k++[UInt8.ofNat (k%251)]:=by simp[rG,List.range_succ]
theorem EY (k:Nat):(rG k).length=k:=by simp[rG]
def BB (data:ByteArray)(n:Int):List UInt8:=data.data.toList++rG (BD data n)
theorem BA (data:ByteArray)(n:Int)(w:World)(hd:data.size<=maxLen):
  Calls Tryz.prog 17 #[.string data,.int .i64 n] w fun e w'=>e= .returned (.string (strOf (BB data n)))/\Below w.heap.size w w':=by
 obtain⟨v0,w0,hcv,ht0,hb0⟩:=Rl data w hd
 have hsz:data.data.toList.length=data.size:=by show data.data.toList.length=data.data.size;simp
 obtain⟨K,hK⟩:∃K,K=BD data n:=⟨_,rfl⟩
 have HK:=ah hK
 have HL:=ah (show BB data n=data.data.toList++rG K by rw[hK];rfl)
 have HT0:=ah (aF ht0 hb0)
 obtain⟨g0,c0,cur0,fz0,rfl,-⟩:=id ht0
 clear ht0 hb0 hK
 go_enter Tryz.func17,Tryz.ntmps17
 go_wp2_with fail
 go_loopw [5,6] (fun v i wr=>∃k:Nat,k<=K/\i= .int .i64 k/\qh wr w.heap.size v (data.data.toList++rG k)/\Below w.heap.size w wr) (fun _ i _=>K - (intOf i).toNat)
 case atStart=>exact⟨0,aT _,rfl,by simpa [rG] using HT0.out.1,HT0.out.2⟩
 case round=>
  obtain⟨k,hk,rfl,ht,hb⟩:=hrel
  have hk0:k<=60000:=by have:=HK.out;unfold BD at this;omega
  obtain⟨g,c,cur,fz,rfl,-⟩:=id ht
  obtain⟨m,hm⟩:∃m:Nat,m=data.size+k:=⟨_,rfl⟩
  have hlen:(data.data.toList++rG k).length=m:=by rw[ay,hsz,EY,hm]
  have HM:=ah hm
  clear hm
  rw[hlen]
  by_cases hlt:k<K
  ·have y1:(k:Int)<n:=by have:=HK.out;unfold BD at this;omega
   have y2:(k:Int)<60000:=by have:=HK.out;unfold BD at this;omega
   have y3:(m:Int)<60000:=by have:=HK.out;have:=HM.out;unfold BD at*;omega
   obtain⟨xb,hxb⟩:∃xb,xb=UInt8.ofNat (k%251):=⟨_,rfl⟩
   obtain⟨z,hz⟩:∃z:Int,z=(xb.toNat:Int):=⟨_,rfl⟩
   have q2:(k:Int)%251=z:=by rw[hz,hxb,fe];omega
   have hnew:=bD wr (.cells #[.int .u8 z] 5)
   have hbn:=aO wr (.cells #[.int .u8 z] 5)
   have HA:=ah (show ∀(w1:World),w1=wr.alloc (.cells #[.int .u8 z] 5)->qh w1 w.heap.size (.slice (some ⟨g,0,none⟩) m c) (data.data.toList++rG k)/\w1.cell? ((⟨wr.heap.size,0,none⟩:Addr).add 0)=some (.int .u8 (xb.toNat:Int))/\w.heap.size<=w1.heap.size from fun w1 e=>by
    subst e
    refine⟨by rw[<-hlen];exact ht.below hbn,?_,aK hb.size hbn.size⟩
    rw[dY,<-hz]
    unfold World.cell?
    simp only[hnew]
    rfl)
   have hl1:(data.data.toList++rG k).length<=1000000:=by omega
   have HL1:=ah (aF hl1 hbn)
   have HX:=ah hxb
   clear ht hnew hbn hl1 hxb hz hlen hk0
   go_wp2_with (first
    |(at_builtin;refine Gl rfl (.tmp 23) (.tmp 27) rfl w.heap.size (.slice (some ⟨g,0,none⟩) m c) (data.data.toList++rG k) xb rfl (HA.out _ rfl).1 ⟨wr.heap.size,0,none⟩ rfl (HA.out _ rfl).2.1 (HA.out _ rfl).2.2 HL1.out.1 ?_;go_must (intro v' w2 ht2 hb2;refine Stop.of ?_)))
   refine Stop.on ?_
   obtain⟨g2,c2,cur2,fz2,rfl,-⟩:=id ht2
   have HT2:=ah ht2
   clear ht2
   obtain⟨m2,hm2⟩:∃m2:Nat,Hid ((data.data.toList++rG k++[xb]).length=m2):=⟨_,ah rfl⟩
   rw[hm2.out] at HT2 ⊢
   go_wp2_with fail
   go_roundw
   case rel=>exact⟨k+1,by omega,by go_num,by rw[JP,<-aL,<-HX.out];exact HT2.out,hb.trans ((HL1.out.2.mono hb.size).trans hb2)⟩
   case measure=>simp[intOf];omega
  ·obtain rfl:k=K:=by omega
   have hst:=ht.dm.strOf
   rw[hlen,<-HL.out] at hst
   have HB:=ah hb
   obtain⟨str,hstr⟩:∃s,Hid (strOf (BB data n)=s):=⟨_,ah rfl⟩
   rw[hstr.out] at hst
   clear ht hb hlen hk0 hlt
   by_cases y1:(k:Int)<n
   ·have y2:(k:Int)<60000\/¬(k:Int)<60000:=by omega
    have y3:¬(m:Int)<60000:=by have:=HK.out;have:=HM.out;unfold BD at*;omega
    rcases y2 with y2|y2
    all_goals
     go_wp2_with fail
     go_ret
     exact⟨by rw[hstr.out];rfl,HB.out⟩
   ·go_wp2_with fail
    go_ret
    exact⟨by rw[hstr.out];rfl,HB.out⟩
theorem ML (key:ByteArray):(key.size=0->key.toList.isEmpty=true/\key.toList=[])/\(key.size≠0->key.toList.isEmpty=false/\¬key.toList=[]):=by
 have hl:key.toList.length=key.size:=by rw[toList_eq];show key.data.toList.length=key.data.size;simp
 constructor
 ·intro h
  have:key.toList=[]:=aV (by omega)
  exact⟨by rw[this];rfl,this⟩
 ·intro h
  cases hq:key.toList with
  |nil=>rw[hq] at hl;simp at hl;omega
  |cons a b=>exact⟨rfl,by simp⟩
def qx (key value:ByteArray):Prop:=(1<=key.size/\key.size<=128)/\value.size<=49152
instance (key value:ByteArray):Decidable (qx key value):=by unfold qx;exact inferInstance
theorem Po (key value:ByteArray)(w:World):
  Calls Tryz.prog 18 #[.string key,.string value] w fun e w'=>w'=w/\e= .returned (.bool (decide (qx key value))):=by
 obtain⟨e1,e2⟩:=ML key
 by_cases h0:key.size=0
 ·obtain⟨z1,z2⟩:=e1 h0
  have hd:decide (qx key value)=false:=bQ (fun h=>by have:=h.1.1;omega)
  rw[hd]
  clear e1 e2 hd h0
  go_enter Tryz.func18,Tryz.ntmps18
  go_wp2
  go_ret
  exact⟨rfl,by simp[*]⟩
 ·obtain⟨z1,z2⟩:=e2 h0
  by_cases h1:key.size<=128
  ·have x1:(key.size:Int)<=128:=by omega
   by_cases h2:value.size<=49152
   ·have x2:(value.size:Int)<=49152:=by omega
    have hd:decide (qx key value)=true:=dZ ⟨⟨by omega,h1⟩,h2⟩
    rw[hd]
    clear e1 e2 hd h0
    go_enter Tryz.func18,Tryz.ntmps18
    go_wp2
    go_ret
    exact⟨rfl,by simp[*]⟩
   ·have x2:¬(value.size:Int)<=49152:=by omega
    have hd:decide (qx key value)=false:=bQ (fun h=>h2 h.2)
    rw[hd]
    clear e1 e2 hd h0
    go_enter Tryz.func18,Tryz.ntmps18
    go_wp2
    go_ret
    exact⟨rfl,by simp[*]⟩
  ·have x1:¬(key.size:Int)<=128:=by omega
   have hd:decide (qx key value)=false:=bQ (fun h=>h1 h.1.2)
   rw[hd]
   clear e1 e2 hd h0
   go_enter Tryz.func18,Tryz.ntmps18
   go_wp2
   go_ret
   exact⟨rfl,by simp[*]⟩
theorem Tz (value:ByteArray)(w:World)(hv:value.size<=1000000000):
  Calls Tryz.prog 19 #[.string value] w fun e w'=>w'=w/\e= .returned (.int .i64 ((2+gP value:Nat):Int)):=by
 by_cases h:value.size<=63
 ·have x1:(value.size:Int)<=63:=by omega
  have hb:gP value=0:=if_pos h
  rw[hb]
  clear hb h
  go_enter Tryz.func19,Tryz.ntmps19
  go_wp2_with fail
  go_ret
  exact⟨rfl,rfl⟩
 ·have x1:¬(value.size:Int)<=63:=by omega
  have hb:((2+gP value:Nat):Int)=3+((value.size:Int)+511)/512:=by unfold gP sJ;rw[if_neg h];omega
  rw[hb]
  clear hb h
  have q1:IntKind.i64.wrap ((value.size:Int)+511)=(value.size:Int)+511:=aG _ (by omega)
  have q2:IntKind.i64.wrap (3+((value.size:Int)+511)/512)=3+((value.size:Int)+511)/512:=aG _ (by omega)
  go_enter Tryz.func19,Tryz.ntmps19
  go_wp2_with fail
  go_ret
  exact⟨rfl,rfl⟩
theorem Pp (r:Nat)(v:Value)(n:Nat)(w:World)(h:w.heap[r]? =some (.cells #[v] 75 (0,0)))(hv:∃ao c,v= .slice ao n c)(hn:n<=1000000):
  Calls Tryz.prog 35 #[.pointer (some ⟨r,0,none⟩)] w fun e w'=>w'=w/\e= .returned (.int .i64 ((n:Int) - 1)):=by
 obtain⟨ao,c,rfl⟩:=hv
 obtain⟨c0,_,lr⟩:=uw h
 have q1:IntKind.i64.wrap ((n:Int) - 1)=(n:Int) - 1:=aG _ (by omega)
 clear h
 go_enter Tryz.func35,Tryz.ntmps35
 go_wp2_with fail
 go_ret
 exact⟨rfl,rfl⟩
theorem Cz:(Tryz.prog.info? 54).map (fun i=>(i.zero,i.size,i.bytes))=some (some (.agg #[.slice none 0 0]),1,24):=by kernel_rfl
theorem Ko (w:World):(Instr.makeSlice 73 (.int .i64 1) (.int .i64 1)).run Tryz.prog w= .ok (.slice (some ⟨w.heap.size,0,none⟩) 1 1) (w.alloc (.cells #[.slice none 0 0] 54)):=by
 obtain⟨i,hi,hz,hsize,hby⟩:=uh Cz
 have:=run_make (P:=Tryz.prog) (w:=w) 73 54 i _ Tryz.underlying73 hi hz .i64 .i64 1 1 (by omega) (by omega) (by rw[hby];omega) (by omega)
 rw[this,hsize]
 have hm:madeCells (Value.agg #[Value.slice none 0 0]).cells (Int.toNat 1*1)=#[.slice none 0 0]:=by kernel_rfl
 rw[hm]
 rfl
theorem Fu (kv:List Pr):∀u∈dO kv,u.oneCell'=true:=by
 intro u hu
 unfold dO at hu
 obtain⟨p,_,hu⟩:=l8.1 hu
 simp only[bM,gT,o7] at hu
 rcases hu with rfl|rfl<;>rfl
theorem UL (w:World):
  Calls Tryz.prog 20 #[] w fun e w'=>e= .returned (.pointer (some ⟨w.heap.size+1,0,none⟩))/\w'.heap[w.heap.size]? =some (.cells #[.slice none 0 0] 54 (0,0))/\w'.heap[w.heap.size+1]? =some (.cells #[.slice (some ⟨w.heap.size,0,none⟩) 1 1] 75 (0,0))/\w'.heap.size=w.heap.size+2/\Below w.heap.size w w':=by
 have hmk:=Ko w
 go_enter Tryz.func20,Tryz.ntmps20
 go_wp2_with fail
 go_ret
 have h1:=aO w (.cells #[.slice none 0 0] 54)
 have h2:=aO (w.alloc (.cells #[.slice none 0 0] 54)) (.cells #[.slice (some ⟨w.heap.size,0,none⟩) 1 1] 75)
 refine⟨by simp,?_,?_,by simp,h1.trans (h2.mono h1.size)⟩
 ·exact(h2.block _ (by simp)).trans (bD w _)
 ·have:=bD (w.alloc (.cells #[.slice none 0 0] 54)) (.cells #[.slice (some ⟨w.heap.size,0,none⟩) 1 1] 75)
  simpa using this
theorem Rv (r g m c:Nat)(Lv:Value)(kv:List Pr)(S:Nat->Prop)(w:World)(h:w.heap[r]? =some (.cells #[.slice (some ⟨g,0,none⟩) (m+1) c] 75 (0,0)))(hc:w.cell? ⟨g,m,none⟩=some Lv)(hL:jH w S Lv kv)(hm:m<=1000000)(hcc:m+1<=c/\c<=maxLen)(hl:kv.length<=100000):
  Calls Tryz.prog 22 #[.pointer (some ⟨r,0,none⟩)] w fun e w'=>∃rt v,e= .returned (.pointer (some ⟨rt,0,none⟩))/\w'.heap[rt]? =some (.cells #[v] 54 (0,0))/\aQ w' fZ w.heap.size 103 2 v kv.length (dO kv)/\Below w.heap.size w w'/\w.heap.size<=rt/\v.ownBlock≠some rt:=by
 obtain⟨ao,lc,rfl,_,hlc,_⟩:=id hL
 obtain⟨c0,_,lr⟩:=uw h
 have hgl:=aD w _ hc
 have hcc2:c<=9223372036854775807:=by have:=hcc.2;simpa [maxLen] using this
 have q1:IntKind.i64.wrap (m:Int)=(m:Int):=aG _ (by omega)
 have q2:(m:Int)<(m:Int)+1:=by omega
 have q3:(0:Int)<=(m:Int):=by omega
 have HL:=ah hL
 have HB:=ah (show ∀W:World,Below w.heap.size w W->W.cell? ⟨r,0,none⟩=some (.slice (some ⟨g,0,none⟩) (m+1) c)/\W.cell? ⟨g,m,none⟩=some (.slice ao kv.length lc)/\r<W.heap.size/\g<W.heap.size from fun W hW=>
  ⟨(hW.cell (p:=⟨r,0,none⟩) lr).trans c0,(hW.cell (p:=⟨g,m,none⟩) hgl).trans hc,ak lr hW.size,ak hgl hW.size⟩)
 clear h hL
 go_enter Tryz.func22,Tryz.ntmps22
 go_wp2_with fail
 refine aP (fun W=>Below w.heap.size w W) (fun i=> !([12,13].contains i)) [0,1,2,3,4,5,6,7,8,9,10,11,12,13] rfl (by kernel_rfl) ((aR _ w).drew) ?_
 repeat ((refine bP (v:= ?_) rfl rfl (fun _ _ _ h=>h) rfl (fun W hW=> ?_) ?_);rotate_left;(focus ((try dsimp only at hW);obtain⟨r0,r1,r2,r3⟩:=HB.out W hW;(go_simp;first|done|with_reducible rfl)));(try simp only[Act.put,ai,ax,au]))
 refine dK rfl rfl rfl ?_;intro K hK;go_simp
 have hbn:=aO w.drew (.cells #[.slice none 0 0] 54)
 have hb1:Below w.heap.size w (w.drew.alloc (.cells #[.slice none 0 0] 54)):=((aR _ w).drew).trans hbn
 have hn1:=bD w.drew (.cells #[.slice none 0 0] 54)
 refine hK.out _ _ hb1 ?_
 (try simp only[Act.put,ai,ax,au])
 repeat ((refine bP (v:= ?_) rfl rfl (fun _ _ _ h=>h) rfl (fun W hW=> ?_) ?_);rotate_left;(focus ((try dsimp only at hW);obtain⟨r0,r1,r2,r3⟩:=HB.out W hW;(go_simp;first|done|with_reducible rfl)));(try simp only[Act.put,ai,ax,au]))
 refine jO rfl rfl rfl (by kernel_rfl) ?_;intro K hK;go_simp
 refine hK.out _ _ ?_
 refine bS ?_
 obtain⟨b1,hb1e⟩:∃b1:Nat,Hid (w.heap.size=b1):=⟨_,ah rfl⟩
 obtain⟨w2,hw2⟩:∃w2:World,Hid ((w.alloc (.cells #[.slice ao kv.length lc] 54)).drew=w2):=⟨_,ah rfl⟩
 have hb2:Below w.heap.size w w2:=by rw[<-hw2.out];exact(aO w _).drew
 have h2:w2.heap[w.heap.size]? =some (.cells #[.slice ao kv.length lc] 54 (0,0)):=by
  rw[<-hw2.out]
  exact bD w _
 rw[hw2.out]
 obtain⟨d0,_,l2⟩:=uw h2
 rw[hb1e.out] at d0 l2 ⊢
 have HB2:=ah (aF hb2 h2)
 clear hb1 hbn hn1 hb2 h2 q1 q2 q3
 have hL2:jH w2 S (.slice ao kv.length lc) kv:=aX.below HL.out HB2.out.1
 have hbE:=aO w2 (.cells #[] 103)
 have hn0:aQ (w2.alloc (.cells #[] 103)) fZ w.heap.size 103 2 (.slice (some ⟨w2.heap.size,0,none⟩) 0 0) 0 []:=mq (w:=w2) (S:=fZ) (B:=w.heap.size) (e:=103) (k:=2) [] 0 0 rfl rfl (aC _) (by simp[maxLen]) HB2.out.1.size (fun _ e=>e.elim)
 have HSRC:=ah ((aX.below hL2 hbE).src (P:=Tryz.prog) bT (Fu kv))
 have HN0:=ah hn0
 clear hL2 hn0
 go_wp2_with (first
  |(at_builtin;go_must ((refine cK rfl (.tmp 16) (.tmp 18) 52 52 rfl fZ w.heap.size 103 2 32 _ bT jl rfl (.slice (some ⟨w2.heap.size,0,none⟩) 0 0) 0 [] rfl HN0.out (.slice ao kv.length lc) kv.length _ rfl HSRC.out (fun _ e=>e.elim) ?_ ?_ ?_ ?_);(focus (have:=HB2.out.1.size;simp only[aS];omega));(focus (unfold maxLen;omega));(focus omega);intro ao3 c3 w3 hown3 hk3 hb3 hd3;refine Stop.of ?_)))
 refine Stop.on ?_
 rw[dV,jq] at hown3
 have HO3:=ah (aF hown3 hb3)
 clear hown3 hb3 hk3 hd3 d0 l2
 go_wp2_with fail
 go_ret
 have hb4:=aO w3 (.cells #[.slice ao3 kv.length c3] 54)
 have hb24:Below w.heap.size w2 w3:=(hbE.mono HB2.out.1.size).trans HO3.out.2
 have hb13:=HB2.out.1.trans hb24
 refine⟨w3.heap.size,_,rfl,bD w3 _,HO3.out.1.below hb4,hb13.trans (hb4.mono hb13.size),hb13.size,fun e=> ?_⟩
 exact absurd (HO3.out.1.1.lt _ e).2 (dB _)
theorem GZ (r tp:Value)(rb:Nat)(v:Value)(n:Nat)(w:World)(hr:r= .pointer (some ⟨rb,0,none⟩))(h:w.heap[rb]? =some (.cells #[v] 75 (0,0)))(hv:∃ao c,v= .slice ao n c)(hn:n<=1000000):
  Calls Tryz.prog 26 #[r,tp,.bool false] w fun e w'=>w'=w/\e= .returned (.int .i64 ((n:Int) - 1)):=by
 subst hr
 have HD:=ah (Pp rb v n w h hv hn)
 go_enter Tryz.func26,Tryz.ntmps26
 go_wp2_with (first
  |(go_at_call 35;go_must ((refine HD.out.mono ?_);rintro e w1 ⟨hw,rfl⟩;subst w1)))
 go_ret
 exact⟨rfl,rfl⟩
theorem Fs (r rt n:Nat)(cv:Value)(ao:Option Addr)(ln lc:Nat)(Ls:List Value)(S:Nat->Prop)(B:Nat)(w:World)(h:w.heap[r]? =some (.cells #[cv] 75 (0,0)))(hO:aQ w S B 54 1 cv n Ls)(ht:w.heap[rt]? =some (.cells #[.slice ao ln lc] 54 (0,0)))(hS:∀g,S g->g<w.heap.size)(hB:B<=w.heap.size)(hn:n<=100000)(hcr:cv.ownBlock≠some r)(hct:cv.ownBlock≠some rt):
  Calls Tryz.prog 26 #[.pointer (some ⟨r,0,none⟩),.pointer (some ⟨rt,0,none⟩),.bool true] w fun e w'=>e= .returned (.int .i64 n)/\∃cv',w'.heap[r]? =some (.cells #[cv'] 75 (0,0))/\aQ w' S B 54 1 cv' (n+1) (Ls++[.slice ao ln lc])/\cv'.ownBlock≠some r/\Keep (fun g=>g=r\/cv.ownBlock=some g) w w'/\∀g,g<w.heap.size->cv.ownBlock≠some g->cv'.ownBlock≠some g:=by
 obtain⟨co,cc,rfl,_,hcc,_,_⟩:=aX.form hO.dm
 obtain⟨c0,f0,lr⟩:=uw h
 obtain⟨t0,_,lt⟩:=uw ht
 have hrt:rt≠r:=by
  rintro rfl
  rw[h] at ht
  injection ht with ht
  injection ht with _ h2
  exact absurd h2 (by decide)
 have HO:=ah hO;have HH:=ah h;have HNE:=ah hrt;have HCR:=ah hcr;have HCT:=ah hct
 clear hO h ht hrt hcr hct
 go_enter Tryz.func26,Tryz.ntmps26
 go_wp2_with fail
 refine aP (fun W=>W.cell? ⟨r,0,none⟩=some (.slice co n cc)/\W.cell? ⟨rt,0,none⟩=some (.slice ao ln lc)/\r<W.heap.size/\rt<W.heap.size/\W.frozen? ⟨r,0,none⟩=false) (fun i=> !([8,9,12].contains i)) [0,1,2,3,4,5,6,7,8,9,10,11,12] rfl (by kernel_rfl) ⟨c0,t0,lr,lt,f0⟩ ?_
 repeat ((refine bP (v:= ?_) rfl rfl (fun _ _ _ h=>h) rfl (fun W hW=> ?_) ?_);rotate_left;(focus ((try dsimp only at hW);obtain⟨r0,r1,r2,r3,r4⟩:=hW;(go_simp;first|done|with_reducible rfl)));(try simp only[Act.put,ai,ax,au]))
 refine dK rfl rfl rfl ?_;intro K hK;go_simp
 obtain⟨w1,hw1⟩:∃w1:World,Hid ((w.alloc (.cells #[.slice ao ln lc] 54)).drew=w1):=⟨_,ah rfl⟩
 have hb1:Below w.heap.size w w1:=by rw[<-hw1.out];exact(aO w _).drew
 have hsrc:Src Tryz.prog 1 73 (.slice (some ⟨w.heap.size,0,none⟩) 1 1) 1 [.slice ao ln lc] w1:=by
  rw[<-hw1.out]
  have:=gu (P:=Tryz.prog) (w:=w.drew) [.slice ao ln lc] 54 1 1 1 (tx:=73) (e':=54) rfl Tryz.underlying73 rfl (by simp[Value.oneCell'])
  exact this
 rw[hw1.out]
 have HS1:=ah (aF hb1 hsrc)
 have hO1:=ah (HO.out.below hb1)
 refine hK.out _ _ ⟨(hb1.cell (p:=⟨r,0,none⟩) lr).trans c0,(hb1.cell (p:=⟨rt,0,none⟩) lt).trans t0,ak lr hb1.size,ak lt hb1.size,(World.frozen?_of_block (a:=⟨r,0,none⟩) (hb1.block r lr)).trans f0⟩ ?_
 (try simp only[Act.put,ai,ax,au])
 clear hb1 hsrc
 repeat ((refine bP (v:= ?_) rfl rfl (fun _ _ _ h=>h) rfl (fun W hW=> ?_) ?_);rotate_left;(focus ((try dsimp only at hW);obtain⟨r0,r1,r2,r3,r4⟩:=hW;(go_simp;first|done|with_reducible rfl)));(try simp only[Act.put,ai,ax,au]))
 refine dK rfl rfl rfl ?_;intro K hK
 refine nK (.tmp 12) (.tmp 16) 73 73 rfl S B 54 1 24 _ Tryz.underlying73 Cz rfl (.slice co n cc) n Ls rfl hO1.out (.slice (some ⟨w.heap.size,0,none⟩) 1 1) 1 [.slice ao ln lc] rfl HS1.out.2 (fun g hg=>ak (hS g hg) HS1.out.1.size) (aK hB HS1.out.1.size) (by unfold maxLen;omega) (by omega) ?_
 intro ao2 c2 w2 hown2 hk2 hb2 hd2
 have hr1:=(HS1.out.1.block r lr).trans HH.out
 have hl1:=(aj.1 hr1).1
 have hr2:=(hk2.block r hl1 HCR.out).trans hr1
 obtain⟨e0,ef,e1⟩:=uw hr2
 have HX2:=ah (aF hown2 (aF hk2 (aF hr2 (aF (hd2 r hl1 HCR.out) (show ∀g,g<w.heap.size->(Value.slice co n cc).ownBlock≠some g->(Value.slice ao2 (n+1) c2).ownBlock≠some g from fun g hg hn=>hd2 g (ak hg HS1.out.1.size) hn)))))
 have HL1:=ah hl1
 have ht1:=(HS1.out.1.cell (p:=⟨rt,0,none⟩) lt).trans t0
 have lt1:=ak lt HS1.out.1.size
 have ht2:=(hk2.cell (p:=⟨rt,0,none⟩) lt1 HCT.out).trans ht1
 have lt2:=ak lt1 hk2.size
 refine hK.out _ _ ⟨e0,ht2,e1,lt2,ef⟩ ?_
 (try simp only[Act.put,ai,ax,au])
 clear hown2 hk2 hb2 hd2
 repeat ((refine bP (v:= ?_) rfl rfl (fun _ _ _ h=>h) rfl (fun W hW=> ?_) ?_);rotate_left;(focus ((try dsimp only at hW);obtain⟨r0,r1,r2,r3,r4⟩:=hW;(go_simp;first|done|with_reducible rfl)));(try simp only[Act.put,ai,ax,au]))
 refine jO rfl rfl rfl (by kernel_rfl) ?_;intro K hK;go_simp
 refine hK.out _ _ ?_
 refine bS ?_
 have hk3:Keep (· =r) w2 (w2.setCell ⟨r,0,none⟩ (.slice ao2 (n+1) c2)):=(Keep.refl (· =r) _).setCell (p:=⟨r,0,none⟩) (.inr rfl) _
 have hr3:(w2.setCell ⟨r,0,none⟩ (.slice ao2 (n+1) c2)).heap[r]? =some (.cells #[.slice ao2 (n+1) c2] 75 (0,0)):=by
  simp[World.setCell,bn,HX2.out.2.2.1]
 have HD:=ah (Pp r _ (n+1) _ hr3 ⟨ao2,c2,rfl⟩ (by omega))
 have HF:=ah (aF hk3 hr3)
 clear hk3 hr3
 go_wp2_with (first
  |(go_at_call 35;go_must ((refine HD.out.mono ?_);rintro e w4 ⟨hw,rfl⟩;subst w4)))
 go_ret
 refine⟨by simp,_,HF.out.2,HX2.out.1.keep (fun g hg hl _=>⟨HF.out.1.block g hl (fun e=>HX2.out.2.2.2.1 (e▸hg)),?_⟩),HX2.out.2.2.2.1,?_,HX2.out.2.2.2.2⟩
 ·rename_i hns
  exact hns
 ·exact(((Keep.of_below HS1.out.1 (fun g=>g=r\/(Value.slice co n cc).ownBlock=some g)).trans (HX2.out.2.1.mono (fun g _ e=> .inr e)) (fun _ _ e=>e)).trans (HF.out.1.mono (fun g _ e=> .inl e)) (fun _ _ e=>e))
def vU (F:Nat->Prop)(w:World):Nat->Prop:=fun g=>g<w.heap.size/\¬F g
def yj (F:Nat->Prop)(w w':World):Nat->Prop:=fun g=>F g\/(w.heap.size<=g/\g<w'.heap.size)
theorem Ho {F:Nat->Prop}{w w':World}(h:w.heap.size<=w'.heap.size)(g:Nat):vU (yj F w w') w' g↔vU F w g:=by
 constructor
 ·rintro⟨h1,h2⟩
  have h3:¬F g:=fun e=>h2 (.inl e)
  refine⟨?_,h3⟩
  apply fV
  intro hn
  exact h2 (.inr ⟨by omega,h1⟩)
 ·rintro⟨h1,h2⟩
  exact⟨by omega,fun e=>e.elim h2 (fun e=>by omega)⟩
def Uq (F:Nat->Prop)(w:World)(r rt:Nat)(cms:List (List Pr))(kv:List Pr)(cv:Value)(Ls:List Value):Prop:=
 w.heap[r]? =some (.cells #[cv] 75 (0,0))/\aQ w (vU F w) 0 54 1 cv cms.length Ls/\cv.ownBlock≠some r/\cv.ownBlock≠some rt/\
 (∀i (hi:i<cms.length),∃Lv,Ls[i]? =some Lv/\jH w (fun g=>vU F w g\/g=r\/cv.ownBlock=some g\/g=rt) Lv cms[i])/\Dm w (fun g=>vU F w g\/g=r\/cv.ownBlock=some g) rt kv/\F r/\F rt/\r≠rt
def F6 (F:Nat->Prop)(w:World)(r rt:Nat)(cms:List (List Pr))(kv:List Pr):Prop:=∃cv Ls,Uq F w r rt cms kv cv Ls
section
variable {F:Nat->Prop} {w w':World} {r rt:Nat} {cms:List (List Pr)} {kv:List Pr}
theorem Uq.sub {cv:Value}{Ls:List Value}(h:Uq F w r rt cms kv cv Ls):∀g,(vU F w g\/g=r\/cv.ownBlock=some g)->g<w.heap.size:=by
 obtain⟨h1,h2,_⟩:=h
 rintro g (hg|rfl|hg)
 ·exact hg.1
 ·exact(aj.1 h1).1
 ·exact(h2.1.lt g hg).2
theorem F6.prog (h:F6 F w r rt cms kv)(hk:Keep (fun g=>¬F g) w w'):F6 F w' r rt cms kv:=by
 obtain⟨cv,Ls,h1,h2,h3,h4,h5,⟨h6,v,h7,h8⟩,h9,h10,h11⟩:=h
 have hF:∀g,g<w.heap.size->¬vU F w g->F g:=fun g hg hn=>fV fun e=>hn ⟨hg,e⟩
 have hO:∀g,F g->¬vU F w' g:=fun g hg e=>e.2 hg
 have hb:∀g,g<w.heap.size->F g->w'.heap[g]? =w.heap[g]? :=fun g hg hf=>hk.block g hg (fun e=>e hf)
 refine⟨cv,Ls,(hb r (aj.1 h1).1 h9).trans h1,h2.keep (fun g _ hl hn=>⟨hb g hl (hF g hl hn),hO g (hF g hl hn)⟩),h3,h4,fun i hi=> ?_,⟨fun e=> ?_,v,(hb rt (aj.1 h7).1 h10).trans h7,aX.keep h8 fun g _ hl hn=> ?_⟩,h9,h10,h11⟩
 ·obtain⟨Lv,q1,q2⟩:=h5 i hi
  refine⟨Lv,q1,aX.keep q2 fun g _ hl hn=> ?_⟩
  have hf:=hF g hl (fun e=>hn (.inl e))
  exact⟨hb g hl hf,fun e=>e.elim (hO g hf) (fun e=>hn (.inr e))⟩
 ·exact e.elim (hO rt h10) (fun e=>h6 (.inr e))
 ·have hf:=hF g hl (fun e=>hn (.inl e))
  exact⟨hb g hl hf,fun e=>e.elim (hO g hf) (fun e=>hn (.inr e))⟩
theorem Uq.tree {cv:Value}{Ls:List Value}{kv':List Pr}(h:Uq F w r rt cms kv cv Ls)(hk:Keep (· =rt) w w')(hR:Dm w' (fun g=>vU F w g\/g=r\/cv.ownBlock=some g) rt kv'):Uq (yj F w w') w' r rt cms kv' cv Ls:=by
 have hs:=h.sub
 obtain⟨h1,h2,h3,h4,h5,h6,h9,h10,h11⟩:=h
 have hO:=fun g=>Ho (F:=F) hk.size g
 have e:(fun g=>vU (yj F w w') w' g\/g=r\/cv.ownBlock=some g)=fun g=>vU F w g\/g=r\/cv.ownBlock=some g:=by
  funext g;rw[hO g]
 refine⟨(hk.block r (aj.1 h1).1 h11).trans h1,h2.keep (fun g hg hl hn=>⟨hk.block g hl (fun e=>h4 (e▸hg)),fun e=>hn ((hO g).1 e)⟩),h3,h4,fun i hi=> ?_,by rw[e];exact hR,.inl h9,.inl h10,h11⟩
 obtain⟨Lv,q1,q2⟩:=h5 i hi
 refine⟨Lv,q1,aX.keep q2 fun g _ hl hn=>⟨hk.block g hl (fun e=>hn (.inr (.inr (.inr e)))),fun e=>hn (e.imp (hO g).1 id)⟩⟩
theorem F6.put (h:F6 F w r rt cms kv)(key value:ByteArray)(hr:gD kv)(hl:kv.length<=90000):
  Calls Tryz.prog 24 #[.pointer (some ⟨rt,0,none⟩),.string key,.string value] w fun e w'=>e= .returned (.tuple #[])/\F6 (yj F w w') w' r rt cms (jB kv key value)/\Keep (· =rt) w w':=by
 obtain⟨cv,Ls,h⟩:=h
 refine(O8 rt kv key value w _ h.sub h.2.2.2.2.2.1 hr hl).mono ?_
 rintro e w' ⟨rfl,hR,hk⟩
 exact⟨rfl,⟨cv,Ls,h.tree hk hR⟩,hk⟩
def Q6 (F:Nat->Prop)(w:World)(r:Nat)(cms:List (List Pr)):Prop:=∃cv Ls,
 w.heap[r]? =some (.cells #[cv] 75 (0,0))/\aQ w (vU F w) 0 54 1 cv cms.length Ls/\cv.ownBlock≠some r/\
 (∀i (hi:i<cms.length),∃Lv,Ls[i]? =some Lv/\jH w (fun g=>vU F w g\/g=r\/cv.ownBlock=some g) Lv cms[i])/\F r
theorem jH.less {S S':Nat->Prop}{v:Value}{ps:List Pr}(h:jH w S v ps)(hS:∀g,S' g->S g):jH w S' v ps:=aX.keep h fun g _ _ hn=>⟨rfl,fun e=>hn (hS g e)⟩
theorem Q6.prog (h:Q6 F w r cms)(hk:Keep (fun g=>¬F g) w w'):Q6 F w' r cms:=by
 obtain⟨cv,Ls,h1,h2,h3,h5,h9⟩:=h
 have hF:∀g,g<w.heap.size->¬vU F w g->F g:=fun g hg hn=>fV fun e=>hn ⟨hg,e⟩
 have hO:∀g,F g->¬vU F w' g:=fun g hg e=>e.2 hg
 have hb:∀g,g<w.heap.size->F g->w'.heap[g]? =w.heap[g]? :=fun g hg hf=>hk.block g hg (fun e=>e hf)
 refine⟨cv,Ls,(hb r (aj.1 h1).1 h9).trans h1,h2.keep (fun g _ hl hn=>⟨hb g hl (hF g hl hn),hO g (hF g hl hn)⟩),h3,fun i hi=> ?_,h9⟩
 obtain⟨Lv,q1,q2⟩:=h5 i hi
 refine⟨Lv,q1,aX.keep q2 fun g _ hl hn=> ?_⟩
 have hf:=hF g hl (fun e=>hn (.inl e))
 exact⟨hb g hl hf,fun e=>e.elim (hO g hf) (fun e=>hn (.inr e))⟩
theorem F6.NK (h:F6 F w r rt cms kv)(hl:cms.length<=100000):
  Calls Tryz.prog 26 #[.pointer (some ⟨r,0,none⟩),.pointer (some ⟨rt,0,none⟩),.bool false] w fun e w'=>w'=w/\e= .returned (.int .i64 ((cms.length:Int) - 1)):=by
 obtain⟨cv,Ls,h1,h2,_⟩:=h
 obtain⟨ao,c,rfl,_⟩:=aX.form h2.dm
 exact GZ _ _ r _ cms.length w rfl h1 ⟨ao,c,rfl⟩ (by omega)
theorem Q6.begin {last:List Pr}(h:Q6 F w r (cms++[last]))(hl:cms.length<=100000)(hll:last.length<=100000):
  Calls Tryz.prog 22 #[.pointer (some ⟨r,0,none⟩)] w fun e w'=>∃rt',e= .returned (.pointer (some ⟨rt',0,none⟩))/\F6 (yj F w w') w' r rt' (cms++[last]) last/\Below w.heap.size w w':=by
 obtain⟨cv,Ls,h1,h2,h3,h5,h9⟩:=h
 have hlen:(cms++[last]).length=cms.length+1:=by simp
 rw[hlen] at h2
 obtain⟨g,c,rfl,hc1,hc2,hg1,hg2⟩:=h2.Ay (by omega)
 obtain⟨Lv,q1,q2⟩:=h5 cms.length (by rw[hlen];omega)
 have e1:(cms++[last])[cms.length]'(by rw[hlen];omega)=last:=by simp
 rw[e1] at q2
 have hcell:w.cell? ⟨g,cms.length,none⟩=some Lv:=by
  have:=h2.1.cells (g:=g) rfl cms.length Lv q1
  rwa [dY,dV] at this
 refine(Rv r g cms.length c Lv last _ w h1 hcell q2 (by omega) ⟨hc1,hc2⟩ hll).mono ?_
 rintro e w' ⟨rt',v',rfl,b1,b2,b3,b4,b5⟩
 have hO:=fun g=>Ho (F:=F) b3.size g
 have hlt:=(aj.1 h1).1
 have hgl:g<w.heap.size:=hg2
 have hltr:=(aj.1 b1).1
 refine⟨rt',rfl,⟨_,Ls,(b3.block r hlt).trans h1,?_,h3,?_,fun i hi=> ?_,⟨?_,v',b1,?_⟩,.inl h9,.inr ⟨b4,hltr⟩,by omega⟩,b3⟩
 ·rw[hlen]
  exact h2.keep (fun g hg hl hn=>⟨b3.block g hl,fun e=>hn ((hO g).1 e)⟩)
 ·intro e
  injection e with e
  have e:g=rt':=e
  omega
 ·obtain⟨Lv,q1,q2⟩:=h5 i hi
  refine⟨Lv,q1,aX.keep q2 fun g' _ hl hn=>⟨b3.block g' hl,fun e=> ?_⟩⟩
  rcases e with e|e|e|e
  ·exact hn (.inl ((hO g').1 e))
  ·exact hn (.inr (.inl e))
  ·exact hn (.inr (.inr e))
  ·omega
 ·rintro(e|e|e)
  ·have:=((hO rt').1 e).1;omega
  ·omega
  ·injection e with e
   have e:g=rt':=e
   omega
 ·have hown:=b2.lo
  refine aX.keep b2.dm fun g' hg' hl _=>⟨rfl,fun e=> ?_⟩
  have hb:=hown g' hg'
  rcases e with e|e|e
  ·have:=((hO g').1 e).1;omega
  ·omega
  ·injection e with e
   have e:g=g':=e
   omega
end
variable {D:Nat->Dk->Lg->Pg->Prop}
section
variable {b:iW} {w w':World} {v t N R dn u P:Nat} {kv kv0:List Pr} {ch:Bool}
theorem VB.jV {S:Nat->Prop}(h:VB b w S):Keep (fun g=>¬b.F g) b.w w:=⟨h.os,h.tape,h.output,h.size,fun k _ hn=>h.block k (Classical.not_not.1 hn)⟩
theorem VB.re {S:Nat->Prop}(h:VB b w S):VB ⟨b.F,w,b.D⟩ w S:=⟨rfl,rfl,rfl,aC _,fun _ _=>rfl,fun g hg=>ak (h.fs g hg) h.size,h.lo⟩
theorem qa.jV (h:qa b v N R dn u kv w):Keep (fun g=>¬b.F g) b.w w:=by obtain⟨_,_,_,_,_,_,_,_,_,_,_,h,_⟩:=h;exact h.jV
theorem qF.jV (h:qF b v t N R dn u kv0 kv ch P w):Keep (fun g=>¬b.F g) b.w w:=by obtain⟨_,_,_,_,_,_,_,_,_,_,_,h,_⟩:=h;exact h.jV
theorem Gd.jV (h:Gd b v t N R dn u kv0 w):Keep (fun g=>¬b.F g) b.w w:=by obtain⟨_,_,_,_,_,_,_,_,_,h,_⟩:=h;exact h.jV
theorem qa.re (h:qa b v N R dn u kv w):qa ⟨b.F,w,b.D⟩ v N R dn u kv w:=by
 obtain⟨S,pg,d,σ,l,p,f,root,es,tb,hA,hB,h1⟩:=h
 exact⟨S,pg,d,σ,l,p,f,root,es,tb,hA,hB.re,h1⟩
theorem qF.re (h:qF b v t N R dn u kv0 kv ch P w):qF ⟨b.F,w,b.D⟩ v t N R dn u kv0 kv ch P w:=by
 obtain⟨S,tr,mp,σ,root,es,tb,root0,es0,tb0,hA,hB,h1⟩:=h
 exact⟨S,tr,mp,σ,root,es,tb,root0,es0,tb0,hA,hB.re,h1⟩
theorem Gd.re (h:Gd b v t N R dn u kv0 w):Gd ⟨b.F,w,b.D⟩ v t N R dn u kv0 w:=by
 obtain⟨S,tr,mp,σ,ch,root0,es0,tb0,hA,hB,h1⟩:=h
 exact⟨S,tr,mp,σ,ch,root0,es0,tb0,hA,hB.re,h1⟩
end
theorem Keep.out {F F0:Nat->Prop}{w w':World}(h:Keep (fun g=>¬F g) w w')(hF:∀g,F0 g->F g):Keep (fun g=>¬F0 g) w w':=h.mono fun g _ e hf=>e (hF g hf)
theorem F6.Vt {F:Nat->Prop}{w:World}{r rt:Nat}{cms:List (List Pr)}{kv:List Pr}(h:F6 F w r rt cms kv):∃vv S,w.heap[rt]? =some (.cells #[vv] 54 (0,0))/\jH w S vv kv:=by
 obtain⟨cv,Ls,_,_,_,_,_,⟨_,vv,h1,h2⟩,_⟩:=h
 exact⟨vv,_,h1,h2⟩
theorem Q6.new (w:World):
  Calls Tryz.prog 20 #[] w fun e w'=>∃r,e= .returned (.pointer (some ⟨r,0,none⟩))/\Below w.heap.size w w'/\Q6 (fun g=>w.heap.size<=g/\g<w'.heap.size) w' r [[]]:=by
 refine(UL w).mono ?_
 rintro e w' ⟨rfl,h1,h2,h3,hb⟩
 refine⟨_,rfl,hb,_,[.slice none 0 0],h2,⟨?_,fun g hg e=> ?_⟩,?_,fun i hi=> ?_,⟨by omega,by omega⟩⟩
 ·refine⟨rfl,.inr ⟨w.heap.size,1,#[.slice none 0 0],rfl,aT _,h1,by simp,by decide,rfl,rfl⟩⟩
 ·injection hg with hg
  subst hg
  exact e.2 ⟨aC _,by show w.heap.size<w'.heap.size;omega⟩
 ·intro e
  injection e with e
  have e:w.heap.size=w.heap.size+1:=e
  omega
 ·have:i=0:=by simpa using hi
  subst this
  exact⟨_,rfl,aX.nil _ _ _⟩
theorem qF.Rx {w0:iW}{w:World}{v t N R dn u P:Nat}{kv kv0:List Pr}{ch:Bool}(h:qF w0 v t N R dn u kv0 kv ch P w)(key value:ByteArray)(hb:¬qx key value):
  Calls Tryz.prog 23 #[.pointer (some ⟨t,0,none⟩),.string key,.string value] w fun e w'=>w'=w/\e= .returned (.int .i64 1):=by
 by_cases hg:1<=key.size/\key.size<=128
 ·obtain⟨S,tr,mp,σ,root,es,tb,root0,es0,tb0,hA,_⟩:=h
  refine(OG t tr mp ch w key value hA.tx.tx hg (Nat.lt_of_not_le fun e=>hb ⟨hg,e⟩)).mono ?_
  rintro e w' ⟨rfl,rfl⟩
  exact⟨rfl,rfl⟩
 ·exact Lc _ key value 1 w (h.no hg) (by decide)
variable {D:Nat->Dk->Lg->Pg->Prop}
structure Fr (F F0:Nat->Prop)(w:World)(F' F0':Nat->Prop)(w':World):Prop where
 sub:∀g,F0' g->F' g
 grow:∀g,F g->F' g
 lo:∀g,F0' g->F0 g\/w.heap.size<=g
 keep:Keep (fun g=>F g->F0 g) w w'
variable {D:Nat->Dk->Lg->Pg->Prop}
variable {D:Nat->Dk->Lg->Pg->Prop}
def JT (D:Nat->Dk->Lg->Pg->Prop)(F F0:Nat->Prop)(v r t rt N R u P:Nat)(cms:List (List Pr))(kv0 kv:List Pr)(ch:Bool)(w:World):Prop:=qF ⟨F,w,D⟩ v t N R cms.length u kv0 kv ch P w/\F6 F0 w r rt (cms++[kv0]) kv
def JE (D:Nat->Dk->Lg->Pg->Prop)(F F0:Nat->Prop)(v r t rt N R u:Nat)(cms:List (List Pr))(kv0 kv:List Pr)(w:World):Prop:=Gd ⟨F,w,D⟩ v t N R cms.length u kv0 w/\F6 F0 w r rt (cms++[kv0]) kv
def bZ.flushed (σ:bZ)(d:Dk)(l:Lg):bZ:={σ with H:={σ.H with dk:=d,lg:=l}}
section
variable {w:World} {v:Nat} {S:Nat->Prop} {mp:VS} {σ:bZ}
def Vx (σ:bZ)(d:Dk)(l:Lg):Prop:=QH σ.H.dk σ.H.lg σ.H.pg d l
end
theorem GK {ps:List Pr}:gD ps↔(ps.map (·.1)).Pairwise (fun a b=>lt a b=true):=by unfold gD;rw[uF]
theorem Ij (ps:List Pr)(key v v':ByteArray):(jB ps key v).map (·.1)=(jB ps key v').map (·.1):=by unfold jB;split<;>simp[List.map_set]
theorem Qc {ps:List Pr}{key v:ByteArray}(hk:key.size<=128)(hr:gD ps):gD (jB ps key v):=by
 rw[GK,Ij ps key v ⟨#[]⟩,<-GK]
 exact(Cy key ⟨#[]⟩ hk (by decide)).rise ps hr
structure Kv (kv:List Pr)(n:Nat):Prop where
 rise:gD kv
 len:kv.length<=n
 val:∀p∈kv,p.2.size<=49152
theorem Kv.le {kv:List Pr}{n m:Nat}(h:Kv kv n)(hm:n<=m):Kv kv m:=⟨h.rise,aK h.len hm,h.val⟩
theorem Kv.nil (n:Nat):Kv [] n:=⟨uJ,aT _,by simp⟩
theorem Kv.ins {kv:List Pr}{n:Nat}(h:Kv kv n){key value:ByteArray}(hk:key.size<=128)(hv:value.size<=49152):Kv (jB kv key value) (n+1):=by
 refine⟨Qc hk h.rise,?_,fun p hp=> ?_⟩
 ·have:=h.len
  have:=(Cy key ⟨#[]⟩ hk (by decide)).len kv
  have e:=congrArg List.length (Ij kv key value ⟨#[]⟩)
  simp only[jM] at e
  omega
 ·unfold jB at hp
  split at hp
  ·rcases List.mem_or_eq_of_mem_set hp with q|rfl
   ·exact h.val p q
   ·exact hv
  ·rcases bX.1 hp with q|q
   ·exact h.val p (eO q)
   ·rcases bM.1 q with rfl|q
    ·exact hv
    ·exact h.val p (dh q)
def Jo (F:Nat->Prop)(w:World)(rt:Nat)(kr:List Pr):Prop:=F rt/\∃v,w.heap[rt]? =some (.cells #[v] 54 (0,0))/\jH w (vU F w) v kr
theorem Jo.prog {F:Nat->Prop}{w w':World}{rt:Nat}{kr:List Pr}(h:Jo F w rt kr)(hk:Keep (fun g=>¬F g) w w'):Jo F w' rt kr:=by
 obtain⟨h1,v,h2,h3⟩:=h
 refine⟨h1,v,(hk.block rt (aj.1 h2).1 (fun e=>e h1)).trans h2,aX.keep h3 fun g _ hl hn=> ?_⟩
 have hf:F g:=fV fun e=>hn ⟨hl,e⟩
 exact⟨hk.block g hl (fun e=>e hf),fun e=>e.2 hf⟩
theorem F6.refl {F F0:Nat->Prop}{w:World}{r rt:Nat}{cms:List (List Pr)}{kv:List Pr}(h:F6 F0 w r rt cms kv)(hF:∀g,F0 g->F g):Jo F w rt kv:=by
 obtain⟨cv,Ls,h1,h2,h3,h4,h5,⟨h6,v,h7,h8⟩,h9,h10,h11⟩:=h
 exact⟨hF rt h10,v,h7,h8.less fun g e=> .inl ⟨e.1,fun x=>e.2 (hF g x)⟩⟩
theorem F6.IX {F F0:Nat->Prop}{w:World}{r rt:Nat}{cms:List (List Pr)}{kv:List Pr}(h:F6 F0 w r rt cms kv)(hF:∀g,F0 g->F g)(b:Bool)(hl:cms.length<=100000):
  Calls Tryz.prog 26 #[.pointer (some ⟨r,0,none⟩),.pointer (some ⟨rt,0,none⟩),.bool b] w fun e w'=>e= .returned (.int .i64 ((cms.length:Int) - 1+(if b then 1 else 0)))/\Jo (yj F w w') w' rt kv/\∃M:Nat->Prop,Keep M w w'/\∀g,M g->F0 g:=by
 cases b with
 |false=>
  refine(h.NK hl).mono ?_
  rintro e w' ⟨rfl,rfl⟩
  obtain⟨h1,v,h2,h3⟩:=h.refl hF
  exact⟨by simp,⟨.inl h1,v,h2,h3.less fun g e=>⟨e.1,fun x=>e.2 (.inl x)⟩⟩,fun _=>False,Keep.refl _ _,fun _ e=>e.elim⟩
 |true=>
  obtain⟨cv,Ls,h1,h2,h3,h4,h5,⟨h6,v,h7,h8⟩,h9,h10,h11⟩:=h
  obtain⟨vo,vc,rfl,_⟩:=aX.form h8
  refine(Fs r rt cms.length cv vo kv.length vc Ls _ 0 w h1 h2 h7 (fun g hg=>hg.1) (aT _) hl h3 h4).mono ?_
  rintro e w' ⟨rfl,cv',b1,b2,b3,b4,b5⟩
  have hlr:=(aj.1 h7).1
  have hrowF:∀g,cv.ownBlock=some g->F0 g:=fun g hg=>fV fun e=>h2.2 g hg ⟨(h2.1.lt g hg).2,e⟩
  refine⟨by simp,⟨.inl (hF _ h10),_,(b4.block rt hlr (fun e=>e.elim (fun e=>h11 e.symm) h4)).trans h7,aX.keep h8 fun g _ hg hn=>⟨b4.block g hg (fun e=>hn (.inr e)),fun e=>hn (.inl ⟨hg,fun x=>e.2 (.inl (hF g x))⟩)⟩⟩,_,b4,fun g e=>e.elim (fun e=>e▸h9) (hrowF g)⟩
structure RB (w0:World)(F F0:Nat->Prop)(w:World):Prop where
 sub:∀g,F0 g->F g
 old:∀g,g<w0.heap.size->F g/\¬F0 g
 nD:Below w0.heap.size w0 w
theorem RB.keep {w0 w w':World}{F F0:Nat->Prop}(h:RB w0 F F0 w)(hk:Keep (fun g=>¬F g) w w'):RB w0 F F0 w':=
 ⟨h.sub,h.old,h.nD.trans (hk.ku h.nD.size fun g hg e=>e (h.old g hg).1)⟩
theorem RB.grow {w0 w w':World}{F F0 M:Nat->Prop}(h:RB w0 F F0 w)(hk:Keep M w w')(hM:∀g,M g->F0 g):RB w0 (yj F w w') (yj F0 w w') w':=
 ⟨fun g e=>e.imp (h.sub g) id,fun g hg=>⟨.inl (h.old g hg).1,fun e=>e.elim (h.old g hg).2 (fun e=>by have:=h.nD.size;omega)⟩,h.nD.trans (hk.ku h.nD.size fun g hg e=>(h.old g hg).2 (hM g e))⟩
theorem RB.below {w0 w w':World}{F F0:Nat->Prop}(h:RB w0 F F0 w)(hb:Below w.heap.size w w'):RB w0 (yj F w w') F0 w':=
 ⟨fun g e=> .inl (h.sub g e),fun g hg=>⟨.inl (h.old g hg).1,(h.old g hg).2⟩,h.nD.trans (hb.mono h.nD.size)⟩
def FZ (w0:World)(d v r t rt N R P:Nat)(kv kr:List Pr)(ch:Bool)(w:World):Prop:=
 ∃F F0,RB w0 F F0 w/\qF ⟨F,w,Jj d⟩ v t N R 0 0 [] kv ch P w/\F6 F0 w r rt [[]] kr
def Un (w0:World)(d v r rt N R n:Nat)(kv kr:List Pr)(w:World):Prop:=
 ∃F F0 u,RB w0 F F0 w/\qa ⟨F,w,Jj d⟩ v N R n u kv w/\F6 F0 w r rt [[]] kr
def SN (w0:World)(d v rt N R n:Nat)(kv kr:List Pr)(w:World):Prop:=
 ∃F u,RB w0 F (fun _=>False) w/\qa ⟨F,w,Jj d⟩ v N R n u kv w/\Jo F w rt kr
def Uo (w0:World)(d rt N R n:Nat)(kv kr:List Pr)(w:World):Prop:=
 ∃F u,RB w0 F (fun _=>False) w/\DV ⟨F,w,Jj d⟩ d (R+1) N n u kv w/\Jo F w rt kr
section
variable {w0 w:World} {d v r t rt N R P n:Nat} {kv kr:List Pr} {ch:Bool}
theorem FZ.nD (h:FZ w0 d v r t rt N R P kv kr ch w):Below w0.heap.size w0 w:=by obtain⟨F,F0,h,_⟩:=h;exact h.nD
theorem FZ.below (h:FZ w0 d v r t rt N R P kv kr ch w){w':World}(hb:Below w.heap.size w w'):FZ w0 d v r t rt N R P kv kr ch w':=by
 obtain⟨F,F0,h1,h2,h3⟩:=h
 exact⟨_,F0,h1.below hb,h2.next (M:=fun _=>False) (Keep.of_below hb _) (fun _ e=>e.elim),h3.prog (Keep.of_below hb _)⟩
theorem FZ.put (h:FZ w0 d v r t rt N R P kv kr ch w)(key value:ByteArray)(hl:kv.length<=4090)(hg:1<=key.size/\key.size<=128)(hv:value.size<=49152)(hP:2+0+nW kv+2*(kv.length+1)+gP value<=P)(hN:P<=N):
  Calls Tryz.prog 23 #[.pointer (some ⟨t,0,none⟩),.string key,.string value] w fun e w'=>e= .returned (.int .i64 0)/\FZ w0 d v r t rt N R P (jB kv key value) kr (ch|| !decide (fD kv key=some value)) w':=by
 obtain⟨F,F0,h1,h2,h3⟩:=h
 refine(h2.put key value hl hg hv hP).mono ?_
 rintro e w' (⟨rfl,hT⟩|⟨_,hn,_⟩)
 ·exact⟨rfl,F,F0,h1.keep hT.jV,hT.re,h3.prog (hT.jV.out h1.sub)⟩
 ·omega
theorem FZ.Vj (h:FZ w0 d v r t rt N R P kv kr ch w)(key value:ByteArray)(hr:gD kr)(hl:kr.length<=90000):
  Calls Tryz.prog 24 #[.pointer (some ⟨rt,0,none⟩),.string key,.string value] w fun e w'=>e= .returned (.tuple #[])/\FZ w0 d v r t rt N R P kv (jB kr key value) ch w':=by
 obtain⟨F,F0,h1,h2,h3⟩:=h
 have hrt:F0 rt:=by obtain⟨_,_,h⟩:=h3;exact h.2.2.2.2.2.2.2.1
 refine(h3.put key value hr hl).mono ?_
 rintro e w' ⟨rfl,hR,hk⟩
 exact⟨rfl,_,_,h1.grow hk (fun g e=>e▸hrt),h2.next hk (fun g e=>e▸h1.sub _ hrt),hR⟩
theorem FZ.commit (h:FZ w0 d v r t rt N R P kv kr ch w)(hch:ch= !kv.isEmpty)(hR:Cq P<=R)(hP:P<=1024):
  Calls Tryz.prog 25 #[.pointer (some ⟨t,0,none⟩)] w fun e w'=>∃n:Nat,n=(if kv.isEmpty then 0 else 1)/\e= .returned (.tuple #[.int .i64 n,.int .i64 0])/\Un w0 d v r rt N R n kv kr w':=by
 obtain⟨F,F0,h1,h2,h3⟩:=h
 refine(h2.commit (by omega) (Ma rfl)).mono ?_
 have fin:∀(w':World) (n u:Nat) (kv':List Pr),qa ⟨F,w,Jj d⟩ v N R n u kv' w'->Un w0 d v r rt N R n kv' kr w':=fun w' n u kv' hV=>⟨F,F0,u,h1.keep hV.jV,hV.re,h3.prog (hV.jV.out h1.sub)⟩
 rintro e w' (⟨rfl,rfl,rfl,hV⟩|⟨rfl,ho,_⟩|⟨rfl,rfl,u',hV⟩)
 ·exact⟨0,rfl,rfl,fin _ _ _ _ hV⟩
 ·rw[Nat.sub_zero] at ho;omega
 ·refine⟨1,?_,rfl,fin _ _ _ _ hV⟩
  cases kv with
  |nil=>cases hch
  |cons _ _=>rfl
theorem Un.LB (h:Un w0 d v r rt N R n kv kr w)(b:Bool):
  Calls Tryz.prog 26 #[.pointer (some ⟨r,0,none⟩),.pointer (some ⟨rt,0,none⟩),.bool b] w fun e w'=>e= .returned (.int .i64 (if b then 1 else 0))/\SN w0 d v rt N R n kv kr w':=by
 obtain⟨F,F0,u,h1,h2,h3⟩:=h
 refine(h3.IX h1.sub b (by simp)).mono ?_
 rintro e w' ⟨rfl,hR,M,hk,hM⟩
 have hb:Below w0.heap.size w0 w':=h1.nD.trans (hk.ku h1.nD.size fun g hg e=>(h1.old g hg).2 (hM g e))
 exact⟨by cases b<;>simp,_,u,⟨fun _ e=>e.elim,fun g hg=>⟨.inl (h1.old g hg).1,id⟩,hb⟩,h2.next hk (fun g e=>h1.sub g (hM g e)),hR⟩
theorem SN.sync (h:SN w0 d v rt N R n kv kr w)(hn:n<=100000000):
  Calls Tryz.prog 27 #[.pointer (some ⟨v,0,none⟩)] w fun e w'=>e= .returned (.int .i64 0)/\Uo w0 d rt N R n kv kr w':=by
 obtain⟨F,u,h1,h2,h3⟩:=h
 refine(h2.sync hn (JV d) (fun _ _ _ _ e=>e.2) (fun _ _ _ _ _ _ e s=>⟨e.1,s.fu e.2,s.uM.trans s.last.symm⟩)).mono ?_
 rintro e w' ⟨rfl,hV⟩
 have hk:Keep (fun g=>¬F g) w w':=hV.jV
 exact⟨rfl,F,u,h1.keep hk,(hV.re.dv hn (fun _ _ _ _ e=>e)).to,h3.prog hk⟩
theorem DV.jV {b:iW}{log u:Nat}(h:DV b d log N n u kv w):Keep (fun g=>¬b.F g) b.w w:=by obtain⟨_,_,_,_,_,_,_,_,_,_,h,_⟩:=h;exact h.jV
theorem DV.re {b:iW}{log u:Nat}(h:DV b d log N n u kv w):DV ⟨b.F,w,b.D⟩ d log N n u kv w:=by
 obtain⟨a1,a2,a3,a4,a5,a6,a7,a8,a9,a10,h,a11⟩:=h
 exact⟨a1,a2,a3,a4,a5,a6,a7,a8,a9,a10,h.re,a11⟩
theorem Uo.oP (h:Uo w0 d rt N R n kv kr w):
  Calls Tryz.prog 28 #[.pointer (some ⟨d,0,none⟩),.slice none 0 0] w fun e w'=>e= .returned (.tuple #[])/\Uo w0 d rt N R n kv kr w':=by
 obtain⟨F,u,h1,h2,h3⟩:=h
 refine(h2.oP (.slice none 0 0) [] (fun _ _=>zw.nil _ _)).mono ?_
 rintro e w' ⟨rfl,hV⟩
 have hk:Keep (fun g=>¬F g) w w':=hV.jV
 exact⟨rfl,F,u,h1.keep hk,hV.re,h3.prog hk⟩
theorem Uo.open_ (h:Uo w0 d rt N R n kv kr w)(log:Nat)(hlog:R+1=log)(h1:6<=log)(h2:8<=N)(hn:n<=100000000)(hl:kv.length<=4090):
  Calls Tryz.prog 10 #[.pointer (some ⟨d,0,none⟩),.int .i64 log] w fun e w'=>∃v,e= .returned (.tuple #[.pointer (some ⟨v,0,none⟩),.int .i64 0])/\SN w0 d v rt N R n kv kr w':=by
 obtain⟨F,u,g1,g2,g3⟩:=h
 rw[hlog] at g2
 refine(g2.open_ h1 h2 hn hl (fun σ l p e=>⟨rfl,e.2.1⟩)).mono ?_
 rintro e w' ⟨v,rfl,hV⟩
 rw[show log - 1=R by omega] at hV
 have hk:Keep (fun g=>¬F g) w w':=hV.jV
 exact⟨v,rfl,F,u,g1.keep hk,hV.re,g3.prog hk⟩
theorem SN.done (h:SN w0 d v rt N R n kv kr w)(hn:n<=100000000):
  Calls Tryz.prog 12 #[.pointer (some ⟨v,0,none⟩)] w fun e w'=>e= .returned (.int .i64 n)/\w'=w:=by
 obtain⟨F,u,h1,h2,h3⟩:=h
 exact h2.done hn
def Vo (w0:World)(d v t rt N R n:Nat)(kv kr:List Pr)(w:World):Prop:=
 ∃F u P,RB w0 F (fun _=>False) w/\qF ⟨F,w,Jj d⟩ v t N R n u kv kv false P w/\Jo F w rt kr
theorem SN.begin (h:SN w0 d v rt N R n kv kr w):
  Calls Tryz.prog 21 #[.pointer (some ⟨v,0,none⟩)] w fun e w'=>∃t,e= .returned (.tuple #[.pointer (some ⟨t,0,none⟩),.int .i64 0])/\Vo w0 d v t rt N R n kv kr w':=by
 obtain⟨F,u,h1,h2,h3⟩:=h
 refine h2.begin.mono ?_
 rintro e w' ⟨t,rfl,hT⟩
 have hk:Keep (fun g=>¬F g) w w':=hT.jV
 exact⟨t,rfl,F,u,_,h1.keep hk,hT.re,h3.prog hk⟩
theorem M5 (cs:List Pr):cO cs ⟨#[]⟩=0:=by
 cases cs with
 |nil=>rfl
 |cons p r=>simp[cO,yU]
theorem xO (kv:List Pr)(m:Int)(h:(kv.length:Int)<=m):xg kv ⟨#[]⟩ m=kv:=by
 unfold xg
 rw[M5,dP,aJ (by omega)]
theorem Vo.scan (h:Vo w0 d v t rt N R n kv kr w)(most:Int)(hl:kv.length<=4090)(hm:(kv.length:Int)<=most):
  Calls Tryz.prog 29 #[.pointer (some ⟨t,0,none⟩),.string ⟨#[]⟩,.int .i64 most] w fun e w'=>∃x S,e= .returned (.tuple #[x,.int .i64 0])/\jH w' fZ x kv/\Below w0.heap.size w0 w'/\∃y,w'.cell? ⟨rt,0,none⟩=some y/\rt<w'.heap.size/\jH w' S y kr:=by
 obtain⟨F,u,P,h1,h2,h3⟩:=h
 refine(h2.scan ⟨#[]⟩ most hl).mono ?_
 rintro e w' ⟨x,rfl,hx,_,hb⟩
 rw[xO kv most hm] at hx
 obtain⟨_,y,q1,q2⟩:=h3.prog (Keep.of_below hb (fun g=>¬F g))
 refine⟨x,_,rfl,hx.dm,h1.nD.trans (hb.mono h1.nD.size),y,by simp[World.cell?,q1],(aj.1 q1).1,q2⟩
theorem FZ.more {P':Nat}(h:FZ w0 d v r t rt N R P kv kr ch w)(hp:P<=P'):FZ w0 d v r t rt N R P' kv kr ch w:=by
 obtain⟨F,F0,h1,h2,h3⟩:=h
 exact⟨F,F0,h1,h2.more hp,h3⟩
theorem Pn {w3 w4:World}(hV:qa ⟨fun g=>g<w0.heap.size,w0,Jj d⟩ v N R 0 0 [] w3)(hb:Below w3.heap.size w3 w4)(hR:Q6 (fun g=>w3.heap.size<=g/\g<w4.heap.size) w4 r [[]]):
  Calls Tryz.prog 21 #[.pointer (some ⟨v,0,none⟩)] w4 fun e w5=>∃t,e= .returned (.tuple #[.pointer (some ⟨t,0,none⟩),.int .i64 0])/\
   Calls Tryz.prog 22 #[.pointer (some ⟨r,0,none⟩)] w5 fun e w6=>∃rt,e= .returned (.pointer (some ⟨rt,0,none⟩))/\FZ w0 d v r t rt N R 2 [] [] false w6:=by
 have hz:w0.heap.size<=w3.heap.size:=by
  obtain⟨_,_,_,_,_,_,_,_,_,_,_,h,_⟩:=hV
  exact h.size
 have hb03:Below w0.heap.size w0 w3:=by
  obtain⟨_,_,_,_,_,_,_,_,_,_,_,h,_⟩:=hV
  exact⟨h.os,h.tape,h.output,h.size,fun k hk=>h.block k hk⟩
 have hV4:=hV.next (M:=fun _=>False) (Keep.of_below hb _) (fun _ e=>e.elim)
 have hB4:RB w0 (fun g=>g<w0.heap.size\/(w3.heap.size<=g/\g<w4.heap.size)) (fun g=>w3.heap.size<=g/\g<w4.heap.size) w4:=
  ⟨fun g e=> .inr e,fun g hg=>⟨.inl hg,fun e=>by omega⟩,hb03.trans (hb.mono hz)⟩
 refine hV4.begin.mono ?_
 rintro e w5 ⟨t,rfl,hT⟩
 have hk:Keep (fun g=>¬(g<w0.heap.size\/(w3.heap.size<=g/\g<w4.heap.size))) w4 w5:=hT.jV
 have hR5:=hR.prog (hk.out hB4.sub)
 refine⟨t,rfl,(Q6.begin (cms:=[]) (last:=[]) hR5 (by simp) (by simp)).mono ?_⟩
 rintro e w6 ⟨rt,rfl,hR6,hb6⟩
 exact⟨rt,rfl,_,_,(hB4.keep hk).grow (Keep.of_below hb6 (fun _=>False)) (fun _ e=>e.elim),hT.re.next (M:=fun _=>False) (Keep.of_below hb6 _) (fun _ e=>e.elim),hR6⟩
theorem Un.list (h:Un w0 d v r rt N R n kv kr w):∃ao c,w.cell? ⟨rt,0,none⟩=some (.slice ao kr.length c)/\rt<w.heap.size:=by
 obtain⟨F,F0,u,h1,h2,h3⟩:=h
 obtain⟨vv,S,h4,h5⟩:=h3.Vt
 obtain⟨ao,c,rfl,_⟩:=aX.form h5
 exact⟨ao,c,by simp[World.cell?,h4],(aj.1 h4).1⟩
end
abbrev Oh:=Int×ByteArray×ByteArray×Int
def Jq (w:World)(v:Value)(os:List Oh):Prop:=∃ao c,v= .slice ao os.length c/\os.length<=c/\c<=maxLen/\
 ∀i (_:i<os.length),∃b o,ao=some ⟨b,o,none⟩/\w.cell? ⟨b,o+i*4,none⟩=some (.int .u8 os[i].1)/\w.cell? ⟨b,o+i*4+1,none⟩=some (.string os[i].2.1)/\w.cell? ⟨b,o+i*4+2,none⟩=some (.string os[i].2.2.1)/\w.cell? ⟨b,o+i*4+3,none⟩=some (.int .i64 os[i].2.2.2)
theorem Jq.at {w:World}{v:Value}{os:List Oh}{ao:Option Addr}{n c:Nat}(h:Jq w v os)(hv:v= .slice ao n c)(i:Nat)(hi:i<os.length):
  ∃b o,ao=some ⟨b,o,none⟩/\w.cell? ⟨b,o+i*4,none⟩=some (.int .u8 os[i].1)/\w.cell? ⟨b,o+i*4+1,none⟩=some (.string os[i].2.1)/\w.cell? ⟨b,o+i*4+2,none⟩=some (.string os[i].2.2.1)/\w.cell? ⟨b,o+i*4+3,none⟩=some (.int .i64 os[i].2.2.2):=by
 obtain⟨ao',c',rfl,_,_,h6⟩:=h
 cases hv
 exact h6 i hi
end Go.Proofs.YtogbkgmlhhahdaaGreat
namespace Go.Proofs.YtogbkgmlhhahdaaGreat
open Go.RowKit Go.ChangeShapes Go.WideShapes Go.ChangeAt Go.Deep
theorem Dg (a:Addr):a.add 0=a:=by unfold Addr.add;simp
theorem RJ {H:Type}{enc:TypeId×Value->H}{w:World}{base:Nat}{spare:Nat->Bool}{held:Bool}{n:Nat}{cs:List Value}{a:Addr}{D:DataW H}{pl:List MemPlace}(h1:w.cells? base a 4=some cs)(h2:DataW.trod enc Tryz.prog w base spare held n 37 cs=some (D,pl)):
  ∃o:Oh,a.spot=none/\(0<=o.1/\o.1<=255/\(Lit.int .i64 o.2.2.2).wf=true)/\o.2.2.1.size<=maxLen/\w.cell? a=some (.int .u8 o.1)/\w.cell? (a.add 1)=some (.string o.2.1)/\w.cell? (a.add 2)=some (.string o.2.2.1)/\w.cell? (a.add 3)=some (.int .i64 o.2.2.2):=by
 obtain⟨_,hlen,hcell⟩:=World.cells?_some h1
 match cs,hlen with
 |[v0,v1,v2,v3],_=>
  obtain⟨y0,y1,y2,y3,m,hx,_,g0,g1,g2,g3⟩:=Go.Joins.trod_struct4 Tryz.underlying37 h2
  have c8:Tryz.prog.cellsOf 5=1:=by kernel_rfl
  have c9:Tryz.prog.cellsOf 9=1:=by kernel_rfl
  have c3:Tryz.prog.cellsOf 3=1:=by kernel_rfl
  simp[c8,c9,c3] at g0 g1 g2 g3
  obtain⟨k,e0,_,wk⟩:=DataW.trod_int lF g0
  obtain⟨s1,e1,_⟩:=DataW.trod_string gM g1
  obtain⟨s2,e2,_,ws⟩:=DataW.trod_string gM g2
  obtain⟨z,e3,_,wz⟩:=DataW.trod_int jo g3
  simp at e0 e1 e2 e3
  subst e0 e1 e2 e3
  have d0:=hcell 0 (by omega)
  have d1:=hcell 1 (by omega)
  have d2:=hcell 2 (by omega)
  have d3:=hcell 3 (by omega)
  refine⟨(k,s1,s2,z),?_,⟨?_,?_,wz⟩,ws,by rw[Dg] at d0;simpa using d0,by simpa using d1,by simpa using d2,by simpa using d3⟩
  ·have:=World.cell?_spot (show w.cell? (a.add 0)=some _ from d0)
   rwa [Dg] at this
  ·simp only[Lit.wf,dN,eZ] at wk
   exact Te (by decide) wk.1
  ·simp only[Lit.wf,dN,eZ] at wk
   exact Te wk.2 (by decide)
theorem Hq {H:Type}{enc:TypeId×Value->H}{W:World}{fuel:Nat}{cs:List Value}{x:DataW H×List MemPlace}(h:DataW.trod enc Tryz.prog W 0 (fun _=>true) true fuel 34 cs=some x):
  ∃v os,cs=[v]/\Jq W v os/\(∀o∈os,0<=o.1/\o.1<=255/\(Lit.int .i64 o.2.2.2).wf=true)/\∀o∈os,o.2.2.1.size<=maxLen:=by
 rcases open_slice Tryz.underlying34 h with ⟨rfl,_⟩|⟨a,len,cap,m,n,D,Pl,rfl,hb,hl,hm,hmm,rfl,hx⟩
 ·exact⟨_,[],rfl,⟨none,0,rfl,aC _,aT _,fun i hi=>by simp at hi⟩,by simp,by simp⟩
 ·have hc4:Tryz.prog.cellsOf 37=4:=by kernel_rfl
  have hlm:len<=m:=by rw[hmm];simp;exact hl
  have each:∀i,i<len->∃o:Oh,(a.add (i*4)).spot=none/\(0<=o.1/\o.1<=255/\(Lit.int .i64 o.2.2.2).wf=true)/\o.2.2.1.size<=maxLen/\W.cell? (a.add (i*4))=some (.int .u8 o.1)/\W.cell? ((a.add (i*4)).add 1)=some (.string o.2.1)/\W.cell? ((a.add (i*4)).add 2)=some (.string o.2.2.1)/\W.cell? ((a.add (i*4)).add 3)=some (.int .i64 o.2.2.2):=by
   intro i hi
   obtain⟨cs',h1,h2⟩:=hx i (by omega)
   rw[hc4] at h1
   exact RJ h1 h2
  obtain⟨f,hf⟩:=choose_lt each
  refine⟨_,(List.range len).map f,rfl,⟨some a,cap,by simp,by simpa using hl,hm,fun i hi=> ?_⟩,?_,?_⟩
  ·simp at hi
   obtain⟨g0,_,_,g1,g2,g3,g4⟩:=hf i hi
   obtain⟨b,o,sp⟩:=a
   have hs:sp=none:=by
    have:=(hf 0 (by omega)).1
    rw[uz,Dg] at this
    exact this
   subst hs
   rw[dY] at g1 g2 g3 g4
   rw[dY] at g2 g3 g4
   refine⟨b,o,rfl,?_,?_,?_,?_⟩<;>simpa using by assumption
  ·intro o ho
   obtain⟨i,hi,rfl⟩:=eT.1 ho
   exact(hf i (mE.1 hi)).2.1
  ·intro o ho
   obtain⟨i,hi,rfl⟩:=eT.1 ho
   exact(hf i (mE.1 hi)).2.2.1
end Go.Proofs.YtogbkgmlhhahdaaGreat
