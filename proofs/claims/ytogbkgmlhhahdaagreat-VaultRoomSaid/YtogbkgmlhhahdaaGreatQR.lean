/- parts -/
import Derived.Test.YtogbkgmlhhahdaaGreatQ1
import Derived.Test.YtogbkgmlhhahdaaGreatQ2
import Derived.Test.YtogbkgmlhhahdaaGreatQ3
import Derived.Test.YtogbkgmlhhahdaaGreatQ4
import Derived.Test.YtogbkgmlhhahdaaGreatQ5
import Derived.Test.YtogbkgmlhhahdaaGreatQ6
import Derived.Test.YtogbkgmlhhahdaaGreatQ7
import Derived.Test.YtogbkgmlhhahdaaGreatQ8
import Derived.Test.YtogbkgmlhhahdaaGreatQ9
import Derived.Test.YtogbkgmlhhahdaaGreatQ10
import Derived.Test.YtogbkgmlhhahdaaGreatQ11
import Derived.Test.YtogbkgmlhhahdaaGreatQ12
import Derived.Test.YtogbkgmlhhahdaaGreatQ13
import Derived.Test.YtogbkgmlhhahdaaGreatQ14
import Derived.Test.YtogbkgmlhhahdaaGreatQ15
import Derived.Test.YtogbkgmlhhahdaaGreatQ16
import Derived.Test.YtogbkgmlhhahdaaGreatQ17
import Derived.Test.YtogbkgmlhhahdaaGreatQ18
import Derived.Test.YtogbkgmlhhahdaaGreatQ19
import Derived.Test.YtogbkgmlhhahdaaGreatQ20
import Derived.Test.YtogbkgmlhhahdaaGreatQ21
import Derived.Test.YtogbkgmlhhahdaaGreatQ22
import Derived.Test.YtogbkgmlhhahdaaGreatQ23
import Derived.Test.YtogbkgmlhhahdaaGreatQ24
import Derived.Test.YtogbkgmlhhahdaaGreatQ25
import Derived.Test.YtogbkgmlhhahdaaGreatQ26
import Derived.Test.YtogbkgmlhhahdaaGreatQ27
import Derived.Test.YtogbkgmlhhahdaaGreatQ28
set_option maxRecDepth 100000
set_option maxHeartbeats 8000000
set_option linter.all false
namespace Go.Proofs.YtogbkgmlhhahdaaGreat
open Go.RowKit
theorem Ff (ps:List Pr)(i:Nat)(k v:ByteArray):nW (ps.set i (k,v))<=nW ps+gP v:=by
 induction ps generalizing i with
 |nil=>exact aT _
 |cons p r ih=>
  cases i with
  |zero=>
   show gP v+nW r<=(gP p.2+nW r)+gP v
   omega
  |succ i=>
   show gP p.2+nW (r.set i (k,v))<=(gP p.2+nW r)+gP v
   have:=ih i
   omega
theorem I8 (a b:List Pr):nW (a++b)=nW a+nW b:=by simp[nW]
theorem NV (ps:List Pr)(k v:ByteArray):nW (jB ps k v)<=nW ps+gP v:=by
 unfold jB
 split
 ·exact Ff ps _ k v
 ·have h:nW ps=nW (ps.take (cO ps k))+nW (ps.drop (cO ps k)):=by rw[<-I8,bJ]
  have e:nW ((k,v)::ps.drop (cO ps k))=gP v+nW (ps.drop (cO ps k)):=rfl
  rw[I8,e]
  omega
theorem PZ (ps:List Pr)(k v:ByteArray):(jB ps k v).length<=ps.length+1:=by
 unfold jB
 split
 ·simp
 ·have:=bJ (cO ps k) ps
  have h:ps.length=(ps.take (cO ps k)).length+(ps.drop (cO ps k)).length:=by rw[<-ay,this]
  simp only[ay,aZ] at*
  omega
def Dr (gs:List Pr):Nat:=48+(gs.map fun p=>8*(2+gP p.2)).sum
def MV (gs:List Pr):Nat:=32+(gs.map fun p=>4*(2+gP p.2)+64).sum
theorem GI (gs:List Pr)(p:Pr):Dr (gs++[p])=Dr gs+8*(2+gP p.2):=by simp[Dr];omega
theorem GJ (gs:List Pr)(p:Pr):MV (gs++[p])=MV gs+(4*(2+gP p.2)+64):=by simp[MV];omega
theorem Ka (gs:List Pr):MV gs=32+(Dr gs - 48)/2+64*gs.length/\48<=Dr gs:=by
 induction gs with
 |nil=>exact⟨rfl,aC _⟩
 |cons p r ih=>
  have e1:Dr (p::r)=Dr r+8*(2+gP p.2):=by simp[Dr];omega
  have e2:MV (p::r)=MV r+(4*(2+gP p.2)+64):=by simp[MV];omega
  rw[e1,e2]
  simp only[aZ]
  omega
def oJ (gs:List Pr):List Pr:=gs.foldl (fun kv p=>jB kv p.1 p.2) []
theorem Kg (gs:List Pr)(p:Pr):oJ (gs++[p])=jB (oJ gs) p.1 p.2:=by unfold oJ;rw[uH];rfl
theorem Qh (gs:List Pr):∀kv:List Pr,nW (gs.foldl (fun kv p=>jB kv p.1 p.2) kv)+2*(gs.foldl (fun kv p=>jB kv p.1 p.2) kv).length<=nW kv+2*kv.length+(gs.map fun p=>2+gP p.2).sum:=by
 induction gs with
 |nil=>intro kv;simp
 |cons p r ih=>
  intro kv
  have h:=ih (jB kv p.1 p.2)
  have h1:=NV kv p.1 p.2
  have h2:=PZ kv p.1 p.2
  simp only[List.foldl_cons,dw,lY]
  omega
theorem Vi (gs:List Pr):(gs.map fun p=>8*(2+gP p.2)).sum=8*(gs.map fun p=>2+gP p.2).sum:=by
 induction gs with
 |nil=>rfl
 |cons p r ih=>simp only[dw,lY,ih];omega
theorem Pq (gs:List Pr):8*(nW (oJ gs)+2*(oJ gs).length)+48<=Dr gs:=by
 have h:=Qh gs []
 have e:nW ([]:List Pr)=0:=rfl
 rw[e] at h
 unfold Dr
 rw[Vi]
 unfold oJ
 simp only[bV] at h
 omega
theorem Pf {gs rest:List Pr}{p:Pr}{N:Nat}(hN:Dr (gs++p::rest)<=N):2+0+nW (oJ gs)+2*((oJ gs).length+1)+gP p.2<=N/8:=by
 have h:=Pq gs
 have e:Dr (gs++p::rest)=Dr gs+8*(2+gP p.2)+(Dr rest - 48):=by simp[Dr];omega
 omega
theorem Pm {gs:List Pr}(h:Dr gs+MV gs<=4000):Cq (Dr gs/8)<=MV gs - 1/\Dr gs/8<=1024:=by
 obtain⟨h1,h2⟩:=Ka gs
 unfold Cq
 omega
def Nc (o:Oh):Pr:=(o.2.1,strOf (BB o.2.2.1 o.2.2.2))
def jW (os:List Oh):List Pr:=(os.map Nc).filter fun p=>decide (qx p.1 p.2)
theorem xU (os:List Oh)(o:Oh):jW (os++[o])=jW os++(if qx (Nc o).1 (Nc o).2 then[Nc o] else[]):=by
 unfold jW
 rw[bU,oV]
 congr 1
 by_cases h:qx (Nc o).1 (Nc o).2
 ·rw[if_pos h];simp[h]
 ·rw[if_neg h];simp[h]
theorem NA (a b:List Oh):jW (a++b)=jW a++jW b:=by unfold jW;rw[bU,oV]
theorem Iw (os:List Oh)(k:Nat)(hk:k<os.length)(hg:qx (Nc os[k]).1 (Nc os[k]).2):jW os=jW (os.take k)++Nc os[k]::jW (os.drop (k+1)):=by
 have h1:=NA (os.take (k+1)) (os.drop (k+1))
 rw[bJ,<-Du hk,xU,if_pos hg] at h1
 rw[h1,aL];rfl
theorem TK (kv:List Pr)(k v:ByteArray):(jB kv k v).isEmpty=false:=by
 unfold jB
 split
 ·next h=>
  obtain⟨hl,_⟩:=oN h
  cases kv with
  |nil=>simp at hl
  |cons p r=>cases h0:cO (p::r) k<;>rfl
 ·cases List.take (cO kv k) kv<;>rfl
theorem T9 (kv:List Pr)(k v:ByteArray):((!kv.isEmpty)|| !decide (fD kv k=some v))= !(jB kv k v).isEmpty:=by
 rw[TK]
 cases kv with
 |nil=>simp[Nl]
 |cons p r=>rfl
theorem JH (v0:Value)(os:List Oh)(w:World)(hv:Jq w v0 os)(hsz:∀o∈os,o.2.2.1.size<=maxLen):
  Calls Tryz.prog 4 #[v0] w fun e w'=>e= .returned (.bool true)/\Below w.heap.size w w':=by
 obtain⟨ao,c,rfl,hc1,hc2,_⟩:=id hv
 have HV:=ah hv
 clear hv
 go_enter Tryz.func4,Tryz.ntmps4
 go_wp2_with (first
  |(go_at_call 7;go_must ((refine(wS _).mono ?_);rintro e w1 ⟨rfl,hb1⟩;refine Stop.of ?_)))
 refine Stop.on ?_
 by_cases hlen:os.length<=40
 ·have x1:¬(40:Int)<(os.length:Int):=by omega
  go_wp2_with fail
  have hmx:maxLen<=9223372036854775807:=by decide
  go_loopw [3,4,5,6] (fun n l i _ wr=>∃k:Nat,k<=os.length/\i= .int .i64 k/\n= .int .i64 (Dr (jW (os.take k)))/\l= .int .i64 (MV (jW (os.take k)))/\Dr (jW (os.take k))<=48+k*10000/\MV (jW (os.take k))<=32+k*10000/\Below w.heap.size w wr) (fun _ _ i _ _=>os.length - (intOf i).toNat)
  case atStart=>exact⟨0,aT _,rfl,rfl,rfl,aC _,aC _,hb1⟩
  case round=>
   obtain⟨k,hk,rfl,rfl,rfl,hn1,hn2,hb⟩:=hrel
   by_cases hlt:k<os.length
   ·have y1:(k:Int)<(os.length:Int):=by omega
    have y2:IntKind.i64.wrap ((k:Int)+1)=((k+1:Nat):Int):=by rw[aG _ (by omega)];omega
    obtain⟨b,o,rfl,d0,d1,d2,d3⟩:=HV.out.at rfl k hlt
    have hbl:b<w.heap.size:=aD w _ d1
    obtain⟨op,hop⟩:∃op,Hid (os[k]=op):=⟨_,ah rfl⟩
    have hs:=hsz os[k] (bE hlt)
    rw[hop.out] at d0 d1 d2 d3 hs
    have htk:os.take (k+1)=os.take k++[op]:=by rw[<-hop.out,Du hlt]
    have hgs:=xU (os.take k) op
    rw[<-htk] at hgs
    obtain⟨vl,hvl⟩:∃vl,Hid (strOf (BB op.2.2.1 op.2.2.2)=vl):=⟨_,ah rfl⟩
    have hopP:Nc op=(op.2.1,vl):=by unfold Nc;rw[hvl.out]
    rw[hopP] at hgs
    have HGS:=ah hgs
    obtain⟨a,ha⟩:∃a,Hid (Dr (jW (os.take k))=a):=⟨_,ah rfl⟩
    obtain⟨a2,ha2⟩:∃a,Hid (MV (jW (os.take k))=a):=⟨_,ah rfl⟩
    rw[ha.out] at hn1 ⊢
    rw[ha2.out] at hn2 ⊢
    have hcell:∀W:World,Below w.heap.size w W->W.cell? ⟨b,o+k*4+1,none⟩=some (.string op.2.1)/\W.cell? ⟨b,o+k*4+2,none⟩=some (.string op.2.2.1)/\W.cell? ⟨b,o+k*4+3,none⟩=some (.int .i64 op.2.2.2)/\b<W.heap.size:=fun W hW=>
     ⟨(hW.cell (p:=⟨b,o+k*4+1,none⟩) hbl).trans d1,(hW.cell (p:=⟨b,o+k*4+2,none⟩) hbl).trans d2,(hW.cell (p:=⟨b,o+k*4+3,none⟩) hbl).trans d3,ak hbl hW.size⟩
    have HCL:=ah hcell
    have hTX:=BA op.2.2.1 op.2.2.2
    rw[hvl.out] at hTX
    clear hcell hgs d0 d1 d2 d3 htk
    go_wp2_with fail
    refine aP (fun W=>Below w.heap.size w W) (fun i=> !([10].contains i)) [0,1,2,3,4,5,6,7,8,9,10,11] rfl (by kernel_rfl) hb.drew ?_
    repeat ((refine bP (v:= ?_) rfl rfl (fun _ _ _ h=>h) rfl (fun W hW=> ?_) ?_);rotate_left;(focus ((try dsimp only at hW);obtain⟨r0,r1,r2,r3⟩:=HCL.out W hW;(go_simp;first|done|with_reducible rfl)));(try simp only[Act.put,ai,ax,au]))
    refine dK rfl rfl rfl ?_;intro K hK;go_simp
    refine(hTX _ hs).mono ?_;rintro e w3 ⟨rfl,hb3⟩
    have hbw3:=hb.drew.trans (hb3.mono hb.drew.size)
    refine hK.out _ _ hbw3 ?_
    repeat ((refine bP (v:= ?_) rfl rfl (fun _ _ _ h=>h) rfl (fun W hW=> ?_) ?_);rotate_left;(focus ((try dsimp only at hW);obtain⟨r0,r1,r2,r3⟩:=HCL.out W hW;(go_simp;first|done|with_reducible rfl)));(try simp only[Act.put,ai,ax,au]))
    refine bS ?_
    obtain⟨r0,r1,r2,r3⟩:=HCL.out w3 hbw3
    have HB3:=ah hbw3
    clear hb3 hb hTX hbw3 r1 r2
    have hGD:=Po op.2.1 vl w3
    by_cases hg:qx op.2.1 vl
    ·have hbc:gP vl<=1000:=by
      have:=hg.2
      unfold gP sJ
      split<;>omega
     have hCO:=Tz vl w3 (by have:=hg.2;omega)
     obtain⟨bc,hbcE⟩:∃bc,Hid (gP vl=bc):=⟨_,ah rfl⟩
     rw[hbcE.out] at hbc hCO
     obtain⟨ct,hct⟩:∃ct,Hid (2+bc=ct):=⟨_,ah rfl⟩
     rw[hct.out] at hCO
     have hct1:=hct.out
     rw[dZ hg] at hGD
     have z1:IntKind.i64.wrap (8*(ct:Int))=((8*ct:Nat):Int):=by rw[aG _ (by omega)];omega
     have z2:IntKind.i64.wrap ((a:Int)+8*(ct:Int))=((a+8*ct:Nat):Int):=by rw[aG _ (by omega)];omega
     have z3:IntKind.i64.wrap (4*(ct:Int))=4*(ct:Int):=aG _ (by omega)
     have z1':IntKind.i64.wrap (8*(ct:Int))=8*(ct:Int):=aG _ (by omega)
     have z4:IntKind.i64.wrap (4*(ct:Int)+64)=4*(ct:Int)+64:=aG _ (by omega)
     have z5:IntKind.i64.wrap ((a2:Int)+(4*(ct:Int)+64))=((a2+(4*ct+64):Nat):Int):=by rw[aG _ (by omega)];omega
     clear z1
     go_wp2_with (first
      |(go_at_call 18;go_must (refine hGD.mono ?_;rintro e w4 ⟨hw,rfl⟩;subst w4))
      |(go_at_call 19;go_must (refine hCO.mono ?_;rintro e w4 ⟨hw,rfl⟩;subst w4)))
     go_roundw
     case rel=>
      have hgs:=HGS.out
      rw[if_pos hg] at hgs
      refine⟨k+1,by omega,rfl,?_,?_,?_,?_,HB3.out⟩
      ·rw[hgs,GI,ha.out,hbcE.out,hct.out];simp
      ·rw[hgs,GJ,ha2.out,hbcE.out,hct.out];simp
      ·rw[hgs,GI,ha.out,hbcE.out];omega
      ·rw[hgs,GJ,ha2.out,hbcE.out];omega
     case measure=>simp[intOf];omega
    ·rw[bQ hg] at hGD
     go_wp2_with (first
      |(go_at_call 18;go_must (refine hGD.mono ?_;rintro e w4 ⟨hw,rfl⟩;subst w4)))
     go_roundw
     case rel=>
      have hgs:=HGS.out
      rw[if_neg hg,dJ] at hgs
      refine⟨k+1,by omega,rfl,?_,?_,?_,?_,HB3.out⟩
      ·rw[hgs,ha.out]
      ·rw[hgs,ha2.out]
      ·rw[hgs,ha.out];omega
      ·rw[hgs,ha2.out];omega
     case measure=>simp[intOf];omega
   ·obtain rfl:k=os.length:=by omega
    rw[bR] at hn1 hn2 ⊢
    obtain⟨a,ha⟩:∃a,Hid (Dr (jW os)=a):=⟨_,ah rfl⟩
    obtain⟨a2,ha2⟩:∃a,Hid (MV (jW os)=a):=⟨_,ah rfl⟩
    rw[ha.out] at hn1 ⊢
    rw[ha2.out] at hn2 ⊢
    have y1:¬(os.length:Int)<(os.length:Int):=by omega
    have y2:IntKind.i64.wrap ((a:Int)+(a2:Int))=((a+a2:Nat):Int):=by rw[aG _ (by omega)];omega
    by_cases hbig:4000<a+a2
    ·have y3:(4000:Int)<((a+a2:Nat):Int):=by omega
     have y4:(4000:Int)<(a:Int)+(a2:Int):=by omega
     have y5:IntKind.i64.wrap ((a:Int)+(a2:Int))=(a:Int)+(a2:Int):=aG _ (by omega)
     clear y2
     go_wp2_with fail
     go_ret
     exact⟨rfl,hb⟩
    ·have y4:¬(4000:Int)<(a:Int)+(a2:Int):=by omega
     have y5:IntKind.i64.wrap ((a:Int)+(a2:Int))=(a:Int)+(a2:Int):=aG _ (by omega)
     clear y2
     go_wp2_with fail
     have h48:=(Ka (jW os)).2
     rw[ha.out] at h48
     have hcl:jI ((a:Int)+(a2:Int))=a+a2:=by unfold jI;rw[if_neg (by omega),if_neg (by omega)];omega
     refine(TU ((a:Int)+(a2:Int)) wr).mono ?_
     rintro e w2 ⟨d,S,rfl,hD,hb2,hS⟩
     rw[hcl] at hD
     have hb02:=hb.trans (hb2.mono hb.size)
     have h32:=(Ka (jW os)).1
     rw[ha.out,ha2.out] at h32
     have hV3:=qa.make ⟨fun g=>g<w.heap.size,w,Jj d⟩ w2 (a+a2) a2 d S ⟨hb02.os,hb02.tape,hb02.output,hb02.size,fun k hk=>hb02.block k hk,fun _ hg=>hg,fun g hg=>bq.2 (aK hb.size (hS g hg))⟩ hD (by omega) (by omega) (fun _ _ _ h=>⟨rfl,h.vi.free.2⟩)
     rw[su] at hV3
     obtain⟨R,hR⟩:∃R,Hid (a2 - 1=R):=⟨_,ah rfl⟩
     rw[hR.out] at hV3
     have HV3:=ah hV3
     have hlg:=Pm (gs:=jW os) (by rw[ha.out,ha2.out];omega)
     rw[ha.out,ha2.out,hR.out] at hlg
     obtain⟨P,hP⟩:∃P,Hid (a/8=P):=⟨_,ah rfl⟩
     rw[hP.out] at hlg
     have hP2:2<=P/\P<=a:=by have:=hP.out;omega
     have HLG:=ah hlg;have HP2:=ah hP2;have H32:=ah h32;have HBIG:=ah hbig
     clear hV3 hD hS hb2 hb hb02 h32 hlg hP2 hn1 hn2 hcl
     refine Stop.of ?_
     refine Stop.on ?_
     go_wp2_with (first
      |(go_at_call 11;go_must (refine HV3.out.mono ?_;rintro e w3 ⟨v,rfl,hV3⟩;refine Stop.of ?_)))
     refine Stop.on ?_
     clear HV3
     go_wp2_with (first
      |(go_at_call 20;go_must (refine(Q6.new w3).mono ?_;rintro e w4 ⟨r,rfl,hb4,hR4⟩;refine Stop.of ?_)))
     refine Stop.on ?_
     have HBG:=ah (Pn hV3 hb4 hR4)
     clear hV3 hb4 hR4
     go_wp2_with (first
      |(go_at_call 21;go_must (refine HBG.out.mono ?_;rintro e w5 ⟨t,rfl,hT5⟩;refine Stop.of ?_)))
     refine Stop.on ?_
     clear HBG
     have HT5:=ah hT5
     clear hT5
     go_wp2_with (first
      |(go_at_call 22;go_must (refine HT5.out.mono ?_;rintro e w6 ⟨rt,rfl,hS6⟩;refine Stop.of ?_)))
     refine Stop.on ?_
     clear HT5
     have hS6:=hS6.more HP2.out.1
     go_wp2_with fail
     obtain⟨wo,rfl⟩:∃x:World,x=wr:=⟨_,rfl⟩
     go_loopw [14,15] (fun i _ wr=>∃k:Nat,k<=os.length/\i= .int .i64 k/\Kv (oJ (jW (os.take k))) k/\FZ w d v r t rt a R P (oJ (jW (os.take k))) (oJ (jW (os.take k))) (!(oJ (jW (os.take k))).isEmpty) wr) (fun i _ _=>os.length - (intOf i).toNat)
     case atStart=>exact⟨0,aT _,rfl,Kv.nil 0,hS6⟩
     case round=>
      clear hS6
      obtain⟨k,hk,rfl,hKv,hSr⟩:=hrel
      by_cases hlt:k<os.length
      ·have y1:(k:Int)<(os.length:Int):=by omega
       have y2:IntKind.i64.wrap ((k:Int)+1)=((k+1:Nat):Int):=by rw[aG _ (by omega)];omega
       obtain⟨b,o,rfl,d0,d1,d2,d3⟩:=HV.out.at rfl k hlt
       have hbl:b<w.heap.size:=aD w _ d1
       have hsp:=Iw os k hlt
       obtain⟨op,hop⟩:∃op,Hid (os[k]=op):=⟨_,ah rfl⟩
       have hs:=hsz os[k] (bE hlt)
       rw[hop.out] at d0 d1 d2 d3 hs hsp
       have htk:os.take (k+1)=os.take k++[op]:=by rw[<-hop.out,Du hlt]
       have hgs:=xU (os.take k) op
       rw[<-htk] at hgs
       obtain⟨vl,hvl⟩:∃vl,Hid (strOf (BB op.2.2.1 op.2.2.2)=vl):=⟨_,ah rfl⟩
       have hopP:Nc op=(op.2.1,vl):=by unfold Nc;rw[hvl.out]
       rw[hopP] at hgs hsp
       obtain⟨kv,hkv⟩:∃kv,Hid (oJ (jW (os.take k))=kv):=⟨_,ah rfl⟩
       rw[hkv.out] at hKv hSr
       have hroom:qx op.2.1 vl->2+0+nW kv+2*(kv.length+1)+gP vl<=P:=fun hg=>by
        have h:=Pf (gs:=jW (os.take k)) (p:=(op.2.1,vl)) (rest:=jW (os.drop (k+1))) (N:=a) (by rw[<-hsp hg,ha.out];exact aC _)
        rw[hkv.out,hP.out] at h
        exact h
       have HRO:=ah hroom
       have HGS:=ah hgs
       have hcell:∀W:World,Below w.heap.size w W->W.cell? ⟨b,o+k*4+1,none⟩=some (.string op.2.1)/\W.cell? ⟨b,o+k*4+2,none⟩=some (.string op.2.2.1)/\W.cell? ⟨b,o+k*4+3,none⟩=some (.int .i64 op.2.2.2)/\b<W.heap.size:=fun W hW=>
        ⟨(hW.cell (p:=⟨b,o+k*4+1,none⟩) hbl).trans d1,(hW.cell (p:=⟨b,o+k*4+2,none⟩) hbl).trans d2,(hW.cell (p:=⟨b,o+k*4+3,none⟩) hbl).trans d3,ak hbl hW.size⟩
       have HCL:=ah hcell
       have hTX:=BA op.2.2.1 op.2.2.2
       rw[hvl.out] at hTX
       have hb:Below w.heap.size w wr:=hSr.nD
       have HSR:=ah hSr
       have HKV:=ah hKv
       clear hcell hgs hsp hroom d0 d1 d2 d3 htk hSr hKv
       go_wp2_with fail
       refine aP (fun W=>Below w.heap.size w W) (fun i=> !([10].contains i)) [0,1,2,3,4,5,6,7,8,9,10,11] rfl (by kernel_rfl) hb.drew ?_
       repeat ((refine bP (v:= ?_) rfl rfl (fun _ _ _ h=>h) rfl (fun W hW=> ?_) ?_);rotate_left;(focus ((try dsimp only at hW);obtain⟨r0,r1,r2,r3⟩:=HCL.out W hW;(go_simp;first|done|with_reducible rfl)));(try simp only[Act.put,ai,ax,au]))
       refine dK rfl rfl rfl ?_;intro K hK;go_simp
       refine(hTX _ hs).mono ?_;rintro e w7 ⟨rfl,hb7⟩
       have hbw7:=hb.drew.trans (hb7.mono hb.drew.size)
       refine hK.out _ _ hbw7 ?_
       repeat ((refine bP (v:= ?_) rfl rfl (fun _ _ _ h=>h) rfl (fun W hW=> ?_) ?_);rotate_left;(focus ((try dsimp only at hW);obtain⟨r0,r1,r2,r3⟩:=HCL.out W hW;(go_simp;first|done|with_reducible rfl)));(try simp only[Act.put,ai,ax,au]))
       refine bS ?_
       have hS7:=(HSR.out.below ((aR _ wr).drew)).below hb7
       obtain⟨r0,r1,r2,r3⟩:=HCL.out w7 hbw7
       have HS7:=ah hS7
       clear hb7 hb hTX hbw7 r1 r2 hS7 HSR
       have hGD:=Po op.2.1 vl w7
       by_cases hg:qx op.2.1 vl
       ·rw[dZ hg] at hGD
        have hkl:=HKV.out.len
        have hPU:=HS7.out.put op.2.1 vl (by omega) hg.1 hg.2 (HRO.out hg) HP2.out.2
        rw[T9] at hPU
        have HPU:=ah hPU
        clear hPU hkl
        go_wp2_with (first
         |(go_at_call 18;go_must (refine hGD.mono ?_;rintro e w8 ⟨hw,rfl⟩;subst w8))
         |(go_at_call 23;go_must (refine HPU.out.mono ?_;rintro e w8 ⟨rfl,hS8⟩;refine Stop.of ?_)))
        refine Stop.on ?_
        clear r0 r3
        obtain⟨r0,r1,r2,r3⟩:=HCL.out w8 hS8.nD
        have HRP:=ah (hS8.Vj op.2.1 vl HKV.out.rise (by have:=HKV.out.len;omega))
        clear hS8 r1 r2
        go_wp2_with (first
         |(go_at_call 24;go_must (refine HRP.out.mono ?_;rintro e w9 ⟨rfl,hS9⟩;refine Stop.of ?_)))
        refine Stop.on ?_
        have hfin:Kv (oJ (jW (os.take (k+1)))) (k+1)/\FZ w d v r t rt a R P (oJ (jW (os.take (k+1)))) (oJ (jW (os.take (k+1)))) (!(oJ (jW (os.take (k+1)))).isEmpty) w9:=by
         have hgs:=HGS.out
         rw[if_pos hg] at hgs
         have e:oJ (jW (os.take (k+1)))=jB kv op.2.1 vl:=by rw[hgs,Kg,hkv.out]
         rw[e]
         exact⟨HKV.out.ins hg.1.2 hg.2,hS9⟩
        have HFIN:=ah hfin
        clear hfin hS9 HRP HPU hg
        go_wp2_with fail
        go_roundw
        case rel=>exact⟨k+1,by omega,rfl,HFIN.out.1,HFIN.out.2⟩
        case measure=>simp[intOf];omega
       ·rw[bQ hg] at hGD
        go_wp2_with (first
         |(go_at_call 18;go_must (refine hGD.mono ?_;rintro e w8 ⟨hw,rfl⟩;subst w8)))
        go_roundw
        case rel=>
         have hgs:=HGS.out
         rw[if_neg hg,dJ] at hgs
         refine⟨k+1,by omega,rfl,?_⟩
         rw[hgs,hkv.out]
         exact⟨HKV.out.le (by omega),HS7.out⟩
        case measure=>simp[intOf];omega
      ·obtain rfl:k=os.length:=by omega
       rw[bR] at hKv hSr
       obtain⟨kv,hkv⟩:∃kv,Hid (oJ (jW os)=kv):=⟨_,ah rfl⟩
       rw[hkv.out] at hKv hSr
       have y1:¬(os.length:Int)<(os.length:Int):=by omega
       have HKV:=ah hKv
       have HC:=ah (hSr.commit rfl HLG.out.1 HLG.out.2)
       clear hSr hKv
       go_wp2_with (first
        |(go_at_call 25;go_must (refine HC.out.mono ?_;rintro e w8 ⟨n,hn,rfl,hV8⟩;have HN:=ah hn;clear hn;refine Stop.of ?_)))
       refine Stop.on ?_
       obtain⟨m,hm⟩:∃m,Hid (kv.length=m):=⟨_,ah rfl⟩
       have hcase:(n=0/\Hid (kv.length=0))\/(n=1/\Hid (0<kv.length)):=by
        cases kv with
        |nil=>exact .inl ⟨HN.out,ah rfl⟩
        |cons p r=>exact .inr ⟨HN.out,ah (Nat.succ_pos _)⟩
       clear HN
       rcases hcase with ⟨rfl,he⟩|⟨rfl,he⟩
       ·have m0:m=0:=by have:=hm.out;have:=he.out;omega
        subst m0
        have HRC:=ah (hV8.LB false)
        obtain⟨lo,lc,l1,l2⟩:=hV8.list
        rw[hm.out] at l1
        clear hV8
        go_wp2_with (first
         |(go_at_call 26;go_must (refine HRC.out.mono ?_;rintro e w9 ⟨rfl,hW9⟩;refine Stop.of ?_)))
        refine Stop.on ?_
        clear l1 l2
        have HSY:=ah (hW9.sync (by omega))
        clear hW9
        go_wp2_with (first
         |(go_at_call 27;go_must (refine HSY.out.mono ?_;rintro e w10 ⟨rfl,hD10⟩;refine Stop.of ?_)))
        refine Stop.on ?_
        have HCR:=ah hD10.oP
        clear hD10
        go_wp2_with (first
         |(go_at_call 28;go_must (refine HCR.out.mono ?_;rintro e w11 ⟨rfl,hD11⟩;refine Stop.of ?_)))
        refine Stop.on ?_
        have HOP:=ah (hD11.open_ a2 (by have:=hR.out;have:=H32.out;omega) (by have:=H32.out;omega) (by omega) (by omega) (by have:=HKV.out.len;omega))
        clear hD11
        go_wp2_with (first
         |(go_at_call 10;go_must (refine HOP.out.mono ?_;rintro e w12 ⟨v2,rfl,hW12⟩;refine Stop.of ?_)))
        refine Stop.on ?_
        have HDO:=ah (hW12.done (by omega))
        have HBG:=ah hW12.begin
        clear hW12
        go_wp2_with (first
         |(go_at_call 12;go_must (refine HDO.out.mono ?_;rintro e w13 ⟨rfl,hw⟩;subst w13))
         |(go_at_call 21;go_must (refine HBG.out.mono ?_;rintro e w14 ⟨t2,rfl,hT14⟩;refine Stop.of ?_)))
        refine Stop.on ?_
        have HSC:=ah (hT14.scan 1073741824 (by have:=HKV.out.len;omega) (by have:=HKV.out.len;omega))
        clear hT14
        go_wp2_with (first
         |(go_at_call 29;go_must (refine HSC.out.mono ?_;rintro e w15 ⟨x,SP,rfl,hx,hb15,y,c1,c2,hy⟩;refine Stop.of ?_)))
        refine Stop.on ?_
        have hsm:=BQ x y kv w15 fZ SP hx hy
        have HB:=ah hb15
        obtain⟨xo,xc,rfl,_⟩:=aX.form hx
        obtain⟨yo,yc,rfl,_⟩:=aX.form hy
        clear hx hy hb15
        rw[hm.out] at hsm c1 ⊢
        have HSM:=ah hsm
        clear hsm
        go_wp2_with (first
         |(go_at_call 30;go_must (refine HSM.out.mono ?_;rintro e w16 ⟨rfl,hb16⟩;refine Stop.of ?_)))
        refine Stop.on ?_
        go_wp2_with fail
        go_ret
        exact⟨by simp,HB.out.trans (hb16.mono HB.out.size)⟩
       ·have m1:0<m:=by have:=hm.out;have:=he.out;omega
        have m0:(0:Int)<(m:Int):=by omega
        have m2:decide (0<m)=true:=dZ m1
        have HRC:=ah (hV8.LB true)
        obtain⟨lo,lc,l1,l2⟩:=hV8.list
        rw[hm.out] at l1
        clear hV8
        go_wp2_with (first
         |(go_at_call 26;go_must (refine HRC.out.mono ?_;rintro e w9 ⟨rfl,hW9⟩;refine Stop.of ?_)))
        refine Stop.on ?_
        clear l1 l2
        have HSY:=ah (hW9.sync (by omega))
        clear hW9
        go_wp2_with (first
         |(go_at_call 27;go_must (refine HSY.out.mono ?_;rintro e w10 ⟨rfl,hD10⟩;refine Stop.of ?_)))
        refine Stop.on ?_
        have HCR:=ah hD10.oP
        clear hD10
        go_wp2_with (first
         |(go_at_call 28;go_must (refine HCR.out.mono ?_;rintro e w11 ⟨rfl,hD11⟩;refine Stop.of ?_)))
        refine Stop.on ?_
        have HOP:=ah (hD11.open_ a2 (by have:=hR.out;have:=H32.out;omega) (by have:=H32.out;omega) (by omega) (by omega) (by have:=HKV.out.len;omega))
        clear hD11
        go_wp2_with (first
         |(go_at_call 10;go_must (refine HOP.out.mono ?_;rintro e w12 ⟨v2,rfl,hW12⟩;refine Stop.of ?_)))
        refine Stop.on ?_
        have HDO:=ah (hW12.done (by omega))
        have HBG:=ah hW12.begin
        clear hW12
        go_wp2_with (first
         |(go_at_call 12;go_must (refine HDO.out.mono ?_;rintro e w13 ⟨rfl,hw⟩;subst w13))
         |(go_at_call 21;go_must (refine HBG.out.mono ?_;rintro e w14 ⟨t2,rfl,hT14⟩;refine Stop.of ?_)))
        refine Stop.on ?_
        have HSC:=ah (hT14.scan 1073741824 (by have:=HKV.out.len;omega) (by have:=HKV.out.len;omega))
        clear hT14
        go_wp2_with (first
         |(go_at_call 29;go_must (refine HSC.out.mono ?_;rintro e w15 ⟨x,SP,rfl,hx,hb15,y,c1,c2,hy⟩;refine Stop.of ?_)))
        refine Stop.on ?_
        have hsm:=BQ x y kv w15 fZ SP hx hy
        have HB:=ah hb15
        obtain⟨xo,xc,rfl,_⟩:=aX.form hx
        obtain⟨yo,yc,rfl,_⟩:=aX.form hy
        clear hx hy hb15
        rw[hm.out] at hsm c1 ⊢
        have HSM:=ah hsm
        clear hsm
        go_wp2_with (first
         |(go_at_call 30;go_must (refine HSM.out.mono ?_;rintro e w16 ⟨rfl,hb16⟩;refine Stop.of ?_)))
        refine Stop.on ?_
        go_wp2_with fail
        go_ret
        exact⟨by simp,HB.out.trans (hb16.mono HB.out.size)⟩
 ·have x1:(40:Int)<(os.length:Int):=by omega
  go_wp2_with (first
   |(go_at_call 7;go_must ((refine(wS _).mono ?_);rintro e w2 ⟨rfl,hb2⟩)))
  go_ret
  exact⟨rfl,hb1.trans (hb2.mono hb1.size)⟩
end Go.Proofs.YtogbkgmlhhahdaaGreat
