/- parts -/
import Derived.Test.YtpmbddooibgnaaaGreatDoorS7
import Derived.Test.YtpmbddooibgnaaaGreatDoorS12
import Derived.Test.YtpmbddooibgnaaaGreatDoorS13
import Derived.Test.YtpmbddooibgnaaaGreatDoorS17
import Derived.Test.YtpmbddooibgnaaaGreatDoorS21
import Derived.Laws.IdiomStrings
set_option maxRecDepth 100000
set_option maxHeartbeats 8000000
set_option linter.all false
namespace Go.Proofs.YtpmbddooibgnaaaGreatDoor
open Go.RowKit
def CS (σ:Dk)(s:Nat->List UInt8):Prop:=∃ks:List Bool,s=(σ.PS ks).sec
def pV (s:Nat->List UInt8)(i:Nat)(x:List UInt8):Nat->List UInt8:=fun j=>if i=j then x else s j
def Al (σ:Dk)(P:(Nat->List UInt8)->Prop):Prop:=∀s,CS σ s->P s
theorem JS (ks:List Bool)(ws:List (Nat×List UInt8))(p:Nat×List UInt8):kept ks (ws++[p])=kept ks ws\/kept ks (ws++[p])=kept ks ws++[p]:=by
 have h:=Bd ks (ws++[p]) ws.length (by simp)
 rw[aI (by simp),gP] at h
 rw[h]
 split
 ·right;simp
 ·left;simp
theorem Bc:∀ws:List (Nat×List UInt8),kept (List.replicate ws.length true) ws=ws
 |[]=>rfl
 |p::ws=>by
  rw[aU,List.replicate_succ]
  simp only[kept,lH]
  rw[Bc ws]
theorem CS.get (σ:Dk):CS σ σ.get:=⟨List.replicate σ.waits.length true,by
 funext i
 show _=behind (kept _ σ.waits) i (σ.sec i)
 rw[Bc];rfl⟩
theorem CS.none {σ:Dk}{s:Nat->List UInt8}(h:CS σ s)(hw:σ.waits=[]):s=σ.get:=by
 obtain⟨ks,rfl⟩:=h
 funext i
 show behind (kept ks σ.waits) i (σ.sec i)=behind σ.waits i (σ.sec i)
 rw[hw,Eo]
theorem CS.same {σ τ:Dk}(h1:τ.sec=σ.sec)(h2:τ.waits=σ.waits){s:Nat->List UInt8}(h:CS τ s):CS σ s:=by
 obtain⟨ks,rfl⟩:=h
 exact⟨ks,by unfold Dk.PS;rw[h1,h2]⟩
theorem CS.put {σ:Dk}{i:Nat}{l:List UInt8}{s:Nat->List UInt8}(h:CS (σ.put i l) s):CS σ s\/∃s',CS σ s'/\s=pV s' i (pad l):=by
 obtain⟨ks,rfl⟩:=h
 rcases JS ks σ.waits (i,pad l) with e|e
 ·left
  refine⟨ks,?_⟩
  funext j
  show behind (kept ks (σ.waits++[(i,pad l)])) j (σ.sec j)=_
  rw[e];rfl
 ·right
  refine⟨_,⟨ks,rfl⟩,?_⟩
  funext j
  show behind (kept ks (σ.waits++[(i,pad l)])) j (σ.sec j)=_
  rw[e,mR]
  rfl
theorem Al.get {σ:Dk}{P:(Nat->List UInt8)->Prop}(h:Al σ P):P σ.get:=h _ (CS.get σ)
theorem Al.same {σ τ:Dk}{P:(Nat->List UInt8)->Prop}(h:Al σ P)(h1:τ.sec=σ.sec)(h2:τ.waits=σ.waits):Al τ P:=fun s hs=>h s (hs.same h1 h2)
theorem Al.dF {σ:Dk}{P:(Nat->List UInt8)->Prop}(h:Al σ P):Al σ.dF P:=h.same σ.bM.2.1 σ.bM.2.2
theorem Al.put {σ:Dk}{P:(Nat->List UInt8)->Prop}(h:Al σ P){i:Nat}{l:List UInt8}(hc:∀s,P s->P (pV s i (pad l))):Al (σ.put i l) P:=fun s hs=>by
 rcases hs.put with e|⟨s',e,rfl⟩
 ·exact h s e
 ·exact hc _ (h _ e)
theorem Al.none {σ:Dk}{P:(Nat->List UInt8)->Prop}(h:P σ.get)(hw:σ.waits=[]):Al σ P:=fun s hs=>by
 rw[hs.none hw];exact h
theorem Dk.oH (σ:Dk)(i:Nat):σ.dF.get i=σ.get i:=by unfold Dk.get;rw[σ.bM.2.1,σ.bM.2.2]
theorem wE {σ:Dk}(hd:σ.dead=false){i:Nat}{l:List UInt8}(hi:i<σ.n)(hl:l.length<=512):
  (σ.write i l=(σ.dF.put i l,0)/\σ.dF.dead=false)\/(σ.write i l=(σ.dF,10)/\σ.dF.dead=true):=by
 unfold Dk.write
 rw[hd,if_neg (by simp),if_neg (by omega),if_neg (by omega)]
 cases h:σ.dF.dead with
 |true=>right;rw[if_pos rfl];exact⟨rfl,rfl⟩
 |false=>left;rw[if_neg (by simp)];exact⟨by simp,rfl⟩
theorem yR {σ:Dk}(hd:σ.dead=false):(σ.sync=(σ.dF.flush,0)/\σ.dF.dead=false)\/(σ.sync=(σ.dF,10)/\σ.dF.dead=true):=by
 unfold Dk.sync
 rw[hd,if_neg (by simp)]
 cases h:σ.dF.dead with
 |true=>right;rw[if_pos rfl];exact⟨rfl,rfl⟩
 |false=>left;rw[if_neg (by simp)];exact⟨rfl,rfl⟩
def zU (s:Nat->List UInt8)(l:Lg)(at_:Nat)(B:List UInt8):Prop:=
 ∃Z:List UInt8,Z.length=(B.length+511)/512*512/\Z.take B.length=B/\∀j,j<(B.length+511)/512->s (l.ring (at_+j))=(Z.drop (j*512)).take 512
theorem zU.congr {s s':Nat->List UInt8}{l l':Lg}{at_:Nat}{B:List UInt8}(h:zU s l at_ B)(hf:l'.frm=l.frm)(hn:l'.n=l.n)(hs:∀j,j<(B.length+511)/512->s' (l.ring (at_+j))=s (l.ring (at_+j))):zU s' l' at_ B:=by
 obtain⟨Z,h1,h2,h3⟩:=h
 refine⟨Z,h1,h2,fun j hj=> ?_⟩
 have e:l'.ring (at_+j)=l.ring (at_+j):=by unfold Lg.ring;rw[hf,hn]
 rw[e,hs j hj];exact h3 j hj
theorem Dz {l:Lg}{a b:Nat}(h1:a<b)(h2:b<a+(l.n - 1)):l.ring a≠l.ring b:=by
 unfold Lg.ring
 intro e
 have e:a%(l.n - 1)=b%(l.n - 1):=by omega
 obtain⟨m,hm⟩:∃m,m=l.n - 1:=⟨_,rfl⟩
 rw[<-hm] at h2 e
 have ha:=Nat.div_add_mod a m
 have hb:=Nat.div_add_mod b m
 have hq:a/m<=b/m:=Nat.div_le_div_right (by omega)
 rcases Nat.lt_or_eq_of_le hq with hq|hq
 ·have:m*(a/m+1)<=m*(b/m):=Nat.mul_le_mul_left m hq
  rw[Nat.mul_add,iA] at this
  omega
 ·rw[hq] at ha;omega
theorem qV (l:Lg)(a:Nat)(h:2<=l.n)(hf:l.frm=0):0<l.ring a/\l.ring a<l.n:=by
 unfold Lg.ring
 have:=nL a (by omega:0<l.n - 1)
 omega
theorem Hq {l:Lg}{a b k m:Nat}(hak:a+k<=b)(hbm:b+m<=a+(l.n - 1)){i j:Nat}(hi:i<k)(hj:j<m):l.ring (b+j)≠l.ring (a+i):=fun e=>Dz (l:=l) (a:=a+i) (b:=b+j) (by omega) (by omega) e.symm
def jF:Nat->List (List (List UInt8))->List (Nat×Nat)
 |_,[]=>[]
 |k,b::r=>(k,bN b)::jF (k+1) r
theorem rE:∀(r:List (List (List UInt8))) (k:Nat) (b:List (List UInt8)),jF k (r++[b])=jF k r++[(k+r.length,bN b)]
 |[],_,_=>rfl
 |c::r,k,b=>by
  rw[RP,jF,rE r,jF,aU,RP]
  congr 4
  omega
theorem xN:∀(r:List (List (List UInt8))) (k i:Nat),(jF k r).take i=jF k (r.take i)
 |[],_,i=>by simp[jF]
 |b::r,k,0=>by simp[jF]
 |b::r,k,i+1=>by rw[jF,gG,xN r,gG,jF]
def wide (r:List (List (List UInt8))):Nat:=(r.map bN).sum
theorem xC (a b:List (List (List UInt8))):wide (a++b)=wide a+wide b:=by simp[wide]
theorem zH:∀(r:List (List (List UInt8))) (k:Nat),((jF k r).map (·.2)).sum=wide r
 |[],_=>rfl
 |b::r,k=>by rw[jF,dO,jQ,zH r];simp[wide]
theorem zi (b:List (List UInt8)):1<=bN b:=by unfold bN;omega
theorem zl (k:Nat)(b:List (List UInt8)):((nG k b).length+511)/512=bN b:=by rw[Ap];rfl
theorem Au (r:List (List (List UInt8)))(i:Nat):wide (r.take i)<=wide r:=by
 have h:wide r=wide (r.take i)+wide (r.drop i):=by rw[<-xC,bG]
 omega
theorem I9 (r:List (List (List UInt8)))(i:Nat)(h:i<r.length):wide (r.take (i+1))=wide (r.take i)+bN r[i]:=by
 rw[aM h,xC]
 simp[wide]
def mg (s:Nat->List UInt8)(l:Lg)(k:Nat)(bs:List (List (List UInt8))):Prop:=
 ∀i (h:i<bs.length),zU s l (l.start+wide (bs.take i)) (nG (k+i) bs[i])
theorem mg.congr {s s':Nat->List UInt8}{l l':Lg}{k:Nat}{bs:List (List (List UInt8))}(h:mg s l k bs)(hf:l'.frm=l.frm)(hn:l'.n=l.n)(hst:l'.start=l.start)(hs:∀j,j<wide bs->s' (l.ring (l.start+j))=s (l.ring (l.start+j))):mg s' l' k bs:=fun i hi=>by
 rw[hst]
 refine(h i hi).congr hf hn fun j hj=> ?_
 rw[zl] at hj
 have h1:=I9 bs i hi
 have h2:=Au bs (i+1)
 rw[kV]
 exact hs _ (by omega)
theorem mg.set {s:Nat->List UInt8}{l:Lg}{k:Nat}{bs:List (List (List UInt8))}(h:mg s l k bs){i:Nat}{x:List UInt8}(hi:∀j,j<wide bs->i≠l.ring (l.start+j)):mg (pV s i x) l k bs:=
 h.congr rfl rfl rfl fun j hj=>by unfold pV;rw[if_neg (hi j hj)]
theorem mg.take {s:Nat->List UInt8}{l:Lg}{k:Nat}{bs:List (List (List UInt8))}(h:mg s l k bs)(m:Nat):mg s l k (bs.take m):=fun i hi=>by
 rw[aL] at hi
 have h1:=h i (by omega)
 rw[lU,dh (by omega),Qa]
 exact h1
theorem mg.snoc {s:Nat->List UInt8}{l:Lg}{k:Nat}{bs:List (List (List UInt8))}(h:mg s l k bs){b:List (List UInt8)}(hb:zU s l (l.start+wide bs) (nG (k+bs.length) b)):mg s l k (bs++[b]):=fun i hi=>by
 rw[ay,dJ] at hi
 by_cases h1:i<bs.length
 ·rw[bL (by omega),List.getElem_append_left h1]
  exact h i h1
 ·obtain rfl:i=bs.length:=by omega
  rw[gP,yG (by omega)]
  simpa using hb
structure Tp (s:Nat->List UInt8)(l:Lg)(bs:List (List (List UInt8))):Prop where
 ok:l.Ok
 dead:l.dead=false
 frm:l.frm=0
 mark:s 0=pad l.dZ
 uF:l.synced=l.last
 list:l.list=jF (l.last+1 - bs.length) bs
 len:bs.length<=l.last
 on:mg s l (l.last+1 - bs.length) bs
theorem qw {l:Lg}{bs:List (List (List UInt8))}(h:l.list=jF (l.last+1 - bs.length) bs)(hl:bs.length<=l.last):l.first=l.last+1 - bs.length:=by
 unfold Lg.first
 cases bs with
 |nil=>rw[h];rfl
 |cons b r=>rw[h];rfl
theorem D9 {l l':Lg}(h:l'.fields=l.fields):l'.dZ=l.dZ:=by
 unfold Lg.fields at h
 simp only[List.cons.injEq,and_true] at h
 obtain⟨h1,h2,h3,h4,h5⟩:=h
 unfold Lg.dZ Lg.oF
 rw[h1,h2,h3,h4,h5]
def findAll (ims:List Im)(b:Nat):Option (List UInt8):=ims.foldl (fun o im=>(im.find b).or o) none
theorem vJ (ims:List Im)(im:Im)(b:Nat):findAll (ims++[im]) b=(im.find b).or (findAll ims b):=by
 unfold findAll
 rw[List.foldl_append];rfl
def pq (ims:List Im)(H:Nat->List UInt8)(b:Nat):List UInt8:=(findAll ims b).getD (H b)
theorem Im.Ok.over {m im:Im}{n:Nat}(h:m.Ok n)(hi:im.Ok n):(m.over im).Ok n:=by
 unfold Im.over
 refine⟨Im.wX _ _ _ h.rise,fun k hk=> ?_,fun k hk=> ?_⟩
 ·rcases (Im.vH _ _ _ _).1 hk with e|e
  ·exact h.hi k e
  ·exact hi.hi k e
 ·rw[Im.vI]
  split
  ·rename_i e;exact hi.img k e
  ·rename_i e
   exact h.img k (((Im.vH _ _ _ _).1 hk).resolve_right e)
structure Im.Tw (im:Im)(N:Nat):Prop where
 ok:im.Ok N
 lo:0<im.ks.length
 hi:im.ks.length<=1024
def fT (ims:List Im):List (List (List UInt8)):=ims.map Im.bE
def vS (s:Nat->List UInt8)(L N k:Nat)(C:Nat->List UInt8):Prop:=
 ∃(l:Lg) (ims:List Im),Tp s l (fT ims)/\l.n=L/\l.last=k/\(∀im∈ims,im.Tw N)/\∀b,b<N->C b=pq ims (fun b=>s (L+b)) b
theorem vS.congr {s:Nat->List UInt8}{L N k:Nat}{C C':Nat->List UInt8}(h:vS s L N k C)(hc:∀b,b<N->C' b=C b):vS s L N k C':=by
 obtain⟨l,ims,h1,h2,h3,h4,h5⟩:=h
 exact⟨l,ims,h1,h2,h3,h4,fun b hb=>(hc b hb).trans (h5 b hb)⟩
def Lg.uF (l:Lg)(m:Nat):Nat:=l.synced+m - l.last
structure Ph (l:Lg)(mark:List UInt8)(ims:List Im)(m L N:Nat)(H:Nat->List UInt8)(s:Nat->List UInt8):Prop where
 mark:s 0=pad mark
 on:mg s l (l.last+1 - ims.length) ((fT ims).take m)
 home:∀b,b<N->s (L+b)=H b
structure Rest (σ:Dk)(l:Lg)(p:Pg)(ims:List Im):Prop where
 lok:l.Ok
 pok:p.Ok σ l
 list:l.list=jF (l.last+1 - ims.length) (fT ims)
 len:ims.length<=l.last
 uF:l.last<=l.synced+ims.length
 bat:∀im∈ims,im.Tw (p.blocks σ)
 on:mg σ.get l (l.last+1 - ims.length) (fT ims)
 all:Al σ (Ph l l.dZ ims (l.uF ims.length) p.skip (p.blocks σ) (fun b=>σ.get (p.skip+b)))
 fresh:∀b,p.fresh.find b=findAll ims b
 cap:σ.waits.length<=l.used
 wt:l.synced=l.last->σ.waits=[]
theorem bQ (ims:List Im):(fT ims).length=ims.length:=by simp[fT]
theorem xP (ims:List Im)(m:Nat):(fT ims).take m=fT (ims.take m):=by simp[fT,jR]
theorem zG:∀(r:List (List (List UInt8))) (k:Nat) (e:Nat×Nat),e∈jF k r->1<=e.2/\k<=e.1/\e.1<k+r.length
 |[],_,_,h=>by cases h
 |b::r,k,e,h=>by
  rcases aX.1 h with rfl|h
  ·exact⟨zi b,aA _,by simp⟩
  ·have:=zG r (k+1) e h
   rw[aU]
   omega
theorem Ph.recs {l:Lg}{ims:List Im}{m L N:Nat}{H:Nat->List UInt8}{s:Nat->List UInt8}{l':Lg}(h:Ph l l'.dZ ims m L N H s)(hok:l.Ok)(hf:l.frm=0)(hL:l.n=L)(hlist:l.list=jF (l.last+1 - ims.length) (fT ims))(hlen:ims.length<=l.last)(hims:∀im∈ims,im.Tw N)
  (h1:l'.fields=[l.frm,l.n,l.start,l.first,l'.synced]) (hm:l'.synced+ims.length=l.last+m) (hml:m<=ims.length):vS s L N l'.synced (pq (ims.take m) H):=by
 have hd:({l with list:=l.list.take m,used:=((l.list.take m).map (·.2)).sum,last:=l'.synced,synced:=l'.synced,dead:=false}:Lg).list=jF (l'.synced+1 - (ims.take m).length) (fT (ims.take m)):=by
  show l.list.take m=_
  rw[hlist,xN,xP,aL,dh hml]
  congr 1
  omega
 have hlt:(ims.take m).length=m:=by rw[aL,dh hml]
 have hfirst:=qw (l:=({l with list:=l.list.take m,used:=((l.list.take m).map (·.2)).sum,last:=l'.synced,synced:=l'.synced,dead:=false}:Lg)) (bs:=fT (ims.take m)) (by rw[bQ];exact hd) (by rw[bQ,hlt];show m<=l'.synced;omega)
 have hfl:=qw (l:=l) (bs:=fT ims) (by rw[bQ];exact hlist) (by rw[bQ];exact hlen)
 rw[bQ] at hfl
 rw[bQ,hlt] at hfirst
 have hsub:((l.list.take m).map (·.2)).sum<=l.n - 1:=by
  have e:=hok.sum
  have hu:=hok.us
  have:l.list=l.list.take m++l.list.drop m:=(bG m l.list).symm
  rw[this,eP,pQ] at e
  omega
 refine⟨({l with list:=l.list.take m,used:=((l.list.take m).map (·.2)).sum,last:=l'.synced,synced:=l'.synced,dead:=false}:Lg),ims.take m,⟨⟨hok.n2,hok.hi,hok.st,hsub,?_,aA _,?_,rfl⟩,rfl,hf,?_,rfl,by rw[bQ];exact hd,by rw[bQ,hlt];show m<=l'.synced;omega,?_⟩,hL,rfl,fun im hi=>hims im (nN hi),fun b hb=> ?_⟩
 ·have:=hok.la;show l'.synced<=_;omega
 ·intro e he
  have he':e∈jF (l'.synced+1 - (ims.take m).length) (fT (ims.take m)):=by rw[<-hd];exact he
  have:=zG _ _ _ he'
  rw[bQ,hlt] at this
  refine⟨this.1,?_⟩
  show e.1<=l'.synced
  omega
 ·rw[h.mark]
  congr 1
  refine(D9 ?_).symm
  rw[h1]
  unfold Lg.fields
  rw[hfirst,hfl]
  show [l.frm,l.n,l.start,l'.synced+1 - m,l'.synced]=_
  congr 4
  omega
 ·have h2:=h.on
  rw[xP] at h2
  rw[bQ,hlt]
  have e:l'.synced+1 - m=l.last+1 - ims.length:=by omega
  show mg s _ (l'.synced+1 - m) _
  rw[e]
  exact h2.congr rfl rfl rfl fun _ _=>rfl
 ·unfold pq
  show _=(findAll (List.take m ims) b).getD (s (L+b))
  rw[h.home b hb]
def pE (s:Nat->List UInt8)(l:Lg)(ims:List Im)(L N:Nat)(H:Nat->List UInt8)(k:Nat):Prop:=vS s L N k (pq (ims.take (k+ims.length - l.last)) H)
theorem Rest.recs {σ:Dk}{l:Lg}{p:Pg}{ims:List Im}(h:Rest σ l p ims):Al σ fun s=>pE s l ims p.skip (p.blocks σ) (fun b=>σ.get (p.skip+b)) l.synced:=fun s hs=>by
 have hsy:=h.lok.sy
 have:=h.uF
 exact(h.all s hs).recs (l':=l) h.lok h.pok.frm h.pok.skip.symm h.list h.len h.bat rfl (by unfold Lg.uF;omega) (by unfold Lg.uF;omega)
theorem D8 {σ:Dk}(l:Lg)(hd:σ.dead=false)(hf:l.frm<σ.n):
  (∃σ',l.mark σ=(σ',l,0)/\σ'.dead=false/\(σ.fuel= -1->σ'.fuel= -1)/\σ'.n=σ.n/\σ'.waits=[]/\∀x,σ'.get x=if l.frm=x then pad l.dZ else σ.get x)\/
  (∃σ',l.mark σ=(σ',l.dies,10)/\σ'.dead=true/\σ.fuel≠-1/\σ'.n=σ.n/\∀s,CS σ' s->∃s',CS σ s'/\(s=s'\/s=pV s' l.frm (pad l.dZ))):=by
 have hbn:=σ.bM.1
 have hfu:∀τ:Dk,τ.dead=false->τ.fuel= -1->τ.dF.dead=false/\τ.dF.fuel= -1:=fun τ h1 h2=>by rw[Dk.lF.dF ⟨h1,h2⟩];exact⟨h1,h2⟩
 unfold Lg.mark
 rcases wE hd hf (by rw[l.uZ];omega:l.dZ.length<=512) with ⟨e,hb⟩|⟨e,hb⟩
 ·rw[e]
  dsimp only
  rw[if_pos rfl]
  have hd2:(σ.dF.put l.frm l.dZ).dead=false:=hb
  rcases yR hd2 with ⟨e2,hb2⟩|⟨e2,hb2⟩
  ·rw[e2]
   dsimp only
   rw[if_pos rfl]
   refine .inl ⟨_,rfl,hb2,fun h=> ?_,?_,rfl,fun x=> ?_⟩
   ·exact(hfu _ hd2 (hfu σ hd h).2).2
   ·show (σ.dF.put l.frm l.dZ).dF.n=σ.n
    exact(Dk.bM _).1.trans hbn
   ·rw[Dk.lN,Dk.oH,Dk.get_put,σ.oH]
  ·rw[e2]
   dsimp only
   rw[if_neg (by omega)]
   refine .inr ⟨_,rfl,hb2,fun h=> ?_,?_,fun s hs=> ?_⟩
   ·have:=(hfu _ hd2 (hfu σ hd h).2).1
    rw[hb2] at this;cases this
   ·exact(Dk.bM _).1.trans hbn
   ·have hs:=hs.same (Dk.bM (σ.dF.put l.frm l.dZ)).2.1 (Dk.bM _).2.2
    rcases hs.put with e|⟨s',e,rfl⟩
    ·exact⟨s,e.same σ.bM.2.1 σ.bM.2.2,.inl rfl⟩
    ·exact⟨s',e.same σ.bM.2.1 σ.bM.2.2,.inr rfl⟩
 ·rw[e]
  dsimp only
  rw[if_neg (by omega)]
  refine .inr ⟨_,rfl,hb,fun h=> ?_,hbn,fun s hs=>⟨s,hs.same σ.bM.2.1 σ.bM.2.2,.inl rfl⟩⟩
  have:=(hfu σ hd h).1
  rw[hb] at this;cases this
theorem jT {σ:Dk}(h1:σ.dead=false)(h2:σ.fuel= -1):σ.dF.dead=false/\σ.dF.fuel= -1:=by rw[Dk.lF.dF ⟨h1,h2⟩];exact⟨h1,h2⟩
theorem Ph.NR {l:Lg}{mk mk':List UInt8}{ims:List Im}{m L N:Nat}{H:Nat->List UInt8}{s:Nat->List UInt8}(h:Ph l mk ims m L N H s)(hok:l.Ok)(hf:l.frm=0)(hL:l.n=L):Ph l mk' ims m L N H (pV s 0 (pad mk')):=by
 have h2:=hok.n2
 refine⟨by unfold pV;rw[if_pos rfl],h.on.set fun j _=> ?_,fun b hb=> ?_⟩
 ·have:=qV l (l.start+j) h2 hf
  omega
 ·unfold pV
  rw[if_neg (by omega)]
  exact h.home b hb
def Pe (σ':Dk)(l' l:Lg)(ims:List Im)(L N:Nat)(H:Nat->List UInt8):Prop:=
 l'.last=l.last/\((l'.synced=l.synced/\Al σ' fun s=>pE s l ims L N H l.synced\/pE s l ims L N H l.last)\/(l'.synced=l.last/\Al σ' fun s=>pE s l ims L N H l.last))
theorem AZ {σ:Dk}{l:Lg}{p:Pg}{ims:List Im}(h:Rest σ l p ims)(hd:σ.dead=false)(hld:l.dead=false):
  (∃σ',l.sync σ=(σ',l.all,0)/\σ'.dead=false/\(σ.fuel= -1->σ'.fuel= -1)/\σ'.n=σ.n/\σ'.waits=[]/\(∀x,0<x->σ'.get x=σ.get x)/\Rest σ' l.all p ims)\/
  (∃σ',l.sync σ=(σ',l.dies,10)/\σ'.dead=true/\σ.fuel≠-1/\σ'.n=σ.n/\Pe σ' l.dies l ims p.skip (p.blocks σ) (fun b=>σ.get (p.skip+b))):=by
 have hok:=h.lok
 have hpo:=h.pok
 have hfit:=hpo.fit;have hfrm:=hpo.frm;have hskip:=hpo.skip;have hring:=hpo.ring;have hsy:=hok.sy;have hsyn:=h.uF;have hn2:=hok.n2
 have hrec:=h.recs
 obtain⟨N,hN⟩:∃N,N=p.blocks σ:=⟨_,rfl⟩
 rw[<-hN] at hrec ⊢
 obtain⟨H,hH⟩:∃H:Nat->List UInt8,H=fun b=>σ.get (p.skip+b):=⟨_,rfl⟩
 have hall:=h.all
 rw[<-hN,<-hH] at hall
 rw[<-hH] at hrec ⊢
 have hget:Ph l l.dZ ims ims.length p.skip N H σ.get:=⟨hall.get.mark,by rw[aI (by rw[bQ];omega)];exact h.on,hall.get.home⟩
 have hold:∀s,Ph l l.dZ ims ims.length p.skip N H s->pE s l ims p.skip N H l.synced:=fun s hs=>by
  have h1:Ph l l.dZ ims (l.uF ims.length) p.skip N H s:=⟨hs.mark,by
   have:=hs.on.take (l.uF ims.length)
   rw[lU,dh (by unfold Lg.uF;omega)] at this
   exact this,hs.home⟩
  exact h1.recs (l':=l) hok hfrm hskip.symm h.list h.len (by rw[hN];exact h.bat) rfl (by unfold Lg.uF;omega) (by unfold Lg.uF;omega)
 have hfa:l.all.first=l.first:=rfl
 have hnew:∀s,Ph l l.all.dZ ims ims.length p.skip N H s->pE s l ims p.skip N H l.last:=fun s hs=>by
  have:=hs.recs (l':=l.all) hok hfrm hskip.symm h.list h.len (by rw[hN];exact h.bat) rfl (by show l.last+_=_;omega) (aA _)
  unfold pE
  rw[dz]
  exact this
 unfold Lg.sync
 rw[hld,if_neg (by simp)]
 rcases yR hd with ⟨e,hb⟩|⟨e,hb⟩
 ·rw[e]
  dsimp only
  rw[if_pos rfl]
  have hd1:σ.dF.flush.dead=false:=hb
  have hn1:σ.dF.flush.n=σ.n:=σ.bM.1
  have hg1:∀x,σ.dF.flush.get x=σ.get x:=fun x=>by rw[Dk.lN,Dk.oH]
  have hcs:∀s,CS σ.dF.flush s->Ph l l.dZ ims ims.length p.skip N H s:=fun s hs=>by
   rw[hs.none rfl,show σ.dF.flush.get=σ.get from funext hg1];exact hget
  rcases D8 l.all hd1 (show l.frm<σ.dF.flush.n by rw[hn1];omega) with ⟨σ',e2,h1,h2,h3,h4,h5⟩|⟨σ',e2,h1,h2,h3,h4⟩
  ·left
   rw[e2]
   dsimp only
   rw[if_pos rfl]
   have hg:∀x,0<x->σ'.get x=σ.get x:=fun x hx=>by
    rw[h5,if_neg (by show l.frm≠x;omega),hg1]
   have hn':σ'.n=σ.n:=h3.trans hn1
   have hNb:p.blocks σ'=N:=by rw[hN];unfold Pg.blocks;rw[hn']
   have hon:mg σ'.get l.all (l.all.last+1 - ims.length) (fT ims):=h.on.congr rfl rfl rfl fun j _=>hg _ (qV l _ hn2 hfrm).1
   refine⟨σ',rfl,h1,fun hf=>h2 (jT hd hf).2,hn',h4,hg,?_⟩
   refine⟨⟨hok.n2,hok.hi,hok.st,hok.us,hok.la,aA _,hok.ent,hok.sum⟩,⟨hfrm,hskip,hring,by rw[hn'];exact hfit,by rw[hn'];exact hpo.fresh⟩,h.list,h.len,by show l.last<=l.last+_;omega,by rw[hNb,hN];exact h.bat,hon,?_,h.fresh,by rw[h4];exact aN _,fun _=>h4⟩
   refine Al.none ⟨?_,?_,fun b _=>rfl⟩ h4
   ·rw[h5,if_pos (by show l.frm=0;exact hfrm)]
   ·rw[aI (by rw[bQ];unfold Lg.uF;show _<=l.last+_ - l.last;omega)]
    exact hon
  ·right
   rw[e2]
   dsimp only
   rw[if_neg (by omega)]
   refine⟨σ',rfl,h1,fun hf=>h2 (jT hd hf).2,h3.trans hn1,rfl,.inl ⟨rfl,fun s hs=> ?_⟩⟩
   obtain⟨s',g1,g2⟩:=h4 s hs
   have g1:=hcs s' g1
   rcases g2 with rfl|rfl
   ·exact .inl (hold _ g1)
   ·right
    rw[show l.all.frm=0 from hfrm]
    exact hnew _ (g1.NR hok hfrm hskip.symm)
 ·right
  rw[e]
  dsimp only
  rw[if_neg (by omega)]
  refine⟨_,rfl,hb,fun hf=> ?_,σ.bM.1,rfl,.inl ⟨rfl,fun s hs=> .inl (hrec s (hs.same σ.bM.2.1 σ.bM.2.2))⟩⟩
  have:=(jT hd hf).1
  rw[hb] at this;cases this
theorem Iq (p:Pg)(P:(Nat->List UInt8)->Prop):∀(r:List Nat) (σ:Dk),σ.dead=false->(∀b∈r,p.skip+b<σ.n/\(p.fresh.img b).length=512)->(∀s b,b∈r->P s->P (pV s (p.skip+b) (p.fresh.img b)))->Al σ P->
  (∃σ',p.lay r σ=(σ',0)/\σ'.dead=false/\(σ.fuel= -1->σ'.fuel= -1)/\σ'.n=σ.n/\Al σ' P/\(∀b,σ'.get (p.skip+b)=if b∈r then p.fresh.img b else σ.get (p.skip+b))/\∀j,j<p.skip->σ'.get j=σ.get j)\/
  (∃σ',p.lay r σ=(σ',10)/\σ'.dead=true/\σ.fuel≠-1/\σ'.n=σ.n/\Al σ' P)
 |[],σ,h,_,_,hP=> .inl ⟨σ,rfl,h,id,rfl,hP,fun b=>by simp,fun _ _=>rfl⟩
 |b::r,σ,h,hr,hc,hP=>by
  obtain⟨h1,h2⟩:=hr b (aP ..)
  rw[p.vv]
  rcases wE h h1 (by omega:(p.fresh.img b).length<=512) with ⟨e,hb⟩|⟨e,hb⟩
  ·rw[e]
   dsimp only
   rw[if_pos rfl]
   have hd2:(σ.dF.put (p.skip+b) (p.fresh.img b)).dead=false:=hb
   have hn2:(σ.dF.put (p.skip+b) (p.fresh.img b)).n=σ.n:=σ.bM.1
   have hf2:σ.fuel= -1->(σ.dF.put (p.skip+b) (p.fresh.img b)).fuel= -1:=fun hf=>(jT h hf).2
   have hP2:Al (σ.dF.put (p.skip+b) (p.fresh.img b)) P:=hP.dF.put fun s hs=>by
    rw[uT h2];exact hc s b (aP ..) hs
   rcases Iq p P r _ hd2 (fun c hc=>by rw[hn2];exact hr c (aT _ hc)) (fun s c hm=>hc s c (aT _ hm)) hP2 with ⟨σ',q1,q2,q3,q4,q5,q6,q7⟩|⟨σ',q1,q2,q3,q4,q5⟩
   ·refine .inl ⟨σ',q1,q2,fun hf=>q3 (hf2 hf),q4.trans hn2,q5,fun c=> ?_,fun j hj=> ?_⟩
    ·rw[q6,Dk.get_put]
     by_cases hc:c∈r
     ·rw[if_pos hc,if_pos (aT _ hc)]
     ·rw[if_neg hc]
      by_cases e:c=b
      ·subst e
       rw[if_pos rfl,if_pos (aP ..)]
       exact uT h2
      ·rw[if_neg (by omega),if_neg (fun x=>(aX.1 x).elim e hc),σ.oH]
    ·rw[q7 j hj,Dk.get_put,if_neg (by omega),σ.oH]
   ·exact .inr ⟨σ',q1,q2,fun hf=>q3 (hf2 hf),q4.trans hn2,q5⟩
  ·rw[e]
   dsimp only
   rw[if_neg (by omega)]
   refine .inr ⟨_,rfl,hb,fun hf=> ?_,σ.bM.1,hP.dF⟩
   have:=(jT h hf).1
   rw[hb] at this;cases this
theorem IC {l:Lg}(h:l.Ok):(l.cut l.last).list=[]/\(l.cut l.last).used=0/\(l.cut l.last).frm=l.frm/\(l.cut l.last).n=l.n/\(l.cut l.last).last=l.last/\(l.cut l.last).synced=l.synced/\(l.cut l.last).dead=l.dead:=by
 have hs:=uK l.last l.list (l.n - 1) l.start l.used (fun e he=>(h.ent e he).2)
 refine⟨hs.1,?_,rfl,rfl,rfl,rfl,rfl⟩
 show (Lg.oV l.last l.list (l.n - 1) l.start l.used).2.2=0
 rw[hs.2.1,h.sum];omega
theorem Mr {σ:Dk}{l:Lg}{p:Pg}{ims:List Im}(h:Rest σ l p ims)(hd:σ.dead=false)(hld:l.dead=false)(hpd:p.dead=false):
  (∃σ',p.home σ l=(σ',l.all.cut l.last,{p with fresh:=Im.none},0)/\σ'.dead=false/\(σ.fuel= -1->σ'.fuel= -1)/\σ'.n=σ.n/\σ'.waits=[]/\Rest σ' (l.all.cut l.last) {p with fresh:=Im.none} []/\∀b,b<p.blocks σ->σ'.get (p.skip+b)=pq ims (fun b=>σ.get (p.skip+b)) b)\/
  (∃σ' l',p.home σ l=(σ',l',p.dies,10)/\σ'.dead=true/\σ.fuel≠-1/\σ'.n=σ.n/\Pe σ' l' l ims p.skip (p.blocks σ) (fun b=>σ.get (p.skip+b))):=by
 have hpo:=h.pok
 have hfit:=hpo.fit;have hfrm:=hpo.frm;have hskip:=hpo.skip;have hring:=hpo.ring;have hlok:=h.lok
 have hn2:=hlok.n2
 obtain⟨N,hN⟩:∃N,N=p.blocks σ:=⟨_,rfl⟩
 obtain⟨H,hH⟩:∃H:Nat->List UInt8,H=fun b=>σ.get (p.skip+b):=⟨_,rfl⟩
 have hout:=AZ h hd hld
 rw[<-hN,<-hH] at hout ⊢
 unfold Pg.home
 rcases hout with ⟨σ1,e1,d1,f1,n1,w1,g1,R1⟩|⟨σ1,e1,d1,f1,n1,D1⟩
 rotate_left
 ·rw[e1]
  dsimp only
  rw[if_neg (by omega)]
  exact .inr ⟨σ1,_,rfl,d1,f1,n1,D1⟩
 rw[e1]
 dsimp only
 rw[if_pos rfl]
 have hH1:∀b,σ1.get (p.skip+b)=H b:=fun b=>by rw[hH];exact g1 _ (by omega)
 have hNb:p.blocks σ1=N:=by rw[hN];unfold Pg.blocks;rw[n1]
 obtain⟨P,hP⟩:∃P:(Nat->List UInt8)->Prop,P=fun s=>s 0=pad l.all.dZ/\mg s l (l.last+1 - ims.length) (fT ims)/\∀b,b<N->findAll ims b=none->s (p.skip+b)=H b:=⟨_,rfl⟩
 have hPr:∀s,P s->pE s l ims p.skip N H l.last:=fun s hs=>by
  rw[hP] at hs
  obtain⟨a1,a2,a3⟩:=hs
  have hph:Ph l l.all.dZ ims ims.length p.skip N (fun b=>s (p.skip+b)) s:=⟨a1,by rw[aI (by rw[bQ];omega)];exact a2,fun _ _=>rfl⟩
  have:=hph.recs (l':=l.all) hlok hfrm hskip.symm h.list h.len (by rw[hN];exact h.bat) rfl (by show l.last+_=_;omega) (aA _)
  unfold pE
  rw[dz]
  refine vS.congr this fun b hb=> ?_
  rw[aI (aA _)]
  unfold pq
  cases hf:findAll ims b with
  |some x=>rfl
  |none=>
   show H b=s (p.skip+b)
   rw[a3 b hb hf]
 have hal1:Al σ1 P:=fun s hs=>by
  have q:=R1.all s hs
  rw[hP]
  refine⟨q.mark,?_,fun b hb _=> ?_⟩
  ·have:=q.on
   rw[aI (by rw[bQ];unfold Lg.uF;show _<=l.last+_ - l.last;omega)] at this
   exact this.congr rfl rfl rfl fun _ _=>rfl
  ·rw[q.home b (by rw[hNb];exact hb)]
   exact hH1 b
 have hfk:∀b∈p.fresh.ks,findAll ims b=some (p.fresh.img b):=fun b hb=>by
  rw[<-h.fresh b];unfold Im.find;rw[if_pos hb]
 have hfi:=hpo.fresh
 have hclo:∀s b,b∈p.fresh.ks->P s->P (pV s (p.skip+b) (p.fresh.img b)):=fun s b hb hs=>by
  rw[hP] at hs ⊢
  obtain⟨a1,a2,a3⟩:=hs
  have hbn:=hfi.hi b hb
  refine⟨by unfold pV;rw[if_neg (by omega)];exact a1,a2.set fun j _=> ?_,fun c hc hf=> ?_⟩
  ·have:=qV l (l.start+j) hn2 hfrm
   omega
  ·unfold pV
   by_cases e:b=c
   ·subst e
    rw[hfk b hb] at hf;cases hf
   ·rw[if_neg (by omega)]
    exact a3 c hc hf
 rcases Iq p P p.fresh.ks σ1 d1 (fun b hb=>⟨by have:=hfi.hi b hb;omega,hfi.img b hb⟩) hclo hal1 with ⟨σ2,e2,d2,f2,n2,A2,g2,g2'⟩|⟨σ2,e2,d2,f2,n2,A2⟩
 ·rw[e2]
  dsimp only
  rw[if_pos rfl]
  have hlo:∀b,b<N->σ2.get (p.skip+b)=pq ims H b:=fun b hb=>by
   rw[g2,hH1]
   unfold pq
   rw[<-h.fresh b]
   unfold Im.find
   split<;>rfl
  rcases yR d2 with ⟨e3,d3⟩|⟨e3,d3⟩
  ·rw[e3]
   dsimp only
   rw[if_pos rfl]
   have d3':σ2.dF.flush.dead=false:=d3
   have n3:σ2.dF.flush.n=σ.n:=σ2.bM.1.trans (n2.trans n1)
   have g3:∀x,σ2.dF.flush.get x=σ2.get x:=fun x=>by rw[Dk.lN,Dk.oH]
   have hc:=IC (l:=l.all) ⟨hlok.n2,hlok.hi,hlok.st,hlok.us,hlok.la,aA _,hlok.ent,hlok.sum⟩
   obtain⟨c,hce⟩:∃c,c=l.all.cut l.all.last:=⟨_,rfl⟩
   have hcok:c.Ok:=by rw[hce];exact Lg.Ok.cut ⟨hlok.n2,hlok.hi,hlok.st,hlok.us,hlok.la,aA _,hlok.ent,hlok.sum⟩
   rw[<-hce] at hc
   obtain⟨k1,k2,k3,k4,k5,k6,k7⟩:=hc
   have k3:c.frm=0:=k3.trans hfrm
   have k4:c.n=l.n:=k4
   have k5:c.last=l.last:=k5
   have k6:c.synced=l.last:=k6
   have hsf:∀s,CS σ2.dF.flush s->P s:=fun s hs=>by
    rw[hs.none rfl,show σ2.dF.flush.get=σ2.get from funext g3];exact A2.get
   have hsn:∀s,CS σ2.dF.flush s->pE (pV s 0 (pad c.dZ)) l ims p.skip N H l.last:=fun s hs=>by
    have hph:Ph c c.dZ [] 0 p.skip N (pq ims H) (pV s 0 (pad c.dZ)):=⟨by unfold pV;rw[if_pos rfl],fun i hi=>by simp[fT] at hi,fun b hb=>by
     unfold pV
     rw[if_neg (by omega),hs.none rfl,g3]
     exact hlo b hb⟩
    have:=hph.recs (l':=c) hcok k3 (k4.trans hskip.symm) k1 (aN _) (fun im hi=>by cases hi) rfl (by show c.synced+0=c.last+0;rw[k6,k5]) (aA _)
    unfold pE
    rw[dz,aI (aA _),<-k6]
    exact this
   have htrim:l.all.trim σ2.dF.flush l.all.last=if (c.mark σ2.dF.flush).2.2=0 then c.mark σ2.dF.flush else((c.mark σ2.dF.flush).1,l.all.dies,10):=by
    unfold Lg.trim
    have hd:l.all.dead=false:=hld
    rw[hd,if_neg (by simp),if_neg (by show ¬l.last<l.last;omega),<-hce]
   rcases D8 c d3' (by rw[k3,n3];omega) with ⟨σ4,e4,h1,h2,h3,h4,h5⟩|⟨σ4,e4,h1,h2,h3,h4⟩
   ·left
    rw[htrim,e4]
    dsimp only
    rw[if_pos rfl]
    dsimp only
    rw[if_pos rfl]
    have hn':σ4.n=σ.n:=h3.trans n3
    have hg4:∀b,b<N->σ4.get (p.skip+b)=pq ims H b:=fun b hb=>by
     rw[h5,if_neg (by rw[k3];omega),g3];exact hlo b hb
    have hcl:c=l.all.cut l.last:=hce
    rw[<-hcl]
    refine⟨σ4,rfl,h1,fun hf=>h2 (jT d2 (f2 (f1 hf))).2,hn',h4,?_,hg4⟩
    refine⟨hcok,⟨k3,by rw[k4];exact hskip,by rw[k4];exact hring,by rw[k4,hn'];exact hfit,Im.Ok.none _⟩,k1,aN _,by rw[k5,k6];omega,(fun im hi=>by cases hi),(fun i hi=>by simp[fT] at hi),?_,fun b=>rfl,by rw[h4];exact aN _,fun _=>h4⟩
    refine Al.none ⟨by rw[h5,if_pos k3],fun i hi=>by simp[fT] at hi,fun b _=>rfl⟩ h4
   ·right
    rw[htrim,e4]
    dsimp only
    rw[if_neg (show ¬((10:Int)=0) by omega)]
    dsimp only
    rw[if_neg (show ¬((10:Int)=0) by omega)]
    refine⟨σ4,_,rfl,h1,fun hf=>h2 (jT d2 (f2 (f1 hf))).2,h3.trans n3,rfl,.inr ⟨rfl,fun s hs=> ?_⟩⟩
    obtain⟨s',a1,a2⟩:=h4 s hs
    rcases a2 with rfl|rfl
    ·exact hPr _ (hsf _ a1)
    ·rw[k3]
     exact hsn _ a1
  ·right
   rw[e3]
   dsimp only
   rw[if_neg (by omega)]
   refine⟨_,_,rfl,d3,fun hf=> ?_,σ2.bM.1.trans (n2.trans n1),rfl,.inr ⟨rfl,fun s hs=>hPr s (A2 s (hs.same σ2.bM.2.1 σ2.bM.2.2))⟩⟩
   have:=(jT d2 (f2 (f1 hf))).1
   rw[d3] at this;cases this
 ·right
  rw[e2]
  dsimp only
  rw[if_neg (by omega)]
  exact⟨σ2,_,rfl,d2,fun hf=>f2 (f1 hf),n2.trans n1,rfl,.inr ⟨rfl,fun s hs=>hPr s (A2 s hs)⟩⟩
theorem nU (t:List UInt8)(k:Nat):(chunk t k).length=min 512 (t.length - 512*k):=by simp[chunk]
theorem FQ (t:List UInt8)(k:Nat):t.take (512*k)++chunk t k=t.take (512*(k+1)):=by
 unfold chunk
 rw[show 512*(k+1)=512*k+512 by omega,List.take_add]
theorem O4 (mp:VS)(σ:bR)(S:Nat->Prop)(w:World)(head:Nat)(t:List UInt8)(rs:List (Nat×Nat))(h:Inv σ S mp w)(hh:oO σ head t rs):
  Calls Tryz.prog 522 #[.iface 178 mp.agg,.int .i64 head,.int .i64 0,.int .i64 49152] w fun e w'=>e= .returned (.tuple #[.string ⟨t.toArray⟩,.int .i64 0])/\Below w.heap.size w w':=by
 have hsub:=h.sub
 have HL:=af (PU mp σ S w head t.length rs h hh.hd)
 have hlo:=hh.hd.lo
 have hs1:=hh.hd.s1
 have hs2:=hh.hd.s2
 have HLEN:=af hh.hd.len
 have hrl:=hh.hd.runs
 obtain⟨hrl,hbl⟩:=hrl
 have HOK:=af hh.hd.ok
 have HI:=af h
 have HBK:=af hh.blk
 have x1:¬(head:Int)<0:=by omega
 have x2:decide ((head:Int)<0)=false:=bH x1
 have m1:min (0:Int) (t.length:Int)=0:=by omega
 have m2:min (49152:Int) (t.length:Int)=(t.length:Int):=by omega
 have hm:∀w,(method 841 178 mp.agg "Read").run Tryz.prog w= .ok (136,.pointer (some ⟨mp.tx,0,none⟩)) w:=fun _=>by kernel_rfl
 clear h hh
 go_enter Tryz.func522,Tryz.ntmps522
 go_wp2_with (first
  |(go_at_call 143;go_must (refine HL.out.mono ?_;rintro e w1 ⟨lb,v,rfl,hA,hb1⟩;refine Stop.of ?_)))
 refine Stop.on ?_
 have hlb:w1.cell? ⟨lb,0,none⟩=some (.int .i64 t.length):=by have:=hA.obj;simp[World.cell?,this]
 have hll:lb<w1.heap.size:=(ah.1 hA.obj).1
 have HA:=af hA;clear hA
 go_upto_region 11 with (fail)
 obtain⟨bb,HBB⟩:∃bb,Hid (w1.heap.size=bb):=⟨_,af rfl⟩
 obtain⟨w2,HW2⟩:∃w2:World,Hid (w1.alloc (.cells #[.pointer none,.slice none 0 0] 156)=w2):=⟨_,af rfl⟩
 have hb2:Below w1.heap.size w1 w2:=by rw[<-HW2.out];exact aC w1 _
 have hB2:w2.heap[bb]? =some (.cells #[.pointer none,.slice none 0 0] 156 (0,0)):=by rw[<-HW2.out,<-HBB.out];exact aF w1 _
 rw[HW2.out,HBB.out]
 have hbbw:w.heap.size<=bb:=by rw[<-HBB.out];exact hb1.size
 have hbb2:bb<w2.heap.size:=(ah.1 hB2).1
 have hS2:∀g,S g->g<w2.heap.size:=fun g hg=>ax (hsub g hg) (aG hbbw (iP hbb2))
 have HBL:=af (CB lb t.length rs v w.heap.size S w2 (HA.out.below hb2) hS2 HOK.out (by omega))
 clear hlb hll
 go_wp2_with (first
  |(go_at_call 144;go_must (refine HBL.out.mono ?_;rintro e w3 ⟨bv,rfl,hown3,hb3⟩;refine Stop.of ?_)))
 refine Stop.on ?_
 obtain⟨xo,xc,rfl,_,_,_,_⟩:=aW.form hown3.dL
 have hB3:=(hb3.block bb hbb2).trans hB2
 have hI3:=HI.out.below (hb1.trans ((hb2.trans (hb3.mono (by rw[HBB.out];omega))).mono hb1.size))
 have hnS:¬S bb:=fun x=>absurd (hsub bb x) (aV.2 hbbw)
 have hbl0:qJ w3 S w3.heap.size bb (t.take (512*0)):=⟨hnS,_,_,.inl rfl,hB3,by rw[Nat.mul_zero,gN];exact aQ.nil _ _ _ _ _⟩
 have HO:=af hown3
 have hbw3:Below w.heap.size w w3:=(hb1.trans (hb2.mono hb1.size)).trans (hb3.mono (by omega))
 have HI3:=af hI3
 obtain⟨C,HC⟩:∃C,Hid (w3.heap.size=C):=⟨_,af rfl⟩
 rw[HC.out] at hbl0
 have hCb:bb<C:=by rw[<-HC.out];exact ax hbb2 hb3.size
 have hS3:∀g,S g->g<w.heap.size:=hsub
 clear hown3 hI3 hB3 hB2
 go_wp2_with fail
 go_loopw [14,15,16,17,18,19,62] (fun _ _ _ _ _ _ i wr=>∃k:Nat,k<=(eD rs).length/\i= .int .i64 k/\qJ wr S C bb (t.take (512*k))/\Keep (fun g=>g=bb\/C<=g) w3 wr) (fun _ _ _ _ _ _ i _=>(eD rs).length - (intOf i).toNat)
 case atStart=>exact⟨0,by omega,rfl,hbl0,Keep.refl _ _⟩
 case round=>
  clear hbl0
  obtain⟨k,hk,rfl,hbl,hkk⟩:=hrel
  by_cases hkl:k<(eD rs).length
  ·have y1:(k:Int)<((eD rs).length:Int):=by omega
   have hor:aQ wr S w2.heap.size 3 1 (.slice xo (eD rs).length xc) (eD rs).length (ints (eD rs)):=HO.out.keep fun g hg hl hs=>⟨hkk.block g hl (fun e=>by
    have:=HO.out.lo g hg
    rcases e with e|e
    ·omega
    ·rw[<-HC.out] at e;omega),hs⟩
   have hil:=hor.dL
   rw[OD] at hil
   have hil':qD wr S (.slice xo (eD rs).length xc) ((eD rs).map fun (b:Nat)=>(b:Int)):=by unfold qD;rw[jc];exact hil
   obtain⟨pb,po,rfl,d1⟩:=hil'.at rfl k (by simpa using hkl)
   rw[List.getElem_map] at d1
   have hpb:=aD wr _ d1
   obtain⟨has,hb2',hmem⟩:=HBK.out k hkl
   have hIr:Inv σ S mp wr:=HI3.out.mF hkk (fun g hg e=>by
    have:=hS3 g hg
    rcases e with e|e
    ·omega
    ·omega)
   have hrd:=y9 mp σ S wr ((eD rs)[k]:Nat) hIr has
   rw[hmem] at hrd
   have HRD:=af hrd
   obtain⟨bk,HBKK⟩:∃bk:Nat,Hid ((eD rs)[k]=bk):=⟨_,af rfl⟩
   rw[HBKK.out] at d1 HRD
   have hcl:=nU t k
   have hk512:512*k<t.length:=by have hlen:=HLEN.out;unfold DZ at hlen;omega
   obtain⟨hi,hhi⟩:∃hi:Nat,hi=min 512 (t.length - 512*k):=⟨_,rfl⟩
   have m3:max (-((k:Int)*512)) 0=0:=by omega
   have m4:min ((t.length:Int) - (k:Int)*512) 512=(hi:Int):=by omega
   have HHI:=af hhi
   have z1:¬(hi:Int)<=0:=by omega
   have z2:¬hi=0:=by omega
   have z3:hi<=512:=by omega
   clear hhi hrd hmem hor hil hb2' has hcl
   go_upto_region 15 with (fail)
   have z4:¬(512:Int)<(hi:Int):=by omega
   have z5:(hi:Int)<=512:=by omega
   go_wp2_with (refine HRD.out.mono ?_;rintro e w4 ⟨dv,rfl,hdv,hdb,hb4⟩;refine Stop.of ?_)
   refine Stop.on ?_
   obtain⟨vo,vc,rfl,n1,m1',_,_⟩:=aW.form hdv
   have hup':=aW.upto (aW.loose hdv) hi z3
   have hpl:(aB (pad (chunk t k))).take (hi*1)=aB (chunk t k):=by
    rw[iA]
    unfold aB pad
    rw[<-jR,bL (by rw[nU,HHI.out];exact aA _),aI (by rw[nU,HHI.out];exact aA _)]
   rw[hpl] at hup'
   have hcl2:(chunk t k).length=hi:=by rw[nU,HHI.out]
   have hbl4:=hbl.below hb4
   have hBC4:C<=w4.heap.size:=by have a:=hkk.size;have b:=hb4.size;rw[<-HC.out];omega
   have hS4:∀g,S g->g<w4.heap.size:=fun g hg=>by have:=hS3 g hg;have a:=hbbw;omega
   have hWR:=Kj C bb (t.take (512*k)) (chunk t k) (.slice vo hi vc) S w4 hbl4 hBC4 hS4 (by rw[hcl2];exact hup') (fun g hg=>by
    have h1:=hdb g (by cases vo<;>exact hg)
    have h2:=hkk.size
    rw[HC.out] at h2
    omega) (by simp;omega) (by rw[hcl2];omega)
   have HWR:=af hWR
   have z6:(hi:Int)<=(vc:Int):=by omega
   clear hdv hup' hpl hcl2 hWR hbl4
   go_upto_region 21 with (fail)
   go_wp2_with (first
    |(go_at_call 557;go_must (refine HWR.out.mono ?_;rintro e w5 ⟨rfl,hbl5,hk5⟩)))
   go_roundw
   case rel=>exact⟨k+1,by omega,by go_num,by rw[<-FQ];exact hbl5,(hkk.trans (Keep.of_below hb4 (fun g=>g=bb\/C<=g)) (fun _ _ e=>e)).trans hk5 (fun _ _ e=>e)⟩
   case measure=>simp[intOf];omega
  ·obtain rfl:k=(eD rs).length:=by omega
   have y1:¬((eD rs).length:Int)<((eD rs).length:Int):=by omega
   have htt:t.take (512*(eD rs).length)=t:=aI (by rw[HLEN.out];unfold DZ;omega)
   rw[htt] at hbl
   have HST:=af (zQ C bb t S wr hbl)
   have HTT:=af htt
   clear htt
   go_wp2_with (first
    |(go_at_call 67;go_must (refine HST.out.mono ?_;rintro e w5 ⟨rfl,hb5⟩)))
   go_ret2
   refine⟨rfl,?_⟩
   have h1:Below w.heap.size w3 wr:=hkk.dY hbw3.size (fun i hi e=>by
    have:=HC.out
    have:=hbw3.size
    omega)
   exact(hbw3.trans h1).trans (hb5.mono (by
    have:=HC.out
    have:=hbw3.size
    omega))
theorem Tk (mp:VS)(σ:bR)(S:Nat->Prop)(w:World)(head:Nat)(t:List UInt8)(rs:List (Nat×Nat))(h:Inv σ S mp w)(hh:oO σ head t rs):
  Calls Tryz.prog 450 #[.iface 178 mp.agg,.int .i64 head] w fun e w'=>e= .returned (.tuple #[.string ⟨t.toArray⟩,.int .i64 0])/\Below w.heap.size w w':=by
 have HR:=af (O4 mp σ S w head t rs h hh)
 clear h hh
 go_enter Tryz.func450,Tryz.ntmps450
 go_wp2_with (first
  |(go_at_call 522;go_must (refine HR.out.mono ?_;rintro e w1 ⟨rfl,hb⟩)))
 go_ret2
 exact⟨rfl,hb⟩
def SQ (l:List Nat):List Int:=l.map fun (b:Nat)=>(b:Int)
structure WV (w:World)(S:Nat->Prop)(B tkb sb:Nat)(mp:VS)(bs:List Nat):Prop where
 tk:∃v,w.heap[tkb]? =some (.cells #[v] 39 (0,0))/\aQ w S B 3 1 v bs.length (ints bs)
 st:w.heap[sb]? =some (.cells #[.iface 178 mp.agg] 265 (0,0))
 n1:¬S tkb
 n2:¬S sb
structure UF (σ σk:bR)(bs:List Nat):Prop where
 Um:qO σ σk [] (SQ bs)
 two:∀b∈bs,2<=b/\b<σ.most
 nheld:∀b∈bs,σ.held (b:Nat)=false
 tk:σk.tk<=max σ.tk σk.sz
def qG:List UInt8->Option Nat
 |[a,b,c]=>if a=1 then some (b.toNat+256*c.toNat) else none
 |_=>none
theorem G5 (s:ByteArray)(w:World)(hs:s.size<=1000000):
  Calls Tryz.prog 83 #[.string s] w fun e w'=>Below w.heap.size w w'/\e= .returned (.tuple #[.int .i64 ((qG s.data.toList).getD 0:Nat),.bool (qG s.data.toList).isSome]):=by
 have hsz:s.data.toList.length=s.size:=by show s.data.toList.length=s.data.size;simp
 by_cases h3:s.size=3
 ·have y1:(s.size:Int)=3:=by omega
  obtain⟨a,b,c,hl⟩:∃a b c,s.data.toList=[a,b,c]:=by
   have:=hsz.trans h3
   revert this
   generalize s.data.toList=l
   intro h
   match l,h with
   |[a,b,c],_=>exact⟨a,b,c,rfl⟩
  have hss:s=strOf [a,b,c]:=by
   unfold strOf
   rw[<-hl]
  rw[hl]
  clear hsz hl h3
  subst hss
  have i0:∀W:World,(Instr.index 9 (.string (strOf [a,b,c])) (.int .i64 0)).run Tryz.prog W= .ok (.int .u8 (a.toNat:Int)) W:=fun W=>vD _ 0 a rfl W
  have i1:∀W:World,(Instr.index 9 (.string (strOf [a,b,c])) (.int .i64 1)).run Tryz.prog W= .ok (.int .u8 (b.toNat:Int)) W:=fun W=>vD _ 1 b rfl W
  have i2:∀W:World,(Instr.index 9 (.string (strOf [a,b,c])) (.int .i64 2)).run Tryz.prog W= .ok (.int .u8 (c.toNat:Int)) W:=fun W=>vD _ 2 c rfl W
  have hb:=b.toNat_lt;have hc:=c.toNat_lt
  obtain⟨t,ht⟩:∃t,Hid (strOf [a,b,c]=t):=⟨_,af rfl⟩
  rw[ht.out] at i0 i1 i2 hs y1 ⊢
  by_cases ha:a=1
  ·subst ha
   have hl:qG [1,b,c]=some (b.toNat+256*c.toNat):=rfl
   rw[hl]
   have j0:∀W:World,(Instr.index 9 (.string t) (.int .i64 0)).run Tryz.prog W= .ok (.int .u8 1) W:=i0
   clear i0 hl
   have q1:IntKind.i64.wrap (b.toNat:Int)=(b.toNat:Int):=aS _ (by omega)
   have q2:IntKind.i64.wrap (c.toNat:Int)=(c.toNat:Int):=aS _ (by omega)
   obtain⟨n1,hn1⟩:∃n,n=b.toNat+256*c.toNat:=⟨_,rfl⟩
   have p1:IntKind.i64.wrap ((c.toNat:Int)*256)=((256*c.toNat:Nat):Int):=by rw[aS _ (by omega)];omega
   have o1:=DV b.toNat c.toNat 256 n1 8 rfl hb hn1 (by omega)
   have HN:=af hn1
   obtain⟨m1,hm1⟩:∃m:Nat,Hid (256*c.toNat=m):=⟨_,af rfl⟩
   rw[hm1.out] at p1 o1
   clear hn1 hb hc
   go_enter Tryz.func83,Tryz.ntmps83
   go_wp2_with fail
   refine aK (fun W=>W=w.drew) (fun i=>true) [0,1,2,3,4,5,6,7,8,9] rfl (by kernel_rfl) rfl ?_
   repeat ((refine bq (v:= ?_) rfl rfl (fun _ _ _ h=>h) rfl (fun W hW=> ?_) ?_);rotate_left;(focus ((try dsimp only at hW);subst hW;(go_simp;first|done|with_reducible rfl)));(try simp only[Act.put,aj,av,au]))
   refine bF ?_
   go_wp2_with fail
   go_ret2
   refine⟨(aH _ w).drew,?_⟩
   rw[<-HN.out]
   rfl
  ·have hl:qG [a,b,c]=none:=if_neg ha
   rw[hl]
   have hne:¬(a.toNat:Int)=1:=fun e=>ha (uw.1 (by show a.toNat=1;omega))
   clear hb hc hl
   go_enter Tryz.func83,Tryz.ntmps83
   go_wp2_with fail
   go_ret2
   exact⟨aH _ w,rfl⟩
 ·have y1:¬(s.size:Int)=3:=by omega
  have hn:qG s.data.toList=none:=by
   generalize s.data.toList=l at hsz
   match l,hsz with
   |[a,b,c],h=>exact absurd h (by simp;omega)
   |[],_=>rfl
   |[_],_=>rfl
   |[_,_],_=>rfl
   |_::_::_::_::_,_=>rfl
  rw[hn]
  go_enter Tryz.func83,Tryz.ntmps83
  go_wp2_with fail
  go_ret2
  exact⟨aH _ w,rfl⟩
def jl (er:Int)(key:ByteArray):Int:=if er≠0 then er else if key.size=0\/128<key.size then 1 else 0
def dw (mp:VS)(tr:Option Nat)(ch:Bool)(er:Int):Array Value:=#[.pointer (some ⟨mp.tx,0,none⟩),.pointer (some ⟨mp.mp,0,none⟩),.pointer (tr.map fun b=>⟨b,0,none⟩),.bool ch,.int .i64 er]
theorem sG (t:Nat)(mp:VS)(tr:Nat)(ch:Bool)(er:Int)(key:ByteArray)(w:World)(h:w.heap[t]? =some (.cells (dw mp (some tr) ch er) 181 (0,0))):
  Calls Tryz.prog 116 #[.pointer (some ⟨t,0,none⟩),.string key] w fun e w'=>w'=w/\e= .returned (.int .i64 (jl er key)):=by
 have c2:w.cell? ⟨t,2,none⟩=some (.pointer (some ⟨tr,0,none⟩)):=by simp[World.cell?,h,dw]
 have c4:w.cell? ⟨t,4,none⟩=some (.int .i64 er):=by simp[World.cell?,h,dw]
 have hl:=(ah.1 h).1
 have hk:key.toList.isEmpty=decide (key.size=0):=by
  rw[toList_eq]
  have:key.data.toList.length=key.size:=by show key.data.toList.length=key.data.size;simp
  rw[<-this]
  cases key.data.toList<;>simp
 clear h
 by_cases he:er=0
 ·subst he
  by_cases h0:key.size=0
  ·have hu:jl 0 key=1:=by unfold jl;rw[if_neg (by simp),if_pos (.inl h0)]
   rw[hu]
   have hk':key.toList.isEmpty=true:=by rw[hk];simp[h0]
   clear hk hu
   go_enter Tryz.func116,Tryz.ntmps116
   go_wp2_with fail
   go_ret
   exact⟨rfl,rfl⟩
  ·have hk':key.toList.isEmpty=false:=by rw[hk];simp[h0]
   clear hk
   by_cases h1:128<key.size
   ·have hu:jl 0 key=1:=by unfold jl;rw[if_neg (by simp),if_pos (.inr h1)]
    rw[hu]
    have y1:(128:Int)<(key.size:Int):=by omega
    clear hu
    go_enter Tryz.func116,Tryz.ntmps116
    go_wp2_with fail
    go_ret
    exact⟨rfl,rfl⟩
   ·have hu:jl 0 key=0:=by unfold jl;rw[if_neg (by simp),if_neg (by omega)]
    rw[hu]
    have y1:¬(128:Int)<(key.size:Int):=by omega
    clear hu
    go_enter Tryz.func116,Tryz.ntmps116
    go_wp2_with fail
    go_ret
    exact⟨rfl,rfl⟩
 ·have hu:jl er key=er:=if_pos he
  rw[hu]
  have hne:(er !=0)=true:=by simp[he]
  clear hk hu
  go_enter Tryz.func116,Tryz.ntmps116
  go_wp2_with fail
  go_ret
  exact⟨rfl,rfl⟩
theorem Qi (t:Nat)(mp:VS)(tr:Option Nat)(ch:Bool)(er e:Int)(w:World)(h:w.heap[t]? =some (.cells (dw mp tr ch er) 181 (0,0))):
  Calls Tryz.prog 333 #[.pointer (some ⟨t,0,none⟩),.int .i64 e] w fun r w'=>r= .returned (.int .i64 e)/\w'.heap[t]? =some (.cells (dw mp tr ch e) 181 (0,0))/\Keep (· =t) w w':=by
 have c4:w.cell? ⟨t,4,none⟩=some (.int .i64 er):=by simp[World.cell?,h,dw]
 have f4:w.frozen? ⟨t,4,none⟩=false:=by simp[World.frozen?,h]
 have hl:=(ah.1 h).1
 have HH:=af h
 clear h
 go_enter Tryz.func333,Tryz.ntmps333
 go_wp2_with fail
 go_ret
 refine⟨rfl,?_,(Keep.refl (· =t) _).setCell (p:=⟨t,4,none⟩) (.inr rfl) _⟩
 simp[World.setCell,aJ,HH.out]
 rfl
theorem FL (w:World):Calls Tryz.prog 77 #[.pointer none] w fun e w'=>w'=w/\e= .returned (.tuple #[.pointer none,.int .i64 2]):=by
 go_enter Tryz.func77,Tryz.ntmps77
 go_wp2_with fail
 go_ret2
 exact⟨rfl,rfl⟩
theorem Ja (w:World):Calls Tryz.prog 33 #[.pointer none] w fun e w'=>w'=w/\e= .returned (.int .i64 2):=by
 go_enter Tryz.func33,Tryz.ntmps33
 go_wp2_with fail
 go_ret
 exact⟨rfl,rfl⟩
theorem BI (tp:Option Addr)(s:ByteArray)(w:World)(hs:s.size<=1000000)(h1:1<=s.size)(hl:qG s.data.toList=none):
  Calls Tryz.prog 334 #[.pointer tp,.string s] w fun e w'=>Below w.heap.size w w'/\e= .returned (.tuple #[.string (s.extract 1 s.size),.int .i64 0]):=by
 have HL:=af (G5 s w hs)
 rw[hl] at HL
 have r1:min (1:Int) (s.size:Int)=1:=by omega
 have r2:(1:Int)<=(s.size:Int):=by omega
 clear hl
 go_enter Tryz.func334,Tryz.ntmps334
 go_wp2_with (first
  |(go_at_call 83;go_must (refine HL.out.mono ?_;rintro e w1 ⟨hb1,rfl⟩)))
 go_ret2
 exact⟨hb1,rfl⟩
theorem Df (t:Nat)(mp:VS)(tr:Option Nat)(ch:Bool)(er:Int)(σ:bR)(S:Nat->Prop)(w:World)(s:ByteArray)(hd:Nat)(l:List UInt8)(rs:List (Nat×Nat))(h:w.heap[t]? =some (.cells (dw mp tr ch er) 181 (0,0)))(hI:Inv σ S mp w)(hB:oO σ hd l rs)(hs:s.size<=1000000)(hl:qG s.data.toList=some hd):
  Calls Tryz.prog 334 #[.pointer (some ⟨t,0,none⟩),.string s] w fun e w'=>Below w.heap.size w w'/\e= .returned (.tuple #[.string ⟨l.toArray⟩,.int .i64 0]):=by
 have HL:=af (G5 s w hs)
 rw[hl] at HL
 have HH:=af h;have HI:=af hI
 have hlt:=(ah.1 h).1
 clear hl h hI
 go_enter Tryz.func334,Tryz.ntmps334
 go_wp2_with (first
  |(go_at_call 83;go_must (refine HL.out.mono ?_;rintro e w1 ⟨hb1,rfl⟩;refine Stop.of ?_)))
 refine Stop.on ?_
 have h1:=(hb1.block t hlt).trans HH.out
 have hlt1:=ax hlt hb1.size
 have c0:w1.cell? ⟨t,0,none⟩=some (.pointer (some ⟨mp.tx,0,none⟩)):=by simp[World.cell?,h1,dw]
 have c1:w1.cell? ⟨t,1,none⟩=some (.pointer (some ⟨mp.mp,0,none⟩)):=by simp[World.cell?,h1,dw]
 have HR:=af (Tk mp σ S w1 hd l rs (HI.out.below hb1) hB)
 clear h1
 go_wp2_with (first
  |(go_at_call 450;go_must (refine HR.out.mono ?_;rintro e w2 ⟨rfl,hb2⟩)))
 go_ret2
 exact⟨hb1.trans (hb2.mono hb1.size),rfl⟩
def ValAt (σ:bR)(small v:ByteArray)(vb:List Int):Prop:=
 (small=strOf (0::v.data.toList)/\v.size<=63/\vb=[])\/
 ∃hd rs,small=strOf [1,UInt8.ofNat hd,UInt8.ofNat (hd/256)]/\(hd<65536/\63<v.size)/\oO σ hd v.data.toList rs/\vb=kX hd rs
theorem xJ (l:List UInt8):qG (0::l)=none:=by
 match l with
 |[]=>rfl
 |[_]=>rfl
 |[_,_]=>rfl
 |_::_::_::_=>rfl
theorem zn (hd:Nat)(h:hd<65536):qG [1,UInt8.ofNat hd,UInt8.ofNat (hd/256)]=some hd:=by
 show some ((UInt8.ofNat hd).toNat+256*(UInt8.ofNat (hd/256)).toNat)=some hd
 rw[dD,dD]
 congr 1
 omega
theorem F7 (v:ByteArray):(strOf (0::v.data.toList)).extract 1 (strOf (0::v.data.toList)).size=v:=by
 have hs:(strOf (0::v.data.toList)).size=v.data.toList.length+1:=by show (0::v.data.toList).toArray.size=_;simp
 apply Nq
 rw[C8]
 apply BF.1
 rw[I5,hs]
 show ((0::v.data.toList).drop 1).take (v.data.toList.length+1 - 1)=v.data.toList
 rw[Nt,jJ,fE]
 exact bW
theorem KS (t:Nat)(mp:VS)(tr:Option Nat)(ch:Bool)(er:Int)(σ:bR)(S:Nat->Prop)(w:World)(small v:ByteArray)(vb:List Int)(h:w.heap[t]? =some (.cells (dw mp tr ch er) 181 (0,0)))(hI:Inv σ S mp w)(hv:ValAt σ small v vb):
  Calls Tryz.prog 334 #[.pointer (some ⟨t,0,none⟩),.string small] w fun e w'=>Below w.heap.size w w'/\e= .returned (.tuple #[.string v,.int .i64 0]):=by
 rcases hv with ⟨rfl,h1,_⟩|⟨hd,rs,rfl,h1,h2,_⟩
 ·have hs:(strOf (0::v.data.toList)).size=v.size+1:=by show (0::v.data.toList).toArray.size=v.data.size+1;simp
  have:=BI (some ⟨t,0,none⟩) (strOf (0::v.data.toList)) w (by omega) (by omega) (xJ _)
  rwa [F7] at this
 ·exact Df t mp tr ch er σ S w _ hd v.data.toList rs h hI h2 (by show [1,UInt8.ofNat hd,UInt8.ofNat (hd/256)].toArray.size<=_;simp) (zn hd h1.1)
theorem R6 (t tr:Nat)(mp:VS)(root:Int)(ch:Bool)(σ:bR)(S:Nat->Prop)(w:World)(cs:List Pr)(bs:List Int)(key v:ByteArray)(vb:List Int)(h:w.heap[t]? =some (.cells (dw mp (some tr) ch 0) 181 (0,0)))(hI:Inv σ S mp w)(ht:bK w tr mp root 0)(hT:yg σ root cs bs)(hl:cs.length<=4090)(hg:1<=key.size/\key.size<=128)(hv:∀small,cu cs key=some small->ValAt σ small v vb):
  Calls Tryz.prog 215 #[.pointer (some ⟨t,0,none⟩),.string key] w fun e w'=>e= .returned (.tuple #[.string (if (cu cs key).isSome then v else ByteArray.empty),.bool (cu cs key).isSome,.int .i64 0])/\Below w.heap.size w w':=by
 have HU:=af (sG t mp tr ch 0 key w h)
 have hu:jl 0 key=0:=by unfold jl;rw[if_neg (by simp),if_neg (by omega)]
 rw[hu] at HU
 have HG:=af (zC tr mp root σ S cs bs key w hI ht hT hl hg)
 have c2:w.cell? ⟨t,2,none⟩=some (.pointer (some ⟨tr,0,none⟩)):=by simp[World.cell?,h,dw]
 have hlt:=(ah.1 h).1
 have HH:=af h;have HI:=af hI
 clear h hI hu ht
 cases hx:cu cs key with
 |none=>
  rw[hx] at HG
  clear hv
  go_enter Tryz.func215,Tryz.ntmps215
  go_wp2_with (first
   |(go_at_call 116;go_must (refine HU.out.mono ?_;rintro e w1 ⟨rfl,rfl⟩))
   |(go_at_call 332;go_must (refine HG.out.mono ?_;rintro e w2 ⟨rfl,hb2⟩)))
  go_ret3
  exact⟨rfl,hb2⟩
 |some small=>
  rw[hx] at HG
  have HV:=af (hv small hx)
  clear hv
  go_enter Tryz.func215,Tryz.ntmps215
  go_wp2_with (first
   |(go_at_call 116;go_must (refine HU.out.mono ?_;rintro e w1 ⟨rfl,rfl⟩))
   |(go_at_call 332;go_must (refine HG.out.mono ?_;rintro e w2 ⟨rfl,hb2⟩))
   |(go_at_call 334;go_must (refine(KS t mp (some tr) ch 0 σ S _ small v vb ((hb2.block t hlt).trans HH.out) (HI.out.below hb2) HV.out).mono ?_;rintro e w3 ⟨hb3,rfl⟩)))
  go_ret3
  exact⟨rfl,hb2.trans (hb3.mono hb2.size)⟩
theorem FJ (t tr:Nat)(mp:VS)(root:Int)(ch:Bool)(er:Int)(σ:bR)(S:Nat->Prop)(w:World)(cs:List Pr)(bs:List Int)(key:ByteArray)(h:w.heap[t]? =some (.cells (dw mp (some tr) ch er) 181 (0,0)))(hI:Inv σ S mp w)(ht:bK w tr mp root 0)(hT:yg σ root cs bs)(hl:cs.length<=4090)(hg:1<=key.size/\key.size<=128)(hv:qG ((cu cs key).getD ⟨#[]⟩).data.toList=none)(hs:((cu cs key).getD ⟨#[]⟩).size<=1000000):
  Calls Tryz.prog 492 #[.pointer (some ⟨t,0,none⟩),.string key] w fun e w'=>e= .returned (.int .i64 0)/\Below w.heap.size w w':=by
 have HG:=af (zC tr mp root σ S cs bs key w hI ht hT hl hg)
 have c2:w.cell? ⟨t,2,none⟩=some (.pointer (some ⟨tr,0,none⟩)):=by simp[World.cell?,h,dw]
 have hlt:=(ah.1 h).1
 obtain⟨small,hsm⟩:∃s,s=(cu cs key).getD ⟨#[]⟩:=⟨_,rfl⟩
 rw[<-hsm] at HG hv hs
 have HS:=af hs
 have HL:=af hv
 clear h hI ht hv hs hsm
 go_enter Tryz.func492,Tryz.ntmps492
 go_wp2_with (first
  |(go_at_call 332;go_must (refine HG.out.mono ?_;rintro e w2 ⟨rfl,hb2⟩))
  |(go_at_call 83;go_must (refine(G5 small _ HS.out).mono ?_;rw[HL.out];rintro e w3 ⟨hb3,rfl⟩)))
 go_ret
 exact⟨rfl,hb2.trans (hb3.mono hb2.size)⟩
theorem FK (t tr:Nat)(mp:VS)(root:Int)(ch:Bool)(er:Int)(σ:bR)(S:Nat->Prop)(w:World)(cs:List Pr)(bs:List Int)(key small:ByteArray)(hd:Nat)(l:List UInt8)(rs:List (Nat×Nat))(h:w.heap[t]? =some (.cells (dw mp (some tr) ch er) 181 (0,0)))(hI:Inv σ S mp w)(ht:bK w tr mp root 0)(hT:yg σ root cs bs)(hl:cs.length<=4090)(hg:1<=key.size/\key.size<=128)(hx:cu cs key=some small)(hv:qG small.data.toList=some hd)(hs:small.size<=1000000)(hB:oO σ hd l rs):
  Calls Tryz.prog 492 #[.pointer (some ⟨t,0,none⟩),.string key] w fun e w'=>e= .returned (.int .i64 0)/\Inv (σ.frees (uI (kX hd rs))) S mp w'/\Step S S w w':=by
 have HG:=af (zC tr mp root σ S cs bs key w hI ht hT hl hg)
 have c2:w.cell? ⟨t,2,none⟩=some (.pointer (some ⟨tr,0,none⟩)):=by simp[World.cell?,h,dw]
 have hlt:=(ah.1 h).1
 have HH:=af h;have HI:=af hI
 rw[hx] at HG
 have HS:=af hs
 have HL:=af hv
 clear h hI ht hv hs hx
 go_enter Tryz.func492,Tryz.ntmps492
 go_wp2_with (first
  |(go_at_call 332;go_must (refine HG.out.mono ?_;rintro e w2 ⟨rfl,hb2⟩))
  |(go_at_call 83;go_must (refine(G5 small _ HS.out).mono ?_;rw[HL.out];rintro e w3 ⟨hb3,rfl⟩;refine Stop.of ?_)))
 refine Stop.on ?_
 have hb23:=hb2.trans (hb3.mono hb2.size)
 have h1:=(hb23.block t hlt).trans HH.out
 have hlt1:=ax hlt hb23.size
 have c0:w3.cell? ⟨t,0,none⟩=some (.pointer (some ⟨mp.tx,0,none⟩)):=by simp[World.cell?,h1,dw]
 have c1:w3.cell? ⟨t,1,none⟩=some (.pointer (some ⟨mp.mp,0,none⟩)):=by simp[World.cell?,h1,dw]
 have HF:=af (Tm mp σ S w3 hd l rs (HI.out.below hb23) hB)
 clear h1
 go_wp2_with (first
  |(go_at_call 537;go_must (refine HF.out.mono ?_;rintro e w4 ⟨rfl,hI4,hs4⟩)))
 go_ret
 exact⟨rfl,hI4,(Step.of_below hb23).trans hs4⟩
structure RJ (σ:Dk)(l:Lg)(p:Pg):Prop where
 free:σ.lF
 ld:l.dead=false
 pd:p.dead=false
 wt:σ.waits.length<=l.used
theorem Lg.Az {σ:Dk}{l:Lg}(h:σ.lF)(hd:l.dead=false)(hf:l.frm<σ.n):l.sync σ=((σ.flush.put l.frm l.all.dZ).flush,l.all,0):=by
 unfold Lg.sync
 rw[hd,if_neg (by simp),h.sync]
 dsimp only
 rw[if_pos rfl,Lg.wR h.flush l.all hf]
 dsimp only
 rw[if_pos rfl]
 rfl
theorem tX (σ:Dk)(f j:Nat)(x:List UInt8)(h:f≠j):((σ.flush.put f x).flush).get j=σ.get j:=by
 rw[Dk.lN,Dk.get_put,if_neg h,Dk.lN]
theorem Pg.Eh (p:Pg):∀(r:List Nat) (σ:Dk),σ.lF->(∀b∈r,p.skip+b<σ.n/\(p.fresh.img b).length=512)->
  ∃σ',p.lay r σ=(σ',0)/\σ'.lF/\σ'.n=σ.n/\(∀b,σ'.get (p.skip+b)=if b∈r then p.fresh.img b else σ.get (p.skip+b))/\∀j,j<p.skip->σ'.get j=σ.get j
 |[],σ,h,_=>⟨σ,rfl,h,rfl,fun b=>by simp,fun _ _=>rfl⟩
 |b::r,σ,h,hr=>by
  obtain⟨h1,h2⟩:=hr b (aP ..)
  have hw:=h.write (p.skip+b) (p.fresh.img b) h1 (by omega)
  obtain⟨σ',q1,q2,q3,q4,q5⟩:=Pg.Eh p r (σ.put (p.skip+b) (p.fresh.img b)) (h.put _ _) (fun c hc=>hr c (aT _ hc))
  refine⟨σ',?_,q2,q3,fun c=> ?_,fun j hj=> ?_⟩
  ·rw[p.vv,hw]
   dsimp only
   rw[if_pos rfl,q1]
  ·rw[q4,Dk.get_put]
   by_cases hc:c∈r
   ·rw[if_pos hc,if_pos (aT _ hc)]
   ·rw[if_neg hc]
    by_cases e:c=b
    ·subst e
     rw[if_pos rfl,if_pos (aP ..)]
     exact uT h2
    ·rw[if_neg (by omega),if_neg (fun x=>(aX.1 x).elim e hc)]
  ·rw[q5 j hj,Dk.get_put,if_neg (by omega)]
theorem Pg.JY {σ:Dk}{l:Lg}{p:Pg}(hV:RJ σ l p)(hp:p.Ok σ l):
  ∃σ',p.home σ l=(σ',l.all.cut l.last,{p with fresh:=Im.none},0)/\σ'.lF/\σ'.n=σ.n/\σ'.waits=[]/\∀b,σ'.get (p.skip+b)=(p.fresh.find b).getD (σ.get (p.skip+b)):=by
 have hfit:=hp.fit
 have hfrm:=hp.frm
 have hskip:=hp.skip
 have hring:=hp.ring
 have hs:=Lg.Az hV.free hV.ld (by omega:l.frm<σ.n)
 obtain⟨σ1,hσ1⟩:∃σ1,σ1=(σ.flush.put l.frm l.all.dZ).flush:=⟨_,rfl⟩
 rw[<-hσ1] at hs
 have hF1:σ1.lF:=by rw[hσ1];exact hV.free
 have hn1:σ1.n=σ.n:=by rw[hσ1];rfl
 have hg1:∀b,σ1.get (p.skip+b)=σ.get (p.skip+b):=fun b=>by rw[hσ1];exact tX _ _ _ _ (by omega)
 obtain⟨σ2,e2,F2,n2,g2,_⟩:=Pg.Eh p p.fresh.ks σ1 hF1 (fun b hb=>⟨by have:=hp.fresh.hi b hb;omega,hp.fresh.img b hb⟩)
 have hm:=Lg.wR F2.flush (l.all.cut l.all.last) (by show l.frm<σ2.n;omega)
 have ht:l.all.trim σ2.flush l.all.last=(((σ2.flush).put l.frm (l.all.cut l.all.last).dZ).flush,l.all.cut l.all.last,0):=by
  unfold Lg.trim
  have hd:l.all.dead=false:=hV.ld
  rw[hd,if_neg (by simp),if_neg (by show ¬l.last<l.last;omega),hm]
  dsimp only
  rw[if_pos rfl]
  rfl
 refine⟨((σ2.flush).put l.frm (l.all.cut l.all.last).dZ).flush,?_,F2,by rw[<-hn1,<-n2];rfl,rfl,fun b=> ?_⟩
 ·unfold Pg.home
  rw[hs]
  dsimp only
  rw[if_pos rfl,e2]
  dsimp only
  rw[if_pos rfl,F2.sync]
  dsimp only
  rw[if_pos rfl,ht]
  dsimp only
  rw[if_pos rfl]
  rfl
 ·rw[Dk.lN,Dk.get_put,if_neg (by omega),Dk.lN,g2,hg1]
  unfold Im.find
  split<;>rfl
theorem Lg.yV (l:Lg)(b:List UInt8)(hn:2<=l.n):∀(k i:Nat) (σ:Dk),σ.lF->l.frm+l.n<=σ.n->
  ∃σ',l.oq b k i σ=(σ',0)/\σ'.lF/\σ'.n=σ.n/\σ'.waits.length=σ.waits.length+k/\∀j,l.frm+l.n<=j->σ'.get j=σ.get j
 |0,_,σ,h,_=>⟨σ,rfl,h,rfl,rfl,fun _ _=>rfl⟩
 |k+1,i,σ,h,hf=>by
  have hr:l.ring (l.start+l.used+i)<l.frm+l.n:=by
   unfold Lg.ring
   have:=nL (l.start+l.used+i) (by omega:0<l.n - 1)
   omega
  obtain⟨x,hx⟩:∃x,x=(b.drop (i*512)).take 512:=⟨_,rfl⟩
  have hw:=h.write (l.ring (l.start+l.used+i)) x (by omega) (by rw[hx,aL];omega)
  obtain⟨σ',q1,q2,q3,q4,q5⟩:=Lg.yV l b hn k (i+1) (σ.put (l.ring (l.start+l.used+i)) x) (h.put _ _) hf
  refine⟨σ',?_,q2,q3,?_,fun j hj=> ?_⟩
  ·rw[l.qj,<-hx,hw]
   dsimp only
   rw[if_pos rfl,q1]
  ·rw[q4]
   show (σ.waits++[_]).length+k=_
   simp;omega
  ·rw[q5 j hj,Dk.get_put,if_neg (by omega)]
theorem Pg.A7 (p:Pg)(σ:Dk)(b:Nat):p.look Im.none σ b=(p.fresh.find b).getD (σ.get (p.skip+b)):=rfl
theorem Im.AV (m d:Im)(b:Nat):(m.over d).find b=if b∈d.ks then some (d.img b) else m.find b:=by
 unfold Im.find Im.over
 rw[Im.vI]
 simp only[Im.vH]
 by_cases h:b∈d.ks
 ·simp[h]
 ·simp[h]
theorem Pg.AU (p:Pg)(d:Im)(σ:Dk)(b:Nat):({p with fresh:=p.fresh.over d}:Pg).look Im.none σ b=p.look d σ b:=by
 rw[Pg.A7]
 show ((p.fresh.over d).find b).getD (σ.get (p.skip+b))=_
 rw[Im.AV]
 unfold Pg.look
 by_cases h:b∈d.ks
 ·have:d.find b=some (d.img b):=if_pos h
  rw[if_pos h,this];rfl
 ·have:d.find b=none:=if_neg h
  rw[if_neg h,this];rfl
def Pg.pu (p:Pg)(im:Im):Prop:=p.ring<bN im.bE\/1024<im.ks.length
theorem EP {σ:Dk}{l:Lg}{p:Pg}{im:Im}(hV:RJ σ l p)(hp:p.Ok σ l)(hl:l.Ok)(hi:im.Ok (p.blocks σ)):
  (im.ks=[]/\p.commit σ l im=(σ,l,p,l.last,0))\/
  (im.ks≠[]/\p.pu im/\p.commit σ l im=(σ,l,p,0,13))\/
  (im.ks≠[]/\¬p.pu im/\∃σ' l' p',p.commit σ l im=(σ',l',p',l.last+1,0)/\RJ σ' l' p'/\l'.last=l.last+1/\p'.skip=p.skip/\p'.ring=p.ring/\σ'.n=σ.n/\∀b,p'.look Im.none σ' b=p.look im σ b):=by
 have hfit:=hp.fit
 have hfrm:=hp.frm
 have hskip:=hp.skip
 have hring:=hp.ring
 have hn2:=hl.n2
 by_cases hk:im.ks=[]
 ·refine .inl ⟨hk,?_⟩
  unfold Pg.commit
  rw[hV.pd,if_neg (by simp),if_pos hk]
 by_cases ho:p.pu im
 ·refine .inr (.inl ⟨hk,ho,?_⟩)
  unfold Pg.commit
  unfold Pg.pu at ho
  rw[hV.pd,if_neg (by simp),if_neg hk,if_pos ho]
 have ho':¬(p.ring<bN im.bE\/1024<im.ks.length):=ho
 refine .inr (.inr ⟨hk,ho,?_⟩)
 have hk0:0<im.ks.length:=gH.2 hk
 obtain⟨nd,hnd⟩:∃nd,bN im.bE=nd:=⟨_,rfl⟩
 rw[hnd] at ho'
 obtain⟨σ5,l5,p5,hr,V5,F5,hn5,hk5,hrg5,hl5,hf5,hsz5,hroom,hg5⟩:∃σ5 l5 p5,p.ready σ l nd=(σ5,l5,p5,0)/\(l5.dead=false/\p5.dead=false/\σ5.waits.length<=l5.used)/\σ5.lF/\σ5.n=σ.n/\p5.skip=p.skip/\p5.ring=p.ring/\l5.last=l.last/\l5.frm=l.frm/\l5.n=l.n/\nd<=l5.room/\∀b,p5.look im σ5 b=p.look im σ b:=by
  by_cases hrm:l.room<nd
  ·obtain⟨σ',h1,h2,h3,h4,h5⟩:=Pg.JY hV hp
   have hz:=Pg.Be hl (p:=p) (σ:=σ) (by rw[h1])
   rw[h1] at hz
   refine⟨σ',l.all.cut l.last,{p with fresh:=Im.none},?_,⟨hV.ld,hV.pd,by rw[h4];exact aN _⟩,h2,h3,rfl,rfl,rfl,rfl,rfl,by have:=hz.2.2.2.1;dsimp only at this;omega,fun b=> ?_⟩
   ·unfold Pg.ready
    rw[if_pos hrm,h1]
   ·unfold Pg.look
    congr 1
    show σ'.get (p.skip+b)=_
    exact h5 b
  ·refine⟨σ,l,p,?_,⟨hV.ld,hV.pd,hV.wt⟩,hV.free,rfl,rfl,rfl,rfl,rfl,rfl,by omega,fun _=>rfl⟩
   unfold Pg.ready
   rw[if_neg hrm]
 have hbad:l5.bad im.bE=0:=by
  have:=Lg.vQ (l:=l5) hi V5.1 hk0 (by omega) (by rw[hnd];exact hroom)
  rwa [nW] at this
 obtain⟨σ6,q1,q2,q3,q4,q5⟩:=Lg.yV l5 (nG (l5.last+1) im.bE) (by omega) (bN im.bE) 0 σ5 F5 (by omega)
 have hap:l5.append σ5 im.bE=(σ6,l5.more im.bE,l5.last+1,0):=by
  unfold Lg.append
  rw[hbad,if_neg (by simp),q1]
  dsimp only
  rw[if_pos rfl]
 have hc:=Pg.pY hV.pd hk hnd (by omega) hr hap
 rw[if_pos rfl] at hc
 refine⟨σ6,l5.more im.bE,{p5 with fresh:=p5.fresh.over im},?_,⟨q2,V5.1,V5.2.1,?_⟩,?_,hk5,hrg5,q3.trans hn5,fun b=> ?_⟩
 ·rw[hc,hl5]
 ·show _<=l5.used+bN im.bE
  rw[q4];have:=V5.2.2;omega
 ·show l5.last+1=_
  rw[hl5]
 ·rw[Pg.AU,<-hg5]
  unfold Pg.look
  rw[q5 _ (by omega)]
theorem Jj {σ:Dk}{l:Lg}{p:Pg}(hV:RJ σ l p)(hp:p.Ok σ l):
  ∃σ' l',p.sync σ l=(σ',l',p,0)/\RJ σ' l' p/\l'.last=l.last/\l'.synced=l.last/\σ'.n=σ.n/\∀im b,p.look im σ' b=p.look im σ b:=by
 have hfit:=hp.fit
 have hfrm:=hp.frm
 have hskip:=hp.skip
 have hring:=hp.ring
 unfold Pg.sync
 rw[hV.pd,if_neg (by simp)]
 by_cases h1:l.synced=l.last/\σ.dead=false
 ·rw[if_pos h1]
  exact⟨σ,l,rfl,hV,rfl,h1.1,rfl,fun _ _=>rfl⟩
 ·rw[if_neg h1,Lg.Az hV.free hV.ld (by omega)]
  dsimp only
  rw[if_pos rfl]
  refine⟨_,_,rfl,⟨hV.free,hV.ld,hV.pd,aN _⟩,rfl,rfl,rfl,fun im b=> ?_⟩
  unfold Pg.look
  rw[tX _ _ _ _ (by omega)]
theorem AL (l:Lg)(B:List UInt8)(P:(Nat->List UInt8)->Prop)(nd:Nat)(hn2:2<=l.n)(hnd:nd<=l.n - 1)(hc:∀s j x,j<nd->P s->P (pV s (l.ring (l.start+l.used+j)) x)):
  ∀(k i:Nat) (σ:Dk),i+k<=nd->σ.dead=false->l.frm+l.n<=σ.n->Al σ P->
  (∃σ',l.oq B k i σ=(σ',0)/\σ'.dead=false/\(σ.fuel= -1->σ'.fuel= -1)/\σ'.n=σ.n/\σ'.waits.length=σ.waits.length+k/\Al σ' P/\
   (∀j,i<=j->j<i+k->σ'.get (l.ring (l.start+l.used+j))=pad ((B.drop (j*512)).take 512))/\∀x,(∀j,i<=j->j<i+k->x≠l.ring (l.start+l.used+j))->σ'.get x=σ.get x)\/
  (∃σ',l.oq B k i σ=(σ',10)/\σ'.dead=true/\σ.fuel≠-1/\σ'.n=σ.n/\Al σ' P)
 |0,i,σ,_,hd,_,hP=> .inl ⟨σ,rfl,hd,id,rfl,rfl,hP,fun j h1 h2=>absurd h2 (by omega),fun _ _=>rfl⟩
 |k+1,i,σ,hik,hd,hf,hP=>by
  have hr:l.ring (l.start+l.used+i)<l.frm+l.n:=by
   unfold Lg.ring
   have:=nL (l.start+l.used+i) (by omega:0<l.n - 1)
   omega
  obtain⟨x,hx⟩:∃x,x=(B.drop (i*512)).take 512:=⟨_,rfl⟩
  have hxl:x.length<=512:=by rw[hx,aL];omega
  rw[l.qj,<-hx]
  rcases wE hd (i:=l.ring (l.start+l.used+i)) (by omega) hxl with ⟨e,hb⟩|⟨e,hb⟩
  ·rw[e]
   dsimp only
   rw[if_pos rfl]
   obtain⟨τ,hτ⟩:∃τ,τ=σ.dF.put (l.ring (l.start+l.used+i)) x:=⟨_,rfl⟩
   rw[<-hτ]
   have hd2:τ.dead=false:=by rw[hτ];exact hb
   have hn:τ.n=σ.n:=by rw[hτ];exact σ.bM.1
   have hf2:σ.fuel= -1->τ.fuel= -1:=fun h=>by rw[hτ];exact(jT hd h).2
   have hP2:Al τ P:=by rw[hτ];exact hP.dF.put fun s hs=>hc s i _ (by omega) hs
   have hw2:τ.waits.length=σ.waits.length+1:=by rw[hτ];show (σ.dF.waits++[_]).length=_;rw[σ.bM.2.2];simp
   have hg2:∀y,τ.get y=if l.ring (l.start+l.used+i)=y then pad x else σ.get y:=fun y=>by rw[hτ,Dk.get_put,σ.oH]
   rcases AL l B P nd hn2 hnd hc k (i+1) τ (by omega) hd2 (by omega) hP2 with ⟨σ',q1,q2,q3,q4,q5,q6,q7,q8⟩|⟨σ',q1,q2,q3,q4,q5⟩
   ·refine .inl ⟨σ',q1,q2,fun h=>q3 (hf2 h),q4.trans hn,by rw[q5,hw2];omega,q6,fun j h1 h2=> ?_,fun y hy=> ?_⟩
    ·by_cases hj:j=i
     ·subst hj
      rw[q8 _ (fun m h3 h4=>Dz (by omega) (by omega)),hg2,if_pos rfl,hx]
     ·exact q7 j (by omega) (by omega)
    ·rw[q8 y (fun m h3 h4=>hy m (by omega) (by omega)),hg2,if_neg (Ne.symm (hy i (aA _) (by omega)))]
   ·exact .inr ⟨σ',q1,q2,fun h=>q3 (hf2 h),q4.trans hn,q5⟩
  ·rw[e]
   dsimp only
   rw[if_neg (by omega)]
   refine .inr ⟨_,rfl,hb,fun h=> ?_,σ.bM.1,hP.dF⟩
   have:=(jT hd h).1
   rw[hb] at this;cases this
def AR (B:List UInt8):List UInt8:=B++List.replicate ((B.length+511)/512*512 - B.length) 0
theorem Ch (B:List UInt8):(AR B).length=(B.length+511)/512*512:=by unfold AR;simp;omega
theorem JL (B:List UInt8)(j:Nat)(h:j<(B.length+511)/512):((AR B).drop (j*512)).take 512=pad ((B.drop (j*512)).take 512):=by
 have h1:j*512<=B.length:=by omega
 have h2:(j+1)*512<=(B.length+511)/512*512:=bV 512 h
 unfold AR pad
 rw[mo h1]
 by_cases h3:512<=B.length - j*512
 ·rw[bL (by rw[bB];omega)]
  rw[aL,bB,dh h3]
  simp
 ·rw[List.take_append,aI (l:=B.drop (j*512)) (by rw[bB];omega),bB,List.take_replicate]
  congr 2
  omega
theorem Ot {s:Nat->List UInt8}{l:Lg}{at_:Nat}{B:List UInt8}(h:∀j,j<(B.length+511)/512->s (l.ring (at_+j))=pad ((B.drop (j*512)).take 512)):zU s l at_ B:=
 ⟨AR B,Ch B,by unfold AR;rw[gP],fun j hj=>by rw[h j hj,JL B j hj]⟩
theorem JA {σ:Dk}{l:Lg}{p:Pg}{ims:List Im}(h:Rest σ l p ims):wide (fT ims)=l.used:=by
 rw[<-h.lok.sum,h.list,zH]
theorem GR {σ:Dk}{l:Lg}{p:Pg}{ims:List Im}(h:Rest σ l p ims)(hd:σ.dead=false)(hld:l.dead=false){im:Im}(hb:im.Tw (p.blocks σ))(hr:bN im.bE<=l.room)(hla:l.last<1000000000000):
  (∃σ',l.append σ im.bE=(σ',l.more im.bE,l.last+1,0)/\σ'.dead=false/\(σ.fuel= -1->σ'.fuel= -1)/\σ'.n=σ.n/\(∀b,σ'.get (p.skip+b)=σ.get (p.skip+b))/\Rest σ' (l.more im.bE) {p with fresh:=p.fresh.over im} (ims++[im]))\/
  (∃σ',l.append σ im.bE=(σ',l.dies,0,10)/\σ'.dead=true/\σ.fuel≠-1/\σ'.n=σ.n/\Al σ' fun s=>pE s l ims p.skip (p.blocks σ) (fun b=>σ.get (p.skip+b)) l.synced):=by
 have hpo:=h.pok
 have hfit:=hpo.fit;have hfrm:=hpo.frm;have hskip:=hpo.skip;have hring:=hpo.ring;have hlok:=h.lok;have hsy:=hlok.sy;have hsyn:=h.uF;have hlen:=h.len
 have hn2:=hlok.n2;have hus:=hlok.us
 have hused:=JA h
 obtain⟨nd,hnd⟩:∃nd,nd=bN im.bE:=⟨_,rfl⟩
 have hnd1:1<=nd:=by rw[hnd];exact zi _
 unfold Lg.room at hr
 have hrm:l.used+nd<=l.n - 1:=by omega
 have hbad:l.bad im.bE=0:=by
  have:=Lg.vQ (l:=l) hb.ok hld hb.lo hb.hi (by unfold Lg.room;omega)
  rwa [nW] at this
 obtain⟨N,hN⟩:∃N,N=p.blocks σ:=⟨_,rfl⟩
 obtain⟨H,hH⟩:∃H:Nat->List UInt8,H=fun b=>σ.get (p.skip+b):=⟨_,rfl⟩
 have hall:=h.all
 rw[<-hN,<-hH] at hall
 have hclose:∀s j x,j<nd->Ph l l.dZ ims (l.uF ims.length) p.skip N H s->Ph l l.dZ ims (l.uF ims.length) p.skip N H (pV s (l.ring (l.start+l.used+j)) x):=fun s j x hj hs=>by
  have hp0:=qV l (l.start+l.used+j) hn2 hfrm
  refine⟨?_,hs.on.set fun i hi=> ?_,fun b hb=> ?_⟩
  ·unfold pV
   rw[if_neg (by omega)]
   exact hs.mark
  ·have hw:=Au (fT ims) (l.uF ims.length)
   exact Hq (l:=l) (a:=l.start) (b:=l.start+l.used) (k:=l.used) (m:=nd) (aA _) (by omega) (by omega) hj
  ·unfold pV
   rw[if_neg (by omega)]
   exact hs.home b hb
 unfold Lg.append
 rw[hbad,if_neg (by simp)]
 rw[<-hnd]
 rcases AL l (nG (l.last+1) im.bE) _ nd hn2 (by omega) hclose nd 0 σ (by omega) hd (by omega) hall with ⟨σ',q1,q2,q3,q4,q5,q6,q7,q8⟩|⟨σ',q1,q2,q3,q4,q5⟩
 ·left
  rw[q1]
  dsimp only
  rw[if_pos rfl]
  have hNb:({p with fresh:=p.fresh.over im}:Pg).blocks σ'=N:=by rw[hN];unfold Pg.blocks;rw[q4]
  have hne:∀x,(∀j,j<nd->x≠l.ring (l.start+l.used+j))->σ'.get x=σ.get x:=fun x hx=>q8 x fun j _ hj=>hx j (by omega)
  have hhome:∀b,σ'.get (p.skip+b)=σ.get (p.skip+b):=fun b=>hne _ fun j _=>by
   have:=qV l (l.start+l.used+j) hn2 hfrm
   omega
  have hlast:(l.more im.bE).last+1 - (ims++[im]).length=l.last+1 - ims.length:=by
   show l.last+1+1 - _=_
   rw[ay,dJ];omega
  have hbt:fT (ims++[im])=fT ims++[im.bE]:=by simp[fT]
  have hon:mg σ'.get (l.more im.bE) (l.last+1 - ims.length) (fT ims):=h.on.congr rfl rfl rfl fun j hj=>hne _ fun i hi=>
   (Hq (l:=l) (a:=l.start) (b:=l.start+l.used) (k:=l.used) (m:=nd) (aA _) (by omega) (by omega) hi).symm
  have hlie:zU σ'.get (l.more im.bE) (l.start+wide (fT ims)) (nG (l.last+1 - ims.length+(fT ims).length) im.bE):=by
   rw[bQ,show l.last+1 - ims.length+ims.length=l.last+1 by omega,hused]
   refine Ot fun j hj=> ?_
   rw[zl] at hj
   exact q7 j (aN _) (by omega)
  have hlok':(l.more im.bE).Ok:=by
   refine⟨hlok.n2,hlok.hi,hlok.st,?_,?_,?_,?_,?_⟩
   ·show l.used+bN im.bE<=_;rw[<-hnd];exact hrm
   ·show l.last+1<=_;omega
   ·show l.synced<=l.last+1;omega
   ·intro e he
    rcases dG.1 he with he|he
    ·have:=hlok.ent e he
     exact⟨this.1,P8 this.2⟩
    ·rw[bO.1 he]
     exact⟨zi _,aA _⟩
   ·show ((l.list++[(l.last+1,bN im.bE)]).map (·.2)).sum=l.used+bN im.bE
    rw[eP,pQ,hlok.sum];simp
  refine⟨σ',rfl,q2,q3,q4,hhome,⟨hlok',⟨hfrm,hskip,hring,by rw[q4];exact hfit,?_⟩,?_,?_,?_,?_,?_,?_,?_,?_,?_⟩⟩
  ·show (p.fresh.over im).Ok (σ'.n - p.skip)
   rw[q4]
   exact hpo.fresh.over hb.ok
  ·show l.list++[_]=_
   rw[hlast,hbt,rE,h.list,bQ]
   congr 3
   omega
  ·rw[ay,dJ]
   show _<=l.last+1
   omega
  ·rw[ay,dJ]
   show l.last+1<=l.synced+_
   omega
  ·intro i hi
   rw[hNb,hN]
   rcases dG.1 hi with hi|hi
   ·exact h.bat i hi
   ·rw[bO.1 hi];exact hb
  ·rw[hlast,hbt]
   exact hon.snoc hlie
  ·intro s hs
   have q:=q6 s hs
   have hmk:(l.more im.bE).dZ=l.dZ:=by
    refine D9 ?_
    have hfl:=qw (l:=l) (bs:=fT ims) (by rw[bQ];exact h.list) (by rw[bQ];exact hlen)
    have hfl':=qw (l:=l.more im.bE) (bs:=fT (ims++[im])) (by
     rw[bQ,hlast,hbt,rE,bQ]
     show l.list++[_]=_
     rw[h.list]
     congr 3
     omega) (by rw[bQ,ay,dJ];show _<=l.last+1;omega)
    rw[bQ] at hfl hfl'
    rw[hlast] at hfl'
    unfold Lg.fields
    rw[hfl,hfl'];rfl
   refine⟨by rw[hmk];exact q.mark,?_,fun b hb=> ?_⟩
   ·rw[hlast,hbt]
    have e:(l.more im.bE).uF (ims++[im]).length=l.uF ims.length:=by
     unfold Lg.uF
     rw[ay,dJ]
     show l.synced+_ - (l.last+1)=_
     omega
    rw[e,bL (by rw[bQ];unfold Lg.uF;omega)]
    exact q.on.congr rfl rfl rfl fun _ _=>rfl
   ·rw[q.home b (by rw[<-hNb];exact hb),hH]
    exact(hhome b).symm
  ·intro b
   show (p.fresh.over im).find b=_
   rw[vJ,Im.AV,h.fresh b]
   unfold Im.find
   split<;>rfl
  ·show _<=l.used+bN im.bE
   rw[q5,<-hnd];have:=h.cap;omega
  ·intro e
   have e:l.synced=l.last+1:=e
   omega
 ·right
  rw[q1]
  dsimp only
  rw[if_neg (by omega)]
  refine⟨σ',rfl,q2,q3,q4,fun s hs=> ?_⟩
  rw[<-hN,<-hH]
  exact(q5 s hs).recs (l':=l) hlok hfrm hskip.symm h.list hlen (by rw[hN];exact h.bat) rfl (by unfold Lg.uF;omega) (by unfold Lg.uF;omega)
def CP (l:Lg)(ims:List Im)(N:Nat)(H:Nat->List UInt8)(C:Nat->Nat->List UInt8):Prop:=∀k,l.synced<=k->k<=l.last->∀b,b<N->C k b=pq (ims.take (k+ims.length - l.last)) H b
def nu (σ:Dk)(l:Lg)(p:Pg)(C:Nat->Nat->List UInt8):Prop:=∃ims,Rest σ l p ims/\CP l ims (p.blocks σ) (fun b=>σ.get (p.skip+b)) C
def Ff (σ:Dk)(l:Lg)(L N:Nat)(C:Nat->Nat->List UInt8):Prop:=Al σ fun s=>∃k,l.synced<=k/\k<=l.last/\vS s L N k (C k)
theorem pE.Ai {s:Nat->List UInt8}{l:Lg}{ims:List Im}{L N k:Nat}{H:Nat->List UInt8}{C:Nat->Nat->List UInt8}(h:pE s l ims L N H k)(hC:CP l ims N H C)(h1:l.synced<=k)(h2:k<=l.last):vS s L N k (C k):=vS.congr h fun b hb=>hC k h1 h2 b hb
theorem Pe.Ai {σ':Dk}{l l':Lg}{ims:List Im}{L N:Nat}{H:Nat->List UInt8}{C:Nat->Nat->List UInt8}(h:Pe σ' l' l ims L N H)(hC:CP l ims N H C)(hs:l.synced<=l.last):Ff σ' l' L N C/\l.synced<=l'.synced/\l'.last=l.last:=by
 obtain⟨h1,⟨h2,h3⟩|⟨h2,h3⟩⟩:=h
 ·refine⟨fun s hs'=> ?_,by omega,h1⟩
  rw[h1,h2]
  rcases h3 s hs' with e|e
  ·exact⟨_,aA _,hs,e.Ai hC (aA _) hs⟩
  ·exact⟨_,hs,aA _,e.Ai hC hs (aA _)⟩
 ·refine⟨fun s hs'=> ?_,by omega,h1⟩
  rw[h1,h2]
  exact⟨_,aA _,aA _,(h3 s hs').Ai hC hs (aA _)⟩
theorem yS {σ:Dk}{l:Lg}{p:Pg}{C:Nat->Nat->List UInt8}(h:nu σ l p C)(hd:σ.dead=false)(hld:l.dead=false)(hpd:p.dead=false):
  (∃σ' l',p.sync σ l=(σ',l',p,0)/\σ'.dead=false/\l'.dead=false/\(σ.fuel= -1->σ'.fuel= -1)/\σ'.n=σ.n/\σ'.waits=[]/\l'.last=l.last/\l'.synced=l.last/\nu σ' l' p C/\∀im b,p.look im σ' b=p.look im σ b)\/
  (∃σ' l',p.sync σ l=(σ',l',p.dies,10)/\σ'.dead=true/\σ.fuel≠-1/\σ'.n=σ.n/\Ff σ' l' p.skip (p.blocks σ) C/\l.synced<=l'.synced/\l'.last=l.last):=by
 obtain⟨ims,h,hC⟩:=h
 have hskip:=h.pok.skip;have hn2:=h.lok.n2;have hsy:=h.lok.sy
 unfold Pg.sync
 rw[hpd,if_neg (by simp)]
 by_cases h1:l.synced=l.last/\σ.dead=false
 ·rw[if_pos h1]
  exact .inl ⟨σ,l,rfl,hd,hld,id,rfl,h.wt h1.1,rfl,h1.1,⟨ims,h,hC⟩,fun _ _=>rfl⟩
 ·rw[if_neg h1]
  rcases AZ h hd hld with ⟨σ',e,a1,a2,a3,a4,a5,a6⟩|⟨σ',e,a1,a2,a3,a4⟩
  ·rw[e]
   dsimp only
   rw[if_pos rfl]
   have hg:∀b,σ'.get (p.skip+b)=σ.get (p.skip+b):=fun b=>a5 _ (by omega)
   have hNb:p.blocks σ'=p.blocks σ:=by unfold Pg.blocks;rw[a3]
   refine .inl ⟨σ',_,rfl,a1,hld,a2,a3,a4,rfl,rfl,⟨ims,a6,fun k k1 k2 b hb=> ?_⟩,fun im b=> ?_⟩
   ·have k1:l.last<=k:=k1
    rw[hNb] at hb
    rw[hC k (by omega) k2 b hb]
    show (findAll _ b).getD (σ.get (p.skip+b))=(findAll _ b).getD (σ'.get (p.skip+b))
    rw[hg];rfl
   ·unfold Pg.look
    rw[hg]
  ·rw[e]
   dsimp only
   rw[if_neg (by omega)]
   have:=a4.Ai hC hsy
   exact .inr ⟨σ',_,rfl,a1,a2,a3,this⟩
def Cq (C:Nat->Nat->List UInt8)(n:Nat)(x:Nat->List UInt8):Nat->Nat->List UInt8:=fun k=>if k=n then x else C k
theorem rM {σ:Dk}{l:Lg}{p:Pg}{C:Nat->Nat->List UInt8}(h:nu σ l p C)(hd:σ.dead=false)(hld:l.dead=false)(hpd:p.dead=false){im:Im}(hi:im.Ok (p.blocks σ))(hla:l.last<1000000000000):
  (im.ks=[]/\p.commit σ l im=(σ,l,p,l.last,0))\/
  (im.ks≠[]/\p.pu im/\p.commit σ l im=(σ,l,p,0,13))\/
  (im.ks≠[]/\¬p.pu im/\((∃σ' l' p',p.commit σ l im=(σ',l',p',l.last+1,0)/\σ'.dead=false/\l'.dead=false/\p'.dead=false/\(σ.fuel= -1->σ'.fuel= -1)/\l'.last=l.last+1/\l.synced<=l'.synced/\p'.skip=p.skip/\p'.ring=p.ring/\σ'.n=σ.n/\
    nu σ' l' p' (Cq C (l.last+1) (p.look im σ))/\∀b,b<p.blocks σ->p'.look Im.none σ' b=p.look im σ b)\/
   ∃σ' l' p',p.commit σ l im=(σ',l',p',0,10)/\σ'.dead=true/\σ.fuel≠-1/\p'.skip=p.skip/\σ'.n=σ.n/\Ff σ' l' p.skip (p.blocks σ) C/\l.synced<=l'.synced/\l'.last=l.last)):=by
 by_cases hk:im.ks=[]
 ·refine .inl ⟨hk,?_⟩
  unfold Pg.commit
  rw[hpd,if_neg (by simp),if_pos hk]
 by_cases ho:p.pu im
 ·refine .inr (.inl ⟨hk,ho,?_⟩)
  unfold Pg.commit
  unfold Pg.pu at ho
  rw[hpd,if_neg (by simp),if_neg hk,if_pos ho]
 refine .inr (.inr ⟨hk,ho,?_⟩)
 have ho':¬(p.ring<bN im.bE\/1024<im.ks.length):=ho
 have hk0:0<im.ks.length:=gH.2 hk
 have hbat:im.Tw (p.blocks σ):=⟨hi,hk0,by omega⟩
 obtain⟨ims,h,hC⟩:=h
 have hsy:=h.lok.sy;have hsyn:=h.uF;have hring:=h.pok.ring;have hus:=h.lok.us;have hn2:=h.lok.n2
 obtain⟨nd,hnd⟩:∃nd,bN im.bE=nd:=⟨_,rfl⟩
 rw[hnd] at ho'
 obtain⟨N,hN⟩:∃N,N=p.blocks σ:=⟨_,rfl⟩
 rw[<-hN] at hC hbat ⊢
 have hready:(∃σ5 l5 p5 ims5,p.ready σ l nd=(σ5,l5,p5,0)/\σ5.dead=false/\l5.dead=false/\p5.dead=false/\(σ.fuel= -1->σ5.fuel= -1)/\σ5.n=σ.n/\p5.skip=p.skip/\p5.ring=p.ring/\l5.last=l.last/\l.synced<=l5.synced/\nd<=l5.room/\Rest σ5 l5 p5 ims5/\CP l5 ims5 N (fun b=>σ5.get (p.skip+b)) C/\∀b,b<N->p5.look im σ5 b=p.look im σ b)\/
   (∃σ5 l5,p.ready σ l nd=(σ5,l5,p.dies,10)/\σ5.dead=true/\σ.fuel≠-1/\σ5.n=σ.n/\Ff σ5 l5 p.skip N C/\l.synced<=l5.synced/\l5.last=l.last):=by
  unfold Pg.ready
  by_cases hrm:l.room<nd
  ·rw[if_pos hrm]
   rcases Mr h hd hld hpd with ⟨σ5,e,a1,a2,a3,a4,a5,a6⟩|⟨σ5,l5,e,a1,a2,a3,a4⟩
   ·rw[<-hN] at a6
    have hc:=IC (l:=l.all) ⟨h.lok.n2,h.lok.hi,h.lok.st,h.lok.us,h.lok.la,aA _,h.lok.ent,h.lok.sum⟩
    obtain⟨k1,k2,k3,k4,k5,k6,k7⟩:=hc
    have k2:(l.all.cut l.last).used=0:=k2
    have k4:(l.all.cut l.last).n=l.n:=k4
    have k5:(l.all.cut l.last).last=l.last:=k5
    have k6:(l.all.cut l.last).synced=l.last:=k6
    have k7:(l.all.cut l.last).dead=l.dead:=k7
    refine .inl ⟨σ5,_,_,[],e,a1,by rw[k7];exact hld,hpd,a2,a3,rfl,rfl,k5,by rw[k6];exact hsy,?_,a5,fun k q1 q2 b hb=> ?_,fun b hb=> ?_⟩
    ·unfold Lg.room
     rw[k2,k4];omega
    ·rw[k6] at q1
     rw[k5] at q2
     obtain rfl:k=l.last:=by omega
     rw[hC _ hsy (aA _) b hb,dz,aI (aA _),<-a6 b hb]
     show σ5.get (p.skip+b)=pq (List.take _ []) _ b
     rw[List.take_nil];rfl
    ·unfold Pg.look
     congr 1
     show (Im.none.find b).getD _=_
     have e1:Im.none.find b=none:=rfl
     rw[e1]
     show σ5.get (p.skip+b)=_
     rw[a6 b hb,h.fresh b];rfl
   ·rw[<-hN] at a4
    exact .inr ⟨σ5,l5,e,a1,a2,a3,a4.Ai hC hsy⟩
  ·rw[if_neg hrm]
   exact .inl ⟨σ,l,p,ims,rfl,hd,hld,hpd,id,rfl,rfl,rfl,rfl,aA _,by omega,h,hC,fun _ _=>rfl⟩
 rcases hready with ⟨σ5,l5,p5,ims5,e5,b1,b2,b3,b4,b5,b6,b7,b8,b9,b10,b11,b12,b13⟩|⟨σ5,l5,e5,b1,b2,b3,b4,b5,b6⟩
 ·have hN5:p5.blocks σ5=N:=by rw[hN];unfold Pg.blocks;rw[b5,b6]
  rcases GR b11 b1 b2 (im:=im) (by rw[hN5];exact hbat) (by rw[hnd];exact b10) (by omega) with ⟨σ6,e6,c1,c2,c3,c4,c5⟩|⟨σ6,e6,c1,c2,c3,c4⟩
  ·left
   have hc:=Pg.pY hpd hk hnd (by omega) e5 e6
   rw[if_pos rfl] at hc
   rw[b8] at hc
   have hlk:∀b,({p5 with fresh:=p5.fresh.over im}:Pg).look Im.none σ6 b=p5.look im σ5 b:=fun b=>by
    rw[Pg.AU]
    unfold Pg.look
    rw[c4]
   refine⟨σ6,_,_,hc,c1,b2,b3,fun hf=>c2 (b4 hf),?_,b9,b6,b7,c3.trans b5,⟨_,c5,fun k q1 q2 b hb=> ?_⟩,fun b hb=>by rw[hlk,b13 b hb]⟩
   ·show l5.last+1=_
    rw[b8]
   ·have hNb:({p5 with fresh:=p5.fresh.over im}:Pg).blocks σ6=N:=by rw[<-hN5];unfold Pg.blocks;rw[c3]
    rw[hNb] at hb
    have q1:l5.synced<=k:=q1
    have q2:k<=l5.last+1:=q2
    have hsyn5:=b11.uF
    have hlast:(l5.more im.bE).last=l5.last+1:=rfl
    rw[hlast]
    unfold Cq
    by_cases hkl:k=l.last+1
    ·rw[if_pos hkl]
     have e1:k+(ims5++[im]).length - (l5.last+1)=(ims5++[im]).length:=by omega
     rw[e1,aI (aA _),<-b13 b hb]
     unfold pq Pg.look
     rw[vJ,<-b11.fresh b]
     show _=((im.find b).or (p5.fresh.find b)).getD (σ6.get (p5.skip+b))
     rw[c4]
     cases im.find b<;>rfl
    ·rw[if_neg hkl,b12 k q1 (by omega) b hb]
     have e1:k+(ims5++[im]).length - (l5.last+1)=k+ims5.length - l5.last:=by rw[ay,dJ];omega
     rw[e1,bL (by omega)]
     unfold pq
     show _=(findAll _ b).getD (σ6.get (p5.skip+b))
     rw[c4,b6]
  ·right
   have hc:=Pg.pY hpd hk hnd (by omega) e5 e6
   rw[if_neg (by omega)] at hc
   refine⟨σ6,_,_,hc,c1,fun hf=>c2 (b4 hf),b6,c3.trans b5,fun s hs=> ?_,b9,b8⟩
   have q:=c4 s hs
   rw[hN5,b6] at q
   exact⟨l5.synced,aA _,b11.lok.sy,q.Ai b12 (aA _) b11.lok.sy⟩
 ·right
  refine⟨σ5,l5,p.dies,?_,b1,b2,rfl,b3,b4,b5,b6⟩
  unfold Pg.commit
  rw[hpd,if_neg (by simp),if_neg hk,hnd,if_neg (by omega),e5]
  dsimp only
  rw[if_neg (by omega)]
structure VI (σ:Dk)(l:Lg)(p:Pg):Prop where
 free:σ.lF
 ld:l.dead=false
 pd:p.dead=false
 wt:σ.waits.length<=l.used
 rc:l.last<1000000000000->∃C,nu σ l p C
theorem VI.v0 {σ:Dk}{l:Lg}{p:Pg}(h:VI σ l p):RJ σ l p:=⟨h.free,h.ld,h.pd,h.wt⟩
theorem GJ {σ:Dk}{l:Lg}{p:Pg}{im:Im}(hV:VI σ l p)(hp:p.Ok σ l)(hl:l.Ok)(hi:im.Ok (p.blocks σ)):
  (im.ks=[]/\p.commit σ l im=(σ,l,p,l.last,0))\/
  (im.ks≠[]/\p.pu im/\p.commit σ l im=(σ,l,p,0,13))\/
  (im.ks≠[]/\¬p.pu im/\∃σ' l' p',p.commit σ l im=(σ',l',p',l.last+1,0)/\VI σ' l' p'/\l'.last=l.last+1/\p'.skip=p.skip/\p'.ring=p.ring/\σ'.n=σ.n/\∀b,p'.look Im.none σ' b=p.look im σ b):=by
 refine(EP hV.v0 hp hl hi).imp_right (Or.imp_right ?_)
 rintro⟨h1,h2,σ',l',p',q1,q2,q3,q4⟩
 refine⟨h1,h2,σ',l',p',q1,⟨q2.free,q2.ld,q2.pd,q2.wt,fun hla=> ?_⟩,q3,q4⟩
 obtain⟨C,hC⟩:=hV.rc (by omega)
 rcases rM hC hV.free.1 hV.ld hV.pd hi (by omega) with ⟨q,_⟩|⟨_,q,_⟩|⟨_,_,⟨_,_,_,q,_,_,_,_,_,_,_,_,_,r,_⟩|⟨_,_,_,q,_⟩⟩
 ·exact absurd q h1
 ·exact absurd q h2
 ·rw[q1] at q
  simp only[kU] at q
  obtain⟨rfl,rfl,rfl,_⟩:=q
  exact⟨_,r⟩
 ·rw[q1] at q
  simp at q
theorem K8 {σ:Dk}{l:Lg}{p:Pg}(hV:VI σ l p)(hp:p.Ok σ l):
  ∃σ' l',p.sync σ l=(σ',l',p,0)/\VI σ' l' p/\l'.last=l.last/\l'.synced=l.last/\σ'.n=σ.n/\∀im b,p.look im σ' b=p.look im σ b:=by
 obtain⟨σ',l',q1,q2,q3,q4⟩:=Jj hV.v0 hp
 refine⟨σ',l',q1,⟨q2.free,q2.ld,q2.pd,q2.wt,fun hla=> ?_⟩,q3,q4⟩
 obtain⟨C,hC⟩:=hV.rc (by omega)
 rcases yS hC hV.free.1 hV.ld hV.pd with ⟨_,_,q,_,_,_,_,_,_,_,r,_⟩|⟨_,_,q,_⟩
 ·rw[q1] at q
  simp only[kU] at q
  obtain⟨rfl,rfl,_⟩:=q
  exact⟨_,r⟩
 ·rw[q1] at q
  simp at q
structure VJ (σ:Dk)(l:Lg)(p:Pg):Prop where
 nd:σ.dead=false
 ld:l.dead=false
 pd:p.dead=false
 wt:σ.waits.length<=l.used
 rc:l.last<1000000000000->∃C,nu σ l p C
theorem VI.vj {σ:Dk}{l:Lg}{p:Pg}(h:VI σ l p):VJ σ l p:=⟨h.free.1,h.ld,h.pd,h.wt,h.rc⟩
theorem nu.cap {σ:Dk}{l:Lg}{p:Pg}{C:Nat->Nat->List UInt8}(h:nu σ l p C):σ.waits.length<=l.used:=by
 obtain⟨ims,hR,_⟩:=h
 exact hR.cap
structure Nk (σ:Dk)(l:Lg)(p:Pg)(im:Im)(σ':Dk)(l':Lg)(p':Pg):Prop where
 vj:VJ σ' l' p'
 last:l'.last=l.last+1
 skip:p'.skip=p.skip
 ring:p'.ring=p.ring
 n:σ'.n=σ.n
 look:∀b,b<p.blocks σ->p'.look Im.none σ' b=p.look im σ b
 fu:σ.fuel= -1->σ'.fuel= -1
 uF:l.synced<=l'.synced
 Ai:∀C,nu σ l p C->nu σ' l' p' (Cq C (l.last+1) (p.look im σ))
structure IX (σ:Dk)(l:Lg)(p:Pg)(σ':Dk)(l':Lg)(p':Pg):Prop where
 dead:σ'.dead=true
 fu:σ.fuel≠-1
 skip:p'.skip=p.skip
 n:σ'.n=σ.n
 uF:l.synced<=l'.synced
 last:l'.last=l.last
 Ai:∀C,nu σ l p C->Ff σ' l' p.skip (p.blocks σ) C
structure Tn (σ:Dk)(l:Lg)(p:Pg)(σ':Dk)(l':Lg):Prop where
 vj:VJ σ' l' p
 last:l'.last=l.last
 uF:l'.synced=l.last
 n:σ'.n=σ.n
 look:∀im b,p.look im σ' b=p.look im σ b
 fu:σ.fuel= -1->σ'.fuel= -1
 wts:σ'.waits=[]
 Ai:∀C,nu σ l p C->nu σ' l' p C
theorem EQ {σ:Dk}{l:Lg}{p:Pg}{im:Im}(hV:VJ σ l p)(hi:im.Ok (p.blocks σ))(hla:l.last<1000000000000):
  (im.ks=[]/\p.commit σ l im=(σ,l,p,l.last,0))\/
  (im.ks≠[]/\p.pu im/\p.commit σ l im=(σ,l,p,0,13))\/
  (im.ks≠[]/\∃σ' l' p',p.commit σ l im=(σ',l',p',l.last+1,0)/\Nk σ l p im σ' l' p')\/
  (im.ks≠[]/\∃σ' l' p',p.commit σ l im=(σ',l',p',0,10)/\IX σ l p σ' l' p'):=by
 obtain⟨C0,hC0⟩:=hV.rc hla
 rcases rM hC0 hV.nd hV.ld hV.pd hi hla with h|h|⟨k1,_,⟨σ',l',p',q,a1,a2,a3,a4,a5,a6,a7,a8,a9,a10,a11⟩|⟨σ',l',p',q,a1,a2,a3,a4,a5,a6,a7⟩⟩
 ·exact .inl h
 ·exact .inr (.inl h)
 ·refine .inr (.inr (.inl ⟨k1,σ',l',p',q,⟨a1,a2,a3,a10.cap,fun _=>⟨_,a10⟩⟩,a5,a7,a8,a9,a11,a4,a6,fun C hC=> ?_⟩))
  rcases rM hC hV.nd hV.ld hV.pd hi hla with ⟨e,_⟩|⟨_,_,e⟩|⟨_,_,⟨_,_,_,e,_,_,_,_,_,_,_,_,_,r,_⟩|⟨_,_,_,e,_⟩⟩
  ·exact absurd e k1
  ·rw[q] at e;simp at e
  ·rw[q] at e
   simp only[kU] at e
   obtain⟨rfl,rfl,rfl,_⟩:=e
   exact r
  ·rw[q] at e;simp at e
 ·refine .inr (.inr (.inr ⟨k1,σ',l',p',q,a1,a2,a3,a4,a6,a7,fun C hC=> ?_⟩))
  rcases rM hC hV.nd hV.ld hV.pd hi hla with ⟨e,_⟩|⟨_,_,e⟩|⟨_,_,⟨_,_,_,e,_⟩|⟨_,_,_,e,_,_,_,_,r,_⟩⟩
  ·exact absurd e k1
  ·rw[q] at e;simp at e
  ·rw[q] at e;simp at e
  ·rw[q] at e
   simp only[kU] at e
   obtain⟨rfl,rfl,rfl,_⟩:=e
   exact r
theorem Qx {σ:Dk}{l:Lg}{p:Pg}(hV:VJ σ l p)(hla:l.last<1000000000000):
  (∃σ' l',p.sync σ l=(σ',l',p,0)/\Tn σ l p σ' l')\/
  (∃σ' l',p.sync σ l=(σ',l',p.dies,10)/\IX σ l p σ' l' p.dies):=by
 obtain⟨C0,hC0⟩:=hV.rc hla
 rcases yS hC0 hV.nd hV.ld hV.pd with ⟨σ',l',q,a1,a2,a3,a4,a5,a6,a7,a8,a9⟩|⟨σ',l',q,a1,a2,a3,a4,a5,a6⟩
 ·refine .inl ⟨σ',l',q,⟨a1,a2,hV.pd,a8.cap,fun _=>⟨_,a8⟩⟩,a6,a7,a4,a9,a3,a5,fun C hC=> ?_⟩
  rcases yS hC hV.nd hV.ld hV.pd with ⟨_,_,e,_,_,_,_,_,_,_,r,_⟩|⟨_,_,e,_⟩
  ·rw[q] at e
   simp only[kU] at e
   obtain⟨rfl,rfl,_⟩:=e
   exact r
  ·rw[q] at e;simp at e
 ·refine .inr ⟨σ',l',q,a1,a2,rfl,a3,a5,a6,fun C hC=> ?_⟩
  rcases yS hC hV.nd hV.ld hV.pd with ⟨_,_,e,_⟩|⟨_,_,e,_,_,_,r,_⟩
  ·rw[q] at e;simp at e
  ·rw[q] at e
   simp only[kU] at e
   obtain⟨rfl,rfl,_⟩:=e
   exact r
end Go.Proofs.YtpmbddooibgnaaaGreatDoor
