/- parts -/
import Derived.Test.YtpmbddooibgnaaaGreatDoorS1
import Derived.Test.YtpmbddooibgnaaaGreatDoorS4
import Derived.Test.YtpmbddooibgnaaaGreatDoorS5
import Derived.Test.YtpmbddooibgnaaaGreatDoorS12
import Derived.Test.YtpmbddooibgnaaaGreatDoorS13
import Derived.Test.YtpmbddooibgnaaaGreatDoorS20
import Derived.Sort.OwnSortedInts
import Derived.Shelf.Strings.Builder1
import Derived.Laws.Runes
import Derived.Scope
set_option maxRecDepth 100000
set_option maxHeartbeats 8000000
set_option linter.all false
namespace Go.Proofs.YtpmbddooibgnaaaGreatDoor
open Go.RowKit
def Room (σ:bR)(bs:List Int)(n:Nat):Prop:=σ.sz+2*n<=σ.most+nh σ bs
def M7 (L:Nat)(σ:bR)(bs:List Int)(n:Nat):Prop:=σ.sz+2*n<=L+nh σ bs
def Pk (σ σ':bR)(bs:List Int)(n:Nat):Prop:=∀L,M7 L σ bs n->σ.tk<=L->σ'.tk<=L
structure Tq (F:List Pr->List Pr)(key:ByteArray):Prop where
 rise:∀c,gu c->gu (F c)
 mem:∀c,gu c->∀p∈F c,p∈c\/(p.1=key/\p.1.size<=128/\p.2.size<=64)
 len:∀c,(F c).length<=c.length+1
theorem Mi (key value:ByteArray)(hk:key.size<=128)(hv:value.size<=64):Tq (fun ps=>gZ ps key value) key:=by
 refine⟨fun c hr=> ?_,fun c hr p hp=> ?_,fun c=> ?_⟩
 ·obtain⟨f1,f2⟩:=o9 key c hr
  unfold gZ
  split
  ·rename_i hat
   obtain⟨hlt,hkey⟩:=sQ hat
   refine oP.2 fun i j hi hj hij=> ?_
   have:=oP.1 hr i j (by simpa using hi) (by simpa using hj) hij
   rw[List.getElem_set,List.getElem_set]
   split
   ·rename_i e;subst e
    rw[if_neg (by omega)]
    rw[hkey] at this;exact this
   ·split
    ·rename_i e;subst e
     rw[hkey] at this;exact this
    ·exact this
  ·rename_i hat
   have hne:∀i (h:i<c.length),cZ c key<=i->lt key c[i].1=true:=by
    intro i hi hle
    have h1:=f2 i hi hle
    cases h2:lt key c[i].1 with
    |true=>rfl
    |false=>
     have e:=ve h1 h2
     have hi2:i=cZ c key:=by
      rcases jv (cZ c key) i with h3|h3
      ·have h4:=oP.1 hr (cZ c key) i (by omega) hi h3
       have h5:=f2 (cZ c key) (by omega) (aA _)
       rw[e] at h4;rw[h4] at h5;cases h5
      ·omega
     subst hi2
     exfalso
     apply hat
     unfold oW
     rw[bD hi]
     simp[e]
   refine tO.2 ⟨hr.sublist (List.take_sublist _ _),dR.2 ⟨fun q hq=> ?_,hr.sublist (List.drop_sublist _ _)⟩,fun q hq z hz=> ?_⟩
   ·obtain⟨i,hi,rfl⟩:=lI hq
    rw[Qb]
    exact hne _ _ (by omega)
   ·obtain⟨i,hi,rfl⟩:=lI hq
    rw[aL] at hi
    rw[Qa]
    have h1:=f1 i (by omega) (by omega)
    rcases aX.1 hz with rfl|hz
    ·exact h1
    ·obtain⟨j,hj,rfl⟩:=lI hz
     rw[Qb]
     exact lt_trans h1 (hne _ _ (by omega))
 ·unfold gZ at hp
  split at hp
  ·rcases oQ hp with h|rfl
   ·exact .inl h
   ·exact .inr ⟨rfl,hk,hv⟩
  ·rcases dG.1 hp with h|h
   ·exact .inl (nN h)
   ·rcases aX.1 h with rfl|h
    ·exact .inr ⟨rfl,hk,hv⟩
    ·exact .inl (tQ h)
 ·simp only[gZ]
  split<;>simp<;>omega
theorem G9 {nd:Nd}{l:ByteArray}{zs:List (ByteArray×Nd)}(h:Nr nd l zs)(hne:nd.pairs≠[])(hs:nd.size<=512):zs=[(leastOf nd l,nd)]:=by
 cases h with
 |none _ h2=>exact absurd h2 hne
 |one _ _=>rfl
 |leaf _ _ _ h2=>omega
 |inner _ _ _ h2=>omega
theorem DK {σ σ':bR}{ps:List Pc}{l:ByteArray}{nd:Nd}(h:Puts σ ps [(l,nd)] σ'):∃b,ps=[(b,l)]/\Wrote σ b nd σ':=by
 match ps,h with
 |[(b,k)],⟨σ1,e,hw,h2⟩=>
  cases h2
  exact⟨b,by rw[show k=l from e],hw⟩
 |(_,_)::_::_,⟨_,_,_,h2⟩=>exact h2.elim
def yg (σ:bR)(root:Int)(cs:List Pr)(bs:List Int):Prop:=(root=0/\cs=[]/\bs=[])\/∃_:Unit,uo σ 0 2 ⟨#[]⟩ none root cs bs
theorem yg.rise {σ:bR}{root:Int}{cs:List Pr}{bs:List Int}(h:yg σ root cs bs):gu cs:=by
 rcases h with ⟨_,rfl,_⟩|⟨_,ht⟩
 ·exact zZ
 ·exact ht.content.rise
theorem yg.has {σ:bR}{root:Int}{cs:List Pr}{bs:List Int}(h:yg σ root cs bs):∀x∈bs,σ.hasB x=true:=by
 rcases h with ⟨_,_,rfl⟩|⟨_,ht⟩
 ·simp
 ·exact ht.has
theorem yg.count {σ:bR}{root:Int}{cs:List Pr}{bs:List Int}(h:yg σ root cs bs):bs.length<=2*cs.length:=by
 rcases h with ⟨_,_,rfl⟩|⟨_,ht⟩
 ·simp
 ·exact ht.Rv
theorem yg.keep {σ σ':bR}{us bs':List Int}(hc:qO σ σ' us bs'){root:Int}{cs:List Pr}{bs:List Int}(h:yg σ root cs bs)(hd:∀x∈bs,x∉us\/False):yg σ' root cs bs:=by
 rcases h with h|⟨_,ht⟩
 ·exact .inl h
 ·exact .inr ⟨(),ht.move fun x hx=>hc.frame x (ht.has x hx) (hd x hx)⟩
theorem Eb (k:ByteArray):lt k ⟨#[]⟩=false:=by
 cases hq:lt k ⟨#[]⟩ with
 |false=>rfl
 |true=>(simp[lt,toList_eq] at hq;cases hb:k.data.toList<;>simp[hb,Op.bytesLess] at hq)
theorem yg.look {σ:bR}{root:Int}{cs:List Pr}{bs:List Int}(h:yg σ root cs bs)(_hl:cs.length<=4095)(key:ByteArray):∃n,n<=40/\Look σ key n root (cu cs key):=by
 rcases h with ⟨rfl,rfl,_⟩|⟨_,ht⟩
 ·exact⟨0,by omega,.nil⟩
 ·exact⟨0,by omega,ht.look ⟨Eb key,fun y hy=>by cases hy⟩⟩
def CG (σ:bR)(bs:List Int)(cs:List Pr)(n:Nat)(σ':bR)(b:Int):Prop:=∃bs',yg σ' b cs bs'/\qO σ σ' bs bs'/\Pk σ σ' bs n/\True
theorem NG {σ:bR}{root:Int}{cs:List Pr}{bs:List Int}(hT:yg σ root cs bs)(hl:cs.length<=999)(t:Nat)(mp:VS)(S:Nat->Prop)(key:ByteArray)(g:Nat)(cb:Array Value)(F:List Pr->List Pr)(vs:List (Nat×ByteArray))(hent:∀args w,(callFunc g args).run Tryz.prog w= .ok (.enter g args) w)(hf:IW g cb F vs)(hF:Tq F key)(hne:F cs≠[])(hz:2+eu (F cs)<=512)
  (W:World) (h:Inv σ S mp W) (ht:bK W t mp root 0) (hst:¬S t) (hbx:vT W S vs):EG t mp root key g cb σ S (¬Room σ bs (cs.length+1)) (CG σ bs (F cs) (cs.length+1)) W:=by
 have hFl:=hF.len cs
 have hsz:Nd.size ⟨F cs,[],[]⟩<=512:=by simp[Nd.size,gm];omega
 have hrise:gu cs:=hT.rise
 have fin:∀(σ0:bR) (us:List Int) (b:Int) (σ':bR),qO σ σ0 bs us->us=[]->σ0.tk=σ.tk->Wrote σ0 b ⟨F cs,[],[]⟩ σ'->Nd.Ok ⟨F cs,[],[]⟩->CG σ bs (F cs) (cs.length+1) σ' b:=fun σ0 us b σ' hc hu hk hw ok=>by
  subst hu
  have hcw:=hc.trans (Ka hw trivial)
  refine⟨[b],.inr ⟨(),_,hw.blk,ok,rfl,rfl,hne,hF.rise _ hrise,fun p hp=>⟨Eb _,fun y hy=>by cases hy⟩,rfl⟩,hcw,fun L r t=> ?_,trivial⟩
  have e1:=hw.tk
  have e2:=hcw.size
  have e3:=DW σ [b]
  simp only[dJ] at e3
  unfold M7 at r
  omega
 rcases hT with ⟨rfl,rfl,rfl⟩|⟨_,hT⟩
 ·have ok:Nd.Ok ⟨F [],[],[]⟩:=⟨fun p hp=>by
   rcases hF.mem _ zZ p hp with h|h
   ·cases h
   ·exact h.2,by simp,by simp,rfl,by simp,by simp at hFl;show (F []).length<=2000;omega,by simp⟩
  refine(J2 t mp 0 0 0 σ S key ⟨#[]⟩ g cb F vs hent hf W h ht hst hbx ok ⟨hne,hsz⟩).mono ?_
  rintro e w1 (⟨v,ps,zs,σ',S',rfl,p2,p3,p4,p5,p6⟩|⟨hno,hg⟩)
  rotate_left
  ·refine .inr ⟨fun hR=> ?_,hg⟩
   unfold Room at hR;simp[nh] at hR;unfold Nd.room at hno;simp only[lH] at hno;simp only[ja] at hFl;omega
  rw[G9 p3 hne hsz] at p4
  obtain⟨b,rfl,hw⟩:=DK p4
  refine .inl ⟨v,S',rfl,p6,?_⟩
  have ht1:=ht.step hst p6
  refine(Bf t mp 0 0 σ' v b _ _ S' w1 p5 ht1.1 ht1.2 p2.dL hw.blk rfl).mono ?_
  rintro e2 w2 ⟨rfl,hb⟩
  exact .inl ⟨b,σ',S',rfl,p5.below hb,Step.of_below hb,fin σ [] b σ' (qO.refl fun x hx=>by cases hx) rfl rfl hw ok⟩
 ·obtain⟨nd,h1,h2,h3,h4,h5,h6,h7,h8⟩:=hT
  subst h4 h8
  have hnp:=h1.fits.np
  have ok:Nd.Ok ⟨F nd.pairs,[],[]⟩:=⟨fun p hp=>by
   rcases hF.mem _ h6 p hp with h|h
   ·exact h2.pr p h
   ·exact h.2,by simp,by simp,rfl,by simp,by show (F nd.pairs).length<=2000;omega,by simp⟩
  have hc1:=MO h h1.has
  refine(J3 t mp root 0 root 0 σ S key ⟨#[]⟩ nd g cb F vs hent hf W h ht hst hbx h1 h3 (by omega) h6 ok ⟨hne,hsz⟩).mono ?_
  rintro e w1 (⟨v,ps,zs,σ',S',rfl,p2,p3,p4,p5,p6⟩|⟨hno,hg⟩)
  rotate_left
  ·refine .inr ⟨fun hR=> ?_,hg.after (Step.refl S W) rfl rfl⟩
   have hs:=hc1.size
   have hm:=hc1.most
   have hz0:nh σ []=0:=rfl
   unfold Room at hR;unfold Nd.room at hno;simp only[lH] at hno;omega
  rw[G9 p3 hne hsz] at p4
  obtain⟨b,rfl,hw⟩:=DK p4
  refine .inl ⟨v,S',rfl,p6,?_⟩
  have ht1:=ht.step hst p6
  refine(Bf t mp root 0 σ' v b _ _ S' w1 p5 ht1.1 ht1.2 p2.dL hw.blk rfl).mono ?_
  rintro e2 w2 ⟨rfl,hb⟩
  exact .inl ⟨b,σ',S',rfl,p5.below hb,Step.of_below hb,fin (σ.gone root) [] b σ' hc1 rfl rfl hw ok⟩
def RF (key value:ByteArray):Prop:=(1<=key.size/\key.size<=128)/\value.size<=64
theorem JG (kb vb:Nat)(key value:ByteArray):IW 545 #[.pointer (some ⟨kb,0,none⟩),.pointer (some ⟨vb,0,none⟩)] (fun ps=>gZ ps key value) [(kb,key),(vb,value)]:=by
 intro nb B nd S w hsub hbx hn hr hl
 exact JJ kb vb nb B key value nd S w hsub (hbx (kb,key) (by simp)).1 (hbx (vb,value) (by simp)).1 (hbx (kb,key) (by simp)).2 (hbx (vb,value) (by simp)).2 hn hr hl
theorem Rf (cs:List Pr)(key value:ByteArray):gZ cs key value≠[]:=by
 unfold gZ
 split
 ·rename_i hat
  have h1:=(sQ hat).1
  intro e
  have h2:=congrArg List.length e
  rw[iZ,ja] at h2
  omega
 ·simp
theorem Lv (t:Nat)(mp:VS)(root:Int)(σ:bR)(S:Nat->Prop)(cs:List Pr)(bs:List Int)(key value:ByteArray)(w:World)(h:Inv σ S mp w)(ht:bK w t mp root 0)(hst:¬S t)(hT:yg σ root cs bs)(hl:cs.length<=999)(hg:RF key value)(hz:2+eu (gZ cs key value)<=512):
  Calls Tryz.prog 494 #[.pointer (some ⟨t,0,none⟩),.string key,.string value] w fun e w'=>(e= .returned (.int .i64 0)/\CQ t mp S (CG σ bs (gZ cs key value) (cs.length+1)) w w')\/(e= .returned (.int .i64 12)/\zT t mp root σ S (¬Room σ bs (cs.length+1)) w w'):=by
 refine N8 t mp root σ S _ _ key value w h.sub ht hst hg.1.1 hg.1.2 hg.2 fun W kb vb hbW hbx=> ?_
 exact NG hT hl t mp S key _ _ (fun ps=>gZ ps key value) [(kb,key),(vb,value)] (fun _ _=>by kernel_rfl) (JG kb vb key value) (Mi key value hg.1.2 hg.2) (Rf _ _ _) hz W (h.below hbW) ((hbW.block t (ah.1 ht).1).trans ht) hst hbx
theorem zC (t:Nat)(mp:VS)(root:Int)(σ:bR)(S:Nat->Prop)(cs:List Pr)(bs:List Int)(key:ByteArray)(w:World)(h:Inv σ S mp w)(ht:bK w t mp root 0)(hT:yg σ root cs bs)(hl:cs.length<=4090)(hg:1<=key.size/\key.size<=128):
  Calls Tryz.prog 332 #[.pointer (some ⟨t,0,none⟩),.string key] w fun e w'=>e= .returned (.tuple #[.string ((cu cs key).getD ⟨#[]⟩),.bool (cu cs key).isSome,.int .i64 0])/\Below w.heap.size w w':=by
 obtain⟨n,hn40,hlk⟩:=hT.look (by omega) key
 exact OJ t mp root σ S key _ w h ht hg.1 hg.2 n hn40 hlk
theorem Jw (t:Nat)(mp:VS)(root:Int)(σ:bR)(S:Nat->Prop)(cs:List Pr)(bs:List Int)(key:ByteArray)(most:Int)(w:World)(h:Inv σ S mp w)(ht:bK w t mp root 0)(hT:yg σ root cs bs)(hl:cs.length<=4090):
  Calls Tryz.prog 82 #[.pointer (some ⟨t,0,none⟩),.string key,.int .i64 most] w fun e w'=>∃v,e= .returned (.tuple #[v,.int .i64 0])/\aQ w' S w.heap.size 188 2 v ((cs.drop (cZ cs key)).take most.toNat).length (bZ ((cs.drop (cZ cs key)).take most.toNat))/\Below w.heap.size w w':=by
 by_cases hm:most<=0
 ·refine(AO t mp root key most w ht (.inr hm)).mono ?_
  rintro e w' ⟨rfl,hb⟩
  refine⟨_,rfl,?_,hb⟩
  rw[show most.toNat=0 from by omega,gN]
  exact aQ.nil _ _ _ _ _
 ·rcases hT with ⟨rfl,rfl,_⟩|⟨_,nd,h1,h2,h3,h4,h5,h6,h7,h8⟩
  ·refine(AO t mp 0 key most w ht (.inl rfl)).mono ?_
   rintro e w' ⟨rfl,hb⟩
   refine⟨_,rfl,?_,hb⟩
   rw[List.drop_nil,List.take_nil]
   exact aQ.nil _ _ _ _ _
  ·subst h4
   exact Li t mp root σ S key most _ 0 w h ht (by have:=h1.lo;omega) (by omega) (by omega) (.leaf h1 h3 h6) (by simp only[bB];omega)
def Fo (σ:bR)(h:Nat):List Int->List Int->Prop
 |[],bs=>bs=[]
 |b::L,bs=>∃lo hi c x bs',uo σ h 2 lo hi b c x/\Fo σ h L bs'/\bs=x++bs'
inductive BL (σ:bR):Nat->List Int->List Int->Prop
 |done:BL σ 0 [] []
 |step {n:Nat} {L:List Int} {nds:List Nd} {T:List Int}:L≠[]->nds.length=L.length->(∀i (h1:i<L.length) (h2:i<nds.length),Fg σ L[i] nds[i])->BL σ n (nds.flatMap (·.kids)) T->BL σ (n+1) L (L++T)
def uI (T:List Int):List Int:=T.mergeSort fun x y=>decide (x<=y)
theorem uH (T:List Int):(uI T).length=T.length:=List.length_mergeSort _
theorem Dp {T:List Int}(x:Int):x∈uI T↔x∈T:=(vW T _).mem_iff
theorem Lc (v:Value)(T:List Int)(w:World)(S:Nat->Prop)(B:Nat)(h:aQ w S B 3 1 v T.length (T.map (.int .i64)))(hl:T.length<=100000)(hB:B<=w.heap.size):
  Calls Tryz.prog 85 #[v] w fun e w'=>e= .returned (.tuple #[])/\aQ w' S B 3 1 v (uI T).length ((uI T).map (.int .i64))/\Below B w w':=by
 obtain⟨⟨hxl,hr⟩,hn⟩:=h
 rcases hr with ⟨rfl,h0⟩|⟨g,cap,cur,rfl,hb,hg,h1,h2,h3,h4⟩
 ·refine(Any.slices_Sort_int_none uJ none 0 w).mono ?_
  rintro e w' ⟨rfl,rfl⟩
  have hT:T=[]:=bn h0
  subst hT
  refine⟨rfl,?_,aH _ _⟩
  have:uI []=[]:=bn (uH [])
  rw[this]
  exact aQ.nil _ _ _ _ _
 ·have hH:Go.Sort.Holds (Value.int .i64) w g 0 T.toArray:=holds_of_blockI hg (by rw[<-h4,iA])
  refine(Any.slices_Sort_int uJ g 0 cap T w hH (ah.1 hg).1 (by omega)).mono ?_
  rintro e w' ⟨rfl,n,os,rfl⟩
  have hgb:=grownBy_sortedI (w:=w) (g:=g) (n:=n) (os:=os) (uI T).toArray
  refine⟨rfl,⟨?_,hn⟩,⟨hgb.os,hgb.tape,hgb.output,hgb.size,fun k hk=>hgb.block k (ax hk hB) (fun e=>by have:=fU e;omega)⟩⟩
  have:=ownsRow_sortedI (w:=w) (base:=B) (n:=n) (os:=os) (ts:=uI T) (uH T) hb hg h1 h2 h3
  rw[uH]
  exact this
def Af (r:Nat×Nat):List Nat:=(List.range r.2).map (r.1+ ·)
def eD (rs:List (Nat×Nat)):List Nat:=rs.flatMap Af
theorem Gd (r:Nat×Nat)(rs:List (Nat×Nat)):eD (r::rs)=Af r++eD rs:=rfl
theorem uL (a b:List (Nat×Nat)):eD (a++b)=eD a++eD b:=by simp[eD]
theorem qU (r:Nat×Nat):(Af r).length=r.2:=by simp[Af]
def Uy (rs:List (Nat×Nat))(b:Nat):List (Nat×Nat):=
 match rs.getLast? with
 |some r=>if r.1+r.2=b/\r.2<255 then rs.dropLast++[(r.1,r.2+1)] else rs++[(b,1)]
 |none=>[(b,1)]
theorem Jz (f n:Nat):Af (f,n+1)=Af (f,n)++[f+n]:=by simp[Af,List.range_succ]
def CJ (rs:List (Nat×Nat)):Prop:=∀r∈rs,1<=r.2/\r.2<=255/\r.1+r.2<=65536
theorem CJ.le {rs:List (Nat×Nat)}(h:CJ rs):rs.length<=(eD rs).length:=by
 induction rs with
 |nil=>exact aN _
 |cons r rs ih=>
  have h1:=h r (aP ..)
  have:=ih (fun q hq=>h q (aT _ hq))
  rw[Gd,ay,qU,aU];omega
def zI (r:Nat×Nat):List UInt8:=[UInt8.ofNat r.1,UInt8.ofNat (r.1/256),UInt8.ofNat r.2]
def encR (size:Nat)(rs:List (Nat×Nat)):List UInt8:=[177,UInt8.ofNat size,UInt8.ofNat (size/256),UInt8.ofNat rs.length]++rs.flatMap zI
def kD (rs:List (Nat×Nat)):List Value:=rs.flatMap fun r=>[.int .i64 r.1,.int .i64 r.2]
theorem xZ (a b:List (Nat×Nat)):kD (a++b)=kD a++kD b:=by simp[kD]
theorem Dx (rs:List (Nat×Nat))(i:Nat)(h:i<rs.length):(kD rs)[i*2]? =some (.int .i64 rs[i].1)/\(kD rs)[i*2+1]? =some (.int .i64 rs[i].2):=by
 induction rs generalizing i with
 |nil=>simp at h
 |cons r rs ih=>
  cases i with
  |zero=>exact⟨rfl,rfl⟩
  |succ i=>
   have:=ih i (by simpa using h)
   rw[show (i+1)*2=i*2+2 by omega]
   exact this
structure qC (w:World)(S:Nat->Prop)(B lb size:Nat)(rs:List (Nat×Nat))(v:Value):Prop where
 obj:w.heap[lb]? =some (.cells #[.int .i64 size,v] 372 (0,0))
 own:aQ w S B 374 2 v rs.length (kD rs)
 lo:B<=lb
 ns:¬S lb
theorem qC.below {w w':World}{S:Nat->Prop}{B lb size:Nat}{rs:List (Nat×Nat)}{v:Value}(h:qC w S B lb size rs v)(hb:Below w.heap.size w w'):qC w' S B lb size rs v:=
 ⟨(hb.block lb (ah.1 h.obj).1).trans h.obj,h.own.below hb,h.lo,h.ns⟩
theorem Gc (rs:List (Nat×Nat))(k:Nat)(h:k<rs.length):eD (rs.take (k+1))=eD (rs.take k)++Af rs[k]:=by
 rw[aM h,uL];simp[eD]
theorem tu (rs:List (Nat×Nat))(k:Nat):(eD (rs.take k)).length<=(eD rs).length:=by
 have:eD rs=eD (rs.take k)++eD (rs.drop k):=by rw[<-uL,bG]
 rw[this,ay];omega
def ints (l:List Nat):List Value:=l.map fun (b:Nat)=>Value.int .i64 (b:Int)
theorem Es (a b:List Nat):ints (a++b)=ints a++ints b:=by simp[ints]
theorem OD (l:List Nat):ints l=(l.map fun (b:Nat)=>(b:Int)).map (.int .i64):=by simp[ints]
def GV (w:World)(S:Nat->Prop)(v:Value)(rs:List (Nat×Nat)):Prop:=aW w S 2 v rs.length (kD rs)
theorem GV.at {w:World}{S:Nat->Prop}{v:Value}{rs:List (Nat×Nat)}{ao:Option Addr}{n c:Nat}(h:GV w S v rs)(hv:v= .slice ao n c)(i:Nat)(hi:i<rs.length):
  ∃b o,ao=some ⟨b,o,none⟩/\w.cell? ⟨b,o+i*2,none⟩=some (.int .i64 rs[i].1)/\w.cell? ⟨b,o+i*2+1,none⟩=some (.int .i64 rs[i].2):=by
 obtain⟨h1,h2⟩:=Dx rs i hi
 obtain⟨ao',c',rfl,_,_,_,_,_,h6⟩:=h
 cases hv
 obtain⟨b,o,rfl,hc⟩:=h6 (i*2) _ h1
 obtain⟨b',o',e,hc'⟩:=h6 (i*2+1) _ h2
 cases e
 exact⟨b,o,rfl,hc,by rw[kV];exact hc'⟩
theorem CB (lb size:Nat)(rs:List (Nat×Nat))(lv:Value)(B:Nat)(S:Nat->Prop)(w:World)(h:qC w S B lb size rs lv)(hS:∀g,S g->g<w.heap.size)(ok:CJ rs)(hl:(eD rs).length<=1000):
  Calls Tryz.prog 144 #[.pointer (some ⟨lb,0,none⟩)] w fun e w'=>∃v,e= .returned v/\aQ w' S w.heap.size 3 1 v (eD rs).length (ints (eD rs))/\Below w.heap.size w w':=by
 obtain⟨ao,c,rfl,n0,m0,_,_⟩:=aW.form h.own.dL
 have hsl:=h.own.dL
 have c0:w.cell? ⟨lb,0,none⟩=some (.int .i64 size):=by simp[World.cell?,h.obj]
 have c1:w.cell? ⟨lb,1,none⟩=some (.slice ao rs.length c):=by simp[World.cell?,h.obj]
 have hlt:lb<w.heap.size:=(ah.1 h.obj).1
 have hrl:=ok.le
 have HOK:=af ok
 have HSL:=af hsl
 clear h hsl ok
 go_enter Tryz.func144,Tryz.ntmps144
 go_wp2_with fail
 go_loopw [3,5,6,12,18] (fun o _ _ i _ wr=>∃k:Nat,k<=rs.length/\i= .int .i64 k/\aQ wr S w.heap.size 3 1 o (eD (rs.take k)).length (ints (eD (rs.take k)))/\Below w.heap.size w wr) (fun _ _ _ i _ _=>rs.length - (intOf i).toNat)
 case atStart=>exact⟨0,by omega,rfl,by rw[gN];exact aQ.nil _ _ _ _ _,aH _ _⟩
 case round=>
  obtain⟨k,hk,rfl,ho,hb⟩:=hrel
  have htl:=tu rs k
  obtain⟨F,hF⟩:∃F,Hid (F=eD (rs.take k)):=⟨_,af rfl⟩
  rw[<-hF.out] at ho htl
  obtain⟨oo,oc,rfl,_,_,_,_⟩:=aW.form ho.dL
  by_cases hkl:k<rs.length
  ·have x1:(k:Int)<(rs.length:Int):=by omega
   obtain⟨pb,po,rfl,d1,d2⟩:=GV.at HSL.out rfl k hkl
   have d1':=(hb.cell (p:=⟨pb,po+k*2,none⟩) (aD w _ d1)).trans d1
   have d2':=(hb.cell (p:=⟨pb,po+k*2+1,none⟩) (aD w _ d2)).trans d2
   have hpb:=aD wr _ d1'
   have HT:=af (Gc rs k hkl)
   have htl2:=tu rs (k+1)
   rw[HT.out,<-hF.out,ay,qU] at htl2
   have hrk:=HOK.out rs[k] (bI hkl)
   obtain⟨f,hf⟩:∃f,f=rs[k].1:=⟨_,rfl⟩
   obtain⟨n,hn⟩:∃n,n=rs[k].2:=⟨_,rfl⟩
   have hrun:rs[k]=(f,n):=by rw[hf,hn]
   rw[<-hf,<-hn] at hrk
   rw[<-hf] at d1'
   rw[<-hn] at d2' htl2
   have HRUN:=af hrun
   clear hf hn hrun d1 d2
   obtain⟨wo,rfl⟩:∃x:World,x=wr:=⟨_,rfl⟩
   have hbA:=aC wo (.cells #[.int .i64 f,.int .i64 n] 374)
   have hA:(wo.alloc (.cells #[.int .i64 f,.int .i64 n] 374)).heap[wo.heap.size]? =some (.cells #[.int .i64 f,.int .i64 n] 374 (0,0)):=aF wo _
   go_wp2_with fail
   generalize hwA:wo.alloc (.cells #[.int .i64 f,.int .i64 n] 374)=wA at hbA hA ⊢
   have hqn:wo.heap.size<wA.heap.size:=(ah.1 hA).1
   go_loopw [3,6,18] (fun o _ i wk=>∃j:Nat,j<=n/\i= .int .i64 j/\aQ wk S w.heap.size 3 1 o (F.length+j) (ints (F++Af (f,j)))/\Below w.heap.size w wk/\wk.heap[wo.heap.size]? =some (.cells #[.int .i64 f,.int .i64 n] 374 (0,0))) (fun _ _ i _=>n - (intOf i).toNat)
   case atStart=>exact⟨0,by omega,rfl,by simpa [Af] using ho.below hbA,hb.trans (hbA.mono hb.size),hA⟩
   case round=>
    obtain⟨j,hj,rfl,hoj,hbj,hAj⟩:=hrel
    obtain⟨qo,qc,rfl,_,_,_,_⟩:=aW.form hoj.dL
    have r0:wr.cell? ⟨wo.heap.size,0,none⟩=some (.int .i64 f):=by simp[World.cell?,hAj]
    have hAl:=(ah.1 hAj).1
    by_cases hjn:j<n
    ·have y1:(j:Int)<(n:Int):=by omega
     have HR:=af (Jz f j)
     have hS6:∀g,S g->g<wr.heap.size:=fun g hg=>ax (hS g hg) hbj.size
     have hbg:=hbj.size
     go_wp2_with (first
      |(at_builtin;go_must ((refine dS rfl (.tmp 21) (.tmp 26) 39 39 rfl S w.heap.size 3 1 8 _ kr zy rfl (.slice qo (F.length+j) qc) _ _ rfl (hoj.below (aC _ _)) _ 1 _ rfl (iq [.int .i64 ((f:Int)+(j:Int))] _ 1 1 1 (by simp) kr rfl ?_) (jS hS6 _) ?_ ?_ ?_ ?_);(focus (simp[Value.oneCell']));(focus (simp only[aZ];omega));(focus (unfold maxLen;omega));(focus omega);intro ao1 c1 w1 hown1 hk1 hb1 hd1)))
     go_roundw
     case rel=>
      have hne:(Value.slice qo (F.length+j) qc).ownBlock≠some wo.heap.size:=hoj.ne hAj (by decide)
      refine⟨j+1,by omega,by go_num,?_,(hbj.trans (aC wr _|>.mono hbj.size)).trans hb1,?_⟩
      ·rw[HR.out,<-bC,Es]
       have e:ints [f+j]=[.int .i64 ((f:Int)+(j:Int))]:=by simp[ints]
       rw[e]
       exact hown1
      ·exact(hk1.block wo.heap.size (by simp only[aZ];omega) hne).trans ((nD _ _ _ (by omega)).trans hAj)
     case measure=>simp[intOf];omega
    ·have hjn2:j=n:=by omega
     subst hjn2
     go_wp2_with fail
     go_roundw
     case rel=>exact⟨k+1,by omega,by go_num,by rw[HT.out,HRUN.out,<-hF.out,ay,qU];exact hoj,hbj⟩
     case measure=>simp[intOf];omega
  ·have:k=rs.length:=by omega
   subst this
   rw[bW] at hF
   have x1:¬(rs.length:Int)<(rs.length:Int):=by omega
   go_wp2_with fail
   go_ret
   exact⟨_,rfl,by rw[<-hF.out];exact ho,hb⟩
theorem Mk:(Tryz.prog.info? 374).map (fun i=>(i.zero,i.size,i.bytes))=some (some (.agg #[.int .i64 0,.int .i64 0]),2,16):=by kernel_rfl
theorem Oq {w w':World}{S:Nat->Prop}{B lb size n:Nat}{rs':List (Nat×Nat)}{v v':Value}{xs:List Value}(hobj:w.heap[lb]? =some (.cells #[.int .i64 size,v] 372 (0,0)))(hown:aQ w S B 374 2 v n xs)(lo:B<=lb)(ns:¬S lb)(hk:Keep (fun g=>v.ownBlock=some g) w w')(hb:Below B w w')(ho:aQ w' S B 374 2 v' rs'.length (kD rs')):
  qC (w'.setCell ⟨lb,1,none⟩ v') S B lb size rs' v'/\Below B w (w'.setCell ⟨lb,1,none⟩ v'):=by
 have hlt:=(ah.1 hobj).1
 have hn:w'.heap[lb]? =_:=(hk.block lb hlt (hown.ne hobj (by decide))).trans hobj
 have hk5:Keep (· =lb) w' (w'.setCell ⟨lb,1,none⟩ v'):=Keep.setCell (M:=(· =lb)) (p:=⟨lb,1,none⟩) (Keep.refl _ _) (.inr rfl) _
 exact⟨⟨by simp[World.setCell,aJ,hn],ho.keep fun g hg hl hs=>⟨hk5.block g hl (fun e=>ho.ne hn (by decide) (by rw[hg,e])),hs⟩,lo,ns⟩,hb.setCell (by exact lo) _⟩
theorem QS (d:Nat)(σ:Dk)(Sd:Nat->Prop)(n:Int)(w:World)(h:qI w Sd d σ):
  Calls Tryz.prog 88 #[.pointer (some ⟨d,0,none⟩),.int .i64 n] w fun e w'=>e= .returned (.int .i64 (if n<2\/(σ.n:Int)<=n then 1 else 0))/\w'=w:=by
 have HS:=af (EJ d σ Sd w h)
 clear h
 by_cases h1:n<2
 ·rw[if_pos (.inl h1)]
  go_enter Tryz.func88,Tryz.ntmps88
  go_wp2_with fail
  go_ret
  exact⟨rfl,rfl⟩
 ·by_cases h2:(σ.n:Int)<=n
  ·rw[if_pos (.inr h2)]
   go_enter Tryz.func88,Tryz.ntmps88
   go_wp2_with (first
    |(go_at_call 87;go_must (refine HS.out.mono ?_;rintro e w1 ⟨rfl,hw1⟩;subst w1)))
   go_ret
   exact⟨rfl,rfl⟩
  ·rw[if_neg (by omega)]
   go_enter Tryz.func88,Tryz.ntmps88
   go_wp2_with (first
    |(go_at_call 87;go_must (refine HS.out.mono ?_;rintro e w1 ⟨rfl,hw1⟩;subst w1)))
   go_ret
   exact⟨rfl,rfl⟩
def Dk.qQ:Nat->Nat->Dk->Dk
 |0,_,σ=>σ
 |k+1,i,σ=>Dk.qQ k (i+1) (σ.put i [])
theorem Dk.wF:∀(k i:Nat) (σ:Dk),Dk.qQ (k+1) i σ=(Dk.qQ k i σ).put (i+k) []
 |0,i,σ=>rfl
 |k+1,i,σ=>by
  show Dk.qQ (k+1) (i+1) (σ.put i [])=_
  rw[Dk.wF k (i+1)]
  show (Dk.qQ k (i+1) (σ.put i [])).put (i+1+k) []=(Dk.qQ k (i+1) (σ.put i [])).put (i+(k+1)) []
  rw[show i+1+k=i+(k+1) by omega]
theorem Dk.wG:∀(k i:Nat) (σ:Dk),(Dk.qQ k i σ).n=σ.n
 |0,_,_=>rfl
 |k+1,i,σ=>(Dk.wG k (i+1) (σ.put i [])).trans rfl
theorem Dk.sD:∀(k i:Nat) (σ:Dk),σ.lF->(Dk.qQ k i σ).lF
 |0,_,_,h=>h
 |k+1,i,σ,h=>Dk.sD k (i+1) (σ.put i []) (h.put i [])
theorem Dk.tV:∀(k i:Nat) (σ:Dk),(Dk.qQ k i σ).waits.length=σ.waits.length+k
 |0,_,_=>rfl
 |k+1,i,σ=>by
  show (Dk.qQ k (i+1) (σ.put i [])).waits.length=_
  rw[Dk.tV k (i+1)]
  simp[Dk.put]
  omega
def Pg.new (n:Nat):Pg:=⟨n,n - 1,Im.none,false⟩
theorem Gl {w:World}{Sd Sl:Nat->Prop}{lg d:Nat}{σ:Dk}{l:Lg}(n:Nat)(h:iy w Sd Sl lg d σ l)(hf:l.frm=0)(hn:l.n=n)(hfit:n<σ.n)(h2:2<=n):
  iF ((w.alloc (.map #[] 0)).alloc (.cells #[.pointer (some ⟨d,0,none⟩),.pointer (some ⟨lg,0,none⟩),.int .i64 n,.int .i64 ((n - 1:Nat):Int),.map (some w.heap.size),.pointer none,.bool false] 199)) (Three Sd Sl (fun g=>g=w.heap.size\/g=w.heap.size+1)) (w.heap.size+1) d σ l (Pg.new n) (.pointer none)/\
  Step (fun g=>Sd g\/Sl g) (Three Sd Sl (fun g=>g=w.heap.size\/g=w.heap.size+1)) w ((w.alloc (.map #[] 0)).alloc (.cells #[.pointer (some ⟨d,0,none⟩),.pointer (some ⟨lg,0,none⟩),.int .i64 n,.int .i64 ((n - 1:Nat):Int),.map (some w.heap.size),.pointer none,.bool false] 199)):=by
 obtain⟨cs,hcs⟩:∃cs:Array Value,cs=#[.pointer (some ⟨d,0,none⟩),.pointer (some ⟨lg,0,none⟩),.int .i64 n,.int .i64 ((n - 1:Nat):Int),.map (some w.heap.size),.pointer none,.bool false]:=⟨_,rfl⟩
 rw[<-hcs]
 have hb:Below w.heap.size w ((w.alloc (.map #[] 0)).alloc (.cells cs 199)):=iU w _ _
 have hm:jH ((w.alloc (.map #[] 0)).alloc (.cells cs 199)) w.heap.size Im.none:=(jH.none w).block (nD _ _ _ (by simp))
 have ho:((w.alloc (.map #[] 0)).alloc (.cells cs 199)).heap[w.heap.size+1]? =some (.cells cs 199 (0,0)):=by
  have:=aF (w.alloc (.map #[] 0)) (.cells cs 199)
  rwa [aZ] at this
 have hs:((w.alloc (.map #[] 0)).alloc (.cells cs 199)).heap.size=w.heap.size+2:=by simp
 have hdl:∀g,Sd g->g<w.heap.size:=h.dk.sub
 have hll:∀g,Sl g->g<w.heap.size:=h.lg.sub
 refine⟨⟨Sd,Sl,_,lg,w.heap.size,⟨h.below hb,⟨hf,hn.symm,?_,by rw[hn];exact hfit,Im.Ok.none _⟩,fun g hg=> ?_,fun g hg e=> ?_,fun g hg e=> ?_,.inr rfl,.inl rfl,?_,hm⟩,fun _=>Iff.rfl⟩,(Keep.of_below hb _),fun g hg=> ?_⟩
 ·show n - 1+1=l.n;omega
 ·omega
 ·have:=hdl g e;omega
 ·have:=hll g e;omega
 ·rw[ho,hcs];rfl
 ·rcases hg with hg|hg|hg
  ·exact .inl (.inl hg)
  ·exact .inl (.inr hg)
  ·right;omega
theorem Sq (d:Nat)(σ:Dk)(Sd:Nat->Prop)(n:Nat)(w:World)(h:qI w Sd d σ)(hf:σ.lF)(h1:2<=n)(h2:n<σ.n)(hcap:σ.waits.length<=50000):
  Calls Tryz.prog 49 #[.pointer (some ⟨d,0,none⟩),.int .i64 n] w fun e w'=>∃pg S',e= .returned (.tuple #[.pointer (some ⟨pg,0,none⟩),.int .i64 0])/\
   iF w' S' pg d (((Dk.qQ (σ.n - n) n σ).flush.put 0 (Lg.new 0 n).dZ).flush) (Lg.new 0 n) (Pg.new n) (.pointer none)/\Step Sd S' w w':=by
 have hck:=QS d σ Sd n w h
 rw[if_neg (by omega)] at hck
 have HC:=af hck;clear hck
 have hi:=h.ok.hi
 have HH:=af h;have HF:=af hf
 clear h hf
 go_enter Tryz.func49,Tryz.ntmps49
 go_wp2_with (first
  |(go_at_call 88;go_must (refine HC.out.mono ?_;rintro e w1 ⟨rfl,hw1⟩;subst w1)))
 go_loopw [7] (fun i wr=>∃(k:Nat) (S1:Nat->Prop),n+k<=σ.n/\i= .int .i64 ((n+k:Nat):Int)/\Hid (qI wr S1 d (Dk.qQ k n σ))/\Hid (Step Sd S1 w wr)) (fun i _=>σ.n - (intOf i).toNat)
 case atStart=>exact⟨0,Sd,by omega,rfl,HH,af (Step.refl _ _)⟩
 case round=>
  obtain⟨k,S1,hk,rfl,HD,HS⟩:=hrel
  have HSz:=af (EJ d _ S1 wr HD.out)
  rw[Dk.wG] at HSz
  obtain⟨j,HJ⟩:∃j,Hid (n+k=j):=⟨_,af rfl⟩
  rw[HJ.out] at hk ⊢
  by_cases hlt:j<σ.n
  ·have hltI:(j:Int)<(σ.n:Int):=by omega
   have hwr:=Cs d _ S1 (j:Int) (.slice none 0 0) [] wr HD.out (aW.nil _ _ _) (by rw[Dk.tV];have:=HJ.out;omega)
   rw[(Dk.sD k n σ HF.out).write j [] (by rw[Dk.wG];exact hlt) (by simp)] at hwr
   have HWr:=af hwr;clear hwr
   go_wp2_with (first
    |(go_at_call 87;go_must (refine HSz.out.mono ?_;rintro e w1 ⟨rfl,hw1⟩;subst w1))
    |(go_at_call 89;go_must (refine HWr.out.mono ?_;rintro e w2 ⟨rfl,S2,hD2,hs2⟩)))
   have HD2:=af hD2;have HS2:=af (HS.out.trans hs2);clear hD2 hs2
   go_roundw
   case rel=>
    refine⟨k+1,S2,by have:=HJ.out;omega,by have:=HJ.out;go_num,af ?_,HS2⟩
    rw[Dk.wF,HJ.out]
    exact HD2.out
   case measure=>simp[intOf];omega
  ·obtain rfl:j=σ.n:=by omega
   have hkk:k=σ.n - n:=by have:=HJ.out;omega
   rw[hkk] at HD
   have HM:=af (RY d _ S1 0 n wr HD.out (Dk.sD _ n σ HF.out) h1 (by rw[Dk.wG];omega) (by rw[Dk.tV];omega))
   have hmk:∀w:World,(Instr.makeMap 197 none).run Tryz.prog w= .ok (.map (some w.heap.size)) (w.alloc (.map #[] 0)):=fun w=>run_makeMap _ w
   have e1:IntKind.i64.wrap ((n:Int) - 1)=((n - 1:Nat):Int):=by rw[aS _ (by omega)];omega
   go_wp2_with (first
    |(go_at_call 87;go_must (refine HSz.out.mono ?_;rintro e w1 ⟨rfl,hw1⟩;subst w1))
    |(go_at_call 90;go_must (refine HM.out.mono ?_;rintro e w2 ⟨lg,Sd2,Sl2,rfl,hA2,hs2⟩;refine Stop.of ?_)))
   refine Stop.on ?_
   have HA2:=af hA2;have HS2:=af (HS.out.trans hs2);clear hA2 hs2
   go_wp2_with fail
   go_ret2
   have hb:=Gl n HA2.out rfl rfl (by show n<(((Dk.qQ (σ.n - n) n σ).flush.put 0 (Lg.new 0 n).dZ).flush).n;have:(((Dk.qQ (σ.n - n) n σ).flush.put 0 (Lg.new 0 n).dZ).flush).n=(Dk.qQ (σ.n - n) n σ).n:=rfl;rw[this,Dk.wG];exact h2) h1
   exact⟨_,_,rfl,hb.1,HS2.out.trans hb.2⟩
theorem DV (a c m t:Nat)(k:Nat)(hm:m=2^k)(ha:a<m)(ht:t=a+m*c)(hlt:t<9223372036854775808):bits .or .i64 (a:Int) ((m*c:Nat):Int)=(t:Int):=by
 unfold bits
 have hb:m*c<18446744073709551616:=by omega
 have e4:(BitVec.ofInt 64 (a:Int)|||BitVec.ofInt 64 ((m*c:Nat):Int)).toNat=t:=by
  rw[nP,nP,BitVec.toNat_or,ko,ko,lS (by omega),lS (by omega),Nat.or_comm]
  have:=wC (i:=k) (b:=a) (by omega) c
  rw[hm,<-this,ht,hm]
  omega
 show IntKind.i64.wrap (((BitVec.ofInt 64 (a:Int)|||BitVec.ofInt 64 ((m*c:Nat):Int)).toNat:Nat):Int)=t
 rw[e4,bJ]
 omega
theorem vD (l:List UInt8)(i:Nat)(b:UInt8)(h:l[i]? =some b)(W:World):(Instr.index 9 (.string (strOf l)) (.int .i64 (i:Int))).run Tryz.prog W= .ok (.int .u8 (b.toNat:Int)) W:=by
 obtain⟨hi,hb⟩:=bg.1 h
 have hs:(strOf l).size=l.length:=by show l.toArray.size=_;simp
 rw[run_index_string W 9 (strOf l) .i64 (i:Int) bf,dif_pos ⟨by omega,by rw[hs];omega⟩]
 have:(strOf l)[(i:Int).toNat]'(by rw[hs];omega)=b:=by
  show l.toArray[(i:Int).toNat]'(by simpa using hi)=b
  simp[hb]
 rw[this]
theorem Gz (rs:List (Nat×Nat))(k:Nat)(h:k<rs.length):(rs.flatMap zI)[3*k]? =some (UInt8.ofNat rs[k].1)/\(rs.flatMap zI)[3*k+1]? =some (UInt8.ofNat (rs[k].1/256))/\(rs.flatMap zI)[3*k+2]? =some (UInt8.ofNat rs[k].2):=by
 induction rs generalizing k with
 |nil=>simp at h
 |cons r rs ih=>
  cases k with
  |zero=>exact⟨rfl,rfl,rfl⟩
  |succ k=>
   have:=ih k (by simpa using h)
   rw[show 3*(k+1)=3*k+1+1+1 by omega,show 3*k+1+1+1+1=(3*k+1)+1+1+1 by omega,show 3*k+1+1+1+2=(3*k+2)+1+1+1 by omega]
   exact this
theorem Cr (size:Nat)(rs:List (Nat×Nat))(rest:List UInt8)(k j:Nat)(u:UInt8)(hj:(rs.flatMap zI)[j]? =some u)(hk:k=4+j):(aB (encR size rs++rest))[k]? =some (.int .u8 (u.toNat:Int)):=by
 subst hk
 have hl:=(bg.1 hj).1
 unfold aB encR
 rw[dH,bC,bA (by simp),aU,aU,aU,aU,ja,iN,dz,fw hl,hj]
 rfl
theorem Bh (size:Nat)(rs:List (Nat×Nat))(rest:List UInt8):(aB (encR size rs++rest))[0]? =some (.int .u8 177)/\(aB (encR size rs++rest))[1]? =some (.int .u8 ((UInt8.ofNat size).toNat:Int))/\(aB (encR size rs++rest))[2]? =some (.int .u8 ((UInt8.ofNat (size/256)).toNat:Int))/\(aB (encR size rs++rest))[3]? =some (.int .u8 ((UInt8.ofNat rs.length).toNat:Int)):=⟨rfl,rfl,rfl,rfl⟩
def chunk (t:List UInt8)(i:Nat):List UInt8:=(t.drop (512*i)).take 512
def DZ (n:Nat):Nat:=(n+511)/512
structure r9 (σ:bR)(head:Nat)(size:Nat)(rs:List (Nat×Nat)):Prop where
 lo:2<=head
 has:σ.hasB head=true
 mem:∃rest,σ.mem head=encR size rs++rest
 ok:CJ rs
 len:(eD rs).length=DZ size
 s1:1<=size
 s2:size<=49152
theorem r9.runs {σ:bR}{head size:Nat}{rs:List (Nat×Nat)}(h:r9 σ head size rs):rs.length<=96/\(eD rs).length<=96:=by
 have h1:=h.ok.le
 have h2:=h.len
 have h3:=h.s2
 unfold DZ at h2
 omega
theorem PU (mp:VS)(σ:bR)(S:Nat->Prop)(w:World)(head size:Nat)(rs:List (Nat×Nat))(h:Inv σ S mp w)(hh:r9 σ head size rs):
  Calls Tryz.prog 143 #[.iface 178 mp.agg,.int .i64 head] w fun e w'=>∃lb v,e= .returned (.tuple #[.pointer (some ⟨lb,0,none⟩),.int .i64 0])/\qC w' S w.heap.size lb size rs v/\Below w.heap.size w w':=by
 have hsub:=h.sub
 have hrd:=y9 mp σ S w head h hh.has
 obtain⟨rest,hmem⟩:=hh.mem
 rw[hmem] at hrd
 have hl5:(encR size rs++rest).length=512:=by
  obtain⟨n,hn,hn2,_⟩:=bR.kJ hh.has
  rw[<-hmem,hn]
  exact h.ok.len n hn2
 have HRd:=af hrd;clear hrd
 have hlo:=hh.lo
 have hs1:=hh.s1
 have hs2:=hh.s2
 obtain⟨hrl,hbl⟩:=hh.runs
 have HH:=af hh
 obtain⟨b0,b1,b2,b3⟩:=Bh size rs rest
 have HB:=af (ak b0 (ak b1 (ak b2 b3)))
 have x1:¬(head:Int)<0:=by omega
 have x2:((head:Int)==0)=false:=by simp;omega
 have x3:¬(head:Int)=0:=by omega
 clear hh hmem b0 b1 b2 b3
 have hm:∀w,(method 841 178 mp.agg "Read").run Tryz.prog w= .ok (136,.pointer (some ⟨mp.tx,0,none⟩)) w:=fun _=>by kernel_rfl
 go_enter Tryz.func143,Tryz.ntmps143
 go_wp2_with (refine HRd.out.mono ?_;rintro e w1 ⟨v,rfl,hv,hvb,hb1⟩;refine Stop.of ?_)
 refine Stop.on ?_
 have hv':=hv
 obtain⟨ao,cp,rfl,n0,m0,_,_⟩:=aW.form hv'
 obtain⟨b0,b1,b2,b3⟩:=HB.out
 obtain⟨vb,vo,rfl,d0⟩:=aW.Bz hv rfl 0 _ b0
 obtain⟨_,_,e,d1⟩:=aW.Bz hv rfl 1 _ b1
 cases e
 obtain⟨_,_,e,d2⟩:=aW.Bz hv rfl 2 _ b2
 cases e
 obtain⟨_,_,e,d3⟩:=aW.Bz hv rfl 3 _ b3
 cases e
 have u3:((UInt8.ofNat rs.length).toNat:Int)=(rs.length:Int):=by rw[dD];omega
 obtain⟨lo,hlo0⟩:∃lo:Nat,lo=size%256:=⟨_,rfl⟩
 obtain⟨hi,hhi0⟩:∃hi:Nat,hi=size/256:=⟨_,rfl⟩
 have u1:((UInt8.ofNat size).toNat:Int)=(lo:Int):=by rw[dD,hlo0]
 have u2:((UInt8.ofNat (size/256)).toNat:Int)=(hi:Int):=by rw[dD,hhi0];omega
 rw[u1] at d1;rw[u2] at d2;rw[u3] at d3
 have hvl:vb<w1.heap.size:=aD w1 _ d0
 have hvw:w.heap.size<=vb:=hvb vb rfl
 have HV:=af hv
 have hlo1:lo<256:=by omega
 have hhi1:hi<256:=by omega
 have hsz0:size=lo+256*hi:=by omega
 rw[jw] at d0
 clear b0 b1 b2 b3 u1 u2 u3 hlo0 hhi0 hv hv' hvb hm
 have y1:(lo:Int)<256:=by omega
 have y2:(rs.length:Int)*3+4<=512:=by omega
 obtain⟨w2,HW2⟩:∃w2:World,Hid (w1.alloc (.cells #[.int .i64 0,.slice none 0 0] 372)=w2):=⟨_,af rfl⟩
 have hb2:Below w1.heap.size w1 w2:=by rw[<-HW2.out];exact aC w1 _
 have hL2:w2.heap[w1.heap.size]? =some (.cells #[.int .i64 0,.slice none 0 0] 372 (0,0)):=by rw[<-HW2.out];exact aF w1 _
 have D0:=(hb2.cell (p:=⟨vb,vo,none⟩) hvl).trans d0
 have D1:=(hb2.cell (p:=⟨vb,vo+1,none⟩) hvl).trans d1
 have D2:=(hb2.cell (p:=⟨vb,vo+2,none⟩) hvl).trans d2
 have D3:=(hb2.cell (p:=⟨vb,vo+3,none⟩) hvl).trans d3
 have hvl2:=ax hvl hb2.size
 have HD:=af (ak D0 (ak D1 (ak D2 (ak D3 hvl2))))
 clear d0 d1 d2 d3 D0 D1 D2 D3
 go_upto_region 11 with (fail)
 rw[HW2.out]
 obtain⟨D0,D1,D2,D3,hvl2⟩:=HD.out
 go_wp2_with fail
 obtain⟨lb,HLB⟩:∃lb,Hid (w1.heap.size=lb):=⟨_,af rfl⟩
 have hlbw:w.heap.size<=lb:=by rw[<-HLB.out];exact hb1.size
 rw[HLB.out] at hL2 ⊢
 have hlb2:lb<w2.heap.size:=(ah.1 hL2).1
 have hlf:w2.drew.frozen? ⟨lb,0,none⟩=false:=by show w2.frozen? _=false;simp[World.frozen?,hL2]
 have hlc:w2.drew.cell? ⟨lb,0,none⟩=some (.int .i64 0):=by show w2.cell? _=_;simp[World.cell?,hL2]
 have hlbd:lb<w2.drew.heap.size:=hlb2
 have HOR:=af (Gr lo hi size hlo1 hhi1 hsz0)
 have HSZ:=af hsz0
 have HLN:=af hl5
 clear hsz0 y1 hl5
 refine aK (fun W=>W=w2.drew) (fun i=> !([13].contains i)) [0,1,2,3,4,5,6,7,8,9,10,11,12,13] rfl (by kernel_rfl) rfl ?_
 repeat ((refine bq (v:= ?_) rfl rfl (fun _ _ _ h=>h) rfl (fun W hW=> ?_) ?_);rotate_left;(focus ((try dsimp only at hW);subst hW;have r1:w2.drew.cell? ⟨vb,vo+1,none⟩=some (.int .u8 lo):=D1;have r2:w2.drew.cell? ⟨vb,vo+2,none⟩=some (.int .u8 hi):=D2;have r3:vb<w2.drew.heap.size:=hvl2;(go_simp;first|done|with_reducible rfl)));(try simp only[Act.put,aj,av,au]))
 rw[HOR.out]
 refine jm rfl rfl rfl (by kernel_rfl) ?_;intro K hK;go_simp
 refine hK.out _ _ ?_
 refine bF ?_
 have hk3:Keep (· =lb) w2 (w2.setCell ⟨lb,0,none⟩ (.int .i64 size)).drew:=((Keep.refl (· =lb) w2).setCell (p:=⟨lb,0,none⟩) (.inr rfl) _).drew
 have hL3:(w2.setCell ⟨lb,0,none⟩ (.int .i64 size)).drew.heap[lb]? =some (.cells #[.int .i64 size,.slice none 0 0] 372 (0,0)):=by
  show (w2.setCell ⟨lb,0,none⟩ (.int .i64 size)).heap[lb]? =_
  simp[World.setCell,aJ,hL2]
 generalize (w2.setCell ⟨lb,0,none⟩ (.int .i64 size)).drew=w3 at hk3 hL3 ⊢
 have hsl:¬S lb:=fun x=>absurd (hsub lb x) (aV.2 hlbw)
 have hA3:qC w3 S lb lb size (rs.take 0) (.slice none 0 0):=⟨hL3,by rw[gN];exact aQ.nil _ _ _ _ _,aA _,hsl⟩
 have hb3:Below lb w1 w3:=by
  have:=hb2
  rw[HLB.out] at this
  exact this.trans (hk3.dY (by omega) (fun i hi e=>by omega))
 have hvb1:vb<lb:=by rw[<-HLB.out];exact hvl
 have HCELL:=af (fun (W:World) (hW:Below lb w1 W) (j:Nat) (u:Value) (hu:(aB (encR size rs++rest))[j]? =some u)=>(show W.cell? ⟨vb,vo+j,none⟩=some u from by
  obtain⟨_,_,e,dj⟩:=aW.Bz HV.out rfl j _ hu
  cases e
  exact(Np (w:=w1) (a:=⟨vb,vo+j,none⟩) (hW.block vb hvb1)).trans dj))
 have hw1l:w1.heap.size=lb:=HLB.out
 have D3':=HCELL.out w3 hb3 3 _ (Bh size rs rest).2.2.2
 have hvl3:vb<w3.heap.size:=ax hvl (by rw[hw1l];exact iP (ah.1 hL3).1)
 have u3:((UInt8.ofNat rs.length).toNat:Int)=(rs.length:Int):=by rw[dD];omega
 rw[u3] at D3'
 clear D0 D1 D2 D3 hvl2 hlf hlc hlbd hlb2 hk3 hL3 hL2 u3 y2
 go_wp2_with fail
 go_loopw [9,10,70] (fun _ _ i wr=>∃(k:Nat) (v:Value),k<=rs.length/\i= .int .i64 k/\qC wr S lb lb size (rs.take k) v/\Below lb w1 wr) (fun _ _ i _=>rs.length - (intOf i).toNat)
 case atStart=>exact⟨0,_,by omega,rfl,hA3,hb3⟩
 case round=>
  obtain⟨k,v,hk,rfl,hA,hb⟩:=hrel
  have hkt:(rs.take k).length=k:=by rw[aL];omega
  obtain⟨hobj,hown⟩:=ak hA.obj hA.own
  rw[hkt] at hown
  obtain⟨vo2,vc2,rfl,_,_,_,_⟩:=aW.form hown.dL
  have hlbr:lb<wr.heap.size:=(ah.1 hobj).1
  have hvr:vb<wr.heap.size:=Nat.lt_trans hvb1 hlbr
  have HA:=af hA;clear hA hkt
  by_cases hkl:k<rs.length
  ·have x1:(k:Int)<(rs.length:Int):=by omega
   have z1:¬cp=4+3*k:=by omega
   have z2:((4:Int)+3*(k:Int))<=512:=by omega
   have z3:((4:Int)+3*(k:Int))<=(cp:Int):=by omega
   have z4:((4:Int)+3*(k:Int)).toNat=4+3*k:=by omega
   clear D3'
   go_upto_region 18 with (fail)
   obtain⟨f,hf⟩:∃f,f=rs[k].1:=⟨_,rfl⟩
   obtain⟨n,hn⟩:∃n,n=rs[k].2:=⟨_,rfl⟩
   have hrk:=HH.out.ok rs[k] (bI hkl)
   rw[<-hf,<-hn] at hrk
   obtain⟨j0,j1,j2⟩:=Gz rs k hkl
   obtain⟨a1,ha1⟩:∃a:Nat,a=f%256:=⟨_,rfl⟩
   obtain⟨a2,ha2⟩:∃a:Nat,a=f/256:=⟨_,rfl⟩
   have v1:((UInt8.ofNat rs[k].1).toNat:Int)=(a1:Int):=by rw[dD,<-hf,ha1]
   have v2:((UInt8.ofNat (rs[k].1/256)).toNat:Int)=(a2:Int):=by rw[dD,<-hf,ha2];omega
   have v3:((UInt8.ofNat rs[k].2).toNat:Int)=(n:Int):=by rw[dD,<-hn];omega
   have HR:=af (show ∀W,Below lb w1 W->W.cell? ⟨vb,vo+(4+3*k),none⟩=some (.int .u8 a1)/\W.cell? ⟨vb,vo+(4+3*k)+1,none⟩=some (.int .u8 a2)/\W.cell? ⟨vb,vo+(4+3*k)+2,none⟩=some (.int .u8 n) from fun W hW=>by
    have e0:=HCELL.out W hW (4+3*k) _ (Cr size rs rest _ _ _ j0 rfl)
    have e1:=HCELL.out W hW (4+3*k+1) _ (Cr size rs rest _ _ _ j1 (by omega))
    have e2:=HCELL.out W hW (4+3*k+2) _ (Cr size rs rest _ _ _ j2 (by omega))
    rw[v1] at e0;rw[v2] at e1;rw[v3] at e2
    exact⟨e0,by rw[kV];exact e1,by rw[kV];exact e2⟩)
   have HF:=af (Gr a1 a2 f (by omega) (by omega) (by omega))
   have q9:IntKind.i64.wrap (n:Int)=(n:Int):=aS _ (by omega)
   have HRUN:=af (show kD (rs.take (k+1))=kD (rs.take k)++[.int .i64 f,.int .i64 n] by
    rw[aM hkl,xZ,hf,hn];rfl)
   have hcl1:wr.cell? ⟨lb,1,none⟩=some (.slice vo2 k vc2):=by simp[World.cell?,hobj]
   have hz5:0<512 - (4+3*k):=by omega
   have hz9:1<512 - (4+3*k):=by omega
   have hz10:2<512 - (4+3*k):=by omega
   have hz6:(0:Int)<((512 - (4+3*k):Nat):Int):=by omega
   have hz7:(1:Int)<((512 - (4+3*k):Nat):Int):=by omega
   have hz8:(2:Int)<((512 - (4+3*k):Nat):Int):=by omega
   clear hf hn v1 v2 v3 j0 j1 j2 ha1 ha2 z1 z2 z3 z4
   generalize 512 - (4+3*k)=M at*
   generalize cp - (4+3*k)=M2 at*
   refine aK (fun W=>Below lb w1 W/\W.cell? ⟨lb,1,none⟩=some (.slice vo2 k vc2)/\lb<W.heap.size/\vb<W.heap.size) (fun i=> !([20,21,24].contains i)) [0,1,2,3,4,5,6,7,8,9,10,11,12,13,14,15,16,17,18,19,20,21,22,23,24] rfl (by kernel_rfl) ⟨hb.drew,hcl1,hlbr,hvr⟩ ?_
   repeat ((refine bq (v:= ?_) rfl rfl (fun _ _ _ h=>h) rfl (fun W hW=> ?_) ?_);rotate_left;(focus ((try dsimp only at hW);obtain⟨r0,r1,r2,r3⟩:=hW;obtain⟨r4,r5,r6⟩:=HR.out W r0;clear r0;(go_simp;first|done|with_reducible rfl)));(try simp only[Act.put,aj,av,au]))
   rw[HF.out]
   have hsubr:∀g,S g->g<wr.heap.size:=fun g hg=>ax (hsub g hg) (aG hlbw (iP hlbr))
   have hbA':Below lb wr (wr.alloc (.cells #[.int .i64 f,.int .i64 n] 374)).drew:=((aC wr _).mono (iP hlbr)).drew
   have hobA:(wr.alloc (.cells #[.int .i64 f,.int .i64 n] 374)).drew.heap[lb]? =_:=((aC wr (.cells #[.int .i64 f,.int .i64 n] 374)).block lb hlbr).trans hobj
   have hownA:=(hown.below (aC wr (.cells #[.int .i64 f,.int .i64 n] 374))).drew
   have hsrcA:=(yx (w:=wr) (S:=S) (B:=lb) (e:=374) (k:=2) [.int .i64 f,.int .i64 n] 1 1 rfl rfl (aA _) (by simp[maxLen]) (iP hlbr) hsubr).drew.dL.src (P:=Tryz.prog) Tryz.underlying370 (by intro u hu;simp at hu;rcases hu with rfl|rfl<;>rfl)
   have hSA:∀g,S g->g<(wr.alloc (.cells #[.int .i64 f,.int .i64 n] 374)).drew.heap.size:=fun g hg=>ax (hsubr g hg) (aC wr (.cells #[.int .i64 f,.int .i64 n] 374)).size
   have hcA:(wr.alloc (.cells #[.int .i64 f,.int .i64 n] 374)).drew.cell? ⟨lb,1,none⟩=some (.slice vo2 k vc2):=by have:=hobA;simp only[World.cell?,this];rfl
   refine bP rfl rfl rfl ?_;intro K hK;go_simp
   refine hK.out _ _ ⟨hb.trans hbA',hcA,(ah.1 hobA).1,ax hvr hbA'.size⟩ ?_
   refine bP rfl rfl rfl ?_;intro K hK
   refine qP (.tmp 82) (.tmp 98) 370 370 rfl S lb 374 2 16 _ Tryz.underlying370 Mk rfl (.slice vo2 k vc2) k _ rfl hownA _ 1 _ rfl hsrcA hSA (aG (iP hlbr) hbA'.size) (by unfold maxLen;omega) (by omega) ?_
   intro ao3 c3 w4 hown4 hk4 hb4 hd4
   have hob4:w4.heap[lb]? =_:=(hk4.block lb (ah.1 hobA).1 (hownA.ne hobA (by decide))).trans hobA
   have hPUT:=Oq (rs':=rs.take (k+1)) hobA hownA (aA _) hsl hk4 hb4 (by rw[HRUN.out,aL,show min (k+1) rs.length=k+1 by omega];exact hown4)
   have HPUT:=af hPUT;clear hPUT
   refine hK.out _ _ ⟨(hb.trans hbA').trans hb4,by simp[World.cell?,hob4],(ah.1 hob4).1,ax (ax hvr hbA'.size) hb4.size⟩ ?_
   (try simp only[Act.put,aj,av,au])
   repeat ((refine bq (v:= ?_) rfl rfl (fun _ _ _ h=>h) rfl (fun W hW=> ?_) ?_);rotate_left;(focus ((try dsimp only at hW);obtain⟨r0,r1,r2,r3⟩:=hW;clear r0;(go_simp;first|done|with_reducible rfl)));(try simp only[Act.put,aj,av,au]))
   have g4:w4.cell? ⟨lb,1,none⟩=some (.slice vo2 k vc2):=by simp[World.cell?,hob4]
   have gf4:w4.frozen? ⟨lb,1,none⟩=false:=by simp[World.frozen?,hob4]
   have gl4:=(ah.1 hob4).1
   refine jm rfl rfl rfl (by kernel_rfl) ?_;intro K hK;go_simp
   refine hK.out _ _ ?_
   refine bF ?_
   clear hz5 hz6 hz7 hz8 hz9 hz10 q9
   go_wp2_with fail
   go_roundw
   case rel=>exact⟨k+1,_,by omega,by go_num,HPUT.out.1,(hb.trans hbA').trans HPUT.out.2⟩
   case measure=>simp[intOf];omega
  ·obtain rfl:k=rs.length:=by omega
   have hAr:=HA.out
   rw[bW] at hAr
   have hlen:=HH.out.len
   have hsubr:∀g,S g->g<wr.heap.size:=fun g hg=>ax (hsub g hg) (aG hlbw (iP hlbr))
   have HBK:=af (CB lb size rs _ lb S wr.drew (show qC wr.drew S lb lb size rs (.slice vo2 rs.length vc2) from⟨hAr.obj,hAr.own.drew,hAr.lo,hAr.ns⟩) hsubr HH.out.ok (by omega))
   obtain⟨s5,hs5⟩:∃s:Nat,s=size+512:=⟨_,rfl⟩
   obtain⟨s6,hs6⟩:∃s:Nat,s=size+511:=⟨_,rfl⟩
   obtain⟨nb,hnb⟩:∃s:Nat,s=DZ size:=⟨_,rfl⟩
   have q1:IntKind.i64.wrap ((size:Int)+512)=(s5:Int):=by rw[aS _ (by omega)];omega
   have q2:IntKind.i64.wrap ((s5:Int) - 1)=(s6:Int):=by rw[aS _ (by omega)];omega
   have q3:IntKind.i64.wrap ((s6:Int)/512)=(nb:Int):=by
    have e:(s6:Int)/512=(nb:Int):=by rw[hnb];unfold DZ;omega
    rw[e];exact aS _ (by unfold DZ at hnb;omega)
   have z0:((size:Int)==0)=false:=by simp;omega
   have z1:¬size=0:=by omega
   rw[<-hnb] at hlen
   have HLEN:=af hlen
   have HCB:=af (show ∀W,Below wr.heap.size wr W->W.cell? ⟨lb,0,none⟩=some (.int .i64 size)/\lb<W.heap.size from fun W hW=>by
    have:=(hW.block lb hlbr).trans hobj
    exact⟨by simp[World.cell?,this],ax hlbr hW.size⟩)
   have HAR:=af hAr
   clear hAr D3' hs5 hs6 hnb hlen hown hkl
   go_upto_region 20 with (fail)
   refine aK (fun W=>Below wr.heap.size wr W) (fun i=> !([7].contains i)) [0,1,2,3,4,5,6,9,10,11,12,13,14,15,7,8,16,17] rfl (by kernel_rfl) ((aH _ wr).drew) ?_
   repeat ((refine bq (v:= ?_) rfl rfl (fun _ _ _ h=>h) rfl (fun W hW=> ?_) ?_);rotate_left;(focus ((try dsimp only at hW);obtain⟨r0,r1⟩:=HCB.out W hW;(go_simp;first|done|with_reducible rfl)));(try simp only[Act.put,aj,av,au]))
   refine bP rfl rfl rfl ?_;intro K hK;go_simp
   refine HBK.out.mono ?_;rintro e w5 ⟨bv,rfl,hown5,hb5⟩
   obtain⟨xo,xc,rfl,_,_,_,_⟩:=aW.form hown5.dL
   refine hK.out _ _ ((aH _ wr).drew.trans hb5) ?_
   (try simp only[Act.put,aj,av,au])
   have z3:=HLEN.out
   repeat ((refine bq (v:= ?_) rfl rfl (fun _ _ _ h=>h) rfl (fun W hW=> ?_) ?_);rotate_left;(focus ((try dsimp only at hW);obtain⟨r0,r1⟩:=HCB.out W hW;(try rw[z3]);(go_simp;first|done|with_reducible rfl)));(try simp only[Act.put,aj,av,au]))
   refine bF ?_
   go_wp2_with fail
   go_ret2
   have hb05:Below wr.heap.size wr w5:=(aH _ wr).drew.trans hb5
   have hbA5:Below lb w1 w5:=hb.trans (hb05.mono (iP hlbr))
   have hA5:=HAR.out.below hb05
   refine⟨lb,_,rfl,⟨hA5.obj,hA5.own.base hlbw,hlbw,hsl⟩,?_⟩
   exact hb1.trans (hbA5.mono hlbw)
def kX (head:Nat)(rs:List (Nat×Nat)):List Int:=(eD rs++[head]).map fun (b:Nat)=>(b:Int)
theorem O5 (mp:VS)(σ:bR)(S:Nat->Prop)(w:World)(head size:Nat)(rs:List (Nat×Nat))(h:Inv σ S mp w)(hh:r9 σ head size rs):
  Calls Tryz.prog 84 #[.iface 178 mp.agg,.int .i64 head] w fun e w'=>∃v,e= .returned (.tuple #[v,.int .i64 0])/\aQ w' S w.heap.size 3 1 v (uI (kX head rs)).length ((uI (kX head rs)).map (.int .i64))/\Below w.heap.size w w':=by
 have hsub:=h.sub
 have hlo:=hh.lo
 obtain⟨hrl,hbl⟩:=hh.runs
 have HL:=af (PU mp σ S w head size rs h hh)
 have x2:((head:Int)==0)=false:=by simp;omega
 have x3:¬head=0:=by omega
 have HOK:=af hh.ok
 have HE:=af (show ints (eD rs)++[.int .i64 (head:Int)]=(kX head rs).map (.int .i64) by simp[ints,kX])
 have HLN:=af (show (kX head rs).length=(eD rs).length+1 by simp[kX])
 clear h hh
 go_enter Tryz.func84,Tryz.ntmps84
 go_wp2_with (first
  |(go_at_call 143;go_must (refine HL.out.mono ?_;rintro e w1 ⟨lb,v,rfl,hA,hb1⟩;refine Stop.of ?_)))
 refine Stop.on ?_
 have hS1:∀g,S g->g<w1.heap.size:=fun g hg=>ax (hsub g hg) hb1.size
 have HBK:=af (CB lb size rs v w.heap.size S w1 hA hS1 HOK.out (by omega))
 go_wp2_with (first
  |(go_at_call 144;go_must (refine HBK.out.mono ?_;rintro e w2 ⟨bv,rfl,hown2,hb2⟩;refine Stop.of ?_)))
 refine Stop.on ?_
 obtain⟨xo,xc,rfl,_,_,_,_⟩:=aW.form hown2.dL
 have hS2:∀g,S g->g<w2.heap.size:=fun g hg=>ax (hS1 g hg) hb2.size
 have hown2':=hown2.base (B:=w.heap.size) hb1.size
 have hbg:w.heap.size<=w2.heap.size:=aG hb1.size hb2.size
 go_wp2_with (first
  |(at_builtin;go_must ((refine dS rfl (.tmp 23) (.tmp 25) 39 39 rfl S w.heap.size 3 1 8 _ kr zy rfl (.slice xo (eD rs).length xc) _ _ rfl (hown2'.below (aC _ _)) _ 1 _ rfl (iq [.int .i64 (head:Int)] _ 1 1 1 (by simp) kr rfl ?_) (jS hS2 _) ?_ ?_ ?_ ?_);(focus (simp[Value.oneCell']));(focus (simp only[aZ];omega));(focus (unfold maxLen;omega));(focus omega);intro ao3 c3 w3 hown3 hk3 hb3 hd3;refine Stop.of ?_)))
 refine Stop.on ?_
 rw[HE.out] at hown3
 have hown3':aQ w3 S w.heap.size 3 1 (.slice ao3 ((eD rs).length+1) c3) (kX head rs).length ((kX head rs).map (.int .i64)):=by rw[HLN.out];exact hown3
 have hbA:Below w.heap.size w w3:=((hb1.trans (hb2.mono hb1.size)).trans (aC w2 _|>.mono hbg)).trans hb3
 have HSO:=af (Lc (.slice ao3 ((eD rs).length+1) c3) (kX head rs) w3 S w.heap.size hown3' (by rw[HLN.out];omega) hbA.size)
 go_wp2_with (first
  |(go_at_call 85;go_must (refine HSO.out.mono ?_;rintro e w4 ⟨rfl,ho4,hb4⟩;refine Stop.of ?_)))
 refine Stop.on ?_
 go_wp2_with fail
 go_ret2
 exact⟨_,rfl,ho4,hbA.trans hb4⟩
def bR.frees (σ:bR)(l:List Int):bR:=l.foldl bR.gone σ
theorem Gy (σ:bR)(l:List Int)(k:Nat)(h:k<l.length):σ.frees (l.take (k+1))=(σ.frees (l.take k)).gone l[k]:=by
 rw[aM h]
 unfold bR.frees
 rw[List.foldl_append];rfl
theorem zD:∀(l:List Int) (σ:bR) (x:Int),(∀y∈l,0<=y)->x∉l->(σ.frees l).hasB x=σ.hasB x
 |[],_,_,_,_=>rfl
 |y::l,σ,x,h,hx=>by
  have:=zD l (σ.gone y) x (fun z hz=>h z (aT _ hz)) (fun e=>hx (aT _ e))
  show ((σ.gone y).frees l).hasB x=_
  rw[this]
  exact bR.wW (h y (aP ..)) (fun e=>hx (by rw[e];exact aP ..))
theorem Bo:∀(l:List Int) (σ:bR),(∀x∈l,σ.hasB x=true)->l.Nodup->qO σ (σ.frees l) l []
 |[],σ,_,_=>qO.refl (by simp)
 |y::l,σ,h,hn=>by
  obtain⟨n1,n2⟩:=List.nodup_cons.1 hn
  have c1:=Bn (h y (aP ..))
  have c1':=c1.left (rs:=l) hn (fun x hx=>h x (aT _ hx))
  have h2:∀x∈l,(σ.gone y).hasB x=true:=fun x hx=>(c1'.new x hx).1
  exact c1'.trans (Bo l (σ.gone y) h2 n2)
structure oO (σ:bR)(head:Nat)(t:List UInt8)(rs:List (Nat×Nat)):Prop where
 hd:r9 σ head t.length rs
 nd:(kX head rs).Nodup
 blk:∀i (h:i<(eD rs).length),σ.hasB ((eD rs)[i]:Nat)=true/\2<=(eD rs)[i]/\σ.mem ((eD rs)[i]:Nat)=pad (chunk t i)
theorem oO.all {σ:bR}{head:Nat}{t:List UInt8}{rs:List (Nat×Nat)}(h:oO σ head t rs):∀x∈kX head rs,σ.hasB x=true/\2<=x:=by
 intro x hx
 unfold kX at hx
 obtain⟨b,hb,rfl⟩:=gV.1 hx
 rcases dG.1 hb with hb|hb
 ·obtain⟨i,hi,e⟩:=lI hb
  have:=h.blk i hi
  rw[e] at this
  exact⟨this.1,by have:=this.2.1;omega⟩
 ·rw[bO.1 hb]
  exact⟨h.hd.has,by have:=h.hd.lo;omega⟩
theorem Tm (mp:VS)(σ:bR)(S:Nat->Prop)(w:World)(head:Nat)(t:List UInt8)(rs:List (Nat×Nat))(h:Inv σ S mp w)(hh:oO σ head t rs):
  Calls Tryz.prog 537 #[.iface 178 mp.agg,.int .i64 head] w fun e w'=>e= .returned (.int .i64 0)/\Inv (σ.frees (uI (kX head rs))) S mp w'/\Step S S w w':=by
 have hsub:=h.sub
 have HBK:=af (O5 mp σ S w head t.length rs h hh.hd)
 have hall:=hh.all
 obtain⟨L,hL⟩:∃L,L=uI (kX head rs):=⟨_,rfl⟩
 have hnd:L.Nodup:=by rw[hL];exact(vW _ _).nodup_iff.2 hh.nd
 have hall':∀x∈L,σ.hasB x=true/\2<=x:=fun x hx=>hall x ((Dp x).1 (by rw[<-hL];exact hx))
 have hll:L.length<=97:=by
  rw[hL,uH]
  have:=hh.hd.runs.2
  simp[kX];omega
 rw[<-hL] at HBK ⊢
 have HALL:=af hall';have HND:=af hnd
 have HI:=af h
 have hm:∀w,(method 841 178 mp.agg "Free").run Tryz.prog w= .ok (619,.pointer (some ⟨mp.mp,0,none⟩)) w:=fun _=>by kernel_rfl
 clear h hh hall hall' hnd hL
 go_enter Tryz.func537,Tryz.ntmps537
 go_wp2_with (first
  |(go_at_call 84;go_must (refine HBK.out.mono ?_;rintro e w1 ⟨bv,rfl,hown1,hb1⟩;refine Stop.of ?_)))
 refine Stop.on ?_
 obtain⟨xo,xc,rfl,_,_,_,_⟩:=aW.form hown1.dL
 have HOW:=af hown1
 have HB1:=af hb1
 clear hown1 hb1
 go_wp2_with fail
 go_loopw [8,9,18] (fun _ _ i wr=>∃k:Nat,k<=L.length/\i= .int .i64 k/\Inv (σ.frees (L.take k)) S mp wr/\Step S S w1 wr) (fun _ _ i _=>L.length - (intOf i).toNat)
 case atStart=>exact⟨0,by omega,rfl,by rw[gN];exact HI.out.below HB1.out,Step.refl _ _⟩
 case round=>
  obtain⟨k,hk,rfl,hIk,hsk⟩:=hrel
  by_cases hkl:k<L.length
  ·have y1:(k:Int)<(L.length:Int):=by omega
   have HT:=af (Gy σ L k hkl)
   have hx:=HALL.out L[k] (bI hkl)
   have hxn:L[k]∉L.take k:=fun e=>by
    obtain⟨i,hi,e2⟩:=lI e
    rw[aL] at hi
    rw[Qa] at e2
    have:=(List.getElem_inj HND.out).1 e2
    omega
   have hhas:(σ.frees (L.take k)).hasB L[k]=true:=by
    rw[zD _ _ _ (fun y hy=>by have:=(HALL.out y (nN hy)).2;omega) hxn]
    exact hx.1
   have HFR:=af (EC mp (σ.frees (L.take k)) S wr L[k] hIk hx.2 hhas)
   obtain⟨pb,po,rfl,d1⟩:=qD.at (zs:=L) (HOW.out.step hsk).dL rfl k hkl
   have hpb:=aD wr _ d1
   clear hx hxn hhas
   go_wp2_with (refine HFR.out.mono ?_;rintro e w2 ⟨rfl,hI2,hs2⟩)
   go_roundw
   case rel=>exact⟨k+1,by omega,by go_num,by rw[HT.out];exact hI2,hsk.trans hs2⟩
   case measure=>simp[intOf];omega
  ·obtain rfl:k=L.length:=by omega
   rw[bW] at hIk
   have y1:¬(L.length:Int)<(L.length:Int):=by omega
   go_wp2_with fail
   go_ret
   exact⟨rfl,hIk,(Step.of_below HB1.out).trans hsk⟩
end Go.Proofs.YtpmbddooibgnaaaGreatDoor
namespace Go.Proofs.YtpmbddooibgnaaaGreatDoor
open Go.RowKit Go.Shelf
def xu:Go.Shelf.Ren:=⟨fun x=>match x with|240=>121|276=>195|169=>67|n=>n,fun x=>match x with|0=>0|3=>3|4=>4|5=>5|9=>9|20=>20|37=>154|70=>153|72=>156|127=>235|164=>333|n=>n,fun n=>n⟩
theorem xk:Lays.n240 Tryz.prog xu where
 mixed:=by kernel_rfl
 f240:=Tryz.func121.trans (congrArg some (by kernel_rfl))
 f276:=Tryz.func195.trans (congrArg some (by kernel_rfl))
 t0:=fC
 a0:=jX
 z0:=jr
 v0:=fP
 t4:=dV
 a4:=jB
 z4:=iM
 v4:=fB
 t9:=bf
 a9:=je
 z9:=gU
 v9:=eG
 t20:=wz
 a20:=PZ
 z20:=Kw
 v20:=yF
 t70:=tN
 a70:=Tryz.isAgg153
 z70:=Tryz.sizeOf153
 v70:=Tryz.zeroValue153
 t72:=Tryz.underlying156
 a72:=Tryz.isAgg156
 z72:=Tryz.sizeOf156
 v72:=Tryz.zeroValue156
 t164:=nX
 a164:=Tryz.isAgg333
 z164:=Tryz.sizeOf333
 v164:=Tryz.zeroValue333
theorem yT:Lays.n169 Tryz.prog xu where
 mixed:=by kernel_rfl
 f169:=Tryz.func67.trans (congrArg some (by kernel_rfl))
 t0:=fC
 a0:=jX
 z0:=jr
 v0:=fP
 t3:=bS
 a3:=iH
 z3:=gD
 v3:=dW
 t9:=bf
 a9:=je
 z9:=gU
 v9:=eG
 t37:=aO
 a37:=KA
 z37:=Fy
 v37:=wh
 t70:=tN
 a70:=Tryz.isAgg153
 z70:=Tryz.sizeOf153
 v70:=Tryz.zeroValue153
 t72:=Tryz.underlying156
 a72:=Tryz.isAgg156
 z72:=Tryz.sizeOf156
 v72:=Tryz.zeroValue156
 t127:=Tryz.underlying235
 a127:=Tryz.isAgg235
 z127:=Tryz.sizeOf235
 v127:=Tryz.zeroValue235
theorem p8:Builder.Extra Tryz.prog xu where
 sizeBuilder:=by kernel_rfl
 liesBuilder:=by kernel_rfl
 t5:=dx
 a5:=jW
 z5:=jq
 v5:=fO
 infoByte:=by kernel_rfl
 cellsByte:=by kernel_rfl
 sizeByte:=by kernel_rfl
 neB5:=by decide
end Go.Proofs.YtpmbddooibgnaaaGreatDoor
namespace Go.Proofs.YtpmbddooibgnaaaGreatDoor
open Go.RowKit
structure qJ (w:World)(S:Nat->Prop)(B b:Nat)(l:List UInt8):Prop where
 ns:¬S b
 at_:∃p v,(p= .pointer none\/p= .pointer (some ⟨b,0,none⟩))/\w.heap[b]? =some (.cells #[p,v] 156 (0,0))/\aQ w S B 5 1 v l.length (aB l)
theorem qJ.below {w w':World}{S:Nat->Prop}{B b:Nat}{l:List UInt8}(h:qJ w S B b l)(hb:Below w.heap.size w w'):qJ w' S B b l:=by
 obtain⟨h2,p,v,h3,h4,h5⟩:=h
 exact⟨h2,p,v,h3,(hb.block b (ah.1 h4).1).trans h4,h5.below hb⟩
theorem qJ.lt {w:World}{S:Nat->Prop}{B b:Nat}{l:List UInt8}(h:qJ w S B b l):b<w.heap.size:=by
 obtain⟨_,p,v,_,h4,_⟩:=h
 exact(ah.1 h4).1
theorem xq (B b:Nat)(l:List UInt8)(S:Nat->Prop)(w:World)(h:qJ w S B b l):
  Calls Tryz.prog 121 #[.pointer (some ⟨b,0,none⟩)] w fun e w'=>e= .returned (.tuple #[])/\(∃v,w'.heap[b]? =some (.cells #[.pointer (some ⟨b,0,none⟩),v] 156 (0,0))/\aQ w' S B 5 1 v l.length (aB l))/\Keep (· =b) w w':=by
 obtain⟨h2,p,v,h3,h4,h5⟩:=h
 rcases h3 with rfl|rfl
 ·refine(Any.Builder_copyCheck_fresh xk p8.toX72 b w (by simp[World.cell?,h4]) (by simp[World.shape?,h4];rfl) (by simp[World.frozen?,h4])).mono ?_
  rintro e w' ⟨rfl,rfl⟩
  have hk:Keep (· =b) w (w.setCell ⟨b,0,none⟩ (.pointer (some ⟨b,0,none⟩))):=(Keep.refl (· =b) _).setCell (p:=⟨b,0,none⟩) (.inr rfl) _
  refine⟨rfl,⟨v,by simp[World.setCell,aJ,h4],h5.keep fun g hg hl hs=>⟨hk.block g hl (fun e=>h5.ne h4 (by decide) (by rw[hg,e])),hs⟩⟩,hk⟩
 ·refine(Any.Builder_copyCheck_used xk p8.toX72 b w (by simp[World.cell?,h4])).mono ?_
  rintro e w' ⟨rfl,rfl⟩
  exact⟨rfl,⟨v,h4,h5⟩,Keep.refl _ _⟩
theorem Kj (B b:Nat)(l x:List UInt8)(xv:Value)(S:Nat->Prop)(w:World)(h:qJ w S B b l)(hB:B<=w.heap.size)(hS:∀g,S g->g<w.heap.size)(hx:aW w d9 1 xv x.length (aB x))(hxb:∀g,xv.ownBlock=some g->g≠b)(hl:l.length<=1000000)(hxl:x.length<=1000000):
  Calls Tryz.prog 557 #[.pointer (some ⟨b,0,none⟩),xv] w fun e w'=>e= .returned (.tuple #[.int .i64 x.length,.nilIface])/\qJ w' S B b (l++x)/\Keep (fun g=>g=b\/B<=g) w w':=by
 have HC:=af (xq B b l S w h)
 have hns:=h.ns
 obtain⟨xo,xc,rfl,_,_,_,_⟩:=aW.form hx
 have HX:=af hx
 have HLX:=af (show aB l++aB x=aB (l++x) from(eB l x).symm)
 clear h hx
 go_enter Tryz.func557,Tryz.ntmps557
 go_wp2_with (first
  |(go_at_call 121;go_must (refine HC.out.mono ?_;rintro e w1 ⟨rfl,⟨v,hobj,hown⟩,hk1⟩;refine Stop.of ?_)))
 refine Stop.on ?_
 obtain⟨ao,c,rfl,_,_,_,_⟩:=aW.form hown.dL
 have hsrc:=(aW.keep (S':=d9) HX.out (fun g hg hl _=>⟨hk1.block g hl (fun e=>hxb g hg e),id⟩)).src (P:=Tryz.prog) aO (fq x)
 have hc1:w1.cell? ⟨b,1,none⟩=some (.slice ao l.length c):=by simp[World.cell?,hobj]
 have hlt:=(ah.1 hobj).1
 have hS1:∀g,S g->g<w1.heap.size:=fun g hg=>ax (hS g hg) hk1.size
 have hB1:=aG hB hk1.size
 go_wp2_with (first
  |(at_builtin;go_must ((refine dS rfl (.tmp 12) (.tmp 13) 154 154 rfl S B 5 1 1 (.int .u8 0) aO iJ rfl (.slice ao l.length c) _ _ rfl hown (.slice xo x.length xc) _ _ rfl hsrc hS1 ?_ ?_ ?_ ?_);(focus (exact hB1));(focus (unfold maxLen;omega));(focus omega);intro ao3 c3 w3 hown3 hk3 hb3 hd3;refine Stop.of ?_)))
 refine Stop.on ?_
 have hob3:w3.heap[b]? =_:=(hk3.block b hlt (hown.ne hobj (by decide))).trans hobj
 have g1:w3.cell? ⟨b,1,none⟩=some (.slice ao l.length c):=by simp[World.cell?,hob3]
 have gf:w3.frozen? ⟨b,1,none⟩=false:=by simp[World.frozen?,hob3]
 have gl:=(ah.1 hob3).1
 have HO3:=af hown3
 clear hown3
 go_wp2_with fail
 go_ret2
 have hk5:Keep (· =b) w3 (w3.setCell ⟨b,1,none⟩ (.slice ao3 (l.length+x.length) c3)):=(Keep.refl (· =b) _).setCell (p:=⟨b,1,none⟩) (.inr rfl) _
 have ho:=HO3.out
 rw[HLX.out] at ho
 refine⟨rfl,⟨hns,_,_,.inr rfl,by simp[World.setCell,aJ,hob3];rfl,?_⟩,?_⟩
 ·rw[ay]
  exact ho.keep fun g hg hl hs=>⟨hk5.block g hl (fun e=>ho.ne hob3 (by decide) (by rw[hg,e])),hs⟩
 ·exact((hk1.mono (fun _ _ e=> .inl e)).trans (hk3.mono (fun g _ e=> .inr (hown.lo g e))) (fun _ _ e=>e)).trans (hk5.mono (fun _ _ e=> .inl e)) (fun _ _ e=>e)
theorem zQ (B b:Nat)(l:List UInt8)(S:Nat->Prop)(w:World)(h:qJ w S B b l):
  Calls Tryz.prog 67 #[.pointer (some ⟨b,0,none⟩)] w fun e w'=>e= .returned (.string ⟨l.toArray⟩)/\Below (min B b) w w':=by
 have hlt:=h.lt
 obtain⟨h2,p,v,h3,h4,h5⟩:=h
 have hne:=h5.ne h4 (by decide)
 have hcl:(Lib.byteCells l)=aB l:=rfl
 have h5':=h5.base (B:=min B b) (Nat.min_le_left _ _)
 have hA:Lib.BuilderAt 156 5 (min B b) b p (Lib.byteCells l) w:=⟨Nat.min_le_right _ _,v,h4,by rw[hcl,aY];exact h5'.1,hne⟩
 refine(Any.Builder_String_any yT p8 (min B b) b l w ?_ (by omega))
 rcases h3 with rfl|rfl
 ·exact .inl hA
 ·exact .inr hA
end Go.Proofs.YtpmbddooibgnaaaGreatDoor
namespace Go.Proofs.YtpmbddooibgnaaaGreatDoor
open Go.RowKit Go.Shelf
structure pK (w:World)(B b:Nat)(l:List UInt8):Prop where
 lo:B<=b
 at_:∃p v,(p= .pointer none\/p= .pointer (some ⟨b,0,none⟩))/\w.heap[b]? =some (.cells #[p,v] 156 (0,0))/\aQ w d9 B 5 1 v l.length (aB l)
theorem pK.lt {w:World}{B b:Nat}{l:List UInt8}(h:pK w B b l):b<w.heap.size:=by
 obtain⟨_,p,v,_,h4,_⟩:=h
 exact(ah.1 h4).1
theorem pK.Ug {w:World}{B b:Nat}{l:List UInt8}(h:pK w B b l):qJ w d9 B b l:=⟨id,h.at_⟩
theorem pK.below {w w':World}{B b:Nat}{l:List UInt8}(h:pK w B b l)(hb:Below w.heap.size w w'):pK w' B b l:=by
 obtain⟨h2,p,v,h3,h4,h5⟩:=h
 exact⟨h2,p,v,h3,(hb.block b (ah.1 h4).1).trans h4,h5.below hb⟩
theorem pK.new (w:World)(B:Nat)(hB:B<=w.heap.size):pK (w.alloc (.cells #[.pointer none,.slice none 0 0] 156)) B w.heap.size []:=⟨hB,_,_,.inl rfl,aF w _,aQ.nil _ _ _ _ _⟩
theorem Bp (B b:Nat)(l:List UInt8)(w:World)(h:pK w B b l):
  Calls Tryz.prog 67 #[.pointer (some ⟨b,0,none⟩)] w fun e w'=>e= .returned (.string ⟨l.toArray⟩)/\Below B w w':=by
 have hlo:=h.lo
 refine(zQ B b l d9 w h.Ug).mono ?_
 rintro e w' ⟨h1,h2⟩
 rw[dh hlo] at h2
 exact⟨h1,h2⟩
theorem MV {B b n:Nat}{w1 w3:World}{ao:Option Addr}{c:Nat}{v:Value}{l:List UInt8}(hlo:B<=b)(hb:w3.heap[b]? =some (.cells #[.pointer (some ⟨b,0,none⟩),v] 156 (0,0)))(ho:aQ w3 d9 B 5 1 (.slice ao n c) n (aB l))(hn:n=l.length)(hb3:Below B w1 w3):
  pK (w3.setCell ⟨b,1,none⟩ (.slice ao n c)) B b l/\Below B w1 (w3.setCell ⟨b,1,none⟩ (.slice ao n c)):=by
 subst hn
 have hk:Keep (· =b) w3 (w3.setCell ⟨b,1,none⟩ (.slice ao l.length c)):=(Keep.refl (· =b) _).setCell (p:=⟨b,1,none⟩) (.inr rfl) _
 exact⟨⟨hlo,_,_,.inr rfl,by simp[World.setCell,aJ,hb],ho.keep fun g hg hl hs=>⟨hk.block g hl (fun e=>ho.ne hb (by decide) (by rw[hg,e])),hs⟩⟩,hb3.setCell (p:=⟨b,1,none⟩) hlo _⟩
theorem OX (B b:Nat)(l:List UInt8)(c:Int)(w:World)(h:pK w B b l)(hB:B<=w.heap.size)(hl:l.length<=1000000)(hc:0<=c/\c<=255):
  Calls Tryz.prog 248 #[.pointer (some ⟨b,0,none⟩),.int .u8 c] w fun e w'=>e= .returned .nilIface/\pK w' B b (l++[UInt8.ofNat c.toNat])/\Below B w w':=by
 have HC:=af (xq B b l d9 w h.Ug)
 have hlo:=h.lo
 clear h
 go_enter Tryz.func248,Tryz.ntmps248
 go_wp2_with (first
  |(go_at_call 121;go_must (refine HC.out.mono ?_;rintro e w1 ⟨rfl,⟨v,hobj,hown⟩,hk1⟩;refine Stop.of ?_)))
 refine Stop.on ?_
 obtain⟨ao,cc,rfl,_,_,_,_⟩:=aW.form hown.dL
 have hbw1:Below B w w1:=hk1.dY hB (fun g hg e=>by have e:g=b:=e;omega)
 have hB1:=aG hB hk1.size
 have c1:w1.cell? ⟨b,1,none⟩=some (.slice ao l.length cc):=by simp[World.cell?,hobj]
 have lt:=(ah.1 hobj).1
 go_wp2_with (first
  |(at_builtin;go_must ((refine dS rfl (.tmp 11) (.tmp 13) 154 154 rfl d9 B 5 1 1 (.int .u8 0) aO iJ rfl (.slice ao l.length cc) _ _ rfl (hown.below (aC _ _)) _ 1 _ rfl (iq [_] _ 1 1 1 (by simp) aO rfl ?_) (fun _ h=>h.elim) ?_ ?_ ?_ ?_);(focus (simp[Value.oneCell']));(focus (simp only[aZ];omega));(focus (unfold maxLen;omega));(focus omega);intro ao3 c3 w3 hown3 hk3 hb3 hd3;refine Stop.of ?_)))
 refine Stop.on ?_
 have hob3:=(hk3.block b (by simp;omega) (fun e=>by
  have:=hown.ne hobj (by decide)
  exact this e)).trans ((aC w1 _).block b lt|>.trans hobj)
 have d1:w3.cell? ⟨b,1,none⟩=some (.slice ao l.length cc):=by simp[World.cell?,hob3]
 have df:w3.frozen? ⟨b,1,none⟩=false:=by simp[World.frozen?,hob3]
 have dl:=(ah.1 hob3).1
 have hcc:aB l++[Value.int .u8 c]=aB (l++[UInt8.ofNat c.toNat]):=by
  rw[eB]
  congr 1
  simp[aB]
  omega
 rw[hcc] at hown3
 have HE:=af (MV (w1:=w) hlo hob3 hown3 (by simp) ((hbw1.trans ((aC w1 _).mono hB1)).trans hb3))
 clear hown3 hcc
 go_wp2_with fail
 go_ret
 exact⟨rfl,HE.out⟩
theorem zO (B b:Nat)(l:List UInt8)(s:ByteArray)(w:World)(h:pK w B b l)(hB:B<=w.heap.size)(hl:l.length<=1000000)(hs:s.size<=1000000):
  Calls Tryz.prog 65 #[.pointer (some ⟨b,0,none⟩),.string s] w fun e w'=>e= .returned (.tuple #[.int .i64 s.size,.nilIface])/\pK w' B b (l++s.data.toList)/\Below B w w':=by
 have HC:=af (xq B b l d9 w h.Ug)
 have hlo:=h.lo
 clear h
 go_enter Tryz.func65,Tryz.ntmps65
 go_wp2_with (first
  |(go_at_call 121;go_must (refine HC.out.mono ?_;rintro e w1 ⟨rfl,⟨v,hobj,hown⟩,hk1⟩;refine Stop.of ?_)))
 refine Stop.on ?_
 obtain⟨ao,cc,rfl,_,_,_,_⟩:=aW.form hown.dL
 have hbw1:Below B w w1:=hk1.dY hB (fun g hg e=>by have e:g=b:=e;omega)
 have hB1:=aG hB hk1.size
 have c1:w1.cell? ⟨b,1,none⟩=some (.slice ao l.length cc):=by simp[World.cell?,hobj]
 have lt:=(ah.1 hobj).1
 have hsl:s.data.toList.length=s.size:=by show s.data.toList.length=s.data.size;simp
 go_wp2_with (first
  |(at_builtin;go_must ((refine dS rfl (.tmp 12) (.tmp 13) 154 9 rfl d9 B 5 1 1 (.int .u8 0) aO iJ rfl (.slice ao l.length cc) _ _ rfl hown (.string s) _ _ rfl (GY _ bf _) (fun _ h=>h.elim) ?_ ?_ ?_ ?_);(focus omega);(focus (unfold maxLen;omega));(focus omega);intro ao3 c3 w3 hown3 hk3 hb3 hd3;refine Stop.of ?_)))
 refine Stop.on ?_
 have hob3:=(hk3.block b lt (hown.ne hobj (by decide))).trans hobj
 have d1:w3.cell? ⟨b,1,none⟩=some (.slice ao l.length cc):=by simp[World.cell?,hob3]
 have df:w3.frozen? ⟨b,1,none⟩=false:=by simp[World.frozen?,hob3]
 have dl:=(ah.1 hob3).1
 have hown4:aQ w3 d9 B 5 1 (.slice ao3 (l.length+s.size) c3) (l.length+s.size) (aB (l++s.data.toList)):=by rw[eB];exact hown3
 have HE:=af (MV (w1:=w) hlo hob3 hown4 (by rw[ay,hsl]) (hbw1.trans hb3))
 clear hown3 hown4
 go_wp2_with fail
 go_ret2
 exact⟨rfl,HE.out⟩
theorem BZ (w:World):Calls Tryz.prog 35 #[.int .i64 201] w fun e w'=>e= .returned (.string ⟨#[67,114,101,97,116,101,100]⟩)/\w'=w:=by
 go_enter Tryz.func35,Tryz.ntmps35
 go_wp2
 go_ret
 exact⟨rfl,rfl⟩
def Ox (c:UInt8):Bool:=decide (65<=c.toNat) && decide (c.toNat<=90)||decide (97<=c.toNat) && decide (c.toNat<=122)
theorem QJ (s:ByteArray)(w:World)(hs:s.size<=1000000)(h0:s.toList.isEmpty=false)(h:s.data.toList.all Ox=true):
  Calls Tryz.prog 193 #[.string s] w fun e w'=>e= .returned (.bool true)/\w'=w:=by
 have HB:Hid (∀k (hk:k<s.size),Ox (s[k]'hk)=true):=af (fun k hk=>bytes_at h hk)
 have h0':(s.toList==[])=false:=by cases hq:s.toList<;>simp_all
 clear h
 go_enter Tryz.func193,Tryz.ntmps193
 go_wp2
 go_loopw [3,4,5,8] (fun _ _ _ i wr=>∃k:Nat,k<=s.size/\i= .int .i64 k/\wr=w) (fun _ _ _ i _=>s.size - (intOf i).toNat)
 case atStart=>exact⟨0,aN _,rfl,rfl⟩
 case round=>
  obtain⟨k,hk,rfl,hwr⟩:=hrel
  subst hwr
  by_cases hkl:k<s.size
  ·have hkl':(k:Int)<(s.size:Int):=by omega
   have hb:=HB.out k hkl
   obtain⟨x,hx⟩:∃x:UInt8,s[k]'hkl=x:=⟨_,rfl⟩
   rw[hx] at hb
   simp only[Ox,uy,dI,dB] at hb
   rcases hb with hb|hb
   ·have x1:¬((97:Int)<=(x.toNat:Int)):=by omega
    have x2:(65:Int)<=(x.toNat:Int):=by omega
    have x3:(x.toNat:Int)<=90:=by omega
    clear hb
    go_wp2_with fail
    go_roundw
    case rel=>exact⟨k+1,by omega,by go_num,by trivial⟩
    case measure=>simp[intOf];omega
   ·have x1:(97:Int)<=(x.toNat:Int):=by omega
    have x2:(x.toNat:Int)<=122:=by omega
    clear hb
    go_wp2_with fail
    go_roundw
    case rel=>exact⟨k+1,by omega,by go_num,by trivial⟩
    case measure=>simp[intOf];omega
  ·obtain rfl:k=s.size:=by omega
   have x2:¬(s.size:Int)<(s.size:Int):=by omega
   go_wp2_with fail
   go_ret
   exact⟨rfl,rfl⟩
structure Ni (n n' v:ByteArray):Prop where
 ns:n.size<=1000
 n0:n.toList.isEmpty=false
 nt:n.data.toList.all Ox=true
 na:(n.data.toList.all fun b=>decide (b.toNat<128))=true
 lw:Lib.toLowerA n.data.toList=n'.data.toList
 o1:(n'.toList==[99,111,110,116,101,110,116,45,108,101,110,103,116,104])=false
 o2:(n'.toList==[99,111,110,110,101,99,116,105,111,110])=false
 o3:(n'.toList==[116,114,97,110,115,102,101,114,45,101,110,99,111,100,105,110,103])=false
 vs:v.size<=1000
 vt:v.data.toList.all Jc=true
 tr:Lib.trimS v.data.toList [32,9]=v.data.toList
theorem NW (n n' v:ByteArray)(w:World)(h:Ni n n' v):
  Calls Tryz.prog 120 #[.agg #[.string n,.string v]] w fun e w'=>e= .returned (.bool true)/\Below w.heap.size w w':=by
 have hb1:=aC w (.cells #[.string n,.string v] 162)
 have hn1:=aF w (.cells #[.string n,.string v] 162)
 obtain⟨w1,hw1⟩:∃x:World,Hid (w.alloc (.cells #[.string n,.string v] 162)=x):=⟨_,af rfl⟩
 rw[hw1.out] at hb1 hn1
 obtain⟨hb,hhb⟩:∃x:Nat,Hid (w.heap.size=x):=⟨_,af rfl⟩
 rw[hhb.out] at hn1
 have c0:w1.cell? ⟨hb,0,none⟩=some (.string n):=by simp[World.cell?,hn1]
 have c1:w1.cell? ⟨hb,1,none⟩=some (.string v):=by simp[World.cell?,hn1]
 have lh:=(ah.1 hn1).1
 have HL:=af (A8 n w1 n' (by have:=h.ns;omega) h.na h.lw)
 have HA:=af (ak h (ak hb1 hn1))
 have o1:=h.o1;have o2:=h.o2;have o3:=h.o3
 clear h hb1 hn1
 go_enter Tryz.func120,Tryz.ntmps120
 go_upto_region 1 with (fail)
 rw[hw1.out,hhb.out]
 go_wp2_with (first
  |(go_at_call 192;go_must (refine HL.out.mono ?_;rintro e w2 ⟨rfl,hb2⟩;refine Stop.of ?_)))
 refine Stop.on ?_
 have hn2:=(hb2.block hb lh).trans HA.out.2.2
 have d0:w2.cell? ⟨hb,0,none⟩=some (.string n):=by simp[World.cell?,hn2]
 have d1:w2.cell? ⟨hb,1,none⟩=some (.string v):=by simp[World.cell?,hn2]
 have lh2:=(ah.1 hn2).1
 have HB2:=af hb2
 clear hb2 hn2 c0 c1 lh
 go_wp2_with fail
 go_loopw [3,4,15] (fun _ _ i wr=>∃k:Nat,k<=v.size/\i= .int .i64 k/\wr=w2) (fun _ _ i _=>v.size - (intOf i).toNat)
 case atStart=>exact⟨0,aN _,rfl,rfl⟩
 case round=>
  obtain⟨k,hk,rfl,hwr⟩:=hrel
  subst hwr
  by_cases hkl:k<v.size
  ·have hkl':(k:Int)<(v.size:Int):=by omega
   have hvs:=HA.out.1.vs
   have hbb:=bytes_at HA.out.1.vt hkl
   obtain⟨x,hx⟩:∃x:UInt8,v[k]'hkl=x:=⟨_,rfl⟩
   rw[hx] at hbb
   simp only[Jc,dI,dB] at hbb
   have x1:¬((x.toNat:Int)<32):=by omega
   have x2:((x.toNat:Int)==127)=false:=by simp;omega
   have x3:((x.toNat:Int) !=9)=true:=by simp;omega
   clear hbb
   go_wp2_with fail
   go_roundw
   case rel=>exact⟨k+1,by omega,by go_num,by trivial⟩
   case measure=>simp[intOf];omega
  ·obtain rfl:k=v.size:=by omega
   have x2:¬(v.size:Int)<(v.size:Int):=by omega
   go_wp2_with fail
   have hnw:=(HB2.out.block hb (ah.1 HA.out.2.2).1).trans HA.out.2.2
   have hvv:(v.toList==v.toList)=true:=by simp
   refine aK (fun W=>W.heap[hb]? =some (.cells #[.string n,.string v] 162 (0,0))) (fun i=> !([2,6].contains i)) [0,1,2,3,4,5,7,8,6,9,10,11] rfl (by kernel_rfl) hnw ?_
   repeat ((refine bq (v:= ?_) rfl rfl (fun _ _ _ h=>h) rfl (fun W hW=> ?_) ?_);rotate_left;(focus ((try dsimp only at hW);have p0:W.cell? ⟨hb,0,none⟩=some (.string n):=(by simp[World.cell?,hW]);have p1:W.cell? ⟨hb,1,none⟩=some (.string v):=(by simp[World.cell?,hW]);have p2:=(ah.1 hW).1;(go_simp;first|done|with_reducible rfl)));(try simp only[Act.put,aj,av,au]))
   refine bP rfl rfl rfl ?_;intro K hK;go_simp
   refine(QJ n _ (by have:=HA.out.1.ns;omega) HA.out.1.n0 HA.out.1.nt).mono ?_;rintro e w3 ⟨rfl,hw⟩;subst w3
   refine hK.out _ _ hnw ?_
   (try simp only[Act.put,aj,av,au])
   repeat ((refine bq (v:= ?_) rfl rfl (fun _ _ _ h=>h) rfl (fun W hW=> ?_) ?_);rotate_left;(focus ((try dsimp only at hW);have p0:W.cell? ⟨hb,0,none⟩=some (.string n):=(by simp[World.cell?,hW]);have p1:W.cell? ⟨hb,1,none⟩=some (.string v):=(by simp[World.cell?,hW]);have p2:=(ah.1 hW).1;(go_simp;first|done|with_reducible rfl)));(try simp only[Act.put,aj,av,au]))
   refine bP rfl rfl rfl ?_;intro K hK;go_simp
   refine(Ed v ⟨#[32,9]⟩ _ v (by have:=HA.out.1.vs;omega) (by decide) (by decide) HA.out.1.tr).mono ?_;rintro e w3 ⟨rfl,hb3⟩
   have hb3:Below wr.heap.size wr w3:=(aH wr.heap.size wr).drew.trans hb3
   have hn3:=(hb3.block hb (ah.1 hnw).1).trans hnw
   refine hK.out _ _ hn3 ?_
   (try simp only[Act.put,aj,av,au])
   repeat ((refine bq (v:= ?_) rfl rfl (fun _ _ _ h=>h) rfl (fun W hW=> ?_) ?_);rotate_left;(focus ((try dsimp only at hW);have p0:W.cell? ⟨hb,0,none⟩=some (.string n):=(by simp[World.cell?,hW]);have p1:W.cell? ⟨hb,1,none⟩=some (.string v):=(by simp[World.cell?,hW]);have p2:=(ah.1 hW).1;(go_simp;first|done|with_reducible rfl)));(try simp only[Act.put,aj,av,au]))
   refine bF ?_
   go_wp2_with fail
   go_ret
   exact⟨rfl,HA.out.2.1.trans ((HB2.out.trans (hb3.mono HB2.out.size)).mono HA.out.2.1.size)⟩
end Go.Proofs.YtpmbddooibgnaaaGreatDoor
namespace Go.Proofs.YtpmbddooibgnaaaGreatDoor
open Go.RowKit
def jD (n:Int):List UInt8:=(List.range 8).map fun i=>UInt8.ofNat (n/(256^i:Nat)%256).toNat
def Pq (s:ByteArray):List UInt8:=jD s.size++s.data.toList
theorem eF (n:Int):(jD n).length=8:=by simp[jD]
structure jh where
 token:ByteArray
 path:List ByteArray
 deep:Bool
 excl:Bool
 owner:ByteArray
 till:Int
def PO (b:Bool):Int:=if b then 1 else 0
def jh.enc (l:jh):List UInt8:=jD l.till++(jD (PO l.deep)++(jD (PO l.excl)++(Pq l.owner++(jD l.path.length++l.path.flatMap Pq))))
def uD (n:Int)(i:Nat):Int:=(n%18446744073709551616)/(256^i:Nat)
theorem Jh (n:Int)(i:Nat)(hi:i<8):uD n i=uD n (i+1)*256+n/(256^i:Nat)%256:=by
 unfold uD
 have h:i=0\/i=1\/i=2\/i=3\/i=4\/i=5\/i=6\/i=7:=by omega
 rcases h with rfl|rfl|rfl|rfl|rfl|rfl|rfl|rfl<;>simp only[Nat.reducePow,Nat.reduceAdd]<;>omega
theorem K3 (n:Int):uD n 8=0:=by unfold uD;simp only[Nat.reducePow];omega
theorem NH (n:Int)(i:Nat)(h:i<=8)(h1:1<=i):0<=uD n i/\uD n i<72057594037927936:=by
 unfold uD
 have h:i=1\/i=2\/i=3\/i=4\/i=5\/i=6\/i=7\/i=8:=by omega
 rcases h with rfl|rfl|rfl|rfl|rfl|rfl|rfl|rfl<;>simp only[Nat.reducePow]<;>omega
theorem Jg (n:Int)(h: -9223372036854775808<=n/\n<9223372036854775808):IntKind.i64.wrap (uD n 0)=n:=by
 unfold uD
 rw[bJ]
 simp only[Nat.reducePow]
 omega
theorem QT (c b:Int)(hc:0<=c/\c<72057594037927936)(hb:0<=b/\b<256):bits .or .i64 (IntKind.i64.wrap (c*256)) b=IntKind.i64.wrap (c*256+b):=by
 obtain⟨c,rfl⟩:=BD hc.1
 obtain⟨b,rfl⟩:=BD hb.1
 have e1:BitVec.ofInt 64 (IntKind.i64.wrap (((c:Nat):Int)*256))=BitVec.ofNat 64 (c*256):=by
  apply BitVec.eq_of_toNat_eq
  rw[BitVec.toNat_ofInt,ko,bJ]
  omega
 have e4:(BitVec.ofInt 64 (IntKind.i64.wrap (((c:Nat):Int)*256))|||BitVec.ofInt 64 ((b:Nat):Int)).toNat=c*256+b:=by
  rw[e1,nP,BitVec.toNat_or,ko,ko,lS (by omega),lS (by omega)]
  have:=wC (i:=8) (b:=b) (by omega) c
  rw[show c*256=2^8*c by omega,<-this]
 unfold bits
 show IntKind.i64.wrap (((BitVec.ofInt 64 (IntKind.i64.wrap (((c:Nat):Int)*256))|||BitVec.ofInt 64 ((b:Nat):Int)).toNat:Nat):Int)=_
 rw[e4]
 rfl
def within (a b:List ByteArray):Bool:=decide (b<+:a)
def jh.covers (l:jh)(p:List ByteArray):Bool:=within p l.path && (l.deep||decide (p.length=l.path.length))
def jh.clash (a b:jh):Bool:=(a.excl||b.excl) && (a.covers b.path||b.covers a.path)
end Go.Proofs.YtpmbddooibgnaaaGreatDoor
namespace Go.Proofs.YtpmbddooibgnaaaGreatDoor
open Go.RowKit Go.Shelf
theorem J8 (s:ByteArray)(pos:Nat)(h:pos<s.size)(ha:128<=(s.get! pos).toNat):
  pos+(Utf8.decode s pos).2<=s.size/\∀j,pos<=j->j<pos+(Utf8.decode s pos).2->128<=(s.get! j).toNat:=by
 rw[Lib.decode_at]
 unfold Lib.decodeN
 split
 ·omega
 split
 ·split
  ·refine⟨by dsimp only;omega,fun j h1 h2=> ?_⟩
   dsimp only at h2
   have h3:j=pos\/j=pos+1:=by omega
   rcases h3 with rfl|rfl<;>omega
  ·refine⟨by dsimp only;omega,fun j h1 h2=> ?_⟩
   dsimp only at h2
   obtain rfl:j=pos:=by omega
   exact ha
 split
 ·split
  ·refine⟨by dsimp only;omega,fun j h1 h2=> ?_⟩
   dsimp only at h2
   have h3:j=pos\/j=pos+1\/j=pos+2:=by omega
   rcases h3 with rfl|rfl|rfl<;>omega
  ·refine⟨by dsimp only;omega,fun j h1 h2=> ?_⟩
   dsimp only at h2
   obtain rfl:j=pos:=by omega
   exact ha
 split
 ·split
  ·refine⟨by dsimp only;omega,fun j h1 h2=> ?_⟩
   dsimp only at h2
   have h3:j=pos\/j=pos+1\/j=pos+2\/j=pos+3:=by omega
   rcases h3 with rfl|rfl|rfl|rfl<;>omega
  ·refine⟨by dsimp only;omega,fun j h1 h2=> ?_⟩
   dsimp only at h2
   obtain rfl:j=pos:=by omega
   exact ha
 ·refine⟨by dsimp only;omega,fun j h1 h2=> ?_⟩
  dsimp only at h2
  obtain rfl:j=pos:=by omega
  exact ha
theorem IA (s:ByteArray)(j:Nat)(h:j<s.size):s.data.toList[j]? =some (s.get! j):=by
 rw[Utf8W.get!_of_lt s j h]
 exact Lib.data_getElem? s j h
theorem OG {b:UInt8}(h:128<=b.toNat):([47,0]:List UInt8).contains b=false:=by
 cases hc:([47,0]:List UInt8).contains b with
 |false=>rfl
 |true=>
  have:=List.contains_iff_mem.1 hc
  simp at this
  rcases this with rfl|rfl<;>exact absurd h (by decide)
theorem Gn {s:ByteArray}{i n:Nat}(h:Lib.NoAny s.data.toList [47,0] i)(hs:i+n<=s.size)(hh:∀j,i<=j->j<i+n->128<=(s.get! j).toNat):Lib.NoAny s.data.toList [47,0] (i+n):=fun j b hj hb=>by
 by_cases e:j<i
 ·exact h j b e hb
 ·rw[IA s j (by omega)] at hb
  rw[<-fU hb]
  exact OG (hh j (by omega) hj)
section
variable {P:Program} {ρ:Ren}
theorem run_next_at (W:World)(b:Nat)(s:ByteArray)(pos:Nat)(ty:TypeId)(hW:W.heap[b]? =some (.stringIter s pos))(h:pos<s.size):
  (Instr.next (.pointer (some ⟨b,0,none⟩)) true ty).run P W= .ok (.tuple #[.bool true,.int .i64 pos,.int .i32 (Utf8.decode s pos).1]) {W with heap:=W.heap.setIfInBounds b (.stringIter s (pos+(Utf8.decode s pos).2))}:=by
 simp only[Instr.next,getObj,setObj,kg,Sem.run,hW,Result.andThen,h,lH]
 simp[goInt]
theorem Ad (W:World)(b:Nat)(s:ByteArray)(pos:Nat)(ty:TypeId)(hW:W.heap[b]? =some (.stringIter s pos))(h:¬pos<s.size):
  (Instr.next (.pointer (some ⟨b,0,none⟩)) true ty).run P W= .ok (.tuple #[.bool false]) W:=by
 simp[Instr.next,getObj,Sem.run,hW,h]
end
theorem MI (r:Int)(h:128<=r):(∃x y:UInt8,Utf8.encode r=⟨#[x,y]⟩/\128<=y.toNat)\/(3<=(Utf8.encode r).size/\(Utf8.encode r).size<=4):=by
 unfold Utf8.encode
 have hc:128<=(if Utf8.valid r=true then r.toNat else Utf8.runeError):=by
  split
  ·omega
  ·decide
 generalize (if Utf8.valid r=true then r.toNat else Utf8.runeError)=c at hc
 dsimp only
 split
 ·omega
 split
 ·refine .inl ⟨_,_,rfl,?_⟩
  rw[dD]
  omega
 split
 ·exact .inr ⟨aA 3,by show 3<=4;omega⟩
 ·exact .inr ⟨by show 3<=4;omega,aA 4⟩
theorem Od {P:Program}(w:World)(ty:TypeId):(Instr.next (.pointer (some ⟨w.heap.size,0,none⟩)) true ty).run P (w.iter ⟨#[47,0]⟩ 0)= .ok (.tuple #[.bool true,.int .i64 0,.int .i32 47]) (w.iter ⟨#[47,0]⟩ 1):=run_next_ascii w ⟨#[47,0]⟩ 0 ty (by decide) (by decide)
theorem QV {P:Program}(w:World)(ty:TypeId):(Instr.next (.pointer (some ⟨w.heap.size,0,none⟩)) true ty).run P (w.iter ⟨#[47,0]⟩ 1)= .ok (.tuple #[.bool true,.int .i64 1,.int .i32 0]) (w.iter ⟨#[47,0]⟩ 2):=run_next_ascii w ⟨#[47,0]⟩ 1 ty (by decide) (by decide)
theorem QU {P:Program}(w:World)(ty:TypeId):(Instr.next (.pointer (some ⟨w.heap.size,0,none⟩)) true ty).run P (w.iter ⟨#[47,0]⟩ 2)= .ok (.tuple #[.bool false]) (w.iter ⟨#[47,0]⟩ 2):=run_next_end w ⟨#[47,0]⟩ 2 ty (by decide)
theorem OC (r:Int)(w:World)(h0:128<=r)(h1:r<=2147483647):
  Calls Tryz.prog 458 #[.string ⟨#[47,0]⟩,.int .i32 r] w fun e w'=>e= .returned (.int .i64 (-1))/\Below w.heap.size w w':=by
 have h0z:¬r<128:=by omega
 have h0y:(0:Int)<=r:=by omega
 by_cases h65:r=65533
 ·subst h65
  go_enter CV,Tryz.ntmps458
  go_upto_region 38 with (fail)
  go_loopg [5,6] 2 (fun g _ _ wx=>(g=2/\wx=w.iter ⟨#[47,0]⟩ 0)\/(g=1/\wx=w.iter ⟨#[47,0]⟩ 1)\/(g=0/\wx=w.iter ⟨#[47,0]⟩ 2))
  case atStart=>exact .inl ⟨rfl,rfl⟩
  case round=>
   have n0:=Od (P:=Tryz.prog) w;have n1:=QV (P:=Tryz.prog) w;have n2:=QU (P:=Tryz.prog) w
   rcases hrel with ⟨rfl,rfl⟩|⟨rfl,rfl⟩|⟨rfl,rfl⟩
   ·go_wp2_with fail
    go_roundg 1
    case measure=>omega
    case rel=>exact .inr (.inl ⟨rfl,rfl⟩)
   ·go_wp2_with fail
    go_roundg 0
    case measure=>omega
    case rel=>exact .inr (.inr ⟨rfl,rfl⟩)
   ·go_wp2_with fail
    go_ret
    exact⟨rfl,aC w _⟩
 ·have h65b:(r==65533)=false:=eO.2 h65
  cases hv:Lib.validRune r with
  |false=>
   go_enter CV,Tryz.ntmps458
   go_wp2_with (go_at_call 525;refine(Any.utf8_ValidRune (ρ:=fK) {uh with} _ _).mono ?_;rintro e w' ⟨rfl,hw⟩;rw[hw,hv])
   go_ret
   exact⟨rfl,aH _ _⟩
  |true=>
   have hcv:∀W:World,(Go.convert 21 9 (.int .i32 r)).run Tryz.prog W= .ok (.string (Utf8.encode r)) W:=fun W=>run_convert_int_string W _ _ _ _ (by kernel_rfl) bf
   rcases MI r h0 with ⟨x,y,he,hy⟩|⟨hs3,hs4⟩
   ·have hy0:((0:Int)==(y.toNat:Int))=false:=eO.2 (by omega)
    have hsz:(⟨#[x,y]⟩:ByteArray).size=2:=rfl
    have hb1:(⟨#[47,0]⟩:ByteArray)[1]'(by decide)=0:=rfl
    have hb2:(⟨#[x,y]⟩:ByteArray)[1]'(by show 1<2;decide)=y:=rfl
    have hw2:IntKind.i64.wrap 2=2:=rfl
    have hxt:(⟨#[47,0]⟩:ByteArray).extract 2 2=⟨#[]⟩:=by decide
    have hib:∀(c:Int) (W:World),Calls Tryz.prog 245 #[.string ⟨#[]⟩,.int .u8 c] W fun e w'=>e= .returned (.int .i64 (-1))/\w'=W:=fun c W=>Any.strings_IndexByte (ρ:=fK) {uh with} ⟨#[]⟩ c W
    rw[he] at hcv
    go_enter CV,Tryz.ntmps458
    go_upto_region 5 with (go_at_call 525;refine(Any.utf8_ValidRune (ρ:=fK) {uh with} _ _).mono ?_;rintro e w' ⟨rfl,hw⟩;rw[hw,hv])
    refine Tx ?_
    go_upto_region 5 with (fail)
    go_loopw [9,10,11,12] (fun i _ _ _ wr=>i= .int .i64 1/\wr=w) (fun _ _ _ _ _=>0)
    case atStart=>exact⟨rfl,rfl⟩
    case round=>
     obtain⟨rfl,hwr⟩:=hrel
     subst wr
     go_wp2_with (fail)
     refine Tx ?_
     go_wp2_with (fail)
     refine aK (fun W=>W=w.drew) (fun _=>true) [0,1,2,3,4,5,6] rfl (by kernel_rfl) rfl ?_
     repeat ((refine bq (v:= ?_) rfl rfl (fun _ _ _ h=>h) rfl (fun W hW=> ?_) ?_);rotate_left;(focus ((try dsimp only at hW);subst hW;(go_simp;first|done|with_reducible rfl)));(try simp only[Act.put,aj,av,au]))
     refine bF ?_
     go_wp2_with (fail)
     refine aK (fun W=>W=w.drew.drew) (fun i=> !([7].contains i)) [0,1,2,3,4,5,6,7,8] rfl (by kernel_rfl) rfl ?_
     repeat ((refine bq (v:= ?_) rfl rfl (fun _ _ _ h=>h) rfl (fun W hW=> ?_) ?_);rotate_left;(focus ((try dsimp only at hW);subst hW;(go_simp;first|done|with_reducible rfl)));(try simp only[Act.put,aj,av,au]))
     refine bP rfl rfl rfl ?_;intro K hK;go_simp
     refine(hib _ _).mono ?_;rintro e w4 ⟨rfl,hw4⟩;subst w4
     refine hK.out _ _ rfl ?_
     repeat ((refine bq (v:= ?_) rfl rfl (fun _ _ _ h=>h) rfl (fun W hW=> ?_) ?_);rotate_left;(focus ((try dsimp only at hW);subst hW;(go_simp;first|done|with_reducible rfl)));(try simp only[Act.put,aj,av,au]))
     refine bF ?_
     go_wp2_with (fail)
     dsimp (config:={zetaDelta:=true}) only[Exit.noGoto,Exit.inBlock,Exit.then]
     go_ret
     exact⟨rfl,((aH _ w).drew).drew⟩
   ·have h3:¬((Utf8.encode r).size:Int) - 1<2:=by omega
    have h4:(0:Int)<=((Utf8.encode r).size:Int) - 1:=by omega
    obtain⟨E,hE⟩:∃E,Hid (Utf8.encode r=E):=⟨_,af rfl⟩
    rw[hE.out] at hcv h3 h4 hs3 hs4
    have hw64:wrap64 ((E.size:Int) - 1)=(E.size:Int) - 1:=by unfold wrap64;omega
    go_enter CV,Tryz.ntmps458
    go_upto_region 5 with (go_at_call 525;refine(Any.utf8_ValidRune (ρ:=fK) {uh with} _ _).mono ?_;rintro e w' ⟨rfl,hw⟩;rw[hw,hv])
    refine Tx ?_
    go_upto_region 5 with (fail)
    go_loopw [9,10,11,12] (fun i _ _ _ wr=>i= .int .i64 ((E.size:Int) - 1)/\wr=w) (fun _ _ _ _ _=>0)
    case atStart=>exact⟨by first|rfl|(rw[hw64])|go_num,rfl⟩
    case round=>
     obtain⟨rfl,hwr⟩:=hrel
     subst wr
     go_wp2_with (fail)
     dsimp only[Exit.noGoto]
     go_ret
     exact⟨rfl,aH _ _⟩
theorem Rc (r:Int)(w:World)(h0:0<=r)(h1:r<=2147483647):
  Calls Tryz.prog 458 #[.string ⟨#[47,0]⟩,.int .i32 r] w fun e w'=>(∃z:Int,e= .returned (.int .i64 z)/\(r<128->z=Lib.indexByte [47,0] r.toNat.toUInt8)/\(128<=r->z= -1))/\Below w.heap.size w w':=by
 by_cases h:r<128
 ·have hc:Calls Tryz.prog 458 #[.string ⟨#[47,0]⟩,.int .i32 r] w _:=Any.strings_IndexRune_ascii (ρ:=fK) {uh with} ⟨#[47,0]⟩ r w h0 h
  refine hc.mono ?_
  rintro e w' ⟨rfl,rfl⟩
  exact⟨⟨_,rfl,fun _=>rfl,fun e=>absurd h (by omega)⟩,aH _ _⟩
 ·refine(OC r w (by omega) h1).mono ?_
  rintro e w' ⟨rfl,hb⟩
  exact⟨⟨_,rfl,fun e=>absurd e h,fun _=>rfl⟩,hb⟩
theorem Aj (b:UInt8):([47,0]:List UInt8).contains b=decide (0<=Lib.indexByte [47,0] b):=Lib.contains_iff_indexByte [47,0] b
theorem Mq (s:ByteArray)(w:World)(h8:s.size<=8):
  Calls Tryz.prog 358 #[.string s,.string ⟨#[47,0]⟩] w fun e w'=>e= .returned (.int .i64 (Lib.indexAny s.data.toList [47,0]))/\Below w.heap.size w w':=by
 have hse:∀w,Calls Tryz.prog 459 #[.int .i64 s.size] w fun e w'=>e= .returned (.bool false)/\w'=w:=fun w=>by
  have:=Any.strings_shouldUseASCIISet (P:=Tryz.prog) (ρ:=fK) {uh with} s.size w
  rw[bH (by omega)] at this
  exact this
 have hcs:(⟨#[47,0]⟩:ByteArray).size=2:=rfl
 go_enter Tryz.func358,Tryz.ntmps358
 go_wp2_with (go_at_call 459;refine(hse _).mono ?_;rintro e w' ⟨rfl,hw⟩;rw[hw])
 go_loopg [9,10] (s.size+1) (fun g _ _ wx=>∃i:Nat,i<=s.size/\g=s.size+1 - i/\wx.heap[w.heap.size]? =some (.stringIter s i)/\Below w.heap.size w wx/\Lib.NoAny s.data.toList [47,0] i)
 case atStart=>exact⟨0,aN _,rfl,World.iter_heap w s 0,aC w _,Lib.NoAny.zero _ _⟩
 case round=>
  obtain⟨i,hi,rfl,hit,hb,hno⟩:=hrel
  by_cases hil:i<s.size
  ·have hnx:=fun ty=>run_next_at (P:=Tryz.prog) wr w.heap.size s i ty hit hil
   have hle:=decode_le s i
   have hgb:s.get! i=s[i]'hil:=Utf8W.get!_of_lt s i hil
   have hat:=IA s i hil
   have hb1:Below w.heap.size w {wr with heap:=wr.heap.setIfInBounds w.heap.size (.stringIter s (i+(Utf8.decode s i).2))}:=by
    refine⟨hb.os,hb.tape,hb.output,by simpa using hb.size,fun k hk=> ?_⟩
    rw[<-hb.block k hk]
    simp only[gW]
    rw[if_neg (by omega)]
   have hlt:=(ah.1 hit).1
   have hit1:({wr with heap:=wr.heap.setIfInBounds w.heap.size (.stringIter s (i+(Utf8.decode s i).2))}:World).heap[w.heap.size]? =some (.stringIter s (i+(Utf8.decode s i).2)):=by
    simp only[gW]
    simp[hlt]
   obtain⟨W1,hW1⟩:∃W1:World,{wr with heap:=wr.heap.setIfInBounds w.heap.size (.stringIter s (i+(Utf8.decode s i).2))}=W1:=⟨_,rfl⟩
   rw[hW1] at hb1 hit1
   simp only[hW1] at hnx
   have hcase:(((Utf8.decode s i).1:Int)<128/\((Utf8.decode s i).1:Int).toNat.toUInt8=s.get! i/\(Utf8.decode s i).2=1)\/(128<=((Utf8.decode s i).1:Int)/\1<=(Utf8.decode s i).2/\i+(Utf8.decode s i).2<=s.size/\Lib.NoAny s.data.toList [47,0] (i+(Utf8.decode s i).2)):=by
    by_cases h128:(s[i]'hil).toNat<128
    ·left
     rw[decode_ascii s i hil h128,hgb]
     exact⟨by dsimp only;omega,by simp,rfl⟩
    ·right
     have h1:=decode_high s i hil (by omega)
     have h2:=J8 s i hil (by rw[hgb];omega)
     exact⟨by omega,h1.2,h2.1,Gn hno h2.1 h2.2⟩
   obtain⟨r,hr⟩:∃r,(Utf8.decode s i).1=r:=⟨_,rfl⟩
   obtain⟨n,hn⟩:∃n,(Utf8.decode s i).2=n:=⟨_,rfl⟩
   rw[hr,hn] at hcase
   rw[hn] at hit1
   simp only[hr] at hnx
   rw[hr] at hle
   have HIR:=af (Rc r W1 (by omega) (by omega))
   have hcb:=Aj (s.get! i)
   have HX:=af (ak hcase (ak hno (ak hat (ak hcb (ak hit1 hb1)))))
   clear hcase hno hat hcb hit1 hb1 hr hn hgb hle hlt hit hb hW1
   go_wp2_with (first
    |(go_at_call 458;go_must (refine HIR.out.mono ?_;rintro e w3 ⟨⟨z,rfl,hz1,hz2⟩,hb3⟩;refine Stop.of ?_)))
   refine Stop.on ?_
   have hit3:=(hb3.block w.heap.size (ah.1 HX.out.2.2.2.2.1).1).trans HX.out.2.2.2.2.1
   have HY:=af (ak hit3 (HX.out.2.2.2.2.2.trans (hb3.mono HX.out.2.2.2.2.2.size)))
   clear hit3 hb3
   by_cases hz:(0:Int)<=z
   ·have hr:Lib.indexAny s.data.toList [47,0]=i:=by
     rcases HX.out.1 with ⟨h1,h2,_⟩|⟨h1,_⟩
     ·have h3:=hz1 h1
      rw[h2] at h3
      refine Lib.indexAny_hit HX.out.2.1 HX.out.2.2.1 ?_
      rw[HX.out.2.2.2.1,<-h3]
      exact eT hz
     ·have:=hz2 h1
      omega
    have HR:=af hr
    clear hr hz1 hz2
    go_wp2_with (fail)
    go_ret
    exact⟨by rw[HR.out];rfl,HY.out.2⟩
   ·have hno':Lib.NoAny s.data.toList [47,0] (i+n)/\1<=n/\i+n<=s.size:=by
     rcases HX.out.1 with ⟨h1,h2,rfl⟩|⟨_,h2,h3,h4⟩
     ·have h3:=hz1 h1
      rw[h2] at h3
      refine⟨HX.out.2.1.succ HX.out.2.2.1 ?_,aA _,by omega⟩
      rw[HX.out.2.2.2.1,<-h3]
      exact bH hz
     ·exact⟨h4,h2,h3⟩
    have HR:=af hno'
    clear hno' hz1 hz2
    go_wp2_with (fail)
    go_roundg (s.size+1 - (i+n))
    case measure=>have:=HR.out;omega
    case rel=>exact⟨i+n,HR.out.2.2,rfl,HY.out.1,HY.out.2,HR.out.1⟩
  ·obtain rfl:i=s.size:=by omega
   have hnx:=fun ty=>Ad (P:=Tryz.prog) wr w.heap.size s s.size ty hit (bY _)
   have HX:=af (ak hno hb)
   clear hno hb hit
   go_wp2_with (fail)
   go_ret
   exact⟨by rw[Lib.indexAny_none (by rw[<-Lib.size_eq];exact HX.out.1)];rfl,HX.out.2⟩
theorem Rj (s:ByteArray)(w:World)(hs:s.size<=64):
  Calls Tryz.prog 358 #[.string s,.string ⟨#[47,0]⟩] w fun e w'=>e= .returned (.int .i64 (Lib.indexAny s.data.toList [47,0]))/\Below w.heap.size w w':=by
 by_cases h8:s.size<=8
 ·exact Mq s w h8
 ·have hc:Calls Tryz.prog 358 #[.string s,.string ⟨#[47,0]⟩] w _:=Any.strings_IndexAny_long (ρ:=fK) {uh with} (zero_of_info F8).1 (zero_of_info F8).2 s ⟨#[47,0]⟩ w (by decide) (by omega) (by omega) (by decide) (fun j b hb=>by
   have:b=47\/b=0:=by
    have:=tT hb
    simpa using this
   rcases this with rfl|rfl<;>decide)
  refine hc.mono ?_
  rintro e w' ⟨rfl,hw⟩
  refine⟨rfl,?_⟩
  rw[hw]
  exact((aH _ _).alloc (aA _) _).alloc (by simp) _
theorem MQ (s:ByteArray)(w:World)(hs:s.size<=64):
  Calls Tryz.prog 250 #[.string s,.string ⟨#[47,0]⟩] w fun e w'=>e= .returned (.bool (Lib.containsAny s.data.toList [47,0]))/\Below w.heap.size w w':=by
 have HI:=af (Rj s w hs)
 unfold Lib.containsAny
 obtain⟨z,hz⟩:∃z,Lib.indexAny s.data.toList [47,0]=z:=⟨_,rfl⟩
 rw[hz] at HI ⊢
 clear hz
 go_enter Tryz.func250,Tryz.ntmps250
 go_wp2_with (first
  |(go_at_call 358;go_must (refine HI.out.mono ?_;rintro e w1 ⟨rfl,hb1⟩)))
 go_ret
 exact⟨rfl,hb1⟩
end Go.Proofs.YtpmbddooibgnaaaGreatDoor
namespace Go.Proofs.YtpmbddooibgnaaaGreatDoor
open Go.RowKit
abbrev LP:=jh×Value
def SH (p:LP):List Value:=[.string p.1.token,p.2,.bool p.1.deep,.bool p.1.excl,.string p.1.owner,.int .i64 p.1.till]
def Uq (w:World)(S:Nat->Prop)(v:Value)(ps:List LP):Prop:=jf w S 6 v ps.length (ps.flatMap SH)/\∀p∈ps,∃T,nH w T p.2 p.1.path
structure UB (σ:Dk)(l:Lg)(at_:Nat)(B Z:List UInt8):Prop where
 len:Z.length=(B.length+511)/512*512
 beg:Z.take B.length=B
 sec:∀j,j<(B.length+511)/512->σ.get (l.ring (at_+j))=(Z.drop (j*512)).take 512
end Go.Proofs.YtpmbddooibgnaaaGreatDoor
