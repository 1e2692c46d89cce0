/- parts -/
import Derived.Test.YtpmbddooibgnaaaGreatDoorN3
import Derived.Test.YtpmbddooibgnaaaGreatDoorN4
import Derived.Test.YtpmbddooibgnaaaGreatDoorN8
import Derived.Test.YtpmbddooibgnaaaGreatDoorN14
set_option maxRecDepth 100000
set_option maxHeartbeats 8000000
set_option linter.all false
namespace Go.Proofs.YtpmbddooibgnaaaGreatDoor
open Go.RowKit
section
variable {P:Program} {ops:Array Oper} {Q:Exit->Act->World->Prop} {md:Region.Mode} {S:World->Prop}
end
theorem Ew (a:List (ByteArray×ByteArray)):∀k,dG (a.take k)=(dG a).take (k*2):=by
 induction a with
 |nil=>intro k;simp[dG]
 |cons p a ih=>
  intro k
  cases k with
  |zero=>simp[dG]
  |succ k=>rw[iT,lm,lm,ih,Uf,iT,iT]
theorem xX (a:List (ByteArray×ByteArray)):∀k,dG (a.drop k)=(dG a).drop (k*2):=by
 induction a with
 |nil=>intro k;simp[dG]
 |cons p a ih=>
  intro k
  cases k with
  |zero=>simp
  |succ k=>rw[kX,lm,ih,Uf,kX,kX]
def Tn (nd:Nd)(i:Nat):Prop:=(1<i->2*fM (nd.pairs.take (i - 1))<nd.size)/\(i+1=nd.pairs.length\/nd.size<=2*fM (nd.pairs.take i))
theorem GK (g d n i:Nat)(p:List Value)(q:Nat)(a:List Value)(w:World)(S:Nat->Prop)(B:Nat)(hS:∀g,S g->g<w.heap.size)(hB:B<=w.heap.size)(h:aV w S B 188 2 (.slice (some ⟨g,0,none⟩) n d) n p)(V:∀u∈p,u.oneCell'=true)(hv:Row w q 188 a)(A:a.length=2)(v:∀u∈a,u.oneCell'=true)(hn:n<=1000000)(hi:i<n)(s:d<n+1):
  Calls Tryz.prog 546 #[.slice (some ⟨g,0,none⟩) n d,.int .i64 i,.slice (some ⟨q,0,none⟩) 1 1] w fun e w'=>∃v',e= .returned v'/\aV w' S B 188 2 v' (n+1) (p.take (i*2)++a++p.drop (i*2))/\Keep eG w w':=by
 obtain⟨f,N,t,hx,pV,q9,hc,qb⟩:=h.row
 obtain rfl:n=d:=by omega
 have qf:n<=9223372036854775807:=by omega
 have z:=h.1.1
 clear h s
 have k1:(0:Int)<=(i:Int):=by omega
 have k2:(i:Int)<=(n:Int):=by omega
 have k3:(0:Int)<=(i:Int)+1:=by omega
 have k4:(i:Int)+1<=(n:Int)+1:=by omega
 have k5:((i:Int)+1).toNat=i+1:=by omega
 have k8:((i:Int)==(n:Int))=false:=by rw[fV];omega
 have k9:IntKind.i64.wrap ((i:Int)+1)=(i:Int)+1:=aM _ (by omega)
 have qO:¬n=i:=by omega
 have qC:(n:Int)+1 - (i:Int)=((n+1 - i:Nat):Int):=by omega
 have af:i+(n+1 - i)=n+1:=by omega
 have qc:q<w.heap.size:=hv.lt
 have q8:g<w.heap.size:=N.lt
 have Q:=ah t;clear t
 have Hx:=ah hx;clear hx
 have y:=ah z;clear z
 have c:=ah A;clear A
 go_enter Tryz.func546,Tryz.ntmps546
 go_wp2_with (first|(at_builtin;(refine bS rfl ?_);intro K hK;go_must ((refine Ee (.tmp 34) (.tmp 39) 184 3 rfl 188 2 32 _ gu bV nM rfl (by omega) g i n (n+1 - i) f rfl ?_ N ?_ ?_ ?_ ?_ ?_ ?_);(focus (first|rfl|(show Value.int _ _=_;congr 1)));(focus (rw[Q.out];omega));(focus omega);(focus omega);(focus (unfold maxLen;omega));(focus omega);intro j G D T o qy m r;refine hK _ _ (Stop.of ?_))))
 have l:n+1<=j:=by omega
 have p9:¬j=i:=by omega
 have ql:¬j=i+1:=by omega
 have qm:(i:Int)<=(j:Int):=by omega
 have X:j<=9223372036854775807:=by simpa [maxLen] using m
 have qo:q≠w.heap.size:=by omega
 have W:Row G q 188 a:=hv.keep r id
 have R:Row G g 188 f:=N.keep r id
 obtain⟨m1,m2,m3⟩:=M0 f D p a i n j 2 hi l Hx.out (by rw[Q.out];omega) o c.out
 have Z:=ah o;clear o
 have M1:=ah m1;clear m1
 have M2:=ah m2;clear m2
 have M3:=ah m3;clear m3
 have b:(Builtin.firstCells 2 1 (.slice (some ⟨q,0,none⟩) 1 1)).run Tryz.prog G= .ok a.toArray G:=by
  have H:=(W.dM (S:=eG) (k:=2) (off:=0) 1 1 (by have:=c.out;omega) id (aC _) (by simp[maxLen])).first (P:=Tryz.prog) 1 (aC _)
  rwa [dY,jE,Uh,aL (by have:=c.out;omega)] at H
 have Hw:=ah b;clear b
 refine Stop.on ?_
 go_wp2_with (first|((refine bS rfl ?_);intro K hK;(refine nA (.tmp 43) (.tmp 44) 184 184 rfl 188 2 32 _ gu nM w.heap.size (i*2) 188 1 (n+1 - i) (j - i) (some ⟨w.heap.size,i*2,none⟩) _ ?_ T (.slice (some ⟨q,0,none⟩) 1 1) rfl 1 a rfl ?_ ?_ Hw.out (fun _=>rfl) ?_ v ?_);go_must ((focus (first|rfl|(show Value.slice _ _ _=_;congr 1;omega)));(focus (exact(dx (by omega)).symm));(focus (rw[c.out]));(focus (rw[Z.out,c.out];omega));intro F I x;refine hK _ _ (Stop.of ?_))))
 have M:Row F g 188 f:=R.keep x (by omega)
 have E:(Builtin.firstCells 2 (n - i) (.slice (some ⟨g,i*2,none⟩) (n - i) (n - i))).run Tryz.prog F.drew= .ok (p.drop (i*2)).toArray F.drew:=by
  have H:=(Row.dM (w:=F.drew) (S:=eG) (k:=2) (off:=i*2) M (n - i) (n - i) (by rw[Q.out];omega) id (aC _) (by unfold maxLen;omega)).first (P:=Tryz.prog) (n - i) (aC _)
  rw[jE,Uh] at H
  rw[<-Hx.out,nQ,show n*2 - i*2=(n - i)*2 by omega];exact H
 have O:=ah E;clear E
 refine Stop.on ?_
 go_wp2
 go_region_held3 (fun _=>True) (trivial) (first|((refine Lb rfl (nA (.tmp 50) (.tmp 53) 184 184 rfl 188 2 32 _ gu nM w.heap.size ((i+1)*2) 188 (n - i) (n - i) (j - (i+1)) (some ⟨w.heap.size,(i+1)*2,none⟩) _ ?_ I (.slice (some ⟨g,i*2,none⟩) (n - i) (n - i)) ?_ (n - i) (p.drop (i*2)) rfl ?_ ?_ O.out (fun _=>rfl) ?_ ?_ ?_));(focus (first|rfl|(show Value.slice _ _ _=_;congr 1;omega)));(focus (first|rfl|(show Value.slice _ _ _=_;congr 1<;>omega)));(focus (exact(Uh _).symm));(focus (rw[bG,y.out];omega));(focus (rw[bG,y.out,M1.out];omega));(focus (exact fun u hu=>V u (wO hu)));intro w3 J Y))
 go_wp2
 go_ret
 have C:Keep eG w w3:=((r.trans x (fun _ t e=>absurd t (by omega))).drew).trans Y (fun _ t e=>absurd t (by omega))
 refine⟨_,rfl,?_,C⟩
 rw[<-M3.out]
 exact Row.own J (n+1) M2.out hB (fun hs=>absurd (hS _ hs) (cO _)) l m
theorem GJ (v:Value)(n i:Nat)(f:List Value)(m:Nat)(a:List Value)(w:World)(S:Nat->Prop)(B:Nat)(A:∀g,S g->g<w.heap.size)(hB:B<=w.heap.size)(h:aV w S B 188 2 v n f)(r:∀u∈f,u.oneCell'=true)(z:Row w m 188 a)(t:v.ownBlock≠some m)(d:a.length=2)(b:∀u∈a,u.oneCell'=true)(x:n<=1000000)(F:i<=n):
  Calls Tryz.prog 546 #[v,.int .i64 i,.slice (some ⟨m,0,none⟩) 1 1] w fun e q=>∃c,e= .returned c/\aV q S B 188 2 c (n+1) (f.take (i*2)++a++f.drop (i*2))/\Keep (fun g=>v.ownBlock=some g) w q:=by
 have D:=h.1.1
 by_cases s:i=n
 ·subst s
  refine(JZ v i f m a w S B A hB h z d b x).mono ?_
  rintro e q ⟨c,rfl,p,o,_⟩
  refine⟨c,rfl,?_,o⟩
  rw[aL (by omega),Fs (by omega),dV]
  exact p
 ·rcases h.1.2 with ⟨rfl,E⟩|⟨g,l,C,rfl,_⟩
  ·omega
  ·by_cases j:n+1<=l
   ·refine(JY g l n i f m a w S B h r z (fun e=>t (by rw[e];rfl)) d b x (by omega) j).mono ?_
    rintro e q ⟨c,rfl,p,o⟩
    exact⟨c,rfl,p,o.mono (fun k _ y=>by rw[y];rfl)⟩
   ·refine(GK g l n i f m a w S B A hB h r z d b x (by omega) (by omega)).mono ?_
    rintro e q ⟨c,rfl,p,o⟩
    exact⟨c,rfl,p,o.mono (fun _ _ y=>y.elim)⟩
structure D1 (nd:Nd)(rest:List UInt8)(w:World)(S:Nat->Prop)(k:Nat)(hv:Value)(wr:World):Prop where
 cut:IsCut wr S w.heap.size w.heap.size (oM (nd.pairs.drop k)++(jN nd.kids++(iJ nd.keys++rest)))
 node:∃v0,wr.heap[w.heap.size+1]? =some (.cells #[v0,.slice none 0 0,.slice none 0 0] 272 (0,0))/\aV wr S w.heap.size 188 2 v0 k (dG (nd.pairs.take k))
 head:fA wr S hv [b8 nd.pairs.length,b8 nd.kids.length]/\∀g,hv.ownBlock=some g->g<w.heap.size
 bel:Below w.heap.size w wr
theorem D1.next {c:Nd}{b:List UInt8}{w:World}{S:Nat->Prop}{k:Nat}{y:Value}{wr w3 w4:World}(z:D1 c b w S k y wr)(r:k<c.pairs.length)(m:Below w.heap.size w w3)(v:Below w.heap.size w w4)
  (t:IsCut w3 S w.heap.size w.heap.size (oM (c.pairs.drop (k+1))++(jN c.kids++(iJ c.keys++b)))) (s:w4.heap[w.heap.size]? =w3.heap[w.heap.size]?)
  {B v':Value} (x:w4.heap[w.heap.size+1]? =some (.cells #[B,.slice none 0 0,.slice none 0 0] 272 (0,0))) (d:aV w4 S w.heap.size 188 2 v' (k+1) (dG (c.pairs.take k)++[.string c.pairs[k].1,.string c.pairs[k].2])):
  D1 c b w S (k+1) y (w4.setCell ⟨w.heap.size+1,0,none⟩ v'):=by
 have q:=d.ne x (by decide)
 have o:Keep (· =w.heap.size+1) w4 (w4.setCell ⟨w.heap.size+1,0,none⟩ v'):=Keep.setCell (M:=(· =w.heap.size+1)) (p:=⟨w.heap.size+1,0,none⟩) (Keep.refl _ _) (.inr rfl) v'
 have i:Below w.heap.size w (w4.setCell ⟨w.heap.size+1,0,none⟩ v'):=v.setCell (by simp) v'
 have n:∀g,g<w.heap.size->(w4.setCell ⟨w.heap.size+1,0,none⟩ v').heap[g]? =w3.heap[g]? :=fun g f=>(i.block g f).trans (m.block g f).symm
 obtain⟨hcut,_,a,j⟩:=z
 refine⟨t.keep ?_ n,⟨v',?_,?_⟩,⟨bq.keep a.1 fun g f _ l=>⟨(i.block g (a.2 g f)).trans (j.block g (a.2 g f)).symm,l⟩,a.2⟩,i⟩
 ·rw[Below.heap_setCell _ _ _ _ (by simp)];exact s
 ·simp[World.setCell,aK,x]
 ·rw[aO r,nW]
  refine aV.keep (w:=w4) d fun g f A l=>⟨o.block g A (fun e=>q (by rw[f,e])),l⟩
theorem Kg (v:Value)(d:Nd)(m:List UInt8)(w:World)(S:Nat->Prop)(hS:∀g,S g->g<w.heap.size)(h:fA w S v (d.enc++m))(hf:d.Fits)(_hl:(d.enc++m).length<=1000000):
  Calls Tryz.prog 218 #[v] w fun e w'=>∃b,e= .returned (.tuple #[.pointer (some ⟨b,0,none⟩),.int .i64 0])/\ig w' S w.heap.size b d/\Below w.heap.size w w':=by
 generalize hL:d.enc++m=l at h
 have HL:=ah hL;clear hL
 have vP:¬S w.heap.size:=fun x=>absurd (hS _ x) (cO _)
 have vY:¬S (w.heap.size+1):=fun x=>absurd (hS _ x) (by omega)
 obtain⟨C,c,rfl,n1,m1,_,_⟩:=bq.form h
 have yB:∀g,(Value.slice C l.length c).ownBlock=some g->g<w.heap.size:=by
  intro g hg
  obtain⟨C,c,hv,_,_,_,_,h5,_⟩:=h
  cases hv
  cases C with
  |none=>cases hg
  |some ad=>cases hg;exact(h5 _ rfl).2.1
 have eZ:IsCut (w.alloc (.cells #[.slice C l.length c,.bool false] 485)) S w.heap.size w.heap.size l:=
  ⟨vP,aC _,_,aH _ _,bq.below h (aG _ _),yB⟩
 have zH:2<=l.length:=by rw[<-HL.out];simp[Nd.enc]
 go_enter Tryz.func218,Tryz.ntmps218
 go_wp2_with (first|(go_at_call 336;go_must (refine(tJ w.heap.size w.heap.size l 2 2 rfl _ S eZ zH).mono ?_;rintro e Q ⟨hv,rfl,hh,hc,ol,r9,av⟩;refine Stop.of ?_)))
 have e1:l.take 2=[b8 d.pairs.length,b8 d.kids.length]:=by rw[<-HL.out];rfl
 have e2:l.drop 2=oM d.pairs++(jN d.kids++(iJ d.keys++m)):=by rw[<-HL.out];simp[Nd.enc]
 rw[e1] at hh
 rw[e2] at hc
 clear e1 e2 eZ h
 have ql:Below w.heap.size w Q:=(aG w _).trans (ol.fw (by simp) (fun i hi=>by omega))
 rw[bD] at av
 obtain⟨hao,mo,rfl,q1,q2,q3,q4⟩:∃C c,hv= .slice C 2 c/\2<=c/\c<=9223372036854775807/\(2=0\/∃b o,C=some ⟨b,o,none⟩)/\(C=none->c=0):=bq.form hh
 obtain⟨qc,qC,rfl,d0⟩:=hh.at rfl 0 (by simp)
 obtain⟨_,_,e,d1⟩:=hh.at rfl 1 (by simp)
 cases e
 have sF:Q.cell? ⟨qc,qC,none⟩=some (.int .u8 ((b8 d.pairs.length).toNat:Int)):=d0
 rw[sI _ hf.np] at sF
 have lH:Q.cell? ⟨qc,qC+1,none⟩=some (.int .u8 ((b8 d.kids.length).toNat:Int)):=d1
 rw[sI _ hf.nk] at lH
 have hb0lt:qc<w.heap.size+1:=by rw[<-av];exact aD Q _ d0
 clear d0 d1 q3 q4
 have np:=hf.np
 have nk:=hf.nk
 refine Stop.on ?_
 go_wp2_with fail
 have j6:qc<w.heap.size:=r9 _ rfl
 go_loopw [21] (fun i wr=>∃k:Nat,k<=d.pairs.length/\i= .int .i64 k/\D1 d m w S k (.slice (some ⟨qc,qC,none⟩) 2 mo) wr) (fun i _=>d.pairs.length - (intOf i).toNat)
 case atStart=>
  have jv:=aG Q (.cells #[.slice none 0 0,.slice none 0 0,.slice none 0 0] 272)
  obtain⟨zT,xK,cv,y8,z8,zk⟩:=hc
  exact⟨0,aR _,rfl,⟨zT,xK,cv,(jv.block _ (by omega)).trans y8,bq.below z8 jv,zk⟩,⟨_,by rw[<-av];exact aH _ _,aV.nil _ _ _ _ _⟩,⟨bq.below hh jv,r9⟩,ql.trans (jv.mono (by omega))⟩
 case round=>
  obtain⟨k,hk,rfl,E⟩:=hrel
  by_cases n:k<d.pairs.length
  ·have hD0:=E
   obtain⟨f,⟨v0,hN,I⟩,_,dn⟩:=E
   have hpf:=hf.pr d.pairs[k] (bJ n)
   have eL:oM (d.pairs.drop k)++(jN d.kids++(iJ d.keys++m))=b8 d.pairs[k].1.size::b8 d.pairs[k].2.size::(d.pairs[k].1.data.toList++(d.pairs[k].2.data.toList++(oM (d.pairs.drop (k+1))++(jN d.kids++(iJ d.keys++m))))):=by
    unfold oM;rw[tH _ _ _ n];simp[Cf]
   rw[eL] at f
   clear eL
   generalize hR:oM (d.pairs.drop (k+1))++(jN d.kids++(iJ d.keys++m))=R at f
   have HR:=ah hR;clear hR
   have hz1:d.pairs[k].1.size<=255:=by omega
   have vT:d.pairs[k].2.size<=255:=by omega
   have hkb:=hk
   generalize bf:d.pairs[k].1=O at f hz1
   generalize l9:d.pairs[k].2=s2 at f vT
   have kD:=ah bf;clear bf
   have zG:=ah l9;clear l9
   obtain⟨Y,c0,rfl,g1,g2,_,_⟩:=I.dM.form
   have mD:w.heap.size+1<wr.heap.size:=(aj.1 hN).1
   have qy:(Value.slice Y k c0).ownBlock≠some w.heap.size:=by
    obtain⟨_,_,cv,nY,_,_⟩:=f
    exact I.ne nY (by decide)
   go_wp2_with (first|(go_at_call 336;go_must (refine(tJ w.heap.size w.heap.size _ 2 2 rfl _ S f (by simp)).mono ?_;rintro e Q ⟨lv,rfl,D,A,B,pV,M⟩;refine Stop.of ?_)))
   have B1:Below w.heap.size w Q:=dn.trans (B.fw (by omega) (fun i hi=>by omega))
   have vz:=(B.block _ mD (by omega)).trans hN
   have lq:aV Q S w.heap.size 188 2 (.slice Y k c0) k (dG (d.pairs.take k)):=I.keep fun g hg hl hs=>⟨B.block g hl (fun e=>qy (by rw[hg,e])),hs⟩
   obtain⟨rq,lc,rfl,r1,r2,r3,r4⟩:∃C c,lv= .slice C 2 c/\2<=c/\c<=9223372036854775807/\(2=0\/∃b o,C=some ⟨b,o,none⟩)/\(C=none->c=0):=bq.form D
   obtain⟨G,N,rfl,y0⟩:=D.at rfl 0 (by simp)
   obtain⟨_,_,e,y1⟩:=D.at rfl 1 (by simp)
   cases e
   have r:G<w.heap.size:=pV _ rfl
   have l0:∀W,Below w.heap.size w W->W.cell? ⟨G,N,none⟩=some (.int .u8 (O.size:Int)):=fun W j=>by
    have q:Q.cell? ⟨G,N,none⟩=some (.int .u8 ((b8 O.size).toNat:Int)):=y0
    rw[sI _ (by omega)] at q
    exact((j.cell (p:=⟨G,N,none⟩) r).trans (B1.cell (p:=⟨G,N,none⟩) r).symm).trans q
   have l1:∀W,Below w.heap.size w W->W.cell? ⟨G,N+1,none⟩=some (.int .u8 (s2.size:Int)):=fun W j=>by
    have q:Q.cell? ⟨G,N+1,none⟩=some (.int .u8 ((b8 s2.size).toNat:Int)):=y1
    rw[sI _ (by omega)] at q
    exact((j.cell (p:=⟨G,N+1,none⟩) r).trans (B1.cell (p:=⟨G,N+1,none⟩) r).symm).trans q
   have rf:∀(w':World) (v:Value) (s:ByteArray),Below w.heap.size w w'->fA w' S v s.data.toList->(∀g,v.ownBlock=some g->g<w.heap.size)->∀W,Below w.heap.size w W->(convert 154 9 v).run Tryz.prog W= .ok (.string s) W:=fun w' v s yL hv hg W j=>
    (show fA W S v s.data.toList from bq.keep hv fun g bg _ hs=>⟨(j.block g (hg g bg)).trans (yL.block g (hg g bg)).symm,hs⟩).str s _ _ _ aU dX bH
   have l7:=ah rf;clear rf
   have j5:=A
   rw[show ∀(x y:UInt8) (l:List UInt8),(x::y::l).drop 2=l from fun _ _ _=>rfl] at j5
   have af:=(cells3 vz).1
   have kz:w.heap.size+1<Q.heap.size:=by omega
   clear y0 y1 r3 r4 A f I hN D B
   have tokA:True:=trivial
   refine Stop.on ?_
   go_wp2
   have hC1:Q.drew.cell? ⟨w.heap.size+1,0,none⟩=some (.slice Y k c0):=af
   refine aP (fun W=>Below w.heap.size w W/\W.cell? ⟨w.heap.size+1,0,none⟩=some (.slice Y k c0)) (fun i=> !([10,17,20,21,24].contains i)) [0,1,2,3,4,5,6,7,8,9,12,13,14,15,16,10,11,17,18,19,20,21,22,23,24] rfl (by kernel_rfl) ⟨B1.drew,hC1⟩ ?_
   repeat ((refine bE (v:= ?_) rfl rfl (fun _ _ _ h=>h) rfl (fun W j=> ?_) ?_);rotate_left;(focus ((try dsimp only at j);have q0:=l0 W j.1;have q1:=l1 W j.1;have q2:=j.2;first|(go_simp;first|done|with_reducible rfl)));(try simp only[Act.put,ak,ay,ax]))
   refine bT rfl rfl rfl ?_
   intro K H
   go_simp
   refine(tJ w.heap.size w.heap.size _ O.size _ (by rw[bX];omega) Q.drew S (j5.keep rfl fun _ _=>rfl) (by rw[aB,ic];omega)).mono ?_
   rintro e w2 ⟨v1,rfl,eH,V,p9,qo,Z⟩
   have B2:Below w.heap.size w w2:=B1.drew.trans (p9.fw (by simp;omega) (fun i hi=>by omega))
   have nH:=(p9.block _ kz (by omega)).trans vz
   have n2c:=(cells3 nH).1
   have j4:w.heap.size+1<w2.heap.size:=by rw[Z];exact kz
   have lG:aV w2 S w.heap.size 188 2 (.slice Y k c0) k (dG (d.pairs.take k)):=lq.keep fun g hg hl hs=>⟨p9.block g hl (fun e=>qy (by rw[hg,e])),hs⟩
   rw[<-ic O,jc] at eH
   rw[<-ic O,Ak] at V
   have q8:=l7.out w2 v1 O B2 eH qo
   refine H.out _ _ ⟨B2,n2c⟩ ?_
   (try simp only[Act.put,ak,ay,ax])
   repeat ((refine bE (v:= ?_) rfl rfl (fun _ _ _ h=>h) rfl (fun W j=> ?_) ?_);rotate_left;(focus ((try dsimp only at j);have q0:=l0 W j.1;have q1:=l1 W j.1;have q2:=j.2;first|exact q8 W j.1|(go_simp;first|done|with_reducible rfl)));(try simp only[Act.put,ak,ay,ax]))
   refine bT rfl rfl rfl ?_
   intro K H
   go_simp
   refine(tJ w.heap.size w.heap.size _ s2.size _ (by rw[bX];omega) w2 S V (by rw[aB,ic];omega)).mono ?_
   rintro e w3 ⟨v2,rfl,nN,ai,dM,l5,q9⟩
   have B3:Below w.heap.size w w3:=B2.trans (dM.fw (by omega) (fun i hi=>by omega))
   have lg:=(dM.block _ j4 (by omega)).trans nH
   have mr:=(cells3 lg).1
   have ko:w.heap.size+1<w3.heap.size:=by rw[q9];exact j4
   have jb:aV w3 S w.heap.size 188 2 (.slice Y k c0) k (dG (d.pairs.take k)):=lG.keep fun g hg hl hs=>⟨dM.block g hl (fun e=>qy (by rw[hg,e])),hs⟩
   rw[<-ic s2,jc] at nN
   rw[<-ic s2,Ak] at ai
   have oO:=l7.out w3 v2 s2 B3 nN l5
   refine H.out _ _ ⟨B3,mr⟩ ?_
   (try simp only[Act.put,ak,ay,ax])
   repeat ((refine bE (v:= ?_) rfl rfl (fun _ _ _ h=>h) rfl (fun W j=> ?_) ?_);rotate_left;(focus ((try dsimp only at j);have q0:=l0 W j.1;have q1:=l1 W j.1;have q2:=j.2;first|exact q8 W j.1|exact oO W j.1|(go_simp;first|done|with_reducible rfl)));(try simp only[Act.put,ak,ay,ax]))
   refine bT rfl rfl rfl ?_
   intro K H
   go_simp
   have B4:=fun T=>aG w3 (.cells #[.string O,.string s2] T)
   refine H.out _ _ ⟨B3.trans ((B4 _).mono (by omega)),?_⟩ ?_
   ·exact((B4 _).cell (p:=⟨w.heap.size+1,0,none⟩) ko).trans mr
   (try simp only[Act.put,ak,ay,ax])
   refine bT rfl rfl rfl ?_
   intro K H
   refine uI (.tmp 29) (.tmp 45) 184 184 rfl S w.heap.size 188 2 32 _ gu nM rfl (.slice Y k c0) k (dG (d.pairs.take k)) rfl (jb.below (B4 _)) _ 1 [.string O,.string s2] rfl (iB [_,_] _ 2 1 1 (q9.trans (Z.trans M)) gu rfl ?_) (fun g hg=>by have:=hS g hg;rw[bD];omega) (by rw[bD];omega) (by simp only[maxLen];omega) (by omega) ?_
   ·intro u hu;simp only[aW,bQ,fJ] at hu;rcases hu with rfl|rfl<;>rfl
   intro di c5 w5 J F qf j3
   have y5:(w3.alloc (.cells #[.string O,.string s2] 188)).heap[w.heap.size]? =w3.heap[w.heap.size]? :=(B4 _).block _ (by omega)
   have X:=(F.block (w.heap.size+1) (by rw[bD];omega) (jb.ne lg (by decide))).trans (((B4 _).block _ ko).trans lg)
   have d9:=(cells3 X).1
   have vM:=(cells3 X).2.2.2.1
   have B5:Below w.heap.size w w5:=(B3.trans ((B4 _).mono (by omega))).trans qf
   refine H.out _ _ ⟨B5,d9⟩ ?_
   (try simp only[Act.put,ak,ay,ax])
   repeat ((refine bE (v:= ?_) rfl rfl (fun _ _ _ h=>h) rfl (fun W j=> ?_) ?_);rotate_left;(focus ((try dsimp only at j);have q0:=l0 W j.1;have q1:=l1 W j.1;have q2:=j.2;first|exact q8 W j.1|exact oO W j.1|(go_simp;first|done|with_reducible rfl)));(try simp only[Act.put,ak,ay,ax]))
   refine jR rfl rfl rfl (by kernel_rfl) ?_
   intro K H
   go_simp
   refine H.out _ _ (bN ?_)
   have qO:=hD0.next (w3:=w3) (w4:=w5) n B3 B5 (by rw[HR.out];exact ai) ((F.block w.heap.size (by rw[bD];omega) qy).trans y5) X (v':= .slice di (k+1) c5) (by rw[kD.out,zG.out];exact J)
   go_wp2
   go_roundw
   case rel=>exact⟨k+1,n,by go_num,qO⟩
   case measure=>simp[intOf];omega
  ·obtain rfl:k=d.pairs.length:=by omega
   have iO:∃v0,DD w S (jN d.kids++(iJ d.keys++m)) v0 d.pairs (.slice none 0 0) [] (.slice none 0 0) [] wr:=by
    obtain⟨f,⟨v0,hN,I⟩,_,dn⟩:=E
    rw[iP] at f
    rw[bL] at I
    exact⟨v0,f,hN,I,aV.nil _ _ _ _ _,aV.nil _ _ _ _ _,dn⟩
   have l1:∀W,Below w.heap.size w W->W.cell? ⟨qc,qC+1,none⟩=some (.int .u8 (d.kids.length:Int)):=fun W j=>
    ((j.cell (p:=⟨qc,qC+1,none⟩) j6).trans (ql.cell (p:=⟨qc,qC+1,none⟩) j6).symm).trans lH
   clear E hh hc ol sF lH ql n hk
   obtain⟨v0,iO⟩:=iO
   have sN:=l1 wr iO.bel
   obtain⟨wo,rfl⟩:∃wo:World,wo=wr:=⟨_,rfl⟩
   go_wp2_with fail
   go_loopw [54] (fun i wr=>∃(k:Nat) (v2:Value),k<=d.kids.length/\i= .int .i64 k/\DD w S (jN (d.kids.drop k)++(iJ d.keys++m)) v0 d.pairs (.slice none 0 0) [] v2 (d.kids.take k) wr) (fun i _=>d.kids.length - (intOf i).toNat)
   case atStart=>exact⟨0,.slice none 0 0,aR _,rfl,iO⟩
   case round=>
    obtain⟨k,v2,hk,rfl,E⟩:=hrel
    by_cases n:k<d.kids.length
    ·obtain⟨hkd0,hkd1⟩:=hf.kd d.kids[k] (bJ n)
     obtain⟨t,ht⟩:∃t:Nat,d.kids[k]=t:=⟨d.kids[k].toNat,by omega⟩
     have l6:d.kids[k].toNat=t:=by rw[ht];rfl
     obtain⟨ta,oo⟩:∃a,a=t%256:=⟨_,rfl⟩
     obtain⟨tc,sW⟩:∃a,a=t/256:=⟨_,rfl⟩
     have HT:=ah (JV ta tc t (by omega) (by omega) (by omega))
     have hta2:ta<256:=by omega
     have ng:tc<256:=by omega
     have zf:=ah oo;clear oo
     have yE:=ah sW;clear sW
     have eL:jN (d.kids.drop k)++(iJ d.keys++m)=b8 d.kids[k].toNat::b8 (d.kids[k].toNat/256)::(jN (d.kids.drop (k+1))++(iJ d.keys++m)):=by
      unfold jN;rw[tH _ _ _ n];simp[zJ]
     have f:=E.cut
     rw[eL] at f
     clear eL
     have qb:(d.kids.take k).length=k:=by rw[aQ];omega
     have qm:(d.kids.take (k+1)).length=k+1:=by rw[aQ];omega
     have vk:=E.lt
     obtain⟨fo,c2,rfl,g1,g2,_,_⟩:∃C c,v2= .slice C k c/\k<=c/\c<=9223372036854775807/\(k=0\/∃b o,C=some ⟨b,o,none⟩)/\(C=none->c=0):=by have:=E.o2.dM.form;rwa [qb] at this
     go_wp2_with (first|(go_at_call 336;go_must (refine(tJ w.heap.size w.heap.size _ 2 2 rfl _ S f (by simp)).mono ?_;rintro e Q ⟨lv,rfl,D,A,B,pV,M⟩;refine Stop.of ?_)))
     have P:=E.took B A
     rw[show ∀(x y:UInt8) (l:List UInt8),(x::y::l).drop 2=l from fun _ _ _=>rfl] at P
     obtain⟨rq,lc,rfl,r1,r2,r3,r4⟩:∃C c,lv= .slice C 2 c/\2<=c/\c<=9223372036854775807/\(2=0\/∃b o,C=some ⟨b,o,none⟩)/\(C=none->c=0):=bq.form D
     obtain⟨G,N,rfl,y0⟩:=D.at rfl 0 (by simp)
     obtain⟨_,_,e,y1⟩:=D.at rfl 1 (by simp)
     cases e
     have r:G<w.heap.size:=pV _ rfl
     have B1:=P.bel
     have m0:∀W,Below w.heap.size w W->W.cell? ⟨G,N,none⟩=some (.int .u8 (ta:Int)):=fun W j=>by
      have q:Q.cell? ⟨G,N,none⟩=some (.int .u8 ((b8 d.kids[k].toNat).toNat:Int)):=y0
      rw[l6,show (b8 t).toNat=ta by rw[zf.out];simp[b8]] at q
      exact((j.cell (p:=⟨G,N,none⟩) r).trans (B1.cell (p:=⟨G,N,none⟩) r).symm).trans q
     have m1:∀W,Below w.heap.size w W->W.cell? ⟨G,N+1,none⟩=some (.int .u8 (tc:Int)):=fun W j=>by
      have q:Q.cell? ⟨G,N+1,none⟩=some (.int .u8 ((b8 (d.kids[k].toNat/256)).toNat:Int)):=y1
      rw[l6,<-yE.out,sI _ ng] at q
      exact((j.cell (p:=⟨G,N+1,none⟩) r).trans (B1.cell (p:=⟨G,N+1,none⟩) r).symm).trans q
     clear y0 y1 r3 r4 A f D B sN
     have af:=(cells3 P.node).2.2.1
     refine Stop.on ?_
     go_wp2_with fail
     refine aP (fun W=>Below w.heap.size w W/\W.cell? ⟨w.heap.size+1,2,none⟩=some (.slice fo k c2)) (fun i=> !([15,16,19].contains i)) [0,1,2,3,4,5,6,7,8,9,10,11,12,13,14,15,16,17,18,19] rfl (by kernel_rfl) ⟨B1.drew,af⟩ ?_
     repeat ((refine bE (v:= ?_) rfl rfl (fun _ _ _ h=>h) rfl (fun W j=> ?_) ?_);rotate_left;(focus ((try dsimp only at j);have q0:=m0 W j.1;have q1:=m1 W j.1;have q2:=j.2;first|(go_simp;first|done|with_reducible rfl)));(try simp only[Act.put,ak,ay,ax]))
     refine bT rfl rfl rfl ?_
     intro K H
     go_simp
     simp only[HT.out]
     have z:=(P.alloc (.cells #[.int .i64 (t:Int)] 3)).drew
     have tY:=z.o2
     rw[qb] at tY
     refine H.out _ _ ⟨z.bel,(cells3 z.node).2.2.1⟩ ?_
     (try simp only[Act.put,ak,ay,ax])
     refine bT rfl rfl rfl ?_
     intro K H
     refine uI (.tmp 62) (.tmp 73) 39 39 rfl S w.heap.size 3 1 8 _ dR qx rfl (.slice fo k c2) k ((d.kids.take k).map (.int .i64)) rfl tY _ 1 [.int .i64 (t:Int)] rfl (iB (w:=Q.drew) [.int .i64 (t:Int)] 3 1 1 1 (g:=wr.heap.size) M dR rfl ?_) (fun g hg=>by have:=hS g hg;have:=z.lt;omega) (by have:=z.lt;omega) (by simp only[maxLen];omega) (by omega) ?_
     ·intro u hu;simp only[aW,bQ,fJ] at hu;rcases hu with rfl;rfl
     intro di c5 w5 J F qf j3
     have X:=z.node2 F
     have d9:=(cells3 X).2.2.1
     have vM:=(cells3 X).2.2.2.2.2.1
     have kC:=z.XY F qf (v':= .slice di (k+1) c5) (Ns':=d.kids.take (k+1)) (by rw[qm,aO n,dF,eP,oz,ht];exact J)
     refine H.out _ _ ⟨z.bel.trans qf,d9⟩ ?_
     (try simp only[Act.put,ak,ay,ax])
     repeat ((refine bE (v:= ?_) rfl rfl (fun _ _ _ h=>h) rfl (fun W j=> ?_) ?_);rotate_left;(focus ((try dsimp only at j);have q0:=m0 W j.1;have q1:=m1 W j.1;have q2:=j.2;first|(go_simp;first|done|with_reducible rfl)));(try simp only[Act.put,ak,ay,ax]))
     refine jR rfl rfl rfl (by kernel_rfl) ?_
     intro K H
     go_simp
     refine H.out _ _ (bN ?_)
     go_wp2
     go_roundw
     case rel=>exact⟨k+1,_,n,by go_num,kC⟩
     case measure=>simp[intOf];omega
    ·obtain rfl:k=d.kids.length:=by omega
     rw[iP,bL,show jN []++(iJ d.keys++m)=iJ d.keys++m from rfl] at E
     clear n hk iO sN
     obtain⟨wo2,rfl⟩:∃wo:World,wo=wr:=⟨_,rfl⟩
     obtain⟨fo,c2,rfl,g1,g2,_,_⟩:=E.o2.dM.form
     go_wp2
     have hkk:=hf.kk
     go_loopw [9] (fun i wr=>∃(k:Nat) (v1:Value),k<=d.keys.length/\i= .int .i64 (k+1)/\DD w S (iJ (d.keys.drop k)++m) v0 d.pairs v1 (d.keys.take k) (.slice fo d.kids.length c2) d.kids wr) (fun i _=>d.keys.length+1 - (intOf i).toNat)
     case atStart=>exact⟨0,.slice none 0 0,aR _,rfl,E⟩
     case round=>
      obtain⟨k,v1,hk,rfl,E⟩:=hrel
      have zA:=(cells3 E.node).2.2.1
      by_cases n:k<d.keys.length
      ·have hz:=hf.ky d.keys[k] (bJ n)
       have eL:iJ (d.keys.drop k)++m=b8 d.keys[k].size::(d.keys[k].data.toList++(iJ (d.keys.drop (k+1))++m)):=by
        unfold iJ;rw[tH _ _ _ n];simp[wZ]
       have f:=E.cut
       rw[eL] at f
       clear eL
       have qb:(d.keys.take k).length=k:=by rw[aQ];omega
       have qm:(d.keys.take (k+1)).length=k+1:=by rw[aQ];omega
       have vk:=E.lt
       generalize bf:d.keys[k]=O at f hz
       have kD:=ah bf;clear bf
       generalize hR:iJ (d.keys.drop (k+1))++m=R at f
       have HR:=ah hR;clear hR
       obtain⟨og,c1,rfl,g3,g4,_,_⟩:∃C c,v1= .slice C k c/\k<=c/\c<=9223372036854775807/\(k=0\/∃b o,C=some ⟨b,o,none⟩)/\(C=none->c=0):=by have:=E.o1.dM.form;rwa [qb] at this
       have hlt3:k+1<d.kids.length:=by omega
       have hlt4:(k:Int)+1<d.kids.length:=by omega
       go_wp2_with fail
       have af:=(cells3 E.node).2.1
       refine aP (fun W=>Below w.heap.size w W/\W.cell? ⟨w.heap.size+1,1,none⟩=some (.slice og k c1)) (fun i=> !([7,11,13,14,17].contains i)) [0,1,2,3,4,5,6,7,8,9,10,11,12,13,14,15,16,17] rfl (by kernel_rfl) ⟨E.bel.drew,af⟩ ?_
       repeat ((refine bE (v:= ?_) rfl rfl (fun _ _ _ h=>h) rfl (fun W j=> ?_) ?_);rotate_left;(focus ((try dsimp only at j);have q2:=j.2;first|(go_simp;first|done|with_reducible rfl)));(try simp only[Act.put,ak,ay,ax]))
       refine bT rfl rfl rfl ?_
       intro K H
       go_simp
       refine(tJ w.heap.size w.heap.size _ 1 1 rfl wr.drew S (f.keep rfl fun _ _=>rfl) (by simp)).mono ?_
       rintro e Q ⟨lv,rfl,D,A,B,pV,M⟩
       have P:=E.drew.took B A
       rw[show ∀(x:UInt8) (l:List UInt8),(x::l).drop 1=l from fun _ _=>rfl] at P
       obtain⟨rq,lc,rfl,r1,r2,r3,r4⟩:∃C c,lv= .slice C 1 c/\1<=c/\c<=9223372036854775807/\(1=0\/∃b o,C=some ⟨b,o,none⟩)/\(C=none->c=0):=bq.form D
       obtain⟨G,N,rfl,y0⟩:=D.at rfl 0 (by simp)
       have r:G<w.heap.size:=pV _ rfl
       have B1:=P.bel
       have m0:∀W,Below w.heap.size w W->W.cell? ⟨G,N,none⟩=some (.int .u8 (O.size:Int)):=fun W j=>by
        have q:Q.cell? ⟨G,N,none⟩=some (.int .u8 ((b8 O.size).toNat:Int)):=y0
        rw[sI _ hz] at q
        exact((j.cell (p:=⟨G,N,none⟩) r).trans (B1.cell (p:=⟨G,N,none⟩) r).symm).trans q
       clear y0 r3 r4 A f D B
       refine H.out _ _ ⟨B1,(cells3 P.node).2.1⟩ ?_
       (try simp only[Act.put,ak,ay,ax])
       repeat ((refine bE (v:= ?_) rfl rfl (fun _ _ _ h=>h) rfl (fun W j=> ?_) ?_);rotate_left;(focus ((try dsimp only at j);have q0:=m0 W j.1;have q2:=j.2;first|(go_simp;first|done|with_reducible rfl)));(try simp only[Act.put,ak,ay,ax]))
       refine bT rfl rfl rfl ?_
       intro K H
       go_simp
       refine(tJ w.heap.size w.heap.size _ O.size _ (by rw[bX];omega) Q S P.cut (by rw[aB,ic];omega)).mono ?_
       rintro e w2 ⟨v,rfl,eH,V,p9,qo,Z⟩
       have qO:=P.took p9 V
       rw[<-ic O,jc] at eH
       rw[<-ic O,Ak] at qO
       have B2:=qO.bel
       have q8:∀W,Below w.heap.size w W->(convert 154 9 v).run Tryz.prog W= .ok (.string O) W:=fun W j=>
        (show fA W S v O.data.toList from bq.keep eH fun g bg _ hs=>⟨(j.block g (qo g bg)).trans (B2.block g (qo g bg)).symm,hs⟩).str O _ _ _ aU dX bH
       refine H.out _ _ ⟨B2,(cells3 qO.node).2.1⟩ ?_
       (try simp only[Act.put,ak,ay,ax])
       repeat ((refine bE (v:= ?_) rfl rfl (fun _ _ _ h=>h) rfl (fun W j=> ?_) ?_);rotate_left;(focus ((try dsimp only at j);have q0:=m0 W j.1;have q2:=j.2;first|exact q8 W j.1|(go_simp;first|done|with_reducible rfl)));(try simp only[Act.put,ak,ay,ax]))
       refine bT rfl rfl rfl ?_
       intro K H
       go_simp
       have z:=qO.alloc (.cells #[.string O] 9)
       have o5:=z.o1
       rw[qb] at o5
       refine H.out _ _ ⟨z.bel,(cells3 z.node).2.1⟩ ?_
       (try simp only[Act.put,ak,ay,ax])
       refine bT rfl rfl rfl ?_
       intro K H
       refine uI (.tmp 91) (.tmp 100) 146 146 rfl S w.heap.size 9 1 16 _ iq uV rfl (.slice og k c1) k ((d.keys.take k).map .string) rfl o5 _ 1 [.string O] rfl (iB (w:=w2) [.string O] 9 1 1 1 (Z.trans M) iq rfl ?_) (fun g hg=>by have:=hS g hg;have:=z.lt;omega) (by have:=z.lt;omega) (by simp only[maxLen];omega) (by omega) ?_
       ·intro u hu;simp only[aW,bQ,fJ] at hu;rcases hu with rfl;rfl
       intro di c5 w5 J F qf j3
       have X:=z.node1 F
       have d9:=(cells3 X).2.1
       have vM:=(cells3 X).2.2.2.2.1
       have kC:=z.U7 F qf (v':= .slice di (k+1) c5) (Ks':=d.keys.take (k+1)) (by rw[qm,aO n,dF,eP,oz,kD.out];exact J)
       refine H.out _ _ ⟨z.bel.trans qf,d9⟩ ?_
       (try simp only[Act.put,ak,ay,ax])
       repeat ((refine bE (v:= ?_) rfl rfl (fun _ _ _ h=>h) rfl (fun W j=> ?_) ?_);rotate_left;(focus ((try dsimp only at j);have q0:=m0 W j.1;have q2:=j.2;first|(go_simp;first|done|with_reducible rfl)));(try simp only[Act.put,ak,ay,ax]))
       refine jR rfl rfl rfl (by kernel_rfl) ?_
       intro K H
       go_simp
       refine H.out _ _ (bN ?_)
       go_wp2
       go_roundw
       case rel=>exact⟨k+1,_,n,by go_num,by rw[HR.out];exact kC⟩
       case measure=>simp[intOf];omega
      ·obtain rfl:k=d.keys.length:=by omega
       rw[iP,bL] at E
       have hge:¬((d.keys.length:Int)+1<d.kids.length):=by omega
       obtain⟨cvv,vo,_⟩:=E.cut.2.2
       have y7:=(Qu vo).2.1
       have zy:=(cells3 E.node).1
       obtain⟨Y,c0,rfl,_,_,_,_⟩:=E.o0.dM.form
       have nD:¬(((d.pairs.length:Int)=0)↔((d.kids.length:Int)=0)):=by
        have:=hf.one
        simp only[<-List.length_eq_zero_iff,ne_eq] at this
        omega
       have hob:(((d.pairs.length:Int)==0)==((d.kids.length:Int)==0))=false:=by
        rw[Bool.eq_false_iff];intro h;rw[vZ,Bool.eq_iff_iff,vZ,vZ] at h;exact nD h
       clear nD
       go_wp2_with fail
       refine aP (fun W=>W.cell? ⟨w.heap.size,1,none⟩=some (.bool false)/\W.cell? ⟨w.heap.size+1,0,none⟩=some (.slice Y d.pairs.length c0)/\W.cell? ⟨w.heap.size+1,2,none⟩=some (.slice fo d.kids.length c2)) (fun _=>true) [0,1,2,3,4,5,6,7,8,9,10,11,12,13,14,15,16,17,18] rfl (by kernel_rfl) ⟨y7,zy,zA⟩ ?_
       repeat ((refine bE (v:= ?_) rfl rfl (fun _ _ _ h=>h) rfl (fun W j=> ?_) ?_);rotate_left;(focus ((try dsimp only at j);have q0:=j.1;have q1:=j.2.1;have q2:=j.2.2;first|(go_simp;first|done|with_reducible rfl)));(try simp only[Act.put,ak,ay,ax]))
       refine bN ?_
       go_wp2
       go_ret2
       exact⟨_,rfl,E.drew.RO vY,E.drew.bel⟩
end Go.Proofs.YtpmbddooibgnaaaGreatDoor
