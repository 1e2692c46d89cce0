--
import Derived.Test.YtogbkgmlhhahdaaGreatT14
set_option maxRecDepth 100000
set_option maxHeartbeats 0
set_option linter.all false
namespace Go.Proofs.YtogbkgmlhhahdaaGreat
open Go.RowKit
theorem Ju (g f n i:Nat)(r:List Value)(q:Nat)(a:List Value)(w:World)(S:Nat->Prop)(B:Nat)(hS:∀g,S g->g<w.heap.size)(hB:B<=w.heap.size)(h:aT w S B 103 2 (.slice (some ⟨g,0,none⟩) n f) n r)(Z:∀u∈r,u.oneCell'=true)(hv:Row w q 103 a)(D:a.length=2)(v:∀u∈a,u.oneCell'=true)(hn:n<=1000000)(hi:i<n)(p:f<n+1):
  Calls Tryz.prog 114 #[.slice (some ⟨g,0,none⟩) n f,.int .i64 i,.slice (some ⟨q,0,none⟩) 1 1] w fun e w'=>∃v',e= .returned v'/\aT w' S B 103 2 v' (n+1) (r.take (i*2)++a++r.drop (i*2))/\Keep gB w w':=by
 obtain⟨d,hr,t,hx,q8,bA,hc,qc⟩:=h.row;obtain rfl:n=f:=by omega
 have ql:n<=9223372036854775807:=by omega
 have z:=h.1.1;clear h p;have k1:(0:Int)<=(i:Int):=by omega
 have k2:(i:Int)<=(n:Int):=by omega
 have k3:(0:Int)<=(i:Int)+1:=by omega
 have k4:(i:Int)+1<=(n:Int)+1:=by omega
 have k5:((i:Int)+1).toNat=i+1:=by omega
 have k8:((i:Int)==(n:Int))=false:=by rw[fM];omega
 have k9:IntKind.i64.wrap ((i:Int)+1)=(i:Int)+1:=aG _ (by omega);have q9:¬n=i:=by omega
 have af:(n:Int)+1 - (i:Int)=((n+1 - i:Nat):Int):=by omega
 have av:i+(n+1 - i)=n+1:=by omega
 have aA:q<w.heap.size:=hv.lt;have p9:g<w.heap.size:=hr.lt;have N:=ah t;clear t;have Hx:=ah hx;clear hx;have x:=ah z;clear z;have c:=ah D;clear D;go_enter Tryz.func114,Tryz.ntmps114;go_wp2_with (first|(at_builtin;(refine dV rfl ?_);intro K W;go_must ((refine uz (.tmp 34) (.tmp 39) 52 3 rfl 103 2 32 _ bL jG iK rfl (by omega) g i n (n+1 - i) d rfl ?_ hr ?_ ?_ ?_ ?_ ?_ ?_);(focus first|rfl|(show Value.int _ _=_;congr 1));(focus rw[N.out];omega);(focus omega);(focus omega);(focus unfold maxLen;omega);(focus omega);intro l F y J o bB j s;refine W _ _ (Stop.of ?_))));have m:n+1<=l:=by omega
 have aB:¬l=i:=by omega
 have qb:¬l=i+1:=by omega
 have qo:(i:Int)<=(l:Int):=by omega
 have X:l<=9223372036854775807:=by simpa [maxLen] using j
 have pM:q≠w.heap.size:=by omega
 have M:Row F q 103 a:=hv.keep s id;have O:Row F g 103 d:=hr.keep s id;obtain⟨m1,m2,m3⟩:=OL d y r a i n l 2 hi m Hx.out (by rw[N.out];omega) o c.out;have Q:=ah o;clear o;have M1:=ah m1;clear m1;have M2:=ah m2;clear m2;have M3:=ah m3;clear m3;have b:(Builtin.firstCells 2 1 (.slice (some ⟨q,0,none⟩) 1 1)).run Tryz.prog F= .ok a.toArray F:=by
  have G:=(M.dx (S:=gB) (k:=2) (off:=0) 1 1 (by have:=c.out;omega) id (aD _) (by simp[maxLen])).first (P:=Tryz.prog) 1 (aD _);rwa [dQ,dz,jf,aJ (by have:=c.out;omega)] at G
 have Hw:=ah b;clear b;refine sN ?_;go_wp2_with (first|((refine dV rfl ?_);intro K W;(refine gZ (.tmp 43) (.tmp 44) 52 52 rfl 103 2 32 _ bL iK w.heap.size (i*2) 103 1 (n+1 - i) (l - i) (some ⟨w.heap.size,i*2,none⟩) _ ?_ J (.slice (some ⟨q,0,none⟩) 1 1) rfl 1 a rfl ?_ ?_ Hw.out (fun _=>rfl) ?_ v ?_);go_must ((focus first|rfl|(show Value.slice _ _ _=_;congr 1;omega));(focus exact(bK (by omega)).symm);(focus rw[c.out]);(focus rw[Q.out,c.out];omega);intro H I A;refine W _ _ (Stop.of ?_))));have Y:Row H g 103 d:=O.keep A (by omega);have C:(Builtin.firstCells 2 (n - i) (.slice (some ⟨g,i*2,none⟩) (n - i) (n - i))).run Tryz.prog H.drew= .ok (r.drop (i*2)).toArray H.drew:=by
  have G:=(Row.dx (w:=H.drew) (S:=gB) (k:=2) (off:=i*2) Y (n - i) (n - i) (by rw[N.out];omega) id (aD _) (by unfold maxLen;omega)).first (P:=Tryz.prog) (n - i) (aD _);rw[dz,jf] at G;rw[<-Hx.out,gQ,show n*2 - i*2=(n - i)*2 by omega];exact G
 have V:=ah C;clear C;refine sN ?_
 go_wp2
 go_region_held3 (fun _=>True) (trivial) (first|((refine zV rfl (gZ (.tmp 50) (.tmp 53) 52 52 rfl 103 2 32 _ bL iK w.heap.size ((i+1)*2) 103 (n - i) (n - i) (l - (i+1)) (some ⟨w.heap.size,(i+1)*2,none⟩) _ ?_ I (.slice (some ⟨g,i*2,none⟩) (n - i) (n - i)) ?_ (n - i) (r.drop (i*2)) rfl ?_ ?_ V.out (fun _=>rfl) ?_ ?_ ?_));(focus first|rfl|(show Value.slice _ _ _=_;congr 1;omega));(focus first|rfl|(show Value.slice _ _ _=_;congr 1<;>omega));(focus exact(jf _).symm);(focus rw[aO,x.out];omega);(focus rw[aO,x.out,M1.out];omega);(focus exact fun u hu=>Z u (cZ hu));intro w3 R T))
 go_wp2
 go_ret;have E:Keep gB w w3:=((s.trans A (fun _ t e=>absurd t (by omega))).drew).trans T (fun _ t e=>absurd t (by omega));refine⟨_,rfl,?_,E⟩;rw[<-M3.out];exact Row.own R (n+1) M2.out hB (fun hs=>absurd (hS _ hs) (dB _)) m j
def Jt (v:Value)(n i:Nat)(l:List Value)(m:Nat)(a:List Value)(w:World)(S:Nat->Prop)(B:Nat)(A:∀g,S g->g<w.heap.size)(C:B<=w.heap.size)(h:aT w S B 103 2 v n l)(r:∀u∈l,u.oneCell'=true)(z:Row w m 103 a)(y:v.ownBlock≠some m)(j:a.length=2)(b:∀u∈a,u.oneCell'=true)(x:n<=1000000)(G:i<=n):
  Calls Tryz.prog 114 #[v,.int .i64 i,.slice (some ⟨m,0,none⟩) 1 1] w fun e o=>∃c,e= .returned c/\aT o S B 103 2 c (n+1) (l.take (i*2)++a++l.drop (i*2))/\Keep (fun g=>v.ownBlock=some g) w o:=by
 have D:=h.1.1
 by_cases t:i=n
 ·subst t
  refine(LD v i l m a w S B A C h z j b x).mono ?_;rintro e o ⟨c,rfl,q,p,_⟩;refine⟨c,rfl,?_,p⟩;rw[aJ (by omega),dY (by omega),dM];exact q
 ·rcases h.1.2 with ⟨rfl,F⟩|⟨g,f,E,rfl,_⟩
  ·omega
  ·by_cases d:n+1<=f
   ·refine(LC g f n i l m a w S B h r z (fun e=>y (by rw[e];rfl)) j b x (by omega) d).mono ?_
    rintro e o ⟨c,rfl,q,p⟩;exact⟨c,rfl,q,p.mono (fun k _ s=>by rw[s];rfl)⟩
   ·refine(Ju g f n i l m a w S B A C h r z j b x (by omega) (by omega)).mono ?_
    rintro e o ⟨c,rfl,q,p⟩;exact⟨c,rfl,q,p.mono (fun _ _ s=>s.elim)⟩
structure D1 (nd:Nd)(rest:List UInt8)(w:World)(S:Nat->Prop)(k:Nat)(hv:Value)(wr:World):Prop where
 cut:IsCut wr S w.heap.size w.heap.size (qa (nd.pairs.drop k)++(kW nd.kids++(jL nd.keys++rest)))
 node:∃v0,wr.heap[w.heap.size+1]? =some (.cells #[v0,.slice none 0 0,.slice none 0 0] 165 (0,0))/\aT wr S w.heap.size 103 2 v0 k (dP (nd.pairs.take k))
 head:gF wr S hv [b8 nd.pairs.length,b8 nd.kids.length]/\∀g,hv.ownBlock=some g->g<w.heap.size
 nU:Below w.heap.size w wr
def D1.next {c:Nd}{b:List UInt8}{w:World}{S:Nat->Prop}{k:Nat}{y:Value}{wr w3 w4:World}(z:D1 c b w S k y wr)(n:k<c.pairs.length)(v:Below w.heap.size w w3)(t:Below w.heap.size w w4)
  (l:IsCut w3 S w.heap.size w.heap.size (qa (c.pairs.drop (k+1))++(kW c.kids++(jL c.keys++b)))) (m:w4.heap[w.heap.size]? =w3.heap[w.heap.size]?)
  {B v':Value} (x:w4.heap[w.heap.size+1]? =some (.cells #[B,.slice none 0 0,.slice none 0 0] 165 (0,0))) (d:aT w4 S w.heap.size 103 2 v' (k+1) (dP (c.pairs.take k)++[.string c.pairs[k].1,.string c.pairs[k].2])):
  D1 c b w S (k+1) y (w4.setCell ⟨w.heap.size+1,0,none⟩ v'):=by
 have o:=d.ne x (by decide);have q:Keep (· =w.heap.size+1) w4 (w4.setCell ⟨w.heap.size+1,0,none⟩ v'):=Keep.setCell (M:=(· =w.heap.size+1)) (p:=⟨w.heap.size+1,0,none⟩) (Keep.refl _ _) (.inr rfl) v';have i:Below w.heap.size w (w4.setCell ⟨w.heap.size+1,0,none⟩ v'):=t.setCell (by simp) v';have s:∀g,g<w.heap.size->(w4.setCell ⟨w.heap.size+1,0,none⟩ v').heap[g]? =w3.heap[g]? :=fun g f=>(i.block g f).trans (v.block g f).symm
 obtain⟨hcut,_,a,j⟩:=z;refine⟨l.keep ?_ s,⟨v',?_,?_⟩,⟨aZ.keep a.1 fun g f _ r=>⟨(i.block g (a.2 g f)).trans (j.block g (a.2 g f)).symm,r⟩,a.2⟩,i⟩
 ·rw[Kw _ _ _ _ (by simp)];exact m
 ·simp[World.setCell,aQ,x]
 ·rw[aL n,ic]
  refine aT.keep (w:=w4) d fun g f A r=>⟨q.block g A (fun e=>o (by rw[f,e])),r⟩
theorem L8 (v:Value)(a:Nd)(j:List UInt8)(w:World)(S:Nat->Prop)(hS:∀g,S g->g<w.heap.size)(h:gF w S v (a.enc++j))(hf:a.Fits)(zW:(a.enc++j).length<=1000000):
  Calls Tryz.prog 136 #[v] w fun e w'=>∃b,e= .returned (.tuple #[.pointer (some ⟨b,0,none⟩),.int .i64 0])/\iQ w' S w.heap.size b a/\Below w.heap.size w w':=by
 generalize hL:a.enc++j=l at h;have HL:=ah hL;clear hL;have tQ:¬S w.heap.size:=fun x=>absurd (hS _ x) (dB _)
 have y5:¬S (w.heap.size+1):=fun x=>absurd (hS _ x) (by omega)
 obtain⟨B,c,rfl,n1,m1,_,_⟩:=aZ.form h;have yc:∀g,(Value.slice B l.length c).ownBlock=some g->g<w.heap.size:=by
  intro g hg;obtain⟨B,c,hv,_,_,_,_,h5,_⟩:=h;cases hv
  cases B with
  |none=>cases hg
  |some ad=>cases hg;exact(h5 _ rfl).2.1
 have di:IsCut (w.alloc (.cells #[.slice B l.length c,.bool false] 276)) S w.heap.size w.heap.size l:=
  ⟨tQ,aD _,_,aV _ _,aZ.below h (aN _ _),yc⟩
 have xE:2<=l.length:=by rw[<-HL.out];simp[Nd.enc]
 go_enter Tryz.func136,Tryz.ntmps136;go_wp2_with (first|(go_at_call 171;go_must (refine(uT w.heap.size w.heap.size l 2 2 rfl _ S di xE).mono ?_;rintro e P ⟨hv,rfl,hh,hc,rA,kr,dn⟩;refine sO ?_)));have e1:l.take 2=[b8 a.pairs.length,b8 a.kids.length]:=by rw[<-HL.out];rfl
 have e2:l.drop 2=qa a.pairs++(kW a.kids++(jL a.keys++j)):=by rw[<-HL.out];simp[Nd.enc]
 rw[e1] at hh;rw[e2] at hc;clear e1 e2 di h;have qo:Below w.heap.size w P:=(aN w _).trans (rA.jF (by simp) (fun i hi=>by omega));rw[aU] at dn;obtain⟨hao,lJ,rfl,q1,q2,q3,q4⟩:∃B c,hv= .slice B 2 c/\2<=c/\c<=9223372036854775807/\(2=0\/∃b o,B=some ⟨b,o,none⟩)/\(B=none->c=0):=aZ.form hh
 obtain⟨p9,af,rfl,d0⟩:=hh.at rfl 0 (by simp);obtain⟨_,_,e,d1⟩:=hh.at rfl 1 (by simp);cases e
 have l5:P.cell? ⟨p9,af,none⟩=some (.int .u8 ((b8 a.pairs.length).toNat:Int)):=d0;rw[uh _ hf.np] at l5;have j6:P.cell? ⟨p9,af+1,none⟩=some (.int .u8 ((b8 a.kids.length).toNat:Int)):=d1;rw[uh _ hf.nk] at j6;have vz:p9<w.heap.size+1:=by rw[<-dn];exact aF P _ d0
 clear d0 d1 q3 q4;have np:=hf.np;have nk:=hf.nk;refine sN ?_;go_wp2_with fail;have jO:p9<w.heap.size:=kr _ rfl;go_loopw [21] (fun i wr=>∃k:Nat,k<=a.pairs.length/\i= .int .i64 k/\D1 a j w S k (.slice (some ⟨p9,af,none⟩) 2 lJ) wr) (fun i _=>a.pairs.length - (intOf i).toNat)
 case atStart=>
  have fK:=aN P (.cells #[.slice none 0 0,.slice none 0 0,.slice none 0 0] 165);obtain⟨tY,vo,cv,vv,vk,yx⟩:=hc;exact⟨0,aS _,rfl,⟨tY,vo,cv,(fK.block _ (by omega)).trans vv,aZ.below vk fK,yx⟩,⟨_,by rw[<-dn];exact aV _ _,aT.nil _ _ _ _ _⟩,⟨aZ.below hh fK,kr⟩,qo.trans (fK.mono (by omega))⟩
 case round=>
  obtain⟨k,hk,rfl,D⟩:=hrel
  by_cases m:k<a.pairs.length
  ·have xP:=D
   obtain⟨d,⟨v0,hN,J⟩,_,bA⟩:=D;have zX:=hf.pr a.pairs[k] (bF m);have eL:qa (a.pairs.drop k)++(kW a.kids++(jL a.keys++j))=b8 a.pairs[k].1.size::b8 a.pairs[k].2.size::(a.pairs[k].1.data.toList++(a.pairs[k].2.data.toList++(qa (a.pairs.drop (k+1))++(kW a.kids++(jL a.keys++j))))):=by
    unfold qa;rw[uS _ _ _ m];simp[DX]
   rw[eL] at d;clear eL;generalize hR:qa (a.pairs.drop (k+1))++(kW a.kids++(jL a.keys++j))=R at d;have HR:=ah hR;clear hR;have yK:a.pairs[k].1.size<=255:=(by omega);have xK:a.pairs[k].2.size<=255:=(by omega);have zS:=hk;generalize fA:a.pairs[k].1=O at d yK;generalize o5:a.pairs[k].2=s2 at d xK;have kg:=ah fA;clear fA;have r9:=ah o5;clear o5;obtain⟨V,c0,rfl,g1,g2,_,_⟩:=J.dx.form;have lg:w.heap.size+1<wr.heap.size:=(ai.1 hN).1;have q8:(Value.slice V k c0).ownBlock≠some w.heap.size:=by
    obtain⟨_,_,cv,o7,_,_⟩:=d;exact J.ne o7 (by decide)
   go_wp2_with (first|(go_at_call 171;go_must (refine(uT w.heap.size w.heap.size _ 2 2 rfl _ S d (by simp)).mono ?_;rintro e P ⟨lv,rfl,C,z,A,qb,H⟩;refine sO ?_)));have B1:Below w.heap.size w P:=bA.trans (A.jF (by omega) (fun i hi=>by omega));have rG:=(A.block _ lg (by omega)).trans hN;have j5:aT P S w.heap.size 103 2 (.slice V k c0) k (dP (a.pairs.take k)):=J.keep fun g hg hl hs=>⟨A.block g hl (fun e=>q8 (by rw[hg,e])),hs⟩
   obtain⟨oK,lc,rfl,r1,r2,r3,r4⟩:∃B c,lv= .slice B 2 c/\2<=c/\c<=9223372036854775807/\(2=0\/∃b o,B=some ⟨b,o,none⟩)/\(B=none->c=0):=aZ.form C
   obtain⟨F,M,rfl,y0⟩:=C.at rfl 0 (by simp);obtain⟨_,_,e,y1⟩:=C.at rfl 1 (by simp);cases e
   have n:F<w.heap.size:=qb _ rfl;have l0:∀W,Below w.heap.size w W->W.cell? ⟨F,M,none⟩=some (.int .u8 (O.size:Int)):=fun W f=>by
    have q:P.cell? ⟨F,M,none⟩=some (.int .u8 ((b8 O.size).toNat:Int)):=y0;rw[uh _ (by omega)] at q;exact((f.cell (p:=⟨F,M,none⟩) n).trans (B1.cell (p:=⟨F,M,none⟩) n).symm).trans q
   have l1:∀W,Below w.heap.size w W->W.cell? ⟨F,M+1,none⟩=some (.int .u8 (s2.size:Int)):=fun W f=>by
    have q:P.cell? ⟨F,M+1,none⟩=some (.int .u8 ((b8 s2.size).toNat:Int)):=y1;rw[uh _ (by omega)] at q;exact((f.cell (p:=⟨F,M+1,none⟩) n).trans (B1.cell (p:=⟨F,M+1,none⟩) n).symm).trans q
   have kT:∀(w':World) (v:Value) (s:ByteArray),Below w.heap.size w w'->gF w' S v s.data.toList->(∀g,v.ownBlock=some g->g<w.heap.size)->∀W,Below w.heap.size w W->(convert 70 9 v).run Tryz.prog W= .ok (.string s) W:=fun w' v s sP hv hg W f=>
    (show gF W S v s.data.toList from aZ.keep hv fun g fo _ hs=>⟨(f.block g (hg g fo)).trans (sP.block g (hg g fo)).symm,hs⟩).str s _ _ _ bG kX gW
   have oo:=ah kT;clear kT;have jb:=z;rw[show ∀(x y:UInt8) (l:List UInt8),(x::y::l).drop 2=l from fun _ _ _=>rfl] at jb;have fJ:=(cells3 rG).1;have jF:w.heap.size+1<P.heap.size:=(by omega);clear y0 y1 r3 r4 z d J hN C A;have za:True:=trivial;refine sN ?_
   go_wp2
   have y7:P.drew.cell? ⟨w.heap.size+1,0,none⟩=some (.slice V k c0):=fJ;refine aP (fun W=>Below w.heap.size w W/\W.cell? ⟨w.heap.size+1,0,none⟩=some (.slice V k c0)) (fun i=> !([10,17,20,21,24].contains i)) [0,1,2,3,4,5,6,7,8,9,12,13,14,15,16,10,11,17,18,19,20,21,22,23,24] rfl (by kernel_rfl) ⟨B1.drew,y7⟩ ?_
   repeat (refine oq ?_ rfl rfl rfl ?_ ?_;rotate_left;(focus intro W f;(try dsimp only at f);have q0:=l0 W f.1;have q1:=l1 W f.1;have q2:=f.2;first|(go_simp;first|done|with_reducible rfl));try simp only[Act.put,aj,au,ak])
   refine dI rfl rfl rfl ?_;intro K G
   go_simp
   refine(uT w.heap.size w.heap.size _ O.size _ (by rw[lI];omega) P.drew S (jb.keep rfl fun _ _=>rfl) (by rw[ay,jy];omega)).mono ?_;rintro e w2 ⟨v1,rfl,bB,Y,pM,q9,X⟩;have B2:Below w.heap.size w w2:=B1.drew.trans (pM.jF (by simp;omega) (fun i hi=>by omega));have mo:=(pM.block _ jF (by omega)).trans rG;have rP:=(cells3 mo).1;have jv:w.heap.size+1<w2.heap.size:=(by rw[X];exact jF);have j3:aT w2 S w.heap.size 103 2 (.slice V k c0) k (dP (a.pairs.take k)):=j5.keep fun g hg hl hs=>⟨pM.block g hl (fun e=>q8 (by rw[hg,e])),hs⟩
   rw[<-jy O,iN] at bB;rw[<-jy O,vH] at Y;have dZ:=oo.out w2 v1 O B2 bB q9;refine G.out _ _ ⟨B2,rP⟩ ?_
   (try simp only[Act.put,aj,au,ak])
   repeat (refine oq ?_ rfl rfl rfl ?_ ?_;rotate_left;(focus intro W f;(try dsimp only at f);have q0:=l0 W f.1;have q1:=l1 W f.1;have q2:=f.2;first|exact dZ W f.1|(go_simp;first|done|with_reducible rfl));try simp only[Act.put,aj,au,ak])
   refine dI rfl rfl rfl ?_;intro K G
   go_simp
   refine(uT w.heap.size w.heap.size _ s2.size _ (by rw[lI];omega) w2 S Y (by rw[ay,jy];omega)).mono ?_;rintro e w3 ⟨v2,rfl,oO,dR,bN,nS,bC⟩;have B3:Below w.heap.size w w3:=B2.trans (bN.jF (by omega) (fun i hi=>by omega));have j4:=(bN.block _ jv (by omega)).trans mo;have rF:=(cells3 j4).1;have iO:w.heap.size+1<w3.heap.size:=(by rw[bC];exact jv);have bH:aT w3 S w.heap.size 103 2 (.slice V k c0) k (dP (a.pairs.take k)):=j3.keep fun g hg hl hs=>⟨bN.block g hl (fun e=>q8 (by rw[hg,e])),hs⟩
   rw[<-jy s2,iN] at oO;rw[<-jy s2,vH] at dR;have mr:=oo.out w3 v2 s2 B3 oO nS;refine G.out _ _ ⟨B3,rF⟩ ?_
   (try simp only[Act.put,aj,au,ak])
   repeat (refine oq ?_ rfl rfl rfl ?_ ?_;rotate_left;(focus intro W f;(try dsimp only at f);have q0:=l0 W f.1;have q1:=l1 W f.1;have q2:=f.2;first|exact dZ W f.1|exact mr W f.1|(go_simp;first|done|with_reducible rfl));try simp only[Act.put,aj,au,ak])
   refine dI rfl rfl rfl ?_;intro K G
   go_simp
   have B4:=fun T=>aN w3 (.cells #[.string O,.string s2] T)
   refine G.out _ _ ⟨B3.trans ((B4 _).mono (by omega)),?_⟩ ?_
   ·exact((B4 _).cell (p:=⟨w.heap.size+1,0,none⟩) iO).trans rF
   (try simp only[Act.put,aj,au,ak])
   refine dI rfl rfl rfl ?_;intro K G;refine ol (.tmp 29) (.tmp 45) 52 52 rfl S w.heap.size 103 2 32 _ bL iK rfl (.slice V k c0) k (dP (a.pairs.take k)) rfl (bH.below (B4 _)) _ 1 [.string O,.string s2] rfl (gq [_,_] _ 2 1 1 (bC.trans (X.trans H)) bL rfl ?_) (fun g hg=>by have:=hS g hg;rw[aU];omega) (by rw[aU];omega) (by simp only[maxLen];omega) (by omega) ?_
   ·intro u hu;simp only[bO,gL,oV] at hu;rcases hu with rfl|rfl<;>rfl
   intro aB c5 w5 I E ql jl;have yo:(w3.alloc (.cells #[.string O,.string s2] 103)).heap[w.heap.size]? =w3.heap[w.heap.size]? :=(B4 _).block _ (by omega);have Q:=(E.block (w.heap.size+1) (by rw[aU];omega) (bH.ne j4 (by decide))).trans (((B4 _).block _ iO).trans j4);have aA:=(cells3 Q).1;have nH:=(cells3 Q).2.2.2.1;have B5:Below w.heap.size w w5:=(B3.trans ((B4 _).mono (by omega))).trans ql;refine G.out _ _ ⟨B5,aA⟩ ?_
   (try simp only[Act.put,aj,au,ak])
   repeat (refine oq ?_ rfl rfl rfl ?_ ?_;rotate_left;(focus intro W f;(try dsimp only at f);have q0:=l0 W f.1;have q1:=l1 W f.1;have q2:=f.2;first|exact dZ W f.1|exact mr W f.1|(go_simp;first|done|with_reducible rfl));try simp only[Act.put,aj,au,ak])
   refine jC rfl rfl rfl (by kernel_rfl) ?_;intro K G
   go_simp
   refine G.out _ _ (bR ?_);have av:=xP.next (w3:=w3) (w4:=w5) m B3 B5 (by rw[HR.out];exact dR) ((E.block w.heap.size (by rw[aU];omega) q8).trans yo) Q (v':= .slice aB (k+1) c5) (by rw[kg.out,r9.out];exact I)
   go_wp2
   go_roundw
   case rel=>exact⟨k+1,m,by go_num,av⟩
   case measure=>simp[intOf];omega
  ·obtain rfl:k=a.pairs.length:=by omega
   have dx:∃v0,DD w S (kW a.kids++(jL a.keys++j)) v0 a.pairs (.slice none 0 0) [] (.slice none 0 0) [] wr:=by
    obtain⟨d,⟨v0,hN,J⟩,_,bA⟩:=D;rw[kY] at d;rw[bS] at J;exact⟨v0,d,hN,J,aT.nil _ _ _ _ _,aT.nil _ _ _ _ _,bA⟩
   have l1:∀W,Below w.heap.size w W->W.cell? ⟨p9,af+1,none⟩=some (.int .u8 (a.kids.length:Int)):=fun W f=>
    ((f.cell (p:=⟨p9,af+1,none⟩) jO).trans (qo.cell (p:=⟨p9,af+1,none⟩) jO).symm).trans j6
   clear D hh hc rA l5 j6 qo m hk;obtain⟨v0,dx⟩:=dx;have l9:=l1 wr dx.nU;obtain⟨wo,rfl⟩:=nx wr;go_wp2_with fail;go_loopw [54] (fun i wr=>∃(k:Nat) (v2:Value),k<=a.kids.length/\i= .int .i64 k/\DD w S (kW (a.kids.drop k)++(jL a.keys++j)) v0 a.pairs (.slice none 0 0) [] v2 (a.kids.take k) wr) (fun i _=>a.kids.length - (intOf i).toNat)
   case atStart=>exact⟨0,.slice none 0 0,aS _,rfl,dx⟩
   case round=>
    obtain⟨k,v2,hk,rfl,D⟩:=hrel
    by_cases m:k<a.kids.length
    ·obtain⟨zf,y8⟩:=hf.kd a.kids[k] (bF m)
     obtain⟨t,ht⟩:∃t:Nat,a.kids[k]=t:=⟨a.kids[k].toNat,by omega⟩
     have l6:a.kids[k].toNat=t:=(by rw[ht];rfl);obtain⟨ta,nJ⟩:=nx (t%256);obtain⟨tc,mK⟩:=nx (t/256);have HT:=ah (Lx ta tc t (by omega) (by omega) (by omega));have zm:ta<256:=(by omega);have rJ:tc<256:=(by omega);have rX:=ah nJ;clear nJ;have sF:=ah mK;clear mK;have eL:kW (a.kids.drop k)++(jL a.keys++j)=b8 a.kids[k].toNat::b8 (a.kids[k].toNat/256)::(kW (a.kids.drop (k+1))++(jL a.keys++j)):=by
      unfold kW;rw[uS _ _ _ m];simp[AZ]
     have d:=D.cut;rw[eL] at d;clear eL;have Z:(a.kids.take k).length=k:=(by rw[aH];omega);have qc:(a.kids.take (k+1)).length=k+1:=(by rw[aH];omega);have lQ:=D.lt;obtain⟨fB,c2,rfl,g1,g2,_,_⟩:∃B c,v2= .slice B k c/\k<=c/\c<=9223372036854775807/\(k=0\/∃b o,B=some ⟨b,o,none⟩)/\(B=none->c=0):=by have:=D.o2.dx.form;rwa [Z] at this
     go_wp2_with (first|(go_at_call 171;go_must (refine(uT w.heap.size w.heap.size _ 2 2 rfl _ S d (by simp)).mono ?_;rintro e P ⟨lv,rfl,C,z,A,qb,H⟩;refine sO ?_)));have N:=D.took A z;rw[show ∀(x y:UInt8) (l:List UInt8),(x::y::l).drop 2=l from fun _ _ _=>rfl] at N;obtain⟨oK,lc,rfl,r1,r2,r3,r4⟩:∃B c,lv= .slice B 2 c/\2<=c/\c<=9223372036854775807/\(2=0\/∃b o,B=some ⟨b,o,none⟩)/\(B=none->c=0):=aZ.form C
     obtain⟨F,M,rfl,y0⟩:=C.at rfl 0 (by simp);obtain⟨_,_,e,y1⟩:=C.at rfl 1 (by simp);cases e
     have n:F<w.heap.size:=qb _ rfl;have B1:=N.nU;have m0:∀W,Below w.heap.size w W->W.cell? ⟨F,M,none⟩=some (.int .u8 (ta:Int)):=fun W f=>by
      have q:P.cell? ⟨F,M,none⟩=some (.int .u8 ((b8 a.kids[k].toNat).toNat:Int)):=y0;rw[l6,show (b8 t).toNat=ta by rw[rX.out];simp[b8]] at q;exact((f.cell (p:=⟨F,M,none⟩) n).trans (B1.cell (p:=⟨F,M,none⟩) n).symm).trans q
     have m1:∀W,Below w.heap.size w W->W.cell? ⟨F,M+1,none⟩=some (.int .u8 (tc:Int)):=fun W f=>by
      have q:P.cell? ⟨F,M+1,none⟩=some (.int .u8 ((b8 (a.kids[k].toNat/256)).toNat:Int)):=y1;rw[l6,<-sF.out,uh _ rJ] at q;exact((f.cell (p:=⟨F,M+1,none⟩) n).trans (B1.cell (p:=⟨F,M+1,none⟩) n).symm).trans q
     clear y0 y1 r3 r4 z d C A l9;have fJ:=(cells3 N.node).2.2.1;refine sN ?_;go_wp2_with fail;refine aP (fun W=>Below w.heap.size w W/\W.cell? ⟨w.heap.size+1,2,none⟩=some (.slice fB k c2)) (fun i=> !([15,16,19].contains i)) [0,1,2,3,4,5,6,7,8,9,10,11,12,13,14,15,16,17,18,19] rfl (by kernel_rfl) ⟨B1.drew,fJ⟩ ?_
     repeat (refine oq ?_ rfl rfl rfl ?_ ?_;rotate_left;(focus intro W f;(try dsimp only at f);have q0:=m0 W f.1;have q1:=m1 W f.1;have q2:=f.2;first|(go_simp;first|done|with_reducible rfl));try simp only[Act.put,aj,au,ak])
     refine dI rfl rfl rfl ?_;intro K G
     go_simp
     simp only[HT.out];have r:=(N.alloc (.cells #[.int .i64 (t:Int)] 3)).drew;have oH:=r.o2;rw[Z] at oH;refine G.out _ _ ⟨r.nU,(cells3 r.node).2.2.1⟩ ?_
     (try simp only[Act.put,aj,au,ak])
     refine dI rfl rfl rfl ?_;intro K G;refine ol (.tmp 62) (.tmp 73) 93 93 rfl S w.heap.size 3 1 8 _ bE iq rfl (.slice fB k c2) k ((a.kids.take k).map (.int .i64)) rfl oH _ 1 [.int .i64 (t:Int)] rfl (gq (w:=P.drew) [.int .i64 (t:Int)] 3 1 1 1 (g:=wr.heap.size) H bE rfl ?_) (fun g hg=>by have:=hS g hg;have:=r.lt;omega) (by have:=r.lt;omega) (by simp only[maxLen];omega) (by omega) ?_
     ·intro u hu;simp only[bO,gL,oV] at hu;rcases hu with rfl;rfl
     intro aB c5 w5 I E ql jl;have Q:=r.node2 E;have aA:=(cells3 Q).2.2.1;have nH:=(cells3 Q).2.2.2.2.2.1;have ko:=r.UZ E ql (v':= .slice aB (k+1) c5) (Ns':=a.kids.take (k+1)) (by rw[qc,aL m,bT,dK,iH,ht];exact I);refine G.out _ _ ⟨r.nU.trans ql,aA⟩ ?_
     (try simp only[Act.put,aj,au,ak])
     repeat (refine oq ?_ rfl rfl rfl ?_ ?_;rotate_left;(focus intro W f;(try dsimp only at f);have q0:=m0 W f.1;have q1:=m1 W f.1;have q2:=f.2;first|(go_simp;first|done|with_reducible rfl));try simp only[Act.put,aj,au,ak])
     refine jC rfl rfl rfl (by kernel_rfl) ?_;intro K G
     go_simp
     refine G.out _ _ (bR ?_)
     go_wp2
     go_roundw
     case rel=>exact⟨k+1,_,m,by go_num,ko⟩
     case measure=>simp[intOf];omega
    ·obtain rfl:k=a.kids.length:=by omega
     rw[kY,bS,show kW []++(jL a.keys++j)=jL a.keys++j from rfl] at D;clear m hk dx l9;obtain⟨z8,rfl⟩:=nx wr;obtain⟨fB,c2,rfl,g1,g2,_,_⟩:=D.o2.dx.form
     go_wp2
     have zA:=hf.kk;go_loopw [9] (fun i wr=>∃(k:Nat) (v1:Value),k<=a.keys.length/\i= .int .i64 (k+1)/\DD w S (jL (a.keys.drop k)++j) v0 a.pairs v1 (a.keys.take k) (.slice fB a.kids.length c2) a.kids wr) (fun i _=>a.keys.length+1 - (intOf i).toNat)
     case atStart=>exact⟨0,.slice none 0 0,aS _,rfl,D⟩
     case round=>
      obtain⟨k,v1,hk,rfl,D⟩:=hrel;have rV:=(cells3 D.node).2.2.1
      by_cases m:k<a.keys.length
      ·have hz:=hf.ky a.keys[k] (bF m)
       have eL:jL (a.keys.drop k)++j=b8 a.keys[k].size::(a.keys[k].data.toList++(jL (a.keys.drop (k+1))++j)):=by
        unfold jL;rw[uS _ _ _ m];simp[yV]
       have d:=D.cut;rw[eL] at d;clear eL;have Z:(a.keys.take k).length=k:=(by rw[aH];omega);have qc:(a.keys.take (k+1)).length=k+1:=(by rw[aH];omega);have lQ:=D.lt;generalize fA:a.keys[k]=O at d hz;have kg:=ah fA;clear fA;generalize hR:jL (a.keys.drop (k+1))++j=R at d;have HR:=ah hR;clear hR;obtain⟨lC,c1,rfl,g3,g4,_,_⟩:∃B c,v1= .slice B k c/\k<=c/\c<=9223372036854775807/\(k=0\/∃b o,B=some ⟨b,o,none⟩)/\(B=none->c=0):=by have:=D.o1.dx.form;rwa [Z] at this
       have zn:k+1<a.kids.length:=(by omega);have zb:(k:Int)+1<a.kids.length:=(by omega);go_wp2_with fail;have fJ:=(cells3 D.node).2.1;refine aP (fun W=>Below w.heap.size w W/\W.cell? ⟨w.heap.size+1,1,none⟩=some (.slice lC k c1)) (fun i=> !([7,11,13,14,17].contains i)) [0,1,2,3,4,5,6,7,8,9,10,11,12,13,14,15,16,17] rfl (by kernel_rfl) ⟨D.nU.drew,fJ⟩ ?_
       repeat (refine oq ?_ rfl rfl rfl ?_ ?_;rotate_left;(focus intro W f;(try dsimp only at f);have q2:=f.2;first|(go_simp;first|done|with_reducible rfl));try simp only[Act.put,aj,au,ak])
       refine dI rfl rfl rfl ?_;intro K G
       go_simp
       refine(uT w.heap.size w.heap.size _ 1 1 rfl wr.drew S (d.keep rfl fun _ _=>rfl) (by simp)).mono ?_;rintro e P ⟨lv,rfl,C,z,A,qb,H⟩;have N:=D.drew.took A z;rw[show ∀(x:UInt8) (l:List UInt8),(x::l).drop 1=l from fun _ _=>rfl] at N;obtain⟨oK,lc,rfl,r1,r2,r3,r4⟩:∃B c,lv= .slice B 1 c/\1<=c/\c<=9223372036854775807/\(1=0\/∃b o,B=some ⟨b,o,none⟩)/\(B=none->c=0):=aZ.form C
       obtain⟨F,M,rfl,y0⟩:=C.at rfl 0 (by simp);have n:F<w.heap.size:=qb _ rfl;have B1:=N.nU;have m0:∀W,Below w.heap.size w W->W.cell? ⟨F,M,none⟩=some (.int .u8 (O.size:Int)):=fun W f=>by
        have q:P.cell? ⟨F,M,none⟩=some (.int .u8 ((b8 O.size).toNat:Int)):=y0;rw[uh _ hz] at q;exact((f.cell (p:=⟨F,M,none⟩) n).trans (B1.cell (p:=⟨F,M,none⟩) n).symm).trans q
       clear y0 r3 r4 z d C A;refine G.out _ _ ⟨B1,(cells3 N.node).2.1⟩ ?_
       (try simp only[Act.put,aj,au,ak])
       repeat (refine oq ?_ rfl rfl rfl ?_ ?_;rotate_left;(focus intro W f;(try dsimp only at f);have q0:=m0 W f.1;have q2:=f.2;first|(go_simp;first|done|with_reducible rfl));try simp only[Act.put,aj,au,ak])
       refine dI rfl rfl rfl ?_;intro K G
       go_simp
       refine(uT w.heap.size w.heap.size _ O.size _ (by rw[lI];omega) P S N.cut (by rw[ay,jy];omega)).mono ?_;rintro e w2 ⟨v,rfl,bB,Y,pM,q9,X⟩;have av:=N.took pM Y;rw[<-jy O,iN] at bB;rw[<-jy O,vH] at av;have B2:=av.nU;have dZ:∀W,Below w.heap.size w W->(convert 70 9 v).run Tryz.prog W= .ok (.string O) W:=fun W f=>
        (show gF W S v O.data.toList from aZ.keep bB fun g fo _ hs=>⟨(f.block g (q9 g fo)).trans (B2.block g (q9 g fo)).symm,hs⟩).str O _ _ _ bG kX gW
       refine G.out _ _ ⟨B2,(cells3 av.node).2.1⟩ ?_
       (try simp only[Act.put,aj,au,ak])
       repeat (refine oq ?_ rfl rfl rfl ?_ ?_;rotate_left;(focus intro W f;(try dsimp only at f);have q0:=m0 W f.1;have q2:=f.2;first|exact dZ W f.1|(go_simp;first|done|with_reducible rfl));try simp only[Act.put,aj,au,ak])
       refine dI rfl rfl rfl ?_;intro K G
       go_simp
       have r:=av.alloc (.cells #[.string O] 9);have o6:=r.o1;rw[Z] at o6;refine G.out _ _ ⟨r.nU,(cells3 r.node).2.1⟩ ?_
       (try simp only[Act.put,aj,au,ak])
       refine dI rfl rfl rfl ?_;intro K G;refine ol (.tmp 91) (.tmp 100) 142 142 rfl S w.heap.size 9 1 16 _ bq ig rfl (.slice lC k c1) k ((a.keys.take k).map .string) rfl o6 _ 1 [.string O] rfl (gq (w:=w2) [.string O] 9 1 1 1 (X.trans H) bq rfl ?_) (fun g hg=>by have:=hS g hg;have:=r.lt;omega) (by have:=r.lt;omega) (by simp only[maxLen];omega) (by omega) ?_
       ·intro u hu;simp only[bO,gL,oV] at hu;rcases hu with rfl;rfl
       intro aB c5 w5 I E ql jl;have Q:=r.node1 E;have aA:=(cells3 Q).2.1;have nH:=(cells3 Q).2.2.2.2.1;have ko:=r.QJ E ql (v':= .slice aB (k+1) c5) (Ks':=a.keys.take (k+1)) (by rw[qc,aL m,bT,dK,iH,kg.out];exact I);refine G.out _ _ ⟨r.nU.trans ql,aA⟩ ?_
       (try simp only[Act.put,aj,au,ak])
       repeat (refine oq ?_ rfl rfl rfl ?_ ?_;rotate_left;(focus intro W f;(try dsimp only at f);have q0:=m0 W f.1;have q2:=f.2;first|(go_simp;first|done|with_reducible rfl));try simp only[Act.put,aj,au,ak])
       refine jC rfl rfl rfl (by kernel_rfl) ?_;intro K G
       go_simp
       refine G.out _ _ (bR ?_)
       go_wp2
       go_roundw
       case rel=>exact⟨k+1,_,m,by go_num,by rw[HR.out];exact ko⟩
       case measure=>simp[intOf];omega
      ·obtain rfl:k=a.keys.length:=by omega
       rw[kY,bS] at D;have hge:¬((a.keys.length:Int)+1<a.kids.length):=(by omega);obtain⟨zP,nA,_⟩:=D.cut.2.2;have xV:=(RO nA).2.1;have vO:=(cells3 D.node).1;obtain⟨V,c0,rfl,_,_,_,_⟩:=D.o0.dx.form;have lm:¬(((a.pairs.length:Int)=0)↔((a.kids.length:Int)=0)):=by
        have:=hf.one;simp only[<-List.length_eq_zero_iff,ne_eq] at this;omega
       have hob:(((a.pairs.length:Int)==0)==((a.kids.length:Int)==0))=false:=by
        rw[vJ];intro h;rw[qQ,Bool.eq_iff_iff,qQ,qQ] at h;exact lm h
       clear lm;go_wp2_with fail;refine aP (fun W=>W.cell? ⟨w.heap.size,1,none⟩=some (.bool false)/\W.cell? ⟨w.heap.size+1,0,none⟩=some (.slice V a.pairs.length c0)/\W.cell? ⟨w.heap.size+1,2,none⟩=some (.slice fB a.kids.length c2)) (fun _=>true) [0,1,2,3,4,5,6,7,8,9,10,11,12,13,14,15,16,17,18] rfl (by kernel_rfl) ⟨xV,vO,rV⟩ ?_
       repeat (refine oq ?_ rfl rfl rfl ?_ ?_;rotate_left;(focus intro W f;(try dsimp only at f);have q0:=f.1;have q1:=f.2.1;have q2:=f.2.2;first|(go_simp;first|done|with_reducible rfl));try simp only[Act.put,aj,au,ak])
       refine bR ?_
       go_wp2
       go_ret2;exact⟨_,rfl,D.drew.Ty y5,D.drew.nU⟩
