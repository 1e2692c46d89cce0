--
import Derived.Test.YtogbkgmlhhahdaaGreatT14
set_option maxRecDepth 100000
set_option maxHeartbeats 0
set_option linter.all false
namespace Go.Proofs.YtogbkgmlhhahdaaGreat
open Go.RowKit
variable{S:Nat->Prop}{v:Value}{w:World}
abbrev Pc:=Int×ByteArray
def mq (ps:List Pc):List Value:=ps.flatMap fun p=>[.int .i64 p.1,.string p.2]
def Kk (w:World)(S:Nat->Prop)(v:Value)(ps:List Pc):Prop:=aZ w S 2 v ps.length (mq ps)
def I4 (a:List Pc):∀i (h:i<a.length),(mq a)[i*2]? =some (.int .i64 a[i].1)/\(mq a)[i*2+1]? =some (.string a[i].2):=by
 induction a with
 |nil=>intro i h;simp at h
 |cons p a ih=>
  intro i h;cases i with
  |zero=>exact⟨rfl,rfl⟩
  |succ i=>
   have:=ih i (by simpa using h);rw[UB];exact this
def Kk.at {a:List Pc}{f:Option Addr}{n c:Nat}(h:Kk w S v a)(p:v= .slice f n c)(i:Nat)(m:i<a.length):
  ∃b o,f=some ⟨b,o,none⟩/\w.cell? ⟨b,o+i*2,none⟩=some (.int .i64 a[i].1)/\w.cell? ⟨b,o+i*2+1,none⟩=some (.string a[i].2):=by
 obtain⟨q,r,rfl,_,_,_,_,_,j⟩:=h;cases p
 have d:=I4 a i m;obtain⟨b,o,e,l⟩:=j _ _ d.1;obtain⟨s,t,g,k⟩:=j _ _ d.2;rw[e] at g;cases g
 exact⟨b,o,e,l,by rw[mP];exact k⟩
def mI (x:ByteArray):List Pc->List ByteArray
 |[]=>[]
 |_::r=>x::r.map (·.2)
def Gy (x:ByteArray)(a:List Pc):(mI x a).length=a.length:=by cases a<;>simp[mI]
def Lf (x:ByteArray)(a:List Pc)(h:0<(mI x a).length):(mI x a)[0]=x:=by cases a with|nil=>simp[mI] at h|cons=>rfl
def Li (x:ByteArray)(a:List Pc)(k:Nat)(c:0<k)(h:k<(mI x a).length)(b:k<a.length):(mI x a)[k]=a[k].2:=by
 cases a with
 |nil=>simp at b
 |cons p r=>
  obtain⟨k,rfl⟩:∃d,k=d+1:=⟨k - 1,by omega⟩
  simp[mI]
def iw (nd:Nd):List ByteArray:=⟨#[]⟩::nd.keys
def Nd.rG (nd:Nd)(i:Nat)(ps:List Pc):Nd:=
 ⟨nd.pairs,((iw nd).take i++mI ((iw nd).getD i ⟨#[]⟩) ps++(iw nd).drop (i+1)).drop 1,nd.kids.take i++ps.map (·.1)++nd.kids.drop (i+1)⟩
def aZ.empty {e:World}{k:Nat}(h:aZ w S k v 0 [])(o:w.heap.size<=e.heap.size):aZ e S k v 0 []:=by
 obtain⟨g,c,rfl,l,f,n,j,b,p⟩:=h;exact⟨g,c,rfl,l,f,n,j,fun d a=>⟨(b d a).1,ax (b d a).2.1 o,(b d a).2.2⟩,fun i u m=>by simp at m⟩
def aT.base {B c e k n:Nat}{d:List Value}(h:aT w S c e k v n d)(j:B<=c):aT w S B e k v n d:=by
 refine⟨⟨h.1.1,?_⟩,h.2⟩;rcases h.1.2 with i|⟨g,b,a,f,m,l⟩
 ·exact .inl i
 ·exact .inr ⟨g,b,a,f,aK j m,l⟩
def vU {a:World}{b:Nat}{o A y f d:Value}{r:List ByteArray}{q:List Int}(n:a.heap[b]? =some (.cells #[o,A,y] 165 (0,0)))(t:jo a S o [])(x:jP a S f r)(i:f.ownBlock≠some b)(s:jV a S d q)(k:d.ownBlock≠some b)(z:¬S b)(v:Keep (· =b) w a):
  gN ((a.setCell ⟨b,2,none⟩ d).setCell ⟨b,1,none⟩ f) S b ⟨[],r,q⟩/\Keep (· =b) w ((a.setCell ⟨b,2,none⟩ d).setCell ⟨b,1,none⟩ f):=by
 have c:Keep (· =b) a ((a.setCell ⟨b,2,none⟩ d).setCell ⟨b,1,none⟩ f):=((Keep.refl (· =b) a).setCell (p:=⟨b,2,none⟩) (.inr rfl) d).setCell (p:=⟨b,1,none⟩) (.inr rfl) f;refine⟨⟨z,o,f,d,?_,aZ.empty t c.size,aZ.keep x fun g j l m=>⟨c.block g l (fun e=>i (by rw[j,e])),m⟩,aZ.keep s fun g j l m=>⟨c.block g l (fun e=>k (by rw[j,e])),m⟩⟩,v.trans c (fun _ _ h=>h)⟩;simp[World.setCell,aQ,n]
theorem Br (b:Nat)(c:Nd)(lv:Value)(a:List Pc)(i:Nat)(w:World)(S:Nat->Prop)(hS:∀g,S g->g<w.heap.size)(h:gN w S b c)(hp:c.pairs=[])(G:Kk w S lv a)(hi:i<c.kids.length)(fK:c.keys.length=c.kids.length - 1)(xE:c.kids.length<=100000)(j5:a.length<=100000):
  Calls Tryz.prog 153 #[.pointer (some ⟨b,0,none⟩),.int .i64 i,lv] w fun e w'=>e= .returned (.tuple #[])/\gN w' S b (c.rG i a)/\Keep (· =b) w w':=by
 have hN:=h;obtain⟨bB,v0,v1,v2,hb,h0,h1,oo⟩:=h;obtain⟨c0,c1,c2,_,_,_,Z⟩:=cells3 hb;obtain⟨r9,lc,rfl,l1,l2,l3,l4⟩:=aZ.form G;obtain⟨l6,kc,rfl,n1,m1,q1,_⟩:=aZ.form h1;have fA:=mX (w:=w) (S:=S) (B:=w.heap.size) (e:=9) (k:=1) [.string ⟨#[]⟩] 1 1 rfl rfl (aD _) (by simp[maxLen]) (aD _) hS;have di:Src Tryz.prog 1 142 (.slice l6 c.keys.length kc) c.keys.length (c.keys.map .string) (w.alloc (.cells #[.string ⟨#[]⟩] 9)):=(aZ.below h1 (aN w _)).src bq (pI _);have Y:c.keys.length<=100000:=by omega
 have q8:=ah fK;clear fK;go_enter Tryz.func153,Tryz.ntmps153;go_wp2_with (at_builtin;go_must ((refine cO rfl (.tmp 12) (.tmp 16) 142 142 rfl S w.heap.size 9 1 16 _ bq ig rfl (.slice (some ⟨w.heap.size,0,none⟩) 1 1) 1 [.string ⟨#[]⟩] rfl fA (.slice l6 c.keys.length kc) _ _ rfl di (fe hS _) ?_ ?_ ?_ ?_);(focus simp only[aU];omega);(focus unfold maxLen;omega);(focus omega);intro rG T w1 z oH kr tQ;refine sO ?_));have o5:[Value.string ⟨#[]⟩]++c.keys.map .string=(iw c).map .string:=rfl;rw[o5] at z;have dn:(iw c).length=c.keys.length+1:=rfl;have j3:=oH.size;rw[aU] at j3;have nH:Below w.heap.size w w1:=(aN w _).trans kr;refine sN ?_;go_wp2_with fail;obtain⟨x,hx⟩:=nx ((iw c).getD i ⟨#[]⟩);have bN:(iw c)[i]? =some x:=by rw[hx,eu,bD (by rw[dn,q8.out];omega)];rfl
 have l9:=aZ.EM z.dx rfl i (.string x) (by rw[eZ,bN];rfl);obtain⟨eb,eo,rfl,l9⟩:=l9;have j4:=Gy x a;have HX:=ah hx;clear hx;have jl:=ah bN;clear bN;have HM:=ah j4;clear j4;have HE:=ah dn;clear dn;go_loopw [7,8,20] (fun mv kv i wr=>∃(k:Nat) (ao co:Option Addr) (cm ck:Nat),k<=a.length/\i= .int .i64 k/\mv= .slice ao k cm/\kv= .slice co k ck/\aT wr S w.heap.size 9 1 mv k (((mI x a).take k).map .string)/\aT wr S w.heap.size 3 1 kv k ((a.take k).map fun p=> .int .i64 p.1)/\
   aT wr S w.heap.size 9 1 (.slice (some ⟨eb,eo,none⟩) (1+c.keys.length) T) (1+c.keys.length) ((iw c).map .string)/\(∀g,mv.ownBlock=some g->(Value.slice (some ⟨eb,eo,none⟩) (1+c.keys.length) T).ownBlock≠some g)/\Below w.heap.size w wr) (fun _ _ i _=>a.length - (intOf i).toNat)
 case atStart=>exact⟨0,none,none,0,0,aS _,rfl,rfl,rfl,aT.nil _ _ _ _ _,aT.nil _ _ _ _ _,z,(fun g f=>by cases f),nH⟩
 case round=>
  obtain⟨k,ao,co,cm,ck,hk,rfl,rfl,rfl,hm,A,v,qo,m⟩:=hrel
  by_cases l:k<a.length
  ·obtain⟨lb,lo,rfl,d1,d2⟩:=G.at rfl k l
   have e1:=(m.cell (p:=⟨lb,lo+k*2,none⟩) (aF w _ d1)).trans d1;have e2:=(m.cell (p:=⟨lb,lo+k*2+1,none⟩) (aF w _ d2)).trans d2;have V:∀g,S g->g<wr.heap.size:=fun g f=>ax (hS g f) m.size
   have X:=m.size;have vo:wr.cell? ⟨eb,eo+i,none⟩=some (.string x):=by
    obtain⟨_,_,e,hc⟩:=aZ.EM v.dx rfl i (.string x) (by rw[eZ,jl.out];rfl);cases e;exact hc
   have vk:=v.1.lt eb rfl;have iO:i<1+c.keys.length:=(by rw[q8.out];omega);have vO:(i:Int)<1+(c.keys.length:Int):=(by omega);go_wp2_with (first|(at_builtin;(refine cO rfl (.tmp 25) (.tmp 28) 93 93 rfl S w.heap.size 3 1 8 _ bE iq rfl (.slice co k ck) k _ rfl (A.below (gK wr (.cells #[.int .i64 a[k].1,.string a[k].2] 253) (.cells #[.int .i64 a[k].1] 3))) _ 1 [.int .i64 a[k].1] rfl (gq (w:=wr.alloc (.cells #[.int .i64 a[k].1,.string a[k].2] 253)) [.int .i64 a[k].1] 3 1 1 1 (g:=wr.heap.size+1) (aU _ _) bE rfl (by intro u J;simp only[bO,gL,oV] at J;rcases J with rfl;rfl)) (fe (fe V _) _) ?_ ?_ ?_ ?_);go_must ((focus simp only[aU];omega);(focus unfold maxLen;omega);(focus omega);intro fo bA q d s j5 sF;refine sO ?_)))
   have jb:=s.size;rw[aU,aU] at jb;have bC:=(hm.below (gK wr (.cells #[.int .i64 a[k].1,.string a[k].2] 253) (.cells #[.int .i64 a[k].1] 3))).keep (w':=q) fun g f G P=>⟨s.block g G (hm.Hz A (by decide) g f),P⟩
   have K:=(v.below (gK wr (.cells #[.int .i64 a[k].1,.string a[k].2] 253) (.cells #[.int .i64 a[k].1] 3))).keep (w':=q) fun g f G P=>⟨s.block g G (v.Hz A (by decide) g f),P⟩
   have Q:Below w.heap.size w q:=(m.trans ((gK wr _ _).mono X)).trans j5;have rA:q.cell? ⟨eb,eo+i,none⟩=some (.string x):=by
    obtain⟨_,_,e,hc⟩:=aZ.EM K.dx rfl i (.string x) (by rw[eZ,jl.out];rfl);cases e;exact hc
   have sP:q.cell? ⟨wr.heap.size,1,none⟩=some (.string a[k].2):=(s.cell (p:=⟨wr.heap.size,1,none⟩) (by simp only[aU];omega) A.lt).trans (by simp[yF]);have R:∀g,S g->g<q.heap.size:=fun g f=>by have:=V g f;omega
   have p9:∀(y:ByteArray),(mI x a)[k]? =some y->∀(n:Option Addr) (O:Nat) (D:World),aT D S w.heap.size 9 1 (.slice n (k+1) O) (k+1) (((mI x a).take k).map .string++[.string y])->Keep (fun g=>(Value.slice ao k cm).ownBlock=some g) (q.alloc (.cells #[.string y] 9)) D->Below w.heap.size (q.alloc (.cells #[.string y] 9)) D->
     (∀g,g<(q.alloc (.cells #[.string y] 9)).heap.size->(Value.slice ao k cm).ownBlock≠some g->(Value.slice n (k+1) O).ownBlock≠some g)->
     aT D S w.heap.size 9 1 (.slice n (k+1) O) (k+1) (((mI x a).take (k+1)).map .string)/\aT D S w.heap.size 3 1 (.slice fo (k+1) bA) (k+1) ((a.take (k+1)).map fun p=> .int .i64 p.1)/\
     aT D S w.heap.size 9 1 (.slice (some ⟨eb,eo,none⟩) (1+c.keys.length) T) (1+c.keys.length) ((iw c).map .string)/\(∀g,(Value.slice n (k+1) O).ownBlock=some g->(Value.slice (some ⟨eb,eo,none⟩) (1+c.keys.length) T).ownBlock≠some g)/\Below w.heap.size w D:=by
    intro y hy n O D g1 g2 g3 g4;have H:k<(mI x a).length:=(by rw[HM.out];exact l);rw[bD H] at hy;refine⟨by rw[aL H,bT,dK,iH,zi hy];exact g1,by rw[aL l,bT,dK,iH];exact(d.below (aN q _)).keep fun g f G P=>⟨g2.block g G (d.Hz bC (by decide) g f),P⟩,(K.below (aN q _)).keep fun g f G P=>⟨g2.block g G (fun e=>qo g e f),P⟩,fun g f I=>g4 g (by have:=(K.1.lt g I).2;rw[aU];omega) (fun e=>qo g e I) f,(Q.trans ((aN q _).mono (by omega))).trans g3⟩
   have fB:=ah p9;clear p9;refine sN ?_;have fJ:0<k->(mI x a)[k]? =some a[k].2:=fun h0=>by rw[bD (by rw[HM.out];exact l),Li x a k h0 (by rw[HM.out];exact l) l]
   have lJ:k=0->(mI x a)[k]? =some x:=fun h0=>by subst h0;rw[bD (by rw[HM.out];exact l),Lf]
   have oO:=ah fJ;clear fJ;have mo:=ah lJ;clear lJ
   by_cases jF:k=0
   ·have kT:((k:Int)==0)=true:=by rw[qQ];omega
    have nJ:=ah jF;clear jF;go_wp2_with (first|(at_builtin;(refine cO rfl (.tmp 32) (.tmp 37) 142 142 rfl S w.heap.size 9 1 16 _ bq ig rfl (.slice ao k cm) k _ rfl (bC.below (aN q (.cells #[.string x] 9))) _ 1 [.string x] rfl (gq (w:=q) [.string x] 9 1 1 1 rfl bq rfl (by intro u J;simp only[bO,gL,oV] at J;rcases J with rfl;rfl)) (fe R _) ?_ ?_ ?_ ?_);go_must ((focus simp only[aU];omega);(focus unfold maxLen;omega);(focus omega);intro n O D j H t af;refine sO ?_)))
    obtain⟨r1,r2,r3,r4,r5⟩:=fB.out x (mo.out nJ.out) n O D j H t af;refine sN ?_
    go_wp2
    go_roundw
    case rel=>exact⟨k+1,n,fo,O,bA,l,by go_num,rfl,rfl,r1,r2,r3,r4,r5⟩
    case measure=>simp[intOf];omega
   ·have kT:((k:Int)==0)=false:=by rw[fM];omega
    have lQ:0<k:=(by omega);go_wp2_with (first|(at_builtin;(refine cO rfl (.tmp 39) (.tmp 42) 142 142 rfl S w.heap.size 9 1 16 _ bq ig rfl (.slice ao k cm) k _ rfl (bC.below (aN q (.cells #[.string a[k].2] 9))) _ 1 [.string a[k].2] rfl (gq (w:=q) [.string a[k].2] 9 1 1 1 rfl bq rfl (by intro u J;simp only[bO,gL,oV] at J;rcases J with rfl;rfl)) (fe R _) ?_ ?_ ?_ ?_);go_must ((focus simp only[aU];omega);(focus unfold maxLen;omega);(focus omega);intro n O D j H t af;refine sO ?_)))
    obtain⟨r1,r2,r3,r4,r5⟩:=fB.out a[k].2 (oO.out lQ) n O D j H t af;refine sN ?_
    go_wp2
    go_roundw
    case rel=>exact⟨k+1,n,fo,O,bA,l,by go_num,rfl,rfl,r1,r2,r3,r4,r5⟩
    case measure=>simp[intOf];omega
  ·obtain rfl:k=a.length:=by omega
   rw[aJ (by rw[HM.out];exact aD _)] at hm;rw[bS] at A;have V:∀g,S g->g<wr.heap.size:=fun g f=>ax (hS g f) m.size
   have X:=m.size;have iO:i<1+c.keys.length:=(by rw[q8.out];omega);have k1:IntKind.i64.wrap ((i:Int)+1)=(i:Int)+1:=aG _ (by omega);go_wp2_with (first|(go_at_call 182;go_must (refine(K8 (.slice (some ⟨eb,eo,none⟩) (1+c.keys.length) T) (1+c.keys.length) i _ (.slice ao a.length cm) a.length _ _ S w.heap.size V X v (pI _) hm (fun g f I=>qo g I f) (pI _) (by omega) (by omega) iO).mono ?_;rintro e q ⟨v',rfl,d,s⟩;refine sO ?_)))
   have Q:Below w.heap.size w q:=m.trans (s.jF X (fun g f e=>absurd (v.1.lt g e).1 (gG.2 f)));have jb:=s.size;have R:∀g,S g->g<q.heap.size:=fun g f=>by have:=V g f;omega
   obtain⟨N,aA⟩:∃N,N=1+c.keys.length - 1+a.length:=⟨_,rfl⟩
   rw[<-aA] at d;obtain⟨ko,o,rfl,z1,z2,z3,z4⟩:=d.dx.form;have ql:=A.keep (w':=q) fun g f G P=>⟨s.block g G (A.Hz v (by decide) g f),P⟩
   have rP:q.cell? ⟨b,2,none⟩=some v2:=(Q.cell (p:=⟨b,2,none⟩) Z).trans c2;have rV:N<=200000:=(by omega);have nS:=ah aA;clear aA;have W:∀u∈c.kids.map (Value.int .i64),u.oneCell'=true:=by intro u J;obtain⟨_,_,rfl⟩:=fw.1 J;rfl
   have aB:∀u∈a.map (fun p=>Value.int .i64 p.1),u.oneCell'=true:=by intro u J;obtain⟨_,_,rfl⟩:=fw.1 J;rfl
   refine sN ?_;go_wp2_with (first|(go_at_call 184;go_must (refine(uY v2 c.kids.length _ q S R (aZ.below oo Q) W (by omega)).mono ?_;rintro e D ⟨v3,rfl,j,t⟩;refine sO ?_)))
   have rF:=t.size;have mr:∀g,S g->g<D.heap.size:=fun g f=>by have:=R g f;omega
   have F:=j.base (B:=w.heap.size) (by omega);have lg:=ql.below t;have lC:∀g,v3.ownBlock=some g->(Value.slice co a.length ck).ownBlock≠some g:=fun g f I=>by
    have:=(j.1.lt g f).1;have:=(ql.1.lt g I).2;omega
   refine sN ?_;go_wp2_with (first|(go_at_call 183;go_must (refine(K9 v3 c.kids.length i _ (.slice co a.length ck) a.length _ _ S w.heap.size mr (by omega) F W lg lC aB (by omega) (by omega) hi).mono ?_;rintro e w4 ⟨v4,rfl,r,l5⟩;refine sO ?_)))
   have C:Below w.heap.size w w4:=(Q.trans (t.mono (by omega))).trans (l5.jF (by omega) (fun g f e=>absurd (F.1.lt g e).1 (gG.2 f)));have pM:=(C.block b Z).trans hb;obtain⟨_,_,_,f0,f1,f2,_⟩:=cells3 pM;obtain⟨M,hM⟩:=nx (c.kids.length - 1+a.length);rw[<-hM] at r;have nA:=ah hM;clear hM;obtain⟨jO,c4,rfl,_,_,_,_⟩:=r.dx.form;have lm:aZ w4 S 1 (.slice ko N o) N _:=(d.below t).dx.keep fun g f G P=>⟨l5.block g G (fun e=>by have:=(j.1.lt g e).1;have:=(d.1.lt g f).2;omega),P⟩
   have Y:(Value.slice ko N o).ownBlock≠some b:=fun e=>absurd (d.1.lt b e).1 (gG.2 Z)
   have av:(Value.slice jO M c4).ownBlock≠some b:=fun e=>absurd (r.1.lt b e).1 (gG.2 Z)
   have q9:jo w4 S v0 []:=(by rw[hp] at h0;exact aZ.empty h0 C.size);have dR:Keep (· =b) w w4:=⟨C.os,C.tape,C.output,C.size,fun g f _=>C.block g f⟩;have bH:jV w4 S (.slice jO M c4) (c.kids.take i++a.map (·.1)++c.kids.drop (i+1)):=by
    have:=r.dx;unfold jV;rw[show (c.kids.take i++a.map (·.1)++c.kids.drop (i+1)).length=M by rw[nA.out];simp only[ay,aH,aO,jX];omega];simp only[bT,gI,fT,Au];exact this
   obtain⟨E,hE⟩:=nx ((iw c).take i++mI ((iw c).getD i ⟨#[]⟩) a++(iw c).drop (i+1));have dZ:E.length=N:=(by rw[hE,nS.out,<-HX.out];simp only[ay,aH,aO,HM.out,HE.out];omega);have qb:jP w4 S (.slice ko N o) E:=by
    unfold jP;rw[dZ,hE,<-HX.out];simpa only[bT,gI,fT] using lm
   have qc:c.rG i a=⟨[],E.drop 1,c.kids.take i++a.map (·.1)++c.kids.drop (i+1)⟩:=by unfold Nd.rG;rw[hp,hE]
   have HR:=ah qc;clear qc;have tY:=ah hE;clear hE;have dx:=ah dZ;clear dZ;refine sN ?_
   by_cases mK:N=0
   ·subst mK
    have rX:min (1:Int) 0=0:=(by decide);go_wp2_with fail;go_end0;rw[HR.out];obtain rfl:E=[]:=aY dx.out;exact⟨rfl,vU pM q9 qb Y bH av bB dR⟩
   ·have o6:min (1:Int) (N:Int)=1:=by omega
    have vz:(1:Int)<=(N:Int):=(by omega);have nk:1<=N:=(by omega);have o7:(1:Int)<=(o:Int):=(by omega);obtain⟨kg,rfl⟩:∃kg,ko=some ⟨kg,0,none⟩:=by
     rcases d.1.2 with ⟨e,h0⟩|⟨g,vv,rJ,e,_⟩
     ·exact absurd h0 (by omega)
     ·cases e;exact⟨g,rfl⟩
    have oK:aZ w4 S 1 (.slice (some ⟨kg,0,none⟩) N o) N (E.map .string):=(by have:=qb;unfold jP at this;rwa [dx.out] at this);have ha:=aZ.after oK 1 nk;have j6:(E.drop 1).length=N - 1:=(by rw[aO,dx.out]);rw[aW] at ha
    by_cases jv:o=1
    ·rw[if_pos jv,show o - 1=0 by omega] at ha
     go_wp2_with fail;go_end0;rw[HR.out];exact⟨rfl,vU pM q9 (by unfold jP;rw[j6,fT];exact ha) Y bH av bB dR⟩
    ·rw[if_neg jv,iJ,dU] at ha
     go_wp2_with fail;go_end0;rw[HR.out];exact⟨rfl,vU pM q9 (by unfold jP;rw[j6,fT];exact ha) Y bH av bB dR⟩
