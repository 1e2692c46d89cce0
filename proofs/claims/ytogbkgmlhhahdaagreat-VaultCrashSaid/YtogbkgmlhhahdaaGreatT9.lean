--
import Derived.Test.YtogbkgmlhhahdaaGreatT8
set_option maxRecDepth 100000
set_option maxHeartbeats 0
set_option linter.all false
namespace Go.Proofs.YtogbkgmlhhahdaaGreat
open Go.RowKit
theorem UF (b d:Nat)(l:Lg)(S:Nat->Prop)(j:Option Addr)(n k:Nat)(v:Bool)(c:Int)(w:World)(h:pV w S b d l (.slice j n k) v c):
  Calls Tryz.prog 168 #[.pointer (some ⟨b,0,none⟩)] w fun e m=>∃g,e= .returned (.pointer (some ⟨g,0,none⟩))/\w.heap.size<=g/\Row m g 269 [.int .i64 l.start,.int .i64 l.used,.slice j n k]/\Below w.heap.size w m:=by
 obtain⟨_,_,_,o,r,q,_,_,_,a,_⟩:=h.cells;have y:w.drew.cell? ⟨b,3,none⟩=some (.int .i64 l.start):=o;have s:w.drew.cell? ⟨b,4,none⟩=some (.int .i64 l.used):=r;have x:w.drew.cell? ⟨b,5,none⟩=some (.slice j n k):=q;clear h;go_enter Tryz.func168,Tryz.ntmps168;go_wp2_with fail;refine aP (fun W=>Below w.heap.size w W) (fun i=> !([13].contains i)) [0,1,2,3,4,5,6,7,8,9,10,11,12,13,14] rfl (by kernel_rfl) ((aR _ w).drew) ?_
 repeat (refine oq ?_ rfl rfl rfl ?_ ?_;rotate_left;(focus intro W f;(try dsimp only at f);have z:=(f.cell (p:=⟨b,3,none⟩) a).trans o;have A:=(f.cell (p:=⟨b,4,none⟩) a).trans r;have C:=(f.cell (p:=⟨b,5,none⟩) a).trans q;have B:=ax a f.size;go_simp;first|done|with_reducible rfl);try simp only[Act.put,aj,au,ak])
 refine dI rfl rfl rfl ?_;intro K t;go_simp;refine t.out _ _ ((aN w _).drew) ?_
 repeat (refine oq ?_ rfl rfl rfl ?_ ?_;rotate_left;(focus intro W f;(try dsimp only at f);(go_simp;first|done|with_reducible rfl));try simp only[Act.put,aj,au,ak])
 refine bR ?_;go_wp2_with fail;go_ret;exact⟨_,rfl,aD _,Row.new w _ _,(aN w _).drew⟩
def zx (a:Nat):∀(b:List (Nat×Nat)) (m s u:Nat),(∀e∈b,e.1<=a)->(Lg.sF a b m s u).1=[]/\(Lg.sF a b m s u).2.2=u - (b.map (·.2)).sum/\(0<m->s<m->(Lg.sF a b m s u).2.1<m)
 |[],m,s,u,_=>⟨rfl,by simp[Lg.sF],fun _ h=>h⟩
 |e::b,m,s,u,h=>by
  have d:=h e (bf ..)
  have ih:=zx a b m ((s+e.2)%m) (u - e.2) (fun x f=>h x (aX _ f))
  unfold Lg.sF
  rw[if_pos d]
  refine⟨ih.1,?_,fun c _=>ih.2.2 c (mZ _ c)⟩
  rw[ih.2.1,dK,qg]
  omega
def Lg.Ok.cut {l:Lg}(h:l.Ok):(l.cut l.last).Ok:=by
 have a:=zx l.last l.list (l.n - 1) l.start l.used (fun e b=>(h.ent e b).2);have d:=h.n2;have c:=h.st;refine⟨h.n2,h.hi,a.2.2 (by omega) c,?_,h.la,h.sy,?_,?_⟩
 ·show (Lg.sF l.last l.list (l.n - 1) l.start l.used).2.2<=l.n - 1
  rw[a.2.1,h.sum];omega
 ·intro e b
  have:(l.cut l.last).list=[]:=a.1;rw[this] at b;cases b
 ·show ((Lg.sF l.last l.list (l.n - 1) l.start l.used).1.map (fun e:Nat×Nat=>e.2)).sum=(Lg.sF l.last l.list (l.n - 1) l.start l.used).2.2
  rw[a.1,a.2.1,h.sum];simp
def Dv (w:World)(g j:Nat):Nat:=match w.cell? ⟨g,j,none⟩ with|some (.slice _ n _)=>n|_=>0
def Lg.at_ (l:Lg)(j s u:Nat):Lg:={l with list:=l.list.drop j,start:=s,used:=u}
theorem VH (a d:Nat)(P:Dk)(l:Lg)(Sd X:Nat->Prop)(w:World)(h:jg w Sd X a d P l)(hd:l.dead=false)(jF:l.synced=l.last)(l5:P.waits.length<=100000):
  Calls Tryz.prog 128 #[.pointer (some ⟨a,0,none⟩),.int .i64 l.last] w fun e w'=>e= .returned (.int .i64 (l.trim P l.last).2.2)/\∃rV rX,jg w' rV rX a d (l.trim P l.last).1 (l.trim P l.last).2.1/\Two Sd X rV rX w w':=by
 obtain⟨lv,dn,c,hL⟩:=h.lg;have T:=hL.ok;obtain⟨c0,c1,c2,c3,c4,c5,c6,c7,c8,jO,qb⟩:=hL.cells;rw[jF] at c7;rw[hd] at c8;obtain⟨la,D,rfl,y1,y2,y3,y4⟩:=aZ.form ((hL.lst hd).dx (S:=gB) (fun _ _ e=>e));have bN:=ah (UF a d l X la l.list.length D dn c w hL);have hla:=T.la;have t0:¬((l.last:Int)<0):=by omega
 have t1:decide ((l.last:Int)<0)=false:=bM t0;have t2:decide ((l.last:Int)<(l.last:Int))=false:=bM (by omega);have HH:=ah h;have HL:=ah hL;have HD:=ah hd;have HSY:=ah jF;clear h hL hd jF c0 c1 c2 c3 c4 c5 c6;go_enter Tryz.func128,Tryz.ntmps128;go_wp2_with (first|(go_at_call 168;go_must (refine bN.out.mono ?_;rintro e w1 ⟨g1,rfl,zb,Y,aA⟩;refine sO ?_)))
 refine sN ?_;have nA:=HL.out.keep (Keep.of_below aA gB) (fun _ _ e=>e);obtain⟨_,_,d2,d3,d4,d5,_,_,_,mK,_⟩:=nA.cells;have xV:g1≠a:=fun e=>by omega
 have fK:=Y.cell 0;have ko:=Y.cell 1;have iO:=Y.cell 2;have o6:=Y.lt;go_wp2_with fail;obtain⟨w2,jl⟩:=nm ((w1.alloc (.cells #[.int .i64 l.start,.int .i64 l.used,.slice la l.list.length D] 269)));have fA:Below w1.heap.size w1 w2:=by rw[<-jl.out];exact aN w1 _
 have kr:Row w2 w1.heap.size 269 [.int .i64 l.start,.int .i64 l.used,.slice la l.list.length D]:=by rw[<-jl.out];exact Row.new w1 _ _
 obtain⟨x,HX⟩:=nm w1.heap.size;rw[HX.out] at kr;rw[jl.out,HX.out];have j3:=aA.trans (fA.mono aA.size);have zA:=HL.out.keep (Keep.of_below j3 gB) (fun _ _ e=>e);have hxS:w.heap.size<=x:=by rw[<-HX.out];exact aA.size
 have hn0:=T.n2;have hst:=T.st;have hus:=T.us;have hhi:=T.hi;have zn:=ah j3;have vv:=ah kr;have hlen:=l.list.length;clear aA fA j3 kr Y fK ko iO o6 nA d2 d3 d4 d5 mK xV zb y1 y2 y3 y4 jO qb c7 c8;go_loopw [46] (fun _ wr=>∃(j n s u B:Nat) (ao:Option Addr),n+j=l.list.length/\Hid (pV wr X a d (l.at_ j s u) (.slice ao n B) dn c)/\Hid (Lg.sF l.last l.list (l.n - 1) l.start l.used=Lg.sF l.last (l.list.drop j) (l.n - 1) s u)/\Hid (Keep (· =a) w2 wr)) (fun _ wr=>Dv wr a 5)
 case atStart=>exact⟨0,l.list.length,l.start,l.used,D,la,rfl,ah zA,ah rfl,ah (Keep.refl _ _)⟩
 case round=>
  obtain⟨j,n,s,u,B,ao,hnj,t,bN,HK⟩:=hrel;obtain⟨_,_,e2,e3,e4,e5,_,_,_,jO,qb⟩:=t.out.cells;have qo:(l.at_ j s u).dead=false:=HD.out;have bC:=(t.out.lst qo).dx (S:=gB) (fun _ _ e=>e);have j4:(l.at_ j s u).list.length=n:=by show (l.list.drop j).length=n;rw[aO];omega
  rw[j4] at bC;have f:=t.out.ok;have hsj:s<l.n - 1:=f.st;have vz:u<=l.n - 1:=f.us;rcases SG n with hn|hn
  ·subst hn
   obtain rfl:j=l.list.length:=(by omega);have hcut:l.at_ l.list.length s u=l.cut l.last:=by
    unfold Lg.cut;rw[bN.out];rw[kY];show _=({l with list:=(Lg.sF l.last [] (l.n - 1) s u).1,start:=(Lg.sF l.last [] (l.n - 1) s u).2.1,used:=(Lg.sF l.last [] (l.n - 1) s u).2.2}:Lg);unfold Lg.at_ Lg.sF;rw[kY]
   have zS:∀g,(Sd g\/X g)->g<w.heap.size:=fun g C=>C.elim (HH.out.dk.sub g) (HH.out.lg.sub g)
   have kT:Keep (· =a) w wr:=(Keep.of_below zn.out (fun y=>y=a)).trans HK.out (fun _ _ e=>e);have E:X a:=t.out.sl;have rP:jg wr Sd X a d P (l.cut l.last):=⟨HH.out.dk.keep kT (fun g C e=>HH.out.dis g C (e▸E)),by rw[<-hcut];exact⟨_,_,_,t.out⟩,HH.out.dis,HH.out.fit⟩;have rA:Two Sd X Sd X w wr:=⟨kT.mono (fun _ _ e=>e▸.inr E),fun _ C=> .inl C⟩;have rJ:Row wr x 269 [.int .i64 l.start,.int .i64 l.used,.slice la l.list.length D]:=vv.out.keep HK.out (fun e=>by have:=t.out.sub a E;have:=HL.out.sub a E;omega);have hnn:¬(0:Int)<0:=(by omega);have HM:=ah (PX a d P (l.cut l.last) Sd X wr rP HD.out l5);have j6:=(l.cut l.last).Dt P;have J:=ah (show l.trim P l.last=if ((l.cut l.last).mark P).2.2=0 then(l.cut l.last).mark P else(((l.cut l.last).mark P).1,l.dies,10) by
    unfold Lg.trim
    rw[HD.out,HSY.out]
    simp)
   obtain⟨κ,k,q,y5⟩:∃κ k q,Hid ((l.cut l.last).mark P=(κ,k,q)):=⟨_,_,_,ah rfl⟩
   rw[y5.out] at HM j6 J;have HMC:=ah j6;have z8:=ah rA;have xP:=ah rJ;clear j6 hcut kT rP rA rJ bC e2 e3 e4;go_wp2_with (first|(go_at_call 129;go_must (refine HM.out.mono ?_;rintro e w3 ⟨rfl,rF,kg,oO,jv⟩;refine sO ?_)))
   refine sN ?_;have j5:=ah oO;have sP:=ah (z8.out.trans jv);have di:¬(Sd x\/X x):=fun e=>by have:=zS x e;omega
   have I:=xP.out.keep jv.1 di;clear oO jv;rcases HMC.out with ⟨V,h2⟩|⟨V,h2⟩
   ·have hq:q=0:=V
    subst hq;have HE:=ah (show l.trim P l.last=(κ,k,0) by rw[J.out];rfl);clear V h2 I;go_wp2_with fail;go_ret;rw[HE.out];exact⟨rfl,rF,kg,j5.out,sP.out⟩
   ·have hq:q=10:=V
    have hk:k=(l.cut l.last).dies:=h2;subst hq;subst hk;clear V h2;have x0:=I.cell 0;have x1:=I.cell 1;have x2:=I.cell 2;have bB:=I.lt;obtain⟨zm,sF,c3,bA⟩:=j5.out.lg;obtain⟨_,_,_,m3,m4,m5,_,_,_,rG,q9⟩:=bA.cells;have z3:=q9 3;have z4:=q9 4;have z5:=q9 5;have nS:=bA.row;have HE:=ah (show l.trim P l.last=(κ,l.dies,10) by rw[J.out];rfl);have p9:x≠a:=fun e=>di (e▸.inr E)
    have HX3:=ah I;have zW:=ah nS;have pM:=ah bA;clear I nS bA;have lJ:∀(W:World),Keep (· =a) w3 W->W.cell? ⟨x,0,none⟩=some (.int .i64 l.start)/\W.cell? ⟨x,1,none⟩=some (.int .i64 l.used)/\W.cell? ⟨x,2,none⟩=some (.slice la l.list.length D)/\x<W.heap.size/\a<W.heap.size:=fun W r=>
     ⟨(r.cell (p:=⟨x,0,none⟩) bB p9).trans x0,(r.cell (p:=⟨x,1,none⟩) bB p9).trans x1,(r.cell (p:=⟨x,2,none⟩) bB p9).trans x2,ax bB r.size,ax rG r.size⟩
    have jb:=ah lJ;clear lJ;have k1:=((Keep.refl (· =a) w3).setCell (p:=⟨a,3,none⟩) (.inr rfl) (.int .i64 l.start)).drew;have r1:=zW.out.setCell 3 (.int .i64 l.start);have m4':((w3.setCell ⟨a,3,none⟩ (.int .i64 l.start)).drew).cell? ⟨a,4,none⟩=some (.int .i64 (l.cut l.last).dies.used):=r1.cell 4;have z4':((w3.setCell ⟨a,3,none⟩ (.int .i64 l.start)).drew).frozen? ⟨a,4,none⟩=false:=r1.frozen 4;have k2:=(((Keep.refl (· =a) w3).setCell (p:=⟨a,3,none⟩) (.inr rfl) (.int .i64 l.start)).setCell (p:=⟨a,4,none⟩) (.inr rfl) (.int .i64 l.used)).drew;have m5':(((w3.setCell ⟨a,3,none⟩ (.int .i64 l.start)).setCell ⟨a,4,none⟩ (.int .i64 l.used)).drew).cell? ⟨a,5,none⟩=some zm:=(r1.setCell 4 (.int .i64 l.used)).cell 5;have z5':(((w3.setCell ⟨a,3,none⟩ (.int .i64 l.start)).setCell ⟨a,4,none⟩ (.int .i64 l.used)).drew).frozen? ⟨a,5,none⟩=false:=(r1.setCell 4 (.int .i64 l.used)).frozen 5;have r2:=r1.setCell 4 (.int .i64 l.used);have vO:=ah k1;have zX:=ah k2;have za:=ah r2;clear k1 k2 r1 r2 x0 x1 x2;go_wp2_with fail;refine aP (fun W=>W.cell? ⟨x,0,none⟩=some (.int .i64 l.start)/\W.cell? ⟨x,1,none⟩=some (.int .i64 l.used)/\W.cell? ⟨x,2,none⟩=some (.slice la l.list.length D)/\x<W.heap.size/\a<W.heap.size) (fun i=> !([11,14,17].contains i)) [0,1,2,3,4,5,6,7,8,9,10,11,12,13,14,15,16,17] rfl (by kernel_rfl) (jb.out _ ((Keep.refl _ _).drew)) ?_
    repeat (refine oq ?_ rfl rfl rfl ?_ ?_;rotate_left;(focus intro W r;(try dsimp only at r);have r0:=r.1;have r1:=r.2.1;have r2:=r.2.2.1;have r3:=r.2.2.2.1;have r4:=r.2.2.2.2;go_simp;first|done|with_reducible rfl);try simp only[Act.put,aj,au,ak])
    refine dI rfl rfl rfl ?_;intro K hK;go_simp;refine hK.out _ _ (jb.out _ vO.out) ?_
    repeat (refine oq ?_ rfl rfl rfl ?_ ?_;rotate_left;(focus intro W r;(try dsimp only at r);have r0:=r.1;have r1:=r.2.1;have r2:=r.2.2.1;have r3:=r.2.2.2.1;have r4:=r.2.2.2.2;go_simp;first|done|with_reducible rfl);try simp only[Act.put,aj,au,ak])
    refine dI rfl rfl rfl ?_;intro K hK;go_simp;refine hK.out _ _ (jb.out _ zX.out) ?_
    repeat (refine oq ?_ rfl rfl rfl ?_ ?_;rotate_left;(focus intro W r;(try dsimp only at r);have r0:=r.1;have r1:=r.2.1;have r2:=r.2.2.1;have r3:=r.2.2.2.1;have r4:=r.2.2.2.2;go_simp;first|done|with_reducible rfl);try simp only[Act.put,aj,au,ak])
    refine jC rfl rfl rfl (by kernel_rfl) ?_;intro K hK;go_simp;refine hK.out _ _ ?_;refine bR ?_;go_wp2_with fail;go_ret;rw[HE.out];refine⟨rfl,?_⟩;obtain⟨M,O⟩:=nm ((((w3.setCell ⟨a,3,none⟩ (.int .i64 l.start)).setCell ⟨a,4,none⟩ (.int .i64 l.used)).setCell ⟨a,5,none⟩ (.slice la l.list.length D)).drew);have H:Row M a 224 (jc (iI d l.dies (.slice la l.list.length D)) sF c3 []):=(by rw[<-O.out];exact za.out.setCell 5 _);have F:Keep (· =a) w3 M:=by rw[<-O.out];exact((((Keep.refl (· =a) w3).setCell (p:=⟨a,3,none⟩) (.inr rfl) _).setCell (p:=⟨a,4,none⟩) (.inr rfl) _).setCell (p:=⟨a,5,none⟩) (.inr rfl) _).drew
    rw[O.out];have y7:uq M kg a d l.dies:=⟨_,sF,c3,T.dies,fun g C=>ax (pM.out.sub g C) F.size,pM.out.sl,H,(fun e=>by cases e),(fun e=>by cases e)⟩;have nk:=j5.out.log y7 ⟨F.mono (fun _ _ e=>e▸pM.out.sl),fun _ C=> .inl C⟩ ⟨rfl,rfl⟩;exact⟨rF,kg,nk.1,sP.out.trans nk.2⟩
  ·have hj:j<l.list.length:=by omega
   obtain⟨b,o,rfl,bH,lC⟩:=bC.nth hn (by omega);obtain⟨e,HE⟩:=nm (l.list[j]);have A:l.list.drop j=e::l.list.drop (j+1):=(by rw[cu hj,HE.out]);have oo:wr.cell? ⟨b,o,none⟩=some (.int .i64 (e.1:Int)):=by
    have:=lC 0 (.int .i64 (e.1:Int)) (by show (jQ (l.list.drop j))[0]? =_;rw[A];rfl);rwa [iG] at this
   have tQ:wr.cell? ⟨b,o+1,none⟩=some (.int .i64 (e.2:Int)):=lC 1 (.int .i64 (e.2:Int)) (by show (jQ (l.list.drop j))[1]? =_;rw[A];rfl);have oH:=f.ent e (by show e∈l.list.drop j;rw[A];exact bf ..);have yc:e.1<=l.last:=oH.2;have hsum:e.2<=u:=by
    have:(l.list.drop j|>.map (·.2)).sum=u:=f.sum;rw[A,dK,qg] at this;omega
   have lm:b≠a:=(t.out.slv qo b rfl).2;obtain⟨m,HM⟩:=nm (l.n - 1);have hm1:s<m:=(by rw[<-HM.out];exact hsj);have hm2:u<=m:=(by rw[<-HM.out];exact vz);have hm3:m<=4096:=(by rw[<-HM.out];omega);obtain⟨z,HZ⟩:=nm ((s+e.2)%m);obtain⟨y,HY⟩:=nm (s+e.2);obtain⟨v,HV⟩:=nm (u - e.2);have q1:IntKind.i64.wrap ((s:Int)+(e.2:Int))=(y:Int):=(by rw[aG _ (by omega),<-HY.out];omega);have q2:IntKind.i64.wrap ((l.n:Int) - 1)=(m:Int):=(by rw[aG _ (by omega),<-HM.out];omega);have q3:(y:Int)%(m:Int)=(z:Int):=(by rw[<-HZ.out,<-HY.out];exact(Int.natCast_emod _ _).symm);have vo:(y:Int).tmod (m:Int)=(z:Int):=(by rw[BP (by omega)];exact q3);have q4:¬m=0:=(by omega);have q5:IntKind.i64.wrap ((u:Int) - (e.2:Int))=(v:Int):=(by rw[aG _ (by omega),<-HV.out];omega);have p0:(0:Int)<(n:Int):=(by omega);have p1:decide ((e.1:Int)<=(l.last:Int))=true:=d9 (by omega);have p2:(e.1:Int)<=(l.last:Int):=(by omega);have tY:wr.cell? ⟨a,2,none⟩=some (.int .i64 l.n):=e2;have yx:wr.cell? ⟨a,3,none⟩=some (.int .i64 s):=e3;have yo:wr.cell? ⟨a,4,none⟩=some (.int .i64 u):=e4;clear e2 e3 e4 oH lC bC A;go_wp2_with fail;have z3:=qb 3;have z4:=qb 4;have z5:=qb 5;have zP:wr.drew.cell? ⟨a,5,none⟩=some (.slice (some ⟨b,o,none⟩) n B):=e5;refine aP (fun W=>W=wr.drew) (fun i=> !([21].contains i)) [0,1,2,3,4,5,6,7,8,9,10,11,12,13,14,15,16,17,18,19,20,21] rfl (by kernel_rfl) rfl ?_
   repeat (refine oq ?_ rfl rfl rfl ?_ ?_;rotate_left;(focus intro W r;(try dsimp only at r);subst r;go_simp;first|done|with_reducible rfl);try simp only[Act.put,aj,au,ak])
   refine jC rfl rfl rfl (by kernel_rfl) ?_;intro K hK;go_simp;refine hK.out _ _ ?_;refine bR ?_;obtain⟨M,O⟩:=nm ((wr.setCell ⟨a,3,none⟩ (.int .i64 z)).drew);have H:Row M a 224 ((jc (iI d (l.at_ j s u) (.slice (some ⟨b,o,none⟩) n B)) dn c []).set 3 (.int .i64 z)):=(by rw[<-O.out];exact t.out.row.setCell 3 _);have F:Keep (· =a) wr M:=by rw[<-O.out];exact((Keep.refl (· =a) wr).setCell (p:=⟨a,3,none⟩) (.inr rfl) _).drew
   rw[O.out];have r9:M.cell? ⟨b,o,none⟩=some (.int .i64 (e.1:Int)):=(F.cell (p:=⟨b,o,none⟩) bH lm).trans oo;have lQ:M.cell? ⟨b,o+1,none⟩=some (.int .i64 (e.2:Int)):=(F.cell (p:=⟨b,o+1,none⟩) bH lm).trans tQ;have mo:=ax bH F.size;have f4:M.drew.cell? ⟨a,4,none⟩=some (.int .i64 u):=H.cell 4;have f5:M.drew.cell? ⟨a,5,none⟩=some (.slice (some ⟨b,o,none⟩) n B):=H.cell 5;have zf:M.frozen? ⟨a,4,none⟩=false:=H.frozen 4;have nH:=H.lt;clear tY yx yo e5 zP oo tQ bH z3 z4 z5 jO q1 q2 q3 vo q4;go_wp2_with fail;refine aP (fun W=>W=M.drew) (fun i=> !([14].contains i)) [0,1,2,3,4,5,6,7,8,9,10,11,12,13,14] rfl (by kernel_rfl) rfl ?_
   repeat (refine oq ?_ rfl rfl rfl ?_ ?_;rotate_left;(focus intro W r;(try dsimp only at r);subst r;go_simp;first|done|with_reducible rfl);try simp only[Act.put,aj,au,ak])
   refine jC rfl rfl rfl (by kernel_rfl) ?_;intro K hK;go_simp;refine hK.out _ _ ?_;refine bR ?_;obtain⟨Q,ql⟩:=nm ((M.setCell ⟨a,4,none⟩ (.int .i64 v)).drew);have G:Row Q a 224 (((jc (iI d (l.at_ j s u) (.slice (some ⟨b,o,none⟩) n B)) dn c []).set 3 (.int .i64 z)).set 4 (.int .i64 v)):=(by rw[<-ql.out];exact H.setCell 4 _);have dR:Keep (· =a) M Q:=by rw[<-ql.out];exact((Keep.refl (· =a) M).setCell (p:=⟨a,4,none⟩) (.inr rfl) _).drew
   rw[ql.out];have g5:Q.cell? ⟨a,5,none⟩=some (.slice (some ⟨b,o,none⟩) n B):=G.cell 5;have gz5:Q.frozen? ⟨a,5,none⟩=false:=G.frozen 5;have xK:=G.lt;have hle1:(1:Int)<=(n:Int):=(by omega);have hnc:n<=B:=by
    obtain⟨_,_,hv,V,_⟩:=(t.out.lst qo).dx (S:=gB) (fun _ _ e=>e);cases hv;rw[j4] at V;exact V
   have hle2:(n:Int)<=(B:Int):=(by omega);clear f4 f5 zf r9 lQ nH mo;have l6:=ah G;have oK:=ah (F.trans dR (fun _ _ e=>e));clear G H F dR;go_wp2_with fail;have af:∀g,(Value.slice (if B=1 then some (⟨b,o,none⟩:Addr) else some ⟨b,o+2,none⟩) (n - 1) (B - 1)).ownBlock=some g->g=b:=fun g C=>by
    split at C<;>cases C<;>rfl
   have dx:mO wr 229 2 (.slice (if B=1 then some (⟨b,o,none⟩:Addr) else some ⟨b,o+2,none⟩) (n - 1) (B - 1)) (n - 1) (jQ (l.list.drop (j+1))):=by
    have h0:=t.out.lst qo;rw[j4] at h0;have V:=h0.after 1 (by omega);have e1:(jQ (l.at_ j s u).list).drop (1*2)=jQ (l.list.drop (j+1)):=by
     show (jQ (l.list.drop j)).drop (1*2)=_;rw[cu hj];rfl
    rw[e1] at V;simpa [dU] using V
   have l9:=ah dx;have o7:=ah af;clear dx af g5 gz5;generalize (if B=1 then some (⟨b,o,none⟩:Addr) else some ⟨b,o+2,none⟩)=av at*;obtain⟨N,qc⟩:=nm (Q.setCell ⟨a,5,none⟩ (.slice av (n - 1) (B - 1)));have Z:Row N a 224 (jc (iI d (l.at_ (j+1) z v) (.slice av (n - 1) (B - 1))) dn c []):=(by rw[<-qc.out];exact l6.out.setCell 5 _);have fJ:Keep (· =a) Q N:=by rw[<-qc.out];exact(Keep.refl (· =a) Q).setCell (p:=⟨a,5,none⟩) (.inr rfl) _
   have aB:Keep (· =a) wr N:=oK.out.trans fJ (fun _ _ e=>e);have R:l.list.drop j=e::l.list.drop (j+1):=(by rw[cu hj,HE.out]);have q8:(l.at_ (j+1) z v).Ok:=by
    refine⟨f.n2,f.hi,?_,?_,f.la,f.sy,fun e' xE=> ?_,?_⟩
    ·show z<l.n - 1
     rw[<-HZ.out,HM.out];exact mZ _ (by omega)
    ·show v<=l.n - 1
     have:=HV.out;omega
    ·exact f.ent e' (by show e'∈l.list.drop j;rw[R];exact aX _ xE)
    ·have V:((l.list.drop j).map (fun e:Nat×Nat=>e.2)).sum=u:=f.sum
     rw[R,dK,qg] at V;show ((l.list.drop (j+1)).map (fun e:Nat×Nat=>e.2)).sum=v;have:=HV.out;omega
   have fo:pV N X a d (l.at_ (j+1) z v) (.slice av (n - 1) (B - 1)) dn c:=by
    refine⟨q8,fun g C=>ax (t.out.sub g C) aB.size,t.out.sl,Z,fun _=> ?_,fun _ g C=> ?_⟩
    ·have e1:(l.at_ (j+1) z v).list.length=n - 1:=by show (l.list.drop (j+1)).length=n - 1;rw[aO];omega
     rw[e1];exact l9.out.keep fun g C=>aB.block g (l9.out.lt C) (by rw[o7.out g C];exact lm)
    ·rw[o7.out g C]
     exact t.out.slv qo b rfl
   have nJ:=ah fo;have y8:Dv N a 5=n - 1:=(by unfold Dv;rw[show N.cell? ⟨a,5,none⟩=some (.slice av (n - 1) (B - 1)) from Z.cell 5]);have o5:Dv wr a 5=n:=(by unfold Dv;rw[show wr.cell? ⟨a,5,none⟩=some (.slice (some ⟨b,o,none⟩) n B) from t.out.row.cell 5]);have fB:Dv N a 5<Dv wr a 5:=(by omega);have dZ:Lg.sF l.last l.list (l.n - 1) l.start l.used=Lg.sF l.last (l.list.drop (j+1)) (l.n - 1) z v:=by
    rw[bN.out,R];show (if e.1<=l.last then _ else _)=_;rw[if_pos yc,HM.out,HZ.out,HV.out]
   have mr:=ah dZ;have vk:=ah (HK.out.trans aB (fun _ _ e=>e));have yK:=ah fB;clear Z fJ aB R q8 fo y8 o5 fB dZ;rw[qc.out];go_roundw
   case rel=>exact⟨j+1,n - 1,z,v,B - 1,av,by omega,nJ,mr,vk⟩
   case measure=>exact yK.out
