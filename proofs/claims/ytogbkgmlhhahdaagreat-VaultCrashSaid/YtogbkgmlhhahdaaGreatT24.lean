--
import Derived.Test.YtogbkgmlhhahdaaGreatT23
set_option maxRecDepth 100000
set_option maxHeartbeats 0
set_option linter.all false
namespace Go.Proofs.YtogbkgmlhhahdaaGreat
open Go.RowKit
variable{l:Lg}{C:Nat->Nat->List UInt8}{p:Pg}
def Vn (mp:VS)(σ:cK)(S:Nat->Prop)(t:List UInt8)(w:World)(e:Ending)(w':World):Prop:=
 (∃(head:Nat) (rs:List (Nat×Nat)) (σ':cK),e= .returned (.tuple #[.int .i64 head,.int .i64 0])/\qd σ' head t rs/\mW σ σ' [] (kH head rs)/\σ'.tk<=max σ.tk (σ.sz+(1+rM t.length))/\Inv σ' S mp w'/\Step S S w w')\/
 (e= .returned (.tuple #[.int .i64 0,.int .i64 12])/\σ.most<σ.sz+(1+rM t.length)/\∃σ',Inv σ' S mp w'/\Step S S w w'/\σ'.H=σ.H/\σ'.most=σ.most)
def Cr {P:Program}{o:Oper}{a:Act}{w e:World}{K:Act->World->Prop}{Q:Exit->Act->World->Prop}(c b:TypeId)(x:Operand)(d:o.op= .convert c b x)(s:ByteArray)(i:a.eval x= .string s)(v:Value)(f:(convert c b (.string s)).run P w= .ok v e)(g:K (a.put o.dst v) e):o.wp P a w K Q:=by
 unfold Oper.wp;simp[execOp,d,i,f,Result.andThen];exact g
def Fj (a:cK)(b x:Nat)(l:List UInt8):(a.wrote b l).mem (x:Nat)=if x=b then l else a.mem (x:Nat):=by
 show a.H.pg.look (a.im.put b l) a.H.dk ((x:Nat):Int).toNat=_;rw[qA,fE];rfl
def Ee (a:Nat)(b:List (Nat×Nat)):(jK (a::fV b)).Perm (kH a b):=by
 show (jK ([a]++fV b)).Perm (jK (fV b++[a]));exact fI.map _
def Pn {σ2:cK}{a:Nat}{f:List Nat}{g:List (Nat×Nat)}{t:List UInt8}(n:fV g=f)(q:rY g)(r:f.length=rM t.length)(p:1<=t.length)(o:t.length<=49152)(k:(a::f).Nodup)(d:∀b∈a::f,2<=b)(c:∀b∈a::f,σ2.hasB (b:Nat)=true)(l:∀j (s:j<f.length),σ2.mem (f[j]:Nat)=pad (chunk t j)):
  qd (σ2.wrote a (pad (encR t.length g))) a t g:=by
 subst n;refine⟨⟨d a (bf ..),c a (bf ..),⟨List.replicate (512 - (encR t.length g).length) 0,?_⟩,q,r,p,o⟩,?_,fun i m=>⟨c _ (aX _ (bF m)),d _ (aX _ (bF m)),?_⟩⟩
 ·rw[Fj,if_pos rfl];rfl
 ·exact(Ee a g).nodup_iff.1 (wD k)
 ·rw[Fj,if_neg]
  ·exact l i m
  ·intro e
   exact(lV.1 k).1 (e▸bF m)
theorem Vm (s:VS)(σ:cK)(S:Nat->Prop)(w:World)(c:ByteArray)(h:Inv σ S s w)(h1:1<=c.size)(h2:c.size<=49152):
  Calls Tryz.prog 62 #[.iface 97 s.agg,.string c] w (Vn s σ S c.data.toList w):=by
 have dn:=h.sub;have HI:=ah h;have x1:¬(49152:Int)<(c.size:Int):=by omega
 have x2:c.toList.isEmpty=false:=by
  rw[toList_eq];cases hq:c.data.toList with
  |nil=>
   have:c.size=0:=(by(show c.data.size=0);rw[<-kN,hq];rfl);omega
  |cons a b=>rfl
 obtain⟨G,iO⟩:=nx (rM c.size);have hnb1:1<=G/\G<=96:=by rw[iO];unfold rM;omega
 have q1:(1:Int)+((c.size:Int)+512 - 1)/512=((G+1:Nat):Int):=by rw[iO];unfold rM;omega
 have oK:=ah iO;have hmT:∀w,(method 454 97 s.agg "Take").run Tryz.prog w= .ok (259,.pointer (some ⟨s.mp,0,none⟩)) w:=fun _=>by kernel_rfl
 have hmf:∀(fn:Fn) (first cap:Array Value) (w:World),(Instr.makeFunc fn first cap).run Tryz.prog w= .ok (.func fn first cap) w:=fun _ _ _ _=>rfl
 clear h iO;go_enter Tryz.func62,Tryz.ntmps62;go_upto_region 9 with (fail)
 obtain⟨m,Q⟩:=nm w.heap.size;have jv:=gK w (.cells #[.iface 97 s.agg] 158) (.cells #[.slice none 0 0] 93);have av:((w.alloc (.cells #[.iface 97 s.agg] 158)).alloc (.cells #[.slice none 0 0] 93)).heap[m]? =some (.cells #[.iface 97 s.agg] 158 (0,0)):=by
  rw[<-Q.out];exact((aN (w.alloc _) _).block _ (by simp)).trans (aV w _)
 have dR:((w.alloc (.cells #[.iface 97 s.agg] 158)).alloc (.cells #[.slice none 0 0] 93)).heap[m+1]? =some (.cells #[.slice none 0 0] 93 (0,0)):=by
  rw[<-Q.out];have:=aV (w.alloc (.cells #[.iface 97 s.agg] 158)) (.cells #[.slice none 0 0] 93);rwa [aU] at this
 rw[Q.out];generalize (w.alloc (.cells #[.iface 97 s.agg] 158)).alloc (.cells #[.slice none 0 0] 93)=w0 at jv av dR ⊢;have hns0:¬S m:=fun x=>absurd (dn m x) (by rw[Q.out];exact dB _)
 have yc:¬S (m+1):=fun x=>absurd (dn (m+1) x) (by rw[Q.out];omega)
 have l5:WV w0 S m (m+1) m s []:=⟨⟨_,dR,aT.nil _ _ _ _ _⟩,av,yc,hns0⟩;have hI0:=HI.out.below jv;have xE:RZ σ σ []:=⟨mW.refl (by simp),by simp,by simp,Kq _ _⟩;have xK:Step S S w w0:=Step.of_below jv;clear av dR jv;go_wp2_with fail;go_loopw [4,5,8,9,32] (fun _ _ _ _ i wr=>∃(H:List Nat) (I:cK),H.length<=G+1/\i= .int .i64 H.length/\Inv I S s wr/\WV wr S m (m+1) m s H/\RZ σ I H/\Step S S w wr) (fun _ _ _ _ i _=>G+1 - (intOf i).toNat)
 case atStart=>exact⟨[],σ,by simp,rfl,hI0,l5,xE,xK⟩
 case round=>
  clear hI0 l5 xE xK;obtain⟨H,I,hk,rfl,jb,zn,hTk,nA⟩:=hrel;have o:=ah hTk;have vv:=ah zn;obtain⟨⟨tv,t1,t2⟩,t3,t4,t5⟩:=zn;obtain⟨xo,xc,rfl,_,_,_,_⟩:=aZ.form t2.dx;have s0:wr.cell? ⟨m,0,none⟩=some (.iface 97 s.agg):=by simp[World.cell?,t3]
  have sl:=(ai.1 t3).1;have bC:=(ai.1 t1).1;have kg:=ah t1;have aA:=ah t2;have za:=ah t3;clear t1 t2 t3 hTk
  by_cases nk:H.length<G+1
  ·have y1:(H.length:Int)<((G+1:Nat):Int):=by omega
   go_wp2_with (refine(MO s I S wr jb).mono ?_;rintro e w1 (⟨f,rfl,f1,f2,f3,f4,f6,jO,T⟩|⟨rfl,hfull,jO,T⟩)<;>refine sO ?_)
   ·refine sN ?_
    have dx:=(T.1.block (m+1) bC t4).trans kg.out;have lg:=(T.1.block m sl t5).trans za.out;have di:=aA.out.step T;have e1:w1.cell? ⟨m+1,0,none⟩=some (.slice xo H.length xc):=(by simp[World.cell?,dx]);have el1:=(ai.1 dx).1;have hS1:∀g,S g->g<w1.heap.size:=jO.sub
    have xV:m<=w1.heap.size:=(by omega);have hTn:=o.out.more f3 f4 f1 f2;have HTN:=ah hTn;have HIN:=ah (show ints H++[.int .i64 (f:Int)]=ints (H++[f]) by simp[ints]);clear hTn s0;go_wp2_with (first|(at_builtin;go_must ((refine cO rfl (.tmp 46) (.tmp 48) 93 93 rfl S m 3 1 8 _ bE iq rfl (.slice xo H.length xc) _ _ rfl (di.below (aN _ _)) _ 1 _ rfl (gq [.int .i64 (f:Int)] _ 1 1 1 (by simp) bE rfl ?_) (fe hS1 _) ?_ ?_ ?_ ?_);(focus simp[Value.oneCell']);(focus simp only[aU];omega);(focus unfold maxLen;omega);(focus omega);intro ao3 c3 w3 pM hk3 hb3 hd3;refine sO ?_)))
    refine sN ?_;have fK:=di.below (w':=w1.alloc (.cells #[.int .i64 (f:Int)] 3)) (aN _ _);have fA:=((aN w1 (.cells #[.int .i64 (f:Int)] 3)).block (m+1) el1).trans dx;have fo:=((aN w1 (.cells #[.int .i64 (f:Int)] 3)).block m (ai.1 lg).1).trans lg;have R:w3.heap[m+1]? =_:=(hk3.block _ (ai.1 fA).1 (fK.ne fA (by decide))).trans fA;have kT:w3.heap[m]? =_:=(hk3.block _ (ai.1 fo).1 (fK.ne fo (by decide))).trans fo;have g1:w3.cell? ⟨m+1,0,none⟩=some (.slice xo H.length xc):=(by simp[World.cell?,R]);have gf:w3.frozen? ⟨m+1,0,none⟩=false:=(by simp[World.frozen?,R]);have gl:=(ai.1 R).1;rw[HIN.out] at pM;have vz:=ah pM;clear pM;go_wp2_with fail;have zA:Keep (· =m+1) w3 (w3.setCell ⟨m+1,0,none⟩ (.slice ao3 (H.length+1) c3)):=(Keep.refl (· =m+1) _).setCell (p:=⟨m+1,0,none⟩) (.inr rfl) _;have mo:Below m w1 (w3.setCell ⟨m+1,0,none⟩ (.slice ao3 (H.length+1) c3)):=((aN w1 (.cells #[.int .i64 (f:Int)] 3)|>.mono xV).trans hb3).setCell (by show m<=m+1;omega) _;have hne:=vz.out.ne R (by decide);have p9:(H++[f]).length=H.length+1:=(by simp);go_roundw
    case rel=>
     refine⟨H++[f],I.took f,by rw[p9];omega,by rw[p9];go_num,jO.Rb mo (fun g hg=>by rw[<-Q.out];exact dn g hg),⟨⟨_,by simp[World.setCell,aQ,R];rfl,?_⟩,(zA.block m (ai.1 kT).1 (by omega)).trans kT,t4,t5⟩,HTN.out,?_⟩
     ·rw[p9]
      exact vz.out.keep fun g hg hl hs=>⟨zA.block g hl (fun e=>hne (by rw[hg,e])),hs⟩
     ·exact(nA.trans T).Ql (by rw[Q.out];exact mo)
    case measure=>simp[intOf];omega
   ·refine sN ?_
    have zX:=vv.out.step T;have HBK:=ah (Wt s I S w1 m (m+1) m H 12 jO zX o.out.nd (by omega) o.out.has);have hent:∀lC w,(callFunc 104 lC).run Tryz.prog w= .ok (.enter 104 lC) w:=fun _ _=>by kernel_rfl
    go_wp2_with (first|(go_at_call 104;go_must (refine HBK.out.mono ?_;rintro e w2 ⟨rfl,fB,j6⟩)))
    go_ret2;have qo:c.data.toList.length=c.size:=(by show c.data.toList.length=c.data.size;simp);have hz:=o.out.sz;have hm:=o.out.D9.most;have vk:=o.out.has;have cf:=Ba (jK H) I (fun x hx=>by obtain⟨b,hb,rfl⟩:=fw.1 hx;exact(vk b hb).1) (wD o.out.nd);refine .inr ⟨rfl,?_,_,fB,(nA.trans T).trans j6,cf.H.trans o.out.D9.H,cf.most.trans hm⟩;rw[qo,<-oK.out];omega
  ·have o5:H.length=G+1:=by omega
   clear nk;obtain⟨B,q,rfl⟩:∃B q,H=B::q:=by
    cases H with
    |nil=>simp at o5
    |cons a b=>exact⟨a,b,rfl⟩
   have qo:q.length=G:=(by simpa using o5);obtain⟨wo,rfl⟩:=nx wr;have hn1:(B::q).length=G+1:=o5;rw[hn1] at kg aA ⊢;have y0:¬(((G+1:Nat):Int))<((G+1:Nat):Int):=(by omega);obtain⟨J,Z⟩:=nm wo.heap.size;have D:=aN wo (.cells #[.int .i64 c.size,.slice none 0 0] 186);have mr:(wo.alloc (.cells #[.int .i64 c.size,.slice none 0 0] 186)).heap[J]? =some (.cells #[.int .i64 c.size,.slice none 0 0] 186 (0,0)):=(by rw[<-Z.out];exact aV wo _);have hsl:¬S J:=fun x=>absurd (jb.sub J x) (by rw[Z.out];exact dB _)
   have nH:nQ (wo.alloc (.cells #[.int .i64 c.size,.slice none 0 0] 186)) S J J c.size [] (.slice none 0 0):=⟨mr,aT.nil _ _ _ _ _,aD _,hsl⟩;have fB:=jb.below D;have o7:=vv.out.step (Step.of_below (S:=S) D);have j6:Step S S w (wo.alloc (.cells #[.int .i64 c.size,.slice none 0 0] 186)):=nA.trans (Step.of_below D);obtain⟨A,O,hxo,d0⟩:∃A O,xo=some ⟨A,O,none⟩/\∀i (V:i<(B::q).length),wo.cell? ⟨A,O+i,none⟩=some (.int .i64 ((B::q)[i]:Nat)):=by
    have vO:jV wo S (.slice xo (G+1) xc) (jK (B::q)):=by
     have:=aA.out.dx;rw[Dz] at this;unfold jV;rw[show (jK (B::q)).length=G+1 by simp[jK];exact qo];exact this
    obtain⟨A,O,e,_⟩:=vO.at rfl 0 (by simp[jK]);refine⟨A,O,e,fun i V=> ?_⟩;obtain⟨pb',po',e',d⟩:=vO.at rfl i (by simpa [jK] using V);rw[e] at e';cases e'
    have hv:(jK (B::q))[i]'(by simpa [jK] using V)=(((B::q)[i]:Nat):Int):=(by unfold jK;rw[List.getElem_map]);rw[hv] at d;exact d
   subst hxo;have HD0:=ah d0;have rV:A<wo.heap.size:=aF wo _ (d0 0 (by simp));have rA:¬S A:=(aA.out.2 A rfl);have hpsb:m<=A:=aA.out.lo A rfl;have l9:=kg.out;have e1:wo.cell? ⟨m+1,0,none⟩=some (.slice (some ⟨A,O,none⟩) (G+1) xc):=(by simp[World.cell?,l9]);have E1:=(D.cell (p:=⟨m+1,0,none⟩) bC).trans e1;have zP:=ax bC D.size;have hxc1:¬xc=1:=(by omega);have hxc2:(1:Int)<=(xc:Int):=(by omega);generalize rF:wo.alloc (.cells #[.int .i64 c.size,.slice none 0 0] 186)=w2 at D mr nH fB o7 j6 E1 zP;have HWW2:=ah rF;have HWV2:=ah o7;have kr:=ah ((D.block m sl).trans za.out);have zm:=ah ((D.block (m+1) bC).trans kg.out);have lJ:=ah (fun i (V:i<(B::q).length)=>(D.cell (p:=⟨A,O+i,none⟩) rV).trans (d0 i V));clear d0 mr e1 s0 l9 o7;have HHB:=ah D;clear D;go_upto_region 17 with (fail)
   rw[Z.out];have l6:J<w2.heap.size:=(by rw[<-rF,<-Z.out];simp);have hlbs:m+1<J:=(by rw[<-Z.out];exact bC);have C:A<J:=(by rw[<-Z.out];exact rV);clear rF;obtain⟨t,ht⟩:=nx c.data.toList;have htL:t.length=c.size:=(by rw[ht];show c.data.toList.length=c.data.size;simp);rw[<-ht];have fJ:=ah htL;have rP:=ah ht;have HSO:=ah (show ∀g,S g->g<J from fun g hg=>by have:=jb.sub g hg;rwa [Z.out] at this);have lm:=ah o.out.nd;have nJ:=ah o.out.two;have hmW:∀w,(method 454 97 s.agg "Write").run Tryz.prog w= .ok (66,.pointer (some ⟨s.tx,0,none⟩)) w:=fun _=>by kernel_rfl
   have sF:∀w,(nilAhead 454 97 s.agg "Write").run Tryz.prog w= .ok (some false) w:=fun _=>by kernel_rfl
   have tQ:mW σ I [] (jK (B::q)):=o.out.D9;have hend:(G:Int)+1 - 1=(G:Int):=(by omega);go_wp2_with fail;go_loopw [11,12,13,58] (fun _ _ _ i wk=>∃(k:Nat) (P:List (Nat×Nat)) (v:Value) (σ2:cK),k<=G/\i= .int .i64 k/\nQ wk S J J c.size P v/\fV P=q.take k/\rY P/\Inv σ2 S s wk/\mW σ σ2 [] (jK (B::q))/\σ2.tk=I.tk/\(∀j (hj:j<q.length),j<k->σ2.mem (q[j]:Nat)=pad (chunk t j))/\Keep (fun g=>S g\/J<=g) w2 wk) (fun _ _ _ i _=>G - (intOf i).toNat)
   case atStart=>exact⟨0,[],_,I,by omega,rfl,nH,by simp[fV],(fun r hr=>by cases hr),fB,tQ,rfl,fun j hj h0=>by omega,Keep.refl _ _⟩
   case round=>
    clear nH fB tQ;obtain⟨k,P,v,σ2,hk2,rfl,hA,jl,qc,bH,ko,qb,N,X⟩:=hrel;have aB:J<wr.heap.size:=(ai.1 hA.obj).1
    by_cases nk:k<G
    ·have y1:(k:Int)<(G:Int):=by omega
     have dZ:k<q.length:=(by omega);obtain⟨b,jF⟩:=nx (q[k]);have hbm:b∈B::q:=(by rw[jF];exact aX _ (bF dZ));obtain⟨hb2',hbM⟩:=nJ.out b hbm;have dk:wr.cell? ⟨A,O+1+k,none⟩=some (.int .i64 (b:Int)):=by
      have:=lJ.out (k+1) (by simp;omega);rw[vG,<-jF,show O+(k+1)=O+1+k by omega] at this;exact(X.cell (p:=⟨A,O+1+k,none⟩) (nX C l6) (fun e=>e.elim rA (fun e=>absurd C (bg.2 e)))).trans this
     have hpk:A<wr.heap.size:=nX C aB;have E:=(X.block m (by omega) (fun e=>e.elim t5 (fun e=>by omega))).trans kr.out;have s0k:wr.cell? ⟨m,0,none⟩=some (.iface 97 s.agg):=(by simp[World.cell?,E]);have bN:=(ai.1 E).1;obtain⟨lo,rX⟩:=nx (k*512);obtain⟨k1,z8⟩:=nx (k+1);obtain⟨up,y7⟩:=nx (k1*512);obtain⟨V,zf⟩:=nx (min up c.size);have hnbk:k*512<c.size:=(by have:=oK.out;unfold rM at this;omega);have r1:IntKind.i64.wrap ((k:Int)*512)=(lo:Int):=(by rw[aG _ (by omega)];omega);have r2:IntKind.i64.wrap ((k:Int)+1)=(k1:Int):=(by rw[aG _ (by omega)];omega);have r3:IntKind.i64.wrap ((k1:Int)*512)=(up:Int):=(by rw[aG _ (by omega)];omega);have r4:min (up:Int) (c.size:Int)=(V:Int):=(by omega);have r5:(0:Int)<=(lo:Int):=(by omega);have r6:(lo:Int)<=(V:Int):=(by omega);have r7:(V:Int)<=(c.size:Int):=(by omega);have r8:lo<=V:=(by omega);have r9:V<=c.size:=(by omega);have y5:(c.extract lo V).data.toList=chunk t k:=by
      rw[rP.out];unfold chunk;rw[H9,NI,zf,y7,z8,rX];show ((c.data.toList.drop (k*512)).take (min ((k+1)*512) c.size - k*512))=_;rw[Nat.mul_comm k 512,List.take_eq_take_iff,aO,kN];show min (min ((k+1)*512) c.size - 512*k) (c.size - 512*k)=min 512 (c.size - 512*k);omega
     obtain⟨z,yx⟩:=nx (c.extract lo V);have HCH:=ah y5;have oH:=ah yx;clear rX z8 y7 zf y5 yx;have y8:=ah hA;have HHI:=ah bH;have n:=ah (aC jl (aC qc (aC N (aC qb ko))));clear hA bH jl qc N qb ko;go_upto_region 20 with (fail)
     refine aP (fun W=>W.cell? ⟨m,0,none⟩=some (.iface 97 s.agg)/\m<W.heap.size) (fun i=> !([12,16].contains i)) [0,1,2,3,4,5,6,7,8,9,10,11,13,14,15,12,16,17] rfl (by kernel_rfl) ⟨s0k,bN⟩ ?_
     repeat (refine oq ?_ rfl rfl rfl ?_ ?_;rotate_left;(focus intro W hW;(try dsimp only at hW);obtain⟨z0,z1⟩:=hW;have:=sF;go_simp;first|done|with_reducible rfl);try simp only[Act.put,aj,au,ak])
     have hpsz:z.size<=1000000:=(by rw[oH.out,ByteArray.size_extract];omega);obtain⟨pc,w4,nS,j5,hb4⟩:=Ec z wr.drew hpsz;have mK:z.data.toList=chunk t k:=(by rw[oH.out];exact HCH.out);have tY:z.size=(chunk t k).length:=(by rw[<-mK];show z.data.size=_;simp);rw[mK] at j5;rw[tY] at nS j5;rw[<-oH.out];have lQ:Below wr.heap.size wr w4:=((aR _ wr).drew).trans hb4;have HCV:=ah nS;have HPV:=ah j5;have ql:=ah lQ;clear nS j5 hb4 lQ;refine dI rfl rfl rfl ?_;intro K hK;refine Cr 9 70 (.tmp 74) rfl z rfl _ HCV.out ?_;clear tY mK;have s04:=(ql.out.cell (p:=⟨m,0,none⟩) bN).trans s0k;have oo:=ax bN ql.out.size;refine hK.out _ _ ⟨s04,oo⟩ ?_
     (try simp only[Act.put,aj,au,ak])
     have hI4:=HHI.out.below ql.out;have hcl:(chunk t k).length<=512:=(by rw[pO];omega);have M:q[k]<σ2.most:=by
      rw[n.out.2.2.2.2.most,<-jF];exact hbM
     have af:=ah (xD s σ2 S w4 q[k] _ (chunk t k) hI4 M HPV.out hcl (cK.QM (n.out.2.2.2.2.new _ (kM (aX _ (bF dZ)))).1 ((Cj n.out.2.2.2.2.H _).trans (o.out.nheld _ (aX _ (bF dZ))))));obtain⟨cl,xP⟩:=nm ((chunk t k).length);obtain⟨vb4,zW⟩:=nm wr.drew.heap.size;rw[xP.out,zW.out] at af ⊢;obtain⟨bk,Y⟩:=nm (q[k]);rw[Y.out] at af ⊢;refine dI rfl rfl rfl ?_;intro K hK;go_simp;refine af.out.mono ?_;rintro e w5 ⟨rfl,j4,j3⟩;have s05:w5.cell? ⟨m,0,none⟩=some (.iface 97 s.agg):=by
      have:=(j3.1.block m oo t5).trans ((ql.out.block m bN).trans E);simp[World.cell?,this]
     refine hK.out _ _ ⟨s05,ax oo j3.1.size⟩ ?_
     (try simp only[Act.put,aj,au,ak])
     repeat (refine oq ?_ rfl rfl rfl ?_ ?_;rotate_left;(focus intro W hW;(try dsimp only at hW);obtain⟨z0,z1⟩:=hW;go_simp;first|done|with_reducible rfl);try simp only[Act.put,aj,au,ak])
     refine bR ?_;have hA5:=(y8.out.below ql.out).step j3;have hrl:P.length<=1000:=by
      have a:=n.out.2.1.le;rw[n.out.1,aH] at a;omega
     have hS5:∀g,S g->g<w5.heap.size:=j4.sub
     have hbk5:bk<=65535:=(by have:=Y.out;have:=HHI.out.cap;omega);have HBA:=ah (WN J c.size bk P v J S w5 hA5 hS5 n.out.2.1 hrl hbk5);clear hrl r1 r2 r3 r4 r5 r6 r7 r8 r9 hcl;go_wp2_with (first|(go_at_call 105;go_must (refine HBA.out.mono ?_;rintro e w6 ⟨rfl,⟨v6,hA6⟩,q8⟩)))
     have hbkm:(bk:Int)∈jK (B::q):=by
      rw[<-Y.out];exact kM (aX _ (bF dZ))
     have yK:2<=bk:=(by rw[<-Y.out,<-jF];exact hb2');have oO:=Np (σ:=σ2) (us:=jK (B::q)) (b:=bk) (l:=pad (chunk t k)) (fun x hx=>(n.out.2.2.2.2.new x hx).1) hbkm yK;go_roundw
     case rel=>
      refine⟨k+1,Be P bk,v6,σ2.wrote bk (pad (chunk t k)),by omega,by go_num,hA6,?_,n.out.2.1.add bk (by omega),j4.Rb q8 HSO.out,n.out.2.2.2.2.trans oO,?_,?_,?_⟩
      ·rw[K5,n.out.1,aL dZ,Y.out]
      ·exact n.out.2.2.2.1
      ·intro j hj hjk
       show σ2.H.pg.look (σ2.im.put bk (pad (chunk t k))) σ2.H.dk ((q[j]:Nat):Int).toNat=_;rw[qA,fE]
       by_cases hje:j=k
       ·subst hje
        rw[if_pos Y.out]
       ·rw[if_neg (fun e=>by
         have hnd:=(lV.1 lm.out).2
         rw[<-Y.out] at e
         exact hje ((VE hnd).1 e))]
        exact n.out.2.2.1 j hj (by omega)
      ·refine((X.trans (Keep.of_below ql.out (fun g=>S g\/J<=g)) (fun _ _ e=>e)).trans (j3.1.mono (fun _ _ e=> .inl e)) (fun _ _ e=>e)).trans ?_ (fun _ _ e=>e)
       exact⟨q8.os,q8.tape,q8.output,q8.size,fun g _ hn=>q8.block g (VD (fun e=>hn (.inr e)))⟩
     case measure=>simp[intOf];omega
    ·obtain rfl:k=G:=by omega
     have rJ:fV P=q:=(by rw[jl];exact aJ (by omega));have hrl96:P.length<=96:=(by have:=qc.le;rw[rJ] at this;omega);have E:=(X.block m (by omega) (fun e=>e.elim t5 (fun e=>by omega))).trans kr.out;have bA:=(X.block (m+1) (by omega) (fun e=>e.elim t4 (fun e=>by omega))).trans zm.out;have d0:wr.cell? ⟨A,O,none⟩=some (.int .i64 (B:Int)):=by
      have:=lJ.out 0 (by simp);exact(X.cell (p:=⟨A,O,none⟩) (nX C l6) (fun e=>e.elim rA (fun e=>absurd C (bg.2 e)))).trans this
     have hpk:A<wr.heap.size:=nX C aB;have bN:=(ai.1 E).1;have tlk:=(ai.1 bA).1;have HP:=ah (show ∀(W:World),(∀g,g<J->¬S g->W.heap[g]? =wr.heap[g]?)->wr.heap.size<=W.heap.size->(W.cell? ⟨m,0,none⟩=some (.iface 97 s.agg)/\W.cell? ⟨m+1,0,none⟩=some (.slice (some ⟨A,O,none⟩) (k+1) xc)/\W.cell? ⟨A,O,none⟩=some (.int .i64 (B:Int))/\m<W.heap.size/\m+1<W.heap.size/\A<W.heap.size) from fun W hW hz=>by
      have a:=(hW m (by omega) t5).trans E
      have b:=(hW (m+1) (by omega) t4).trans bA
      exact⟨by simp[World.cell?,a],by simp[World.cell?,b],(oz (w:=wr) (a:=⟨A,O,none⟩) (hW A C rA)).trans d0,by omega,by omega,by omega⟩)
     have HEN:=ah (TV J c.size P v J S wr.drew ⟨hA.obj,hA.own.drew,hA.lo,hA.ns⟩ bH.sub (by omega) qc (by omega));have HIW:=ah bH;have q9:=ah ko;have n:=ah (aC qc (aC N qb));have sP:=ah rJ;have hel:=BD c.size P;have o6:(encR c.size P).length<=512:=(by omega);have z0:(0:Int)<((k+1:Nat):Int):=(by omega);have z1:(0:Int)<(k:Int)+1:=(by omega);have y8:=ah hA;clear hA bH ko qc N qb jl rJ hel nk E bA d0;go_upto_region 25 with (fail)
     refine aP (fun W=>W.cell? ⟨m,0,none⟩=some (.iface 97 s.agg)/\W.cell? ⟨m+1,0,none⟩=some (.slice (some ⟨A,O,none⟩) (k+1) xc)/\W.cell? ⟨A,O,none⟩=some (.int .i64 (B:Int))/\m<W.heap.size/\m+1<W.heap.size/\A<W.heap.size) (fun i=> !([5,9].contains i)) [0,1,2,3,4,6,7,8,5,9,10] rfl (by kernel_rfl) (HP.out wr.drew (fun g _ _=>rfl) (aD _)) ?_
     repeat (refine oq ?_ rfl rfl rfl ?_ ?_;rotate_left;(focus intro W hW;(try dsimp only at hW);obtain⟨a0,a1,a2,a3,a4,a5⟩:=hW;have:=sF;go_simp;first|done|with_reducible rfl);try simp only[Act.put,aj,au,ak])
     refine dI rfl rfl rfl ?_;intro K hK;go_simp;refine HEN.out.mono ?_;rintro e w5 ⟨ev,rfl,bB,hb5⟩;obtain⟨eo,ec,rfl,_,_,_,_⟩:=aZ.form bB.dx;have F:Below wr.heap.size wr w5:=((aR _ wr).drew).trans hb5;refine hK.out _ _ (HP.out w5 (fun g hg _=>F.block g (nX hg aB)) F.size) ?_
     (try simp only[Act.put,aj,au,ak])
     have j4:=HIW.out.below F;have zS:=nJ.out B (bf ..);have M:B<σ2.most:=(by rw[q9.out.most];exact zS.2);have af:=ah (xD s σ2 S w5 B _ (encR c.size P) j4 M (aZ.loose bB.dx) o6 (cK.QM (q9.out.new _ (kM (bf ..))).1 ((Cj q9.out.H _).trans (o.out.nheld _ (bf ..)))));refine dI rfl rfl rfl ?_;intro K hK;go_simp;refine af.out.mono ?_;rintro e w6 ⟨rfl,hI6,rG⟩;have yo:=HP.out w6 (fun g hg hn=>(rG.1.block g (ax (nX hg aB) F.size) hn).trans (F.block g (nX hg aB))) (aK F.size rG.1.size);refine hK.out _ _ yo ?_
     (try simp only[Act.put,aj,au,ak])
     repeat (refine oq ?_ rfl rfl rfl ?_ ?_;rotate_left;(focus intro W hW;(try dsimp only at hW);obtain⟨a0,a1,a2,a3,a4,a5⟩:=hW;go_simp;first|done|with_reducible rfl);try simp only[Act.put,aj,au,ak])
     refine bR ?_;obtain⟨a0,a1,a2,a3,a4,a5⟩:=yo;go_wp2_with fail;go_ret2;have oO:=Np (σ:=σ2) (us:=jK (B::q)) (b:=B) (l:=pad (encR c.size P)) (fun x hx=>(q9.out.new x hx).1) (kM (bf ..)) zS.1;have zb:q.length=rM c.size:=(by rw[qo,oK.out]);have vo:=Pn (σ2:=σ2) (t:=t) sP.out n.out.1 (by rw[fJ.out];exact zb) (by rw[fJ.out];exact h1) (by rw[fJ.out];exact h2) lm.out (fun b hb=>(nJ.out b hb).1) (fun b hb=>(q9.out.new _ (kM hb)).1) (fun j hj=>n.out.2.1 j hj (by omega));rw[fJ.out] at vo;refine .inl ⟨B,P,σ2.wrote B (pad (encR c.size P)),rfl,?_,?_,?_,hI6,?_⟩
     ·rw[<-rP.out];exact vo
     ·exact(q9.out.trans oO).perm (jH _) (by have:=Ee B P;rwa [sP.out] at this)
     ·rw[<-rP.out,fJ.out,<-zb,qo]
      show σ2.tk<=_;rw[n.out.2.2];have a:=o.out.tk;have b:=o.out.sz;rw[bn,qo] at b;omega
     ·have hsz:w.heap.size<=J:=by have:=Q.out;omega
      refine⟨((j6.1.trans X (fun i V e=>e.elim id (fun y=>absurd V (bg.2 (aK hsz y))))).trans (Keep.of_below F S) (fun _ _ e=>e)).trans rG.1 (fun _ _ e=>e),fun g hg=> .inl hg⟩
def sS:List UInt8->Option Nat
 |[a,b,c]=>if a=1 then some (b.toNat+256*c.toNat) else none
 |_=>none
theorem ER (s:ByteArray)(w:World)(F:s.size<=1000000):
  Calls Tryz.prog 48 #[.string s] w fun e z=>Below w.heap.size w z/\e= .returned (.tuple #[.int .i64 ((sS s.data.toList).getD 0:Nat),.bool (sS s.data.toList).isSome]):=by
 have d:s.data.toList.length=s.size:=by show s.data.toList.length=s.data.size;simp
 by_cases x:s.size=3
 ·have q:(s.size:Int)=3:=by omega
  obtain⟨a,b,c,f⟩:∃a b c,s.data.toList=[a,b,c]:=by
   have:=d.trans x
   revert this
   generalize s.data.toList=l;intro h
   match l,h with
   |[a,b,c],_=>exact⟨a,b,c,rfl⟩
  have o:s=strOf [a,b,c]:=by
   unfold strOf;rw[<-f]
  rw[f];clear d f x;subst o;have n:∀W:World,(Instr.index 9 (.string (strOf [a,b,c])) (.int .i64 0)).run Tryz.prog W= .ok (.int .u8 (a.toNat:Int)) W:=fun W=>rO _ 0 a rfl W
  have H:∀W:World,(Instr.index 9 (.string (strOf [a,b,c])) (.int .i64 1)).run Tryz.prog W= .ok (.int .u8 (b.toNat:Int)) W:=fun W=>rO _ 1 b rfl W
  have A:∀W:World,(Instr.index 9 (.string (strOf [a,b,c])) (.int .i64 2)).run Tryz.prog W= .ok (.int .u8 (c.toNat:Int)) W:=fun W=>rO _ 2 c rfl W
  have j:=b.toNat_lt;have v:=c.toNat_lt;obtain⟨t,B⟩:=nm (strOf [a,b,c]);rw[B.out] at n H A F q ⊢
  by_cases p:a=1
  ·subst p
   have f:sS [1,b,c]=some (b.toNat+256*c.toNat):=rfl;rw[f];have M:∀W:World,(Instr.index 9 (.string t) (.int .i64 0)).run Tryz.prog W= .ok (.int .u8 1) W:=n
   clear n f;have J:IntKind.i64.wrap (b.toNat:Int)=(b.toNat:Int):=aG _ (by omega);have N:IntKind.i64.wrap (c.toNat:Int)=(c.toNat:Int):=aG _ (by omega);obtain⟨I,g⟩:=nx (b.toNat+256*c.toNat);have D:IntKind.i64.wrap ((c.toNat:Int)*256)=((256*c.toNat:Nat):Int):=(by rw[aG _ (by omega)];omega);have C:=wm b.toNat c.toNat 256 I 8 rfl j g (by omega);have E:=ah g;obtain⟨K,k⟩:∃m:Nat,Hid (256*c.toNat=m):=⟨_,ah rfl⟩
   rw[k.out] at D C;clear g j v;go_enter Tryz.func48,Tryz.ntmps48;go_wp2_with fail;refine aP (fun W=>W=w.drew) (fun i=>true) [0,1,2,3,4,5,6,7,8,9] rfl (by kernel_rfl) rfl ?_
   repeat (refine oq ?_ rfl rfl rfl ?_ ?_;rotate_left;(focus intro W r;(try dsimp only at r);subst r;go_simp;first|done|with_reducible rfl);try simp only[Act.put,aj,au,ak])
   refine bR ?_;go_wp2_with fail;go_ret2;refine⟨(aR _ w).drew,?_⟩;rw[<-E.out];rfl
  ·have f:sS [a,b,c]=none:=if_neg p
   rw[f];have y:¬(a.toNat:Int)=1:=fun e=>p (Ko.1 (by show a.toNat=1;omega))
   clear j v f;go_enter Tryz.func48,Tryz.ntmps48;go_wp2_with fail;go_ret2;exact⟨aR _ w,rfl⟩
 ·have q:¬(s.size:Int)=3:=by omega
  have G:sS s.data.toList=none:=by
   generalize s.data.toList=l at d
   match l,d with
   |[a,b,c],h=>exact absurd h (by simp;omega)
   |[],_=>rfl
   |[_],_=>rfl
   |[_,_],_=>rfl
   |_::_::_::_::_,_=>rfl
  rw[G];go_enter Tryz.func48,Tryz.ntmps48;go_wp2_with fail;go_ret2;exact⟨aR _ w,rfl⟩
def iP (er:Int)(key:ByteArray):Int:=if er≠0 then er else if key.size=0\/128<key.size then 1 else 0
def dF (mp:VS)(tr:Option Nat)(ch:Bool)(er:Int):Array Value:=#[.pointer (some ⟨mp.tx,0,none⟩),.pointer (some ⟨mp.mp,0,none⟩),.pointer (tr.map fun b=>⟨b,0,none⟩),.bool ch,.int .i64 er]
theorem oC (t:Nat)(p:VS)(j:Nat)(m:Bool)(c:Int)(a:ByteArray)(w:World)(h:w.heap[t]? =some (.cells (dF p (some j) m c) 100 (0,0))):
  Calls Tryz.prog 59 #[.pointer (some ⟨t,0,none⟩),.string a] w fun e l=>l=w/\e= .returned (.int .i64 (iP c a)):=by
 have q:w.cell? ⟨t,2,none⟩=some (.pointer (some ⟨j,0,none⟩)):=by simp[World.cell?,h,dF]
 have s:w.cell? ⟨t,4,none⟩=some (.int .i64 c):=by simp[World.cell?,h,dF]
 have r:=(ai.1 h).1;have d:a.toList.isEmpty=decide (a.size=0):=by
  rw[toList_eq];have:a.data.toList.length=a.size:=by show a.data.toList.length=a.data.size;simp
  rw[<-this];cases a.data.toList<;>simp
 clear h
 by_cases i:c=0
 ·subst i
  by_cases f:a.size=0
  ·have b:iP 0 a=1:=by unfold iP;rw[if_neg (by simp),if_pos (.inl f)]
   rw[b];have g:a.toList.isEmpty=true:=(by rw[d];simp[f]);clear d b;go_enter Tryz.func59,Tryz.ntmps59;go_wp2_with fail;go_ret;exact⟨rfl,rfl⟩
  ·have g:a.toList.isEmpty=false:=by rw[d];simp[f]
   clear d
   by_cases o:128<a.size
   ·have b:iP 0 a=1:=by unfold iP;rw[if_neg (by simp),if_pos (.inr o)]
    rw[b];have n:(128:Int)<(a.size:Int):=(by omega);clear b;go_enter Tryz.func59,Tryz.ntmps59;go_wp2_with fail;go_ret;exact⟨rfl,rfl⟩
   ·have b:iP 0 a=0:=by unfold iP;rw[if_neg (by simp),if_neg (by omega)]
    rw[b];have n:¬(128:Int)<(a.size:Int):=(by omega);clear b;go_enter Tryz.func59,Tryz.ntmps59;go_wp2_with fail;go_ret;exact⟨rfl,rfl⟩
 ·have b:iP c a=c:=if_pos i
  rw[b];have k:(c !=0)=true:=by simp[i]
  clear d b;go_enter Tryz.func59,Tryz.ntmps59;go_wp2_with fail;go_ret;exact⟨rfl,rfl⟩
theorem FV (t:Nat)(f:VS)(a:Option Nat)(c:Bool)(d e:Int)(w:World)(h:w.heap[t]? =some (.cells (dF f a c d) 100 (0,0))):
  Calls Tryz.prog 61 #[.pointer (some ⟨t,0,none⟩),.int .i64 e] w fun r b=>r= .returned (.int .i64 e)/\b.heap[t]? =some (.cells (dF f a c e) 100 (0,0))/\Keep (· =t) w b:=by
 have k:w.cell? ⟨t,4,none⟩=some (.int .i64 d):=by simp[World.cell?,h,dF]
 have i:w.frozen? ⟨t,4,none⟩=false:=by simp[World.frozen?,h]
 have j:=(ai.1 h).1;have g:=ah h;clear h;go_enter Tryz.func61,Tryz.ntmps61;go_wp2_with fail;go_ret;refine⟨rfl,?_,(Keep.refl (· =t) _).setCell (p:=⟨t,4,none⟩) (.inr rfl) _⟩;simp[World.setCell,aQ,g.out];rfl
theorem MH (f:Option Addr)(a:ByteArray)(b:Int)(w:World)(g:Calls Tryz.prog 59 #[.pointer f,.string a] w fun e c=>c=w/\e= .returned (.int .i64 b))(d:b≠0):
  Calls Tryz.prog 36 #[.pointer f,.string a] w fun e c=>c=w/\e= .returned (.tuple #[.string ByteArray.empty,.bool false,.int .i64 b]):=by
 have i:(b !=0)=true:=by simp[d]
 have j:=ah g;clear g;go_enter Tryz.func36,Tryz.ntmps36;go_wp2_with (first|(go_at_call 59;go_must (refine j.out.mono ?_;rintro e k ⟨rfl,rfl⟩)))
 go_ret3
 exact⟨rfl,rfl⟩
theorem MG (g:Option Addr)(b a:ByteArray)(c:Int)(w:World)(i:Calls Tryz.prog 59 #[.pointer g,.string b] w fun e d=>d=w/\e= .returned (.int .i64 c))(f:c≠0):
  Calls Tryz.prog 23 #[.pointer g,.string b,.string a] w fun e d=>d=w/\e= .returned (.int .i64 c):=by
 have j:(c !=0)=true:=by simp[f]
 have k:=ah i;clear i;go_enter Tryz.func23,Ux;go_wp2_with (first|(go_at_call 59;go_must (refine k.out.mono ?_;rintro e l ⟨rfl,rfl⟩)))
 go_ret;exact⟨rfl,rfl⟩
theorem Cy (f:Option Addr)(a:ByteArray)(b:Int)(w:World)(g:Calls Tryz.prog 59 #[.pointer f,.string a] w fun e c=>c=w/\e= .returned (.int .i64 b))(d:b≠0):
  Calls Tryz.prog 117 #[.pointer f,.string a] w fun e c=>c=w/\e= .returned (.tuple #[.bool false,.int .i64 b]):=by
 have i:(b !=0)=true:=by simp[d]
 have j:=ah g;clear g;go_enter Tryz.func117,Tryz.ntmps117;go_wp2_with (first|(go_at_call 59;go_must (refine j.out.mono ?_;rintro e k ⟨rfl,rfl⟩)))
 go_ret2;exact⟨rfl,rfl⟩
theorem FT (f:Option Addr)(s:ByteArray)(w:World)(g:s.size<=1000000)(l:1<=s.size)(b:sS s.data.toList=none):
  Calls Tryz.prog 68 #[.pointer f,.string s] w fun e d=>Below w.heap.size w d/\e= .returned (.tuple #[.string (s.extract 1 s.size),.int .i64 0]):=by
 have c:=ah (ER s w g);rw[b] at c;have k:min (1:Int) (s.size:Int)=1:=by omega
 have i:(1:Int)<=(s.size:Int):=by omega
 clear b;go_enter Tryz.func68,Tryz.ntmps68;go_wp2_with (first|(go_at_call 48;go_must (refine c.out.mono ?_;rintro e j ⟨a,rfl⟩)))
 go_ret2;exact⟨a,rfl⟩
theorem Ih (t:Nat)(c:VS)(y:Option Nat)(r:Bool)(v:Int)(j:cK)(S:Nat->Prop)(w:World)(s:ByteArray)(d:Nat)(l:List UInt8)(m:List (Nat×Nat))(h:w.heap[t]? =some (.cells (dF c y r v) 100 (0,0)))(n:Inv j S c w)(B:qd j d l m)(z:s.size<=1000000)(o:sS s.data.toList=some d):
  Calls Tryz.prog 68 #[.pointer (some ⟨t,0,none⟩),.string s] w fun e q=>Below w.heap.size w q/\e= .returned (.tuple #[.string ⟨l.toArray⟩,.int .i64 0]):=by
 have p:=ah (ER s w z);rw[o] at p;have A:=ah h;have C:=ah n;have b:=(ai.1 h).1;clear o h n;go_enter Tryz.func68,Tryz.ntmps68;go_wp2_with (first|(go_at_call 48;go_must (refine p.out.mono ?_;rintro e f ⟨a,rfl⟩;refine sO ?_)))
 refine sN ?_;have g:=(a.block t b).trans A.out;have k:=ax b a.size;have D:f.cell? ⟨t,0,none⟩=some (.pointer (some ⟨c.tx,0,none⟩)):=by simp[World.cell?,g,dF]
 have E:f.cell? ⟨t,1,none⟩=some (.pointer (some ⟨c.mp,0,none⟩)):=by simp[World.cell?,g,dF]
 have x:=ah (Wu c j S f d l m (C.out.below a) B);clear g;go_wp2_with (first|(go_at_call 115;go_must (refine x.out.mono ?_;rintro e F ⟨rfl,i⟩)))
 go_ret2;exact⟨a.trans (i.mono a.size),rfl⟩
def ValAt (σ:cK)(small v:ByteArray)(vb:List Int):Prop:=
 (small=strOf (0::v.data.toList)/\v.size<=63/\vb=[])\/
 ∃hd rs,small=strOf [1,UInt8.ofNat hd,UInt8.ofNat (hd/256)]/\(hd<65536/\63<v.size)/\qd σ hd v.data.toList rs/\vb=kH hd rs
def wC (l:List UInt8):sS (0::l)=none:=by
 match l with
 |[]=>rfl
 |[_]=>rfl
 |[_,_]=>rfl
 |_::_::_::_=>rfl
def yQ (a:Nat)(h:a<65536):sS [1,UInt8.ofNat a,UInt8.ofNat (a/256)]=some a:=by
 show some ((UInt8.ofNat a).toNat+256*(UInt8.ofNat (a/256)).toNat)=some a;rw[fC,fC];congr 1;omega
def KV (v:ByteArray):(strOf (0::v.data.toList)).extract 1 (strOf (0::v.data.toList)).size=v:=by
 have a:(strOf (0::v.data.toList)).size=v.data.toList.length+1:=by show (0::v.data.toList).toArray.size=_;simp
 apply SC;rw[H9];apply FR.1;rw[NI,a];show ((0::v.data.toList).drop 1).take (v.data.toList.length+1 - 1)=v.data.toList;rw[BN,gy,dQ];exact bS
def P8 (t:Nat)(d:VS)(j:Option Nat)(f:Bool)(g:Int)(c:cK)(S:Nat->Prop)(w:World)(a v:ByteArray)(m:List Int)(h:w.heap[t]? =some (.cells (dF d j f g) 100 (0,0)))(o:Inv c S d w)(p:ValAt c a v m):
  Calls Tryz.prog 68 #[.pointer (some ⟨t,0,none⟩),.string a] w fun e k=>Below w.heap.size w k/\e= .returned (.tuple #[.string v,.int .i64 0]):=by
 rcases p with ⟨rfl,i,_⟩|⟨b,n,rfl,i,l,_⟩
 ·have q:(strOf (0::v.data.toList)).size=v.size+1:=by show (0::v.data.toList).toArray.size=v.data.size+1;simp
  have:=FT (some ⟨t,0,none⟩) (strOf (0::v.data.toList)) w (by omega) (by omega) (wC _);rwa [KV] at this
 ·exact Ih t d j f g c S w _ b v.data.toList n h o l (by show [1,UInt8.ofNat b,UInt8.ofNat (b/256)].toArray.size<=_;simp) (yQ b i.1)
theorem VR (t g:Nat)(i:VS)(d:Int)(m:Bool)(j:cK)(S:Nat->Prop)(w:World)(f:List Pr)(x:List Int)(b v:ByteArray)(y:List Int)(h:w.heap[t]? =some (.cells (dF i (some g) m 0) 100 (0,0)))(n:Inv j S i w)(s:dw w g i d 0)(E:ze j d f x)(F:f.length<=4090)(C:1<=b.size/\b.size<=128)(q:∀a,dL f b=some a->ValAt j a v y):
  Calls Tryz.prog 36 #[.pointer (some ⟨t,0,none⟩),.string b] w fun e B=>e= .returned (.tuple #[.string (if (dL f b).isSome then v else ByteArray.empty),.bool (dL f b).isSome,.int .i64 0])/\Below w.heap.size w B:=by
 have o:=ah (oC t i g m 0 b w h);have z:iP 0 b=0:=by unfold iP;rw[if_neg (by simp),if_neg (by omega)]
 rw[z] at o;have k:=ah (DK g i d j S f x b w n s E F C);have K:w.cell? ⟨t,2,none⟩=some (.pointer (some ⟨g,0,none⟩)):=by simp[World.cell?,h,dF]
 have l:=(ai.1 h).1;have G:=ah h;have D:=ah n;clear h n z s;cases p:dL f b with
 |none=>
  rw[p] at k;clear q;go_enter Tryz.func36,Tryz.ntmps36;go_wp2_with (first|(go_at_call 59;go_must (refine o.out.mono ?_;rintro e A ⟨rfl,rfl⟩))|(go_at_call 73;go_must (refine k.out.mono ?_;rintro e I ⟨rfl,c⟩)))
  go_ret3
  exact⟨rfl,c⟩
 |some a=>
  rw[p] at k;have H:=ah (q a p);clear q;go_enter Tryz.func36,Tryz.ntmps36;go_wp2_with (first|(go_at_call 59;go_must (refine o.out.mono ?_;rintro e A ⟨rfl,rfl⟩))|(go_at_call 73;go_must (refine k.out.mono ?_;rintro e I ⟨rfl,c⟩))|(go_at_call 68;go_must (refine(P8 t i (some g) m 0 j S _ a v y ((c.block t l).trans G.out) (D.out.below c) H.out).mono ?_;rintro e J ⟨r,rfl⟩)))
  go_ret3
  exact⟨rfl,c.trans (r.mono c.size)⟩
theorem Cx (t i:Nat)(j:VS)(b:Int)(x:Bool)(y:Int)(l:cK)(S:Nat->Prop)(w:World)(d:List Pr)(p:List Int)(a:ByteArray)(h:w.heap[t]? =some (.cells (dF j (some i) x y) 100 (0,0)))(r:Inv l S j w)(o:dw w i j b 0)(A:ze l b d p)(B:d.length<=4090)(z:1<=a.size/\a.size<=128)(m:sS ((dL d a).getD ⟨#[]⟩).data.toList=none)(k:((dL d a).getD ⟨#[]⟩).size<=1000000):
  Calls Tryz.prog 60 #[.pointer (some ⟨t,0,none⟩),.string a] w fun e v=>e= .returned (.int .i64 0)/\Below w.heap.size w v:=by
 have q:=ah (DK i j b l S d p a w r o A B z);have F:w.cell? ⟨t,2,none⟩=some (.pointer (some ⟨i,0,none⟩)):=by simp[World.cell?,h,dF]
 have s:=(ai.1 h).1;obtain⟨c,f⟩:=nx ((dL d a).getD ⟨#[]⟩);rw[<-f] at q m k;have D:=ah k;have C:=ah m;clear h r o m k f;go_enter Tryz.func60,Tryz.ntmps60;go_wp2_with (first|(go_at_call 73;go_must (refine q.out.mono ?_;rintro e G ⟨rfl,g⟩))|(go_at_call 48;go_must (refine(ER c _ D.out).mono ?_;rw[C.out];rintro e E ⟨n,rfl⟩)))
 go_ret;exact⟨rfl,g.trans (n.mono g.size)⟩
theorem KF (t n:Nat)(f:VS)(d:Int)(G:Bool)(H:Int)(g:cK)(S:Nat->Prop)(w:World)(m:List Pr)(A:List Int)(c a:ByteArray)(k:Nat)(l:List UInt8)(r:List (Nat×Nat))(h:w.heap[t]? =some (.cells (dF f (some n) G H) 100 (0,0)))(s:Inv g S f w)(z:dw w n f d 0)(M:ze g d m A)(N:m.length<=4090)(I:1<=c.size/\c.size<=128)(E:dL m c=some a)(F:sS a.data.toList=some k)(D:a.size<=1000000)(R:qd g k l r):
  Calls Tryz.prog 60 #[.pointer (some ⟨t,0,none⟩),.string c] w fun e y=>e= .returned (.int .i64 0)/\Inv (g.frees (qG (kH k r))) S f y/\Step S S w y:=by
 have C:=ah (DK n f d g S m A c w s z M N I);have X:w.cell? ⟨t,2,none⟩=some (.pointer (some ⟨n,0,none⟩)):=by simp[World.cell?,h,dF]
 have i:=(ai.1 h).1;have Q:=ah h;have K:=ah s;rw[E] at C;have P:=ah D;have O:=ah F;clear h s z F D E;go_enter Tryz.func60,Tryz.ntmps60;go_wp2_with (first|(go_at_call 73;go_must (refine C.out.mono ?_;rintro e Y ⟨rfl,j⟩))|(go_at_call 48;go_must (refine(ER a _ P.out).mono ?_;rw[O.out];rintro e o ⟨x,rfl⟩;refine sO ?_)))
 refine sN ?_;have b:=j.trans (x.mono j.size);have p:=(b.block t i).trans Q.out;have B:=ax i b.size;have V:o.cell? ⟨t,0,none⟩=some (.pointer (some ⟨f.tx,0,none⟩)):=by simp[World.cell?,p,dF]
 have W:o.cell? ⟨t,1,none⟩=some (.pointer (some ⟨f.mp,0,none⟩)):=by simp[World.cell?,p,dF]
 have J:=ah (Wv f g S o k l r (K.out.below b) R);clear p;go_wp2_with (first|(go_at_call 103;go_must (refine J.out.mono ?_;rintro e T ⟨rfl,v,q⟩)))
 go_ret;exact⟨rfl,v,(Step.of_below b).trans q⟩
theorem Qg (t y:Nat)(a:VS)(A:Bool)(B:Int)(l:cK)(S:Nat->Prop)(w:World)(h:w.heap[t]? =some (.cells (dF a (some y) A B) 100 (0,0)))(c:Inv l S a w)(j:¬S t):
  Calls Tryz.prog 31 #[.pointer (some ⟨t,0,none⟩)] w fun e q=>e= .returned (.tuple #[])/\(∃b,ji q b a.pg a.d l.H.dk l.H.lg l.H.pg (.pointer none)/\∀g,b g->S g)/\q.heap[t]? =some (.cells (dF a none A B) 100 (0,0))/\Keep (fun g=>S g\/g=t) w q:=by
 obtain⟨b,T,c,m⟩:=c;have J:w.cell? ⟨t,0,none⟩=some (.pointer (some ⟨a.tx,0,none⟩)):=by simp[World.cell?,h,dF]
 have H:w.cell? ⟨t,2,none⟩=some (.pointer (some ⟨y,0,none⟩)):=by simp[World.cell?,h,dF]
 have o:=(ai.1 h).1;have F:=ah (Qn a.tx a.pg a.d _ _ _ _ _ _ b T w c.pg c.tx c.dis);have E:=ah h;have C:=ah m;have i:¬b t:=fun x=>j ((m t).2 (.inl x))
 have z:¬T t:=fun x=>j ((m t).2 (.inr (.inl x)))
 clear h c m;go_enter Tryz.func31,Tryz.ntmps31;go_wp2_with (first|(go_at_call 56;go_must (refine F.out.mono ?_;rintro e n ⟨rfl,v,_,d⟩;refine sO ?_)))
 refine sN ?_;have f:=(d.block t o (fun e=>e.elim i z)).trans E.out;have D:=(ai.1 f).1;have G:n.cell? ⟨t,2,none⟩=some (.pointer (some ⟨y,0,none⟩)):=by simp[World.cell?,f,dF]
 have I:n.frozen? ⟨t,2,none⟩=false:=by simp[World.frozen?,f]
 have s:=ah f;clear f;go_wp2_with fail;go_end0;have k:Keep (· =t) n (n.setCell ⟨t,2,none⟩ (.pointer none)):=(Keep.refl (· =t) _).setCell (p:=⟨t,2,none⟩) (.inr rfl) _;refine⟨rfl,⟨b,v.keep k (fun g r e=>i (e▸r)),fun g r=>(C.out g).2 (.inl r)⟩,?_,?_⟩
 ·simp[World.setCell,aQ,s.out]
  rfl
 ·exact(d.mono (fun g _ e=> .inl ((C.out g).2 (e.imp id .inl)))).trans (k.mono (fun g _ e=> .inr e)) (fun _ _ e=>e)
theorem MI (v a d:Nat)(c:Dk)(l:Lg)(p:Pg)(f:Value)(S:Nat->Prop)(w:World)(b:w.heap[v]? =some (.cells #[.pointer (some ⟨a,0,none⟩)] 88 (0,0)))(h:ji w S a d c l p f):
  Calls Tryz.prog 14 #[.pointer (some ⟨v,0,none⟩)] w fun e i=>e= .returned (.int .i64 (p.blocks c))/\i=w.drew:=by
 have m:w.cell? ⟨v,0,none⟩=some (.pointer (some ⟨a,0,none⟩)):=by simp[World.cell?,b]
 have g:=(ai.1 b).1;have j:=ah (zJ a d c l p f S w h);clear b h;go_enter Tryz.func14,Tryz.ntmps14;go_wp2_with (first|(go_at_call 42;go_must (refine j.out.mono ?_;rintro e k ⟨rfl,rfl⟩)))
 go_ret;exact⟨rfl,rfl⟩
theorem Qc (v a d:Nat)(c:Dk)(l:Lg)(p:Pg)(f:Value)(S:Nat->Prop)(w:World)(b:w.heap[v]? =some (.cells #[.pointer (some ⟨a,0,none⟩)] 88 (0,0)))(h:ji w S a d c l p f)(k:(l.last:Int)<=1000000000000):
  Calls Tryz.prog 12 #[.pointer (some ⟨v,0,none⟩)] w fun e i=>e= .returned (.int .i64 ((l.last:Int) - 1))/\i=w:=by
 have n:w.cell? ⟨v,0,none⟩=some (.pointer (some ⟨a,0,none⟩)):=by simp[World.cell?,b]
 have g:=(ai.1 b).1;have j:=ah (Uk a d c l p f S w h);have q:IntKind.i64.wrap ((l.last:Int) - 1)=(l.last:Int) - 1:=aG _ (by omega);clear b h;go_enter Tryz.func12,Tryz.ntmps12;go_wp2_with (first|(go_at_call 45;go_must (refine j.out.mono ?_;rintro e m ⟨rfl,rfl⟩)))
 go_ret;exact⟨rfl,rfl⟩
theorem FU (v a d:Nat)(c:Dk)(l:Lg)(p:Pg)(f:Value)(S:Nat->Prop)(w:World)(b:w.heap[v]? =some (.cells #[.pointer (some ⟨a,0,none⟩)] 88 (0,0)))(h:ji w S a d c l p f)(k:(l.synced:Int)<=1000000000000):
  Calls Tryz.prog 72 #[.pointer (some ⟨v,0,none⟩)] w fun e i=>e= .returned (.int .i64 ((l.synced:Int) - 1))/\i=w:=by
 have n:w.cell? ⟨v,0,none⟩=some (.pointer (some ⟨a,0,none⟩)):=by simp[World.cell?,b]
 have g:=(ai.1 b).1;have j:=ah (Tv a d c l p f S w h);have q:IntKind.i64.wrap ((l.synced:Int) - 1)=(l.synced:Int) - 1:=aG _ (by omega);clear b h;go_enter Tryz.func72,Tryz.ntmps72;go_wp2_with (first|(go_at_call 120;go_must (refine j.out.mono ?_;rintro e m ⟨rfl,rfl⟩)))
 go_ret;exact⟨rfl,rfl⟩
structure Vw (σ:Dk)(l:Lg)(p:Pg):Prop where
 free:σ.oK
 ld:l.dead=false
 pd:p.dead=false
 wt:σ.waits.length<=l.used
def Lg.ET {a:Dk}(h:a.oK)(b:l.dead=false)(c:l.frm<a.n):l.sync a=((a.flush.put l.frm l.all.fJ).flush,l.all,0):=by
 unfold Lg.sync;rw[b,if_neg (by simp),h.sync];dsimp only;rw[if_pos rfl,Lg.AO h.flush l.all c];dsimp only;rw[if_pos rfl];rfl
def yR (a:Dk)(f j:Nat)(x:List UInt8)(h:f≠j):((a.flush.put f x).flush).get j=a.get j:=by
 rw[Dk.oO,Dk.get_put,if_neg h,Dk.oO]
def Pg.Ji (p:Pg):∀(r:List Nat) (d:Dk),d.oK->(∀b∈r,p.skip+b<d.n/\(p.fresh.img b).length=512)->
  ∃a,p.lay r d=(a,0)/\a.oK/\a.n=d.n/\(∀b,a.get (p.skip+b)=if b∈r then p.fresh.img b else d.get (p.skip+b))/\∀j,j<p.skip->a.get j=d.get j
 |[],d,h,_=>⟨d,rfl,h,rfl,fun b=>by simp,fun _ _=>rfl⟩
 |b::r,d,h,g=>by
  obtain⟨l,i⟩:=g b (bf ..)
  have o:=h.write (p.skip+b) (p.fresh.img b) l (by omega)
  obtain⟨a,k,t,m,q,n⟩:=Pg.Ji p r (d.put (p.skip+b) (p.fresh.img b)) (h.put _ _) (fun c f=>g c (aX _ f))
  refine⟨a,?_,t,m,fun c=> ?_,fun j s=> ?_⟩
  ·rw[p.zS,o]
   dsimp only
   rw[if_pos rfl,k]
  ·rw[q,Dk.get_put]
   by_cases f:c∈r
   ·rw[if_pos f,if_pos (aX _ f)]
   ·rw[if_neg f]
    by_cases e:c=b
    ·subst e
     rw[if_pos rfl,if_pos (bf ..)]
     exact zK i
    ·rw[if_neg (by omega),if_neg (fun x=>(bO.1 x).elim e f)]
  ·rw[n j s,Dk.get_put,if_neg (by omega)]
def Pg.OP {e:Dk}(i:Vw e l p)(g:p.Ok e l):
  ∃c,p.home e l=(c,l.all.cut l.last,{p with fresh:=Im.none},0)/\c.oK/\c.n=e.n/\c.waits=[]/\∀b,c.get (p.skip+b)=(p.fresh.find b).getD (e.get (p.skip+b)):=by
 have t:=g.fit;have s:=g.frm;have j:=g.skip;have q:=g.ring;have v:=Lg.ET i.free i.ld (by omega:l.frm<e.n);obtain⟨d,a⟩:=nx ((e.flush.put l.frm l.all.fJ).flush);rw[<-a] at v;have o:d.oK:=by rw[a];exact i.free
 have k:d.n=e.n:=by rw[a];rfl
 have n:∀b,d.get (p.skip+b)=e.get (p.skip+b):=fun b=>by rw[a];exact yR _ _ _ _ (by omega)
 obtain⟨f,A,m,C,z,_⟩:=Pg.Ji p p.fresh.ks d o (fun b r=>⟨by have:=g.fresh.hi b r;omega,g.fresh.img b r⟩);have B:=Lg.AO m.flush (l.all.cut l.all.last) (by show l.frm<f.n;omega);have y:l.all.trim f.flush l.all.last=(((f.flush).put l.frm (l.all.cut l.all.last).fJ).flush,l.all.cut l.all.last,0):=by
  unfold Lg.trim;have x:l.all.dead=false:=i.ld;rw[x,if_neg (by simp),if_neg (by show ¬l.last<l.last;omega),B];dsimp only;rw[if_pos rfl];rfl
 refine⟨((f.flush).put l.frm (l.all.cut l.all.last).fJ).flush,?_,m,by rw[<-k,<-C];rfl,rfl,fun b=> ?_⟩
 ·unfold Pg.home
  rw[v];dsimp only;rw[if_pos rfl,A];dsimp only;rw[if_pos rfl,m.sync];dsimp only;rw[if_pos rfl,y];dsimp only;rw[if_pos rfl];rfl
 ·rw[Dk.oO,Dk.get_put,if_neg (by omega),Dk.oO,z,n]
  unfold Im.find
  split<;>rfl
def Lg.CU (l:Lg)(b:List UInt8)(p:2<=l.n):∀(k i:Nat) (c:Dk),c.oK->l.frm+l.n<=c.n->
  ∃a,l.rF b k i c=(a,0)/\a.oK/\a.n=c.n/\a.waits.length=c.waits.length+k/\∀j,l.frm+l.n<=j->a.get j=c.get j
 |0,_,c,h,_=>⟨c,rfl,h,rfl,rfl,fun _ _=>rfl⟩
 |k+1,i,c,h,n=>by
  have s:l.ring (l.start+l.used+i)<l.frm+l.n:=by
   unfold Lg.ring;have:=mZ (l.start+l.used+i) (by omega:0<l.n - 1);omega
  obtain⟨x,d⟩:=nx ((b.drop (i*512)).take 512);have m:=h.write (l.ring (l.start+l.used+i)) x (by omega) (by rw[d,aH];omega);obtain⟨a,e,r,f,o,g⟩:=Lg.CU l b p k (i+1) (c.put (l.ring (l.start+l.used+i)) x) (h.put _ _) n;refine⟨a,?_,r,f,?_,fun j q=> ?_⟩
  ·rw[l.uJ,<-d,m]
   dsimp only;rw[if_pos rfl,e]
  ·rw[o]
   show (c.waits++[_]).length+k=_;simp;omega
  ·rw[g j q,Dk.get_put,if_neg (by omega)]
def Pg.AP (p:Pg)(a:Dk)(b:Nat):p.look Im.none a b=(p.fresh.find b).getD (a.get (p.skip+b)):=rfl
def Im.Fg (m d:Im)(b:Nat):(m.over d).find b=if b∈d.ks then some (d.img b) else m.find b:=by
 unfold Im.find Im.over;rw[Im.wG];simp only[Im.xV]
 by_cases h:b∈d.ks
 ·simp[h]
 ·simp[h]
def Pg.Ff (p:Pg)(d:Im)(a:Dk)(b:Nat):({p with fresh:=p.fresh.over d}:Pg).look Im.none a b=p.look d a b:=by
 rw[Pg.AP];show ((p.fresh.over d).find b).getD (a.get (p.skip+b))=_;rw[Im.Fg];unfold Pg.look
 by_cases h:b∈d.ks
 ·have:d.find b=some (d.img b):=if_pos h
  rw[if_pos h,this];rfl
 ·have:d.find b=none:=if_neg h
  rw[if_neg h,this];rfl
def Pg.sP (p:Pg)(im:Im):Prop:=p.ring<dS im.bH\/1024<im.ks.length
def JU {σ:Dk}{a:Im}(f:Vw σ l p)(q:p.Ok σ l)(O:l.Ok)(hi:a.Ok (p.blocks σ)):
  (a.ks=[]/\p.commit σ l a=(σ,l,p,l.last,0))\/
  (a.ks≠[]/\p.sP a/\p.commit σ l a=(σ,l,p,0,13))\/
  (a.ks≠[]/\¬p.sP a/\∃e H t,p.commit σ l a=(e,H,t,l.last+1,0)/\Vw e H t/\H.last=l.last+1/\t.skip=p.skip/\t.ring=p.ring/\e.n=σ.n/\∀b,t.look Im.none e b=p.look a σ b):=by
 have N:=q.fit;have K:=q.frm;have A:=q.skip;have G:=q.ring;have pM:=O.n2
 by_cases j:a.ks=[]
 ·refine .inl ⟨j,?_⟩
  unfold Pg.commit;rw[f.pd,if_neg (by simp),if_pos j]
 by_cases r:p.sP a
 ·refine .inr (.inl ⟨j,r,?_⟩)
  unfold Pg.commit;unfold Pg.sP at r;rw[f.pd,if_neg (by simp),if_neg j,if_pos r]
 have F:¬(p.ring<dS a.bH\/1024<a.ks.length):=r;refine .inr (.inr ⟨j,r,?_⟩);have C:0<a.ks.length:=dD.2 j;obtain⟨n,k⟩:∃n,dS a.bH=n:=⟨_,rfl⟩
 rw[k] at F;obtain⟨d,c,g,hr,y,R,z,B,m,o,X,J,i,I⟩:∃d c g,p.ready σ l n=(d,c,g,0)/\(c.dead=false/\g.dead=false/\d.waits.length<=c.used)/\d.oK/\d.n=σ.n/\g.skip=p.skip/\g.ring=p.ring/\c.last=l.last/\c.frm=l.frm/\c.n=l.n/\n<=c.room/\∀b,g.look a d b=p.look a σ b:=by
  by_cases v:l.room<n
  ·obtain⟨e,E,Q,h3,S,V⟩:=Pg.OP f q
   have M:=Pg.FC O (p:=p) (σ:=σ) (by rw[E]);rw[E] at M;refine⟨e,l.all.cut l.last,{p with fresh:=Im.none},?_,⟨f.ld,f.pd,by rw[S];exact aS _⟩,Q,h3,rfl,rfl,rfl,rfl,rfl,by have:=M.2.2.2.1;dsimp only at this;omega,fun b=> ?_⟩
   ·unfold Pg.ready
    rw[if_pos v,E]
   ·unfold Pg.look
    congr 1;show e.get (p.skip+b)=_;exact V b
  ·refine⟨σ,l,p,?_,⟨f.ld,f.pd,f.wt⟩,f.free,rfl,rfl,rfl,rfl,rfl,rfl,by omega,fun _=>rfl⟩
   unfold Pg.ready;rw[if_neg v]
 have s:c.bad a.bH=0:=by
  have:=Lg.Af (l:=c) hi y.1 C (by omega) (by rw[k];exact i);rwa [qZ] at this
 obtain⟨x,T,q2,W,Z,Y⟩:=Lg.CU c (iW (c.last+1) a.bH) (by omega) (dS a.bH) 0 d R (by omega);have D:c.append d a.bH=(x,c.more a.bH,c.last+1,0):=by
  unfold Lg.append;rw[s,if_neg (by simp),T];dsimp only;rw[if_pos rfl]
 have P:=Pg.uf f.pd j k (by omega) hr D;rw[if_pos rfl] at P;refine⟨x,c.more a.bH,{g with fresh:=g.fresh.over a},?_,⟨q2,y.1,y.2.1,?_⟩,?_,B,m,W.trans z,fun b=> ?_⟩
 ·rw[P,o]
 ·show _<=c.used+dS a.bH
  rw[Z];have:=y.2.2;omega
 ·show c.last+1=_
  rw[o]
 ·rw[Pg.Ff,<-I]
  unfold Pg.look;rw[Y _ (by omega)]
def NY {d:Dk}(c:Vw d l p)(e:p.Ok d l):
  ∃a f,p.sync d l=(a,f,p,0)/\Vw a f p/\f.last=l.last/\f.synced=l.last/\a.n=d.n/\∀i b,p.look i a b=p.look i d b:=by
 have m:=e.fit;have n:=e.frm;have j:=e.skip;have g:=e.ring;unfold Pg.sync;rw[c.pd,if_neg (by simp)]
 by_cases k:l.synced=l.last/\d.dead=false
 ·rw[if_pos k]
  exact⟨d,l,rfl,c,rfl,k.1,rfl,fun _ _=>rfl⟩
 ·rw[if_neg k,Lg.ET c.free c.ld (by omega)]
  dsimp only;rw[if_pos rfl];refine⟨_,_,rfl,⟨c.free,c.ld,c.pd,aS _⟩,rfl,rfl,rfl,fun i b=> ?_⟩;unfold Pg.look;rw[yR _ _ _ _ (by omega)]
def EU (l:Lg)(B:List UInt8)(P:(Nat->List UInt8)->Prop)(p:Nat)(G:2<=l.n)(F:p<=l.n - 1)(O:∀s j x,j<p->P s->P (tX s (l.ring (l.start+l.used+j)) x)):
  ∀(k i:Nat) (b:Dk),i+k<=p->b.dead=false->l.frm+l.n<=b.n->Al b P->
  (∃a,l.rF B k i b=(a,0)/\a.dead=false/\(b.fuel= -1->a.fuel= -1)/\a.n=b.n/\a.waits.length=b.waits.length+k/\Al a P/\
   (∀j,i<=j->j<i+k->a.get (l.ring (l.start+l.used+j))=pad ((B.drop (j*512)).take 512))/\∀x,(∀j,i<=j->j<i+k->x≠l.ring (l.start+l.used+j))->a.get x=b.get x)\/
  (∃a,l.rF B k i b=(a,10)/\a.dead=true/\b.fuel≠-1/\a.n=b.n/\Al a P)
 |0,i,b,_,f,_,q=> .inl ⟨b,rfl,f,id,rfl,rfl,q,fun j T J=>absurd J (by omega),fun _ _=>rfl⟩
 |k+1,i,b,V,f,Z,q=>by
  have hr:l.ring (l.start+l.used+i)<l.frm+l.n:=by
   unfold Lg.ring;have:=mZ (l.start+l.used+i) (by omega:0<l.n - 1);omega
  obtain⟨x,H⟩:=nx ((B.drop (i*512)).take 512);have t:x.length<=512:=by rw[H,aH];omega
  rw[l.uJ,<-H];rcases Av f (i:=l.ring (l.start+l.used+i)) (by omega) t with ⟨e,o⟩|⟨e,o⟩
  ·rw[e]
   dsimp only;rw[if_pos rfl];obtain⟨d,c⟩:=nx (b.fK.put (l.ring (l.start+l.used+i)) x);rw[<-c];have r:d.dead=false:=(by rw[c];exact o);have M:d.n=b.n:=(by rw[c];exact b.dZ.1);have n:b.fuel= -1->d.fuel= -1:=fun h=>by rw[c];exact(mQ f h).2
   have D:Al d P:=(by rw[c];exact q.fK.put fun s X=>O s i _ (by omega) X);have v:d.waits.length=b.waits.length+1:=(by rw[c];show (b.fK.waits++[_]).length=_;rw[b.dZ.2.2];simp);have g:∀y,d.get y=if l.ring (l.start+l.used+i)=y then pad x else b.get y:=fun y=>by rw[c,Dk.get_put,b.rX]
   rcases EU l B P p G F O k (i+1) d (by omega) r (by omega) D with ⟨a,z,I,A,E,C,R,Q,N⟩|⟨a,z,I,A,E,C⟩
   ·refine .inl ⟨a,z,I,fun h=>A (n h),E.trans M,by rw[C,v];omega,R,fun j T J=> ?_,fun y K=> ?_⟩
    ·by_cases Y:j=i
     ·subst Y
      rw[N _ (fun m W S=>II (by omega) (by omega)),g,if_pos rfl,H]
     ·exact Q j (by omega) (by omega)
    ·rw[N y (fun m W S=>K m (by omega) (by omega)),g,if_neg (Ne.symm (K i (aD _) (by omega)))]
   ·exact .inr ⟨a,z,I,fun h=>A (n h),E.trans M,C⟩
  ·rw[e]
   dsimp only;rw[if_neg (by omega)];refine .inr ⟨_,rfl,o,fun h=> ?_,b.dZ.1,q.fK⟩;have:=(mQ f h).1;rw[o] at this;cases this
def Fe (B:List UInt8):List UInt8:=B++List.replicate ((B.length+511)/512*512 - B.length) 0
def Gt (B:List UInt8):(Fe B).length=(B.length+511)/512*512:=by unfold Fe;simp;omega
def Oq (B:List UInt8)(j:Nat)(h:j<(B.length+511)/512):((Fe B).drop (j*512)).take 512=pad ((B.drop (j*512)).take 512):=by
 have a:j*512<=B.length:=by omega
 have c:(j+1)*512<=(B.length+511)/512*512:=bZ 512 h;unfold Fe pad;rw[eU a]
 by_cases b:512<=B.length - j*512
 ·rw[bI (by rw[aO];omega)]
  rw[aH,aO,bK b];simp
 ·rw[x9,aJ (l:=B.drop (j*512)) (by rw[aO];omega),aO,List.take_replicate]
  congr 2;omega
def TF {s:Nat->List UInt8}{a:Nat}{B:List UInt8}(h:∀j,j<(B.length+511)/512->s (l.ring (a+j))=pad ((B.drop (j*512)).take 512)):Ej s l a B:=
 ⟨Fe B,Gt B,by unfold Fe;rw[iN],fun j b=>by rw[h j b,Oq B j b]⟩
def Og {b:Dk}{a:List Im}(h:Rest b l p a):wide (gJ a)=l.used:=by
 rw[<-h.lok.sum,h.list,yU]
theorem Ml {n:Dk}{c:List Im}(h:Rest n l p c)(hd:n.dead=false)(qb:l.dead=false){im:Im}(z:im.Pz (p.blocks n))(hr:dS im.bH<=l.room)(af:l.last<1000000000000):
  (∃d,l.append n im.bH=(d,l.more im.bH,l.last+1,0)/\d.dead=false/\(n.fuel= -1->d.fuel= -1)/\d.n=n.n/\(∀b,d.get (p.skip+b)=n.get (p.skip+b))/\Rest d (l.more im.bH) {p with fresh:=p.fresh.over im} (c++[im]))\/
  (∃d,l.append n im.bH=(d,l.dies,0,10)/\d.dead=true/\n.fuel≠-1/\d.n=n.n/\Al d fun s=>qN s l c p.skip (p.blocks n) (fun b=>n.get (p.skip+b)) l.synced):=by
 have v:=h.pok;have T:=v.fit;have o:=v.frm;have r:=v.skip;have M:=v.ring;have f:=h.lok;have aA:=f.sy;have ql:=h.tQ;have E:=h.len;have K:=f.n2;have q9:=f.us;have O:=Og h;obtain⟨D,C⟩:=nx (dS im.bH);have qo:1<=D:=by rw[C];exact zN _
 unfold Lg.room at hr;have qc:l.used+D<=l.n - 1:=by omega
 have W:l.bad im.bH=0:=by
  have:=Lg.Af (l:=l) z.ok qb z.lo z.hi (by unfold Lg.room;omega);rwa [qZ] at this
 obtain⟨N,X⟩:=nx (p.blocks n);obtain⟨H,hH⟩:∃H:Nat->List UInt8,H=fun b=>n.get (p.skip+b):=⟨_,rfl⟩
 have G:=h.all;rw[<-X,<-hH] at G;have A:∀s j x,j<D->Ph l l.fJ c (l.tQ c.length) p.skip N H s->Ph l l.fJ c (l.tQ c.length) p.skip N H (tX s (l.ring (l.start+l.used+j)) x):=fun s j x Y J=>by
  have av:=vT l (l.start+l.used+j) K o;refine⟨?_,J.on.set fun i F=> ?_,fun b z=> ?_⟩
  ·unfold tX
   rw[if_neg (by omega)];exact J.mark
  ·have hw:=Az (gJ c) (l.tQ c.length)
   exact MU (l:=l) (a:=l.start) (b:=l.start+l.used) (k:=l.used) (m:=D) (aD _) (by omega) (by omega) Y
  ·unfold tX
   rw[if_neg (by omega)];exact J.home b z
 unfold Lg.append;rw[W,if_neg (by simp)];rw[<-C];rcases EU l (iW (l.last+1) im.bH) _ D K (by omega) A D 0 n (by omega) hd (by omega) G with ⟨d,q1,q2,q3,P,q5,q6,q7,q8⟩|⟨d,q1,q2,q3,P,q5⟩
 ·left
  rw[q1];dsimp only;rw[if_pos rfl];have S:({p with fresh:=p.fresh.over im}:Pg).blocks d=N:=by rw[X];unfold Pg.blocks;rw[P]
  have Q:∀x,(∀j,j<D->x≠l.ring (l.start+l.used+j))->d.get x=n.get x:=fun x hx=>q8 x fun j _ Y=>hx j (by omega)
  have y:∀b,d.get (p.skip+b)=n.get (p.skip+b):=fun b=>Q _ fun j _=>by
   have:=vT l (l.start+l.used+j) K o;omega
  have g:(l.more im.bH).last+1 - (c++[im]).length=l.last+1 - c.length:=by
   show l.last+1+1 - _=_;rw[ay,dN];omega
  have B:gJ (c++[im])=gJ c++[im.bH]:=by simp[gJ]
  have pM:pQ d.get (l.more im.bH) (l.last+1 - c.length) (gJ c):=h.on.congr rfl rfl rfl fun j Y=>Q _ fun i F=>
   (MU (l:=l) (a:=l.start) (b:=l.start+l.used) (k:=l.used) (m:=D) (aD _) (by omega) (by omega) F).symm
  have R:Ej d.get (l.more im.bH) (l.start+wide (gJ c)) (iW (l.last+1 - c.length+(gJ c).length) im.bH):=by
   rw[dH,show l.last+1 - c.length+c.length=l.last+1 by omega,O];refine TF fun j Y=> ?_
   rw[uM] at Y;exact q7 j (aS _) (by omega)
  have I:(l.more im.bH).Ok:=by
   refine⟨f.n2,f.hi,f.st,?_,?_,?_,?_,?_⟩
   ·show l.used+dS im.bH<=_;rw[<-C];exact qc
   ·show l.last+1<=_;omega
   ·show l.synced<=l.last+1;omega
   ·intro e Z
    rcases bU.1 Z with Z|Z
    ·have:=f.ent e Z
     exact⟨this.1,lS this.2⟩
    ·rw[bQ.1 Z]
     exact⟨zN _,aD _⟩
   ·show ((l.list++[(l.last+1,dS im.bH)]).map (·.2)).sum=l.used+dS im.bH
    rw[bT,kV,f.sum];simp
  refine⟨d,rfl,q2,q3,P,y,⟨I,⟨o,r,M,by rw[P];exact T,?_⟩,?_,?_,?_,?_,?_,?_,?_,?_,?_⟩⟩
  ·show (p.fresh.over im).Ok (d.n - p.skip)
   rw[P];exact v.fresh.over z.ok
  ·show l.list++[_]=_
   rw[g,B,wI,h.list,dH];congr 3;omega
  ·rw[ay,dN]
   show _<=l.last+1;omega
  ·rw[ay,dN]
   show l.last+1<=l.synced+_;omega
  ·intro i F
   rw[S,X];rcases bU.1 F with F|F
   ·exact h.bat i F
   ·rw[bQ.1 F];exact z
  ·rw[g,B]
   exact pM.snoc R
  ·intro s J
   have q:=q6 s J;have p9:(l.more im.bH).fJ=l.fJ:=by
    refine I8 ?_;have V:=rR (l:=l) (bs:=gJ c) (by rw[dH];exact h.list) (by rw[dH];exact E);have t:=rR (l:=l.more im.bH) (bs:=gJ (c++[im])) (by
     rw[dH,g,B,wI,dH]
     show l.list++[_]=_
     rw[h.list]
     congr 3
     omega) (by rw[dH,ay,dN];show _<=l.last+1;omega)
    rw[dH] at V t;rw[g] at t;unfold Lg.fields;rw[V,t];rfl
   refine⟨by rw[p9];exact q.mark,?_,fun b z=> ?_⟩
   ·rw[g,B]
    have e:(l.more im.bH).tQ (c++[im]).length=l.tQ c.length:=by
     unfold Lg.tQ;rw[ay,dN];show l.synced+_ - (l.last+1)=_;omega
    rw[e,bI (by rw[dH];unfold Lg.tQ;omega)];exact q.on.congr rfl rfl rfl fun _ _=>rfl
   ·rw[q.home b (by rw[<-S];exact z),hH]
    exact(y b).symm
  ·intro b
   show (p.fresh.over im).find b=_;rw[zZ,Im.Fg,h.fresh b];unfold Im.find
   split<;>rfl
  ·show _<=l.used+dS im.bH
   rw[q5,<-C];have:=h.cap;omega
  ·intro e
   have e:l.synced=l.last+1:=e;omega
 ·right
  rw[q1];dsimp only;rw[if_neg (by omega)];refine⟨d,rfl,q2,q3,P,fun s J=> ?_⟩;rw[<-X,<-hH];exact(q5 s J).recs (l':=l) f o r.symm h.list E (by rw[X];exact h.bat) rfl (by unfold Lg.tQ;omega) (by unfold Lg.tQ;omega)
def Hr (l:Lg)(ims:List Im)(N:Nat)(H:Nat->List UInt8)(C:Nat->Nat->List UInt8):Prop:=∀k,l.synced<=k->k<=l.last->∀b,b<N->C k b=pG (ims.take (k+ims.length - l.last)) H b
def lM (σ:Dk)(l:Lg)(p:Pg)(C:Nat->Nat->List UInt8):Prop:=∃ims,Rest σ l p ims/\Hr l ims (p.blocks σ) (fun b=>σ.get (p.skip+b)) C
def FN (σ:Dk)(l:Lg)(L N:Nat)(C:Nat->Nat->List UInt8):Prop:=Al σ fun s=>∃k,l.synced<=k/\k<=l.last/\sZ s L N k (C k)
def qN.zW {s:Nat->List UInt8}{a:List Im}{L N k:Nat}{H:Nat->List UInt8}(h:qN s l a L N H k)(c:Hr l a N H C)(e:l.synced<=k)(d:k<=l.last):sZ s L N k (C k):=sZ.congr h fun b f=>c k e d b f
def lM.dead {a:Dk}(h:lM a l p C):FN a l p.skip (p.blocks a) C:=fun s d=>by
 obtain⟨b,h,c⟩:=h
 exact⟨l.synced,aD _,h.lok.sy,(h.recs s d).zW c (aD _) h.lok.sy⟩
def Ub.zW {d:Dk}{f:Lg}{b:List Im}{L N:Nat}{H:Nat->List UInt8}(h:Ub d f l b L N H)(i:Hr l b N H C)(c:l.synced<=l.last):FN d f L N C/\l.synced<=f.synced/\f.last=l.last:=by
 obtain⟨g,⟨j,k⟩|⟨j,k⟩⟩:=h
 ·refine⟨fun s a=> ?_,by omega,g⟩
  rw[g,j];rcases k s a with e|e
  ·exact⟨_,aD _,c,e.zW i (aD _) c⟩
  ·exact⟨_,c,aD _,e.zW i c (aD _)⟩
 ·refine⟨fun s a=> ?_,by omega,g⟩
  rw[g,j];exact⟨_,aD _,aD _,(k s a).zW i c (aD _)⟩
def lM.look {a:Dk}(h:lM a l p C)(b:Nat)(e:b<p.blocks a):p.look Im.none a b=C l.last b:=by
 obtain⟨c,h,d⟩:=h;rw[Pg.AP,h.fresh,d l.last h.lok.sy (aD _) b e,dJ,aJ (aD _)];rfl
def CO {c:Dk}(h:lM c l p C)(z:c.dead=false)(f:l.dead=false)(s:p.dead=false):
  (∃a d,p.sync c l=(a,d,p,0)/\a.dead=false/\d.dead=false/\(c.fuel= -1->a.fuel= -1)/\a.n=c.n/\a.waits=[]/\d.last=l.last/\d.synced=l.last/\lM a d p C/\∀r b,p.look r a b=p.look r c b)\/
  (∃a d,p.sync c l=(a,d,p.dies,10)/\a.dead=true/\c.fuel≠-1/\a.n=c.n/\FN a d p.skip (p.blocks c) C/\l.synced<=d.synced/\d.last=l.last):=by
 obtain⟨g,h,m⟩:=h;have n:=h.pok.skip;have E:=h.lok.n2;have x:=h.lok.sy;unfold Pg.sync;rw[s,if_neg (by simp)]
 by_cases i:l.synced=l.last/\c.dead=false
 ·rw[if_pos i]
  exact .inl ⟨c,l,rfl,z,f,id,rfl,h.wt i.1,rfl,i.1,⟨g,h,m⟩,fun _ _=>rfl⟩
 ·rw[if_neg i]
  rcases Fp h z f with ⟨a,e,t,v,j,q,D,F⟩|⟨a,e,t,v,j,q⟩
  ·rw[e]
   dsimp only;rw[if_pos rfl];have B:∀b,a.get (p.skip+b)=c.get (p.skip+b):=fun b=>D _ (by omega)
   have o:p.blocks a=p.blocks c:=(by unfold Pg.blocks;rw[j]);refine .inl ⟨a,_,rfl,t,f,v,j,q,rfl,rfl,⟨g,F,fun k y G b A=> ?_⟩,fun r b=> ?_⟩
   ·have y:l.last<=k:=y
    rw[o] at A;rw[m k (by omega) G b A];show (findAll _ b).getD (c.get (p.skip+b))=(findAll _ b).getD (a.get (p.skip+b));rw[B];rfl
   ·unfold Pg.look
    rw[B]
  ·rw[e]
   dsimp only;rw[if_neg (by omega)];have:=q.zW m x;exact .inr ⟨a,_,rfl,t,v,j,this⟩
def uR (C:Nat->Nat->List UInt8)(n:Nat)(x:Nat->List UInt8):Nat->Nat->List UInt8:=fun k=>if k=n then x else C k
def wO {c:Dk}(h:lM c l p C)(hd:c.dead=false)(D:l.dead=false)(i:p.dead=false){im:Im}(hi:im.Ok (p.blocks c))(av:l.last<1000000000000):
  (im.ks=[]/\p.commit c l im=(c,l,p,l.last,0))\/
  (im.ks≠[]/\p.sP im/\p.commit c l im=(c,l,p,0,13))\/
  (im.ks≠[]/\¬p.sP im/\((∃g t y,p.commit c l im=(g,t,y,l.last+1,0)/\g.dead=false/\t.dead=false/\y.dead=false/\(c.fuel= -1->g.fuel= -1)/\t.last=l.last+1/\l.synced<=t.synced/\y.skip=p.skip/\y.ring=p.ring/\g.n=c.n/\
    lM g t y (uR C (l.last+1) (p.look im c))/\∀b,b<p.blocks c->y.look Im.none g b=p.look im c b)\/
   ∃g t y,p.commit c l im=(g,t,y,0,10)/\g.dead=true/\c.fuel≠-1/\y.skip=p.skip/\g.n=c.n/\FN g t p.skip (p.blocks c) C/\l.synced<=t.synced/\t.last=l.last)):=by
 by_cases x:im.ks=[]
 ·refine .inl ⟨x,?_⟩
  unfold Pg.commit;rw[i,if_neg (by simp),if_pos x]
 by_cases I:p.sP im
 ·refine .inr (.inl ⟨x,I,?_⟩)
  unfold Pg.commit;unfold Pg.sP at I;rw[i,if_neg (by simp),if_neg x,if_pos I]
 refine .inr (.inr ⟨x,I,?_⟩);have qc:¬(p.ring<dS im.bH\/1024<im.ks.length):=I;have qb:0<im.ks.length:=dD.2 x;have A:im.Pz (p.blocks c):=⟨hi,qb,by omega⟩;obtain⟨q8,h,Y⟩:=h;have E:=h.lok.sy;have af:=h.tQ;have q9:=h.pok.ring;have aA:=h.lok.us;have aB:=h.lok.n2;obtain⟨H,o⟩:∃H,dS im.bH=H:=⟨_,rfl⟩
 rw[o] at qc;obtain⟨N,hN⟩:=nx (p.blocks c);rw[<-hN] at Y A ⊢;have v:(∃a d j f,p.ready c l H=(a,d,j,0)/\a.dead=false/\d.dead=false/\j.dead=false/\(c.fuel= -1->a.fuel= -1)/\a.n=c.n/\j.skip=p.skip/\j.ring=p.ring/\d.last=l.last/\l.synced<=d.synced/\H<=d.room/\Rest a d j f/\Hr d f N (fun b=>a.get (p.skip+b)) C/\∀b,b<N->j.look im a b=p.look im c b)\/
   (∃a d,p.ready c l H=(a,d,p.dies,10)/\a.dead=true/\c.fuel≠-1/\a.n=c.n/\FN a d p.skip N C/\l.synced<=d.synced/\d.last=l.last):=by
  unfold Pg.ready
  by_cases K:l.room<H
  ·rw[if_pos K]
   rcases Jy h hd D i with ⟨a,e,a1,a2,a3,a4,a5,a6⟩|⟨a,d,e,a1,a2,a3,a4⟩
   ·rw[<-hN] at a6
    have z:=G5 (l:=l.all) ⟨h.lok.n2,h.lok.hi,h.lok.st,h.lok.us,h.lok.la,aD _,h.lok.ent,h.lok.sum⟩;obtain⟨k1,k2,k3,k4,W,Z,k7⟩:=z;have k2:(l.all.cut l.last).used=0:=k2;have k4:(l.all.cut l.last).n=l.n:=k4;have W:(l.all.cut l.last).last=l.last:=W;have Z:(l.all.cut l.last).synced=l.last:=Z;have k7:(l.all.cut l.last).dead=l.dead:=k7;refine .inl ⟨a,_,_,[],e,a1,by rw[k7];exact D,i,a2,a3,rfl,rfl,W,by rw[Z];exact E,?_,a5,fun k R X b r=> ?_,fun b r=> ?_⟩
    ·unfold Lg.room
     rw[k2,k4];omega
    ·rw[Z] at R
     rw[W] at X;obtain rfl:k=l.last:=(by omega);rw[Y _ E (aD _) b r,dJ,aJ (aD _),<-a6 b r];show a.get (p.skip+b)=pG (List.take _ []) _ b;rw[Sz];rfl
    ·unfold Pg.look
     congr 1;show (Im.none.find b).getD _=_;have J:Im.none.find b=none:=rfl;rw[J];show a.get (p.skip+b)=_;rw[a6 b r,h.fresh b];rfl
   ·rw[<-hN] at a4
    exact .inr ⟨a,d,e,a1,a2,a3,a4.zW Y E⟩
  ·rw[if_neg K]
   exact .inl ⟨c,l,p,q8,rfl,hd,D,i,id,rfl,rfl,rfl,rfl,aD _,by omega,h,Y,fun _ _=>rfl⟩
 rcases v with ⟨a,d,j,f,V,b1,b2,b3,b4,M,F,b7,b8,b9,ql,n,S,O⟩|⟨a,d,V,b1,b2,b3,b4,M,F⟩
 ·have B:j.blocks a=N:=by rw[hN];unfold Pg.blocks;rw[M,F]
  rcases Ml n b1 b2 (im:=im) (by rw[B];exact A) (by rw[o];exact ql) (by omega) with ⟨m,e6,c1,c2,T,P,c5⟩|⟨m,e6,c1,c2,T,P⟩
  ·left
   have z:=Pg.uf i x o (by omega) V e6;rw[if_pos rfl] at z;rw[b8] at z;have pM:∀b,({j with fresh:=j.fresh.over im}:Pg).look Im.none m b=j.look im a b:=fun b=>by
    rw[Pg.Ff];unfold Pg.look;rw[P]
   refine⟨m,_,_,z,c1,b2,b3,fun hf=>c2 (b4 hf),?_,b9,F,b7,T.trans M,⟨_,c5,fun k R X b r=> ?_⟩,fun b r=>by rw[pM,O b r]⟩
   ·show d.last+1=_
    rw[b8]
   ·have p9:({j with fresh:=j.fresh.over im}:Pg).blocks m=N:=by rw[<-B];unfold Pg.blocks;rw[T]
    rw[p9] at r;have R:d.synced<=k:=R;have X:k<=d.last+1:=X;have qo:=n.tQ;have G:(d.more im.bH).last=d.last+1:=rfl;rw[G];unfold uR
    by_cases Q:k=l.last+1
    ·rw[if_pos Q]
     have J:k+(f++[im]).length - (d.last+1)=(f++[im]).length:=(by omega);rw[J,aJ (aD _),<-O b r];unfold pG Pg.look;rw[zZ,<-n.fresh b];show _=((im.find b).or (j.fresh.find b)).getD (m.get (j.skip+b));rw[P];cases im.find b<;>rfl
    ·rw[if_neg Q,S k R (by omega) b r]
     have J:k+(f++[im]).length - (d.last+1)=k+f.length - d.last:=(by rw[ay,dN];omega);rw[J,bI (by omega)];unfold pG;show _=(findAll _ b).getD (m.get (j.skip+b));rw[P,F]
  ·right
   have z:=Pg.uf i x o (by omega) V e6;rw[if_neg (by omega)] at z;refine⟨m,_,_,z,c1,fun hf=>c2 (b4 hf),F,T.trans M,fun s hs=> ?_,b9,b8⟩;have q:=P s hs;rw[B,F] at q;exact⟨d.synced,aD _,n.lok.sy,q.zW S (aD _) n.lok.sy⟩
 ·right
  refine⟨a,d,p.dies,?_,b1,b2,rfl,b3,b4,M,F⟩;unfold Pg.commit;rw[i,if_neg (by simp),if_neg x,o,if_neg (by omega),V];dsimp only;rw[if_neg (by omega)]
