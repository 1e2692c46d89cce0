/- parts -/
import Derived.Test.YtpmbddooibgnaaaGreatDoorN1
import Derived.Test.YtpmbddooibgnaaaGreatDoorN4
import Derived.Test.YtpmbddooibgnaaaGreatDoorN5
import Derived.Test.YtpmbddooibgnaaaGreatDoorN6
import Derived.Test.YtpmbddooibgnaaaGreatDoorN13
import Derived.Lib.Overlaps
set_option maxRecDepth 100000
set_option maxHeartbeats 8000000
set_option linter.all false
namespace Go.Proofs.YtpmbddooibgnaaaGreatDoor
open Go.RowKit Go.Shelf
theorem Yv (w:World)(a b c f:Obj):let v:=((((w.alloc a).alloc b).alloc c).alloc f)
  v.heap[w.heap.size]? =some a/\v.heap[w.heap.size+1]? =some b/\v.heap[w.heap.size+1+1]? =some c/\v.heap[w.heap.size+1+1+1]? =some f/\v.heap.size=w.heap.size+4/\Below w.heap.size w v:=by
 have m:=aH w a
 have k:=aH (w.alloc a) b
 have i:=aH ((w.alloc a).alloc b) c
 have j:=aH (((w.alloc a).alloc b).alloc c) f
 have n:(w.alloc a).heap.size=w.heap.size+1:=by simp
 have o:((w.alloc a).alloc b).heap.size=w.heap.size+1+1:=by simp
 have p:(((w.alloc a).alloc b).alloc c).heap.size=w.heap.size+1+1+1:=by simp
 rw[n] at k;rw[o] at i;rw[p] at j
 have l:=aG w a
 have g:=aG (w.alloc a) b
 have d:=aG ((w.alloc a).alloc b) c
 have e:=aG (((w.alloc a).alloc b).alloc c) f
 exact⟨(e.block w.heap.size (by omega)).trans ((d.block _ (by omega)).trans ((g.block _ (by omega)).trans m)),(e.block (w.heap.size+1) (by omega)).trans ((d.block _ (by omega)).trans k),(e.block (w.heap.size+1+1) (by omega)).trans i,j,by simp,l.trans ((g.trans ((d.trans (e.mono d.size)).mono g.size)).mono l.size)⟩
def JA:ByteArray:=⟨#[72,111,115,116,58,32,104]⟩
def OY:ByteArray:=⟨#[67,111,110,116,101,110,116,45,76,101,110,103,116,104,58,32,49]⟩
def Rx:ByteArray:=⟨#[49]⟩
def sH:ByteArray:=⟨#[104]⟩
def sX:ByteArray:=⟨#[120]⟩
def hsP:List Pr:=[(Dn,sH),(V3,Rx)]
structure QJ (s:ByteArray):Prop where
 l1:∃rest fr bk,vI s 0 16 rest fr bk UX
 h1:∃rest fr bk,vI s 17 8 rest fr bk JA
 h2:∃rest fr bk,vI s 26 18 rest fr bk OY
 h3:∃rest fr bk,vI s 45 1 rest fr bk ⟨#[]⟩
 b:s.extract 47 48=sX
 z:48<=s.size/\s.size<=1000000
def uP:Nat->Nat|0=>17|1=>26|_=>45
def zP:Nat->Nat|0=>0|1=>9|_=>28
theorem Qc:QT JA ⟨#[72,111,115,116]⟩ ⟨#[32,104]⟩ Dn sH:=⟨by decide,by kernel_rfl,by kernel_rfl,by decide,by kernel_rfl,by kernel_rfl,by kernel_rfl,by decide,by kernel_rfl,by kernel_rfl,by kernel_rfl⟩
theorem Sz:QT OY ⟨#[67,111,110,116,101,110,116,45,76,101,110,103,116,104]⟩ ⟨#[32,49]⟩ V3 Rx:=⟨by decide,by kernel_rfl,by kernel_rfl,by decide,by kernel_rfl,by kernel_rfl,by kernel_rfl,by decide,by kernel_rfl,by kernel_rfl,by kernel_rfl⟩
theorem JG (a b c:Value)(w:World):
  CallsD Tryz.prog 201 #[a,b,c] .returning w fun e i j=>e= .returned (.tuple #[])/\i= .returning/\Below w.heap.size w j:=by
 refine xD Tryz.func201 rfl fun d k g=> ?_
 apply vK
 apply nI
 have f:∀w:World,(Instr.typeAssert Value.nilIface 20 341 true).run Tryz.prog w= .ok (.tuple #[.agg #[.int .i64 0],.bool false]) w:=fun _=>by kernel_rfl
 simp[wpOpsS,go_sem,recoverD,g,Tryz.ntmps201,Exit.thenS,f,Array.replicate,List.replicate]
 apply vK
 apply nI
 simp[wpOpsS,go_sem,Exit.thenS]
 refine wpS_cond (t:=false) (by simp[Act.eval]) ?_
 simp only[rV,if_false]
 refine IE (wp_skip ?_)
 cases d
 simp_all [bodyPostS,results,Tryz.results201]
 exact aG _ _
theorem FX {R:Ending->World->Prop}{d:Nat}(f:d≠2)(b:d≠3)(e:d≠4){c:List PanicEntry}{a:Act}{v:Value}{w:World}(h:bodyPostD Tryz.prog Tryz.f126 R (.panic c) (a.put (some d) v) w):bodyPostD Tryz.prog Tryz.f126 R (.panic c) a w:=by
 refine o8 ?_ _ _ _ (show Leaves Tryz.prog Tryz.f126 (a.tmps.setIfInBounds d v) R a.defers (.panicking c) w from h)
 unfold results
 rw[Tryz.results126]
 simp[za,kT,f,b,e]
theorem Br:(Tryz.prog.info? 73).map (·.size)=some 5:=by kernel_rfl
def CR (m t:ByteArray)(hv:Value)(b:ByteArray)(c:Bool):List Value:=[.string m,.string t,hv,.string b,.bool c]
theorem Eu {w:World}{d:Nat}{m t:ByteArray}{a:Value}{b:ByteArray}{c:Bool}(h:je w d m t a b c):Row w d 73 (CR m t a b c):=h
theorem KO (m t:ByteArray)(d:Value)(b:ByteArray)(c:Bool)(e:d.oneCell'=true):∀v∈CR m t d b c,v.oneCell'=true:=by
 intro v a
 simp only[CR,aW,List.mem_nil_iff,fJ] at a
 rcases a with rfl|rfl|rfl|rfl|rfl<;>first|rfl|exact e
theorem Wl (s:ByteArray)(A:QJ s)(w:World)(hm:jV w):
  Calls Tryz.prog 126 #[.string s] w fun e w'=>∃hv,e= .returned (.tuple #[.agg #[.string iQ,.string pE,hv,.string sX,.bool false],.int .i64 48,.int .i64 0])/\lJ w' hv hsP/\(∀g,hv.ownBlock=some g->w.heap.size<=g)/\Below w.heap.size w w':=by
 have rf:∀(fn:Fn) (first cap:Array Value) (w:World),(Instr.makeFunc fn first cap).run Tryz.prog w= .ok (.func fn first cap) w:=fun _ _ _ _=>rfl
 obtain⟨dM,mD,nk,L1⟩:=A.l1
 obtain⟨ql,l7,oO,L2⟩:=A.h1
 obtain⟨j3,nH,o5,L3⟩:=A.h2
 obtain⟨qC,ol,mo,L4⟩:=A.h3
 obtain⟨a0,a1,a2,a3,az,ab⟩:=Yv w (.cells #[.string ⟨#[]⟩,.string ⟨#[]⟩,.slice none 0 0,.string ⟨#[]⟩,.bool false] 73) (.cells #[.int .i64 0] 3) (.cells #[.int .i64 0] 3) (.cells #[.string s,.int .i64 0] 345)
 have qO:3<w.heap.size:=by obtain⟨m,hm⟩:=hm;exact aD w _ hm
 obtain⟨v,hv⟩:∃x:World,Hid (((((w.alloc (.cells #[.string ⟨#[]⟩,.string ⟨#[]⟩,.slice none 0 0,.string ⟨#[]⟩,.bool false] 73)).alloc (.cells #[.int .i64 0] 3)).alloc (.cells #[.int .i64 0] 3)).alloc (.cells #[.string s,.int .i64 0] 345))=x):=⟨_,ah rfl⟩
 rw[hv.out] at a0 a1 a2 a3 az ab
 obtain⟨d,q9⟩:∃x:Nat,Hid (w.heap.size=x):=⟨_,ah rfl⟩
 obtain⟨l,qy⟩:∃x:Nat,Hid (d+1=x):=⟨_,ah rfl⟩
 obtain⟨k,jb⟩:∃x:Nat,Hid (l+1=x):=⟨_,ah rfl⟩
 obtain⟨H,q8⟩:∃x:Nat,Hid (k+1=x):=⟨_,ah rfl⟩
 rw[q9.out] at a0 a1 a2 a3 qO
 rw[qy.out] at a1 a2 a3
 rw[jb.out] at a2 a3
 rw[q8.out] at a3
 have p9:l=d+1/\k=d+2/\H=d+3/\w.heap.size=d/\v.heap.size=d+4:=by have:=q9.out;have:=qy.out;have:=jb.out;have:=q8.out;omega
 have di:=hm.below ab
 have HB:=ah (Uu H d s dM mD nk v a3 a0 (by omega) L1 di (by omega))
 have b:=ah (au a1 (au a2 (au ab (au qO (au p9 di)))))
 have HL:=ah (au L2 (au L3 (au L4 (au A.b A.z))))
 clear a0 a1 a2 a3 az ab qO p9 di L1 L2 L3 L4 A hm
 go_enter_defers Tryz.func126,Tryz.ntmps126
 go_upto_region 3 with (fail)
 rw[hv.out,q9.out,qy.out,jb.out,q8.out]
 go_wp2_with (first
  |(go_at_call 202;go_must (refine HB.out.mono ?_;rintro e w1 ⟨rfl,j6,l5,av⟩;refine Stop.of ?_)))
 refine Stop.on ?_
 have j4:jV w1:=b.out.2.2.2.2.2.keep av (fun e=>by have:=b.out.2.2.2.1;have:=b.out.2.2.2.2.1;omega)
 have lH:=Og H d s iQ pE 2 uP zP (fun j=>hsP.take j) qC ol mo w1 j6 l5 (by have:=b.out.2.2.2.2.1;omega) j4 ⟨by have:=b.out.2.2.2.1;have:=b.out.2.2.2.2.1;omega,by have:=b.out.2.2.2.1;omega⟩ rfl rfl HL.out.2.2.1 ⟨by decide,by decide⟩ (fun j hj=>by
  have l6:j=0\/j=1:=by omega
  rcases l6 with rfl|rfl
  ·exact⟨8,ql,l7,oO,JA,_,_,Dn,sH,HL.out.1,Qc,rfl,rfl,by decide,rfl,rfl⟩
  ·exact⟨18,j3,nH,o5,OY,_,_,V3,Rx,HL.out.2.1,Sz,rfl,rfl,by decide,rfl,rfl⟩) rfl
 have HH:=ah lH
 have E:=ah av
 clear j6 l5 av j4 lH
 go_wp2_with (first
  |(go_at_call 203;go_must (refine HH.out.mono ?_;rintro e w2 ⟨rfl,R,D⟩;refine Stop.of ?_)))
 refine Stop.on ?_
 have kC:=Wq H d s iQ pE 47 1 R hsP Rx sX w2 D.rd D.rq D.own.dM (by decide) (by have:=b.out.2.2.2.2.1;omega) (by kernel_rfl) (by kernel_rfl) (by kernel_rfl) ⟨by decide,by kernel_rfl,by kernel_rfl,by kernel_rfl⟩ (by decide) HL.out.2.2.2.2.1 HL.out.2.2.2.2.2 HL.out.2.2.2.1
 have mr:=ah kC
 have jv:=ah D
 clear D kC
 go_wp2_with (first
  |(go_at_call 204;go_must (refine mr.out.mono ?_;rintro e w3 ⟨rfl,j5,T,iO⟩;refine Stop.of ?_)))
 refine Stop.on ?_
 have z:=jv.out.own.keep fun g hg hl A=>⟨iO.block g hl (fun e=>by have h1:=(jv.out.own.1.lt g hg).1;have h2:=E.out.size;have h3:=b.out.2.2.2.2.1;rcases e with e|e<;>omega),A⟩
 have HC:=ah (Rh d iQ pE R sX false hsP w3 T z.dM (by decide) (by kernel_rfl))
 have X:Keep (fun g=>g=H\/g=d) v w3:=(E.out.trans jv.out.kp (fun _ _ e=>e)).trans iO (fun _ _ e=>e)
 have H3:=ah (au j5 (au T (au z X)))
 have lq:=T.cells.2.2.2.2.2.2
 clear j5 T iO z X
 go_wp2_with (first
  |(go_at_call 205;go_must (refine HC.out.mono ?_;rintro e w4 ⟨rfl,M⟩;refine Stop.of ?_)))
 refine Stop.on ?_
 have P:=H3.out.2.1.keep (Keep.of_below M (fun _=>False)) id
 have ko:=H3.out.1.keep (Keep.of_below M (fun _=>False)) id
 have kz:=H3.out.2.2.1.below M
 have Z:Keep (fun g=>g=H\/g=d) v w4:=H3.out.2.2.2.trans (Keep.of_below M (fun _=>False)) (fun _ _ e=>e.elim)
 obtain⟨c0,c1,c2,c3,c4,cf,nY⟩:=P.cells
 have og:=cf 4
 have G:Keep (· =d) w4 (w4.setCell ⟨d,4,none⟩ (.bool false)):=(Keep.refl (· =d) w4).setCell (p:=⟨d,4,none⟩) (.inr rfl) _
 have eH:je (w4.setCell ⟨d,4,none⟩ (.bool false)) d iQ pE R sX false:=by
  unfold je at P ⊢
  simp[World.setCell,aK,P]
 have qm:=ko.keep G (by have:=b.out.2.2.2.2.1;show ¬H=d;omega)
 obtain⟨w5,lg⟩:∃x:World,Hid (w4.setCell ⟨d,4,none⟩ (.bool false)=x):=⟨_,ah rfl⟩
 rw[lg.out] at G eH qm
 have kD:lJ w5 R hsP:=(kz.keep fun g hg hl A=>⟨G.block g hl (fun e=>by have h1:=(H3.out.2.2.1.1.lt g hg).1;have h2:=E.out.size;have h3:=b.out.2.2.2.2.1;have e:g=d:=e;omega),A⟩).dM
 have pV:Keep (fun g=>g=H\/g=d) v w5:=Z.trans G (fun _ _ e=> .inr e)
 have Q:=ah (au eH (au qm (au kD pV)))
 clear P ko kz Z G eH qm kD pV M
 go_upto_region 7 with (fail)
 rw[lg.out]
 have fo:=(Q.out.2.2.2.block l (by have:=b.out.2.2.2.2.1;omega) (fun e=>by have:=b.out.2.2.2.2.1;omega)).trans b.out.1
 have qo:=(Q.out.2.2.2.block k (by have:=b.out.2.2.2.2.1;omega) (fun e=>by have:=b.out.2.2.2.2.1;omega)).trans b.out.2.1
 clear c0 c1 c2 c3 c4 cf og nY lq
 obtain⟨q,t,rfl,_,_,_,_⟩:=bq.form Q.out.2.2.1
 refine aP (fun W=>je W d iQ pE (.slice q hsP.length t) sX false/\qF W H s 48) (fun i=> !([5,6,7].contains i)) [0,1,2,3,4,5,6,7] rfl (by kernel_rfl) ⟨Q.out.1,Q.out.2.1⟩ ?_
 refine bE (v:= .agg (CR iQ pE (.slice q hsP.length t) sX false).toArray) rfl rfl (fun c a w h=>FX (by decide) (by decide) (by decide) h) rfl (fun W hW=> ?_) ?_
 ·exact jA 73 (.tmp 2) rfl d 0 rfl _ _ (Row.range (n:=5) (Eu hW.1) rfl) Tryz.underlying73 rfl Br
 simp only[Act.put,ak,ay,ax]
 repeat ((refine bE (v:= ?_) rfl rfl ?_ rfl (fun W hW=> ?_) ?_);rotate_left;(focus (exact fun c a w h=>FX (by decide) (by decide) (by decide) h));(focus ((try dsimp only at hW);have p:=hW.1.cells;have p0:=p.1;have p1:=p.2.1;have p2:=p.2.2.1;have p3:=p.2.2.2.1;have p4:=p.2.2.2.2.1;have p6:=p.2.2.2.2.2.2;have r:=hW.2.cells;have r1:=r.2.1;have r2:=r.2.2.2;clear p r;(go_simp;first|done|with_reducible rfl)));(try simp only[Act.put,ak,ay,ax]))
 refine bT rfl rfl rfl ?_;intro K hK
 refine wp_store_row 73 (.tmp 2) (.tmp 18) rfl d 0 73 _ (CR iQ pE (.slice q hsP.length t) sX false) rfl rfl (Eu Q.out.1) Br (aC 5) (KO _ _ _ _ _ rfl) ?_
 intro S lG o
 have o:Keep (· =d) w5 S:=((Keep.refl (· =d) w5).as (w'':=w5.drew) rfl rfl rfl rfl).trans o (fun _ _ e=>e)
 have qf:je S d iQ pE (.slice q hsP.length t) sX false:=lG
 have dn:=Q.out.2.1.keep o (by have:=b.out.2.2.2.2.1;show ¬H=d;omega)
 refine hK.out _ _ ⟨qf,dn⟩ ?_
 have I:=(o.block l (aj.1 fo).1 (by have:=b.out.2.2.2.2.1;omega)).trans fo
 have ai:=(o.block k (aj.1 qo).1 (by have:=b.out.2.2.2.2.1;omega)).trans qo
 have u0:S.cell? ⟨l,0,none⟩=some (.int .i64 0):=by simp[World.cell?,I]
 have u1:S.frozen? ⟨l,0,none⟩=false:=by simp[World.frozen?,I]
 have u2:=(aj.1 I).1
 refine bT rfl rfl rfl ?_;intro K hK;go_simp
 have y:Keep (· =l) S (S.setCell ⟨l,0,none⟩ (.int .i64 48)):=(Keep.refl (· =l) S).setCell (p:=⟨l,0,none⟩) (.inr rfl) _
 have O:(S.setCell ⟨l,0,none⟩ (.int .i64 48)).heap[l]? =some (.cells #[.int .i64 48] 3 (0,0)):=by simp[World.setCell,aK,I]
 have C:=(y.block k (aj.1 ai).1 (by have:=b.out.2.2.2.2.1;omega)).trans ai
 have V:=qf.keep y (by have:=b.out.2.2.2.2.1;show ¬d=l;omega)
 have d9:=dn.keep y (by have:=b.out.2.2.2.2.1;show ¬H=l;omega)
 refine hK.out _ _ ⟨V,d9⟩ ?_
 (try simp only[Act.put,ak,ay,ax])
 obtain⟨N,nD⟩:∃x:World,Hid (S.setCell ⟨l,0,none⟩ (.int .i64 48)=x):=⟨_,ah rfl⟩
 have rq:((47+1:Nat):Int)=48:=rfl
 rw[nD.out] at y O C V d9 ⊢
 have v0:N.cell? ⟨k,0,none⟩=some (.int .i64 0):=by simp[World.cell?,C]
 have v1:N.frozen? ⟨k,0,none⟩=false:=by simp[World.frozen?,C]
 have v2:=(aj.1 C).1
 refine jR rfl rfl rfl (by kernel_rfl) ?_;intro K hK;go_simp
 refine hK.out _ _ (bN ?_)
 have J:Keep (· =k) N (N.setCell ⟨k,0,none⟩ (.int .i64 0)):=(Keep.refl (· =k) N).setCell (p:=⟨k,0,none⟩) (.inr rfl) _
 have eZ:(N.setCell ⟨k,0,none⟩ (.int .i64 0)).heap[k]? =some (.cells #[.int .i64 0] 3 (0,0)):=by simp[World.setCell,aK,C]
 have af:=(J.block l (aj.1 O).1 (by have:=b.out.2.2.2.2.1;omega)).trans O
 have bf:=V.keep J (by have:=b.out.2.2.2.2.1;show ¬d=k;omega)
 have bg:Keep (fun g=>d<=g) v (N.setCell ⟨k,0,none⟩ (.int .i64 0)):=(((Q.out.2.2.2.mono fun g _ e=>by have:=b.out.2.2.2.2.1;rcases e with e|e<;>omega).trans o (fun g _ e=>by have e:g=d:=e;omega)).trans y (fun g _ e=>by have e:g=l:=e;have:=b.out.2.2.2.2.1;omega)).trans J (fun g _ e=>by have e:g=k:=e;have:=b.out.2.2.2.2.1;omega)
 have Y:Keep (fun g=>g<=d+2) w5 (N.setCell ⟨k,0,none⟩ (.int .i64 0)):=((o.mono fun g _ e=>by have e:g=d:=e;omega).trans y (fun g _ e=>by have e:g=l:=e;have:=b.out.2.2.2.2.1;omega)).trans J (fun g _ e=>by have e:g=k:=e;have:=b.out.2.2.2.2.1;omega)
 have qc:lJ (N.setCell ⟨k,0,none⟩ (.int .i64 0)) (.slice q hsP.length t) hsP:=bq.keep Q.out.2.2.1 fun g hg hl A=>⟨Y.block g hl (fun e=>by have h1:=(H3.out.2.2.1.1.lt g hg).1;have h2:=E.out.size;have h3:=b.out.2.2.2.2.1;omega),A⟩
 obtain⟨w8,oo⟩:∃x:World,Hid (N.setCell ⟨k,0,none⟩ (.int .i64 0)=x):=⟨_,ah rfl⟩
 rw[oo.out] at eZ af bf bg qc ⊢
 have HF:=ah (au eZ (au af (au bf (au bg qc))))
 clear eZ af bf bg qc Y o y J qf dn V d9 qo ai C fo I O lG u0 u1 u2 v0 v1 v2
 go_wp2_with fail
 refine fe (f:=201) (args:=#[.pointer (some ⟨d,0,none⟩),.pointer (some ⟨l,0,none⟩),.pointer (some ⟨k,0,none⟩)]) (by simp) (by simp[go_sem]) ?_
 refine(JG _ _ _ w8).mono ?_
 rintro e u' w9 ⟨rfl,rfl,F⟩
 have nN:=HF.out.2.2.1.keep (Keep.of_below F (fun _=>False)) id
 have l9:=(F.block l (aj.1 HF.out.2.1).1).trans HF.out.2.1
 have ng:=(F.block k (aj.1 HF.out.1).1).trans HF.out.1
 have c1:w9.cell? ⟨l,0,none⟩=some (.int .i64 48):=by simp[World.cell?,l9]
 have c2:w9.cell? ⟨k,0,none⟩=some (.int .i64 0):=by simp[World.cell?,ng]
 obtain⟨d0,d1,d2,d3,d4,_,_⟩:=nN.cells
 refine⟨.tuple #[.agg (CR iQ pE (.slice q hsP.length t) sX false).toArray,.int .i64 48,.int .i64 0],?_,.slice q hsP.length t,rfl,bq.below HF.out.2.2.2.2 F,fun g hg=>by have h1:=(H3.out.2.2.1.1.lt g hg).1;have h2:=E.out.size;have h3:=b.out.2.2.2.2.1;omega,?_⟩
 ·simp[results,Tryz.results126,go_sem,d0,d1,d2,d3,d4,c1,c2,CR]
 ·exact(b.out.2.2.1.trans ((HF.out.2.2.2.1.fw (B:=w.heap.size) b.out.2.2.1.size (fun g hg e=>by have:=b.out.2.2.2.2.1;omega)))).trans (F.mono (aI b.out.2.2.1.size HF.out.2.2.2.1.size))
def lD (w:World)(cb:Nat)(buf:ByteArray):Prop:=w.heap[cb]? =some (.cells #[.string buf,.bool false] 108 (0,0))
theorem lD.cells {w:World}{a:Nat}{b:ByteArray}(h:lD w a b):w.cell? ⟨a,0,none⟩=some (.string b)/\w.cell? ⟨a,1,none⟩=some (.bool false)/\w.frozen? ⟨a,0,none⟩=false/\w.frozen? ⟨a,1,none⟩=false/\a<w.heap.size:=by
 unfold lD at h
 exact⟨by simp[World.cell?,h],by simp[World.cell?,h],by simp[World.frozen?,h],by simp[World.frozen?,h],(aj.1 h).1⟩
theorem lD.set {w:World}{a:Nat}{c:ByteArray}(h:lD w a c)(b:ByteArray):lD (w.setCell ⟨a,0,none⟩ (.string b)) a b/\Keep (· =a) w (w.setCell ⟨a,0,none⟩ (.string b)):=by
 refine⟨?_,(Keep.refl (· =a) w).setCell (p:=⟨a,0,none⟩) (.inr rfl) _⟩
 unfold lD at h ⊢
 simp[World.setCell,aK,h]
theorem lD.keep {M:Nat->Prop}{w w':World}{b:Nat}{a:ByteArray}(h:lD w b a)(d:Keep M w w')(c:¬M b):lD w' b a:=(d.block b (aj.1 h).1 c).trans h
theorem Xr (c:Nat)(b a r:ByteArray)(w:World)(h:lD w c b)(d:b++a=r)(j:b.size<=1000000/\a.size<=1000000):
  Calls Tryz.prog 32 #[.pointer (some ⟨c,0,none⟩),.string a] w fun e g=>e= .returned (.tuple #[])/\lD g c r/\Keep (· =c) w g:=by
 obtain⟨m,l,o,n,k⟩:=h.cells
 have i:∀W:World,(Op.stringOp .add b a).run Tryz.prog W= .ok (.string r) W:=fun W=>by rw[<-d];exact iL W _ _ (by omega) (by omega)
 have f:=ah (h.set r)
 clear h d j
 go_enter Tryz.func32,Tryz.ntmps32
 go_wp2
 go_end0
 exact⟨rfl,f.out.1,f.out.2⟩
theorem SV (b:Nat)(a:ByteArray)(w:World)(h:lD w b a):
  Calls Tryz.prog 125 #[.pointer (some ⟨b,0,none⟩)] w fun e c=>e= .returned (.bool false)/\c=w:=by
 obtain⟨g,f,j,i,d⟩:=h.cells
 clear h
 go_enter Tryz.func125,Tryz.ntmps125
 go_wp2
 go_ret
 exact⟨rfl,rfl⟩
def RB (hv:Value):Value:= .agg (CR iQ pE hv sX false).toArray
theorem Xq (a:Nat)(b r:ByteArray)(w:World)(h:lD w a b)(hp:QJ b)(hr:b.extract 48 b.size=r)(hm:jV w):
  Calls Tryz.prog 71 #[.pointer (some ⟨a,0,none⟩)] w fun e w'=>∃hv,e= .returned (.tuple #[RB hv,.int .i64 0,.bool true])/\lJ w' hv hsP/\(∀g,hv.ownBlock=some g->w.heap.size<=g)/\lD w' a r/\Keep (· =a) w w':=by
 have l:=aG w (.cells #[.string ⟨#[]⟩,.string ⟨#[]⟩,.slice none 0 0,.string ⟨#[]⟩,.bool false] 73)
 have A:=aH w (.cells #[.string ⟨#[]⟩,.string ⟨#[]⟩,.slice none 0 0,.string ⟨#[]⟩,.bool false] 73)
 obtain⟨w1,qy⟩:∃x:World,Hid (w.alloc (.cells #[.string ⟨#[]⟩,.string ⟨#[]⟩,.slice none 0 0,.string ⟨#[]⟩,.bool false] 73)=x):=⟨_,ah rfl⟩
 rw[qy.out] at l A
 obtain⟨q,F⟩:∃x:Nat,Hid (w.heap.size=x):=⟨_,ah rfl⟩
 rw[F.out] at A
 have h1:=h.keep (Keep.of_below l (fun _=>False)) id
 have HC:=ah (SV a b w1 h1)
 have HR:=ah (Wl b hp w1 (hm.below l))
 obtain⟨Q,O,P,S,R⟩:=h1.cells
 have s1:∀W:World,(Instr.slice 9 (.string b) (some (.int .i64 48)) none none).run Tryz.prog W= .ok (.string r) W:=fun W=>by
  rw[run_slice_string_l W _ b bH .i64 48 (by omega) (by have:=hp.z;omega)]
  rw[show (48:Int).toNat=48 from rfl,hr]
 have T:a<w.heap.size:=(aj.1 h).1
 have s:=ah (au h1 (au l (au A T)))
 clear h hp hm l A h1 hr T
 go_enter Tryz.func71,Tryz.ntmps71
 go_upto_region 1 with (fail)
 rw[qy.out,F.out]
 go_wp2_with (first
  |(go_at_call 125;go_must (refine HC.out.mono ?_;rintro e N ⟨rfl,hw⟩;subst N))
  |(go_at_call 126;go_must (refine HR.out.mono ?_;rintro e N ⟨hv,rfl,I,B,i⟩;refine Stop.of ?_)))
 refine Stop.on ?_
 have qc:=ah B;clear B
 obtain⟨c,d,rfl,_,_,_,_⟩:=bq.form I
 have f:=aG N (.cells #[.string iQ,.string pE,.slice c hsP.length d,.string sX,.bool false] 73)
 have t:=aH N (.cells #[.string iQ,.string pE,.slice c hsP.length d,.string sX,.bool false] 73)
 obtain⟨Z,pV⟩:∃x:World,Hid (N.alloc (.cells #[.string iQ,.string pE,.slice c hsP.length d,.string sX,.bool false] 73)=x):=⟨_,ah rfl⟩
 rw[pV.out] at f t
 obtain⟨pb,G⟩:∃x:Nat,Hid (N.heap.size=x):=⟨_,ah rfl⟩
 rw[G.out] at t
 have Y:=(aj.1 s.out.2.2.1).1
 have ql:=i.size
 have qf:je Z q ⟨#[]⟩ ⟨#[]⟩ (.slice none 0 0) ⟨#[]⟩ false:=(f.block q (by omega)).trans ((i.block q Y).trans s.out.2.2.1)
 have J:je Z pb iQ pE (.slice c hsP.length d) sX false:=t
 have E:=(s.out.1.keep (Keep.of_below i (fun _=>False)) id).keep (Keep.of_below f (fun _=>False)) id
 have p9:a≠q/\a≠pb/\q≠pb/\q<w1.heap.size/\w.heap.size=q:=by have:=s.out.2.2.2;have:=F.out;have:=G.out;omega
 have D:=i.trans (f.mono i.size)
 have k:=ah (au qf (au J (au E (au p9 (au D (bq.below I f:lJ Z _ hsP))))))
 clear i f t Y ql I D p9 Q O P S R
 obtain⟨Q,O,P,S,R⟩:=E.cells
 obtain⟨p0,p1,p2,p3,p4,V,lp⟩:=J.cells
 clear E J qf V
 go_upto_region 6 with (fail)
 rw[pV.out,G.out]
 have H:=k.out.2.2.1.set r
 have o:=H.2
 have j:=H.1
 have m:=k.out.2.1.keep o (fun e=>k.out.2.2.2.1.2.1 e.symm)
 have v:=k.out.1.keep o (fun e=>k.out.2.2.2.1.1 e.symm)
 obtain⟨w6,qm⟩:∃x:World,Hid (Z.setCell ⟨a,0,none⟩ (.string r)=x):=⟨_,ah rfl⟩
 rw[qm.out] at o j m v
 go_upto_region 7 with (fail)
 rw[qm.out]
 have H6:=ah (au o (au j (au m v)))
 clear H Q O P S R p0 p1 p2 p3 p4 lp
 obtain⟨Q,O,P,S,R⟩:=j.cells
 obtain⟨p0,p1,p2,p3,p4,V,lp⟩:=m.cells
 have n:Keep (· =a) w6 (w6.setCell ⟨a,1,none⟩ (.bool false)):=(Keep.refl (· =a) w6).setCell (p:=⟨a,1,none⟩) (.inr rfl) _
 have z:lD (w6.setCell ⟨a,1,none⟩ (.bool false)) a r:=by
  unfold lD at j ⊢
  simp[World.setCell,aK,j]
 have y:=m.keep n (fun e=>k.out.2.2.2.1.2.1 e.symm)
 have M:=v.keep n (fun e=>k.out.2.2.2.1.1 e.symm)
 obtain⟨w7,X⟩:∃x:World,Hid (w6.setCell ⟨a,1,none⟩ (.bool false)=x):=⟨_,ah rfl⟩
 rw[X.out] at n z y M
 clear o j m v
 go_upto_region 8 with (fail)
 rw[X.out]
 have H7:=ah (au n (au z (au y M)))
 clear Q O P S R p0 p1 p2 p3 p4 V lp
 obtain⟨Q,O,P,S,R⟩:=z.cells
 obtain⟨p0,p1,p2,p3,p4,V,lp⟩:=y.cells
 clear n z y M V
 go_wp2_with (first
  |((refine bS rfl ?_);intro K hK;(refine wp_store_row 73 (.tmp 2) (.tmp 48) rfl q 0 73 _ (CR iQ pE (.slice c hsP.length d) sX false) rfl rfl (Eu H7.out.2.2.2) Br (aC 5) (KO _ _ _ _ _ rfl) ?_);intro w8 qC qo;refine hK _ _ ?_))
 have qO:je w8 q iQ pE (.slice c hsP.length d) sX false:=qC
 obtain⟨d0,d1,d2,d3,d4,_,_⟩:=qO.cells
 refine dJ (by simp[results,Tryz.results71,go_sem,d0,d1,d2,d3,d4];rfl) rfl ?_
 have C:Keep (fun g=>g=a\/g=q) Z w8:=((H6.out.1.trans H7.out.1 (fun _ _ e=>e)).mono (fun _ _ e=> .inl e)).trans qo (fun _ _ e=> .inr e)
 refine⟨.slice c hsP.length d,rfl,bq.keep k.out.2.2.2.2.2 fun g hg hl hs=>⟨C.block g hl (fun e=>by have h1:=qc.out g hg;have h2:=k.out.2.2.2.1;have h3:=s.out.2.2.2;have h4:=s.out.2.1.size;rcases e with e|e<;>omega),hs⟩,fun g hg=>aI s.out.2.1.size (qc.out g hg),H7.out.2.1.keep qo k.out.2.2.2.1.1,?_⟩
 exact(Keep.of_below (s.out.2.1.trans (k.out.2.2.2.2.1.mono s.out.2.1.size)) (· =a)).trans C (fun g hg e=>e.elim id (fun e=>by have:=k.out.2.2.2.1;omega))
structure jW where
 inn:Value
 nxt:Value
 held:ByteArray
 n:Int
 out:ByteArray
def jW.row (l:jW):List Value:=[l.inn,l.nxt,.string l.held,.int .i64 l.n,.string l.out]
def oK (L:List jW):List Value:=L.flatMap jW.row
theorem oJ (L:List jW):(oK L).length=5*L.length:=by
 induction L with
 |nil=>rfl
 |cons l L ih=>unfold oK at*;rw[fK,aB,ih,aZ,show l.row.length=5 from rfl];omega
theorem EF (L:List jW)(k:Nat)(a:k<L.length):oK L=oK (L.take k)++(L[k].row++oK (L.drop (k+1))):=by
 unfold oK
 rw[<-fK,<-nK,<-dB a,bM]
def KF (v:Value)(L:List jW)(d s:Value)(cnt:Value):List Value:=v::(oK L++[d,s,.int .u32 0,cnt])
theorem zm (v:Value)(L:List jW)(d s a:Value)(k:Nat)(b:k<L.length):KF v L d s a=(v::oK (L.take k))++(L[k].row++(oK (L.drop (k+1))++[d,s,.int .u32 0,a])):=by
 unfold KF
 rw[EF L k b]
 simp
theorem AJ (v:Value)(L:List jW)(k:Nat)(a:k<L.length):(v::oK (L.take k)).length=1+5*k:=by
 rw[aZ,oJ,aQ];omega
theorem UL (v:Value)(L:List jW)(d s a:Value)(k j:Nat)(b:k<L.length)(c:j<5):(KF v L d s a)[1+5*k+j]? =L[k].row[j]? :=by
 rw[zm v L d s a k b,bP (by rw[AJ v L k b];omega),AJ v L k b,show 1+5*k+j - (1+5*k)=j by omega,fI (by show j<5;exact c)]
theorem Rs (v:Value)(L:List jW)(d s a:Value)(k j:Nat)(c:k<L.length)(f:j<5)(x:Value)(b:jW)(h:L[k].row.set j x=b.row):(KF v L d s a).set (1+5*k+j) x=KF v (L.set k b) d s a:=by
 have e:k<(L.set k b).length:=by rw[rU];exact c
 rw[zm v L d s a k c,zm v (L.set k b) d s a k e,dO _ _ (by rw[AJ v L k c];omega),AJ v L k c,show 1+5*k+j - (1+5*k)=j by omega,LF _ _ (by show j<5;exact f),h,oQ,List.take_set_of_le (aC k),List.drop_set_of_lt (nP k)]
def ji (w:World)(sb:Nat)(v:Value)(L:List jW)(d s cnt:Value):Prop:=Row w sb 99 (KF v L d s cnt)
theorem ji.cell {w:World}{b:Nat}{v:Value}{L:List jW}{d s a:Value}(h:ji w b v L d s a)(k j:Nat)(c:k<L.length)(e:j<5):w.cell? ⟨b,1+5*k+j,none⟩=L[k].row[j]? :=(Row.cell h _).trans (UL v L d s a k j c e)
theorem ji.set {w:World}{b:Nat}{v:Value}{L:List jW}{d s a:Value}(h:ji w b v L d s a)(k j:Nat)(c:k<L.length)(f:j<5)(x:Value)(l':jW)(e:L[k].row.set j x=l'.row):ji (w.setCell ⟨b,1+5*k+j,none⟩ x) b v (L.set k l') d s a/\Keep (· =b) w (w.setCell ⟨b,1+5*k+j,none⟩ x):=by
 refine⟨?_,(Keep.refl (· =b) w).setCell (p:=⟨b,1+5*k+j,none⟩) (.inr rfl) _⟩
 have:=Row.setCell h (1+5*k+j) x
 rw[Rs v L d s a k j c f x l' e] at this
 exact this
theorem ji.keep {M:Nat->Prop}{w w':World}{b:Nat}{v:Value}{L:List jW}{d s a:Value}(h:ji w b v L d s a)(e:Keep M w w')(c:¬M b):ji w' b v L d s a:=Row.keep h e c
theorem ji.lt {w:World}{b:Nat}{v:Value}{L:List jW}{d s a:Value}(h:ji w b v L d s a):b<w.heap.size:=Row.lt h
theorem yN (a:Nat)(w:World)(c:a<w.heap.size):Calls Tryz.prog 27 #[.pointer (some ⟨a,0,none⟩),.int .i64 0] w fun e b=>e= .returned (.tuple #[.pointer (some ⟨a,1,none⟩),.int .i64 0])/\b=w:=by
 go_enter Tryz.func27,Tryz.ntmps27
 go_wp2
 go_ret2
 exact⟨rfl,rfl⟩
theorem ji.zero {w:World}{a:Nat}{v:Value}{L:List jW}{d s c:Value}{l:jW}(h:ji w a v L d s c)(f:L[0]? =some l):w.cell? ⟨a,1,none⟩=some l.inn/\w.cell? ⟨a,2,none⟩=some l.nxt/\w.cell? ⟨a,3,none⟩=some (.string l.held)/\w.cell? ⟨a,4,none⟩=some (.int .i64 l.n)/\w.cell? ⟨a,5,none⟩=some (.string l.out)/\(∀i,w.frozen? ⟨a,i,none⟩=false)/\a<w.heap.size:=by
 obtain⟨b,e⟩:=bO.1 f
 subst e
 exact⟨h.cell 0 0 b (by decide),h.cell 0 1 b (by decide),h.cell 0 2 b (by decide),h.cell 0 3 b (by decide),h.cell 0 4 b (by decide),fun i=>Row.frozen h i,h.lt⟩
theorem ji.set0 {w:World}{b:Nat}{v:Value}{L:List jW}{d s a:Value}{l l':jW}(h:ji w b v L d s a)(g:L[0]? =some l)(j:Nat)(c:j<5)(x:Value)(e:l.row.set j x=l'.row):ji (w.setCell ⟨b,1+j,none⟩ x) b v (L.set 0 l') d s a/\Keep (· =b) w (w.setCell ⟨b,1+j,none⟩ x):=by
 obtain⟨f,i⟩:=bO.1 g
 subst i
 exact h.set 0 j f c x l' e
def xA (w:World)(tb:Nat)(hv:Value):Prop:=w.heap[tb]? =some (.cells #[.string iQ,.string pE,hv,.string sX,.bool false,.int .i64 0] 75 (0,0))
theorem PL (j l:Nat)(i r:ByteArray)(v d s D:Value)(L:List jW)(k t:ByteArray)(n:Int)(w:World)(h:ji w j v L d s D)(I:L[0]? =some ⟨.pointer (some ⟨l,0,none⟩),.pointer none,k,n,t⟩)(X:lD w l i)(T:j≠l)(hp:QJ i)(hr:i.extract 48 i.size=r)(hm:jV w):
  Calls Tryz.prog 34 #[.pointer (some ⟨j,1,none⟩)] w fun e H=>e= .returned (.tuple #[])/\∃P Q,ji H j v (L.set 0 ⟨.pointer (some ⟨l,0,none⟩),.pointer (some ⟨Q,0,none⟩),k,n,t⟩) d s D/\lD H l r/\xA H Q P/\lJ H P hsP/\(w.heap.size<=Q/\∀g,P.ownBlock=some g->w.heap.size<=g)/\Keep (fun g=>g=j\/g=l) w H:=by
 obtain⟨c0,Z,_,_,_,W,ls⟩:=h.zero I
 have HN:=ah (Xq l i r w X hp hr hm)
 have C:=ah (au h (au I (au X T)))
 clear h I X hp hr hm
 go_enter Tryz.func34,Tryz.ntmps34
 go_wp2_with (first
  |(go_at_call 71;go_must (refine HN.out.mono ?_;rintro e O ⟨P,rfl,z,p,E,B⟩;refine Stop.of ?_)))
 refine Stop.on ?_
 obtain⟨c,b,rfl,_,_,_,_⟩:=bq.form z
 unfold RB CR
 have J:=C.out.1.keep B C.out.2.2.2
 have o:=aG O (.cells #[.string iQ,.string pE,.slice c hsP.length b,.string sX,.bool false] 73)
 have m:=aH O (.cells #[.string iQ,.string pE,.slice c hsP.length b,.string sX,.bool false] 73)
 obtain⟨a,M⟩:∃x:World,Hid (O.alloc (.cells #[.string iQ,.string pE,.slice c hsP.length b,.string sX,.bool false] 73)=x):=⟨_,ah rfl⟩
 rw[M.out] at o m
 obtain⟨pb,K⟩:∃x:Nat,Hid (O.heap.size=x):=⟨_,ah rfl⟩
 rw[K.out] at m
 have F:je a pb iQ pE (.slice c hsP.length b) sX false:=m
 obtain⟨p0,p1,p2,p3,p4,_,lp⟩:=F.cells
 have N:=J.keep (Keep.of_below o (fun _=>False)) id
 have f:=ah (au N (au o (au z (au p (au E B)))))
 clear J N o m F z p E B c0 Z W ls
 obtain⟨c0,Z,_,_,_,W,ls⟩:=f.out.1.zero C.out.2.1
 have pV:=W 2
 go_upto_region 3 with (fail)
 rw[M.out,K.out]
 have q3:=f.out.1.set0 C.out.2.1 1 (by decide) (.pointer (some ⟨a.heap.size,0,none⟩)) (l':=⟨.pointer (some ⟨l,0,none⟩),.pointer (some ⟨a.heap.size,0,none⟩),k,n,t⟩) rfl
 have z3:(a.setCell ⟨j,2,none⟩ (.pointer (some ⟨a.heap.size,0,none⟩))).heap.size=a.heap.size:=by simp
 have G:=aG (a.setCell ⟨j,2,none⟩ (.pointer (some ⟨a.heap.size,0,none⟩))) (.cells #[.string iQ,.string pE,.slice c hsP.length b,.string sX,.bool false,.int .i64 0] 75)
 have q:=aH (a.setCell ⟨j,2,none⟩ (.pointer (some ⟨a.heap.size,0,none⟩))) (.cells #[.string iQ,.string pE,.slice c hsP.length b,.string sX,.bool false,.int .i64 0] 75)
 rw[z3] at q
 have A:=ah (au q3 (au G q))
 clear q3 z3 G q
 go_wp2
 go_end0
 have V:Keep (fun g=>g=j\/g=l) w a:=(f.out.2.2.2.2.2.mono fun _ _ e=> .inr e).trans (Keep.of_below f.out.2.1 (fun _=>False)) (fun _ _ e=>e.elim)
 have R:=V.trans A.out.1.2 (fun _ _ e=> .inl e)
 have y:=Keep.of_below A.out.2.1 (fun _=>False)
 have S:=aI f.out.2.2.2.2.2.size f.out.2.1.size
 refine⟨rfl,_,a.heap.size,A.out.1.1.keep y id,(((f.out.2.2.2.2.1.keep (Keep.of_below f.out.2.1 (fun _=>False)) id).keep A.out.1.2 (fun e=>C.out.2.2.2 e.symm)).keep y id),A.out.2.2,?_,⟨S,f.out.2.2.2.1⟩,R.trans y (fun _ _ e=>e.elim)⟩
 have Y:lJ a (.slice c hsP.length b) hsP:=bq.below f.out.2.2.1 f.out.2.1
 exact bq.below (w:=a.setCell ⟨j,2,none⟩ (.pointer (some ⟨a.heap.size,0,none⟩))) (bq.keep Y fun g hg I hs=>⟨A.out.1.2.block g I (fun e=>by have h1:=f.out.2.2.2.1 g hg;have h2:=C.out.1.lt;have e:g=j:=e;omega),hs⟩) A.out.2.1
theorem PK (g j:Nat)(v d s b:Value)(L:List jW)(f:Value)(a c:ByteArray)(n:Int)(w:World)(h:ji w g v L d s b)(i:L[0]? =some ⟨f,.pointer (some ⟨j,0,none⟩),a,n,c⟩):
  Calls Tryz.prog 34 #[.pointer (some ⟨g,1,none⟩)] w fun e k=>e= .returned (.tuple #[])/\k=w:=by
 obtain⟨o,l,_,_,_,p,m⟩:=h.zero i
 clear h i
 go_enter Tryz.func34,Tryz.ntmps34
 go_wp2
 go_end0
 exact⟨rfl,rfl⟩
theorem MC (j f:Nat)(b r:ByteArray)(v d s k:Value)(L:List jW)(a c:ByteArray)(n:Int)(w:World)(h:ji w j v L d s k)(C:L[0]? =some ⟨.pointer (some ⟨f,0,none⟩),.pointer none,a,n,c⟩)(I:lD w f b)(t:j≠f)(F:QJ b)(G:b.extract 48 b.size=r)(H:jV w):
  Calls Tryz.prog 12 #[.pointer (some ⟨j,0,none⟩),.int .i64 0] w fun e q=>e= .returned (.bool true)/\∃y o,ji q j v (L.set 0 ⟨.pointer (some ⟨f,0,none⟩),.pointer (some ⟨o,0,none⟩),a,n,c⟩) d s k/\lD q f r/\xA q o y/\lJ q y hsP/\(w.heap.size<=o/\∀g,y.ownBlock=some g->w.heap.size<=g)/\Keep (fun g=>g=j\/g=f) w q:=by
 have J:=ah (PL j f b r v d s k L a c n w h C I t F G H)
 have D:=h.lt
 have B:=(bO.1 C).1
 clear h C I t F G H
 go_enter Tryz.func12,Tryz.ntmps12
 go_wp2_with (first
  |(go_at_call 27;go_must (refine(yN j w D).mono ?_;rintro e E ⟨rfl,O⟩;subst E))
  |(go_at_call 34;go_must (refine J.out.mono ?_;rintro e E ⟨rfl,y,o,m,p,z,x,i,A⟩;refine Stop.of ?_)))
 refine Stop.on ?_
 obtain⟨_,M,_,_,_,_,N⟩:=m.zero (l:=⟨.pointer (some ⟨f,0,none⟩),.pointer (some ⟨o,0,none⟩),a,n,c⟩) (by rw[um B])
 have K:=ah (au m (au p (au z (au x (au i A)))))
 clear m p z x i A
 go_wp2_with fail
 go_ret
 exact⟨rfl,y,o,K.out⟩
theorem MB (g k:Nat)(v d s b:Value)(L:List jW)(f:Value)(a c:ByteArray)(n:Int)(w:World)(h:ji w g v L d s b)(j:L[0]? =some ⟨f,.pointer (some ⟨k,0,none⟩),a,n,c⟩):
  Calls Tryz.prog 12 #[.pointer (some ⟨g,0,none⟩),.int .i64 0] w fun e l=>e= .returned (.bool true)/\l=w:=by
 have p:=ah (PK g k v d s b L f a c n w h j)
 obtain⟨_,q,_,_,_,_,m⟩:=h.zero j
 clear h j
 go_enter Tryz.func12,Tryz.ntmps12
 go_wp2_with (first
  |(go_at_call 27;go_must (refine(yN g w m).mono ?_;rintro e i ⟨rfl,o⟩;subst i))
  |(go_at_call 34;go_must (refine p.out.mono ?_;rintro e i ⟨rfl,o⟩;subst i)))
 go_ret
 exact⟨rfl,rfl⟩
theorem TF (g c:Nat)(b a r:ByteArray)(v d s i:Value)(L:List jW)(l:Value)(f k:ByteArray)(n:Int)(w:World)(h:ji w g v L d s i)(t:L[0]? =some ⟨.pointer (some ⟨c,0,none⟩),l,f,n,k⟩)(y:lD w c b)(x:b++a=r)(p:b.size<=1000000/\a.size<=1000000):
  Calls Tryz.prog 9 #[.pointer (some ⟨g,0,none⟩),.int .i64 0,.string a] w fun e q=>e= .returned (.int .i64 0)/\lD q c r/\Keep (· =c) w q:=by
 have A:=ah (Xr c b a r w y x p)
 obtain⟨B,_,_,_,_,_,z⟩:=h.zero t
 clear h t y x p
 go_enter Tryz.func9,Tryz.ntmps9
 go_wp2_with (first
  |(go_at_call 27;go_must (refine(yN g w z).mono ?_;rintro e o ⟨rfl,C⟩;subst o))
  |(go_at_call 32;go_must (refine A.out.mono ?_;rintro e o ⟨rfl,j,m⟩)))
 go_ret
 exact⟨rfl,j,m⟩
theorem WJ (f:Nat)(v d s g:Value)(L:List jW)(c b:Value)(a i:ByteArray)(n:Int)(w:World)(h:ji w f v L d s g)(j:L[0]? =some ⟨c,b,a,n,i⟩):
  Calls Tryz.prog 8 #[.pointer (some ⟨f,0,none⟩),.int .i64 0] w fun e k=>e= .returned (.tuple #[.string i,.int .i64 0])/\ji k f v (L.set 0 ⟨c,b,a,n,⟨#[]⟩⟩) d s g/\Keep (· =f) w k:=by
 obtain⟨_,_,_,_,t,m,p⟩:=h.zero j
 have q:=m 5
 have l:=ah (h.set0 j 4 (by decide) (.string ⟨#[]⟩) (l':=⟨c,b,a,n,⟨#[]⟩⟩) rfl)
 clear h j m
 go_enter Tryz.func8,Tryz.ntmps8
 go_wp2_with (first
  |(go_at_call 27;go_must (refine(yN f w p).mono ?_;rintro e o ⟨rfl,r⟩;subst o)))
 go_ret2
 exact⟨rfl,l.out.1,l.out.2⟩
def XG:jW:=⟨.pointer none,.pointer none,⟨#[]⟩,0,⟨#[]⟩⟩
def JS (c:Nat):jW:=⟨.pointer (some ⟨c,0,none⟩),.pointer none,⟨#[]⟩,0,⟨#[]⟩⟩
def newL (P:List Nat):List jW:=P.map JS++List.replicate (16 - P.length) XG
theorem Pp (P:List Nat)(h:P.length<=16):(newL P).length=16:=by unfold newL;simp;omega
theorem Po (P:List Nat)(c:Nat)(h:P.length<16):(newL P).set P.length (JS c)=newL (P++[c]):=by
 unfold newL
 obtain⟨m,a⟩:∃m,16 - P.length=m+1:=⟨15 - P.length,by omega⟩
 rw[dO _ _ (by simp),jM,kF,a,List.replicate_succ,ay,dF,aB,show 16 - (P.length+[c].length)=m by simp;omega]
 simp
theorem RX (P:List Nat)(h:P.length<16):(newL P)[P.length]? =some XG:=by
 unfold newL
 obtain⟨m,a⟩:∃m,16 - P.length=m+1:=⟨15 - P.length,by omega⟩
 rw[bP (by simp),jM,kF,a]
 rfl
theorem WK (b:Option Addr)(w:World):
  Calls Tryz.prog 15 #[.pointer b] w fun e F=>e= .returned (.pointer (some ⟨w.heap.size,0,none⟩))/\∃P:List Nat,P.length=16/\ji F w.heap.size (.pointer b) (newL P) (.int .u32 0) (.int .i32 0) (.slice none 0 0)/\(∀c∈P,lD F c ⟨#[]⟩/\w.heap.size<c)/\Below w.heap.size w F:=by
 have I:Tryz.zeroCells99.setIfInBounds 0 (.pointer b)=(KF (.pointer b) (newL []) (.int .u32 0) (.int .i32 0) (.slice none 0 0)).toArray:=by kernel_rfl
 have l:=aG w (.cells (Tryz.zeroCells99.setIfInBounds 0 (.pointer b)) 99)
 have d:=aH w (.cells (Tryz.zeroCells99.setIfInBounds 0 (.pointer b)) 99)
 obtain⟨J,y⟩:∃x:World,Hid (w.alloc (.cells (Tryz.zeroCells99.setIfInBounds 0 (.pointer b)) 99)=x):=⟨_,ah rfl⟩
 rw[y.out] at l d
 rw[I] at d
 have v:ji J w.heap.size (.pointer b) (newL []) (.int .u32 0) (.int .i32 0) (.slice none 0 0):=d
 obtain⟨a,n⟩:∃x:Nat,Hid (w.heap.size=x):=⟨_,ah rfl⟩
 have E:=ah (au v l)
 clear d v l I
 rw[n.out] at E ⊢
 go_enter Tryz.func15,Tryz.ntmps15
 go_upto_region 2 with (fail)
 rw[y.out,n.out]
 go_wp2
 go_loopw [4,8] (fun _ i wr=>∃P:List Nat,P.length<=16/\i= .int .i64 P.length/\ji wr a (.pointer b) (newL P) (.int .u32 0) (.int .i32 0) (.slice none 0 0)/\(∀c∈P,lD wr c ⟨#[]⟩/\a<c)/\Below a w wr) (fun _ i _=>16 - (intOf i).toNat)
 case atStart=>exact⟨[],aR _,rfl,E.out.1,by simp,E.out.2⟩
 case round=>
  obtain⟨P,M,rfl,m,hC,s⟩:=hrel
  by_cases r:P.length<16
  ·have H:(P.length:Int)<16:=by omega
   have B:P.length<(newL P).length:=by rw[Pp P M];exact r
   have p:(newL P)[P.length]=XG:=by
    have:=RX P r
    rw[bB B] at this
    exact dN this
   have D:1+P.length*5=1+5*P.length+0:=by omega
   have O:wr.cell? ⟨a,1+P.length*5,none⟩=some (.pointer none):=by
    rw[D,m.cell P.length 0 B (by decide),p]
    rfl
   have R:wr.frozen? ⟨a,1+P.length*5,none⟩=false:=Row.frozen m _
   have C:=m.lt
   have q:=m.set P.length 0 B (by decide) (.pointer (some ⟨wr.heap.size,0,none⟩)) (JS wr.heap.size) (by rw[p];rfl)
   rw[<-D,Po P _ r] at q
   have z:(wr.setCell ⟨a,1+P.length*5,none⟩ (.pointer (some ⟨wr.heap.size,0,none⟩))).heap.size=wr.heap.size:=by simp
   have t:=aG (wr.setCell ⟨a,1+P.length*5,none⟩ (.pointer (some ⟨wr.heap.size,0,none⟩))) (.cells #[.string ⟨#[]⟩,.bool false] 108)
   have o:=aH (wr.setCell ⟨a,1+P.length*5,none⟩ (.pointer (some ⟨wr.heap.size,0,none⟩))) (.cells #[.string ⟨#[]⟩,.bool false] 108)
   rw[z] at o
   have f:=Keep.of_below t (fun _=>False)
   have j:ji ((wr.setCell ⟨a,1+P.length*5,none⟩ (.pointer (some ⟨wr.heap.size,0,none⟩))).alloc (.cells #[.string ⟨#[]⟩,.bool false] 108)) a (.pointer b) (newL (P++[wr.heap.size])) (.int .u32 0) (.int .i32 0) (.slice none 0 0)/\(∀c∈P++[wr.heap.size],lD ((wr.setCell ⟨a,1+P.length*5,none⟩ (.pointer (some ⟨wr.heap.size,0,none⟩))).alloc (.cells #[.string ⟨#[]⟩,.bool false] 108)) c ⟨#[]⟩/\a<c)/\Below a w ((wr.setCell ⟨a,1+P.length*5,none⟩ (.pointer (some ⟨wr.heap.size,0,none⟩))).alloc (.cells #[.string ⟨#[]⟩,.bool false] 108)):=by
    refine⟨q.1.keep f id,fun c A=> ?_,s.trans ((q.2.trans f (fun _ _ e=>e.elim)).fw (by have:=s.size;have:=n.out;omega) (fun g S e=>by have e:g=a:=e;omega))⟩
    rcases eB.1 A with A|A
    ·obtain⟨N,K⟩:=hC c A
     exact⟨(N.keep q.2 (fun e=>by have e:c=a:=e;omega)).keep f id,K⟩
    ·rw[cu.1 A]
     exact⟨o,C⟩
   have k:=ah j
   clear j q o t f m hC s D B p z
   go_wp2_with fail
   go_roundw
   case rel=>exact⟨P++[wr.heap.size],by simp;omega,by simp,k.out.1,k.out.2.1,k.out.2.2⟩
   case measure=>simp[intOf];omega
  ·obtain G:P.length=16:=by omega
   have Q:¬(P.length:Int)<16:=by omega
   have k:=ah (au G (au m (au hC s)))
   clear m hC s
   go_wp2_with fail
   go_ret
   exact⟨rfl,P,k.out.1,k.out.2.1,k.out.2.2.1,k.out.2.2.2⟩
def nZ (L:List jW):Int:=(L.map jW.n).sum
def Kr (L:List jW):Prop:=∀l∈L,0<=l.n/\l.n<=1000
theorem GU:∀(L:List jW),Kr L->0<=nZ L/\nZ L<=1000*L.length
 |[],_=>⟨Int.le_refl _,Int.le_refl _⟩
 |l::L,h=>by
  obtain⟨e,d⟩:=h l (by simp)
  obtain⟨b,c⟩:=GU L fun x a=>h x (by simp[a])
  unfold nZ at*
  simp only[eP,kG,aZ]
  omega
theorem WL (o:Nat)(v d s p:Value)(L:List jW)(w:World)(h:ji w o v L d s p)(A:L.length=16)(g:Kr L):
  Calls Tryz.prog 13 #[.pointer (some ⟨o,0,none⟩)] w fun e D=>e= .returned (.int .i64 (nZ L))/\D=w:=by
 have m:=ah (au h (au A g))
 have E:=h.lt
 clear h A g
 go_enter Tryz.func13,Tryz.ntmps13
 go_wp2
 go_loopw [3,4,7] (fun x _ i wr=>∃k:Nat,k<=16/\i= .int .i64 k/\x= .int .i64 (nZ (L.take k))/\wr=w) (fun _ _ i _=>16 - (intOf i).toNat)
 case atStart=>exact⟨0,aR _,rfl,rfl,rfl⟩
 case round=>
  obtain⟨k,G,rfl,rfl,r⟩:=hrel
  subst r
  by_cases l:k<16
  ·have c:k<L.length:=by rw[m.out.2.1];exact l
   have z:(k:Int)<16:=by omega
   have C:wr.cell? ⟨o,1+k*5+3,none⟩=some (.int .i64 L[k].n):=by
    rw[show 1+k*5+3=1+5*k+3 by omega,m.out.1.cell k 3 c (by decide)]
    rfl
   have j:=GU (L.take k) (fun x B=>m.out.2.2 x (kK B))
   have q:=m.out.2.2 L[k] (bJ c)
   rw[aQ] at j
   have f:nZ (L.take (k+1))=nZ (L.take k)+L[k].n:=by
    unfold nZ
    rw[aO c,dF,jK]
    simp
   have F:IntKind.i64.wrap (nZ (L.take k)+L[k].n)=nZ (L.take (k+1)):=by rw[bX,f];omega
   obtain⟨a,y⟩:∃a,Hid (nZ (L.take k)=a):=⟨_,ah rfl⟩
   obtain⟨b,t⟩:∃b,Hid (nZ (L.take (k+1))=b):=⟨_,ah rfl⟩
   obtain⟨n,g⟩:∃n,Hid (L[k].n=n):=⟨_,ah rfl⟩
   rw[y.out,t.out,g.out] at F
   rw[g.out] at C
   rw[y.out]
   clear j q f g c
   go_wp2_with fail
   go_roundw
   case rel=>exact⟨k+1,by omega,by go_num,by rw[t.out],by trivial⟩
   case measure=>simp[intOf];omega
  ·obtain rfl:k=16:=by omega
   have e:nZ (L.take 16)=nZ L:=by rw[<-m.out.2.1,bL]
   rw[e]
   go_wp2_with fail
   go_ret
   exact⟨rfl,rfl⟩
def jW.sync (l:jW):jW:=⟨l.inn,l.nxt,⟨#[]⟩,0,l.out++l.held⟩
def qX (L:List jW)(k:Nat):List jW:=(L.take k).map jW.sync++L.drop k
theorem Dh (L:List jW)(k:Nat):(qX L k).length=L.length:=by unfold qX;simp;omega
theorem OJ (L:List jW)(k:Nat)(a:k<L.length):(qX L k)[k]'(by rw[Dh];exact a)=L[k]:=by
 unfold qX
 have e:((L.take k).map jW.sync).length=k:=by simp;omega
 rw[qJ (by omega)]
 simp
 congr 1
 omega
theorem Me (L:List jW)(k:Nat)(a:k<L.length):(qX L k).set k L[k].sync=qX L (k+1):=by
 unfold qX
 have e:((L.take k).map jW.sync).length=k:=by simp;omega
 rw[dO _ _ (by omega),e,kF,dB a,ay,aO a,dF]
 simp
def VR (L:List jW):Prop:=∀l∈L,l.held.size<=100000/\l.out.size<=100000
theorem Mg (a:Nat)(J:Option Addr)(d s t:Value)(L:List jW)(w:World)(D:Int)(M:Nat->Prop)(Q:World->Prop)(h:ji w a (.pointer J) L d s t)(hL:L.length=16)(G:VR L)(hM:¬M a)
  (hv:Calls Tryz.prog 33 #[.pointer J] w fun e A=>e= .returned (.int .i64 D)/\Q A/\Keep M w A):
  Calls Tryz.prog 11 #[.pointer (some ⟨a,0,none⟩)] w fun e A=>e= .returned (.int .i64 D)/\∃q,Q q/\Keep M w q/\((D≠0/\A=q)\/(D=0/\ji A a (.pointer J) (L.map jW.sync) d s t/\Keep (· =a) q A)):=by
 have c0:w.cell? ⟨a,0,none⟩=some (.pointer J):=(Row.cell h 0).trans rfl
 have ql:=h.lt
 have F:=ah (au h (au hL (au G hM)))
 have HV:=ah hv
 clear h hL G hM hv
 go_enter Tryz.func11,Tryz.ntmps11
 go_wp2_with (first
  |(go_at_call 33;go_must (refine HV.out.mono ?_;rintro e q ⟨rfl,o,j⟩;refine Stop.of ?_)))
 refine Stop.on ?_
 by_cases R:D=0
 ·subst R
  have I:=F.out.1.keep j F.out.2.2.2
  have z:=ah (au o (au j I))
  clear o j I
  go_wp2_with fail
  go_loopw [4,15] (fun _ i wr=>∃k:Nat,k<=16/\i= .int .i64 k/\ji wr a (.pointer J) (qX L k) d s t/\Keep (· =a) q wr) (fun _ i _=>16 - (intOf i).toNat)
  case atStart=>exact⟨0,aR _,rfl,by simpa [qX] using z.out.2.2,Keep.refl _ _⟩
  case round=>
   obtain⟨k,hk,rfl,m,p⟩:=hrel
   by_cases E:k<16
   ·have f:k<L.length:=by rw[F.out.2.1];exact E
    have n:k<(qX L k).length:=by rw[Dh];exact f
    have p9:(k:Int)<16:=by omega
    obtain⟨l,T⟩:∃l,L[k]=l:=⟨_,rfl⟩
    have c:=OJ L k f
    rw[T] at c
    have c2:wr.cell? ⟨a,1+k*5+2,none⟩=some (.string l.held):=by
     rw[show 1+k*5+2=1+5*k+2 by omega,m.cell k 2 n (by decide),c]
     rfl
    have c4:wr.cell? ⟨a,1+k*5+4,none⟩=some (.string l.out):=by
     rw[show 1+k*5+4=1+5*k+4 by omega,m.cell k 4 n (by decide),c]
     rfl
    have X:=F.out.2.2.1 l (by rw[<-T];exact bJ f)
    have pV:∀W:World,(Op.stringOp .add l.out l.held).run Tryz.prog W= .ok (.string (l.out++l.held)) W:=fun W=>iL W _ _ (by omega) (by omega)
    have q1:=m.set k 4 n (by decide) (.string (l.out++l.held)) ⟨l.inn,l.nxt,l.held,l.n,l.out++l.held⟩ (by rw[c];rfl)
    have qb:=m.lt
    have ff:=fun i=>Row.frozen m i
    have f4:=ff (1+k*5+4)
    have Z:=ah q1
    have Y:=ah (au c T)
    have HK:=ah (au f p)
    clear m c X q1 ff p T
    go_upto_region 9 with (fail)
    refine aP (fun W=>W=wr.drew) (fun i=> !([19].contains i)) [0,1,2,3,4,5,6,7,8,9,10,11,12,13,14,15,16,17,18,19] rfl (by kernel_rfl) rfl ?_
    repeat ((refine bE (v:= ?_) rfl rfl (fun _ _ _ h=>h) rfl (fun W B=> ?_) ?_);rotate_left;(focus ((try dsimp only at B);subst B;(go_simp;first|done|with_reducible rfl)));(try simp only[Act.put,ak,ay,ax]))
    refine jR rfl rfl rfl (by kernel_rfl) ?_;intro K N;go_simp
    refine N.out _ _ (bN ?_)
    obtain⟨P,O⟩:∃x:World,Hid (wr.setCell ⟨a,1+k*5+4,none⟩ (.string (l.out++l.held))=x):=⟨_,ah rfl⟩
    have hq:=Z.out
    rw[show 1+5*k+4=1+k*5+4 by omega,O.out] at hq
    obtain⟨b,r⟩:=hq
    have g:k<((qX L k).set k ⟨l.inn,l.nxt,l.held,l.n,l.out++l.held⟩).length:=by rw[rU];exact n
    have qc:P.cell? ⟨a,1+k*5+2,none⟩=some (.string l.held):=by
     rw[show 1+k*5+2=1+5*k+2 by omega,b.cell k 2 g (by decide),oQ]
     rfl
    have qf:P.cell? ⟨a,1+k*5+3,none⟩=some (.int .i64 l.n):=by
     rw[show 1+k*5+3=1+5*k+3 by omega,b.cell k 3 g (by decide),oQ]
     rfl
    have g2:P.frozen? ⟨a,1+k*5+2,none⟩=false:=Row.frozen b _
    have g3:P.frozen? ⟨a,1+k*5+3,none⟩=false:=Row.frozen b _
    have y:=b.lt
    have V:=b.set k 2 g (by decide) (.string ⟨#[]⟩) ⟨l.inn,l.nxt,⟨#[]⟩,l.n,l.out++l.held⟩ (by rw[oQ];rfl)
    have H:k<(((qX L k).set k ⟨l.inn,l.nxt,l.held,l.n,l.out++l.held⟩).set k ⟨l.inn,l.nxt,⟨#[]⟩,l.n,l.out++l.held⟩).length:=by rw[rU];exact g
    have S:=V.1.set k 3 H (by decide) (.int .i64 0) l.sync (by rw[oQ];rfl)
    rw[Uj,Uj,<-Y.out.2,Me L k f,show 1+5*k+2=1+k*5+2 by omega,show 1+5*k+3=1+k*5+3 by omega] at S
    rw[show 1+5*k+2=1+k*5+2 by omega] at V
    have C:=ah (au S.1 (((HK.out.2.trans r (fun _ _ e=>e)).trans V.2 (fun _ _ e=>e)).trans S.2 (fun _ _ e=>e)))
    clear b r g H V S c2 c4 f4
    go_upto_region 10 with (fail)
    rw[O.out]
    refine aP (fun W=>a<W.heap.size) (fun i=> !([8,13].contains i)) [0,1,2,3,4,5,6,7,9,10,8,11,12,13] rfl (by kernel_rfl) y ?_
    repeat ((refine bE (v:= ?_) rfl rfl (fun _ _ _ h=>h) rfl (fun W B=> ?_) ?_);rotate_left;(focus ((try dsimp only at B);skip;(go_simp;first|done|with_reducible rfl)));(try simp only[Act.put,ak,ay,ax]))
    refine bT rfl rfl rfl ?_;intro K N;go_simp
    refine N.out _ _ (by simpa using y) ?_
    (try simp only[Act.put,ak,ay,ax])
    repeat ((refine bE (v:= ?_) rfl rfl (fun _ _ _ h=>h) rfl (fun W B=> ?_) ?_);rotate_left;(focus ((try dsimp only at B);skip;(go_simp;first|done|with_reducible rfl)));(try simp only[Act.put,ak,ay,ax]))
    refine bT rfl rfl rfl ?_;intro K N;go_simp
    refine N.out _ _ (by simpa using y) ?_
    refine bN ?_
    go_wp2_with fail
    go_roundw
    case rel=>exact⟨k+1,by omega,by go_num,C.out.1,C.out.2.as rfl rfl rfl rfl⟩
    case measure=>simp[intOf];omega
   ·obtain rfl:k=16:=by omega
    have e:qX L 16=L.map jW.sync:=by unfold qX;rw[<-F.out.2.1,bL,iP,dV]
    rw[e] at m
    have C:=ah (au m p)
    clear m p
    go_wp2_with fail
    go_ret
    exact⟨rfl,q,z.out.1,z.out.2.1,by first|exact .inr ⟨rfl,C.out.1,C.out.2⟩|exact C.out⟩
 ·have hz:(D==0)=false:=by simpa using R
  have z:=ah (au o (au j R))
  clear o j R
  go_wp2_with fail
  go_ret
  exact⟨rfl,q,z.out.1,z.out.2.1,.inl ⟨z.out.2.2,rfl⟩⟩
def Cz (A:List Value)(d s:Value)(B:List Value):List Value:=A++(d::s:: .int .u32 0::B)
theorem Pj (A:List Value)(d s:Value)(B:List Value):(Cz A d s B)[A.length]? =some d:=by unfold Cz;rw[bP (aC _),kF];rfl
theorem TL (A:List Value)(d s:Value)(B:List Value):(Cz A d s B)[A.length+1]? =some s:=by unfold Cz;rw[bP (by omega),dD];rfl
theorem MQ (A:List Value)(d s:Value)(B:List Value)(v:Value):(Cz A d s B).set A.length v=Cz A v s B:=by unfold Cz;rw[dO _ _ (aC _),kF];rfl
theorem Dt (A:List Value)(d s:Value)(B:List Value)(v:Value):(Cz A d s B).set (A.length+1) v=Cz A d v B:=by unfold Cz;rw[dO _ _ (by omega),dD];rfl
theorem OQ (A B E:List Value)(b o T g:Nat)(N:Array Value)(w:World)(M:Nat->Prop)(Q:World->Prop)(z:M b)(O:∀W V,Q W->Keep (· =b) W V->Q V)(ho:A.length=o)(n:Row w b T (Cz A (.int .u32 0) (.int .i32 0) B))(S:∀args w,(callFunc g args).run Tryz.prog w= .ok (.enter g args) w)
  (R:∀q,Row q b T (Cz A (.int .u32 0) (.int .i32 1) B)->Keep (· =b) w q->q.heap.size=w.heap.size->Calls Tryz.prog g N q fun e i=>e= .returned (.tuple #[])/\Row i b T (Cz A (.int .u32 0) (.int .i32 1) E)/\Q i/\Keep M q i):
  Calls Tryz.prog 124 #[.pointer (some ⟨b,o,none⟩),.func (.func g) #[] N] w fun e i=>e= .returned (.tuple #[])/\Row i b T (Cz A (.int .u32 1) (.int .i32 0) E)/\Q i/\Keep M w i:=by
 subst ho
 have l:=n.setCell (A.length+1) (.int .i32 1)
 rw[Dt] at l
 have Y:w.cell? ⟨b,A.length,none⟩=some (.int .u32 0):=(n.cell _).trans (Pj ..)
 have h1:w.cell? ⟨b,A.length+1,none⟩=some (.int .i32 0):=(n.cell _).trans (TL ..)
 have f0:w.frozen? ⟨b,A.length,none⟩=false:=n.frozen _
 have f1:w.frozen? ⟨b,A.length+1,none⟩=false:=n.frozen _
 have hl:=Ff (P:=Tryz.prog) Ud (by kernel_rfl) (by kernel_rfl) (by kernel_rfl) .u32 (by kernel_rfl) (w:=w.setCell ⟨b,A.length+1,none⟩ (.int .i32 1)) (a:=⟨b,A.length,none⟩) (x:=0) ((World.cell?_setCell_other _ ⟨b,A.length+1,none⟩ ⟨b,A.length,none⟩ _ (by simp)).trans Y)
 have m:=(Keep.refl (· =b) w).setCell (p:=⟨b,A.length+1,none⟩) (.inr rfl) (.int .i32 1)
 have t:=R (w.setCell ⟨b,A.length+1,none⟩ (.int .i32 1)) l m (by simp)
 have G:=ah t;clear t
 have C:=ah (au m (au z O))
 have X:∀(x:Bool) (w:World),(Op.unary .not (.bool x)).run Tryz.prog w= .ok (.bool (!x)) w:=fun _ _=>rfl
 clear n l R m z O
 go_enter_defers Tryz.func124,Tryz.ntmps124
 go_wp2_with (go_at_call 198;refine(lock_free ⟨b,A.length+1,none⟩ _ (by go_simp) (by go_simp)).mono ?_;rintro e i ⟨rfl,rfl⟩)
 go_wp2_with (go_at_call 123;go_in)
 refine G.out.mono ?_
 rintro e j ⟨rfl,c,v,y⟩
 have D:j.cell? ⟨b,A.length,none⟩=some (.int .u32 0):=(c.cell _).trans (Pj ..)
 have I:j.frozen? ⟨b,A.length,none⟩=false:=c.frozen _
 have d:Row (j.drew.setCell ⟨b,A.length,none⟩ (.int .u32 1)) b T (Cz A (.int .u32 1) (.int .i32 1) E):=by
  have:=Row.setCell (w:=j.drew) c A.length (.int .u32 1)
  rwa [MQ] at this
 have K:(j.drew.setCell ⟨b,A.length,none⟩ (.int .u32 1)).cell? ⟨b,A.length+1,none⟩=some (.int .i32 1):=(d.cell _).trans (TL ..)
 have H:(j.drew.setCell ⟨b,A.length,none⟩ (.int .u32 1)).frozen? ⟨b,A.length+1,none⟩=false:=d.frozen _
 have k:=d.setCell (A.length+1) (.int .i32 0)
 rw[Dt] at k
 have F:=ah k
 have r:=ah ((((Keep.refl (· =b) j).drew).setCell (p:=⟨b,A.length,none⟩) (.inr rfl) (.int .u32 1)).setCell (p:=⟨b,A.length+1,none⟩) (.inr rfl) (.int .i32 0))
 have s:=ah (au v y)
 clear c d k y v
 go_wp2_with fail
 refine fe (f:=200) (args:=#[.pointer (some ⟨b,A.length,none⟩),.bool true]) (by simp) (by simp[go_sem]) ?_
 refine(ug ⟨b,A.length,none⟩ (.int .u32 0) .returning _ D I).mono ?_
 rintro e Z J ⟨rfl,rfl,rfl⟩
 refine fe (f:=199) (args:=#[.pointer (some ⟨b,A.length+1,none⟩)]) (by simp[settle]) (by simp[go_sem]) ?_
 refine(unlock_deferred ⟨b,A.length+1,none⟩ _ _ K H).mono ?_
 rintro e Z J ⟨rfl,rfl,rfl⟩
 simp[Leaves,settle,results,Tryz.results124]
 exact⟨F.out,C.out.2.2 _ _ s.out.1 r.out,(((C.out.1.mono fun g _ e=>by rw[show g=b from e];exact C.out.2.1).trans s.out.2 (fun _ _ e=>e)).trans r.out (fun g _ e=>by rw[show g=b from e];exact C.out.2.1))⟩
theorem VG (A B l:List Value)(b o T g:Nat)(j:Array Value)(w:World)(M:Nat->Prop)(Q:World->Prop)(f:M b)(n:∀W q,Q W->Keep (· =b) W q->Q q)(t:A.length=o)(m:Row w b T (Cz A (.int .u32 0) (.int .i32 0) B))(i:∀c w,(callFunc g c).run Tryz.prog w= .ok (.enter g c) w)
  (p:∀d,Row d b T (Cz A (.int .u32 0) (.int .i32 1) B)->Keep (· =b) w d->d.heap.size=w.heap.size->Calls Tryz.prog g j d fun e a=>e= .returned (.tuple #[])/\Row a b T (Cz A (.int .u32 0) (.int .i32 1) l)/\Q a/\Keep M d a):
  Calls Tryz.prog 68 #[.pointer (some ⟨b,o,none⟩),.func (.func g) #[] j] w fun e a=>e= .returned (.tuple #[])/\Row a b T (Cz A (.int .u32 1) (.int .i32 0) l)/\Q a/\Keep M w a:=by
 subst t
 have r:∀(x:Bool) (w:World),(Op.unary .not (.bool x)).run Tryz.prog w= .ok (.bool (!x)) w:=fun _ _=>rfl
 have s:w.cell? ⟨b,A.length,none⟩=some (.int .u32 0):=(m.cell _).trans (Pj ..)
 have y:=Ff (P:=Tryz.prog) Ud (by kernel_rfl) (by kernel_rfl) (by kernel_rfl) .u32 (by kernel_rfl) s
 have v:=ah (OQ A B l b A.length T g j w M Q f n rfl m i p)
 clear m p f n
 go_enter Tryz.func68,Tryz.ntmps68
 go_wp2_with (first|(go_at_call 124;refine v.out.mono ?_;rintro e a ⟨rfl,k⟩)|(go_at_call 123;go_in))
 go_end0
 exact⟨rfl,k⟩
def IA (w:World)(kb:Nat)(c:Int):Prop:=∃cur:List Value,cur.length=600/\cur[201]? =some (.int .i64 c)/\Row w kb 103 cur
theorem IA.keep {M:Nat->Prop}{w w':World}{a:Nat}{c:Int}(h:IA w a c)(d:Keep M w w')(b:¬M a):IA w' a c:=h.imp fun _ q=>⟨q.1,q.2.1,Row.keep q.2.2 d b⟩
theorem P9:(Tryz.prog.info? 103).map (fun i=>(i.zero,i.size,i.bytes))=some (some (.agg #[.int .i64 0]),1,8):=by kernel_rfl
def Iy:Array Value:=madeCells #[.int .i64 0] 600
theorem NY:Iy.toList.length=600:=by unfold Iy madeCells;simp
theorem Rc:Iy.toList[201]? =some (.int .i64 0):=by kernel_rfl
theorem R4 (w:World):(Instr.makeSlice 97 (.int .i64 600) (.int .i64 600)).run Tryz.prog w= .ok (.slice (some ⟨w.heap.size,0,none⟩) 600 600) (w.alloc (.cells Iy 103)):=by
 obtain⟨i,d,c,a,b⟩:=xC P9
 have:=run_make (P:=Tryz.prog) (w:=w) 97 103 i _ Tryz.underlying97 d c .i64 .i64 600 600 (by omega) (by omega) (by rw[b];omega) (by omega)
 rw[this,a]
 rfl
theorem AL (v:Value)(L:List jW)(d s a:Value):KF v L d s a=Cz (v::oK L) d s [a]:=by simp[KF,Cz]
theorem KE (v:Value)(L:List jW)(d s a:Value)(b:L.length=16):(KF v L d s a)[84]? =some a:=by
 unfold KF
 rw[dm,bP (by rw[oJ];omega),oJ,b]
 rfl
theorem OL (v:Value)(L:List jW)(d s a x:Value)(b:L.length=16):(KF v L d s a).set 84 x=KF v L d s x:=by
 unfold KF
 rw[ax,dO _ _ (by rw[oJ];omega),oJ,b]
 rfl
theorem Jo (g a:Nat)(v:Value)(L:List jW)(d s:Value)(w:World)(n:w.heap[g]? =some (.cells #[.pointer (some ⟨a,0,none⟩)] 25 (0,0)))(h:ji w a v L d s (.slice none 0 0))(x:L.length=16)(y:g≠a):
  Calls Tryz.prog 69 #[.pointer (some ⟨g,0,none⟩)] w fun e o=>e= .returned (.tuple #[])/\ji o a v L d s (.slice (some ⟨w.heap.size,0,none⟩) 600 600)/\IA o w.heap.size 0/\Keep (· =a) w o:=by
 have H:=R4
 have B:w.cell? ⟨g,0,none⟩=some (.pointer (some ⟨a,0,none⟩)):=by simp[World.cell?,n]
 have r:=(aj.1 n).1
 have A:=h.lt
 have G:w.cell? ⟨a,84,none⟩=some (.slice none 0 0):=(Row.cell h 84).trans (KE v L d s _ x)
 have F:w.frozen? ⟨a,84,none⟩=false:=Row.frozen h _
 have q:=Row.setCell h 84 (.slice (some ⟨w.heap.size,0,none⟩) 600 600)
 rw[OL v L d s _ _ x] at q
 have z:(w.setCell ⟨a,84,none⟩ (.slice (some ⟨w.heap.size,0,none⟩) 600 600)).heap.size=w.heap.size:=by simp
 have j:=aG (w.setCell ⟨a,84,none⟩ (.slice (some ⟨w.heap.size,0,none⟩) 600 600)) (.cells Iy 103)
 have f:=aH (w.setCell ⟨a,84,none⟩ (.slice (some ⟨w.heap.size,0,none⟩) 600 600)) (.cells Iy 103)
 rw[z] at f
 have l:Keep (· =a) w (w.setCell ⟨a,84,none⟩ (.slice (some ⟨w.heap.size,0,none⟩) 600 600)):=(Keep.refl (· =a) w).setCell (p:=⟨a,84,none⟩) (.inr rfl) _
 have m:=ah (au q (au j (au f l)))
 clear q z j f l h x n
 go_enter Tryz.func69,Tryz.ntmps69
 go_upto_region 0 with (fail)
 refine aP (fun W=>W.cell? ⟨g,0,none⟩=some (.pointer (some ⟨a,0,none⟩))/\g<W.heap.size/\a<W.heap.size) (fun i=> !([1,4].contains i)) [0,1,2,3,4] rfl (by kernel_rfl) ⟨B,r,A⟩ ?_
 repeat ((refine bE (v:= ?_) rfl rfl (fun _ _ _ h=>h) rfl (fun W b=> ?_) ?_);rotate_left;(focus ((try dsimp only at b);have D:=b.1;have C:=b.2.1;have I:=b.2.2;(go_simp;first|done|with_reducible rfl)));(try simp only[Act.put,ak,ay,ax]))
 refine bT rfl rfl rfl ?_;intro K t;go_simp
 have c:=aG w (.cells Iy 103)
 refine t.out _ _ ⟨(c.cell (p:=⟨g,0,none⟩) r).trans B,aA r c.size,aA A c.size⟩ ?_
 (try simp only[Act.put,ak,ay,ax])
 repeat ((refine bE (v:= ?_) rfl rfl (fun _ _ _ h=>h) rfl (fun W b=> ?_) ?_);rotate_left;(focus ((try dsimp only at b);have D:=b.1;have C:=b.2.1;have I:=b.2.2;(go_simp;first|done|with_reducible rfl)));(try simp only[Act.put,ak,ay,ax]))
 refine jR rfl rfl rfl (by kernel_rfl) ?_;intro K t;go_simp
 refine t.out _ _ (bN ?_)
 go_end0
 have k:=Keep.of_below m.out.2.1 (fun _=>False)
 refine⟨rfl,?_,⟨Iy.toList,NY,Rc,m.out.2.2.1⟩,(m.out.2.2.2.trans k (fun _ _ e=>e.elim)).as rfl rfl rfl rfl⟩
 have E:=ji.keep (w:=w.setCell ⟨a,84,none⟩ (.slice (some ⟨w.heap.size,0,none⟩) 600 600)) m.out.1 (M:=fun _=>False) k (fun e=>e)
 exact E
theorem FK (a:Nat)(v:Value)(L:List jW)(w:World)(h:ji w a v L (.int .u32 0) (.int .i32 0) (.slice none 0 0))(H:L.length=16):
  Calls Tryz.prog 30 #[.pointer (some ⟨a,0,none⟩)] w fun e A=>∃n,e= .returned (.slice (some ⟨n,0,none⟩) 600 600)/\ji A a v L (.int .u32 1) (.int .i32 0) (.slice (some ⟨n,0,none⟩) 600 600)/\IA A n 0/\w.heap.size<=n/\Keep (· =a) w A:=by
 have N:∀(K:Fn) (first cap:Array Value) (w:World),(Instr.makeFunc K first cap).run Tryz.prog w= .ok (.func K first cap) w:=fun _ _ _ _=>rfl
 have f:=aG w (.cells #[.pointer (some ⟨a,0,none⟩)] 25)
 have b:=aH w (.cells #[.pointer (some ⟨a,0,none⟩)] 25)
 obtain⟨d,s⟩:∃x:World,Hid (w.alloc (.cells #[.pointer (some ⟨a,0,none⟩)] 25)=x):=⟨_,ah rfl⟩
 rw[s.out] at f b
 obtain⟨l,j⟩:∃x:Nat,Hid (w.heap.size=x):=⟨_,ah rfl⟩
 rw[j.out] at b
 have D:=h.keep (Keep.of_below f (fun _=>False)) id
 have E:=h.lt
 have g:l≠a:=by have:=j.out;omega
 have m:=(aj.1 b).1
 have t:Row d a 99 (Cz (v::oK L) (.int .u32 0) (.int .i32 0) [.slice none 0 0]):=by rw[<-AL];exact D
 have J:=VG (v::oK L) [.slice none 0 0] [.slice (some ⟨d.heap.size,0,none⟩) 600 600] a 81 99 69 #[.pointer (some ⟨l,0,none⟩)] d (· =a) (fun W=>IA W d.heap.size 0) rfl (fun W W' q G=>q.keep G (fun e=>by have e:d.heap.size=a:=e;have:=D.lt;omega)) (by rw[aZ,oJ,H]) t (fun _ _=>by kernel_rfl) (fun o T G V=>by
   have c:=(G.block l m g).trans b
   have:=Jo l a v L (.int .u32 0) (.int .i32 1) o c (by unfold ji;rw[AL];exact T) H g
   rw[V] at this
   refine this.mono ?_
   rintro e A ⟨rfl,C,X,P⟩
   exact⟨rfl,by unfold ji at C;rw[AL] at C;exact C,X,P⟩)
 have Q:=ah J
 have z:=ah (au f g)
 have I:=ah b
 clear J D t b f h g
 have Z:=m
 go_enter Tryz.func30,Tryz.ntmps30
 go_upto_region 1 with (fail)
 rw[s.out,j.out]
 have S:d.cell? ⟨l,0,none⟩=some (.pointer (some ⟨a,0,none⟩)):=by simp[World.cell?,I.out]
 have R:a<d.heap.size:=aA E z.out.1.size
 go_wp2_with (first
  |(go_at_call 68;go_must (refine Q.out.mono ?_;rintro e o ⟨rfl,p,y,k⟩;refine Stop.of ?_)))
 refine Stop.on ?_
 have i:ji o a v L (.int .u32 1) (.int .i32 0) (.slice (some ⟨d.heap.size,0,none⟩) 600 600):=by unfold ji;rw[AL];exact p
 have c:=(k.block l m z.out.2).trans I.out
 have Y:o.cell? ⟨l,0,none⟩=some (.pointer (some ⟨a,0,none⟩)):=by simp[World.cell?,c]
 have O:=(aj.1 c).1
 have F:o.cell? ⟨a,84,none⟩=some (.slice (some ⟨d.heap.size,0,none⟩) 600 600):=(Row.cell i 84).trans (KE v L _ _ _ H)
 have M:=i.lt
 have B:=ah (au i (au y k))
 obtain⟨n,r⟩:∃x:Nat,Hid (d.heap.size=x):=⟨_,ah rfl⟩
 rw[r.out] at F B
 clear i y k p c S R
 go_wp2_with fail
 go_ret
 exact⟨n,rfl,B.out.1,B.out.2.1,by have:=z.out.1.size;have:=r.out;omega,(Keep.of_below z.out.1 (· =a)).trans B.out.2.2 (fun _ _ e=>e)⟩
end Go.Proofs.YtpmbddooibgnaaaGreatDoor
namespace Go.Proofs.YtpmbddooibgnaaaGreatDoor
open Go.RowKit
theorem P7 {x:Type}(a d b:List x)(i n c k:Nat)(r:i<n)(y:n+1<=c)(v:a.length=c*k)(q:a.take (n*k)=d)(e:b.length=k):
  (splice a ((i+1)*k) (d.drop (i*k))).length=c*k/\(splice (splice a ((i+1)*k) (d.drop (i*k))) (i*k) b).length=c*k/\
  (splice (splice a ((i+1)*k) (d.drop (i*k))) (i*k) b).take ((n+1)*k)=d.take (i*k)++b++d.drop (i*k):=by
 have t:i*k<=n*k:=dw _ (gJ r)
 have g:(i+1)*k<=n*k:=dw _ r
 have j:(n+1)*k<=c*k:=dw _ y
 rw[fB,lK] at g j
 have o:d.length=n*k:=by rw[<-q,aQ];omega
 have l:(d.drop (i*k)).length=n*k - i*k:=by rw[bG,o]
 have f:(splice a ((i+1)*k) (d.drop (i*k))).length=c*k:=by rw[Ua _ _ _ (by rw[l,fB,lK];omega)];exact v
 have m:(splice (splice a ((i+1)*k) (d.drop (i*k))) (i*k) b).length=c*k:=by rw[Ua _ _ _ (by rw[f];omega)];exact f
 refine⟨f,m,?_⟩
 have p:(a.take (i*k)).length=i*k:=by rw[aQ];omega
 have s:d.take (i*k)=a.take (i*k):=by rw[<-q,jE,dx (by omega)]
 have z:splice a ((i+1)*k) (d.drop (i*k))=a.take (i*k)++((a.drop (i*k)).take k++(d.drop (i*k)++a.drop ((i+1)*k+(d.drop (i*k)).length))):=by
  unfold splice
  rw[fB,lK,List.take_add,bA]
 rw[z,vQ _ _ _ _ _ p (by rw[aQ,bG,e];omega),s,<-bA,<-bA,
  bW (by simp only[aB,p,l,e,fB,lK];omega),aL (by simp only[aB,p,l,e,fB,lK];omega)]
theorem M0 {A:Type}(d a f b:List A)(i n c k:Nat)(t:i<n)(C:n+1<=c)(s:d.take (n*k)=f)(v:n*k<=d.length)(p:(d.take (i*k)++a).length=c*k)(e:b.length=k):
  (splice (d.take (i*k)++a) (i*k) b).length=c*k/\(splice (splice (d.take (i*k)++a) (i*k) b) ((i+1)*k) (f.drop (i*k))).length=c*k/\
  (splice (splice (d.take (i*k)++a) (i*k) b) ((i+1)*k) (f.drop (i*k))).take ((n+1)*k)=f.take (i*k)++b++f.drop (i*k):=by
 have y:i*k<=n*k:=dw _ (gJ t)
 have j:(i+1)*k<=n*k:=dw _ t
 have m:(n+1)*k<=c*k:=dw _ C
 rw[fB,lK] at j m
 have r:f.length=n*k:=by rw[<-s,aQ];omega
 have o:(f.drop (i*k)).length=n*k - i*k:=by rw[bG,r]
 have l:(d.take (i*k)).length=i*k:=by rw[aQ];omega
 have x:f.take (i*k)=d.take (i*k):=by rw[<-s,jE,dx (by omega)]
 have z:a.length=c*k - i*k:=by rw[aB,l] at p;omega
 have g:(splice (d.take (i*k)++a) (i*k) b).length=c*k:=by rw[Ua _ _ _ (by rw[p];omega)];exact p
 have q:(splice (splice (d.take (i*k)++a) (i*k) b) ((i+1)*k) (f.drop (i*k))).length=c*k:=by rw[Ua _ _ _ (by rw[g,o,fB,lK];omega)];exact g
 refine⟨g,q,?_⟩
 have B:splice (d.take (i*k)++a) (i*k) b=(d.take (i*k)++b)++((a.drop k).take (n*k - i*k)++(a.drop k).drop (n*k - i*k)):=by
  rw[bM]
  have:=vQ (d.take (i*k)) (a.take k) (a.drop k) b (i*k) l (by rw[aQ,e];omega)
  rw[bM] at this
  rw[this,bA]
 rw[B,vQ _ _ _ _ _ (by simp only[aB,l,e,fB,lK]) (by rw[o,aQ,bG];omega),x,<-bA,
  bW (by simp only[aB,l,o,e,fB,lK];omega),aL (by simp only[aB,l,o,e,fB,lK];omega)]
theorem JZ (v:Value)(n:Nat)(p:List Value)(j:Nat)(a:List Value)(w:World)(S:Nat->Prop)(B:Nat)(x:∀g,S g->g<w.heap.size)(hB:B<=w.heap.size)(h:aV w S B 188 2 v n p)(A:Row w j 188 a)(f:a.length=2)(b:∀u∈a,u.oneCell'=true)(G:n<=1000000):
  Calls Tryz.prog 546 #[v,.int .i64 n,.slice (some ⟨j,0,none⟩) 1 1] w fun e m=>∃q,e= .returned q/\aV m S B 188 2 q (n+1) (p++a)/\Keep (fun g=>v.ownBlock=some g) w m/\Below B w m:=by
 have i:Src Tryz.prog 2 184 (.slice (some ⟨j,0,none⟩) 1 1) 1 a w:=by
  have:=(A.dM (S:=eG) (k:=2) (off:=0) 1 1 (by omega) id (aC _) (by simp[maxLen])).src gu
  rw[dY,aL (by omega)] at this
  exact this b
 have z:=h
 obtain⟨s,c,rfl,I,F,K,J⟩:=h.dM.form
 have H:n - n=0:=by omega
 have r:=ah b;clear b
 have y:=ah f;clear f
 go_enter Tryz.func546,Tryz.ntmps546
 go_wp2_with (at_builtin;(refine dQ rfl (.tmp 23) (.tmp 24) 184 184 rfl S B 188 2 32 _ gu nM rfl (.slice s n c) _ _ rfl z (.slice (some ⟨j,0,none⟩) 1 1) _ _ rfl i x hB ?_ ?_ ?_);(focus (unfold maxLen;omega));(focus omega);intro C D E d o l t)
 all_goals
  go_ret
  exact⟨_,rfl,d,o.mono (fun _ _ h=>by cases s<;>exact h),l⟩
theorem JY (g a n i:Nat)(q:List Value)(d:Nat)(b:List Value)(w:World)(S:Nat->Prop)(B:Nat)(h:aV w S B 188 2 (.slice (some ⟨g,0,none⟩) n a) n q)(O:∀u∈q,u.oneCell'=true)(A:Row w d 188 b)(s:d≠g)(o:b.length=2)(x:∀u∈b,u.oneCell'=true)(hn:n<=1000000)(hi:i<n)(c:n+1<=a):
  Calls Tryz.prog 546 #[.slice (some ⟨g,0,none⟩) n a,.int .i64 i,.slice (some ⟨d,0,none⟩) 1 1] w fun e W=>∃X,e= .returned X/\aV W S B 188 2 X (n+1) (q.take (i*2)++b++q.drop (i*2))/\Keep (fun k=>k=g) w W:=by
 obtain⟨f,E,v,H,I,J,hc,y⟩:=h.row
 have qb:a<=9223372036854775807:=by simpa [maxLen] using y
 have z:=h.1.1
 clear h
 have qc:(callFunc 566 #[.slice (some ⟨d,0,none⟩) 1 1,.slice (some ⟨g,(i+1)*2,none⟩) (n - i) (a - (i+1))]).run Tryz.prog w= .ok (.value (.bool false)) w:=by
  rw[Tv Tryz.func566 (by kernel_rfl) (by kernel_rfl) (by kernel_rfl) (e:=Extern.SlicesOverlaps.overlaps #[184,184] #[4]) (by kernel_rfl)]
  rw[Lib.run_overlaps_apart w 184 4 188 gu 2 (fun w=>by kernel_rfl) ⟨d,0,none⟩ ⟨g,(i+1)*2,none⟩ 1 1 (n - i) (a - (i+1)) s 188 188 2 (a*2)
   (by unfold Row at A;simp[World.shape?,A,o]) (by unfold Row at E;simp[World.shape?,E,v]) (by omega) (A.frozen 0) (A.frozen 2)]
  rfl
 have k1:(0:Int)<=(i:Int):=by omega
 have k2:(i:Int)<=(a:Int):=by omega
 have k3:(0:Int)<=(i:Int)+1:=by omega
 have k4:(i:Int)+1<=(n:Int)+1:=by omega
 have k5:((i:Int)+1).toNat=i+1:=by omega
 have k6:((n:Int)+1).toNat=n+1:=by omega
 have k7:(n:Int)+1<=(a:Int):=by omega
 have k8:((i:Int)==(n:Int))=false:=by rw[fV];omega
 have k9:IntKind.i64.wrap ((i:Int)+1)=(i:Int)+1:=aM _ (by omega)
 have pV:¬a=i:=by omega
 have qf:(i:Int)<=(n:Int)+1:=by omega
 have p9:¬a=i+1:=by omega
 have p:bq w.drew eG 2 (.slice (some ⟨g,i*2,none⟩) (n+1 - i) (a - i)) (n+1 - i) ((f.drop (i*2)).take ((n+1 - i)*2)):=Row.dM (w:=w.drew) E _ _ (by omega) id (by omega) (by unfold maxLen;omega)
 have l:((f.drop (i*2)).take ((n+1 - i)*2)).take ((n - i)*2)=q.drop (i*2):=by
  rw[jE,dx (by omega),<-H,nQ];congr 1;omega
 have r:bq w eG 2 (.slice (some ⟨d,0,none⟩) 1 1) 1 b:=by
  have:=A.dM (S:=eG) (k:=2) (off:=0) 1 1 (by omega) id (aC _) (by simp[maxLen])
  rwa [dY,aL (by omega)] at this
 have R:=ah v;clear v
 have Z:=ah H;clear H
 have C:=ah z;clear z
 have j:=ah o;clear o
 have t:=ah l;clear l
 go_enter Tryz.func546,Tryz.ntmps546
 go_wp2
 go_region_held3 (fun _=>True) (trivial) (first|((refine Lb rfl (nA (.tmp 73) (.tmp 76) 184 184 rfl 188 2 32 _ gu nM g ((i+1)*2) 188 (n - i) (n - i) (a - (i+1)) (some ⟨g,(i+1)*2,none⟩) f ?_ E (.slice (some ⟨g,i*2,none⟩) (n+1 - i) (a - i)) ?_ (n+1 - i) (q.drop (i*2)) rfl ?_ ?_ ?_ (fun _=>rfl) ?_ ?_ ?_));(focus (first|rfl|(show Value.slice _ _ _=_;congr 1;omega)));(focus (first|rfl|(show Value.slice _ _ _=_;congr 1<;>omega)));(focus (exact(Nat.min_eq_right (by omega)).symm));(focus (rw[bG,C.out];omega));(focus (rw[<-t.out];exact p.first (n - i) (by omega)));(focus (rw[bG,C.out,R.out];omega));(focus (exact fun u hu=>O u (wO hu)));intro G N D))
 have m:(Builtin.firstCells 2 1 (.slice (some ⟨d,0,none⟩) 1 1)).run Tryz.prog G= .ok b.toArray G:=by
  have h1:bq G eG 2 (.slice (some ⟨d,0,none⟩) 1 1) 1 b:=r.keep fun g' M v _=>by cases M;exact⟨D.block d v s,id⟩
  have:=h1.first (P:=Tryz.prog) 1 (aC _)
  rwa [aL (by have:=j.out;omega)] at this
 obtain⟨Y,T,V⟩:=P7 f q b i n a 2 hi c R.out Z.out j.out
 have M1:=ah Y;clear Y
 have M2:=ah T;clear T
 have M3:=ah V;clear V
 go_wp2_with (first|((refine bS rfl ?_);intro K hK;(refine nA (.tmp 80) (.tmp 81) 184 184 rfl 188 2 32 _ gu nM g (i*2) 188 1 (n+1 - i) (a - i) (some ⟨g,i*2,none⟩) _ rfl N (.slice (some ⟨d,0,none⟩) 1 1) rfl 1 b rfl ?_ ?_ m (fun _=>rfl) ?_ x ?_);(focus (exact(dx (by omega)).symm));(focus (rw[j.out]));(focus (rw[M1.out,j.out];omega));intro w2 F Q;refine hK _ _ ?_))
 go_ret
 refine⟨_,rfl,?_,((Keep.refl (· =g) w).drew.trans D (fun _ _ h=>h)).trans Q (fun _ _ h=>h)⟩
 rw[<-M3.out]
 exact Row.own F (n+1) M2.out I J c y
end Go.Proofs.YtpmbddooibgnaaaGreatDoor
