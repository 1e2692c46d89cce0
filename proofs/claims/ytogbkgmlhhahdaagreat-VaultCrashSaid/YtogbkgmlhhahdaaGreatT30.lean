--
import Derived.Test.YtogbkgmlhhahdaaGreatT28
import Derived.Test.YtogbkgmlhhahdaaGreatT29
import Derived.Deep.SlicePairs
import Derived.Lib.SmallJoins
set_option maxRecDepth 100000
set_option maxHeartbeats 0
set_option linter.all false
namespace Go.Proofs.YtogbkgmlhhahdaaGreat
open Go.RowKit
variable{l:Lg}{a:List (List Pr)}{c:Nat}{D:Nat->Dk->Lg->Pg->Prop}{M S:Nat->Prop}{p:Pg}{W w':World}
def Bj (w:World)(S:Nat->Prop)(v:Value)(ks:List Bool):Prop:=∃ao c,v= .slice ao ks.length c/\ks.length<=c/\c<=maxLen/\∀j (h:j<ks.length),∃b o,ao=some ⟨b,o,none⟩/\w.cell? ⟨b,o+j,none⟩=some (.bool ks[j])/\¬S b
def Bj.nil (w:World)(S:Nat->Prop):Bj w S (.slice none 0 0) []:=⟨none,0,rfl,aD _,aS _,fun j h=>by simp at h⟩
def Bj.of {w a:World}{v:Value}{d:List Bool}(h:Bj w gB v d)(l:Below w.heap.size w a)(s:∀g,g<w.heap.size->¬S g):Bj a S v d:=by
 obtain⟨m,c,rfl,n,k,q⟩:=h;refine⟨m,c,rfl,n,k,fun j r=> ?_⟩;obtain⟨b,o,e,i,_⟩:=q j r;have f:=aF w _ i;exact⟨b,o,e,(l.cell (p:=⟨b,o+j,none⟩) f).trans i,s b f⟩
theorem L9 (d:Nat)(b:Dk)(S:Nat->Prop)(l:Nat)(wv:Value)(v:Value)(f:List Bool)(D:World)(I:o8 D S d b l wv)(hv:Bj D S v f):
  Calls Tryz.prog 28 #[.pointer (some ⟨d,0,none⟩),v] D fun e w'=>e= .returned (.tuple #[])/\o8 w' S d (b.rV f) l (.slice none 0 0)/\Step S S D w':=by
 obtain⟨wo,wc,rfl,g1,g2,g3,g4⟩:=aZ.form I.own.dx;obtain⟨vo,vc,rfl,v1,v2,v3⟩:=id hv;obtain⟨c0,c1,_,_,q,ko⟩:=I.cells;have HV:=ah v3;clear hv v3;have q8:=ah (show ∀g (i:Nat) (u:Value),D.cell? ⟨g,i,none⟩=some u->g<D.heap.size from fun g i u h=>aF D _ h);go_enter Tryz.func28,Tryz.ntmps28;go_wp2_with fail;go_loopw [13] (fun i wr=>∃k:Nat,k<=b.waits.length/\i= .int .i64 k/\o8 wr S d (b.vw f k) l (.slice wo b.waits.length wc)/\Keep (· =l) D wr) (fun i _=>b.waits.length - (intOf i).toNat)
 case atStart=>exact⟨0,aS _,rfl,by rw[b.N8];exact I,Keep.refl _ _⟩
 case round=>
  obtain⟨k,hk,rfl,a,o⟩:=hrel
  by_cases q:k<b.waits.length
  ·obtain⟨g,lg,dZ,M,jO,jF,kr⟩:=a.wait k q
   cases dZ
   obtain⟨x,HX⟩:=nm wr.heap.size;have bC:=a.ok.wt _ (bF q);obtain⟨p,HP⟩:=nm (b.waits[k]);have M:wr.rangeAt g (k*513) (gD p):=(by rw[<-HP.out];exact M);have fo:p.1<b.n:=(by rw[<-HP.out];exact bC.1);have p9:=ah (show p.2.length=512 by rw[<-HP.out];exact bC.2);have m:=ah (jJ p9.out);have O:∀v∈gD p,v.oneCell'=true:=Gw p
   have qo:Row (wr.alloc (.cells (gD (0,zB)).toArray 113)) wr.heap.size 113 (gD (0,zB)):=Row.new wr _ _;have aB:=ah (show (gD (0,zB)).length=513 from jJ ja);have j4:(k:Int)<(b.waits.length:Int):=(by omega);go_wp2_with (first|((refine dV rfl ?_);intro K hK;(refine Sr 113 _ rfl g (k*513) rfl (gD p) _ M Tryz.underlying113 rfl (oJ.trans (congrArg some m.out.symm)) ?_);refine hK _ _ ?_)|((refine dV rfl ?_);intro K hK;(refine jw 113 rfl _ yJ ?_);refine hK _ _ ?_)|((refine dV rfl ?_);intro K hK;(refine wp_store_row 113 _ _ rfl wr.heap.size 0 113 _ (gD p) rfl rfl qo (oJ.trans (congrArg some m.out.symm)) (by rw[aB.out,m.out];omega) O ?_);intro B r Y;refine hK _ _ (Stop.of ?_)))
   refine sN ?_;rw[mg _ _ (aB.out.trans m.out.symm),HX.out] at r;rw[HX.out] at Y;have F:Keep (· =x) wr B:=((Keep.refl (· =x) wr).alloc (.cells (gD (0,zB)).toArray 113)).trans Y (fun _ _ e=>e);have fA:¬S x:=fun e=>absurd (a.sub x e) (by rw[HX.out];exact dB _)
   have G:=a.below F (fun y hy e=>fA (e▸hy));obtain⟨j5,_,_,_,av,_⟩:=G.cells;have jv:B.cell? ⟨x,0,none⟩=some (.int .i64 (p.1:Int)):=r.whole 0 _ rfl;have bA:B.rangeAt x 1 (aI p.2):=fun y u hu=>by
    rw[vE 1];have:=r.whole (y+1) u hu;rwa [dX] at this
   have j3:=r.lt;have H:=ah (show (aI p.2).length=512 by rw[bP,p9.out]);have t:=iA p.2;generalize hC:aI p.2=C at bA H t;have HC:=ah hC;clear hC;rw[HX.out];clear qo r Y O M;obtain⟨X,Q,bN⟩:=G.row;have qb:Row B.drew l 111 X:=Q;have fB:=ah bN;clear bN;have fJ:(p.1:Int)<((b.vw f k).n:Int):=(by show (p.1:Int)<(b.n:Int);omega);have R:Keep (· =l) D B:=o.trans F (fun y hy e=>absurd (ax hy o.size) (by rw[e,HX.out];exact dB _));have n:=ah R;have kg:=ah F;have V:=ah G;have ql:=ah o;clear R F G o
   by_cases J:k<f.length
   ·have di:(k:Int)<(f.length:Int):=by omega
    obtain⟨vb,vq,rfl,z,bB⟩:=HV.out k J;have pM:B.cell? ⟨vb,vq+k,none⟩=some (.bool f[k]):=(n.out.cell (p:=⟨vb,vq+k,none⟩) (q8.out _ _ _ z) (fun e=>bB (by have e:vb=l:=e;rw[e];exact I.sg))).trans z;clear z bB;have kT:vb<B.heap.size:=aF B _ pM;cases N:f[k] with
    |false=>
     rw[N] at pM;have s:f.getD k false=false:=(by rw[eu,bD J,N];rfl);have Z:=ah s;clear s;have HB:=ah N;clear N;go_wp2_with fail;go_roundw
     case rel=>
      have j:=b.MR f k q Z.out;exact⟨k+1,by omega,by go_num,by rw[j];exact V.out,n.out⟩
     case measure=>simp[intOf];omega
    |true=>
     rw[N] at pM;have P:f.getD k false=true:=(by rw[eu,bD J,N];rfl);have aA:=ah P;clear P;have HB:=ah N;clear N;go_wp2_with fail;refine aP (fun W=>W=B.drew) (fun i=> !([9].contains i)) [0,1,2,3,4,5,6,7,8,9] rfl (by kernel_rfl) rfl ?_
     repeat (refine oq ?_ rfl rfl rfl ?_ ?_;rotate_left;(focus intro W hW;(try dsimp only at hW);subst hW;go_simp;first|done|with_reducible rfl);try simp only[Act.put,aj,au,ak])
     refine wh (v:= .agg C.toArray) rfl rfl (fun _ _ _ h=>h) rfl (fun W hW=> ?_) ?_
     ·subst hW
      exact lH 111 (.tmp 34) rfl x 1 rfl C _ bA Tryz.underlying111 rfl (uQ.trans (congrArg some H.out.symm))
     simp only[Act.put,aj,au,ak]
     repeat (refine oq ?_ rfl rfl rfl ?_ ?_;rotate_left;(focus intro W hW;(try dsimp only at hW);subst hW;go_simp;first|done|with_reducible rfl);try simp only[Act.put,aj,au,ak])
     refine jC rfl rfl rfl (by kernel_rfl) ?_;intro K hK;refine wp_store_row 111 (.tmp 36) (.tmp 35) rfl l (p.1*512) 111 X C rfl rfl qb (uQ.trans (congrArg some H.out.symm)) (by rw[H.out,fB.out];show _<=b.n*512;omega) t ?_;intro w3 q9 c;refine hK.out _ _ ?_;refine bR ?_;go_wp2_with fail;rw[<-HC.out] at q9;have qc:=V.out.lay p.1 p.2 fo p9.out X Q q9 (((Keep.refl (· =l) B).drew).trans c (fun _ _ e=>e));have T:Keep (· =l) D w3:=n.out.trans (((Keep.refl (· =l) B).drew).trans c (fun _ _ e=>e)) (fun _ _ e=>e);have j:=b.Qr f k q aA.out;rw[HP.out] at j;rw[<-j] at qc;have dn:=ah qc;have dR:=ah T;clear qc c T j;go_roundw
     case rel=>exact⟨k+1,by omega,by go_num,dn.out,dR.out⟩
     case measure=>simp[intOf];omega
   ·have di:¬((k:Int)<(f.length:Int)):=by omega
    have iO:decide (k<f.length)=false:=(by simpa using J);have s:f.getD k false=false:=(by rw[eu,iE (by omega)];rfl);have Z:=ah s;clear s;go_wp2_with fail;go_roundw
    case rel=>
     have j:=b.MR f k q Z.out;exact⟨k+1,by omega,by go_num,by rw[j];exact V.out,n.out⟩
    case measure=>simp[intOf];omega
  ·obtain rfl:k=b.waits.length:=by omega
   obtain⟨_,_,_,_,av,A⟩:=a.cells;have fK:=A 1 (by omega);have jb:=A 2 (by omega);have jl:=A 3 (by omega);have dx:=a.obj;have af:=ah a;have ql:=ah o;clear a o;obtain⟨_,_,j6,lm,_,_⟩:=af.out.cells;go_wp2_with fail;go_end0;have a:=af.out;obtain⟨w9,E⟩:=nx ((((wr.setCell ⟨d,1,none⟩ (.slice none 0 0)).setCell ⟨d,2,none⟩ (.int .i64 (-1))).setCell ⟨d,3,none⟩ (.bool false)));have c:Keep (· =d) wr w9:=by
    rw[E];exact(((Keep.refl (· =d) wr).setCell (p:=⟨d,1,none⟩) (.inr rfl) _).setCell (p:=⟨d,2,none⟩) (.inr rfl) _).setCell (p:=⟨d,3,none⟩) (.inr rfl) _
   have bH:w9.heap[d]? =some (.cells #[.slice (some ⟨l,0,none⟩) b.n b.n,.slice none 0 0,.int .i64 (-1),.bool false] 82 (0,0)):=by
    rw[E];simp[World.setCell,aQ,dx];rfl
   rw[<-E];clear E;refine⟨rfl,?_,(ql.out.mono (fun _ _ e=>e▸a.sg)).trans c (fun _ _ e=>e▸a.sd),fun _ hg=> .inl hg⟩;rw[<-b.Qs];refine⟨⟨a.ok.lo,a.ok.hi,a.ok.sec,(fun p hp=>by cases hp),?_⟩,fun y hy=>ax (a.sub y hy) c.size,a.sd,a.sg,a.ne,bH,?_,fun i hi y u hu=> ?_,aT.nil _ _ _ _ _,(fun y hy=>by cases hy)⟩
   ·show (-1:Int)<=-1/\(-1:Int)<=9223372036854775807
    omega
   ·obtain⟨C,h1,h2⟩:=a.blk
    exact⟨C,(c.block l (a.sub _ a.sg) a.ne).trans h1,h2⟩
   ·exact(c.cell (p:=⟨l,i*512+y,none⟩) (a.sub _ a.sg) a.ne).trans (a.sec i hi y u hu)
def O0 (d:Nat)(c:Dk)(S:Nat->Prop)(v:Value)(b:List Bool)(w:World)(h:qK w S d c)(j:Bj w S v b):
  Calls Tryz.prog 28 #[.pointer (some ⟨d,0,none⟩),v] w fun e a=>e= .returned (.tuple #[])/\qK a S d (c.rV b)/\Step S S w a:=by
 obtain⟨f,g,h⟩:=h;refine(L9 d c S f g v b w h j).mono ?_;rintro e a ⟨rfl,k,i⟩;exact⟨rfl,⟨f,_,k⟩,i⟩
def Live.VU {b a:cK}{c:Int}{i:List lU}{g:List Int}(h:Live b c i g)(k:∀x,a.hasB x=b.hasB x)(l:∀x,b.hasB x=true->a.mem x=b.mem x)(p:∀x,a.held x=b.held x)(m:a.sz=b.sz)(o:countB a.H.old a.most=countB b.H.old b.most):Live a c i g:=by
 have f:∀x∈g++dO i,a.hasB x=true/\a.mem x=b.mem x:=fun x d=>⟨(k x).trans (h.all x d).1,l x (h.all x d).1⟩
 refine⟨?_,fun e j=>(h.val e j).keep fun x d=>f x (bY _ (kF.2 ⟨e,j,d⟩)),⟨h.own.nd,fun x d=>h.own.ex x ((k x).symm.trans d),?_⟩⟩
 ·rcases h.tree with h|⟨h,n⟩
  ·exact .inl h
  ·exact .inr ⟨h,n.move fun x d=>f x (dh _ d)⟩
 ·rw[m,o,h.own.size]
  unfold nh;congr 3;funext x;rw[p]
def Uf {d:Dk}{f:Nat->Bool}{a:Nat}{t:List lU}{s:List Int}{N:Nat}{C:Nat->List UInt8}(e:xq d l p f a)(A:Live (cK.start d l p f) a t s)(g:p.blocks d=N)(z:∀b,b<N->C b=p.look Im.none d b):VC N C f a t s:=fun c v i j y q m=>by
 have k:∀b,b<N->i.look Im.none c b=p.look Im.none d b:=fun b h=>(m b h).trans (z b h)
 have r:=e.two
 rw[g] at r
 have B:∀x,(cK.start c v i f).hasB x=(cK.start d l p f).hasB x:=fun x=>by
  show (decide (0<=x) && (decide (x.toNat<i.blocks c) && f x.toNat))=(decide (0<=x) && (decide (x.toNat<p.blocks d) && f x.toNat))
  rw[j,g]
 refine⟨⟨q,y,by rw[j];exact r,(k 0 (by omega)).trans e.map,fun b h=>e.hi b (by rw[g,<-j];exact h),e.f0,e.f1,by rw[k 1 (by omega)];exact e.root⟩,A.VU B (fun x D=> ?_) (fun _=>rfl) ?_ ?_⟩
 ·obtain⟨n,rfl,o,_⟩:=cK.kT D
  have o:n<p.blocks d:=o
  exact k _ (by rw[fE,<-g];exact o)
 ·show (cK.start c v i f).sz=(cK.start d l p f).sz
  unfold cK.start
  rw[j,g]
  rfl
 ·show countB f (i.blocks c)=countB f (p.blocks d)
  rw[j,g]
def DV (w0:gV)(d log N dn u:Nat)(kv:List Pr)(w:World):Prop:=
 ∃Sd σ C f root es tb l ims,qK w Sd d σ/\VB w0 w Sd/\σ.dead=false/\σ.fuel= -1/\σ.waits=[]/\σ.n=N+log/\qC σ.get l (gJ ims)/\l.n=log/\l.last=dn+1/\(∀im∈ims,im.Pz N)/\(∀b,b<N->C b=pG ims (fun b=>σ.get (log+b)) b)/\VC N C f root es tb/\je es=kv/\(tb++dO es).length=u
section
variable {w0:gV} {w:World} {v d log N R dn u:Nat} {kv:List Pr}
def WS (d:Nat):Nat->Dk->Lg->Pg->Prop:=fun x σ l _=>x=d/\σ.fuel= -1/\l.synced=l.last
def Ww (d:Nat):Nat->Dk->Lg->Pg->Prop:=fun x σ _ _=>x=d/\σ.fuel= -1
end
def Hs (N:Nat)(L:List (List Pr))(lo:Nat)(C:Nat->Nat->List UInt8):Prop:=∀k,lo<=k+1->k<L.length->∃f root es tb,VC N (C (k+1)) f root es tb/\L[k]? =some (je es)
def HD (d N:Nat)(L:List (List Pr)):Nat->Dk->Lg->Pg->Prop:=fun x σ l p=>x=d/\1<=l.synced/\l.last=L.length/\p.blocks σ=N/\∃C,lM σ l p C/\Hs N L l.synced C
def HD.commit {d N:Nat}{L:List (List Pr)}{kv:List Pr}{x:Nat}{i g:Dk}{y:Lg}{r:Pg}(h:HD d N L x i l p)(G:WA kv i l p g y r):HD d N (L++[kv]) x g y r:=by
 obtain⟨rfl,F,j,s,C,A,I⟩:=h;obtain⟨q,f,a,o,m,c,n,J,H⟩:=G;have t:r.blocks g=N:=by rw[<-s];unfold Pg.blocks;rw[c.skip,c.n]
 refine⟨rfl,aK F c.tQ,by rw[c.last,j];simp,t,_,c.zW C A,fun k z v=> ?_⟩;have v:k<L.length+1:=by simpa using v
 by_cases D:k=L.length
 ·subst D
  refine⟨f,a,o,m,?_,by simp[n]⟩;have e:uR C (l.last+1) (p.look q i) (L.length+1)=p.look q i:=by unfold uR;rw[j,if_pos rfl]
  rw[e];exact Uf J H t fun b B=>(c.look b (by rw[s];exact B)).symm
 ·obtain⟨f,a,o,m,E,K⟩:=I k (aK c.tQ z) (by omega)
  refine⟨f,a,o,m,?_,by rw[eF (by omega)];exact K⟩;have e:uR C (l.last+1) (p.look q i) (k+1)=C (k+1):=by unfold uR;rw[j,if_neg (by omega)]
  rw[e];exact E
def HD.sync {d N:Nat}{L:List (List Pr)}{x:Nat}{e b:Dk}{f:Lg}(h:HD d N L x e l p)(a:ul e l p b f):HD d N L x b f p:=by
 obtain⟨rfl,q,i,m,C,c,j⟩:=h;have r:l.synced<=l.last:=by obtain⟨_,o,_⟩:=c;exact o.lok.sy
 refine⟨rfl,by rw[a.tQ];omega,a.last.trans i,by rw[<-m];unfold Pg.blocks;rw[a.n],C,a.zW C c,fun k g n=>j k (by rw[a.tQ] at g;omega) n⟩
def HD.new {d n log:Nat}{a:Dk}(h:Mt (Dk.new n) log a l p)(g:log<=n):HD d (n - log) [[]] d a l p:=by
 obtain⟨C,c⟩:=h.rc;have e:p.blocks a=n - log:=by unfold Pg.blocks;rw[h.n,h.skip];rfl
 refine⟨rfl,by rw[h.synced];exact aD _,by rw[h.last];rfl,e,C,c,fun k f b=> ?_⟩;have b:k<1:=b;obtain rfl:k=0:=by omega
 have:=U5 h c;rw[h.last,e] at this;exact⟨_,_,_,_,this,rfl⟩
def lM.fuel {b:Dk}{C:Nat->Nat->List UInt8}(h:lM b l p C)(n:Int):lM (b.fuels n) l p C:=by
 obtain⟨a,h,c⟩:=h;exact⟨a,⟨h.lok,⟨h.pok.frm,h.pok.skip,h.pok.ring,h.pok.fit,h.pok.fresh⟩,h.list,h.len,h.tQ,h.bat,h.on,h.all,h.fresh,h.cap,h.wt⟩,c⟩
def HD.fuel {d N:Nat}{L:List (List Pr)}{x:Nat}{a:Dk}(h:HD d N L x a l p)(n:Int):HD d N L x (a.fuels n) l p:=by
 obtain⟨rfl,f,c,g,C,b,e⟩:=h;exact⟨rfl,f,c,g,C,b.fuel n,e⟩
def VC.fuel {c:Dk}{f:Nat->Bool}{a:Nat}{g:List lU}{e:List Int}(d:xq c l p f a)(i:Live (cK.start c l p f) a g e)(n:Int):xq (c.fuels n) l p f a/\Live (cK.start (c.fuels n) l p f) a g e:=
 Uf (N:=p.blocks c) (C:=fun b=>p.look Im.none c b) d i rfl (fun _ _=>rfl) (c.fuels n) l p rfl d.sd d.pd (fun _ _=>rfl)
def rf.fuel {b:gV}{v N R dn u d:Nat}{kv:List Pr}{w:World}(h:rf b v N R dn u kv w)(n:Int)(Z:n<=9223372036854775807)(O:∀x c l p,b.D x c l p->x=d/\b.D x (c.fuels n) l p):
  Calls Tryz.prog 15 #[.pointer (some ⟨d,0,none⟩),.int .i64 n] w fun e r=>e= .returned (.tuple #[])/\rf b v N R dn u kv r:=by
 obtain⟨S,G,A,c,l,p,f,o,V,T,m,hB,F,M,X,P,Q,h6⟩:=h;obtain⟨rfl,t⟩:=O _ _ _ _ F.2;obtain⟨s,z,E,lg,H,a,I⟩:=m.pgr;refine(Un A c s n w a.log.dk Z).mono ?_;rintro e r ⟨rfl,D,Y⟩;have k:=Y.1;have B:∀g,z g->¬s g:=fun g i e=>a.log.dis g e i
 have y:yh r s z E G lg A H (c.fuels n) l p (.pointer none):=
  ⟨⟨D,a.log.lg.keep k B,a.log.dis,a.log.fit⟩,⟨a.ok.frm,a.ok.skip,a.ok.ring,a.ok.fit,a.ok.fresh⟩,fun g i=>ax (a.sub g i) k.size,a.dd,a.dl,a.BS,a.sfb,(k.block _ (a.sub _ a.BS) (a.dd _ a.BS)).trans a.obj,a.fr.block (k.block _ (a.sub _ a.sfb) (a.dd _ a.sfb))⟩
 have j:Step S S w r:=⟨k.mono fun g _ e=>(I g).2 (.inl e),fun g i=> .inl i⟩;obtain⟨J,W⟩:=VC.fuel m.base m.live n;have q:=m.vi;exact⟨rfl,S,G,A,c.fuels n,l,p,f,o,V,T,m.step ⟨s,z,E,lg,H,y,I⟩ j ⟨q.nd,q.ld,q.pd,q.wt,fun e=>(q.rc e).imp fun C K=>K.fuel n⟩ J W,hB.step j,⟨F.1,t⟩,M,X,P,Q,h6⟩
def lZ (d v r N lg i:Nat)(F F0:Nat->Prop)(t rt:Nat)(room log err:Int)(ch:Bool)(w:World):Prop:=
 ∃(u:Nat) (cms:List (List Pr)) (kv0 kv:List Pr),Kv kv i/\Kv kv0 i/\cms.length<=i/\(∀m∈cms,Kv m i)/\
  ((err=0/\∃P C c:Nat,JT (HD d N (cms++[kv0])) F F0 v r t rt N (lg - 1) u P cms kv0 kv ch w/\room=48+4*((costs kv0+C:Nat):Int)/\costs kv<=costs kv0+C/\C<=99*i/\log=32+64*(c:Int)+4*(C:Int)/\c<=i/\(kv.length<=299->P<=2+u+65*c+C))\/
   (err=12/\JE (HD d N (cms++[kv0])) F F0 v r t rt N (lg - 1) u cms kv0 kv w))
def Fr.below {F F0:Nat->Prop}{w:World}(b:∀g,F0 g->F g)(a:Below w.heap.size w w'):Fr F F0 w (jm F w w') F0 w':=⟨fun g e=> .inl (b g e),fun _ e=> .inl e,fun _ e=> .inl e,Keep.of_below a _⟩
section
variable {d v r N lg i:Nat} {F F0:Nat->Prop} {t rt:Nat} {room log err:Int} {ch:Bool} {w:World}
def lZ.below (h:lZ d v r N lg i F F0 t rt room log err ch w)(m:∀g,F0 g->F g)(k:Below w.heap.size w w'):lZ d v r N lg i (jm F w w') F0 t rt room log err ch w':=by
 obtain⟨u,a,kv0,kv,l,j,n,b,(⟨e,P,C,c,f,o⟩|⟨e,f⟩)⟩:=h
 ·exact⟨u,a,kv0,kv,l,j,n,b,.inl ⟨e,P,C,c,(f.below m k).1,o⟩⟩
 ·exact⟨u,a,kv0,kv,l,j,n,b,.inr ⟨e,(f.below m k).1⟩⟩
def lZ.own (h:lZ d v r N lg i F F0 t rt room log err ch w){l:World}(k:Keep M w l)(j:∀g,M g->F g/\¬F0 g):lZ d v r N lg i (jm F w l) F0 t rt room log err ch l:=by
 obtain⟨u,b,kv0,kv,p,o,q,f,(⟨m,P,C,c,a,s⟩|⟨m,a⟩)⟩:=h
 ·exact⟨u,b,kv0,kv,p,o,q,f,.inl ⟨m,P,C,c,⟨a.1.next k (fun g e=>(j g e).1),a.2.prog (k.mono (fun g _ e n=>(j g e).2 n))⟩,s⟩⟩
 ·exact⟨u,b,kv0,kv,p,o,q,f,.inr ⟨m,a.1.next k (fun g e=>(j g e).1),a.2.prog (k.mono (fun g _ e n=>(j g e).2 n))⟩⟩
def lZ.more (h:lZ d v r N lg i F F0 t rt room log err ch w):lZ d v r N lg (i+1) F F0 t rt room log err ch w:=by
 obtain⟨u,a,kv0,kv,l,k,x,b,(⟨f,P,C,c,g,p,o,s,q,n,j⟩|⟨f,g⟩)⟩:=h
 ·exact⟨u,a,kv0,kv,l.le (by omega),k.le (by omega),by omega,(fun m e=>(b m e).le (by omega)),.inl ⟨f,P,C,c,g,p,o,by omega,q,by omega,j⟩⟩
 ·exact⟨u,a,kv0,kv,l.le (by omega),k.le (by omega),by omega,(fun m e=>(b m e).le (by omega)),.inr ⟨f,g⟩⟩
def lZ.fs (h:lZ d v r N lg i F F0 t rt room log err ch w):∀g,F g->g<w.heap.size:=by
 obtain⟨u,e,kv0,kv,l,k,m,b,(⟨f,P,C,c,a,j⟩|⟨f,a⟩)⟩:=h
 ·exact a.1.fs
 ·exact a.1.fs
def lZ.change (h:lZ d v r N lg i F F0 t rt room log err ch w)(H:∀g,F0 g->F g)(hi:i<=299)(k n:Int)(f a:ByteArray)(R:0<=k/\k<=255)(S:a.size<=maxLen):
  Calls Tryz.prog 70 #[.pointer (some ⟨v,0,none⟩),qw t rt room log err ch,.agg #[.int .u8 k,.string f,.string a,.int .i64 n]] w fun e E=>
   ∃p x B O z j,e= .returned (.tuple #[qw t rt p x B O,.bool true])/\Fr F F0 w z j E/\lZ d v r N lg (i+1) z j t rt p x B O E:=by
 have Y:=h.more;obtain⟨u,l,kv0,kv,A,I,h3,s,(⟨rfl,P,C,c,G,h6,h7,h8,h9,p9,M⟩|⟨rfl,G⟩)⟩:=h
 ·have Z:=RF I
  have pM:u<=costs kv0:=by have:=G.1.WH;unfold costs;omega
  by_cases b:tu f (if k%8=0 then strOf (nC a n) else⟨#[]⟩)
  ·by_cases q:k%8=0
   ·rw[if_pos q] at b
    have T:=Ka b.2;have y:=A.ins b.1.2 b.2;have W:=O1 kv f (strOf (nC a n));have V:=A.len;refine(Jf F F0 H v r t rt N (lg - 1) u P kv0 kv l ch room log k n f a w G R S b q A.rise (by omega) (by omega) (by omega) (by unfold costs at*;omega)).mono ?_;generalize strOf (nC a n)=K at b T y W ⊢;rintro e E ⟨z,j,o,(⟨Q,rfl,D,hQ⟩|⟨rfl,D⟩)⟩
    ·refine⟨_,_,_,_,z,j,rfl,o,u,l,kv0,_,y,I.le (by omega),by omega,(fun m e=>(s m e).le (by omega)),.inl ⟨rfl,Q,C+(2+gu K),c+1,D,by omega,by omega,by omega,by omega,by omega,fun hl=> ?_⟩⟩
     have X:kv.length<=(kC kv f K).length:=(by unfold kC;split<;>simp;have:=nK kv f;omega);have:=M (by omega);have:=hQ hl;omega
    ·refine⟨_,_,12,ch,z,j,rfl,o,u,l,kv0,kv,A.le (by omega),I.le (by omega),by omega,(fun m e=>(s m e).le (by omega)),.inr ⟨rfl,D⟩⟩
   ·rw[if_neg q] at b
    have V:=A.len;have qb:=O3 kv f;refine(Jg F F0 H v r t rt N (lg - 1) u P kv0 kv l ch room log k n f a w G R S b.1 q A.rise (by omega) (by omega) (by unfold costs at*;omega)).mono ?_;rintro e E ⟨z,j,o,(⟨rfl,D⟩|⟨rfl,D⟩)⟩
    ·refine⟨_,_,_,_,z,j,rfl,o,u,l,kv0,_,(A.del f).le (by omega),I.le (by omega),by omega,(fun m e=>(s m e).le (by omega)),.inl ⟨rfl,P+65,C,c+1,D,h6,by omega,by omega,by omega,by omega,fun _=> ?_⟩⟩
     have:=M (by omega);omega
    ·refine⟨_,_,12,ch,z,j,rfl,o,u,l,kv0,kv,A.le (by omega),I.le (by omega),by omega,(fun m e=>(s m e).le (by omega)),.inr ⟨rfl,D⟩⟩
  ·refine(Jh F F0 v r t rt N (lg - 1) u P kv0 kv l ch room log k n f a w G R S b).mono ?_
   rintro e E ⟨rfl,J⟩;exact⟨_,_,_,_,_,_,rfl,Fr.below H J,Y.below H J⟩
 ·refine(GD F F0 v r t rt N (lg - 1) u kv0 kv l ch room log k n f a w G R S).mono ?_
  rintro e E ⟨rfl,J⟩;exact⟨_,_,_,_,_,_,rfl,Fr.below H J,Y.below H J⟩
def lZ.asked (h:lZ d v r N lg i F F0 t rt room log err ch w)(s:i<=299)(k n:Int)(b a:ByteArray)(j:0<=k/\k<=255):
  Calls Tryz.prog 71 #[qw t rt room log err ch,.agg #[.int .u8 k,.string b,.string a,.int .i64 n]] w fun e m=>e= .returned (.bool true)/\Below w.heap.size w m:=by
 obtain⟨u,f,kv0,kv,l,p,q,o,(⟨rfl,P,C,c,g,x⟩|⟨rfl,g⟩)⟩:=h
 ·have:=l.len
  exact Jk F F0 v r t rt N (lg - 1) u P kv0 kv f ch room log k n b a w g l.rise (by omega) j
 ·exact Jj F F0 v r t rt N (lg - 1) u kv0 kv f ch room log k n b a w g j
def qP (d v r N lg i:Nat)(F F0:Nat->Prop)(w:World):Prop:=∃cms kv,Kv kv i/\cms.length<=i/\(∀m∈cms,Kv m i)/\JV (HD d N (cms++[kv])) F F0 v r N (lg - 1) cms kv w
def qP.begin (h:qP d v r N lg i F F0 w)(s:∀g,F0 g->F g)(A:i<=300):
  Calls Tryz.prog 69 #[.pointer (some ⟨v,0,none⟩),.pointer (some ⟨r,0,none⟩)] w fun e j=>∃t rt room log err ch c a,e= .returned (.tuple #[qw t rt room log err ch,.bool true])/\Fr F F0 w c a j/\lZ d v r N lg i c a t rt room log err ch j:=by
 obtain⟨b,kv,f,m,l,⟨u,y⟩,x⟩:=h;have:=f.len;refine(U9 F F0 s v r N (lg - 1) b.length u kv b w y x (by omega) (by omega) f.val).mono ?_;rintro e j ⟨t,rt,c,a,rfl,p,z,q,o,k,n⟩;refine⟨t,rt,_,_,_,_,c,a,rfl,⟨p,z,q,n⟩,u,b,kv,kv,f,f,m,l,.inl ⟨rfl,2+u,0,0,⟨o,k⟩,?_,by omega,by omega,by omega,by omega,fun _=>by omega⟩⟩;simp
def qP.fuel (h:qP d v r N lg i F F0 w)(j:∀g,F0 g->F g)(n:Int)(q:n<=9223372036854775807):
  Calls Tryz.prog 15 #[.pointer (some ⟨d,0,none⟩),.int .i64 n] w fun e b=>e= .returned (.tuple #[])/\Fr F F0 w F F0 b/\qP d v r N lg i F F0 b:=by
 obtain⟨c,kv,m,k,f,⟨u,t⟩,s⟩:=h;refine(t.fuel n q (fun x y l p e=>⟨e.1,e.fuel n⟩)).mono ?_;rintro e b ⟨rfl,a⟩;exact⟨rfl,⟨j,fun _ e=>e,fun _ e=> .inl e,a.jl.mono (fun g _ e o=>absurd o e)⟩,c,kv,m,k,f,⟨u,a.re⟩,s.prog (a.jl.out j)⟩
end
def LE (b:gV)(d log N lo:Nat)(L:List (List Pr))(w:World):Prop:=∃Sd σ C,qK w Sd d σ/\VB b w Sd/\σ.n=N+log/\(Al σ fun s=>∃k,lo<=k/\k<L.length/\sZ s log N (k+1) (C (k+1)))/\Hs N L (lo+1) C
def PD (b:gV)(d log N dn:Nat)(fu:Int)(kv:List Pr)(w:World):Prop:=
 ∃Sd σ C f root es tb l ims,qK w Sd d σ/\VB b w Sd/\σ.dead=false/\σ.fuel=fu/\σ.waits=[]/\σ.n=N+log/\qC σ.get l (gJ ims)/\l.n=log/\l.last=dn+1/\(∀im∈ims,im.Pz N)/\(∀b,b<N->C b=pG ims (fun b=>σ.get (log+b)) b)/\VC N C f root es tb/\je es=kv
section
variable {b:gV} {w:World} {v t d log N R lo dn u P:Nat} {L:List (List Pr)} {kv kv0:List Pr} {ch:Bool} {fu:Int}
def LE.jl (h:LE b d log N lo L w):Keep (fun g=>¬b.F g) b.w w:=by obtain⟨_,_,_,_,h,_⟩:=h;exact h.jl
def PD.jl (h:PD b d log N dn fu kv w):Keep (fun g=>¬b.F g) b.w w:=by obtain⟨_,_,_,_,_,_,_,_,_,_,h,_⟩:=h;exact h.jl
def LE.re (h:LE b d log N lo L w):LE ⟨b.F,w,D⟩ d log N lo L w:=by
 obtain⟨e,c,f,a,h,j⟩:=h;exact⟨e,c,f,a,⟨rfl,rfl,rfl,aD _,fun _ _=>rfl,fun g i=>ax (h.fs g i) h.size,h.lo⟩,j⟩
def PD.re (h:PD b d log N dn fu kv w):PD ⟨b.F,w,D⟩ d log N dn fu kv w:=by
 obtain⟨i,j,m,e,o,p,k,f,l,c,h,a⟩:=h;exact⟨i,j,m,e,o,p,k,f,l,c,⟨rfl,rfl,rfl,aD _,fun _ _=>rfl,fun g n=>ax (h.fs g n) h.size,h.lo⟩,a⟩
def LE.next (h:LE b d log N lo L w){c:World}(i:Keep M w c)(l:∀g,M g->b.F g):LE ⟨jm b.F w c,c,D⟩ d log N lo L c:=by
 obtain⟨j,k,m,f,h,o⟩:=h;have n:=f.sub;exact⟨j,k,m,f.keep i (fun g a e=>h.lo g a (l g e)),⟨rfl,rfl,rfl,aD _,fun _ _=>rfl,fun g a=>a.elim (fun e=>ax (h.fs g e) (aK h.size i.size)) (fun e=>e.2),fun g a e=>e.elim (h.lo g a) (fun e=>absurd (n g a) (bg.2 e.1))⟩,o⟩
def LE.rV (h:LE b d log N lo L w)(x:Value)(g:List Bool)(G:∀a:Nat->Prop,VB b w a->Bj w a x g):
  Calls Tryz.prog 28 #[.pointer (some ⟨d,0,none⟩),x] w fun e m=>e= .returned (.tuple #[])/\∃k kv,lo<=k/\L[k]? =some kv/\PD b d log N k (-1) kv m:=by
 obtain⟨a,n,C,t,o,z,r,E⟩:=h;refine(O0 d n a x g w t (G a o)).mono ?_;rintro e m ⟨rfl,j,F⟩;obtain⟨k,p,I,l,i,s,H,q,v,A⟩:=r _ ⟨g,rfl⟩;obtain⟨f,c,D,B,y,J⟩:=E k (by omega) I;exact⟨rfl,k,_,p,J,a,n.rV g,_,f,c,D,B,l,i,j,o.step F,rfl,rfl,rfl,z,s,H,q,v,A,y,rfl⟩
def PD.fuel (h:PD b d log N dn fu kv w)(n:Int)(v:n<=9223372036854775807):
  Calls Tryz.prog 15 #[.pointer (some ⟨d,0,none⟩),.int .i64 n] w fun e i=>e= .returned (.tuple #[])/\PD b d log N dn (max n (-1)) kv i:=by
 obtain⟨j,k,C,f,a,s,p,l,c,o,y,r,A,z,q,x,m⟩:=h;refine(Un d k j n w o v).mono ?_;rintro e i ⟨rfl,g,t⟩;exact⟨rfl,j,k.fuels n,C,f,a,s,p,l,c,g,y.step t,r,rfl,z,q,x,m⟩
def PD.open_ (h:PD b d log N dn fu kv w)(X:6<=log)(h2:8<=N)(hd:dn<=100000000)(hl:kv.length<=4090)(S:L[dn]? =some kv):
  Calls Tryz.prog 10 #[.pointer (some ⟨d,0,none⟩),.int .i64 log] w fun e r=>(∃v u,e= .returned (.tuple #[.pointer (some ⟨v,0,none⟩),.int .i64 0])/\rf (b.to (HD d N (L.take (dn+1)))) v N (log - 1) dn u kv r/\LE b d log N dn (L.take (dn+1)) r)\/
   (fu≠-1/\e= .returned (.tuple #[.pointer none,.int .i64 10])/\Calls Tryz.prog 34 #[.pointer (some ⟨d,0,none⟩)] r (fun e B=>e= .returned (.bool true)/\B=r)/\LE b d log N dn (L.take (dn+1)) r):=by
 obtain⟨Sd,σ,C,f,i,J,O,l,pM,hK,Q,g1,g2,g3,g4,g5,g6,x,g8,g9,p,n⟩:=h;have G:σ.n - log=N:=by omega
 have qo:dn<L.length:=by
  rcases gH dn L.length with h|h
  ·exact h
  ·rw[iE h] at S;cases S
 have c:(L.take (dn+1)).length=dn+1:=by rw[aH];omega
 have z:(L.take (dn+1))[dn]? =some (je J):=by rw[fD,if_pos (by omega),S,n]
 have q:∀lo,dn+1<=lo->Hs N (L.take (dn+1)) lo (fun _=>C):=fun lo y k k1 K=>by
  rw[c] at K;obtain rfl:k=dn:=by omega
  exact⟨f,i,J,O,p,z⟩
 refine(VP d σ Sd log l pM C f i J O w hK g1 g3 X (by omega) g5 g6 (by rw[G];exact g8) (by rw[G];exact g9) (by rw[G];exact p) (by omega) (by rw[<-iR,n];exact hl)).mono ?_;rintro e r (⟨v,pg,a,M,P,S',rfl,hv,W,y,hp,o,I,Z,H,b4,b5,b6,b7,b8,b9,R,m⟩|⟨a,E,rfl,D,o,I,Z,H,b4⟩)
 ·have j:P.blocks a=N:=by unfold Pg.blocks;rw[b5,b9,G]
  have A:=p a M P j I H fun b hb=>m.look b (by rw[j];exact hb)
  have F:=Q.step o;have t:M.last=dn+1:=b7.trans x;refine .inl ⟨v,_,rfl,⟨S',pg,d,a,M,P,f,i,J,O,⟨hv,W,hp,⟨I,Z,H,by rw[b6];exact aS _,fun _=>⟨_,m⟩⟩,A.1,A.2⟩,F.to,⟨Q.new y,⟨rfl,by rw[b8,x];omega,t.trans c.symm,j,_,m,q _ (by rw[b8,x];exact aD _)⟩⟩,j,R,t,n,rfl⟩,?_⟩;obtain⟨V,p9,ql,qc,qb,Y,T⟩:=hp;refine⟨V,a,fun _=>C,Y.log.dk,F.keep (Keep.refl (fun _=>False) _) (fun _ _ e=>e) (fun g hg=> .inl ((T g).2 (.inl hg))),by rw[b5];exact g4,fun s o=> ?_,q _ (aD _)⟩;obtain⟨k,k1,K,hr⟩:=m.dead s o;rw[b8,x] at k1;rw[t] at K;obtain rfl:k=dn+1:=by omega
  rw[b9,j] at hr;exact⟨dn,aD _,by rw[c];omega,hr⟩
 ·refine .inr ⟨by rw[<-g2];exact Z,rfl,(RA d a E r D).mono (fun e B ⟨X,h2⟩=>⟨by rw[X,I],h2⟩),E,a,fun _=>C,D,Q.step o,by rw[H];exact g4,fun s o=>⟨dn,aD _,by rw[c];omega,?_⟩,q _ (aD _)⟩
  have:=b4 s o;rw[G,x] at this;exact this
def MZ {i:Nat}{c:Dk}{q:Value}(F:w.heap[v]? =some (.cells #[.pointer (some ⟨i,0,none⟩)] 88 (0,0)))(h:ji w S i d c l p q)(H:VB b w S)(y:HD d N L d c l p)(r:p.ring=R)(t:l.last<=100000001):
  ∃lo:Nat,Calls Tryz.prog 72 #[.pointer (some ⟨v,0,none⟩)] w (fun e m=>e= .returned (.int .i64 lo)/\m=w)/\LE b d (R+1) N lo L w:=by
 obtain⟨_,A,M,o,C,j,B⟩:=y;have O:l.synced<=l.last:=by obtain⟨_,r,_⟩:=j;exact r.lok.sy
 refine⟨l.synced - 1,(FU v i d c l p q S w F h (by omega)).mono (fun e m ⟨z,I⟩=>⟨by rw[z,show (l.synced:Int) - 1=((l.synced - 1:Nat):Int) by omega],I⟩),?_⟩;obtain⟨D,P,K,lg,Q,a,G⟩:=h;have f:p.skip=R+1:=by have:=a.ok.ring;have:=a.ok.skip;omega
 refine⟨D,c,C,a.log.dk,H.keep (Keep.refl (fun _=>False) _) (fun _ _ e=>e) (fun g x=> .inl ((G g).2 (.inl x))),?_,fun s E=> ?_,by rw[SF A];exact B⟩
 ·have:=a.ok.fit;have:=a.ok.skip;unfold Pg.blocks at o;omega
 ·obtain⟨k,J,T,n⟩:=j.dead s E
  rw[f,o] at n;exact⟨k - 1,by omega,by omega,by rw[SF (by omega)];exact n⟩
def mE.life {F:Nat->Prop}(h:mE ⟨F,w,HD d N L⟩ v t N R dn u kv0 kv ch P w)(x:dn<=100000000):
  ∃lo:Nat,Calls Tryz.prog 72 #[.pointer (some ⟨v,0,none⟩)] w (fun e k=>e= .returned (.int .i64 lo)/\k=w)/\LE ⟨F,w,HD d N L⟩ d (R+1) N lo L w:=by
 obtain⟨S,D,s,H,j,E,C,b,p,m,f,r,⟨_,a⟩,z,G,A,n,I,B⟩:=h;have c:s.d=d:=a.1;obtain⟨y,T,o,q⟩:=f.tx.inv;have i:=o.pg;rw[c] at i a;exact MZ f.obj i (r.keep (Keep.refl (fun _=>False) _) (fun _ _ e=>e) (fun g l=> .inl ((q g).2 (.inl l)))) a n (by omega)
def xZ.life {F:Nat->Prop}(h:xZ ⟨F,w,HD d N L⟩ v t N R dn u kv0 w)(y:dn<=100000000):
  ∃lo:Nat,Calls Tryz.prog 72 #[.pointer (some ⟨v,0,none⟩)] w (fun e i=>e= .returned (.int .i64 lo)/\i=w)/\LE ⟨F,w,HD d N L⟩ d (R+1) N lo L w:=by
 obtain⟨S,G,x,I,ch,b,o,k,⟨m,J,⟨r,B,p⟩,C⟩,s,⟨_,a⟩,A,H,D,l,K,E⟩:=h;have c:x.d=d:=a.1;obtain⟨z,T,n,q⟩:=p.inv;have f:=n.pg;rw[c] at f a;exact MZ m f (s.keep (Keep.refl (fun _=>False) _) (fun _ _ e=>e) (fun g j=> .inl ((q g).2 (.inl j)))) a l (by omega)
def qD.life {t:gV}(h:qD t v N R dn w)(P:t.D=HD d N L)(hd:dn<=100000000):
  ∃lo:Nat,(∀W,Below w.heap.size w W->Calls Tryz.prog 72 #[.pointer (some ⟨v,0,none⟩)] W (fun e j=>e= .returned (.int .i64 lo)/\j=W)/\Calls Tryz.prog 34 #[.pointer (some ⟨d,0,none⟩)] W (fun e j=>e= .returned (.bool true)/\j=W))/\LE t d (R+1) N lo L w:=by
 obtain⟨H,σ,l,p,b,c,p',F,h2,h3,h4,f,S,T,op,E,q2,m,V,q5⟩:=h;rw[P] at F;obtain⟨rfl,g1,g2,D,C,B,X⟩:=F;have Q:=f.tQ;have Y:=f.last;have a:p.Ok σ l:=by obtain⟨_,hR,_⟩:=B;exact hR.pok
 have o:p.skip=R+1:=by have:=a.ring;have:=a.skip;omega
 have Z:c.synced<=c.last:=by
  obtain⟨n,G,A,lg,J,i,z⟩:=m;exact i.log.lg.ok.sy
 have q:=(ai.1 E).1;refine⟨c.synced - 1,fun W r=>⟨(FU v T H b c p' op S W ((r.block v q).trans E) (m.below r) (by omega)).mono (fun e j ⟨x,y⟩=>⟨by rw[x,show (c.synced:Int) - 1=((c.synced - 1:Nat):Int) by omega],y⟩),?_⟩,?_⟩
 ·obtain⟨n,G,A,lg,J,i,z⟩:=m
  exact(RA H b n W (i.log.dk.below r)).mono (fun e pM ⟨x,y⟩=>⟨by rw[x,f.dead],y⟩)
 ·obtain⟨n,G,A,lg,J,i,z⟩:=m
  refine⟨n,b,C,i.log.dk,V.keep (Keep.refl (fun _=>False) _) (fun _ _ e=>e) (fun g O=> .inl ((z g).2 (.inl O))),?_,fun s hs=> ?_,fun k M K=>X k (by omega) K⟩
  ·have:=a.fit;have:=a.skip;have:=f.n;unfold Pg.blocks at D;omega
  ·obtain⟨k,M,K,I⟩:=f.zW C B s hs
   rw[o,D] at I;exact⟨k - 1,by omega,by omega,by rw[SF (by omega)];exact I⟩
end
def qD.next {b:gV}{w a:World}{v N R dn:Nat}(h:qD b v N R dn w)(c:Keep M w a)(i:∀g,M g->b.F g):qD (b.next w a) v N R dn a:=by
 obtain⟨d,A,l,p,f,C,D,x,r,z,t,q,S,y,B,j,E,k,n,m⟩:=h;have o:=(ai.1 j).1;exact⟨d,A,l,p,f,C,D,x,r,z,t,q,S,y,B,(c.block v o (fun e=>m (i v e))).trans j,E,k.keep c (fun g s e=>n.lo g s (i g e)),n.next c k.sub,gV.no m o⟩
def qD.jl {b:gV}{w:World}{v N R dn:Nat}(h:qD b v N R dn w):Keep (fun g=>¬b.F g) b.w w:=by
 obtain⟨d,r,l,p,c,t,x,k,f,q,i,e,S,o,s,j,y,m,a,n⟩:=h;exact a.jl
def qD.re {b:gV}{w:World}{v N R dn:Nat}(h:qD b v N R dn w):qD ⟨b.F,w,b.D⟩ v N R dn w:=by
 obtain⟨d,q,l,p,a,s,t,i,e,o,f,c,S,m,r,g,x,j,n,k⟩:=h;exact⟨d,q,l,p,a,s,t,i,e,o,f,c,S,m,r,g,x,j,n.re,k⟩
def Sm (d v r rt N lg i:Nat)(F F0:Nat->Prop)(ch:Bool)(n:Nat)(w:World):Prop:=∃cms kv0 kv u,Kv kv i/\Kv kv0 i/\(∀m∈cms,Kv m i)/\cms.length+1<=i/\wX F0 w r rt (cms++[kv0]) kv/\
 ((ch=false/\n=cms.length/\rf ⟨F,w,HD d N (cms++[kv0])⟩ v N (lg - 1) n u kv0 w)\/(ch=true/\n=cms.length+1/\rf ⟨F,w,HD d N (cms++[kv0]++[kv])⟩ v N (lg - 1) n u kv w))
def Sk (d v r rt N lg i:Nat)(F F0:Nat->Prop)(w:World):Prop:=∃cms kv0 kv,Kv kv0 i/\(∀m∈cms,Kv m i)/\cms.length<=i/\wX F0 w r rt (cms++[kv0]) kv/\qD ⟨F,w,HD d N (cms++[kv0])⟩ v N (lg - 1) cms.length w
def tq (d r N lg i:Nat)(F F0:Nat->Prop)(lo:Nat)(w:World):Prop:=∃L L2,LE ⟨F,w,HD d N L⟩ d lg N lo L w/\FM F0 w r (L++L2)/\(∀m∈L,Kv m i)/\L.length<=i+1/\L2.length<=1
section
variable {d v r N lg i:Nat} {F F0:Nat->Prop} {t rt:Nat} {room log err:Int} {ch:Bool} {w:World}
def wT {kv0:List Pr}(h:∀m∈a,Kv m i)(c:Kv kv0 i):∀m∈a++[kv0],Kv m i:=fun m b=>by
 rcases bU.1 b with e|e
 ·exact h m e
 ·rw[bQ.1 e];exact c
def lZ.commit (h:lZ d v r N lg i F F0 t rt room log err ch w)(p:∀g,F0 g->F g)(Q:i<=299)(z:lg<=605):
  ∃dn:Nat,Calls Tryz.prog 35 #[.pointer (some ⟨r,0,none⟩)] w (fun e j=>j=w/\e= .returned (.int .i64 dn))/\
   Calls Tryz.prog 25 #[.pointer (some ⟨t,0,none⟩)] w fun e j=>∃(n:Nat) (c:Int),e= .returned (.tuple #[.int .i64 n,.int .i64 c])/\Fr F F0 w F F0 j/\
    ((err=12/\n=0/\c=12/\qP d v r N lg (i+1) F F0 j)\/(err=0/\n=0/\c=13/\(lg:Int)<log/\qP d v r N lg (i+1) F F0 j)\/
     (err=0/\c=0/\dn<=n/\Sm d v r rt N lg (i+1) F F0 ch n j)\/(err=0/\n=0/\c=10/\ch=true/\Sk d v r rt N lg (i+1) F F0 j)):=by
 obtain⟨u,a,kv0,kv,x,q,O,A,h⟩:=h;have o:∀m∈a,Kv m (i+1):=fun m e=>(A m e).le (by omega)
 have l:∀{j:World},Keep (fun g=>¬F g) w j->Fr F F0 w F F0 j:=fun D=>⟨p,fun _ e=>e,fun _ e=> .inl e,D.mono fun g _ e H=>absurd H e⟩
 refine⟨a.length,?_,?_⟩
 ·have I:wX F0 w r rt (a++[kv0]) kv:=by
   rcases h with ⟨_,P,C,c,k,_⟩|⟨_,k⟩
   ·exact k.2
   ·exact k.2
  refine(I.done (by simp;omega)).mono ?_;rintro e j ⟨rfl,rfl⟩;exact⟨rfl,by simp⟩
 rcases h with ⟨rfl,P,C,c,k,S,J,M,T,E,y⟩|⟨rfl,k⟩
 ·have B:=x.len
  refine(k.1.Nn (by omega) (HD d N (a++[kv0]++[kv])) (fun _ _ _ _ _ _ _ e _ _ c=>e.commit c)).mono ?_;rintro e j (⟨rfl,rfl,rfl,f⟩|⟨rfl,K,rfl,f⟩|⟨rfl,rfl,G,f⟩|⟨rfl,rfl,s⟩)
  ·exact⟨a.length,0,rfl,l f.jl,.inr (.inr (.inl ⟨rfl,rfl,aD _,a,_,_,u,x.le (by omega),q.le (by omega),o,by omega,k.2.prog (f.jl.out p),.inl ⟨rfl,rfl,f.re⟩⟩))⟩
  ·refine⟨0,13,rfl,l f.jl,.inr (.inl ⟨rfl,rfl,rfl,?_,a,kv0,q.le (by omega),by omega,o,⟨u,f.re⟩,k.2.forget.prog (f.jl.out p)⟩)⟩
   apply gm;intro R;have:=Q7 (c:=c) (b:=C) z (y (by omega)) (by omega);omega
  ·exact⟨a.length+1,0,rfl,l f.jl,.inr (.inr (.inl ⟨rfl,rfl,by omega,a,kv0,kv,G,x.le (by omega),q.le (by omega),o,by omega,k.2.prog (f.jl.out p),.inr ⟨rfl,rfl,f.re⟩⟩))⟩
  ·exact⟨0,10,rfl,l s.jl,.inr (.inr (.inr ⟨rfl,rfl,rfl,rfl,a,kv0,kv,q.le (by omega),o,by omega,k.2.prog (s.jl.out p),s.re⟩))⟩
 ·refine k.1.commit.mono ?_
  rintro e j ⟨rfl,f⟩;exact⟨0,12,rfl,l f.jl,.inl ⟨rfl,rfl,rfl,a,kv0,q.le (by omega),by omega,o,⟨u,f.re⟩,k.2.forget.prog (f.jl.out p)⟩⟩
def Sm.Gm {n:Nat}(h:Sm d v r rt N lg i F F0 ch n w)(j:∀g,F0 g->F g)(y:i<=1000):
  Calls Tryz.prog 26 #[.pointer (some ⟨r,0,none⟩),.pointer (some ⟨rt,0,none⟩),.bool ch] w fun e b=>e= .returned (.int .i64 n)/\∃q c,Fr F F0 w q c b/\qP d v r N lg i q c b:=by
 obtain⟨a,kv0,kv,u,t,m,s,x,k,(⟨rfl,rfl,l⟩|⟨rfl,rfl,l⟩)⟩:=h
 ·refine(k.O5 (by simp;omega)).mono ?_
  rintro e b ⟨rfl,rfl⟩;exact⟨by simp,F,F0,⟨j,fun _ e=>e,fun _ e=> .inl e,Keep.refl _ _⟩,a,kv0,m,by omega,s,⟨u,l⟩,k.forget⟩
 ·refine(k.D7 (by simp;omega)).mono ?_
  rintro e b ⟨rfl,f,M,p,o⟩;refine⟨by simp,jm F w b,jm F0 w b,⟨fun g e=>e.imp (j g) id,fun _ e=> .inl e,fun g e=>e.imp id (fun e=>e.1),p.mono fun g _ e _=>o g e⟩,a++[kv0],kv,t,by simp;omega,wT s m,⟨u,?_⟩,f⟩;have e:(a++[kv0]).length=a.length+1:=by simp
  rw[e];exact l.next p (fun g e=>j g (o g e))
def Sk.Gm (h:Sk d v r rt N lg i F F0 w)(q:∀g,F0 g->F g)(C:i<=1000)(z:1<=lg):
  Calls Tryz.prog 26 #[.pointer (some ⟨r,0,none⟩),.pointer (some ⟨rt,0,none⟩),.bool true] w fun e a=>(∃n:Int,e= .returned (.int .i64 n))/\∃o c,Fr F F0 w o c a/\
   ∃lo:Nat,(∀W,Below a.heap.size a W->Calls Tryz.prog 72 #[.pointer (some ⟨v,0,none⟩)] W (fun e b=>e= .returned (.int .i64 lo)/\b=W)/\Calls Tryz.prog 34 #[.pointer (some ⟨d,0,none⟩)] W (fun e b=>e= .returned (.bool true)/\b=W))/\tq d r N lg i o c lo a:=by
 obtain⟨f,kv0,kv,y,s,B,A,t⟩:=h;refine(A.D7 (by simp;omega)).mono ?_;rintro e a ⟨rfl,k,M,m,l⟩;have j:=t.next m (fun g e=>q g (l g e));obtain⟨lo,x,p⟩:=qD.life (L:=f++[kv0]) (d:=d) j rfl (by omega);rw[show lg - 1+1=lg by omega] at p;exact⟨⟨_,rfl⟩,jm F w a,jm F0 w a,⟨fun g e=>e.imp (q g) id,fun _ e=> .inl e,fun g e=>e.imp id (fun e=>e.1),m.mono fun g _ e _=>l g e⟩,lo,x,f++[kv0],[kv],p.re,k,wT s y,by simp;omega,by simp⟩
def lZ.life (h:lZ d v r N lg i F F0 t rt room log err ch w)(p:i<=1000)(m:1<=lg):
  ∃lo:Nat,Calls Tryz.prog 72 #[.pointer (some ⟨v,0,none⟩)] w (fun e k=>e= .returned (.int .i64 lo)/\k=w)/\tq d r N lg i F F0 lo w:=by
 obtain⟨u,b,kv0,kv,n,l,o,f,h⟩:=h;rcases h with ⟨rfl,P,C,c,a,_⟩|⟨rfl,a⟩
 ·obtain⟨lo,j,g⟩:=a.1.life (by omega)
  rw[show lg - 1+1=lg by omega] at g;exact⟨lo,j,b++[kv0],[],g,by rw[dM];exact a.2.forget,wT f l,by simp;omega,by simp⟩
 ·obtain⟨lo,j,g⟩:=a.1.life (by omega)
  rw[show lg - 1+1=lg by omega] at g;exact⟨lo,j,b++[kv0],[],g,by rw[dM];exact a.2.forget,wT f l,by simp;omega,by simp⟩
def lZ.sync (h:lZ d v r N lg i F F0 t rt room log err ch w)(y:∀g,F0 g->F g)(V:i<=299)(K:1<=lg):
  Calls Tryz.prog 27 #[.pointer (some ⟨v,0,none⟩)] w fun e a=>Fr F F0 w F F0 a/\
   ((e= .returned (.int .i64 0)/\lZ d v r N lg (i+1) F F0 t rt room log err ch a/\∃dn:Nat,Calls Tryz.prog 72 #[.pointer (some ⟨v,0,none⟩)] a (fun e b=>b=a/\e= .returned (.int .i64 dn))/\Calls Tryz.prog 12 #[.pointer (some ⟨v,0,none⟩)] a (fun e b=>b=a/\e= .returned (.int .i64 dn)))\/
    (e= .returned (.int .i64 10)/\∃lo:Nat,Calls Tryz.prog 72 #[.pointer (some ⟨v,0,none⟩)] a (fun e b=>e= .returned (.int .i64 lo)/\b=a)/\Calls Tryz.prog 34 #[.pointer (some ⟨d,0,none⟩)] a (fun e b=>e= .returned (.bool true)/\b=a)/\tq d r N lg (i+1) F F0 lo a)):=by
 obtain⟨u,f,kv0,kv,G,z,T,B,h⟩:=h;have x:∀m∈f,Kv m (i+1):=fun m e=>(B m e).le (by omega)
 have j:∀{a:World},Keep (fun g=>¬F g) w a->Fr F F0 w F F0 a:=fun n=>⟨y,fun _ e=>e,fun _ e=> .inl e,n.mono fun g _ e M=>absurd M e⟩
 have l:∀a,FM F0 a r (f++[kv0])->qD ⟨F,a,HD d N (f++[kv0])⟩ v N (lg - 1) f.length a->∃lo:Nat,Calls Tryz.prog 72 #[.pointer (some ⟨v,0,none⟩)] a (fun e b=>e= .returned (.int .i64 lo)/\b=a)/\Calls Tryz.prog 34 #[.pointer (some ⟨d,0,none⟩)] a (fun e b=>e= .returned (.bool true)/\b=a)/\tq d r N lg (i+1) F F0 lo a:=fun a R k=>by
  obtain⟨lo,E,H⟩:=qD.life (L:=f++[kv0]) (d:=d) k rfl (by omega);rw[show lg - 1+1=lg by omega] at H;exact⟨lo,(E a (aR _ _)).1,(E a (aR _ _)).2,f++[kv0],[],H,by rw[dM];exact R,wT x (z.le (by omega)),by simp;omega,by simp⟩
 rcases h with ⟨rfl,P,C,c,p,O,J,S,Q,I,A⟩|⟨rfl,p⟩
 ·refine(p.1.Qq (by omega) (HD d N (f++[kv0])) (fun _ _ _ _ _ _ e s=>e.sync s)).mono ?_
  rintro e a (⟨rfl,o,D⟩|⟨rfl,k⟩)
  ·have n:Keep (fun g=>¬F g) w a:=o.jl
   exact⟨j n,.inl ⟨rfl,⟨u,f,kv0,kv,G.le (by omega),z.le (by omega),by omega,x,.inl ⟨rfl,P,C,c,⟨o.re,p.2.prog (n.out y)⟩,O,J,by omega,Q,by omega,A⟩⟩,f.length,D,(o.done (by omega)).mono (fun e b q=>⟨q.2,q.1⟩)⟩⟩
  ·exact⟨j k.jl,.inr ⟨rfl,l a (p.2.forget.prog (k.jl.out y)) k.re⟩⟩
 ·refine(p.1.Qq (by omega) (HD d N (f++[kv0])) (fun _ _ _ _ _ _ e s=>e.sync s)).mono ?_
  rintro e a (⟨rfl,o,D⟩|⟨rfl,k⟩)
  ·have n:Keep (fun g=>¬F g) w a:=o.jl
   exact⟨j n,.inl ⟨rfl,⟨u,f,kv0,kv,G.le (by omega),z.le (by omega),by omega,x,.inr ⟨rfl,o.re,p.2.prog (n.out y)⟩⟩,f.length,D,(o.done (by omega)).mono (fun e b q=>⟨q.2,q.1⟩)⟩⟩
  ·exact⟨j k.jl,.inr ⟨rfl,l a (p.2.forget.prog (k.jl.out y)) k.re⟩⟩
end
def Vo (F:Nat->Prop)(w:World)(rt:Nat)(kr:List Pr):Prop:=F rt/\∃v,w.heap[rt]? =some (.cells #[v] 54 (0,0))/\jo w (sH F w) v kr
structure RB (w0:World)(F F0:Nat->Prop)(w:World):Prop where
 sub:∀g,F0 g->F g
 old:∀g,g<w0.heap.size->F g/\¬F0 g
 nU:Below w0.heap.size w0 w
def RB.keep {w0 w:World}{F F0:Nat->Prop}(h:RB w0 F F0 w)(a:Keep (fun g=>¬F g) w w'):RB w0 F F0 w':=
 ⟨h.sub,h.old,h.nU.trans (a.jF h.nU.size fun g b e=>e (h.old g b).1)⟩
def RB.grow {w0 w a:World}{F F0:Nat->Prop}(h:RB w0 F F0 w)(c:Keep M w a)(d:∀g,M g->F0 g):RB w0 (jm F w a) (jm F0 w a) a:=
 ⟨fun g e=>e.imp (h.sub g) id,fun g b=>⟨.inl (h.old g b).1,fun e=>e.elim (h.old g b).2 (fun e=>by have:=h.nU.size;omega)⟩,h.nU.trans (c.jF h.nU.size fun g b e=>(h.old g b).2 (d g e))⟩
def RB.below {w0 w:World}{F F0:Nat->Prop}(h:RB w0 F F0 w)(b:Below w.heap.size w w'):RB w0 (jm F w w') F0 w':=
 ⟨fun g e=> .inl (h.sub g e),fun g a=>⟨.inl (h.old g a).1,(h.old g a).2⟩,h.nU.trans (b.mono h.nU.size)⟩
def WZ (w0:World)(d v r t rt N R P:Nat)(kv kr:List Pr)(ch:Bool)(w:World):Prop:=
 ∃F F0,RB w0 F F0 w/\mE ⟨F,w,Ww d⟩ v t N R 0 0 [] kv ch P w/\wX F0 w r rt [[]] kr
def WX (w0:World)(d v r rt N R n:Nat)(kv kr:List Pr)(w:World):Prop:=
 ∃F F0 u,RB w0 F F0 w/\rf ⟨F,w,Ww d⟩ v N R n u kv w/\wX F0 w r rt [[]] kr
def WW (w0:World)(d v rt N R n:Nat)(kv kr:List Pr)(w:World):Prop:=
 ∃F u,RB w0 F (fun _=>False) w/\rf ⟨F,w,Ww d⟩ v N R n u kv w/\Vo F w rt kr
def W9 (w0:World)(d rt N R n:Nat)(kv kr:List Pr)(w:World):Prop:=
 ∃F u,RB w0 F (fun _=>False) w/\DV ⟨F,w,Ww d⟩ d (R+1) N n u kv w/\Vo F w rt kr
section
variable {w0 w:World} {d v r t rt N R P n:Nat} {kv kr:List Pr} {ch:Bool}
def WY (w0:World)(d v t rt N R n:Nat)(kv kr:List Pr)(w:World):Prop:=
 ∃F u P,RB w0 F (fun _=>False) w/\mE ⟨F,w,Ww d⟩ v t N R n u kv kv false P w/\Vo F w rt kr
def Om (a:List Pr):bX a ⟨#[]⟩=0:=by
 cases a with
 |nil=>rfl
 |cons p r=>simp[bX,zQ]
def KY (kv:List Pr)(m:Int)(h:(kv.length:Int)<=m):vR kv ⟨#[]⟩ m=kv:=by
 unfold vR;rw[Om,dQ,aJ (by omega)]
end
def RB.fr {w0 w f:World}{F F0 d a:Nat->Prop}(h:RB w0 F F0 w)(c:Fr F F0 w d a f):RB w0 d a f:=
 ⟨c.sub,fun g b=>⟨c.grow g (h.old g b).1,fun e=>(c.lo g e).elim (h.old g b).2 (fun e=>by have:=h.nU.size;omega)⟩,h.nU.trans (c.keep.jF h.nU.size (fun g b e=>(h.old g b).2 (e (h.old g b).1)))⟩
structure Bk (F F0:Nat->Prop)(w:World)(b:Nat)(o:Obj):Prop where
 fs:F b
 ns:¬F0 b
 ob:w.heap[b]? =some o
def Bk.fr {F F0 d a:Nat->Prop}{w f:World}{b:Nat}{o:Obj}(h:Bk F F0 w b o)(c:Fr F F0 w d a f):Bk d a f b o:=by
 have g:=(ai.1 h.ob).1;exact⟨c.grow _ h.fs,fun e=>(c.lo _ e).elim h.ns (fun e=>absurd g (bg.2 e)),(c.keep.block b g (fun e=>h.ns (e h.fs))).trans h.ob⟩
def Bk.own {F F0:Nat->Prop}{w a:World}{b:Nat}{o:Obj}(h:Bk F F0 w b o)(c:Keep M w a)(e:¬M b):Bk (jm F w a) F0 a b o:=by
 have d:=(ai.1 h.ob).1;exact⟨.inl h.fs,h.ns,(c.block b d e).trans h.ob⟩
def RB.own {w0 w a:World}{F F0:Nat->Prop}(h:RB w0 F F0 w)(c:Keep M w a)(d:∀g,M g->w0.heap.size<=g):RB w0 (jm F w a) F0 a:=
 ⟨fun g e=> .inl (h.sub g e),fun g b=>⟨.inl (h.old g b).1,(h.old g b).2⟩,h.nU.trans (c.jF h.nU.size (fun g b e=>by have:=d g e;omega))⟩
def Bk.new {F F0:Nat->Prop}{w a:World}{o:Obj}(c:∀g,F0 g->g<w.heap.size)(d:Below w.heap.size w a)(b:a.heap[w.heap.size]? =some o):Bk (jm F w a) F0 a w.heap.size o:=
 ⟨.inr ⟨aD _,(ai.1 b).1⟩,fun e=>dB _ (c _ e),b⟩
def Bq (t rt:Nat)(room log err:Int)(ch:Bool):Obj:= .cells #[.pointer (some ⟨t,0,none⟩),.pointer (some ⟨rt,0,none⟩),.int .i64 room,.int .i64 log,.int .i64 err,.bool ch] 130 (0,0)
def Q9 (sv kv av:Value)(fu:Int):Obj:= .cells #[sv,.int .u16 fu,kv,av] 72 (0,0)
def Kj (w0:World)(d v r N lg sx bx i:Nat)(bo:Obj)(w:World):Prop:=∃F F0 t rt room log err ch,RB w0 F F0 w/\lZ d v r N lg i F F0 t rt room log err ch w/\Bk F F0 w sx (Bq t rt room log err ch)/\Bk F F0 w bx bo/\w0.heap.size<=sx/\sx≠bx
def Ow {e:Nat}{a b c d:Value}(h:W.heap[e]? =some (.cells #[a,b,c,d] 37 (0,0))):
  W.cell? ⟨e,0,none⟩=some a/\W.cell? ⟨e,1,none⟩=some b/\W.cell? ⟨e,2,none⟩=some c/\W.cell? ⟨e,3,none⟩=some d/\e<W.heap.size:=by
 refine⟨?_,?_,?_,?_,(ai.1 h).1⟩<;>simp[World.cell?,h]
def Lu {a:Nat}{b kv c:Value}{fu:Int}(h:W.heap[a]? =some (Q9 b kv c fu)):
  W.cell? ⟨a,0,none⟩=some b/\W.cell? ⟨a,1,none⟩=some (.int .u16 fu)/\a<W.heap.size:=by
 unfold Q9 at h;refine⟨?_,?_,(ai.1 h).1⟩<;>simp[World.cell?,h]
def iD {a:Nat}{b:Array Value}(h:W.heap[a]? =some (.cells b 130 (0,0)))(i:Nat):W.frozen? ⟨a,i,none⟩=false:=by simp[World.frozen?,h]
def nG {a:Nat}{t rt:Nat}{room log err:Int}{ch:Bool}(h:W.heap[a]? =some (Bq t rt room log err ch)):
  W.cell? ⟨a,0,none⟩=some (.pointer (some ⟨t,0,none⟩))/\W.cell? ⟨a,1,none⟩=some (.pointer (some ⟨rt,0,none⟩))/\W.cell? ⟨a,2,none⟩=some (.int .i64 room)/\W.cell? ⟨a,3,none⟩=some (.int .i64 log)/\W.cell? ⟨a,4,none⟩=some (.int .i64 err)/\W.cell? ⟨a,5,none⟩=some (.bool ch)/\a<W.heap.size:=by
 unfold Bq at h;refine⟨?_,?_,?_,?_,?_,?_,(ai.1 h).1⟩<;>simp[World.cell?,h]
def xM {w0 w:World}{d v r N lg a j i t rt:Nat}{F F0:Nat->Prop}{room log err:Int}{ch:Bool}{l:Obj}{o q s x z y:Value}(h:RB w0 F F0 w)(m:lZ d v r N lg i F F0 t rt room log err ch w)(c:Bk F F0 w a (.cells #[o,q,s,x,z,y] 130 (0,0)))(n:Bk F F0 w j l)(f:w0.heap.size<=a)(b:a≠j):
  Kj w0 d v r N lg a j i l ((((((w.setCell ⟨a,0,none⟩ (.pointer (some ⟨t,0,none⟩))).setCell ⟨a,1,none⟩ (.pointer (some ⟨rt,0,none⟩))).setCell ⟨a,2,none⟩ (.int .i64 room)).setCell ⟨a,3,none⟩ (.int .i64 log)).setCell ⟨a,4,none⟩ (.int .i64 err)).setCell ⟨a,5,none⟩ (.bool ch)):=by
 have k:Keep (· =a) w ((((((w.setCell ⟨a,0,none⟩ (.pointer (some ⟨t,0,none⟩))).setCell ⟨a,1,none⟩ (.pointer (some ⟨rt,0,none⟩))).setCell ⟨a,2,none⟩ (.int .i64 room)).setCell ⟨a,3,none⟩ (.int .i64 log)).setCell ⟨a,4,none⟩ (.int .i64 err)).setCell ⟨a,5,none⟩ (.bool ch)):=
  ((((((Keep.refl (· =a) w).setCell (p:=⟨a,0,none⟩) (.inr rfl) _).setCell (p:=⟨a,1,none⟩) (.inr rfl) _).setCell (p:=⟨a,2,none⟩) (.inr rfl) _).setCell (p:=⟨a,3,none⟩) (.inr rfl) _).setCell (p:=⟨a,4,none⟩) (.inr rfl) _).setCell (p:=⟨a,5,none⟩) (.inr rfl) _
 refine⟨_,F0,t,rt,room,log,err,ch,h.own k (fun g e=>by have e:g=a:=e;rw[e];exact f),m.own k (fun g e=>by have e:g=a:=e;rw[e];exact⟨c.fs,c.ns⟩),⟨.inl c.fs,c.ns,?_⟩,n.own k (fun e=>b e.symm),f,b⟩;unfold Bq;simp[World.setCell,aQ,c.ob]
def yE (w0:World)(d r N lg i lo:Nat)(w:World):Prop:=∃F F0,RB w0 F F0 w/\tq d r N lg i F F0 lo w
def qP.fs {d v r N lg i:Nat}{F F0:Nat->Prop}{w:World}(h:qP d v r N lg i F F0 w):∀g,F g->g<w.heap.size:=by
 obtain⟨a,kv,e,c,f,⟨u,b⟩,j⟩:=h;exact b.fs
def qP.below {d v r N lg i:Nat}{F F0:Nat->Prop}{w:World}(h:qP d v r N lg i F F0 w)(b:Below w.heap.size w w'):qP d v r N lg i (jm F w w') F0 w':=by
 obtain⟨a,kv,f,c,g,⟨u,k⟩,j⟩:=h;exact⟨a,kv,f,c,g,⟨u,k.next (M:=fun _=>False) (Keep.of_below b _) (fun _ e=>e.elim)⟩,j.prog (Keep.of_below b _)⟩
def yE.below {w0 w:World}{d r N lg i lo:Nat}(h:yE w0 d r N lg i lo w)(a:Below w.heap.size w w'):yE w0 d r N lg i lo w':=by
 obtain⟨F,F0,f,L,L2,b,g,c⟩:=h;exact⟨_,F0,f.below a,L,L2,b.next (M:=fun _=>False) (Keep.of_below a _) (fun _ e=>e.elim),g.prog (Keep.of_below a _),c⟩
abbrev Vy:=Int×ByteArray×ByteArray×Int
def Kl (w:World)(v:Value)(os:List Vy):Prop:=∃ao c,v= .slice ao os.length c/\os.length<=c/\c<=maxLen/\
 ∀i (_:i<os.length),∃b o,ao=some ⟨b,o,none⟩/\w.cell? ⟨b,o+i*4,none⟩=some (.int .u8 os[i].1)/\w.cell? ⟨b,o+i*4+1,none⟩=some (.string os[i].2.1)/\w.cell? ⟨b,o+i*4+2,none⟩=some (.string os[i].2.2.1)/\w.cell? ⟨b,o+i*4+3,none⟩=some (.int .i64 os[i].2.2.2)
def Kl.at {w:World}{v:Value}{a:List Vy}{d:Option Addr}{n:Nat}(h:Kl w v a)(f:v= .slice d n c)(i:Nat)(j:i<a.length):
  ∃b o,d=some ⟨b,o,none⟩/\w.cell? ⟨b,o+i*4,none⟩=some (.int .u8 a[i].1)/\w.cell? ⟨b,o+i*4+1,none⟩=some (.string a[i].2.1)/\w.cell? ⟨b,o+i*4+2,none⟩=some (.string a[i].2.2.1)/\w.cell? ⟨b,o+i*4+3,none⟩=some (.int .i64 a[i].2.2.2):=by
 obtain⟨g,k,rfl,_,_,e⟩:=h;cases f
 exact e i j
def tq.more {d r N lg i j lo:Nat}{F F0:Nat->Prop}{w:World}(h:tq d r N lg i F F0 lo w)(g:i<=j):tq d r N lg j F F0 lo w:=by
 obtain⟨L,L2,b,a,f,k,c⟩:=h;exact⟨L,L2,b,a,fun m e=>(f m e).le g,by omega,c⟩
theorem OD (w0:World)(d v r N lg i:Nat)(F F0:Nat->Prop)(sa ka aa:Option Addr)(sc kn kc an ac:Nat)(fu:Int)(I:List Vy)(w:World)(hB:RB w0 F F0 w)(hC:qP d v r N lg i F F0 w)(jO:Kl w0 (.slice sa I.length sc) I)(vk:∀o∈I,0<=o.1/\o.1<=255)(tY:∀o∈I,o.2.2.1.size<=maxLen)(y5:0<=fu/\fu<=65535)(hi:i<=200)(ko:1<=lg/\lg<=605):
  Calls Tryz.prog 33 #[.pointer (some ⟨d,0,none⟩),.pointer (some ⟨v,0,none⟩),.pointer (some ⟨r,0,none⟩),.agg #[.slice sa I.length sc,.int .u16 fu,.slice ka kn kc,.slice aa an ac],.int .i64 lg] w fun e w'=>∃lo:Nat,e= .returned (.tuple #[.int .i64 lo,.bool true])/\yE w0 d r N lg (i+41) lo w':=by
 obtain⟨bo,nS⟩:=nm (Q9 (.slice sa I.length sc) (.slice ka kn kc) (.slice aa an ac) fu);have fA:=aN w (.cells #[.slice sa I.length sc,.int .u16 fu,.slice ka kn kc,.slice aa an ac] 72);have kg:(w.alloc (.cells #[.slice sa I.length sc,.int .u16 fu,.slice ka kn kc,.slice aa an ac] 72)).heap[w.heap.size]? =some bo:=by
  rw[<-nS.out];exact aV w _
 obtain⟨w1,j4⟩:=nm (w.alloc (.cells #[.slice sa I.length sc,.int .u16 fu,.slice ka kn kc,.slice aa an ac] 72));rw[j4.out] at fA kg;have fB:Bk (jm F w w1) F0 w1 w.heap.size bo:=Bk.new (fun g e=>hC.fs g (hB.sub g e)) fA kg;have mo:=hB.below fA;have tQ:=hC.below fA;obtain⟨bx,oo⟩:=nm w.heap.size;rw[oo.out] at fB;have o6:=ah (show ∀W:World,W.heap[bx]? =some bo->W.cell? ⟨bx,0,none⟩=some (.slice sa I.length sc)/\W.cell? ⟨bx,1,none⟩=some (.int .u16 fu)/\bx<W.heap.size from fun W h=>Lu (by rw[nS.out];exact h));have rF:=ah jO;have hq:IntKind.i64.wrap fu=fu:=aG _ (by omega);obtain⟨l0,l1,l2⟩:=o6.out w1 fB.ob;have H1:=ah (aC mo (aC tQ fB));have dR:=ko.1;have r9:=ko.2;clear hB hC mo tQ fB fA kg jO ko;go_enter Tryz.func33,Tryz.ntmps33;go_upto_region 1 with (fail)
 rw[j4.out,oo.out];go_upto_if 22 with (fail)
 go_cut [] from 20 to 154 (fun wx=>∃F F0,RB w0 F F0 wx/\qP d v r N lg i F F0 wx/\Bk F F0 wx bx bo)
 case first=>
  by_cases hf:fu<60000
  ·have HF:=ah (H1.out.2.1.fuel H1.out.1.sub fu (by omega))
   go_wp2_with (first|(go_at_call 15;go_must ((refine HF.out.mono ?_);rintro e w2 ⟨rfl,c,jb⟩)))
   go_meet;exact⟨_,_,H1.out.1.fr c,jb,H1.out.2.2.fr c⟩
  ·go_wp2_with fail
   go_meet;exact⟨_,_,H1.out.1,H1.out.2.1,H1.out.2.2⟩
 case rest=>
 obtain⟨F2,y7,kr,jb,nJ⟩:=hcut;obtain⟨w2,rfl⟩:=nx wc;have m:=jb.begin kr.sub (by omega);unfold qw at m;have C:=ah m;have H2:=ah (aC kr nJ);clear m kr nJ jb l0 l1 l2 hq H1;go_wp2_with (first|(go_at_call 69;go_must ((refine C.out.mono ?_);rintro e w3 ⟨t,rt,room,log,err,ch,F3,vO,rfl,dx,l5⟩;refine sO ?_)))
 refine sN ?_;have aB:=H2.out.1.fr dx;have l6:=H2.out.2.fr dx;have fo:=aN w3 (.cells #[.pointer (some ⟨t,0,none⟩),.pointer (some ⟨rt,0,none⟩),.int .i64 room,.int .i64 log,.int .i64 err,.bool ch] 130);have rV:=aV w3 (.cells #[.pointer (some ⟨t,0,none⟩),.pointer (some ⟨rt,0,none⟩),.int .i64 room,.int .i64 log,.int .i64 err,.bool ch] 130);have rP:=(ai.1 l6.ob).1;have p9:Kj w0 d v r N lg w3.heap.size bx i bo (w3.alloc (.cells #[.pointer (some ⟨t,0,none⟩),.pointer (some ⟨rt,0,none⟩),.int .i64 room,.int .i64 log,.int .i64 err,.bool ch] 130)):=
  ⟨_,vO,t,rt,room,log,err,ch,aB.below fo,l5.below aB.sub fo,Bk.new (fun g e=>l5.fs g (aB.sub g e)) fo rV,l6.own (Keep.of_below fo (fun _=>False)) id,aB.nU.size,fun e=>by omega⟩
 have mK:=ah p9;clear aB l6 fo rV rP dx l5 p9 C H2;go_upto_region 4 with (fail)
 obtain⟨sx,yc⟩:=nm w3.heap.size;have p9:=mK.out;rw[yc.out] at p9 ⊢;generalize w3.alloc (.cells #[.pointer (some ⟨t,0,none⟩),.pointer (some ⟨rt,0,none⟩),.int .i64 room,.int .i64 log,.int .i64 err,.bool ch] 130)=w4 at p9 ⊢;clear mK;go_wp2_with fail;go_loopw [13,14,15,16,17,18,19] (fun b ii _ _ _ _ _ wr=>∃k:Nat,k<=I.length/\k<=40/\b= .bool true/\ii= .int .i64 k/\Kj w0 d v r N lg sx bx (i+k) bo wr) (fun _ ii _ _ _ _ _ _=>I.length - (intOf ii).toNat)
 case atStart=>exact⟨0,aS _,aS _,rfl,rfl,p9⟩
 case round=>
  clear p9;obtain⟨k,hk,yx,rfl,rfl,F5,yK,t,rt,room,log,err,ch,y,qo,q8,qb,j3,jF⟩:=hrel;obtain⟨l0,l1,l2⟩:=o6.out wr qb.ob
  by_cases xP:k<I.length/\k<40
  ·obtain⟨iO,xE⟩:=xP
   have y1:(k:Int)<(I.length:Int):=(by omega);have y2:(k:Int)<40:=(by omega);have y3:IntKind.i64.wrap ((k:Int)+1)=((k+1:Nat):Int):=(by rw[aG _ (by omega)];omega);obtain⟨b,o,rfl,d0,d1,d2,d3⟩:=rF.out.at rfl k iO;have qc:b<w0.heap.size:=aF w0 _ d0;have d0:=(y.nU.cell (p:=⟨b,o+k*4,none⟩) qc).trans d0;have d1:=(y.nU.cell (p:=⟨b,o+k*4+1,none⟩) qc).trans d1;have d2:=(y.nU.cell (p:=⟨b,o+k*4+2,none⟩) qc).trans d2;have d3:=(y.nU.cell (p:=⟨b,o+k*4+3,none⟩) qc).trans d3;have qc:=ax qc y.nU.size;have lm:=vk _ (bF iO);have bN:=tY _ (bF iO);generalize I[k].1=Y at d0 lm;generalize I[k].2.1=dZ at d1;generalize I[k].2.2.1=bA at d2 bN;generalize I[k].2.2.2=n at d3;have M:=aN wr (.cells #[.int .u8 Y,.string dZ,.string bA,.int .i64 n] 37);have pM:=aV wr (.cells #[.int .u8 Y,.string dZ,.string bA,.int .i64 n] 37);have HB:=ah (aC y (aC qo (aC q8 (aC qb (aC M pM)))));have A:=ah (aC j3 jF);clear y qo q8 qb M pM j3 jF;go_upto_region 8 with (fail)
   obtain⟨ob,oH⟩:=nm wr.heap.size;obtain⟨y,qo,q8,qb,M,pM⟩:=HB.out;clear HB d0 d1 d2 d3 qc l0 l1 l2;rw[oH.out] at pM;obtain⟨w8,vv⟩:=nm (wr.alloc (.cells #[.int .u8 Y,.string dZ,.string bA,.int .i64 n] 37));rw[vv.out] at pM M ⊢;rw[oH.out];have rX:=y.below M;have mr:=qo.below y.sub M;have j5:=q8.own (Keep.of_below M (fun _=>False)) id;have rG:=qb.own (Keep.of_below M (fun _=>False)) id;obtain⟨R,T,Z,V,P,X,Q⟩:=nG j5.ob;obtain⟨c0,c1,c2,c3,cl⟩:=Ow pM;have f:=ah (aC rX (aC mr (aC j5 rG)));clear y qo q8 qb M pM rX mr j5 rG
   by_cases jl:Y%8=0\/Y%8=1
   ·have lQ:=f.out.2.1.change f.out.1.sub (by omega) Y n dZ bA lm bN
    unfold qw at lQ;have nH:=ah lQ;clear lQ bN;rcases jl with hm|hm
    all_goals
      go_wp2_with (first|(go_at_call 70;go_must ((refine nH.out.mono ?_);rintro e w9 ⟨ql,af,aA,lJ,F',lC,rfl,c,E⟩;refine sO ?_)))
      refine sN ?_;have D:=f.out.1.fr c;have a:=f.out.2.2.1.fr c;unfold Bq at a;have B:=f.out.2.2.2.fr c;clear R T Z V P X Q c0 c1 c2 c3 cl;obtain⟨R,T,Z,V,P,X,Q⟩:=jT a.ob;have f0:=iD a.ob 0;have f1:=iD a.ob 1;have f2:=iD a.ob 2;have f3:=iD a.ob 3;have f4:=iD a.ob 4;have f5:=iD a.ob 5;have x:=ah (xM D E a B A.out.1 A.out.2);clear c E D a B nH;go_wp2_with fail;go_roundw
      case rel=>exact⟨k+1,by omega,by omega,rfl,by go_num,x.out⟩
      case measure=>simp[intOf];omega
   have bN:=ah bN
   by_cases fJ:Y%8=2\/Y%8=3
   ·have l9:=f.out.2.1.asked (by omega) Y n dZ bA lm
    unfold qw at l9;have sP:=ah l9;clear l9;rcases fJ with hm|hm
    all_goals
      go_wp2_with (first|(go_at_call 71;go_must ((refine sP.out.mono ?_);rintro e w9 ⟨rfl,bB⟩;refine sO ?_)))
      refine sN ?_;have x:Hid (Kj w0 d v r N lg sx bx (i+(k+1)) bo w9):=ah ⟨_,_,t,rt,room,log,err,ch,f.out.1.below bB,f.out.2.1.more.below f.out.1.sub bB,f.out.2.2.1.own (Keep.of_below bB (fun _=>False)) id,f.out.2.2.2.own (Keep.of_below bB (fun _=>False)) id,A.out.1,A.out.2⟩;clear bB sP;go_wp2_with fail;go_roundw
      case rel=>exact⟨k+1,by omega,by omega,rfl,by go_num,x.out⟩
      case measure=>simp[intOf];omega
   by_cases fK:Y%8=4\/Y%8=5
   ·obtain⟨dn,rJ,rA⟩:=f.out.2.1.commit f.out.1.sub (by omega) r9
    have oK:=ah rJ;have sF:=ah rA;clear rJ rA;rcases fK with hm|hm
    all_goals
     go_wp2_with (first|(go_at_call 35;go_must ((refine oK.out.mono ?_);rintro e w9 ⟨hw,rfl⟩;subst w9))|(go_at_call 25;go_must ((refine sF.out.mono ?_);rintro e w9 ⟨nn,cc,rfl,c,O⟩;have av:=ah (aC c O);clear c O;refine sO ?_)))
     refine sN ?_;clear R T Z V P X Q c0 c1 c2 c3 cl oK sF;obtain⟨c,O⟩:=av.out;clear av;have l:=f.out.1.fr c;have j:=f.out.2.2.1.fr c;have H:=f.out.2.2.2.fr c;rcases O with ⟨rfl,rfl,rfl,s⟩|⟨rfl,rfl,rfl,yo,s⟩|⟨rfl,rfl,vo,s⟩|⟨rfl,rfl,rfl,rfl,s⟩
     ·have q:=ah (aC l (aC j H))
      have m:=s.begin l.sub (by omega);unfold qw at m;have C:=ah m;obtain⟨R,T,Z,V,P,X,Q⟩:=nG j.ob;clear m l j H s;go_wp2_with (first|(go_at_call 69;go_must ((refine C.out.mono ?_);rintro e wd ⟨t',o5,ql,af,aA,lJ,F',lC,rfl,c,E⟩;refine sO ?_)))
      refine sN ?_;have D:=q.out.1.fr c;have a:=q.out.2.1.fr c;unfold Bq at a;have B:=q.out.2.2.fr c;clear R T Z V P X Q;obtain⟨R,T,Z,V,P,X,Q⟩:=jT a.ob;have f0:=iD a.ob 0;have f1:=iD a.ob 1;have f2:=iD a.ob 2;have f3:=iD a.ob 3;have f4:=iD a.ob 4;have f5:=iD a.ob 5;have x:=ah (xM D E a B A.out.1 A.out.2);clear c E D a B C;go_wp2_with fail;go_roundw
      case rel=>exact⟨k+1,by omega,by omega,rfl,by go_num,x.out⟩
      case measure=>simp[intOf];omega
     ·have q:=ah (aC l (aC j H))
      have m:=s.begin l.sub (by omega);unfold qw at m;have C:=ah m;obtain⟨R,T,Z,V,P,X,Q⟩:=nG j.ob;clear m l j H s;go_wp2_with (first|(go_at_call 69;go_must ((refine C.out.mono ?_);rintro e wd ⟨t',o5,ql,af,aA,lJ,F',lC,rfl,c,E⟩;refine sO ?_)))
      refine sN ?_;have D:=q.out.1.fr c;have a:=q.out.2.1.fr c;unfold Bq at a;have B:=q.out.2.2.fr c;clear R T Z V P X Q;obtain⟨R,T,Z,V,P,X,Q⟩:=jT a.ob;have f0:=iD a.ob 0;have f1:=iD a.ob 1;have f2:=iD a.ob 2;have f3:=iD a.ob 3;have f4:=iD a.ob 4;have f5:=iD a.ob 5;have x:=ah (xM D E a B A.out.1 A.out.2);clear c E D a B C;go_wp2_with fail;go_roundw
      case rel=>exact⟨k+1,by omega,by omega,rfl,by go_num,x.out⟩
      case measure=>simp[intOf];omega
     ·obtain⟨R,T,Z,V,P,X,Q⟩:=nG j.ob
      have bC:=ah (s.Gm l.sub (by omega));have jv:=ah (aC l (aC j H));have z1:¬(nn:Int)<(dn:Int):=(by omega);have z2:(dn:Int)<=(nn:Int):=(by omega);clear l j H s vo;go_wp2_with (first|(go_at_call 26;go_must ((refine bC.out.mono ?_);rintro e wb ⟨rfl,F9,nA,z,s⟩;refine sO ?_)))
      refine sN ?_;clear R T Z V P X Q bC;have l:=jv.out.1.fr z;have j:=jv.out.2.1.fr z;have H:=jv.out.2.2.fr z;clear z jv;have q:=ah (aC l (aC j H));have m:=s.begin l.sub (by omega);unfold qw at m;have C:=ah m;obtain⟨R,T,Z,V,P,X,Q⟩:=nG j.ob;clear m l j H s;go_wp2_with (first|(go_at_call 69;go_must ((refine C.out.mono ?_);rintro e wd ⟨t',o5,ql,af,aA,lJ,F',lC,rfl,c,E⟩;refine sO ?_)))
      refine sN ?_;have D:=q.out.1.fr c;have a:=q.out.2.1.fr c;unfold Bq at a;have B:=q.out.2.2.fr c;clear R T Z V P X Q;obtain⟨R,T,Z,V,P,X,Q⟩:=jT a.ob;have f0:=iD a.ob 0;have f1:=iD a.ob 1;have f2:=iD a.ob 2;have f3:=iD a.ob 3;have f4:=iD a.ob 4;have f5:=iD a.ob 5;have x:=ah (xM D E a B A.out.1 A.out.2);clear c E D a B C;go_wp2_with fail;go_roundw
      case rel=>exact⟨k+1,by omega,by omega,rfl,by go_num,x.out⟩
      case measure=>simp[intOf];omega
     ·obtain⟨R,T,Z,V,P,X,Q⟩:=nG j.ob
      have bC:=ah (s.Gm l.sub (by omega) dR);have q:=ah (aC l j);clear l j H s;go_wp2_with (first|(go_at_call 26;go_must ((refine bC.out.mono ?_);rintro e wb ⟨⟨pn,rfl⟩,F9,nA,z,lo,a,S⟩;refine sO ?_)))
      refine sN ?_;clear R T Z V P X Q bC;have oO:=q.out.2.fr z;obtain⟨R,T,Z,V,P,X,Q⟩:=nG oO.ob;have J:Hid (yE w0 d r N lg (i+41) lo wb):=ah ⟨F9,nA,q.out.1.fr z,S.more (by omega)⟩;have x:=ah (a wb.drew (aR _ wb).drew);clear z a S oO q;go_upto_region 25 with (fail)
      have xV:Below wb.heap.size wb wb.drew:=(aR _ wb).drew;have xK:Hid (yE w0 d r N lg (i+41) lo wb.drew):=ah (J.out.below xV);have t4:wb.drew.cell? ⟨sx,4,none⟩=some (.int .i64 0):=P;have tl:sx<wb.drew.heap.size:=Q;refine aP (fun W=>W=wb.drew) (fun i=> !([1,3].contains i)) [0,2,1,3,4,5,6,7,8,9,10] rfl (by kernel_rfl) rfl ?_
      repeat (refine oq ?_ rfl rfl rfl ?_ ?_;rotate_left;(focus intro W hW;(try dsimp only at hW);subst hW;go_simp;first|done|with_reducible rfl);try simp only[Act.put,aj,au,ak])
      refine dI rfl rfl rfl ?_;intro K hK;go_simp;refine x.out.1.mono ?_;rintro e wx ⟨rfl,vz⟩;subst wx;refine hK.out _ _ rfl ?_
      (try simp only[Act.put,aj,au,ak])
      repeat (refine oq ?_ rfl rfl rfl ?_ ?_;rotate_left;(focus intro W hW;(try dsimp only at hW);subst hW;go_simp;first|done|with_reducible rfl);try simp only[Act.put,aj,au,ak])
      refine dI rfl rfl rfl ?_;intro K hK;go_simp;refine x.out.2.mono ?_;rintro e wx ⟨rfl,vz⟩;subst wx;refine hK.out _ _ rfl ?_
      (try simp only[Act.put,aj,au,ak])
      repeat (refine oq ?_ rfl rfl rfl ?_ ?_;rotate_left;(focus intro W hW;(try dsimp only at hW);subst hW;go_simp;first|done|with_reducible rfl);try simp only[Act.put,aj,au,ak])
      refine bR ?_;go_wp2_with fail;go_ret2;exact⟨lo,rfl,xK.out⟩
   ·have q9:=ah (f.out.2.1.sync f.out.1.sub (by omega) dR)
    have g0:¬Y%8=0:=fun e=>jl (.inl e)
    have g1:¬Y%8=1:=fun e=>jl (.inr e)
    have g2:¬Y%8=2:=fun e=>fJ (.inl e)
    have g3:¬Y%8=3:=fun e=>fJ (.inr e)
    have g4:¬Y%8=4:=fun e=>fK (.inl e)
    have g5:¬Y%8=5:=fun e=>fK (.inr e)
    clear jl fJ fK;go_wp2_with (first|(go_at_call 27;go_must ((refine q9.out.mono ?_);rintro e w9 ⟨c,(⟨rfl,o7,dn,di,bH⟩|⟨rfl,lo,di,bH,S⟩)⟩<;>refine sO ?_)))
    ·refine sN ?_
     have x:Hid (Kj w0 d v r N lg sx bx (i+(k+1)) bo w9):=ah ⟨_,_,t,rt,room,log,err,ch,f.out.1.fr c,o7,f.out.2.2.1.fr c,f.out.2.2.2.fr c,A.out.1,A.out.2⟩;have kT:=ah di;have j6:=ah bH;clear c o7 di bH q9;go_wp2_with (first|(go_at_call 72;go_must ((refine kT.out.mono ?_);rintro e G ⟨hw,rfl⟩;subst G))|(go_at_call 12;go_must ((refine j6.out.mono ?_);rintro e G ⟨hw,rfl⟩;subst G)))
     go_roundw
     case rel=>exact⟨k+1,by omega,by omega,rfl,by go_num,x.out⟩
     case measure=>simp[intOf];omega
    ·refine sN ?_
     have J:Hid (yE w0 d r N lg (i+41) lo w9):=ah ⟨_,_,f.out.1.fr c,S.more (by omega)⟩;have kT:=ah di;have j6:=ah bH;clear c S di bH q9;go_wp2_with (first|(go_at_call 72;go_must ((refine kT.out.mono ?_);rintro e G ⟨rfl,hw⟩;subst G))|(go_at_call 34;go_must ((refine j6.out.mono ?_);rintro e G ⟨rfl,hw⟩;subst G)))
     go_ret2;exact⟨lo,rfl,J.out⟩
  ·obtain⟨lo,nk,S⟩:=qo.life (by omega) dR
   have J:Hid (yE w0 d r N lg (i+41) lo wr):=ah ⟨_,_,y,S.more (by omega)⟩;have q9:=ah nk;clear y qo q8 qb nk S
   by_cases iO:k<I.length
   ·have y1:(k:Int)<(I.length:Int):=by omega
    have y2:¬(k:Int)<40:=(by omega);go_wp2_with (first|(go_at_call 72;go_must ((refine q9.out.mono ?_);rintro e G ⟨rfl,hw⟩;subst G)))
    go_ret2;exact⟨lo,rfl,J.out⟩
   ·have y1:¬(k:Int)<(I.length:Int):=by omega
    go_wp2_with (first|(go_at_call 72;go_must ((refine q9.out.mono ?_);rintro e G ⟨rfl,hw⟩;subst G)))
    go_ret2;exact⟨lo,rfl,J.out⟩
def aT.cut {w:World}{B e n g:Nat}{d:List Value}(h:aT w S B e 1 (.slice (some ⟨g,0,none⟩) n c) n d)(j:Nat)(s:j<=n):aT w S B e 1 (.slice (some ⟨g,0,none⟩) j c) j (d.take j):=by
 obtain⟨⟨x,p⟩,r⟩:=h;rcases p with ⟨b,_⟩|⟨v,l,a,b,f,k,t,q,i,m⟩
 ·cases b
 ·cases b
  refine⟨⟨by rw[aH];omega,.inr ⟨g,c,a,rfl,f,k,by omega,q,i,?_⟩⟩,fun y o=>r y o⟩;rw[<-m,dz,aW,aW,bK s]
def Uv (w0:World)(d r N lg k:Nat)(L L2:List (List Pr))(kv:List Pr)(fu:Int)(w:World):Prop:=∃F F0,RB w0 F F0 w/\PD ⟨F,w,HD d N L⟩ d lg N k fu kv w/\FM F0 w r (L++L2)
def WE (w0:World)(d r N lg k:Nat)(L L2:List (List Pr))(w:World):Prop:=∃F F0,RB w0 F F0 w/\LE ⟨F,w,HD d N L⟩ d lg N k (L.take (k+1)) w/\FM F0 w r (L++L2)
def Mx (w0:World)(d v r N lg k:Nat)(L L2:List (List Pr))(kv:List Pr)(w:World):Prop:=∃F F0 u,RB w0 F F0 w/\rf ⟨F,w,HD d N (L.take (k+1))⟩ v N (lg - 1) k u kv w/\FM F0 w r (L++L2)
def PE (w0:World)(d v r N lg:Nat)(cms:List (List Pr))(kv:List Pr)(w:World):Prop:=∃F F0 u,RB w0 F F0 w/\rf ⟨F,w,HD d N (cms++[kv])⟩ v N (lg - 1) cms.length u kv w/\FM F0 w r (cms++[kv])
def WC (w0:World)(d v r N lg i:Nat)(w:World):Prop:=∃F F0,RB w0 F F0 w/\qP d v r N lg i F F0 w
section
variable {w0 w:World} {d v r N lg i k:Nat} {L L2:List (List Pr)} {kv:List Pr} {fu:Int}
def yE.rV {lo:Nat}(h:yE w0 d r N lg i lo w)(z:Value)(c:List Bool)(s:Bj w0 gB z c):
  Calls Tryz.prog 28 #[.pointer (some ⟨d,0,none⟩),z] w fun e b=>e= .returned (.tuple #[])/\∃L L2 k kv,Uv w0 d r N lg k L L2 kv (-1) b/\lo<=k/\L[k]? =some kv/\(∀m∈L,Kv m i)/\L.length<=i+1/\L2.length<=1:=by
 obtain⟨F,F0,a,L,L2,n,t,p,q,v⟩:=h;refine(n.rV z c (fun A y=>s.of a.nU fun g o e=>y.lo g e (a.old g o).1)).mono ?_;rintro e b ⟨rfl,k,kv,l,x,f⟩;have j:Keep (fun g=>¬F g) w b:=f.jl;exact⟨rfl,L,L2,k,kv,⟨F,F0,a.keep j,f.re,t.prog (j.out a.sub)⟩,l,x,p,q,v⟩
def Uv.fuel (h:Uv w0 d r N lg k L L2 kv fu w)(n:Int)(l:n<=9223372036854775807):
  Calls Tryz.prog 15 #[.pointer (some ⟨d,0,none⟩),.int .i64 n] w fun e a=>e= .returned (.tuple #[])/\Uv w0 d r N lg k L L2 kv (max n (-1)) a:=by
 obtain⟨F,F0,c,i,j⟩:=h;refine(i.fuel n l).mono ?_;rintro e a ⟨rfl,f⟩;have b:Keep (fun g=>¬F g) w a:=f.jl;exact⟨rfl,F,F0,c.keep b,f.re,j.prog (b.out c.sub)⟩
def Uv.open_ (h:Uv w0 d r N lg k L L2 kv fu w)(p:6<=lg)(n:8<=N)(m:k<=100000000)(t:kv.length<=4090)(q:L[k]? =some kv):
  Calls Tryz.prog 10 #[.pointer (some ⟨d,0,none⟩),.int .i64 lg] w fun e a=>(∃v,e= .returned (.tuple #[.pointer (some ⟨v,0,none⟩),.int .i64 0])/\Mx w0 d v r N lg k L L2 kv a/\WE w0 d r N lg k L L2 a)\/
   (fu≠-1/\e= .returned (.tuple #[.pointer none,.int .i64 10])/\Calls Tryz.prog 34 #[.pointer (some ⟨d,0,none⟩)] a (fun e j=>e= .returned (.bool true)/\j=a)/\WE w0 d r N lg k L L2 a):=by
 obtain⟨F,F0,c,o,l⟩:=h;refine(o.open_ p n m t q).mono ?_;rintro e a (⟨v,u,rfl,x,f⟩|⟨s,rfl,i,f⟩)
 ·have b:Keep (fun g=>¬F g) w a:=f.jl
  exact .inl ⟨v,rfl,⟨F,F0,u,c.keep b,x.re,l.prog (b.out c.sub)⟩,F,F0,c.keep b,f.re,l.prog (b.out c.sub)⟩
 ·have b:Keep (fun g=>¬F g) w a:=f.jl
  exact .inr ⟨s,rfl,i,F,F0,c.keep b,f.re,l.prog (b.out c.sub)⟩
def WE.rV (h:WE w0 d r N lg k L L2 w)(o:L[k]? =some kv)(z:Value)(i:List Bool)(q:Bj w0 gB z i):
  Calls Tryz.prog 28 #[.pointer (some ⟨d,0,none⟩),z] w fun e c=>e= .returned (.tuple #[])/\Uv w0 d r N lg k L L2 kv (-1) c:=by
 obtain⟨F,F0,b,m,t⟩:=h;refine(m.rV z i (fun y v=>q.of b.nU fun g n e=>v.lo g e (b.old g n).1)).mono ?_;rintro e c ⟨rfl,p,s,x,a,j⟩;have l:Keep (fun g=>¬F g) w c:=j.jl;have f:p=k:=by
  rw[fD] at a
  split at a
  ·omega
  ·cases a
 subst f;rw[fD,if_pos (by omega),o] at a;injection a with a
 rw[a];exact⟨rfl,F,F0,b.keep l,j.re,t.prog (l.out b.sub)⟩
def Mx.done (h:Mx w0 d v r N lg k L L2 kv w)(a:k<=100000000):
  Calls Tryz.prog 12 #[.pointer (some ⟨v,0,none⟩)] w fun e b=>e= .returned (.int .i64 k)/\b=w:=by
 obtain⟨F,F0,u,f,c,g⟩:=h;exact c.done a
def Mx.V4 (h:Mx w0 d v r N lg k L L2 kv w)(a:(L++L2).length<=100000):
  Calls Tryz.prog 35 #[.pointer (some ⟨r,0,none⟩)] w fun e b=>b=w/\e= .returned (.int .i64 (((L++L2).length:Int) - 1)):=by
 obtain⟨F,F0,u,g,f,c⟩:=h;exact c.done a
def Mx.check (h:Mx w0 d v r N lg k L L2 kv w)(i:kv.length<=4090):
  Calls Tryz.prog 13 #[.pointer (some ⟨v,0,none⟩)] w fun e a=>e= .returned (.int .i64 0)/\Mx w0 d v r N lg k L L2 kv a:=by
 obtain⟨F,F0,u,c,j,l⟩:=h;refine(j.check i).mono ?_;rintro e a ⟨rfl,f⟩;have b:Keep (fun g=>¬F g) w a:=f.jl;exact⟨rfl,F,F0,u,c.keep b,f.re,l.prog (b.out c.sub)⟩
def Mx.cells (h:Mx w0 d v r N lg k L L2 kv w)(i:k<L.length):∃g c,w.heap[r]? =some (.cells #[.slice (some ⟨g,0,none⟩) (L++L2).length c] 75 (0,0))/\(L++L2).length<=c/\c<=9223372036854775807:=by
 obtain⟨F,F0,u,n,l,o,m,e,f,p,j,q⟩:=h;obtain⟨g,c,rfl,a,b,_⟩:=f.yx (by rw[ay];omega);exact⟨g,c,e,a,b⟩
def NU {L:List (List Pr)}{kv:List Pr}(a:L[k]? =some kv):L.take (k+1)=L.take k++[kv]/\(L.take k).length=k:=by
 have b:k<L.length:=by
  rcases gH k L.length with h|h
  ·exact h
  ·rw[iE h] at a;cases a
 rw[bD b] at a;injection a with a
 exact⟨by rw[<-a,List.take_append_getElem b],by rw[aH];omega⟩
def Mx.cut (h:Mx w0 d v r N lg k L L2 kv w)(o:L[k]? =some kv){g:Nat}(D:w.heap[r]? =some (.cells #[.slice (some ⟨g,0,none⟩) (L++L2).length c] 75 (0,0))):
  PE w0 d v r N lg (L.take k) kv (w.setCell ⟨r,0,none⟩ (.slice (some ⟨g,0,none⟩) (k+1) c)):=by
 obtain⟨F,F0,u,f,A,J,V,a,T,B,M,q⟩:=h;obtain⟨E,m⟩:=NU o;rw[E] at A;have y:J= .slice (some ⟨g,0,none⟩) (L++L2).length c:=by
  rw[D] at a;injection a with a
  injection a with a
  injection a with a
  injection a with a
  exact a.symm
 subst y;have l:Keep (· =r) w (w.setCell ⟨r,0,none⟩ (.slice (some ⟨g,0,none⟩) (k+1) c)):=(Keep.refl (· =r) _).setCell (p:=⟨r,0,none⟩) (.inr rfl) _;have I:k<L.length:=by have:=m;rw[aH] at this;rcases gH k L.length with h|h;exact h;rw[iE h] at o;cases o
 have K:(w.setCell ⟨r,0,none⟩ (.slice (some ⟨g,0,none⟩) (k+1) c)).heap.size=w.heap.size:=by simp[World.setCell]
 have t:g≠r:=fun e=>B (by rw[e];rfl)
 have C:∀x,sH F0 (w.setCell ⟨r,0,none⟩ (.slice (some ⟨g,0,none⟩) (k+1) c)) x↔sH F0 w x:=fun x=>by unfold sH;rw[K]
 have S:=A.next l (fun x e=>by have e:x=r:=e;rw[e];exact f.sub r q);refine⟨jm F w _,F0,u,⟨fun x e=> .inl (f.sub x e),fun x b=>⟨.inl (f.old x b).1,(f.old x b).2⟩,f.nU.trans (l.jF f.nU.size fun x b e=>(f.old x b).2 (by have e:x=r:=e;rw[e];exact q))⟩,by rw[m];exact S,.slice (some ⟨g,0,none⟩) (k+1) c,V.take (k+1),?_,?_,B,fun i O=> ?_,q⟩
 ·simp[World.setCell,aQ,D]
 ·have:=(T.cut (k+1) (by rw[ay];omega)).keep (w':=w.setCell ⟨r,0,none⟩ (.slice (some ⟨g,0,none⟩) (k+1) c)) (S':=sH F0 (w.setCell ⟨r,0,none⟩ (.slice (some ⟨g,0,none⟩) (k+1) c))) (fun x b s n=>⟨l.block x s (fun e=>by injection b with b;have b:g=x:=b;exact t (b.trans e)),fun e=>n ((C x).1 e)⟩)
  have P:(L.take k++[kv]).length=k+1:=by simp[m]
  rw[P];exact this
 ·have j:i<k+1:=by (have:(L.take k++[kv]).length=k+1:=(by simp[m]));omega
  obtain⟨H,Q,G⟩:=M i (by rw[ay];omega);refine⟨H,by rw[fD,if_pos j];exact Q,?_⟩;have R:(L++L2)[i]'(by rw[ay];omega)=(L.take k++[kv])[i]:=by
   have z:(L++L2)[i]? =(L.take k++[kv])[i]? :=by
    rw[<-E,eF (by omega),fD,if_pos j]
   rw[bD (by rw[ay];omega),bD O] at z;injection z
  rw[R] at G;exact aZ.keep G fun x _ s n=>⟨l.block x s (fun e=>n (.inr (.inl e))),fun e=>n (e.imp (C x).1 (fun e=>e.imp id fun e=>e))⟩
def PE.begin {i:List (List Pr)}(h:PE w0 d v r N lg i kv w)(o:kv.length<=4090):
  Calls Tryz.prog 21 #[.pointer (some ⟨v,0,none⟩)] w fun e b=>∃t,e= .returned (.tuple #[.pointer (some ⟨t,0,none⟩),.int .i64 0])/\
   Calls Tryz.prog 29 #[.pointer (some ⟨t,0,none⟩),.string ⟨#[]⟩,.int .i64 1073741824] b fun e k=>∃y,e= .returned (.tuple #[y,.int .i64 0])/\
   Calls Tryz.prog 31 #[.pointer (some ⟨t,0,none⟩)] k fun e f=>e= .returned (.tuple #[])/\PE w0 d v r N lg i kv f/\∃D,jo f D y kv:=by
 obtain⟨F,F0,u,s,z,C⟩:=h;refine z.begin.mono ?_;rintro e b ⟨t,rfl,n⟩;have c:Keep (fun g=>¬F g) w b:=n.jl;refine⟨t,rfl,(n.re.scan ⟨#[]⟩ 1073741824 (by omega)).mono ?_⟩;rintro e k ⟨y,rfl,q,B,m⟩;rw[KY kv _ (by omega)] at q;have p:=n.re.next (M:=fun _=>False) (Keep.of_below m _) (fun _ e=>e.elim);refine⟨y,rfl,p.abort.mono ?_⟩;rintro e f ⟨rfl,x,_⟩;have a:Keep (fun g=>¬jm F b k g) k f:=x.jl;have j:=(s.keep c).below m;have l:jo f gB y kv:=aZ.keep q.dx fun g A o _=>⟨a.block g o (fun e=>e (.inr ⟨q.lo g A,o⟩)),id⟩
 exact⟨rfl,⟨jm F b k,F0,u,j.keep a,x.re,((C.prog (c.out s.sub)).prog (Keep.of_below m _)).prog (a.out j.sub)⟩,_,l⟩
def PE.UW {b:List (List Pr)}{y:Value}{i:Nat->Prop}(h:PE w0 d v r N lg b kv w)(s:b.length<=1000)(l:kv.length<=1000)(o:jo w i y kv):
  Calls Tryz.prog 22 #[.pointer (some ⟨r,0,none⟩)] w fun e a=>∃rt,e= .returned (.pointer (some ⟨rt,0,none⟩))/\PE w0 d v r N lg b kv a/\jo a i y kv/\∃z f,a.cell? ⟨rt,0,none⟩=some z/\rt<a.heap.size/\jo a f z kv:=by
 obtain⟨F,F0,u,n,k,p⟩:=h;refine(p.begin (by omega) (by omega)).mono ?_;rintro e a ⟨rt,rfl,j,c⟩;obtain⟨q,f,g,m⟩:=j.WQ;exact⟨rt,rfl,⟨jm F w a,jm F0 w a,u,n.grow (Keep.of_below c (fun _=>False)) (fun _ e=>e.elim),k.next (M:=fun _=>False) (Keep.of_below c _) (fun _ e=>e.elim),j.forget⟩,aZ.below o c,q,f,by simp[World.cell?,g],(ai.1 g).1,m⟩
def PE.below (h:PE w0 d v r N lg a kv w)(b:Below w.heap.size w w'):PE w0 d v r N lg a kv w':=by
 obtain⟨F,F0,u,f,c,g⟩:=h;exact⟨_,F0,u,f.below b,c.next (M:=fun _=>False) (Keep.of_below b _) (fun _ e=>e.elim),g.prog (Keep.of_below b _)⟩
def PE.next (h:PE w0 d v r N lg a kv w)(c:Kv kv i)(b:∀m∈a,Kv m i)(e:a.length<=i):WC w0 d v r N lg i w:=by
 obtain⟨F,F0,u,g,f,j⟩:=h;exact⟨F,F0,g,a,kv,c,e,b,⟨u,f⟩,j⟩
def Mx.below (h:Mx w0 d v r N lg k L L2 kv w)(a:Below w.heap.size w w'):Mx w0 d v r N lg k L L2 kv w':=by
 obtain⟨F,F0,u,c,b,f⟩:=h;exact⟨_,F0,u,c.below a,b.next (M:=fun _=>False) (Keep.of_below a _) (fun _ e=>e.elim),f.prog (Keep.of_below a _)⟩
end
end Go.Proofs.YtogbkgmlhhahdaaGreat
namespace Go.Proofs.YtogbkgmlhhahdaaGreat
open Go.RowKit Go.ChangeShapes Go.WideShapes Go.ChangeAt Go.Deep
variable{l:Lg}{a:List (List Pr)}{c:Nat}{D:Nat->Dk->Lg->Pg->Prop}{M S:Nat->Prop}{p:Pg}{W w':World}
def uj (a:Addr):a.add 0=a:=by unfold Addr.add;simp
def TA {H:Type}{j:TypeId×Value->H}{w:World}{d:Nat->Bool}{e:Bool}{n:Nat}{i:List Value}{a:Addr}{D:DataW H}{N:List MemPlace}(I:w.cells? c a 4=some i)(C:DataW.trod j Tryz.prog w c d e n 37 i=some (D,N)):
  ∃o:Vy,a.spot=none/\(0<=o.1/\o.1<=255/\(Lit.int .i64 o.2.2.2).wf=true)/\o.2.2.1.size<=maxLen/\w.cell? a=some (.int .u8 o.1)/\w.cell? (a.add 1)=some (.string o.2.1)/\w.cell? (a.add 2)=some (.string o.2.2.1)/\w.cell? (a.add 3)=some (.int .i64 o.2.2.2):=by
 obtain⟨_,f,b⟩:=World.cells?_some I
 match i,f with
 |[Y,T,V,Q],_=>
  obtain⟨X,R,Z,S,m,W,_,r,t,q,y⟩:=Go.Joins.trod_struct4 Tryz.underlying37 C;have E:Tryz.prog.cellsOf 5=1:=by kernel_rfl
  have F:Tryz.prog.cellsOf 9=1:=by kernel_rfl
  have O:Tryz.prog.cellsOf 3=1:=by kernel_rfl
  simp[E,F,O] at r t q y;obtain⟨k,p,_,g⟩:=xC kX r;obtain⟨P,v,_⟩:=DataW.trod_string gW t;obtain⟨G,s,_,M⟩:=DataW.trod_string gW q;obtain⟨z,x,_,K⟩:=xC jG y;simp at p v s x;subst p v s x;have l:=b 0 (by omega);have J:=b 1 (by omega);have A:=b 2 (by omega);have B:=b 3 (by omega);refine⟨(k,P,G,z),?_,⟨?_,?_,K⟩,M,by rw[uj] at l;simpa using l,by simpa using J,by simpa using A,by simpa using B⟩
  ·have:=Kn (show w.cell? (a.add 0)=some _ from l)
   rwa [uj] at this
  ·simp only[Lit.wf,dG,eB] at g
   exact og (by decide) g.1
  ·simp only[Lit.wf,dG,eB] at g
   exact og g.2 (by decide)
def QR {H:Type}{q:TypeId×Value->H}{g:Nat}{y:List Value}{x:DataW H×List MemPlace}(h:DataW.trod q Tryz.prog W 0 (fun _=>true) true g 34 y=some x):
  ∃v l,y=[v]/\Kl W v l/\(∀o∈l,0<=o.1/\o.1<=255/\(Lit.int .i64 o.2.2.2).wf=true)/\∀o∈l,o.2.2.1.size<=maxLen:=by
 rcases open_slice Tryz.underlying34 h with ⟨rfl,_⟩|⟨a,d,p,m,n,D,Q,rfl,O,B,N,k,rfl,M⟩
 ·exact⟨_,[],rfl,⟨none,0,rfl,aD _,aS _,fun i c=>by simp at c⟩,by simp,by simp⟩
 ·have s:Tryz.prog.cellsOf 37=4:=by kernel_rfl
  have J:d<=m:=by rw[k];simp;exact B
  have e:∀i,i<d->∃o:Vy,(a.add (i*4)).spot=none/\(0<=o.1/\o.1<=255/\(Lit.int .i64 o.2.2.2).wf=true)/\o.2.2.1.size<=maxLen/\W.cell? (a.add (i*4))=some (.int .u8 o.1)/\W.cell? ((a.add (i*4)).add 1)=some (.string o.2.1)/\W.cell? ((a.add (i*4)).add 2)=some (.string o.2.2.1)/\W.cell? ((a.add (i*4)).add 3)=some (.int .i64 o.2.2.2):=by
   intro i c;obtain⟨I,z,F⟩:=M i (by omega);rw[s] at z;exact TA z F
  obtain⟨f,j⟩:=choose_lt e;refine⟨_,(List.range d).map f,rfl,⟨some a,p,by simp,by simpa using B,N,fun i c=> ?_⟩,?_,?_⟩
  ·simp at c
   obtain⟨P,_,_,G,t,C,A⟩:=j i c;obtain⟨b,o,E⟩:=a;have K:E=none:=by
    have:=(j 0 (by omega)).1;rw[rq,uj] at this;exact this
   subst K;rw[dU] at G t C A;rw[dU] at t C A;refine⟨b,o,rfl,?_,?_,?_,?_⟩<;>simpa using by assumption
  ·intro o r
   obtain⟨i,c,rfl⟩:=fw.1 r;exact(j i (ng.1 c)).2.1
  ·intro o r
   obtain⟨i,c,rfl⟩:=fw.1 r;exact(j i (ng.1 c)).2.2.1
