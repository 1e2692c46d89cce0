/- parts -/
import Derived.Test.YtpmbddooibgnaaaGreatDoorN28
set_option maxRecDepth 100000
set_option maxHeartbeats 8000000
set_option linter.all false
namespace Go.Proofs.YtpmbddooibgnaaaGreatDoor
open Go.RowKit Go.Shelf
theorem Nk (n:Nat)(h:1<=n/\n<=4096):iX (n:Int)=n:=by
 unfold iX
 rw[if_neg (by omega),if_neg (by omega),dz]
theorem PG (f b c:World)(d n N R:Nat)(S:Nat->Prop)(o:Below f.heap.size f b)(t:∀g,S g->f.heap.size<=g)(r:qL b S d (Dk.new n))(m:Below b.heap.size b c)(B:R+1+N=n)(C:12<=N/\5<=R):
  Calls Tryz.prog 25 #[.pointer (some ⟨d,0,none⟩),.int .i64 ((R+1:Nat):Int)] c fun e w'=>∃v F,e= .returned (.tuple #[.pointer (some ⟨v,0,none⟩),.int .i64 0])/\Cr F d v N R false false w'/\Keep (fun g=>¬F g) c w'/\(∀g,g<f.heap.size->F g)/\(∀g,b.heap.size<=g->g<c.heap.size->F g)/\∀g,F g->g<c.heap.size:=by
 have y:VB ((f:gW).to (Jr d)) b S:=(VB.of o t).to
 have i:=y.next (Keep.of_below m (fun _=>False)) r.sub
 refine(qK.make _ c n (R+1) d S i (r.below m) (by omega) (by omega) (fun A l p q=>⟨rfl,q.vi.free.2,q.synced.trans q.last.symm⟩)).mono ?_
 rintro e w' ⟨v,rfl,j⟩
 have k:n - (R+1)=N:=by omega
 rw[k,Ai] at j
 have s:=qK.past (d:=d) j (by decide) (fun _ _ _ _ h=>h)
 refine⟨v,_,rfl,⟨0,0,s.re fun g a=>a,fun _=>rfl,fun _=>rfl⟩,?_,fun g a=> .inl a,fun g x z=> .inr ⟨x,z⟩,?_⟩
 ·have:=j.BS
  exact this
 ·rintro g (a|a)
  ·exact aA a (aI o.size m.size)
  ·exact a.2
theorem WI.first {F G:Nat->Prop}{j k r s:World}{wb d v sb a N R:Nat}{P:List Nat}(A:Cr F d v N R false false j)(q:F wb)(p:∀g,G g->F g)(n:¬G wb)(l:∀g,Gl g->G g)(z:kg j/\jV j/\mZ j)(i:Keep (· =wb) j k)(o:Below k.heap.size k r)
  (y:ji r sb (.pointer (some ⟨v,0,none⟩)) (newL (a::P)) (.int .u32 0) (.int .i32 0) (.slice none 0 0)) (I:(a::P).length=16) (hC:lD r a ⟨#[]⟩/\k.heap.size<a) (m:k.heap.size=sb) (c:Keep (· =wb) r s) (D:nG s wb d (R+1) v sb 0 0) (M:12<=N/\5<=R):
  ∃C E,(∀g,F g->C g)/\WI C G wb d v sb N R 0 0 false false (JS a) E none s/\lD s a ⟨#[]⟩/\C a/\¬G a/\a≠wb/\a≠sb:=by
 obtain⟨E,K,J⟩:=Du a P I
 rw[K] at y
 have O:wb<j.heap.size:=A.fs q
 have Q:=i.size
 have t:=(aj.1 hC.1).1
 have H:∀g,k.heap.size<=g->¬G g:=fun g S x=>absurd (A.fs (p _ x)) (by omega)
 have b:wb≠sb/\a≠wb/\a≠sb:=by have:=hC.2;omega
 have B:=y.lt
 have f:¬Gl wb:=fun e=>n (l _ e)
 refine⟨_,E,fun _ e=> .inl (.inl (.inl e)),⟨((A.next i fun g e=>by rw[show g=wb from e];exact q).next (Keep.of_below o (fun _=>False)) (fun _ e=>e.elim)).next c fun g e=>(by rw[show g=wb from e];exact .inl (.inl q)),D,y.keep c (fun e=>b.1 (qh e)),J,fun g e=> .inl (.inl (.inl (p g e))),⟨.inl (.inl (.inl q)),n,.inl (.inr ⟨eO m,B⟩),H _ (eO m),b.1⟩,l,?_,M⟩,hC.1.keep c (fun e=>b.2.1 e),.inl (.inr ⟨gJ hC.2,t⟩),H _ (gJ hC.2),b.2.1,b.2.2⟩
 exact jr (jr (jr z i fun g e=>(by rw[show g=wb from e];exact f)) (Keep.of_below o (fun _=>False)) fun _ e=>e.elim) c fun g e=>(by rw[show g=wb from e];exact f)
theorem Wn (G:Nat->Prop)(q0 q1 a b:Int)(n N R:Nat)(h1:max q0 64=a)(h2:min a 4096=(n:Int))(h3:max q1 6=b)(h4:min b ((n:Int) - 8)=((R+1:Nat):Int))(hn:R+1+N=n)(hN:12<=N/\5<=R)(Y:n<=4096)(w:World)(hT:kg w/\jV w/\mZ w)(hG:∀g,G g->g<w.heap.size)(ai:∀g,Gl g->G g):
  Calls Tryz.prog 17 #[.agg #[.int .i64 q0,.int .i64 q1]] w fun e w'=>∃wb,e= .returned (.pointer (some ⟨wb,0,none⟩))/\w.heap.size<=wb/\(∃F d v sb s T,WI F G wb d v sb N R 0 0 false false (JS s) T none w'/\lD w' s ⟨#[]⟩/\F s/\¬G s/\s≠wb/\s≠sb)/\Below w.heap.size w w':=by
 have O:=aG w (.cells #[.int .i64 q0,.int .i64 q1] 43)
 have o:=aH w (.cells #[.int .i64 q0,.int .i64 q1] 43)
 obtain⟨w1,bg⟩:∃x:World,Hid (w.alloc (.cells #[.int .i64 q0,.int .i64 q1] 43)=x):=⟨_,ah rfl⟩
 rw[bg.out] at O o
 obtain⟨cb,Z⟩:∃x:Nat,Hid (w.heap.size=x):=⟨_,ah rfl⟩
 rw[Z.out] at o
 have e0:w1.cell? ⟨cb,0,none⟩=some (.int .i64 q0):=by simp[World.cell?,o]
 have e1:w1.cell? ⟨cb,1,none⟩=some (.int .i64 q1):=by simp[World.cell?,o]
 have el:=(aj.1 o).1
 have eH:IntKind.i64.wrap ((n:Int) - 8)=(n:Int) - 8:=aM _ (by omega)
 have t:=Yc (n:Int) w1.drew
 rw[Nk n (by omega)] at t
 have HN:=ah t
 have r:=ah (au O (au hN (au hn (au hT (au hG ai)))))
 have hq:=Z.out
 clear O o t hT hG ai hN Y
 go_enter Tryz.func17,Tryz.ntmps17
 go_upto_region 1 with (fail)
 rw[bg.out]
 try rw[Z.out]
 go_upto_region 2 with (fail)
 refine aP (fun W=>W.cell? ⟨cb,1,none⟩=some (.int .i64 q1)/\cb<W.heap.size) (fun i=> !([1,9].contains i)) [0,2,3,4,5,6,7,1,8,9,10] rfl (by kernel_rfl) ⟨e1,el⟩ ?_
 repeat ((refine bE (v:= ?_) rfl rfl (fun _ _ _ h=>h) rfl (fun W f=> ?_) ?_);rotate_left;(focus ((try dsimp only at f);have p0:=f.1;have p1:=f.2;(go_simp;first|done|with_reducible rfl)));(try simp only[Act.put,ak,ay,ax]))
 refine bT rfl rfl rfl ?_;intro K hK;go_simp
 refine HN.out.mono ?_;rintro e w2 ⟨d,S,rfl,bf,y,af⟩
 have pV:=(y.cell (p:=⟨cb,1,none⟩) el).trans e1
 have A:=aA el y.size
 refine hK.out _ _ ⟨pV,A⟩ ?_
 (try simp only[Act.put,ak,ay,ax])
 repeat ((refine bE (v:= ?_) rfl rfl (fun _ _ _ h=>h) rfl (fun W f=> ?_) ?_);rotate_left;(focus ((try dsimp only at f);have p0:=f.1;have p1:=f.2;(go_simp;first|done|with_reducible rfl)));(try simp only[Act.put,ak,ay,ax]))
 refine bT rfl rfl rfl ?_;intro K hK;go_simp
 have m:=aG w2 (.cells #[.pointer (some ⟨d,0,none⟩),.int .i64 ((R:Int)+1),.pointer none,.pointer none,.int .i64 0,.int .i64 0] 114)
 have k:=aH w2 (.cells #[.pointer (some ⟨d,0,none⟩),.int .i64 ((R:Int)+1),.pointer none,.pointer none,.int .i64 0,.int .i64 0] 114)
 have H:=(m.cell (p:=⟨cb,1,none⟩) A).trans pV
 have J:=aA A m.size
 refine hK.out _ _ ⟨H,J⟩ ?_
 (try simp only[Act.put,ak,ay,ax])
 repeat ((refine bE (v:= ?_) rfl rfl (fun _ _ _ h=>h) rfl (fun W f=> ?_) ?_);rotate_left;(focus ((try dsimp only at f);have p0:=f.1;have p1:=f.2;(go_simp;first|done|with_reducible rfl)));(try simp only[Act.put,ak,ay,ax]))
 refine bN ?_
 obtain⟨w3,dM⟩:∃x:World,Hid (w2.alloc (.cells #[.pointer (some ⟨d,0,none⟩),.int .i64 ((R:Int)+1),.pointer none,.pointer none,.int .i64 0,.int .i64 0] 114)=x):=⟨_,ah rfl⟩
 rw[dM.out] at m k ⊢
 obtain⟨wb,qC⟩:∃x:Nat,Hid (w2.heap.size=x):=⟨_,ah rfl⟩
 rw[qC.out] at k ⊢
 have wl:=(aj.1 k).1
 have s:w3.cell? ⟨wb,0,none⟩=some (.pointer (some ⟨d,0,none⟩)):=by simp[World.cell?,k]
 have c1:w3.cell? ⟨wb,1,none⟩=some (.int .i64 ((R:Int)+1)):=by simp[World.cell?,k]
 have HM:=ah (PG w1.drew w2 w3.drew d n N R S y af bf m.drew r.out.2.2.1 r.out.2.1)
 have H3:=ah (au y (au m (au k qC.out)))
 clear y af bf m k e1 el pV A H J
 go_upto_region 3 with (fail)
 refine aP (fun W=>W.cell? ⟨wb,0,none⟩=some (.pointer (some ⟨d,0,none⟩))/\W.cell? ⟨wb,1,none⟩=some (.int .i64 ((R:Int)+1))/\wb<W.heap.size) (fun i=> !([9,15].contains i)) [0,1,2,3,4,5,6,7,8,9,10,11,12,13,14,15] rfl (by kernel_rfl) ⟨s,c1,wl⟩ ?_
 repeat ((refine bE (v:= ?_) rfl rfl (fun _ _ _ h=>h) rfl (fun W f=> ?_) ?_);rotate_left;(focus ((try dsimp only at f);have p0:=f.1;have p1:=f.2.1;have p2:=f.2.2;(go_simp;first|done|with_reducible rfl)));(try simp only[Act.put,ak,ay,ax]))
 refine bT rfl rfl rfl ?_;intro K hK;go_simp
 refine HM.out.mono ?_;rintro e B ⟨v,F,rfl,qo,p9,f1,f2,f3⟩
 have V:F wb:=f2 wb (eO H3.out.2.2.2) wl
 have l:=(p9.block wb wl (fun e=>e V)).trans H3.out.2.2.1
 have q8:=(aj.1 l).1
 have s:B.cell? ⟨wb,0,none⟩=some (.pointer (some ⟨d,0,none⟩)):=by simp[World.cell?,l]
 have c1:B.cell? ⟨wb,1,none⟩=some (.int .i64 ((R:Int)+1)):=by simp[World.cell?,l]
 have c2:B.cell? ⟨wb,2,none⟩=some (.pointer none):=by simp[World.cell?,l]
 have wf:B.frozen? ⟨wb,2,none⟩=false:=by simp[World.frozen?,l]
 have qb:=si B wb 2 (.pointer (some ⟨v,0,none⟩))
 have j:(B.setCell ⟨wb,2,none⟩ (.pointer (some ⟨v,0,none⟩))).heap[wb]? =some (.cells #[.pointer (some ⟨d,0,none⟩),.int .i64 ((R:Int)+1),.pointer (some ⟨v,0,none⟩),.pointer none,.int .i64 0,.int .i64 0] 114 (0,0)):=by simp[World.setCell,aK,l]
 refine hK.out _ _ ⟨s,c1,q8⟩ ?_
 (try simp only[Act.put,ak,ay,ax])
 repeat ((refine bE (v:= ?_) rfl rfl (fun _ _ _ h=>h) rfl (fun W f=> ?_) ?_);rotate_left;(focus ((try dsimp only at f);have p0:=f.1;have p1:=f.2.1;have p2:=f.2.2;(go_simp;first|done|with_reducible rfl)));(try simp only[Act.put,ak,ay,ax]))
 refine bT rfl rfl rfl ?_;intro K hK;go_simp
 have qf:(B.setCell ⟨wb,2,none⟩ (.pointer (some ⟨v,0,none⟩))).cell? ⟨wb,0,none⟩=some (.pointer (some ⟨d,0,none⟩)):=by simp[World.cell?,j]
 have di:(B.setCell ⟨wb,2,none⟩ (.pointer (some ⟨v,0,none⟩))).cell? ⟨wb,1,none⟩=some (.int .i64 ((R:Int)+1)):=by simp[World.cell?,j]
 refine hK.out _ _ ⟨qf,di,(aj.1 j).1⟩ ?_
 refine bN ?_
 clear qf di
 obtain⟨w5,d9⟩:∃x:World,Hid (B.setCell ⟨wb,2,none⟩ (.pointer (some ⟨v,0,none⟩))=x):=⟨_,ah rfl⟩
 rw[d9.out] at qb j ⊢
 have I:=ah (au qo (au p9 (au f1 (au f3 (au V (au qb j))))))
 have dn:=(aj.1 j).1
 clear c2
 have c2:w5.cell? ⟨wb,2,none⟩=some (.pointer (some ⟨v,0,none⟩)):=by simp[World.cell?,j]
 clear qo p9 f1 f2 f3 V qb j l s c1 wf q8
 go_wp2_with (first
  |(go_at_call 15;go_must (refine(WK (some ⟨v,0,none⟩) w5).mono ?_;rintro e w6 ⟨rfl,P,hP,Q,av,C⟩;refine Stop.of ?_)))
 refine Stop.on ?_
 obtain⟨sb,qc⟩:∃x:Nat,Hid (w5.heap.size=x):=⟨_,ah rfl⟩
 rw[qc.out] at Q
 rw[qc.out]
 obtain⟨cc,P,rfl⟩:∃c P',P=c::P':=by
  cases P with
  |nil=>exact absurd hP (by decide)
  |cons c P=>exact⟨c,P,rfl⟩
 have qO:=av cc (aY ..)
 have z:=(C.block wb dn).trans I.out.2.2.2.2.2.2
 have c3:w6.cell? ⟨wb,3,none⟩=some (.pointer none):=by simp[World.cell?,z]
 have fo:w6.frozen? ⟨wb,3,none⟩=false:=by simp[World.frozen?,z]
 have eZ:=(aj.1 z).1
 have E:=si w6 wb 3 (.pointer (some ⟨sb,0,none⟩))
 have X:nG (w6.setCell ⟨wb,3,none⟩ (.pointer (some ⟨sb,0,none⟩))) wb d (R+1) v sb 0 0:=by
  unfold nG
  simp[World.setCell,aK,z,NM]
 obtain⟨w7,M⟩:∃x:World,Hid (w6.setCell ⟨wb,3,none⟩ (.pointer (some ⟨sb,0,none⟩))=x):=⟨_,ah rfl⟩
 rw[M.out] at E X
 have D:=r.out.1.size
 have qm:=H3.out.1.size
 have qy:=H3.out.2.2.2
 have q:w.heap.size<=wb:=by rw[<-qy];exact aI D qm
 have kA:=(Keep.of_below r.out.1 (fun g=>w.heap.size<=g)).trans (Keep.of_below (I6 (aJ w1.heap.size w1)) (fun g=>w.heap.size<=g)) (fun _ _ e=>e)
 have kB:=(kA.trans (Keep.of_below H3.out.1 (fun g=>w.heap.size<=g)) (fun _ _ e=>e)).trans (Keep.of_below H3.out.2.1 (fun g=>w.heap.size<=g)) (fun _ _ e=>e)
 have kC:=(kB.trans (Keep.of_below (I6 (aJ w3.heap.size w3)) (fun g=>w.heap.size<=g)) (fun _ _ e=>e)).trans I.out.2.1 (fun g _ e=>aX.1 fun x=>e (I.out.2.2.1 g (aA x D)))
 have ql:=jr r.out.2.2.2.1 kC (fun g e x=>absurd (r.out.2.2.2.2.1 g (r.out.2.2.2.2.2 g x)) (aX.2 e))
 obtain⟨F',T',f',h7,q9⟩:=WI.first I.out.1 I.out.2.2.2.2.1 (fun g e=>I.out.2.2.1 g (aA (r.out.2.2.2.2.1 g e) D)) (fun e=>absurd (r.out.2.2.2.2.1 _ e) (aX.2 q)) r.out.2.2.2.2.2 ql I.out.2.2.2.2.2.1 C Q hP qO qc.out E X r.out.2.1
 have kD:=((kC.trans I.out.2.2.2.2.2.1 (fun g _ e=>by rw[show g=wb from e];exact q)).trans (Keep.of_below C (fun g=>w.heap.size<=g)) (fun _ _ e=>e)).trans E (fun g _ e=>by rw[show g=wb from e];exact q)
 have H7:=ah (au h7 (au q9 (au kD q)))
 clear Q av qO z E X D qm qy q kA kB kC ql h7 q9 kD f' C hP
 go_wp2_with fail
 go_ret
 rw[M.out]
 exact⟨wb,rfl,H7.out.2.2.2,⟨F',d,v,sb,cc,T',H7.out.1,H7.out.2.1⟩,H7.out.2.2.1.fw (aC _) (fun g hg e=>absurd hg (aX.2 e))⟩
def sS (G:Nat->Prop)(wb N R:Nat)(now dr:Int)(past cur:Bool)(buf:ByteArray)(w:World):Prop:=∃F d v sb c0 T,WI F G wb d v sb N R now dr past cur (JS c0) T none w/\lD w c0 buf/\F c0/\¬G c0/\c0≠wb/\c0≠sb
def AV (G:Nat->Prop)(wb N R:Nat)(now dr:Int)(past cur:Bool)(held out:ByteArray)(n:Int)(w:World):Prop:=∃F d v sb inn T on,WI F G wb d v sb N R now dr past cur ⟨inn,.pointer none,held,n,out⟩ T on w
section
variable {F G G' M:Nat->Prop} {wb d v sb N R:Nat} {now dr:Int} {past cur:Bool} {l0:jW} {T:List jW} {on:Option Nat} {w w':World} {buf held out:ByteArray} {n:Int}
theorem WI.stepG (h:WI F G wb d v sb N R now dr past cur l0 T on w)(k:Keep M w w')(a:∀g,M g->G g/\¬Gl g):
  ∃b,(∀g,F g->b g)/\WI b (fun g=>G g\/(w.heap.size<=g/\g<w'.heap.size)) wb d v sb N R now dr past cur l0 T on w':=by
 obtain⟨b,i,j,c⟩:=h.step k fun g e=>⟨h.gf _ (a g e).1,fun x=>h.nw.2.1 (x▸(a g e).1),fun x=>h.nw.2.2.2.1 (x▸(a g e).1),(a g e).2⟩
 have l:=h.wd.lt
 have f:=h.sv.lt
 exact⟨b,i,c.WN (fun g e=>e.elim (c.gf g) fun e=>j g e.1 e.2) ⟨fun e=>e.elim h.nw.2.1 fun e=>absurd l (aX.2 e.1),fun e=>e.elim h.nw.2.2.2.1 fun e=>absurd f (aX.2 e.1)⟩ fun g e=> .inl (h.gl g e)⟩
theorem sS.stepG (h:sS G wb N R now dr past cur buf w)(b:Keep M w w')(a:∀g,M g->G g/\¬Gl g):sS (fun g=>G g\/(w.heap.size<=g/\g<w'.heap.size)) wb N R now dr past cur buf w':=by
 obtain⟨F,d,v,sb,n,T,h,c,k,f,l⟩:=h
 obtain⟨o,i,j⟩:=h.stepG b a
 have m:=(aj.1 c).1
 exact⟨o,d,v,sb,n,T,j,c.keep b (fun e=>f (a _ e).1),i _ k,fun e=>e.elim f fun e=>absurd m (aX.2 e.1),l⟩
theorem AV.stepG (h:AV G wb N R now dr past cur held out n w)(f:Keep M w w')(b:∀g,M g->G g/\¬Gl g):AV (fun g=>G g\/(w.heap.size<=g/\g<w'.heap.size)) wb N R now dr past cur held out n w':=by
 obtain⟨F,d,v,sb,a,T,on,h⟩:=h
 obtain⟨e,i,c⟩:=h.stepG f b
 exact⟨e,d,v,sb,a,T,on,c⟩
theorem sS.feed (h:sS G wb N R now dr past cur ⟨#[]⟩ w)(a:ByteArray)(n:a.size<=1000000)(m:(⟨#[]⟩:ByteArray)++a=a):
  Calls Tryz.prog 18 #[.pointer (some ⟨wb,0,none⟩),kQ 1 0 a 0] w fun e w'=>e= .returned (qE 0 0 ⟨#[]⟩ 0)/\sS G wb N R now dr past cur a w'/\Keep (fun g=>¬G g) w w':=by
 obtain⟨F,d,v,sb,o,T,h,q,c,j,f,i⟩:=h
 refine(SF h ⟨#[]⟩ a a q ⟨c,j,f,i⟩ m ⟨by decide,n⟩).mono ?_
 rintro e w' ⟨rfl,⟨r,k,l⟩,b,p⟩
 exact⟨rfl,⟨r,d,v,sb,o,T,l,b,k _ c,j,f,i⟩,p⟩
theorem sS.run (h:sS G wb N R now dr false false uw w)(f:0<=dr/\dr<=1000)(a:13<=R):
  Calls Tryz.prog 18 #[.pointer (some ⟨wb,0,none⟩),kQ 2 0 ⟨#[]⟩ 0] w fun e w'=>e= .returned (qE 0 201 ⟨#[]⟩ 0)/\AV G wb N R now (dr+1) false true kU ⟨#[]⟩ 1 w'/\Keep (fun g=>¬G g) w w':=by
 obtain⟨F,d,v,sb,m,T,h,j,q⟩:=h
 refine(VE h j q f a).mono ?_
 rintro e w' ⟨rfl,⟨k,n,b,l,c⟩,i⟩
 exact⟨rfl,⟨k,d,v,sb,b,T,_,c⟩,i⟩
theorem WI.mD (h:WI F G wb d v sb N R now dr past cur l0 T on w):
  Calls Tryz.prog 18 #[.pointer (some ⟨wb,0,none⟩),kQ 8 0 ⟨#[]⟩ 0] w fun e w'=>e= .returned (qE 0 0 ⟨#[]⟩ (CB past))/\sS G wb N R now dr past past ⟨#[]⟩ w'/\Keep (fun g=>¬G g) w w':=by
 refine(Qo h).mono ?_
 rintro e w' ⟨rfl,⟨i,c,a,f,k,l,b⟩,j⟩
 exact⟨rfl,⟨i,d,c,a,f,k,b⟩,j⟩
theorem sS.mD (h:sS G wb N R now dr past cur buf w):
  Calls Tryz.prog 18 #[.pointer (some ⟨wb,0,none⟩),kQ 8 0 ⟨#[]⟩ 0] w fun e w'=>e= .returned (qE 0 0 ⟨#[]⟩ (CB past))/\sS G wb N R now dr past past ⟨#[]⟩ w'/\Keep (fun g=>¬G g) w w':=by
 obtain⟨F,d,v,sb,a,T,h,_⟩:=h
 exact h.mD
theorem AV.mD (h:AV G wb N R now dr past cur held out n w):
  Calls Tryz.prog 18 #[.pointer (some ⟨wb,0,none⟩),kQ 8 0 ⟨#[]⟩ 0] w fun e w'=>e= .returned (qE 0 0 ⟨#[]⟩ (CB past))/\sS G wb N R now dr past past ⟨#[]⟩ w'/\Keep (fun g=>¬G g) w w':=by
 obtain⟨F,d,v,sb,a,T,on,h⟩:=h
 exact h.mD
theorem sS.take (h:sS G wb N R now dr past cur buf w):
  Calls Tryz.prog 18 #[.pointer (some ⟨wb,0,none⟩),kQ 4 0 ⟨#[]⟩ 0] w fun e w'=>e= .returned (qE 0 0 ⟨#[]⟩ 0)/\sS G wb N R now dr past cur buf w'/\Keep (fun g=>¬G g) w w':=by
 obtain⟨F,d,v,sb,m,T,h,c,j,o,k,a⟩:=h
 refine(Lh h).mono ?_
 rintro e w' ⟨rfl,⟨n,f,i⟩,b⟩
 have l:=(aj.1 c).1
 exact⟨rfl,⟨n,d,v,sb,m,T,i,c.keep b (fun e=>e.2.elim (fun e=>absurd l (aX.2 e)) a),f _ j,o,k,a⟩,b.mono fun _ _ e=>e.1⟩
theorem AV.take (h:AV G wb N R now dr past cur held out n w):
  Calls Tryz.prog 18 #[.pointer (some ⟨wb,0,none⟩),kQ 4 0 ⟨#[]⟩ 0] w fun e w'=>e= .returned (qE 0 0 out 0)/\AV G wb N R now dr past cur held ⟨#[]⟩ n w'/\Keep (fun g=>¬G g) w w':=by
 obtain⟨F,d,v,sb,a,T,on,h⟩:=h
 refine(Lh h).mono ?_
 rintro e w' ⟨rfl,⟨c,i,b⟩,f⟩
 exact⟨rfl,⟨c,d,v,sb,a,T,on,b⟩,f.mono fun _ _ e=>e.1⟩
theorem AV.sync (h:AV G wb N R now dr past cur kU ⟨#[]⟩ 1 w):
  Calls Tryz.prog 18 #[.pointer (some ⟨wb,0,none⟩),kQ 3 0 ⟨#[]⟩ 0] w fun e w'=>e= .returned (qE 0 0 ⟨#[]⟩ 1)/\AV G wb N R now dr cur cur ⟨#[]⟩ kU 0 w'/\Keep (fun g=>¬G g) w w':=by
 obtain⟨F,d,v,sb,a,T,on,h⟩:=h
 refine(SE h (by decide) (bF (by kernel_rfl))).mono ?_
 rintro e w' ⟨rfl,⟨c,i,j,b⟩,f⟩
 rw[Qg] at b
 exact⟨rfl,⟨c,d,v,sb,a,i,on,b⟩,f⟩
theorem sS.tick (h:sS G wb N R now dr past cur buf w)(n a b c:Int)(p:max n 0=a)(o:min a 1073741824=b)(y:min (now+b) 1152921504606846976=c)(q:0<=now/\now<=1152921504606846976):
  Calls Tryz.prog 18 #[.pointer (some ⟨wb,0,none⟩),kQ 6 0 ⟨#[]⟩ n] w fun e w'=>e= .returned (qE 0 0 ⟨#[]⟩ c)/\sS G wb N R c dr past cur buf w'/\Keep (fun g=>¬G g) w w':=by
 obtain⟨F,d,v,sb,t,T,h,j,m,z,f,r⟩:=h
 refine(SC h n a b c p o y q).mono ?_
 rintro e w' ⟨rfl,⟨x,k,l⟩,i⟩
 have s:=(aj.1 j).1
 exact⟨rfl,⟨x,d,v,sb,t,T,l,j.keep i (fun e=>e.2.elim (fun e=>absurd s (aX.2 e)) f),k _ m,z,f,r⟩,i.mono fun _ _ e=>e.1⟩
end
def sK:Nat->Int|0=>1|1=>2|2=>8|3=>4|4=>1|5=>2|6=>3|7=>4|_=>8
def sD:Nat->ByteArray|0=>uw|4=>uw|_=>⟨#[]⟩
def aS:Nat->Int|1=>201|5=>201|_=>0
def aT:Nat->ByteArray|7=>kU|_=>⟨#[]⟩
def aN:Nat->Int|6=>1|8=>1|_=>0
def St (G:Nat->Prop)(wb:Nat):Nat->World->Prop
 |0=>sS G wb 200 99 0 0 false false ⟨#[]⟩
 |1=>sS G wb 200 99 0 0 false false uw
 |2=>AV G wb 200 99 0 1 false true kU ⟨#[]⟩ 1
 |3=>sS G wb 200 99 0 1 false false ⟨#[]⟩
 |4=>sS G wb 200 99 0 1 false false ⟨#[]⟩
 |5=>sS G wb 200 99 0 1 false false uw
 |6=>AV G wb 200 99 0 2 false true kU ⟨#[]⟩ 1
 |7=>AV G wb 200 99 0 2 true true ⟨#[]⟩ kU 0
 |8=>AV G wb 200 99 0 2 true true ⟨#[]⟩ ⟨#[]⟩ 0
 |_=>sS G wb 200 99 0 2 true true ⟨#[]⟩
theorem nine {k:Nat}(h:k<9):k=0\/k=1\/k=2\/k=3\/k=4\/k=5\/k=6\/k=7\/k=8:=by omega
theorem St.frame {G M:Nat->Prop}{wb k:Nat}{w w':World}(c:k<10)(h:St G wb k w)(b:Keep M w w')(a:∀g,M g->G g/\¬Gl g):St (fun g=>G g\/(w.heap.size<=g/\g<w'.heap.size)) wb k w':=by
 rcases Nat.lt_succ_iff_lt_or_eq.1 c with c|rfl
 ·rcases nine c with rfl|rfl|rfl|rfl|rfl|rfl|rfl|rfl|rfl
  ·exact sS.stepG h b a
  ·exact sS.stepG h b a
  ·exact AV.stepG h b a
  ·exact sS.stepG h b a
  ·exact sS.stepG h b a
  ·exact sS.stepG h b a
  ·exact AV.stepG h b a
  ·exact AV.stepG h b a
  ·exact AV.stepG h b a
 ·exact sS.stepG h b a
theorem KU:(⟨#[]⟩:ByteArray)++uw=uw:=by kernel_rfl
theorem St.step {G:Nat->Prop}{wb k:Nat}{w:World}(a:k<9)(h:St G wb k w):
  Calls Tryz.prog 18 #[.pointer (some ⟨wb,0,none⟩),kQ (sK k) 0 (sD k) 0] w fun e w'=>e= .returned (qE 0 (aS k) (aT k) (aN k))/\St G wb (k+1) w'/\Keep (fun g=>¬G g) w w':=by
 rcases nine a with rfl|rfl|rfl|rfl|rfl|rfl|rfl|rfl|rfl
 ·exact sS.feed h uw (bF (by kernel_rfl)) KU
 ·exact sS.run h (by decide) (by decide)
 ·exact AV.mD h
 ·exact sS.take h
 ·exact sS.feed h uw (bF (by kernel_rfl)) KU
 ·exact sS.run h (by decide) (by decide)
 ·exact AV.sync h
 ·exact AV.take h
 ·exact AV.mD h
def TD:List Value:=(List.range 9).flatMap fun k=>[.int .i64 (sK k),.int .i64 0,.string (sD k),.int .i64 0,.slice none 0 0,.slice none 0 0]
def oR (k:Nat):List Value:=(List.range 9).flatMap fun i=>if i<k then[.int .i64 0,.int .i64 (aS i),.string (aT i),.int .i64 (aN i)] else[.int .i64 0,.int .i64 0,.string ⟨#[]⟩,.int .i64 0]
theorem UN {k:Nat}(h:k<9):TD[k*6]? =some (.int .i64 (sK k))/\TD[k*6+1]? =some (.int .i64 0)/\TD[k*6+2]? =some (.string (sD k))/\TD[k*6+3]? =some (.int .i64 0)/\TD[k*6+4]? =some (.slice none 0 0)/\TD[k*6+5]? =some (.slice none 0 0):=by
 rcases nine h with rfl|rfl|rfl|rfl|rfl|rfl|rfl|rfl|rfl<;>exact⟨rfl,rfl,rfl,rfl,rfl,rfl⟩
theorem Ve {k:Nat}(h:k<9):(oR k).length=36:=by
 rcases nine h with rfl|rfl|rfl|rfl|rfl|rfl|rfl|rfl|rfl<;>rfl
theorem Vd {k:Nat}(h:k<9):splice (oR k) (k*4) [.int .i64 0,.int .i64 (aS k),.string (aT k),.int .i64 (aN k)]=oR (k+1):=by
 rcases nine h with rfl|rfl|rfl|rfl|rfl|rfl|rfl|rfl|rfl<;>rfl
theorem Qa:(Tryz.prog.info? 45).map (fun i=>(i.zero,i.size,i.bytes))=some (some (.agg #[.int .i64 0,.int .i64 0,.string ⟨#[]⟩,.int .i64 0]),4,40):=by kernel_rfl
theorem W9 (w:World):(Instr.makeSlice 110 (.int .i64 9) (.int .i64 9)).run Tryz.prog w= .ok (.slice (some ⟨w.heap.size,0,none⟩) 9 9) (w.alloc (.cells (oR 0).toArray 45)):=by
 obtain⟨i,d,c,a,b⟩:=xC Qa
 have:=run_make (P:=Tryz.prog) (w:=w) 110 45 i _ Tryz.underlying110 d c .i64 .i64 9 9 (by decide) (by decide) (by rw[b];decide) (by decide)
 have e:madeCells (Value.agg #[.int .i64 0,.int .i64 0,.string ⟨#[]⟩,.int .i64 0]).cells (Int.toNat 9*4)=(oR 0).toArray:=by kernel_rfl
 rw[this,a,e]
 rfl
theorem Qf {w:World}(a:kg w/\jV w/\mZ w):∀g,Gl g->g<w.heap.size:=by
 rintro g (rfl|rfl|rfl|rfl)
 ·exact a.2.2.lt
 ·exact a.1.Yj.1
 ·exact a.1.Yj.2
 ·exact a.2.1.lt
theorem XM (sl:Nat)(w:World)(j:Row w sl 49 TD)(hT:kg w/\jV w/\mZ w):
  Calls Tryz.prog 37 #[.agg #[.int .i64 300,.int .i64 100],.slice (some ⟨sl,0,none⟩) 9 9] w fun e w'=>∃c,e= .returned (.slice (some ⟨c,0,none⟩) 9 9)/\Row w' c 45 (oR 9)/\Below w.heap.size w w':=by
 have n:=aG w (.cells #[.int .i64 300,.int .i64 100] 43)
 have f:=aH w (.cells #[.int .i64 300,.int .i64 100] 43)
 obtain⟨m,qy⟩:∃x:World,Hid (w.alloc (.cells #[.int .i64 300,.int .i64 100] 43)=x):=⟨_,ah rfl⟩
 rw[qy.out] at n f
 obtain⟨cb,E⟩:∃x:Nat,Hid (w.heap.size=x):=⟨_,ah rfl⟩
 rw[E.out] at f
 have c0:m.cell? ⟨cb,0,none⟩=some (.int .i64 300):=by simp[World.cell?,f]
 have c1:m.cell? ⟨cb,1,none⟩=some (.int .i64 100):=by simp[World.cell?,f]
 have cl:=(aj.1 f).1
 have I:kg m/\jV m/\mZ m:=jr hT (Keep.of_below n (fun _=>False)) (fun _ e=>e.elim)
 have ql:=Qf hT
 have X:=Row.lt j
 have HN:=ah (Wn (fun g=>g<m.heap.size) 300 100 300 100 300 200 99 (by decide) (by decide) (by decide) (by decide) rfl (by decide) (by decide) m I (fun _ e=>e) (Qf I))
 have HA:=ah (au j (au n (au ql (au X E.out))))
 clear j hT n f I ql X
 go_enter Tryz.func37,Tryz.ntmps37
 go_upto_region 1 with (fail)
 rw[qy.out]
 try rw[E.out]
 go_wp2_with (first
  |(go_at_call 17;go_must (refine HN.out.mono ?_;rintro e C ⟨wb,rfl,qC,⟨F,d,v,sb,k0,T,h2⟩,H⟩;refine Stop.of ?_)))
 refine Stop.on ?_
 have b:St (fun g=>g<m.heap.size) wb 0 C:=⟨F,d,v,sb,k0,T,h2⟩
 have qc:=W9 C
 have o:=aG C (.cells (oR 0).toArray 45)
 have l:=aH C (.cells (oR 0).toArray 45)
 obtain⟨w3,qO⟩:∃x:World,Hid (C.alloc (.cells (oR 0).toArray 45)=x):=⟨_,ah rfl⟩
 rw[qO.out] at o l qc
 obtain⟨c,qm⟩:∃x:Nat,Hid (C.heap.size=x):=⟨_,ah rfl⟩
 rw[qm.out] at l qc
 have ol:=(aj.1 l).1
 have s:=St.frame (by decide) b (Keep.of_below o (fun _=>False)) (fun _ e=>e.elim)
 have P:=HA.out.2.1.size
 have Y:=H.size
 have qo:=qm.out
 have Z:w.heap.size<=c:=by omega
 have y:Below w.heap.size w w3:=HA.out.2.1.trans ((H.trans (o.mono Y)).mono P)
 have z:(fun g=>g<m.heap.size\/(C.heap.size<=g/\g<w3.heap.size)) c:= .inr ⟨eO qo,ol⟩
 have N:=ah (au s (au l (au y (au z (au Z P)))))
 clear b o l s P Y y z Z h2 H qC c0 c1 cl
 go_wp2
 go_loopw [7,8,16] (fun _ _ i wr=>∃(k:Nat) (G:Nat->Prop),k<=9/\i= .int .i64 k/\St G wb k wr/\(∀g,g<m.heap.size\/g=c->G g)/\Row wr c 45 (oR k)/\Below w.heap.size w wr) (fun _ _ i _=>9 - (intOf i).toNat)
 case atStart=>exact⟨0,_,by decide,rfl,N.out.1,fun g e=>e.elim .inl (fun e=>e▸N.out.2.2.2.1),N.out.2.1,N.out.2.2.1⟩
 case round=>
  obtain⟨k,G,hk,rfl,b,hG,hO,hB⟩:=hrel
  by_cases p:k<9
  ·have q9:(k:Int)<9:=by omega
   obtain⟨t0,t1,t2,t3,t4,t5⟩:=UN p
   have j:=Row.keep HA.out.1 (Keep.of_below hB (fun _=>False)) id
   have d0:=(Row.cell j (k*6)).trans t0
   have d1:=(Row.cell j (k*6+1)).trans t1
   have d2:=(Row.cell j (k*6+2)).trans t2
   have d3:=(Row.cell j (k*6+3)).trans t3
   have d4:=(Row.cell j (k*6+4)).trans t4
   have d5:=(Row.cell j (k*6+5)).trans t5
   have dl:=Row.lt j
   have q:=aG wr (.cells #[.int .i64 (sK k),.int .i64 0,.string (sD k),.int .i64 0,.slice none 0 0,.slice none 0 0] 49)
   have a:=aH wr (.cells #[.int .i64 (sK k),.int .i64 0,.string (sD k),.int .i64 0,.slice none 0 0,.slice none 0 0] 49)
   obtain⟨W,qf⟩:∃x:World,Hid (wr.alloc (.cells #[.int .i64 (sK k),.int .i64 0,.string (sD k),.int .i64 0,.slice none 0 0,.slice none 0 0] 49)=x):=⟨_,ah rfl⟩
   rw[qf.out] at q a
   obtain⟨V,pV⟩:∃x:Nat,Hid (wr.heap.size=x):=⟨_,ah rfl⟩
   rw[pV.out] at a
   have t:=St.frame (by omega) b (Keep.of_below q (fun _=>False)) (fun _ e=>e.elim)
   have S:=St.step p t
   rw[show kQ (sK k) 0 (sD k) 0= .agg #[.int .i64 (sK k),.int .i64 0,.string (sD k),.int .i64 0,.slice none 0 0,.slice none 0 0] from rfl] at S
   have q8:=ah S
   have tl:=(aj.1 a).1
   have f0:W.cell? ⟨V,0,none⟩=some (.int .i64 (sK k)):=by simp[World.cell?,a]
   have f1:W.cell? ⟨V,1,none⟩=some (.int .i64 0):=by simp[World.cell?,a]
   have f2:W.cell? ⟨V,2,none⟩=some (.string (sD k)):=by simp[World.cell?,a]
   have f3:W.cell? ⟨V,3,none⟩=some (.int .i64 0):=by simp[World.cell?,a]
   have f4:W.cell? ⟨V,4,none⟩=some (.slice none 0 0):=by simp[World.cell?,a]
   have f5:W.cell? ⟨V,5,none⟩=some (.slice none 0 0):=by simp[World.cell?,a]
   have A:=ah (au hO (au hB (au hG q)))
   clear t0 t1 t2 t3 t4 t5 j b t S a hO hB hG q
   go_upto_region 6 with (fail)
   rw[qf.out]
   try rw[pV.out]
   go_wp2_with (first
    |(go_at_call 18;go_must (refine q8.out.mono ?_;rintro e w5 ⟨rfl,B,M⟩;refine Stop.of ?_)))
   refine Stop.on ?_
   rw[show qE 0 (aS k) (aT k) (aN k)= .agg #[.int .i64 0,.int .i64 (aS k),.string (aT k),.int .i64 (aN k)] from rfl]
   have Q:=A.out.2.2.1 c (.inr rfl)
   have J:Row w5 c 45 (oR k):=Row.keep (Row.keep A.out.1 (Keep.of_below A.out.2.2.2 (fun _=>False)) id) M (fun e=>e (.inl Q))
   have af:=Row.lt J
   have D:=A.out.2.1.trans (A.out.2.2.2.mono A.out.2.1.size)
   have p9:Below w.heap.size w w5:=D.trans (M.fw D.size (fun g hg e=>e (.inl (A.out.2.2.1 g (.inl (aA hg N.out.2.2.2.2.2))))))
   have H5:=ah (au B (au Q p9))
   clear B M Q D p9 f0 f1 f2 f3 f4 f5 tl d0 d1 d2 d3 d4 d5 dl
   go_wp2_with (first
    |((refine bS rfl ?_);intro K hK;(refine wp_store_row 45 (.tmp 26) (.tmp 25) rfl c (k*4) 45 _ [.int .i64 0,.int .i64 (aS k),.string (aT k),.int .i64 (aN k)] rfl rfl J mW (by rw[Ve p];show k*4+4<=36;omega) (by intro v hv;simp only[aW,bQ,fJ] at hv;rcases hv with rfl|rfl|rfl|rfl<;>rfl) ?_);intro w6 O R;refine hK _ _ ?_;refine Stop.of ?_))
   refine Stop.on ?_
   rw[Vd p] at O
   have r:=St.frame (by omega) H5.out.1 R (fun g e=>by rw[show g=c from e];exact⟨.inl H5.out.2.1,fun x=>absurd (HA.out.2.2.1 _ x) (aX.2 N.out.2.2.2.2.1)⟩)
   have qb:Below w.heap.size w w6:=H5.out.2.2.trans (R.fw H5.out.2.2.size (fun g hg e=>by have:=N.out.2.2.2.2.1;have e:g=c:=e;omega))
   have H6:=ah (au r (au O qb))
   clear r O qb R J
   go_wp2_with fail
   go_roundw
   case rel=>exact⟨k+1,_,by omega,by go_num,H6.out.1,fun g e=> .inl (.inl (A.out.2.2.1 g e)),H6.out.2.1,H6.out.2.2⟩
   case measure=>simp[intOf];omega
  ·obtain rfl:k=9:=by omega
   have HE:=ah (au hO hB)
   clear b hG hO hB
   go_wp2_with fail
   go_ret
   exact⟨c,rfl,HE.out.1,HE.out.2⟩
theorem JB:kU.size=54:=rfl
theorem Oh (w:World)(k:kg w/\jV w/\mZ w):Calls Tryz.prog 16 #[] w fun e w'=>e= .returned (.bool true)/\Below w.heap.size w w':=by
 have p:=ah k
 clear k
 go_enter Tryz.func16,Tryz.ntmps16
 go_wp2_with fail
 generalize j:w.alloc _=i
 have d:Below w.heap.size w i:=by rw[<-j];exact aG w _
 have f:Row i w.heap.size 49 TD:=by rw[<-j];exact aH w _
 have t:=ah (XM w.heap.size i f (jr p.out (Keep.of_below d (fun _=>False)) (fun _ e=>e.elim)))
 have l:=ah d
 clear j d f
 go_wp2_with (first
  |(go_at_call 37;go_must (refine t.out.mono ?_;rintro e b ⟨c,rfl,a,g⟩;refine Stop.of ?_)))
 refine Stop.on ?_
 have A:b.cell? ⟨c,5,none⟩=some (.int .i64 201):=(Row.cell a 5).trans rfl
 have y:b.cell? ⟨c,8,none⟩=some (.int .i64 0):=(Row.cell a 8).trans rfl
 have x:b.cell? ⟨c,11,none⟩=some (.int .i64 0):=(Row.cell a 11).trans rfl
 have n:b.cell? ⟨c,14,none⟩=some (.string ⟨#[]⟩):=(Row.cell a 14).trans rfl
 have s:b.cell? ⟨c,21,none⟩=some (.int .i64 201):=(Row.cell a 21).trans rfl
 have r:b.cell? ⟨c,27,none⟩=some (.int .i64 1):=(Row.cell a 27).trans rfl
 have q:b.cell? ⟨c,30,none⟩=some (.string kU):=(Row.cell a 30).trans rfl
 have v:b.cell? ⟨c,35,none⟩=some (.int .i64 1):=(Row.cell a 35).trans rfl
 have z:=Row.lt a
 have o:=JB
 have m:=ah (l.out.trans (g.mono l.out.size))
 clear a g
 go_wp2_with fail
 go_ret
 exact⟨rfl,m.out⟩
theorem RV (w:World):Calls Tryz.prog 19 #[.pointer none] w fun e w'=>e= .returned (.int .i64 0)/\w'=w:=by
 go_enter Tryz.func19,Tryz.ntmps19
 go_wp2
 go_ret
 exact⟨rfl,rfl⟩
theorem Mj (w:World):Calls Tryz.prog 21 #[.pointer none] w fun e w'=>e= .returned (.tuple #[.int .i64 0,.int .i64 0])/\w'=w:=by
 go_enter Tryz.func21,Tryz.ntmps21
 go_wp2
 go_ret2
 exact⟨rfl,rfl⟩
theorem Hq (w:World):Calls Tryz.prog 22 #[.pointer none] w fun e w'=>e= .returned (.tuple #[.int .i64 0,.int .i64 0])/\w'=w:=by
 go_enter Tryz.func22,Tryz.ntmps22
 go_wp2
 go_ret2
 exact⟨rfl,rfl⟩
theorem Nn (w:World):Calls Tryz.prog 23 #[.pointer none] w fun e w'=>e= .returned (.int .i64 2)/\w'=w:=by
 go_enter Tryz.func23,Tryz.ntmps23
 go_wp2
 go_ret
 exact⟨rfl,rfl⟩
theorem LU (w:World):Calls Tryz.prog 24 #[.pointer none] w fun e w'=>e= .returned (.int .i64 0)/\w'=w:=by
 go_enter Tryz.func24,Tryz.ntmps24
 go_wp2
 go_ret
 exact⟨rfl,rfl⟩
theorem Dj:(Tryz.prog.info? 55).map (·.size)=some 3:=by kernel_rfl
theorem LJ (w:World):Calls Tryz.prog 20 #[.pointer none] w fun e w'=>e= .returned (.tuple #[.agg #[.slice none 0 0,.slice none 0 0,.int .i64 0],.int .i64 2])/\Below w.heap.size w w':=by
 have a:=aG w (.cells #[.slice none 0 0,.slice none 0 0,.int .i64 0] 55)
 have b:=aH w (.cells #[.slice none 0 0,.slice none 0 0,.int .i64 0] 55)
 obtain⟨o,d⟩:∃x:World,Hid (w.alloc (.cells #[.slice none 0 0,.slice none 0 0,.int .i64 0] 55)=x):=⟨_,ah rfl⟩
 rw[d.out] at a b
 have j:Row o w.heap.size 55 [.slice none 0 0,.slice none 0 0,.int .i64 0]:=b
 have k:=ah a
 clear a b
 go_enter Tryz.func20,Tryz.ntmps20
 go_upto_region 1 with (fail)
 rw[d.out]
 go_wp2_with (first
  |((refine bS rfl ?_);intro K p;(refine wp_store_row 55 (.tmp 2) (.tmp 7) rfl w.heap.size 0 55 _ [.slice none 0 0,.slice none 0 0,.int .i64 0] rfl rfl j Dj (aC 3) (by intro v l;simp only[aW,bQ,fJ] at l;rcases l with rfl|rfl|rfl<;>rfl) ?_);intro i c f;refine p _ _ ?_;refine Stop.of ?_))
 refine Stop.on ?_
 have n:i.heap[w.heap.size]? =some (.cells #[.slice none 0 0,.slice none 0 0,.int .i64 0] 55 (0,0)):=c
 have m:=ah f
 clear c f
 go_wp2_with fail
 (try simp only[Exit.inBlock,Exit.then])
 refine dJ (qY rfl _ i w.heap.size _ (.int .i64 2) rfl (jk i w.heap.size 55 55 _ (0,0) _ n Tryz.underlying55 rfl (by kernel_rfl)) rfl) rfl ?_
 exact⟨rfl,k.out.trans (m.out.fw k.out.size (fun g q e=>by have e:g=w.heap.size:=e;omega))⟩
theorem VF (k c n:Int)(a:ByteArray)(r z:Value)(w:World):Calls Tryz.prog 18 #[.pointer none,.agg #[.int .i64 k,.int .i64 c,.string a,.int .i64 n,r,z]] w fun e w'=>e= .returned (qE 2 0 ⟨#[]⟩ 0)/\Below w.heap.size w w':=by
 have b:=rG w #[.int .i64 k,.int .i64 c,.string a,.int .i64 n,r,z] #[.int .i64 0,.int .i64 0,.string ⟨#[]⟩,.int .i64 0] 49 45
 dsimp only at b
 obtain⟨B,q⟩:∃x:World,Hid ((w.alloc (.cells #[.int .i64 k,.int .i64 c,.string a,.int .i64 n,r,z] 49)).alloc (.cells #[.int .i64 0,.int .i64 0,.string ⟨#[]⟩,.int .i64 0] 45)=x):=⟨_,ah rfl⟩
 rw[q.out] at b
 obtain⟨i,f⟩:∃x:Nat,Hid (w.heap.size=x):=⟨_,ah rfl⟩
 rw[f.out] at b
 obtain⟨s,l,t,p⟩:=b
 have G:=f.out
 have j:Row B (i+1) 45 [.int .i64 0,.int .i64 0,.string ⟨#[]⟩,.int .i64 0]:=l
 have y:=ah (au p G)
 clear s l t p
 go_enter CF,yZ
 go_upto_region 1 with (fail)
 rw[q.out]
 try rw[f.out]
 go_wp2_with (first
  |((refine bS rfl ?_);intro K F;(refine wp_store_row 45 (.tmp 4) (.tmp 12) rfl (i+1) 0 45 _ [.int .i64 2,.int .i64 0,.string ⟨#[]⟩,.int .i64 0] rfl rfl j mW (aC 4) (by intro v A;simp only[aW,bQ,fJ] at A;rcases A with rfl|rfl|rfl|rfl<;>rfl) ?_);intro E m o;refine F _ _ ?_;refine Stop.of ?_))
 refine Stop.on ?_
 have D:E.heap[i+1]? =some (.cells #[.int .i64 2,.int .i64 0,.string ⟨#[]⟩,.int .i64 0] 45 (0,0)):=m
 have C:=ah o
 clear m o
 go_wp2_with fail
 (try simp only[Exit.inBlock,Exit.then])
 refine dJ (gI rfl _ _ (i+1) _ rfl (jk _ (i+1) 45 45 _ (0,0) _ D kr rfl (by kernel_rfl))) rfl ?_
 have d:=y.out.1
 refine⟨rfl,?_⟩
 rw[y.out.2]
 exact d.trans (C.out.fw (by rw[<-y.out.2] at d ⊢;exact d.size) (fun g H e=>by have e:g=i+1:=e;omega))
theorem Ba (k c n:Int)(a:ByteArray)(z A:Value)(w:World)(X:kg w/\jV w/\mZ w):
  Calls Tryz.prog 5 #[.agg #[.int .i64 k,.int .i64 c,.string a,.int .i64 n,z,A]] w fun e w'=>e= .returned (.bool true)/\Below w.heap.size w w':=by
 have i:=aG w (.cells #[.int .i64 k,.int .i64 c,.string a,.int .i64 n,z,A] 49)
 have j:=aH w (.cells #[.int .i64 k,.int .i64 c,.string a,.int .i64 n,z,A] 49)
 obtain⟨w1,J⟩:∃x:World,Hid (w.alloc (.cells #[.int .i64 k,.int .i64 c,.string a,.int .i64 n,z,A] 49)=x):=⟨_,ah rfl⟩
 rw[J.out] at i j
 have R:=ah (Oh w1 (jr X (Keep.of_below i (fun _=>False)) (fun _ e=>e.elim)))
 obtain⟨sb,D⟩:∃x:Nat,Hid (w.heap.size=x):=⟨_,ah rfl⟩
 rw[D.out] at j
 have W:=ah j
 have M:=ah i
 clear X i j
 go_enter Tryz.func5,Tryz.ntmps5
 go_upto_region 1 with (fail)
 rw[J.out]
 try rw[D.out]
 go_wp2_with (first
  |(go_at_call 16;go_must (refine R.out.mono ?_;rintro e B ⟨rfl,s⟩;refine Stop.of ?_)))
 refine Stop.on ?_
 have F:=(s.block sb (aj.1 W.out).1).trans W.out
 have r:=ah F
 have y:=ah (M.out.trans (s.mono M.out.size))
 clear s F
 go_wp2_with (first
  |(go_at_call 20;go_must (refine(LJ B).mono ?_;rintro e o ⟨rfl,C⟩;refine Stop.of ?_)))
 refine Stop.on ?_
 have O:=aG o (.cells #[.slice none 0 0,.slice none 0 0,.int .i64 0] 55)
 have E:Row (o.alloc (.cells #[.slice none 0 0,.slice none 0 0,.int .i64 0] 55)) o.heap.size 55 [.slice none 0 0,.slice none 0 0,.int .i64 0]:=aH o _
 have q:=ah (au C O)
 clear C O
 go_wp2_with (first
  |((refine bS rfl ?_);intro K hK;(refine wp_store_row 55 (.tmp 4) (.tmp 15) rfl o.heap.size 0 55 _ [.slice none 0 0,.slice none 0 0,.int .i64 0] rfl rfl E Dj (aC 3) (by intro v Z;simp only[aW,bQ,fJ] at Z;rcases Z with rfl|rfl|rfl<;>rfl) ?_);intro d I H;refine hK _ _ ?_;refine Stop.of ?_))
 refine Stop.on ?_
 have f:d.heap[o.heap.size]? =some (.cells #[.slice none 0 0,.slice none 0 0,.int .i64 0] 55 (0,0)):=I
 have t:Keep (fun g=>B.heap.size<=g) B d:=((Keep.of_below q.out.1 (fun g=>B.heap.size<=g)).trans (Keep.of_below q.out.2 (fun g=>B.heap.size<=g)) (fun _ _ e=>e)).trans H (fun g _ e=>by rw[show g=o.heap.size from e];exact q.out.1.size)
 have b:=(t.block sb (aj.1 r.out).1 (fun e=>absurd (aj.1 r.out).1 (aX.2 e))).trans r.out
 obtain⟨S,T⟩:∃x:Nat,Hid (o.heap.size=x):=⟨_,ah rfl⟩
 rw[T.out] at f ⊢
 have Y:d.cell? ⟨S,0,none⟩=some (.slice none 0 0):=by simp[World.cell?,f]
 have V:=(aj.1 f).1
 have s0:d.cell? ⟨sb,0,none⟩=some (.int .i64 k):=by simp[World.cell?,b]
 have s1:d.cell? ⟨sb,1,none⟩=some (.int .i64 c):=by simp[World.cell?,b]
 have s2:d.cell? ⟨sb,2,none⟩=some (.string a):=by simp[World.cell?,b]
 have s3:d.cell? ⟨sb,3,none⟩=some (.int .i64 n):=by simp[World.cell?,b]
 have s4:d.cell? ⟨sb,4,none⟩=some z:=by simp[World.cell?,b]
 have s5:d.cell? ⟨sb,5,none⟩=some A:=by simp[World.cell?,b]
 have sl:=(aj.1 b).1
 have pV:=ah f
 have G:=ah (y.out.trans (t.fw y.out.size (fun g hg e=>absurd hg (aX.2 (aI y.out.size e)))))
 clear E I H t b f
 go_wp2_with (first
  |(go_at_call 21;go_must (refine(Mj d).mono ?_;rintro e m ⟨rfl,P⟩;subst m))
  |(go_at_call 22;go_must (refine(Hq d).mono ?_;rintro e m ⟨rfl,P⟩;subst m))
  |(go_at_call 18;go_must (refine(VF k c n a z A d).mono ?_;rintro e m ⟨rfl,l⟩;refine Stop.of ?_)))
 refine Stop.on ?_
 have v5:m.cell? ⟨S,0,none⟩=some (.slice none 0 0):=(l.cell (p:=⟨S,0,none⟩) V).trans Y
 have p9:=aA V l.size
 rw[show qE 2 0 ⟨#[]⟩ 0= .agg #[.int .i64 2,.int .i64 0,.string ⟨#[]⟩,.int .i64 0] from rfl]
 have Q:=ah (G.out.trans (l.mono G.out.size))
 clear s0 s1 s2 s3 s4 s5 sl Y V l
 go_wp2_with (first
  |(go_at_call 23;go_must (refine(Nn m).mono ?_;rintro e N ⟨rfl,P⟩;subst N))
  |(go_at_call 19;go_must (refine(RV m).mono ?_;rintro e N ⟨rfl,P⟩;subst N))
  |(go_at_call 24;go_must (refine(LU m).mono ?_;rintro e N ⟨rfl,P⟩;subst N)))
 go_ret
 exact⟨rfl,Q.out⟩
def xM (n:Int):Int:=max (min n 1073741824) 0
theorem FI (n:Int):0<=xM n/\xM n<=1073741824:=by unfold xM;omega
def tX (ns:List Int)(k:Nat):Int:=((ns.take k).map xM).sum
theorem Jj (a:List Int):tX a 0=0:=rfl
theorem Bd (a:List Int)(k:Nat)(h:k<a.length):tX a (k+1)=tX a k+xM a[k]:=by
 unfold tX
 rw[aO h,dF,jK]
 simp
theorem FH (a:List Int):∀k,k<=a.length->0<=tX a k/\tX a k<=k*1073741824
 |0,_=>by rw[Jj];decide
 |k+1,h=>by
  have b:=FH a k (by omega)
  have c:=FI a[k]
  rw[Bd a k (by omega)]
  omega
theorem sS.now {G:Nat->Prop}{wb N R:Nat}{now dr:Int}{past cur:Bool}{buf:ByteArray}{w:World}(h:sS G wb N R now dr past cur buf w):
  Calls Tryz.prog 19 #[.pointer (some ⟨wb,0,none⟩)] w fun e w'=>e= .returned (.int .i64 now)/\w'=w:=by
 obtain⟨F,d,v,sb,c,T,h,_⟩:=h
 obtain⟨_,_,_,_,b,_,_,a⟩:=h.wd.cells
 clear h
 go_enter Tryz.func19,Tryz.ntmps19
 go_wp2
 go_ret
 exact⟨rfl,rfl⟩
theorem Aq (no:Option Addr)(nc:Nat)(a:List Int)(mD:Bool)(w:World)(Q:∀k (h:k<a.length),∃b o,no=some ⟨b,o,none⟩/\w.cell? ⟨b,o+k,none⟩=some (.int .i64 a[k]))(hT:kg w/\jV w/\mZ w):
  Calls Tryz.prog 4 #[.slice no a.length nc,.bool mD] w fun e w'=>e= .returned (.bool true)/\Below w.heap.size w w':=by
 have H:=ah (fun (W:World) (hb:Below w.heap.size w W)=>Oh W (jr hT (Keep.of_below hb (fun _=>False)) (fun _ e=>e.elim)))
 have HN:=ah Q
 have HT:=ah hT
 clear hT Q
 go_enter Tryz.func4,Tryz.ntmps4
 by_cases hl:300<a.length
 ·have bg:(300:Int)<(a.length:Int):=by omega
  go_wp2_with (first
   |(go_at_call 16;go_must (refine(H.out w (aJ _ _)).mono ?_;rintro e M ⟨rfl,q⟩;refine Stop.of ?_)))
  refine Stop.on ?_
  have HB:=ah q
  clear q
  go_wp2_with (first
   |(go_at_call 16;go_must (refine(H.out M HB.out).mono ?_;rintro e w2 ⟨rfl,z⟩)))
  go_ret
  exact⟨rfl,HB.out.trans (z.mono HB.out.size)⟩
 ·have bg:¬(300:Int)<(a.length:Int):=by omega
  go_wp2_with (first
   |(go_at_call 16;go_must (refine(H.out w (aJ _ _)).mono ?_;rintro e M ⟨rfl,q⟩;refine Stop.of ?_)))
  refine Stop.on ?_
  have J:=jr HT.out (Keep.of_below q (fun _=>False)) (fun _ e=>e.elim)
  have q9:=ah (Wn (fun g=>g<M.heap.size) 0 0 64 6 64 58 5 (by decide) (by decide) (by decide) (by decide) rfl (by decide) (by decide) M J (fun _ e=>e) (Qf J))
  have R:=ah q
  clear q J
  go_wp2_with (first
   |(go_at_call 17;go_must (refine q9.out.mono ?_;rintro e w2 ⟨wb,rfl,ai,⟨F,d,v,sb,k0,T,h2⟩,z⟩;refine Stop.of ?_)))
  refine Stop.on ?_
  have j:sS (fun g=>g<M.heap.size) wb 58 5 (tX a 0) 0 false false ⟨#[]⟩ w2:=⟨F,d,v,sb,k0,T,h2⟩
  have HS:=ah (au j (R.out.trans (z.mono R.out.size)))
  clear j h2 z ai
  go_wp2
  go_loopw [6,7,8,9] (fun nw i _ _ wr=>∃(k:Nat) (G:Nat->Prop),k<=a.length/\i= .int .i64 k/\nw= .int .i64 (tX a k)/\sS G wb 58 5 (tX a k) 0 false false ⟨#[]⟩ wr/\(∀g,g<M.heap.size->G g)/\Below w.heap.size w wr) (fun _ i _ _ _=>a.length - (intOf i).toNat)
  case atStart=>exact⟨0,_,aR _,rfl,rfl,HS.out.1,fun _ e=>e,HS.out.2⟩
  case round=>
   obtain⟨k,G,hk,rfl,rfl,j,hG,hB⟩:=hrel
   by_cases pV:k<a.length
   ·have dn:(k:Int)<(a.length:Int):=by omega
    obtain⟨nb,S,rfl,Q⟩:=HN.out k pV
    have P:=(hB.cell (p:=⟨nb,S+k,none⟩) (aD w _ Q)).trans Q
    have av:=aD wr _ P
    have r:=Bd a k pV
    have N:=FH a k hk
    have n:=FI a[k]
    have s:=j.tick a[k] (max a[k] 0) (xM a[k]) (tX a (k+1)) rfl (by unfold xM;omega) (by omega) (by omega)
    rw[show kQ 6 0 ⟨#[]⟩ a[k]= .agg #[.int .i64 6,.int .i64 0,.string ⟨#[]⟩,.int .i64 a[k],.slice none 0 0,.slice none 0 0] from rfl] at s
    obtain⟨t0,qO⟩:∃t0,Hid (tX a k=t0):=⟨_,ah rfl⟩
    obtain⟨A,l⟩:∃A,Hid (tX a (k+1)=A):=⟨_,ah rfl⟩
    obtain⟨X,qm⟩:∃X,Hid (a[k]=X):=⟨_,ah rfl⟩
    obtain⟨y,q8⟩:∃y,min X 1073741824=y:=⟨_,rfl⟩
    have bf:max y 0=xM X:=by rw[<-q8];rfl
    obtain⟨b,hb⟩:∃b,Hid (xM X=b):=⟨_,ah rfl⟩
    rw[qm.out] at s P r n
    rw[l.out] at s r
    rw[qO.out] at r N j
    rw[qO.out]
    rw[hb.out] at bf r n
    have eH:IntKind.i64.wrap (t0+b)=A:=by rw[aM _ (by omega)];omega
    have af:=ah s
    have V:=ah (au hG (au hB (au Q (au N n))))
    clear s j hG hB Q r N n
    go_wp2_with (first
     |(go_at_call 18;go_must (refine af.out.mono ?_;rintro e Y ⟨rfl,E,qy⟩;refine Stop.of ?_)))
    refine Stop.on ?_
    rw[show qE 0 0 ⟨#[]⟩ A= .agg #[.int .i64 0,.int .i64 0,.string ⟨#[]⟩,.int .i64 A] from rfl]
    have B:=aG Y (.cells #[.int .i64 0,.int .i64 0,.string ⟨#[]⟩,.int .i64 A] 45)
    have f:=aH Y (.cells #[.int .i64 0,.int .i64 0,.string ⟨#[]⟩,.int .i64 A] 45)
    obtain⟨D,ql⟩:∃x:World,Hid (Y.alloc (.cells #[.int .i64 0,.int .i64 0,.string ⟨#[]⟩,.int .i64 A] 45)=x):=⟨_,ah rfl⟩
    rw[ql.out] at B f
    obtain⟨ab,p9⟩:∃x:Nat,Hid (Y.heap.size=x):=⟨_,ah rfl⟩
    rw[p9.out] at f
    have qC:=R.out.size
    have K:Below w.heap.size w Y:=V.out.2.1.trans (qy.fw V.out.2.1.size (fun g hg e=>e (V.out.1 g (aA hg qC))))
    have I:Below w.heap.size w D:=K.trans (B.mono K.size)
    have m:=E.stepG (Keep.of_below B (fun _=>False)) (fun _ e=>e.elim)
    have c:=ah m.now
    have O:=m.mD
    rw[show qE 0 0 ⟨#[]⟩ (CB false)= .agg #[.int .i64 0,.int .i64 0,.string ⟨#[]⟩,.int .i64 0] from rfl] at O
    have qc:=ah O
    clear O
    rw[show kQ 8 0 ⟨#[]⟩ 0= .agg #[.int .i64 8,.int .i64 0,.string ⟨#[]⟩,.int .i64 0,.slice none 0 0,.slice none 0 0] from rfl] at qc
    have qo:D.cell? ⟨nb,S+k,none⟩=some (.int .i64 X):=by
     have:=(I.cell (p:=⟨nb,S+k,none⟩) (aD w _ V.out.2.2.1)).trans V.out.2.2.1
     rwa [qm.out] at this
    have di:=aD D _ qo
    have a0:D.cell? ⟨ab,0,none⟩=some (.int .i64 0):=by simp[World.cell?,f]
    have a1:D.cell? ⟨ab,1,none⟩=some (.int .i64 0):=by simp[World.cell?,f]
    have a2:D.cell? ⟨ab,2,none⟩=some (.string ⟨#[]⟩):=by simp[World.cell?,f]
    have a3:D.cell? ⟨ab,3,none⟩=some (.int .i64 A):=by simp[World.cell?,f]
    have dM:=(aj.1 f).1
    have HG:Hid (∀g,g<M.heap.size->(fun g=>G g\/(Y.heap.size<=g/\g<D.heap.size)) g):=ah fun g hg=> .inl (V.out.1 g hg)
    have Z:=ah (au m I)
    clear B f K I E m qy P av
    go_upto_region 9 with (fail)
    rw[ql.out]
    try rw[p9.out]
    cases mD with
    |false=>
     go_wp2_with (first
      |(go_at_call 19;go_must (refine c.out.mono ?_;rintro e t ⟨rfl,hw⟩;subst t)))
     go_roundw
     case rel=>exact⟨k+1,_,by omega,by go_num,by rw[l.out],by rw[l.out];exact Z.out.1,HG.out,Z.out.2⟩
     case measure=>simp[intOf];omega
    |true=>
     have d9:∀W:World,(Instr.field 45 (.agg #[.int .i64 0,.int .i64 0,.string ⟨#[]⟩,.int .i64 0]) 0).run Tryz.prog W= .ok (.int .i64 0) W:=fun _=>by kernel_rfl
     by_cases h5:k%5=0
     ·go_wp2_with (first
       |(go_at_call 19;go_must (refine c.out.mono ?_;rintro e t ⟨rfl,hw⟩;subst t))
       |(go_at_call 18;go_must (refine qc.out.mono ?_;rintro e t ⟨rfl,C,qf⟩)))
      have qb:Below w.heap.size w t:=Z.out.2.trans (qf.fw Z.out.2.size (fun g hg e=>e (HG.out g (aA hg qC))))
      have H5:=ah (au C qb)
      clear C qb qf
      go_roundw
      case rel=>exact⟨k+1,_,by omega,by go_num,by rw[l.out],by rw[l.out];exact H5.out.1,HG.out,H5.out.2⟩
      case measure=>simp[intOf];omega
     ·go_wp2_with (first
       |(go_at_call 19;go_must (refine c.out.mono ?_;rintro e t ⟨rfl,hw⟩;subst t)))
      go_roundw
      case rel=>exact⟨k+1,_,by omega,by go_num,by rw[l.out],by rw[l.out];exact Z.out.1,HG.out,Z.out.2⟩
      case measure=>simp[intOf];omega
   ·obtain rfl:k=a.length:=by omega
    have c:=ah j.now
    have HB:=ah hB
    clear j hG hB
    go_wp2_with (first
     |(go_at_call 19;go_must (refine c.out.mono ?_;rintro e t ⟨rfl,hw⟩;subst t)))
    go_ret
    exact⟨rfl,HB.out⟩
end Go.Proofs.YtpmbddooibgnaaaGreatDoor
