/- parts -/
import Derived.Test.YtpmbddooibgnaaaGreatDoorN19
import Derived.Defers
import Derived.Recover
set_option maxRecDepth 100000
set_option maxHeartbeats 8000000
set_option linter.all false
namespace Go.Proofs.YtpmbddooibgnaaaGreatDoor
open Go.RowKit
def LB (g:Nat)(cb:Array Value)(F:List Pr->List Pr)(bs:List (Nat×ByteArray)):Prop:=
 ∀(nb B:Nat) (nd:Nd) (S:Nat->Prop) (w:World),(∀g,S g->g<w.heap.size)->(∀p∈bs,rR w p.1 p.2/\p.1<B)->ig w S B nb nd->iK nd.pairs->nd.pairs.length<=999999->
  Calls Tryz.prog g (#[.pointer (some ⟨nb,0,none⟩)]++cb) w fun e w'=>e= .returned (.tuple #[])/\ig w' S B nb ⟨F nd.pairs,nd.keys,nd.kids⟩/\Below B w w'
def yO (w:World)(S:Nat->Prop)(bs:List (Nat×ByteArray)):Prop:=∀p∈bs,rR w p.1 p.2/\¬S p.1
theorem yO.step {w c:World}{S S':Nat->Prop}{d:List (Nat×ByteArray)}(h:yO w S d)(e:Step S S' w c):yO c S' d:=fun p g=>by
 obtain⟨a,b⟩:=h p g
 have f:=(mM a).2
 exact⟨(e.1.block _ f b).trans a,fun x=>(e.2 _ x).elim b (fun y=>absurd f (aX.2 y))⟩
theorem yO.to {w a:World}{S:Nat->Prop}{b:List (Nat×ByteArray)}(h:yO w S b){d:Nat->Prop}(e:Step S d w a):∀p∈b,rR a p.1 p.2/\p.1<w.heap.size:=fun p c=>⟨((h.step e) p c).1,(mM (h p c).1).2⟩
theorem Inv.Xg {b:cK}{S:Nat->Prop}{c:VS}{B:Nat}{w d:World}(h:Inv b S c w)(a:Below B w d)(i:∀g,S g->g<B):Inv b S c d:=
 h.nY (M:=fun g=>B<=g) ⟨a.os,a.tape,a.output,a.size,fun k _ f=>a.block k (jX.1 f)⟩ (fun g e=>jX.2 (i g e))
theorem bY.WH {g w f:World}{t:Nat}{e:VS}{a c b d:Int}(h:bY w t e a c)(i:Below g.heap.size w f)(j:bY g t e b d):bY f t e a c:=
 (i.block t (aj.1 j).1).trans h
theorem Step.TA {S c:Nat->Prop}{w d b:World}(h:Step S c w d)(a:Below w.heap.size d b):Step S c w b:=
 ⟨⟨a.os.trans h.1.os,a.tape.trans h.1.tape,a.output.trans h.1.output,aI h.1.size a.size,fun k e f=>(a.block k e).trans (h.1.block k e f)⟩,h.2⟩
theorem om.mono {g:VS}{f:cK}{l S:Nat->Prop}{j:Nd}{a:ByteArray}{k w:World}{e:Ending}{i:World}(h:om g f S j a w e i)(b:Step l S k w):om g f l j a k e i:=by
 rcases h with ⟨v,m,o,c,n,r,p,y,q,x,t⟩|⟨d,s⟩
 ·exact .inl ⟨v,m,o,c,n,r,p.base b.1.size,y,q,x,b.trans t⟩
 ·exact .inr ⟨d,s.after b rfl rfl⟩
theorem M9 (t:Nat)(n:VS)(c m k:Int)(o:cK)(S:Nat->Prop)(i j:ByteArray)(g:Nat)(C:Array Value)(F:List Pr->List Pr)(E:List (Nat×ByteArray))(H:∀f w,(callFunc g f).run Tryz.prog w= .ok (.enter g f) w)(D:LB g C F E)
  (w:World) (h:Inv o S n w) (T:bY w t n c m) (l:¬S t) (A:yO w S E) (Y:Nd.Ok ⟨F [],[],[]⟩) (G:F []≠[]/\Nd.size ⟨F [],[],[]⟩<=512):
  Calls Tryz.prog 544 #[.pointer (some ⟨t,0,none⟩),.int .i64 0,.int .i64 k,.string i,.string j,.func (.func g) #[] C] w (om n o S ⟨F [],[],[]⟩ i w):=by
 have P:=ah D;clear D
 have B:=ah G;clear G
 have d:=h.sub
 go_enter Tryz.func544,Tryz.ntmps544
 have a:=aG w (.cells #[.slice none 0 0,.slice none 0 0,.slice none 0 0] 272)
 have y:Step S S w (w.alloc (.cells #[.slice none 0 0,.slice none 0 0,.slice none 0 0] 272)):=Step.of_below a
 have q:ig (w.alloc (.cells #[.slice none 0 0,.slice none 0 0,.slice none 0 0] 272)) S w.heap.size w.heap.size ⟨[],[],[]⟩:=
  ⟨fun x=>absurd (d _ x) (cO _),aC _,_,_,_,aH w _,aV.nil _ _ _ _ _,aV.nil _ _ _ _ _,aV.nil _ _ _ _ _⟩
 go_wp2_with (first
  |((refine(P.out w.heap.size w.heap.size ⟨[],[],[]⟩ S _ (fun g R=>aA (d g R) a.size) (A.to y) q Cx (aR _)).mono ?_);rintro e N ⟨rfl,r,b⟩)
  |(go_at_call 561;go_must ((refine(Bp t n c m o S w.heap.size ⟨F [],[],[]⟩ i N (h.below (a.trans b)) (T.step l (Step.of_below (a.trans b))).1 l r.lu Y (.inr B.out.1) B.out.2).mono ?_);rintro e w2 (⟨v,J,O,s,M,rfl,p2,K,V,p5,W⟩|⟨z,rfl,I,p,Q,Z,g3,X⟩)<;>refine Stop.of ?_)))
 rotate_left
 ·refine Stop.on ?_
  exact⟨rfl,om.mono (.inr ⟨z,rfl,I,p,Q,Z,g3,X⟩) (Step.of_below (a.trans b))⟩
 refine Stop.on ?_
 go_wp2_with fail
 go_ret
 exact om.mono (.inl ⟨v,J,O,s,M,rfl,p2,K,V,p5,W⟩) (Step.of_below (a.trans b))
theorem Na (t:Nat)(q:VS)(f n b d:Int)(p:cK)(S:Nat->Prop)(G a:ByteArray)(c:Nd)(g:Nat)(O:Array Value)(F:List Pr->List Pr)(Q:List (Nat×ByteArray))(T:∀l w,(callFunc g l).run Tryz.prog w= .ok (.enter g l) w)(P:LB g O F Q)
  (w:World) (h:Inv p S q w) (E:bY w t q f n) (m:¬S t) (M:yO w S Q) (z:Fe p b c) (I:c.kids=[]) (hd:d<=40) (hr:iK c.pairs) (ok:Nd.Ok ⟨F c.pairs,[],[]⟩) (R:F c.pairs≠[]/\Nd.size ⟨F c.pairs,[],[]⟩<=512):
  Calls Tryz.prog 544 #[.pointer (some ⟨t,0,none⟩),.int .i64 b,.int .i64 d,.string G,.string a,.func (.func g) #[] O] w (om q (p.gone b) S ⟨F c.pairs,[],[]⟩ a w):=by
 have Hf:=ah P;clear P
 have N:=ah R;clear R
 have x:=h.sub
 have p9:(b==0)=false:=by have:=z.lo;simp;omega
 have J:c.kids.isEmpty=true:=by rw[I];rfl
 have pV:=z.fits.np
 have o:=z.fits.kk
 rw[I] at o
 have k:c.keys=[]:=bK (by simpa using o)
 have r:=ah k;clear k o
 go_enter Tryz.func544,Tryz.ntmps544
 go_wp2_with (first
  |(go_at_call 563;go_must ((refine(OE t q f n b d p S c w h E m z hd).mono ?_);rintro e w1 ⟨C,rfl,s,y,i⟩))
  |(go_at_call 219;go_must ((refine(mX C c _ S s.lu).mono ?_);rintro e A ⟨rfl,hw⟩;subst A;rw[J]))
  |((refine(Hf.out C w.heap.size c S _ y.sub (M.to i) s hr (by omega)).mono ?_);rw[r.out,I];rintro e A ⟨rfl,H,j⟩)
  |(go_at_call 561;go_must ((refine(Bp t q f n (p.gone b) S C ⟨F c.pairs,[],[]⟩ a A (y.Xg j x) ((E.step m i).1.WH j E) m H.lu ok (.inr N.out.1) N.out.2).mono ?_);rintro e w3 (⟨v,W,Z,D,Y,rfl,p2,X,p4,p5,p6⟩|⟨K,rfl,V,B,g1,g2,g3,g4⟩)<;>refine Stop.of ?_)))
 rotate_left
 ·refine Stop.on ?_
  exact⟨rfl,om.mono (.inr ⟨K,rfl,V,B,g1,g2,g3,g4⟩) (i.TA j)⟩
 refine Stop.on ?_
 go_wp2_with fail
 go_ret
 exact om.mono (.inl ⟨v,W,Z,D,Y,rfl,p2,X,p4,p5,p6⟩) (i.TA j)
theorem DK (t:Nat)(p:VS)(a f:Int)(k:cK)(v:Value)(b:Int)(d:ByteArray)(z:Nd)(S:Nat->Prop)(w:World)(h:Inv k S p w)(J:bY w t p a f)(B:¬S t)(E:QS w S v [(b,d)])(G:Fe k b z)(O:z.kids=[]):
  Calls Tryz.prog 543 #[.pointer (some ⟨t,0,none⟩),v] w fun e I=>e= .returned (.int .i64 b)/\Below w.heap.size w I:=by
 have m:=E
 obtain⟨ao,c,rfl,P,W,_,_⟩:=bq.form E
 obtain⟨j,A,rfl,s,D⟩:=m.at rfl 0 (nP 0)
 have g:=aD w _ s
 go_enter Tryz.func543,Tryz.ntmps543
 have K:w.cell? ⟨j,A,none⟩=some (.int .i64 b):=s
 have N:w.cell? ⟨j,A+1,none⟩=some (.string d):=D
 have C:j<w.heap.size:=g
 clear s D g
 go_wp2
 go_loopw [1,5,6,7] (fun l _ _ _ wr=>l= .slice (some ⟨j,A,none⟩) 1 c/\wr=w) (fun _ _ _ _ _=>0)
 case atStart=>exact⟨rfl,rfl⟩
 case round=>
  obtain⟨rfl,rfl⟩:=hrel
  go_wp2_with fail
  go_loopw [8,9,10,11] (fun x y _ _ n=>x= .int .i64 b/\y= .int .i64 0/\n=wr) (fun _ _ _ _ _=>0)
  case atStart=>exact⟨rfl,rfl,rfl⟩
  case round=>
   obtain⟨rfl,rfl,rfl⟩:=hrel
   go_wp2_with (first
    |(go_at_call 140;go_must ((refine(o7 t p a f b 0 k S z _ h J G (by omega)).mono ?_);rintro e T ⟨V,rfl,q,o⟩))
    |(go_at_call 562;go_must ((refine(yt _).mono ?_);rintro e F ⟨rfl,Y⟩;subst F;refine Stop.of ?_)))
   refine Stop.on ?_
   obtain⟨_,Z,x1,Q,r,_,_,i⟩:=q.lu
   obtain⟨_,_,X,_,_,_,M⟩:=cells3 r
   rw[O] at i
   obtain⟨H,R,rfl,_⟩:=bq.form i
   go_wp2_with fail
   go_ret
   exact⟨rfl,o⟩
theorem EW (d i:Nat)(w:World):
  CallsD Tryz.prog 560 #[.pointer (some ⟨d,0,none⟩),.pointer (some ⟨i,0,none⟩)] .returning w fun e f g=>e= .returned (.tuple #[])/\f= .returning/\Below w.heap.size w g:=by
 refine xD Tryz.func560 rfl fun a j c=> ?_
 apply vK
 apply nI
 have b:∀w:World,(Instr.typeAssert Value.nilIface 20 656 true).run Tryz.prog w= .ok (.tuple #[.agg #[.int .i64 0],.bool false]) w:=fun _=>by kernel_rfl
 simp[wpOpsS,go_sem,recoverD,c,Tryz.ntmps560,Exit.thenS,b,Array.replicate,List.replicate]
 apply vK
 apply nI
 simp[wpOpsS,go_sem,Exit.thenS]
 refine wpS_cond (t:=false) (by simp[Act.eval]) ?_
 simp only[rV,if_false]
 refine IE (wp_skip ?_)
 cases a
 simp_all [bodyPostS,results,Tryz.results560]
 exact aG _ _
theorem bY.UW {w:World}{t:Nat}{c:VS}{a b e:Int}(h:bY w t c a b):bY (w.setCell ⟨t,2,none⟩ (.int .i64 e)) t c a e:=by
 unfold bY at*
 simp[World.setCell,aK,h]
theorem EX (t:Nat)(P:VS)(l J:Int)(m k:Nat)(b X:Int)(w:World)(F:bY w t P l J)(x:w.heap[m]? =some (.cells #[.pointer (some ⟨t,0,none⟩)] 179 (0,0)))(H:w.heap[k]? =some (.cells #[.int .i64 X] 26 (0,0)))(G:t≠k):
  CallsD Tryz.prog 560 #[.pointer (some ⟨m,0,none⟩),.pointer (some ⟨k,0,none⟩)] (.panicking (brk b)) w fun e u' Q=>e= .returned (.tuple #[])/\settle u'= .returning/\bY Q t P l b/\Q.cell? ⟨k,0,none⟩=some (.int .i64 b)/\Keep (fun g=>g=t\/g=k) w Q:=by
 refine xD Tryz.func560 rfl fun pV cs hu=> ?_
 apply vK
 apply nI
 have Y:∀w:World,(Instr.typeAssert (.iface 656 (.agg #[.int .i64 b])) 20 656 true).run Tryz.prog w= .ok (.tuple #[.agg #[.int .i64 b],.bool true]) w:=fun _=>by kernel_rfl
 simp[wpOpsS,go_sem,recoverD,hu,brk,Tryz.ntmps560,Exit.thenS,Y,Array.replicate,List.replicate]
 obtain⟨a,q⟩:∃a:World,Hid (w.alloc (.cells #[.int .i64 b] 656)=a):=⟨_,ah rfl⟩
 have c:Below w.heap.size w a:=by rw[<-q.out];exact aG w _
 have Z:a.cell? ⟨w.heap.size,0,none⟩=some (.int .i64 b):=by rw[<-q.out];simp
 have A:w.heap.size<a.heap.size:=by rw[<-q.out];simp
 rw[q.out]
 have I:=(aj.1 F).1
 have r:=(aj.1 x).1
 have s:=(aj.1 H).1
 have o:bY a t P l J:=(c.block t I).trans F
 have c0:a.cell? ⟨m,0,none⟩=some (.pointer (some ⟨t,0,none⟩)):=by
  have:=(c.block m r).trans x
  simp[World.cell?,this]
 have N:=(c.block k s).trans H
 have S:∀j,a.frozen? ⟨t,j,none⟩=false:=fun j=>by unfold bY at o;simp[World.frozen?,o]
 have M:=aA I c.size
 have d:=aA r c.size
 have z:=aA s c.size
 apply vK
 apply nI
 simp[wpOpsS,go_sem,Exit.thenS]
 refine wpS_cond (t:=true) (by simp[Act.eval]) ?_
 simp only[jQ]
 refine IE ?_
 have R:t≠m:=fun e=>by subst e;unfold bY at F;rw[x] at F;cases F
 have T:a.drew.cell? ⟨m,0,none⟩=some (.pointer (some ⟨t,0,none⟩))/\a.drew.cell? ⟨w.heap.size,0,none⟩=some (.int .i64 b)/\m<a.drew.heap.size/\w.heap.size<a.drew.heap.size:=⟨c0,Z,d,A⟩
 have f:Keep (· =t) a.drew (a.drew.setCell ⟨t,2,none⟩ (.int .i64 b)):=(Keep.refl (· =t) _).setCell (p:=⟨t,2,none⟩) (.inr rfl) _
 have O:(a.drew.setCell ⟨t,2,none⟩ (.int .i64 b)).cell? ⟨m,0,none⟩=some (.pointer (some ⟨t,0,none⟩))/\(a.drew.setCell ⟨t,2,none⟩ (.int .i64 b)).cell? ⟨w.heap.size,0,none⟩=some (.int .i64 b)/\m<(a.drew.setCell ⟨t,2,none⟩ (.int .i64 b)).heap.size/\w.heap.size<(a.drew.setCell ⟨t,2,none⟩ (.int .i64 b)).heap.size:=
  ⟨(f.cell d (fun e=>R e.symm)).trans c0,(f.cell (p:=⟨w.heap.size,0,none⟩) A (by show ¬w.heap.size=t;omega)).trans Z,aA d f.size,aA A f.size⟩
 have y:bY (a.drew.setCell ⟨t,2,none⟩ (.int .i64 b)) t P l b:=bY.UW (w:=a.drew) o
 have n:(a.drew.setCell ⟨t,2,none⟩ (.int .i64 b)).heap[k]? =some (.cells #[.int .i64 X] 26 (0,0)):=(f.block k z (fun e=>G e.symm)).trans N
 have ql:a.drew.frozen? ⟨t,2,none⟩=false:=S 2
 have D:∃v,a.drew.cell? ⟨t,2,none⟩=some v:=⟨_,by unfold bY at o;show a.cell? _=_;simp[World.cell?,o];rfl⟩
 obtain⟨vz,D⟩:=D
 obtain⟨B,C⟩:∃B:World,Hid (a.drew.setCell ⟨t,2,none⟩ (.int .i64 b)=B):=⟨_,ah rfl⟩
 rw[C.out] at f O y n
 have p9:B.cell? ⟨k,0,none⟩=some (.int .i64 X):=by simp[World.cell?,n]
 have qb:B.frozen? ⟨k,0,none⟩=false:=by simp[World.frozen?,n]
 have qf:=(aj.1 n).1
 have qc:t<a.drew.heap.size:=M
 refine aP (fun W=>W.cell? ⟨m,0,none⟩=some (.pointer (some ⟨t,0,none⟩))/\W.cell? ⟨w.heap.size,0,none⟩=some (.int .i64 b)/\m<W.heap.size/\w.heap.size<W.heap.size) (fun i=> !([7,8].contains i)) [0,1,2,3,4,5,6,7,8] rfl (by kernel_rfl) T ?_
 repeat ((refine bE (v:= ?_) rfl rfl (fun _ _ _ h=>h) rfl (fun W hW=> ?_) ?_);rotate_left;(focus ((try dsimp only at hW);obtain⟨q0,q1,q2,q3⟩:=hW;(go_simp;first|done|with_reducible rfl)));(try simp only[Act.put,ak,ay,ax]))
 refine bT rfl rfl rfl ?_;intro K V;go_simp
 rw[show (a.setCell ⟨t,2,none⟩ (.int .i64 b)).drew=a.drew.setCell ⟨t,2,none⟩ (.int .i64 b) from rfl,C.out]
 refine V.out _ _ O ?_
 refine jR rfl rfl rfl (by kernel_rfl) ?_;intro K V;go_simp
 refine V.out _ _ ?_
 refine bN ?_
 have E:Keep (· =k) B (B.setCell ⟨k,0,none⟩ (.int .i64 b)):=(Keep.refl (· =k) _).setCell (p:=⟨k,0,none⟩) (.inr rfl) _
 refine⟨rfl,_,rfl,_,?_,rfl,rfl,(E.block t (aj.1 y).1 G).trans y,?_,?_⟩
 ·simp[results,Tryz.results560,go_sem]
 ·simp[World.setCell,World.cell?,aK,n]
 ·exact(((Keep.of_below c (fun g=>g=t\/g=k)).drew).trans (f.mono (fun _ _ e=> .inl e)) (fun _ _ e=>e)).trans (E.mono (fun _ _ e=> .inr e)) (fun _ _ e=>e)
theorem Kj (t:Nat)(o:VS)(b l:Int)(g:Nat)(x:Array Value)(w:World)(R A:World->Prop)(H:t<w.heap.size)(D:∀args w,(callFunc g args).run Tryz.prog w= .ok (.enter g args) w)
  (z:Calls Tryz.prog g x ((w.alloc (.cells #[.pointer (some ⟨t,0,none⟩)] 179)).alloc (.cells #[.int .i64 0] 26)) fun e c=>
   (e= .returned (.tuple #[])/\R c/\c.heap[w.heap.size+1]? =some (.cells #[.int .i64 0] 26 (0,0)))\/
   (e= .panicked (brk 12)/\A c/\c.heap[w.heap.size+1]? =some (.cells #[.int .i64 0] 26 (0,0))/\c.heap[w.heap.size]? =some (.cells #[.pointer (some ⟨t,0,none⟩)] 179 (0,0))/\bY c t o b l)):
  Calls Tryz.prog 541 #[.pointer (some ⟨t,0,none⟩),.func (.func g) #[] x] w fun e c=>
   (e= .returned (.int .i64 0)/\∃a,R a/\Keep (· =w.heap.size+1) a c)\/
   (e= .returned (.int .i64 12)/\∃a,A a/\Keep (fun g=>g=t\/g=w.heap.size+1) a c/\bY c t o b 12):=by
 have G:∀(C:Fn) (first cap:Array Value) (w:World),(Instr.makeFunc C first cap).run Tryz.prog w= .ok (.func C first cap) w:=fun _ _ _ _=>rfl
 have N:=ah z;clear z
 go_enter_defers Tryz.func541,Tryz.ntmps541
 go_wp2_with (refine N.out.mono ?_;rintro e a (⟨rfl,F,i⟩|⟨rfl,s,i,r,I⟩)<;>refine Stop.of ?_)
 ·have O:a.cell? ⟨w.heap.size+1,0,none⟩=some (.int .i64 0):=by simp[World.cell?,i]
  have P:a.frozen? ⟨w.heap.size+1,0,none⟩=false:=by simp[World.frozen?,i]
  have K:=(aj.1 i).1
  refine Stop.on ?_
  go_wp2_with fail
  have m:Keep (· =w.heap.size+1) a (a.setCell ⟨w.heap.size+1,0,none⟩ (.int .i64 0)):=Keep.setCell (M:=(· =w.heap.size+1)) (p:=⟨w.heap.size+1,0,none⟩) (Keep.refl _ _) (.inr rfl) _
  have n:(a.setCell ⟨w.heap.size+1,0,none⟩ (.int .i64 0)).cell? ⟨w.heap.size+1,0,none⟩=some (.int .i64 0):=by simp[World.setCell,World.cell?,aK,i]
  have k:w.heap.size+1<(a.setCell ⟨w.heap.size+1,0,none⟩ (.int .i64 0)).heap.size:=aA K m.size
  generalize a.setCell ⟨w.heap.size+1,0,none⟩ (.int .i64 0)=E at*
  refine fe (f:=560) (args:=#[.pointer (some ⟨w.heap.size,0,none⟩),.pointer (some ⟨w.heap.size+1,0,none⟩)]) (by simp) (by simp[go_sem]) ?_
  refine(EW w.heap.size (w.heap.size+1) E).mono ?_
  rintro e B d ⟨rfl,rfl,y⟩
  have v:d.cell? ⟨w.heap.size+1,0,none⟩=some (.int .i64 0):=(y.cell (p:=⟨w.heap.size+1,0,none⟩) k).trans n
  have j:Keep (· =w.heap.size+1) a d:=m.trans (Keep.of_below y (fun _=>False)) (fun _ _ h=>h.elim)
  refine⟨_,?_,.inl ⟨rfl,a,F,j⟩⟩
  simp[results,Tryz.results541,go_sem,v]
 ·refine Stop.on ?_
  refine fe (f:=560) (args:=#[.pointer (some ⟨w.heap.size,0,none⟩),.pointer (some ⟨w.heap.size+1,0,none⟩)]) (by simp) (by simp[go_sem]) ?_
  refine(EX t o b l w.heap.size (w.heap.size+1) 12 0 a I r i (by omega)).mono ?_
  rintro e B d ⟨rfl,J,q,v,m⟩
  show Leaves _ _ _ _ [] (settle B) d
  rw[J]
  refine⟨_,?_,.inr ⟨rfl,a,s,m,q⟩⟩
  simp[results,Tryz.results541,go_sem,v]
structure SB (t:Nat)(mp:VS)(root err:Int)(tb kb:Nat)(key:ByteArray)(W:World):Prop where
 tr:bY W t mp root err
 bx:W.heap[tb]? =some (.cells #[.pointer (some ⟨t,0,none⟩)] 179 (0,0))
 ky:rR W kb key
theorem SB.cells {t:Nat}{i:VS}{a f:Int}{d e:Nat}{b:ByteArray}{W:World}(h:SB t i a f d e b W):
  W.cell? ⟨d,0,none⟩=some (.pointer (some ⟨t,0,none⟩))/\d<W.heap.size/\W.cell? ⟨t,1,none⟩=some (.int .i64 a)/\t<W.heap.size/\W.cell? ⟨e,0,none⟩=some (.string b)/\e<W.heap.size/\W.frozen? ⟨t,1,none⟩=false:=by
 obtain⟨_,g,_,_,j,_,c⟩:=cells3 h.tr
 exact⟨by simp[World.cell?,h.bx],(aj.1 h.bx).1,g,c,(mM h.ky).1,(mM h.ky).2,j⟩
theorem RJ (t:Nat)(l:VS)(k j B:Nat)(a d:Int)(c:ByteArray)(w:World)(R:Int->World->Prop)(s:World->Prop)(r:SB t l a d k j c w)
  (y:Calls Tryz.prog 544 #[.pointer (some ⟨t,0,none⟩),.int .i64 a,.int .i64 0,.string c,.string ⟨#[]⟩,.func (.func 545) #[] #[.pointer (some ⟨j,0,none⟩),.pointer (some ⟨B,0,none⟩)]] w.drew fun e o=>(∃v,e= .returned v/\SB t l a d k j c o/\
   Calls Tryz.prog 543 #[.pointer (some ⟨t,0,none⟩),v] o fun z g=>(∃b,z= .returned (.int .i64 b)/\SB t l a d k j c g/\R b g)\/(z= .panicked (brk 12)/\SB t l a d k j c g/\s g))\/(e= .panicked (brk 12)/\SB t l a d k j c o/\s o)):
  Calls Tryz.prog 542 #[.pointer (some ⟨k,0,none⟩),.pointer (some ⟨j,0,none⟩),.pointer (some ⟨B,0,none⟩)] w fun e x=>(e= .returned (.tuple #[])/\∃b g,R b g/\SB t l a d k j c g/\x=g.setCell ⟨t,1,none⟩ (.int .i64 b))\/(e= .panicked (brk 12)/\SB t l a d k j c x/\s x):=by
 have C:=ah y;clear y
 go_enter Tryz.func542,Tryz.ntmps542
 go_wp2_with fail
 have F:∀(A:Fn) (first cap:Array Value) (w:World),(Instr.makeFunc A first cap).run Tryz.prog w= .ok (.func A first cap) w:=fun _ _ _ _=>rfl
 refine aP (fun W=>SB t l a d k j c W) (fun i=> !([9,10,13].contains i)) [0,1,2,3,4,5,6,7,8,9,10,11,12,13] rfl (by kernel_rfl) ⟨r.tr,r.bx,r.ky⟩ ?_
 repeat ((refine bE (v:= ?_) rfl rfl (fun _ _ _ h=>h) rfl (fun W p=> ?_) ?_);rotate_left;(focus ((try dsimp only at p);obtain⟨M,D,O,G,H,N,J⟩:=p.cells;first|(go_simp;first|done|with_reducible rfl)));(try simp only[Act.put,ak,ay,ax]))
 refine bT rfl rfl rfl ?_;intro K q;go_simp
 refine C.out.mono ?_;rintro e o (⟨v,rfl,f,I⟩|⟨rfl,f,m⟩)
 rotate_left
 ·exact⟨rfl,.inr ⟨rfl,f,m⟩⟩
 refine q.out _ _ f ?_
 refine bT rfl rfl rfl ?_;intro K q;go_simp
 refine I.mono ?_;rintro e g (⟨b,rfl,n,E⟩|⟨rfl,f,m⟩)
 rotate_left
 ·exact⟨rfl,.inr ⟨rfl,f,m⟩⟩
 refine q.out _ _ n ?_
 repeat ((refine bE (v:= ?_) rfl rfl (fun _ _ _ h=>h) rfl (fun W p=> ?_) ?_);rotate_left;(focus ((try dsimp only at p);obtain⟨M,D,O,G,H,N,J⟩:=p.cells;first|(go_simp;first|done|with_reducible rfl)));(try simp only[Act.put,ak,ay,ax]))
 obtain⟨_,_,P,S,_,_,Q⟩:=n.cells
 refine jR rfl rfl rfl (by kernel_rfl) ?_;intro K q;go_simp
 refine q.out _ _ ?_
 refine bN ?_
 go_wp2_with fail
 go_end0
 exact .inl ⟨rfl,b,g,E,n,rfl⟩
theorem nC (t:Nat)(c:VS)(a b:Int)(w:World)(h:bY w t c a b):
  Calls Tryz.prog 139 #[.pointer (some ⟨t,0,none⟩)] w fun e f=>e= .returned (.int .i64 b)/\f=w:=by
 obtain⟨_,_,g,_,_,_,d⟩:=cells3 h
 go_enter Tryz.func139,Tryz.ntmps139
 go_wp2
 go_ret
 exact⟨rfl,rfl⟩
theorem Ae (k:ByteArray)(w:World)(d:1<=k.size)(f:k.size<=128):
  Calls Tryz.prog 449 #[.string k] w fun e a=>e= .returned (.bool true)/\a=w:=by
 have c:(1:Int)<=(k.size:Int):=by omega
 have b:(k.size:Int)<=128:=by omega
 go_enter Tryz.func449,Tryz.ntmps449
 go_wp2
 go_ret
 exact⟨by simp[*],rfl⟩
theorem U6 (t:Nat)(j:VS)(c:Int)(f d:ByteArray)(w:World)(R:World->Int->World->Prop)(B:World->World->Prop)(ht:bY w t j c 0)(pV:1<=f.size)(S:f.size<=128)(hv:d.size<=64)
  (hE:∀(W:World) (C A Z:Nat),Below w.heap.size w W->w.heap.size<=C->w.heap.size<=A->w.heap.size<=Z->SB t j c 0 C A f W->rR W Z d->
   Calls Tryz.prog 544 #[.pointer (some ⟨t,0,none⟩),.int .i64 c,.int .i64 0,.string f,.string ⟨#[]⟩,.func (.func 545) #[] #[.pointer (some ⟨A,0,none⟩),.pointer (some ⟨Z,0,none⟩)]] W fun e l=>(∃v,e= .returned v/\SB t j c 0 C A f l/\
    Calls Tryz.prog 543 #[.pointer (some ⟨t,0,none⟩),v] l fun Q a=>(∃b,Q= .returned (.int .i64 b)/\SB t j c 0 C A f a/\(∀g,w.heap.size<=g->g<W.heap.size->a.heap[g]? =W.heap[g]?)/\W.heap.size<=a.heap.size/\R W b a)\/(Q= .panicked (brk 12)/\SB t j c 0 C A f a/\(∀g,w.heap.size<=g->g<W.heap.size->a.heap[g]? =W.heap[g]?)/\W.heap.size<=a.heap.size/\B W a))\/(e= .panicked (brk 12)/\SB t j c 0 C A f l/\(∀g,w.heap.size<=g->g<W.heap.size->l.heap[g]? =W.heap[g]?)/\W.heap.size<=l.heap.size/\B W l)):
  Calls Tryz.prog 494 #[.pointer (some ⟨t,0,none⟩),.string f,.string d] w fun e k=>(e= .returned (.int .i64 0)/\
   ∃W b a m,Below w.heap.size w W/\R W b a/\w.heap.size<=m/\m<W.heap.size/\W.heap.size<=a.heap.size/\Keep (fun g=>g=m\/g=t) a k/\bY k t j b 0)\/(e= .returned (.int .i64 12)/\
   ∃W a m,Below w.heap.size w W/\B W a/\w.heap.size<=m/\m<W.heap.size/\W.heap.size<=a.heap.size/\Keep (fun g=>g=m\/g=t) a k/\bY k t j c 12):=by
 have HE:=ah hE;clear hE
 have x2:¬((64:Int)<(d.size:Int)):=by omega
 have qc:∀(fn:Fn) (first cap:Array Value) (w:World),(Instr.makeFunc fn first cap).run Tryz.prog w= .ok (.func fn first cap) w:=fun _ _ _ _=>rfl
 have E:=Ip w (.cells #[.pointer (some ⟨t,0,none⟩)] 179) (.cells #[.string f] 9) (.cells #[.string d] 9)
 have F:t<w.heap.size:=(aj.1 ht).1
 have qb:=(E.block t F).trans ht
 have I:∀i,i=(((w.alloc (.cells #[.pointer (some ⟨t,0,none⟩)] 179)).alloc (.cells #[.string f] 9)).alloc (.cells #[.string d] 9))->
   Calls Tryz.prog 541 #[.pointer (some ⟨t,0,none⟩),.func (.func 542) #[] #[.pointer (some ⟨w.heap.size,0,none⟩),.pointer (some ⟨w.heap.size+1,0,none⟩),.pointer (some ⟨w.heap.size+1+1,0,none⟩)]] i fun e k=>(e= .returned (.int .i64 0)/\
   ∃W b a m,Below w.heap.size w W/\R W b a/\w.heap.size<=m/\m<W.heap.size/\W.heap.size<=a.heap.size/\Keep (fun g=>g=m\/g=t) a k/\bY k t j b 0)\/(e= .returned (.int .i64 12)/\
   ∃W a m,Below w.heap.size w W/\B W a/\w.heap.size<=m/\m<W.heap.size/\W.heap.size<=a.heap.size/\Keep (fun g=>g=m\/g=t) a k/\bY k t j c 12):=by
  intro i o
  have G:Below w.heap.size w i:=by rw[o];exact E
  have O:i.heap.size=w.heap.size+3:=by rw[o];simp
  have b0:i.heap[w.heap.size]? =some (.cells #[.pointer (some ⟨t,0,none⟩)] 179 (0,0)):=by
   rw[o];exact((iY (w.alloc _) _ _).block _ (by simp)).trans (aH w _)
  have b1:i.heap[w.heap.size+1]? =some (.cells #[.string f] 9 (0,0)):=by
   rw[o];exact((aG ((w.alloc _).alloc _) _).block _ (by simp)).trans (by have:=aH (w.alloc (.cells #[.pointer (some ⟨t,0,none⟩)] 179)) (.cells #[.string f] 9);rwa [bD] at this)
  have b2:i.heap[w.heap.size+1+1]? =some (.cells #[.string d] 9 (0,0)):=by
   rw[o];have:=aH ((w.alloc (.cells #[.pointer (some ⟨t,0,none⟩)] 179)).alloc (.cells #[.string f] 9)) (.cells #[.string d] 9);rwa [bD,bD] at this
  clear o
  have y:=iY i (.cells #[.pointer (some ⟨t,0,none⟩)] 179) (.cells #[.int .i64 0] 26)
  have qf:((i.alloc (.cells #[.pointer (some ⟨t,0,none⟩)] 179)).alloc (.cells #[.int .i64 0] 26)).heap.size=w.heap.size+5:=by simp[O]
  have n:=G.trans (y.mono (by omega))
  have c0:=(y.block _ (by omega)).trans b0
  have c1:=(y.block _ (by omega)).trans b1
  have c2:=(y.block _ (by omega)).trans b2
  have K:bY ((i.alloc (.cells #[.pointer (some ⟨t,0,none⟩)] 179)).alloc (.cells #[.int .i64 0] 26)) t j c 0:=(n.block t F).trans ht
  have D:((i.alloc (.cells #[.pointer (some ⟨t,0,none⟩)] 179)).alloc (.cells #[.int .i64 0] 26)).heap[i.heap.size+1]? =some (.cells #[.int .i64 0] 26 (0,0)):=by
   have:=aH (i.alloc (.cells #[.pointer (some ⟨t,0,none⟩)] 179)) (.cells #[.int .i64 0] 26);rwa [bD] at this
  have Y:=Kj t j c 0 542 #[.pointer (some ⟨w.heap.size,0,none⟩),.pointer (some ⟨w.heap.size+1,0,none⟩),.pointer (some ⟨w.heap.size+1+1,0,none⟩)] i
   (fun k=>∃W b a,Below w.heap.size w W/\R W b a/\i.heap.size+1<W.heap.size/\W.heap.size<=a.heap.size/\SB t j c 0 w.heap.size (w.heap.size+1) f a/\k=a.setCell ⟨t,1,none⟩ (.int .i64 b))
   (fun k=>∃W,Below w.heap.size w W/\B W k/\i.heap.size+1<W.heap.size/\W.heap.size<=k.heap.size) (by omega) (fun _ _=>by kernel_rfl)
  have P:((i.alloc (.cells #[.pointer (some ⟨t,0,none⟩)] 179)).alloc (.cells #[.int .i64 0] 26)).heap[i.heap.size]? =some (.cells #[.pointer (some ⟨t,0,none⟩)] 179 (0,0)):=
   ((aG (i.alloc _) _).block _ (by simp)).trans (aH i _)
  generalize (i.alloc (.cells #[.pointer (some ⟨t,0,none⟩)] 179)).alloc (.cells #[.int .i64 0] 26)=V at*
  have X:=RJ t j w.heap.size (w.heap.size+1) (w.heap.size+1+1) c 0 f V (fun b a=>(∀g,w.heap.size<=g->g<V.drew.heap.size->a.heap[g]? =V.drew.heap[g]?)/\V.drew.heap.size<=a.heap.size/\R V.drew b a) (fun a=>(∀g,w.heap.size<=g->g<V.drew.heap.size->a.heap[g]? =V.drew.heap[g]?)/\V.drew.heap.size<=a.heap.size/\B V.drew a) ⟨K,c0,c1⟩ ((HE.out V.drew w.heap.size (w.heap.size+1) (w.heap.size+1+1) n.drew (aC _) (by omega) (by omega) ⟨K,c0,c1⟩ c2).mono fun e l hh=>hh.imp (fun ⟨v,h1,h2,h3⟩=>⟨v,h1,h2,h3.mono fun Q a kk=>kk.imp (fun ⟨b,J,H,r,s,x⟩=>⟨b,J,H,r,s,x⟩) (fun ⟨J,H,r,s,x⟩=>⟨J,H,r,s,x⟩)⟩) (fun ⟨J,H,r,s,x⟩=>⟨J,H,r,s,x⟩))
  refine(Y (X.mono ?_)).mono ?_
  ·rintro e k (⟨rfl,b,a,⟨r,s,x⟩,z,rfl⟩|⟨rfl,z,r,s,x⟩)
   ·refine .inl ⟨rfl,⟨V.drew,b,a,n.drew,x,(by show _<V.heap.size;omega),s,z,rfl⟩,?_⟩
    rw[Below.heap_setCell _ _ _ _ (by simp;omega)]
    exact(r _ (by omega) (by show _<V.heap.size;omega)).trans D
   ·refine .inr ⟨rfl,⟨V.drew,n.drew,x,(by show _<V.heap.size;omega),s⟩,(r _ (by omega) (by show _<V.heap.size;omega)).trans D,(r _ (by omega) (by show _<V.heap.size;omega)).trans P,z.tr⟩
  ·rintro e k (⟨rfl,l,⟨W,b,a,q1,q2,T,q4,q5,rfl⟩,N⟩|⟨rfl,l,⟨W,q1,q2,T,q4⟩,N,hT⟩)
   ·have p9:Keep (· =t) a (a.setCell ⟨t,1,none⟩ (.int .i64 b)):=Keep.setCell (M:=(· =t)) (p:=⟨t,1,none⟩) (Keep.refl _ _) (.inr rfl) _
    refine .inl ⟨rfl,W,b,a,i.heap.size+1,q1,q2,by omega,T,q4,(p9.mono (fun _ _ h=> .inr h)).trans N (fun _ _ h=> .inl h),?_⟩
    have h5:(a.setCell ⟨t,1,none⟩ (.int .i64 b)).heap[t]? =some (.cells #[.iface 178 j.agg,.int .i64 b,.int .i64 0] 267 (0,0)):=by
     have:=q5.tr;unfold bY at this
     simp[World.setCell,aK,this]
    exact(N.block t (aj.1 h5).1 (by omega)).trans h5
   ·exact .inr ⟨rfl,W,l,i.heap.size+1,q1,q2,by omega,T,q4,N.mono (fun _ _ h=>h.symm),hT⟩
 have hC:=ah (I _ rfl);clear I
 go_enter Tryz.func494,Tryz.ntmps494
 go_wp2_with (first
  |(go_at_call 139;go_must ((refine(nC t j c 0 _ qb).mono ?_);rintro e l ⟨rfl,hw⟩;subst l))
  |(go_at_call 449;go_must ((refine(Ae f _ pV S).mono ?_);rintro e l ⟨rfl,hw⟩;subst l))
  |(go_at_call 541;go_must (refine hC.out.mono ?_;rintro e l (⟨rfl,q⟩|⟨rfl,q⟩)<;>refine Stop.of ?_)))
 ·refine Stop.on ?_
  go_wp2_with fail
  go_ret
  exact .inl ⟨rfl,q⟩
 ·refine Stop.on ?_
  go_wp2_with fail
  go_ret
  exact .inr ⟨rfl,q⟩
def dK (ps:List Pr)(key:ByteArray):Option ByteArray:=if qQ ps key then(ps[dI ps key]?).map (·.2) else none
inductive Look (σ:cK)(key:ByteArray):Nat->Int->Option ByteArray->Prop
 |nil {n}:Look σ key n 0 none
 |leaf {n b nd}:Fe σ b nd->nd.kids=[]->iK nd.pairs->Look σ key n b (dK nd.pairs key)
 |inner {n b nd r} (h:jS nd.keys key<nd.kids.length):Fe σ b nd->xB nd.keys->Look σ key n nd.kids[jS nd.keys key] r->Look σ key (n+1) b r
theorem SA (t:Nat)(N:VS)(g:Int)(T:cK)(S:Nat->Prop)(f:ByteArray)(r:Option ByteArray)(w:World)(h:Inv T S N w)(ht:bY w t N g 0)(qy:1<=f.size)(qm:f.size<=128)(n:Nat)(hn:n<=40)(hl:Look T f n g r):
  Calls Tryz.prog 332 #[.pointer (some ⟨t,0,none⟩),.string f] w fun e w'=>e= .returned (.tuple #[.string (r.getD ⟨#[]⟩),.bool r.isSome,.int .i64 0])/\Below w.heap.size w w':=by
 obtain⟨_,c1,_,_,_,_,ql⟩:=cells3 ht
 have HL:=ah hl;clear hl
 go_enter Tryz.func332,Tryz.ntmps332
 go_wp2_with (first
  |(go_at_call 139;go_must ((refine(nC t N g 0 _ ht).mono ?_);rintro e q ⟨rfl,hw⟩;subst q))
  |(go_at_call 449;go_must ((refine(Ae f _ qy qm).mono ?_);rintro e q ⟨rfl,hw⟩;subst q)))
 go_loopw [8,9,10,11,12,13] (fun x y _ _ _ _ wr=>∃(b:Int) (d m:Nat),x= .int .i64 b/\y= .int .i64 d/\Look T f m b r/\d+m<=40/\Below w.heap.size w wr) (fun _ y _ _ _ _ _=>41 - (intOf y).toNat)
 case atStart=>exact⟨g,0,n,rfl,rfl,HL.out,by omega,aJ _ _⟩
 case round=>
  obtain⟨b,d,m,rfl,rfl,hl,af,c⟩:=hrel
  have O:=h.below c
  have Q:bY wr t N g 0:=(c.block t ql).trans ht
  cases hl with
  |nil=>
   go_wp2_with fail
   go_ret3
   exact⟨rfl,c⟩
  |@leaf _ _ j A hk hr=>
   have qo:(b==0)=false:=by have:=A.lo;simp;omega
   have qc:¬b=0:=by have:=A.lo;omega
   have J:j.kids.isEmpty=true:=by rw[hk];rfl
   have ai:=A.fits.np
   have s:(d:Int)<=40:=by omega
   cases D:qQ j.pairs f with
   |false=>
    have z:dK j.pairs f=none:=by unfold dK;rw[D];rfl
    have H:=ah z;clear z
    go_wp2_with (first
     |(go_at_call 140;go_must ((refine(o7 t N g 0 b d T S j _ O Q A s).mono ?_);rintro e q ⟨F,rfl,k,l⟩))
     |(go_at_call 219;go_must ((refine(mX F j _ S k.lu).mono ?_);rintro e Z ⟨rfl,hw⟩;subst Z;rw[J]))
     |(go_at_call 220;go_must ((refine(uY F j f _ S k.lu hr (by omega)).mono ?_);rw[D];rintro e w3 ⟨rfl,G⟩)))
    go_ret3
    rw[H.out]
    exact⟨rfl,c.trans ((l.mono c.size).trans (G.mono (aI c.size l.size)))⟩
   |true=>
    obtain⟨hp,X⟩:=vW D
    have z:dK j.pairs f=some j.pairs[dI j.pairs f].2:=by unfold dK;rw[D,if_pos rfl,bB hp];rfl
    have H:=ah z;clear z
    generalize hP:dI j.pairs f=P at hp X H
    have HP:=ah hP;clear hP
    go_wp2_with (first
     |(go_at_call 140;go_must ((refine(o7 t N g 0 b d T S j _ O Q A s).mono ?_);rintro e q ⟨F,rfl,k,l⟩))
     |(go_at_call 219;go_must ((refine(mX F j _ S k.lu).mono ?_);rintro e Z ⟨rfl,hw⟩;subst Z;rw[J]))
     |(go_at_call 220;go_must ((refine(uY F j f _ S k.lu hr (by omega)).mono ?_);rw[D,HP.out];rintro e w3 ⟨rfl,G⟩;refine Stop.of ?_)))
    refine Stop.on ?_
    obtain⟨_,x0,x1,x2,R,qf,_,_⟩:=k.lu.below G
    obtain⟨e0,_,_,_,_,_,o⟩:=cells3 R
    obtain⟨di,bf,rfl,m0,m1,_,_⟩:=bq.form qf
    obtain⟨pb,po,rfl,d1,d2⟩:=qf.at rfl P hp
    have C:=aD w3 _ d2
    go_wp2_with fail
    go_ret3
    rw[H.out]
    exact⟨rfl,c.trans ((l.mono c.size).trans (G.mono (aI c.size l.size)))⟩
  |@inner m _ j _ I A qC qb=>
   have qo:(b==0)=false:=by have:=A.lo;simp;omega
   have qc:¬b=0:=by have:=A.lo;omega
   have J:j.kids.isEmpty=false:=by cases hq:j.kids with|nil=>rw[hq] at I;simp at I|cons a b=>rfl
   have dn:=A.fits.nk
   have Y:=A.fits.kk
   have s:(d:Int)<=40:=by omega
   have pV:=ah qb;clear qb
   generalize hP:jS j.keys f=P at I pV
   have HP:=ah hP;clear hP
   have d9:IntKind.i64.wrap ((d:Int)+1)=(d:Int)+1:=aM _ (by omega)
   have q8:=ah Y;clear Y
   go_wp2_with (first
    |(go_at_call 140;go_must ((refine(o7 t N g 0 b d T S j _ O Q A s).mono ?_);rintro e q ⟨F,rfl,k,l⟩))
    |(go_at_call 219;go_must ((refine(mX F j _ S k.lu).mono ?_);rintro e Z ⟨rfl,hw⟩;subst Z;rw[J])))
   have qO:=k.lu
   obtain⟨_,x0,x1,x2,R,_,_,p9⟩:=qO
   obtain⟨_,_,e2,_,_,_,o⟩:=cells3 R
   obtain⟨dM,bg,rfl,m0,m1,_,_⟩:=bq.form p9
   obtain⟨pb,po,rfl,d2⟩:=p9.at rfl P I
   have C:=aD q _ d2
   have av:(P:Int)<(j.kids.length:Int):=by omega
   have E:=(K9 F j f q.drew S (k.lu.below ((aJ _ q).drew)) qC (by rw[q8.out];omega))
   rw[HP.out] at E
   have V:=ah E;clear E
   refine aP (fun W=>Below q.heap.size q W) (fun i=> !([6].contains i)) [0,1,2,3,4,5,6,7,8,9] rfl (by kernel_rfl) ((aJ _ q).drew) ?_
   repeat ((refine bE (v:= ?_) rfl rfl (fun _ _ _ h=>h) rfl (fun W B=> ?_) ?_);rotate_left;(focus ((try dsimp only at B);have q0:=(B.cell (p:=⟨F,2,none⟩) o).trans e2;have q1:=aA o B.size;have q2:=(B.cell (p:=⟨pb,po+P,none⟩) C).trans d2;have q3:=aA C B.size;first|(go_simp;first|done|with_reducible rfl)));(try simp only[Act.put,ak,ay,ax]))
   refine bT rfl rfl rfl ?_;intro K hK;go_simp
   refine V.out.mono ?_;rintro e w4 ⟨rfl,q9⟩
   have M:Below q.heap.size q w4:=((aJ _ q).drew).trans q9
   refine hK.out _ _ M ?_
   repeat ((refine bE (v:= ?_) rfl rfl (fun _ _ _ h=>h) rfl (fun W B=> ?_) ?_);rotate_left;(focus ((try dsimp only at B);have q0:=(B.cell (p:=⟨F,2,none⟩) o).trans e2;have q1:=aA o B.size;have q2:=(B.cell (p:=⟨pb,po+P,none⟩) C).trans d2;have q3:=aA C B.size;first|(go_simp;first|done|with_reducible rfl)));(try simp only[Act.put,ak,ay,ax]))
   refine bN ?_
   go_wp2_with fail
   go_roundw
   case rel=>exact⟨j.kids[P],d+1,m,rfl,by go_num,pV.out,by omega,c.trans ((l.mono c.size).trans (M.mono (aI c.size l.size)))⟩
   case measure=>simp[intOf];omega
structure Acc (w:World)(S:Nat->Prop)(B ob mb:Nat)(v:Value)(O:List Pr)(most:Int):Prop where
 out:w.heap[ob]? =some (.cells #[v] 184 (0,0))
 own:aV w S B 188 2 v O.length (dG O)
 mst:w.heap[mb]? =some (.cells #[.int .i64 most] 3 (0,0))
 nob:¬S ob
 nmb:¬S mb
def nO (ob:Nat)(v v':Value)(w w':World):Prop:=Keep (fun g=>g=ob\/v.ownBlock=some g) w w'/\∀g,v'.ownBlock=some g->v.ownBlock=some g\/w.heap.size<=g
theorem nO.refl (a:Nat)(v:Value)(w:World):nO a v v w w:=⟨Keep.refl _ _,fun _ h=> .inl h⟩
theorem nO.trans {e:Nat}{v v' d:Value}{a b c:World}(h:nO e v v' a b)(k:nO e v' d b c):nO e v d a c:=
 ⟨h.1.trans k.1 (fun i j x=>x.elim .inl (fun y=>(h.2 i y).elim .inr (fun z=>absurd j (aX.2 z)))),
  fun g f=>(k.2 g f).elim (fun x=>h.2 g x) (fun x=> .inr (aI h.1.size x))⟩
theorem nO.below {a:Nat}{v:Value}{w w':World}(h:Below w.heap.size w w'):nO a v v w w':=⟨Keep.of_below h _,fun _ h=> .inl h⟩
theorem Acc.below {w w':World}{S:Nat->Prop}{B d c:Nat}{v:Value}{O:List Pr}{a:Int}(h:Acc w S B d c v O a)(b:Below w.heap.size w w'):Acc w' S B d c v O a:=
 ⟨(b.block _ (aj.1 h.out).1).trans h.out,h.own.below b,(b.block _ (aj.1 h.mst).1).trans h.mst,h.nob,h.nmb⟩
theorem LH (B a j:Nat)(v:Value)(O:List Pr)(b:Int)(p:Pr)(S:Nat->Prop)(w:World)(F:∀g,S g->g<w.heap.size)(h:Acc w S B a j v O b)(hB:B<=w.heap.size)(Q:O.length<=999999):
  Calls Tryz.prog 142 #[.agg #[.string p.1,.string p.2],.pointer (some ⟨a,0,none⟩),.pointer (some ⟨j,0,none⟩)] w fun e w'=>e= .returned (.bool (decide (((O.length+1:Nat):Int)<b)))/\∃X,Acc w' S B a j X (O++[p]) b/\nO a v X w w':=by
 have c:=iY w (.cells #[.string p.1,.string p.2] 188) (.cells #[.string p.1,.string p.2] 188)
 obtain⟨o,K,y,o4,Z⟩:=h
 have G:=(aj.1 o).1
 have A:=(aj.1 y).1
 have c0:w.cell? ⟨a,0,none⟩=some v:=by simp[World.cell?,o]
 have c1:w.cell? ⟨j,0,none⟩=some (.int .i64 b):=by simp[World.cell?,y]
 have f0:w.frozen? ⟨a,0,none⟩=false:=by simp[World.frozen?,o]
 obtain⟨l,i,rfl,n0,m0,_,_⟩:=K.dM.form
 go_enter Tryz.func142,Tryz.ntmps142
 have H:=iB (P:=Tryz.prog) (w:=w.alloc (.cells #[.string p.1,.string p.2] 188)) [.string p.1,.string p.2] 188 2 1 1 (tx:=184) (bD _ _) gu rfl (by intro u V;simp at V;rcases V with rfl|rfl<;>rfl)
 have s:∀g,S g->g<((w.alloc (.cells #[.string p.1,.string p.2] 188)).alloc (.cells #[.string p.1,.string p.2] 188)).heap.size:=fun g C=>aA (F g C) c.size
 have p9:O.length<=999999:=Q
 go_wp2_with (first
  |(at_builtin;go_must ((refine dQ rfl (.tmp 5) (.tmp 7) 184 184 rfl S B 188 2 32 _ gu nM rfl (.slice l O.length i) O.length (dG O) rfl (K.below c) (.slice (some ⟨w.heap.size+1,0,none⟩) 1 1) 1 [.string p.1,.string p.2] rfl H s (aI hB c.size) ?_ ?_ ?_);(focus (simp only[maxLen];omega));(focus omega);intro f d n m r pV N;refine Stop.of ?_)))
 have T:(Value.slice l O.length i).ownBlock≠some a:=K.ne o (by decide)
 have R:(Value.slice l O.length i).ownBlock≠some j:=K.ne y (by decide)
 have k:=(r.block a (aA G c.size) T).trans ((c.block a G).trans o)
 have q:=(r.block j (aA A c.size) R).trans ((c.block j A).trans y)
 have I:a≠j:=fun e=>by rw[e] at o;rw[o] at y;cases y
 have d0:n.cell? ⟨a,0,none⟩=some (.slice l O.length i):=by simp[World.cell?,k]
 have d1:n.cell? ⟨j,0,none⟩=some (.int .i64 b):=by simp[World.cell?,q]
 have d2:n.frozen? ⟨a,0,none⟩=false:=by simp[World.frozen?,k]
 have W:=(aj.1 k).1
 have D:=(aj.1 q).1
 have x:Keep (· =a) n (n.setCell ⟨a,0,none⟩ (.slice f (O.length+1) d)):=Keep.setCell (M:=(· =a)) (p:=⟨a,0,none⟩) (Keep.refl _ _) (.inr rfl) _
 have E:(n.setCell ⟨a,0,none⟩ (.slice f (O.length+1) d)).heap[a]? =some (.cells #[.slice f (O.length+1) d] 184 (0,0)):=by simp[World.setCell,aK,k]
 have J:=(x.block j D (fun e=>I e.symm)).trans q
 have e0:(n.setCell ⟨a,0,none⟩ (.slice f (O.length+1) d)).cell? ⟨a,0,none⟩=some (.slice f (O.length+1) d):=by simp[World.cell?,E]
 have e1:(n.setCell ⟨a,0,none⟩ (.slice f (O.length+1) d)).cell? ⟨j,0,none⟩=some (.int .i64 b):=by simp[World.cell?,J]
 have t:=m.keep (w':=n.setCell ⟨a,0,none⟩ (.slice f (O.length+1) d)) (S':=S) (fun g C Q hs=>⟨x.block g Q (fun e=>m.ne k (by decide) (by rw[C,e])),hs⟩)
 refine Stop.on ?_
 go_wp2_with fail
 go_ret
 refine⟨by simp,.slice f (O.length+1) d,⟨E,?_,J,o4,Z⟩,⟨?_,fun g C=> ?_⟩⟩
 ·rw[aB,nW];exact t
 ·exact((Keep.of_below c _).trans (r.mono (fun _ _ h=> .inr h)) (fun _ _ h=>h)).trans x (fun _ _ h=> .inl h)
 ·by_cases z:g<w.heap.size
  ·by_cases Y:(Value.slice l O.length i).ownBlock=some g
   ·exact .inl Y
   ·exact absurd C (N g (aA z c.size) Y)
  ·exact .inr (aX.1 z)
inductive D9 (σ:cK)(key:ByteArray):Nat->Int->List Pr->Prop
 |leaf {n b nd}:Fe σ b nd->nd.kids=[]->iK nd.pairs->D9 σ key n b (nd.pairs.drop (dI nd.pairs key))
 |inner {n b nd} (Ls:List (List Pr)):Fe σ b nd->nd.kids≠[]->xB nd.keys->Ls.length=(nd.kids.drop (jS nd.keys key)).length->(∀i (h:i<(nd.kids.drop (jS nd.keys key)).length) (h':i<Ls.length),D9 σ key n (nd.kids.drop (jS nd.keys key))[i] Ls[i])->D9 σ key (n+1) b Ls.flatten
def vH (S:Nat->Prop)(B ob mb:Nat)(v:Value)(O L:List Pr)(most:Int)(w:World)(e:Ending)(w':World):Prop:=
 e= .returned (.tuple #[.bool (decide (((O.length+L.length:Nat):Int)<most)),.int .i64 0])/\∃v',Acc w' S B ob mb v' (O++L.take (most - O.length).toNat) most/\nO ob v v' w w'
theorem Iw {w:World}{S:Nat->Prop}{k n c:Nat}{b:Option Addr}{d:List Value}(h:bq w S k (.slice b n c) n d)(i:Nat)(e:i<=n):∃a,(if c=i then b else b.map fun x=>x.add (i*k))=a/\bq w S k (.slice a (n - i) (c - i)) (n - i) (d.drop (i*k)):=⟨_,rfl,bq.after h i e⟩
theorem Db (t:Nat)(mp:VS)(B r mb:Nat)(y qo b n:Int)(σ:cK)(S:Nat->Prop)(m:ByteArray)(v:Value)(O:List Pr)(a:Int)(c:Nd)(w:World)(h:Inv σ S mp w)(ht:bY w t mp y qo)(hb:Fe σ b c)(hk:c.kids=[])(hr:iK c.pairs)(hd:n<=40)
  (hA:Acc w S B r mb v O a) (hB:B<=w.heap.size) (hO:(O.length:Int)<a) (hl:O.length+(c.pairs.drop (dI c.pairs m)).length<=999999):
  Calls Tryz.prog 141 #[.pointer (some ⟨t,0,none⟩),.int .i64 b,.int .i64 n,.string m,.func (.func 142) #[] #[.pointer (some ⟨r,0,none⟩),.pointer (some ⟨mb,0,none⟩)]] w (vH S B r mb v O (c.pairs.drop (dI c.pairs m)) a w):=by
 have ai:c.kids.isEmpty=true:=by rw[hk];rfl
 have dn:=hb.fits.np
 have hp:=BD c.pairs m
 generalize hP:dI c.pairs m=P at hp hl
 have HP:=ah hP;clear hP
 have qm:=h.sub
 go_enter Tryz.func141,Tryz.ntmps141
 go_wp2_with (first
  |(go_at_call 140;go_must ((refine(o7 t mp y qo b n σ S c _ h ht hb hd).mono ?_);rintro e w1 ⟨nb,rfl,R,V⟩))
  |(go_at_call 219;go_must ((refine(mX nb c _ S R.lu).mono ?_);rintro e w2 ⟨rfl,hw⟩;subst w2;rw[ai]))
  |(go_at_call 220;go_must ((refine(uY nb c m _ S R.lu hr (by omega)).mono ?_);rw[HP.out];rintro e H ⟨rfl,W⟩;refine Stop.of ?_)))
 obtain⟨_,eH,x0,x1,x2,av,s,_,_⟩:=R.step (Step.of_below W)
 obtain⟨e0,_,_,_,_,_,bg⟩:=cells3 av
 obtain⟨N,af,rfl,m0,m1,_,_⟩:=bq.form s.dM
 obtain⟨Z,f,pV⟩:=Iw s.dM P hp
 generalize hD:c.pairs.drop P=D at hl
 have E:D.length=c.pairs.length - P:=by rw[<-hD,bG]
 have ql:sQ H S (.slice Z (c.pairs.length - P) (af - P)) D:=by
  unfold sQ;rw[E,<-hD,xX];exact pV
 have qf:∀g o,Z=some ⟨g,o,none⟩->w.heap.size<=g:=by
  intro g o e
  have:∃o',N=some ⟨g,o',none⟩:=by
   rw[e] at f
   split at f
   ·exact⟨o,f⟩
   ·rcases s.1.2 with ⟨e1,_⟩|⟨g',eZ,fo,e1,_⟩
    ·have e2:N=none:=by injection e1
     rw[e2] at f;cases f
    ·have e2:N=some ⟨g',0,none⟩:=by injection e1
     rw[e2,jJ,iA] at f;cases f;exact⟨_,e2⟩
  obtain⟨o',rfl⟩:=this
  exact s.lo g rfl
 have qC:∀g,v.ownBlock=some g->g<w.heap.size:=fun g hg=>jX.1 (fun hh=>hA.own.lt' hh hg)
 have bf:r<w.heap.size:=(aj.1 hA.out).1
 have l:Below w.heap.size w H:=V.trans (W.mono V.size)
 have qO:=ah ql;clear ql pV
 have I:=ah E
 have HD:=ah hD;clear hD
 have q8:=ah (hA.below l)
 have qc:nO r v v w H:=nO.below l
 have G:∀g,S g->g<H.heap.size:=fun g hg=>aA (qm g hg) l.size
 have q9:B<=H.heap.size:=aI hB l.size
 have dM:∀g,v.ownBlock=some g->B<=g:=hA.own.lo
 have qy:=ah hO;clear hO
 clear E
 refine Stop.on ?_
 go_wp2_with fail
 go_loopw [17,47] (fun _ i wr=>∃(k:Nat) (Q:Value),k<=c.pairs.length - P/\i= .int .i64 k/\Acc wr S B r mb Q (O++D.take k) a/\((O.length+k:Nat):Int)<a/\nO r v Q H wr) (fun _ i _=>(c.pairs.length - P) - (intOf i).toNat)
 case atStart=>exact⟨0,v,aR _,rfl,by rw[gT,dV];exact q8.out,by rw[jD];exact qy.out,nO.refl _ _ _⟩
 case round=>
  obtain⟨k,Q,d9,rfl,J,iO,z⟩:=hrel
  by_cases X:k<c.pairs.length - P
  ·have p9:k<D.length:=by rw[I.out];exact X
   obtain⟨T,po,rfl,d1,d2⟩:=qO.out.at rfl k p9
   have jb:w.heap.size<=T:=qf T po rfl
   have q:=aD H _ d1
   have qb:¬(T=r\/v.ownBlock=some T):=fun x=>x.elim (fun e=>by omega) (fun e=>by have:=qC _ e;omega)
   have g1:=(z.1.cell (p:=⟨T,po+k*2,none⟩) q qb).trans d1
   have g2:=(z.1.cell (p:=⟨T,po+k*2+1,none⟩) q qb).trans d2
   have di:=aA q z.1.size
   have j:=aG wr (.cells #[.string D[k].1,.string D[k].2] 188)
   have hy:=LH B r mb Q (O++D.take k) a D[k] S (wr.alloc (.cells #[.string D[k].1,.string D[k].2] 188)) (fun g hg=>aA (G g hg) (aI z.1.size j.size)) (J.below j) (aI q9 (aI z.1.size j.size)) (by rw[aB,aQ];omega)
   rw[show (O++D.take k).length+1=O.length+(k+1) from by rw[aB,aQ];omega,show O++D.take k++[D[k]]=O++D.take (k+1) from by rw[aO p9,bA]] at hy
   have Y:nO r Q Q wr (wr.alloc (.cells #[.string D[k].1,.string D[k].2] 188)):=nO.below j
   have Hy:=ah hy;clear hy
   clear d1 d2
   by_cases C:((O.length+(k+1):Nat):Int)<a
   ·have d:=gq C
    have A:=ah d;clear d
    go_wp2_with ((refine Hy.out.mono ?_);rw[A.out];rintro e w4 ⟨rfl,v4,F,K⟩)
    go_roundw
    case rel=>exact⟨k+1,v4,X,by go_num,F,C,(z.trans Y).trans K⟩
    case measure=>simp[intOf];omega
   ·have d:=bU C
    have A:=ah d;clear d
    go_wp2_with ((refine Hy.out.mono ?_);rw[A.out];rintro e w4 ⟨rfl,v4,F,K⟩)
    go_ret2
    have M:=I.out
    rw[HD.out]
    refine⟨by rw[bU (by omega)];rfl,v4,?_,qc.trans ((z.trans Y).trans K)⟩
    rw[show (a - (O.length:Int)).toNat=k+1 from by omega]
    exact F
  ·obtain rfl:k=c.pairs.length - P:=by omega
   go_wp2_with fail
   go_ret2
   have M:=I.out
   rw[HD.out]
   refine⟨by rw[gq (by omega)];rfl,Q,?_,qc.trans z⟩
   rw[aL (by omega)]
   rw[aL (by omega)] at J
   exact J
def QG (t:Nat)(mp:VS)(B ob mb:Nat)(root err:Int)(σ:cK)(S:Nat->Prop)(key:ByteArray)(most:Int)(m:Nat):Prop:=
 ∀(b:Int) (L:List Pr),D9 σ key m b L->∀(deep:Int) (v:Value) (O:List Pr) (w:World),Inv σ S mp w->bY w t mp root err->deep+m<=40->0<=deep->Acc w S B ob mb v O most->B<=w.heap.size->(O.length:Int)<most->O.length+L.length<=999999->
  Calls Tryz.prog 141 #[.pointer (some ⟨t,0,none⟩),.int .i64 b,.int .i64 deep,.string key,.func (.func 142) #[] #[.pointer (some ⟨ob,0,none⟩),.pointer (some ⟨mb,0,none⟩)]] w (vH S B ob mb v O L most w)
theorem DN (a:List (List Pr))(j:Nat)(h:j<a.length):(a.take (j+1)).flatten=(a.take j).flatten++a[j]:=by
 rw[aO h,NU,List.flatten_cons,List.flatten_nil,dV]
theorem Qh (a:List (List Pr))(j:Nat):(a.take j).flatten.length<=a.flatten.length:=by
 have:=congrArg (fun l=>(List.flatten l).length) (bM j a)
 simp only[NU,aB] at this
 omega
theorem Qi (a:List (List Pr))(j m:Nat)(h:j<a.length)(b:(a.take j).flatten.length<=m)(c:m<=(a.take (j+1)).flatten.length):a.flatten.take m=(a.take j).flatten++a[j].take (m - (a.take j).flatten.length):=by
 have e:a.flatten=(a.take (j+1)).flatten++(a.drop (j+1)).flatten:=by rw[<-NU,bM]
 rw[e,bW c,DN _ _ h,List.take_append,aL b]
theorem I9 (t:Nat)(mp:VS)(B I mb:Nat)(y H b f:Int)(σ:cK)(S:Nat->Prop)(q:ByteArray)(v:Value)(O:List Pr)(d:Int)(m:Nat)(IH:QG t mp B I mb y H σ S q d m)(c:Nd)(j:List (List Pr))(w:World)(h:Inv σ S mp w)(ht:bY w t mp y H)(hb:Fe σ b c)(hk:c.kids≠[])(hr:xB c.keys)
  (qC:j.length=(c.kids.drop (jS c.keys q)).length) (E:∀i (h:i<(c.kids.drop (jS c.keys q)).length) (h':i<j.length),D9 σ q m (c.kids.drop (jS c.keys q))[i] j[i]) (hd:f+(m+1:Nat)<=40) (oO:0<=f)
  (hA:Acc w S B I mb v O d) (hB:B<=w.heap.size) (hO:(O.length:Int)<d) (hl:O.length+j.flatten.length<=999999):
  Calls Tryz.prog 141 #[.pointer (some ⟨t,0,none⟩),.int .i64 b,.int .i64 f,.string q,.func (.func 142) #[] #[.pointer (some ⟨I,0,none⟩),.pointer (some ⟨mb,0,none⟩)]] w (vH S B I mb v O j.flatten d w):=by
 have ng:c.kids.isEmpty=false:=by cases hq:c.kids with|nil=>exact absurd hq hk|cons a b=>rfl
 have r9:=hb.fits.nk
 have bf:=hb.fits.kk
 have hp:jS c.keys q<=c.kids.length:=by have:=BQ c.keys q;omega
 generalize hP:jS c.keys q=P at hp E qC
 have HP:=ah hP;clear hP
 have nD:=ah bf;clear bf
 have og:=h.sub
 have fo:f<=40:=by omega
 have mr:=ah IH;clear IH
 have HW:=ah E;clear E
 have HO:=ah hO;clear hO
 go_enter Tryz.func141,Tryz.ntmps141
 go_wp2_with (first
  |(go_at_call 140;go_must ((refine(o7 t mp y H b f σ S c _ h ht hb fo).mono ?_);rintro e N ⟨nb,rfl,qO,q9⟩))
  |(go_at_call 219;go_must ((refine(mX nb c _ S qO.lu).mono ?_);rintro e w2 ⟨rfl,hw⟩;subst w2;rw[ng])))
 have j5:=qO
 obtain⟨_,o5,x0,x1,x2,nk,_,_,M⟩:=j5
 obtain⟨_,_,e2,_,_,_,A⟩:=cells3 nk
 obtain⟨qo,eZ,rfl,m0,m1,_,_⟩:=bq.form M.dM
 obtain⟨p9,s,qb⟩:=Iw M.dM P hp
 simp only[eY] at s
 have jb:∀g o,p9=some ⟨g,o,none⟩->w.heap.size<=g:=by
  intro g o e
  have:∃o',qo=some ⟨g,o',none⟩:=by
   rw[e] at s
   split at s
   ·exact⟨o,s⟩
   ·rcases M.1.2 with ⟨e1,_⟩|⟨g',rf,rq,e1,_⟩
    ·have e2:qo=none:=by injection e1
     rw[e2] at s;cases s
    ·have e2:qo=some ⟨g',0,none⟩:=by injection e1
     rw[e2,jJ,iA] at s;cases s;exact⟨_,e2⟩
  obtain⟨o',rfl⟩:=this
  exact M.lo g rfl
 have qy:(c.kids.drop P).length=c.kids.length - P:=bG
 have X:pM N S (.slice p9 (c.kids.length - P) (eZ - P)) (c.kids.drop P):=by
  unfold pM;rw[qy,jy];rw[eY] at qb;exact qb
 have dM:=ah qy;clear qy qb
 have di:=ah qC;clear qC
 have d9:=ah X;clear X
 have G:=(K9 nb c q N.drew S (qO.lu.below ((aJ _ N).drew)) hr (by rw[nD.out];omega))
 rw[HP.out] at G
 have af:=ah G;clear G
 have lg:(P:Int)<=(c.kids.length:Int):=by omega
 refine aP (fun W=>Below N.heap.size N W) (fun i=> !([6].contains i)) [0,1,2,3,4,5,9,6,7,8] rfl (by kernel_rfl) ((aJ _ N).drew) ?_
 repeat ((refine bE (v:= ?_) rfl rfl (fun _ _ _ h=>h) rfl (fun W E=> ?_) ?_);rotate_left;(focus ((try dsimp only at E);have q0:=(E.cell (p:=⟨nb,2,none⟩) A).trans e2;have q1:=aA A E.size;first|(go_simp;first|done|with_reducible rfl)));(try simp only[Act.put,ak,ay,ax]))
 refine bT rfl rfl rfl ?_;intro K hK;go_simp
 refine af.out.mono ?_;rintro e R ⟨rfl,j4⟩
 have D:Below N.heap.size N R:=((aJ _ N).drew).trans j4
 refine hK.out _ _ D ?_
 repeat ((refine bE (v:= ?_) rfl rfl (fun _ _ _ h=>h) rfl (fun W E=> ?_) ?_);rotate_left;(focus ((try dsimp only at E);have q0:=(E.cell (p:=⟨nb,2,none⟩) A).trans e2;have q1:=aA A E.size;first|(go_simp;first|done|with_reducible rfl)));(try simp only[Act.put,ak,ay,ax]))
 refine bN ?_
 have r:Below w.heap.size w R:=q9.trans (D.mono q9.size)
 have jv:pM R S (.slice p9 (c.kids.length - P) (eZ - P)) (c.kids.drop P):=bq.below d9.out D
 have kC:=ah jv;clear jv
 have j6:∀g,v.ownBlock=some g->g<w.heap.size:=fun g hg=>jX.1 (fun hh=>hA.own.lt' hh hg)
 have mD:∀g,v.ownBlock=some g->¬S g:=hA.own.2
 have iO:=hA.nob
 have nY:I<w.heap.size:=(aj.1 hA.out).1
 have nH:=h.below r
 have ai:t<w.heap.size:=(aj.1 ht).1
 have lG:bY R t mp y H:=(r.block t ai).trans ht
 have l9:t≠I:=fun e=>by have h1:=hA.out;rw[<-e,ht] at h1;cases h1
 have l7:v.ownBlock≠some t:=hA.own.ne ht (by decide)
 have lq:=ah (hA.below r)
 have eH:nO I v v w R:=nO.below r
 have ko:B<=R.heap.size:=aI hB r.size
 have j3:=Qh j
 have l5:=ah j3;clear j3
 have sF:IntKind.i64.wrap (f+1)=f+1:=aM _ (by omega)
 clear j4 hA lg
 go_wp2_with fail
 go_loopw [19,20,21,65] (fun _ _ _ i wr=>∃(k:Nat) (vk:Value),k<=c.kids.length - P/\i= .int .i64 k/\Acc wr S B I mb vk (O++(j.take k).flatten) d/\((O.length+(j.take k).flatten.length:Nat):Int)<d/\nO I v vk R wr) (fun _ _ _ i _=>(c.kids.length - P) - (intOf i).toNat)
 case atStart=>exact⟨0,v,aR _,rfl,by simpa using lq.out,by simpa using HO.out,nO.refl _ _ _⟩
 case round=>
  obtain⟨k,vk,oo,rfl,qf,q8,Y⟩:=hrel
  have kz:Inv σ S mp wr:=nH.nY Y.1 (fun g hg x=>x.elim (fun e=>iO (by rw[<-e];exact hg)) (fun e=>mD g e hg))
  have kD:bY wr t mp y H:=(Y.1.block t (aA ai r.size) (fun x=>x.elim l9 l7)).trans lG
  have l6:B<=wr.heap.size:=aI ko Y.1.size
  by_cases av:k<c.kids.length - P
  ·have qc:k<(c.kids.drop P).length:=by rw[dM.out];exact av
   have Z:k<j.length:=by rw[di.out];exact qc
   obtain⟨pb,po,rfl,d1⟩:=kC.out.at rfl k qc
   have sN:w.heap.size<=pb:=jb pb po rfl
   have V:=aD R _ d1
   have lH:¬(pb=I\/v.ownBlock=some pb):=fun x=>x.elim (fun e=>by omega) (fun e=>by have:=j6 _ e;omega)
   have g1:=(Y.1.cell (p:=⟨pb,po+k,none⟩) V lH).trans d1
   have ol:=aA V Y.1.size
   have qm:=DN j k Z
   have z:(j.take (k+1)).flatten.length=(j.take k).flatten.length+j[k].length:=by rw[qm,aB]
   have C:=l5.out (k+1)
   have hy:=mr.out _ _ (HW.out k qc Z) (f+1) vk (O++(j.take k).flatten) wr kz kD (by omega) (by omega) qf l6 (by rw[aB];exact q8) (by rw[aB];omega)
   have mo:=ah qm;clear qm
   have Q:=ah z;clear z
   have dn:=ah C;clear C
   have Hy:=ah hy;clear hy
   generalize T:(c.kids.drop P)[k]=kd at*
   have nN:=ah T;clear T d1
   by_cases n:(((O++(j.take k).flatten).length+j[k].length:Nat):Int)<d
   ·have pV:=ah (gq n)
    have F:=ah n;clear n
    go_wp2_with ((refine Hy.out.mono ?_);unfold vH;rw[pV.out];rintro e w5 ⟨rfl,v5,J,ql⟩)
    go_roundw
    case rel=>
     have n:=F.out
     have z:=Q.out
     rw[aB] at n
     refine⟨k+1,v5,av,by go_num,?_,by omega,Y.trans ql⟩
     rw[aB,aL (l:=j[k]) (by omega),bA,<-mo.out] at J
     exact J
    case measure=>simp[intOf];omega
   ·have pV:=ah (bU n)
    have F:=ah n;clear n
    go_wp2_with ((refine Hy.out.mono ?_);unfold vH;rw[pV.out];rintro e w5 ⟨rfl,v5,J,ql⟩)
    go_ret2
    have n:=F.out
    have z:=Q.out
    have C:=dn.out
    rw[aB] at n
    refine⟨by rw[bU (by omega)];rfl,v5,?_,eH.trans (Y.trans ql)⟩
    rw[Qi j k _ Z (by omega) (by omega),<-bA]
    rw[show (d - (O.length:Int)).toNat - (j.take k).flatten.length=(d - ((O++(j.take k).flatten).length:Nat)).toNat from by rw[aB];omega]
    exact J
  ·obtain rfl:k=c.kids.length - P:=by omega
   go_wp2_with fail
   go_ret2
   have bg:j.take (c.kids.length - P)=j:=aL (by rw[di.out,dM.out];exact aC _)
   rw[bg] at qf q8
   refine⟨by rw[gq q8];rfl,vk,?_,eH.trans Y⟩
   rw[aL (l:=j.flatten) (by omega)]
   exact qf
theorem Om (t:Nat)(p:VS)(B n o:Nat)(c f:Int)(l:cK)(S:Nat->Prop)(e:ByteArray)(d:Int):∀m,QG t p B n o c f l S e d m:=by
 intro m
 induction m with
 |zero=>
  intro b L y a v O w h q z k hA hB r s
  cases y with
  |leaf g j i=>exact Db t p B n o c f b a l S e v O d _ w h q g j i (by omega) hA hB r s
 |succ m ih=>
  intro b L y a v O w h q z k hA hB r s
  cases y with
  |leaf g j i=>exact Db t p B n o c f b a l S e v O d _ w h q g j i (by omega) hA hB r s
  |inner A g j i x C=>exact I9 t p B n o c f b a l S e v O d m ih _ A w h q g j i x C z k hA hB r s
theorem Dm (t:Nat)(i:VS)(b:Int)(m:ByteArray)(a:Int)(w:World)(k:bY w t i b 0)(o:b=0\/a<=0):
  Calls Tryz.prog 82 #[.pointer (some ⟨t,0,none⟩),.string m,.int .i64 a] w fun e q=>e= .returned (.tuple #[.slice none 0 0,.int .i64 0])/\Below w.heap.size w q:=by
 have j:=aG w (.cells #[.int .i64 a] 3)
 have d:t<w.heap.size:=(aj.1 k).1
 have f:=(j.block t d).trans k
 have c:=iY w (.cells #[.int .i64 a] 3) (.cells #[.slice none 0 0] 184)
 obtain⟨_,x,_,_,_,_,s⟩:=cells3 ((c.block t d).trans k)
 have r:=(aG (w.alloc (.cells #[.int .i64 a] 3)) (.cells #[.slice none 0 0] 184)).cell (p:=⟨w.heap.size,0,none⟩) (by simp)
 rw[show (w.alloc (.cells #[.int .i64 a] 3)).cell? ⟨w.heap.size,0,none⟩=some (.int .i64 a) from by rw[pO];rfl] at r
 go_enter Tryz.func82,Tryz.ntmps82
 by_cases l:b=0
 ·subst l
  go_wp2_with (first
   |(go_at_call 139;go_must ((refine(nC t i 0 0 _ f).mono ?_);rintro e g ⟨rfl,v⟩;subst g)))
  go_ret2
  exact⟨rfl,c⟩
 ·have y:a<=0:=o.resolve_left l
  have n:(b==0)=false:=by simpa using l
  go_wp2_with (first
   |(go_at_call 139;go_must ((refine(nC t i b 0 _ f).mono ?_);rintro e g ⟨rfl,v⟩;subst g)))
  go_ret2
  exact⟨rfl,c⟩
theorem OX (t:Nat)(k:VS)(b:Int)(m:cK)(S:Nat->Prop)(j:ByteArray)(a:Int)(L:List Pr)(n:Nat)(w:World)(h:Inv m S k w)(l:bY w t k b 0)(G:b≠0)(I:0<a)(O:n<=40)(M:D9 m j n b L)(D:L.length<=999999):
  Calls Tryz.prog 82 #[.pointer (some ⟨t,0,none⟩),.string j,.int .i64 a] w fun e y=>∃v,e= .returned (.tuple #[v,.int .i64 0])/\aV y S w.heap.size 188 2 v (L.take a.toNat).length (dG (L.take a.toNat))/\Below w.heap.size w y:=by
 have r:=aG w (.cells #[.int .i64 a] 3)
 have f:t<w.heap.size:=(aj.1 l).1
 have d:=h.sub
 have q:=(r.block t f).trans l
 have c:=iY w (.cells #[.int .i64 a] 3) (.cells #[.slice none 0 0] 184)
 obtain⟨_,N,_,_,_,_,H⟩:=cells3 ((c.block t f).trans l)
 have E:=(aG (w.alloc (.cells #[.int .i64 a] 3)) (.cells #[.slice none 0 0] 184)).cell (p:=⟨w.heap.size,0,none⟩) (by simp)
 rw[show (w.alloc (.cells #[.int .i64 a] 3)).cell? ⟨w.heap.size,0,none⟩=some (.int .i64 a) from by rw[pO];rfl] at E
 have A:(b==0)=false:=by simpa using G
 have J:¬a<=0:=by omega
 have C:∀(z:Fn) (first cap:Array Value) (w:World),(Instr.makeFunc z first cap).run Tryz.prog w= .ok (.func z first cap) w:=fun _ _ _ _=>rfl
 have hA:Acc ((w.alloc (.cells #[.int .i64 a] 3)).alloc (.cells #[.slice none 0 0] 184)) S w.heap.size (w.heap.size+1) w.heap.size (.slice none 0 0) [] a:=by
  refine⟨?_,aV.nil _ _ _ _ _,?_,fun x=>absurd (d _ x) (by omega),fun x=>absurd (d _ x) (cO _)⟩
  ·have:=aH (w.alloc (.cells #[.int .i64 a] 3)) (.cells #[.slice none 0 0] 184);rwa [bD] at this
  ·exact((aG (w.alloc (.cells #[.int .i64 a] 3)) (.cells #[.slice none 0 0] 184)).block _ (by simp)).trans (aH _ _)
 have s:=Om t k w.heap.size (w.heap.size+1) w.heap.size b 0 m S j a n b L M 0 (.slice none 0 0) [] _ (h.below c) ((c.block t f).trans l) (by omega) (by omega) hA c.size (by simpa using I) (by simpa using D)
 have K:=ah s;clear s hA
 go_enter Tryz.func82,Tryz.ntmps82
 go_wp2_with (first
  |(go_at_call 139;go_must ((refine(nC t k b 0 _ q).mono ?_);rintro e B ⟨rfl,s⟩;subst B))
  |(go_at_call 141;go_must (refine K.out.mono ?_;rintro e F ⟨rfl,v,g,o⟩;have P:F.cell? ⟨w.heap.size+1,0,none⟩=some v:=(by simp[World.cell?,g.out]);have R:=(aj.1 g.out).1)))
 go_ret2
 refine⟨v,rfl,?_,?_⟩
 ·have:=g.own
  rw[oG,show (a - (([]:List Pr).length:Int)).toNat=a.toNat from by simp] at this
  exact this
 ·exact c.trans (o.1.fw c.size (fun i Q x=>x.elim (fun e=>by omega) (fun e=>by simp[Value.ownBlock] at e)))
def EG (t:Nat)(mp:VS)(root:Int)(key:ByteArray)(g:Nat)(cb:Array Value)(σ:cK)(S:Nat->Prop)(N:Prop)(P:cK->Int->Prop)(W:World):Prop:=
 Calls Tryz.prog 544 #[.pointer (some ⟨t,0,none⟩),.int .i64 root,.int .i64 0,.string key,.string ⟨#[]⟩,.func (.func g) #[] cb] W fun e w1=>(∃v S1,e= .returned v/\Step S S1 W w1/\
  Calls Tryz.prog 543 #[.pointer (some ⟨t,0,none⟩),v] w1 fun e2 w2=>(∃b σ' S',e2= .returned (.int .i64 b)/\Inv σ' S' mp w2/\Step S1 S' w1 w2/\P σ' b)\/(N/\Ku mp σ S1 w1 e2 w2))\/(N/\Ku mp σ S W e w1)
def Fb (t:Nat)(mp:VS)(S:Nat->Prop)(P:cK->Int->Prop)(w w':World):Prop:=
 ∃σ' S' b,Inv σ' S' mp w'/\bY w' t mp b 0/\¬S' t/\P σ' b/\Keep (fun g=>S g\/g=t) w w'/\∀g,S' g->S g\/w.heap.size<=g
def Cs (t:Nat)(mp:VS)(root:Int)(σ:cK)(S:Nat->Prop)(N:Prop)(w w':World):Prop:=
 N/\∃σ' S',Inv σ' S' mp w'/\bY w' t mp root 12/\¬S' t/\σ'.H=σ.H/\σ'.most=σ.most/\Keep (fun g=>S g\/g=t) w w'/\∀g,S' g->S g\/w.heap.size<=g
def Tm (mp:VS)(σ:cK)(S:Nat->Prop)(N:Prop)(W w2:World):Prop:=N/\∃σ' S',Inv σ' S' mp w2/\Step S S' W w2/\σ'.H=σ.H/\σ'.most=σ.most
theorem SB.step {t:Nat}{g:VS}{d e:Nat}{a c:Int}{b:ByteArray}{S S':Nat->Prop}{W i:World}(h:SB t g a c d e b W)(f:Step S S' W i)(k:¬S t)(l:¬S d)(j:¬S e):SB t g a c d e b i:=
 ⟨(f.1.block _ (aj.1 h.tr).1 k).trans h.tr,(f.1.block _ (aj.1 h.bx).1 l).trans h.bx,(f.1.block _ (aj.1 h.ky).1 j).trans h.ky⟩
theorem VD {t:Nat}{p:VS}{A B g:Nat}{a:Int}{j:ByteArray}{cb:Array Value}{M:cK}{S:Nat->Prop}{N:Prop}{P:cK->Int->Prop}{w W:World}(X:EG t p a j g cb M S N P W)(D:∀g,S g->g<w.heap.size)(o:¬S t)(pV:Below w.heap.size w W)(l:w.heap.size<=A)(m:w.heap.size<=B)(d:SB t p a 0 A B j W):
  Calls Tryz.prog 544 #[.pointer (some ⟨t,0,none⟩),.int .i64 a,.int .i64 0,.string j,.string ⟨#[]⟩,.func (.func g) #[] cb] W fun e s=>(∃v,e= .returned v/\SB t p a 0 A B j s/\
   Calls Tryz.prog 543 #[.pointer (some ⟨t,0,none⟩),v] s fun T k=>(∃b,T= .returned (.int .i64 b)/\SB t p a 0 A B j k/\(∀g,w.heap.size<=g->g<W.heap.size->k.heap[g]? =W.heap[g]?)/\W.heap.size<=k.heap.size/\(∃q I,Inv q I p k/\Step S I W k/\P q b))\/
    (T= .panicked (brk 12)/\SB t p a 0 A B j k/\(∀g,w.heap.size<=g->g<W.heap.size->k.heap[g]? =W.heap[g]?)/\W.heap.size<=k.heap.size/\Tm p M S N W k))\/
   (e= .panicked (brk 12)/\SB t p a 0 A B j s/\(∀g,w.heap.size<=g->g<W.heap.size->s.heap[g]? =W.heap[g]?)/\W.heap.size<=s.heap.size/\Tm p M S N W s):=by
 have f:∀x,w.heap.size<=x->¬S x:=fun x O Q=>absurd (D x Q) (aX.2 O)
 refine X.mono ?_
 rintro e s (⟨v,S1,rfl,c,hG⟩|⟨V,rfl,K,z,R,r,Z,Y⟩)
 ·have i:∀x,x<W.heap.size->¬S x->¬S1 x:=fun x O Q h1=>(c.2 x h1).elim Q (fun y=>absurd O (aX.2 y))
  have F:=(aj.1 d.tr).1
  have E:=(aj.1 d.bx).1
  have G:=(aj.1 d.ky).1
  have H:∀{S2:Nat->Prop} {k:World},Step S1 S2 s k->∀g,w.heap.size<=g->g<W.heap.size->k.heap[g]? =W.heap[g]? :=fun n g J C=>
   (n.1.block g (aA C c.1.size) (i g C (f g J))).trans (c.1.block g C (f g J))
  refine .inl ⟨v,rfl,d.step c o (f _ l) (f _ m),hG.mono ?_⟩
  rintro T k (⟨b,q,I,rfl,hI,n,hP⟩|⟨V,rfl,K,z,R,r,Z,Y⟩)
  ·exact .inl ⟨b,rfl,(d.step c o (f _ l) (f _ m)).step n (i _ F o) (i _ E (f _ l)) (i _ G (f _ m)),H n,aI c.1.size n.1.size,q,I,hI,c.trans n,hP⟩
  ·exact .inr ⟨rfl,(d.step c o (f _ l) (f _ m)).step r (i _ F o) (i _ E (f _ l)) (i _ G (f _ m)),H r,aI c.1.size r.1.size,V,K,z,R,c.trans r,Z,Y⟩
 ·exact .inr ⟨rfl,d.step r o (f _ l) (f _ m),fun g J C=>r.1.block g C (f g J),r.1.size,V,K,z,R,r,Z,Y⟩
theorem GH {t m:Nat}{z:VS}{f:cK}{S c:Nat->Prop}{w W p s:World}(j:∀g,S g->g<w.heap.size)(l:¬S t)(r:t<w.heap.size)(b:Below w.heap.size w W)(B:Inv f c z p)(d:Step S c W p)(n:w.heap.size<=m)(C:m<W.heap.size)(A:Keep (fun g=>g=m\/g=t) p s):
  Inv f c z s/\¬c t/\Keep (fun g=>S g\/g=t) w s/\∀g,c g->S g\/w.heap.size<=g:=by
 have D:∀x,w.heap.size<=x->¬S x:=fun x q d=>absurd (j x d) (aX.2 q)
 have a:∀x,x<W.heap.size->¬S x->¬c x:=fun x q v n=>(d.2 x n).elim v (fun y=>absurd q (aX.2 y))
 have k:t<W.heap.size:=aA r b.size
 refine⟨B.nY A (fun g o x=>x.elim (fun e=>a m C (D m n) (by rw[<-e];exact o)) (fun e=>a t k l (by rw[<-e];exact o))),a t k l,?_,fun g o=>(d.2 g o).imp id (fun y=>aI b.size y)⟩
 exact(((Step.of_below (S:=S) b).trans d).1.mono (fun _ _ h=> .inl h)).trans A (fun i E x=>x.elim (fun e=>absurd E (by rw[e];exact aX.2 n)) .inr)
theorem SS {t:Nat}{l:VS}{S:Nat->Prop}{P:cK->Int->Prop}{w n:World}(i:∀g,S g->g<w.heap.size)(o:¬S t)(m:t<w.heap.size)
  (h:∃W b f k,Below w.heap.size w W/\(∃e j,Inv e j l f/\Step S j W f/\P e b)/\w.heap.size<=k/\k<W.heap.size/\W.heap.size<=f.heap.size/\Keep (fun g=>g=k\/g=t) f n/\bY n t l b 0):Fb t l S P w n:=by
 obtain⟨W,b,f,k,p,⟨e,j,q,v,s⟩,x,r,B,A,y⟩:=h
 obtain⟨a,z,c,d⟩:=GH i o m p q v x r A
 exact⟨e,j,b,a,y,z,s,c,d⟩
theorem PI {t:Nat}{j:VS}{b:Int}{p:cK}{S:Nat->Prop}{N:Prop}{w m:World}(e:∀g,S g->g<w.heap.size)(n:¬S t)(k:t<w.heap.size)
  (h:∃W f i,Below w.heap.size w W/\Tm j p S N W f/\w.heap.size<=i/\i<W.heap.size/\W.heap.size<=f.heap.size/\Keep (fun g=>g=i\/g=t) f m/\bY m t j b 12):Cs t j b p S N w m:=by
 obtain⟨W,f,i,o,⟨A,l,r,q,v,D,C⟩,x,s,E,B,y⟩:=h
 obtain⟨a,z,c,d⟩:=GH e n k o q v x s B
 exact⟨A,l,r,a,y,z,D,C,c,d⟩
theorem RI (t:Nat)(i:VS)(c:Int)(r:cK)(S:Nat->Prop)(N:Prop)(P:cK->Int->Prop)(f a:ByteArray)(w:World)(d:∀g,S g->g<w.heap.size)(y:bY w t i c 0)(j:¬S t)(C:1<=f.size)(z:f.size<=128)(K:a.size<=64)
  (I:∀(W:World) (q o:Nat),Below w.heap.size w W->yO W S [(q,f),(o,a)]->EG t i c f 545 #[.pointer (some ⟨q,0,none⟩),.pointer (some ⟨o,0,none⟩)] r S N P W):
  Calls Tryz.prog 494 #[.pointer (some ⟨t,0,none⟩),.string f,.string a] w fun e v=>(e= .returned (.int .i64 0)/\Fb t i S P w v)\/(e= .returned (.int .i64 12)/\Cs t i c r S N w v):=by
 have F:∀x,w.heap.size<=x->¬S x:=fun x H J=>absurd (d x J) (aX.2 H)
 refine(U6 t i c f a w (fun W b D=>∃l E,Inv l E i D/\Step S E W D/\P l b) (Tm i r S N) y C z K ?_).mono ?_
 ·intro W M q o n s m A k B
  refine VD (I W q o n ?_) d j n s m k
  intro p G
  simp at G
  rcases G with rfl|rfl
  ·exact⟨k.ky,F _ m⟩
  ·exact⟨B,F _ A⟩
 ·rintro e v (⟨rfl,h⟩|⟨rfl,h⟩)
  ·exact .inl ⟨rfl,SS d j (aj.1 y).1 h⟩
  ·exact .inr ⟨rfl,PI d j (aj.1 y).1 h⟩
def Vi (l:List (ByteArray×Int))(hi:Option ByteArray):Option ByteArray:=match l with|[]=>hi|(k,_)::_=>some k
def lW (T:ByteArray->Option ByteArray->Int->List Pr->List Int->Prop)(hi:Option ByteArray):List (ByteArray×Int)->List Pr->List Int->Prop
 |[],cs,bs=>cs=[]/\bs=[]
 |(k,b)::l,cs,bs=>∃c cs' x bs',T k (Vi l hi) b c x/\lW T hi l cs' bs'/\cs=c++cs'/\bs=x++bs'
def Within (lo:ByteArray)(hi:Option ByteArray)(k:ByteArray):Prop:=lt k lo=false/\∀h,hi=some h->lt k h=true
def Nd.row (nd:Nd)(lo:ByteArray):List (ByteArray×Int):=(lo::nd.keys).zip nd.kids
def xw (σ:cK):Nat->Nat->ByteArray->Option ByteArray->Int->List Pr->List Int->Prop
 |0,_,lo,hi,b,cs,bs=>∃nd,Fe σ b nd/\nd.Ok/\nd.kids=[]/\cs=nd.pairs/\cs≠[]/\iK cs/\(∀p∈cs,Within lo hi p.1)/\bs=[b]
 |h+1,m,lo,hi,b,cs,bs=>∃nd bs',Fe σ b nd/\nd.Ok/\nd.kids≠[]/\m<=nd.kids.length/\bs=b::bs'/\lW (xw σ h 2) hi (nd.row lo) cs bs'
theorem Within.TQ {b k:ByteArray}{a:ByteArray}(h:Within b (some a) k):lt b a=true:=TR h.1 (h.2 a rfl)
structure Content (lo:ByteArray)(hi:Option ByteArray)(cs:List Pr):Prop where
 ne:cs≠[]
 rise:iK cs
 within:∀p∈cs,Within lo hi p.1
theorem Content.append {f k:ByteArray}{j:Option ByteArray}{a b:List Pr}(c:Content f (some k) a)(d:Content k j b):Content f j (a++b):=by
 have g:lt f k=true:=by
  obtain⟨p,r,rfl⟩:=Aj c.ne
  exact(c.within p (by simp)).TQ
 refine⟨by simp[c.ne],?_,fun p i=> ?_⟩
 ·refine wN.2 ⟨c.rise,d.rise,fun p i q e=> ?_⟩
  exact TN ((c.within p i).2 k rfl) (d.within q e).1
 ·rcases eB.1 i with h|h
  ·refine⟨(c.within p h).1,fun y l=> ?_⟩
   obtain⟨q,r,rfl⟩:=Aj d.ne
   have e:=d.within q (by simp)
   exact lt_trans ((c.within p h).2 k rfl) (TR e.1 (e.2 y l))
  ·exact⟨Xf (lt_asymm g) (d.within p h).1,(d.within p h).2⟩
theorem lW.content {T:ByteArray->Option ByteArray->Int->List Pr->List Int->Prop}(f:∀k z b c x,T k z b c x->Content k z c){g:Option ByteArray}:∀{k:ByteArray} {b:Int} {l:List (ByteArray×Int)} {i:List Pr} {m:List Int},lW T g ((k,b)::l) i m->Content k g i
 |k,b,[],_,_,h=>by
  obtain⟨c,a,x,d,e,⟨rfl,rfl⟩,rfl,rfl⟩:=h
  rw[dV]
  exact f _ _ _ _ _ e
 |k,b,(o,n)::l,_,_,h=>by
  obtain⟨c,a,x,d,e,j,rfl,rfl⟩:=h
  exact(f _ _ _ _ _ e).append (lW.content f j)
theorem xw.content {l:cK}:∀{h m:Nat} {e:ByteArray} {f:Option ByteArray} {b:Int} {g:List Pr} {i:List Int},xw l h m e f b g i->Content e f g
 |0,_,_,_,_,_,_,⟨_,_,_,_,_,q,d,n,_⟩=>⟨q,d,n⟩
 |h+1,_,e,f,b,g,i,⟨p,s,_,_,t,_,_,d⟩=>by
  unfold Nd.row at d
  cases j:p.kids with
  |nil=>exact absurd j t
  |cons a r=>
   rw[j] at d
   exact lW.content (fun k z b c x o=>xw.content o) d
theorem tu {b:List Pr}(l:iK b){a v:ByteArray}:dK b a=some v↔(a,v)∈b:=by
 obtain⟨m,p⟩:=qZ a b l
 constructor
 ·intro h
  unfold dK at h
  split at h
  ·rename_i f
   obtain⟨k,r⟩:=vW f
   rw[bB k] at h
   simp at h
   have:=bJ k
   rw[show b[dI b a]=(a,v) from Prod.ext r h] at this
   exact this
  ·cases h
 ·intro h
  obtain⟨i,g,e⟩:=nJ h
  have o:¬i<dI b a:=fun j=>by
   have:=m i g j
   rw[e] at this
   rw[lt_irrefl] at this;cases this
  have n:¬dI b a<i:=fun j=>by
   have q:=p (dI b a) (by omega) (aC _)
   have c:=mI.1 l (dI b a) i (by omega) g j
   rw[e] at c
   rw[q] at c;cases c
  have d:dI b a=i:=by omega
  unfold dK qQ
  rw[d,bB g,e]
  simp
theorem lW.Xb {T:ByteArray->Option ByteArray->Int->List Pr->List Int->Prop}(e:∀k z b c x,T k z b c x->Content k z c){m:Option ByteArray}:∀{k:ByteArray} {b:Int} {l:List (ByteArray×Int)} {o:List Pr} {n:List Int},lW T m ((k,b)::l) o n->xB (k::l.map (·.1))
 |k,b,[],_,_,_=>List.pairwise_singleton _ _
 |k,b,(g,t)::l,_,_,h=>by
  obtain⟨c,q,x,s,j,i,rfl,rfl⟩:=h
  have ih:=lW.Xb e i
  have f:=e _ _ _ _ _ j
  obtain⟨p,r,rfl⟩:=Aj f.ne
  have a:lt k g=true:=(f.within p (by simp)).TQ
  refine fD.2 ⟨fun y d=> ?_,ih⟩
  rcases aW.1 d with rfl|d
  ·exact a
  ·exact lt_trans a ((fD.1 ih).1 y d)
theorem A7 {c:List ByteArray}{a:List Int}(h:c.length=a.length - 1)(e:a≠[])(d:ByteArray):∃b l,(d::c).zip a=(d,b)::l/\l.map (·.1)=c/\a=b::l.map (·.2):=by
 cases a with
 |nil=>exact absurd rfl e
 |cons b r=>
  refine⟨b,c.zip r,rfl,?_,?_⟩
  ·rw[List.map_fst_zip];simp at h;omega
  ·rw[List.map_snd_zip];simp at h;omega
theorem xw.rising {g:cK}{h m:Nat}{f:ByteArray}{i:Option ByteArray}{a:Nd}{q:List Pr}{o:List Int}(r:a.Ok)(p:a.kids≠[])(d:lW (xw g h m) i (a.row f) q o):xB a.keys:=by
 obtain⟨b,l,e,n,_⟩:=A7 r.kk p f
 unfold Nd.row at d
 rw[e] at d
 have:=lW.Xb (fun k z b c x j=>xw.content j) d
 rw[n] at this
 exact(fD.1 this).2
theorem lW.find {T:ByteArray->Option ByteArray->Int->List Pr->List Int->Prop}(m:∀k z b c x,T k z b c x->Content k z c){j:Option ByteArray}{a:ByteArray}(g:∀y,j=some y->lt a y=true):∀{k:ByteArray} {b:Int} {l:List (ByteArray×Int)} {t:List Pr} {G:List Int},lW T j ((k,b)::l) t G->lt a k=false->
  ∃(r:jS (l.map (·.1)) a<(b::l.map (·.2)).length) (f:ByteArray) (z:Option ByteArray) (c:List Pr) (x:List Int),T f z (b::l.map (·.2))[jS (l.map (·.1)) a] c x/\Within f z a/\∀v,(a,v)∈t↔(a,v)∈c
 |k,b,[],_,_,h,n=>by
  obtain⟨c,o,x,p,i,⟨rfl,rfl⟩,rfl,rfl⟩:=h
  exact⟨by simp[jS],k,j,c,x,i,⟨n,g⟩,fun v=>by simp⟩
 |k,b,(f,s)::l,_,_,h,n=>by
  obtain⟨c,o,x,p,i,q,rfl,rfl⟩:=h
  cases d:lt a f with
  |true=>
   have e:jS (((f,s)::l).map (·.1)) a=0:=by simp[jS,d]
   have H:=lW.content m q
   refine⟨by rw[e];simp,k,some f,c,x,?_,⟨n,fun y F=>by cases F;exact d⟩,fun v=> ?_⟩
   ·simp only[e];exact i
   ·rw[eB]
    constructor
    ·rintro(h|h)
     ·exact h
     ·have:=(H.within _ h).1
      rw[d] at this;cases this
    ·exact .inl
  |false=>
   have e:jS (((f,s)::l).map (·.1)) a=jS (l.map (·.1)) a+1:=by simp[jS,d]
   obtain⟨r,D,z,C,B,E,I,J⟩:=lW.find m g q d
   refine⟨by rw[e];simpa using r,D,z,C,B,?_,I,fun v=> ?_⟩
   ·simp only[e];exact E
   ·rw[eB,<-J]
    constructor
    ·rintro(h|h)
     ·have:=((m _ _ _ _ _ i).within _ h).2 f rfl
      have A:lt a f=true:=this
      rw[d] at A;cases A
     ·exact h
    ·exact .inr
theorem PN {a b:List Pr}(d:iK a)(e:iK b){c:ByteArray}(h:∀v,(c,v)∈a↔(c,v)∈b):dK a c=dK b c:=by
 cases f:dK a c with
 |some v=>exact((tu e).2 ((h v).1 ((tu d).1 f))).symm
 |none=>
  cases g:dK b c with
  |none=>rfl
  |some v=>
   have:=(tu d).2 ((h v).2 ((tu e).1 g))
   rw[f] at this;cases this
theorem xw.look {v:cK}{a:ByteArray}:∀{h m:Nat} {g:ByteArray} {p:Option ByteArray} {b:Int} {s:List Pr} {C:List Int},xw v h m g p b s C->Within g p a->Look v a h b (dK s a)
 |0,_,_,_,_,_,_,⟨r,o,_,j,G,_,f,_,_⟩,_=>by
  subst G
  exact .leaf o j f
 |h+1,m,g,p,b,s,C,q@⟨r,J,o,A,j,_,_,f⟩,D=>by
  have d:=xw.rising A j f
  have t:=q.content
  obtain⟨M,l,e,I,H⟩:=A7 A.kk j g
  unfold Nd.row at f
  rw[e] at f
  obtain⟨n,P,z,c,x,B,N,O⟩:=lW.find (fun k z b c x q=>xw.content q) (fun y F=>D.2 y F) f D.1
  have i:=xw.look B N
  rw[<-PN t.rise B.content.rise O] at i
  have K:(l.map (·.1))=r.keys:=I
  simp only[K] at n i
  have E:M::l.map (·.2)=r.kids:=H.symm
  simp only[E] at n i
  exact .inner n o d i
def nh (σ:cK)(bs:List Int):Nat:=(bs.filter fun b=> !σ.held b).length
theorem zw (c:cK)(a b:List Int):nh c (a++b)=nh c a+nh c b:=by simp[nh]
theorem Gg (b:cK)(a:List Int):nh b a<=a.length:=IZ _ _
theorem KV {c:cK}{a b:List Int}(h:a.Perm b):nh c a=nh c b:=(h.filter _).length_eq
theorem Sy {b a:cK}(h:a.H=b.H)(x:Int):a.held x=b.held x:=by unfold cK.held;rw[h]
theorem Gh {c b:cK}(h:b.H=c.H)(a:List Int):nh b a=nh c a:=by
 unfold nh;congr 2;funext x;rw[Sy h]
def YA (_:cK):Prop:=True
structure uG (σ σ':cK)(us bs:List Int):Prop where
 H:σ'.H=σ.H
 most:σ'.most=σ.most
 frame:∀x,σ.hasB x=true->(x∉us\/False)->σ'.hasB x=true/\σ'.mem x=σ.mem x
 new:∀x∈bs,σ'.hasB x=true/\(x∈us\/σ.hasB x=false)
 nd:us.Nodup->bs.Nodup
 size:σ'.sz+nh σ us=σ.sz+nh σ bs
 ex:∀x,σ'.hasB x=true->x∈bs\/(σ.hasB x=true/\x∉us)
theorem uG.refl {c:cK}{b:List Int}(h:∀x∈b,c.hasB x=true):uG c c b b:=
 ⟨rfl,rfl,fun _ h _=>⟨h,rfl⟩,fun x a=>⟨h x a,.inl a⟩,id,rfl,fun x a=>by
  by_cases d:x∈b
  ·exact .inl d
  ·exact .inr ⟨a,d⟩⟩
theorem uG.trans {j i g:cK}{n m o:List Int}(h:uG j i n m)(k:uG i g m o):uG j g n o:=by
 refine⟨k.H.trans h.H,k.most.trans h.most,fun x f e=> ?_,fun x f=> ?_,fun e=>k.nd (h.nd e),?_,fun x f=> ?_⟩
 ·obtain⟨a,b⟩:=h.frame x f e
  have l:x∉m\/False:=by
   rcases e with e|e
   ·refine .inl fun l=> ?_
    rcases (h.new x l).2 with y|y
    ·exact e y
    ·rw[f] at y;cases y
   ·exact e.elim
  obtain⟨c,d⟩:=k.frame x a l
  exact⟨c,d.trans b⟩
 ·obtain⟨a,b⟩:=k.new x f
  refine⟨a,?_⟩
  rcases b with b|b
  ·exact(h.new x b).2
  ·cases p:j.hasB x with
   |false=>exact .inr rfl
   |true=>
    refine .inl (AZ fun e=> ?_)
    have:=(h.frame x p (.inl e)).1
    rw[b] at this;cases this
 ·have a:=h.size
  have b:=k.size
  rw[Gh h.H,Gh h.H] at b
  omega
 ·rcases k.ex x f with y|⟨y,z⟩
  ·exact .inl y
  ·exact .inr ((h.ex x y).resolve_left z)
theorem uG.perm {i c:cK}{j k e b:List Int}(h:uG i c j k)(a:j.Perm e)(f:k.Perm b):uG i c e b:=
 ⟨h.H,h.most,fun x d g=>h.frame x d (g.imp (fun y z=>y (a.mem_iff.1 z)) id),fun x d=>(h.new x (f.mem_iff.2 d)).imp id (fun y=>y.imp a.mem_iff.1 id),fun g=>(f.nodup_iff).1 (h.nd (a.nodup_iff.2 g)),by rw[<-KV a,<-KV f];exact h.size,fun x d=>(h.ex x d).imp f.mem_iff.1 (fun y=>⟨y.1,fun z=>y.2 (a.mem_iff.2 z)⟩)⟩
theorem uG.left {g b:cK}{f j rs:List Int}(h:uG g b f j)(l:(f++rs).Nodup)(c:∀x∈rs,g.hasB x=true):uG g b (f++rs) (j++rs):=by
 obtain⟨p,o,k⟩:=Uk.1 l
 have d:∀x∈rs,x∉f:=fun x a m=>k x m x a rfl
 refine⟨h.H,h.most,fun x a n=>h.frame x a (n.imp (fun y z=>y (dH _ z)) id),fun x a=> ?_,fun _=> ?_,?_,fun x a=> ?_⟩
 ·rcases eB.1 a with a|a
  ·exact(h.new x a).imp id (fun y=>y.imp (dH _) id)
  ·exact⟨(h.frame x (c x a) (.inl (d x a))).1,.inl (cB _ a)⟩
 ·refine Uk.2 ⟨h.nd p,o,fun x a y i e=> ?_⟩
  subst e
  rcases (h.new x a).2 with z|z
  ·exact d x i z
  ·rw[c x i] at z;cases z
 ·have:=h.size
  rw[zw,zw];omega
 ·rcases h.ex x a with y|⟨y,z⟩
  ·exact .inl (dH _ y)
  ·by_cases c:x∈rs
   ·exact .inl (cB _ c)
   ·exact .inr ⟨y,fun e=>(eB.1 e).elim z c⟩
theorem Nl {d f:cK}{b:Int}{g:Nd}(h:Wrote d b g f)(_:YA d):uG d f [] [b]:=by
 have c:∀x,d.hasB x=true->x≠b:=fun x a e=>by subst e;have:=h.new;rw[a] at this;cases this
 refine⟨h.held,h.most,fun x a _=>⟨(h.other x (c x a)).1.trans a,(h.other x (c x a)).2⟩,fun x a=> ?_,fun _=>by simp,?_,fun x a=> ?_⟩
 ·obtain rfl:x=b:=by simpa using a
  exact⟨h.blk.has,.inr h.new⟩
 ·rw[h.size]
  have:d.held b=false:=h.nheld
  simp[nh,this]
 ·by_cases e:x=b
  ·exact .inl (by rw[e];exact aY ..)
  ·exact .inr ⟨by rw[<-(h.other x e).1];exact a,by simp⟩
theorem cK.zG {a:cK}{b x:Int}(e:0<=b)(c:x≠b):(a.gone b).hasB x=a.hasB x:=by
 show (decide (0<=x) && (decide (x.toNat<a.most) && gN a.now b.toNat false x.toNat))=_
 unfold cK.hasB
 by_cases d:0<=x
 ·unfold gN;rw[if_neg (by omega)]
 ·simp[d]
theorem DW {a:cK}{b:Int}(k:a.hasB b=true):uG a (a.gone b) [b] []:=by
 obtain⟨n,rfl,m,c⟩:=cK.lH k
 refine⟨rfl,rfl,fun x d l=>⟨?_,rfl⟩,(fun x d=>by cases d),(fun _=>List.nodup_nil),?_,fun x d=> .inr ?_⟩
 ·rw[cK.zG (by omega) (fun e=>(l.resolve_right id) (by simpa using e))]
  exact d
 ·show countB (fun x=>gN a.now (n:Int).toNat false x||a.H.old x) a.most+_=countB (fun x=>a.now x||a.H.old x) a.most+_
  rw[dz]
  have j:a.held (n:Int)=a.H.old n:=by unfold cK.held;rw[dz];simp
  simp only[nh,List.filter_cons,j,List.filter_nil,jL,jD]
  cases i:a.H.old n with
  |true=>
   simp only[Bool.not_true,rV,if_false,jL,jD]
   refine jw _ (fun x _=> ?_)
   unfold gN
   split
   ·rename_i e;subst e;rw[i,c];rfl
   ·rfl
  |false=>
   simp only[Bool.not_false,jQ,dP]
   rw[<-Cg (f:=fun x=>a.now x||a.H.old x) (b:=n) (by rw[c];rfl) _ m]
   congr 1
   refine jw _ (fun x _=> ?_)
   unfold gN
   split
   ·rename_i e;subst e;rw[i];rfl
   ·rfl
 ·have g:x≠(n:Int):=fun e=>by
   rw[e] at d
   have:(decide ((0:Int)<=(n:Int)) && (decide ((n:Int).toNat<a.most) && gN a.now (n:Int).toNat false (n:Int).toNat))=true:=d
   simp[gN] at this
  rw[cK.zG (by omega) g] at d
  exact⟨d,by simpa using g⟩
theorem Qt {a:cK}{S:Nat->Prop}{c:VS}{w:World}(_:Inv a S c w){b:Int}(d:a.hasB b=true):uG a (a.gone b) [b] []:=DW d
theorem Fe.move {c a:cK}{b:Int}{d:Nd}(h:Fe c b d)(e:a.hasB b=true)(f:a.mem b=c.mem b):Fe a b d:=
 ⟨e,h.lo,h.hi,by rw[f];exact h.mem,h.fits⟩
theorem lW.change {T m:ByteArray->Option ByteArray->Int->List Pr->List Int->Prop}{g:Option ByteArray}:∀{l:List (ByteArray×Int)} {j:List Pr} {d:List Int},lW T g l j d->(∀k z b c x,(∀y∈x,y∈d)->T k z b c x->m k z b c x)->lW m g l j d
 |[],_,_,h,_=>h
 |(k,b)::l,_,_,h,i=>by
  obtain⟨c,e,x,f,p,o,rfl,rfl⟩:=h
  exact⟨c,e,x,f,i _ _ _ _ _ (fun y a=>dH _ a) p,lW.change o (fun k z b c x n=>i k z b c x (fun y a=>cB _ (n y a))),rfl,rfl⟩
theorem xw.move {r a:cK}:∀{h m:Nat} {s:ByteArray} {t:Option ByteArray} {b:Int} {v:List Pr} {n:List Int},xw r h m s t b v n->(∀x∈n,a.hasB x=true/\a.mem x=r.mem x)->xw a h m s t b v n
 |0,_,_,_,_,_,_,⟨j,f,e,p,g,l,i,A,q⟩,d=>by
  have:=d _ (by rw[q];exact cu.2 rfl)
  exact⟨j,f.move this.1 this.2,e,p,g,l,i,A,q⟩
 |h+1,_,_,_,_,_,_,⟨j,o,f,e,p,g,l,i⟩,d=>by
  subst l
  have:=d _ (aY ..)
  exact⟨j,o,f.move this.1 this.2,e,p,g,rfl,i.change fun k z b c x B D=>xw.move D fun y C=>d y (bn _ (B y C))⟩
theorem lW.has {T:ByteArray->Option ByteArray->Int->List Pr->List Int->Prop}{p:Int->Prop}(d:∀k z b c x,T k z b c x->∀y∈x,p y){j:Option ByteArray}:∀{l:List (ByteArray×Int)} {m:List Pr} {f:List Int},lW T j l m f->∀y∈f,p y
 |[],_,_,⟨_,e⟩=>by subst e;simp
 |(k,b)::l,_,_,h=>by
  obtain⟨c,n,x,o,i,g,rfl,rfl⟩:=h
  intro y a
  rcases eB.1 a with a|a
  ·exact d _ _ _ _ _ i y a
  ·exact lW.has d g y a
theorem xw.has {d:cK}:∀{h m:Nat} {g:ByteArray} {o:Option ByteArray} {b:Int} {p:List Pr} {e:List Int},xw d h m g o b p e->∀x∈e,d.hasB x=true
 |0,_,_,_,_,_,_,⟨l,c,_,_,_,_,_,_,f⟩=>by
  intro x a
  rw[f] at a
  rw[cu.1 a]
  exact c.has
 |h+1,_,_,_,_,_,_,⟨l,j,c,_,_,_,n,i⟩=>by
  subst n
  intro x a
  rcases aW.1 a with rfl|a
  ·exact c.has
  ·exact lW.has (fun _ _ _ _ _ k=>xw.has k) i x a
theorem lW.count {T:ByteArray->Option ByteArray->Int->List Pr->List Int->Prop}(d:∀k z b c x,T k z b c x->x.length+1<=2*c.length){m:Option ByteArray}:∀{l:List (ByteArray×Int)} {g:List Pr} {f:List Int},lW T m l g f->f.length+l.length<=2*g.length
 |[],_,_,⟨e,n⟩=>by subst e n;simp
 |(k,b)::l,_,_,h=>by
  obtain⟨c,o,x,p,j,i,rfl,rfl⟩:=h
  have a:=d _ _ _ _ _ j
  have b:=lW.count d i
  simp only[aB,aZ];omega
theorem Nd.Bu (a:Nd)(d:a.Ok)(b:a.kids≠[])(c:ByteArray):(a.row c).length=a.kids.length:=by
 have:=d.kk
 have:=gY.2 b
 unfold Nd.row;simp;omega
theorem xw.count {j:cK}:∀{h m:Nat} {f:ByteArray} {p:Option ByteArray} {b:Int} {d:List Pr} {c:List Int},xw j h m f p b d c->2<=m->c.length+1<=2*d.length
 |0,_,_,_,_,_,_,⟨_,_,_,_,_,a,_,_,e⟩,_=>by
  subst e
  have:=gY.2 a
  simp;omega
 |h+1,_,_,_,_,_,_,⟨n,i,_,o,l,q,a,g⟩,r=>by
  subst a
  have:=lW.count (fun _ _ _ _ _ k=>xw.count k (aC 2)) g
  rw[n.Bu o l] at this
  simp;omega
theorem xw.VN {k:cK}:∀{h m:Nat} {g:ByteArray} {p:Option ByteArray} {b:Int} {e:List Pr} {d:List Int},xw k h m g p b e d->d.length<=2*e.length
 |0,_,_,_,_,_,_,⟨_,_,_,_,_,a,_,_,f⟩=>by
  subst f
  have:=gY.2 a
  simp;omega
 |h+1,_,_,_,_,_,_,⟨n,j,_,o,c,q,a,i⟩=>by
  subst a
  have:=lW.count (fun _ _ _ _ _ l=>xw.count l (aC 2)) i
  rw[n.Bu o c] at this
  have:=gY.2 c
  simp;omega
def YB (σ σ':cK)(W:Nat):Prop:=σ'.sz<=σ.sz+W/\∀L,σ.sz+W<=L->σ.tk<=L->σ'.tk<=L
end Go.Proofs.YtpmbddooibgnaaaGreatDoor
