--
import Derived.Test.YtogbkgmlhhahdaaGreatT19
import Derived.Defers
import Derived.Recover
set_option maxRecDepth 100000
set_option maxHeartbeats 0
set_option linter.all false
namespace Go.Proofs.YtogbkgmlhhahdaaGreat
open Go.RowKit
variable{a f k:ByteArray}{b:List Pr}{t:Nat}{S:Nat->Prop}{v:Value}{W w:World}
def En (g:Nat)(cb:Array Value)(F:List Pr->List Pr)(bs:List (Nat×ByteArray)):Prop:=
 ∀(nb B:Nat) (nd:Nd) (S:Nat->Prop) (w:World),(∀g,S g->g<w.heap.size)->(∀p∈bs,sI w p.1 p.2/\p.1<B)->iQ w S B nb nd->fG nd.pairs->nd.pairs.length<=999999->
  Calls Tryz.prog g (#[.pointer (some ⟨nb,0,none⟩)]++cb) w fun e w'=>e= .returned (.tuple #[])/\iQ w' S B nb ⟨F nd.pairs,nd.keys,nd.kids⟩/\Below B w w'
def xh (w:World)(S:Nat->Prop)(bs:List (Nat×ByteArray)):Prop:=∀p∈bs,sI w p.1 p.2/\¬S p.1
def xh.step {w w':World}{S S':Nat->Prop}{e:List (Nat×ByteArray)}(h:xh w S e)(c:Step S S' w w'):xh w' S' e:=fun p f=>by
 obtain⟨d,a⟩:=h p f
 have b:=(nP d).2
 exact⟨(c.1.block _ b a).trans d,fun x=>(c.2 _ x).elim a (fun y=>absurd b (bg.2 y))⟩
def xh.to {b:World}{c:List (Nat×ByteArray)}(h:xh w S c){d:Nat->Prop}(e:Step S d w b):∀p∈c,sI b p.1 p.2/\p.1<w.heap.size:=fun p a=>⟨((h.step e) p a).1,(nP (h p a).1).2⟩
def Inv.Rb {d:cK}{c:VS}{B:Nat}{b:World}(h:Inv d S c w)(a:Below B w b)(e:∀g,S g->g<B):Inv d S c b:=
 h.lQ (M:=fun g=>B<=g) ⟨a.os,a.tape,a.output,a.size,fun k _ i=>a.block k (gG.1 i)⟩ (fun g f=>gG.2 (e g f))
def dw.VY {g f:World}{e:VS}{a c b d:Int}(h:dw w t e a c)(j:Below g.heap.size w f)(i:dw g t e b d):dw f t e a c:=
 (j.block t (ai.1 i).1).trans h
def Step.Ql {b:Nat->Prop}{c e:World}(h:Step S b w c)(a:Below w.heap.size c e):Step S b w e:=
 ⟨⟨a.os.trans h.1.os,a.tape.trans h.1.tape,a.output.trans h.1.output,aK h.1.size a.size,fun k d f=>(a.block k d).trans (h.1.block k d f)⟩,h.2⟩
def mF.mono {l:VS}{k:cK}{g:Nat->Prop}{i:Nd}{j:World}{e:Ending}{f:World}(h:mF l k S i a w e f)(c:Step g S j w):mF l k g i a j e f:=by
 rcases h with ⟨v,p,n,d,x,r,m,t,q,s,y⟩|⟨b,o⟩
 ·exact .inl ⟨v,p,n,d,x,r,m.base c.1.size,t,q,s,c.trans y⟩
 ·exact .inr ⟨b,o.after c rfl rfl⟩
theorem OT (t:Nat)(n:VS)(d k m:Int)(y:cK)(S:Nat->Prop)(i j:ByteArray)(g:Nat)(D:Array Value)(F:List Pr->List Pr)(C:List (Nat×ByteArray))(B:∀c w,(callFunc g c).run Tryz.prog w= .ok (.enter g c) w)(E:En g D F C)
  (w:World) (h:Inv y S n w) (N:dw w t n d k) (l:¬S t) (r:xh w S C) (W:Nd.Ok ⟨F [],[],[]⟩):
  Calls Tryz.prog 111 #[.pointer (some ⟨t,0,none⟩),.int .i64 0,.int .i64 m,.string i,.string j,.func (.func g) #[] D] w (mF n y S ⟨F [],[],[]⟩ i w):=by
 have Z:=ah E;clear E;have f:=h.sub;go_enter Tryz.func111,Tryz.ntmps111;have a:=aN w (.cells #[.slice none 0 0,.slice none 0 0,.slice none 0 0] 165);have q:Step S S w (w.alloc (.cells #[.slice none 0 0,.slice none 0 0,.slice none 0 0] 165)):=Step.of_below a;have z:iQ (w.alloc (.cells #[.slice none 0 0,.slice none 0 0,.slice none 0 0] 165)) S w.heap.size w.heap.size ⟨[],[],[]⟩:=
  ⟨fun x=>absurd (f _ x) (dB _),aD _,_,_,_,aV w _,aT.nil _ _ _ _ _,aT.nil _ _ _ _ _,aT.nil _ _ _ _ _⟩
 go_wp2_with (first|((refine(Z.out w.heap.size w.heap.size ⟨[],[],[]⟩ S _ (fun g P=>ax (f g P) a.size) (r.to q) z vI (aS _)).mono ?_);rintro e I ⟨rfl,p,b⟩)|(go_at_call 150;go_must ((refine(rE t n d k _ y S w.heap.size ⟨F [],[],[]⟩ i I (h.below (a.trans b)) (N.step l (Step.of_below (a.trans b))).1 l p.jO W (iL _)).mono ?_);rintro e w2 (⟨v,R,O,s,Y,rfl,K,G,J,H,M⟩|⟨o,rfl,X,A,V,Q,g3,T⟩)<;>refine sO ?_)))
 rotate_left
 ·refine sN ?_
  exact⟨rfl,mF.mono (.inr ⟨o,rfl,X,A,V,Q,g3,T⟩) (Step.of_below (a.trans b))⟩
 refine sN ?_;go_wp2_with fail;go_ret;exact mF.mono (.inl ⟨v,R,O,s,Y,rfl,K,G,J,H,M⟩) (Step.of_below (a.trans b))
theorem OU (t:Nat)(y:VS)(d m b f:Int)(s:cK)(S:Nat->Prop)(H a:ByteArray)(c:Nd)(g:Nat)(P:Array Value)(F:List Pr->List Pr)(O:List (Nat×ByteArray))(N:∀k w,(callFunc g k).run Tryz.prog w= .ok (.enter g k) w)(Q:En g P F O)
  (w:World) (h:Inv s S y w) (B:dw w t y d m) (o:¬S t) (E:xh w S O) (z:Cm s b c) (D:c.kids=[]) (R:f<=40) (hr:fG c.pairs) (ok:Nd.Ok ⟨F c.pairs,[],[]⟩):
  Calls Tryz.prog 111 #[.pointer (some ⟨t,0,none⟩),.int .i64 b,.int .i64 f,.string H,.string a,.func (.func g) #[] P] w (mF y (s.gone b) S ⟨F c.pairs,[],[]⟩ a w):=by
 have Hf:=ah Q;clear Q;have x:=h.sub;have p9:(b==0)=false:=by have:=z.lo;simp;omega
 have G:c.kids.isEmpty=true:=by rw[D];rfl
 have pM:=z.fits.np;have n:=z.fits.kk;rw[D] at n;have l:c.keys=[]:=aY (by simpa using n);have r:=ah l;clear l n;go_enter Tryz.func111,Tryz.ntmps111;go_wp2_with (first|(go_at_call 152;go_must ((refine(Il t y d m b f s S c w h B o z R).mono ?_);rintro e w1 ⟨C,rfl,p,q,i⟩))|(go_at_call 121;go_must ((refine(ku C c _ S p.jO).mono ?_);rintro e M ⟨rfl,hw⟩;subst M;rw[G]))|((refine(Hf.out C w.heap.size c S _ q.sub (E.to i) p hr (by omega)).mono ?_);rw[r.out,D];rintro e M ⟨rfl,I,j⟩)|(go_at_call 150;go_must ((refine(rE t y d m _ (s.gone b) S C ⟨F c.pairs,[],[]⟩ a M (q.Rb j x) ((B.step o i).1.VY j B) o I.jO ok (iL _)).mono ?_);rintro e w3 (⟨v,ps,Z,J,S',rfl,X,T,V,W,Y⟩|⟨A,rfl,τ,K,g1,g2,g3,g4⟩)<;>refine sO ?_)))
 rotate_left
 ·refine sN ?_
  exact⟨rfl,mF.mono (.inr ⟨A,rfl,τ,K,g1,g2,g3,g4⟩) (i.Ql j)⟩
 refine sN ?_;go_wp2_with fail;go_ret;exact mF.mono (.inl ⟨v,ps,Z,J,S',rfl,X,T,V,W,Y⟩) (i.Ql j)
theorem G8 (c f:Nat)(w:World):
  CallsD Tryz.prog 149 #[.pointer (some ⟨c,0,none⟩),.pointer (some ⟨f,0,none⟩)] .returning w fun e i d=>e= .returned (.tuple #[])/\i= .returning/\Below w.heap.size w d:=by
 refine callsD_of_wpS Tryz.func149 rfl fun a j g=> ?_
 apply wpS_seq;apply wpS_region;have b:∀w:World,(Instr.typeAssert Value.nilIface 20 250 true).run Tryz.prog w= .ok (.tuple #[.agg #[.int .i64 0],.bool false]) w:=fun _=>by kernel_rfl
 simp[wpOpsS,go_sem,recoverD,g,Tryz.ntmps149,Exit.thenS,b,Array.replicate,List.replicate];apply wpS_seq;apply wpS_region;simp[wpOpsS,go_sem,Exit.thenS];refine wpS_cond (t:=false) (by simp[Act.eval]) ?_;simp only[SH,if_false];refine wpS_of_wp (wp_skip ?_);cases a
 simp_all [bodyPostS,results,Tryz.results149]
 exact aN _ _
def dw.UU {c:VS}{a b e:Int}(h:dw w t c a b):dw (w.setCell ⟨t,2,none⟩ (.int .i64 e)) t c a e:=by
 unfold dw at*;simp[World.setCell,aQ,h]
theorem G9 (t:Nat)(O:VS)(l D:Int)(n f:Nat)(b Q:Int)(w:World)(E:dw w t O l D)(A:w.heap[n]? =some (.cells #[.pointer (some ⟨t,0,none⟩)] 98 (0,0)))(H:w.heap[f]? =some (.cells #[.int .i64 Q] 27 (0,0)))(C:t≠f):
  CallsD Tryz.prog 149 #[.pointer (some ⟨n,0,none⟩),.pointer (some ⟨f,0,none⟩)] (.panicking (brk b)) w fun e u' R=>e= .returned (.tuple #[])/\settle u'= .returning/\dw R t O l b/\R.cell? ⟨f,0,none⟩=some (.int .i64 b)/\Keep (fun g=>g=t\/g=f) w R:=by
 refine callsD_of_wpS Tryz.func149 rfl fun Z cs hu=> ?_
 apply wpS_seq;apply wpS_region;have X:∀w:World,(Instr.typeAssert (.iface 250 (.agg #[.int .i64 b])) 20 250 true).run Tryz.prog w= .ok (.tuple #[.agg #[.int .i64 b],.bool true]) w:=fun _=>by kernel_rfl
 simp[wpOpsS,go_sem,recoverD,hu,brk,Tryz.ntmps149,Exit.thenS,X,Array.replicate,List.replicate];obtain⟨a,q⟩:=nm (w.alloc (.cells #[.int .i64 b] 250));have k:Below w.heap.size w a:=by rw[<-q.out];exact aN w _
 have hx:a.cell? ⟨w.heap.size,0,none⟩=some (.int .i64 b):=by rw[<-q.out];simp
 have x:w.heap.size<a.heap.size:=by rw[<-q.out];simp
 rw[q.out];have B:=(ai.1 E).1;have s:=(ai.1 A).1;have r:=(ai.1 H).1;have o:dw a t O l D:=(k.block t B).trans E;have c0:a.cell? ⟨n,0,none⟩=some (.pointer (some ⟨t,0,none⟩)):=by
  have:=(k.block n s).trans A;simp[World.cell?,this]
 have F:=(k.block f r).trans H;have Y:∀j,a.frozen? ⟨t,j,none⟩=false:=fun j=>by unfold dw at o;simp[World.frozen?,o]
 have G:=ax B k.size;have d:=ax s k.size;have z:=ax r k.size;apply wpS_seq;apply wpS_region;simp[wpOpsS,go_sem,Exit.thenS];refine wpS_cond (t:=true) (by simp[Act.eval]) ?_;simp only[iX];refine wpS_of_wp ?_;have V:t≠n:=fun e=>by subst e;unfold dw at E;rw[A] at E;cases E
 have T:a.drew.cell? ⟨n,0,none⟩=some (.pointer (some ⟨t,0,none⟩))/\a.drew.cell? ⟨w.heap.size,0,none⟩=some (.int .i64 b)/\n<a.drew.heap.size/\w.heap.size<a.drew.heap.size:=⟨c0,hx,d,x⟩;have c:Keep (· =t) a.drew (a.drew.setCell ⟨t,2,none⟩ (.int .i64 b)):=(Keep.refl (· =t) _).setCell (p:=⟨t,2,none⟩) (.inr rfl) _;have I:(a.drew.setCell ⟨t,2,none⟩ (.int .i64 b)).cell? ⟨n,0,none⟩=some (.pointer (some ⟨t,0,none⟩))/\(a.drew.setCell ⟨t,2,none⟩ (.int .i64 b)).cell? ⟨w.heap.size,0,none⟩=some (.int .i64 b)/\n<(a.drew.setCell ⟨t,2,none⟩ (.int .i64 b)).heap.size/\w.heap.size<(a.drew.setCell ⟨t,2,none⟩ (.int .i64 b)).heap.size:=
  ⟨(c.cell d (fun e=>V e.symm)).trans c0,(c.cell (p:=⟨w.heap.size,0,none⟩) x (by show ¬w.heap.size=t;omega)).trans hx,ax d c.size,ax x c.size⟩
 have y:dw (a.drew.setCell ⟨t,2,none⟩ (.int .i64 b)) t O l b:=dw.UU (w:=a.drew) o;have m:(a.drew.setCell ⟨t,2,none⟩ (.int .i64 b)).heap[f]? =some (.cells #[.int .i64 Q] 27 (0,0)):=(c.block f z (fun e=>C e.symm)).trans F;have ql:a.drew.frozen? ⟨t,2,none⟩=false:=Y 2;have N:∃v,a.drew.cell? ⟨t,2,none⟩=some v:=⟨_,by unfold dw at o;show a.cell? _=_;simp[World.cell?,o];rfl⟩
 obtain⟨vz,N⟩:=N;obtain⟨P,J⟩:=nm (a.drew.setCell ⟨t,2,none⟩ (.int .i64 b));rw[J.out] at c I y m;have qb:P.cell? ⟨f,0,none⟩=some (.int .i64 Q):=by simp[World.cell?,m]
 have pM:P.frozen? ⟨f,0,none⟩=false:=by simp[World.frozen?,m]
 have p9:=(ai.1 m).1;have qc:t<a.drew.heap.size:=G;refine aP (fun W=>W.cell? ⟨n,0,none⟩=some (.pointer (some ⟨t,0,none⟩))/\W.cell? ⟨w.heap.size,0,none⟩=some (.int .i64 b)/\n<W.heap.size/\w.heap.size<W.heap.size) (fun i=> !([7,8].contains i)) [0,1,2,3,4,5,6,7,8] rfl (by kernel_rfl) T ?_
 repeat (refine oq ?_ rfl rfl rfl ?_ ?_;rotate_left;(focus intro W hW;(try dsimp only at hW);obtain⟨q0,q1,q2,q3⟩:=hW;go_simp;first|done|with_reducible rfl);try simp only[Act.put,aj,au,ak])
 refine dI rfl rfl rfl ?_;intro K S;go_simp;rw[show (a.setCell ⟨t,2,none⟩ (.int .i64 b)).drew=a.drew.setCell ⟨t,2,none⟩ (.int .i64 b) from rfl,J.out];refine S.out _ _ I ?_;refine jC rfl rfl rfl (by kernel_rfl) ?_;intro K S;go_simp;refine S.out _ _ ?_;refine bR ?_;have M:Keep (· =f) P (P.setCell ⟨f,0,none⟩ (.int .i64 b)):=(Keep.refl (· =f) _).setCell (p:=⟨f,0,none⟩) (.inr rfl) _;refine⟨rfl,_,rfl,_,?_,rfl,rfl,(M.block t (ai.1 y).1 C).trans y,?_,?_⟩
 ·simp[results,Tryz.results149,go_sem]
 ·simp[World.setCell,World.cell?,aQ,m]
 ·exact(((Keep.of_below k (fun g=>g=t\/g=f)).drew).trans (c.mono (fun _ _ e=> .inl e)) (fun _ _ e=>e)).trans (M.mono (fun _ _ e=> .inr e)) (fun _ _ e=>e)
theorem Eb (t:Nat)(s:VS)(c k:Int)(g:Nat)(C:Array Value)(w:World)(R A:World->Prop)(F:t<w.heap.size)(y:∀b w,(callFunc g b).run Tryz.prog w= .ok (.enter g b) w)
  (D:Calls Tryz.prog g C ((w.alloc (.cells #[.pointer (some ⟨t,0,none⟩)] 98)).alloc (.cells #[.int .i64 0] 27)) fun e d=>
   (e= .returned (.tuple #[])/\R d/\d.heap[w.heap.size+1]? =some (.cells #[.int .i64 0] 27 (0,0)))\/
   (e= .panicked (brk 12)/\A d/\d.heap[w.heap.size+1]? =some (.cells #[.int .i64 0] 27 (0,0))/\d.heap[w.heap.size]? =some (.cells #[.pointer (some ⟨t,0,none⟩)] 98 (0,0))/\dw d t s c k)):
  Calls Tryz.prog 108 #[.pointer (some ⟨t,0,none⟩),.func (.func g) #[] C] w fun e d=>
   (e= .returned (.int .i64 0)/\∃a,R a/\Keep (· =w.heap.size+1) a d)\/
   (e= .returned (.int .i64 12)/\∃a,A a/\Keep (fun g=>g=t\/g=w.heap.size+1) a d/\dw d t s c 12):=by
 have G:∀(E:Fn) (first cap:Array Value) (w:World),(Instr.makeFunc E first cap).run Tryz.prog w= .ok (.func E first cap) w:=fun _ _ _ _=>rfl
 have O:=ah D;clear D
 go_enter_defers Tryz.func108,Tryz.ntmps108
 go_wp2_with (refine O.out.mono ?_;rintro e a (⟨rfl,K,j⟩|⟨rfl,v,j,r,H⟩)<;>refine sO ?_)
 ·have Q:a.cell? ⟨w.heap.size+1,0,none⟩=some (.int .i64 0):=by simp[World.cell?,j]
  have P:a.frozen? ⟨w.heap.size+1,0,none⟩=false:=by simp[World.frozen?,j]
  have J:=(ai.1 j).1;refine sN ?_;go_wp2_with fail;have n:Keep (· =w.heap.size+1) a (a.setCell ⟨w.heap.size+1,0,none⟩ (.int .i64 0)):=Keep.setCell (M:=(· =w.heap.size+1)) (p:=⟨w.heap.size+1,0,none⟩) (Keep.refl _ _) (.inr rfl) _;have o:(a.setCell ⟨w.heap.size+1,0,none⟩ (.int .i64 0)).cell? ⟨w.heap.size+1,0,none⟩=some (.int .i64 0):=by simp[World.setCell,World.cell?,aQ,j]
  have l:w.heap.size+1<(a.setCell ⟨w.heap.size+1,0,none⟩ (.int .i64 0)).heap.size:=ax J n.size;generalize a.setCell ⟨w.heap.size+1,0,none⟩ (.int .i64 0)=N at*;refine jM (f:=149) (args:=#[.pointer (some ⟨w.heap.size,0,none⟩),.pointer (some ⟨w.heap.size+1,0,none⟩)]) (by simp) (by simp[go_sem]) ?_;refine(G8 w.heap.size (w.heap.size+1) N).mono ?_;rintro e B i ⟨rfl,rfl,z⟩;have x:i.cell? ⟨w.heap.size+1,0,none⟩=some (.int .i64 0):=(z.cell (p:=⟨w.heap.size+1,0,none⟩) l).trans o;have m:Keep (· =w.heap.size+1) a i:=n.trans (Keep.of_below z (fun _=>False)) (fun _ _ h=>h.elim);refine⟨_,?_,.inl ⟨rfl,a,K,m⟩⟩;simp[results,Tryz.results108,go_sem,x]
 ·refine sN ?_
  refine jM (f:=149) (args:=#[.pointer (some ⟨w.heap.size,0,none⟩),.pointer (some ⟨w.heap.size+1,0,none⟩)]) (by simp) (by simp[go_sem]) ?_;refine(G9 t s c k w.heap.size (w.heap.size+1) 12 0 a H r j (by omega)).mono ?_;rintro e B i ⟨rfl,I,q,x,n⟩;show Leaves _ _ _ _ [] (settle B) i;rw[I];refine⟨_,?_,.inr ⟨rfl,a,v,n,q⟩⟩;simp[results,Tryz.results108,go_sem,x]
structure SB (t:Nat)(mp:VS)(root err:Int)(tb kb:Nat)(key:ByteArray)(W:World):Prop where
 tr:dw W t mp root err
 bx:W.heap[tb]? =some (.cells #[.pointer (some ⟨t,0,none⟩)] 98 (0,0))
 ky:sI W kb key
def SB.cells {i:VS}{a e:Int}{c f:Nat}{b:ByteArray}(h:SB t i a e c f b W):
  W.cell? ⟨c,0,none⟩=some (.pointer (some ⟨t,0,none⟩))/\c<W.heap.size/\W.cell? ⟨t,1,none⟩=some (.int .i64 a)/\t<W.heap.size/\W.cell? ⟨f,0,none⟩=some (.string b)/\f<W.heap.size/\W.frozen? ⟨t,1,none⟩=false:=by
 obtain⟨_,j,_,_,g,_,d⟩:=cells3 h.tr;exact⟨by simp[World.cell?,h.bx],(ai.1 h.bx).1,j,d,(nP h.ky).1,(nP h.ky).2,g⟩
theorem Tt (t:Nat)(l:VS)(k g y:Nat)(a d:Int)(c:ByteArray)(w:World)(R:Int->World->Prop)(s:World->Prop)(x:SB t l a d k g c w)
  (A:Calls Tryz.prog 111 #[.pointer (some ⟨t,0,none⟩),.int .i64 a,.int .i64 0,.string c,.string ⟨#[]⟩,.func (.func 112) #[] #[.pointer (some ⟨g,0,none⟩),.pointer (some ⟨y,0,none⟩)]] w.drew fun e o=>(∃v,e= .returned v/\SB t l a d k g c o/\
   Calls Tryz.prog 110 #[.pointer (some ⟨t,0,none⟩),v] o fun z j=>(∃b,z= .returned (.int .i64 b)/\SB t l a d k g c j/\R b j)\/(z= .panicked (brk 12)/\SB t l a d k g c j/\s j))\/(e= .panicked (brk 12)/\SB t l a d k g c o/\s o)):
  Calls Tryz.prog 109 #[.pointer (some ⟨k,0,none⟩),.pointer (some ⟨g,0,none⟩),.pointer (some ⟨y,0,none⟩)] w fun e r=>(e= .returned (.tuple #[])/\∃b j,R b j/\SB t l a d k g c j/\r=j.setCell ⟨t,1,none⟩ (.int .i64 b))\/(e= .panicked (brk 12)/\SB t l a d k g c r/\s r):=by
 have N:=ah A;clear A;go_enter Tryz.func109,Tryz.ntmps109;go_wp2_with fail;have D:∀(B:Fn) (first cap:Array Value) (w:World),(Instr.makeFunc B first cap).run Tryz.prog w= .ok (.func B first cap) w:=fun _ _ _ _=>rfl
 refine aP (fun W=>SB t l a d k g c W) (fun i=> !([9,10,13].contains i)) [0,1,2,3,4,5,6,7,8,9,10,11,12,13] rfl (by kernel_rfl) ⟨x.tr,x.bx,x.ky⟩ ?_
 repeat (refine oq ?_ rfl rfl rfl ?_ ?_;rotate_left;(focus intro W p;(try dsimp only at p);obtain⟨C,F,O,G,I,H,E⟩:=p.cells;first|(go_simp;first|done|with_reducible rfl));try simp only[Act.put,aj,au,ak])
 refine dI rfl rfl rfl ?_;intro K q;go_simp;refine N.out.mono ?_;rintro e o (⟨v,rfl,f,J⟩|⟨rfl,f,n⟩);rotate_left
 ·exact⟨rfl,.inr ⟨rfl,f,n⟩⟩
 refine q.out _ _ f ?_;refine dI rfl rfl rfl ?_;intro K q;go_simp;refine J.mono ?_;rintro e j (⟨b,rfl,m,M⟩|⟨rfl,f,n⟩);rotate_left
 ·exact⟨rfl,.inr ⟨rfl,f,n⟩⟩
 refine q.out _ _ m ?_
 repeat (refine oq ?_ rfl rfl rfl ?_ ?_;rotate_left;(focus intro W p;(try dsimp only at p);obtain⟨C,F,O,G,I,H,E⟩:=p.cells;first|(go_simp;first|done|with_reducible rfl));try simp only[Act.put,aj,au,ak])
 obtain⟨_,_,Q,P,_,_,S⟩:=m.cells;refine jC rfl rfl rfl (by kernel_rfl) ?_;intro K q;go_simp;refine q.out _ _ ?_;refine bR ?_;go_wp2_with fail;go_end0;exact .inl ⟨rfl,b,j,M,m,rfl⟩
theorem LY (t:Nat)(l:VS)(k j:Nat)(a d:Int)(c:ByteArray)(w:World)(R:Int->World->Prop)(s:World->Prop)(x:SB t l a d k j c w)
  (z:Calls Tryz.prog 111 #[.pointer (some ⟨t,0,none⟩),.int .i64 a,.int .i64 0,.string c,.string ⟨#[]⟩,.func (.func 194) #[] #[.pointer (some ⟨j,0,none⟩)]] w.drew fun e o=>(∃v,e= .returned v/\SB t l a d k j c o/\
   Calls Tryz.prog 110 #[.pointer (some ⟨t,0,none⟩),v] o fun y g=>(∃b,y= .returned (.int .i64 b)/\SB t l a d k j c g/\R b g)\/(y= .panicked (brk 12)/\SB t l a d k j c g/\s g))\/(e= .panicked (brk 12)/\SB t l a d k j c o/\s o)):
  Calls Tryz.prog 193 #[.pointer (some ⟨k,0,none⟩),.pointer (some ⟨j,0,none⟩)] w fun e r=>(e= .returned (.tuple #[])/\∃b g,R b g/\SB t l a d k j c g/\r=g.setCell ⟨t,1,none⟩ (.int .i64 b))\/(e= .panicked (brk 12)/\SB t l a d k j c r/\s r):=by
 have M:=ah z;clear z;go_enter Tryz.func193,Tryz.ntmps193;go_wp2_with fail;have C:∀(A:Fn) (first cap:Array Value) (w:World),(Instr.makeFunc A first cap).run Tryz.prog w= .ok (.func A first cap) w:=fun _ _ _ _=>rfl
 refine aP (fun W=>SB t l a d k j c W) (fun i=> !([9,10,13].contains i)) [0,1,2,3,4,5,6,7,8,9,10,11,12,13] rfl (by kernel_rfl) ⟨x.tr,x.bx,x.ky⟩ ?_
 repeat (refine oq ?_ rfl rfl rfl ?_ ?_;rotate_left;(focus intro W p;(try dsimp only at p);obtain⟨B,E,N,F,H,G,D⟩:=p.cells;first|(go_simp;first|done|with_reducible rfl));try simp only[Act.put,aj,au,ak])
 refine dI rfl rfl rfl ?_;intro K q;go_simp;refine M.out.mono ?_;rintro e o (⟨v,rfl,f,I⟩|⟨rfl,f,n⟩);rotate_left
 ·exact⟨rfl,.inr ⟨rfl,f,n⟩⟩
 refine q.out _ _ f ?_;refine dI rfl rfl rfl ?_;intro K q;go_simp;refine I.mono ?_;rintro e g (⟨b,rfl,m,J⟩|⟨rfl,f,n⟩);rotate_left
 ·exact⟨rfl,.inr ⟨rfl,f,n⟩⟩
 refine q.out _ _ m ?_
 repeat (refine oq ?_ rfl rfl rfl ?_ ?_;rotate_left;(focus intro W p;(try dsimp only at p);obtain⟨B,E,N,F,H,G,D⟩:=p.cells;first|(go_simp;first|done|with_reducible rfl));try simp only[Act.put,aj,au,ak])
 obtain⟨_,_,P,O,_,_,Q⟩:=m.cells;refine jC rfl rfl rfl (by kernel_rfl) ?_;intro K q;go_simp;refine q.out _ _ ?_;refine bR ?_;go_wp2_with fail;go_end0;exact .inl ⟨rfl,b,g,J,m,rfl⟩
theorem oG (t:Nat)(f:VS)(a b:Int)(w:World)(h:dw w t f a b):
  Calls Tryz.prog 92 #[.pointer (some ⟨t,0,none⟩)] w fun e d=>e= .returned (.int .i64 b)/\d=w:=by
 obtain⟨_,_,g,_,_,_,c⟩:=cells3 h;go_enter Tryz.func92,Tryz.ntmps92
 go_wp2
 go_ret;exact⟨rfl,rfl⟩
theorem BB (k:ByteArray)(w:World)(d:1<=k.size)(c:k.size<=128):
  Calls Tryz.prog 107 #[.string k] w fun e a=>e= .returned (.bool true)/\a=w:=by
 have f:(1:Int)<=(k.size:Int):=by omega
 have b:(k.size:Int)<=128:=by omega
 go_enter Tryz.func107,Tryz.ntmps107
 go_wp2
 go_ret;exact⟨by simp[*],rfl⟩
theorem UY (t:Nat)(j:VS)(c:Int)(f d:ByteArray)(w:World)(R:World->Int->World->Prop)(B:World->World->Prop)(P:dw w t j c 0)(qb:1<=f.size)(S:f.size<=128)(hv:d.size<=64)
  (hE:∀(W:World) (C A T:Nat),Below w.heap.size w W->w.heap.size<=C->w.heap.size<=A->w.heap.size<=T->SB t j c 0 C A f W->sI W T d->
   Calls Tryz.prog 111 #[.pointer (some ⟨t,0,none⟩),.int .i64 c,.int .i64 0,.string f,.string ⟨#[]⟩,.func (.func 112) #[] #[.pointer (some ⟨A,0,none⟩),.pointer (some ⟨T,0,none⟩)]] W fun e m=>(∃v,e= .returned v/\SB t j c 0 C A f m/\
    Calls Tryz.prog 110 #[.pointer (some ⟨t,0,none⟩),v] m fun Y a=>(∃b,Y= .returned (.int .i64 b)/\SB t j c 0 C A f a/\(∀g,w.heap.size<=g->g<W.heap.size->a.heap[g]? =W.heap[g]?)/\W.heap.size<=a.heap.size/\R W b a)\/(Y= .panicked (brk 12)/\SB t j c 0 C A f a/\(∀g,w.heap.size<=g->g<W.heap.size->a.heap[g]? =W.heap[g]?)/\W.heap.size<=a.heap.size/\B W a))\/(e= .panicked (brk 12)/\SB t j c 0 C A f m/\(∀g,w.heap.size<=g->g<W.heap.size->m.heap[g]? =W.heap[g]?)/\W.heap.size<=m.heap.size/\B W m)):
  Calls Tryz.prog 63 #[.pointer (some ⟨t,0,none⟩),.string f,.string d] w fun e k=>(e= .returned (.int .i64 0)/\
   ∃W b a l,Below w.heap.size w W/\R W b a/\w.heap.size<=l/\l<W.heap.size/\W.heap.size<=a.heap.size/\Keep (fun g=>g=l\/g=t) a k/\dw k t j b 0)\/(e= .returned (.int .i64 12)/\
   ∃W a l,Below w.heap.size w W/\B W a/\w.heap.size<=l/\l<W.heap.size/\W.heap.size<=a.heap.size/\Keep (fun g=>g=l\/g=t) a k/\dw k t j c 12):=by
 have HE:=ah hE;clear hE;have x2:¬((64:Int)<(d.size:Int)):=by omega
 have qo:∀(fn:Fn) (first cap:Array Value) (w:World),(Instr.makeFunc fn first cap).run Tryz.prog w= .ok (.func fn first cap) w:=fun _ _ _ _=>rfl
 have G:=J9 w (.cells #[.pointer (some ⟨t,0,none⟩)] 98) (.cells #[.string f] 9) (.cells #[.string d] 9);have J:t<w.heap.size:=(ai.1 P).1;have Z:=(G.block t J).trans P;have I:∀i,i=(((w.alloc (.cells #[.pointer (some ⟨t,0,none⟩)] 98)).alloc (.cells #[.string f] 9)).alloc (.cells #[.string d] 9))->
   Calls Tryz.prog 108 #[.pointer (some ⟨t,0,none⟩),.func (.func 109) #[] #[.pointer (some ⟨w.heap.size,0,none⟩),.pointer (some ⟨w.heap.size+1,0,none⟩),.pointer (some ⟨w.heap.size+1+1,0,none⟩)]] i fun e k=>(e= .returned (.int .i64 0)/\
   ∃W b a l,Below w.heap.size w W/\R W b a/\w.heap.size<=l/\l<W.heap.size/\W.heap.size<=a.heap.size/\Keep (fun g=>g=l\/g=t) a k/\dw k t j b 0)\/(e= .returned (.int .i64 12)/\
   ∃W a l,Below w.heap.size w W/\B W a/\w.heap.size<=l/\l<W.heap.size/\W.heap.size<=a.heap.size/\Keep (fun g=>g=l\/g=t) a k/\dw k t j c 12):=by
  intro i o;have K:Below w.heap.size w i:=by rw[o];exact G
  have O:i.heap.size=w.heap.size+3:=by rw[o];simp
  have b0:i.heap[w.heap.size]? =some (.cells #[.pointer (some ⟨t,0,none⟩)] 98 (0,0)):=by
   rw[o];exact((gK (w.alloc _) _ _).block _ (by simp)).trans (aV w _)
  have b1:i.heap[w.heap.size+1]? =some (.cells #[.string f] 9 (0,0)):=by
   rw[o];exact((aN ((w.alloc _).alloc _) _).block _ (by simp)).trans (by have:=aV (w.alloc (.cells #[.pointer (some ⟨t,0,none⟩)] 98)) (.cells #[.string f] 9);rwa [aU] at this)
  have b2:i.heap[w.heap.size+1+1]? =some (.cells #[.string d] 9 (0,0)):=by
   rw[o];have:=aV ((w.alloc (.cells #[.pointer (some ⟨t,0,none⟩)] 98)).alloc (.cells #[.string f] 9)) (.cells #[.string d] 9);rwa [aU,aU] at this
  clear o;have s:=gK i (.cells #[.pointer (some ⟨t,0,none⟩)] 98) (.cells #[.int .i64 0] 27);have ql:((i.alloc (.cells #[.pointer (some ⟨t,0,none⟩)] 98)).alloc (.cells #[.int .i64 0] 27)).heap.size=w.heap.size+5:=by simp[O]
  have n:=K.trans (s.mono (by omega));have c0:=(s.block _ (by omega)).trans b0;have c1:=(s.block _ (by omega)).trans b1;have c2:=(s.block _ (by omega)).trans b2;have F:dw ((i.alloc (.cells #[.pointer (some ⟨t,0,none⟩)] 98)).alloc (.cells #[.int .i64 0] 27)) t j c 0:=(n.block t J).trans P;have D:((i.alloc (.cells #[.pointer (some ⟨t,0,none⟩)] 98)).alloc (.cells #[.int .i64 0] 27)).heap[i.heap.size+1]? =some (.cells #[.int .i64 0] 27 (0,0)):=by
   have:=aV (i.alloc (.cells #[.pointer (some ⟨t,0,none⟩)] 98)) (.cells #[.int .i64 0] 27);rwa [aU] at this
  have pM:=Eb t j c 0 109 #[.pointer (some ⟨w.heap.size,0,none⟩),.pointer (some ⟨w.heap.size+1,0,none⟩),.pointer (some ⟨w.heap.size+1+1,0,none⟩)] i
   (fun k=>∃W b a,Below w.heap.size w W/\R W b a/\i.heap.size+1<W.heap.size/\W.heap.size<=a.heap.size/\SB t j c 0 w.heap.size (w.heap.size+1) f a/\k=a.setCell ⟨t,1,none⟩ (.int .i64 b))
   (fun k=>∃W,Below w.heap.size w W/\B W k/\i.heap.size+1<W.heap.size/\W.heap.size<=k.heap.size) (by omega) (fun _ _=>by kernel_rfl)
  have qc:((i.alloc (.cells #[.pointer (some ⟨t,0,none⟩)] 98)).alloc (.cells #[.int .i64 0] 27)).heap[i.heap.size]? =some (.cells #[.pointer (some ⟨t,0,none⟩)] 98 (0,0)):=
   ((aN (i.alloc _) _).block _ (by simp)).trans (aV i _)
  generalize (i.alloc (.cells #[.pointer (some ⟨t,0,none⟩)] 98)).alloc (.cells #[.int .i64 0] 27)=V at*;have p9:=Tt t j w.heap.size (w.heap.size+1) (w.heap.size+1+1) c 0 f V (fun b a=>(∀g,w.heap.size<=g->g<V.drew.heap.size->a.heap[g]? =V.drew.heap[g]?)/\V.drew.heap.size<=a.heap.size/\R V.drew b a) (fun a=>(∀g,w.heap.size<=g->g<V.drew.heap.size->a.heap[g]? =V.drew.heap[g]?)/\V.drew.heap.size<=a.heap.size/\B V.drew a) ⟨F,c0,c1⟩ ((HE.out V.drew w.heap.size (w.heap.size+1) (w.heap.size+1+1) n.drew (aD _) (by omega) (by omega) ⟨F,c0,c1⟩ c2).mono fun e m hh=>hh.imp (fun ⟨v,h1,h2,h3⟩=>⟨v,h1,h2,h3.mono fun Y a kk=>kk.imp (fun ⟨b,H,E,r,y,x⟩=>⟨b,H,E,r,y,x⟩) (fun ⟨H,E,r,y,x⟩=>⟨H,E,r,y,x⟩)⟩) (fun ⟨H,E,r,y,x⟩=>⟨H,E,r,y,x⟩));refine(pM (p9.mono ?_)).mono ?_
  ·rintro e k (⟨rfl,b,a,⟨r,y,x⟩,z,rfl⟩|⟨rfl,z,r,y,x⟩)
   ·refine .inl ⟨rfl,⟨V.drew,b,a,n.drew,x,(by show _<V.heap.size;omega),y,z,rfl⟩,?_⟩
    rw[Kw _ _ _ _ (by simp;omega)];exact(r _ (by omega) (by show _<V.heap.size;omega)).trans D
   ·refine .inr ⟨rfl,⟨V.drew,n.drew,x,(by show _<V.heap.size;omega),y⟩,(r _ (by omega) (by show _<V.heap.size;omega)).trans D,(r _ (by omega) (by show _<V.heap.size;omega)).trans qc,z.tr⟩
  ·rintro e k (⟨rfl,m,⟨W,b,a,q1,q2,Q,q4,q5,rfl⟩,N⟩|⟨rfl,m,⟨W,q1,q2,Q,q4⟩,N,hT⟩)
   ·have X:Keep (· =t) a (a.setCell ⟨t,1,none⟩ (.int .i64 b)):=Keep.setCell (M:=(· =t)) (p:=⟨t,1,none⟩) (Keep.refl _ _) (.inr rfl) _
    refine .inl ⟨rfl,W,b,a,i.heap.size+1,q1,q2,by omega,Q,q4,(X.mono (fun _ _ h=> .inr h)).trans N (fun _ _ h=> .inl h),?_⟩;have h5:(a.setCell ⟨t,1,none⟩ (.int .i64 b)).heap[t]? =some (.cells #[.iface 97 j.agg,.int .i64 b,.int .i64 0] 160 (0,0)):=by
     have:=q5.tr;unfold dw at this;simp[World.setCell,aQ,this]
    exact(N.block t (ai.1 h5).1 (by omega)).trans h5
   ·exact .inr ⟨rfl,W,m,i.heap.size+1,q1,q2,by omega,Q,q4,N.mono (fun _ _ h=>h.symm),hT⟩
 have hC:=ah (I _ rfl);clear I;go_enter Tryz.func63,Tryz.ntmps63;go_wp2_with (first|(go_at_call 92;go_must ((refine(oG t j c 0 _ Z).mono ?_);rintro e m ⟨rfl,hw⟩;subst m))|(go_at_call 107;go_must ((refine(BB f _ qb S).mono ?_);rintro e m ⟨rfl,hw⟩;subst m))|(go_at_call 108;go_must (refine hC.out.mono ?_;rintro e m (⟨rfl,q⟩|⟨rfl,q⟩)<;>refine sO ?_)))
 ·refine sN ?_
  go_wp2_with fail;go_ret;exact .inl ⟨rfl,q⟩
 ·refine sN ?_
  go_wp2_with fail;go_ret;exact .inr ⟨rfl,q⟩
def dL (ps:List Pr)(key:ByteArray):Option ByteArray:=if pU ps key then(ps[bX ps key]?).map (·.2) else none
inductive Look (σ:cK)(key:ByteArray):Nat->Int->Option ByteArray->Prop
 |nil {n}:Look σ key n 0 none
 |leaf {n b nd}:Cm σ b nd->nd.kids=[]->fG nd.pairs->Look σ key n b (dL nd.pairs key)
 |inner {n b nd r} (h:jk nd.keys key<nd.kids.length):Cm σ b nd->wW nd.keys->Look σ key n nd.kids[jk nd.keys key] r->Look σ key (n+1) b r
theorem GJ (t:Nat)(N:VS)(g:Int)(R:cK)(S:Nat->Prop)(f:ByteArray)(r:Option ByteArray)(w:World)(h:Inv R S N w)(ht:dw w t N g 0)(af:1<=f.size)(q8:f.size<=128)(n:Nat)(hn:n<=40)(hl:Look R f n g r):
  Calls Tryz.prog 73 #[.pointer (some ⟨t,0,none⟩),.string f] w fun e w'=>e= .returned (.tuple #[.string (r.getD ⟨#[]⟩),.bool r.isSome,.int .i64 0])/\Below w.heap.size w w':=by
 obtain⟨_,c1,_,_,_,_,qo⟩:=cells3 ht;have HL:=ah hl;clear hl;go_enter Tryz.func73,Tryz.ntmps73;go_wp2_with (first|(go_at_call 92;go_must ((refine(oG t N g 0 _ ht).mono ?_);rintro e q ⟨rfl,hw⟩;subst q))|(go_at_call 107;go_must ((refine(BB f _ af q8).mono ?_);rintro e q ⟨rfl,hw⟩;subst q)))
 go_loopw [8,9,10,11,12,13] (fun x y _ _ _ _ wr=>∃(b:Int) (d m:Nat),x= .int .i64 b/\y= .int .i64 d/\Look R f m b r/\d+m<=40/\Below w.heap.size w wr) (fun _ y _ _ _ _ _=>41 - (intOf y).toNat)
 case atStart=>exact⟨g,0,n,rfl,rfl,HL.out,by omega,aR _ _⟩
 case round=>
  obtain⟨b,d,m,rfl,rfl,hl,di,c⟩:=hrel;have O:=h.below c;have M:dw wr t N g 0:=(c.block t qo).trans ht;cases hl with
  |nil=>
   go_wp2_with fail
   go_ret3
   exact⟨rfl,c⟩
  |@leaf _ _ j z hk hr=>
   have q9:(b==0)=false:=(by have:=z.lo;simp;omega);have pM:¬b=0:=(by have:=z.lo;omega);have G:j.kids.isEmpty=true:=(by rw[hk];rfl);have bH:=z.fits.np;have s:(d:Int)<=40:=(by omega);cases C:pU j.pairs f with
   |false=>
    have B:dL j.pairs f=none:=(by unfold dL;rw[C];rfl);have I:=ah B;clear B;go_wp2_with (first|(go_at_call 93;go_must ((refine(nM t N g 0 b d R S j _ O M z s).mono ?_);rintro e q ⟨E,rfl,k,o⟩))|(go_at_call 121;go_must ((refine(ku E j _ S k.jO).mono ?_);rintro e w2 ⟨rfl,hw⟩;subst w2;rw[G]))|(go_at_call 113;go_must ((refine(rT E j f _ S k.jO hr (by omega)).mono ?_);rw[C];rintro e w3 ⟨rfl,H⟩)))
    go_ret3
    rw[I.out];exact⟨rfl,c.trans ((o.mono c.size).trans (H.mono (aK c.size o.size)))⟩
   |true=>
    obtain⟨hp,qb⟩:=mY C;have B:dL j.pairs f=some j.pairs[bX j.pairs f].2:=(by unfold dL;rw[C,if_pos rfl,bD hp];rfl);have I:=ah B;clear B;generalize hP:bX j.pairs f=P at hp qb I;have HP:=ah hP;clear hP;go_wp2_with (first|(go_at_call 93;go_must ((refine(nM t N g 0 b d R S j _ O M z s).mono ?_);rintro e q ⟨E,rfl,k,o⟩))|(go_at_call 121;go_must ((refine(ku E j _ S k.jO).mono ?_);rintro e w2 ⟨rfl,hw⟩;subst w2;rw[G]))|(go_at_call 113;go_must ((refine(rT E j f _ S k.jO hr (by omega)).mono ?_);rw[C,HP.out];rintro e w3 ⟨rfl,H⟩;refine sO ?_)))
    refine sN ?_;obtain⟨_,x0,x1,x2,Q,Y,_,_⟩:=k.jO.below H;obtain⟨e0,_,_,_,_,_,l⟩:=cells3 Q;obtain⟨bB,bC,rfl,m0,m1,_,_⟩:=aZ.form Y;obtain⟨pb,po,rfl,d1,T⟩:=Y.at rfl P hp;have v:=aF w3 _ T;go_wp2_with fail
    go_ret3
    rw[I.out];exact⟨rfl,c.trans ((o.mono c.size).trans (H.mono (aK c.size o.size)))⟩
  |@inner m _ j _ F z av p9=>
   have q9:(b==0)=false:=(by have:=z.lo;simp;omega);have pM:¬b=0:=(by have:=z.lo;omega);have G:j.kids.isEmpty=false:=(by cases hq:j.kids with|nil=>rw[hq] at F;simp at F|cons a b=>rfl);have dn:=z.fits.nk;have X:=z.fits.kk;have s:(d:Int)<=40:=(by omega);have Z:=ah p9;clear p9;generalize hP:jk j.keys f=P at F Z;have HP:=ah hP;clear hP;have bN:IntKind.i64.wrap ((d:Int)+1)=(d:Int)+1:=aG _ (by omega);have ql:=ah X;clear X;go_wp2_with (first|(go_at_call 93;go_must ((refine(nM t N g 0 b d R S j _ O M z s).mono ?_);rintro e q ⟨E,rfl,k,o⟩))|(go_at_call 121;go_must ((refine(ku E j _ S k.jO).mono ?_);rintro e w2 ⟨rfl,hw⟩;subst w2;rw[G])))
   have aA:=k.jO;obtain⟨_,x0,x1,x2,Q,_,_,V⟩:=aA;obtain⟨_,_,e2,_,_,_,l⟩:=cells3 Q;obtain⟨dR,bA,rfl,m0,m1,_,_⟩:=aZ.form V;obtain⟨pb,po,rfl,T⟩:=V.at rfl P F;have v:=aF q _ T;have dx:(P:Int)<(j.kids.length:Int):=(by omega);have A:=(GH E j f q.drew S (k.jO.below ((aR _ q).drew)) av (by rw[ql.out];omega));rw[HP.out] at A;have qc:=ah A;clear A;refine aP (fun W=>Below q.heap.size q W) (fun i=> !([6].contains i)) [0,1,2,3,4,5,6,7,8,9] rfl (by kernel_rfl) ((aR _ q).drew) ?_
   repeat (refine oq ?_ rfl rfl rfl ?_ ?_;rotate_left;(focus intro W D;(try dsimp only at D);have q0:=(D.cell (p:=⟨E,2,none⟩) l).trans e2;have q1:=ax l D.size;have q2:=(D.cell (p:=⟨pb,po+P,none⟩) v).trans T;have q3:=ax v D.size;first|(go_simp;first|done|with_reducible rfl));try simp only[Act.put,aj,au,ak])
   refine dI rfl rfl rfl ?_;intro K hK;go_simp;refine qc.out.mono ?_;rintro e w4 ⟨rfl,aB⟩;have J:Below q.heap.size q w4:=((aR _ q).drew).trans aB;refine hK.out _ _ J ?_
   repeat (refine oq ?_ rfl rfl rfl ?_ ?_;rotate_left;(focus intro W D;(try dsimp only at D);have q0:=(D.cell (p:=⟨E,2,none⟩) l).trans e2;have q1:=ax l D.size;have q2:=(D.cell (p:=⟨pb,po+P,none⟩) v).trans T;have q3:=ax v D.size;first|(go_simp;first|done|with_reducible rfl));try simp only[Act.put,aj,au,ak])
   refine bR ?_;go_wp2_with fail;go_roundw
   case rel=>exact⟨j.kids[P],d+1,m,rfl,by go_num,Z.out,by omega,c.trans ((o.mono c.size).trans (J.mono (aK c.size o.size)))⟩
   case measure=>simp[intOf];omega
structure Acc (w:World)(S:Nat->Prop)(B ob mb:Nat)(v:Value)(O:List Pr)(most:Int):Prop where
 out:w.heap[ob]? =some (.cells #[v] 52 (0,0))
 own:aT w S B 103 2 v O.length (dP O)
 mst:w.heap[mb]? =some (.cells #[.int .i64 most] 3 (0,0))
 nob:¬S ob
 nmb:¬S mb
def oU (ob:Nat)(v v':Value)(w w':World):Prop:=Keep (fun g=>g=ob\/v.ownBlock=some g) w w'/\∀g,v'.ownBlock=some g->v.ownBlock=some g\/w.heap.size<=g
def oU.refl (a:Nat)(v:Value)(w:World):oU a v v w w:=⟨Keep.refl _ _,fun _ h=> .inl h⟩
def oU.trans {e:Nat}{v' d:Value}{a b c:World}(h:oU e v v' a b)(k:oU e v' d b c):oU e v d a c:=
 ⟨h.1.trans k.1 (fun i j x=>x.elim .inl (fun y=>(h.2 i y).elim .inr (fun z=>absurd j (bg.2 z)))),fun g f=>(k.2 g f).elim (fun x=>h.2 g x) (fun x=> .inr (aK h.1.size x))⟩
def oU.below {a:Nat}{w':World}(h:Below w.heap.size w w'):oU a v v w w':=⟨Keep.of_below h _,fun _ h=> .inl h⟩
def Acc.below {w':World}{B d c:Nat}{O:List Pr}{a:Int}(h:Acc w S B d c v O a)(b:Below w.heap.size w w'):Acc w' S B d c v O a:=
 ⟨(b.block _ (ai.1 h.out).1).trans h.out,h.own.below b,(b.block _ (ai.1 h.mst).1).trans h.mst,h.nob,h.nmb⟩
theorem NJ (B a k:Nat)(v:Value)(O:List Pr)(b:Int)(p:Pr)(S:Nat->Prop)(w:World)(H:∀g,S g->g<w.heap.size)(h:Acc w S B a k v O b)(hB:B<=w.heap.size)(T:O.length<=999999):
  Calls Tryz.prog 95 #[.agg #[.string p.1,.string p.2],.pointer (some ⟨a,0,none⟩),.pointer (some ⟨k,0,none⟩)] w fun e Q=>e= .returned (.bool (decide (((O.length+1:Nat):Int)<b)))/\∃W,Acc Q S B a k W (O++[p]) b/\oU a v W w Q:=by
 have c:=gK w (.cells #[.string p.1,.string p.2] 103) (.cells #[.string p.1,.string p.2] 103);obtain⟨r,K,y,o4,o5⟩:=h;have z:=(ai.1 r).1;have F:=(ai.1 y).1;have c0:w.cell? ⟨a,0,none⟩=some v:=by simp[World.cell?,r]
 have c1:w.cell? ⟨k,0,none⟩=some (.int .i64 b):=by simp[World.cell?,y]
 have f0:w.frozen? ⟨a,0,none⟩=false:=by simp[World.frozen?,r]
 obtain⟨l,j,rfl,n0,m0,_,_⟩:=K.dx.form;go_enter Tryz.func95,Tryz.ntmps95;have G:=gq (P:=Tryz.prog) (w:=w.alloc (.cells #[.string p.1,.string p.2] 103)) [.string p.1,.string p.2] 103 2 1 1 (tx:=52) (aU _ _) bL rfl (by intro u Y;simp at Y;rcases Y with rfl|rfl<;>rfl);have q:∀g,S g->g<((w.alloc (.cells #[.string p.1,.string p.2] 103)).alloc (.cells #[.string p.1,.string p.2] 103)).heap.size:=fun g D=>ax (H g D) c.size
 have pM:O.length<=999999:=T;go_wp2_with (first|(at_builtin;go_must ((refine cO rfl (.tmp 5) (.tmp 7) 52 52 rfl S B 103 2 32 _ bL iK rfl (.slice l O.length j) O.length (dP O) rfl (K.below c) (.slice (some ⟨w.heap.size+1,0,none⟩) 1 1) 1 [.string p.1,.string p.2] rfl G q (aK hB c.size) ?_ ?_ ?_);(focus simp only[maxLen];omega);(focus omega);intro d f n i t p9 R;refine sO ?_)))
 have N:(Value.slice l O.length j).ownBlock≠some a:=K.ne r (by decide);have V:(Value.slice l O.length j).ownBlock≠some k:=K.ne y (by decide);have m:=(t.block a (ax z c.size) N).trans ((c.block a z).trans r);have o:=(t.block k (ax F c.size) V).trans ((c.block k F).trans y);have J:a≠k:=fun e=>by rw[e] at r;rw[r] at y;cases y
 have d0:n.cell? ⟨a,0,none⟩=some (.slice l O.length j):=by simp[World.cell?,m]
 have d1:n.cell? ⟨k,0,none⟩=some (.int .i64 b):=by simp[World.cell?,o]
 have d2:n.frozen? ⟨a,0,none⟩=false:=by simp[World.frozen?,m]
 have X:=(ai.1 m).1;have C:=(ai.1 o).1;have s:Keep (· =a) n (n.setCell ⟨a,0,none⟩ (.slice d (O.length+1) f)):=Keep.setCell (M:=(· =a)) (p:=⟨a,0,none⟩) (Keep.refl _ _) (.inr rfl) _;have A:(n.setCell ⟨a,0,none⟩ (.slice d (O.length+1) f)).heap[a]? =some (.cells #[.slice d (O.length+1) f] 52 (0,0)):=by simp[World.setCell,aQ,m]
 have E:=(s.block k C (fun e=>J e.symm)).trans o;have e0:(n.setCell ⟨a,0,none⟩ (.slice d (O.length+1) f)).cell? ⟨a,0,none⟩=some (.slice d (O.length+1) f):=by simp[World.cell?,A]
 have e1:(n.setCell ⟨a,0,none⟩ (.slice d (O.length+1) f)).cell? ⟨k,0,none⟩=some (.int .i64 b):=by simp[World.cell?,E]
 have x:=i.keep (w':=n.setCell ⟨a,0,none⟩ (.slice d (O.length+1) f)) (S':=S) (fun g D T hs=>⟨s.block g T (fun e=>i.ne m (by decide) (by rw[D,e])),hs⟩);refine sN ?_;go_wp2_with fail;go_ret;refine⟨by simp,.slice d (O.length+1) f,⟨A,?_,E,o4,o5⟩,⟨?_,fun g D=> ?_⟩⟩
 ·rw[ay,ic];exact x
 ·exact((Keep.of_below c _).trans (t.mono (fun _ _ h=> .inr h)) (fun _ _ h=>h)).trans s (fun _ _ h=> .inl h)
 ·by_cases I:g<w.heap.size
  ·by_cases Z:(Value.slice l O.length j).ownBlock=some g
   ·exact .inl Z
   ·exact absurd D (R g (ax I c.size) Z)
  ·exact .inr (bg.1 I)
inductive wV (σ:cK)(key:ByteArray):Nat->Int->List Pr->Prop
 |leaf {n b nd}:Cm σ b nd->nd.kids=[]->fG nd.pairs->wV σ key n b (nd.pairs.drop (bX nd.pairs key))
 |inner {n b nd} (Ls:List (List Pr)):Cm σ b nd->nd.kids≠[]->wW nd.keys->Ls.length=(nd.kids.drop (jk nd.keys key)).length->(∀i (h:i<(nd.kids.drop (jk nd.keys key)).length) (h':i<Ls.length),wV σ key n (nd.kids.drop (jk nd.keys key))[i] Ls[i])->wV σ key (n+1) b Ls.flatten
def wU (S:Nat->Prop)(B ob mb:Nat)(v:Value)(O L:List Pr)(most:Int)(w:World)(e:Ending)(w':World):Prop:=
 e= .returned (.tuple #[.bool (decide (((O.length+L.length:Nat):Int)<most)),.int .i64 0])/\∃v',Acc w' S B ob mb v' (O++L.take (most - O.length).toNat) most/\oU ob v v' w w'
def Kh {k n c:Nat}{b:Option Addr}{d:List Value}(h:aZ w S k (.slice b n c) n d)(i:Nat)(e:i<=n):∃a,(if c=i then b else b.map fun x=>x.add (i*k))=a/\aZ w S k (.slice a (n - i) (c - i)) (n - i) (d.drop (i*k)):=⟨_,rfl,aZ.after h i e⟩
theorem EQ (t:Nat)(mp:VS)(B r mb:Nat)(y qc b q:Int)(σ:cK)(S:Nat->Prop)(m:ByteArray)(v:Value)(O:List Pr)(a:Int)(c:Nd)(w:World)(h:Inv σ S mp w)(ht:dw w t mp y qc)(hb:Cm σ b c)(hk:c.kids=[])(hr:fG c.pairs)(hd:q<=40)
  (hA:Acc w S B r mb v O a) (hB:B<=w.heap.size) (hO:(O.length:Int)<a) (hl:O.length+(c.pairs.drop (bX c.pairs m)).length<=999999):
  Calls Tryz.prog 94 #[.pointer (some ⟨t,0,none⟩),.int .i64 b,.int .i64 q,.string m,.func (.func 95) #[] #[.pointer (some ⟨r,0,none⟩),.pointer (some ⟨mb,0,none⟩)]] w (wU S B r mb v O (c.pairs.drop (bX c.pairs m)) a w):=by
 have bB:c.kids.isEmpty=true:=by rw[hk];rfl
 have fA:=hb.fits.np;have hp:=nK c.pairs m;generalize hP:bX c.pairs m=P at hp hl;have HP:=ah hP;clear hP;have qo:=h.sub;go_enter Tryz.func94,Tryz.ntmps94;go_wp2_with (first|(go_at_call 93;go_must ((refine(nM t mp y qc b q σ S c _ h ht hb hd).mono ?_);rintro e w1 ⟨nb,rfl,C,af⟩))|(go_at_call 121;go_must ((refine(ku nb c _ S C.jO).mono ?_);rintro e w2 ⟨rfl,hw⟩;subst w2;rw[bB]))|(go_at_call 113;go_must ((refine(rT nb c m _ S C.jO hr (by omega)).mono ?_);rw[HP.out];rintro e G ⟨rfl,qb⟩;refine sO ?_)))
 obtain⟨_,iO,x0,x1,x2,bN,s,_,_⟩:=C.step (Step.of_below qb);obtain⟨e0,_,_,_,_,_,dx⟩:=cells3 bN;obtain⟨F,bA,rfl,m0,m1,_,_⟩:=aZ.form s.dx;obtain⟨q9,f,q8⟩:=Kh s.dx P hp;generalize hD:c.pairs.drop P=D at hl;have J:D.length=c.pairs.length - P:=by rw[<-hD,aO]
 have Z:jo G S (.slice q9 (c.pairs.length - P) (bA - P)) D:=by
  unfold jo;rw[J,<-hD,qX];exact q8
 have p9:∀g o,q9=some ⟨g,o,none⟩->w.heap.size<=g:=by
  intro g o e;have:∃o',F=some ⟨g,o',none⟩:=by
   rw[e] at f
   split at f
   ·exact⟨o,f⟩
   ·rcases s.1.2 with ⟨e1,_⟩|⟨g',fK,dZ,e1,_⟩
    ·have e2:F=none:=by injection e1
     rw[e2] at f;cases f
    ·have e2:F=some ⟨g',0,none⟩:=by injection e1
     rw[e2,iJ,dU] at f;cases f;exact⟨_,e2⟩
  obtain⟨o',rfl⟩:=this;exact s.lo g rfl
 have bH:∀g,v.ownBlock=some g->g<w.heap.size:=fun g X=>gG.1 (fun hh=>hA.own.lt' hh X)
 have di:r<w.heap.size:=(ai.1 hA.out).1;have j:Below w.heap.size w G:=af.trans (qb.mono af.size);have aB:=ah Z;clear Z q8;have A:=ah J;have HD:=ah hD;clear hD;have bC:=ah (hA.below j);have V:oU r v v w G:=oU.below j;have I:∀g,S g->g<G.heap.size:=fun g X=>ax (qo g X) j.size
 have aA:B<=G.heap.size:=aK hB j.size;have fo:∀g,v.ownBlock=some g->B<=g:=hA.own.lo
 have av:=ah hO;clear hO;clear J;refine sN ?_;go_wp2_with fail;go_loopw [17,47] (fun _ i wr=>∃(k:Nat) (Q:Value),k<=c.pairs.length - P/\i= .int .i64 k/\Acc wr S B r mb Q (O++D.take k) a/\((O.length+k:Nat):Int)<a/\oU r v Q G wr) (fun _ i _=>(c.pairs.length - P) - (intOf i).toNat)
 case atStart=>exact⟨0,v,aS _,rfl,by rw[iM,dM];exact bC.out,by rw[iG];exact av.out,oU.refl _ _ _⟩
 case round=>
  obtain⟨k,Q,dR,rfl,E,fJ,z⟩:=hrel
  by_cases W:k<c.pairs.length - P
  ·have pM:k<D.length:=by rw[A.out];exact W
   obtain⟨T,po,rfl,d1,d2⟩:=aB.out.at rfl k pM;have fB:w.heap.size<=T:=p9 T po rfl;have n:=aF G _ d1;have ql:¬(T=r\/v.ownBlock=some T):=fun x=>x.elim (fun e=>by omega) (fun e=>by have:=bH _ e;omega)
   have g1:=(z.1.cell (p:=⟨T,po+k*2,none⟩) n ql).trans d1;have g2:=(z.1.cell (p:=⟨T,po+k*2+1,none⟩) n ql).trans d2;have dn:=ax n z.1.size;have l:=aN wr (.cells #[.string D[k].1,.string D[k].2] 103);have hy:=NJ B r mb Q (O++D.take k) a D[k] S (wr.alloc (.cells #[.string D[k].1,.string D[k].2] 103)) (fun g X=>ax (I g X) (aK z.1.size l.size)) (E.below l) (aK aA (aK z.1.size l.size)) (by rw[ay,aH];omega);rw[show (O++D.take k).length+1=O.length+(k+1) from by rw[ay,aH];omega,show O++D.take k++[D[k]]=O++D.take (k+1) from by rw[aL pM,aM]] at hy;have Y:oU r Q Q wr (wr.alloc (.cells #[.string D[k].1,.string D[k].2] 103)):=oU.below l;have Hy:=ah hy;clear hy;clear d1 d2
   by_cases K:((O.length+(k+1):Nat):Int)<a
   ·have d:=d9 K
    have R:=ah d;clear d;go_wp2_with ((refine Hy.out.mono ?_);rw[R.out];rintro e w4 ⟨rfl,v4,N,H⟩);go_roundw
    case rel=>exact⟨k+1,v4,W,by go_num,N,K,(z.trans Y).trans H⟩
    case measure=>simp[intOf];omega
   ·have d:=bM K
    have R:=ah d;clear d;go_wp2_with ((refine Hy.out.mono ?_);rw[R.out];rintro e w4 ⟨rfl,v4,N,H⟩);go_ret2;have M:=A.out;rw[HD.out];refine⟨by rw[bM (by omega)];rfl,v4,?_,V.trans ((z.trans Y).trans H)⟩;rw[show (a - (O.length:Int)).toNat=k+1 from by omega];exact N
  ·obtain rfl:k=c.pairs.length - P:=by omega
   go_wp2_with fail;go_ret2;have M:=A.out;rw[HD.out];refine⟨by rw[d9 (by omega)];rfl,Q,?_,V.trans z⟩;rw[aJ (by omega)];rw[aJ (by omega)] at E;exact E
def RY (t:Nat)(mp:VS)(B ob mb:Nat)(root err:Int)(σ:cK)(S:Nat->Prop)(key:ByteArray)(most:Int)(m:Nat):Prop:=
 ∀(b:Int) (L:List Pr),wV σ key m b L->∀(deep:Int) (v:Value) (O:List Pr) (w:World),Inv σ S mp w->dw w t mp root err->deep+m<=40->0<=deep->Acc w S B ob mb v O most->B<=w.heap.size->(O.length:Int)<most->O.length+L.length<=999999->
  Calls Tryz.prog 94 #[.pointer (some ⟨t,0,none⟩),.int .i64 b,.int .i64 deep,.string key,.func (.func 95) #[] #[.pointer (some ⟨ob,0,none⟩),.pointer (some ⟨mb,0,none⟩)]] w (wU S B ob mb v O L most w)
def FD (a:List (List Pr))(j:Nat)(h:j<a.length):(a.take (j+1)).flatten=(a.take j).flatten++a[j]:=by
 rw[aL h,PL,UC,List.flatten_nil,dM]
def Rq (a:List (List Pr))(j:Nat):(a.take j).flatten.length<=a.flatten.length:=by
 have:=congrArg (fun l=>(List.flatten l).length) (bJ j a);simp only[PL,ay] at this;omega
def Rs (a:List (List Pr))(j m:Nat)(h:j<a.length)(c:(a.take j).flatten.length<=m)(b:m<=(a.take (j+1)).flatten.length):a.flatten.take m=(a.take j).flatten++a[j].take (m - (a.take j).flatten.length):=by
 have e:a.flatten=(a.take (j+1)).flatten++(a.drop (j+1)).flatten:=by rw[<-PL,bJ]
 rw[e,bI b,FD _ _ h,x9,aJ c]
theorem KD (t:Nat)(mp:VS)(B I mb:Nat)(y F b f:Int)(σ:cK)(S:Nat->Prop)(q:ByteArray)(v:Value)(O:List Pr)(d:Int)(m:Nat)(IH:RY t mp B I mb y F σ S q d m)(c:Nd)(j:List (List Pr))(w:World)(h:Inv σ S mp w)(ht:dw w t mp y F)(hb:Cm σ b c)(hk:c.kids≠[])(hr:wW c.keys)
  (qo:j.length=(c.kids.drop (jk c.keys q)).length) (G:∀i (h:i<(c.kids.drop (jk c.keys q)).length) (h':i<j.length),wV σ q m (c.kids.drop (jk c.keys q))[i] j[i]) (hd:f+(m+1:Nat)<=40) (o5:0<=f)
  (T:Acc w S B I mb v O d) (hB:B<=w.heap.size) (hO:(O.length:Int)<d) (hl:O.length+j.flatten.length<=999999):
  Calls Tryz.prog 94 #[.pointer (some ⟨t,0,none⟩),.int .i64 b,.int .i64 f,.string q,.func (.func 95) #[] #[.pointer (some ⟨I,0,none⟩),.pointer (some ⟨mb,0,none⟩)]] w (wU S B I mb v O j.flatten d w):=by
 have kT:c.kids.isEmpty=false:=by cases hq:c.kids with|nil=>exact absurd hq hk|cons a b=>rfl
 have oO:=hb.fits.nk;have bC:=hb.fits.kk;have hp:jk c.keys q<=c.kids.length:=by have:=Dw c.keys q;omega
 generalize hP:jk c.keys q=P at hp G qo;have HP:=ah hP;clear hP;have jO:=ah bC;clear bC;have nH:=h.sub;have jl:f<=40:=by omega
 have j5:=ah IH;clear IH;have HW:=ah G;clear G;have HO:=ah hO;clear hO;go_enter Tryz.func94,Tryz.ntmps94;go_wp2_with (first|(go_at_call 93;go_must ((refine(nM t mp y F b f σ S c _ h ht hb jl).mono ?_);rintro e M ⟨nb,rfl,pM,jF⟩))|(go_at_call 121;go_must ((refine(ku nb c _ S pM.jO).mono ?_);rintro e w2 ⟨rfl,hw⟩;subst w2;rw[kT])))
 have fK:=pM;obtain⟨_,o7,x0,x1,x2,mK,_,_,J⟩:=fK;obtain⟨_,_,e2,_,_,_,A⟩:=cells3 mK;obtain⟨qb,dR,rfl,m0,m1,_,_⟩:=aZ.form J.dx;obtain⟨aA,s,av⟩:=Kh J.dx P hp;simp only[aW] at s;have fB:∀g o,aA=some ⟨g,o,none⟩->w.heap.size<=g:=by
  intro g o e;have:∃o',qb=some ⟨g,o',none⟩:=by
   rw[e] at s
   split at s
   ·exact⟨o,s⟩
   ·rcases J.1.2 with ⟨e1,_⟩|⟨g',o6,oo,e1,_⟩
    ·have e2:qb=none:=by injection e1
     rw[e2] at s;cases s
    ·have e2:qb=some ⟨g',0,none⟩:=by injection e1
     rw[e2,iJ,dU] at s;cases s;exact⟨_,e2⟩
  obtain⟨o',rfl⟩:=this;exact J.lo g rfl
 have q9:(c.kids.drop P).length=c.kids.length - P:=aO;have R:jV M S (.slice aA (c.kids.length - P) (dR - P)) (c.kids.drop P):=by
  unfold jV;rw[q9,fT];rw[aW] at av;exact av
 have bB:=ah q9;clear q9 av;have jb:=ah qo;clear qo;have bN:=ah R;clear R;have C:=(GH nb c q M.drew S (pM.jO.below ((aR _ M).drew)) hr (by rw[jO.out];omega));rw[HP.out] at C;have fJ:=ah C;clear C;have l6:(P:Int)<=(c.kids.length:Int):=by omega
 refine aP (fun W=>Below M.heap.size M W) (fun i=> !([6].contains i)) [0,1,2,3,4,5,9,6,7,8] rfl (by kernel_rfl) ((aR _ M).drew) ?_
 repeat (refine oq ?_ rfl rfl rfl ?_ ?_;rotate_left;(focus intro W G;(try dsimp only at G);have q0:=(G.cell (p:=⟨nb,2,none⟩) A).trans e2;have q1:=ax A G.size;first|(go_simp;first|done|with_reducible rfl));try simp only[Act.put,aj,au,ak])
 refine dI rfl rfl rfl ?_;intro K hK;go_simp;refine fJ.out.mono ?_;rintro e X ⟨rfl,jv⟩;have D:Below M.heap.size M X:=((aR _ M).drew).trans jv;refine hK.out _ _ D ?_
 repeat (refine oq ?_ rfl rfl rfl ?_ ?_;rotate_left;(focus intro W G;(try dsimp only at G);have q0:=(G.cell (p:=⟨nb,2,none⟩) A).trans e2;have q1:=ax A G.size;first|(go_simp;first|done|with_reducible rfl));try simp only[Act.put,aj,au,ak])
 refine bR ?_;have r:Below w.heap.size w X:=jF.trans (D.mono jF.size);have fA:jV X S (.slice aA (c.kids.length - P) (dR - P)) (c.kids.drop P):=aZ.below bN.out D;have ko:=ah fA;clear fA;have l9:∀g,v.ownBlock=some g->g<w.heap.size:=fun g hg=>gG.1 (fun hh=>T.own.lt' hh hg)
 have lQ:∀g,v.ownBlock=some g->¬S g:=T.own.2
 have bH:=T.nob;have nk:I<w.heap.size:=(ai.1 T.out).1;have kg:=h.below r;have iO:t<w.heap.size:=(ai.1 ht).1;have mr:dw X t mp y F:=(r.block t iO).trans ht;have j3:t≠I:=fun e=>by have h1:=T.out;rw[<-e,ht] at h1;cases h1
 have mo:v.ownBlock≠some t:=T.own.ne ht (by decide);have j4:=ah (T.below r);have di:oU I v v w X:=oU.below r;have kr:B<=X.heap.size:=aK hB r.size;have dZ:=Rq j;have lm:=ah dZ;clear dZ;have oH:IntKind.i64.wrap (f+1)=f+1:=aG _ (by omega);clear jv T l6;go_wp2_with fail;go_loopw [19,20,21,65] (fun _ _ _ i wr=>∃(k:Nat) (vk:Value),k<=c.kids.length - P/\i= .int .i64 k/\Acc wr S B I mb vk (O++(j.take k).flatten) d/\((O.length+(j.take k).flatten.length:Nat):Int)<d/\oU I v vk X wr) (fun _ _ _ i _=>(c.kids.length - P) - (intOf i).toNat)
 case atStart=>exact⟨0,v,aS _,rfl,by simpa using j4.out,by simpa using HO.out,oU.refl _ _ _⟩
 case round=>
  obtain⟨k,vk,nS,rfl,p9,af,V⟩:=hrel;have lg:Inv σ S mp wr:=kg.lQ V.1 (fun g hg x=>x.elim (fun e=>bH (by rw[<-e];exact hg)) (fun e=>lQ g e hg));have j6:dw wr t mp y F:=(V.1.block t (ax iO r.size) (fun x=>x.elim j3 mo)).trans mr;have lJ:B<=wr.heap.size:=aK kr V.1.size
  by_cases dn:k<c.kids.length - P
  ·have q8:k<(c.kids.drop P).length:=by rw[bB.out];exact dn
   have ql:k<j.length:=(by rw[jb.out];exact q8);obtain⟨pb,po,rfl,d1⟩:=ko.out.at rfl k q8;have oK:w.heap.size<=pb:=fB pb po rfl;have Q:=aF X _ d1;have lC:¬(pb=I\/v.ownBlock=some pb):=fun x=>x.elim (fun e=>by omega) (fun e=>by have:=l9 _ e;omega)
   have g1:=(V.1.cell (p:=⟨pb,po+k,none⟩) Q lC).trans d1;have nA:=ax Q V.1.size;have aB:=FD j k ql;have z:(j.take (k+1)).flatten.length=(j.take k).flatten.length+j[k].length:=(by rw[aB,ay]);have H:=lm.out (k+1);have hy:=j5.out _ _ (HW.out k q8 ql) (f+1) vk (O++(j.take k).flatten) wr lg j6 (by omega) (by omega) p9 lJ (by rw[ay];exact af) (by rw[ay];omega);have l5:=ah aB;clear aB;have Z:=ah z;clear z;have dx:=ah H;clear H;have Hy:=ah hy;clear hy;generalize Y:(c.kids.drop P)[k]=kd at*;have nJ:=ah Y;clear Y d1
   by_cases n:(((O++(j.take k).flatten).length+j[k].length:Nat):Int)<d
   ·have bA:=ah (d9 n)
    have E:=ah n;clear n;go_wp2_with ((refine Hy.out.mono ?_);unfold wU;rw[bA.out];rintro e w5 ⟨rfl,v5,N,qc⟩);go_roundw
    case rel=>
     have n:=E.out;have z:=Z.out;rw[ay] at n;refine⟨k+1,v5,dn,by go_num,?_,by omega,V.trans qc⟩;rw[ay,aJ (l:=j[k]) (by omega),aM,<-l5.out] at N;exact N
    case measure=>simp[intOf];omega
   ·have bA:=ah (bM n)
    have E:=ah n;clear n;go_wp2_with ((refine Hy.out.mono ?_);unfold wU;rw[bA.out];rintro e w5 ⟨rfl,v5,N,qc⟩);go_ret2;have n:=E.out;have z:=Z.out;have H:=dx.out;rw[ay] at n;refine⟨by rw[bM (by omega)];rfl,v5,?_,di.trans (V.trans qc)⟩;rw[Rs j k _ ql (by omega) (by omega),<-aM];rw[show (d - (O.length:Int)).toNat - (j.take k).flatten.length=(d - ((O++(j.take k).flatten).length:Nat)).toNat from by rw[ay];omega];exact N
  ·obtain rfl:k=c.kids.length - P:=by omega
   go_wp2_with fail;go_ret2;have fo:j.take (c.kids.length - P)=j:=aJ (by rw[jb.out,bB.out];exact aD _);rw[fo] at p9 af;refine⟨by rw[d9 af];rfl,vk,?_,di.trans V⟩;rw[aJ (l:=j.flatten) (by omega)];exact p9
def P7 (t:Nat)(y:VS)(B o n:Nat)(a e:Int)(s:cK)(S:Nat->Prop)(f:ByteArray)(c:Int):∀m,RY t y B o n a e s S f c m:=by
 intro m
 induction m with
 |zero=>
  intro b L z d v O w h l C k q x p r;cases z with
  |leaf g i j=>exact EQ t y B o n a e b d s S f v O c _ w h l g i j (by omega) q x p r
 |succ m ih=>
  intro b L z d v O w h l C k q x p r;cases z with
  |leaf g i j=>exact EQ t y B o n a e b d s S f v O c _ w h l g i j (by omega) q x p r
  |inner E g i j A D=>exact KD t y B o n a e b d s S f v O c m ih _ E w h l g i j A D C k q x p r
theorem EY (t:Nat)(m:VS)(b:Int)(k:ByteArray)(a:Int)(w:World)(i:dw w t m b 0)(q:b=0\/a<=0):
  Calls Tryz.prog 47 #[.pointer (some ⟨t,0,none⟩),.string k,.int .i64 a] w fun e n=>e= .returned (.tuple #[.slice none 0 0,.int .i64 0])/\Below w.heap.size w n:=by
 have j:=aN w (.cells #[.int .i64 a] 3);have d:t<w.heap.size:=(ai.1 i).1;have f:=(j.block t d).trans i;have c:=gK w (.cells #[.int .i64 a] 3) (.cells #[.slice none 0 0] 52);obtain⟨_,x,_,_,_,_,r⟩:=cells3 ((c.block t d).trans i);have s:=(aN (w.alloc (.cells #[.int .i64 a] 3)) (.cells #[.slice none 0 0] 52)).cell (p:=⟨w.heap.size,0,none⟩) (by simp);rw[show (w.alloc (.cells #[.int .i64 a] 3)).cell? ⟨w.heap.size,0,none⟩=some (.int .i64 a) from by rw[qL];rfl] at s;go_enter Tryz.func47,Tryz.ntmps47
 by_cases l:b=0
 ·subst l
  go_wp2_with (first|(go_at_call 92;go_must ((refine(oG t m 0 0 _ f).mono ?_);rintro e g ⟨rfl,v⟩;subst g)))
  go_ret2;exact⟨rfl,c⟩
 ·have y:a<=0:=q.resolve_left l
  have o:(b==0)=false:=by simpa using l
  go_wp2_with (first|(go_at_call 92;go_must ((refine(oG t m b 0 _ f).mono ?_);rintro e g ⟨rfl,v⟩;subst g)))
  go_ret2;exact⟨rfl,c⟩
theorem Qu (t:Nat)(l:VS)(b:Int)(r:cK)(S:Nat->Prop)(j:ByteArray)(a:Int)(L:List Pr)(n:Nat)(w:World)(h:Inv r S l w)(k:dw w t l b 0)(J:b≠0)(M:0<a)(R:n<=40)(H:wV r j n b L)(I:L.length<=999999):
  Calls Tryz.prog 47 #[.pointer (some ⟨t,0,none⟩),.string j,.int .i64 a] w fun e y=>∃v,e= .returned (.tuple #[v,.int .i64 0])/\aT y S w.heap.size 103 2 v (L.take a.toNat).length (dP (L.take a.toNat))/\Below w.heap.size w y:=by
 have m:=aN w (.cells #[.int .i64 a] 3);have f:t<w.heap.size:=(ai.1 k).1;have d:=h.sub;have q:=(m.block t f).trans k;have c:=gK w (.cells #[.int .i64 a] 3) (.cells #[.slice none 0 0] 52);obtain⟨_,O,_,_,_,_,E⟩:=cells3 ((c.block t f).trans k);have F:=(aN (w.alloc (.cells #[.int .i64 a] 3)) (.cells #[.slice none 0 0] 52)).cell (p:=⟨w.heap.size,0,none⟩) (by simp);rw[show (w.alloc (.cells #[.int .i64 a] 3)).cell? ⟨w.heap.size,0,none⟩=some (.int .i64 a) from by rw[qL];rfl] at F;have C:(b==0)=false:=by simpa using J
 have G:¬a<=0:=by omega
 have D:∀(A:Fn) (first cap:Array Value) (w:World),(Instr.makeFunc A first cap).run Tryz.prog w= .ok (.func A first cap) w:=fun _ _ _ _=>rfl
 have z:Acc ((w.alloc (.cells #[.int .i64 a] 3)).alloc (.cells #[.slice none 0 0] 52)) S w.heap.size (w.heap.size+1) w.heap.size (.slice none 0 0) [] a:=by
  refine⟨?_,aT.nil _ _ _ _ _,?_,fun x=>absurd (d _ x) (by omega),fun x=>absurd (d _ x) (dB _)⟩
  ·have:=aV (w.alloc (.cells #[.int .i64 a] 3)) (.cells #[.slice none 0 0] 52);rwa [aU] at this
  ·exact((aN (w.alloc (.cells #[.int .i64 a] 3)) (.cells #[.slice none 0 0] 52)).block _ (by simp)).trans (aV _ _)
 have o:=P7 t l w.heap.size (w.heap.size+1) w.heap.size b 0 r S j a n b L H 0 (.slice none 0 0) [] _ (h.below c) ((c.block t f).trans k) (by omega) (by omega) z c.size (by simpa using M) (by simpa using I);have K:=ah o;clear o z;go_enter Tryz.func47,Tryz.ntmps47;go_wp2_with (first|(go_at_call 92;go_must ((refine(oG t l b 0 _ q).mono ?_);rintro e B ⟨rfl,o⟩;subst B))|(go_at_call 94;go_must (refine K.out.mono ?_;rintro e N ⟨rfl,v,g,s⟩;have P:N.cell? ⟨w.heap.size+1,0,none⟩=some v:=(by simp[World.cell?,g.out]);have T:=(ai.1 g.out).1)))
 go_ret2;refine⟨v,rfl,?_,?_⟩
 ·have:=g.own
  rw[jI,show (a - (([]:List Pr).length:Int)).toNat=a.toNat from by simp] at this;exact this
 ·exact c.trans (s.1.jF c.size (fun i Q x=>x.elim (fun e=>by omega) (fun e=>by simp[Value.ownBlock] at e)))
theorem BF (t:Nat)(k:VS)(b:Int)(i:cK)(S:Nat->Prop)(a:ByteArray)(w:World)(h:Inv i S k w)(l:dw w t k b 0)(f:1<=a.size)(d:a.size<=128)(n:Nat)(r:n<=40)(q:Look i a n b none):
  Calls Tryz.prog 161 #[.pointer (some ⟨t,0,none⟩),.string a] w fun e o=>e= .returned (.tuple #[.bool false,.int .i64 0])/\Below w.heap.size w o:=by
 have c:=gK w (.cells #[.pointer (some ⟨t,0,none⟩)] 98) (.cells #[.string a] 9);have g:t<w.heap.size:=(ai.1 l).1;have m:=GJ t k b i S a none _ (h.below c) ((c.block t g).trans l) f d n r q;have p:=ah m;clear m;go_enter Tryz.func161,Tryz.ntmps161;go_wp2_with (first|(go_at_call 73;go_must ((refine p.out.mono ?_);rintro e s ⟨rfl,j⟩)))
 go_ret2;exact⟨rfl,c.trans (j.mono c.size)⟩
theorem OY (t:Nat)(i:VS)(a:Int)(σ:cK)(S:Nat->Prop)(d x:ByteArray)(w:World)(R:World->Int->World->Prop)(H:World->World->Prop)(h:Inv σ S i w)(ht:dw w t i a 0)(ql:1<=d.size)(pM:d.size<=128)(n:Nat)(hn:n<=40)(hl:Look σ d n a (some x))
  (hE:∀(W:World) (I G:Nat),Below w.heap.size w W->w.heap.size<=I->w.heap.size<=G->SB t i a 0 I G d W->
   Calls Tryz.prog 111 #[.pointer (some ⟨t,0,none⟩),.int .i64 a,.int .i64 0,.string d,.string ⟨#[]⟩,.func (.func 194) #[] #[.pointer (some ⟨G,0,none⟩)]] W fun e s=>(∃v,e= .returned v/\SB t i a 0 I G d s/\
    Calls Tryz.prog 110 #[.pointer (some ⟨t,0,none⟩),v] s fun e2 c=>(∃b,e2= .returned (.int .i64 b)/\SB t i a 0 I G d c/\(∀g,w.heap.size<=g->g<W.heap.size->c.heap[g]? =W.heap[g]?)/\W.heap.size<=c.heap.size/\R W b c)\/(e2= .panicked (brk 12)/\SB t i a 0 I G d c/\(∀g,w.heap.size<=g->g<W.heap.size->c.heap[g]? =W.heap[g]?)/\W.heap.size<=c.heap.size/\H W c))\/(e= .panicked (brk 12)/\SB t i a 0 I G d s/\(∀g,w.heap.size<=g->g<W.heap.size->s.heap[g]? =W.heap[g]?)/\W.heap.size<=s.heap.size/\H W s)):
  Calls Tryz.prog 161 #[.pointer (some ⟨t,0,none⟩),.string d] w fun e j=>(e= .returned (.tuple #[.bool true,.int .i64 0])/\∃W b c k,Below w.heap.size w W/\R W b c/\w.heap.size<=k/\k<W.heap.size/\W.heap.size<=c.heap.size/\Keep (fun g=>g=k\/g=t) c j/\dw j t i b 0)\/(e= .returned (.tuple #[.bool false,.int .i64 12])/\∃W c k,Below w.heap.size w W/\H W c/\w.heap.size<=k/\k<W.heap.size/\W.heap.size<=c.heap.size/\Keep (fun g=>g=k\/g=t) c j/\dw j t i a 12):=by
 have HE:=ah hE;clear hE;have af:∀(fn:Fn) (first cap:Array Value) (w:World),(Instr.makeFunc fn first cap).run Tryz.prog w= .ok (.func fn first cap) w:=fun _ _ _ _=>rfl
 have y:=gK w (.cells #[.pointer (some ⟨t,0,none⟩)] 98) (.cells #[.string d] 9);have X:t<w.heap.size:=(ai.1 ht).1;have hg:=GJ t i a σ S d (some x) _ (h.below y) ((y.block t X).trans ht) ql pM n hn hl;have HG:=ah hg;clear hg;have B:((w.alloc (.cells #[.pointer (some ⟨t,0,none⟩)] 98)).alloc (.cells #[.string d] 9)).heap[w.heap.size]? =some (.cells #[.pointer (some ⟨t,0,none⟩)] 98 (0,0)):=((aN (w.alloc _) _).block _ (by simp)).trans (aV w _);have C:((w.alloc (.cells #[.pointer (some ⟨t,0,none⟩)] 98)).alloc (.cells #[.string d] 9)).heap[w.heap.size+1]? =some (.cells #[.string d] 9 (0,0)):=by
  have:=aV (w.alloc (.cells #[.pointer (some ⟨t,0,none⟩)] 98)) (.cells #[.string d] 9);rwa [aU] at this
 have K:((w.alloc (.cells #[.pointer (some ⟨t,0,none⟩)] 98)).alloc (.cells #[.string d] 9)).heap.size=w.heap.size+2:=by simp
 have D:=ah B;have P:=ah C;have o:=ah K;clear B C K;go_enter Tryz.func161,Tryz.ntmps161;go_wp2_with (first|(go_at_call 73;go_must ((refine HG.out.mono ?_);rintro e f ⟨rfl,m⟩;have f0:f.cell? ⟨w.heap.size,0,none⟩=some (.pointer (some ⟨t,0,none⟩)):=(by have h5:=(m.block w.heap.size (by rw[o.out];omega)).trans D.out;simp[World.cell?,h5]);have fl:w.heap.size<f.heap.size:=ax (by rw[o.out];omega) m.size))|(go_at_call 108;refine sO ?_))
 have T:Calls Tryz.prog 108 #[.pointer (some ⟨t,0,none⟩),.func (.func 193) #[] #[.pointer (some ⟨w.heap.size,0,none⟩),.pointer (some ⟨w.heap.size+1,0,none⟩)]] f fun e j=>(e= .returned (.int .i64 0)/\∃W b c k,Below w.heap.size w W/\R W b c/\w.heap.size<=k/\k<W.heap.size/\W.heap.size<=c.heap.size/\Keep (fun g=>g=k\/g=t) c j/\dw j t i b 0)\/(e= .returned (.int .i64 12)/\∃W c k,Below w.heap.size w W/\H W c/\w.heap.size<=k/\k<W.heap.size/\W.heap.size<=c.heap.size/\Keep (fun g=>g=k\/g=t) c j/\dw j t i a 12):=by
  have Y:Below w.heap.size w f:=y.trans (m.mono y.size);have q8:w.heap.size+2<=f.heap.size:=by rw[<-o.out];exact m.size
  have b0:f.heap[w.heap.size]? =some (.cells #[.pointer (some ⟨t,0,none⟩)] 98 (0,0)):=(m.block _ (by rw[o.out];omega)).trans D.out;have b1:f.heap[w.heap.size+1]? =some (.cells #[.string d] 9 (0,0)):=(m.block _ (by rw[o.out];omega)).trans P.out;have E:=gK f (.cells #[.pointer (some ⟨t,0,none⟩)] 98) (.cells #[.int .i64 0] 27);have q9:((f.alloc (.cells #[.pointer (some ⟨t,0,none⟩)] 98)).alloc (.cells #[.int .i64 0] 27)).heap.size=f.heap.size+2:=by simp
  have l:=Y.trans (E.mono (by omega));have c0:=(E.block _ (by omega)).trans b0;have c1:=(E.block _ (by omega)).trans b1;have O:dw ((f.alloc (.cells #[.pointer (some ⟨t,0,none⟩)] 98)).alloc (.cells #[.int .i64 0] 27)) t i a 0:=(l.block t X).trans ht;have J:((f.alloc (.cells #[.pointer (some ⟨t,0,none⟩)] 98)).alloc (.cells #[.int .i64 0] 27)).heap[f.heap.size+1]? =some (.cells #[.int .i64 0] 27 (0,0)):=by
   have:=aV (f.alloc (.cells #[.pointer (some ⟨t,0,none⟩)] 98)) (.cells #[.int .i64 0] 27);rwa [aU] at this
  have qb:=Eb t i a 0 193 #[.pointer (some ⟨w.heap.size,0,none⟩),.pointer (some ⟨w.heap.size+1,0,none⟩)] f
   (fun j=>∃W b c,Below w.heap.size w W/\R W b c/\f.heap.size+1<W.heap.size/\W.heap.size<=c.heap.size/\SB t i a 0 w.heap.size (w.heap.size+1) d c/\j=c.setCell ⟨t,1,none⟩ (.int .i64 b))
   (fun j=>∃W,Below w.heap.size w W/\H W j/\f.heap.size+1<W.heap.size/\W.heap.size<=j.heap.size) (by omega) (fun _ _=>by kernel_rfl)
  have qo:((f.alloc (.cells #[.pointer (some ⟨t,0,none⟩)] 98)).alloc (.cells #[.int .i64 0] 27)).heap[f.heap.size]? =some (.cells #[.pointer (some ⟨t,0,none⟩)] 98 (0,0)):=
   ((aN (f.alloc _) _).block _ (by simp)).trans (aV f _)
  generalize (f.alloc (.cells #[.pointer (some ⟨t,0,none⟩)] 98)).alloc (.cells #[.int .i64 0] 27)=V at*;have qc:=LY t i w.heap.size (w.heap.size+1) a 0 d V (fun b c=>(∀g,w.heap.size<=g->g<V.drew.heap.size->c.heap[g]? =V.drew.heap[g]?)/\V.drew.heap.size<=c.heap.size/\R V.drew b c) (fun c=>(∀g,w.heap.size<=g->g<V.drew.heap.size->c.heap[g]? =V.drew.heap[g]?)/\V.drew.heap.size<=c.heap.size/\H V.drew c) ⟨O,c0,c1⟩ ((HE.out V.drew w.heap.size (w.heap.size+1) l.drew (aD _) (by omega) ⟨O,c0,c1⟩).mono fun e s hh=>hh.imp (fun ⟨v,h1,h2,h3⟩=>⟨v,h1,h2,h3.mono fun e2 c kk=>kk.imp (fun ⟨b,Q,N,r,A,z⟩=>⟨b,Q,N,r,A,z⟩) (fun ⟨Q,N,r,A,z⟩=>⟨Q,N,r,A,z⟩)⟩) (fun ⟨Q,N,r,A,z⟩=>⟨Q,N,r,A,z⟩));refine(qb (qc.mono ?_)).mono ?_
  ·rintro e j (⟨rfl,b,c,⟨r,A,z⟩,F,rfl⟩|⟨rfl,F,r,A,z⟩)
   ·refine .inl ⟨rfl,⟨V.drew,b,c,l.drew,z,(by show _<V.heap.size;omega),A,F,rfl⟩,?_⟩
    rw[Kw _ _ _ _ (by simp;omega)];exact(r _ (by omega) (by show _<V.heap.size;omega)).trans J
   ·refine .inr ⟨rfl,⟨V.drew,l.drew,z,(by show _<V.heap.size;omega),A⟩,(r _ (by omega) (by show _<V.heap.size;omega)).trans J,(r _ (by omega) (by show _<V.heap.size;omega)).trans qo,F.tr⟩
  ·rintro e j (⟨rfl,s,⟨W,b,c,q1,q2,q3,q4,q5,rfl⟩,Z⟩|⟨rfl,s,⟨W,q1,q2,q3,q4⟩,Z,hT⟩)
   ·have p9:Keep (· =t) c (c.setCell ⟨t,1,none⟩ (.int .i64 b)):=Keep.setCell (M:=(· =t)) (p:=⟨t,1,none⟩) (Keep.refl _ _) (.inr rfl) _
    refine .inl ⟨rfl,W,b,c,f.heap.size+1,q1,q2,by omega,q3,q4,(p9.mono (fun _ _ h=> .inr h)).trans Z (fun _ _ h=> .inl h),?_⟩;have h5:(c.setCell ⟨t,1,none⟩ (.int .i64 b)).heap[t]? =some (.cells #[.iface 97 i.agg,.int .i64 b,.int .i64 0] 160 (0,0)):=by
     have:=q5.tr;unfold dw at this;simp[World.setCell,aQ,this]
    exact(Z.block t (ai.1 h5).1 (by omega)).trans h5
   ·exact .inr ⟨rfl,W,s,f.heap.size+1,q1,q2,by omega,q3,q4,Z.mono (fun _ _ h=>h.symm),hT⟩
 have hC:=ah T;clear T;refine sN ?_;refine hC.out.mono ?_;rintro e w9 (⟨rfl,q⟩|⟨rfl,q⟩)
 ·go_wp2_with fail
  go_ret2;exact .inl ⟨rfl,q⟩
 ·go_wp2_with fail
  go_ret2;exact .inr ⟨rfl,q⟩
def EG (t:Nat)(mp:VS)(root:Int)(key:ByteArray)(g:Nat)(cb:Array Value)(σ:cK)(S:Nat->Prop)(N:Prop)(P:cK->Int->Prop)(W:World):Prop:=
 Calls Tryz.prog 111 #[.pointer (some ⟨t,0,none⟩),.int .i64 root,.int .i64 0,.string key,.string ⟨#[]⟩,.func (.func g) #[] cb] W fun e w1=>(∃v S1,e= .returned v/\Step S S1 W w1/\
  Calls Tryz.prog 110 #[.pointer (some ⟨t,0,none⟩),v] w1 fun e2 w2=>(∃b σ' S',e2= .returned (.int .i64 b)/\Inv σ' S' mp w2/\Step S1 S' w1 w2/\P σ' b)\/(N/\Em mp σ S1 w1 e2 w2))\/(N/\Em mp σ S W e w1)
def Ah (t:Nat)(mp:VS)(S:Nat->Prop)(P:cK->Int->Prop)(w w':World):Prop:=
 ∃σ' S' b,Inv σ' S' mp w'/\dw w' t mp b 0/\¬S' t/\P σ' b/\Keep (fun g=>S g\/g=t) w w'/\∀g,S' g->S g\/w.heap.size<=g
def wY (t:Nat)(mp:VS)(root:Int)(σ:cK)(S:Nat->Prop)(N:Prop)(w w':World):Prop:=
 N/\∃σ' S',Inv σ' S' mp w'/\dw w' t mp root 12/\¬S' t/\σ'.H=σ.H/\σ'.most=σ.most/\Keep (fun g=>S g\/g=t) w w'/\∀g,S' g->S g\/w.heap.size<=g
def R5 (mp:VS)(σ:cK)(S:Nat->Prop)(N:Prop)(W w2:World):Prop:=N/\∃σ' S',Inv σ' S' mp w2/\Step S S' W w2/\σ'.H=σ.H/\σ'.most=σ.most
def SB.step {t:Nat}{g:VS}{d e:Nat}{a c:Int}{b:ByteArray}{S S':Nat->Prop}{W i:World}(h:SB t g a c d e b W)(f:Step S S' W i)(k:¬S t)(j:¬S d)(l:¬S e):SB t g a c d e b i:=
 ⟨(f.1.block _ (ai.1 h.tr).1 k).trans h.tr,(f.1.block _ (ai.1 h.bx).1 j).trans h.bx,(f.1.block _ (ai.1 h.ky).1 l).trans h.ky⟩
def Rv {r:VS}{A B g:Nat}{a:Int}{cb:Array Value}{V:cK}{N:Prop}{P:cK->Int->Prop}(K:EG t r a f g cb V S N P W)(G:∀g,S g->g<w.heap.size)(l:¬S t)(pM:Below w.heap.size w W)(k:w.heap.size<=A)(n:w.heap.size<=B)(i:SB t r a 0 A B f W):
  Calls Tryz.prog 111 #[.pointer (some ⟨t,0,none⟩),.int .i64 a,.int .i64 0,.string f,.string ⟨#[]⟩,.func (.func g) #[] cb] W fun e s=>(∃v,e= .returned v/\SB t r a 0 A B f s/\
   Calls Tryz.prog 110 #[.pointer (some ⟨t,0,none⟩),v] s fun M o=>(∃b,M= .returned (.int .i64 b)/\SB t r a 0 A B f o/\(∀g,w.heap.size<=g->g<W.heap.size->o.heap[g]? =W.heap[g]?)/\W.heap.size<=o.heap.size/\(∃q J,Inv q J r o/\Step S J W o/\P q b))\/
    (M= .panicked (brk 12)/\SB t r a 0 A B f o/\(∀g,w.heap.size<=g->g<W.heap.size->o.heap[g]? =W.heap[g]?)/\W.heap.size<=o.heap.size/\R5 r V S N W o))\/
   (e= .panicked (brk 12)/\SB t r a 0 A B f s/\(∀g,w.heap.size<=g->g<W.heap.size->s.heap[g]? =W.heap[g]?)/\W.heap.size<=s.heap.size/\R5 r V S N W s):=by
 have j:∀x,w.heap.size<=x->¬S x:=fun x X T=>absurd (G x T) (bg.2 X)
 refine K.mono ?_;rintro e s (⟨v,S1,rfl,c,hG⟩|⟨Y,rfl,R,z,Q,p,Z,O⟩)
 ·have d:∀x,x<W.heap.size->¬S x->¬S1 x:=fun x X T h1=>(c.2 x h1).elim T (fun y=>absurd X (bg.2 y))
  have H:=(ai.1 i.tr).1;have D:=(ai.1 i.bx).1;have F:=(ai.1 i.ky).1;have C:∀{S2:Nat->Prop} {o:World},Step S1 S2 s o->∀g,w.heap.size<=g->g<W.heap.size->o.heap[g]? =W.heap[g]? :=fun m g I E=>
   (m.1.block g (ax E c.1.size) (d g E (j g I))).trans (c.1.block g E (j g I))
  refine .inl ⟨v,rfl,i.step c l (j _ k) (j _ n),hG.mono ?_⟩;rintro M o (⟨b,q,J,rfl,hI,m,hP⟩|⟨Y,rfl,R,z,Q,p,Z,O⟩)
  ·exact .inl ⟨b,rfl,(i.step c l (j _ k) (j _ n)).step m (d _ H l) (d _ D (j _ k)) (d _ F (j _ n)),C m,aK c.1.size m.1.size,q,J,hI,c.trans m,hP⟩
  ·exact .inr ⟨rfl,(i.step c l (j _ k) (j _ n)).step p (d _ H l) (d _ D (j _ k)) (d _ F (j _ n)),C p,aK c.1.size p.1.size,Y,R,z,Q,c.trans p,Z,O⟩
 ·exact .inr ⟨rfl,i.step p l (j _ k) (j _ n),fun g I E=>p.1.block g E (j g I),p.1.size,Y,R,z,Q,p,Z,O⟩
def Jq {j:Nat}{A:VS}{l:cK}{c:Nat->Prop}{v p:World}(m:∀g,S g->g<w.heap.size)(f:¬S t)(q:t<w.heap.size)(a:Below w.heap.size w W)(C:Inv l c A v)(k:Step S c W v)(o:w.heap.size<=j)(B:j<W.heap.size)(z:Keep (fun g=>g=j\/g=t) v p):
  Inv l c A p/\¬c t/\Keep (fun g=>S g\/g=t) w p/\∀g,c g->S g\/w.heap.size<=g:=by
 have E:∀x,w.heap.size<=x->¬S x:=fun x s k=>absurd (m x k) (bg.2 s)
 have b:∀x,x<W.heap.size->¬S x->¬c x:=fun x s r o=>(k.2 x o).elim r (fun y=>absurd s (bg.2 y))
 have d:t<W.heap.size:=ax q a.size;refine⟨C.lQ z (fun g n x=>x.elim (fun e=>b j B (E j o) (by rw[<-e];exact n)) (fun e=>b t d f (by rw[<-e];exact n))),b t d f,?_,fun g n=>(k.2 g n).imp id (fun y=>aK a.size y)⟩;exact(((Step.of_below (S:=S) a).trans k).1.mono (fun _ _ h=> .inl h)).trans z (fun i D x=>x.elim (fun e=>absurd D (by rw[e];exact bg.2 o)) .inr)
def Nq {p:VS}{P:cK->Int->Prop}{l:World}(f:∀g,S g->g<w.heap.size)(n:¬S t)(m:t<w.heap.size)
  (h:∃W b i j,Below w.heap.size w W/\(∃e k,Inv e k p i/\Step S k W i/\P e b)/\w.heap.size<=j/\j<W.heap.size/\W.heap.size<=i.heap.size/\Keep (fun g=>g=j\/g=t) i l/\dw l t p b 0):Ah t p S P w l:=by
 obtain⟨W,b,i,j,o,⟨e,k,y,z,A⟩,x,q,B,v,r⟩:=h;obtain⟨a,s,c,d⟩:=Jq f n m o y z x q v;exact⟨e,k,b,a,r,s,A,c,d⟩
def Ja {o:VS}{b:Int}{p:cK}{N:Prop}{j:World}(e:∀g,S g->g<w.heap.size)(l:¬S t)(k:t<w.heap.size)
  (h:∃W i f,Below w.heap.size w W/\R5 o p S N W i/\w.heap.size<=f/\f<W.heap.size/\W.heap.size<=i.heap.size/\Keep (fun g=>g=f\/g=t) i j/\dw j t o b 12):wY t o b p S N w j:=by
 obtain⟨W,i,f,m,⟨B,n,C,z,A,D,y⟩,x,q,E,v,r⟩:=h;obtain⟨a,s,c,d⟩:=Jq e l k m z A x q v;exact⟨B,n,C,a,r,s,D,y,c,d⟩
def Tk (t:Nat)(j:VS)(c:Int)(C:cK)(S:Nat->Prop)(N:Prop)(P:cK->Int->Prop)(f a:ByteArray)(w:World)(d:∀g,S g->g<w.heap.size)(z:dw w t j c 0)(i:¬S t)(y:1<=f.size)(r:f.size<=128)(K:a.size<=64)
  (H:∀(W:World) (q o:Nat),Below w.heap.size w W->xh W S [(q,f),(o,a)]->EG t j c f 112 #[.pointer (some ⟨q,0,none⟩),.pointer (some ⟨o,0,none⟩)] C S N P W):
  Calls Tryz.prog 63 #[.pointer (some ⟨t,0,none⟩),.string f,.string a] w fun e s=>(e= .returned (.int .i64 0)/\Ah t j S P w s)\/(e= .returned (.int .i64 12)/\wY t j c C S N w s):=by
 have E:∀x,w.heap.size<=x->¬S x:=fun x J I=>absurd (d x I) (bg.2 J)
 refine(UY t j c f a w (fun W b G=>∃n F,Inv n F j G/\Step S F W G/\P n b) (R5 j C S N) z y r K ?_).mono ?_
 ·intro W M q o k v m A l B
  refine Rv (H W q o k ?_) d i k v m l;intro p D;simp at D;rcases D with rfl|rfl
  ·exact⟨l.ky,E _ m⟩
  ·exact⟨B,E _ A⟩
 ·rintro e s (⟨rfl,h⟩|⟨rfl,h⟩)
  ·exact .inl ⟨rfl,Nq d i (ai.1 z).1 h⟩
  ·exact .inr ⟨rfl,Ja d i (ai.1 z).1 h⟩
def LX (t:Nat)(f:VS)(a:Int)(i:cK)(S:Nat->Prop)(N:Prop)(P:cK->Int->Prop)(c x:ByteArray)(w:World)(h:Inv i S f w)(y:dw w t f a 0)(g:¬S t)(s:1<=c.size)(q:c.size<=128)(n:Nat)(H:n<=40)(E:Look i c n a (some x))
  (D:∀(W:World) (o:Nat),Below w.heap.size w W->xh W S [(o,c)]->EG t f a c 194 #[.pointer (some ⟨o,0,none⟩)] i S N P W):
  Calls Tryz.prog 161 #[.pointer (some ⟨t,0,none⟩),.string c] w fun e r=>(e= .returned (.tuple #[.bool true,.int .i64 0])/\Ah t f S P w r)\/(e= .returned (.tuple #[.bool false,.int .i64 12])/\wY t f a i S N w r):=by
 have d:=h.sub;have z:∀x,w.heap.size<=x->¬S x:=fun x G F=>absurd (d x F) (bg.2 G)
 refine(OY t f a i S c x w (fun W b C=>∃m B,Inv m B f C/\Step S B W C/\P m b) (R5 f i S N) h y s q n H E ?_).mono ?_
 ·intro W I o j v l k
  refine Rv (D W o j ?_) d g j v l k;intro p A;simp at A;subst A;exact⟨k.ky,z _ l⟩
 ·rintro e r (⟨rfl,h⟩|⟨rfl,h⟩)
  ·exact .inl ⟨rfl,Nq d g (ai.1 y).1 h⟩
  ·exact .inr ⟨rfl,Ja d g (ai.1 y).1 h⟩
def jZ (l:List (ByteArray×Int))(hi:Option ByteArray):Option ByteArray:=match l with|[]=>hi|(k,_)::_=>some k
def yt (l m:List (ByteArray×Int))(a:Option ByteArray):jZ (l++m) a=jZ l (jZ m a):=by
 cases l with
 |nil=>rfl
 |cons p l=>rfl
def dW (T:ByteArray->Option ByteArray->Int->List Pr->List Int->Prop)(hi:Option ByteArray):List (ByteArray×Int)->List Pr->List Int->Prop
 |[],cs,bs=>cs=[]/\bs=[]
 |(k,b)::l,cs,bs=>∃c cs' x bs',T k (jZ l hi) b c x/\dW T hi l cs' bs'/\cs=c++cs'/\bs=x++bs'
def dW.append {T:ByteArray->Option ByteArray->Int->List Pr->List Int->Prop}{a:Option ByteArray}{m:List (ByteArray×Int)}{e:List Pr}{d:List Int}(i:dW T a m e d):∀{l:List (ByteArray×Int)} {j:List Pr} {n:List Int},dW T (jZ m a) l j n->dW T a (l++m) (j++e) (n++d)
 |[],_,_,h=>by obtain⟨rfl,rfl⟩:=h;exact i
 |(k,b)::l,_,_,h=>by
  obtain⟨c,g,x,f,p,o,rfl,rfl⟩:=h
  exact⟨c,g++e,x,f++d,by show T k (jZ (l++m) a) b c x;rw[yt];exact p,dW.append i o,aM _ _ _,aM _ _ _⟩
def dW.split {T:ByteArray->Option ByteArray->Int->List Pr->List Int->Prop}{j:Option ByteArray}{m:List (ByteArray×Int)}:∀{l:List (ByteArray×Int)} {g:List Pr} {e:List Int},dW T j (l++m) g e->∃d f a i,dW T (jZ m j) l d a/\dW T j m f i/\g=d++f/\e=a++i
 |[],g,e,h=>⟨[],g,[],e,⟨rfl,rfl⟩,h,rfl,rfl⟩
 |(k,b)::l,_,_,h=>by
  obtain⟨c,r,x,t,p,n,rfl,rfl⟩:=h
  obtain⟨d,f,a,i,q,o,rfl,rfl⟩:=dW.split n
  exact⟨c++d,f,x++a,i,⟨c,d,x,a,by have s:T k (jZ (l++m) j) b c x:=p;rwa [yt] at s,q,rfl,rfl⟩,o,(aM _ _ _).symm,(aM _ _ _).symm⟩
def Within (lo:ByteArray)(hi:Option ByteArray)(k:ByteArray):Prop:=lt k lo=false/\∀h,hi=some h->lt k h=true
def Nd.row (nd:Nd)(lo:ByteArray):List (ByteArray×Int):=(lo::nd.keys).zip nd.kids
def jA (σ:cK):Nat->Nat->ByteArray->Option ByteArray->Int->List Pr->List Int->Prop
 |0,_,lo,hi,b,cs,bs=>∃nd,Cm σ b nd/\nd.Ok/\nd.kids=[]/\cs=nd.pairs/\cs≠[]/\fG cs/\(∀p∈cs,Within lo hi p.1)/\bs=[b]
 |h+1,m,lo,hi,b,cs,bs=>∃nd bs',Cm σ b nd/\nd.Ok/\nd.kids≠[]/\m<=nd.kids.length/\bs=b::bs'/\dW (jA σ h 2) hi (nd.row lo) cs bs'
def Within.weaken {g b:Option ByteArray}(h:Within f g k)(e:lt f a=false)(d:∀y,b=some y->∃x,g=some x/\lt y x=false):Within a b k:=by
 refine⟨Um e h.1,fun y i=> ?_⟩;obtain⟨x,j,c⟩:=d y i;exact Du (h.2 x j) c
def dW.Cv {T:ByteArray->Option ByteArray->Int->List Pr->List Int->Prop}{p e:Option ByteArray}(n:∀k b c x,T k p b c x->T k e b c x):∀{l:List (ByteArray×Int)} {o:List Pr} {m:List Int},dW T p l o m->dW T e l o m
 |[],_,_,h=>h
 |[(k,b)],_,_,h=>by
  obtain⟨c,a,x,d,i,f,j,g⟩:=h
  exact⟨c,a,x,d,n _ _ _ _ i,f,j,g⟩
 |(k,b)::(r,q)::l,_,_,h=>by
  obtain⟨c,a,x,d,i,f,j,g⟩:=h
  exact⟨c,a,x,d,i,dW.Cv n f,j,g⟩
def dW.Ig {T:ByteArray->Option ByteArray->Int->List Pr->List Int->Prop}{i:Option ByteArray}{g:ByteArray}{b:Int}{l:List (ByteArray×Int)}{f:List Pr}{e:List Int}(n:∀z b c x,T k z b c x->T g z b c x)(h:dW T i ((k,b)::l) f e):dW T i ((g,b)::l) f e:=by
 obtain⟨c,a,x,d,o,j,p,m⟩:=h;exact⟨c,a,x,d,n _ _ _ _ o,j,p,m⟩
def jA.weaken {E:cK}:∀{h m:Nat} {q f:ByteArray} {D d:Option ByteArray} {b:Int} {n:List Pr} {v:List Int},jA E h m q D b n v->lt q f=false->(∀y,d=some y->∃x,D=some x/\lt y x=false)->jA E h m f d b n v
 |0,_,_,_,_,_,_,_,_,⟨i,B,s,o,A,C,F,j,I⟩,g,e=>⟨i,B,s,o,A,C,F,fun p H=>(j p H).weaken g e,I⟩
 |h+1,_,q,f,D,d,b,n,v,⟨i,l,B,s,o,A,C,F⟩,g,e=>by
  refine⟨i,l,B,s,o,A,C,?_⟩
  have j:dW (jA E h 2) d (i.row q) n l:=dW.Cv (fun k b c x t=>jA.weaken t (lt_irrefl k) e) F
  unfold Nd.row at j ⊢
  cases G:i.kids with
  |nil=>exact absurd G o
  |cons a r=>
   rw[G] at j
   exact dW.Ig (fun z b c x t=>jA.weaken t g (fun y J=>⟨y,J,lt_irrefl y⟩)) j
def jA.less {g:cK}:∀{h m f:Nat} {i:ByteArray} {e:Option ByteArray} {b:Int} {d:List Pr} {c:List Int},jA g h m i e b d c->f<=m->jA g h f i e b d c
 |0,_,_,_,_,_,_,_,k,_=>k
 |_+1,_,_,_,_,_,_,_,⟨l,a,o,j,q,n,p,s⟩,r=>⟨l,a,o,j,q,aK r n,p,s⟩
def Within.Q8 {b:ByteArray}(h:Within b (some a) k):lt b a=true:=Ul h.1 (h.2 a rfl)
structure Content (lo:ByteArray)(hi:Option ByteArray)(cs:List Pr):Prop where
 ne:cs≠[]
 rise:fG cs
 within:∀p∈cs,Within lo hi p.1
def Content.append {i:ByteArray}{j:Option ByteArray}{a:List Pr}(c:Content i (some k) a)(d:Content k j b):Content i j (a++b):=by
 have g:lt i k=true:=by
  obtain⟨p,r,rfl⟩:=ni c.ne;exact(c.within p (by simp)).Q8
 refine⟨by simp[c.ne],?_,fun p f=> ?_⟩
 ·refine yI.2 ⟨c.rise,d.rise,fun p f q e=> ?_⟩
  exact Du ((c.within p f).2 k rfl) (d.within q e).1
 ·rcases bU.1 f with h|h
  ·refine⟨(c.within p h).1,fun y l=> ?_⟩
   obtain⟨q,r,rfl⟩:=ni d.ne;have e:=d.within q (by simp);exact lt_trans ((c.within p h).2 k rfl) (Ul e.1 (e.2 y l))
  ·exact⟨Um (lt_asymm g) (d.within p h).1,(d.within p h).2⟩
def dW.content {T:ByteArray->Option ByteArray->Int->List Pr->List Int->Prop}(e:∀k z b c x,T k z b c x->Content k z c){i:Option ByteArray}:∀{k:ByteArray} {b:Int} {l:List (ByteArray×Int)} {g:List Pr} {j:List Int},dW T i ((k,b)::l) g j->Content k i g
 |k,b,[],_,_,h=>by
  obtain⟨c,d,x,a,f,⟨rfl,rfl⟩,rfl,rfl⟩:=h
  rw[dM]
  exact e _ _ _ _ _ f
 |k,b,(o,n)::l,_,_,h=>by
  obtain⟨c,d,x,a,f,m,rfl,rfl⟩:=h
  exact(e _ _ _ _ _ f).append (dW.content e m)
def jA.content {s:cK}:∀{h m:Nat} {g:ByteArray} {f:Option ByteArray} {b:Int} {e:List Pr} {i:List Int},jA s h m g f b e i->Content g f e
 |0,_,_,_,_,_,_,⟨_,_,_,_,_,p,d,o,_⟩=>⟨p,d,o⟩
 |h+1,_,g,f,b,e,i,⟨n,t,_,_,q,_,_,d⟩=>by
  unfold Nd.row at d
  cases j:n.kids with
  |nil=>exact absurd j q
  |cons a r=>
   rw[j] at d
   exact dW.content (fun k z b c x l=>jA.content l) d
def oI (l:fG b){v:ByteArray}:dL b a=some v↔(a,v)∈b:=by
 obtain⟨o,q⟩:=lX a b l;constructor
 ·intro h
  unfold dL at h
  split at h
  ·rename_i f
   obtain⟨k,n⟩:=mY f;rw[bD k] at h;simp at h;have:=bF k;rw[show b[bX b a]=(a,v) from Prod.ext n h] at this;exact this
  ·cases h
 ·intro h
  obtain⟨i,j,e⟩:=fF h;have r:¬i<bX b a:=fun g=>by
   have:=o i j g;rw[e] at this;rw[lt_irrefl] at this;cases this
  have m:¬bX b a<i:=fun g=>by
   have p:=q (bX b a) (by omega) (aD _);have c:=gX.1 l (bX b a) i (by omega) j g;rw[e] at c;rw[p] at c;cases c
  have d:bX b a=i:=by omega
  unfold dL pU;rw[d,bD j,e];simp
def dW.U8 {T:ByteArray->Option ByteArray->Int->List Pr->List Int->Prop}(e:∀k z b c x,T k z b c x->Content k z c){q:Option ByteArray}:∀{k:ByteArray} {b:Int} {l:List (ByteArray×Int)} {j:List Pr} {i:List Int},dW T q ((k,b)::l) j i->wW (k::l.map (·.1))
 |k,b,[],_,_,_=>List.pairwise_singleton _ _
 |k,b,(n,t)::l,_,_,h=>by
  obtain⟨c,o,x,s,m,g,rfl,rfl⟩:=h
  have ih:=dW.U8 e g
  have f:=e _ _ _ _ _ m
  obtain⟨p,r,rfl⟩:=ni f.ne
  have a:lt k n=true:=(f.within p (by simp)).Q8
  refine fU.2 ⟨fun y d=> ?_,ih⟩
  rcases bO.1 d with rfl|d
  ·exact a
  ·exact lt_trans a ((fU.1 ih).1 y d)
def qm {c:List ByteArray}{a:List Int}(h:c.length=a.length - 1)(e:a≠[])(d:ByteArray):∃b l,(d::c).zip a=(d,b)::l/\l.map (·.1)=c/\a=b::l.map (·.2):=by
 cases a with
 |nil=>exact absurd rfl e
 |cons b r=>
  refine⟨b,c.zip r,rfl,?_,?_⟩
  ·rw[List.map_fst_zip];simp at h;omega
  ·rw[List.map_snd_zip];simp at h;omega
def jA.rising {r:cK}{h m:Nat}{q:Option ByteArray}{a:Nd}{n:List Pr}{i:List Int}(p:a.Ok)(j:a.kids≠[])(d:dW (jA r h m) q (a.row f) n i):wW a.keys:=by
 obtain⟨b,l,e,o,_⟩:=qm p.kk j f;unfold Nd.row at d;rw[e] at d;have:=dW.U8 (fun k z b c x g=>jA.content g) d;rw[o] at this;exact(fU.1 this).2
def dW.find {T:ByteArray->Option ByteArray->Int->List Pr->List Int->Prop}(m:∀k z b c x,T k z b c x->Content k z c){o:Option ByteArray}{a:ByteArray}(g:∀y,o=some y->lt a y=true):∀{k:ByteArray} {b:Int} {l:List (ByteArray×Int)} {s:List Pr} {B:List Int},dW T o ((k,b)::l) s B->lt a k=false->
  ∃(A:jk (l.map (·.1)) a<(b::l.map (·.2)).length) (f:ByteArray) (z:Option ByteArray) (c:List Pr) (x:List Int),T f z (b::l.map (·.2))[jk (l.map (·.1)) a] c x/\Within f z a/\∀v,(a,v)∈s↔(a,v)∈c
 |k,b,[],_,_,h,j=>by
  obtain⟨c,n,x,p,i,⟨rfl,rfl⟩,rfl,rfl⟩:=h
  exact⟨by simp[jk],k,o,c,x,i,⟨j,g⟩,fun v=>by simp⟩
 |k,b,(f,r)::l,_,_,h,j=>by
  obtain⟨c,n,x,p,i,q,rfl,rfl⟩:=h
  cases d:lt a f with
  |true=>
   have e:jk (((f,r)::l).map (·.1)) a=0:=by simp[jk,d]
   have I:=dW.content m q
   refine⟨by rw[e];simp,k,some f,c,x,?_,⟨j,fun y F=>by cases F;exact d⟩,fun v=> ?_⟩
   ·simp only[e];exact i
   ·rw[bU]
    constructor
    ·rintro(h|h)
     ·exact h
     ·have:=(I.within _ h).1
      rw[d] at this;cases this
    ·exact .inl
  |false=>
   have e:jk (((f,r)::l).map (·.1)) a=jk (l.map (·.1)) a+1:=by simp[jk,d]
   obtain⟨A,H,z,D,G,E,C,J⟩:=dW.find m g q d
   refine⟨by rw[e];simpa using A,H,z,D,G,?_,C,fun v=> ?_⟩
   ·simp only[e];exact E
   ·rw[bU,<-J]
    constructor
    ·rintro(h|h)
     ·have:=((m _ _ _ _ _ i).within _ h).2 f rfl
      have t:lt a f=true:=this
      rw[d] at t;cases t
     ·exact h
    ·exact .inr
def Q6 {a:List Pr}(d:fG a)(f:fG b){c:ByteArray}(h:∀v,(c,v)∈a↔(c,v)∈b):dL a c=dL b c:=by
 cases e:dL a c with
 |some v=>exact((oI f).2 ((h v).1 ((oI d).1 e))).symm
 |none=>
  cases g:dL b c with
  |none=>rfl
  |some v=>
   have:=(oI d).2 ((h v).2 ((oI f).1 g));rw[e] at this;cases this
def jA.look {D:cK}{d:ByteArray}:∀{h m:Nat} {j:ByteArray} {s:Option ByteArray} {b:Int} {p:List Pr} {A:List Int},jA D h m j s b p A->Within j s d->Look D d h b (dL p d)
 |0,_,_,_,_,_,_,⟨o,q,_,i,H,_,f,_,_⟩,_=>by
  subst H
  exact .leaf q i f
 |h+1,m,j,s,b,p,A,n@⟨o,M,q,v,i,_,_,f⟩,B=>by
  have a:=jA.rising v i f
  have r:=n.content
  obtain⟨G,l,e,I,K⟩:=qm v.kk i j
  unfold Nd.row at f
  rw[e] at f
  obtain⟨t,P,z,c,x,C,F,O⟩:=dW.find (fun k z b c x n=>jA.content n) (fun y J=>B.2 y J) f B.1
  have g:=jA.look C F
  rw[<-Q6 r.rise C.content.rise O] at g
  have N:(l.map (·.1))=o.keys:=I
  simp only[N] at t g
  have E:G::l.map (·.2)=o.kids:=K.symm
  simp only[E] at t g
  exact .inner t q a g
