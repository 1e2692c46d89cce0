/- parts -/
import Derived.Test.YtpmbddooibgnaaaGreatDoorN1
import Derived.Test.YtpmbddooibgnaaaGreatDoorN14
import Derived.Test.YtpmbddooibgnaaaGreatDoorN24
import Derived.Defers
import Derived.Recover
set_option maxRecDepth 100000
set_option maxHeartbeats 8000000
set_option linter.all false
namespace Go.Proofs.YtpmbddooibgnaaaGreatDoor
open Go.RowKit
structure TP where
 F:Nat->Prop
 D:Nat->Dk->Lg->Pg->Prop
 v:Nat
 t:Nat
 x:Nat
 N:Nat
 R:Nat
 dn:Nat
 u:Nat
 P:Nat
 kv0:List Pr
def TP.base (p:TP)(w:World):gW:=⟨p.F,w,p.D⟩
def TP.add (p:TP)(w w':World):TP:={p with F:=fun g=>p.F g\/(w.heap.size<=g/\g<w'.heap.size)}
section
variable {b:gW} {w w':World} {v t N R dn u P:Nat} {kv kv0:List Pr} {ch:Bool}
theorem sJ.BS (h:sJ b v t N R dn u kv0 kv ch P w):Keep (fun g=>¬b.F g) b.w w:=by
 obtain⟨_,_,_,_,_,_,_,_,_,_,_,h,_⟩:=h
 exact⟨h.os,h.tape,h.output,h.size,fun k _ a=>h.block k (Un.1 a)⟩
theorem sJ.Yi (h:sJ b v t N R dn u kv0 kv ch P w):sJ ⟨b.F,w,b.D⟩ v t N R dn u kv0 kv ch P w:=by
 obtain⟨S,j,i,f,c,k,tb,a,e,d,hA,h,l⟩:=h
 exact⟨S,j,i,f,c,k,tb,a,e,d,hA,⟨rfl,rfl,rfl,aC _,fun _ _=>rfl,fun g m=>aA (h.fs g m) h.size,h.lo⟩,l⟩
theorem sJ.XQ {F F':Nat->Prop}{D:Nat->Dk->Lg->Pg->Prop}(h:sJ ⟨F',w,D⟩ v t N R dn u kv0 kv ch P w)(c:∀g,F g->F' g):sJ ⟨F,w,D⟩ v t N R dn u kv0 kv ch P w:=by
 obtain⟨S,p,n,k,b,l,tb,a,i,f,hA,h,j,m,q,o⟩:=h
 exact⟨S,p,n,k,b,l,tb,a,i,f,hA,⟨rfl,rfl,rfl,aC _,fun _ _=>rfl,fun g d=>h.fs g (c g d),fun g d e=>h.lo g d (c g e)⟩,⟨fun e=>j.1 (c _ e),j.2⟩,fun e=>m (c _ e),fun e=>q (c _ e),o⟩
theorem sJ.Ya (h:sJ b v t N R dn u kv0 kv ch P w)(a:ByteArray)(j:kv.length<=4090)(i:1<=a.size/\a.size<=128):
  Calls Tryz.prog 215 #[.pointer (some ⟨t,0,none⟩),.string a] w fun e w'=>e= .returned (.tuple #[.string ((dK kv a).getD ByteArray.empty),.bool (dK kv a).isSome,.int .i64 0])/\Below w.heap.size w w':=by
 obtain⟨S,z,q,n,f,o,tb,c,l,k,hA,hB,r,p,B,s,A,y,d,m⟩:=h
 refine(hA.get a (by rw[<-kV,d];exact j) i).mono ?_
 rintro e w' ⟨rfl,x,g⟩
 exact⟨by rw[d],g⟩
end
structure RT (p:TP)(kv:List Pr)(w:World):Prop where
 ts:∃ch,sJ ⟨p.F,w,p.D⟩ p.v p.t p.N p.R p.dn p.u p.kv0 kv ch p.P w
 obj:w.heap[p.x]? =some (.cells #[.pointer (some ⟨p.t,0,none⟩)] 305 (0,0))
 fb:p.F p.x
theorem Es (a:List Pr)(i:Nat)(k v:ByteArray):qD (a.set i (k,v))<=qD a+kW v:=by
 induction a generalizing i with
 |nil=>exact aR _
 |cons p r ih=>
  cases i with
  |zero=>
   show kW v+qD r<=(kW p.2+qD r)+kW v
   omega
  |succ i=>
   show kW p.2+qD (r.set i (k,v))<=(kW p.2+qD r)+kW v
   have:=ih i
   omega
theorem Ie (a b:List Pr):qD (a++b)=qD a+qD b:=by simp[qD]
theorem Nv (a:List Pr)(k v:ByteArray):qD (jh a k v)<=qD a+kW v:=by
 unfold jh
 split
 ·exact Es a _ k v
 ·have h:qD a=qD (a.take (dI a k))+qD (a.drop (dI a k)):=by rw[<-Ie,bM]
  have e:qD ((k,v)::a.drop (dI a k))=kW v+qD (a.drop (dI a k)):=rfl
  rw[Ie,e]
  omega
theorem PW (a:List Pr)(k v:ByteArray):(jh a k v).length<=a.length+1:=by
 unfold jh
 split
 ·simp
 ·have:=bM (dI a k) a
  have h:a.length=(a.take (dI a k)).length+(a.drop (dI a k)).length:=by rw[<-aB,this]
  simp only[aB,aZ] at*
  omega
theorem AQ (a b:List Pr):iE (a++b)=iE a+iE b:=by simp[iE]
theorem BP (p:Pr)(b:List Pr):iE (p::b)=3+p.1.size+p.2.size+iE b:=rfl
theorem Gx (kv:List Pr)(a b:ByteArray):iE (jh kv a b)<=iE kv+(3+a.size+b.size):=by
 have e:=bM (dI kv a) kv
 unfold jh
 split
 ·rename_i d
  obtain⟨c,_⟩:=vW d
  rw[Tw,if_pos c,AQ,BP]
  have f:iE kv=iE (kv.take (dI kv a))+(3+kv[dI kv a].1.size+kv[dI kv a].2.size+iE (kv.drop (dI kv a+1))):=by
   rw[<-BP,<-dB c,<-AQ,e]
  show _+(3+a.size+b.size+_)<=_
  omega
 ·have f:iE kv=iE (kv.take (dI kv a))+iE (kv.drop (dI kv a)):=by rw[<-AQ,e]
  rw[AQ,BP]
  show _+(3+a.size+b.size+_)<=_
  omega
section
variable {p:TP} {kv:List Pr} {w w':World} {M:Nat->Prop}
theorem RT.lt (h:RT p kv w):p.x<w.heap.size:=(aj.1 h.obj).1
theorem RT.c0 (h:RT p kv w):w.cell? ⟨p.x,0,none⟩=some (.pointer (some ⟨p.t,0,none⟩)):=by simp[World.cell?,h.obj]
theorem RT.KW (h:RT p kv w)(a:Keep M w w')(b:∀g,M g->p.F g)(c:¬M p.x):RT (p.add w w') kv w':=
 ⟨h.ts.imp fun _ q=>q.next a b,(a.block p.x h.lt c).trans h.obj,.inl h.fb⟩
theorem RT.next (h:RT p kv w)(a:Below w.heap.size w w'):RT (p.add w w') kv w':=h.KW (Keep.of_below a (fun _=>False)) (fun _ e=>e.elim) id
theorem RT.sub {F:Nat->Prop}(h:RT {p with F:=F} kv w)(b:∀g,p.F g->F g)(a:p.F p.x):RT p kv w:=⟨h.ts.imp fun _ q=>sJ.XQ (F':=F) q b,h.obj,a⟩
theorem RT.keep (h:RT p kv w)(c:Keep M w w')(a:∀g,M g->p.F g)(b:¬M p.x):RT p kv w':=(h.KW c a b).sub (fun _ e=> .inl e) h.fb
theorem RT.below (h:RT p kv w)(a:Below w.heap.size w w'):RT p kv w':=h.keep (Keep.of_below a (fun _=>False)) (fun _ e=>e.elim) id
def TP.room (p:TP)(kv:List Pr)(value:ByteArray):Prop:=kv.length<=4090/\2+p.u+qD kv+2*(kv.length+1)+kW value<=p.P/\p.P<=p.N/\value.size<=63/\iE kv+196<=512
theorem RT.Yb (h:RT p kv w)(a:ByteArray)(d:kv.length<=4090)(b:1<=a.size/\a.size<=128):
  Calls Tryz.prog 215 #[.pointer (some ⟨p.t,0,none⟩),.string a] w fun e w'=>e= .returned (.tuple #[.string ((dK kv a).getD ByteArray.empty),.bool (dK kv a).isSome,.int .i64 0])/\Below w.heap.size w w':=by
 obtain⟨ch,c⟩:=h.ts
 exact c.Ya a d b
theorem RT.U7 (h:RT p kv w)(b a:ByteArray)(j:1<=b.size/\b.size<=128)(d:p.room kv a):
  Calls Tryz.prog 411 #[.pointer (some ⟨p.t,0,none⟩),.string b,.string a] w fun e w'=>e= .returned (.int .i64 0)/\RT p (jh kv b a) w'/\Keep (fun g=>¬p.F g) w w':=by
 obtain⟨ch,k⟩:=h.ts
 obtain⟨c,f,l,i,n⟩:=d
 have m:=Gx kv b a
 refine(k.put b a c j i (by omega) f).mono ?_
 rintro e w' (⟨rfl,q⟩|⟨_,q,_⟩)
 ·exact⟨rfl,⟨⟨_,q.Yi⟩,(q.block h.fb).trans h.obj,h.fb⟩,q.BS⟩
 ·omega
end
def TP.rm (p:TP)(kv:List Pr)(k:Nat):Prop:=kv.length+k<=4000/\2+p.u+qD kv+2*(kv.length+k)<=p.P/\p.P<=p.N/\iE kv+40*k+156<=512
theorem TP.rm.room {p:TP}{kv:List Pr}{k:Nat}{a:ByteArray}(h:p.rm kv (k+1))(hv:a.size<=63):p.room kv a:=by
 obtain⟨e,f,c,d⟩:=h
 have b:kW a=0:=if_pos hv
 exact⟨by omega,by rw[b];omega,c,hv,by omega⟩
theorem TP.rm.ins {p:TP}{kv:List Pr}{k:Nat}{value:ByteArray}(h:p.rm kv (k+1))(hv:value.size<=63)(a:ByteArray)(j:a.size+value.size<=37):p.rm (jh kv a value) k:=by
 obtain⟨f,g,b,i⟩:=h
 have d:kW value=0:=if_pos hv
 have c:=Nv kv a value
 have l:=PW kv a value
 have e:=Gx kv a value
 exact⟨by omega,by omega,b,by omega⟩
theorem Rl (t:Nat)(w:World):Calls Tryz.prog 107 #[.pointer (some ⟨t,0,none⟩)] w fun e w'=>e= .returned (.pointer (some ⟨w.heap.size,0,none⟩))/\w'.heap[w.heap.size]? =some (.cells #[.pointer (some ⟨t,0,none⟩)] 305 (0,0))/\Below w.heap.size w w':=by
 have a:=aG w (.cells #[.pointer (some ⟨t,0,none⟩)] 305)
 have b:=aH w (.cells #[.pointer (some ⟨t,0,none⟩)] 305)
 go_enter Tryz.func107,Tryz.ntmps107
 go_wp2
 go_ret
 exact⟨rfl,b,a⟩
theorem OD (w:World):Calls Tryz.prog 214 #[.int .i64 0] w fun e w'=>e= .returned (.tuple #[])/\w'=w:=by
 go_enter Tryz.func214,Tryz.ntmps214
 go_wp2
 go_end0
 exact⟨rfl,rfl⟩
def Rp (e:Int):List PanicEntry:=[{v:= .iface 354 (.agg #[.int .i64 e]),recovered:=false}]
theorem xN (n:Int)(w:World):Calls Tryz.prog 361 #[.bool false,.int .i64 n] w fun e w'=>e= .returned (.tuple #[])/\w'=w:=by
 go_enter Tryz.func361,Tryz.ntmps361
 go_wp2
 go_end0
 exact⟨rfl,rfl⟩
section
variable {p:TP} {kv:List Pr} {w:World}
theorem RT.get (h:RT p kv w)(a:ByteArray)(f:kv.length<=4090)(d:1<=a.size/\a.size<=128):
  Calls Tryz.prog 133 #[.pointer (some ⟨p.x,0,none⟩),.string a] w fun e w'=>e= .returned (.tuple #[.string ((dK kv a).getD ByteArray.empty),.bool (dK kv a).isSome])/\Below w.heap.size w w':=by
 have c:=ah (h.Yb a f d)
 have k:=h.c0
 have g:=h.lt
 obtain⟨q,i⟩:∃q,Hid (dK kv a=q):=⟨_,ah rfl⟩
 rw[i.out] at c ⊢
 clear h f d
 go_enter Tryz.func133,Tryz.ntmps133
 go_wp2_with (first
  |(go_at_call 215;go_must (refine c.out.mono ?_;rintro e l ⟨rfl,b⟩))
  |(go_at_call 214;go_must (refine(OD _).mono ?_;rintro e j ⟨rfl,rfl⟩)))
 go_ret2
 exact⟨rfl,b⟩
theorem RT.put (h:RT p kv w)(b a:ByteArray)(d:1<=b.size/\b.size<=128)(c:p.room kv a):
  Calls Tryz.prog 368 #[.pointer (some ⟨p.x,0,none⟩),.string b,.string a] w fun e w'=>e= .returned (.tuple #[])/\RT p (jh kv b a) w'/\Keep (fun g=>¬p.F g) w w':=by
 have f:=ah (h.U7 b a d c)
 have m:=h.c0
 have i:=h.lt
 clear h d c
 go_enter Tryz.func368,Tryz.ntmps368
 go_wp2_with (first
  |(go_at_call 411;go_must (refine f.out.mono ?_;rintro e n ⟨rfl,j,k⟩))
  |(go_at_call 214;go_must (refine(OD _).mono ?_;rintro e l ⟨rfl,rfl⟩)))
 go_end0
 exact⟨rfl,j,k⟩
theorem RT.UB (h:RT p [] w)(a:ByteArray):
  Calls Tryz.prog 211 #[.pointer (some ⟨p.x,0,none⟩),.string a] w fun e w'=>e= .returned (.slice none 0 0)/\Below w.heap.size w w':=by
 obtain⟨ch,d⟩:=h.ts
 have m:=ah (d.scan a 201 (by simp))
 have q:=h.c0
 have l:=h.lt
 clear h d
 go_enter Tryz.func211,Tryz.ntmps211
 go_wp2_with (first
  |(go_at_call 238;go_must (refine m.out.mono ?_;rintro e j ⟨x,rfl,c,_,b⟩;refine Stop.of ?_)))
 refine Stop.on ?_
 have f:(tZ ([]:List Pr) a 201).length=0:=by unfold tZ;simp
 rw[f] at c
 obtain⟨r,t,rfl,_,_,_,_⟩:=jP.form c.MZ
 have k:=ah b
 clear c b f
 go_wp2_with (first
  |(go_at_call 214;go_must (refine(OD _).mono ?_;rintro e g ⟨rfl,n⟩;subst g)))
 go_loopw [7,9,10,11,25] (fun o _ _ _ i wr=>o= .slice none 0 0/\i= .int .i64 0/\wr=j) (fun _ _ _ _ _ _=>0)
 case atStart=>exact⟨rfl,rfl,rfl⟩
 case round=>
  obtain⟨rfl,rfl,s⟩:=hrel
  subst wr
  go_wp2_with fail
  go_ret
  exact⟨rfl,k.out⟩
end
theorem RF (a:Nat)(w:World)(h:wz w a []):
  Calls Tryz.prog 134 #[.pointer (some ⟨a,0,none⟩)] w fun e w'=>e= .returned (.int .i64 0)/\Keep (· =a) w w':=by
 have d:Calls Tryz.prog 216 #[.pointer (some ⟨a,0,none⟩),.int .i64 8] w fun e w'=>e= .returned (.string ⟨#[]⟩)/\Keep (· =a) w w':=by
  obtain⟨k,m,r,q⟩:=h.cells
  have b:(strOf []).size=0:=rfl
  have o:w.frozen? ⟨a,1,none⟩=false:=by unfold wz at h;simp[World.frozen?,h]
  have f:=ah ((Keep.refl (· =a) w).setCell (p:=⟨a,1,none⟩) (.inr rfl) (.bool true))
  obtain⟨s,j⟩:∃s,Hid (strOf []=s):=⟨_,ah rfl⟩
  rw[j.out] at k b
  clear h
  go_enter Tryz.func216,Tryz.ntmps216
  go_wp2
  go_ret
  exact⟨rfl,f.out⟩
 have l:=ah d
 clear d h
 go_enter Tryz.func134,Tryz.ntmps134
 go_wp2_with (first
  |(go_at_call 216;go_must (refine l.out.mono ?_;rintro e g ⟨rfl,c⟩)))
 go_loopw [4,5] (fun n i wr=>n= .int .i64 0/\i= .int .i64 (-1)/\wr=g) (fun _ _ _=>0)
 case atStart=>exact⟨rfl,rfl,rfl⟩
 case round=>
  obtain⟨rfl,rfl,t⟩:=hrel
  subst wr
  go_wp2_with fail
  go_ret
  exact⟨rfl,c⟩
theorem Oy (j:Option Addr)(a:List ByteArray)(c:Nat)(S:Nat->Prop)(w:World)(g:pK w S (.slice j a.length c) a)(d:a≠[]):
  Calls Tryz.prog 366 #[.slice j a.length c] w fun e w'=>e= .returned (.tuple #[.slice j (a.length - 1) c,.string (a.getLast d)])/\Below w.heap.size w w':=by
 obtain⟨n,k⟩:∃n,a.length=n+1:=⟨a.length - 1,by have:=gY.2 d;omega⟩
 have f:a[n]? =some (a.getLast d):=by
  have:=List.getLast?_eq_some_getLast d
  rw[List.getLast?_eq_getElem?,k] at this
  exact this
 obtain⟨b,o,rfl,m⟩:=jP.Cq g rfl n (.string (a.getLast d)) (by rw[dL,f];rfl)
 obtain⟨s,l⟩:∃s,Hid (a.getLast d=s):=⟨_,ah rfl⟩
 obtain⟨_,_,e,i,q,_,_⟩:=jP.form g
 cases e
 rw[l.out] at m ⊢
 rw[k] at i ⊢
 rw[show n+1 - 1=n by omega]
 have p:=aD w _ m
 clear g l f
 have v:IntKind.i64.wrap ((n:Int)+1 - 1)=(n:Int):=by rw[bX];omega
 have r:(0:Int)<=(n:Int):=by omega
 have x:(n:Int)<=(c:Int):=by omega
 have t:(n:Int)<(n:Int)+1:=by omega
 go_enter Tryz.func366,Tryz.ntmps366
 go_upto_region 1 with (fail)
 go_quiet (fail)
 go_wp2_with fail
 go_ret2
 exact⟨rfl,below_drewN (aJ _ _) _⟩
section
variable {p:TP} {kv:List Pr} {w:World}
def Yp (kv:List Pr)(key:ByteArray)(n:Int):Prop:=(dK kv key=none/\n=0)\/(dK kv key=some (strOf (kR n))/\0<=n/\n<1000000)
theorem RT.count (h:RT p kv w)(a:ByteArray)(n:Int)(hl:kv.length<=4090)(K:1<=a.size/\a.size<=128)(hc:Yp kv a n)(hr:p.room kv (strOf (kR (n+1)))):
  Calls Tryz.prog 369 #[.pointer (some ⟨p.x,0,none⟩),.string a] w fun e w'=>e= .returned (.int .i64 (n+1))/\RT p (jh kv a (strOf (kR (n+1)))) w'/\Keep (fun g=>¬p.F g) w w':=by
 have Z:=ah (h.get a hl K)
 obtain⟨s,hs,l⟩:∃s:List UInt8,(dK kv a).getD ByteArray.empty=strOf s/\((s=[]/\n=0)\/(s=kR n/\0<=n/\n<1000000)):=by
  rcases hc with ⟨T,N⟩|⟨T,N⟩
  ·exact⟨[],by rw[T];rfl,.inl ⟨rfl,N⟩⟩
  ·exact⟨kR n,by rw[T];rfl,.inr ⟨rfl,N⟩⟩
 have hn:0<=n/\n<1000000:=by rcases l with ⟨_,rfl⟩|⟨_,h⟩<;>omega
 rw[hs] at Z
 obtain⟨q,hq⟩:∃q,Hid ((dK kv a).isSome=q):=⟨_,ah rfl⟩
 rw[hq.out] at Z
 have HN:=ah (fun (B:Nat) (W:World) (hR:wz W B s)=>show Calls Tryz.prog 134 #[.pointer (some ⟨B,0,none⟩)] W fun e w'=>e= .returned (.int .i64 n)/\Keep (· =B) W w' by
  rcases l with ⟨rfl,rfl⟩|⟨rfl,_⟩
  ·exact RF B W hR
  ·refine(JH B n [] W (by rw[dV];exact hR) (by omega)).mono ?_
   rintro e w' ⟨rfl,_,hk⟩
   exact⟨rfl,hk⟩)
 have Q:=ah (au h (au K hr))
 clear h hs l hc hq K hr
 have qb:IntKind.i64.wrap (n+1)=n+1:=by rw[bX];omega
 have p9:=ah hn
 clear hn
 go_enter Tryz.func369,Tryz.ntmps369
 go_wp2_with (first
  |(go_at_call 133;go_must (refine Z.out.mono ?_;rintro e o ⟨rfl,d⟩;refine Stop.of ?_)))
 refine Stop.on ?_
 have H:=aG o (.cells #[.string (strOf s),.bool false] 254)
 have A:wz (o.alloc (.cells #[.string (strOf s),.bool false] 254)) o.heap.size s:=aH o _
 have i:=d.trans (H.mono d.size)
 have C:=HN.out o.heap.size _ A
 have x:=d.size
 have O:=ah (au i x)
 have P:=ah C
 clear d H A i C x
 go_wp2_with (first
  |(go_at_call 134;go_must (refine P.out.mono ?_;rintro e f ⟨rfl,v⟩;refine Stop.of ?_)))
 refine Stop.on ?_
 have t:Below w.heap.size w f:=O.out.1.trans (v.fw O.out.1.size fun g K e=>by have:=O.out.2;omega)
 have E:=aG f (.cells #[.pointer none,.slice none 0 0] 580)
 have J:Ay (f.alloc (.cells #[.pointer none,.slice none 0 0] 580)) f.heap.size f.heap.size []:=⟨aC _,_,_,.inl rfl,aH f _,aV.nil _ _ _ _ _⟩
 have G:=JJ f.heap.size f.heap.size [] (n+1) _ J (by simp) (by simp)
 have b:=ah (au t E)
 have X:=ah G
 clear v t E J G
 go_wp2_with (first
  |(go_at_call 460;go_must (refine X.out.mono ?_;rintro e V ⟨rfl,z,k⟩;refine Stop.of ?_)))
 refine Stop.on ?_
 have m:=KP _ _ _ V z (by rw[oG];intro e;have:=fQ (n+1);rw[e] at this;simp at this)
 rw[oG] at m
 have j:Below w.heap.size w V:=b.out.1.trans ((b.out.2.trans (k.mono (aC _))).mono b.out.1.size)
 have r:f.heap.size<=V.heap.size:=aI b.out.2.size k.size
 have R:=ah (au j r)
 have Y:=ah m
 clear z k m j r
 go_wp2_with (first
  |(go_at_call 461;go_must (refine Y.out.mono ?_;rintro e w6 ⟨rfl,D⟩;refine Stop.of ?_)))
 refine Stop.on ?_
 have c:Below w.heap.size w w6:=R.out.1.trans (D.mono (aI b.out.1.size (aC _)))
 have F:=Q.out.1.below c
 have y:=F.put a (strOf (kR (n+1))) Q.out.2.1 Q.out.2.2
 have I:=ah c
 have S:=ah y
 clear D c F y
 go_wp2_with (first
  |(go_at_call 368;go_must (refine S.out.mono ?_;rintro e w7 ⟨rfl,M,pV⟩)))
 go_ret
 exact⟨rfl,M,(Keep.of_below I.out (fun g=>¬p.F g)).trans pV (fun _ _ e=>e)⟩
theorem VO (a b c d:UInt8)(w:World):(convert 154 9 (.slice (some ⟨w.heap.size,0,none⟩) 4 4)).run Tryz.prog (w.alloc (.cells (aF [a,b,c,d]).toArray 5))= .ok (.string (strOf [a,b,c,d])) (w.alloc (.cells (aF [a,b,c,d]).toArray 5)):=by
 have e:Row (w.alloc (.cells (aF [a,b,c,d]).toArray 5)) w.heap.size 5 (aF [a,b,c,d]):=Row.new w _ _
 have f:bq (w.alloc (.cells (aF [a,b,c,d]).toArray 5)) eG 1 (.slice (some ⟨w.heap.size,0,none⟩) 4 4) [a,b,c,d].length (aF [a,b,c,d]):=by
  have:=e.dM (S:=eG) (k:=1) (off:=0) 4 4 (by simp[aF]) id (aC _) (by simp[maxLen])
  rw[dY,aL (by simp[aF])] at this
  exact this
 exact f.strOf
def id1:ByteArray:=strOf [0,0,0,1]
theorem RT.Vz (h:RT p kv w)(n:kv.length<=4090)(f:dK kv ⟨#[105]⟩=none)(i:p.room kv (strOf (kR 1))):
  Calls Tryz.prog 367 #[.pointer (some ⟨p.x,0,none⟩)] w fun e w'=>e= .returned (.string id1)/\RT p (jh kv ⟨#[105]⟩ (strOf (kR 1))) w'/\Keep (fun g=>¬p.F g) w w':=by
 have l:=ah (h.count ⟨#[105]⟩ 0 n ⟨by decide,by decide⟩ (.inl ⟨f,rfl⟩) i)
 clear h f i
 go_enter Tryz.func367,Tryz.ntmps367
 go_wp2_with (first
  |(go_at_call 369;go_must (refine l.out.mono ?_;rintro e j ⟨rfl,b,c⟩;refine Stop.of ?_)))
 refine Stop.on ?_
 have d:=VO 0 0 0 1 j
 have m:aF [0,0,0,1]=[.int .u8 0,.int .u8 0,.int .u8 0,.int .u8 1]:=rfl
 rw[m] at d
 have a:=aG j (.cells #[.int .u8 0,.int .u8 0,.int .u8 0,.int .u8 1] 5)
 have k:=ah (au (b.below a) (c.trans (Keep.of_below a (fun _=>False)) (fun _ _ e=>e.elim)))
 clear b c a
 go_wp2
 go_ret
 exact⟨rfl,k.out.1,k.out.2⟩
def zu (k e:Int):ByteArray:=strOf (kR k++kR e)
theorem zq (k e:Int):(zu k e).size=16:=by unfold zu;rw[nL,aB,fQ,fQ]
def yj (i:ByteArray):ByteArray:=⟨#[110]⟩++i
def yM (i:ByteArray):ByteArray:=⟨#[98]⟩++i
def xq (i s:ByteArray):ByteArray:=⟨#[99]⟩++i++s
theorem zx (i:ByteArray):(yj i).size=i.size+1:=by unfold yj;rw[oU,show (⟨#[110]⟩:ByteArray).size=1 from rfl];omega
theorem D8 (i:ByteArray):(yM i).size=i.size+1:=by unfold yM;rw[oU,show (⟨#[98]⟩:ByteArray).size=1 from rfl];omega
theorem RT.save (h:RT p kv w)(i:ByteArray)(k e:Int)(hi:i.size<=100)(hr:p.room kv (zu k e)):
  Calls Tryz.prog 370 #[.pointer (some ⟨p.x,0,none⟩),.agg #[.string i,.int .i64 k,.int .i64 e]] w fun ex w'=>ex= .returned (.tuple #[])/\RT p (jh kv (yj i) (zu k e)) w'/\Keep (fun g=>¬p.F g) w w':=by
 have s:=aG w (.cells #[.string i,.int .i64 k,.int .i64 e] 246)
 have b:=aH w (.cells #[.string i,.int .i64 k,.int .i64 e] 246)
 obtain⟨a,C⟩:∃a:World,Hid (w.alloc (.cells #[.string i,.int .i64 k,.int .i64 e] 246)=a):=⟨_,ah rfl⟩
 rw[C.out] at s b
 obtain⟨q,E⟩:∃q:Nat,Hid (w.heap.size=q):=⟨_,ah rfl⟩
 rw[E.out] at b
 have e0:a.cell? ⟨q,0,none⟩=some (.string i):=by simp[World.cell?,b]
 have e1:a.cell? ⟨q,1,none⟩=some (.int .i64 k):=by simp[World.cell?,b]
 have e2:a.cell? ⟨q,2,none⟩=some (.int .i64 e):=by simp[World.cell?,b]
 have F:=(aj.1 b).1
 have G:=ah (au h (au hr s))
 have O:=zx i
 have y:∀W:World,(Op.stringOp .add (⟨#[110]⟩:ByteArray) i).run Tryz.prog W= .ok (.string (yj i)) W:=fun W=>iL W _ _ (by show ((1:Nat):Int)<=_;omega) (by omega)
 have X:=ah (show 1<=(yj i).size/\(yj i).size<=128 by omega)
 obtain⟨P,Q⟩:∃P,Hid (yj i=P):=⟨_,ah rfl⟩
 rw[Q.out] at y X ⊢
 clear h hr s b O hi
 go_enter Tryz.func370,Tryz.ntmps370
 go_upto_region 1 with (fail)
 rw[C.out,E.out]
 refine aP (fun W=>Below a.heap.size a W) (fun i=> !([4,7,10,11,12].contains i)) [0,1,2,3,5,6,8,9,4,7,10,11,12] rfl (by kernel_rfl) ((aJ _ a).drew) ?_
 repeat ((refine bE (v:= ?_) rfl rfl (fun _ _ _ h=>h) rfl (fun W z=> ?_) ?_);rotate_left;(focus ((try dsimp only at z);have q0:=(z.cell (p:=⟨q,0,none⟩) F).trans e0;have q1:=(z.cell (p:=⟨q,1,none⟩) F).trans e1;have q2:=(z.cell (p:=⟨q,2,none⟩) F).trans e2;have q6:=aA F z.size;(go_simp;first|done|with_reducible rfl)));(try simp only[Act.put,ak,ay,ax]))
 refine bT rfl rfl rfl ?_;intro K m;go_simp
 have l:=(aG a (.cells #[.pointer none,.slice none 0 0] 580)).drew
 have n:Ay (a.alloc (.cells #[.pointer none,.slice none 0 0] 580)).drew a.heap.size a.heap.size []:=⟨aC _,_,_,.inl rfl,aH a _,aV.nil _ _ _ _ _⟩
 refine m.out _ _ l ?_
 (try simp only[Act.put,ak,ay,ax])
 have t:=l.size
 generalize (a.alloc (.cells #[.pointer none,.slice none 0 0] 580)).drew=w2 at n l t ⊢
 obtain⟨d,c⟩:∃d:Nat,Hid (a.heap.size=d):=⟨_,ah rfl⟩
 rw[c.out] at n t l
 rw[c.out]
 have H:=ah n
 clear n
 refine bT rfl rfl rfl ?_;intro K m;go_simp
 refine(JJ d d _ k w2 H.out t (by simp)).mono ?_;rintro e R ⟨rfl,J,I⟩
 have f:Below d a R:=l.trans I
 have D:d<=R.heap.size:=aI (eO c.out.symm) f.size
 refine m.out _ _ f ?_
 (try simp only[Act.put,ak,ay,ax])
 refine bT rfl rfl rfl ?_;intro K m;go_simp
 refine(JJ d d _ e R J D (by simp[fQ])).mono ?_;rintro e N ⟨rfl,B,T⟩
 have j:Below d a N:=f.trans T
 have Y:d<=N.heap.size:=aI (eO c.out.symm) j.size
 refine m.out _ _ j ?_
 (try simp only[Act.put,ak,ay,ax])
 rw[oG] at B
 refine bT rfl rfl rfl ?_;intro K m;go_simp
 refine(KP d d _ N B (by intro x;have:=congrArg List.length x;rw[aB,fQ] at this;simp at this)).mono ?_;rintro e Z ⟨rfl,M⟩
 have o:Below d a Z:=j.trans M
 refine m.out _ _ o ?_
 (try simp only[Act.put,ak,ay,ax])
 have r:Below w.heap.size w Z:=G.out.2.2.trans (Below.mono (by rw[c.out] at*;exact o) (by have:=G.out.2.2.size;have:=c.out;omega))
 have A:=(G.out.1.below r).put P (zu k e) X.out G.out.2.1
 unfold zu strOf at A
 refine jR rfl rfl rfl (by kernel_rfl) ?_;intro K m;go_simp
 refine A.mono ?_;rintro e w6 ⟨rfl,S,V⟩
 refine m.out _ _ ?_
 refine bN ?_
 go_end0
 refine⟨rfl,S,(Keep.of_below r (fun g=>¬p.F g)).trans V (fun _ _ e=>e)⟩
structure ND where
 i:ByteArray
 k:Int
 e:Int
def nd0:ND:=⟨⟨#[]⟩,0,0⟩
def qw:ND:=⟨⟨#[0,0,0,0]⟩,2,0⟩
def ND.row (n:ND):List Value:=[.string n.i,.int .i64 n.k,.int .i64 n.e]
theorem ND.one (n:ND):∀v∈n.row,v.oneCell'=true:=by
 intro v hv
 simp only[ND.row,aW,List.mem_nil_iff,fJ] at hv
 rcases hv with rfl|rfl|rfl<;>rfl
theorem p8:(Tryz.prog.info? 246).map (·.size)=some 3:=by kernel_rfl
theorem kS {w:World}{b:Nat}{n:ND}(h:Row w b 246 n.row):w.cell? ⟨b,0,none⟩=some (.string n.i)/\w.cell? ⟨b,1,none⟩=some (.int .i64 n.k)/\w.cell? ⟨b,2,none⟩=some (.int .i64 n.e)/\w.frozen? ⟨b,0,none⟩=false/\w.frozen? ⟨b,1,none⟩=false/\w.frozen? ⟨b,2,none⟩=false/\b<w.heap.size:=by
 have a:w.heap[b]? =some (.cells #[.string n.i,.int .i64 n.k,.int .i64 n.e] 246 (0,0)):=h
 exact⟨by simp[World.cell?,a],by simp[World.cell?,a],by simp[World.cell?,a],by simp[World.frozen?,a],by simp[World.frozen?,a],by simp[World.frozen?,a],(aj.1 a).1⟩
def Yl (kv:List Pr)(i:ByteArray)(k e:Int):Prop:=dK kv (yj i)=some (zu k e)/\0<=k/\k<1000000/\0<=e/\e<1000000
theorem RT.load (h:RT p kv w)(i:ByteArray)(k e:Int)(hl:kv.length<=4090)(hi:i.size<=100)(N:Yl kv i k e):
  Calls Tryz.prog 212 #[.pointer (some ⟨p.x,0,none⟩),.string i] w fun ex w'=>ex= .returned (.agg #[.string i,.int .i64 k,.int .i64 e])/\Below w.heap.size w w':=by
 obtain⟨N,h1,h2,h3,h4⟩:=N
 have c:=aG w (.cells #[.string ⟨#[]⟩,.int .i64 0,.int .i64 0] 246)
 have l:=aH w (.cells #[.string ⟨#[]⟩,.int .i64 0,.int .i64 0] 246)
 obtain⟨w1,I⟩:∃w1:World,Hid (w.alloc (.cells #[.string ⟨#[]⟩,.int .i64 0,.int .i64 0] 246)=w1):=⟨_,ah rfl⟩
 rw[I.out] at c l
 obtain⟨f,y⟩:∃f:Nat,Hid (w.heap.size=f):=⟨_,ah rfl⟩
 rw[y.out] at l
 have P:=zx i
 have Z:=(h.below c).get (yj i) hl (by omega)
 rw[N] at Z
 have HG:=ah Z
 have B:∀W:World,(Op.stringOp .add (⟨#[110]⟩:ByteArray) i).run Tryz.prog W= .ok (.string (yj i)) W:=fun W=>iL W _ _ (by show ((1:Nat):Int)<=_;omega) (by omega)
 have o:=ah (au c l)
 have HE:=ah (au h1 (au h2 (au h3 h4)))
 obtain⟨ky,V⟩:∃ky,Hid (yj i=ky):=⟨_,ah rfl⟩
 rw[V.out] at B HG
 clear h N c l P Z h1 h2 h3 h4 hi
 go_enter Tryz.func212,Tryz.ntmps212
 go_upto_region 1 with (fail)
 rw[I.out,y.out]
 go_wp2_with (first
  |(go_at_call 133;go_must (refine HG.out.mono ?_;rintro e r ⟨rfl,x⟩;refine Stop.of ?_)))
 refine Stop.on ?_
 have v:=(x.block f (aj.1 o.out.2).1).trans o.out.2
 have q:Below w.heap.size w r:=o.out.1.trans (x.mono o.out.1.size)
 have s:=(aj.1 v).1
 obtain⟨T,t⟩:∃T,Hid (zu k e=T):=⟨_,ah rfl⟩
 have m:wz (r.alloc (.cells #[.string (zu k e),.bool false] 254)) r.heap.size (kR k++kR e):=aH r _
 have a:=aG r (.cells #[.string (zu k e),.bool false] 254)
 obtain⟨z,n⟩:∃z:Nat,Hid (r.heap.size=z):=⟨_,ah rfl⟩
 have j:=(a.block f s).trans v
 rw[n.out,t.out] at m
 rw[t.out] at j a
 simp only[t.out]
 obtain⟨O,A⟩:∃O:World,Hid (r.alloc (.cells #[.string T,.bool false] 254)=O):=⟨_,ah rfl⟩
 rw[A.out] at m j a
 have M:=JH z k (kR e) O m (by have:=HE.out;omega)
 have R:=ah M
 have d:=ah (au q (au a (au j s)))
 clear x v q s m a j M
 go_upto_region 3 with (fail)
 rw[A.out,n.out]
 go_wp2_with (first
  |(go_at_call 134;go_must (refine R.out.mono ?_;rintro e' w4 ⟨rfl,E,J⟩;refine Stop.of ?_)))
 refine Stop.on ?_
 have D:=JH z e [] w4 (by rw[dV];exact E) (by have:=HE.out;omega)
 have C:=ah (au D J)
 clear D E J
 go_wp2_with (first
  |(go_at_call 134;go_must (refine C.out.1.mono ?_;rintro e' S ⟨rfl,_,G⟩;refine Stop.of ?_)))
 refine Stop.on ?_
 have Q:¬f=z:=by have:=d.out.2.2.2;have:=n.out;omega
 have b:Keep (· =z) O S:=C.out.2.trans G (fun _ _ e=>e)
 have X:Row S f 246 nd0.row:=(b.block f (aj.1 d.out.2.2.1).1 Q).trans d.out.2.2.1
 have H:Below w.heap.size w S:=(d.out.1.trans (d.out.2.1.mono d.out.1.size)).trans (b.fw (aI d.out.1.size d.out.2.1.size) fun g hg e=>by have:=d.out.1.size;have:=n.out;omega)
 have F:=ah H
 clear b H G
 go_wp2_with (first
  |((refine bS rfl ?_);intro K hK;(refine wp_store_row 246 (.tmp 4) (.tmp 23) rfl f 0 246 _ (ND.row ⟨i,k,e⟩) rfl rfl X p8 (aC 3) (ND.one ⟨i,k,e⟩) ?_);intro w6 pV Y;refine hK _ _ ?_))
 refine dJ (qU rfl _ w6 f 246 _ (0,0) _ rfl pV IU rfl (by kernel_rfl)) rfl ?_
 exact⟨rfl,F.out.trans (Y.fw F.out.size fun g hg e=>by have:=y.out;omega)⟩
end
def wJ (kv:List Pr):List ByteArray->ND->ND->Prop
 |[],n,m=>m=n
 |s::r,n,m=>s.size<=64/\((dK kv (xq n.i s)=none/\m=nd0)\/(n.k=2/\∃o:ND,dK kv (xq n.i s)=some o.i/\o.i.size<=4/\Yl kv o.i o.k o.e/\wJ kv r o m))
section
variable {p:TP} {kv:List Pr} {w:World}
theorem RT.find (h:RT p kv w)(pv:Value)(a:List ByteArray)(S:Nat->Prop)(hp:pK w S pv a)(m:ND)(hl:kv.length<=4090)(k:wJ kv a qw m):
  Calls Tryz.prog 131 #[.pointer (some ⟨p.x,0,none⟩),pv] w fun ex w'=>ex= .returned (.agg #[.string m.i,.int .i64 m.k,.int .i64 m.e])/\Below w.heap.size w w':=by
 obtain⟨po,pc,rfl,d9,dM,_,_⟩:=jP.form hp
 have y:=aG w (.cells #[.string ⟨#[]⟩,.int .i64 0,.int .i64 0] 246)
 have f:=aH w (.cells #[.string ⟨#[]⟩,.int .i64 0,.int .i64 0] 246)
 obtain⟨w1,Y⟩:∃w1:World,Hid (w.alloc (.cells #[.string ⟨#[]⟩,.int .i64 0,.int .i64 0] 246)=w1):=⟨_,ah rfl⟩
 have N:w1.heap.size=w.heap.size+1:=by rw[<-Y.out];simp
 rw[Y.out] at y f
 have D:=aG w1 (.cells #[.string ⟨#[0,0,0,0]⟩,.int .i64 2,.int .i64 0] 246)
 have q:=aH w1 (.cells #[.string ⟨#[0,0,0,0]⟩,.int .i64 2,.int .i64 0] 246)
 obtain⟨w2,qc⟩:∃w2:World,Hid (w1.alloc (.cells #[.string ⟨#[0,0,0,0]⟩,.int .i64 2,.int .i64 0] 246)=w2):=⟨_,ah rfl⟩
 rw[qc.out] at D q
 obtain⟨c,t⟩:∃c:Nat,Hid (w.heap.size=c):=⟨_,ah rfl⟩
 obtain⟨s,V⟩:∃s:Nat,Hid (c+1=s):=⟨_,ah rfl⟩
 rw[N,t.out,V.out] at q
 rw[t.out] at f
 have af:Row w2 c 246 nd0.row:=(D.block c (aj.1 f).1).trans f
 have qC:Row w2 s 246 qw.row:=q
 have I:Below w.heap.size w w2:=y.trans (D.mono y.size)
 have z:=ah (au h (au hp (au hl (show w.heap.size<=c/\w.heap.size<=s/\c≠s by have:=t.out;have:=V.out;omega))))
 have HS:=ah (au af (au qC (au I k)))
 have bf:=ah N
 clear h hp hl k y D f q N af qC I
 go_enter Tryz.func131,Tryz.ntmps131
 go_upto_region 1 with (fail)
 rw[Y.out,t.out]
 go_upto_region 2 with (fail)
 rw[bf.out,t.out,V.out,qc.out]
 go_upto_region 3 with (fail)
 go_loopw [7,8,9,13] (fun _ _ _ i wr=>∃(j:Nat) (n:ND),j<=a.length/\i= .int .i64 j/\wJ kv (a.drop j) n m/\n.i.size<=4/\Row wr s 246 n.row/\Row wr c 246 nd0.row/\Below w.heap.size w wr) (fun _ _ _ i _=>a.length - (intOf i).toNat)
 case atStart=>exact⟨0,qw,aR _,rfl,HS.out.2.2.2,by decide,HS.out.2.1,HS.out.1,HS.out.2.2.1⟩
 case round=>
  obtain⟨j,n,hj,rfl,k,P,hN,hR,l⟩:=hrel
  obtain⟨c0,c1,c2,f0,f1,f2,ln⟩:=kS hN
  by_cases q9:j<a.length
  ·have dn:(j:Int)<(a.length:Int):=by omega
   obtain⟨ga,oa,rfl,da⟩:=jP.Cq (jP.below z.out.2.1 l) rfl j (.string a[j]) (by rw[dL,bB q9];rfl)
   have la:=aD wr _ da
   have Z:a.drop j=a[j]::a.drop (j+1):=dB q9
   rw[Z] at k
   obtain⟨J,di⟩:∃J,Hid (a[j]=J):=⟨_,ah rfl⟩
   rw[di.out] at da k
   obtain⟨G,k⟩:=k
   have X:(⟨#[99]⟩:ByteArray).size=1:=rfl
   have bg:∀W:World,(Op.stringOp .add (⟨#[99]⟩:ByteArray) n.i).run Tryz.prog W= .ok (.string (⟨#[99]⟩++n.i)) W:=fun W=>iL W _ _ (by show ((1:Nat):Int)<=_;omega) (by omega)
   have B:((⟨#[99]⟩:ByteArray)++n.i).size=n.i.size+1:=by rw[oU,X];omega
   have ql:∀W:World,(Op.stringOp .add ((⟨#[99]⟩:ByteArray)++n.i) J).run Tryz.prog W= .ok (.string (xq n.i J)) W:=fun W=>iL W _ _ (by rw[B];omega) (by omega)
   have q8:(xq n.i J).size=n.i.size+1+J.size:=by unfold xq;rw[oU,B]
   have O:=(z.out.1.below l).get (xq n.i J) z.out.2.2.1 (by omega)
   have x:=ah (au hN (au hR l))
   obtain⟨ky,av⟩:∃ky,Hid (xq n.i J=ky):=⟨_,ah rfl⟩
   rw[av.out] at ql k O
   obtain⟨kc,ai⟩:∃kc,Hid ((⟨#[99]⟩:ByteArray)++n.i=kc):=⟨_,ah rfl⟩
   rw[ai.out] at bg ql
   rcases k with ⟨qb,hm⟩|⟨p9,o,H,qo,qy,k⟩
   ·rw[qb] at O
    have HG:=ah O
    have HM:=ah hm
    clear hm qb O q8 X B G P hN hR l Z
    go_wp2_with (first
     |(go_at_call 133;go_must (refine HG.out.mono ?_;rintro e w3 ⟨rfl,d⟩;refine Stop.of ?_)))
    refine Stop.on ?_
    have A:Row w3 c 246 nd0.row:=(d.block c (aj.1 x.out.2.1).1).trans x.out.2.1
    have b:=x.out.2.2.trans (d.mono x.out.2.2.size)
    have qO:=ah b
    clear c0 c1 c2 f0 f1 f2 ln da la d b
    go_wp2_with (first
     |((refine bS rfl ?_);intro K hK;(refine wp_store_row 246 (.tmp 4) (.tmp 34) rfl c 0 246 _ nd0.row rfl rfl A p8 (aC 3) nd0.one ?_);intro w4 M Q;refine hK _ _ ?_))
    refine dJ (qU rfl _ w4 c 246 _ (0,0) _ rfl M IU rfl (by kernel_rfl)) rfl ?_
    rw[HM.out]
    exact⟨rfl,qO.out.trans (Q.fw qO.out.size fun g hg e=>by have:=z.out.2.2.2.1;omega)⟩
   ·rw[H] at O
    have HG:=ah O
    have HF:=ah (au k (au qo qy))
    clear k H O q8 X B G P hN hR l Z qo qy
    rw[p9] at c1
    go_wp2_with (first
     |(go_at_call 133;go_must (refine HG.out.mono ?_;rintro e w3 ⟨rfl,d⟩;refine Stop.of ?_)))
    refine Stop.on ?_
    have R:Row w3 s 246 n.row:=(d.block s (aj.1 x.out.1).1).trans x.out.1
    have A:Row w3 c 246 nd0.row:=(d.block c (aj.1 x.out.2.1).1).trans x.out.2.1
    have b:=x.out.2.2.trans (d.mono x.out.2.2.size)
    have hL:=(z.out.1.below b).load o.i o.k o.e z.out.2.2.1 (by have:=HF.out.2.1;omega) HF.out.2.2
    have r:=ah (au R (au A b))
    have HL:=ah hL
    clear c0 c1 c2 f0 f1 f2 ln da la d b A hL
    obtain⟨c0,c1,c2,f0,f1,f2,ln⟩:=kS R
    rw[p9] at c1
    clear R
    go_wp2_with (first
     |(go_at_call 212;go_must (refine HL.out.mono ?_;rintro e w4 ⟨rfl,E⟩;refine Stop.of ?_)))
    refine Stop.on ?_
    have qf:Row w4 s 246 n.row:=(E.block s (aj.1 r.out.1).1).trans r.out.1
    have qm:Row w4 c 246 nd0.row:=(E.block c (aj.1 r.out.2.1).1).trans r.out.2.1
    have C:=ah (au qm (r.out.2.2.trans (E.mono r.out.2.2.size)))
    clear c0 c1 c2 f0 f1 f2 ln E qm
    go_wp2_with (first
     |((refine bS rfl ?_);intro K hK;(refine wp_store_row 246 (.tmp 5) (.tmp 37) rfl s 0 246 _ o.row rfl rfl qf p8 (aC 3) o.one ?_);intro w5 pV T;refine hK _ _ ?_))
    have F:Row w5 s 246 o.row/\Row w5 c 246 nd0.row/\Below w.heap.size w w5:=
     ⟨pV,(T.block c (aj.1 C.out.1).1 z.out.2.2.2.2.2).trans C.out.1,C.out.2.trans (T.fw C.out.2.size fun g hg e=>by have:=z.out.2.2.2.2.1;omega)⟩
    have v:=ah F
    clear F pV T qf
    go_wp2_with fail
    go_roundw
    case rel=>exact⟨j+1,o,by omega,by go_num,HF.out.1,HF.out.2.1,v.out.1,v.out.2.1,v.out.2.2⟩
    case measure=>simp[intOf];omega
  ·obtain rfl:j=a.length:=by omega
   have x2:¬(a.length:Int)<(a.length:Int):=by omega
   rw[iP] at k
   have hm:m=n:=k
   subst hm
   have HB:=ah l
   clear k l hN P
   go_wp2_with (first
    |((refine bS rfl ?_);intro K hK;(refine wp_store_row 246 (.tmp 4) (.tmp 39) rfl c 0 246 _ m.row rfl rfl hR p8 (aC 3) m.one ?_);intro w4 M Q;refine hK _ _ ?_))
   refine dJ (qU rfl _ w4 c 246 _ (0,0) _ rfl M IU rfl (by kernel_rfl)) rfl ?_
   exact⟨rfl,HB.out.trans (Q.fw HB.out.size fun g hg e=>by have:=z.out.2.2.2.1;omega)⟩
theorem pK.init {w:World}{S:Nat->Prop}{a:Option Addr}{b:Nat}{path:List ByteArray}(h:pK w S (.slice a path.length b) path):pK w S (.slice a (path.length - 1) b) path.dropLast:=by
 have c:=jP.upto h (path.length - 1) (by omega)
 rw[eY,<-iG,<-List.dropLast_eq_take] at c
 have e:path.dropLast.length=path.length - 1:=List.length_dropLast
 unfold pK
 rw[e]
 exact c
theorem RT.Va (h:RT p [] w)(Y:Option Addr)(s:ByteArray)(R:Nat)(S:Nat->Prop)(P:pK w S (.slice Y 1 R) [s]):
  Calls Tryz.prog 365 #[.pointer (some ⟨p.x,0,none⟩),.slice Y 1 R] w fun ex w'=>ex= .returned (.agg #[.string ⟨#[0,0,0,0]⟩,.int .i64 2,.int .i64 0])/\Below w.heap.size w w':=by
 have i:=aG w (.cells #[.string ⟨#[]⟩,.int .i64 0,.int .i64 0] 246)
 have o:=aH w (.cells #[.string ⟨#[]⟩,.int .i64 0,.int .i64 0] 246)
 obtain⟨N,G⟩:∃N:World,Hid (w.alloc (.cells #[.string ⟨#[]⟩,.int .i64 0,.int .i64 0] 246)=N):=⟨_,ah rfl⟩
 rw[G.out] at i o
 have E:=Oy Y [s] R S N (jP.below P i) (by simp)
 have Z:=ah E
 have B:=pK.init (path:=[s]) P
 have m:=ah (au h (au B (au i o)))
 clear h P i o E B
 obtain⟨F,r⟩:∃F:Nat,Hid (w.heap.size=F):=⟨_,ah rfl⟩
 go_enter Tryz.func365,Tryz.ntmps365
 go_upto_region 1 with (fail)
 rw[G.out,r.out]
 go_wp2_with (first
  |(go_at_call 366;go_must (refine Z.out.mono ?_;rintro e w2 ⟨rfl,x⟩;refine Stop.of ?_)))
 refine Stop.on ?_
 have a:=m.out.2.2.1.trans (x.mono m.out.2.2.1.size)
 have hf:=(m.out.1.below a).find _ _ _ (jP.below m.out.2.1 a) qw (by simp) (show wJ [] [] qw qw from rfl)
 have C:=(x.block _ (aj.1 m.out.2.2.2).1).trans m.out.2.2.2
 have k:=ah (au a C)
 have HF:=ah hf
 clear x a hf C
 go_wp2_with (first
  |(go_at_call 131;go_must (refine HF.out.mono ?_;rintro e M ⟨rfl,l⟩;refine Stop.of ?_)))
 refine Stop.on ?_
 have t:=aG M (.cells #[.string qw.i,.int .i64 qw.k,.int .i64 qw.e] 246)
 have f:=aH M (.cells #[.string qw.i,.int .i64 qw.k,.int .i64 qw.e] 246)
 obtain⟨w4,v⟩:∃w4:World,Hid (M.alloc (.cells #[.string qw.i,.int .i64 qw.k,.int .i64 qw.e] 246)=w4):=⟨_,ah rfl⟩
 rw[v.out] at t f
 obtain⟨O,I⟩:∃O:Nat,Hid (M.heap.size=O):=⟨_,ah rfl⟩
 have d:=l.trans (t.mono l.size)
 have c:=k.out.1.trans (d.mono k.out.1.size)
 have q:=(d.block _ (aj.1 k.out.2).1).trans k.out.2
 rw[r.out] at q
 have hu:=(m.out.1.below c).UB (⟨#[99]⟩++⟨#[0,0,0,0]⟩)
 rw[I.out] at f
 obtain⟨A,y,z,f0,f1,f2,ln⟩:=kS (n:=qw) f
 have HU:=ah hu
 have b:=ah (au c (au q f))
 have T:∀W:World,(Op.stringOp .add (⟨#[99]⟩:ByteArray) ⟨#[0,0,0,0]⟩).run Tryz.prog W= .ok (.string (⟨#[99]⟩++⟨#[0,0,0,0]⟩)) W:=fun W=>iL W _ _ (by decide) (by decide)
 obtain⟨ky,X⟩:∃ky,Hid ((⟨#[99]⟩:ByteArray)++⟨#[0,0,0,0]⟩=ky):=⟨_,ah rfl⟩
 rw[X.out] at HU T
 unfold qw at A y z
 dsimp only at A y z
 clear l t f d c q hu
 go_upto_region 3 with (fail)
 rw[show qw.i=⟨#[0,0,0,0]⟩ from rfl,show qw.k=2 from rfl,show qw.e=0 from rfl] at v
 rw[show qw.i=⟨#[0,0,0,0]⟩ from rfl,show qw.k=2 from rfl,show qw.e=0 from rfl,v.out,I.out]
 go_wp2_with (first
  |(go_at_call 361;go_must (refine(xN _ _).mono ?_;rintro e J ⟨rfl,qc⟩;subst J))
  |(go_at_call 211;go_must (refine HU.out.mono ?_;rintro e J ⟨rfl,j⟩;refine Stop.of ?_)))
 refine Stop.on ?_
 have Q:Row J F 246 nd0.row:=(j.block _ (aj.1 b.out.2.1).1).trans b.out.2.1
 have H:Row J O 246 qw.row:=(j.block _ (aj.1 b.out.2.2).1).trans b.out.2.2
 have D:=ah (b.out.1.trans (j.mono b.out.1.size))
 clear A y z f0 f1 f2 ln j
 obtain⟨A,y,z,f0,f1,f2,ln⟩:=kS H
 unfold qw at A y z
 dsimp only at A y z
 clear H
 go_wp2_with (first
  |(go_at_call 361;go_must (refine(xN _ _).mono ?_;rintro e V ⟨rfl,qb⟩;subst V))
  |((refine bS rfl ?_);intro K hK;(refine wp_store_row 246 (.tmp 4) (.tmp 28) rfl F 0 246 _ qw.row rfl rfl Q p8 (aC 3) qw.one ?_);intro V p9 pV;refine hK _ _ ?_))
 refine dJ (qU rfl _ V F 246 _ (0,0) _ rfl p9 IU rfl (by kernel_rfl)) rfl ?_
 exact⟨rfl,D.out.trans (pV.fw D.out.size fun g hg e=>by have:=r.out;omega)⟩
end
theorem Jf (f:Nat)(w:World):
  CallsD Tryz.prog 209 #[.pointer (some ⟨f,0,none⟩)] .returning w fun e d w'=>e= .returned (.tuple #[])/\d= .returning/\Below w.heap.size w w':=by
 refine xD Tryz.func209 rfl fun a g c=> ?_
 apply vK
 apply nI
 have b:∀w:World,(Instr.typeAssert Value.nilIface 20 354 true).run Tryz.prog w= .ok (.tuple #[.agg #[.int .i64 0],.bool false]) w:=fun _=>by kernel_rfl
 simp[wpOpsS,go_sem,recoverD,c,Tryz.ntmps209,Exit.thenS,b,Array.replicate,List.replicate]
 apply vK
 apply nI
 simp[wpOpsS,go_sem,Exit.thenS]
 refine wpS_cond (t:=false) (by simp[Act.eval]) ?_
 simp only[rV,if_false]
 refine IE (wp_skip ?_)
 cases a
 simp_all [bodyPostS,results,Tryz.results209]
 exact aG _ _
theorem Jg (a:Nat)(n o:Int)(w:World)(k:w.heap[a]? =some (.cells #[.int .i64 o] 26 (0,0))):
  CallsD Tryz.prog 209 #[.pointer (some ⟨a,0,none⟩)] (.panicking (Rp n)) w fun e q w'=>e= .returned (.tuple #[])/\settle q= .returning/\w'.cell? ⟨a,0,none⟩=some (.int .i64 n)/\Keep (· =a) w w':=by
 refine xD Tryz.func209 rfl fun l A r=> ?_
 apply vK
 apply nI
 have j:∀w:World,(Instr.typeAssert (.iface 354 (.agg #[.int .i64 n])) 20 354 true).run Tryz.prog w= .ok (.tuple #[.agg #[.int .i64 n],.bool true]) w:=fun _=>by kernel_rfl
 simp[wpOpsS,go_sem,recoverD,r,Rp,Tryz.ntmps209,Exit.thenS,j,Array.replicate,List.replicate]
 have i:=(aj.1 k).1
 have d:=aG w (.cells #[.int .i64 n] 354)
 have f:=aH w (.cells #[.int .i64 n] 354)
 obtain⟨c,g⟩:∃c:World,Hid (w.alloc (.cells #[.int .i64 n] 354)=c):=⟨_,ah rfl⟩
 rw[g.out] at d f
 rw[g.out]
 have x:c.cell? ⟨w.heap.size,0,none⟩=some (.int .i64 n):=by simp[World.cell?,f]
 have v:w.heap.size<c.heap.size:=(aj.1 f).1
 have b:=(d.block a i).trans k
 have m:=(aj.1 b).1
 have z:c.cell? ⟨a,0,none⟩=some (.int .i64 o):=by simp[World.cell?,b]
 have y:c.frozen? ⟨a,0,none⟩=false:=by simp[World.frozen?,b]
 apply vK
 apply nI
 simp[wpOpsS,go_sem,Exit.thenS]
 refine wpS_cond (t:=true) (by simp[Act.eval]) ?_
 simp only[jQ]
 refine IE ?_
 go_wp2
 have s:Keep (· =a) c (c.setCell ⟨a,0,none⟩ (.int .i64 n)):=(Keep.refl (· =a) _).setCell (p:=⟨a,0,none⟩) (.inr rfl) _
 refine⟨rfl,_,rfl,_,?_,rfl,rfl,?_,?_⟩
 ·simp[results,Tryz.results209,go_sem]
 ·simp[World.setCell,World.cell?,aK,b]
 ·exact(Keep.of_below d (· =a)).trans s (fun _ _ e=>e)
theorem WC (x g:Nat)(O:Array Value)(pb:Nat)(pv:Value)(c:List ByteArray)(S:Nat->Prop)(w:World)(R:World->Prop)(W:Int->World->Prop)
  (pV:∀args w,(callFunc g args).run Tryz.prog w= .ok (.enter g args) w) (B:w.heap[pb]? =some (.cells #[pv] 146 (0,0))) (G:pK w S pv c) (T:∀s∈c,s.size<=9223372036854775807) (Z:kg w) (Y:su c=true)
  (V:∀d:World,Below w.heap.size w d->d.heap[w.heap.size]? =some (.cells #[.int .i64 0] 26 (0,0))->Calls Tryz.prog g O d fun e w'=>w'.heap[w.heap.size]? =some (.cells #[.int .i64 0] 26 (0,0))/\((e= .returned (.tuple #[])/\R w')\/(∃n,e= .panicked (Rp n)/\W n w'))):
  Calls Tryz.prog 128 #[.pointer (some ⟨x,0,none⟩),.func (.func g) #[] O,.slice (some ⟨pb,0,none⟩) 1 1] w fun e w'=>
   (e= .returned (.int .i64 0)/\∃d,R d/\Keep (· =w.heap.size) d w')\/(∃n,e= .returned (.int .i64 n)/\∃d,W n d/\Keep (· =w.heap.size) d w'):=by
 have p9:∀(fn:Fn) (first cap:Array Value) (w:World),(Instr.makeFunc fn first cap).run Tryz.prog w= .ok (.func fn first cap) w:=fun _ _ _ _=>rfl
 obtain⟨po,pc,rfl,_,_,_,_⟩:=jP.form G
 have q:=aG w (.cells #[.int .i64 0] 26)
 have m:=aH w (.cells #[.int .i64 0] 26)
 obtain⟨d,D⟩:∃d:World,Hid (w.alloc (.cells #[.int .i64 0] 26)=d):=⟨_,ah rfl⟩
 rw[D.out] at q m
 have HF:=ah V
 obtain⟨b,t⟩:∃b:Nat,Hid (w.heap.size=b):=⟨_,ah rfl⟩
 rw[t.out] at m HF ⊢
 have k:=ah (au q (au m (au B (au G (au T Z)))))
 have HG:=ah Y
 clear V q m B G T Z Y
 go_enter_defers Tryz.func128,Tryz.ntmps128
 go_upto_region 1 with (fail)
 rw[D.out,t.out]
 go_upto_region 4 with (fail)
 go_loopw [8,13] (fun _ i wr=>(i= .int .i64 0\/i= .int .i64 1)/\Below d.heap.size d wr) (fun _ i _=>1 - (intOf i).toNat)
 case atStart=>exact⟨.inl rfl,aJ _ _⟩
 case round=>
  obtain⟨hi,j⟩:=hrel
  rcases hi with rfl|rfl
  ·have a:=k.out.1.trans (j.mono k.out.1.size)
   have N:=(a.block pb (aj.1 k.out.2.2.1).1).trans k.out.2.2.1
   have c0:wr.cell? ⟨pb,0,none⟩=some (.slice po c.length pc):=by simp[World.cell?,N]
   have lp:=(aj.1 N).1
   have r:=Ov _ c S wr (jP.below k.out.2.2.2.1 a) k.out.2.2.2.2.1 (k.out.2.2.2.2.2.below a)
   rw[HG.out] at r
   have J:=ah r
   have v:=ah j
   clear r j a N
   go_wp2_with (first
    |(go_at_call 208;go_must (refine J.out.mono ?_;rintro e w3 ⟨rfl,z⟩)))
   have I:=ah (v.out.trans (z.mono v.out.size))
   clear z
   go_roundw
   case rel=>exact⟨.inr (by go_num),I.out⟩
   case measure=>simp[intOf]
  ·have a:=k.out.1.trans (j.mono k.out.1.size)
   have Q:=(j.block b (aj.1 k.out.2.1).1).trans k.out.2.1
   have Hf:=ah (HF.out wr (by rw[<-t.out];exact a) Q)
   clear j a Q
   go_wp2_with (refine Hf.out.mono ?_;rintro e l ⟨C,(⟨rfl,hR⟩|⟨n,rfl,H⟩)⟩<;>refine Stop.of ?_)
   ·have r0:l.cell? ⟨b,0,none⟩=some (.int .i64 0):=by simp[World.cell?,C]
    have r1:l.frozen? ⟨b,0,none⟩=false:=by simp[World.frozen?,C]
    have r2:=(aj.1 C).1
    refine Stop.on ?_
    go_wp2_with fail
    have E:Keep (· =b) l (l.setCell ⟨b,0,none⟩ (.int .i64 0)):=Keep.setCell (M:=(· =b)) (p:=⟨b,0,none⟩) (Keep.refl _ _) (.inr rfl) _
    have F:(l.setCell ⟨b,0,none⟩ (.int .i64 0)).cell? ⟨b,0,none⟩=some (.int .i64 0):=by simp[World.setCell,World.cell?,aK,C]
    have A:b<(l.setCell ⟨b,0,none⟩ (.int .i64 0)).heap.size:=aA r2 E.size
    generalize l.setCell ⟨b,0,none⟩ (.int .i64 0)=w5 at*
    refine fe (f:=209) (args:=#[.pointer (some ⟨b,0,none⟩)]) (by simp) (by simp[go_sem]) ?_
    refine(Jf b w5).mono ?_
    rintro e X o ⟨rfl,rfl,P⟩
    have K:o.cell? ⟨b,0,none⟩=some (.int .i64 0):=(P.cell (p:=⟨b,0,none⟩) A).trans F
    have y:Keep (· =b) l o:=E.trans (Keep.of_below P (fun _=>False)) (fun _ _ h=>h.elim)
    refine⟨_,?_,.inl ⟨rfl,l,hR,y⟩⟩
    simp[results,Tryz.results128,go_sem,K]
   ·refine Stop.on ?_
    refine fe (f:=209) (args:=#[.pointer (some ⟨b,0,none⟩)]) (by simp) (by simp[go_sem]) ?_
    refine(Jg b n 0 l C).mono ?_
    rintro e X o ⟨rfl,hu,K,E⟩
    show Leaves _ _ _ _ [] (settle X) o
    rw[hu]
    refine⟨_,?_,.inr ⟨n,rfl,l,H,E⟩⟩
    simp[results,Tryz.results128,go_sem,K]
structure uD (x bb tb pb mb:Nat)(body:ByteArray)(pv:Value)(made:Bool)(w:World):Prop where
 body:w.heap[bb]? =some (.cells #[.string body] 9 (0,0))
 tree:w.heap[tb]? =some (.cells #[.pointer (some ⟨x,0,none⟩)] 136 (0,0))
 path:w.heap[pb]? =some (.cells #[pv] 146 (0,0))
 made:w.heap[mb]? =some (.cells #[.bool made] 4 (0,0))
section
variable {x bb tb pb mb:Nat} {body:ByteArray} {pv:Value} {made:Bool} {w w':World} {M F:Nat->Prop}
theorem uD.keep (h:uD x bb tb pb mb body pv made w)(a:Keep M w w')(c:¬M bb)(d:¬M tb)(b:¬M pb)(e:¬M mb):uD x bb tb pb mb body pv made w':=
 ⟨(a.block _ (aj.1 h.body).1 c).trans h.body,(a.block _ (aj.1 h.tree).1 d).trans h.tree,(a.block _ (aj.1 h.path).1 b).trans h.path,(a.block _ (aj.1 h.made).1 e).trans h.made⟩
theorem uD.below (h:uD x bb tb pb mb body pv made w)(a:Below w.heap.size w w'):uD x bb tb pb mb body pv made w':=h.keep (Keep.of_below a (fun _=>False)) id id id id
theorem uD.stay (h:uD x bb tb pb mb body pv made w)(b:Keep (fun g=>¬F g) w w')(a:F bb/\F tb/\F pb/\F mb):uD x bb tb pb mb body pv made w':=h.keep b (fun e=>e a.1) (fun e=>e a.2.1) (fun e=>e a.2.2.1) (fun e=>e a.2.2.2)
theorem uD.cells (h:uD x bb tb pb mb body pv made w):w.cell? ⟨bb,0,none⟩=some (.string body)/\w.cell? ⟨tb,0,none⟩=some (.pointer (some ⟨x,0,none⟩))/\w.cell? ⟨pb,0,none⟩=some pv/\w.cell? ⟨mb,0,none⟩=some (.bool made)/\w.frozen? ⟨mb,0,none⟩=false/\bb<w.heap.size/\tb<w.heap.size/\pb<w.heap.size/\mb<w.heap.size:=by
 obtain⟨c,d,b,a⟩:=h
 exact⟨by simp[World.cell?,c],by simp[World.cell?,d],by simp[World.cell?,b],by simp[World.cell?,a],by simp[World.frozen?,a],(aj.1 c).1,(aj.1 d).1,(aj.1 b).1,(aj.1 a).1⟩
theorem uD.set (h:uD x bb tb pb mb body pv made w)(a:mb≠bb/\mb≠tb/\mb≠pb)(b:Bool):uD x bb tb pb mb body pv b (w.setCell ⟨mb,0,none⟩ (.bool b))/\Keep (· =mb) w (w.setCell ⟨mb,0,none⟩ (.bool b)):=by
 have c:Keep (· =mb) w (w.setCell ⟨mb,0,none⟩ (.bool b)):=(Keep.refl (· =mb) _).setCell (p:=⟨mb,0,none⟩) (.inr rfl) _
 exact⟨⟨(c.block _ (aj.1 h.body).1 (fun e=>a.1 e.symm)).trans h.body,(c.block _ (aj.1 h.tree).1 (fun e=>a.2.1 e.symm)).trans h.tree,(c.block _ (aj.1 h.path).1 (fun e=>a.2.2 e.symm)).trans h.path,by simp[World.setCell,aK,h.made]⟩,c⟩
end
def Gy (kv:List Pr)(i:ByteArray)(e:Int)(body:ByteArray):List Pr:=jh (jh (jh kv ⟨#[101]⟩ (strOf (kR e))) (yj i) (zu 1 e)) (yM i) body
def wE (kv:List Pr)(s:ByteArray):List Pr:=jh (jh kv ⟨#[105]⟩ (strOf (kR 1))) (xq qw.i s) id1
theorem TP.rm.le {p:TP}{kv:List Pr}{k:Nat}(h:p.rm kv k):kv.length<=4090:=by have:=h.1;omega
theorem yg (n:Int):(strOf (kR n)).size<=63:=by rw[nL,fQ];omega
section
variable {p:TP} {kv:List Pr} {w:World}
theorem O7 (bb tb pb mb:Nat)(body:ByteArray)(pv:Value)(s:ByteArray)(S:Nat->Prop)(h:RT p [] w)(hc:uD p.x bb tb pb mb body pv false w)(hF:p.F bb/\p.F tb/\p.F pb/\p.F mb)(yE:(mb≠bb/\mb≠tb/\mb≠pb)/\p.x≠mb)
  (hp:pK w S pv [s]) (hS:S mb) (hs:s.size<=20) (sN:dK (wE [] s) ⟨#[101]⟩=none) (hr:p.rm [] 5) (hb:body.size<=63):
  Calls Tryz.prog 364 #[.pointer (some ⟨bb,0,none⟩),.pointer (some ⟨tb,0,none⟩),.pointer (some ⟨pb,0,none⟩),.pointer (some ⟨mb,0,none⟩)] w fun ex w'=>ex= .returned (.tuple #[])/\RT p (Gy (wE [] s) id1 1 body) w'/\Keep (fun g=>¬p.F g\/g=mb) w w'/\uD p.x bb tb pb mb body pv true w':=by
 obtain⟨po,pc,mr,_,_,_,_⟩:=jP.form hp
 have mr:pv= .slice po 1 pc:=mr
 subst mr
 obtain⟨q,l,t,y,v,m,k,r,z⟩:=hc.cells
 have hbs:¬(8192:Int)<(body.size:Int):=by omega
 have og:=ah (h.find _ [s] S hp nd0 hr.le ⟨show s.size<=64 by omega,.inl ⟨rfl,rfl⟩⟩)
 have f:=ah (au h (au hc (au hF (au yE hp))))
 have HI:=ah (au (show id1.size<=4 by decide) hb)
 have r9:=ah (au sN hr)
 have qm:=ah hs
 have z8:=ah hS
 clear h hc hF yE hp hS hs sN hr hb
 unfold Gy
 unfold nd0 at og
 dsimp only at og
 go_enter Tryz.func364,Tryz.ntmps364
 go_wp2_with (first
  |(go_at_call 361;go_must (refine(xN _ _).mono ?_;rintro ex w1 ⟨rfl,hw1⟩;subst w1))
  |(go_at_call 131;go_must (refine og.out.mono ?_;rintro ex w1 ⟨rfl,qO⟩;refine Stop.of ?_)))
 refine Stop.on ?_
 have l9:=aG w1 (.cells #[.string ⟨#[]⟩,.int .i64 0,.int .i64 0] 246)
 have Z:=aH w1 (.cells #[.string ⟨#[]⟩,.int .i64 0,.int .i64 0] 246)
 obtain⟨w2,sF⟩:∃w2:World,Hid (w1.alloc (.cells #[.string ⟨#[]⟩,.int .i64 0,.int .i64 0] 246)=w2):=⟨_,ah rfl⟩
 rw[sF.out] at l9 Z
 obtain⟨c,nD⟩:∃c:Nat,Hid (w1.heap.size=c):=⟨_,ah rfl⟩
 have pV:=qO.trans (l9.mono qO.size)
 have ql:=ah (show w.heap.size<=c by have:=qO.size;have:=nD.out;omega)
 rw[nD.out] at Z
 have kC:=f.out.2.1.below pV
 have nY:=ah (au pV (au kC Z))
 clear q l t y v m k r z qO l9 pV
 obtain⟨q,l,t,y,v,m,k,r,z⟩:=kC.cells
 obtain⟨Y,V,X,g0,g1,g2,ln⟩:=kS (n:=nd0) Z
 unfold nd0 at Y V X
 dsimp only at Y V X
 clear kC Z
 go_upto_region 2 with (fail)
 rw[sF.out,nD.out]
 go_upto_region 4 with (first
  |(go_at_call 361;go_must (refine(xN _ _).mono ?_;rintro ex w3 ⟨rfl,vY⟩;subst w3)))
 obtain⟨C,I⟩:=nY.out.2.1.set f.out.2.2.2.1.1 true
 obtain⟨w3,vY⟩:∃w3:World,Hid (w2.setCell ⟨mb,0,none⟩ (.bool true)=w3):=⟨_,ah rfl⟩
 rw[vY.out] at C I ⊢
 have af:Keep (· =mb) w w3:=(Keep.of_below nY.out.1 (· =mb)).trans I (fun _ _ e=>e)
 have j3:c≠mb:=fun e=>absurd (aj.1 f.out.2.1.made).1 (by have:=ql.out;omega)
 have N:Row w3 c 246 nd0.row:=Row.keep (M:=(· =mb)) nY.out.2.2 I j3
 have B:=f.out.1.keep af (fun g e=>by rw[show g=mb from e];exact f.out.2.2.1.2.2.2) f.out.2.2.2.1.2
 have mD:pK w3 S (.slice po 1 pc) [s]:=jP.keep f.out.2.2.2.2 fun g _ hl hn=>⟨af.block g hl (fun e=>hn (by rw[show g=mb from e];exact z8.out)),hn⟩
 have y5:=B.Va po s pc _ mD
 have zA:=ah y5
 have Q:=ah (au C (au N (au af mD)))
 clear q l t y v m k r z Y V X g0 g1 g2 ln I af j3 B N mD y5
 obtain⟨q,l,t,y,v,m,k,r,z⟩:=C.cells
 clear C
 go_wp2_with (first
  |(go_at_call 365;go_must (refine zA.out.mono ?_;rintro ex w4 ⟨rfl,bg⟩;refine Stop.of ?_)))
 refine Stop.on ?_
 have j5:=aG w4 (.cells #[.string ⟨#[0,0,0,0]⟩,.int .i64 2,.int .i64 0] 246)
 have D:=aH w4 (.cells #[.string ⟨#[0,0,0,0]⟩,.int .i64 2,.int .i64 0] 246)
 obtain⟨w5,R⟩:∃w5:World,Hid (w4.alloc (.cells #[.string ⟨#[0,0,0,0]⟩,.int .i64 2,.int .i64 0] 246)=w5):=⟨_,ah rfl⟩
 rw[R.out] at j5 D
 obtain⟨qb,l6⟩:∃qb:Nat,Hid (w4.heap.size=qb):=⟨_,ah rfl⟩
 have A:=bg.trans (j5.mono bg.size)
 have eZ:w3.heap.size<=qb:=by have:=bg.size;have:=l6.out;omega
 have vT:=Q.out.2.1.lt
 have yL:¬c=qb:=by omega
 rw[l6.out] at D
 have P:=Q.out.1.below A
 have jb:Row w5 c 246 nd0.row:=Row.keep (M:=fun _=>False) Q.out.2.1 (Keep.of_below A _) id
 have o5:=Oy po [s] pc S w5 (jP.below Q.out.2.2.2 A) (by simp)
 have zG:=ah o5
 have eH:=Q.out.2.2.1.trans (Keep.of_below A (fun _=>False)) (fun _ _ e=>e.elim)
 have d:=ah (au P (au jb (au eH (au D yL))))
 have vP:=ah (show w.heap.size<=qb from aI Q.out.2.2.1.size eZ)
 clear q l t y v m k r z bg j5 A eZ vT yL jb o5 eH
 obtain⟨q,l,t,y,v,m,k,r,z⟩:=P.cells
 clear P D
 go_upto_region 6 with (fail)
 rw[R.out,l6.out]
 go_wp2_with (first
  |(go_at_call 366;go_must (refine zG.out.mono ?_;rintro ex w6 ⟨rfl,p9⟩;refine Stop.of ?_)))
 refine Stop.on ?_
 have H:=d.out.1.below p9
 have O:Row w6 c 246 nd0.row:=Row.keep (M:=fun _=>False) d.out.2.1 (Keep.of_below p9 _) id
 have nH:Row w6 qb 246 qw.row:=Row.keep (M:=fun _=>False) (cur:=qw.row) d.out.2.2.2.1 (Keep.of_below p9 _) id
 have qf:=d.out.2.2.1.trans (Keep.of_below p9 (fun _=>False)) (fun _ _ e=>e.elim)
 have T:=f.out.1.KW qf (fun g e=>by rw[show g=mb from e];exact f.out.2.2.1.2.2.2) f.out.2.2.2.1.2
 have J:(p.add w w6).rm [] 5:=r9.out.2
 have l5:(p.add w w6).F c:= .inr ⟨ql.out,by have:=O.lt;omega⟩
 have nN:(p.add w w6).F qb:= .inr ⟨vP.out,by have:=nH.lt;omega⟩
 have j:(p.add w w6).x=p.x:=rfl
 have a:=ah (show ∀g,p.F g->(p.add w w6).F g from fun g e=> .inl e)
 obtain⟨p1,tY⟩:∃p1,Hid (p.add w w6=p1):=⟨_,ah rfl⟩
 rw[tY.out] at T J l5 nN j a
 have qc:=ah (show p1.F bb/\p1.F tb/\p1.F pb/\p1.F mb from⟨a.out _ f.out.2.2.1.1,a.out _ f.out.2.2.1.2.1,a.out _ f.out.2.2.1.2.2.1,a.out _ f.out.2.2.1.2.2.2⟩)
 have i:∀(b:Nat) (o:Obj),w.heap[b]? =some o->¬b=c:=fun b o e x=>absurd (aj.1 e).1 (by have:=ql.out;omega)
 have F:=ah (show p1.F c/\¬p1.x=c/\¬bb=c/\¬tb=c/\¬pb=c/\¬mb=c from⟨l5,by rw[j];exact i _ _ f.out.1.obj,i _ _ f.out.2.1.body,i _ _ f.out.2.1.tree,i _ _ f.out.2.1.path,i _ _ f.out.2.1.made⟩)
 have ol:=T.Vz (by simp) rfl (J.room (yg 1))
 rw[j] at ol
 have zT:=ah ol
 have ai:=ah (au nN (au d.out.2.2.2.2 j))
 have rf:=ah (J.ins (yg 1) ⟨#[105]⟩ (by rw[nL,fQ];decide))
 have G:=ah (au H (au O (au nH qf)))
 clear q l t y v m k r z p9 O nH qf T J l5 nN j i ol
 obtain⟨q,l,t,y,v,m,k,r,z⟩:=H.cells
 clear H
 go_wp2_with (first
  |(go_at_call 367;go_must (refine zT.out.mono ?_;rintro ex w7 ⟨rfl,qy,E⟩;refine Stop.of ?_)))
 refine Stop.on ?_
 have y7:=G.out.1.stay E qc.out
 have hn7:=G.out.2.1.keep E (fun e=>e F.out.1)
 have zk:=G.out.2.2.1.keep E (fun e=>e ai.out.1)
 have iO:Keep (fun g=>¬p.F g\/g=mb) w w7:=(G.out.2.2.2.mono (fun _ _ e=> .inr e)).trans E (fun g _ e=> .inl fun x=>e (a.out g x))
 have bf:=ah (au y7 (au zk (au iO qy)))
 clear q l t y v m k r z E y7 zk iO qy
 go_wp2_with (first
  |((refine bS rfl ?_);intro K hK;(refine wp_store_row 246 (.tmp 4) (.tmp 33) rfl c 0 246 _ (ND.row ⟨id1,1,0⟩) rfl rfl hn7 p8 (aC 3) (ND.one ⟨id1,1,0⟩) ?_);intro w8 j4 qC;refine hK _ _ ?_;refine Stop.of ?_))
 refine Stop.on ?_
 have mo:=bf.out.1.keep qC F.out.2.2.1 F.out.2.2.2.1 F.out.2.2.2.2.1 F.out.2.2.2.2.2
 have xK:=bf.out.2.1.keep qC (fun e=>ai.out.2.1 (qh e))
 have d9:Keep (fun g=>¬p.F g\/g=mb) w w8:=bf.out.2.2.1.trans qC (fun g hg e=>absurd hg (by have e:g=c:=e;have:=ql.out;omega))
 have vM:=bf.out.2.2.2.keep qC (fun g e=>by rw[show g=c from e];exact F.out.1) F.out.2.1
 have hz1:(⟨#[99]⟩:ByteArray).size=1:=rfl
 have ko:((⟨#[99]⟩:ByteArray)++⟨#[0,0,0,0]⟩).size=5:=by decide
 have vk:∀W:World,(Op.stringOp .add (⟨#[99]⟩:ByteArray) ⟨#[0,0,0,0]⟩).run Tryz.prog W= .ok (.string (⟨#[99]⟩++⟨#[0,0,0,0]⟩)) W:=fun W=>iL W _ _ (by decide) (by decide)
 have lG:∀W:World,(Op.stringOp .add ((⟨#[99]⟩:ByteArray)++⟨#[0,0,0,0]⟩) s).run Tryz.prog W= .ok (.string (xq qw.i s)) W:=fun W=>iL W _ _ (by rw[ko];decide) (by have:=qm.out;omega)
 have ng:(xq qw.i s).size=5+s.size:=by unfold xq qw;rw[oU,ko]
 have lH:=vM.put (xq qw.i s) id1 (by have:=qm.out;omega) (rf.out.room (by decide))
 rw[ai.out.2.2] at lH
 have vo:=ah lH
 have kD:=ah (au mo (au j4 d9))
 have HR8:=ah (rf.out.ins (value:=id1) (by decide) (xq qw.i s) (by rw[show id1.size=4 from rfl];have:=qm.out;omega))
 obtain⟨q,l,t,y,v,m,k,r,z⟩:=mo.cells
 obtain⟨Y,V,X,g0,g1,g2,ln⟩:=kS j4
 obtain⟨e0,e1,e2,h0,h1,h2,lq⟩:=kS xK
 unfold qw at e0 e1 e2
 dsimp only at e0 e1 e2
 obtain⟨ky,rq⟩:∃ky,Hid (xq qw.i s=ky):=⟨_,ah rfl⟩
 rw[rq.out] at lG vo
 obtain⟨kc,zy⟩:∃kc,Hid ((⟨#[99]⟩:ByteArray)++⟨#[0,0,0,0]⟩=kc):=⟨_,ah rfl⟩
 rw[zy.out] at vk lG
 clear mo j4 xK d9 qC vM hz1 ko ng lH
 go_wp2_with (first
  |(go_at_call 368;go_must (refine vo.out.mono ?_;rintro ex w9 ⟨rfl,B,q9⟩;refine Stop.of ?_)))
 refine Stop.on ?_
 have C:=kD.out.1.stay q9 qc.out
 have N:Row w9 c 246 (ND.row ⟨id1,1,0⟩):=kD.out.2.1.keep q9 (fun e=>e F.out.1)
 have zf:Keep (fun g=>¬p.F g\/g=mb) w w9:=kD.out.2.2.trans q9 (fun g _ e=> .inl fun x=>e (a.out g x))
 have j:=ai.out.2.2
 rw[<-rq.out] at B
 have B:RT p1 (wE [] s) w9:=B
 have oo:p1.rm (wE [] s) 3:=HR8.out
 have dM:Yp (wE [] s) ⟨#[101]⟩ 0:= .inl ⟨r9.out.1,rfl⟩
 have HL:=ah (au dM oo)
 clear q l t y v m k r z Y V X g0 g1 g2 ln e0 e1 e2 h0 h1 h2 lq vk lG q9 oo dM
 obtain⟨q,l,t,y,v,m,k,r,z⟩:=C.cells
 obtain⟨Y,V,X,g0,g1,g2,ln⟩:=kS N
 have qo:=B.count ⟨#[101]⟩ 0 HL.out.2.le ⟨by decide,by decide⟩ HL.out.1 (TP.rm.room HL.out.2 (yg _))
 rw[j,Int.zero_add] at qo
 have zH:=ah qo
 have HY:=ah (au C (au N (au zf j)))
 have HR:=ah (HL.out.2.ins (yg 1) ⟨#[101]⟩ (by rw[nL,fQ];decide))
 clear qo B C N zf j
 go_wp2_with (first
  |(go_at_call 369;go_must (refine zH.out.mono ?_;rintro ex w4 ⟨rfl,oO,q8⟩;refine Stop.of ?_)))
 refine Stop.on ?_
 have nk:=HY.out.1.stay q8 qc.out
 have l7:Row w4 c 246 (ND.row ⟨id1,1,0⟩):=HY.out.2.1.keep q8 (fun e=>e F.out.1)
 have fo:Keep (fun g=>¬p.F g\/g=mb) w w4:=HY.out.2.2.1.trans q8 (fun g _ e=> .inl fun x=>e (a.out g x))
 clear q l t y v m k r z Y V X g0 g1 g2 ln
 obtain⟨Y,V,X,g0,g1,g2,ln⟩:=kS l7
 obtain⟨w5,R⟩:∃w5:World,Hid (w4.setCell ⟨c,2,none⟩ (.int .i64 1)=w5):=⟨_,ah rfl⟩
 have av:Keep (· =c) w4 w5:=by rw[<-R.out];exact(Keep.refl (· =c) _).setCell (p:=⟨c,2,none⟩) (.inr rfl) _
 have D:Row w5 c 246 (ND.row ⟨id1,1,1⟩):=by rw[<-R.out];exact l7.setCell 2 _
 have P:=nk.keep av F.out.2.2.1 F.out.2.2.2.1 F.out.2.2.2.2.1 F.out.2.2.2.2.2
 have vz:=oO.keep av (fun g e=>by rw[show g=c from e];exact F.out.1) F.out.2.1
 have dn:Keep (fun g=>¬p.F g\/g=mb) w w5:=fo.trans av (fun g hg e=>absurd hg (by have e:g=c:=e;have:=ql.out;omega))
 have lg:=vz.save id1 1 1 (by have:=HI.out.1;omega) (HR.out.room (by rw[zq];omega))
 rw[HY.out.2.2.2] at lg
 have HS5:=ah lg
 have d:=ah (au P (au D dn))
 have HR5:=ah (HR.out.ins (value:=zu 1 1) (by rw[zq];omega) (yj id1) (by rw[zq,zx];have:=HI.out.1;omega))
 obtain⟨q,l,t,y,v,m,k,r,z⟩:=nk.cells
 clear oO q8 nk l7 fo av P vz dn lg
 go_upto_region 10 with (fail)
 rw[R.out]
 clear q l t y v m k r z Y V X g0 g1 g2 ln
 obtain⟨q,l,t,y,v,m,k,r,z⟩:=d.out.1.cells
 obtain⟨Y,V,X,g0,g1,g2,ln⟩:=kS D
 clear D
 go_wp2_with (first
  |(go_at_call 370;go_must (refine HS5.out.mono ?_;rintro ex w6 ⟨rfl,T,di⟩;refine Stop.of ?_)))
 refine Stop.on ?_
 have H:=d.out.1.stay di qc.out
 have O:=d.out.2.1.keep di (fun e=>e F.out.1)
 have jv:Keep (fun g=>¬p.F g\/g=mb) w w6:=d.out.2.2.trans di (fun g _ e=> .inl fun x=>e (a.out g x))
 have ng:(yM id1).size=id1.size+1:=D8 id1
 have y8:∀W:World,(Op.stringOp .add (⟨#[98]⟩:ByteArray) id1).run Tryz.prog W= .ok (.string (yM id1)) W:=fun W=>iL W _ _ (by show ((1:Nat):Int)<=_;omega) (by have:=HI.out.1;omega)
 have j6:=T.put (yM id1) body (by have:=HI.out.1;omega) (HR5.out.room HI.out.2)
 rw[HY.out.2.2.2] at j6
 have sW:=ah j6
 have G:=ah (au H jv)
 clear q l t y v m k r z Y V X g0 g1 g2 ln
 obtain⟨q,l,t,y,v,m,k,r,z⟩:=H.cells
 obtain⟨Y,V,X,g0,g1,g2,ln⟩:=kS O
 obtain⟨kz,yB⟩:∃kz,Hid (yM id1=kz):=⟨_,ah rfl⟩
 rw[yB.out] at y8 sW
 clear T di H O jv ng j6
 go_wp2_with (first
  |(go_at_call 368;go_must (refine sW.out.mono ?_;rintro ex w7 ⟨rfl,qy,E⟩)))
 go_end0
 rw[<-yB.out,<-tY.out] at qy
 refine⟨rfl,RT.sub qy (fun _ e=> .inl e) f.out.1.fb,G.out.2.trans E (fun g _ e=> .inl fun x=>e (a.out g x)),G.out.1.stay E qc.out⟩
end
section
variable {p:TP} {kv:List Pr} {w:World}
def rW (kv:List Pr)(m:ND):List Value:=[.int .i64 m.k,.int .i64 (if m.k=1 then(((dK kv (yM m.i)).getD ByteArray.empty).size:Int) else 0),.int .i64 m.e]
theorem zo:(Tryz.prog.info? 319).map (·.size)=some 3:=by kernel_rfl
def Xj:List Value:=[.int .i64 0,.int .i64 0,.int .i64 0]
theorem sj {w:World}{b:Nat}{x y z:Int}(h:Row w b 319 [.int .i64 x,.int .i64 y,.int .i64 z]):w.cell? ⟨b,0,none⟩=some (.int .i64 x)/\w.cell? ⟨b,1,none⟩=some (.int .i64 y)/\w.cell? ⟨b,2,none⟩=some (.int .i64 z)/\w.frozen? ⟨b,0,none⟩=false/\w.frozen? ⟨b,1,none⟩=false/\w.frozen? ⟨b,2,none⟩=false/\b<w.heap.size:=by
 have a:w.heap[b]? =some (.cells #[.int .i64 x,.int .i64 y,.int .i64 z] 319 (0,0)):=h
 exact⟨by simp[World.cell?,a],by simp[World.cell?,a],by simp[World.cell?,a],by simp[World.frozen?,a],by simp[World.frozen?,a],by simp[World.frozen?,a],(aj.1 a).1⟩
theorem Mf (tb pb a:Nat)(pv:Value)(k:List ByteArray)(S:Nat->Prop)(m:ND)(h:RT p kv w)(Q:w.heap[tb]? =some (.cells #[.pointer (some ⟨p.x,0,none⟩)] 136 (0,0)))(r:w.heap[pb]? =some (.cells #[pv] 146 (0,0)))(ho:Row w a 319 Xj)
  (hF:p.F a) (I:a≠tb/\a≠pb/\p.x≠a) (hp:pK w S pv k) (X:kv.length<=4090) (hf:wJ kv k qw m) (hi:m.i.size<=4):
  Calls Tryz.prog 416 #[.pointer (some ⟨tb,0,none⟩),.pointer (some ⟨pb,0,none⟩),.pointer (some ⟨a,0,none⟩)] w fun ex w'=>ex= .returned (.tuple #[])/\Row w' a 319 (rW kv m)/\Keep (· =a) w w':=by
 have p9:=ah (h.find _ k S hp m X hf)
 have c0:w.cell? ⟨tb,0,none⟩=some (.pointer (some ⟨p.x,0,none⟩)):=by simp[World.cell?,Q]
 have c1:w.cell? ⟨pb,0,none⟩=some pv:=by simp[World.cell?,r]
 have l0:=(aj.1 Q).1
 have l1:=(aj.1 r).1
 have f:=ah (au h (au Q (au r (au ho (au hF (au I (au X hi)))))))
 clear h Q r ho hF I hp X hf hi
 go_enter Tryz.func416,Tryz.ntmps416
 go_wp2_with (first
  |(go_at_call 131;go_must (refine p9.out.mono ?_;rintro ex O ⟨rfl,l⟩;refine Stop.of ?_)))
 refine Stop.on ?_
 have y:=aG O (.cells #[.string m.i,.int .i64 m.k,.int .i64 m.e] 246)
 have i:=aH O (.cells #[.string m.i,.int .i64 m.k,.int .i64 m.e] 246)
 obtain⟨R,F⟩:∃R:World,Hid (O.alloc (.cells #[.string m.i,.int .i64 m.k,.int .i64 m.e] 246)=R):=⟨_,ah rfl⟩
 rw[F.out] at y i
 obtain⟨P,z⟩:∃P:Nat,Hid (O.heap.size=P):=⟨_,ah rfl⟩
 have j:=l.trans (y.mono l.size)
 have G:¬P=a:=fun e=>absurd f.out.2.2.2.1.lt (by have:=l.size;have:=z.out;omega)
 rw[z.out] at i
 have J:Row R a 319 Xj:=f.out.2.2.2.1.keep (Keep.of_below j (fun _=>False)) id
 have C:=ah (au j (au i G))
 clear c0 c1 l0 l1 l y j
 obtain⟨d0,d1,d2,g0,g1,g2,ln⟩:=kS (n:=m) i
 clear i G
 go_upto_region 1 with (fail)
 rw[F.out,z.out]
 go_wp2_with (first
  |((refine bS rfl ?_);intro K hK;(refine wp_store_row 319 (.tmp 2) (.tmp 13) rfl a 0 319 _ [.int .i64 m.k,.int .i64 0,.int .i64 m.e] rfl rfl J zo (aC 3) (by simp[Value.oneCell']) ?_);intro Y o B;refine hK _ _ ?_;refine Stop.of ?_))
 refine Stop.on ?_
 have v:Row Y P 246 m.row:=Row.keep (cur:=m.row) C.out.2.1 B C.out.2.2
 have b:Keep (· =a) w Y:=(Keep.of_below C.out.1 (· =a)).trans B (fun _ _ e=>e)
 clear d0 d1 d2 g0 g1 g2 ln J B
 obtain⟨d0,d1,d2,g0,g1,g2,ln⟩:=kS v
 by_cases c:m.k=1
 ·have H:=f.out.1.keep b (fun g e=>by rw[show g=a from e];exact f.out.2.2.2.2.1) f.out.2.2.2.2.2.1.2.2
  have pV:(yM m.i).size=m.i.size+1:=D8 m.i
  have N:∀W:World,(Op.stringOp .add (⟨#[98]⟩:ByteArray) m.i).run Tryz.prog W= .ok (.string (yM m.i)) W:=fun W=>iL W _ _ (by show ((1:Nat):Int)<=_;omega) (by have:=f.out.2.2.2.2.2.2.2;omega)
  have hg:=H.get (yM m.i) f.out.2.2.2.2.2.2.1 (by have:=f.out.2.2.2.2.2.2.2;omega)
  have A:=(b.block tb (aj.1 f.out.2.1).1 (fun e=>f.out.2.2.2.2.2.1.1 e.symm)).trans f.out.2.1
  have c0:Y.cell? ⟨tb,0,none⟩=some (.pointer (some ⟨p.x,0,none⟩)):=by simp[World.cell?,A]
  have l0:=(aj.1 A).1
  have T:=ah c
  have d:=ah (au o b)
  have Z:=ah hg
  obtain⟨ky,E⟩:∃ky,Hid (yM m.i=ky):=⟨_,ah rfl⟩
  rw[E.out] at N Z
  obtain⟨q,hq⟩:∃q,Hid (dK kv ky=q):=⟨_,ah rfl⟩
  rw[hq.out] at Z
  rw[c] at d1
  clear A H pV hg o b c v
  go_wp2_with (first
   |(go_at_call 133;go_must (refine Z.out.mono ?_;rintro ex V ⟨rfl,D⟩;refine Stop.of ?_)))
  refine Stop.on ?_
  have x:Row V a 319 [.int .i64 m.k,.int .i64 0,.int .i64 m.e]:=Row.keep (M:=fun _=>False) d.out.1 (Keep.of_below D _) id
  obtain⟨e0,e1,e2,k0,k1,k2,lo⟩:=sj x
  have s:Row (V.setCell ⟨a,1,none⟩ (.int .i64 ((q.getD ByteArray.empty).size:Int))) a 319 [.int .i64 m.k,.int .i64 ((q.getD ByteArray.empty).size:Int),.int .i64 m.e]/\Keep (· =a) w (V.setCell ⟨a,1,none⟩ (.int .i64 ((q.getD ByteArray.empty).size:Int))):=
   ⟨x.setCell 1 _,(d.out.2.trans (Keep.of_below D (fun _=>False)) (fun _ _ e=>e.elim)).setCell (p:=⟨a,1,none⟩) (.inr rfl) _⟩
  have t:=ah s
  clear s D x
  go_wp2_with fail
  go_end0
  refine⟨rfl,?_,t.out.2⟩
  unfold rW
  rw[if_pos T.out,E.out,hq.out]
  exact t.out.1
 ·have qb:(m.k==1)=false:=by simpa using c
  have d:=ah (au o (au b c))
  clear o b v c
  go_wp2_with fail
  go_end0
  refine⟨rfl,?_,d.out.2.1⟩
  unfold rW
  rw[if_neg d.out.2.2]
  exact d.out.1
end
theorem Ll (w:World)(a b c d:Obj):((((w.alloc a).alloc b).alloc c).alloc d).heap[w.heap.size+1+1]? =some c/\((((w.alloc a).alloc b).alloc c).alloc d).heap.size=w.heap.size+4/\Below w.heap.size w ((((w.alloc a).alloc b).alloc c).alloc d):=by
 have e:=aH ((w.alloc a).alloc b) c
 have k:=aG w a
 have i:=aG (w.alloc a) b
 have j:=aG ((w.alloc a).alloc b) c
 have g:=aG (((w.alloc a).alloc b).alloc c) d
 have f:((w.alloc a).alloc b).heap.size=w.heap.size+1+1:=by simp
 rw[f] at e
 exact⟨(g.block _ (by simp)).trans e,by simp,((k.trans (i.mono (by simp))).trans (j.mono (by rw[f];omega))).trans (g.mono (by simp;omega))⟩
theorem Ti (w:World)(a b d c e:Obj):(((((w.alloc a).alloc b).alloc d).alloc c).alloc e).heap[w.heap.size+1+1+1]? =some c/\(((((w.alloc a).alloc b).alloc d).alloc c).alloc e).heap.size=w.heap.size+5/\Below w.heap.size w (((((w.alloc a).alloc b).alloc d).alloc c).alloc e):=by
 have g:=aH (((w.alloc a).alloc b).alloc d) c
 have i:(((w.alloc a).alloc b).alloc d).heap.size=w.heap.size+1+1+1:=by simp
 rw[i] at g
 have f:=aG ((((w.alloc a).alloc b).alloc d).alloc c) e
 exact⟨(f.block _ (by simp)).trans g,by simp,(Ll w a b d c).2.2.trans (f.mono (by simp;omega))⟩
theorem qY {e:Func}{p q:Tmp}{d:TypeId}(h:e.results=#[.cell p d,.tmp q])(a:Array Value)(w:World)(g:Nat)(y x:Value)
  (f:a.getD p undef= .pointer (some ⟨g,0,none⟩)) (i:(loadVar d ⟨g,0,none⟩).run Tryz.prog w= .ok y w) (j:a.getD q undef=x):
  (results e a).run Tryz.prog w= .ok (.tuple #[y,x]) w:=by
 have c:a[p]?.getD undef= .pointer (some ⟨g,0,none⟩):=by simpa using f
 have b:a[q]?.getD undef=x:=by simpa using j
 simp[results,h,c,b,asAddr,i]
theorem QE (w:World)(a b c:Obj):Below w.heap.size w (((w.alloc a).alloc b).alloc c):=by
 have f:=aG w a
 have d:=aG (w.alloc a) b
 have e:=aG ((w.alloc a).alloc b) c
 exact(f.trans (d.mono (by simp))).trans (e.mono (by simp;omega))
theorem one_cell {w:World}{b:Nat}{v:Value}{t:TypeId}(h:w.heap[b]? =some (.cells #[v] t (0,0))):w.cell? ⟨b,0,none⟩=some v/\w.frozen? ⟨b,0,none⟩=false/\b<w.heap.size:=⟨by simp[World.cell?,h],by simp[World.frozen?,h],(aj.1 h).1⟩
theorem QF (w:World)(a b c d e:Obj):let v:=(((((w.alloc a).alloc b).alloc c).alloc d).alloc e)
  v.heap[w.heap.size]? =some a/\v.heap[w.heap.size+1]? =some b/\v.heap[w.heap.size+1+1]? =some c/\v.heap[w.heap.size+1+1+1]? =some d/\v.heap[w.heap.size+1+1+1+1]? =some e/\v.heap.size=w.heap.size+5/\Below w.heap.size w v:=by
 have n:=aH w a
 have m:=aH (w.alloc a) b
 have l:=aH ((w.alloc a).alloc b) c
 have i:=aH (((w.alloc a).alloc b).alloc c) d
 have k:=aH ((((w.alloc a).alloc b).alloc c).alloc d) e
 have x:(w.alloc a).heap.size=w.heap.size+1:=by simp
 have t:((w.alloc a).alloc b).heap.size=w.heap.size+1+1:=by simp
 have z:(((w.alloc a).alloc b).alloc c).heap.size=w.heap.size+1+1+1:=by simp
 have s:((((w.alloc a).alloc b).alloc c).alloc d).heap.size=w.heap.size+1+1+1+1:=by simp
 rw[x] at m;rw[t] at l;rw[z] at i;rw[s] at k
 have q:=aG (w.alloc a) b
 have j:=aG ((w.alloc a).alloc b) c
 have g:=aG (((w.alloc a).alloc b).alloc c) d
 have f:=aG ((((w.alloc a).alloc b).alloc c).alloc d) e
 have y:=(f.block w.heap.size (by omega)).trans ((g.block _ (by omega)).trans ((j.block _ (by omega)).trans ((q.block _ (by omega)).trans n)))
 have o:=(f.block (w.heap.size+1) (by omega)).trans ((g.block _ (by omega)).trans ((j.block _ (by omega)).trans m))
 have p:=(f.block (w.heap.size+1+1) (by omega)).trans ((g.block _ (by omega)).trans l)
 have r:=(f.block (w.heap.size+1+1+1) (by omega)).trans i
 exact⟨y,o,p,r,k,by simp,(Ti w a b c d e).2.2⟩
theorem Lj (w:World)(d b c a:Obj):let v:=((((w.alloc d).alloc b).alloc c).alloc a)
  v.heap[w.heap.size]? =some d/\v.heap[w.heap.size+1]? =some b/\v.heap[w.heap.size+1+1]? =some c/\v.heap[w.heap.size+1+1+1]? =some a/\v.heap.size=w.heap.size+4/\Below w.heap.size w v:=by
 obtain⟨i,k,g,f,_,m,l⟩:=QF w d b c a a
 have e:=aG ((((w.alloc d).alloc b).alloc c).alloc a) a
 have j:((((w.alloc d).alloc b).alloc c).alloc a).heap.size=w.heap.size+4:=by simp
 exact⟨(e.block _ (by omega)).symm.trans i,(e.block _ (by omega)).symm.trans k,(e.block _ (by omega)).symm.trans g,(e.block _ (by omega)).symm.trans f,j,(Ll w d b c a).2.2⟩
theorem Tg (w:World)(c b a:Obj):let v:=(((w.alloc c).alloc b).alloc a)
  v.heap[w.heap.size]? =some c/\v.heap[w.heap.size+1]? =some b/\v.heap[w.heap.size+1+1]? =some a/\v.heap.size=w.heap.size+3/\Below w.heap.size w v:=by
 obtain⟨e,f,g,_,j,k⟩:=Lj w c b a a
 have d:=aG (((w.alloc c).alloc b).alloc a) a
 have i:(((w.alloc c).alloc b).alloc a).heap.size=w.heap.size+3:=by simp
 exact⟨(d.block _ (by omega)).symm.trans e,(d.block _ (by omega)).symm.trans f,(d.block _ (by omega)).symm.trans g,i,QE w c b a⟩
theorem jP.fresh {w w':World}{S:Nat->Prop}{k n:Nat}{v:Value}{a:List Value}(h:jP w S k v n a)(c:Below w.heap.size w w'):jP w' (fun g=>w.heap.size<=g) k v n a:=
 jP.keep h fun g _ b _=>⟨c.block g b,fun e=>absurd b (aX.2 e)⟩
section
variable {p:TP} {kv:List Pr} {w:World}
theorem OB (body:ByteArray)(pv:Value)(a:List ByteArray)(S:Nat->Prop)(h:RT p kv w)(P:pK w S pv a)(hs:∀s∈a,s.size<=9223372036854775807)(hT:kg w)(O:su a=true)(C:Bool)(A:Int)(i:List Pr)
  (J:∀(c:Nat->Prop) (o:World) (bb tb pb mb:Nat),RT {p with F:=c} kv o->uD p.x bb tb pb mb body pv false o->(c bb/\c tb/\c pb/\c mb)->((mb≠bb/\mb≠tb/\mb≠pb)/\p.x≠mb)->pK o (fun g=>w.heap.size<=g) pv a->w.heap.size<=mb->
   Calls Tryz.prog 364 #[.pointer (some ⟨bb,0,none⟩),.pointer (some ⟨tb,0,none⟩),.pointer (some ⟨pb,0,none⟩),.pointer (some ⟨mb,0,none⟩)] o fun ex w'=>((ex= .returned (.tuple #[])/\A=0)\/(ex= .panicked (Rp A)/\A≠0))/\RT {p with F:=c} i w'/\Keep (fun g=>¬c g\/g=mb) o w'/\uD p.x bb tb pb mb body pv C w'):
  Calls Tryz.prog 258 #[.pointer (some ⟨p.x,0,none⟩),pv,.string body] w fun e w'=>e= .returned (.tuple #[.bool (C && A==0),.int .i64 A])/\RT p i w'/\Keep (fun g=>¬p.F g) w w':=by
 have qb:∀(fn:Fn) (first cap:Array Value) (w:World),(Instr.makeFunc fn first cap).run Tryz.prog w= .ok (.func fn first cap) w:=fun _ _ _ _=>rfl
 obtain⟨po,V,Z,_,_,_,_⟩:=jP.form P
 subst Z
 obtain⟨h0,h1,h2,h3,h4,f,k⟩:=QF w (.cells #[.pointer (some ⟨p.x,0,none⟩)] 136) (.cells #[.slice po a.length V] 146) (.cells #[.string body] 9) (.cells #[.bool false] 4) (.cells #[.slice po a.length V] 146)
 have W:=WC p.x 364 #[.pointer (some ⟨w.heap.size+1+1,0,none⟩),.pointer (some ⟨w.heap.size,0,none⟩),.pointer (some ⟨w.heap.size+1,0,none⟩),.pointer (some ⟨w.heap.size+1+1+1,0,none⟩)] (w.heap.size+1+1+1+1) (.slice po a.length V) a _ _
  (fun w'=>A=0/\(∃c:Nat->Prop,RT {p with F:=c} i w'/\(∀g,p.F g->c g)/\c (w.heap.size+5)/\c (w.heap.size+1+1+1))/\Keep (fun g=>¬p.F g) w w'/\w'.heap[w.heap.size+1+1+1]? =some (.cells #[.bool C] 4 (0,0)))
  (fun n w'=>n=A/\A≠0/\(∃c:Nat->Prop,RT {p with F:=c} i w'/\(∀g,p.F g->c g)/\c (w.heap.size+5)/\c (w.heap.size+1+1+1))/\Keep (fun g=>¬p.F g) w w'/\w'.heap[w.heap.size+1+1+1]? =some (.cells #[.bool C] 4 (0,0)))
  (fun _ _=>rfl) h4 (jP.below P k) hs (hT.below k) O ?_
 ·rw[f] at W
  have HR:=ah W
  have HA:=ah h
  clear h0 h1 h2 h3 h4 f k W h P hs hT J O
  go_enter Tryz.func258,Tryz.ntmps258
  go_wp2_with (first
   |(go_at_call 128;go_must (refine HR.out.mono ?_;rintro e I (⟨rfl,o,⟨Q,⟨c,E,R,D,t⟩,G,y⟩,l⟩|⟨n,rfl,o,⟨rfl,Q,⟨c,E,R,D,t⟩,G,y⟩,l⟩)<;>refine Stop.of ?_)))
  all_goals
   refine Stop.on ?_
   have z:=(l.block _ (aj.1 y).1 (by omega)).trans y
   have hx:=HA.out.lt
   have B:Keep (fun g=>¬p.F g) w I:=G.trans l (fun g O e=>by have e:g=w.heap.size+5:=e;omega)
   have N:=E.keep l (fun g e=>by rw[show g=w.heap.size+5 from e];exact D) (by show ¬p.x=_;omega)
   obtain⟨mb,v⟩:∃mb:Nat,Hid (w.heap.size+1+1+1=mb):=⟨_,ah rfl⟩
   rw[v.out] at z t
   obtain⟨c0,f0,l0⟩:=one_cell z
   have d:∀b:Bool,RT p i (I.setCell ⟨mb,0,none⟩ (.bool b))/\Keep (fun g=>¬p.F g) w (I.setCell ⟨mb,0,none⟩ (.bool b))/\(I.setCell ⟨mb,0,none⟩ (.bool b)).cell? ⟨mb,0,none⟩=some (.bool b):=fun b=>by
    have M:Keep (· =mb) I (I.setCell ⟨mb,0,none⟩ (.bool b)):=(Keep.refl (· =mb) _).setCell (p:=⟨mb,0,none⟩) (.inr rfl) _
    exact⟨RT.sub (N.keep M (fun g e=>by rw[show g=mb from e];exact t) (by show ¬p.x=_;have:=v.out;omega)) R HA.out.fb,B.trans M (fun g O e=>by have e:g=mb:=e;have:=v.out;omega),by simp[World.setCell,World.cell?,aK,z]⟩
   have q:=ah d
   clear d z B N y G l E R D t
   rw[v.out]
  ·subst Q
   cases C
   ·have r:=q.out false
    go_wp2_with fail
    have K:=r.2.2
    refine dJ (by simp[results,Tryz.results258,go_sem,K];rfl) rfl ?_
    exact⟨rfl,r.1,r.2.1⟩
   ·have r:=q.out true
    go_wp2_with fail
    have K:=r.2.2
    refine dJ (by simp[results,Tryz.results258,go_sem,K];rfl) rfl ?_
    exact⟨rfl,r.1,r.2.1⟩
  ·have pV:(n==0)=false:=by simpa using Q
   have r:=q.out false
   clear Q
   cases C
   all_goals
    go_wp2_with fail
    have K:=r.2.2
    refine dJ (by simp[results,Tryz.results258,go_sem,K];rfl) rfl ?_
    exact⟨by rw[pV];rfl,r.1,r.2.1⟩
 ·intro o j H
  rw[f] at H ⊢
  have Y:=k.trans (j.mono k.size)
  have k0:=(j.block _ (by rw[f];omega)).trans h0
  have k1:=(j.block _ (by rw[f];omega)).trans h1
  have k2:=(j.block _ (by rw[f];omega)).trans h2
  have k3:=(j.block _ (by rw[f];omega)).trans h3
  have m:=(aj.1 H).1
  have hx:=h.lt
  refine(J (p.add w o).F o (w.heap.size+1+1) w.heap.size (w.heap.size+1) (w.heap.size+1+1+1) (h.next Y) ⟨k2,k0,k1,k3⟩ ⟨.inr ⟨by omega,by omega⟩,.inr ⟨by omega,by omega⟩,.inr ⟨by omega,by omega⟩,.inr ⟨by omega,by omega⟩⟩ ⟨⟨by omega,by omega,by omega⟩,by omega⟩ (jP.fresh P Y) (by omega)).mono ?_
  rintro ex w' ⟨p9,T,hk,hc⟩
  have X:=(hk.block (w.heap.size+5) m (fun e=>e.elim (fun e=>e (.inr ⟨by omega,m⟩)) (fun e=>by omega))).trans H
  have d:(∃c:Nat->Prop,RT {p with F:=c} i w'/\(∀g,p.F g->c g)/\c (w.heap.size+5)/\c (w.heap.size+1+1+1))/\Keep (fun g=>¬p.F g) w w'/\w'.heap[w.heap.size+1+1+1]? =some (.cells #[.bool C] 4 (0,0)):=
   ⟨⟨(p.add w o).F,T,fun _ e=> .inl e,.inr ⟨by omega,m⟩,.inr ⟨by omega,by omega⟩⟩,(Keep.of_below Y (fun g=>¬p.F g)).trans hk (fun g O e=>e.elim (fun e x=>e (.inl x)) (fun e=>by omega)),hc.made⟩
  exact⟨X,p9.elim (fun e=> .inl ⟨e.1,e.2,d⟩) (fun e=> .inr ⟨A,e.1,rfl,e.2,d⟩)⟩
theorem OA (body:ByteArray)(pv:Value)(s:ByteArray)(S:Nat->Prop)(h:RT p [] w)(m:pK w S pv [s])(o:kg w)(n:su [s]=true)(i:s.size<=20)(a:dK (wE [] s) ⟨#[101]⟩=none)(r:p.rm [] 5)(b:body.size<=63):
  Calls Tryz.prog 258 #[.pointer (some ⟨p.x,0,none⟩),pv,.string body] w fun e w'=>e= .returned (.tuple #[.bool true,.int .i64 0])/\RT p (Gy (wE [] s) id1 1 body) w'/\Keep (fun g=>¬p.F g) w w':=by
 refine OB body pv [s] S h m (fun x c=>by rw[cu.1 c];omega) o n true 0 _ fun B z bb tb pb mb j f v k t q=> ?_
 refine(O7 bb tb pb mb body pv s _ j f v k t q i a r b).mono ?_
 rintro A w' ⟨rfl,d,y,l⟩
 exact⟨.inl ⟨rfl,rfl⟩,d,y,l⟩
theorem WB (pv:Value)(a:List ByteArray)(S:Nat->Prop)(m:ND)(h:RT p kv w)(x:pK w S pv a)(M:∀s∈a,s.size<=9223372036854775807)(R:kg w)(o:su a=true)(hl:kv.length<=4090)(N:wJ kv a qw m)(P:m.i.size<=4):
  Calls Tryz.prog 287 #[.pointer (some ⟨p.x,0,none⟩),pv] w fun e w'=>e= .returned (.tuple #[.agg (rW kv m).toArray,.int .i64 0])/\Below w.heap.size w w':=by
 have pV:∀(V:Fn) (first cap:Array Value) (w:World),(Instr.makeFunc V first cap).run Tryz.prog w= .ok (.func V first cap) w:=fun _ _ _ _=>rfl
 obtain⟨A,y,C,_,_,_,_⟩:=jP.form x
 subst C
 obtain⟨I,O,J,Y,c,f⟩:=Lj w (.cells #[.pointer (some ⟨p.x,0,none⟩)] 136) (.cells #[.slice A a.length y] 146) (.cells #[.int .i64 0,.int .i64 0,.int .i64 0] 319) (.cells #[.slice A a.length y] 146)
 have G:=WC p.x 416 #[.pointer (some ⟨w.heap.size,0,none⟩),.pointer (some ⟨w.heap.size+1,0,none⟩),.pointer (some ⟨w.heap.size+1+1,0,none⟩)] (w.heap.size+1+1+1) (.slice A a.length y) a _ _
  (fun w'=>Below w.heap.size w w'/\Row w' (w.heap.size+1+1) 319 (rW kv m)) (fun _ _=>False)
  (fun _ _=>rfl) Y (jP.below x f) M (R.below f) o ?_
 ·rw[c] at G
  have HR:=ah G
  clear I O J Y c f G x M R o h N P
  go_enter Tryz.func287,Tryz.ntmps287
  go_wp2_with (first
   |(go_at_call 128;go_must (refine HR.out.mono ?_;rintro e B (⟨rfl,H,⟨b,t⟩,i⟩|⟨n,rfl,H,hx,i⟩)<;>refine Stop.of ?_)))
  refine Stop.on ?_
  have d:Row B (w.heap.size+1+1) 319 (rW kv m):=t.keep i (fun e=>by omega)
  have r:Below w.heap.size w B:=b.trans (i.fw b.size fun g o e=>by omega)
  obtain⟨k,q⟩:∃k:Nat,Hid (w.heap.size+1+1=k):=⟨_,ah rfl⟩
  rw[q.out] at d ⊢
  obtain⟨c0,Z,c2,f0,f1,f2,lr⟩:=sj (show Row B k 319 [.int .i64 m.k,.int .i64 (if m.k=1 then(((dK kv (yM m.i)).getD ByteArray.empty).size:Int) else 0),.int .i64 m.e] from d)
  have T:=ah r
  clear b t i r
  obtain⟨z,X⟩:∃z,Hid ((if m.k=1 then(((dK kv (yM m.i)).getD ByteArray.empty).size:Int) else 0)=z):=⟨_,ah rfl⟩
  unfold rW at d
  rw[X.out] at Z d
  go_wp2_with (first
   |((refine bS rfl ?_);intro K hK;(refine wp_store_row 319 (.tmp 4) (.tmp 11) rfl k 0 319 _ [.int .i64 m.k,.int .i64 z,.int .i64 m.e] rfl rfl d zo (aC 3) (by simp[Value.oneCell']) ?_);intro Q F E;refine hK _ _ ?_))
  refine dJ (qY rfl _ Q k _ (.int .i64 0) rfl (jk Q k 319 319 _ (0,0) _ F Tryz.underlying319 rfl (by kernel_rfl)) rfl) rfl ?_
  unfold rW
  rw[X.out]
  exact⟨rfl,T.out.trans (E.fw T.out.size fun g o e=>by have:=q.out;omega)⟩
 ·intro H b j
  rw[c] at j ⊢
  have v:=f.trans (b.mono f.size)
  have k0:=(b.block _ (by rw[c];omega)).trans I
  have k1:=(b.block _ (by rw[c];omega)).trans O
  have k2:=(b.block _ (by rw[c];omega)).trans J
  have l:=(aj.1 j).1
  have hx:=h.lt
  refine(Mf w.heap.size (w.heap.size+1) (w.heap.size+1+1) (.slice A a.length y) a _ m (h.next v) k0 k1 k2 (.inr ⟨by omega,by omega⟩) ⟨by omega,by omega,by show p.x≠_;omega⟩ (jP.fresh x v) hl N P).mono ?_
  rintro ex w' ⟨rfl,hq,W⟩
  have D:=(W.block (w.heap.size+4) l (fun e=>by omega)).trans j
  exact⟨D,.inl ⟨rfl,v.trans (W.fw v.size fun g o e=>by omega),hq⟩⟩
end
end Go.Proofs.YtpmbddooibgnaaaGreatDoor
namespace Go.Proofs.YtpmbddooibgnaaaGreatDoor
open Go.RowKit Go.Shelf
theorem PO {b:gW}{w:World}{v t N R dn u P:Nat}{kv0:List Pr}{ch:Bool}(h:sJ b v t N R dn u kv0 [] ch P w)(lb:Nat)(d:w.heap[lb]? =some (.cells #[.pointer (some ⟨t,0,none⟩)] 298 (0,0))):
  Calls Tryz.prog 161 #[.pointer (some ⟨lb,0,none⟩)] w fun e w'=>e= .returned (.tuple #[.slice none 0 0,.int .i64 0])/\Below w.heap.size w w':=by
 have n:=ah (h.scan ⟨#[108]⟩ 64 (by simp))
 have p:w.cell? ⟨lb,0,none⟩=some (.pointer (some ⟨t,0,none⟩)):=by simp[World.cell?,d]
 have m:=(aj.1 d).1
 clear h d
 go_enter Tryz.func161,Tryz.ntmps161
 go_wp2
 go_loopw [4,5,6,7,9,10,11,28] (fun o k _ _ _ _ _ _ wr=>o= .slice none 0 0/\k= .string ⟨#[108]⟩/\wr=w) (fun _ _ _ _ _ _ _ _ _=>0)
 case atStart=>exact⟨rfl,rfl,rfl⟩
 case round=>
  obtain⟨rfl,rfl,f⟩:=hrel
  subst f
  go_wp2_with (first
   |(go_at_call 238;go_must (refine n.out.mono ?_;rintro e j ⟨x,rfl,c,_,a⟩;refine Stop.of ?_)))
  refine Stop.on ?_
  have g:(tZ ([]:List Pr) ⟨#[108]⟩ 64).length=0:=by unfold tZ;simp
  rw[g] at c
  obtain⟨q,r,rfl,_,_,_,_⟩:=jP.form c.MZ
  have l:=ah a
  clear c a g
  go_wp2_with fail
  go_loopw [4,5,9,10,11,28] (fun o _ _ _ _ i wr=>o= .slice none 0 0/\i= .int .i64 0/\wr=j) (fun _ _ _ _ _ _ _=>0)
  case atStart=>exact⟨rfl,rfl,rfl⟩
  case round=>
   obtain⟨rfl,rfl,f⟩:=hrel
   subst f
   go_wp2_with fail
   go_ret2
   exact⟨rfl,l.out⟩
theorem R5 {b:gW}{w:World}{v t N R dn u P:Nat}{kv0:List Pr}{ch:Bool}(h:sJ b v t N R dn u kv0 [] ch P w)(lb:Nat)(now:Int)(d:w.heap[lb]? =some (.cells #[.pointer (some ⟨t,0,none⟩)] 298 (0,0))):
  Calls Tryz.prog 106 #[.pointer (some ⟨lb,0,none⟩),.int .i64 now] w fun e w'=>e= .returned (.tuple #[.slice none 0 0,.int .i64 0])/\Below w.heap.size w w':=by
 have a:=aG w (.cells #[.int .i64 now] 2)
 have f:=ah (PO (h.below a) lb ((a.block lb (aj.1 d).1).trans d))
 clear h d
 go_enter Tryz.func106,Tryz.ntmps106
 go_wp2_with (first
  |(go_at_call 161;go_must (refine f.out.mono ?_;rintro e i ⟨rfl,c⟩))
  |(go_at_call 162;go_must (refine(SG _ _).mono ?_;rintro e g ⟨rfl,rfl⟩)))
 go_ret2
 exact⟨rfl,a.trans (c.mono a.size)⟩
theorem PS (p t:Value)(w:World):Calls Tryz.prog 363 #[.slice none 0 0,p,t] w fun e w'=>e= .returned (.bool true)/\w'=w:=by
 go_enter Tryz.func363,Tryz.ntmps363
 go_wp2
 go_loopw [6,7,9,12] (fun _ c _ i wr=>c= .bool false/\i= .int .i64 0/\wr=w) (fun _ _ _ _ _=>0)
 case atStart=>exact⟨rfl,rfl,rfl⟩
 case round=>
  obtain⟨rfl,rfl,a⟩:=hrel
  subst a
  go_wp2_with fail
  go_ret
  exact⟨rfl,rfl⟩
theorem yo (n:Int)(w:World):Calls Tryz.prog 58 #[.bool false,.int .i64 n] w fun e w'=>e= .returned (.tuple #[])/\w'=w:=by
 go_enter Tryz.func58,Tryz.ntmps58
 go_wp2
 go_end0
 exact⟨rfl,rfl⟩
theorem Px (w:World):Calls Tryz.prog 63 #[.int .i64 0] w fun e w'=>e= .returned (.tuple #[])/\w'=w:=by
 go_enter Tryz.func63,Tryz.ntmps63
 go_wp2
 go_end0
 exact⟨rfl,rfl⟩
def UY:ByteArray:=⟨([79,80,84,73,79,78,83,44,32,71,69,84,44,32,72,69,65,68,44,32,80,85,84,44,32,68,69,76,69,84,69,44,32,77,75,67,79,76,44,32,67,79].append [80,89,44,32,77,79,86,69,44,32,80,82,79,80,70,73,78,68,44,32,80,82,79,80,80,65,84,67,72,44,32,76,79,67,75,44,32,85,78,76,79,67,75]).toArray⟩
def ED:List ByteArray:=[⟨#[79,80,84,73,79,78,83]⟩,⟨#[71,69,84]⟩,⟨#[72,69,65,68]⟩,iQ,⟨#[68,69,76,69,84,69]⟩,⟨#[77,75,67,79,76]⟩,⟨#[67,79,80,89]⟩,⟨#[77,79,86,69]⟩,⟨#[80,82,79,80,70,73,78,68]⟩,⟨#[80,82,79,80,80,65,84,67,72]⟩,⟨#[76,79,67,75]⟩,⟨#[85,78,76,79,67,75]⟩]
theorem Vk (w:World)(l:jV w):Calls Tryz.prog 59 #[.string iQ] w fun e w'=>e= .returned (.bool true)/\Below w.heap.size w w':=by
 have d:=ah (zC UY ⟨#[44,32]⟩ w ED l ⟨by decide,by decide⟩ (by kernel_rfl) (by kernel_rfl))
 have c:=aG w (.cells (ED.map Value.string).toArray 9)
 have a:=aH w (.cells (ED.map Value.string).toArray 9)
 obtain⟨f,j⟩:∃x:World,Hid (w.alloc (.cells (ED.map Value.string).toArray 9)=x):=⟨_,ah rfl⟩
 rw[j.out] at c a
 obtain⟨pb,g⟩:∃x:Nat,Hid (w.heap.size=x):=⟨_,ah rfl⟩
 rw[g.out] at a
 rw[j.out,g.out] at d
 have p:=ah c
 have v:f.cell? ⟨pb,0,none⟩=some (.string ⟨#[79,80,84,73,79,78,83]⟩):=by simp[World.cell?,a,ED]
 have r:f.cell? ⟨pb,1,none⟩=some (.string ⟨#[71,69,84]⟩):=by simp[World.cell?,a,ED]
 have s:f.cell? ⟨pb,2,none⟩=some (.string ⟨#[72,69,65,68]⟩):=by simp[World.cell?,a,ED]
 have t:f.cell? ⟨pb,3,none⟩=some (.string iQ):=by simp[World.cell?,a,ED]
 have q:=(aj.1 a).1
 have b:ED.length=12:=rfl
 rw[b] at d
 clear c a l b
 go_enter Tryz.func59,Tryz.ntmps59
 go_wp2_with (first
  |(go_at_call 108;go_must (refine d.out.mono ?_;rintro e n ⟨rfl,m⟩;subst n)))
 go_loopw [4,7] (fun _ i wr=>(i= .int .i64 0\/i= .int .i64 1\/i= .int .i64 2\/i= .int .i64 3)/\wr=f) (fun _ i _=>4 - (intOf i).toNat)
 case atStart=>exact⟨.inl rfl,rfl⟩
 case round=>
  obtain⟨o,m⟩:=hrel
  subst m
  rcases o with rfl|rfl|rfl|rfl
  ·have k:([79,80,84,73,79,78,83]==iQ.toList)=false:=by kernel_rfl
   go_wp2_with fail
   go_roundw
   case rel=>exact⟨.inr (.inl (by go_num)),by trivial⟩
   case measure=>simp[intOf]
  ·have k:([71,69,84]==iQ.toList)=false:=by kernel_rfl
   go_wp2_with fail
   go_roundw
   case rel=>exact⟨.inr (.inr (.inl (by go_num))),by trivial⟩
   case measure=>simp[intOf]
  ·have k:([72,69,65,68]==iQ.toList)=false:=by kernel_rfl
   go_wp2_with fail
   go_roundw
   case rel=>exact⟨.inr (.inr (.inr (by go_num))),by trivial⟩
   case measure=>simp[intOf]
  ·have k:(iQ.toList==iQ.toList)=true:=by kernel_rfl
   go_wp2_with fail
   go_ret
   exact⟨rfl,p.out⟩
def uU (hv:Value)(now:Int)(draw:ByteArray)(pv:Value)(x lb:Nat):List Value:=[.string iQ,.string pE,hv,.string sX,.bool false,.int .i64 now,.string draw,pv,.bool false,.pointer (some ⟨x,0,none⟩),.pointer (some ⟨lb,0,none⟩),.slice none 0 0,.slice none 0 0,.bool false]
def iV (w:World)(jb:Nat)(hv:Value)(now:Int)(draw:ByteArray)(pv:Value)(x lb:Nat):Prop:=w.heap[jb]? =some (.cells (uU hv now draw pv x lb).toArray 148 (0,0))
section
variable {w w':World} {jb:Nat} {hv:Value} {now:Int} {draw:ByteArray} {pv:Value} {x lb:Nat} {M:Nat->Prop}
theorem iV.lt (h:iV w jb hv now draw pv x lb):jb<w.heap.size:=(aj.1 h).1
theorem iV.keep (h:iV w jb hv now draw pv x lb)(a:Keep M w w')(b:¬M jb):iV w' jb hv now draw pv x lb:=(a.block jb h.lt b).trans h
theorem iV.below (h:iV w jb hv now draw pv x lb)(a:Below w.heap.size w w'):iV w' jb hv now draw pv x lb:=(a.block jb h.lt).trans h
theorem iV.q (h:iV w jb hv now draw pv x lb):w.cell? ⟨jb,0,none⟩=some (.string iQ)/\w.cell? ⟨jb,1,none⟩=some (.string pE)/\w.cell? ⟨jb,2,none⟩=some hv/\w.cell? ⟨jb,3,none⟩=some (.string sX)/\w.cell? ⟨jb,4,none⟩=some (.bool false):=by
 unfold iV at h
 exact⟨by simp[World.cell?,h,uU],by simp[World.cell?,h,uU],by simp[World.cell?,h,uU],by simp[World.cell?,h,uU],by simp[World.cell?,h,uU]⟩
theorem iV.p (h:iV w jb hv now draw pv x lb):w.cell? ⟨jb,7,none⟩=some pv/\w.cell? ⟨jb,8,none⟩=some (.bool false)/\w.cell? ⟨jb,9,none⟩=some (.pointer (some ⟨x,0,none⟩))/\w.cell? ⟨jb,10,none⟩=some (.pointer (some ⟨lb,0,none⟩))/\w.cell? ⟨jb,11,none⟩=some (.slice none 0 0)/\w.cell? ⟨jb,12,none⟩=some (.slice none 0 0)/\w.cell? ⟨jb,13,none⟩=some (.bool false):=by
 unfold iV at h
 exact⟨by simp[World.cell?,h,uU],by simp[World.cell?,h,uU],by simp[World.cell?,h,uU],by simp[World.cell?,h,uU],by simp[World.cell?,h,uU],by simp[World.cell?,h,uU],by simp[World.cell?,h,uU]⟩
theorem iV.fr (h:iV w jb hv now draw pv x lb)(i:Nat):w.frozen? ⟨jb,i,none⟩=false:=by unfold iV at h;simp[World.frozen?,h]
theorem iV.set (h:iV w jb hv now draw pv x lb)(a:Value):iV ((w.setCell ⟨jb,7,none⟩ a).setCell ⟨jb,8,none⟩ (.bool false)) jb hv now draw a x lb/\Keep (· =jb) w ((w.setCell ⟨jb,7,none⟩ a).setCell ⟨jb,8,none⟩ (.bool false)):=by
 refine⟨?_,((Keep.refl (· =jb) w).setCell (p:=⟨jb,7,none⟩) (.inr rfl) _).setCell (p:=⟨jb,8,none⟩) (.inr rfl) _⟩
 unfold iV at h ⊢
 simp[World.setCell,aK,h,uU]
end
def XI (hs:List Pr)(name:ByteArray):Prop:=hs.length<=32/\∀p∈hs,(p.1.toList==name.toList)=false
theorem KZ (jb:Nat)(hv:Value)(now:Int)(draw:ByteArray)(pv:Value)(x lb:Nat)(b:List Pr)(c:ByteArray)(w:World)(h:iV w jb hv now draw pv x lb)(m:lJ w hv b)(t:XI b c):
  Calls Tryz.prog 110 #[.pointer (some ⟨jb,0,none⟩),.string c] w fun e w'=>e= .returned (.tuple #[.string ⟨#[]⟩,.bool false])/\Below w.heap.size w w':=by
 obtain⟨_,_,C,_,_⟩:=h.q
 have H:=h.lt
 obtain⟨F,K,rfl,G,E,_,_⟩:=bq.form m
 have j:=ah (au m t)
 clear h m t
 go_enter Tryz.func110,Tryz.ntmps110
 go_wp2
 go_loopw [6,7,9,16] (fun s n _ i wr=>∃(k:Nat),k<=b.length/\i= .int .i64 k/\s= .string ⟨#[]⟩/\n= .int .i64 0/\Below w.heap.size w wr) (fun _ _ _ i _=>b.length - (intOf i).toNat)
 case atStart=>exact⟨0,aR _,rfl,rfl,rfl,aJ _ _⟩
 case round=>
  obtain⟨k,I,rfl,rfl,rfl,a⟩:=hrel
  have y:=j.out.2.1
  by_cases d:k<b.length
  ·obtain⟨g,o,rfl,l,f⟩:=j.out.1.at rfl k d
   have q:=(a.cell (p:=⟨g,o+k*2,none⟩) (aD w _ l)).trans l
   have A:=(a.cell (p:=⟨g,o+k*2+1,none⟩) (aD w _ f)).trans f
   have z:=aD wr _ q
   have v:(k:Int)<(b.length:Int):=by omega
   have r:=aG wr (.cells #[.string b[k].1,.string b[k].2] 162)
   have D:=j.out.2.2 b[k] (bJ d)
   clear l f
   go_wp2_with fail
   go_roundw
   case rel=>exact⟨k+1,by omega,by go_num,rfl,rfl,a.trans (r.mono a.size)⟩
   case measure=>simp[intOf];omega
  ·obtain rfl:k=b.length:=by omega
   have M:¬(b.length:Int)<(b.length:Int):=by omega
   go_wp2_with (first
    |(go_at_call 58;go_must (refine(yo _ _).mono ?_;rintro e B ⟨rfl,J⟩;subst B)))
   go_ret2
   exact⟨rfl,a⟩
theorem RZ (jb:Nat)(hv:Value)(now:Int)(draw:ByteArray)(pv:Value)(x lb:Nat)(w:World)(h:iV w jb hv now draw pv x lb)(j:kg w)(k:jV w):
  Calls Tryz.prog 60 #[.pointer (some ⟨jb,0,none⟩)] w fun e w'=>∃v,e= .returned (.tuple #[])/\iV w' jb hv now draw v x lb/\aV w' eG w.heap.size 9 1 v 1 [.string jU]/\Keep (· =jb) w w':=by
 obtain⟨E,t,_,_,_⟩:=h.q
 have C:=h.lt
 have G:(iQ.toList==[79,80,84,73,79,78,83])=false:=by kernel_rfl
 have n:=ah (UA w j k)
 have i:=ah h
 clear h j k
 go_enter Tryz.func60,Tryz.ntmps60
 go_wp2_with (first
  |(go_at_call 109;go_must (refine n.out.mono ?_;rintro e z ⟨v,rfl,d,b⟩;refine Stop.of ?_)))
 refine Stop.on ?_
 obtain⟨r,l,rfl,_,_,_⟩:=d.DL (by decide)
 have a:=i.out.below b
 have s:=a.lt
 have A:=a.fr 7
 have y:=a.fr 8
 obtain⟨D,B,_⟩:=a.p
 have f:=a.set (.slice (some ⟨r,0,none⟩) 1 l)
 have c:=ah (au f (au d b))
 clear a f d b
 go_wp2_with (first
  |(go_at_call 58;go_must (refine(yo _ _).mono ?_;rintro e q ⟨rfl,F⟩;subst q)))
 go_end0
 exact⟨_,rfl,c.out.1.1,c.out.2.1.keep (fun g o p m=>⟨c.out.1.2.block g p (fun e=>by have:=c.out.2.1.lo g o;have:=i.out.lt;omega),m⟩),(Keep.of_below c.out.2.2 (· =jb)).trans c.out.1.2 (fun _ _ e=>e)⟩
end Go.Proofs.YtpmbddooibgnaaaGreatDoor
