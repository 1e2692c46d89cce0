/- parts -/
import Derived.Test.YtbfjgkafmlbpcaaGreatDoorT1
import Derived.Test.YtbfjgkafmlbpcaaGreatDoorT3
import Derived.Test.YtbfjgkafmlbpcaaGreatDoorT11
import Derived.Test.YtbfjgkafmlbpcaaGreatDoorT13
import Derived.Test.YtbfjgkafmlbpcaaGreatDoorT23
import Derived.Test.YtbfjgkafmlbpcaaGreatDoorT25
import Derived.Shelf.Strings.IndexAnyAll
import Derived.Shelf.Unicode.ValidAny
import Derived.Shelf.Small.Wraps
import Derived.Shelf.Small.Utf8
import Derived.Laws.RangeAny
import Derived.Laws.Runes
import Derived.Scope
import Derived.Lib.ValidU
import Derived.Lib.IndexAny
import Derived.Defers
import Derived.Recover
set_option maxRecDepth 100000
set_option maxHeartbeats 8000000
set_option linter.all false
namespace Go.Proofs.YtbfjgkafmlbpcaaGreatDoor
open Go.RowKit
structure TP where
 F:Nat->Prop
 D:Nat->Dk->Lg->Pg->Prop
 v:Nat
 t:Nat
 x:Nat
 N:Nat
 R:Nat
 dn:Nat
 u:Nat
 P:Nat
 kv0:List Pr
def TP.base (p:TP)(w:World):jY:=⟨p.F,w,p.D⟩
def TP.add (p:TP)(w w':World):TP:={p with F:=fun g=>p.F g\/(w.heap.size<=g/\g<w'.heap.size)}
section
variable {b:jY} {w w':World} {v t N R dn u P:Nat} {kv kv0:List Pr} {ch:Bool}
theorem vW.Sv (h:vW b v t N R dn u kv0 kv ch P w):Keep (fun g=>¬b.F g) b.w w:=by
 obtain⟨_,_,_,_,_,_,_,_,_,_,_,h,_⟩:=h
 exact⟨h.os,h.tape,h.output,h.size,fun k _ hn=>h.block k (Classical.not_not.1 hn)⟩
theorem vW.Uh (h:vW b v t N R dn u kv0 kv ch P w):vW ⟨b.F,w,b.D⟩ v t N R dn u kv0 kv ch P w:=by
 obtain⟨S,tr,mp,σ,root,es,tb,root0,es0,tb0,hA,h,h1⟩:=h
 exact⟨S,tr,mp,σ,root,es,tb,root0,es0,tb0,hA,⟨rfl,rfl,rfl,ax _,fun _ _=>rfl,fun g hg=>ak (h.fs g hg) h.size,h.lo⟩,h1⟩
theorem vW.TI {F F':Nat->Prop}{D:Nat->Dk->Lg->Pg->Prop}(h:vW ⟨F',w,D⟩ v t N R dn u kv0 kv ch P w)(hF:∀g,F g->F' g):vW ⟨F,w,D⟩ v t N R dn u kv0 kv ch P w:=by
 obtain⟨S,tr,mp,σ,root,es,tb,root0,es0,tb0,hA,h,h1,h2,h3,h4⟩:=h
 exact⟨S,tr,mp,σ,root,es,tb,root0,es0,tb0,hA,⟨rfl,rfl,rfl,ax _,fun _ _=>rfl,fun g hg=>h.fs g (hF g hg),fun g hg e=>h.lo g hg (hF g e)⟩,⟨fun e=>h1.1 (hF _ e),h1.2⟩,fun e=>h2 (hF _ e),fun e=>h3 (hF _ e),h4⟩
theorem vW.TM (h:vW b v t N R dn u kv0 kv ch P w)(key:ByteArray)(hl:kv.length<=4090)(hg:1<=key.size/\key.size<=128):
  Calls Tryz.prog 68 #[.pointer (some ⟨t,0,none⟩),.string key] w fun e w'=>e= .returned (.tuple #[.string ((dG kv key).getD ByteArray.empty),.bool (dG kv key).isSome,.int .i64 0])/\Below w.heap.size w w':=by
 obtain⟨S,tr,mp,σ,root,es,tb,root0,es0,tb0,hA,hB,h1,h2,h3,h4,h5,h6,h7,h8⟩:=h
 refine(hA.get key (by rw[<-lI,h7];exact hl) hg).mono ?_
 rintro e w' ⟨rfl,hT,hb⟩
 exact⟨by rw[h7],hb⟩
end
structure RT (p:TP)(kv:List Pr)(w:World):Prop where
 ts:∃ch,vW ⟨p.F,w,p.D⟩ p.v p.t p.N p.R p.dn p.u p.kv0 kv ch p.P w
 obj:w.heap[p.x]? =some (.cells #[.pointer (some ⟨p.t,0,none⟩)] 68 (0,0))
 fb:p.F p.x
section
variable {p:TP} {kv:List Pr} {w w':World} {M:Nat->Prop}
theorem RT.lt (h:RT p kv w):p.x<w.heap.size:=(ah.1 h.obj).1
theorem RT.c0 (h:RT p kv w):w.cell? ⟨p.x,0,none⟩=some (.pointer (some ⟨p.t,0,none⟩)):=by simp[World.cell?,h.obj]
theorem RT.Jt (h:RT p kv w)(hk:Keep M w w')(hM:∀g,M g->p.F g)(hb:¬M p.x):RT (p.add w w') kv w':=
 ⟨h.ts.imp fun _ q=>q.next hk hM,(hk.block p.x h.lt hb).trans h.obj,.inl h.fb⟩
theorem RT.next (h:RT p kv w)(hb:Below w.heap.size w w'):RT (p.add w w') kv w':=h.Jt (Keep.of_below hb (fun _=>False)) (fun _ e=>e.elim) id
theorem RT.sub {F:Nat->Prop}(h:RT {p with F:=F} kv w)(hF:∀g,p.F g->F g)(hb:p.F p.x):RT p kv w:=⟨h.ts.imp fun _ q=>vW.TI (F':=F) q hF,h.obj,hb⟩
theorem RT.keep (h:RT p kv w)(hk:Keep M w w')(hM:∀g,M g->p.F g)(hb:¬M p.x):RT p kv w':=(h.Jt hk hM hb).sub (fun _ e=> .inl e) h.fb
theorem RT.below (h:RT p kv w)(hb:Below w.heap.size w w'):RT p kv w':=h.keep (Keep.of_below hb (fun _=>False)) (fun _ e=>e.elim) id
def TP.room (p:TP)(kv:List Pr)(value:ByteArray):Prop:=kv.length<=4090/\2+p.u+pU kv+2*(kv.length+1)+jv value<=p.P/\p.P<=p.N
theorem RT.TN (h:RT p kv w)(key:ByteArray)(hl:kv.length<=4090)(hg:1<=key.size/\key.size<=128):
  Calls Tryz.prog 68 #[.pointer (some ⟨p.t,0,none⟩),.string key] w fun e w'=>e= .returned (.tuple #[.string ((dG kv key).getD ByteArray.empty),.bool (dG kv key).isSome,.int .i64 0])/\Below w.heap.size w w':=by
 obtain⟨ch,ht⟩:=h.ts
 exact ht.TM key hl hg
theorem RT.MN (h:RT p kv w)(key value:ByteArray)(hg:1<=key.size/\key.size<=128)(hv:value.size<=49152)(hr:p.room kv value):
  Calls Tryz.prog 72 #[.pointer (some ⟨p.t,0,none⟩),.string key,.string value] w fun e w'=>e= .returned (.int .i64 0)/\RT p (jT kv key value) w'/\Keep (fun g=>¬p.F g) w w':=by
 obtain⟨ch,ht⟩:=h.ts
 obtain⟨r1,r2,r3⟩:=hr
 refine(ht.put key value r1 hg hv r2).mono ?_
 rintro e w' (⟨rfl,q⟩|⟨_,q,_⟩)
 ·exact⟨rfl,⟨⟨_,q.Uh⟩,(q.block h.fb).trans h.obj,h.fb⟩,q.Sv⟩
 ·omega
end
def TP.rm (p:TP)(kv:List Pr)(k:Nat):Prop:=kv.length+k<=4000/\2+p.u+pU kv+2*(kv.length+k)<=p.P/\p.P<=p.N
theorem TP.rm.room {p:TP}{kv:List Pr}{k:Nat}{value:ByteArray}(h:p.rm kv (k+1))(hv:value.size<=63):p.room kv value:=by
 obtain⟨h1,h2,h3⟩:=h
 have hb:jv value=0:=if_pos hv
 exact⟨by omega,by rw[hb];omega,h3⟩
theorem TP.rm.ins {p:TP}{kv:List Pr}{k:Nat}{value:ByteArray}(h:p.rm kv (k+1))(hv:value.size<=63)(key:ByteArray):p.rm (jT kv key value) k:=by
 obtain⟨h1,h2,h3⟩:=h
 have hb:jv value=0:=if_pos hv
 have e1:=La kv key value
 have e2:=Nb kv key value
 exact⟨by omega,by omega,h3⟩
theorem OC (t:Nat)(w:World):Calls Tryz.prog 5 #[.pointer (some ⟨t,0,none⟩)] w fun e w'=>e= .returned (.pointer (some ⟨w.heap.size,0,none⟩))/\w'.heap[w.heap.size]? =some (.cells #[.pointer (some ⟨t,0,none⟩)] 68 (0,0))/\Below w.heap.size w w':=by
 have hb:=aF w (.cells #[.pointer (some ⟨t,0,none⟩)] 68)
 have hn:=aK w (.cells #[.pointer (some ⟨t,0,none⟩)] 68)
 go_enter Tryz.func5,Tryz.ntmps5
 go_wp2
 go_ret
 exact⟨rfl,hn,hb⟩
theorem ED (w:World):Calls Tryz.prog 5 #[.pointer none] w fun e w'=>e= .returned (.pointer none)/\w'=w:=by
 go_enter Tryz.func5,Tryz.ntmps5
 go_wp2
 go_ret
 exact⟨rfl,rfl⟩
theorem Md (w:World):Calls Tryz.prog 69 #[.int .i64 0] w fun e w'=>e= .returned (.tuple #[])/\w'=w:=by
 go_enter Tryz.func69,Tryz.ntmps69
 go_wp2
 go_end0
 exact⟨rfl,rfl⟩
def EK (e:Int):List PanicEntry:=[{v:= .iface 131 (.agg #[.int .i64 e]),recovered:=false}]
theorem og (n:Int)(w:World):Calls Tryz.prog 27 #[.bool false,.int .i64 n] w fun e w'=>e= .returned (.tuple #[])/\w'=w:=by
 go_enter Tryz.func27,Tryz.ntmps27
 go_wp2
 go_end0
 exact⟨rfl,rfl⟩
theorem Cn (n:Int)(w:World):Calls Tryz.prog 27 #[.bool true,.int .i64 n] w fun e w'=>e= .panicked (EK n)/\w'=w:=by
 go_enter Tryz.func27,Tryz.ntmps27
 go_wp2
 exact⟨rfl,rfl,rfl⟩
section
variable {p:TP} {kv:List Pr} {w:World}
theorem RT.get (h:RT p kv w)(key:ByteArray)(hl:kv.length<=4090)(hg:1<=key.size/\key.size<=128):
  Calls Tryz.prog 25 #[.pointer (some ⟨p.x,0,none⟩),.string key] w fun e w'=>e= .returned (.tuple #[.string ((dG kv key).getD ByteArray.empty),.bool (dG kv key).isSome])/\Below w.heap.size w w':=by
 have HG:=af (h.TN key hl hg)
 have c0:=h.c0
 have hlt:=h.lt
 obtain⟨q,hq⟩:∃q,Hid (dG kv key=q):=⟨_,af rfl⟩
 rw[hq.out] at HG ⊢
 clear h hl hg
 go_enter Tryz.func25,Tryz.ntmps25
 go_wp2_with (first
  |(go_at_call 68;go_must (refine HG.out.mono ?_;rintro e w1 ⟨rfl,hb1⟩))
  |(go_at_call 69;go_must (refine(Md _).mono ?_;rintro e w2 ⟨rfl,rfl⟩)))
 go_ret2
 exact⟨rfl,hb1⟩
theorem RT.put (h:RT p kv w)(key value:ByteArray)(hg:1<=key.size/\key.size<=128)(hv:value.size<=49152)(hr:p.room kv value):
  Calls Tryz.prog 34 #[.pointer (some ⟨p.x,0,none⟩),.string key,.string value] w fun e w'=>e= .returned (.tuple #[])/\RT p (jT kv key value) w'/\Keep (fun g=>¬p.F g) w w':=by
 have HG:=af (h.MN key value hg hv hr)
 have c0:=h.c0
 have hlt:=h.lt
 clear h hg hv hr
 go_enter Tryz.func34,Tryz.ntmps34
 go_wp2_with (first
  |(go_at_call 72;go_must (refine HG.out.mono ?_;rintro e w1 ⟨rfl,hR,hk⟩))
  |(go_at_call 69;go_must (refine(Md _).mono ?_;rintro e w2 ⟨rfl,rfl⟩)))
 go_end0
 exact⟨rfl,hR,hk⟩
theorem RT.Qz (h:RT p [] w)(key:ByteArray):
  Calls Tryz.prog 29 #[.pointer (some ⟨p.x,0,none⟩),.string key] w fun e w'=>e= .returned (.slice none 0 0)/\Below w.heap.size w w':=by
 obtain⟨ch,ht⟩:=h.ts
 have HS:=af (ht.scan key 201 (by simp))
 have c0:=h.c0
 have hlt:=h.lt
 clear h ht
 go_enter Tryz.func29,Tryz.ntmps29
 go_wp2_with (first
  |(go_at_call 70;go_must (refine HS.out.mono ?_;rintro e w1 ⟨x,rfl,hx,_,hb1⟩;refine Stop.of ?_)))
 refine Stop.on ?_
 have hz:(ve ([]:List Pr) key 201).length=0:=by unfold ve;simp
 rw[hz] at hx
 obtain⟨xo,xc,rfl,_,_,_,_⟩:=je.form hx.O8
 have HB:=af hb1
 clear hx hb1 hz
 go_wp2_with (first
  |(go_at_call 69;go_must (refine(Md _).mono ?_;rintro e w2 ⟨rfl,hw2⟩;subst w2)))
 go_loopw [7,9,10,11,25] (fun o _ _ _ i wr=>o= .slice none 0 0/\i= .int .i64 0/\wr=w1) (fun _ _ _ _ _ _=>0)
 case atStart=>exact⟨rfl,rfl,rfl⟩
 case round=>
  obtain⟨rfl,rfl,hw⟩:=hrel
  subst wr
  go_wp2_with fail
  go_ret
  exact⟨rfl,HB.out⟩
end
theorem OP (rb:Nat)(w:World)(h:uW w rb []):
  Calls Tryz.prog 44 #[.pointer (some ⟨rb,0,none⟩)] w fun e w'=>e= .returned (.int .i64 0)/\Keep (· =rb) w w':=by
 have hc:Calls Tryz.prog 78 #[.pointer (some ⟨rb,0,none⟩),.int .i64 8] w fun e w'=>e= .returned (.string ⟨#[]⟩)/\Keep (· =rb) w w':=by
  obtain⟨c0,c1,f0,lr⟩:=h.cells
  have hsz:(strOf []).size=0:=rfl
  have f1:w.frozen? ⟨rb,1,none⟩=false:=by unfold uW at h;simp[World.frozen?,h]
  have HK:=af ((Keep.refl (· =rb) w).setCell (p:=⟨rb,1,none⟩) (.inr rfl) (.bool true))
  obtain⟨s,hs⟩:∃s,Hid (strOf []=s):=⟨_,af rfl⟩
  rw[hs.out] at c0 hsz
  clear h
  go_enter Tryz.func78,Tryz.ntmps78
  go_wp2
  go_ret
  exact⟨rfl,HK.out⟩
 have HC:=af hc
 clear hc h
 go_enter Tryz.func44,Tryz.ntmps44
 go_wp2_with (first
  |(go_at_call 78;go_must (refine HC.out.mono ?_;rintro e w1 ⟨rfl,hk1⟩)))
 go_loopw [4,5] (fun n i wr=>n= .int .i64 0/\i= .int .i64 (-1)/\wr=w1) (fun _ _ _=>0)
 case atStart=>exact⟨rfl,rfl,rfl⟩
 case round=>
  obtain⟨rfl,rfl,hw⟩:=hrel
  subst wr
  go_wp2_with fail
  go_ret
  exact⟨rfl,hk1⟩
theorem GU (ao:Option Addr)(path:List ByteArray)(c:Nat)(S:Nat->Prop)(w:World)(hp:nG w S (.slice ao path.length c) path)(h0:path≠[]):
  Calls Tryz.prog 32 #[.slice ao path.length c] w fun e w'=>e= .returned (.tuple #[.slice ao (path.length - 1) c,.string (path.getLast h0)])/\Below w.heap.size w w':=by
 obtain⟨n,hn⟩:∃n,path.length=n+1:=⟨path.length - 1,by have:=bS.2 h0;omega⟩
 have hgl:path[n]? =some (path.getLast h0):=by
  have:=List.getLast?_eq_some_getLast h0
  rw[zU,hn] at this
  exact this
 obtain⟨b,o,rfl,d0⟩:=je.Bt hp rfl n (.string (path.getLast h0)) (by rw[dM,hgl];rfl)
 obtain⟨s,hs⟩:∃s,Hid (path.getLast h0=s):=⟨_,af rfl⟩
 obtain⟨_,_,e,hc1,hc2,_,_⟩:=je.form hp
 cases e
 rw[hs.out] at d0 ⊢
 rw[hn] at hc1 ⊢
 rw[show n+1 - 1=n by omega]
 have hbl:=aH w _ d0
 clear hp hs hgl
 have x1:IntKind.i64.wrap ((n:Int)+1 - 1)=(n:Int):=by rw[fU];omega
 have x2:(0:Int)<=(n:Int):=by omega
 have x3:(n:Int)<=(c:Int):=by omega
 have x4:(n:Int)<(n:Int)+1:=by omega
 go_enter Tryz.func32,Tryz.ntmps32
 go_upto_region 1 with (fail)
 go_quiet (fail)
 go_wp2_with fail
 go_ret2
 exact⟨rfl,Dl (aO _ _) _⟩
section
variable {p:TP} {kv:List Pr} {w:World}
def Tg (kv:List Pr)(key:ByteArray)(n:Int):Prop:=(dG kv key=none/\n=0)\/(dG kv key=some (strOf (ku n))/\0<=n/\n<1000000)
theorem RT.count (h:RT p kv w)(key:ByteArray)(n:Int)(hl:kv.length<=4090)(hg:1<=key.size/\key.size<=128)(hc:Tg kv key n)(hr:p.room kv (strOf (ku (n+1)))):
  Calls Tryz.prog 35 #[.pointer (some ⟨p.x,0,none⟩),.string key] w fun e w'=>e= .returned (.int .i64 (n+1))/\RT p (jT kv key (strOf (ku (n+1)))) w'/\Keep (fun g=>¬p.F g) w w':=by
 have HG:=af (h.get key hl hg)
 obtain⟨s,hs,hs2⟩:∃s:List UInt8,(dG kv key).getD ByteArray.empty=strOf s/\((s=[]/\n=0)\/(s=ku n/\0<=n/\n<1000000)):=by
  rcases hc with ⟨h1,h2⟩|⟨h1,h2⟩
  ·exact⟨[],by rw[h1];rfl,.inl ⟨rfl,h2⟩⟩
  ·exact⟨ku n,by rw[h1];rfl,.inr ⟨rfl,h2⟩⟩
 have hn:0<=n/\n<1000000:=by rcases hs2 with ⟨_,rfl⟩|⟨_,h⟩<;>omega
 rw[hs] at HG
 obtain⟨q,hq⟩:∃q,Hid ((dG kv key).isSome=q):=⟨_,af rfl⟩
 rw[hq.out] at HG
 have HN:=af (fun (rb:Nat) (W:World) (hR:uW W rb s)=>show Calls Tryz.prog 44 #[.pointer (some ⟨rb,0,none⟩)] W fun e w'=>e= .returned (.int .i64 n)/\Keep (· =rb) W w' by
  rcases hs2 with ⟨rfl,rfl⟩|⟨rfl,_⟩
  ·exact OP rb W hR
  ·refine(H8 rb n [] W (by rw[dW];exact hR) (by omega)).mono ?_
   rintro e w' ⟨rfl,_,hk⟩
   exact⟨rfl,hk⟩)
 have HH:=af (ay h (ay hg hr))
 clear h hs hs2 hc hq hg hr
 have hwr:IntKind.i64.wrap (n+1)=n+1:=by rw[fU];omega
 have HNN:=af hn
 clear hn
 go_enter Tryz.func35,Tryz.ntmps35
 go_wp2_with (first
  |(go_at_call 25;go_must (refine HG.out.mono ?_;rintro e w1 ⟨rfl,hb1⟩;refine Stop.of ?_)))
 refine Stop.on ?_
 have hb2:=aF w1 (.cells #[.string (strOf s),.bool false] 93)
 have hR2:uW (w1.alloc (.cells #[.string (strOf s),.bool false] 93)) w1.heap.size s:=aK w1 _
 have hb12:=hb1.trans (hb2.mono hb1.size)
 have hn2:=HN.out w1.heap.size _ hR2
 have hlo:=hb1.size
 have HX:=af (ay hb12 hlo)
 have HN2:=af hn2
 clear hb1 hb2 hR2 hb12 hn2 hlo
 go_wp2_with (first
  |(go_at_call 44;go_must (refine HN2.out.mono ?_;rintro e w3 ⟨rfl,hk3⟩;refine Stop.of ?_)))
 refine Stop.on ?_
 have hb3:Below w.heap.size w w3:=HX.out.1.trans (hk3.fP HX.out.1.size fun g hg e=>by have:=HX.out.2;omega)
 have hb4:=aF w3 (.cells #[.pointer none,.slice none 0 0] 146)
 have hP4:zI (w3.alloc (.cells #[.pointer none,.slice none 0 0] 146)) w3.heap.size w3.heap.size []:=⟨ax _,_,_,.inl rfl,aK w3 _,aP.nil _ _ _ _ _⟩
 have hn4:=Ia w3.heap.size w3.heap.size [] (n+1) _ hP4 (by simp) (by simp)
 have HX3:=af (ay hb3 hb4)
 have HN4:=af hn4
 clear hk3 hb3 hb4 hP4 hn4
 go_wp2_with (first
  |(go_at_call 73;go_must (refine HN4.out.mono ?_;rintro e w5 ⟨rfl,hP5,hb5⟩;refine Stop.of ?_)))
 refine Stop.on ?_
 have hd5:=Jm _ _ _ w5 hP5 (by rw[fM];intro e;have:=gD (n+1);rw[e] at this;simp at this)
 rw[fM] at hd5
 have hb15:Below w.heap.size w w5:=HX3.out.1.trans ((HX3.out.2.trans (hb5.mono (ax _))).mono HX3.out.1.size)
 have hsz:w3.heap.size<=w5.heap.size:=aI HX3.out.2.size hb5.size
 have HX5:=af (ay hb15 hsz)
 have HD5:=af hd5
 clear hP5 hb5 hd5 hb15 hsz
 go_wp2_with (first
  |(go_at_call 74;go_must (refine HD5.out.mono ?_;rintro e w6 ⟨rfl,hb6⟩;refine Stop.of ?_)))
 refine Stop.on ?_
 have hb16:Below w.heap.size w w6:=HX5.out.1.trans (hb6.mono (aI HX3.out.1.size (ax _)))
 have hT6:=HH.out.1.below hb16
 have hp6:=hT6.put key (strOf (ku (n+1))) HH.out.2.1 (by rw[oh,gD];omega) HH.out.2.2
 have HB16:=af hb16
 have HP6:=af hp6
 clear hb6 hb16 hT6 hp6
 go_wp2_with (first
  |(go_at_call 34;go_must (refine HP6.out.mono ?_;rintro e w7 ⟨rfl,hT7,hk7⟩)))
 go_ret
 exact⟨rfl,hT7,(Keep.of_below HB16.out (fun g=>¬p.F g)).trans hk7 (fun _ _ e=>e)⟩
theorem Rq (a b c d:UInt8)(w:World):(convert 119 9 (.slice (some ⟨w.heap.size,0,none⟩) 4 4)).run Tryz.prog (w.alloc (.cells (aD [a,b,c,d]).toArray 5))= .ok (.string (strOf [a,b,c,d])) (w.alloc (.cells (aD [a,b,c,d]).toArray 5)):=by
 have hr:Row (w.alloc (.cells (aD [a,b,c,d]).toArray 5)) w.heap.size 5 (aD [a,b,c,d]):=Row.new w _ _
 have hs:bn (w.alloc (.cells (aD [a,b,c,d]).toArray 5)) gJ 1 (.slice (some ⟨w.heap.size,0,none⟩) 4 4) [a,b,c,d].length (aD [a,b,c,d]):=by
  have:=hr.cZ (S:=gJ) (k:=1) (off:=0) 4 4 (by simp[aD]) id (ax _) (by simp[maxLen])
  rw[eP,aG (by simp[aD])] at this
  exact this
 exact hs.strOf
def id1:ByteArray:=strOf [0,0,0,1]
theorem RT.Ri (h:RT p kv w)(hl:kv.length<=4090)(hc:dG kv ⟨#[105]⟩=none)(hr:p.room kv (strOf (ku 1))):
  Calls Tryz.prog 33 #[.pointer (some ⟨p.x,0,none⟩)] w fun e w'=>e= .returned (.string id1)/\RT p (jT kv ⟨#[105]⟩ (strOf (ku 1))) w'/\Keep (fun g=>¬p.F g) w w':=by
 have HC:=af (h.count ⟨#[105]⟩ 0 hl ⟨by decide,by decide⟩ (.inl ⟨hc,rfl⟩) hr)
 clear h hc hr
 go_enter Tryz.func33,Tryz.ntmps33
 go_wp2_with (first
  |(go_at_call 35;go_must (refine HC.out.mono ?_;rintro e w1 ⟨rfl,hT1,hk1⟩;refine Stop.of ?_)))
 refine Stop.on ?_
 have hcv:=Rq 0 0 0 1 w1
 have he:aD [0,0,0,1]=[.int .u8 0,.int .u8 0,.int .u8 0,.int .u8 1]:=rfl
 rw[he] at hcv
 have hbw:=aF w1 (.cells #[.int .u8 0,.int .u8 0,.int .u8 0,.int .u8 1] 5)
 have HX:=af (ay (hT1.below hbw) (hk1.trans (Keep.of_below hbw (fun _=>False)) (fun _ _ e=>e.elim)))
 clear hT1 hk1 hbw
 go_wp2
 go_ret
 exact⟨rfl,HX.out.1,HX.out.2⟩
def vO (k e:Int):ByteArray:=strOf (ku k++ku e)
theorem o6 (k e:Int):(vO k e).size=16:=by unfold vO;rw[oh,av,gD,gD]
def uT (i:ByteArray):ByteArray:=⟨#[110]⟩++i
def rQ (i:ByteArray):ByteArray:=⟨#[98]⟩++i
def tT (i s:ByteArray):ByteArray:=⟨#[99]⟩++i++s
theorem CK (i:ByteArray):(uT i).size=i.size+1:=by unfold uT;rw[nZ,show (⟨#[110]⟩:ByteArray).size=1 from rfl];omega
theorem yN (i:ByteArray):(rQ i).size=i.size+1:=by unfold rQ;rw[nZ,show (⟨#[98]⟩:ByteArray).size=1 from rfl];omega
theorem RT.save (h:RT p kv w)(i:ByteArray)(k e:Int)(hi:i.size<=100)(hr:p.room kv (vO k e)):
  Calls Tryz.prog 36 #[.pointer (some ⟨p.x,0,none⟩),.agg #[.string i,.int .i64 k,.int .i64 e]] w fun ex w'=>ex= .returned (.tuple #[])/\RT p (jT kv (uT i) (vO k e)) w'/\Keep (fun g=>¬p.F g) w w':=by
 have hb1:=aF w (.cells #[.string i,.int .i64 k,.int .i64 e] 71)
 have hn1:=aK w (.cells #[.string i,.int .i64 k,.int .i64 e] 71)
 obtain⟨w1,hw1⟩:∃w1:World,Hid (w.alloc (.cells #[.string i,.int .i64 k,.int .i64 e] 71)=w1):=⟨_,af rfl⟩
 rw[hw1.out] at hb1 hn1
 obtain⟨nb,hnb⟩:∃nb:Nat,Hid (w.heap.size=nb):=⟨_,af rfl⟩
 rw[hnb.out] at hn1
 have e0:w1.cell? ⟨nb,0,none⟩=some (.string i):=by simp[World.cell?,hn1]
 have e1:w1.cell? ⟨nb,1,none⟩=some (.int .i64 k):=by simp[World.cell?,hn1]
 have e2:w1.cell? ⟨nb,2,none⟩=some (.int .i64 e):=by simp[World.cell?,hn1]
 have le:=(ah.1 hn1).1
 have HT:=af (ay h (ay hr hb1))
 have hks:=CK i
 have hadd:∀W:World,(Op.stringOp .add (⟨#[110]⟩:ByteArray) i).run Tryz.prog W= .ok (.string (uT i)) W:=fun W=>iH W _ _ (by show ((1:Nat):Int)<=_;omega) (by omega)
 have HK:=af (show 1<=(uT i).size/\(uT i).size<=128 by omega)
 obtain⟨ky,hky⟩:∃ky,Hid (uT i=ky):=⟨_,af rfl⟩
 rw[hky.out] at hadd HK ⊢
 clear h hr hb1 hn1 hks hi
 go_enter Tryz.func36,Tryz.ntmps36
 go_upto_region 1 with (fail)
 rw[hw1.out,hnb.out]
 refine aN (fun W=>Below w1.heap.size w1 W) (fun i=> !([4,7,10,11,12].contains i)) [0,1,2,3,5,6,8,9,4,7,10,11,12] rfl (by kernel_rfl) ((aO _ w1).drew) ?_
 repeat ((refine bL (v:= ?_) rfl rfl (fun _ _ _ h=>h) rfl (fun W hW=> ?_) ?_);rotate_left;(focus ((try dsimp only at hW);have q0:=(hW.cell (p:=⟨nb,0,none⟩) le).trans e0;have q1:=(hW.cell (p:=⟨nb,1,none⟩) le).trans e1;have q2:=(hW.cell (p:=⟨nb,2,none⟩) le).trans e2;have q6:=ak le hW.size;(go_simp;first|done|with_reducible rfl)));(try simp only[Act.put,ai,au,aj]))
 refine dA rfl rfl rfl ?_;intro K hK;go_simp
 have hbW:=(aF w1 (.cells #[.pointer none,.slice none 0 0] 146)).drew
 have hP0:zI (w1.alloc (.cells #[.pointer none,.slice none 0 0] 146)).drew w1.heap.size w1.heap.size []:=⟨ax _,_,_,.inl rfl,aK w1 _,aP.nil _ _ _ _ _⟩
 refine hK.out _ _ hbW ?_
 (try simp only[Act.put,ai,au,aj])
 have hbs:=hbW.size
 generalize (w1.alloc (.cells #[.pointer none,.slice none 0 0] 146)).drew=w2 at hP0 hbW hbs ⊢
 obtain⟨gb,hgb⟩:∃gb:Nat,Hid (w1.heap.size=gb):=⟨_,af rfl⟩
 rw[hgb.out] at hP0 hbs hbW
 rw[hgb.out]
 have HP0:=af hP0
 clear hP0
 refine dA rfl rfl rfl ?_;intro K hK;go_simp
 refine(Ia gb gb _ k w2 HP0.out hbs (by simp)).mono ?_;rintro e w3 ⟨rfl,hP3,hb3⟩
 have hbW3:Below gb w1 w3:=hbW.trans hb3
 have hbs3:gb<=w3.heap.size:=aI (iV hgb.out.symm) hbW3.size
 refine hK.out _ _ hbW3 ?_
 (try simp only[Act.put,ai,au,aj])
 refine dA rfl rfl rfl ?_;intro K hK;go_simp
 refine(Ia gb gb _ e w3 hP3 hbs3 (by simp[gD])).mono ?_;rintro e w4 ⟨rfl,hP4,hb4⟩
 have hbW4:Below gb w1 w4:=hbW3.trans hb4
 have hbs4:gb<=w4.heap.size:=aI (iV hgb.out.symm) hbW4.size
 refine hK.out _ _ hbW4 ?_
 (try simp only[Act.put,ai,au,aj])
 rw[fM] at hP4
 refine dA rfl rfl rfl ?_;intro K hK;go_simp
 refine(Jm gb gb _ w4 hP4 (by intro x;have:=congrArg List.length x;rw[av,gD] at this;simp at this)).mono ?_;rintro e w5 ⟨rfl,hb5⟩
 have hbW5:Below gb w1 w5:=hbW4.trans hb5
 refine hK.out _ _ hbW5 ?_
 (try simp only[Act.put,ai,au,aj])
 have hb15:Below w.heap.size w w5:=HT.out.2.2.trans (Below.mono (by rw[hgb.out] at*;exact hbW5) (by have:=HT.out.2.2.size;have:=hgb.out;omega))
 have hp5:=(HT.out.1.below hb15).put ky (vO k e) HK.out (by rw[o6];omega) HT.out.2.1
 unfold vO strOf at hp5
 refine jf rfl rfl rfl (by kernel_rfl) ?_;intro K hK;go_simp
 refine hp5.mono ?_;rintro e w6 ⟨rfl,hT6,hk6⟩
 refine hK.out _ _ ?_
 refine bO ?_
 go_end0
 refine⟨rfl,hT6,(Keep.of_below hb15 (fun g=>¬p.F g)).trans hk6 (fun _ _ e=>e)⟩
structure ND where
 i:ByteArray
 k:Int
 e:Int
def nd0:ND:=⟨⟨#[]⟩,0,0⟩
def nR:ND:=⟨⟨#[0,0,0,0]⟩,2,0⟩
def ND.row (n:ND):List Value:=[.string n.i,.int .i64 n.k,.int .i64 n.e]
theorem ND.one (n:ND):∀v∈n.row,v.oneCell'=true:=by
 intro v hv
 simp only[ND.row,bM,List.mem_nil_iff,zn] at hv
 rcases hv with rfl|rfl|rfl<;>rfl
theorem oW:(Tryz.prog.info? 71).map (·.size)=some 3:=by kernel_rfl
theorem iD {w:World}{b:Nat}{n:ND}(h:Row w b 71 n.row):w.cell? ⟨b,0,none⟩=some (.string n.i)/\w.cell? ⟨b,1,none⟩=some (.int .i64 n.k)/\w.cell? ⟨b,2,none⟩=some (.int .i64 n.e)/\w.frozen? ⟨b,0,none⟩=false/\w.frozen? ⟨b,1,none⟩=false/\w.frozen? ⟨b,2,none⟩=false/\b<w.heap.size:=by
 have h':w.heap[b]? =some (.cells #[.string n.i,.int .i64 n.k,.int .i64 n.e] 71 (0,0)):=h
 exact⟨by simp[World.cell?,h'],by simp[World.cell?,h'],by simp[World.cell?,h'],by simp[World.frozen?,h'],by simp[World.frozen?,h'],by simp[World.frozen?,h'],(ah.1 h').1⟩
def Ua (kv:List Pr)(i:ByteArray)(k e:Int):Prop:=dG kv (uT i)=some (vO k e)/\0<=k/\k<1000000/\0<=e/\e<1000000
theorem RT.load (h:RT p kv w)(i:ByteArray)(k e:Int)(hl:kv.length<=4090)(hi:i.size<=100)(hr:Ua kv i k e):
  Calls Tryz.prog 67 #[.pointer (some ⟨p.x,0,none⟩),.string i] w fun ex w'=>ex= .returned (.agg #[.string i,.int .i64 k,.int .i64 e])/\Below w.heap.size w w':=by
 obtain⟨hr,h1,h2,h3,h4⟩:=hr
 have hb1:=aF w (.cells #[.string ⟨#[]⟩,.int .i64 0,.int .i64 0] 71)
 have hn1:=aK w (.cells #[.string ⟨#[]⟩,.int .i64 0,.int .i64 0] 71)
 obtain⟨w1,hw1⟩:∃w1:World,Hid (w.alloc (.cells #[.string ⟨#[]⟩,.int .i64 0,.int .i64 0] 71)=w1):=⟨_,af rfl⟩
 rw[hw1.out] at hb1 hn1
 obtain⟨nb,hnb⟩:∃nb:Nat,Hid (w.heap.size=nb):=⟨_,af rfl⟩
 rw[hnb.out] at hn1
 have hks:=CK i
 have hG:=(h.below hb1).get (uT i) hl (by omega)
 rw[hr] at hG
 have HG:=af hG
 have hadd:∀W:World,(Op.stringOp .add (⟨#[110]⟩:ByteArray) i).run Tryz.prog W= .ok (.string (uT i)) W:=fun W=>iH W _ _ (by show ((1:Nat):Int)<=_;omega) (by omega)
 have HB1:=af (ay hb1 hn1)
 have HE:=af (ay h1 (ay h2 (ay h3 h4)))
 obtain⟨ky,hky⟩:∃ky,Hid (uT i=ky):=⟨_,af rfl⟩
 rw[hky.out] at hadd HG
 clear h hr hb1 hn1 hks hG h1 h2 h3 h4 hi
 go_enter Tryz.func67,Tryz.ntmps67
 go_upto_region 1 with (fail)
 rw[hw1.out,hnb.out]
 go_wp2_with (first
  |(go_at_call 25;go_must (refine HG.out.mono ?_;rintro e w2 ⟨rfl,hb2⟩;refine Stop.of ?_)))
 refine Stop.on ?_
 have hn2:=(hb2.block nb (ah.1 HB1.out.2).1).trans HB1.out.2
 have hb12:Below w.heap.size w w2:=HB1.out.1.trans (hb2.mono HB1.out.1.size)
 have hl2:=(ah.1 hn2).1
 obtain⟨rc,hrc⟩:∃rc,Hid (vO k e=rc):=⟨_,af rfl⟩
 have hR3:uW (w2.alloc (.cells #[.string (vO k e),.bool false] 93)) w2.heap.size (ku k++ku e):=aK w2 _
 have hb3:=aF w2 (.cells #[.string (vO k e),.bool false] 93)
 obtain⟨rb,hrb⟩:∃rb:Nat,Hid (w2.heap.size=rb):=⟨_,af rfl⟩
 have hn3:=(hb3.block nb hl2).trans hn2
 rw[hrb.out,hrc.out] at hR3
 rw[hrc.out] at hn3 hb3
 simp only[hrc.out]
 obtain⟨w3,hw3⟩:∃w3:World,Hid (w2.alloc (.cells #[.string rc,.bool false] 93)=w3):=⟨_,af rfl⟩
 rw[hw3.out] at hR3 hn3 hb3
 have hq1:=H8 rb k (ku e) w3 hR3 (by have:=HE.out;omega)
 have HQ1:=af hq1
 have HX:=af (ay hb12 (ay hb3 (ay hn3 hl2)))
 clear hb2 hn2 hb12 hl2 hR3 hb3 hn3 hq1
 go_upto_region 3 with (fail)
 rw[hw3.out,hrb.out]
 go_wp2_with (first
  |(go_at_call 44;go_must (refine HQ1.out.mono ?_;rintro e' w4 ⟨rfl,hR4,hk4⟩;refine Stop.of ?_)))
 refine Stop.on ?_
 have hq2:=H8 rb e [] w4 (by rw[dW];exact hR4) (by have:=HE.out;omega)
 have HQ2:=af (ay hq2 hk4)
 clear hq2 hR4 hk4
 go_wp2_with (first
  |(go_at_call 44;go_must (refine HQ2.out.1.mono ?_;rintro e' w5 ⟨rfl,_,hk5⟩;refine Stop.of ?_)))
 refine Stop.on ?_
 have hne:¬nb=rb:=by have:=HX.out.2.2.2;have:=hrb.out;omega
 have hk35:Keep (· =rb) w3 w5:=HQ2.out.2.trans hk5 (fun _ _ e=>e)
 have hn5:Row w5 nb 71 nd0.row:=(hk35.block nb (ah.1 HX.out.2.2.1).1 hne).trans HX.out.2.2.1
 have hB5:Below w.heap.size w w5:=(HX.out.1.trans (HX.out.2.1.mono HX.out.1.size)).trans (hk35.fP (aI HX.out.1.size HX.out.2.1.size) fun g hg e=>by have:=HX.out.1.size;have:=hrb.out;omega)
 have HB5:=af hB5
 clear hk35 hB5 hk5
 go_wp2_with (first
  |((refine dh rfl ?_);intro K hK;(refine wp_store_row 71 (.tmp 4) (.tmp 23) rfl nb 0 71 _ (ND.row ⟨i,k,e⟩) rfl rfl hn5 oW (ax 3) (ND.one ⟨i,k,e⟩) ?_);intro w6 hr6 hk6;refine hK _ _ ?_))
 refine eO (vY rfl _ w6 nb 71 _ (0,0) _ rfl hr6 Lp rfl (by kernel_rfl)) rfl ?_
 exact⟨rfl,HB5.out.trans (hk6.fP HB5.out.size fun g hg e=>by have:=hnb.out;omega)⟩
end
def nH (kv:List Pr):List ByteArray->ND->ND->Prop
 |[],n,m=>m=n
 |s::r,n,m=>s.size<=64/\((dG kv (tT n.i s)=none/\m=nd0)\/(n.k=2/\∃o:ND,dG kv (tT n.i s)=some o.i/\o.i.size<=4/\Ua kv o.i o.k o.e/\nH kv r o m))
section
variable {p:TP} {kv:List Pr} {w:World}
theorem RT.find (h:RT p kv w)(pv:Value)(path:List ByteArray)(S:Nat->Prop)(hp:nG w S pv path)(m:ND)(hl:kv.length<=4090)(hf:nH kv path nR m):
  Calls Tryz.prog 24 #[.pointer (some ⟨p.x,0,none⟩),pv] w fun ex w'=>ex= .returned (.agg #[.string m.i,.int .i64 m.k,.int .i64 m.e])/\Below w.heap.size w w':=by
 obtain⟨po,pc,rfl,hn1,hn2,_,_⟩:=je.form hp
 have hb1:=aF w (.cells #[.string ⟨#[]⟩,.int .i64 0,.int .i64 0] 71)
 have hn1':=aK w (.cells #[.string ⟨#[]⟩,.int .i64 0,.int .i64 0] 71)
 obtain⟨w1,hw1⟩:∃w1:World,Hid (w.alloc (.cells #[.string ⟨#[]⟩,.int .i64 0,.int .i64 0] 71)=w1):=⟨_,af rfl⟩
 have hs1:w1.heap.size=w.heap.size+1:=by rw[<-hw1.out];simp
 rw[hw1.out] at hb1 hn1'
 have hb2:=aF w1 (.cells #[.string ⟨#[0,0,0,0]⟩,.int .i64 2,.int .i64 0] 71)
 have hn2':=aK w1 (.cells #[.string ⟨#[0,0,0,0]⟩,.int .i64 2,.int .i64 0] 71)
 obtain⟨w2,hw2⟩:∃w2:World,Hid (w1.alloc (.cells #[.string ⟨#[0,0,0,0]⟩,.int .i64 2,.int .i64 0] 71)=w2):=⟨_,af rfl⟩
 rw[hw2.out] at hb2 hn2'
 obtain⟨rb,hrb⟩:∃rb:Nat,Hid (w.heap.size=rb):=⟨_,af rfl⟩
 obtain⟨nb,hnb⟩:∃nb:Nat,Hid (rb+1=nb):=⟨_,af rfl⟩
 rw[hs1,hrb.out,hnb.out] at hn2'
 rw[hrb.out] at hn1'
 have hR2:Row w2 rb 71 nd0.row:=(hb2.block rb (ah.1 hn1').1).trans hn1'
 have hN2:Row w2 nb 71 nR.row:=hn2'
 have hb12:Below w.heap.size w w2:=hb1.trans (hb2.mono hb1.size)
 have HA:=af (ay h (ay hp (ay hl (show w.heap.size<=rb/\w.heap.size<=nb/\rb≠nb by have:=hrb.out;have:=hnb.out;omega))))
 have HS:=af (ay hR2 (ay hN2 (ay hb12 hf)))
 have HS1:=af hs1
 clear h hp hl hf hb1 hb2 hn1' hn2' hs1 hR2 hN2 hb12
 go_enter Tryz.func24,Tryz.ntmps24
 go_upto_region 1 with (fail)
 rw[hw1.out,hrb.out]
 go_upto_region 2 with (fail)
 rw[HS1.out,hrb.out,hnb.out,hw2.out]
 go_upto_region 3 with (fail)
 go_loopw [7,8,9,13] (fun _ _ _ i wr=>∃(j:Nat) (n:ND),j<=path.length/\i= .int .i64 j/\nH kv (path.drop j) n m/\n.i.size<=4/\Row wr nb 71 n.row/\Row wr rb 71 nd0.row/\Below w.heap.size w wr) (fun _ _ _ i _=>path.length - (intOf i).toNat)
 case atStart=>exact⟨0,nR,bf _,rfl,HS.out.2.2.2,by decide,HS.out.2.1,HS.out.1,HS.out.2.2.1⟩
 case round=>
  obtain⟨j,n,hj,rfl,hf,hni,hN,hR,hbw⟩:=hrel
  obtain⟨c0,c1,c2,f0,f1,f2,ln⟩:=iD hN
  by_cases hjl:j<path.length
  ·have hjl':(j:Int)<(path.length:Int):=by omega
   obtain⟨ga,oa,rfl,da⟩:=je.Bt (je.below HA.out.2.1 hbw) rfl j (.string path[j]) (by rw[dM,bF hjl];rfl)
   have la:=aH wr _ da
   have hdr:path.drop j=path[j]::path.drop (j+1):=cO hjl
   rw[hdr] at hf
   obtain⟨sg,hsg⟩:∃sg,Hid (path[j]=sg):=⟨_,af rfl⟩
   rw[hsg.out] at da hf
   obtain⟨hs64,hf⟩:=hf
   have hz1:(⟨#[99]⟩:ByteArray).size=1:=rfl
   have ha1:∀W:World,(Op.stringOp .add (⟨#[99]⟩:ByteArray) n.i).run Tryz.prog W= .ok (.string (⟨#[99]⟩++n.i)) W:=fun W=>iH W _ _ (by show ((1:Nat):Int)<=_;omega) (by omega)
   have hz2:((⟨#[99]⟩:ByteArray)++n.i).size=n.i.size+1:=by rw[nZ,hz1];omega
   have ha2:∀W:World,(Op.stringOp .add ((⟨#[99]⟩:ByteArray)++n.i) sg).run Tryz.prog W= .ok (.string (tT n.i sg)) W:=fun W=>iH W _ _ (by rw[hz2];omega) (by omega)
   have hks:(tT n.i sg).size=n.i.size+1+sg.size:=by unfold tT;rw[nZ,hz2]
   have hG:=(HA.out.1.below hbw).get (tT n.i sg) HA.out.2.2.1 (by omega)
   have HX:=af (ay hN (ay hR hbw))
   obtain⟨ky,hky⟩:∃ky,Hid (tT n.i sg=ky):=⟨_,af rfl⟩
   rw[hky.out] at ha2 hf hG
   obtain⟨kc,hkc⟩:∃kc,Hid ((⟨#[99]⟩:ByteArray)++n.i=kc):=⟨_,af rfl⟩
   rw[hkc.out] at ha1 ha2
   rcases hf with ⟨hno,hm⟩|⟨hk2,o,hyes,ho4,hrc,hf⟩
   ·rw[hno] at hG
    have HG:=af hG
    have HM:=af hm
    clear hm hno hG hks hz1 hz2 hs64 hni hN hR hbw hdr
    go_wp2_with (first
     |(go_at_call 25;go_must (refine HG.out.mono ?_;rintro e w3 ⟨rfl,hb3⟩;refine Stop.of ?_)))
    refine Stop.on ?_
    have hR3:Row w3 rb 71 nd0.row:=(hb3.block rb (ah.1 HX.out.2.1).1).trans HX.out.2.1
    have hbb3:=HX.out.2.2.trans (hb3.mono HX.out.2.2.size)
    have HB3:=af hbb3
    clear c0 c1 c2 f0 f1 f2 ln da la hb3 hbb3
    go_wp2_with (first
     |((refine dh rfl ?_);intro K hK;(refine wp_store_row 71 (.tmp 4) (.tmp 34) rfl rb 0 71 _ nd0.row rfl rfl hR3 oW (ax 3) nd0.one ?_);intro w4 hr4 hk4;refine hK _ _ ?_))
    refine eO (vY rfl _ w4 rb 71 _ (0,0) _ rfl hr4 Lp rfl (by kernel_rfl)) rfl ?_
    rw[HM.out]
    exact⟨rfl,HB3.out.trans (hk4.fP HB3.out.size fun g hg e=>by have:=HA.out.2.2.2.1;omega)⟩
   ·rw[hyes] at hG
    have HG:=af hG
    have HF:=af (ay hf (ay ho4 hrc))
    clear hf hyes hG hks hz1 hz2 hs64 hni hN hR hbw hdr ho4 hrc
    rw[hk2] at c1
    go_wp2_with (first
     |(go_at_call 25;go_must (refine HG.out.mono ?_;rintro e w3 ⟨rfl,hb3⟩;refine Stop.of ?_)))
    refine Stop.on ?_
    have hN3:Row w3 nb 71 n.row:=(hb3.block nb (ah.1 HX.out.1).1).trans HX.out.1
    have hR3:Row w3 rb 71 nd0.row:=(hb3.block rb (ah.1 HX.out.2.1).1).trans HX.out.2.1
    have hbb3:=HX.out.2.2.trans (hb3.mono HX.out.2.2.size)
    have hL:=(HA.out.1.below hbb3).load o.i o.k o.e HA.out.2.2.1 (by have:=HF.out.2.1;omega) HF.out.2.2
    have HX3:=af (ay hN3 (ay hR3 hbb3))
    have HL:=af hL
    clear c0 c1 c2 f0 f1 f2 ln da la hb3 hbb3 hR3 hL
    obtain⟨c0,c1,c2,f0,f1,f2,ln⟩:=iD hN3
    rw[hk2] at c1
    clear hN3
    go_wp2_with (first
     |(go_at_call 67;go_must (refine HL.out.mono ?_;rintro e w4 ⟨rfl,hb4⟩;refine Stop.of ?_)))
    refine Stop.on ?_
    have hN4:Row w4 nb 71 n.row:=(hb4.block nb (ah.1 HX3.out.1).1).trans HX3.out.1
    have hR4:Row w4 rb 71 nd0.row:=(hb4.block rb (ah.1 HX3.out.2.1).1).trans HX3.out.2.1
    have HB4:=af (ay hR4 (HX3.out.2.2.trans (hb4.mono HX3.out.2.2.size)))
    clear c0 c1 c2 f0 f1 f2 ln hb4 hR4
    go_wp2_with (first
     |((refine dh rfl ?_);intro K hK;(refine wp_store_row 71 (.tmp 5) (.tmp 37) rfl nb 0 71 _ o.row rfl rfl hN4 oW (ax 3) o.one ?_);intro w5 hr5 hk5;refine hK _ _ ?_))
    have hfin:Row w5 nb 71 o.row/\Row w5 rb 71 nd0.row/\Below w.heap.size w w5:=
     ⟨hr5,(hk5.block rb (ah.1 HB4.out.1).1 HA.out.2.2.2.2.2).trans HB4.out.1,HB4.out.2.trans (hk5.fP HB4.out.2.size fun g hg e=>by have:=HA.out.2.2.2.2.1;omega)⟩
    have HFIN:=af hfin
    clear hfin hr5 hk5 hN4
    go_wp2_with fail
    go_roundw
    case rel=>exact⟨j+1,o,by omega,by go_num,HF.out.1,HF.out.2.1,HFIN.out.1,HFIN.out.2.1,HFIN.out.2.2⟩
    case measure=>simp[intOf];omega
  ·obtain rfl:j=path.length:=by omega
   have x2:¬(path.length:Int)<(path.length:Int):=by omega
   rw[jP] at hf
   have hm:m=n:=hf
   subst hm
   have HB:=af hbw
   clear hf hbw hN hni
   go_wp2_with (first
    |((refine dh rfl ?_);intro K hK;(refine wp_store_row 71 (.tmp 4) (.tmp 39) rfl rb 0 71 _ m.row rfl rfl hR oW (ax 3) m.one ?_);intro w4 hr4 hk4;refine hK _ _ ?_))
   refine eO (vY rfl _ w4 rb 71 _ (0,0) _ rfl hr4 Lp rfl (by kernel_rfl)) rfl ?_
   exact⟨rfl,HB.out.trans (hk4.fP HB.out.size fun g hg e=>by have:=HA.out.2.2.2.1;omega)⟩
theorem nG.init {w:World}{S:Nat->Prop}{po:Option Addr}{pc:Nat}{path:List ByteArray}(h:nG w S (.slice po path.length pc) path):nG w S (.slice po (path.length - 1) pc) path.dropLast:=by
 have h1:=je.upto h (path.length - 1) (by omega)
 rw[aT,<-gG,<-List.dropLast_eq_take] at h1
 have e:path.dropLast.length=path.length - 1:=List.length_dropLast
 unfold nG
 rw[e]
 exact h1
theorem RT.QR (h:RT p [] w)(po:Option Addr)(s:ByteArray)(pc:Nat)(S:Nat->Prop)(hp:nG w S (.slice po 1 pc) [s]):
  Calls Tryz.prog 31 #[.pointer (some ⟨p.x,0,none⟩),.slice po 1 pc] w fun ex w'=>ex= .returned (.agg #[.string ⟨#[0,0,0,0]⟩,.int .i64 2,.int .i64 0])/\Below w.heap.size w w':=by
 have hb1:=aF w (.cells #[.string ⟨#[]⟩,.int .i64 0,.int .i64 0] 71)
 have hn1:=aK w (.cells #[.string ⟨#[]⟩,.int .i64 0,.int .i64 0] 71)
 obtain⟨w1,hw1⟩:∃w1:World,Hid (w.alloc (.cells #[.string ⟨#[]⟩,.int .i64 0,.int .i64 0] 71)=w1):=⟨_,af rfl⟩
 rw[hw1.out] at hb1 hn1
 have hsp:=GU po [s] pc S w1 (je.below hp hb1) (by simp)
 have HSP:=af hsp
 have hpi:=nG.init (path:=[s]) hp
 have HA:=af (ay h (ay hpi (ay hb1 hn1)))
 clear h hp hb1 hn1 hsp hpi
 obtain⟨rb,hrb⟩:∃rb:Nat,Hid (w.heap.size=rb):=⟨_,af rfl⟩
 go_enter Tryz.func31,Tryz.ntmps31
 go_upto_region 1 with (fail)
 rw[hw1.out,hrb.out]
 go_wp2_with (first
  |(go_at_call 32;go_must (refine HSP.out.mono ?_;rintro e w2 ⟨rfl,hb2⟩;refine Stop.of ?_)))
 refine Stop.on ?_
 have hb12:=HA.out.2.2.1.trans (hb2.mono HA.out.2.2.1.size)
 have hf:=(HA.out.1.below hb12).find _ _ _ (je.below HA.out.2.1 hb12) nR (by simp) (show nH [] [] nR nR from rfl)
 have hq2:=(hb2.block _ (ah.1 HA.out.2.2.2).1).trans HA.out.2.2.2
 have HB2:=af (ay hb12 hq2)
 have HF:=af hf
 clear hb2 hb12 hf hq2
 go_wp2_with (first
  |(go_at_call 24;go_must (refine HF.out.mono ?_;rintro e w3 ⟨rfl,hb3⟩;refine Stop.of ?_)))
 refine Stop.on ?_
 have hb4:=aF w3 (.cells #[.string nR.i,.int .i64 nR.k,.int .i64 nR.e] 71)
 have hn4:=aK w3 (.cells #[.string nR.i,.int .i64 nR.k,.int .i64 nR.e] 71)
 obtain⟨w4,hw4⟩:∃w4:World,Hid (w3.alloc (.cells #[.string nR.i,.int .i64 nR.k,.int .i64 nR.e] 71)=w4):=⟨_,af rfl⟩
 rw[hw4.out] at hb4 hn4
 obtain⟨nb,hnb⟩:∃nb:Nat,Hid (w3.heap.size=nb):=⟨_,af rfl⟩
 have hb34:=hb3.trans (hb4.mono hb3.size)
 have hb14:=HB2.out.1.trans (hb34.mono HB2.out.1.size)
 have hq4:=(hb34.block _ (ah.1 HB2.out.2).1).trans HB2.out.2
 rw[hrb.out] at hq4
 have hu:=(HA.out.1.below hb14).Qz (⟨#[99]⟩++⟨#[0,0,0,0]⟩)
 rw[hnb.out] at hn4
 obtain⟨c0,c1,c2,f0,f1,f2,ln⟩:=iD (n:=nR) hn4
 have HU:=af hu
 have HB4:=af (ay hb14 (ay hq4 hn4))
 have ha1:∀W:World,(Op.stringOp .add (⟨#[99]⟩:ByteArray) ⟨#[0,0,0,0]⟩).run Tryz.prog W= .ok (.string (⟨#[99]⟩++⟨#[0,0,0,0]⟩)) W:=fun W=>iH W _ _ (by decide) (by decide)
 obtain⟨ky,hky⟩:∃ky,Hid ((⟨#[99]⟩:ByteArray)++⟨#[0,0,0,0]⟩=ky):=⟨_,af rfl⟩
 rw[hky.out] at HU ha1
 unfold nR at c0 c1 c2
 dsimp only at c0 c1 c2
 clear hb3 hb4 hn4 hb34 hb14 hq4 hu
 go_upto_region 3 with (fail)
 rw[show nR.i=⟨#[0,0,0,0]⟩ from rfl,show nR.k=2 from rfl,show nR.e=0 from rfl] at hw4
 rw[show nR.i=⟨#[0,0,0,0]⟩ from rfl,show nR.k=2 from rfl,show nR.e=0 from rfl,hw4.out,hnb.out]
 go_wp2_with (first
  |(go_at_call 27;go_must (refine(og _ _).mono ?_;rintro e w5 ⟨rfl,hw5⟩;subst w5))
  |(go_at_call 29;go_must (refine HU.out.mono ?_;rintro e w5 ⟨rfl,hb5⟩;refine Stop.of ?_)))
 refine Stop.on ?_
 have hq5:Row w5 rb 71 nd0.row:=(hb5.block _ (ah.1 HB4.out.2.1).1).trans HB4.out.2.1
 have hn5:Row w5 nb 71 nR.row:=(hb5.block _ (ah.1 HB4.out.2.2).1).trans HB4.out.2.2
 have HB5:=af (HB4.out.1.trans (hb5.mono HB4.out.1.size))
 clear c0 c1 c2 f0 f1 f2 ln hb5
 obtain⟨c0,c1,c2,f0,f1,f2,ln⟩:=iD hn5
 unfold nR at c0 c1 c2
 dsimp only at c0 c1 c2
 clear hn5
 go_wp2_with (first
  |(go_at_call 27;go_must (refine(og _ _).mono ?_;rintro e w6 ⟨rfl,hw6⟩;subst w6))
  |((refine dh rfl ?_);intro K hK;(refine wp_store_row 71 (.tmp 4) (.tmp 28) rfl rb 0 71 _ nR.row rfl rfl hq5 oW (ax 3) nR.one ?_);intro w6 hr6 hk6;refine hK _ _ ?_))
 refine eO (vY rfl _ w6 rb 71 _ (0,0) _ rfl hr6 Lp rfl (by kernel_rfl)) rfl ?_
 exact⟨rfl,HB5.out.trans (hk6.fP HB5.out.size fun g hg e=>by have:=hrb.out;omega)⟩
theorem RT.MO (h:RT p kv w)(po:Option Addr)(path:List ByteArray)(pc:Nat)(S:Nat->Prop)(hp:nG w S (.slice po path.length pc) path)(h0:path≠[])(hl:kv.length<=4090)(hf:nH kv path.dropLast nR nd0):
  Calls Tryz.prog 31 #[.pointer (some ⟨p.x,0,none⟩),.slice po path.length pc] w fun ex w'=>ex= .panicked (EK 61)/\Below w.heap.size w w':=by
 have hb1:=aF w (.cells #[.string ⟨#[]⟩,.int .i64 0,.int .i64 0] 71)
 obtain⟨w1,hw1⟩:∃w1:World,Hid (w.alloc (.cells #[.string ⟨#[]⟩,.int .i64 0,.int .i64 0] 71)=w1):=⟨_,af rfl⟩
 rw[hw1.out] at hb1
 have hsp:=GU po path pc S w1 (je.below hp hb1) h0
 have HSP:=af hsp
 have hpi:=nG.init hp
 have HA:=af (ay h (ay hpi (ay hb1 (ay hl hf))))
 clear h hp hb1 hsp hpi hl hf
 obtain⟨rb,hrb⟩:∃rb:Nat,Hid (w.heap.size=rb):=⟨_,af rfl⟩
 obtain⟨pn,hpn⟩:∃pn:Nat,Hid (path.length - 1=pn):=⟨_,af rfl⟩
 go_enter Tryz.func31,Tryz.ntmps31
 go_upto_region 1 with (fail)
 rw[hw1.out,hrb.out]
 go_wp2_with (first
  |(go_at_call 32;go_must (refine HSP.out.mono ?_;rintro e w2 ⟨rfl,hb2⟩;refine Stop.of ?_)))
 refine Stop.on ?_
 have hb12:=HA.out.2.2.1.trans (hb2.mono HA.out.2.2.1.size)
 have hf:=(HA.out.1.below hb12).find _ _ _ (je.below HA.out.2.1 hb12) nd0 HA.out.2.2.2.1 HA.out.2.2.2.2
 have HB2:=af hb12
 have HF:=af hf
 clear hb2 hb12 hf
 go_wp2_with (first
  |(go_at_call 24;go_must (refine HF.out.mono ?_;rintro e w3 ⟨rfl,hb3⟩;refine Stop.of ?_)))
 refine Stop.on ?_
 have hb4:=aF w3 (.cells #[.string nd0.i,.int .i64 nd0.k,.int .i64 nd0.e] 71)
 have hb14:=HB2.out.trans ((hb3.trans (hb4.mono hb3.size)).mono HB2.out.size)
 have HB4:=af hb14
 clear hb3 hb4 hb14
 unfold nd0 at HB4 ⊢
 dsimp only at HB4 ⊢
 go_wp2_with (first
  |(go_at_call 27;go_must (refine(Cn _ _).mono ?_;rintro e w5 ⟨rfl,hw5⟩;subst w5)))
 exact⟨rfl,rfl,HB4.out⟩
end
end Go.Proofs.YtbfjgkafmlbpcaaGreatDoor
namespace Go.Proofs.YtbfjgkafmlbpcaaGreatDoor
open Go.RowKit Go.Shelf
noncomputable def sG:Go.Shelf.Ren:=⟨fun x=>match x with|119=>286|137=>120|152=>243|153=>196|217=>170|224=>287|225=>288|226=>244|227=>245|228=>246|266=>214|150=>146|196=>145|259=>195|103=>71|206=>157|210=>113|n=>n,fun x=>match x with|0=>0|3=>3|4=>4|5=>5|9=>9|12=>12|21=>21|24=>73|46=>126|53=>247|116=>357|117=>358|124=>380|119=>306|138=>308|139=>309|n=>n,fun x=>match x with|3=>0|4=>1|n=>n⟩
theorem vU:Lays.n150 Tryz.prog sG where
 mixed:=by kernel_rfl
 f119:=Tryz.func286.trans (congrArg some (by kernel_rfl))
 f137:=Tryz.func120.trans (congrArg some (by kernel_rfl))
 f150:=Tryz.func146.trans (congrArg some (by kernel_rfl))
 f152:=Qn.trans (congrArg some (by kernel_rfl))
 f153:=Tryz.func196.trans (congrArg some (by kernel_rfl))
 f217:=Tryz.func170.trans (congrArg some (by kernel_rfl))
 f224:=Tryz.func287.trans (congrArg some (by kernel_rfl))
 f225:=Tryz.func288.trans (congrArg some (by kernel_rfl))
 f226:=Tryz.func244.trans (congrArg some (by kernel_rfl))
 f227:=Tryz.func245.trans (congrArg some (by kernel_rfl))
 f228:=Tryz.func246.trans (congrArg some (by kernel_rfl))
 f266:=Tryz.func214.trans (congrArg some (by kernel_rfl))
 t0:=oF
 a0:=BM
 z0:=xW
 v0:=p9
 t3:=gq
 a3:=Lu
 z3:=Et
 v3:=uX
 t4:=oD
 a4:=Tryz.isAgg4
 z4:=Qk
 v4:=Dn
 t5:=jJ
 a5:=Tryz.isAgg5
 z5:=Tryz.sizeOf5
 v5:=RB
 t9:=dJ
 a9:=Tryz.isAgg9
 z9:=Qj
 v9:=Dm
 t21:=Tryz.underlying21
 a21:=Tryz.isAgg21
 z21:=Tryz.sizeOf21
 v21:=Tryz.zeroValue21
 t46:=Tryz.underlying126
 a46:=Tryz.isAgg126
 z46:=Tryz.sizeOf126
 v46:=Tryz.zeroValue126
 t116:=Tryz.underlying357
 a116:=Tryz.isAgg357
 z116:=Tryz.sizeOf357
 t117:=Tryz.underlying358
 a117:=Tryz.isAgg358
 z117:=Tryz.sizeOf358
 v117:=Tryz.zeroValue358
 t124:=Tryz.underlying380
 a124:=Tryz.isAgg380
 z124:=Tryz.sizeOf380
 v124:=Tryz.zeroValue380
theorem LW:Lays.n196 Tryz.prog sG where
 mixed:=by kernel_rfl
 f196:=Tryz.func145.trans (congrArg some (by kernel_rfl))
 f259:=Tryz.func195.trans (congrArg some (by kernel_rfl))
 t0:=oF
 a0:=BM
 z0:=xW
 v0:=p9
 t3:=gq
 a3:=Lu
 z3:=Et
 v3:=uX
 t4:=oD
 a4:=Tryz.isAgg4
 z4:=Qk
 v4:=Dn
 t5:=jJ
 a5:=Tryz.isAgg5
 z5:=Tryz.sizeOf5
 v5:=RB
 t9:=dJ
 a9:=Tryz.isAgg9
 z9:=Qj
 v9:=Dm
 t12:=Tryz.underlying12
 a12:=Tryz.isAgg12
 z12:=Tryz.sizeOf12
 v12:=Tryz.zeroValue12
 t46:=Tryz.underlying126
 a46:=Tryz.isAgg126
 z46:=Tryz.sizeOf126
 v46:=Tryz.zeroValue126
 t53:=Tryz.underlying247
 a53:=Tryz.isAgg247
 z53:=Tryz.sizeOf247
 v53:=Tryz.zeroValue247
 t119:=Tryz.underlying306
 a119:=Tryz.isAgg306
 z119:=Tryz.sizeOf306
 t138:=Tryz.underlying308
 a138:=Tryz.isAgg308
 z138:=Tryz.sizeOf308
 v138:=Tryz.zeroValue308
 t139:=Tryz.underlying309
 a139:=Tryz.isAgg309
 z139:=Tryz.sizeOf309
 v139:=Tryz.zeroValue309
 g3:=by kernel_rfl
 g4:=by kernel_rfl
theorem Mw:(Tryz.prog.info? 357).map (fun i=>(i.zero,i.size))=some (some (.agg (Array.replicate 256 (.bool false))),256):=by kernel_rfl
theorem KX (s:ByteArray)(pos:Nat)(h:pos<s.size)(ha:128<=(s.get! pos).toNat):
  pos+(Utf8.decode s pos).2<=s.size/\∀j,pos<=j->j<pos+(Utf8.decode s pos).2->128<=(s.get! j).toNat:=by
 rw[Lib.decode_at]
 unfold Lib.decodeN
 split
 ·omega
 split
 ·split
  ·refine⟨by dsimp only;omega,fun j h1 h2=> ?_⟩
   dsimp only at h2
   have h3:j=pos\/j=pos+1:=by omega
   rcases h3 with rfl|rfl<;>omega
  ·refine⟨by dsimp only;omega,fun j h1 h2=> ?_⟩
   dsimp only at h2
   obtain rfl:j=pos:=by omega
   exact ha
 split
 ·split
  ·refine⟨by dsimp only;omega,fun j h1 h2=> ?_⟩
   dsimp only at h2
   have h3:j=pos\/j=pos+1\/j=pos+2:=by omega
   rcases h3 with rfl|rfl|rfl<;>omega
  ·refine⟨by dsimp only;omega,fun j h1 h2=> ?_⟩
   dsimp only at h2
   obtain rfl:j=pos:=by omega
   exact ha
 split
 ·split
  ·refine⟨by dsimp only;omega,fun j h1 h2=> ?_⟩
   dsimp only at h2
   have h3:j=pos\/j=pos+1\/j=pos+2\/j=pos+3:=by omega
   rcases h3 with rfl|rfl|rfl|rfl<;>omega
  ·refine⟨by dsimp only;omega,fun j h1 h2=> ?_⟩
   dsimp only at h2
   obtain rfl:j=pos:=by omega
   exact ha
 ·refine⟨by dsimp only;omega,fun j h1 h2=> ?_⟩
  dsimp only at h2
  obtain rfl:j=pos:=by omega
  exact ha
theorem JC (s:ByteArray)(j:Nat)(h:j<s.size):s.data.toList[j]? =some (s.get! j):=by
 rw[Utf8W.get!_of_lt s j h]
 exact Lib.data_getElem? s j h
theorem Pe {b:UInt8}(h:128<=b.toNat):([47,0]:List UInt8).contains b=false:=by
 cases hc:([47,0]:List UInt8).contains b with
 |false=>rfl
 |true=>
  have:=List.contains_iff_mem.1 hc
  simp at this
  rcases this with rfl|rfl<;>exact absurd h (by decide)
theorem Ii {s:ByteArray}{i n:Nat}(h:Lib.NoAny s.data.toList [47,0] i)(hs:i+n<=s.size)(hh:∀j,i<=j->j<i+n->128<=(s.get! j).toNat):Lib.NoAny s.data.toList [47,0] (i+n):=fun j b hj hb=>by
 by_cases e:j<i
 ·exact h j b e hb
 ·rw[JC s j (by omega)] at hb
  rw[<-wh hb]
  exact Pe (hh j (by omega) hj)
section
variable {P:Program} {ρ:Ren}
theorem run_next_at (W:World)(b:Nat)(s:ByteArray)(pos:Nat)(ty:TypeId)(hW:W.heap[b]? =some (.stringIter s pos))(h:pos<s.size):
  (Instr.next (.pointer (some ⟨b,0,none⟩)) true ty).run P W= .ok (.tuple #[.bool true,.int .i64 pos,.int .i32 (Utf8.decode s pos).1]) {W with heap:=W.heap.setIfInBounds b (.stringIter s (pos+(Utf8.decode s pos).2))}:=by
 simp only[Instr.next,getObj,setObj,jG,Sem.run,hW,Result.andThen,h,iI]
 simp[goInt]
theorem BR (W:World)(b:Nat)(s:ByteArray)(pos:Nat)(ty:TypeId)(hW:W.heap[b]? =some (.stringIter s pos))(h:¬pos<s.size):
  (Instr.next (.pointer (some ⟨b,0,none⟩)) true ty).run P W= .ok (.tuple #[.bool false]) W:=by
 simp[Instr.next,getObj,Sem.run,hW,h]
end
theorem Nz (r:Int)(h:128<=r):(∃x y:UInt8,Utf8.encode r=⟨#[x,y]⟩/\128<=y.toNat)\/(3<=(Utf8.encode r).size/\(Utf8.encode r).size<=4):=by
 unfold Utf8.encode
 have hc:128<=(if Utf8.valid r=true then r.toNat else Utf8.runeError):=by
  split
  ·omega
  ·decide
 generalize (if Utf8.valid r=true then r.toNat else Utf8.runeError)=c at hc
 dsimp only
 split
 ·omega
 split
 ·refine .inl ⟨_,_,rfl,?_⟩
  rw[dY]
  omega
 split
 ·exact .inr ⟨ax 3,by show 3<=4;omega⟩
 ·exact .inr ⟨by show 3<=4;omega,ax 4⟩
theorem O3 {P:Program}(w:World)(ty:TypeId):(Instr.next (.pointer (some ⟨w.heap.size,0,none⟩)) true ty).run P (w.iter ⟨#[47,0]⟩ 0)= .ok (.tuple #[.bool true,.int .i64 0,.int .i32 47]) (w.iter ⟨#[47,0]⟩ 1):=run_next_ascii w ⟨#[47,0]⟩ 0 ty (by decide) (by decide)
theorem QV {P:Program}(w:World)(ty:TypeId):(Instr.next (.pointer (some ⟨w.heap.size,0,none⟩)) true ty).run P (w.iter ⟨#[47,0]⟩ 1)= .ok (.tuple #[.bool true,.int .i64 1,.int .i32 0]) (w.iter ⟨#[47,0]⟩ 2):=run_next_ascii w ⟨#[47,0]⟩ 1 ty (by decide) (by decide)
theorem QU {P:Program}(w:World)(ty:TypeId):(Instr.next (.pointer (some ⟨w.heap.size,0,none⟩)) true ty).run P (w.iter ⟨#[47,0]⟩ 2)= .ok (.tuple #[.bool false]) (w.iter ⟨#[47,0]⟩ 2):=run_next_end w ⟨#[47,0]⟩ 2 ty (by decide)
theorem O9 (r:Int)(w:World)(h0:128<=r)(h1:r<=2147483647):
  Calls Tryz.prog 243 #[.string ⟨#[47,0]⟩,.int .i32 r] w fun e w'=>e= .returned (.int .i64 (-1))/\Below w.heap.size w w':=by
 have h0z:¬r<128:=by omega
 have h0y:(0:Int)<=r:=by omega
 by_cases h65:r=65533
 ·subst h65
  go_enter Qn,Tryz.ntmps243
  go_upto_region 38 with (fail)
  go_loopg [5,6] 2 (fun g _ _ wx=>(g=2/\wx=w.iter ⟨#[47,0]⟩ 0)\/(g=1/\wx=w.iter ⟨#[47,0]⟩ 1)\/(g=0/\wx=w.iter ⟨#[47,0]⟩ 2))
  case atStart=>exact .inl ⟨rfl,rfl⟩
  case round=>
   have n0:=O3 (P:=Tryz.prog) w;have n1:=QV (P:=Tryz.prog) w;have n2:=QU (P:=Tryz.prog) w
   rcases hrel with ⟨rfl,rfl⟩|⟨rfl,rfl⟩|⟨rfl,rfl⟩
   ·go_wp2_with fail
    go_roundg 1
    case measure=>omega
    case rel=>exact .inr (.inl ⟨rfl,rfl⟩)
   ·go_wp2_with fail
    go_roundg 0
    case measure=>omega
    case rel=>exact .inr (.inr ⟨rfl,rfl⟩)
   ·go_wp2_with fail
    go_ret
    exact⟨rfl,aF w _⟩
 ·have h65b:(r==65533)=false:=dZ.2 h65
  cases hv:Lib.validRune r with
  |false=>
   go_enter Qn,Tryz.ntmps243
   go_wp2_with (go_at_call 286;refine(Any.utf8_ValidRune (ρ:=sG) {vU with} _ _).mono ?_;rintro e w' ⟨rfl,hw⟩;rw[hw,hv])
   go_ret
   exact⟨rfl,aO _ _⟩
  |true=>
   have hcv:∀W:World,(Go.convert 21 9 (.int .i32 r)).run Tryz.prog W= .ok (.string (Utf8.encode r)) W:=fun W=>run_convert_int_string W _ _ _ _ (by kernel_rfl) dJ
   rcases Nz r h0 with ⟨x,y,he,hy⟩|⟨hs3,hs4⟩
   ·have hy0:((0:Int)==(y.toNat:Int))=false:=dZ.2 (by omega)
    have hsz:(⟨#[x,y]⟩:ByteArray).size=2:=rfl
    have hb1:(⟨#[47,0]⟩:ByteArray)[1]'(by decide)=0:=rfl
    have hb2:(⟨#[x,y]⟩:ByteArray)[1]'(by show 1<2;decide)=y:=rfl
    have hw2:IntKind.i64.wrap 2=2:=rfl
    have hxt:(⟨#[47,0]⟩:ByteArray).extract 2 2=⟨#[]⟩:=by decide
    have hib:∀(c:Int) (W:World),Calls Tryz.prog 120 #[.string ⟨#[]⟩,.int .u8 c] W fun e w'=>e= .returned (.int .i64 (-1))/\w'=W:=fun c W=>Any.strings_IndexByte (ρ:=sG) {vU with} ⟨#[]⟩ c W
    rw[he] at hcv
    go_enter Qn,Tryz.ntmps243
    go_upto_region 5 with (go_at_call 286;refine(Any.utf8_ValidRune (ρ:=sG) {vU with} _ _).mono ?_;rintro e w' ⟨rfl,hw⟩;rw[hw,hv])
    refine Td ?_
    go_upto_region 5 with (fail)
    go_loopw [9,10,11,12] (fun i _ _ _ wr=>i= .int .i64 1/\wr=w) (fun _ _ _ _ _=>0)
    case atStart=>exact⟨rfl,rfl⟩
    case round=>
     obtain⟨rfl,hwr⟩:=hrel
     subst wr
     go_wp2_with (fail)
     refine Td ?_
     go_wp2_with (fail)
     refine aN (fun W=>W=w.drew) (fun _=>true) [0,1,2,3,4,5,6] rfl (by kernel_rfl) rfl ?_
     repeat ((refine bL (v:= ?_) rfl rfl (fun _ _ _ h=>h) rfl (fun W hW=> ?_) ?_);rotate_left;(focus ((try dsimp only at hW);subst hW;(go_simp;first|done|with_reducible rfl)));(try simp only[Act.put,ai,au,aj]))
     refine bO ?_
     go_wp2_with (fail)
     refine aN (fun W=>W=w.drew.drew) (fun i=> !([7].contains i)) [0,1,2,3,4,5,6,7,8] rfl (by kernel_rfl) rfl ?_
     repeat ((refine bL (v:= ?_) rfl rfl (fun _ _ _ h=>h) rfl (fun W hW=> ?_) ?_);rotate_left;(focus ((try dsimp only at hW);subst hW;(go_simp;first|done|with_reducible rfl)));(try simp only[Act.put,ai,au,aj]))
     refine dA rfl rfl rfl ?_;intro K hK;go_simp
     refine(hib _ _).mono ?_;rintro e w4 ⟨rfl,hw4⟩;subst w4
     refine hK.out _ _ rfl ?_
     repeat ((refine bL (v:= ?_) rfl rfl (fun _ _ _ h=>h) rfl (fun W hW=> ?_) ?_);rotate_left;(focus ((try dsimp only at hW);subst hW;(go_simp;first|done|with_reducible rfl)));(try simp only[Act.put,ai,au,aj]))
     refine bO ?_
     go_wp2_with (fail)
     dsimp (config:={zetaDelta:=true}) only[Exit.noGoto,Exit.inBlock,Exit.then]
     go_ret
     exact⟨rfl,((aO _ w).drew).drew⟩
   ·have h3:¬((Utf8.encode r).size:Int) - 1<2:=by omega
    have h4:(0:Int)<=((Utf8.encode r).size:Int) - 1:=by omega
    obtain⟨E,hE⟩:∃E,Hid (Utf8.encode r=E):=⟨_,af rfl⟩
    rw[hE.out] at hcv h3 h4 hs3 hs4
    have hw64:wrap64 ((E.size:Int) - 1)=(E.size:Int) - 1:=by unfold wrap64;omega
    go_enter Qn,Tryz.ntmps243
    go_upto_region 5 with (go_at_call 286;refine(Any.utf8_ValidRune (ρ:=sG) {vU with} _ _).mono ?_;rintro e w' ⟨rfl,hw⟩;rw[hw,hv])
    refine Td ?_
    go_upto_region 5 with (fail)
    go_loopw [9,10,11,12] (fun i _ _ _ wr=>i= .int .i64 ((E.size:Int) - 1)/\wr=w) (fun _ _ _ _ _=>0)
    case atStart=>exact⟨by first|rfl|(rw[hw64])|go_num,rfl⟩
    case round=>
     obtain⟨rfl,hwr⟩:=hrel
     subst wr
     go_wp2_with (fail)
     dsimp only[Exit.noGoto]
     go_ret
     exact⟨rfl,aO _ _⟩
theorem Ra (r:Int)(w:World)(h0:0<=r)(h1:r<=2147483647):
  Calls Tryz.prog 243 #[.string ⟨#[47,0]⟩,.int .i32 r] w fun e w'=>(∃z:Int,e= .returned (.int .i64 z)/\(r<128->z=Lib.indexByte [47,0] r.toNat.toUInt8)/\(128<=r->z= -1))/\Below w.heap.size w w':=by
 by_cases h:r<128
 ·have hc:Calls Tryz.prog 243 #[.string ⟨#[47,0]⟩,.int .i32 r] w _:=Any.strings_IndexRune_ascii (ρ:=sG) {vU with} ⟨#[47,0]⟩ r w h0 h
  refine hc.mono ?_
  rintro e w' ⟨rfl,rfl⟩
  exact⟨⟨_,rfl,fun _=>rfl,fun e=>absurd h (by omega)⟩,aO _ _⟩
 ·refine(O9 r w (by omega) h1).mono ?_
  rintro e w' ⟨rfl,hb⟩
  exact⟨⟨_,rfl,fun e=>absurd e h,fun _=>rfl⟩,hb⟩
theorem Cc (b:UInt8):([47,0]:List UInt8).contains b=decide (0<=Lib.indexByte [47,0] b):=Lib.contains_iff_indexByte [47,0] b
theorem Nq (s:ByteArray)(w:World)(h8:s.size<=8):
  Calls Tryz.prog 196 #[.string s,.string ⟨#[47,0]⟩] w fun e w'=>e= .returned (.int .i64 (Lib.indexAny s.data.toList [47,0]))/\Below w.heap.size w w':=by
 have hse:∀w,Calls Tryz.prog 244 #[.int .i64 s.size] w fun e w'=>e= .returned (.bool false)/\w'=w:=fun w=>by
  have:=Any.strings_shouldUseASCIISet (P:=Tryz.prog) (ρ:=sG) {vU with} s.size w
  rw[bP (by omega)] at this
  exact this
 have hcs:(⟨#[47,0]⟩:ByteArray).size=2:=rfl
 go_enter Tryz.func196,Tryz.ntmps196
 go_wp2_with (go_at_call 244;refine(hse _).mono ?_;rintro e w' ⟨rfl,hw⟩;rw[hw])
 go_loopg [9,10] (s.size+1) (fun g _ _ wx=>∃i:Nat,i<=s.size/\g=s.size+1 - i/\wx.heap[w.heap.size]? =some (.stringIter s i)/\Below w.heap.size w wx/\Lib.NoAny s.data.toList [47,0] i)
 case atStart=>exact⟨0,bf _,rfl,World.iter_heap w s 0,aF w _,Lib.NoAny.zero _ _⟩
 case round=>
  obtain⟨i,hi,rfl,hit,hb,hno⟩:=hrel
  by_cases hil:i<s.size
  ·have hnx:=fun ty=>run_next_at (P:=Tryz.prog) wr w.heap.size s i ty hit hil
   have hle:=decode_le s i
   have hgb:s.get! i=s[i]'hil:=Utf8W.get!_of_lt s i hil
   have hat:=JC s i hil
   have hb1:Below w.heap.size w {wr with heap:=wr.heap.setIfInBounds w.heap.size (.stringIter s (i+(Utf8.decode s i).2))}:=by
    refine⟨hb.os,hb.tape,hb.output,by simpa using hb.size,fun k hk=> ?_⟩
    rw[<-hb.block k hk]
    simp only[wu]
    rw[if_neg (by omega)]
   have hlt:=(ah.1 hit).1
   have hit1:({wr with heap:=wr.heap.setIfInBounds w.heap.size (.stringIter s (i+(Utf8.decode s i).2))}:World).heap[w.heap.size]? =some (.stringIter s (i+(Utf8.decode s i).2)):=by
    simp only[wu]
    simp[hlt]
   obtain⟨W1,hW1⟩:∃W1:World,{wr with heap:=wr.heap.setIfInBounds w.heap.size (.stringIter s (i+(Utf8.decode s i).2))}=W1:=⟨_,rfl⟩
   rw[hW1] at hb1 hit1
   simp only[hW1] at hnx
   have hcase:(((Utf8.decode s i).1:Int)<128/\((Utf8.decode s i).1:Int).toNat.toUInt8=s.get! i/\(Utf8.decode s i).2=1)\/(128<=((Utf8.decode s i).1:Int)/\1<=(Utf8.decode s i).2/\i+(Utf8.decode s i).2<=s.size/\Lib.NoAny s.data.toList [47,0] (i+(Utf8.decode s i).2)):=by
    by_cases h128:(s[i]'hil).toNat<128
    ·left
     rw[decode_ascii s i hil h128,hgb]
     exact⟨by dsimp only;omega,by simp,rfl⟩
    ·right
     have h1:=decode_high s i hil (by omega)
     have h2:=KX s i hil (by rw[hgb];omega)
     exact⟨by omega,h1.2,h2.1,Ii hno h2.1 h2.2⟩
   obtain⟨r,hr⟩:∃r,(Utf8.decode s i).1=r:=⟨_,rfl⟩
   obtain⟨n,hn⟩:∃n,(Utf8.decode s i).2=n:=⟨_,rfl⟩
   rw[hr,hn] at hcase
   rw[hn] at hit1
   simp only[hr] at hnx
   rw[hr] at hle
   have HIR:=af (Ra r W1 (by omega) (by omega))
   have hcb:=Cc (s.get! i)
   have HX:=af (ay hcase (ay hno (ay hat (ay hcb (ay hit1 hb1)))))
   clear hcase hno hat hcb hit1 hb1 hr hn hgb hle hlt hit hb hW1
   go_wp2_with (first
    |(go_at_call 243;go_must (refine HIR.out.mono ?_;rintro e w3 ⟨⟨z,rfl,hz1,hz2⟩,hb3⟩;refine Stop.of ?_)))
   refine Stop.on ?_
   have hit3:=(hb3.block w.heap.size (ah.1 HX.out.2.2.2.2.1).1).trans HX.out.2.2.2.2.1
   have HY:=af (ay hit3 (HX.out.2.2.2.2.2.trans (hb3.mono HX.out.2.2.2.2.2.size)))
   clear hit3 hb3
   by_cases hz:(0:Int)<=z
   ·have hr:Lib.indexAny s.data.toList [47,0]=i:=by
     rcases HX.out.1 with ⟨h1,h2,_⟩|⟨h1,_⟩
     ·have h3:=hz1 h1
      rw[h2] at h3
      refine Lib.indexAny_hit HX.out.2.1 HX.out.2.2.1 ?_
      rw[HX.out.2.2.2.1,<-h3]
      exact eY hz
     ·have:=hz2 h1
      omega
    have HR:=af hr
    clear hr hz1 hz2
    go_wp2_with (fail)
    go_ret
    exact⟨by rw[HR.out];rfl,HY.out.2⟩
   ·have hno':Lib.NoAny s.data.toList [47,0] (i+n)/\1<=n/\i+n<=s.size:=by
     rcases HX.out.1 with ⟨h1,h2,rfl⟩|⟨_,h2,h3,h4⟩
     ·have h3:=hz1 h1
      rw[h2] at h3
      refine⟨HX.out.2.1.succ HX.out.2.2.1 ?_,ax _,by omega⟩
      rw[HX.out.2.2.2.1,<-h3]
      exact bP hz
     ·exact⟨h4,h2,h3⟩
    have HR:=af hno'
    clear hno' hz1 hz2
    go_wp2_with (fail)
    go_roundg (s.size+1 - (i+n))
    case measure=>have:=HR.out;omega
    case rel=>exact⟨i+n,HR.out.2.2,rfl,HY.out.1,HY.out.2,HR.out.1⟩
  ·obtain rfl:i=s.size:=by omega
   have hnx:=fun ty=>BR (P:=Tryz.prog) wr w.heap.size s s.size ty hit (di _)
   have HX:=af (ay hno hb)
   clear hno hb hit
   go_wp2_with (fail)
   go_ret
   exact⟨by rw[Lib.indexAny_none (by rw[<-Lib.size_eq];exact HX.out.1)];rfl,HX.out.2⟩
theorem Rb (s:ByteArray)(w:World)(hs:s.size<=64):
  Calls Tryz.prog 196 #[.string s,.string ⟨#[47,0]⟩] w fun e w'=>e= .returned (.int .i64 (Lib.indexAny s.data.toList [47,0]))/\Below w.heap.size w w':=by
 by_cases h8:s.size<=8
 ·exact Nq s w h8
 ·have hc:Calls Tryz.prog 196 #[.string s,.string ⟨#[47,0]⟩] w _:=Any.strings_IndexAny_long (ρ:=sG) {vU with} (zero_of_info Mw).1 (zero_of_info Mw).2 s ⟨#[47,0]⟩ w (by decide) (by omega) (by omega) (by decide) (fun j b hb=>by
   have:b=47\/b=0:=by
    have:=JU hb
    simpa using this
   rcases this with rfl|rfl<;>decide)
  refine hc.mono ?_
  rintro e w' ⟨rfl,hw⟩
  refine⟨rfl,?_⟩
  rw[hw]
  exact((aO _ _).alloc (ax _) _).alloc (by simp) _
theorem Rp (s:ByteArray)(w:World)(hs:s.size<=64):
  Calls Tryz.prog 146 #[.string s,.string ⟨#[47,0]⟩] w fun e w'=>e= .returned (.bool (Lib.containsAny s.data.toList [47,0]))/\Below w.heap.size w w':=by
 have HI:=af (Rb s w hs)
 unfold Lib.containsAny
 obtain⟨z,hz⟩:∃z,Lib.indexAny s.data.toList [47,0]=z:=⟨_,rfl⟩
 rw[hz] at HI ⊢
 clear hz
 go_enter Tryz.func146,Tryz.ntmps146
 go_wp2_with (first
  |(go_at_call 196;go_must (refine HI.out.mono ?_;rintro e w1 ⟨rfl,hb1⟩)))
 go_ret
 exact⟨rfl,hb1⟩
end Go.Proofs.YtbfjgkafmlbpcaaGreatDoor
namespace Go.Proofs.YtbfjgkafmlbpcaaGreatDoor
open Go.RowKit
abbrev LP:=jM×Value
def Sn (p:LP):List Value:=[.string p.1.token,p.2,.bool p.1.deep,.bool p.1.excl,.string p.1.owner,.int .i64 p.1.till]
def Uc (w:World)(S:Nat->Prop)(v:Value)(ps:List LP):Prop:=je w S 6 v ps.length (ps.flatMap Sn)/\∀p∈ps,∃T,nG w T p.2 p.1.path
def TY (w:World)(B:Nat)(v:Value)(l:List UInt8):Prop:=
 ∃(g cap:Nat) (cur:Array Value) (fz:Nat×Nat),v= .slice (some ⟨g,0,none⟩) l.length cap/\B<=g/\w.heap[g]? =some (.cells cur 5 fz)/\(fz.2<=fz.1\/cur.size<=fz.1)/\l.length<=cap/\cap<=maxLen/\cur.size=cap/\cur.toList.take l.length=aD l
def Qh (key value:ByteArray):Prop:=(1<=key.size/\key.size<=128)/\value.size<=49152
instance (key value:ByteArray):Decidable (Qh key value):=by unfold Qh;exact inferInstance
section
variable {F:Nat->Prop} {w w':World} {r rt:Nat} {cms:List (List Pr)} {kv:List Pr}
end
variable {D:Nat->Dk->Lg->Pg->Prop}
section
variable {b:jY} {w w':World} {v t N R dn u P:Nat} {kv kv0:List Pr} {ch:Bool}
end
variable {D:Nat->Dk->Lg->Pg->Prop}
structure Fr (F F0:Nat->Prop)(w:World)(F' F0':Nat->Prop)(w':World):Prop where
 sub:∀g,F0' g->F' g
 grow:∀g,F g->F' g
 lo:∀g,F0' g->F0 g\/w.heap.size<=g
 keep:Keep (fun g=>F g->F0 g) w w'
variable {D:Nat->Dk->Lg->Pg->Prop}
variable {D:Nat->Dk->Lg->Pg->Prop}
def bY.flushed (σ:bY)(d:Dk)(l:Lg):bY:={σ with H:={σ.H with dk:=d,lg:=l}}
section
variable {w:World} {v:Nat} {S:Nat->Prop} {mp:VS} {σ:bY}
def Um (σ:bY)(d:Dk)(l:Lg):Prop:=SX σ.H.dk σ.H.lg σ.H.pg d l
end
structure Kv (kv:List Pr)(n:Nat):Prop where
 rise:iG kv
 len:kv.length<=n
 val:∀p∈kv,p.2.size<=49152
def Q8 (t:ByteArray):ByteArray:=⟨#[108]++t.data⟩
def jM.key (l:jM):ByteArray:=Q8 l.token
def jM.pair (l:jM):Pr:=(l.key,strOf l.enc)
structure jM.Fit (l:jM):Prop where
 tok:l.token.size<=60
 segs:l.path.length<=12
 seg:∀s∈l.path,s.size<=64
 own:l.owner.size<=512
 till: -9223372036854775808<=l.till/\l.till<9223372036854775808
theorem K5 (s:ByteArray):s.data.toList.length=s.size:=by show s.data.toList.length=s.data.size;simp
structure Ul (ls:List jM):Prop where
 rise:iG (ls.map jM.pair)
 fit:∀l∈ls,l.Fit
 len:ls.length<=33
def TL (ls:List jM)(l:jM):List jM:=ls.take (dw (ls.map jM.pair) l.key)++l::ls.drop (dw (ls.map jM.pair) l.key+(if ou (ls.map jM.pair) l.key then 1 else 0))
def Mx (s:ByteArray):Bool:=decide (0<s.size) && (!decide (s=⟨#[46]⟩) && (!decide (s=⟨#[46,46]⟩) && (decide (s.size<=64) && (Lib.validD s.data.toList && !Lib.containsAny s.data.toList [47,0]))))
def pM (p:List ByteArray):Bool:=p.all Mx && decide (p.length<=12)
def Tx (c:UInt8):Bool:=decide (33<=c.toNat/\c.toNat<=126/\c.toNat≠60/\c.toNat≠62)
def jM.good (l:jM):Bool:=l.token.data.toList.all Tx && (decide (0<l.token.size) && (decide (l.token.size<=60) && (pM l.path && decide (l.owner.size<=512))))
def live (now:Int)(ls:List jM):List jM:=ls.filter fun l=>decide (now<l.till)
def TV (ls:List jM)(l:jM)(now:Int):Int:=
 if l.good=false\/l.till<=now then 1
 else if (live now ls).any (fun x=>decide (x.token=l.token)) then 3
 else if (live now ls).any (fun x=>x.clash l) then 63
 else if 32<=(live now ls).length then 4
 else 0
def Ui (ls:List jM)(l:jM)(now:Int):List jM:=if TV ls l now=0 then TL (live now ls) l else ls
end Go.Proofs.YtbfjgkafmlbpcaaGreatDoor
namespace Go.Proofs.YtbfjgkafmlbpcaaGreatDoor
open Go.RowKit Go.Shelf
def uV (w:World):Prop:=Lib.Utf8Tabs (sG.g 3) (sG.g 4) w
theorem uV.below {w w':World}(h:uV w)(hb:Below w.heap.size w w'):uV w':=Utf8Tabs_below h hb
theorem Kh {s:ByteArray}:decide (0<s.size)= !s.toList.isEmpty:=by
 have hb:=K5 s
 rw[Lib.toList_data]
 cases h:s.data.toList with
 |nil=>
  rw[h,bI] at hb
  rw[<-hb];rfl
 |cons a l=>
  rw[h,aY] at hb
  rw[eY (by omega)];rfl
theorem EC (s:ByteArray)(w:World)(hs:s.size<=9223372036854775807)(hT:uV w):
  Calls Tryz.prog 107 #[.string s] w fun e w'=>e= .returned (.bool (Mx s))/\Below w.heap.size w w':=by
 have hv0:Calls Tryz.prog 145 #[.string s] w fun e w'=>e= .returned (.bool (Lib.validD s.data.toList))/\Below w.heap.size w w':=Any.utf8_ValidString LW s w hs hT
 have HV:=af hv0
 have HC:=af (fun (W:World) (h:s.size<=64)=>Rp s W h)
 have tl:∀l:List UInt8,s.toList=l↔s=⟨l.toArray⟩:=fun l=>by
  rw[Lib.toList_data]
  constructor
  ·intro h;cases s;exact congrArg ByteArray.mk (Ow (by simpa using h))
  ·intro h;rw[h]
 have t1:=tl [46]
 have t2:=tl [46,46]
 unfold Mx
 rw[Kh]
 obtain⟨V,hV⟩:∃V,Lib.validD s.data.toList=V:=⟨_,rfl⟩
 obtain⟨C,hC⟩:∃C,Lib.containsAny s.data.toList [47,0]=C:=⟨_,rfl⟩
 rw[hV] at HV ⊢
 rw[hC] at HC ⊢
 clear hv0 hV hC hT tl
 obtain⟨D1,hD1⟩:∃D,decide (s=⟨#[46]⟩)=D:=⟨_,rfl⟩
 obtain⟨D2,hD2⟩:∃D,decide (s=⟨#[46,46]⟩)=D:=⟨_,rfl⟩
 rw[hD1,hD2]
 have f1:(s.toList=[46])=(D1=true):=by rw[<-hD1,eD];exact propext t1
 have f2:(s.toList=[46,46])=(D2=true):=by rw[<-hD2,eD];exact propext t2
 clear hD1 hD2 t1 t2
 obtain⟨E,hE⟩:∃E,s.toList.isEmpty=E:=⟨_,rfl⟩
 rw[hE]
 go_enter Tryz.func107,Tryz.ntmps107
 cases E with
 |true=>
  go_wp2
  go_ret
  exact⟨rfl,aO _ _⟩
 |false=>
  cases D1 with
  |true=>
   have g1:s.toList=[46]:=f1▸rfl
   clear f1 f2
   go_wp2
   go_ret
   exact⟨rfl,aO _ _⟩
  |false=>
   have g1:¬s.toList=[46]:=by rw[f1];simp
   cases D2 with
   |true=>
    have g2:s.toList=[46,46]:=f2▸rfl
    clear f1 f2
    go_wp2
    go_ret
    exact⟨rfl,aO _ _⟩
   |false=>
    have g2:¬s.toList=[46,46]:=by rw[f2];simp
    clear f1 f2
    by_cases h64:s.size<=64
    ·have hz:(s.size:Int)<=64:=by omega
     rw[eY h64]
     cases V with
     |false=>
      go_wp2_with (first
       |(go_at_call 145;go_must (refine HV.out.mono ?_;rintro e w1 ⟨rfl,hb1⟩)))
      go_ret
      exact⟨rfl,hb1⟩
     |true=>
      go_wp2_with (first
       |(go_at_call 145;go_must (refine HV.out.mono ?_;rintro e w1 ⟨rfl,hb1⟩))
       |(go_at_call 146;go_must (refine(HC.out _ h64).mono ?_;rintro e w2 ⟨rfl,hb2⟩)))
      go_ret
      exact⟨by simp[g1,g2],hb1.trans (hb2.mono hb1.size)⟩
    ·have hz:¬(s.size:Int)<=64:=by omega
     rw[bP h64]
     go_wp2
     go_ret
     exact⟨rfl,aO _ _⟩
theorem LY (pv:Value)(path:List ByteArray)(S:Nat->Prop)(w:World)(hp:nG w S pv path)(hs:∀s∈path,s.size<=9223372036854775807)(hT:uV w):
  Calls Tryz.prog 65 #[pv] w fun e w'=>e= .returned (.bool (pM path))/\Below w.heap.size w w':=by
 obtain⟨po,pc,rfl,h1,h2,_,_⟩:=je.form hp
 have HP:=af hp;have HS:=af hs;have HT:=af hT
 obtain⟨R,hR⟩:∃R,Hid (pM path=R):=⟨_,af rfl⟩
 rw[hR.out]
 clear hp hs hT
 go_enter Tryz.func65,Tryz.ntmps65
 go_upto_region 2 with (fail)
 go_loopw [4,7] (fun _ i wr=>∃k:Nat,k<=path.length/\i= .int .i64 k/\(path.take k).all Mx=true/\Below w.heap.size w wr) (fun _ i _=>path.length - (intOf i).toNat)
 case atStart=>exact⟨0,bf _,rfl,rfl,aO _ _⟩
 case round=>
  obtain⟨k,hk,rfl,hall,hbw⟩:=hrel
  by_cases hkl:k<path.length
  ·have hkl':(k:Int)<(path.length:Int):=by omega
   obtain⟨ga,oa,rfl,da⟩:=je.Bt (je.below HP.out hbw) rfl k (.string path[k]) (by rw[dM,bF hkl];rfl)
   have la:=aH wr _ da
   have htk:path.take (k+1)=path.take k++[path[k]]:=aQ hkl
   have hsz:=HS.out path[k] (bG hkl)
   have hmem:=bG hkl
   obtain⟨sg,hsg⟩:∃sg,Hid (path[k]=sg):=⟨_,af rfl⟩
   rw[hsg.out] at da htk hsz hmem
   have hsc:=EC sg wr hsz (HT.out.below hbw)
   obtain⟨C,hC⟩:∃C,Hid (Mx sg=C):=⟨_,af rfl⟩
   rw[hC.out] at hsc
   have HSC:=af hsc
   have HX:=af (ay htk (ay hall (ay hbw hmem)))
   clear hsc htk hall hbw hmem hsz
   cases C with
   |false=>
    have hr:R=false:=by
     rw[<-hR.out]
     unfold pM
     rw[Bool.and_eq_false_iff]
     left
     rw[List.all_eq_false]
     exact⟨sg,HX.out.2.2.2,by rw[hC.out];simp⟩
    go_wp2_with (first
     |(go_at_call 107;go_must (refine HSC.out.mono ?_;rintro e w3 ⟨rfl,hb3⟩)))
    go_ret
    exact⟨by simp[hr],HX.out.2.2.1.trans (hb3.mono HX.out.2.2.1.size)⟩
   |true=>
    go_wp2_with (first
     |(go_at_call 107;go_must (refine HSC.out.mono ?_;rintro e w3 ⟨rfl,hb3⟩)))
    have HB3:=af (HX.out.2.2.1.trans (hb3.mono HX.out.2.2.1.size))
    clear hb3
    go_roundw
    case rel=>
     refine⟨k+1,by omega,by go_num,?_,HB3.out⟩
     rw[HX.out.1,List.all_append,HX.out.2.1]
     simp[hC.out]
    case measure=>simp[intOf];omega
  ·obtain rfl:k=path.length:=by omega
   have x2:¬(path.length:Int)<(path.length:Int):=by omega
   rw[dF] at hall
   have HX:=af (ay hall hbw)
   clear hall hbw
   by_cases h12:path.length<=12
   ·have hz:(path.length:Int)<=12:=by omega
    have hr:R=true:=by rw[<-hR.out];unfold pM;rw[HX.out.1,eY h12];rfl
    clear h12
    go_wp2_with (fail)
    go_ret
    exact⟨by simp[hr],HX.out.2⟩
   ·have hz:¬(path.length:Int)<=12:=by omega
    have hr:R=false:=by rw[<-hR.out];unfold pM;rw[HX.out.1,bP h12];rfl
    clear h12
    go_wp2_with (fail)
    go_ret
    exact⟨by simp[hr],HX.out.2⟩
end Go.Proofs.YtbfjgkafmlbpcaaGreatDoor
namespace Go.Proofs.YtbfjgkafmlbpcaaGreatDoor
open Go.RowKit
theorem GV (eb:Nat)(w:World):
  CallsD Tryz.prog 66 #[.pointer (some ⟨eb,0,none⟩)] .returning w fun e u' w'=>e= .returned (.tuple #[])/\u'= .returning/\Below w.heap.size w w':=by
 refine Qi Tryz.func66 rfl fun c₀ cs hu=> ?_
 apply Ot
 apply vX
 have hta:∀w:World,(Instr.typeAssert Value.nilIface 20 131 true).run Tryz.prog w= .ok (.tuple #[.agg #[.int .i64 0],.bool false]) w:=fun _=>by kernel_rfl
 simp[wpOpsS,go_sem,recoverD,hu,Tryz.ntmps66,Exit.thenS,hta,Array.replicate,List.replicate]
 apply Ot
 apply vX
 simp[wpOpsS,go_sem,Exit.thenS]
 refine wpS_cond (t:=false) (by simp[Act.eval]) ?_
 simp only[zu,if_false]
 refine wpS_of_wp (wp_skip ?_)
 cases c₀
 simp_all [bodyPostS,results,Tryz.results66]
 exact aF _ _
theorem GX (eb:Nat)(n e0:Int)(w:World)(he:w.heap[eb]? =some (.cells #[.int .i64 e0] 36 (0,0))):
  CallsD Tryz.prog 66 #[.pointer (some ⟨eb,0,none⟩)] (.panicking (EK n)) w fun e u' w'=>e= .returned (.tuple #[])/\settle u'= .returning/\w'.cell? ⟨eb,0,none⟩=some (.int .i64 n)/\Keep (· =eb) w w':=by
 refine Qi Tryz.func66 rfl fun c₀ cs hu=> ?_
 apply Ot
 apply vX
 have hta:∀w:World,(Instr.typeAssert (.iface 131 (.agg #[.int .i64 n])) 20 131 true).run Tryz.prog w= .ok (.tuple #[.agg #[.int .i64 n],.bool true]) w:=fun _=>by kernel_rfl
 simp[wpOpsS,go_sem,recoverD,hu,EK,Tryz.ntmps66,Exit.thenS,hta,Array.replicate,List.replicate]
 have hlt:=(ah.1 he).1
 have hb1:=aF w (.cells #[.int .i64 n] 131)
 have hn1:=aK w (.cells #[.int .i64 n] 131)
 obtain⟨w1,HW1⟩:∃w1:World,Hid (w.alloc (.cells #[.int .i64 n] 131)=w1):=⟨_,af rfl⟩
 rw[HW1.out] at hb1 hn1
 rw[HW1.out]
 have hx:w1.cell? ⟨w.heap.size,0,none⟩=some (.int .i64 n):=by simp[World.cell?,hn1]
 have hxl:w.heap.size<w1.heap.size:=(ah.1 hn1).1
 have he1:=(hb1.block eb hlt).trans he
 have hlt1:=(ah.1 he1).1
 have c0:w1.cell? ⟨eb,0,none⟩=some (.int .i64 e0):=by simp[World.cell?,he1]
 have f0:w1.frozen? ⟨eb,0,none⟩=false:=by simp[World.frozen?,he1]
 apply Ot
 apply vX
 simp[wpOpsS,go_sem,Exit.thenS]
 refine wpS_cond (t:=true) (by simp[Act.eval]) ?_
 simp only[iI]
 refine wpS_of_wp ?_
 go_wp2
 have hk:Keep (· =eb) w1 (w1.setCell ⟨eb,0,none⟩ (.int .i64 n)):=(Keep.refl (· =eb) _).setCell (p:=⟨eb,0,none⟩) (.inr rfl) _
 refine⟨rfl,_,rfl,_,?_,rfl,rfl,?_,?_⟩
 ·simp[results,Tryz.results66,go_sem]
 ·simp[World.setCell,World.cell?,aS,he1]
 ·exact(Keep.of_below hb1 (· =eb)).trans hk (fun _ _ e=>e)
theorem QB (x g:Nat)(cb:Array Value)(pb:Nat)(pv:Value)(path:List ByteArray)(S:Nat->Prop)(w:World)(R:World->Prop)(R2:Int->World->Prop)
  (hent:∀args w,(callFunc g args).run Tryz.prog w= .ok (.enter g args) w) (hpb:w.heap[pb]? =some (.cells #[pv] 22 (0,0))) (hp:nG w S pv path) (hs:∀s∈path,s.size<=9223372036854775807) (hT:uV w) (hg:pM path=true)
  (hf:∀w1:World,Below w.heap.size w w1->w1.heap[w.heap.size]? =some (.cells #[.int .i64 0] 36 (0,0))->Calls Tryz.prog g cb w1 fun e w'=>w'.heap[w.heap.size]? =some (.cells #[.int .i64 0] 36 (0,0))/\((e= .returned (.tuple #[])/\R w')\/(∃n,e= .panicked (EK n)/\R2 n w'))):
  Calls Tryz.prog 22 #[.pointer (some ⟨x,0,none⟩),.func (.func g) #[] cb,.slice (some ⟨pb,0,none⟩) 1 1] w fun e w'=>
   (e= .returned (.int .i64 0)/\∃w1,R w1/\Keep (· =w.heap.size) w1 w')\/(∃n,e= .returned (.int .i64 n)/\∃w1,R2 n w1/\Keep (· =w.heap.size) w1 w'):=by
 have hmf:∀(fn:Fn) (first cap:Array Value) (w:World),(Instr.makeFunc fn first cap).run Tryz.prog w= .ok (.func fn first cap) w:=fun _ _ _ _=>rfl
 obtain⟨po,pc,rfl,_,_,_,_⟩:=je.form hp
 have hb1:=aF w (.cells #[.int .i64 0] 36)
 have hn1:=aK w (.cells #[.int .i64 0] 36)
 obtain⟨w1,hw1⟩:∃w1:World,Hid (w.alloc (.cells #[.int .i64 0] 36)=w1):=⟨_,af rfl⟩
 rw[hw1.out] at hb1 hn1
 have HF:=af hf
 obtain⟨eb,heb⟩:∃eb:Nat,Hid (w.heap.size=eb):=⟨_,af rfl⟩
 rw[heb.out] at hn1 HF ⊢
 have HA:=af (ay hb1 (ay hn1 (ay hpb (ay hp (ay hs hT)))))
 have HG:=af hg
 clear hf hb1 hn1 hpb hp hs hT hg
 go_enter_defers Tryz.func22,Tryz.ntmps22
 go_upto_region 1 with (fail)
 rw[hw1.out,heb.out]
 go_upto_region 4 with (fail)
 go_loopw [8,13] (fun _ i wr=>(i= .int .i64 0\/i= .int .i64 1)/\Below w1.heap.size w1 wr) (fun _ i _=>1 - (intOf i).toNat)
 case atStart=>exact⟨.inl rfl,aO _ _⟩
 case round=>
  obtain⟨hi,hbw⟩:=hrel
  rcases hi with rfl|rfl
  ·have hbw0:=HA.out.1.trans (hbw.mono HA.out.1.size)
   have hq:=(hbw0.block pb (ah.1 HA.out.2.2.1).1).trans HA.out.2.2.1
   have c0:wr.cell? ⟨pb,0,none⟩=some (.slice po path.length pc):=by simp[World.cell?,hq]
   have lp:=(ah.1 hq).1
   have hgd:=LY _ path S wr (je.below HA.out.2.2.2.1 hbw0) HA.out.2.2.2.2.1 (HA.out.2.2.2.2.2.below hbw0)
   rw[HG.out] at hgd
   have HGD:=af hgd
   have HBW:=af hbw
   clear hgd hbw hbw0 hq
   go_wp2_with (first
    |(go_at_call 65;go_must (refine HGD.out.mono ?_;rintro e w3 ⟨rfl,hb3⟩)))
   have HB3:=af (HBW.out.trans (hb3.mono HBW.out.size))
   clear hb3
   go_roundw
   case rel=>exact⟨.inr (by go_num),HB3.out⟩
   case measure=>simp[intOf]
  ·have hbw0:=HA.out.1.trans (hbw.mono HA.out.1.size)
   have hn:=(hbw.block eb (ah.1 HA.out.2.1).1).trans HA.out.2.1
   have Hf:=af (HF.out wr (by rw[<-heb.out];exact hbw0) hn)
   clear hbw hbw0 hn
   go_wp2_with (refine Hf.out.mono ?_;rintro e w4 ⟨hr,(⟨rfl,hR⟩|⟨n,rfl,hR2⟩)⟩<;>refine Stop.of ?_)
   ·have r0:w4.cell? ⟨eb,0,none⟩=some (.int .i64 0):=by simp[World.cell?,hr]
    have r1:w4.frozen? ⟨eb,0,none⟩=false:=by simp[World.frozen?,hr]
    have r2:=(ah.1 hr).1
    refine Stop.on ?_
    go_wp2_with fail
    have hk:Keep (· =eb) w4 (w4.setCell ⟨eb,0,none⟩ (.int .i64 0)):=Keep.setCell (M:=(· =eb)) (p:=⟨eb,0,none⟩) (Keep.refl _ _) (.inr rfl) _
    have hr':(w4.setCell ⟨eb,0,none⟩ (.int .i64 0)).cell? ⟨eb,0,none⟩=some (.int .i64 0):=by simp[World.setCell,World.cell?,aS,hr]
    have hlt':eb<(w4.setCell ⟨eb,0,none⟩ (.int .i64 0)).heap.size:=ak r2 hk.size
    generalize w4.setCell ⟨eb,0,none⟩ (.int .i64 0)=w5 at*
    refine jN (f:=66) (args:=#[.pointer (some ⟨eb,0,none⟩)]) (by simp) (by simp[go_sem]) ?_
    refine(GV eb w5).mono ?_
    rintro e u' w'' ⟨rfl,rfl,hb⟩
    have hc:w''.cell? ⟨eb,0,none⟩=some (.int .i64 0):=(hb.cell (p:=⟨eb,0,none⟩) hlt').trans hr'
    have hfin:Keep (· =eb) w4 w'':=hk.trans (Keep.of_below hb (fun _=>False)) (fun _ _ h=>h.elim)
    refine⟨_,?_,.inl ⟨rfl,w4,hR,hfin⟩⟩
    simp[results,Tryz.results22,go_sem,hc]
   ·refine Stop.on ?_
    refine jN (f:=66) (args:=#[.pointer (some ⟨eb,0,none⟩)]) (by simp) (by simp[go_sem]) ?_
    refine(GX eb n 0 w4 hr).mono ?_
    rintro e u' w'' ⟨rfl,hu,hc,hk⟩
    show Leaves _ _ _ _ [] (settle u') w''
    rw[hu]
    refine⟨_,?_,.inr ⟨n,rfl,w4,hR2,hk⟩⟩
    simp[results,Tryz.results22,go_sem,hc]
theorem kD (f:Value)(ps:Value)(po:Option Addr)(n c:Nat)(hps:ps= .slice po n c)(w:World):Calls Tryz.prog 22 #[.pointer none,f,ps] w fun e w'=>e= .returned (.int .i64 2)/\Below w.heap.size w w':=by
 subst hps
 have hb:=aF w (.cells #[.int .i64 2] 36)
 go_enter_defers Tryz.func22,Tryz.ntmps22
 go_wp2
 exact⟨.int .i64 2,by simp[results,Tryz.results22,go_sem],rfl,hb⟩
end Go.Proofs.YtbfjgkafmlbpcaaGreatDoor
