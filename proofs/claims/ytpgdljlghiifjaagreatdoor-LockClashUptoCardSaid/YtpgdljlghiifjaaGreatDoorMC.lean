/- parts -/
import Derived.Test.YtpgdljlghiifjaaGreatDoorM1
import Derived.Test.YtpgdljlghiifjaaGreatDoorM2
import Derived.Test.YtpgdljlghiifjaaGreatDoorM3
import Derived.Test.YtpgdljlghiifjaaGreatDoorM4
import Derived.Test.YtpgdljlghiifjaaGreatDoorM5
import Derived.Test.YtpgdljlghiifjaaGreatDoorM6
import Derived.Test.YtpgdljlghiifjaaGreatDoorM7
import Derived.Test.YtpgdljlghiifjaaGreatDoorM8
import Derived.Test.YtpgdljlghiifjaaGreatDoorM9
import Derived.Test.YtpgdljlghiifjaaGreatDoorM10
import Derived.Test.YtpgdljlghiifjaaGreatDoorM11
import Derived.Test.YtpgdljlghiifjaaGreatDoorM12
import Derived.Test.YtpgdljlghiifjaaGreatDoorM13
import Derived.Test.YtpgdljlghiifjaaGreatDoorM14
import Derived.Test.YtpgdljlghiifjaaGreatDoorM15
import Derived.Test.YtpgdljlghiifjaaGreatDoorM16
import Derived.Test.YtpgdljlghiifjaaGreatDoorM17
import Derived.Test.YtpgdljlghiifjaaGreatDoorM18
import Derived.Test.YtpgdljlghiifjaaGreatDoorM19
import Derived.Test.YtpgdljlghiifjaaGreatDoorM20
import Derived.Test.YtpgdljlghiifjaaGreatDoorM21
import Derived.Test.YtpgdljlghiifjaaGreatDoorM22
import Derived.Test.YtpgdljlghiifjaaGreatDoorM23
import Derived.Test.YtpgdljlghiifjaaGreatDoorM24
import Derived.Test.YtpgdljlghiifjaaGreatDoorM25
import Derived.Test.YtpgdljlghiifjaaGreatDoorM26
import Derived.Test.YtpgdljlghiifjaaGreatDoorM27
import Derived.Deep.CutRange
set_option maxRecDepth 100000
set_option maxHeartbeats 8000000
set_option linter.all false
namespace Go.Proofs.YtpgdljlghiifjaaGreatDoor
open Go.RowKit
inductive RT where
 |done:RT
 |op:Nat->RT->RT
 |fork:Nat->Nat->RT->RT->RT
def RT.Jy:RT->Bool
 | .done=>true
 |_=>false
def RT.depth:RT->Nat
 | .done=>0
 | .op _ t=>t.depth+1
 | .fork _ _ t u=>max t.depth u.depth+1
section
variable {P:Program} {ops:Array Oper} {Q:Exit->Act->World->Prop} {md:Region.Mode} {S:World->Prop}
def RT.ok (md:Region.Mode)(ops:Array Oper)(q:Nat->Bool):RT->Array Bool->Bool
 | .done,listed=>(Region.ready md ops listed).isEmpty
 | .op i t,listed=>
  (if q i then(Region.ready md ops listed).contains i && Region.free md ops listed i
   else(Region.ready md ops listed==[i]) && (!l8 md ops i||t.Jy)) && t.ok md ops q (listed.setIfInBounds i true)
 | .fork i j t u,listed=>(Region.ready md ops listed==[i,j]) && (t.ok md ops q (listed.setIfInBounds i true) && u.ok md ops q (listed.setIfInBounds j true))
def CX (P:Program)(md:Region.Mode)(ops:Array Oper)(Q:Exit->Act->World->Prop)(S:World->Prop)(q:Nat->Bool):RT->Act->World->Prop
 | .done,a,w=>Q .normal a w
 | .op i t,a,w=>
  if q i then ∃o v,ops[i]? =some o/\(∀c a w,Q (.panic c) (a.put o.dst v) w->Q (.panic c) a w)/\YieldsIf P ops S o v a/\CX P md ops Q S q t (a.put o.dst v) w
  else wpOp P ops Q i (fun a' w'=>(l8 md ops i=true\/S w')/\CX P md ops Q S q t a' w') a w
 | .fork i j t u,a,w=>wpOp P ops Q i (fun a' w'=>S w'/\CX P md ops Q S q t a' w') a w/\wpOp P ops Q j (fun a' w'=>S w'/\CX P md ops Q S q u a' w') a w
theorem oZ (hs:Region.noSelect ops=true){q:Nat->Bool}:∀(t:RT) (fuel:Nat) (listed:Array Bool) (a:Act) (w:World),pE md ops listed->
  t.ok md ops q listed=true->t.depth<=fuel->(t= .done\/S w)->CX P md ops Q S q t a w->si P md ops Q S fuel listed a w
 | .done,fuel,listed,a,w,_,hok,_,_,h=>by
  have h0:Region.ready md ops listed=[]:=by simpa [RT.ok] using hok
  cases fuel with
  |zero=>exact⟨h0,h⟩
  |succ fuel=>exact⟨fun _=>h,fun i hi=>by rw[h0] at hi;cases hi⟩
 | .op i t,0,_,_,_,_,_,hf,_,_=>absurd hf (by simp[RT.depth])
 | .fork i j t u,0,_,_,_,_,_,hf,_,_=>absurd hf (by simp[RT.depth])
 | .op i t,fuel+1,listed,a,w,hsh,hok,hf,hSw,h=>by
  have hS:S w:=hSw.resolve_left (by simp)
  have hf':t.depth<=fuel:=by simp only[RT.depth] at hf;omega
  simp only[RT.ok,dx] at hok
  obtain⟨hi,hrest⟩:=hok
  by_cases hq:q i=true
  ·simp only[hq,iw,dx] at hi
   simp only[CX,hq,iw] at h
   obtain⟨o,v,ho,hQ,hy,h⟩:=h
   exact rZ ho (PE hs) hQ fuel listed a w hsh (Region.free_spec ho hi.2) (by simpa using hi.1) hy hS
    (oZ hs t fuel _ _ _ (hsh.set (by simpa using hi.1)) hrest hf' (.inr hS) h)
  ·rw[if_neg hq,dx,ja] at hi
   simp only[CX] at h
   rw[if_neg hq] at h
   have hr:Region.ready md ops listed=[i]:=by simpa using hi.1
   refine⟨fun h0=>(by rw[hr] at h0;cases h0),fun j hj=> ?_⟩
   rw[hr] at hj
   obtain rfl:j=i:=by simpa using hj
   refine xk (fun a' w' h3=>⟨h3.1,oZ hs t fuel _ _ _ (hsh.set (by rw[hr];exact bK.2 rfl)) hrest hf' ?_ h3.2⟩) h
   rcases h3.1 with hw|hS'
   ·have:=hi.2
    simp only[hw] at this
    refine .inl ?_
    cases t with
    |done=>rfl
    |op i t=>simp[RT.Jy] at this
    |fork i j t u=>simp[RT.Jy] at this
   ·exact .inr hS'
 | .fork i j t u,fuel+1,listed,a,w,hsh,hok,hf,_,h=>by
  have hf':t.depth<=fuel/\u.depth<=fuel:=by simp only[RT.depth] at hf;omega
  simp only[RT.ok,dx,ja] at hok
  obtain⟨hr,hi,hj⟩:=hok
  simp only[CX] at h
  refine⟨fun h0=>(by rw[hr] at h0;cases h0),fun k hk=> ?_⟩
  have hk':=hk
  rw[hr] at hk'
  rcases bX.1 hk' with rfl|hk'
  ·exact xk (fun a' w' h3=>⟨.inr h3.1,oZ hs t fuel _ _ _ (hsh.set hk) hi hf'.1 (.inr h3.1) h3.2⟩) h.1
  ·obtain rfl:k=j:=by simpa using hk'
   exact xk (fun a' w' h3=>⟨.inr h3.1,oZ hs u fuel _ _ _ (hsh.set hk) hj hf'.2 (.inr h3.1) h3.2⟩) h.2
theorem Fs {id:Nat}{a:Act}{w:World}(S:World->Prop)(q:Nat->Bool)(t:RT)(hm:P.follows .mixedOrders=true)(hok:(Region.noSelect ops && decide (t.depth<=ops.size) && t.ok .any ops q (Array.replicate ops.size false))=true)
  (hS:S w.drew) (h:CX P .any ops Q S q t a w.drew):(Code.region id ops true).wp P Q a w:=by
 simp only[dx,bY] at hok
 exact wp_region_any hm (rY _ _ _ _ (oZ hok.1.1 t _ _ _ _ pE.replicate hok.2 hok.1.2 (.inr hS) h))
theorem Ef {q:Nat->Bool}{a:Act}{w:World}(h:Q .normal a w):CX P md ops Q S q .done a w:=h
theorem Nk {q:Nat->Bool}{i:Nat}{t:RT}{a:Act}{w:World}{o:Oper}{v:Value}(hq:q i=true)(hi':ops.toList[i]? =some o)(hQ:∀c a w,Q (.panic c) (a.put o.dst v) w->Q (.panic c) a w)
  (hw:Region.wanted o (yielded ops a.tmps)=true) (hy:∀W,S W->(execOp a.eval o).run P W= .ok (.value v) W) (h:CX P md ops Q S q t (a.put o.dst v) w):CX P md ops Q S q (.op i t) a w:=by
 have hi:ops[i]? =some o:=by rw[<-fZ];exact hi'
 simp only[CX,hq,iw];exact⟨o,v,hi,hQ,.inl ⟨hw,hy⟩,h⟩
theorem sD {q:Nat->Bool}{i:Nat}{t:RT}{a:Act}{w:World}{o:Oper}(hq:q i=false)(hi':ops.toList[i]? =some o)(hw:Region.wanted o (yielded ops a.tmps)=true)
  (h:∀K:Act->World->Prop,Shut (∀a w,S w->CX P md ops Q S q t a w->K a w)->o.wp P a w K Q):CX P md ops Q S q (.op i t) a w:=by
 have hi:ops[i]? =some o:=by rw[<-fZ];exact hi'
 simp only[CX,hq,wpOp,hi,hw,iw]
 exact .inl (h _ (fun a w hS hW=>⟨.inr hS,hW⟩))
theorem Eg {q:Nat->Bool}{i j:Nat}{t u:RT}{a:Act}{w:World}{o p:Oper}(hi':ops.toList[i]? =some o)(hw:Region.wanted o (yielded ops a.tmps)=true)(hj':ops.toList[j]? =some p)(hw2:Region.wanted p (yielded ops a.tmps)=true)
  (h:∀K:Act->World->Prop,Shut (∀a w,S w->CX P md ops Q S q t a w->K a w)->o.wp P a w K Q)
  (h2:∀K:Act->World->Prop,Shut (∀a w,S w->CX P md ops Q S q u a w->K a w)->p.wp P a w K Q):CX P md ops Q S q (.fork i j t u) a w:=by
 have hi:ops[i]? =some o:=by rw[<-fZ];exact hi'
 have hj:ops[j]? =some p:=by rw[<-fZ];exact hj'
 simp only[CX,wpOp,hi,hw,hj,hw2,iw]
 exact⟨.inl (h _ (fun a w hS hW=>⟨hS,hW⟩)),.inl (h2 _ (fun a w hS hW=>⟨hS,hW⟩))⟩
end
end Go.Proofs.YtpgdljlghiifjaaGreatDoor
namespace Go.Proofs.YtpgdljlghiifjaaGreatDoor
open Go.RowKit Go.Shelf
theorem cZ.src {w:World}{S:Nat->Prop}{k n:Nat}{v:Value}{xs:List Value}(h:cZ w S k v n xs){tx e':TypeId}(hk:Tryz.prog.underlying tx=some (.slice e'))(h1:∀u∈xs,u.oneCell'=true):Src Tryz.prog k tx v n xs w:=by
 rcases h with h|⟨rfl,rfl,a,rfl⟩
 ·exact h.src hk h1
 ·exact D6 _ hk _ 0 0 [] (by simp) (fun j u hu=>by simp at hu) (by simp)
theorem Nu (l:List ByteArray):∀u∈l.map Value.string,u.oneCell'=true:=fun u hu=>by
 obtain⟨s,_,rfl⟩:=dL.1 hu
 rfl
structure ug (w0:World)(x:Value)(l:List ByteArray)(y:Value)(m:List ByteArray)(w:World):Prop where
 a:aT w fH w0.heap.size 9 1 x l.length (l.map Value.string)
 b:aT w fH w0.heap.size 9 1 y m.length (m.map Value.string)
 ne:∀g,x.ownBlock=some g->y.ownBlock≠some g
 jR:Below w0.heap.size w0 w
section
variable {w0 w w':World} {x y:Value} {l m:List ByteArray}
theorem ug.swap (h:ug w0 x l y m w):ug w0 y m x l w:=⟨h.b,h.a,fun g h1 h2=>h.ne g h2 h1,h.jR⟩
theorem ug.nil (w0:World):ug w0 (.slice none 0 0) [] (.slice none 0 0) [] w0:=⟨aT.nil _ _ _ _ _,aT.nil _ _ _ _ _,fun g h=>by simp[Value.ownBlock] at h,aO _ _⟩
theorem ug.drew (h:ug w0 x l y m w):ug w0 x l y m w.drew:=⟨h.a.drew,h.b.drew,h.ne,h.jR.drew⟩
theorem ug.fresh (h:ug w0 x l y m w):ug w0 (.slice (some ⟨w.heap.size,0,none⟩) 0 0) [] y m (w.alloc (.cells #[] 9)):=by
 have hb:=aK w (.cells #[] 9)
 exact⟨mO [] 0 0 rfl (by simp) (aG _) (aX _) h.jR.size (fun g hg=>hg.elim),h.b.below hb,fun g hg hy=>by
  cases hg
  exact h.b.lt hy,h.jR.trans (hb.mono h.jR.size)⟩
theorem ug.app (h:ug w0 x l y m w){x':Value}{l':List ByteArray}(ho:aT w' fH w0.heap.size 9 1 x' l'.length (l'.map Value.string))(hk:Keep (fun g=>x.ownBlock=some g) w w')(hb:Below w0.heap.size w w')
  (hd:∀g,g<w.heap.size->x.ownBlock≠some g->x'.ownBlock≠some g):ug w0 x' l' y m w':=
 ⟨ho,h.b.keep fun g hg hl hn=>⟨hk.block g hl (fun e=>h.ne g e hg),hn⟩,fun g hx hy=>hd g (h.b.1.lt g hy).2 (fun e=>h.ne g e hy) hx,h.jR.trans hb⟩
end
theorem kZ {o:Oper}{a:Act}{w w0:World}{K:Act->World->Prop}{Q:Exit->Act->World->Prop}(s y:Operand)(ho:o.op= .call {callee:= .builtin .append,args:=#[s,y],argTypes:=#[22,22]})
  {v v2:Value} {l m:List ByteArray} (hv:a.eval s=v) (hT:ug w0 v l v2 m w) {S:Nat->Prop} {x:Value} {r:List ByteArray} (hx:a.eval y=x) (hs:gY w S x r) (h1:l.length+r.length<=8388608)
  (h:∀ao c w',ug w0 (.slice ao (l.length+r.length) c) (l++r) v2 m w'->Below w0.heap.size w w'->Keep (fun g=>v.ownBlock=some g) w w'->K (a.put o.dst (.slice ao (l.length+r.length) c)) w'):o.wp Tryz.prog a w K Q:=by
 refine lZ s y 22 22 ho fH w0.heap.size 9 1 16 _ aY gD rfl v l.length _ hv hT.a x r.length _ hx (cZ.src hs aY (Nu r)) (fun g hg=>hg.elim) hT.jR.size (by unfold maxLen;omega) (by omega) ?_
 intro ao c w' h2 h3 h4 h5
 refine h ao c w' (hT.app ?_ h3 h4 h5) h4 h3
 rw[ay,dz]
 exact h2
def TR:RT:= .op 13 (.op 15 (.op 16 (.op 17 .done)))
def Uo:RT:= .op 0 (.op 1 (.op 2 (.op 3 (.op 5 (.op 6 (.op 8 (.op 11 (.op 12 (.op 14 (.op 18 (.fork 4 10 (.fork 7 10 (.fork 9 10 (.op 10 TR) (.op 9 TR)) (.op 7 (.op 9 TR))) (.op 4 (.op 7 (.op 9 TR))))))))))))))
def Us (w3:World)(p q:Value)(l m:List ByteArray)(s:Value)(wx:World):Prop:=
 ∃(pb:Nat) (x y:Value),s= .slice (some ⟨pb,0,none⟩) 4 4/\wx.heap[pb]? =some (.cells #[p,q,x,y] 22 (0,0))/\gY wx fH x l/\gY wx fH y m/\Below w3.heap.size w3 wx
theorem EW {w3 w:World}{x y p q s n i:Value}{l m:List ByteArray}(h:ug w3 x l y m w)(hs:s= .slice (some ⟨w.heap.size,0,none⟩) 4 4)(hn:n= .int .i64 4)(hi:i= .int .i64 0){wx:World}(hw:wx=w.alloc (.cells #[p,q,x,y] 22)):
  n= .int .i64 4/\i= .int .i64 0/\Us w3 p q l m s wx:=by
 subst hw
 have hb:=aK w (.cells #[p,q,x,y] 22)
 exact⟨hn,hi,_,x,y,hs,aP w _,cZ.below h.a.rF hb,cZ.below h.b.rF hb,h.jR.trans (hb.mono h.jR.size)⟩
theorem TB {wc wr:World}{pb:Nat}{p q x y:Value}{l1 l2 l3 l4:List ByteArray}(h:wc.heap[pb]? =some (.cells #[p,q,x,y] 22 (0,0)))(h1:gY wc fH p l1)(h2:gY wc fH q l2)(h3:gY wc fH x l3)(h4:gY wc fH y l4)(hb:Below wc.heap.size wc wr)(k:Nat)(hk:k<4):
  ∃pv pl,wr.cell? ⟨pb,k,none⟩=some pv/\gY wr fH pv pl/\[l1,l2,l3,l4][k]? =some pl:=by
 have hr:=(hb.block pb (aj.1 h).1).trans h
 have hk':k=0\/k=1\/k=2\/k=3:=by omega
 rcases hk' with rfl|rfl|rfl|rfl
 ·exact⟨p,l1,by simp[World.cell?,hr],cZ.below h1 hb,rfl⟩
 ·exact⟨q,l2,by simp[World.cell?,hr],cZ.below h2 hb,rfl⟩
 ·exact⟨x,l3,by simp[World.cell?,hr],cZ.below h3 hb,rfl⟩
 ·exact⟨y,l4,by simp[World.cell?,hr],cZ.below h4 hb,rfl⟩
def xH (a b:bI)(ps:List (List ByteArray))(k:Nat):Bool:=(ps.take k).any fun p=>a.covers p && b.covers p
theorem Ja {a b:bI}{ps:List (List ByteArray)}{k:Nat}{pl:List ByteArray}(h:ps[k]? =some pl):xH a b ps (k+1)=(xH a b ps k||(a.covers pl && b.covers pl)):=by
 obtain⟨hk,rfl⟩:=dh.1 h
 unfold xH
 rw[aI hk,ru]
 simp
def Ut (a b:bI)(ps:List (List ByteArray))(wc:World)(bo i:Value)(wr:World):Prop:=
 ∃k:Nat,k<=4/\i= .int .i64 k/\bo= .bool (xH a b ps k)/\Below wc.heap.size wc wr
theorem JU (a b:bI)(av bv mv:Value)(more:List ByteArray)(w:World)(ha:gY w fH av a.path)(hb:gY w fH bv b.path)(hm:gY w fH mv more)(hT:vX w)
  (hla:a.path.length<=2097152) (hlb:b.path.length<=2097152) (hlm:more.length<=2097152):
  Calls Tryz.prog 4 #[p8 a av,p8 b bv,mv] w fun e w'=>e= .returned (.bool true)/\Below w.heap.size w w':=by
 obtain⟨tk,pt,dp,ex,ow,ti⟩:=a
 obtain⟨tk2,pt2,dp2,ex2,ow2,ti2⟩:=b
 dsimp only at ha hb hla hlb
 have hfa:=cZ.form ha
 have hfb:=cZ.form hb
 have hfm:=cZ.form hm
 have H:=af (aC ha (aC hb (aC hm hT)))
 clear ha hb hm hT
 obtain⟨po,pc,rfl,_,_,_,_⟩:=hfa
 obtain⟨qo,qc,rfl,_,_,_,_⟩:=hfb
 obtain⟨mo,mc,rfl,_,_,_,_⟩:=hfm
 unfold p8
 dsimp only
 have hb1:=aK w (.cells #[.string tk,.slice po pt.length pc,.bool dp,.bool ex,.string ow,.int .i64 ti] 24)
 have hn1:=aP w (.cells #[.string tk,.slice po pt.length pc,.bool dp,.bool ex,.string ow,.int .i64 ti] 24)
 obtain⟨w1,hw1⟩:∃w1:World,Hid (w.alloc (.cells #[.string tk,.slice po pt.length pc,.bool dp,.bool ex,.string ow,.int .i64 ti] 24)=w1):=⟨_,af rfl⟩
 have hs1:w1.heap.size=w.heap.size+1:=by rw[<-hw1.out];simp
 rw[hw1.out] at hb1 hn1
 have hb2:=aK w1 (.cells #[.string tk2,.slice qo pt2.length qc,.bool dp2,.bool ex2,.string ow2,.int .i64 ti2] 24)
 have hn2:=aP w1 (.cells #[.string tk2,.slice qo pt2.length qc,.bool dp2,.bool ex2,.string ow2,.int .i64 ti2] 24)
 obtain⟨w2,hw2⟩:∃w2:World,Hid (w1.alloc (.cells #[.string tk2,.slice qo pt2.length qc,.bool dp2,.bool ex2,.string ow2,.int .i64 ti2] 24)=w2):=⟨_,af rfl⟩
 rw[hw2.out] at hb2 hn2
 obtain⟨la,hla'⟩:∃la:Nat,Hid (w.heap.size=la):=⟨_,af rfl⟩
 obtain⟨lb,hlb'⟩:∃lb:Nat,Hid (la+1=lb):=⟨_,af rfl⟩
 rw[hs1,hla'.out,hlb'.out] at hn2
 rw[hla'.out] at hn1
 have hA2:=(hb2.block la (aj.1 hn1).1).trans hn1
 have hb12:=hb1.trans (hb2.mono hb1.size)
 have HFX:=af (Gl w2 (H.out.2.2.2.below hb12))
 have HB:=af (aC hb12 (aC hA2 hn2))
 clear hb1 hb2 hn1 hn2 hs1 hA2 hb12
 go_enter Tryz.func4,Tryz.ntmps4
 go_upto_region 1 with (fail)
 rw[hw1.out,hw2.out,hla'.out,hlb'.out]
 go_wp2_with (first
  |(go_at_call 9;go_must (refine HFX.out.mono ?_;rintro e w3 ⟨rfl,hb3⟩;refine Stop.of ?_)))
 refine Stop.on ?_
 have HB3:=af (HB.out.1.trans (hb3.mono HB.out.1.size))
 obtain⟨e0,e1,e2,e3,e4,e5,le⟩:=bW ((hb3.block la (aj.1 HB.out.2.1).1).trans HB.out.2.1)
 obtain⟨f0,f1,f2,f3,f4,f5,fl⟩:=bW ((hb3.block lb (aj.1 HB.out.2.2).1).trans HB.out.2.2)
 clear hb3
 go_upto_region 4 with (fail)
 have hPa:∀W,Below w3.heap.size w3 W->gY W fH (.slice po pt.length pc) pt:=fun W hW=>cZ.below H.out.1 (HB3.out.trans (hW.mono HB3.out.size))
 have hPb:∀W,Below w3.heap.size w3 W->gY W fH (.slice qo pt2.length qc) pt2:=fun W hW=>cZ.below H.out.2.1 (HB3.out.trans (hW.mono HB3.out.size))
 have hPm:∀W,Below w3.heap.size w3 W->gY W fH (.slice mo more.length mc) more:=fun W hW=>cZ.below H.out.2.2.1 (HB3.out.trans (hW.mono HB3.out.size))
 go_cut [28,29,30] from 12 to 67 (fun s n i wx=>n= .int .i64 4/\i= .int .i64 0/\Us w3 (.slice po pt.length pc) (.slice qo pt2.length qc) (pt++more) (pt2++more) s wx)
 case first=>
  refine Fs (fun W=>Below w3.heap.size w3 W) (fun i=> !([4,7,9,10,13,15,16].contains i)) Uo rfl (by kernel_rfl) ((aO _ w3).drew) ?_
  unfold Uo
  repeat ((refine Nk (v:= ?_) rfl rfl (fun _ _ _ h=>h) rfl (fun W hW=> ?_) ?_);rotate_left;(focus ((try dsimp only at hW);have a1:=(hW.cell le).trans e1;have b1:=(hW.cell fl).trans f1;have a0:=(hW.cell le).trans e0;have b0:=(hW.cell fl).trans f0;have la:=ax le hW.size;have lb:=ax fl hW.size;(go_simp;first|done|with_reducible rfl)));(try simp only[Act.put,ah,au,ak]))
  have T0:=(ug.nil w3).drew
  refine Eg rfl rfl rfl rfl ?_ ?_
  ·intro K hK;go_simp
   have T1:=T0.fresh
   (try simp only[aU] at T1)
   refine hK.out _ _ T1.jR ?_
   (try simp only[Act.put,ah,au,ak,aJ,aV])
   refine Eg rfl rfl rfl rfl ?_ ?_
   ·intro K hK
    refine kZ (.tmp 16) (.tmp 18) rfl rfl T1 rfl (hPa _ T1.jR) (by first|omega|(simp only[ay,aJ,aV];omega)) ?_
    intro ao7 c7 w7 T2 hb7 _
    (try simp only[aJ,aV,dB] at T2)
    refine hK.out _ _ T2.jR ?_
    (try simp only[Act.put,ah,au,ak,aJ,aV])
    refine Eg rfl rfl rfl rfl ?_ ?_
    ·intro K hK
     refine kZ (.tmp 19) (.tmp 20) rfl rfl T2 rfl (hPm _ T2.jR) (by first|omega|(simp only[ay,aJ,aV];omega)) ?_
     intro ao9 c9 w9 T3 hb9 _
     (try simp only[aJ,aV,dB] at T3)
     refine hK.out _ _ T3.jR ?_
     (try simp only[Act.put,ah,au,ak,aJ,aV])
     refine sD rfl rfl rfl ?_
     intro K hK;go_simp
     have T4:=T3.swap.fresh.swap
     (try simp only[aU] at T4)
     refine hK.out _ _ T4.jR ?_
     (try simp only[Act.put,ah,au,ak,aJ,aV])
     refine sD rfl rfl rfl ?_
     intro K hK
     refine kZ (.tmp 22) (.tmp 24) rfl rfl T4.swap rfl (hPb _ T4.jR) (by first|omega|(simp only[ay,aJ,aV];omega)) ?_
     intro ao13 c13 w13 T5' hb13 _
     have T5:=T5'.swap
     (try simp only[aJ,aV,dB] at T5)
     clear T5'
     refine hK.out _ _ T5.jR ?_
     (try simp only[Act.put,ah,au,ak,aJ,aV])
     refine sD rfl rfl rfl ?_
     intro K hK
     refine kZ (.tmp 25) (.tmp 26) rfl rfl T5.swap rfl (hPm _ T5.jR) (by first|omega|(simp only[ay,aJ,aV];omega)) ?_
     intro ao15 c15 w15 T6' hb15 _
     have T6:=T6'.swap
     (try simp only[aJ,aV,dB] at T6)
     clear T6'
     refine hK.out _ _ T6.jR ?_
     (try simp only[Act.put,ah,au,ak,aJ,aV])
     refine sD rfl rfl rfl ?_
     intro K hK;go_simp
     refine hK.out _ _ (T6.jR.trans ((aK _ _).mono T6.jR.size)) ?_
     (try simp only[Act.put,ah,au,ak,aJ,aV])
     repeat ((refine Nk (v:= ?_) rfl rfl (fun _ _ _ h=>h) rfl (fun W hW=> ?_) ?_);rotate_left;(focus ((try dsimp only at hW);skip;(go_simp;first|done|with_reducible rfl)));(try simp only[Act.put,ah,au,ak]))
     refine Ef ?_
     go_wp2_with (fail)
     go_meet
     exact EW T6 rfl rfl rfl rfl
    ·intro K hK;go_simp
     have T3:=T2.swap.fresh.swap
     (try simp only[aU] at T3)
     refine hK.out _ _ T3.jR ?_
     (try simp only[Act.put,ah,au,ak,aJ,aV])
     refine sD rfl rfl rfl ?_
     intro K hK
     refine kZ (.tmp 19) (.tmp 20) rfl rfl T3 rfl (hPm _ T3.jR) (by first|omega|(simp only[ay,aJ,aV];omega)) ?_
     intro ao9 c9 w9 T4 hb9 _
     (try simp only[aJ,aV,dB] at T4)
     refine hK.out _ _ T4.jR ?_
     (try simp only[Act.put,ah,au,ak,aJ,aV])
     refine sD rfl rfl rfl ?_
     intro K hK
     refine kZ (.tmp 22) (.tmp 24) rfl rfl T4.swap rfl (hPb _ T4.jR) (by first|omega|(simp only[ay,aJ,aV];omega)) ?_
     intro ao13 c13 w13 T5' hb13 _
     have T5:=T5'.swap
     (try simp only[aJ,aV,dB] at T5)
     clear T5'
     refine hK.out _ _ T5.jR ?_
     (try simp only[Act.put,ah,au,ak,aJ,aV])
     refine sD rfl rfl rfl ?_
     intro K hK
     refine kZ (.tmp 25) (.tmp 26) rfl rfl T5.swap rfl (hPm _ T5.jR) (by first|omega|(simp only[ay,aJ,aV];omega)) ?_
     intro ao15 c15 w15 T6' hb15 _
     have T6:=T6'.swap
     (try simp only[aJ,aV,dB] at T6)
     clear T6'
     refine hK.out _ _ T6.jR ?_
     (try simp only[Act.put,ah,au,ak,aJ,aV])
     refine sD rfl rfl rfl ?_
     intro K hK;go_simp
     refine hK.out _ _ (T6.jR.trans ((aK _ _).mono T6.jR.size)) ?_
     (try simp only[Act.put,ah,au,ak,aJ,aV])
     repeat ((refine Nk (v:= ?_) rfl rfl (fun _ _ _ h=>h) rfl (fun W hW=> ?_) ?_);rotate_left;(focus ((try dsimp only at hW);skip;(go_simp;first|done|with_reducible rfl)));(try simp only[Act.put,ah,au,ak]))
     refine Ef ?_
     go_wp2_with (fail)
     go_meet
     exact EW T6 rfl rfl rfl rfl
   ·intro K hK;go_simp
    have T2:=T1.swap.fresh.swap
    (try simp only[aU] at T2)
    refine hK.out _ _ T2.jR ?_
    (try simp only[Act.put,ah,au,ak,aJ,aV])
    refine sD rfl rfl rfl ?_
    intro K hK
    refine kZ (.tmp 16) (.tmp 18) rfl rfl T2 rfl (hPa _ T2.jR) (by first|omega|(simp only[ay,aJ,aV];omega)) ?_
    intro ao7 c7 w7 T3 hb7 _
    (try simp only[aJ,aV,dB] at T3)
    refine hK.out _ _ T3.jR ?_
    (try simp only[Act.put,ah,au,ak,aJ,aV])
    refine sD rfl rfl rfl ?_
    intro K hK
    refine kZ (.tmp 19) (.tmp 20) rfl rfl T3 rfl (hPm _ T3.jR) (by first|omega|(simp only[ay,aJ,aV];omega)) ?_
    intro ao9 c9 w9 T4 hb9 _
    (try simp only[aJ,aV,dB] at T4)
    refine hK.out _ _ T4.jR ?_
    (try simp only[Act.put,ah,au,ak,aJ,aV])
    refine sD rfl rfl rfl ?_
    intro K hK
    refine kZ (.tmp 22) (.tmp 24) rfl rfl T4.swap rfl (hPb _ T4.jR) (by first|omega|(simp only[ay,aJ,aV];omega)) ?_
    intro ao13 c13 w13 T5' hb13 _
    have T5:=T5'.swap
    (try simp only[aJ,aV,dB] at T5)
    clear T5'
    refine hK.out _ _ T5.jR ?_
    (try simp only[Act.put,ah,au,ak,aJ,aV])
    refine sD rfl rfl rfl ?_
    intro K hK
    refine kZ (.tmp 25) (.tmp 26) rfl rfl T5.swap rfl (hPm _ T5.jR) (by first|omega|(simp only[ay,aJ,aV];omega)) ?_
    intro ao15 c15 w15 T6' hb15 _
    have T6:=T6'.swap
    (try simp only[aJ,aV,dB] at T6)
    clear T6'
    refine hK.out _ _ T6.jR ?_
    (try simp only[Act.put,ah,au,ak,aJ,aV])
    refine sD rfl rfl rfl ?_
    intro K hK;go_simp
    refine hK.out _ _ (T6.jR.trans ((aK _ _).mono T6.jR.size)) ?_
    (try simp only[Act.put,ah,au,ak,aJ,aV])
    repeat ((refine Nk (v:= ?_) rfl rfl (fun _ _ _ h=>h) rfl (fun W hW=> ?_) ?_);rotate_left;(focus ((try dsimp only at hW);skip;(go_simp;first|done|with_reducible rfl)));(try simp only[Act.put,ah,au,ak]))
    refine Ef ?_
    go_wp2_with (fail)
    go_meet
    exact EW T6 rfl rfl rfl rfl
  ·intro K hK;go_simp
   have T1:=T0.swap.fresh.swap
   (try simp only[aU] at T1)
   refine hK.out _ _ T1.jR ?_
   (try simp only[Act.put,ah,au,ak,aJ,aV])
   refine sD rfl rfl rfl ?_
   intro K hK;go_simp
   have T2:=T1.fresh
   (try simp only[aU] at T2)
   refine hK.out _ _ T2.jR ?_
   (try simp only[Act.put,ah,au,ak,aJ,aV])
   refine sD rfl rfl rfl ?_
   intro K hK
   refine kZ (.tmp 16) (.tmp 18) rfl rfl T2 rfl (hPa _ T2.jR) (by first|omega|(simp only[ay,aJ,aV];omega)) ?_
   intro ao7 c7 w7 T3 hb7 _
   (try simp only[aJ,aV,dB] at T3)
   refine hK.out _ _ T3.jR ?_
   (try simp only[Act.put,ah,au,ak,aJ,aV])
   refine sD rfl rfl rfl ?_
   intro K hK
   refine kZ (.tmp 19) (.tmp 20) rfl rfl T3 rfl (hPm _ T3.jR) (by first|omega|(simp only[ay,aJ,aV];omega)) ?_
   intro ao9 c9 w9 T4 hb9 _
   (try simp only[aJ,aV,dB] at T4)
   refine hK.out _ _ T4.jR ?_
   (try simp only[Act.put,ah,au,ak,aJ,aV])
   refine sD rfl rfl rfl ?_
   intro K hK
   refine kZ (.tmp 22) (.tmp 24) rfl rfl T4.swap rfl (hPb _ T4.jR) (by first|omega|(simp only[ay,aJ,aV];omega)) ?_
   intro ao13 c13 w13 T5' hb13 _
   have T5:=T5'.swap
   (try simp only[aJ,aV,dB] at T5)
   clear T5'
   refine hK.out _ _ T5.jR ?_
   (try simp only[Act.put,ah,au,ak,aJ,aV])
   refine sD rfl rfl rfl ?_
   intro K hK
   refine kZ (.tmp 25) (.tmp 26) rfl rfl T5.swap rfl (hPm _ T5.jR) (by first|omega|(simp only[ay,aJ,aV];omega)) ?_
   intro ao15 c15 w15 T6' hb15 _
   have T6:=T6'.swap
   (try simp only[aJ,aV,dB] at T6)
   clear T6'
   refine hK.out _ _ T6.jR ?_
   (try simp only[Act.put,ah,au,ak,aJ,aV])
   refine sD rfl rfl rfl ?_
   intro K hK;go_simp
   refine hK.out _ _ (T6.jR.trans ((aK _ _).mono T6.jR.size)) ?_
   (try simp only[Act.put,ah,au,ak,aJ,aV])
   repeat ((refine Nk (v:= ?_) rfl rfl (fun _ _ _ h=>h) rfl (fun W hW=> ?_) ?_);rotate_left;(focus ((try dsimp only at hW);skip;(go_simp;first|done|with_reducible rfl)));(try simp only[Act.put,ah,au,ak]))
   refine Ef ?_
   go_wp2_with (fail)
   go_meet
   exact EW T6 rfl rfl rfl rfl
 case rest=>
  obtain⟨rfl,rfl,pb,x,y,rfl,hpb,hx,hy,hbc⟩:=hcut
  have hpl:=(aj.1 hpb).1
  obtain⟨A,hA⟩:∃A:bI,(⟨tk,pt,dp,ex,ow,ti⟩:bI)=A:=⟨_,rfl⟩
  obtain⟨B,hB⟩:∃B:bI,(⟨tk2,pt2,dp2,ex2,ow2,ti2⟩:bI)=B:=⟨_,rfl⟩
  have hst:Ut A B [pt,pt2,pt++more,pt2++more] wc (.bool false) (.int .i64 0) wc:=⟨0,by omega,rfl,by simp[xH],aO _ _⟩
  have HC:=af (aC hpb (aC hx (aC hy (aC hbc hpl))))
  have HP:=af (aC hPa hPb)
  have HE:=af (aC e0 (aC e1 (aC e2 (aC e3 (aC e4 (aC e5 le))))))
  have HG:=af (aC f0 (aC f1 (aC f2 (aC f3 (aC f4 (aC f5 fl))))))
  clear hpb hx hy hbc hPa hPb hPm e0 e1 e2 e3 e4 e5 le f0 f1 f2 f3 f4 f5 fl
  go_upto_region 5 with (fail)
  go_loopw [7,9,30] (fun bo _ i wr=>Ut A B [pt,pt2,pt++more,pt2++more] wc bo i wr) (fun _ _ i _=>4 - (intOf i).toNat)
  case atStart=>exact hst
  case round=>
   obtain⟨k,hk,rfl,rfl,hbw⟩:=hrel
   clear hst
   have hb3:Below w3.heap.size w3 wr:=HC.out.2.2.2.1.trans (hbw.mono HC.out.2.2.2.1.size)
   have e0:=(hb3.cell HE.out.2.2.2.2.2.2).trans HE.out.1
   have e1:=(hb3.cell HE.out.2.2.2.2.2.2).trans HE.out.2.1
   have e2:=(hb3.cell HE.out.2.2.2.2.2.2).trans HE.out.2.2.1
   have e3:=(hb3.cell HE.out.2.2.2.2.2.2).trans HE.out.2.2.2.1
   have e4:=(hb3.cell HE.out.2.2.2.2.2.2).trans HE.out.2.2.2.2.1
   have e5:=(hb3.cell HE.out.2.2.2.2.2.2).trans HE.out.2.2.2.2.2.1
   have le:=ax HE.out.2.2.2.2.2.2 hb3.size
   have f0:=(hb3.cell HG.out.2.2.2.2.2.2).trans HG.out.1
   have f1:=(hb3.cell HG.out.2.2.2.2.2.2).trans HG.out.2.1
   have f2:=(hb3.cell HG.out.2.2.2.2.2.2).trans HG.out.2.2.1
   have f3:=(hb3.cell HG.out.2.2.2.2.2.2).trans HG.out.2.2.2.1
   have f4:=(hb3.cell HG.out.2.2.2.2.2.2).trans HG.out.2.2.2.2.1
   have f5:=(hb3.cell HG.out.2.2.2.2.2.2).trans HG.out.2.2.2.2.2.1
   have fl:=ax HG.out.2.2.2.2.2.2 hb3.size
   have hpa:=HP.out.1 wr hb3
   have hpq:=HP.out.2 wr hb3
   by_cases hk4:k<4
   ·have hk4':(k:Int)<4:=by omega
    obtain⟨pv,pl,d,hp,hps⟩:=TB HC.out.1 (HP.out.1 wc HC.out.2.2.2.1) (HP.out.2 wc HC.out.2.2.2.1) HC.out.2.1 HC.out.2.2.1 hbw k hk4
    have hsn:=Ja (a:=A) (b:=B) hps
    have dl:=aD wr _ d
    obtain⟨yo,yc,rfl,_,_,_,_⟩:=cZ.form hp
    obtain⟨S0,hS0⟩:∃S0,xH A B [pt,pt2,pt++more,pt2++more] k=S0:=⟨_,rfl⟩
    rw[hS0] at hsn ⊢
    cases S0 with
    |true=>
     have HB4:=af (aC hbw hsn)
     clear hbw hsn hp hpa hpq hb3 hps hS0
     go_wp2_with (fail)
     go_roundw
     case rel=>exact⟨k+1,by omega,by go_num,by rw[HB4.out.2];rfl,HB4.out.1⟩
     case measure=>simp[intOf];omega
    |false=>
     have hc1:=nL A (.slice po pt.length pc) (.slice yo pl.length yc) pl fH fH wr (by rw[<-hA];exact hpa) hp
     have hpf:=cZ.form hp
     obtain⟨c1,hcc⟩:∃c1,A.covers pl=c1:=⟨_,rfl⟩
     rw[hcc] at hc1 hsn
     unfold p8 at hc1
     rw[<-hA] at hc1
     dsimp only at hc1
     have HC1:=af hc1
     have HB4:=af (aC hbw (aC hsn (aC hp hpq)))
     clear hbw hsn hp hpa hpq hb3 hps hS0 hc1 hpf
     cases c1 with
     |false=>
      go_wp2_with (first
       |(go_at_call 12;go_must (refine HC1.out.mono ?_;rintro e w5 ⟨rfl,hb5⟩;refine Stop.of ?_)))
      refine Stop.on ?_
      have HB5:=af (HB4.out.1.trans (hb5.mono HB4.out.1.size))
      clear e0 e1 e2 e3 e4 e5 le f0 f1 f2 f3 f4 f5 fl d dl hb5
      go_wp2_with (fail)
      go_roundw
      case rel=>exact⟨k+1,by omega,by go_num,by rw[HB4.out.2.1];rfl,HB5.out⟩
      case measure=>simp[intOf];omega
     |true=>
      go_wp2_with (first
       |(go_at_call 12;go_must (refine HC1.out.mono ?_;rintro e w5 ⟨rfl,hb5⟩;refine Stop.of ?_)))
      refine Stop.on ?_
      have hc2:=nL B (.slice qo pt2.length qc) (.slice yo pl.length yc) pl fH fH w5 (by rw[<-hB];exact cZ.below HB4.out.2.2.2 hb5) (cZ.below HB4.out.2.2.1 hb5)
      unfold p8 at hc2
      obtain⟨c2,hc2'⟩:∃c2,B.covers pl=c2:=⟨_,rfl⟩
      rw[hc2',<-hB] at hc2
      dsimp only at hc2
      have HC2:=af hc2
      have HQ:=af hc2'
      have g0:=(hb5.cell fl).trans f0
      have g1:=(hb5.cell fl).trans f1
      have g2:=(hb5.cell fl).trans f2
      have g3:=(hb5.cell fl).trans f3
      have g4:=(hb5.cell fl).trans f4
      have g5:=(hb5.cell fl).trans f5
      have gl:=ax fl hb5.size
      have HB5:=af (HB4.out.1.trans (hb5.mono HB4.out.1.size))
      clear e0 e1 e2 e3 e4 e5 le f0 f1 f2 f3 f4 f5 fl d dl hb5 hc2 hc2'
      go_wp2_with (first
       |(go_at_call 12;go_must (refine HC2.out.mono ?_;rintro e w6 ⟨rfl,hb6⟩;refine Stop.of ?_)))
      refine Stop.on ?_
      have HB6:=af (HB5.out.trans (hb6.mono HB5.out.size))
      clear g0 g1 g2 g3 g4 g5 gl hb6
      go_wp2_with (fail)
      go_roundw
      case rel=>exact⟨k+1,by omega,by go_num,by rw[HB4.out.2.1,HQ.out];rfl,HB6.out⟩
      case measure=>simp[intOf];omega
   ·obtain rfl:k=4:=by omega
    have x4:¬(4:Int)<4:=by omega
    have hcl:A.clash B=(xH A B [pt,pt2,pt++more,pt2++more] 4 && (ex||ex2)):=by
     have h:=JV A B [pt,pt2,pt++more,pt2++more] (by rw[<-hA];simp) (by rw[<-hB];simp)
     rw[h]
     unfold xH
     rw[show ([pt,pt2,pt++more,pt2++more].take 4)=[pt,pt2,pt++more,pt2++more] from rfl,<-hA,<-hB]
    obtain⟨S4,hS4⟩:∃S4,xH A B [pt,pt2,pt++more,pt2++more] 4=S4:=⟨_,rfl⟩
    rw[hS4] at hcl ⊢
    have HK:∀W,Below wr.heap.size wr W->Calls Tryz.prog 14 #[.agg #[.string tk,.slice po pt.length pc,.bool dp,.bool ex,.string ow,.int .i64 ti],.agg #[.string tk2,.slice qo pt2.length qc,.bool dp2,.bool ex2,.string ow2,.int .i64 ti2]] W fun e w'=>e= .returned (.bool (S4 && (ex||ex2)))/\Below W.heap.size W w':=fun W hW=>by
     have h:=uG A B (.slice po pt.length pc) (.slice qo pt2.length qc) fH fH W (by rw[<-hA];exact cZ.below hpa hW) (by rw[<-hB];exact cZ.below hpq hW)
     rw[hcl,<-hA,<-hB] at h
     exact h
    have HK2:∀W,Below wr.heap.size wr W->Calls Tryz.prog 14 #[.agg #[.string tk2,.slice qo pt2.length qc,.bool dp2,.bool ex2,.string ow2,.int .i64 ti2],.agg #[.string tk,.slice po pt.length pc,.bool dp,.bool ex,.string ow,.int .i64 ti]] W fun e w'=>e= .returned (.bool (S4 && (ex||ex2)))/\Below W.heap.size W w':=fun W hW=>by
     have h:=uG B A (.slice qo pt2.length qc) (.slice po pt.length pc) fH fH W (by rw[<-hB];exact cZ.below hpq hW) (by rw[<-hA];exact cZ.below hpa hW)
     rw[JW,hcl,<-hA,<-hB] at h
     exact h
    have HK1:=af (aC HK HK2)
    have HBW:=af (HB3.out.trans (hb3.mono HB3.out.size))
    clear HK HK2 hpa hpq hb3 hbw hcl hS4 hA hB
    obtain⟨C,hC⟩:∃C,Hid ((S4 && (ex||ex2))=C):=⟨_,af rfl⟩
    rw[hC.out] at HK1
    clear HE HG
    go_wp2_with (fail)
    cases S4 with
    |false=>
     obtain rfl:false=C:=hC.out
     refine aS (fun W=>Below wr.heap.size wr W) (fun i=> !([2,16,19].contains i)) [0,1,3,2,4,5,6,7,8,9,10,11,12,13,14,15,17,18,16,19,20,21,22] rfl (by kernel_rfl) ((aO _ wr).drew) ?_
     repeat ((refine bL (v:= ?_) rfl rfl (fun _ _ _ h=>h) rfl (fun W hW=> ?_) ?_);rotate_left;(focus ((try dsimp only at hW);have a0:=(hW.cell le).trans e0;have a1:=(hW.cell le).trans e1;have a2:=(hW.cell le).trans e2;have a3:=(hW.cell le).trans e3;have a4:=(hW.cell le).trans e4;have a5:=(hW.cell le).trans e5;have b0:=(hW.cell fl).trans f0;have b1:=(hW.cell fl).trans f1;have b2:=(hW.cell fl).trans f2;have b3:=(hW.cell fl).trans f3;have b4:=(hW.cell fl).trans f4;have b5:=(hW.cell fl).trans f5;have la:=ax le hW.size;have lb:=ax fl hW.size;(go_simp;first|done|with_reducible rfl)));(try simp only[Act.put,ah,au,ak]))
     refine dm rfl rfl rfl ?_;intro K hK;go_simp
     refine(HK1.out.1 _ ((aO _ wr).drew)).mono ?_;rintro e w5 ⟨rfl,hb5⟩
     have hb5':Below wr.heap.size wr w5:=(aO _ wr).drew.trans hb5
     refine hK.out _ _ hb5' ?_
     (try simp only[Act.put,ah,au,ak])
     repeat ((refine bL (v:= ?_) rfl rfl (fun _ _ _ h=>h) rfl (fun W hW=> ?_) ?_);rotate_left;(focus ((try dsimp only at hW);have a0:=(hW.cell le).trans e0;have a1:=(hW.cell le).trans e1;have a2:=(hW.cell le).trans e2;have a3:=(hW.cell le).trans e3;have a4:=(hW.cell le).trans e4;have a5:=(hW.cell le).trans e5;have b0:=(hW.cell fl).trans f0;have b1:=(hW.cell fl).trans f1;have b2:=(hW.cell fl).trans f2;have b3:=(hW.cell fl).trans f3;have b4:=(hW.cell fl).trans f4;have b5:=(hW.cell fl).trans f5;have la:=ax le hW.size;have lb:=ax fl hW.size;(go_simp;first|done|with_reducible rfl)));(try simp only[Act.put,ah,au,ak]))
     repeat ((refine uE rfl rfl (fun _ _ _ h=>h) rfl ?_);(try simp only[Act.put,ah,au,ak]);(repeat ((refine bL (v:= ?_) rfl rfl (fun _ _ _ h=>h) rfl (fun W hW=> ?_) ?_);rotate_left;(focus ((try dsimp only at hW);have a0:=(hW.cell le).trans e0;have a1:=(hW.cell le).trans e1;have a2:=(hW.cell le).trans e2;have a3:=(hW.cell le).trans e3;have a4:=(hW.cell le).trans e4;have a5:=(hW.cell le).trans e5;have b0:=(hW.cell fl).trans f0;have b1:=(hW.cell fl).trans f1;have b2:=(hW.cell fl).trans f2;have b3:=(hW.cell fl).trans f3;have b4:=(hW.cell fl).trans f4;have b5:=(hW.cell fl).trans f5;have la:=ax le hW.size;have lb:=ax fl hW.size;(go_simp;first|done|with_reducible rfl)));(try simp only[Act.put,ah,au,ak]))))
     refine dm rfl rfl rfl ?_;intro K hK;go_simp
     refine(HK1.out.1 _ hb5').mono ?_;rintro e w6 ⟨rfl,hb6⟩
     have hb6':Below wr.heap.size wr w6:=hb5'.trans (hb6.mono hb5'.size)
     refine hK.out _ _ hb6' ?_
     (try simp only[Act.put,ah,au,ak])
     repeat ((refine bL (v:= ?_) rfl rfl (fun _ _ _ h=>h) rfl (fun W hW=> ?_) ?_);rotate_left;(focus ((try dsimp only at hW);have a0:=(hW.cell le).trans e0;have a1:=(hW.cell le).trans e1;have a2:=(hW.cell le).trans e2;have a3:=(hW.cell le).trans e3;have a4:=(hW.cell le).trans e4;have a5:=(hW.cell le).trans e5;have b0:=(hW.cell fl).trans f0;have b1:=(hW.cell fl).trans f1;have b2:=(hW.cell fl).trans f2;have b3:=(hW.cell fl).trans f3;have b4:=(hW.cell fl).trans f4;have b5:=(hW.cell fl).trans f5;have la:=ax le hW.size;have lb:=ax fl hW.size;(go_simp;first|done|with_reducible rfl)));(try simp only[Act.put,ah,au,ak]))
     refine dm rfl rfl rfl ?_;intro K hK;go_simp
     refine(HK1.out.2 _ hb6').mono ?_;rintro e w7 ⟨rfl,hb7⟩
     have hb7':Below wr.heap.size wr w7:=hb6'.trans (hb7.mono hb6'.size)
     refine hK.out _ _ hb7' ?_
     (try simp only[Act.put,ah,au,ak])
     repeat ((refine bL (v:= ?_) rfl rfl (fun _ _ _ h=>h) rfl (fun W hW=> ?_) ?_);rotate_left;(focus ((try dsimp only at hW);have a0:=(hW.cell le).trans e0;have a1:=(hW.cell le).trans e1;have a2:=(hW.cell le).trans e2;have a3:=(hW.cell le).trans e3;have a4:=(hW.cell le).trans e4;have a5:=(hW.cell le).trans e5;have b0:=(hW.cell fl).trans f0;have b1:=(hW.cell fl).trans f1;have b2:=(hW.cell fl).trans f2;have b3:=(hW.cell fl).trans f3;have b4:=(hW.cell fl).trans f4;have b5:=(hW.cell fl).trans f5;have la:=ax le hW.size;have lb:=ax fl hW.size;(go_simp;first|done|with_reducible rfl)));(try simp only[Act.put,ah,au,ak]))
     refine bR ?_
     have HB7:=af (HBW.out.trans (hb7'.mono HBW.out.size))
     clear hb5 hb5' hb6 hb6' hb7 hb7' e0 e1 e2 e3 e4 e5 le f0 f1 f2 f3 f4 f5 fl
     go_wp2_with (fail)
     go_ret
     exact⟨rfl,HB7.out⟩
    |true=>
     cases ex with
     |true=>
      obtain rfl:true=C:=hC.out
      refine aS (fun W=>Below wr.heap.size wr W) (fun i=> !([2,16,19].contains i)) [0,1,3,2,4,5,6,7,8,9,10,11,12,13,14,15,17,18,16,19,20,21,22] rfl (by kernel_rfl) ((aO _ wr).drew) ?_
      repeat ((refine bL (v:= ?_) rfl rfl (fun _ _ _ h=>h) rfl (fun W hW=> ?_) ?_);rotate_left;(focus ((try dsimp only at hW);have a0:=(hW.cell le).trans e0;have a1:=(hW.cell le).trans e1;have a2:=(hW.cell le).trans e2;have a3:=(hW.cell le).trans e3;have a4:=(hW.cell le).trans e4;have a5:=(hW.cell le).trans e5;have b0:=(hW.cell fl).trans f0;have b1:=(hW.cell fl).trans f1;have b2:=(hW.cell fl).trans f2;have b3:=(hW.cell fl).trans f3;have b4:=(hW.cell fl).trans f4;have b5:=(hW.cell fl).trans f5;have la:=ax le hW.size;have lb:=ax fl hW.size;(go_simp;first|done|with_reducible rfl)));(try simp only[Act.put,ah,au,ak]))
      refine dm rfl rfl rfl ?_;intro K hK;go_simp
      refine(HK1.out.1 _ ((aO _ wr).drew)).mono ?_;rintro e w5 ⟨rfl,hb5⟩
      have hb5':Below wr.heap.size wr w5:=(aO _ wr).drew.trans hb5
      refine hK.out _ _ hb5' ?_
      (try simp only[Act.put,ah,au,ak])
      repeat ((refine bL (v:= ?_) rfl rfl (fun _ _ _ h=>h) rfl (fun W hW=> ?_) ?_);rotate_left;(focus ((try dsimp only at hW);have a0:=(hW.cell le).trans e0;have a1:=(hW.cell le).trans e1;have a2:=(hW.cell le).trans e2;have a3:=(hW.cell le).trans e3;have a4:=(hW.cell le).trans e4;have a5:=(hW.cell le).trans e5;have b0:=(hW.cell fl).trans f0;have b1:=(hW.cell fl).trans f1;have b2:=(hW.cell fl).trans f2;have b3:=(hW.cell fl).trans f3;have b4:=(hW.cell fl).trans f4;have b5:=(hW.cell fl).trans f5;have la:=ax le hW.size;have lb:=ax fl hW.size;(go_simp;first|done|with_reducible rfl)));(try simp only[Act.put,ah,au,ak]))
      repeat ((refine uE rfl rfl (fun _ _ _ h=>h) rfl ?_);(try simp only[Act.put,ah,au,ak]);(repeat ((refine bL (v:= ?_) rfl rfl (fun _ _ _ h=>h) rfl (fun W hW=> ?_) ?_);rotate_left;(focus ((try dsimp only at hW);have a0:=(hW.cell le).trans e0;have a1:=(hW.cell le).trans e1;have a2:=(hW.cell le).trans e2;have a3:=(hW.cell le).trans e3;have a4:=(hW.cell le).trans e4;have a5:=(hW.cell le).trans e5;have b0:=(hW.cell fl).trans f0;have b1:=(hW.cell fl).trans f1;have b2:=(hW.cell fl).trans f2;have b3:=(hW.cell fl).trans f3;have b4:=(hW.cell fl).trans f4;have b5:=(hW.cell fl).trans f5;have la:=ax le hW.size;have lb:=ax fl hW.size;(go_simp;first|done|with_reducible rfl)));(try simp only[Act.put,ah,au,ak]))))
      refine dm rfl rfl rfl ?_;intro K hK;go_simp
      refine(HK1.out.1 _ hb5').mono ?_;rintro e w6 ⟨rfl,hb6⟩
      have hb6':Below wr.heap.size wr w6:=hb5'.trans (hb6.mono hb5'.size)
      refine hK.out _ _ hb6' ?_
      (try simp only[Act.put,ah,au,ak])
      repeat ((refine bL (v:= ?_) rfl rfl (fun _ _ _ h=>h) rfl (fun W hW=> ?_) ?_);rotate_left;(focus ((try dsimp only at hW);have a0:=(hW.cell le).trans e0;have a1:=(hW.cell le).trans e1;have a2:=(hW.cell le).trans e2;have a3:=(hW.cell le).trans e3;have a4:=(hW.cell le).trans e4;have a5:=(hW.cell le).trans e5;have b0:=(hW.cell fl).trans f0;have b1:=(hW.cell fl).trans f1;have b2:=(hW.cell fl).trans f2;have b3:=(hW.cell fl).trans f3;have b4:=(hW.cell fl).trans f4;have b5:=(hW.cell fl).trans f5;have la:=ax le hW.size;have lb:=ax fl hW.size;(go_simp;first|done|with_reducible rfl)));(try simp only[Act.put,ah,au,ak]))
      refine dm rfl rfl rfl ?_;intro K hK;go_simp
      refine(HK1.out.2 _ hb6').mono ?_;rintro e w7 ⟨rfl,hb7⟩
      have hb7':Below wr.heap.size wr w7:=hb6'.trans (hb7.mono hb6'.size)
      refine hK.out _ _ hb7' ?_
      (try simp only[Act.put,ah,au,ak])
      repeat ((refine bL (v:= ?_) rfl rfl (fun _ _ _ h=>h) rfl (fun W hW=> ?_) ?_);rotate_left;(focus ((try dsimp only at hW);have a0:=(hW.cell le).trans e0;have a1:=(hW.cell le).trans e1;have a2:=(hW.cell le).trans e2;have a3:=(hW.cell le).trans e3;have a4:=(hW.cell le).trans e4;have a5:=(hW.cell le).trans e5;have b0:=(hW.cell fl).trans f0;have b1:=(hW.cell fl).trans f1;have b2:=(hW.cell fl).trans f2;have b3:=(hW.cell fl).trans f3;have b4:=(hW.cell fl).trans f4;have b5:=(hW.cell fl).trans f5;have la:=ax le hW.size;have lb:=ax fl hW.size;(go_simp;first|done|with_reducible rfl)));(try simp only[Act.put,ah,au,ak]))
      refine bR ?_
      have HB7:=af (HBW.out.trans (hb7'.mono HBW.out.size))
      clear hb5 hb5' hb6 hb6' hb7 hb7' e0 e1 e2 e3 e4 e5 le f0 f1 f2 f3 f4 f5 fl
      go_wp2_with (fail)
      go_ret
      exact⟨rfl,HB7.out⟩
     |false=>
      cases ex2 with
      |true=>
       obtain rfl:true=C:=hC.out
       refine aS (fun W=>Below wr.heap.size wr W) (fun i=> !([2,16,19].contains i)) [0,1,3,2,4,5,6,7,8,9,10,11,12,13,14,15,17,18,16,19,20,21,22] rfl (by kernel_rfl) ((aO _ wr).drew) ?_
       repeat ((refine bL (v:= ?_) rfl rfl (fun _ _ _ h=>h) rfl (fun W hW=> ?_) ?_);rotate_left;(focus ((try dsimp only at hW);have a0:=(hW.cell le).trans e0;have a1:=(hW.cell le).trans e1;have a2:=(hW.cell le).trans e2;have a3:=(hW.cell le).trans e3;have a4:=(hW.cell le).trans e4;have a5:=(hW.cell le).trans e5;have b0:=(hW.cell fl).trans f0;have b1:=(hW.cell fl).trans f1;have b2:=(hW.cell fl).trans f2;have b3:=(hW.cell fl).trans f3;have b4:=(hW.cell fl).trans f4;have b5:=(hW.cell fl).trans f5;have la:=ax le hW.size;have lb:=ax fl hW.size;(go_simp;first|done|with_reducible rfl)));(try simp only[Act.put,ah,au,ak]))
       refine dm rfl rfl rfl ?_;intro K hK;go_simp
       refine(HK1.out.1 _ ((aO _ wr).drew)).mono ?_;rintro e w5 ⟨rfl,hb5⟩
       have hb5':Below wr.heap.size wr w5:=(aO _ wr).drew.trans hb5
       refine hK.out _ _ hb5' ?_
       (try simp only[Act.put,ah,au,ak])
       repeat ((refine bL (v:= ?_) rfl rfl (fun _ _ _ h=>h) rfl (fun W hW=> ?_) ?_);rotate_left;(focus ((try dsimp only at hW);have a0:=(hW.cell le).trans e0;have a1:=(hW.cell le).trans e1;have a2:=(hW.cell le).trans e2;have a3:=(hW.cell le).trans e3;have a4:=(hW.cell le).trans e4;have a5:=(hW.cell le).trans e5;have b0:=(hW.cell fl).trans f0;have b1:=(hW.cell fl).trans f1;have b2:=(hW.cell fl).trans f2;have b3:=(hW.cell fl).trans f3;have b4:=(hW.cell fl).trans f4;have b5:=(hW.cell fl).trans f5;have la:=ax le hW.size;have lb:=ax fl hW.size;(go_simp;first|done|with_reducible rfl)));(try simp only[Act.put,ah,au,ak]))
       repeat ((refine uE rfl rfl (fun _ _ _ h=>h) rfl ?_);(try simp only[Act.put,ah,au,ak]);(repeat ((refine bL (v:= ?_) rfl rfl (fun _ _ _ h=>h) rfl (fun W hW=> ?_) ?_);rotate_left;(focus ((try dsimp only at hW);have a0:=(hW.cell le).trans e0;have a1:=(hW.cell le).trans e1;have a2:=(hW.cell le).trans e2;have a3:=(hW.cell le).trans e3;have a4:=(hW.cell le).trans e4;have a5:=(hW.cell le).trans e5;have b0:=(hW.cell fl).trans f0;have b1:=(hW.cell fl).trans f1;have b2:=(hW.cell fl).trans f2;have b3:=(hW.cell fl).trans f3;have b4:=(hW.cell fl).trans f4;have b5:=(hW.cell fl).trans f5;have la:=ax le hW.size;have lb:=ax fl hW.size;(go_simp;first|done|with_reducible rfl)));(try simp only[Act.put,ah,au,ak]))))
       refine dm rfl rfl rfl ?_;intro K hK;go_simp
       refine(HK1.out.1 _ hb5').mono ?_;rintro e w6 ⟨rfl,hb6⟩
       have hb6':Below wr.heap.size wr w6:=hb5'.trans (hb6.mono hb5'.size)
       refine hK.out _ _ hb6' ?_
       (try simp only[Act.put,ah,au,ak])
       repeat ((refine bL (v:= ?_) rfl rfl (fun _ _ _ h=>h) rfl (fun W hW=> ?_) ?_);rotate_left;(focus ((try dsimp only at hW);have a0:=(hW.cell le).trans e0;have a1:=(hW.cell le).trans e1;have a2:=(hW.cell le).trans e2;have a3:=(hW.cell le).trans e3;have a4:=(hW.cell le).trans e4;have a5:=(hW.cell le).trans e5;have b0:=(hW.cell fl).trans f0;have b1:=(hW.cell fl).trans f1;have b2:=(hW.cell fl).trans f2;have b3:=(hW.cell fl).trans f3;have b4:=(hW.cell fl).trans f4;have b5:=(hW.cell fl).trans f5;have la:=ax le hW.size;have lb:=ax fl hW.size;(go_simp;first|done|with_reducible rfl)));(try simp only[Act.put,ah,au,ak]))
       refine dm rfl rfl rfl ?_;intro K hK;go_simp
       refine(HK1.out.2 _ hb6').mono ?_;rintro e w7 ⟨rfl,hb7⟩
       have hb7':Below wr.heap.size wr w7:=hb6'.trans (hb7.mono hb6'.size)
       refine hK.out _ _ hb7' ?_
       (try simp only[Act.put,ah,au,ak])
       repeat ((refine bL (v:= ?_) rfl rfl (fun _ _ _ h=>h) rfl (fun W hW=> ?_) ?_);rotate_left;(focus ((try dsimp only at hW);have a0:=(hW.cell le).trans e0;have a1:=(hW.cell le).trans e1;have a2:=(hW.cell le).trans e2;have a3:=(hW.cell le).trans e3;have a4:=(hW.cell le).trans e4;have a5:=(hW.cell le).trans e5;have b0:=(hW.cell fl).trans f0;have b1:=(hW.cell fl).trans f1;have b2:=(hW.cell fl).trans f2;have b3:=(hW.cell fl).trans f3;have b4:=(hW.cell fl).trans f4;have b5:=(hW.cell fl).trans f5;have la:=ax le hW.size;have lb:=ax fl hW.size;(go_simp;first|done|with_reducible rfl)));(try simp only[Act.put,ah,au,ak]))
       refine bR ?_
       have HB7:=af (HBW.out.trans (hb7'.mono HBW.out.size))
       clear hb5 hb5' hb6 hb6' hb7 hb7' e0 e1 e2 e3 e4 e5 le f0 f1 f2 f3 f4 f5 fl
       go_wp2_with (fail)
       go_ret
       exact⟨rfl,HB7.out⟩
      |false=>
       obtain rfl:false=C:=hC.out
       refine aS (fun W=>Below wr.heap.size wr W) (fun i=> !([2,16,19].contains i)) [0,1,3,2,4,5,6,7,8,9,10,11,12,13,14,15,17,18,16,19,20,21,22] rfl (by kernel_rfl) ((aO _ wr).drew) ?_
       repeat ((refine bL (v:= ?_) rfl rfl (fun _ _ _ h=>h) rfl (fun W hW=> ?_) ?_);rotate_left;(focus ((try dsimp only at hW);have a0:=(hW.cell le).trans e0;have a1:=(hW.cell le).trans e1;have a2:=(hW.cell le).trans e2;have a3:=(hW.cell le).trans e3;have a4:=(hW.cell le).trans e4;have a5:=(hW.cell le).trans e5;have b0:=(hW.cell fl).trans f0;have b1:=(hW.cell fl).trans f1;have b2:=(hW.cell fl).trans f2;have b3:=(hW.cell fl).trans f3;have b4:=(hW.cell fl).trans f4;have b5:=(hW.cell fl).trans f5;have la:=ax le hW.size;have lb:=ax fl hW.size;(go_simp;first|done|with_reducible rfl)));(try simp only[Act.put,ah,au,ak]))
       refine dm rfl rfl rfl ?_;intro K hK;go_simp
       refine(HK1.out.1 _ ((aO _ wr).drew)).mono ?_;rintro e w5 ⟨rfl,hb5⟩
       have hb5':Below wr.heap.size wr w5:=(aO _ wr).drew.trans hb5
       refine hK.out _ _ hb5' ?_
       (try simp only[Act.put,ah,au,ak])
       repeat ((refine bL (v:= ?_) rfl rfl (fun _ _ _ h=>h) rfl (fun W hW=> ?_) ?_);rotate_left;(focus ((try dsimp only at hW);have a0:=(hW.cell le).trans e0;have a1:=(hW.cell le).trans e1;have a2:=(hW.cell le).trans e2;have a3:=(hW.cell le).trans e3;have a4:=(hW.cell le).trans e4;have a5:=(hW.cell le).trans e5;have b0:=(hW.cell fl).trans f0;have b1:=(hW.cell fl).trans f1;have b2:=(hW.cell fl).trans f2;have b3:=(hW.cell fl).trans f3;have b4:=(hW.cell fl).trans f4;have b5:=(hW.cell fl).trans f5;have la:=ax le hW.size;have lb:=ax fl hW.size;(go_simp;first|done|with_reducible rfl)));(try simp only[Act.put,ah,au,ak]))
       repeat ((refine uE rfl rfl (fun _ _ _ h=>h) rfl ?_);(try simp only[Act.put,ah,au,ak]);(repeat ((refine bL (v:= ?_) rfl rfl (fun _ _ _ h=>h) rfl (fun W hW=> ?_) ?_);rotate_left;(focus ((try dsimp only at hW);have a0:=(hW.cell le).trans e0;have a1:=(hW.cell le).trans e1;have a2:=(hW.cell le).trans e2;have a3:=(hW.cell le).trans e3;have a4:=(hW.cell le).trans e4;have a5:=(hW.cell le).trans e5;have b0:=(hW.cell fl).trans f0;have b1:=(hW.cell fl).trans f1;have b2:=(hW.cell fl).trans f2;have b3:=(hW.cell fl).trans f3;have b4:=(hW.cell fl).trans f4;have b5:=(hW.cell fl).trans f5;have la:=ax le hW.size;have lb:=ax fl hW.size;(go_simp;first|done|with_reducible rfl)));(try simp only[Act.put,ah,au,ak]))))
       refine dm rfl rfl rfl ?_;intro K hK;go_simp
       refine(HK1.out.1 _ hb5').mono ?_;rintro e w6 ⟨rfl,hb6⟩
       have hb6':Below wr.heap.size wr w6:=hb5'.trans (hb6.mono hb5'.size)
       refine hK.out _ _ hb6' ?_
       (try simp only[Act.put,ah,au,ak])
       repeat ((refine bL (v:= ?_) rfl rfl (fun _ _ _ h=>h) rfl (fun W hW=> ?_) ?_);rotate_left;(focus ((try dsimp only at hW);have a0:=(hW.cell le).trans e0;have a1:=(hW.cell le).trans e1;have a2:=(hW.cell le).trans e2;have a3:=(hW.cell le).trans e3;have a4:=(hW.cell le).trans e4;have a5:=(hW.cell le).trans e5;have b0:=(hW.cell fl).trans f0;have b1:=(hW.cell fl).trans f1;have b2:=(hW.cell fl).trans f2;have b3:=(hW.cell fl).trans f3;have b4:=(hW.cell fl).trans f4;have b5:=(hW.cell fl).trans f5;have la:=ax le hW.size;have lb:=ax fl hW.size;(go_simp;first|done|with_reducible rfl)));(try simp only[Act.put,ah,au,ak]))
       refine dm rfl rfl rfl ?_;intro K hK;go_simp
       refine(HK1.out.2 _ hb6').mono ?_;rintro e w7 ⟨rfl,hb7⟩
       have hb7':Below wr.heap.size wr w7:=hb6'.trans (hb7.mono hb6'.size)
       refine hK.out _ _ hb7' ?_
       (try simp only[Act.put,ah,au,ak])
       repeat ((refine bL (v:= ?_) rfl rfl (fun _ _ _ h=>h) rfl (fun W hW=> ?_) ?_);rotate_left;(focus ((try dsimp only at hW);have a0:=(hW.cell le).trans e0;have a1:=(hW.cell le).trans e1;have a2:=(hW.cell le).trans e2;have a3:=(hW.cell le).trans e3;have a4:=(hW.cell le).trans e4;have a5:=(hW.cell le).trans e5;have b0:=(hW.cell fl).trans f0;have b1:=(hW.cell fl).trans f1;have b2:=(hW.cell fl).trans f2;have b3:=(hW.cell fl).trans f3;have b4:=(hW.cell fl).trans f4;have b5:=(hW.cell fl).trans f5;have la:=ax le hW.size;have lb:=ax fl hW.size;(go_simp;first|done|with_reducible rfl)));(try simp only[Act.put,ah,au,ak]))
       refine bR ?_
       have HB7:=af (HBW.out.trans (hb7'.mono HBW.out.size))
       clear hb5 hb5' hb6 hb6' hb7 hb7' e0 e1 e2 e3 e4 e5 le f0 f1 f2 f3 f4 f5 fl
       go_wp2_with (fail)
       go_ret
       exact⟨rfl,HB7.out⟩
end Go.Proofs.YtpgdljlghiifjaaGreatDoor
