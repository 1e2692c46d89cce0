--
import Derived.Test.YtogbkgmlhhahdaaGreatT3
import Derived.Deep.MidRow
import Derived.Great.BuildSlice
set_option maxRecDepth 100000
set_option maxHeartbeats 0
set_option linter.all false
namespace Go.Proofs.YtogbkgmlhhahdaaGreat
open Go.RowKit
variable{d e g k n:Nat}{S:Nat->Prop}{v:Value}{w':World}
def Row.range {w:World}{off:Nat}{a c:List Value}(h:Row w g e a)(d:(a.drop off).take n=c):w.rangeAt g off c:=fun j v b=>by
 rw[h.cell]
 rw[<-d,fD] at b
 split at b
 ·simpa using b
 ·cases b
def Row.whole {w:World}{a:List Value}(h:Row w g e a):w.rangeAt g 0 a:=fun j v b=>by
 rw[h.cell,dX];exact b
def Row.new (w:World)(a:List Value)(e:Nat):Row (w.alloc (.cells a.toArray e)) w.heap.size e a:=aV w _
section
variable {P:Program} {a:Act} {w:World} {K:Act->World->Prop} {Q:Exit->Act->World->Prop} {o:Oper}
def jw (t:TypeId)(c:o.op= .alloc t)(b:List Value)(e:∀w,(zeroValue t).run P w= .ok (.agg b.toArray) w)
  (h:K (a.put o.dst (.pointer (some ⟨w.heap.size,0,none⟩))) (w.alloc (.cells b.toArray t))):o.wp P a w K Q:=by
 unfold Oper.wp execOp;have d:(Instr.alloc t true (.tuple #[])).run P w= .ok (.pointer (some ⟨w.heap.size,0,none⟩)) (w.alloc (.cells b.toArray t)):=by
  simp[Instr.alloc,e,newVar,newRow,Value.cells]
 simp only[c,kD,d,gP];exact h
def Cs (t:TypeId)(x:Operand)(c:o.op= .box t x)(b:List Value)(e:a.eval x= .agg b.toArray)
  (h:K (a.put o.dst (.pointer (some ⟨w.heap.size,0,none⟩))) (w.alloc (.cells b.toArray t))):o.wp P a w K Q:=by
 unfold Oper.wp execOp;have d:(Instr.box t (.agg b.toArray)).run P w= .ok (.pointer (some ⟨w.heap.size,0,none⟩)) (w.alloc (.cells b.toArray t)):=by
  simp[Instr.box,newVar,newRow,Value.cells]
 simp only[c,e,kD,d,gP];exact h
def zl (t:TypeId)(b:Array (Nat×Operand))(e:o.op= .build t b)(c:List Value)(d:P.built t (b.map fun (i,x)=>(i,a.eval x)).toList=some c.toArray)
  (h:K (a.put o.dst (.agg c.toArray)) w):o.wp P a w K Q:=by
 unfold Oper.wp execOp;simp only[e,kD,run_build w t _ c.toArray d,gP];exact h
def BU {b:Nat}{a:List Value}(o:Row w g e a)(l:TypeId)(c:List Value)(m:(P.info? l).map (·.size)=some c.length)(d:b+c.length<=a.length)(p:∀v∈c,v.oneCell'=true):
  ∃f,(Instr.storeAt l (.pointer (some ⟨g,b,none⟩)) (.agg c.toArray)).run P w= .ok () f/\Row f g e (splice a b c)/\Keep (· =g) w f:=by
 obtain⟨f,j,n,q⟩:=pE (P:=P) o c d p;refine⟨f,?_,n,q⟩;cases k:P.info? l with
 |none=>simp[k] at m
 |some i=>
  have r:i.size=c.length:=by simpa [k] using m
  simp[Instr.storeAt,Instr.sureAddr,storeVar,sizeOf,typeInfo,k,Value.cells,r,j]
def wp_store_row (k:TypeId)(x y:Operand)(n:o.op= .store k x y)(g c e:Nat)(b d:List Value)(t:a.eval x= .pointer (some ⟨g,c,none⟩))(p:a.eval y= .agg d.toArray)
  (q:Row w g e b) (s:(P.info? k).map (·.size)=some d.length) (i:c+d.length<=b.length) (m:∀v∈d,v.oneCell'=true)
  (h:∀f,Row f g e (splice b c d)->Keep (· =g) w f->K (a.put o.dst undef) f):o.wp P a w K Q:=by
 obtain⟨f,j,l,r⟩:=BU (P:=P) q k d s i m;unfold Oper.wp execOp;simp only[n,t,p,kD,j,gP];exact h f l r
def sK (t e:TypeId)(y:Operand)(m:o.op= .buildSlice t 1 #[(0,y)])(k:Nat)(d:List Value)(p:a.eval y= .agg d.toArray)(n:d.length=k)(l:0<k)(j:k<=16777216)
  (q:P.underlying t=some (.slice e)) (b:(P.info? e).map (·.size)=some k) (g:((P.info? e).bind (·.zero)).isSome=true)
  (h:K (a.put o.dst (.slice (some ⟨w.heap.size,0,none⟩) 1 1)) (w.alloc (.cells d.toArray e))):o.wp P a w K Q:=by
 cases c:P.info? e with
 |none=>simp[c] at b
 |some i=>
  simp only[c,iJ,UA,Option.bind_some] at b g;obtain⟨z,f⟩:=Option.isSome_iff_exists.1 g;refine wp_buildSlice t e 1 _ m d.toArray i z q c f (by rw[b];omega) (by rw[b];omega) ?_ h;have:=Great.fill_whole (s:=k) l [Value.agg d.toArray] ((Array.range (1*i.size)).map (z.cells[· %z.cells.size]!)) (by intro v r;rw[bQ.1 r];simp[Value.cells,n]) (by simp[b]);rw[b];rw[b] at this;simpa [p,Value.cells] using this
def lH {W:World}(e:TypeId)(x:Operand)(i:o.op= .load e x)(g b:Nat)(m:a.eval x= .pointer (some ⟨g,b,none⟩))(c:List Value)(d:TypeDesc)(k:W.rangeAt g b c)
  (j:P.underlying e=some d) (f:d.isRow=true) (l:(P.info? e).map (·.size)=some c.length):(execOp a.eval o).run P W= .ok (.value (.agg c.toArray)) W:=by
 unfold execOp;simp only[i,m,Instr.loadAt,Instr.sureAddr,kD,qf,gP,run_loadVar_mid W g b e c d k j f l]
end
def Gw (p:Nat×List UInt8):∀v∈(Value.int .i64 (p.1:Int)::aI p.2),v.oneCell'=true:=by
 intro v a;rcases bO.1 a with rfl|a
 ·rfl
 ·exact iA _ v a
def mO (w:World)(e k:Nat)(v:Value)(n:Nat)(xs:List Value):Prop:=
 xs.length=n*k/\((v= .slice none 0 0/\n=0)\/∃g off cap cur,v= .slice (some ⟨g,off,none⟩) n cap/\Row w g e cur/\n<=cap/\cap<=maxLen/\off+cap*k<=cur.length/\(cur.drop off).take (n*k)=xs)
def mO.nil (w:World)(e k:Nat):mO w e k (.slice none 0 0) 0 []:=⟨by simp,.inl ⟨rfl,rfl⟩⟩
def mO.lt {w:World}{i:List Value}(h:mO w e k v n i)(a:v.ownBlock=some g):g<w.heap.size:=by
 rcases h.2 with ⟨rfl,_⟩|⟨j,c,f,b,rfl,d,_⟩
 ·cases a
 ·cases a;exact d.lt
def mO.dx {w:World}{d:List Value}(h:mO w e k v n d)(o:∀g,v.ownBlock=some g->¬S g):aZ w S k v n d:=by
 obtain⟨m,c⟩:=h;rcases c with ⟨rfl,rfl⟩|⟨g,b,a,l,rfl,c,f,i,q,j⟩
 ·have:d=[]:=aY (by simpa using m)
  subst this;exact aZ.nil _ _ _
 ·have p:n*k<=a*k:=bZ _ f
  have:=c.dx (S:=S) (k:=k) (off:=b) n a (by omega) (o g rfl) f i;rwa [j] at this
def mO.keep {w:World}{i:List Value}(h:mO w e k v n i)(l:∀g,v.ownBlock=some g->w'.heap[g]? =w.heap[g]?):mO w' e k v n i:=by
 obtain⟨f,c⟩:=h;rcases c with ⟨rfl,rfl⟩|⟨g,b,d,a,rfl,c,j⟩
 ·exact⟨f,.inl ⟨rfl,rfl⟩⟩
 ·exact⟨f,.inr ⟨g,b,d,a,rfl,(l g rfl).trans c,j⟩⟩
def mO.after {w:World}{c:Nat}{j:Option Addr}{l:List Value}(h:mO w e k (.slice j n c) n l)(i:Nat)(B:i<=n):
  mO w e k (.slice (if c=i then j else j.map fun x=>x.add (i*k)) (n - i) (c - i)) (n - i) (l.drop (i*k)):=by
 obtain⟨v,f⟩:=h;have a:(l.drop (i*k)).length=(n - i)*k:=by rw[aO,v,Nat.sub_mul]
 refine⟨a,?_⟩;rcases f with ⟨m,rfl⟩|⟨g,d,s,b,m,f,z,y,A,r⟩
 ·cases m
  obtain rfl:i=0:=by omega
  exact .inl ⟨by simp,by omega⟩
 ·cases m
  have p:(n - i)*k<=(c - i)*k:=bZ _ (by omega);have t:(c - i)*k+i*k=c*k:=by rw[<-fq];congr 1;omega
  by_cases q:c=i
  ·refine .inr ⟨g,d,c - i,b,by rw[if_pos q],f,by omega,by omega,by omega,?_⟩
   have o:n - i=0:=(by omega);rw[o,rq,iM];exact(aY (by rw[a,o,rq])).symm
  ·refine .inr ⟨g,d+i*k,c - i,b,by rw[if_neg q];simp[dU],f,by omega,by omega,by omega,?_⟩
   rw[<-r,gQ,kK,<-Nat.sub_mul]
section
variable {P:Program}
theorem Te (w:World)(t S Z e:TypeId)(i:TypeInfo)(z:Value)(k C:Nat)(N:P.underlying t=some (.slice e))(R:P.info? e=some i)(hz:i.zero=some z)
  (D:i.size=k) (X:i.bytes=C) (pM:z.cells.size=k)
  (v:Value) (n:Nat) (r:List Value) (p:mO w e k v n r) (x:Value) (m:Nat) (a:List Value) (s:Src P k S x m a w)
  (I:n+m<=maxLen) (q:(n+m)*C<=140737488355328):
  ∃O c G,(Builtin.append_ #[t,S] Z #[v,x]).run P w= .ok (.slice O (n+m) c) G/\mO G e k (.slice O (n+m) c) (n+m) (r++a)/\Keep (fun g=>v.ownBlock=some g) w G/\
   ((Value.slice O (n+m) c).ownBlock=v.ownBlock\/∃g,(Value.slice O (n+m) c).ownBlock=some g/\w.heap.size<=g):=by
 subst D;subst X;have M:n+m<=9223372036854775807:=by simp only[maxLen] at I;omega
 have l:(r++a).length=(n+m)*i.size:=by rw[ay,p.1,s.newsLen,fq]
 have y:∀(b:Nat),b<n+m->
   mO (w.drew.alloc (.cells ((r++a).toArray++Builtin.zeroCells z.cells (grownCap w (n+m) b e - (n+m))) e)) e i.size
    (.slice (some ⟨w.heap.size,0,none⟩) (n+m) (grownCap w (n+m) b e)) (n+m) (r++a)/\
   Keep (fun g=>v.ownBlock=some g) w (w.drew.alloc (.cells ((r++a).toArray++Builtin.zeroCells z.cells (grownCap w (n+m) b e - (n+m))) e)):=by
  intro b ho;have T:=Aj w (n+m) b e;have E:grownCap w (n+m) b e<=maxLen:=nR w (n+m) b e I;have K:Row (w.drew.alloc (.cells ((r++a).toArray++Builtin.zeroCells z.cells (grownCap w (n+m) b e - (n+m))) e)) w.heap.size e ((r++a)++(Builtin.zeroCells z.cells (grownCap w (n+m) b e - (n+m))).toList):=by
   have:=aV w.drew (.cells ((r++a).toArray++Builtin.zeroCells z.cells (grownCap w (n+m) b e - (n+m))) e);unfold Row;rw[show (w.heap.size)=w.drew.heap.size from rfl,this];congr 2;apply FR.1;simp
  refine⟨⟨l,.inr ⟨w.heap.size,0,_,_,rfl,K,T,E,?_,?_⟩⟩,(Keep.refl _ w).drew.alloc _⟩
  ·rw[ay,l,kN,xu,pM,dX,<-fq]
   exact lD (congrArg (· *i.size) (by omega))
  ·rw[dQ,<-l]
   exact iN
 rcases p.2 with ⟨rfl,rfl⟩|⟨g,d,f,W,rfl,hg,qb,E,qc,A⟩
 ·have hx:r=[]:=aY (by simpa using p.1)
  subst hx
  by_cases hm:m=0
  ·subst hm
   have hn:a=[]:=aY (by simpa using s.newsLen);subst hn;refine⟨none,0,w,?_,mO.nil w e i.size,Keep.refl _ _,.inl rfl⟩;rcases s.kind with ⟨e',F⟩|F<;>simp[Builtin.append_,fQ N,fQ F,sizeOf,typeInfo,R,s.len,s.cells]
  ·have Y:=tL (P:=P) w t S Z e i z N R hz none 0 0 [] (run_firstCells_none w.drew i.size 0 0 0) x m a s (by omega) (by omega) (si (by omega) q)
   have B:=y 0 (by omega);exact⟨_,_,_,Y,B.1,B.2,.inr ⟨_,rfl,aD _⟩⟩
 ·by_cases o:n+m<=f
  ·have p9:(n+m)*i.size<=f*i.size:=bZ _ o
   have ql:n*i.size+a.length=(n+m)*i.size:=(by rw[s.newsLen,fq]);have J:(d+n*i.size)+a.length<=W.length:=(by omega);obtain⟨G,V,h2,h3⟩:=pE (P:=P) (off:=d+n*i.size) hg a J s.one;refine⟨some ⟨g,d,none⟩,f,G,?_,⟨l,.inr ⟨g,d,f,_,rfl,h2,o,E,?_,?_⟩⟩,h3.mono (fun k' _ F=>by rw[F];rfl),.inl rfl⟩
   ·rcases s.kind with ⟨e',F⟩|F<;>simp[Builtin.append_,fQ N,fQ F,sizeOf,typeInfo,R,s.len,o,s.cells,dU,V]
   ·unfold splice
    simp only[ay,aH,aO];omega
   ·unfold splice
    rw[eU (by rw[aH];omega),gQ,show d+n*i.size - d=n*i.size from by omega,A,<-l,<-aM];exact iN
  ·have H:(Builtin.firstCells i.size n (.slice (some ⟨g,d,none⟩) n f)).run P w.drew= .ok r.toArray w.drew:=
    BK w.drew i.size n ⟨g,d,none⟩ n f r p.1 (fun j u Q=>by
     rw[dU]
     show w.cell? ⟨g,d+j,none⟩=some u
     rw[hg.cell]
     rw[<-A,fD] at Q
     split at Q
     ·simpa using Q
     ·cases Q)
   have Y:=tL (P:=P) w t S Z e i z N R hz (some ⟨g,d,none⟩) n f r H x m a s (by omega) (by omega) (si (by omega) q);have B:=y f (by omega);exact⟨_,_,_,Y,B.1,B.2,.inr ⟨_,rfl,aD _⟩⟩
def PV {o:Oper}{a:Act}{w:World}{K:Act->World->Prop}{Q:Exit->Act->World->Prop}(s y:Operand)(t E:TypeId)(J:o.op= .call {callee:= .builtin .append,args:=#[s,y],argTypes:=#[t,E]})
  (e:TypeId) (k b:Nat) (z:Value) (G:P.underlying t=some (.slice e)) (l:(P.info? e).map (fun i=>(i.zero,i.size,i.bytes))=some (some z,k,b)) (D:z.cells.size=k)
  (v:Value) (n:Nat) (C:List Value) (T:a.eval s=v) (q:mO w e k v n C) (x:Value) (m:Nat) (d:List Value) (S:a.eval y=x) (O:Src P k E x m d w)
  (A:n+m<=maxLen) (f:(n+m)*b<=140737488355328)
  (h:∀p c r,mO r e k (.slice p (n+m) c) (n+m) (C++d)->Keep (fun g=>v.ownBlock=some g) w r->
   ((Value.slice p (n+m) c).ownBlock=v.ownBlock\/∃g,(Value.slice p (n+m) c).ownBlock=some g/\w.heap.size<=g)->K (a.put o.dst (.slice p (n+m) c)) r):o.wp P a w K Q:=by
 obtain⟨i,R,I,j,B⟩:=ve l;obtain⟨p,c,r,M,F,N,H⟩:=Te (P:=P) w t E o.type e i z k b G R I j B D v n C q x m d O A f;unfold Oper.wp execOp;simp only[J,resolve,invoke,builtin,kD,qf,gP,mR,dK,iH,T,S,M];exact h p c r F N H
def KA {A:Array Oper}{j:List Oper}{o:Oper}{a:Act}{w:World}{Q:Exit->Act->World->Prop}(B:o.guard=none)(s y:Operand)(t F:TypeId)(K:o.op= .call {callee:= .builtin .append,args:=#[s,y],argTypes:=#[t,F]})
  (e:TypeId) (k b:Nat) (z:Value) (H:P.underlying t=some (.slice e)) (l:(P.info? e).map (fun i=>(i.zero,i.size,i.bytes))=some (some z,k,b)) (E:z.cells.size=k)
  (v:Value) (n:Nat) (D:List Value) (R:a.eval s=v) (q:mO w e k v n D) (x:Value) (m:Nat) (d:List Value) (O:a.eval y=x) (N:Src P k F x m d w)
  (C:n+m<=maxLen) (f:(n+m)*b<=140737488355328)
  (h:∀p c r,mO r e k (.slice p (n+m) c) (n+m) (D++d)->Keep (fun g=>v.ownBlock=some g) w r->
   ((Value.slice p (n+m) c).ownBlock=v.ownBlock\/∃g,(Value.slice p (n+m) c).ownBlock=some g/\w.heap.size<=g)->wpList P A Q j (a.put o.dst (.slice p (n+m) c)) r):wpList P A Q (o::j) a w:=
 MB B fun _ J=>PV s y t F K e k b z H l E v n D R q x m d O N C f fun p c r G M I=>J _ _ (h p c r G M I)
end
def zB:List UInt8:=List.replicate 512 0
def ja:zB.length=512:=by unfold zB;exact List.length_replicate
def yJ (w:World):(zeroValue 113).run Tryz.prog w= .ok (.agg (gD (0,zB)).toArray) w:=by kernel_rfl
def J2 (i:Int):Tryz.prog.built 113 [(0,.int .i64 i)]=some (Value.int .i64 i::aI zB).toArray:=by kernel_rfl
def oJ:(Tryz.prog.info? 113).map (fun i=>i.size)=some 513:=by kernel_rfl
def Jv:(Tryz.prog.info? 113).map (fun i=>(i.zero,i.size,i.bytes))=some (some (.agg (gD (0,zB)).toArray),513,520):=by kernel_rfl
def BQ:((Tryz.prog.info? 113).bind (·.zero)).isSome=true:=by kernel_rfl
def Gd (v:Value)(n:Nat)(l:List UInt8):splice (v::aI (List.replicate n 0)) 1 (aI l)=v::aI (l++List.replicate (n - l.length) 0):=by
 unfold splice;rw[jq,iM,bP,vE 1,gy];simp[aI]
def mg (a b:List Value)(h:a.length=b.length):splice a 0 b=b:=by
 unfold splice;rw[iM,dX,<-h,kY];simp
def Gf (i:Int)(l:List UInt8):splice (Value.int .i64 i::aI zB) 1 (aI l)=Value.int .i64 i::aI (pad l):=Gd _ 512 l
def Dk.dZ (a:Dk):a.fK.n=a.n/\a.fK.sec=a.sec/\a.fK.waits=a.waits:=by unfold Dk.fK;split<;>(try split)<;>exact⟨rfl,rfl,rfl⟩
theorem OV (d:Nat)(b:Dk)(S:Nat->Prop)(I:Nat)(s:Value)(i:Nat)(v:Value)(l:List UInt8)(w:World)(h:o8 w S d b I s)(hd:b.dead=false)(hi:i<b.n)(hl:l.length<=512)(dZ:b.fK.dead=false)
  (hv:aZ w S 1 v l.length (aI l)) (jb:b.waits.length<=1000000):
  Calls Tryz.prog 78 #[.pointer (some ⟨d,0,none⟩),.int .i64 i,v] w fun e w'=>e= .returned (.int .i64 0)/\∃S' fK,o8 w' S' d (b.fK.put i l) I fK/\Step S S' w w':=by
 have di:b.bad i=0:=by unfold Dk.bad;rw[hd];simp;omega
 have qb:=nO d b S I s i w h;rw[di] at qb;have dx:=ah qb;clear qb;obtain⟨vo,vc,rfl,jv,af,j3,jF⟩:=aZ.form hv;have j5:¬((512:Int)<(l.length:Int)):=by omega
 have A:=Ae d b S I s w h hd;rw[dZ] at A;have HB:=ah A;clear A;have jl:∀(x:Bool) (w:World),(Op.unary .not (.bool x)).run Tryz.prog w= .ok (.bool (!x)) w:=fun _ _=>rfl
 go_enter Tryz.func78,Tryz.ntmps78;go_wp2_with (first|(go_at_call 53;go_must (refine dx.out.mono ?_;rintro e G ⟨rfl,hw⟩;subst G))|(go_at_call 54;go_must (refine HB.out.mono ?_;rintro e G ⟨rfl,a,Y⟩;refine sO ?_)))
 refine sN ?_;obtain⟨c0,c1,c2,c3,V,fo⟩:=a.cells;have iO:=fo 1 (by omega);obtain⟨x,HX⟩:=nm G.heap.size;have bB:Row (G.alloc (.cells (gD (0,zB)).toArray 113)) G.heap.size 113 (gD (0,zB)):=Row.new G _ _;have dn:=ah (show (gD (0,zB)).length=513 from jJ ja);have X:=ah (show (Value.int .i64 (i:Int)::aI zB).length=513 by rw[bn,bP,ja]);go_wp2_with (first|((refine dV rfl ?_);intro K H;(refine zl 113 _ rfl (Value.int .i64 i::aI zB) (J2 i) ?_);refine H _ _ ?_)|((refine dV rfl ?_);intro K H;(refine jw 113 rfl _ yJ ?_);refine H _ _ ?_)|((refine dV rfl ?_);intro K H;(refine wp_store_row 113 _ _ rfl G.heap.size 0 113 _ (Value.int .i64 i::aI zB) rfl rfl bB (oJ.trans (congrArg some X.out.symm)) (by rw[dn.out,X.out];omega) (Gw (i,zB)) ?_);intro w2 T bC;refine H _ _ (Stop.of ?_)))
 refine sN ?_;rw[show splice (gD (0,zB)) 0 (Value.int .i64 (i:Int)::aI zB)=Value.int .i64 (i:Int)::aI zB from mg _ _ (dn.out.trans X.out.symm)] at T;rw[HX.out] at T bC;clear bB;have aB:Keep (· =x) G w2:=((Keep.refl (· =x) G).alloc (.cells (gD (0,zB)).toArray 113)).trans bC (fun _ _ e=>e);have aA:¬S x:=fun e=>absurd (a.sub x e) (by rw[HX.out];exact dB _)
 have af:aZ w2 gB 1 (.slice vo l.length vc) l.length (aI l):=by
  have e1:=(hv.step (S':=S) ⟨Y.mono (fun _ _ e=>e▸h.sd),fun g m=> .inl m⟩);exact e1.keep fun g _ m hs=>⟨aB.block g m (fun e=>by rw[e,HX.out] at m;exact dB _ m),id⟩
 have f:=ah (bP l);have q:=af.first (P:=Tryz.prog) l.length (aD _);rw[aW,aJ (lD f.out)] at q;have q:=ah q;rw[HX.out];go_wp2_with (first|((refine dV rfl ?_);intro K H;(refine gZ (.tmp 24) (.tmp 25) 70 70 rfl 5 1 1 (.int .u8 0) bG kJ x 1 113 l.length 512 512 (some ⟨x,1,none⟩) _ rfl T (.slice vo l.length vc) rfl l.length (aI l) rfl ?_ ?_ q.out (fun _=>rfl) ?_ (iA _) ?_);go_must ((focus exact(bK hl).symm);(focus rw[f.out,aW]);(focus rw[f.out,X.out];omega);intro t ql fB;refine H _ _ (Stop.of ?_))))
 refine sN ?_;rw[Gf] at ql;have r:Row t x 113 (gD (i,pad l)):=ql;clear ql q f af T;have k:Keep (· =x) G t:=aB.trans fB (fun _ _ e=>e);have q9:¬d=x:=fun e=>aA (e▸a.sd)
 have f:=jJ (p:=(i,pad l)) (pX hl);have Z:∀v∈gD (i,pad l),v.oneCell'=true:=Gw (i,pad l)
 generalize hC:gD (i,pad l)=C at r f Z;have HC:=ah hC;clear hC;have HL:=ah f;clear f;have N:x<t.heap.size:=r.lt;have o:d<t.heap.size:=ax V k.size;have q8:t.cell? ⟨d,1,none⟩=some s:=(k.cell V q9).trans c1;go_wp2_with fail;refine aP (fun W=>W.cell? ⟨d,1,none⟩=some s/\d<W.heap.size/\W.rangeAt x 0 C/\x<W.heap.size) (fun i=> !([6,7,10].contains i)) [0,1,2,3,4,5,6,7,8,9,10] rfl (by kernel_rfl) ⟨q8,o,r.whole,N⟩ ?_
 repeat (refine oq ?_ rfl rfl rfl ?_ ?_;rotate_left;focus (intro W R;(try dsimp only at R);have q0:=R.1;have q1:=R.2.1;have q2:=R.2.2.1;have q3:=R.2.2.2;first|(clear q2;go_simp;first|done|with_reducible rfl));try simp only[Act.put,aj,au,ak])
 refine wh (v:= .agg C.toArray) rfl rfl (fun _ _ _ h=>h) rfl (fun W R=> ?_) ?_
 ·refine lH 113 (.tmp 8) rfl x 0 rfl C _ R.2.2.1 Tryz.underlying113 rfl (oJ.trans (congrArg some HL.out.symm))
 simp only[Act.put,aj,au,ak];have j4:Row (t.drew.alloc (.cells C.toArray 113)) t.heap.size 113 C:=Row.new t.drew C _;have B:Keep gB t (t.drew.alloc (.cells C.toArray 113)):=((Keep.refl gB t).drew).alloc _;refine dI rfl rfl rfl ?_;intro K H;refine sK 80 113 (.tmp 32) rfl 513 C rfl HL.out (by omega) (by omega) Tryz.underlying80 oJ BQ ?_;refine H.out _ _ ⟨(B.cell o id).trans q8,ax o B.size,fun j v hv=>(B.cell (p:=⟨x,0+j,none⟩) N id).trans (r.whole j v hv),ax N B.size⟩ ?_;have z:∀y,s.ownBlock=some y->y<G.heap.size/\y≠x/\y≠d:=fun y J=>⟨(a.own.1.lt _ J).2,fun e=>aA (e▸(a.sw y J).1),(a.sw y J).2.1⟩
 have p9:aT (t.drew.alloc (.cells C.toArray 113)) gB 0 113 513 s b.waits.length (kG b.waits):=by
  have:=a.own;rw[b.dZ.2.2] at this;exact this.keep fun y J hl _=>⟨(B.block y (ax hl k.size) id).trans (k.block y hl (z y J).2.1),id⟩
 have av:Src Tryz.prog 513 80 (.slice (some ⟨t.heap.size,0,none⟩) 1 1) 1 C (t.drew.alloc (.cells C.toArray 113)):=gq C _ _ 1 1 rfl Tryz.underlying80 (by rw[HL.out]) Z;refine dI rfl rfl rfl ?_;intro K H;refine ol (.tmp 31) (.tmp 33) 80 80 rfl gB 0 113 513 520 _ Tryz.underlying80 Jv (by simp only[Value.cells,nZ];exact jJ (p:=(0,zB)) ja) s b.waits.length _ rfl p9 _ 1 C rfl av (fun _ h=>h.elim) (aS _) (by simp only[maxLen];omega) (by omega) ?_;intro ao c M O fA _ bH;have n:Keep (fun g=>s.ownBlock=some g) t M:=(B.mono (fun _ _ h=>h.elim)).trans fA (fun _ _ h=>h);have fJ:M.cell? ⟨d,1,none⟩=some s:=(n.cell o (fun e=>(z _ e).2.2 rfl)).trans q8;have dR:d<M.heap.size:=ax o n.size;refine H.out _ _ ⟨fJ,dR,fun j v hv=>(n.cell (p:=⟨x,0+j,none⟩) N (fun e=>(z _ e).2.1 rfl)).trans (r.whole j v hv),ax N n.size⟩ ?_;have jO:M.frozen? ⟨d,1,none⟩=false:=(n.frozen (p:=⟨d,1,none⟩) o (fun e=>(z _ e).2.2 rfl)).trans ((k.frozen (p:=⟨d,1,none⟩) V q9).trans iO);simp only[Act.put,aj,au,ak]
 repeat (refine oq ?_ rfl rfl rfl ?_ ?_;rotate_left;focus (intro W R;(try dsimp only at R);have q0:=R.1;have q1:=R.2.1;go_simp;first|done|with_reducible rfl);try simp only[Act.put,aj,au,ak])
 refine jC rfl rfl rfl (by kernel_rfl) ?_;intro K H;go_simp;refine H.out _ _ ?_;refine bR ?_;go_wp2_with fail;go_ret;have Q:Keep (· =d) M (M.setCell ⟨d,1,none⟩ (.slice ao (b.waits.length+1) c)):=(Keep.refl (· =d) M).setCell (p:=⟨d,1,none⟩) (.inr rfl) _;have pM:Keep (fun g=>g=x\/s.ownBlock=some g) G M:=(k.mono (fun _ _ h=> .inl h)).trans n (fun _ _ h=> .inr h);have F:Keep (fun g=>g=x\/s.ownBlock=some g\/g=d) G (M.setCell ⟨d,1,none⟩ (.slice ao (b.waits.length+1) c)):=(pM.mono (fun _ _ h=>h.elim .inl (fun h=> .inr (.inl h)))).trans Q (fun _ _ h=> .inr (.inr h));have qo:I<G.heap.size:=a.sub _ a.sg;have bA:¬(I=x\/s.ownBlock=some I\/I=d):=fun e=>by
  rcases e with e|e|e
  ·exact aA (e▸a.sg)
  ·exact(a.sw _ e).2.2 rfl
  ·exact a.ne e
 have bN:M.heap[d]? =some (.cells #[.slice (some ⟨I,0,none⟩) b.fK.n b.fK.n,s,.int .i64 b.fK.fuel,.bool b.fK.dead] 82 (0,0)):=(pM.block d V (fun e=>e.elim q9 (fun e=>(z _ e).2.2 rfl))).trans a.obj;have E:∀y,y<t.heap.size->s.ownBlock≠some y->(Value.slice ao (b.waits.length+1) c).ownBlock≠some y:=fun y J=>bH y (ax J B.size)
 have qc:Step S (fun g=>S g\/(Value.slice ao (b.waits.length+1) c).ownBlock=some g) w (M.setCell ⟨d,1,none⟩ (.slice ao (b.waits.length+1) c)):=by
  refine⟨(Y.mono (fun _ _ e=>e▸h.sd)).trans F (fun g m e=> ?_),fun g m=> ?_⟩
  ·rcases e with e|e|e
   ·rw[e,<-HX.out] at m;exact absurd Y.size (gG.2 m)
   ·exact(h.sw g e).1
   ·exact e▸h.sd
  ·rcases m with m|m
   ·exact .inl m
   ·by_cases J:g<w.heap.size
    ·by_cases hw:s.ownBlock=some g
     ·exact .inl (h.sw g hw).1
     ·exact absurd m (E g (ax J (aK Y.size k.size)) hw)
    ·exact .inr (bg.1 J)
 refine⟨rfl,_,_,⟨a.ok.put i l (by rw[b.dZ.1];exact hi) hl,fun g m=> ?_,.inl a.sd,.inl a.sg,a.ne,?_,?_,fun j hj=> ?_,?_,fun g m=>⟨.inr m,?_,?_⟩⟩,qc⟩
 ·rcases m with m|m
  ·exact ax (a.sub g m) F.size
  ·exact ax (O.1.lt _ m).2 Q.size
 ·rw[iy M d 1 _ _ _ bN]
  rfl
 ·obtain⟨D,h1,h2⟩:=a.blk
  exact⟨D,(F.block I qo bA).trans h1,h2⟩
 ·intro y u hu
  exact(F.cell (p:=⟨I,j*512+y,none⟩) qo bA).trans (a.sec j hj y u hu)
 ·have e1:(b.fK.put i l).waits.length=b.waits.length+1:=by simp[Dk.put,b.dZ.2.2]
  have e2:kG (b.fK.put i l).waits=kG b.waits++C:=by
   rw[show (b.fK.put i l).waits=b.waits++[(i,pad l)] by simp[Dk.put,b.dZ.2.2],BR,<-HC.out];simp[kG]
  rw[e1,e2];exact O.keep fun y J hl _=>⟨Q.block y hl (fun e=>E d o (fun e'=>(z _ e').2.2 rfl) (e▸J)),id⟩
 ·exact fun e=>E d o (fun e'=>(z _ e').2.2 rfl) (e▸m)
 ·exact fun e=>E I (ax qo k.size) (fun e'=>(a.sw _ e').2.2 rfl) (e▸m)
def o8.wait {w:World}{e:Dk}{s:Nat}{n:Value}(h:o8 w S d e s n)(k:Nat)(q:k<e.waits.length):
  ∃g a,n= .slice (some ⟨g,0,none⟩) e.waits.length a/\w.rangeAt g (k*513) (gD e.waits[k])/\g<w.heap.size/\e.waits.length<=a/\a<=9223372036854775807:=by
 obtain⟨z,wc,rfl,r,f,B,A⟩:=aZ.form h.own.dx;obtain⟨⟨t,i⟩,_⟩:=h.own;rcases i with ⟨o,x⟩|⟨g,a,l,o,_⟩
 ·omega
 ·cases o
  obtain⟨l,b,_,j,_⟩:=aT.row h.own;refine⟨g,wc,rfl,fun y u v=> ?_,b.lt,r,f⟩;have c:=uy (fun p m=>(h.ok.wt p m).2) k q y u v;rw[b.cell,<-c,<-j,fD]
  split
  ·rfl
  ·exfalso
   have f:=(dm.1 c).1;rw[vg (fun p m=>(h.ok.wt p m).2)] at f;omega
def N7 (b c:List Value)(a y:Nat)(e:y<c.length)(f:a+c.length<=b.length):(splice b a c)[a+y]? =c[y]? :=by
 unfold splice;have d:(b.take a).length=a:=by rw[aH];omega
 rw[dA (by omega),d,dJ,eF e]
def KR (b d:List Value)(a y:Nat)(c:y<a\/a+d.length<=y)(f:a+d.length<=b.length):(splice b a d)[y]? =b[y]? :=by
 unfold splice;have e:(b.take a).length=a:=by rw[aH];omega
 rcases c with c|c
 ·rw[eF (by omega),fD,if_pos c]
 ·rw[dA (by omega),e,dA (by omega),List.getElem?_drop]
  congr 1;omega
def Dk.lay (σ:Dk)(i:Nat)(l:List UInt8):Dk:={σ with sec:=fun j=>if i=j then l else σ.sec j}
def Dk.Ok.lay {a:Dk}(h:a.Ok)(i:Nat)(l:List UInt8)(b:l.length=512):(a.lay i l).Ok:=
 ⟨h.lo,h.hi,fun j=>by show (if i=j then l else a.sec j).length=512;split;exact b;exact h.sec j,h.wt,h.fl⟩
def Dk.upto (σ:Dk)(k:Nat):Dk:={σ with sec:=fun i=>behind (σ.waits.take k) i (σ.sec i)}
def Dk.NR (a:Dk)(k:Nat)(b:k<a.waits.length):a.upto (k+1)=(a.upto k).lay a.waits[k].1 a.waits[k].2:=by
 unfold Dk.upto Dk.lay;congr 1;funext i;rw[aL b,ow];rfl
def Dk.Qi (a:Dk):({a.upto a.waits.length with waits:=[]}:Dk)=a.flush:=by
 unfold Dk.upto Dk.flush Dk.get;rw[bS]
theorem o8.lay {w q:World}{c:Dk}{z:Value}(h:o8 w S d c n z)(i:Nat)(l:List UInt8)(G:i<c.n)(t:l.length=512)(b:List Value)
  (p:Row w n 111 b) (v:Row q n 111 (splice b (i*512) (aI l))) (r:Keep (· =n) w q):o8 q S d (c.lay i l) n z:=by
 have k:(aI l).length=512:=by rw[bP,t]
 have s:b.length=c.n*512:=by
  obtain⟨C,B,A⟩:=h.blk;unfold Row at p;rw[B] at p;cases p
  simpa using A
 have f:i*512+(aI l).length<=b.length:=by rw[k,s];omega
 refine⟨h.ok.lay i l t,fun g o=>ax (h.sub g o) r.size,h.sd,h.sg,h.ne,(r.block d (h.sub _ h.sd) (fun e=>h.ne e.symm)).trans h.obj,⟨_,v,?_⟩,fun j E y u x=> ?_,?_,h.sw⟩
 ·rw[nZ]
  show (splice b (i*512) (aI l)).length=c.n*512;unfold splice;simp only[ay,aH,aO];omega
 ·rw[v.cell]
  by_cases m:i=j
  ·subst m
   have a:(aI l)[y]? =some u:=by
    have:(c.lay i l).sec i=l:=if_pos rfl;rwa [this] at x
   rw[N7 _ _ _ _ ((dm.1 a).1) f];exact a
  ·have a:(aI (c.sec j))[y]? =some u:=by
    have:(c.lay i l).sec j=c.sec j:=if_neg m;rwa [this] at x
   have F:y<512:=(by have:=(dm.1 a).1;rwa [bP,h.ok.sec] at this);rw[KR _ _ _ _ (by rw[k];omega) f,<-p.cell];exact h.sec j E y u a
 ·exact h.own.keep fun g o _ D=>⟨r.block g (h.own.1.lt _ o).2 (h.sw g o).2.2,D⟩
def o8.below {w:World}{f:Dk}{c:Nat}{j:Value}(h:o8 w S d f c j){M:Nat->Prop}(a:Keep M w w')(b:∀g,S g->¬M g):o8 w' S d f c j:=by
 refine⟨h.ok,fun g e=>ax (h.sub g e) a.size,h.sd,h.sg,h.ne,(a.block d (h.sub _ h.sd) (b _ h.sd)).trans h.obj,?_,fun i q y u n=> ?_,?_,h.sw⟩
 ·obtain⟨C,l,k⟩:=h.blk
  exact⟨C,(a.block c (h.sub _ h.sg) (b _ h.sg)).trans l,k⟩
 ·exact(a.cell (p:=⟨c,i*512+y,none⟩) (h.sub _ h.sg) (b _ h.sg)).trans (h.sec i q y u n)
 ·exact h.own.keep fun g e m o=>⟨a.block g m (b _ (h.sw g e).1),o⟩
def o8.row {w:World}{c:Dk}{b:Nat}{e:Value}(h:o8 w S d c b e):∃a,Row w b 111 a/\a.length=c.n*512:=by
 obtain⟨C,g,f⟩:=h.blk;exact⟨C.toList,g,by simpa using f⟩
def uQ:(Tryz.prog.info? 111).map (fun i=>i.size)=some 512:=by kernel_rfl
theorem OX (d:Nat)(r:Dk)(S:Nat->Prop)(l:Nat)(wv:Value)(w:World)(h:o8 w S d r l wv)(hd:r.dead=false)(p9:r.fK.dead=false)(D:r.waits.length<=1000000):
  Calls Tryz.prog 16 #[.pointer (some ⟨d,0,none⟩)] w fun e w'=>e= .returned (.int .i64 0)/\o8 w' S d r.fK.flush l (.slice none 0 0)/\Step S S w w':=by
 have F:r.bad 0=0:=by have:=h.ok.lo;unfold Dk.bad;rw[hd];simp;omega
 have M:=nO d r S l wv 0 w h;rw[F] at M;have Z:=ah M;clear M;have c:=Ae d r S l wv w h hd;rw[p9] at c;have HB:=ah c;clear c;have bC:r.fK.waits.length<=1000000:=by rw[r.dZ.2.2];exact D
 have fA:∀(x:Bool) (w:World),(Op.unary .not (.bool x)).run Tryz.prog w= .ok (.bool (!x)) w:=fun _ _=>rfl
 go_enter Tryz.func16,Tryz.ntmps16;go_wp2_with (first|(go_at_call 53;go_must (refine Z.out.mono ?_;rintro e w1 ⟨rfl,hw⟩;subst w1))|(go_at_call 54;go_must (refine HB.out.mono ?_;rintro e w1 ⟨rfl,A,dn⟩;refine sO ?_)))
 refine sN ?_;have HS:=ah h.sd;clear h Z HB F p9 hd D;generalize ql:r.fK=j at A bC;have HT:=ah ql;clear ql;obtain⟨wo,wc,rfl,g1,g2,g3,g4⟩:=aZ.form A.own.dx;obtain⟨c0,c1,_,_,t,jF⟩:=A.cells;go_wp2_with fail;go_loopw [19] (fun i wr=>∃k:Nat,k<=j.waits.length/\i= .int .i64 k/\o8 wr S d (j.upto k) l (.slice wo j.waits.length wc)/\Keep (· =l) w1 wr) (fun i _=>j.waits.length - (intOf i).toNat)
 case atStart=>exact⟨0,aS _,rfl,A,Keep.refl _ _⟩
 case round=>
  obtain⟨k,hk,rfl,a,o⟩:=hrel
  by_cases t:k<j.waits.length
  ·obtain⟨g,j3,bN,B,fK,fB,jO⟩:=a.wait k t
   cases bN
   obtain⟨x,HX⟩:=nm wr.heap.size;have af:=a.ok.wt _ (bF t);obtain⟨p,HP⟩:=nm (j.waits[k]);have B:wr.rangeAt g (k*513) (gD p):=(by rw[<-HP.out];exact B);have di:p.1<j.n:=(by rw[<-HP.out];exact af.1);have P:=ah (show p.2.length=512 by rw[<-HP.out];exact af.2);have f:=ah (jJ P.out);have E:∀v∈gD p,v.oneCell'=true:=Gw p
   have pM:Row (wr.alloc (.cells (gD (0,zB)).toArray 113)) wr.heap.size 113 (gD (0,zB)):=Row.new wr _ _;have q8:=ah (show (gD (0,zB)).length=513 from jJ ja);have jb:(k:Int)<(j.waits.length:Int):=(by omega);go_wp2_with (first|((refine dV rfl ?_);intro K T;(refine Sr 113 _ rfl g (k*513) rfl (gD p) _ B Tryz.underlying113 rfl (oJ.trans (congrArg some f.out.symm)) ?_);refine T _ _ ?_)|((refine dV rfl ?_);intro K T;(refine jw 113 rfl _ yJ ?_);refine T _ _ ?_)|((refine dV rfl ?_);intro K T;(refine wp_store_row 113 _ _ rfl wr.heap.size 0 113 _ (gD p) rfl rfl pM (oJ.trans (congrArg some f.out.symm)) (by rw[q8.out,f.out];omega) E ?_);intro Y m N;refine T _ _ (Stop.of ?_)))
   refine sN ?_;rw[mg _ _ (q8.out.trans f.out.symm),HX.out] at m;rw[HX.out] at N;have I:Keep (· =x) wr Y:=((Keep.refl (· =x) wr).alloc (.cells (gD (0,zB)).toArray 113)).trans N (fun _ _ e=>e);have dx:¬S x:=fun e=>absurd (a.sub x e) (by rw[HX.out];exact dB _)
   have s:=a.below I (fun y O e=>dx (e▸O));obtain⟨jl,_,_,_,qo,_⟩:=s.cells;have fJ:Y.cell? ⟨x,0,none⟩=some (.int .i64 (p.1:Int)):=m.whole 0 _ rfl;have q9:Y.rangeAt x 1 (aI p.2):=fun y u hu=>by
    rw[vE 1];have:=m.whole (y+1) u hu;rwa [dX] at this
   have iO:=m.lt;have z:=ah (show (aI p.2).length=512 by rw[bP,P.out]);have q:=iA p.2;generalize hC:aI p.2=C at q9 z q;have HC:=ah hC;clear hC;rw[HX.out];clear pM m N E B;obtain⟨J,G,av⟩:=s.row;have V:Row Y.drew l 111 J:=G;have dR:=ah av;clear av;have dZ:(p.1:Int)<((j.upto k).n:Int):=(by show (p.1:Int)<(j.n:Int);omega);have jv:∀(n:Int),0<=n\/n<0:=fun n=>by omega
   go_wp2_with fail;refine aP (fun W=>W=Y.drew) (fun i=> !([9].contains i)) [0,1,2,3,4,5,6,7,8,9] rfl (by kernel_rfl) rfl ?_
   repeat (refine oq ?_ rfl rfl rfl ?_ ?_;rotate_left;focus (intro W Q;(try dsimp only at Q);subst Q;go_simp;first|done|with_reducible rfl);try simp only[Act.put,aj,au,ak])
   refine wh (v:= .agg C.toArray) rfl rfl (fun _ _ _ h=>h) rfl (fun W Q=> ?_) ?_
   ·subst Q
    exact lH 111 (.tmp 29) rfl x 1 rfl C _ q9 Tryz.underlying111 rfl (uQ.trans (congrArg some z.out.symm))
   simp only[Act.put,aj,au,ak]
   repeat (refine oq ?_ rfl rfl rfl ?_ ?_;rotate_left;focus (intro W Q;(try dsimp only at Q);subst Q;go_simp;first|done|with_reducible rfl);try simp only[Act.put,aj,au,ak])
   refine jC rfl rfl rfl (by kernel_rfl) ?_;intro K T;refine wp_store_row 111 (.tmp 31) (.tmp 30) rfl l (p.1*512) 111 J C rfl rfl V (uQ.trans (congrArg some z.out.symm)) (by rw[z.out,dR.out];show _<=j.n*512;omega) q ?_;intro w3 qb b;refine T.out _ _ ?_;refine bR ?_;go_wp2_with fail;rw[<-HC.out] at qb;have X:=s.lay p.1 p.2 di P.out J G qb (((Keep.refl (· =l) Y).drew).trans b (fun _ _ e=>e));have H:Keep (· =l) w1 w3:=(o.trans I (fun y O e=>absurd (ax O o.size) (by rw[e,HX.out];exact dB _))).trans (((Keep.refl (· =l) Y).drew).trans b (fun _ _ e=>e)) (fun _ _ e=>e);have R:=j.NR k t;rw[HP.out] at R;rw[<-R] at X;have aB:=ah X;have bH:=ah H;clear X s a o I b H R;go_roundw
   case rel=>exact⟨k+1,by omega,by go_num,aB.out,bH.out⟩
   case measure=>simp[intOf];omega
  ·obtain rfl:k=j.waits.length:=by omega
   obtain⟨_,_,_,_,qo,qc⟩:=a.cells;have fo:=qc 1 (by omega);have bA:=a.obj;have bB:=ah a;have aA:=ah o;clear a o;go_wp2_with fail;go_ret;have b:Keep (· =d) wr (wr.setCell ⟨d,1,none⟩ (.slice none 0 0)):=(Keep.refl (· =d) wr).setCell (p:=⟨d,1,none⟩) (.inr rfl) _;have a:=bB.out;refine⟨rfl,?_,((dn.mono (fun _ _ e=>e▸HS.out)).trans aA.out (fun _ _ e=>e▸a.sg)).trans b (fun _ _ e=>e▸HS.out),fun _ hg=> .inl hg⟩;rw[HT.out,<-j.Qi];refine⟨⟨a.ok.lo,a.ok.hi,a.ok.sec,(fun p hp=>by cases hp),a.ok.fl⟩,fun y O=>ax (a.sub y O) b.size,a.sd,a.sg,a.ne,?_,?_,fun i hi y u hu=> ?_,aT.nil _ _ _ _ _,(fun y O=>by cases O)⟩
   ·rw[iy wr d 1 _ _ _ bA]
    rfl
   ·obtain⟨C,h1,h2⟩:=a.blk
    exact⟨C,(b.block l (a.sub _ a.sg) a.ne).trans h1,h2⟩
   ·exact(b.cell (p:=⟨l,i*512+y,none⟩) (a.sub _ a.sg) a.ne).trans (a.sec i hi y u hu)
def kept:List Bool->List (Nat×List UInt8)->List (Nat×List UInt8)
 |b::ks,p::ws=>if b then p::kept ks ws else kept ks ws
 |_,_=>[]
def Dx (a:List Bool):kept a []=[]:=by cases a<;>rfl
def xS:∀(c:List Bool) (a:List (Nat×List UInt8)) (k:Nat) (d:k<a.length),kept c (a.take (k+1))=kept c (a.take k)++if c.getD k false=true then[a[k]] else[]
 |[],a,k,d=>by simp[kept]
 |b::c,p::a,0,d=>by simp[kept,Dx]
 |b::c,p::a,k+1,d=>by
  have ih:=xS c a k (by simpa using d)
  simp only[jq,kept,vG,List.getD_cons_succ]
  rw[ih]
  split<;>simp
def Dk.rV (σ:Dk)(ks:List Bool):Dk:={σ with sec:=fun i=>behind (kept ks σ.waits) i (σ.sec i),waits:=[],fuel:= -1,dead:=false}
def Dk.vw (σ:Dk)(ks:List Bool)(k:Nat):Dk:={σ with sec:=fun i=>behind (kept ks (σ.waits.take k)) i (σ.sec i)}
def Dk.N8 (a:Dk)(b:List Bool):a.vw b 0=a:=by
 unfold Dk.vw;rw[iM,Dx];rfl
def Dk.Qr (a:Dk)(b:List Bool)(k:Nat)(c:k<a.waits.length)(h:b.getD k false=true):a.vw b (k+1)=(a.vw b k).lay a.waits[k].1 a.waits[k].2:=by
 unfold Dk.vw Dk.lay;congr 1;funext i;rw[xS _ _ _ c,if_pos h,ow];rfl
def Dk.MR (b:Dk)(a:List Bool)(k:Nat)(c:k<b.waits.length)(h:a.getD k false=false):b.vw a (k+1)=b.vw a k:=by
 unfold Dk.vw;congr 1;funext i;rw[xS _ _ _ c,h,if_neg (by simp),dM]
def Dk.Qs (a:Dk)(b:List Bool):({a.vw b a.waits.length with waits:=[],fuel:= -1,dead:=false}:Dk)=a.rV b:=by
 unfold Dk.vw Dk.rV;rw[bS]
def qK (w:World)(S:Nat->Prop)(d:Nat)(σ:Dk):Prop:=∃gs wv,o8 w S d σ gs wv
def qK.ok {w:World}{a:Dk}(h:qK w S d a):a.Ok:=by obtain⟨_,_,h⟩:=h;exact h.ok
def qK.sub {w:World}{a:Dk}(h:qK w S d a):∀g,S g->g<w.heap.size:=by obtain⟨_,_,h⟩:=h;exact h.sub
def qK.keep {w:World}{M:Nat->Prop}{a:Dk}(h:qK w S d a)(c:Keep M w w')(f:∀g,S g->¬M g):qK w' S d a:=by obtain⟨e,b,h⟩:=h;exact⟨e,b,h.below c f⟩
def qK.below {w:World}{a:Dk}(h:qK w S d a)(b:Below w.heap.size w w'):qK w' S d a:=h.keep (Keep.of_below b gB) (fun _ _ e=>e)
def JH (d:Nat)(a:Dk)(S:Nat->Prop)(w:World)(h:qK w S d a):
  Calls Tryz.prog 9 #[.pointer (some ⟨d,0,none⟩)] w fun e c=>e= .returned (.int .i64 a.n)/\c=w:=by
 obtain⟨f,b,h⟩:=h;exact N9 d a S f b w h
def RA (d:Nat)(a:Dk)(S:Nat->Prop)(w:World)(h:qK w S d a):
  Calls Tryz.prog 34 #[.pointer (some ⟨d,0,none⟩)] w fun e c=>e= .returned (.bool a.dead)/\c=w:=by
 obtain⟨f,b,h⟩:=h;exact Rz d a S f b w h
def Nk (d:Nat)(a:Dk)(S:Nat->Prop)(i:Nat)(w:World)(h:qK w S d a)(f:a.dead=false)(j:i<a.n):
  Calls Tryz.prog 102 #[.pointer (some ⟨d,0,none⟩),.int .i64 i] w fun e b=>∃v,e= .returned (.tuple #[v,.int .i64 0])/\aT b gB w.heap.size 5 1 v 512 (aI (a.get i))/\Below w.heap.size w b:=by
 obtain⟨g,c,h⟩:=h;exact OW d a S g c i w h f j
theorem LW (d:Nat)(b:Dk)(S:Nat->Prop)(i:Int)(v:Value)(w:World)(h:qK w S d b)(c:b.bad i≠0):
  Calls Tryz.prog 78 #[.pointer (some ⟨d,0,none⟩),.int .i64 i,v] w fun e j=>e= .returned (.int .i64 (b.bad i))/\j=w:=by
 obtain⟨k,g,h⟩:=h;have a:=ah (nO d b S k g i w h);generalize b.bad i=q at c a;have m:(q !=0)=true:=by simpa using c
 go_enter Tryz.func78,Tryz.ntmps78;go_wp2_with (first|(go_at_call 53;go_must (refine a.out.mono ?_;rintro e f ⟨rfl,l⟩;subst f)))
 go_ret;exact⟨rfl,rfl⟩
theorem JF (d:Nat)(c:Dk)(S:Nat->Prop)(i:Int)(v:Value)(l:List UInt8)(w:World)(h:qK w S d c)(f:c.bad i=0)(o:aZ w S 1 v l.length (aI l))(q:512<l.length):
  Calls Tryz.prog 78 #[.pointer (some ⟨d,0,none⟩),.int .i64 i,v] w fun e j=>e= .returned (.int .i64 1)/\j=w:=by
 obtain⟨k,n,h⟩:=h;have a:=nO d c S k n i w h;rw[f] at a;have b:=ah a;clear a f;obtain⟨r,s,rfl,_,_,_,_⟩:=aZ.form o;have m:(512:Int)<(l.length:Int):=by omega
 go_enter Tryz.func78,Tryz.ntmps78;go_wp2_with (first|(go_at_call 53;go_must (refine b.out.mono ?_;rintro e g ⟨rfl,p⟩;subst g)))
 go_ret;exact⟨rfl,rfl⟩
theorem JG (d:Nat)(b:Dk)(S:Nat->Prop)(i:Int)(v:Value)(l:List UInt8)(w:World)(h:qK w S d b)(q:b.bad i=0)(s:b.dead=false)(B:aZ w S 1 v l.length (aI l))(D:l.length<=512)(n:b.fK.dead=true):
  Calls Tryz.prog 78 #[.pointer (some ⟨d,0,none⟩),.int .i64 i,v] w fun e p=>e= .returned (.int .i64 10)/\qK p S d b.fK/\Step S S w p:=by
 obtain⟨g,m,h⟩:=h;have c:=nO d b S g m i w h;rw[q] at c;have k:=ah c;clear c q;obtain⟨E,F,rfl,_,_,_,_⟩:=aZ.form B;have z:¬((512:Int)<(l.length:Int)):=by omega
 have a:=Ae d b S g m w h s;rw[n] at a;have y:=ah a;clear a;have A:=ah h.sd;have r:∀(x:Bool) (w:World),(Op.unary .not (.bool x)).run Tryz.prog w= .ok (.bool (!x)) w:=fun _ _=>rfl
 go_enter Tryz.func78,Tryz.ntmps78;go_wp2_with (first|(go_at_call 53;go_must (refine k.out.mono ?_;rintro e o ⟨rfl,C⟩;subst o))|(go_at_call 54;go_must (refine y.out.mono ?_;rintro e o ⟨rfl,j,f⟩)))
 go_ret;exact⟨rfl,⟨g,m,j⟩,f.mono (fun _ _ e=>e▸A.out),fun _ t=> .inl t⟩
theorem GV (d:Nat)(a:Dk)(S:Nat->Prop)(i:Int)(v:Value)(l:List UInt8)(w:World)(h:qK w S d a)(s:aZ w S 1 v l.length (aI l))(m:a.waits.length<=1000000):
  Calls Tryz.prog 78 #[.pointer (some ⟨d,0,none⟩),.int .i64 i,v] w fun e j=>e= .returned (.int .i64 (a.write i l).2)/\∃o,qK j o d (a.write i l).1/\Step S o w j:=by
 by_cases f:a.bad i=0
 ·have b:a.dead=false:=by
   cases b:a.dead with
   |false=>rfl
   |true=>simp[Dk.bad,b] at f
  have g:¬(i<0\/(a.n:Int)<=i):=fun g=>by simp[Dk.bad,b,g] at f
  by_cases n:512<l.length
  ·have e:a.write i l=(a,1):=by simp[Dk.write,b,g,n]
   try rw[e]
   refine(JF d a S i v l w h f s n).mono ?_;rintro e j ⟨rfl,rfl⟩;exact⟨rfl,S,h,Step.refl _ _⟩
  ·cases c:a.fK.dead with
   |true=>
    have e:a.write i l=(a.fK,10):=by simp[Dk.write,b,g,n,c]
    try rw[e]
    refine(JG d a S i v l w h f b s (by omega) c).mono ?_;rintro e j ⟨rfl,q,p⟩;exact⟨rfl,S,q,p⟩
   |false=>
    have e:a.write i l=(a.fK.put i.toNat l,0):=by simp[Dk.write,b,g,n,c]
    try rw[e]
    obtain⟨k,rfl⟩:∃k:Nat,i=k:=⟨i.toNat,by omega⟩
    obtain⟨t,x,h⟩:=h;refine(OV d a S t x k v l w h b (by omega) (by omega) c s m).mono ?_;rintro e j ⟨rfl,o,r,q,p⟩;exact⟨rfl,o,⟨t,r,q⟩,p⟩
 ·have e:a.write i l=(a,a.bad i):=by
   unfold Dk.bad at f ⊢;unfold Dk.write
   split
   ·rfl
   ·rename_i b
    simp only[b] at f
    split
    ·rfl
    ·rename_i g
     simp[g] at f
  try rw[e]
  refine(LW d a S i v w h f).mono ?_;rintro e j ⟨rfl,rfl⟩;exact⟨rfl,S,h,Step.refl _ _⟩
theorem JK (d:Nat)(b:Dk)(S:Nat->Prop)(w:World)(h:qK w S d b)(g:b.dead=true):
  Calls Tryz.prog 16 #[.pointer (some ⟨d,0,none⟩)] w fun e j=>e= .returned (.int .i64 10)/\j=w:=by
 obtain⟨k,f,h⟩:=h;have a:=nO d b S k f 0 w h;rw[show b.bad 0=10 by simp[Dk.bad,g]] at a;have c:=ah a;clear a;go_enter Tryz.func16,Tryz.ntmps16;go_wp2_with (first|(go_at_call 53;go_must (refine c.out.mono ?_;rintro e i ⟨rfl,l⟩;subst i)))
 go_ret;exact⟨rfl,rfl⟩
theorem JJ (d:Nat)(b:Dk)(S:Nat->Prop)(w:World)(h:qK w S d b)(m:b.dead=false)(l:b.fK.dead=true):
  Calls Tryz.prog 16 #[.pointer (some ⟨d,0,none⟩)] w fun e o=>e= .returned (.int .i64 10)/\qK o S d b.fK/\Step S S w o:=by
 obtain⟨j,k,h⟩:=h;have c:=nO d b S j k 0 w h;rw[show b.bad 0=0 by have:=h.ok.lo;unfold Dk.bad;rw[m];simp;omega] at c;have g:=ah c;clear c;have a:=Ae d b S j k w h m;rw[l] at a;have r:=ah a;clear a;have s:=ah h.sd;have p:∀(x:Bool) (w:World),(Op.unary .not (.bool x)).run Tryz.prog w= .ok (.bool (!x)) w:=fun _ _=>rfl
 go_enter Tryz.func16,Tryz.ntmps16;go_wp2_with (first|(go_at_call 53;go_must (refine g.out.mono ?_;rintro e n ⟨rfl,t⟩;subst n))|(go_at_call 54;go_must (refine r.out.mono ?_;rintro e n ⟨rfl,i,f⟩)))
 go_ret;exact⟨rfl,⟨j,k,i⟩,f.mono (fun _ _ e=>e▸s.out),fun _ q=> .inl q⟩
theorem GX (d:Nat)(a:Dk)(S:Nat->Prop)(w:World)(h:qK w S d a)(f:a.waits.length<=1000000):
  Calls Tryz.prog 16 #[.pointer (some ⟨d,0,none⟩)] w fun e g=>e= .returned (.int .i64 a.sync.2)/\qK g S d a.sync.1/\Step S S w g:=by
 cases c:a.dead with
 |true=>
  have e:a.sync=(a,10):=by simp[Dk.sync,c]
  try rw[e]
  refine(JK d a S w h c).mono ?_;rintro e g ⟨rfl,rfl⟩;exact⟨rfl,h,Step.refl _ _⟩
 |false=>
  cases b:a.fK.dead with
  |true=>
   have e:a.sync=(a.fK,10):=by simp[Dk.sync,c,b]
   try rw[e]
   exact JJ d a S w h c b
  |false=>
   have e:a.sync=(a.fK.flush,0):=by simp[Dk.sync,c,b]
   try rw[e]
   obtain⟨i,j,h⟩:=h;refine(OX d a S i j w h c b f).mono ?_;rintro e g ⟨rfl,l,k⟩;exact⟨rfl,⟨i,_,l⟩,k⟩
def Dk.fuels (σ:Dk)(n:Int):Dk:={σ with fuel:=max n (-1)}
theorem Un (d:Nat)(c:Dk)(S:Nat->Prop)(n:Int)(w:World)(h:qK w S d c)(s:n<=9223372036854775807):
  Calls Tryz.prog 15 #[.pointer (some ⟨d,0,none⟩),.int .i64 n] w fun e k=>e= .returned (.tuple #[])/\qK k S d (c.fuels n)/\Step S S w k:=by
 obtain⟨q,t,h⟩:=h;obtain⟨_,_,z,_,A,r⟩:=h.cells;have x:=r 2 (by omega);have g:=h.obj;have y:=ah h;clear h;have b:∀m:Int,-1<=m->m<=9223372036854775807->max n (-1)=m->qK (w.setCell ⟨d,2,none⟩ (.int .i64 m)) S d (c.fuels n)/\Step S S w (w.setCell ⟨d,2,none⟩ (.int .i64 m)):=fun m i j v=>by
  have l:Keep (· =d) w (w.setCell ⟨d,2,none⟩ (.int .i64 m)):=(Keep.refl (· =d) w).setCell (p:=⟨d,2,none⟩) (.inr rfl) _;have a:=y.out;have e:c.fuels n={c with fuel:=m}:=by unfold Dk.fuels;rw[v]
  try rw[e]
  refine⟨⟨q,t,a.U3 l rfl rfl rfl ⟨a.ok.lo,a.ok.hi,a.ok.sec,a.ok.wt,i,j⟩ ?_⟩,l.mono (fun _ _ e=>e▸a.sd),fun _ o=> .inl o⟩;rw[iy w d 2 _ _ _ g];rfl
 by_cases f: -1<=n
 ·go_enter Tryz.func15,Tryz.ntmps15
  go_wp2_with fail;go_end0;exact⟨rfl,b n f s (by omega)⟩
 ·go_enter Tryz.func15,Tryz.ntmps15
  go_wp2_with fail;go_end0;exact⟨rfl,b (-1) (by omega) (by omega) (by omega)⟩
def Dk.new (n:Nat):Dk:=⟨n,fun _=>zB,[],-1,false⟩
def jU (n:Int):Nat:=if n<1 then 1 else if 4096<n then 4096 else n.toNat
def FH (n:Int):1<=jU n/\jU n<=4096:=by unfold jU;split;omega;split<;>omega
def Jw:(Tryz.prog.info? 111).map (fun i=>(i.zero,i.size,i.bytes))=some (some (.agg (aI zB).toArray),512,512):=by kernel_rfl
def Gz (w:World)(n:Nat)(e:n<=4096):(Instr.makeSlice 79 (.int .i64 n) (.int .i64 n)).run Tryz.prog w= .ok (.slice (some ⟨w.heap.size,0,none⟩) n n) (w.alloc (.cells (madeCells (aI zB).toArray (n*512)) 111)):=by
 obtain⟨i,c,d,a,b⟩:=ve Jw;have:=run_make (P:=Tryz.prog) (w:=w) 79 111 i _ Tryz.underlying79 c d .i64 .i64 n n (by omega) (by omega) (by rw[b];omega) (by omega);rw[this,a];simp only[fE];rfl
def Lp (w:World)(g n i:Nat)(k:i<n)(h:w.heap[g]? =some (.cells (madeCells (aI zB).toArray (n*512)) 111 (0,0))):w.rangeAt g (i*512) (aI zB):=fun j v b=>by
 have d:=(dm.1 b).1
 rw[bP,ja] at d
 have f:(aI zB).toArray.size=512:=by rw[nZ,bP,ja]
 have a:i*512+j<n*512:=by omega
 have c:(i*512+j)%512=j:=by omega
 have e:(madeCells (aI zB).toArray (n*512))[i*512+j]? =some v:=by
  unfold madeCells;rw[f];simp only[Array.getElem?_map,Array.getElem?_range,a,iX,iJ,c];rw[<-b];simp only[List.getElem!_toArray,List.getElem!_eq_getElem?_getD,b,VA]
 rw[Ak w g (i*512+j) _ 111 (0,0) h];exact e
theorem Wo (n:Int)(w:World):
  Calls Tryz.prog 8 #[.int .i64 n] w fun e s=>∃d S,e= .returned (.pointer (some ⟨d,0,none⟩))/\qK s S d (Dk.new (jU n))/\Below w.heap.size w s/\∀g,S g->w.heap.size<=g:=by
 have a:=Gz w (jU n) (FH n).2;have c:=FH n;have l:∀q:World,q.heap[w.heap.size]? =some (.cells (madeCells (aI zB).toArray (jU n*512)) 111 (0,0))->q.heap[w.heap.size+1]? =some (.cells #[.slice (some ⟨w.heap.size,0,none⟩) (jU n) (jU n),.slice none 0 0,.int .i64 (-1),.bool false] 82 (0,0))->
   qK q (fun g=>g=w.heap.size\/g=w.heap.size+1) (w.heap.size+1) (Dk.new (jU n)):=fun q j k=>by
  refine⟨w.heap.size,.slice none 0 0,⟨c.1,c.2,fun _=>ja,(fun p z=>by cases z),(by decide:(-1:Int)<=-1/\(-1:Int)<=9223372036854775807)⟩,?_,.inr rfl,.inl rfl,by omega,k,⟨_,j,?_⟩,fun i D=>Lp q _ _ i D j,aT.nil _ _ _ _ _,(fun y A=>by cases A)⟩
  ·rintro g (rfl|rfl)
   ·exact(ai.1 j).1
   ·exact(ai.1 k).1
  ·simp[madeCells,Dk.new]
 have r:=ah l;clear l;generalize madeCells (aI zB).toArray (jU n*512)=C at a r;have b:Below w.heap.size w ((w.alloc (.cells C 111)).alloc (.cells #[.slice (some ⟨w.heap.size,0,none⟩) (jU n) (jU n),.slice none 0 0,.int .i64 (-1),.bool false] 82))/\
   qK ((w.alloc (.cells C 111)).alloc (.cells #[.slice (some ⟨w.heap.size,0,none⟩) (jU n) (jU n),.slice none 0 0,.int .i64 (-1),.bool false] 82)) (fun g=>g=w.heap.size\/g=w.heap.size+1) (w.heap.size+1) (Dk.new (jU n)):=by
  have v:=gK w (.cells C 111) (.cells #[.slice (some ⟨w.heap.size,0,none⟩) (jU n) (jU n),.slice none 0 0,.int .i64 (-1),.bool false] 82);refine⟨v,r.out _ ?_ ?_⟩
  ·exact(qF _ _ _ (by simp)).trans (aV w _)
  ·have:=aV (w.alloc (.cells C 111)) (.cells #[.slice (some ⟨w.heap.size,0,none⟩) (jU n) (jU n),.slice none 0 0,.int .i64 (-1),.bool false] 82)
   rwa [aU] at this
 have f:=ah b;clear b r
 by_cases j:n<1
 ·have e:jU n=1:=by simp[jU,j]
  rw[e] at a f;simp only[Int.natCast_one] at a;have k:n<=1:=by omega
  clear c;go_enter Tryz.func8,Tryz.ntmps8;go_wp2_with fail;go_ret
  try rw[e]
  exact⟨_,_,rfl,f.out.2,f.out.1,fun g o=>by rcases o with rfl|rfl<;>omega⟩
 ·by_cases k:4096<n
  ·have e:jU n=4096:=by simp[jU,j,k]
   rw[e] at a f;have t:(Instr.makeSlice 79 (.int .i64 4096) (.int .i64 4096)).run Tryz.prog w= .ok (.slice (some ⟨w.heap.size,0,none⟩) 4096 4096) (w.alloc (.cells C 111)):=a;have B:1<=n:=(by omega);have E:¬n<=1:=(by omega);have x:4096<=n:=(by omega);clear c a;go_enter Tryz.func8,Tryz.ntmps8;go_wp2_with fail;go_ret
   try rw[e]
   exact⟨_,rfl,_,f.out.2,f.out.1,fun g o=>by rcases o with rfl|rfl<;>omega⟩
  ·obtain⟨m,rfl⟩:∃m:Nat,n=m:=⟨n.toNat,by omega⟩
   have e:jU (m:Int)=m:=(by unfold jU;rw[if_neg j,if_neg k,fE]);rw[e] at a f;have B:(1:Int)<=(m:Int):=(by omega);have x:(m:Int)<=4096:=(by omega);have G:1<=m:=(by omega);have F:m<=4096:=(by omega);clear c;go_enter Tryz.func8,Tryz.ntmps8;go_wp2_with fail;go_ret
   try rw[e]
   exact⟨_,rfl,_,f.out.2,f.out.1,fun g o=>by rcases o with rfl|rfl<;>omega⟩
