--
import Derived.Test.YtogbkgmlhhahdaaGreatT12
import Derived.Lib.BitFns
import Derived.Laws.BitsAllLaws
set_option maxRecDepth 100000
set_option maxHeartbeats 0
set_option linter.all false
namespace Go.Proofs.YtogbkgmlhhahdaaGreat
open Go.RowKit
variable{P:(Nat->List UInt8)->Prop}{a:List (List (List UInt8))}{B l:List UInt8}{i k n:Nat}{b:Nat->Bool}{s:Nat->List UInt8}{w:World}
theorem QK (d:Nat)(a:Dk)(f:Nat->Prop)(n:Int)(w:World)(h:qK w f d a):
  Calls Tryz.prog 74 #[.pointer (some ⟨d,0,none⟩),.int .i64 n] w fun e i=>e= .returned (.int .i64 (if n<2\/(a.n:Int)<=n then 1 else 0))/\i=w:=by
 have g:=ah (JH d a f w h);clear h
 by_cases k:n<2
 ·rw[if_pos (.inl k)]
  go_enter Tryz.func74,Tryz.ntmps74;go_wp2_with fail;go_ret;exact⟨rfl,rfl⟩
 ·by_cases j:(a.n:Int)<=n
  ·rw[if_pos (.inr j)]
   go_enter Tryz.func74,Tryz.ntmps74;go_wp2_with (first|(go_at_call 9;go_must (refine g.out.mono ?_;rintro e b ⟨rfl,c⟩;subst b)))
   go_ret;exact⟨rfl,rfl⟩
  ·rw[if_neg (by omega)]
   go_enter Tryz.func74,Tryz.ntmps74;go_wp2_with (first|(go_at_call 9;go_must (refine g.out.mono ?_;rintro e b ⟨rfl,c⟩;subst b)))
   go_ret;exact⟨rfl,rfl⟩
def Dk.vO:Nat->Nat->Dk->Dk
 |0,_,σ=>σ
 |k+1,i,σ=>Dk.vO k (i+1) (σ.put i [])
def Dk.Aw:∀(k i:Nat) (a:Dk),Dk.vO (k+1) i a=(Dk.vO k i a).put (i+k) []
 |0,i,a=>rfl
 |k+1,i,a=>by
  show Dk.vO (k+1) (i+1) (a.put i [])=_
  rw[Dk.Aw k (i+1)]
  show (Dk.vO k (i+1) (a.put i [])).put (i+1+k) []=(Dk.vO k (i+1) (a.put i [])).put (i+(k+1)) []
  rw[show i+1+k=i+(k+1) by omega]
def Dk.Ay:∀(k i:Nat) (a:Dk),(Dk.vO k i a).n=a.n
 |0,_,_=>rfl
 |k+1,i,a=>(Dk.Ay k (i+1) (a.put i [])).trans rfl
def Dk.xE:∀(k i:Nat) (a:Dk),a.oK->(Dk.vO k i a).oK
 |0,_,_,h=>h
 |k+1,i,a,h=>Dk.xE k (i+1) (a.put i []) (h.put i [])
def Dk.yK:∀(k i:Nat) (a:Dk),(Dk.vO k i a).waits.length=a.waits.length+k
 |0,_,_=>rfl
 |k+1,i,a=>by
  show (Dk.vO k (i+1) (a.put i [])).waits.length=_
  rw[Dk.yK k (i+1)]
  simp[Dk.put]
  omega
def Pg.new (n:Nat):Pg:=⟨n,n - 1,Im.none,false⟩
def Dj {f c:Nat->Prop}{d:Nat}{p:Dk}{l:Lg}(n:Nat)(h:jg w f c i d p l)(s:l.frm=0)(r:l.n=n)(j:n<p.n)(x:2<=n):
  ji ((w.alloc (.map #[] 0)).alloc (.cells #[.pointer (some ⟨d,0,none⟩),.pointer (some ⟨i,0,none⟩),.int .i64 n,.int .i64 ((n - 1:Nat):Int),.map (some w.heap.size),.pointer none,.bool false] 141)) (Three f c (fun g=>g=w.heap.size\/g=w.heap.size+1)) (w.heap.size+1) d p l (Pg.new n) (.pointer none)/\
  Step (fun g=>f g\/c g) (Three f c (fun g=>g=w.heap.size\/g=w.heap.size+1)) w ((w.alloc (.map #[] 0)).alloc (.cells #[.pointer (some ⟨d,0,none⟩),.pointer (some ⟨i,0,none⟩),.int .i64 n,.int .i64 ((n - 1:Nat):Int),.map (some w.heap.size),.pointer none,.bool false] 141)):=by
 obtain⟨b,k⟩:∃b:Array Value,b=#[.pointer (some ⟨d,0,none⟩),.pointer (some ⟨i,0,none⟩),.int .i64 n,.int .i64 ((n - 1:Nat):Int),.map (some w.heap.size),.pointer none,.bool false]:=⟨_,rfl⟩
 rw[<-k];have q:Below w.heap.size w ((w.alloc (.map #[] 0)).alloc (.cells b 141)):=gK w _ _;have v:lN ((w.alloc (.map #[] 0)).alloc (.cells b 141)) w.heap.size Im.none:=(lN.none w).block (qF _ _ _ (by simp));have t:((w.alloc (.map #[] 0)).alloc (.cells b 141)).heap[w.heap.size+1]? =some (.cells b 141 (0,0)):=by
  have:=aV (w.alloc (.map #[] 0)) (.cells b 141);rwa [aU] at this
 have y:((w.alloc (.map #[] 0)).alloc (.cells b 141)).heap.size=w.heap.size+2:=by simp
 have o:∀g,f g->g<w.heap.size:=h.dk.sub
 have m:∀g,c g->g<w.heap.size:=h.lg.sub
 refine⟨⟨f,c,_,i,w.heap.size,⟨h.below q,⟨s,r.symm,?_,by rw[r];exact j,Im.Ok.none _⟩,fun g a=> ?_,fun g a e=> ?_,fun g a e=> ?_,.inr rfl,.inl rfl,?_,v⟩,fun _=>H8⟩,(Keep.of_below q _),fun g a=> ?_⟩
 ·show n - 1+1=l.n;omega
 ·omega
 ·have:=o g e;omega
 ·have:=m g e;omega
 ·rw[t,k];rfl
 ·rcases a with a|a|a
  ·exact .inl (.inl a)
  ·exact .inl (.inr a)
  ·right;omega
theorem V8 (d:Nat)(a:Dk)(s:Nat->Prop)(n:Nat)(w:World)(h:qK w s d a)(G:a.oK)(E:2<=n)(M:n<a.n)(F:a.waits.length<=50000):
  Calls Tryz.prog 39 #[.pointer (some ⟨d,0,none⟩),.int .i64 n] w fun e B=>∃H K,e= .returned (.tuple #[.pointer (some ⟨H,0,none⟩),.int .i64 0])/\
   ji B K H d (((Dk.vO (a.n - n) n a).flush.put 0 (Lg.new 0 n).fJ).flush) (Lg.new 0 n) (Pg.new n) (.pointer none)/\Step s K w B:=by
 have g:=QK d a s n w h;rw[if_neg (by omega)] at g;have P:=ah g;clear g;have Y:=h.ok.hi;have V:=ah h;have D:=ah G;clear h G;go_enter Tryz.func39,Tryz.ntmps39;go_wp2_with (first|(go_at_call 74;go_must (refine P.out.mono ?_;rintro e p ⟨rfl,t⟩;subst p)))
 go_loopw [7] (fun i wr=>∃(k:Nat) (o:Nat->Prop),n+k<=a.n/\i= .int .i64 ((n+k:Nat):Int)/\Hid (qK wr o d (Dk.vO k n a))/\Hid (Step s o w wr)) (fun i _=>a.n - (intOf i).toNat)
 case atStart=>exact⟨0,s,by omega,rfl,V,ah (Step.refl _ _)⟩
 case round=>
  obtain⟨k,o,O,rfl,HD,J⟩:=hrel;have f:=ah (JH d _ o wr HD.out);rw[Dk.Ay] at f;obtain⟨j,m⟩:=nm (n+k);rw[m.out] at O ⊢
  by_cases v:j<a.n
  ·have I:(j:Int)<(a.n:Int):=by omega
   have l:=GV d _ o (j:Int) (.slice none 0 0) [] wr HD.out (aZ.nil _ _ _) (by rw[Dk.yK];have:=m.out;omega);rw[(Dk.xE k n a D.out).write j [] (by rw[Dk.Ay];exact v) (by simp)] at l;have z:=ah l;clear l;go_wp2_with (first|(go_at_call 9;go_must (refine f.out.mono ?_;rintro e p ⟨rfl,t⟩;subst p))|(go_at_call 78;go_must (refine z.out.mono ?_;rintro e W ⟨rfl,Q,q,b⟩)))
   have x:=ah q;have c:=ah (J.out.trans b);clear q b;go_roundw
   case rel=>
    refine⟨k+1,Q,by have:=m.out;omega,by have:=m.out;go_num,ah ?_,c⟩;rw[Dk.Aw,m.out];exact x.out
   case measure=>simp[intOf];omega
  ·obtain rfl:j=a.n:=by omega
   have y:k=a.n - n:=(by have:=m.out;omega);rw[y] at HD;have N:=ah (VL d _ o 0 n wr HD.out (Dk.xE _ n a D.out) E (by rw[Dk.Ay];omega) (by rw[Dk.yK];omega));have S:∀w:World,(Instr.makeMap 139 none).run Tryz.prog w= .ok (.map (some w.heap.size)) (w.alloc (.map #[] 0)):=fun w=>run_makeMap _ w
   have Z:IntKind.i64.wrap ((n:Int) - 1)=((n - 1:Nat):Int):=(by rw[aG _ (by omega)];omega);go_wp2_with (first|(go_at_call 9;go_must (refine f.out.mono ?_;rintro e p ⟨rfl,t⟩;subst p))|(go_at_call 79;go_must (refine N.out.mono ?_;rintro e W ⟨X,T,R,rfl,r,b⟩;refine sO ?_)))
   refine sN ?_;have A:=ah r;have c:=ah (J.out.trans b);clear r b;go_wp2_with fail;go_ret2;have C:=Dj n A.out rfl rfl (by show n<(((Dk.vO (a.n - n) n a).flush.put 0 (Lg.new 0 n).fJ).flush).n;have:(((Dk.vO (a.n - n) n a).flush.put 0 (Lg.new 0 n).fJ).flush).n=(Dk.vO (a.n - n) n a).n:=rfl;rw[this,Dk.Ay];exact M) E;exact⟨_,_,rfl,C.1,c.out.trans C.2⟩
def wm (a c m t:Nat)(k:Nat)(d:m=2^k)(j:a<m)(g:t=a+m*c)(e:t<9223372036854775808):bits .or .i64 (a:Int) ((m*c:Nat):Int)=(t:Int):=by
 unfold bits;have l:m*c<18446744073709551616:=by omega
 have f:(BitVec.ofInt 64 (a:Int)|||BitVec.ofInt 64 ((m*c:Nat):Int)).toNat=t:=by
  rw[oh,oh,BitVec.toNat_or,pR,pR,oW (by omega),oW (by omega),Nat.or_comm];have:=Aq (i:=k) (b:=a) (by omega) c;rw[d,<-this,g,d];omega
 show IntKind.i64.wrap (((BitVec.ofInt 64 (a:Int)|||BitVec.ofInt 64 ((m*c:Nat):Int)).toNat:Nat):Int)=t;rw[f,lI];omega
def rO (l:List UInt8)(i:Nat)(b:UInt8)(h:l[i]? =some b)(W:World):(Instr.index 9 (.string (strOf l)) (.int .i64 (i:Int))).run Tryz.prog W= .ok (.int .u8 (b.toNat:Int)) W:=by
 obtain⟨d,c⟩:=dm.1 h;have a:(strOf l).size=l.length:=by show l.toArray.size=_;simp
 rw[run_index_string W 9 (strOf l) .i64 (i:Int) gW,dif_pos ⟨by omega,by rw[a];omega⟩];have:(strOf l)[(i:Int).toNat]'(by rw[a];omega)=b:=by
  show l.toArray[(i:Int).toNat]'(by simpa using d)=b;simp[c]
 rw[this]
theorem Tx (d a c b:UInt8)(r:List UInt8)(w:World):
  Calls Tryz.prog 76 #[.string (strOf (d::a::c::b::r))] w fun e y=>e= .returned (.int .i64 (tH [d,a,c,b]))/\y=w.drew:=by
 have q:=d.toNat_lt;have C:=a.toNat_lt;have z:=c.toNat_lt;have J:=b.toNat_lt;have F:∀W:World,(Instr.index 9 (.string (strOf (d::a::c::b::r))) (.int .i64 0)).run Tryz.prog W= .ok (.int .u8 (d.toNat:Int)) W:=fun W=>rO _ 0 d rfl W
 have M:∀W:World,(Instr.index 9 (.string (strOf (d::a::c::b::r))) (.int .i64 1)).run Tryz.prog W= .ok (.int .u8 (a.toNat:Int)) W:=fun W=>rO _ 1 a rfl W
 have B:∀W:World,(Instr.index 9 (.string (strOf (d::a::c::b::r))) (.int .i64 2)).run Tryz.prog W= .ok (.int .u8 (c.toNat:Int)) W:=fun W=>rO _ 2 c rfl W
 have I:∀W:World,(Instr.index 9 (.string (strOf (d::a::c::b::r))) (.int .i64 3)).run Tryz.prog W= .ok (.int .u8 (b.toNat:Int)) W:=fun W=>rO _ 3 b rfl W
 obtain⟨s,K⟩:=nm (strOf (d::a::c::b::r));rw[K.out] at F M B I ⊢;have O:IntKind.i64.wrap (d.toNat:Int)=(d.toNat:Int):=aG _ (by omega);have R:IntKind.i64.wrap (a.toNat:Int)=(a.toNat:Int):=aG _ (by omega);have V:IntKind.i64.wrap (c.toNat:Int)=(c.toNat:Int):=aG _ (by omega);have S:IntKind.i64.wrap (b.toNat:Int)=(b.toNat:Int):=aG _ (by omega);have G:IntKind.i64.wrap ((a.toNat:Int)*256)=((256*a.toNat:Nat):Int):=by rw[aG _ (by omega)];omega
 have A:IntKind.i64.wrap ((c.toNat:Int)*65536)=((65536*c.toNat:Nat):Int):=by rw[aG _ (by omega)];omega
 have x:IntKind.i64.wrap ((b.toNat:Int)*16777216)=((16777216*b.toNat:Nat):Int):=by rw[aG _ (by omega)];omega
 obtain⟨o,f⟩:=nx (d.toNat+256*a.toNat);obtain⟨p,j⟩:=nx (o+65536*c.toNat);obtain⟨t,g⟩:=nx (p+16777216*b.toNat);have E:=wm d.toNat a.toNat 256 o 8 rfl q f (by omega);have D:=wm o c.toNat 65536 p 16 rfl (by omega) j (by omega);have H:=wm p b.toNat 16777216 t 24 rfl (by omega) g (by omega);have N:=ah (show tH [d,a,c,b]=t by simp only[tH];omega);rw[N.out];obtain⟨T,l⟩:∃m:Nat,Hid (256*a.toNat=m):=⟨_,ah rfl⟩
 obtain⟨P,n⟩:∃m:Nat,Hid (65536*c.toNat=m):=⟨_,ah rfl⟩
 obtain⟨Q,k⟩:∃m:Nat,Hid (16777216*b.toNat=m):=⟨_,ah rfl⟩
 rw[l.out] at G E;rw[n.out] at A D;rw[k.out] at x H;clear f j g q C z J;go_enter Tryz.func76,Tryz.ntmps76;go_wp2_with fail;refine aP (fun W=>W=w.drew) (fun i=>true) [0,1,2,3,4,5,6,7,8,9,10,11,12,13,14,15,16,17,18] rfl (by kernel_rfl) rfl ?_
 repeat (refine oq ?_ rfl rfl rfl ?_ ?_;rotate_left;(focus intro W v;(try dsimp only at v);subst v;go_simp;first|done|with_reducible rfl);try simp only[Act.put,aj,au,ak])
 refine bR ?_;go_wp2_with fail;go_ret;exact⟨rfl,rfl⟩
theorem PZ (o p g:Nat)(c:Nat)(a:List UInt8)(i N:Nat)(w:World)(H:52<=N)(D:N<=100000)(v:w.cell? ⟨o,0,none⟩=some (.slice (some ⟨g,0,none⟩) N c))(s:w.cell? ⟨p,0,none⟩=some (.int .i64 12))(f:a.length=N)(l:gF w gB (.slice (some ⟨g,0,none⟩) N c) a)(G:i<=4):
  Calls Tryz.prog 124 #[.int .i64 i,.pointer (some ⟨o,0,none⟩),.pointer (some ⟨p,0,none⟩)] w fun e r=>e= .returned (.int .u64 (tH ((a.drop (12+8*i)).take 8)))/\r=w:=by
 have b:aZ w gB 1 (.slice (some ⟨g,0,none⟩) N c) N (aI a):=by rw[<-f];rw[<-f] at l;exact l
 have m:N<=c:=by
  obtain⟨_,_,A,m,_⟩:=b;injection A with e1 e2 e3
  omega
 obtain⟨z,k⟩:∃z,Hid (12+8*i=z):=⟨_,ah rfl⟩
 have F:z<=44:=by have:=k.out;omega
 have B:IntKind.i64.wrap (8*(i:Int))=((8*i:Nat):Int):=by rw[aG _ (by omega)];omega
 have C:IntKind.i64.wrap (12+((8*i:Nat):Int))=(z:Int):=by rw[aG _ (by omega),<-k.out];omega
 have d:=b.after z (by omega);rw[if_neg (show ¬c=z by omega)] at d;simp only[iJ,dU,aW,dX] at d;have j:gF w gB (.slice (some ⟨g,z,none⟩) (N - z) (c - z)) (a.drop z):=by
  have e:List.drop z (aI a)=aI (a.drop z):=by simp[aI,fT]
  show aZ w gB 1 _ (a.drop z).length _;rw[aO,f,<-e];exact d
 have n:=ah (NN _ (a.drop z) 8 gB w j (by rw[aO,f];omega) (by omega));rw[<-k.out] at n;have E:(z:Int)<=N:=by omega
 have t:=aF w _ v;have y:=aF w _ s;clear d l b B C;go_enter Tryz.func124,Tryz.ntmps124;go_wp2_with (first|(go_at_call 125;go_must (refine n.out.mono ?_;rintro e q ⟨rfl,x⟩;subst q)))
 go_ret;exact⟨rfl,rfl⟩
structure Wy (σ:Dk)(l:Lg)(at_:Nat)(B Z:List UInt8):Prop where
 len:Z.length=(B.length+511)/512*512
 beg:Z.take B.length=B
 sec:∀j,j<(B.length+511)/512->σ.get (l.ring (at_+j))=(Z.drop (j*512)).take 512
def NV (Z:List UInt8)(i:Nat):Z.take (i*512)++(Z.drop (i*512)).take 512=Z.take ((i+1)*512):=by
 rw[fq,kE,SA]
def RX {Z:List UInt8}(h:Z.take B.length=B)(i:Nat)(a:i<=B.length):Z.take i=B.take i:=by
 rw[<-h,dz,bK a]
def TW {Z:List UInt8}(h:Z.take B.length=B)(i j:Nat)(c:i+j<=B.length):(Z.drop i).take j=(B.drop i).take j:=by
 have e:=RX h (i+j) c;have b:(Z.drop i).take j=(Z.take (i+j)).drop i:=by rw[gQ];congr 1;omega
 have a:(B.drop i).take j=(B.take (i+j)).drop i:=by rw[gQ];congr 1;omega
 rw[b,a,e]
def Kb (k:Nat)(a:List (List UInt8)):(iW k a).take 4=leB (iW k a).length 4:=by
 have b:(iW k a).length=16+(iU a).length:=by rw[tK,mD]
 rw[b];unfold iW;simp only[aM];rw[gY (bW _ 4)]
def Mi (k:Nat)(a:List (List UInt8)):((iW k a).drop 4).take 8=leB k 8:=by
 unfold iW;simp only[aM];rw[fO (bW _ 4),gY (bW _ 8)]
def Mh (k:Nat)(a:List (List UInt8)):((iW k a).drop 12).take 4=leB (yL (iU a)) 4:=by
 have e:iW k a=(leB (16+(iU a).length) 4++leB k 8)++(leB (yL (iU a)) 4++iU a):=by unfold iW;simp only[aM]
 rw[e,fO (by simp[bW]),gY (bW _ 4)]
def Kc (k:Nat)(a:List (List UInt8)):(iW k a).drop 16=iU a:=by
 unfold iW;rw[fO (by simp[bW])]
def uZ (r:List UInt8)(a:List (List UInt8)):iU (r::a)=leB r.length 4++r++iU a:=by simp[iU]
def Pm (r:List UInt8)(a:List (List UInt8)):(iU (r::a)).take 4=leB r.length 4:=by
 rw[uZ,aM,gY (bW _ 4)]
def RU (r:List UInt8)(a:List (List UInt8)):((iU (r::a)).take (4+r.length)).drop 4=r:=by
 rw[uZ,gY (by simp[bW]),fO (bW _ 4)]
def Pj (r:List UInt8)(a:List (List UInt8)):(iU (r::a)).drop (4+r.length)=iU a:=by
 rw[uZ,fO (by simp[bW])]
def J4 (r:List UInt8)(a:List (List UInt8)):(iU (r::a)).length=4+r.length+(iU a).length:=by
 rw[uZ];simp[bW];omega
def Lj (l:Lg)(z:List UInt8):(l.fJ++z).take 12=magic:=by
 unfold Lg.fJ Lg.mK;simp only[aM];rw[gY (by rfl)]
def Ll (l:Lg)(z:List UInt8)(i:Nat)(b:i<5):((l.fJ++z).drop (12+8*i)).take 8=leB (l.fields.getD i 0) 8:=by
 have e:l.fJ++z=magic++(leB l.frm 8++(leB l.n 8++(leB l.start 8++(leB l.first 8++(leB l.synced 8++(leB (yL l.mK) 4++z)))))):=by
  unfold Lg.fJ;generalize yL l.mK=s;rw[Lg.mK];simp only[aM]
 rw[e];have a:magic.length=12:=rfl;rw[show 12+8*i=magic.length+8*i by rw[a],<-kK,vH]
 match i,b with
 |0,_=>exact gY (bW _ 8)
 |1,_=>rw[fO (bW _ 8)];exact gY (bW _ 8)
 |2,_=>
  rw[show 8*2=8+8 from rfl,<-kK,fO (bW _ 8),fO (bW _ 8)];exact gY (bW _ 8)
 |3,_=>
  rw[show 8*3=8+(8+8) from rfl,<-kK,<-kK,fO (bW _ 8),fO (bW _ 8),fO (bW _ 8)];exact gY (bW _ 8)
 |4,_=>
  rw[show 8*4=8+(8+(8+8)) from rfl,<-kK,<-kK,<-kK,fO (bW _ 8),fO (bW _ 8),fO (bW _ 8),fO (bW _ 8)];exact gY (bW _ 8)
def OB (l:Lg)(z:List UInt8):(l.fJ++z).take 52=l.mK:=by
 unfold Lg.fJ;rw[aM,gY l.pM]
def Q0 (l:Lg)(z:List UInt8):((l.fJ++z).drop 52).take 4=leB (yL l.mK) 4:=by
 unfold Lg.fJ;rw[aM,fO l.pM,gY (bW _ 4)]
def CS (σ:Dk)(s:Nat->List UInt8):Prop:=∃ks:List Bool,s=(σ.rV ks).sec
def tX (s:Nat->List UInt8)(i:Nat)(x:List UInt8):Nat->List UInt8:=fun j=>if i=j then x else s j
def Al (σ:Dk)(P:(Nat->List UInt8)->Prop):Prop:=∀s,CS σ s->P s
def OH (b:List Bool)(a:List (Nat×List UInt8))(p:Nat×List UInt8):kept b (a++[p])=kept b a\/kept b (a++[p])=kept b a++[p]:=by
 have h:=xS b (a++[p]) a.length (by simp);rw[aJ (by simp),iN] at h;rw[h]
 split
 ·right;simp
 ·left;simp
def Fy:∀a:List (Nat×List UInt8),kept (List.replicate a.length true) a=a
 |[]=>rfl
 |p::a=>by
  rw[bn,List.replicate_succ]
  simp only[kept,iX]
  rw[Fy a]
def CS.get (a:Dk):CS a a.get:=⟨List.replicate a.waits.length true,by
 funext i
 show _=behind (kept _ a.waits) i (a.sec i)
 rw[Fy];rfl⟩
def CS.none {a:Dk}{s:Nat->List UInt8}(h:CS a s)(b:a.waits=[]):s=a.get:=by
 obtain⟨c,rfl⟩:=h;funext i;show behind (kept c a.waits) i (a.sec i)=behind a.waits i (a.sec i);rw[b,Dx]
def CS.same {b a:Dk}(d:a.sec=b.sec)(c:a.waits=b.waits)(h:CS a s):CS b s:=by
 obtain⟨e,rfl⟩:=h;exact⟨e,by unfold Dk.rV;rw[d,c]⟩
def CS.put {a:Dk}(h:CS (a.put i l) s):CS a s\/∃c,CS a c/\s=tX c i (pad l):=by
 obtain⟨b,rfl⟩:=h;rcases OH b a.waits (i,pad l) with e|e
 ·left
  refine⟨b,?_⟩;funext j;show behind (kept b (a.waits++[(i,pad l)])) j (a.sec j)=_;rw[e];rfl
 ·right
  refine⟨_,⟨b,rfl⟩,?_⟩;funext j;show behind (kept b (a.waits++[(i,pad l)])) j (a.sec j)=_;rw[e,ow];rfl
def Al.get {a:Dk}(h:Al a P):P a.get:=h _ (CS.get a)
def Al.same {b a:Dk}(h:Al b P)(d:a.sec=b.sec)(c:a.waits=b.waits):Al a P:=fun s e=>h s (e.same d c)
def Al.fK {a:Dk}{P:(Nat->List UInt8)->Prop}(h:Al a P):Al a.fK P:=h.same a.dZ.2.1 a.dZ.2.2
def Al.put {a:Dk}(h:Al a P)(c:∀s,P s->P (tX s i (pad l))):Al (a.put i l) P:=fun s b=>by
 rcases b.put with e|⟨d,e,rfl⟩
 ·exact h s e
 ·exact c _ (h _ e)
def Al.none {a:Dk}{P:(Nat->List UInt8)->Prop}(h:P a.get)(b:a.waits=[]):Al a P:=fun s c=>by
 rw[c.none b];exact h
def Dk.rX (a:Dk)(i:Nat):a.fK.get i=a.get i:=by unfold Dk.get;rw[a.dZ.2.1,a.dZ.2.2]
def Av {a:Dk}(b:a.dead=false)(d:i<a.n)(c:l.length<=512):
  (a.write i l=(a.fK.put i l,0)/\a.fK.dead=false)\/(a.write i l=(a.fK,10)/\a.fK.dead=true):=by
 unfold Dk.write;rw[b,if_neg (by simp),if_neg (by omega),if_neg (by omega)];cases h:a.fK.dead with
 |true=>right;rw[if_pos rfl];exact⟨rfl,rfl⟩
 |false=>left;rw[if_neg (by simp)];exact⟨by simp,rfl⟩
def CK {a:Dk}(b:a.dead=false):(a.sync=(a.fK.flush,0)/\a.fK.dead=false)\/(a.sync=(a.fK,10)/\a.fK.dead=true):=by
 unfold Dk.sync;rw[b,if_neg (by simp)];cases h:a.fK.dead with
 |true=>right;rw[if_pos rfl];exact⟨rfl,rfl⟩
 |false=>left;rw[if_neg (by simp)];exact⟨rfl,rfl⟩
def Ej (s:Nat->List UInt8)(l:Lg)(at_:Nat)(B:List UInt8):Prop:=
 ∃Z:List UInt8,Z.length=(B.length+511)/512*512/\Z.take B.length=B/\∀j,j<(B.length+511)/512->s (l.ring (at_+j))=(Z.drop (j*512)).take 512
def Ej.congr {c:Nat->List UInt8}{l b:Lg}{a:Nat}(h:Ej s l a B)(f:b.frm=l.frm)(n:b.n=l.n)(i:∀j,j<(B.length+511)/512->c (l.ring (a+j))=s (l.ring (a+j))):Ej c b a B:=by
 obtain⟨Z,k,g,m⟩:=h;refine⟨Z,k,g,fun j d=> ?_⟩;have e:b.ring (a+j)=l.ring (a+j):=by unfold Lg.ring;rw[f,n]
 rw[e,i j d];exact m j d
def II {l:Lg}{a b:Nat}(i:a<b)(g:b<a+(l.n - 1)):l.ring a≠l.ring b:=by
 unfold Lg.ring;intro e;have e:a%(l.n - 1)=b%(l.n - 1):=by omega
 obtain⟨m,d⟩:=nx (l.n - 1);rw[<-d] at g e;have f:=Nat.div_add_mod a m;have j:=Nat.div_add_mod b m;have c:a/m<=b/m:=NE (by omega);rcases Nat.lt_or_eq_of_le c with c|c
 ·have:m*(a/m+1)<=m*(b/m):=oL m c
  rw[Nat.mul_add,aW] at this;omega
 ·rw[c] at f;omega
def vT (l:Lg)(a:Nat)(h:2<=l.n)(b:l.frm=0):0<l.ring a/\l.ring a<l.n:=by
 unfold Lg.ring;have:=mZ a (by omega:0<l.n - 1);omega
def MU {l:Lg}{a b m:Nat}(c:a+k<=b)(d:b+m<=a+(l.n - 1)){j:Nat}(g:i<k)(f:j<m):l.ring (b+j)≠l.ring (a+i):=fun e=>II (l:=l) (a:=a+i) (b:=b+j) (by omega) (by omega) e.symm
def kU:Nat->List (List (List UInt8))->List (Nat×Nat)
 |_,[]=>[]
 |k,b::r=>(k,dS b)::kU (k+1) r
def yA:∀(r:List (List (List UInt8))) (k:Nat),(kU k r).length=r.length
 |[],_=>rfl
 |b::r,k=>by rw[kU,bn,bn,yA r]
def wI:∀(r:List (List (List UInt8))) (k:Nat) (b:List (List UInt8)),kU k (r++[b])=kU k r++[(k+r.length,dS b)]
 |[],_,_=>rfl
 |c::r,k,b=>by
  rw[kZ,kU,wI r,kU,bn,kZ]
  congr 4
  omega
def wH:∀(r:List (List (List UInt8))) (k i:Nat),(kU k r).take i=kU k (r.take i)
 |[],_,i=>by simp[kU]
 |b::r,k,0=>by simp[kU]
 |b::r,k,i+1=>by rw[kU,jq,wH r,jq,kU]
def wide (r:List (List (List UInt8))):Nat:=(r.map dS).sum
def Bn (a b:List (List (List UInt8))):wide (a++b)=wide a+wide b:=by simp[wide]
def yU:∀(r:List (List (List UInt8))) (k:Nat),((kU k r).map (·.2)).sum=wide r
 |[],_=>rfl
 |b::r,k=>by rw[kU,dK,qg,yU r];simp[wide]
def zN (b:List (List UInt8)):1<=dS b:=by unfold dS;omega
def uM (k:Nat)(b:List (List UInt8)):((iW k b).length+511)/512=dS b:=by rw[tK];rfl
def Cu:∀r:List (List (List UInt8)),r.length<=wide r
 |[]=>aD _
 |b::r=>by
  have:=Cu r;have:=zN b
  have e:wide (b::r)=dS b+wide r:=by simp[wide]
  rw[e,bn];omega
def Az (r:List (List (List UInt8)))(i:Nat):wide (r.take i)<=wide r:=by
 have h:wide r=wide (r.take i)+wide (r.drop i):=by rw[<-Bn,bJ]
 omega
def EP (r:List (List (List UInt8)))(i:Nat)(h:i<r.length):wide (r.take (i+1))=wide (r.take i)+dS r[i]:=by
 rw[aL h,Bn];simp[wide]
def pQ (s:Nat->List UInt8)(l:Lg)(k:Nat)(bs:List (List (List UInt8))):Prop:=
 ∀i (h:i<bs.length),Ej s l (l.start+wide (bs.take i)) (iW (k+i) bs[i])
def pQ.congr {d:Nat->List UInt8}{l b:Lg}(h:pQ s l k a)(f:b.frm=l.frm)(n:b.n=l.n)(c:b.start=l.start)(m:∀j,j<wide a->d (l.ring (l.start+j))=s (l.ring (l.start+j))):pQ d b k a:=fun i e=>by
 rw[c]
 refine(h i e).congr f n fun j g=> ?_
 rw[uM] at g
 have p:=EP a i e
 have o:=Az a (i+1)
 rw[mP]
 exact m _ (by omega)
def pQ.set {l:Lg}(h:pQ s l k a){x:List UInt8}(c:∀j,j<wide a->i≠l.ring (l.start+j)):pQ (tX s i x) l k a:=
 h.congr rfl rfl rfl fun j b=>by unfold tX;rw[if_neg (c j b)]
def pQ.take {l:Lg}(h:pQ s l k a)(m:Nat):pQ s l k (a.take m):=fun i c=>by
 rw[aH] at c
 have b:=h i (by omega)
 rw[dz,bK (by omega),lT]
 exact b
def pQ.snoc {l:Lg}(h:pQ s l k a){b:List (List UInt8)}(d:Ej s l (l.start+wide a) (iW (k+a.length) b)):pQ s l k (a++[b]):=fun i e=>by
 rw[ay,dN] at e
 by_cases c:i<a.length
 ·rw[bI (by omega),Et c]
  exact h i c
 ·obtain rfl:i=a.length:=by omega
  rw[iN,sj (by omega)]
  simpa using d
structure qC (s:Nat->List UInt8)(l:Lg)(bs:List (List (List UInt8))):Prop where
 ok:l.Ok
 dead:l.dead=false
 frm:l.frm=0
 mark:s 0=pad l.fJ
 tQ:l.synced=l.last
 list:l.list=kU (l.last+1 - bs.length) bs
 len:bs.length<=l.last
 on:pQ s l (l.last+1 - bs.length) bs
def rR {l:Lg}{bs:List (List (List UInt8))}(h:l.list=kU (l.last+1 - bs.length) bs)(a:bs.length<=l.last):l.first=l.last+1 - bs.length:=by
 unfold Lg.first;cases bs with
 |nil=>rw[h];rfl
 |cons b r=>rw[h];rfl
def I8 {l a:Lg}(h:a.fields=l.fields):a.fJ=l.fJ:=by
 unfold Lg.fields at h;simp only[nW,and_true] at h;obtain⟨d,b,f,c,e⟩:=h;unfold Lg.fJ Lg.mK;rw[d,b,f,c,e]
def findAll (ims:List Im)(b:Nat):Option (List UInt8):=ims.foldl (fun o im=>(im.find b).or o) none
def zZ (a:List Im)(c:Im)(b:Nat):findAll (a++[c]) b=(c.find b).or (findAll a b):=by
 unfold findAll;rw[Ep];rfl
def pG (ims:List Im)(H:Nat->List UInt8)(b:Nat):List UInt8:=(findAll ims b).getD (H b)
def Im.Ok.over {m b:Im}(h:m.Ok n)(c:b.Ok n):(m.over b).Ok n:=by
 unfold Im.over;refine⟨Im.AV _ _ _ h.rise,fun k a=> ?_,fun k a=> ?_⟩
 ·rcases (Im.xV _ _ _ _).1 a with e|e
  ·exact h.hi k e
  ·exact c.hi k e
 ·rw[Im.wG]
  split
  ·rename_i e;exact c.img k e
  ·rename_i e
   exact h.img k (((Im.xV _ _ _ _).1 a).resolve_right e)
structure Im.Pz (im:Im)(N:Nat):Prop where
 ok:im.Ok N
 lo:0<im.ks.length
 hi:im.ks.length<=1024
def gJ (ims:List Im):List (List (List UInt8)):=ims.map Im.bH
def sZ (s:Nat->List UInt8)(L N k:Nat)(C:Nat->List UInt8):Prop:=
 ∃(l:Lg) (ims:List Im),qC s l (gJ ims)/\l.n=L/\l.last=k/\(∀im∈ims,im.Pz N)/\∀b,b<N->C b=pG ims (fun b=>s (L+b)) b
def sZ.congr {L N:Nat}{C c:Nat->List UInt8}(h:sZ s L N k C)(m:∀b,b<N->c b=C b):sZ s L N k c:=by
 obtain⟨l,a,g,e,j,f,i⟩:=h;exact⟨l,a,g,e,j,f,fun b d=>(m b d).trans (i b d)⟩
def Lg.tQ (l:Lg)(m:Nat):Nat:=l.synced+m - l.last
structure Ph (l:Lg)(mark:List UInt8)(ims:List Im)(m L N:Nat)(H:Nat->List UInt8)(s:Nat->List UInt8):Prop where
 mark:s 0=pad mark
 on:pQ s l (l.last+1 - ims.length) ((gJ ims).take m)
 home:∀b,b<N->s (L+b)=H b
structure Rest (σ:Dk)(l:Lg)(p:Pg)(ims:List Im):Prop where
 lok:l.Ok
 pok:p.Ok σ l
 list:l.list=kU (l.last+1 - ims.length) (gJ ims)
 len:ims.length<=l.last
 tQ:l.last<=l.synced+ims.length
 bat:∀im∈ims,im.Pz (p.blocks σ)
 on:pQ σ.get l (l.last+1 - ims.length) (gJ ims)
 all:Al σ (Ph l l.fJ ims (l.tQ ims.length) p.skip (p.blocks σ) (fun b=>σ.get (p.skip+b)))
 fresh:∀b,p.fresh.find b=findAll ims b
 cap:σ.waits.length<=l.used
 wt:l.synced=l.last->σ.waits=[]
def dH (a:List Im):(gJ a).length=a.length:=by simp[gJ]
def BI (a:List Im)(m:Nat):(gJ a).take m=gJ (a.take m):=by simp[gJ,gI]
def DU:∀(r:List (List (List UInt8))) (k:Nat) (e:Nat×Nat),e∈kU k r->1<=e.2/\k<=e.1/\e.1<k+r.length
 |[],_,_,h=>by cases h
 |b::r,k,e,h=>by
  rcases bO.1 h with rfl|h
  ·exact⟨zN b,aD _,by simp⟩
  ·have:=DU r (k+1) e h
   rw[bn]
   omega
def Ph.recs {l:Lg}{a:List Im}{m L N:Nat}{H:Nat->List UInt8}{l':Lg}(h:Ph l l'.fJ a m L N H s)(d:l.Ok)(z:l.frm=0)(y:l.n=L)(g:l.list=kU (l.last+1 - a.length) (gJ a))(i:a.length<=l.last)(n:∀r∈a,r.Pz N)
  (x:l'.fields=[l.frm,l.n,l.start,l.first,l'.synced]) (D:l'.synced+a.length=l.last+m) (k:m<=a.length):sZ s L N l'.synced (pG (a.take m) H):=by
 have p:({l with list:=l.list.take m,used:=((l.list.take m).map (·.2)).sum,last:=l'.synced,synced:=l'.synced,dead:=false}:Lg).list=kU (l'.synced+1 - (a.take m).length) (gJ (a.take m)):=by
  show l.list.take m=_;rw[g,wH,BI,aH,bK k];congr 1;omega
 have f:(a.take m).length=m:=by rw[aH,bK k]
 have c:=rR (l:=({l with list:=l.list.take m,used:=((l.list.take m).map (·.2)).sum,last:=l'.synced,synced:=l'.synced,dead:=false}:Lg)) (bs:=gJ (a.take m)) (by rw[dH];exact p) (by rw[dH,f];show m<=l'.synced;omega);have j:=rR (l:=l) (bs:=gJ a) (by rw[dH];exact g) (by rw[dH];exact i);rw[dH] at j;rw[dH,f] at c;have o:((l.list.take m).map (·.2)).sum<=l.n - 1:=by
  have e:=d.sum;have C:=d.us;have:l.list=l.list.take m++l.list.drop m:=(bJ m l.list).symm;rw[this,bT,kV] at e;omega
 refine⟨({l with list:=l.list.take m,used:=((l.list.take m).map (·.2)).sum,last:=l'.synced,synced:=l'.synced,dead:=false}:Lg),a.take m,⟨⟨d.n2,d.hi,d.st,o,?_,aD _,?_,rfl⟩,rfl,z,?_,rfl,by rw[dH];exact p,by rw[dH,f];show m<=l'.synced;omega,?_⟩,y,rfl,fun r A=>n r (eT A),fun b v=> ?_⟩
 ·have:=d.la;show l'.synced<=_;omega
 ·intro e B
  have q:e∈kU (l'.synced+1 - (a.take m).length) (gJ (a.take m)):=by rw[<-p];exact B
  have:=DU _ _ _ q;rw[dH,f] at this;refine⟨this.1,?_⟩;show e.1<=l'.synced;omega
 ·rw[h.mark]
  congr 1;refine(I8 ?_).symm;rw[x];unfold Lg.fields;rw[c,j];show [l.frm,l.n,l.start,l'.synced+1 - m,l'.synced]=_;congr 4;omega
 ·have t:=h.on
  rw[BI] at t;rw[dH,f];have e:l'.synced+1 - m=l.last+1 - a.length:=by omega
  show pQ s _ (l'.synced+1 - m) _;rw[e];exact t.congr rfl rfl rfl fun _ _=>rfl
 ·unfold pG
  show _=(findAll (List.take m a) b).getD (s (L+b));rw[h.home b v]
def qN (s:Nat->List UInt8)(l:Lg)(ims:List Im)(L N:Nat)(H:Nat->List UInt8)(k:Nat):Prop:=sZ s L N k (pG (ims.take (k+ims.length - l.last)) H)
def Rest.recs {c:Dk}{l:Lg}{p:Pg}{a:List Im}(h:Rest c l p a):Al c fun s=>qN s l a p.skip (p.blocks c) (fun b=>c.get (p.skip+b)) l.synced:=fun s d=>by
 have e:=h.lok.sy
 have:=h.tQ
 exact(h.all s d).recs (l':=l) h.lok h.pok.frm h.pok.skip.symm h.list h.len h.bat rfl (by unfold Lg.tQ;omega) (by unfold Lg.tQ;omega)
def I7 {a:Dk}(l:Lg)(m:a.dead=false)(r:l.frm<a.n):
  (∃b,l.mark a=(b,l,0)/\b.dead=false/\(a.fuel= -1->b.fuel= -1)/\b.n=a.n/\b.waits=[]/\∀x,b.get x=if l.frm=x then pad l.fJ else a.get x)\/
  (∃b,l.mark a=(b,l.dies,10)/\b.dead=true/\a.fuel≠-1/\b.n=a.n/\∀s,CS b s->∃i,CS a i/\(s=i\/s=tX i l.frm (pad l.fJ))):=by
 have g:=a.dZ.1;have c:∀j:Dk,j.dead=false->j.fuel= -1->j.fK.dead=false/\j.fK.fuel= -1:=fun j q p=>by rw[Dk.oK.fK ⟨q,p⟩];exact⟨q,p⟩
 unfold Lg.mark;rcases Av m r (by rw[l.zP];omega:l.fJ.length<=512) with ⟨e,n⟩|⟨e,n⟩
 ·rw[e]
  dsimp only;rw[if_pos rfl];have f:(a.fK.put l.frm l.fJ).dead=false:=n;rcases CK f with ⟨o,d⟩|⟨o,d⟩
  ·rw[o]
   dsimp only;rw[if_pos rfl];refine .inl ⟨_,rfl,d,fun h=> ?_,?_,rfl,fun x=> ?_⟩
   ·exact(c _ f (c a m h).2).2
   ·show (a.fK.put l.frm l.fJ).fK.n=a.n
    exact(Dk.dZ _).1.trans g
   ·rw[Dk.oO,Dk.rX,Dk.get_put,a.rX]
  ·rw[o]
   dsimp only;rw[if_neg (by omega)];refine .inr ⟨_,rfl,d,fun h=> ?_,?_,fun s k=> ?_⟩
   ·have:=(c _ f (c a m h).2).1
    rw[d] at this;cases this
   ·exact(Dk.dZ _).1.trans g
   ·have k:=k.same (Dk.dZ (a.fK.put l.frm l.fJ)).2.1 (Dk.dZ _).2.2
    rcases k.put with e|⟨i,e,rfl⟩
    ·exact⟨s,e.same a.dZ.2.1 a.dZ.2.2,.inl rfl⟩
    ·exact⟨i,e.same a.dZ.2.1 a.dZ.2.2,.inr rfl⟩
 ·rw[e]
  dsimp only;rw[if_neg (by omega)];refine .inr ⟨_,rfl,n,fun h=> ?_,g,fun s k=>⟨s,k.same a.dZ.2.1 a.dZ.2.2,.inl rfl⟩⟩;have:=(c a m h).1;rw[n] at this;cases this
def iT (b0 b1 b2 b3 b4 b5 b6 b7:Bool):Nat:=b0.toNat+2*b1.toNat+4*b2.toNat+8*b3.toNat+16*b4.toNat+32*b5.toNat+64*b6.toNat+128*b7.toNat
def RS (d b g i f c e a:Bool):iT d b g i f c e a<256:=by
 unfold iT;have:=d.toNat_le;have:=b.toNat_le;have:=g.toNat_le;have:=i.toNat_le;have:=f.toNat_le;have:=c.toNat_le;have:=e.toNat_le;have:=a.toNat_le;omega
def fZ (f:Nat->Bool)(i:Nat):Nat:=iT (f (8*i)) (f (8*i+1)) (f (8*i+2)) (f (8*i+3)) (f (8*i+4)) (f (8*i+5)) (f (8*i+6)) (f (8*i+7))
def rW (f:Nat->Bool)(i:Nat):fZ f i<256:=RS _ _ _ _ _ _ _ _
def bytesOf (f:Nat->Bool):List UInt8:=(List.range 512).map fun i=>UInt8.ofNat (fZ f i)
def bytesOf_length (f:Nat->Bool):(bytesOf f).length=512:=by simp[bytesOf]
def Ed (f:Nat->Bool)(i:Nat)(a:i<512):(bytesOf f)[i]? =some (UInt8.ofNat (fZ f i)):=by
 simp[bytesOf,a]
def Dq (f:Nat->Bool)(i:Nat):(UInt8.ofNat (fZ f i)).toNat=fZ f i:=by
 rw[fC,oW (rW f i)]
def Pq (b0 b1 b2 b3 b4 b5 b6 b7:Bool)(j:Nat):Bool:=match j with|0=>b0|1=>b1|2=>b2|3=>b3|4=>b4|5=>b5|6=>b6|_=>b7
def Wq (f:Nat->Bool)(b:Nat):Pq (f (8*(b/8))) (f (8*(b/8)+1)) (f (8*(b/8)+2)) (f (8*(b/8)+3)) (f (8*(b/8)+4)) (f (8*(b/8)+5)) (f (8*(b/8)+6)) (f (8*(b/8)+7)) (b%8)=f b:=by
 have h:=mZ b (show 8>0 by decide);have e:b=8*(b/8)+b%8:=by omega
 generalize b%8=j at*;generalize b/8=i at*;subst e
 match j,h with
 |0,_=>rfl
 |1,_=>rfl
 |2,_=>rfl
 |3,_=>rfl
 |4,_=>rfl
 |5,_=>rfl
 |6,_=>rfl
 |7,_=>rfl
def TS:∀(d b g i f c e a:Bool) (j:Fin 8),iT d b g i f c e a/2^j.val%2=(Pq d b g i f c e a j.val).toNat:=by decide+kernel
def Pd (f:Nat->Bool)(b:Nat):fZ f (b/8)/2^(b%8)%2=(f b).toNat:=by
 have h:=mZ b (show 8>0 by decide);have:=TS (f (8*(b/8))) (f (8*(b/8)+1)) (f (8*(b/8)+2)) (f (8*(b/8)+3)) (f (8*(b/8)+4)) (f (8*(b/8)+5)) (f (8*(b/8)+6)) (f (8*(b/8)+7)) ⟨b%8,h⟩;rw[Wq] at this;exact this
def iB (f:Nat->Bool)(b:Nat)(v:Bool):Nat->Bool:=fun x=>if x=b then v else f x
def TR:∀(d b g i f c e a:Bool),bits .or .u8 (iT d b g i f c e a:Nat) 1=(iT true b g i f c e a:Nat)/\bits .or .u8 (iT d b g i f c e a:Nat) 2=(iT d true g i f c e a:Nat)/\bits .or .u8 (iT d b g i f c e a:Nat) 4=(iT d b true i f c e a:Nat)/\bits .or .u8 (iT d b g i f c e a:Nat) 8=(iT d b g true f c e a:Nat)/\
  bits .or .u8 (iT d b g i f c e a:Nat) 16=(iT d b g i true c e a:Nat)/\bits .or .u8 (iT d b g i f c e a:Nat) 32=(iT d b g i f true e a:Nat)/\bits .or .u8 (iT d b g i f c e a:Nat) 64=(iT d b g i f c true a:Nat)/\bits .or .u8 (iT d b g i f c e a:Nat) 128=(iT d b g i f c e true:Nat):=by decide+kernel
def TU:∀(d b g i f c e a:Bool),bits .andNot .u8 (iT d b g i f c e a:Nat) 1=(iT false b g i f c e a:Nat)/\bits .andNot .u8 (iT d b g i f c e a:Nat) 2=(iT d false g i f c e a:Nat)/\bits .andNot .u8 (iT d b g i f c e a:Nat) 4=(iT d b false i f c e a:Nat)/\bits .andNot .u8 (iT d b g i f c e a:Nat) 8=(iT d b g false f c e a:Nat)/\
  bits .andNot .u8 (iT d b g i f c e a:Nat) 16=(iT d b g i false c e a:Nat)/\bits .andNot .u8 (iT d b g i f c e a:Nat) 32=(iT d b g i f false e a:Nat)/\bits .andNot .u8 (iT d b g i f c e a:Nat) 64=(iT d b g i f c false a:Nat)/\bits .andNot .u8 (iT d b g i f c e a:Nat) 128=(iT d b g i f c e false:Nat):=by decide+kernel
def BX (f:Nat->Bool)(b i:Nat)(v:Bool)(h:i≠b/8):fZ (iB f b v) i=fZ f i:=by
 unfold fZ iB;congr 1<;>(rw[if_neg (by omega)])
def Pb (f:Nat->Bool)(b:Nat):bits .or .u8 (fZ f (b/8):Nat) ((2^(b%8):Nat):Int)=(fZ (iB f b true) (b/8):Nat):=by
 have h:=mZ b (show 8>0 by decide);have e:b=8*(b/8)+b%8:=by omega
 generalize a:b%8=j at*;generalize c:b/8=i at*;subst e;have q:=TR (f (8*i)) (f (8*i+1)) (f (8*i+2)) (f (8*i+3)) (f (8*i+4)) (f (8*i+5)) (f (8*i+6)) (f (8*i+7));unfold fZ iB
 match j,h with
 |0,_=>simpa using q.1
 |1,_=>simpa using q.2.1
 |2,_=>simpa using q.2.2.1
 |3,_=>simpa using q.2.2.2.1
 |4,_=>simpa using q.2.2.2.2.1
 |5,_=>simpa using q.2.2.2.2.2.1
 |6,_=>simpa using q.2.2.2.2.2.2.1
 |7,_=>simpa using q.2.2.2.2.2.2.2
def Pe (f:Nat->Bool)(b:Nat):bits .andNot .u8 (fZ f (b/8):Nat) ((2^(b%8):Nat):Int)=(fZ (iB f b false) (b/8):Nat):=by
 have h:=mZ b (show 8>0 by decide);have e:b=8*(b/8)+b%8:=by omega
 generalize a:b%8=j at*;generalize c:b/8=i at*;subst e;have q:=TU (f (8*i)) (f (8*i+1)) (f (8*i+2)) (f (8*i+3)) (f (8*i+4)) (f (8*i+5)) (f (8*i+6)) (f (8*i+7));unfold fZ iB
 match j,h with
 |0,_=>simpa using q.1
 |1,_=>simpa using q.2.1
 |2,_=>simpa using q.2.2.1
 |3,_=>simpa using q.2.2.2.1
 |4,_=>simpa using q.2.2.2.2.1
 |5,_=>simpa using q.2.2.2.2.2.1
 |6,_=>simpa using q.2.2.2.2.2.2.1
 |7,_=>simpa using q.2.2.2.2.2.2.2
def JY (f:Nat->Bool)(b:Nat)(v:Bool)(c:b<4096):(bytesOf f).set (b/8) (UInt8.ofNat (fZ (iB f b v) (b/8)))=bytesOf (iB f b v):=by
 apply List.ext_getElem?;intro i;rw[List.getElem?_set]
 by_cases h:b/8=i
 ·subst h
  rw[if_pos rfl,if_pos (by rw[bytesOf_length];omega),Ed _ _ (by omega)]
 ·rw[if_neg h]
  unfold bytesOf;rw[eZ,eZ];rcases gH i 512 with a|a
  ·rw[List.getElem?_range a]
   simp only[iJ];rw[BX f b i v (fun e=>h e.symm)]
  ·simp[a]
def countB (f:Nat->Bool)(n:Nat):Nat:=((List.range n).filter f).length
def Ox:∀(d b g i f c e a:Bool),Lib.onesCount (iT d b g i f c e a)=d.toNat+b.toNat+g.toNat+i.toNat+f.toNat+c.toNat+e.toNat+a.toNat:=by decide+kernel
def fP (f:Nat->Bool)(n:Nat):countB f (n+1)=countB f n+(f n).toNat:=by
 unfold countB;rw[List.range_succ,BO,ay];cases h:f n<;>simp[h]
def JR (f:Nat->Bool)(i:Nat):countB f (8*(i+1))=countB f (8*i)+Lib.onesCount (fZ f i):=by
 have e:8*(i+1)=8*i+1+1+1+1+1+1+1+1:=by omega
 rw[e];simp only[fP];unfold fZ;rw[Ox];omega
def countB_le (f:Nat->Bool)(n:Nat):countB f n<=n:=by
 unfold countB;have:=xw f (List.range n);simpa using this
def QU:∀(d b g i f c e a:Bool),iT d b g i f c e a≠255->Lib.trailingZeros8 (255 - iT d b g i f c e a)<8/\Pq d b g i f c e a (Lib.trailingZeros8 (255 - iT d b g i f c e a))=false/\∀j:Fin 8,j.val<Lib.trailingZeros8 (255 - iT d b g i f c e a)->Pq d b g i f c e a j.val=true:=by decide+kernel
def OQ:∀(d b g i f c e a:Bool),iT d b g i f c e a=255->∀j:Fin 8,Pq d b g i f c e a j.val=true:=by decide+kernel
def RV (f:Nat->Bool)(i j:Nat)(a:j<8):Pq (f (8*i)) (f (8*i+1)) (f (8*i+2)) (f (8*i+3)) (f (8*i+4)) (f (8*i+5)) (f (8*i+6)) (f (8*i+7)) j=f (8*i+j):=by
 have:=Wq f (8*i+j);rwa [show (8*i+j)/8=i by omega,show (8*i+j)%8=j by omega] at this
def JZ (f:Nat->Bool)(i:Nat)(h:fZ f i≠255):Lib.trailingZeros8 (255 - fZ f i)<8/\f (8*i+Lib.trailingZeros8 (255 - fZ f i))=false/\∀j,j<Lib.trailingZeros8 (255 - fZ f i)->f (8*i+j)=true:=by
 obtain⟨b,d,e⟩:=QU _ _ _ _ _ _ _ _ h;refine⟨b,?_,fun j c=> ?_⟩
 ·have:=RV f i _ b
  exact this.symm.trans d
 ·have a:j<8:=nX c b
  exact(RV f i j a).symm.trans (e ⟨j,a⟩ c)
def Md (f:Nat->Bool)(i:Nat)(h:fZ f i=255)(j:Nat)(a:j<8):f (8*i+j)=true:=
 (RV f i j a).symm.trans (OQ _ _ _ _ _ _ _ _ h ⟨j,a⟩)
def Vl (b c:Bool)(n m:Nat):(b.toNat+2*n)|||(c.toNat+2*m)=(b||c).toNat+2*(n|||m):=by
 have h:∀(x:Bool) (k:Nat),(x.toNat+2*k)/2=k/\(x.toNat+2*k)%2=x.toNat:=by
  intro x k;have:=x.toNat_le;omega
 apply Nat.eq_of_testBit_eq;intro i;rw[Nat.testBit_or];cases i with
 |zero=>
  simp only[Nat.testBit_zero,(h _ _).2];cases b<;>cases c<;>rfl
 |succ i=>simp only[Nat.testBit_succ,(h _ _).1,Nat.testBit_or]
def yZ (a d g e b i c f:Bool):iT a d g e b i c f=a.toNat+2*(d.toNat+2*(g.toNat+2*(e.toNat+2*(b.toNat+2*(i.toNat+2*(c.toNat+2*f.toNat)))))):=by
 unfold iT;omega
def RQ (d i j n c p q b g e l o m f k a:Bool):iT d i j n c p q b|||iT g e l o m f k a=iT (d||g) (i||e) (j||l) (n||o) (c||m) (p||f) (q||k) (b||a):=by
 rw[yZ,yZ,yZ];simp only[Vl];cases b<;>cases a<;>rfl
def RP (f g:Nat->Bool)(i:Nat):fZ f i|||fZ g i=fZ (fun x=>f x||g x) i:=RQ _ _ _ _ _ _ _ _ _ _ _ _ _ _ _ _
theorem QT (x:Int)(w:World)(d:0<=x)(c:x<=255):
  Calls Tryz.prog 101 #[.int .u8 x] w fun e b=>e= .returned (.int .i64 (Lib.onesCount x.toNat))/\b=w:=by
 have a:wrap64 (Lib.pop8 x)=(Lib.onesCount x.toNat:Int):=by
  have e:=Lib.pop8_int x d c;generalize Lib.pop8 x=y at e ⊢;unfold wrap64;exact e
 go_enter Tryz.func101,Tryz.ntmps101
 go_wp2
 rw[a];go_ret;exact⟨rfl,rfl⟩
theorem TD (x:Int)(w:World)(d:0<=x)(c:x<=255):
  Calls Tryz.prog 261 #[.int .u8 x] w fun e b=>e= .returned (.int .i64 (Lib.trailingZeros8 x.toNat))/\b=w:=by
 have a:wrap64 (Lib.ntz8 x)=(Lib.trailingZeros8 x.toNat:Int):=by
  have e:=Lib.ntz8_int x d c;generalize Lib.ntz8 x=y at e ⊢;unfold wrap64;exact e
 go_enter Tryz.func261,Tryz.ntmps261
 go_wp2
 rw[a];go_ret;exact⟨rfl,rfl⟩
def has_eq (f:Nat->Bool)(b:Nat):(bits .and .u8 (((fZ f (b/8):Nat):Int)/2^(b%8)) 1==1)=f b:=by
 have h:=Pd f b;have c:=rW f (b/8);have e:(((fZ f (b/8):Nat):Int)/2^(b%8))=((fZ f (b/8)/2^(b%8):Nat):Int):=by
  rw[Int.natCast_ediv,Int.natCast_pow];rfl
 have a:fZ f (b/8)/2^(b%8)<256:=Nat.lt_of_le_of_lt (Nat.div_le_self _ _) c;rw[e];have:=u8_and_nat (fZ f (b/8)/2^(b%8)) 1 a (by omega);rw[show ((1:Nat):Int)=1 from rfl] at this;rw[this,Nat.and_one_is_mod,h];cases f b<;>rfl
theorem Ws (d a:Nat)(f:Nat->Bool)(b:Nat)(w:World)(l:b<4096)(j:w.cell? ⟨d,a+b/8,none⟩=some (.int .u8 (fZ f (b/8)))):
  Calls Tryz.prog 100 #[.pointer (some ⟨d,a,none⟩),.int .i64 b] w fun e i=>e= .returned (.bool (f b))/\i=w:=by
 have c:=aF w _ j;have g:d<w.heap.size:=c;have k:=ah (has_eq f b);go_enter Tryz.func100,Tryz.ntmps100
 go_wp2
 rw[k.out];go_ret;exact⟨rfl,rfl⟩
def M4 (j:Nat)(a:j<8):IntKind.u8.wrap ((1:Int)*2^j)=((2^j:Nat):Int):=by
 match j,a with
 |0,_=>rfl
 |1,_=>rfl
 |2,_=>rfl
 |3,_=>rfl
 |4,_=>rfl
 |5,_=>rfl
 |6,_=>rfl
 |7,_=>rfl
theorem WL (c a:Nat)(f:Nat->Bool)(b:Nat)(w:World)(E:b<4096)(o:w.cell? ⟨c,a+b/8,none⟩=some (.int .u8 (fZ f (b/8))))(n:w.frozen? ⟨c,a+b/8,none⟩=false):
  Calls Tryz.prog 262 #[.pointer (some ⟨c,a,none⟩),.int .i64 b] w fun e r=>e= .returned (.tuple #[])/\r=w.drew.setCell ⟨c,a+b/8,none⟩ (.int .u8 (fZ (iB f b true) (b/8))):=by
 have d:=aF w _ o;have p:c<w.drew.heap.size:=d;have l:=Pb f b;obtain⟨F,k⟩:=nm (fZ (iB f b true) (b/8));rw[k.out] at l ⊢;obtain⟨B,m⟩:=nm (fZ f (b/8));rw[m.out] at l o;have x:IntKind.i64.wrap ((b:Int)/8)=((b/8:Nat):Int):=by rw[aG _ (by omega)];omega
 have D:Int.tmod (b:Int) 8=((b%8:Nat):Int):=by rw[BP (by omega)];omega
 have g:b%8<8:=by omega
 have A:=M4 (b%8) g;have t:b/8<512:=by omega
 generalize b%8=j at*;generalize b/8=i at*;have s:(i:Int)<512:=by omega
 have v:w.drew.cell? ⟨c,a+i,none⟩=some (.int .u8 B):=o;have z:w.drew.frozen? ⟨c,a+i,none⟩=false:=n;go_enter Tryz.func262,Tryz.ntmps262;go_wp2_with fail;refine aP (fun W=>W=w.drew) (fun i=> !([12].contains i)) [0,1,2,3,4,5,6,7,8,9,10,11,12] rfl (by kernel_rfl) rfl ?_
 repeat (refine oq ?_ rfl rfl rfl ?_ ?_;rotate_left;(focus intro W q;(try dsimp only at q);subst q;(try rw[x]);(try rw[D]);go_simp;first|done|with_reducible rfl);try simp only[Act.put,aj,au,ak])
 have C:IntKind.u8.wrap ((2:Int)^j)=((2^j:Nat):Int):=by
  simpa using A
 rw[C,l];refine jC rfl rfl rfl (by kernel_rfl) ?_;intro K y;go_simp;refine y.out _ _ ?_;refine bR ?_;go_wp2_with fail;go_end0;exact⟨rfl,rfl⟩
theorem WM (c a:Nat)(f:Nat->Bool)(b:Nat)(w:World)(E:b<4096)(o:w.cell? ⟨c,a+b/8,none⟩=some (.int .u8 (fZ f (b/8))))(n:w.frozen? ⟨c,a+b/8,none⟩=false):
  Calls Tryz.prog 260 #[.pointer (some ⟨c,a,none⟩),.int .i64 b] w fun e r=>e= .returned (.tuple #[])/\r=w.drew.setCell ⟨c,a+b/8,none⟩ (.int .u8 (fZ (iB f b false) (b/8))):=by
 have d:=aF w _ o;have p:c<w.drew.heap.size:=d;have l:=Pe f b;obtain⟨F,k⟩:=nm (fZ (iB f b false) (b/8));rw[k.out] at l ⊢;obtain⟨B,m⟩:=nm (fZ f (b/8));rw[m.out] at l o;have x:IntKind.i64.wrap ((b:Int)/8)=((b/8:Nat):Int):=by rw[aG _ (by omega)];omega
 have D:Int.tmod (b:Int) 8=((b%8:Nat):Int):=by rw[BP (by omega)];omega
 have g:b%8<8:=by omega
 have A:=M4 (b%8) g;have t:b/8<512:=by omega
 generalize b%8=j at*;generalize b/8=i at*;have s:(i:Int)<512:=by omega
 have v:w.drew.cell? ⟨c,a+i,none⟩=some (.int .u8 B):=o;have z:w.drew.frozen? ⟨c,a+i,none⟩=false:=n;go_enter Tryz.func260,Tryz.ntmps260;go_wp2_with fail;refine aP (fun W=>W=w.drew) (fun i=> !([12].contains i)) [0,1,2,3,4,5,6,7,8,9,10,11,12] rfl (by kernel_rfl) rfl ?_
 repeat (refine oq ?_ rfl rfl rfl ?_ ?_;rotate_left;(focus intro W q;(try dsimp only at q);subst q;(try rw[x]);(try rw[D]);go_simp;first|done|with_reducible rfl);try simp only[Act.put,aj,au,ak])
 have C:IntKind.u8.wrap ((2:Int)^j)=((2^j:Nat):Int):=by
  simpa using A
 rw[C,l];refine jC rfl rfl rfl (by kernel_rfl) ?_;intro K y;go_simp;refine y.out _ _ ?_;refine bR ?_;go_wp2_with fail;go_end0;exact⟨rfl,rfl⟩
theorem OM (a:List Value)(i:Nat)(n:Int)(d:i<512)(h:a[i]? =some (.int .u8 n))(W:World):(Instr.index 175 (.agg a.toArray) (.int .i64 (i:Int))).run Tryz.prog W= .ok (.int .u8 n) W:=by
 have c:=(dm.1 h).1;have b:(0:Int)<=(i:Int)/\(i:Int)<512:=by omega
 simp[Instr.index,fQ Kt,asIntOf,b,part,go_sem,h];omega
def onesCount_le8 (n:Nat)(h:n<256):Lib.onesCount n<=8:=Lib.onesCount_le8 ⟨n,h⟩
def qi (n:Nat)(now old:Nat->Bool):List Value:= .int .i64 n::(aI (bytesOf now)++aI (bytesOf old))
def qJ (w:World)(mp n:Nat)(now old:Nat->Bool):Prop:=Row w mp 177 (qi n now old)
def qY (f:Nat->Bool)(i:Nat)(a:i<512):(aI (bytesOf f))[i]? =some (.int .u8 (fZ f i)):=by
 unfold aI;rw[eZ,Ed f i a];simp only[iJ,Dq]
def gU (f:Nat->Bool):(aI (bytesOf f)).length=512:=by rw[bP,bytesOf_length]
def I6 (n:Nat)(a b:Nat->Bool)(i:Nat)(c:i<512):(qi n a b)[1+i]? =some (.int .u8 (fZ a i)):=by
 unfold qi;rw[vE,eO,eF (by rw[gU];exact c)];exact qY a i c
def I5 (n:Nat)(b a:Nat->Bool)(i:Nat)(c:i<512):(qi n b a)[513+i]? =some (.int .u8 (fZ a i)):=by
 unfold qi;rw[show 513+i=(512+i)+1 by omega,eO,dA (by rw[gU];omega),gU,dJ];exact qY a i c
def qJ.cells {c:Nat}{a:Nat->Bool}(h:qJ w c n b a):w.cell? ⟨c,0,none⟩=some (.int .i64 n)/\c<w.heap.size/\(∀j,w.frozen? ⟨c,j,none⟩=false)/\(∀i,i<512->w.cell? ⟨c,1+i,none⟩=some (.int .u8 (fZ b i)))/\∀i,i<512->w.cell? ⟨c,513+i,none⟩=some (.int .u8 (fZ a i)):=by
 refine⟨?_,h.lt,h.frozen,fun i d=> ?_,fun i d=> ?_⟩
 ·rw[h.cell];rfl
 ·rw[h.cell];exact I6 n b a i d
 ·rw[h.cell];exact I5 n b a i d
def qJ.keep {w':World}{c:Nat}{a:Nat->Bool}(h:qJ w c n b a)(d:w'.heap[c]? =w.heap[c]?):qJ w' c n b a:=d.trans h
def Mj (l:List UInt8)(i:Nat)(x:UInt8):(aI l).set i (.int .u8 x.toNat)=aI (l.set i x):=by
 unfold aI;rw[List.map_set]
def qJ.set {d:Nat}{a c:Nat->Bool}(h:qJ w d n a c)(b:Nat)(v:Bool)(f:b<4096):qJ (w.setCell ⟨d,1+b/8,none⟩ (.int .u8 (fZ (iB a b v) (b/8)))) d n (iB a b v) c:=by
 have e:(qi n a c).set (1+b/8) (.int .u8 (fZ (iB a b v) (b/8)))=qi n (iB a b v) c:=by
  unfold qi;rw[vE,ak,NF _ _ (by rw[gU];omega)];have:=Mj (bytesOf a) (b/8) (UInt8.ofNat (fZ (iB a b v) (b/8)));rw[Dq,JY a b v f] at this;rw[this]
 unfold qJ Row at*;rw[<-e];simp[World.setCell,aQ,h]
theorem Wh (i n:Nat)(a f:Nat->Bool)(b:Nat)(w:World)(h:qJ w i n a f)(v:n<=4096)(s:b<=4096):
  Calls Tryz.prog 51 #[.pointer (some ⟨i,0,none⟩),.int .i64 b] w fun e l=>e= .returned (.bool (decide (b<n) && a b))/\l=w:=by
 obtain⟨t,k,r,c,_⟩:=h.cells
 by_cases d:b<n
 ·have m:=ah (Ws i 1 a b w (by omega) (c _ (by omega)))
  have q:(0:Int)<=(b:Int):=by omega
  have p:(b:Int)<(n:Int):=by omega
  have g:(decide (b<n) && a b)=a b:=by simp[d]
  rw[g];clear h c;go_enter Tryz.func51,Tryz.ntmps51;go_wp2_with (first|(go_at_call 100;go_must (refine m.out.mono ?_;rintro e j ⟨rfl,o⟩;subst j)))
  go_ret;exact⟨rfl,rfl⟩
 ·have q:(0:Int)<=(b:Int):=by omega
  have p:¬(b:Int)<(n:Int):=by omega
  have g:(decide (b<n) && a b)=false:=by simp[d]
  rw[g];clear h c;go_enter Tryz.func51,Tryz.ntmps51;go_wp2_with fail;go_ret;exact⟨rfl,rfl⟩
theorem Wi (d n:Nat)(a c:Nat->Bool)(b:Nat)(w:World)(h:qJ w d n a c)(v:n<=4096)(t:2<=b)(q:b<n)(f:a b=true):
  Calls Tryz.prog 258 #[.pointer (some ⟨d,0,none⟩),.int .i64 b] w fun e l=>e= .returned (.int .i64 0)/\qJ l d n (iB a b false) c/\Keep (· =d) w l:=by
 have g:=Wh d n a c b w h v (by omega);rw[f,d9 q] at g;have g:=ah g;obtain⟨z,o,k,m,_⟩:=h.cells;have r:=ah (WM d 1 a b w (by omega) (m _ (by omega)) (k _));have s:=ah (qJ.set (w:=w.drew) (show qJ w.drew d n a c from h) b false (by omega));have y:¬(b:Int)<2:=by omega
 have x:¬b<2:=by omega
 clear h m;go_enter Tryz.func258,Tryz.ntmps258;go_wp2_with (first|(go_at_call 51;go_must (refine g.out.mono ?_;rintro e i ⟨rfl,j⟩;subst i))|(go_at_call 260;go_must (refine r.out.mono ?_;rintro e i ⟨rfl,j⟩;subst i)))
 go_ret;exact⟨rfl,s.out,((Keep.refl (· =d) w).drew).setCell (p:=⟨d,1+b/8,none⟩) (.inr rfl) _⟩
def wE:(Tryz.prog.info? 175).map (fun i=>i.size)=some 512:=by kernel_rfl
theorem V9 (g n:Nat)(a j:Nat->Bool)(w:World)(h:qJ w g n a j):
  Calls Tryz.prog 52 #[.pointer (some ⟨g,0,none⟩)] w fun e v=>e= .returned (.int .i64 (countB a 4096))/\v=w:=by
 obtain⟨G,t,x,E,_⟩:=h.cells;have f:w.rangeAt g 1 (aI (bytesOf a)):=Row.range (off:=1) (n:=512) h (by
  unfold qi
  rw[List.drop_one,List.tail_cons,bI (by rw[gU];exact aD _),aJ (by rw[gU];exact aD _)])
 have b:=gU a;have d:=ah (fun i (q:i<512) (W:World)=>OM (aI (bytesOf a)) i _ q (qY a i q) W);obtain⟨C,z⟩:=nm (aI (bytesOf a));rw[z.out] at f b d;have B:=ah b;clear h E b;go_enter Tryz.func52,Tryz.ntmps52;go_wp2_with (first|((refine dV rfl ?_);intro K y;(refine Sr 175 _ rfl g 1 rfl C _ f Kt rfl (wE.trans (congrArg some B.out.symm)) ?_);refine y _ _ ?_))
 go_loopw [3,5,12] (fun s _ i wr=>∃k:Nat,k<=512/\i= .int .i64 k/\s= .int .i64 (countB a (8*k))/\wr=w) (fun _ _ i _=>512 - (intOf i).toNat)
 case atStart=>exact⟨0,by omega,rfl,rfl,rfl⟩
 case round=>
  obtain⟨k,F,rfl,rfl,rfl⟩:=hrel;have D:=countB_le a (8*k)
  by_cases m:k<512
  ·have H:(k:Int)<512:=by omega
   have p:=d.out k m;have c:=QT (fZ a k:Int) wr (by omega) (by have:=rW a k;omega);rw[fE] at c;have o:=ah c;clear c;have l:=ah (JR a k);have b:=onesCount_le8 (fZ a k) (rW a k);go_wp2_with (first|(go_at_call 101;go_must (refine o.out.mono ?_;rintro e r ⟨rfl,A⟩;subst r)))
   go_roundw
   case rel=>exact⟨k+1,by omega,by go_num,by rw[l.out];go_num,by trivial⟩
   case measure=>simp[intOf];omega
  ·obtain rfl:k=512:=by omega
   go_wp2_with fail;go_ret;exact⟨rfl,rfl⟩
def qJ.below {w':World}{c:Nat}{a:Nat->Bool}(h:qJ w c n b a)(d:Below w.heap.size w w'):qJ w' c n b a:=h.keep (d.block _ h.lt)
def UE:∀a:Fin 256,255^^^a.val=255 - a.val:=by decide+kernel
def U4 (n:Nat)(h:n<256):bits .xor .u8 (if IntKind.u8.signed=true then -1 else IntKind.u8.max) (n:Int)=((255 - n:Nat):Int):=by
 have e:(if IntKind.u8.signed=true then(-1:Int) else IntKind.u8.max)=((255:Nat):Int):=rfl;rw[e,u8_xor_nat 255 n (by omega) h,UE ⟨n,h⟩]
theorem Wd (s n:Nat)(g j:Nat->Bool)(w:World)(h:qJ w s n g j)(hn:n<=4096):
  Calls Tryz.prog 259 #[.pointer (some ⟨s,0,none⟩)] w fun e X=>
   (∃b:Nat,b<n/\(g b||j b)=false/\(∀x,x<b->(g x||j x)=true)/\e= .returned (.tuple #[.int .i64 b,.int .i64 0])/\qJ X s n (iB g b true) j/\Keep (· =s) w X)\/
   ((∀x,x<n->(g x||j x)=true)/\e= .returned (.tuple #[.int .i64 0,.int .i64 12])/\Below w.heap.size w X):=by
 obtain⟨_,pM,_⟩:=h.cells;have S:=ah (fun (W:World) (F:Below w.heap.size w W)=>(h.below F));clear h;go_enter Tryz.func259,Tryz.ntmps259;go_wp2_with fail;go_loopw [4,5,6,9] (fun _ _ _ i wr=>∃k:Nat,k<=512/\i= .int .i64 k/\Below w.heap.size w wr/\∀x,x<8*k->(g x||j x)=true) (fun _ _ _ i _=>512 - (intOf i).toNat)
 case atStart=>exact⟨0,by omega,rfl,aR _ _,fun x V=>by omega⟩
 case round=>
  obtain⟨k,hk,rfl,hb,z⟩:=hrel;have T:=ah z;clear z;have t:=ah hb;clear hb
  by_cases I:k<512
  ·have x1:(k:Int)<512:=by omega
   obtain⟨f,K⟩:∃f:Nat->Bool,f=fun x=>g x||j x:=⟨_,rfl⟩
   have P:bits .or .u8 (fZ g k:Int) (fZ j k:Int)=(fZ f k:Int):=by
    rw[u8_or_nat _ _ (rW _ _) (rW _ _),RP,K]
   have C:=rW f k;have E:=ah (fun (W:World) (F:Below w.heap.size w W)=>(show W.cell? ⟨s,0,none⟩=some (.int .i64 n)/\s<W.heap.size/\W.cell? ⟨s,1+k,none⟩=some (.int .u8 (fZ g k))/\W.cell? ⟨s,513+k,none⟩=some (.int .u8 (fZ j k)) from by
    obtain⟨a,b,c,d,e⟩:=(S.out W F).cells
    exact⟨a,b,d k I,e k I⟩))
   go_wp2_with fail;refine aP (fun W=>Below w.heap.size w W) (fun _=>true) [0,1,2,3,4,5,6,7,8,9,10,11,12,13,14] rfl (by kernel_rfl) t.out.drew ?_
   repeat (refine oq ?_ rfl rfl rfl ?_ ?_;rotate_left;(focus intro W F;(try dsimp only at F);obtain⟨r0,r1,r2,r3⟩:=E.out W F;(try rw[P]);go_simp;first|done|with_reducible rfl);try simp only[Act.put,aj,au,ak])
   refine bR ?_;have y:bits .xor .u8 (if IntKind.u8.signed=true then -1 else IntKind.u8.max) ((fZ (fun x=>g x||j x) k:Nat):Int)=((255 - fZ f k:Nat):Int):=by
    rw[<-K];exact U4 _ C
   rw[y];clear P y
   by_cases l:fZ f k=255
   ·have y1:255 - fZ f k=0:=by omega
    rw[y1];have HF:=ah l;clear l C y1;go_wp2_with fail;go_roundw
    case rel=>
     refine⟨k+1,by omega,by go_num,t.out.drew,fun x V=> ?_⟩;rcases gH x (8*k) with o|o
     ·exact T.out x o
     ·have:=Md f k HF.out (x - 8*k) (by omega)
      rw[show 8*k+(x - 8*k)=x by omega,K] at this;exact this
    case measure=>simp[intOf];omega
   ·obtain⟨t1,Q,R⟩:=JZ f k l
    obtain⟨m,hm⟩:∃m,m=255 - fZ f k:=⟨_,rfl⟩
    rw[<-hm] at t1 Q R ⊢;obtain⟨v,A⟩:=nx (Lib.trailingZeros8 m);rw[<-A] at t1 Q R;have qc:¬m=0:=(by omega);have ql:m<=255:=(by omega);have B:=TD (m:Int) wr.drew (by omega) (by omega);rw[fE,<-A] at B;have N:=ah B;have Z:=ah Q;have M:=ah R;have D:=ah K;have p9:(m:Int)≠0:=(by omega);have qb:=(E.out _ t.out.drew).1;have qo:=(E.out _ t.out.drew).2.1;clear K hm A B Q R C l
    by_cases Y:8*k+v<n
    ·have z1:¬(n:Int)<=8*(k:Int)+(v:Int):=by omega
     have r:=WL s 1 g (8*k+v) wr.drew (by omega) (by
      obtain⟨a,b,c,d,e⟩:=(S.out _ t.out.drew).cells
      exact d _ (by omega)) (by
      obtain⟨a,b,c,d,e⟩:=(S.out _ t.out.drew).cells
      exact c _)
     have q:((8*k+v:Nat):Int)=8*(k:Int)+(v:Int):=(by omega);rw[q] at r;have H:=ah r;clear r q;have J:=ah (qJ.set (S.out _ (t.out.drew.drew)) (8*k+v) true (by omega));go_wp2_with (first|(go_at_call 261;go_must (refine N.out.mono ?_;rintro e G ⟨rfl,O⟩;subst G))|(go_at_call 262;go_must (refine H.out.mono ?_;rintro e G ⟨rfl,O⟩;subst G)))
     go_ret2;refine .inl ⟨8*k+v,Y,?_,fun x V=> ?_,by go_num,J.out,?_⟩
     ·have:=Z.out;rw[D.out] at this;exact this
     ·rcases gH x (8*k) with o|o
      ·exact T.out x o
      ·have:=M.out (x - 8*k) (by omega)
       rw[show 8*k+(x - 8*k)=x by omega,D.out] at this;exact this
     ·exact(Keep.of_below t.out (· =s)).drew.drew.setCell (p:=⟨s,1+(8*k+v)/8,none⟩) (.inr rfl) _
    ·have z1:(n:Int)<=8*(k:Int)+(v:Int):=by omega
     go_wp2_with (first|(go_at_call 261;go_must (refine N.out.mono ?_;rintro e G ⟨rfl,O⟩;subst G)))
     go_ret2;refine .inr ⟨fun x V=> ?_,rfl,t.out.drew⟩;rcases gH x (8*k) with o|o
     ·exact T.out x o
     ·have:=M.out (x - 8*k) (by omega)
      rw[show 8*k+(x - 8*k)=x by omega,D.out] at this;exact this
  ·obtain rfl:k=512:=by omega
   go_wp2_with fail;go_ret2;exact .inr ⟨fun x V=>T.out x (by omega),rfl,t.out⟩
theorem MQ (t n:Nat)(w:World)(c:2<=n)(i:n<=4096):
  Calls Tryz.prog 80 #[.iface 89 (.pointer (some ⟨t,0,none⟩)),.int .i64 n] w fun e a=>e= .returned (.int .i64 0)/\a=w:=by
 have f:¬(n:Int)<2:=by omega
 have b:¬(4096:Int)<(n:Int):=by omega
 have g:¬n<2:=by omega
 have d:¬4096<n:=by omega
 go_enter Tryz.func80,Tryz.ntmps80;go_wp2_with fail;go_ret;exact⟨rfl,rfl⟩
def two (b:Nat):Bool:=decide (b<2)
def two_bytes:bytesOf two=pad [3]:=by decide+kernel
theorem UQ (t c d:Nat)(a:Dk)(l:Lg)(p:Pg)(q:Value)(j:Im)(S T:Nat->Prop)(w:World)(h:ji w S c d a l p q)(v:sG w T t c j (p.blocks a))(r:p.dead=false)(s:2<=p.blocks a):
  Calls Tryz.prog 41 #[.iface 89 (.pointer (some ⟨t,0,none⟩)),.int .i64 (p.blocks a)] w fun e n=>e= .returned (.int .i64 0)/\sG n T t c (j.put 0 (bytesOf two)) (p.blocks a)/\Step T T w n:=by
 have f:p.blocks a<=4096:=by have:=h.ok.2.1.hi;unfold Pg.blocks;omega
 have x:=ah (MQ t (p.blocks a) w s f);have b:=aN w (.cells #[.int .u8 3] 5);have A:aZ (w.alloc (.cells #[.int .u8 3] 5)) gB 1 (.slice (some ⟨w.heap.size,0,none⟩) 1 1) ([3]:List UInt8).length (aI [3]):=by
  have y:Row (w.alloc (.cells #[.int .u8 3] 5)) w.heap.size 5 (aI [3]):=aV w _;exact y.dx (S:=gB) (k:=1) (off:=0) 1 1 (by simp[aI]) id (aD _) (by simp[maxLen])
 have o:=ah (KH t c d a l p q j S T 0 _ [3] _ (h.below b) (v.below b) r (by omega) A (by simp));rw[<-two_bytes] at o;have B:∀w,(method 454 89 (.pointer (some ⟨t,0,none⟩)) "Write").run Tryz.prog w= .ok (66,.pointer (some ⟨t,0,none⟩)) w:=fun _=>by kernel_rfl
 go_enter Tryz.func41,Tryz.ntmps41;go_wp2_with (first|(go_at_call 80;go_must (refine x.out.mono ?_;rintro e m ⟨rfl,z⟩;subst m))|(go_at_call 66;go_must (refine o.out.mono ?_;rintro e m ⟨rfl,i,g⟩)))
 go_ret;exact⟨rfl,i,(Step.of_below b).trans g⟩
def Pf (i:Int):Tryz.prog.built 177 [(0,.int .i64 i)]=some (Value.int .i64 i::(aI zB++aI zB)).toArray:=by kernel_rfl
def KT (i:Int)(l:List UInt8)(b:l.length=512):splice (Value.int .i64 i::(aI zB++aI zB)) 1 (aI l)=Value.int .i64 i::(aI l++aI zB):=by
 have c:(aI l).length=512:=by rw[bP,b]
 have a:(aI zB).length=512:=by rw[bP,ja]
 unfold splice;rw[c,jq,iM,show 1+512=512+1 by rfl,gy,eU (lD a.symm),<-a,kY];simp
def KS (i:Int)(l:List UInt8)(b:l.length=512):splice (Value.int .i64 i::(aI l++aI zB)) 513 (aI l)=Value.int .i64 i::(aI l++aI l):=by
 have a:(aI l).length=512:=by rw[bP,b]
 have c:(aI zB).length=512:=by rw[bP,ja]
 unfold splice;rw[a,show 513=512+1 by rfl,jq,show 512+1+512=1024+1 by rfl,gy,bI (lD a.symm),<-a,bS,dY (by rw[ay,a,c];omega)];simp
theorem UR (t pg d:Nat)(o:Dk)(l:Lg)(p:Pg)(op:Value)(im:Im)(S T:Nat->Prop)(f:Nat->Bool)(w:World)(h:ji w S pg d o l p op)(ht:sG w T t pg im (p.blocks o))(hd:p.dead=false)(af:o.dead=false)(h2:2<=p.blocks o)
  (hf:p.look im o 0=bytesOf f) (E:∀b,p.blocks o<=b->f b=false) (Q:f 0=true) (R:f 1=true):
  Calls Tryz.prog 55 #[.iface 89 (.pointer (some ⟨t,0,none⟩)),.int .i64 (p.blocks o)] w fun e w'=>∃j,e= .returned (.tuple #[.pointer (some ⟨j,0,none⟩),.int .i64 0])/\qJ w' j (p.blocks o) f f/\w.heap.size<=j/\Below w.heap.size w w':=by
 have H:p.blocks o<=4096:=by have:=h.ok.2.1.hi;unfold Pg.blocks;omega
 have HC:=ah (MQ t (p.blocks o) w h2 H);have HR:=tread t pg d o l p op im S T 0 w h ht hd af (by omega);rw[hf] at HR;have HR:=ah HR;obtain⟨n,hn⟩:=nx (p.blocks o);rw[<-hn] at HC h2 E H ⊢;have bB:=ah E;have H0:=ah Q;have H1:=ah R;have M:=bytesOf_length f;have hm:∀w,(method 454 89 (.pointer (some ⟨t,0,none⟩)) "Read").run Tryz.prog w= .ok (57,.pointer (some ⟨t,0,none⟩)) w:=fun _=>by kernel_rfl
 clear h ht hf E Q R hn;go_enter Tryz.func55,Tryz.ntmps55;go_wp2_with (first|(go_at_call 80;go_must (refine HC.out.mono ?_;rintro e g ⟨rfl,B⟩;subst g))|(go_at_call 57;go_must (refine HR.out.mono ?_;rintro e g ⟨v,rfl,hv,bH,y⟩;obtain⟨ao,cp,rfl,n0,m0,_,_⟩:=aZ.form hv))|((refine dV rfl ?_);intro K x;(refine zl 177 _ rfl (Value.int .i64 (n:Int)::(aI zB++aI zB)) (Pf n) ?_);refine x _ _ ?_)|((refine dV rfl ?_);intro K x;(refine Cs 177 _ rfl (Value.int .i64 (n:Int)::(aI zB++aI zB)) rfl ?_);refine x _ _ (Stop.of ?_)))
 refine sN ?_;obtain⟨j,s⟩:=nm g.heap.size;obtain⟨w2,r⟩:=nm (g.alloc (.cells (Value.int .i64 (n:Int)::(aI zB++aI zB)).toArray 177));have V:Row w2 j 177 (Value.int .i64 (n:Int)::(aI zB++aI zB)):=by rw[<-r.out,<-s.out];exact Row.new g _ _
 have F:Below g.heap.size g w2:=by rw[<-r.out];exact aN g _
 rw[r.out,s.out];have pM:=aZ.below hv F;have a:=ah (gU f);have c:=pM.first (P:=Tryz.prog) 512 (aD _);rw[aW,aJ (lD a.out)] at c;have c:=ah c;have qc:=ah (show (Value.int .i64 (n:Int)::(aI zB++aI zB)).length=1025 by rw[bn,ay,bP,ja]);go_wp2_with (first|((refine dV rfl ?_);intro K x;(refine gZ (.tmp 31) (.tmp 32) 70 70 rfl 5 1 1 (.int .u8 0) bG kJ j 1 177 512 512 512 (some ⟨j,1,none⟩) _ rfl V (.slice ao 512 cp) rfl 512 (aI (bytesOf f)) rfl ?_ ?_ c.out (fun _=>rfl) ?_ (iA _) ?_);go_must ((focus rfl);(focus rw[a.out,aW]);(focus rw[a.out,qc.out];omega);intro N m ql;refine x _ _ (Stop.of ?_))))
 refine sN ?_;rw[KT _ _ M] at m;have Y:Below w.heap.size w N:=by
  have W:Keep gB g N:=(Keep.of_below F gB).trans ql (fun i O e=>absurd O (by rw[e,s.out];exact dB _));exact y.trans (W.below.mono y.size)
 have z:w.heap.size<=j:=by rw[<-s.out];exact y.size
 have I:=ah m;have p9:=ah Y;have q:∀i,i<512->N.cell? ⟨j,1+i,none⟩=some (.int .u8 (fZ f i)):=fun i O=>by
  rw[m.cell,vE,eO,eF (by rw[a.out];exact O)];exact qY f i O
 have bC:=m.lt;have G:=ah (fun b (hb:b<4096)=>Ws j 1 f b N hb (q _ (by omega)));have qo:N.rangeAt j 1 (aI (bytesOf f)):=Row.range (off:=1) (n:=512) m (by
  rw[List.drop_one,List.tail_cons,bI (by rw[a.out];exact aD _),aJ (by rw[a.out];exact aD _)])
 have D:=ah (show (Value.int .i64 (n:Int)::(aI (bytesOf f)++aI zB)).length=1025 by rw[bn,ay,bP,bP,M,ja]);have A:=iA (bytesOf f);clear m Y ql q V F pM hv y c r HR HC hm qc;obtain⟨C,X⟩:=nm (aI (bytesOf f));rw[X.out] at qo a A I D;obtain⟨Z,HZ⟩:=nm (aI zB);rw[HZ.out] at I D;go_wp2_with fail;go_loopw [10] (fun i wr=>∃k:Nat,n<=k/\k<=4096/\i= .int .i64 k/\wr=N) (fun i _=>4096 - (intOf i).toNat)
 case atStart=>exact⟨n,aD _,H,rfl,rfl⟩
 case round=>
  obtain⟨k,aB,W,rfl,rfl⟩:=hrel
  by_cases qb:k<4096
  ·have x1:(k:Int)<4096:=by omega
   have hh:=G.out k qb;rw[bB.out k aB] at hh;have HH:=ah hh;clear hh;go_wp2_with (first|(go_at_call 100;go_must (refine HH.out.mono ?_;rintro e g ⟨rfl,B⟩;subst g)))
   go_roundw
   case rel=>exact⟨k+1,by omega,by omega,by go_num,by trivial⟩
   case measure=>simp[intOf];omega
  ·have x1:¬(k:Int)<4096:=by omega
   have x2:¬k<4096:=qb;have Q:=G.out 0 (by omega);have R:=G.out 1 (by omega);rw[H0.out] at Q;rw[H1.out] at R;have av:=ah Q;have aA:=ah R;clear Q R;go_wp2_with (first|(go_at_call 100;go_must (refine av.out.mono ?_;rintro e g ⟨rfl,B⟩;subst g;refine sO ?_)))
   refine sN ?_;go_wp2_with (first|(go_at_call 100;go_must (refine aA.out.mono ?_;rintro e g ⟨rfl,B⟩;subst g))|((refine dV rfl ?_);intro K x;(refine Sr 175 _ rfl j 1 rfl C _ qo Kt rfl (wE.trans (congrArg some a.out.symm)) ?_);refine x _ _ ?_)|((refine dV rfl ?_);intro K x;(refine wp_store_row 175 _ _ rfl j 513 177 _ C rfl rfl I.out (wE.trans (congrArg some a.out.symm)) (by rw[D.out,a.out];omega) A ?_);intro w4 J q8;refine x _ _ (Stop.of ?_)))
   refine sN ?_;rw[<-X.out,<-HZ.out,KS _ _ M] at J;have q9:=ah J;have bA:=ah q8;clear J q8;go_wp2_with fail;go_ret2;exact⟨j,rfl,q9.out,z,p9.out.trans (bA.out.jF p9.out.size (fun i O e=>absurd O (bg.2 (by rw[e];exact z))))⟩
def PN (w:World):(zeroValue 175).run Tryz.prog w= .ok (.agg (aI zB).toArray) w:=by kernel_rfl
def zK (h:l.length=512):pad l=l:=by simp[pad,h]
theorem SX (t D d E n:Nat)(a F:Nat->Bool)(x:Dk)(l:Lg)(p:Pg)(V:Value)(N:Im)(S T:Nat->Prop)(w:World)(h:ji w S D d x l p V)(P:sG w T t D N (p.blocks x))(X:p.dead=false)(Z:0<p.blocks x)(o:qJ w E n a F):
  Calls Tryz.prog 67 #[.pointer (some ⟨E,0,none⟩),.iface 89 (.pointer (some ⟨t,0,none⟩))] w fun e O=>e= .returned (.int .i64 0)/\sG O T t D (N.put 0 (bytesOf a)) (p.blocks x)/\Step T T w O:=by
 obtain⟨c0,Y,p9,hc,_⟩:=o.cells;have j:w.rangeAt E 1 (aI (bytesOf a)):=Row.range (off:=1) (n:=512) o (by
  unfold qi
  rw[List.drop_one,List.tail_cons,bI (by rw[gU];exact aD _),aJ (by rw[gU];exact aD _)])
 have b:=ah (gU a);have c:=iA (bytesOf a);have B:=bytesOf_length a;have y:Row (w.alloc (.cells (aI zB).toArray 175)) w.heap.size 175 (aI zB):=Row.new w _ _;have g:=ah (show (aI zB).length=512 by rw[bP,ja]);have M:=ah (fun (W:World) (q:Below w.heap.size w W) (hv:aZ W gB 1 (.slice (some ⟨w.heap.size,0,none⟩) 512 512) (bytesOf a).length (aI (bytesOf a)))=>KH t D d x l p V N S T 0 _ (bytesOf a) W (h.below q) (P.below q) X Z hv (by omega));rw[zK B] at M;have hm:∀w,(method 454 89 (.pointer (some ⟨t,0,none⟩)) "Write").run Tryz.prog w= .ok (66,.pointer (some ⟨t,0,none⟩)) w:=fun _=>by kernel_rfl
 have pM:∀(R:Fn) (first cap:Array Value) (w:World),(Instr.makeFunc R first cap).run Tryz.prog w= .ok (.func R first cap) w:=fun _ _ _ _=>rfl
 obtain⟨C,Q⟩:=nm (aI (bytesOf a));rw[Q.out] at j b c;clear h P o hc;go_enter Tryz.func67,Tryz.ntmps67;go_wp2_with (first|((refine dV rfl ?_);intro K f;(refine Sr 175 _ rfl E 1 rfl C _ j Kt rfl (wE.trans (congrArg some b.out.symm)) ?_);refine f _ _ ?_)|((refine dV rfl ?_);intro K f;(refine jw 175 rfl _ PN ?_);refine f _ _ ?_)|((refine dV rfl ?_);intro K f;(refine wp_store_row 175 _ _ rfl w.heap.size 0 175 _ C rfl rfl y (wE.trans (congrArg some b.out.symm)) (by rw[g.out,b.out];omega) c ?_);intro G m z;refine f _ _ (Stop.of ?_)))
 refine sN ?_;rw[mg _ _ (g.out.trans b.out.symm),<-Q.out] at m;have A:Below w.heap.size w G:=(((Keep.refl gB w).alloc _).trans z (fun i hi e=>absurd hi (by rw[e];exact dB _))).below;have v:aZ G.drew gB 1 (.slice (some ⟨w.heap.size,0,none⟩) 512 512) (bytesOf a).length (aI (bytesOf a)):=by
  have s:Row G.drew w.heap.size 175 (aI (bytesOf a)):=m;have:=s.dx (S:=gB) (k:=1) (off:=0) 512 512 (by rw[gU];omega) id (aD _) (by simp[maxLen]);rw[dQ,aJ (by rw[gU];omega)] at this;rw[B];exact this
 have J:=ah (M.out _ A.drew v);clear m z v M y g j c;go_wp2_with fail;refine aP (fun _=>True) (fun i=> !([5].contains i)) [0,1,2,3,4,5,6] rfl (by kernel_rfl) trivial ?_;have r:∀w,(nilAhead 454 89 (.pointer (some ⟨t,0,none⟩)) "Write").run Tryz.prog w= .ok (some false) w:=fun _=>by kernel_rfl
 repeat (refine oq ?_ rfl rfl rfl ?_ ?_;rotate_left;(focus intro W q;(try dsimp only at q);have:=r;go_simp;first|done|with_reducible rfl);try simp only[Act.put,aj,au,ak])
 refine dI rfl rfl rfl ?_;intro K f;go_simp;refine J.out.mono ?_;rintro e w4 ⟨rfl,I,H⟩;refine f.out _ _ trivial ?_
 repeat (refine oq ?_ rfl rfl rfl ?_ ?_;rotate_left;(focus intro W q;(try dsimp only at q);have:=r;go_simp;first|done|with_reducible rfl);try simp only[Act.put,aj,au,ak])
 refine bR ?_;go_wp2_with fail;go_ret;exact⟨rfl,I,(Step.of_below A.drew).trans H⟩
