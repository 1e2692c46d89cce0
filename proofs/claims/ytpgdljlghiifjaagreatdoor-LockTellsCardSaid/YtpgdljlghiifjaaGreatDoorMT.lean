/- parts -/
import Derived.Test.YtpgdljlghiifjaaGreatDoorM1
import Derived.Test.YtpgdljlghiifjaaGreatDoorM2
import Derived.Test.YtpgdljlghiifjaaGreatDoorM3
import Derived.Test.YtpgdljlghiifjaaGreatDoorM4
import Derived.Test.YtpgdljlghiifjaaGreatDoorM5
import Derived.Test.YtpgdljlghiifjaaGreatDoorM6
import Derived.Test.YtpgdljlghiifjaaGreatDoorM7
import Derived.Test.YtpgdljlghiifjaaGreatDoorM8
import Derived.Test.YtpgdljlghiifjaaGreatDoorM9
import Derived.Test.YtpgdljlghiifjaaGreatDoorM10
import Derived.Test.YtpgdljlghiifjaaGreatDoorM11
import Derived.Test.YtpgdljlghiifjaaGreatDoorM12
import Derived.Test.YtpgdljlghiifjaaGreatDoorM13
import Derived.Test.YtpgdljlghiifjaaGreatDoorM14
import Derived.Test.YtpgdljlghiifjaaGreatDoorM15
import Derived.Test.YtpgdljlghiifjaaGreatDoorM16
import Derived.Test.YtpgdljlghiifjaaGreatDoorM17
import Derived.Test.YtpgdljlghiifjaaGreatDoorM18
import Derived.Test.YtpgdljlghiifjaaGreatDoorM19
import Derived.Test.YtpgdljlghiifjaaGreatDoorM20
import Derived.Test.YtpgdljlghiifjaaGreatDoorM21
import Derived.Test.YtpgdljlghiifjaaGreatDoorM22
import Derived.Test.YtpgdljlghiifjaaGreatDoorM23
import Derived.Test.YtpgdljlghiifjaaGreatDoorM24
import Derived.Test.YtpgdljlghiifjaaGreatDoorM25
import Derived.Test.YtpgdljlghiifjaaGreatDoorM26
import Derived.Test.YtpgdljlghiifjaaGreatDoorM27
import Derived.Lib.ValidLaws
set_option maxRecDepth 100000
set_option maxHeartbeats 8000000
set_option linter.all false
namespace Go.Proofs.YtpgdljlghiifjaaGreatDoor
open Go.RowKit
def yj (least v:Nat):Bool:=decide (least<=v) && (decide (v<=1114111) && (decide (v<55296)||decide (57343<v)))
def o6 (n b0 b1 b2 b3:Nat):Nat×Bool:=
 if b0<128 then(1,true)
 else if 192<=b0/\b0<224 then(if 1<n/\(128<=b1/\b1<=191) then(2,yj 128 ((b0 - 192)*64+b1 - 128)) else(0,false))
 else if 224<=b0/\b0<240 then(if 2<n/\(128<=b1/\b1<=191)/\(128<=b2/\b2<=191) then(3,yj 2048 (((b0 - 224)*64+b1 - 128)*64+b2 - 128)) else(0,false))
 else if 240<=b0/\b0<248 then(if 3<n/\(128<=b1/\b1<=191)/\(128<=b2/\b2<=191)/\(128<=b3/\b3<=191) then(4,yj 65536 ((((b0 - 240)*64+b1 - 128)*64+b2 - 128)*64+b3 - 128)) else(0,false))
 else(0,false)
def nY (l:List UInt8):Nat×Bool:=o6 l.length (l.getD 0 0).toNat (l.getD 1 0).toNat (l.getD 2 0).toNat (l.getD 3 0).toNat
theorem gL {a v:Nat}:yj a v=true↔a<=v/\v<=1114111/\(v<55296\/57343<v):=by
 unfold yj
 simp only[dx,jT,bY]
theorem ND (n b0 b1 b2 b3:Nat)(h0:b0<256)(h1:b1<256)(h2:b2<256)(h3:b3<256):
  ((o6 n b0 b1 b2 b3).2=true/\(Lib.decodeN n b0 b1 b2 b3).2=(o6 n b0 b1 b2 b3).1/\¬((Lib.decodeN n b0 b1 b2 b3).1=65533/\(Lib.decodeN n b0 b1 b2 b3).2=1))\/
  ((o6 n b0 b1 b2 b3).2=false/\(Lib.decodeN n b0 b1 b2 b3)=(65533,1)):=by
 unfold o6
 by_cases c0:b0<128
 ·rw[if_pos c0];unfold Lib.decodeN;rw[if_pos c0];left;refine⟨rfl,rfl,?_⟩;dsimp only;omega
 rw[if_neg c0]
 by_cases c1:192<=b0/\b0<224
 ·rw[if_pos c1]
  by_cases d1:1<n/\(128<=b1/\b1<=191)
  ·rw[if_pos d1]
   unfold Lib.decodeN
   rw[if_neg c0,if_pos (by omega)]
   by_cases g:b0%32*64+b1%64≥128
   ·rw[if_pos g]
    left
    refine⟨gL.2 (by omega),rfl,?_⟩
    dsimp only;omega
   ·rw[if_neg g]
    right
    refine⟨eH.2 fun h=> ?_,rfl⟩
    have:=gL.1 h
    omega
  ·rw[if_neg d1]
   unfold Lib.decodeN
   rw[if_neg c0,if_neg (by omega),if_neg (by omega),if_neg (by omega)]
   exact .inr ⟨rfl,rfl⟩
 rw[if_neg c1]
 by_cases c2:224<=b0/\b0<240
 ·rw[if_pos c2]
  by_cases d1:2<n/\(128<=b1/\b1<=191)/\(128<=b2/\b2<=191)
  ·rw[if_pos d1]
   unfold Lib.decodeN
   rw[if_neg c0,if_neg (by omega),if_pos (by omega)]
   split
   ·rename_i g
    left
    refine⟨gL.2 (by omega),rfl,?_⟩
    dsimp only;omega
   ·rename_i g
    right
    refine⟨eH.2 fun h=> ?_,rfl⟩
    have:=gL.1 h
    omega
  ·rw[if_neg d1]
   unfold Lib.decodeN
   rw[if_neg c0,if_neg (by omega),if_neg (by omega),if_neg (by omega)]
   exact .inr ⟨rfl,rfl⟩
 rw[if_neg c2]
 by_cases c3:240<=b0/\b0<248
 ·rw[if_pos c3]
  by_cases d1:3<n/\(128<=b1/\b1<=191)/\(128<=b2/\b2<=191)/\(128<=b3/\b3<=191)
  ·rw[if_pos d1]
   unfold Lib.decodeN
   rw[if_neg c0,if_neg (by omega),if_neg (by omega),if_pos (by omega)]
   split
   ·rename_i g
    left
    refine⟨gL.2 (by omega),rfl,?_⟩
    dsimp only;omega
   ·rename_i g
    right
    refine⟨eH.2 fun h=> ?_,rfl⟩
    have:=gL.1 h
    omega
  ·rw[if_neg d1]
   unfold Lib.decodeN
   rw[if_neg c0,if_neg (by omega),if_neg (by omega),if_neg (by omega)]
   exact .inr ⟨rfl,rfl⟩
 rw[if_neg c3]
 unfold Lib.decodeN
 rw[if_neg c0,if_neg (by omega),if_neg (by omega),if_neg (by omega)]
 exact .inr ⟨rfl,rfl⟩
theorem IK (l:List UInt8)(hne:l≠[]):Lib.validD l=((nY l).2 && Lib.validD (l.drop (nY l).1)):=by
 rw[Lib.validD_step l hne,Lib.decodeL_N]
 rcases ND l.length _ _ _ _ (l.getD 0 0).toNat_lt (l.getD 1 0).toNat_lt (l.getD 2 0).toNat_lt (l.getD 3 0).toNat_lt with ⟨h1,h2,h3⟩|⟨h1,h2⟩
 ·rw[if_neg h3,h2]
  unfold nY
  rw[h1];rfl
 ·rw[h2]
  unfold nY
  rw[h1];rfl
theorem FR (n b0 b1 b2 b3:Nat)(hn:1<=n)(h:(o6 n b0 b1 b2 b3).2=true):1<=(o6 n b0 b1 b2 b3).1/\(o6 n b0 b1 b2 b3).1<=n:=by
 unfold o6 at h ⊢
 by_cases c0:b0<128
 ·rw[if_pos c0];exact⟨aG _,hn⟩
 rw[if_neg c0] at h ⊢
 by_cases c1:192<=b0/\b0<224
 ·rw[if_pos c1] at h ⊢
  by_cases d1:1<n/\(128<=b1/\b1<=191)
  ·rw[if_pos d1];exact⟨by dsimp only;omega,d1.1⟩
  ·rw[if_neg d1] at h;cases h
 rw[if_neg c1] at h ⊢
 by_cases c2:224<=b0/\b0<240
 ·rw[if_pos c2] at h ⊢
  by_cases d1:2<n/\(128<=b1/\b1<=191)/\(128<=b2/\b2<=191)
  ·rw[if_pos d1];exact⟨by dsimp only;omega,d1.1⟩
  ·rw[if_neg d1] at h;cases h
 rw[if_neg c2] at h ⊢
 by_cases c3:240<=b0/\b0<248
 ·rw[if_pos c3] at h ⊢
  by_cases d1:3<n/\(128<=b1/\b1<=191)/\(128<=b2/\b2<=191)/\(128<=b3/\b3<=191)
  ·rw[if_pos d1];exact⟨by dsimp only;omega,d1.1⟩
  ·rw[if_neg d1] at h;cases h
 rw[if_neg c3] at h
 cases h
theorem Jf (l:List UInt8)(hne:l≠[])(h:(nY l).2=true):1<=(nY l).1/\(nY l).1<=l.length:=FR _ _ _ _ _ (dD.2 hne) h
def Uj (c n L v:Nat):Prop:=(192<=c/\c<224/\n=2/\L=128/\v=c - 192)\/(224<=c/\c<240/\n=3/\L=2048/\v=c - 224)\/(240<=c/\c<248/\n=4/\L=65536/\v=c - 240)
def jQ (l:List UInt8)(j:Nat):Nat:=(l.getD j 0).toNat
def Ij (l:List UInt8)(v:Nat):Nat->Nat
 |0=>v
 |k+1=>Ij l v k*64+jQ l (k+1) - 128
theorem y7 {l:List UInt8}{n L v:Nat}(h:Uj (jQ l 0) n L v):
  (n<=l.length->(∀j,1<=j->j<n->128<=jQ l j/\jQ l j<=191)->nY l=(n,yj L (Ij l v (n - 1))))/\
  (l.length<n->nY l=(0,false))/\(∀j,1<=j->j<n->¬(128<=jQ l j/\jQ l j<=191)->nY l=(0,false)):=by
 have e:nY l=o6 l.length (jQ l 0) (jQ l 1) (jQ l 2) (jQ l 3):=rfl
 rw[e]
 rcases h with ⟨a,b,rfl,rfl,rfl⟩|⟨a,b,rfl,rfl,rfl⟩|⟨a,b,rfl,rfl,rfl⟩
 ·refine⟨fun h1 h2=> ?_,fun h1=> ?_,fun j j1 j2 h1=> ?_⟩<;>unfold o6<;>rw[if_neg (by omega),if_pos ⟨a,b⟩]
  ·rw[if_pos ⟨by omega,h2 1 (by omega) (by omega)⟩];rfl
  ·rw[if_neg (by omega)]
  ·obtain rfl:j=1:=by omega
   rw[if_neg (fun e=>h1 e.2)]
 ·refine⟨fun h1 h2=> ?_,fun h1=> ?_,fun j j1 j2 h1=> ?_⟩<;>unfold o6<;>rw[if_neg (by omega),if_neg (by omega),if_pos ⟨a,b⟩]
  ·rw[if_pos ⟨by omega,h2 1 (by omega) (by omega),h2 2 (by omega) (by omega)⟩];rfl
  ·rw[if_neg (by omega)]
  ·obtain rfl|rfl:j=1\/j=2:=by omega
   ·rw[if_neg (fun e=>h1 e.2.1)]
   ·rw[if_neg (fun e=>h1 e.2.2)]
 ·refine⟨fun h1 h2=> ?_,fun h1=> ?_,fun j j1 j2 h1=> ?_⟩<;>unfold o6<;>rw[if_neg (by omega),if_neg (by omega),if_neg (by omega),if_pos ⟨a,b⟩]
  ·rw[if_pos ⟨by omega,h2 1 (by omega) (by omega),h2 2 (by omega) (by omega),h2 3 (by omega) (by omega)⟩];rfl
  ·rw[if_neg (by omega)]
  ·obtain rfl|rfl|rfl:j=1\/j=2\/j=3:=by omega
   ·rw[if_neg (fun e=>h1 e.2.1)]
   ·rw[if_neg (fun e=>h1 e.2.2.1)]
   ·rw[if_neg (fun e=>h1 e.2.2.2)]
theorem NC {l:List UInt8}(h:jQ l 0<128):nY l=(1,true):=by
 show o6 _ (jQ l 0) _ _ _=_
 unfold o6;rw[if_pos h]
theorem Df {l:List UInt8}(h:(128<=jQ l 0/\jQ l 0<192)\/248<=jQ l 0):nY l=(0,false):=by
 show o6 _ (jQ l 0) _ _ _=_
 unfold o6;rw[if_neg (by omega),if_neg (by omega),if_neg (by omega),if_neg (by omega)]
end Go.Proofs.YtpgdljlghiifjaaGreatDoor
namespace Go.Proofs.YtpgdljlghiifjaaGreatDoor
open Go.RowKit Go.Shelf
theorem yA (s:ByteArray)(k:Nat)(h:k<s.size):jQ s.data.toList k=(s[k]'h).toNat:=by
 unfold jQ
 rw[fE,Lib.data_getElem? s k h];rfl
theorem Qv (s:ByteArray)(w:World)(h0:0<s.size)(hs:s.size<=9223372036854775807):
  Calls Tryz.prog 78 #[.string s] w fun e w'=>e= .returned (.tuple #[.int .i64 ((nY s.data.toList).1:Nat),.bool (nY s.data.toList).2])/\w'=w:=by
 have hln:=kr s
 obtain⟨c,hc⟩:∃c:UInt8,s[0]'h0=c:=⟨_,rfl⟩
 have hb0:jQ s.data.toList 0=c.toNat:=by rw[yA s 0 h0,hc]
 have hcl:=c.toNat_lt
 have h0i:(0:Int)<(s.size:Int):=by omega
 have hwc:IntKind.i64.wrap (c.toNat:Int)=(c.toNat:Int):=aM _ (by omega)
 obtain⟨R1,hR1⟩:∃R1,Hid ((nY s.data.toList).1=R1):=⟨_,af rfl⟩
 obtain⟨R2,hR2⟩:∃R2,Hid ((nY s.data.toList).2=R2):=⟨_,af rfl⟩
 rw[hR1.out,hR2.out]
 have hcs:c.toNat<128\/(128<=c.toNat/\c.toNat<192)\/248<=c.toNat\/(192<=c.toNat/\c.toNat<224)\/(224<=c.toNat/\c.toNat<240)\/(240<=c.toNat/\c.toNat<248):=by omega
 go_enter Tryz.func78,Tryz.ntmps78
 rcases hcs with g|g|g|g|g|g
 ·have q1:(c.toNat:Int)<128:=by omega
  have e:=NC (l:=s.data.toList) (by rw[hb0];exact g)
  have e1:R1=1:=by rw[<-hR1.out,e]
  have e2:R2=true:=by rw[<-hR2.out,e]
  subst e1 e2
  clear g e hb0 hcl hln
  go_wp2
  go_ret2
  exact⟨rfl,rfl⟩
 ·have q1:¬(c.toNat:Int)<128:=by omega
  have q2:¬(192:Int)<=(c.toNat:Int):=by omega
  have q3:¬(224:Int)<=(c.toNat:Int):=by omega
  have q4:¬(240:Int)<=(c.toNat:Int):=by omega
  have e:=Df (l:=s.data.toList) (by rw[hb0];exact .inl g)
  have e1:R1=0:=by rw[<-hR1.out,e]
  have e2:R2=false:=by rw[<-hR2.out,e]
  subst e1 e2
  clear g e hb0 hcl hln
  go_wp2
  go_ret2
  exact⟨rfl,rfl⟩
 ·have q1:¬(c.toNat:Int)<128:=by omega
  have q2:(192:Int)<=(c.toNat:Int):=by omega
  have q3:(224:Int)<=(c.toNat:Int):=by omega
  have q4:(240:Int)<=(c.toNat:Int):=by omega
  have q5:¬(c.toNat:Int)<224:=by omega
  have q6:¬(c.toNat:Int)<240:=by omega
  have q7:¬(c.toNat:Int)<248:=by omega
  have e:=Df (l:=s.data.toList) (by rw[hb0];exact .inr g)
  have e1:R1=0:=by rw[<-hR1.out,e]
  have e2:R2=false:=by rw[<-hR2.out,e]
  subst e1 e2
  clear g e hb0 hcl hln
  go_wp2
  go_ret2
  exact⟨rfl,rfl⟩
 ·have q1:¬(c.toNat:Int)<128:=by omega
  have q2:(192:Int)<=(c.toNat:Int):=by omega
  have q5:(c.toNat:Int)<224:=by omega
  obtain⟨v0,hv0⟩:∃v0,Hid (c.toNat - 192=v0):=⟨_,af rfl⟩
  have hv1:IntKind.i64.wrap ((c.toNat:Int) - 192)=(v0:Int):=by rw[aM _ (by omega),<-hv0.out];omega
  have hvl:v0<64:=by rw[<-hv0.out];omega
  obtain⟨a1,a2,a3⟩:=y7 (l:=s.data.toList) (n:=2) (L:=128) (v:=v0) (by rw[hb0,<-hv0.out];exact .inl ⟨g.1,g.2,rfl,rfl,rfl⟩)
  rw[hln] at a1 a2
  have HA:=af (aC a1 (aC a2 a3))
  clear a1 a2 a3 g hb0 hcl
  by_cases hlen:s.size<2
  ·have t1:(s.size:Int)<2:=by omega
   have e:=HA.out.2.1 hlen
   have e1:R1=0:=by rw[<-hR1.out,e]
   have e2:R2=false:=by rw[<-hR2.out,e]
   subst e1 e2
   clear e hlen hln
   go_wp2
   go_ret2
   exact⟨rfl,rfl⟩
  ·have t1:¬(s.size:Int)<2:=by omega
   have HL:=af hlen
   clear hlen hln
   go_upto_region 16 with fail
   go_upto_region 17 with fail
   go_loopw [7,8,9] (fun v i _ wr=>∃(k V:Nat),k<2/\i= .int .i64 ((k+1:Nat):Int)/\v= .int .i64 V/\Hid (V=Ij s.data.toList v0 k)/\Hid (V<64^(k+1))/\Hid (∀j,1<=j->j<k+1->128<=jQ s.data.toList j/\jQ s.data.toList j<=191)/\wr=w) (fun _ i _ _=>2 - (intOf i).toNat)
   case atStart=>exact⟨0,v0,by omega,rfl,rfl,af rfl,af (by simpa using hvl),af (fun j h1 h2=>absurd h2 (by omega)),rfl⟩
   case round=>
    obtain⟨k,V,hk,rfl,rfl,HV,HB,HJ,hwr⟩:=hrel
    subst hwr
    have hV:V<16777216:=ax HB.out (aH (mU (by omega) (show k+1<=4 by omega)) (by decide))
    by_cases hkn:k+1<2
    ·have y1:((k+1:Nat):Int)<2:=by omega
     have hkl:k+1<s.size:=by have:=HL.out;omega
     have hkl':((k+1:Nat):Int)<(s.size:Int):=by omega
     obtain⟨x,hx⟩:∃x:UInt8,s[k+1]'hkl=x:=⟨_,rfl⟩
     have hbx:jQ s.data.toList (k+1)=x.toNat:=by rw[yA s _ hkl,hx]
     have hxl:=x.toNat_lt
     have HX:=af hbx
     have hwx:IntKind.i64.wrap (x.toNat:Int)=(x.toNat:Int):=aM _ (by omega)
     obtain⟨m,hm⟩:∃m,Hid (k+1=m):=⟨_,af rfl⟩
     have hxm:s[m]'(hm.out▸hkl)=x:=by have e:=hm.out;subst e;exact hx
     have hml:m<s.size:=hm.out▸hkl
     clear hx hbx
     rw[hm.out] at y1 hkl hkl' ⊢
     by_cases h1:x.toNat<128
     ·have z1:(x.toNat:Int)<128:=by omega
      have e:=HA.out.2.2 (k+1) (by omega) hkn (by rw[HX.out];omega)
      have e1:R1=0:=by rw[<-hR1.out,e]
      have e2:R2=false:=by rw[<-hR2.out,e]
      subst e1 e2
      clear e h1 hkn
      go_wp2_with fail
      go_ret2
      exact⟨rfl,rfl⟩
     ·have z1:¬(x.toNat:Int)<128:=by omega
      by_cases h2:191<x.toNat
      ·have z2:(191:Int)<(x.toNat:Int):=by omega
       have e:=HA.out.2.2 (k+1) (by omega) hkn (by rw[HX.out];omega)
       have e1:R1=0:=by rw[<-hR1.out,e]
       have e2:R2=false:=by rw[<-hR2.out,e]
       subst e1 e2
       clear e h1 h2 hkn
       go_wp2_with fail
       go_ret2
       exact⟨rfl,rfl⟩
      ·have z2:¬(191:Int)<(x.toNat:Int):=by omega
       obtain⟨V2,hV2⟩:∃V2,Hid (V*64+x.toNat - 128=V2):=⟨_,af rfl⟩
       have z3:IntKind.i64.wrap ((V:Int)*64)=((V*64:Nat):Int):=by rw[aM _ (by omega)];omega
       have z4:IntKind.i64.wrap (((V*64:Nat):Int)+(x.toNat:Int))=((V*64+x.toNat:Nat):Int):=by rw[aM _ (by omega)];omega
       have z5:IntKind.i64.wrap (((V*64+x.toNat:Nat):Int) - 128)=(V2:Int):=by rw[aM _ (by omega),<-hV2.out];omega
       have z6:IntKind.i64.wrap (((V:Int)*64+(x.toNat:Int)) - 128)=(V2:Int):=by rw[aM _ (by omega),<-hV2.out];omega
       have z7:((V:Int)*64+(x.toNat:Int)) - 128=(V2:Int):=by rw[<-hV2.out];omega
       have H1:=af h1;have H2:=af h2;have HK:=af hkn;have HXL:=af hxl
       clear h1 h2 hkn hxl
       go_wp2_with fail
       go_roundw
       case rel=>
        refine⟨m,V2,by have:=hm.out;have:=HK.out;omega,by go_num,by trivial,af ?_,af ?_,af (fun j j1 j2=> ?_),by trivial⟩
        ·rw[<-hm.out]
         show V2=Ij s.data.toList v0 k*64+jQ s.data.toList (k+1) - 128
         rw[HX.out,<-HV.out,hV2.out]
        ·rw[<-hV2.out,<-hm.out]
         have h3:=HB.out
         have h4:=H2.out
         have e:64^(k+1+1)=64^(k+1)*64:=tQ ..
         rw[e]
         omega
        ·rw[<-hm.out] at j2
         by_cases hj:j<k+1
         ·exact HJ.out j j1 hj
         ·obtain rfl:j=k+1:=by omega
          rw[HX.out]
          have h3:=H1.out;have h4:=H2.out
          omega
       case measure=>have:=hm.out;have:=HK.out;simp[intOf];omega
    ·obtain rfl:k=1:=by omega
     have e:=HA.out.1 (Sy HL.out) HJ.out
     have e1:R1=2:=by rw[<-hR1.out,e]
     have e2:R2=yj 128 V:=by rw[<-hR2.out,e,HV.out]
     subst e1
     clear e hkn HJ HV HB
     have hcs:(V<128)\/(128<=V/\1114111<V)\/(128<=V/\V<=1114111/\V<55296)\/(128<=V/\V<=1114111/\57343<V)\/(128<=V/\V<=1114111/\55296<=V/\V<=57343):=by omega
     have HE:=af e2
     clear e2
     rcases hcs with r|r|r|r|r
     ·have z1:¬(128:Int)<=(V:Int):=by omega
      have e3:R2=false:=by rw[HE.out,eH];intro h;have:=gL.1 h;omega
      clear r
      go_wp2_with fail
      go_ret2
      exact⟨by simp[e3],rfl⟩
     ·have z1:(128:Int)<=(V:Int):=by omega
      have z2:¬(V:Int)<=1114111:=by omega
      have e3:R2=false:=by rw[HE.out,eH];intro h;have:=gL.1 h;omega
      clear r
      go_wp2_with fail
      go_ret2
      exact⟨by simp[e3],rfl⟩
     ·have z1:(128:Int)<=(V:Int):=by omega
      have z2:(V:Int)<=1114111:=by omega
      have z3:(V:Int)<55296:=by omega
      have e3:R2=true:=by rw[HE.out,gL];omega
      clear r
      go_wp2_with fail
      go_ret2
      exact⟨by simp[e3],rfl⟩
     ·have z1:(128:Int)<=(V:Int):=by omega
      have z2:(V:Int)<=1114111:=by omega
      have z3:¬(V:Int)<55296:=by omega
      have z4:(57343:Int)<(V:Int):=by omega
      have e3:R2=true:=by rw[HE.out,gL];omega
      clear r
      go_wp2_with fail
      go_ret2
      exact⟨by simp[e3],rfl⟩
     ·have z1:(128:Int)<=(V:Int):=by omega
      have z2:(V:Int)<=1114111:=by omega
      have z3:¬(V:Int)<55296:=by omega
      have z4:¬(57343:Int)<(V:Int):=by omega
      have e3:R2=false:=by rw[HE.out,eH];intro h;have:=gL.1 h;omega
      clear r
      go_wp2_with fail
      go_ret2
      exact⟨by simp[e3],rfl⟩
 ·have q1:¬(c.toNat:Int)<128:=by omega
  have q2:(192:Int)<=(c.toNat:Int):=by omega
  have q5:¬(c.toNat:Int)<224:=by omega
  have q3:(224:Int)<=(c.toNat:Int):=by omega
  have q6:(c.toNat:Int)<240:=by omega
  obtain⟨v0,hv0⟩:∃v0,Hid (c.toNat - 224=v0):=⟨_,af rfl⟩
  have hv1:IntKind.i64.wrap ((c.toNat:Int) - 224)=(v0:Int):=by rw[aM _ (by omega),<-hv0.out];omega
  have hvl:v0<64:=by rw[<-hv0.out];omega
  obtain⟨a1,a2,a3⟩:=y7 (l:=s.data.toList) (n:=3) (L:=2048) (v:=v0) (by rw[hb0,<-hv0.out];exact .inr (.inl ⟨g.1,g.2,rfl,rfl,rfl⟩))
  rw[hln] at a1 a2
  have HA:=af (aC a1 (aC a2 a3))
  clear a1 a2 a3 g hb0 hcl
  by_cases hlen:s.size<3
  ·have t1:(s.size:Int)<3:=by omega
   have e:=HA.out.2.1 hlen
   have e1:R1=0:=by rw[<-hR1.out,e]
   have e2:R2=false:=by rw[<-hR2.out,e]
   subst e1 e2
   clear e hlen hln
   go_wp2
   go_ret2
   exact⟨rfl,rfl⟩
  ·have t1:¬(s.size:Int)<3:=by omega
   have HL:=af hlen
   clear hlen hln
   go_upto_region 16 with fail
   go_upto_region 17 with fail
   go_loopw [7,8,9] (fun v i _ wr=>∃(k V:Nat),k<3/\i= .int .i64 ((k+1:Nat):Int)/\v= .int .i64 V/\Hid (V=Ij s.data.toList v0 k)/\Hid (V<64^(k+1))/\Hid (∀j,1<=j->j<k+1->128<=jQ s.data.toList j/\jQ s.data.toList j<=191)/\wr=w) (fun _ i _ _=>3 - (intOf i).toNat)
   case atStart=>exact⟨0,v0,by omega,rfl,rfl,af rfl,af (by simpa using hvl),af (fun j h1 h2=>absurd h2 (by omega)),rfl⟩
   case round=>
    obtain⟨k,V,hk,rfl,rfl,HV,HB,HJ,hwr⟩:=hrel
    subst hwr
    have hV:V<16777216:=ax HB.out (aH (mU (by omega) (show k+1<=4 by omega)) (by decide))
    by_cases hkn:k+1<3
    ·have y1:((k+1:Nat):Int)<3:=by omega
     have hkl:k+1<s.size:=by have:=HL.out;omega
     have hkl':((k+1:Nat):Int)<(s.size:Int):=by omega
     obtain⟨x,hx⟩:∃x:UInt8,s[k+1]'hkl=x:=⟨_,rfl⟩
     have hbx:jQ s.data.toList (k+1)=x.toNat:=by rw[yA s _ hkl,hx]
     have hxl:=x.toNat_lt
     have HX:=af hbx
     have hwx:IntKind.i64.wrap (x.toNat:Int)=(x.toNat:Int):=aM _ (by omega)
     obtain⟨m,hm⟩:∃m,Hid (k+1=m):=⟨_,af rfl⟩
     have hxm:s[m]'(hm.out▸hkl)=x:=by have e:=hm.out;subst e;exact hx
     have hml:m<s.size:=hm.out▸hkl
     clear hx hbx
     rw[hm.out] at y1 hkl hkl' ⊢
     by_cases h1:x.toNat<128
     ·have z1:(x.toNat:Int)<128:=by omega
      have e:=HA.out.2.2 (k+1) (by omega) hkn (by rw[HX.out];omega)
      have e1:R1=0:=by rw[<-hR1.out,e]
      have e2:R2=false:=by rw[<-hR2.out,e]
      subst e1 e2
      clear e h1 hkn
      go_wp2_with fail
      go_ret2
      exact⟨rfl,rfl⟩
     ·have z1:¬(x.toNat:Int)<128:=by omega
      by_cases h2:191<x.toNat
      ·have z2:(191:Int)<(x.toNat:Int):=by omega
       have e:=HA.out.2.2 (k+1) (by omega) hkn (by rw[HX.out];omega)
       have e1:R1=0:=by rw[<-hR1.out,e]
       have e2:R2=false:=by rw[<-hR2.out,e]
       subst e1 e2
       clear e h1 h2 hkn
       go_wp2_with fail
       go_ret2
       exact⟨rfl,rfl⟩
      ·have z2:¬(191:Int)<(x.toNat:Int):=by omega
       obtain⟨V2,hV2⟩:∃V2,Hid (V*64+x.toNat - 128=V2):=⟨_,af rfl⟩
       have z3:IntKind.i64.wrap ((V:Int)*64)=((V*64:Nat):Int):=by rw[aM _ (by omega)];omega
       have z4:IntKind.i64.wrap (((V*64:Nat):Int)+(x.toNat:Int))=((V*64+x.toNat:Nat):Int):=by rw[aM _ (by omega)];omega
       have z5:IntKind.i64.wrap (((V*64+x.toNat:Nat):Int) - 128)=(V2:Int):=by rw[aM _ (by omega),<-hV2.out];omega
       have z6:IntKind.i64.wrap (((V:Int)*64+(x.toNat:Int)) - 128)=(V2:Int):=by rw[aM _ (by omega),<-hV2.out];omega
       have z7:((V:Int)*64+(x.toNat:Int)) - 128=(V2:Int):=by rw[<-hV2.out];omega
       have H1:=af h1;have H2:=af h2;have HK:=af hkn;have HXL:=af hxl
       clear h1 h2 hkn hxl
       go_wp2_with fail
       go_roundw
       case rel=>
        refine⟨m,V2,by have:=hm.out;have:=HK.out;omega,by go_num,by trivial,af ?_,af ?_,af (fun j j1 j2=> ?_),by trivial⟩
        ·rw[<-hm.out]
         show V2=Ij s.data.toList v0 k*64+jQ s.data.toList (k+1) - 128
         rw[HX.out,<-HV.out,hV2.out]
        ·rw[<-hV2.out,<-hm.out]
         have h3:=HB.out
         have h4:=H2.out
         have e:64^(k+1+1)=64^(k+1)*64:=tQ ..
         rw[e]
         omega
        ·rw[<-hm.out] at j2
         by_cases hj:j<k+1
         ·exact HJ.out j j1 hj
         ·obtain rfl:j=k+1:=by omega
          rw[HX.out]
          have h3:=H1.out;have h4:=H2.out
          omega
       case measure=>have:=hm.out;have:=HK.out;simp[intOf];omega
    ·obtain rfl:k=2:=by omega
     have e:=HA.out.1 (Sy HL.out) HJ.out
     have e1:R1=3:=by rw[<-hR1.out,e]
     have e2:R2=yj 2048 V:=by rw[<-hR2.out,e,HV.out]
     subst e1
     clear e hkn HJ HV HB
     have hcs:(V<2048)\/(2048<=V/\1114111<V)\/(2048<=V/\V<=1114111/\V<55296)\/(2048<=V/\V<=1114111/\57343<V)\/(2048<=V/\V<=1114111/\55296<=V/\V<=57343):=by omega
     have HE:=af e2
     clear e2
     rcases hcs with r|r|r|r|r
     ·have z1:¬(2048:Int)<=(V:Int):=by omega
      have e3:R2=false:=by rw[HE.out,eH];intro h;have:=gL.1 h;omega
      clear r
      go_wp2_with fail
      go_ret2
      exact⟨by simp[e3],rfl⟩
     ·have z1:(2048:Int)<=(V:Int):=by omega
      have z2:¬(V:Int)<=1114111:=by omega
      have e3:R2=false:=by rw[HE.out,eH];intro h;have:=gL.1 h;omega
      clear r
      go_wp2_with fail
      go_ret2
      exact⟨by simp[e3],rfl⟩
     ·have z1:(2048:Int)<=(V:Int):=by omega
      have z2:(V:Int)<=1114111:=by omega
      have z3:(V:Int)<55296:=by omega
      have e3:R2=true:=by rw[HE.out,gL];omega
      clear r
      go_wp2_with fail
      go_ret2
      exact⟨by simp[e3],rfl⟩
     ·have z1:(2048:Int)<=(V:Int):=by omega
      have z2:(V:Int)<=1114111:=by omega
      have z3:¬(V:Int)<55296:=by omega
      have z4:(57343:Int)<(V:Int):=by omega
      have e3:R2=true:=by rw[HE.out,gL];omega
      clear r
      go_wp2_with fail
      go_ret2
      exact⟨by simp[e3],rfl⟩
     ·have z1:(2048:Int)<=(V:Int):=by omega
      have z2:(V:Int)<=1114111:=by omega
      have z3:¬(V:Int)<55296:=by omega
      have z4:¬(57343:Int)<(V:Int):=by omega
      have e3:R2=false:=by rw[HE.out,eH];intro h;have:=gL.1 h;omega
      clear r
      go_wp2_with fail
      go_ret2
      exact⟨by simp[e3],rfl⟩
 ·have q1:¬(c.toNat:Int)<128:=by omega
  have q2:(192:Int)<=(c.toNat:Int):=by omega
  have q5:¬(c.toNat:Int)<224:=by omega
  have q3:(224:Int)<=(c.toNat:Int):=by omega
  have q6:¬(c.toNat:Int)<240:=by omega
  have q4:(240:Int)<=(c.toNat:Int):=by omega
  have q7:(c.toNat:Int)<248:=by omega
  obtain⟨v0,hv0⟩:∃v0,Hid (c.toNat - 240=v0):=⟨_,af rfl⟩
  have hv1:IntKind.i64.wrap ((c.toNat:Int) - 240)=(v0:Int):=by rw[aM _ (by omega),<-hv0.out];omega
  have hvl:v0<64:=by rw[<-hv0.out];omega
  obtain⟨a1,a2,a3⟩:=y7 (l:=s.data.toList) (n:=4) (L:=65536) (v:=v0) (by rw[hb0,<-hv0.out];exact .inr (.inr ⟨g.1,g.2,rfl,rfl,rfl⟩))
  rw[hln] at a1 a2
  have HA:=af (aC a1 (aC a2 a3))
  clear a1 a2 a3 g hb0 hcl
  by_cases hlen:s.size<4
  ·have t1:(s.size:Int)<4:=by omega
   have e:=HA.out.2.1 hlen
   have e1:R1=0:=by rw[<-hR1.out,e]
   have e2:R2=false:=by rw[<-hR2.out,e]
   subst e1 e2
   clear e hlen hln
   go_wp2
   go_ret2
   exact⟨rfl,rfl⟩
  ·have t1:¬(s.size:Int)<4:=by omega
   have HL:=af hlen
   clear hlen hln
   go_upto_region 16 with fail
   go_upto_region 17 with fail
   go_loopw [7,8,9] (fun v i _ wr=>∃(k V:Nat),k<4/\i= .int .i64 ((k+1:Nat):Int)/\v= .int .i64 V/\Hid (V=Ij s.data.toList v0 k)/\Hid (V<64^(k+1))/\Hid (∀j,1<=j->j<k+1->128<=jQ s.data.toList j/\jQ s.data.toList j<=191)/\wr=w) (fun _ i _ _=>4 - (intOf i).toNat)
   case atStart=>exact⟨0,v0,by omega,rfl,rfl,af rfl,af (by simpa using hvl),af (fun j h1 h2=>absurd h2 (by omega)),rfl⟩
   case round=>
    obtain⟨k,V,hk,rfl,rfl,HV,HB,HJ,hwr⟩:=hrel
    subst hwr
    have hV:V<16777216:=ax HB.out (aH (mU (by omega) (show k+1<=4 by omega)) (by decide))
    by_cases hkn:k+1<4
    ·have y1:((k+1:Nat):Int)<4:=by omega
     have hkl:k+1<s.size:=by have:=HL.out;omega
     have hkl':((k+1:Nat):Int)<(s.size:Int):=by omega
     obtain⟨x,hx⟩:∃x:UInt8,s[k+1]'hkl=x:=⟨_,rfl⟩
     have hbx:jQ s.data.toList (k+1)=x.toNat:=by rw[yA s _ hkl,hx]
     have hxl:=x.toNat_lt
     have HX:=af hbx
     have hwx:IntKind.i64.wrap (x.toNat:Int)=(x.toNat:Int):=aM _ (by omega)
     obtain⟨m,hm⟩:∃m,Hid (k+1=m):=⟨_,af rfl⟩
     have hxm:s[m]'(hm.out▸hkl)=x:=by have e:=hm.out;subst e;exact hx
     have hml:m<s.size:=hm.out▸hkl
     clear hx hbx
     rw[hm.out] at y1 hkl hkl' ⊢
     by_cases h1:x.toNat<128
     ·have z1:(x.toNat:Int)<128:=by omega
      have e:=HA.out.2.2 (k+1) (by omega) hkn (by rw[HX.out];omega)
      have e1:R1=0:=by rw[<-hR1.out,e]
      have e2:R2=false:=by rw[<-hR2.out,e]
      subst e1 e2
      clear e h1 hkn
      go_wp2_with fail
      go_ret2
      exact⟨rfl,rfl⟩
     ·have z1:¬(x.toNat:Int)<128:=by omega
      by_cases h2:191<x.toNat
      ·have z2:(191:Int)<(x.toNat:Int):=by omega
       have e:=HA.out.2.2 (k+1) (by omega) hkn (by rw[HX.out];omega)
       have e1:R1=0:=by rw[<-hR1.out,e]
       have e2:R2=false:=by rw[<-hR2.out,e]
       subst e1 e2
       clear e h1 h2 hkn
       go_wp2_with fail
       go_ret2
       exact⟨rfl,rfl⟩
      ·have z2:¬(191:Int)<(x.toNat:Int):=by omega
       obtain⟨V2,hV2⟩:∃V2,Hid (V*64+x.toNat - 128=V2):=⟨_,af rfl⟩
       have z3:IntKind.i64.wrap ((V:Int)*64)=((V*64:Nat):Int):=by rw[aM _ (by omega)];omega
       have z4:IntKind.i64.wrap (((V*64:Nat):Int)+(x.toNat:Int))=((V*64+x.toNat:Nat):Int):=by rw[aM _ (by omega)];omega
       have z5:IntKind.i64.wrap (((V*64+x.toNat:Nat):Int) - 128)=(V2:Int):=by rw[aM _ (by omega),<-hV2.out];omega
       have z6:IntKind.i64.wrap (((V:Int)*64+(x.toNat:Int)) - 128)=(V2:Int):=by rw[aM _ (by omega),<-hV2.out];omega
       have z7:((V:Int)*64+(x.toNat:Int)) - 128=(V2:Int):=by rw[<-hV2.out];omega
       have H1:=af h1;have H2:=af h2;have HK:=af hkn;have HXL:=af hxl
       clear h1 h2 hkn hxl
       go_wp2_with fail
       go_roundw
       case rel=>
        refine⟨m,V2,by have:=hm.out;have:=HK.out;omega,by go_num,by trivial,af ?_,af ?_,af (fun j j1 j2=> ?_),by trivial⟩
        ·rw[<-hm.out]
         show V2=Ij s.data.toList v0 k*64+jQ s.data.toList (k+1) - 128
         rw[HX.out,<-HV.out,hV2.out]
        ·rw[<-hV2.out,<-hm.out]
         have h3:=HB.out
         have h4:=H2.out
         have e:64^(k+1+1)=64^(k+1)*64:=tQ ..
         rw[e]
         omega
        ·rw[<-hm.out] at j2
         by_cases hj:j<k+1
         ·exact HJ.out j j1 hj
         ·obtain rfl:j=k+1:=by omega
          rw[HX.out]
          have h3:=H1.out;have h4:=H2.out
          omega
       case measure=>have:=hm.out;have:=HK.out;simp[intOf];omega
    ·obtain rfl:k=3:=by omega
     have e:=HA.out.1 (Sy HL.out) HJ.out
     have e1:R1=4:=by rw[<-hR1.out,e]
     have e2:R2=yj 65536 V:=by rw[<-hR2.out,e,HV.out]
     subst e1
     clear e hkn HJ HV HB
     have hcs:(V<65536)\/(65536<=V/\1114111<V)\/(65536<=V/\V<=1114111/\V<55296)\/(65536<=V/\V<=1114111/\57343<V)\/(65536<=V/\V<=1114111/\55296<=V/\V<=57343):=by omega
     have HE:=af e2
     clear e2
     rcases hcs with r|r|r|r|r
     ·have z1:¬(65536:Int)<=(V:Int):=by omega
      have e3:R2=false:=by rw[HE.out,eH];intro h;have:=gL.1 h;omega
      clear r
      go_wp2_with fail
      go_ret2
      exact⟨by simp[e3],rfl⟩
     ·have z1:(65536:Int)<=(V:Int):=by omega
      have z2:¬(V:Int)<=1114111:=by omega
      have e3:R2=false:=by rw[HE.out,eH];intro h;have:=gL.1 h;omega
      clear r
      go_wp2_with fail
      go_ret2
      exact⟨by simp[e3],rfl⟩
     ·have z1:(65536:Int)<=(V:Int):=by omega
      have z2:(V:Int)<=1114111:=by omega
      have z3:(V:Int)<55296:=by omega
      have e3:R2=true:=by rw[HE.out,gL];omega
      clear r
      go_wp2_with fail
      go_ret2
      exact⟨by simp[e3],rfl⟩
     ·have z1:(65536:Int)<=(V:Int):=by omega
      have z2:(V:Int)<=1114111:=by omega
      have z3:¬(V:Int)<55296:=by omega
      have z4:(57343:Int)<(V:Int):=by omega
      have e3:R2=true:=by rw[HE.out,gL];omega
      clear r
      go_wp2_with fail
      go_ret2
      exact⟨by simp[e3],rfl⟩
     ·have z1:(65536:Int)<=(V:Int):=by omega
      have z2:(V:Int)<=1114111:=by omega
      have z3:¬(V:Int)<55296:=by omega
      have z4:¬(57343:Int)<(V:Int):=by omega
      have e3:R2=false:=by rw[HE.out,eH];intro h;have:=gL.1 h;omega
      clear r
      go_wp2_with fail
      go_ret2
      exact⟨by simp[e3],rfl⟩
def rG (l:List UInt8)(c:Nat):Bool:=l.any fun x=>decide (x.toNat=c)
theorem GK {l:List UInt8}{c:Nat}:rG l c=true↔∃x∈l,x.toNat=c:=by simp[rG]
theorem QW (s:ByteArray)(c:Nat)(w:World)(hs:s.size<=9223372036854775807):
  Calls Tryz.prog 47 #[.string s,.int .u8 (c:Int)] w fun e w'=>e= .returned (.bool (rG s.data.toList c))/\w'=w:=by
 have hln:=kr s
 obtain⟨R,hR⟩:∃R,Hid (rG s.data.toList c=R):=⟨_,af rfl⟩
 rw[hR.out]
 go_enter Tryz.func47,Tryz.ntmps47
 go_upto_region 2 with fail
 go_loopw [5] (fun i wr=>∃k:Nat,k<=s.size/\i= .int .i64 k/\Hid (∀j (h:j<s.size),j<k->(s[j]'h).toNat≠c)/\wr=w) (fun i _=>s.size - (intOf i).toNat)
 case atStart=>exact⟨0,aX _,rfl,af (fun j _ h=>absurd h (oG _)),rfl⟩
 case round=>
  obtain⟨k,hk,rfl,HJ,hwr⟩:=hrel
  subst hwr
  by_cases hkl:k<s.size
  ·have hkl':(k:Int)<(s.size:Int):=by omega
   obtain⟨x,hx⟩:∃x:UInt8,s[k]'hkl=x:=⟨_,rfl⟩
   by_cases he:x.toNat=c
   ·have q1:((x.toNat:Int)==(c:Int))=true:=ja.2 (by omega)
    have hr:R=true:=by
     rw[<-hR.out,GK]
     exact⟨x,kN (by rw[<-hx];exact Lib.data_getElem? s k hkl),he⟩
    clear he hln
    go_wp2_with fail
    go_ret
    exact⟨by simp[hr],rfl⟩
   ·have q1:((x.toNat:Int)==(c:Int))=false:=cu.2 (by omega)
    have HE:=af he;have HX:=af hx
    clear he hln
    go_wp2_with fail
    go_roundw
    case rel=>
     refine⟨k+1,by omega,by go_num,af (fun j hj h=> ?_),by trivial⟩
     rcases qQ.1 h with h|rfl
     ·exact HJ.out j hj h
     ·rw[HX.out];exact HE.out
    case measure=>simp[intOf];omega
  ·obtain rfl:k=s.size:=by omega
   have x2:¬(s.size:Int)<(s.size:Int):=by omega
   have hr:R=false:=by
    rw[<-hR.out,eH]
    intro h
    obtain⟨x,hx,hc⟩:=GK.1 h
    obtain⟨j,hj,e⟩:=gU hx
    have hj':j<s.size:=by rw[<-hln];exact hj
    have e2:=Lib.data_getElem? s j hj'
    rw[aW hj] at e2
    have e3:=iB e2
    exact HJ.out j hj' hj' (by rw[<-e3,e];exact hc)
   clear hln
   go_wp2_with fail
   go_ret
   exact⟨by simp[hr],rfl⟩
theorem RY (s:ByteArray)(w:World)(hs:s.size<=9223372036854775807):
  Calls Tryz.prog 48 #[.string s] w fun e w'=>e= .returned (.bool (Lib.validD s.data.toList))/\w'=w:=by
 have hln:=kr s
 obtain⟨R,hR⟩:∃R,Hid (Lib.validD s.data.toList=R):=⟨_,af rfl⟩
 rw[hR.out]
 have HLN:=af hln
 clear hln
 go_enter Tryz.func48,Tryz.ntmps48
 go_upto_region 2 with fail
 go_loopw [3,4,5] (fun i _ _ wr=>∃k:Nat,k<=s.size/\i= .int .i64 k/\Hid (Lib.validD (s.data.toList.drop k)=R)/\wr=w) (fun i _ _ _=>s.size - (intOf i).toNat)
 case atStart=>exact⟨0,aX _,rfl,af (by rw[fo];exact hR.out),rfl⟩
 case round=>
  obtain⟨k,hk,rfl,HV,hwr⟩:=hrel
  subst hwr
  by_cases hkl:k<s.size
  ·have hkl':(k:Int)<(s.size:Int):=by omega
   have hk2:(k:Int)<=(s.size:Int):=by omega
   obtain⟨p,hp⟩:∃p,s.extract k s.size=p:=⟨_,rfl⟩
   have hpl:p.data.toList=s.data.toList.drop k:=by
    rw[<-hp,oz,pU]
    exact aQ (by rw[aR,HLN.out];exact aG _)
   have hps:p.size=s.size - k:=by rw[<-kr,hpl,aR,HLN.out]
   have hne:p.data.toList≠[]:=fun e=>by
    have:=kr p
    rw[e] at this;simp at this;omega
   have hv:=IK p.data.toList hne
   have hw:=Jf p.data.toList hne
   rw[kr] at hw
   have hc:=Qv p wr (by omega) (by omega)
   obtain⟨n,hn⟩:∃n,(nY p.data.toList).1=n:=⟨_,rfl⟩
   obtain⟨g,hg⟩:∃g,(nY p.data.toList).2=g:=⟨_,rfl⟩
   rw[hn,hg] at hc hv hw
   have hV:=HV.out
   rw[<-hpl,hv] at hV
   have HC:=af hc;have HW:=af hw;have HVV:=af hV;have HPL:=af hpl;have HPS:=af hps
   clear hc hw hv hn hg hpl hps hne hV
   cases g with
   |false=>
    have hr:R=false:=by rw[<-HVV.out];rfl
    go_wp2_with (first
     |(go_at_call 78;go_must (refine HC.out.mono ?_;rintro e w1 ⟨rfl,hw1⟩;subst w1)))
    go_ret
    exact⟨by simp[hr],rfl⟩
   |true=>
    obtain⟨n1,n2⟩:=HW.out rfl
    have z1:IntKind.i64.wrap ((k:Int)+(n:Int))=((k+n:Nat):Int):=by have:=HPS.out;rw[aM _ (by omega)];omega
    have HN:=af (aC n1 n2)
    clear n1 n2
    go_wp2_with (first
     |(go_at_call 78;go_must (refine HC.out.mono ?_;rintro e w1 ⟨rfl,hw1⟩;subst w1)))
    go_roundw
    case rel=>
     refine⟨k+n,by have:=HN.out;have:=HPS.out;omega,by first|rfl|go_num|simp,af ?_,by trivial⟩
     rw[<-K6,<-HPL.out]
     simpa using HVV.out
    case measure=>have:=HN.out;have:=HPS.out;simp[intOf];omega
  ·obtain rfl:k=s.size:=by omega
   have x2:¬(s.size:Int)<(s.size:Int):=by omega
   have hr:R=true:=by
    rw[<-HV.out,<-HLN.out,ku];rfl
   go_wp2_with fail
   go_ret
   exact⟨by simp[hr],rfl⟩
theorem Mv (b:UInt8)(l cs:List UInt8):Lib.containsAny (b::l) cs=(cs.contains b||Lib.containsAny l cs):=by
 have h:=Lib.indexAny_ge cs l
 unfold Lib.containsAny
 rw[Lib.indexAny]
 cases hc:cs.contains b with
 |true=>simp
 |false=>
  rw[if_neg (by simp),Bool.false_or]
  rw[decide_eq_decide]
  split
  ·rename_i e
   have:=ja.1 e
   omega
  ·rename_i e
   have:¬Lib.indexAny l cs= -1:=fun x=>e (ja.2 x)
   omega
theorem KI:∀l:List UInt8,Lib.containsAny l [47,0]=(rG l 0||rG l 47)
 |[]=>by decide
 |b::l=>by
  have e0:rG (b::l) 0=(decide (b.toNat=0)||rG l 0):=by simp[rG]
  have e1:rG (b::l) 47=(decide (b.toNat=47)||rG l 47):=by simp[rG]
  have e2:([47,0]:List UInt8).contains b=(decide (b.toNat=47)||decide (b.toNat=0)):=by
   have q1:(b=47)=(b.toNat=47):=propext ⟨fun h=>by rw[h];rfl,fun h=>rq.1 (by rw[h];rfl)⟩
   have q2:(b=0)=(b.toNat=0):=propext ⟨fun h=>by rw[h];rfl,fun h=>rq.1 (by rw[h];rfl)⟩
   rw[Ir]
   simp[q1,q2]
  rw[Mv,KI l,e0,e1,e2]
  cases rG l 0<;>cases rG l 47<;>cases decide (b.toNat=0)<;>cases decide (b.toNat=47)<;>rfl
theorem RZ (pv:Value)(path:List ByteArray)(S:Nat->Prop)(w:World)(hp:gY w S pv path)(hs:∀s∈path,s.size<=9223372036854775807):
  Calls Tryz.prog 28 #[pv] w fun e w'=>e= .returned (.bool (pq path))/\w'=w:=by
 obtain⟨po,pc,rfl,h1,h2,_,_⟩:=cZ.form hp
 have HP:=af hp;have HS:=af hs
 obtain⟨R,hR⟩:∃R,Hid (pq path=R):=⟨_,af rfl⟩
 rw[hR.out]
 clear hp hs
 go_enter Tryz.func28,Tryz.ntmps28
 go_upto_region 2 with (fail)
 go_loopw [3,4] (fun i _ wr=>∃k:Nat,k<=path.length/\i= .int .i64 k/\Hid ((path.take k).all zY=true)/\wr=w) (fun i _ _=>path.length - (intOf i).toNat)
 case atStart=>exact⟨0,aX _,rfl,af rfl,rfl⟩
 case round=>
  obtain⟨k,hk,rfl,HALL,hwr⟩:=hrel
  subst hwr
  by_cases hkl:k<path.length
  ·have hkl':(k:Int)<(path.length:Int):=by omega
   obtain⟨ga,oa,rfl,da⟩:=cZ.yD HP.out rfl k (.string path[k]) (by rw[di,aW hkl];rfl)
   have la:=aD wr _ da
   have htk:path.take (k+1)=path.take k++[path[k]]:=aI hkl
   have hsz:=HS.out path[k] (bD hkl)
   have hmem:=bD hkl
   obtain⟨sg,hsg⟩:∃sg,Hid (path[k]=sg):=⟨_,af rfl⟩
   rw[hsg.out] at da htk hsz hmem
   have hc0:Calls Tryz.prog 47 #[.string sg,.int .u8 0] wr fun e w'=>e= .returned (.bool (rG sg.data.toList 0))/\w'=wr:=QW sg 0 wr hsz
   have hc47:Calls Tryz.prog 47 #[.string sg,.int .u8 47] wr fun e w'=>e= .returned (.bool (rG sg.data.toList 47))/\w'=wr:=QW sg 47 wr hsz
   have hcu:=RY sg wr hsz
   have hcases:zY sg=true->R=R:=fun _=>rfl
   have hbad:zY sg=false->R=false:=fun h=>by
    rw[<-hR.out]
    unfold pq
    rw[oW]
    left
    rw[Co]
    exact⟨sg,hmem,by rw[h];simp⟩
   have hsegE:zY sg=(decide (0<sg.size) && (!decide (sg=⟨#[46]⟩) && (!decide (sg=⟨#[46,46]⟩) && (decide (sg.size<=64) && (Lib.validD sg.data.toList && !(rG sg.data.toList 0||rG sg.data.toList 47)))))):=by rw[<-KI];rfl
   rw[yZ] at hsegE
   obtain⟨H0,e0⟩:∃H,rG sg.data.toList 0=H:=⟨_,rfl⟩
   obtain⟨H47,e47⟩:∃H,rG sg.data.toList 47=H:=⟨_,rfl⟩
   obtain⟨U,eU⟩:∃U,Lib.validD sg.data.toList=U:=⟨_,rfl⟩
   rw[e0] at hc0 hsegE;rw[e47] at hc47 hsegE;rw[eU] at hcu hsegE
   clear e0 e47 eU
   have tl:∀l:List UInt8,sg.toList=l↔sg=⟨l.toArray⟩:=fun l=>by
    rw[Lib.toList_data]
    constructor
    ·intro h;cases sg;exact congrArg ByteArray.mk (pV (by simpa using h))
    ·intro h;rw[h]
   have t1:=tl [46]
   have t2:=tl [46,46]
   obtain⟨D1,hD1⟩:∃D,decide (sg=⟨#[46]⟩)=D:=⟨_,rfl⟩
   obtain⟨D2,hD2⟩:∃D,decide (sg=⟨#[46,46]⟩)=D:=⟨_,rfl⟩
   rw[hD1,hD2] at hsegE
   have f1:(sg.toList=[46])=(D1=true):=by rw[<-hD1,bY];exact propext t1
   have f2:(sg.toList=[46,46])=(D2=true):=by rw[<-hD2,bY];exact propext t2
   obtain⟨E,hE⟩:∃E,sg.toList.isEmpty=E:=⟨_,rfl⟩
   rw[hE] at hsegE
   have HC0:=af hc0;have HC47:=af hc47;have HCU:=af hcu;have HSE:=af hsegE;have HBAD:=af hbad
   have HX:=af (aC htk hmem)
   clear hD1 hD2 t1 t2 tl hc0 hc47 hcu hsegE hbad hcases htk hmem
   cases E with
   |true=>
    have hr:=HBAD.out (by rw[HSE.out];rfl)
    clear f1 f2
    go_wp2_with fail
    go_ret
    exact⟨by simp[hr],rfl⟩
   |false=>
   cases D1 with
   |true=>
    have g1:sg.toList=[46]:=f1▸rfl
    have hr:=HBAD.out (by rw[HSE.out];simp)
    clear f1 f2
    go_wp2_with fail
    go_ret
    exact⟨by simp[hr],rfl⟩
   |false=>
   have g1:¬sg.toList=[46]:=by rw[f1];simp
   have b1:(sg.toList==[46])=false:=cu.2 g1
   cases D2 with
   |true=>
    have g2:sg.toList=[46,46]:=f2▸rfl
    have hr:=HBAD.out (by rw[HSE.out];simp)
    clear f1 f2
    go_wp2_with fail
    go_ret
    exact⟨by simp[hr],rfl⟩
   |false=>
   have g2:¬sg.toList=[46,46]:=by rw[f2];simp
   have b2:(sg.toList==[46,46])=false:=cu.2 g2
   clear f1 f2
   by_cases h64:64<sg.size
   ·have hz:(64:Int)<(sg.size:Int):=by omega
    have hr:=HBAD.out (by rw[HSE.out,aZ (by omega)];simp)
    clear h64
    go_wp2_with fail
    go_ret
    exact⟨by simp[hr],rfl⟩
   have hz:¬(64:Int)<(sg.size:Int):=by omega
   have hle:decide (sg.size<=64)=true:=bZ (by omega)
   have HLE:=af hle
   clear hle h64
   cases H0 with
   |true=>
    have hr:=HBAD.out (by rw[HSE.out];simp)
    go_wp2_with (first
     |(go_at_call 47;go_must (refine HC0.out.mono ?_;rintro e w3 ⟨rfl,hw3⟩;subst w3)))
    go_ret
    exact⟨by simp[hr],rfl⟩
   |false=>
   cases H47 with
   |true=>
    have hr:=HBAD.out (by rw[HSE.out];simp)
    go_wp2_with (first
     |(go_at_call 47;go_must (refine HC0.out.mono ?_;rintro e w3 ⟨rfl,hw3⟩;subst w3;refine Stop.of ?_)))
    refine Stop.on ?_
    go_wp2_with (first
     |(go_at_call 47;go_must (refine HC47.out.mono ?_;rintro e w3 ⟨rfl,hw3⟩;subst w3)))
    go_ret
    exact⟨by simp[hr],rfl⟩
   |false=>
   cases U with
   |false=>
    have hr:=HBAD.out (by rw[HSE.out];simp)
    go_wp2_with (first
     |(go_at_call 47;go_must (refine HC0.out.mono ?_;rintro e w3 ⟨rfl,hw3⟩;subst w3;refine Stop.of ?_)))
    refine Stop.on ?_
    go_wp2_with (first
     |(go_at_call 47;go_must (refine HC47.out.mono ?_;rintro e w3 ⟨rfl,hw3⟩;subst w3;refine Stop.of ?_)))
    refine Stop.on ?_
    go_wp2_with (first
     |(go_at_call 48;go_must (refine HCU.out.mono ?_;rintro e w3 ⟨rfl,hw3⟩;subst w3)))
    go_ret
    exact⟨by simp[hr],rfl⟩
   |true=>
    have hsg2:zY sg=true:=by rw[HSE.out,HLE.out];rfl
    have HG:=af hsg2
    clear hsg2
    go_wp2_with (first
     |(go_at_call 47;go_must (refine HC0.out.mono ?_;rintro e w3 ⟨rfl,hw3⟩;subst w3;refine Stop.of ?_)))
    refine Stop.on ?_
    go_wp2_with (first
     |(go_at_call 47;go_must (refine HC47.out.mono ?_;rintro e w3 ⟨rfl,hw3⟩;subst w3;refine Stop.of ?_)))
    refine Stop.on ?_
    go_wp2_with (first
     |(go_at_call 48;go_must (refine HCU.out.mono ?_;rintro e w3 ⟨rfl,hw3⟩;subst w3)))
    go_roundw
    case rel=>
     refine⟨k+1,by omega,by go_num,af ?_,by trivial⟩
     rw[HX.out.1,Iq,HALL.out]
     simp[HG.out]
    case measure=>simp[intOf];omega
  ·obtain rfl:k=path.length:=by omega
   have x2:¬(path.length:Int)<(path.length:Int):=by omega
   have hall:=HALL.out
   rw[bP] at hall
   have HX:=af hall
   clear hall
   by_cases h12:path.length<=12
   ·have hz:(path.length:Int)<=12:=by omega
    have hr:R=true:=by rw[<-hR.out];unfold pq;rw[HX.out,bZ h12];rfl
    clear h12
    go_wp2_with (fail)
    go_ret
    exact⟨by simp[hr],rfl⟩
   ·have hz:¬(path.length:Int)<=12:=by omega
    have hr:R=false:=by rw[<-hR.out];unfold pq;rw[HX.out,aZ h12];rfl
    clear h12
    go_wp2_with (fail)
    go_ret
    exact⟨by simp[hr],rfl⟩
theorem Qw (l:bI)(pv:Value)(S:Nat->Prop)(w:World)(hp:gY w S pv l.path)(hs:l.Ik):
  Calls Tryz.prog 11 #[p8 l pv] w fun e w'=>e= .returned (.bool l.good)/\Below w.heap.size w w':=by
 obtain⟨R,hR⟩:∃R,Hid (l.good=R):=⟨_,af rfl⟩
 rw[hR.out]
 obtain⟨tk,pt,dp,ex,ow,ti⟩:=l
 obtain⟨h1,h2,h3⟩:=hs
 dsimp only at hp h1 h2 h3
 obtain⟨po,pc,rfl,hn1,hn2,_,_⟩:=cZ.form hp
 have hbA:=aK w (.cells #[.string tk,.slice po pt.length pc,.bool dp,.bool ex,.string ow,.int .i64 ti] 24)
 have hnA:=aP w (.cells #[.string tk,.slice po pt.length pc,.bool dp,.bool ex,.string ow,.int .i64 ti] 24)
 obtain⟨wA,hwA⟩:∃wA:World,Hid (w.alloc (.cells #[.string tk,.slice po pt.length pc,.bool dp,.bool ex,.string ow,.int .i64 ti] 24)=wA):=⟨_,af rfl⟩
 rw[hwA.out] at hbA hnA
 obtain⟨lb,hlb⟩:∃lb:Nat,Hid (w.heap.size=lb):=⟨_,af rfl⟩
 rw[hlb.out] at hnA
 obtain⟨e0,e1,e2,e3,e4,e5,le⟩:=bW hnA
 have hug:Calls Tryz.prog 28 #[.slice po pt.length pc] wA fun e w'=>e= .returned (.bool (pq pt))/\Below wA.heap.size wA w':=(RZ (.slice po pt.length pc) pt S wA (cZ.below hp hbA) h3).mono (fun _ _ h=>⟨h.1,h.2▸aO _ _⟩)
 have HB:=af hbA
 have hz1:(tk.size:Int)<=9223372036854775807:=by omega
 have hz2:(ow.size:Int)<=9223372036854775807:=by omega
 have HZ:=af (aC h1 (aC hz1 hz2))
 clear hbA hp hnA h1 h2 h3 hz1 hz2
 unfold p8
 dsimp only
 go_enter Tryz.func11,Tryz.ntmps11
 go_upto_region 1 with (fail)
 rw[hwA.out,hlb.out]
 go_upto_region 2 with (fail)
 go_loopw [3,4] (fun i _ wr=>∃k:Nat,k<=tk.size/\i= .int .i64 k/\(tk.data.toList.take k).all qU=true/\wr=wA) (fun i _ _=>tk.size - (intOf i).toNat)
 case atStart=>exact⟨0,aX _,rfl,rfl,rfl⟩
 case round=>
  obtain⟨k,hk,rfl,hall,hwr⟩:=hrel
  subst wr
  by_cases hkl:k<tk.size
  ·have hkl':(k:Int)<(tk.size:Int):=by omega
   obtain⟨x,hx⟩:∃x:UInt8,tk[k]'hkl=x:=⟨_,rfl⟩
   have hxl:tk.data.toList[k]? =some x:=by rw[<-hx];exact Lib.data_getElem? tk k hkl
   have hkl2:k<tk.data.toList.length:=by rw[kr];exact hkl
   have htk:tk.data.toList.take (k+1)=tk.data.toList.take k++[x]:=by
    rw[aI hkl2]
    rw[aW hkl2] at hxl
    rw[iB hxl]
   have bad:qU x=false->R=false:=by
    intro hx
    rw[<-hR.out]
    unfold bI.good
    rw[oW]
    left
    rw[Co]
    exact⟨x,kN hxl,by rw[hx];simp⟩
   have HX:=af (aC htk (aC hall bad))
   clear htk hall bad hxl hkl2
   have hcs:qU x=true\/x.toNat<33\/(33<=x.toNat/\126<x.toNat)\/x.toNat=60\/x.toNat=62:=by
    by_cases h:qU x=true
    ·exact .inl h
    ·right
     unfold qU at h
     rw[bY] at h
     omega
   rcases hcs with hc|hc|hc|hc|hc
   ·have hc2:=hc
    unfold qU at hc2
    rw[bY] at hc2
    have q1:¬(x.toNat:Int)<33:=by omega
    have q2:¬(126:Int)<(x.toNat:Int):=by omega
    have q3:((x.toNat:Int)==60)=false:=cu.2 (by omega)
    have q4:((x.toNat:Int)==62)=false:=cu.2 (by omega)
    have HC:=af hc
    have hz1:=HZ.out.1
    clear hc hc2
    go_wp2_with (fail)
    go_roundw
    case rel=>
     refine⟨k+1,by omega,by go_num,?_,by trivial⟩
     rw[HX.out.1,Iq,HX.out.2.1]
     simp[HC.out]
    case measure=>simp[intOf];omega
   ·have q1:(x.toNat:Int)<33:=by omega
    have hr:=HX.out.2.2 (by unfold qU;rw[aZ];omega)
    go_wp2_with (fail)
    go_ret
    exact⟨by simp[hr],HB.out⟩
   ·have q1:¬(x.toNat:Int)<33:=by omega
    have q2:(126:Int)<(x.toNat:Int):=by omega
    have hr:=HX.out.2.2 (by unfold qU;rw[aZ];omega)
    go_wp2_with (fail)
    go_ret
    exact⟨by simp[hr],HB.out⟩
   ·have q1:¬(x.toNat:Int)<33:=by omega
    have q2:¬(126:Int)<(x.toNat:Int):=by omega
    have q3:((x.toNat:Int)==60)=true:=ja.2 (by omega)
    have hr:=HX.out.2.2 (by unfold qU;rw[aZ];omega)
    clear hc
    go_wp2_with (fail)
    go_ret
    exact⟨by simp[hr],HB.out⟩
   ·have q1:¬(x.toNat:Int)<33:=by omega
    have q2:¬(126:Int)<(x.toNat:Int):=by omega
    have q3:((x.toNat:Int)==60)=false:=cu.2 (by omega)
    have q4:((x.toNat:Int)==62)=true:=ja.2 (by omega)
    have hr:=HX.out.2.2 (by unfold qU;rw[aZ];omega)
    clear hc
    go_wp2_with (fail)
    go_ret
    exact⟨by simp[hr],HB.out⟩
  ·obtain rfl:k=tk.size:=by omega
   have x2:¬(tk.size:Int)<(tk.size:Int):=by omega
   rw[<-kr,bP] at hall
   have hr:R=(decide (0<tk.size) && (decide (tk.size<=60) && (pq pt && decide (ow.size<=512)))):=by
    rw[<-hR.out]
    unfold bI.good
    rw[hall]
    rfl
   have HR:=af hr
   obtain⟨G,hG⟩:∃G,Hid (pq pt=G):=⟨_,af rfl⟩
   rw[hG.out] at hug HR
   have HUG:=af hug
   clear hr hall hug
   by_cases h0:0<tk.size
   rotate_left
   ·have q0:¬(0:Int)<(tk.size:Int):=by omega
    rw[aZ h0] at HR
    clear h0
    go_wp2_with (fail)
    go_ret
    exact⟨by simp[HR.out],HB.out⟩
   ·have q0:(0:Int)<(tk.size:Int):=by omega
    rw[bZ h0] at HR
    clear h0
    by_cases h60:tk.size<=60
    ·have q1:(tk.size:Int)<=60:=by omega
     rw[bZ h60] at HR
     clear h60
     cases G with
     |false=>
      go_wp2_with (first
       |(go_at_call 28;go_must (refine HUG.out.mono ?_;rintro e w3 ⟨rfl,hb3⟩)))
      go_ret
      exact⟨by simp[HR.out],HB.out.trans (hb3.mono HB.out.size)⟩
     |true=>
      by_cases h512:ow.size<=512
      ·have q2:(ow.size:Int)<=512:=by omega
       rw[bZ h512] at HR
       clear h512
       go_wp2_with (first
        |(go_at_call 28;go_must (refine HUG.out.mono ?_;rintro e w3 ⟨rfl,hb3⟩;have c4:=(hb3.cell (p:=⟨lb,4,none⟩) le).trans e4;have l4:=ax le hb3.size)))
       go_ret
       exact⟨by simp[HR.out],HB.out.trans (hb3.mono HB.out.size)⟩
      ·have q2:¬(ow.size:Int)<=512:=by omega
       rw[aZ h512] at HR
       clear h512
       go_wp2_with (first
        |(go_at_call 28;go_must (refine HUG.out.mono ?_;rintro e w3 ⟨rfl,hb3⟩;have c4:=(hb3.cell (p:=⟨lb,4,none⟩) le).trans e4;have l4:=ax le hb3.size)))
       go_ret
       exact⟨by simp[HR.out];omega,HB.out.trans (hb3.mono HB.out.size)⟩
    ·have q1:¬(tk.size:Int)<=60:=by omega
     rw[aZ h60] at HR
     clear h60
     go_wp2_with (fail)
     go_ret
     exact⟨by simp[HR.out],HB.out⟩
theorem R3 (lv pv tv:Value)(ps:List LP)(path tokens:List ByteArray)(S S1 S2:Nat->Prop)(w:World)(hl:tL w S lv ps)(hp:gY w S1 pv path)(ht:gY w S2 tv tokens):
  Calls Tryz.prog 17 #[lv,pv,tv] w fun e w'=>e= .returned (.bool (uL (ps.map (·.1)) path tokens))/\Below w.heap.size w w':=by
 obtain⟨lo,lc,rfl,hl1,hl2,_,_⟩:=cZ.form hl.1
 obtain⟨tao,tc,rfl,ht1,ht2,_,_⟩:=cZ.form ht
 obtain⟨R,hR⟩:∃R,Hid (uL (ps.map (·.1)) path tokens=R):=⟨_,af rfl⟩
 rw[hR.out]
 have HL:=af hl;have HP:=af hp;have HT:=af ht
 clear hl hp ht
 go_enter Tryz.func17,Tryz.ntmps17
 go_upto_region 3 with fail
 go_loopw [7,8,9] (fun c i _ wr=>∃k:Nat,k<=ps.length/\i= .int .i64 k/\c= .bool ((ps.take k).any fun p=>p.1.covers path)/\Hid (∀p∈ps.take k,(p.1.covers path && CO tokens p.1.token)=false)/\Hid (Below w.heap.size w wr)) (fun _ i _ _=>ps.length - (intOf i).toNat)
 case atStart=>exact⟨0,aX _,rfl,by simp,af (by simp),af (aO _ _)⟩
 case round=>
  obtain⟨k,hk,rfl,rfl,HNO,HBW⟩:=hrel
  obtain⟨c,hc⟩:∃c,Hid (((ps.take k).any fun p=>p.1.covers path)=c):=⟨_,af rfl⟩
  rw[hc.out]
  by_cases hkl:k<ps.length
  ·have hkl':(k:Int)<(ps.length:Int):=by omega
   obtain⟨b,o,rfl,d0,d1,d2,d3,d4,d5⟩:=(HL.out.below HBW.out).at rfl k hkl
   obtain⟨T,hT⟩:=(HL.out.below HBW.out).2 _ (bD hkl)
   have htk:ps.take (k+1)=ps.take k++[ps[k]]:=aI hkl
   have hmem:ps[k].1∈ps.map (·.1):=dL.2 ⟨_,bD hkl,rfl⟩
   generalize ps[k]=p at d0 d1 d2 d3 d4 d5 hT htk hmem
   have hbl:=aD wr _ d0
   have hcov:=yw p.1 p.2 pv path T S1 wr hT (cZ.below HP.out HBW.out)
   obtain⟨C,hC⟩:∃C,Hid (p.1.covers path=C):=⟨_,af rfl⟩
   rw[hC.out] at hcov
   unfold p8 at hcov
   have HCV:=af hcov
   have HM:=af (aC htk hmem)
   have hform:=cZ.form hT
   clear hcov hT htk hmem
   obtain⟨⟨tk,pt,dp,ex,ow,ti⟩,qv⟩:=p
   dsimp only at d0 d1 d2 d3 d4 d5 HCV hC HM hform
   obtain⟨qo,qc,rfl,_,_,_,_⟩:=hform
   cases C with
   |false=>
    go_wp2_with (first
     |(go_at_call 13;go_must (refine HCV.out.mono ?_;rintro e w3 ⟨rfl,hb3⟩;refine Stop.of ?_)))
    refine Stop.on ?_
    have HB3:=af (HBW.out.trans (hb3.mono HBW.out.size))
    clear hb3 d0 d1 d2 d3 d4 d5 hbl
    go_wp2_with fail
    go_roundw
    case rel=>
     refine⟨k+1,by omega,by go_num,?_,af (fun q hq=> ?_),HB3⟩
     ·rw[HM.out.1,ru,hc.out];simp[hC.out]
     ·rw[HM.out.1] at hq
      rcases bO.1 hq with hq|hq
      ·exact HNO.out q hq
      ·rw[bK.1 hq]
       show (_ && _)=false
       rw[hC.out];rfl
    case measure=>simp[intOf];omega
   |true=>
    go_wp2_with (first
     |(go_at_call 13;go_must (refine HCV.out.mono ?_;rintro e w3 ⟨rfl,hb3⟩;refine Stop.of ?_)))
    refine Stop.on ?_
    have HB3:=af (HBW.out.trans (hb3.mono HBW.out.size))
    have e0:=(hb3.cell (p:=⟨b,o+k*6,none⟩) hbl).trans d0
    have hb3l:=ax hbl hb3.size
    clear hb3 d0 d1 d2 d3 d4 d5 hbl
    go_upto_region 8 with fail
    go_loopw [9] (fun j wk=>∃m:Nat,m<=tokens.length/\j= .int .i64 m/\Hid (∀x∈tokens.take m,x≠tk)/\Hid (Below w.heap.size w wk)/\Hid (Below w3.heap.size w3 wk)) (fun j _=>tokens.length - (intOf j).toNat)
    case atStart=>exact⟨0,aX _,rfl,af (by simp),HB3,af (aO _ _)⟩
    case round=>
     obtain⟨m,hm,rfl,HNE,HBK,HB3K⟩:=hrel
     by_cases hml:m<tokens.length
     ·have hml':(m:Int)<(tokens.length:Int):=by omega
      obtain⟨ga,oa,rfl,da⟩:=cZ.yD (cZ.below HT.out HBK.out) rfl m (.string tokens[m]) (by rw[di,aW hml];rfl)
      have la:=aD wr _ da
      have g0:=(HB3K.out.cell (p:=⟨b,o+k*6,none⟩) hb3l).trans e0
      have lg:=ax hb3l HB3K.out.size
      have htk2:tokens.take (m+1)=tokens.take m++[tokens[m]]:=aI hml
      have hmm:=bD hml
      obtain⟨y,hy⟩:∃y,Hid (tokens[m]=y):=⟨_,af rfl⟩
      rw[hy.out] at da htk2 hmm
      have HTK:=af (aC htk2 hmm)
      have hq:=O6 y tk
      clear htk2 hmm
      go_wp2_with fail
      refine aS (fun W=>W=wr.drew) (fun i=>true) [0,1,2,3,4,5,6,7,8,9] rfl (by kernel_rfl) rfl ?_
      repeat ((refine bL (v:= ?_) rfl rfl (fun _ _ _ h=>h) rfl (fun W hW=> ?_) ?_);rotate_left;(focus ((try dsimp only at hW);subst hW;(go_simp;first|done|with_reducible rfl)));(try simp only[Act.put,ah,au,ak]))
      refine bR ?_
      by_cases he:y=tk
      ·have hd:decide (y=tk)=true:=bZ he
       rw[hd]
       have hr:R=true:=by
        rw[<-hR.out]
        exact DK HM.out.2 hC.out ((yh tokens tk).2 (he▸HTK.out.2))
       clear he hd hq
       go_wp2_with fail
       go_ret
       exact⟨by simp[hr],HBK.out.drew⟩
      ·have hd:decide (y=tk)=false:=aZ he
       rw[hd]
       have HE:=af he
       clear he hd hq
       go_wp2_with fail
       go_roundw
       case rel=>
        refine⟨m+1,by omega,by go_num,af (fun x hx=> ?_),af HBK.out.drew,af HB3K.out.drew⟩
        rw[HTK.out.1] at hx
        rcases bO.1 hx with hx|hx
        ·exact HNE.out x hx
        ·rw[bK.1 hx];exact HE.out
       case measure=>simp[intOf];omega
     ·obtain rfl:m=tokens.length:=by omega
      have x2:¬(tokens.length:Int)<(tokens.length:Int):=by omega
      have hno:CO tokens tk=false:=by
       rw[eH]
       intro h
       have:=(yh tokens tk).1 h
       exact HNE.out tk (by rw[bP];exact this) rfl
      have HNT:=af hno
      clear hno
      go_wp2_with fail
      go_roundw
      case rel=>
       refine⟨k+1,by omega,by go_num,?_,af (fun q hq=> ?_),HBK⟩
       ·rw[HM.out.1,ru];simp[hC.out]
       ·rw[HM.out.1] at hq
        rcases bO.1 hq with hq|hq
        ·exact HNO.out q hq
        ·rw[bK.1 hq]
         show (_ && _)=false
         rw[hC.out];exact HNT.out
      case measure=>simp[intOf];omega
  ·obtain rfl:k=ps.length:=by omega
   have x2:¬(ps.length:Int)<(ps.length:Int):=by omega
   have hr:R= !c:=by
    rw[<-hR.out,<-hc.out,GU]
    ·rw[bP,List.any_map];rfl
    ·intro l hl
     obtain⟨p,hp,rfl⟩:=dL.1 hl
     exact HNO.out p (by rw[bP];exact hp)
   go_wp2_with fail
   go_ret
   exact⟨by simp[hr],HBW.out⟩
theorem IQ (a b:bI)(av bv pv tv:Value)(path tokens:List ByteArray)(Sa Sb Sp St:Nat->Prop)(w:World)(hpa:gY w Sa av a.path)(hpb:gY w Sb bv b.path)(hpp:gY w Sp pv path)(hpt:gY w St tv tokens)(hsa:a.Ik)(hT:vX w):
  Calls Tryz.prog 3 #[p8 a av,p8 b bv,pv,tv] w fun e w'=>e= .returned (.bool true)/\Below w.heap.size w w':=by
 have hfa:=cZ.form hpa
 have hfb:=cZ.form hpb
 have HP:=af (aC hpa (aC hpb (aC hpp (aC hpt (aC hsa hT)))))
 clear hpa hpb hsa hpp hpt hT
 obtain⟨ao,ac,rfl,_,_,_,_⟩:=hfa
 obtain⟨bo,bc,rfl,_,_,_,_⟩:=hfb
 have hb1:=aK w (.cells #[.string a.token,.slice ao a.path.length ac,.bool a.deep,.bool a.excl,.string a.owner,.int .i64 a.till] 24)
 have hn1:=aP w (.cells #[.string a.token,.slice ao a.path.length ac,.bool a.deep,.bool a.excl,.string a.owner,.int .i64 a.till] 24)
 obtain⟨w1,hw1⟩:∃w1:World,Hid (w.alloc (.cells #[.string a.token,.slice ao a.path.length ac,.bool a.deep,.bool a.excl,.string a.owner,.int .i64 a.till] 24)=w1):=⟨_,af rfl⟩
 have hs1:w1.heap.size=w.heap.size+1:=by rw[<-hw1.out];simp
 rw[hw1.out] at hb1 hn1
 have hb2:=aK w1 (.cells #[.string b.token,.slice bo b.path.length bc,.bool b.deep,.bool b.excl,.string b.owner,.int .i64 b.till] 24)
 have hn2:=aP w1 (.cells #[.string b.token,.slice bo b.path.length bc,.bool b.deep,.bool b.excl,.string b.owner,.int .i64 b.till] 24)
 obtain⟨w2,hw2⟩:∃w2:World,Hid (w1.alloc (.cells #[.string b.token,.slice bo b.path.length bc,.bool b.deep,.bool b.excl,.string b.owner,.int .i64 b.till] 24)=w2):=⟨_,af rfl⟩
 rw[hw2.out] at hb2 hn2
 obtain⟨la,hla⟩:∃la:Nat,Hid (w.heap.size=la):=⟨_,af rfl⟩
 obtain⟨lb,hlb⟩:∃lb:Nat,Hid (la+1=lb):=⟨_,af rfl⟩
 rw[hs1,hla.out,hlb.out] at hn2
 rw[hla.out] at hn1
 have hA2:=(hb2.block la (aj.1 hn1).1).trans hn1
 have hb12:=hb1.trans (hb2.mono hb1.size)
 have HFX:=af (Gl w2 (HP.out.2.2.2.2.2.below hb12))
 have HX:=af (aC hb12 (aC hA2 hn2))
 clear hb1 hb2 hn1 hn2 hs1 hA2 hb12
 unfold p8
 go_enter Tryz.func3,Tryz.ntmps3
 go_upto_region 1 with (fail)
 rw[hw1.out,hw2.out,hla.out,hlb.out]
 go_wp2_with (first
  |(go_at_call 9;go_must (refine HFX.out.mono ?_;rintro e w3 ⟨rfl,hb3⟩;refine Stop.of ?_)))
 refine Stop.on ?_
 have hb23:=HX.out.1.trans (hb3.mono HX.out.1.size)
 have hA3:=(hb3.block la (aj.1 HX.out.2.1).1).trans HX.out.2.1
 have hB3:=(hb3.block lb (aj.1 HX.out.2.2).1).trans HX.out.2.2
 obtain⟨e0,e1,e2,e3,e4,e5,le⟩:=bW hA3
 obtain⟨f0,f1,f2,f3,f4,f5,fl⟩:=bW hB3
 have hs4:=aK w3 (.cells #[.string a.token,.slice ao a.path.length ac,.bool a.deep,.bool a.excl,.string a.owner,.int .i64 a.till,.string b.token,.slice bo b.path.length bc,.bool b.deep,.bool b.excl,.string b.owner,.int .i64 b.till] 24)
 have hn4:=aP w3 (.cells #[.string a.token,.slice ao a.path.length ac,.bool a.deep,.bool a.excl,.string a.owner,.int .i64 a.till,.string b.token,.slice bo b.path.length bc,.bool b.deep,.bool b.excl,.string b.owner,.int .i64 b.till] 24)
 obtain⟨w4,hw4⟩:∃w4:World,Hid (w3.alloc (.cells #[.string a.token,.slice ao a.path.length ac,.bool a.deep,.bool a.excl,.string a.owner,.int .i64 a.till,.string b.token,.slice bo b.path.length bc,.bool b.deep,.bool b.excl,.string b.owner,.int .i64 b.till] 24)=w4):=⟨_,af rfl⟩
 rw[hw4.out] at hs4 hn4
 have hb24:=hb23.trans (hs4.mono hb23.size)
 have hA4:=(hs4.block la (aj.1 hA3).1).trans hA3
 have hB4:=(hs4.block lb (aj.1 hB3).1).trans hB3
 obtain⟨sb,hsb⟩:∃sb:Nat,Hid (w3.heap.size=sb):=⟨_,af rfl⟩
 rw[hsb.out] at hn4
 have hsl:tL w4 fH (.slice (some ⟨sb,0,none⟩) 2 2) [(a,.slice ao a.path.length ac),(b,.slice bo b.path.length bc)]:=
  ⟨Row.rF (e:=24) (cur:=[.string a.token,.slice ao a.path.length ac,.bool a.deep,.bool a.excl,.string a.owner,.int .i64 a.till,.string b.token,.slice bo b.path.length bc,.bool b.deep,.bool b.excl,.string b.owner,.int .i64 b.till]) (off:=0) (k:=6) hn4 2 2 (by simp) id (by omega) (by unfold maxLen;omega),fun p hp=>by
   rcases bX.1 hp with rfl|hp
   ·exact⟨_,cZ.below HP.out.1 hb24⟩
   ·obtain rfl:=bK.1 hp;exact⟨_,cZ.below HP.out.2.1 hb24⟩⟩
 have HX4:=af (aC hb24 (aC hA4 (aC hB4 hsl)))
 clear hb3 hb23 hA3 hB3 hs4 hn4 hb24 hsl
 go_upto_region 4 with (fail)
 rw[hw4.out,hsb.out]
 clear e0 e1 e2 e3 e4 e5 le f0 f1 f2 f3 f4 f5 fl
 have hall:∀W:World,Below w4.heap.size w4 W->W.heap[la]? =some (.cells #[.string a.token,.slice ao a.path.length ac,.bool a.deep,.bool a.excl,.string a.owner,.int .i64 a.till] 24 (0,0))/\W.heap[lb]? =some (.cells #[.string b.token,.slice bo b.path.length bc,.bool b.deep,.bool b.excl,.string b.owner,.int .i64 b.till] 24 (0,0)):=fun W hW=>
  ⟨(hW.block la (aj.1 hA4).1).trans hA4,(hW.block lb (aj.1 hB4).1).trans hB4⟩
 have hws:∀W:World,Below w4.heap.size w4 W->Below w.heap.size w W:=fun W hW=>HX4.out.1.trans (hW.mono HX4.out.1.size)
 have HALL:=af hall;have HWS:=af hws
 have hG1:=fun (W:World) (hW:Below w4.heap.size w4 W)=>KD a (.slice ao a.path.length ac) Sa W (cZ.below HP.out.1 (hws W hW)) HP.out.2.2.2.2.1 (HP.out.2.2.2.2.2.below (hws W hW))
 have hG2:=fun (W:World) (hW:Below w4.heap.size w4 W)=>Qw a (.slice ao a.path.length ac) Sa W (cZ.below HP.out.1 (hws W hW)) HP.out.2.2.2.2.1
 have hC1:=fun (W:World) (hW:Below w4.heap.size w4 W)=>nL a (.slice ao a.path.length ac) pv path Sa Sp W (cZ.below HP.out.1 (hws W hW)) (cZ.below HP.out.2.2.1 (hws W hW))
 have hC2:=fun (W:World) (hW:Below w4.heap.size w4 W)=>yw a (.slice ao a.path.length ac) pv path Sa Sp W (cZ.below HP.out.1 (hws W hW)) (cZ.below HP.out.2.2.1 (hws W hW))
 have hD1:=fun (W:World) (hW:Below w4.heap.size w4 W)=>uG a b (.slice ao a.path.length ac) (.slice bo b.path.length bc) Sa Sb W (cZ.below HP.out.1 (hws W hW)) (cZ.below HP.out.2.1 (hws W hW))
 have hD2:=fun (W:World) (hW:Below w4.heap.size w4 W)=>Qx a b (.slice ao a.path.length ac) (.slice bo b.path.length bc) Sa Sb W (cZ.below HP.out.1 (hws W hW)) (cZ.below HP.out.2.1 (hws W hW))
 have hF1:=fun (W:World) (hW:Below w4.heap.size w4 W)=>EF (.slice (some ⟨sb,0,none⟩) 2 2) pv tv _ path tokens fH Sp St W (HX4.out.2.2.2.below hW) (cZ.below HP.out.2.2.1 (hws W hW)) (cZ.below HP.out.2.2.2.1 (hws W hW))
 have hF2:=fun (W:World) (hW:Below w4.heap.size w4 W)=>R3 (.slice (some ⟨sb,0,none⟩) 2 2) pv tv _ path tokens fH Sp St W (HX4.out.2.2.2.below hW) (cZ.below HP.out.2.2.1 (hws W hW)) (cZ.below HP.out.2.2.2.1 (hws W hW))
 obtain⟨G,hG⟩:∃G,a.good=G:=⟨_,rfl⟩
 obtain⟨C,hC⟩:∃C,a.covers path=C:=⟨_,rfl⟩
 obtain⟨D,hD⟩:∃D,a.clash b=D:=⟨_,rfl⟩
 obtain⟨F,hF⟩:∃F,uL ([(a,Value.slice ao a.path.length ac),(b,Value.slice bo b.path.length bc)].map (·.1)) path tokens=F:=⟨_,rfl⟩
 rw[hG] at hG1 hG2;rw[hC] at hC1 hC2;rw[hD] at hD1 hD2;rw[hF] at hF1 hF2
 unfold p8 at hG1 hG2 hC1 hC2 hD1 hD2
 have HG1:=af hG1;have HG2:=af hG2;have HC1:=af hC1;have HC2:=af hC2;have HD1:=af hD1;have HD2:=af hD2;have HF1:=af hF1;have HF2:=af hF2
 clear hG1 hG2 hC1 hC2 hD1 hD2 hF1 hF2 hG hC hD hF hall hws hA4 hB4
 have q1:(G==G)=true:=D5 G
 have q2:(C==C)=true:=D5 C
 have q3:(D==D)=true:=D5 D
 have q4:(F==F)=true:=D5 F
 have hb0:Below w4.heap.size w4 w4.drew:=(aO _ w4).drew
 refine aS (fun W=>W.heap[la]? =some (.cells #[.string a.token,.slice ao a.path.length ac,.bool a.deep,.bool a.excl,.string a.owner,.int .i64 a.till] 24 (0,0))/\W.heap[lb]? =some (.cells #[.string b.token,.slice bo b.path.length bc,.bool b.deep,.bool b.excl,.string b.owner,.int .i64 b.till] 24 (0,0))) (fun i=> !([1,3,8,11,17,20,27,31].contains i)) [0,2,1,3,4,5,6,7,9,10,8,11,12,13,14,15,16,18,19,17,20,21,22,23,24,25,26,28,29,30,27,31,32,33,34] rfl (by kernel_rfl) (HALL.out _ hb0) ?_
 repeat ((refine bL (v:= ?_) rfl rfl (fun _ _ _ h=>h) rfl (fun W hW=> ?_) ?_);rotate_left;(focus ((try dsimp only at hW);obtain⟨q0,q1,q2,q3,q4,q5,q6⟩:=bW hW.1;obtain⟨r0,r1,r2,r3,r4,r5,r6⟩:=bW hW.2;(go_simp;first|done|with_reducible rfl)));(try simp only[Act.put,ah,au,ak]))
 refine dm rfl rfl rfl ?_;intro K hK;go_simp
 refine(HG1.out _ hb0).mono ?_;rintro e v1 ⟨rfl,hk1⟩
 have hb1:=hb0.trans (hk1.mono hb0.size)
 refine hK.out _ _ (HALL.out _ hb1) ?_
 repeat ((refine bL (v:= ?_) rfl rfl (fun _ _ _ h=>h) rfl (fun W hW=> ?_) ?_);rotate_left;(focus ((try dsimp only at hW);obtain⟨q0,q1,q2,q3,q4,q5,q6⟩:=bW hW.1;obtain⟨r0,r1,r2,r3,r4,r5,r6⟩:=bW hW.2;(go_simp;first|done|with_reducible rfl)));(try simp only[Act.put,ah,au,ak]))
 refine dm rfl rfl rfl ?_;intro K hK;go_simp
 refine(HG2.out _ hb1).mono ?_;rintro e v2 ⟨rfl,hk2⟩
 have hb2:=hb1.trans (hk2.mono hb1.size)
 refine hK.out _ _ (HALL.out _ hb2) ?_
 repeat ((refine bL (v:= ?_) rfl rfl (fun _ _ _ h=>h) rfl (fun W hW=> ?_) ?_);rotate_left;(focus ((try dsimp only at hW);obtain⟨q0,q1,q2,q3,q4,q5,q6⟩:=bW hW.1;obtain⟨r0,r1,r2,r3,r4,r5,r6⟩:=bW hW.2;(go_simp;first|done|with_reducible rfl)));(try simp only[Act.put,ah,au,ak]))
 refine dm rfl rfl rfl ?_;intro K hK;go_simp
 refine(HC1.out _ hb2).mono ?_;rintro e v3 ⟨rfl,hk3⟩
 have hb3:=hb2.trans (hk3.mono hb2.size)
 refine hK.out _ _ (HALL.out _ hb3) ?_
 repeat ((refine bL (v:= ?_) rfl rfl (fun _ _ _ h=>h) rfl (fun W hW=> ?_) ?_);rotate_left;(focus ((try dsimp only at hW);obtain⟨q0,q1,q2,q3,q4,q5,q6⟩:=bW hW.1;obtain⟨r0,r1,r2,r3,r4,r5,r6⟩:=bW hW.2;(go_simp;first|done|with_reducible rfl)));(try simp only[Act.put,ah,au,ak]))
 refine dm rfl rfl rfl ?_;intro K hK;go_simp
 refine(HC2.out _ hb3).mono ?_;rintro e v4 ⟨rfl,hk4⟩
 have hb4:=hb3.trans (hk4.mono hb3.size)
 refine hK.out _ _ (HALL.out _ hb4) ?_
 repeat ((refine bL (v:= ?_) rfl rfl (fun _ _ _ h=>h) rfl (fun W hW=> ?_) ?_);rotate_left;(focus ((try dsimp only at hW);obtain⟨q0,q1,q2,q3,q4,q5,q6⟩:=bW hW.1;obtain⟨r0,r1,r2,r3,r4,r5,r6⟩:=bW hW.2;(go_simp;first|done|with_reducible rfl)));(try simp only[Act.put,ah,au,ak]))
 refine dm rfl rfl rfl ?_;intro K hK;go_simp
 refine(HD1.out _ hb4).mono ?_;rintro e v5 ⟨rfl,hk5⟩
 have hb5:=hb4.trans (hk5.mono hb4.size)
 refine hK.out _ _ (HALL.out _ hb5) ?_
 repeat ((refine bL (v:= ?_) rfl rfl (fun _ _ _ h=>h) rfl (fun W hW=> ?_) ?_);rotate_left;(focus ((try dsimp only at hW);obtain⟨q0,q1,q2,q3,q4,q5,q6⟩:=bW hW.1;obtain⟨r0,r1,r2,r3,r4,r5,r6⟩:=bW hW.2;(go_simp;first|done|with_reducible rfl)));(try simp only[Act.put,ah,au,ak]))
 refine dm rfl rfl rfl ?_;intro K hK;go_simp
 refine(HD2.out _ hb5).mono ?_;rintro e v6 ⟨rfl,hk6⟩
 have hb6:=hb5.trans (hk6.mono hb5.size)
 refine hK.out _ _ (HALL.out _ hb6) ?_
 repeat ((refine bL (v:= ?_) rfl rfl (fun _ _ _ h=>h) rfl (fun W hW=> ?_) ?_);rotate_left;(focus ((try dsimp only at hW);obtain⟨q0,q1,q2,q3,q4,q5,q6⟩:=bW hW.1;obtain⟨r0,r1,r2,r3,r4,r5,r6⟩:=bW hW.2;(go_simp;first|done|with_reducible rfl)));(try simp only[Act.put,ah,au,ak]))
 refine dm rfl rfl rfl ?_;intro K hK;go_simp
 refine(HF1.out _ hb6).mono ?_;rintro e v7 ⟨rfl,hk7⟩
 have hb7:=hb6.trans (hk7.mono hb6.size)
 refine hK.out _ _ (HALL.out _ hb7) ?_
 repeat ((refine bL (v:= ?_) rfl rfl (fun _ _ _ h=>h) rfl (fun W hW=> ?_) ?_);rotate_left;(focus ((try dsimp only at hW);obtain⟨q0,q1,q2,q3,q4,q5,q6⟩:=bW hW.1;obtain⟨r0,r1,r2,r3,r4,r5,r6⟩:=bW hW.2;(go_simp;first|done|with_reducible rfl)));(try simp only[Act.put,ah,au,ak]))
 refine dm rfl rfl rfl ?_;intro K hK;go_simp
 refine(HF2.out _ hb7).mono ?_;rintro e v8 ⟨rfl,hk8⟩
 have hb8:=hb7.trans (hk8.mono hb7.size)
 refine hK.out _ _ (HALL.out _ hb8) ?_
 repeat ((refine bL (v:= ?_) rfl rfl (fun _ _ _ h=>h) rfl (fun W hW=> ?_) ?_);rotate_left;(focus ((try dsimp only at hW);obtain⟨q0,q1,q2,q3,q4,q5,q6⟩:=bW hW.1;obtain⟨r0,r1,r2,r3,r4,r5,r6⟩:=bW hW.2;(go_simp;first|done|with_reducible rfl)));(try simp only[Act.put,ah,au,ak]))
 refine bR ?_
 have HW8:=af (HWS.out _ hb8)
 clear hb0 hb1 hb2 hb3 hb4 hb5 hb6 hb7 hb8 hk1 hk2 hk3 hk4 hk5 hk6 hk7 hk8
 go_wp2_with (fail)
 go_ret
 exact⟨rfl,HW8.out⟩
end Go.Proofs.YtpgdljlghiifjaaGreatDoor
