/- parts -/
import Derived.Test.YtpmbddooibgnaaaGreatDoorN14
import Derived.Test.YtpmbddooibgnaaaGreatDoorN21
import Derived.Test.YtpmbddooibgnaaaGreatDoorN24
import Derived.Test.YtpmbddooibgnaaaGreatDoorN25
import Derived.Lib.LaidTab
set_option maxRecDepth 100000
set_option maxHeartbeats 8000000
set_option linter.all false
namespace Go.Proofs.YtpmbddooibgnaaaGreatDoor
open Go.RowKit Go.Shelf
def mF (w:World)(xb:Nat)(hv:Value)(b:ByteArray)(hd cl:Bool):Prop:=w.heap[xb]? =some (.cells #[.int .i64 201,hv,.string b,.bool hd,.bool cl] 81 (0,0))
theorem mF.cells {w:World}{xb:Nat}{a:Value}{b:ByteArray}{c d:Bool}(h:mF w xb a b c d):w.cell? ⟨xb,0,none⟩=some (.int .i64 201)/\w.cell? ⟨xb,1,none⟩=some a/\w.cell? ⟨xb,2,none⟩=some (.string b)/\w.cell? ⟨xb,3,none⟩=some (.bool c)/\w.cell? ⟨xb,4,none⟩=some (.bool d)/\xb<w.heap.size:=by
 unfold mF at h
 exact⟨by simp[World.cell?,h],by simp[World.cell?,h],by simp[World.cell?,h],by simp[World.cell?,h],by simp[World.cell?,h],(aj.1 h).1⟩
theorem mF.below {w w':World}{a:Nat}{c:Value}{b:ByteArray}{d e:Bool}(h:mF w a c b d e)(f:Below w.heap.size w w'):mF w' a c b d e:=(f.block a (aj.1 h).1).trans h
def QV (hs:List Pr):Prop:=hs.length<=32/\∀p∈hs,∃n',QU p.1 n' p.2
theorem WM (H:Value)(b:ByteArray)(r A:Bool)(a:List Pr)(w:World)(K:lJ w H a)(J:QV a)(hb:b.size<=60000):
  Calls Tryz.prog 64 #[.agg #[.int .i64 201,H,.string b,.bool r,.bool A]] w fun e w'=>e= .returned (.bool true)/\Below w.heap.size w w':=by
 obtain⟨C,G,rfl,_,_,_,_⟩:=bq.form K
 have f:=aG w (.cells #[.int .i64 201,.slice C a.length G,.string b,.bool r,.bool A] 81)
 have d:mF (w.alloc (.cells #[.int .i64 201,.slice C a.length G,.string b,.bool r,.bool A] 81)) w.heap.size (.slice C a.length G) b r A:=aH w _
 obtain⟨j,s⟩:∃x:World,Hid (w.alloc (.cells #[.int .i64 201,.slice C a.length G,.string b,.bool r,.bool A] 81)=x):=⟨_,ah rfl⟩
 rw[s.out] at f d
 obtain⟨xb,l⟩:∃x:Nat,Hid (w.heap.size=x):=⟨_,ah rfl⟩
 rw[l.out] at d
 obtain⟨R,N,O,P,S,lx⟩:=d.cells
 have m:=ah (au d (au f (au (bq.below K f:lJ j _ a) J)))
 have x1:(b.size:Int)<=65536:=by omega
 have x2:(a.length:Int)<=32:=by have:=J.1;omega
 clear d f K J
 go_enter Tryz.func64,Tryz.ntmps64
 go_upto_region 1 with (fail)
 rw[s.out,l.out]
 go_wp2
 go_loopw [4,8] (fun _ i wr=>∃k:Nat,k<=a.length/\i= .int .i64 k/\Below j.heap.size j wr) (fun _ i _=>a.length - (intOf i).toNat)
 case atStart=>exact⟨0,aR _,rfl,aJ _ _⟩
 case round=>
  obtain⟨k,hk,rfl,c⟩:=hrel
  by_cases q:k<a.length
  ·obtain⟨g,o,rfl,E,B⟩:=sQ.at m.out.2.2.1 rfl k q
   have t:=(c.cell (p:=⟨g,o+k*2,none⟩) (aD j _ E)).trans E
   have I:=(c.cell (p:=⟨g,o+k*2+1,none⟩) (aD j _ B)).trans B
   have T:=aD wr _ t
   have Q:(k:Int)<(a.length:Int):=by omega
   obtain⟨W,D⟩:=m.out.2.2.2.2 a[k] (bJ q)
   obtain⟨n,V⟩:∃x,Hid (a[k].1=x):=⟨_,ah rfl⟩
   obtain⟨v,H⟩:∃x,Hid (a[k].2=x):=⟨_,ah rfl⟩
   rw[V.out] at E t D;rw[H.out] at B I D
   have z:=aG wr (.cells #[.string n,.string v] 162)
   have Y:=ah (RA n W v (wr.alloc (.cells #[.string n,.string v] 162)) D)
   have F:=ah (c.trans (z.mono c.size))
   clear E B D z c R N O P S
   go_wp2_with (first
    |(go_at_call 120;go_must (refine Y.out.mono ?_;rintro e M ⟨rfl,y⟩;refine Stop.of ?_)))
   refine Stop.on ?_
   have Z:=ah (F.out.trans (y.mono F.out.size))
   clear y
   go_wp2_with fail
   go_roundw
   case rel=>exact⟨k+1,by omega,by go_num,Z.out⟩
   case measure=>simp[intOf];omega
  ·obtain rfl:k=a.length:=by omega
   have x3:¬(a.length:Int)<(a.length:Int):=by omega
   obtain⟨e0,e1,e2,e3,e4,X⟩:=(m.out.1.below c).cells
   have F:=ah c
   clear c R N O P S lx
   go_wp2_with (first
    |(go_at_call 35;go_must (refine(KM _).mono ?_;rintro e M ⟨rfl,hw⟩;subst M)))
   go_ret
   exact⟨rfl,m.out.2.1.trans (F.out.mono m.out.2.1.size)⟩
def mZ (w:World):Prop:=Lib.TabIs Tryz.prog w "internal/strconv.uint64pow10" .u64 Lib.pow10Tab
theorem xY:Tryz.prog.globalNamed "internal/strconv.uint64pow10"=some 2:=by kernel_rfl
theorem mZ.lt {w:World}(h:mZ w):2<w.heap.size:=by
 unfold mZ Lib.TabIs World.var? at h
 rw[xY] at h
 rcases jC 2 w.heap.size with a|a
 ·exact a
 ·rw[V9,Fu a] at h
  cases h
theorem mZ.keep {M:Nat->Prop}{w w':World}(h:mZ w)(a:Keep M w w')(b:¬M 2):mZ w':=by
 have c:=h.lt
 unfold mZ Lib.TabIs World.var? at h ⊢
 rw[xY] at h ⊢
 rw[V9] at h ⊢
 rw[a.block _ c b]
 exact h
theorem mZ.below {w w':World}(h:mZ w)(a:Below w.heap.size w w'):mZ w':=h.keep (Keep.of_below a (fun _=>False)) id
theorem BM (n:Int)(a:ByteArray)(w:World)(g:mZ w)(j:0<=n/\n<=1000000)(c:Lib.itoa n=a.data.toList):
  Calls Tryz.prog 66 #[.int .i64 n] w fun e w'=>e= .returned (.string a)/\Below w.heap.size w w':=by
 have h:=Any.strconv_Itoa Vq n (by omega) (by omega) w g
 rw[c] at h
 refine h.mono ?_
 rintro e w' ⟨d,k,b,rfl⟩
 refine⟨d,rfl,rfl,rfl,?_,fun i f=> ?_⟩
 ·show w.heap.size<=(w.heap++b).size
  simp
 ·show (w.heap++b)[i]? =w.heap[i]?
  rw[Array.getElem?_append_left f]
def UZ:ByteArray:=⟨#[50,48,49]⟩
def s0:ByteArray:=⟨#[48]⟩
theorem Sm:Lib.itoa 201=UZ.data.toList:=by kernel_rfl
theorem Xh:Lib.itoa 0=s0.data.toList:=by kernel_rfl
def rA:ByteArray:=⟨#[72,84,84,80,47,49,46,49,32,50,48,49]⟩
def rB:ByteArray:=⟨#[72,84,84,80,47,49,46,49,32,50,48,49,32]⟩
def rC:ByteArray:=⟨#[72,84,84,80,47,49,46,49,32,50,48,49,32,67,114,101,97,116,101,100]⟩
def rD:ByteArray:=⟨#[72,84,84,80,47,49,46,49,32,50,48,49,32,67,114,101,97,116,101,100,13,10]⟩
def hA:ByteArray:=⟨#[69,84,97,103,58,32]⟩
def hB:ByteArray:=⟨#[69,84,97,103,58,32,34,49,34]⟩
def hC:ByteArray:=⟨#[69,84,97,103,58,32,34,49,34,13,10]⟩
def lA:ByteArray:=⟨#[67,111,110,116,101,110,116,45,76,101,110,103,116,104,58,32,48]⟩
def lB:ByteArray:=⟨#[67,111,110,116,101,110,116,45,76,101,110,103,116,104,58,32,48,13,10]⟩
def Bt:ByteArray:=⟨#[69,84,97,103]⟩
def TG:ByteArray:=⟨#[101,116,97,103]⟩
def KL:ByteArray:=⟨#[34,49,34]⟩
def kU:ByteArray:=⟨#[72,84,84,80,47,49,46,49,32,50,48,49,32,67,114,101,97,116,101,100,13,10,69,84,97,103,58,32,34,49,34,13,10,67,111,110,116,101,110,116,45,76,101,110,103,116,104,58,32,48,13,10,13,10]⟩
theorem Qd:QU Bt TG KL:=⟨by decide,by kernel_rfl,by kernel_rfl,by kernel_rfl,by kernel_rfl,by kernel_rfl,by kernel_rfl,by kernel_rfl,by decide,by kernel_rfl,by kernel_rfl⟩
def uF:List Pr:=[(Bt,KL)]
theorem Xl:QV uF:=⟨by decide,fun p a=>by rw[cu.1 a];exact⟨TG,Qd⟩⟩
theorem U0 (hv:Value)(w:World)(hh:lJ w hv uF)(hT:mZ w):
  Calls Tryz.prog 29 #[.agg #[.int .i64 201,hv,.string ⟨#[]⟩,.bool false,.bool false]] w fun e w'=>e= .returned (.tuple #[.string kU,.int .i64 0])/\Below w.heap.size w w':=by
 obtain⟨ho,hc,rfl,_,_,_,_⟩:=bq.form hh
 have J:uF.length=1:=rfl
 rw[J] at hh ⊢
 clear J
 have l:=aG w (.cells #[.int .i64 201,.slice ho 1 hc,.string ⟨#[]⟩,.bool false,.bool false] 81)
 have F:mF (w.alloc (.cells #[.int .i64 201,.slice ho 1 hc,.string ⟨#[]⟩,.bool false,.bool false] 81)) w.heap.size (.slice ho 1 hc) ⟨#[]⟩ false false:=aH w _
 obtain⟨a,bg⟩:∃x:World,Hid (w.alloc (.cells #[.int .i64 201,.slice ho 1 hc,.string ⟨#[]⟩,.bool false,.bool false] 81)=x):=⟨_,ah rfl⟩
 rw[bg.out] at l F
 obtain⟨xb,av⟩:∃x:Nat,Hid (w.heap.size=x):=⟨_,ah rfl⟩
 rw[av.out] at F
 obtain⟨t,q,A,E,n,y⟩:=F.cells
 have HG:=ah (WM (.slice ho 1 hc) ⟨#[]⟩ false false uF a (bq.below hh l) Xl (by decide))
 have c:=ah (au F (au l (au (bq.below hh l:lJ a _ uF) (hT.below l))))
 clear F l hh hT
 have a1:∀W:World,(Op.stringOp .add ⟨#[72,84,84,80,47,49,46,49,32]⟩ UZ).run Tryz.prog W= .ok (.string rA) W:=fun _=>by kernel_rfl
 have a2:∀W:World,(Op.stringOp .add rA ⟨#[32]⟩).run Tryz.prog W= .ok (.string rB) W:=fun _=>by kernel_rfl
 have a3:∀W:World,(Op.stringOp .add rB ⟨#[67,114,101,97,116,101,100]⟩).run Tryz.prog W= .ok (.string rC) W:=fun _=>by kernel_rfl
 have a4:∀W:World,(Op.stringOp .add rC ⟨#[13,10]⟩).run Tryz.prog W= .ok (.string rD) W:=fun _=>by kernel_rfl
 go_enter Tryz.func29,Tryz.ntmps29
 go_upto_region 1 with (fail)
 rw[bg.out,av.out]
 go_wp2_with (first
  |(go_at_call 64;go_must (refine HG.out.mono ?_;rintro e w2 ⟨rfl,H⟩;refine Stop.of ?_)))
 refine Stop.on ?_
 have z:=rQ.new w2 a.heap.size H.size
 have Q:=aG w2 (.cells #[.pointer none,.slice none 0 0] 156)
 obtain⟨X,qO⟩:∃x:World,Hid (w2.alloc (.cells #[.pointer none,.slice none 0 0] 156)=x):=⟨_,ah rfl⟩
 rw[qO.out] at z Q
 obtain⟨M,ai⟩:∃x:Nat,Hid (w2.heap.size=x):=⟨_,ah rfl⟩
 rw[ai.out] at z
 have C:=H.trans (Q.mono H.size)
 have R:=c.out.1.below C
 have j:=ah (au z (au C R))
 have j3:=z.lt
 clear t q A E n y z Q C H
 obtain⟨t,q,A,E,n,y⟩:=R.cells
 clear R
 go_upto_region 4 with (fail)
 rw[qO.out,ai.out]
 refine aP (fun W=>Below a.heap.size X W) (fun i=> !([2,7,10].contains i)) [0,1,5,6,2,3,4,7,8,9,10] rfl (by kernel_rfl) ((aJ _ X).drew) ?_
 repeat ((refine bE (v:= ?_) rfl rfl (fun _ _ _ h=>h) rfl (fun W s=> ?_) ?_);rotate_left;(focus ((try dsimp only at s);have p0:W.cell? ⟨xb,0,none⟩=some (.int .i64 201):=((c.out.1.below (j.out.2.1.trans s)).cells).1;have p1:=((c.out.1.below (j.out.2.1.trans s)).cells).2.2.2.2.2;(go_simp;first|done|with_reducible rfl)));(try simp only[Act.put,ak,ay,ax]))
 refine bT rfl rfl rfl ?_;intro K hK;go_simp
 refine(BM 201 UZ _ ((c.out.2.2.2.below j.out.2.1).below (aJ _ X).drew) (by decide) Sm).mono ?_;rintro e w4 ⟨rfl,di⟩
 have k:Below X.heap.size X w4:=(aJ _ X).drew.trans di
 have B:Below a.heap.size X w4:=k.mono j.out.2.1.size
 refine hK.out _ _ B ?_
 (try simp only[Act.put,ak,ay,ax])
 repeat ((refine bE (v:= ?_) rfl rfl (fun _ _ _ h=>h) rfl (fun W s=> ?_) ?_);rotate_left;(focus ((try dsimp only at s);have p0:W.cell? ⟨xb,0,none⟩=some (.int .i64 201):=((c.out.1.below (j.out.2.1.trans s)).cells).1;have p1:=((c.out.1.below (j.out.2.1.trans s)).cells).2.2.2.2.2;(go_simp;first|done|with_reducible rfl)));(try simp only[Act.put,ak,ay,ax]))
 refine bT rfl rfl rfl ?_;intro K hK;go_simp
 refine(KM _).mono ?_;rintro e w5 ⟨rfl,hw⟩;subst w5
 refine hK.out _ _ B ?_
 (try simp only[Act.put,ak,ay,ax])
 repeat ((refine bE (v:= ?_) rfl rfl (fun _ _ _ h=>h) rfl (fun W s=> ?_) ?_);rotate_left;(focus ((try dsimp only at s);have p0:W.cell? ⟨xb,0,none⟩=some (.int .i64 201):=((c.out.1.below (j.out.2.1.trans s)).cells).1;have p1:=((c.out.1.below (j.out.2.1.trans s)).cells).2.2.2.2.2;(go_simp;first|done|with_reducible rfl)));(try simp only[Act.put,ak,ay,ax]))
 refine bT rfl rfl rfl ?_;intro K hK;go_simp
 refine(Ck a.heap.size M [] rD w4 (j.out.1.below k) (aI j.out.2.1.size k.size) (by decide) (by decide)).mono ?_;rintro e w5 ⟨rfl,T,S⟩
 refine hK.out _ _ (B.trans S) ?_
 refine bN ?_
 have pV:=B.trans S
 obtain⟨L0,V⟩:∃x:List UInt8,Hid (([]:List UInt8)++rD.data.toList=x):=⟨_,ah rfl⟩
 rw[V.out] at T
 have af:L0.length=22:=by rw[<-V.out];kernel_rfl
 have G:=ah (au T (au pV (au (c.out.1.below (j.out.2.1.trans pV)) af)))
 clear pV B k di T S t q A E n y af a1 a2 a3 a4
 obtain⟨t,q,A,E,n,y⟩:=G.out.2.2.1.cells
 have a1:∀W:World,(Op.stringOp .add Bt ⟨#[58,32]⟩).run Tryz.prog W= .ok (.string hA) W:=fun _=>by kernel_rfl
 have a2:∀W:World,(Op.stringOp .add hA KL).run Tryz.prog W= .ok (.string hB) W:=fun _=>by kernel_rfl
 have a3:∀W:World,(Op.stringOp .add hB ⟨#[13,10]⟩).run Tryz.prog W= .ok (.string hC) W:=fun _=>by kernel_rfl
 go_wp2_with fail
 go_loopw [6,24] (fun _ i wr=>((i= .int .i64 0/\rQ wr a.heap.size M L0)\/(i= .int .i64 1/\rQ wr a.heap.size M (L0++hC.data.toList)))/\Below a.heap.size w5 wr) (fun _ i _=>1 - (intOf i).toNat)
 case atStart=>exact⟨.inl ⟨rfl,G.out.1⟩,aJ _ _⟩
 case round=>
  obtain⟨(⟨rfl,hB⟩|⟨rfl,hB⟩),m⟩:=hrel
  ·obtain⟨g,o,rfl,d1,d2⟩:=sQ.at c.out.2.2.1 rfl 0 (by decide)
   have b:=j.out.2.1.trans (G.out.2.1.trans m)
   have qb:=(b.cell (p:=⟨g,o+0*2,none⟩) (aD a _ d1)).trans d1
   have qf:=(b.cell (p:=⟨g,o+0*2+1,none⟩) (aD a _ d2)).trans d2
   rw[Fj,jD] at qb qf
   have j4:=aD wr _ qb
   have e1:uF[0].1=Bt:=rfl
   have e2:uF[0].2=KL:=rfl
   rw[e1] at qb;rw[e2] at qf
   have I:=aG wr (.cells #[.string Bt,.string KL] 162)
   have N:Below a.heap.size wr (wr.alloc (.cells #[.string Bt,.string KL] 162)):=I.mono b.size
   have HS:=ah (Ck a.heap.size M L0 hC (wr.alloc (.cells #[.string Bt,.string KL] 162)) (hB.below I) (aI b.size I.size) (by have:=G.out.2.2.2;omega) (by decide))
   have HB:=ah (m.trans N)
   have lb:=hB.lt
   clear d1 d2 e1 e2 I N b hB m
   go_wp2_with (first
    |(go_at_call 65;go_must (refine HS.out.mono ?_;rintro e w6 ⟨rfl,qo,qm⟩;refine Stop.of ?_)))
   refine Stop.on ?_
   have HF:=ah (au qo (HB.out.trans qm))
   clear qo qm
   go_wp2_with fail
   go_roundw
   case rel=>exact⟨.inr ⟨by go_num,HF.out.1⟩,HF.out.2⟩
   case measure=>simp[intOf]
  ·have Z:=c.out.1.below (j.out.2.1.trans (G.out.2.1.trans m))
   have b:=j.out.2.1.trans (G.out.2.1.trans m)
   have H6:=ah (au hB (au b Z))
   clear t q A E n y hB m b
   obtain⟨t,q,A,E,n,y⟩:=Z.cells
   clear Z
   have a4:∀W:World,(Op.stringOp .add ⟨#[67,111,110,116,101,110,116,45,76,101,110,103,116,104,58,32]⟩ s0).run Tryz.prog W= .ok (.string lA) W:=fun _=>by kernel_rfl
   have a5:∀W:World,(Op.stringOp .add lA ⟨#[13,10]⟩).run Tryz.prog W= .ok (.string lB) W:=fun _=>by kernel_rfl
   have HI:=ah (BM 0 s0 wr (c.out.2.2.2.below H6.out.2.1) (by decide) Xh)
   go_wp2_with (first
    |(go_at_call 66;go_must (refine HI.out.mono ?_;rintro e w7 ⟨rfl,Y⟩;refine Stop.of ?_)))
   refine Stop.on ?_
   have r:Below a.heap.size a w7:=H6.out.2.1.trans (Y.mono H6.out.2.1.size)
   have eH:=ah (Ck a.heap.size M _ lB w7 (H6.out.1.below Y) r.size (by rw[aB,G.out.2.2.2];decide) (by decide))
   have jb:=ah r
   clear Y r
   go_wp2_with (first
    |(go_at_call 65;go_must (refine eH.out.mono ?_;rintro e w8 ⟨rfl,qc,bf⟩;refine Stop.of ?_)))
   refine Stop.on ?_
   have d:=jb.out.trans bf
   have dn:=c.out.1.below d
   have jv:=ah (Ck a.heap.size M _ ⟨#[13,10]⟩ w8 qc d.size (by rw[aB,aB,G.out.2.2.2];decide) (by decide))
   have d9:=ah d
   clear t q A E n y d qc bf
   obtain⟨t,q,A,E,n,y⟩:=dn.cells
   clear dn
   go_wp2_with (first
    |(go_at_call 65;go_must (refine jv.out.mono ?_;rintro e w9 ⟨rfl,q8,qC⟩;refine Stop.of ?_)))
   refine Stop.on ?_
   have f:=d9.out.trans qC
   have qy:=c.out.1.below f
   have eZ:=ah (Ck a.heap.size M _ ⟨#[]⟩ w9 q8 f.size (by rw[aB,aB,aB,G.out.2.2.2];decide) (by decide))
   have fo:=ah f
   clear t q A E n y f q8 qC
   obtain⟨t,q,A,E,n,y⟩:=qy.cells
   clear qy
   go_wp2_with (first
    |(go_at_call 65;go_must (refine eZ.out.mono ?_;rintro e dM ⟨rfl,P,O⟩;refine Stop.of ?_)))
   refine Stop.on ?_
   have D:=fo.out.trans O
   have p9:=DY a.heap.size M _ dM P
   rw[show (⟨(L0++hC.data.toList++lB.data.toList++(⟨#[13,10]⟩:ByteArray).data.toList++(⟨#[]⟩:ByteArray).data.toList).toArray⟩:ByteArray)=kU by rw[<-V.out];kernel_rfl] at p9
   have iO:=ah p9
   have q9:=ah D
   clear t q A E n y D P O p9
   go_wp2_with (first
    |(go_at_call 67;go_must (refine iO.out.mono ?_;rintro e j5 ⟨rfl,ql⟩;refine Stop.of ?_)))
   refine Stop.on ?_
   go_wp2_with fail
   go_ret2
   exact⟨rfl,c.out.2.1.trans ((q9.out.trans ql).mono c.out.2.1.size)⟩
theorem Pw (c:Nat)(g:Value)(b:Int)(a:ByteArray)(i:Value)(x m:Nat)(f:List Pr)(w:World)(h:iV w c g b a i x m)(k:lJ w g f)(j:XI f ⟨#[99,111,110,116,101,110,116,45,114,97,110,103,101]⟩):
  Calls Tryz.prog 112 #[.pointer (some ⟨c,0,none⟩)] w fun e w'=>e= .returned (.func (.func 175) #[.pointer (some ⟨c,0,none⟩)] #[])/\Below w.heap.size w w':=by
 obtain⟨v,_,_,_,_⟩:=h.q
 have t:=h.lt
 have n:∀(l:Fn) (first cap:Array Value) (w:World),(Instr.makeFunc l first cap).run Tryz.prog w= .ok (.func l first cap) w:=fun _ _ _ _=>rfl
 have z:(iQ.toList==[79,80,84,73,79,78,83])=false:=by kernel_rfl
 have s:(iQ.toList==[71,69,84])=false:=by kernel_rfl
 have r:(iQ.toList==[72,69,65,68])=false:=by kernel_rfl
 have A:(iQ.toList==[80,85,84])=true:=by kernel_rfl
 have o:=ah (KZ c g b a i x m f _ w h k j)
 clear h k j
 go_enter Tryz.func112,Tryz.ntmps112
 go_wp2_with (first
  |(go_at_call 110;go_must (refine o.out.mono ?_;rintro e q ⟨rfl,d⟩))
  |(go_at_call 58;go_must (refine(yo _ _).mono ?_;rintro e p ⟨rfl,y⟩;subst p)))
 go_ret
 exact⟨rfl,d⟩
theorem K3 (g c:Nat)(w:World)(a:1<=c/\c<=9223372036854775807):
  Calls Tryz.prog 260 #[.slice (some ⟨g,0,none⟩) 1 c] w fun e w'=>e= .returned (.slice (some ⟨g,0,none⟩) 0 c)/\w'=w:=by
 have b:(0:Int)<=(c:Int):=by omega
 go_enter Tryz.func260,Tryz.ntmps260
 go_wp2
 go_ret
 exact⟨rfl,rfl⟩
section
variable {p:TP} {kv:List Pr} {w:World}
theorem Pv (h:RT p kv w)(P:Nat)(E:Value)(G:Int)(B:ByteArray)(Z:Value)(lb:Nat)(X:Value)(d:List ByteArray)(S:Nat->Prop)(m:ND)(R:iV w P E G B Z p.x lb)(I:pK w S X d)(O:∀s∈d,s.size<=9223372036854775807)(V:kg w)(J:su d=true)(hl:kv.length<=4090)(Q:wJ kv d qw m)(T:m.i.size<=4):
  Calls Tryz.prog 185 #[.pointer (some ⟨P,0,none⟩),X] w fun e w'=>e= .returned (.agg (rW kv m).toArray)/\Below w.heap.size w w':=by
 obtain⟨po,pc,rfl,_,_,_,_⟩:=jP.form I
 have f:=aG w (.cells #[.int .i64 0,.int .i64 0,.int .i64 0] 319)
 have k:=aH w (.cells #[.int .i64 0,.int .i64 0,.int .i64 0] 319)
 obtain⟨w1,z⟩:∃x:World,Hid (w.alloc (.cells #[.int .i64 0,.int .i64 0,.int .i64 0] 319)=x):=⟨_,ah rfl⟩
 rw[z.out] at f k
 obtain⟨q,o⟩:∃x:Nat,Hid (w.heap.size=x):=⟨_,ah rfl⟩
 rw[o.out] at k
 have W:=ah (WB _ d S m (h.below f) (jP.below I f) O (V.below f) J hl Q T)
 have n:=R.below f
 obtain⟨_,_,c9,_⟩:=n.p
 have lj:=n.lt
 have y:=ah (au f (au k o.out))
 obtain⟨a,b,c,t⟩:∃a b c:Int,Hid (rW kv m=[.int .i64 a,.int .i64 b,.int .i64 c]):=⟨_,_,_,ah rfl⟩
 rw[t.out] at W ⊢
 clear h R I O V J Q T f k n t
 go_enter Tryz.func185,Tryz.ntmps185
 go_upto_region 1 with (fail)
 rw[z.out,o.out]
 go_wp2_with (first
  |(go_at_call 287;go_must (refine W.out.mono ?_;rintro e D ⟨rfl,l⟩;refine Stop.of ?_)))
 refine Stop.on ?_
 have i:=aG D (.cells #[.int .i64 a,.int .i64 b,.int .i64 c] 319)
 have j:=aH D (.cells #[.int .i64 a,.int .i64 b,.int .i64 c] 319)
 obtain⟨Y,r⟩:∃x:World,Hid (D.alloc (.cells #[.int .i64 a,.int .i64 b,.int .i64 c] 319)=x):=⟨_,ah rfl⟩
 rw[r.out] at i j
 obtain⟨nb,C⟩:∃x:Nat,Hid (D.heap.size=x):=⟨_,ah rfl⟩
 rw[C.out] at j
 obtain⟨d0,d1,d2,_,_,_,ln⟩:=sj (w:=Y) (b:=nb) j
 have F:Row Y q 319 [.int .i64 0,.int .i64 0,.int .i64 0]:=by
  have N:=(l.block q (aj.1 y.out.2.1).1).trans y.out.2.1
  exact(i.block q (aj.1 N).1).trans N
 have A:=ah (y.out.1.trans ((l.trans (i.mono l.size)).mono y.out.1.size))
 clear l i j c9 lj
 go_upto_region 2 with (fail)
 rw[r.out,C.out]
 go_wp2_with (first
  |(go_at_call 63;go_must (refine(Px _).mono ?_;rintro e w6 ⟨rfl,pV⟩;subst w6))
  |((refine bS rfl ?_);intro K hK;(refine wp_store_row 319 (.tmp 4) (.tmp 18) rfl q 0 319 _ [.int .i64 a,.int .i64 b,.int .i64 c] rfl rfl F zo (aC 3) (by intro v E;simp only[aW,bQ,fJ] at E;rcases E with rfl|rfl|rfl<;>rfl) ?_);intro w4 H M;refine hK _ _ ?_))
 refine dJ (qU rfl _ w4 q 319 _ (0,0) _ rfl H Tryz.underlying319 rfl (by kernel_rfl)) rfl ?_
 exact⟨rfl,A.out.trans (M.fw A.out.size fun g J e=>by have e:g=q:=e;have:=y.out.2.2;omega)⟩
end
def XW:ByteArray:=⟨#[49]⟩
theorem WZ (i:Int)(w:World):Calls Tryz.prog 184 #[.agg #[.int .i64 1,.int .i64 i,.int .i64 1]] w fun e w'=>e= .returned (.string KL)/\Below w.heap.size w w':=by
 have c:=aG w (.cells #[.int .i64 1,.int .i64 i,.int .i64 1] 319)
 have a:=aH w (.cells #[.int .i64 1,.int .i64 i,.int .i64 1] 319)
 obtain⟨g,f⟩:∃x:World,Hid (w.alloc (.cells #[.int .i64 1,.int .i64 i,.int .i64 1] 319)=x):=⟨_,ah rfl⟩
 rw[f.out] at c a
 obtain⟨m,d⟩:∃x:Nat,Hid (w.heap.size=x):=⟨_,ah rfl⟩
 rw[d.out] at a
 obtain⟨p,_,n,_,_,_,o⟩:=sj (w:=g) (b:=m) a
 have l:Hid (Calls Tryz.prog 286 #[.int .i64 1,.int .i64 10] g fun e w'=>e= .returned (.string XW)/\w'=g):=ah (R9 g 1 XW (by omega) (by kernel_rfl))
 have r:∀W:World,(Op.stringOp .add (⟨#[34]⟩:ByteArray) XW).run Tryz.prog W= .ok (.string ⟨#[34,49]⟩) W:=fun _=>by kernel_rfl
 have s:∀W:World,(Op.stringOp .add (⟨#[34,49]⟩:ByteArray) ⟨#[34]⟩).run Tryz.prog W= .ok (.string KL) W:=fun _=>by kernel_rfl
 have k:=ah c
 clear c a
 go_enter Tryz.func184,Tryz.ntmps184
 go_upto_region 1 with (fail)
 rw[f.out,d.out]
 go_wp2_with (first
  |(go_at_call 286;go_must (refine l.out.mono ?_;rintro e j ⟨rfl,q⟩;subst j)))
 go_ret
 exact⟨rfl,k.out⟩
theorem Gn (d:Nat)(t:Value)(g:Int)(b:ByteArray)(q:Value)(x s:Nat)(p n:Nat)(l:List Value)(w:World)(h:iV w d t g b q x s)(C:w.heap[p]? =some (.cells l.toArray 146 (0,0)))(A:l.length=n)(m:∀v∈l,v.oneCell'=true)(F:n<=100):
  Calls Tryz.prog 257 #[.pointer (some ⟨d,0,none⟩),.slice (some ⟨p,0,none⟩) n n] w fun e w'=>e= .returned (.bool false)/\Below w.heap.size w w':=by
 have o:=ah (au h (au C (au A (au m F))))
 clear h C A m
 go_enter Tryz.func257,Tryz.ntmps257
 go_wp2
 go_loopw [6,9] (fun _ i wr=>(∃k:Nat,k<=n/\i= .int .i64 k)/\Below w.heap.size w wr) (fun _ i _=>n - (intOf i).toNat)
 case atStart=>exact⟨⟨0,aR _,rfl⟩,aJ _ _⟩
 case round=>
  obtain⟨⟨k,P,rfl⟩,a⟩:=hrel
  by_cases G:k<n
  ·have f:=(a.block p (aj.1 o.out.2.1).1).trans o.out.2.1
   have j:=o.out.1.below a
   have N:=(aj.1 f).1
   have B:(k:Int)<(n:Int):=by omega
   have y:k<l.length:=by have:=o.out.2.2.1;omega
   obtain⟨v,z⟩:∃v,Hid (l[k]=v):=⟨_,ah rfl⟩
   have O:wr.cell? ⟨p,k,none⟩=some v:=by rw[<-z.out];simp[World.cell?,f,y]
   have D:=ah (au j a)
   clear f j a
   go_upto_region 4 with (fail)
   have r:iV wr.drew d t g b q x s/\Below w.heap.size w wr.drew:=⟨D.out.1.below (aJ _ wr).drew,D.out.2.trans ((aJ _ wr).drew)⟩
   refine aP (fun W=>iV W d t g b q x s/\Below w.heap.size w W) (fun i=> !([9].contains i)) [0,1,2,3,4,5,6,7,8,9,10] rfl (by kernel_rfl) r ?_
   repeat ((refine bE (v:= ?_) rfl rfl (fun _ _ _ h=>h) rfl (fun W c=> ?_) ?_);rotate_left;(focus ((try dsimp only at c);have E:W.cell? ⟨d,11,none⟩=some (.slice none 0 0):=c.1.p.2.2.2.2.1;have M:W.cell? ⟨d,12,none⟩=some (.slice none 0 0):=c.1.p.2.2.2.2.2.1;have J:=c.1.lt;(go_simp;first|done|with_reducible rfl)));(try simp only[Act.put,ak,ay,ax]))
   refine bT rfl rfl rfl ?_;intro K I;go_simp
   refine(PS _ _ _).mono ?_;rintro e H ⟨rfl,Q⟩;subst H
   refine I.out _ _ r ?_
   (try simp only[Act.put,ak,ay,ax])
   repeat ((refine bE (v:= ?_) rfl rfl (fun _ _ _ h=>h) rfl (fun W c=> ?_) ?_);rotate_left;(focus ((try dsimp only at c);have E:W.cell? ⟨d,11,none⟩=some (.slice none 0 0):=c.1.p.2.2.2.2.1;have M:W.cell? ⟨d,12,none⟩=some (.slice none 0 0):=c.1.p.2.2.2.2.2.1;have J:=c.1.lt;(go_simp;first|done|with_reducible rfl)));(try simp only[Act.put,ak,ay,ax]))
   refine bN ?_
   go_wp2_with fail
   go_roundw
   case rel=>exact⟨⟨k+1,by omega,by go_num⟩,r.2⟩
   case measure=>simp[intOf];omega
  ·obtain rfl:k=n:=by omega
   have R:¬(k:Int)<(k:Int):=by omega
   go_wp2_with fail
   go_ret
   exact⟨rfl,a⟩
theorem Xm:su []=true:=by kernel_rfl
theorem R3 {p:TP}{w:World}(h:RT p [] w)(o:Nat)(k:Value)(f:Int)(a:ByteArray)(g c:Nat)(z B:Nat)(x:iV w o k f a (.slice (some ⟨g,0,none⟩) 1 c) p.x z)(G:aV w eG B 9 1 (.slice (some ⟨g,0,none⟩) 1 c) 1 [.string jU])(M:1<=c/\c<=9223372036854775807)(I:kg w):
  Calls Tryz.prog 256 #[.pointer (some ⟨o,0,none⟩)] w fun e w'=>e= .returned (.tuple #[])/\Below w.heap.size w w':=by
 obtain⟨R,_⟩:=x.p
 have Q:=x.lt
 have H:pK w eG (.slice (some ⟨g,0,none⟩) 1 c) [jU]:=G.MZ
 have s:pK w eG (.slice (some ⟨g,0,none⟩) 0 c) []:=pK.init (path:=[jU]) H
 have A:=Pv h o k f a _ z _ [] eG qw x s (by simp) I Xm (by simp) (show wJ [] [] qw qw from rfl) (by decide)
 have t:(rW [] qw).toArray=#[.int .i64 2,.int .i64 0,.int .i64 0]:=by kernel_rfl
 rw[t] at A
 have A:=ah A
 have O:=ah x
 have J:=ah M
 have S:∀W:World,(Instr.field 319 (.agg #[.int .i64 2,.int .i64 0,.int .i64 0]) 0).run Tryz.prog W= .ok (.int .i64 2) W:=fun _=>by kernel_rfl
 clear h x G M I H s t
 go_enter Tryz.func256,Tryz.ntmps256
 go_wp2_with (first
  |(go_at_call 260;go_must (refine(K3 g c _ J.out).mono ?_;rintro e b ⟨rfl,E⟩;subst b))
  |(go_at_call 185;go_must (refine A.out.mono ?_;rintro e b ⟨rfl,n⟩;refine Stop.of ?_)))
 refine Stop.on ?_
 have j:=ah (au (O.out.below n) n)
 clear n R Q
 go_upto_region 1 with (go_at_call 58;go_must (refine(yo _ _).mono ?_;rintro e C ⟨rfl,E⟩;subst C))
 have F:iV b.drew o k f a (.slice (some ⟨g,0,none⟩) 1 c) p.x z/\Below w.heap.size w b.drew:=⟨j.out.1.below (aJ _ b).drew,j.out.2.trans ((aJ _ b).drew)⟩
 refine aP (fun W=>iV W o k f a (.slice (some ⟨g,0,none⟩) 1 c) p.x z/\Below w.heap.size w W) (fun i=> !([9,10,11,12].contains i)) [0,1,2,3,4,5,6,7,8,9,10,11,12] rfl (by kernel_rfl) F ?_
 repeat ((refine bE (v:= ?_) rfl rfl (fun _ _ _ h=>h) rfl (fun W D=> ?_) ?_);rotate_left;(focus ((try dsimp only at D);have T:W.cell? ⟨o,7,none⟩=some (.slice (some ⟨g,0,none⟩) 1 c):=D.1.p.1;have V:=D.1.lt;(go_simp;first|done|with_reducible rfl)));(try simp only[Act.put,ak,ay,ax]))
 refine bT rfl rfl rfl ?_;intro K r;go_simp
 refine(K3 g c _ J.out).mono ?_;rintro e C ⟨rfl,E⟩;subst C
 refine r.out _ _ F ?_
 (try simp only[Act.put,ak,ay,ax])
 refine bT rfl rfl rfl ?_;intro K r;go_simp
 have d:Below b.heap.size b (b.alloc (.cells #[.slice (some ⟨g,0,none⟩) 1 c,.slice (some ⟨g,0,none⟩) 0 c] 146)).drew:=(aG b _).drew
 have y:(b.alloc (.cells #[.slice (some ⟨g,0,none⟩) 1 c,.slice (some ⟨g,0,none⟩) 0 c] 146)).drew.heap[b.heap.size]? =some (.cells #[.slice (some ⟨g,0,none⟩) 1 c,.slice (some ⟨g,0,none⟩) 0 c] 146 (0,0)):=aH b _
 refine r.out _ _ ⟨j.out.1.below d,j.out.2.trans (d.mono j.out.2.size)⟩ ?_
 (try simp only[Act.put,ak,ay,ax])
 generalize (b.alloc (.cells #[.slice (some ⟨g,0,none⟩) 1 c,.slice (some ⟨g,0,none⟩) 0 c] 146)).drew=N at d y ⊢
 have l:=j.out.1.below d
 refine bT rfl rfl rfl ?_;intro K r;go_simp
 refine(Gn o k f a _ p.x z _ 2 [.slice (some ⟨g,0,none⟩) 1 c,.slice (some ⟨g,0,none⟩) 0 c] N l y rfl (by intro v k;simp only[aW,bQ,fJ] at k;rcases k with rfl|rfl<;>rfl) (by decide)).mono ?_;rintro e C ⟨rfl,q⟩
 have m:=j.out.2.trans ((d.trans (q.mono d.size)).mono j.out.2.size)
 refine r.out _ _ ⟨l.below q,m⟩ ?_
 (try simp only[Act.put,ak,ay,ax])
 refine bT rfl rfl rfl ?_;intro K r;go_simp
 refine(yo _ _).mono ?_;rintro e P ⟨rfl,E⟩;subst P
 refine r.out _ _ ⟨l.below q,m⟩ ?_
 refine bN ?_
 go_end0
 exact⟨rfl,m⟩
theorem kg.nY {M:Nat->Prop}{w w':World}(h:kg w)(a:Keep M w w')(g:¬M (gP.g 3))(b:¬M (gP.g 4)):kg w':=by
 have j:gP.g 3<w.heap.size:=aD w _ (h.1 0 (by decide))
 have e:gP.g 4<w.heap.size:=aD w _ (h.2 0 (by decide)).1
 exact⟨fun c f=>(a.cell (p:=⟨gP.g 3,c,none⟩) j g).trans (h.1 c f),fun i d=>⟨(a.cell (p:=⟨gP.g 4,2*i,none⟩) e b).trans (h.2 i d).1,(a.cell (p:=⟨gP.g 4,2*i+1,none⟩) e b).trans (h.2 i d).2⟩⟩
def II:List Pr:=Gy (wE [] jU) id1 1 sX
theorem Vo:dK (wE [] jU) ⟨#[101]⟩=none:=by kernel_rfl
theorem Vn:dK II (xq qw.i jU)=some id1:=by kernel_rfl
theorem Vm:dK II (yj id1)=some (zu 1 1):=by kernel_rfl
theorem Xn:wJ II [jU] qw ⟨id1,1,1⟩:=⟨by decide,.inr ⟨rfl,⟨id1,1,1⟩,Vn,by decide,⟨Vm,by decide,by decide,by decide,by decide⟩,rfl⟩⟩
theorem Xo:wJ [] [jU] qw nd0:=⟨by decide,.inl ⟨rfl,rfl⟩⟩
theorem Qe:su [jU]=true:=by kernel_rfl
theorem X8:II.length<=4090:=bF (by kernel_rfl)
theorem rZ:(Tryz.prog.info? 81).map (·.size)=some 5:=by kernel_rfl
theorem X6 {p:TP}{w:World}(h:RT p [] w)(G:Nat)(Q:Value)(H:Int)(n:ByteArray)(g c:Nat)(lb B:Nat)(hj:iV w G Q H n (.slice (some ⟨g,0,none⟩) 1 c) p.x lb)(ho:aV w eG B 9 1 (.slice (some ⟨g,0,none⟩) 1 c) 1 [.string jU])(hc:1<=c/\c<=9223372036854775807)(hT:kg w)(hF:p.F G/\p.F g/\p.F (gP.g 3)/\p.F (gP.g 4))(hr:p.rm [] 5):
  Calls Tryz.prog 175 #[.pointer (some ⟨G,0,none⟩)] w fun e w'=>∃af,e= .returned (.tuple #[.agg #[.int .i64 201,af,.string ⟨#[]⟩,.bool false,.bool false],.bool true])/\(∃F':Nat->Prop,RT {p with F:=F'} II w'/\(∀g,p.F g->F' g)/\∀b,af.ownBlock=some b->F' b)/\lJ w' af uF/\(∀b,af.ownBlock=some b->w.heap.size<=b)/\Keep (fun g=>¬p.F g) w w':=by
 have D:=aG w (.cells #[.int .i64 0,.slice none 0 0,.string ⟨#[]⟩,.bool false,.bool false] 81)
 have q9:=aH w (.cells #[.int .i64 0,.slice none 0 0,.string ⟨#[]⟩,.bool false,.bool false] 81)
 obtain⟨w1,nk⟩:∃x:World,Hid (w.alloc (.cells #[.int .i64 0,.slice none 0 0,.string ⟨#[]⟩,.bool false,.bool false] 81)=x):=⟨_,ah rfl⟩
 rw[nk.out] at D q9
 obtain⟨o,qy⟩:∃x:Nat,Hid (w.heap.size=x):=⟨_,ah rfl⟩
 rw[qy.out] at q9
 have qo:=hj.below D
 have lH:=ho.below D
 have hS:=Pv (h.below D) G Q H n _ lb _ [jU] eG nd0 qo (lH.MZ:pK w1 eG _ [jU]) (by decide) (hT.below D) Qe (by simp) Xo (by decide)
 rw[show (rW [] nd0).toArray=#[.int .i64 0,.int .i64 0,.int .i64 0] from by kernel_rfl] at hS
 have HS:=ah hS
 obtain⟨c7,c8,_⟩:=qo.p
 have lj:=qo.lt
 have r:=ah (au h (au hj (au ho (au hT (au hF (au hr (au D (au q9 qy.out))))))))
 have HC:=ah hc
 clear h hj ho hc hT hF hr D q9 qo lH hS
 go_enter Tryz.func175,Tryz.ntmps175
 go_upto_region 1 with (fail)
 rw[nk.out,qy.out]
 go_wp2_with (first
  |(go_at_call 185;go_must (refine HS.out.mono ?_;rintro e w2 ⟨rfl,qC⟩;refine Stop.of ?_)))
 refine Stop.on ?_
 have qc:=aG w2 (.cells #[.int .i64 0,.int .i64 0,.int .i64 0] 319)
 have qf:=aH w2 (.cells #[.int .i64 0,.int .i64 0,.int .i64 0] 319)
 obtain⟨w3,lG⟩:∃x:World,Hid (w2.alloc (.cells #[.int .i64 0,.int .i64 0,.int .i64 0] 319)=x):=⟨_,ah rfl⟩
 rw[lG.out] at qc qf
 obtain⟨ib,lg⟩:∃x:Nat,Hid (w2.heap.size=x):=⟨_,ah rfl⟩
 rw[lg.out] at qf
 have O:=r.out.2.2.2.2.2.2.1.trans ((qC.trans (qc.mono qC.size)).mono r.out.2.2.2.2.2.2.1.size)
 have qb:=r.out.2.1.below O
 obtain⟨d0,_,_,_,_,_,li⟩:=sj (w:=w3) (b:=ib) qf
 obtain⟨nY,nH,_⟩:=qb.p
 have nN:=qb.lt
 have HP:=ah (R3 (r.out.1.below O) G Q H n g c lb B qb (r.out.2.2.1.below O) HC.out (r.out.2.2.2.1.below O))
 have E:=ah (au O (au qC qc))
 clear qC qc qf O qb c7 c8 lj
 go_upto_region 2 with (fail)
 rw[lG.out,lg.out]
 go_wp2_with (first
  |(go_at_call 58;go_must (refine(yo _ _).mono ?_;rintro e w5 ⟨rfl,hw⟩;subst w5))
  |(go_at_call 256;go_must (refine HP.out.mono ?_;rintro e w4 ⟨rfl,j4⟩;refine Stop.of ?_)))
 refine Stop.on ?_
 have dn:=E.out.1.trans (j4.mono E.out.1.size)
 have qm:=r.out.2.1.below dn
 have bg:=aG w4 (.cells #[.slice (some ⟨g,0,none⟩) 1 c] 146)
 have mr:=aH w4 (.cells #[.slice (some ⟨g,0,none⟩) 1 c] 146)
 have HG:=ah (Gn G Q H n _ p.x lb _ 1 [.slice (some ⟨g,0,none⟩) 1 c] _ (qm.below bg) mr rfl (by intro v Q;simp only[aW,bQ,fJ] at Q;rcases Q with rfl;rfl) (by decide))
 obtain⟨c7,_⟩:=qm.p
 have lj:=qm.lt
 have t:=ah (au dn (au j4 bg))
 clear dn qm j4 bg mr nY nH nN d0 li
 go_wp2_with (first
  |(go_at_call 58;go_must (refine(yo _ _).mono ?_;rintro e w5 ⟨rfl,hw⟩;subst w5))
  |(go_at_call 257;go_must (refine HG.out.mono ?_;rintro e w6 ⟨rfl,dM⟩;refine Stop.of ?_)))
 refine Stop.on ?_
 have d9:=t.out.1.trans ((t.out.2.2.trans (dM.mono t.out.2.2.size)).mono t.out.1.size)
 have mo:=r.out.2.1.below d9
 have hI:iV w6.drew G Q H n (.slice (some ⟨g,0,none⟩) 1 c) p.x lb:=mo.below (aJ _ w6).drew
 have z:=d9.trans ((aJ w.heap.size w6).drew)
 have j6:=ah (au z dM)
 clear d9 dM mo c7 lj
 go_upto_region 6 with (go_at_call 58;go_must (refine(yo _ _).mono ?_;rintro e w7 ⟨rfl,hw⟩;subst w7))
 refine aP (fun W=>iV W G Q H n (.slice (some ⟨g,0,none⟩) 1 c) p.x lb) (fun i=> !([13].contains i)) [0,1,2,3,4,5,6,7,8,9,10,11,12,13,14,15,16,17,18] rfl (by kernel_rfl) hI ?_
 repeat ((refine bE (v:= ?_) rfl rfl (fun _ _ _ h=>h) rfl (fun W V=> ?_) ?_);rotate_left;(focus ((try dsimp only at V);have p0:W.cell? ⟨G,7,none⟩=some (.slice (some ⟨g,0,none⟩) 1 c):=V.p.1;have p1:W.cell? ⟨G,9,none⟩=some (.pointer (some ⟨p.x,0,none⟩)):=V.p.2.2.1;have p3:W.cell? ⟨G,3,none⟩=some (.string sX):=V.q.2.2.2.1;have p2:=V.lt;(go_simp;first|done|with_reducible rfl)));(try simp only[Act.put,ak,ay,ax]))
 have l7:=r.out.1.next z
 have iO:=r.out.2.2.1.below z
 have eH:=OA sX _ jU eG l7 (iO.MZ:pK w6.drew eG _ [jU]) (r.out.2.2.2.1.below z) Qe (by decide) Vo r.out.2.2.2.2.2.1 (by decide)
 rw[show Gy (wE [] jU) id1 1 sX=II from rfl,show (p.add w w6.drew).x=p.x from rfl] at eH
 refine bT rfl rfl rfl ?_;intro K hK;go_simp
 refine eH.mono ?_;rintro e w7 ⟨rfl,eZ,p9⟩
 have P:=hI.keep p9 (fun e=>e (.inl r.out.2.2.2.2.1.1))
 refine hK.out _ _ P ?_
 (try simp only[Act.put,ak,ay,ax])
 repeat ((refine bE (v:= ?_) rfl rfl (fun _ _ _ h=>h) rfl (fun W V=> ?_) ?_);rotate_left;(focus ((try dsimp only at V);have p0:W.cell? ⟨G,7,none⟩=some (.slice (some ⟨g,0,none⟩) 1 c):=V.p.1;have p1:W.cell? ⟨G,9,none⟩=some (.pointer (some ⟨p.x,0,none⟩)):=V.p.2.2.1;have p3:W.cell? ⟨G,3,none⟩=some (.string sX):=V.q.2.2.2.1;have p2:=V.lt;(go_simp;first|done|with_reducible rfl)));(try simp only[Act.put,ak,ay,ax]))
 refine bN ?_
 have kD:aV w7 eG B 9 1 (.slice (some ⟨g,0,none⟩) 1 c) 1 [.string jU]:=iO.keep (fun b C hl hs=>⟨p9.block b hl (fun e=>e (.inl (by cases C;exact r.out.2.2.2.2.1.2.1))),hs⟩)
 have mD:kg w7:=(r.out.2.2.2.1.below z).nY p9 (fun e=>e (.inl r.out.2.2.2.2.1.2.2.1)) (fun e=>e (.inl r.out.2.2.2.2.1.2.2.2))
 have jv:=Pv eZ G Q H n _ lb _ [jU] eG ⟨id1,1,1⟩ P (kD.MZ:pK w7 eG _ [jU]) (by decide) mD Qe X8 Xn (by decide)
 rw[show (rW II ⟨id1,1,1⟩).toArray=#[.int .i64 1,.int .i64 1,.int .i64 1] from by kernel_rfl] at jv
 have ol:=ah jv
 have kC:o<w6.drew.heap.size:=aA (aj.1 r.out.2.2.2.2.2.2.2.1).1 (by have a:=z.size;have b:=t.out.1.size;have c:=r.out.2.2.2.2.2.2.1.size;have d:=j6.out.2.size;have e1:=t.out.2.1.size;have e2:=t.out.2.2.size;have e3:=E.out.2.1.size;have e4:=E.out.2.2.size;simp only[bD] at*;exact aI e3 (aI e4 (aI e1 (aI e2 d))))
 have y:=ah (au eZ (au p9 (au kC (au z P))))
 obtain⟨c7,_⟩:=P.p
 have lj:=P.lt
 clear eZ p9 kC z P kD mD jv l7 iO eH hI
 go_wp2_with (first
  |(go_at_call 63;go_must (refine(Px _).mono ?_;rintro e w8 ⟨rfl,hw⟩;subst w8))
  |(go_at_call 185;go_must (refine ol.out.mono ?_;rintro e w8 ⟨rfl,j3⟩))
  |(go_at_call 184;go_must (refine(WZ _ _).mono ?_;rintro e w9 ⟨rfl,lq⟩;refine Stop.of ?_)))
 refine Stop.on ?_
 have I:=j3.trans (lq.mono j3.size)
 obtain⟨C,qO⟩:∃x:Nat,Hid (w9.heap.size=x):=⟨_,ah rfl⟩
 have A:=aG w9 (.cells #[.string ⟨#[69,84,97,103]⟩,.string KL] 162)
 have T:=aH w9 (.cells #[.string ⟨#[69,84,97,103]⟩,.string KL] 162)
 have M:lJ (w9.alloc (.cells #[.string ⟨#[69,84,97,103]⟩,.string KL] 162)) (.slice (some ⟨w9.heap.size,0,none⟩) 1 1) uF:=by
  have hr:Row (w9.alloc (.cells #[.string ⟨#[69,84,97,103]⟩,.string KL] 162)) w9.heap.size 162 (dG uF):=Row.new w9 _ _
  have:=hr.dM (S:=eG) (k:=2) (off:=0) 1 1 (by decide) id (aC _) (by simp[maxLen])
  exact this
 obtain⟨ql,R⟩:∃x:World,Hid (w9.alloc (.cells #[.string ⟨#[69,84,97,103]⟩,.string KL] 162)=x):=⟨_,ah rfl⟩
 rw[R.out] at A T M
 rw[qO.out] at T M
 have J:=aG ql (.cells #[.int .i64 204,.slice (some ⟨C,0,none⟩) 1 1,.string ⟨#[]⟩,.bool false,.bool false] 81)
 have m:=aH ql (.cells #[.int .i64 204,.slice (some ⟨C,0,none⟩) 1 1,.string ⟨#[]⟩,.bool false,.bool false] 81)
 obtain⟨j,ai⟩:∃x:World,Hid (ql.alloc (.cells #[.int .i64 204,.slice (some ⟨C,0,none⟩) 1 1,.string ⟨#[]⟩,.bool false,.bool false] 81)=x):=⟨_,ah rfl⟩
 rw[ai.out] at J m
 have di:ql.heap.size=C+1:=by rw[<-R.out,<-qO.out];simp
 obtain⟨xb,fo⟩:∃x:Nat,Hid (C+1=x):=⟨_,ah rfl⟩
 rw[di,fo.out] at m
 have pV:=I.trans ((A.trans (J.mono A.size)).mono I.size)
 have lx:=(aj.1 m).1
 have f0:j.frozen? ⟨xb,0,none⟩=false:=by simp[World.frozen?,m]
 have c0:j.cell? ⟨xb,0,none⟩=some (.int .i64 204):=by simp[World.cell?,m]
 have l:=ah (au pV (au m (au (bq.below M J:lJ j _ uF) (au I A))))
 clear j3 lq I A T M J m pV c7 lj
 go_upto_region 9 with (fail)
 rw[R.out,qO.out,ai.out,fo.out]
 have N:Keep (· =xb) j (j.setCell ⟨xb,0,none⟩ (.int .i64 201)):=(Keep.refl (· =xb) j).setCell (p:=⟨xb,0,none⟩) (.inr rfl) _
 have Z:(j.setCell ⟨xb,0,none⟩ (.int .i64 201)).heap[xb]? =some (.cells #[.int .i64 201,.slice (some ⟨C,0,none⟩) 1 1,.string ⟨#[]⟩,.bool false,.bool false] 81 (0,0)):=by
  have:=l.out.2.1
  simp[World.setCell,aK,this]
 obtain⟨j5,av⟩:∃x:World,Hid (j.setCell ⟨xb,0,none⟩ (.int .i64 201)=x):=⟨_,ah rfl⟩
 rw[av.out] at N Z
 go_upto_region 11 with (fail)
 rw[av.out]
 have bf:o<w7.heap.size:=aA y.out.2.2.1 y.out.2.1.size
 have Y:w7.heap.size<=C:=by rw[<-qO.out];exact l.out.2.2.2.1.size
 have l9:o<C/\C+1=xb/\w.heap.size=o:=⟨by omega,fo.out,qy.out⟩
 have kz:Row j5 o 81 [.int .i64 0,.slice none 0 0,.string ⟨#[]⟩,.bool false,.bool false]:=by
  have r6:w6.drew.heap[o]? =some (.cells #[.int .i64 0,.slice none 0 0,.string ⟨#[]⟩,.bool false,.bool false] 81 (0,0)):=by
   have q:=r.out.2.2.2.2.2.2.2.1
   have l1:=(aj.1 q).1
   have q3:=(E.out.2.2.block o (aA l1 E.out.2.1.size)).trans ((E.out.2.1.block o l1).trans q)
   have l3:=(aj.1 q3).1
   have q4:=(t.out.2.1.block o l3).trans q3
   have l4:=(aj.1 q4).1
   have q5:=(t.out.2.2.block o l4).trans q4
   have l5:=(aj.1 q5).1
   exact(j6.out.2.block o l5).trans q5
  have r7:=(y.out.2.1.block o y.out.2.2.1 (fun e=>e (.inr ⟨by omega,y.out.2.2.1⟩))).trans r6
  have q8:=(l.out.1.block o bf).trans r7
  exact(N.block o (aj.1 q8).1 (fun e=>by have e:o=xb:=e;omega)).trans q8
 obtain⟨c0,c1,c2,c3,c4,lx⟩:=mF.cells (w:=j5) (xb:=xb) Z
 have f:=ah (au N (au l9 (au Y bf)))
 clear N Z l9 Y bf
 go_wp2_with (first
  |((refine bS rfl ?_);intro K hK;(refine wp_store_row 81 (.tmp 2) (.tmp 68) rfl o 0 81 _ [.int .i64 201,.slice (some ⟨C,0,none⟩) 1 1,.string ⟨#[]⟩,.bool false,.bool false] rfl rfl kz rZ (aC 5) (by intro v Q;simp only[aW,bQ,fJ] at Q;rcases Q with rfl|rfl|rfl|rfl|rfl<;>rfl) ?_);intro ko nD l6;refine hK _ _ ?_))
 have ng:mF ko o (.slice (some ⟨C,0,none⟩) 1 1) ⟨#[]⟩ false false:=nD
 obtain⟨d0,d1,d2,d3,d4,_⟩:=ng.cells
 refine dJ (by simp[results,Tryz.results175,go_sem,d0,d1,d2,d3,d4];rfl) rfl ?_
 have s:Keep (fun g=>g=xb\/g=o) j ko:=(f.out.1.mono (fun _ _ e=> .inl e)).trans l6 (fun _ _ e=> .inr e)
 have o5:=(aj.1 l.out.2.1).1
 refine⟨_,rfl,?_,?_,?_,?_⟩
 ·have q8:=y.out.1.next l.out.1
  have og:=q8.keep s (fun g e=>e.elim (fun e=> .inr ⟨by have e:g=xb:=e;have:=f.out.2;omega,by have e:g=xb:=e;omega⟩) (fun e=> .inl (.inr ⟨by have e:g=o:=e;have:=f.out.2;omega,by have e:g=o:=e;rw[e];exact y.out.2.2.1⟩))) (fun e=>by
   have lx:=r.out.1.lt
   have hx:((p.add w w6.drew).add w7 j).x=p.x:=rfl
   rw[hx] at e
   have:=f.out.2
   rcases e with e|e<;>omega)
  exact⟨((p.add w w6.drew).add w7 j).F,og,fun g e=> .inl (.inl e),fun b X=>by
   have h2:C=b:=dN X
   exact .inr ⟨by have:=f.out.2;omega,by have:=f.out.2;omega⟩⟩
 ·exact bq.keep l.out.2.2.1 fun b X hl hs=>⟨s.block b hl (fun e=>by have h1:=f.out.2;have h2:C=b:=dN X;have e:b=xb\/b=o:=e;omega),hs⟩
 ·intro b X
  have h2:C=b:=dN X
  have:=f.out.2
  omega
 ·have k7:Keep (fun g=>¬p.F g\/w.heap.size<=g) w6.drew w7:=y.out.2.1.mono (fun g _ e=> .inl fun x=>e (.inl x))
  have oo:=k7.trans (Keep.of_below l.out.1 (fun g=>¬p.F g\/w.heap.size<=g)) (fun _ _ e=>e)
  have oO:=oo.trans s (fun g _ e=> .inr (by have:=f.out.2;have e:g=xb\/g=o:=e;omega))
  exact(Keep.of_below y.out.2.2.2.1 (fun g=>¬p.F g)).trans oO (fun g hg e=>e.elim id (fun e=>absurd hg (aX.2 e)))
theorem X3:XI hsP ⟨#[105,102]⟩:=⟨by decide,by intro p a;simp only[hsP,aW,bQ,fJ] at a;rcases a with rfl|rfl<;>kernel_rfl⟩
theorem X4:XI hsP ⟨#[99,111,110,116,101,110,116,45,114,97,110,103,101]⟩:=⟨by decide,by intro p a;simp only[hsP,aW,bQ,fJ] at a;rcases a with rfl|rfl<;>kernel_rfl⟩
theorem X5 {p:TP}{w:World}(h:RT p [] w)(N:Nat)(y:Value)(s:Int)(d:ByteArray)(g c:Nat)(Y B:Nat)(hj:iV w N y s d (.slice (some ⟨g,0,none⟩) 1 c) p.x Y)(ho:aV w eG B 9 1 (.slice (some ⟨g,0,none⟩) 1 c) 1 [.string jU])(hc:1<=c/\c<=9223372036854775807)(hh:lJ w y hsP)(hT:kg w)(hF:p.F N/\p.F g/\p.F (gP.g 3)/\p.F (gP.g 4))(hr:p.rm [] 5):
  Calls Tryz.prog 61 #[.pointer (some ⟨N,0,none⟩)] w fun e w'=>∃n,e= .returned (.tuple #[.agg #[.int .i64 201,n,.string ⟨#[]⟩,.bool false,.bool false],.bool true])/\(∃F':Nat->Prop,RT {p with F:=F'} II w'/\(∀g,p.F g->F' g)/\∀b,n.ownBlock=some b->F' b)/\lJ w' n uF/\(∀b,n.ownBlock=some b->w.heap.size<=b)/\Keep (fun g=>¬p.F g) w w':=by
 have j:=aG w (.cells #[.int .i64 0,.slice none 0 0,.string ⟨#[]⟩,.bool false,.bool false] 81)
 have t:=aH w (.cells #[.int .i64 0,.slice none 0 0,.string ⟨#[]⟩,.bool false,.bool false] 81)
 obtain⟨w1,X⟩:∃x:World,Hid (w.alloc (.cells #[.int .i64 0,.slice none 0 0,.string ⟨#[]⟩,.bool false,.bool false] 81)=x):=⟨_,ah rfl⟩
 rw[X.out] at j t
 obtain⟨i,A⟩:∃x:Nat,Hid (w.heap.size=x):=⟨_,ah rfl⟩
 rw[A.out] at t
 have q:=hj.below j
 have C:lJ w1 y hsP:=bq.below hh j
 have HS:=ah (KZ N y s d _ p.x Y hsP _ w1 q C X3)
 have lj:=q.lt
 have a:=ah (au h (au hj (au ho (au hT (au hF (au hr (au j (au t (au A.out (au q C))))))))))
 have HC:=ah hc
 clear h hj ho hc hT hF hr j t q hh C
 go_enter Tryz.func61,Tryz.ntmps61
 go_upto_region 1 with (fail)
 rw[X.out,A.out]
 go_wp2_with (first
  |(go_at_call 110;go_must (refine HS.out.mono ?_;rintro e w2 ⟨rfl,r⟩;refine Stop.of ?_)))
 refine Stop.on ?_
 have HP:=ah (Pw N y s d _ p.x Y hsP w2 (a.out.2.2.2.2.2.2.2.2.2.1.below r) (bq.below a.out.2.2.2.2.2.2.2.2.2.2 r) X4)
 have W:=ah r
 clear r
 go_wp2_with (first
  |(go_at_call 112;go_must (refine HP.out.mono ?_;rintro e Z ⟨rfl,P⟩;refine Stop.of ?_)))
 refine Stop.on ?_
 have m:=W.out.trans (P.mono W.out.size)
 have f:=a.out.2.2.2.2.2.2.1.trans (m.mono a.out.2.2.2.2.2.2.1.size)
 have o:=a.out.2.1.below f
 obtain⟨_,_,_,_,_,_,qc⟩:=o.p
 have qb:=o.lt
 have Q:=a.out.1.next f
 have ql:=ah (X6 Q N y s d g c Y B o (a.out.2.2.1.below f) HC.out (a.out.2.2.2.1.below f) ⟨.inl a.out.2.2.2.2.1.1,.inl a.out.2.2.2.2.1.2.1,.inl a.out.2.2.2.2.1.2.2.1,.inl a.out.2.2.2.2.1.2.2.2⟩ a.out.2.2.2.2.2.1)
 have HX:=ah (au m f)
 clear P m f o Q lj
 go_wp2_with (first
  |(refine ql.out.mono ?_;rintro e w4 ⟨n,rfl,⟨F4,T,R,V⟩,J,z,G⟩;refine Stop.of ?_))
 refine Stop.on ?_
 obtain⟨M,I,rfl,_,_,_,_⟩:=bq.form J
 have l:i<Z.heap.size:=aA (aj.1 a.out.2.2.2.2.2.2.2.1).1 HX.out.1.size
 have O:=(HX.out.1.block i (aj.1 a.out.2.2.2.2.2.2.2.1).1).trans a.out.2.2.2.2.2.2.2.1
 have pV:Row w4 i 81 [.int .i64 0,.slice none 0 0,.string ⟨#[]⟩,.bool false,.bool false]:=(G.block i l (fun e=>e (.inr ⟨eO a.out.2.2.2.2.2.2.2.2.1,l⟩))).trans O
 have E:=ah (au R V)
 have k:=ah (au T (au J (au z (au G l))))
 clear T J z G l O qc qb R V
 go_wp2_with (first
  |((refine bS rfl ?_);intro K hK;(refine wp_store_row 81 (.tmp 2) (.tmp 57) rfl i 0 81 _ [.int .i64 201,.slice M uF.length I,.string ⟨#[]⟩,.bool false,.bool false] rfl rfl pV rZ (aC 5) (by intro v y;simp only[aW,bQ,fJ] at y;rcases y with rfl|rfl|rfl|rfl|rfl<;>rfl) ?_);intro w5 p9 H;refine hK _ _ ?_))
 have qf:mF w5 i (.slice M uF.length I) ⟨#[]⟩ false false:=p9
 obtain⟨d0,d1,d2,d3,d4,_⟩:=qf.cells
 refine dJ (by simp[results,Tryz.results61,go_sem,d0,d1,d2,d3,d4];rfl) rfl ?_
 have S:∀b,(Value.slice M uF.length I).ownBlock=some b->Z.heap.size<=b:=k.out.2.2.1
 have qm:w.heap.size=i:=a.out.2.2.2.2.2.2.2.2.1
 have l:i<Z.heap.size:=k.out.2.2.2.2
 refine⟨_,rfl,?_,?_,?_,?_⟩
 ·have r5:=k.out.1.keep H (fun g e=>E.out.1 g (.inr ⟨by have e:g=i:=e;omega,by have e:g=i:=e;omega⟩)) (fun e=>by
   have lx:=a.out.1.lt
   have e:p.x=i:=e
   omega)
  exact⟨F4,r5,fun g e=>E.out.1 g (.inl e),E.out.2⟩
 ·exact bq.keep k.out.2.1 fun b D hl hs=>⟨H.block b hl (fun e=>by have h1:=S b D;have e:b=i:=e;omega),hs⟩
 ·intro b D
  have h1:=S b D
  omega
 ·have k4:Keep (fun g=>¬p.F g\/w.heap.size<=g) Z w4:=k.out.2.2.2.1.mono (fun g _ e=> .inl fun x=>e (.inl x))
  have k5:=k4.trans H (fun g _ e=> .inr (by have e:g=i:=e;omega))
  exact(Keep.of_below HX.out.2 (fun g=>¬p.F g)).trans k5 (fun g hg e=>e.elim id (fun e=>absurd hg (aX.2 e)))
theorem sJ.WW {g:gW}{w:World}{v t N R dn u P f:Nat}{kv kv0:List Pr}{ch:Bool}(h:sJ g v t N R dn u kv0 kv ch P w)(r:P<=f):sJ g v t N R dn u kv0 kv ch f w:=by
 obtain⟨S,y,o,j,b,m,k,a,e,d,hA,hB,p,n,A,q,z,x,l,i,s,c⟩:=h
 exact⟨S,y,o,j,b,m,k,a,e,d,hA,hB,p,n,A,q,z,x,l,i,s,aI c r⟩
theorem Vl {F:Nat->Prop}{D:Nat->Dk->Lg->Pg->Prop}{w:World}{v N R dn u P:Nat}(h:qK ⟨F,w,D⟩ v N R dn u [] w)(z:2+u<=P)(k:Int):
  Calls Tryz.prog 55 #[.pointer (some ⟨v,0,none⟩),.int .i64 k] w fun e w'=>∃(y:Nat->Prop) (t x B:Nat),e= .returned (.tuple #[.pointer (some ⟨t,0,none⟩),.pointer (some ⟨x,0,none⟩),.pointer (some ⟨B,0,none⟩),.slice none 0 0,.int .i64 0])/\RT ⟨y,D,v,t,x,N,R,dn,u,P,[]⟩ [] w'/\(∀g,F g->y g)/\Keep (fun g=>¬F g) w w':=by
 have A:=ah h.begin
 clear h
 go_enter Tryz.func55,Tryz.ntmps55
 go_wp2_with (first
  |(go_at_call 77;go_must (refine A.out.mono ?_;rintro e o ⟨t,rfl,j⟩;refine Stop.of ?_)))
 refine Stop.on ?_
 have n:Keep (fun g=>¬F g) w o:=j.BS
 have p:=ah (au j n)
 clear j n
 go_wp2_with (first
  |(go_at_call 105;go_must (refine(Xc t o).mono ?_;rintro e E ⟨rfl,d,f⟩;refine Stop.of ?_)))
 refine Stop.on ?_
 have C:=ah (R5 (p.out.1.below f) o.heap.size k d)
 have i:=ah (au d f)
 clear d f
 go_wp2_with (first
  |(go_at_call 106;go_must (refine C.out.mono ?_;rintro e s ⟨rfl,b⟩))
  |(go_at_call 107;go_must (refine(Rl t s).mono ?_;rintro e r ⟨rfl,c,m⟩;refine Stop.of ?_)))
 refine Stop.on ?_
 have a:=i.out.2.trans ((b.trans (m.mono b.size)).mono i.out.2.size)
 have l:RT ⟨fun g=>F g\/(o.heap.size<=g/\g<r.heap.size),D,v,t,s.heap.size,N,R,dn,u,P,[]⟩ [] r:=
  ⟨⟨false,sJ.Yi ((p.out.1.WW z).next (Keep.of_below a (fun _=>False)) (fun _ e=>e.elim))⟩,c,.inr ⟨aI i.out.2.size b.size,(aj.1 c).1⟩⟩
 have q:=ah (au l a)
 clear b m a l c
 go_wp2_with fail
 refine dJ (by simp[results,Tryz.results55,go_sem];rfl) rfl ?_
 exact⟨_,t,_,_,rfl,q.out.1,fun g e=> .inl e,p.out.2.trans (Keep.of_below q.out.2 (fun g=>¬F g)) (fun _ _ e=>e)⟩
theorem X7 (a g i:Nat)(s C:Value)(w:World)(x:mF w a s ⟨#[]⟩ false false)(q:w.heap[g]? =some (.cells #[.int .i64 0] 26 (0,0)))(r:je w i iQ pE C sX false)(k:a≠g/\a≠i):
  CallsD Tryz.prog 57 #[.pointer (some ⟨a,0,none⟩),.pointer (some ⟨g,0,none⟩),.pointer (some ⟨i,0,none⟩)] .returning w fun e D w'=>e= .returned (.tuple #[])/\D= .returning/\mF w' a s ⟨#[]⟩ false false/\Keep (· =a) w w':=by
 refine xD Tryz.func57 rfl fun z O B=> ?_
 apply vK
 apply vK
 apply nI
 have v:∀w:World,(Instr.typeAssert Value.nilIface 20 141 true).run Tryz.prog w= .ok (.tuple #[.agg #[.int .i64 0,.int .i64 0],.bool false]) w:=fun _=>by kernel_rfl
 simp[wpOpsS,go_sem,recoverD,B,Tryz.ntmps57,Exit.thenS,v,Array.replicate,List.replicate]
 have c:=aG w (.cells #[.int .i64 0,.int .i64 0] 141)
 obtain⟨d,l⟩:∃d:World,Hid (w.alloc (.cells #[.int .i64 0,.int .i64 0] 141)=d):=⟨_,ah rfl⟩
 rw[l.out] at c
 rw[l.out]
 apply vK
 apply nI
 simp[wpOpsS,go_sem,Exit.thenS]
 refine wpS_cond (t:=false) (by simp[Act.eval]) ?_
 simp only[rV,if_false]
 refine IE (wp_skip ?_)
 simp only[Exit.thenS]
 refine IE ?_
 have b:=x.below c
 obtain⟨N,E,G,H,S,J⟩:=b.cells
 have f:=(c.block g (aj.1 q).1).trans q
 have T:d.cell? ⟨g,0,none⟩=some (.int .i64 0):=by simp[World.cell?,f]
 have F:=(aj.1 f).1
 have j:je d i iQ pE C sX false:=(c.block i (aj.1 r).1).trans r
 obtain⟨P,_,_,_,M,_,Q⟩:=j.cells
 have R:(iQ.toList==[72,69,65,68])=false:=by kernel_rfl
 have I:d.frozen? ⟨a,4,none⟩=false:=by simp[World.frozen?,show d.heap[a]? =_ from b]
 have K:d.frozen? ⟨a,3,none⟩=false:=by simp[World.frozen?,show d.heap[a]? =_ from b]
 have y:¬a=g:=k.1
 have A:¬a=i:=k.2
 have m:Keep (· =a) d ((d.setCell ⟨a,4,none⟩ (.bool false)).setCell ⟨a,3,none⟩ (.bool false)):=((Keep.refl (· =a) d).setCell (p:=⟨a,4,none⟩) (.inr rfl) _).setCell (p:=⟨a,3,none⟩) (.inr rfl) _
 have n:mF ((d.setCell ⟨a,4,none⟩ (.bool false)).setCell ⟨a,3,none⟩ (.bool false)) a s ⟨#[]⟩ false false:=by
  unfold mF at b ⊢
  simp[World.setCell,aK,b]
 have o:=ah (au c (au m n))
 clear c m n b f j x q r
 go_wp2
 refine⟨rfl,_,rfl,_,?_,rfl,B,?_,?_⟩
 ·simp[results,Tryz.results57,go_sem]
 ·exact o.out.2.2
 ·exact(Keep.of_below o.out.1 (· =a)).trans o.out.2.1 (fun _ _ e=>e)
end Go.Proofs.YtpmbddooibgnaaaGreatDoor
namespace Go.Proofs.YtpmbddooibgnaaaGreatDoor
open Go.RowKit
structure Keeps (D:Nat->Dk->Lg->Pg->Prop)(N dn:Nat):Prop where
 fu:∀x σ l p,D x σ l p->σ.fuel= -1
 com:∀kv x σ l p σ' l' p',D x σ l p->l.last=dn+1->p.blocks σ=N->XC kv σ l p σ' l' p'->D x σ' l' p'
theorem sJ.SN {b:gW}{w:World}{v t N R dn u P:Nat}{kv kv0:List Pr}{ch:Bool}(h:sJ b v t N R dn u kv0 kv ch P w)(k:dn<=100000000)(c:Keeps b.D N dn):
  Calls Tryz.prog 62 #[.pointer (some ⟨t,0,none⟩)] w fun e w'=>V7 t w'/\(
   (ch=false/\kv=kv0/\e= .returned (.tuple #[.int .i64 dn,.int .i64 0])/\qK b v N R dn u kv0 w')\/
   (ch=true/\(R<KY (P - u)\/1024<P - u)/\e= .returned (.tuple #[.int .i64 0,.int .i64 13])/\qK b v N R dn u kv0 w')\/
   (ch=true/\e= .returned (.tuple #[.int .i64 ((dn+1:Nat):Int),.int .i64 0])/\∃g,qK b v N R (dn+1) g kv w')):=by
 refine(h.Qr k b.D fun d o l p f r s e m j i=>c.com _ _ _ _ _ _ _ _ e m j i).mono ?_
 rintro e w' ⟨a,(h|h|h|⟨_,_,_,_,_,_,_,_,_,q,_,_,_,n,_⟩)⟩
 ·exact⟨a,.inl h⟩
 ·exact⟨a,.inr (.inl h)⟩
 ·exact⟨a,.inr (.inr h)⟩
 ·exact absurd (c.fu _ _ _ _ q) n.fu
end Go.Proofs.YtpmbddooibgnaaaGreatDoor
namespace Go.Proofs.YtpmbddooibgnaaaGreatDoor
open Go.RowKit Go.Shelf
section
variable {b:gW} {w w':World} {v t N R dn u P:Nat} {kv kv0:List Pr} {ch:Bool}
theorem qK.BS (h:qK b v N R dn u kv w):Keep (fun g=>¬b.F g) b.w w:=by
 obtain⟨_,_,_,_,_,_,_,_,_,_,_,h,_⟩:=h
 exact⟨h.os,h.tape,h.output,h.size,fun k _ a=>h.block k (Un.1 a)⟩
theorem qK.re {F:Nat->Prop}(h:qK b v N R dn u kv w)(c:∀g,F g->b.F g):qK ⟨F,w,b.D⟩ v N R dn u kv w:=by
 obtain⟨S,q,d,k,l,p,f,a,n,m,hA,h,j,o⟩:=h
 exact⟨S,q,d,k,l,p,f,a,n,m,hA,⟨rfl,rfl,rfl,aC _,fun _ _=>rfl,fun g i=>aA (h.fs g (c g i)) h.size,fun g i e=>h.lo g i (c g e)⟩,⟨fun e=>j.1 (c _ e),j.2⟩,o⟩
theorem qK.fs (h:qK b v N R dn u kv w){g:Nat}(a:b.F g):g<w.heap.size:=by
 obtain⟨_,_,_,_,_,_,_,_,_,_,_,h,_⟩:=h
 exact aA (h.fs g a) h.size
theorem jV.TS {M:Nat->Prop}(h:jV w)(a:Keep M w w')(b:¬M 3):jV w':=h.keep a b
end
theorem X0:¬(II=([]:List Pr)):=fun e=>absurd ((show II.isEmpty=false from by kernel_rfl).symm.trans (congrArg List.isEmpty e)) (by decide)
theorem V7.Tj {t:Nat}{w:World}(h:V7 t w)(u:FrameMode):
  CallsD Tryz.prog 56 #[.pointer (some ⟨t,0,none⟩)] u w fun e b w'=>b=u/\e= .returned (.tuple #[])/\w'=w:=by
 obtain⟨c,ch,d,h⟩:=h
 have f:w.cell? ⟨t,2,none⟩=some (.pointer none):=by simp[World.cell?,h,cZ]
 have a:=(aj.1 h).1
 clear h
 go_enter_d Tryz.func56,Tryz.ntmps56
 go_wp2
 go_end0
 exact⟨rfl,rfl⟩
def Yo (F:Nat->Prop):Prop:=F (gP.g 3)/\F (gP.g 4)/\F 3
theorem Yr {F:Nat->Prop}{D:Nat->Dk->Lg->Pg->Prop}{w:World}{v N R dn u:Nat}(vM:Keeps D N dn)(h:qK ⟨F,w,D⟩ v N R dn u [] w)(hu:12+u<=N/\13<=R/\dn<=100000000)(hv:Value)(B:Int)(i:ByteArray)(hh:lJ w hv hsP)(hT:kg w)(hm:jV w)(hG:Yo F)(hO:∀b,hv.ownBlock=some b->F b):
  Calls Tryz.prog 28 #[.pointer (some ⟨v,0,none⟩),RB hv,.int .i64 B,.string i] w fun e w'=>∃(bf:Value) (u':Nat),e= .returned (.tuple #[.agg #[.int .i64 201,bf,.string ⟨#[]⟩,.bool false,.bool false],.int .i64 0])/\qK ⟨F,w',D⟩ v N R (dn+1) u' II w'/\lJ w' bf uF/\(∀b,bf.ownBlock=some b->w.heap.size<=b)/\Keep (fun g=>¬F g) w w':=by
 have HKD:=ah vM;clear vM
 obtain⟨ho,hc,rfl,_,_,_,_⟩:=bq.form hh
 have z:=ah (au h (au hu (au hh (au hT (au hm (au hG hO))))))
 clear h hu hh hT hm hG hO
 go_enter_defers Tryz.func28,Tryz.ntmps28
 rw[show RB (.slice ho hsP.length hc)= .agg #[.string iQ,.string pE,.slice ho hsP.length hc,.string sX,.bool false] from rfl]
 go_upto_region 1 with (fail)
 have h3:=Tg w (.cells #[.string iQ,.string pE,.slice ho hsP.length hc,.string sX,.bool false] 73) (.cells #[.int .i64 0,.slice none 0 0,.string ⟨#[]⟩,.bool false,.bool false] 81) (.cells #[.int .i64 0] 26)
 dsimp only at h3
 generalize ((w.alloc (.cells #[.string iQ,.string pE,.slice ho hsP.length hc,.string sX,.bool false] 73)).alloc (.cells #[.int .i64 0,.slice none 0 0,.string ⟨#[]⟩,.bool false,.bool false] 81)).alloc (.cells #[.int .i64 0] 26)=w3 at h3 ⊢
 obtain⟨l5,rq,Y,vY,nY⟩:=h3
 obtain⟨qb,mD⟩:∃x:Nat,Hid (w.heap.size=x):=⟨_,ah rfl⟩
 rw[mD.out] at l5 rq Y
 rw[mD.out]
 have hV3:=z.out.1.next (Keep.of_below nY (fun _=>False)) (fun _ e=>e.elim)
 have HB:=ah (Vl (P:=12+u) hV3 (by omega) B)
 have n:=ah (au l5 (au rq (au Y (au vY (au nY mD.out)))))
 have le:=(aj.1 Y).1
 have e0:w3.cell? ⟨qb+1+1,0,none⟩=some (.int .i64 0):=by simp[World.cell?,Y]
 have ef:w3.frozen? ⟨qb+1+1,0,none⟩=false:=by simp[World.frozen?,Y]
 clear l5 rq Y vY nY hV3
 go_wp2_with (first
  |(go_at_call 55;go_must (refine HB.out.mono ?_;rintro e w4 ⟨F4,t,x,lb,rfl,av,Z,ql⟩;refine Stop.of ?_)))
 refine Stop.on ?_
 obtain⟨a,vT⟩:∃a:TP,Hid (a=⟨F4,D,v,t,x,N,R,dn,u,12+u,[]⟩):=⟨_,ah rfl⟩
 have y7:a.t=t/\a.x=x/\a.F=F4/\a.D=D/\a.v=v/\a.N=N/\a.R=R/\a.dn=dn/\a.u=u/\a.P=12+u/\a.kv0=[]:=by rw[vT.out];exact⟨rfl,rfl,rfl,rfl,rfl,rfl,rfl,rfl,rfl,rfl,rfl⟩
 rw[<-vT.out] at av
 obtain⟨hpt,sN,hpF,hpr⟩:=y7
 rw[<-hpt,<-sN]
 rw[<-hpF] at Z
 have qf:(∀g,F g->a.F g)/\a.F qb/\a.F (qb+1)/\a.F (qb+1+1):=⟨fun g e=>Z g (.inl e),Z _ (.inr ⟨by have:=n.out;show w.heap.size<=_;omega,by have:=n.out;show _<w3.heap.size;omega⟩),Z _ (.inr ⟨by have:=n.out;show w.heap.size<=_;omega,by have:=n.out;show _<w3.heap.size;omega⟩),Z _ (.inr ⟨by have:=n.out;show w.heap.size<=_;omega,by have:=n.out;show _<w3.heap.size;omega⟩)⟩
 have af:∀g,w.heap.size<=g->g<w3.heap.size->¬¬(gW.next ⟨F,w,D⟩ w w3).F g:=fun g h1 h2 h=>h (.inr ⟨h1,h2⟩)
 have og:=(ql.block qb (aj.1 n.out.1).1 (af _ (by have:=n.out;omega) (by have:=n.out;omega))).trans n.out.1
 have nD:=(ql.block (qb+1) (aj.1 n.out.2.1).1 (af _ (by have:=n.out;omega) (by have:=n.out;omega))).trans n.out.2.1
 have p9:=(ql.block (qb+1+1) (aj.1 n.out.2.2.1).1 (af _ (by have:=n.out;omega) (by have:=n.out;omega))).trans n.out.2.2.1
 have zG:¬a.x=qb+1+1:=fun e=>by
  have q:=av.obj
  rw[e,p9] at q
  injection q with q;injection q with q1 q2 q3;cases q1
 have f0:w4.frozen? ⟨qb+1+1,0,none⟩=false:=by simp[World.frozen?,p9]
 have c0:w4.cell? ⟨qb+1+1,0,none⟩=some (.int .i64 0):=by simp[World.cell?,p9]
 have l0:=(aj.1 p9).1
 have pV:Keep (· =qb+1+1) w4 (w4.setCell ⟨qb+1+1,0,none⟩ (.int .i64 0)):=(Keep.refl (· =qb+1+1) w4).setCell (p:=⟨qb+1+1,0,none⟩) (.inr rfl) _
 have o5:(w4.setCell ⟨qb+1+1,0,none⟩ (.int .i64 0)).heap[qb+1+1]? =some (.cells #[.int .i64 0] 26 (0,0)):=by simp[World.setCell,aK,p9]
 obtain⟨w5,hw5⟩:∃x:World,Hid (w4.setCell ⟨qb+1+1,0,none⟩ (.int .i64 0)=x):=⟨_,ah rfl⟩
 rw[hw5.out] at pV o5
 have h50:=(pV.block qb (aj.1 og).1 (by omega)).trans og
 have zA:=(pV.block (qb+1) (aj.1 nD).1 (by omega)).trans nD
 have xK:=av.keep pV (fun g e=>by rw[show g=qb+1+1 from e];exact qf.2.2.2) zG
 have hK5:Keep (fun g=>¬F g) w w5:=by
  have k3:=Keep.of_below n.out.2.2.2.2.1 (fun g=>¬F g\/w.heap.size<=g)
  have k4:=k3.trans ql (fun g _ e=>AZ fun hn=>e (.inl (AZ fun hf=>hn (.inl hf))))
  have k5:=k4.trans pV (fun g _ e=> .inr (by have e:g=qb+1+1:=e;have:=n.out;omega))
  exact(Keep.refl _ w).trans k5 (fun g hg e=>e.elim id (fun e=>absurd hg (aX.2 e)))
 have A:=ah (au h50 (au zA (au o5 (au xK (au hK5 (au qf hpr))))))
 clear e0 ef le ql Z qf af av og nD p9 zG pV h50 zA o5 xK hK5 hpt sN hpr hpF
 go_upto_region 2 with (fail)
 rw[hw5.out]
 obtain⟨q0,q1,q2,q3,q4,_,lq⟩:=je.cells (w:=w5) (qb:=qb) A.out.1
 have e0:w5.cell? ⟨qb+1+1,0,none⟩=some (.int .i64 0):=by simp[World.cell?,A.out.2.2.1]
 have le:=(aj.1 A.out.2.2.1).1
 have hm5:jV w5:=z.out.2.2.2.2.1.TS A.out.2.2.2.2.1 (fun e=>e z.out.2.2.2.2.2.1.2.2)
 have HK:=ah (Vk w5 hm5)
 clear c0 f0 l0 hm5
 have hmf:∀(fn:Fn) (first cap:Array Value) (w:World),(Instr.makeFunc fn first cap).run Tryz.prog w= .ok (.func fn first cap) w:=fun _ _ _ _=>rfl
 go_wp2_with (first
  |(go_at_call 59;go_must (refine HK.out.mono ?_;rintro e w6 ⟨rfl,ng⟩;refine Stop.of ?_)))
 refine Stop.on ?_
 have z8:=(ng.block qb lq).trans A.out.1
 have l6:=ah ng
 clear q0 q1 q2 q3 q4 lq e0 le ng
 obtain⟨q0,q1,q2,q3,q4,_,lq⟩:=je.cells (w:=w6) (qb:=qb) z8
 clear z8
 go_upto_region 8 with (go_at_call 58;go_must (refine(yo _ _).mono ?_;rintro e w7 ⟨rfl,hw⟩;subst w7))
 have nH:=aG w6 (.cells (uU (.slice ho hsP.length hc) B i (.slice none 0 0) a.x lb).toArray 148)
 have qy:iV (w6.alloc (.cells (uU (.slice ho hsP.length hc) B i (.slice none 0 0) a.x lb).toArray 148)) w6.heap.size (.slice ho hsP.length hc) B i (.slice none 0 0) a.x lb:=aH w6 _
 obtain⟨w7,hw7⟩:∃x:World,Hid (w6.alloc (.cells (uU (.slice ho hsP.length hc) B i (.slice none 0 0) a.x lb).toArray 148)=x):=⟨_,ah rfl⟩
 rw[hw7.out] at nH qy
 have j5:w6.alloc (.cells #[.string iQ,.string pE,.slice ho hsP.length hc,.string sX,.bool false,.int .i64 B,.string i,.slice none 0 0,.bool false,.pointer (some ⟨a.x,0,none⟩),.pointer (some ⟨lb,0,none⟩),.slice none 0 0,.slice none 0 0,.bool false] 148)=w7:=hw7.out
 rw[j5]
 obtain⟨jb,mr⟩:∃x:Nat,Hid (w6.heap.size=x):=⟨_,ah rfl⟩
 rw[mr.out] at qy
 rw[mr.out]
 have y:=l6.out.trans (nH.mono l6.out.size)
 have kD:=A.out.2.2.2.2.1.size
 have hjw:w5.heap.size<=jb/\jb<w7.heap.size:=⟨by rw[<-mr.out];exact l6.out.size,qy.lt⟩
 have y8:kg w5:=z.out.2.2.2.1.nY A.out.2.2.2.2.1 (fun e=>e z.out.2.2.2.2.2.1.1) (fun e=>e z.out.2.2.2.2.2.1.2.1)
 have oO:=y8.below y
 have vk:jV w7:=(z.out.2.2.2.2.1.TS A.out.2.2.2.2.1 (fun e=>e z.out.2.2.2.2.2.1.2.2)).below y
 have zy:lJ w5 (.slice ho hsP.length hc) hsP:=bq.keep z.out.2.2.1 fun b hb hl hs=>⟨A.out.2.2.2.2.1.block b hl (fun e=>e (z.out.2.2.2.2.2.2 b hb)),hs⟩
 have yE:lJ w7 (.slice ho hsP.length hc) hsP:=bq.below zy y
 have HTG:=ah (RZ jb _ B i _ a.x lb w7 qy oO vk)
 have hR7:=A.out.2.2.2.1.next y
 have V:=ah (au y (au hjw (au oO (au yE (au hR7 kD)))))
 clear nH j5 qy y kD hjw y8 oO vk zy yE hR7 q0 q1 q2 q3 q4 lq
 go_wp2_with (first
  |(go_at_call 60;go_must (refine HTG.out.mono ?_;rintro e w8 ⟨pv,rfl,lH,nk,qc⟩;refine Stop.of ?_)))
 refine Stop.on ?_
 obtain⟨g,gc,rfl,hg1,sF,hg3,vP⟩:=nk.DL (by decide)
 have rf:=V.out.2.2.2.2.1.KW qc (fun g e=>by rw[show g=jb from e];exact .inr V.out.2.1) (fun e=>by
  have hx:(a.add w5 w7).x=a.x:=rfl
  rw[hx] at e
  have:=A.out.2.2.2.1.lt
  have:=V.out.2.1
  have e:a.x=jb:=e
  omega)
 obtain⟨d,X⟩:∃d:TP,Hid (d=(a.add w5 w7).add w7 w8):=⟨_,ah rfl⟩
 have kC:d.x=a.x:=by rw[X.out];rfl
 have tY:d.t=a.t:=by rw[X.out];rfl
 have qC:d.v=v/\d.N=N/\d.R=R/\d.dn=dn/\d.u=u/\d.P=12+u/\d.kv0=[]/\d.D=D:=by
  obtain⟨a1,a2,a3,a4,a5,a6,a7,a8⟩:=A.out.2.2.2.2.2.2
  rw[X.out]
  exact⟨a2,a3,a4,a5,a6,a7,a8,a1⟩
 have s:(∀g,a.F g->d.F g)/\d.F jb/\d.F g:=by
  rw[X.out]
  exact⟨fun g e=> .inl (.inl e),.inl (.inr V.out.2.1),.inr ⟨hg3,vP⟩⟩
 rw[<-X.out] at rf
 have zk:kg w8:=V.out.2.2.1.nY qc (fun e=>by have:=aD w _ (z.out.2.2.2.1.1 0 (by decide));have e:gP.g 3=jb:=e;have:=V.out;dsimp only at*;omega) (fun e=>by have:=aD w _ (z.out.2.2.2.1.2 0 (by decide)).1;have e:gP.g 4=jb:=e;have:=V.out;dsimp only at*;omega)
 have r9:lJ w8 (.slice ho hsP.length hc) hsP:=bq.keep V.out.2.2.2.1 fun b hb hl hs=>⟨qc.block b hl (fun e=>by have:=z.out.1.fs (z.out.2.2.2.2.2.2 b hb);have e:b=jb:=e;have:=V.out.2.1;have:=V.out.2.2.2.2.2;omega),hs⟩
 have vo:d.rm [] 5:=by
  obtain⟨a1,a2,a3,a4,a5,a6,a7,a8⟩:=qC
  unfold TP.rm
  rw[a2,a5,a6]
  have:=z.out.2.1
  exact⟨by decide,by show 2+u+0+2*(0+5)<=12+u;omega,by omega,by decide⟩
 rw[<-kC] at lH
 have HRN:=ah (X5 rf jb _ B i g gc lb w7.heap.size lH nk ⟨hg1,sF⟩ r9 zk ⟨s.2.1,s.2.2,s.1 _ (A.out.2.2.2.2.2.1.1 _ z.out.2.2.2.2.2.1.1),s.1 _ (A.out.2.2.2.2.2.1.1 _ z.out.2.2.2.2.2.1.2.1)⟩ vo)
 have ai:∀b o,w5.heap[b]? =some o->w8.heap[b]? =some o/\b<w8.heap.size:=fun b o e=>by
  have l1:=(aj.1 e).1
  have e7:=(V.out.1.block b l1).trans e
  have l7:=(aj.1 e7).1
  have e8:=(qc.block b l7 (fun x=>by have x:b=jb:=x;have:=V.out.2.1;omega)).trans e7
  exact⟨e8,(aj.1 e8).1⟩
 have oo:Keep (fun g=>¬F g) w w8:=by
  have k7:=(A.out.2.2.2.2.1).trans (Keep.of_below V.out.1 (fun g=>¬F g)) (fun _ _ e=>e)
  exact k7.trans qc (fun g hg e=>absurd hg (by have e:g=jb:=e;have:=V.out;omega))
 have c:=ah (au (ai _ _ A.out.1) (au (ai _ _ A.out.2.1) (au (ai _ _ A.out.2.2.1) (au oo (au s (au qC (au tY A.out.2.2.2.2.2.1)))))))
 have hsz8:w.heap.size<=w8.heap.size:=oo.size
 clear lH nk qc hg1 sF hg3 vP rf kC qC s zk r9 vo ai oo X
 go_wp2_with (first
  |(go_at_call 61;go_must (refine HRN.out.mono ?_;rintro e w9 ⟨bf,rfl,⟨F9,zH,hF9,hO9⟩,nN,bg,qm⟩;refine Stop.of ?_)))
 refine Stop.on ?_
 obtain⟨r,m,rfl,_,_,_,_⟩:=bq.form nN
 have zf:=(qm.block qb c.out.1.2 (fun e=>e (c.out.2.2.2.2.1.1 _ c.out.2.2.2.2.2.2.2.2.1))).trans c.out.1.1
 have mo:=(qm.block (qb+1) c.out.2.1.2 (fun e=>e (c.out.2.2.2.2.1.1 _ c.out.2.2.2.2.2.2.2.2.2.1))).trans c.out.2.1.1
 have yL:=(qm.block (qb+1+1) c.out.2.2.1.2 (fun e=>e (c.out.2.2.2.2.1.1 _ c.out.2.2.2.2.2.2.2.2.2.2))).trans c.out.2.2.1.1
 have hr9:Row w9 (qb+1) 81 [.int .i64 0,.slice none 0 0,.string ⟨#[]⟩,.bool false,.bool false]:=mo
 have O:=ah (au zH (au hF9 (au hO9 (au nN (au bg (au qm (au zf (au mo yL))))))))
 clear zH hF9 hO9 nN bg qm zf mo yL
 go_wp2_with (first
  |((refine bS rfl ?_);intro K hK;(refine wp_store_row 81 (.tmp 8) (.tmp 51) rfl (qb+1) 0 81 _ [.int .i64 201,.slice r uF.length m,.string ⟨#[]⟩,.bool false,.bool false] rfl rfl hr9 rZ (aC 5) (by intro v hv;simp only[aW,bQ,fJ] at hv;rcases hv with rfl|rfl|rfl|rfl|rfl<;>rfl) ?_);intro C lg E;refine hK _ _ ?_;refine Stop.of ?_))
 refine Stop.on ?_
 have j4:¬d.x=qb+1:=fun e=>by
  have q:=O.out.1.obj
  have hx:({d with F:=F9}:TP).x=d.x:=rfl
  rw[hx,e,O.out.2.2.2.2.2.2.2.1] at q
  injection q with q;injection q with q1 q2 q3;cases q1
 have fo:RT {d with F:=F9} II C:=O.out.1.keep E (fun g e=>by rw[show g=qb+1 from e];exact O.out.2.1 _ (c.out.2.2.2.2.1.1 _ c.out.2.2.2.2.2.2.2.2.2.1)) j4
 have HCM:Hid (Calls Tryz.prog 62 #[.pointer (some ⟨a.t,0,none⟩)] C fun e w'=>e= .returned (.tuple #[.int .i64 ((dn+1:Nat):Int),.int .i64 0])/\V7 a.t w'/\∃u',qK ⟨F9,C,D⟩ v N R (dn+1) u' II w'):=by
  obtain⟨ch,ht⟩:=fo.ts
  obtain⟨a2,a3,a4,a5,a6,a7,a8,a1⟩:=c.out.2.2.2.2.2.1
  have sW:sJ ⟨F9,C,d.D⟩ d.v d.t d.N d.R d.dn d.u d.kv0 II ch d.P C:=ht
  rw[a1,a2,a3,a4,a5,a6,a7,a8,c.out.2.2.2.2.2.2.1] at sW
  refine ah ((sW.SN z.out.2.1.2.2 HKD.out).mono ?_)
  rintro e w' ⟨hD,(⟨_,q,_⟩|⟨_,q,_⟩|⟨_,rfl,q⟩)⟩
  ·exact absurd q X0
  ·rw[Ai] at q
   unfold KY at q
   have:=z.out.2.1
   omega
  ·exact⟨rfl,hD,q⟩
 have eZ:mF C (qb+1) (.slice r uF.length m) ⟨#[]⟩ false false:=lg
 have T:qb≠qb+1/\qb+1+1≠qb+1:=by omega
 have j6:=(E.block qb (aj.1 O.out.2.2.2.2.2.2.1).1 T.1).trans O.out.2.2.2.2.2.2.1
 have di:=(E.block (qb+1+1) (aj.1 O.out.2.2.2.2.2.2.2.2).1 T.2).trans O.out.2.2.2.2.2.2.2.2
 have G:=ah (au E (au eZ (au j6 di)))
 clear j4 fo lg E eZ j6 di hr9
 go_wp2_with (first
  |(go_at_call 62;go_must (refine HCM.out.mono ?_;rintro e qo ⟨rfl,lG,u',q8⟩;refine Stop.of ?_)))
 refine Stop.on ?_
 have I:Keep (fun g=>¬F9 g) C qo:=q8.BS
 have M:F9 qb/\F9 (qb+1)/\F9 (qb+1+1):=⟨O.out.2.1 _ (c.out.2.2.2.2.1.1 _ c.out.2.2.2.2.2.2.2.2.1),O.out.2.1 _ (c.out.2.2.2.2.1.1 _ c.out.2.2.2.2.2.2.2.2.2.1),O.out.2.1 _ (c.out.2.2.2.2.1.1 _ c.out.2.2.2.2.2.2.2.2.2.2)⟩
 have ko:=(I.block qb (aj.1 G.out.2.2.1).1 (fun e=>e M.1)).trans G.out.2.2.1
 have jv:=(I.block (qb+1+1) (aj.1 G.out.2.2.2).1 (fun e=>e M.2.2)).trans G.out.2.2.2
 have S:mF qo (qb+1) (.slice r uF.length m) ⟨#[]⟩ false false:=(I.block (qb+1) (aj.1 G.out.2.1).1 (fun e=>e M.2.1)).trans G.out.2.1
 have j3:Row qo (qb+1) 81 [.int .i64 201,.slice r uF.length m,.string ⟨#[]⟩,.bool false,.bool false]:=S
 obtain⟨c0,c1,c2,c3,c4,lo⟩:=S.cells
 have j:=ah (au lG (au q8 (au I (au ko (au jv (au S M))))))
 clear lG q8 I ko jv S M
 go_upto_region 13 with (first
  |(go_at_call 63;go_must (refine(Px _).mono ?_;rintro e l ⟨rfl,hw⟩;subst l)))
 go_wp2_with (first
  |((refine bS rfl ?_);intro K hK;(refine wp_store_row 81 (.tmp 8) (.tmp 61) rfl (qb+1) 0 81 _ [.int .i64 201,.slice r uF.length m,.string ⟨#[]⟩,.bool false,.bool false] rfl rfl j3 rZ (aC 5) (by intro v hv;simp only[aW,bQ,fJ] at hv;rcases hv with rfl|rfl|rfl|rfl|rfl<;>rfl) ?_);intro l iO W;refine hK _ _ ?_;refine Stop.of ?_))
 refine Stop.on ?_
 have H:=(W.block (qb+1+1) (aj.1 j.out.2.2.2.2.1).1 T.2).trans j.out.2.2.2.2.1
 have qO:=(W.block qb (aj.1 j.out.2.2.2.1).1 T.1).trans j.out.2.2.2.1
 have e0:l.cell? ⟨qb+1+1,0,none⟩=some (.int .i64 0):=by simp[World.cell?,H]
 have ef:l.frozen? ⟨qb+1+1,0,none⟩=false:=by simp[World.frozen?,H]
 have le:=(aj.1 H).1
 have J:Keep (· =qb+1+1) l (l.setCell ⟨qb+1+1,0,none⟩ (.int .i64 0)):=(Keep.refl (· =qb+1+1) l).setCell (p:=⟨qb+1+1,0,none⟩) (.inr rfl) _
 have q9:(l.setCell ⟨qb+1+1,0,none⟩ (.int .i64 0)).heap[qb+1+1]? =some (.cells #[.int .i64 0] 26 (0,0)):=by simp[World.setCell,aK,H]
 obtain⟨yB,eH⟩:∃x:World,Hid (l.setCell ⟨qb+1+1,0,none⟩ (.int .i64 0)=x):=⟨_,ah rfl⟩
 rw[eH.out] at J q9
 have d9:=(J.block qb (aj.1 qO).1 (by omega)).trans qO
 have kz:mF yB (qb+1) (.slice r uF.length m) ⟨#[]⟩ false false:=(J.block (qb+1) (aj.1 (show l.heap[qb+1]? =_ from iO)).1 (by omega)).trans iO
 have Q:=ah (au W (au J (au q9 (au d9 kz))))
 clear W J H qO q9 d9 kz c0 c1 c2 c3 c4 lo j3
 go_wp2_with fail
 rw[eH.out]
 refine fe (f:=57) (args:=#[.pointer (some ⟨qb+1,0,none⟩),.pointer (some ⟨qb+1+1,0,none⟩),.pointer (some ⟨qb,0,none⟩)]) (by simp) (by simp[go_sem]) ?_
 refine(X7 (qb+1) (qb+1+1) qb _ _ yB Q.out.2.2.2.2 Q.out.2.2.1 Q.out.2.2.2.1 (by omega)).mono ?_
 rintro e u' ol ⟨rfl,rfl,zT,dM⟩
 have k:Keep (fun g=>g=qb+1\/g=qb+1+1) qo ol:=((Q.out.1.mono (fun _ _ e=> .inl e)).trans Q.out.2.1 (fun _ _ e=> .inr e)).trans dM (fun _ _ e=> .inl e)
 have y5:V7 a.t ol:=by
  obtain⟨mp,ch,er,ht⟩:=j.out.1
  refine⟨mp,ch,er,(k.block a.t (aj.1 ht).1 (fun e=> ?_)).trans ht⟩
  rcases e with e|e
  ·have q:=j.out.2.2.2.2.2.1
   unfold mF at q
   rw[<-e,ht] at q
   injection q with q;injection q with q1 q2 q3;cases q2
  ·have q:=j.out.2.2.2.2.1
   rw[<-e,ht] at q
   injection q with q;injection q with q1 q2 q3;cases q2
 show Leaves _ _ _ _ _ _ ol
 refine fe (f:=56) (args:=#[.pointer (some ⟨a.t,0,none⟩)]) (by simp[settle]) (by simp[go_sem]) ?_
 refine(y5.Tj _).mono ?_
 rintro e u' w15 ⟨rfl,rfl,rfl⟩
 have vz:=(dM.block (qb+1+1) (aj.1 Q.out.2.2.1).1 (by omega)).trans Q.out.2.2.1
 have e0:w15.cell? ⟨qb+1+1,0,none⟩=some (.int .i64 0):=by simp[World.cell?,vz]
 obtain⟨d0,d1,d2,d3,d4,_⟩:=zT.cells
 refine⟨.tuple #[.agg #[.int .i64 201,.slice r uF.length m,.string ⟨#[]⟩,.bool false,.bool false],.int .i64 0],by simp[results,Tryz.results28,go_sem,d0,d1,d2,d3,d4,e0],?_⟩
 have l9:∀b,(Value.slice r uF.length m).ownBlock=some b->w8.heap.size<=b:=O.out.2.2.2.2.1
 have hF:∀g,F g->F9 g:=fun g e=>O.out.2.1 _ (c.out.2.2.2.2.1.1 _ (c.out.2.2.2.2.2.2.2.1 _ e))
 have hq8:=c.out.2.2.1.2
 have hwq:w.heap.size=qb:=n.out.2.2.2.2.2
 refine⟨_,u',rfl,?_,?_,?_,?_⟩
 ·exact(j.out.2.1.next k (fun g e=>e.elim (fun e=>by rw[e];exact j.out.2.2.2.2.2.2.2.1) (fun e=>by rw[e];exact j.out.2.2.2.2.2.2.2.2))).re (fun g e=> .inl (hF g e))
 ·have i10:lJ C (.slice r uF.length m) uF:=bq.keep O.out.2.2.2.1 fun b hb hl hs=>⟨G.out.1.block b hl (fun e=>by have:=l9 b hb;have e:b=qb+1:=e;omega),hs⟩
  have i11:lJ qo (.slice r uF.length m) uF:=bq.keep i10 fun b hb hl hs=>⟨j.out.2.2.1.block b hl (fun e=>e (O.out.2.2.1 b hb)),hs⟩
  exact bq.keep i11 fun b hb hl hs=>⟨k.block b hl (fun e=>by have:=l9 b hb;have e:b=qb+1\/b=qb+1+1:=e;omega),hs⟩
 ·intro b hb
  have:=l9 b hb
  have:=c.out.2.2.2.1.size
  omega
 ·have k9:Keep (fun g=>¬F g\/w.heap.size<=g) w w9:=(c.out.2.2.2.1.mono (fun _ _ e=> .inl e)).trans O.out.2.2.2.2.2.1 (fun g _ e=> .inl fun x=>e (c.out.2.2.2.2.1.1 _ (c.out.2.2.2.2.2.2.2.1 _ x)))
  have k10:=k9.trans G.out.1 (fun g _ e=> .inr (by have e:g=qb+1:=e;omega))
  have k11:=k10.trans j.out.2.2.1 (fun g _ e=> .inl fun x=>e (hF g x))
  have k14:=k11.trans k (fun g _ e=> .inr (by have e:g=qb+1\/g=qb+1+1:=e;omega))
  exact(Keep.refl _ w).trans k14 (fun g hg e=>e.elim id (fun e=>absurd hg (aX.2 e)))
theorem xA.cells {w:World}{a:Nat}{b:Value}(h:xA w a b):w.cell? ⟨a,0,none⟩=some (.string iQ)/\w.cell? ⟨a,1,none⟩=some (.string pE)/\w.cell? ⟨a,2,none⟩=some b/\w.cell? ⟨a,3,none⟩=some (.string sX)/\w.cell? ⟨a,4,none⟩=some (.bool false)/\w.cell? ⟨a,5,none⟩=some (.int .i64 0)/\a<w.heap.size:=by
 unfold xA at h
 exact⟨by simp[World.cell?,h],by simp[World.cell?,h],by simp[World.cell?,h],by simp[World.cell?,h],by simp[World.cell?,h],by simp[World.cell?,h],(aj.1 h).1⟩
theorem xA.keep {M:Nat->Prop}{w w':World}{a:Nat}{b:Value}(h:xA w a b)(d:Keep M w w')(c:¬M a):xA w' a b:=(d.block a (aj.1 h).1 c).trans h
theorem ji.Oq {w:World}{b:Nat}{v:Value}{L:List jW}{d s a:Value}(h:ji w b v L d s a):w.cell? ⟨b,0,none⟩=some v:=Row.cell h 0
theorem UO {F:Nat->Prop}{D:Nat->Dk->Lg->Pg->Prop}{w:World}{v N R dn u:Nat}(l5:Keeps D N dn)(h:qK ⟨F,w,D⟩ v N R dn u [] w)(hu:12+u<=N/\13<=R/\dn<=100000000)(j tb:Nat)(m hv:Value)(L:List jW)(l:ByteArray)(oo:Int)(bg:ByteArray)
  (hS:ji w j (.pointer (some ⟨v,0,none⟩)) L (.int .u32 0) (.int .i32 0) (.slice none 0 0)) (hL:L.length=16) (hl:L[0]? =some ⟨m,.pointer (some ⟨tb,0,none⟩),⟨#[]⟩,0,l⟩) (ht:xA w tb hv) (hh:lJ w hv hsP)
  (hT:kg w) (hm:jV w) (hw:mZ w) (hG:Yo F) (sF:F 2) (hO:∀b,hv.ownBlock=some b->F b) (hF:F j) (vz:j≠2/\j≠gP.g 3/\j≠gP.g 4/\j≠3/\∀b,hv.ownBlock=some b->b≠j):
  Calls Tryz.prog 7 #[.pointer (some ⟨j,0,none⟩),.int .i64 0,.int .i64 oo,.string bg] w fun e w'=>∃y u',e= .returned (.tuple #[.int .i64 201,.int .i64 0])/\qK ⟨fun g=>F g\/g=y,w',D⟩ v N R (dn+1) u' II w'/\ji w' j (.pointer (some ⟨v,0,none⟩)) (L.set 0 ⟨m,.pointer none,kU,1,l⟩) (.int .u32 1) (.int .i32 0) (.slice (some ⟨y,0,none⟩) 600 600)/\IA w' y 1/\w.heap.size<=y/\Keep (fun g=>¬F g\/g=j) w w':=by
 have HKD:=ah l5;clear l5
 obtain⟨ho,hc,rfl,_,_,_,_⟩:=bq.form hh
 have HR:=ah (MB j tb _ _ _ _ L m ⟨#[]⟩ l 0 w hS hl)
 obtain⟨_,c2,_,_,_,cf,ls⟩:=hS.zero hl
 obtain⟨t0,t1,t2,t3,t4,t5,lt⟩:=ht.cells
 have zG:=(bO.1 hl).1
 have qf:=aG w (.cells #[.string iQ,.string pE,.slice ho hsP.length hc,.string sX,.bool false,.int .i64 0] 75)
 have O:xA (w.alloc (.cells #[.string iQ,.string pE,.slice ho hsP.length hc,.string sX,.bool false,.int .i64 0] 75)) w.heap.size (.slice ho hsP.length hc):=aH w _
 obtain⟨w1,vo⟩:∃x:World,Hid (w.alloc (.cells #[.string iQ,.string pE,.slice ho hsP.length hc,.string sX,.bool false,.int .i64 0] 75)=x):=⟨_,ah rfl⟩
 rw[vo.out] at qf O
 obtain⟨nb,j3⟩:∃x:Nat,Hid (w.heap.size=x):=⟨_,ah rfl⟩
 rw[j3.out] at O
 have lq:=hS.keep (Keep.of_below qf (fun _=>False)) id
 have n:=ah (au h (au hu (au hL (au hh (au hT (au hm (au hw (au hG (au sF (au hO (au hF (au vz (au zG j3.out)))))))))))))
 have H1:=ah (au qf (au O lq))
 clear h hu hL hh hT hm hw hG sF hO hF vz hS ht qf O lq
 go_enter Tryz.func7,Tryz.ntmps7
 go_upto_region 7 with (first
  |(go_at_call 27;go_must (refine(yN j w ls).mono ?_;rintro e X ⟨rfl,hw⟩;subst X))
  |(go_at_call 12;go_must (refine HR.out.mono ?_;rintro e X ⟨rfl,hw⟩;subst X)))
 rw[vo.out,j3.out]
 obtain⟨_,d1,_,_,_,df,dl⟩:=H1.out.2.2.zero hl
 have z8:=df 2
 have J:=H1.out.2.2.set0 hl 1 (by decide) (.pointer none) (l':=⟨m,.pointer none,⟨#[]⟩,0,l⟩) rfl
 obtain⟨X,l9⟩:∃x:World,Hid (w1.setCell ⟨j,1+1,none⟩ (.pointer none)=x):=⟨_,ah rfl⟩
 rw[l9.out] at J
 have nk:w1.setCell ⟨j,2,none⟩ (.pointer none)=X:=l9.out
 have Z:nb≠j/\w.heap.size=nb:=by have:=n.out.2.2.2.2.2.2.2.2.2.2.2.2.2;omega
 have S:xA X nb (.slice ho hsP.length hc):=H1.out.2.1.keep J.2 Z.1
 have kD:w1.heap.size<=X.heap.size:=J.2.size
 have I:=aG X (.cells #[.int .i64 0,.slice none 0 0,.string ⟨#[]⟩,.bool false,.bool true] 81)
 have z:=aH X (.cells #[.int .i64 0,.slice none 0 0,.string ⟨#[]⟩,.bool false,.bool true] 81)
 obtain⟨q,ol⟩:∃x:World,Hid (X.alloc (.cells #[.int .i64 0,.slice none 0 0,.string ⟨#[]⟩,.bool false,.bool true] 81)=x):=⟨_,ah rfl⟩
 rw[ol.out] at I z
 obtain⟨k,eZ⟩:∃x:Nat,Hid (X.heap.size=x):=⟨_,ah rfl⟩
 rw[eZ.out] at z
 have lg:=J.1.keep (Keep.of_below I (fun _=>False)) id
 have qO:xA q nb (.slice ho hsP.length hc):=S.keep (Keep.of_below I (fun _=>False)) id
 have tY:Keep (· =j) w q:=((Keep.of_below H1.out.1 (· =j)).trans J.2 (fun _ _ e=>e)).trans (Keep.of_below I (· =j)) (fun _ _ e=>e)
 obtain⟨zH,y8,zA,y7,vY,yE,yL⟩:=S.cells
 have H3:=ah (au lg (au qO (au z (au tY (au Z (au kD (au I eZ.out)))))))
 clear J z lg qO tY Z kD I c2 cf ls t0 t1 t2 t3 t4 t5 lt df
 go_upto_region 8 with (fail)
 clear d1 dl z8 nk
 go_upto_region 9 with (fail)
 rw[ol.out,eZ.out]
 obtain⟨t0,t1,t2,t3,t4,t5,lt⟩:=H3.out.2.1.cells
 go_upto_region 10 with (fail)
 have s:Keep (· =j) w q.drew:=H3.out.2.2.2.1.trans (Keep.of_below ((aJ q.heap.size q).drew) (· =j)) (fun _ _ e=>e)
 have rq:=n.out.1.next s (fun g e=>by rw[show g=j from e];exact n.out.2.2.2.2.2.2.2.2.2.2.1)
 obtain⟨O,S,z,nD,r9⟩:=n.out.2.2.2.2.2.2.2.2.2.2.2.1
 have lH:kg q.drew:=n.out.2.2.2.2.1.nY s (fun e=>S e.symm) (fun e=>z e.symm)
 have j6:jV q.drew:=n.out.2.2.2.2.2.1.keep s (fun e=>nD e.symm)
 have vM:lJ q.drew (.slice ho hsP.length hc) hsP:=bq.keep n.out.2.2.2.1 fun b hb hl hs=>⟨s.block b hl (fun e=>r9 b hb e),hs⟩
 have zy:=ah (Yr HKD.out rq n.out.2.1 _ oo bg vM lH j6 ⟨.inl n.out.2.2.2.2.2.2.2.1.1,.inl n.out.2.2.2.2.2.2.2.1.2.1,.inl n.out.2.2.2.2.2.2.2.1.2.2⟩ (fun b hb=> .inl (n.out.2.2.2.2.2.2.2.2.2.1 b hb)))
 have ng:k<q.heap.size:=(aj.1 H3.out.2.2.1).1
 have kz:=H3.out.1.keep (Keep.of_below ((aJ q.heap.size q).drew) (fun _=>False)) id
 have qC:=H3.out.2.1.keep (Keep.of_below ((aJ q.heap.size q).drew) (fun _=>False)) id
 have T:=ah (au s (au kz (au qC ng)))
 clear rq lH j6 vM O S z nD r9 t0 t1 t2 t3 t4 t5 lt zH y8 zA y7 vY yE yL
 refine aP (fun W=>ji W j (.pointer (some ⟨v,0,none⟩)) (L.set 0 ⟨m,.pointer none,⟨#[]⟩,0,l⟩) (.int .u32 0) (.int .i32 0) (.slice none 0 0)/\xA W nb (.slice ho hsP.length hc)/\k<W.heap.size) (fun i=> !([8,12].contains i)) [0,1,2,3,4,5,6,7,8,9,10,11,12,13] rfl (by kernel_rfl) ⟨T.out.2.1,T.out.2.2.1,T.out.2.2.2⟩ ?_
 repeat ((refine bE (v:= ?_) rfl rfl (fun _ _ _ h=>h) rfl (fun W f=> ?_) ?_);rotate_left;(focus ((try dsimp only at f);have q0:W.cell? ⟨j,0,none⟩=some (.pointer (some ⟨v,0,none⟩)):=f.1.Oq;have q1:=f.1.lt;have q2:=f.2.1.cells.1;have q3:=f.2.1.cells.2.1;have q4:=f.2.1.cells.2.2.1;have q5:=f.2.1.cells.2.2.2.1;have q6:=f.2.1.cells.2.2.2.2.1;have q7:=f.2.1.cells.2.2.2.2.2.2;have q8:=f.2.2;(go_simp;first|done|with_reducible rfl)));(try simp only[Act.put,ak,ay,ax]))
 refine bT rfl rfl rfl ?_;intro K hK;go_simp
 refine zy.out.mono ?_;rintro e w4 ⟨hv',u',rfl,l6,j4,qy,A⟩
 obtain⟨E,B,rfl,_,_,_,_⟩:=bq.form j4
 have hzw:w.heap.size<=w1.heap.size:=H1.out.1.size
 have kC:nb<w1.heap.size:=(aj.1 H1.out.2.1).1
 have qm:∀g,w.heap.size<=g->g<q.heap.size->(gW.next ⟨F,w,D⟩ w q.drew).F g:=fun g h1 h2=> .inr ⟨h1,h2⟩
 have C:=H3.out
 have bf:nb<q.heap.size:=T.out.2.2.1.cells.2.2.2.2.2.2
 have H:w.heap.size<=nb/\w.heap.size<=k:=by have a:=C.2.2.2.2.1.2;have b:=C.2.2.2.2.2.1;have c:=C.2.2.2.2.2.2.2;omega
 have iO:=T.out.2.1.keep A (fun e=>e (.inl n.out.2.2.2.2.2.2.2.2.2.2.1))
 have di:=T.out.2.2.1.keep A (fun e=>e (qm nb H.1 bf))
 have ko:Row w4 k 81 [.int .i64 0,.slice none 0 0,.string ⟨#[]⟩,.bool false,.bool true]:=(A.block k T.out.2.2.2 (fun e=>e (qm k H.2 T.out.2.2.2))).trans H3.out.2.2.1
 have p9:k<w4.heap.size:=aA T.out.2.2.2 A.size
 refine hK.out _ _ ⟨iO,di,p9⟩ ?_
 (try simp only[Act.put,ak,ay,ax])
 repeat ((refine bE (v:= ?_) rfl rfl (fun _ _ _ h=>h) rfl (fun W f=> ?_) ?_);rotate_left;(focus ((try dsimp only at f);have q0:W.cell? ⟨j,0,none⟩=some (.pointer (some ⟨v,0,none⟩)):=f.1.Oq;have q1:=f.1.lt;have q2:=f.2.1.cells.1;have q3:=f.2.1.cells.2.1;have q4:=f.2.1.cells.2.2.1;have q5:=f.2.1.cells.2.2.2.1;have q6:=f.2.1.cells.2.2.2.2.1;have q7:=f.2.1.cells.2.2.2.2.2.2;have q8:=f.2.2;(go_simp;first|done|with_reducible rfl)));(try simp only[Act.put,ak,ay,ax]))
 refine bT rfl rfl rfl ?_;intro K hK
 refine wp_store_row 81 (.tmp 13) (.tmp 53) rfl k 0 81 _ [.int .i64 201,.slice E uF.length B,.string ⟨#[]⟩,.bool false,.bool false] rfl rfl ko rZ (aC 5) (by intro v hv;simp only[aW,bQ,fJ] at hv;rcases hv with rfl|rfl|rfl|rfl|rfl<;>rfl) ?_
 intro w5 lG t
 have G:j≠k/\nb≠k:=by have a:=n.out.1.fs n.out.2.2.2.2.2.2.2.2.2.2.1;have b:=C.2.2.2.2.1.2;have c:=C.2.2.2.2.2.1;have d:=C.2.2.2.2.2.2.2;omega
 have eH:=iO.keep t G.1
 have nH:=di.keep t G.2
 refine hK.out _ _ ⟨eH,nH,aA p9 t.size⟩ ?_
 (try simp only[Act.put,ak,ay,ax])
 repeat ((refine bE (v:= ?_) rfl rfl (fun _ _ _ h=>h) rfl (fun W f=> ?_) ?_);rotate_left;(focus ((try dsimp only at f);have q0:W.cell? ⟨j,0,none⟩=some (.pointer (some ⟨v,0,none⟩)):=f.1.Oq;have q1:=f.1.lt;have q2:=f.2.1.cells.1;have q3:=f.2.1.cells.2.1;have q4:=f.2.1.cells.2.2.1;have q5:=f.2.1.cells.2.2.2.1;have q6:=f.2.1.cells.2.2.2.2.1;have q7:=f.2.1.cells.2.2.2.2.2.2;have q8:=f.2.2;(go_simp;first|done|with_reducible rfl)));(try simp only[Act.put,ak,ay,ax]))
 refine bN ?_
 have j5:mF w5 k (.slice E uF.length B) ⟨#[]⟩ false false:=lG
 obtain⟨c0,c1,c2,c3,c4,lr⟩:=j5.cells
 have mr:∀b,(Value.slice E uF.length B).ownBlock=some b->q.drew.heap.size<=b:=qy
 have nN:lJ w5 (.slice E uF.length B) uF:=bq.keep j4 fun b hb hl hs=>⟨t.block b hl (fun e=>by have h1:=mr b hb;have h2:=T.out.2.2.2;have h3:q.drew.heap.size=q.heap.size:=rfl;have e:b=k:=e;omega),hs⟩
 have mD:mZ w5:=by
  have p0:=n.out.2.2.2.2.2.2.1
  have p1:=p0.keep s (fun e=>n.out.2.2.2.2.2.2.2.2.2.2.2.1.1 e.symm)
  have p2:=p1.keep A (fun e=>e (.inl n.out.2.2.2.2.2.2.2.2.1))
  exact p2.keep t (fun e=>by have:=p0.lt;have e:2=k:=e;omega)
 have HW:=ah (U0 _ w5 nN mD)
 have l7:=l6.next t (fun g e=>by rw[show g=k from e];exact qm k H.2 T.out.2.2.2)
 have vk:Keep (fun g=>¬F g\/g=j) w w5:=by
  have k1:=(s.mono (fun g _ e=> .inr (.inr e):∀g,g<w.heap.size->g=j->(w.heap.size<=g\/(¬F g\/g=j)))).trans A (fun g _ e=> .inr (.inl fun x=>e (.inl x)))
  have k2:=k1.trans t (fun g _ e=> .inl (by have e:g=k:=e;omega))
  exact(Keep.refl _ w).trans k2 (fun g hg e=>e.elim (fun e=>absurd hg (aX.2 e)) id)
 have H5:=ah (au l7 (au vk (au eH (au j5 G.1))))
 clear l6 j4 qy A nN mD iO di ko p9 lG t eH nH l7 vk j5 mr s ng kz qC qm C bf H G hzw kC
 go_wp2_with (first
  |(go_at_call 29;go_must (refine HW.out.mono ?_;rintro e w6 ⟨rfl,fo⟩;refine Stop.of ?_)))
 refine Stop.on ?_
 have dM:=H5.out.2.2.1.keep (Keep.of_below fo (fun _=>False)) id
 have jv:(L.set 0 (⟨m,.pointer none,⟨#[]⟩,0,l⟩:jW))[0]? =some ⟨m,.pointer none,⟨#[]⟩,0,l⟩:=um n.out.2.2.2.2.2.2.2.2.2.2.2.2.1
 obtain⟨_,_,s3,s4,_,sf,sl⟩:=dM.zero jv
 have y5:=sf 3
 have ql:=dM.set0 jv 2 (by decide) (.string kU) (l':=⟨m,.pointer none,kU,0,l⟩) rfl
 rw[Uj] at ql
 obtain⟨w7,vP⟩:∃x:World,Hid (w6.setCell ⟨j,1+2,none⟩ (.string kU)=x):=⟨_,ah rfl⟩
 rw[vP.out] at ql
 have rf:w6.setCell ⟨j,3,none⟩ (.string kU)=w7:=vP.out
 have nY:(L.set 0 (⟨m,.pointer none,kU,0,l⟩:jW))[0]? =some ⟨m,.pointer none,kU,0,l⟩:=um n.out.2.2.2.2.2.2.2.2.2.2.2.2.1
 have a1:∀W:World,(Op.stringOp .add (⟨#[]⟩:ByteArray) kU).run Tryz.prog W= .ok (.string kU) W:=fun _=>by kernel_rfl
 have H7:=ah (au fo ql)
 clear fo dM ql jv sf s4 c0 c1 c2 c3 c4 lr
 go_upto_region 18 with (fail)
 obtain⟨_,_,_,s4,_,sf,sl⟩:=H7.out.2.1.zero nY
 have xK:=sf 4
 have qc:=H7.out.2.1.set0 nY 3 (by decide) (.int .i64 1) (l':=⟨m,.pointer none,kU,1,l⟩) rfl
 rw[Uj] at qc
 obtain⟨w8,sN⟩:∃x:World,Hid (w7.setCell ⟨j,1+3,none⟩ (.int .i64 1)=x):=⟨_,ah rfl⟩
 rw[sN.out] at qc
 have vT:w7.setCell ⟨j,4,none⟩ (.int .i64 1)=w8:=sN.out
 have P:Keep (· =j) w5 w8:=((Keep.of_below H7.out.1 (· =j)).trans H7.out.2.2 (fun _ _ e=>e)).trans qc.2 (fun _ _ e=>e)
 have jb:mF w8 k (.slice E uF.length B) ⟨#[]⟩ false false:=(P.block k (aj.1 H5.out.2.2.2.1).1 (fun e=>H5.out.2.2.2.2 (qh e))).trans H5.out.2.2.2.1
 have r:=ah (au P (au qc.1 jb))
 have M:=ah jb.cells.2.2.2.2.2
 clear P jb qc sf s3 y5
 go_upto_region 19 with (fail)
 clear rf vT s4 xK a1
 have og:=FK j (.pointer (some ⟨v,0,none⟩)) _ w8.drew (r.out.2.1.keep (Keep.of_below ((aJ w8.heap.size w8).drew) (fun _=>False)) id) (by rw[rU];exact n.out.2.2.1)
 have yB:w8.drew.heap.size=w8.heap.size:=rfl
 rw[yB] at og
 refine aP (fun W=>W.cell? ⟨k,0,none⟩=some (.int .i64 201)/\w8.heap.size<=W.heap.size) (fun i=> !([1,5].contains i)) [0,2,3,1,4,5] rfl (by kernel_rfl) ⟨r.out.2.2.cells.1,aC _⟩ ?_
 repeat ((refine bE (v:= ?_) rfl rfl (fun _ _ _ h=>h) rfl (fun W f=> ?_) ?_);rotate_left;(focus ((try dsimp only at f);have q0:=f.1;have q1:=f.2;have q2:=M.out;have q3:=aA M.out f.2;(go_simp;first|done|with_reducible rfl)));(try simp only[Act.put,ak,ay,ax]))
 refine bT rfl rfl rfl ?_;intro K hK;go_simp
 refine og.mono ?_;rintro e w9 ⟨y,rfl,mo,zf,oO,pV⟩
 have qo:mF w9 k (.slice E uF.length B) ⟨#[]⟩ false false:=(pV.block k M.out (fun e=>H5.out.2.2.2.2 (qh e))).trans r.out.2.2
 refine hK.out _ _ ⟨qo.cells.1,pV.size⟩ ?_
 (try simp only[Act.put,ak,ay,ax])
 repeat ((refine bE (v:= ?_) rfl rfl (fun _ _ _ h=>h) rfl (fun W f=> ?_) ?_);rotate_left;(focus ((try dsimp only at f);have q0:=f.1;have q1:=f.2;have q2:=M.out;have q3:=aA M.out f.2;(go_simp;first|done|with_reducible rfl)));(try simp only[Act.put,ak,ay,ax]))
 obtain⟨cur,zk,zT,qb⟩:=zf
 have sW:=add_one y 201 0 1 w9 ((Row.cell qb 201).trans zT) (Row.frozen qb _) (ah (by decide))
 refine bT rfl rfl rfl ?_;intro K hK;go_simp
 refine sW.mono ?_;rintro e d9 ⟨rfl,Q⟩
 have o:=Row.setCell qb 201 (.int .i64 1)
 rw[<-Q] at o
 have V:Keep (· =y) w9 d9:=by rw[Q];exact(Keep.refl (· =y) w9).setCell (p:=⟨y,201,none⟩) (.inr rfl) _
 have af:IA d9 y 1:=⟨_,by rw[rU];exact zk,um (by omega),o⟩
 have q9:y≠j/\y≠k:=by have:=M.out;have:=r.out.2.1.lt;omega
 have Y:mF d9 k (.slice E uF.length B) ⟨#[]⟩ false false:=(V.block k (aj.1 qo).1 (fun e=>q9.2 (qh e))).trans qo
 have ai:=mo.keep V (fun e=>q9.1 (qh e))
 refine hK.out _ _ ⟨Y.cells.1,aI pV.size V.size⟩ ?_
 refine bN ?_
 obtain⟨c0,_,_,_,_,lr⟩:=Y.cells
 have av:Keep (· =j) w5 w9:=(r.out.1.trans (Keep.of_below ((aJ w8.heap.size w8).drew) (· =j)) (fun _ _ e=>e)).trans pV (fun _ _ e=>e)
 have HZ:=ah (au av (au V (au ai (au af oO))))
 have o5:y<w9.heap.size:=Row.lt qb
 clear av V ai af oO mo pV qo Y qb o Q
 go_wp2_with fail
 go_ret2
 refine⟨rfl,y,⟨u',?_⟩,HZ.out.2.2.1,HZ.out.2.2.2.1,?_,?_⟩
 ·have n1:=H5.out.1.next HZ.out.1 (fun g e=>by rw[show g=j from e];exact .inl (.inl n.out.2.2.2.2.2.2.2.2.2.2.1))
  have n2:=n1.next HZ.out.2.1 (fun g e=>by
   rw[show g=y from e]
   exact .inr ⟨by have:=HZ.out.2.2.2.2;have:=r.out.1.size;omega,o5⟩)
  exact n2.re (fun g e=>e.elim (fun e=> .inl (.inl (.inl (.inl e)))) (fun e=>by rw[e];exact .inl (.inr ⟨by have:=HZ.out.2.2.2.2;have:=r.out.1.size;omega,o5⟩)))
 ·have:=HZ.out.2.2.2.2;have:=r.out.1.size;have:=H5.out.2.1.size;omega
 ·have k1:=H5.out.2.1.trans HZ.out.1 (fun g _ e=> .inr e)
  exact k1.trans HZ.out.2.1 (fun g hg e=>absurd hg (by have e:g=y:=e;have:=HZ.out.2.2.2.2;have:=r.out.1.size;have:=H5.out.2.1.size;omega))
def uw:ByteArray:=⟨#[80,85,84,32,47,97,32,72,84,84,80,47,49,46,49,13,10,72,111,115,116,58,32,104,13,10,67,111,110,116,101,110,116,45,76,101,110,103,116,104,58,32,49,13,10,13,10,120]⟩
theorem WO:QJ uw where
 l1:=⟨_,_,_,rfl,rfl,rfl,by kernel_rfl,by kernel_rfl,by kernel_rfl,by decide,bF (by kernel_rfl),bF (by kernel_rfl),bF (by kernel_rfl),by kernel_rfl⟩
 h1:=⟨_,_,_,rfl,rfl,rfl,by kernel_rfl,by kernel_rfl,by kernel_rfl,by decide,bF (by kernel_rfl),bF (by kernel_rfl),bF (by kernel_rfl),by kernel_rfl⟩
 h2:=⟨_,_,_,rfl,rfl,rfl,by kernel_rfl,by kernel_rfl,by kernel_rfl,by decide,bF (by kernel_rfl),bF (by kernel_rfl),bF (by kernel_rfl),by kernel_rfl⟩
 h3:=⟨_,_,_,rfl,rfl,rfl,by kernel_rfl,by kernel_rfl,by kernel_rfl,by decide,bF (by kernel_rfl),bF (by kernel_rfl),bF (by kernel_rfl),by kernel_rfl⟩
 b:=by kernel_rfl
 z:=⟨bF (by kernel_rfl),bF (by kernel_rfl)⟩
theorem O4:uw.extract 48 uw.size=⟨#[]⟩:=by kernel_rfl
theorem DJ:∀L:List jW,(∀l∈L,l.n=0)->nZ L=0
 |[],_=>rfl
 |l::L,h=>by
  have b:=DJ L fun x a=>h x (bn _ a)
  have c:=h l (aY ..)
  unfold nZ at*
  simp only[eP,kG] at*
  omega
theorem Pq (P:List Nat):∀l∈newL P,l.n=0/\l.held=⟨#[]⟩/\l.out=⟨#[]⟩:=by
 intro l a
 unfold newL at a
 rcases eB.1 a with h|h
 ·obtain⟨c,_,rfl⟩:=iN.1 h
  exact⟨rfl,rfl,rfl⟩
 ·rw[List.eq_of_mem_replicate h]
  exact⟨rfl,rfl,rfl⟩
theorem Qg:(⟨#[]⟩:ByteArray)++kU=kU:=by kernel_rfl
theorem kg.Yj {w:World}(h:kg w):gP.g 3<w.heap.size/\gP.g 4<w.heap.size:=⟨aD w _ (h.1 0 (by decide)),aD w _ (h.2 0 (by decide)).1⟩
theorem jV.lt {w:World}(h:jV w):3<w.heap.size:=by obtain⟨m,h⟩:=h;exact aD w _ h
theorem Xk {w:World}{a:Value}(h:lJ w a hsP):∀b,a.ownBlock=some b->b<w.heap.size:=by
 intro b d
 obtain⟨i,f,rfl,_,_,_,_⟩:=bq.form h
 obtain⟨g,o,rfl,c,_⟩:=h.at rfl 0 (by decide)
 have e:g=b:=dN d
 subst e
 exact aD w _ c
end Go.Proofs.YtpmbddooibgnaaaGreatDoor
