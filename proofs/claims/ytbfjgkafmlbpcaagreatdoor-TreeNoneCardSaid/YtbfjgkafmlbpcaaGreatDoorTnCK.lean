/- TreeNone: whatever the operation, the call returns true; the input reads as it did. -/
import Derived.Test.YtbfjgkafmlbpcaaGreatDoorTT
import Derived.Test.YtbfjgkafmlbpcaaGreatDoorTW
import Derived.Test.YtbfjgkafmlbpcaaGreatDoorTJ
import Derived.Test.YtbfjgkafmlbpcaaGreatDoorT1
import Derived.Test.YtbfjgkafmlbpcaaGreatDoorT2
import Derived.Test.YtbfjgkafmlbpcaaGreatDoorT3
import Derived.Test.YtbfjgkafmlbpcaaGreatDoorT4
import Derived.Test.YtbfjgkafmlbpcaaGreatDoorT5
import Derived.Test.YtbfjgkafmlbpcaaGreatDoorT6
import Derived.Test.YtbfjgkafmlbpcaaGreatDoorT7
import Derived.Test.YtbfjgkafmlbpcaaGreatDoorT8
import Derived.Test.YtbfjgkafmlbpcaaGreatDoorT9
import Derived.Test.YtbfjgkafmlbpcaaGreatDoorT10
import Derived.Test.YtbfjgkafmlbpcaaGreatDoorT11
import Derived.Test.YtbfjgkafmlbpcaaGreatDoorT12
import Derived.Test.YtbfjgkafmlbpcaaGreatDoorT13
import Derived.Test.YtbfjgkafmlbpcaaGreatDoorT14
import Derived.Test.YtbfjgkafmlbpcaaGreatDoorT15
import Derived.Test.YtbfjgkafmlbpcaaGreatDoorT16
import Derived.Test.YtbfjgkafmlbpcaaGreatDoorT17
import Derived.Test.YtbfjgkafmlbpcaaGreatDoorT18
import Derived.Test.YtbfjgkafmlbpcaaGreatDoorT19
import Derived.Test.YtbfjgkafmlbpcaaGreatDoorT20
import Derived.Test.YtbfjgkafmlbpcaaGreatDoorT21
import Derived.Test.YtbfjgkafmlbpcaaGreatDoorT22
import Derived.Test.YtbfjgkafmlbpcaaGreatDoorT23
import Derived.Test.YtbfjgkafmlbpcaaGreatDoorT24
import Derived.Test.YtbfjgkafmlbpcaaGreatDoorT25
import Derived.Test.YtbfjgkafmlbpcaaGreatDoorT26
import Derived.Test.YtbfjgkafmlbpcaaGreatDoorT27
import Derived.Test.YtbfjgkafmlbpcaaGreatDoorRows
import Derived.Test.YtbfjgkafmlbpcaaGreatDoorCards
import Derived.Deep.Strs
import Derived.Lib.SmallJoins
import Derived.Lib.LaidU8T
import Derived.ProofKit
import Derived.LaidLaws
import Derived.Lay
import Derived.MakeChecks
import Derived.ChangeSame
import Derived.ChangeVars
import Derived.JoinedOf
import Derived.RowKitTokens
import Derived.Handed
set_option maxRecDepth 100000
set_option maxHeartbeats 8000000
set_option linter.all false
namespace Go.Proofs.YtbfjgkafmlbpcaaGreatDoor
open Go.RowKit Go.ChangeShapes Go.WideShapes Go.ChangeAt Go.Joins Go.Deep Go.Shelf Go.Lib
theorem KA {H:Type}{enc:TypeId×Value->H}{W:World}{fuel:Nat}{cs:List Value}{x:DataW H×List MemPlace}(h:DataW.trod enc Tryz.prog W 0 (fun _=>true) true fuel 30 cs=some x):
  ∃(kd:Int) (po qo ao ko:Option Addr) (pn pc qn qc an ac kn kc:Nat) (body:ByteArray) (deep:Bool) (s1 s2 s3 r1 r2:ByteArray) (dp:Int),cs=[.int .u8 kd,.slice po pn pc,.slice qo qn qc,.string body,.bool deep,.string s1,.string s2,.string s3,.slice ao an ac,.slice ko kn kc,.string r1,.string r2,.int .i64 dp]:=by
 obtain⟨xs,n,_,rfl,hl,hlen,hf⟩:=Te Tryz.underlying30 h
 have h13:Tryz.prog.cellsOf 30=13:=by kernel_rfl
 have c5:Tryz.prog.cellsOf 5=1:=by kernel_rfl
 have c22:Tryz.prog.cellsOf 22=1:=by kernel_rfl
 have c9:Tryz.prog.cellsOf 9=1:=by kernel_rfl
 have c4:Tryz.prog.cellsOf 4=1:=by kernel_rfl
 have c26:Tryz.prog.cellsOf 26=5:=by kernel_rfl
 have c28:Tryz.prog.cellsOf 28=2:=by kernel_rfl
 have c3:Tryz.prog.cellsOf 3=1:=by kernel_rfl
 have cA:Tryz.prog.cellsOf 23=1:=by kernel_rfl
 have cN:Tryz.prog.cellsOf 24=1:=by kernel_rfl
 rw[h13] at hl
 match xs,hlen,cs,hl with
 |[y0,y1,y2,y3,y4,y5,y6,y7],_,[v0,v1,v2,v3,v4,v5,v6,v7,v8,v9,v10,v11,v12],_=>
  have g0:=hf 0 _ rfl
  have g1:=hf 1 _ rfl
  have g2:=hf 2 _ rfl
  have g3:=hf 3 _ rfl
  have g4:=hf 4 _ rfl
  have g5:=hf 5 _ rfl
  have g6:=hf 6 _ rfl
  have g7:=hf 7 _ rfl
  simp[c5,c22,c9,c4,c26,c28,c3] at g0 g1 g2 g3 g4 g5 g6 g7
  obtain⟨z0,e0,_,_⟩:=DataW.trod_int jJ g0
  obtain⟨po,pn,pc,e1⟩:=slice_form aW g1
  obtain⟨qo,qn,qc,e2⟩:=slice_form aW g2
  obtain⟨b3,e3,_,_⟩:=oN dJ g3
  obtain⟨b4,e4,_⟩:=DataW.trod_bool oD g4
  obtain⟨z7,e7,_,_⟩:=DataW.trod_int gq g7
  obtain⟨xn,_,_,rfl,hln,hlenn,hfn⟩:=Te Tryz.underlying26 g5
  obtain⟨xp,_,_,rfl,hlp,hlenp,hfp⟩:=Te Tryz.underlying28 g6
  match xn,hlenn,xp,hlenp with
  |[a0,a1,a2,a3,a4],_,[d0,d1],_=>
   have k0:=hfn 0 _ rfl
   have k1:=hfn 1 _ rfl
   have k2:=hfn 2 _ rfl
   have k3:=hfn 3 _ rfl
   have k4:=hfn 4 _ rfl
   have m0:=hfp 0 _ rfl
   have m1:=hfp 1 _ rfl
   simp[c9,cA,cN] at k0 k1 k2 k3 k4 m0 m1
   obtain⟨s5,e5,_,_⟩:=oN dJ k0
   obtain⟨s6,e6,_,_⟩:=oN dJ k1
   obtain⟨s7,e8,_,_⟩:=oN dJ k2
   obtain⟨ao,an,ac,e9⟩:=slice_form Tryz.underlying23 k3
   obtain⟨ko,kn,kc,e10⟩:=slice_form Tryz.underlying24 k4
   obtain⟨r1,e11,_,_⟩:=oN dJ m0
   obtain⟨r2,e12,_,_⟩:=oN dJ m1
   simp at e0 e1 e2 e3 e4 e5 e6 e7 e8 e9 e10 e11 e12
   subst e0 e1 e2 e3 e4 e5 e6 e7 e8 e9 e10 e11 e12
   exact⟨_,_,_,_,_,_,_,_,_,_,_,_,_,_,_,_,_,_,_,_,_,rfl⟩
theorem QD {W:World}(h:laidMetH Tryz.prog Rows.treeNoneRow.laid W):uV W:=by
 have hl:Rows.treeNoneRow.laid=("unicode/utf8.first",Lib.firstData)::("unicode/utf8.acceptRanges",Lib.acceptData)::Rows.treeNoneRow.laid.drop 2:=by kernel_rfl
 rw[MakeChecks.laidMetH_plain _ _ _ (by kernel_rfl),hl] at h
 exact utf8Tabs_of_readsT (U8Types.of196 LW) ⟨by kernel_rfl,by kernel_rfl,by kernel_rfl,by kernel_rfl,by kernel_rfl,by kernel_rfl,by kernel_rfl⟩ (Lib.laidMet.reads h (.head _)) (Lib.laidMet.reads h (.tail _ (.head _)))
theorem Dw (os:Os)(started:os.Started)(H:Type)(enc:TypeId×Value->H):
  ReturnsInHanded {} Tryz.checked os 3 .any (fun w args=>(Rows.treeNoneSpec.pre enc Tryz.prog Tryz.f3 [] false w args/\laidMetH Tryz.prog Rows.treeNoneRow.laid w)/\sizedMet enc Tryz.prog Tryz.f3 (OpenSpec.ofChange Rows.treeNoneSpec) false w args)
   (Rows.treeNoneSpec.post enc Tryz.prog Tryz.f3 false true false false):=by
 refine returnsInHanded_of_change_and (C:=Tryz.checked) (X:=fun w _=>laidMetH Tryz.prog Rows.treeNoneRow.laid w) (fun _ _ _ hh h=>h.of_heap hh) Ig started (by kernel_rfl) Tryz.func3
  (ChangeSpec.witness_shaped (enc:=enc) (C:=Tryz.checked) (os:=os) (X:=fun w _=>laidMetH Tryz.prog Rows.treeNoneRow.laid w) false (World.laidAll Tryz.prog os Rows.treeNoneRow.laid) rR 8 (World.laidAll_os _ _ _)
   (World.shaped_of_ZipB (Tt os) (Tq os)) (Tp os) (Tn os enc) (Tm os enc)
   (Ti os _)) ?_
 intro W base args ds gs before hval0 hW _ _ hL _
 have hval:∀(j:Nat) t v,Tryz.f3.params[j]? =some t->args[j]? =some v->Value.okWide Tryz.prog W .any base t v:=hval0
 have hW':=hW
 obtain⟨p,q,hA0,hV,rfl,hfz,hnd⟩:=hW
 have hA:DataW.TrodAll enc Tryz.prog W 0 (fun _=>true) true Tryz.f3.params.toList args.toList ds p:=hA0
 rw[Tryz.params3] at hA hval
 obtain⟨v0,d0,rfl,rfl,h0⟩:=trodAll_one hA
 obtain⟨rfl,rfl⟩:=trodVars_none hV
 have hT:=QD hL
 simp only[dW] at hW'
 have hlt:∀x∈p,x.block<W.heap.size:=fun x hx=>by have:=hW'.lt x (by simpa using hx);simpa using this
 have h0k:=h0
 obtain⟨c0,rfl,z0⟩:=okWide_struct Tryz.underlying30 (hval 0 30 v0 rfl rfl)
 obtain⟨f0,hf0⟩:=h0
 obtain⟨kd,po,qo,ao,ko,pn,pc,qn,qc,an,ac,kn,kc,body,deep,s1,s2,s3,r1,r2,dp,ea⟩:=KA hf0
 have ea':(Value.agg c0)= .agg #[.int .u8 kd,.slice po pn pc,.slice qo qn qc,.string body,.bool deep,.string s1,.string s2,.string s3,.slice ao an ac,.slice ko kn kc,.string r1,.string r2,.int .i64 dp]:=by
  have:c0.toList=_:=ea
  congr 1
  exact Ow this
 clear hA0 hval0 hval
 have hwk:=GZ kd po qo ao ko pn pc qn qc an ac kn kc body deep s1 s2 s3 r1 r2 dp W hT
 rw[<-ea'] at hwk
 refine hwk.mono fun e W' ⟨he,hb⟩=> ?_
 subst he
 refine⟨_,rfl,_,_,_,[],p,[],hW',?_,?_,rfl,hb.frame _,fun h=>by cases h⟩
 ·exact trodAll_mk1 (shut_bool oD true)
 ·exact trodAll_mk1 (Below.trod Iq (by kernel_rfl) (lU (by kernel_rfl)) h0k hb hlt)
theorem J9:Rows.TreeNoneSaid:=
 OpenClaim.holds_of_wide (p:=Tryz.pinned) (s:=Rows.treeNoneSpec) (c:=Rows.treeNoneRow) 3 Tryz.f3 (by as_aux_lemma => kernel_rfl) (by as_aux_lemma => kernel_rfl) (by as_aux_lemma => kernel_rfl) (by as_aux_lemma => kernel_rfl) (by as_aux_lemma => kernel_rfl) (by as_aux_lemma => kernel_rfl) (by as_aux_lemma => kernel_rfl) ⟨(by as_aux_lemma => kernel_rfl),(by as_aux_lemma => kernel_rfl),(by as_aux_lemma => kernel_rfl),(by as_aux_lemma => kernel_rfl),(by as_aux_lemma => kernel_rfl)⟩ (by as_aux_lemma => kernel_rfl) (by as_aux_lemma => kernel_rfl) (by as_aux_lemma => kernel_rfl) (by as_aux_lemma => kernel_rfl) (by as_aux_lemma => kernel_rfl) (by as_aux_lemma => kernel_rfl) Tryz.func3 j14
  (lU (by as_aux_lemma => kernel_rfl)) (by unfold Func.isWrapper; first | (rw [if_pos (by as_aux_lemma => decide +kernel)]; as_aux_lemma => kernel_rfl) | (rw [if_neg (by as_aux_lemma => decide +kernel)]; exact ⟨rfl, rfl⟩))
  (fun os started H enc _=>Dw os started H enc)
theorem tnone_holds:Rows.TreeNoneCardSaid:=
 Claim7.holds_tied_plain_at .later [] [.pinned,.data,.data,.data,.pinned,.sentinel,.sentinel,.data,.data,.data] true (true, "8c8371c9e3f3737400d2f7b5759f7a6ef077cd3d8f5dc0569d47cae41fdd2745") true
  J9 (fun _ h=>by cases h) (by as_aux_lemma => kernel_rfl) (fun _ h=>by cases h) Dv (by as_aux_lemma => kernel_rfl) ⟨(by as_aux_lemma => kernel_rfl),(by as_aux_lemma => kernel_rfl)⟩ (by as_aux_lemma => kernel_rfl) (by as_aux_lemma => kernel_rfl)
  (fun f fn hf hfn=>by
   obtain rfl:f=3:=wh ((show Tryz.prog.funcNamed "docket/docketlaw14.TreeNone"=some 3 by as_aux_lemma => kernel_rfl).symm.trans hf)|>.symm
   obtain rfl:fn=Tryz.f3:=(wh (Tryz.func3.symm.trans hfn)).symm
   exact⟨by as_aux_lemma => kernel_rfl,fun j t ht=>by
    rw[Tryz.params3] at ht
    have h3:t=30:=by
     rcases j with _|j
     ·simpa using ht.symm
     ·simp at ht
    subst h3
    exact(show Tryz.prog.wantsStandIn 30=false by as_aux_lemma => kernel_rfl)⟩)
  (by as_aux_lemma => kernel_rfl)
#print axioms tnone_holds
end Go.Proofs.YtbfjgkafmlbpcaaGreatDoor
