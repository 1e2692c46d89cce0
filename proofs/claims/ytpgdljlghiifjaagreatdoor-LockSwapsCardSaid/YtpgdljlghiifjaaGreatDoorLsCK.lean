/- LockSwaps: whatever the input, the call returns true; the input reads as it did. -/
import Derived.Test.YtpgdljlghiifjaaGreatDoorJS
import Derived.Test.YtpgdljlghiifjaaGreatDoorTie
import Derived.Test.YtpgdljlghiifjaaGreatDoorCards
import Derived.ChangeSame
import Derived.ChangeVars
import Derived.JoinedOf
import Derived.RowKitTokens
import Derived.Handed
namespace Go.Proofs.YtpgdljlghiifjaaGreatDoor
open Go.RowKit Go.ChangeShapes Go.WideShapes Go.ChangeAt Go.Joins
set_option maxRecDepth 100000
set_option maxHeartbeats 8000000
set_option linter.all false
theorem Dl (os:Os) (started:os.Started) (H:Type) (enc:TypeId×Value→H):
  ReturnsInHanded {} Tryz.checked os 5 .any (fun w args=>(Rows.lockSwapsSpec.pre enc Tryz.prog Tryz.f5 [] false w args∧laidMetH Tryz.prog Rows.lockSwapsRow.laid w)∧sizedMet enc Tryz.prog Tryz.f5 (OpenSpec.ofChange Rows.lockSwapsSpec) false w args)
   (Rows.lockSwapsSpec.post enc Tryz.prog Tryz.f5 false true false false):=by
 refine returnsInHanded_of_change_and (C:=Tryz.checked) (X:=fun w _=>laidMetH Tryz.prog Rows.lockSwapsRow.laid w) (fun _ _ _ hh h=>h.of_heap hh) Cr started (by kernel_rfl) Tryz.func5
  (ChangeSpec.witness_at (enc:=enc) (C:=Tryz.checked) (os:=os) (X:=fun w _=>laidMetH Tryz.prog Rows.lockSwapsRow.laid w) false (xV os) #[.agg #[.string ⟨#[]⟩,.slice none 0 0,.bool false,.bool false,.string ⟨#[]⟩,.int .i64 0],.agg #[.string ⟨#[]⟩,.slice none 0 0,.bool false,.bool false,.string ⟨#[]⟩,.int .i64 0],.int .i64 0] 8 rfl (by kernel_rfl) (by kernel_rfl) (by kernel_rfl) (by kernel_rfl) (by kernel_rfl) (Fy os _)) ?_
 intro W base args ds gs before hval0 hW _ _ hL _
 have hval:∀(j:Nat) t v,Tryz.f5.params[j]? =some t→args[j]? =some v→Value.okWide Tryz.prog W .any base t v:=hval0
 have hW':=hW
 obtain⟨p,q,hA0,hV,rfl,hfz,hnd⟩:=hW
 have hA:DataW.TrodAll enc Tryz.prog W 0 (fun _=>true) true Tryz.f5.params.toList args.toList ds p:=hA0
 rw[Tryz.params5] at hA hval
 obtain⟨v0,v1,v2,d0,d1,d2,p0,p1,p2,rfl,rfl,rfl,h0,h1,h2⟩:=trodAll_three hA
 obtain⟨rfl,rfl⟩:=trodVars_none hV
 have hT:=Jh rfl hL
 simp only[dG] at hW'
 have hlt:∀x∈p0++p1++p2,x.block<W.heap.size:=fun x hx=>by have:=hW'.lt x (by simpa using hx);simpa using this
 have h0k:=h0
 have h1k:=h1
 have h2k:=h2
 obtain⟨c0,rfl,z0⟩:=okWide_struct Tryz.underlying24 (hval 0 24 v0 rfl rfl)
 obtain⟨c1,rfl,z1⟩:=okWide_struct Tryz.underlying24 (hval 1 24 v1 rfl rfl)
 obtain⟨now,rfl,rfl,rfl,hwn⟩:=open_int Tryz.underlying2 (hval 2 2 v2 rfl rfl) h2
 obtain⟨f0,hf0⟩:=h0
 obtain⟨f1,hf1⟩:=h1
 obtain⟨a,av,ea,hpa,hsa,hta⟩:=xR hf0
 obtain⟨b,bv,eb,hpb,hsb,htb⟩:=xR hf1
 have ea':(Value.agg c0)=qN a av:=by
  have:c0.toList=_:=ea
  unfold qN
  congr 1
  exact qB this
 have eb':(Value.agg c1)=qN b bv:=by
  have:c1.toList=_:=eb
  unfold qN
  congr 1
  exact qB this
 clear hA0 hval0 hval
 have hwk:=G7 a b av bv now _ _ W hpa hpb hsa hsb hta htb hT
 rw[←ea',←eb'] at hwk
 refine hwk.mono fun e W' ⟨he,hb⟩=> ?_
 subst he
 rw[aL] at hW'
 refine⟨_,rfl,_,_,_,[],p0++(p1++[]),[],hW',?_,?_,rfl,hb.frame _,fun h=>by cases h⟩
 ·exact trodAll_mk1 (shut_bool Tryz.underlying4 true)
 ·exact trodAll_mk3 (Below.trod xU (by kernel_rfl) (iq (by kernel_rfl)) h0k hb (fun x hx=>hlt x (by simp[hx]))) (Below.trod xU (by kernel_rfl) (iq (by kernel_rfl)) h1k hb (fun x hx=>hlt x (by simp[hx]))) (shut_int Tryz.underlying2 hwn)
theorem Il:Rows.LockSwapsSaid:=
 OpenClaim.holds_of_wide (p:=Tryz.pinned) (s:=Rows.lockSwapsSpec) (c:=Rows.lockSwapsRow) 5 Tryz.f5 rfl rfl rfl rfl rfl rfl rfl ⟨rfl,rfl,rfl,rfl,rfl⟩ rfl rfl rfl rfl rfl (by kernel_rfl) Tryz.func5 (by kernel_rfl)
  (iq (by kernel_rfl)) (by unfold Func.isWrapper;first|(rw[if_pos (by decide+kernel)];kernel_rfl)|(rw[if_neg (by decide+kernel)];exact⟨rfl,rfl⟩))
  (fun os started H enc _=>Dl os started H enc)
theorem lswaps_holds:Rows.LockSwapsCardSaid:=
 Claim7.holds_tied_plain_at .later [] [.data,.pinned] true (true, "f04ccda6b4cdaaf0c5d83bfc1f7fefa9d64facaa6ada9e745412eea37d69438a") true
  Il (fun _ h=>by cases h) (by kernel_rfl) (fun _ h=>by cases h) lockSwaps_row_tie rfl ⟨rfl,rfl⟩ (by kernel_rfl) rfl
  (fun f fn hf hfn=>by
   obtain rfl:f=5:=iY ((show Tryz.prog.funcNamed "docket/docketlaw15.LockSwaps"=some 5 by kernel_rfl).symm.trans hf)|>.symm
   obtain rfl:fn=Tryz.f5:=(iY (Tryz.func5.symm.trans hfn)).symm
   exact⟨by kernel_rfl,fun j t ht=>by
    rw[Tryz.params5] at ht
    have h3:t=24∨t=2:=by
     rcases j with _|_|_|j
     ·left;simpa using ht.symm
     ·left;simpa using ht.symm
     ·right;simpa using ht.symm
     ·simp at ht
    rcases h3 with rfl|rfl
    ·exact(show Tryz.prog.wantsStandIn 24=false by kernel_rfl)
    ·exact(show Tryz.prog.wantsStandIn 2=false by kernel_rfl)⟩)
  (by kernel_rfl)
#print axioms lswaps_holds
end Go.Proofs.YtpgdljlghiifjaaGreatDoor
