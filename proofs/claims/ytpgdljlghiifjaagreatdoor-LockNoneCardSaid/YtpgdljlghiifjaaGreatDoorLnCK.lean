/- LockNone: whatever the input, the call returns true; the input reads as it did. -/
import Derived.Test.YtpgdljlghiifjaaGreatDoorJN
import Derived.Test.YtpgdljlghiifjaaGreatDoorTie
import Derived.Test.YtpgdljlghiifjaaGreatDoorCards
import Derived.ChangeSame
import Derived.ChangeVars
import Derived.JoinedOf
import Derived.RowKitTokens
import Derived.Handed
namespace Go.Proofs.YtpgdljlghiifjaaGreatDoor
open Go.RowKit Go.ChangeShapes Go.WideShapes Go.ChangeAt Go.Joins
set_option maxRecDepth 100000
set_option maxHeartbeats 8000000
set_option linter.all false
theorem Fb (os:Os) (started:os.Started) (H:Type) (enc:TypeId×Value→H):
  ReturnsInHanded {} Tryz.checked os 8 .any (fun w args=>(Rows.lockNoneSpec.pre enc Tryz.prog Tryz.f8 [] false w args∧laidMetH Tryz.prog Rows.lockNoneRow.laid w)∧sizedMet enc Tryz.prog Tryz.f8 (OpenSpec.ofChange Rows.lockNoneSpec) false w args)
   (Rows.lockNoneSpec.post enc Tryz.prog Tryz.f8 false true false false):=by
 refine returnsInHanded_of_change_and (C:=Tryz.checked) (X:=fun w _=>laidMetH Tryz.prog Rows.lockNoneRow.laid w) (fun _ _ _ hh h=>h.of_heap hh) Cr started (by kernel_rfl) Tryz.func8
  (ChangeSpec.witness_at (enc:=enc) (C:=Tryz.checked) (os:=os) (X:=fun w _=>laidMetH Tryz.prog Rows.lockNoneRow.laid w) false (xV os) #[.agg #[.int .u8 0,.string ⟨#[]⟩,.slice none 0 0,.bool false,.bool false,.string ⟨#[]⟩,.int .i64 0,.int .i64 0]] 8 rfl (by kernel_rfl) (by kernel_rfl) (by kernel_rfl) (by kernel_rfl) (by kernel_rfl) (Fy os _)) ?_
 intro W base args ds gs before hval0 hW _ _ hL _
 have hval:∀(j:Nat) t v,Tryz.f8.params[j]? =some t→args[j]? =some v→Value.okWide Tryz.prog W .any base t v:=hval0
 have hW':=hW
 obtain⟨p,q,hA0,hV,rfl,hfz,hnd⟩:=hW
 have hA:DataW.TrodAll enc Tryz.prog W 0 (fun _=>true) true Tryz.f8.params.toList args.toList ds p:=hA0
 rw[Tryz.params8] at hA hval
 obtain⟨v0,d0,rfl,rfl,h0⟩:=trodAll_one hA
 obtain⟨rfl,rfl⟩:=trodVars_none hV
 have hT:=Jh rfl hL
 simp only[dG] at hW'
 have hlt:∀x∈p,x.block<W.heap.size:=fun x hx=>by have:=hW'.lt x (by simpa using hx);simpa using this
 have h0k:=h0
 obtain⟨c0,rfl,z0⟩:=okWide_struct Tryz.underlying44 (hval 0 44 v0 rfl rfl)
 obtain⟨f0,hf0⟩:=h0
 obtain⟨kd,l,pv,now,ea,_,hpa,_,_,_⟩:=MN hf0
 have ea':(Value.agg c0)= .agg #[.int .u8 kd,.string l.token,pv,.bool l.deep,.bool l.excl,.string l.owner,.int .i64 l.till,.int .i64 now]:=by
  have:c0.toList=_:=ea
  congr 1
  exact qB this
 clear hA0 hval0 hval
 have hwk:=KF kd now l pv _ W hpa hT
 rw[←ea'] at hwk
 refine hwk.mono fun e W' ⟨he,hb⟩=> ?_
 subst he
 refine⟨_,rfl,_,_,_,[],p,[],hW',?_,?_,rfl,hb.frame _,fun h=>by cases h⟩
 ·exact trodAll_mk1 (shut_bool Tryz.underlying4 true)
 ·exact trodAll_mk1 (Below.trod xU (by kernel_rfl) (iq (by kernel_rfl)) h0k hb hlt)
theorem KJ:Rows.LockNoneSaid:=
 OpenClaim.holds_of_wide (p:=Tryz.pinned) (s:=Rows.lockNoneSpec) (c:=Rows.lockNoneRow) 8 Tryz.f8 rfl rfl rfl rfl rfl rfl rfl ⟨rfl,rfl,rfl,rfl,rfl⟩ rfl rfl rfl rfl rfl (by kernel_rfl) Tryz.func8 (by kernel_rfl)
  (iq (by kernel_rfl)) (by unfold Func.isWrapper;first|(rw[if_pos (by decide+kernel)];kernel_rfl)|(rw[if_neg (by decide+kernel)];exact⟨rfl,rfl⟩))
  (fun os started H enc _=>Fb os started H enc)
theorem lnone_holds:Rows.LockNoneCardSaid:=
 Claim7.holds_tied_plain_at .later [] [.data,.pinned] true (true, "f04ccda6b4cdaaf0c5d83bfc1f7fefa9d64facaa6ada9e745412eea37d69438a") true
  KJ (fun _ h=>by cases h) (by kernel_rfl) (fun _ h=>by cases h) lockNone_row_tie rfl ⟨rfl,rfl⟩ (by kernel_rfl) rfl
  (fun f fn hf hfn=>by
   obtain rfl:f=8:=iY ((show Tryz.prog.funcNamed "docket/docketlaw15.LockNone"=some 8 by kernel_rfl).symm.trans hf)|>.symm
   obtain rfl:fn=Tryz.f8:=(iY (Tryz.func8.symm.trans hfn)).symm
   exact⟨by kernel_rfl,fun j t ht=>by
    rw[Tryz.params8] at ht
    have h3:t=44:=by
     rcases j with _|j
     ·simpa using ht.symm
     ·simp at ht
    subst h3
    exact(show Tryz.prog.wantsStandIn 44=false by kernel_rfl)⟩)
  (by kernel_rfl)
#print axioms lnone_holds
end Go.Proofs.YtpgdljlghiifjaaGreatDoor
