/- LockAlone: whatever the input, the call returns true; the input reads as it did. -/
import Derived.Test.YtpgdljlghiifjaaGreatDoorKA
import Derived.Test.YtpgdljlghiifjaaGreatDoorTie
import Derived.Test.YtpgdljlghiifjaaGreatDoorCards
import Derived.ChangeSame
import Derived.ChangeVars
import Derived.JoinedOf
import Derived.RowKitTokens
import Derived.Handed
set_option maxRecDepth 100000
set_option maxHeartbeats 8000000
set_option linter.all false
namespace Go.Proofs.YtpgdljlghiifjaaGreatDoor
open Go.RowKit Go.ChangeShapes Go.WideShapes Go.ChangeAt Go.Joins
theorem EJ (os:Os)(started:os.Started)(H:Type)(enc:TypeId×Value->H):
  ReturnsInHanded {} Tryz.checked os 7 .any (fun w args=>(Rows.lockAloneSpec.pre enc Tryz.prog Tryz.f7 [] false w args/\laidMetH Tryz.prog Rows.lockAloneRow.laid w)/\sizedMet enc Tryz.prog Tryz.f7 (OpenSpec.ofChange Rows.lockAloneSpec) false w args)
   (Rows.lockAloneSpec.post enc Tryz.prog Tryz.f7 false true false false):=by
 refine returnsInHanded_of_change_and (C:=Tryz.checked) (X:=fun w _=>laidMetH Tryz.prog Rows.lockAloneRow.laid w) (fun _ _ _ hh h=>h.of_heap hh) Da started (by kernel_rfl) Tryz.func7
  (ChangeSpec.witness_at (enc:=enc) (C:=Tryz.checked) (os:=os) (X:=fun w _=>laidMetH Tryz.prog Rows.lockAloneRow.laid w) false (yC os) #[.slice none 0 0,.slice none 0 0] 8 rfl (by kernel_rfl) (by kernel_rfl) (by kernel_rfl) (by kernel_rfl) (by kernel_rfl) (FZ os _)) ?_
 intro W base args ds gs before hval0 hW _ _ hL _
 have hval:∀(j:Nat) t v,Tryz.f7.params[j]? =some t->args[j]? =some v->Value.okWide Tryz.prog W .any base t v:=hval0
 have hW':=hW
 obtain⟨p,q,hA0,hV,rfl,hfz,hnd⟩:=hW
 have hA:DataW.TrodAll enc Tryz.prog W 0 (fun _=>true) true Tryz.f7.params.toList args.toList ds p:=hA0
 rw[Tryz.params7] at hA hval
 obtain⟨v0,v1,d0,d1,p0,p1,rfl,rfl,rfl,h0,h1⟩:=trodAll_two hA
 obtain⟨rfl,rfl⟩:=trodVars_none hV
 have hT:=JG rfl hL
 simp only[dP] at hW'
 have hlt:∀x∈p0++p1,x.block<W.heap.size:=fun x hx=>by have:=hW'.lt x (by simpa using hx);simpa using this
 have h0k:=h0
 have h1k:=h1
 obtain⟨a0,len,cap,rfl⟩:=okWide_slice Tryz.underlying41 (hval 0 41 v0 rfl rfl)
 obtain⟨a1,len1,cap1,rfl⟩:=okWide_slice Tryz.underlying22 (hval 1 22 v1 rfl rfl)
 obtain⟨f1,hf1⟩:=h1
 obtain⟨f0,hf0⟩:=h0
 obtain⟨sv,os',ea,hos,hwf⟩:=yu (by simpa [Value.cells] using hf0)
 simp at ea
 subst ea
 obtain⟨qv,q',eb,hqp,_⟩:=Db (by simpa [Value.cells] using hf1)
 simp at eb
 subst eb
 clear hA0 hval0 hval
 refine(Jt os' _ _ q' W hos hwf hqp hT).mono fun e W' ⟨he,hb⟩=> ?_
 subst he
 refine⟨_,rfl,_,_,_,[],p0++p1,[],hW',?_,?_,rfl,hb.frame _,fun h=>by cases h⟩
 ·exact trodAll_mk1 (shut_bool Tryz.underlying4 true)
 ·exact trodAll_mk2 (Below.trod yB (by kernel_rfl) (fV (by kernel_rfl)) h0k hb (fun x hx=>hlt x (by simp[hx]))) (Below.trod yB (by kernel_rfl) (fV (by kernel_rfl)) h1k hb (fun x hx=>hlt x (by simp[hx])))
theorem IY:Rows.LockAloneSaid:=
 OpenClaim.holds_of_wide (p:=Tryz.pinned) (s:=Rows.lockAloneSpec) (c:=Rows.lockAloneRow) 7 Tryz.f7 rfl rfl rfl rfl rfl rfl rfl ⟨rfl,rfl,rfl,rfl,rfl⟩ rfl rfl rfl rfl rfl (by kernel_rfl) Tryz.func7 (by kernel_rfl)
  (fV (by kernel_rfl)) (by unfold Func.isWrapper;first|(rw[if_pos (by decide+kernel)];kernel_rfl)|(rw[if_neg (by decide+kernel)];exact⟨rfl,rfl⟩))
  (fun os started H enc _=>EJ os started H enc)
theorem lalone_holds:Rows.LockAloneCardSaid:=
 Claim7.holds_tied_plain_at .later [] [.data,.pinned] true (true, "f04ccda6b4cdaaf0c5d83bfc1f7fefa9d64facaa6ada9e745412eea37d69438a") true
  IY (fun _ h=>by cases h) (by kernel_rfl) (fun _ h=>by cases h) lockAlone_row_tie rfl ⟨rfl,rfl⟩ (by kernel_rfl) rfl
  (fun f fn hf hfn=>by
   obtain rfl:f=7:=iJ ((show Tryz.prog.funcNamed "docket/docketlaw15.LockAlone"=some 7 by kernel_rfl).symm.trans hf)|>.symm
   obtain rfl:fn=Tryz.f7:=(iJ (Tryz.func7.symm.trans hfn)).symm
   exact⟨by kernel_rfl,fun j t ht=>by
    rw[Tryz.params7] at ht
    have h3:t=41\/t=22:=by
     rcases j with _|_|j
     ·left;simpa using ht.symm
     ·right;simpa using ht.symm
     ·simp at ht
    rcases h3 with rfl|rfl
    ·exact(show Tryz.prog.wantsStandIn 41=false by kernel_rfl)
    ·exact(show Tryz.prog.wantsStandIn 22=false by kernel_rfl)⟩)
  (by kernel_rfl)
#print axioms lalone_holds
end Go.Proofs.YtpgdljlghiifjaaGreatDoor
