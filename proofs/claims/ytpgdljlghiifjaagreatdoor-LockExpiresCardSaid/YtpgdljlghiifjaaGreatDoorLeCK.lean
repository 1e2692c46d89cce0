/- LockExpires: whatever the input, the call returns true; the input reads as it did. -/
import Derived.Test.YtpgdljlghiifjaaGreatDoorKE
import Derived.Test.YtpgdljlghiifjaaGreatDoorTie
import Derived.Test.YtpgdljlghiifjaaGreatDoorCards
import Derived.ChangeSame
import Derived.ChangeVars
import Derived.JoinedOf
import Derived.RowKitTokens
import Derived.Handed
set_option maxRecDepth 100000
set_option maxHeartbeats 8000000
set_option linter.all false
namespace Go.Proofs.YtpgdljlghiifjaaGreatDoor
open Go.RowKit Go.ChangeShapes Go.WideShapes Go.ChangeAt Go.Joins
theorem Bv (os:Os)(started:os.Started)(H:Type)(enc:TypeId×Value->H):
  ReturnsInHanded {} Tryz.checked os 6 .any (fun w args=>(Rows.lockExpiresSpec.pre enc Tryz.prog Tryz.f6 [] false w args/\laidMetH Tryz.prog Rows.lockExpiresRow.laid w)/\sizedMet enc Tryz.prog Tryz.f6 (OpenSpec.ofChange Rows.lockExpiresSpec) false w args)
   (Rows.lockExpiresSpec.post enc Tryz.prog Tryz.f6 false true false false):=by
 refine returnsInHanded_of_change_and (C:=Tryz.checked) (X:=fun w _=>laidMetH Tryz.prog Rows.lockExpiresRow.laid w) (fun _ _ _ hh h=>h.of_heap hh) Da started (by kernel_rfl) Tryz.func6
  (ChangeSpec.witness_at (enc:=enc) (C:=Tryz.checked) (os:=os) (X:=fun w _=>laidMetH Tryz.prog Rows.lockExpiresRow.laid w) false (yC os) #[.slice none 0 0,.int .u16 0] 8 rfl (by kernel_rfl) (by kernel_rfl) (by kernel_rfl) (by kernel_rfl) (by kernel_rfl) (FZ os _)) ?_
 intro W base args ds gs before hval0 hW _ _ hL _
 have hval:∀(j:Nat) t v,Tryz.f6.params[j]? =some t->args[j]? =some v->Value.okWide Tryz.prog W .any base t v:=hval0
 have hW':=hW
 obtain⟨p,q,hA0,hV,rfl,hfz,hnd⟩:=hW
 have hA:DataW.TrodAll enc Tryz.prog W 0 (fun _=>true) true Tryz.f6.params.toList args.toList ds p:=hA0
 rw[Tryz.params6] at hA hval
 obtain⟨v0,v1,d0,d1,p0,p1,rfl,rfl,rfl,h0,h1⟩:=trodAll_two hA
 obtain⟨rfl,rfl⟩:=trodVars_none hV
 have hT:=JG rfl hL
 simp only[dP] at hW'
 have hlt:∀x∈p0++p1,x.block<W.heap.size:=fun x hx=>by have:=hW'.lt x (by simpa using hx);simpa using this
 have h0k:=h0
 have h1k:=h1
 obtain⟨a0,len,cap,rfl⟩:=okWide_slice Tryz.underlying41 (hval 0 41 v0 rfl rfl)
 obtain⟨more,rfl,rfl,rfl,hwn⟩:=open_int Tryz.underlying42 (hval 1 42 v1 rfl rfl) h1
 obtain⟨f0,hf0⟩:=h0
 obtain⟨sv,os',ea,hos,hwf⟩:=yu (by simpa [Value.cells] using hf0)
 simp at ea
 subst ea
 have hmo:0<=more/\more<=65535:=by
  simp only[Lit.wf,dz,bR] at hwn
  exact⟨Int.le_trans (by decide) hwn.1,Int.le_trans hwn.2 (by decide)⟩
 clear hA0 hval0 hval
 refine(Er os' _ more W hos hwf hmo hT).mono fun e W' ⟨he,hb⟩=> ?_
 subst he
 refine⟨_,rfl,_,_,_,[],p0++[],[],hW',?_,?_,rfl,hb.frame _,fun h=>by cases h⟩
 ·exact trodAll_mk1 (shut_bool Tryz.underlying4 true)
 ·exact trodAll_mk2 (Below.trod yB (by kernel_rfl) (fV (by kernel_rfl)) h0k hb (fun x hx=>hlt x (by simp[hx]))) (shut_int Tryz.underlying42 hwn)
theorem Ej:Rows.LockExpiresSaid:=
 OpenClaim.holds_of_wide (p:=Tryz.pinned) (s:=Rows.lockExpiresSpec) (c:=Rows.lockExpiresRow) 6 Tryz.f6 rfl rfl rfl rfl rfl rfl rfl ⟨rfl,rfl,rfl,rfl,rfl⟩ rfl rfl rfl rfl rfl (by kernel_rfl) Tryz.func6 (by kernel_rfl)
  (fV (by kernel_rfl)) (by unfold Func.isWrapper;first|(rw[if_pos (by decide+kernel)];kernel_rfl)|(rw[if_neg (by decide+kernel)];exact⟨rfl,rfl⟩))
  (fun os started H enc _=>Bv os started H enc)
theorem lexpires_holds:Rows.LockExpiresCardSaid:=
 Claim7.holds_tied_plain_at .later [] [.data,.pinned] true (true, "f04ccda6b4cdaaf0c5d83bfc1f7fefa9d64facaa6ada9e745412eea37d69438a") true
  Ej (fun _ h=>by cases h) (by kernel_rfl) (fun _ h=>by cases h) lockExpires_row_tie rfl ⟨rfl,rfl⟩ (by kernel_rfl) rfl
  (fun f fn hf hfn=>by
   obtain rfl:f=6:=iJ ((show Tryz.prog.funcNamed "docket/docketlaw15.LockExpires"=some 6 by kernel_rfl).symm.trans hf)|>.symm
   obtain rfl:fn=Tryz.f6:=(iJ (Tryz.func6.symm.trans hfn)).symm
   exact⟨by kernel_rfl,fun j t ht=>by
    rw[Tryz.params6] at ht
    have h3:t=41\/t=42:=by
     rcases j with _|_|j
     ·left;simpa using ht.symm
     ·right;simpa using ht.symm
     ·simp at ht
    rcases h3 with rfl|rfl
    ·exact(show Tryz.prog.wantsStandIn 41=false by kernel_rfl)
    ·exact(show Tryz.prog.wantsStandIn 42=false by kernel_rfl)⟩)
  (by kernel_rfl)
#print axioms lexpires_holds
end Go.Proofs.YtpgdljlghiifjaaGreatDoor
