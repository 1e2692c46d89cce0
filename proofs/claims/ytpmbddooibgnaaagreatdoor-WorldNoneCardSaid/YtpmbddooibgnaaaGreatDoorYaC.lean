/- WorldNone: whatever the arguments, the call returns true; the input reads as it did. -/
import Derived.Test.YtpmbddooibgnaaaGreatDoorYaPK
import Derived.Test.YtpmbddooibgnaaaGreatDoorYaK
import Derived.Test.YtpmbddooibgnaaaGreatDoorYaW
import Derived.Test.YtpmbddooibgnaaaGreatDoorYaJ
import Derived.Test.YtpmbddooibgnaaaGreatDoorRows
import Derived.Test.YtpmbddooibgnaaaGreatDoorCards
import Derived.Deep.Strs
import Derived.Lib.SmallJoins
import Derived.Lib.LaidU8T
import Derived.ProofKit
import Derived.LaidLaws
import Derived.Lay
import Derived.MakeChecks
import Derived.ChangeSame
import Derived.ChangeVars
import Derived.JoinedOf
import Derived.RowKitTokens
import Derived.Handed
import Derived.HandedShaped
import Derived.Shelf.Vars
set_option linter.all false
namespace Go.Proofs.YtpmbddooibgnaaaGreatDoor
open Go.RowKit Go.ChangeShapes Go.WideShapes Go.ChangeAt Go.Joins Go.Deep Go.Shelf Go.Lib

set_option maxRecDepth 100000 in
set_option maxHeartbeats 2000000 in
theorem wW (os:Os)(started:os.Started)(H:Type)(enc:TypeId×Value->H):
    ReturnsInHanded {} Tryz.checked os 5 .any (fun w args=>(Rows.worldNoneSpec.pre enc Tryz.prog Tryz.f5 [] false w args/\laidMetH Tryz.prog Rows.worldNoneRow.laid w)/\sizedMet enc Tryz.prog Tryz.f5 (OpenSpec.ofChange Rows.worldNoneSpec) false w args)
      (Rows.worldNoneSpec.post enc Tryz.prog Tryz.f5 false true false false):=by
  refine oh (C:=Tryz.checked) (X:=fun w _=>laidMetH Tryz.prog Rows.worldNoneRow.laid w) (fun _ _ _ hh h=>h.of_heap hh) own_none14 started (by kernel_rfl) Tryz.func5
    (ChangeSpec.witness_shaped (enc:=enc) (C:=Tryz.checked) (os:=os) (X:=fun w _=>laidMetH Tryz.prog Rows.worldNoneRow.laid w) false (World.laidAll Tryz.prog os Rows.worldNoneRow.laid) args14 8 (World.laidAll_os _ _ _)
      (World.shaped_of_ZipB (wit1 os) (wit2 os)) (wit3 os) (wit4 os enc) (wit5 os enc)
      (wit8 os _)) ?_
  intro W base args ds gs before hval0 hW _ _ hL hSH _
  have hval:∀(j:Nat) t v,Tryz.f5.params[j]? =some t->args[j]? =some v->Value.okWide Tryz.prog W .any base t v:=hval0
  have hW':=hW
  obtain⟨p,q,hA0,hV,rfl,hfz,hnd⟩:=hW
  have hA:DataW.TrodAll enc Tryz.prog W 0 (fun _=>true) true Tryz.f5.params.toList args.toList ds p:=hA0
  rw[Tryz.params5] at hA hval
  obtain⟨v0,d0,rfl,rfl,h0⟩:=trodAll_one hA
  obtain⟨rfl,rfl⟩:=trodVars_none hV
  have hT:=Jl hL
  have hPw:=O8 hL
  have hMx:=JO hSH
  simp only[dV] at hW'
  have hlt:∀x∈p,x.block<W.heap.size:=fun x hx=>by have:=hW'.lt x (by simpa using hx);simpa using this
  have h0k:=h0
  obtain⟨c0,rfl,z0⟩:=okWide_struct Tryz.underlying49 (hval 0 49 v0 rfl rfl)
  obtain⟨f0,hf0⟩:=h0
  obtain⟨k,c,n,data,u,v,ea⟩:=ML hf0
  have ea':(Value.agg c0)= .agg #[.int .i64 k,.int .i64 c,.string data,.int .i64 n,u,v]:=by
    have:c0.toList=_:=ea
    congr 1
    exact Fv this
  clear hA0 hval0 hval
  have hwk:=EI k c n data u v W ⟨hT,hMx,hPw⟩
  rw[<-ea'] at hwk
  refine hwk.mono fun e W' ⟨he,hb⟩=> ?_
  subst he
  refine⟨_,rfl,_,_,_,[],p,[],hW',?_,?_,rfl,hb.frame _,fun h=>by cases h⟩
  ·exact trodAll_mk1 (shut_bool eF true)
  ·exact trodAll_mk1 (Below.trod laid_out14 (by kernel_rfl) (bF (by kernel_rfl)) h0k hb hlt)

set_option maxRecDepth 100000 in
set_option maxHeartbeats 8000000 in
theorem EJ:Rows.WorldNoneSaid:=
  OpenClaim.holds_of_wide (p:=Tryz.pinned) (s:=Rows.worldNoneSpec) (c:=Rows.worldNoneRow) 5 Tryz.f5 (by as_aux_lemma=>kernel_rfl) (by as_aux_lemma=>kernel_rfl) (by as_aux_lemma=>kernel_rfl) (by as_aux_lemma=>kernel_rfl) (by as_aux_lemma=>kernel_rfl) (by as_aux_lemma=>kernel_rfl) (by as_aux_lemma=>kernel_rfl) ⟨(by as_aux_lemma=>kernel_rfl),(by as_aux_lemma=>kernel_rfl),(by as_aux_lemma=>kernel_rfl),(by as_aux_lemma=>kernel_rfl),(by as_aux_lemma=>kernel_rfl)⟩ (by as_aux_lemma=>kernel_rfl) (by as_aux_lemma=>kernel_rfl) (by as_aux_lemma=>kernel_rfl) (by as_aux_lemma=>kernel_rfl) (by as_aux_lemma=>kernel_rfl) (by as_aux_lemma=>kernel_rfl) Tryz.func5 j14
    (bF (by as_aux_lemma=>kernel_rfl)) (by unfold Func.isWrapper;first|(rw[if_pos (by as_aux_lemma=>decide+kernel)];as_aux_lemma=>kernel_rfl)|(rw[if_neg (by as_aux_lemma=>decide+kernel)];exact⟨rfl,rfl⟩))
    (fun os started H enc _=>wW os started H enc)
set_option maxRecDepth 100000 in
set_option maxHeartbeats 8000000 in
theorem wnone_holds:Rows.WorldNoneCardSaid:=
  Claim7.holds_tied_plain_at .later [] [.pinned,.data,.pinned,.sentinel,.sentinel,.data,.data,.data,.data,.data] true (true, "46ccc188bda37ae463570f5de8e491189e382c20b68c7864c4dd732a0b700e05") true
    EJ (fun _ h=>by cases h) cf_wf (fun _ h=>by cases h) worldNone_row_tie cf_start cf_nb cf_main cf_har
    (fun f fn hf hfn=>by
      obtain rfl:f=5:=dN (cf_named.symm.trans hf)|>.symm
      obtain rfl:fn=Tryz.f5:=(dN (Tryz.func5.symm.trans hfn)).symm
      exact⟨cf_looks,fun j t ht=>by
        rw[Tryz.params5] at ht
        have h3:t=49:=by
          rcases j with _|j
          ·simpa using ht.symm
          ·simp at ht
        subst h3
        exact cf_stand⟩)
    goes_law
#print axioms wnone_holds
end Go.Proofs.YtpmbddooibgnaaaGreatDoor
