/- ServeNone: whatever the operation, the call returns true; the input reads as it did. -/
import Derived.Test.YtpmbddooibgnaaaGreatDoorSnPK
import Derived.Test.YtpmbddooibgnaaaGreatDoorSnT
import Derived.Test.YtpmbddooibgnaaaGreatDoorSnK
import Derived.Test.YtpmbddooibgnaaaGreatDoorSnG
import Derived.Test.YtpmbddooibgnaaaGreatDoorSnW
import Derived.Test.YtpmbddooibgnaaaGreatDoorSnJ
import Derived.Test.YtpmbddooibgnaaaGreatDoorRows
import Derived.Test.YtpmbddooibgnaaaGreatDoorCards
import Derived.Deep.Strs
import Derived.Lib.SmallJoins
import Derived.Lib.LaidU8T
import Derived.ProofKit
import Derived.LaidLaws
import Derived.Lay
import Derived.MakeChecks
import Derived.ChangeSame
import Derived.ChangeVars
import Derived.JoinedOf
import Derived.RowKitTokens
import Derived.Handed
import Derived.HandedShaped
import Derived.Shelf.Vars
set_option linter.all false
namespace Go.Proofs.YtpmbddooibgnaaaGreatDoor
open Go.RowKit Go.ChangeShapes Go.WideShapes Go.ChangeAt Go.Joins Go.Deep Go.Shelf Go.Lib

set_option maxRecDepth 100000 in
set_option maxHeartbeats 2000000 in
theorem BV (os:Os)(started:os.Started)(H:Type)(enc:TypeId×Value->H):
    ReturnsInHanded {} Tryz.checked os 3 .any (fun w args=>(Rows.serveNoneSpec.pre enc Tryz.prog Tryz.f3 [] false w args/\laidMetH Tryz.prog Rows.serveNoneRow.laid w)/\sizedMet enc Tryz.prog Tryz.f3 (OpenSpec.ofChange Rows.serveNoneSpec) false w args)
      (Rows.serveNoneSpec.post enc Tryz.prog Tryz.f3 false true false false):=by
  refine vG (C:=Tryz.checked) (X:=fun w _=>laidMetH Tryz.prog Rows.serveNoneRow.laid w) (fun _ _ _ hh h=>h.of_heap hh) own_none14 started (by kernel_rfl) Tryz.func3
    (ChangeSpec.witness_shaped (enc:=enc) (C:=Tryz.checked) (os:=os) (X:=fun w _=>laidMetH Tryz.prog Rows.serveNoneRow.laid w) false (World.laidAll Tryz.prog os Rows.serveNoneRow.laid) args14 8 (World.laidAll_os _ _ _)
      (World.shaped_of_ZipB (wit1 os) (wit2 os)) (wit3 os) (wit4 os enc) (wit5 os enc)
      (wit8 os _)) ?_
  intro W base args ds gs before hval0 hW _ _ hL hSH _
  have hval:∀(j:Nat) t v,Tryz.f3.params[j]? =some t->args[j]? =some v->Value.okWide Tryz.prog W .any base t v:=hval0
  have hW':=hW
  obtain⟨p,q,hA0,hV,rfl,hfz,hnd⟩:=hW
  have hA:DataW.TrodAll enc Tryz.prog W 0 (fun _=>true) true Tryz.f3.params.toList args.toList ds p:=hA0
  rw[Tryz.params3] at hA hval
  obtain⟨v0,d0,rfl,rfl,h0⟩:=trodAll_one hA
  obtain⟨rfl,rfl⟩:=trodVars_none hV
  have hT:=Qu hL
  have hPw:=Sn hL
  have hMx:=Q5 hSH
  simp only[fV] at hW'
  have hlt:∀x∈p,x.block<W.heap.size:=fun x hx=>by have:=hW'.lt x (by simpa using hx);simpa using this
  have h0k:=h0
  obtain⟨c0,rfl,z0⟩:=okWide_struct Tryz.underlying23 (hval 0 23 v0 rfl rfl)
  obtain⟨f0,hf0⟩:=h0
  obtain⟨kd,cn,nw,data,draw,ea⟩:=JM hf0
  have ea':(Value.agg c0)= .agg #[.int .u8 kd,.int .i64 cn,.string data,.string draw,.int .u8 nw]:=by
    have:c0.toList=_:=ea
    congr 1
    exact Nv this
  clear hA0 hval0 hval
  have hwk:=Jq kd cn nw data draw W hT hMx hPw
  rw[<-ea'] at hwk
  refine hwk.mono fun e W' ⟨he,hb⟩=> ?_
  subst he
  refine⟨_,rfl,_,_,_,[],p,[],hW',?_,?_,rfl,hb.frame _,fun h=>by cases h⟩
  ·exact trodAll_mk1 (shut_bool dV true)
  ·exact trodAll_mk1 (Below.trod laid_out14 (by kernel_rfl) (aR (by kernel_rfl)) h0k hb hlt)

set_option maxRecDepth 100000 in
set_option maxHeartbeats 8000000 in
theorem Jr:Rows.ServeNoneSaid:=
  OpenClaim.holds_of_wide (p:=Tryz.pinned) (s:=Rows.serveNoneSpec) (c:=Rows.serveNoneRow) 3 Tryz.f3 (by as_aux_lemma=>kernel_rfl) (by as_aux_lemma=>kernel_rfl) (by as_aux_lemma=>kernel_rfl) (by as_aux_lemma=>kernel_rfl) (by as_aux_lemma=>kernel_rfl) (by as_aux_lemma=>kernel_rfl) (by as_aux_lemma=>kernel_rfl) ⟨(by as_aux_lemma=>kernel_rfl),(by as_aux_lemma=>kernel_rfl),(by as_aux_lemma=>kernel_rfl),(by as_aux_lemma=>kernel_rfl),(by as_aux_lemma=>kernel_rfl)⟩ (by as_aux_lemma=>kernel_rfl) (by as_aux_lemma=>kernel_rfl) (by as_aux_lemma=>kernel_rfl) (by as_aux_lemma=>kernel_rfl) (by as_aux_lemma=>kernel_rfl) (by as_aux_lemma=>kernel_rfl) Tryz.func3 j14
    (aR (by as_aux_lemma=>kernel_rfl)) (by unfold Func.isWrapper;first|(rw[if_pos (by as_aux_lemma=>decide+kernel)];as_aux_lemma=>kernel_rfl)|(rw[if_neg (by as_aux_lemma=>decide+kernel)];exact⟨rfl,rfl⟩))
    (fun os started H enc _=>BV os started H enc)
set_option maxRecDepth 100000 in
set_option maxHeartbeats 8000000 in
theorem snone_holds:Rows.ServeNoneCardSaid:=
  Claim7.holds_tied_plain_at .later [] [.pinned,.data,.pinned,.sentinel,.sentinel,.data,.data,.data,.data,.data] true (true, "46ccc188bda37ae463570f5de8e491189e382c20b68c7864c4dd732a0b700e05") true
    Jr (fun _ h=>by cases h) cf_wf (fun _ h=>by cases h) serveNone_row_tie cf_start cf_nb cf_main cf_har
    (fun f fn hf hfn=>by
      obtain rfl:f=3:=fU (cf_named.symm.trans hf)|>.symm
      obtain rfl:fn=Tryz.f3:=(fU (Tryz.func3.symm.trans hfn)).symm
      exact⟨cf_looks,fun j t ht=>by
        rw[Tryz.params3] at ht
        have h3:t=23:=by
          rcases j with _|j
          ·simpa using ht.symm
          ·simp at ht
        subst h3
        exact cf_stand⟩)
    goes_serve
#print axioms snone_holds
end Go.Proofs.YtpmbddooibgnaaaGreatDoor
