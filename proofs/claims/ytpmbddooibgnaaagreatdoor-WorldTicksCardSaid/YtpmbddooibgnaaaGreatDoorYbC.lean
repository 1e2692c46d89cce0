/- WorldTicks: whatever the arguments, the call returns true; the input reads as it did. -/
import Derived.Test.YtpmbddooibgnaaaGreatDoorYbPK
import Derived.Test.YtpmbddooibgnaaaGreatDoorYbK
import Derived.Test.YtpmbddooibgnaaaGreatDoorYbW
import Derived.Test.YtpmbddooibgnaaaGreatDoorYbJ
import Derived.Test.YtpmbddooibgnaaaGreatDoorRows
import Derived.Test.YtpmbddooibgnaaaGreatDoorCards
import Derived.Deep.Strs
import Derived.Lib.SmallJoins
import Derived.Lib.LaidU8T
import Derived.ProofKit
import Derived.LaidLaws
import Derived.Lay
import Derived.MakeChecks
import Derived.ChangeSame
import Derived.ChangeVars
import Derived.JoinedOf
import Derived.RowKitTokens
import Derived.Handed
import Derived.HandedShaped
import Derived.Shelf.Vars
set_option linter.all false
namespace Go.Proofs.YtpmbddooibgnaaaGreatDoor
open Go.RowKit Go.ChangeShapes Go.WideShapes Go.ChangeAt Go.Joins Go.Deep Go.Shelf Go.Lib

set_option maxRecDepth 100000 in
set_option maxHeartbeats 2000000 in
theorem wW (os:Os)(started:os.Started)(H:Type)(enc:TypeId×Value->H):
    ReturnsInHanded {} Tryz.checked os 4 .any (fun w args=>(Rows.worldTicksSpec.pre enc Tryz.prog Tryz.f4 [] false w args/\laidMetH Tryz.prog Rows.worldTicksRow.laid w)/\sizedMet enc Tryz.prog Tryz.f4 (OpenSpec.ofChange Rows.worldTicksSpec) false w args)
      (Rows.worldTicksSpec.post enc Tryz.prog Tryz.f4 false true false false):=by
  refine oh (C:=Tryz.checked) (X:=fun w _=>laidMetH Tryz.prog Rows.worldTicksRow.laid w) (fun _ _ _ hh h=>h.of_heap hh) own_none14 started (by kernel_rfl) Tryz.func4
    (ChangeSpec.witness_shaped (enc:=enc) (C:=Tryz.checked) (os:=os) (X:=fun w _=>laidMetH Tryz.prog Rows.worldTicksRow.laid w) false (World.laidAll Tryz.prog os Rows.worldTicksRow.laid) args14 8 (World.laidAll_os _ _ _)
      (World.shaped_of_ZipB (wit1 os) (wit2 os)) (wit3 os) (wit4 os enc) (wit5 os enc)
      (wit8 os _)) ?_
  intro W base args ds gs before hval0 hW _ _ hL hSH _
  have hval:∀(j:Nat) t v,Tryz.f4.params[j]? =some t->args[j]? =some v->Value.okWide Tryz.prog W .any base t v:=hval0
  have hW':=hW
  obtain⟨p,q,hA0,hV,rfl,hfz,hnd⟩:=hW
  have hA:DataW.TrodAll enc Tryz.prog W 0 (fun _=>true) true Tryz.f4.params.toList args.toList ds p:=hA0
  rw[Tryz.params4] at hA hval
  obtain⟨v0,v1,d0,d1,p0,p1,rfl,rfl,rfl,h0,h1⟩:=trodAll_two hA
  obtain⟨rfl,rfl⟩:=trodVars_none hV
  have hT:=Jl hL
  have hPw:=O8 hL
  have hMx:=JO hSH
  simp only[dV] at hW'
  have hlt:∀x∈p0++p1,x.block<W.heap.size:=fun x hx=>by have:=hW'.lt x (by simpa using hx);simpa using this
  have hlt0:∀x∈p0,x.block<W.heap.size:=fun x hx=>hlt x (dH _ hx)
  have hlt1:∀x∈p1,x.block<W.heap.size:=fun x hx=>hlt x (cB _ hx)
  have h0k:=h0
  have h1k:=h1
  obtain⟨a0,l0,c0,rfl⟩:=okWide_slice dR (hval 0 39 v0 rfl rfl)
  obtain⟨b1,rfl⟩:=okWide_bool eF (hval 1 4 v1 rfl rfl)
  obtain⟨f0,hf0⟩:=h0
  obtain⟨no,nc,ns,ea,hn⟩:=MO hf0
  have ea':Value.slice a0 l0 c0= .slice no ns.length nc:=by simpa [Value.cells] using ea
  clear hA0 hval0 hval
  have hwk:=EI no nc ns b1 W hn ⟨hT,hMx,hPw⟩
  rw[<-ea'] at hwk
  refine hwk.mono fun e W' ⟨he,hb⟩=> ?_
  subst he
  refine⟨_,rfl,_,_,_,[],p0++p1,[],hW',?_,?_,rfl,hb.frame _,fun h=>by cases h⟩
  ·exact trodAll_mk1 (shut_bool eF true)
  ·exact trodAll_mk2 (Below.trod laid_out14 (by kernel_rfl) (bF (by kernel_rfl)) h0k hb hlt0) (Below.trod laid_out14 (by kernel_rfl) (bF (by kernel_rfl)) h1k hb hlt1)

set_option maxRecDepth 100000 in
set_option maxHeartbeats 8000000 in
theorem EJ:Rows.WorldTicksSaid:=
  OpenClaim.holds_of_wide (p:=Tryz.pinned) (s:=Rows.worldTicksSpec) (c:=Rows.worldTicksRow) 4 Tryz.f4 (by as_aux_lemma=>kernel_rfl) (by as_aux_lemma=>kernel_rfl) (by as_aux_lemma=>kernel_rfl) (by as_aux_lemma=>kernel_rfl) (by as_aux_lemma=>kernel_rfl) (by as_aux_lemma=>kernel_rfl) (by as_aux_lemma=>kernel_rfl) ⟨(by as_aux_lemma=>kernel_rfl),(by as_aux_lemma=>kernel_rfl),(by as_aux_lemma=>kernel_rfl),(by as_aux_lemma=>kernel_rfl),(by as_aux_lemma=>kernel_rfl)⟩ (by as_aux_lemma=>kernel_rfl) (by as_aux_lemma=>kernel_rfl) (by as_aux_lemma=>kernel_rfl) (by as_aux_lemma=>kernel_rfl) (by as_aux_lemma=>kernel_rfl) (by as_aux_lemma=>kernel_rfl) Tryz.func4 j14
    (bF (by as_aux_lemma=>kernel_rfl)) (by unfold Func.isWrapper;first|(rw[if_pos (by as_aux_lemma=>decide+kernel)];as_aux_lemma=>kernel_rfl)|(rw[if_neg (by as_aux_lemma=>decide+kernel)];exact⟨rfl,rfl⟩))
    (fun os started H enc _=>wW os started H enc)
set_option maxRecDepth 100000 in
set_option maxHeartbeats 8000000 in
theorem wticks_holds:Rows.WorldTicksCardSaid:=
  Claim7.holds_tied_plain_at .later [] [.pinned,.data,.pinned,.sentinel,.sentinel,.data,.data,.data,.data,.data] true (true, "46ccc188bda37ae463570f5de8e491189e382c20b68c7864c4dd732a0b700e05") true
    EJ (fun _ h=>by cases h) cf_wf (fun _ h=>by cases h) worldTicks_row_tie cf_start cf_nb cf_main cf_har
    (fun f fn hf hfn=>by
      obtain rfl:f=4:=dN (cf_named.symm.trans hf)|>.symm
      obtain rfl:fn=Tryz.f4:=(dN (Tryz.func4.symm.trans hfn)).symm
      exact⟨cf_looks,fun j t ht=>by
        rw[Tryz.params4] at ht
        have h3:t=39 ∨ t=4:=by
          rcases j with _|_|j
          ·exact .inl (by simpa using ht.symm)
          ·exact .inr (by simpa using ht.symm)
          ·simp at ht
        exact h3.elim (fun e=>by rw[e];exact cf_stand1) (fun e=>by rw[e];exact cf_stand2)⟩)
    goes_law
#print axioms wticks_holds
end Go.Proofs.YtpmbddooibgnaaaGreatDoor
