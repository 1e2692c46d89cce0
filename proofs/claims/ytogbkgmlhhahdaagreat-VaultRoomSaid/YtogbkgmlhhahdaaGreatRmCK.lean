/- VaultRoom: whatever the input, the call returns true; the input reads as it did. No condition. -/
import Derived.Test.YtogbkgmlhhahdaaGreatQR
import Derived.Test.YtogbkgmlhhahdaaGreatRows
import Derived.ProofKit
import Derived.Lib.SmallJoins
set_option maxRecDepth 100000
set_option maxHeartbeats 8000000
set_option linter.all false
namespace Go.Proofs.YtogbkgmlhhahdaaGreat
open Go.RowKit Go.ChangeShapes Go.WideShapes Go.ChangeAt Go.Joins Go.Deep
theorem Nq:laidOutB Tryz.prog=true:=by kernel_rfl
theorem M9:ownKnob Tryz.prog.godebug=none:=by kernel_rfl
theorem ES (os:Os)(started:os.Started)(H:Type)(enc:TypeId×Value->H):
  ReturnsInHanded {} Tryz.checked os 4 .any (Rows.vaultRoomSpec.pre6 enc Tryz.prog Tryz.f4 Rows.vaultRoomRow.domain false) (Rows.vaultRoomSpec.post enc Tryz.prog Tryz.f4 false true false false):=by
 refine returnsInHanded_of_change (C:=Tryz.checked) M9 started (by kernel_rfl) Tryz.func4
  (ChangeSpec.witness6 (enc:=enc) (C:=Tryz.checked) false ⟨#[],#[.slice none 0 0],[]⟩ 8 (by kernel_rfl) (by kernel_rfl) (by kernel_rfl) (by kernel_rfl)) ?_
 intro W base args ds gs before hval0 hW hcnd _
 have hval:∀(j:Nat) t v,Tryz.f4.params[j]? =some t->args[j]? =some v->Value.okWide Tryz.prog W .any base t v:=hval0
 have hW':=hW
 obtain⟨p,q,hA0,hV,rfl,hfz,hnd⟩:=hW
 have hA:DataW.TrodAll enc Tryz.prog W 0 (fun _=>true) true Tryz.f4.params.toList args.toList ds p:=hA0
 rw[Tryz.params4] at hA hval
 obtain⟨v0,d0,rfl,rfl,h0⟩:=trodAll_one hA
 obtain⟨rfl,rfl⟩:=trodVars_none hV
 simp only[dJ] at hW'
 have hlt:∀x∈p,x.block<W.heap.size:=fun x hx=>by have:=hW'.lt x (by simpa using hx);simpa using this
 have h0k:=h0
 obtain⟨a0,len,cap,rfl⟩:=okWide_slice Tryz.underlying34 (hval 0 34 v0 rfl rfl)
 obtain⟨fuel,hf⟩:=h0
 obtain⟨v,ops,e1,hops,hwf,hsz⟩:=Hq (by simpa [Value.cells] using hf)
 simp at e1
 subst e1
 clear hA0 hval0
 refine(JH _ ops W hops hsz).mono fun e W' ⟨he,hb⟩=> ?_
 subst he
 refine⟨_,rfl,_,_,_,[],p,[],hW',?_,?_,rfl,hb.frame _,fun h=>by cases h⟩
 ·exact trodAll_mk1 (shut_bool uy true)
 ·exact trodAll_mk1 (Below.trod Nq (by kernel_rfl) (je (by kernel_rfl)) h0k hb hlt)
theorem vroom_holds:Rows.VaultRoomSaid:=
 OpenClaim.holds_of_wide (p:=Tryz.pinned) (s:=Rows.vaultRoomSpec) (c:=Rows.vaultRoomRow) 4 Tryz.f4 rfl rfl rfl rfl rfl rfl rfl ⟨rfl,rfl,rfl,rfl,rfl⟩ rfl rfl rfl rfl rfl (by kernel_rfl) Tryz.func4 (by kernel_rfl)
  (je (by kernel_rfl)) (by unfold Func.isWrapper;first|(rw[if_pos (by decide+kernel)];kernel_rfl)|(rw[if_neg (by decide+kernel)];exact⟨rfl,rfl⟩))
  (fun os started H enc _=>ES os started H enc)
#print axioms vroom_holds
end Go.Proofs.YtogbkgmlhhahdaaGreat
