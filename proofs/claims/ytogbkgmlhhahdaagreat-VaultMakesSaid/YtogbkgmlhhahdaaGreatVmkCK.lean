/- VaultMakes: whatever the input, the call returns true; the input reads as it did. No condition. -/
import Derived.Test.YtogbkgmlhhahdaaGreatPV
import Derived.Test.YtogbkgmlhhahdaaGreatRows
import Derived.ProofKit
import Derived.Lib.SmallJoins
set_option maxRecDepth 100000
set_option maxHeartbeats 8000000
set_option linter.all false
namespace Go.Proofs.YtogbkgmlhhahdaaGreat
open Go.RowKit Go.ChangeShapes Go.WideShapes Go.ChangeAt Go.Joins
theorem C8:laidOutB Tryz.prog=true:=by kernel_rfl
theorem KH:ownKnob Tryz.prog.godebug=none:=by kernel_rfl
theorem Ca (os:Os)(started:os.Started)(H:Type)(enc:TypeId×Value->H):
  ReturnsInHanded {} Tryz.checked os 3 .any (Rows.vaultMakesSpec.pre6 enc Tryz.prog Tryz.f3 Rows.vaultMakesRow.domain false) (Rows.vaultMakesSpec.post enc Tryz.prog Tryz.f3 false true false false):=by
 refine returnsInHanded_of_change (C:=Tryz.checked) KH started (by kernel_rfl) Tryz.func3
  (ChangeSpec.witness6 (enc:=enc) (C:=Tryz.checked) false ⟨#[],#[.int .u8 0,.int .i64 0],[]⟩ 8 (by kernel_rfl) (by kernel_rfl) (by kernel_rfl) (by kernel_rfl)) ?_
 intro W base args ds gs before hval0 hW hcnd _
 have hval:∀(j:Nat) t v,Tryz.f3.params[j]? =some t->args[j]? =some v->Value.okWide Tryz.prog W .any base t v:=hval0
 have hW':=hW
 obtain⟨p,q,hA0,hV,rfl,hfz,hnd⟩:=hW
 have hA:DataW.TrodAll enc Tryz.prog W 0 (fun _=>true) true Tryz.f3.params.toList args.toList ds p:=hA0
 rw[Tryz.params3] at hA hval
 obtain⟨v0,v1,d0,d1,p0,p1,rfl,rfl,rfl,h0,h1⟩:=trodAll_two hA
 obtain⟨rfl,rfl⟩:=trodVars_none hV
 simp only[dQ] at hW'
 have hlt:∀x∈p0++p1,x.block<W.heap.size:=fun x hx=>by have:=hW'.lt x (by simpa using hx);simpa using this
 have h0k:=h0
 have h1k:=h1
 obtain⟨z0,rfl,rfl,rfl,w0⟩:=open_int mE (hval 0 5 v0 rfl rfl) h0
 obtain⟨z1,rfl,rfl,rfl,w1⟩:=open_int iR (hval 1 3 v1 rfl rfl) h1
 have hz0:0<=z0/\z0<256:=by
  simp only[Lit.wf,dB,eF] at w0
  exact⟨EC (by decide) w0.1,Int.lt_of_le_of_lt w0.2 (by decide)⟩
 have hz1: -9223372036854775808<=z1/\z1<=9223372036854775807:=by
  simp only[Lit.wf,dB,eF] at w1
  exact⟨EC (by decide) w1.1,EC w1.2 (by decide)⟩
 clear hA0 hval0
 refine(EM z0 z1 hz0 hz1 W).mono fun e W' ⟨he,hb⟩=> ?_
 subst he
 refine⟨_,rfl,_,_,_,[],[]++[],[],hW',?_,?_,rfl,hb.frame _,fun h=>by cases h⟩
 ·exact trodAll_mk1 (shut_bool Oi true)
 ·exact trodAll_mk2 (Below.trod C8 (by kernel_rfl) (jH (by kernel_rfl)) h0k hb (fun x hx=>hlt x (dz _ hx))) (Below.trod C8 (by kernel_rfl) (jH (by kernel_rfl)) h1k hb (fun x hx=>hlt x (dJ _ hx)))
theorem vmakes_holds:Rows.VaultMakesSaid:=
 OpenClaim.holds_of_wide (p:=Tryz.pinned) (s:=Rows.vaultMakesSpec) (c:=Rows.vaultMakesRow) 3 Tryz.f3 rfl rfl rfl rfl rfl rfl rfl ⟨rfl,rfl,rfl,rfl,rfl⟩ rfl rfl rfl rfl rfl (by kernel_rfl) Tryz.func3 (by kernel_rfl)
  (jH (by kernel_rfl)) (by unfold Func.isWrapper;first|(rw[if_pos (by decide+kernel)];kernel_rfl)|(rw[if_neg (by decide+kernel)];exact⟨rfl,rfl⟩))
  (fun os started H enc _=>Ca os started H enc)
#print axioms vmakes_holds
end Go.Proofs.YtogbkgmlhhahdaaGreat
