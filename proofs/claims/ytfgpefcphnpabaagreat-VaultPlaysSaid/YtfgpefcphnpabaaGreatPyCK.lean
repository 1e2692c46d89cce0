/- VaultPlays: whatever the input, the call returns true; the input reads as it did. No condition. -/
import Derived.Test.YtfgpefcphnpabaaGreatJ26
import Derived.Test.YtfgpefcphnpabaaGreatRows
import Derived.ProofKit
import Derived.Lib.SmallJoins
namespace Go.Proofs.YtfgpefcphnpabaaGreat
open Go.RowKit Go.ChangeShapes Go.WideShapes Go.ChangeAt Go.Joins
set_option maxRecDepth 100000
set_option maxHeartbeats 8000000
set_option linter.all false
theorem Cj:laidOutB Tryz.prog=true:=by kernel_rfl
theorem Kh:ownKnob Tryz.prog.godebug=none:=by kernel_rfl
theorem Bp (os:Os) (started:os.Started) (H:Type) (enc:TypeId×Value→H):
  ReturnsInHanded {} Tryz.checked os 4 .any (Rows.vaultPlaysSpec.pre6 enc Tryz.prog Tryz.f4 Rows.vaultPlaysRow.domain false) (Rows.vaultPlaysSpec.post enc Tryz.prog Tryz.f4 false true false false):=by
 refine returnsInHanded_of_change (C:=Tryz.checked) Kh started (by kernel_rfl) Tryz.func4
  (ChangeSpec.witness6 (enc:=enc) (C:=Tryz.checked) false ⟨#[],#[.agg #[.int .u16 0,.int .u16 0],.slice none 0 0],[]⟩ 8 (by kernel_rfl) (by kernel_rfl) (by kernel_rfl) (by kernel_rfl)) ?_
 intro W base args ds gs before hval0 hW hcnd _
 have hval:∀(j:Nat) t v,Tryz.f4.params[j]? =some t→args[j]? =some v→Value.okWide Tryz.prog W .any base t v:=hval0
 have hW':=hW
 obtain⟨p,q,hA0,hV,rfl,hfz,hnd⟩:=hW
 have hA:DataW.TrodAll enc Tryz.prog W 0 (fun _=>true) true Tryz.f4.params.toList args.toList ds p:=hA0
 rw[Tryz.params4] at hA hval
 obtain⟨v0,v1,d0,d1,p0,p1,rfl,rfl,rfl,h0,h1⟩:=trodAll_two hA
 obtain⟨rfl,rfl⟩:=trodVars_none hV
 simp only[dF] at hW'
 have hlt:∀x∈p0++p1,x.block<W.heap.size:=fun x hx=>by have:=hW'.lt x (by simpa using hx);simpa using this
 have h0k:=h0
 have h1k:=h1
 obtain⟨c0,c1,y0,y1,m,rfl,rfl,rfl,hy0,hy1⟩:=open_agg2 Tryz.underlying51 (by kernel_rfl) (by kernel_rfl) (hval 0 51 v0 rfl rfl) h0
 obtain⟨z0,e0,_,w0⟩:=NP Tryz.underlying22 hy0
 obtain⟨z1,e1,_,w1⟩:=NP Tryz.underlying22 hy1
 simp at e0 e1
 subst e0 e1
 have hz:∀z:Int,(Lit.int .u16 z).wf=true→0≤z∧z≤65535:=fun z wz=>by
  simp only[Lit.wf,dO,dZ] at wz
  exact⟨xk (by decide) wz.1,xk wz.2 (by decide)⟩
 obtain⟨a0,len,cap,rfl⟩:=okWide_slice Tryz.underlying52 (hval 1 52 v1 rfl rfl)
 obtain⟨fuel,hf⟩:=h1
 obtain⟨v,ops,e1,hops,hwf,hsz⟩:=Mv (by simpa [Value.cells] using hf)
 simp at e1
 subst e1
 clear hA0 hval0
 refine(Em z0 z1 _ ops W (hz z0 w0) (hz z1 w1) hops (fun o ho=>⟨(hwf o ho).1,(hwf o ho).2.1⟩) hsz).mono fun e W' ⟨he,hb⟩=> ?_
 subst he
 refine⟨_,rfl,_,_,_,[],(y0.2++y1.2)++p1,[],hW',?_,?_,rfl,hb.frame _,fun h=>by cases h⟩
 ·exact trodAll_mk1 (shut_bool Tryz.underlying4 true)
 ·exact trodAll_mk2 (Below.trod Cj (by kernel_rfl) (jF (by kernel_rfl)) h0k hb (fun x hx=>hlt x (bW _ hx))) (Below.trod Cj (by kernel_rfl) (jF (by kernel_rfl)) h1k hb (fun x hx=>hlt x (bQ _ hx)))
theorem vplays_holds:Rows.VaultPlaysSaid:=
 OpenClaim.holds_of_wide (p:=Tryz.pinned) (s:=Rows.vaultPlaysSpec) (c:=Rows.vaultPlaysRow) 4 Tryz.f4 rfl rfl rfl rfl rfl rfl rfl ⟨rfl,rfl,rfl,rfl,rfl⟩ rfl rfl rfl rfl rfl (by kernel_rfl) Tryz.func4 (by kernel_rfl)
  (jF (by kernel_rfl)) (by unfold Func.isWrapper;first|(rw[if_pos (by decide+kernel)];kernel_rfl)|(rw[if_neg (by decide+kernel)];exact⟨rfl,rfl⟩))
  (fun os started H enc _=>Bp os started H enc)
#print axioms vplays_holds
end Go.Proofs.YtfgpefcphnpabaaGreat
