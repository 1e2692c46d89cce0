/- VaultAgain: whatever the input, the call returns true; the input reads as it did. No condition. -/
import Derived.Test.YtogbkgmlhhahdaaGreatQA
import Derived.Deep.Slices
import Derived.Test.YtogbkgmlhhahdaaGreatRows
import Derived.ProofKit
import Derived.Lib.SmallJoins
set_option maxRecDepth 100000
set_option maxHeartbeats 8000000
set_option linter.all false
namespace Go.Proofs.YtogbkgmlhhahdaaGreat
open Go.RowKit Go.ChangeShapes Go.WideShapes Go.ChangeAt Go.Joins Go.Deep
theorem Eu:laidOutB Tryz.prog=true:=by kernel_rfl
theorem Na:ownKnob Tryz.prog.godebug=none:=by kernel_rfl
theorem RL {H:Type}{enc:TypeId×Value->H}{W:World}{fuel:Nat}{cs:List Value}{x:DataW H×List MemPlace}(h:DataW.trod enc Tryz.prog W 0 (fun _=>true) true fuel 60 cs=some x):
  ∃v ks,cs=[v]/\zw W fZ v ks:=by
 have hc1:Tryz.prog.cellsOf 4=1:=by kernel_rfl
 rcases open_slice1 Tryz.underlying60 hc1 h with ⟨rfl,_⟩|⟨a,len,cap,m,n,V,D,Pl,rfl,hb,hl,hm,hmm,rfl,hx⟩
 ·exact⟨_,[],rfl,zw.nil _ _⟩
 ·have hlm:len<=m:=by rw[hmm];simp;exact hl
  have each:∀i,i<len->∃b:Bool,(a.add i).spot=none/\W.cell? (a.add i)=some (.bool b):=fun i hi=>by
   obtain⟨h1,h2⟩:=hx i (by omega)
   obtain⟨b,e0,_⟩:=DataW.trod_bool uy h2
   simp at e0
   rw[e0] at h1
   exact⟨b,World.cell?_spot h1,h1⟩
  obtain⟨f,hf⟩:=choose_lt each
  refine⟨_,(List.range len).map f,rfl,some a,cap,by simp,by simpa using hl,hm,fun j hj=> ?_⟩
  simp at hj
  obtain⟨b,o,sp⟩:=a
  have hs:sp=none:=(hf 0 (by omega)).1
  subst hs
  obtain⟨_,g1⟩:=hf j hj
  rw[dY] at g1
  exact⟨b,o,rfl,by simpa using g1,id⟩
theorem Dx (os:Os)(started:os.Started)(H:Type)(enc:TypeId×Value->H):
  ReturnsInHanded {} Tryz.checked os 5 .any (Rows.vaultAgainSpec.pre6 enc Tryz.prog Tryz.f5 Rows.vaultAgainRow.domain false) (Rows.vaultAgainSpec.post enc Tryz.prog Tryz.f5 false true false false):=by
 refine returnsInHanded_of_change (C:=Tryz.checked) Na started (by kernel_rfl) Tryz.func5
  (ChangeSpec.witness6 (enc:=enc) (C:=Tryz.checked) false ⟨#[],#[.slice none 0 0,.slice none 0 0],[]⟩ 8 (by kernel_rfl) (by kernel_rfl) (by kernel_rfl) (by kernel_rfl)) ?_
 intro W base args ds gs before hval0 hW hcnd _
 have hval:∀(j:Nat) t v,Tryz.f5.params[j]? =some t->args[j]? =some v->Value.okWide Tryz.prog W .any base t v:=hval0
 have hW':=hW
 obtain⟨p,q,hA0,hV,rfl,hfz,hnd⟩:=hW
 have hA:DataW.TrodAll enc Tryz.prog W 0 (fun _=>true) true Tryz.f5.params.toList args.toList ds p:=hA0
 rw[Tryz.params5] at hA hval
 obtain⟨v0,v1,d0,d1,p0,p1,rfl,rfl,rfl,h0,h1⟩:=trodAll_two hA
 obtain⟨rfl,rfl⟩:=trodVars_none hV
 simp only[dJ] at hW'
 have hlt:∀x∈p0++p1,x.block<W.heap.size:=fun x hx=>by have:=hW'.lt x (by simpa using hx);simpa using this
 have h0k:=h0
 have h1k:=h1
 obtain⟨a0,len,cap,rfl⟩:=okWide_slice Tryz.underlying34 (hval 0 34 v0 rfl rfl)
 obtain⟨a1,len1,cap1,rfl⟩:=okWide_slice Tryz.underlying60 (hval 1 60 v1 rfl rfl)
 obtain⟨fuel,hf⟩:=h0
 obtain⟨v,ops,e1,hops,hwf,hsz⟩:=Hq (by simpa [Value.cells] using hf)
 simp at e1
 subst e1
 obtain⟨fuel1,hf1⟩:=h1
 obtain⟨v',ks,e2,hks⟩:=RL (by simpa [Value.cells] using hf1)
 simp at e2
 subst e2
 clear hA0 hval0
 refine(Gr _ _ ops ks W hops hks (fun o ho=>⟨(hwf o ho).1,(hwf o ho).2.1⟩) hsz).mono fun e W' ⟨he,hb⟩=> ?_
 subst he
 refine⟨_,rfl,_,_,_,[],p0++p1,[],hW',?_,?_,rfl,hb.frame _,fun h=>by cases h⟩
 ·exact trodAll_mk1 (shut_bool uy true)
 ·exact trodAll_mk2 (Below.trod Eu (by kernel_rfl) (je (by kernel_rfl)) h0k hb (fun x hx=>hlt x (dI _ hx))) (Below.trod Eu (by kernel_rfl) (je (by kernel_rfl)) h1k hb (fun x hx=>hlt x (dL _ hx)))
theorem vagain_holds:Rows.VaultAgainSaid:=
 OpenClaim.holds_of_wide (p:=Tryz.pinned) (s:=Rows.vaultAgainSpec) (c:=Rows.vaultAgainRow) 5 Tryz.f5 rfl rfl rfl rfl rfl rfl rfl ⟨rfl,rfl,rfl,rfl,rfl⟩ rfl rfl rfl rfl rfl (by kernel_rfl) Tryz.func5 (by kernel_rfl)
  (je (by kernel_rfl)) (by unfold Func.isWrapper;first|(rw[if_pos (by decide+kernel)];kernel_rfl)|(rw[if_neg (by decide+kernel)];exact⟨rfl,rfl⟩))
  (fun os started H enc _=>Dx os started H enc)
#print axioms vagain_holds
end Go.Proofs.YtogbkgmlhhahdaaGreat
