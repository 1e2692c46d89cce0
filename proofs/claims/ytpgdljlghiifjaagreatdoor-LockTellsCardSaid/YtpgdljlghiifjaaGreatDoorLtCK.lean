/- LockTells: whatever the input, the call returns true; the input reads as it did. -/
import Derived.Test.YtpgdljlghiifjaaGreatDoorMT
import Derived.Test.YtpgdljlghiifjaaGreatDoorTie
import Derived.Test.YtpgdljlghiifjaaGreatDoorCards
import Derived.ChangeSame
import Derived.ChangeVars
import Derived.JoinedOf
import Derived.RowKitTokens
import Derived.Handed
import Derived.Carry
set_option maxRecDepth 100000
set_option maxHeartbeats 8000000
set_option linter.all false
namespace Go.Proofs.YtpgdljlghiifjaaGreatDoor
open Go.RowKit Go.ChangeShapes Go.WideShapes Go.ChangeAt Go.Joins
theorem Eh (os:Os)(started:os.Started)(H:Type)(enc:TypeId×Value->H):
  ReturnsInHanded {} Tryz.checked os 3 .any (fun w args=>(Rows.lockTellsSpec.pre enc Tryz.prog Tryz.f3 [] false w args/\laidMetH Tryz.prog Rows.lockTellsRow.laid w)/\sizedMet enc Tryz.prog Tryz.f3 (OpenSpec.ofChange Rows.lockTellsSpec) false w args)
   (Rows.lockTellsSpec.post enc Tryz.prog Tryz.f3 false true false false):=by
 refine returnsInHanded_of_change_and (C:=Tryz.checked) (X:=fun w _=>laidMetH Tryz.prog Rows.lockTellsRow.laid w) (fun _ _ _ hh h=>h.of_heap hh) Dp started (by kernel_rfl) Tryz.func3
  (ChangeSpec.witness_at (enc:=enc) (C:=Tryz.checked) (os:=os) (X:=fun w _=>laidMetH Tryz.prog Rows.lockTellsRow.laid w) false (vO os) #[.agg #[.string ⟨#[]⟩,.slice none 0 0,.bool false,.bool false,.string ⟨#[]⟩,.int .i64 0],.agg #[.string ⟨#[]⟩,.slice none 0 0,.bool false,.bool false,.string ⟨#[]⟩,.int .i64 0],.slice none 0 0,.slice none 0 0] 8 rfl (by kernel_rfl) (by kernel_rfl) (by kernel_rfl) (by kernel_rfl) (by kernel_rfl) (Gr os _)) ?_
 intro W base args ds gs before hval0 hW _ _ hL _
 have hval:∀(j:Nat) t v,Tryz.f3.params[j]? =some t->args[j]? =some v->Value.okWide Tryz.prog W .any base t v:=hval0
 have hW':=hW
 obtain⟨p,q,hA0,hV,rfl,hfz,hnd⟩:=hW
 have hA:DataW.TrodAll enc Tryz.prog W 0 (fun _=>true) true Tryz.f3.params.toList args.toList ds p:=hA0
 rw[Tryz.params3] at hA hval
 obtain⟨v0,v1,v2,v3,d0,d1,d2,d3,p0,p1,p2,p3,rfl,rfl,rfl,h0,h1,h2,h3⟩:=trodAll_four hA
 obtain⟨rfl,rfl⟩:=trodVars_none hV
 have hT:=Ke rfl hL
 simp only[dS] at hW'
 have hlt:∀x∈p0++p1++p2++p3,x.block<W.heap.size:=fun x hx=>by have:=hW'.lt x (by simpa using hx);simpa using this
 have h0k:=h0
 have h1k:=h1
 have h2k:=h2
 have h3k:=h3
 obtain⟨c0,rfl,z0⟩:=okWide_struct ou (hval 0 24 v0 rfl rfl)
 obtain⟨c1,rfl,z1⟩:=okWide_struct ou (hval 1 24 v1 rfl rfl)
 obtain⟨a2,len2,cap2,rfl⟩:=okWide_slice aY (hval 2 22 v2 rfl rfl)
 obtain⟨a3,len3,cap3,rfl⟩:=okWide_slice aY (hval 3 22 v3 rfl rfl)
 obtain⟨f0,hf0⟩:=h0
 obtain⟨f1,hf1⟩:=h1
 obtain⟨f2,hf2⟩:=h2
 obtain⟨f3,hf3⟩:=h3
 obtain⟨a,av,ea,hpa,hsa,hta⟩:=vK hf0
 obtain⟨b,bv,eb,hpb,hsb,htb⟩:=vK hf1
 have hf2':DataW.trod enc Tryz.prog W 0 (fun _=>true) true f2 22 [.slice a2 len2 cap2]=some (d2,p2):=by simpa [Value.cells] using hf2
 have hf3':DataW.trod enc Tryz.prog W 0 (fun _=>true) true f3 22 [.slice a3 len3 cap3]=some (d3,p3):=by simpa [Value.cells] using hf3
 obtain⟨mv,path,em,hpm,_⟩:=vJ hf2'
 obtain⟨nv,tokens,en,hpn,_⟩:=vJ hf3'
 simp at em en
 subst em en
 have ea':(Value.agg c0)=p8 a av:=by
  have:c0.toList=_:=ea
  unfold p8
  congr 1
  exact pV this
 have eb':(Value.agg c1)=p8 b bv:=by
  have:c1.toList=_:=eb
  unfold p8
  congr 1
  exact pV this
 clear hA0 hval0 hval
 have hwk:=IQ a b av bv _ _ path tokens _ _ _ _ W hpa hpb hpm hpn hsa hT
 rw[<-ea',<-eb'] at hwk
 refine hwk.mono fun e W' ⟨he,hb⟩=> ?_
 subst he
 rw[aN,aN] at hW'
 refine⟨_,rfl,_,_,_,[],p0++(p1++(p2++p3)),[],hW',?_,?_,rfl,hb.frame _,fun h=>by cases h⟩
 ·exact trodAll_mk1 (shut_bool jV true)
 ·exact trodAll_mk4 (IA oN (by kernel_rfl) (fG (by kernel_rfl)) h0k hb (fun x hx=>hlt x (by simp[hx]))) (IA oN (by kernel_rfl) (fG (by kernel_rfl)) h1k hb (fun x hx=>hlt x (by simp[hx]))) (IA oN (by kernel_rfl) (fG (by kernel_rfl)) h2k hb (fun x hx=>hlt x (by simp[hx]))) (IA oN (by kernel_rfl) (fG (by kernel_rfl)) h3k hb (fun x hx=>hlt x (by simp[hx])))
theorem Js:Rows.LockTellsSaid:=
 OpenClaim.holds_of_wide (p:=Tryz.pinned) (s:=Rows.lockTellsSpec) (c:=Rows.lockTellsRow) 3 Tryz.f3 rfl rfl rfl rfl rfl rfl rfl ⟨rfl,rfl,rfl,rfl,rfl⟩ rfl rfl rfl rfl rfl (by kernel_rfl) Tryz.func3 (by kernel_rfl)
  (fG (by kernel_rfl)) (by unfold Func.isWrapper;first|(rw[if_pos (by decide+kernel)];kernel_rfl)|(rw[if_neg (by decide+kernel)];exact⟨rfl,rfl⟩))
  (fun os started H enc _=>Eh os started H enc)
theorem ltells_holds:Rows.LockTellsCardSaid:=
 Claim7.holds_tied_plain_at .later [] [.data,.pinned] true (true, "f04ccda6b4cdaaf0c5d83bfc1f7fefa9d64facaa6ada9e745412eea37d69438a") true
  Js (fun _ h=>by cases h) (by kernel_rfl) (fun _ h=>by cases h) lockTells_row_tie rfl ⟨rfl,rfl⟩ (by kernel_rfl) rfl
  (fun f fn hf hfn=>by
   obtain rfl:f=3:=iB ((show Tryz.prog.funcNamed "docket/docketlaw15.LockTells"=some 3 by kernel_rfl).symm.trans hf)|>.symm
   obtain rfl:fn=Tryz.f3:=(iB (Tryz.func3.symm.trans hfn)).symm
   exact⟨by kernel_rfl,fun j t ht=>by
    rw[Tryz.params3] at ht
    have h3:t=24\/t=22:=by
     rcases j with _|_|_|_|j
     ·left;simpa using ht.symm
     ·left;simpa using ht.symm
     ·right;simpa using ht.symm
     ·right;simpa using ht.symm
     ·simp at ht
    rcases h3 with rfl|rfl
    ·exact(show Tryz.prog.wantsStandIn 24=false by kernel_rfl)
    ·exact(show Tryz.prog.wantsStandIn 22=false by kernel_rfl)⟩)
  (by kernel_rfl)
#print axioms ltells_holds
end Go.Proofs.YtpgdljlghiifjaaGreatDoor
