/- LockClash: whatever the input (of the bulk that the statement names), the call returns true; the input reads as it did. -/
import Derived.Test.YtpgdljlghiifjaaGreatDoorMC
import Derived.Test.YtpgdljlghiifjaaGreatDoorTie
import Derived.Test.YtpgdljlghiifjaaGreatDoorCards
import Derived.ChangeSame
import Derived.ChangeVars
import Derived.JoinedOf
import Derived.RowKitTokens
import Derived.Handed
import Derived.Deep.DeepHandedRow
set_option maxRecDepth 100000
set_option maxHeartbeats 8000000
set_option linter.all false
namespace Go.Proofs.YtpgdljlghiifjaaGreatDoor
open Go.RowKit Go.ChangeShapes Go.WideShapes Go.ChangeAt Go.Joins Go.Deep
theorem O4 {H:Type}(d:DataW H):1<=Rows.uptoBulk d:=by
 cases d with
 |lit l=>cases l<;>simp[Rows.uptoBulk]
 |_=>simp[Rows.uptoBulk]
theorem H8 {H:Type}:∀l:List (DataW H),l.length<=Rows.uptoBulkAll l
 |[]=>aX _
 |d::r=>by
  have h1:=O4 d
  have h2:=H8 r
  simp only[Rows.uptoBulkAll,bE]
  omega
theorem Dn {H:Type}{enc:TypeId×Value->H}{W:World}{fuel:Nat}{a:Option Addr}{len cap:Nat}{x:DataW H×List MemPlace}(h:DataW.trod enc Tryz.prog W 0 (fun _=>true) true fuel 22 [.slice a len cap]=some x):len<=Rows.uptoBulk x.1:=by
 rcases open_strs aY eG (by kernel_rfl) h with ⟨e,rfl⟩|⟨a',len',cap',m,Sx,e,_,_,_,_,rfl,_⟩
 ·cases e;exact aX _
 ·cases e
  have:=H8 ((List.range len).map fun i=>(.lit (.string (Sx i).data.toList):DataW H))
  rw[eX,List.length_range] at this
  simp only[Rows.uptoBulk]
  omega
theorem Du {H:Type}{enc:TypeId×Value->H}{W:World}{fuel:Nat}{v0 v2 v3 v4 v5:Value}{a:Option Addr}{len cap:Nat}{x:DataW H×List MemPlace}(h:DataW.trod enc Tryz.prog W 0 (fun _=>true) true fuel 24 [v0,.slice a len cap,v2,v3,v4,v5]=some x):len<=Rows.uptoBulk x.1:=by
 obtain⟨xs,n,_,rfl,hl,hlen,hf⟩:=DataW.trod_struct ou h
 have c22:Tryz.prog.cellsOf 22=1:=by kernel_rfl
 match xs,hlen with
 |[y0,y1,y2,y3,y4,y5],_=>
  have g1:=hf 1 _ rfl
  simp[c22] at g1
  have h1:=Dn g1
  simp only[List.map,Rows.uptoBulk,Rows.uptoBulkAll]
  omega
theorem EU (os:Os)(started:os.Started)(H:Type)(enc:TypeId×Value->H)(F:Stop.Interp):
  ReturnsInHanded {} Tryz.checked os 4 .any ((Rows.OpenSpec.upto Rows.lockClashSpec).preRow enc Tryz.prog Tryz.f4 Rows.lockClashUptoRow.domain false Rows.lockClashUptoRow.laid) (((Rows.OpenSpec.upto Rows.lockClashSpec).at F).post enc Tryz.prog Tryz.f4 false true false false):=by
 obtain⟨places,hx⟩:∃places,DataW.whole enc Tryz.prog ((vO os).forCall (fun _ _=>0) ⟨#[],#[.agg #[.string ⟨#[]⟩,.slice none 0 0,.bool false,.bool false,.string ⟨#[]⟩,.int .i64 0],.agg #[.string ⟨#[]⟩,.slice none 0 0,.bool false,.bool false,.string ⟨#[]⟩,.int .i64 0],.slice none 0 0],[]⟩).memory Tryz.f4.params.toList (Rows.OpenSpec.upto Rows.lockClashSpec).vars false #[Value.agg #[.string ⟨#[]⟩,.slice none 0 0,.bool false,.bool false,.string ⟨#[]⟩,.int .i64 0],.agg #[.string ⟨#[]⟩,.slice none 0 0,.bool false,.bool false,.string ⟨#[]⟩,.int .i64 0],.slice none 0 0].toList 8=some ([.agg [.lit (.string []),.nil,.lit (.bool false),.lit (.bool false),.lit (.string []),.lit (.int .i64 0)],.agg [.lit (.string []),.nil,.lit (.bool false),.lit (.bool false),.lit (.string []),.lit (.int .i64 0)],.nil],[],places):=⟨[],by kernel_rfl⟩
 refine returnsInHanded_of_row (C:=Tryz.checked) (s:=Rows.OpenSpec.upto Rows.lockClashSpec) Dp started (by kernel_rfl) Tryz.func4
  (witness_row_at (enc:=enc) (C:=Tryz.checked) false (vO os) #[.agg #[.string ⟨#[]⟩,.slice none 0 0,.bool false,.bool false,.string ⟨#[]⟩,.int .i64 0],.agg #[.string ⟨#[]⟩,.slice none 0 0,.bool false,.bool false,.string ⟨#[]⟩,.int .i64 0],.slice none 0 0] rfl (by kernel_rfl) (by kernel_rfl) (by kernel_rfl)
   (OpenSpec.preRow_of_cond 8 hx (by kernel_rfl) (fun k hk=>by cases hk;kernel_rfl) (by kernel_rfl) (by have:=Gr os #[.agg #[.string ⟨#[]⟩,.slice none 0 0,.bool false,.bool false,.string ⟨#[]⟩,.int .i64 0],.agg #[.string ⟨#[]⟩,.slice none 0 0,.bool false,.bool false,.string ⟨#[]⟩,.int .i64 0],.slice none 0 0];rw[MakeChecks.laidMetH_plain _ _ _ (by kernel_rfl)] at this;exact this))) ?_
 intro W base args ds gs before hval0 hW _ hcond _ hL _ _
 have hval:∀(j:Nat) t v,Tryz.f4.params[j]? =some t->args[j]? =some v->Value.okWide Tryz.prog W .any base t v:=hval0
 change Calls Tryz.prog 4 args W fun e W'=>∃v,e= .returned v/\Rows.lockClashSpec.post enc Tryz.prog Tryz.f4 false true false false W args v W'
 have hW':DataW.Whole enc Tryz.prog Tryz.f4.params.toList Rows.lockClashSpec.vars false W args.toList ds gs before:=hW
 obtain⟨p,q,hA0,hV,rfl,hfz,hnd⟩:=hW
 have hA:DataW.TrodAll enc Tryz.prog W 0 (fun _=>true) true Tryz.f4.params.toList args.toList ds p:=hA0
 rw[Tryz.params4] at hA hval
 obtain⟨v0,v1,v2,d0,d1,d2,p0,p1,p2,rfl,rfl,rfl,h0,h1,h2⟩:=trodAll_three hA
 obtain⟨rfl,rfl⟩:=trodVars_none hV
 have hk:Rows.uptoBulkAll ([d0,d1,d2]++[])<=1048576:=fG (hcond _ rfl)
 simp only[dS,Rows.uptoBulkAll] at hk
 have hT:=Ke rfl hL
 simp only[dS] at hW'
 have hlt:∀x∈p0++p1++p2,x.block<W.heap.size:=fun x hx=>by have:=hW'.lt x (by simpa using hx);simpa using this
 have h0k:=h0
 have h1k:=h1
 have h2k:=h2
 obtain⟨c0,rfl,z0⟩:=okWide_struct ou (hval 0 24 v0 rfl rfl)
 obtain⟨c1,rfl,z1⟩:=okWide_struct ou (hval 1 24 v1 rfl rfl)
 obtain⟨a2,len2,cap2,rfl⟩:=okWide_slice aY (hval 2 22 v2 rfl rfl)
 obtain⟨f0,hf0⟩:=h0
 obtain⟨f1,hf1⟩:=h1
 obtain⟨f2,hf2⟩:=h2
 obtain⟨a,av,ea,hpa,_,_⟩:=vK hf0
 obtain⟨b,bv,eb,hpb,_,_⟩:=vK hf1
 have hf2':DataW.trod enc Tryz.prog W 0 (fun _=>true) true f2 22 [.slice a2 len2 cap2]=some (d2,p2):=by simpa [Value.cells] using hf2
 obtain⟨mv,more,em,hpm,_⟩:=vJ hf2'
 simp at em
 subst em
 obtain⟨ao,ac,rfl,_,_,_,_⟩:=cZ.form hpa
 obtain⟨bo,bc,rfl,_,_,_,_⟩:=cZ.form hpb
 obtain⟨mo,mc,em2,_,_,_,_⟩:=cZ.form hpm
 cases em2
 have ea':(Value.agg c0)=p8 a (.slice ao a.path.length ac):=by
  have:c0.toList=_:=ea
  unfold p8
  congr 1
  exact pV this
 have eb':(Value.agg c1)=p8 b (.slice bo b.path.length bc):=by
  have:c1.toList=_:=eb
  unfold p8
  congr 1
  exact pV this
 have k0:a.path.length<=Rows.uptoBulk d0:=Du (by rw[<-ea];exact hf0)
 have k1:b.path.length<=Rows.uptoBulk d1:=Du (by rw[<-eb];exact hf1)
 have k2:more.length<=Rows.uptoBulk d2:=Dn hf2'
 clear hA0 hval0 hval
 have hwk:=JU a b _ _ _ more W hpa hpb hpm hT (by omega) (by omega) (by omega)
 rw[<-ea',<-eb'] at hwk
 refine hwk.mono fun e W' ⟨he,hb⟩=> ?_
 subst he
 rw[aN] at hW'
 refine⟨_,rfl,_,_,_,[],p0++(p1++p2),[],hW',?_,?_,rfl,hb.frame _,fun h=>by cases h⟩
 ·exact trodAll_mk1 (shut_bool jV true)
 ·exact trodAll_mk3 (IA oN (by kernel_rfl) (fG (by kernel_rfl)) h0k hb (fun x hx=>hlt x (by simp[hx]))) (IA oN (by kernel_rfl) (fG (by kernel_rfl)) h1k hb (fun x hx=>hlt x (by simp[hx]))) (IA oN (by kernel_rfl) (fG (by kernel_rfl)) h2k hb (fun x hx=>hlt x (by simp[hx])))
theorem Jv:Rows.LockClashUptoSaid:=
 OpenClaim.holds_of_cond 4 Tryz.f4 rfl rfl rfl rfl rfl rfl rfl ⟨rfl,rfl,rfl,rfl,rfl⟩ rfl rfl rfl rfl rfl (by kernel_rfl) Tryz.func4 (by kernel_rfl)
  (fG (by kernel_rfl)) (by unfold Func.isWrapper;first|(rw[if_pos (by decide+kernel)];kernel_rfl)|(rw[if_neg (by decide+kernel)];exact⟨rfl,rfl⟩))
  (fun os started H enc _ F=>by rw[OpenClaim.pre_eq_preRow];exact EU os started H enc F)
theorem lclash_holds:Rows.LockClashUptoCardSaid:=
 Claim7.holds_tied_plain_at .later [] _ _ _ _ Jv (fun _ h=>by cases h) (by kernel_rfl) (fun _ h=>by cases h) lockClashUpto_row_tie rfl ⟨rfl,rfl⟩ (by kernel_rfl) rfl
  (fun f fn hf hfn=>by
   obtain rfl:f=4:=iB ((show Tryz.prog.funcNamed "docket/docketlaw15.LockClash"=some 4 by kernel_rfl).symm.trans hf)|>.symm
   obtain rfl:fn=Tryz.f4:=(iB (Tryz.func4.symm.trans hfn)).symm
   exact⟨by kernel_rfl,fun j t ht=>by
    rw[Tryz.params4] at ht
    have h3:t=24\/t=22:=by
     rcases j with _|_|_|j
     ·left;simpa using ht.symm
     ·left;simpa using ht.symm
     ·right;simpa using ht.symm
     ·simp at ht
    rcases h3 with rfl|rfl
    ·exact(show Tryz.prog.wantsStandIn 24=false by kernel_rfl)
    ·exact(show Tryz.prog.wantsStandIn 22=false by kernel_rfl)⟩)
  (by kernel_rfl)
#print axioms lclash_holds
end Go.Proofs.YtpgdljlghiifjaaGreatDoor
