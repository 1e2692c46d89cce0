/- VaultNone: whatever the input, the call returns true; the input reads as it did. No condition. -/
import Derived.Test.YtfgpefcphnpabaaGreatJ23
import Derived.Test.YtfgpefcphnpabaaGreatRows
import Derived.ProofKit
import Derived.Lib.SmallJoins
namespace Go.Proofs.YtfgpefcphnpabaaGreat
open Go.RowKit Go.ChangeShapes Go.WideShapes Go.ChangeAt Go.Joins
open Go.ChangeMaps (open_string shut_string)
set_option maxRecDepth 100000
set_option maxHeartbeats 8000000
theorem laid_outN : laidOutB Tryz.prog = true := by kernel_rfl
theorem own_noneN : ownKnob Tryz.prog.godebug = none := by kernel_rfl
theorem vnone_lifted (os : Os) (started : os.Started) (H : Type) (enc : TypeId × Value → H) :
  ReturnsInHanded {} Tryz.checked os 5 .any (Rows.vaultNoneSpec.pre6 enc Tryz.prog Tryz.f5 Rows.vaultNoneRow.domain false) (Rows.vaultNoneSpec.post enc Tryz.prog Tryz.f5 false true false false) := by
 refine returnsInHanded_of_change (C := Tryz.checked) own_noneN started (by kernel_rfl) Tryz.func5
  (ChangeSpec.witness6 (enc := enc) (C := Tryz.checked) false ⟨#[], #[.agg #[.int .u8 0, .string ⟨#[]⟩, .string ⟨#[]⟩, .int .i64 0]], []⟩ 8 (by kernel_rfl) (by kernel_rfl) (by kernel_rfl) (by kernel_rfl)) ?_
 intro W base args ds gs before hval0 hW hcnd _
 have hval : ∀ (j : Nat) t v, Tryz.f5.params[j]? = some t → args[j]? = some v → Value.okWide Tryz.prog W .any base t v := hval0
 have hW' := hW
 obtain ⟨p, q, hA0, hV, rfl, hfz, hnd⟩ := hW
 have hA : DataW.TrodAll enc Tryz.prog W 0 (fun _ => true) true Tryz.f5.params.toList args.toList ds p := hA0
 rw [Tryz.params5] at hA hval
 obtain ⟨v0, d0, rfl, rfl, h0⟩ := trodAll_one hA
 obtain ⟨rfl, rfl⟩ := trodVars_none hV
 simp only [List.append_nil] at hW'
 have hlt : ∀ x ∈ p, x.block < W.heap.size := fun x hx => by simpa using hW'.lt x hx
 have h0k := h0
 obtain ⟨c0, c1, c2, c3, y0, y1, y2, y3, m, rfl, rfl, rfl, hy0, hy1, hy2, hy3⟩ := open_agg4 Tryz.underlying24 (by kernel_rfl) (by kernel_rfl) (hval 0 24 v0 rfl rfl) h0
 obtain ⟨k, e0, _, _⟩ := DataW.trod_int Tryz.underlying5 hy0
 obtain ⟨s1, e1, _⟩ := DataW.trod_string Tryz.underlying9 hy1
 obtain ⟨s2, e2, _⟩ := DataW.trod_string Tryz.underlying9 hy2
 obtain ⟨n, e3, _, _⟩ := DataW.trod_int Tryz.underlying3 hy3
 simp at e0 e1 e2 e3
 subst e0 e1 e2 e3
 clear hA0 hval0
 refine (vnone_walk k n s1 s2 W).mono fun e W' ⟨he, hb⟩ => ?_
 subst he
 refine ⟨_, rfl, _, _, _, [], y0.2 ++ (y1.2 ++ (y2.2 ++ y3.2)), [], hW', ?_, ?_, rfl, hb.frame _, fun h => by cases h⟩
 ·exact trodAll_mk1 (shut_bool Tryz.underlying4 true)
 ·exact trodAll_mk1 (Below.trod laid_outN (by kernel_rfl) (of_decide_eq_true (by kernel_rfl)) h0k hb hlt)
theorem vnone_holds : Rows.VaultNoneSaid :=
 OpenClaim.holds_of_wide (p := Tryz.pinned) (s := Rows.vaultNoneSpec) (c := Rows.vaultNoneRow) 5 Tryz.f5 rfl rfl rfl rfl rfl rfl rfl ⟨rfl, rfl, rfl, rfl, rfl⟩ rfl rfl rfl rfl rfl (by kernel_rfl) Tryz.func5 (by kernel_rfl)
  (of_decide_eq_true (by kernel_rfl)) (by unfold Func.isWrapper; first | (rw [if_pos (by decide +kernel)]; kernel_rfl) | (rw [if_neg (by decide +kernel)]; exact ⟨rfl, rfl⟩))
  (fun os started H enc _ => vnone_lifted os started H enc)
#print axioms vnone_holds
end Go.Proofs.YtfgpefcphnpabaaGreat
