/- VaultSpoils: whatever the input, the call returns true; the input reads as it did. No condition. -/
import Derived.Test.YtfgpefcphnpabaaGreatJ23
import Derived.Test.YtfgpefcphnpabaaGreatRows
import Derived.ProofKit
import Derived.Lib.SmallJoins
namespace Go.Proofs.YtfgpefcphnpabaaGreat
open Go.RowKit Go.ChangeShapes Go.WideShapes Go.ChangeAt Go.Joins
open Go.ChangeMaps (open_string shut_string)
set_option maxRecDepth 100000
set_option maxHeartbeats 8000000
theorem laid_outS : laidOutB Tryz.prog = true := by kernel_rfl
theorem own_noneS : ownKnob Tryz.prog.godebug = none := by kernel_rfl
theorem vspoils_lifted (os : Os) (started : os.Started) (H : Type) (enc : TypeId × Value → H) :
  ReturnsInHanded {} Tryz.checked os 3 .any (Rows.vaultSpoilsSpec.pre6 enc Tryz.prog Tryz.f3 Rows.vaultSpoilsRow.domain false) (Rows.vaultSpoilsSpec.post enc Tryz.prog Tryz.f3 false true false false) := by
 refine returnsInHanded_of_change (C := Tryz.checked) own_noneS started (by kernel_rfl) Tryz.func3
  (ChangeSpec.witness6 (enc := enc) (C := Tryz.checked) false ⟨#[], #[.string ⟨#[]⟩, .int .u16 0, .agg #[.int .u8 0, .string ⟨#[]⟩, .string ⟨#[]⟩, .int .i64 0]], []⟩ 8 (by kernel_rfl) (by kernel_rfl) (by kernel_rfl) (by kernel_rfl)) ?_
 intro W base args ds gs before hval0 hW hcnd _
 have hval : ∀ (j : Nat) t v, Tryz.f3.params[j]? = some t → args[j]? = some v → Value.okWide Tryz.prog W .any base t v := hval0
 have hW' := hW
 obtain ⟨p, q, hA0, hV, rfl, hfz, hnd⟩ := hW
 have hA : DataW.TrodAll enc Tryz.prog W 0 (fun _ => true) true Tryz.f3.params.toList args.toList ds p := hA0
 rw [Tryz.params3] at hA hval
 obtain ⟨v0, v1, v2, d0, d1, d2, p0, p1, p2, rfl, rfl, rfl, h0, h1, h2⟩ := trodAll_three hA
 obtain ⟨rfl, rfl⟩ := trodVars_none hV
 simp only [List.append_nil] at hW'
 obtain ⟨key, rfl, rfl, rfl, hks⟩ := open_string Tryz.underlying9 (hval 0 9 v0 rfl rfl) h0
 obtain ⟨sz, rfl, rfl, rfl, wz⟩ := open_int Tryz.underlying22 (hval 1 22 v1 rfl rfl) h1
 have hz : 0 ≤ sz ∧ sz ≤ 65535 := by
  have wz' := wz
  simp only [Lit.wf, Bool.and_eq_true, decide_eq_true_eq] at wz'
  exact ⟨Int.le_trans (by decide) wz'.1, Int.le_trans wz'.2 (by decide)⟩
 have hlt : ∀ x ∈ p2, x.block < W.heap.size := fun x hx => by have := hW'.lt x (by simpa using hx); simpa using this
 have h2k := h2
 obtain ⟨c0, c1, c2, c3, y0, y1, y2, y3, m, rfl, rfl, rfl, hy0, hy1, hy2, hy3⟩ := open_agg4 Tryz.underlying24 (by kernel_rfl) (by kernel_rfl) (hval 2 24 v2 rfl rfl) h2
 obtain ⟨k, e0, _, _⟩ := DataW.trod_int Tryz.underlying5 hy0
 obtain ⟨s1, e1, _⟩ := DataW.trod_string Tryz.underlying9 hy1
 obtain ⟨s2, e2, _⟩ := DataW.trod_string Tryz.underlying9 hy2
 obtain ⟨n, e3, _, _⟩ := DataW.trod_int Tryz.underlying3 hy3
 simp at e0 e1 e2 e3
 subst e0 e1 e2 e3
 clear hA0 hval0
 refine (vspoils_walk k n sz s1 s2 key W hz).mono fun e W' ⟨he, hb⟩ => ?_
 subst he
 refine ⟨_, rfl, _, _, _, [], [] ++ ([] ++ (y0.2 ++ (y1.2 ++ (y2.2 ++ y3.2)))), [], hW', ?_, ?_, rfl, hb.frame _, fun h => by cases h⟩
 ·exact trodAll_mk1 (shut_bool Tryz.underlying4 true)
 ·exact trodAll_mk3 (shut_string Tryz.underlying9 hks) (shut_int Tryz.underlying22 wz) (Below.trod laid_outS (by kernel_rfl) (of_decide_eq_true (by kernel_rfl)) h2k hb hlt)
theorem vspoils_holds : Rows.VaultSpoilsSaid :=
 OpenClaim.holds_of_wide (p := Tryz.pinned) (s := Rows.vaultSpoilsSpec) (c := Rows.vaultSpoilsRow) 3 Tryz.f3 rfl rfl rfl rfl rfl rfl rfl ⟨rfl, rfl, rfl, rfl, rfl⟩ rfl rfl rfl rfl rfl (by kernel_rfl) Tryz.func3 (by kernel_rfl)
  (of_decide_eq_true (by kernel_rfl)) (by unfold Func.isWrapper; first | (rw [if_pos (by decide +kernel)]; kernel_rfl) | (rw [if_neg (by decide +kernel)]; exact ⟨rfl, rfl⟩))
  (fun os started H enc _ => vspoils_lifted os started H enc)
#print axioms vspoils_holds
end Go.Proofs.YtfgpefcphnpabaaGreat
