/- Put, Get, Delete of what is not a good key or value. -/
import Derived.Test.YtbldcbakhpdigaaNew
namespace Go.Proofs.Ytbldcbakhpdigaa
open Go.RowKit

def GoodKV (key value : ByteArray) : Prop := (1 ≤ key.size ∧ key.size ≤ 128) ∧ value.size ≤ 64

set_option maxRecDepth 100000 in
theorem put_bad (t mp : Nat) (root : Int) (key value : ByteArray) (w : World) (ht : TreeAt w t mp root 0) (hb : ¬ GoodKV key value) :
    Calls Try.prog 20 #[.pointer (some ⟨t, 0, none⟩), .string key, .string value] w fun e w' => e = .returned (.int .i64 1) ∧ Below w.heap.size w w' := by
  have hb3 := below_three w (.cells #[.pointer (some ⟨t, 0, none⟩)] 41) (.cells #[.string key] 9) (.cells #[.string value] 9)
  have htl : t < w.heap.size := (Array.getElem?_eq_some_iff.1 ht).1
  have ht3 := (hb3.block t htl).trans ht
  go_enter Try.func20, Try.ntmps20
  by_cases hk : 1 ≤ key.size ∧ key.size ≤ 128
  · have hv : (64 : Int) < (value.size : Int) := by have : ¬ value.size ≤ 64 := fun x => hb ⟨hk, x⟩; omega
    have Hk := Lib.hid hk; clear hk
    go_wp2_with (first
      | (go_at_call 33; go_must ((refine (usable_any t mp root 0 _ ht3).mono ?_); rintro e w1 ⟨rfl, hw⟩; subst w1))
      | (go_at_call 34; go_must ((refine (goodKey_yes key _ Hk.out.1 Hk.out.2).mono ?_); rintro e w1 ⟨rfl, hw⟩; subst w1)))
    go_ret
    exact ⟨rfl, hb3⟩
  · have Hk := Lib.hid hk; clear hk
    go_wp2_with (first
      | (go_at_call 33; go_must ((refine (usable_any t mp root 0 _ ht3).mono ?_); rintro e w1 ⟨rfl, hw⟩; subst w1))
      | (go_at_call 34; go_must ((refine (goodKey_no key _ Hk.out).mono ?_); rintro e w1 ⟨rfl, hw⟩; subst w1)))
    go_ret
    exact ⟨rfl, hb3⟩

set_option maxRecDepth 100000 in
theorem get_bad (t mp : Nat) (root : Int) (key : ByteArray) (w : World) (ht : TreeAt w t mp root 0) (hb : ¬ (1 ≤ key.size ∧ key.size ≤ 128)) :
    Calls Try.prog 28 #[.pointer (some ⟨t, 0, none⟩), .string key] w fun e w' => e = .returned (.tuple #[.string ⟨#[]⟩, .bool false, .int .i64 1]) ∧ w' = w := by
  go_enter Try.func28, Try.ntmps28
  have Hk := Lib.hid hb; clear hb
  go_wp2_with (first
      | (go_at_call 33; go_must ((refine (usable_any t mp root 0 _ ht).mono ?_); rintro e w1 ⟨rfl, hw⟩; subst w1))
      | (go_at_call 34; go_must ((refine (goodKey_no key _ Hk.out).mono ?_); rintro e w1 ⟨rfl, hw⟩; subst w1)))
  go_ret3
  exact ⟨rfl, rfl⟩

set_option maxRecDepth 100000 in
theorem delete_bad (t mp : Nat) (root : Int) (key : ByteArray) (w : World) (ht : TreeAt w t mp root 0) (hb : ¬ (1 ≤ key.size ∧ key.size ≤ 128)) :
    Calls Try.prog 23 #[.pointer (some ⟨t, 0, none⟩), .string key] w fun e w' => e = .returned (.tuple #[.bool false, .int .i64 1]) ∧ Below w.heap.size w w' := by
  have hb2 := below_two w (.cells #[.pointer (some ⟨t, 0, none⟩)] 41) (.cells #[.string key] 9)
  have htl : t < w.heap.size := (Array.getElem?_eq_some_iff.1 ht).1
  have hg := get_bad t mp root key _ ((hb2.block t htl).trans ht) hb
  have HG := Lib.hid hg; clear hg
  go_enter Try.func23, Try.ntmps23
  go_wp2_with (first
    | (go_at_call 28; go_must ((refine HG.out.mono ?_); rintro e w1 ⟨rfl, hw⟩; subst w1)))
  go_ret2
  exact ⟨rfl, hb2⟩
end Go.Proofs.Ytbldcbakhpdigaa
