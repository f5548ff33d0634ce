/- What is proved: for every input the law YardAsks of the given program returns true (the four questions to a yard are answered as the reference answers them), and what it was given reads as it did.
Conditions: none beyond those that the statement itself names. -/
import Derived.Test.YtfdmndkoiheebaaFrame
import Derived.Test.YtfdmndkoiheebaaC6
namespace Go.Proofs.Ytfdmndkoiheebaa
open Go Go.RowKit Go.ChangeShapes Go.WideShapes Go.ChangeAt Go.Joins Go.Deep
namespace L1

set_option maxRecDepth 100000 in
theorem lifted (os : Os) (started : os.Started) (H : Type) (enc : TypeId × Value → H) :
    ReturnsInHanded {} Try.checked os 3 .any (Rows.yardAsksSpec.pre6 enc Try.prog Try.f3 Rows.yardAsksRow.domain false) (Rows.yardAsksSpec.post enc Try.prog Try.f3 false true false false) := by
  refine returnsInHanded_of_change (C := Try.checked) knob started (by kernel_rfl) Try.func3
    (ChangeSpec.witness6 (enc := enc) (C := Try.checked) false ⟨#[], #[.agg #[.slice none 0 0, .int .i64 0], .int .i64 0], []⟩ 8 (by kernel_rfl) (by kernel_rfl) (by kernel_rfl) (by kernel_rfl)) ?_
  intro W base args ds gs before hval0 hW _ _
  have hval : ∀ (j : Nat) t v, Try.f3.params[j]? = some t → args[j]? = some v → Value.okWide Try.prog W .any base t v := hval0
  have hW' := hW
  obtain ⟨p, q, hA0, hV, rfl, _, _⟩ := hW
  have hA : DataW.TrodAll enc Try.prog W 0 (fun _ => true) true Try.f3.params.toList args.toList ds p := hA0
  rw [Try.params3] at hA hval
  obtain ⟨v0, vs0, d0, ds0, p0, q0, hargs, rfl, rfl, h0, r0⟩ := trodAll_cons hA
  obtain ⟨v1, vs1, d1, ds1, p1, q1, rfl, rfl, rfl, h1, r1⟩ := trodAll_cons r0
  obtain ⟨rfl, rfl, rfl⟩ := trodAll_nil r1
  obtain rfl : args = #[v0, v1] := by cases args; simp_all
  obtain ⟨rfl, rfl⟩ := trodVars_none hV
  obtain ⟨u, k, us, xss, rfl, hm, hl, _⟩ := open_yard (hval 0 24 v0 rfl rfl) h0
  obtain ⟨b, rfl, _⟩ := open_int3 (hval 1 3 v1 rfl rfl) h1
  refine (yardAsks W hm hl).mono fun e W' ⟨v, he, hE, hv⟩ => ?_
  subst he hv
  exact ⟨_, rfl, law_post rfl hW' rfl (by kernel_rfl) (by rw [Try.params3]; decide +kernel) hE⟩

theorem proved : Rows.YardAsksSaid :=
  OpenClaim.holds_of_wide 3 Try.f3 rfl rfl rfl rfl rfl rfl rfl ⟨rfl, rfl, rfl, rfl, rfl⟩ rfl rfl rfl rfl rfl (by kernel_rfl) Try.func3 (by kernel_rfl)
    (of_decide_eq_true (by kernel_rfl)) (by unfold Func.isWrapper; first | (rw [if_pos (by decide +kernel)]; kernel_rfl) | (rw [if_neg (by decide +kernel)]; exact ⟨rfl, rfl⟩))
    (fun os started H enc _ => lifted os started H enc)
end L1
end Go.Proofs.Ytfdmndkoiheebaa
