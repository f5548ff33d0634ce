/- What is proved: the law JournalTells of the given program returns true, for every number of places and every list of acts, and neither panics nor changes what it was given.
Conditions: none beyond the statement's own; the acts may be any list that a caller can hand over. -/
import Derived.Test.YtlplogplicgfiaaZ4JFrame
import Derived.Test.YtlplogplicgfiaaZ4QT
import Derived.Test.YtlplogplicgfiaaZ4JFrameA
namespace Go.Proofs.Ytlplogplicgfiaa
open Go Go.RowKit Go.ChangeShapes Go.WideShapes Go.ChangeAt Go.Joins Go.Deep
namespace L4
set_option maxRecDepth 100000 in
theorem lifted (os : Os) (started : os.Started) (H : Type) (enc : TypeId × Value → H) :
    ReturnsInHanded {} Try.checked os 4 .any (Rows.journalTellsSpec.pre6 enc Try.prog Try.f4 Rows.journalTellsRow.domain false) (Rows.journalTellsSpec.post enc Try.prog Try.f4 false true false false) := by
  refine returnsInHanded_of_change (C := Try.checked) knob started (by kernel_rfl) Try.func4
    (ChangeSpec.witness6 (enc := enc) (C := Try.checked) false ⟨#[], #[.int .i64 0, .slice none 0 0], []⟩ 8 (by kernel_rfl) (by kernel_rfl) (by kernel_rfl) (by kernel_rfl)) ?_
  intro W base args ds gs before hval0 hW _ _; have hval : ∀ (j : Nat) t v, Try.f4.params[j]? = some t → args[j]? = some v → Value.okWide Try.prog W .any base t v := hval0; have hW' := hW; obtain ⟨p, q, hA0, hV, rfl, _, _⟩ := hW; have hA : DataW.TrodAll enc Try.prog W 0 (fun _ => true) true Try.f4.params.toList args.toList ds p := hA0; rw [Try.params4] at hA hval; obtain ⟨v0, vs0, d0, ds0, p0, q0, hargs, rfl, rfl, h0, r0⟩ := trodAll_cons hA; obtain ⟨v1, vs1, d1, ds1, p1, q1, rfl, rfl, rfl, h1, r1⟩ := trodAll_cons r0; obtain ⟨rfl, rfl, rfl⟩ := trodAll_nil r1; obtain rfl : args = #[v0, v1] := by cases args; simp_all
  obtain ⟨rfl, rfl⟩ := trodVars_none hV; obtain ⟨n, rfl, hn1, hn2⟩ := open_int3 (hval 0 3 v0 rfl rfl) h0; obtain ⟨l, us, hl, hll⟩ := open_acts (hval 1 43 v1 rfl rfl) h1; refine (journalTells W hl hll).mono fun e W' ⟨v, he, hE, hv⟩ => ?_; subst he hv; exact ⟨_, rfl, law_post rfl hW' rfl (by kernel_rfl) (by rw [Try.params4]; decide +kernel) hE⟩
theorem proved : Rows.JournalTellsSaid :=
  OpenClaim.holds_of_wide 4 Try.f4 rfl rfl rfl rfl rfl rfl rfl ⟨rfl, rfl, rfl, rfl, rfl⟩ rfl rfl rfl rfl rfl (by kernel_rfl) Try.func4 (by kernel_rfl)
    (of_decide_eq_true (by kernel_rfl)) (by unfold Func.isWrapper; first | (rw [if_pos (by decide +kernel)]; kernel_rfl) | (rw [if_neg (by decide +kernel)]; exact ⟨rfl, rfl⟩))
    (fun os started H enc _ => lifted os started H enc)
end L4
end Go.Proofs.Ytlplogplicgfiaa
