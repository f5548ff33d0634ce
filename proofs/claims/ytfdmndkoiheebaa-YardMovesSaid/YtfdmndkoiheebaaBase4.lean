/- Rules with their values told. -/
import Derived.Test.YtfdmndkoiheebaaBase3
namespace Go.Proofs.Ytfdmndkoiheebaa
open Go Go.RowKit
namespace R
variable {P : Program} {ops : Array Oper} {S : Bool → Nat → Prop} {dr : Bool} {B : List Nat} {F : Env → World → Prop} {rest : List Oper} {e : Env} {w : World}
variable {d : Tmp} {od : Option Tmp} {ty : TypeId} {pos : String} {aft : Array Edge}
theorem slcE {x : Operand} {t el : TypeId} {k by_ : Nat} {g : Bool} {z : Value} {v : Value} {lo hi : Option Operand} {l r : Nat} {n : Nat} {a : Option Addr} {c : Nat} (v' : Value) (hu : P.underlying t = some (.slice el)) (hk : Ty P el k by_ g z) (hx : ev e x = v) (hv : v = .slice a n c)
    (hlo : (match lo with | none => l = 0 | some y => ∃ ik, ev e y = .int ik l)) (hhi : (match hi with | none => r = n | some y => ∃ ik, ev e y = .int ik r)) (hlr : l ≤ r) (hrc : r ≤ c) (hc : cut k v l r = v')
    (h : wpR P ops S dr (kind B) F rest (upd e d v') w) : wpR P ops S dr (kind B) F (⟨some d, .slice t x lo hi none, ty, pos, aft, none⟩ :: rest) e w :=
  slc hu hk hx hv hlo hhi hlr hrc (by rw [hc]; exact h)
theorem mv {x : Operand} (v : Value) (hx : ev e x = v) (h : wpR P ops S dr (kind B) F rest (upd e d v) w) : wpR P ops S dr (kind B) F (⟨some d, .move x, ty, pos, aft, none⟩ :: rest) e w :=
  move (by rw [hx]; exact h)
theorem asg {x : Operand} (v : Value) (hx : ev e x = v) (h : wpR P ops S dr (kind B) F rest (upd e d v) w) : wpR P ops S dr (kind B) F (⟨some d, .assign x, ty, pos, aft, none⟩ :: rest) e w :=
  assign (by rw [hx]; exact h)
end R
/-- All slots but the listed ones are forgotten. -/
theorem E.forget {P : Program} {N : Nat} {Q : Exit → Env → World → Prop} {e : Env} {w : World} {c : Code} (l : List (Nat × Value)) (h : Has e l) (k : ∀ e, wpE P N c Q (mk e l) w) : wpE P N c Q e w := by
  rw [h.mk]; exact k e
end Go.Proofs.Ytfdmndkoiheebaa
