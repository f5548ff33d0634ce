import Derived.WalkKit
namespace Go.Proofs.Ytlplogplicgfiaa
open Go
theorem SA6 {w0 w1 : World} {E : Nat → Prop} (hh : w1.heap = w0.heap) : ∀ b, b < w1.heap.size → E b → b < w0.heap.size ∧ (false = false → E b) := fun b hb h => ⟨by rw [hh] at hb; exact hb, fun _ => h⟩
theorem SB6 {w0 w1 : World} {E : Nat → Prop} (hh : w1.heap = w0.heap) : ∀ b, b < w1.heap.size → b < w0.heap.size ∧ (true = false → E b) := fun b hb => ⟨by rw [hh] at hb; exact hb, nofun⟩
theorem cb6 {a b : Bool} (h : a = b) : Value.bool a = Value.bool b := congrArg Value.bool h
abbrev N6 (n : Nat) : Value := .int .i64 ((n : Nat) : Int)
abbrev P6 (b : Nat) : Value := .pointer (some ⟨b, 0, none⟩)
end Go.Proofs.Ytlplogplicgfiaa
