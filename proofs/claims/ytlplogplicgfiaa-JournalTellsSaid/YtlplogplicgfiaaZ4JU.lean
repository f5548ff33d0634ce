import Derived.Test.YtlplogplicgfiaaZ4JT
namespace Go.Proofs.Ytlplogplicgfiaa
open Go Go.RowKit
def awR1 : Rc := ⟨⟨1, 1, 1, 1⟩, 0, [97]⟩
def awR2 : Rc := ⟨⟨2, 2, 1, 2⟩, 1, List.replicate 49 0⟩
def awR3 : Rc := ⟨⟨1, 3, 1, 2⟩, 3, [98]⟩
def awR4 : Rc := ⟨⟨1, 4, 1, 2⟩, 0, [99]⟩
def awD0 : Dk := newDk 4
def awJ0 : Jn := ⟨[], 1, 0, false⟩
def awD1 : Dk := ⟨[pcB awR1 0, zeroB, zeroB, zeroB, pcB awR1 0, zeroB, zeroB, zeroB], List.replicate 8 false, -1, false⟩
def awJ1 : Jn := ⟨[awR1], 1, 0, false⟩
def awD2 : Dk := ⟨[pcB awR1 0, pcB awR2 0, pcB awR2 1, zeroB, pcB awR1 0, pcB awR2 0, pcB awR2 1, zeroB], List.replicate 8 false, -1, false⟩
def awJ2 : Jn := ⟨[awR2], 1, 0, false⟩
def awD3 : Dk := ⟨[pcB awR1 0, pcB awR2 0, pcB awR2 1, pcB awR3 0, pcB awR1 0, pcB awR2 0, pcB awR2 1, pcB awR3 0], List.replicate 8 false, -1, false⟩
def awJ3 : Jn := ⟨[awR2, awR3], 1, 0, false⟩
def awD4 : Dk := ⟨[pcB awR4 0, pcB awR2 0, pcB awR2 1, pcB awR3 0, pcB awR4 0, pcB awR2 0, pcB awR2 1, pcB awR3 0], List.replicate 8 false, -1, false⟩
def awJ4 : Jn := ⟨[awR2, awR3, awR4], 1, 0, false⟩
def awD5 : Dk := ⟨awD4.bl, [false, true, false, false, false, false, true, false], -1, false⟩
def awJ6 : Jn := ⟨[awR2, awR3, awR4], 2, 2, false⟩
def awD6 : Dk := ⟨awD4.bl, [false, true, false, false, false, true, false, false], -1, false⟩
theorem aw_o0 : openL awD0 = (awD0, 0, some awJ0) := by kernel_rfl
theorem aw_a1 : appendL awD0 awJ0 [97] ((1 : Nat) : Int) = (awD1, awJ1, 1, 0) := by kernel_rfl
theorem aw_a2 : appendL awD1 awJ1 (List.replicate 49 0) ((2 : Nat) : Int) = (awD2, awJ2, 2, 0) := by kernel_rfl
theorem aw_a3 : appendL awD2 awJ2 [98] ((2 : Nat) : Int) = (awD3, awJ3, 3, 0) := by kernel_rfl
theorem aw_a4 : appendL awD3 awJ3 [99] ((2 : Nat) : Int) = (awD4, awJ4, 4, 0) := by kernel_rfl
theorem aw_a5 : appendL awD4 awJ4 [100] ((5 : Nat) : Int) = (awD4, awJ4, 0, 4) := by kernel_rfl
theorem aw_o5 : openL awD5 = (awD4, 0, some awJ6) := by kernel_rfl
theorem aw_o6 : openL awD6 = (awD6, 421, none) := by kernel_rfl
end Go.Proofs.Ytlplogplicgfiaa
