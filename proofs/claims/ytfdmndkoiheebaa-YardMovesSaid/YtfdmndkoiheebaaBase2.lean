/- Struct literals of this program. -/
import Derived.Test.YtfdmndkoiheebaaBase
namespace Go.Proofs.Ytfdmndkoiheebaa
open Go Go.RowKit

theorem sizeOf_run {P : Program} {t : TypeId} {k : Nat} (h : (P.info? t).map (·.size) = some k) (w : World) : (sizeOf t).run P w = .ok k w := by
  cases hq : P.info? t with
  | none => simp [hq] at h
  | some i => have : i.size = k := by simpa [hq] using h
              simp [Go.sizeOf, typeInfo, hq, this]
theorem cells_agg (cs : Array Value) : (Value.agg cs).cells = cs := rfl
theorem s3 : (Try.prog.info? 3).map (·.size) = some 1 := by kernel_rfl
theorem s22 : (Try.prog.info? 22).map (·.size) = some 1 := by kernel_rfl
theorem t117 : Ty Try.prog 117 3 24 true (.agg #[.int .i64 0, .int .i64 0, .int .i64 0]) := ⟨by kernel_rfl, _, Try.underlying117, rfl⟩

theorem build24 {s h : Value} (hs : s.oneCell' = true) (hh : h.oneCell' = true) (w : World) : (Instr.build 24 #[(0, s), (1, h)]).run Try.prog w = .ok (.agg #[s, h]) w := by
  simp [Instr.build, t24.zero, underlying, Try.underlying24, sizeOf_run s22, sizeOf_run s3, Instr.fill, cells_agg, cells_one hs, cells_one hh]
theorem build24_0 (w : World) : (Instr.build 24 #[]).run Try.prog w = .ok (.agg #[.slice none 0 0, .int .i64 0]) w := by
  simp [Instr.build, t24.zero, underlying, Try.underlying24, sizeOf_run s22, sizeOf_run s3, Instr.fill, Value.cells]
theorem build24_1 {h : Value} (hh : h.oneCell' = true) (w : World) : (Instr.build 24 #[(1, h)]).run Try.prog w = .ok (.agg #[.slice none 0 0, h]) w := by
  simp [Instr.build, t24.zero, underlying, Try.underlying24, sizeOf_run s22, sizeOf_run s3, Instr.fill, cells_agg, cells_one hh]
theorem build54_0 (w : World) : (Instr.build 54 #[]).run Try.prog w = .ok (.agg #[.slice none 0 0, .int .i64 0]) w := by
  simp [Instr.build, t54.zero, underlying, Try.underlying54, sizeOf_run s22, sizeOf_run s3, Instr.fill, Value.cells]
theorem build54_1 {h : Value} (hh : h.oneCell' = true) (w : World) : (Instr.build 54 #[(1, h)]).run Try.prog w = .ok (.agg #[.slice none 0 0, h]) w := by
  simp [Instr.build, t54.zero, underlying, Try.underlying54, sizeOf_run s22, sizeOf_run s3, Instr.fill, cells_agg, cells_one hh]
theorem build30 {a b : Int} (w : World) : (Instr.build 30 #[(0, .int .i64 a), (1, .int .i64 b)]).run Try.prog w = .ok (.agg #[.int .i64 a, .int .i64 b]) w := by
  simp [Instr.build, t30.zero, underlying, Try.underlying30, sizeOf_run s3, Instr.fill, Value.cells]
theorem build53 {a b : Int} (w : World) : (Instr.build 53 #[(0, .int .i64 a), (1, .int .i64 b)]).run Try.prog w = .ok (.agg #[.int .i64 a, .int .i64 b]) w := by
  simp [Instr.build, t53.zero, underlying, Try.underlying53, sizeOf_run s3, Instr.fill, Value.cells]
theorem build68 {a b c : Int} (w : World) : (Instr.build 68 #[(0, .int .i64 a), (1, .int .i64 b), (2, .int .i64 c)]).run Try.prog w = .ok (.agg #[.int .i64 a, .int .i64 b, .int .i64 c]) w := by
  simp [Instr.build, t68.zero, underlying, Try.underlying68, sizeOf_run s3, Instr.fill, Value.cells]
theorem build117 {a b c : Int} (w : World) : (Instr.build 117 #[(0, .int .i64 a), (1, .int .i64 b), (2, .int .i64 c)]).run Try.prog w = .ok (.agg #[.int .i64 a, .int .i64 b, .int .i64 c]) w := by
  simp [Instr.build, t117.zero, underlying, Try.underlying117, sizeOf_run s3, Instr.fill, Value.cells]
end Go.Proofs.Ytfdmndkoiheebaa
