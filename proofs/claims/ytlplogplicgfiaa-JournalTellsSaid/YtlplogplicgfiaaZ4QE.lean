import Derived.Test.YtlplogplicgfiaaZ4QD
import Derived.Test.YtlplogplicgfiaaZ4JFrame
namespace Go.Proofs.Ytlplogplicgfiaa
open Go Go.RowKit
theorem ropenP (w : World) {rb rd : Value} {r d' : Dk} {e : Nat} {o : Option Jn} (hR : RD w rb rd r) (hbl : r.bl.length ≤ 1000000) (hpw : r.pw ≤ 9223372036854775807) (hpw2 : -9223372036854775808 ≤ r.pw) (ho : openL r = (d', e, o)) :
    Calls Try.prog 45 #[.agg #[rb, rd, .int .i64 r.pw, .bool r.tr]] w (Ret fun x w' => Ext w w' ∧ RORes w w' rd x (d', e, o)) := by rw [← ho]; exact ropen_ w hR hbl hpw hpw2
end Go.Proofs.Ytlplogplicgfiaa
