import Derived.Test.YtlplogplicgfiaaZ5JC
namespace Go.Proofs.Ytlplogplicgfiaa
open Go Go.RowKit
namespace R
variable {P : Program} {ops : Array Oper} {S : Bool → Nat → Prop} {dr : Bool} {B : List Nat} {F : Env → World → Prop} {rest : List Oper} {e : Env} {w : World}
variable {d : Tmp} {od : Option Tmp} {ty : TypeId} {pos : String} {aft : Array Edge}
theorem toI {x : Operand} {src dst : TypeId} {k : IntKind} {n : Nat} {ds : TypeDesc} (hs : P.underlying src = some ds) (hd : P.underlying dst = some (.int .i64)) (hx : ev e x = .int k (n : Nat)) (hn : n ≤ 9223372036854775807)
    (h : wpR P ops S dr (kind B) F rest (upd e d (.int .i64 (n : Nat))) w) (hne : (src == dst) = false := by rfl) : wpR P ops S dr (kind B) F (⟨some d, .convert src dst x, ty, pos, aft, none⟩ :: rest) e w :=
  conv hs hd hx (by rw [wrap64 (by omega) (by omega)]; exact h) hne
theorem toU8 {x : Operand} {src dst : TypeId} {k : IntKind} {n : Nat} {ds : TypeDesc} (hs : P.underlying src = some ds) (hd : P.underlying dst = some (.int .u8)) (hx : ev e x = .int k (n : Nat))
    (h : wpR P ops S dr (kind B) F rest (upd e d (.int .u8 ((n % 256 : Nat) : Int))) w) (hne : (src == dst) = false := by rfl) : wpR P ops S dr (kind B) F (⟨some d, .convert src dst x, ty, pos, aft, none⟩ :: rest) e w :=
  conv hs hd hx (by
    have e1 : IntKind.u8.wrap (n : Int) = ((n % 256 : Nat) : Int) := by
      have h8 : IntKind.u8.bits = 8 := rfl
      simp [IntKind.wrap, h8, IntKind.signed]
    rw [e1]; exact h) hne
theorem shlN {t t' : TypeId} {x y : Operand} {ky : IntKind} {m n : Nat} (hx : ev e x = .int .i64 (m : Nat)) (hy : ev e y = .int ky (n : Nat)) (hn : n ≤ 64) (hb : m * 2 ^ n ≤ 9223372036854775807)
    (h : wpR P ops S dr (kind B) F rest (upd e d (.int .i64 ((m * 2 ^ n : Nat) : Int))) w) : wpR P ops S dr (kind B) F (⟨some d, .binOp .shl t x y t', ty, pos, aft, none⟩ :: rest) e w :=
  shl hx hy rfl hn (by
    have e1 : ((m : Int) * 2 ^ n) = ((m * 2 ^ n : Nat) : Int) := by simp
    rw [e1, wrap64 (by omega) (by omega)]; exact h)
theorem shrN {t t' : TypeId} {x y : Operand} {ky : IntKind} {m n : Nat} (hx : ev e x = .int .i64 (m : Nat)) (hy : ev e y = .int ky (n : Nat)) (hn : n ≤ 64)
    (h : wpR P ops S dr (kind B) F rest (upd e d (.int .i64 ((m / 2 ^ n : Nat) : Int))) w) : wpR P ops S dr (kind B) F (⟨some d, .binOp .shr t x y t', ty, pos, aft, none⟩ :: rest) e w :=
  shr hx hy rfl hn (by
    have e1 : (m : Int).fdiv (2 ^ n) = ((m / 2 ^ n : Nat) : Int) := by
      rw [Int.fdiv_eq_ediv_of_nonneg _ (Int.le_of_lt (Int.pow_pos (by decide)))]
      simp
    rw [e1]; exact h)
theorem orN {t t' : TypeId} {x y : Operand} {m n : Nat} (hx : ev e x = .int .i64 (m : Nat)) (hy : ev e y = .int .i64 (n : Nat)) (hm : m < 2 ^ 63) (hn : n < 2 ^ 63)
    (h : wpR P ops S dr (kind B) F rest (upd e d (.int .i64 ((m ||| n : Nat) : Int))) w) : wpR P ops S dr (kind B) F (⟨some d, .binOp .or t x y t', ty, pos, aft, none⟩ :: rest) e w :=
  or hx hy (by rw [or64 hm hn]; exact h)
theorem ixB {x i : Operand} {t el : TypeId} {b off n c m by_ : Nat} {g : Bool} {z : Value} {ik : IntKind} (hu : P.underlying t = some (.slice el)) (hk : Ty P el 1 by_ g z)
    (hx : ev e x = .slice (some ⟨b, off, none⟩) n c) (hi : ev e i = .int ik (m : Nat)) (hm : m < n)
    (h : wpR P ops S dr (kind B) F rest (upd e d (.pointer (some ⟨b, off + m, none⟩))) w) : wpR P ops S dr (kind B) F (⟨some d, .indexAddr t x i, ty, pos, aft, none⟩ :: rest) e w :=
  idxV hu hk hx hi (by omega) (by omega) (by rw [Int.toNat_natCast, Nat.mul_one, add_none]; exact h)
end R
def be4 (n : Nat) : List Nat := [n / 2 ^ 24 % 256, n / 2 ^ 16 % 256, n / 2 ^ 8 % 256, n % 256]
def wordL (xs : List Nat) : Nat := xs.getD 0 0 * 16777216 + xs.getD 1 0 * 65536 + xs.getD 2 0 * 256 + xs.getD 3 0
theorem word_or {a b c d : Nat} (hb : b < 256) (hc : c < 256) (hd : d < 256) : (((a * 2 ^ 24 ||| b * 2 ^ 16) ||| c * 2 ^ 8) ||| d) = a * 16777216 + b * 65536 + c * 256 + d := by
  have e1 : a * 2 ^ 24 ||| b * 2 ^ 16 = a * 2 ^ 24 + b * 2 ^ 16 := by
    have := Nat.two_pow_add_eq_or_of_lt (i := 24) (b := b * 2 ^ 16) (by omega) a
    rw [Nat.mul_comm a]; exact this.symm
  have e2 : (a * 2 ^ 24 + b * 2 ^ 16) ||| c * 2 ^ 8 = a * 2 ^ 24 + b * 2 ^ 16 + c * 2 ^ 8 := by
    have := Nat.two_pow_add_eq_or_of_lt (i := 16) (b := c * 2 ^ 8) (by omega) (a * 2 ^ 8 + b)
    rw [show 2 ^ 16 * (a * 2 ^ 8 + b) = a * 2 ^ 24 + b * 2 ^ 16 by omega] at this
    exact this.symm
  have e3 : (a * 2 ^ 24 + b * 2 ^ 16 + c * 2 ^ 8) ||| d = a * 2 ^ 24 + b * 2 ^ 16 + c * 2 ^ 8 + d := by
    have := Nat.two_pow_add_eq_or_of_lt (i := 8) (b := d) (by omega) (a * 2 ^ 16 + b * 2 ^ 8 + c)
    rw [show 2 ^ 8 * (a * 2 ^ 16 + b * 2 ^ 8 + c) = a * 2 ^ 24 + b * 2 ^ 16 + c * 2 ^ 8 by omega] at this
    exact this.symm
  rw [e1, e2, e3]
theorem word_ (w : World) {v : Value} {xs : List Nat} (hx : U8s w v xs) (hl : 4 ≤ xs.length) (hb : ∀ x ∈ xs, x < 256) :
    Calls Try.prog 77 #[v] w (Ret fun r w' => Ext w w' ∧ r = .int .i64 (wordL xs : Nat)) := by
  have h0 : xs[0] < 256 := hb _ (List.getElem_mem _)
  have h1 : xs[1] < 256 := hb _ (List.getElem_mem _)
  have h2 : xs[2] < 256 := hb _ (List.getElem_mem _)
  have h3 : xs[3] < 256 := hb _ (List.getElem_mem _)
  refine calls_E (args := [v]) 25 Try.func77 rfl rfl (by simp) ?_
  have hE : Ext w w := Upd.refl w
  refine E.seq ?_
  refine E.regionP rfl ?_
  refine R.assign ?_
  refine R.nil ?_
  refine E.seq ?_
  refine E.regionW allS [] mixed rfl (by kernel_rfl) ?_
  intro w1 hx1 hh1
  replace hE := hE.ext hx1
  refine R.move ?_
  refine R.ix (m := 0) Try.underlying55 t5 (by decide) hx rfl rfl (by omega) ?_
  refine R.ld (j := 0) t5 (hx.ext hE) rfl (u8_at (by omega)) rfl (fun _ _ => trivial) ?_
  refine R.toI Try.underlying5 Try.underlying3 rfl (by omega) ?_
  refine R.shlN (m := xs[0]) (n := 24) rfl rfl (by decide) (by omega) ?_
  refine R.move ?_
  refine R.ix (m := 1) Try.underlying55 t5 (by decide) hx rfl rfl (by omega) ?_
  refine R.ld (j := 1) t5 (hx.ext hE) rfl (u8_at (by omega)) rfl (fun _ _ => trivial) ?_
  refine R.toI Try.underlying5 Try.underlying3 rfl (by omega) ?_
  refine R.shlN (m := xs[1]) (n := 16) rfl rfl (by decide) (by omega) ?_
  refine R.orN (m := xs[0] * 2 ^ 24) (n := xs[1] * 2 ^ 16) rfl rfl (by omega) (by omega) ?_
  refine R.move ?_
  refine R.ix (m := 2) Try.underlying55 t5 (by decide) hx rfl rfl (by omega) ?_
  refine R.ld (j := 2) t5 (hx.ext hE) rfl (u8_at (by omega)) rfl (fun _ _ => trivial) ?_
  refine R.toI Try.underlying5 Try.underlying3 rfl (by omega) ?_
  refine R.shlN (m := xs[2]) (n := 8) rfl rfl (by decide) (by omega) ?_
  refine R.orN (m := xs[0] * 2 ^ 24 ||| xs[1] * 2 ^ 16) (n := xs[2] * 2 ^ 8) rfl rfl (Nat.or_lt_two_pow (by omega) (by omega)) (by omega) ?_
  refine R.move ?_
  refine R.ix (m := 3) Try.underlying55 t5 (by decide) hx rfl rfl (by omega) ?_
  refine R.ld (j := 3) t5 (hx.ext hE) rfl (u8_at (by omega)) rfl (fun _ _ => trivial) ?_
  refine R.toI Try.underlying5 Try.underlying3 rfl (by omega) ?_
  refine R.orN (m := (xs[0] * 2 ^ 24 ||| xs[1] * 2 ^ 16) ||| xs[2] * 2 ^ 8) (n := xs[3]) rfl rfl (Nat.or_lt_two_pow (Nat.or_lt_two_pow (by omega) (by omega)) (by omega)) (by omega) ?_
  refine R.assign ?_
  refine R.nil ?_
  refine E.ret ?_
  exact ret1 (.int .i64 ((((xs[0] * 2 ^ 24 ||| xs[1] * 2 ^ 16) ||| xs[2] * 2 ^ 8) ||| xs[3] : Nat) : Int)) rfl rfl ⟨_, rfl, hE, by
    rw [word_or h1 h2 h3]
    have g0 : xs.getD 0 0 = xs[0] := by rw [List.getD_eq_getElem?_getD, List.getElem?_eq_getElem (by omega)]; rfl
    have g1 : xs.getD 1 0 = xs[1] := by rw [List.getD_eq_getElem?_getD, List.getElem?_eq_getElem (by omega)]; rfl
    have g2 : xs.getD 2 0 = xs[2] := by rw [List.getD_eq_getElem?_getD, List.getElem?_eq_getElem (by omega)]; rfl
    have g3 : xs.getD 3 0 = xs[3] := by rw [List.getD_eq_getElem?_getD, List.getElem?_eq_getElem (by omega)]; rfl
    unfold wordL
    rw [g0, g1, g2, g3]⟩
end Go.Proofs.Ytlplogplicgfiaa

namespace Go.Proofs.Ytlplogplicgfiaa
open Go Go.RowKit
def lput (xs : List Nat) (o : Nat) (ys : List Nat) : List Nat := xs.take o ++ ys ++ xs.drop (o + ys.length)
theorem lput_len {xs ys : List Nat} {o : Nat} (h : o + ys.length ≤ xs.length) : (lput xs o ys).length = xs.length := by simp [lput]; omega
theorem put_blk {xs ys : List Nat} {o : Nat} (h : o + ys.length ≤ xs.length) : put (blkV xs) o (u8s ys) = blkV (lput xs o ys) := by
  have hl := lput_len h
  refine Array.ext' ?_
  refine List.ext_getElem? (fun j => ?_)
  rw [Array.getElem?_toList, Array.getElem?_toList, put_get (by simpa using h)]
  simp only [List.length_map, List.getElem?_toArray, lput, List.map_append, List.append_assoc]
  by_cases h1 : j < o
  · rw [if_pos h1, List.getElem?_append_left (by simp; omega), List.map_take, List.getElem?_take, if_pos h1]
  · rw [if_neg h1, List.getElem?_append_right (by simp; omega)]
    by_cases h2 : j < o + ys.length
    · rw [if_pos h2, List.getElem?_append_left (by simp; omega)]
      congr 1; simp; omega
    · rw [if_neg h2, List.getElem?_append_right (by simp; omega), List.map_drop, List.getElem?_drop]
      congr 1; simp; omega
theorem set4 {cur : Array Value} {o : Nat} {a b c d : Value} (h : o + 4 ≤ cur.size) : (((cur.setIfInBounds (o + 0) a).setIfInBounds (o + 1) b).setIfInBounds (o + 2) c).setIfInBounds (o + 3) d = put cur o [a, b, c, d] := by
  refine Array.ext' ?_
  refine List.ext_getElem? (fun j => ?_)
  rw [Array.getElem?_toList, Array.getElem?_toList, put_get (by simpa using h)]
  simp only [Array.getElem?_setIfInBounds, Array.size_setIfInBounds, List.length_cons, List.length_nil]
  by_cases h3 : o + 3 = j
  · subst h3; rw [if_pos rfl, if_pos (by omega), if_neg (by omega), if_pos (by omega)]; simp
  · rw [if_neg h3]
    by_cases h2 : o + 2 = j
    · subst h2; rw [if_pos rfl, if_pos (by omega), if_neg (by omega), if_pos (by omega)]; simp
    · rw [if_neg h2]
      by_cases h1 : o + 1 = j
      · subst h1; rw [if_pos rfl, if_pos (by omega), if_neg (by omega), if_pos (by omega)]; simp
      · rw [if_neg h1]
        by_cases h0 : o + 0 = j
        · subst h0; rw [if_pos rfl, if_pos (by omega), if_neg (by omega), if_pos (by omega)]; simp
        · rw [if_neg h0]
          by_cases hj : j < o
          · rw [if_pos hj]
          · rw [if_neg hj, if_neg (by omega)]
theorem put_ (w : World) {b9 off sn sc n : Nat} {ty : TypeId} {xs : List Nat} (hB : Blk w b9 ty (blkV xs)) (h4 : 4 ≤ sn) (ho : off + 4 ≤ xs.length) :
    Calls Try.prog 67 #[.slice (some ⟨b9, off, none⟩) sn sc, .int .i64 (n : Nat)] w (Ret fun r w' => Upd (one b9) w w' ∧ Blk w' b9 ty (blkV (lput xs off (be4 n))) ∧ r = .tuple #[]) := by
  refine calls_E (args := [.slice (some ⟨b9, off, none⟩) sn sc, .int .i64 (n : Nat)]) 23 Try.func67 rfl rfl (by simp) ?_
  have hE : Upd (one b9) w w := Upd.refl w
  have hU := hE
  clear hE
  refine E.regionP rfl ?_
  refine R.move ?_
  refine R.move ?_
  refine R.move ?_
  refine R.move ?_
  refine R.move ?_
  refine R.shrN (m := n) (n := 24) rfl rfl (by decide) ?_
  refine R.toU8 (n := n / 2 ^ 24) Try.underlying3 Try.underlying5 rfl ?_
  refine R.move ?_
  refine R.shrN (m := n) (n := 16) rfl rfl (by decide) ?_
  refine R.toU8 (n := n / 2 ^ 16) Try.underlying3 Try.underlying5 rfl ?_
  refine R.move ?_
  refine R.shrN (m := n) (n := 8) rfl rfl (by decide) ?_
  refine R.toU8 (n := n / 2 ^ 8) Try.underlying3 Try.underlying5 rfl ?_
  refine R.move ?_
  refine R.toU8 (n := n) Try.underlying3 Try.underlying5 rfl ?_
  refine R.ixB (m := 0) Try.underlying55 t5 rfl rfl (by omega) ?_
  refine R.store t5 hB rfl rfl rfl (by simp; omega) nofun ?_
  intro w50 hU50 hs50 hN50
  replace hU := hU.trans hU50 (fun x _ h => h)
  replace hB := hN50
  refine R.ixB (m := 1) Try.underlying55 t5 rfl rfl (by omega) ?_
  refine R.store t5 hB rfl rfl rfl (by simp; omega) nofun ?_
  intro w51 hU51 hs51 hN51
  replace hU := hU.trans hU51 (fun x _ h => h)
  replace hB := hN51
  refine R.ixB (m := 2) Try.underlying55 t5 rfl rfl (by omega) ?_
  refine R.store t5 hB rfl rfl rfl (by simp; omega) nofun ?_
  intro w52 hU52 hs52 hN52
  replace hU := hU.trans hU52 (fun x _ h => h)
  replace hB := hN52
  refine R.ixB (m := 3) Try.underlying55 t5 rfl rfl (by omega) ?_
  refine R.store t5 hB rfl rfl rfl (by simp; omega) nofun ?_
  intro w53 hU53 hs53 hN53
  replace hU := hU.trans hU53 (fun x _ h => h)
  replace hB := hN53
  refine R.nil ?_
  refine end0 rfl ⟨_, rfl, hU, ?_, rfl⟩
  rw [← put_blk (by simp [be4]; omega)]
  have h9 := set4 (cur := blkV xs) (o := off) (a := .int .u8 ((n / 2 ^ 24 % 256 : Nat) : Int)) (b := .int .u8 ((n / 2 ^ 16 % 256 : Nat) : Int)) (c := .int .u8 ((n / 2 ^ 8 % 256 : Nat) : Int)) (d := .int .u8 ((n % 256 : Nat) : Int)) (by simp; omega)
  rw [show u8s (be4 n) = [.int .u8 ((n / 2 ^ 24 % 256 : Nat) : Int), .int .u8 ((n / 2 ^ 16 % 256 : Nat) : Int), .int .u8 ((n / 2 ^ 8 % 256 : Nat) : Int), .int .u8 ((n % 256 : Nat) : Int)] from rfl, ← h9]
  exact hB
end Go.Proofs.Ytlplogplicgfiaa

namespace Go.Proofs.Ytlplogplicgfiaa
open Go Go.RowKit
theorem R.minN {P : Program} {ops : Array Oper} {S : Bool → Nat → Prop} {dr : Bool} {B : List Nat} {F : Env → World → Prop} {rest : List Oper} {e : Env} {w : World} {d : Tmp} {ty : TypeId} {pos : String} {aft : Array Edge} {x y : Operand} {ats : Array TypeId} {m n : Nat} (hx : ev e x = .int .i64 (m : Nat)) (hy : ev e y = .int .i64 (n : Nat))
    (h : wpR P ops S dr (kind B) F rest (upd e d (.int .i64 ((min m n : Nat) : Int))) w) : wpR P ops S dr (kind B) F (⟨some d, .call { callee := .builtin .min, args := #[x, y], argTypes := ats }, ty, pos, aft, none⟩ :: rest) e w := by
  refine R.quiet (.int .i64 ((min m n : Nat) : Int)) rfl (fun w' _ => ?_) h
  simp [execOp, resolve, invoke, builtin, hx, hy, run_min_int2]
  split <;> omega
theorem U8s.sub {w : World} {v : Value} {xs : List Nat} (h : Row w 1 v xs.length (u8s xs)) {l r : Nat} (hl : l ≤ r) (hr : r ≤ xs.length) : U8s w (Ytlplogplicgfiaa.cut 1 v l r) ((xs.drop l).take (r - l)) := by
  have h1 := Row.cut h hl hr
  show Row w 1 _ ((xs.drop l).take (r - l)).length _
  have e : ((xs.drop l).take (r - l)).length = r - l := by simp; omega
  rw [e]
  simpa [u8s, List.map_take, List.map_drop] using h1
def dataL (rec : List Nat) (k : Nat) : List Nat := (rec.drop (48 * k)).take (min (48 * (k + 1)) rec.length - 48 * k)
theorem dataL_len {rec : List Nat} {k : Nat} (h : 48 * k ≤ rec.length) : (dataL rec k).length = min (48 * (k + 1)) rec.length - 48 * k := by simp [dataL]; omega
def headB (total k n : Nat) : List Nat := [1, k % 256, total % 256, n % 256] ++ List.replicate 60 0
def pieceB (total number life first : Nat) (data : List Nat) (k : Nat) : List Nat := lput (lput (lput (lput (headB total k data.length) 4 (be4 number)) 8 (be4 life)) 12 (be4 first)) 16 data
theorem headB_len {t k n : Nat} : (headB t k n).length = 64 := by simp [headB]
theorem build27_4 {a b c : Nat} (w : World) : (Instr.build 27 #[(0, .int .u8 1), (1, .int .u8 ((a % 256 : Nat) : Int)), (2, .int .u8 ((b % 256 : Nat) : Int)), (3, .int .u8 ((c % 256 : Nat) : Int))]).run Try.prog w = .ok (.agg (blkV (headB b a c))) w := by
  have e : (Value.agg (Array.replicate 64 (.int .u8 0))).cells = Array.replicate 64 (.int .u8 0) := rfl
  have e1 : blkV (headB b a c) = (((((Array.replicate 64 (Value.int .u8 0)).setIfInBounds 0 (.int .u8 1)).setIfInBounds 1 (.int .u8 ((a % 256 : Nat) : Int))).setIfInBounds 2 (.int .u8 ((b % 256 : Nat) : Int))).setIfInBounds 3 (.int .u8 ((c % 256 : Nat) : Int))) := rfl
  rw [e1]
  simp [Instr.build, t27.zero, underlying, Try.underlying27, t5.sizeOf, Instr.fill, Value.cells]
theorem piece_ (w : World) {vr : Value} {total number life first k : Nat} {rec : List Nat} (hr : U8s w vr rec) (hk : 48 * k ≤ rec.length) (hrl : rec.length < 1000000) :
    Calls Try.prog 54 #[.agg #[.int .i64 (total : Nat), .int .i64 (number : Nat), .int .i64 (life : Nat), .int .i64 (first : Nat)], vr, .int .i64 (k : Nat)] w (Ret fun r w' => Ext w w' ∧ r = .agg (blkV (pieceB total number life first (dataL rec k) k))) := by
  refine calls_E (args := [.agg #[.int .i64 (total : Nat), .int .i64 (number : Nat), .int .i64 (life : Nat), .int .i64 (first : Nat)], vr, .int .i64 (k : Nat)]) 44 Try.func54 rfl rfl (by simp) ?_
  have hE : Ext w w := Upd.refl w
  refine E.seq ?_
  refine E.regionP rfl ?_
  refine R.box rfl nofun ?_
  intro b3 w1 hb3 hx1 hB3
  replace hb3 := Nat.le_trans hE.size hb3
  replace hE := hE.ext hx1
  replace hB3 : Blk _ b3 103 #[.int .i64 (total : Nat), .int .i64 (number : Nat), .int .i64 (life : Nat), .int .i64 (first : Nat)] := hB3
  refine R.alloc t27 nofun ?_
  intro b6 w2 hb6 hx6 hB6
  replace hb6 := Nat.le_trans hE.size hb6
  replace hB3 := hB3.ext hx6
  replace hE := hE.ext hx6
  replace hB6 : Blk w2 b6 27 (Array.replicate 64 (.int .u8 0)) := hB6
  rw [← zeroV] at hB6
  refine R.nil ?_
  refine E.seq ?_
  refine E.regionP rfl ?_
  refine R.move ?_
  refine R.move ?_
  refine R.mulN (m := 48) (n := k) rfl rfl (by omega) ?_
  refine R.move ?_
  refine R.addN (m := k) (n := 1) rfl rfl (by omega) ?_
  refine R.mulN (m := 48) (n := k + 1) rfl rfl (by omega) ?_
  refine R.move ?_
  refine R.len Try.underlying55 hr rfl ?_
  refine R.minN rfl rfl ?_
  have hr9 := hr
  obtain ⟨ar, cr, hvr, hcr, _⟩ := hr9
  refine R.slc (l := 48 * k) (r := min (48 * (k + 1)) rec.length) Try.underlying55 t5 rfl hvr ⟨_, rfl⟩ ⟨_, rfl⟩ (by omega) (by omega) ?_
  have hdat := U8s.sub hr (l := 48 * k) (r := min (48 * (k + 1)) rec.length) (by omega) (by omega)
  refine R.assign ?_
  refine R.nil ?_
  refine E.seq ?_
  refine E.regionP rfl ?_
  refine R.move ?_
  refine R.toU8 (n := k) Try.underlying3 Try.underlying5 rfl ?_
  refine R.fld fa103_0 rfl ?_
  refine R.loadB t3 hB3 rfl rfl rfl trivial ?_
  refine R.toU8 (n := total) Try.underlying3 Try.underlying5 rfl ?_
  refine R.move ?_
  refine R.len Try.underlying55 hdat rfl ?_
  refine R.toU8 (n := (dataL rec k).length) Try.underlying3 Try.underlying5 rfl ?_
  refine R.build build27_4 rfl ?_
  refine R.alloc t27 nofun ?_
  intro b8 w3 hb8 hx8 hB8
  have ne6_8 : b6 ≠ b8 := by have := hB6.lt; omega
  replace hb8 := Nat.le_trans hE.size hb8
  replace hB3 := hB3.ext hx8
  replace hB6 := hB6.ext hx8
  replace hE := hE.ext hx8
  replace hB8 : Blk w3 b8 27 (Array.replicate 64 (.int .u8 0)) := hB8
  refine R.storeA t27 hB8 rfl rfl (by simp) (blkV_size headB_len) blkV_ones nofun ?_
  intro w4 hU4 hs4 hN4
  replace hB3 := hB3.upT hU4 hB8 (by decide)
  replace hB6 := hB6.up hU4 (fun h => ne6_8 h)
  replace hE := hE.own hU4 hb8
  replace hB8 := hN4
  have hl0 : (headB total k (dataL rec k).length).length = 64 := headB_len
  refine R.nil ?_
  refine E.seq ?_
  refine E.regionW (fun c x => x < w4.heap.size ∧ (c = false → x ≠ b8)) []  mixed rfl (by kernel_rfl) ?_
  intro w2 hx2 hh2
  replace hB3 := hB3.ext hx2
  replace hB6 := hB6.ext hx2
  replace hB8 := hB8.ext hx2
  replace hE := hE.ext hx2
  have hEs : Ext w2 w2 := Upd.refl _
  have hS0 := hx2.size
  have hSB : ∀ b, b < w2.heap.size → b < w4.heap.size ∧ (true = false → (fun x => x ≠ b8) b) := fun b hb => ⟨by rw [hh2] at hb; exact hb, nofun⟩
  have hSA : ∀ b, b < w2.heap.size → (fun x => x ≠ b8) b → b < w4.heap.size ∧ (false = false → (fun x => x ≠ b8) b) := fun b hb h => ⟨by rw [hh2] at hb; exact hb, fun _ => h⟩
  have hB3s := hB3
  have hB6s := hB6
  have hB8s := hB8
  refine R.slcA (l := 4) (r := 64) Try.underlying27 t5 rfl ⟨_, rfl⟩ rfl (by decide) (by decide) (by decide) ?_
  refine R.fld fa103_1 rfl ?_
  refine R.loadB t3 hB3 rfl rfl rfl (hSA b3 hB3s.lt ((hB3.ne hB8 (by decide)))) ?_
  refine R.call2 ent67 (put_ _ (b9 := b8) (off := 0 + 4) (n := number) hB8 (by decide) (by rw [hl0]; decide)) rfl rfl ?_
  rintro v31 w31 ⟨hU31, hN31, rfl⟩
  refine ⟨fun _ => hU31.agree (fun x hx => ⟨Nat.lt_of_lt_of_le hx.1 (Nat.le_trans hS0 hEs.size), fun e => hx.2 rfl e⟩), ?_⟩
  replace hB3 := hB3.upT hU31 hB8 (by decide)
  replace hB6 := hB6.up hU31 (fun h => ne6_8 h)
  replace hE := hE.own hU31 hb8
  replace hB8 := hN31
  have hl31 := (lput_len (xs := headB total k (dataL rec k).length) (ys := be4 number) (o := 4) (by rw [hl0]; simp [be4])).trans hl0
  refine R.nil ?_
  refine E.seq ?_
  refine E.regionW (fun c x => x < w31.heap.size ∧ (c = false → x ≠ b8)) []  mixed rfl (by kernel_rfl) ?_
  intro w3 hx3 hh3
  replace hB3 := hB3.ext hx3
  replace hB6 := hB6.ext hx3
  replace hB8 := hB8.ext hx3
  replace hE := hE.ext hx3
  have hEs : Ext w3 w3 := Upd.refl _
  have hS0 := hx3.size
  have hSB : ∀ b, b < w3.heap.size → b < w31.heap.size ∧ (true = false → (fun x => x ≠ b8) b) := fun b hb => ⟨by rw [hh3] at hb; exact hb, nofun⟩
  have hSA : ∀ b, b < w3.heap.size → (fun x => x ≠ b8) b → b < w31.heap.size ∧ (false = false → (fun x => x ≠ b8) b) := fun b hb h => ⟨by rw [hh3] at hb; exact hb, fun _ => h⟩
  have hB3s := hB3
  have hB6s := hB6
  have hB8s := hB8
  refine R.slcA (l := 8) (r := 64) Try.underlying27 t5 rfl ⟨_, rfl⟩ rfl (by decide) (by decide) (by decide) ?_
  refine R.fld fa103_2 rfl ?_
  refine R.loadB t3 hB3 rfl rfl rfl (hSA b3 hB3s.lt ((hB3.ne hB8 (by decide)))) ?_
  refine R.call2 ent67 (put_ _ (b9 := b8) (off := 0 + 8) (n := life) hB8 (by decide) (by rw [hl31]; decide)) rfl rfl ?_
  rintro v35 w35 ⟨hU35, hN35, rfl⟩
  refine ⟨fun _ => hU35.agree (fun x hx => ⟨Nat.lt_of_lt_of_le hx.1 (Nat.le_trans hS0 hEs.size), fun e => hx.2 rfl e⟩), ?_⟩
  replace hB3 := hB3.upT hU35 hB8 (by decide)
  replace hB6 := hB6.up hU35 (fun h => ne6_8 h)
  replace hE := hE.own hU35 hb8
  replace hB8 := hN35
  have hl35 := (lput_len (xs := lput (headB total k (dataL rec k).length) 4 (be4 number)) (ys := be4 life) (o := 8) (by rw [hl31]; simp [be4])).trans hl31
  refine R.nil ?_
  refine E.seq ?_
  refine E.regionW (fun c x => x < w35.heap.size ∧ (c = false → x ≠ b8)) []  mixed rfl (by kernel_rfl) ?_
  intro w4 hx4 hh4
  replace hB3 := hB3.ext hx4
  replace hB6 := hB6.ext hx4
  replace hB8 := hB8.ext hx4
  replace hE := hE.ext hx4
  have hEs : Ext w4 w4 := Upd.refl _
  have hS0 := hx4.size
  have hSB : ∀ b, b < w4.heap.size → b < w35.heap.size ∧ (true = false → (fun x => x ≠ b8) b) := fun b hb => ⟨by rw [hh4] at hb; exact hb, nofun⟩
  have hSA : ∀ b, b < w4.heap.size → (fun x => x ≠ b8) b → b < w35.heap.size ∧ (false = false → (fun x => x ≠ b8) b) := fun b hb h => ⟨by rw [hh4] at hb; exact hb, fun _ => h⟩
  have hB3s := hB3
  have hB6s := hB6
  have hB8s := hB8
  refine R.slcA (l := 12) (r := 64) Try.underlying27 t5 rfl ⟨_, rfl⟩ rfl (by decide) (by decide) (by decide) ?_
  refine R.fld fa103_3 rfl ?_
  refine R.loadB t3 hB3 rfl rfl rfl (hSA b3 hB3s.lt ((hB3.ne hB8 (by decide)))) ?_
  refine R.call2 ent67 (put_ _ (b9 := b8) (off := 0 + 12) (n := first) hB8 (by decide) (by rw [hl35]; decide)) rfl rfl ?_
  rintro v39 w39 ⟨hU39, hN39, rfl⟩
  refine ⟨fun _ => hU39.agree (fun x hx => ⟨Nat.lt_of_lt_of_le hx.1 (Nat.le_trans hS0 hEs.size), fun e => hx.2 rfl e⟩), ?_⟩
  replace hB3 := hB3.upT hU39 hB8 (by decide)
  replace hB6 := hB6.up hU39 (fun h => ne6_8 h)
  replace hE := hE.own hU39 hb8
  replace hB8 := hN39
  have hl39 := (lput_len (xs := lput (lput (headB total k (dataL rec k).length) 4 (be4 number)) 8 (be4 life)) (ys := be4 first) (o := 12) (by rw [hl35]; simp [be4])).trans hl35
  refine R.nil ?_
  refine E.seq ?_
  refine E.regionP rfl ?_
  refine R.slcA (l := 16) (r := 64) Try.underlying27 t5 rfl ⟨_, rfl⟩ rfl (by decide) (by decide) (by decide) ?_
  refine R.move ?_
  have hdl : (dataL rec k).length ≤ 48 := by rw [dataL_len hk]; omega
  refine R.copy (off := 0 + 16) (m := (dataL rec k).length) (cs := u8s (dataL rec k)) Try.underlying55 t5 hB8 (hdat.ext hE) u8s_one rfl rfl (by simp [hl39]) nofun ?_
  intro w42 hU42 hs42 hN42
  replace hB6 := hB6.up hU42 (fun h => ne6_8 h)
  replace hE := hE.own hU42 hb8
  rw [List.take_of_length_le (by simp; omega), Nat.zero_add, put_blk (by rw [hl39]; omega)] at hN42
  replace hB8 := hN42
  have hlf := (lput_len (xs := lput (lput (lput (headB total k (dataL rec k).length) 4 (be4 number)) 8 (be4 life)) 12 (be4 first)) (ys := dataL rec k) (o := 16) (by rw [hl39]; omega)).trans hl39
  refine R.nil ?_
  refine E.seq ?_
  refine E.regionP rfl ?_
  refine R.loadA t27 hB8 rfl (blkV_size hlf) rfl trivial ?_
  refine R.storeA t27 hB6 rfl rfl (blkV_size zeroB_ok.1) (blkV_size hlf) blkV_ones nofun ?_
  intro w44 hU44 hs44 hN44
  replace hE := hE.own hU44 hb6
  replace hB6 := hN44
  refine R.nil ?_
  refine E.ret ?_
  exact retA t27 hB6 (blkV_size hlf) rfl rfl ⟨_, rfl, hE, rfl⟩
end Go.Proofs.Ytlplogplicgfiaa
