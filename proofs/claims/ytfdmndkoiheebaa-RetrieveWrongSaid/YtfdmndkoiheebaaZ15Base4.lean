import Derived.Test.YtfdmndkoiheebaaZ15B1
import Derived.Test.YtfdmndkoiheebaaZ15Frame
namespace Go.Proofs.Ytfdmndkoiheebaa
open Go Go.RowKit
theorem SInts.nil (w : World) : SInts w (.slice none 0 0) [] := Sl.nil w 3 1
theorem SInts.app {w : World} {v : Value} {xs ys : List Int} {m : Nat} (h : Sl w 3 1 v (xs.length + m) (ints xs ++ ints ys)) (hm : m = ys.length) : SInts w v (xs ++ ys) := by
  show Sl w 3 1 v (xs ++ ys).length _
  rw [List.length_append, show ints (xs ++ ys) = ints xs ++ ints ys by simp [ints], ← hm]
  exact h
theorem Ints.drop {w : World} {v : Value} {xs : List Int} (h : Ints w v xs) {k : Nat} (hk : k ≤ xs.length) : Ints w (cut 1 v k xs.length) (xs.drop k) := by
  have := h.cut (l := k) (r := xs.length) hk (Nat.le_refl _)
  show Row w 1 _ (xs.drop k).length _
  have e : (ints xs).drop (k * 1) = ints (xs.drop k) := by simp [ints, List.map_drop]
  rw [e, Nat.mul_one, List.take_of_length_le (by simp [ints])] at this
  rw [List.length_drop]
  exact this
theorem SInts.take {w : World} {v : Value} {xs : List Int} (h : SInts w v xs) {k : Nat} (hk : k ≤ xs.length) : SInts w (cut 1 v 0 k) (xs.take k) := by
  have := h.cut (l := 0) (r := k) (Nat.zero_le _) hk
  show Sl w 3 1 _ (xs.take k).length _
  have e : ((ints xs).drop (0 * 1)).take ((k - 0) * 1) = ints (xs.take k) := by simp [ints, List.map_take]
  rw [e, Nat.sub_zero] at this
  rw [List.length_take, Nat.min_eq_left hk]
  exact this
def findV (xss : List (List Int)) (b : Int) : Value :=
  match findL xss b with
  | some (i, k) => .tuple #[.int .i64 i, .int .i64 k, .bool true]
  | none => .tuple #[.int .i64 0, .int .i64 0, .bool false]
theorem find (w : World) {v : Value} {h b : Int} {us : List Value} {xss : List (List Int)} (hm : Mat w v us xss) (hl : xss.length < 1000000) (hx : ∀ xs ∈ xss, xs.length < 1000000) :
    Calls Try.prog 23 #[.agg #[v, .int .i64 h], .int .i64 b] w (Ret fun r w' => Ext w w' ∧ r = findV xss b) := by
  refine calls_E (args := [.agg #[v, .int .i64 h], .int .i64 b]) 26 Try.func23 rfl rfl (by simp) ?_
  have hE : Ext w w := Upd.refl w
  refine E.seq ?_
  refine E.regionP rfl ?_
  refine R.box rfl nofun ?_
  intro b2 w1 hb2 hx1 hB2
  replace hb2 := Nat.le_trans hE.size hb2
  replace hE := hE.ext hx1
  replace hB2 : Blk _ b2 24 #[v, .int .i64 h] := hB2
  refine R.assign ?_
  refine R.assign ?_
  refine R.assign ?_
  refine R.nil ?_
  refine E.seq ?_
  refine E.seq ?_
  refine E.regionP rfl ?_
  refine R.fld fa24_0 rfl ?_
  refine R.loadB t22 hB2 rfl rfl rfl trivial ?_
  refine R.len Try.underlying22 hm.row rfl ?_
  refine R.move ?_
  refine R.nil ?_
  refine E.block ?_
  refine E.loop (fun n e wr => ∃ i : Nat, n = xss.length - i ∧ i ≤ xss.length ∧ Ext w wr ∧ (∀ xs ∈ xss.take i, b ∉ xs) ∧ Has e [(1, .int .i64 b), (11, v), (12, .int .i64 xss.length), (13, .int .i64 i)]) (xss.length) ?_ ?_
  · exact ⟨0, rfl, Nat.zero_le _, hE, by simp, rfl, rfl, rfl, rfl, trivial⟩
  · rintro n e wr ⟨i, rfl, hi, hE, hn, hH⟩
    obtain ⟨e, rfl⟩ := hH.ex
    clear hH
    refine E.seq ?_
    refine E.regionP rfl ?_
    refine R.lss rfl rfl rfl ?_
    refine R.nil ?_
    refine E.seq ?_
    refine E.cond rfl (fun hc14 => ?_) (fun hc14 => ?_)
    · replace hc14 := dT hc14
      refine E.skip ?_
      refine E.seq ?_
      refine E.block ?_
      refine E.seq ?_
      refine E.regionP rfl ?_
      refine R.move ?_
      refine R.ix Try.underlying22 t35 (by decide) hm.row rfl rfl (by omega) ?_
      obtain ⟨u17, hu17, hr17⟩ := hm.get i (by omega)
      refine R.ld t35 (hm.row.ext hE) rfl hu17 rfl (fun _ _ => trivial) ?_
      refine R.assign ?_
      refine R.assign ?_
      refine R.nil ?_
      refine E.seq ?_
      refine E.regionP rfl ?_
      refine R.move ?_
      refine R.move ?_
      refine R.callE2 ent61 (sIndex _ (hr17.ext hE) (Nat.lt_trans (hx _ (List.getElem_mem _)) (by decide))) rfl rfl nofun ?_
      rintro v20 w2 hx2 rfl
      replace hE := hE.ext hx2
      refine R.assign ?_
      refine R.nil ?_
      refine E.seq ?_
      refine E.regionP rfl ?_
      refine R.move ?_
      refine R.geq rfl rfl rfl ?_
      refine R.nil ?_
      refine E.cond rfl (fun hc22 => ?_) (fun hc22 => ?_)
      · replace hc22 := dT hc22
        refine E.seq ?_
        refine E.regionP rfl ?_
        refine R.move ?_
        refine R.move ?_
        refine R.assign ?_
        refine R.assign ?_
        refine R.assign ?_
        refine R.nil ?_
        refine E.ret ?_
        have hin : b ∈ xss[i] := by
          refine Decidable.byContradiction fun hn => ?_
          rw [indexL_miss hn] at hc22
          omega
        have hi2 : indexL xss[i] b = (xss[i].idxOf b : Nat) := by simp [indexL, hin]
        refine ret3 (.int .i64 i) (.int .i64 (xss[i].idxOf b : Nat)) (.bool true) rfl rfl (by rw [← hi2]; rfl) rfl ⟨_, rfl, hE, ?_⟩
        simp [findV, findL_hit (by omega) hn hin]
      · replace hc22 := dF hc22
        refine E.skip ?_
        refine E.regionP rfl ?_
        refine R.addN (n := 1) rfl rfl (by omega) ?_
        refine R.move ?_
        refine R.nil ?_
        refine ⟨xss.length - (i + 1), by omega, i + 1, rfl, by omega, hE, ?_, rfl, rfl, rfl, rfl, trivial⟩
        intro xs hxs
        rw [List.take_succ_eq_append_getElem (by omega)] at hxs
        rcases List.mem_append.1 hxs with hxs | hxs
        · exact hn xs hxs
        · simp at hxs; subst hxs
          intro hb
          apply hc22
          simp [indexL, hb]
    · replace hc14 := dF hc14
      refine E.exit ?_
      refine E.seq ?_
      refine E.regionP rfl ?_
      refine R.assign ?_
      refine R.assign ?_
      refine R.assign ?_
      refine R.nil ?_
      refine E.ret ?_
      refine ret3 (.int .i64 0) (.int .i64 0) (.bool false) rfl rfl rfl rfl ⟨_, rfl, hE, ?_⟩
      obtain rfl : i = xss.length := by omega
      rw [List.take_length] at hn
      simp [findV, findL_miss hn]
end Go.Proofs.Ytfdmndkoiheebaa

namespace Go.Proofs.Ytfdmndkoiheebaa
open Go Go.RowKit
theorem sum_lengths {xss : List (List Int)} {h : Int} (hr : RightP xss h) : ∀ xs ∈ xss, xs.length ≤ 6 := fun xs hx => by
  have := hr.2.2.2.2.1 xs hx
  have := hr.2.1
  omega
end Go.Proofs.Ytfdmndkoiheebaa

namespace Go.Proofs.Ytfdmndkoiheebaa
open Go Go.RowKit
theorem flatten_le {xss : List (List Int)} {k : Nat} (h : ∀ xs ∈ xss, xs.length ≤ k) : xss.flatten.length ≤ xss.length * k := by
  induction xss with
  | nil => simp
  | cons x xss ih =>
    have h1 := h x List.mem_cons_self
    have h2 := ih (fun xs hx => h xs (List.mem_cons_of_mem _ hx))
    simp [Nat.add_mul] at *; omega
theorem flatten_take_le {xss : List (List Int)} {i : Nat} : (xss.take i).flatten.length ≤ xss.flatten.length := by
  conv => rhs; rw [← List.take_append_drop i xss, List.flatten_append, List.length_append]
  omega
end Go.Proofs.Ytfdmndkoiheebaa

namespace Go.Proofs.Ytfdmndkoiheebaa
open Go Go.RowKit
theorem Blk.upS {w w' : World} {ty ty' : TypeId} {b k' : Nat} {x : Value} {m : Nat} {cs : Array Value} {ds : List Value} (h : Blk w b ty cs) (u : Upd (fun b => vblk x = some b) w w') (hx : Sl w ty' k' x m ds) (hne : ty ≠ ty') : Blk w' b ty cs := by
  refine h.up u (fun e => ?_)
  obtain ⟨a', cap', rfl, _, _, h'⟩ := hx
  rcases h' with ⟨rfl, _⟩ | ⟨b', off', cur', rfl, hb', _⟩
  · simp [vblk] at e
  · simp [vblk] at e; subst e; exact hne (h.inj hb').2
end Go.Proofs.Ytfdmndkoiheebaa

namespace Go.Proofs.Ytfdmndkoiheebaa
open Go Go.RowKit
theorem Blk.ne_vblk {w : World} {b k' m : Nat} {ty ty' : TypeId} {cs : Array Value} {x : Value} {ds : List Value} (h : Blk w b ty cs) (hx : Sl w ty' k' x m ds) (hne : ty ≠ ty') : vblk x ≠ some b := by
  intro e
  obtain ⟨a', cap', rfl, _, _, h'⟩ := hx
  rcases h' with ⟨rfl, _⟩ | ⟨b', off', cur', rfl, hb', _⟩
  · simp [vblk] at e
  · simp [vblk] at e; subst e; exact hne (h.inj hb').2
structure PY (w : World) (v : Value) (H ba : Nat) (us : List Value) (cur : Array Value) (xss : List (List Int)) : Prop where
  outer : Sl w 35 1 v xss.length us
  all : Blk w ba 3 cur
  size : xss.length * H ≤ cur.size
  elems : ∀ i (h : i < xss.length), us[i]? = some (.slice (some ⟨ba, i * H, none⟩) xss[i].length H) ∧ xss[i].length ≤ H ∧ ∀ j (hj : j < xss[i].length), cur[i * H + j]? = some (.int .i64 xss[i][j])
section
variable {w w' : World} {v : Value} {H ba : Nat} {us : List Value} {cur : Array Value} {xss : List (List Int)}
theorem PY.ext (h : PY w v H ba us cur xss) (u : Ext w w') : PY w' v H ba us cur xss := ⟨h.outer.ext u, h.all.ext u, h.size, h.elems⟩
theorem PY.upT {b : Nat} {cs : Array Value} {ty : TypeId} (h : PY w v H ba us cur xss) (u : Upd (one b) w w') (hb : Blk w b ty cs) (hne : 35 ≠ ty ∧ 3 ≠ ty) : PY w' v H ba us cur xss := ⟨h.outer.upT u hb hne.1, h.all.upT u hb hne.2, h.size, h.elems⟩
theorem PY.one (h : PY w v H ba us cur xss) : v.oneCell' = true := h.outer.one
theorem seg_le {i n H : Nat} (h : i < n) : i * H + H ≤ n * H := by
  have := Nat.mul_le_mul_right H (show i + 1 ≤ n from h)
  rw [Nat.add_mul, Nat.one_mul] at this
  exact this
theorem PY.row (h : PY w v H ba us cur xss) (i : Nat) (hi : i < xss.length) : SInts w (.slice (some ⟨ba, i * H, none⟩) xss[i].length H) xss[i] := by
  obtain ⟨_, h2, h3⟩ := h.elems i hi
  refine ⟨_, _, rfl, h2, by simp, .inr ⟨ba, i * H, cur, rfl, h.all, ?_, fun j hj => ?_⟩⟩
  · have := seg_le (H := H) hi
    have := h.size
    omega
  · simp only [List.length_map] at hj
    rw [h3 j hj]; simp [hj]
theorem PY.mat (h : PY w v H ba us cur xss) : Mat w v us xss :=
  ⟨h.outer.row, fun i hi => ⟨_, (h.elems i hi).1, (h.row i hi).row⟩⟩
theorem PY.nil (w : World) {ba : Nat} {cur : Array Value} (hb : Blk w ba 3 cur) : PY w (.slice none 0 0) H ba [] cur [] := ⟨Sl.nil _ _ _, hb, by simp, fun i h => by simp at h⟩
theorem PY.snoc {i : Nat} {v' : Value} (hi : i < xss.length) (h : PY w v H ba us cur (xss.take i)) (hx : xss[i].length ≤ H) (hc : xss.length * H ≤ cur.size) (ho : Sl w' 35 1 v' (i + 1) (us ++ [.slice (some ⟨ba, i * H, none⟩) xss[i].length H]))
    (ha : Blk w' ba 3 (put cur (i * H) (ints xss[i]))) : PY w' v' H ba (us ++ [.slice (some ⟨ba, i * H, none⟩) xss[i].length H]) (put cur (i * H) (ints xss[i])) (xss.take (i + 1)) := by
  have hmin : min (i + 1) xss.length = i + 1 := by omega
  have hmin2 : min i xss.length = i := by omega
  have hul : us.length = i := by have := h.outer.len; simp [hmin2] at this; exact this
  have hseg := seg_le (H := H) hi
  have hfit : i * H + (ints xss[i]).length ≤ cur.size := by simp; omega
  refine ⟨by rw [List.length_take, hmin]; exact ho, ha, ?_, fun j hj => ?_⟩
  · rw [put_size hfit, List.length_take, hmin]
    rw [Nat.add_mul, Nat.one_mul]; omega
  · rw [List.length_take, hmin] at hj
    have e1 : (xss.take (i + 1))[j]'(by rw [List.length_take, hmin]; exact hj) = xss[j]'(by omega) := by simp
    rw [e1]
    by_cases hji : j < i
    · obtain ⟨h1, h2, h3⟩ := h.elems j (by rw [List.length_take, hmin2]; exact hji)
      have e2 : (xss.take i)[j]'(by rw [List.length_take, hmin2]; exact hji) = xss[j]'(by omega) := by simp
      simp only [e2] at h1 h2 h3
      refine ⟨by rw [List.getElem?_append_left (by omega)]; exact h1, h2, fun k hk => ?_⟩
      have := seg_le (H := H) hji
      rw [put_get hfit, if_pos (by omega)]
      exact h3 k hk
    · obtain rfl : j = i := by omega
      refine ⟨by rw [List.getElem?_append_right (by omega)]; simp [hul], hx, fun k hk => ?_⟩
      rw [put_get hfit, if_neg (by omega), if_pos (by simp; omega)]
      simp [hk]
end
end Go.Proofs.Ytfdmndkoiheebaa

namespace Go.Proofs.Ytfdmndkoiheebaa
open Go Go.RowKit
namespace R
variable {P : Program} {ops : Array Oper} {S : Bool → Nat → Prop} {dr : Bool} {B : List Nat} {F : Env → World → Prop} {rest : List Oper} {e : Env} {w : World}
variable {d : Tmp} {od : Option Tmp} {ty : TypeId} {pos : String} {aft : Array Edge}
theorem slcE {x : Operand} {t el : TypeId} {k by_ : Nat} {g : Bool} {z : Value} {v : Value} {lo hi : Option Operand} {l r : Nat} {n : Nat} {a : Option Addr} {c : Nat} (v' : Value) (hu : P.underlying t = some (.slice el)) (hk : Ty P el k by_ g z) (hx : ev e x = v) (hv : v = .slice a n c)
    (hlo : (match lo with | none => l = 0 | some y => ∃ ik, ev e y = .int ik l)) (hhi : (match hi with | none => r = n | some y => ∃ ik, ev e y = .int ik r)) (hlr : l ≤ r) (hrc : r ≤ c) (hc : cut k v l r = v')
    (h : wpR P ops S dr (kind B) F rest (upd e d v') w) : wpR P ops S dr (kind B) F (⟨some d, .slice t x lo hi none, ty, pos, aft, none⟩ :: rest) e w :=
  slc hu hk hx hv hlo hhi hlr hrc (by rw [hc]; exact h)
theorem mv {x : Operand} (v : Value) (hx : ev e x = v) (h : wpR P ops S dr (kind B) F rest (upd e d v) w) : wpR P ops S dr (kind B) F (⟨some d, .move x, ty, pos, aft, none⟩ :: rest) e w :=
  move (by rw [hx]; exact h)
end R
end Go.Proofs.Ytfdmndkoiheebaa
