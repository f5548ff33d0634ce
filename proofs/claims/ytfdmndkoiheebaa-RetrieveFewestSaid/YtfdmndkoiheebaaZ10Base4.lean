import Derived.Test.YtfdmndkoiheebaaZ10B6
import Derived.Test.YtfdmndkoiheebaaZ10A1
namespace Go.Proofs.Ytfdmndkoiheebaa
open Go Go.RowKit
theorem Blk.ne_vblk {w : World} {b k' m : Nat} {ty ty' : TypeId} {cs : Array Value} {x : Value} {ds : List Value} (h : Blk w b ty cs) (hx : Sl w ty' k' x m ds) (hne : ty ≠ ty') : vblk x ≠ some b := by
  intro e
  obtain ⟨a', cap', rfl, _, _, h'⟩ := hx
  rcases h' with ⟨rfl, _⟩ | ⟨b', off', cur', rfl, hb', _⟩
  · simp [vblk] at e
  · simp [vblk] at e; subst e; exact hne (h.inj hb').2
structure PY (w : World) (v : Value) (H ba : Nat) (us : List Value) (cur : Array Value) (xss : List (List Int)) : Prop where
  outer : Sl w 35 1 v xss.length us
  all : Blk w ba 3 cur
  size : xss.length * H ≤ cur.size
  elems : ∀ i (h : i < xss.length), us[i]? = some (.slice (some ⟨ba, i * H, none⟩) xss[i].length H) ∧ xss[i].length ≤ H ∧ ∀ j (hj : j < xss[i].length), cur[i * H + j]? = some (.int .i64 xss[i][j])
section
variable {w w' : World} {v : Value} {H ba : Nat} {us : List Value} {cur : Array Value} {xss : List (List Int)}
theorem PY.ext (h : PY w v H ba us cur xss) (u : Ext w w') : PY w' v H ba us cur xss := ⟨h.outer.ext u, h.all.ext u, h.size, h.elems⟩
theorem PY.upT {b : Nat} {cs : Array Value} {ty : TypeId} (h : PY w v H ba us cur xss) (u : Upd (one b) w w') (hb : Blk w b ty cs) (hne : 35 ≠ ty ∧ 3 ≠ ty) : PY w' v H ba us cur xss := ⟨h.outer.upT u hb hne.1, h.all.upT u hb hne.2, h.size, h.elems⟩
theorem PY.one (h : PY w v H ba us cur xss) : v.oneCell' = true := h.outer.one
theorem seg_le {i n H : Nat} (h : i < n) : i * H + H ≤ n * H := by
  have := Nat.mul_le_mul_right H (show i + 1 ≤ n from h)
  rw [Nat.add_mul, Nat.one_mul] at this
  exact this
theorem PY.row (h : PY w v H ba us cur xss) (i : Nat) (hi : i < xss.length) : SInts w (.slice (some ⟨ba, i * H, none⟩) xss[i].length H) xss[i] := by
  obtain ⟨_, h2, h3⟩ := h.elems i hi
  refine ⟨_, _, rfl, h2, by simp, .inr ⟨ba, i * H, cur, rfl, h.all, ?_, fun j hj => ?_⟩⟩
  · have := seg_le (H := H) hi
    have := h.size
    omega
  · simp only [List.length_map] at hj
    rw [h3 j hj]; simp [hj]
theorem PY.mat (h : PY w v H ba us cur xss) : Mat w v us xss :=
  ⟨h.outer.row, fun i hi => ⟨_, (h.elems i hi).1, (h.row i hi).row⟩⟩
theorem PY.nil (w : World) {ba : Nat} {cur : Array Value} (hb : Blk w ba 3 cur) : PY w (.slice none 0 0) H ba [] cur [] := ⟨Sl.nil _ _ _, hb, by simp, fun i h => by simp at h⟩
theorem PY.snoc {i : Nat} {v' : Value} (hi : i < xss.length) (h : PY w v H ba us cur (xss.take i)) (hx : xss[i].length ≤ H) (hc : xss.length * H ≤ cur.size) (ho : Sl w' 35 1 v' (i + 1) (us ++ [.slice (some ⟨ba, i * H, none⟩) xss[i].length H]))
    (ha : Blk w' ba 3 (put cur (i * H) (ints xss[i]))) : PY w' v' H ba (us ++ [.slice (some ⟨ba, i * H, none⟩) xss[i].length H]) (put cur (i * H) (ints xss[i])) (xss.take (i + 1)) := by
  have hmin : min (i + 1) xss.length = i + 1 := by omega
  have hmin2 : min i xss.length = i := by omega
  have hul : us.length = i := by have := h.outer.len; simp [hmin2] at this; exact this
  have hseg := seg_le (H := H) hi
  have hfit : i * H + (ints xss[i]).length ≤ cur.size := by simp; omega
  refine ⟨by rw [List.length_take, hmin]; exact ho, ha, ?_, fun j hj => ?_⟩
  · rw [put_size hfit, List.length_take, hmin]
    rw [Nat.add_mul, Nat.one_mul]; omega
  · rw [List.length_take, hmin] at hj
    have e1 : (xss.take (i + 1))[j]'(by rw [List.length_take, hmin]; exact hj) = xss[j]'(by omega) := by simp
    rw [e1]
    by_cases hji : j < i
    · obtain ⟨h1, h2, h3⟩ := h.elems j (by rw [List.length_take, hmin2]; exact hji)
      have e2 : (xss.take i)[j]'(by rw [List.length_take, hmin2]; exact hji) = xss[j]'(by omega) := by simp
      simp only [e2] at h1 h2 h3
      refine ⟨by rw [List.getElem?_append_left (by omega)]; exact h1, h2, fun k hk => ?_⟩
      have := seg_le (H := H) hji
      rw [put_get hfit, if_pos (by omega)]
      exact h3 k hk
    · obtain rfl : j = i := by omega
      refine ⟨by rw [List.getElem?_append_right (by omega)]; simp [hul], hx, fun k hk => ?_⟩
      rw [put_get hfit, if_neg (by omega), if_pos (by simp; omega)]
      simp [hk]
end
theorem copied (w : World) {v : Value} {H : Nat} {us : List Value} {xss : List (List Int)} (hm : Mat w v us xss) (hH0 : 1 ≤ H) (hH : H ≤ 6) (hl : xss.length ≤ 30) (hx : ∀ xs ∈ xss, xs.length ≤ H) :
    Calls Try.prog 64 #[.agg #[v, .int .i64 H]] w (Ret fun r w' => Ext w w' ∧ ∃ v' ba us' cur, r = .agg #[v', .int .i64 H] ∧ PY w' v' H ba us' cur xss ∧ Fresh w v' ∧ w.heap.size ≤ ba) := by
  have hNb : xss.length * H ≤ 180 := Nat.mul_le_mul hl hH
  refine calls_E (args := [.agg #[v, .int .i64 H]]) 53 Try.func64 rfl rfl (by simp) ?_
  have hE : Ext w w := Upd.refl w
  refine E.seq ?_
  refine E.regionP rfl ?_
  refine R.box rfl nofun ?_
  intro b1 w1 hb1 hx1 hB1
  replace hb1 := Nat.le_trans hE.size hb1
  replace hE := hE.ext hx1
  replace hB1 : Blk _ b1 24 #[v, .int .i64 H] := hB1
  refine R.alloc t24 nofun ?_
  intro b2 w2 hb2 hx2 hB2
  have ne1_2 : b1 ≠ b2 := by have := hB1.lt; omega
  replace hb2 := Nat.le_trans hE.size hb2
  replace hB1 := hB1.ext hx2
  replace hE := hE.ext hx2
  replace hB2 : Blk _ b2 24 #[.slice none 0 0, .int .i64 0] := hB2
  refine R.nil ?_
  refine E.seq ?_
  refine E.regionP rfl ?_
  refine R.fld fa24_0 rfl ?_
  refine R.loadB t22 hB1 rfl rfl rfl trivial ?_
  refine R.len Try.underlying22 hm.row rfl ?_
  refine R.fld fa24_1 rfl ?_
  refine R.loadB t3 hB1 rfl rfl rfl trivial ?_
  refine R.mulN rfl rfl (by omega) ?_
  refine R.make (n := xss.length * H) (c := xss.length * H) Try.underlying35 t3 rfl rfl rfl (Nat.le_refl _) (by omega) (by omega) nofun ?_
  intro b15 w15 hb15 hx15 hB15 hS15
  replace hb15 := Nat.le_trans hE.size hb15
  replace hB1 := hB1.ext hx15
  replace hB2 := hB2.ext hx15
  replace hE := hE.ext hx15
  refine R.assign ?_
  refine R.nil ?_
  refine E.seq ?_
  refine E.regionP rfl ?_
  refine R.fld fa24_1 rfl ?_
  refine R.loadB t3 hB1 rfl rfl rfl trivial ?_
  refine R.build (build24_1 rfl) rfl ?_
  refine R.alloc t24 nofun ?_
  intro b4 w3 hb4 hx3 hB4
  have ne1_4 : b1 ≠ b4 := by have := hB1.lt; omega
  have ne2_4 : b2 ≠ b4 := by have := hB2.lt; omega
  replace hb4 := Nat.le_trans hE.size hb4
  replace hB15 := hB15.ext hx3
  replace hB1 := hB1.ext hx3
  replace hB2 := hB2.ext hx3
  replace hE := hE.ext hx3
  replace hB4 : Blk _ b4 24 #[.slice none 0 0, .int .i64 0] := hB4
  refine R.storeA t24 hB4 rfl rfl rfl rfl (ones2 rfl rfl) nofun ?_
  intro w4 hU4 hs4 hN4
  replace hB15 := hB15.upT hU4 hB4 (by decide)
  replace hB1 := hB1.up hU4 (fun h => ne1_4 h)
  replace hB2 := hB2.up hU4 (fun h => ne2_4 h)
  replace hE := hE.own hU4 hb4
  replace hB4 : Blk _ b4 24 #[.slice none 0 0, .int .i64 H] := hN4
  clear hN4
  refine R.nil ?_
  refine E.seq ?_
  refine E.seq ?_
  refine E.regionP rfl ?_
  refine R.fld fa24_0 rfl ?_
  refine R.loadB t22 hB1 rfl rfl rfl trivial ?_
  refine R.len Try.underlying22 hm.row rfl ?_
  refine R.move ?_
  refine R.nil ?_
  refine E.block ?_
  refine E.loop (fun n e wr => ∃ (i : Nat) (ov : Value) (us1 : List Value) (cur : Array Value), n = xss.length - i ∧ i ≤ xss.length ∧ Ext w wr ∧ PY wr ov H b15 us1 cur (xss.take i) ∧ cur.size = xss.length * H ∧ Fresh w ov ∧ Blk wr b1 24 #[v, .int .i64 H] ∧ Blk wr b2 24 #[.slice none 0 0, .int .i64 0] ∧ Blk wr b4 24 #[ov, .int .i64 H] ∧ Has e [(1, .pointer (some ⟨b1, 0, none⟩)), (2, .pointer (some ⟨b2, 0, none⟩)), (3, .slice (some ⟨b15, 0, none⟩) (xss.length * H) (xss.length * H)), (4, .pointer (some ⟨b4, 0, none⟩)), (20, v), (21, .int .i64 xss.length), (22, .int .i64 i)]) (xss.length) ?_ ?_
  · exact ⟨0, _, [], _, rfl, Nat.zero_le _, hE, PY.nil _ hB15, by simp, Fresh.nil _, hB1, hB2, hB4, rfl, rfl, rfl, rfl, rfl, rfl, rfl, trivial⟩
  · rintro n e wr ⟨i, ov, us1, cur, rfl, hi, hE, hP, hcs, hf, hB1, hB2, hB4, hH⟩
    obtain ⟨e, rfl⟩ := hH.ex
    clear hH
    refine E.seq ?_
    refine E.regionP rfl ?_
    refine R.lss rfl rfl rfl ?_
    refine R.nil ?_
    refine E.seq ?_
    refine E.cond rfl (fun hc23 => ?_) (fun hc23 => ?_)
    · replace hc23 := dT hc23
      have hseg := seg_le (H := H) (show i < xss.length by omega)
      have hxi := hx xss[i] (List.getElem_mem _)
      refine E.skip ?_
      refine E.seq ?_
      refine E.block ?_
      refine E.seq ?_
      refine E.regionP rfl ?_
      refine R.move ?_
      refine R.ix Try.underlying22 t35 (by decide) hm.row rfl rfl (by omega) ?_
      obtain ⟨u26, hu26, hr26⟩ := hm.get i (by omega)
      refine R.ld t35 (hm.row.ext hE) rfl hu26 rfl (fun _ _ => trivial) ?_
      refine R.assign ?_
      refine R.assign ?_
      refine R.nil ?_
      refine E.seq ?_
      refine E.regionP rfl ?_
      refine R.move ?_
      refine R.fld fa24_1 rfl ?_
      refine R.loadB t3 hB1 rfl rfl rfl trivial ?_
      refine R.mulN rfl rfl (by omega) ?_
      refine R.assign ?_
      refine R.nil ?_
      refine E.seq ?_
      refine E.regionP rfl ?_
      refine R.move ?_
      refine R.move ?_
      refine R.slc (l := i * H) (r := xss.length * H) Try.underlying35 t3 rfl rfl ⟨_, rfl⟩ rfl (by omega) (Nat.le_refl _) ?_
      refine R.move ?_
      refine R.copy Try.underlying35 t3 hP.all (hr26.ext hE) ints_one (cut_at (n := xss.length * H) (by omega)) rfl (by omega) nofun ?_
      intro w35 hU35 hs35 hA35
      rw [List.take_of_length_le (by simp; omega)] at hA35
      rw [Nat.min_eq_left (by omega)]
      have hO35 := hP.outer.upT hU35 hP.all (by decide)
      replace hB1 := hB1.upT hU35 hP.all (by decide)
      replace hB2 := hB2.upT hU35 hP.all (by decide)
      replace hB4 := hB4.upT hU35 hP.all (by decide)
      replace hE := hE.own hU35 hb15
      have hBA := hA35
      refine R.assign ?_
      have hf1 : vblk ov ≠ some b1 := fun e => by
        have := hB1.ne_vblk hO35 (by decide)
        exact this e
      refine R.nil ?_
      refine E.regionW (fun c x => x < w35.heap.size ∧ (c = false → x ≠ b4 ∧ vblk ov ≠ some x)) [37] mixed rfl (by kernel_rfl) ?_
      intro w5 hx5 hh5
      replace hO35 := hO35.ext hx5
      replace hBA := hBA.ext hx5
      replace hB1 := hB1.ext hx5
      replace hB2 := hB2.ext hx5
      replace hB4 := hB4.ext hx5
      replace hE := hE.ext hx5
      have hEs : Ext w5 w5 := Upd.refl _
      have hS0 := hx5.size
      have hSB : ∀ b, b < w5.heap.size → b < w35.heap.size ∧ (true = false → (fun x => x ≠ b4 ∧ vblk ov ≠ some x) b) := fun b hb => ⟨by rw [hh5] at hb; exact hb, nofun⟩
      have hSA : ∀ b, b < w5.heap.size → (fun x => x ≠ b4 ∧ vblk ov ≠ some x) b → b < w35.heap.size ∧ (false = false → (fun x => x ≠ b4 ∧ vblk ov ≠ some x) b) := fun b hb h => ⟨by rw [hh5] at hb; exact hb, fun _ => h⟩
      have hSO : ∀ b, b < w.heap.size → b < w35.heap.size ∧ (false = false → (fun x => x ≠ b4 ∧ vblk ov ≠ some x) b) := fun b hb => hSA b (Nat.lt_of_lt_of_le hb hE.size) (⟨fun e => by omega, fun e => by have := hf b e; omega⟩)
      have hO35s := hO35
      have hBAs := hBA
      have hB1s := hB1
      have hB2s := hB2
      have hB4s := hB4
      refine R.fld fa24_0 rfl ?_
      refine R.loadB t22 (hB4s.ext hEs) rfl rfl rfl (hSB b4 hB4s.lt) ?_
      refine R.move ?_
      refine R.move ?_
      refine R.move ?_
      refine R.move ?_
      refine R.addN rfl rfl (by omega) ?_
      refine R.move ?_
      refine R.fld fa24_1 rfl ?_
      refine R.loadB t3 (hB1s.ext hEs) rfl rfl rfl (hSA b1 hB1s.lt (⟨ne1_4, fun e => hf1 e⟩)) ?_
      refine R.addN rfl rfl (by omega) ?_
      refine R.slc3 (v := .slice (some ⟨b15, 0, none⟩) (xss.length * H) (xss.length * H)) (l := i * H) (r := i * H + xss[i].length) (m := i * H + H) Try.underlying35 t3 rfl rfl rfl rfl rfl (by omega) (by omega) (by omega) ?_
      rw [cut3_at (by omega)]
      refine R.buildSlice [.slice (some ⟨b15, i * H, none⟩) (i * H + xss[i].length - i * H) (i * H + H - i * H)] Try.underlying22 t35 rfl rfl (by simp [Value.cells]) (by simp) (fun _ _ _ hb => Nat.lt_of_lt_of_le hb.1 (Nat.le_trans hS0 hEs.size)) ?_
      intro b48 w6 hb48 hx6 hB48 hS48
      replace hb48 := Nat.le_trans hE.size hb48
      replace hO35 := hO35.ext hx6
      replace hBA := hBA.ext hx6
      replace hB1 := hB1.ext hx6
      replace hB2 := hB2.ext hx6
      replace hB4 := hB4.ext hx6
      replace hE := hE.ext hx6
      replace hEs := hEs.ext hx6
      refine R.append Try.underlying22 Try.underlying22 t35 (by decide) rfl hO35 hS48.row (by simp [cellsOf, Value.cells, Value.oneCell']) rfl rfl (by simp; omega) (by simp; omega) (fun _ b hb => ⟨Nat.lt_of_lt_of_le hb.1 (Nat.le_trans hS0 hEs.size), (hb.2 rfl).2⟩) ?_
      intro v49 w49 hU49 hS49 hd49
      have hf49 := Fresh.app hE hf hd49
      replace hB1 := hB1.upS hU49 hO35 (by decide)
      replace hB2 := hB2.upS hU49 hO35 (by decide)
      replace hB4 := hB4.upS hU49 hO35 (by decide)
      replace hBA := hBA.upS hU49 hO35 (by decide)
      replace hE := hE.app hU49 hf
      refine R.fld fa24_0 rfl ?_
      refine R.store t22 hB4 rfl rfl hS49.one (by simp) (fun _ h => (h.2 rfl).1 rfl) ?_
      intro w50 hU50 hs50 hN50
      replace hS49 := hS49.upT hU50 hB4 (by decide)
      replace hBA := hBA.upT hU50 hB4 (by decide)
      replace hB1 := hB1.up hU50 (fun h => ne1_4 h)
      replace hB2 := hB2.up hU50 (fun h => ne2_4 h)
      replace hE := hE.own hU50 hb4
      replace hB4 : Blk _ b4 24 #[v49, .int .i64 H] := hN50
      refine R.nil ?_
      refine E.regionP rfl ?_
      refine R.addN (n := 1) rfl rfl (by omega) ?_
      refine R.move ?_
      refine R.nil ?_
      refine ⟨xss.length - (i + 1), by omega, i + 1, v49, _, _, rfl, by omega, hE, PY.snoc (by omega) hP hxi (by omega) ?_ hBA, ?_, hf49, hB1, hB2, hB4, rfl, rfl, rfl, rfl, rfl, rfl, rfl, trivial⟩
      · simp only [cellsOf, List.flatMap_cons, List.flatMap_nil, Value.cells, List.append_nil, Nat.add_sub_cancel_left, List.length_take] at hS49
        rw [Nat.min_eq_left hi] at hS49
        exact hS49
      · rw [put_size (by simp; omega)]; exact hcs
    · replace hc23 := dF hc23
      refine E.exit ?_
      refine E.seq ?_
      refine E.regionP rfl ?_
      refine R.loadA t24 hB4 rfl rfl rfl trivial ?_
      refine R.storeA t24 hB2 rfl rfl rfl rfl (ones2 hP.outer.one rfl) nofun ?_
      intro w7 hU7 hs7 hN7
      replace hP := hP.upT hU7 hB2 (by decide)
      replace hB1 := hB1.up hU7 (fun h => ne1_2 h)
      replace hB4 := hB4.up hU7 (fun h => ne2_4 h.symm)
      replace hE := hE.own hU7 hb2
      replace hB2 : Blk _ b2 24 #[ov, .int .i64 H] := hN7
      clear hN7
      refine R.nil ?_
      refine E.ret ?_
      obtain rfl : i = xss.length := by omega
      rw [List.take_length] at hP
      exact retA t24 hB2 rfl rfl rfl ⟨_, rfl, hE, _, _, _, _, rfl, hP, hf, hb15⟩
end Go.Proofs.Ytfdmndkoiheebaa

namespace Go.Proofs.Ytfdmndkoiheebaa
open Go Go.RowKit
namespace R
variable {P : Program} {ops : Array Oper} {S : Bool → Nat → Prop} {dr : Bool} {B : List Nat} {F : Env → World → Prop} {rest : List Oper} {e : Env} {w : World}
variable {d : Tmp} {od : Option Tmp} {ty : TypeId} {pos : String} {aft : Array Edge}
theorem slcE {x : Operand} {t el : TypeId} {k by_ : Nat} {g : Bool} {z : Value} {v : Value} {lo hi : Option Operand} {l r : Nat} {n : Nat} {a : Option Addr} {c : Nat} (v' : Value) (hu : P.underlying t = some (.slice el)) (hk : Ty P el k by_ g z) (hx : ev e x = v) (hv : v = .slice a n c)
    (hlo : (match lo with | none => l = 0 | some y => ∃ ik, ev e y = .int ik l)) (hhi : (match hi with | none => r = n | some y => ∃ ik, ev e y = .int ik r)) (hlr : l ≤ r) (hrc : r ≤ c) (hc : cut k v l r = v')
    (h : wpR P ops S dr (kind B) F rest (upd e d v') w) : wpR P ops S dr (kind B) F (⟨some d, .slice t x lo hi none, ty, pos, aft, none⟩ :: rest) e w :=
  slc hu hk hx hv hlo hhi hlr hrc (by rw [hc]; exact h)
theorem mv {x : Operand} (v : Value) (hx : ev e x = v) (h : wpR P ops S dr (kind B) F rest (upd e d v) w) : wpR P ops S dr (kind B) F (⟨some d, .move x, ty, pos, aft, none⟩ :: rest) e w :=
  move (by rw [hx]; exact h)
end R
end Go.Proofs.Ytfdmndkoiheebaa
