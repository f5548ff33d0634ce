import Derived.Test.YtfdmndkoiheebaaZ16J21
import Derived.Test.YtfdmndkoiheebaaZ16J17
import Derived.Test.YtfdmndkoiheebaaZ16J20
namespace Go.Proofs.Ytfdmndkoiheebaa
open Go Go.RowKit
theorem yLeast (w : World) {v vo : Value} {h : Int} {us : List Value} {xss : List (List Int)} {ord : List Int} (hm : Mat w v us xss) (ho : Ints w vo ord) (hl : xss.length < 1000000) (hx : ∀ xs ∈ xss, xs.length < 1000000) (hol : ord.length < 100000) :
    Calls Try.prog 40 #[.agg #[v, .int .i64 h], vo] w (Ret fun r w' => Ext w w' ∧ ∃ u, r = .tuple #[u, .int .i64 (leastR xss h ord).2] ∧ Sl w' 68 3 u (leastR xss h ord).1.length (stepsC (leastR xss h ord).1) ∧ Fresh w u) := by
  cases hb : beginB xss h ord
  · rw [show leastR xss h ord = ([], 2) by simp [leastR, hb]]
    exact (least0 w hm ho hl hx hol hb).mono fun _ _ ⟨r, h1, h2, h3⟩ => ⟨r, h1, h2, _, h3, Sl.nil _ _ _, Fresh.nil _⟩
  · obtain ⟨hRP, hOP⟩ := beginB_right hb
    obtain ⟨H, rfl, _⟩ := rightB_nat hRP.b
    exact yLeast1 w hm ho hl hx hol hb
theorem Str.len {H : Nat} {ord : List Int} {ys : List (List Int)} {nx : Nat} {ss : List (Int × Int × Int)} (h : Str H ord ys nx ss) : ss.length ≤ ord.length - nx + cnt ss := by
  induction h with
  | done h => simp
  | leave h hs ih => have := h.ln; rw [cnt_leave, List.length_cons]; omega
  | move h hj hja hjH hs ih => rw [cnt_move, List.length_cons]; omega
theorem leastR_len {xss : List (List Int)} {h : Int} {ord : List Int} : (leastR xss h ord).1.length ≤ ord.length + 15 := by
  unfold leastR
  split
  · rename_i hb
    split
    · simp
    · split
      · rename_i ss hs
        unfold leastS at hs
        obtain ⟨m, hm, h1⟩ := List.exists_of_findSome?_eq_some hs
        obtain ⟨hRP, hOP⟩ := beginB_right hb
        obtain ⟨H, rfl, _⟩ := rightB_nat hRP.b
        obtain ⟨q1, q2⟩ := try_str _ _ _ _ _ rfl (GoodJ.start hb) h1
        have := q1.len
        simp at hm
        show ss.length ≤ _
        omega
      · simp
  · simp
set_option maxHeartbeats 1600000 in
theorem finds_ (w : World) {v vo : Value} {h : Int} {us : List Value} {xss : List (List Int)} {ord : List Int} (hm : Mat w v us xss) (ho : Ints w vo ord) (hF : Fit xss) (hol : ord.length < 10000) :
    Calls Try.prog 48 #[.agg #[v, .int .i64 h], vo] w (Ret fun r w' => Ext w w' ∧ r = .bool true) := by
  have hF1 := hF.1
  have hrl := leastR_len (xss := xss) (h := h) (ord := ord)
  refine calls_E (args := [.agg #[v, .int .i64 h], vo]) 46 Try.func48 rfl rfl (by simp) ?_
  have hE : Ext w w := Upd.refl w
  refine E.seq ?_
  refine E.regionP rfl ?_
  refine R.box rfl nofun ?_
  intro b2 w1 hb2 hx1 hB2
  replace hb2 := Nat.le_trans hE.size hb2
  replace hE := hE.ext hx1
  replace hB2 : Blk _ b2 24 #[v, .int .i64 h] := hB2
  refine R.assign ?_
  refine R.nil ?_
  refine E.seq ?_
  refine E.regionP rfl ?_
  refine R.loadA t24 hB2 rfl rfl rfl trivial ?_
  refine R.callE1 ent30 (own _ (hm.ext hE) hF.l6 hF.x6) rfl nofun ?_
  rintro v12 w2 hx2 ⟨u12, rfl, hL12, hf12⟩
  replace hB2 := hB2.ext hx2
  replace hE := hE.ext hx2
  refine R.move ?_
  refine R.callE1 ent81 (lentInts _ (ho.ext hE) (by omega)) rfl nofun ?_
  rintro v14 w3 hx3 ⟨hL14, hf14⟩
  replace hL12 := hL12.ext hx3
  replace hB2 := hB2.ext hx3
  replace hE := hE.ext hx3
  refine R.alloc t24 nofun ?_
  intro b5 w4 hb5 hx4 hB5
  have ne2_5 : b2 ≠ b5 := by have := hB2.lt; omega
  replace hb5 := Nat.le_trans hE.size hb5
  replace hL12 := hL12.ext hx4
  replace hL14 := hL14.ext hx4
  replace hB2 := hB2.ext hx4
  replace hE := hE.ext hx4
  replace hB5 : Blk _ b5 24 #[.slice none 0 0, .int .i64 0] := hB5
  refine R.storeA t24 hB5 rfl rfl rfl rfl (ones2 hL12.one rfl) nofun ?_
  intro w5 hU5 hs5 hN5
  replace hL12 := hL12.upT hU5 hB5 (by decide)
  replace hL14 := hL14.upT hU5 hB5 (by decide)
  replace hB2 := hB2.up hU5 (fun h => ne2_5 h)
  replace hE := hE.own hU5 hb5
  replace hB5 : Blk _ b5 24 #[u12, .int .i64 h] := hN5
  clear hN5
  refine R.assign ?_
  refine R.nil ?_
  refine E.seq ?_
  refine E.regionP rfl ?_
  refine R.loadA t24 hB5 rfl rfl rfl trivial ?_
  refine R.move ?_
  refine R.callE2 ent40 (yLeast _ hL12.mat.choose_spec hL14.ints hF.l6 hF.x6 (by omega)) rfl rfl nofun ?_
  rintro v18 w6 hx6 ⟨u18, rfl, hQ18, hf18⟩
  replace hL12 := hL12.ext hx6
  replace hL14 := hL14.ext hx6
  replace hB2 := hB2.ext hx6
  replace hB5 := hB5.ext hx6
  replace hE := hE.ext hx6
  refine R.move ?_
  refine R.extract rfl rfl ?_
  refine R.extract rfl rfl ?_
  refine R.assign ?_
  refine R.assign ?_
  refine R.nil ?_
  refine E.seq ?_
  refine E.regionP rfl ?_
  refine R.loadA t24 hB2 rfl rfl rfl trivial ?_
  refine R.move ?_
  refine R.callE2 ent87 (rLeastF _ (hm.ext hE) (ho.ext hE) (by omega) hF.2 (by omega)) rfl rfl nofun ?_
  rintro v24 w7 hx7 ⟨u24, rfl, hQ24⟩
  replace hL12 := hL12.ext hx7
  replace hL14 := hL14.ext hx7
  replace hQ18 := hQ18.ext hx7
  replace hB2 := hB2.ext hx7
  replace hB5 := hB5.ext hx7
  replace hE := hE.ext hx7
  refine R.move ?_
  refine R.extract rfl rfl ?_
  refine R.extract rfl rfl ?_
  refine R.assign ?_
  refine R.assign ?_
  refine R.nil ?_
  refine E.seq ?_
  refine E.regionP rfl ?_
  refine R.move ?_
  refine R.move ?_
  refine R.eql (b := true) rfl rfl (by simp) ?_
  refine R.move ?_
  refine R.gT rfl rfl ?_
  refine R.move ?_
  refine R.gT rfl rfl ?_
  refine R.move ?_
  refine R.gT rfl rfl ?_
  refine R.callE1 ent50 (told35 _ hQ24 (by omega)) rfl nofun ?_
  rintro v33 w8 hx8 ⟨hT33, hf33⟩
  replace hL12 := hL12.ext hx8
  replace hL14 := hL14.ext hx8
  replace hQ18 := hQ18.ext hx8
  replace hQ24 := hQ24.ext hx8
  replace hB2 := hB2.ext hx8
  replace hB5 := hB5.ext hx8
  replace hE := hE.ext hx8
  refine R.gT rfl rfl ?_
  refine R.callE2 ent72 (same35t _ hQ18.row hT33.row (by omega)) rfl rfl nofun ?_
  rintro v34 w9 hx9 rfl
  replace hL12 := hL12.ext hx9
  replace hL14 := hL14.ext hx9
  replace hQ18 := hQ18.ext hx9
  replace hQ24 := hQ24.ext hx9
  replace hT33 := hT33.ext hx9
  replace hB2 := hB2.ext hx9
  replace hB5 := hB5.ext hx9
  replace hE := hE.ext hx9
  refine R.pickT rfl ?_
  refine R.move ?_
  refine R.gT rfl rfl ?_
  refine R.loadA t24 hB5 rfl rfl rfl trivial ?_
  refine R.gT rfl rfl ?_
  refine R.loadA t24 hB2 rfl rfl rfl trivial ?_
  refine R.gT rfl rfl ?_
  refine R.callE2 ent33 (kept _ hL12 (hm.ext hE) hF.l6 hF.x6) rfl rfl nofun ?_
  rintro v39 w10 hx10 rfl
  replace hL12 := hL12.ext hx10
  replace hL14 := hL14.ext hx10
  replace hQ18 := hQ18.ext hx10
  replace hQ24 := hQ24.ext hx10
  replace hT33 := hT33.ext hx10
  replace hB2 := hB2.ext hx10
  replace hB5 := hB5.ext hx10
  replace hE := hE.ext hx10
  refine R.pickT rfl ?_
  refine R.move ?_
  refine R.gT rfl rfl ?_
  refine R.move ?_
  refine R.gT rfl rfl ?_
  refine R.move ?_
  refine R.gT rfl rfl ?_
  refine R.callE2 ent83 (keptInts _ hL14 (ho.ext hE) (by omega)) rfl rfl nofun ?_
  rintro v44 w11 hx11 rfl
  replace hL12 := hL12.ext hx11
  replace hL14 := hL14.ext hx11
  replace hQ18 := hQ18.ext hx11
  replace hQ24 := hQ24.ext hx11
  replace hT33 := hT33.ext hx11
  replace hB2 := hB2.ext hx11
  replace hB5 := hB5.ext hx11
  replace hE := hE.ext hx11
  refine R.pickT rfl ?_
  refine R.assign ?_
  refine R.nil ?_
  refine E.ret ?_
  exact ret1 (.bool true) rfl rfl ⟨_, rfl, hE, rfl⟩
end Go.Proofs.Ytfdmndkoiheebaa

namespace Go.Proofs.Ytfdmndkoiheebaa
open Go Go.RowKit
theorem stepsC_at0 {ss : List (Int × Int × Int)} {i : Nat} (h : i < ss.length) : (stepsC ss)[i * 3 + 0]? = some (.int .i64 ss[i].1) := by
  have h1 := congrArg (fun l => l[0]?) (steps_take h)
  simpa [List.getElem?_take, List.getElem?_drop] using h1
theorem stepsC_at1 {ss : List (Int × Int × Int)} {i : Nat} (h : i < ss.length) : (stepsC ss)[i * 3 + 1]? = some (.int .i64 ss[i].2.1) := by
  have h1 := congrArg (fun l => l[1]?) (steps_take h)
  simpa [List.getElem?_take, List.getElem?_drop] using h1
theorem R.ldStep {P : Program} {ops : Array Oper} {S : Bool → Nat → Prop} {dr : Bool} {B : List Nat} {F : Env → World → Prop} {rest : List Oper} {e : Env} {w w0 : World} {d : Tmp} {ty : TypeId} {pos : String} {aft : Array Edge} {x : Operand} {t : TypeId} {c : Bool} {by_ i k : Nat} {z v u : Value} {ss : List (Int × Int × Int)} (hk : Ty P t 1 by_ false z) (hr : Steps w0 v ss) (hE : Ext w0 w) (hi : i < ss.length) (hu : (stepsC ss)[i * 3 + k]? = some u) (hx : ev e x = elemPtr v (i * 3 + k)) (hc : B.contains d = c) (hS : ∀ b, b < w0.heap.size → S c b)
    (h : wpR P ops S dr (kind B) F rest (upd e d u) w) : wpR P ops S dr (kind B) F (⟨some d, .load t x, ty, pos, aft, none⟩ :: rest) e w :=
  R.load (j := i * 3 + k) hk (hr.ext hE) hx hu hc (fun b hb => hS b (hr.blk_at (j := i * 3) (by rw [stepsC_len]; omega) b hb)) h
def YK (w wr : World) (v : Value) (h : Int) (xss : List (List Int)) : Prop := (∃ us, Mat w v us xss) ∨ YO w wr v h xss
section
variable {w wr w' : World} {v : Value} {h : Int} {xss : List (List Int)}
theorem YK.ext (y : YK w wr v h xss) (u : Ext wr w') : YK w w' v h xss := by
  rcases y with y | y
  · exact .inl y
  · exact .inr (y.ext u)
theorem YK.upT {b : Nat} {cs : Array Value} {ty : TypeId} (y : YK w wr v h xss) (u : Upd (Ytfdmndkoiheebaa.one b) wr w') (hb : Blk wr b ty cs) (hne : 35 ≠ ty ∧ 3 ≠ ty) : YK w w' v h xss := by
  rcases y with y | y
  · exact .inl y
  · exact .inr (y.upT u hb hne)
theorem YK.mat (y : YK w wr v h xss) (hE : Ext w wr) : ∃ us, Mat wr v us xss := by
  rcases y with ⟨us, y⟩ | y
  · exact ⟨us, y.ext hE⟩
  · exact y.mat
end
section
variable {H : Nat} {ord : List Int} {xss ys : List (List Int)} {nx n' c i : Nat} {ss : List (Int × Int × Int)}
end
end Go.Proofs.Ytfdmndkoiheebaa

namespace Go.Proofs.Ytfdmndkoiheebaa
section
variable {ys : List (List Int)} {H : Nat} {ord : List Int} {nx a k : Nat} {ov : List Int} {b : Int} {ss : List (Int × Int × Int)}
theorem lowF_le {x : Int} : ∀ (s : List Int) (L : Nat), (x ∈ s → lowF ord L s ≤ rankL ord x) ∧ lowF ord L s ≤ L
  | [], L => ⟨fun h => (List.not_mem_nil h).elim, Nat.le_refl _⟩
  | c :: cs, L => by
    have e : lowF ord L (c :: cs) = lowF ord (min L (rankL ord c)) cs := rfl
    obtain ⟨h1, h2⟩ := lowF_le (x := x) cs (min L (rankL ord c))
    rw [e]
    refine ⟨fun h => ?_, by omega⟩
    rcases List.mem_cons.1 h with rfl | h
    · omega
    · exact h1 h
theorem wayL_ge {s : List Int} : ∀ (ys : List (List Int)), s ∈ ys → wayR ord ord.length s ≤ wayL ord ys
  | [], h => (List.not_mem_nil h).elim
  | x :: ys, h => by
    simp only [wayL, List.map_cons, List.sum_cons]
    rcases List.mem_cons.1 h with rfl | h
    · omega
    · have := wayL_ge ys h; simp only [wayL] at this; omega
theorem OverJ.way (h : OverJ ys H ord nx a k (b :: ov)) (hg : Gone ys ord nx) : 0 < wayL ord ys := by
  have hl := h.len
  have ha := h.la
  have hk := h.lk
  simp at hl
  have ht := h.top
  rw [topL_at ha (by omega)] at ht
  have e : ys[a] = ys[a].take (ys[a].length - 1) ++ [b] := by
    rw [← ht, List.take_append_getElem, List.take_of_length_le (by omega)]
  have hm : ord[nx]'h.ln ∈ ys[a].take (ys[a].length - 1) := by
    rw [List.mem_iff_getElem]
    exact ⟨k, by rw [List.length_take]; omega, by rw [List.getElem_take, h.box]⟩
  have hbm : b ∈ ys.flatten := List.mem_flatten.2 ⟨_, List.getElem_mem ha, by rw [← ht]; exact List.getElem_mem _⟩
  have hbr : nx < rankL ord b := by
    rcases rank_ge (fun hx => hg b hx hbm) with h1 | h1
    · rcases Nat.lt_or_ge nx (rankL ord b) with h2 | h2
      · exact h2
      · exfalso
        have hq : rankL ord b = nx := by omega
        have hbo : b ∈ ord := by
          rcases Decidable.em (b ∈ ord) with h3 | h3
          · exact h3
          · have := h.ln; simp [rankL, h3] at hq; omega
        have e1 : ord.idxOf b = nx := by simpa [rankL, hbo] using hq
        have e2 : ord[nx]'h.ln = b := by
          have := List.getElem_idxOf (List.idxOf_lt_length_iff.2 hbo)
          simpa [e1] using this
        have := (h.good.right.inj ha (show ys[a].length - 1 < ys[a].length by omega) ha hk (by rw [ht, h.box, e2])).2
        omega
    · have := h.ln; omega
  have h1 := wayR_snoc (ord := ord) b (ys[a].take (ys[a].length - 1)) ord.length
  rw [← e] at h1
  have h2 := (lowF_le (ord := ord) (x := ord[nx]'h.ln) (ys[a].take (ys[a].length - 1)) ord.length).1 hm
  rw [rank_at h.good.nodup h.ln] at h2
  rw [if_pos (by omega)] at h1
  have h3 := wayL_ge (ord := ord) ys (List.getElem_mem ha)
  omega
end
section
variable {xss : List (List Int)} {H : Nat} {ord : List Int}
end
end Go.Proofs.Ytfdmndkoiheebaa

namespace Go.Proofs.Ytfdmndkoiheebaa
open Go Go.RowKit
theorem U8s.take {w : World} {v : Value} {xs : List Nat} (h : U8s w v xs) {k : Nat} (hk : k ≤ xs.length) : U8s w (cut 1 v 0 k) (xs.take k) := by
  have := h.cut (l := 0) (r := k) (Nat.zero_le _) hk
  show Row w 1 _ (xs.take k).length _
  have e : (xs.take k).length = k := by simp; omega
  rw [e]
  simpa [u8s, List.map_take] using this
end Go.Proofs.Ytfdmndkoiheebaa
