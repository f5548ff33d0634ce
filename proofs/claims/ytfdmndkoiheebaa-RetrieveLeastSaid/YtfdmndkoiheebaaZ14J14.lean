import Derived.Test.YtfdmndkoiheebaaZ14Yard4
import Derived.Test.YtfdmndkoiheebaaZ14G2
import Derived.Test.YtfdmndkoiheebaaZ14A7
namespace Go.Proofs.Ytfdmndkoiheebaa
open Go Go.RowKit
theorem rTakeP (w : World) {v : Value} {h b h' e : Int} {us : List Value} {xss l : List (List Int)} (hm : Mat w v us xss) (hl : xss.length < 100000) (hx : ∀ xs ∈ xss, xs.length ≤ 10) (hp : takeR xss h b = (l, h', e)) :
    Calls Try.prog 59 #[.agg #[v, .int .i64 h], .int .i64 b] w (Ret fun r w' => Ext w w' ∧ ∃ u us, r = .tuple #[.agg #[u, .int .i64 h'], .int .i64 e] ∧ MO w' u us l) := by
  have := rTake w (h := h) (b := b) hm hl hx; rw [hp] at this; exact this
section
variable {xss ys : List (List Int)} {H nx n' : Nat} {ord : List Int} {s : Int × Int × Int}
theorem doL_shift2 {a : Nat} {t : Int} (hR : RightP xss (H : Int)) (ha : a < xss.length) (hl : 0 < xss[a].length) (ht : t ≠ -1) :
    doL xss H ord nx (xss[a][xss[a].length - 1], (a : Int), t) = if (shiftL xss H a t).2 = 0 then some ((shiftL xss H a t).1, nx) else none := by
  have h1 := hR.pos ha (show xss[a].length - 1 < xss[a].length by omega)
  have hga : xss.getD a [] = xss[a] := by simp [ha]
  rcases (show (t < 0 ∨ (xss.length : Int) ≤ t) ∨ (0 ≤ t ∧ t < xss.length) by omega) with h | h
  · have e1 : (shiftL xss H a t).2 ≠ 0 := by unfold shiftL; rw [if_pos (by omega)]; simp
    rw [if_neg e1]
    simp only [doL]
    rw [topL_at ha hl, if_neg (by omega), if_neg ht, if_pos (by omega)]
  · obtain ⟨c, rfl⟩ : ∃ c : Nat, t = c := ⟨t.toNat, by omega⟩
    have hc : c < xss.length := by omega
    have hgc : xss.getD c [] = xss[c] := by simp [hc]
    by_cases hca : c = a
    · have e1 : (shiftL xss H a c).2 ≠ 0 := by unfold shiftL; rw [if_neg (by omega), if_pos (by omega)]; simp
      rw [if_neg e1]
      simp only [doL]
      rw [topL_at ha hl, if_neg (by omega), if_neg ht, if_pos (by omega)]
    · by_cases hf : xss[c].length = H
      · have e1 : (shiftL xss H a c).2 ≠ 0 := by unfold shiftL; rw [if_neg (by omega), if_neg (by omega), Int.toNat_natCast, Int.toNat_natCast, hga, hgc, if_neg (by omega), if_pos hf]; simp
        rw [if_neg e1]
        simp only [doL]
        rw [topL_at ha hl, if_neg (by omega), if_neg ht, if_pos (by rw [Int.toNat_natCast, hgc]; exact .inr (.inr (.inr hf)))]
      · obtain ⟨q1, q2⟩ := doL_shift (ord := ord) (nx := nx) hR ha hl hc hca hf
        rw [if_pos q1, q2]
theorem doL_take {a : Nat} (hR : RightP xss (H : Int)) (ha : a < xss.length) (hl : 0 < xss[a].length) (b : Int) (hb : xss[a][xss[a].length - 1] = b) :
    doL xss H ord nx (b, (a : Int), -1) = if b = ord.getD nx 0 then some (xss.set a xss[a].dropLast, nx + 1) else none := by
  have h1 := hR.pos ha (show xss[a].length - 1 < xss[a].length by omega)
  have hga : xss.getD a [] = xss[a] := by simp [ha]
  simp only [doL]
  rw [topL_at ha hl, if_neg (by omega), if_pos trivial, Int.toNat_natCast, hga]
  by_cases hq : b = ord.getD nx 0
  · have : nx ≠ ord.length := fun e => by
      rw [e] at hq; simp at hq; omega
    rw [if_pos hq, if_neg (by omega)]
  · rw [if_neg hq, if_pos (.inr (fun e => hq e.symm))]
end
end Go.Proofs.Ytfdmndkoiheebaa

namespace Go.Proofs.Ytfdmndkoiheebaa
open Go Go.RowKit
def YM (w wr : World) (v : Value) (xss : List (List Int)) : Prop := (∃ us, Mat w v us xss) ∨ ∃ us, MO wr v us xss
theorem YM.ext {w wr w' : World} {v : Value} {xss : List (List Int)} (h : YM w wr v xss) (u : Ext wr w') : YM w w' v xss := by
  rcases h with h | ⟨us, h⟩
  · exact .inl h
  · exact .inr ⟨us, h.ext u⟩
theorem YM.upT {w wr w' : World} {v : Value} {xss : List (List Int)} {b : Nat} {cs : Array Value} {ty : TypeId} (h : YM w wr v xss) (u : Upd (Ytfdmndkoiheebaa.one b) wr w') (hb : Blk wr b ty cs) (hne : 35 ≠ ty ∧ 3 ≠ ty) : YM w w' v xss := by
  rcases h with h | ⟨us, h⟩
  · exact .inl h
  · exact .inr ⟨us, h.upT u hb hne⟩
theorem YM.mat {w wr : World} {v : Value} {xss : List (List Int)} (h : YM w wr v xss) (hE : Ext w wr) : ∃ us, Mat wr v us xss := by
  rcases h with ⟨us, h⟩ | ⟨us, h⟩
  · exact ⟨us, h.ext hE⟩
  · exact ⟨us, h.mat⟩
end Go.Proofs.Ytfdmndkoiheebaa

namespace Go.Proofs.Ytfdmndkoiheebaa
open Go Go.RowKit
theorem told35 (w : World) {v : Value} {ss : List (Int × Int × Int)} (h : Steps w v ss) (hl : ss.length < 1000000000) :
    Calls Try.prog 50 #[v] w (Ret fun r w' => Ext w w' ∧ Sl w' 68 3 r ss.length (stepsC ss) ∧ Fresh w r) := by
  refine calls_E (args := [v]) 19 Try.func50 rfl rfl (by simp) ?_
  have hE : Ext w w := Upd.refl w
  refine E.seq ?_
  refine E.regionP rfl ?_
  refine R.assign ?_
  refine R.nil ?_
  refine E.seq ?_
  refine E.regionP rfl ?_
  refine R.assign ?_
  refine R.nil ?_
  refine E.seq ?_
  refine E.seq ?_
  refine E.regionP rfl ?_
  refine R.assign ?_
  refine R.nil ?_
  refine E.block ?_
  refine E.loop (fun n e wr => ∃ (i : Nat) (ov : Value), n = ss.length - i ∧ i ≤ ss.length ∧ Ext w wr ∧ Sl wr 68 3 ov i (stepsC (ss.take i)) ∧ Fresh w ov ∧ Has e [(0, v), (3, ov), (4, .int .i64 (i : Nat))]) (ss.length) ?_ ?_
  · exact ⟨0, _, rfl, Nat.zero_le _, hE, Sl.nil _ _ _, Fresh.nil _, rfl, rfl, rfl, trivial⟩
  · rintro n e wr ⟨i, ov, rfl, hi, hE, hW, hf, hH⟩
    obtain ⟨e, rfl⟩ := hH.ex
    clear hH
    refine E.seq ?_
    refine E.seq ?_
    refine E.regionP rfl ?_
    refine R.move ?_
    refine R.move ?_
    refine R.len Try.underlying78 h rfl ?_
    refine R.lss rfl rfl rfl ?_
    refine R.nil ?_
    refine E.cond rfl (fun hc8 => ?_) (fun hc8 => ?_)
    · replace hc8 := dT hc8
      have hi1 : i < ss.length := by omega
      have hmin : min i ss.length = i := by omega
      refine E.skip ?_
      refine E.seq ?_
      refine E.block ?_
      refine E.regionP rfl ?_
      refine R.move ?_
      refine R.move ?_
      refine R.move ?_
      refine R.ix Try.underlying78 t117 (by decide) h rfl rfl (by omega) ?_
      refine R.ldS t117 h hE (by omega) rfl rfl (fun _ _ => trivial) ?_
      refine R.buildSlice [.agg #[.int .i64 ss[i].1, .int .i64 ss[i].2.1, .int .i64 ss[i].2.2]] Try.underlying62 t68 rfl rfl (by simp [Value.cells]) (by simp) nofun ?_
      intro b16 w1 hb16 hx1 hB16 hS16
      replace hb16 := Nat.le_trans hE.size hb16
      replace hW := hW.ext hx1
      replace hE := hE.ext hx1
      refine R.append (m := 1) Try.underlying62 Try.underlying62 t68 (by decide) rfl hW hS16.row (by simp [cellsOf, Value.cells, Value.oneCell']) rfl rfl (by omega) (by omega) nofun ?_
      intro v17 w17 hU17 hS17 hd17
      have hf17 := Fresh.app' hE.size hf hd17
      replace hE := hE.app hU17 hf
      replace hW : Sl w17 68 3 v17 (i + 1) (stepsC (ss.take (i + 1))) := by
        rw [take_snoc (List.getElem?_eq_getElem hi1), stepsC_snoc]
        simpa [cellsOf, Value.cells] using hS17
      clear hS16 hS17 hd17
      refine R.assign ?_
      refine R.nil ?_
      refine E.regionP rfl ?_
      refine R.move ?_
      refine R.addN (n := 1) rfl rfl (by omega) ?_
      refine R.assign ?_
      refine R.nil ?_
      exact ⟨ss.length - (i + 1), by omega, i + 1, v17, rfl, by omega, hE, hW, hf17, rfl, rfl, rfl, trivial⟩
    · replace hc8 := dF hc8
      refine E.exit ?_
      refine E.seq ?_
      refine E.regionP rfl ?_
      refine R.move ?_
      refine R.assign ?_
      refine R.nil ?_
      refine E.ret ?_
      obtain rfl : i = ss.length := by omega
      rw [List.take_length] at hW
      exact ret1 ov rfl rfl ⟨_, rfl, hE, hW, hf⟩
end Go.Proofs.Ytfdmndkoiheebaa

namespace Go.Proofs.Ytfdmndkoiheebaa
open Go Go.RowKit
theorem YM.upS {w wr w' : World} {v x : Value} {xss : List (List Int)} {ty' : TypeId} {k' m : Nat} {ds : List Value} (h : YM w wr v xss) (u : Upd (fun b => vblk x = some b) wr w') (hx : Sl wr ty' k' x m ds) (hne : 35 ≠ ty' ∧ 3 ≠ ty') : YM w w' v xss := by
  rcases h with h | ⟨us, h⟩
  · exact .inl h
  · exact .inr ⟨us, h.upS u hx hne⟩
structure OverJ (ys : List (List Int)) (H : Nat) (ord : List Int) (nx a k : Nat) (ov : List Int) : Prop where
  good : GoodJ ys H ord nx
  ln : nx < ord.length
  la : a < ys.length
  lk : k < ys[a].length
  box : ys[a][k] = ord[nx]
  find : findL ys ord[nx] = some (a, k)
  over : (ys[a].drop (k + 1)).reverse = ov
section
variable {ys : List (List Int)} {H : Nat} {ord : List Int} {nx a k : Nat} {ov : List Int} {b : Int}
theorem OverJ.len (h : OverJ ys H ord nx a k ov) : ov.length + (k + 1) = (ys[a]'h.la).length := by
  have h1 := congrArg List.length h.over
  have h2 := h.lk
  simp at h1; omega
theorem OverJ.top (h : OverJ ys H ord nx a k (b :: ov)) : topL ys (a : Nat) = b := by
  have hl := h.len
  simp at hl
  have ha := h.la
  rw [topL_at ha (by omega)]
  have h1 := congrArg (fun l => l.head?) h.over
  simp only [List.head?_reverse, List.head?_cons, List.getLast?_drop] at h1
  rw [if_neg (by omega), List.getLast?_eq_getElem?, List.getElem?_eq_getElem (by omega)] at h1
  exact Option.some.inj h1
theorem OverJ.ne (h : OverJ ys H ord nx a k (b :: ov)) : topL ys (a : Nat) ≠ ord[nx]'h.ln := fun e => by
  have hl := h.len
  have ha := h.la
  simp at hl
  rw [topL_at ha (by omega), ← h.box] at e
  have := (h.good.right.inj ha (show ys[a].length - 1 < ys[a].length by omega) ha h.lk e).2
  omega
theorem OverJ.next (h : OverJ ys H ord nx a k (b :: ov)) {j : Nat} (hj : j < ys.length) (hja : j ≠ a) (hjH : ys[j].length ≠ H) : OverJ (shiftL ys H a j).1 H ord nx a k ov ∧ (shiftL ys H a j).2 = 0 ∧ doL ys H ord nx (b, ((a : Nat) : Int), (j : Nat)) = some ((shiftL ys H a j).1, nx) := by
  have hl := h.len
  have ha := h.la
  simp at hl
  obtain ⟨hs, hd⟩ := doL_shift (ord := ord) (nx := nx) h.good.right ha (by omega) hj hja hjH
  have ht := h.top
  rw [topL_at ha (by omega)] at ht
  rw [ht] at hd
  obtain ⟨hG, hF, _⟩ := h.good.reloc ha h.lk (by omega) hj hja hjH
  rw [h.box] at hF
  have hlen : (shiftL ys H a j).1.length = ys.length := shiftL_len
  obtain ⟨a', b', ha', hb', hl', e1, e2, hab, hn, he⟩ := shiftL_ok hs
  obtain rfl : a = a' := by omega
  have hrow : (shiftL ys H a j).1[a]'(by omega) = ys[a].dropLast := by simp only [he]; rw [List.getElem_set_self]
  refine ⟨⟨hG, h.ln, by omega, by rw [hrow]; simp; omega, by simp only [hrow]; rw [List.getElem_dropLast]; exact h.box, hF, ?_⟩, hs, hd⟩
  rw [hrow]
  have h1 := h.over
  have h2 : (ys[a].dropLast).drop (k + 1) = (ys[a].drop (k + 1)).dropLast := by
    rw [List.dropLast_eq_take, List.dropLast_eq_take, List.drop_take, List.length_drop]; congr 1; omega
  rw [h2]
  have h3 := congrArg List.tail h1
  rw [List.tail_reverse] at h3
  exact h3
theorem OverJ.leave (h : OverJ ys H ord nx a k []) : topL ys (a : Nat) = ord[nx]'h.ln ∧ doL ys H ord nx (ord[nx]'h.ln, ((a : Nat) : Int), -1) = some (ys.set a ((ys[a]'h.la).take k), nx + 1) ∧ GoodJ (ys.set a ((ys[a]'h.la).take k)) H ord (nx + 1) ∧ takeR ys H (ord[nx]'h.ln) = (ys.set a ((ys[a]'h.la).take k), (H : Int), 0) := by
  have hl := h.len
  have ha := h.la
  simp at hl
  obtain ⟨q1, q2⟩ := h.good.leave h.ln ha h.lk h.box (by omega)
  have hd : ys[a].dropLast = ys[a].take k := by rw [List.dropLast_eq_take]; congr 1; omega
  rw [hd] at q1 q2
  refine ⟨?_, q1, q2, ?_⟩
  · rw [topL_at ha (by omega), ← h.box]; congr 1; omega
  · have := h.good.right.take_top ha h.lk (by omega)
    rw [h.box] at this
    exact this
theorem OverJ.start {nx : Nat} (h : GoodJ ys H ord nx) (hn : nx < ord.length) : ∃ (a k : Nat) (ov : List Int), OverJ ys H ord nx a k ov ∧ aboveL ys H ord[nx] = (ov, 0) ∧ findV ys ord[nx] = .tuple #[.int .i64 (a : Nat), .int .i64 (k : Nat), .bool true] := by
  obtain ⟨a, k, ha, hk, hak, hF⟩ := h.at hn
  refine ⟨a, k, (ys[a].drop (k + 1)).reverse, ⟨h, hn, ha, hk, hak, hF, rfl⟩, ?_, ?_⟩
  · simp [aboveL, h.right.b, hF, ha]
  · simp [findV, hF]
end
end Go.Proofs.Ytfdmndkoiheebaa

namespace Go.Proofs.Ytfdmndkoiheebaa
open Go Go.RowKit
theorem Lent.upT {w w' : World} {v : Value} {xs : List Int} {b : Nat} {ty : TypeId} {cs : Array Value} (h : Lent w v xs) (u : Upd (Ytfdmndkoiheebaa.one b) w w') (hb : Blk w b ty cs) (hne : 3 ≠ ty) : Lent w' v xs := by
  obtain ⟨v0, h, e⟩ := h; exact ⟨v0, h.upT u hb hne, e⟩
end Go.Proofs.Ytfdmndkoiheebaa
