import Derived.Test.YtfdmndkoiheebaaZ16J8
import Derived.Test.YtfdmndkoiheebaaZ16Yard3
import Derived.Test.YtfdmndkoiheebaaZ16N1
import Derived.Scope
import Derived.Test.YtfdmndkoiheebaaZ16J19
namespace Go.Proofs.Ytfdmndkoiheebaa
open Go Go.RowKit
def noG (Q : Exit → Env → World → Prop) : Exit → Env → World → Prop
  | .goto _, _, _ => False
  | x, e, w => Q x e w
theorem E.scope {mm : Bool} {P : Program} {N : Nat} {Q : Exit → Env → World → Prop} {e : Env} {w : World} {c : Code} (h : wpE ⟨none, mm⟩ P N c (noG Q) e w) : wpE ⟨none, mm⟩ P N (.scope c) Q e w := fun a ha => by
  refine wpIn_wide.2 (wp_scope_straight (wpIn_wide.1 (wpIn_mono (h a ha) fun x a' w' ⟨e', r, q⟩ => ?_)))
  cases x
  case goto l => exact q.elim
  all_goals exact ⟨e', r, q⟩
theorem least0 (w : World) {v vo : Value} {h : Int} {us : List Value} {xss : List (List Int)} {ord : List Int} (hm : Mat w v us xss) (ho : Ints w vo ord) (hl : xss.length < 1000000) (hx : ∀ xs ∈ xss, xs.length < 1000000) (hol : ord.length < 100000) (hb : beginB xss h ord = false) :
    Calls Try.prog 40 #[.agg #[v, .int .i64 h], vo] w (Ret fun r w' => Ext w w' ∧ r = .tuple #[.slice none 0 0, .int .i64 2]) := by
  refine calls_E (args := [.agg #[v, .int .i64 h], vo]) 66 Try.func40 rfl rfl (by simp) ?_
  have hE : Ext w w := Upd.refl w
  refine E.seq ?_
  refine E.regionP rfl ?_
  refine R.box rfl nofun ?_
  intro b2 w1 hb2 hx1 hB2
  replace hb2 := Nat.le_trans hE.size hb2
  replace hE := hE.ext hx1
  replace hB2 : Blk _ b2 24 #[v, .int .i64 h] := hB2
  refine R.box rfl nofun ?_
  intro b3 w3 hb3 hx3 hB3
  replace hb3 := Nat.le_trans hE.size hb3
  replace hB2 := hB2.ext hx3
  replace hE := hE.ext hx3
  replace hB3 : Blk w3 b3 35 #[vo] := by have e : vo.cells = #[vo] := cells_one ho.one; rw [← e]; exact hB3
  refine R.assign ?_
  refine R.assign ?_
  refine R.nil ?_
  refine E.scope ?_
  refine E.seq ?_
  refine E.regionP rfl ?_
  refine R.loadA t24 hB2 rfl rfl rfl trivial ?_
  refine R.loadB t35 hB3 rfl rfl rfl trivial ?_
  refine R.callE2 ent73 (begin0 _ (hm.ext hE) (ho.ext hE) hl hx (by omega) hb) rfl rfl nofun ?_
  rintro v16 w2 hx2 rfl
  replace hB2 := hB2.ext hx2
  replace hB3 := hB3.ext hx2
  replace hE := hE.ext hx2
  refine R.move ?_
  refine R.extract rfl rfl ?_
  refine R.extract rfl rfl ?_
  refine R.alloc t104 nofun ?_
  intro b6 w3 hb6 hx3 hB6
  replace hb6 := Nat.le_trans hE.size hb6
  replace hB2 := hB2.ext hx3
  replace hB3 := hB3.ext hx3
  replace hE := hE.ext hx3
  replace hB6 : Blk _ b6 104 #[.pointer none] := hB6
  refine R.store t104 hB6 rfl rfl (rfl) (by simp) nofun ?_
  intro w4 hU4 hs4 hN4
  replace hB2 := hB2.upT hU4 hB6 (by decide)
  replace hB3 := hB3.upT hU4 hB6 (by decide)
  replace hE := hE.own hU4 hb6
  replace hB6 : Blk _ b6 104 #[.pointer none] := hN4
  clear hN4
  refine R.assign ?_
  refine R.nil ?_
  refine E.seq ?_
  refine E.seq ?_
  refine E.regionP rfl ?_
  refine R.move ?_
  refine R.not rfl ?_
  refine R.nil ?_
  refine E.condT rfl ?_
  refine E.seq ?_
  refine E.regionP rfl ?_
  refine R.assign ?_
  refine R.assign ?_
  refine R.nil ?_
  refine E.ret ?_
  exact ret2 (.slice none 0 0) (.int .i64 2) rfl rfl rfl ⟨_, rfl, hE, rfl⟩
end Go.Proofs.Ytfdmndkoiheebaa

namespace Go.Proofs.Ytfdmndkoiheebaa
open Go Go.RowKit
theorem R.makeF3 {P : Program} {ops : Array Oper} {S : Bool → Nat → Prop} {dr : Bool} {B : List Nat} {F : Env → World → Prop} {rest : List Oper} {e : Env} {w : World} {d : Tmp} {ty : TypeId} {pos : String} {aft : Array Edge} {fn : Fn} {x y z : Operand} {u v t : Value} (hc : ev e x = u) (hd : ev e y = v) (hz : ev e z = t)
    (h : wpR P ops S dr (kind B) F rest (upd e d (.func fn #[] #[u, v, t])) w) : wpR P ops S dr (kind B) F (⟨some d, .makeFunc fn #[] #[x, y, z], ty, pos, aft, none⟩ :: rest) e w := R.makeFunc (f := #[]) (c := #[u, v, t]) (by simp) (by simp [hc, hd, hz]) h
theorem tri6 : ∀ n : Nat, n ≤ 6 → (n : Int) * ((n : Int) - 1) = ((n * (n - 1) : Nat) : Int) ∧ n * (n - 1) ≤ 30
  | 0, _ => by decide
  | 1, _ => by decide
  | 2, _ => by decide
  | 3, _ => by decide
  | 4, _ => by decide
  | 5, _ => by decide
  | 6, _ => by decide
  | n + 7, h => by omega
theorem wayL_few (ord : List Int) : ∀ (xss : List (List Int)), wayL ord xss ≤ xss.flatten.length
  | [] => by simp [wayL]
  | x :: xss => by
    have h1 := wayL_few ord xss
    have h2 := wayR_le ord x ord.length
    simp only [wayL, List.map_cons, List.sum_cons, List.flatten_cons, List.length_append] at *
    omega
theorem flat_le {m : Nat} : ∀ (xss : List (List Int)), (∀ xs ∈ xss, xs.length ≤ m) → xss.flatten.length ≤ xss.length * m
  | [], _ => by simp
  | x :: xss, h => by
    have h1 := flat_le xss (fun xs hx => h xs (List.mem_cons_of_mem _ hx))
    have h2 := h x List.mem_cons_self
    simp only [List.flatten_cons, List.length_append, List.length_cons, Nat.add_mul, Nat.one_mul]
    omega
theorem flat_drop {xss : List (List Int)} {i : Nat} (h : i < xss.length) : (xss.drop i).flatten.length = xss[i].length + (xss.drop (i + 1)).flatten.length := by
  rw [List.drop_eq_getElem_cons h, List.flatten_cons, List.length_append]
theorem OrdP.few {xss : List (List Int)} {ord : List Int} (h : OrdP xss ord) : ord.length ≤ xss.flatten.length := h.1.length_le_of_subset h.2
theorem find_next {α : Type} {f : Nat → Option α} {m : Nat} (h0 : (List.range m).findSome? f = none) (h : f m = none) : (List.range (m + 1)).findSome? f = none := by
  rw [List.range_succ, List.findSome?_append, h0]
  simp [h]
set_option maxHeartbeats 6400000 in
theorem yLeast1 (w : World) {v vo : Value} {H : Nat} {us : List Value} {xss : List (List Int)} {ord : List Int} (hm : Mat w v us xss) (ho : Ints w vo ord) (hl : xss.length < 1000000) (hx : ∀ xs ∈ xss, xs.length < 1000000) (hol : ord.length < 100000) (hb : beginB xss H ord = true) :
    Calls Try.prog 40 #[.agg #[v, .int .i64 H], vo] w (Ret fun r w' => Ext w w' ∧ ∃ u, r = .tuple #[u, .int .i64 (leastR xss H ord).2] ∧ Sl w' 68 3 u (leastR xss H ord).1.length (stepsC (leastR xss H ord).1) ∧ Fresh w u) := by
  obtain ⟨hRP, hOP⟩ := beginB_right hb
  have hl30 := hRP.2.2.2.1
  have hx6 := sum_lengths hRP
  have hfl := flat_le xss hx6
  have hLR : leastR xss H ord = (if 6 < xss.flatten.length ∨ 4 < xss.length then (([], 5) : List (Int × Int × Int) × Int) else match leastS H ord xss with
      | some ss => (ss, 0)
      | none => ([], 4)) := by unfold leastR; rw [if_pos hb]; rfl
  refine calls_E (args := [.agg #[v, .int .i64 H], vo]) 66 Try.func40 rfl rfl (by simp) ?_
  have hE : Ext w w := Upd.refl w
  refine E.seq ?_
  refine E.regionP rfl ?_
  refine R.box rfl nofun ?_
  intro b2 w1 hb2 hx1 hB2
  replace hb2 := Nat.le_trans hE.size hb2
  replace hE := hE.ext hx1
  replace hB2 : Blk _ b2 24 #[v, .int .i64 H] := hB2
  refine R.box rfl nofun ?_
  intro b3 wb hb3 hx3 hB3
  replace hb3 := Nat.le_trans hE.size hb3
  replace hB2 := hB2.ext hx3
  replace hE := hE.ext hx3
  replace hB3 : Blk wb b3 35 #[vo] := by have e : vo.cells = #[vo] := cells_one ho.one; rw [← e]; exact hB3
  refine R.assign ?_
  refine R.assign ?_
  refine R.nil ?_
  refine E.scope ?_
  refine E.seq ?_
  refine E.regionP rfl ?_
  refine R.loadA t24 hB2 rfl rfl rfl trivial ?_
  refine R.loadB t35 hB3 rfl rfl rfl trivial ?_
  refine R.callE2 ent73 (begin1 _ (hm.ext hE) (ho.ext hE) hl hx (by omega) hb) rfl rfl nofun ?_
  rintro v16 w2 hx2 ⟨bj, vs, us0, rm, vt, rfl, hJob⟩
  have hE1 := hE
  have hl3 := hB3.lt
  replace hB2 := hB2.ext hx2
  replace hB3 := hB3.ext hx2
  replace hE := hE.ext hx2
  refine R.move ?_
  refine R.extract rfl rfl ?_
  refine R.extract rfl rfl ?_
  refine R.alloc t104 nofun ?_
  intro b6 w43 hl6 hx6a hB6
  have hb6 := Nat.le_trans hE.size hl6
  have hg6 := Nat.le_trans hJob.ext.size hl6
  replace hJob := hJob.ex hx6a
  replace hB2 := hB2.ext hx6a
  replace hB3 := hB3.ext hx6a
  replace hE := hE.ext hx6a
  replace hB6 : Blk _ b6 104 #[.pointer none] := hB6
  refine R.store t104 hB6 rfl rfl rfl (by simp) nofun ?_
  intro w44 hU44 hs44 hN44
  replace hJob := hJob.upT hU44 hB6 hg6 (by decide)
  replace hB3 := hB3.upT hU44 hB6 (by decide)
  replace hB2 := hB2.upT hU44 hB6 (by decide)
  replace hE := hE.own hU44 hb6
  replace hB6 : Blk _ b6 104 #[.pointer (some ⟨bj, 0, none⟩)] := hN44
  refine R.assign ?_
  refine R.nil ?_
  refine E.seq ?_
  refine E.seq ?_
  refine E.regionP rfl ?_
  refine R.move ?_
  refine R.not rfl ?_
  refine R.nil ?_
  refine E.condF rfl ?_
  refine E.skip ?_
  refine E.seq ?_
  refine E.regionP rfl ?_
  refine R.assign ?_
  refine R.nil ?_
  refine E.seq ?_
  refine E.seq ?_
  refine E.regionP rfl ?_
  refine R.loadB t104 hB6 rfl rfl rfl trivial ?_
  refine R.nilCheck rfl ?_
  refine R.fld fa108_0 rfl ?_
  refine R.loadB t22 hJob.blk rfl rfl rfl trivial ?_
  refine R.len Try.underlying22 hJob.ms.mat.row rfl ?_
  refine R.move ?_
  refine R.nil ?_
  refine E.block ?_
  refine E.loop (fun n e wr => ∃ (i q : Nat), n = xss.length - i ∧ i ≤ xss.length ∧ q + (xss.drop i).flatten.length = xss.flatten.length ∧ Ext w wr ∧ Job wb wr bj vs us0 vo rm vt xss H ord [] 0 ∧ Blk wr b3 35 #[vo] ∧ Blk wr b6 104 #[.pointer (some ⟨bj, 0, none⟩)] ∧ Has e [(3, .pointer (some ⟨b3, 0, none⟩)), (6, .pointer (some ⟨b6, 0, none⟩)), (8, .int .i64 (q : Nat)), (24, vs), (25, .int .i64 xss.length), (26, .int .i64 (i : Nat))]) (xss.length) ?_ ?_
  · exact ⟨0, 0, rfl, Nat.zero_le _, by simp, hE, hJob, hB3, hB6, rfl, rfl, rfl, rfl, rfl, rfl, trivial⟩
  · rintro n e wr ⟨i, q, rfl, hi, hq, hE, hJob, hB3, hB6, hH⟩
    obtain ⟨e, rfl⟩ := hH.ex
    clear hH
    refine E.seq ?_
    refine E.regionP rfl ?_
    refine R.lss rfl rfl rfl ?_
    refine R.nil ?_
    refine E.seq ?_
    refine E.cond rfl (fun hc27 => ?_) (fun hc27 => ?_)
    · replace hc27 := dT hc27
      have hi1 : i < xss.length := by omega
      rw [flat_drop hi1] at hq
      have hxi := hx6 _ (List.getElem_mem hi1)
      refine E.skip ?_
      refine E.seq ?_
      refine E.block ?_
      refine E.seq ?_
      refine E.regionP rfl ?_
      refine R.ix Try.underlying22 t35 (by decide) hJob.ms.mat.row rfl rfl (by omega) ?_
      obtain ⟨u29, hu29, hr29⟩ := hJob.ms.mat.get i (by omega)
      refine R.ld t35 hJob.ms.mat.row rfl hu29 rfl (fun _ _ => trivial) ?_
      refine R.assign ?_
      refine R.nil ?_
      refine E.regionP rfl ?_
      refine R.move ?_
      refine R.move ?_
      refine R.len Try.underlying35 hr29 rfl ?_
      refine R.addN (m := q) (n := xss[i].length) rfl rfl (by omega) ?_
      refine R.assign ?_
      refine R.nil ?_
      refine E.regionP rfl ?_
      refine R.addN (n := 1) rfl rfl (by omega) ?_
      refine R.move ?_
      refine R.nil ?_
      exact ⟨xss.length - (i + 1), by omega, i + 1, q + xss[i].length, rfl, by omega, by omega, hE, hJob, hB3, hB6, rfl, rfl, rfl, rfl, rfl, rfl, trivial⟩
    · replace hc27 := dF hc27
      obtain rfl : i = xss.length := by omega
      obtain rfl : q = xss.flatten.length := by rw [List.drop_length] at hq; simpa using hq
      refine E.exit ?_
      refine E.seq ?_
      refine E.seq ?_
      rcases Nat.lt_or_ge 6 xss.flatten.length with h6 | h6
      rotate_left
      rcases Nat.lt_or_ge 4 xss.length with h4 | h4
      · refine E.regionP rfl ?_
        refine R.move ?_
        refine R.gtr (b := false) rfl rfl (decide_eq_false (by omega)) ?_
        refine R.move ?_
        refine R.gT rfl rfl ?_
        refine R.loadB t104 hB6 rfl rfl rfl trivial ?_
        refine R.gT rfl rfl ?_
        refine R.nilCheck rfl ?_
        refine R.gT rfl rfl ?_
        refine R.fld fa108_0 rfl ?_
        refine R.gT rfl rfl ?_
        refine R.loadB t22 hJob.blk rfl rfl rfl trivial ?_
        refine R.gT rfl rfl ?_
        refine R.len Try.underlying22 hJob.ms.mat.row rfl ?_
        refine R.gT rfl rfl ?_
        refine R.gtr (b := true) rfl rfl (decide_eq_true (by omega)) ?_
        refine R.pickF rfl ?_
        refine R.nil ?_
        refine E.condT rfl ?_
        refine E.seq ?_
        refine E.regionP rfl ?_
        refine R.assign ?_
        refine R.assign ?_
        refine R.nil ?_
        refine E.ret ?_
        exact ret2 (.slice none 0 0) (.int .i64 5) rfl rfl rfl ⟨_, rfl, hE, _, by rw [hLR, if_pos (.inr h4)], by rw [hLR, if_pos (.inr h4)]; exact Sl.nil _ 68 3, Fresh.nil _⟩
      · refine E.regionP rfl ?_
        refine R.move ?_
        refine R.gtr (b := false) rfl rfl (decide_eq_false (by omega)) ?_
        refine R.move ?_
        refine R.gT rfl rfl ?_
        refine R.loadB t104 hB6 rfl rfl rfl trivial ?_
        refine R.gT rfl rfl ?_
        refine R.nilCheck rfl ?_
        refine R.gT rfl rfl ?_
        refine R.fld fa108_0 rfl ?_
        refine R.gT rfl rfl ?_
        refine R.loadB t22 hJob.blk rfl rfl rfl trivial ?_
        refine R.gT rfl rfl ?_
        refine R.len Try.underlying22 hJob.ms.mat.row rfl ?_
        refine R.gT rfl rfl ?_
        refine R.gtr (b := false) rfl rfl (decide_eq_false (by omega)) ?_
        refine R.pickF rfl ?_
        refine R.nil ?_
        refine E.condF rfl ?_
        refine E.skip ?_
        refine E.seq ?_
        refine E.regionP rfl ?_
        rw [if_neg (by omega)] at hLR
        have hol1 : ord.length < 1000 := by have := hOP.few; omega
        have hol2 : ord.length ≤ 6 := by have := hOP.few; omega
        have hG := GoodJ.start hb
        refine R.alloc t109 nofun ?_
        intro b11 w11 hb11 hx11 hB11
        have hg11 := Nat.le_trans hJob.ext.size hb11
        replace hb11 := Nat.le_trans hE.size hb11
        replace hJob := hJob.ex hx11
        replace hB3 := hB3.ext hx11
        replace hB6 := hB6.ext hx11
        replace hE := hE.ext hx11
        replace hB11 : Blk _ b11 109 #[.nilFunc] := hB11
        refine R.nil ?_
        refine E.seq ?_
        refine E.regionP rfl ?_
        refine R.makeF3 rfl rfl rfl ?_
        refine R.store t109 hB11 rfl rfl rfl (by simp) nofun ?_
        intro w45 hU45 hs45 hN45
        replace hJob := hJob.upT hU45 hB11 hg11 (by decide)
        replace hB3 := hB3.upT hU45 hB11 (by decide)
        replace hB6 := hB6.upT hU45 hB11 (by decide)
        replace hE := hE.own hU45 hb11
        replace hB11 : Blk _ b11 109 #[.func (.func 74) #[] #[.pointer (some ⟨b6, 0, none⟩), .pointer (some ⟨b3, 0, none⟩), .pointer (some ⟨b11, 0, none⟩)]] := hN45
        refine R.nil ?_
        refine E.seq ?_
        refine E.regionP rfl ?_
        refine R.loadB t104 hB6 rfl rfl rfl trivial ?_
        refine R.callE1 ent80 (way_ _ hJob.blk hJob.ms.mat (hJob.ordI.ext hJob.ext) hJob.ranks hl30 hx6) rfl nofun ?_
        rintro v47 w3 hx3 rfl
        replace hJob := hJob.ex hx3
        replace hB3 := hB3.ext hx3
        replace hB6 := hB6.ext hx3
        replace hB11 := hB11.ext hx3
        replace hE := hE.ext hx3
        refine R.assign ?_
        refine R.nil ?_
        refine E.seq ?_
        refine E.label ?_
        refine E.seq ?_
        refine E.block ?_
        refine E.loop (fun n e wr => ∃ (m : Nat) (us1 : List Value) (vt1 : Value), n = 40 - m ∧ m ≤ 15 ∧ Ext w wr ∧ Job wb wr bj vs us1 vo rm vt1 xss H ord [] 0 ∧ (List.range m).findSome? (fun m => tryL H ord xss 0 m) = none ∧ Blk wr b3 35 #[vo] ∧ Blk wr b6 104 #[.pointer (some ⟨bj, 0, none⟩)] ∧ Blk wr b11 109 #[.func (.func 74) #[] #[.pointer (some ⟨b6, 0, none⟩), .pointer (some ⟨b3, 0, none⟩), .pointer (some ⟨b11, 0, none⟩)]] ∧ Has e [(3, .pointer (some ⟨b3, 0, none⟩)), (6, .pointer (some ⟨b6, 0, none⟩)), (8, .int .i64 xss.flatten.length), (11, .pointer (some ⟨b11, 0, none⟩)), (12, .int .i64 (m : Nat))]) (40 - wayL ord xss) ?_ ?_
        · exact ⟨wayL ord xss, us0, vt, rfl, by have := wayL_few ord xss; omega, hE, hJob, low_none hG (Nat.le_refl _), hB3, hB6, hB11, rfl, rfl, rfl, rfl, rfl, trivial⟩
        · rintro n e wr ⟨m, us1, vt1, rfl, hm15, hE, hJob, hfn, hB3, hB6, hB11, hH⟩
          obtain ⟨e, rfl⟩ := hH.ex
          clear hH
          refine E.block ?_
          refine E.seq ?_
          refine E.block ?_
          refine E.seq ?_
          rcases hT : tryL H ord xss 0 m with _ | tt
          · refine E.regionP rfl ?_
            refine R.loadB t109 hB11 rfl rfl rfl trivial ?_
            refine R.move ?_
            have hn6 : ¬ JB bj vs us1 vt1 b6 := hJob.notin hB6 (by decide)
            have hn11 : ¬ JB bj vs us1 vt1 b11 := hJob.notin hB11 (by decide)
            have hn3 : ¬ JB bj vs us1 vt1 b3 := fun h => by have := hJob.ge h; omega
            refine R.callV1 ent74 (cap := #[.pointer (some ⟨b6, 0, none⟩), .pointer (some ⟨b3, 0, none⟩), .pointer (some ⟨b11, 0, none⟩)]) rfl rfl (try_ wb hol1 (ord.length - 0 + m) _ us1 vt1 xss [] 0 m rfl (by simp; omega) hG (Nat.zero_le _) (by omega) hJob hB6 hB3 hB11 hn6 hn3 hn11) ?_
            rintro v51 w51 ⟨hU51, hT51⟩
            refine ⟨nofun, ?_⟩
            rw [hT] at hT51
            replace hE := hE.trans hU51 (fun b hb hx => by have := hJob.ge hx; have := hE1.size; omega)
            obtain ⟨rfl, us3, vt3, hJob, hS51⟩ := hT51
            replace hB3 := hB3.up hU51 hn3
            replace hB6 := hB6.up hU51 hn6
            replace hB11 := hB11.up hU51 hn11
            refine R.assign ?_
            refine R.nil ?_
            refine E.condF rfl ?_
            refine E.seq ?_
            refine E.regionP rfl ?_
            refine R.move ?_
            refine R.move ?_
            refine R.move ?_
            refine R.sub (m := (xss.flatten.length : Int)) (n := 1) rfl rfl (by omega) (by omega) ?_
            obtain ⟨htr, htl⟩ := tri6 _ h6
            refine R.mul (m := (xss.flatten.length : Int)) (n := (xss.flatten.length : Int) - 1) rfl rfl (by omega) (by omega) ?_
            rw [htr]
            refine R.quoN (m := xss.flatten.length * (xss.flatten.length - 1)) (n := 2) rfl rfl (by omega) (by omega) ?_
            refine R.geq rfl rfl rfl ?_
            refine R.assign ?_
            refine R.nil ?_
            refine E.cond rfl (fun hc52 => ?_) (fun hc52 => ?_)
            · replace hc52 := dT hc52
              have htm : tri xss.flatten.length ≤ m := by unfold tri; omega
              rw [least_full hG htm hT] at hLR
              replace hLR : leastR xss H ord = ([], 4) := hLR
              refine E.seq ?_
              refine E.regionP rfl ?_
              refine R.assign ?_
              refine R.assign ?_
              refine R.nil ?_
              refine E.ret ?_
              exact ret2 (.slice none 0 0) (.int .i64 4) rfl rfl rfl ⟨_, rfl, hE, _, by rw [hLR], by rw [hLR]; exact Sl.nil _ 68 3, Fresh.nil _⟩
            · replace hc52 := dF hc52
              refine E.skip ?_
              refine E.regionP rfl ?_
              refine R.move ?_
              refine R.addN (m := m) (n := 1) rfl rfl (by omega) ?_
              refine R.assign ?_
              refine R.nil ?_
              exact ⟨39 - m, by omega, m + 1, us3, vt3, by omega, by omega, hE, hJob, find_next hfn hT, hB3, hB6, hB11, rfl, rfl, rfl, rfl, rfl, trivial⟩
          · refine E.regionP rfl ?_
            refine R.loadB t109 hB11 rfl rfl rfl trivial ?_
            refine R.move ?_
            have hn6 : ¬ JB bj vs us1 vt1 b6 := hJob.notin hB6 (by decide)
            have hn11 : ¬ JB bj vs us1 vt1 b11 := hJob.notin hB11 (by decide)
            have hn3 : ¬ JB bj vs us1 vt1 b3 := fun h => by have := hJob.ge h; omega
            refine R.callV1 ent74 (cap := #[.pointer (some ⟨b6, 0, none⟩), .pointer (some ⟨b3, 0, none⟩), .pointer (some ⟨b11, 0, none⟩)]) rfl rfl (try_ wb hol1 (ord.length - 0 + m) _ us1 vt1 xss [] 0 m rfl (by simp; omega) hG (Nat.zero_le _) (by omega) hJob hB6 hB3 hB11 hn6 hn3 hn11) ?_
            rintro v51 w51 ⟨hU51, hT51⟩
            refine ⟨nofun, ?_⟩
            rw [hT] at hT51
            replace hE := hE.trans hU51 (fun b hb hx => by have := hJob.ge hx; have := hE1.size; omega)
            obtain ⟨rfl, ys3, nx3, us3, vt3, hJob, hS51⟩ := hT51
            replace hB3 := hB3.up hU51 hn3
            replace hB6 := hB6.up hU51 hn6
            replace hB11 := hB11.up hU51 hn11
            refine R.assign ?_
            refine R.nil ?_
            refine E.condT rfl ?_
            refine E.exit ?_
            refine E.seq ?_
            refine E.regionP rfl ?_
            refine R.loadB t104 hB6 rfl rfl rfl trivial ?_
            refine R.nilCheck rfl ?_
            refine R.fld fa108_4 rfl ?_
            refine R.loadB t62 hJob.blk rfl rfl rfl trivial ?_
            rw [show leastS H ord xss = some tt from find_hit hfn (by omega) hT] at hLR
            replace hLR : leastR xss H ord = (tt, 0) := hLR
            refine R.assign ?_
            refine R.assign ?_
            refine R.nil ?_
            refine E.ret ?_
            exact ret2 vt3 (.int .i64 0) rfl rfl rfl ⟨_, rfl, hE, vt3, by rw [hLR], by rw [hLR]; simpa using hJob.steps, hJob.ft.mono hE1.size⟩
      · refine E.regionP rfl ?_
        refine R.move ?_
        refine R.gtr (b := true) rfl rfl (decide_eq_true (by omega)) ?_
        refine R.move ?_
        refine R.gF rfl rfl rfl ?_
        refine R.gF rfl rfl rfl ?_
        refine R.gF rfl rfl rfl ?_
        refine R.gF rfl rfl rfl ?_
        refine R.gF rfl rfl rfl ?_
        refine R.gF rfl rfl rfl ?_
        refine R.pickT rfl ?_
        refine R.nil ?_
        refine E.condT rfl ?_
        refine E.seq ?_
        refine E.regionP rfl ?_
        refine R.assign ?_
        refine R.assign ?_
        refine R.nil ?_
        refine E.ret ?_
        exact ret2 (.slice none 0 0) (.int .i64 5) rfl rfl rfl ⟨_, rfl, hE, _, by rw [hLR, if_pos (.inl h6)], by rw [hLR, if_pos (.inl h6)]; exact Sl.nil _ 68 3, Fresh.nil _⟩
end Go.Proofs.Ytfdmndkoiheebaa
