import Derived.Test.YtfdmndkoiheebaaZ10J8
import Derived.Test.YtfdmndkoiheebaaZ10J13
import Derived.Scope
namespace Go.Proofs.Ytfdmndkoiheebaa
open Go Go.RowKit
def ordG : List Int → List Nat → Nat → List Int → List Int
  | _, [], _, out => out
  | all, x :: ls, m, out => if 0 < all.length ∧ out.length < m then ordG (all.take (x % all.length) ++ all.drop (x % all.length + 1)) ls m (out ++ [all.getD (x % all.length) 0]) else out
def ordL (xss : List (List Int)) (ls : List Nat) (m : Nat) : List Int := ordG xss.flatten ls m []
theorem ordG_drop {all out : List Int} {ls : List Nat} {m i : Nat} (hi : i < ls.length) : ordG all (ls.drop i) m out = if 0 < all.length ∧ out.length < m then ordG (all.take (ls[i] % all.length) ++ all.drop (ls[i] % all.length + 1)) (ls.drop (i + 1)) m (out ++ [all.getD (ls[i] % all.length) 0]) else out := by
  rw [List.drop_eq_getElem_cons hi]; rfl
theorem ordG_perm : ∀ (ls : List Nat) (all out : List Int) (m : Nat), ∃ rest, (ordG all ls m out ++ rest).Perm (out ++ all) := by
  intro ls
  induction ls with
  | nil => intro all out m; exact ⟨all, List.Perm.refl _⟩
  | cons x ls ih =>
    intro all out m
    simp only [ordG]
    split
    · rename_i h
      obtain ⟨rest, hr⟩ := ih (all.take (x % all.length) ++ all.drop (x % all.length + 1)) (out ++ [all.getD (x % all.length) 0]) m
      refine ⟨rest, hr.trans ?_⟩
      have hk : x % all.length < all.length := Nat.mod_lt _ h.1
      have e : all.getD (x % all.length) 0 = all[x % all.length] := by simp [hk]
      have e2 : all = all.take (x % all.length) ++ all[x % all.length] :: all.drop (x % all.length + 1) := by
        rw [← List.drop_eq_getElem_cons hk, List.take_append_drop]
      rw [e, List.append_assoc]
      refine List.Perm.append_left out ?_
      refine List.Perm.trans ?_ (List.Perm.of_eq e2.symm)
      rw [List.singleton_append]
      exact List.perm_middle.symm
    · exact ⟨all, List.Perm.refl _⟩
theorem ordG_len : ∀ (ls : List Nat) (all out : List Int) (m : Nat), out.length ≤ m → (ordG all ls m out).length ≤ m := by
  intro ls
  induction ls with
  | nil => intro all out m h; exact h
  | cons x ls ih =>
    intro all out m h
    simp only [ordG]
    split
    · exact ih _ _ _ (by simp; omega)
    · exact h
theorem ordL_right {xss : List (List Int)} {h : Int} {ls : List Nat} {m : Nat} (hR : RightP xss h) : OrdP xss (ordL xss ls m) ∧ (ordL xss ls m).length ≤ m := by
  obtain ⟨rest, hr⟩ := ordG_perm ls xss.flatten [] m
  rw [List.nil_append] at hr
  have hn := hr.nodup_iff.2 hR.2.2.2.2.2.2
  exact ⟨⟨(List.nodup_append.1 hn).1, fun b hb => hr.mem_iff.1 (List.mem_append_left _ hb)⟩, ordG_len _ _ _ _ (Nat.zero_le _)⟩
set_option maxHeartbeats 1600000 in
theorem ordered (w : World) {v vl : Value} {h : Int} {us : List Value} {xss : List (List Int)} {ls : List Nat} {m : Nat} (hm : Mat w v us xss) (hl : U8s w vl ls) (hll : ls.length ≤ 9223372036854775807) (hls : ∀ x ∈ ls, x < 256) (hxl : xss.length ≤ 30) (hx : ∀ xs ∈ xss, xs.length ≤ 6) (hmm : m < 100000) :
    Calls Try.prog 39 #[.agg #[v, .int .i64 h], vl, .int .i64 (m : Nat)] w (Ret fun r w' => Ext w w' ∧ SInts w' r (ordL xss ls m) ∧ Fresh w r) := by
  have hfl : xss.flatten.length ≤ 180 := by have := flatten_le hx; omega
  refine calls_E (args := [.agg #[v, .int .i64 h], vl, .int .i64 (m : Nat)]) 67 Try.func39 rfl rfl (by simp) ?_
  have hE : Ext w w := Upd.refl w
  refine E.seq ?_
  refine E.regionP rfl ?_
  refine R.box rfl nofun ?_
  intro b3 w1 hb3 hx1 hB3
  replace hb3 := Nat.le_trans hE.size hb3
  replace hE := hE.ext hx1
  replace hB3 : Blk _ b3 24 #[v, .int .i64 h] := hB3
  refine R.assign ?_
  refine R.nil ?_
  refine E.seq ?_
  refine E.regionP rfl ?_
  refine R.assign ?_
  refine R.assign ?_
  refine R.nil ?_
  refine E.seq ?_
  refine E.seq ?_
  refine E.regionP rfl ?_
  refine R.fld fa24_0 rfl ?_
  refine R.loadB t22 hB3 rfl rfl rfl trivial ?_
  refine R.len Try.underlying22 hm.row rfl ?_
  refine R.move ?_
  refine R.nil ?_
  refine E.block ?_
  refine E.loop (fun n e wr => ∃ (i : Nat) (av : Value), n = xss.length - i ∧ i ≤ xss.length ∧ Ext w wr ∧ Blk wr b3 24 #[v, .int .i64 h] ∧ SInts wr av (xss.take i).flatten ∧ Fresh w av ∧ Has e [(1, vl), (2, .int .i64 (m : Nat)), (7, av), (8, .slice none 0 0), (14, v), (15, .int .i64 xss.length), (16, .int .i64 (i : Nat))]) (xss.length) ?_ ?_
  · exact ⟨0, _, rfl, Nat.zero_le _, hE, hB3, SInts.nil _, Fresh.nil _, rfl, rfl, rfl, rfl, rfl, rfl, rfl, trivial⟩
  · rintro n e wr ⟨i, av, rfl, hi, hE, hB3, hS, hf, hH⟩
    obtain ⟨e, rfl⟩ := hH.ex
    clear hH
    refine E.seq ?_
    refine E.regionP rfl ?_
    refine R.lss rfl rfl rfl ?_
    refine R.nil ?_
    refine E.seq ?_
    refine E.cond rfl (fun hc17 => ?_) (fun hc17 => ?_)
    · replace hc17 := dT hc17
      have hi1 : i < xss.length := by omega
      have hb1' := flatten_take_le (xss := xss) (i := i)
      have hb4' := hx xss[i] (List.getElem_mem _)
      refine E.skip ?_
      refine E.seq ?_
      refine E.block ?_
      refine E.seq ?_
      refine E.regionP rfl ?_
      refine R.ix Try.underlying22 t35 (by decide) hm.row rfl rfl (by omega) ?_
      obtain ⟨u19, hu19, hr19⟩ := hm.get i (by omega)
      refine R.ld t35 (hm.row.ext hE) rfl hu19 rfl (fun _ _ => trivial) ?_
      refine R.assign ?_
      refine R.nil ?_
      refine E.regionP rfl ?_
      refine R.move ?_
      refine R.move ?_
      refine R.append (m := xss[i].length) Try.underlying35 Try.underlying35 t3 (by decide) rfl hS (hr19.ext hE) ints_one rfl rfl (by omega) (by omega) nofun ?_
      intro v22 w22 hU22 hS22 hd22
      have hf22 := Fresh.app hE hf hd22
      replace hB3 := hB3.upS hU22 hS (by decide)
      replace hE := hE.app hU22 hf
      refine R.assign ?_
      refine R.nil ?_
      refine E.regionP rfl ?_
      refine R.addN (n := 1) rfl rfl (by omega) ?_
      refine R.move ?_
      refine R.nil ?_
      refine ⟨xss.length - (i + 1), by omega, i + 1, v22, rfl, by omega, hE, hB3, ?_, hf22, rfl, rfl, rfl, rfl, rfl, rfl, rfl, trivial⟩
      rw [flatten_take_succ (by omega)]
      exact SInts.app hS22 rfl
    · replace hc17 := dF hc17
      obtain rfl : i = xss.length := by omega
      rw [List.take_length] at hS
      refine E.exit ?_
      refine E.seq ?_
      refine E.seq ?_
      refine E.regionP rfl ?_
      refine R.assign ?_
      refine R.nil ?_
      refine E.block ?_
      refine E.loop (fun n e wr => ∃ (i : Nat) (av ov : Value) (al ou : List Int), n = ls.length - i ∧ i ≤ ls.length ∧ al.length ≤ 180 ∧ ou.length ≤ m ∧ ordG al (ls.drop i) m ou = ordG xss.flatten ls m [] ∧ Ext w wr ∧ SInts wr av al ∧ Fresh w av ∧ SInts wr ov ou ∧ Fresh w ov ∧ (∀ b, vblk av = some b → vblk ov ≠ some b) ∧ Has e [(1, vl), (2, .int .i64 (m : Nat)), (7, av), (8, ov), (11, .int .i64 (i : Nat))]) (ls.length) ?_ ?_
      · exact ⟨0, av, .slice none 0 0, xss.flatten, [], rfl, Nat.zero_le _, hfl, Nat.zero_le _, by simp, hE, hS, hf, SInts.nil _, Fresh.nil _, fun b _ e => by simp [vblk] at e, rfl, rfl, rfl, rfl, rfl, trivial⟩
      · rintro n e wr ⟨i, av, ov, al, ou, rfl, hi, hal, hol, hq, hE, hS, hf, hT, hfo, hsp, hH⟩
        obtain ⟨e, rfl⟩ := hH.ex
        clear hH
        refine E.seq ?_
        refine E.seq ?_
        rcases (show ¬ i < ls.length ∨ (i < ls.length ∧ ¬ 0 < al.length) ∨ (i < ls.length ∧ 0 < al.length ∧ ¬ ou.length < m) ∨ (i < ls.length ∧ 0 < al.length ∧ ou.length < m) by omega) with hq1 | ⟨hq1, hq2⟩ | ⟨hq1, hq2, hq3⟩ | ⟨hq1, hq2, hq3⟩
        · refine E.regionP rfl ?_
          refine R.move ?_
          refine R.move ?_
          refine R.len Try.underlying33 hl rfl ?_
          refine R.lss (b := false) rfl rfl (decide_eq_false (by omega)) ?_
          refine R.move ?_
          refine R.gF rfl rfl rfl ?_
          refine R.gF rfl rfl rfl ?_
          refine R.gF rfl rfl rfl ?_
          refine R.pickF rfl ?_
          refine R.move ?_
          refine R.gF rfl rfl rfl ?_
          refine R.gF rfl rfl rfl ?_
          refine R.gF rfl rfl rfl ?_
          refine R.gF rfl rfl rfl ?_
          refine R.pickF rfl ?_
          refine R.nil ?_
          refine E.condF rfl ?_
          refine E.exit ?_
          refine E.seq ?_
          refine E.regionP rfl ?_
          refine R.move ?_
          refine R.assign ?_
          refine R.nil ?_
          refine E.ret ?_
          obtain rfl : i = ls.length := by omega
          rw [List.drop_length] at hq
          exact ret1 ov rfl rfl ⟨_, rfl, hE, by have e : ou = ordL xss ls m := hq; rw [← e]; exact hT, hfo⟩
        · refine E.regionP rfl ?_
          refine R.move ?_
          refine R.move ?_
          refine R.len Try.underlying33 hl rfl ?_
          refine R.lss (b := true) rfl rfl (decide_eq_true (by omega)) ?_
          refine R.move ?_
          refine R.gT rfl rfl ?_
          refine R.move ?_
          refine R.gT rfl rfl ?_
          refine R.len Try.underlying35 hS.row rfl ?_
          refine R.gT rfl rfl ?_
          refine R.gtr (b := false) rfl rfl (decide_eq_false (by omega)) ?_
          refine R.pickT rfl ?_
          refine R.move ?_
          refine R.gF rfl rfl rfl ?_
          refine R.gF rfl rfl rfl ?_
          refine R.gF rfl rfl rfl ?_
          refine R.gF rfl rfl rfl ?_
          refine R.pickF rfl ?_
          refine R.nil ?_
          refine E.condF rfl ?_
          refine E.exit ?_
          refine E.seq ?_
          refine E.regionP rfl ?_
          refine R.move ?_
          refine R.assign ?_
          refine R.nil ?_
          refine E.ret ?_
          rw [ordG_drop hq1, if_neg (by omega)] at hq
          exact ret1 ov rfl rfl ⟨_, rfl, hE, by have e : ou = ordL xss ls m := hq; rw [← e]; exact hT, hfo⟩
        · refine E.regionP rfl ?_
          refine R.move ?_
          refine R.move ?_
          refine R.len Try.underlying33 hl rfl ?_
          refine R.lss (b := true) rfl rfl (decide_eq_true (by omega)) ?_
          refine R.move ?_
          refine R.gT rfl rfl ?_
          refine R.move ?_
          refine R.gT rfl rfl ?_
          refine R.len Try.underlying35 hS.row rfl ?_
          refine R.gT rfl rfl ?_
          refine R.gtr (b := true) rfl rfl (decide_eq_true (by omega)) ?_
          refine R.pickT rfl ?_
          refine R.move ?_
          refine R.gT rfl rfl ?_
          refine R.move ?_
          refine R.gT rfl rfl ?_
          refine R.len Try.underlying35 hT.row rfl ?_
          refine R.gT rfl rfl ?_
          refine R.move ?_
          refine R.gT rfl rfl ?_
          refine R.lss (b := false) rfl rfl (decide_eq_false (by omega)) ?_
          refine R.pickT rfl ?_
          refine R.nil ?_
          refine E.condF rfl ?_
          refine E.exit ?_
          refine E.seq ?_
          refine E.regionP rfl ?_
          refine R.move ?_
          refine R.assign ?_
          refine R.nil ?_
          refine E.ret ?_
          rw [ordG_drop hq1, if_neg (by omega)] at hq
          exact ret1 ov rfl rfl ⟨_, rfl, hE, by have e : ou = ordL xss ls m := hq; rw [← e]; exact hT, hfo⟩
        · rw [ordG_drop hq1, if_pos ⟨hq2, hq3⟩] at hq
          obtain ⟨k, hkd⟩ : ∃ k, ls[i] % al.length = k := ⟨_, rfl⟩
          have hk : k < al.length := by rw [← hkd]; exact Nat.mod_lt _ hq2
          rw [hkd, show al.getD k 0 = al[k] by simp [hk]] at hq
          refine E.regionP rfl ?_
          refine R.move ?_
          refine R.move ?_
          refine R.len Try.underlying33 hl rfl ?_
          refine R.lss (b := true) rfl rfl (decide_eq_true (by omega)) ?_
          refine R.move ?_
          refine R.gT rfl rfl ?_
          refine R.move ?_
          refine R.gT rfl rfl ?_
          refine R.len Try.underlying35 hS.row rfl ?_
          refine R.gT rfl rfl ?_
          refine R.gtr (b := true) rfl rfl (decide_eq_true (by omega)) ?_
          refine R.pickT rfl ?_
          refine R.move ?_
          refine R.gT rfl rfl ?_
          refine R.move ?_
          refine R.gT rfl rfl ?_
          refine R.len Try.underlying35 hT.row rfl ?_
          refine R.gT rfl rfl ?_
          refine R.move ?_
          refine R.gT rfl rfl ?_
          refine R.lss (b := true) rfl rfl (decide_eq_true (by omega)) ?_
          refine R.pickT rfl ?_
          refine R.nil ?_
          refine E.condT rfl ?_
          refine E.skip ?_
          refine E.seq ?_
          refine E.block ?_
          refine E.seq ?_
          refine E.regionP rfl ?_
          refine R.move ?_
          refine R.move ?_
          refine R.ix (m := i) Try.underlying33 t5 (by decide) hl rfl rfl hq1 ?_
          refine R.ld (j := i) t5 (hl.ext hE) rfl (u8_at hq1) rfl (fun _ _ => trivial) ?_
          have hli := hls ls[i] (List.getElem_mem _)
          refine R.conv64 Try.underlying5 Try.underlying3 rfl (by omega) (by omega) ?_
          refine R.move ?_
          refine R.len Try.underlying35 hS.row rfl ?_
          refine R.remN (m := ls[i]) (n := al.length) rfl rfl hq2 ?_
          rw [hkd]
          refine R.assign ?_
          refine R.nil ?_
          refine E.seq ?_
          refine E.regionP rfl ?_
          refine R.move ?_
          refine R.move ?_
          refine R.move ?_
          refine R.ix (m := k) Try.underlying35 t3 (by decide) hS.row rfl rfl hk ?_
          refine R.ld (j := k) t3 hS.row rfl (int_at hk) rfl (fun _ _ => trivial) ?_
          refine R.buildSlice [.int .i64 al[k]] Try.underlying35 t3 rfl rfl (by simp [Value.cells]) (by simp) nofun ?_
          intro b54 w2 hb54 hx2 hB54 hS54
          replace hb54 := Nat.le_trans hE.size hb54
          replace hS := hS.ext hx2
          replace hT := hT.ext hx2
          replace hE := hE.ext hx2
          refine R.append (m := 1) Try.underlying35 Try.underlying35 t3 (by decide) rfl hT hS54.row (by simp [cellsOf, Value.cells, Value.oneCell']) rfl rfl (by omega) (by omega) nofun ?_
          intro v55 w55 hU55 hS55 hd55
          have hfo55 := Fresh.app' hE.size hfo hd55
          have hsp55 : ∀ b, vblk av = some b → vblk v55 ≠ some b := fun b e e2 => by
            rcases hd55 with ⟨h1, _⟩ | ⟨b', h1, h2, _⟩
            · exact hsp b e (h1 ▸ e2)
            · rw [h1] at e2; simp at e2; have := hS.blk_lt e; omega
          replace hS := hS.up hU55 (fun b e e2 => hsp b e e2)
          replace hE := hE.app hU55 hfo
          have hT55 : SInts w55 v55 (ou ++ [al[k]]) := SInts.app (ys := [al[k]]) (m := 1) (by simpa [cellsOf, Value.cells, ints] using hS55) rfl
          clear hS55 hT hS54
          refine R.assign ?_
          refine R.nil ?_
          refine E.regionW (fun c x => x < w55.heap.size ∧ (c = false → False)) []  mixed rfl (by kernel_rfl) ?_
          intro w3 hx3 hh3
          replace hS := hS.ext hx3
          replace hT55 := hT55.ext hx3
          replace hE := hE.ext hx3
          have hEs : Ext w3 w3 := Upd.refl _
          have hS0 := hx3.size
          have hSB : ∀ b, b < w3.heap.size → b < w55.heap.size ∧ (true = false → (fun x => False) b) := fun b hb => ⟨by rw [hh3] at hb; exact hb, nofun⟩
          have hSA : ∀ b, b < w3.heap.size → (fun x => False) b → b < w55.heap.size ∧ (false = false → (fun x => False) b) := fun b hb h => ⟨by rw [hh3] at hb; exact hb, fun _ => h⟩
          have hSs := hS
          have hT55s := hT55
          refine R.buildSlice [] Try.underlying35 t3 rfl rfl (by simp) (by simp) (fun _ _ _ hb => Nat.lt_of_lt_of_le hb.1 (Nat.le_trans hS0 hEs.size)) ?_
          intro b56 w56 hb56 hx56 _ hS56
          have hn56 : vblk av ≠ some b56 := fun e => by have := hS.blk_lt e; omega
          have hm56 : vblk v55 ≠ some b56 := fun e => by have := hT55.blk_lt e; omega
          have hf56 : Fresh w (.slice (some ⟨b56, 0, none⟩) ([] : List Value).length ([] : List Value).length) := fun b e => by have e3 : some b56 = some b := e; simp at e3; have := hE.size; omega
          replace hS := hS.ext hx56
          replace hT55 := hT55.ext hx56
          replace hE := hE.ext hx56
          replace hEs := hEs.ext hx56
          refine R.move ?_
          refine R.move ?_
          obtain ⟨a57, c57, hv57, hc57, _⟩ := id hS
          refine R.slc (l := 0) (r := k) Try.underlying35 t3 rfl hv57 rfl ⟨_, rfl⟩ (Nat.zero_le _) (by omega) ?_
          have hTk : SInts w56 (cut 1 av 0 k) (al.take k) := SInts.take hS (show k ≤ al.length by omega)
          refine R.append (m := (al.take k).length) Try.underlying35 Try.underlying35 t3 (by decide) rfl hS56 hTk.row ints_one rfl rfl (by simp; omega) (by simp; omega) (fun _ b hb => (hb.2 rfl).elim) ?_
          intro v60 w60 hU60 hS60 hd60
          have hA60 : SInts w60 v60 (al.take k) := by simpa [SInts, cellsOf] using hS60
          have hfr60 := Fresh.app' hE.size hf56 hd60
          have hn60 : ∀ b, vblk v60 = some b → vblk av ≠ some b ∧ vblk v55 ≠ some b := fun b e => by
            rcases hd60 with ⟨h1, _⟩ | ⟨b', h1, h2, _⟩
            · have e3 : some b56 = some b := (h1.symm.trans e)
              rw [← e3]; exact ⟨hn56, hm56⟩
            · rw [h1] at e; simp at e
              exact ⟨fun e2 => by have := hS.blk_lt e2; omega, fun e2 => by have := hT55.blk_lt e2; omega⟩
          replace hS := hS.up hU60 (fun b e e2 => hn56 (by have e3 : some b56 = some b := e2; rw [e3]; exact e))
          replace hT55 := hT55.up hU60 (fun b e e2 => hm56 (by have e3 : some b56 = some b := e2; rw [e3]; exact e))
          replace hE := hE.app hU60 hf56
          clear hS60 hS56 hTk hEs
          refine R.move ?_
          refine R.move ?_
          refine R.addN (m := k) (n := 1) rfl rfl (by omega) ?_
          refine R.slc (l := k + 1) (r := al.length) Try.underlying35 t3 rfl hv57 ⟨_, rfl⟩ rfl (by omega) (by omega) ?_
          have hDk : Ints w60 (cut 1 av (k + 1) al.length) (al.drop (k + 1)) := Ints.drop hS.row (by omega)
          refine R.append (m := (al.drop (k + 1)).length) Try.underlying35 Try.underlying35 t3 (by decide) rfl hA60 hDk ints_one rfl rfl (by simp; omega) (by simp; omega) (fun _ b hb => (hb.2 rfl).elim) ?_
          intro v65 w65 hU65 hS65 hd65
          have hfr65 := Fresh.app' hE.size hfr60 hd65
          have hA65 : SInts w65 v65 (al.take k ++ al.drop (k + 1)) := SInts.app hS65 rfl
          have hsp65 : ∀ b, vblk v65 = some b → vblk v55 ≠ some b := fun b e => by
            rcases hd65 with ⟨h1, _⟩ | ⟨b', h1, h2, _⟩
            · exact (hn60 b (h1 ▸ e)).2
            · rw [h1] at e; simp at e
              exact fun e2 => by have := hT55.blk_lt e2; omega
          replace hT55 := hT55.up hU65 (fun b e e2 => (hn60 b e2).2 e)
          replace hE := hE.app hU65 hfr60
          refine R.assign ?_
          refine R.nil ?_
          refine E.regionP rfl ?_
          refine R.move ?_
          refine R.addN (n := 1) rfl rfl (by omega) ?_
          refine R.assign ?_
          refine R.nil ?_
          exact ⟨ls.length - (i + 1), by omega, i + 1, v65, v55, _, _, rfl, by omega, by simp; omega, by simp; omega, hq, hE, hA65, hfr65, hT55, hfo55, hsp65, rfl, rfl, rfl, rfl, rfl, trivial⟩
end Go.Proofs.Ytfdmndkoiheebaa

namespace Go.Proofs.Ytfdmndkoiheebaa
open Go Go.RowKit
def noG (Q : Exit → Env → World → Prop) : Exit → Env → World → Prop
  | .goto _, _, _ => False
  | x, e, w => Q x e w
theorem E.scope {mm : Bool} {P : Program} {N : Nat} {Q : Exit → Env → World → Prop} {e : Env} {w : World} {c : Code} (h : wpE ⟨none, mm⟩ P N c (noG Q) e w) : wpE ⟨none, mm⟩ P N (.scope c) Q e w := fun a ha => by
  refine wpIn_wide.2 (wp_scope_straight (wpIn_wide.1 (wpIn_mono (h a ha) fun x a' w' ⟨e', r, q⟩ => ?_)))
  cases x
  case goto l => exact q.elim
  all_goals exact ⟨e', r, q⟩
theorem least0 (w : World) {v vo : Value} {h : Int} {us : List Value} {xss : List (List Int)} {ord : List Int} (hm : Mat w v us xss) (ho : Ints w vo ord) (hl : xss.length < 1000000) (hx : ∀ xs ∈ xss, xs.length < 1000000) (hol : ord.length < 100000) (hb : beginB xss h ord = false) :
    Calls Try.prog 40 #[.agg #[v, .int .i64 h], vo] w (Ret fun r w' => Ext w w' ∧ r = .tuple #[.slice none 0 0, .int .i64 2]) := by
  refine calls_E (args := [.agg #[v, .int .i64 h], vo]) 66 Try.func40 rfl rfl (by simp) ?_
  have hE : Ext w w := Upd.refl w
  refine E.seq ?_
  refine E.regionP rfl ?_
  refine R.box rfl nofun ?_
  intro b2 w1 hb2 hx1 hB2
  replace hb2 := Nat.le_trans hE.size hb2
  replace hE := hE.ext hx1
  replace hB2 : Blk _ b2 24 #[v, .int .i64 h] := hB2
  refine R.box rfl nofun ?_
  intro b3 w3 hb3 hx3 hB3
  replace hb3 := Nat.le_trans hE.size hb3
  replace hB2 := hB2.ext hx3
  replace hE := hE.ext hx3
  replace hB3 : Blk w3 b3 35 #[vo] := by have e : vo.cells = #[vo] := cells_one ho.one; rw [← e]; exact hB3
  refine R.assign ?_
  refine R.assign ?_
  refine R.nil ?_
  refine E.scope ?_
  refine E.seq ?_
  refine E.regionP rfl ?_
  refine R.loadA t24 hB2 rfl rfl rfl trivial ?_
  refine R.loadB t35 hB3 rfl rfl rfl trivial ?_
  refine R.callE2 ent73 (begin0 _ (hm.ext hE) (ho.ext hE) hl hx (by omega) hb) rfl rfl nofun ?_
  rintro v16 w2 hx2 rfl
  replace hB2 := hB2.ext hx2
  replace hB3 := hB3.ext hx2
  replace hE := hE.ext hx2
  refine R.move ?_
  refine R.extract rfl rfl ?_
  refine R.extract rfl rfl ?_
  refine R.alloc t104 nofun ?_
  intro b6 w3 hb6 hx3 hB6
  replace hb6 := Nat.le_trans hE.size hb6
  replace hB2 := hB2.ext hx3
  replace hB3 := hB3.ext hx3
  replace hE := hE.ext hx3
  replace hB6 : Blk _ b6 104 #[.pointer none] := hB6
  refine R.store t104 hB6 rfl rfl (rfl) (by simp) nofun ?_
  intro w4 hU4 hs4 hN4
  replace hB2 := hB2.upT hU4 hB6 (by decide)
  replace hB3 := hB3.upT hU4 hB6 (by decide)
  replace hE := hE.own hU4 hb6
  replace hB6 : Blk _ b6 104 #[.pointer none] := hN4
  clear hN4
  refine R.assign ?_
  refine R.nil ?_
  refine E.seq ?_
  refine E.seq ?_
  refine E.regionP rfl ?_
  refine R.move ?_
  refine R.not rfl ?_
  refine R.nil ?_
  refine E.condT rfl ?_
  refine E.seq ?_
  refine E.regionP rfl ?_
  refine R.assign ?_
  refine R.assign ?_
  refine R.nil ?_
  refine E.ret ?_
  exact ret2 (.slice none 0 0) (.int .i64 2) rfl rfl rfl ⟨_, rfl, hE, rfl⟩
end Go.Proofs.Ytfdmndkoiheebaa
