import Derived.Test.YtfdmndkoiheebaaZ16J18
import Derived.Test.YtfdmndkoiheebaaZ16Ret3
namespace Go.Proofs.Ytfdmndkoiheebaa
open Go Go.RowKit
theorem t109 : Ty Try.prog 109 1 8 false .nilFunc := ⟨by kernel_rfl, _, Try.underlying109, rfl⟩
theorem run_loadB {P : Program} {w : World} {t : TypeId} {by_ b : Nat} {z u : Value} {tb : TypeId} {cs : Array Value} (hk : Ty P t 1 by_ false z) (hb : Blk w b tb cs) (hu : cs[0]? = some u) : (loadVar t ⟨b, 0, none⟩).run P w = .ok u w := by
  have hc : w.cell? ⟨b, 0, none⟩ = some u := by rw [hb.cell]; exact hu
  exact R.run_loadVar1 hk hc
theorem retMC {P : Program} {fn : Func} {R : Ending → World → Prop} {e : Env} {w w0 : World} {t : Tmp} {T : TypeId} {by_ b : Nat} {z u : Value} {tb : TypeId} {ms : List Nat} (hk : Ty P T 1 by_ false z) (hb : Blk w b tb #[u]) (hr : fn.results = #[.cell t T]) (hv : e t = .pointer (some ⟨b, 0, none⟩)) (hms : e.ms = ms) (hM : Marks w0 w ms) (h : ∀ w', Upd (fun x => x ∈ ms) w w' → R (.returned u) w') : bodyM P fn R .ret e w := by
  obtain ⟨w', q1, q2⟩ := Takes.run (P := P) ms w hM.1 (fun D hD => (hM.2 D hD).1)
  have hb' : Blk w' b tb #[u] := hb.up q2 (fun hx => (hM.2 b hx).1.neB hb (by simp) rfl)
  exact ⟨w', _, by rw [hms]; exact q1, fun tmps ht => by
    simp only [Array.getD_eq_getD_getElem?] at ht
    simp [results, hr, ht, hv, asAddr, run_loadB hk hb' (u := u) rfl], h w' q2⟩
theorem DoRes2.some_ {w w0 w' : World} {r : Value} {bj : Nat} {vs : Value} {us : List Value} {vo : Value} {rm : Nat} {vt : Value} {xss : List (List Int)} {H : Nat} {ord : List Int} {ss : List (Int × Int × Int)} {nx : Nat} {s : Int × Int × Int} {ys : List (List Int)} {n' : Nat} (h : DoRes2 w w0 w' r bj vs us vo rm vt xss H ord ss nx s) (hd : doL xss H ord nx s = some (ys, n')) : r = .bool true ∧ ∃ us' vt', Job w0 w' bj vs us' vo rm vt' ys H ord (ss ++ [s]) n' ∧ Sub w.heap.size us vt us' vt' := by unfold DoRes2 at h; rw [hd] at h; exact h
def TryRes (w w0 w' : World) (r : Value) (bj : Nat) (vs : Value) (us : List Value) (vo : Value) (rm : Nat) (vt : Value) (ys : List (List Int)) (H : Nat) (ord : List Int) (ss : List (Int × Int × Int)) (nx : Nat) (o : Option (List (Int × Int × Int))) : Prop :=
  match o with
  | none => r = .bool false ∧ ∃ us' vt', Job w0 w' bj vs us' vo rm vt' ys H ord ss nx ∧ Sub w.heap.size us vt us' vt'
  | some tt => r = .bool true ∧ ∃ ys' nx' us' vt', Job w0 w' bj vs us' vo rm vt' ys' H ord (ss ++ tt) nx' ∧ Sub w.heap.size us vt us' vt'
set_option maxHeartbeats 12800000 in
theorem try_ (w0 : World) {b900 b1 b2 b3 H rm : Nat} {vs vo : Value} {ord : List Int} (hol : ord.length < 1000) : ∀ (n : Nat) (w : World) (us : List Value) (vt : Value) (ys : List (List Int)) (ss : List (Int × Int × Int)) (nx left : Nat), n = ord.length - nx + left → ss.length + n < 10000 → GoodJ ys H ord nx → nx ≤ ord.length → left < 1000 → Job w0 w b900 vs us vo rm vt ys H ord ss nx →
    Blk w b1 104 #[.pointer (some ⟨b900, 0, none⟩)] → Blk w b2 35 #[vo] → Blk w b3 109 #[.func (.func 74) #[] #[.pointer (some ⟨b1, 0, none⟩), .pointer (some ⟨b2, 0, none⟩), .pointer (some ⟨b3, 0, none⟩)]] → ¬ JB b900 vs us vt b1 → ¬ JB b900 vs us vt b2 → ¬ JB b900 vs us vt b3 →
    Calls Try.prog 74 #[.int .i64 (left : Nat), .pointer (some ⟨b1, 0, none⟩), .pointer (some ⟨b2, 0, none⟩), .pointer (some ⟨b3, 0, none⟩)] w (Ret fun r w' => Upd (JB b900 vs us vt) w w' ∧ TryRes w w0 w' r b900 vs us vo rm vt ys H ord ss nx (tryL H ord ys nx left)) := by
  intro n
  induction n using Nat.strongRecOn
  rename_i n ih
  intro w us vt ys ss nx left hnn hsl hG hnx hlf hJob hB1 hB2 hB3 hn1 hn2 hn3
  have hJ0 := hJob
  have hw0 : w0.heap.size ≤ w.heap.size := hJ0.ext.size
  have hnew : ∀ x, w.heap.size ≤ x → ¬ JB b900 vs us vt x := fun x hx h => by have := hJ0.lt h; omega
  have hSb : Sub w.heap.size us vt us vt := Sub.refl
  refine calls_M (args := [.int .i64 (left : Nat), .pointer (some ⟨b1, 0, none⟩), .pointer (some ⟨b2, 0, none⟩), .pointer (some ⟨b3, 0, none⟩)]) 59 Try.func74 rfl rfl (by simp) ?_
  have hE : Upd (JB b900 vs us vt) w w := Upd.refl w
  refine E.seq ?_
  refine E.regionP rfl ?_
  refine R.box rfl nofun ?_
  intro b4 w1 hb4 hx1 hB4
  replace hb4 := Nat.le_trans hE.size hb4
  replace hJob := hJob.ex hx1
  replace hB1 := hB1.ext hx1
  replace hB2 := hB2.ext hx1
  replace hB3 := hB3.ext hx1
  replace hE := hE.ext hx1
  replace hB4 : Blk _ b4 3 #[_] := hB4
  refine R.alloc t4 nofun ?_
  intro b5 w2 hb5 hx2 hB5
  replace hb5 := Nat.le_trans hE.size hb5
  replace hJob := hJob.ex hx2
  replace hB1 := hB1.ext hx2
  replace hB2 := hB2.ext hx2
  replace hB3 := hB3.ext hx2
  replace hB4 := hB4.ext hx2
  replace hE := hE.ext hx2
  replace hB5 : Blk _ b5 4 #[.bool false] := hB5
  refine R.nil ?_
  refine E.seq ?_
  refine E.seq ?_
  refine E.regionW allS [] mixed rfl (by kernel_rfl) ?_
  intro w3 hx3 hh3
  replace hJob := hJob.ex hx3
  replace hB1 := hB1.ext hx3
  replace hB2 := hB2.ext hx3
  replace hB3 := hB3.ext hx3
  replace hB4 := hB4.ext hx3
  replace hB5 := hB5.ext hx3
  replace hE := hE.ext hx3
  refine R.loadB t104 hB1 rfl rfl rfl trivial ?_
  refine R.nilCheck rfl ?_
  refine R.fld fa108_5 rfl ?_
  refine R.loadB t3 hJob.blk rfl rfl rfl trivial ?_
  refine R.loadB t35 hB2 rfl rfl rfl trivial ?_
  refine R.len Try.underlying35 hJob.ordI rfl ?_
  refine R.eql rfl rfl rfl ?_
  refine R.nil ?_
  refine E.cond rfl (fun hc15 => ?_) (fun hc15 => ?_)
  · replace hc15 := dT hc15
    have hn : ¬ nx < ord.length := by omega
    have hn5 := hnew _ hb5
    refine E.seq ?_
    refine E.regionP rfl ?_
    refine R.store t4 hB5 rfl rfl rfl (by simp) nofun ?_
    intro w90 hU90 hs90 hN90
    replace hJob := hJob.upN hU90 hn5 (hJob.ranks.ne hB5) (Nat.le_trans hJ0.ext.size hb5)
    replace hE := hE.own hU90 hb5
    replace hB5 : Blk _ b5 4 #[.bool true] := hN90
    refine R.nil ?_
    refine E.ret ?_
    refine retMC (ms := []) (w0 := w) t4 hB5 rfl rfl rfl Marks.nil (fun w9 hU9 => ⟨_, rfl, hE.trans hU9 (fun x hx hX => by simp at hX), ?_⟩)
    rw [tryL_end hn]
    have hX9 : Ext _ w9 := hU9.mono (fun x _ hX => by simp at hX)
    exact ⟨rfl, ⟨_, _, _, _, by rw [List.append_nil]; exact hJob.ex hX9, hSb⟩⟩
  · replace hc15 := dF hc15
    have hn : nx < ord.length := by omega
    obtain ⟨a, k, ov, hO, _⟩ := OverJ.start hG hn
    have hn4 := hnew _ hb4
    have hn5 := hnew _ hb5
    refine E.skip ?_
    refine E.seq ?_
    refine E.regionP rfl ?_
    refine R.loadB t104 hB1 rfl rfl rfl trivial ?_
    refine R.callE1 ent75 (where_ _ hJob.blk hJob.ms.mat (hJob.ordI.ext hJob.ext) hG.right.l6 hG.right.x6 hn) rfl nofun ?_
    rintro v18 w4 hx4 rfl
    rw [whereL_some hO.find]
    replace hJob := hJob.ex hx4
    replace hB1 := hB1.ext hx4
    replace hB2 := hB2.ext hx4
    replace hB3 := hB3.ext hx4
    replace hB4 := hB4.ext hx4
    replace hB5 := hB5.ext hx4
    replace hE := hE.ext hx4
    refine R.move ?_
    refine R.extract rfl rfl ?_
    refine R.extract rfl rfl ?_
    refine R.alloc t3 nofun ?_
    intro b6 w5 hb6 hx5 hB6
    have ne4_6 : b4 ≠ b6 := by have := hB4.lt; omega
    replace hb6 := Nat.le_trans hE.size hb6
    replace hJob := hJob.ex hx5
    replace hB1 := hB1.ext hx5
    replace hB2 := hB2.ext hx5
    replace hB3 := hB3.ext hx5
    replace hB4 := hB4.ext hx5
    replace hB5 := hB5.ext hx5
    replace hE := hE.ext hx5
    replace hB6 : Blk _ b6 3 #[.int .i64 0] := hB6
    have hn6 := hnew _ hb6
    refine R.store t3 hB6 rfl rfl rfl (by simp) nofun ?_
    intro w91 hU91 hs91 hN91
    replace hJob := hJob.upN hU91 hn6 (hJob.ranks.ne hB6) (Nat.le_trans hJ0.ext.size hb6)
    replace hB1 := hB1.upT hU91 hB6 (by decide)
    replace hB2 := hB2.upT hU91 hB6 (by decide)
    replace hB3 := hB3.upT hU91 hB6 (by decide)
    replace hB5 := hB5.upT hU91 hB6 (by decide)
    replace hB4 := hB4.up hU91 (fun h => ne4_6 h)
    replace hE := hE.own hU91 hb6
    replace hB6 : Blk _ b6 3 #[.int .i64 ((a : Nat) : Int)] := hN91
    refine R.assign ?_
    refine R.nil ?_
    refine E.seq ?_
    refine E.seq ?_
    refine E.regionP rfl ?_
    refine R.move ?_
    refine R.nil ?_
    refine E.cond rfl (fun hc21 => ?_) (fun hc21 => ?_)
    · replace hc21 := dT hc21
      obtain rfl : ov = [] := by
        cases ov with
        | nil => rfl
        | cons b ov => exact absurd hc21 hO.ne
      obtain ⟨_, hdo, hG1, _⟩ := hO.leave
      have hnx1 : nx + 1 ≤ ord.length := hn
      refine E.seq ?_
      refine E.regionW (fun c x => x < w91.heap.size ∧ (c = false → False)) [22, 23, 24, 27, 29, 30]  mixed rfl (by kernel_rfl) ?_
      intro w6 hx6 hh6
      replace hJob := hJob.ex hx6
      replace hB1 := hB1.ext hx6
      replace hB2 := hB2.ext hx6
      replace hB3 := hB3.ext hx6
      replace hB4 := hB4.ext hx6
      replace hB5 := hB5.ext hx6
      replace hB6 := hB6.ext hx6
      replace hE := hE.ext hx6
      have hEs : Ext w6 w6 := Upd.refl _
      have hS0 := hx6.size
      have hSB : ∀ b, b < w6.heap.size → b < w91.heap.size ∧ (true = false → (fun x => False) b) := fun b hb => ⟨by rw [hh6] at hb; exact hb, nofun⟩
      have hSA : ∀ b, b < w6.heap.size → (fun x => False) b → b < w91.heap.size ∧ (false = false → (fun x => False) b) := fun b hb h => ⟨by rw [hh6] at hb; exact hb, fun _ => h⟩
      have hJobs := hJob
      have hB1s := hB1
      have hB2s := hB2
      have hB3s := hB3
      have hJob.blks := hJob.blk
      have hB4s := hB4
      have hB5s := hB5
      have hB6s := hB6
      refine R.loadB t104 hB1 rfl rfl rfl (hSB b1 hB1s.lt) ?_
      refine R.loadB t35 hB2 rfl rfl rfl (hSB b2 hB2s.lt) ?_
      refine R.loadB t104 hB1 rfl rfl rfl (hSB b1 hB1s.lt) ?_
      refine R.nilCheck rfl ?_
      refine R.fld fa108_5 rfl ?_
      refine R.loadB t3 hJob.blk rfl rfl rfl (hSB b900 hJob.blks.lt) ?_
      refine R.ix (m := nx) Try.underlying35 t3 (by decide) hJob.ordI rfl rfl hn ?_
      refine R.ldE (j := nx) t3 hJob.ordI hJob.ext rfl (int_at hn) rfl (fun x hx => hSB x (Nat.lt_of_lt_of_le hx hJob.ext.size)) ?_
      refine R.loadB t3 hB6 rfl rfl rfl (hSB b6 hB6s.lt) ?_
      refine R.build build68 rfl ?_
      refine R.call2 ent76 (do2_ w0 _ hJob hG.right.2.2.2.1 (sum_lengths hG.right) hnx (by omega) (by omega)) rfl rfl ?_
      rintro v32 w32 ⟨hU32, hD32⟩
      refine ⟨fun _ b hb => (hb.2 rfl).elim, ?_⟩
      obtain ⟨rfl, us2, vt2, hJob, hS32⟩ := hD32.some_ hdo
      have hl1 := hB1.lt
      replace hB1 := hB1.up hU32 hn1
      replace hn1 : ¬ JB b900 vs us2 vt2 b1 := fun h => (hS32.jb h).elim hn1 (fun e => Nat.not_lt.2 e hl1)
      clear hl1
      have hl2 := hB2.lt
      replace hB2 := hB2.up hU32 hn2
      replace hn2 : ¬ JB b900 vs us2 vt2 b2 := fun h => (hS32.jb h).elim hn2 (fun e => Nat.not_lt.2 e hl2)
      clear hl2
      have hl3 := hB3.lt
      replace hB3 := hB3.up hU32 hn3
      replace hn3 : ¬ JB b900 vs us2 vt2 b3 := fun h => (hS32.jb h).elim hn3 (fun e => Nat.not_lt.2 e hl3)
      clear hl3
      have hl4 := hB4.lt
      replace hB4 := hB4.up hU32 hn4
      replace hn4 : ¬ JB b900 vs us2 vt2 b4 := fun h => (hS32.jb h).elim hn4 (fun e => Nat.not_lt.2 e hl4)
      clear hl4
      have hl5 := hB5.lt
      replace hB5 := hB5.up hU32 hn5
      replace hn5 : ¬ JB b900 vs us2 vt2 b5 := fun h => (hS32.jb h).elim hn5 (fun e => Nat.not_lt.2 e hl5)
      clear hl5
      have hl6 := hB6.lt
      replace hB6 := hB6.up hU32 hn6
      replace hn6 : ¬ JB b900 vs us2 vt2 b6 := fun h => (hS32.jb h).elim hn6 (fun e => Nat.not_lt.2 e hl6)
      clear hl6
      have hz := hE.size
      replace hE := hE.trans hU32 (fun x hx h => (hSb.jb h).elim id (fun e => absurd hx (Nat.not_lt.2 e)))
      replace hSb := hSb.trans hS32 hz
      clear hz
      refine R.nil ?_
      refine E.seq ?_
      refine E.seq ?_
      rcases hT : tryL H ord (ys.set a ((ys[a]'hO.la).take k)) (nx + 1) left with _ | tt
      · refine E.regionP rfl ?_
        refine R.loadB t109 hB3 rfl rfl rfl trivial ?_
        refine R.loadB t3 hB4 rfl rfl rfl trivial ?_
        refine R.callV1 ent74 (cap := #[.pointer (some ⟨b1, 0, none⟩), .pointer (some ⟨b2, 0, none⟩), .pointer (some ⟨b3, 0, none⟩)]) rfl rfl (ih (ord.length - (nx + 1) + (left)) (by omega) _ us2 vt2 _ (ss ++ [(ord[nx], ((a : Nat) : Int), -1)]) (nx + 1) (left) rfl (by simp; omega) hG1 hnx1 (by omega) hJob hB1 hB2 hB3 hn1 hn2 hn3) ?_
        rintro v35 w35 ⟨hU35, hT35⟩
        refine ⟨nofun, ?_⟩
        rw [hT] at hT35
        obtain ⟨rfl, us3, vt3, hJob, hS35⟩ := hT35
        have hl1 := hB1.lt
        replace hB1 := hB1.up hU35 hn1
        replace hn1 : ¬ JB b900 vs us3 vt3 b1 := fun h => (hS35.jb h).elim hn1 (fun e => Nat.not_lt.2 e hl1)
        clear hl1
        have hl2 := hB2.lt
        replace hB2 := hB2.up hU35 hn2
        replace hn2 : ¬ JB b900 vs us3 vt3 b2 := fun h => (hS35.jb h).elim hn2 (fun e => Nat.not_lt.2 e hl2)
        clear hl2
        have hl3 := hB3.lt
        replace hB3 := hB3.up hU35 hn3
        replace hn3 : ¬ JB b900 vs us3 vt3 b3 := fun h => (hS35.jb h).elim hn3 (fun e => Nat.not_lt.2 e hl3)
        clear hl3
        have hl4 := hB4.lt
        replace hB4 := hB4.up hU35 hn4
        replace hn4 : ¬ JB b900 vs us3 vt3 b4 := fun h => (hS35.jb h).elim hn4 (fun e => Nat.not_lt.2 e hl4)
        clear hl4
        have hl5 := hB5.lt
        replace hB5 := hB5.up hU35 hn5
        replace hn5 : ¬ JB b900 vs us3 vt3 b5 := fun h => (hS35.jb h).elim hn5 (fun e => Nat.not_lt.2 e hl5)
        clear hl5
        have hl6 := hB6.lt
        replace hB6 := hB6.up hU35 hn6
        replace hn6 : ¬ JB b900 vs us3 vt3 b6 := fun h => (hS35.jb h).elim hn6 (fun e => Nat.not_lt.2 e hl6)
        clear hl6
        have hz := hE.size
        replace hE := hE.trans hU35 (fun x hx h => (hSb.jb h).elim id (fun e => absurd hx (Nat.not_lt.2 e)))
        replace hSb := hSb.trans hS35 hz
        clear hz
        refine R.nil ?_
        refine E.condF rfl ?_
        refine E.skip ?_
        refine E.seq ?_
        refine E.regionP rfl ?_
        refine R.loadB t104 hB1 rfl rfl rfl trivial ?_
        refine R.call1 ent77 (undo_ w0 _ hJob hdo (sum_lengths hG1.right) (by omega) (by omega)) rfl ?_
        rintro v37 w37 ⟨hU37, us4, vt4, hJob, hS37⟩
        refine ⟨nofun, ?_⟩
        have hl1 := hB1.lt
        replace hB1 := hB1.up hU37 hn1
        replace hn1 : ¬ JB b900 vs us4 vt4 b1 := fun h => (hS37.jb h).elim hn1 (fun e => Nat.not_lt.2 e hl1)
        clear hl1
        have hl2 := hB2.lt
        replace hB2 := hB2.up hU37 hn2
        replace hn2 : ¬ JB b900 vs us4 vt4 b2 := fun h => (hS37.jb h).elim hn2 (fun e => Nat.not_lt.2 e hl2)
        clear hl2
        have hl3 := hB3.lt
        replace hB3 := hB3.up hU37 hn3
        replace hn3 : ¬ JB b900 vs us4 vt4 b3 := fun h => (hS37.jb h).elim hn3 (fun e => Nat.not_lt.2 e hl3)
        clear hl3
        have hl4 := hB4.lt
        replace hB4 := hB4.up hU37 hn4
        replace hn4 : ¬ JB b900 vs us4 vt4 b4 := fun h => (hS37.jb h).elim hn4 (fun e => Nat.not_lt.2 e hl4)
        clear hl4
        have hl5 := hB5.lt
        replace hB5 := hB5.up hU37 hn5
        replace hn5 : ¬ JB b900 vs us4 vt4 b5 := fun h => (hS37.jb h).elim hn5 (fun e => Nat.not_lt.2 e hl5)
        clear hl5
        have hl6 := hB6.lt
        replace hB6 := hB6.up hU37 hn6
        replace hn6 : ¬ JB b900 vs us4 vt4 b6 := fun h => (hS37.jb h).elim hn6 (fun e => Nat.not_lt.2 e hl6)
        clear hl6
        have hz := hE.size
        replace hE := hE.trans hU37 (fun x hx h => (hSb.jb h).elim id (fun e => absurd hx (Nat.not_lt.2 e)))
        replace hSb := hSb.trans hS37 hz
        clear hz
        refine R.nil ?_
        refine E.seq ?_
        refine E.regionP rfl ?_
        refine R.store t4 hB5 rfl rfl rfl (by simp) nofun ?_
        intro w92 hU92 hs92 hN92
        replace hJob := hJob.upN hU92 hn5 (hJob.ranks.ne hB5) (Nat.le_trans hJ0.ext.size hb5)
        replace hE := hE.own hU92 hb5
        replace hB5 : Blk _ b5 4 #[.bool false] := hN92
        refine R.nil ?_
        refine E.ret ?_
        refine retMC (ms := []) (w0 := w) t4 hB5 rfl rfl rfl Marks.nil (fun w9 hU9 => ⟨_, rfl, hE.trans hU9 (fun x hx hX => by simp at hX), ?_⟩)
        rw [tryL_leave hO, hT]
        have hX9 : Ext _ w9 := hU9.mono (fun x _ hX => by simp at hX)
        exact ⟨rfl, ⟨_, _, hJob.ex hX9, hSb⟩⟩
      · refine E.regionP rfl ?_
        refine R.loadB t109 hB3 rfl rfl rfl trivial ?_
        refine R.loadB t3 hB4 rfl rfl rfl trivial ?_
        refine R.callV1 ent74 (cap := #[.pointer (some ⟨b1, 0, none⟩), .pointer (some ⟨b2, 0, none⟩), .pointer (some ⟨b3, 0, none⟩)]) rfl rfl (ih (ord.length - (nx + 1) + (left)) (by omega) _ us2 vt2 _ (ss ++ [(ord[nx], ((a : Nat) : Int), -1)]) (nx + 1) (left) rfl (by simp; omega) hG1 hnx1 (by omega) hJob hB1 hB2 hB3 hn1 hn2 hn3) ?_
        rintro v35 w35 ⟨hU35, hT35⟩
        refine ⟨nofun, ?_⟩
        rw [hT] at hT35
        obtain ⟨rfl, ys3, nx3, us3, vt3, hJob, hS35⟩ := hT35
        have hl1 := hB1.lt
        replace hB1 := hB1.up hU35 hn1
        replace hn1 : ¬ JB b900 vs us3 vt3 b1 := fun h => (hS35.jb h).elim hn1 (fun e => Nat.not_lt.2 e hl1)
        clear hl1
        have hl2 := hB2.lt
        replace hB2 := hB2.up hU35 hn2
        replace hn2 : ¬ JB b900 vs us3 vt3 b2 := fun h => (hS35.jb h).elim hn2 (fun e => Nat.not_lt.2 e hl2)
        clear hl2
        have hl3 := hB3.lt
        replace hB3 := hB3.up hU35 hn3
        replace hn3 : ¬ JB b900 vs us3 vt3 b3 := fun h => (hS35.jb h).elim hn3 (fun e => Nat.not_lt.2 e hl3)
        clear hl3
        have hl4 := hB4.lt
        replace hB4 := hB4.up hU35 hn4
        replace hn4 : ¬ JB b900 vs us3 vt3 b4 := fun h => (hS35.jb h).elim hn4 (fun e => Nat.not_lt.2 e hl4)
        clear hl4
        have hl5 := hB5.lt
        replace hB5 := hB5.up hU35 hn5
        replace hn5 : ¬ JB b900 vs us3 vt3 b5 := fun h => (hS35.jb h).elim hn5 (fun e => Nat.not_lt.2 e hl5)
        clear hl5
        have hl6 := hB6.lt
        replace hB6 := hB6.up hU35 hn6
        replace hn6 : ¬ JB b900 vs us3 vt3 b6 := fun h => (hS35.jb h).elim hn6 (fun e => Nat.not_lt.2 e hl6)
        clear hl6
        have hz := hE.size
        replace hE := hE.trans hU35 (fun x hx h => (hSb.jb h).elim id (fun e => absurd hx (Nat.not_lt.2 e)))
        replace hSb := hSb.trans hS35 hz
        clear hz
        refine R.nil ?_
        refine E.condT rfl ?_
        refine E.seq ?_
        refine E.regionP rfl ?_
        refine R.store t4 hB5 rfl rfl rfl (by simp) nofun ?_
        intro w92 hU92 hs92 hN92
        replace hJob := hJob.upN hU92 hn5 (hJob.ranks.ne hB5) (Nat.le_trans hJ0.ext.size hb5)
        replace hE := hE.own hU92 hb5
        replace hB5 : Blk _ b5 4 #[.bool true] := hN92
        refine R.nil ?_
        refine E.ret ?_
        refine retMC (ms := []) (w0 := w) t4 hB5 rfl rfl rfl Marks.nil (fun w9 hU9 => ⟨_, rfl, hE.trans hU9 (fun x hx hX => by simp at hX), ?_⟩)
        rw [tryL_leave hO, hT]
        have hX9 : Ext _ w9 := hU9.mono (fun x _ hX => by simp at hX)
        exact ⟨rfl, ⟨_, _, _, _, by rw [List.append_assoc] at hJob; exact hJob.ex hX9, hSb⟩⟩
    · replace hc21 := dF hc21
      obtain ⟨b, ov, rfl⟩ : ∃ b ov', ov = b :: ov' := by
        cases ov with
        | nil => exact absurd hO.leave.1 hc21
        | cons b ov => exact ⟨b, ov, rfl⟩
      refine E.skip ?_
      refine E.seq ?_
      refine E.seq ?_
      refine E.regionP rfl ?_
      refine R.loadB t3 hB4 rfl rfl rfl trivial ?_
      refine R.eql rfl rfl rfl ?_
      refine R.nil ?_
      refine E.cond rfl (fun hc39 => ?_) (fun hc39 => ?_)
      · replace hc39 := dT hc39
        obtain rfl : left = 0 := by omega
        refine E.seq ?_
        refine E.regionP rfl ?_
        refine R.store t4 hB5 rfl rfl rfl (by simp) nofun ?_
        intro w93 hU93 hs93 hN93
        replace hJob := hJob.upN hU93 hn5 (hJob.ranks.ne hB5) (Nat.le_trans hJ0.ext.size hb5)
        replace hE := hE.own hU93 hb5
        replace hB5 : Blk _ b5 4 #[.bool false] := hN93
        refine R.nil ?_
        refine E.ret ?_
        refine retMC (ms := []) (w0 := w) t4 hB5 rfl rfl rfl Marks.nil (fun w9 hU9 => ⟨_, rfl, hE.trans hU9 (fun x hx hX => by simp at hX), ?_⟩)
        rw [tryL_zero hO]
        have hX9 : Ext _ w9 := hU9.mono (fun x _ hX => by simp at hX)
        exact ⟨rfl, ⟨_, _, hJob.ex hX9, hSb⟩⟩
      · replace hc39 := dF hc39
        obtain ⟨left, rfl⟩ : ∃ m, left = m + 1 := ⟨left - 1, by omega⟩
        refine E.skip ?_
        refine E.seq ?_
        refine E.seq ?_
        refine E.regionP rfl ?_
        refine R.loadB t104 hB1 rfl rfl rfl trivial ?_
        refine R.loadB t3 hB6 rfl rfl rfl trivial ?_
        refine R.callE2 ent78 (others_ _) rfl rfl nofun ?_
        rintro v42 w7 hx7 ⟨c2, c3, rfl, hc2, hc3, hBc2, hBc3⟩
        replace hc2 := Nat.le_trans hE.size hc2
        replace hc3 := Nat.le_trans hE.size hc3
        replace hJob := hJob.ex hx7
        replace hB1 := hB1.ext hx7
        replace hB2 := hB2.ext hx7
        replace hB3 := hB3.ext hx7
        replace hB4 := hB4.ext hx7
        replace hB5 := hB5.ext hx7
        replace hB6 := hB6.ext hx7
        replace hE := hE.ext hx7
        refine R.nil ?_
        refine E.block ?_
        refine E.forgetM [(1, .pointer (some ⟨b1, 0, none⟩)), (3, .pointer (some ⟨b3, 0, none⟩)), (4, .pointer (some ⟨b4, 0, none⟩)), (5, .pointer (some ⟨b5, 0, none⟩)), (6, .pointer (some ⟨b6, 0, none⟩)), (42, .func (.func 95) #[] #[.pointer (some ⟨c2, 0, none⟩), .pointer (some ⟨c3, 0, none⟩)])] ⟨rfl, rfl, rfl, rfl, rfl, rfl, trivial⟩ (fun e0 he0 => ?_)
        have hms0 : e0.ms = [] := he0
        clear he0
        refine E.rangeF (gf := 95) (cap := #[.pointer (some ⟨c2, 0, none⟩), .pointer (some ⟨c3, 0, none⟩)]) rfl ent95 ?_
        intro wl r D hxl hDl hDo hLo hLr hrs hrp
        have hDw : w.heap.size ≤ D := Nat.le_trans hE.size hDl
        replace hJob := hJob.ex hxl
        replace hBc2 := hBc2.ext hxl
        replace hBc3 := hBc3.ext hxl
        replace hB1 := hB1.ext hxl
        replace hB2 := hB2.ext hxl
        replace hB3 := hB3.ext hxl
        replace hB4 := hB4.ext hxl
        replace hB5 := hB5.ext hxl
        replace hB6 := hB6.ext hxl
        replace hE := hE.ext hxl
        have hn5 := hnew _ hb5
        have hn6 := hnew _ hb6
        have hn4 := hnew _ hb4
        have hnL : ¬ JB b900 vs us vt (D + 1) := hnew _ (by omega)
        have hnD : ¬ JB b900 vs us vt D := hnew _ hDw
        have hD0 : D < wl.heap.size := hDo.lt
        have hq1 : ¬ (JB b900 vs us vt b1 ∨ b1 = D + 1) := fun h => h.elim hn1 (fun e => hLo.neB hB1 (by simp) e.symm)
        have hq2 : ¬ (JB b900 vs us vt b2 ∨ b2 = D + 1) := fun h => h.elim hn2 (fun e => hLo.neB hB2 (by simp) e.symm)
        have hq3 : ¬ (JB b900 vs us vt b3 ∨ b3 = D + 1) := fun h => h.elim hn3 (fun e => hLo.neB hB3 (by simp) e.symm)
        have hq4 : ¬ (JB b900 vs us vt b4 ∨ b4 = D + 1) := fun h => h.elim hn4 (fun e => hLo.neB hB4 (by simp) e.symm)
        have hq5 : ¬ (JB b900 vs us vt b5 ∨ b5 = D + 1) := fun h => h.elim hn5 (fun e => hLo.neB hB5 (by simp) e.symm)
        have hq6 : ¬ (JB b900 vs us vt b6 ∨ b6 = D + 1) := fun h => h.elim hn6 (fun e => hLo.neB hB6 (by simp) e.symm)
        have hqc2 : ¬ (JB b900 vs us vt c2 ∨ c2 = D + 1) := fun h => h.elim (hnew _ hc2) (fun e => hLo.neB hBc2 (by simp) e.symm)
        have hqc3 : ¬ (JB b900 vs us vt c3 ∨ c3 = D + 1) := fun h => h.elim (hnew _ hc3) (fun e => hLo.neB hBc3 (by simp) e.symm)
        have hwl0 : w0.heap.size ≤ wl.heap.size := hJob.ext.size
        have hwl1 : w.heap.size ≤ wl.heap.size := hE.size
        refine (others1 wl (l := D + 1) (b900 := b900) (b901 := c2) (b902 := c3) (H := H) (rm := rm) (nx := nx) (vs := vs) (vo := vo) (xss := ys) (ord := ord) (fr := ((a : Nat) : Int)) (Inv := fun i wr => Obj1 wr (D + 1) (.loop r) ∧ Upd (fun x => JB b900 vs us vt x ∨ x = D + 1) wl wr ∧ (∃ us1 vt1, Job w0 wr b900 vs us1 vo rm vt1 ys H ord ss nx ∧ Sub wl.heap.size us vt us1 vt1) ∧ (List.range i).findSome? (tryG H ord ys nx left a b) = none) (Stop := fun wr => Obj1 wr (D + 1) (.loop { r with state := .done, pending := some .ret }) ∧ Upd (fun x => JB b900 vs us vt x ∨ x = D + 1 ∨ x = b5) wl wr ∧ Blk wr b5 4 #[.bool true] ∧ ∃ tt, tryL H ord ys nx (left + 1) = some tt ∧ ∃ ys1 nx1 us1 vt1, Job w0 wr b900 vs us1 vo rm vt1 ys1 H ord (ss ++ tt) nx1 ∧ Sub wl.heap.size us vt us1 vt1) ?_ ?_ ?_ ?_ ?_ hG.right.2.2.2.1 (sum_lengths hG.right) (by omega)).mono ?_
        · exact ⟨hLo, Upd.refl _, ⟨us, vt, hJob, Sub.refl⟩, rfl⟩
        · rintro i wr ⟨q1, q2, ⟨us1, vt1, hJ2, _⟩, _⟩
          exact ⟨⟨us1, vt1, hJ2.blk, hJ2.ms.mat, hJ2.ordI.ext hJ2.ext, hJ2.ranks⟩, hBc2.up q2 hqc2, hBc3.up q2 hqc3⟩
        · rintro i wr w' ⟨q1, q2, ⟨us1, vt1, hJ2, q3⟩, q4⟩ q
          exact ⟨q1.ext q, q2.ext q, ⟨us1, vt1, hJ2.ex q, q3⟩, q4⟩
        · rintro i hi wr hq ⟨q1, q2, q3, q4⟩
          refine ⟨q1, q2, q3, find_miss q4 ?_⟩
          unfold tryG
          rw [show ys.getD i [] = ys[i] by simp [hi], if_pos (by omega)]
        · rintro i hi wr hq hq2x ⟨hL1, hU1, ⟨us1, vt1, hJob, hS1⟩, hfn⟩
          have hE : NoE w wr := trivial
          have hia : i ≠ a := by omega
          obtain ⟨hO1, hsh, hdo⟩ := hO.next hi hia hq2x
          have hG1 := hO1.good
          have hnx1 := hnx
          have hlw := hU1.size
          have hl1 := hB1.lt
          replace hB1 := hB1.up hU1 hq1
          replace hn1 : ¬ JB b900 vs us1 vt1 b1 := fun h => (hS1.jb h).elim hn1 (fun e => Nat.not_lt.2 e hl1)
          clear hl1
          have hl2 := hB2.lt
          replace hB2 := hB2.up hU1 hq2
          replace hn2 : ¬ JB b900 vs us1 vt1 b2 := fun h => (hS1.jb h).elim hn2 (fun e => Nat.not_lt.2 e hl2)
          clear hl2
          have hl3 := hB3.lt
          replace hB3 := hB3.up hU1 hq3
          replace hn3 : ¬ JB b900 vs us1 vt1 b3 := fun h => (hS1.jb h).elim hn3 (fun e => Nat.not_lt.2 e hl3)
          clear hl3
          have hl4 := hB4.lt
          replace hB4 := hB4.up hU1 hq4
          replace hn4 : ¬ JB b900 vs us1 vt1 b4 := fun h => (hS1.jb h).elim hn4 (fun e => Nat.not_lt.2 e hl4)
          clear hl4
          have hl5 := hB5.lt
          replace hB5 := hB5.up hU1 hq5
          replace hn5 : ¬ JB b900 vs us1 vt1 b5 := fun h => (hS1.jb h).elim hn5 (fun e => Nat.not_lt.2 e hl5)
          clear hl5
          have hl6 := hB6.lt
          replace hB6 := hB6.up hU1 hq6
          replace hn6 : ¬ JB b900 vs us1 vt1 b6 := fun h => (hS1.jb h).elim hn6 (fun e => Nat.not_lt.2 e hl6)
          clear hl6
          replace hnL : ¬ JB b900 vs us1 vt1 (D + 1) := hJob.notO hL1 (by simp)
          refine yields2 hLr hL1 hrs (by decide) (by decide) ?_
          refine E.regionP rfl ?_
          refine R.assign ?_
          refine R.nil ?_
          refine beginQ_n hL1 (fun w2 hU2 hL2 => ?_)
          have hnb : ∀ {b : Nat} {ty : TypeId} {cs : Array Value}, Blk wr b ty cs → b ≠ D + 1 := fun hB e => hL1.neB hB (by simp) e.symm
          replace hJob := hJob.upN hU2 hnL (hJob.ranks.neO hL1 (by simp)) (by omega)
          replace hB1 := hB1.up hU2 (hnb hB1)
          replace hB2 := hB2.up hU2 (hnb hB2)
          replace hB3 := hB3.up hU2 (hnb hB3)
          replace hB4 := hB4.up hU2 (hnb hB4)
          replace hB5 := hB5.up hU2 (hnb hB5)
          replace hB6 := hB6.up hU2 (hnb hB6)
          replace hU1 := hU1.trans hU2 (fun x _ h => .inr h)
          have hE : NoE w w2 := trivial
          have hlw := hU1.size
          refine E.block ?_
          refine E.seq ?_
          refine E.regionW (fun c x => x < w2.heap.size ∧ (c = false → x = b1 ∨ x = b6)) []  mixed rfl (by kernel_rfl) ?_
          intro w8 hx8 hh8
          replace hJob := hJob.ex hx8
          replace hL2 := hL2.ext hx8
          replace hU1 := hU1.ext hx8
          replace hB1 := hB1.ext hx8
          replace hB2 := hB2.ext hx8
          replace hB3 := hB3.ext hx8
          replace hB4 := hB4.ext hx8
          replace hB5 := hB5.ext hx8
          replace hB6 := hB6.ext hx8
          replace hE := hE.ext hx8
          have hEs : Ext w8 w8 := Upd.refl _
          have hS0 := hx8.size
          have hSB : ∀ b, b < w8.heap.size → b < w2.heap.size ∧ (true = false → (fun x => x = b1 ∨ x = b6) b) := fun b hb => ⟨by rw [hh8] at hb; exact hb, nofun⟩
          have hSA : ∀ b, b < w8.heap.size → (fun x => x = b1 ∨ x = b6) b → b < w2.heap.size ∧ (false = false → (fun x => x = b1 ∨ x = b6) b) := fun b hb h => ⟨by rw [hh8] at hb; exact hb, fun _ => h⟩
          have hJobs := hJob
          have hL2s := hL2
          have hU1s := hU1
          have hB1s := hB1
          have hB2s := hB2
          have hB3s := hB3
          have hJob.blks := hJob.blk
          have hB4s := hB4
          have hB5s := hB5
          have hB6s := hB6
          refine R.loadB t104 hB1 rfl rfl rfl (hSA b1 hB1s.lt (.inl rfl)) ?_
          refine R.loadB t104 hB1 rfl rfl rfl (hSA b1 hB1s.lt (.inl rfl)) ?_
          refine R.loadB t3 hB6 rfl rfl rfl (hSA b6 hB6s.lt (.inr rfl)) ?_
          refine R.callE2 ent79 (top_ _ hJob.blk hJob.ms.mat hG.right.x6) rfl rfl (fun _ _ hb => Nat.lt_of_lt_of_le hb.1 (Nat.le_trans hS0 hEs.size)) ?_
          rintro v48 w9 hx9 rfl
          replace hJob := hJob.ex hx9
          replace hL2 := hL2.ext hx9
          replace hU1 := hU1.ext hx9
          replace hB1 := hB1.ext hx9
          replace hB2 := hB2.ext hx9
          replace hB3 := hB3.ext hx9
          replace hB4 := hB4.ext hx9
          replace hB5 := hB5.ext hx9
          replace hB6 := hB6.ext hx9
          replace hE := hE.ext hx9
          replace hEs := hEs.ext hx9
          rw [hO.top]
          refine R.loadB t3 hB6 rfl rfl rfl (hSA b6 hB6s.lt (.inr rfl)) ?_
          refine R.move ?_
          refine R.build build68 rfl ?_
          have hJob0 := hJob
          refine R.call2 ent76 (do2_ w0 _ hJob hG.right.2.2.2.1 (sum_lengths hG.right) hnx (by omega) (by omega)) rfl rfl ?_
          rintro v52 w52 ⟨hU52, hD52⟩
          refine ⟨fun _ x hx => hU52.blk x (Nat.lt_of_lt_of_le hx.1 (Nat.le_trans hS0 hEs.size)) (fun h => by rcases hx.2 rfl with e | e; (rw [e] at h; exact hn1 h); (rw [e] at h; exact hn6 h)), ?_⟩
          obtain ⟨rfl, us2, vt2, hJob, hS52⟩ := hD52.some_ hdo
          replace hL2 := hL2.up hU52 (hJob0.notO hL2 (by simp))
          have hl1 := hB1.lt
          replace hB1 := hB1.up hU52 hn1
          replace hn1 : ¬ JB b900 vs us2 vt2 b1 := fun h => (hS52.jb h).elim hn1 (fun e => Nat.not_lt.2 e hl1)
          clear hl1
          have hl2 := hB2.lt
          replace hB2 := hB2.up hU52 hn2
          replace hn2 : ¬ JB b900 vs us2 vt2 b2 := fun h => (hS52.jb h).elim hn2 (fun e => Nat.not_lt.2 e hl2)
          clear hl2
          have hl3 := hB3.lt
          replace hB3 := hB3.up hU52 hn3
          replace hn3 : ¬ JB b900 vs us2 vt2 b3 := fun h => (hS52.jb h).elim hn3 (fun e => Nat.not_lt.2 e hl3)
          clear hl3
          have hl4 := hB4.lt
          replace hB4 := hB4.up hU52 hn4
          replace hn4 : ¬ JB b900 vs us2 vt2 b4 := fun h => (hS52.jb h).elim hn4 (fun e => Nat.not_lt.2 e hl4)
          clear hl4
          have hl5 := hB5.lt
          replace hB5 := hB5.up hU52 hn5
          replace hn5 : ¬ JB b900 vs us2 vt2 b5 := fun h => (hS52.jb h).elim hn5 (fun e => Nat.not_lt.2 e hl5)
          clear hl5
          have hl6 := hB6.lt
          replace hB6 := hB6.up hU52 hn6
          replace hn6 : ¬ JB b900 vs us2 vt2 b6 := fun h => (hS52.jb h).elim hn6 (fun e => Nat.not_lt.2 e hl6)
          clear hl6
          have hz := hU1.size
          replace hU1 := hU1.trans hU52 (fun x hx h => (hS1.jb h).elim .inl (fun e => absurd hx (Nat.not_lt.2 e)))
          replace hS1 := hS1.trans hS52 hz
          replace hE : NoE w w52 := trivial
          clear hz
          refine R.nil ?_
          refine E.seq ?_
          refine E.seq ?_
          rcases hT : tryL H ord (shiftL ys H a i).1 nx left with _ | tt
          · refine E.regionP rfl ?_
            refine R.loadB t109 hB3 rfl rfl rfl trivial ?_
            refine R.loadB t3 hB4 rfl rfl rfl trivial ?_
            refine R.subN (n := 1) rfl rfl (by omega) (by omega) ?_
            have hJob0 := hJob
            refine R.callV1 ent74 (cap := #[.pointer (some ⟨b1, 0, none⟩), .pointer (some ⟨b2, 0, none⟩), .pointer (some ⟨b3, 0, none⟩)]) rfl rfl (ih (ord.length - (nx) + (left)) (by omega) _ us2 vt2 _ (ss ++ [(b, ((a : Nat) : Int), ((i : Nat) : Int))]) (nx) (left) rfl (by simp; omega) hG1 hnx1 (by omega) hJob hB1 hB2 hB3 hn1 hn2 hn3) ?_
            rintro v56 w56 ⟨hU56, hT56⟩
            refine ⟨nofun, ?_⟩
            rw [hT] at hT56
            obtain ⟨rfl, us3, vt3, hJob, hS56⟩ := hT56
            replace hL2 := hL2.up hU56 (hJob0.notO hL2 (by simp))
            have hl1 := hB1.lt
            replace hB1 := hB1.up hU56 hn1
            replace hn1 : ¬ JB b900 vs us3 vt3 b1 := fun h => (hS56.jb h).elim hn1 (fun e => Nat.not_lt.2 e hl1)
            clear hl1
            have hl2 := hB2.lt
            replace hB2 := hB2.up hU56 hn2
            replace hn2 : ¬ JB b900 vs us3 vt3 b2 := fun h => (hS56.jb h).elim hn2 (fun e => Nat.not_lt.2 e hl2)
            clear hl2
            have hl3 := hB3.lt
            replace hB3 := hB3.up hU56 hn3
            replace hn3 : ¬ JB b900 vs us3 vt3 b3 := fun h => (hS56.jb h).elim hn3 (fun e => Nat.not_lt.2 e hl3)
            clear hl3
            have hl4 := hB4.lt
            replace hB4 := hB4.up hU56 hn4
            replace hn4 : ¬ JB b900 vs us3 vt3 b4 := fun h => (hS56.jb h).elim hn4 (fun e => Nat.not_lt.2 e hl4)
            clear hl4
            have hl5 := hB5.lt
            replace hB5 := hB5.up hU56 hn5
            replace hn5 : ¬ JB b900 vs us3 vt3 b5 := fun h => (hS56.jb h).elim hn5 (fun e => Nat.not_lt.2 e hl5)
            clear hl5
            have hl6 := hB6.lt
            replace hB6 := hB6.up hU56 hn6
            replace hn6 : ¬ JB b900 vs us3 vt3 b6 := fun h => (hS56.jb h).elim hn6 (fun e => Nat.not_lt.2 e hl6)
            clear hl6
            have hz := hU1.size
            replace hU1 := hU1.trans hU56 (fun x hx h => (hS1.jb h).elim .inl (fun e => absurd hx (Nat.not_lt.2 e)))
            replace hS1 := hS1.trans hS56 hz
            replace hE : NoE w w56 := trivial
            clear hz hJob0
            refine R.nil ?_
            refine E.condF rfl ?_
            refine E.skip ?_
            refine E.regionP rfl ?_
            refine R.loadB t104 hB1 rfl rfl rfl trivial ?_
            have hJob0 := hJob
            refine R.call1 ent77 (undo_ w0 _ hJob hdo (sum_lengths hG1.right) (by omega) (by omega)) rfl ?_
            rintro v58 w58 ⟨hU58, us4, vt4, hJob, hS58⟩
            refine ⟨nofun, ?_⟩
            replace hL2 := hL2.up hU58 (hJob0.notO hL2 (by simp))
            have hz := hU1.size
            replace hU1 := hU1.trans hU58 (fun x hx h => (hS1.jb h).elim .inl (fun e => absurd hx (Nat.not_lt.2 e)))
            replace hS1 := hS1.trans hS58 hz
            clear hz hJob0
            refine R.nil ?_
            refine blk_n (roundQ_n hL2 (fun w7 hU7 hL7 => ?_))
            refine ⟨true, rfl, fun _ => ⟨by rw [loop_back hrs hrp] at hL7; exact hL7, hU1.trans hU7 (fun x _ h => .inr h), ⟨us4, vt4, hJob.upN hU7 (hJob.notO hL2 (by simp)) (hJob.ranks.neO hL2 (by simp)) (by omega), hS1⟩, find_miss hfn ?_⟩, nofun⟩
            unfold tryG
            rw [if_neg (by rw [show ys.getD i [] = ys[i] by simp [hi]]; omega), hT]
            rfl
          · refine E.regionP rfl ?_
            refine R.loadB t109 hB3 rfl rfl rfl trivial ?_
            refine R.loadB t3 hB4 rfl rfl rfl trivial ?_
            refine R.subN (n := 1) rfl rfl (by omega) (by omega) ?_
            have hJob0 := hJob
            refine R.callV1 ent74 (cap := #[.pointer (some ⟨b1, 0, none⟩), .pointer (some ⟨b2, 0, none⟩), .pointer (some ⟨b3, 0, none⟩)]) rfl rfl (ih (ord.length - (nx) + (left)) (by omega) _ us2 vt2 _ (ss ++ [(b, ((a : Nat) : Int), ((i : Nat) : Int))]) (nx) (left) rfl (by simp; omega) hG1 hnx1 (by omega) hJob hB1 hB2 hB3 hn1 hn2 hn3) ?_
            rintro v56 w56 ⟨hU56, hT56⟩
            refine ⟨nofun, ?_⟩
            rw [hT] at hT56
            obtain ⟨rfl, ys3, nx3, us3, vt3, hJob, hS56⟩ := hT56
            replace hL2 := hL2.up hU56 (hJob0.notO hL2 (by simp))
            have hl1 := hB1.lt
            replace hB1 := hB1.up hU56 hn1
            replace hn1 : ¬ JB b900 vs us3 vt3 b1 := fun h => (hS56.jb h).elim hn1 (fun e => Nat.not_lt.2 e hl1)
            clear hl1
            have hl2 := hB2.lt
            replace hB2 := hB2.up hU56 hn2
            replace hn2 : ¬ JB b900 vs us3 vt3 b2 := fun h => (hS56.jb h).elim hn2 (fun e => Nat.not_lt.2 e hl2)
            clear hl2
            have hl3 := hB3.lt
            replace hB3 := hB3.up hU56 hn3
            replace hn3 : ¬ JB b900 vs us3 vt3 b3 := fun h => (hS56.jb h).elim hn3 (fun e => Nat.not_lt.2 e hl3)
            clear hl3
            have hl4 := hB4.lt
            replace hB4 := hB4.up hU56 hn4
            replace hn4 : ¬ JB b900 vs us3 vt3 b4 := fun h => (hS56.jb h).elim hn4 (fun e => Nat.not_lt.2 e hl4)
            clear hl4
            have hl5 := hB5.lt
            replace hB5 := hB5.up hU56 hn5
            replace hn5 : ¬ JB b900 vs us3 vt3 b5 := fun h => (hS56.jb h).elim hn5 (fun e => Nat.not_lt.2 e hl5)
            clear hl5
            have hl6 := hB6.lt
            replace hB6 := hB6.up hU56 hn6
            replace hn6 : ¬ JB b900 vs us3 vt3 b6 := fun h => (hS56.jb h).elim hn6 (fun e => Nat.not_lt.2 e hl6)
            clear hl6
            have hz := hU1.size
            replace hU1 := hU1.trans hU56 (fun x hx h => (hS1.jb h).elim .inl (fun e => absurd hx (Nat.not_lt.2 e)))
            replace hS1 := hS1.trans hS56 hz
            replace hE : NoE w w56 := trivial
            clear hz hJob0
            refine R.nil ?_
            refine E.condT rfl ?_
            refine E.seq ?_
            refine E.regionP rfl ?_
            refine R.store t4 hB5 rfl rfl rfl (by simp) nofun ?_
            intro w94 hU94 hs94 hN94
            replace hJob := hJob.upN hU94 hn5 (hJob.ranks.ne hB5) (Nat.le_trans hJ0.ext.size hb5)
            replace hL2 := hL2.up hU94 (fun e => hL2.neB hB5 (by simp) e)
            have hU1t : Upd (fun x => JB b900 vs us vt x ∨ x = D + 1 ∨ x = b5) wl w94 := (hU1.mono (fun x _ h => h.elim .inl (fun e => .inr (.inl e)))).trans hU94 (fun x _ h => .inr (.inr h))
            replace hB5 : Blk _ b5 4 #[.bool true] := hN94
            refine R.nil ?_
            refine E.ret ?_
            refine ⟨hL2, fun w7 hU7 hL7 => ⟨false, rfl, nofun, fun _ => ⟨hL7, hU1t.trans hU7 (fun x _ h => .inr (.inl h)), hB5.up hU7 (fun e => hL2.neB hB5 (by simp) e.symm), (b, ((a : Nat) : Int), ((i : Nat) : Int)) :: tt, ?_, ys3, nx3, us3, vt3, ?_, hS1⟩⟩⟩
            · rw [tryL_reloc hO]
              refine find_hit hfn hi ?_
              unfold tryG
              rw [if_neg (by rw [show ys.getD i [] = ys[i] by simp [hi]]; omega), hT]
              rfl
            · rw [List.append_assoc] at hJob
              exact hJob.upN hU7 (hJob.notO hL2 (by simp)) (hJob.ranks.neO hL2 (by simp)) (by omega)
        rintro _ w3 ⟨_, rfl, _, ⟨hL3, hU3, ⟨us1, vt1, hJob1, hS1⟩, hfn⟩ | ⟨hL3, hU3, hB5t, tt, htt, ys1, nx1, us1, vt1, hJob1, hS1⟩⟩
        rotate_left
        · refine ⟨_, rfl, _, hL3, by simp, fun w4 hU4 => ?_⟩
          have hnL1 : ¬ JB b900 vs us1 vt1 (D + 1) := hJob1.notO hL3 (by simp)
          have hD3 : Obj1 w3 D (.deferred (some [])) := hDo.up hU3 (by rintro (e | e | e); (exact hnD e); omega; exact hDo.neB hB5 (by simp) e)
          have hnD1 : ¬ JB b900 vs us1 vt1 D := hJob1.notO hD3 (by simp)
          have hE3 := hE.trans hU3 (fun x hx h => by rcases h with h | h | h; (exact h); omega; omega)
          have hE4 := hE3.trans hU4 (fun x hx h => by have e : x = D + 1 := h; omega)
          have hMk : Marks w w4 [D] := ⟨by simp, fun x hx => by
            simp at hx; subst hx
            exact ⟨hD3.up hU4 (fun e => by have e1 : x = x + 1 := e; omega), hDw⟩⟩
          have hJob4 := hJob1.upN hU4 hnL1 (hJob1.ranks.neO hL3 (by simp)) (by omega)
          show bodyM _ _ _ .ret _ _
          refine retMC (ms := [D]) (w0 := w) t4 (hB5t.up hU4 (fun e => hL3.neB hB5t (by simp) e.symm)) rfl rfl (by show D :: e0.ms = [D]; rw [hms0]) hMk (fun w9 hU9 => ⟨_, rfl, hE4.trans hU9 (fun x hx hX => by simp at hX; omega), ?_⟩)
          rw [htt]
          exact ⟨rfl, ys1, nx1, us1, vt1, hJob4.upX hU9 (fun x hX => by simp at hX; subst hX; exact ⟨hnD1, hJob4.ranks.neO (hMk.2 _ (by simp)).1 (by simp), by omega⟩), hSb.trans hS1 hwl1⟩
        refine ⟨_, rfl, loopQ_n hL3 hrs hrp (fun w4 hU4 => ?_)⟩
        have hnL1 : ¬ JB b900 vs us1 vt1 (D + 1) := hJob1.notO hL3 (by simp)
        have hD3 : Obj1 w3 D (.deferred (some [])) := hDo.up hU3 (by rintro (e | e); (exact hnD e); omega)
        have hnD1 : ¬ JB b900 vs us1 vt1 D := hJob1.notO hD3 (by simp)
        have hMk : Marks w w4 [D] := ⟨by simp, fun x hx => by
          simp at hx; subst hx
          exact ⟨hD3.up hU4 (fun e => by have e1 : x = x + 1 := e; omega), hDw⟩⟩
        have hl5 := hB5.lt
        replace hB5 := hB5.up hU3 hq5
        replace hn5 : ¬ JB b900 vs us1 vt1 b5 := fun h => (hS1.jb h).elim hn5 (fun e => Nat.not_lt.2 e hl5)
        replace hB5 := hB5.up hU4 (fun e => hL3.neB hB5 (by simp) e.symm)
        replace hE := hE.trans hU3 (fun x hx h => by rcases h with h | h; (exact h); omega)
        replace hE := hE.trans hU4 (fun x hx h => by have e : x = D + 1 := h; omega)
        replace hSb := hSb.trans hS1 hwl1
        replace hJob := hJob1.upN hU4 hnL1 (hJob1.ranks.neO hL3 (by simp)) (by omega)
        have hfn1 : tryL H ord ys nx (left + 1) = none := by rw [tryL_reloc hO]; exact hfn
        clear hBc2 hBc3 hB1 hB2 hB3 hB4 hB6 hJob1 hL3 hDo hLo
        refine E.forgetM [(5, .pointer (some ⟨b5, 0, none⟩))] ⟨rfl, trivial⟩ (fun e1 he1 => ?_)
        have hms1 : e1.ms = [D] := by rw [he1]; show D :: e0.ms = [D]; rw [hms0]
        clear he1
        refine E.seq ?_
        refine E.regionP rfl ?_
        refine R.store t4 hB5 rfl rfl rfl (by simp) nofun ?_
        intro w95 hU95 hs95 hN95
        have hw5 := Nat.le_trans hJ0.ext.size hb5
        replace hJob := hJob.upN hU95 hn5 (hJob.ranks.ne hB5) hw5
        replace hMk := hMk.upB hU95 hB5
        replace hE := hE.own hU95 hb5
        replace hB5 : Blk _ b5 4 #[.bool false] := hN95
        refine R.nil ?_
        refine E.ret ?_
        refine retMC (ms := [D]) (w0 := w) t4 hB5 rfl rfl hms1 hMk (fun w9 hU9 => ⟨_, rfl, hE.trans hU9 (fun x hx hX => by simp at hX; omega), ?_⟩)
        rw [hfn1]
        exact ⟨rfl, us1, vt1, hJob.upX hU9 (fun x hX => by simp at hX; subst hX; exact ⟨hnD1, hJob.ranks.neO (hMk.2 _ (by simp)).1 (by simp), by omega⟩), hSb⟩
end Go.Proofs.Ytfdmndkoiheebaa
