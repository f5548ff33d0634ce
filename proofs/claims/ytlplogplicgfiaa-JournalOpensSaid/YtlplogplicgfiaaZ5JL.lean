import Derived.Test.YtlplogplicgfiaaZ5JK
namespace Go.Proofs.Ytlplogplicgfiaa
open Go Go.RowKit
theorem cells_agg (cs : Array Value) : (Value.agg cs).cells = cs := rfl
theorem ones6 {a0 a1 a2 a3 a4 a5 : Value} (h0 : a0.oneCell' = true) (h1 : a1.oneCell' = true) (h2 : a2.oneCell' = true) (h3 : a3.oneCell' = true) (h4 : a4.oneCell' = true) (h5 : a5.oneCell' = true) : ∀ u ∈ #[a0, a1, a2, a3, a4, a5].toList, u.oneCell' = true := by simpa using ⟨h0, h1, h2, h3, h4, h5⟩
theorem ones10 {a0 a1 a2 a3 a4 a5 a6 a7 a8 a9 : Value} (h0 : a0.oneCell' = true) (h1 : a1.oneCell' = true) (h2 : a2.oneCell' = true) (h3 : a3.oneCell' = true) (h4 : a4.oneCell' = true) (h5 : a5.oneCell' = true) (h6 : a6.oneCell' = true) (h7 : a7.oneCell' = true) (h8 : a8.oneCell' = true) (h9 : a9.oneCell' = true) : ∀ u ∈ #[a0, a1, a2, a3, a4, a5, a6, a7, a8, a9].toList, u.oneCell' = true := by simpa using ⟨h0, h1, h2, h3, h4, h5, h6, h7, h8, h9⟩
theorem optCases {α : Type} (o : Option α) : o = none ∨ ∃ x, o = some x := by
  cases o with
  | none => exact .inl rfl
  | some x => exact .inr ⟨x, rfl⟩
theorem DM.upS {w w' : World} {p : Nat} {vb vd x : Value} {d : Dk} {ty' k' m : Nat} {ds : List Value} (h : DM w p vb vd d) (u : Upd (fun b => vblk x = some b) w w') (hx : Sl w ty' k' x m ds) (hne : 25 ≠ ty' ∧ 27 ≠ ty' ∧ 4 ≠ ty') : DM w' p vb vd d :=
  ⟨h.blk.upS u hx hne.1, h.bls.upS u hx hne.2.1, h.bds.upS u hx hne.2.2, h.ok⟩
theorem SU8s.app {w : World} {v : Value} {xs ys : List Nat} (h : Sl w 5 1 v (xs.length + ys.length) (u8s xs ++ u8s ys)) : SU8s w v (xs ++ ys) := by
  show Sl w 5 1 v (xs ++ ys).length (u8s (xs ++ ys))
  rw [List.length_append, show u8s (xs ++ ys) = u8s xs ++ u8s ys by simp]; exact h
def foundL (d : Dk) (a : Nat) (h : Hd) : Nat → Option (List (List Nat))
  | 0 => some []
  | k + 1 => match foundL d a h k with
    | none => none
    | some l => match partL d ((a + k) % d.n) h k with
      | none => none
      | some x => some (l ++ [x])
def findL (d : Dk) (a : Nat) (h : Hd) : Option (List Nat) := if d.n < h.total then none else (foundL d a h h.total).map List.flatten
theorem foundL_none {d : Dk} {a : Nat} {h : Hd} {k : Nat} (h1 : foundL d a h k = none) : ∀ {m : Nat}, k ≤ m → foundL d a h m = none
  | 0, hm => by obtain rfl : k = 0 := by omega
                exact h1
  | m + 1, hm => by
    rcases Nat.lt_or_ge m k with h2 | h2
    · obtain rfl : k = m + 1 := by omega
      exact h1
    · simp only [foundL, foundL_none h1 h2]
theorem foundL_step {d : Dk} {a : Nat} {h : Hd} {k : Nat} {l : List (List Nat)} {x : List Nat} (h1 : foundL d a h k = some l) (h2 : partL d ((a + k) % d.n) h k = some x) : foundL d a h (k + 1) = some (l ++ [x]) := by
  simp only [foundL, h1, h2]
theorem foundL_stop {d : Dk} {a : Nat} {h : Hd} {k : Nat} (h2 : partL d ((a + k) % d.n) h k = none) : foundL d a h (k + 1) = none := by
  simp only [foundL, h2]
  split <;> rfl
def FRes (w w' : World) (r : Value) (a : Nat) (h : Hd) : Option (List Nat) → Prop
  | none => r = .tuple #[.agg #[.int .i64 ((0 : Nat) : Int), .int .i64 ((0 : Nat) : Int), .int .i64 ((0 : Nat) : Int), .int .i64 ((0 : Nat) : Int), .int .i64 ((0 : Nat) : Int), .slice none 0 0], .bool false]
  | some rec => ∃ v, r = .tuple #[.agg #[.int .i64 ((h.total : Nat) : Int), .int .i64 ((h.number : Nat) : Int), .int .i64 ((h.life : Nat) : Int), .int .i64 ((h.first : Nat) : Int), .int .i64 ((a : Nat) : Int), v], .bool true] ∧ SU8s w' v rec ∧ Fresh w v
theorem partL_len {d : Dk} {pl k : Nat} {h : Hd} {dt : List Nat} (hp : partL d pl h k = some dt) : dt.length ≤ 48 := by
  have key : ∀ i, hitL (tk d i) h k = some dt → dt.length ≤ 48 := fun i hh => by
    unfold tk takeL at hh
    split at hh
    · exact absurd hh (by simp [hitL])
    · rename_i hb
      split at hh
      · exact absurd hh (by simp [hitL])
      · simp only [hitL] at hh
        split at hh
        · have h2 := Option.some.inj hh
          subst h2
          have h3 : ¬ (48 < (blkO (d.read i)).getD 3 0) := fun h4 => hb (by unfold badB; exact decide_eq_true (.inr (.inr (.inr (.inr (.inl h4))))))
          simp only [List.length_take, List.length_drop]
          omega
        · exact absurd hh (by simp)
  unfold partL at hp
  split at hp
  · rename_i x h1; cases hp; exact key _ h1
  · exact key _ hp
theorem foundL_len {d : Dk} {a : Nat} {h : Hd} : ∀ {k : Nat} {l : List (List Nat)}, foundL d a h k = some l → l.flatten.length ≤ 48 * k
  | 0, l, hl => by cases hl; simp
  | k + 1, l, hl => by
    simp only [foundL] at hl
    split at hl
    · exact absurd hl (by simp)
    · rename_i l' h1
      split at hl
      · exact absurd hl (by simp)
      · rename_i x h2
        cases hl
        have := foundL_len h1
        have := partL_len h2
        simp only [List.flatten_append, List.flatten_cons, List.flatten_nil, List.append_nil, List.length_append]
        omega
theorem bld106_0_1 {x0_0 x0_1 x0_2 x0_3 x1 : Value} (hx1 : x1.oneCell' = true) (w : World) : (Instr.build 106 #[(0, .agg #[x0_0, x0_1, x0_2, x0_3]), (1, x1)]).run Try.prog w = .ok (.agg #[x0_0, x0_1, x0_2, x0_3, x1, (.slice none 0 0)]) w := by
  simp [Instr.build, t106.zero, underlying, Try.underlying106, Instr.fill, cells_agg, t3.sizeOf, t103.sizeOf, cells_one hx1]
theorem bld106_e (w : World) : (Instr.build 106 #[]).run Try.prog w = .ok (.agg #[(.int .i64 0), (.int .i64 0), (.int .i64 0), (.int .i64 0), (.int .i64 0), (.slice none 0 0)]) w := by
  simp [Instr.build, t106.zero, underlying, Try.underlying106, Instr.fill, cells_agg]
theorem find_ (w : World) {b900 a : Nat} {vb vd : Value} {d : Dk} {h : Hd} (hD : DM w b900 vb vd d) (hn : 0 < d.n) (ha : a ≤ 1000000) (ht : 0 < h.total) (ht2 : h.total ≤ 84) :
    Calls Try.prog 69 #[.pointer (some ⟨b900, 0, none⟩), .int .i64 (a : Nat), .agg (hdC h)] w (Ret fun r w' => Ext w w' ∧ FRes w w' r a h (findL d a h)) := by
  have hnl := d.n_le
  refine calls_E (args := [.pointer (some ⟨b900, 0, none⟩), .int .i64 ((a : Nat) : Int), .agg #[.int .i64 ((h.total : Nat) : Int), .int .i64 ((h.number : Nat) : Int), .int .i64 ((h.life : Nat) : Int), .int .i64 ((h.first : Nat) : Int)]]) 50 Try.func69 rfl rfl (by simp) ?_
  have hE : Ext w w := Upd.refl w
  refine E.seq ?_
  refine E.regionP rfl ?_
  refine R.box rfl nofun ?_
  intro b5 w1 hb5 hx1 hB5
  replace hb5 := Nat.le_trans hE.size hb5
  replace hD := hD.ext hx1
  replace hE := hE.ext hx1
  replace hB5 : Blk _ b5 103 #[.int .i64 ((h.total : Nat) : Int), .int .i64 ((h.number : Nat) : Int), .int .i64 ((h.life : Nat) : Int), .int .i64 ((h.first : Nat) : Int)] := hB5
  refine R.alloc t106 nofun ?_
  intro b6 w2 hb6 hx2 hB6
  replace hb6 := Nat.le_trans hE.size hb6
  replace hD := hD.ext hx2
  replace hB5 := hB5.ext hx2
  replace hE := hE.ext hx2
  replace hB6 : Blk _ b6 106 #[.int .i64 ((0 : Nat) : Int), .int .i64 ((0 : Nat) : Int), .int .i64 ((0 : Nat) : Int), .int .i64 ((0 : Nat) : Int), .int .i64 ((0 : Nat) : Int), .slice none 0 0] := hB6
  refine R.assign ?_
  refine R.nil ?_
  refine E.seq ?_
  refine E.regionP rfl ?_
  refine R.loadA t103 hB5 rfl rfl rfl trivial ?_
  refine R.move ?_
  refine R.build (bld106_0_1 rfl) rfl ?_
  refine R.alloc t106 nofun ?_
  intro b8 w3 hb8 hx3 hB8
  have ne6_8 : b6 ≠ b8 := by have := hB6.lt; omega
  replace hb8 := Nat.le_trans hE.size hb8
  replace hD := hD.ext hx3
  replace hB5 := hB5.ext hx3
  replace hB6 := hB6.ext hx3
  replace hE := hE.ext hx3
  replace hB8 : Blk _ b8 106 #[.int .i64 ((0 : Nat) : Int), .int .i64 ((0 : Nat) : Int), .int .i64 ((0 : Nat) : Int), .int .i64 ((0 : Nat) : Int), .int .i64 ((0 : Nat) : Int), .slice none 0 0] := hB8
  refine R.storeA t106 hB8 rfl rfl rfl rfl (ones6 rfl rfl rfl rfl rfl rfl) nofun ?_
  intro w4 hU4 hs4 hN4
  replace hD := hD.upT hU4 hB8 (by decide)
  replace hB5 := hB5.upT hU4 hB8 (by decide)
  replace hB6 := hB6.up hU4 (fun h => ne6_8 h)
  replace hE := hE.own hU4 hb8
  replace hB8 : Blk _ b8 106 #[.int .i64 ((h.total : Nat) : Int), .int .i64 ((h.number : Nat) : Int), .int .i64 ((h.life : Nat) : Int), .int .i64 ((h.first : Nat) : Int), .int .i64 ((a : Nat) : Int), .slice none 0 0] := hN4
  clear hN4
  refine R.nil ?_
  refine E.seq ?_
  refine E.seq ?_
  refine E.regionP rfl ?_
  refine R.fld fa103_0 rfl ?_
  refine R.loadB t3 hB5 rfl rfl rfl trivial ?_
  refine R.move ?_
  refine R.nil ?_
  refine E.block ?_
  refine E.loop (fun n e wr => ∃ (k : Nat) (u : Value) (l : List (List Nat)), n = h.total - k ∧ k ≤ h.total ∧ foundL d a h k = some l ∧ (0 < k → h.total ≤ d.n) ∧ Fresh w u ∧ DM wr b900 vb vd d ∧ SU8s wr u l.flatten ∧ Blk wr b5 103 #[.int .i64 ((h.total : Nat) : Int), .int .i64 ((h.number : Nat) : Int), .int .i64 ((h.life : Nat) : Int), .int .i64 ((h.first : Nat) : Int)] ∧ Blk wr b6 106 #[.int .i64 ((0 : Nat) : Int), .int .i64 ((0 : Nat) : Int), .int .i64 ((0 : Nat) : Int), .int .i64 ((0 : Nat) : Int), .int .i64 ((0 : Nat) : Int), .slice none 0 0] ∧ Blk wr b8 106 #[.int .i64 ((h.total : Nat) : Int), .int .i64 ((h.number : Nat) : Int), .int .i64 ((h.life : Nat) : Int), .int .i64 ((h.first : Nat) : Int), .int .i64 ((a : Nat) : Int), u] ∧ Ext w wr ∧ Has e [(0, .pointer (some ⟨b900, 0, none⟩)), (1, .int .i64 ((a : Nat) : Int)), (5, .pointer (some ⟨b5, 0, none⟩)), (6, .pointer (some ⟨b6, 0, none⟩)), (8, .pointer (some ⟨b8, 0, none⟩)), (16, .int .i64 ((h.total : Nat) : Int)), (17, .int .i64 ((k : Nat) : Int))]) (h.total) ?_ ?_
  · exact ⟨0, .slice none 0 0, [], rfl, by omega, rfl, fun h => absurd h (Nat.lt_irrefl _), Fresh.nil _, hD, Sl.nil _ _ _, hB5, hB6, hB8, hE, rfl, rfl, rfl, rfl, rfl, rfl, rfl, trivial⟩
  · rintro n e wr ⟨k, u, l, rfl, hk, hf0, hkn, hf, hD, hr, hB5, hB6, hB8, hE, hH⟩
    obtain ⟨e, rfl⟩ := hH.ex
    clear hH
    refine E.seq ?_
    refine E.regionP rfl ?_
    refine R.lss (b := decide ((((k : Nat) : Int)) < (((h.total : Nat) : Int)))) rfl rfl rfl ?_
    refine R.nil ?_
    refine E.seq ?_
    refine E.cond (b := decide ((((k : Nat) : Int)) < (((h.total : Nat) : Int)))) rfl (fun hc18 => ?_) (fun hc18 => ?_)
    · replace hc18 := dT hc18
      refine E.skip ?_
      refine E.seq ?_
      refine E.block ?_
      refine E.seq ?_
      refine E.regionP rfl ?_
      refine R.move ?_
      refine R.assign ?_
      refine R.nil ?_
      refine E.seq ?_
      refine E.regionW (fun c x => x < wr.heap.size ∧ (c = false → True)) []  mixed rfl (by kernel_rfl) ?_
      intro w5 hx5 hh5
      replace hD := hD.ext hx5
      replace hr := hr.ext hx5
      replace hB5 := hB5.ext hx5
      replace hB6 := hB6.ext hx5
      replace hB8 := hB8.ext hx5
      replace hE := hE.ext hx5
      have hEs : Ext w5 w5 := Upd.refl _
      have hS0 := hx5.size
      have hSB : ∀ b, b < w5.heap.size → b < wr.heap.size ∧ (true = false → (fun x => True) b) := fun b hb => ⟨by rw [hh5] at hb; exact hb, nofun⟩
      have hSA : ∀ b, b < w5.heap.size → (fun x => True) b → b < wr.heap.size ∧ (false = false → (fun x => True) b) := fun b hb h => ⟨by rw [hh5] at hb; exact hb, fun _ => h⟩
      have hSO : ∀ b, b < w.heap.size → b < wr.heap.size ∧ (false = false → (fun x => True) b) := fun b hb => hSA b (Nat.lt_of_lt_of_le hb hE.size) (trivial)
      have hDs := hD
      have hrs := hr
      have hB5s := hB5
      have hB6s := hB6
      have hB8s := hB8
      refine R.move ?_
      refine R.move ?_
      refine R.move ?_
      refine R.addN (m := a) (n := k) rfl rfl (by omega) ?_
      refine R.move ?_
      refine R.callE1 ent43 (places_ _ hD) rfl (fun _ _ hb => Nat.lt_of_lt_of_le hb.1 (Nat.le_trans hS0 hEs.size)) ?_
      rintro v26 w6 hx6 rfl
      replace hD := hD.ext hx6
      replace hr := hr.ext hx6
      replace hB5 := hB5.ext hx6
      replace hB6 := hB6.ext hx6
      replace hB8 := hB8.ext hx6
      replace hE := hE.ext hx6
      replace hEs := hEs.ext hx6
      refine R.remN (m := (a + k)) (n := d.n) rfl rfl (by omega) ?_
      refine R.loadA t103 hB5 rfl rfl rfl (hSA b5 hB5s.lt (trivial)) ?_
      refine R.move ?_
      refine R.callE4 ent74 (part_ _ hD (pl := (a + k) % d.n) (h := h) (k := k) (by have := Nat.mod_lt (a + k) hn; omega)) rfl rfl rfl rfl (fun _ _ hb => Nat.lt_of_lt_of_le hb.1 (Nat.le_trans hS0 hEs.size)) ?_
      rintro v30 w7 hx7 hT30
      have hE0 := hE
      replace hD := hD.ext hx7
      replace hr := hr.ext hx7
      replace hB5 := hB5.ext hx7
      replace hB6 := hB6.ext hx7
      replace hB8 := hB8.ext hx7
      replace hE := hE.ext hx7
      replace hEs := hEs.ext hx7
      have hk30 := optCases (partL d ((a + k) % d.n) h k)
      rcases hk30 with hk30 | ⟨dt30, hk30⟩
      · rw [hk30] at hT30
        replace hT30 : _ = Value.tuple _ := hT30
        subst hT30
        refine R.move ?_
        refine R.extract rfl rfl ?_
        refine R.extract rfl rfl ?_
        refine R.assign ?_
        refine R.assign ?_
        refine R.nil ?_
        refine E.seq ?_
        refine E.seq ?_
        refine E.forget [(0, .pointer (some ⟨b900, 0, none⟩)), (1, .int .i64 ((a : Nat) : Int)), (5, .pointer (some ⟨b5, 0, none⟩)), (6, .pointer (some ⟨b6, 0, none⟩)), (8, .pointer (some ⟨b8, 0, none⟩)), (10, .slice none 0 0), (11, .bool (false)), (16, .int .i64 ((h.total : Nat) : Int)), (17, .int .i64 ((k : Nat) : Int))] ⟨rfl, rfl, rfl, rfl, rfl, rfl, rfl, rfl, rfl, trivial⟩ (fun e => ?_)
        refine E.regionW (fun c x => x < w7.heap.size ∧ (c = false → True)) []  mixed rfl (by kernel_rfl) ?_
        intro w8 hx8 hh8
        replace hD := hD.ext hx8
        replace hr := hr.ext hx8
        replace hB5 := hB5.ext hx8
        replace hB6 := hB6.ext hx8
        replace hB8 := hB8.ext hx8
        replace hE := hE.ext hx8
        have hEs : Ext w8 w8 := Upd.refl _
        have hS0 := hx8.size
        have hSB : ∀ b, b < w8.heap.size → b < w7.heap.size ∧ (true = false → (fun x => True) b) := fun b hb => ⟨by rw [hh8] at hb; exact hb, nofun⟩
        have hSA : ∀ b, b < w8.heap.size → (fun x => True) b → b < w7.heap.size ∧ (false = false → (fun x => True) b) := fun b hb h => ⟨by rw [hh8] at hb; exact hb, fun _ => h⟩
        have hSO : ∀ b, b < w.heap.size → b < w7.heap.size ∧ (false = false → (fun x => True) b) := fun b hb => hSA b (Nat.lt_of_lt_of_le hb hE.size) (trivial)
        have hDs := hD
        have hrs := hr
        have hB5s := hB5
        have hB6s := hB6
        have hB8s := hB8
        refine R.move ?_
        refine R.not rfl ?_
        refine R.move ?_
        refine R.gF rfl rfl rfl ?_
        refine R.gF rfl rfl rfl ?_
        refine R.gF rfl rfl rfl ?_
        refine R.gF rfl rfl rfl ?_
        refine R.gF rfl rfl rfl ?_
        refine R.pickT rfl ?_
        refine R.nil ?_
        refine E.condT rfl ?_
        refine E.seq ?_
        refine E.forget [(6, .pointer (some ⟨b6, 0, none⟩))] ⟨rfl, trivial⟩ (fun e => ?_)
        refine E.regionP rfl ?_
        refine R.build (bld106_e ) rfl ?_
        refine R.storeA t106 hB6 rfl rfl rfl rfl (ones6 rfl rfl rfl rfl rfl rfl) nofun ?_
        intro w9 hU9 hs9 hN9
        replace hD := hD.upT hU9 hB6 (by decide)
        replace hr := hr.upT hU9 hB6 (by decide)
        replace hB5 := hB5.upT hU9 hB6 (by decide)
        replace hB8 := hB8.up hU9 (fun h => ne6_8 h.symm)
        replace hE := hE.own hU9 hb6
        replace hB6 : Blk _ b6 106 #[.int .i64 ((0 : Nat) : Int), .int .i64 ((0 : Nat) : Int), .int .i64 ((0 : Nat) : Int), .int .i64 ((0 : Nat) : Int), .int .i64 ((0 : Nat) : Int), .slice none 0 0] := hN9
        clear hN9
        refine R.assign ?_
        refine R.nil ?_
        refine E.ret ?_
        refine retA1 (.bool (false)) t106 hB6 rfl rfl rfl rfl ⟨_, rfl, ?_⟩
        refine ⟨hE, ?_⟩
        have h9 : findL d a h = none := by unfold findL; rw [foundL_none (foundL_stop hk30) (m := h.total) (by omega)]; simp
        rw [h9]; rfl
      · rw [hk30] at hT30
        obtain ⟨u30, rfl, hS30, hF30⟩ := hT30
        replace hF30 := hF30.mono hE0.size
        refine R.move ?_
        refine R.extract rfl rfl ?_
        refine R.extract rfl rfl ?_
        refine R.assign ?_
        refine R.assign ?_
        refine R.nil ?_
        refine E.seq ?_
        refine E.seq ?_
        refine E.forget [(0, .pointer (some ⟨b900, 0, none⟩)), (1, .int .i64 ((a : Nat) : Int)), (5, .pointer (some ⟨b5, 0, none⟩)), (6, .pointer (some ⟨b6, 0, none⟩)), (8, .pointer (some ⟨b8, 0, none⟩)), (10, u30), (11, .bool (true)), (16, .int .i64 ((h.total : Nat) : Int)), (17, .int .i64 ((k : Nat) : Int))] ⟨rfl, rfl, rfl, rfl, rfl, rfl, rfl, rfl, rfl, trivial⟩ (fun e => ?_)
        refine E.regionW (fun c x => x < w7.heap.size ∧ (c = false → True)) []  mixed rfl (by kernel_rfl) ?_
        intro w10 hx10 hh10
        replace hD := hD.ext hx10
        replace hr := hr.ext hx10
        replace hS30 := hS30.ext hx10
        replace hB5 := hB5.ext hx10
        replace hB6 := hB6.ext hx10
        replace hB8 := hB8.ext hx10
        replace hE := hE.ext hx10
        have hEs : Ext w10 w10 := Upd.refl _
        have hS0 := hx10.size
        have hSB : ∀ b, b < w10.heap.size → b < w7.heap.size ∧ (true = false → (fun x => True) b) := fun b hb => ⟨by rw [hh10] at hb; exact hb, nofun⟩
        have hSA : ∀ b, b < w10.heap.size → (fun x => True) b → b < w7.heap.size ∧ (false = false → (fun x => True) b) := fun b hb h => ⟨by rw [hh10] at hb; exact hb, fun _ => h⟩
        have hSO : ∀ b, b < w.heap.size → b < w7.heap.size ∧ (false = false → (fun x => True) b) := fun b hb => hSA b (Nat.lt_of_lt_of_le hb hE.size) (trivial)
        have hDs := hD
        have hrs := hr
        have hS30s := hS30
        have hB5s := hB5
        have hB6s := hB6
        have hB8s := hB8
        refine R.move ?_
        refine R.not rfl ?_
        refine R.move ?_
        refine R.gT rfl rfl ?_
        refine R.fld fa103_0 rfl ?_
        refine R.gT rfl rfl ?_
        refine R.loadB t3 hB5 rfl rfl rfl (hSA b5 hB5s.lt (trivial)) ?_
        refine R.gT rfl rfl ?_
        refine R.move ?_
        refine R.gT rfl rfl ?_
        refine R.callE1 ent43 (places_ _ hD) rfl (fun _ _ hb => Nat.lt_of_lt_of_le hb.1 (Nat.le_trans hS0 hEs.size)) ?_
        rintro v39 w11 hx11 rfl
        replace hD := hD.ext hx11
        replace hr := hr.ext hx11
        replace hS30 := hS30.ext hx11
        replace hB5 := hB5.ext hx11
        replace hB6 := hB6.ext hx11
        replace hB8 := hB8.ext hx11
        replace hE := hE.ext hx11
        replace hEs := hEs.ext hx11
        refine R.gT rfl rfl ?_
        refine R.gtr (b := decide ((((d.n : Nat) : Int)) < (((h.total : Nat) : Int)))) rfl rfl rfl ?_
        refine R.pickF rfl ?_
        refine R.nil ?_
        refine E.cond (b := decide ((((d.n : Nat) : Int)) < (((h.total : Nat) : Int)))) rfl (fun hc41 => ?_) (fun hc41 => ?_)
        · replace hc41 := dT hc41
          refine E.seq ?_
          refine E.forget [(6, .pointer (some ⟨b6, 0, none⟩))] ⟨rfl, trivial⟩ (fun e => ?_)
          refine E.regionP rfl ?_
          refine R.build (bld106_e ) rfl ?_
          refine R.storeA t106 hB6 rfl rfl rfl rfl (ones6 rfl rfl rfl rfl rfl rfl) nofun ?_
          intro w12 hU12 hs12 hN12
          replace hD := hD.upT hU12 hB6 (by decide)
          replace hr := hr.upT hU12 hB6 (by decide)
          replace hS30 := hS30.upT hU12 hB6 (by decide)
          replace hB5 := hB5.upT hU12 hB6 (by decide)
          replace hB8 := hB8.up hU12 (fun h => ne6_8 h.symm)
          replace hE := hE.own hU12 hb6
          replace hB6 : Blk _ b6 106 #[.int .i64 ((0 : Nat) : Int), .int .i64 ((0 : Nat) : Int), .int .i64 ((0 : Nat) : Int), .int .i64 ((0 : Nat) : Int), .int .i64 ((0 : Nat) : Int), .slice none 0 0] := hN12
          clear hN12
          refine R.assign ?_
          refine R.nil ?_
          refine E.ret ?_
          refine retA1 (.bool (false)) t106 hB6 rfl rfl rfl rfl ⟨_, rfl, ?_⟩
          refine ⟨hE, ?_⟩
          have h9 : findL d a h = none := by unfold findL; rw [if_pos (by omega)]
          rw [h9]; rfl
        · replace hc41 := dF hc41
          refine E.skip ?_
          refine E.regionP rfl ?_
          refine R.fld fa106_2 rfl ?_
          refine R.loadB t55 hB8 rfl rfl rfl trivial ?_
          refine R.move ?_
          refine R.append Try.underlying55 Try.underlying55 t5 (by decide) rfl hr hS30.row u8s_one rfl rfl (by have := foundL_len hf0; have := partL_len hk30; omega) (by have := foundL_len hf0; have := partL_len hk30; omega) nofun ?_
          intro v46 w13 hU13 hS46 hd13
          have hF46 := Fresh.app hE hf hd13
          replace hD := hD.upS hU13 hr (by decide)
          replace hB5 := hB5.upS hU13 hr (by decide)
          replace hB6 := hB6.upS hU13 hr (by decide)
          replace hB8 := hB8.upS hU13 hr (by decide)
          replace hE := hE.app hU13 hf
          replace hS46 := SU8s.app hS46
          have hl46 := foundL_len hf0
          refine R.fld fa106_2 rfl ?_
          refine R.store t55 hB8 rfl rfl (hS46.one) (by simp) nofun ?_
          intro w14 hU14 hs14 hN14
          replace hD := hD.upT hU14 hB8 (by decide)
          replace hS46 := hS46.upT hU14 hB8 (by decide)
          replace hB5 := hB5.upT hU14 hB8 (by decide)
          replace hB6 := hB6.up hU14 (fun h => ne6_8 h)
          replace hE := hE.own hU14 hb8
          replace hB8 : Blk _ b8 106 #[.int .i64 ((h.total : Nat) : Int), .int .i64 ((h.number : Nat) : Int), .int .i64 ((h.life : Nat) : Int), .int .i64 ((h.first : Nat) : Int), .int .i64 ((a : Nat) : Int), v46] := hN14
          clear hN14
          refine R.nil ?_
          refine E.forget [(0, .pointer (some ⟨b900, 0, none⟩)), (1, .int .i64 ((a : Nat) : Int)), (5, .pointer (some ⟨b5, 0, none⟩)), (6, .pointer (some ⟨b6, 0, none⟩)), (8, .pointer (some ⟨b8, 0, none⟩)), (16, .int .i64 ((h.total : Nat) : Int)), (17, .int .i64 ((k : Nat) : Int))] ⟨rfl, rfl, rfl, rfl, rfl, rfl, rfl, trivial⟩ (fun e => ?_)
          refine E.regionP rfl ?_
          refine R.addN (m := k) (n := 1) rfl rfl (by omega) ?_
          refine R.move ?_
          refine R.nil ?_
          exact ⟨h.total - (k + 1), by omega, k + 1, v46, l ++ [dt30], rfl, by omega, foundL_step hf0 hk30, fun _ => by omega, hF46, hD, (by rw [List.flatten_append, List.flatten_cons, List.flatten_nil, List.append_nil]; exact hS46), hB5, hB6, hB8, hE, rfl, rfl, rfl, rfl, rfl, rfl, rfl, trivial⟩
    · replace hc18 := dF hc18
      refine E.exit ?_
      refine E.seq ?_
      refine E.regionP rfl ?_
      refine R.loadA t106 hB8 rfl rfl rfl trivial ?_
      refine R.storeA t106 hB6 rfl rfl rfl rfl (ones6 rfl rfl rfl rfl rfl hr.one) nofun ?_
      intro w15 hU15 hs15 hN15
      replace hD := hD.upT hU15 hB6 (by decide)
      replace hr := hr.upT hU15 hB6 (by decide)
      replace hB5 := hB5.upT hU15 hB6 (by decide)
      replace hB8 := hB8.up hU15 (fun h => ne6_8 h.symm)
      replace hE := hE.own hU15 hb6
      replace hB6 : Blk _ b6 106 #[.int .i64 ((h.total : Nat) : Int), .int .i64 ((h.number : Nat) : Int), .int .i64 ((h.life : Nat) : Int), .int .i64 ((h.first : Nat) : Int), .int .i64 ((a : Nat) : Int), u] := hN15
      clear hN15
      refine R.assign ?_
      refine R.nil ?_
      refine E.ret ?_
      refine retA1 (.bool (true)) t106 hB6 rfl rfl rfl rfl ⟨_, rfl, ?_⟩
      refine ⟨hE, ?_⟩
      obtain rfl : k = h.total := by omega
      have h9 : findL d a h = some l.flatten := by unfold findL; rw [if_neg (by have := hkn ht; omega), hf0]; rfl
      rw [h9]
      exact ⟨u, rfl, hr, hf⟩
end Go.Proofs.Ytlplogplicgfiaa
